/- What is proved here: the Go law FnRows answers true for every input, over the functions that print.sh printed; no condition. -/
import Derived.Test.YtammijioeeiejaaQFnRowsx10
set_option linter.unusedVariables false
set_option linter.unusedSimpArgs false
namespace Go.Proofs.Ytammijioeeiejaa.Pure
open Go.RowKit Go.Proofs.Ytammijioeeiejaa.PFnRows Go.Proofs.YtammijioeeiejaaW.PrintWords Go.Proofs.YtammijioeeiejaaW.PrintLast

theorem Ev_pos {α : Type} {c : Prop} [Decidable c] {a b : Nat → Option α} {r : α} (h : c) (e : Ev a r) : Ev (fun k => if c then a k else b k) r :=
  Ev.congr (fun k => if_pos h) e
theorem Ev_neg {α : Type} {c : Prop} [Decidable c] {a b : Nat → Option α} {r : α} (h : ¬ c) (e : Ev b r) : Ev (fun k => if c then a k else b k) r :=
  Ev.congr (fun k => if_neg h) e
theorem Ev_bindp {α β : Type} {x : Option α} {f : Nat → α → Option β} {a : α} {r : β} (h : x = some a) (e : Ev (fun n => f n a) r) : Ev (fun n => x.bind (f n)) r := by
  subst h
  exact e
theorem Ev_is {α : Type} {x : Option α} {r : α} (h : x = some r) : Ev (fun _ => x) r := ⟨0, fun _ _ => h⟩

theorem w64 {n : Int} (h0 : -9223372036854775808 ≤ n) (h1 : n ≤ 9223372036854775807) : wrap64 n = n := by
  unfold wrap64
  omega

theorem and255 (n : Int) : Go.bits .and .i64 n 255 = n % 256 := by
  have h255 : (BitVec.ofInt 64 255).toNat = 2 ^ 8 - 1 := by decide
  have key : (BitVec.ofInt 64 n &&& BitVec.ofInt 64 255).toNat = (n % ((2 ^ 64 : Nat) : Int)).toNat % 2 ^ 8 := by
    rw [BitVec.toNat_and, BitVec.toNat_ofInt, h255, Nat.and_two_pow_sub_one_eq_mod]
  show IntKind.i64.wrap ((BitVec.ofInt 64 n &&& BitVec.ofInt 64 255).toNat : Nat) = n % 256
  rw [key, IntKind.wrap_i64]
  omega
/-- A draw's function comes to an answer that meets P, and hands on a cursor that lies in the code. -/
def Dr {α : Type} (f : Option (α × Int × Int)) (P : α → Prop) : Prop := ∃ b i h, f = some (b, i, h) ∧ P b ∧ 0 ≤ i ∧ i ≤ 1048576
theorem l1Byte_dr (l : List Int) (hl : l.length ≤ 1048576) (i h : Int) (h0 : 0 ≤ i) (h1 : i ≤ 1048576) : Dr (spec_l1Byte.f l i h) (fun b => 0 ≤ b ∧ b ≤ 255) := by
  unfold spec_l1Byte.f
  by_cases c : i < (l.length : Int)
  · rw [if_pos c, if_pos h0]
    refine ⟨_, _, _, rfl, ?_, ?_⟩
    · rw [and255]; omega
    · rw [w64 (by omega) (by omega)]; omega
  · rw [if_neg c]
    refine ⟨_, _, _, rfl, ?_, h0, h1⟩
    rw [and255]; omega
theorem l1Below_dr (l : List Int) (hl : l.length ≤ 1048576) (i h n : Int) (h0 : 0 ≤ i) (h1 : i ≤ 1048576) (hn : 0 < n) : Dr (spec_l1Below.f l i h n) (fun b => 0 ≤ b ∧ b < n) := by
  unfold spec_l1Below.f
  rw [if_neg (by omega)]
  by_cases c : n ≤ 256
  · rw [if_pos c]
    obtain ⟨b, i1, g1, e, hb, hi0, hi1⟩ := l1Byte_dr l hl i h h0 h1
    rw [e]
    simp only [Option.bind_some]
    rw [if_neg (by omega)]
    refine ⟨_, _, _, rfl, ?_, hi0, hi1⟩
    rw [Int.tmod_eq_emod_of_nonneg (by omega)]
    exact ⟨Int.emod_nonneg _ (by omega), Int.emod_lt_of_pos _ hn⟩
  · rw [if_neg c]
    obtain ⟨b1, i1, g1, e1, hb1, hi1, hj1⟩ := l1Byte_dr l hl i h h0 h1
    rw [e1]
    simp only [Option.bind_some]
    obtain ⟨b2, i2, g2, e2, hb2, hi2, hj2⟩ := l1Byte_dr l hl i1 g1 hi1 hj1
    rw [e2]
    simp only [Option.bind_some]
    obtain ⟨b3, i3, g3, e3, hb3, hi3, hj3⟩ := l1Byte_dr l hl i2 g2 hi2 hj2
    rw [e3]
    simp only [Option.bind_some]
    obtain ⟨b4, i4, g4, e4, hb4, hi4, hj4⟩ := l1Byte_dr l hl i3 g3 hi3 hj3
    rw [e4]
    simp only [Option.bind_some]
    rw [if_neg (by omega)]
    refine ⟨_, _, _, rfl, ?_, hi4, hj4⟩
    have w1 : wrap64 (b1 * 16777216) = b1 * 16777216 := w64 (by omega) (by omega)
    have w2 : wrap64 (b2 * 65536) = b2 * 65536 := w64 (by omega) (by omega)
    have w3 : wrap64 (b3 * 256) = b3 * 256 := w64 (by omega) (by omega)
    rw [w1, w2, w3, w64 (n := b1 * 16777216 + b2 * 65536) (by omega) (by omega), w64 (n := b1 * 16777216 + b2 * 65536 + b3 * 256) (by omega) (by omega), w64 (by omega) (by omega), Int.tmod_eq_emod_of_nonneg (by omega)]
    exact ⟨Int.emod_nonneg _ (by omega), Int.emod_lt_of_pos _ hn⟩
theorem rdOf_mem {α : Type} (d : α) (xs : List α) (i : Int) (h0 : 0 ≤ i) (h1 : i < (xs.length : Int)) : rdOf d xs i ∈ xs := by
  unfold rdOf
  have h : i.toNat < xs.length := by omega
  rw [List.getD_eq_getElem?_getD, List.getElem?_eq_getElem h]
  exact List.getElem_mem h
theorem rd_mem (xs : List Int) (i : Int) (h0 : 0 ≤ i) (h1 : i < (xs.length : Int)) : rd xs i ∈ xs := by
  unfold rd
  have h : i.toNat < xs.length := by omega
  rw [List.getD_eq_getElem?_getD, List.getElem?_eq_getElem h]
  exact List.getElem_mem h

theorem l1Pick_dr (l : List Int) (hl : l.length ≤ 1048576) (i h : Int) (xs : List ByteArray) (h0 : 0 ≤ i) (h1 : i ≤ 1048576) (hn : 0 < xs.length) : Dr (spec_l1Pick.f l i h xs) (fun b => b ∈ xs) := by
  unfold spec_l1Pick.f
  obtain ⟨b, i1, g1, e, hb, hi0, hi1⟩ := l1Below_dr l hl i h (xs.length : Int) h0 h1 (by omega)
  rw [e]
  simp only [Option.bind_some]
  rw [if_pos hb.1, if_pos hb.2]
  exact ⟨_, _, _, rfl, rdOf_mem _ _ _ hb.1 hb.2, hi0, hi1⟩

theorem l1Once_dr (l : List Int) (hl : l.length ≤ 1048576) (i h n : Int) (h0 : 0 ≤ i) (h1 : i ≤ 1048576) (hn : 0 < n) : Dr (spec_l1Once.f l i h n) (fun _ => True) := by
  unfold spec_l1Once.f
  obtain ⟨b, i1, g1, e, hb, hi0, hi1⟩ := l1Below_dr l hl i h n h0 h1 hn
  rw [e]
  exact ⟨_, _, _, rfl, trivial, hi0, hi1⟩

theorem l4Key_dr (l : List Int) (hl : l.length ≤ 1048576) (i h : Int) (h0 : 0 ≤ i) (h1 : i ≤ 1048576) : Dr (spec_l4Key.f l i h) (fun b => b.size ≤ 5) := by
  unfold spec_l4Key.f
  obtain ⟨b, i1, g1, e, hb, hi0, hi1⟩ := l1Pick_dr l hl i h [(⟨#[97]⟩ : ByteArray), (⟨#[98]⟩ : ByteArray), (⟨#[99, 112, 117]⟩ : ByteArray), (⟨#[114, 101, 113]⟩ : ByteArray), (⟨#[120, 95, 49]⟩ : ByteArray), (⟨#[90, 57]⟩ : ByteArray), (⟨#[109, 101, 109]⟩ : ByteArray), (⟨#[113]⟩ : ByteArray)] h0 h1 (by simp)
  rw [e]
  refine ⟨_, _, _, rfl, (show b.size ≤ 5 from ?_), hi0, hi1⟩
  simp only [List.mem_cons, List.not_mem_nil, or_false] at hb
  rcases hb with rfl | rfl | rfl | rfl | rfl | rfl | rfl | rfl <;> decide

theorem l4Any_dr (l : List Int) (hl : l.length ≤ 1048576) (i h : Int) (h0 : 0 ≤ i) (h1 : i ≤ 1048576) : Dr (spec_l4Any.f l i h) (fun b => b.size ≤ 5) := by
  unfold spec_l4Any.f
  obtain ⟨o, i1, g1, e, _, hi0, hi1⟩ := l1Once_dr l hl i h 5 h0 h1 (by omega)
  rw [e]
  simp only [Option.bind_some]
  by_cases c : o = true
  · rw [if_pos c]
    obtain ⟨b, i2, g2, e2, hb, hj0, hj1⟩ := l1Pick_dr l hl i1 g1 [(⟨#[]⟩ : ByteArray), (⟨#[97, 98, 99, 100, 101]⟩ : ByteArray), (⟨#[97, 32, 98]⟩ : ByteArray), (⟨#[97, 58]⟩ : ByteArray), (⟨#[0]⟩ : ByteArray), (⟨#[97, 98, 99, 100]⟩ : ByteArray), (⟨#[255]⟩ : ByteArray)] hi0 hi1 (by simp)
    rw [e2]
    refine ⟨_, _, _, rfl, (show b.size ≤ 5 from ?_), hj0, hj1⟩
    simp only [List.mem_cons, List.not_mem_nil, or_false] at hb
    rcases hb with rfl | rfl | rfl | rfl | rfl | rfl | rfl <;> decide
  · rw [if_neg c]
    obtain ⟨b, i2, g2, e2, hb, hj0, hj1⟩ := l4Key_dr l hl i1 g1 hi0 hi1
    rw [e2]
    exact ⟨_, _, _, rfl, hb, hj0, hj1⟩

theorem l1New_l (l : List Int) (hl : l.length ≤ 1048576) : ∀ (d i : Nat) (x : Int), i + d = l.length → ∃ h, Ev (fun k => spec_l1New.l0 k l x (i : Int)) (l, 0, h) := by
  intro d
  induction d with
  | zero =>
    intro i x hi
    exact ⟨x, Ev.step (fun k => spec_l1New.l0.eq_2 _ _ _ k) (Ev_neg (by omega) (Ev.now _))⟩
  | succ d ih =>
    intro i x hi
    by_cases c : (i : Int) < 4000
    · obtain ⟨h, e⟩ := ih (i + 1) (Go.bits .and .i64 (wrap64 ((wrap64 ((wrap64 (x * 131)) + (wrap64 (rd l (i : Int))))) + 7)) 1073741823) (by omega)
      refine ⟨h, Ev.step (fun k => spec_l1New.l0.eq_2 _ _ _ k) (Ev_pos (by omega) (Ev_pos c (Ev_pos (by omega) ?_)))⟩
      rw [show wrap64 ((i : Int) + 1) = ((i + 1 : Nat) : Int) by rw [w64 (by omega) (by omega)]; omega]
      exact e
    · exact ⟨x, Ev.step (fun k => spec_l1New.l0.eq_2 _ _ _ k) (Ev_pos (by omega) (Ev_neg c (Ev.now _)))⟩
theorem l1New_ev (l : List Int) (hl : l.length ≤ 1048576) : ∃ h, Ev (fun k => spec_l1New.f k l) (l, 0, h) := l1New_l l hl l.length 0 _ (by omega)

theorem l1PickInt_dr (l : List Int) (hl : l.length ≤ 1048576) (i h : Int) (xs : List Int) (h0 : 0 ≤ i) (h1 : i ≤ 1048576) (hn : 0 < xs.length) : Dr (spec_l1PickInt.f l i h xs) (fun b => b ∈ xs) := by
  unfold spec_l1PickInt.f
  obtain ⟨b, i1, g1, e, hb, hi0, hi1⟩ := l1Below_dr l hl i h (xs.length : Int) h0 h1 (by omega)
  rw [e]
  simp only [Option.bind_some]
  rw [if_pos hb.1, if_pos hb.2]
  exact ⟨_, _, _, rfl, rd_mem _ _ hb.1 hb.2, hi0, hi1⟩

abbrev RowT := ByteArray × Int × Int × Bool × Int × Int × Int × Int × Int × Int

/-- May a byte stand in a key? -/
def kb (c : Int) : Bool := decide ((97 ≤ c ∧ c ≤ 122) ∨ (65 ≤ c ∧ c ≤ 90) ∨ (48 ≤ c ∧ c ≤ 57) ∨ c = 95)
def keyOkV (s : ByteArray) : Bool := decide (1 ≤ s.size ∧ s.size ≤ 4 ∧ ∀ j, j < s.size → kb (bt s (j : Nat)) = true)

def timerV (n mn' mx' total dropped : Int) : Bool :=
  if n = 0 then (mn' == 0 && (mx' == 0 && (total == 0 && dropped == 0)))
  else decide (1 ≤ n ∧ n ≤ 3) && (decide (0 ≤ mn' ∧ mn' ≤ mx') && (decide (mx' ≤ 65535) && (decide (mn' * n ≤ total ∧ total ≤ mx' * n) && (decide (0 ≤ dropped ∧ dropped ≤ 65535) && (dropped == 0 || n == 3)))))
def rowTailV (kind sum : Int) (set : Bool) (last n mn' mx' total dropped : Int) : Bool :=
  if kind = 1 then (!set && (last == 0 && (n == 0 && (mn' == 0 && (mx' == 0 && (total == 0 && (dropped == 0))))))) && decide (0 ≤ sum ∧ sum ≤ 281474976710655)
  else if kind = 2 then (sum == 0 && (n == 0 && (mn' == 0 && (mx' == 0 && (total == 0 && (dropped == 0)))))) && (decide (0 ≤ last ∧ last ≤ 65535) && (set || last == 0))
  else if kind = 3 then sum == 0 && (!set && (last == 0 && timerV n mn' mx' total dropped))
  else false
def rowOkV (s : ByteArray) (kind sum : Int) (set : Bool) (last n mn' mx' total dropped : Int) : Bool := keyOkV s && rowTailV kind sum set last n mn' mx' total dropped

def sampledJ (v : Int) (out : Bool) (s : ByteArray) (kind sum : Int) (set : Bool) (last n mn' mx' total dropped : Int) : RowT :=
  if out = true then (s, kind, sum, set, last, n, mn', mx', total, dropped)
  else if n = 3 then (s, kind, sum, set, last, n, mn', mx', total, mn (wrap64 (dropped + 1)) 65535)
  else if n = 0 then (s, kind, sum, set, last, wrap64 (n + 1), mn v v, mx v v, wrap64 (total + v), dropped)
  else (s, kind, sum, set, last, wrap64 (n + 1), mn mn' v, mx mx' v, wrap64 (total + v), dropped)
def sampledV (s : ByteArray) (kind sum : Int) (set : Bool) (last n mn' mx' total dropped : Int) (v : Int) : RowT :=
  if rowOkV s kind sum set last n mn' mx' total dropped = true then
    (if kind = 3 then sampledJ v (!decide (0 ≤ v ∧ v ≤ 65535)) s kind sum set last n mn' mx' total dropped
     else sampledJ v true s kind sum set last n mn' mx' total dropped)
  else sampledJ v true s kind sum set last n mn' mx' total dropped

theorem l1In_eq (a b c : Int) : spec_l1In.f a b c = some (decide (b ≤ a ∧ a ≤ c)) := by
  unfold spec_l1In.f
  by_cases h : b ≤ a <;> simp [h]

theorem l4Byte_eq (c : Int) : spec_l4Byte.f c = some (kb c) := by
  unfold spec_l4Byte.f
  simp only [l1In_eq, Option.bind_some]
  unfold kb
  by_cases h1 : 97 ≤ c ∧ c ≤ 122
  · simp [h1]
  by_cases h2 : 65 ≤ c ∧ c ≤ 90
  · simp [h1, h2]
  by_cases h3 : 48 ≤ c ∧ c ≤ 57
  · simp [h1, h2, h3]
  by_cases h4 : c = 95
  · subst h4; rfl
  · simp [h1, h2, h3, h4]
theorem spec_keyOk_l (s : ByteArray) (hs : s.size ≤ 140737488351232) : ∀ (d i : Nat), i + d = s.size → (∀ j, j < i → kb (bt s (j : Nat)) = true) → Ev (fun k => spec_KeyOk.l0 k s (i : Int)) (keyOkV s) := by
  intro d
  induction d with
  | zero =>
    intro i hi hk
    refine Ev.step (fun k => spec_KeyOk.l0.eq_2 _ _ k) (Ev_neg (by omega) (Ev_bindp (l1In_eq _ _ _) (Ev_is ?_)))
    obtain rfl : i = s.size := by omega
    have e : (1 ≤ (s.size : Int) ∧ (s.size : Int) ≤ 4) ↔ (1 ≤ s.size ∧ s.size ≤ 4 ∧ ∀ j, j < s.size → kb (bt s (j : Nat)) = true) := ⟨fun h => ⟨by omega, by omega, hk⟩, fun h => ⟨by omega, by omega⟩⟩
    unfold keyOkV
    rw [decide_eq_decide.2 e]
  | succ d ih =>
    intro i hi hk
    have b := bt_range s i
    refine Ev.step (fun k => spec_KeyOk.l0.eq_2 _ _ k) (Ev_pos (by omega) (Ev_pos (by omega) (Ev_bindp (l4Byte_eq _) ?_)))
    rw [w64 (n := bt s i) (by omega) (by omega), w64 (n := (i : Int) + 1) (by omega) (by omega)]
    by_cases h : kb (bt s i) = true
    · refine Ev_pos h ?_
      have e3 : ((i : Int) + 1) = ((i + 1 : Nat) : Int) := by omega
      rw [e3]
      refine ih (i + 1) (by omega) fun j hj => ?_
      rcases Nat.lt_or_ge j i with h' | h'
      · exact hk j h'
      · obtain rfl : j = i := by omega
        exact h
    · refine Ev_neg h (Ev_is ?_)
      unfold keyOkV
      congr 1
      symm
      exact decide_eq_false fun hh => h (hh.2.2 i (by omega))
theorem spec_KeyOk_ev (s : ByteArray) (hs : s.size ≤ 140737488351232) : Ev (fun k => spec_KeyOk.f k s) (keyOkV s) := spec_keyOk_l s hs s.size 0 (by omega) (fun j hj => by omega)

theorem l7Timer_eq (s : ByteArray) (kind sum : Int) (set : Bool) (last n mn' mx' total dropped : Int) : spec_l7Timer.f s kind sum set last n mn' mx' total dropped = some (timerV n mn' mx' total dropped) := by
  unfold spec_l7Timer.f timerV
  simp only [l1In_eq, Option.bind_some]
  by_cases h0 : n = 0
  · rw [if_pos h0, if_pos h0]
    by_cases h1 : mn' = 0
    · by_cases h2 : mx' = 0
      · by_cases h3 : total = 0
        · simp [h1, h2, h3]
        · simp [h1, h2, h3]
      · simp [h1, h2]
    · simp [h1]
  · rw [if_neg h0, if_neg h0]
    by_cases h1 : 1 ≤ n ∧ n ≤ 3
    · rw [if_pos (decide_eq_true h1), decide_eq_true h1, Bool.true_and]
      by_cases h2 : 0 ≤ mn' ∧ mn' ≤ mx'
      · rw [if_pos (decide_eq_true h2), decide_eq_true h2, Bool.true_and]
        by_cases h3 : mx' ≤ 65535
        · rw [if_pos h3, decide_eq_true h3, Bool.true_and]
          have e : wrap64 (mn' * n) = mn' * n ∧ wrap64 (mx' * n) = mx' * n := by
            rcases (show n = 1 ∨ n = 2 ∨ n = 3 by omega) with rfl | rfl | rfl <;> exact ⟨w64 (by omega) (by omega), w64 (by omega) (by omega)⟩
          rw [e.1, e.2]
          by_cases h4 : mn' * n ≤ total ∧ total ≤ mx' * n
          · rw [if_pos (decide_eq_true h4), decide_eq_true h4, Bool.true_and]
            by_cases h5 : 0 ≤ dropped ∧ dropped ≤ 65535
            · rw [if_pos (decide_eq_true h5), decide_eq_true h5, Bool.true_and]
              by_cases h6 : dropped = 0
              · simp [h6]
              · simp [h6]
            · rw [if_neg (by simpa using h5), decide_eq_false h5, Bool.false_and]
          · rw [if_neg (by simpa using h4), decide_eq_false h4, Bool.false_and]
        · rw [if_neg h3, decide_eq_false h3, Bool.false_and]
      · rw [if_neg (by simpa using h2), decide_eq_false h2, Bool.false_and]
    · rw [if_neg (by simpa using h1), decide_eq_false h1, Bool.false_and]
theorem spec_RowOk_ev (s : ByteArray) (kind sum : Int) (set : Bool) (last n mn' mx' total dropped : Int) (hs : s.size ≤ 140737488351232) :
    Ev (fun k => spec_RowOk.f k s kind sum set last n mn' mx' total dropped) (rowOkV s kind sum set last n mn' mx' total dropped) := by
  refine Ev.bind (spec_KeyOk_ev s hs) ?_
  unfold rowOkV
  by_cases c : keyOkV s = true
  · refine Ev_pos c (Ev_is ?_)
    rw [c, Bool.true_and]
    unfold rowTailV
    by_cases k1 : kind = 1
    · rw [if_pos k1, if_pos k1]
      by_cases b : (!set && (last == 0 && (n == 0 && (mn' == 0 && (mx' == 0 && (total == 0 && (dropped == 0))))))) = true
      · rw [if_pos b, b, Bool.true_and, l1In_eq]; rfl
      · rw [if_neg b, Bool.eq_false_iff.2 b, Bool.false_and]
    rw [if_neg k1, if_neg k1]
    by_cases k2 : kind = 2
    · rw [if_pos k2, if_pos k2]
      by_cases b : (sum == 0 && (n == 0 && (mn' == 0 && (mx' == 0 && (total == 0 && (dropped == 0)))))) = true
      · rw [if_pos b, b, Bool.true_and, l1In_eq, Option.bind_some]
        by_cases h : 0 ≤ last ∧ last ≤ 65535
        · rw [if_pos (decide_eq_true h), decide_eq_true h, Bool.true_and]
          cases set <;> simp
        · rw [if_neg (by simpa using h), decide_eq_false h, Bool.false_and]
      · rw [if_neg b, Bool.eq_false_iff.2 b, Bool.false_and]
    rw [if_neg k2, if_neg k2]
    by_cases k3 : kind = 3
    · rw [if_pos k3, if_pos k3]
      by_cases h1 : sum = 0
      · rw [if_pos h1]
        cases set
        · rw [if_neg (by decide)]
          by_cases h2 : last = 0
          · rw [if_pos h2, l7Timer_eq]; simp [h1, h2]
          · simp [h2]
        · simp
      · simp [h1]
    · rw [if_neg k3, if_neg k3]
  · exact Ev_neg c (Ev_is (by rw [Bool.eq_false_iff.2 c, Bool.false_and]))

theorem spec_SampledJ_ev (v : Int) (out : Bool) (s : ByteArray) (kind sum : Int) (set : Bool) (last n mn' mx' total dropped : Int) :
    Ev (fun k => spec_Sampled.j0 k v out s kind sum set last n mn' mx' total dropped) (sampledJ v out s kind sum set last n mn' mx' total dropped) := by
  refine Ev.step (f := fun _ => if out = true then (some (s, kind, sum, set, last, n, mn', mx', total, dropped)) else (if n = 3 then (some (s, kind, sum, set, last, n, mn', mx', total, mn (wrap64 (dropped + 1)) 65535)) else (if n = 0 then (some (s, kind, sum, set, last, wrap64 (n + 1), mn v v, mx v v, wrap64 (total + v), dropped)) else (some (s, kind, sum, set, last, wrap64 (n + 1), mn mn' v, mx mx' v, wrap64 (total + v), dropped))))) (fun k => rfl) ?_
  unfold sampledJ
  refine Ev_is ?_
  repeat' split
  all_goals first | rfl | contradiction
theorem spec_Sampled_ev (s : ByteArray) (kind sum : Int) (set : Bool) (last n mn' mx' total dropped v : Int) (hs : s.size ≤ 140737488351232) :
    Ev (fun k => spec_Sampled.f k s kind sum set last n mn' mx' total dropped v) (sampledV s kind sum set last n mn' mx' total dropped v) := by
  refine Ev.bind (spec_RowOk_ev s kind sum set last n mn' mx' total dropped hs) ?_
  by_cases c : rowOkV s kind sum set last n mn' mx' total dropped = true
  · by_cases k1 : kind = 3
    · rw [show sampledV s kind sum set last n mn' mx' total dropped v = sampledJ v (!decide (0 ≤ v ∧ v ≤ 65535)) s kind sum set last n mn' mx' total dropped from by unfold sampledV; rw [if_pos c, if_pos k1]]
      exact Ev_pos c (Ev_pos k1 (Ev_bindp (l1In_eq _ _ _) (spec_SampledJ_ev _ _ _ _ _ _ _ _ _ _ _ _)))
    · rw [show sampledV s kind sum set last n mn' mx' total dropped v = sampledJ v true s kind sum set last n mn' mx' total dropped from by unfold sampledV; rw [if_pos c, if_neg k1]]
      exact Ev_pos c (Ev_neg k1 (spec_SampledJ_ev _ _ _ _ _ _ _ _ _ _ _ _))
  · rw [show sampledV s kind sum set last n mn' mx' total dropped v = sampledJ v true s kind sum set last n mn' mx' total dropped from by unfold sampledV; rw [if_neg c]]
    exact Ev_neg c (spec_SampledJ_ev _ _ _ _ _ _ _ _ _ _ _ _)

theorem l5Val_dr (l : List Int) (hl : l.length ≤ 1048576) (i h : Int) (h0 : 0 ≤ i) (h1 : i ≤ 1048576) : Dr (spec_l5Val.f l i h) (fun _ => True) := by
  unfold spec_l5Val.f
  obtain ⟨b1, i1, g1, e1, _, a1, c1⟩ := l1Below_dr l hl i h 60000 h0 h1 (by omega)
  rw [e1]
  simp only [Option.bind_some]
  obtain ⟨b2, i2, g2, e2, _, a2, c2⟩ := l1Below_dr l hl i1 g1 100 a1 c1 (by omega)
  rw [e2]
  simp only [Option.bind_some]
  obtain ⟨b3, i3, g3, e3, _, a3, c3⟩ := l1PickInt_dr l hl i2 g2 [0, 1, 5, 65535, b1, b2] a2 c2 (by simp)
  rw [e3]
  exact ⟨_, _, _, rfl, trivial, a3, c3⟩
theorem l5Kind_dr (l : List Int) (hl : l.length ≤ 1048576) (i h : Int) (h0 : 0 ≤ i) (h1 : i ≤ 1048576) : Dr (spec_l5Kind.f l i h) (fun _ => True) := by
  unfold spec_l5Kind.f
  obtain ⟨b3, i3, g3, e3, _, a3, c3⟩ := l1PickInt_dr l hl i h [1, 2, 3, 1, 2, 3, 1, 2, 3, 0, 4] h0 h1 (by simp)
  rw [e3]
  exact ⟨_, _, _, rfl, trivial, a3, c3⟩
/-- A row is drawn: its key is short, the cursor lies in the code. -/
def DrR (g : Nat → Option (ByteArray × Int × Int × Bool × Int × Int × Int × Int × Int × Int × Int × Int)) : Prop :=
  ∃ (s : ByteArray) (a b : Int) (c : Bool) (d e f x y z i h : Int), s.size ≤ 5 ∧ 0 ≤ i ∧ i ≤ 1048576 ∧ Ev g (s, a, b, c, d, e, f, x, y, z, i, h)
theorem sampledV_key (s : ByteArray) (kind sum : Int) (set : Bool) (last n mn' mx' total dropped v : Int) : (sampledV s kind sum set last n mn' mx' total dropped v).1 = s := by
  unfold sampledV sampledJ
  repeat' split
  all_goals rfl
theorem l7Row_l (l : List Int) (hl : l.length ≤ 1048576) : ∀ (d : Nat) (i h : Int) (s : ByteArray) (kind sum : Int) (set : Bool) (last n mn' mx' total dropped : Int), d ≤ 6 → s.size ≤ 5 → 0 ≤ i → i ≤ 1048576 →
    DrR (fun k => spec_l7Row.l0 k (d : Int) l i h s kind sum set last n mn' mx' total dropped) := by
  intro d
  induction d with
  | zero =>
    intro i h s kind sum set last n mn' mx' total dropped _ hs h0 h1
    exact ⟨s, kind, sum, set, last, n, mn', mx', total, dropped, i, h, hs, h0, h1, Ev.step (fun k => spec_l7Row.l0.eq_2 _ _ _ _ _ _ _ _ _ _ _ _ _ _ k) (Ev_neg (by omega) (Ev.now _))⟩
  | succ d ih =>
    intro i h s kind sum set last n mn' mx' total dropped hd hs h0 h1
    obtain ⟨b, i1, g1, e1, _, a1, c1⟩ := l5Val_dr l hl i h h0 h1
    have eS := spec_Sampled_ev s kind sum set last n mn' mx' total dropped b (by omega)
    have hk := sampledV_key s kind sum set last n mn' mx' total dropped b
    generalize sampledV s kind sum set last n mn' mx' total dropped b = x at eS hk
    obtain ⟨x0, x1, x2, x3, x4, x5, x6, x7, x8, x9⟩ := x
    have hk' : x0 = s := hk
    obtain ⟨r0, r1, r2, r3, r4, r5, r6, r7, r8, r9, i2, g2, hr, a2, c2, er⟩ := ih i1 g1 x0 x1 x2 x3 x4 x5 x6 x7 x8 x9 (by omega) (by rw [hk']; exact hs) a1 c1
    refine ⟨r0, r1, r2, r3, r4, r5, r6, r7, r8, r9, i2, g2, hr, a2, c2, Ev.step (fun k => spec_l7Row.l0.eq_2 _ _ _ _ _ _ _ _ _ _ _ _ _ _ k) (Ev_pos (by omega) (Ev_bindp e1 (Ev.bind eS ?_)))⟩
    rw [show wrap64 (((d + 1 : Nat) : Int) - 1) = (d : Int) by rw [w64 (by omega) (by omega)]; omega]
    exact er
theorem l7Row_dr (l : List Int) (hl : l.length ≤ 1048576) (i h : Int) (h0 : 0 ≤ i) (h1 : i ≤ 1048576) : DrR (fun k => spec_l7Row.f k l i h) := by
  obtain ⟨s, i1, g1, e1, hs, a1, b1⟩ := l4Key_dr l hl i h h0 h1
  obtain ⟨t, i2, g2, e2, ht, a2, b2⟩ := l1Below_dr l hl i1 g1 3 a1 b1 (by omega)
  by_cases c1 : wrap64 (1 + t) = 1
  · obtain ⟨u, i3, g3, e3, _, a3, b3⟩ := l1Below_dr l hl i2 g2 9999 a2 b2 (by omega)
    obtain ⟨w, i4, g4, e4, _, a4, b4⟩ := l1PickInt_dr l hl i3 g3 [0, 1, 281474976710655, u] a3 b3 (by simp)
    exact ⟨s, _, _, _, _, _, _, _, _, _, _, _, hs, a4, b4, Ev_bindp e1 (Ev_bindp e2 (Ev_pos c1 (Ev_bindp e3 (Ev_bindp e4 (Ev.now _)))))⟩
  by_cases c2 : wrap64 (1 + t) = 2
  · obtain ⟨o, i3, g3, e3, _, a3, b3⟩ := l1Once_dr l hl i2 g2 4 a2 b2 (by omega)
    by_cases c3 : o = true
    · exact ⟨s, _, _, _, _, _, _, _, _, _, _, _, hs, a3, b3, Ev_bindp e1 (Ev_bindp e2 (Ev_neg c1 (Ev_pos c2 (Ev_bindp e3 (Ev_pos c3 (Ev.now _))))))⟩
    · obtain ⟨w, i4, g4, e4, _, a4, b4⟩ := l5Val_dr l hl i3 g3 a3 b3
      exact ⟨s, _, _, _, _, _, _, _, _, _, _, _, hs, a4, b4, Ev_bindp e1 (Ev_bindp e2 (Ev_neg c1 (Ev_pos c2 (Ev_bindp e3 (Ev_neg c3 (Ev_bindp e4 (Ev.now _)))))))⟩
  · obtain ⟨o, i3, g3, e3, ho, a3, b3⟩ := l1Below_dr l hl i2 g2 6 a2 b2 (by omega)
    obtain ⟨q, rfl⟩ : ∃ q : Nat, o = q := ⟨o.toNat, by omega⟩
    obtain ⟨r0, r1, r2, r3, r4, r5, r6, r7, r8, r9, i4, g4, hr, a4, b4, er⟩ := l7Row_l l hl q i3 g3 s (wrap64 (1 + t)) 0 false 0 0 0 0 0 0 (by omega) hs a3 b3
    exact ⟨r0, r1, r2, r3, r4, r5, r6, r7, r8, r9, i4, g4, hr, a4, b4, Ev_bindp e1 (Ev_bindp e2 (Ev_neg c1 (Ev_neg c2 (Ev_bindp e3 er))))⟩
theorem l7Any_dr (l : List Int) (hl : l.length ≤ 1048576) (i h : Int) (h0 : 0 ≤ i) (h1 : i ≤ 1048576) : DrR (fun k => spec_l7Any.f k l i h) := by
  obtain ⟨r0, r1, r2, r3, r4, r5, r6, r7, r8, r9, i1, g1, hr, a1, b1, er⟩ := l7Row_dr l hl i h h0 h1
  obtain ⟨t, i2, g2, e2, ht, a2, b2⟩ := l1Below_dr l hl i1 g1 16 a1 b1 (by omega)
  by_cases c0 : t = 0
  · obtain ⟨w, i3, g3, e3, hw, a3, b3⟩ := l4Any_dr l hl i2 g2 a2 b2
    exact ⟨w, _, _, _, _, _, _, _, _, _, _, _, hw, a3, b3, Ev.bind er (Ev_bindp e2 (Ev_pos c0 (Ev_bindp e3 (Ev.now _))))⟩
  by_cases c1 : t = 1
  · obtain ⟨w, i3, g3, e3, _, a3, b3⟩ := l5Kind_dr l hl i2 g2 a2 b2
    exact ⟨r0, _, _, _, _, _, _, _, _, _, _, _, hr, a3, b3, Ev.bind er (Ev_bindp e2 (Ev_neg c0 (Ev_pos c1 (Ev_bindp e3 (Ev.now _)))))⟩
  by_cases c2 : t = 2
  · exact ⟨r0, _, _, _, _, _, _, _, _, _, _, _, hr, a2, b2, Ev.bind er (Ev_bindp e2 (Ev_neg c0 (Ev_neg c1 (Ev_pos c2 (Ev.now _)))))⟩
  by_cases c3 : t = 3
  · obtain ⟨w, i3, g3, e3, _, a3, b3⟩ := l1PickInt_dr l hl i2 g2 [(-1), 281474976710656, 1] a2 b2 (by simp)
    exact ⟨r0, _, _, _, _, _, _, _, _, _, _, _, hr, a3, b3, Ev.bind er (Ev_bindp e2 (Ev_neg c0 (Ev_neg c1 (Ev_neg c2 (Ev_pos c3 (Ev_bindp e3 (Ev.now _)))))))⟩
  by_cases c4 : t = 4
  · obtain ⟨w, i3, g3, e3, _, a3, b3⟩ := l1PickInt_dr l hl i2 g2 [(-1), 65536, 1] a2 b2 (by simp)
    exact ⟨r0, _, _, _, _, _, _, _, _, _, _, _, hr, a3, b3, Ev.bind er (Ev_bindp e2 (Ev_neg c0 (Ev_neg c1 (Ev_neg c2 (Ev_neg c3 (Ev_pos c4 (Ev_bindp e3 (Ev.now _))))))))⟩
  by_cases c5 : t = 5
  · exact ⟨r0, _, _, _, _, _, _, _, _, _, _, _, hr, a2, b2, Ev.bind er (Ev_bindp e2 (Ev_neg c0 (Ev_neg c1 (Ev_neg c2 (Ev_neg c3 (Ev_neg c4 (Ev_pos c5 (Ev.now _))))))))⟩
  by_cases c6 : t = 6
  · obtain ⟨w, i3, g3, e3, _, a3, b3⟩ := l1PickInt_dr l hl i2 g2 [(-1), 1, 65535, 65536] a2 b2 (by simp)
    exact ⟨r0, _, _, _, _, _, _, _, _, _, _, _, hr, a3, b3, Ev.bind er (Ev_bindp e2 (Ev_neg c0 (Ev_neg c1 (Ev_neg c2 (Ev_neg c3 (Ev_neg c4 (Ev_neg c5 (Ev_pos c6 (Ev_bindp e3 (Ev.now _))))))))))⟩
  · exact ⟨r0, _, _, _, _, _, _, _, _, _, _, _, hr, a2, b2, Ev.bind er (Ev_bindp e2 (Ev_neg c0 (Ev_neg c1 (Ev_neg c2 (Ev_neg c3 (Ev_neg c4 (Ev_neg c5 (Ev_neg c6 (Ev.now _)))))))))⟩
/-- A row and a number are drawn: the key is short. -/
def DrV (g : Nat → Option (ByteArray × Int × Int × Bool × Int × Int × Int × Int × Int × Int × Int)) : Prop :=
  ∃ (s : ByteArray) (a b : Int) (c : Bool) (d e f x y z v : Int), s.size ≤ 5 ∧ Ev g (s, a, b, c, d, e, f, x, y, z, v)
theorem DrawSampled_l (l : List Int) (hl : l.length ≤ 1048576) : ∀ (d : Nat) (i h : Int) (s : ByteArray) (kind sum : Int) (set : Bool) (last n mn' mx' total dropped : Int), d ≤ 6 → s.size ≤ 5 → 0 ≤ i → i ≤ 1048576 →
    DrV (fun k => spec_DrawSampled.l0 k (d : Int) l i h s kind sum set last n mn' mx' total dropped) := by
  intro d
  induction d with
  | zero =>
    intro i h s kind sum set last n mn' mx' total dropped _ hs h0 h1
    obtain ⟨u, i3, g3, e3, _, a3, b3⟩ := l1Below_dr l hl i h 900 h0 h1 (by omega)
    obtain ⟨w, i4, g4, e4, _, a4, b4⟩ := l1PickInt_dr l hl i3 g3 [0, 5, 65535, 65536, (-1), u] a3 b3 (by simp)
    exact ⟨s, kind, sum, set, last, n, mn', mx', total, dropped, w, hs, Ev.step (fun k => spec_DrawSampled.l0.eq_2 _ _ _ _ _ _ _ _ _ _ _ _ _ _ k) (Ev_neg (by omega) (Ev_bindp e3 (Ev_bindp e4 (Ev.now _))))⟩
  | succ d ih =>
    intro i h s kind sum set last n mn' mx' total dropped hd hs h0 h1
    obtain ⟨b, i1, g1, e1, _, a1, c1⟩ := l5Val_dr l hl i h h0 h1
    have eS := spec_Sampled_ev s kind sum set last n mn' mx' total dropped b (by omega)
    have hk := sampledV_key s kind sum set last n mn' mx' total dropped b
    generalize sampledV s kind sum set last n mn' mx' total dropped b = x at eS hk
    obtain ⟨x0, x1, x2, x3, x4, x5, x6, x7, x8, x9⟩ := x
    have hk' : x0 = s := hk
    obtain ⟨r0, r1, r2, r3, r4, r5, r6, r7, r8, r9, v, hr, er⟩ := ih i1 g1 x0 x1 x2 x3 x4 x5 x6 x7 x8 x9 (by omega) (by rw [hk']; exact hs) a1 c1
    refine ⟨r0, r1, r2, r3, r4, r5, r6, r7, r8, r9, v, hr, Ev.step (fun k => spec_DrawSampled.l0.eq_2 _ _ _ _ _ _ _ _ _ _ _ _ _ _ k) (Ev_pos (by omega) (Ev_bindp e1 (Ev.bind eS ?_)))⟩
    rw [show wrap64 (((d + 1 : Nat) : Int) - 1) = (d : Int) by rw [w64 (by omega) (by omega)]; omega]
    exact er
theorem DrawSampled_dr (l : List Int) (hl : l.length ≤ 1048576) : DrV (fun k => spec_DrawSampled.f k l) := by
  obtain ⟨h, e⟩ := l1New_ev l hl
  obtain ⟨r0, r1, r2, r3, r4, r5, r6, r7, r8, r9, i1, g1, hr, a1, b1, er⟩ := l7Any_dr l hl 0 h (by omega) (by omega)
  obtain ⟨o, i2, g2, e2, _, a2, b2⟩ := l1Once_dr l hl i1 g1 2 a1 b1 (by omega)
  by_cases c : o = true
  · obtain ⟨t, i3, g3, e3, ht, a3, b3⟩ := l1Below_dr l hl i2 g2 5 a2 b2 (by omega)
    obtain ⟨q, rfl⟩ : ∃ q : Nat, t = q := ⟨t.toNat, by omega⟩
    obtain ⟨x0, x1, x2, x3, x4, x5, x6, x7, x8, x9, v, hx, ex⟩ := DrawSampled_l l hl q i3 g3 (⟨#[97]⟩ : ByteArray) 3 0 false 0 0 0 0 0 0 (by omega) (by decide) a3 b3
    exact ⟨x0, x1, x2, x3, x4, x5, x6, x7, x8, x9, v, hx, Ev.bind e (Ev.bind er (Ev_bindp e2 (Ev_pos c (Ev_bindp e3 ex))))⟩
  · obtain ⟨u, i3, g3, e3, _, a3, b3⟩ := l1Below_dr l hl i2 g2 900 a2 b2 (by omega)
    obtain ⟨w, i4, g4, e4, _, a4, b4⟩ := l1PickInt_dr l hl i3 g3 [0, 5, 65535, 65536, (-1), u] a3 b3 (by simp)
    exact ⟨r0, r1, r2, r3, r4, r5, r6, r7, r8, r9, w, hr, Ev.bind e (Ev.bind er (Ev_bindp e2 (Ev_neg c (Ev_bindp e3 (Ev_bindp e4 (Ev.now _))))))⟩
theorem DrawCounted_dr (l : List Int) (hl : l.length ≤ 1048576) : DrV (fun k => spec_DrawCounted.f k l) := by
  obtain ⟨h, e⟩ := l1New_ev l hl
  obtain ⟨r0, r1, r2, r3, r4, r5, r6, r7, r8, r9, i1, g1, hr, a1, b1, er⟩ := l7Any_dr l hl 0 h (by omega) (by omega)
  obtain ⟨o, i2, g2, e2, _, a2, b2⟩ := l1Once_dr l hl i1 g1 2 a1 b1 (by omega)
  by_cases c : o = true
  · obtain ⟨t, i3, g3, e3, ht, a3, b3⟩ := l1PickInt_dr l hl i2 g2 [0, 281474976710655, 7] a2 b2 (by simp)
    obtain ⟨w, i4, g4, e4, _, a4, b4⟩ := l1PickInt_dr l hl i3 g3 [0, 5, 65535, 65536, (-1)] a3 b3 (by simp)
    exact ⟨(⟨#[97]⟩ : ByteArray), 1, t, false, 0, 0, 0, 0, 0, 0, w, by decide, Ev.bind e (Ev.bind er (Ev_bindp e2 (Ev_pos c (Ev_bindp e3 (Ev_bindp e4 (Ev.now _))))))⟩
  · obtain ⟨w, i4, g4, e4, _, a4, b4⟩ := l1PickInt_dr l hl i2 g2 [0, 5, 65535, 65536, (-1)] a2 b2 (by simp)
    exact ⟨r0, r1, r2, r3, r4, r5, r6, r7, r8, r9, w, hr, Ev.bind e (Ev.bind er (Ev_bindp e2 (Ev_neg c (Ev_bindp e4 (Ev.now _)))))⟩

theorem timerV_cases {n mn' mx' total dropped : Int} (h : timerV n mn' mx' total dropped = true) :
    (n = 0 ∧ mn' = 0 ∧ mx' = 0 ∧ total = 0 ∧ dropped = 0) ∨ (n ≠ 0 ∧ 1 ≤ n ∧ n ≤ 3 ∧ 0 ≤ mn' ∧ mn' ≤ mx' ∧ mx' ≤ 65535 ∧ mn' * n ≤ total ∧ total ≤ mx' * n ∧ 0 ≤ dropped ∧ dropped ≤ 65535 ∧ (dropped = 0 ∨ n = 3)) := by
  unfold timerV at h
  by_cases c : n = 0
  · rw [if_pos c] at h
    simp only [Bool.and_eq_true, beq_iff_eq] at h
    exact Or.inl ⟨c, h.1, h.2.1, h.2.2.1, h.2.2.2⟩
  · rw [if_neg c] at h
    simp only [Bool.and_eq_true, Bool.or_eq_true, beq_iff_eq, decide_eq_true_eq] at h
    obtain ⟨⟨h1, h2⟩, ⟨h3, h4⟩, h5, ⟨h6, h7⟩, ⟨h8, h9⟩, h10⟩ := h
    exact Or.inr ⟨c, h1, h2, h3, h4, h5, h6, h7, h8, h9, h10⟩
theorem timerV_mk {n mn' mx' total dropped : Int} (h : n ≠ 0 ∧ 1 ≤ n ∧ n ≤ 3 ∧ 0 ≤ mn' ∧ mn' ≤ mx' ∧ mx' ≤ 65535 ∧ mn' * n ≤ total ∧ total ≤ mx' * n ∧ 0 ≤ dropped ∧ dropped ≤ 65535 ∧ (dropped = 0 ∨ n = 3)) : timerV n mn' mx' total dropped = true := by
  unfold timerV
  rw [if_neg h.1]
  simp only [Bool.and_eq_true, Bool.or_eq_true, beq_iff_eq, decide_eq_true_eq]
  obtain ⟨_, h1, h2, h3, h4, h5, h6, h7, h8, h9, h10⟩ := h
  exact ⟨⟨h1, h2⟩, ⟨h3, h4⟩, h5, ⟨h6, h7⟩, ⟨h8, h9⟩, h10⟩
theorem rowOkV_timer {s : ByteArray} {sum : Int} {set : Bool} {last n mn' mx' total dropped : Int} : rowOkV s 3 sum set last n mn' mx' total dropped = true ↔ (keyOkV s = true ∧ sum = 0 ∧ set = false ∧ last = 0 ∧ timerV n mn' mx' total dropped = true) := by
  unfold rowOkV rowTailV
  rw [if_neg (by decide), if_neg (by decide), if_pos rfl]
  simp only [Bool.and_eq_true, beq_iff_eq, Bool.not_eq_true']
theorem sampled_law {s : ByteArray} {kind sum : Int} {set : Bool} {last n mn' mx' total dropped v : Int} (hr : rowOkV s kind sum set last n mn' mx' total dropped = true) (hk : kind = 3) (h0 : 0 ≤ v) (h1 : v ≤ 65535)
    {x0 : ByteArray} {x1 x2 : Int} {x3 : Bool} {x4 x5 x6 x7 x8 x9 : Int} (hx : sampledV s kind sum set last n mn' mx' total dropped v = (x0, x1, x2, x3, x4, x5, x6, x7, x8, x9)) :
    rowOkV x0 x1 x2 x3 x4 x5 x6 x7 x8 x9 = true ∧ wrap64 (x5 + x9) = mn (wrap64 (wrap64 (n + dropped) + 1)) 65538 ∧ (x5 > n → x6 ≤ v ∧ v ≤ x7 ∧ x8 = wrap64 (total + v)) := by
  subst hk
  unfold sampledV at hx
  rw [if_pos hr, if_pos rfl, show (!decide (0 ≤ v ∧ v ≤ 65535)) = false by rw [decide_eq_true ⟨h0, h1⟩]; rfl] at hx
  unfold sampledJ at hx
  rw [if_neg (by decide)] at hx
  obtain ⟨k1, k2, k3, k4, kt⟩ := rowOkV_timer.1 hr
  rcases timerV_cases kt with ⟨rfl, rfl, rfl, rfl, rfl⟩ | ⟨q0, q1, q2, q3, q4, q5, q6, q7, q8, q9, q10⟩
  · rw [if_neg (by decide), if_pos rfl] at hx
    simp only [Prod.mk.injEq] at hx
    obtain ⟨rfl, rfl, rfl, rfl, rfl, rfl, rfl, rfl, rfl, rfl⟩ := hx
    have w1 : wrap64 ((0 : Int) + 1) = 1 := w64 (n := 0 + 1) (by omega) (by omega)
    have w5 : wrap64 ((1 : Int) + 0) = 1 := w64 (n := 1 + 0) (by omega) (by omega)
    have w6 : wrap64 ((0 : Int) + 0) = 0 := w64 (n := 0 + 0) (by omega) (by omega)
    have w2 : wrap64 (0 + v) = v := by rw [w64 (by omega) (by omega)]; omega
    have m1 : mn v v = v := by unfold mn; split <;> rfl
    have m2 : mx v v = v := by unfold mx; split <;> rfl
    rw [w1, w2, m1, m2]
    refine ⟨rowOkV_timer.2 ⟨k1, k2, k3, k4, timerV_mk ⟨by decide, by decide, by decide, h0, by omega, h1, by omega, by omega, by decide, by decide, Or.inl rfl⟩⟩, by rw [w5, w6, w1]; decide, fun _ => ⟨Int.le_refl _, Int.le_refl _, rfl⟩⟩
  · by_cases c3 : n = 3
    · subst c3
      rw [if_pos rfl] at hx
      simp only [Prod.mk.injEq] at hx
      obtain ⟨rfl, rfl, rfl, rfl, rfl, rfl, rfl, rfl, rfl, rfl⟩ := hx
      have w1 : wrap64 (dropped + 1) = dropped + 1 := w64 (by omega) (by omega)
      have w2 : wrap64 (3 + dropped) = 3 + dropped := w64 (by omega) (by omega)
      have w3 : wrap64 (3 + dropped + 1) = 3 + dropped + 1 := w64 (by omega) (by omega)
      rw [w1, w2, w3]
      have m1 : 0 ≤ mn (dropped + 1) 65535 ∧ mn (dropped + 1) 65535 ≤ 65535 ∧ 3 + mn (dropped + 1) 65535 = mn (3 + dropped + 1) 65538 := by unfold mn; omega
      refine ⟨rowOkV_timer.2 ⟨k1, k2, k3, k4, timerV_mk ⟨q0, q1, q2, q3, q4, q5, q6, q7, m1.1, m1.2.1, Or.inr rfl⟩⟩, ?_, fun h => absurd h (by omega)⟩
      rw [w64 (by omega) (by omega)]
      exact m1.2.2
    · rw [if_neg c3, if_neg q0] at hx
      simp only [Prod.mk.injEq] at hx
      obtain ⟨rfl, rfl, rfl, rfl, rfl, rfl, rfl, rfl, rfl, rfl⟩ := hx
      obtain rfl : dropped = 0 := by rcases q10 with q | q; exact q; exact absurd q c3
      have w1 : wrap64 (n + 1) = n + 1 := w64 (by omega) (by omega)
      have ht : 0 ≤ total ∧ total ≤ 131070 := by
        have : n = 1 ∨ n = 2 := by omega
        rcases this with rfl | rfl <;> omega
      have w2 : wrap64 (total + v) = total + v := w64 (by omega) (by omega)
      have w3 : wrap64 (n + 0) = n := by rw [w64 (by omega) (by omega)]; omega
      rw [w1, w2, w3, w1]
      refine ⟨rowOkV_timer.2 ⟨k1, k2, k3, k4, timerV_mk ⟨by omega, by omega, by omega, by unfold mn; omega, by unfold mn mx; omega, by unfold mx; omega, ?_, ?_, by decide, by decide, Or.inl rfl⟩⟩, ?_, fun _ => ⟨by unfold mn; omega, by unfold mx; omega, rfl⟩⟩
      · have : n = 1 ∨ n = 2 := by omega
        rcases this with rfl | rfl <;> (unfold mn; omega)
      · have : n = 1 ∨ n = 2 := by omega
        rcases this with rfl | rfl <;> (unfold mx; omega)
      · rw [w64 (by omega) (by omega)]; unfold mn; omega
theorem sampled_same {s : ByteArray} {kind sum : Int} {set : Bool} {last n mn' mx' total dropped v : Int} (h : ¬ (rowOkV s kind sum set last n mn' mx' total dropped = true ∧ kind = 3 ∧ 0 ≤ v ∧ v ≤ 65535)) :
    sampledV s kind sum set last n mn' mx' total dropped v = (s, kind, sum, set, last, n, mn', mx', total, dropped) := by
  unfold sampledV
  by_cases c : rowOkV s kind sum set last n mn' mx' total dropped = true
  · rw [if_pos c]
    by_cases k : kind = 3
    · rw [if_pos k, show (!decide (0 ≤ v ∧ v ≤ 65535)) = true by rw [decide_eq_false (fun q => h ⟨c, k, q.1, q.2⟩)]; rfl]
      unfold sampledJ; rw [if_pos rfl]
    · rw [if_neg k]; unfold sampledJ; rw [if_pos rfl]
  · rw [if_neg c]; unfold sampledJ; rw [if_pos rfl]

def countedV (s : ByteArray) (kind sum : Int) (set : Bool) (last n mn' mx' total dropped : Int) (v : Int) : RowT :=
  if rowOkV s kind sum set last n mn' mx' total dropped = true then
    (if kind = 1 then (if (decide (0 ≤ v ∧ v ≤ 65535)) = true then (s, kind, Int.tmod (wrap64 (sum + v)) 281474976710656, set, last, n, mn', mx', total, dropped) else (s, kind, sum, set, last, n, mn', mx', total, dropped))
     else (s, kind, sum, set, last, n, mn', mx', total, dropped))
  else (s, kind, sum, set, last, n, mn', mx', total, dropped)

theorem rowOk_word {s : ByteArray} {sum : Int} {set : Bool} {last n mn' mx' total dropped : Int} (h : rowOkV s 1 sum set last n mn' mx' total dropped = true) : 0 ≤ sum ∧ sum ≤ 281474976710655 := by
  unfold rowOkV rowTailV at h
  rw [if_pos rfl, Bool.and_eq_true, Bool.and_eq_true] at h
  exact of_decide_eq_true h.2.2

theorem counted_law (s : ByteArray) (kind sum : Int) (set : Bool) (last n mn' mx' total dropped v : Int) :
    ∃ y : Int, countedV s kind sum set last n mn' mx' total dropped v = (s, kind, y, set, last, n, mn', mx', total, dropped) ∧ (y = sum ∨ rowOkV s kind y set last n mn' mx' total dropped = true ∧ y = Int.tmod (wrap64 (sum + v)) 281474976710656) := by
  unfold countedV
  by_cases c : rowOkV s kind sum set last n mn' mx' total dropped = true
  · rw [if_pos c]
    by_cases k : kind = 1
    · rw [if_pos k]
      by_cases q : 0 ≤ v ∧ v ≤ 65535
      · rw [if_pos (decide_eq_true q)]
        subst k
        have hw := rowOk_word c
        have w1 : wrap64 (sum + v) = sum + v := w64 (by omega) (by omega)
        refine ⟨_, rfl, Or.inr ⟨?_, rfl⟩⟩
        rw [w1, Int.tmod_eq_emod_of_nonneg (by omega)]
        have e0 : 0 ≤ (sum + v) % 281474976710656 := Int.emod_nonneg _ (by omega)
        have e1 : (sum + v) % 281474976710656 < 281474976710656 := Int.emod_lt_of_pos _ (by omega)
        unfold rowOkV rowTailV at c ⊢
        rw [if_pos rfl] at c ⊢
        rw [Bool.and_eq_true, Bool.and_eq_true] at c ⊢
        exact ⟨c.1, c.2.1, decide_eq_true ⟨e0, by omega⟩⟩
      · rw [if_neg (by simpa using q)]; exact ⟨sum, rfl, Or.inl rfl⟩
    · rw [if_neg k]; exact ⟨sum, rfl, Or.inl rfl⟩
  · rw [if_neg c]; exact ⟨sum, rfl, Or.inl rfl⟩

theorem within_eq (a b c : Int) : impl_within.f a b c = some (decide (b ≤ a ∧ a ≤ c)) := by
  unfold impl_within.f
  by_cases h : b ≤ a <;> simp [h]

theorem impl_keyOk_step (s : ByteArray) (i : Nat) (h1 : (i : Int) < (s.size : Int)) (k : Nat) : impl_KeyOk.l0 (k + 1) s (s.size : Int) (i : Int) = if kb (bt s i) = true then impl_KeyOk.l0 k s (s.size : Int) (wrap64 ((i : Int) + 1)) else some false := by
  simp only [impl_KeyOk.l0]
  rw [if_pos h1, if_pos (by omega), if_pos h1]
  unfold kb
  generalize bt s (i : Int) = c
  generalize impl_KeyOk.l0 k s (s.size : Int) (wrap64 ((i : Int) + 1)) = X
  by_cases a1 : 97 ≤ c <;> by_cases a2 : c ≤ 122 <;> by_cases a3 : 65 ≤ c <;> by_cases a4 : c ≤ 90 <;> by_cases a5 : 48 ≤ c <;> by_cases a6 : c ≤ 57 <;> by_cases a7 : c = 95 <;> first | (exfalso; omega) | simp [a1, a2, a3, a4, a5, a6, a7]
theorem impl_keyOk_l (s : ByteArray) (hs : s.size ≤ 140737488351232) : ∀ (d i : Nat), i + d = s.size → (∀ j, j < i → kb (bt s (j : Nat)) = true) → Ev (fun k => impl_KeyOk.l0 k s (s.size : Int) (i : Int)) (keyOkV s) := by
  intro d
  induction d with
  | zero =>
    intro i hi hk
    refine Ev.step (fun k => impl_KeyOk.l0.eq_2 _ _ _ k) (Ev_neg (by omega) (Ev_bindp (within_eq _ _ _) (Ev_is ?_)))
    obtain rfl : i = s.size := by omega
    have e : (1 ≤ (s.size : Int) ∧ (s.size : Int) ≤ 4) ↔ (1 ≤ s.size ∧ s.size ≤ 4 ∧ ∀ j, j < s.size → kb (bt s (j : Nat)) = true) := ⟨fun h => ⟨by omega, by omega, hk⟩, fun h => ⟨by omega, by omega⟩⟩
    unfold keyOkV
    rw [decide_eq_decide.2 e]
  | succ d ih =>
    intro i hi hk
    refine Ev.step (fun k => impl_keyOk_step s i (by omega) k) ?_
    rw [w64 (n := (i : Int) + 1) (by omega) (by omega)]
    by_cases h : kb (bt s i) = true
    · refine Ev_pos h ?_
      have e3 : ((i : Int) + 1) = ((i + 1 : Nat) : Int) := by omega
      rw [e3]
      refine ih (i + 1) (by omega) fun j hj => ?_
      rcases Nat.lt_or_ge j i with h' | h'
      · exact hk j h'
      · obtain rfl : j = i := by omega
        exact h
    · refine Ev_neg h (Ev_is ?_)
      unfold keyOkV
      congr 1
      symm
      exact decide_eq_false fun hh => h (hh.2.2 i (by omega))
theorem impl_KeyOk_ev (s : ByteArray) (hs : s.size ≤ 140737488351232) : Ev (fun k => impl_KeyOk.f k s) (keyOkV s) := impl_keyOk_l s hs s.size 0 (by omega) (fun j hj => by omega)

theorem isWord_in (n : Int) : impl_isWord.f n = some (decide (0 ≤ n ∧ n ≤ 281474976710655)) := by
  unfold impl_isWord.f
  rw [within_eq]; rfl

theorem impl_RowOk_ev (s : ByteArray) (kind sum : Int) (set : Bool) (last n mn' mx' total dropped : Int) (hs : s.size ≤ 140737488351232) :
    Ev (fun k => impl_RowOk.f k s kind sum set last n mn' mx' total dropped) (rowOkV s kind sum set last n mn' mx' total dropped) := by
  refine Ev.bind (impl_KeyOk_ev s hs) ?_
  unfold rowOkV
  by_cases c : keyOkV s = true
  · refine Ev_pos c (Ev_is ?_)
    rw [c, Bool.true_and]
    unfold rowTailV
    by_cases k1 : kind = 1
    · rw [if_pos k1, if_pos k1]
      by_cases b : (!set && (last == 0 && (n == 0 && (mn' == 0 && (mx' == 0 && (total == 0 && (dropped == 0))))))) = true
      · rw [if_pos b, b, Bool.true_and, isWord_in]; rfl
      · rw [if_neg b, Bool.eq_false_iff.2 b, Bool.false_and]
    rw [if_neg k1, if_neg k1]
    by_cases k2 : kind = 2
    · rw [if_pos k2, if_pos k2]
      by_cases b : (sum == 0 && (n == 0 && (mn' == 0 && (mx' == 0 && (total == 0 && (dropped == 0)))))) = true
      · rw [if_pos b, b, Bool.true_and, within_eq, Option.bind_some]
        by_cases h : 0 ≤ last ∧ last ≤ 65535
        · rw [if_pos (decide_eq_true h), decide_eq_true h, Bool.true_and]
          cases set <;> simp
        · rw [if_neg (by simpa using h), decide_eq_false h, Bool.false_and]
      · rw [if_neg b, Bool.eq_false_iff.2 b, Bool.false_and]
    rw [if_neg k2, if_neg k2]
    by_cases k3 : kind = 3
    · rw [if_pos k3, if_pos k3]
      by_cases h1 : sum = 0
      · cases set
        · by_cases h2 : last = 0
          · rw [if_neg (by simp [h1, h2])]
            rw [show (sum == 0 && (!false && (last == 0 && timerV n mn' mx' total dropped))) = timerV n mn' mx' total dropped by simp [h1, h2]]
            unfold timerV
            by_cases h0 : n = 0
            · rw [if_pos h0, if_pos h0]; simp [h0, h1, h2]
            · rw [if_neg h0, if_neg h0]
              simp only [within_eq, Option.bind_some]
              by_cases q1 : 1 ≤ n ∧ n ≤ 3
              · rw [if_pos (decide_eq_true q1), decide_eq_true q1, Bool.true_and]
                by_cases q2 : 0 ≤ mn' ∧ mn' ≤ mx'
                · rw [if_pos (decide_eq_true q2), decide_eq_true q2, Bool.true_and]
                  by_cases q3 : mx' ≤ 65535
                  · rw [if_pos q3, decide_eq_true q3, Bool.true_and]
                    have e : wrap64 (n * mn') = mn' * n ∧ wrap64 (n * mx') = mx' * n := by
                      rcases (show n = 1 ∨ n = 2 ∨ n = 3 by omega) with rfl | rfl | rfl <;> exact ⟨by rw [w64 (by omega) (by omega)]; omega, by rw [w64 (by omega) (by omega)]; omega⟩
                    rw [e.1, e.2]
                    by_cases q4 : mn' * n ≤ total ∧ total ≤ mx' * n
                    · rw [if_pos (decide_eq_true q4), decide_eq_true q4, Bool.true_and]
                      by_cases q5 : 0 ≤ dropped ∧ dropped ≤ 65535
                      · rw [if_pos (decide_eq_true q5), decide_eq_true q5, Bool.true_and]
                        by_cases q6 : n = 3
                        · simp [q6]
                        · simp [q6]
                      · rw [if_neg (by simpa using q5), decide_eq_false q5, Bool.false_and]
                    · rw [if_neg (by simpa using q4), decide_eq_false q4, Bool.false_and]
                  · rw [if_neg q3, decide_eq_false q3, Bool.false_and]
                · rw [if_neg (by simpa using q2), decide_eq_false q2, Bool.false_and]
              · rw [if_neg (by simpa using q1), decide_eq_false q1, Bool.false_and]
          · rw [if_pos (by simp [h2])]; simp [h2]
        · rw [if_pos (by simp)]; simp
      · rw [if_pos (by simp [h1])]; simp [h1]
    · rw [if_neg k3, if_neg k3]
  · exact Ev_neg c (Ev_is (by rw [Bool.eq_false_iff.2 c, Bool.false_and]))

theorem impl_SampledJ_ev (v : Int) (out : Bool) (s : ByteArray) (kind sum : Int) (set : Bool) (last n mn' mx' total dropped : Int) :
    Ev (fun k => impl_Sampled.j0 k v out s kind sum set last n mn' mx' total dropped) (sampledJ v out s kind sum set last n mn' mx' total dropped) := by
  refine Ev.step (f := fun _ => if out = true then (some (s, kind, sum, set, last, n, mn', mx', total, dropped)) else (if n = 3 then (some (s, kind, sum, set, last, n, mn', mx', total, mn (wrap64 (dropped + 1)) 65535)) else (if n = 0 then (some (s, kind, sum, set, last, wrap64 (n + 1), mn v v, mx v v, wrap64 (total + v), dropped)) else (some (s, kind, sum, set, last, wrap64 (n + 1), mn mn' v, mx mx' v, wrap64 (total + v), dropped))))) (fun k => rfl) ?_
  unfold sampledJ
  refine Ev_is ?_
  repeat' split
  all_goals first | rfl | contradiction
theorem impl_Sampled_ev (s : ByteArray) (kind sum : Int) (set : Bool) (last n mn' mx' total dropped v : Int) (hs : s.size ≤ 140737488351232) :
    Ev (fun k => impl_Sampled.f k s kind sum set last n mn' mx' total dropped v) (sampledV s kind sum set last n mn' mx' total dropped v) := by
  refine Ev.bind (impl_RowOk_ev s kind sum set last n mn' mx' total dropped hs) ?_
  by_cases c : rowOkV s kind sum set last n mn' mx' total dropped = true
  · by_cases k1 : kind = 3
    · rw [show sampledV s kind sum set last n mn' mx' total dropped v = sampledJ v (!decide (0 ≤ v ∧ v ≤ 65535)) s kind sum set last n mn' mx' total dropped from by unfold sampledV; rw [if_pos c, if_pos k1]]
      exact Ev_pos c (Ev_pos k1 (Ev_bindp (within_eq _ _ _) (impl_SampledJ_ev _ _ _ _ _ _ _ _ _ _ _ _)))
    · rw [show sampledV s kind sum set last n mn' mx' total dropped v = sampledJ v true s kind sum set last n mn' mx' total dropped from by unfold sampledV; rw [if_pos c, if_neg k1]]
      exact Ev_pos c (Ev_neg k1 (impl_SampledJ_ev _ _ _ _ _ _ _ _ _ _ _ _))
  · rw [show sampledV s kind sum set last n mn' mx' total dropped v = sampledJ v true s kind sum set last n mn' mx' total dropped from by unfold sampledV; rw [if_neg c]]
    exact Ev_neg c (impl_SampledJ_ev _ _ _ _ _ _ _ _ _ _ _ _)

theorem l2Mod_eq (a : Int) (h : 0 ≤ a) (h2 : a ≤ 281474976776190) : spec_l2Mod.f a = some (Int.tmod a 281474976710656) := by
  unfold spec_l2Mod.f
  congr 1
  rw [Int.tmod_eq_emod_of_nonneg h, w64 (by omega) (by omega), Int.tmod_eq_emod_of_nonneg (by omega)]
  omega
theorem spec_Counted_ev (s : ByteArray) (kind sum : Int) (set : Bool) (last n mn' mx' total dropped v : Int) (hs : s.size ≤ 140737488351232) :
    Ev (fun k => spec_Counted.f k s kind sum set last n mn' mx' total dropped v) (countedV s kind sum set last n mn' mx' total dropped v) := by
  refine Ev.bind (spec_RowOk_ev s kind sum set last n mn' mx' total dropped hs) ?_
  by_cases c : rowOkV s kind sum set last n mn' mx' total dropped = true
  · by_cases k1 : kind = 1
    · by_cases q : 0 ≤ v ∧ v ≤ 65535
      · rw [show countedV s kind sum set last n mn' mx' total dropped v = (s, kind, Int.tmod (wrap64 (sum + v)) 281474976710656, set, last, n, mn', mx', total, dropped) from by unfold countedV; rw [if_pos c, if_pos k1, if_pos (decide_eq_true q)]]
        refine Ev_pos c (Ev_pos k1 (Ev_bindp (l1In_eq _ _ _) (Ev_pos (decide_eq_true q) ?_)))
        have hw := rowOk_word (by rw [k1] at c; exact c)
        refine Ev_bindp (l2Mod_eq _ ?_ ?_) (Ev.now _) <;> rw [w64 (by omega) (by omega)] <;> omega
      · rw [show countedV s kind sum set last n mn' mx' total dropped v = (s, kind, sum, set, last, n, mn', mx', total, dropped) from by unfold countedV; rw [if_pos c, if_pos k1, if_neg (by simpa using q)]]
        exact Ev_pos c (Ev_pos k1 (Ev_bindp (l1In_eq _ _ _) (Ev_neg (by simpa using q) (Ev.now _))))
    · rw [show countedV s kind sum set last n mn' mx' total dropped v = (s, kind, sum, set, last, n, mn', mx', total, dropped) from by unfold countedV; rw [if_pos c, if_neg k1]]
      exact Ev_pos c (Ev_neg k1 (Ev.now _))
  · rw [show countedV s kind sum set last n mn' mx' total dropped v = (s, kind, sum, set, last, n, mn', mx', total, dropped) from by unfold countedV; rw [if_neg c]]
    exact Ev_neg c (Ev.now _)

theorem impl_Counted_ev (s : ByteArray) (kind sum : Int) (set : Bool) (last n mn' mx' total dropped v : Int) (hs : s.size ≤ 140737488351232) :
    Ev (fun k => impl_Counted.f k s kind sum set last n mn' mx' total dropped v) (countedV s kind sum set last n mn' mx' total dropped v) := by
  refine Ev.bind (impl_RowOk_ev s kind sum set last n mn' mx' total dropped hs) ?_
  by_cases c : rowOkV s kind sum set last n mn' mx' total dropped = true
  · by_cases k1 : kind = 1
    · by_cases q : 0 ≤ v ∧ v ≤ 65535
      · rw [show countedV s kind sum set last n mn' mx' total dropped v = (s, kind, Int.tmod (wrap64 (sum + v)) 281474976710656, set, last, n, mn', mx', total, dropped) from by unfold countedV; rw [if_pos c, if_pos k1, if_pos (decide_eq_true q)]]
        refine Ev_pos c (Ev_pos k1 (Ev_bindp (within_eq _ _ _) (Ev_pos (decide_eq_true q) ?_)))
        exact Ev.now _
      · rw [show countedV s kind sum set last n mn' mx' total dropped v = (s, kind, sum, set, last, n, mn', mx', total, dropped) from by unfold countedV; rw [if_pos c, if_pos k1, if_neg (by simpa using q)]]
        exact Ev_pos c (Ev_pos k1 (Ev_bindp (within_eq _ _ _) (Ev_neg (by simpa using q) (Ev.now _))))
    · rw [show countedV s kind sum set last n mn' mx' total dropped v = (s, kind, sum, set, last, n, mn', mx', total, dropped) from by unfold countedV; rw [if_pos c, if_neg k1]]
      exact Ev_pos c (Ev_neg k1 (Ev.now _))
  · rw [show countedV s kind sum set last n mn' mx' total dropped v = (s, kind, sum, set, last, n, mn', mx', total, dropped) from by unfold countedV; rw [if_neg c]]
    exact Ev_neg c (Ev.now _)

theorem FnRows : laws_FnRows.Pure := by
  intro l hm h1 hw
  by_cases h : (l.length : Int) > 1048576
  · exact ⟨0, Or.inl (congrArg some (decide_eq_true h))⟩
  have hl : l.length ≤ 1048576 := by omega
  obtain ⟨a0, a1, a2, a3, a4, a5, a6, a7, a8, a9, v, ha, eD⟩ := DrawSampled_dr l hl
  obtain ⟨e0, e1, e2, e3, e4, e5, e6, e7, e8, e9, m, he, eE⟩ := DrawCounted_dr l hl
  have eI := impl_Sampled_ev a0 a1 a2 a3 a4 a5 a6 a7 a8 a9 v (by omega)
  have eS := spec_Sampled_ev a0 a1 a2 a3 a4 a5 a6 a7 a8 a9 v (by omega)
  have eR := spec_RowOk_ev a0 a1 a2 a3 a4 a5 a6 a7 a8 a9 (by omega)
  have hk := sampledV_key a0 a1 a2 a3 a4 a5 a6 a7 a8 a9 v
  have eJ := impl_Counted_ev e0 e1 e2 e3 e4 e5 e6 e7 e8 e9 m (by omega)
  have eT := spec_Counted_ev e0 e1 e2 e3 e4 e5 e6 e7 e8 e9 m (by omega)
  obtain ⟨y, hy, hyy⟩ := counted_law e0 e1 e2 e3 e4 e5 e6 e7 e8 e9 m
  rw [hy] at eJ eT
  have eY := impl_RowOk_ev e0 e1 y e3 e4 e5 e6 e7 e8 e9 (by omega)
  generalize hx : sampledV a0 a1 a2 a3 a4 a5 a6 a7 a8 a9 v = x at eI eS hk
  obtain ⟨x0, x1, x2, x3, x4, x5, x6, x7, x8, x9⟩ := x
  have hk' : x0 = a0 := hk
  have eX := impl_RowOk_ev x0 x1 x2 x3 x4 x5 x6 x7 x8 x9 (by rw [hk']; omega)
  obtain ⟨K1, f1⟩ := eD
  obtain ⟨K2, f2⟩ := eE
  obtain ⟨K3, f3⟩ := eI
  obtain ⟨K4, f4⟩ := eS
  obtain ⟨K5, f5⟩ := eR
  obtain ⟨K6, f6⟩ := eJ
  obtain ⟨K7, f7⟩ := eT
  obtain ⟨K8, f8⟩ := eY
  obtain ⟨K9, f9⟩ := eX
  refine ⟨K1 + K2 + K3 + K4 + K5 + K6 + K7 + K8 + K9, Or.inr ⟨congrArg some (decide_eq_false h), ?_⟩⟩
  refine ⟨a0, a1, a2, a3, a4, a5, a6, a7, a8, a9, v, f1 _ (by omega), x0, x1, x2, x3, x4, x5, x6, x7, x8, x9, f3 _ (by omega), f4 _ (by omega), _, f5 _ (by omega), ?_, ?_, e0, e1, e2, e3, e4, e5, e6, e7, e8, e9, y, m, f2 _ (by omega), f6 _ (by omega), f7 _ (by omega), ?_, rfl⟩
  · intro hb hk3 hv0 hv1
    obtain ⟨q1, q2, q3⟩ := sampled_law hb hk3 hv0 hv1 hx
    exact ⟨(f9 _ (by omega)).trans (congrArg some q1), q2, q3⟩
  · intro hn
    rw [sampled_same hn] at hx
    simp only [Prod.mk.injEq] at hx
    obtain ⟨rfl, rfl, rfl, rfl, rfl, rfl, rfl, rfl, rfl, rfl⟩ := hx
    exact ⟨rfl, rfl, rfl, rfl, rfl, rfl, rfl, rfl, rfl, rfl⟩
  · by_cases c : y = e2
    · exact Or.inl c
    · rcases hyy with q | ⟨q1, q2⟩
      · exact absurd q c
      · exact Or.inr ⟨c, (f8 _ (by omega)).trans (congrArg some q1), q2⟩

end Go.Proofs.Ytammijioeeiejaa.Pure
