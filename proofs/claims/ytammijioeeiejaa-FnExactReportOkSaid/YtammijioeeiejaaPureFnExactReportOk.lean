/- What is proved here: the Go law FnExactReportOk answers true for every input, over the functions that print.sh printed; no condition. -/
import Derived.Test.YtammijioeeiejaaQFnExactReportOkx8
set_option linter.unusedVariables false
set_option linter.unusedSimpArgs false
namespace Go.Proofs.Ytammijioeeiejaa.Pure
open Go.RowKit Go.Proofs.Ytammijioeeiejaa.PFnExactReportOk Go.Proofs.YtammijioeeiejaaW.PrintWords Go.Proofs.YtammijioeeiejaaW.PrintLast

theorem Ev_pos {α : Type} {c : Prop} [Decidable c] {a b : Nat → Option α} {r : α} (h : c) (e : Ev a r) : Ev (fun k => if c then a k else b k) r :=
  Ev.congr (fun k => if_pos h) e
theorem Ev_neg {α : Type} {c : Prop} [Decidable c] {a b : Nat → Option α} {r : α} (h : ¬ c) (e : Ev b r) : Ev (fun k => if c then a k else b k) r :=
  Ev.congr (fun k => if_neg h) e
theorem Ev_bindp {α β : Type} {x : Option α} {f : Nat → α → Option β} {a : α} {r : β} (h : x = some a) (e : Ev (fun n => f n a) r) : Ev (fun n => x.bind (f n)) r := by
  subst h
  exact e
theorem Ev_is {α : Type} {x : Option α} {r : α} (h : x = some r) : Ev (fun _ => x) r := ⟨0, fun _ _ => h⟩

theorem w64 {n : Int} (h0 : -9223372036854775808 ≤ n) (h1 : n ≤ 9223372036854775807) : wrap64 n = n := by
  unfold wrap64
  omega

def rowOf (x : S29) : S31 := ⟨x.f0, x.f1, x.f2, x.f3, x.f4, x.f5, x.f6, x.f7, x.f8, x.f9⟩
theorem szRowS_loop (l : List S29) (hl : l.length ≤ 9223372036854775807) (hk : ∀ j : Nat, j < l.length → (rd_T29 l (j : Int)).f0.size ≤ 9223372036854775807) :
    ∀ (d i : Nat) (v : Int), l.length - i = d → i ≤ l.length → 0 ≤ v → v ≤ 1048576 →
      ∃ r : Int, Ev (fun k => laws_szRowS.l0 k l v (i : Int)) r ∧ (r < 0 ∨ (0 ≤ r ∧ r ≤ v ∧ ∀ j : Nat, i ≤ j → j < l.length → (rd_T29 l (j : Int)).f0.size ≤ 1048576)) := by
  intro d
  induction d with
  | zero =>
    intro i v hd hi h0 h1
    exact ⟨v, Ev.step (fun k => laws_szRowS.l0.eq_2 _ _ _ k) (Ev_neg (by omega) (Ev.now _)), Or.inr ⟨h0, by omega, fun j _ _ => by omega⟩⟩
  | succ d ih =>
    intro i v hd hi h0 h1
    have hz := hk i (by omega)
    have e : wrap64 (v - ((rd_T29 l (i : Int)).f0.size : Int)) = v - ((rd_T29 l (i : Int)).f0.size : Int) := w64 (by omega) (by omega)
    have ei : wrap64 ((i : Int) + 1) = ((i + 1 : Nat) : Int) := by rw [w64 (by omega) (by omega)]; omega
    by_cases c : v - ((rd_T29 l (i : Int)).f0.size : Int) < 0
    · exact ⟨-1, Ev.step (fun k => laws_szRowS.l0.eq_2 _ _ _ k) (Ev_pos (by omega) (Ev_pos (by omega) (Ev_bindp (a := -1) (by unfold laws_szRow.f; rw [e, if_pos c]) (Ev_pos (by decide) (Ev.now _))))), Or.inl (by decide)⟩
    · obtain ⟨r, hr, hq⟩ := ih (i + 1) (v - ((rd_T29 l (i : Int)).f0.size : Int)) (by omega) (by omega) (by omega) (by omega)
      refine ⟨r, Ev.step (fun k => laws_szRowS.l0.eq_2 _ _ _ k) (Ev_pos (by omega) (Ev_pos (by omega) (Ev_bindp (a := v - ((rd_T29 l (i : Int)).f0.size : Int)) (by unfold laws_szRow.f; rw [e, if_neg c]) (Ev_neg c ?_)))), ?_⟩
      · rw [ei]; exact hr
      · rcases hq with hq | ⟨q0, q1, q2⟩
        · exact Or.inl hq
        · refine Or.inr ⟨q0, by omega, fun j hj1 hj2 => ?_⟩
          by_cases hj : j = i
          · subst hj; omega
          · exact q2 j (by omega) hj2
theorem szRowS_ev (l : List S29) (hl : l.length ≤ 9223372036854775807) (hk : ∀ j : Nat, j < l.length → (rd_T29 l (j : Int)).f0.size ≤ 9223372036854775807) (v : Int) (h0 : 0 ≤ v) (h1 : v ≤ 1048576) :
    ∃ r : Int, Ev (fun k => laws_szRowS.f k l v) r ∧ (r < 0 ∨ (0 ≤ r ∧ r ≤ 1048576 ∧ l.length ≤ 1048576 ∧ ∀ j : Nat, j < l.length → (rd_T29 l (j : Int)).f0.size ≤ 1048576)) := by
  have e : wrap64 (v - (l.length : Int)) = v - (l.length : Int) := w64 (by omega) (by omega)
  by_cases c : v - (l.length : Int) < 0
  · exact ⟨-1, Ev_pos (by rw [e]; exact c) (Ev.now _), Or.inl (by decide)⟩
  · obtain ⟨r, hr, hq⟩ := szRowS_loop l hl hk l.length 0 (v - (l.length : Int)) (by omega) (by omega) (by omega) (by omega)
    refine ⟨r, Ev_neg (by rw [e]; exact c) (by rw [e]; exact hr), ?_⟩
    rcases hq with hq | ⟨q0, q1, q2⟩
    · exact Or.inl hq
    · exact Or.inr ⟨q0, by omega, by omega, fun j hj => q2 j (by omega) hj⟩
theorem toRowS_loop (l : List S29) (hl : l.length ≤ 1048576) :
    ∀ (d i : Nat) (acc : List S31), l.length - i = d → i ≤ l.length → acc.length = l.length → (∀ j, j < i → acc[j]? = (l.map rowOf)[j]?) →
      Ev (fun k => laws_toRowS.l0 k l acc (i : Int)) (l.map rowOf) := by
  intro d
  induction d with
  | zero =>
    intro i acc hd hi ha hq
    have : acc = l.map rowOf := by
      refine List.ext_getElem? fun j => ?_
      by_cases hj : j < i
      · exact hq j hj
      · rw [List.getElem?_eq_none (by omega), List.getElem?_eq_none (by rw [List.length_map]; omega)]
    subst this
    exact Ev.step (fun k => laws_toRowS.l0.eq_2 _ _ _ k) (Ev_neg (by omega) (Ev.now _))
  | succ d ih =>
    intro i acc hd hi ha hq
    have ei : wrap64 ((i : Int) + 1) = ((i + 1 : Nat) : Int) := by rw [w64 (by omega) (by omega)]; omega
    refine Ev.step (fun k => laws_toRowS.l0.eq_2 _ _ _ k) (Ev_pos (by omega) (Ev_pos (by omega) (Ev_bindp rfl (Ev_pos (by omega) ?_))))
    rw [ei]
    refine ih (i + 1) _ (by omega) (by omega) (by simpa using ha) fun j hj => ?_
    by_cases e : j = i
    · subst e
      have hj' : j < l.length := by omega
      rw [show ((j : Int)).toNat = j from by omega, List.getElem?_set_self (by omega), List.getElem?_map, List.getElem?_eq_getElem hj']
      have : rd_T29 l (j : Int) = l[j] := by unfold rd_T29; rw [show ((j : Int)).toNat = j from by omega, List.getD_eq_getElem?_getD, List.getElem?_eq_getElem hj']; rfl
      rw [this]; rfl
    · rw [show ((i : Int)).toNat = i from by omega, List.getElem?_set_ne (by omega)]
      exact hq j (by omega)
theorem toRowS_ev (l : List S29) (hl : l.length ≤ 1048576) : Ev (fun k => laws_toRowS.f k l) (l.map rowOf) := by
  refine Ev_pos (by omega) (Ev_pos (by omega) ?_)
  refine toRowS_loop l hl l.length 0 _ (by omega) (by omega) (by simp) fun j hj => by omega

theorem eqRow_same (x : S31) : laws_eqRow.f x.f0 x.f1 x.f2 x.f3 x.f4 x.f5 x.f6 x.f7 x.f8 x.f9 x.f0 x.f1 x.f2 x.f3 x.f4 x.f5 x.f6 x.f7 x.f8 x.f9 = some true := by
  unfold laws_eqRow.f; simp
theorem eqRowS_loop (l : List S31) (hl : l.length ≤ 1048576) : ∀ (d i : Nat), l.length - i = d → i ≤ l.length → Ev (fun k => laws_eqRowS.l0 k l l (i : Int)) true := by
  intro d
  induction d with
  | zero =>
    intro i hd hi
    exact Ev.step (fun k => laws_eqRowS.l0.eq_2 _ _ _ k) (Ev_neg (by omega) (Ev.now _))
  | succ d ih =>
    intro i hd hi
    have ei : wrap64 ((i : Int) + 1) = ((i + 1 : Nat) : Int) := by rw [w64 (by omega) (by omega)]; omega
    refine Ev.step (fun k => laws_eqRowS.l0.eq_2 _ _ _ k) (Ev_pos (by omega) (Ev_pos (by omega) (Ev_pos (by omega) (Ev_bindp (eqRow_same _) (Ev_pos rfl ?_)))))
    rw [ei]; exact ih (i + 1) (by omega) (by omega)
theorem eqRowS_ev (l : List S31) (hl : l.length ≤ 1048576) : Ev (fun k => laws_eqRowS.f k l l) true :=
  Ev_pos rfl (eqRowS_loop l hl l.length 0 (by omega) (by omega))

/-- May a byte stand in a key? -/
def kb (c : Int) : Bool := decide ((97 ≤ c ∧ c ≤ 122) ∨ (65 ≤ c ∧ c ≤ 90) ∨ (48 ≤ c ∧ c ≤ 57) ∨ c = 95)
def keyOkV (s : ByteArray) : Bool := decide (1 ≤ s.size ∧ s.size ≤ 4 ∧ ∀ j, j < s.size → kb (bt s (j : Nat)) = true)

def timerV (n mn' mx' total dropped : Int) : Bool :=
  if n = 0 then (mn' == 0 && (mx' == 0 && (total == 0 && dropped == 0)))
  else decide (1 ≤ n ∧ n ≤ 3) && (decide (0 ≤ mn' ∧ mn' ≤ mx') && (decide (mx' ≤ 65535) && (decide (mn' * n ≤ total ∧ total ≤ mx' * n) && (decide (0 ≤ dropped ∧ dropped ≤ 65535) && (dropped == 0 || n == 3)))))
def rowTailV (kind sum : Int) (set : Bool) (last n mn' mx' total dropped : Int) : Bool :=
  if kind = 1 then (!set && (last == 0 && (n == 0 && (mn' == 0 && (mx' == 0 && (total == 0 && (dropped == 0))))))) && decide (0 ≤ sum ∧ sum ≤ 281474976710655)
  else if kind = 2 then (sum == 0 && (n == 0 && (mn' == 0 && (mx' == 0 && (total == 0 && (dropped == 0)))))) && (decide (0 ≤ last ∧ last ≤ 65535) && (set || last == 0))
  else if kind = 3 then sum == 0 && (!set && (last == 0 && timerV n mn' mx' total dropped))
  else false
def rowOkV (s : ByteArray) (kind sum : Int) (set : Bool) (last n mn' mx' total dropped : Int) : Bool := keyOkV s && rowTailV kind sum set last n mn' mx' total dropped

theorem l1In_eq (a b c : Int) : spec_l1In.f a b c = some (decide (b ≤ a ∧ a ≤ c)) := by
  unfold spec_l1In.f
  by_cases h : b ≤ a <;> simp [h]

theorem l4Byte_eq (c : Int) : spec_l4Byte.f c = some (kb c) := by
  unfold spec_l4Byte.f
  simp only [l1In_eq, Option.bind_some]
  unfold kb
  by_cases h1 : 97 ≤ c ∧ c ≤ 122
  · simp [h1]
  by_cases h2 : 65 ≤ c ∧ c ≤ 90
  · simp [h1, h2]
  by_cases h3 : 48 ≤ c ∧ c ≤ 57
  · simp [h1, h2, h3]
  by_cases h4 : c = 95
  · subst h4; rfl
  · simp [h1, h2, h3, h4]
theorem spec_keyOk_l (s : ByteArray) (hs : s.size ≤ 140737488351232) : ∀ (d i : Nat), i + d = s.size → (∀ j, j < i → kb (bt s (j : Nat)) = true) → Ev (fun k => spec_KeyOk.l0 k s (i : Int)) (keyOkV s) := by
  intro d
  induction d with
  | zero =>
    intro i hi hk
    refine Ev.step (fun k => spec_KeyOk.l0.eq_2 _ _ k) (Ev_neg (by omega) (Ev_bindp (l1In_eq _ _ _) (Ev_is ?_)))
    obtain rfl : i = s.size := by omega
    have e : (1 ≤ (s.size : Int) ∧ (s.size : Int) ≤ 4) ↔ (1 ≤ s.size ∧ s.size ≤ 4 ∧ ∀ j, j < s.size → kb (bt s (j : Nat)) = true) := ⟨fun h => ⟨by omega, by omega, hk⟩, fun h => ⟨by omega, by omega⟩⟩
    unfold keyOkV
    rw [decide_eq_decide.2 e]
  | succ d ih =>
    intro i hi hk
    have b := bt_range s i
    refine Ev.step (fun k => spec_KeyOk.l0.eq_2 _ _ k) (Ev_pos (by omega) (Ev_pos (by omega) (Ev_bindp (l4Byte_eq _) ?_)))
    rw [w64 (n := bt s i) (by omega) (by omega), w64 (n := (i : Int) + 1) (by omega) (by omega)]
    by_cases h : kb (bt s i) = true
    · refine Ev_pos h ?_
      have e3 : ((i : Int) + 1) = ((i + 1 : Nat) : Int) := by omega
      rw [e3]
      refine ih (i + 1) (by omega) fun j hj => ?_
      rcases Nat.lt_or_ge j i with h' | h'
      · exact hk j h'
      · obtain rfl : j = i := by omega
        exact h
    · refine Ev_neg h (Ev_is ?_)
      unfold keyOkV
      congr 1
      symm
      exact decide_eq_false fun hh => h (hh.2.2 i (by omega))
theorem spec_KeyOk_ev (s : ByteArray) (hs : s.size ≤ 140737488351232) : Ev (fun k => spec_KeyOk.f k s) (keyOkV s) := spec_keyOk_l s hs s.size 0 (by omega) (fun j hj => by omega)

theorem l7Timer_eq (s : ByteArray) (kind sum : Int) (set : Bool) (last n mn' mx' total dropped : Int) : spec_l7Timer.f s kind sum set last n mn' mx' total dropped = some (timerV n mn' mx' total dropped) := by
  unfold spec_l7Timer.f timerV
  simp only [l1In_eq, Option.bind_some]
  by_cases h0 : n = 0
  · rw [if_pos h0, if_pos h0]
    by_cases h1 : mn' = 0
    · by_cases h2 : mx' = 0
      · by_cases h3 : total = 0
        · simp [h1, h2, h3]
        · simp [h1, h2, h3]
      · simp [h1, h2]
    · simp [h1]
  · rw [if_neg h0, if_neg h0]
    by_cases h1 : 1 ≤ n ∧ n ≤ 3
    · rw [if_pos (decide_eq_true h1), decide_eq_true h1, Bool.true_and]
      by_cases h2 : 0 ≤ mn' ∧ mn' ≤ mx'
      · rw [if_pos (decide_eq_true h2), decide_eq_true h2, Bool.true_and]
        by_cases h3 : mx' ≤ 65535
        · rw [if_pos h3, decide_eq_true h3, Bool.true_and]
          have e : wrap64 (mn' * n) = mn' * n ∧ wrap64 (mx' * n) = mx' * n := by
            rcases (show n = 1 ∨ n = 2 ∨ n = 3 by omega) with rfl | rfl | rfl <;> exact ⟨w64 (by omega) (by omega), w64 (by omega) (by omega)⟩
          rw [e.1, e.2]
          by_cases h4 : mn' * n ≤ total ∧ total ≤ mx' * n
          · rw [if_pos (decide_eq_true h4), decide_eq_true h4, Bool.true_and]
            by_cases h5 : 0 ≤ dropped ∧ dropped ≤ 65535
            · rw [if_pos (decide_eq_true h5), decide_eq_true h5, Bool.true_and]
              by_cases h6 : dropped = 0
              · simp [h6]
              · simp [h6]
            · rw [if_neg (by simpa using h5), decide_eq_false h5, Bool.false_and]
          · rw [if_neg (by simpa using h4), decide_eq_false h4, Bool.false_and]
        · rw [if_neg h3, decide_eq_false h3, Bool.false_and]
      · rw [if_neg (by simpa using h2), decide_eq_false h2, Bool.false_and]
    · rw [if_neg (by simpa using h1), decide_eq_false h1, Bool.false_and]
theorem spec_RowOk_ev (s : ByteArray) (kind sum : Int) (set : Bool) (last n mn' mx' total dropped : Int) (hs : s.size ≤ 140737488351232) :
    Ev (fun k => spec_RowOk.f k s kind sum set last n mn' mx' total dropped) (rowOkV s kind sum set last n mn' mx' total dropped) := by
  refine Ev.bind (spec_KeyOk_ev s hs) ?_
  unfold rowOkV
  by_cases c : keyOkV s = true
  · refine Ev_pos c (Ev_is ?_)
    rw [c, Bool.true_and]
    unfold rowTailV
    by_cases k1 : kind = 1
    · rw [if_pos k1, if_pos k1]
      by_cases b : (!set && (last == 0 && (n == 0 && (mn' == 0 && (mx' == 0 && (total == 0 && (dropped == 0))))))) = true
      · rw [if_pos b, b, Bool.true_and, l1In_eq]; rfl
      · rw [if_neg b, Bool.eq_false_iff.2 b, Bool.false_and]
    rw [if_neg k1, if_neg k1]
    by_cases k2 : kind = 2
    · rw [if_pos k2, if_pos k2]
      by_cases b : (sum == 0 && (n == 0 && (mn' == 0 && (mx' == 0 && (total == 0 && (dropped == 0)))))) = true
      · rw [if_pos b, b, Bool.true_and, l1In_eq, Option.bind_some]
        by_cases h : 0 ≤ last ∧ last ≤ 65535
        · rw [if_pos (decide_eq_true h), decide_eq_true h, Bool.true_and]
          cases set <;> simp
        · rw [if_neg (by simpa using h), decide_eq_false h, Bool.false_and]
      · rw [if_neg b, Bool.eq_false_iff.2 b, Bool.false_and]
    rw [if_neg k2, if_neg k2]
    by_cases k3 : kind = 3
    · rw [if_pos k3, if_pos k3]
      by_cases h1 : sum = 0
      · rw [if_pos h1]
        cases set
        · rw [if_neg (by decide)]
          by_cases h2 : last = 0
          · rw [if_pos h2, l7Timer_eq]; simp [h1, h2]
          · simp [h2]
        · simp
      · simp [h1]
    · rw [if_neg k3, if_neg k3]
  · exact Ev_neg c (Ev_is (by rw [Bool.eq_false_iff.2 c, Bool.false_and]))

theorem within_eq (a b c : Int) : impl_within.f a b c = some (decide (b ≤ a ∧ a ≤ c)) := by
  unfold impl_within.f
  by_cases h : b ≤ a <;> simp [h]

theorem impl_keyOk_step (s : ByteArray) (i : Nat) (h1 : (i : Int) < (s.size : Int)) (k : Nat) : impl_KeyOk.l0 (k + 1) s (s.size : Int) (i : Int) = if kb (bt s i) = true then impl_KeyOk.l0 k s (s.size : Int) (wrap64 ((i : Int) + 1)) else some false := by
  simp only [impl_KeyOk.l0]
  rw [if_pos h1, if_pos (by omega), if_pos h1]
  unfold kb
  generalize bt s (i : Int) = c
  generalize impl_KeyOk.l0 k s (s.size : Int) (wrap64 ((i : Int) + 1)) = X
  by_cases a1 : 97 ≤ c <;> by_cases a2 : c ≤ 122 <;> by_cases a3 : 65 ≤ c <;> by_cases a4 : c ≤ 90 <;> by_cases a5 : 48 ≤ c <;> by_cases a6 : c ≤ 57 <;> by_cases a7 : c = 95 <;> first | (exfalso; omega) | simp [a1, a2, a3, a4, a5, a6, a7]
theorem impl_keyOk_l (s : ByteArray) (hs : s.size ≤ 140737488351232) : ∀ (d i : Nat), i + d = s.size → (∀ j, j < i → kb (bt s (j : Nat)) = true) → Ev (fun k => impl_KeyOk.l0 k s (s.size : Int) (i : Int)) (keyOkV s) := by
  intro d
  induction d with
  | zero =>
    intro i hi hk
    refine Ev.step (fun k => impl_KeyOk.l0.eq_2 _ _ _ k) (Ev_neg (by omega) (Ev_bindp (within_eq _ _ _) (Ev_is ?_)))
    obtain rfl : i = s.size := by omega
    have e : (1 ≤ (s.size : Int) ∧ (s.size : Int) ≤ 4) ↔ (1 ≤ s.size ∧ s.size ≤ 4 ∧ ∀ j, j < s.size → kb (bt s (j : Nat)) = true) := ⟨fun h => ⟨by omega, by omega, hk⟩, fun h => ⟨by omega, by omega⟩⟩
    unfold keyOkV
    rw [decide_eq_decide.2 e]
  | succ d ih =>
    intro i hi hk
    refine Ev.step (fun k => impl_keyOk_step s i (by omega) k) ?_
    rw [w64 (n := (i : Int) + 1) (by omega) (by omega)]
    by_cases h : kb (bt s i) = true
    · refine Ev_pos h ?_
      have e3 : ((i : Int) + 1) = ((i + 1 : Nat) : Int) := by omega
      rw [e3]
      refine ih (i + 1) (by omega) fun j hj => ?_
      rcases Nat.lt_or_ge j i with h' | h'
      · exact hk j h'
      · obtain rfl : j = i := by omega
        exact h
    · refine Ev_neg h (Ev_is ?_)
      unfold keyOkV
      congr 1
      symm
      exact decide_eq_false fun hh => h (hh.2.2 i (by omega))
theorem impl_KeyOk_ev (s : ByteArray) (hs : s.size ≤ 140737488351232) : Ev (fun k => impl_KeyOk.f k s) (keyOkV s) := impl_keyOk_l s hs s.size 0 (by omega) (fun j hj => by omega)

theorem isWord_in (n : Int) : impl_isWord.f n = some (decide (0 ≤ n ∧ n ≤ 281474976710655)) := by
  unfold impl_isWord.f
  rw [within_eq]; rfl

theorem impl_RowOk_ev (s : ByteArray) (kind sum : Int) (set : Bool) (last n mn' mx' total dropped : Int) (hs : s.size ≤ 140737488351232) :
    Ev (fun k => impl_RowOk.f k s kind sum set last n mn' mx' total dropped) (rowOkV s kind sum set last n mn' mx' total dropped) := by
  refine Ev.bind (impl_KeyOk_ev s hs) ?_
  unfold rowOkV
  by_cases c : keyOkV s = true
  · refine Ev_pos c (Ev_is ?_)
    rw [c, Bool.true_and]
    unfold rowTailV
    by_cases k1 : kind = 1
    · rw [if_pos k1, if_pos k1]
      by_cases b : (!set && (last == 0 && (n == 0 && (mn' == 0 && (mx' == 0 && (total == 0 && (dropped == 0))))))) = true
      · rw [if_pos b, b, Bool.true_and, isWord_in]; rfl
      · rw [if_neg b, Bool.eq_false_iff.2 b, Bool.false_and]
    rw [if_neg k1, if_neg k1]
    by_cases k2 : kind = 2
    · rw [if_pos k2, if_pos k2]
      by_cases b : (sum == 0 && (n == 0 && (mn' == 0 && (mx' == 0 && (total == 0 && (dropped == 0)))))) = true
      · rw [if_pos b, b, Bool.true_and, within_eq, Option.bind_some]
        by_cases h : 0 ≤ last ∧ last ≤ 65535
        · rw [if_pos (decide_eq_true h), decide_eq_true h, Bool.true_and]
          cases set <;> simp
        · rw [if_neg (by simpa using h), decide_eq_false h, Bool.false_and]
      · rw [if_neg b, Bool.eq_false_iff.2 b, Bool.false_and]
    rw [if_neg k2, if_neg k2]
    by_cases k3 : kind = 3
    · rw [if_pos k3, if_pos k3]
      by_cases h1 : sum = 0
      · cases set
        · by_cases h2 : last = 0
          · rw [if_neg (by simp [h1, h2])]
            rw [show (sum == 0 && (!false && (last == 0 && timerV n mn' mx' total dropped))) = timerV n mn' mx' total dropped by simp [h1, h2]]
            unfold timerV
            by_cases h0 : n = 0
            · rw [if_pos h0, if_pos h0]; simp [h0, h1, h2]
            · rw [if_neg h0, if_neg h0]
              simp only [within_eq, Option.bind_some]
              by_cases q1 : 1 ≤ n ∧ n ≤ 3
              · rw [if_pos (decide_eq_true q1), decide_eq_true q1, Bool.true_and]
                by_cases q2 : 0 ≤ mn' ∧ mn' ≤ mx'
                · rw [if_pos (decide_eq_true q2), decide_eq_true q2, Bool.true_and]
                  by_cases q3 : mx' ≤ 65535
                  · rw [if_pos q3, decide_eq_true q3, Bool.true_and]
                    have e : wrap64 (n * mn') = mn' * n ∧ wrap64 (n * mx') = mx' * n := by
                      rcases (show n = 1 ∨ n = 2 ∨ n = 3 by omega) with rfl | rfl | rfl <;> exact ⟨by rw [w64 (by omega) (by omega)]; omega, by rw [w64 (by omega) (by omega)]; omega⟩
                    rw [e.1, e.2]
                    by_cases q4 : mn' * n ≤ total ∧ total ≤ mx' * n
                    · rw [if_pos (decide_eq_true q4), decide_eq_true q4, Bool.true_and]
                      by_cases q5 : 0 ≤ dropped ∧ dropped ≤ 65535
                      · rw [if_pos (decide_eq_true q5), decide_eq_true q5, Bool.true_and]
                        by_cases q6 : n = 3
                        · simp [q6]
                        · simp [q6]
                      · rw [if_neg (by simpa using q5), decide_eq_false q5, Bool.false_and]
                    · rw [if_neg (by simpa using q4), decide_eq_false q4, Bool.false_and]
                  · rw [if_neg q3, decide_eq_false q3, Bool.false_and]
                · rw [if_neg (by simpa using q2), decide_eq_false q2, Bool.false_and]
              · rw [if_neg (by simpa using q1), decide_eq_false q1, Bool.false_and]
          · rw [if_pos (by simp [h2])]; simp [h2]
        · rw [if_pos (by simp)]; simp
      · rw [if_pos (by simp [h1])]; simp [h1]
    · rw [if_neg k3, if_neg k3]
  · exact Ev_neg c (Ev_is (by rw [Bool.eq_false_iff.2 c, Bool.false_and]))

def quietV (sum : Int) (set : Bool) (n : Int) : Bool := sum == 0 && (!set && n == 0)
theorem spec_Quiet_eq (s : ByteArray) (kind sum : Int) (set : Bool) (last n mn' mx' total dropped : Int) : spec_Quiet.f s kind sum set last n mn' mx' total dropped = some (quietV sum set n) := by
  unfold spec_Quiet.f quietV
  by_cases h1 : sum = 0 <;> cases set <;> simp [h1]
theorem impl_Quiet_eq (s : ByteArray) (kind sum : Int) (set : Bool) (last n mn' mx' total dropped : Int) : impl_Quiet.f s kind sum set last n mn' mx' total dropped = some (quietV sum set n) := by
  unfold impl_Quiet.f quietV
  by_cases h1 : sum = 0 <;> by_cases h2 : n = 0 <;> cases set <;> simp [h1, h2]

theorem report_loop (t : List S31) (hl : t.length ≤ 1048576) (hk : ∀ j : Nat, j < t.length → (rd_T31 t (j : Int)).f0.size ≤ 1048576) : ∀ (d i : Nat), t.length - i = d → i ≤ t.length →
    ∃ r : Bool, Ev (fun k => spec_ReportOk.l0 k t (i : Int)) r ∧ Ev (fun k => impl_ReportOk.l0 k t t (t.length : Int) (i : Int)) r := by
  intro d
  induction d with
  | zero =>
    intro i hd hi
    exact ⟨decide ((t.length : Int) ≤ 4), Ev.step (fun k => spec_ReportOk.l0.eq_2 _ _ k) (Ev_neg (by omega) (Ev.now _)), Ev.step (fun k => impl_ReportOk.l0.eq_2 _ _ _ _ k) (Ev_neg (by omega) (Ev.now _))⟩
  | succ d ih =>
    intro i hd hi
    have ei : wrap64 ((i : Int) + 1) = ((i + 1 : Nat) : Int) := by rw [w64 (by omega) (by omega)]; omega
    obtain ⟨r, h1, h2⟩ := ih (i + 1) (by omega) (by omega)
    have hz : (rd_T31 t (i : Int)).f0.size ≤ 140737488351232 := by have := hk i (by omega); omega
    generalize hx : rd_T31 t (i : Int) = x at *
    have S := spec_RowOk_ev x.f0 x.f1 x.f2 x.f3 x.f4 x.f5 x.f6 x.f7 x.f8 x.f9 hz
    have I := impl_RowOk_ev x.f0 x.f1 x.f2 x.f3 x.f4 x.f5 x.f6 x.f7 x.f8 x.f9 hz
    have put : ∀ q : Bool, Ev (fun k => (spec_RowOk.f k x.f0 x.f1 x.f2 x.f3 x.f4 x.f5 x.f6 x.f7 x.f8 x.f9).bind fun a => if a = true then ((spec_Quiet.f x.f0 x.f1 x.f2 x.f3 x.f4 x.f5 x.f6 x.f7 x.f8 x.f9).bind fun b => (if b = true then (some false) else (if (i : Int) > 0 then (if 0 ≤ (wrap64 ((i : Int) - 1)) then (if (wrap64 ((i : Int) - 1)) < (t.length : Int) then (if ((Op.bytesLess (((rd_T31 t (wrap64 ((i : Int) - 1))).f0).toList) ((x.f0).toList)) = true) then (spec_ReportOk.l0 k t (wrap64 ((i : Int) + 1))) else (some false)) else (none)) else (none)) else (spec_ReportOk.l0 k t (wrap64 ((i : Int) + 1)))))) else (some false)) q →
        Ev (fun k => (impl_RowOk.f k x.f0 x.f1 x.f2 x.f3 x.f4 x.f5 x.f6 x.f7 x.f8 x.f9).bind fun a => if a = true then ((impl_Quiet.f x.f0 x.f1 x.f2 x.f3 x.f4 x.f5 x.f6 x.f7 x.f8 x.f9).bind fun b => (if b = true then (some false) else (if (i : Int) > 0 then (if 0 ≤ (wrap64 ((i : Int) - 1)) then (if (wrap64 ((i : Int) - 1)) < (t.length : Int) then (if ((Op.bytesLess (((rd_T31 t (wrap64 ((i : Int) - 1))).f0).toList) ((x.f0).toList)) = true) then (impl_ReportOk.l0 k t t (t.length : Int) (wrap64 ((i : Int) + 1))) else (some false)) else (none)) else (none)) else (impl_ReportOk.l0 k t t (t.length : Int) (wrap64 ((i : Int) + 1)))))) else (some false)) q →
        ∃ r : Bool, Ev (fun k => spec_ReportOk.l0 k t (i : Int)) r ∧ Ev (fun k => impl_ReportOk.l0 k t t (t.length : Int) (i : Int)) r := by
      intro q a b
      subst hx
      exact ⟨q, Ev.step (fun k => spec_ReportOk.l0.eq_2 _ _ k) (Ev_pos (by omega) (Ev_pos (by omega) a)), Ev.step (fun k => impl_ReportOk.l0.eq_2 _ _ _ _ k) (Ev_pos (by omega) (Ev_pos (by omega) (Ev_pos (by omega) b)))⟩
    by_cases c : rowOkV x.f0 x.f1 x.f2 x.f3 x.f4 x.f5 x.f6 x.f7 x.f8 x.f9 = true
    · by_cases cq : quietV x.f2 x.f3 x.f5 = true
      · exact put false (Ev.bind S (Ev_pos c (Ev_bindp (spec_Quiet_eq _ _ _ _ _ _ _ _ _ _) (Ev_pos cq (Ev.now _))))) (Ev.bind I (Ev_pos c (Ev_bindp (impl_Quiet_eq _ _ _ _ _ _ _ _ _ _) (Ev_pos cq (Ev.now _)))))
      · by_cases i0 : (i : Int) > 0
        · have e1 : wrap64 ((i : Int) - 1) = (i : Int) - 1 := w64 (by omega) (by omega)
          by_cases bl : Op.bytesLess (((rd_T31 t (wrap64 ((i : Int) - 1))).f0).toList) ((x.f0).toList) = true
          · refine put r (Ev.bind S (Ev_pos c (Ev_bindp (spec_Quiet_eq _ _ _ _ _ _ _ _ _ _) (Ev_neg cq (Ev_pos i0 (Ev_pos (by omega) (Ev_pos (by omega) (Ev_pos bl ?_)))))))) (Ev.bind I (Ev_pos c (Ev_bindp (impl_Quiet_eq _ _ _ _ _ _ _ _ _ _) (Ev_neg cq (Ev_pos i0 (Ev_pos (by omega) (Ev_pos (by omega) (Ev_pos bl ?_))))))))
            · rw [ei]; exact h1
            · rw [ei]; exact h2
          · exact put false (Ev.bind S (Ev_pos c (Ev_bindp (spec_Quiet_eq _ _ _ _ _ _ _ _ _ _) (Ev_neg cq (Ev_pos i0 (Ev_pos (by omega) (Ev_pos (by omega) (Ev_neg bl (Ev.now _))))))))) (Ev.bind I (Ev_pos c (Ev_bindp (impl_Quiet_eq _ _ _ _ _ _ _ _ _ _) (Ev_neg cq (Ev_pos i0 (Ev_pos (by omega) (Ev_pos (by omega) (Ev_neg bl (Ev.now _)))))))))
        · refine put r (Ev.bind S (Ev_pos c (Ev_bindp (spec_Quiet_eq _ _ _ _ _ _ _ _ _ _) (Ev_neg cq (Ev_neg i0 ?_))))) (Ev.bind I (Ev_pos c (Ev_bindp (impl_Quiet_eq _ _ _ _ _ _ _ _ _ _) (Ev_neg cq (Ev_neg i0 ?_)))))
          · rw [ei]; exact h1
          · rw [ei]; exact h2
    · exact put false (Ev.bind S (Ev_neg c (Ev.now _))) (Ev.bind I (Ev_neg c (Ev.now _)))
theorem report_ev (t : List S31) (hl : t.length ≤ 1048576) (hk : ∀ j : Nat, j < t.length → (rd_T31 t (j : Int)).f0.size ≤ 1048576) : ∃ r : Bool, Ev (fun k => spec_ReportOk.f k t) r ∧ Ev (fun k => impl_ReportOk.f k t) r :=
  report_loop t hl hk t.length 0 (by omega) (by omega)
theorem keys_map (l : List S29) (hk : ∀ j : Nat, j < l.length → (rd_T29 l (j : Int)).f0.size ≤ 1048576) : ∀ j : Nat, j < (l.map rowOf).length → (rd_T31 (l.map rowOf) (j : Int)).f0.size ≤ 1048576 := by
  intro j hj
  rw [List.length_map] at hj
  have := hk j hj
  unfold rd_T29 at this
  unfold rd_T31
  rw [show ((j : Int)).toNat = j from by omega] at this ⊢
  rw [List.getD_eq_getElem?_getD, List.getElem?_eq_getElem hj] at this
  rw [List.getD_eq_getElem?_getD, List.getElem?_map, List.getElem?_eq_getElem hj]
  exact this

theorem FnExactReportOk (a : List S29) (ha : a.length ≤ 9223372036854775807) (ka : ∀ j : Nat, j < a.length → (rd_T29 a (j : Int)).f0.size ≤ 9223372036854775807) :
    ∃ k, laws_FnExactReportOk.f k a = some true := by
  refine Ev.rounds (r := true) ?_
  obtain ⟨r, hr, hq⟩ := szRowS_ev a ha ka 1048576 (by decide) (by decide)
  refine Ev.bind hr ?_
  by_cases c : r < 0
  · exact Ev_pos c (Ev.now _)
  refine Ev_neg c ?_
  rcases hq with hq | ⟨q0, q1, q2, q3⟩
  · exact absurd hq c
  obtain ⟨t, ht, hu⟩ := report_ev (a.map rowOf) (by rw [List.length_map]; exact q2) (keys_map a q3)
  refine Ev.bind (toRowS_ev a q2) (Ev.bind ht (Ev.bind (toRowS_ev a q2) (Ev.bind hu (Ev_neg (by simp) ?_))))
  exact Ev.bind (toRowS_ev a q2) (Ev.bind (eqRowS_ev _ (by rw [List.length_map]; exact q2)) (Ev_pos rfl (Ev.now _)))

end Go.Proofs.Ytammijioeeiejaa.Pure
