/- What is proved here: the Go law FnExactSampled answers true for every input, over the functions that print.sh printed; no condition. -/
import Derived.Test.YtammijioeeiejaaQFnExactSampledx5
set_option linter.unusedVariables false
set_option linter.unusedSimpArgs false
namespace Go.Proofs.Ytammijioeeiejaa.Pure
open Go.RowKit Go.Proofs.Ytammijioeeiejaa.PFnExactSampled Go.Proofs.YtammijioeeiejaaW.PrintWords Go.Proofs.YtammijioeeiejaaW.PrintLast

theorem Ev_pos {α : Type} {c : Prop} [Decidable c] {a b : Nat → Option α} {r : α} (h : c) (e : Ev a r) : Ev (fun k => if c then a k else b k) r :=
  Ev.congr (fun k => if_pos h) e
theorem Ev_neg {α : Type} {c : Prop} [Decidable c] {a b : Nat → Option α} {r : α} (h : ¬ c) (e : Ev b r) : Ev (fun k => if c then a k else b k) r :=
  Ev.congr (fun k => if_neg h) e
theorem Ev_bindp {α β : Type} {x : Option α} {f : Nat → α → Option β} {a : α} {r : β} (h : x = some a) (e : Ev (fun n => f n a) r) : Ev (fun n => x.bind (f n)) r := by
  subst h
  exact e
theorem Ev_is {α : Type} {x : Option α} {r : α} (h : x = some r) : Ev (fun _ => x) r := ⟨0, fun _ _ => h⟩

abbrev RowT := ByteArray × Int × Int × Bool × Int × Int × Int × Int × Int × Int
theorem eqRow_self (s : ByteArray) (a b : Int) (c : Bool) (d e f g h i : Int) : laws_eqRow.f s a b c d e f g h i s a b c d e f g h i = some true := by
  unfold laws_eqRow.f; simp

/-- May a byte stand in a key? -/
def kb (c : Int) : Bool := decide ((97 ≤ c ∧ c ≤ 122) ∨ (65 ≤ c ∧ c ≤ 90) ∨ (48 ≤ c ∧ c ≤ 57) ∨ c = 95)
def keyOkV (s : ByteArray) : Bool := decide (1 ≤ s.size ∧ s.size ≤ 4 ∧ ∀ j, j < s.size → kb (bt s (j : Nat)) = true)

def timerV (n mn' mx' total dropped : Int) : Bool :=
  if n = 0 then (mn' == 0 && (mx' == 0 && (total == 0 && dropped == 0)))
  else decide (1 ≤ n ∧ n ≤ 3) && (decide (0 ≤ mn' ∧ mn' ≤ mx') && (decide (mx' ≤ 65535) && (decide (mn' * n ≤ total ∧ total ≤ mx' * n) && (decide (0 ≤ dropped ∧ dropped ≤ 65535) && (dropped == 0 || n == 3)))))
def rowTailV (kind sum : Int) (set : Bool) (last n mn' mx' total dropped : Int) : Bool :=
  if kind = 1 then (!set && (last == 0 && (n == 0 && (mn' == 0 && (mx' == 0 && (total == 0 && (dropped == 0))))))) && decide (0 ≤ sum ∧ sum ≤ 281474976710655)
  else if kind = 2 then (sum == 0 && (n == 0 && (mn' == 0 && (mx' == 0 && (total == 0 && (dropped == 0)))))) && (decide (0 ≤ last ∧ last ≤ 65535) && (set || last == 0))
  else if kind = 3 then sum == 0 && (!set && (last == 0 && timerV n mn' mx' total dropped))
  else false
def rowOkV (s : ByteArray) (kind sum : Int) (set : Bool) (last n mn' mx' total dropped : Int) : Bool := keyOkV s && rowTailV kind sum set last n mn' mx' total dropped

def sampledJ (v : Int) (out : Bool) (s : ByteArray) (kind sum : Int) (set : Bool) (last n mn' mx' total dropped : Int) : RowT :=
  if out = true then (s, kind, sum, set, last, n, mn', mx', total, dropped)
  else if n = 3 then (s, kind, sum, set, last, n, mn', mx', total, mn (wrap64 (dropped + 1)) 65535)
  else if n = 0 then (s, kind, sum, set, last, wrap64 (n + 1), mn v v, mx v v, wrap64 (total + v), dropped)
  else (s, kind, sum, set, last, wrap64 (n + 1), mn mn' v, mx mx' v, wrap64 (total + v), dropped)
def sampledV (s : ByteArray) (kind sum : Int) (set : Bool) (last n mn' mx' total dropped : Int) (v : Int) : RowT :=
  if rowOkV s kind sum set last n mn' mx' total dropped = true then
    (if kind = 3 then sampledJ v (!decide (0 ≤ v ∧ v ≤ 65535)) s kind sum set last n mn' mx' total dropped
     else sampledJ v true s kind sum set last n mn' mx' total dropped)
  else sampledJ v true s kind sum set last n mn' mx' total dropped

theorem w64 {n : Int} (h0 : -9223372036854775808 ≤ n) (h1 : n ≤ 9223372036854775807) : wrap64 n = n := by
  unfold wrap64
  omega

theorem l1In_eq (a b c : Int) : spec_l1In.f a b c = some (decide (b ≤ a ∧ a ≤ c)) := by
  unfold spec_l1In.f
  by_cases h : b ≤ a <;> simp [h]

theorem l4Byte_eq (c : Int) : spec_l4Byte.f c = some (kb c) := by
  unfold spec_l4Byte.f
  simp only [l1In_eq, Option.bind_some]
  unfold kb
  by_cases h1 : 97 ≤ c ∧ c ≤ 122
  · simp [h1]
  by_cases h2 : 65 ≤ c ∧ c ≤ 90
  · simp [h1, h2]
  by_cases h3 : 48 ≤ c ∧ c ≤ 57
  · simp [h1, h2, h3]
  by_cases h4 : c = 95
  · subst h4; rfl
  · simp [h1, h2, h3, h4]
theorem spec_keyOk_l (s : ByteArray) (hs : s.size ≤ 140737488351232) : ∀ (d i : Nat), i + d = s.size → (∀ j, j < i → kb (bt s (j : Nat)) = true) → Ev (fun k => spec_KeyOk.l0 k s (i : Int)) (keyOkV s) := by
  intro d
  induction d with
  | zero =>
    intro i hi hk
    refine Ev.step (fun k => spec_KeyOk.l0.eq_2 _ _ k) (Ev_neg (by omega) (Ev_bindp (l1In_eq _ _ _) (Ev_is ?_)))
    obtain rfl : i = s.size := by omega
    have e : (1 ≤ (s.size : Int) ∧ (s.size : Int) ≤ 4) ↔ (1 ≤ s.size ∧ s.size ≤ 4 ∧ ∀ j, j < s.size → kb (bt s (j : Nat)) = true) := ⟨fun h => ⟨by omega, by omega, hk⟩, fun h => ⟨by omega, by omega⟩⟩
    unfold keyOkV
    rw [decide_eq_decide.2 e]
  | succ d ih =>
    intro i hi hk
    have b := bt_range s i
    refine Ev.step (fun k => spec_KeyOk.l0.eq_2 _ _ k) (Ev_pos (by omega) (Ev_pos (by omega) (Ev_bindp (l4Byte_eq _) ?_)))
    rw [w64 (n := bt s i) (by omega) (by omega), w64 (n := (i : Int) + 1) (by omega) (by omega)]
    by_cases h : kb (bt s i) = true
    · refine Ev_pos h ?_
      have e3 : ((i : Int) + 1) = ((i + 1 : Nat) : Int) := by omega
      rw [e3]
      refine ih (i + 1) (by omega) fun j hj => ?_
      rcases Nat.lt_or_ge j i with h' | h'
      · exact hk j h'
      · obtain rfl : j = i := by omega
        exact h
    · refine Ev_neg h (Ev_is ?_)
      unfold keyOkV
      congr 1
      symm
      exact decide_eq_false fun hh => h (hh.2.2 i (by omega))
theorem spec_KeyOk_ev (s : ByteArray) (hs : s.size ≤ 140737488351232) : Ev (fun k => spec_KeyOk.f k s) (keyOkV s) := spec_keyOk_l s hs s.size 0 (by omega) (fun j hj => by omega)

theorem l7Timer_eq (s : ByteArray) (kind sum : Int) (set : Bool) (last n mn' mx' total dropped : Int) : spec_l7Timer.f s kind sum set last n mn' mx' total dropped = some (timerV n mn' mx' total dropped) := by
  unfold spec_l7Timer.f timerV
  simp only [l1In_eq, Option.bind_some]
  by_cases h0 : n = 0
  · rw [if_pos h0, if_pos h0]
    by_cases h1 : mn' = 0
    · by_cases h2 : mx' = 0
      · by_cases h3 : total = 0
        · simp [h1, h2, h3]
        · simp [h1, h2, h3]
      · simp [h1, h2]
    · simp [h1]
  · rw [if_neg h0, if_neg h0]
    by_cases h1 : 1 ≤ n ∧ n ≤ 3
    · rw [if_pos (decide_eq_true h1), decide_eq_true h1, Bool.true_and]
      by_cases h2 : 0 ≤ mn' ∧ mn' ≤ mx'
      · rw [if_pos (decide_eq_true h2), decide_eq_true h2, Bool.true_and]
        by_cases h3 : mx' ≤ 65535
        · rw [if_pos h3, decide_eq_true h3, Bool.true_and]
          have e : wrap64 (mn' * n) = mn' * n ∧ wrap64 (mx' * n) = mx' * n := by
            rcases (show n = 1 ∨ n = 2 ∨ n = 3 by omega) with rfl | rfl | rfl <;> exact ⟨w64 (by omega) (by omega), w64 (by omega) (by omega)⟩
          rw [e.1, e.2]
          by_cases h4 : mn' * n ≤ total ∧ total ≤ mx' * n
          · rw [if_pos (decide_eq_true h4), decide_eq_true h4, Bool.true_and]
            by_cases h5 : 0 ≤ dropped ∧ dropped ≤ 65535
            · rw [if_pos (decide_eq_true h5), decide_eq_true h5, Bool.true_and]
              by_cases h6 : dropped = 0
              · simp [h6]
              · simp [h6]
            · rw [if_neg (by simpa using h5), decide_eq_false h5, Bool.false_and]
          · rw [if_neg (by simpa using h4), decide_eq_false h4, Bool.false_and]
        · rw [if_neg h3, decide_eq_false h3, Bool.false_and]
      · rw [if_neg (by simpa using h2), decide_eq_false h2, Bool.false_and]
    · rw [if_neg (by simpa using h1), decide_eq_false h1, Bool.false_and]
theorem spec_RowOk_ev (s : ByteArray) (kind sum : Int) (set : Bool) (last n mn' mx' total dropped : Int) (hs : s.size ≤ 140737488351232) :
    Ev (fun k => spec_RowOk.f k s kind sum set last n mn' mx' total dropped) (rowOkV s kind sum set last n mn' mx' total dropped) := by
  refine Ev.bind (spec_KeyOk_ev s hs) ?_
  unfold rowOkV
  by_cases c : keyOkV s = true
  · refine Ev_pos c (Ev_is ?_)
    rw [c, Bool.true_and]
    unfold rowTailV
    by_cases k1 : kind = 1
    · rw [if_pos k1, if_pos k1]
      by_cases b : (!set && (last == 0 && (n == 0 && (mn' == 0 && (mx' == 0 && (total == 0 && (dropped == 0))))))) = true
      · rw [if_pos b, b, Bool.true_and, l1In_eq]; rfl
      · rw [if_neg b, Bool.eq_false_iff.2 b, Bool.false_and]
    rw [if_neg k1, if_neg k1]
    by_cases k2 : kind = 2
    · rw [if_pos k2, if_pos k2]
      by_cases b : (sum == 0 && (n == 0 && (mn' == 0 && (mx' == 0 && (total == 0 && (dropped == 0)))))) = true
      · rw [if_pos b, b, Bool.true_and, l1In_eq, Option.bind_some]
        by_cases h : 0 ≤ last ∧ last ≤ 65535
        · rw [if_pos (decide_eq_true h), decide_eq_true h, Bool.true_and]
          cases set <;> simp
        · rw [if_neg (by simpa using h), decide_eq_false h, Bool.false_and]
      · rw [if_neg b, Bool.eq_false_iff.2 b, Bool.false_and]
    rw [if_neg k2, if_neg k2]
    by_cases k3 : kind = 3
    · rw [if_pos k3, if_pos k3]
      by_cases h1 : sum = 0
      · rw [if_pos h1]
        cases set
        · rw [if_neg (by decide)]
          by_cases h2 : last = 0
          · rw [if_pos h2, l7Timer_eq]; simp [h1, h2]
          · simp [h2]
        · simp
      · simp [h1]
    · rw [if_neg k3, if_neg k3]
  · exact Ev_neg c (Ev_is (by rw [Bool.eq_false_iff.2 c, Bool.false_and]))

theorem spec_SampledJ_ev (v : Int) (out : Bool) (s : ByteArray) (kind sum : Int) (set : Bool) (last n mn' mx' total dropped : Int) :
    Ev (fun k => spec_Sampled.j0 k v out s kind sum set last n mn' mx' total dropped) (sampledJ v out s kind sum set last n mn' mx' total dropped) := by
  refine Ev.step (f := fun _ => if out = true then (some (s, kind, sum, set, last, n, mn', mx', total, dropped)) else (if n = 3 then (some (s, kind, sum, set, last, n, mn', mx', total, mn (wrap64 (dropped + 1)) 65535)) else (if n = 0 then (some (s, kind, sum, set, last, wrap64 (n + 1), mn v v, mx v v, wrap64 (total + v), dropped)) else (some (s, kind, sum, set, last, wrap64 (n + 1), mn mn' v, mx mx' v, wrap64 (total + v), dropped))))) (fun k => rfl) ?_
  unfold sampledJ
  refine Ev_is ?_
  repeat' split
  all_goals first | rfl | contradiction
theorem spec_Sampled_ev (s : ByteArray) (kind sum : Int) (set : Bool) (last n mn' mx' total dropped v : Int) (hs : s.size ≤ 140737488351232) :
    Ev (fun k => spec_Sampled.f k s kind sum set last n mn' mx' total dropped v) (sampledV s kind sum set last n mn' mx' total dropped v) := by
  refine Ev.bind (spec_RowOk_ev s kind sum set last n mn' mx' total dropped hs) ?_
  by_cases c : rowOkV s kind sum set last n mn' mx' total dropped = true
  · by_cases k1 : kind = 3
    · rw [show sampledV s kind sum set last n mn' mx' total dropped v = sampledJ v (!decide (0 ≤ v ∧ v ≤ 65535)) s kind sum set last n mn' mx' total dropped from by unfold sampledV; rw [if_pos c, if_pos k1]]
      exact Ev_pos c (Ev_pos k1 (Ev_bindp (l1In_eq _ _ _) (spec_SampledJ_ev _ _ _ _ _ _ _ _ _ _ _ _)))
    · rw [show sampledV s kind sum set last n mn' mx' total dropped v = sampledJ v true s kind sum set last n mn' mx' total dropped from by unfold sampledV; rw [if_pos c, if_neg k1]]
      exact Ev_pos c (Ev_neg k1 (spec_SampledJ_ev _ _ _ _ _ _ _ _ _ _ _ _))
  · rw [show sampledV s kind sum set last n mn' mx' total dropped v = sampledJ v true s kind sum set last n mn' mx' total dropped from by unfold sampledV; rw [if_neg c]]
    exact Ev_neg c (spec_SampledJ_ev _ _ _ _ _ _ _ _ _ _ _ _)

theorem within_eq (a b c : Int) : impl_within.f a b c = some (decide (b ≤ a ∧ a ≤ c)) := by
  unfold impl_within.f
  by_cases h : b ≤ a <;> simp [h]

theorem impl_keyOk_step (s : ByteArray) (i : Nat) (h1 : (i : Int) < (s.size : Int)) (k : Nat) : impl_KeyOk.l0 (k + 1) s (s.size : Int) (i : Int) = if kb (bt s i) = true then impl_KeyOk.l0 k s (s.size : Int) (wrap64 ((i : Int) + 1)) else some false := by
  simp only [impl_KeyOk.l0]
  rw [if_pos h1, if_pos (by omega), if_pos h1]
  unfold kb
  generalize bt s (i : Int) = c
  generalize impl_KeyOk.l0 k s (s.size : Int) (wrap64 ((i : Int) + 1)) = X
  by_cases a1 : 97 ≤ c <;> by_cases a2 : c ≤ 122 <;> by_cases a3 : 65 ≤ c <;> by_cases a4 : c ≤ 90 <;> by_cases a5 : 48 ≤ c <;> by_cases a6 : c ≤ 57 <;> by_cases a7 : c = 95 <;> first | (exfalso; omega) | simp [a1, a2, a3, a4, a5, a6, a7]
theorem impl_keyOk_l (s : ByteArray) (hs : s.size ≤ 140737488351232) : ∀ (d i : Nat), i + d = s.size → (∀ j, j < i → kb (bt s (j : Nat)) = true) → Ev (fun k => impl_KeyOk.l0 k s (s.size : Int) (i : Int)) (keyOkV s) := by
  intro d
  induction d with
  | zero =>
    intro i hi hk
    refine Ev.step (fun k => impl_KeyOk.l0.eq_2 _ _ _ k) (Ev_neg (by omega) (Ev_bindp (within_eq _ _ _) (Ev_is ?_)))
    obtain rfl : i = s.size := by omega
    have e : (1 ≤ (s.size : Int) ∧ (s.size : Int) ≤ 4) ↔ (1 ≤ s.size ∧ s.size ≤ 4 ∧ ∀ j, j < s.size → kb (bt s (j : Nat)) = true) := ⟨fun h => ⟨by omega, by omega, hk⟩, fun h => ⟨by omega, by omega⟩⟩
    unfold keyOkV
    rw [decide_eq_decide.2 e]
  | succ d ih =>
    intro i hi hk
    refine Ev.step (fun k => impl_keyOk_step s i (by omega) k) ?_
    rw [w64 (n := (i : Int) + 1) (by omega) (by omega)]
    by_cases h : kb (bt s i) = true
    · refine Ev_pos h ?_
      have e3 : ((i : Int) + 1) = ((i + 1 : Nat) : Int) := by omega
      rw [e3]
      refine ih (i + 1) (by omega) fun j hj => ?_
      rcases Nat.lt_or_ge j i with h' | h'
      · exact hk j h'
      · obtain rfl : j = i := by omega
        exact h
    · refine Ev_neg h (Ev_is ?_)
      unfold keyOkV
      congr 1
      symm
      exact decide_eq_false fun hh => h (hh.2.2 i (by omega))
theorem impl_KeyOk_ev (s : ByteArray) (hs : s.size ≤ 140737488351232) : Ev (fun k => impl_KeyOk.f k s) (keyOkV s) := impl_keyOk_l s hs s.size 0 (by omega) (fun j hj => by omega)

theorem isWord_in (n : Int) : impl_isWord.f n = some (decide (0 ≤ n ∧ n ≤ 281474976710655)) := by
  unfold impl_isWord.f
  rw [within_eq]; rfl

theorem impl_RowOk_ev (s : ByteArray) (kind sum : Int) (set : Bool) (last n mn' mx' total dropped : Int) (hs : s.size ≤ 140737488351232) :
    Ev (fun k => impl_RowOk.f k s kind sum set last n mn' mx' total dropped) (rowOkV s kind sum set last n mn' mx' total dropped) := by
  refine Ev.bind (impl_KeyOk_ev s hs) ?_
  unfold rowOkV
  by_cases c : keyOkV s = true
  · refine Ev_pos c (Ev_is ?_)
    rw [c, Bool.true_and]
    unfold rowTailV
    by_cases k1 : kind = 1
    · rw [if_pos k1, if_pos k1]
      by_cases b : (!set && (last == 0 && (n == 0 && (mn' == 0 && (mx' == 0 && (total == 0 && (dropped == 0))))))) = true
      · rw [if_pos b, b, Bool.true_and, isWord_in]; rfl
      · rw [if_neg b, Bool.eq_false_iff.2 b, Bool.false_and]
    rw [if_neg k1, if_neg k1]
    by_cases k2 : kind = 2
    · rw [if_pos k2, if_pos k2]
      by_cases b : (sum == 0 && (n == 0 && (mn' == 0 && (mx' == 0 && (total == 0 && (dropped == 0)))))) = true
      · rw [if_pos b, b, Bool.true_and, within_eq, Option.bind_some]
        by_cases h : 0 ≤ last ∧ last ≤ 65535
        · rw [if_pos (decide_eq_true h), decide_eq_true h, Bool.true_and]
          cases set <;> simp
        · rw [if_neg (by simpa using h), decide_eq_false h, Bool.false_and]
      · rw [if_neg b, Bool.eq_false_iff.2 b, Bool.false_and]
    rw [if_neg k2, if_neg k2]
    by_cases k3 : kind = 3
    · rw [if_pos k3, if_pos k3]
      by_cases h1 : sum = 0
      · cases set
        · by_cases h2 : last = 0
          · rw [if_neg (by simp [h1, h2])]
            rw [show (sum == 0 && (!false && (last == 0 && timerV n mn' mx' total dropped))) = timerV n mn' mx' total dropped by simp [h1, h2]]
            unfold timerV
            by_cases h0 : n = 0
            · rw [if_pos h0, if_pos h0]; simp [h0, h1, h2]
            · rw [if_neg h0, if_neg h0]
              simp only [within_eq, Option.bind_some]
              by_cases q1 : 1 ≤ n ∧ n ≤ 3
              · rw [if_pos (decide_eq_true q1), decide_eq_true q1, Bool.true_and]
                by_cases q2 : 0 ≤ mn' ∧ mn' ≤ mx'
                · rw [if_pos (decide_eq_true q2), decide_eq_true q2, Bool.true_and]
                  by_cases q3 : mx' ≤ 65535
                  · rw [if_pos q3, decide_eq_true q3, Bool.true_and]
                    have e : wrap64 (n * mn') = mn' * n ∧ wrap64 (n * mx') = mx' * n := by
                      rcases (show n = 1 ∨ n = 2 ∨ n = 3 by omega) with rfl | rfl | rfl <;> exact ⟨by rw [w64 (by omega) (by omega)]; omega, by rw [w64 (by omega) (by omega)]; omega⟩
                    rw [e.1, e.2]
                    by_cases q4 : mn' * n ≤ total ∧ total ≤ mx' * n
                    · rw [if_pos (decide_eq_true q4), decide_eq_true q4, Bool.true_and]
                      by_cases q5 : 0 ≤ dropped ∧ dropped ≤ 65535
                      · rw [if_pos (decide_eq_true q5), decide_eq_true q5, Bool.true_and]
                        by_cases q6 : n = 3
                        · simp [q6]
                        · simp [q6]
                      · rw [if_neg (by simpa using q5), decide_eq_false q5, Bool.false_and]
                    · rw [if_neg (by simpa using q4), decide_eq_false q4, Bool.false_and]
                  · rw [if_neg q3, decide_eq_false q3, Bool.false_and]
                · rw [if_neg (by simpa using q2), decide_eq_false q2, Bool.false_and]
              · rw [if_neg (by simpa using q1), decide_eq_false q1, Bool.false_and]
          · rw [if_pos (by simp [h2])]; simp [h2]
        · rw [if_pos (by simp)]; simp
      · rw [if_pos (by simp [h1])]; simp [h1]
    · rw [if_neg k3, if_neg k3]
  · exact Ev_neg c (Ev_is (by rw [Bool.eq_false_iff.2 c, Bool.false_and]))

theorem impl_SampledJ_ev (v : Int) (out : Bool) (s : ByteArray) (kind sum : Int) (set : Bool) (last n mn' mx' total dropped : Int) :
    Ev (fun k => impl_Sampled.j0 k v out s kind sum set last n mn' mx' total dropped) (sampledJ v out s kind sum set last n mn' mx' total dropped) := by
  refine Ev.step (f := fun _ => if out = true then (some (s, kind, sum, set, last, n, mn', mx', total, dropped)) else (if n = 3 then (some (s, kind, sum, set, last, n, mn', mx', total, mn (wrap64 (dropped + 1)) 65535)) else (if n = 0 then (some (s, kind, sum, set, last, wrap64 (n + 1), mn v v, mx v v, wrap64 (total + v), dropped)) else (some (s, kind, sum, set, last, wrap64 (n + 1), mn mn' v, mx mx' v, wrap64 (total + v), dropped))))) (fun k => rfl) ?_
  unfold sampledJ
  refine Ev_is ?_
  repeat' split
  all_goals first | rfl | contradiction
theorem impl_Sampled_ev (s : ByteArray) (kind sum : Int) (set : Bool) (last n mn' mx' total dropped v : Int) (hs : s.size ≤ 140737488351232) :
    Ev (fun k => impl_Sampled.f k s kind sum set last n mn' mx' total dropped v) (sampledV s kind sum set last n mn' mx' total dropped v) := by
  refine Ev.bind (impl_RowOk_ev s kind sum set last n mn' mx' total dropped hs) ?_
  by_cases c : rowOkV s kind sum set last n mn' mx' total dropped = true
  · by_cases k1 : kind = 3
    · rw [show sampledV s kind sum set last n mn' mx' total dropped v = sampledJ v (!decide (0 ≤ v ∧ v ≤ 65535)) s kind sum set last n mn' mx' total dropped from by unfold sampledV; rw [if_pos c, if_pos k1]]
      exact Ev_pos c (Ev_pos k1 (Ev_bindp (within_eq _ _ _) (impl_SampledJ_ev _ _ _ _ _ _ _ _ _ _ _ _)))
    · rw [show sampledV s kind sum set last n mn' mx' total dropped v = sampledJ v true s kind sum set last n mn' mx' total dropped from by unfold sampledV; rw [if_pos c, if_neg k1]]
      exact Ev_pos c (Ev_neg k1 (impl_SampledJ_ev _ _ _ _ _ _ _ _ _ _ _ _))
  · rw [show sampledV s kind sum set last n mn' mx' total dropped v = sampledJ v true s kind sum set last n mn' mx' total dropped from by unfold sampledV; rw [if_neg c]]
    exact Ev_neg c (impl_SampledJ_ev _ _ _ _ _ _ _ _ _ _ _ _)

theorem FnExactSampled (s : ByteArray) (kind sum : Int) (set : Bool) (last n mn' mx' total dropped : Int) (v : Int) (hs : s.size ≤ maxLen) (_ : (Lit.int .i64 kind).wf = true) (_ : (Lit.int .i64 sum).wf = true) (_ : (Lit.int .i64 last).wf = true) (_ : (Lit.int .i64 n).wf = true) (_ : (Lit.int .i64 mn').wf = true) (_ : (Lit.int .i64 mx').wf = true) (_ : (Lit.int .i64 total).wf = true) (_ : (Lit.int .i64 dropped).wf = true) (_ : (Lit.int .i64 v).wf = true) :
    ∃ k, laws_FnExactSampled.f k s kind sum set last n mn' mx' total dropped v = some true := by
  unfold maxLen at hs
  refine Ev.rounds (r := true) ?_
  by_cases h : wrap64 (1048576 - (s.size : Int)) < 0
  · exact Ev_bindp (a := -1) (by unfold laws_szRow.f; rw [if_pos h]) (Ev_pos (by decide) (Ev.now _))
  · have hz : s.size ≤ 1048576 := by rw [w64 (by omega) (by omega)] at h; omega
    refine Ev_bindp (a := wrap64 (1048576 - (s.size : Int))) (by unfold laws_szRow.f; rw [if_neg h]) (Ev_neg h (Ev_bindp rfl (Ev.bind (spec_Sampled_ev _ _ _ _ _ _ _ _ _ _ _ (by show s.size ≤ _; omega)) (Ev_bindp rfl (Ev.bind (impl_Sampled_ev _ _ _ _ _ _ _ _ _ _ _ (by show s.size ≤ _; omega)) (Ev_bindp (eqRow_self _ _ _ _ _ _ _ _ _ _) (Ev_pos rfl (Ev.now _))))))))

end Go.Proofs.Ytammijioeeiejaa.Pure
