/- What is proved here: the Go law FnExactSameReport answers true for every input, over the functions that print.sh printed; no condition. -/
import Derived.Test.YtammijioeeiejaaPFnExactSameReportx3
set_option linter.unusedVariables false
set_option linter.unusedSimpArgs false
namespace Go.Proofs.Ytammijioeeiejaa.Pure
open Go.RowKit Go.Proofs.Ytammijioeeiejaa.PFnExactSameReport Go.Proofs.YtammijioeeiejaaW.PrintWords Go.Proofs.YtammijioeeiejaaW.PrintLast

theorem Ev_pos {α : Type} {c : Prop} [Decidable c] {a b : Nat → Option α} {r : α} (h : c) (e : Ev a r) : Ev (fun k => if c then a k else b k) r :=
  Ev.congr (fun k => if_pos h) e
theorem Ev_neg {α : Type} {c : Prop} [Decidable c] {a b : Nat → Option α} {r : α} (h : ¬ c) (e : Ev b r) : Ev (fun k => if c then a k else b k) r :=
  Ev.congr (fun k => if_neg h) e
theorem Ev_bindp {α β : Type} {x : Option α} {f : Nat → α → Option β} {a : α} {r : β} (h : x = some a) (e : Ev (fun n => f n a) r) : Ev (fun n => x.bind (f n)) r := by
  subst h
  exact e
theorem Ev_is {α : Type} {x : Option α} {r : α} (h : x = some r) : Ev (fun _ => x) r := ⟨0, fun _ _ => h⟩

theorem w64 {n : Int} (h0 : -9223372036854775808 ≤ n) (h1 : n ≤ 9223372036854775807) : wrap64 n = n := by
  unfold wrap64
  omega

def rowOf (x : S29) : S31 := ⟨x.f0, x.f1, x.f2, x.f3, x.f4, x.f5, x.f6, x.f7, x.f8, x.f9⟩
theorem szRowS_loop (l : List S29) (hl : l.length ≤ 9223372036854775807) (hk : ∀ j : Nat, j < l.length → (rd_T29 l (j : Int)).f0.size ≤ 9223372036854775807) :
    ∀ (d i : Nat) (v : Int), l.length - i = d → i ≤ l.length → 0 ≤ v → v ≤ 1048576 →
      ∃ r : Int, Ev (fun k => laws_szRowS.l0 k l v (i : Int)) r ∧ (r < 0 ∨ (0 ≤ r ∧ r ≤ v ∧ ∀ j : Nat, i ≤ j → j < l.length → (rd_T29 l (j : Int)).f0.size ≤ 1048576)) := by
  intro d
  induction d with
  | zero =>
    intro i v hd hi h0 h1
    exact ⟨v, Ev.step (fun k => laws_szRowS.l0.eq_2 _ _ _ k) (Ev_neg (by omega) (Ev.now _)), Or.inr ⟨h0, by omega, fun j _ _ => by omega⟩⟩
  | succ d ih =>
    intro i v hd hi h0 h1
    have hz := hk i (by omega)
    have e : wrap64 (v - ((rd_T29 l (i : Int)).f0.size : Int)) = v - ((rd_T29 l (i : Int)).f0.size : Int) := w64 (by omega) (by omega)
    have ei : wrap64 ((i : Int) + 1) = ((i + 1 : Nat) : Int) := by rw [w64 (by omega) (by omega)]; omega
    by_cases c : v - ((rd_T29 l (i : Int)).f0.size : Int) < 0
    · exact ⟨-1, Ev.step (fun k => laws_szRowS.l0.eq_2 _ _ _ k) (Ev_pos (by omega) (Ev_pos (by omega) (Ev_bindp (a := -1) (by unfold laws_szRow.f; rw [e, if_pos c]) (Ev_pos (by decide) (Ev.now _))))), Or.inl (by decide)⟩
    · obtain ⟨r, hr, hq⟩ := ih (i + 1) (v - ((rd_T29 l (i : Int)).f0.size : Int)) (by omega) (by omega) (by omega) (by omega)
      refine ⟨r, Ev.step (fun k => laws_szRowS.l0.eq_2 _ _ _ k) (Ev_pos (by omega) (Ev_pos (by omega) (Ev_bindp (a := v - ((rd_T29 l (i : Int)).f0.size : Int)) (by unfold laws_szRow.f; rw [e, if_neg c]) (Ev_neg c ?_)))), ?_⟩
      · rw [ei]; exact hr
      · rcases hq with hq | ⟨q0, q1, q2⟩
        · exact Or.inl hq
        · refine Or.inr ⟨q0, by omega, fun j hj1 hj2 => ?_⟩
          by_cases hj : j = i
          · subst hj; omega
          · exact q2 j (by omega) hj2
theorem szRowS_ev (l : List S29) (hl : l.length ≤ 9223372036854775807) (hk : ∀ j : Nat, j < l.length → (rd_T29 l (j : Int)).f0.size ≤ 9223372036854775807) (v : Int) (h0 : 0 ≤ v) (h1 : v ≤ 1048576) :
    ∃ r : Int, Ev (fun k => laws_szRowS.f k l v) r ∧ (r < 0 ∨ (0 ≤ r ∧ r ≤ 1048576 ∧ l.length ≤ 1048576 ∧ ∀ j : Nat, j < l.length → (rd_T29 l (j : Int)).f0.size ≤ 1048576)) := by
  have e : wrap64 (v - (l.length : Int)) = v - (l.length : Int) := w64 (by omega) (by omega)
  by_cases c : v - (l.length : Int) < 0
  · exact ⟨-1, Ev_pos (by rw [e]; exact c) (Ev.now _), Or.inl (by decide)⟩
  · obtain ⟨r, hr, hq⟩ := szRowS_loop l hl hk l.length 0 (v - (l.length : Int)) (by omega) (by omega) (by omega) (by omega)
    refine ⟨r, Ev_neg (by rw [e]; exact c) (by rw [e]; exact hr), ?_⟩
    rcases hq with hq | ⟨q0, q1, q2⟩
    · exact Or.inl hq
    · exact Or.inr ⟨q0, by omega, by omega, fun j hj => q2 j (by omega) hj⟩
theorem toRowS_loop (l : List S29) (hl : l.length ≤ 1048576) :
    ∀ (d i : Nat) (acc : List S31), l.length - i = d → i ≤ l.length → acc.length = l.length → (∀ j, j < i → acc[j]? = (l.map rowOf)[j]?) →
      Ev (fun k => laws_toRowS.l0 k l acc (i : Int)) (l.map rowOf) := by
  intro d
  induction d with
  | zero =>
    intro i acc hd hi ha hq
    have : acc = l.map rowOf := by
      refine List.ext_getElem? fun j => ?_
      by_cases hj : j < i
      · exact hq j hj
      · rw [List.getElem?_eq_none (by omega), List.getElem?_eq_none (by rw [List.length_map]; omega)]
    subst this
    exact Ev.step (fun k => laws_toRowS.l0.eq_2 _ _ _ k) (Ev_neg (by omega) (Ev.now _))
  | succ d ih =>
    intro i acc hd hi ha hq
    have ei : wrap64 ((i : Int) + 1) = ((i + 1 : Nat) : Int) := by rw [w64 (by omega) (by omega)]; omega
    refine Ev.step (fun k => laws_toRowS.l0.eq_2 _ _ _ k) (Ev_pos (by omega) (Ev_pos (by omega) (Ev_bindp rfl (Ev_pos (by omega) ?_))))
    rw [ei]
    refine ih (i + 1) _ (by omega) (by omega) (by simpa using ha) fun j hj => ?_
    by_cases e : j = i
    · subst e
      have hj' : j < l.length := by omega
      rw [show ((j : Int)).toNat = j from by omega, List.getElem?_set_self (by omega), List.getElem?_map, List.getElem?_eq_getElem hj']
      have : rd_T29 l (j : Int) = l[j] := by unfold rd_T29; rw [show ((j : Int)).toNat = j from by omega, List.getD_eq_getElem?_getD, List.getElem?_eq_getElem hj']; rfl
      rw [this]; rfl
    · rw [show ((i : Int)).toNat = i from by omega, List.getElem?_set_ne (by omega)]
      exact hq j (by omega)
theorem toRowS_ev (l : List S29) (hl : l.length ≤ 1048576) : Ev (fun k => laws_toRowS.f k l) (l.map rowOf) := by
  refine Ev_pos (by omega) (Ev_pos (by omega) ?_)
  refine toRowS_loop l hl l.length 0 _ (by omega) (by omega) (by simp) fun j hj => by omega

theorem eqRow_same (x : S31) : laws_eqRow.f x.f0 x.f1 x.f2 x.f3 x.f4 x.f5 x.f6 x.f7 x.f8 x.f9 x.f0 x.f1 x.f2 x.f3 x.f4 x.f5 x.f6 x.f7 x.f8 x.f9 = some true := by
  unfold laws_eqRow.f; simp
theorem eqRowS_loop (l : List S31) (hl : l.length ≤ 1048576) : ∀ (d i : Nat), l.length - i = d → i ≤ l.length → Ev (fun k => laws_eqRowS.l0 k l l (i : Int)) true := by
  intro d
  induction d with
  | zero =>
    intro i hd hi
    exact Ev.step (fun k => laws_eqRowS.l0.eq_2 _ _ _ k) (Ev_neg (by omega) (Ev.now _))
  | succ d ih =>
    intro i hd hi
    have ei : wrap64 ((i : Int) + 1) = ((i + 1 : Nat) : Int) := by rw [w64 (by omega) (by omega)]; omega
    refine Ev.step (fun k => laws_eqRowS.l0.eq_2 _ _ _ k) (Ev_pos (by omega) (Ev_pos (by omega) (Ev_pos (by omega) (Ev_bindp (eqRow_same _) (Ev_pos rfl ?_)))))
    rw [ei]; exact ih (i + 1) (by omega) (by omega)
theorem eqRowS_ev (l : List S31) (hl : l.length ≤ 1048576) : Ev (fun k => laws_eqRowS.f k l l) true :=
  Ev_pos rfl (eqRowS_loop l hl l.length 0 (by omega) (by omega))

theorem same_loop (a b : List S31) (hl : a.length ≤ 1048576) (hab : a.length = b.length) : ∀ (d i : Nat), a.length - i = d → i ≤ a.length →
    ∃ r : Bool, Ev (fun k => spec_SameReport.l0 k a b (i : Int)) r ∧ Ev (fun k => impl_Row.l0 k a b (a.length : Int) (i : Int)) r := by
  intro d
  induction d with
  | zero =>
    intro i hd hi
    exact ⟨true, Ev.step (fun k => spec_SameReport.l0.eq_2 _ _ _ k) (Ev_neg (by omega) (Ev.now _)), Ev.step (fun k => impl_Row.l0.eq_2 _ _ _ _ k) (Ev_neg (by omega) (Ev.now _))⟩
  | succ d ih =>
    intro i hd hi
    have ei : wrap64 ((i : Int) + 1) = ((i + 1 : Nat) : Int) := by rw [w64 (by omega) (by omega)]; omega
    obtain ⟨r, h1, h2⟩ := ih (i + 1) (by omega) (by omega)
    generalize hc : (!((((rd_T31 a (i : Int)).f0).toList) == (((rd_T31 b (i : Int)).f0).toList)) || (!(((rd_T31 a (i : Int)).f1) == ((rd_T31 b (i : Int)).f1)) || (!(((rd_T31 a (i : Int)).f2) == ((rd_T31 b (i : Int)).f2)) || (!(((rd_T31 a (i : Int)).f3) == ((rd_T31 b (i : Int)).f3)) || (!(((rd_T31 a (i : Int)).f4) == ((rd_T31 b (i : Int)).f4)) || (!(((rd_T31 a (i : Int)).f5) == ((rd_T31 b (i : Int)).f5)) || (!(((rd_T31 a (i : Int)).f6) == ((rd_T31 b (i : Int)).f6)) || (!(((rd_T31 a (i : Int)).f7) == ((rd_T31 b (i : Int)).f7)) || (!(((rd_T31 a (i : Int)).f8) == ((rd_T31 b (i : Int)).f8)) || (!(((rd_T31 a (i : Int)).f9) == ((rd_T31 b (i : Int)).f9)))))))))))) = c
    cases c with
    | true =>
      exact ⟨false, Ev.step (fun k => spec_SameReport.l0.eq_2 _ _ _ k) (Ev_pos (by omega) (Ev_pos (by omega) (Ev_pos (by omega) (Ev_pos hc (Ev.now _))))), Ev.step (fun k => impl_Row.l0.eq_2 _ _ _ _ k) (Ev_pos (by omega) (Ev_pos (by omega) (Ev_pos (by omega) (Ev_pos (by omega) (Ev_pos hc (Ev.now _))))))⟩
    | false =>
      refine ⟨r, Ev.step (fun k => spec_SameReport.l0.eq_2 _ _ _ k) (Ev_pos (by omega) (Ev_pos (by omega) (Ev_pos (by omega) (Ev_neg (by rw [hc]; decide) ?_)))), Ev.step (fun k => impl_Row.l0.eq_2 _ _ _ _ k) (Ev_pos (by omega) (Ev_pos (by omega) (Ev_pos (by omega) (Ev_pos (by omega) (Ev_neg (by rw [hc]; decide) ?_)))))⟩
      · rw [ei]; exact h1
      · rw [ei]; exact h2
theorem same_ev (a b : List S31) (hl : a.length ≤ 1048576) : ∃ r : Bool, Ev (fun k => spec_SameReport.f k a b) r ∧ Ev (fun k => impl_SameReport.f k a b) r := by
  by_cases h : (a.length : Int) = (b.length : Int)
  · obtain ⟨r, h1, h2⟩ := same_loop a b hl (by omega) a.length 0 (by omega) (by omega)
    exact ⟨r, Ev_pos h h1, Ev.bind (Ev_pos h h2) (Ev.now _)⟩
  · exact ⟨false, Ev_neg h (Ev.now _), Ev.bind (Ev_neg h (Ev.now _)) (Ev.now _)⟩

theorem FnExactSameReport (a b : List S29) (ha : a.length ≤ 9223372036854775807) (hb : b.length ≤ 9223372036854775807) (ka : ∀ j : Nat, j < a.length → (rd_T29 a (j : Int)).f0.size ≤ 9223372036854775807) (kb : ∀ j : Nat, j < b.length → (rd_T29 b (j : Int)).f0.size ≤ 9223372036854775807) :
    ∃ k, laws_FnExactSameReport.f k a b = some true := by
  refine Ev.rounds (r := true) ?_
  obtain ⟨r, hr, hq⟩ := szRowS_ev a ha ka 1048576 (by decide) (by decide)
  refine Ev.bind hr ?_
  by_cases c : r < 0
  · exact Ev_pos c (Ev.now _)
  refine Ev_neg c ?_
  rcases hq with hq | ⟨q0, q1, q2, q3⟩
  · exact absurd hq c
  obtain ⟨r', hr', hq'⟩ := szRowS_ev b hb kb r q0 q1
  refine Ev.bind hr' ?_
  by_cases c' : r' < 0
  · exact Ev_pos c' (Ev.now _)
  refine Ev_neg c' ?_
  rcases hq' with hq' | ⟨p0, p1, p2, p3⟩
  · exact absurd hq' c'
  obtain ⟨t, ht, hu⟩ := same_ev (a.map rowOf) (b.map rowOf) (by rw [List.length_map]; exact q2)
  refine Ev.bind (toRowS_ev a q2) (Ev.bind (toRowS_ev b p2) (Ev.bind ht (Ev.bind (toRowS_ev a q2) (Ev.bind (toRowS_ev b p2) (Ev.bind hu (Ev_neg (by simp) ?_))))))
  refine Ev.bind (toRowS_ev a q2) (Ev.bind (eqRowS_ev _ (by rw [List.length_map]; exact q2)) (Ev_pos rfl ?_))
  exact Ev.bind (toRowS_ev b p2) (Ev.bind (eqRowS_ev _ (by rw [List.length_map]; exact p2)) (Ev_pos rfl (Ev.now _)))

end Go.Proofs.Ytammijioeeiejaa.Pure
