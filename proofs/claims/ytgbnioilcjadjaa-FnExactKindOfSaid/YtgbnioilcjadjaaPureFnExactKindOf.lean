/- What is proved here: the Go law FnExactKindOf answers true for every input, over the functions that print.sh printed; no condition. -/
import Derived.Test.YtgbnioilcjadjaaPFnExactKindOfx1
set_option linter.unusedVariables false
set_option linter.unusedSimpArgs false
namespace Go.Proofs.Ytgbnioilcjadjaa.Pure
open Go.RowKit Go.Proofs.Ytgbnioilcjadjaa.PFnExactKindOf Go.Proofs.YtgbnioilcjadjaaW.PrintWords Go.Proofs.YtgbnioilcjadjaaW.PrintLast

def kwV (a : Int) : ByteArray := if a = 1 then ⟨#[99]⟩ else if a = 2 then ⟨#[103]⟩ else if a = 3 then ⟨#[109, 115]⟩ else ⟨#[]⟩
theorem impl_KindWord_eq (a : Int) : impl_KindWord.f a = some (kwV a) := by
  unfold impl_KindWord.f kwV
  by_cases h1 : a = 1
  · simp [h1]
  by_cases h2 : a = 2
  · simp [h2]
  by_cases h3 : a = 3
  · simp [h3]
  simp [h1, h2, h3]

theorem Ev_pos {α : Type} {c : Prop} [Decidable c] {a b : Nat → Option α} {r : α} (h : c) (e : Ev a r) : Ev (fun k => if c then a k else b k) r :=
  Ev.congr (fun k => if_pos h) e
theorem Ev_neg {α : Type} {c : Prop} [Decidable c] {a b : Nat → Option α} {r : α} (h : ¬ c) (e : Ev b r) : Ev (fun k => if c then a k else b k) r :=
  Ev.congr (fun k => if_neg h) e
theorem Ev_bindp {α β : Type} {x : Option α} {f : Nat → α → Option β} {a : α} {r : β} (h : x = some a) (e : Ev (fun n => f n a) r) : Ev (fun n => x.bind (f n)) r := by
  subst h
  exact e
theorem Ev_is {α : Type} {x : Option α} {r : α} (h : x = some r) : Ev (fun _ => x) r := ⟨0, fun _ _ => h⟩

theorem w64 {n : Int} (h0 : -9223372036854775808 ≤ n) (h1 : n ≤ 9223372036854775807) : wrap64 n = n := by
  unfold wrap64
  omega

def kindOfV (s : ByteArray) : Int := if (kwV 1).toList = s.toList then 1 else if (kwV 2).toList = s.toList then 2 else if (kwV 3).toList = s.toList then 3 else 0
theorem impl_KindOf_ev (s : ByteArray) : Ev (fun k => impl_KindOf.f k s) (kindOfV s) := by
  unfold kindOfV
  show Ev (fun k => impl_KindOf.l0 k s 1) _
  refine Ev.step (fun k => impl_KindOf.l0.eq_2 _ _ k) (Ev_pos (by omega) (Ev_bindp (impl_KindWord_eq _) ?_))
  by_cases h1 : (kwV 1).toList = s.toList
  · rw [if_pos h1]; exact Ev_pos h1 (Ev.now _)
  rw [if_neg h1]
  refine Ev_neg h1 (Ev.step (fun k => impl_KindOf.l0.eq_2 _ _ k) (Ev_pos (by unfold wrap64; omega) (Ev_bindp (impl_KindWord_eq _) ?_)))
  rw [show wrap64 (1 + 1) = 2 from by unfold wrap64; omega]
  by_cases h2 : (kwV 2).toList = s.toList
  · rw [if_pos h2]; exact Ev_pos h2 (Ev.now _)
  rw [if_neg h2]
  refine Ev_neg h2 (Ev.step (fun k => impl_KindOf.l0.eq_2 _ _ k) (Ev_pos (by unfold wrap64; omega) (Ev_bindp (impl_KindWord_eq _) ?_)))
  rw [show wrap64 (2 + 1) = 3 from by unfold wrap64; omega]
  by_cases h3 : (kwV 3).toList = s.toList
  · rw [if_pos h3]; exact Ev_pos h3 (Ev.now _)
  rw [if_neg h3]
  exact Ev_neg h3 (Ev.step (fun k => impl_KindOf.l0.eq_2 _ _ k) (Ev_neg (by unfold wrap64; omega) (Ev.now _)))

theorem l1In_eq (a b c : Int) : spec_l1In.f a b c = some (decide (b ≤ a ∧ a ≤ c)) := by
  unfold spec_l1In.f
  by_cases h : b ≤ a <;> simp [h]

theorem spec_KindWord_eq (a : Int) : spec_KindWord.f a = some (kwV a) := by
  by_cases h1 : a = 1
  · subst h1; decide +kernel
  by_cases h2 : a = 2
  · subst h2; decide +kernel
  by_cases h3 : a = 3
  · subst h3; decide +kernel
  have h : ¬ (1 ≤ a ∧ a ≤ 3) := by omega
  unfold spec_KindWord.f kwV
  simp only [l1In_eq, Option.bind_some]
  simp [h, h1, h2, h3]

theorem spec_KindOf_ev (s : ByteArray) : Ev (fun k => spec_KindOf.f k s) (kindOfV s) := by
  unfold kindOfV
  show Ev (fun k => spec_KindOf.l0 k s 1) _
  refine Ev.step (fun k => spec_KindOf.l0.eq_2 _ _ k) (Ev_pos (by omega) (Ev_bindp (spec_KindWord_eq _) ?_))
  by_cases h1 : (kwV 1).toList = s.toList
  · rw [if_pos h1]; exact Ev_pos h1 (Ev.now _)
  rw [if_neg h1]
  refine Ev_neg h1 (Ev.step (fun k => spec_KindOf.l0.eq_2 _ _ k) (Ev_pos (by unfold wrap64; omega) (Ev_bindp (spec_KindWord_eq _) ?_)))
  rw [show wrap64 (1 + 1) = 2 from by unfold wrap64; omega]
  by_cases h2 : (kwV 2).toList = s.toList
  · rw [if_pos h2]; exact Ev_pos h2 (Ev.now _)
  rw [if_neg h2]
  refine Ev_neg h2 (Ev.step (fun k => spec_KindOf.l0.eq_2 _ _ k) (Ev_pos (by unfold wrap64; omega) (Ev_bindp (spec_KindWord_eq _) ?_)))
  rw [show wrap64 (2 + 1) = 3 from by unfold wrap64; omega]
  by_cases h3 : (kwV 3).toList = s.toList
  · rw [if_pos h3]; exact Ev_pos h3 (Ev.now _)
  rw [if_neg h3]
  exact Ev_neg h3 (Ev.step (fun k => spec_KindOf.l0.eq_2 _ _ k) (Ev_neg (by unfold wrap64; omega) (Ev.now _)))

theorem FnExactKindOf : laws_FnExactKindOf.Pure := by
  intro s hs
  refine Ev.rounds (r := true) ?_
  by_cases h : (s.size : Int) > 1048576
  · exact Ev_pos h (Ev.now _)
  · exact Ev_neg h (Ev.bind (spec_KindOf_ev s) (Ev.bind (impl_KindOf_ev s) (Ev_pos rfl (Ev.now _))))

end Go.Proofs.Ytgbnioilcjadjaa.Pure
