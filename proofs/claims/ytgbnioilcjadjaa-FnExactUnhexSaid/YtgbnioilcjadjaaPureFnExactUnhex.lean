/- What is proved here: the Go law FnExactUnhex answers true for every input, over the functions that print.sh printed; no condition. -/
import Derived.Test.YtgbnioilcjadjaaPFnExactUnhexx1
set_option linter.unusedVariables false
set_option linter.unusedSimpArgs false
namespace Go.Proofs.Ytgbnioilcjadjaa.Pure
open Go.RowKit Go.Proofs.Ytgbnioilcjadjaa.PFnExactUnhex Go.Proofs.YtgbnioilcjadjaaW.PrintWords Go.Proofs.YtgbnioilcjadjaaW.PrintLast

theorem Ev_pos {α : Type} {c : Prop} [Decidable c] {a b : Nat → Option α} {r : α} (h : c) (e : Ev a r) : Ev (fun k => if c then a k else b k) r :=
  Ev.congr (fun k => if_pos h) e
theorem Ev_neg {α : Type} {c : Prop} [Decidable c] {a b : Nat → Option α} {r : α} (h : ¬ c) (e : Ev b r) : Ev (fun k => if c then a k else b k) r :=
  Ev.congr (fun k => if_neg h) e
theorem Ev_bindp {α β : Type} {x : Option α} {f : Nat → α → Option β} {a : α} {r : β} (h : x = some a) (e : Ev (fun n => f n a) r) : Ev (fun n => x.bind (f n)) r := by
  subst h
  exact e
theorem Ev_is {α : Type} {x : Option α} {r : α} (h : x = some r) : Ev (fun _ => x) r := ⟨0, fun _ _ => h⟩

def fhV (c : Int) : Int := if 48 ≤ c ∧ c ≤ 57 then c - 48 else if 97 ≤ c ∧ c ≤ 102 then c - 87 else -1
theorem fhV_range (c : Int) : -1 ≤ fhV c ∧ fhV c ≤ 15 := by
  unfold fhV
  split
  · omega
  · split <;> omega
def unhexStep (s : ByteArray) (i : Nat) : List Int := [(16 * fhV (bt s (2 * i : Nat)) + fhV (bt s (2 * i + 1 : Nat))) % 256]
/-- The bytes of the first n pairs. -/
def unhexL (s : ByteArray) : Nat → List Int
  | 0 => []
  | n + 1 => unhexL s n ++ unhexStep s n
theorem unhexL_length (s : ByteArray) : ∀ n, (unhexL s n).length = n
  | 0 => rfl
  | n + 1 => by simp [unhexL, unhexStep, unhexL_length s n]
/-- Are the pairs from i on, d of them, digits? -/
def pairsOk (s : ByteArray) : Nat → Nat → Bool
  | 0, _ => true
  | d + 1, i => if fhV (bt s (2 * i : Nat)) < 0 then false else if fhV (bt s (2 * i + 1 : Nat)) < 0 then false else pairsOk s d (i + 1)
def unhexV (s : ByteArray) : ByteArray × Bool := if s.size % 2 = 1 then (⟨#[]⟩, false) else if pairsOk s (s.size / 2) 0 = true then (strOfNums (unhexL s (s.size / 2)), true) else (⟨#[]⟩, false)

theorem fromHex_at20 : ∀ c : Fin 256, spec_l1FromHex.f 20 (c.val : Int) = some (fhV (c.val : Int)) := by decide +kernel
theorem fromHex_ev (c : Int) (h0 : 0 ≤ c) (h1 : c ≤ 255) : Ev (fun k => spec_l1FromHex.f k c) (fhV c) := by
  have h := fromHex_at20 ⟨c.toNat, by omega⟩
  have e : ((c.toNat : Nat) : Int) = c := by omega
  simp only [e] at h
  exact Ev.of (fun k => spec_l1FromHex.mono c k) h

theorem w64 {n : Int} (h0 : -9223372036854775808 ≤ n) (h1 : n ≤ 9223372036854775807) : wrap64 n = n := by
  unfold wrap64
  omega

theorem spec_unhex_l (s : ByteArray) (hs : s.size ≤ 1048576) (h2 : s.size % 2 = 0) : ∀ (d i : Nat), i + d = s.size / 2 → Ev (fun k => spec_Unhex.l0 k s (unhexL s i) ((2 * i : Nat) : Int)) (if pairsOk s d i = true then (strOfNums (unhexL s (s.size / 2)), true) else (⟨#[]⟩, false)) := by
  intro d
  induction d with
  | zero =>
    intro i hi
    refine Ev.step (fun k => spec_Unhex.l0.eq_2 _ _ _ k) (Ev_neg (by omega) ?_)
    obtain rfl : i = s.size / 2 := by omega
    exact Ev_is (by simp [pairsOk])
  | succ d ih =>
    intro i hi
    have b1 := bt_range s (2 * i : Nat)
    have b2 := bt_range s (2 * i + 1 : Nat)
    have r1 := fhV_range (bt s (2 * i : Nat))
    have r2 := fhV_range (bt s (2 * i + 1 : Nat))
    have e1 : wrap64 (((2 * i : Nat) : Int) + 1) = ((2 * i + 1 : Nat) : Int) := by rw [w64 (by omega) (by omega)]; omega
    have e2 : wrap64 (((2 * i : Nat) : Int) + 2) = ((2 * (i + 1) : Nat) : Int) := by rw [w64 (by omega) (by omega)]; omega
    have hl := unhexL_length s i
    refine Ev.step (fun k => spec_Unhex.l0.eq_2 _ _ _ k) (Ev_pos (by omega) (Ev_pos (by omega) (Ev.bind (fromHex_ev _ b1.1 b1.2) ?_)))
    rw [e1, e2]
    refine Ev_pos (by omega) (Ev_pos (by omega) (Ev.bind (fromHex_ev _ b2.1 b2.2) ?_))
    by_cases a1 : fhV (bt s (2 * i : Nat)) < 0
    · exact Ev_pos a1 (Ev_is (by rw [show pairsOk s (d + 1) i = false by simp only [pairsOk]; rw [if_pos a1]]; rfl))
    by_cases a2 : fhV (bt s (2 * i + 1 : Nat)) < 0
    · exact Ev_neg a1 (Ev_pos a2 (Ev_is (by rw [show pairsOk s (d + 1) i = false by simp only [pairsOk]; rw [if_neg a1, if_pos a2]]; rfl)))
    refine Ev_neg a1 (Ev_neg a2 (Ev_pos (by omega) ?_))
    have e3 : wrap64 (wrap64 (16 * fhV (bt s (2 * i : Nat))) + fhV (bt s (2 * i + 1 : Nat))) % 256 = (16 * fhV (bt s (2 * i : Nat)) + fhV (bt s (2 * i + 1 : Nat))) % 256 := by
      rw [w64 (n := 16 * fhV (bt s (2 * i : Nat))) (by omega) (by omega), w64 (by omega) (by omega)]
    rw [e3]
    have := ih (i + 1) (by omega)
    rw [show pairsOk s (d + 1) i = pairsOk s d (i + 1) by simp only [pairsOk]; rw [if_neg a1, if_neg a2]]
    exact this
theorem spec_Unhex_ev (s : ByteArray) (hs : s.size ≤ 1048576) : Ev (fun k => spec_Unhex.f k s) (unhexV s) := by
  unfold unhexV
  by_cases h : s.size % 2 = 1
  · rw [if_pos h]
    exact Ev_pos (by omega) (Ev.now _)
  · rw [if_neg h]
    exact Ev_neg (by omega) (spec_unhex_l s hs (by omega) (s.size / 2) 0 (by omega))

theorem half_ev (c : Int) (h0 : 0 ≤ c) (h1 : c ≤ 255) : Ev (fun k => impl_half.f k c) (fhV c) := by
  by_cases h : c ≥ 48
  · refine Ev_pos h (Ev.step (fun k => impl_half.j0.eq_2 _ _ k) ?_)
    by_cases h' : c ≤ 57
    · have e : fhV c = c - 48 := by unfold fhV; rw [if_pos ⟨h, h'⟩]
      rw [e]
      exact Ev_pos (decide_eq_true h') (Ev_is (by congr 1; omega))
    · refine Ev_neg (by simpa using h') ?_
      by_cases a1 : c ≥ 97
      · by_cases a2 : c ≤ 102
        · have e : fhV c = c - 87 := by unfold fhV; rw [if_neg (fun x => h' x.2), if_pos ⟨a1, a2⟩]
          rw [e]
          exact Ev_pos a1 (Ev_pos a2 (Ev_is (by congr 1; omega)))
        · have e : fhV c = -1 := by unfold fhV; rw [if_neg (fun x => h' x.2), if_neg (fun x => a2 x.2)]
          rw [e]
          exact Ev_pos a1 (Ev_neg a2 (Ev.now _))
      · have e : fhV c = -1 := by unfold fhV; rw [if_neg (fun x => h' x.2), if_neg (fun x => a1 x.1)]
        rw [e]
        exact Ev_neg a1 (Ev.now _)
  · have e : fhV c = -1 := by unfold fhV; rw [if_neg (fun x => h x.1), if_neg (fun x => by omega)]
    rw [e]
    exact Ev_neg h (Ev.step (fun k => impl_half.j0.eq_2 _ _ k) (Ev_neg (by decide) (Ev_neg (by omega) (Ev.now _))))

theorem impl_unhex_l (s : ByteArray) (hs : s.size ≤ 1048576) (h2 : s.size % 2 = 0) : ∀ (d i : Nat), i + d = s.size / 2 → Ev (fun k => impl_Unhex.l0 k s (unhexL s i) ((2 * i : Nat) : Int)) (if pairsOk s d i = true then (strOfNums (unhexL s (s.size / 2)), true) else (⟨#[]⟩, false)) := by
  intro d
  induction d with
  | zero =>
    intro i hi
    refine Ev.step (fun k => impl_Unhex.l0.eq_2 _ _ _ k) (Ev_neg (by omega) ?_)
    obtain rfl : i = s.size / 2 := by omega
    exact Ev_is (by simp [pairsOk])
  | succ d ih =>
    intro i hi
    have b1 := bt_range s (2 * i : Nat)
    have b2 := bt_range s (2 * i + 1 : Nat)
    have r1 := fhV_range (bt s (2 * i : Nat))
    have r2 := fhV_range (bt s (2 * i + 1 : Nat))
    have e1 : wrap64 (((2 * i : Nat) : Int) + 1) = ((2 * i + 1 : Nat) : Int) := by rw [w64 (by omega) (by omega)]; omega
    have e2 : wrap64 (((2 * i : Nat) : Int) + 2) = ((2 * (i + 1) : Nat) : Int) := by rw [w64 (by omega) (by omega)]; omega
    have hl := unhexL_length s i
    refine Ev.step (fun k => impl_Unhex.l0.eq_2 _ _ _ k) (Ev_pos (by omega) (Ev_pos (by omega) (Ev.bind (half_ev _ b1.1 b1.2) ?_)))
    rw [e1, e2]
    refine Ev_pos (by omega) (Ev_pos (by omega) (Ev.bind (half_ev _ b2.1 b2.2) ?_))
    by_cases a1 : fhV (bt s (2 * i : Nat)) < 0
    · exact Ev_pos a1 (Ev_is (by rw [show pairsOk s (d + 1) i = false by simp only [pairsOk]; rw [if_pos a1]]; rfl))
    by_cases a2 : fhV (bt s (2 * i + 1 : Nat)) < 0
    · exact Ev_neg a1 (Ev_pos a2 (Ev_is (by rw [show pairsOk s (d + 1) i = false by simp only [pairsOk]; rw [if_neg a1, if_pos a2]]; rfl)))
    refine Ev_neg a1 (Ev_neg a2 (Ev_pos (by omega) ?_))
    have e3 : wrap64 (wrap64 (16 * fhV (bt s (2 * i : Nat))) + fhV (bt s (2 * i + 1 : Nat))) % 256 = (16 * fhV (bt s (2 * i : Nat)) + fhV (bt s (2 * i + 1 : Nat))) % 256 := by
      rw [w64 (n := 16 * fhV (bt s (2 * i : Nat))) (by omega) (by omega), w64 (by omega) (by omega)]
    rw [e3]
    have := ih (i + 1) (by omega)
    rw [show pairsOk s (d + 1) i = pairsOk s d (i + 1) by simp only [pairsOk]; rw [if_neg a1, if_neg a2]]
    exact this
theorem impl_Unhex_ev (s : ByteArray) (hs : s.size ≤ 1048576) : Ev (fun k => impl_Unhex.f k s) (unhexV s) := by
  unfold unhexV
  by_cases h : s.size % 2 = 1
  · rw [if_pos h]
    exact Ev_pos (by omega) (Ev.now _)
  · rw [if_neg h]
    exact Ev_neg (by omega) (impl_unhex_l s hs (by omega) (s.size / 2) 0 (by omega))

theorem FnExactUnhex : laws_FnExactUnhex.Pure := by
  intro s hs
  refine Ev.rounds (r := true) ?_
  by_cases h : (s.size : Int) > 1048576
  · exact Ev_pos h (Ev.now _)
  · exact Ev_neg h (Ev.bind (spec_Unhex_ev s (by omega)) (Ev.bind (impl_Unhex_ev s (by omega)) (Ev_pos rfl (Ev_neg (by simp) (Ev.now _)))))

end Go.Proofs.Ytgbnioilcjadjaa.Pure
