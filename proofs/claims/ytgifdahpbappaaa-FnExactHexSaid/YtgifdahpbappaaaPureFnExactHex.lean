/- What is proved here: the Go law FnExactHex answers true for every input, over the functions that print.sh printed; no condition. -/
import Derived.Test.YtgifdahpbappaaaPFnExactHexx1
set_option linter.unusedVariables false
set_option linter.unusedSimpArgs false
namespace Go.Proofs.Ytgifdahpbappaaa.Pure
open Go.RowKit Go.Proofs.Ytgifdahpbappaaa.PFnExactHex Go.Proofs.YtgifdahpbappaaaW.PrintWords Go.Proofs.YtgifdahpbappaaaW.PrintLast

theorem Ev_pos {α : Type} {c : Prop} [Decidable c] {a b : Nat → Option α} {r : α} (h : c) (e : Ev a r) : Ev (fun k => if c then a k else b k) r :=
  Ev.congr (fun k => if_pos h) e
theorem Ev_neg {α : Type} {c : Prop} [Decidable c] {a b : Nat → Option α} {r : α} (h : ¬ c) (e : Ev b r) : Ev (fun k => if c then a k else b k) r :=
  Ev.congr (fun k => if_neg h) e
theorem Ev_bindp {α β : Type} {x : Option α} {f : Nat → α → Option β} {a : α} {r : β} (h : x = some a) (e : Ev (fun n => f n a) r) : Ev (fun n => x.bind (f n)) r := by
  subst h
  exact e
theorem Ev_is {α : Type} {x : Option α} {r : α} (h : x = some r) : Ev (fun _ => x) r := ⟨0, fun _ _ => h⟩

theorem w64 {n : Int} (h0 : -9223372036854775808 ≤ n) (h1 : n ≤ 9223372036854775807) : wrap64 n = n := by
  unfold wrap64
  omega

/-- The digits' bytes. -/
def hexT : ByteArray := ⟨#[48, 49, 50, 51, 52, 53, 54, 55, 56, 57, 97, 98, 99, 100, 101, 102]⟩
def hexV (s : ByteArray) : Nat → List Int
  | 0 => []
  | n + 1 => hexV s n ++ [bt hexT (bt s n / 16), bt hexT (bt s n % 16)]
theorem hexV_length (s : ByteArray) : ∀ n, (hexV s n).length = 2 * n
  | 0 => rfl
  | n + 1 => by simp [hexV, hexV_length s n]; omega

theorem l1Digit_eq (c : Int) (h0 : 0 ≤ c) (h1 : c < 16) : spec_l1Digit.f c = some (bt (⟨#[48, 49, 50, 51, 52, 53, 54, 55, 56, 57, 97, 98, 99, 100, 101, 102]⟩ : ByteArray) c) := by
  unfold spec_l1Digit.f
  rw [if_pos h0, if_pos h1]

theorem spec_hex_l (s : ByteArray) (hs : s.size ≤ 1048576) : ∀ (d i : Nat), i + d = s.size → Ev (fun k => spec_Hex.l0 k s (hexV s i) (i : Int)) (strOfNums (hexV s s.size)) := by
  intro d
  induction d with
  | zero =>
    intro i hi
    refine Ev.step (fun k => spec_Hex.l0.eq_2 _ _ _ k) (Ev_neg (by omega) ?_)
    obtain rfl : i = s.size := by omega
    exact Ev.now _
  | succ d ih =>
    intro i hi
    have b := bt_range s i
    have e1 : wrap64 (bt s (i : Int)) = bt s i := w64 (by omega) (by omega)
    have e2 : wrap64 (Int.tdiv (bt s i) 16) = bt s i / 16 := by rw [Int.tdiv_eq_ediv_of_nonneg (by omega), w64 (by omega) (by omega)]
    have e3 : Int.tmod (bt s i) 16 = bt s i % 16 := Int.tmod_eq_emod_of_nonneg (by omega)
    have e4 : wrap64 ((i : Int) + 1) = ((i + 1 : Nat) : Int) := by rw [w64 (by omega) (by omega)]; omega
    have hl := hexV_length s i
    refine Ev.step (fun k => spec_Hex.l0.eq_2 _ _ _ k) (Ev_pos (by omega) (Ev_pos (by omega) ?_))
    rw [e1, e2, e3, e4]
    refine Ev_bindp (l1Digit_eq _ (by omega) (by omega)) (Ev_bindp (l1Digit_eq _ (by omega) (by omega)) (Ev_bindp rfl (Ev_pos (by simp [hl]; omega) ?_)))
    exact ih (i + 1) (by omega)
theorem spec_Hex_ev (s : ByteArray) (hs : s.size ≤ 1048576) : Ev (fun k => spec_Hex.f k s) (strOfNums (hexV s s.size)) := spec_hex_l s hs s.size 0 (by omega)

theorem impl_hex_l (s : ByteArray) (hs : s.size ≤ 1048576) : ∀ (d i : Nat), i + d = s.size → Ev (fun k => impl_Hex.l0 k s (hexV s i) (s.size : Int) (i : Int)) (strOfNums (hexV s s.size)) := by
  intro d
  induction d with
  | zero =>
    intro i hi
    refine Ev.step (fun k => impl_Hex.l0.eq_2 _ _ _ _ k) (Ev_neg (by omega) ?_)
    obtain rfl : i = s.size := by omega
    exact Ev.now _
  | succ d ih =>
    intro i hi
    have b := bt_range s i
    have e4 : wrap64 ((i : Int) + 1) = ((i + 1 : Nat) : Int) := by rw [w64 (by omega) (by omega)]; omega
    have e5 : Go.bits .and .u8 (bt s (i : Int)) 15 = bt s i % 16 := u8_and15 _ (by omega) (by omega)
    have hl := hexV_length s i
    refine Ev.step (fun k => impl_Hex.l0.eq_2 _ _ _ _ k) (Ev_pos (by omega) (Ev_pos (by omega) (Ev_pos (by omega) ?_)))
    rw [e4, e5]
    refine Ev_pos (by omega) (Ev_pos (by omega) (Ev_pos (by omega) (Ev_pos (by omega) (Ev_bindp rfl (Ev_pos (by simp [hl]; omega) ?_)))))
    exact ih (i + 1) (by omega)
theorem impl_Hex_ev (s : ByteArray) (hs : s.size ≤ 1048576) : Ev (fun k => impl_Hex.f k s) (strOfNums (hexV s s.size)) := impl_hex_l s hs s.size 0 (by omega)

theorem FnExactHex : laws_FnExactHex.Pure := by
  intro s hs
  refine Ev.rounds (r := true) ?_
  by_cases h : (s.size : Int) > 1048576
  · exact Ev_pos h (Ev.now _)
  · exact Ev_neg h (Ev.bind (spec_Hex_ev s (by omega)) (Ev.bind (impl_Hex_ev s (by omega)) (Ev_pos rfl (Ev.now _))))

end Go.Proofs.Ytgifdahpbappaaa.Pure
