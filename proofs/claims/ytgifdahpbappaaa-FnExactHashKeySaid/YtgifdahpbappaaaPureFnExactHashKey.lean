/- What is proved here: the Go law FnExactHashKey answers true for every input, over the functions that print.sh printed; no condition. -/
import Derived.Test.YtgifdahpbappaaaPFnExactHashKeyx1
set_option linter.unusedVariables false
set_option linter.unusedSimpArgs false
namespace Go.Proofs.Ytgifdahpbappaaa.Pure
open Go.RowKit Go.Proofs.Ytgifdahpbappaaa.PFnExactHashKey Go.Proofs.YtgifdahpbappaaaW.PrintWords Go.Proofs.YtgifdahpbappaaaW.PrintLast

theorem Ev_pos {α : Type} {c : Prop} [Decidable c] {a b : Nat → Option α} {r : α} (h : c) (e : Ev a r) : Ev (fun k => if c then a k else b k) r :=
  Ev.congr (fun k => if_pos h) e
theorem Ev_neg {α : Type} {c : Prop} [Decidable c] {a b : Nat → Option α} {r : α} (h : ¬ c) (e : Ev b r) : Ev (fun k => if c then a k else b k) r :=
  Ev.congr (fun k => if_neg h) e
theorem Ev_bindp {α β : Type} {x : Option α} {f : Nat → α → Option β} {a : α} {r : β} (h : x = some a) (e : Ev (fun n => f n a) r) : Ev (fun n => x.bind (f n)) r := by
  subst h
  exact e
theorem Ev_is {α : Type} {x : Option α} {r : α} (h : x = some r) : Ev (fun _ => x) r := ⟨0, fun _ _ => h⟩

theorem w64 {n : Int} (h0 : -9223372036854775808 ≤ n) (h1 : n ≤ 9223372036854775807) : wrap64 n = n := by
  unfold wrap64
  omega

theorem i64_xor_nat (a b : Nat) (ha : a < 4294967296) (hb : b < 4294967296) : Go.bits .xor .i64 (a : Int) (b : Int) = ((a ^^^ b : Nat) : Int) := by
  have hx : a ^^^ b < 2 ^ 32 := Nat.xor_lt_two_pow (by omega) (by omega)
  show IntKind.i64.wrap ((BitVec.ofInt 64 (a : Int) ^^^ BitVec.ofInt 64 (b : Int)).toNat : Int) = _
  rw [BitVec.toNat_xor, BitVec.ofInt_natCast, BitVec.ofInt_natCast, BitVec.toNat_ofNat, BitVec.toNat_ofNat, Nat.mod_eq_of_lt (show a < 2 ^ 64 by omega), Nat.mod_eq_of_lt (show b < 2 ^ 64 by omega), IntKind.wrap_i64]
  omega
theorem u32_xor_nat' (a b : Nat) (ha : a < 4294967296) (hb : b < 4294967296) : Go.bits .xor .u32 (a : Int) (b : Int) = ((a ^^^ b : Nat) : Int) := by
  have hx : a ^^^ b < 2 ^ 32 := Nat.xor_lt_two_pow (by omega) (by omega)
  show IntKind.u32.wrap ((BitVec.ofInt 32 (a : Int) ^^^ BitVec.ofInt 32 (b : Int)).toNat : Int) = _
  rw [BitVec.toNat_xor, BitVec.ofInt_natCast, BitVec.ofInt_natCast, BitVec.toNat_ofNat, BitVec.toNat_ofNat, Nat.mod_eq_of_lt (show a < 2 ^ 32 by omega), Nat.mod_eq_of_lt (show b < 2 ^ 32 by omega), IntKind.wrap_u32]
  omega
/-- The hash behind n bytes. -/
def hashV (s : ByteArray) : Nat → Int
  | 0 => 2166136261
  | n + 1 => (((hashV s n).toNat ^^^ (bt s n).toNat : Nat) : Int) * 16777619 % 4294967296
theorem hashV_range (s : ByteArray) (n : Nat) : 0 ≤ hashV s n ∧ hashV s n < 4294967296 := by
  cases n with
  | zero => simp [hashV]
  | succ n => simp only [hashV]; omega
theorem hash_xor (s : ByteArray) (n : Nat) : ((hashV s n).toNat ^^^ (bt s n).toNat : Nat) < 4294967296 := by
  have h := hashV_range s n
  have b := bt_range s n
  exact Nat.xor_lt_two_pow (n := 32) (by omega) (by omega)
theorem spec_hash_l (s : ByteArray) (hs : s.size ≤ 140737488351232) : ∀ (d i : Nat), i + d = s.size → Ev (fun k => spec_HashKey.l0 k s (hashV s i) (i : Int)) (hashV s s.size) := by
  intro d
  induction d with
  | zero =>
    intro i hi
    refine Ev.step (fun k => spec_HashKey.l0.eq_2 _ _ _ k) (Ev_neg (by omega) ?_)
    obtain rfl : i = s.size := by omega
    exact Ev.now _
  | succ d ih =>
    intro i hi
    refine Ev.step (fun k => spec_HashKey.l0.eq_2 _ _ _ k) (Ev_pos (by omega) (Ev_pos (by omega) ?_))
    have h := hashV_range s i
    have b := bt_range s i
    have x := hash_xor s i
    have e1 : wrap64 (bt s (i : Int)) = (((bt s i).toNat : Nat) : Int) := by rw [w64 (by omega) (by omega)]; omega
    have e2 : hashV s i = (((hashV s i).toNat : Nat) : Int) := by omega
    have e3 : wrap64 ((i : Int) + 1) = ((i + 1 : Nat) : Int) := by rw [w64 (by omega) (by omega)]; omega
    have e4 : Int.tmod (wrap64 ((Go.bits .xor .i64 (hashV s i) (wrap64 (bt s (i : Int)))) * 16777619)) 4294967296 = hashV s (i + 1) := by
      rw [e1, e2, i64_xor_nat _ _ (by omega) (by omega), w64 (by omega) (by omega), Int.tmod_eq_emod_of_nonneg (by omega)]
      rfl
    rw [e3, e4]
    exact ih (i + 1) (by omega)
theorem impl_hash_l (s : ByteArray) (hs : s.size ≤ 140737488351232) : ∀ (d i : Nat), i + d = s.size → Ev (fun k => impl_HashKey.l0 k s (hashV s i) (s.size : Int) (i : Int)) (hashV s s.size) := by
  intro d
  induction d with
  | zero =>
    intro i hi
    refine Ev.step (fun k => impl_HashKey.l0.eq_2 _ _ _ _ k) (Ev_neg (by omega) ?_)
    obtain rfl : i = s.size := by omega
    have h := hashV_range s s.size
    exact Ev_is (by rw [w64 (by omega) (by omega)])
  | succ d ih =>
    intro i hi
    refine Ev.step (fun k => impl_HashKey.l0.eq_2 _ _ _ _ k) (Ev_pos (by omega) (Ev_pos (by omega) (Ev_pos (by omega) ?_)))
    have h := hashV_range s i
    have b := bt_range s i
    have x := hash_xor s i
    have e1 : bt s (i : Int) % 4294967296 = (((bt s i).toNat : Nat) : Int) := by omega
    have e2 : hashV s i = (((hashV s i).toNat : Nat) : Int) := by omega
    have e3 : wrap64 ((i : Int) + 1) = ((i + 1 : Nat) : Int) := by rw [w64 (by omega) (by omega)]; omega
    have e4 : ((Go.bits .xor .u32 (hashV s i) ((bt s (i : Int)) % 4294967296)) * 16777619) % 4294967296 = hashV s (i + 1) := by
      rw [e1, e2, u32_xor_nat' _ _ (by omega) (by omega)]
      rfl
    rw [e3, e4]
    exact ih (i + 1) (by omega)
theorem spec_HashKey_ev (s : ByteArray) (hs : s.size ≤ 140737488351232) : Ev (fun k => spec_HashKey.f k s) (hashV s s.size) := spec_hash_l s hs s.size 0 (by omega)
theorem impl_HashKey_ev (s : ByteArray) (hs : s.size ≤ 140737488351232) : Ev (fun k => impl_HashKey.f k s) (hashV s s.size) := impl_hash_l s hs s.size 0 (by omega)

theorem FnExactHashKey : laws_FnExactHashKey.Pure := by
  intro s hs
  refine Ev.rounds (r := true) ?_
  by_cases h : (s.size : Int) > 1048576
  · exact Ev_pos h (Ev.now _)
  · exact Ev_neg h (Ev.bind (spec_HashKey_ev s hs) (Ev.bind (impl_HashKey_ev s hs) (Ev_pos rfl (Ev.now _))))

end Go.Proofs.Ytgifdahpbappaaa.Pure
