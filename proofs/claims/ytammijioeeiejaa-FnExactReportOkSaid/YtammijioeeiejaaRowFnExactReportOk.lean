/- What is proved here: the row of the law FnExactReportOk, for every input; no condition. -/
import Derived.Test.YtammijioeeiejaaRows
import Derived.Test.YtammijioeeiejaaQFnExactReportOkx8
import Derived.Test.YtammijioeeiejaaPureFnExactReportOk
import Derived.WalkKit
import Derived.ProofKit
import Derived.OpenShut
import Derived.ShutString
import Derived.ChangeOld
import Derived.Below
import Derived.SizedLaws
import Derived.Lib.SmallJoins
import Derived.Deep.Slices
import Derived.Deep.Fields
import Derived.ChangeSame
namespace Go.Proofs.Ytammijioeeiejaa.fnExactReportOk
open Go.Joins Go.ChangeShapes Go.WideShapes Go.ChangeAt Go.RowKit Go.Deep
open Go.ChangeMaps (open_string shut_string)
set_option linter.unusedVariables false
theorem own : ownKnob Try.prog.godebug = none := by kernel_rfl
theorem laidOut : laidOutB Try.prog = true := by kernel_rfl
open Go.Proofs.YtammijioeeiejaaW.PrintWords Go.Proofs.YtammijioeeiejaaW.PrintLast Go.Proofs.Ytammijioeeiejaa.PFnExactReportOk
theorem cells_of {H : Type} {enc : TypeId × Value → H} {P : Program} {w : World} {base : Nat} {spare : Nat → Bool} {held : Bool} {fuel : Nat} {t : TypeId} {f0 f1 f2 f3 f4 f5 f6 f7 f8 f9 : Field} {cs : List Value} {x : DataW H × List MemPlace} (hs : P.underlying t = some (.struct #[f0, f1, f2, f3, f4, f5, f6, f7, f8, f9])) (hone : oneCellFields P #[f0, f1, f2, f3, f4, f5, f6, f7, f8, f9] = true) (hC : P.cellsOf t = 10)
    (h : DataW.trod enc P w base spare held fuel t cs = some x) :
    ∃ (c0 c1 c2 c3 c4 c5 c6 c7 c8 c9 : Value) (y0 y1 y2 y3 y4 y5 y6 y7 y8 y9 : DataW H × List MemPlace) (n : Nat), cs = [c0, c1, c2, c3, c4, c5, c6, c7, c8, c9] ∧
      DataW.trod enc P w base spare held n f0.type [c0] = some y0 ∧ DataW.trod enc P w base spare held n f1.type [c1] = some y1 ∧ DataW.trod enc P w base spare held n f2.type [c2] = some y2 ∧ DataW.trod enc P w base spare held n f3.type [c3] = some y3 ∧ DataW.trod enc P w base spare held n f4.type [c4] = some y4 ∧ DataW.trod enc P w base spare held n f5.type [c5] = some y5 ∧ DataW.trod enc P w base spare held n f6.type [c6] = some y6 ∧ DataW.trod enc P w base spare held n f7.type [c7] = some y7 ∧ DataW.trod enc P w base spare held n f8.type [c8] = some y8 ∧ DataW.trod enc P w base spare held n f9.type [c9] = some y9 := by
  obtain ⟨xs, n, _, _, hsz, hlen, hg⟩ := DataW.trod_struct hs h
  match cs, hsz.trans hC with
  | [c0, c1, c2, c3, c4, c5, c6, c7, c8, c9], _ =>
    obtain ⟨o0, k0⟩ := hone_of hone 0 f0 rfl
    obtain ⟨o1, k1⟩ := hone_of hone 1 f1 rfl
    obtain ⟨o2, k2⟩ := hone_of hone 2 f2 rfl
    obtain ⟨o3, k3⟩ := hone_of hone 3 f3 rfl
    obtain ⟨o4, k4⟩ := hone_of hone 4 f4 rfl
    obtain ⟨o5, k5⟩ := hone_of hone 5 f5 rfl
    obtain ⟨o6, k6⟩ := hone_of hone 6 f6 rfl
    obtain ⟨o7, k7⟩ := hone_of hone 7 f7 rfl
    obtain ⟨o8, k8⟩ := hone_of hone 8 f8 rfl
    obtain ⟨o9, k9⟩ := hone_of hone 9 f9 rfl
    match xs, hlen with
    | [y0, y1, y2, y3, y4, y5, y6, y7, y8, y9], _ =>
      exact ⟨c0, c1, c2, c3, c4, c5, c6, c7, c8, c9, y0, y1, y2, y3, y4, y5, y6, y7, y8, y9, n, rfl, by simpa [o0, k0] using hg 0 f0 rfl, by simpa [o1, k1] using hg 1 f1 rfl, by simpa [o2, k2] using hg 2 f2 rfl, by simpa [o3, k3] using hg 3 f3 rfl, by simpa [o4, k4] using hg 4 f4 rfl, by simpa [o5, k5] using hg 5 f5 rfl, by simpa [o6, k6] using hg 6 f6 rfl, by simpa [o7, k7] using hg 7 f7 rfl, by simpa [o8, k8] using hg 8 f8 rfl, by simpa [o9, k9] using hg 9 f9 rfl⟩
theorem rows_of {H : Type} {enc : TypeId × Value → H} {W : World} {base : Nat} {spare : Nat → Bool} {held : Bool} {a : Option Addr} {len cap : Nat} {d : DataW H} {ps : List MemPlace}
    (h : DataW.Trod enc Try.prog W base spare held 22 (.slice a len cap) d ps) :
    ∃ xs : List S29, xs.length = len ∧ len ≤ cap ∧ len ≤ 9223372036854775807 ∧ Kd.C k29 W a len xs ∧ ∀ j : Nat, j < len → (rd_T29 xs (j : Int)).f0.size ≤ 9223372036854775807 := by
  obtain ⟨fuel, hf⟩ := h
  rcases open_slice Try.underlying22 hf with ⟨hcs, _⟩ | ⟨x, l, c, m, n, D, Pl, hcs, _, hl, hm, hmm, _, hi⟩
  · simp [Value.cells] at hcs
    obtain ⟨rfl, rfl, rfl⟩ := hcs
    exact ⟨[], rfl, Nat.le_refl _, by omega, ⟨rfl, by omega, fun h => absurd h (by omega)⟩, fun j hj => absurd hj (by omega)⟩
  simp [Value.cells] at hcs
  obtain ⟨rfl, rfl, rfl⟩ := hcs
  have hm' : cap ≤ 9223372036854775807 := by unfold maxLen at hm; omega
  have each : ∀ i, i < len → ∃ s : S29, s.f0.size ≤ 9223372036854775807 ∧ ∀ (j : Nat) (u : Value), [.string s.f0, .int .i64 s.f1, .int .i64 s.f2, .bool s.f3, .int .i64 s.f4, .int .i64 s.f5, .int .i64 s.f6, .int .i64 s.f7, .int .i64 s.f8, .int .i64 s.f9][j]? = some u → W.cell? (x.add (i * 10 + j)) = some u := by
    intro i hii
    obtain ⟨cs, hc, ht⟩ := hi i (by rw [hmm]; split <;> omega)
    obtain ⟨_, _, hat⟩ := World.cells?_some hc
    obtain ⟨v0, v1, v2, v3, v4, v5, v6, v7, v8, v9, y0, y1, y2, y3, y4, y5, y6, y7, y8, y9, n', rfl, t0, t1, t2, t3, t4, t5, t6, t7, t8, t9⟩ := cells_of Try.underlying29 (by kernel_rfl) (by kernel_rfl) ht
    have hC : Try.prog.cellsOf 29 = 10 := by kernel_rfl
    rw [hC] at hat
    obtain ⟨s0, e0, _, z0⟩ := DataW.trod_string Try.underlying9 t0
    obtain rfl : v0 = .string s0 := by simpa using e0
    obtain ⟨s1, e1, _, z1⟩ := DataW.trod_int Try.underlying3 t1
    obtain rfl : v1 = .int .i64 s1 := by simpa using e1
    obtain ⟨s2, e2, _, z2⟩ := DataW.trod_int Try.underlying3 t2
    obtain rfl : v2 = .int .i64 s2 := by simpa using e2
    obtain ⟨s3, e3, _⟩ := DataW.trod_bool Try.underlying4 t3
    obtain rfl : v3 = .bool s3 := by simpa using e3
    obtain ⟨s4, e4, _, z4⟩ := DataW.trod_int Try.underlying3 t4
    obtain rfl : v4 = .int .i64 s4 := by simpa using e4
    obtain ⟨s5, e5, _, z5⟩ := DataW.trod_int Try.underlying3 t5
    obtain rfl : v5 = .int .i64 s5 := by simpa using e5
    obtain ⟨s6, e6, _, z6⟩ := DataW.trod_int Try.underlying3 t6
    obtain rfl : v6 = .int .i64 s6 := by simpa using e6
    obtain ⟨s7, e7, _, z7⟩ := DataW.trod_int Try.underlying3 t7
    obtain rfl : v7 = .int .i64 s7 := by simpa using e7
    obtain ⟨s8, e8, _, z8⟩ := DataW.trod_int Try.underlying3 t8
    obtain rfl : v8 = .int .i64 s8 := by simpa using e8
    obtain ⟨s9, e9, _, z9⟩ := DataW.trod_int Try.underlying3 t9
    obtain rfl : v9 = .int .i64 s9 := by simpa using e9
    refine ⟨⟨s0, s1, s2, s3, s4, s5, s6, s7, s8, s9⟩, by unfold maxLen at z0; omega, fun j u hj => ?_⟩
    match j, hj with
    | 0, hj => obtain rfl := Option.some.inj hj; have q := hat 0 (by omega); rw [Go.Deep.add_add] at q; exact q
    | 1, hj => obtain rfl := Option.some.inj hj; have q := hat 1 (by omega); rw [Go.Deep.add_add] at q; exact q
    | 2, hj => obtain rfl := Option.some.inj hj; have q := hat 2 (by omega); rw [Go.Deep.add_add] at q; exact q
    | 3, hj => obtain rfl := Option.some.inj hj; have q := hat 3 (by omega); rw [Go.Deep.add_add] at q; exact q
    | 4, hj => obtain rfl := Option.some.inj hj; have q := hat 4 (by omega); rw [Go.Deep.add_add] at q; exact q
    | 5, hj => obtain rfl := Option.some.inj hj; have q := hat 5 (by omega); rw [Go.Deep.add_add] at q; exact q
    | 6, hj => obtain rfl := Option.some.inj hj; have q := hat 6 (by omega); rw [Go.Deep.add_add] at q; exact q
    | 7, hj => obtain rfl := Option.some.inj hj; have q := hat 7 (by omega); rw [Go.Deep.add_add] at q; exact q
    | 8, hj => obtain rfl := Option.some.inj hj; have q := hat 8 (by omega); rw [Go.Deep.add_add] at q; exact q
    | 9, hj => obtain rfl := Option.some.inj hj; have q := hat 9 (by omega); rw [Go.Deep.add_add] at q; exact q
    | j + 10, hj => simp at hj
  obtain ⟨g, hg⟩ : ∃ g : Nat → S29, ∀ i, i < len → (g i).f0.size ≤ 9223372036854775807 ∧ ∀ (j : Nat) (u : Value), [.string (g i).f0, .int .i64 (g i).f1, .int .i64 (g i).f2, .bool (g i).f3, .int .i64 (g i).f4, .int .i64 (g i).f5, .int .i64 (g i).f6, .int .i64 (g i).f7, .int .i64 (g i).f8, .int .i64 (g i).f9][j]? = some u → W.cell? (x.add (i * 10 + j)) = some u := by
    classical
    exact ⟨fun i => if h : i < len then (each i h).choose else z29, fun i h => by simp only [dif_pos h]; exact (each i h).choose_spec⟩
  have hlen : ((List.range len).map g).length = len := by simp
  refine ⟨(List.range len).map g, hlen, hl, by omega, ⟨hlen, by omega, fun _ => ⟨x, rfl, fun j p hj => ?_⟩⟩, fun j hj => ?_⟩
  · have hjl : j < len := by have := (List.getElem?_eq_some_iff.1 hj).1; omega
    obtain rfl : g j = p := by simpa [List.getElem?_range hjl] using hj
    exact ⟨_, rfl, k29_mk W _, (hg j hjl).2⟩
  · have e : rd_T29 ((List.range len).map g) (j : Int) = g j := by unfold rd_T29; rw [show ((j : Int)).toNat = j from by omega, List.getD_eq_getElem?_getD, List.getElem?_map, List.getElem?_range hj]; rfl
    rw [e]; exact (hg j hj).1
set_option maxRecDepth 100000 in
theorem lifted (os : Os) (started : os.Started) (H : Type) (enc : TypeId × Value → H) :
    ReturnsInHanded {} Try.checked os 6 .any (Rows.fnExactReportOkSpec.pre6 enc Try.prog Try.f6 Rows.fnExactReportOkRow.domain false) (Rows.fnExactReportOkSpec.post enc Try.prog Try.f6 false true false false) := by
  refine returnsInHanded_of_change_sized (C := Try.checked) own started (by kernel_rfl) Try.func6
    (ChangeSpec.witness6 (enc := enc) (C := Try.checked) false ⟨#[], #[.slice none 0 0], []⟩ 8 (by kernel_rfl) (by kernel_rfl) (by kernel_rfl) (by kernel_rfl)) ?_
  intro W base args ds gs before hval0 hW hcnd hsz0 _
  have hval : ∀ (j : Nat) t v, Try.f6.params[j]? = some t → args[j]? = some v → Value.okWide Try.prog W .any base t v := hval0
  have hW' := hW
  obtain ⟨p, q, hA0, hV, rfl, hfz, hnd⟩ := hW
  have hA : DataW.TrodAll enc Try.prog W 0 (fun _ => true) true Try.f6.params.toList args.toList ds p := hA0
  rw [Try.params6] at hA hval
  obtain ⟨v0, vs0, d0, ds0, p0, q0, hargs, rfl, rfl, h0, r0⟩ := trodAll_cons hA
  obtain ⟨rfl, rfl, rfl⟩ := trodAll_nil r0
  obtain rfl : args = #[v0] := by cases args; simp_all
  obtain ⟨rfl, rfl⟩ := trodVars_none hV
  obtain ⟨a0, len0, cap0, rfl⟩ := okWide_slice Try.underlying22 (hval 0 22 v0 rfl rfl)
  have k0 := h0
  have lt0 : ∀ x ∈ p0, x.block < W.heap.size := by obtain ⟨m, hm⟩ := k0; exact DataW.trod_lt m _ _ _ hm
  obtain ⟨xs0, rfl, cl0, ml0, C0, z0⟩ := rows_of h0
  clear hA0 hval0 hsz0
  obtain ⟨k, hk⟩ := Pure.FnExactReportOk xs0 ml0 z0
  refine (PFnExactReportOk.laws_FnExactReportOk.calls k a0 cap0 xs0 true W C0 cl0 hk).mono fun e W' ⟨he, bel⟩ => ?_
  subst he
  exact ⟨_, rfl, _, _, _, [], _, [], hW', trodAll_mk1 (shut_bool Try.underlying4 _), (trodAll_cons_mk (Below.trod laidOut (by kernel_rfl) (of_decide_eq_true (by kernel_rfl)) k0 bel lt0) trodAll_mk0), rfl, bel.frame _, fun h => by cases h⟩
theorem over : Rows.fnExactReportOkRow.holds Try.pinned (OpenSpec.ofChange Rows.fnExactReportOkSpec) :=
  OpenClaim.holds_of_wide 6 Try.f6 rfl rfl rfl rfl rfl rfl rfl ⟨rfl, rfl, rfl, rfl, rfl⟩ rfl rfl rfl rfl rfl (by kernel_rfl) Try.func6 (by kernel_rfl)
    (of_decide_eq_true (by kernel_rfl)) (by unfold Func.isWrapper; first | (rw [if_pos (by decide +kernel)]; kernel_rfl) | (rw [if_neg (by decide +kernel)]; exact ⟨rfl, rfl⟩))
    (fun os started H enc _ => lifted os started H enc)
theorem proved : Rows.FnExactReportOkSaid := over
#print axioms proved
end Go.Proofs.Ytammijioeeiejaa.fnExactReportOk
namespace Go.Proofs.Ytammijioeeiejaa
/-- The row, under a short name, for the claim. -/
theorem fnExactReportOk_holds : Rows.FnExactReportOkSaid := fnExactReportOk.proved
end Go.Proofs.Ytammijioeeiejaa
