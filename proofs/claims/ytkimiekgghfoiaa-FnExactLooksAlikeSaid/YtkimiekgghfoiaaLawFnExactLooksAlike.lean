/- The law FnExactLooksAlike holds for every input: the row, out of the printed walk and the pure statement. -/
import Derived.Test.YtkimiekgghfoiaaRows
import Derived.Test.YtkimiekgghfoiaaOpn
import Derived.Test.YtkimiekgghfoiaaPFnExactLooksAlikex9
import Derived.Test.YtkimiekgghfoiaaPureFnExactLooksAlike
import Derived.WalkKit
import Derived.ProofKit
import Derived.OpenShut
import Derived.ShutString
import Derived.ChangeOld
import Derived.Below
import Derived.Carry
import Derived.SizedLaws
namespace Go.Proofs.Ytkimiekgghfoiaa.fnExactLooksAlike
open Go.ChangeShapes Go.WideShapes Go.ChangeAt Go.RowKit Go.Proofs.Ytkimiekgghfoiaa.Opn Go.Proofs.Ytkimiekgghfoiaa.PFnExactLooksAlike Go.Proofs.YtkimiekgghfoiaaW.PrintWords
open Go.ChangeMaps (open_string shut_string)
set_option linter.unusedVariables false
theorem own : ownKnob Try.prog.godebug = none := by kernel_rfl
theorem laidOut : laidOutB Try.prog = true := by kernel_rfl
theorem op153 {H : Type} {enc : TypeId × Value → H} {w : World} : Opens enc Try.prog w k153 153 Wf153 :=
  opens_iso (fun p => ⟨p.1, p.2⟩) (fun _ => rfl) (opens_struct Try.underlying153 (by kernel_rfl) (opensF_cons rfl (by kernel_rfl) (opens_int Try.underlying3) (opensF_one rfl (by kernel_rfl) (opens_int Try.underlying3))))
theorem op131 {H : Type} {enc : TypeId × Value → H} {w : World} : Opens enc Try.prog w k131 131 Wf131 :=
  opens_iso (fun p => ⟨p.1, p.2.1, p.2.2⟩) (fun _ => rfl) (opens_struct Try.underlying131 (by kernel_rfl) (opensF_cons rfl (by kernel_rfl) (opens_int Try.underlying3) (opensF_cons rfl (by kernel_rfl) (opens_int Try.underlying3) (opensF_one rfl (by kernel_rfl) (opens_slice Try.underlying25 (by kernel_rfl) (opens_int Try.underlying3))))))
theorem op135 {H : Type} {enc : TypeId × Value → H} {w : World} : Opens enc Try.prog w k135 135 Wf135 :=
  opens_iso (fun p => ⟨p.1, p.2.1, p.2.2.1, p.2.2.2.1, p.2.2.2.2⟩) (fun _ => rfl) (opens_struct Try.underlying135 (by kernel_rfl) (opensF_cons rfl (by kernel_rfl) (opens_int Try.underlying3) (opensF_cons rfl (by kernel_rfl) (opens_int Try.underlying3) (opensF_cons rfl (by kernel_rfl) (opens_int Try.underlying3) (opensF_cons rfl (by kernel_rfl) (opens_int Try.underlying3) (opensF_one rfl (by kernel_rfl) (opens_bool Try.underlying4)))))))
set_option maxRecDepth 100000 in
theorem lifted (os : Os) (started : os.Started) (H : Type) (enc : TypeId × Value → H) :
    ReturnsInHanded {} Try.checked os 4 .any (Rows.fnExactLooksAlikeSpec.pre6 enc Try.prog Try.f4 Rows.fnExactLooksAlikeRow.domain false) (Rows.fnExactLooksAlikeSpec.post enc Try.prog Try.f4 false true false false) := by
  refine returnsInHanded_of_change_sized (C := Try.checked) own started (by kernel_rfl) Try.func4
    (ChangeSpec.witness6 (enc := enc) (C := Try.checked) false ⟨#[], #[.agg #[.int .i64 0, .slice none 0 0, .slice none 0 0, .slice none 0 0, .slice none 0 0, .slice none 0 0, .slice none 0 0, .int .i64 0, .int .i64 0, .int .i64 0, .int .i64 0, .slice none 0 0, .int .i64 0], .agg #[.int .i64 0, .slice none 0 0, .slice none 0 0, .slice none 0 0, .slice none 0 0, .slice none 0 0, .slice none 0 0, .int .i64 0, .int .i64 0, .int .i64 0, .int .i64 0, .slice none 0 0, .int .i64 0]], []⟩ 8 (by kernel_rfl) (by kernel_rfl) (by kernel_rfl) (by kernel_rfl)) ?_
  intro W base args ds gs before hval0 hW hcnd hsz0 _
  have hval : ∀ (j : Nat) t v, Try.f4.params[j]? = some t → args[j]? = some v → Value.okWide Try.prog W .any base t v := hval0
  have hW' := hW
  obtain ⟨p, q, hA0, hV, rfl, hfz, hnd⟩ := hW
  have hA : DataW.TrodAll enc Try.prog W 0 (fun _ => true) true Try.f4.params.toList args.toList ds p := hA0
  rw [Try.params4] at hA hval
  obtain ⟨v0, vs0, d0, ds0, p0, q0, hargs, rfl, rfl, h0, r0⟩ := trodAll_cons hA
  obtain ⟨v1, vs1, d1, ds1, p1, q1, rfl, rfl, rfl, h1, r1⟩ := trodAll_cons r0
  obtain ⟨rfl, rfl, rfl⟩ := trodAll_nil r1
  obtain rfl : args = #[v0, v1] := by cases args; simp_all
  obtain ⟨rfl, rfl⟩ := trodVars_none hV
  have k0 := h0
  have lt0 : ∀ x ∈ p0, x.block < W.heap.size := by obtain ⟨m, hm⟩ := k0; exact DataW.trod_lt m _ _ _ hm
  obtain ⟨cs0, rfl, _⟩ := okWide_struct Try.underlying31 (hval 0 31 v0 rfl rfl)
  obtain ⟨z0, K0, g0⟩ : ∃ z : ((Int × (List S153)) × (List Int) × (List Int) × (List S131) × (List Int) × (List Int) × (Int × Int × Int × Int) × (List S135) × Int), (Kd.pair (Kd.pair (Kd.int .i64) (Kd.slice 153 k153)) (Kd.pair (Kd.slice 3 (Kd.int .i64)) (Kd.pair (Kd.slice 3 (Kd.int .i64)) (Kd.pair (Kd.slice 131 k131) (Kd.pair (Kd.slice 3 (Kd.int .i64)) (Kd.pair (Kd.slice 3 (Kd.int .i64)) (Kd.pair (Kd.pair (Kd.int .i64) (Kd.pair (Kd.int .i64) (Kd.pair (Kd.int .i64) (Kd.int .i64)))) (Kd.pair (Kd.slice 135 k135) (Kd.int .i64))))))))).K W z cs0.toList ∧ (((Lit.int .i64 z.1.1).wf = true ∧ (z.1.2.length ≤ 9223372036854775807 ∧ ∀ y0_ ∈ z.1.2, Wf153 y0_)) ∧ (z.2.1.length ≤ 9223372036854775807 ∧ ∀ y0_ ∈ z.2.1, (Lit.int .i64 y0_).wf = true) ∧ (z.2.2.1.length ≤ 9223372036854775807 ∧ ∀ y0_ ∈ z.2.2.1, (Lit.int .i64 y0_).wf = true) ∧ (z.2.2.2.1.length ≤ 9223372036854775807 ∧ ∀ y0_ ∈ z.2.2.2.1, Wf131 y0_) ∧ (z.2.2.2.2.1.length ≤ 9223372036854775807 ∧ ∀ y0_ ∈ z.2.2.2.2.1, (Lit.int .i64 y0_).wf = true) ∧ (z.2.2.2.2.2.1.length ≤ 9223372036854775807 ∧ ∀ y0_ ∈ z.2.2.2.2.2.1, (Lit.int .i64 y0_).wf = true) ∧ ((Lit.int .i64 z.2.2.2.2.2.2.1.1).wf = true ∧ (Lit.int .i64 z.2.2.2.2.2.2.1.2.1).wf = true ∧ (Lit.int .i64 z.2.2.2.2.2.2.1.2.2.1).wf = true ∧ (Lit.int .i64 z.2.2.2.2.2.2.1.2.2.2).wf = true) ∧ (z.2.2.2.2.2.2.2.1.length ≤ 9223372036854775807 ∧ ∀ y0_ ∈ z.2.2.2.2.2.2.2.1, Wf135 y0_) ∧ (Lit.int .i64 z.2.2.2.2.2.2.2.2).wf = true) := by
    obtain ⟨fuel, hf⟩ := h0
    exact (opens_struct Try.underlying31 (by kernel_rfl) (opensF_cons rfl (by kernel_rfl) (opens_struct Try.underlying24 (by kernel_rfl) (opensF_cons rfl (by kernel_rfl) (opens_int Try.underlying3) (opensF_one rfl (by kernel_rfl) (opens_slice Try.underlying22 (by kernel_rfl) op153)))) (opensF_cons rfl (by kernel_rfl) (opens_slice Try.underlying25 (by kernel_rfl) (opens_int Try.underlying3)) (opensF_cons rfl (by kernel_rfl) (opens_slice Try.underlying25 (by kernel_rfl) (opens_int Try.underlying3)) (opensF_cons rfl (by kernel_rfl) (opens_slice Try.underlying26 (by kernel_rfl) op131) (opensF_cons rfl (by kernel_rfl) (opens_slice Try.underlying25 (by kernel_rfl) (opens_int Try.underlying3)) (opensF_cons rfl (by kernel_rfl) (opens_slice Try.underlying25 (by kernel_rfl) (opens_int Try.underlying3)) (opensF_cons rfl (by kernel_rfl) (opens_struct Try.underlying28 (by kernel_rfl) (opensF_cons rfl (by kernel_rfl) (opens_int Try.underlying3) (opensF_cons rfl (by kernel_rfl) (opens_int Try.underlying3) (opensF_cons rfl (by kernel_rfl) (opens_int Try.underlying3) (opensF_one rfl (by kernel_rfl) (opens_int Try.underlying3)))))) (opensF_cons rfl (by kernel_rfl) (opens_slice Try.underlying29 (by kernel_rfl) op135) (opensF_one rfl (by kernel_rfl) (opens_int Try.underlying3))))))))))) _ _ _ _ _ _ hf
  obtain ⟨w0, ew0⟩ : ∃ l, l = cs0.toList := ⟨_, rfl⟩
  rw [← ew0] at K0
  obtain ⟨_, _, rfl, ⟨_, _, rfl, rfl, ⟨A0_0_1, c0_0_1, rfl, hc0_0_1, hr0_0_1⟩⟩, ⟨_, _, rfl, ⟨A0_1, c0_1, rfl, hc0_1, hr0_1⟩, ⟨_, _, rfl, ⟨A0_2, c0_2, rfl, hc0_2, hr0_2⟩, ⟨_, _, rfl, ⟨A0_3, c0_3, rfl, hc0_3, hr0_3⟩, ⟨_, _, rfl, ⟨A0_4, c0_4, rfl, hc0_4, hr0_4⟩, ⟨_, _, rfl, ⟨A0_5, c0_5, rfl, hc0_5, hr0_5⟩, ⟨_, _, rfl, ⟨_, _, rfl, rfl, ⟨_, _, rfl, rfl, ⟨_, _, rfl, rfl, rfl⟩⟩⟩, ⟨_, _, rfl, ⟨A0_7, c0_7, rfl, hc0_7, hr0_7⟩, rfl⟩⟩⟩⟩⟩⟩⟩⟩ := K0
  obtain rfl : cs0 = #[.int .i64 z0.1.1, .slice A0_0_1 z0.1.2.length c0_0_1, .slice A0_1 z0.2.1.length c0_1, .slice A0_2 z0.2.2.1.length c0_2, .slice A0_3 z0.2.2.2.1.length c0_3, .slice A0_4 z0.2.2.2.2.1.length c0_4, .slice A0_5 z0.2.2.2.2.2.1.length c0_5, .int .i64 z0.2.2.2.2.2.2.1.1, .int .i64 z0.2.2.2.2.2.2.1.2.1, .int .i64 z0.2.2.2.2.2.2.1.2.2.1, .int .i64 z0.2.2.2.2.2.2.1.2.2.2, .slice A0_7 z0.2.2.2.2.2.2.2.1.length c0_7, .int .i64 z0.2.2.2.2.2.2.2.2] := by
    cases cs0
    simp only [] at ew0
    rw [← ew0]
    rfl
  obtain ⟨⟨g0_0_0, g0_0_1⟩, g0_1, g0_2, g0_3, g0_4, g0_5, ⟨g0_6_0, g0_6_1, g0_6_2, g0_6_3⟩, g0_7, g0_8⟩ := g0
  have k1 := h1
  have lt1 : ∀ x ∈ p1, x.block < W.heap.size := by obtain ⟨m, hm⟩ := k1; exact DataW.trod_lt m _ _ _ hm
  obtain ⟨cs1, rfl, _⟩ := okWide_struct Try.underlying31 (hval 1 31 v1 rfl rfl)
  obtain ⟨z1, K1, g1⟩ : ∃ z : ((Int × (List S153)) × (List Int) × (List Int) × (List S131) × (List Int) × (List Int) × (Int × Int × Int × Int) × (List S135) × Int), (Kd.pair (Kd.pair (Kd.int .i64) (Kd.slice 153 k153)) (Kd.pair (Kd.slice 3 (Kd.int .i64)) (Kd.pair (Kd.slice 3 (Kd.int .i64)) (Kd.pair (Kd.slice 131 k131) (Kd.pair (Kd.slice 3 (Kd.int .i64)) (Kd.pair (Kd.slice 3 (Kd.int .i64)) (Kd.pair (Kd.pair (Kd.int .i64) (Kd.pair (Kd.int .i64) (Kd.pair (Kd.int .i64) (Kd.int .i64)))) (Kd.pair (Kd.slice 135 k135) (Kd.int .i64))))))))).K W z cs1.toList ∧ (((Lit.int .i64 z.1.1).wf = true ∧ (z.1.2.length ≤ 9223372036854775807 ∧ ∀ y0_ ∈ z.1.2, Wf153 y0_)) ∧ (z.2.1.length ≤ 9223372036854775807 ∧ ∀ y0_ ∈ z.2.1, (Lit.int .i64 y0_).wf = true) ∧ (z.2.2.1.length ≤ 9223372036854775807 ∧ ∀ y0_ ∈ z.2.2.1, (Lit.int .i64 y0_).wf = true) ∧ (z.2.2.2.1.length ≤ 9223372036854775807 ∧ ∀ y0_ ∈ z.2.2.2.1, Wf131 y0_) ∧ (z.2.2.2.2.1.length ≤ 9223372036854775807 ∧ ∀ y0_ ∈ z.2.2.2.2.1, (Lit.int .i64 y0_).wf = true) ∧ (z.2.2.2.2.2.1.length ≤ 9223372036854775807 ∧ ∀ y0_ ∈ z.2.2.2.2.2.1, (Lit.int .i64 y0_).wf = true) ∧ ((Lit.int .i64 z.2.2.2.2.2.2.1.1).wf = true ∧ (Lit.int .i64 z.2.2.2.2.2.2.1.2.1).wf = true ∧ (Lit.int .i64 z.2.2.2.2.2.2.1.2.2.1).wf = true ∧ (Lit.int .i64 z.2.2.2.2.2.2.1.2.2.2).wf = true) ∧ (z.2.2.2.2.2.2.2.1.length ≤ 9223372036854775807 ∧ ∀ y0_ ∈ z.2.2.2.2.2.2.2.1, Wf135 y0_) ∧ (Lit.int .i64 z.2.2.2.2.2.2.2.2).wf = true) := by
    obtain ⟨fuel, hf⟩ := h1
    exact (opens_struct Try.underlying31 (by kernel_rfl) (opensF_cons rfl (by kernel_rfl) (opens_struct Try.underlying24 (by kernel_rfl) (opensF_cons rfl (by kernel_rfl) (opens_int Try.underlying3) (opensF_one rfl (by kernel_rfl) (opens_slice Try.underlying22 (by kernel_rfl) op153)))) (opensF_cons rfl (by kernel_rfl) (opens_slice Try.underlying25 (by kernel_rfl) (opens_int Try.underlying3)) (opensF_cons rfl (by kernel_rfl) (opens_slice Try.underlying25 (by kernel_rfl) (opens_int Try.underlying3)) (opensF_cons rfl (by kernel_rfl) (opens_slice Try.underlying26 (by kernel_rfl) op131) (opensF_cons rfl (by kernel_rfl) (opens_slice Try.underlying25 (by kernel_rfl) (opens_int Try.underlying3)) (opensF_cons rfl (by kernel_rfl) (opens_slice Try.underlying25 (by kernel_rfl) (opens_int Try.underlying3)) (opensF_cons rfl (by kernel_rfl) (opens_struct Try.underlying28 (by kernel_rfl) (opensF_cons rfl (by kernel_rfl) (opens_int Try.underlying3) (opensF_cons rfl (by kernel_rfl) (opens_int Try.underlying3) (opensF_cons rfl (by kernel_rfl) (opens_int Try.underlying3) (opensF_one rfl (by kernel_rfl) (opens_int Try.underlying3)))))) (opensF_cons rfl (by kernel_rfl) (opens_slice Try.underlying29 (by kernel_rfl) op135) (opensF_one rfl (by kernel_rfl) (opens_int Try.underlying3))))))))))) _ _ _ _ _ _ hf
  obtain ⟨w1, ew1⟩ : ∃ l, l = cs1.toList := ⟨_, rfl⟩
  rw [← ew1] at K1
  obtain ⟨_, _, rfl, ⟨_, _, rfl, rfl, ⟨A1_0_1, c1_0_1, rfl, hc1_0_1, hr1_0_1⟩⟩, ⟨_, _, rfl, ⟨A1_1, c1_1, rfl, hc1_1, hr1_1⟩, ⟨_, _, rfl, ⟨A1_2, c1_2, rfl, hc1_2, hr1_2⟩, ⟨_, _, rfl, ⟨A1_3, c1_3, rfl, hc1_3, hr1_3⟩, ⟨_, _, rfl, ⟨A1_4, c1_4, rfl, hc1_4, hr1_4⟩, ⟨_, _, rfl, ⟨A1_5, c1_5, rfl, hc1_5, hr1_5⟩, ⟨_, _, rfl, ⟨_, _, rfl, rfl, ⟨_, _, rfl, rfl, ⟨_, _, rfl, rfl, rfl⟩⟩⟩, ⟨_, _, rfl, ⟨A1_7, c1_7, rfl, hc1_7, hr1_7⟩, rfl⟩⟩⟩⟩⟩⟩⟩⟩ := K1
  obtain rfl : cs1 = #[.int .i64 z1.1.1, .slice A1_0_1 z1.1.2.length c1_0_1, .slice A1_1 z1.2.1.length c1_1, .slice A1_2 z1.2.2.1.length c1_2, .slice A1_3 z1.2.2.2.1.length c1_3, .slice A1_4 z1.2.2.2.2.1.length c1_4, .slice A1_5 z1.2.2.2.2.2.1.length c1_5, .int .i64 z1.2.2.2.2.2.2.1.1, .int .i64 z1.2.2.2.2.2.2.1.2.1, .int .i64 z1.2.2.2.2.2.2.1.2.2.1, .int .i64 z1.2.2.2.2.2.2.1.2.2.2, .slice A1_7 z1.2.2.2.2.2.2.2.1.length c1_7, .int .i64 z1.2.2.2.2.2.2.2.2] := by
    cases cs1
    simp only [] at ew1
    rw [← ew1]
    rfl
  obtain ⟨⟨g1_0_0, g1_0_1⟩, g1_1, g1_2, g1_3, g1_4, g1_5, ⟨g1_6_0, g1_6_1, g1_6_2, g1_6_3⟩, g1_7, g1_8⟩ := g1
  clear hA0 hval0 hsz0
  refine (Pure.FnExactLooksAlike_calls z0.1.1 A0_0_1 c0_0_1 z0.1.2 A0_1 c0_1 z0.2.1 A0_2 c0_2 z0.2.2.1 A0_3 c0_3 z0.2.2.2.1 A0_4 c0_4 z0.2.2.2.2.1 A0_5 c0_5 z0.2.2.2.2.2.1 z0.2.2.2.2.2.2.1.1 z0.2.2.2.2.2.2.1.2.1 z0.2.2.2.2.2.2.1.2.2.1 z0.2.2.2.2.2.2.1.2.2.2 A0_7 c0_7 z0.2.2.2.2.2.2.2.1 z0.2.2.2.2.2.2.2.2 z1.1.1 A1_0_1 c1_0_1 z1.1.2 A1_1 c1_1 z1.2.1 A1_2 c1_2 z1.2.2.1 A1_3 c1_3 z1.2.2.2.1 A1_4 c1_4 z1.2.2.2.2.1 A1_5 c1_5 z1.2.2.2.2.2.1 z1.2.2.2.2.2.2.1.1 z1.2.2.2.2.2.2.1.2.1 z1.2.2.2.2.2.2.1.2.2.1 z1.2.2.2.2.2.2.1.2.2.2 A1_7 c1_7 z1.2.2.2.2.2.2.2.1 z1.2.2.2.2.2.2.2.2 W hr0_0_1 hc0_0_1 hr0_1 hc0_1 hr0_2 hc0_2 hr0_3 hc0_3 hr0_4 hc0_4 hr0_5 hc0_5 hr0_7 hc0_7 hr1_0_1 hc1_0_1 hr1_1 hc1_1 hr1_2 hc1_2 hr1_3 hc1_3 hr1_4 hc1_4 hr1_5 hc1_5 hr1_7 hc1_7 g0_0_0 g0_0_1 g0_1 g0_2 g0_3 g0_4 g0_5 g0_6_0 g0_6_1 g0_6_2 g0_6_3 g0_7 g0_8 g1_0_0 g1_0_1 g1_1 g1_2 g1_3 g1_4 g1_5 g1_6_0 g1_6_1 g1_6_2 g1_6_3 g1_7 g1_8).mono fun e W' ⟨he, bel⟩ => ?_
  subst he
  exact ⟨_, rfl, _, _, _, [], _, [], hW', trodAll_mk1 (shut_bool Try.underlying4 _), (trodAll_cons_mk (Below.trod laidOut (by kernel_rfl) (of_decide_eq_true (by kernel_rfl)) k0 bel lt0) (trodAll_cons_mk (Below.trod laidOut (by kernel_rfl) (of_decide_eq_true (by kernel_rfl)) k1 bel lt1) trodAll_mk0)), rfl, bel.frame _, fun h => by cases h⟩
theorem over : Rows.fnExactLooksAlikeRow.holds Try.pinned (OpenSpec.ofChange Rows.fnExactLooksAlikeSpec) :=
  OpenClaim.holds_of_wide 4 Try.f4 rfl rfl rfl rfl rfl rfl rfl ⟨rfl, rfl, rfl, rfl, rfl⟩ rfl rfl rfl rfl rfl (by kernel_rfl) Try.func4 (by kernel_rfl)
    (of_decide_eq_true (by kernel_rfl)) (by unfold Func.isWrapper; first | (rw [if_pos (by decide +kernel)]; kernel_rfl) | (rw [if_neg (by decide +kernel)]; exact ⟨rfl, rfl⟩))
    (fun os started H enc _ => lifted os started H enc)
theorem proved : Rows.FnExactLooksAlikeSaid := over
#print axioms proved
end Go.Proofs.Ytkimiekgghfoiaa.fnExactLooksAlike
namespace Go.Proofs.Ytkimiekgghfoiaa
/-- The row, under a short name, for the claim. -/
theorem fnExactLooksAlike_holds : Rows.FnExactLooksAlikeSaid := fnExactLooksAlike.proved
end Go.Proofs.Ytkimiekgghfoiaa
