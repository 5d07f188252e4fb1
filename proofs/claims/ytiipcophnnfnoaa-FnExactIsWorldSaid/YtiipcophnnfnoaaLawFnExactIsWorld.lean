/- The law FnExactIsWorld holds for every input: the row, out of the printed walk and the pure statement. -/
import Derived.Test.YtiipcophnnfnoaaRows
import Derived.Test.YtiipcophnnfnoaaVFnExactIsWorld
import Derived.Test.YtiipcophnnfnoaaPFnExactIsWorldx16
import Derived.Test.YtiipcophnnfnoaaPureFnExactIsWorld
import Derived.WalkKit
import Derived.ProofKit
import Derived.OpenShut
import Derived.ShutString
import Derived.ChangeOld
import Derived.Below
import Derived.Carry
import Derived.SizedLaws
namespace Go.Proofs.Ytiipcophnnfnoaa.fnExactIsWorld
open Go.ChangeShapes Go.WideShapes Go.ChangeAt Go.RowKit Go.Proofs.Ytiipcophnnfnoaa.Opn Go.Proofs.Ytiipcophnnfnoaa.PFnExactIsWorld Go.Proofs.YtiipcophnnfnoaaW.PrintWords
open Go.ChangeMaps (open_string shut_string)
set_option linter.unusedVariables false
theorem own : ownKnob Try.prog.godebug = none := by kernel_rfl
theorem laidOut : laidOutB Try.prog = true := by kernel_rfl
theorem op159 {H : Type} {enc : TypeId × Value → H} {w : World} : Opens enc Try.prog w k159 159 Wf159 :=
  opens_iso (fun p => ⟨p.1, p.2⟩) (fun _ => rfl) (opens_struct Try.underlying159 (by kernel_rfl) (opensF_cons rfl (by kernel_rfl) (opens_int Try.underlying3) (opensF_one rfl (by kernel_rfl) (opens_int Try.underlying3))))
theorem op139 {H : Type} {enc : TypeId × Value → H} {w : World} : Opens enc Try.prog w k139 139 Wf139 :=
  opens_iso (fun p => ⟨p.1, p.2.1, p.2.2⟩) (fun _ => rfl) (opens_struct Try.underlying139 (by kernel_rfl) (opensF_cons rfl (by kernel_rfl) (opens_int Try.underlying3) (opensF_cons rfl (by kernel_rfl) (opens_int Try.underlying3) (opensF_one rfl (by kernel_rfl) (opens_slice Try.underlying25 (by kernel_rfl) (opens_int Try.underlying3))))))
theorem op142 {H : Type} {enc : TypeId × Value → H} {w : World} : Opens enc Try.prog w k142 142 Wf142 :=
  opens_iso (fun p => ⟨p.1, p.2.1, p.2.2.1, p.2.2.2.1, p.2.2.2.2⟩) (fun _ => rfl) (opens_struct Try.underlying142 (by kernel_rfl) (opensF_cons rfl (by kernel_rfl) (opens_int Try.underlying3) (opensF_cons rfl (by kernel_rfl) (opens_int Try.underlying3) (opensF_cons rfl (by kernel_rfl) (opens_int Try.underlying3) (opensF_cons rfl (by kernel_rfl) (opens_int Try.underlying3) (opensF_one rfl (by kernel_rfl) (opens_bool Try.underlying4)))))))
set_option maxRecDepth 100000 in
theorem lifted (os : Os) (started : os.Started) (H : Type) (enc : TypeId × Value → H) :
    ReturnsInHanded {} Try.checked os 9 .any (Rows.fnExactIsWorldSpec.pre6 enc Try.prog Try.f9 Rows.fnExactIsWorldRow.domain false) (Rows.fnExactIsWorldSpec.post enc Try.prog Try.f9 false true false false) := by
  refine returnsInHanded_of_change_sized (C := Try.checked) own started (by kernel_rfl) Try.func9
    (ChangeSpec.witness6 (enc := enc) (C := Try.checked) false ⟨#[], #[.agg #[.int .i64 0, .slice none 0 0, .slice none 0 0, .slice none 0 0, .slice none 0 0, .slice none 0 0, .slice none 0 0, .int .i64 0, .int .i64 0, .int .i64 0, .int .i64 0, .slice none 0 0, .int .i64 0]], []⟩ 8 (by kernel_rfl) (by kernel_rfl) (by kernel_rfl) (by kernel_rfl)) ?_
  intro W base args ds gs before hval0 hW hcnd hsz0 _
  have hval : ∀ (j : Nat) t v, Try.f9.params[j]? = some t → args[j]? = some v → Value.okWide Try.prog W .any base t v := hval0
  have hW' := hW
  obtain ⟨p, q, hA0, hV, rfl, hfz, hnd⟩ := hW
  have hA : DataW.TrodAll enc Try.prog W 0 (fun _ => true) true Try.f9.params.toList args.toList ds p := hA0
  rw [Try.params9] at hA hval
  obtain ⟨v0, vs0, d0, ds0, p0, q0, hargs, rfl, rfl, h0, r0⟩ := trodAll_cons hA
  obtain ⟨rfl, rfl, rfl⟩ := trodAll_nil r0
  obtain rfl : args = #[v0] := by cases args; simp_all
  obtain ⟨rfl, rfl⟩ := trodVars_none hV
  have k0 := h0
  have lt0 : ∀ x ∈ p0, x.block < W.heap.size := by obtain ⟨m, hm⟩ := k0; exact DataW.trod_lt m _ _ _ hm
  obtain ⟨cs0, rfl, _⟩ := okWide_struct Try.underlying31 (hval 0 31 v0 rfl rfl)
  obtain ⟨z0, K0, g0⟩ : ∃ z : ((Int × (List S159)) × (List Int) × (List Int) × (List S139) × (List Int) × (List Int) × (Int × Int × Int × Int) × (List S142) × Int), (Kd.pair (Kd.pair (Kd.int .i64) (Kd.slice 159 k159)) (Kd.pair (Kd.slice 3 (Kd.int .i64)) (Kd.pair (Kd.slice 3 (Kd.int .i64)) (Kd.pair (Kd.slice 139 k139) (Kd.pair (Kd.slice 3 (Kd.int .i64)) (Kd.pair (Kd.slice 3 (Kd.int .i64)) (Kd.pair (Kd.pair (Kd.int .i64) (Kd.pair (Kd.int .i64) (Kd.pair (Kd.int .i64) (Kd.int .i64)))) (Kd.pair (Kd.slice 142 k142) (Kd.int .i64))))))))).K W z cs0.toList ∧ (((Lit.int .i64 z.1.1).wf = true ∧ (z.1.2.length ≤ 9223372036854775807 ∧ ∀ y0_ ∈ z.1.2, Wf159 y0_)) ∧ (z.2.1.length ≤ 9223372036854775807 ∧ ∀ y0_ ∈ z.2.1, (Lit.int .i64 y0_).wf = true) ∧ (z.2.2.1.length ≤ 9223372036854775807 ∧ ∀ y0_ ∈ z.2.2.1, (Lit.int .i64 y0_).wf = true) ∧ (z.2.2.2.1.length ≤ 9223372036854775807 ∧ ∀ y0_ ∈ z.2.2.2.1, Wf139 y0_) ∧ (z.2.2.2.2.1.length ≤ 9223372036854775807 ∧ ∀ y0_ ∈ z.2.2.2.2.1, (Lit.int .i64 y0_).wf = true) ∧ (z.2.2.2.2.2.1.length ≤ 9223372036854775807 ∧ ∀ y0_ ∈ z.2.2.2.2.2.1, (Lit.int .i64 y0_).wf = true) ∧ ((Lit.int .i64 z.2.2.2.2.2.2.1.1).wf = true ∧ (Lit.int .i64 z.2.2.2.2.2.2.1.2.1).wf = true ∧ (Lit.int .i64 z.2.2.2.2.2.2.1.2.2.1).wf = true ∧ (Lit.int .i64 z.2.2.2.2.2.2.1.2.2.2).wf = true) ∧ (z.2.2.2.2.2.2.2.1.length ≤ 9223372036854775807 ∧ ∀ y0_ ∈ z.2.2.2.2.2.2.2.1, Wf142 y0_) ∧ (Lit.int .i64 z.2.2.2.2.2.2.2.2).wf = true) := by
    obtain ⟨fuel, hf⟩ := h0
    exact (opens_struct Try.underlying31 (by kernel_rfl) (opensF_cons rfl (by kernel_rfl) (opens_struct Try.underlying24 (by kernel_rfl) (opensF_cons rfl (by kernel_rfl) (opens_int Try.underlying3) (opensF_one rfl (by kernel_rfl) (opens_slice Try.underlying22 (by kernel_rfl) op159)))) (opensF_cons rfl (by kernel_rfl) (opens_slice Try.underlying25 (by kernel_rfl) (opens_int Try.underlying3)) (opensF_cons rfl (by kernel_rfl) (opens_slice Try.underlying25 (by kernel_rfl) (opens_int Try.underlying3)) (opensF_cons rfl (by kernel_rfl) (opens_slice Try.underlying26 (by kernel_rfl) op139) (opensF_cons rfl (by kernel_rfl) (opens_slice Try.underlying25 (by kernel_rfl) (opens_int Try.underlying3)) (opensF_cons rfl (by kernel_rfl) (opens_slice Try.underlying25 (by kernel_rfl) (opens_int Try.underlying3)) (opensF_cons rfl (by kernel_rfl) (opens_struct Try.underlying28 (by kernel_rfl) (opensF_cons rfl (by kernel_rfl) (opens_int Try.underlying3) (opensF_cons rfl (by kernel_rfl) (opens_int Try.underlying3) (opensF_cons rfl (by kernel_rfl) (opens_int Try.underlying3) (opensF_one rfl (by kernel_rfl) (opens_int Try.underlying3)))))) (opensF_cons rfl (by kernel_rfl) (opens_slice Try.underlying29 (by kernel_rfl) op142) (opensF_one rfl (by kernel_rfl) (opens_int Try.underlying3))))))))))) _ _ _ _ _ _ hf
  obtain ⟨w0, ew0⟩ : ∃ l, l = cs0.toList := ⟨_, rfl⟩
  rw [← ew0] at K0
  obtain ⟨_, _, rfl, ⟨_, _, rfl, rfl, ⟨A0_0_1, c0_0_1, rfl, hc0_0_1, hr0_0_1⟩⟩, ⟨_, _, rfl, ⟨A0_1, c0_1, rfl, hc0_1, hr0_1⟩, ⟨_, _, rfl, ⟨A0_2, c0_2, rfl, hc0_2, hr0_2⟩, ⟨_, _, rfl, ⟨A0_3, c0_3, rfl, hc0_3, hr0_3⟩, ⟨_, _, rfl, ⟨A0_4, c0_4, rfl, hc0_4, hr0_4⟩, ⟨_, _, rfl, ⟨A0_5, c0_5, rfl, hc0_5, hr0_5⟩, ⟨_, _, rfl, ⟨_, _, rfl, rfl, ⟨_, _, rfl, rfl, ⟨_, _, rfl, rfl, rfl⟩⟩⟩, ⟨_, _, rfl, ⟨A0_7, c0_7, rfl, hc0_7, hr0_7⟩, rfl⟩⟩⟩⟩⟩⟩⟩⟩ := K0
  obtain rfl : cs0 = #[.int .i64 z0.1.1, .slice A0_0_1 z0.1.2.length c0_0_1, .slice A0_1 z0.2.1.length c0_1, .slice A0_2 z0.2.2.1.length c0_2, .slice A0_3 z0.2.2.2.1.length c0_3, .slice A0_4 z0.2.2.2.2.1.length c0_4, .slice A0_5 z0.2.2.2.2.2.1.length c0_5, .int .i64 z0.2.2.2.2.2.2.1.1, .int .i64 z0.2.2.2.2.2.2.1.2.1, .int .i64 z0.2.2.2.2.2.2.1.2.2.1, .int .i64 z0.2.2.2.2.2.2.1.2.2.2, .slice A0_7 z0.2.2.2.2.2.2.2.1.length c0_7, .int .i64 z0.2.2.2.2.2.2.2.2] := by
    cases cs0
    simp only [] at ew0
    rw [← ew0]
    rfl
  obtain ⟨⟨g0_0_0, g0_0_1⟩, g0_1, g0_2, g0_3, g0_4, g0_5, ⟨g0_6_0, g0_6_1, g0_6_2, g0_6_3⟩, g0_7, g0_8⟩ := g0
  clear hA0 hval0 hsz0
  refine (Pure.FnExactIsWorld_calls z0.1.1 A0_0_1 c0_0_1 z0.1.2 A0_1 c0_1 z0.2.1 A0_2 c0_2 z0.2.2.1 A0_3 c0_3 z0.2.2.2.1 A0_4 c0_4 z0.2.2.2.2.1 A0_5 c0_5 z0.2.2.2.2.2.1 z0.2.2.2.2.2.2.1.1 z0.2.2.2.2.2.2.1.2.1 z0.2.2.2.2.2.2.1.2.2.1 z0.2.2.2.2.2.2.1.2.2.2 A0_7 c0_7 z0.2.2.2.2.2.2.2.1 z0.2.2.2.2.2.2.2.2 W hr0_0_1 hc0_0_1 hr0_1 hc0_1 hr0_2 hc0_2 hr0_3 hc0_3 hr0_4 hc0_4 hr0_5 hc0_5 hr0_7 hc0_7 g0_0_0 g0_0_1 g0_1 g0_2 g0_3 g0_4 g0_5 g0_6_0 g0_6_1 g0_6_2 g0_6_3 g0_7 g0_8).mono fun e W' ⟨he, bel⟩ => ?_
  subst he
  exact ⟨_, rfl, _, _, _, [], _, [], hW', trodAll_mk1 (shut_bool Try.underlying4 _), (trodAll_cons_mk (Below.trod laidOut (by kernel_rfl) (of_decide_eq_true (by kernel_rfl)) k0 bel lt0) trodAll_mk0), rfl, bel.frame _, fun h => by cases h⟩
theorem over : Rows.fnExactIsWorldRow.holds Try.pinned (OpenSpec.ofChange Rows.fnExactIsWorldSpec) :=
  OpenClaim.holds_of_wide 9 Try.f9 rfl rfl rfl rfl rfl rfl rfl ⟨rfl, rfl, rfl, rfl, rfl⟩ rfl rfl rfl rfl rfl (by kernel_rfl) Try.func9 (by kernel_rfl)
    (of_decide_eq_true (by kernel_rfl)) (by unfold Func.isWrapper; first | (rw [if_pos (by decide +kernel)]; kernel_rfl) | (rw [if_neg (by decide +kernel)]; exact ⟨rfl, rfl⟩))
    (fun os started H enc _ => lifted os started H enc)
theorem proved : Rows.FnExactIsWorldSaid := over
#print axioms proved
end Go.Proofs.Ytiipcophnnfnoaa.fnExactIsWorld
namespace Go.Proofs.Ytiipcophnnfnoaa
/-- The row, under a short name, for the claim. -/
theorem fnExactIsWorld_holds : Rows.FnExactIsWorldSaid := fnExactIsWorld.proved
end Go.Proofs.Ytiipcophnnfnoaa
