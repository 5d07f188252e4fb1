/- The law FnExactNewWorld holds for every input: the row, out of the printed walk and the pure statement. -/
import Derived.Test.YtiipcophnnfnoaaRows
import Derived.Test.YtiipcophnnfnoaaVFnExactNewWorld
import Derived.Test.YtiipcophnnfnoaaPFnExactNewWorldx26
import Derived.Test.YtiipcophnnfnoaaPureFnExactNewWorld
import Derived.WalkKit
import Derived.ProofKit
import Derived.OpenShut
import Derived.ShutString
import Derived.ChangeOld
import Derived.Below
import Derived.Carry
import Derived.SizedLaws
namespace Go.Proofs.Ytiipcophnnfnoaa.fnExactNewWorld
open Go.ChangeShapes Go.WideShapes Go.ChangeAt Go.RowKit Go.Proofs.Ytiipcophnnfnoaa.Opn Go.Proofs.Ytiipcophnnfnoaa.PFnExactNewWorld Go.Proofs.YtiipcophnnfnoaaW.PrintWords
open Go.ChangeMaps (open_string shut_string)
set_option linter.unusedVariables false
theorem own : ownKnob Try.prog.godebug = none := by kernel_rfl
theorem laidOut : laidOutB Try.prog = true := by kernel_rfl
theorem op159 {H : Type} {enc : TypeId × Value → H} {w : World} : Opens enc Try.prog w k159 159 Wf159 :=
  opens_iso (fun p => ⟨p.1, p.2⟩) (fun _ => rfl) (opens_struct Try.underlying159 (by kernel_rfl) (opensF_cons rfl (by kernel_rfl) (opens_int Try.underlying3) (opensF_one rfl (by kernel_rfl) (opens_int Try.underlying3))))
set_option maxRecDepth 100000 in
theorem lifted (os : Os) (started : os.Started) (H : Type) (enc : TypeId × Value → H) :
    ReturnsInHanded {} Try.checked os 10 .any (Rows.fnExactNewWorldSpec.pre6 enc Try.prog Try.f10 Rows.fnExactNewWorldRow.domain false) (Rows.fnExactNewWorldSpec.post enc Try.prog Try.f10 false true false false) := by
  refine returnsInHanded_of_change_sized (C := Try.checked) own started (by kernel_rfl) Try.func10
    (ChangeSpec.witness6 (enc := enc) (C := Try.checked) false ⟨#[], #[.agg #[.int .i64 0, .slice none 0 0], .slice none 0 0, .slice none 0 0, .slice none 0 0], []⟩ 8 (by kernel_rfl) (by kernel_rfl) (by kernel_rfl) (by kernel_rfl)) ?_
  intro W base args ds gs before hval0 hW hcnd hsz0 _
  have hval : ∀ (j : Nat) t v, Try.f10.params[j]? = some t → args[j]? = some v → Value.okWide Try.prog W .any base t v := hval0
  have hW' := hW
  obtain ⟨p, q, hA0, hV, rfl, hfz, hnd⟩ := hW
  have hA : DataW.TrodAll enc Try.prog W 0 (fun _ => true) true Try.f10.params.toList args.toList ds p := hA0
  rw [Try.params10] at hA hval
  obtain ⟨v0, vs0, d0, ds0, p0, q0, hargs, rfl, rfl, h0, r0⟩ := trodAll_cons hA
  obtain ⟨v1, vs1, d1, ds1, p1, q1, rfl, rfl, rfl, h1, r1⟩ := trodAll_cons r0
  obtain ⟨v2, vs2, d2, ds2, p2, q2, rfl, rfl, rfl, h2, r2⟩ := trodAll_cons r1
  obtain ⟨v3, vs3, d3, ds3, p3, q3, rfl, rfl, rfl, h3, r3⟩ := trodAll_cons r2
  obtain ⟨rfl, rfl, rfl⟩ := trodAll_nil r3
  obtain rfl : args = #[v0, v1, v2, v3] := by cases args; simp_all
  obtain ⟨rfl, rfl⟩ := trodVars_none hV
  have k0 := h0
  have lt0 : ∀ x ∈ p0, x.block < W.heap.size := by obtain ⟨m, hm⟩ := k0; exact DataW.trod_lt m _ _ _ hm
  obtain ⟨cs0, rfl, _⟩ := okWide_struct Try.underlying24 (hval 0 24 v0 rfl rfl)
  obtain ⟨z0, K0, g0⟩ : ∃ z : (Int × (List S159)), (Kd.pair (Kd.int .i64) (Kd.slice 159 k159)).K W z cs0.toList ∧ ((Lit.int .i64 z.1).wf = true ∧ (z.2.length ≤ 9223372036854775807 ∧ ∀ y0_ ∈ z.2, Wf159 y0_)) := by
    obtain ⟨fuel, hf⟩ := h0
    exact (opens_struct Try.underlying24 (by kernel_rfl) (opensF_cons rfl (by kernel_rfl) (opens_int Try.underlying3) (opensF_one rfl (by kernel_rfl) (opens_slice Try.underlying22 (by kernel_rfl) op159)))) _ _ _ _ _ _ hf
  obtain ⟨w0, ew0⟩ : ∃ l, l = cs0.toList := ⟨_, rfl⟩
  rw [← ew0] at K0
  obtain ⟨_, _, rfl, rfl, ⟨A0_1, c0_1, rfl, hc0_1, hr0_1⟩⟩ := K0
  obtain rfl : cs0 = #[.int .i64 z0.1, .slice A0_1 z0.2.length c0_1] := by
    cases cs0
    simp only [] at ew0
    rw [← ew0]
    rfl
  obtain ⟨g0_0, g0_1⟩ := g0
  have k1 := h1
  have lt1 : ∀ x ∈ p1, x.block < W.heap.size := by obtain ⟨m, hm⟩ := k1; exact DataW.trod_lt m _ _ _ hm
  obtain ⟨a1, len1, cap1, rfl⟩ := okWide_slice Try.underlying25 (hval 1 25 v1 rfl rfl)
  obtain ⟨z1, ⟨A1, c1, e1, hc1, hr1⟩, g1⟩ : ∃ z, (Kd.slice 3 (Kd.int .i64)).K W z [.slice a1 len1 cap1] ∧ (z.length ≤ 9223372036854775807 ∧ ∀ y0_ ∈ z, (Lit.int .i64 y0_).wf = true) := by
    obtain ⟨fuel, hf⟩ := h1
    exact (opens_slice Try.underlying25 (by kernel_rfl) (opens_int Try.underlying3)) _ _ _ _ _ _ hf
  obtain ⟨rfl, rfl, rfl⟩ : a1 = A1 ∧ len1 = z1.length ∧ cap1 = c1 := by simpa using e1
  have k2 := h2
  have lt2 : ∀ x ∈ p2, x.block < W.heap.size := by obtain ⟨m, hm⟩ := k2; exact DataW.trod_lt m _ _ _ hm
  obtain ⟨a2, len2, cap2, rfl⟩ := okWide_slice Try.underlying25 (hval 2 25 v2 rfl rfl)
  obtain ⟨z2, ⟨A2, c2, e2, hc2, hr2⟩, g2⟩ : ∃ z, (Kd.slice 3 (Kd.int .i64)).K W z [.slice a2 len2 cap2] ∧ (z.length ≤ 9223372036854775807 ∧ ∀ y0_ ∈ z, (Lit.int .i64 y0_).wf = true) := by
    obtain ⟨fuel, hf⟩ := h2
    exact (opens_slice Try.underlying25 (by kernel_rfl) (opens_int Try.underlying3)) _ _ _ _ _ _ hf
  obtain ⟨rfl, rfl, rfl⟩ : a2 = A2 ∧ len2 = z2.length ∧ cap2 = c2 := by simpa using e2
  have k3 := h3
  have lt3 : ∀ x ∈ p3, x.block < W.heap.size := by obtain ⟨m, hm⟩ := k3; exact DataW.trod_lt m _ _ _ hm
  obtain ⟨a3, len3, cap3, rfl⟩ := okWide_slice Try.underlying25 (hval 3 25 v3 rfl rfl)
  obtain ⟨z3, ⟨A3, c3, e3, hc3, hr3⟩, g3⟩ : ∃ z, (Kd.slice 3 (Kd.int .i64)).K W z [.slice a3 len3 cap3] ∧ (z.length ≤ 9223372036854775807 ∧ ∀ y0_ ∈ z, (Lit.int .i64 y0_).wf = true) := by
    obtain ⟨fuel, hf⟩ := h3
    exact (opens_slice Try.underlying25 (by kernel_rfl) (opens_int Try.underlying3)) _ _ _ _ _ _ hf
  obtain ⟨rfl, rfl, rfl⟩ : a3 = A3 ∧ len3 = z3.length ∧ cap3 = c3 := by simpa using e3
  clear hA0 hval0 hsz0
  refine (Pure.FnExactNewWorld_calls z0.1 A0_1 c0_1 z0.2 a1 cap1 z1 a2 cap2 z2 a3 cap3 z3 W hr0_1 hc0_1 hr1 hc1 hr2 hc2 hr3 hc3 g0_0 g0_1 g1 g2 g3).mono fun e W' ⟨he, bel⟩ => ?_
  subst he
  exact ⟨_, rfl, _, _, _, [], _, [], hW', trodAll_mk1 (shut_bool Try.underlying4 _), (trodAll_cons_mk (Below.trod laidOut (by kernel_rfl) (of_decide_eq_true (by kernel_rfl)) k0 bel lt0) (trodAll_cons_mk (Below.trod laidOut (by kernel_rfl) (of_decide_eq_true (by kernel_rfl)) k1 bel lt1) (trodAll_cons_mk (Below.trod laidOut (by kernel_rfl) (of_decide_eq_true (by kernel_rfl)) k2 bel lt2) (trodAll_cons_mk (Below.trod laidOut (by kernel_rfl) (of_decide_eq_true (by kernel_rfl)) k3 bel lt3) trodAll_mk0)))), rfl, bel.frame _, fun h => by cases h⟩
theorem over : Rows.fnExactNewWorldRow.holds Try.pinned (OpenSpec.ofChange Rows.fnExactNewWorldSpec) :=
  OpenClaim.holds_of_wide 10 Try.f10 rfl rfl rfl rfl rfl rfl rfl ⟨rfl, rfl, rfl, rfl, rfl⟩ rfl rfl rfl rfl rfl (by kernel_rfl) Try.func10 (by kernel_rfl)
    (of_decide_eq_true (by kernel_rfl)) (by unfold Func.isWrapper; first | (rw [if_pos (by decide +kernel)]; kernel_rfl) | (rw [if_neg (by decide +kernel)]; exact ⟨rfl, rfl⟩))
    (fun os started H enc _ => lifted os started H enc)
theorem proved : Rows.FnExactNewWorldSaid := over
#print axioms proved
end Go.Proofs.Ytiipcophnnfnoaa.fnExactNewWorld
namespace Go.Proofs.Ytiipcophnnfnoaa
/-- The row, under a short name, for the claim. -/
theorem fnExactNewWorld_holds : Rows.FnExactNewWorldSaid := fnExactNewWorld.proved
end Go.Proofs.Ytiipcophnnfnoaa
