/- The law FnExactSureLiars holds for every input: the row, out of the printed walk and the pure statement. -/
import Derived.Test.YtiipcophnnfnoaaRows
import Derived.Test.YtiipcophnnfnoaaVFnExactSureLiars
import Derived.Test.YtiipcophnnfnoaaPFnExactSureLiarsx15
import Derived.Test.YtiipcophnnfnoaaPureFnExactSureLiars
import Derived.WalkKit
import Derived.ProofKit
import Derived.OpenShut
import Derived.ShutString
import Derived.ChangeOld
import Derived.Below
import Derived.Carry
import Derived.SizedLaws
namespace Go.Proofs.Ytiipcophnnfnoaa.fnExactSureLiars
open Go.ChangeShapes Go.WideShapes Go.ChangeAt Go.RowKit Go.Proofs.Ytiipcophnnfnoaa.Opn Go.Proofs.Ytiipcophnnfnoaa.PFnExactSureLiars Go.Proofs.YtiipcophnnfnoaaW.PrintWords
open Go.ChangeMaps (open_string shut_string)
set_option linter.unusedVariables false
theorem own : ownKnob Try.prog.godebug = none := by kernel_rfl
theorem laidOut : laidOutB Try.prog = true := by kernel_rfl
set_option maxRecDepth 100000 in
theorem lifted (os : Os) (started : os.Started) (H : Type) (enc : TypeId × Value → H) :
    ReturnsInHanded {} Try.checked os 8 .any (Rows.fnExactSureLiarsSpec.pre6 enc Try.prog Try.f8 Rows.fnExactSureLiarsRow.domain false) (Rows.fnExactSureLiarsSpec.post enc Try.prog Try.f8 false true false false) := by
  refine returnsInHanded_of_change_sized (C := Try.checked) own started (by kernel_rfl) Try.func8
    (ChangeSpec.witness6 (enc := enc) (C := Try.checked) false ⟨#[], #[.slice none 0 0, .slice none 0 0, .slice none 0 0, .int .i64 0], []⟩ 8 (by kernel_rfl) (by kernel_rfl) (by kernel_rfl) (by kernel_rfl)) ?_
  intro W base args ds gs before hval0 hW hcnd hsz0 _
  have hval : ∀ (j : Nat) t v, Try.f8.params[j]? = some t → args[j]? = some v → Value.okWide Try.prog W .any base t v := hval0
  have hW' := hW
  obtain ⟨p, q, hA0, hV, rfl, hfz, hnd⟩ := hW
  have hA : DataW.TrodAll enc Try.prog W 0 (fun _ => true) true Try.f8.params.toList args.toList ds p := hA0
  rw [Try.params8] at hA hval
  obtain ⟨v0, vs0, d0, ds0, p0, q0, hargs, rfl, rfl, h0, r0⟩ := trodAll_cons hA
  obtain ⟨v1, vs1, d1, ds1, p1, q1, rfl, rfl, rfl, h1, r1⟩ := trodAll_cons r0
  obtain ⟨v2, vs2, d2, ds2, p2, q2, rfl, rfl, rfl, h2, r2⟩ := trodAll_cons r1
  obtain ⟨v3, vs3, d3, ds3, p3, q3, rfl, rfl, rfl, h3, r3⟩ := trodAll_cons r2
  obtain ⟨rfl, rfl, rfl⟩ := trodAll_nil r3
  obtain rfl : args = #[v0, v1, v2, v3] := by cases args; simp_all
  obtain ⟨rfl, rfl⟩ := trodVars_none hV
  have k0 := h0
  have lt0 : ∀ x ∈ p0, x.block < W.heap.size := by obtain ⟨m, hm⟩ := k0; exact DataW.trod_lt m _ _ _ hm
  obtain ⟨a0, len0, cap0, rfl⟩ := okWide_slice Try.underlying33 (hval 0 33 v0 rfl rfl)
  obtain ⟨z0, ⟨A0, c0, e0, hc0, hr0⟩, g0⟩ : ∃ z, (Kd.slice 25 (Kd.slice 3 (Kd.int .i64))).K W z [.slice a0 len0 cap0] ∧ (z.length ≤ 9223372036854775807 ∧ ∀ y0_ ∈ z, (y0_.length ≤ 9223372036854775807 ∧ ∀ y1_ ∈ y0_, (Lit.int .i64 y1_).wf = true)) := by
    obtain ⟨fuel, hf⟩ := h0
    exact (opens_slice Try.underlying33 (by kernel_rfl) (opens_slice Try.underlying25 (by kernel_rfl) (opens_int Try.underlying3))) _ _ _ _ _ _ hf
  obtain ⟨rfl, rfl, rfl⟩ : a0 = A0 ∧ len0 = z0.length ∧ cap0 = c0 := by simpa using e0
  have k1 := h1
  have lt1 : ∀ x ∈ p1, x.block < W.heap.size := by obtain ⟨m, hm⟩ := k1; exact DataW.trod_lt m _ _ _ hm
  obtain ⟨a1, len1, cap1, rfl⟩ := okWide_slice Try.underlying25 (hval 1 25 v1 rfl rfl)
  obtain ⟨z1, ⟨A1, c1, e1, hc1, hr1⟩, g1⟩ : ∃ z, (Kd.slice 3 (Kd.int .i64)).K W z [.slice a1 len1 cap1] ∧ (z.length ≤ 9223372036854775807 ∧ ∀ y0_ ∈ z, (Lit.int .i64 y0_).wf = true) := by
    obtain ⟨fuel, hf⟩ := h1
    exact (opens_slice Try.underlying25 (by kernel_rfl) (opens_int Try.underlying3)) _ _ _ _ _ _ hf
  obtain ⟨rfl, rfl, rfl⟩ : a1 = A1 ∧ len1 = z1.length ∧ cap1 = c1 := by simpa using e1
  have k2 := h2
  have lt2 : ∀ x ∈ p2, x.block < W.heap.size := by obtain ⟨m, hm⟩ := k2; exact DataW.trod_lt m _ _ _ hm
  obtain ⟨a2, len2, cap2, rfl⟩ := okWide_slice Try.underlying25 (hval 2 25 v2 rfl rfl)
  obtain ⟨z2, ⟨A2, c2, e2, hc2, hr2⟩, g2⟩ : ∃ z, (Kd.slice 3 (Kd.int .i64)).K W z [.slice a2 len2 cap2] ∧ (z.length ≤ 9223372036854775807 ∧ ∀ y0_ ∈ z, (Lit.int .i64 y0_).wf = true) := by
    obtain ⟨fuel, hf⟩ := h2
    exact (opens_slice Try.underlying25 (by kernel_rfl) (opens_int Try.underlying3)) _ _ _ _ _ _ hf
  obtain ⟨rfl, rfl, rfl⟩ : a2 = A2 ∧ len2 = z2.length ∧ cap2 = c2 := by simpa using e2
  obtain ⟨a3, rfl, rfl, rfl, w3⟩ := open_int Try.underlying3 (hval 3 3 v3 rfl rfl) h3
  clear hA0 hval0 hsz0
  refine (Pure.FnExactSureLiars_calls a0 cap0 z0 a1 cap1 z1 a2 cap2 z2 a3 W hr0 hc0 hr1 hc1 hr2 hc2 g0 g1 g2 w3).mono fun e W' ⟨he, bel⟩ => ?_
  subst he
  exact ⟨_, rfl, _, _, _, [], _, [], hW', trodAll_mk1 (shut_bool Try.underlying4 _), (trodAll_cons_mk (Below.trod laidOut (by kernel_rfl) (of_decide_eq_true (by kernel_rfl)) k0 bel lt0) (trodAll_cons_mk (Below.trod laidOut (by kernel_rfl) (of_decide_eq_true (by kernel_rfl)) k1 bel lt1) (trodAll_cons_mk (Below.trod laidOut (by kernel_rfl) (of_decide_eq_true (by kernel_rfl)) k2 bel lt2) (trodAll_cons_mk (shut_int Try.underlying3 w3) trodAll_mk0)))), rfl, bel.frame _, fun h => by cases h⟩
theorem over : Rows.fnExactSureLiarsRow.holds Try.pinned (OpenSpec.ofChange Rows.fnExactSureLiarsSpec) :=
  OpenClaim.holds_of_wide 8 Try.f8 rfl rfl rfl rfl rfl rfl rfl ⟨rfl, rfl, rfl, rfl, rfl⟩ rfl rfl rfl rfl rfl (by kernel_rfl) Try.func8 (by kernel_rfl)
    (of_decide_eq_true (by kernel_rfl)) (by unfold Func.isWrapper; first | (rw [if_pos (by decide +kernel)]; kernel_rfl) | (rw [if_neg (by decide +kernel)]; exact ⟨rfl, rfl⟩))
    (fun os started H enc _ => lifted os started H enc)
theorem proved : Rows.FnExactSureLiarsSaid := over
#print axioms proved
end Go.Proofs.Ytiipcophnnfnoaa.fnExactSureLiars
namespace Go.Proofs.Ytiipcophnnfnoaa
/-- The row, under a short name, for the claim. -/
theorem fnExactSureLiars_holds : Rows.FnExactSureLiarsSaid := fnExactSureLiars.proved
end Go.Proofs.Ytiipcophnnfnoaa
