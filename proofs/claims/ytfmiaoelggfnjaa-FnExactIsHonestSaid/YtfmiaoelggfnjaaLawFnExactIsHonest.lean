/- The law FnExactIsHonest holds for every input: the row, out of the printed walk and the pure statement. -/
import Derived.Test.YtfmiaoelggfnjaaRows
import Derived.Test.YtfmiaoelggfnjaaOpn
import Derived.Test.YtfmiaoelggfnjaaPFnExactIsHonestx9
import Derived.Test.YtfmiaoelggfnjaaPureFnExactIsHonest
import Derived.WalkKit
import Derived.ProofKit
import Derived.OpenShut
import Derived.ShutString
import Derived.ChangeOld
import Derived.Below
import Derived.Carry
import Derived.SizedLaws
namespace Go.Proofs.Ytfmiaoelggfnjaa.fnExactIsHonest
open Go.ChangeShapes Go.WideShapes Go.ChangeAt Go.RowKit Go.Proofs.Ytfmiaoelggfnjaa.Opn Go.Proofs.Ytfmiaoelggfnjaa.PFnExactIsHonest Go.Proofs.YtfmiaoelggfnjaaW.PrintWords
open Go.ChangeMaps (open_string shut_string)
set_option linter.unusedVariables false
theorem own : ownKnob Try.prog.godebug = none := by kernel_rfl
theorem laidOut : laidOutB Try.prog = true := by kernel_rfl
theorem op120 {H : Type} {enc : TypeId × Value → H} {w : World} : Opens enc Try.prog w k120 120 Wf120 :=
  opens_iso (fun p => ⟨p.1, p.2⟩) (fun _ => rfl) (opens_struct Try.underlying120 (by kernel_rfl) (opensF_cons rfl (by kernel_rfl) (opens_int Try.underlying3) (opensF_one rfl (by kernel_rfl) (opens_int Try.underlying3))))
theorem op107 {H : Type} {enc : TypeId × Value → H} {w : World} : Opens enc Try.prog w k107 107 Wf107 :=
  opens_iso (fun p => ⟨p.1, p.2.1, p.2.2⟩) (fun _ => rfl) (opens_struct Try.underlying107 (by kernel_rfl) (opensF_cons rfl (by kernel_rfl) (opens_int Try.underlying3) (opensF_cons rfl (by kernel_rfl) (opens_int Try.underlying3) (opensF_one rfl (by kernel_rfl) (opens_slice Try.underlying25 (by kernel_rfl) (opens_int Try.underlying3))))))
theorem op46 {H : Type} {enc : TypeId × Value → H} {w : World} : Opens enc Try.prog w k46 46 Wf46 :=
  opens_iso (fun p => ⟨p.1, p.2.1, p.2.2.1, p.2.2.2.1, p.2.2.2.2⟩) (fun _ => rfl) (opens_struct Try.underlying46 (by kernel_rfl) (opensF_cons rfl (by kernel_rfl) (opens_int Try.underlying3) (opensF_cons rfl (by kernel_rfl) (opens_int Try.underlying3) (opensF_cons rfl (by kernel_rfl) (opens_int Try.underlying3) (opensF_cons rfl (by kernel_rfl) (opens_int Try.underlying3) (opensF_one rfl (by kernel_rfl) (opens_bool Try.underlying4)))))))
set_option maxRecDepth 100000 in
theorem lifted (os : Os) (started : os.Started) (H : Type) (enc : TypeId × Value → H) :
    ReturnsInHanded {} Try.checked os 5 .any (Rows.fnExactIsHonestSpec.pre6 enc Try.prog Try.f5 Rows.fnExactIsHonestRow.domain false) (Rows.fnExactIsHonestSpec.post enc Try.prog Try.f5 false true false false) := by
  refine returnsInHanded_of_change_sized (C := Try.checked) own started (by kernel_rfl) Try.func5
    (ChangeSpec.witness6 (enc := enc) (C := Try.checked) false ⟨#[], #[.agg #[.int .i64 0, .slice none 0 0, .slice none 0 0, .slice none 0 0, .slice none 0 0, .slice none 0 0, .slice none 0 0, .int .i64 0, .int .i64 0, .int .i64 0, .int .i64 0, .slice none 0 0, .int .i64 0], .agg #[.int .i64 0, .int .i64 0, .int .i64 0, .int .i64 0, .bool false]], []⟩ 8 (by kernel_rfl) (by kernel_rfl) (by kernel_rfl) (by kernel_rfl)) ?_
  intro W base args ds gs before hval0 hW hcnd hsz0 _
  have hval : ∀ (j : Nat) t v, Try.f5.params[j]? = some t → args[j]? = some v → Value.okWide Try.prog W .any base t v := hval0
  have hW' := hW
  obtain ⟨p, q, hA0, hV, rfl, hfz, hnd⟩ := hW
  have hA : DataW.TrodAll enc Try.prog W 0 (fun _ => true) true Try.f5.params.toList args.toList ds p := hA0
  rw [Try.params5] at hA hval
  obtain ⟨v0, vs0, d0, ds0, p0, q0, hargs, rfl, rfl, h0, r0⟩ := trodAll_cons hA
  obtain ⟨v1, vs1, d1, ds1, p1, q1, rfl, rfl, rfl, h1, r1⟩ := trodAll_cons r0
  obtain ⟨rfl, rfl, rfl⟩ := trodAll_nil r1
  obtain rfl : args = #[v0, v1] := by cases args; simp_all
  obtain ⟨rfl, rfl⟩ := trodVars_none hV
  have k0 := h0
  have lt0 : ∀ x ∈ p0, x.block < W.heap.size := by obtain ⟨m, hm⟩ := k0; exact DataW.trod_lt m _ _ _ hm
  obtain ⟨cs0, rfl, _⟩ := okWide_struct Try.underlying31 (hval 0 31 v0 rfl rfl)
  obtain ⟨z0, K0, g0⟩ : ∃ z : ((Int × (List S120)) × (List Int) × (List Int) × (List S107) × (List Int) × (List Int) × (Int × Int × Int × Int) × (List S46) × Int), (Kd.pair (Kd.pair (Kd.int .i64) (Kd.slice 120 k120)) (Kd.pair (Kd.slice 3 (Kd.int .i64)) (Kd.pair (Kd.slice 3 (Kd.int .i64)) (Kd.pair (Kd.slice 107 k107) (Kd.pair (Kd.slice 3 (Kd.int .i64)) (Kd.pair (Kd.slice 3 (Kd.int .i64)) (Kd.pair (Kd.pair (Kd.int .i64) (Kd.pair (Kd.int .i64) (Kd.pair (Kd.int .i64) (Kd.int .i64)))) (Kd.pair (Kd.slice 46 k46) (Kd.int .i64))))))))).K W z cs0.toList ∧ (((Lit.int .i64 z.1.1).wf = true ∧ (z.1.2.length ≤ 9223372036854775807 ∧ ∀ y0_ ∈ z.1.2, Wf120 y0_)) ∧ (z.2.1.length ≤ 9223372036854775807 ∧ ∀ y0_ ∈ z.2.1, (Lit.int .i64 y0_).wf = true) ∧ (z.2.2.1.length ≤ 9223372036854775807 ∧ ∀ y0_ ∈ z.2.2.1, (Lit.int .i64 y0_).wf = true) ∧ (z.2.2.2.1.length ≤ 9223372036854775807 ∧ ∀ y0_ ∈ z.2.2.2.1, Wf107 y0_) ∧ (z.2.2.2.2.1.length ≤ 9223372036854775807 ∧ ∀ y0_ ∈ z.2.2.2.2.1, (Lit.int .i64 y0_).wf = true) ∧ (z.2.2.2.2.2.1.length ≤ 9223372036854775807 ∧ ∀ y0_ ∈ z.2.2.2.2.2.1, (Lit.int .i64 y0_).wf = true) ∧ ((Lit.int .i64 z.2.2.2.2.2.2.1.1).wf = true ∧ (Lit.int .i64 z.2.2.2.2.2.2.1.2.1).wf = true ∧ (Lit.int .i64 z.2.2.2.2.2.2.1.2.2.1).wf = true ∧ (Lit.int .i64 z.2.2.2.2.2.2.1.2.2.2).wf = true) ∧ (z.2.2.2.2.2.2.2.1.length ≤ 9223372036854775807 ∧ ∀ y0_ ∈ z.2.2.2.2.2.2.2.1, Wf46 y0_) ∧ (Lit.int .i64 z.2.2.2.2.2.2.2.2).wf = true) := by
    obtain ⟨fuel, hf⟩ := h0
    exact (opens_struct Try.underlying31 (by kernel_rfl) (opensF_cons rfl (by kernel_rfl) (opens_struct Try.underlying24 (by kernel_rfl) (opensF_cons rfl (by kernel_rfl) (opens_int Try.underlying3) (opensF_one rfl (by kernel_rfl) (opens_slice Try.underlying22 (by kernel_rfl) op120)))) (opensF_cons rfl (by kernel_rfl) (opens_slice Try.underlying25 (by kernel_rfl) (opens_int Try.underlying3)) (opensF_cons rfl (by kernel_rfl) (opens_slice Try.underlying25 (by kernel_rfl) (opens_int Try.underlying3)) (opensF_cons rfl (by kernel_rfl) (opens_slice Try.underlying26 (by kernel_rfl) op107) (opensF_cons rfl (by kernel_rfl) (opens_slice Try.underlying25 (by kernel_rfl) (opens_int Try.underlying3)) (opensF_cons rfl (by kernel_rfl) (opens_slice Try.underlying25 (by kernel_rfl) (opens_int Try.underlying3)) (opensF_cons rfl (by kernel_rfl) (opens_struct Try.underlying28 (by kernel_rfl) (opensF_cons rfl (by kernel_rfl) (opens_int Try.underlying3) (opensF_cons rfl (by kernel_rfl) (opens_int Try.underlying3) (opensF_cons rfl (by kernel_rfl) (opens_int Try.underlying3) (opensF_one rfl (by kernel_rfl) (opens_int Try.underlying3)))))) (opensF_cons rfl (by kernel_rfl) (opens_slice Try.underlying29 (by kernel_rfl) op46) (opensF_one rfl (by kernel_rfl) (opens_int Try.underlying3))))))))))) _ _ _ _ _ _ hf
  obtain ⟨w0, ew0⟩ : ∃ l, l = cs0.toList := ⟨_, rfl⟩
  rw [← ew0] at K0
  obtain ⟨_, _, rfl, ⟨_, _, rfl, rfl, ⟨A0_0_1, c0_0_1, rfl, hc0_0_1, hr0_0_1⟩⟩, ⟨_, _, rfl, ⟨A0_1, c0_1, rfl, hc0_1, hr0_1⟩, ⟨_, _, rfl, ⟨A0_2, c0_2, rfl, hc0_2, hr0_2⟩, ⟨_, _, rfl, ⟨A0_3, c0_3, rfl, hc0_3, hr0_3⟩, ⟨_, _, rfl, ⟨A0_4, c0_4, rfl, hc0_4, hr0_4⟩, ⟨_, _, rfl, ⟨A0_5, c0_5, rfl, hc0_5, hr0_5⟩, ⟨_, _, rfl, ⟨_, _, rfl, rfl, ⟨_, _, rfl, rfl, ⟨_, _, rfl, rfl, rfl⟩⟩⟩, ⟨_, _, rfl, ⟨A0_7, c0_7, rfl, hc0_7, hr0_7⟩, rfl⟩⟩⟩⟩⟩⟩⟩⟩ := K0
  obtain rfl : cs0 = #[.int .i64 z0.1.1, .slice A0_0_1 z0.1.2.length c0_0_1, .slice A0_1 z0.2.1.length c0_1, .slice A0_2 z0.2.2.1.length c0_2, .slice A0_3 z0.2.2.2.1.length c0_3, .slice A0_4 z0.2.2.2.2.1.length c0_4, .slice A0_5 z0.2.2.2.2.2.1.length c0_5, .int .i64 z0.2.2.2.2.2.2.1.1, .int .i64 z0.2.2.2.2.2.2.1.2.1, .int .i64 z0.2.2.2.2.2.2.1.2.2.1, .int .i64 z0.2.2.2.2.2.2.1.2.2.2, .slice A0_7 z0.2.2.2.2.2.2.2.1.length c0_7, .int .i64 z0.2.2.2.2.2.2.2.2] := by
    cases cs0
    simp only [] at ew0
    rw [← ew0]
    rfl
  obtain ⟨⟨g0_0_0, g0_0_1⟩, g0_1, g0_2, g0_3, g0_4, g0_5, ⟨g0_6_0, g0_6_1, g0_6_2, g0_6_3⟩, g0_7, g0_8⟩ := g0
  have k1 := h1
  have lt1 : ∀ x ∈ p1, x.block < W.heap.size := by obtain ⟨m, hm⟩ := k1; exact DataW.trod_lt m _ _ _ hm
  obtain ⟨cs1, rfl, _⟩ := okWide_struct Try.underlying46 (hval 1 46 v1 rfl rfl)
  obtain ⟨z1, K1, g1⟩ : ∃ z : S46, k46.K W z cs1.toList ∧ Wf46 z := by
    obtain ⟨fuel, hf⟩ := h1
    exact op46 _ _ _ _ _ _ hf
  obtain ⟨w1, ew1⟩ : ∃ l, l = cs1.toList := ⟨_, rfl⟩
  rw [← ew1] at K1
  obtain ⟨_, _, rfl, rfl, ⟨_, _, rfl, rfl, ⟨_, _, rfl, rfl, ⟨_, _, rfl, rfl, rfl⟩⟩⟩⟩ := K1
  obtain rfl : cs1 = #[.int .i64 z1.f0, .int .i64 z1.f1, .int .i64 z1.f2, .int .i64 z1.f3, .bool z1.f4] := by
    cases cs1
    simp only [] at ew1
    rw [← ew1]
    rfl
  obtain ⟨g1_0, g1_1, g1_2, g1_3, g1_4⟩ := g1
  clear hA0 hval0 hsz0
  obtain ⟨k, h⟩ := Pure.FnExactIsHonest z0.1.1 z0.1.2 z0.2.1 z0.2.2.1 z0.2.2.2.1 z0.2.2.2.2.1 z0.2.2.2.2.2.1 z0.2.2.2.2.2.2.1.1 z0.2.2.2.2.2.2.1.2.1 z0.2.2.2.2.2.2.1.2.2.1 z0.2.2.2.2.2.2.1.2.2.2 z0.2.2.2.2.2.2.2.1 z0.2.2.2.2.2.2.2.2 z1.f0 z1.f1 z1.f2 z1.f3 z1.f4 g0_0_0 g0_0_1 g0_1 g0_2 g0_3 g0_4 g0_5 g0_6_0 g0_6_1 g0_6_2 g0_6_3 g0_7 g0_8 g1_0 g1_1 g1_2 g1_3
  refine (laws_FnExactIsHonest.calls k z0.1.1 A0_0_1 c0_0_1 z0.1.2 A0_1 c0_1 z0.2.1 A0_2 c0_2 z0.2.2.1 A0_3 c0_3 z0.2.2.2.1 A0_4 c0_4 z0.2.2.2.2.1 A0_5 c0_5 z0.2.2.2.2.2.1 z0.2.2.2.2.2.2.1.1 z0.2.2.2.2.2.2.1.2.1 z0.2.2.2.2.2.2.1.2.2.1 z0.2.2.2.2.2.2.1.2.2.2 A0_7 c0_7 z0.2.2.2.2.2.2.2.1 z0.2.2.2.2.2.2.2.2 z1.f0 z1.f1 z1.f2 z1.f3 z1.f4 true W hr0_0_1 hc0_0_1 hr0_1 hc0_1 hr0_2 hc0_2 hr0_3 hc0_3 hr0_4 hc0_4 hr0_5 hc0_5 hr0_7 hc0_7 h ⟨rfl⟩).mono fun e W' ⟨he, bel⟩ => ?_
  subst he
  exact ⟨_, rfl, _, _, _, [], _, [], hW', trodAll_mk1 (shut_bool Try.underlying4 _), (trodAll_cons_mk (Below.trod laidOut (by kernel_rfl) (of_decide_eq_true (by kernel_rfl)) k0 bel lt0) (trodAll_cons_mk (Below.trod laidOut (by kernel_rfl) (of_decide_eq_true (by kernel_rfl)) k1 bel lt1) trodAll_mk0)), rfl, bel.frame _, fun h => by cases h⟩
theorem over : Rows.fnExactIsHonestRow.holds Try.pinned (OpenSpec.ofChange Rows.fnExactIsHonestSpec) :=
  OpenClaim.holds_of_wide 5 Try.f5 rfl rfl rfl rfl rfl rfl rfl ⟨rfl, rfl, rfl, rfl, rfl⟩ rfl rfl rfl rfl rfl (by kernel_rfl) Try.func5 (by kernel_rfl)
    (of_decide_eq_true (by kernel_rfl)) (by unfold Func.isWrapper; first | (rw [if_pos (by decide +kernel)]; kernel_rfl) | (rw [if_neg (by decide +kernel)]; exact ⟨rfl, rfl⟩))
    (fun os started H enc _ => lifted os started H enc)
theorem proved : Rows.FnExactIsHonestSaid := over
#print axioms proved
end Go.Proofs.Ytfmiaoelggfnjaa.fnExactIsHonest
namespace Go.Proofs.Ytfmiaoelggfnjaa
/-- The row, under a short name, for the claim. -/
theorem fnExactIsHonest_holds : Rows.FnExactIsHonestSaid := fnExactIsHonest.proved
end Go.Proofs.Ytfmiaoelggfnjaa
