/- What the functions that the law FnExactIsWorld uses compute, and that the program computes it: walks written by a program of this session. -/
import Derived.Test.YtiipcophnnfnoaaPFnExactIsWorldx0
import Derived.Test.YtiipcophnnfnoaaPFnExactIsWorldx13
import Derived.Test.YtiipcophnnfnoaaPFnExactIsWorldx14
namespace Go.Proofs.Ytiipcophnnfnoaa.PFnExactIsWorld
open Go.RowKit Go.Proofs.YtiipcophnnfnoaaW.PrintWords Go.Proofs.YtiipcophnnfnoaaW.PrintLast Go.Proofs.YtiipcophnnfnoaaW.PrintMore
attribute [local go_sem] max2_int min2_int max_two min_two max_three min_three max_four min_four   -- for this text's walks alone
set_option linter.unusedVariables false
set_option linter.unusedSimpArgs false

/-! ### impl_IsWorld: function 50 -/
def isWorldF (k : Nat) (a0_0 : Int) (l0_1 : (List S133)) (l0_2 : (List Int)) (l0_3 : (List Int)) (l0_4 : (List S103)) (l0_5 : (List Int)) (l0_6 : (List Int)) (a0_7 : Int) (a0_8 : Int) (a0_9 : Int) (a0_10 : Int) (l0_11 : (List S62)) (a0_12 : Int) : Option Bool := (impl_IsNet.f k a0_0 l0_1).bind fun t1 => (if t1 = true then (if (l0_2.length : Int) = (l0_1.length : Int) then ((impl_allIn.f k l0_2 0 100).bind fun t2 => (if t2 = true then ((impl_isSet.f k l0_3 (l0_1.length : Int)).bind fun t3 => (if t3 = true then (if (l0_4.length : Int) > 0 then ((impl_AreProbes.f k a0_0 l0_1 l0_4).bind fun t4 => (if t4 = true then (if (l0_5.length : Int) = (l0_4.length : Int) then ((impl_allIn.f k l0_5 0 5).bind fun t5 => (if t5 = true then ((impl_isSet.f k l0_6 6).bind fun t6 => (if t6 = true then ((impl_IsBucket.f a0_7 a0_8 a0_9 a0_10).bind fun t7 => (if t7 = true then (if a0_10 ≤ a0_12 then ((impl_AreSeen.f k l0_11 (l0_4.length : Int) a0_12).bind fun t8 => (if t8 = true then ((impl_InRange.f a0_12 0 100000).bind fun t9 => (some t9)) else (some false))) else (some false)) else (some false))) else (some false))) else (some false))) else (some false)) else (some false))) else (some false)) else (some false))) else (some false))) else (some false)) else (some false))
theorem isWorldF_mono (a0_0 : Int) (l0_1 : (List S133)) (l0_2 : (List Int)) (l0_3 : (List Int)) (l0_4 : (List S103)) (l0_5 : (List Int)) (l0_6 : (List Int)) (a0_7 : Int) (a0_8 : Int) (a0_9 : Int) (a0_10 : Int) (l0_11 : (List S62)) (a0_12 : Int) (k : Nat) : LeO (isWorldF k a0_0 l0_1 l0_2 l0_3 l0_4 l0_5 l0_6 a0_7 a0_8 a0_9 a0_10 l0_11 a0_12) (isWorldF (k + 1) a0_0 l0_1 l0_2 l0_3 l0_4 l0_5 l0_6 a0_7 a0_8 a0_9 a0_10 l0_11 a0_12) := by
 unfold isWorldF
 repeat' first
   | (with_reducible exact impl_AreProbes.mono _ _ _ _)
   | (with_reducible exact impl_AreSeen.mono _ _ _ _)
   | (with_reducible exact impl_IsNet.mono _ _ _)
   | (with_reducible exact impl_allIn.mono _ _ _ _)
   | (with_reducible exact impl_isSet.mono _ _ _)
   | (with_reducible exact LeO.refl _)
   | (with_reducible exact LeO.none _)
   | (with_reducible refine LeO.ite ?_ ?_)
   | (with_reducible refine LeO.bind ?_ (fun _ => ?_))
   | exact impl_AreProbes.mono _ _ _ _
   | exact impl_AreSeen.mono _ _ _ _
   | exact impl_IsNet.mono _ _ _
   | exact impl_allIn.mono _ _ _ _
   | exact impl_isSet.mono _ _ _
   | exact LeO.none _
   | refine LeO.ite ?_ ?_
   | refine LeO.bind ?_ (fun _ => ?_)
set_option maxHeartbeats 8000000 in
set_option maxRecDepth 100000 in
theorem impl_IsWorld_c (k : Nat) (a0_0 : Int) (A0_1 : Option Addr) (c0_1 : Nat) (l0_1 : (List S133)) (A0_2 : Option Addr) (c0_2 : Nat) (l0_2 : (List Int)) (A0_3 : Option Addr) (c0_3 : Nat) (l0_3 : (List Int)) (A0_4 : Option Addr) (c0_4 : Nat) (l0_4 : (List S103)) (A0_5 : Option Addr) (c0_5 : Nat) (l0_5 : (List Int)) (A0_6 : Option Addr) (c0_6 : Nat) (l0_6 : (List Int)) (a0_7 : Int) (a0_8 : Int) (a0_9 : Int) (a0_10 : Int) (A0_11 : Option Addr) (c0_11 : Nat) (l0_11 : (List S62)) (a0_12 : Int) (r : Bool) (w : World) (hr0_1 : Kd.C k133 w A0_1 l0_1.length l0_1) (hc0_1 : l0_1.length ≤ c0_1) (hr0_2 : Kd.C (Kd.int .i64) w A0_2 l0_2.length l0_2) (hc0_2 : l0_2.length ≤ c0_2) (hr0_3 : Kd.C (Kd.int .i64) w A0_3 l0_3.length l0_3) (hc0_3 : l0_3.length ≤ c0_3) (hr0_4 : Kd.C k103 w A0_4 l0_4.length l0_4) (hc0_4 : l0_4.length ≤ c0_4) (hr0_5 : Kd.C (Kd.int .i64) w A0_5 l0_5.length l0_5) (hc0_5 : l0_5.length ≤ c0_5) (hr0_6 : Kd.C (Kd.int .i64) w A0_6 l0_6.length l0_6) (hc0_6 : l0_6.length ≤ c0_6) (hr0_11 : Kd.C k62 w A0_11 l0_11.length l0_11) (hc0_11 : l0_11.length ≤ c0_11) (h : isWorldF k a0_0 l0_1 l0_2 l0_3 l0_4 l0_5 l0_6 a0_7 a0_8 a0_9 a0_10 l0_11 a0_12 = some r) :
  Calls Try.prog 50 #[.agg #[.int .i64 a0_0, .slice A0_1 l0_1.length c0_1, .slice A0_2 l0_2.length c0_2, .slice A0_3 l0_3.length c0_3, .slice A0_4 l0_4.length c0_4, .slice A0_5 l0_5.length c0_5, .slice A0_6 l0_6.length c0_6, .int .i64 a0_7, .int .i64 a0_8, .int .i64 a0_9, .int .i64 a0_10, .slice A0_11 l0_11.length c0_11, .int .i64 a0_12]] w fun e w' => e = .returned (.bool r) ∧ Below w.heap.size w w' := by
 have hu := Try.underlying42
 have hu2 := Try.underlying37
 have hu3 := Try.underlying39
 have HR0_1 := Aside0.mk hr0_1; have HC0_1 := Aside0.mk hc0_1; clear hr0_1 hc0_1; have HR0_2 := Aside0.mk hr0_2; have HC0_2 := Aside0.mk hc0_2; clear hr0_2 hc0_2; have HR0_3 := Aside0.mk hr0_3; have HC0_3 := Aside0.mk hc0_3; clear hr0_3 hc0_3; have HR0_4 := Aside0.mk hr0_4; have HC0_4 := Aside0.mk hc0_4; clear hr0_4 hc0_4; have HR0_5 := Aside0.mk hr0_5; have HC0_5 := Aside0.mk hc0_5; clear hr0_5 hc0_5; have HR0_6 := Aside0.mk hr0_6; have HC0_6 := Aside0.mk hc0_6; clear hr0_6 hc0_6; have HR0_11 := Aside0.mk hr0_11; have HC0_11 := Aside0.mk hc0_11; clear hr0_11 hc0_11
 unfold isWorldF at h
 obtain ⟨t1, e1, h⟩ := Option.bind_eq_some_iff.mp h
 have A1 := Aside0.mk e1; clear e1
 have H := Aside0.mk h; clear h
 go_enter Try.func50, Try.ntmps50
 go_upto_region 1 with fail
 dsimp only [List.append]
 go_wp2_with fail
 refine calls_gen (fun W' => Below w.heap.size w W' ∧ W'.heap[w.heap.size]? = some (.cells #[.int .i64 a0_0, .slice A0_1 l0_1.length c0_1, .slice A0_2 l0_2.length c0_2, .slice A0_3 l0_3.length c0_3, .slice A0_4 l0_4.length c0_4, .slice A0_5 l0_5.length c0_5, .slice A0_6 l0_6.length c0_6, .int .i64 a0_7, .int .i64 a0_8, .int .i64 a0_9, .int .i64 a0_10, .slice A0_11 l0_11.length c0_11, .int .i64 a0_12] 42 (0, 0))) ⟨?gb, ?gx⟩ ?_
 case gb => exact (by repeat (first | (with_reducible first | exact Below.refl _ _ | apply below_alloc | apply pw_below_drewN | apply below_drew1) | exact Below.refl _ _))
 case gx => exact blk_new w _
 rintro W1 ⟨hbw, hgx⟩
 have HB := Aside0.mk hbw; have BK := Aside0.mk hgx; clear hbw hgx
 go_at_call 60; (refine (impl_IsNet.calls k a0_0 _ _ l0_1 t1 _ (Kd.C_below HR0_1.out HB.out) HC0_1.out A1.out).mono ?_); rintro e V1 ⟨rfl, hb⟩
 replace BK := Aside0.mk (blk_below BK.out hb); replace HB := Aside0.mk (below_step HB.out hb); clear hb A1
 have h := H.out; clear H
 cases t1 with
 | false =>
  have hrf : r = false := by simpa using h.symm
  subst hrf
  clear h
  go_wp2
  go_ret
  exact ⟨rfl, below_step HB.out (by repeat (first | (with_reducible first | exact Below.refl _ _ | apply below_alloc | apply pw_below_drewN | apply below_drew1) | exact Below.refl _ _))⟩
 | true =>
  rw [if_pos rfl] at h
  by_cases hc : (l0_2.length : Int) = (l0_1.length : Int)
  rotate_left
  ·rw [if_neg hc] at h
   have hrf : r = false := by simpa using h.symm
   subst hrf
   have hcb : ((l0_2.length : Int) == (l0_1.length : Int)) = false := beq_eq_false_iff_ne.mpr hc
   have hcb2 : (l0_2.length == l0_1.length) = false := by first | simpa using hc | (simp at hc ⊢; omega)
   clear hc
   have hz0 := (blk_cell BK.out 0).trans rfl
   have hz1 := (blk_cell BK.out 1).trans rfl
   have hz2 := (blk_cell BK.out 2).trans rfl
   have hz3 := (blk_cell BK.out 3).trans rfl
   have hz4 := (blk_cell BK.out 4).trans rfl
   have hz5 := (blk_cell BK.out 5).trans rfl
   have hz6 := (blk_cell BK.out 6).trans rfl
   have hz7 := (blk_cell BK.out 7).trans rfl
   have hz8 := (blk_cell BK.out 8).trans rfl
   have hz9 := (blk_cell BK.out 9).trans rfl
   have hz10 := (blk_cell BK.out 10).trans rfl
   have hz11 := (blk_cell BK.out 11).trans rfl
   have hz12 := (blk_cell BK.out 12).trans rfl
   go_wp2
   go_ret
   exact ⟨rfl, below_step HB.out (by repeat (first | (with_reducible first | exact Below.refl _ _ | apply below_alloc | apply pw_below_drewN | apply below_drew1) | exact Below.refl _ _))⟩
  rw [if_pos hc] at h
  have hcb : ((l0_2.length : Int) == (l0_1.length : Int)) = true := beq_iff_eq.mpr hc
  have hcb2 : (l0_2.length == l0_1.length) = true := by first | simpa using hc | (simp at hc ⊢; omega)
  clear hc
  obtain ⟨t2, e2, h⟩ := Option.bind_eq_some_iff.mp h
  have A2 := Aside0.mk e2; clear e2
  have H := Aside0.mk h; clear h
  have hz0 := (blk_cell BK.out 0).trans rfl
  have hz1 := (blk_cell BK.out 1).trans rfl
  have hz2 := (blk_cell BK.out 2).trans rfl
  have hz3 := (blk_cell BK.out 3).trans rfl
  have hz4 := (blk_cell BK.out 4).trans rfl
  have hz5 := (blk_cell BK.out 5).trans rfl
  have hz6 := (blk_cell BK.out 6).trans rfl
  have hz7 := (blk_cell BK.out 7).trans rfl
  have hz8 := (blk_cell BK.out 8).trans rfl
  have hz9 := (blk_cell BK.out 9).trans rfl
  have hz10 := (blk_cell BK.out 10).trans rfl
  have hz11 := (blk_cell BK.out 11).trans rfl
  have hz12 := (blk_cell BK.out 12).trans rfl
  go_wp2_with fail
  refine calls_gen (fun W' => Below V1.heap.size V1 W') ?gb ?_
  case gb => exact (by repeat (first | (with_reducible first | exact Below.refl _ _ | apply below_alloc | apply pw_below_drewN | apply below_drew1) | exact Below.refl _ _))
  rintro W2 hbw
  clear hz0 hz1 hz2 hz3 hz4 hz5 hz6 hz7 hz8 hz9 hz10 hz11 hz12
  replace BK := Aside0.mk (blk_below BK.out hbw); replace HB := Aside0.mk (below_step HB.out hbw); clear hbw
  go_at_call 99; (refine (impl_allIn.calls k _ _ l0_2 0 100 t2 _ (Kd.C_below HR0_2.out HB.out) HC0_2.out A2.out).mono ?_); rintro e w' ⟨rfl, ⟨nd, rfl⟩⟩
  have hb : Below W2.heap.size W2 (W2.drewN nd) := (by repeat (first | (with_reducible first | exact Below.refl _ _ | apply below_alloc | apply pw_below_drewN | apply below_drew1) | exact Below.refl _ _))
  generalize W2.drewN nd = V2 at hb ⊢
  replace BK := Aside0.mk (blk_below BK.out hb); replace HB := Aside0.mk (below_step HB.out hb); clear hb A2
  have h := H.out; clear H
  cases t2 with
  | false =>
   have hrf : r = false := by simpa using h.symm
   subst hrf
   clear h
   go_wp2
   go_ret
   exact ⟨rfl, below_step HB.out (by repeat (first | (with_reducible first | exact Below.refl _ _ | apply below_alloc | apply pw_below_drewN | apply below_drew1) | exact Below.refl _ _))⟩
  | true =>
   rw [if_pos rfl] at h
   obtain ⟨t3, e3, h⟩ := Option.bind_eq_some_iff.mp h
   have A3 := Aside0.mk e3; clear e3
   have H := Aside0.mk h; clear h
   have hz0 := (blk_cell BK.out 0).trans rfl
   have hz1 := (blk_cell BK.out 1).trans rfl
   have hz2 := (blk_cell BK.out 2).trans rfl
   have hz3 := (blk_cell BK.out 3).trans rfl
   have hz4 := (blk_cell BK.out 4).trans rfl
   have hz5 := (blk_cell BK.out 5).trans rfl
   have hz6 := (blk_cell BK.out 6).trans rfl
   have hz7 := (blk_cell BK.out 7).trans rfl
   have hz8 := (blk_cell BK.out 8).trans rfl
   have hz9 := (blk_cell BK.out 9).trans rfl
   have hz10 := (blk_cell BK.out 10).trans rfl
   have hz11 := (blk_cell BK.out 11).trans rfl
   have hz12 := (blk_cell BK.out 12).trans rfl
   go_wp2_with fail
   refine calls_gen (fun W' => Below V2.heap.size V2 W') ?gb ?_
   case gb => exact (by repeat (first | (with_reducible first | exact Below.refl _ _ | apply below_alloc | apply pw_below_drewN | apply below_drew1) | exact Below.refl _ _))
   rintro W3 hbw
   clear hz0 hz1 hz2 hz3 hz4 hz5 hz6 hz7 hz8 hz9 hz10 hz11 hz12
   replace BK := Aside0.mk (blk_below BK.out hbw); replace HB := Aside0.mk (below_step HB.out hbw); clear hbw
   go_at_call 112; (refine (impl_isSet.calls k _ _ l0_3 (l0_1.length : Int) t3 _ (Kd.C_below HR0_3.out HB.out) HC0_3.out A3.out).mono ?_); rintro e V3 ⟨rfl, hb⟩
   replace BK := Aside0.mk (blk_below BK.out hb); replace HB := Aside0.mk (below_step HB.out hb); clear hb A3
   have h := H.out; clear H
   cases t3 with
   | false =>
    have hrf : r = false := by simpa using h.symm
    subst hrf
    clear h
    go_wp2
    go_ret
    exact ⟨rfl, below_step HB.out (by repeat (first | (with_reducible first | exact Below.refl _ _ | apply below_alloc | apply pw_below_drewN | apply below_drew1) | exact Below.refl _ _))⟩
   | true =>
    rw [if_pos rfl] at h
    by_cases hc : (l0_4.length : Int) > 0
    rotate_left
    ·rw [if_neg hc] at h
     have hrf : r = false := by simpa using h.symm
     subst hrf
     have hcb : decide (0 < (l0_4.length : Int)) = false := decide_eq_false hc
     have hcb2 : decide (0 < l0_4.length) = false := decide_eq_false (by omega)
     clear hc
     have hz0 := (blk_cell BK.out 0).trans rfl
     have hz1 := (blk_cell BK.out 1).trans rfl
     have hz2 := (blk_cell BK.out 2).trans rfl
     have hz3 := (blk_cell BK.out 3).trans rfl
     have hz4 := (blk_cell BK.out 4).trans rfl
     have hz5 := (blk_cell BK.out 5).trans rfl
     have hz6 := (blk_cell BK.out 6).trans rfl
     have hz7 := (blk_cell BK.out 7).trans rfl
     have hz8 := (blk_cell BK.out 8).trans rfl
     have hz9 := (blk_cell BK.out 9).trans rfl
     have hz10 := (blk_cell BK.out 10).trans rfl
     have hz11 := (blk_cell BK.out 11).trans rfl
     have hz12 := (blk_cell BK.out 12).trans rfl
     go_wp2
     go_ret
     exact ⟨rfl, below_step HB.out (by repeat (first | (with_reducible first | exact Below.refl _ _ | apply below_alloc | apply pw_below_drewN | apply below_drew1) | exact Below.refl _ _))⟩
    rw [if_pos hc] at h
    have hcb : decide (0 < (l0_4.length : Int)) = true := decide_eq_true hc
    have hcb2 : decide (0 < l0_4.length) = true := decide_eq_true (by omega)
    clear hc
    obtain ⟨t4, e4, h⟩ := Option.bind_eq_some_iff.mp h
    have A4 := Aside0.mk e4; clear e4
    have H := Aside0.mk h; clear h
    have hz0 := (blk_cell BK.out 0).trans rfl
    have hz1 := (blk_cell BK.out 1).trans rfl
    have hz2 := (blk_cell BK.out 2).trans rfl
    have hz3 := (blk_cell BK.out 3).trans rfl
    have hz4 := (blk_cell BK.out 4).trans rfl
    have hz5 := (blk_cell BK.out 5).trans rfl
    have hz6 := (blk_cell BK.out 6).trans rfl
    have hz7 := (blk_cell BK.out 7).trans rfl
    have hz8 := (blk_cell BK.out 8).trans rfl
    have hz9 := (blk_cell BK.out 9).trans rfl
    have hz10 := (blk_cell BK.out 10).trans rfl
    have hz11 := (blk_cell BK.out 11).trans rfl
    have hz12 := (blk_cell BK.out 12).trans rfl
    go_wp2_with fail
    refine calls_gen (fun W' => Below V3.heap.size V3 W') ?gb ?_
    case gb => exact (by repeat (first | (with_reducible first | exact Below.refl _ _ | apply below_alloc | apply pw_below_drewN | apply below_drew1) | exact Below.refl _ _))
    rintro W4 hbw
    clear hz0 hz1 hz2 hz3 hz4 hz5 hz6 hz7 hz8 hz9 hz10 hz11 hz12
    replace BK := Aside0.mk (blk_below BK.out hbw); replace HB := Aside0.mk (below_step HB.out hbw); clear hbw
    go_at_call 113; (refine (impl_AreProbes.calls k a0_0 _ _ l0_1 _ _ l0_4 t4 _ (Kd.C_below HR0_1.out HB.out) HC0_1.out (Kd.C_below HR0_4.out HB.out) HC0_4.out A4.out).mono ?_); rintro e V4 ⟨rfl, hb⟩
    replace BK := Aside0.mk (blk_below BK.out hb); replace HB := Aside0.mk (below_step HB.out hb); clear hb A4
    have h := H.out; clear H
    cases t4 with
    | false =>
     have hrf : r = false := by simpa using h.symm
     subst hrf
     clear h
     go_wp2
     go_ret
     exact ⟨rfl, below_step HB.out (by repeat (first | (with_reducible first | exact Below.refl _ _ | apply below_alloc | apply pw_below_drewN | apply below_drew1) | exact Below.refl _ _))⟩
    | true =>
     rw [if_pos rfl] at h
     by_cases hc : (l0_5.length : Int) = (l0_4.length : Int)
     rotate_left
     ·rw [if_neg hc] at h
      have hrf : r = false := by simpa using h.symm
      subst hrf
      have hcb : ((l0_5.length : Int) == (l0_4.length : Int)) = false := beq_eq_false_iff_ne.mpr hc
      have hcb2 : (l0_5.length == l0_4.length) = false := by first | simpa using hc | (simp at hc ⊢; omega)
      clear hc
      have hz0 := (blk_cell BK.out 0).trans rfl
      have hz1 := (blk_cell BK.out 1).trans rfl
      have hz2 := (blk_cell BK.out 2).trans rfl
      have hz3 := (blk_cell BK.out 3).trans rfl
      have hz4 := (blk_cell BK.out 4).trans rfl
      have hz5 := (blk_cell BK.out 5).trans rfl
      have hz6 := (blk_cell BK.out 6).trans rfl
      have hz7 := (blk_cell BK.out 7).trans rfl
      have hz8 := (blk_cell BK.out 8).trans rfl
      have hz9 := (blk_cell BK.out 9).trans rfl
      have hz10 := (blk_cell BK.out 10).trans rfl
      have hz11 := (blk_cell BK.out 11).trans rfl
      have hz12 := (blk_cell BK.out 12).trans rfl
      go_wp2
      go_ret
      exact ⟨rfl, below_step HB.out (by repeat (first | (with_reducible first | exact Below.refl _ _ | apply below_alloc | apply pw_below_drewN | apply below_drew1) | exact Below.refl _ _))⟩
     rw [if_pos hc] at h
     have hcb : ((l0_5.length : Int) == (l0_4.length : Int)) = true := beq_iff_eq.mpr hc
     have hcb2 : (l0_5.length == l0_4.length) = true := by first | simpa using hc | (simp at hc ⊢; omega)
     clear hc
     obtain ⟨t5, e5, h⟩ := Option.bind_eq_some_iff.mp h
     have A5 := Aside0.mk e5; clear e5
     have H := Aside0.mk h; clear h
     have hz0 := (blk_cell BK.out 0).trans rfl
     have hz1 := (blk_cell BK.out 1).trans rfl
     have hz2 := (blk_cell BK.out 2).trans rfl
     have hz3 := (blk_cell BK.out 3).trans rfl
     have hz4 := (blk_cell BK.out 4).trans rfl
     have hz5 := (blk_cell BK.out 5).trans rfl
     have hz6 := (blk_cell BK.out 6).trans rfl
     have hz7 := (blk_cell BK.out 7).trans rfl
     have hz8 := (blk_cell BK.out 8).trans rfl
     have hz9 := (blk_cell BK.out 9).trans rfl
     have hz10 := (blk_cell BK.out 10).trans rfl
     have hz11 := (blk_cell BK.out 11).trans rfl
     have hz12 := (blk_cell BK.out 12).trans rfl
     go_wp2_with fail
     refine calls_gen (fun W' => Below V4.heap.size V4 W') ?gb ?_
     case gb => exact (by repeat (first | (with_reducible first | exact Below.refl _ _ | apply below_alloc | apply pw_below_drewN | apply below_drew1) | exact Below.refl _ _))
     rintro W5 hbw
     clear hz0 hz1 hz2 hz3 hz4 hz5 hz6 hz7 hz8 hz9 hz10 hz11 hz12
     replace BK := Aside0.mk (blk_below BK.out hbw); replace HB := Aside0.mk (below_step HB.out hbw); clear hbw
     go_at_call 99; (refine (impl_allIn.calls k _ _ l0_5 0 5 t5 _ (Kd.C_below HR0_5.out HB.out) HC0_5.out A5.out).mono ?_); rintro e w' ⟨rfl, ⟨nd, rfl⟩⟩
     have hb : Below W5.heap.size W5 (W5.drewN nd) := (by repeat (first | (with_reducible first | exact Below.refl _ _ | apply below_alloc | apply pw_below_drewN | apply below_drew1) | exact Below.refl _ _))
     generalize W5.drewN nd = V5 at hb ⊢
     replace BK := Aside0.mk (blk_below BK.out hb); replace HB := Aside0.mk (below_step HB.out hb); clear hb A5
     have h := H.out; clear H
     cases t5 with
     | false =>
      have hrf : r = false := by simpa using h.symm
      subst hrf
      clear h
      go_wp2
      go_ret
      exact ⟨rfl, below_step HB.out (by repeat (first | (with_reducible first | exact Below.refl _ _ | apply below_alloc | apply pw_below_drewN | apply below_drew1) | exact Below.refl _ _))⟩
     | true =>
      rw [if_pos rfl] at h
      obtain ⟨t6, e6, h⟩ := Option.bind_eq_some_iff.mp h
      have A6 := Aside0.mk e6; clear e6
      have H := Aside0.mk h; clear h
      have hz0 := (blk_cell BK.out 0).trans rfl
      have hz1 := (blk_cell BK.out 1).trans rfl
      have hz2 := (blk_cell BK.out 2).trans rfl
      have hz3 := (blk_cell BK.out 3).trans rfl
      have hz4 := (blk_cell BK.out 4).trans rfl
      have hz5 := (blk_cell BK.out 5).trans rfl
      have hz6 := (blk_cell BK.out 6).trans rfl
      have hz7 := (blk_cell BK.out 7).trans rfl
      have hz8 := (blk_cell BK.out 8).trans rfl
      have hz9 := (blk_cell BK.out 9).trans rfl
      have hz10 := (blk_cell BK.out 10).trans rfl
      have hz11 := (blk_cell BK.out 11).trans rfl
      have hz12 := (blk_cell BK.out 12).trans rfl
      go_wp2_with fail
      refine calls_gen (fun W' => Below V5.heap.size V5 W') ?gb ?_
      case gb => exact (by repeat (first | (with_reducible first | exact Below.refl _ _ | apply below_alloc | apply pw_below_drewN | apply below_drew1) | exact Below.refl _ _))
      rintro W6 hbw
      clear hz0 hz1 hz2 hz3 hz4 hz5 hz6 hz7 hz8 hz9 hz10 hz11 hz12
      replace BK := Aside0.mk (blk_below BK.out hbw); replace HB := Aside0.mk (below_step HB.out hbw); clear hbw
      go_at_call 112; (refine (impl_isSet.calls k _ _ l0_6 6 t6 _ (Kd.C_below HR0_6.out HB.out) HC0_6.out A6.out).mono ?_); rintro e V6 ⟨rfl, hb⟩
      replace BK := Aside0.mk (blk_below BK.out hb); replace HB := Aside0.mk (below_step HB.out hb); clear hb A6
      have h := H.out; clear H
      cases t6 with
      | false =>
       have hrf : r = false := by simpa using h.symm
       subst hrf
       clear h
       go_wp2
       go_ret
       exact ⟨rfl, below_step HB.out (by repeat (first | (with_reducible first | exact Below.refl _ _ | apply below_alloc | apply pw_below_drewN | apply below_drew1) | exact Below.refl _ _))⟩
      | true =>
       rw [if_pos rfl] at h
       obtain ⟨t7, e7, h⟩ := Option.bind_eq_some_iff.mp h
       have A7 := Aside0.mk e7; clear e7
       have H := Aside0.mk h; clear h
       have hz0 := (blk_cell BK.out 0).trans rfl
       have hz1 := (blk_cell BK.out 1).trans rfl
       have hz2 := (blk_cell BK.out 2).trans rfl
       have hz3 := (blk_cell BK.out 3).trans rfl
       have hz4 := (blk_cell BK.out 4).trans rfl
       have hz5 := (blk_cell BK.out 5).trans rfl
       have hz6 := (blk_cell BK.out 6).trans rfl
       have hz7 := (blk_cell BK.out 7).trans rfl
       have hz8 := (blk_cell BK.out 8).trans rfl
       have hz9 := (blk_cell BK.out 9).trans rfl
       have hz10 := (blk_cell BK.out 10).trans rfl
       have hz11 := (blk_cell BK.out 11).trans rfl
       have hz12 := (blk_cell BK.out 12).trans rfl
       go_wp2_with fail
       refine calls_gen (fun W' => Below V6.heap.size V6 W') ?gb ?_
       case gb => exact (by repeat (first | (with_reducible first | exact Below.refl _ _ | apply below_alloc | apply pw_below_drewN | apply below_drew1) | exact Below.refl _ _))
       rintro W7 hbw
       clear hz0 hz1 hz2 hz3 hz4 hz5 hz6 hz7 hz8 hz9 hz10 hz11 hz12
       replace BK := Aside0.mk (blk_below BK.out hbw); replace HB := Aside0.mk (below_step HB.out hbw); clear hbw
       go_at_call 114; (refine (impl_IsBucket.calls a0_7 a0_8 a0_9 a0_10 t7 _ A7.out).mono ?_); rintro e V7 ⟨rfl, hb⟩
       replace BK := Aside0.mk (blk_below BK.out hb); replace HB := Aside0.mk (below_step HB.out hb); clear hb A7
       have h := H.out; clear H
       cases t7 with
       | false =>
        have hrf : r = false := by simpa using h.symm
        subst hrf
        clear h
        go_wp2
        go_ret
        exact ⟨rfl, below_step HB.out (by repeat (first | (with_reducible first | exact Below.refl _ _ | apply below_alloc | apply pw_below_drewN | apply below_drew1) | exact Below.refl _ _))⟩
       | true =>
        rw [if_pos rfl] at h
        by_cases hc : a0_10 ≤ a0_12
        rotate_left
        ·rw [if_neg hc] at h
         have hrf : r = false := by simpa using h.symm
         subst hrf
         have hcb : decide (a0_10 ≤ a0_12) = false := decide_eq_false hc
         have hz0 := (blk_cell BK.out 0).trans rfl
         have hz1 := (blk_cell BK.out 1).trans rfl
         have hz2 := (blk_cell BK.out 2).trans rfl
         have hz3 := (blk_cell BK.out 3).trans rfl
         have hz4 := (blk_cell BK.out 4).trans rfl
         have hz5 := (blk_cell BK.out 5).trans rfl
         have hz6 := (blk_cell BK.out 6).trans rfl
         have hz7 := (blk_cell BK.out 7).trans rfl
         have hz8 := (blk_cell BK.out 8).trans rfl
         have hz9 := (blk_cell BK.out 9).trans rfl
         have hz10 := (blk_cell BK.out 10).trans rfl
         have hz11 := (blk_cell BK.out 11).trans rfl
         have hz12 := (blk_cell BK.out 12).trans rfl
         go_wp2
         go_ret
         exact ⟨rfl, below_step HB.out (by repeat (first | (with_reducible first | exact Below.refl _ _ | apply below_alloc | apply pw_below_drewN | apply below_drew1) | exact Below.refl _ _))⟩
        rw [if_pos hc] at h
        have hcb : decide (a0_10 ≤ a0_12) = true := decide_eq_true hc
        obtain ⟨t8, e8, h⟩ := Option.bind_eq_some_iff.mp h
        have A8 := Aside0.mk e8; clear e8
        have H := Aside0.mk h; clear h
        have hz0 := (blk_cell BK.out 0).trans rfl
        have hz1 := (blk_cell BK.out 1).trans rfl
        have hz2 := (blk_cell BK.out 2).trans rfl
        have hz3 := (blk_cell BK.out 3).trans rfl
        have hz4 := (blk_cell BK.out 4).trans rfl
        have hz5 := (blk_cell BK.out 5).trans rfl
        have hz6 := (blk_cell BK.out 6).trans rfl
        have hz7 := (blk_cell BK.out 7).trans rfl
        have hz8 := (blk_cell BK.out 8).trans rfl
        have hz9 := (blk_cell BK.out 9).trans rfl
        have hz10 := (blk_cell BK.out 10).trans rfl
        have hz11 := (blk_cell BK.out 11).trans rfl
        have hz12 := (blk_cell BK.out 12).trans rfl
        go_wp2_with fail
        refine calls_gen (fun W' => Below V7.heap.size V7 W') ?gb ?_
        case gb => exact (by repeat (first | (with_reducible first | exact Below.refl _ _ | apply below_alloc | apply pw_below_drewN | apply below_drew1) | exact Below.refl _ _))
        rintro W8 hbw
        clear hz0 hz1 hz2 hz3 hz4 hz5 hz6 hz7 hz8 hz9 hz10 hz11 hz12
        replace BK := Aside0.mk (blk_below BK.out hbw); replace HB := Aside0.mk (below_step HB.out hbw); clear hbw
        go_at_call 115; (refine (impl_AreSeen.calls k _ _ l0_11 (l0_4.length : Int) a0_12 t8 _ (Kd.C_below HR0_11.out HB.out) HC0_11.out A8.out).mono ?_); rintro e V8 ⟨rfl, hb⟩
        replace BK := Aside0.mk (blk_below BK.out hb); replace HB := Aside0.mk (below_step HB.out hb); clear hb A8
        have h := H.out; clear H
        cases t8 with
        | false =>
         have hrf : r = false := by simpa using h.symm
         subst hrf
         clear h
         go_wp2
         go_ret
         exact ⟨rfl, below_step HB.out (by repeat (first | (with_reducible first | exact Below.refl _ _ | apply below_alloc | apply pw_below_drewN | apply below_drew1) | exact Below.refl _ _))⟩
        | true =>
         rw [if_pos rfl] at h
         obtain ⟨t9, e9, h⟩ := Option.bind_eq_some_iff.mp h
         have A9 := Aside0.mk e9; clear e9
         have H := Aside0.mk h; clear h
         have hz0 := (blk_cell BK.out 0).trans rfl
         have hz1 := (blk_cell BK.out 1).trans rfl
         have hz2 := (blk_cell BK.out 2).trans rfl
         have hz3 := (blk_cell BK.out 3).trans rfl
         have hz4 := (blk_cell BK.out 4).trans rfl
         have hz5 := (blk_cell BK.out 5).trans rfl
         have hz6 := (blk_cell BK.out 6).trans rfl
         have hz7 := (blk_cell BK.out 7).trans rfl
         have hz8 := (blk_cell BK.out 8).trans rfl
         have hz9 := (blk_cell BK.out 9).trans rfl
         have hz10 := (blk_cell BK.out 10).trans rfl
         have hz11 := (blk_cell BK.out 11).trans rfl
         have hz12 := (blk_cell BK.out 12).trans rfl
         go_wp2_with fail
         refine calls_gen (fun W' => Below V8.heap.size V8 W') ?gb ?_
         case gb => exact (by repeat (first | (with_reducible first | exact Below.refl _ _ | apply below_alloc | apply pw_below_drewN | apply below_drew1) | exact Below.refl _ _))
         rintro W9 hbw
         clear hz0 hz1 hz2 hz3 hz4 hz5 hz6 hz7 hz8 hz9 hz10 hz11 hz12
         replace BK := Aside0.mk (blk_below BK.out hbw); replace HB := Aside0.mk (below_step HB.out hbw); clear hbw
         go_at_call 116; (refine (impl_InRange.calls a0_12 0 100000 t9 _ A9.out).mono ?_); rintro e w' ⟨rfl, ⟨nd, rfl⟩⟩
         have hb : Below W9.heap.size W9 (W9.drewN nd) := (by repeat (first | (with_reducible first | exact Below.refl _ _ | apply below_alloc | apply pw_below_drewN | apply below_drew1) | exact Below.refl _ _))
         generalize W9.drewN nd = V9 at hb ⊢
         replace BK := Aside0.mk (blk_below BK.out hb); replace HB := Aside0.mk (below_step HB.out hb); clear hb A9
         have h := H.out; clear H
         obtain rfl := Option.some.inj h
         go_wp2
         go_ret
         exact ⟨rfl, below_step HB.out (by repeat (first | (with_reducible first | exact Below.refl _ _ | apply below_alloc | apply pw_below_drewN | apply below_drew1) | exact Below.refl _ _))⟩

def impl_IsWorld.f (k : Nat) (a0_0 : Int) (l0_1 : (List S133)) (l0_2 : (List Int)) (l0_3 : (List Int)) (l0_4 : (List S103)) (l0_5 : (List Int)) (l0_6 : (List Int)) (a0_7 : Int) (a0_8 : Int) (a0_9 : Int) (a0_10 : Int) (l0_11 : (List S62)) (a0_12 : Int) : Option Bool := isWorldF k a0_0 l0_1 l0_2 l0_3 l0_4 l0_5 l0_6 a0_7 a0_8 a0_9 a0_10 l0_11 a0_12
theorem impl_IsWorld.mono : ∀ a0 a1 a2 a3 a4 a5 a6 a7 a8 a9 a10 a11 a12 k, LeO (impl_IsWorld.f k a0 a1 a2 a3 a4 a5 a6 a7 a8 a9 a10 a11 a12) (impl_IsWorld.f (k + 1) a0 a1 a2 a3 a4 a5 a6 a7 a8 a9 a10 a11 a12) :=
 fun a0 a1 a2 a3 a4 a5 a6 a7 a8 a9 a10 a11 a12 k => isWorldF_mono a0 a1 a2 a3 a4 a5 a6 a7 a8 a9 a10 a11 a12 k
theorem impl_IsWorld.calls (k : Nat) (a0_0 : Int) (A0_1 : Option Addr) (c0_1 : Nat) (l0_1 : (List S133)) (A0_2 : Option Addr) (c0_2 : Nat) (l0_2 : (List Int)) (A0_3 : Option Addr) (c0_3 : Nat) (l0_3 : (List Int)) (A0_4 : Option Addr) (c0_4 : Nat) (l0_4 : (List S103)) (A0_5 : Option Addr) (c0_5 : Nat) (l0_5 : (List Int)) (A0_6 : Option Addr) (c0_6 : Nat) (l0_6 : (List Int)) (a0_7 : Int) (a0_8 : Int) (a0_9 : Int) (a0_10 : Int) (A0_11 : Option Addr) (c0_11 : Nat) (l0_11 : (List S62)) (a0_12 : Int) (r : Bool) (w : World) (hr0_1 : Kd.C k133 w A0_1 l0_1.length l0_1) (hc0_1 : l0_1.length ≤ c0_1) (hr0_2 : Kd.C (Kd.int .i64) w A0_2 l0_2.length l0_2) (hc0_2 : l0_2.length ≤ c0_2) (hr0_3 : Kd.C (Kd.int .i64) w A0_3 l0_3.length l0_3) (hc0_3 : l0_3.length ≤ c0_3) (hr0_4 : Kd.C k103 w A0_4 l0_4.length l0_4) (hc0_4 : l0_4.length ≤ c0_4) (hr0_5 : Kd.C (Kd.int .i64) w A0_5 l0_5.length l0_5) (hc0_5 : l0_5.length ≤ c0_5) (hr0_6 : Kd.C (Kd.int .i64) w A0_6 l0_6.length l0_6) (hc0_6 : l0_6.length ≤ c0_6) (hr0_11 : Kd.C k62 w A0_11 l0_11.length l0_11) (hc0_11 : l0_11.length ≤ c0_11) (h : impl_IsWorld.f k a0_0 l0_1 l0_2 l0_3 l0_4 l0_5 l0_6 a0_7 a0_8 a0_9 a0_10 l0_11 a0_12 = some r) :
  Calls Try.prog 50 #[.agg #[.int .i64 a0_0, .slice A0_1 l0_1.length c0_1, .slice A0_2 l0_2.length c0_2, .slice A0_3 l0_3.length c0_3, .slice A0_4 l0_4.length c0_4, .slice A0_5 l0_5.length c0_5, .slice A0_6 l0_6.length c0_6, .int .i64 a0_7, .int .i64 a0_8, .int .i64 a0_9, .int .i64 a0_10, .slice A0_11 l0_11.length c0_11, .int .i64 a0_12]] w fun e w' => e = .returned (.bool r) ∧ Below w.heap.size w w' :=
 impl_IsWorld_c k a0_0 A0_1 c0_1 l0_1 A0_2 c0_2 l0_2 A0_3 c0_3 l0_3 A0_4 c0_4 l0_4 A0_5 c0_5 l0_5 A0_6 c0_6 l0_6 a0_7 a0_8 a0_9 a0_10 A0_11 c0_11 l0_11 a0_12 r w hr0_1 hc0_1 hr0_2 hc0_2 hr0_3 hc0_3 hr0_4 hc0_4 hr0_5 hc0_5 hr0_6 hc0_6 hr0_11 hc0_11 h

end Go.Proofs.Ytiipcophnnfnoaa.PFnExactIsWorld
