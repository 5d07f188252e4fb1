/- What the functions that the law FnOverlays uses compute, and that the program computes it: walks written by a program of this session. -/
import Derived.Test.YtjhbpiboemajeaaPFnOverlaysx0
import Derived.Test.YtjhbpiboemajeaaPFnOverlaysx1
import Derived.Test.YtjhbpiboemajeaaPFnOverlaysx2
import Derived.Test.YtjhbpiboemajeaaPFnOverlaysx4
namespace Go.Proofs.Ytjhbpiboemajeaa.PFnOverlays
open Go.RowKit Go.Proofs.YtjhbpiboemajeaaW.PrintWords Go.Proofs.YtjhbpiboemajeaaW.PrintLast Go.Proofs.YtjhbpiboemajeaaW.PrintMore
attribute [local go_sem] max2_int min2_int max_two min_two max_three min_three max_four min_four   -- for this text's walks alone
set_option linter.unusedVariables false
set_option linter.unusedSimpArgs false

/-! ### laws_FnOverlays: function 12 -/
mutual
def laws_FnOverlays.l0 : Nat → List (List Int) → List (List Int) → Int → Option (Bool)
  | 0, _, _, _ => none
  | k + 1, x3, x4, x5 => if x5 < (x3.length : Int) then (laws_FnOverlays.l1 k x3 x4 x5 0) else (some ((x4.length : Int) == (x3.length : Int)))
def laws_FnOverlays.l1 : Nat → List (List Int) → List (List Int) → Int → Int → Option (Bool)
  | 0, _, _, _, _ => none
  | k + 1, x3, x4, x5, x6 => if x6 < (x3.length : Int) then ((impl_Gain.f k x3 x5 x6).bind fun t274 => ((impl_BestRelay.f k x3 x5 x6).bind fun t275 => (if 0 ≤ x5 then (if x5 < (x3.length : Int) then (if 0 ≤ x6 then (if x6 < ((rd_L1 x3 x5).length : Int) then (if (rd (rd_L1 x3 x5) x6) ≥ 0 then (if x5 < (x4.length : Int) then (if x6 < ((rd_L1 x4 x5).length : Int) then (if (rd (rd_L1 x4 x5) x6) < 0 then (laws_FnOverlays.j2 k x3 x4 x5 x6 t275 true) else (if (rd (rd_L1 x4 x5) x6) > (rd (rd_L1 x3 x5) x6) then (laws_FnOverlays.j2 k x3 x4 x5 x6 t275 true) else (if (wrap64 ((rd (rd_L1 x3 x5) x6) - (rd (rd_L1 x4 x5) x6))) = t274 then (if t275 = x5 then (if x5 ≥ 0 then (if t275 ≥ 0 then (laws_FnOverlays.j2 k x3 x4 x5 x6 t275 true) else (laws_FnOverlays.j2 k x3 x4 x5 x6 t275 false)) else (if t275 ≥ 0 then (laws_FnOverlays.j2 k x3 x4 x5 x6 t275 (t275 == x6)) else (laws_FnOverlays.j2 k x3 x4 x5 x6 t275 false))) else (if t275 ≥ 0 then (laws_FnOverlays.j2 k x3 x4 x5 x6 t275 (t275 == x6)) else (laws_FnOverlays.j2 k x3 x4 x5 x6 t275 false))) else (laws_FnOverlays.j2 k x3 x4 x5 x6 t275 true)))) else (none)) else (none)) else (if t275 = x5 then (if x5 ≥ 0 then (if t275 ≥ 0 then (laws_FnOverlays.j2 k x3 x4 x5 x6 t275 true) else (laws_FnOverlays.j2 k x3 x4 x5 x6 t275 false)) else (if t275 ≥ 0 then (laws_FnOverlays.j2 k x3 x4 x5 x6 t275 (t275 == x6)) else (laws_FnOverlays.j2 k x3 x4 x5 x6 t275 false))) else (if t275 ≥ 0 then (laws_FnOverlays.j2 k x3 x4 x5 x6 t275 (t275 == x6)) else (laws_FnOverlays.j2 k x3 x4 x5 x6 t275 false)))) else (none)) else (none)) else (none)) else (none)))) else (laws_FnOverlays.l0 k x3 x4 (wrap64 (x5 + 1)))
def laws_FnOverlays.j2 : Nat → List (List Int) → List (List Int) → Int → Int → Int → Bool → Option (Bool)
  | 0, _, _, _, _, _, _ => none
  | k + 1, x3, x4, x5, x6, x8, x123 => if x123 = true then (some false) else (laws_FnOverlays.l2 k x3 x4 x5 x6 x8 0)
def laws_FnOverlays.l2 : Nat → List (List Int) → List (List Int) → Int → Int → Int → Int → Option (Bool)
  | 0, _, _, _, _, _, _ => none
  | k + 1, x3, x4, x5, x6, x8, x9 => if x9 < (x3.length : Int) then ((impl_TimeOver.f k x3 x5 x9 x6).bind fun t288 => (if x9 = x5 then (laws_FnOverlays.l2 k x3 x4 x5 x6 x8 (wrap64 (x9 + 1))) else (if x9 = x6 then (laws_FnOverlays.l2 k x3 x4 x5 x6 x8 (wrap64 (x9 + 1))) else (if t288 ≥ 0 then (if x8 < 0 then (some false) else ((impl_TimeOver.f k x3 x5 x8 x6).bind fun t289 => (if t289 > t288 then (some false) else (if 0 ≤ x5 then (if x5 < (x4.length : Int) then (if 0 ≤ x6 then (if x6 < ((rd_L1 x4 x5).length : Int) then (if (rd (rd_L1 x4 x5) x6) > t288 then (some false) else (laws_FnOverlays.l2 k x3 x4 x5 x6 x8 (wrap64 (x9 + 1)))) else (none)) else (none)) else (none)) else (none))))) else (laws_FnOverlays.l2 k x3 x4 x5 x6 x8 (wrap64 (x9 + 1))))))) else (laws_FnOverlays.l1 k x3 x4 x5 (wrap64 (x6 + 1)))
end
def laws_FnOverlays.f (k : Nat) (l0 : List Int) : Option (Bool) := (laws_big.f l0).bind fun t264 => (if t264 = true then (some true) else ((spec_DrawBestTimes.f k l0).bind fun t265 => ((impl_BestTimes.f k t265).bind fun t268 => ((impl_IsTimes.f k t265).bind fun t271 => ((spec_IsTimes.f k t265).bind fun t272 => (if (t271 != t272) = true then (some false) else ((impl_IsTimes.f k t265).bind fun t273 => (if t273 = true then (laws_FnOverlays.l0 k t265 t268 0) else (some ((t268.length : Int) == 0))))))))))
theorem laws_FnOverlays.mono_l : ∀ k, (∀ y0 y1 y2, LeO (laws_FnOverlays.l0 k y0 y1 y2) (laws_FnOverlays.l0 (k + 1) y0 y1 y2)) ∧ (∀ y0 y1 y2 y3, LeO (laws_FnOverlays.l1 k y0 y1 y2 y3) (laws_FnOverlays.l1 (k + 1) y0 y1 y2 y3)) ∧ (∀ y0 y1 y2 y3 y4 y5, LeO (laws_FnOverlays.j2 k y0 y1 y2 y3 y4 y5) (laws_FnOverlays.j2 (k + 1) y0 y1 y2 y3 y4 y5)) ∧ (∀ y0 y1 y2 y3 y4 y5, LeO (laws_FnOverlays.l2 k y0 y1 y2 y3 y4 y5) (laws_FnOverlays.l2 (k + 1) y0 y1 y2 y3 y4 y5))
  | 0 => ⟨fun _ _ _ r h => by simp [laws_FnOverlays.l0] at h, fun _ _ _ _ r h => by simp [laws_FnOverlays.l1] at h, fun _ _ _ _ _ _ r h => by simp [laws_FnOverlays.j2] at h, fun _ _ _ _ _ _ r h => by simp [laws_FnOverlays.l2] at h⟩
  | k + 1 => by
    obtain ⟨ih0, ih1, ih2, ih3⟩ := laws_FnOverlays.mono_l k
    refine ⟨?_, ?_, ?_, ?_⟩
    · intro y0 y1 y2
      unfold laws_FnOverlays.l0
      repeat' first
      | (with_reducible exact ih0 _ _ _)
      | (with_reducible exact ih1 _ _ _ _)
      | (with_reducible exact ih2 _ _ _ _ _ _)
      | (with_reducible exact ih3 _ _ _ _ _ _)
      | (with_reducible exact impl_BestRelay.mono _ _ _ _)
      | (with_reducible exact impl_BestTimes.mono _ _)
      | (with_reducible exact impl_Gain.mono _ _ _ _)
      | (with_reducible exact impl_IsTimes.mono _ _)
      | (with_reducible exact impl_TimeOver.mono _ _ _ _ _)
      | (with_reducible exact spec_DrawBestTimes.mono _ _)
      | (with_reducible exact spec_IsTimes.mono _ _)
      | (with_reducible exact LeO.refl _)
      | (with_reducible exact LeO.none _)
      | (with_reducible refine LeO.ite ?_ ?_)
      | (with_reducible refine LeO.bind ?_ (fun _ => ?_))
      | exact ih0 _ _ _
      | exact ih1 _ _ _ _
      | exact ih2 _ _ _ _ _ _
      | exact ih3 _ _ _ _ _ _
      | exact impl_BestRelay.mono _ _ _ _
      | exact impl_BestTimes.mono _ _
      | exact impl_Gain.mono _ _ _ _
      | exact impl_IsTimes.mono _ _
      | exact impl_TimeOver.mono _ _ _ _ _
      | exact spec_DrawBestTimes.mono _ _
      | exact spec_IsTimes.mono _ _
      | exact LeO.none _
      | refine LeO.ite ?_ ?_
      | refine LeO.bind ?_ (fun _ => ?_)
    · intro y0 y1 y2 y3
      unfold laws_FnOverlays.l1
      repeat' first
      | (with_reducible exact ih0 _ _ _)
      | (with_reducible exact ih1 _ _ _ _)
      | (with_reducible exact ih2 _ _ _ _ _ _)
      | (with_reducible exact ih3 _ _ _ _ _ _)
      | (with_reducible exact impl_BestRelay.mono _ _ _ _)
      | (with_reducible exact impl_BestTimes.mono _ _)
      | (with_reducible exact impl_Gain.mono _ _ _ _)
      | (with_reducible exact impl_IsTimes.mono _ _)
      | (with_reducible exact impl_TimeOver.mono _ _ _ _ _)
      | (with_reducible exact spec_DrawBestTimes.mono _ _)
      | (with_reducible exact spec_IsTimes.mono _ _)
      | (with_reducible exact LeO.refl _)
      | (with_reducible exact LeO.none _)
      | (with_reducible refine LeO.ite ?_ ?_)
      | (with_reducible refine LeO.bind ?_ (fun _ => ?_))
      | exact ih0 _ _ _
      | exact ih1 _ _ _ _
      | exact ih2 _ _ _ _ _ _
      | exact ih3 _ _ _ _ _ _
      | exact impl_BestRelay.mono _ _ _ _
      | exact impl_BestTimes.mono _ _
      | exact impl_Gain.mono _ _ _ _
      | exact impl_IsTimes.mono _ _
      | exact impl_TimeOver.mono _ _ _ _ _
      | exact spec_DrawBestTimes.mono _ _
      | exact spec_IsTimes.mono _ _
      | exact LeO.none _
      | refine LeO.ite ?_ ?_
      | refine LeO.bind ?_ (fun _ => ?_)
    · intro y0 y1 y2 y3 y4 y5
      unfold laws_FnOverlays.j2
      repeat' first
      | (with_reducible exact ih0 _ _ _)
      | (with_reducible exact ih1 _ _ _ _)
      | (with_reducible exact ih2 _ _ _ _ _ _)
      | (with_reducible exact ih3 _ _ _ _ _ _)
      | (with_reducible exact impl_BestRelay.mono _ _ _ _)
      | (with_reducible exact impl_BestTimes.mono _ _)
      | (with_reducible exact impl_Gain.mono _ _ _ _)
      | (with_reducible exact impl_IsTimes.mono _ _)
      | (with_reducible exact impl_TimeOver.mono _ _ _ _ _)
      | (with_reducible exact spec_DrawBestTimes.mono _ _)
      | (with_reducible exact spec_IsTimes.mono _ _)
      | (with_reducible exact LeO.refl _)
      | (with_reducible exact LeO.none _)
      | (with_reducible refine LeO.ite ?_ ?_)
      | (with_reducible refine LeO.bind ?_ (fun _ => ?_))
      | exact ih0 _ _ _
      | exact ih1 _ _ _ _
      | exact ih2 _ _ _ _ _ _
      | exact ih3 _ _ _ _ _ _
      | exact impl_BestRelay.mono _ _ _ _
      | exact impl_BestTimes.mono _ _
      | exact impl_Gain.mono _ _ _ _
      | exact impl_IsTimes.mono _ _
      | exact impl_TimeOver.mono _ _ _ _ _
      | exact spec_DrawBestTimes.mono _ _
      | exact spec_IsTimes.mono _ _
      | exact LeO.none _
      | refine LeO.ite ?_ ?_
      | refine LeO.bind ?_ (fun _ => ?_)
    · intro y0 y1 y2 y3 y4 y5
      unfold laws_FnOverlays.l2
      repeat' first
      | (with_reducible exact ih0 _ _ _)
      | (with_reducible exact ih1 _ _ _ _)
      | (with_reducible exact ih2 _ _ _ _ _ _)
      | (with_reducible exact ih3 _ _ _ _ _ _)
      | (with_reducible exact impl_BestRelay.mono _ _ _ _)
      | (with_reducible exact impl_BestTimes.mono _ _)
      | (with_reducible exact impl_Gain.mono _ _ _ _)
      | (with_reducible exact impl_IsTimes.mono _ _)
      | (with_reducible exact impl_TimeOver.mono _ _ _ _ _)
      | (with_reducible exact spec_DrawBestTimes.mono _ _)
      | (with_reducible exact spec_IsTimes.mono _ _)
      | (with_reducible exact LeO.refl _)
      | (with_reducible exact LeO.none _)
      | (with_reducible refine LeO.ite ?_ ?_)
      | (with_reducible refine LeO.bind ?_ (fun _ => ?_))
      | exact ih0 _ _ _
      | exact ih1 _ _ _ _
      | exact ih2 _ _ _ _ _ _
      | exact ih3 _ _ _ _ _ _
      | exact impl_BestRelay.mono _ _ _ _
      | exact impl_BestTimes.mono _ _
      | exact impl_Gain.mono _ _ _ _
      | exact impl_IsTimes.mono _ _
      | exact impl_TimeOver.mono _ _ _ _ _
      | exact spec_DrawBestTimes.mono _ _
      | exact spec_IsTimes.mono _ _
      | exact LeO.none _
      | refine LeO.ite ?_ ?_
      | refine LeO.bind ?_ (fun _ => ?_)
theorem laws_FnOverlays.mono : ∀ a0 k, LeO (laws_FnOverlays.f k a0) (laws_FnOverlays.f (k + 1) a0) := by
  intro a0 k
  obtain ⟨ih0, ih1, ih2, ih3⟩ := laws_FnOverlays.mono_l k
  unfold laws_FnOverlays.f
  repeat' first
      | (with_reducible exact ih0 _ _ _)
      | (with_reducible exact ih1 _ _ _ _)
      | (with_reducible exact ih2 _ _ _ _ _ _)
      | (with_reducible exact ih3 _ _ _ _ _ _)
      | (with_reducible exact impl_BestRelay.mono _ _ _ _)
      | (with_reducible exact impl_BestTimes.mono _ _)
      | (with_reducible exact impl_Gain.mono _ _ _ _)
      | (with_reducible exact impl_IsTimes.mono _ _)
      | (with_reducible exact impl_TimeOver.mono _ _ _ _ _)
      | (with_reducible exact spec_DrawBestTimes.mono _ _)
      | (with_reducible exact spec_IsTimes.mono _ _)
      | (with_reducible exact LeO.refl _)
      | (with_reducible exact LeO.none _)
      | (with_reducible refine LeO.ite ?_ ?_)
      | (with_reducible refine LeO.bind ?_ (fun _ => ?_))
      | exact ih0 _ _ _
      | exact ih1 _ _ _ _
      | exact ih2 _ _ _ _ _ _
      | exact ih3 _ _ _ _ _ _
      | exact impl_BestRelay.mono _ _ _ _
      | exact impl_BestTimes.mono _ _
      | exact impl_Gain.mono _ _ _ _
      | exact impl_IsTimes.mono _ _
      | exact impl_TimeOver.mono _ _ _ _ _
      | exact spec_DrawBestTimes.mono _ _
      | exact spec_IsTimes.mono _ _
      | exact LeO.none _
      | refine LeO.ite ?_ ?_
      | refine LeO.bind ?_ (fun _ => ?_)
set_option maxHeartbeats 8000000 in
set_option maxRecDepth 100000 in
theorem laws_FnOverlays.calls (k : Nat) (A0 : Option Addr) (c0 : Nat) (l0 : List Int) (r : Bool) (w : World) (hr0 : Kd.C (Kd.int .u8) w A0 l0.length l0) (hc0 : l0.length ≤ c0) (h : laws_FnOverlays.f k l0 = some r) (hT : Aside0 (r = true)) :
    Calls Try.prog 12 #[.slice A0 l0.length c0] w fun e w' => e = .returned (.bool r) ∧ Below w.heap.size w w' := by
  have HR0 := Aside0.mk hr0
  have HC0 := Aside0.mk hc0
  clear hr0 hc0
  have HB := Aside0.mk (Below.refl w.heap.size w)
  have H : ((laws_big.f l0).bind fun t264 => (if t264 = true then (some true) else ((spec_DrawBestTimes.f k l0).bind fun t265 => ((impl_BestTimes.f k t265).bind fun t268 => ((impl_IsTimes.f k t265).bind fun t271 => ((spec_IsTimes.f k t265).bind fun t272 => (if (t271 != t272) = true then (some false) else ((impl_IsTimes.f k t265).bind fun t273 => (if t273 = true then (laws_FnOverlays.l0 k t265 t268 0) else (some ((t268.length : Int) == 0))))))))))) = some r := h
  clear h
  replace H := Option.bind_eq_some_iff.mp H
  obtain ⟨t264, A20, H⟩ := H
  replace H : (if t264 = true then (some true) else ((spec_DrawBestTimes.f k l0).bind fun t265 => ((impl_BestTimes.f k t265).bind fun t268 => ((impl_IsTimes.f k t265).bind fun t271 => ((spec_IsTimes.f k t265).bind fun t272 => (if (t271 != t272) = true then (some false) else ((impl_IsTimes.f k t265).bind fun t273 => (if t273 = true then (laws_FnOverlays.l0 k t265 t268 0) else (some ((t268.length : Int) == 0)))))))))) = some r := H
  have A2 := Aside0.mk A20
  clear A20
  by_cases c3 : t264 = true
  · subst c3
    have H1 : (some true) = some r := by rw [if_pos rfl] at H; exact H
    clear H
    have H := H1
    clear H1
    obtain rfl := Option.some.inj H
    go_enter Try.func12, Try.ntmps12
    go_wp2_with (first | (go_at_call 42; (with_reducible refine (laws_big.calls _ _ l0 true _ ?side1 ?side2 A2.out).mono ?_); (case side1 => repeat (first | exact HR0.out | (with_reducible refine Kd.C_alloc ?_ _) | (with_reducible refine Kd.C_drewN ?_ _) | (with_reducible refine Kd.C_drew ?_))); (case side2 => exact HC0.out); rintro e w' ⟨rfl, ⟨nd, rfl⟩⟩; (try first | exact ⟨rfl, _, World.drewN_drewN _ _ _⟩ | exact ⟨rfl, _, Eq.trans (World.drewN_drewN _ _ _) (congrArg (World.drewN _) (Nat.add_assoc _ _ _))⟩)))
    (try dsimp only [List.append])
    repeat (go_quiet (first | (go_at_call 42; (with_reducible refine (laws_big.calls _ _ l0 true _ ?side1 ?side2 A2.out).mono ?_); (case side1 => repeat (first | exact HR0.out | (with_reducible refine Kd.C_alloc ?_ _) | (with_reducible refine Kd.C_drewN ?_ _) | (with_reducible refine Kd.C_drew ?_))); (case side2 => exact HC0.out); rintro e w' ⟨rfl, ⟨nd, rfl⟩⟩; (try first | exact ⟨rfl, _, World.drewN_drewN _ _ _⟩ | exact ⟨rfl, _, Eq.trans (World.drewN_drewN _ _ _) (congrArg (World.drewN _) (Nat.add_assoc _ _ _))⟩))); try go_wp2_with (first | (go_at_call 42; (with_reducible refine (laws_big.calls _ _ l0 true _ ?side1 ?side2 A2.out).mono ?_); (case side1 => repeat (first | exact HR0.out | (with_reducible refine Kd.C_alloc ?_ _) | (with_reducible refine Kd.C_drewN ?_ _) | (with_reducible refine Kd.C_drew ?_))); (case side2 => exact HC0.out); rintro e w' ⟨rfl, ⟨nd, rfl⟩⟩; (try first | exact ⟨rfl, _, World.drewN_drewN _ _ _⟩ | exact ⟨rfl, _, Eq.trans (World.drewN_drewN _ _ _) (congrArg (World.drewN _) (Nat.add_assoc _ _ _))⟩))))
    go_ret
    exact ⟨by first | rfl | (simp [errW_none, errW_some] <;> rfl) | (simp [*, errW_none, errW_some] <;> rfl), by repeat (first | (with_reducible first | exact HB.out | apply below_alloc | apply pw_below_drewN | apply below_drew1) | exact HB.out)⟩
  · replace c3 := Bool.eq_false_iff.mpr c3
    subst c3
    have H1 : ((spec_DrawBestTimes.f k l0).bind fun t265 => ((impl_BestTimes.f k t265).bind fun t268 => ((impl_IsTimes.f k t265).bind fun t271 => ((spec_IsTimes.f k t265).bind fun t272 => (if (t271 != t272) = true then (some false) else ((impl_IsTimes.f k t265).bind fun t273 => (if t273 = true then (laws_FnOverlays.l0 k t265 t268 0) else (some ((t268.length : Int) == 0))))))))) = some r := by rw [if_neg (show ¬ (false = true) by decide)] at H; exact H
    clear H
    have H := H1
    clear H1
    replace H := Option.bind_eq_some_iff.mp H
    obtain ⟨t265, A40, H⟩ := H
    replace H : ((impl_BestTimes.f k t265).bind fun t268 => ((impl_IsTimes.f k t265).bind fun t271 => ((spec_IsTimes.f k t265).bind fun t272 => (if (t271 != t272) = true then (some false) else ((impl_IsTimes.f k t265).bind fun t273 => (if t273 = true then (laws_FnOverlays.l0 k t265 t268 0) else (some ((t268.length : Int) == 0)))))))) = some r := H
    have A4 := Aside0.mk A40
    clear A40
    replace H := Option.bind_eq_some_iff.mp H
    obtain ⟨t268, A50, H⟩ := H
    replace H : ((impl_IsTimes.f k t265).bind fun t271 => ((spec_IsTimes.f k t265).bind fun t272 => (if (t271 != t272) = true then (some false) else ((impl_IsTimes.f k t265).bind fun t273 => (if t273 = true then (laws_FnOverlays.l0 k t265 t268 0) else (some ((t268.length : Int) == 0))))))) = some r := H
    have A5 := Aside0.mk A50
    clear A50
    replace H := Option.bind_eq_some_iff.mp H
    obtain ⟨t271, A60, H⟩ := H
    replace H : ((spec_IsTimes.f k t265).bind fun t272 => (if (t271 != t272) = true then (some false) else ((impl_IsTimes.f k t265).bind fun t273 => (if t273 = true then (laws_FnOverlays.l0 k t265 t268 0) else (some ((t268.length : Int) == 0)))))) = some r := H
    have A6 := Aside0.mk A60
    clear A60
    replace H := Option.bind_eq_some_iff.mp H
    obtain ⟨t272, A70, H⟩ := H
    replace H : (if (t271 != t272) = true then (some false) else ((impl_IsTimes.f k t265).bind fun t273 => (if t273 = true then (laws_FnOverlays.l0 k t265 t268 0) else (some ((t268.length : Int) == 0))))) = some r := H
    have A7 := Aside0.mk A70
    clear A70
    by_cases c8 : (t271 != t272) = true
    · rw [if_pos c8] at H
      have c8b0 : (t271 != t272) = true := c8
      (try (have c8b1 : decide (t271 = t272) = false := by simpa using c8))
      (try (have c8b2 : (t271 == t272) = false := by simpa using c8))
      (try (have c8b3 : ¬ (t271 = t272) := by simpa using c8))
      clear c8
      exact absurd ((Option.some.inj H).trans hT.out) (by decide)
    · rw [if_neg c8] at H
      have c8b0 : (t271 != t272) = false := by simpa using c8
      (try (have c8b1 : decide (t271 = t272) = true := by simpa using c8))
      (try (have c8b2 : (t271 == t272) = true := by simpa using c8))
      clear c8
      replace H := Option.bind_eq_some_iff.mp H
      obtain ⟨t273, A120, H⟩ := H
      replace H : (if t273 = true then (laws_FnOverlays.l0 k t265 t268 0) else (some ((t268.length : Int) == 0))) = some r := H
      have A12 := Aside0.mk A120
      clear A120
      by_cases c13 : t273 = true
      · subst c13
        have e71_ : t271 = true := Option.some.inj (A6.out.symm.trans A12.out)
        subst e71_
        have e72_ : t272 = true := by simpa using c8b0
        subst e72_
        have H1 : (laws_FnOverlays.l0 k t265 t268 0) = some r := by rw [if_pos rfl] at H; exact H
        clear H
        have H := H1
        clear H1
        have H' := Aside0.mk H
        clear H
        go_enter Try.func12, Try.ntmps12
        go_wp2_with (first | (go_at_call 42; (with_reducible refine (laws_big.calls _ _ l0 false _ ?side1 ?side2 A2.out).mono ?_); (case side1 => repeat (first | exact HR0.out | (with_reducible refine Kd.C_alloc ?_ _) | (with_reducible refine Kd.C_drewN ?_ _) | (with_reducible refine Kd.C_drew ?_))); (case side2 => exact HC0.out); rintro e w' ⟨rfl, ⟨nd, rfl⟩⟩; (try first | exact ⟨rfl, _, World.drewN_drewN _ _ _⟩ | exact ⟨rfl, _, Eq.trans (World.drewN_drewN _ _ _) (congrArg (World.drewN _) (Nat.add_assoc _ _ _))⟩)) | (go_at_call 51; (with_reducible refine (spec_DrawBestTimes.calls k _ _ l0 t265 _ ?side1 ?side2 A4.out).mono ?_); (case side1 => repeat (first | exact HR0.out | (with_reducible refine Kd.C_alloc ?_ _) | (with_reducible refine Kd.C_drewN ?_ _) | (with_reducible refine Kd.C_drew ?_))); (case side2 => exact HC0.out); rintro e w14 ⟨v266, rfl, ho0, hb⟩; have n0_ := Aside0.mk (Kd.S_lower ho0 (below_size (by repeat (first | (with_reducible first | exact HB.out | apply below_alloc | apply pw_below_drewN | apply below_drew1) | exact HB.out)))); have n1_ := Aside0.mk (below_step (by repeat (first | (with_reducible first | exact HB.out | apply below_alloc | apply pw_below_drewN | apply below_drew1) | exact HB.out)) hb); clear HB; have HO267 := n0_; have HB := n1_; clear n0_ n1_; (try clear hb); (try clear hb2); (try clear hk); (try clear hi); (try clear ho0); obtain ⟨Ao15, co15, eo15⟩ := Kd.S_slice HO267.out; subst eo15) | (go_at_call 52; (with_reducible refine (impl_BestTimes.calls k _ _ t265 t268 _ ?side1 ?side2 A5.out).mono ?_); (case side1 => repeat (first | exact (Kd.S_reads' HO267.out).2.2 | (with_reducible refine Kd.C_alloc ?_ _) | (with_reducible refine Kd.C_drewN ?_ _) | (with_reducible refine Kd.C_drew ?_))); (case side2 => exact (Kd.S_reads' HO267.out).2.1); rintro e w16 ⟨v269, rfl, ho0, hb⟩; have n0_ := Aside0.mk (Kd.S_elder' (by (with_reducible repeat (first | apply Kd.S_alloc | apply Kd.S_drewN | apply Kd.S_drew)); exact HO267.out) (Kd.S_base ho0) hb); have n1_ := Aside0.mk (Kd.S_lower (Kd.S_new' ho0 (Kd.S_lt (by (with_reducible repeat (first | apply Kd.S_alloc | apply Kd.S_drewN | apply Kd.S_drew)); exact HO267.out))) (below_size (by repeat (first | (with_reducible first | exact HB.out | apply below_alloc | apply pw_below_drewN | apply below_drew1) | exact HB.out)))); have n2_ := Aside0.mk (below_step (by repeat (first | (with_reducible first | exact HB.out | apply below_alloc | apply pw_below_drewN | apply below_drew1) | exact HB.out)) hb); clear HO267; clear HB; have HO267 := n0_; have HO270 := n1_; have HB := n2_; clear n0_ n1_ n2_; (try clear hb); (try clear hb2); (try clear hk); (try clear hi); (try clear ho0)) | (go_at_call 53; (with_reducible refine (impl_IsTimes.calls k _ _ t265 true _ ?side1 ?side2 A6.out).mono ?_); (case side1 => repeat (first | exact (Kd.S_reads' HO267.out).2.2 | (with_reducible refine Kd.C_alloc ?_ _) | (with_reducible refine Kd.C_drewN ?_ _) | (with_reducible refine Kd.C_drew ?_))); (case side2 => exact (Kd.S_reads' HO267.out).2.1); rintro e w' ⟨rfl, ⟨nd, rfl⟩⟩; (try first | exact ⟨rfl, _, World.drewN_drewN _ _ _⟩ | exact ⟨rfl, _, Eq.trans (World.drewN_drewN _ _ _) (congrArg (World.drewN _) (Nat.add_assoc _ _ _))⟩)) | (go_at_call 54; (with_reducible refine (spec_IsTimes.calls k _ _ t265 true _ ?side1 ?side2 A7.out).mono ?_); (case side1 => repeat (first | exact (Kd.S_reads' HO267.out).2.2 | (with_reducible refine Kd.C_alloc ?_ _) | (with_reducible refine Kd.C_drewN ?_ _) | (with_reducible refine Kd.C_drew ?_))); (case side2 => exact (Kd.S_reads' HO267.out).2.1); rintro e w' ⟨rfl, ⟨nd, rfl⟩⟩; (try first | exact ⟨rfl, _, World.drewN_drewN _ _ _⟩ | exact ⟨rfl, _, Eq.trans (World.drewN_drewN _ _ _) (congrArg (World.drewN _) (Nat.add_assoc _ _ _))⟩)) | (go_at_call 53; (with_reducible refine (impl_IsTimes.calls k _ _ t265 true _ ?side1 ?side2 A12.out).mono ?_); (case side1 => repeat (first | exact (Kd.S_reads' HO267.out).2.2 | (with_reducible refine Kd.C_alloc ?_ _) | (with_reducible refine Kd.C_drewN ?_ _) | (with_reducible refine Kd.C_drew ?_))); (case side2 => exact (Kd.S_reads' HO267.out).2.1); rintro e w' ⟨rfl, ⟨nd, rfl⟩⟩; (try first | exact ⟨rfl, _, World.drewN_drewN _ _ _⟩ | exact ⟨rfl, _, Eq.trans (World.drewN_drewN _ _ _) (congrArg (World.drewN _) (Nat.add_assoc _ _ _))⟩)))
        (try dsimp only [List.append])
        repeat (go_quiet (first | (go_at_call 42; (with_reducible refine (laws_big.calls _ _ l0 false _ ?side1 ?side2 A2.out).mono ?_); (case side1 => repeat (first | exact HR0.out | (with_reducible refine Kd.C_alloc ?_ _) | (with_reducible refine Kd.C_drewN ?_ _) | (with_reducible refine Kd.C_drew ?_))); (case side2 => exact HC0.out); rintro e w' ⟨rfl, ⟨nd, rfl⟩⟩; (try first | exact ⟨rfl, _, World.drewN_drewN _ _ _⟩ | exact ⟨rfl, _, Eq.trans (World.drewN_drewN _ _ _) (congrArg (World.drewN _) (Nat.add_assoc _ _ _))⟩)) | (go_at_call 51; (with_reducible refine (spec_DrawBestTimes.calls k _ _ l0 t265 _ ?side1 ?side2 A4.out).mono ?_); (case side1 => repeat (first | exact HR0.out | (with_reducible refine Kd.C_alloc ?_ _) | (with_reducible refine Kd.C_drewN ?_ _) | (with_reducible refine Kd.C_drew ?_))); (case side2 => exact HC0.out); rintro e w14 ⟨v266, rfl, ho0, hb⟩; have n0_ := Aside0.mk (Kd.S_lower ho0 (below_size (by repeat (first | (with_reducible first | exact HB.out | apply below_alloc | apply pw_below_drewN | apply below_drew1) | exact HB.out)))); have n1_ := Aside0.mk (below_step (by repeat (first | (with_reducible first | exact HB.out | apply below_alloc | apply pw_below_drewN | apply below_drew1) | exact HB.out)) hb); clear HB; have HO267 := n0_; have HB := n1_; clear n0_ n1_; (try clear hb); (try clear hb2); (try clear hk); (try clear hi); (try clear ho0); obtain ⟨Ao15, co15, eo15⟩ := Kd.S_slice HO267.out; subst eo15) | (go_at_call 52; (with_reducible refine (impl_BestTimes.calls k _ _ t265 t268 _ ?side1 ?side2 A5.out).mono ?_); (case side1 => repeat (first | exact (Kd.S_reads' HO267.out).2.2 | (with_reducible refine Kd.C_alloc ?_ _) | (with_reducible refine Kd.C_drewN ?_ _) | (with_reducible refine Kd.C_drew ?_))); (case side2 => exact (Kd.S_reads' HO267.out).2.1); rintro e w16 ⟨v269, rfl, ho0, hb⟩; have n0_ := Aside0.mk (Kd.S_elder' (by (with_reducible repeat (first | apply Kd.S_alloc | apply Kd.S_drewN | apply Kd.S_drew)); exact HO267.out) (Kd.S_base ho0) hb); have n1_ := Aside0.mk (Kd.S_lower (Kd.S_new' ho0 (Kd.S_lt (by (with_reducible repeat (first | apply Kd.S_alloc | apply Kd.S_drewN | apply Kd.S_drew)); exact HO267.out))) (below_size (by repeat (first | (with_reducible first | exact HB.out | apply below_alloc | apply pw_below_drewN | apply below_drew1) | exact HB.out)))); have n2_ := Aside0.mk (below_step (by repeat (first | (with_reducible first | exact HB.out | apply below_alloc | apply pw_below_drewN | apply below_drew1) | exact HB.out)) hb); clear HO267; clear HB; have HO267 := n0_; have HO270 := n1_; have HB := n2_; clear n0_ n1_ n2_; (try clear hb); (try clear hb2); (try clear hk); (try clear hi); (try clear ho0)) | (go_at_call 53; (with_reducible refine (impl_IsTimes.calls k _ _ t265 true _ ?side1 ?side2 A6.out).mono ?_); (case side1 => repeat (first | exact (Kd.S_reads' HO267.out).2.2 | (with_reducible refine Kd.C_alloc ?_ _) | (with_reducible refine Kd.C_drewN ?_ _) | (with_reducible refine Kd.C_drew ?_))); (case side2 => exact (Kd.S_reads' HO267.out).2.1); rintro e w' ⟨rfl, ⟨nd, rfl⟩⟩; (try first | exact ⟨rfl, _, World.drewN_drewN _ _ _⟩ | exact ⟨rfl, _, Eq.trans (World.drewN_drewN _ _ _) (congrArg (World.drewN _) (Nat.add_assoc _ _ _))⟩)) | (go_at_call 54; (with_reducible refine (spec_IsTimes.calls k _ _ t265 true _ ?side1 ?side2 A7.out).mono ?_); (case side1 => repeat (first | exact (Kd.S_reads' HO267.out).2.2 | (with_reducible refine Kd.C_alloc ?_ _) | (with_reducible refine Kd.C_drewN ?_ _) | (with_reducible refine Kd.C_drew ?_))); (case side2 => exact (Kd.S_reads' HO267.out).2.1); rintro e w' ⟨rfl, ⟨nd, rfl⟩⟩; (try first | exact ⟨rfl, _, World.drewN_drewN _ _ _⟩ | exact ⟨rfl, _, Eq.trans (World.drewN_drewN _ _ _) (congrArg (World.drewN _) (Nat.add_assoc _ _ _))⟩)) | (go_at_call 53; (with_reducible refine (impl_IsTimes.calls k _ _ t265 true _ ?side1 ?side2 A12.out).mono ?_); (case side1 => repeat (first | exact (Kd.S_reads' HO267.out).2.2 | (with_reducible refine Kd.C_alloc ?_ _) | (with_reducible refine Kd.C_drewN ?_ _) | (with_reducible refine Kd.C_drew ?_))); (case side2 => exact (Kd.S_reads' HO267.out).2.1); rintro e w' ⟨rfl, ⟨nd, rfl⟩⟩; (try first | exact ⟨rfl, _, World.drewN_drewN _ _ _⟩ | exact ⟨rfl, _, Eq.trans (World.drewN_drewN _ _ _) (congrArg (World.drewN _) (Nat.add_assoc _ _ _))⟩))); try go_wp2_with (first | (go_at_call 42; (with_reducible refine (laws_big.calls _ _ l0 false _ ?side1 ?side2 A2.out).mono ?_); (case side1 => repeat (first | exact HR0.out | (with_reducible refine Kd.C_alloc ?_ _) | (with_reducible refine Kd.C_drewN ?_ _) | (with_reducible refine Kd.C_drew ?_))); (case side2 => exact HC0.out); rintro e w' ⟨rfl, ⟨nd, rfl⟩⟩; (try first | exact ⟨rfl, _, World.drewN_drewN _ _ _⟩ | exact ⟨rfl, _, Eq.trans (World.drewN_drewN _ _ _) (congrArg (World.drewN _) (Nat.add_assoc _ _ _))⟩)) | (go_at_call 51; (with_reducible refine (spec_DrawBestTimes.calls k _ _ l0 t265 _ ?side1 ?side2 A4.out).mono ?_); (case side1 => repeat (first | exact HR0.out | (with_reducible refine Kd.C_alloc ?_ _) | (with_reducible refine Kd.C_drewN ?_ _) | (with_reducible refine Kd.C_drew ?_))); (case side2 => exact HC0.out); rintro e w14 ⟨v266, rfl, ho0, hb⟩; have n0_ := Aside0.mk (Kd.S_lower ho0 (below_size (by repeat (first | (with_reducible first | exact HB.out | apply below_alloc | apply pw_below_drewN | apply below_drew1) | exact HB.out)))); have n1_ := Aside0.mk (below_step (by repeat (first | (with_reducible first | exact HB.out | apply below_alloc | apply pw_below_drewN | apply below_drew1) | exact HB.out)) hb); clear HB; have HO267 := n0_; have HB := n1_; clear n0_ n1_; (try clear hb); (try clear hb2); (try clear hk); (try clear hi); (try clear ho0); obtain ⟨Ao15, co15, eo15⟩ := Kd.S_slice HO267.out; subst eo15) | (go_at_call 52; (with_reducible refine (impl_BestTimes.calls k _ _ t265 t268 _ ?side1 ?side2 A5.out).mono ?_); (case side1 => repeat (first | exact (Kd.S_reads' HO267.out).2.2 | (with_reducible refine Kd.C_alloc ?_ _) | (with_reducible refine Kd.C_drewN ?_ _) | (with_reducible refine Kd.C_drew ?_))); (case side2 => exact (Kd.S_reads' HO267.out).2.1); rintro e w16 ⟨v269, rfl, ho0, hb⟩; have n0_ := Aside0.mk (Kd.S_elder' (by (with_reducible repeat (first | apply Kd.S_alloc | apply Kd.S_drewN | apply Kd.S_drew)); exact HO267.out) (Kd.S_base ho0) hb); have n1_ := Aside0.mk (Kd.S_lower (Kd.S_new' ho0 (Kd.S_lt (by (with_reducible repeat (first | apply Kd.S_alloc | apply Kd.S_drewN | apply Kd.S_drew)); exact HO267.out))) (below_size (by repeat (first | (with_reducible first | exact HB.out | apply below_alloc | apply pw_below_drewN | apply below_drew1) | exact HB.out)))); have n2_ := Aside0.mk (below_step (by repeat (first | (with_reducible first | exact HB.out | apply below_alloc | apply pw_below_drewN | apply below_drew1) | exact HB.out)) hb); clear HO267; clear HB; have HO267 := n0_; have HO270 := n1_; have HB := n2_; clear n0_ n1_ n2_; (try clear hb); (try clear hb2); (try clear hk); (try clear hi); (try clear ho0)) | (go_at_call 53; (with_reducible refine (impl_IsTimes.calls k _ _ t265 true _ ?side1 ?side2 A6.out).mono ?_); (case side1 => repeat (first | exact (Kd.S_reads' HO267.out).2.2 | (with_reducible refine Kd.C_alloc ?_ _) | (with_reducible refine Kd.C_drewN ?_ _) | (with_reducible refine Kd.C_drew ?_))); (case side2 => exact (Kd.S_reads' HO267.out).2.1); rintro e w' ⟨rfl, ⟨nd, rfl⟩⟩; (try first | exact ⟨rfl, _, World.drewN_drewN _ _ _⟩ | exact ⟨rfl, _, Eq.trans (World.drewN_drewN _ _ _) (congrArg (World.drewN _) (Nat.add_assoc _ _ _))⟩)) | (go_at_call 54; (with_reducible refine (spec_IsTimes.calls k _ _ t265 true _ ?side1 ?side2 A7.out).mono ?_); (case side1 => repeat (first | exact (Kd.S_reads' HO267.out).2.2 | (with_reducible refine Kd.C_alloc ?_ _) | (with_reducible refine Kd.C_drewN ?_ _) | (with_reducible refine Kd.C_drew ?_))); (case side2 => exact (Kd.S_reads' HO267.out).2.1); rintro e w' ⟨rfl, ⟨nd, rfl⟩⟩; (try first | exact ⟨rfl, _, World.drewN_drewN _ _ _⟩ | exact ⟨rfl, _, Eq.trans (World.drewN_drewN _ _ _) (congrArg (World.drewN _) (Nat.add_assoc _ _ _))⟩)) | (go_at_call 53; (with_reducible refine (impl_IsTimes.calls k _ _ t265 true _ ?side1 ?side2 A12.out).mono ?_); (case side1 => repeat (first | exact (Kd.S_reads' HO267.out).2.2 | (with_reducible refine Kd.C_alloc ?_ _) | (with_reducible refine Kd.C_drewN ?_ _) | (with_reducible refine Kd.C_drew ?_))); (case side2 => exact (Kd.S_reads' HO267.out).2.1); rintro e w' ⟨rfl, ⟨nd, rfl⟩⟩; (try first | exact ⟨rfl, _, World.drewN_drewN _ _ _⟩ | exact ⟨rfl, _, Eq.trans (World.drewN_drewN _ _ _) (congrArg (World.drewN _) (Nat.add_assoc _ _ _))⟩))))
        go_loopg [5] k (fun kq v5 w' => ∃ (x5_1 : Int), v5 = .int .i64 x5_1 ∧ Aside0 (laws_FnOverlays.l0 kq t265 t268 x5_1 = some r) ∧ Aside0 (kq ≤ k) ∧ Aside0 (Kd.S (Kd.slice 3 (Kd.int .i64)) 24 w' w.heap.size (fun k_ => some k_ ≠ (v269 : Value).ownBlock) (.slice Ao15 t265.length co15) t265) ∧ Aside0 (Kd.S (Kd.slice 3 (Kd.int .i64)) 24 w' w.heap.size (fun k_ => some k_ ≠ ((.slice Ao15 t265.length co15) : Value).ownBlock) v269 t268) ∧ Aside0 (Below w.heap.size w w'))
        case atStart => exact ⟨(0), (by first | rfl | (simp; done) | (simp [*]; done)), H', ⟨Nat.le_refl _⟩, ⟨by (with_reducible repeat (first | apply Kd.S_alloc | apply Kd.S_drewN | apply Kd.S_drew)); exact Kd.S_mono HO267.out (fun _ hk => hk.2)⟩, ⟨by (with_reducible repeat (first | apply Kd.S_alloc | apply Kd.S_drewN | apply Kd.S_drew)); exact Kd.S_mono HO270.out (fun _ hk => hk.2)⟩, ⟨by repeat (first | (with_reducible first | exact HB.out | apply below_alloc | apply pw_below_drewN | apply below_drew1) | exact HB.out)⟩⟩
        case round =>
          clear H'
          try clear c1
          try clear p2
          try clear c3
          try clear c8
          try clear c8b0
          try clear c8b1
          try clear c8b2
          try clear c12
          try clear c13
          obtain ⟨x5_1, rfl, HA, HK1, HO_3, HO_4, HB⟩ := hrel
          cases gk with
          | zero => exact absurd HA.out (by simp [laws_FnOverlays.l0])
          | succ k1 =>
            have H := HA.out
            clear HA
            simp only [laws_FnOverlays.l0] at H
            by_cases c17 : x5_1 < (t265.length : Int)
            · rw [if_pos c17] at H
              have c17b0 : decide (x5_1 < (t265.length : Int)) = true := decide_eq_true c17
              clear c17
              have H' := Aside0.mk H
              clear H
              go_wp2
              (try dsimp only [List.append])
              repeat (go_quiet (fail); try go_wp2)
              go_loopg [6] k1 (fun kq v6 w' => ∃ (x6_2 : Int), v6 = .int .i64 x6_2 ∧ Aside0 (laws_FnOverlays.l1 kq t265 t268 x5_1 x6_2 = some r) ∧ Aside0 (kq ≤ k1) ∧ Aside0 (Kd.S (Kd.slice 3 (Kd.int .i64)) 24 w' w.heap.size (fun k_ => some k_ ≠ (v269 : Value).ownBlock) (.slice Ao15 t265.length co15) t265) ∧ Aside0 (Kd.S (Kd.slice 3 (Kd.int .i64)) 24 w' w.heap.size (fun k_ => some k_ ≠ ((.slice Ao15 t265.length co15) : Value).ownBlock) v269 t268) ∧ Aside0 (Below w.heap.size w w'))
              case atStart => exact ⟨(0), (by first | rfl | (simp; done) | (simp [*]; done)), H', ⟨Nat.le_refl _⟩, ⟨by (with_reducible repeat (first | apply Kd.S_alloc | apply Kd.S_drewN | apply Kd.S_drew)); exact HO_3.out⟩, ⟨by (with_reducible repeat (first | apply Kd.S_alloc | apply Kd.S_drewN | apply Kd.S_drew)); exact HO_4.out⟩, ⟨by repeat (first | (with_reducible first | exact HB.out | apply below_alloc | apply pw_below_drewN | apply below_drew1) | exact HB.out)⟩⟩
              case round =>
                clear H'
                try clear c1
                try clear p2
                try clear c3
                try clear c8
                try clear c8b0
                try clear c8b1
                try clear c8b2
                try clear c12
                try clear c13
                try clear c17
                try clear c17b0
                try clear p2
                obtain ⟨x6_2, rfl, HA, HK2, HO_3, HO_4, HB⟩ := hrel
                cases gk with
                | zero => exact absurd HA.out (by simp [laws_FnOverlays.l1])
                | succ k2 =>
                  have H := HA.out
                  clear HA
                  simp only [laws_FnOverlays.l1] at H
                  by_cases c18 : x6_2 < (t265.length : Int)
                  · rw [if_pos c18] at H
                    have c18b0 : decide (x6_2 < (t265.length : Int)) = true := decide_eq_true c18
                    clear c18
                    replace H := Option.bind_eq_some_iff.mp H
                    obtain ⟨t274, A190, H⟩ := H
                    replace H : ((impl_BestRelay.f k2 t265 x5_1 x6_2).bind fun t275 => (if 0 ≤ x5_1 then (if x5_1 < (t265.length : Int) then (if 0 ≤ x6_2 then (if x6_2 < ((rd_L1 t265 x5_1).length : Int) then (if (rd (rd_L1 t265 x5_1) x6_2) ≥ 0 then (if x5_1 < (t268.length : Int) then (if x6_2 < ((rd_L1 t268 x5_1).length : Int) then (if (rd (rd_L1 t268 x5_1) x6_2) < 0 then (laws_FnOverlays.j2 k2 t265 t268 x5_1 x6_2 t275 true) else (if (rd (rd_L1 t268 x5_1) x6_2) > (rd (rd_L1 t265 x5_1) x6_2) then (laws_FnOverlays.j2 k2 t265 t268 x5_1 x6_2 t275 true) else (if (wrap64 ((rd (rd_L1 t265 x5_1) x6_2) - (rd (rd_L1 t268 x5_1) x6_2))) = t274 then (if t275 = x5_1 then (if x5_1 ≥ 0 then (if t275 ≥ 0 then (laws_FnOverlays.j2 k2 t265 t268 x5_1 x6_2 t275 true) else (laws_FnOverlays.j2 k2 t265 t268 x5_1 x6_2 t275 false)) else (if t275 ≥ 0 then (laws_FnOverlays.j2 k2 t265 t268 x5_1 x6_2 t275 (t275 == x6_2)) else (laws_FnOverlays.j2 k2 t265 t268 x5_1 x6_2 t275 false))) else (if t275 ≥ 0 then (laws_FnOverlays.j2 k2 t265 t268 x5_1 x6_2 t275 (t275 == x6_2)) else (laws_FnOverlays.j2 k2 t265 t268 x5_1 x6_2 t275 false))) else (laws_FnOverlays.j2 k2 t265 t268 x5_1 x6_2 t275 true)))) else (none)) else (none)) else (if t275 = x5_1 then (if x5_1 ≥ 0 then (if t275 ≥ 0 then (laws_FnOverlays.j2 k2 t265 t268 x5_1 x6_2 t275 true) else (laws_FnOverlays.j2 k2 t265 t268 x5_1 x6_2 t275 false)) else (if t275 ≥ 0 then (laws_FnOverlays.j2 k2 t265 t268 x5_1 x6_2 t275 (t275 == x6_2)) else (laws_FnOverlays.j2 k2 t265 t268 x5_1 x6_2 t275 false))) else (if t275 ≥ 0 then (laws_FnOverlays.j2 k2 t265 t268 x5_1 x6_2 t275 (t275 == x6_2)) else (laws_FnOverlays.j2 k2 t265 t268 x5_1 x6_2 t275 false)))) else (none)) else (none)) else (none)) else (none))) = some r := H
                    have A19 := Aside0.mk A190
                    clear A190
                    replace H := Option.bind_eq_some_iff.mp H
                    obtain ⟨t275, A200, H⟩ := H
                    replace H : (if 0 ≤ x5_1 then (if x5_1 < (t265.length : Int) then (if 0 ≤ x6_2 then (if x6_2 < ((rd_L1 t265 x5_1).length : Int) then (if (rd (rd_L1 t265 x5_1) x6_2) ≥ 0 then (if x5_1 < (t268.length : Int) then (if x6_2 < ((rd_L1 t268 x5_1).length : Int) then (if (rd (rd_L1 t268 x5_1) x6_2) < 0 then (laws_FnOverlays.j2 k2 t265 t268 x5_1 x6_2 t275 true) else (if (rd (rd_L1 t268 x5_1) x6_2) > (rd (rd_L1 t265 x5_1) x6_2) then (laws_FnOverlays.j2 k2 t265 t268 x5_1 x6_2 t275 true) else (if (wrap64 ((rd (rd_L1 t265 x5_1) x6_2) - (rd (rd_L1 t268 x5_1) x6_2))) = t274 then (if t275 = x5_1 then (if x5_1 ≥ 0 then (if t275 ≥ 0 then (laws_FnOverlays.j2 k2 t265 t268 x5_1 x6_2 t275 true) else (laws_FnOverlays.j2 k2 t265 t268 x5_1 x6_2 t275 false)) else (if t275 ≥ 0 then (laws_FnOverlays.j2 k2 t265 t268 x5_1 x6_2 t275 (t275 == x6_2)) else (laws_FnOverlays.j2 k2 t265 t268 x5_1 x6_2 t275 false))) else (if t275 ≥ 0 then (laws_FnOverlays.j2 k2 t265 t268 x5_1 x6_2 t275 (t275 == x6_2)) else (laws_FnOverlays.j2 k2 t265 t268 x5_1 x6_2 t275 false))) else (laws_FnOverlays.j2 k2 t265 t268 x5_1 x6_2 t275 true)))) else (none)) else (none)) else (if t275 = x5_1 then (if x5_1 ≥ 0 then (if t275 ≥ 0 then (laws_FnOverlays.j2 k2 t265 t268 x5_1 x6_2 t275 true) else (laws_FnOverlays.j2 k2 t265 t268 x5_1 x6_2 t275 false)) else (if t275 ≥ 0 then (laws_FnOverlays.j2 k2 t265 t268 x5_1 x6_2 t275 (t275 == x6_2)) else (laws_FnOverlays.j2 k2 t265 t268 x5_1 x6_2 t275 false))) else (if t275 ≥ 0 then (laws_FnOverlays.j2 k2 t265 t268 x5_1 x6_2 t275 (t275 == x6_2)) else (laws_FnOverlays.j2 k2 t265 t268 x5_1 x6_2 t275 false)))) else (none)) else (none)) else (none)) else (none)) = some r := H
                    have A20 := Aside0.mk A200
                    clear A200
                    have HC21 := Aside0.mk H
                    clear H
                    go_upto_region 17 with (first | (go_at_call 50; (with_reducible refine (impl_Gain.calls k2 _ _ t265 x5_1 x6_2 t274 _ ?side1 ?side2 A19.out).mono ?_); (case side1 => repeat (first | exact (Kd.S_reads' HO_3.out).2.2 | (with_reducible refine Kd.C_alloc ?_ _) | (with_reducible refine Kd.C_drewN ?_ _) | (with_reducible refine Kd.C_drew ?_))); (case side2 => exact (Kd.S_reads' HO_3.out).2.1); rintro e w22 ⟨rfl, hb⟩; have n0_ := Aside0.mk (Kd.S_below (by (with_reducible repeat (first | apply Kd.S_alloc | apply Kd.S_drewN | apply Kd.S_drew)); exact HO_3.out) hb); have n1_ := Aside0.mk (Kd.S_below (by (with_reducible repeat (first | apply Kd.S_alloc | apply Kd.S_drewN | apply Kd.S_drew)); exact HO_4.out) hb); have n2_ := Aside0.mk (below_step (by repeat (first | (with_reducible first | exact HB.out | apply below_alloc | apply pw_below_drewN | apply below_drew1) | exact HB.out)) hb); clear HO_3; clear HO_4; clear HB; have HO_3 := n0_; have HO_4 := n1_; have HB := n2_; clear n0_ n1_ n2_; (try clear hb); (try clear hb2); (try clear hk); (try clear hi)) | (go_at_call 33; (with_reducible refine (impl_BestRelay.calls k2 _ _ t265 x5_1 x6_2 t275 _ ?side1 ?side2 A20.out).mono ?_); (case side1 => repeat (first | exact (Kd.S_reads' HO_3.out).2.2 | (with_reducible refine Kd.C_alloc ?_ _) | (with_reducible refine Kd.C_drewN ?_ _) | (with_reducible refine Kd.C_drew ?_))); (case side2 => exact (Kd.S_reads' HO_3.out).2.1); rintro e w' ⟨rfl, ⟨nd, rfl⟩⟩; (try first | exact ⟨rfl, _, World.drewN_drewN _ _ _⟩ | exact ⟨rfl, _, Eq.trans (World.drewN_drewN _ _ _) (congrArg (World.drewN _) (Nat.add_assoc _ _ _))⟩)))
                    (try dsimp only [List.append])
                    repeat (go_quiet (first | (go_at_call 50; (with_reducible refine (impl_Gain.calls k2 _ _ t265 x5_1 x6_2 t274 _ ?side1 ?side2 A19.out).mono ?_); (case side1 => repeat (first | exact (Kd.S_reads' HO_3.out).2.2 | (with_reducible refine Kd.C_alloc ?_ _) | (with_reducible refine Kd.C_drewN ?_ _) | (with_reducible refine Kd.C_drew ?_))); (case side2 => exact (Kd.S_reads' HO_3.out).2.1); rintro e w22 ⟨rfl, hb⟩; have n0_ := Aside0.mk (Kd.S_below (by (with_reducible repeat (first | apply Kd.S_alloc | apply Kd.S_drewN | apply Kd.S_drew)); exact HO_3.out) hb); have n1_ := Aside0.mk (Kd.S_below (by (with_reducible repeat (first | apply Kd.S_alloc | apply Kd.S_drewN | apply Kd.S_drew)); exact HO_4.out) hb); have n2_ := Aside0.mk (below_step (by repeat (first | (with_reducible first | exact HB.out | apply below_alloc | apply pw_below_drewN | apply below_drew1) | exact HB.out)) hb); clear HO_3; clear HO_4; clear HB; have HO_3 := n0_; have HO_4 := n1_; have HB := n2_; clear n0_ n1_ n2_; (try clear hb); (try clear hb2); (try clear hk); (try clear hi)) | (go_at_call 33; (with_reducible refine (impl_BestRelay.calls k2 _ _ t265 x5_1 x6_2 t275 _ ?side1 ?side2 A20.out).mono ?_); (case side1 => repeat (first | exact (Kd.S_reads' HO_3.out).2.2 | (with_reducible refine Kd.C_alloc ?_ _) | (with_reducible refine Kd.C_drewN ?_ _) | (with_reducible refine Kd.C_drew ?_))); (case side2 => exact (Kd.S_reads' HO_3.out).2.1); rintro e w' ⟨rfl, ⟨nd, rfl⟩⟩; (try first | exact ⟨rfl, _, World.drewN_drewN _ _ _⟩ | exact ⟨rfl, _, Eq.trans (World.drewN_drewN _ _ _) (congrArg (World.drewN _) (Nat.add_assoc _ _ _))⟩))); go_upto_region 17 with (first | (go_at_call 50; (with_reducible refine (impl_Gain.calls k2 _ _ t265 x5_1 x6_2 t274 _ ?side1 ?side2 A19.out).mono ?_); (case side1 => repeat (first | exact (Kd.S_reads' HO_3.out).2.2 | (with_reducible refine Kd.C_alloc ?_ _) | (with_reducible refine Kd.C_drewN ?_ _) | (with_reducible refine Kd.C_drew ?_))); (case side2 => exact (Kd.S_reads' HO_3.out).2.1); rintro e w22 ⟨rfl, hb⟩; have n0_ := Aside0.mk (Kd.S_below (by (with_reducible repeat (first | apply Kd.S_alloc | apply Kd.S_drewN | apply Kd.S_drew)); exact HO_3.out) hb); have n1_ := Aside0.mk (Kd.S_below (by (with_reducible repeat (first | apply Kd.S_alloc | apply Kd.S_drewN | apply Kd.S_drew)); exact HO_4.out) hb); have n2_ := Aside0.mk (below_step (by repeat (first | (with_reducible first | exact HB.out | apply below_alloc | apply pw_below_drewN | apply below_drew1) | exact HB.out)) hb); clear HO_3; clear HO_4; clear HB; have HO_3 := n0_; have HO_4 := n1_; have HB := n2_; clear n0_ n1_ n2_; (try clear hb); (try clear hb2); (try clear hk); (try clear hi)) | (go_at_call 33; (with_reducible refine (impl_BestRelay.calls k2 _ _ t265 x5_1 x6_2 t275 _ ?side1 ?side2 A20.out).mono ?_); (case side1 => repeat (first | exact (Kd.S_reads' HO_3.out).2.2 | (with_reducible refine Kd.C_alloc ?_ _) | (with_reducible refine Kd.C_drewN ?_ _) | (with_reducible refine Kd.C_drew ?_))); (case side2 => exact (Kd.S_reads' HO_3.out).2.1); rintro e w' ⟨rfl, ⟨nd, rfl⟩⟩; (try first | exact ⟨rfl, _, World.drewN_drewN _ _ _⟩ | exact ⟨rfl, _, Eq.trans (World.drewN_drewN _ _ _) (congrArg (World.drewN _) (Nat.add_assoc _ _ _))⟩))))
                    (try simp only [Act.put, List.setIfInBounds_toArray, List.set_cons_zero, List.set_cons_succ])
                    go_cut [123] (fun v123 wc => ∃ (kq : Nat) (x123_20 : Bool), v123 = .bool x123_20 ∧ Aside0 (laws_FnOverlays.j2 kq t265 t268 x5_1 x6_2 t275 x123_20 = some r) ∧ Aside0 (kq ≤ k2) ∧ Aside0 (Kd.S (Kd.slice 3 (Kd.int .i64)) 24 wc w.heap.size (fun k_ => some k_ ≠ (v269 : Value).ownBlock) (.slice Ao15 t265.length co15) t265) ∧ Aside0 (Kd.S (Kd.slice 3 (Kd.int .i64)) 24 wc w.heap.size (fun k_ => some k_ ≠ ((.slice Ao15 t265.length co15) : Value).ownBlock) v269 t268) ∧ Aside0 (Below w.heap.size w wc))
                    case first =>
                      have H := HC21.out
                      clear HC21
                      by_cases c23 : 0 ≤ x5_1
                      · rw [if_pos c23] at H
                        have c23b0 : decide (0 ≤ x5_1) = true := decide_eq_true c23
                        clear c23
                        (first | rw [c23b0] | (simp only [i64_w, i32_w]; rw [c23b0]) | skip)
                        by_cases c24 : x5_1 < (t265.length : Int)
                        · rw [if_pos c24] at H
                          have c24b0 : decide (x5_1 < (t265.length : Int)) = true := decide_eq_true c24
                          clear c24
                          by_cases c25 : 0 ≤ x6_2
                          · rw [if_pos c25] at H
                            have c25b0 : decide (0 ≤ x6_2) = true := decide_eq_true c25
                            clear c25
                            by_cases c26 : x6_2 < ((rd_L1 t265 x5_1).length : Int)
                            · rw [if_pos c26] at H
                              have c26b0 : decide (x6_2 < ((rd_L1 t265 x5_1).length : Int)) = true := decide_eq_true c26
                              clear c26
                              by_cases c27 : (rd (rd_L1 t265 x5_1) x6_2) ≥ 0
                              · rw [if_pos c27] at H
                                have c27b0 : decide (0 ≤ (rd (rd_L1 t265 x5_1) x6_2)) = true := decide_eq_true c27
                                clear c27
                                by_cases c28 : x5_1 < (t268.length : Int)
                                · rw [if_pos c28] at H
                                  have c28b0 : decide (x5_1 < (t268.length : Int)) = true := decide_eq_true c28
                                  clear c28
                                  by_cases c29 : x6_2 < ((rd_L1 t268 x5_1).length : Int)
                                  · rw [if_pos c29] at H
                                    have c29b0 : decide (x6_2 < ((rd_L1 t268 x5_1).length : Int)) = true := decide_eq_true c29
                                    clear c29
                                    by_cases c30 : (rd (rd_L1 t268 x5_1) x6_2) < 0
                                    · rw [if_pos c30] at H
                                      have c30b0 : decide ((rd (rd_L1 t268 x5_1) x6_2) < 0) = true := decide_eq_true c30
                                      clear c30
                                      have H' := Aside0.mk H
                                      clear H
                                      have p276 : 0 ≤ (x5_1 : Int) := of_decide_eq_true (by first | (with_reducible assumption) | assumption)
                                      have q276 : x5_1 < (t265.length : Int) := of_decide_eq_true (by first | (with_reducible assumption) | assumption)
                                      obtain ⟨ad276, A276_0, c276_0, e276, hx276_0, hl276_0, hi276_0⟩ := at_L1 (Kd.S_reads' HO_3.out).2.2 x5_1 p276 q276
                                      cases e276
                                      obtain ⟨ce276, hce276, hMe276, hcc276⟩ := Kd.S_get HO_3.out [] x5_1 p276 (by first | exact q276 | exact of_decide_eq_true (by first | (with_reducible assumption) | assumption) | (have e_ := (Kd.S_reads' HO_3.out).1; omega))
                                      obtain ⟨ve276_0, rfl, ge276_0⟩ := hMe276
                                      have hv276_0 := hcc276 0 _ rfl
                                      rw [Nat.add_zero, show ((Kd.slice 3 (Kd.int .i64))).sz = 1 from rfl, Nat.mul_one] at hv276_0
                                      replace hv276_0 := Option.some.inj (hv276_0.symm.trans hx276_0)
                                      rw [hv276_0] at ge276_0
                                      have HL276_0 := Aside0.mk (show Kd.R (Kd.int .i64) 3 _ _ _ _ (rd_L1 t265 x5_1) from ge276_0)
                                      clear hv276_0 ge276_0
                                      clear hcc276 hce276
                                      have HR276_0 := Aside0.mk hi276_0
                                      have HC276_0 := Aside0.mk hl276_0
                                      clear hi276_0 hl276_0
                                      replace p276 := eq_true p276
                                      replace q276 := eq_true q276
                                      have p277 : 0 ≤ (x6_2 : Int) := of_decide_eq_true (by first | (with_reducible assumption) | assumption)
                                      have q277 : x6_2 < ((rd_L1 t265 x5_1).length : Int) := of_decide_eq_true (by first | (with_reducible assumption) | assumption)
                                      obtain ⟨ad277, e277, hx277_0⟩ := Kd.at_int (by repeat (first | (with_reducible exact HR276_0.out) | (with_reducible refine Kd.C_alloc ?_ _) | (with_reducible refine Kd.C_drewN ?_ _) | (with_reducible refine Kd.C_drew ?_) | exact HR276_0.out)) x6_2 p277 q277
                                      cases e277
                                      replace p277 := eq_true p277
                                      replace q277 := eq_true q277
                                      obtain ⟨Ao31, co31, eo31⟩ := Kd.S_slice HO_4.out
                                      subst eo31
                                      have p278 : 0 ≤ (x5_1 : Int) := of_decide_eq_true (by first | (with_reducible assumption) | assumption)
                                      have q278 : x5_1 < (t268.length : Int) := of_decide_eq_true (by first | (with_reducible assumption) | assumption)
                                      obtain ⟨ad278, A278_0, c278_0, e278, hx278_0, hl278_0, hi278_0⟩ := at_L1 (Kd.S_reads' HO_4.out).2.2 x5_1 p278 q278
                                      cases e278
                                      obtain ⟨ce278, hce278, hMe278, hcc278⟩ := Kd.S_get HO_4.out [] x5_1 p278 (by first | exact q278 | exact of_decide_eq_true (by first | (with_reducible assumption) | assumption) | (have e_ := (Kd.S_reads' HO_4.out).1; omega))
                                      obtain ⟨ve278_0, rfl, ge278_0⟩ := hMe278
                                      have hv278_0 := hcc278 0 _ rfl
                                      rw [Nat.add_zero, show ((Kd.slice 3 (Kd.int .i64))).sz = 1 from rfl, Nat.mul_one] at hv278_0
                                      replace hv278_0 := Option.some.inj (hv278_0.symm.trans hx278_0)
                                      rw [hv278_0] at ge278_0
                                      have HL278_0 := Aside0.mk (show Kd.R (Kd.int .i64) 3 _ _ _ _ (rd_L1 t268 x5_1) from ge278_0)
                                      clear hv278_0 ge278_0
                                      clear hcc278 hce278
                                      have HR278_0 := Aside0.mk hi278_0
                                      have HC278_0 := Aside0.mk hl278_0
                                      clear hi278_0 hl278_0
                                      replace p278 := eq_true p278
                                      replace q278 := eq_true q278
                                      have p279 : 0 ≤ (x6_2 : Int) := of_decide_eq_true (by first | (with_reducible assumption) | assumption)
                                      have q279 : x6_2 < ((rd_L1 t268 x5_1).length : Int) := of_decide_eq_true (by first | (with_reducible assumption) | assumption)
                                      obtain ⟨ad279, e279, hx279_0⟩ := Kd.at_int (by repeat (first | (with_reducible exact HR278_0.out) | (with_reducible refine Kd.C_alloc ?_ _) | (with_reducible refine Kd.C_drewN ?_ _) | (with_reducible refine Kd.C_drew ?_) | exact HR278_0.out)) x6_2 p279 q279
                                      cases e279
                                      replace p279 := eq_true p279
                                      replace q279 := eq_true q279
                                      go_wp2
                                      (try dsimp only [List.append])
                                      repeat (go_quiet (fail); try go_wp2)
                                      go_meet
                                      case rel => exact ⟨_, (true), (by first | rfl | (simp; done) | (simp [*]; done)), H', ⟨by have := HK1.out; have := HK2.out; first | omega | exact Nat.le_refl _⟩, ⟨by (with_reducible repeat (first | apply Kd.S_alloc | apply Kd.S_drewN | apply Kd.S_drew)); exact HO_3.out⟩, ⟨by (with_reducible repeat (first | apply Kd.S_alloc | apply Kd.S_drewN | apply Kd.S_drew)); exact HO_4.out⟩, ⟨by repeat (first | (with_reducible first | exact HB.out | apply below_alloc | apply pw_below_drewN | apply below_drew1) | exact HB.out)⟩⟩
                                    · rw [if_neg c30] at H
                                      have c30b0 : decide ((rd (rd_L1 t268 x5_1) x6_2) < 0) = false := decide_eq_false c30
                                      clear c30
                                      by_cases c32 : (rd (rd_L1 t268 x5_1) x6_2) > (rd (rd_L1 t265 x5_1) x6_2)
                                      · rw [if_pos c32] at H
                                        have c32b0 : decide ((rd (rd_L1 t265 x5_1) x6_2) < (rd (rd_L1 t268 x5_1) x6_2)) = true := decide_eq_true c32
                                        clear c32
                                        have H' := Aside0.mk H
                                        clear H
                                        have p276 : 0 ≤ (x5_1 : Int) := of_decide_eq_true (by first | (with_reducible assumption) | assumption)
                                        have q276 : x5_1 < (t265.length : Int) := of_decide_eq_true (by first | (with_reducible assumption) | assumption)
                                        obtain ⟨ad276, A276_0, c276_0, e276, hx276_0, hl276_0, hi276_0⟩ := at_L1 (Kd.S_reads' HO_3.out).2.2 x5_1 p276 q276
                                        cases e276
                                        obtain ⟨ce276, hce276, hMe276, hcc276⟩ := Kd.S_get HO_3.out [] x5_1 p276 (by first | exact q276 | exact of_decide_eq_true (by first | (with_reducible assumption) | assumption) | (have e_ := (Kd.S_reads' HO_3.out).1; omega))
                                        obtain ⟨ve276_0, rfl, ge276_0⟩ := hMe276
                                        have hv276_0 := hcc276 0 _ rfl
                                        rw [Nat.add_zero, show ((Kd.slice 3 (Kd.int .i64))).sz = 1 from rfl, Nat.mul_one] at hv276_0
                                        replace hv276_0 := Option.some.inj (hv276_0.symm.trans hx276_0)
                                        rw [hv276_0] at ge276_0
                                        have HL276_0 := Aside0.mk (show Kd.R (Kd.int .i64) 3 _ _ _ _ (rd_L1 t265 x5_1) from ge276_0)
                                        clear hv276_0 ge276_0
                                        clear hcc276 hce276
                                        have HR276_0 := Aside0.mk hi276_0
                                        have HC276_0 := Aside0.mk hl276_0
                                        clear hi276_0 hl276_0
                                        replace p276 := eq_true p276
                                        replace q276 := eq_true q276
                                        have p277 : 0 ≤ (x6_2 : Int) := of_decide_eq_true (by first | (with_reducible assumption) | assumption)
                                        have q277 : x6_2 < ((rd_L1 t265 x5_1).length : Int) := of_decide_eq_true (by first | (with_reducible assumption) | assumption)
                                        obtain ⟨ad277, e277, hx277_0⟩ := Kd.at_int (by repeat (first | (with_reducible exact HR276_0.out) | (with_reducible refine Kd.C_alloc ?_ _) | (with_reducible refine Kd.C_drewN ?_ _) | (with_reducible refine Kd.C_drew ?_) | exact HR276_0.out)) x6_2 p277 q277
                                        cases e277
                                        replace p277 := eq_true p277
                                        replace q277 := eq_true q277
                                        obtain ⟨Ao33, co33, eo33⟩ := Kd.S_slice HO_4.out
                                        subst eo33
                                        have p278 : 0 ≤ (x5_1 : Int) := of_decide_eq_true (by first | (with_reducible assumption) | assumption)
                                        have q278 : x5_1 < (t268.length : Int) := of_decide_eq_true (by first | (with_reducible assumption) | assumption)
                                        obtain ⟨ad278, A278_0, c278_0, e278, hx278_0, hl278_0, hi278_0⟩ := at_L1 (Kd.S_reads' HO_4.out).2.2 x5_1 p278 q278
                                        cases e278
                                        obtain ⟨ce278, hce278, hMe278, hcc278⟩ := Kd.S_get HO_4.out [] x5_1 p278 (by first | exact q278 | exact of_decide_eq_true (by first | (with_reducible assumption) | assumption) | (have e_ := (Kd.S_reads' HO_4.out).1; omega))
                                        obtain ⟨ve278_0, rfl, ge278_0⟩ := hMe278
                                        have hv278_0 := hcc278 0 _ rfl
                                        rw [Nat.add_zero, show ((Kd.slice 3 (Kd.int .i64))).sz = 1 from rfl, Nat.mul_one] at hv278_0
                                        replace hv278_0 := Option.some.inj (hv278_0.symm.trans hx278_0)
                                        rw [hv278_0] at ge278_0
                                        have HL278_0 := Aside0.mk (show Kd.R (Kd.int .i64) 3 _ _ _ _ (rd_L1 t268 x5_1) from ge278_0)
                                        clear hv278_0 ge278_0
                                        clear hcc278 hce278
                                        have HR278_0 := Aside0.mk hi278_0
                                        have HC278_0 := Aside0.mk hl278_0
                                        clear hi278_0 hl278_0
                                        replace p278 := eq_true p278
                                        replace q278 := eq_true q278
                                        have p279 : 0 ≤ (x6_2 : Int) := of_decide_eq_true (by first | (with_reducible assumption) | assumption)
                                        have q279 : x6_2 < ((rd_L1 t268 x5_1).length : Int) := of_decide_eq_true (by first | (with_reducible assumption) | assumption)
                                        obtain ⟨ad279, e279, hx279_0⟩ := Kd.at_int (by repeat (first | (with_reducible exact HR278_0.out) | (with_reducible refine Kd.C_alloc ?_ _) | (with_reducible refine Kd.C_drewN ?_ _) | (with_reducible refine Kd.C_drew ?_) | exact HR278_0.out)) x6_2 p279 q279
                                        cases e279
                                        replace p279 := eq_true p279
                                        replace q279 := eq_true q279
                                        have p280 : 0 ≤ (x5_1 : Int) := of_decide_eq_true (by first | (with_reducible assumption) | assumption)
                                        have q280 : x5_1 < (t268.length : Int) := of_decide_eq_true (by first | (with_reducible assumption) | assumption)
                                        obtain ⟨ad280, A280_0, c280_0, e280, hx280_0, hl280_0, hi280_0⟩ := at_L1 (Kd.S_reads' HO_4.out).2.2 x5_1 p280 q280
                                        obtain rfl : ad278 = ad280 := (by injection e280)
                                        obtain ⟨ce280, hce280, hMe280, hcc280⟩ := Kd.S_get HO_4.out [] x5_1 p280 (by first | exact q280 | exact of_decide_eq_true (by first | (with_reducible assumption) | assumption) | (have e_ := (Kd.S_reads' HO_4.out).1; omega))
                                        obtain ⟨ve280_0, rfl, ge280_0⟩ := hMe280
                                        have hv280_0 := hcc280 0 _ rfl
                                        rw [Nat.add_zero, show ((Kd.slice 3 (Kd.int .i64))).sz = 1 from rfl, Nat.mul_one] at hv280_0
                                        replace hv280_0 := Option.some.inj (hv280_0.symm.trans hx280_0)
                                        rw [hv280_0] at ge280_0
                                        have HL280_0 := Aside0.mk (show Kd.R (Kd.int .i64) 3 _ _ _ _ (rd_L1 t268 x5_1) from ge280_0)
                                        clear hv280_0 ge280_0
                                        clear hcc280 hce280
                                        have HR280_0 := Aside0.mk hi280_0
                                        have HC280_0 := Aside0.mk hl280_0
                                        clear hi280_0 hl280_0
                                        replace p280 := eq_true p280
                                        replace q280 := eq_true q280
                                        have ea_ := Option.some.inj (hx278_0.symm.trans hx280_0)
                                        injection ea_ with ea_ en_ ec_
                                        subst ea_
                                        subst ec_
                                        clear en_
                                        have p281 : 0 ≤ (x6_2 : Int) := of_decide_eq_true (by first | (with_reducible assumption) | assumption)
                                        have q281 : x6_2 < ((rd_L1 t268 x5_1).length : Int) := of_decide_eq_true (by first | (with_reducible assumption) | assumption)
                                        obtain ⟨ad281, e281, hx281_0⟩ := Kd.at_int (by repeat (first | (with_reducible exact HR280_0.out) | (with_reducible refine Kd.C_alloc ?_ _) | (with_reducible refine Kd.C_drewN ?_ _) | (with_reducible refine Kd.C_drew ?_) | exact HR280_0.out)) x6_2 p281 q281
                                        cases e281
                                        replace p281 := eq_true p281
                                        replace q281 := eq_true q281
                                        have p282 : 0 ≤ (x5_1 : Int) := of_decide_eq_true (by first | (with_reducible assumption) | assumption)
                                        have q282 : x5_1 < (t265.length : Int) := of_decide_eq_true (by first | (with_reducible assumption) | assumption)
                                        obtain ⟨ad282, A282_0, c282_0, e282, hx282_0, hl282_0, hi282_0⟩ := at_L1 (Kd.S_reads' HO_3.out).2.2 x5_1 p282 q282
                                        obtain rfl : ad276 = ad282 := (by injection e282)
                                        obtain ⟨ce282, hce282, hMe282, hcc282⟩ := Kd.S_get HO_3.out [] x5_1 p282 (by first | exact q282 | exact of_decide_eq_true (by first | (with_reducible assumption) | assumption) | (have e_ := (Kd.S_reads' HO_3.out).1; omega))
                                        obtain ⟨ve282_0, rfl, ge282_0⟩ := hMe282
                                        have hv282_0 := hcc282 0 _ rfl
                                        rw [Nat.add_zero, show ((Kd.slice 3 (Kd.int .i64))).sz = 1 from rfl, Nat.mul_one] at hv282_0
                                        replace hv282_0 := Option.some.inj (hv282_0.symm.trans hx282_0)
                                        rw [hv282_0] at ge282_0
                                        have HL282_0 := Aside0.mk (show Kd.R (Kd.int .i64) 3 _ _ _ _ (rd_L1 t265 x5_1) from ge282_0)
                                        clear hv282_0 ge282_0
                                        clear hcc282 hce282
                                        have HR282_0 := Aside0.mk hi282_0
                                        have HC282_0 := Aside0.mk hl282_0
                                        clear hi282_0 hl282_0
                                        replace p282 := eq_true p282
                                        replace q282 := eq_true q282
                                        have ea_ := Option.some.inj (hx276_0.symm.trans hx282_0)
                                        injection ea_ with ea_ en_ ec_
                                        subst ea_
                                        subst ec_
                                        clear en_
                                        have p283 : 0 ≤ (x6_2 : Int) := of_decide_eq_true (by first | (with_reducible assumption) | assumption)
                                        have q283 : x6_2 < ((rd_L1 t265 x5_1).length : Int) := of_decide_eq_true (by first | (with_reducible assumption) | assumption)
                                        obtain ⟨ad283, e283, hx283_0⟩ := Kd.at_int (by repeat (first | (with_reducible exact HR282_0.out) | (with_reducible refine Kd.C_alloc ?_ _) | (with_reducible refine Kd.C_drewN ?_ _) | (with_reducible refine Kd.C_drew ?_) | exact HR282_0.out)) x6_2 p283 q283
                                        cases e283
                                        replace p283 := eq_true p283
                                        replace q283 := eq_true q283
                                        go_wp2
                                        (try dsimp only [List.append])
                                        repeat (go_quiet (fail); try go_wp2)
                                        go_meet
                                        case rel => exact ⟨_, (true), (by first | rfl | (simp; done) | (simp [*]; done)), H', ⟨by have := HK1.out; have := HK2.out; first | omega | exact Nat.le_refl _⟩, ⟨by (with_reducible repeat (first | apply Kd.S_alloc | apply Kd.S_drewN | apply Kd.S_drew)); exact HO_3.out⟩, ⟨by (with_reducible repeat (first | apply Kd.S_alloc | apply Kd.S_drewN | apply Kd.S_drew)); exact HO_4.out⟩, ⟨by repeat (first | (with_reducible first | exact HB.out | apply below_alloc | apply pw_below_drewN | apply below_drew1) | exact HB.out)⟩⟩
                                      · rw [if_neg c32] at H
                                        have c32b0 : decide ((rd (rd_L1 t265 x5_1) x6_2) < (rd (rd_L1 t268 x5_1) x6_2)) = false := decide_eq_false c32
                                        clear c32
                                        by_cases c34 : (wrap64 ((rd (rd_L1 t265 x5_1) x6_2) - (rd (rd_L1 t268 x5_1) x6_2))) = t274
                                        · rw [if_pos c34] at H
                                          have c34b0 : ((wrap64 ((rd (rd_L1 t265 x5_1) x6_2) - (rd (rd_L1 t268 x5_1) x6_2))) == t274) = true := beq_iff_eq.mpr c34
                                          have c34b1 : ((wrap64 ((rd (rd_L1 t265 x5_1) x6_2) - (rd (rd_L1 t268 x5_1) x6_2))) != t274) = false := bne_eq_false_iff_eq.mpr c34
                                          clear c34
                                          by_cases c35 : t275 = x5_1
                                          · rw [if_pos c35] at H
                                            have c35b0 : (t275 == x5_1) = true := beq_iff_eq.mpr c35
                                            have c35b1 : (t275 != x5_1) = false := bne_eq_false_iff_eq.mpr c35
                                            clear c35
                                            by_cases c36 : x5_1 ≥ 0
                                            · rw [if_pos c36] at H
                                              have c36b0 : decide (0 ≤ x5_1) = true := decide_eq_true c36
                                              clear c36
                                              by_cases c37 : t275 ≥ 0
                                              · rw [if_pos c37] at H
                                                have c37b0 : decide (0 ≤ t275) = true := decide_eq_true c37
                                                clear c37
                                                have H' := Aside0.mk H
                                                clear H
                                                have p276 : 0 ≤ (x5_1 : Int) := of_decide_eq_true (by first | (with_reducible assumption) | assumption)
                                                have q276 : x5_1 < (t265.length : Int) := of_decide_eq_true (by first | (with_reducible assumption) | assumption)
                                                obtain ⟨ad276, A276_0, c276_0, e276, hx276_0, hl276_0, hi276_0⟩ := at_L1 (Kd.S_reads' HO_3.out).2.2 x5_1 p276 q276
                                                cases e276
                                                obtain ⟨ce276, hce276, hMe276, hcc276⟩ := Kd.S_get HO_3.out [] x5_1 p276 (by first | exact q276 | exact of_decide_eq_true (by first | (with_reducible assumption) | assumption) | (have e_ := (Kd.S_reads' HO_3.out).1; omega))
                                                obtain ⟨ve276_0, rfl, ge276_0⟩ := hMe276
                                                have hv276_0 := hcc276 0 _ rfl
                                                rw [Nat.add_zero, show ((Kd.slice 3 (Kd.int .i64))).sz = 1 from rfl, Nat.mul_one] at hv276_0
                                                replace hv276_0 := Option.some.inj (hv276_0.symm.trans hx276_0)
                                                rw [hv276_0] at ge276_0
                                                have HL276_0 := Aside0.mk (show Kd.R (Kd.int .i64) 3 _ _ _ _ (rd_L1 t265 x5_1) from ge276_0)
                                                clear hv276_0 ge276_0
                                                clear hcc276 hce276
                                                have HR276_0 := Aside0.mk hi276_0
                                                have HC276_0 := Aside0.mk hl276_0
                                                clear hi276_0 hl276_0
                                                replace p276 := eq_true p276
                                                replace q276 := eq_true q276
                                                have p277 : 0 ≤ (x6_2 : Int) := of_decide_eq_true (by first | (with_reducible assumption) | assumption)
                                                have q277 : x6_2 < ((rd_L1 t265 x5_1).length : Int) := of_decide_eq_true (by first | (with_reducible assumption) | assumption)
                                                obtain ⟨ad277, e277, hx277_0⟩ := Kd.at_int (by repeat (first | (with_reducible exact HR276_0.out) | (with_reducible refine Kd.C_alloc ?_ _) | (with_reducible refine Kd.C_drewN ?_ _) | (with_reducible refine Kd.C_drew ?_) | exact HR276_0.out)) x6_2 p277 q277
                                                cases e277
                                                replace p277 := eq_true p277
                                                replace q277 := eq_true q277
                                                obtain ⟨Ao38, co38, eo38⟩ := Kd.S_slice HO_4.out
                                                subst eo38
                                                have p278 : 0 ≤ (x5_1 : Int) := of_decide_eq_true (by first | (with_reducible assumption) | assumption)
                                                have q278 : x5_1 < (t268.length : Int) := of_decide_eq_true (by first | (with_reducible assumption) | assumption)
                                                obtain ⟨ad278, A278_0, c278_0, e278, hx278_0, hl278_0, hi278_0⟩ := at_L1 (Kd.S_reads' HO_4.out).2.2 x5_1 p278 q278
                                                cases e278
                                                obtain ⟨ce278, hce278, hMe278, hcc278⟩ := Kd.S_get HO_4.out [] x5_1 p278 (by first | exact q278 | exact of_decide_eq_true (by first | (with_reducible assumption) | assumption) | (have e_ := (Kd.S_reads' HO_4.out).1; omega))
                                                obtain ⟨ve278_0, rfl, ge278_0⟩ := hMe278
                                                have hv278_0 := hcc278 0 _ rfl
                                                rw [Nat.add_zero, show ((Kd.slice 3 (Kd.int .i64))).sz = 1 from rfl, Nat.mul_one] at hv278_0
                                                replace hv278_0 := Option.some.inj (hv278_0.symm.trans hx278_0)
                                                rw [hv278_0] at ge278_0
                                                have HL278_0 := Aside0.mk (show Kd.R (Kd.int .i64) 3 _ _ _ _ (rd_L1 t268 x5_1) from ge278_0)
                                                clear hv278_0 ge278_0
                                                clear hcc278 hce278
                                                have HR278_0 := Aside0.mk hi278_0
                                                have HC278_0 := Aside0.mk hl278_0
                                                clear hi278_0 hl278_0
                                                replace p278 := eq_true p278
                                                replace q278 := eq_true q278
                                                have p279 : 0 ≤ (x6_2 : Int) := of_decide_eq_true (by first | (with_reducible assumption) | assumption)
                                                have q279 : x6_2 < ((rd_L1 t268 x5_1).length : Int) := of_decide_eq_true (by first | (with_reducible assumption) | assumption)
                                                obtain ⟨ad279, e279, hx279_0⟩ := Kd.at_int (by repeat (first | (with_reducible exact HR278_0.out) | (with_reducible refine Kd.C_alloc ?_ _) | (with_reducible refine Kd.C_drewN ?_ _) | (with_reducible refine Kd.C_drew ?_) | exact HR278_0.out)) x6_2 p279 q279
                                                cases e279
                                                replace p279 := eq_true p279
                                                replace q279 := eq_true q279
                                                have p280 : 0 ≤ (x5_1 : Int) := of_decide_eq_true (by first | (with_reducible assumption) | assumption)
                                                have q280 : x5_1 < (t268.length : Int) := of_decide_eq_true (by first | (with_reducible assumption) | assumption)
                                                obtain ⟨ad280, A280_0, c280_0, e280, hx280_0, hl280_0, hi280_0⟩ := at_L1 (Kd.S_reads' HO_4.out).2.2 x5_1 p280 q280
                                                obtain rfl : ad278 = ad280 := (by injection e280)
                                                obtain ⟨ce280, hce280, hMe280, hcc280⟩ := Kd.S_get HO_4.out [] x5_1 p280 (by first | exact q280 | exact of_decide_eq_true (by first | (with_reducible assumption) | assumption) | (have e_ := (Kd.S_reads' HO_4.out).1; omega))
                                                obtain ⟨ve280_0, rfl, ge280_0⟩ := hMe280
                                                have hv280_0 := hcc280 0 _ rfl
                                                rw [Nat.add_zero, show ((Kd.slice 3 (Kd.int .i64))).sz = 1 from rfl, Nat.mul_one] at hv280_0
                                                replace hv280_0 := Option.some.inj (hv280_0.symm.trans hx280_0)
                                                rw [hv280_0] at ge280_0
                                                have HL280_0 := Aside0.mk (show Kd.R (Kd.int .i64) 3 _ _ _ _ (rd_L1 t268 x5_1) from ge280_0)
                                                clear hv280_0 ge280_0
                                                clear hcc280 hce280
                                                have HR280_0 := Aside0.mk hi280_0
                                                have HC280_0 := Aside0.mk hl280_0
                                                clear hi280_0 hl280_0
                                                replace p280 := eq_true p280
                                                replace q280 := eq_true q280
                                                have ea_ := Option.some.inj (hx278_0.symm.trans hx280_0)
                                                injection ea_ with ea_ en_ ec_
                                                subst ea_
                                                subst ec_
                                                clear en_
                                                have p281 : 0 ≤ (x6_2 : Int) := of_decide_eq_true (by first | (with_reducible assumption) | assumption)
                                                have q281 : x6_2 < ((rd_L1 t268 x5_1).length : Int) := of_decide_eq_true (by first | (with_reducible assumption) | assumption)
                                                obtain ⟨ad281, e281, hx281_0⟩ := Kd.at_int (by repeat (first | (with_reducible exact HR280_0.out) | (with_reducible refine Kd.C_alloc ?_ _) | (with_reducible refine Kd.C_drewN ?_ _) | (with_reducible refine Kd.C_drew ?_) | exact HR280_0.out)) x6_2 p281 q281
                                                cases e281
                                                replace p281 := eq_true p281
                                                replace q281 := eq_true q281
                                                have p282 : 0 ≤ (x5_1 : Int) := of_decide_eq_true (by first | (with_reducible assumption) | assumption)
                                                have q282 : x5_1 < (t265.length : Int) := of_decide_eq_true (by first | (with_reducible assumption) | assumption)
                                                obtain ⟨ad282, A282_0, c282_0, e282, hx282_0, hl282_0, hi282_0⟩ := at_L1 (Kd.S_reads' HO_3.out).2.2 x5_1 p282 q282
                                                obtain rfl : ad276 = ad282 := (by injection e282)
                                                obtain ⟨ce282, hce282, hMe282, hcc282⟩ := Kd.S_get HO_3.out [] x5_1 p282 (by first | exact q282 | exact of_decide_eq_true (by first | (with_reducible assumption) | assumption) | (have e_ := (Kd.S_reads' HO_3.out).1; omega))
                                                obtain ⟨ve282_0, rfl, ge282_0⟩ := hMe282
                                                have hv282_0 := hcc282 0 _ rfl
                                                rw [Nat.add_zero, show ((Kd.slice 3 (Kd.int .i64))).sz = 1 from rfl, Nat.mul_one] at hv282_0
                                                replace hv282_0 := Option.some.inj (hv282_0.symm.trans hx282_0)
                                                rw [hv282_0] at ge282_0
                                                have HL282_0 := Aside0.mk (show Kd.R (Kd.int .i64) 3 _ _ _ _ (rd_L1 t265 x5_1) from ge282_0)
                                                clear hv282_0 ge282_0
                                                clear hcc282 hce282
                                                have HR282_0 := Aside0.mk hi282_0
                                                have HC282_0 := Aside0.mk hl282_0
                                                clear hi282_0 hl282_0
                                                replace p282 := eq_true p282
                                                replace q282 := eq_true q282
                                                have ea_ := Option.some.inj (hx276_0.symm.trans hx282_0)
                                                injection ea_ with ea_ en_ ec_
                                                subst ea_
                                                subst ec_
                                                clear en_
                                                have p283 : 0 ≤ (x6_2 : Int) := of_decide_eq_true (by first | (with_reducible assumption) | assumption)
                                                have q283 : x6_2 < ((rd_L1 t265 x5_1).length : Int) := of_decide_eq_true (by first | (with_reducible assumption) | assumption)
                                                obtain ⟨ad283, e283, hx283_0⟩ := Kd.at_int (by repeat (first | (with_reducible exact HR282_0.out) | (with_reducible refine Kd.C_alloc ?_ _) | (with_reducible refine Kd.C_drewN ?_ _) | (with_reducible refine Kd.C_drew ?_) | exact HR282_0.out)) x6_2 p283 q283
                                                cases e283
                                                replace p283 := eq_true p283
                                                replace q283 := eq_true q283
                                                have p284 : 0 ≤ (x5_1 : Int) := of_decide_eq_true (by first | (with_reducible assumption) | assumption)
                                                have q284 : x5_1 < (t265.length : Int) := of_decide_eq_true (by first | (with_reducible assumption) | assumption)
                                                obtain ⟨ad284, A284_0, c284_0, e284, hx284_0, hl284_0, hi284_0⟩ := at_L1 (Kd.S_reads' HO_3.out).2.2 x5_1 p284 q284
                                                obtain rfl : ad276 = ad284 := (by injection e284)
                                                obtain ⟨ce284, hce284, hMe284, hcc284⟩ := Kd.S_get HO_3.out [] x5_1 p284 (by first | exact q284 | exact of_decide_eq_true (by first | (with_reducible assumption) | assumption) | (have e_ := (Kd.S_reads' HO_3.out).1; omega))
                                                obtain ⟨ve284_0, rfl, ge284_0⟩ := hMe284
                                                have hv284_0 := hcc284 0 _ rfl
                                                rw [Nat.add_zero, show ((Kd.slice 3 (Kd.int .i64))).sz = 1 from rfl, Nat.mul_one] at hv284_0
                                                replace hv284_0 := Option.some.inj (hv284_0.symm.trans hx284_0)
                                                rw [hv284_0] at ge284_0
                                                have HL284_0 := Aside0.mk (show Kd.R (Kd.int .i64) 3 _ _ _ _ (rd_L1 t265 x5_1) from ge284_0)
                                                clear hv284_0 ge284_0
                                                clear hcc284 hce284
                                                have HR284_0 := Aside0.mk hi284_0
                                                have HC284_0 := Aside0.mk hl284_0
                                                clear hi284_0 hl284_0
                                                replace p284 := eq_true p284
                                                replace q284 := eq_true q284
                                                have ea_ := Option.some.inj (hx276_0.symm.trans hx284_0)
                                                injection ea_ with ea_ en_ ec_
                                                subst ea_
                                                subst ec_
                                                clear en_
                                                have p285 : 0 ≤ (x6_2 : Int) := of_decide_eq_true (by first | (with_reducible assumption) | assumption)
                                                have q285 : x6_2 < ((rd_L1 t265 x5_1).length : Int) := of_decide_eq_true (by first | (with_reducible assumption) | assumption)
                                                obtain ⟨ad285, e285, hx285_0⟩ := Kd.at_int (by repeat (first | (with_reducible exact HR284_0.out) | (with_reducible refine Kd.C_alloc ?_ _) | (with_reducible refine Kd.C_drewN ?_ _) | (with_reducible refine Kd.C_drew ?_) | exact HR284_0.out)) x6_2 p285 q285
                                                cases e285
                                                replace p285 := eq_true p285
                                                replace q285 := eq_true q285
                                                have p286 : 0 ≤ (x5_1 : Int) := of_decide_eq_true (by first | (with_reducible assumption) | assumption)
                                                have q286 : x5_1 < (t268.length : Int) := of_decide_eq_true (by first | (with_reducible assumption) | assumption)
                                                obtain ⟨ad286, A286_0, c286_0, e286, hx286_0, hl286_0, hi286_0⟩ := at_L1 (Kd.S_reads' HO_4.out).2.2 x5_1 p286 q286
                                                obtain rfl : ad278 = ad286 := (by injection e286)
                                                obtain ⟨ce286, hce286, hMe286, hcc286⟩ := Kd.S_get HO_4.out [] x5_1 p286 (by first | exact q286 | exact of_decide_eq_true (by first | (with_reducible assumption) | assumption) | (have e_ := (Kd.S_reads' HO_4.out).1; omega))
                                                obtain ⟨ve286_0, rfl, ge286_0⟩ := hMe286
                                                have hv286_0 := hcc286 0 _ rfl
                                                rw [Nat.add_zero, show ((Kd.slice 3 (Kd.int .i64))).sz = 1 from rfl, Nat.mul_one] at hv286_0
                                                replace hv286_0 := Option.some.inj (hv286_0.symm.trans hx286_0)
                                                rw [hv286_0] at ge286_0
                                                have HL286_0 := Aside0.mk (show Kd.R (Kd.int .i64) 3 _ _ _ _ (rd_L1 t268 x5_1) from ge286_0)
                                                clear hv286_0 ge286_0
                                                clear hcc286 hce286
                                                have HR286_0 := Aside0.mk hi286_0
                                                have HC286_0 := Aside0.mk hl286_0
                                                clear hi286_0 hl286_0
                                                replace p286 := eq_true p286
                                                replace q286 := eq_true q286
                                                have ea_ := Option.some.inj (hx278_0.symm.trans hx286_0)
                                                injection ea_ with ea_ en_ ec_
                                                subst ea_
                                                subst ec_
                                                clear en_
                                                have p287 : 0 ≤ (x6_2 : Int) := of_decide_eq_true (by first | (with_reducible assumption) | assumption)
                                                have q287 : x6_2 < ((rd_L1 t268 x5_1).length : Int) := of_decide_eq_true (by first | (with_reducible assumption) | assumption)
                                                obtain ⟨ad287, e287, hx287_0⟩ := Kd.at_int (by repeat (first | (with_reducible exact HR286_0.out) | (with_reducible refine Kd.C_alloc ?_ _) | (with_reducible refine Kd.C_drewN ?_ _) | (with_reducible refine Kd.C_drew ?_) | exact HR286_0.out)) x6_2 p287 q287
                                                cases e287
                                                replace p287 := eq_true p287
                                                replace q287 := eq_true q287
                                                go_wp2
                                                (try dsimp only [List.append])
                                                repeat (go_quiet (fail); try go_wp2)
                                                go_meet
                                                case rel => exact ⟨_, (true), (by first | rfl | (simp; done) | (simp [*]; done)), H', ⟨by have := HK1.out; have := HK2.out; first | omega | exact Nat.le_refl _⟩, ⟨by (with_reducible repeat (first | apply Kd.S_alloc | apply Kd.S_drewN | apply Kd.S_drew)); exact HO_3.out⟩, ⟨by (with_reducible repeat (first | apply Kd.S_alloc | apply Kd.S_drewN | apply Kd.S_drew)); exact HO_4.out⟩, ⟨by repeat (first | (with_reducible first | exact HB.out | apply below_alloc | apply pw_below_drewN | apply below_drew1) | exact HB.out)⟩⟩
                                              · rw [if_neg c37] at H
                                                have c37b0 : decide (0 ≤ t275) = false := decide_eq_false c37
                                                clear c37
                                                have H' := Aside0.mk H
                                                clear H
                                                have p276 : 0 ≤ (x5_1 : Int) := of_decide_eq_true (by first | (with_reducible assumption) | assumption)
                                                have q276 : x5_1 < (t265.length : Int) := of_decide_eq_true (by first | (with_reducible assumption) | assumption)
                                                obtain ⟨ad276, A276_0, c276_0, e276, hx276_0, hl276_0, hi276_0⟩ := at_L1 (Kd.S_reads' HO_3.out).2.2 x5_1 p276 q276
                                                cases e276
                                                obtain ⟨ce276, hce276, hMe276, hcc276⟩ := Kd.S_get HO_3.out [] x5_1 p276 (by first | exact q276 | exact of_decide_eq_true (by first | (with_reducible assumption) | assumption) | (have e_ := (Kd.S_reads' HO_3.out).1; omega))
                                                obtain ⟨ve276_0, rfl, ge276_0⟩ := hMe276
                                                have hv276_0 := hcc276 0 _ rfl
                                                rw [Nat.add_zero, show ((Kd.slice 3 (Kd.int .i64))).sz = 1 from rfl, Nat.mul_one] at hv276_0
                                                replace hv276_0 := Option.some.inj (hv276_0.symm.trans hx276_0)
                                                rw [hv276_0] at ge276_0
                                                have HL276_0 := Aside0.mk (show Kd.R (Kd.int .i64) 3 _ _ _ _ (rd_L1 t265 x5_1) from ge276_0)
                                                clear hv276_0 ge276_0
                                                clear hcc276 hce276
                                                have HR276_0 := Aside0.mk hi276_0
                                                have HC276_0 := Aside0.mk hl276_0
                                                clear hi276_0 hl276_0
                                                replace p276 := eq_true p276
                                                replace q276 := eq_true q276
                                                have p277 : 0 ≤ (x6_2 : Int) := of_decide_eq_true (by first | (with_reducible assumption) | assumption)
                                                have q277 : x6_2 < ((rd_L1 t265 x5_1).length : Int) := of_decide_eq_true (by first | (with_reducible assumption) | assumption)
                                                obtain ⟨ad277, e277, hx277_0⟩ := Kd.at_int (by repeat (first | (with_reducible exact HR276_0.out) | (with_reducible refine Kd.C_alloc ?_ _) | (with_reducible refine Kd.C_drewN ?_ _) | (with_reducible refine Kd.C_drew ?_) | exact HR276_0.out)) x6_2 p277 q277
                                                cases e277
                                                replace p277 := eq_true p277
                                                replace q277 := eq_true q277
                                                obtain ⟨Ao39, co39, eo39⟩ := Kd.S_slice HO_4.out
                                                subst eo39
                                                have p278 : 0 ≤ (x5_1 : Int) := of_decide_eq_true (by first | (with_reducible assumption) | assumption)
                                                have q278 : x5_1 < (t268.length : Int) := of_decide_eq_true (by first | (with_reducible assumption) | assumption)
                                                obtain ⟨ad278, A278_0, c278_0, e278, hx278_0, hl278_0, hi278_0⟩ := at_L1 (Kd.S_reads' HO_4.out).2.2 x5_1 p278 q278
                                                cases e278
                                                obtain ⟨ce278, hce278, hMe278, hcc278⟩ := Kd.S_get HO_4.out [] x5_1 p278 (by first | exact q278 | exact of_decide_eq_true (by first | (with_reducible assumption) | assumption) | (have e_ := (Kd.S_reads' HO_4.out).1; omega))
                                                obtain ⟨ve278_0, rfl, ge278_0⟩ := hMe278
                                                have hv278_0 := hcc278 0 _ rfl
                                                rw [Nat.add_zero, show ((Kd.slice 3 (Kd.int .i64))).sz = 1 from rfl, Nat.mul_one] at hv278_0
                                                replace hv278_0 := Option.some.inj (hv278_0.symm.trans hx278_0)
                                                rw [hv278_0] at ge278_0
                                                have HL278_0 := Aside0.mk (show Kd.R (Kd.int .i64) 3 _ _ _ _ (rd_L1 t268 x5_1) from ge278_0)
                                                clear hv278_0 ge278_0
                                                clear hcc278 hce278
                                                have HR278_0 := Aside0.mk hi278_0
                                                have HC278_0 := Aside0.mk hl278_0
                                                clear hi278_0 hl278_0
                                                replace p278 := eq_true p278
                                                replace q278 := eq_true q278
                                                have p279 : 0 ≤ (x6_2 : Int) := of_decide_eq_true (by first | (with_reducible assumption) | assumption)
                                                have q279 : x6_2 < ((rd_L1 t268 x5_1).length : Int) := of_decide_eq_true (by first | (with_reducible assumption) | assumption)
                                                obtain ⟨ad279, e279, hx279_0⟩ := Kd.at_int (by repeat (first | (with_reducible exact HR278_0.out) | (with_reducible refine Kd.C_alloc ?_ _) | (with_reducible refine Kd.C_drewN ?_ _) | (with_reducible refine Kd.C_drew ?_) | exact HR278_0.out)) x6_2 p279 q279
                                                cases e279
                                                replace p279 := eq_true p279
                                                replace q279 := eq_true q279
                                                have p280 : 0 ≤ (x5_1 : Int) := of_decide_eq_true (by first | (with_reducible assumption) | assumption)
                                                have q280 : x5_1 < (t268.length : Int) := of_decide_eq_true (by first | (with_reducible assumption) | assumption)
                                                obtain ⟨ad280, A280_0, c280_0, e280, hx280_0, hl280_0, hi280_0⟩ := at_L1 (Kd.S_reads' HO_4.out).2.2 x5_1 p280 q280
                                                obtain rfl : ad278 = ad280 := (by injection e280)
                                                obtain ⟨ce280, hce280, hMe280, hcc280⟩ := Kd.S_get HO_4.out [] x5_1 p280 (by first | exact q280 | exact of_decide_eq_true (by first | (with_reducible assumption) | assumption) | (have e_ := (Kd.S_reads' HO_4.out).1; omega))
                                                obtain ⟨ve280_0, rfl, ge280_0⟩ := hMe280
                                                have hv280_0 := hcc280 0 _ rfl
                                                rw [Nat.add_zero, show ((Kd.slice 3 (Kd.int .i64))).sz = 1 from rfl, Nat.mul_one] at hv280_0
                                                replace hv280_0 := Option.some.inj (hv280_0.symm.trans hx280_0)
                                                rw [hv280_0] at ge280_0
                                                have HL280_0 := Aside0.mk (show Kd.R (Kd.int .i64) 3 _ _ _ _ (rd_L1 t268 x5_1) from ge280_0)
                                                clear hv280_0 ge280_0
                                                clear hcc280 hce280
                                                have HR280_0 := Aside0.mk hi280_0
                                                have HC280_0 := Aside0.mk hl280_0
                                                clear hi280_0 hl280_0
                                                replace p280 := eq_true p280
                                                replace q280 := eq_true q280
                                                have ea_ := Option.some.inj (hx278_0.symm.trans hx280_0)
                                                injection ea_ with ea_ en_ ec_
                                                subst ea_
                                                subst ec_
                                                clear en_
                                                have p281 : 0 ≤ (x6_2 : Int) := of_decide_eq_true (by first | (with_reducible assumption) | assumption)
                                                have q281 : x6_2 < ((rd_L1 t268 x5_1).length : Int) := of_decide_eq_true (by first | (with_reducible assumption) | assumption)
                                                obtain ⟨ad281, e281, hx281_0⟩ := Kd.at_int (by repeat (first | (with_reducible exact HR280_0.out) | (with_reducible refine Kd.C_alloc ?_ _) | (with_reducible refine Kd.C_drewN ?_ _) | (with_reducible refine Kd.C_drew ?_) | exact HR280_0.out)) x6_2 p281 q281
                                                cases e281
                                                replace p281 := eq_true p281
                                                replace q281 := eq_true q281
                                                have p282 : 0 ≤ (x5_1 : Int) := of_decide_eq_true (by first | (with_reducible assumption) | assumption)
                                                have q282 : x5_1 < (t265.length : Int) := of_decide_eq_true (by first | (with_reducible assumption) | assumption)
                                                obtain ⟨ad282, A282_0, c282_0, e282, hx282_0, hl282_0, hi282_0⟩ := at_L1 (Kd.S_reads' HO_3.out).2.2 x5_1 p282 q282
                                                obtain rfl : ad276 = ad282 := (by injection e282)
                                                obtain ⟨ce282, hce282, hMe282, hcc282⟩ := Kd.S_get HO_3.out [] x5_1 p282 (by first | exact q282 | exact of_decide_eq_true (by first | (with_reducible assumption) | assumption) | (have e_ := (Kd.S_reads' HO_3.out).1; omega))
                                                obtain ⟨ve282_0, rfl, ge282_0⟩ := hMe282
                                                have hv282_0 := hcc282 0 _ rfl
                                                rw [Nat.add_zero, show ((Kd.slice 3 (Kd.int .i64))).sz = 1 from rfl, Nat.mul_one] at hv282_0
                                                replace hv282_0 := Option.some.inj (hv282_0.symm.trans hx282_0)
                                                rw [hv282_0] at ge282_0
                                                have HL282_0 := Aside0.mk (show Kd.R (Kd.int .i64) 3 _ _ _ _ (rd_L1 t265 x5_1) from ge282_0)
                                                clear hv282_0 ge282_0
                                                clear hcc282 hce282
                                                have HR282_0 := Aside0.mk hi282_0
                                                have HC282_0 := Aside0.mk hl282_0
                                                clear hi282_0 hl282_0
                                                replace p282 := eq_true p282
                                                replace q282 := eq_true q282
                                                have ea_ := Option.some.inj (hx276_0.symm.trans hx282_0)
                                                injection ea_ with ea_ en_ ec_
                                                subst ea_
                                                subst ec_
                                                clear en_
                                                have p283 : 0 ≤ (x6_2 : Int) := of_decide_eq_true (by first | (with_reducible assumption) | assumption)
                                                have q283 : x6_2 < ((rd_L1 t265 x5_1).length : Int) := of_decide_eq_true (by first | (with_reducible assumption) | assumption)
                                                obtain ⟨ad283, e283, hx283_0⟩ := Kd.at_int (by repeat (first | (with_reducible exact HR282_0.out) | (with_reducible refine Kd.C_alloc ?_ _) | (with_reducible refine Kd.C_drewN ?_ _) | (with_reducible refine Kd.C_drew ?_) | exact HR282_0.out)) x6_2 p283 q283
                                                cases e283
                                                replace p283 := eq_true p283
                                                replace q283 := eq_true q283
                                                have p284 : 0 ≤ (x5_1 : Int) := of_decide_eq_true (by first | (with_reducible assumption) | assumption)
                                                have q284 : x5_1 < (t265.length : Int) := of_decide_eq_true (by first | (with_reducible assumption) | assumption)
                                                obtain ⟨ad284, A284_0, c284_0, e284, hx284_0, hl284_0, hi284_0⟩ := at_L1 (Kd.S_reads' HO_3.out).2.2 x5_1 p284 q284
                                                obtain rfl : ad276 = ad284 := (by injection e284)
                                                obtain ⟨ce284, hce284, hMe284, hcc284⟩ := Kd.S_get HO_3.out [] x5_1 p284 (by first | exact q284 | exact of_decide_eq_true (by first | (with_reducible assumption) | assumption) | (have e_ := (Kd.S_reads' HO_3.out).1; omega))
                                                obtain ⟨ve284_0, rfl, ge284_0⟩ := hMe284
                                                have hv284_0 := hcc284 0 _ rfl
                                                rw [Nat.add_zero, show ((Kd.slice 3 (Kd.int .i64))).sz = 1 from rfl, Nat.mul_one] at hv284_0
                                                replace hv284_0 := Option.some.inj (hv284_0.symm.trans hx284_0)
                                                rw [hv284_0] at ge284_0
                                                have HL284_0 := Aside0.mk (show Kd.R (Kd.int .i64) 3 _ _ _ _ (rd_L1 t265 x5_1) from ge284_0)
                                                clear hv284_0 ge284_0
                                                clear hcc284 hce284
                                                have HR284_0 := Aside0.mk hi284_0
                                                have HC284_0 := Aside0.mk hl284_0
                                                clear hi284_0 hl284_0
                                                replace p284 := eq_true p284
                                                replace q284 := eq_true q284
                                                have ea_ := Option.some.inj (hx276_0.symm.trans hx284_0)
                                                injection ea_ with ea_ en_ ec_
                                                subst ea_
                                                subst ec_
                                                clear en_
                                                have p285 : 0 ≤ (x6_2 : Int) := of_decide_eq_true (by first | (with_reducible assumption) | assumption)
                                                have q285 : x6_2 < ((rd_L1 t265 x5_1).length : Int) := of_decide_eq_true (by first | (with_reducible assumption) | assumption)
                                                obtain ⟨ad285, e285, hx285_0⟩ := Kd.at_int (by repeat (first | (with_reducible exact HR284_0.out) | (with_reducible refine Kd.C_alloc ?_ _) | (with_reducible refine Kd.C_drewN ?_ _) | (with_reducible refine Kd.C_drew ?_) | exact HR284_0.out)) x6_2 p285 q285
                                                cases e285
                                                replace p285 := eq_true p285
                                                replace q285 := eq_true q285
                                                have p286 : 0 ≤ (x5_1 : Int) := of_decide_eq_true (by first | (with_reducible assumption) | assumption)
                                                have q286 : x5_1 < (t268.length : Int) := of_decide_eq_true (by first | (with_reducible assumption) | assumption)
                                                obtain ⟨ad286, A286_0, c286_0, e286, hx286_0, hl286_0, hi286_0⟩ := at_L1 (Kd.S_reads' HO_4.out).2.2 x5_1 p286 q286
                                                obtain rfl : ad278 = ad286 := (by injection e286)
                                                obtain ⟨ce286, hce286, hMe286, hcc286⟩ := Kd.S_get HO_4.out [] x5_1 p286 (by first | exact q286 | exact of_decide_eq_true (by first | (with_reducible assumption) | assumption) | (have e_ := (Kd.S_reads' HO_4.out).1; omega))
                                                obtain ⟨ve286_0, rfl, ge286_0⟩ := hMe286
                                                have hv286_0 := hcc286 0 _ rfl
                                                rw [Nat.add_zero, show ((Kd.slice 3 (Kd.int .i64))).sz = 1 from rfl, Nat.mul_one] at hv286_0
                                                replace hv286_0 := Option.some.inj (hv286_0.symm.trans hx286_0)
                                                rw [hv286_0] at ge286_0
                                                have HL286_0 := Aside0.mk (show Kd.R (Kd.int .i64) 3 _ _ _ _ (rd_L1 t268 x5_1) from ge286_0)
                                                clear hv286_0 ge286_0
                                                clear hcc286 hce286
                                                have HR286_0 := Aside0.mk hi286_0
                                                have HC286_0 := Aside0.mk hl286_0
                                                clear hi286_0 hl286_0
                                                replace p286 := eq_true p286
                                                replace q286 := eq_true q286
                                                have ea_ := Option.some.inj (hx278_0.symm.trans hx286_0)
                                                injection ea_ with ea_ en_ ec_
                                                subst ea_
                                                subst ec_
                                                clear en_
                                                have p287 : 0 ≤ (x6_2 : Int) := of_decide_eq_true (by first | (with_reducible assumption) | assumption)
                                                have q287 : x6_2 < ((rd_L1 t268 x5_1).length : Int) := of_decide_eq_true (by first | (with_reducible assumption) | assumption)
                                                obtain ⟨ad287, e287, hx287_0⟩ := Kd.at_int (by repeat (first | (with_reducible exact HR286_0.out) | (with_reducible refine Kd.C_alloc ?_ _) | (with_reducible refine Kd.C_drewN ?_ _) | (with_reducible refine Kd.C_drew ?_) | exact HR286_0.out)) x6_2 p287 q287
                                                cases e287
                                                replace p287 := eq_true p287
                                                replace q287 := eq_true q287
                                                go_wp2
                                                (try dsimp only [List.append])
                                                repeat (go_quiet (fail); try go_wp2)
                                                go_meet
                                                case rel => exact ⟨_, (false), (by first | rfl | (simp; done) | (simp [*]; done)), H', ⟨by have := HK1.out; have := HK2.out; first | omega | exact Nat.le_refl _⟩, ⟨by (with_reducible repeat (first | apply Kd.S_alloc | apply Kd.S_drewN | apply Kd.S_drew)); exact HO_3.out⟩, ⟨by (with_reducible repeat (first | apply Kd.S_alloc | apply Kd.S_drewN | apply Kd.S_drew)); exact HO_4.out⟩, ⟨by repeat (first | (with_reducible first | exact HB.out | apply below_alloc | apply pw_below_drewN | apply below_drew1) | exact HB.out)⟩⟩
                                            · rw [if_neg c36] at H
                                              have c36b0 : decide (0 ≤ x5_1) = false := decide_eq_false c36
                                              clear c36
                                              by_cases c40 : t275 ≥ 0
                                              · rw [if_pos c40] at H
                                                have c40b0 : decide (0 ≤ t275) = true := decide_eq_true c40
                                                clear c40
                                                have H' := Aside0.mk H
                                                clear H
                                                have p276 : 0 ≤ (x5_1 : Int) := of_decide_eq_true (by first | (with_reducible assumption) | assumption)
                                                have q276 : x5_1 < (t265.length : Int) := of_decide_eq_true (by first | (with_reducible assumption) | assumption)
                                                obtain ⟨ad276, A276_0, c276_0, e276, hx276_0, hl276_0, hi276_0⟩ := at_L1 (Kd.S_reads' HO_3.out).2.2 x5_1 p276 q276
                                                cases e276
                                                obtain ⟨ce276, hce276, hMe276, hcc276⟩ := Kd.S_get HO_3.out [] x5_1 p276 (by first | exact q276 | exact of_decide_eq_true (by first | (with_reducible assumption) | assumption) | (have e_ := (Kd.S_reads' HO_3.out).1; omega))
                                                obtain ⟨ve276_0, rfl, ge276_0⟩ := hMe276
                                                have hv276_0 := hcc276 0 _ rfl
                                                rw [Nat.add_zero, show ((Kd.slice 3 (Kd.int .i64))).sz = 1 from rfl, Nat.mul_one] at hv276_0
                                                replace hv276_0 := Option.some.inj (hv276_0.symm.trans hx276_0)
                                                rw [hv276_0] at ge276_0
                                                have HL276_0 := Aside0.mk (show Kd.R (Kd.int .i64) 3 _ _ _ _ (rd_L1 t265 x5_1) from ge276_0)
                                                clear hv276_0 ge276_0
                                                clear hcc276 hce276
                                                have HR276_0 := Aside0.mk hi276_0
                                                have HC276_0 := Aside0.mk hl276_0
                                                clear hi276_0 hl276_0
                                                replace p276 := eq_true p276
                                                replace q276 := eq_true q276
                                                have p277 : 0 ≤ (x6_2 : Int) := of_decide_eq_true (by first | (with_reducible assumption) | assumption)
                                                have q277 : x6_2 < ((rd_L1 t265 x5_1).length : Int) := of_decide_eq_true (by first | (with_reducible assumption) | assumption)
                                                obtain ⟨ad277, e277, hx277_0⟩ := Kd.at_int (by repeat (first | (with_reducible exact HR276_0.out) | (with_reducible refine Kd.C_alloc ?_ _) | (with_reducible refine Kd.C_drewN ?_ _) | (with_reducible refine Kd.C_drew ?_) | exact HR276_0.out)) x6_2 p277 q277
                                                cases e277
                                                replace p277 := eq_true p277
                                                replace q277 := eq_true q277
                                                obtain ⟨Ao41, co41, eo41⟩ := Kd.S_slice HO_4.out
                                                subst eo41
                                                have p278 : 0 ≤ (x5_1 : Int) := of_decide_eq_true (by first | (with_reducible assumption) | assumption)
                                                have q278 : x5_1 < (t268.length : Int) := of_decide_eq_true (by first | (with_reducible assumption) | assumption)
                                                obtain ⟨ad278, A278_0, c278_0, e278, hx278_0, hl278_0, hi278_0⟩ := at_L1 (Kd.S_reads' HO_4.out).2.2 x5_1 p278 q278
                                                cases e278
                                                obtain ⟨ce278, hce278, hMe278, hcc278⟩ := Kd.S_get HO_4.out [] x5_1 p278 (by first | exact q278 | exact of_decide_eq_true (by first | (with_reducible assumption) | assumption) | (have e_ := (Kd.S_reads' HO_4.out).1; omega))
                                                obtain ⟨ve278_0, rfl, ge278_0⟩ := hMe278
                                                have hv278_0 := hcc278 0 _ rfl
                                                rw [Nat.add_zero, show ((Kd.slice 3 (Kd.int .i64))).sz = 1 from rfl, Nat.mul_one] at hv278_0
                                                replace hv278_0 := Option.some.inj (hv278_0.symm.trans hx278_0)
                                                rw [hv278_0] at ge278_0
                                                have HL278_0 := Aside0.mk (show Kd.R (Kd.int .i64) 3 _ _ _ _ (rd_L1 t268 x5_1) from ge278_0)
                                                clear hv278_0 ge278_0
                                                clear hcc278 hce278
                                                have HR278_0 := Aside0.mk hi278_0
                                                have HC278_0 := Aside0.mk hl278_0
                                                clear hi278_0 hl278_0
                                                replace p278 := eq_true p278
                                                replace q278 := eq_true q278
                                                have p279 : 0 ≤ (x6_2 : Int) := of_decide_eq_true (by first | (with_reducible assumption) | assumption)
                                                have q279 : x6_2 < ((rd_L1 t268 x5_1).length : Int) := of_decide_eq_true (by first | (with_reducible assumption) | assumption)
                                                obtain ⟨ad279, e279, hx279_0⟩ := Kd.at_int (by repeat (first | (with_reducible exact HR278_0.out) | (with_reducible refine Kd.C_alloc ?_ _) | (with_reducible refine Kd.C_drewN ?_ _) | (with_reducible refine Kd.C_drew ?_) | exact HR278_0.out)) x6_2 p279 q279
                                                cases e279
                                                replace p279 := eq_true p279
                                                replace q279 := eq_true q279
                                                have p280 : 0 ≤ (x5_1 : Int) := of_decide_eq_true (by first | (with_reducible assumption) | assumption)
                                                have q280 : x5_1 < (t268.length : Int) := of_decide_eq_true (by first | (with_reducible assumption) | assumption)
                                                obtain ⟨ad280, A280_0, c280_0, e280, hx280_0, hl280_0, hi280_0⟩ := at_L1 (Kd.S_reads' HO_4.out).2.2 x5_1 p280 q280
                                                obtain rfl : ad278 = ad280 := (by injection e280)
                                                obtain ⟨ce280, hce280, hMe280, hcc280⟩ := Kd.S_get HO_4.out [] x5_1 p280 (by first | exact q280 | exact of_decide_eq_true (by first | (with_reducible assumption) | assumption) | (have e_ := (Kd.S_reads' HO_4.out).1; omega))
                                                obtain ⟨ve280_0, rfl, ge280_0⟩ := hMe280
                                                have hv280_0 := hcc280 0 _ rfl
                                                rw [Nat.add_zero, show ((Kd.slice 3 (Kd.int .i64))).sz = 1 from rfl, Nat.mul_one] at hv280_0
                                                replace hv280_0 := Option.some.inj (hv280_0.symm.trans hx280_0)
                                                rw [hv280_0] at ge280_0
                                                have HL280_0 := Aside0.mk (show Kd.R (Kd.int .i64) 3 _ _ _ _ (rd_L1 t268 x5_1) from ge280_0)
                                                clear hv280_0 ge280_0
                                                clear hcc280 hce280
                                                have HR280_0 := Aside0.mk hi280_0
                                                have HC280_0 := Aside0.mk hl280_0
                                                clear hi280_0 hl280_0
                                                replace p280 := eq_true p280
                                                replace q280 := eq_true q280
                                                have ea_ := Option.some.inj (hx278_0.symm.trans hx280_0)
                                                injection ea_ with ea_ en_ ec_
                                                subst ea_
                                                subst ec_
                                                clear en_
                                                have p281 : 0 ≤ (x6_2 : Int) := of_decide_eq_true (by first | (with_reducible assumption) | assumption)
                                                have q281 : x6_2 < ((rd_L1 t268 x5_1).length : Int) := of_decide_eq_true (by first | (with_reducible assumption) | assumption)
                                                obtain ⟨ad281, e281, hx281_0⟩ := Kd.at_int (by repeat (first | (with_reducible exact HR280_0.out) | (with_reducible refine Kd.C_alloc ?_ _) | (with_reducible refine Kd.C_drewN ?_ _) | (with_reducible refine Kd.C_drew ?_) | exact HR280_0.out)) x6_2 p281 q281
                                                cases e281
                                                replace p281 := eq_true p281
                                                replace q281 := eq_true q281
                                                have p282 : 0 ≤ (x5_1 : Int) := of_decide_eq_true (by first | (with_reducible assumption) | assumption)
                                                have q282 : x5_1 < (t265.length : Int) := of_decide_eq_true (by first | (with_reducible assumption) | assumption)
                                                obtain ⟨ad282, A282_0, c282_0, e282, hx282_0, hl282_0, hi282_0⟩ := at_L1 (Kd.S_reads' HO_3.out).2.2 x5_1 p282 q282
                                                obtain rfl : ad276 = ad282 := (by injection e282)
                                                obtain ⟨ce282, hce282, hMe282, hcc282⟩ := Kd.S_get HO_3.out [] x5_1 p282 (by first | exact q282 | exact of_decide_eq_true (by first | (with_reducible assumption) | assumption) | (have e_ := (Kd.S_reads' HO_3.out).1; omega))
                                                obtain ⟨ve282_0, rfl, ge282_0⟩ := hMe282
                                                have hv282_0 := hcc282 0 _ rfl
                                                rw [Nat.add_zero, show ((Kd.slice 3 (Kd.int .i64))).sz = 1 from rfl, Nat.mul_one] at hv282_0
                                                replace hv282_0 := Option.some.inj (hv282_0.symm.trans hx282_0)
                                                rw [hv282_0] at ge282_0
                                                have HL282_0 := Aside0.mk (show Kd.R (Kd.int .i64) 3 _ _ _ _ (rd_L1 t265 x5_1) from ge282_0)
                                                clear hv282_0 ge282_0
                                                clear hcc282 hce282
                                                have HR282_0 := Aside0.mk hi282_0
                                                have HC282_0 := Aside0.mk hl282_0
                                                clear hi282_0 hl282_0
                                                replace p282 := eq_true p282
                                                replace q282 := eq_true q282
                                                have ea_ := Option.some.inj (hx276_0.symm.trans hx282_0)
                                                injection ea_ with ea_ en_ ec_
                                                subst ea_
                                                subst ec_
                                                clear en_
                                                have p283 : 0 ≤ (x6_2 : Int) := of_decide_eq_true (by first | (with_reducible assumption) | assumption)
                                                have q283 : x6_2 < ((rd_L1 t265 x5_1).length : Int) := of_decide_eq_true (by first | (with_reducible assumption) | assumption)
                                                obtain ⟨ad283, e283, hx283_0⟩ := Kd.at_int (by repeat (first | (with_reducible exact HR282_0.out) | (with_reducible refine Kd.C_alloc ?_ _) | (with_reducible refine Kd.C_drewN ?_ _) | (with_reducible refine Kd.C_drew ?_) | exact HR282_0.out)) x6_2 p283 q283
                                                cases e283
                                                replace p283 := eq_true p283
                                                replace q283 := eq_true q283
                                                have p284 : 0 ≤ (x5_1 : Int) := of_decide_eq_true (by first | (with_reducible assumption) | assumption)
                                                have q284 : x5_1 < (t265.length : Int) := of_decide_eq_true (by first | (with_reducible assumption) | assumption)
                                                obtain ⟨ad284, A284_0, c284_0, e284, hx284_0, hl284_0, hi284_0⟩ := at_L1 (Kd.S_reads' HO_3.out).2.2 x5_1 p284 q284
                                                obtain rfl : ad276 = ad284 := (by injection e284)
                                                obtain ⟨ce284, hce284, hMe284, hcc284⟩ := Kd.S_get HO_3.out [] x5_1 p284 (by first | exact q284 | exact of_decide_eq_true (by first | (with_reducible assumption) | assumption) | (have e_ := (Kd.S_reads' HO_3.out).1; omega))
                                                obtain ⟨ve284_0, rfl, ge284_0⟩ := hMe284
                                                have hv284_0 := hcc284 0 _ rfl
                                                rw [Nat.add_zero, show ((Kd.slice 3 (Kd.int .i64))).sz = 1 from rfl, Nat.mul_one] at hv284_0
                                                replace hv284_0 := Option.some.inj (hv284_0.symm.trans hx284_0)
                                                rw [hv284_0] at ge284_0
                                                have HL284_0 := Aside0.mk (show Kd.R (Kd.int .i64) 3 _ _ _ _ (rd_L1 t265 x5_1) from ge284_0)
                                                clear hv284_0 ge284_0
                                                clear hcc284 hce284
                                                have HR284_0 := Aside0.mk hi284_0
                                                have HC284_0 := Aside0.mk hl284_0
                                                clear hi284_0 hl284_0
                                                replace p284 := eq_true p284
                                                replace q284 := eq_true q284
                                                have ea_ := Option.some.inj (hx276_0.symm.trans hx284_0)
                                                injection ea_ with ea_ en_ ec_
                                                subst ea_
                                                subst ec_
                                                clear en_
                                                have p285 : 0 ≤ (x6_2 : Int) := of_decide_eq_true (by first | (with_reducible assumption) | assumption)
                                                have q285 : x6_2 < ((rd_L1 t265 x5_1).length : Int) := of_decide_eq_true (by first | (with_reducible assumption) | assumption)
                                                obtain ⟨ad285, e285, hx285_0⟩ := Kd.at_int (by repeat (first | (with_reducible exact HR284_0.out) | (with_reducible refine Kd.C_alloc ?_ _) | (with_reducible refine Kd.C_drewN ?_ _) | (with_reducible refine Kd.C_drew ?_) | exact HR284_0.out)) x6_2 p285 q285
                                                cases e285
                                                replace p285 := eq_true p285
                                                replace q285 := eq_true q285
                                                have p286 : 0 ≤ (x5_1 : Int) := of_decide_eq_true (by first | (with_reducible assumption) | assumption)
                                                have q286 : x5_1 < (t268.length : Int) := of_decide_eq_true (by first | (with_reducible assumption) | assumption)
                                                obtain ⟨ad286, A286_0, c286_0, e286, hx286_0, hl286_0, hi286_0⟩ := at_L1 (Kd.S_reads' HO_4.out).2.2 x5_1 p286 q286
                                                obtain rfl : ad278 = ad286 := (by injection e286)
                                                obtain ⟨ce286, hce286, hMe286, hcc286⟩ := Kd.S_get HO_4.out [] x5_1 p286 (by first | exact q286 | exact of_decide_eq_true (by first | (with_reducible assumption) | assumption) | (have e_ := (Kd.S_reads' HO_4.out).1; omega))
                                                obtain ⟨ve286_0, rfl, ge286_0⟩ := hMe286
                                                have hv286_0 := hcc286 0 _ rfl
                                                rw [Nat.add_zero, show ((Kd.slice 3 (Kd.int .i64))).sz = 1 from rfl, Nat.mul_one] at hv286_0
                                                replace hv286_0 := Option.some.inj (hv286_0.symm.trans hx286_0)
                                                rw [hv286_0] at ge286_0
                                                have HL286_0 := Aside0.mk (show Kd.R (Kd.int .i64) 3 _ _ _ _ (rd_L1 t268 x5_1) from ge286_0)
                                                clear hv286_0 ge286_0
                                                clear hcc286 hce286
                                                have HR286_0 := Aside0.mk hi286_0
                                                have HC286_0 := Aside0.mk hl286_0
                                                clear hi286_0 hl286_0
                                                replace p286 := eq_true p286
                                                replace q286 := eq_true q286
                                                have ea_ := Option.some.inj (hx278_0.symm.trans hx286_0)
                                                injection ea_ with ea_ en_ ec_
                                                subst ea_
                                                subst ec_
                                                clear en_
                                                have p287 : 0 ≤ (x6_2 : Int) := of_decide_eq_true (by first | (with_reducible assumption) | assumption)
                                                have q287 : x6_2 < ((rd_L1 t268 x5_1).length : Int) := of_decide_eq_true (by first | (with_reducible assumption) | assumption)
                                                obtain ⟨ad287, e287, hx287_0⟩ := Kd.at_int (by repeat (first | (with_reducible exact HR286_0.out) | (with_reducible refine Kd.C_alloc ?_ _) | (with_reducible refine Kd.C_drewN ?_ _) | (with_reducible refine Kd.C_drew ?_) | exact HR286_0.out)) x6_2 p287 q287
                                                cases e287
                                                replace p287 := eq_true p287
                                                replace q287 := eq_true q287
                                                go_wp2
                                                (try dsimp only [List.append])
                                                repeat (go_quiet (fail); try go_wp2)
                                                go_meet
                                                case rel => first | exact ⟨_, ((t275 == x6_2)), (by first | rfl | (simp; done) | (simp [*]; done)), H', ⟨by have := HK1.out; have := HK2.out; first | omega | exact Nat.le_refl _⟩, ⟨by (with_reducible repeat (first | apply Kd.S_alloc | apply Kd.S_drewN | apply Kd.S_drew)); exact HO_3.out⟩, ⟨by (with_reducible repeat (first | apply Kd.S_alloc | apply Kd.S_drewN | apply Kd.S_drew)); exact HO_4.out⟩, ⟨by repeat (first | (with_reducible first | exact HB.out | apply below_alloc | apply pw_below_drewN | apply below_drew1) | exact HB.out)⟩⟩ | exact absurd ((show decide (0 ≤ x5_1) = true by assumption).symm.trans (show decide (0 ≤ x5_1) = false by assumption)) (by decide)
                                              · rw [if_neg c40] at H
                                                have c40b0 : decide (0 ≤ t275) = false := decide_eq_false c40
                                                clear c40
                                                have H' := Aside0.mk H
                                                clear H
                                                have p276 : 0 ≤ (x5_1 : Int) := of_decide_eq_true (by first | (with_reducible assumption) | assumption)
                                                have q276 : x5_1 < (t265.length : Int) := of_decide_eq_true (by first | (with_reducible assumption) | assumption)
                                                obtain ⟨ad276, A276_0, c276_0, e276, hx276_0, hl276_0, hi276_0⟩ := at_L1 (Kd.S_reads' HO_3.out).2.2 x5_1 p276 q276
                                                cases e276
                                                obtain ⟨ce276, hce276, hMe276, hcc276⟩ := Kd.S_get HO_3.out [] x5_1 p276 (by first | exact q276 | exact of_decide_eq_true (by first | (with_reducible assumption) | assumption) | (have e_ := (Kd.S_reads' HO_3.out).1; omega))
                                                obtain ⟨ve276_0, rfl, ge276_0⟩ := hMe276
                                                have hv276_0 := hcc276 0 _ rfl
                                                rw [Nat.add_zero, show ((Kd.slice 3 (Kd.int .i64))).sz = 1 from rfl, Nat.mul_one] at hv276_0
                                                replace hv276_0 := Option.some.inj (hv276_0.symm.trans hx276_0)
                                                rw [hv276_0] at ge276_0
                                                have HL276_0 := Aside0.mk (show Kd.R (Kd.int .i64) 3 _ _ _ _ (rd_L1 t265 x5_1) from ge276_0)
                                                clear hv276_0 ge276_0
                                                clear hcc276 hce276
                                                have HR276_0 := Aside0.mk hi276_0
                                                have HC276_0 := Aside0.mk hl276_0
                                                clear hi276_0 hl276_0
                                                replace p276 := eq_true p276
                                                replace q276 := eq_true q276
                                                have p277 : 0 ≤ (x6_2 : Int) := of_decide_eq_true (by first | (with_reducible assumption) | assumption)
                                                have q277 : x6_2 < ((rd_L1 t265 x5_1).length : Int) := of_decide_eq_true (by first | (with_reducible assumption) | assumption)
                                                obtain ⟨ad277, e277, hx277_0⟩ := Kd.at_int (by repeat (first | (with_reducible exact HR276_0.out) | (with_reducible refine Kd.C_alloc ?_ _) | (with_reducible refine Kd.C_drewN ?_ _) | (with_reducible refine Kd.C_drew ?_) | exact HR276_0.out)) x6_2 p277 q277
                                                cases e277
                                                replace p277 := eq_true p277
                                                replace q277 := eq_true q277
                                                obtain ⟨Ao42, co42, eo42⟩ := Kd.S_slice HO_4.out
                                                subst eo42
                                                have p278 : 0 ≤ (x5_1 : Int) := of_decide_eq_true (by first | (with_reducible assumption) | assumption)
                                                have q278 : x5_1 < (t268.length : Int) := of_decide_eq_true (by first | (with_reducible assumption) | assumption)
                                                obtain ⟨ad278, A278_0, c278_0, e278, hx278_0, hl278_0, hi278_0⟩ := at_L1 (Kd.S_reads' HO_4.out).2.2 x5_1 p278 q278
                                                cases e278
                                                obtain ⟨ce278, hce278, hMe278, hcc278⟩ := Kd.S_get HO_4.out [] x5_1 p278 (by first | exact q278 | exact of_decide_eq_true (by first | (with_reducible assumption) | assumption) | (have e_ := (Kd.S_reads' HO_4.out).1; omega))
                                                obtain ⟨ve278_0, rfl, ge278_0⟩ := hMe278
                                                have hv278_0 := hcc278 0 _ rfl
                                                rw [Nat.add_zero, show ((Kd.slice 3 (Kd.int .i64))).sz = 1 from rfl, Nat.mul_one] at hv278_0
                                                replace hv278_0 := Option.some.inj (hv278_0.symm.trans hx278_0)
                                                rw [hv278_0] at ge278_0
                                                have HL278_0 := Aside0.mk (show Kd.R (Kd.int .i64) 3 _ _ _ _ (rd_L1 t268 x5_1) from ge278_0)
                                                clear hv278_0 ge278_0
                                                clear hcc278 hce278
                                                have HR278_0 := Aside0.mk hi278_0
                                                have HC278_0 := Aside0.mk hl278_0
                                                clear hi278_0 hl278_0
                                                replace p278 := eq_true p278
                                                replace q278 := eq_true q278
                                                have p279 : 0 ≤ (x6_2 : Int) := of_decide_eq_true (by first | (with_reducible assumption) | assumption)
                                                have q279 : x6_2 < ((rd_L1 t268 x5_1).length : Int) := of_decide_eq_true (by first | (with_reducible assumption) | assumption)
                                                obtain ⟨ad279, e279, hx279_0⟩ := Kd.at_int (by repeat (first | (with_reducible exact HR278_0.out) | (with_reducible refine Kd.C_alloc ?_ _) | (with_reducible refine Kd.C_drewN ?_ _) | (with_reducible refine Kd.C_drew ?_) | exact HR278_0.out)) x6_2 p279 q279
                                                cases e279
                                                replace p279 := eq_true p279
                                                replace q279 := eq_true q279
                                                have p280 : 0 ≤ (x5_1 : Int) := of_decide_eq_true (by first | (with_reducible assumption) | assumption)
                                                have q280 : x5_1 < (t268.length : Int) := of_decide_eq_true (by first | (with_reducible assumption) | assumption)
                                                obtain ⟨ad280, A280_0, c280_0, e280, hx280_0, hl280_0, hi280_0⟩ := at_L1 (Kd.S_reads' HO_4.out).2.2 x5_1 p280 q280
                                                obtain rfl : ad278 = ad280 := (by injection e280)
                                                obtain ⟨ce280, hce280, hMe280, hcc280⟩ := Kd.S_get HO_4.out [] x5_1 p280 (by first | exact q280 | exact of_decide_eq_true (by first | (with_reducible assumption) | assumption) | (have e_ := (Kd.S_reads' HO_4.out).1; omega))
                                                obtain ⟨ve280_0, rfl, ge280_0⟩ := hMe280
                                                have hv280_0 := hcc280 0 _ rfl
                                                rw [Nat.add_zero, show ((Kd.slice 3 (Kd.int .i64))).sz = 1 from rfl, Nat.mul_one] at hv280_0
                                                replace hv280_0 := Option.some.inj (hv280_0.symm.trans hx280_0)
                                                rw [hv280_0] at ge280_0
                                                have HL280_0 := Aside0.mk (show Kd.R (Kd.int .i64) 3 _ _ _ _ (rd_L1 t268 x5_1) from ge280_0)
                                                clear hv280_0 ge280_0
                                                clear hcc280 hce280
                                                have HR280_0 := Aside0.mk hi280_0
                                                have HC280_0 := Aside0.mk hl280_0
                                                clear hi280_0 hl280_0
                                                replace p280 := eq_true p280
                                                replace q280 := eq_true q280
                                                have ea_ := Option.some.inj (hx278_0.symm.trans hx280_0)
                                                injection ea_ with ea_ en_ ec_
                                                subst ea_
                                                subst ec_
                                                clear en_
                                                have p281 : 0 ≤ (x6_2 : Int) := of_decide_eq_true (by first | (with_reducible assumption) | assumption)
                                                have q281 : x6_2 < ((rd_L1 t268 x5_1).length : Int) := of_decide_eq_true (by first | (with_reducible assumption) | assumption)
                                                obtain ⟨ad281, e281, hx281_0⟩ := Kd.at_int (by repeat (first | (with_reducible exact HR280_0.out) | (with_reducible refine Kd.C_alloc ?_ _) | (with_reducible refine Kd.C_drewN ?_ _) | (with_reducible refine Kd.C_drew ?_) | exact HR280_0.out)) x6_2 p281 q281
                                                cases e281
                                                replace p281 := eq_true p281
                                                replace q281 := eq_true q281
                                                have p282 : 0 ≤ (x5_1 : Int) := of_decide_eq_true (by first | (with_reducible assumption) | assumption)
                                                have q282 : x5_1 < (t265.length : Int) := of_decide_eq_true (by first | (with_reducible assumption) | assumption)
                                                obtain ⟨ad282, A282_0, c282_0, e282, hx282_0, hl282_0, hi282_0⟩ := at_L1 (Kd.S_reads' HO_3.out).2.2 x5_1 p282 q282
                                                obtain rfl : ad276 = ad282 := (by injection e282)
                                                obtain ⟨ce282, hce282, hMe282, hcc282⟩ := Kd.S_get HO_3.out [] x5_1 p282 (by first | exact q282 | exact of_decide_eq_true (by first | (with_reducible assumption) | assumption) | (have e_ := (Kd.S_reads' HO_3.out).1; omega))
                                                obtain ⟨ve282_0, rfl, ge282_0⟩ := hMe282
                                                have hv282_0 := hcc282 0 _ rfl
                                                rw [Nat.add_zero, show ((Kd.slice 3 (Kd.int .i64))).sz = 1 from rfl, Nat.mul_one] at hv282_0
                                                replace hv282_0 := Option.some.inj (hv282_0.symm.trans hx282_0)
                                                rw [hv282_0] at ge282_0
                                                have HL282_0 := Aside0.mk (show Kd.R (Kd.int .i64) 3 _ _ _ _ (rd_L1 t265 x5_1) from ge282_0)
                                                clear hv282_0 ge282_0
                                                clear hcc282 hce282
                                                have HR282_0 := Aside0.mk hi282_0
                                                have HC282_0 := Aside0.mk hl282_0
                                                clear hi282_0 hl282_0
                                                replace p282 := eq_true p282
                                                replace q282 := eq_true q282
                                                have ea_ := Option.some.inj (hx276_0.symm.trans hx282_0)
                                                injection ea_ with ea_ en_ ec_
                                                subst ea_
                                                subst ec_
                                                clear en_
                                                have p283 : 0 ≤ (x6_2 : Int) := of_decide_eq_true (by first | (with_reducible assumption) | assumption)
                                                have q283 : x6_2 < ((rd_L1 t265 x5_1).length : Int) := of_decide_eq_true (by first | (with_reducible assumption) | assumption)
                                                obtain ⟨ad283, e283, hx283_0⟩ := Kd.at_int (by repeat (first | (with_reducible exact HR282_0.out) | (with_reducible refine Kd.C_alloc ?_ _) | (with_reducible refine Kd.C_drewN ?_ _) | (with_reducible refine Kd.C_drew ?_) | exact HR282_0.out)) x6_2 p283 q283
                                                cases e283
                                                replace p283 := eq_true p283
                                                replace q283 := eq_true q283
                                                have p284 : 0 ≤ (x5_1 : Int) := of_decide_eq_true (by first | (with_reducible assumption) | assumption)
                                                have q284 : x5_1 < (t265.length : Int) := of_decide_eq_true (by first | (with_reducible assumption) | assumption)
                                                obtain ⟨ad284, A284_0, c284_0, e284, hx284_0, hl284_0, hi284_0⟩ := at_L1 (Kd.S_reads' HO_3.out).2.2 x5_1 p284 q284
                                                obtain rfl : ad276 = ad284 := (by injection e284)
                                                obtain ⟨ce284, hce284, hMe284, hcc284⟩ := Kd.S_get HO_3.out [] x5_1 p284 (by first | exact q284 | exact of_decide_eq_true (by first | (with_reducible assumption) | assumption) | (have e_ := (Kd.S_reads' HO_3.out).1; omega))
                                                obtain ⟨ve284_0, rfl, ge284_0⟩ := hMe284
                                                have hv284_0 := hcc284 0 _ rfl
                                                rw [Nat.add_zero, show ((Kd.slice 3 (Kd.int .i64))).sz = 1 from rfl, Nat.mul_one] at hv284_0
                                                replace hv284_0 := Option.some.inj (hv284_0.symm.trans hx284_0)
                                                rw [hv284_0] at ge284_0
                                                have HL284_0 := Aside0.mk (show Kd.R (Kd.int .i64) 3 _ _ _ _ (rd_L1 t265 x5_1) from ge284_0)
                                                clear hv284_0 ge284_0
                                                clear hcc284 hce284
                                                have HR284_0 := Aside0.mk hi284_0
                                                have HC284_0 := Aside0.mk hl284_0
                                                clear hi284_0 hl284_0
                                                replace p284 := eq_true p284
                                                replace q284 := eq_true q284
                                                have ea_ := Option.some.inj (hx276_0.symm.trans hx284_0)
                                                injection ea_ with ea_ en_ ec_
                                                subst ea_
                                                subst ec_
                                                clear en_
                                                have p285 : 0 ≤ (x6_2 : Int) := of_decide_eq_true (by first | (with_reducible assumption) | assumption)
                                                have q285 : x6_2 < ((rd_L1 t265 x5_1).length : Int) := of_decide_eq_true (by first | (with_reducible assumption) | assumption)
                                                obtain ⟨ad285, e285, hx285_0⟩ := Kd.at_int (by repeat (first | (with_reducible exact HR284_0.out) | (with_reducible refine Kd.C_alloc ?_ _) | (with_reducible refine Kd.C_drewN ?_ _) | (with_reducible refine Kd.C_drew ?_) | exact HR284_0.out)) x6_2 p285 q285
                                                cases e285
                                                replace p285 := eq_true p285
                                                replace q285 := eq_true q285
                                                have p286 : 0 ≤ (x5_1 : Int) := of_decide_eq_true (by first | (with_reducible assumption) | assumption)
                                                have q286 : x5_1 < (t268.length : Int) := of_decide_eq_true (by first | (with_reducible assumption) | assumption)
                                                obtain ⟨ad286, A286_0, c286_0, e286, hx286_0, hl286_0, hi286_0⟩ := at_L1 (Kd.S_reads' HO_4.out).2.2 x5_1 p286 q286
                                                obtain rfl : ad278 = ad286 := (by injection e286)
                                                obtain ⟨ce286, hce286, hMe286, hcc286⟩ := Kd.S_get HO_4.out [] x5_1 p286 (by first | exact q286 | exact of_decide_eq_true (by first | (with_reducible assumption) | assumption) | (have e_ := (Kd.S_reads' HO_4.out).1; omega))
                                                obtain ⟨ve286_0, rfl, ge286_0⟩ := hMe286
                                                have hv286_0 := hcc286 0 _ rfl
                                                rw [Nat.add_zero, show ((Kd.slice 3 (Kd.int .i64))).sz = 1 from rfl, Nat.mul_one] at hv286_0
                                                replace hv286_0 := Option.some.inj (hv286_0.symm.trans hx286_0)
                                                rw [hv286_0] at ge286_0
                                                have HL286_0 := Aside0.mk (show Kd.R (Kd.int .i64) 3 _ _ _ _ (rd_L1 t268 x5_1) from ge286_0)
                                                clear hv286_0 ge286_0
                                                clear hcc286 hce286
                                                have HR286_0 := Aside0.mk hi286_0
                                                have HC286_0 := Aside0.mk hl286_0
                                                clear hi286_0 hl286_0
                                                replace p286 := eq_true p286
                                                replace q286 := eq_true q286
                                                have ea_ := Option.some.inj (hx278_0.symm.trans hx286_0)
                                                injection ea_ with ea_ en_ ec_
                                                subst ea_
                                                subst ec_
                                                clear en_
                                                have p287 : 0 ≤ (x6_2 : Int) := of_decide_eq_true (by first | (with_reducible assumption) | assumption)
                                                have q287 : x6_2 < ((rd_L1 t268 x5_1).length : Int) := of_decide_eq_true (by first | (with_reducible assumption) | assumption)
                                                obtain ⟨ad287, e287, hx287_0⟩ := Kd.at_int (by repeat (first | (with_reducible exact HR286_0.out) | (with_reducible refine Kd.C_alloc ?_ _) | (with_reducible refine Kd.C_drewN ?_ _) | (with_reducible refine Kd.C_drew ?_) | exact HR286_0.out)) x6_2 p287 q287
                                                cases e287
                                                replace p287 := eq_true p287
                                                replace q287 := eq_true q287
                                                go_wp2
                                                (try dsimp only [List.append])
                                                repeat (go_quiet (fail); try go_wp2)
                                                go_meet
                                                case rel => exact ⟨_, (false), (by first | rfl | (simp; done) | (simp [*]; done)), H', ⟨by have := HK1.out; have := HK2.out; first | omega | exact Nat.le_refl _⟩, ⟨by (with_reducible repeat (first | apply Kd.S_alloc | apply Kd.S_drewN | apply Kd.S_drew)); exact HO_3.out⟩, ⟨by (with_reducible repeat (first | apply Kd.S_alloc | apply Kd.S_drewN | apply Kd.S_drew)); exact HO_4.out⟩, ⟨by repeat (first | (with_reducible first | exact HB.out | apply below_alloc | apply pw_below_drewN | apply below_drew1) | exact HB.out)⟩⟩
                                          · rw [if_neg c35] at H
                                            have c35b0 : (t275 == x5_1) = false := beq_eq_false_iff_ne.mpr c35
                                            have c35b1 : (t275 != x5_1) = true := bne_iff_ne.mpr c35
                                            by_cases c43 : t275 ≥ 0
                                            · rw [if_pos c43] at H
                                              have c43b0 : decide (0 ≤ t275) = true := decide_eq_true c43
                                              clear c43
                                              have H' := Aside0.mk H
                                              clear H
                                              have p276 : 0 ≤ (x5_1 : Int) := of_decide_eq_true (by first | (with_reducible assumption) | assumption)
                                              have q276 : x5_1 < (t265.length : Int) := of_decide_eq_true (by first | (with_reducible assumption) | assumption)
                                              obtain ⟨ad276, A276_0, c276_0, e276, hx276_0, hl276_0, hi276_0⟩ := at_L1 (Kd.S_reads' HO_3.out).2.2 x5_1 p276 q276
                                              cases e276
                                              obtain ⟨ce276, hce276, hMe276, hcc276⟩ := Kd.S_get HO_3.out [] x5_1 p276 (by first | exact q276 | exact of_decide_eq_true (by first | (with_reducible assumption) | assumption) | (have e_ := (Kd.S_reads' HO_3.out).1; omega))
                                              obtain ⟨ve276_0, rfl, ge276_0⟩ := hMe276
                                              have hv276_0 := hcc276 0 _ rfl
                                              rw [Nat.add_zero, show ((Kd.slice 3 (Kd.int .i64))).sz = 1 from rfl, Nat.mul_one] at hv276_0
                                              replace hv276_0 := Option.some.inj (hv276_0.symm.trans hx276_0)
                                              rw [hv276_0] at ge276_0
                                              have HL276_0 := Aside0.mk (show Kd.R (Kd.int .i64) 3 _ _ _ _ (rd_L1 t265 x5_1) from ge276_0)
                                              clear hv276_0 ge276_0
                                              clear hcc276 hce276
                                              have HR276_0 := Aside0.mk hi276_0
                                              have HC276_0 := Aside0.mk hl276_0
                                              clear hi276_0 hl276_0
                                              replace p276 := eq_true p276
                                              replace q276 := eq_true q276
                                              have p277 : 0 ≤ (x6_2 : Int) := of_decide_eq_true (by first | (with_reducible assumption) | assumption)
                                              have q277 : x6_2 < ((rd_L1 t265 x5_1).length : Int) := of_decide_eq_true (by first | (with_reducible assumption) | assumption)
                                              obtain ⟨ad277, e277, hx277_0⟩ := Kd.at_int (by repeat (first | (with_reducible exact HR276_0.out) | (with_reducible refine Kd.C_alloc ?_ _) | (with_reducible refine Kd.C_drewN ?_ _) | (with_reducible refine Kd.C_drew ?_) | exact HR276_0.out)) x6_2 p277 q277
                                              cases e277
                                              replace p277 := eq_true p277
                                              replace q277 := eq_true q277
                                              obtain ⟨Ao44, co44, eo44⟩ := Kd.S_slice HO_4.out
                                              subst eo44
                                              have p278 : 0 ≤ (x5_1 : Int) := of_decide_eq_true (by first | (with_reducible assumption) | assumption)
                                              have q278 : x5_1 < (t268.length : Int) := of_decide_eq_true (by first | (with_reducible assumption) | assumption)
                                              obtain ⟨ad278, A278_0, c278_0, e278, hx278_0, hl278_0, hi278_0⟩ := at_L1 (Kd.S_reads' HO_4.out).2.2 x5_1 p278 q278
                                              cases e278
                                              obtain ⟨ce278, hce278, hMe278, hcc278⟩ := Kd.S_get HO_4.out [] x5_1 p278 (by first | exact q278 | exact of_decide_eq_true (by first | (with_reducible assumption) | assumption) | (have e_ := (Kd.S_reads' HO_4.out).1; omega))
                                              obtain ⟨ve278_0, rfl, ge278_0⟩ := hMe278
                                              have hv278_0 := hcc278 0 _ rfl
                                              rw [Nat.add_zero, show ((Kd.slice 3 (Kd.int .i64))).sz = 1 from rfl, Nat.mul_one] at hv278_0
                                              replace hv278_0 := Option.some.inj (hv278_0.symm.trans hx278_0)
                                              rw [hv278_0] at ge278_0
                                              have HL278_0 := Aside0.mk (show Kd.R (Kd.int .i64) 3 _ _ _ _ (rd_L1 t268 x5_1) from ge278_0)
                                              clear hv278_0 ge278_0
                                              clear hcc278 hce278
                                              have HR278_0 := Aside0.mk hi278_0
                                              have HC278_0 := Aside0.mk hl278_0
                                              clear hi278_0 hl278_0
                                              replace p278 := eq_true p278
                                              replace q278 := eq_true q278
                                              have p279 : 0 ≤ (x6_2 : Int) := of_decide_eq_true (by first | (with_reducible assumption) | assumption)
                                              have q279 : x6_2 < ((rd_L1 t268 x5_1).length : Int) := of_decide_eq_true (by first | (with_reducible assumption) | assumption)
                                              obtain ⟨ad279, e279, hx279_0⟩ := Kd.at_int (by repeat (first | (with_reducible exact HR278_0.out) | (with_reducible refine Kd.C_alloc ?_ _) | (with_reducible refine Kd.C_drewN ?_ _) | (with_reducible refine Kd.C_drew ?_) | exact HR278_0.out)) x6_2 p279 q279
                                              cases e279
                                              replace p279 := eq_true p279
                                              replace q279 := eq_true q279
                                              have p280 : 0 ≤ (x5_1 : Int) := of_decide_eq_true (by first | (with_reducible assumption) | assumption)
                                              have q280 : x5_1 < (t268.length : Int) := of_decide_eq_true (by first | (with_reducible assumption) | assumption)
                                              obtain ⟨ad280, A280_0, c280_0, e280, hx280_0, hl280_0, hi280_0⟩ := at_L1 (Kd.S_reads' HO_4.out).2.2 x5_1 p280 q280
                                              obtain rfl : ad278 = ad280 := (by injection e280)
                                              obtain ⟨ce280, hce280, hMe280, hcc280⟩ := Kd.S_get HO_4.out [] x5_1 p280 (by first | exact q280 | exact of_decide_eq_true (by first | (with_reducible assumption) | assumption) | (have e_ := (Kd.S_reads' HO_4.out).1; omega))
                                              obtain ⟨ve280_0, rfl, ge280_0⟩ := hMe280
                                              have hv280_0 := hcc280 0 _ rfl
                                              rw [Nat.add_zero, show ((Kd.slice 3 (Kd.int .i64))).sz = 1 from rfl, Nat.mul_one] at hv280_0
                                              replace hv280_0 := Option.some.inj (hv280_0.symm.trans hx280_0)
                                              rw [hv280_0] at ge280_0
                                              have HL280_0 := Aside0.mk (show Kd.R (Kd.int .i64) 3 _ _ _ _ (rd_L1 t268 x5_1) from ge280_0)
                                              clear hv280_0 ge280_0
                                              clear hcc280 hce280
                                              have HR280_0 := Aside0.mk hi280_0
                                              have HC280_0 := Aside0.mk hl280_0
                                              clear hi280_0 hl280_0
                                              replace p280 := eq_true p280
                                              replace q280 := eq_true q280
                                              have ea_ := Option.some.inj (hx278_0.symm.trans hx280_0)
                                              injection ea_ with ea_ en_ ec_
                                              subst ea_
                                              subst ec_
                                              clear en_
                                              have p281 : 0 ≤ (x6_2 : Int) := of_decide_eq_true (by first | (with_reducible assumption) | assumption)
                                              have q281 : x6_2 < ((rd_L1 t268 x5_1).length : Int) := of_decide_eq_true (by first | (with_reducible assumption) | assumption)
                                              obtain ⟨ad281, e281, hx281_0⟩ := Kd.at_int (by repeat (first | (with_reducible exact HR280_0.out) | (with_reducible refine Kd.C_alloc ?_ _) | (with_reducible refine Kd.C_drewN ?_ _) | (with_reducible refine Kd.C_drew ?_) | exact HR280_0.out)) x6_2 p281 q281
                                              cases e281
                                              replace p281 := eq_true p281
                                              replace q281 := eq_true q281
                                              have p282 : 0 ≤ (x5_1 : Int) := of_decide_eq_true (by first | (with_reducible assumption) | assumption)
                                              have q282 : x5_1 < (t265.length : Int) := of_decide_eq_true (by first | (with_reducible assumption) | assumption)
                                              obtain ⟨ad282, A282_0, c282_0, e282, hx282_0, hl282_0, hi282_0⟩ := at_L1 (Kd.S_reads' HO_3.out).2.2 x5_1 p282 q282
                                              obtain rfl : ad276 = ad282 := (by injection e282)
                                              obtain ⟨ce282, hce282, hMe282, hcc282⟩ := Kd.S_get HO_3.out [] x5_1 p282 (by first | exact q282 | exact of_decide_eq_true (by first | (with_reducible assumption) | assumption) | (have e_ := (Kd.S_reads' HO_3.out).1; omega))
                                              obtain ⟨ve282_0, rfl, ge282_0⟩ := hMe282
                                              have hv282_0 := hcc282 0 _ rfl
                                              rw [Nat.add_zero, show ((Kd.slice 3 (Kd.int .i64))).sz = 1 from rfl, Nat.mul_one] at hv282_0
                                              replace hv282_0 := Option.some.inj (hv282_0.symm.trans hx282_0)
                                              rw [hv282_0] at ge282_0
                                              have HL282_0 := Aside0.mk (show Kd.R (Kd.int .i64) 3 _ _ _ _ (rd_L1 t265 x5_1) from ge282_0)
                                              clear hv282_0 ge282_0
                                              clear hcc282 hce282
                                              have HR282_0 := Aside0.mk hi282_0
                                              have HC282_0 := Aside0.mk hl282_0
                                              clear hi282_0 hl282_0
                                              replace p282 := eq_true p282
                                              replace q282 := eq_true q282
                                              have ea_ := Option.some.inj (hx276_0.symm.trans hx282_0)
                                              injection ea_ with ea_ en_ ec_
                                              subst ea_
                                              subst ec_
                                              clear en_
                                              have p283 : 0 ≤ (x6_2 : Int) := of_decide_eq_true (by first | (with_reducible assumption) | assumption)
                                              have q283 : x6_2 < ((rd_L1 t265 x5_1).length : Int) := of_decide_eq_true (by first | (with_reducible assumption) | assumption)
                                              obtain ⟨ad283, e283, hx283_0⟩ := Kd.at_int (by repeat (first | (with_reducible exact HR282_0.out) | (with_reducible refine Kd.C_alloc ?_ _) | (with_reducible refine Kd.C_drewN ?_ _) | (with_reducible refine Kd.C_drew ?_) | exact HR282_0.out)) x6_2 p283 q283
                                              cases e283
                                              replace p283 := eq_true p283
                                              replace q283 := eq_true q283
                                              have p284 : 0 ≤ (x5_1 : Int) := of_decide_eq_true (by first | (with_reducible assumption) | assumption)
                                              have q284 : x5_1 < (t265.length : Int) := of_decide_eq_true (by first | (with_reducible assumption) | assumption)
                                              obtain ⟨ad284, A284_0, c284_0, e284, hx284_0, hl284_0, hi284_0⟩ := at_L1 (Kd.S_reads' HO_3.out).2.2 x5_1 p284 q284
                                              obtain rfl : ad276 = ad284 := (by injection e284)
                                              obtain ⟨ce284, hce284, hMe284, hcc284⟩ := Kd.S_get HO_3.out [] x5_1 p284 (by first | exact q284 | exact of_decide_eq_true (by first | (with_reducible assumption) | assumption) | (have e_ := (Kd.S_reads' HO_3.out).1; omega))
                                              obtain ⟨ve284_0, rfl, ge284_0⟩ := hMe284
                                              have hv284_0 := hcc284 0 _ rfl
                                              rw [Nat.add_zero, show ((Kd.slice 3 (Kd.int .i64))).sz = 1 from rfl, Nat.mul_one] at hv284_0
                                              replace hv284_0 := Option.some.inj (hv284_0.symm.trans hx284_0)
                                              rw [hv284_0] at ge284_0
                                              have HL284_0 := Aside0.mk (show Kd.R (Kd.int .i64) 3 _ _ _ _ (rd_L1 t265 x5_1) from ge284_0)
                                              clear hv284_0 ge284_0
                                              clear hcc284 hce284
                                              have HR284_0 := Aside0.mk hi284_0
                                              have HC284_0 := Aside0.mk hl284_0
                                              clear hi284_0 hl284_0
                                              replace p284 := eq_true p284
                                              replace q284 := eq_true q284
                                              have ea_ := Option.some.inj (hx276_0.symm.trans hx284_0)
                                              injection ea_ with ea_ en_ ec_
                                              subst ea_
                                              subst ec_
                                              clear en_
                                              have p285 : 0 ≤ (x6_2 : Int) := of_decide_eq_true (by first | (with_reducible assumption) | assumption)
                                              have q285 : x6_2 < ((rd_L1 t265 x5_1).length : Int) := of_decide_eq_true (by first | (with_reducible assumption) | assumption)
                                              obtain ⟨ad285, e285, hx285_0⟩ := Kd.at_int (by repeat (first | (with_reducible exact HR284_0.out) | (with_reducible refine Kd.C_alloc ?_ _) | (with_reducible refine Kd.C_drewN ?_ _) | (with_reducible refine Kd.C_drew ?_) | exact HR284_0.out)) x6_2 p285 q285
                                              cases e285
                                              replace p285 := eq_true p285
                                              replace q285 := eq_true q285
                                              have p286 : 0 ≤ (x5_1 : Int) := of_decide_eq_true (by first | (with_reducible assumption) | assumption)
                                              have q286 : x5_1 < (t268.length : Int) := of_decide_eq_true (by first | (with_reducible assumption) | assumption)
                                              obtain ⟨ad286, A286_0, c286_0, e286, hx286_0, hl286_0, hi286_0⟩ := at_L1 (Kd.S_reads' HO_4.out).2.2 x5_1 p286 q286
                                              obtain rfl : ad278 = ad286 := (by injection e286)
                                              obtain ⟨ce286, hce286, hMe286, hcc286⟩ := Kd.S_get HO_4.out [] x5_1 p286 (by first | exact q286 | exact of_decide_eq_true (by first | (with_reducible assumption) | assumption) | (have e_ := (Kd.S_reads' HO_4.out).1; omega))
                                              obtain ⟨ve286_0, rfl, ge286_0⟩ := hMe286
                                              have hv286_0 := hcc286 0 _ rfl
                                              rw [Nat.add_zero, show ((Kd.slice 3 (Kd.int .i64))).sz = 1 from rfl, Nat.mul_one] at hv286_0
                                              replace hv286_0 := Option.some.inj (hv286_0.symm.trans hx286_0)
                                              rw [hv286_0] at ge286_0
                                              have HL286_0 := Aside0.mk (show Kd.R (Kd.int .i64) 3 _ _ _ _ (rd_L1 t268 x5_1) from ge286_0)
                                              clear hv286_0 ge286_0
                                              clear hcc286 hce286
                                              have HR286_0 := Aside0.mk hi286_0
                                              have HC286_0 := Aside0.mk hl286_0
                                              clear hi286_0 hl286_0
                                              replace p286 := eq_true p286
                                              replace q286 := eq_true q286
                                              have ea_ := Option.some.inj (hx278_0.symm.trans hx286_0)
                                              injection ea_ with ea_ en_ ec_
                                              subst ea_
                                              subst ec_
                                              clear en_
                                              have p287 : 0 ≤ (x6_2 : Int) := of_decide_eq_true (by first | (with_reducible assumption) | assumption)
                                              have q287 : x6_2 < ((rd_L1 t268 x5_1).length : Int) := of_decide_eq_true (by first | (with_reducible assumption) | assumption)
                                              obtain ⟨ad287, e287, hx287_0⟩ := Kd.at_int (by repeat (first | (with_reducible exact HR286_0.out) | (with_reducible refine Kd.C_alloc ?_ _) | (with_reducible refine Kd.C_drewN ?_ _) | (with_reducible refine Kd.C_drew ?_) | exact HR286_0.out)) x6_2 p287 q287
                                              cases e287
                                              replace p287 := eq_true p287
                                              replace q287 := eq_true q287
                                              go_wp2
                                              (try dsimp only [List.append])
                                              repeat (go_quiet (fail); try go_wp2)
                                              go_meet
                                              case rel => first | exact ⟨_, ((t275 == x6_2)), (by first | rfl | (simp; done) | (simp [*]; done)), H', ⟨by have := HK1.out; have := HK2.out; first | omega | exact Nat.le_refl _⟩, ⟨by (with_reducible repeat (first | apply Kd.S_alloc | apply Kd.S_drewN | apply Kd.S_drew)); exact HO_3.out⟩, ⟨by (with_reducible repeat (first | apply Kd.S_alloc | apply Kd.S_drewN | apply Kd.S_drew)); exact HO_4.out⟩, ⟨by repeat (first | (with_reducible first | exact HB.out | apply below_alloc | apply pw_below_drewN | apply below_drew1) | exact HB.out)⟩⟩ | exact absurd ((show decide (0 ≤ x5_1) = true by assumption).symm.trans (show decide (0 ≤ x5_1) = false by assumption)) (by decide)
                                            · rw [if_neg c43] at H
                                              have c43b0 : decide (0 ≤ t275) = false := decide_eq_false c43
                                              clear c43
                                              have H' := Aside0.mk H
                                              clear H
                                              have p276 : 0 ≤ (x5_1 : Int) := of_decide_eq_true (by first | (with_reducible assumption) | assumption)
                                              have q276 : x5_1 < (t265.length : Int) := of_decide_eq_true (by first | (with_reducible assumption) | assumption)
                                              obtain ⟨ad276, A276_0, c276_0, e276, hx276_0, hl276_0, hi276_0⟩ := at_L1 (Kd.S_reads' HO_3.out).2.2 x5_1 p276 q276
                                              cases e276
                                              obtain ⟨ce276, hce276, hMe276, hcc276⟩ := Kd.S_get HO_3.out [] x5_1 p276 (by first | exact q276 | exact of_decide_eq_true (by first | (with_reducible assumption) | assumption) | (have e_ := (Kd.S_reads' HO_3.out).1; omega))
                                              obtain ⟨ve276_0, rfl, ge276_0⟩ := hMe276
                                              have hv276_0 := hcc276 0 _ rfl
                                              rw [Nat.add_zero, show ((Kd.slice 3 (Kd.int .i64))).sz = 1 from rfl, Nat.mul_one] at hv276_0
                                              replace hv276_0 := Option.some.inj (hv276_0.symm.trans hx276_0)
                                              rw [hv276_0] at ge276_0
                                              have HL276_0 := Aside0.mk (show Kd.R (Kd.int .i64) 3 _ _ _ _ (rd_L1 t265 x5_1) from ge276_0)
                                              clear hv276_0 ge276_0
                                              clear hcc276 hce276
                                              have HR276_0 := Aside0.mk hi276_0
                                              have HC276_0 := Aside0.mk hl276_0
                                              clear hi276_0 hl276_0
                                              replace p276 := eq_true p276
                                              replace q276 := eq_true q276
                                              have p277 : 0 ≤ (x6_2 : Int) := of_decide_eq_true (by first | (with_reducible assumption) | assumption)
                                              have q277 : x6_2 < ((rd_L1 t265 x5_1).length : Int) := of_decide_eq_true (by first | (with_reducible assumption) | assumption)
                                              obtain ⟨ad277, e277, hx277_0⟩ := Kd.at_int (by repeat (first | (with_reducible exact HR276_0.out) | (with_reducible refine Kd.C_alloc ?_ _) | (with_reducible refine Kd.C_drewN ?_ _) | (with_reducible refine Kd.C_drew ?_) | exact HR276_0.out)) x6_2 p277 q277
                                              cases e277
                                              replace p277 := eq_true p277
                                              replace q277 := eq_true q277
                                              obtain ⟨Ao45, co45, eo45⟩ := Kd.S_slice HO_4.out
                                              subst eo45
                                              have p278 : 0 ≤ (x5_1 : Int) := of_decide_eq_true (by first | (with_reducible assumption) | assumption)
                                              have q278 : x5_1 < (t268.length : Int) := of_decide_eq_true (by first | (with_reducible assumption) | assumption)
                                              obtain ⟨ad278, A278_0, c278_0, e278, hx278_0, hl278_0, hi278_0⟩ := at_L1 (Kd.S_reads' HO_4.out).2.2 x5_1 p278 q278
                                              cases e278
                                              obtain ⟨ce278, hce278, hMe278, hcc278⟩ := Kd.S_get HO_4.out [] x5_1 p278 (by first | exact q278 | exact of_decide_eq_true (by first | (with_reducible assumption) | assumption) | (have e_ := (Kd.S_reads' HO_4.out).1; omega))
                                              obtain ⟨ve278_0, rfl, ge278_0⟩ := hMe278
                                              have hv278_0 := hcc278 0 _ rfl
                                              rw [Nat.add_zero, show ((Kd.slice 3 (Kd.int .i64))).sz = 1 from rfl, Nat.mul_one] at hv278_0
                                              replace hv278_0 := Option.some.inj (hv278_0.symm.trans hx278_0)
                                              rw [hv278_0] at ge278_0
                                              have HL278_0 := Aside0.mk (show Kd.R (Kd.int .i64) 3 _ _ _ _ (rd_L1 t268 x5_1) from ge278_0)
                                              clear hv278_0 ge278_0
                                              clear hcc278 hce278
                                              have HR278_0 := Aside0.mk hi278_0
                                              have HC278_0 := Aside0.mk hl278_0
                                              clear hi278_0 hl278_0
                                              replace p278 := eq_true p278
                                              replace q278 := eq_true q278
                                              have p279 : 0 ≤ (x6_2 : Int) := of_decide_eq_true (by first | (with_reducible assumption) | assumption)
                                              have q279 : x6_2 < ((rd_L1 t268 x5_1).length : Int) := of_decide_eq_true (by first | (with_reducible assumption) | assumption)
                                              obtain ⟨ad279, e279, hx279_0⟩ := Kd.at_int (by repeat (first | (with_reducible exact HR278_0.out) | (with_reducible refine Kd.C_alloc ?_ _) | (with_reducible refine Kd.C_drewN ?_ _) | (with_reducible refine Kd.C_drew ?_) | exact HR278_0.out)) x6_2 p279 q279
                                              cases e279
                                              replace p279 := eq_true p279
                                              replace q279 := eq_true q279
                                              have p280 : 0 ≤ (x5_1 : Int) := of_decide_eq_true (by first | (with_reducible assumption) | assumption)
                                              have q280 : x5_1 < (t268.length : Int) := of_decide_eq_true (by first | (with_reducible assumption) | assumption)
                                              obtain ⟨ad280, A280_0, c280_0, e280, hx280_0, hl280_0, hi280_0⟩ := at_L1 (Kd.S_reads' HO_4.out).2.2 x5_1 p280 q280
                                              obtain rfl : ad278 = ad280 := (by injection e280)
                                              obtain ⟨ce280, hce280, hMe280, hcc280⟩ := Kd.S_get HO_4.out [] x5_1 p280 (by first | exact q280 | exact of_decide_eq_true (by first | (with_reducible assumption) | assumption) | (have e_ := (Kd.S_reads' HO_4.out).1; omega))
                                              obtain ⟨ve280_0, rfl, ge280_0⟩ := hMe280
                                              have hv280_0 := hcc280 0 _ rfl
                                              rw [Nat.add_zero, show ((Kd.slice 3 (Kd.int .i64))).sz = 1 from rfl, Nat.mul_one] at hv280_0
                                              replace hv280_0 := Option.some.inj (hv280_0.symm.trans hx280_0)
                                              rw [hv280_0] at ge280_0
                                              have HL280_0 := Aside0.mk (show Kd.R (Kd.int .i64) 3 _ _ _ _ (rd_L1 t268 x5_1) from ge280_0)
                                              clear hv280_0 ge280_0
                                              clear hcc280 hce280
                                              have HR280_0 := Aside0.mk hi280_0
                                              have HC280_0 := Aside0.mk hl280_0
                                              clear hi280_0 hl280_0
                                              replace p280 := eq_true p280
                                              replace q280 := eq_true q280
                                              have ea_ := Option.some.inj (hx278_0.symm.trans hx280_0)
                                              injection ea_ with ea_ en_ ec_
                                              subst ea_
                                              subst ec_
                                              clear en_
                                              have p281 : 0 ≤ (x6_2 : Int) := of_decide_eq_true (by first | (with_reducible assumption) | assumption)
                                              have q281 : x6_2 < ((rd_L1 t268 x5_1).length : Int) := of_decide_eq_true (by first | (with_reducible assumption) | assumption)
                                              obtain ⟨ad281, e281, hx281_0⟩ := Kd.at_int (by repeat (first | (with_reducible exact HR280_0.out) | (with_reducible refine Kd.C_alloc ?_ _) | (with_reducible refine Kd.C_drewN ?_ _) | (with_reducible refine Kd.C_drew ?_) | exact HR280_0.out)) x6_2 p281 q281
                                              cases e281
                                              replace p281 := eq_true p281
                                              replace q281 := eq_true q281
                                              have p282 : 0 ≤ (x5_1 : Int) := of_decide_eq_true (by first | (with_reducible assumption) | assumption)
                                              have q282 : x5_1 < (t265.length : Int) := of_decide_eq_true (by first | (with_reducible assumption) | assumption)
                                              obtain ⟨ad282, A282_0, c282_0, e282, hx282_0, hl282_0, hi282_0⟩ := at_L1 (Kd.S_reads' HO_3.out).2.2 x5_1 p282 q282
                                              obtain rfl : ad276 = ad282 := (by injection e282)
                                              obtain ⟨ce282, hce282, hMe282, hcc282⟩ := Kd.S_get HO_3.out [] x5_1 p282 (by first | exact q282 | exact of_decide_eq_true (by first | (with_reducible assumption) | assumption) | (have e_ := (Kd.S_reads' HO_3.out).1; omega))
                                              obtain ⟨ve282_0, rfl, ge282_0⟩ := hMe282
                                              have hv282_0 := hcc282 0 _ rfl
                                              rw [Nat.add_zero, show ((Kd.slice 3 (Kd.int .i64))).sz = 1 from rfl, Nat.mul_one] at hv282_0
                                              replace hv282_0 := Option.some.inj (hv282_0.symm.trans hx282_0)
                                              rw [hv282_0] at ge282_0
                                              have HL282_0 := Aside0.mk (show Kd.R (Kd.int .i64) 3 _ _ _ _ (rd_L1 t265 x5_1) from ge282_0)
                                              clear hv282_0 ge282_0
                                              clear hcc282 hce282
                                              have HR282_0 := Aside0.mk hi282_0
                                              have HC282_0 := Aside0.mk hl282_0
                                              clear hi282_0 hl282_0
                                              replace p282 := eq_true p282
                                              replace q282 := eq_true q282
                                              have ea_ := Option.some.inj (hx276_0.symm.trans hx282_0)
                                              injection ea_ with ea_ en_ ec_
                                              subst ea_
                                              subst ec_
                                              clear en_
                                              have p283 : 0 ≤ (x6_2 : Int) := of_decide_eq_true (by first | (with_reducible assumption) | assumption)
                                              have q283 : x6_2 < ((rd_L1 t265 x5_1).length : Int) := of_decide_eq_true (by first | (with_reducible assumption) | assumption)
                                              obtain ⟨ad283, e283, hx283_0⟩ := Kd.at_int (by repeat (first | (with_reducible exact HR282_0.out) | (with_reducible refine Kd.C_alloc ?_ _) | (with_reducible refine Kd.C_drewN ?_ _) | (with_reducible refine Kd.C_drew ?_) | exact HR282_0.out)) x6_2 p283 q283
                                              cases e283
                                              replace p283 := eq_true p283
                                              replace q283 := eq_true q283
                                              have p284 : 0 ≤ (x5_1 : Int) := of_decide_eq_true (by first | (with_reducible assumption) | assumption)
                                              have q284 : x5_1 < (t265.length : Int) := of_decide_eq_true (by first | (with_reducible assumption) | assumption)
                                              obtain ⟨ad284, A284_0, c284_0, e284, hx284_0, hl284_0, hi284_0⟩ := at_L1 (Kd.S_reads' HO_3.out).2.2 x5_1 p284 q284
                                              obtain rfl : ad276 = ad284 := (by injection e284)
                                              obtain ⟨ce284, hce284, hMe284, hcc284⟩ := Kd.S_get HO_3.out [] x5_1 p284 (by first | exact q284 | exact of_decide_eq_true (by first | (with_reducible assumption) | assumption) | (have e_ := (Kd.S_reads' HO_3.out).1; omega))
                                              obtain ⟨ve284_0, rfl, ge284_0⟩ := hMe284
                                              have hv284_0 := hcc284 0 _ rfl
                                              rw [Nat.add_zero, show ((Kd.slice 3 (Kd.int .i64))).sz = 1 from rfl, Nat.mul_one] at hv284_0
                                              replace hv284_0 := Option.some.inj (hv284_0.symm.trans hx284_0)
                                              rw [hv284_0] at ge284_0
                                              have HL284_0 := Aside0.mk (show Kd.R (Kd.int .i64) 3 _ _ _ _ (rd_L1 t265 x5_1) from ge284_0)
                                              clear hv284_0 ge284_0
                                              clear hcc284 hce284
                                              have HR284_0 := Aside0.mk hi284_0
                                              have HC284_0 := Aside0.mk hl284_0
                                              clear hi284_0 hl284_0
                                              replace p284 := eq_true p284
                                              replace q284 := eq_true q284
                                              have ea_ := Option.some.inj (hx276_0.symm.trans hx284_0)
                                              injection ea_ with ea_ en_ ec_
                                              subst ea_
                                              subst ec_
                                              clear en_
                                              have p285 : 0 ≤ (x6_2 : Int) := of_decide_eq_true (by first | (with_reducible assumption) | assumption)
                                              have q285 : x6_2 < ((rd_L1 t265 x5_1).length : Int) := of_decide_eq_true (by first | (with_reducible assumption) | assumption)
                                              obtain ⟨ad285, e285, hx285_0⟩ := Kd.at_int (by repeat (first | (with_reducible exact HR284_0.out) | (with_reducible refine Kd.C_alloc ?_ _) | (with_reducible refine Kd.C_drewN ?_ _) | (with_reducible refine Kd.C_drew ?_) | exact HR284_0.out)) x6_2 p285 q285
                                              cases e285
                                              replace p285 := eq_true p285
                                              replace q285 := eq_true q285
                                              have p286 : 0 ≤ (x5_1 : Int) := of_decide_eq_true (by first | (with_reducible assumption) | assumption)
                                              have q286 : x5_1 < (t268.length : Int) := of_decide_eq_true (by first | (with_reducible assumption) | assumption)
                                              obtain ⟨ad286, A286_0, c286_0, e286, hx286_0, hl286_0, hi286_0⟩ := at_L1 (Kd.S_reads' HO_4.out).2.2 x5_1 p286 q286
                                              obtain rfl : ad278 = ad286 := (by injection e286)
                                              obtain ⟨ce286, hce286, hMe286, hcc286⟩ := Kd.S_get HO_4.out [] x5_1 p286 (by first | exact q286 | exact of_decide_eq_true (by first | (with_reducible assumption) | assumption) | (have e_ := (Kd.S_reads' HO_4.out).1; omega))
                                              obtain ⟨ve286_0, rfl, ge286_0⟩ := hMe286
                                              have hv286_0 := hcc286 0 _ rfl
                                              rw [Nat.add_zero, show ((Kd.slice 3 (Kd.int .i64))).sz = 1 from rfl, Nat.mul_one] at hv286_0
                                              replace hv286_0 := Option.some.inj (hv286_0.symm.trans hx286_0)
                                              rw [hv286_0] at ge286_0
                                              have HL286_0 := Aside0.mk (show Kd.R (Kd.int .i64) 3 _ _ _ _ (rd_L1 t268 x5_1) from ge286_0)
                                              clear hv286_0 ge286_0
                                              clear hcc286 hce286
                                              have HR286_0 := Aside0.mk hi286_0
                                              have HC286_0 := Aside0.mk hl286_0
                                              clear hi286_0 hl286_0
                                              replace p286 := eq_true p286
                                              replace q286 := eq_true q286
                                              have ea_ := Option.some.inj (hx278_0.symm.trans hx286_0)
                                              injection ea_ with ea_ en_ ec_
                                              subst ea_
                                              subst ec_
                                              clear en_
                                              have p287 : 0 ≤ (x6_2 : Int) := of_decide_eq_true (by first | (with_reducible assumption) | assumption)
                                              have q287 : x6_2 < ((rd_L1 t268 x5_1).length : Int) := of_decide_eq_true (by first | (with_reducible assumption) | assumption)
                                              obtain ⟨ad287, e287, hx287_0⟩ := Kd.at_int (by repeat (first | (with_reducible exact HR286_0.out) | (with_reducible refine Kd.C_alloc ?_ _) | (with_reducible refine Kd.C_drewN ?_ _) | (with_reducible refine Kd.C_drew ?_) | exact HR286_0.out)) x6_2 p287 q287
                                              cases e287
                                              replace p287 := eq_true p287
                                              replace q287 := eq_true q287
                                              go_wp2
                                              (try dsimp only [List.append])
                                              repeat (go_quiet (fail); try go_wp2)
                                              go_meet
                                              case rel => exact ⟨_, (false), (by first | rfl | (simp; done) | (simp [*]; done)), H', ⟨by have := HK1.out; have := HK2.out; first | omega | exact Nat.le_refl _⟩, ⟨by (with_reducible repeat (first | apply Kd.S_alloc | apply Kd.S_drewN | apply Kd.S_drew)); exact HO_3.out⟩, ⟨by (with_reducible repeat (first | apply Kd.S_alloc | apply Kd.S_drewN | apply Kd.S_drew)); exact HO_4.out⟩, ⟨by repeat (first | (with_reducible first | exact HB.out | apply below_alloc | apply pw_below_drewN | apply below_drew1) | exact HB.out)⟩⟩
                                        · rw [if_neg c34] at H
                                          have c34b0 : ((wrap64 ((rd (rd_L1 t265 x5_1) x6_2) - (rd (rd_L1 t268 x5_1) x6_2))) == t274) = false := beq_eq_false_iff_ne.mpr c34
                                          have c34b1 : ((wrap64 ((rd (rd_L1 t265 x5_1) x6_2) - (rd (rd_L1 t268 x5_1) x6_2))) != t274) = true := bne_iff_ne.mpr c34
                                          have H' := Aside0.mk H
                                          clear H
                                          have p276 : 0 ≤ (x5_1 : Int) := of_decide_eq_true (by first | (with_reducible assumption) | assumption)
                                          have q276 : x5_1 < (t265.length : Int) := of_decide_eq_true (by first | (with_reducible assumption) | assumption)
                                          obtain ⟨ad276, A276_0, c276_0, e276, hx276_0, hl276_0, hi276_0⟩ := at_L1 (Kd.S_reads' HO_3.out).2.2 x5_1 p276 q276
                                          cases e276
                                          obtain ⟨ce276, hce276, hMe276, hcc276⟩ := Kd.S_get HO_3.out [] x5_1 p276 (by first | exact q276 | exact of_decide_eq_true (by first | (with_reducible assumption) | assumption) | (have e_ := (Kd.S_reads' HO_3.out).1; omega))
                                          obtain ⟨ve276_0, rfl, ge276_0⟩ := hMe276
                                          have hv276_0 := hcc276 0 _ rfl
                                          rw [Nat.add_zero, show ((Kd.slice 3 (Kd.int .i64))).sz = 1 from rfl, Nat.mul_one] at hv276_0
                                          replace hv276_0 := Option.some.inj (hv276_0.symm.trans hx276_0)
                                          rw [hv276_0] at ge276_0
                                          have HL276_0 := Aside0.mk (show Kd.R (Kd.int .i64) 3 _ _ _ _ (rd_L1 t265 x5_1) from ge276_0)
                                          clear hv276_0 ge276_0
                                          clear hcc276 hce276
                                          have HR276_0 := Aside0.mk hi276_0
                                          have HC276_0 := Aside0.mk hl276_0
                                          clear hi276_0 hl276_0
                                          replace p276 := eq_true p276
                                          replace q276 := eq_true q276
                                          have p277 : 0 ≤ (x6_2 : Int) := of_decide_eq_true (by first | (with_reducible assumption) | assumption)
                                          have q277 : x6_2 < ((rd_L1 t265 x5_1).length : Int) := of_decide_eq_true (by first | (with_reducible assumption) | assumption)
                                          obtain ⟨ad277, e277, hx277_0⟩ := Kd.at_int (by repeat (first | (with_reducible exact HR276_0.out) | (with_reducible refine Kd.C_alloc ?_ _) | (with_reducible refine Kd.C_drewN ?_ _) | (with_reducible refine Kd.C_drew ?_) | exact HR276_0.out)) x6_2 p277 q277
                                          cases e277
                                          replace p277 := eq_true p277
                                          replace q277 := eq_true q277
                                          obtain ⟨Ao46, co46, eo46⟩ := Kd.S_slice HO_4.out
                                          subst eo46
                                          have p278 : 0 ≤ (x5_1 : Int) := of_decide_eq_true (by first | (with_reducible assumption) | assumption)
                                          have q278 : x5_1 < (t268.length : Int) := of_decide_eq_true (by first | (with_reducible assumption) | assumption)
                                          obtain ⟨ad278, A278_0, c278_0, e278, hx278_0, hl278_0, hi278_0⟩ := at_L1 (Kd.S_reads' HO_4.out).2.2 x5_1 p278 q278
                                          cases e278
                                          obtain ⟨ce278, hce278, hMe278, hcc278⟩ := Kd.S_get HO_4.out [] x5_1 p278 (by first | exact q278 | exact of_decide_eq_true (by first | (with_reducible assumption) | assumption) | (have e_ := (Kd.S_reads' HO_4.out).1; omega))
                                          obtain ⟨ve278_0, rfl, ge278_0⟩ := hMe278
                                          have hv278_0 := hcc278 0 _ rfl
                                          rw [Nat.add_zero, show ((Kd.slice 3 (Kd.int .i64))).sz = 1 from rfl, Nat.mul_one] at hv278_0
                                          replace hv278_0 := Option.some.inj (hv278_0.symm.trans hx278_0)
                                          rw [hv278_0] at ge278_0
                                          have HL278_0 := Aside0.mk (show Kd.R (Kd.int .i64) 3 _ _ _ _ (rd_L1 t268 x5_1) from ge278_0)
                                          clear hv278_0 ge278_0
                                          clear hcc278 hce278
                                          have HR278_0 := Aside0.mk hi278_0
                                          have HC278_0 := Aside0.mk hl278_0
                                          clear hi278_0 hl278_0
                                          replace p278 := eq_true p278
                                          replace q278 := eq_true q278
                                          have p279 : 0 ≤ (x6_2 : Int) := of_decide_eq_true (by first | (with_reducible assumption) | assumption)
                                          have q279 : x6_2 < ((rd_L1 t268 x5_1).length : Int) := of_decide_eq_true (by first | (with_reducible assumption) | assumption)
                                          obtain ⟨ad279, e279, hx279_0⟩ := Kd.at_int (by repeat (first | (with_reducible exact HR278_0.out) | (with_reducible refine Kd.C_alloc ?_ _) | (with_reducible refine Kd.C_drewN ?_ _) | (with_reducible refine Kd.C_drew ?_) | exact HR278_0.out)) x6_2 p279 q279
                                          cases e279
                                          replace p279 := eq_true p279
                                          replace q279 := eq_true q279
                                          have p280 : 0 ≤ (x5_1 : Int) := of_decide_eq_true (by first | (with_reducible assumption) | assumption)
                                          have q280 : x5_1 < (t268.length : Int) := of_decide_eq_true (by first | (with_reducible assumption) | assumption)
                                          obtain ⟨ad280, A280_0, c280_0, e280, hx280_0, hl280_0, hi280_0⟩ := at_L1 (Kd.S_reads' HO_4.out).2.2 x5_1 p280 q280
                                          obtain rfl : ad278 = ad280 := (by injection e280)
                                          obtain ⟨ce280, hce280, hMe280, hcc280⟩ := Kd.S_get HO_4.out [] x5_1 p280 (by first | exact q280 | exact of_decide_eq_true (by first | (with_reducible assumption) | assumption) | (have e_ := (Kd.S_reads' HO_4.out).1; omega))
                                          obtain ⟨ve280_0, rfl, ge280_0⟩ := hMe280
                                          have hv280_0 := hcc280 0 _ rfl
                                          rw [Nat.add_zero, show ((Kd.slice 3 (Kd.int .i64))).sz = 1 from rfl, Nat.mul_one] at hv280_0
                                          replace hv280_0 := Option.some.inj (hv280_0.symm.trans hx280_0)
                                          rw [hv280_0] at ge280_0
                                          have HL280_0 := Aside0.mk (show Kd.R (Kd.int .i64) 3 _ _ _ _ (rd_L1 t268 x5_1) from ge280_0)
                                          clear hv280_0 ge280_0
                                          clear hcc280 hce280
                                          have HR280_0 := Aside0.mk hi280_0
                                          have HC280_0 := Aside0.mk hl280_0
                                          clear hi280_0 hl280_0
                                          replace p280 := eq_true p280
                                          replace q280 := eq_true q280
                                          have ea_ := Option.some.inj (hx278_0.symm.trans hx280_0)
                                          injection ea_ with ea_ en_ ec_
                                          subst ea_
                                          subst ec_
                                          clear en_
                                          have p281 : 0 ≤ (x6_2 : Int) := of_decide_eq_true (by first | (with_reducible assumption) | assumption)
                                          have q281 : x6_2 < ((rd_L1 t268 x5_1).length : Int) := of_decide_eq_true (by first | (with_reducible assumption) | assumption)
                                          obtain ⟨ad281, e281, hx281_0⟩ := Kd.at_int (by repeat (first | (with_reducible exact HR280_0.out) | (with_reducible refine Kd.C_alloc ?_ _) | (with_reducible refine Kd.C_drewN ?_ _) | (with_reducible refine Kd.C_drew ?_) | exact HR280_0.out)) x6_2 p281 q281
                                          cases e281
                                          replace p281 := eq_true p281
                                          replace q281 := eq_true q281
                                          have p282 : 0 ≤ (x5_1 : Int) := of_decide_eq_true (by first | (with_reducible assumption) | assumption)
                                          have q282 : x5_1 < (t265.length : Int) := of_decide_eq_true (by first | (with_reducible assumption) | assumption)
                                          obtain ⟨ad282, A282_0, c282_0, e282, hx282_0, hl282_0, hi282_0⟩ := at_L1 (Kd.S_reads' HO_3.out).2.2 x5_1 p282 q282
                                          obtain rfl : ad276 = ad282 := (by injection e282)
                                          obtain ⟨ce282, hce282, hMe282, hcc282⟩ := Kd.S_get HO_3.out [] x5_1 p282 (by first | exact q282 | exact of_decide_eq_true (by first | (with_reducible assumption) | assumption) | (have e_ := (Kd.S_reads' HO_3.out).1; omega))
                                          obtain ⟨ve282_0, rfl, ge282_0⟩ := hMe282
                                          have hv282_0 := hcc282 0 _ rfl
                                          rw [Nat.add_zero, show ((Kd.slice 3 (Kd.int .i64))).sz = 1 from rfl, Nat.mul_one] at hv282_0
                                          replace hv282_0 := Option.some.inj (hv282_0.symm.trans hx282_0)
                                          rw [hv282_0] at ge282_0
                                          have HL282_0 := Aside0.mk (show Kd.R (Kd.int .i64) 3 _ _ _ _ (rd_L1 t265 x5_1) from ge282_0)
                                          clear hv282_0 ge282_0
                                          clear hcc282 hce282
                                          have HR282_0 := Aside0.mk hi282_0
                                          have HC282_0 := Aside0.mk hl282_0
                                          clear hi282_0 hl282_0
                                          replace p282 := eq_true p282
                                          replace q282 := eq_true q282
                                          have ea_ := Option.some.inj (hx276_0.symm.trans hx282_0)
                                          injection ea_ with ea_ en_ ec_
                                          subst ea_
                                          subst ec_
                                          clear en_
                                          have p283 : 0 ≤ (x6_2 : Int) := of_decide_eq_true (by first | (with_reducible assumption) | assumption)
                                          have q283 : x6_2 < ((rd_L1 t265 x5_1).length : Int) := of_decide_eq_true (by first | (with_reducible assumption) | assumption)
                                          obtain ⟨ad283, e283, hx283_0⟩ := Kd.at_int (by repeat (first | (with_reducible exact HR282_0.out) | (with_reducible refine Kd.C_alloc ?_ _) | (with_reducible refine Kd.C_drewN ?_ _) | (with_reducible refine Kd.C_drew ?_) | exact HR282_0.out)) x6_2 p283 q283
                                          cases e283
                                          replace p283 := eq_true p283
                                          replace q283 := eq_true q283
                                          have p284 : 0 ≤ (x5_1 : Int) := of_decide_eq_true (by first | (with_reducible assumption) | assumption)
                                          have q284 : x5_1 < (t265.length : Int) := of_decide_eq_true (by first | (with_reducible assumption) | assumption)
                                          obtain ⟨ad284, A284_0, c284_0, e284, hx284_0, hl284_0, hi284_0⟩ := at_L1 (Kd.S_reads' HO_3.out).2.2 x5_1 p284 q284
                                          obtain rfl : ad276 = ad284 := (by injection e284)
                                          obtain ⟨ce284, hce284, hMe284, hcc284⟩ := Kd.S_get HO_3.out [] x5_1 p284 (by first | exact q284 | exact of_decide_eq_true (by first | (with_reducible assumption) | assumption) | (have e_ := (Kd.S_reads' HO_3.out).1; omega))
                                          obtain ⟨ve284_0, rfl, ge284_0⟩ := hMe284
                                          have hv284_0 := hcc284 0 _ rfl
                                          rw [Nat.add_zero, show ((Kd.slice 3 (Kd.int .i64))).sz = 1 from rfl, Nat.mul_one] at hv284_0
                                          replace hv284_0 := Option.some.inj (hv284_0.symm.trans hx284_0)
                                          rw [hv284_0] at ge284_0
                                          have HL284_0 := Aside0.mk (show Kd.R (Kd.int .i64) 3 _ _ _ _ (rd_L1 t265 x5_1) from ge284_0)
                                          clear hv284_0 ge284_0
                                          clear hcc284 hce284
                                          have HR284_0 := Aside0.mk hi284_0
                                          have HC284_0 := Aside0.mk hl284_0
                                          clear hi284_0 hl284_0
                                          replace p284 := eq_true p284
                                          replace q284 := eq_true q284
                                          have ea_ := Option.some.inj (hx276_0.symm.trans hx284_0)
                                          injection ea_ with ea_ en_ ec_
                                          subst ea_
                                          subst ec_
                                          clear en_
                                          have p285 : 0 ≤ (x6_2 : Int) := of_decide_eq_true (by first | (with_reducible assumption) | assumption)
                                          have q285 : x6_2 < ((rd_L1 t265 x5_1).length : Int) := of_decide_eq_true (by first | (with_reducible assumption) | assumption)
                                          obtain ⟨ad285, e285, hx285_0⟩ := Kd.at_int (by repeat (first | (with_reducible exact HR284_0.out) | (with_reducible refine Kd.C_alloc ?_ _) | (with_reducible refine Kd.C_drewN ?_ _) | (with_reducible refine Kd.C_drew ?_) | exact HR284_0.out)) x6_2 p285 q285
                                          cases e285
                                          replace p285 := eq_true p285
                                          replace q285 := eq_true q285
                                          have p286 : 0 ≤ (x5_1 : Int) := of_decide_eq_true (by first | (with_reducible assumption) | assumption)
                                          have q286 : x5_1 < (t268.length : Int) := of_decide_eq_true (by first | (with_reducible assumption) | assumption)
                                          obtain ⟨ad286, A286_0, c286_0, e286, hx286_0, hl286_0, hi286_0⟩ := at_L1 (Kd.S_reads' HO_4.out).2.2 x5_1 p286 q286
                                          obtain rfl : ad278 = ad286 := (by injection e286)
                                          obtain ⟨ce286, hce286, hMe286, hcc286⟩ := Kd.S_get HO_4.out [] x5_1 p286 (by first | exact q286 | exact of_decide_eq_true (by first | (with_reducible assumption) | assumption) | (have e_ := (Kd.S_reads' HO_4.out).1; omega))
                                          obtain ⟨ve286_0, rfl, ge286_0⟩ := hMe286
                                          have hv286_0 := hcc286 0 _ rfl
                                          rw [Nat.add_zero, show ((Kd.slice 3 (Kd.int .i64))).sz = 1 from rfl, Nat.mul_one] at hv286_0
                                          replace hv286_0 := Option.some.inj (hv286_0.symm.trans hx286_0)
                                          rw [hv286_0] at ge286_0
                                          have HL286_0 := Aside0.mk (show Kd.R (Kd.int .i64) 3 _ _ _ _ (rd_L1 t268 x5_1) from ge286_0)
                                          clear hv286_0 ge286_0
                                          clear hcc286 hce286
                                          have HR286_0 := Aside0.mk hi286_0
                                          have HC286_0 := Aside0.mk hl286_0
                                          clear hi286_0 hl286_0
                                          replace p286 := eq_true p286
                                          replace q286 := eq_true q286
                                          have ea_ := Option.some.inj (hx278_0.symm.trans hx286_0)
                                          injection ea_ with ea_ en_ ec_
                                          subst ea_
                                          subst ec_
                                          clear en_
                                          have p287 : 0 ≤ (x6_2 : Int) := of_decide_eq_true (by first | (with_reducible assumption) | assumption)
                                          have q287 : x6_2 < ((rd_L1 t268 x5_1).length : Int) := of_decide_eq_true (by first | (with_reducible assumption) | assumption)
                                          obtain ⟨ad287, e287, hx287_0⟩ := Kd.at_int (by repeat (first | (with_reducible exact HR286_0.out) | (with_reducible refine Kd.C_alloc ?_ _) | (with_reducible refine Kd.C_drewN ?_ _) | (with_reducible refine Kd.C_drew ?_) | exact HR286_0.out)) x6_2 p287 q287
                                          cases e287
                                          replace p287 := eq_true p287
                                          replace q287 := eq_true q287
                                          go_wp2
                                          (try dsimp only [List.append])
                                          repeat (go_quiet (fail); try go_wp2)
                                          go_meet
                                          case rel => exact ⟨_, (true), (by first | rfl | (simp; done) | (simp [*]; done)), H', ⟨by have := HK1.out; have := HK2.out; first | omega | exact Nat.le_refl _⟩, ⟨by (with_reducible repeat (first | apply Kd.S_alloc | apply Kd.S_drewN | apply Kd.S_drew)); exact HO_3.out⟩, ⟨by (with_reducible repeat (first | apply Kd.S_alloc | apply Kd.S_drewN | apply Kd.S_drew)); exact HO_4.out⟩, ⟨by repeat (first | (with_reducible first | exact HB.out | apply below_alloc | apply pw_below_drewN | apply below_drew1) | exact HB.out)⟩⟩
                                  · rw [if_neg c29] at H
                                    exact absurd H (by simp)
                                · rw [if_neg c28] at H
                                  exact absurd H (by simp)
                              · rw [if_neg c27] at H
                                have c27b0 : decide (0 ≤ (rd (rd_L1 t265 x5_1) x6_2)) = false := decide_eq_false c27
                                clear c27
                                by_cases c47 : t275 = x5_1
                                · rw [if_pos c47] at H
                                  have c47b0 : (t275 == x5_1) = true := beq_iff_eq.mpr c47
                                  have c47b1 : (t275 != x5_1) = false := bne_eq_false_iff_eq.mpr c47
                                  clear c47
                                  by_cases c48 : x5_1 ≥ 0
                                  · rw [if_pos c48] at H
                                    have c48b0 : decide (0 ≤ x5_1) = true := decide_eq_true c48
                                    clear c48
                                    by_cases c49 : t275 ≥ 0
                                    · rw [if_pos c49] at H
                                      have c49b0 : decide (0 ≤ t275) = true := decide_eq_true c49
                                      clear c49
                                      have H' := Aside0.mk H
                                      clear H
                                      have p276 : 0 ≤ (x5_1 : Int) := of_decide_eq_true (by first | (with_reducible assumption) | assumption)
                                      have q276 : x5_1 < (t265.length : Int) := of_decide_eq_true (by first | (with_reducible assumption) | assumption)
                                      obtain ⟨ad276, A276_0, c276_0, e276, hx276_0, hl276_0, hi276_0⟩ := at_L1 (Kd.S_reads' HO_3.out).2.2 x5_1 p276 q276
                                      cases e276
                                      obtain ⟨ce276, hce276, hMe276, hcc276⟩ := Kd.S_get HO_3.out [] x5_1 p276 (by first | exact q276 | exact of_decide_eq_true (by first | (with_reducible assumption) | assumption) | (have e_ := (Kd.S_reads' HO_3.out).1; omega))
                                      obtain ⟨ve276_0, rfl, ge276_0⟩ := hMe276
                                      have hv276_0 := hcc276 0 _ rfl
                                      rw [Nat.add_zero, show ((Kd.slice 3 (Kd.int .i64))).sz = 1 from rfl, Nat.mul_one] at hv276_0
                                      replace hv276_0 := Option.some.inj (hv276_0.symm.trans hx276_0)
                                      rw [hv276_0] at ge276_0
                                      have HL276_0 := Aside0.mk (show Kd.R (Kd.int .i64) 3 _ _ _ _ (rd_L1 t265 x5_1) from ge276_0)
                                      clear hv276_0 ge276_0
                                      clear hcc276 hce276
                                      have HR276_0 := Aside0.mk hi276_0
                                      have HC276_0 := Aside0.mk hl276_0
                                      clear hi276_0 hl276_0
                                      replace p276 := eq_true p276
                                      replace q276 := eq_true q276
                                      have p277 : 0 ≤ (x6_2 : Int) := of_decide_eq_true (by first | (with_reducible assumption) | assumption)
                                      have q277 : x6_2 < ((rd_L1 t265 x5_1).length : Int) := of_decide_eq_true (by first | (with_reducible assumption) | assumption)
                                      obtain ⟨ad277, e277, hx277_0⟩ := Kd.at_int (by repeat (first | (with_reducible exact HR276_0.out) | (with_reducible refine Kd.C_alloc ?_ _) | (with_reducible refine Kd.C_drewN ?_ _) | (with_reducible refine Kd.C_drew ?_) | exact HR276_0.out)) x6_2 p277 q277
                                      cases e277
                                      replace p277 := eq_true p277
                                      replace q277 := eq_true q277
                                      go_wp2
                                      (try dsimp only [List.append])
                                      repeat (go_quiet (fail); try go_wp2)
                                      go_meet
                                      case rel => exact ⟨_, (true), (by first | rfl | (simp; done) | (simp [*]; done)), H', ⟨by have := HK1.out; have := HK2.out; first | omega | exact Nat.le_refl _⟩, ⟨by (with_reducible repeat (first | apply Kd.S_alloc | apply Kd.S_drewN | apply Kd.S_drew)); exact HO_3.out⟩, ⟨by (with_reducible repeat (first | apply Kd.S_alloc | apply Kd.S_drewN | apply Kd.S_drew)); exact HO_4.out⟩, ⟨by repeat (first | (with_reducible first | exact HB.out | apply below_alloc | apply pw_below_drewN | apply below_drew1) | exact HB.out)⟩⟩
                                    · rw [if_neg c49] at H
                                      have c49b0 : decide (0 ≤ t275) = false := decide_eq_false c49
                                      clear c49
                                      have H' := Aside0.mk H
                                      clear H
                                      have p276 : 0 ≤ (x5_1 : Int) := of_decide_eq_true (by first | (with_reducible assumption) | assumption)
                                      have q276 : x5_1 < (t265.length : Int) := of_decide_eq_true (by first | (with_reducible assumption) | assumption)
                                      obtain ⟨ad276, A276_0, c276_0, e276, hx276_0, hl276_0, hi276_0⟩ := at_L1 (Kd.S_reads' HO_3.out).2.2 x5_1 p276 q276
                                      cases e276
                                      obtain ⟨ce276, hce276, hMe276, hcc276⟩ := Kd.S_get HO_3.out [] x5_1 p276 (by first | exact q276 | exact of_decide_eq_true (by first | (with_reducible assumption) | assumption) | (have e_ := (Kd.S_reads' HO_3.out).1; omega))
                                      obtain ⟨ve276_0, rfl, ge276_0⟩ := hMe276
                                      have hv276_0 := hcc276 0 _ rfl
                                      rw [Nat.add_zero, show ((Kd.slice 3 (Kd.int .i64))).sz = 1 from rfl, Nat.mul_one] at hv276_0
                                      replace hv276_0 := Option.some.inj (hv276_0.symm.trans hx276_0)
                                      rw [hv276_0] at ge276_0
                                      have HL276_0 := Aside0.mk (show Kd.R (Kd.int .i64) 3 _ _ _ _ (rd_L1 t265 x5_1) from ge276_0)
                                      clear hv276_0 ge276_0
                                      clear hcc276 hce276
                                      have HR276_0 := Aside0.mk hi276_0
                                      have HC276_0 := Aside0.mk hl276_0
                                      clear hi276_0 hl276_0
                                      replace p276 := eq_true p276
                                      replace q276 := eq_true q276
                                      have p277 : 0 ≤ (x6_2 : Int) := of_decide_eq_true (by first | (with_reducible assumption) | assumption)
                                      have q277 : x6_2 < ((rd_L1 t265 x5_1).length : Int) := of_decide_eq_true (by first | (with_reducible assumption) | assumption)
                                      obtain ⟨ad277, e277, hx277_0⟩ := Kd.at_int (by repeat (first | (with_reducible exact HR276_0.out) | (with_reducible refine Kd.C_alloc ?_ _) | (with_reducible refine Kd.C_drewN ?_ _) | (with_reducible refine Kd.C_drew ?_) | exact HR276_0.out)) x6_2 p277 q277
                                      cases e277
                                      replace p277 := eq_true p277
                                      replace q277 := eq_true q277
                                      go_wp2
                                      (try dsimp only [List.append])
                                      repeat (go_quiet (fail); try go_wp2)
                                      go_meet
                                      case rel => exact ⟨_, (false), (by first | rfl | (simp; done) | (simp [*]; done)), H', ⟨by have := HK1.out; have := HK2.out; first | omega | exact Nat.le_refl _⟩, ⟨by (with_reducible repeat (first | apply Kd.S_alloc | apply Kd.S_drewN | apply Kd.S_drew)); exact HO_3.out⟩, ⟨by (with_reducible repeat (first | apply Kd.S_alloc | apply Kd.S_drewN | apply Kd.S_drew)); exact HO_4.out⟩, ⟨by repeat (first | (with_reducible first | exact HB.out | apply below_alloc | apply pw_below_drewN | apply below_drew1) | exact HB.out)⟩⟩
                                  · rw [if_neg c48] at H
                                    have c48b0 : decide (0 ≤ x5_1) = false := decide_eq_false c48
                                    clear c48
                                    by_cases c50 : t275 ≥ 0
                                    · rw [if_pos c50] at H
                                      have c50b0 : decide (0 ≤ t275) = true := decide_eq_true c50
                                      clear c50
                                      have H' := Aside0.mk H
                                      clear H
                                      have p276 : 0 ≤ (x5_1 : Int) := of_decide_eq_true (by first | (with_reducible assumption) | assumption)
                                      have q276 : x5_1 < (t265.length : Int) := of_decide_eq_true (by first | (with_reducible assumption) | assumption)
                                      obtain ⟨ad276, A276_0, c276_0, e276, hx276_0, hl276_0, hi276_0⟩ := at_L1 (Kd.S_reads' HO_3.out).2.2 x5_1 p276 q276
                                      cases e276
                                      obtain ⟨ce276, hce276, hMe276, hcc276⟩ := Kd.S_get HO_3.out [] x5_1 p276 (by first | exact q276 | exact of_decide_eq_true (by first | (with_reducible assumption) | assumption) | (have e_ := (Kd.S_reads' HO_3.out).1; omega))
                                      obtain ⟨ve276_0, rfl, ge276_0⟩ := hMe276
                                      have hv276_0 := hcc276 0 _ rfl
                                      rw [Nat.add_zero, show ((Kd.slice 3 (Kd.int .i64))).sz = 1 from rfl, Nat.mul_one] at hv276_0
                                      replace hv276_0 := Option.some.inj (hv276_0.symm.trans hx276_0)
                                      rw [hv276_0] at ge276_0
                                      have HL276_0 := Aside0.mk (show Kd.R (Kd.int .i64) 3 _ _ _ _ (rd_L1 t265 x5_1) from ge276_0)
                                      clear hv276_0 ge276_0
                                      clear hcc276 hce276
                                      have HR276_0 := Aside0.mk hi276_0
                                      have HC276_0 := Aside0.mk hl276_0
                                      clear hi276_0 hl276_0
                                      replace p276 := eq_true p276
                                      replace q276 := eq_true q276
                                      have p277 : 0 ≤ (x6_2 : Int) := of_decide_eq_true (by first | (with_reducible assumption) | assumption)
                                      have q277 : x6_2 < ((rd_L1 t265 x5_1).length : Int) := of_decide_eq_true (by first | (with_reducible assumption) | assumption)
                                      obtain ⟨ad277, e277, hx277_0⟩ := Kd.at_int (by repeat (first | (with_reducible exact HR276_0.out) | (with_reducible refine Kd.C_alloc ?_ _) | (with_reducible refine Kd.C_drewN ?_ _) | (with_reducible refine Kd.C_drew ?_) | exact HR276_0.out)) x6_2 p277 q277
                                      cases e277
                                      replace p277 := eq_true p277
                                      replace q277 := eq_true q277
                                      go_wp2
                                      (try dsimp only [List.append])
                                      repeat (go_quiet (fail); try go_wp2)
                                      go_meet
                                      case rel => first | exact ⟨_, ((t275 == x6_2)), (by first | rfl | (simp; done) | (simp [*]; done)), H', ⟨by have := HK1.out; have := HK2.out; first | omega | exact Nat.le_refl _⟩, ⟨by (with_reducible repeat (first | apply Kd.S_alloc | apply Kd.S_drewN | apply Kd.S_drew)); exact HO_3.out⟩, ⟨by (with_reducible repeat (first | apply Kd.S_alloc | apply Kd.S_drewN | apply Kd.S_drew)); exact HO_4.out⟩, ⟨by repeat (first | (with_reducible first | exact HB.out | apply below_alloc | apply pw_below_drewN | apply below_drew1) | exact HB.out)⟩⟩ | exact absurd ((show decide (0 ≤ x5_1) = true by assumption).symm.trans (show decide (0 ≤ x5_1) = false by assumption)) (by decide)
                                    · rw [if_neg c50] at H
                                      have c50b0 : decide (0 ≤ t275) = false := decide_eq_false c50
                                      clear c50
                                      have H' := Aside0.mk H
                                      clear H
                                      have p276 : 0 ≤ (x5_1 : Int) := of_decide_eq_true (by first | (with_reducible assumption) | assumption)
                                      have q276 : x5_1 < (t265.length : Int) := of_decide_eq_true (by first | (with_reducible assumption) | assumption)
                                      obtain ⟨ad276, A276_0, c276_0, e276, hx276_0, hl276_0, hi276_0⟩ := at_L1 (Kd.S_reads' HO_3.out).2.2 x5_1 p276 q276
                                      cases e276
                                      obtain ⟨ce276, hce276, hMe276, hcc276⟩ := Kd.S_get HO_3.out [] x5_1 p276 (by first | exact q276 | exact of_decide_eq_true (by first | (with_reducible assumption) | assumption) | (have e_ := (Kd.S_reads' HO_3.out).1; omega))
                                      obtain ⟨ve276_0, rfl, ge276_0⟩ := hMe276
                                      have hv276_0 := hcc276 0 _ rfl
                                      rw [Nat.add_zero, show ((Kd.slice 3 (Kd.int .i64))).sz = 1 from rfl, Nat.mul_one] at hv276_0
                                      replace hv276_0 := Option.some.inj (hv276_0.symm.trans hx276_0)
                                      rw [hv276_0] at ge276_0
                                      have HL276_0 := Aside0.mk (show Kd.R (Kd.int .i64) 3 _ _ _ _ (rd_L1 t265 x5_1) from ge276_0)
                                      clear hv276_0 ge276_0
                                      clear hcc276 hce276
                                      have HR276_0 := Aside0.mk hi276_0
                                      have HC276_0 := Aside0.mk hl276_0
                                      clear hi276_0 hl276_0
                                      replace p276 := eq_true p276
                                      replace q276 := eq_true q276
                                      have p277 : 0 ≤ (x6_2 : Int) := of_decide_eq_true (by first | (with_reducible assumption) | assumption)
                                      have q277 : x6_2 < ((rd_L1 t265 x5_1).length : Int) := of_decide_eq_true (by first | (with_reducible assumption) | assumption)
                                      obtain ⟨ad277, e277, hx277_0⟩ := Kd.at_int (by repeat (first | (with_reducible exact HR276_0.out) | (with_reducible refine Kd.C_alloc ?_ _) | (with_reducible refine Kd.C_drewN ?_ _) | (with_reducible refine Kd.C_drew ?_) | exact HR276_0.out)) x6_2 p277 q277
                                      cases e277
                                      replace p277 := eq_true p277
                                      replace q277 := eq_true q277
                                      go_wp2
                                      (try dsimp only [List.append])
                                      repeat (go_quiet (fail); try go_wp2)
                                      go_meet
                                      case rel => exact ⟨_, (false), (by first | rfl | (simp; done) | (simp [*]; done)), H', ⟨by have := HK1.out; have := HK2.out; first | omega | exact Nat.le_refl _⟩, ⟨by (with_reducible repeat (first | apply Kd.S_alloc | apply Kd.S_drewN | apply Kd.S_drew)); exact HO_3.out⟩, ⟨by (with_reducible repeat (first | apply Kd.S_alloc | apply Kd.S_drewN | apply Kd.S_drew)); exact HO_4.out⟩, ⟨by repeat (first | (with_reducible first | exact HB.out | apply below_alloc | apply pw_below_drewN | apply below_drew1) | exact HB.out)⟩⟩
                                · rw [if_neg c47] at H
                                  have c47b0 : (t275 == x5_1) = false := beq_eq_false_iff_ne.mpr c47
                                  have c47b1 : (t275 != x5_1) = true := bne_iff_ne.mpr c47
                                  by_cases c51 : t275 ≥ 0
                                  · rw [if_pos c51] at H
                                    have c51b0 : decide (0 ≤ t275) = true := decide_eq_true c51
                                    clear c51
                                    have H' := Aside0.mk H
                                    clear H
                                    have p276 : 0 ≤ (x5_1 : Int) := of_decide_eq_true (by first | (with_reducible assumption) | assumption)
                                    have q276 : x5_1 < (t265.length : Int) := of_decide_eq_true (by first | (with_reducible assumption) | assumption)
                                    obtain ⟨ad276, A276_0, c276_0, e276, hx276_0, hl276_0, hi276_0⟩ := at_L1 (Kd.S_reads' HO_3.out).2.2 x5_1 p276 q276
                                    cases e276
                                    obtain ⟨ce276, hce276, hMe276, hcc276⟩ := Kd.S_get HO_3.out [] x5_1 p276 (by first | exact q276 | exact of_decide_eq_true (by first | (with_reducible assumption) | assumption) | (have e_ := (Kd.S_reads' HO_3.out).1; omega))
                                    obtain ⟨ve276_0, rfl, ge276_0⟩ := hMe276
                                    have hv276_0 := hcc276 0 _ rfl
                                    rw [Nat.add_zero, show ((Kd.slice 3 (Kd.int .i64))).sz = 1 from rfl, Nat.mul_one] at hv276_0
                                    replace hv276_0 := Option.some.inj (hv276_0.symm.trans hx276_0)
                                    rw [hv276_0] at ge276_0
                                    have HL276_0 := Aside0.mk (show Kd.R (Kd.int .i64) 3 _ _ _ _ (rd_L1 t265 x5_1) from ge276_0)
                                    clear hv276_0 ge276_0
                                    clear hcc276 hce276
                                    have HR276_0 := Aside0.mk hi276_0
                                    have HC276_0 := Aside0.mk hl276_0
                                    clear hi276_0 hl276_0
                                    replace p276 := eq_true p276
                                    replace q276 := eq_true q276
                                    have p277 : 0 ≤ (x6_2 : Int) := of_decide_eq_true (by first | (with_reducible assumption) | assumption)
                                    have q277 : x6_2 < ((rd_L1 t265 x5_1).length : Int) := of_decide_eq_true (by first | (with_reducible assumption) | assumption)
                                    obtain ⟨ad277, e277, hx277_0⟩ := Kd.at_int (by repeat (first | (with_reducible exact HR276_0.out) | (with_reducible refine Kd.C_alloc ?_ _) | (with_reducible refine Kd.C_drewN ?_ _) | (with_reducible refine Kd.C_drew ?_) | exact HR276_0.out)) x6_2 p277 q277
                                    cases e277
                                    replace p277 := eq_true p277
                                    replace q277 := eq_true q277
                                    go_wp2
                                    (try dsimp only [List.append])
                                    repeat (go_quiet (fail); try go_wp2)
                                    go_meet
                                    case rel => first | exact ⟨_, ((t275 == x6_2)), (by first | rfl | (simp; done) | (simp [*]; done)), H', ⟨by have := HK1.out; have := HK2.out; first | omega | exact Nat.le_refl _⟩, ⟨by (with_reducible repeat (first | apply Kd.S_alloc | apply Kd.S_drewN | apply Kd.S_drew)); exact HO_3.out⟩, ⟨by (with_reducible repeat (first | apply Kd.S_alloc | apply Kd.S_drewN | apply Kd.S_drew)); exact HO_4.out⟩, ⟨by repeat (first | (with_reducible first | exact HB.out | apply below_alloc | apply pw_below_drewN | apply below_drew1) | exact HB.out)⟩⟩ | exact absurd ((show decide (0 ≤ x5_1) = true by assumption).symm.trans (show decide (0 ≤ x5_1) = false by assumption)) (by decide)
                                  · rw [if_neg c51] at H
                                    have c51b0 : decide (0 ≤ t275) = false := decide_eq_false c51
                                    clear c51
                                    have H' := Aside0.mk H
                                    clear H
                                    have p276 : 0 ≤ (x5_1 : Int) := of_decide_eq_true (by first | (with_reducible assumption) | assumption)
                                    have q276 : x5_1 < (t265.length : Int) := of_decide_eq_true (by first | (with_reducible assumption) | assumption)
                                    obtain ⟨ad276, A276_0, c276_0, e276, hx276_0, hl276_0, hi276_0⟩ := at_L1 (Kd.S_reads' HO_3.out).2.2 x5_1 p276 q276
                                    cases e276
                                    obtain ⟨ce276, hce276, hMe276, hcc276⟩ := Kd.S_get HO_3.out [] x5_1 p276 (by first | exact q276 | exact of_decide_eq_true (by first | (with_reducible assumption) | assumption) | (have e_ := (Kd.S_reads' HO_3.out).1; omega))
                                    obtain ⟨ve276_0, rfl, ge276_0⟩ := hMe276
                                    have hv276_0 := hcc276 0 _ rfl
                                    rw [Nat.add_zero, show ((Kd.slice 3 (Kd.int .i64))).sz = 1 from rfl, Nat.mul_one] at hv276_0
                                    replace hv276_0 := Option.some.inj (hv276_0.symm.trans hx276_0)
                                    rw [hv276_0] at ge276_0
                                    have HL276_0 := Aside0.mk (show Kd.R (Kd.int .i64) 3 _ _ _ _ (rd_L1 t265 x5_1) from ge276_0)
                                    clear hv276_0 ge276_0
                                    clear hcc276 hce276
                                    have HR276_0 := Aside0.mk hi276_0
                                    have HC276_0 := Aside0.mk hl276_0
                                    clear hi276_0 hl276_0
                                    replace p276 := eq_true p276
                                    replace q276 := eq_true q276
                                    have p277 : 0 ≤ (x6_2 : Int) := of_decide_eq_true (by first | (with_reducible assumption) | assumption)
                                    have q277 : x6_2 < ((rd_L1 t265 x5_1).length : Int) := of_decide_eq_true (by first | (with_reducible assumption) | assumption)
                                    obtain ⟨ad277, e277, hx277_0⟩ := Kd.at_int (by repeat (first | (with_reducible exact HR276_0.out) | (with_reducible refine Kd.C_alloc ?_ _) | (with_reducible refine Kd.C_drewN ?_ _) | (with_reducible refine Kd.C_drew ?_) | exact HR276_0.out)) x6_2 p277 q277
                                    cases e277
                                    replace p277 := eq_true p277
                                    replace q277 := eq_true q277
                                    go_wp2
                                    (try dsimp only [List.append])
                                    repeat (go_quiet (fail); try go_wp2)
                                    go_meet
                                    case rel => exact ⟨_, (false), (by first | rfl | (simp; done) | (simp [*]; done)), H', ⟨by have := HK1.out; have := HK2.out; first | omega | exact Nat.le_refl _⟩, ⟨by (with_reducible repeat (first | apply Kd.S_alloc | apply Kd.S_drewN | apply Kd.S_drew)); exact HO_3.out⟩, ⟨by (with_reducible repeat (first | apply Kd.S_alloc | apply Kd.S_drewN | apply Kd.S_drew)); exact HO_4.out⟩, ⟨by repeat (first | (with_reducible first | exact HB.out | apply below_alloc | apply pw_below_drewN | apply below_drew1) | exact HB.out)⟩⟩
                            · rw [if_neg c26] at H
                              exact absurd H (by simp)
                          · rw [if_neg c25] at H
                            exact absurd H (by simp)
                        · rw [if_neg c24] at H
                          exact absurd H (by simp)
                      · rw [if_neg c23] at H
                        exact absurd H (by simp)
                    case rest =>
                      clear HC21
                      try clear c2
                      try clear p2
                      try clear q2
                      try clear hx2
                      try clear c3
                      try clear c4
                      try clear c5
                      try clear p6
                      try clear c23
                      try clear c24
                      try clear c25
                      try clear c26
                      try clear c27
                      try clear c27b0
                      try clear p27
                      try clear q27
                      try clear hx27
                      try clear c28
                      try clear p28
                      try clear q28
                      try clear hx28
                      try clear c29
                      try clear c34
                      try clear c34b0
                      try clear c34b1
                      try clear c43
                      try clear c43b0
                      try clear c47
                      try clear c47b0
                      try clear c47b1
                      try clear c48
                      try clear c48b0
                      try clear c49
                      try clear c49b0
                      try clear c50
                      try clear c50b0
                      try clear c51
                      try clear c51b0
                      try clear hx276_0
                      try clear hx277_0
                      try clear hx278_0
                      try clear hx279_0
                      try clear hx280_0
                      try clear hx281_0
                      try clear hx282_0
                      try clear hx283_0
                      try clear hx284_0
                      try clear hx285_0
                      try clear hx286_0
                      try clear hx287_0
                      try clear p276
                      try clear p277
                      try clear p278
                      try clear p279
                      try clear p280
                      try clear p281
                      try clear p282
                      try clear p283
                      try clear p284
                      try clear p285
                      try clear p286
                      try clear p287
                      try clear q276
                      try clear q277
                      try clear q278
                      try clear q279
                      try clear q280
                      try clear q281
                      try clear q282
                      try clear q283
                      try clear q284
                      try clear q285
                      try clear q286
                      try clear q287
                      obtain ⟨kq, x123_20, rfl, HA, HJ20, HO_3, HO_4, HB⟩ := hcut
                      cases kq with
                      | zero => exact absurd HA.out (by simp [laws_FnOverlays.j2])
                      | succ kj20 =>
                        have H := HA.out
                        clear HA
                        simp only [laws_FnOverlays.j2] at H
                        by_cases c52 : x123_20 = true
                        · subst c52
                          have H1 : (some false) = some r := by rw [if_pos rfl] at H; exact H
                          clear H
                          have H := H1
                          clear H1
                          exact absurd ((Option.some.inj H).trans hT.out) (by decide)
                        · replace c52 := Bool.eq_false_iff.mpr c52
                          subst c52
                          have H1 : (laws_FnOverlays.l2 kj20 t265 t268 x5_1 x6_2 t275 0) = some r := by rw [if_neg (show ¬ (false = true) by decide)] at H; exact H
                          clear H
                          have H := H1
                          clear H1
                          have H' := Aside0.mk H
                          clear H
                          go_wp2
                          (try dsimp only [List.append])
                          repeat (go_quiet (fail); try go_wp2)
                          go_loopg [9] kj20 (fun kq v9 w' => ∃ (x9_4 : Int), v9 = .int .i64 x9_4 ∧ Aside0 (laws_FnOverlays.l2 kq t265 t268 x5_1 x6_2 t275 x9_4 = some r) ∧ Aside0 (kq ≤ kj20) ∧ Aside0 (Kd.S (Kd.slice 3 (Kd.int .i64)) 24 w' w.heap.size (fun k_ => some k_ ≠ (v269 : Value).ownBlock) (.slice Ao15 t265.length co15) t265) ∧ Aside0 (Kd.S (Kd.slice 3 (Kd.int .i64)) 24 w' w.heap.size (fun k_ => some k_ ≠ ((.slice Ao15 t265.length co15) : Value).ownBlock) v269 t268) ∧ Aside0 (Below w.heap.size w w'))
                          case atStart => exact ⟨(0), (by first | rfl | (simp; done) | (simp [*]; done)), H', ⟨Nat.le_refl _⟩, ⟨by (with_reducible repeat (first | apply Kd.S_alloc | apply Kd.S_drewN | apply Kd.S_drew)); exact HO_3.out⟩, ⟨by (with_reducible repeat (first | apply Kd.S_alloc | apply Kd.S_drewN | apply Kd.S_drew)); exact HO_4.out⟩, ⟨by repeat (first | (with_reducible first | exact HB.out | apply below_alloc | apply pw_below_drewN | apply below_drew1) | exact HB.out)⟩⟩
                          case round =>
                            clear H'
                            try clear c2
                            try clear p2
                            try clear q2
                            try clear hx2
                            try clear c3
                            try clear c4
                            try clear c5
                            try clear p6
                            try clear c23
                            try clear c24
                            try clear c25
                            try clear c26
                            try clear c27
                            try clear c27b0
                            try clear p27
                            try clear q27
                            try clear hx27
                            try clear c28
                            try clear p28
                            try clear q28
                            try clear hx28
                            try clear c29
                            try clear c34
                            try clear c34b0
                            try clear c34b1
                            try clear c43
                            try clear c43b0
                            try clear c47
                            try clear c47b0
                            try clear c47b1
                            try clear c48
                            try clear c48b0
                            try clear c49
                            try clear c49b0
                            try clear c50
                            try clear c50b0
                            try clear c51
                            try clear c51b0
                            try clear c52
                            try clear hx276_0
                            try clear hx277_0
                            try clear hx278_0
                            try clear hx279_0
                            try clear hx280_0
                            try clear hx281_0
                            try clear hx282_0
                            try clear hx283_0
                            try clear hx284_0
                            try clear hx285_0
                            try clear hx286_0
                            try clear hx287_0
                            try clear p2
                            try clear p27
                            try clear p276
                            try clear p277
                            try clear p278
                            try clear p279
                            try clear p28
                            try clear p280
                            try clear p281
                            try clear p282
                            try clear p283
                            try clear p284
                            try clear p285
                            try clear p286
                            try clear p287
                            try clear p6
                            try clear q2
                            try clear q27
                            try clear q276
                            try clear q277
                            try clear q278
                            try clear q279
                            try clear q28
                            try clear q280
                            try clear q281
                            try clear q282
                            try clear q283
                            try clear q284
                            try clear q285
                            try clear q286
                            try clear q287
                            obtain ⟨x9_4, rfl, HA, HK4, HO_3, HO_4, HB⟩ := hrel
                            cases gk with
                            | zero => exact absurd HA.out (by simp [laws_FnOverlays.l2])
                            | succ k4 =>
                              have H := HA.out
                              clear HA
                              simp only [laws_FnOverlays.l2] at H
                              by_cases c53 : x9_4 < (t265.length : Int)
                              · rw [if_pos c53] at H
                                have c53b0 : decide (x9_4 < (t265.length : Int)) = true := decide_eq_true c53
                                clear c53
                                replace H := Option.bind_eq_some_iff.mp H
                                obtain ⟨t288, A540, H⟩ := H
                                replace H : (if x9_4 = x5_1 then (laws_FnOverlays.l2 k4 t265 t268 x5_1 x6_2 t275 (wrap64 (x9_4 + 1))) else (if x9_4 = x6_2 then (laws_FnOverlays.l2 k4 t265 t268 x5_1 x6_2 t275 (wrap64 (x9_4 + 1))) else (if t288 ≥ 0 then (if t275 < 0 then (some false) else ((impl_TimeOver.f k4 t265 x5_1 t275 x6_2).bind fun t289 => (if t289 > t288 then (some false) else (if 0 ≤ x5_1 then (if x5_1 < (t268.length : Int) then (if 0 ≤ x6_2 then (if x6_2 < ((rd_L1 t268 x5_1).length : Int) then (if (rd (rd_L1 t268 x5_1) x6_2) > t288 then (some false) else (laws_FnOverlays.l2 k4 t265 t268 x5_1 x6_2 t275 (wrap64 (x9_4 + 1)))) else (none)) else (none)) else (none)) else (none))))) else (laws_FnOverlays.l2 k4 t265 t268 x5_1 x6_2 t275 (wrap64 (x9_4 + 1)))))) = some r := H
                                have A54 := Aside0.mk A540
                                clear A540
                                by_cases c55 : x9_4 = x5_1
                                · rw [if_pos c55] at H
                                  have c55b0 : (x9_4 == x5_1) = true := beq_iff_eq.mpr c55
                                  have c55b1 : (x9_4 != x5_1) = false := bne_eq_false_iff_eq.mpr c55
                                  clear c55
                                  have H' := Aside0.mk H
                                  clear H
                                  go_wp2_with (first | (go_at_call 55; (with_reducible refine (impl_TimeOver.calls k4 _ _ t265 x5_1 x9_4 x6_2 t288 _ ?side1 ?side2 A54.out).mono ?_); (case side1 => repeat (first | exact (Kd.S_reads' HO_3.out).2.2 | (with_reducible refine Kd.C_alloc ?_ _) | (with_reducible refine Kd.C_drewN ?_ _) | (with_reducible refine Kd.C_drew ?_))); (case side2 => exact (Kd.S_reads' HO_3.out).2.1); rintro e w' ⟨rfl, ⟨nd, rfl⟩⟩; (try first | exact ⟨rfl, _, World.drewN_drewN _ _ _⟩ | exact ⟨rfl, _, Eq.trans (World.drewN_drewN _ _ _) (congrArg (World.drewN _) (Nat.add_assoc _ _ _))⟩)))
                                  (try dsimp only [List.append])
                                  repeat (go_quiet (first | (go_at_call 55; (with_reducible refine (impl_TimeOver.calls k4 _ _ t265 x5_1 x9_4 x6_2 t288 _ ?side1 ?side2 A54.out).mono ?_); (case side1 => repeat (first | exact (Kd.S_reads' HO_3.out).2.2 | (with_reducible refine Kd.C_alloc ?_ _) | (with_reducible refine Kd.C_drewN ?_ _) | (with_reducible refine Kd.C_drew ?_))); (case side2 => exact (Kd.S_reads' HO_3.out).2.1); rintro e w' ⟨rfl, ⟨nd, rfl⟩⟩; (try first | exact ⟨rfl, _, World.drewN_drewN _ _ _⟩ | exact ⟨rfl, _, Eq.trans (World.drewN_drewN _ _ _) (congrArg (World.drewN _) (Nat.add_assoc _ _ _))⟩))); try go_wp2_with (first | (go_at_call 55; (with_reducible refine (impl_TimeOver.calls k4 _ _ t265 x5_1 x9_4 x6_2 t288 _ ?side1 ?side2 A54.out).mono ?_); (case side1 => repeat (first | exact (Kd.S_reads' HO_3.out).2.2 | (with_reducible refine Kd.C_alloc ?_ _) | (with_reducible refine Kd.C_drewN ?_ _) | (with_reducible refine Kd.C_drew ?_))); (case side2 => exact (Kd.S_reads' HO_3.out).2.1); rintro e w' ⟨rfl, ⟨nd, rfl⟩⟩; (try first | exact ⟨rfl, _, World.drewN_drewN _ _ _⟩ | exact ⟨rfl, _, Eq.trans (World.drewN_drewN _ _ _) (congrArg (World.drewN _) (Nat.add_assoc _ _ _))⟩))))
                                  go_roundg k4
                                  case measure => have := HK1.out; have := HK2.out; have := HJ20.out; have := HK4.out; omega
                                  case rel => exact ⟨(wrap64 (x9_4 + 1)), (by first | rfl | (simp; done) | (simp [*]; done)), H', ⟨by have := HK1.out; have := HK2.out; have := HJ20.out; have := HK4.out; omega⟩, ⟨by (with_reducible repeat (first | apply Kd.S_alloc | apply Kd.S_drewN | apply Kd.S_drew)); exact HO_3.out⟩, ⟨by (with_reducible repeat (first | apply Kd.S_alloc | apply Kd.S_drewN | apply Kd.S_drew)); exact HO_4.out⟩, ⟨by repeat (first | (with_reducible first | exact HB.out | apply below_alloc | apply pw_below_drewN | apply below_drew1) | exact HB.out)⟩⟩
                                · rw [if_neg c55] at H
                                  have c55b0 : (x9_4 == x5_1) = false := beq_eq_false_iff_ne.mpr c55
                                  have c55b1 : (x9_4 != x5_1) = true := bne_iff_ne.mpr c55
                                  by_cases c56 : x9_4 = x6_2
                                  · rw [if_pos c56] at H
                                    have c56b0 : (x9_4 == x6_2) = true := beq_iff_eq.mpr c56
                                    have c56b1 : (x9_4 != x6_2) = false := bne_eq_false_iff_eq.mpr c56
                                    clear c56
                                    have H' := Aside0.mk H
                                    clear H
                                    go_wp2_with (first | (go_at_call 55; (with_reducible refine (impl_TimeOver.calls k4 _ _ t265 x5_1 x9_4 x6_2 t288 _ ?side1 ?side2 A54.out).mono ?_); (case side1 => repeat (first | exact (Kd.S_reads' HO_3.out).2.2 | (with_reducible refine Kd.C_alloc ?_ _) | (with_reducible refine Kd.C_drewN ?_ _) | (with_reducible refine Kd.C_drew ?_))); (case side2 => exact (Kd.S_reads' HO_3.out).2.1); rintro e w' ⟨rfl, ⟨nd, rfl⟩⟩; (try first | exact ⟨rfl, _, World.drewN_drewN _ _ _⟩ | exact ⟨rfl, _, Eq.trans (World.drewN_drewN _ _ _) (congrArg (World.drewN _) (Nat.add_assoc _ _ _))⟩)))
                                    (try dsimp only [List.append])
                                    repeat (go_quiet (first | (go_at_call 55; (with_reducible refine (impl_TimeOver.calls k4 _ _ t265 x5_1 x9_4 x6_2 t288 _ ?side1 ?side2 A54.out).mono ?_); (case side1 => repeat (first | exact (Kd.S_reads' HO_3.out).2.2 | (with_reducible refine Kd.C_alloc ?_ _) | (with_reducible refine Kd.C_drewN ?_ _) | (with_reducible refine Kd.C_drew ?_))); (case side2 => exact (Kd.S_reads' HO_3.out).2.1); rintro e w' ⟨rfl, ⟨nd, rfl⟩⟩; (try first | exact ⟨rfl, _, World.drewN_drewN _ _ _⟩ | exact ⟨rfl, _, Eq.trans (World.drewN_drewN _ _ _) (congrArg (World.drewN _) (Nat.add_assoc _ _ _))⟩))); try go_wp2_with (first | (go_at_call 55; (with_reducible refine (impl_TimeOver.calls k4 _ _ t265 x5_1 x9_4 x6_2 t288 _ ?side1 ?side2 A54.out).mono ?_); (case side1 => repeat (first | exact (Kd.S_reads' HO_3.out).2.2 | (with_reducible refine Kd.C_alloc ?_ _) | (with_reducible refine Kd.C_drewN ?_ _) | (with_reducible refine Kd.C_drew ?_))); (case side2 => exact (Kd.S_reads' HO_3.out).2.1); rintro e w' ⟨rfl, ⟨nd, rfl⟩⟩; (try first | exact ⟨rfl, _, World.drewN_drewN _ _ _⟩ | exact ⟨rfl, _, Eq.trans (World.drewN_drewN _ _ _) (congrArg (World.drewN _) (Nat.add_assoc _ _ _))⟩))))
                                    go_roundg k4
                                    case measure => have := HK1.out; have := HK2.out; have := HJ20.out; have := HK4.out; omega
                                    case rel => exact ⟨(wrap64 (x9_4 + 1)), (by first | rfl | (simp; done) | (simp [*]; done)), H', ⟨by have := HK1.out; have := HK2.out; have := HJ20.out; have := HK4.out; omega⟩, ⟨by (with_reducible repeat (first | apply Kd.S_alloc | apply Kd.S_drewN | apply Kd.S_drew)); exact HO_3.out⟩, ⟨by (with_reducible repeat (first | apply Kd.S_alloc | apply Kd.S_drewN | apply Kd.S_drew)); exact HO_4.out⟩, ⟨by repeat (first | (with_reducible first | exact HB.out | apply below_alloc | apply pw_below_drewN | apply below_drew1) | exact HB.out)⟩⟩
                                  · rw [if_neg c56] at H
                                    have c56b0 : (x9_4 == x6_2) = false := beq_eq_false_iff_ne.mpr c56
                                    have c56b1 : (x9_4 != x6_2) = true := bne_iff_ne.mpr c56
                                    by_cases c57 : t288 ≥ 0
                                    · rw [if_pos c57] at H
                                      have c57b0 : decide (0 ≤ t288) = true := decide_eq_true c57
                                      clear c57
                                      by_cases c58 : t275 < 0
                                      · rw [if_pos c58] at H
                                        have c58b0 : decide (t275 < 0) = true := decide_eq_true c58
                                        clear c58
                                        exact absurd ((Option.some.inj H).trans hT.out) (by decide)
                                      · rw [if_neg c58] at H
                                        have c58b0 : decide (t275 < 0) = false := decide_eq_false c58
                                        clear c58
                                        replace H := Option.bind_eq_some_iff.mp H
                                        obtain ⟨t289, A590, H⟩ := H
                                        replace H : (if t289 > t288 then (some false) else (if 0 ≤ x5_1 then (if x5_1 < (t268.length : Int) then (if 0 ≤ x6_2 then (if x6_2 < ((rd_L1 t268 x5_1).length : Int) then (if (rd (rd_L1 t268 x5_1) x6_2) > t288 then (some false) else (laws_FnOverlays.l2 k4 t265 t268 x5_1 x6_2 t275 (wrap64 (x9_4 + 1)))) else (none)) else (none)) else (none)) else (none))) = some r := H
                                        have A59 := Aside0.mk A590
                                        clear A590
                                        by_cases c60 : t289 > t288
                                        · rw [if_pos c60] at H
                                          have c60b0 : decide (t288 < t289) = true := decide_eq_true c60
                                          clear c60
                                          exact absurd ((Option.some.inj H).trans hT.out) (by decide)
                                        · rw [if_neg c60] at H
                                          have c60b0 : decide (t288 < t289) = false := decide_eq_false c60
                                          clear c60
                                          by_cases c61 : 0 ≤ x5_1
                                          · rw [if_pos c61] at H
                                            have c61b0 : decide (0 ≤ x5_1) = true := decide_eq_true c61
                                            clear c61
                                            by_cases c62 : x5_1 < (t268.length : Int)
                                            · rw [if_pos c62] at H
                                              have c62b0 : decide (x5_1 < (t268.length : Int)) = true := decide_eq_true c62
                                              clear c62
                                              by_cases c63 : 0 ≤ x6_2
                                              · rw [if_pos c63] at H
                                                have c63b0 : decide (0 ≤ x6_2) = true := decide_eq_true c63
                                                clear c63
                                                by_cases c64 : x6_2 < ((rd_L1 t268 x5_1).length : Int)
                                                · rw [if_pos c64] at H
                                                  have c64b0 : decide (x6_2 < ((rd_L1 t268 x5_1).length : Int)) = true := decide_eq_true c64
                                                  clear c64
                                                  by_cases c65 : (rd (rd_L1 t268 x5_1) x6_2) > t288
                                                  · rw [if_pos c65] at H
                                                    have c65b0 : decide (t288 < (rd (rd_L1 t268 x5_1) x6_2)) = true := decide_eq_true c65
                                                    clear c65
                                                    exact absurd ((Option.some.inj H).trans hT.out) (by decide)
                                                  · rw [if_neg c65] at H
                                                    have c65b0 : decide (t288 < (rd (rd_L1 t268 x5_1) x6_2)) = false := decide_eq_false c65
                                                    clear c65
                                                    have H' := Aside0.mk H
                                                    clear H
                                                    obtain ⟨Ao67, co67, eo67⟩ := Kd.S_slice HO_4.out; subst eo67; have p290 : 0 ≤ (x5_1 : Int) := of_decide_eq_true (by first | (with_reducible assumption) | assumption); have q290 : x5_1 < (t268.length : Int) := of_decide_eq_true (by first | (with_reducible assumption) | assumption); obtain ⟨ad290, A290_0, c290_0, e290, hx290_0, hl290_0, hi290_0⟩ := at_L1 (Kd.S_reads' HO_4.out).2.2 x5_1 p290 q290; cases e290; obtain ⟨ce290, hce290, hMe290, hcc290⟩ := Kd.S_get HO_4.out [] x5_1 p290 (by first | exact q290 | exact of_decide_eq_true (by first | (with_reducible assumption) | assumption) | (have e_ := (Kd.S_reads' HO_4.out).1; omega)); obtain ⟨ve290_0, rfl, ge290_0⟩ := hMe290; have hv290_0 := hcc290 0 _ rfl; rw [Nat.add_zero, show ((Kd.slice 3 (Kd.int .i64))).sz = 1 from rfl, Nat.mul_one] at hv290_0; replace hv290_0 := Option.some.inj (hv290_0.symm.trans hx290_0); rw [hv290_0] at ge290_0; have HL290_0 := Aside0.mk (show Kd.R (Kd.int .i64) 3 _ _ _ _ (rd_L1 t268 x5_1) from ge290_0); clear hv290_0 ge290_0; clear hcc290 hce290; have HR290_0 := Aside0.mk hi290_0; have HC290_0 := Aside0.mk hl290_0; clear hi290_0 hl290_0; replace p290 := eq_true p290; replace q290 := eq_true q290; have p291 : 0 ≤ (x6_2 : Int) := of_decide_eq_true (by first | (with_reducible assumption) | assumption); have q291 : x6_2 < ((rd_L1 t268 x5_1).length : Int) := of_decide_eq_true (by first | (with_reducible assumption) | assumption); obtain ⟨ad291, e291, hx291_0⟩ := Kd.at_int (by repeat (first | (with_reducible exact HR290_0.out) | (with_reducible refine Kd.C_alloc ?_ _) | (with_reducible refine Kd.C_drewN ?_ _) | (with_reducible refine Kd.C_drew ?_) | exact HR290_0.out)) x6_2 p291 q291; cases e291; replace p291 := eq_true p291; replace q291 := eq_true q291
                                                    go_wp2_with (first | (go_at_call 55; (with_reducible refine (impl_TimeOver.calls k4 _ _ t265 x5_1 x9_4 x6_2 t288 _ ?side1 ?side2 A54.out).mono ?_); (case side1 => repeat (first | exact (Kd.S_reads' HO_3.out).2.2 | (with_reducible refine Kd.C_alloc ?_ _) | (with_reducible refine Kd.C_drewN ?_ _) | (with_reducible refine Kd.C_drew ?_))); (case side2 => exact (Kd.S_reads' HO_3.out).2.1); rintro e w' ⟨rfl, ⟨nd, rfl⟩⟩; (try first | exact ⟨rfl, _, World.drewN_drewN _ _ _⟩ | exact ⟨rfl, _, Eq.trans (World.drewN_drewN _ _ _) (congrArg (World.drewN _) (Nat.add_assoc _ _ _))⟩)) | (go_at_call 55; (with_reducible refine (impl_TimeOver.calls k4 _ _ t265 x5_1 t275 x6_2 t289 _ ?side1 ?side2 A59.out).mono ?_); (case side1 => repeat (first | exact (Kd.S_reads' HO_3.out).2.2 | (with_reducible refine Kd.C_alloc ?_ _) | (with_reducible refine Kd.C_drewN ?_ _) | (with_reducible refine Kd.C_drew ?_))); (case side2 => exact (Kd.S_reads' HO_3.out).2.1); rintro e w' ⟨rfl, ⟨nd, rfl⟩⟩; (try first | exact ⟨rfl, _, World.drewN_drewN _ _ _⟩ | exact ⟨rfl, _, Eq.trans (World.drewN_drewN _ _ _) (congrArg (World.drewN _) (Nat.add_assoc _ _ _))⟩)))
                                                    (try dsimp only [List.append])
                                                    repeat (go_quiet (first | (go_at_call 55; (with_reducible refine (impl_TimeOver.calls k4 _ _ t265 x5_1 x9_4 x6_2 t288 _ ?side1 ?side2 A54.out).mono ?_); (case side1 => repeat (first | exact (Kd.S_reads' HO_3.out).2.2 | (with_reducible refine Kd.C_alloc ?_ _) | (with_reducible refine Kd.C_drewN ?_ _) | (with_reducible refine Kd.C_drew ?_))); (case side2 => exact (Kd.S_reads' HO_3.out).2.1); rintro e w' ⟨rfl, ⟨nd, rfl⟩⟩; (try first | exact ⟨rfl, _, World.drewN_drewN _ _ _⟩ | exact ⟨rfl, _, Eq.trans (World.drewN_drewN _ _ _) (congrArg (World.drewN _) (Nat.add_assoc _ _ _))⟩)) | (go_at_call 55; (with_reducible refine (impl_TimeOver.calls k4 _ _ t265 x5_1 t275 x6_2 t289 _ ?side1 ?side2 A59.out).mono ?_); (case side1 => repeat (first | exact (Kd.S_reads' HO_3.out).2.2 | (with_reducible refine Kd.C_alloc ?_ _) | (with_reducible refine Kd.C_drewN ?_ _) | (with_reducible refine Kd.C_drew ?_))); (case side2 => exact (Kd.S_reads' HO_3.out).2.1); rintro e w' ⟨rfl, ⟨nd, rfl⟩⟩; (try first | exact ⟨rfl, _, World.drewN_drewN _ _ _⟩ | exact ⟨rfl, _, Eq.trans (World.drewN_drewN _ _ _) (congrArg (World.drewN _) (Nat.add_assoc _ _ _))⟩))); try go_wp2_with (first | (go_at_call 55; (with_reducible refine (impl_TimeOver.calls k4 _ _ t265 x5_1 x9_4 x6_2 t288 _ ?side1 ?side2 A54.out).mono ?_); (case side1 => repeat (first | exact (Kd.S_reads' HO_3.out).2.2 | (with_reducible refine Kd.C_alloc ?_ _) | (with_reducible refine Kd.C_drewN ?_ _) | (with_reducible refine Kd.C_drew ?_))); (case side2 => exact (Kd.S_reads' HO_3.out).2.1); rintro e w' ⟨rfl, ⟨nd, rfl⟩⟩; (try first | exact ⟨rfl, _, World.drewN_drewN _ _ _⟩ | exact ⟨rfl, _, Eq.trans (World.drewN_drewN _ _ _) (congrArg (World.drewN _) (Nat.add_assoc _ _ _))⟩)) | (go_at_call 55; (with_reducible refine (impl_TimeOver.calls k4 _ _ t265 x5_1 t275 x6_2 t289 _ ?side1 ?side2 A59.out).mono ?_); (case side1 => repeat (first | exact (Kd.S_reads' HO_3.out).2.2 | (with_reducible refine Kd.C_alloc ?_ _) | (with_reducible refine Kd.C_drewN ?_ _) | (with_reducible refine Kd.C_drew ?_))); (case side2 => exact (Kd.S_reads' HO_3.out).2.1); rintro e w' ⟨rfl, ⟨nd, rfl⟩⟩; (try first | exact ⟨rfl, _, World.drewN_drewN _ _ _⟩ | exact ⟨rfl, _, Eq.trans (World.drewN_drewN _ _ _) (congrArg (World.drewN _) (Nat.add_assoc _ _ _))⟩))))
                                                    go_roundg k4
                                                    case measure => have := HK1.out; have := HK2.out; have := HJ20.out; have := HK4.out; omega
                                                    case rel => exact ⟨(wrap64 (x9_4 + 1)), (by first | rfl | (simp; done) | (simp [*]; done)), H', ⟨by have := HK1.out; have := HK2.out; have := HJ20.out; have := HK4.out; omega⟩, ⟨by (with_reducible repeat (first | apply Kd.S_alloc | apply Kd.S_drewN | apply Kd.S_drew)); exact HO_3.out⟩, ⟨by (with_reducible repeat (first | apply Kd.S_alloc | apply Kd.S_drewN | apply Kd.S_drew)); exact HO_4.out⟩, ⟨by repeat (first | (with_reducible first | exact HB.out | apply below_alloc | apply pw_below_drewN | apply below_drew1) | exact HB.out)⟩⟩
                                                · rw [if_neg c64] at H
                                                  exact absurd H (by simp)
                                              · rw [if_neg c63] at H
                                                exact absurd H (by simp)
                                            · rw [if_neg c62] at H
                                              exact absurd H (by simp)
                                          · rw [if_neg c61] at H
                                            exact absurd H (by simp)
                                    · rw [if_neg c57] at H
                                      have c57b0 : decide (0 ≤ t288) = false := decide_eq_false c57
                                      clear c57
                                      have H' := Aside0.mk H
                                      clear H
                                      go_wp2_with (first | (go_at_call 55; (with_reducible refine (impl_TimeOver.calls k4 _ _ t265 x5_1 x9_4 x6_2 t288 _ ?side1 ?side2 A54.out).mono ?_); (case side1 => repeat (first | exact (Kd.S_reads' HO_3.out).2.2 | (with_reducible refine Kd.C_alloc ?_ _) | (with_reducible refine Kd.C_drewN ?_ _) | (with_reducible refine Kd.C_drew ?_))); (case side2 => exact (Kd.S_reads' HO_3.out).2.1); rintro e w' ⟨rfl, ⟨nd, rfl⟩⟩; (try first | exact ⟨rfl, _, World.drewN_drewN _ _ _⟩ | exact ⟨rfl, _, Eq.trans (World.drewN_drewN _ _ _) (congrArg (World.drewN _) (Nat.add_assoc _ _ _))⟩)))
                                      (try dsimp only [List.append])
                                      repeat (go_quiet (first | (go_at_call 55; (with_reducible refine (impl_TimeOver.calls k4 _ _ t265 x5_1 x9_4 x6_2 t288 _ ?side1 ?side2 A54.out).mono ?_); (case side1 => repeat (first | exact (Kd.S_reads' HO_3.out).2.2 | (with_reducible refine Kd.C_alloc ?_ _) | (with_reducible refine Kd.C_drewN ?_ _) | (with_reducible refine Kd.C_drew ?_))); (case side2 => exact (Kd.S_reads' HO_3.out).2.1); rintro e w' ⟨rfl, ⟨nd, rfl⟩⟩; (try first | exact ⟨rfl, _, World.drewN_drewN _ _ _⟩ | exact ⟨rfl, _, Eq.trans (World.drewN_drewN _ _ _) (congrArg (World.drewN _) (Nat.add_assoc _ _ _))⟩))); try go_wp2_with (first | (go_at_call 55; (with_reducible refine (impl_TimeOver.calls k4 _ _ t265 x5_1 x9_4 x6_2 t288 _ ?side1 ?side2 A54.out).mono ?_); (case side1 => repeat (first | exact (Kd.S_reads' HO_3.out).2.2 | (with_reducible refine Kd.C_alloc ?_ _) | (with_reducible refine Kd.C_drewN ?_ _) | (with_reducible refine Kd.C_drew ?_))); (case side2 => exact (Kd.S_reads' HO_3.out).2.1); rintro e w' ⟨rfl, ⟨nd, rfl⟩⟩; (try first | exact ⟨rfl, _, World.drewN_drewN _ _ _⟩ | exact ⟨rfl, _, Eq.trans (World.drewN_drewN _ _ _) (congrArg (World.drewN _) (Nat.add_assoc _ _ _))⟩))))
                                      go_roundg k4
                                      case measure => have := HK1.out; have := HK2.out; have := HJ20.out; have := HK4.out; omega
                                      case rel => exact ⟨(wrap64 (x9_4 + 1)), (by first | rfl | (simp; done) | (simp [*]; done)), H', ⟨by have := HK1.out; have := HK2.out; have := HJ20.out; have := HK4.out; omega⟩, ⟨by (with_reducible repeat (first | apply Kd.S_alloc | apply Kd.S_drewN | apply Kd.S_drew)); exact HO_3.out⟩, ⟨by (with_reducible repeat (first | apply Kd.S_alloc | apply Kd.S_drewN | apply Kd.S_drew)); exact HO_4.out⟩, ⟨by repeat (first | (with_reducible first | exact HB.out | apply below_alloc | apply pw_below_drewN | apply below_drew1) | exact HB.out)⟩⟩
                              · rw [if_neg c53] at H
                                have c53b0 : decide (x9_4 < (t265.length : Int)) = false := decide_eq_false c53
                                clear c53
                                have H' := Aside0.mk H
                                clear H
                                go_wp2
                                (try dsimp only [List.append])
                                repeat (go_quiet (fail); try go_wp2)
                                go_roundg k4
                                case measure => have := HK1.out; have := HK2.out; have := HJ20.out; have := HK4.out; omega
                                case rel => exact ⟨(wrap64 (x6_2 + 1)), (by first | rfl | (simp; done) | (simp [*]; done)), H', ⟨by have := HK1.out; have := HK2.out; have := HJ20.out; have := HK4.out; omega⟩, ⟨by (with_reducible repeat (first | apply Kd.S_alloc | apply Kd.S_drewN | apply Kd.S_drew)); exact HO_3.out⟩, ⟨by (with_reducible repeat (first | apply Kd.S_alloc | apply Kd.S_drewN | apply Kd.S_drew)); exact HO_4.out⟩, ⟨by repeat (first | (with_reducible first | exact HB.out | apply below_alloc | apply pw_below_drewN | apply below_drew1) | exact HB.out)⟩⟩
                  · rw [if_neg c18] at H
                    have c18b0 : decide (x6_2 < (t265.length : Int)) = false := decide_eq_false c18
                    clear c18
                    have H' := Aside0.mk H
                    clear H
                    go_wp2
                    (try dsimp only [List.append])
                    repeat (go_quiet (fail); try go_wp2)
                    go_roundg k2
                    case measure => have := HK1.out; have := HK2.out; omega
                    case rel => exact ⟨(wrap64 (x5_1 + 1)), (by first | rfl | (simp; done) | (simp [*]; done)), H', ⟨by have := HK1.out; have := HK2.out; omega⟩, ⟨by (with_reducible repeat (first | apply Kd.S_alloc | apply Kd.S_drewN | apply Kd.S_drew)); exact HO_3.out⟩, ⟨by (with_reducible repeat (first | apply Kd.S_alloc | apply Kd.S_drewN | apply Kd.S_drew)); exact HO_4.out⟩, ⟨by repeat (first | (with_reducible first | exact HB.out | apply below_alloc | apply pw_below_drewN | apply below_drew1) | exact HB.out)⟩⟩
            · rw [if_neg c17] at H
              have c17b0 : decide (x5_1 < (t265.length : Int)) = false := decide_eq_false c17
              clear c17
              obtain rfl := Option.some.inj H
              obtain ⟨Ao68, co68, eo68⟩ := Kd.S_slice HO_4.out
              subst eo68
              go_wp2
              (try dsimp only [List.append])
              repeat (go_quiet (fail); try go_wp2)
              go_ret
              exact ⟨by first | rfl | (simp [errW_none, errW_some] <;> rfl) | (simp [*, errW_none, errW_some] <;> rfl), by repeat (first | (with_reducible first | exact HB.out | apply below_alloc | apply pw_below_drewN | apply below_drew1) | exact HB.out)⟩
      · replace c13 := Bool.eq_false_iff.mpr c13
        subst c13
        have e71_ : t271 = false := Option.some.inj (A6.out.symm.trans A12.out)
        subst e71_
        have e72_ : t272 = false := by simpa using c8b0
        subst e72_
        have H1 : (some ((t268.length : Int) == 0)) = some r := by rw [if_neg (show ¬ (false = true) by decide)] at H; exact H
        clear H
        have H := H1
        clear H1
        obtain rfl := Option.some.inj H
        go_enter Try.func12, Try.ntmps12
        go_wp2_with (first | (go_at_call 42; (with_reducible refine (laws_big.calls _ _ l0 false _ ?side1 ?side2 A2.out).mono ?_); (case side1 => repeat (first | exact HR0.out | (with_reducible refine Kd.C_alloc ?_ _) | (with_reducible refine Kd.C_drewN ?_ _) | (with_reducible refine Kd.C_drew ?_))); (case side2 => exact HC0.out); rintro e w' ⟨rfl, ⟨nd, rfl⟩⟩; (try first | exact ⟨rfl, _, World.drewN_drewN _ _ _⟩ | exact ⟨rfl, _, Eq.trans (World.drewN_drewN _ _ _) (congrArg (World.drewN _) (Nat.add_assoc _ _ _))⟩)) | (go_at_call 51; (with_reducible refine (spec_DrawBestTimes.calls k _ _ l0 t265 _ ?side1 ?side2 A4.out).mono ?_); (case side1 => repeat (first | exact HR0.out | (with_reducible refine Kd.C_alloc ?_ _) | (with_reducible refine Kd.C_drewN ?_ _) | (with_reducible refine Kd.C_drew ?_))); (case side2 => exact HC0.out); rintro e w69 ⟨v266, rfl, ho0, hb⟩; have n0_ := Aside0.mk (Kd.S_lower ho0 (below_size (by repeat (first | (with_reducible first | exact HB.out | apply below_alloc | apply pw_below_drewN | apply below_drew1) | exact HB.out)))); have n1_ := Aside0.mk (below_step (by repeat (first | (with_reducible first | exact HB.out | apply below_alloc | apply pw_below_drewN | apply below_drew1) | exact HB.out)) hb); clear HB; have HO267 := n0_; have HB := n1_; clear n0_ n1_; (try clear hb); (try clear hb2); (try clear hk); (try clear hi); (try clear ho0); obtain ⟨Ao70, co70, eo70⟩ := Kd.S_slice HO267.out; subst eo70) | (go_at_call 52; (with_reducible refine (impl_BestTimes.calls k _ _ t265 t268 _ ?side1 ?side2 A5.out).mono ?_); (case side1 => repeat (first | exact (Kd.S_reads' HO267.out).2.2 | (with_reducible refine Kd.C_alloc ?_ _) | (with_reducible refine Kd.C_drewN ?_ _) | (with_reducible refine Kd.C_drew ?_))); (case side2 => exact (Kd.S_reads' HO267.out).2.1); rintro e w71 ⟨v269, rfl, ho0, hb⟩; have n0_ := Aside0.mk (Kd.S_elder' (by (with_reducible repeat (first | apply Kd.S_alloc | apply Kd.S_drewN | apply Kd.S_drew)); exact HO267.out) (Kd.S_base ho0) hb); have n1_ := Aside0.mk (Kd.S_lower (Kd.S_new' ho0 (Kd.S_lt (by (with_reducible repeat (first | apply Kd.S_alloc | apply Kd.S_drewN | apply Kd.S_drew)); exact HO267.out))) (below_size (by repeat (first | (with_reducible first | exact HB.out | apply below_alloc | apply pw_below_drewN | apply below_drew1) | exact HB.out)))); have n2_ := Aside0.mk (below_step (by repeat (first | (with_reducible first | exact HB.out | apply below_alloc | apply pw_below_drewN | apply below_drew1) | exact HB.out)) hb); clear HO267; clear HB; have HO267 := n0_; have HO270 := n1_; have HB := n2_; clear n0_ n1_ n2_; (try clear hb); (try clear hb2); (try clear hk); (try clear hi); (try clear ho0); obtain ⟨Ao72, co72, eo72⟩ := Kd.S_slice HO270.out; subst eo72) | (go_at_call 53; (with_reducible refine (impl_IsTimes.calls k _ _ t265 false _ ?side1 ?side2 A6.out).mono ?_); (case side1 => repeat (first | exact (Kd.S_reads' HO267.out).2.2 | (with_reducible refine Kd.C_alloc ?_ _) | (with_reducible refine Kd.C_drewN ?_ _) | (with_reducible refine Kd.C_drew ?_))); (case side2 => exact (Kd.S_reads' HO267.out).2.1); rintro e w' ⟨rfl, ⟨nd, rfl⟩⟩; (try first | exact ⟨rfl, _, World.drewN_drewN _ _ _⟩ | exact ⟨rfl, _, Eq.trans (World.drewN_drewN _ _ _) (congrArg (World.drewN _) (Nat.add_assoc _ _ _))⟩)) | (go_at_call 54; (with_reducible refine (spec_IsTimes.calls k _ _ t265 false _ ?side1 ?side2 A7.out).mono ?_); (case side1 => repeat (first | exact (Kd.S_reads' HO267.out).2.2 | (with_reducible refine Kd.C_alloc ?_ _) | (with_reducible refine Kd.C_drewN ?_ _) | (with_reducible refine Kd.C_drew ?_))); (case side2 => exact (Kd.S_reads' HO267.out).2.1); rintro e w' ⟨rfl, ⟨nd, rfl⟩⟩; (try first | exact ⟨rfl, _, World.drewN_drewN _ _ _⟩ | exact ⟨rfl, _, Eq.trans (World.drewN_drewN _ _ _) (congrArg (World.drewN _) (Nat.add_assoc _ _ _))⟩)) | (go_at_call 53; (with_reducible refine (impl_IsTimes.calls k _ _ t265 false _ ?side1 ?side2 A12.out).mono ?_); (case side1 => repeat (first | exact (Kd.S_reads' HO267.out).2.2 | (with_reducible refine Kd.C_alloc ?_ _) | (with_reducible refine Kd.C_drewN ?_ _) | (with_reducible refine Kd.C_drew ?_))); (case side2 => exact (Kd.S_reads' HO267.out).2.1); rintro e w' ⟨rfl, ⟨nd, rfl⟩⟩; (try first | exact ⟨rfl, _, World.drewN_drewN _ _ _⟩ | exact ⟨rfl, _, Eq.trans (World.drewN_drewN _ _ _) (congrArg (World.drewN _) (Nat.add_assoc _ _ _))⟩)))
        (try dsimp only [List.append])
        repeat (go_quiet (first | (go_at_call 42; (with_reducible refine (laws_big.calls _ _ l0 false _ ?side1 ?side2 A2.out).mono ?_); (case side1 => repeat (first | exact HR0.out | (with_reducible refine Kd.C_alloc ?_ _) | (with_reducible refine Kd.C_drewN ?_ _) | (with_reducible refine Kd.C_drew ?_))); (case side2 => exact HC0.out); rintro e w' ⟨rfl, ⟨nd, rfl⟩⟩; (try first | exact ⟨rfl, _, World.drewN_drewN _ _ _⟩ | exact ⟨rfl, _, Eq.trans (World.drewN_drewN _ _ _) (congrArg (World.drewN _) (Nat.add_assoc _ _ _))⟩)) | (go_at_call 51; (with_reducible refine (spec_DrawBestTimes.calls k _ _ l0 t265 _ ?side1 ?side2 A4.out).mono ?_); (case side1 => repeat (first | exact HR0.out | (with_reducible refine Kd.C_alloc ?_ _) | (with_reducible refine Kd.C_drewN ?_ _) | (with_reducible refine Kd.C_drew ?_))); (case side2 => exact HC0.out); rintro e w69 ⟨v266, rfl, ho0, hb⟩; have n0_ := Aside0.mk (Kd.S_lower ho0 (below_size (by repeat (first | (with_reducible first | exact HB.out | apply below_alloc | apply pw_below_drewN | apply below_drew1) | exact HB.out)))); have n1_ := Aside0.mk (below_step (by repeat (first | (with_reducible first | exact HB.out | apply below_alloc | apply pw_below_drewN | apply below_drew1) | exact HB.out)) hb); clear HB; have HO267 := n0_; have HB := n1_; clear n0_ n1_; (try clear hb); (try clear hb2); (try clear hk); (try clear hi); (try clear ho0); obtain ⟨Ao70, co70, eo70⟩ := Kd.S_slice HO267.out; subst eo70) | (go_at_call 52; (with_reducible refine (impl_BestTimes.calls k _ _ t265 t268 _ ?side1 ?side2 A5.out).mono ?_); (case side1 => repeat (first | exact (Kd.S_reads' HO267.out).2.2 | (with_reducible refine Kd.C_alloc ?_ _) | (with_reducible refine Kd.C_drewN ?_ _) | (with_reducible refine Kd.C_drew ?_))); (case side2 => exact (Kd.S_reads' HO267.out).2.1); rintro e w71 ⟨v269, rfl, ho0, hb⟩; have n0_ := Aside0.mk (Kd.S_elder' (by (with_reducible repeat (first | apply Kd.S_alloc | apply Kd.S_drewN | apply Kd.S_drew)); exact HO267.out) (Kd.S_base ho0) hb); have n1_ := Aside0.mk (Kd.S_lower (Kd.S_new' ho0 (Kd.S_lt (by (with_reducible repeat (first | apply Kd.S_alloc | apply Kd.S_drewN | apply Kd.S_drew)); exact HO267.out))) (below_size (by repeat (first | (with_reducible first | exact HB.out | apply below_alloc | apply pw_below_drewN | apply below_drew1) | exact HB.out)))); have n2_ := Aside0.mk (below_step (by repeat (first | (with_reducible first | exact HB.out | apply below_alloc | apply pw_below_drewN | apply below_drew1) | exact HB.out)) hb); clear HO267; clear HB; have HO267 := n0_; have HO270 := n1_; have HB := n2_; clear n0_ n1_ n2_; (try clear hb); (try clear hb2); (try clear hk); (try clear hi); (try clear ho0); obtain ⟨Ao72, co72, eo72⟩ := Kd.S_slice HO270.out; subst eo72) | (go_at_call 53; (with_reducible refine (impl_IsTimes.calls k _ _ t265 false _ ?side1 ?side2 A6.out).mono ?_); (case side1 => repeat (first | exact (Kd.S_reads' HO267.out).2.2 | (with_reducible refine Kd.C_alloc ?_ _) | (with_reducible refine Kd.C_drewN ?_ _) | (with_reducible refine Kd.C_drew ?_))); (case side2 => exact (Kd.S_reads' HO267.out).2.1); rintro e w' ⟨rfl, ⟨nd, rfl⟩⟩; (try first | exact ⟨rfl, _, World.drewN_drewN _ _ _⟩ | exact ⟨rfl, _, Eq.trans (World.drewN_drewN _ _ _) (congrArg (World.drewN _) (Nat.add_assoc _ _ _))⟩)) | (go_at_call 54; (with_reducible refine (spec_IsTimes.calls k _ _ t265 false _ ?side1 ?side2 A7.out).mono ?_); (case side1 => repeat (first | exact (Kd.S_reads' HO267.out).2.2 | (with_reducible refine Kd.C_alloc ?_ _) | (with_reducible refine Kd.C_drewN ?_ _) | (with_reducible refine Kd.C_drew ?_))); (case side2 => exact (Kd.S_reads' HO267.out).2.1); rintro e w' ⟨rfl, ⟨nd, rfl⟩⟩; (try first | exact ⟨rfl, _, World.drewN_drewN _ _ _⟩ | exact ⟨rfl, _, Eq.trans (World.drewN_drewN _ _ _) (congrArg (World.drewN _) (Nat.add_assoc _ _ _))⟩)) | (go_at_call 53; (with_reducible refine (impl_IsTimes.calls k _ _ t265 false _ ?side1 ?side2 A12.out).mono ?_); (case side1 => repeat (first | exact (Kd.S_reads' HO267.out).2.2 | (with_reducible refine Kd.C_alloc ?_ _) | (with_reducible refine Kd.C_drewN ?_ _) | (with_reducible refine Kd.C_drew ?_))); (case side2 => exact (Kd.S_reads' HO267.out).2.1); rintro e w' ⟨rfl, ⟨nd, rfl⟩⟩; (try first | exact ⟨rfl, _, World.drewN_drewN _ _ _⟩ | exact ⟨rfl, _, Eq.trans (World.drewN_drewN _ _ _) (congrArg (World.drewN _) (Nat.add_assoc _ _ _))⟩))); try go_wp2_with (first | (go_at_call 42; (with_reducible refine (laws_big.calls _ _ l0 false _ ?side1 ?side2 A2.out).mono ?_); (case side1 => repeat (first | exact HR0.out | (with_reducible refine Kd.C_alloc ?_ _) | (with_reducible refine Kd.C_drewN ?_ _) | (with_reducible refine Kd.C_drew ?_))); (case side2 => exact HC0.out); rintro e w' ⟨rfl, ⟨nd, rfl⟩⟩; (try first | exact ⟨rfl, _, World.drewN_drewN _ _ _⟩ | exact ⟨rfl, _, Eq.trans (World.drewN_drewN _ _ _) (congrArg (World.drewN _) (Nat.add_assoc _ _ _))⟩)) | (go_at_call 51; (with_reducible refine (spec_DrawBestTimes.calls k _ _ l0 t265 _ ?side1 ?side2 A4.out).mono ?_); (case side1 => repeat (first | exact HR0.out | (with_reducible refine Kd.C_alloc ?_ _) | (with_reducible refine Kd.C_drewN ?_ _) | (with_reducible refine Kd.C_drew ?_))); (case side2 => exact HC0.out); rintro e w69 ⟨v266, rfl, ho0, hb⟩; have n0_ := Aside0.mk (Kd.S_lower ho0 (below_size (by repeat (first | (with_reducible first | exact HB.out | apply below_alloc | apply pw_below_drewN | apply below_drew1) | exact HB.out)))); have n1_ := Aside0.mk (below_step (by repeat (first | (with_reducible first | exact HB.out | apply below_alloc | apply pw_below_drewN | apply below_drew1) | exact HB.out)) hb); clear HB; have HO267 := n0_; have HB := n1_; clear n0_ n1_; (try clear hb); (try clear hb2); (try clear hk); (try clear hi); (try clear ho0); obtain ⟨Ao70, co70, eo70⟩ := Kd.S_slice HO267.out; subst eo70) | (go_at_call 52; (with_reducible refine (impl_BestTimes.calls k _ _ t265 t268 _ ?side1 ?side2 A5.out).mono ?_); (case side1 => repeat (first | exact (Kd.S_reads' HO267.out).2.2 | (with_reducible refine Kd.C_alloc ?_ _) | (with_reducible refine Kd.C_drewN ?_ _) | (with_reducible refine Kd.C_drew ?_))); (case side2 => exact (Kd.S_reads' HO267.out).2.1); rintro e w71 ⟨v269, rfl, ho0, hb⟩; have n0_ := Aside0.mk (Kd.S_elder' (by (with_reducible repeat (first | apply Kd.S_alloc | apply Kd.S_drewN | apply Kd.S_drew)); exact HO267.out) (Kd.S_base ho0) hb); have n1_ := Aside0.mk (Kd.S_lower (Kd.S_new' ho0 (Kd.S_lt (by (with_reducible repeat (first | apply Kd.S_alloc | apply Kd.S_drewN | apply Kd.S_drew)); exact HO267.out))) (below_size (by repeat (first | (with_reducible first | exact HB.out | apply below_alloc | apply pw_below_drewN | apply below_drew1) | exact HB.out)))); have n2_ := Aside0.mk (below_step (by repeat (first | (with_reducible first | exact HB.out | apply below_alloc | apply pw_below_drewN | apply below_drew1) | exact HB.out)) hb); clear HO267; clear HB; have HO267 := n0_; have HO270 := n1_; have HB := n2_; clear n0_ n1_ n2_; (try clear hb); (try clear hb2); (try clear hk); (try clear hi); (try clear ho0)) | (go_at_call 53; (with_reducible refine (impl_IsTimes.calls k _ _ t265 false _ ?side1 ?side2 A6.out).mono ?_); (case side1 => repeat (first | exact (Kd.S_reads' HO267.out).2.2 | (with_reducible refine Kd.C_alloc ?_ _) | (with_reducible refine Kd.C_drewN ?_ _) | (with_reducible refine Kd.C_drew ?_))); (case side2 => exact (Kd.S_reads' HO267.out).2.1); rintro e w' ⟨rfl, ⟨nd, rfl⟩⟩; (try first | exact ⟨rfl, _, World.drewN_drewN _ _ _⟩ | exact ⟨rfl, _, Eq.trans (World.drewN_drewN _ _ _) (congrArg (World.drewN _) (Nat.add_assoc _ _ _))⟩)) | (go_at_call 54; (with_reducible refine (spec_IsTimes.calls k _ _ t265 false _ ?side1 ?side2 A7.out).mono ?_); (case side1 => repeat (first | exact (Kd.S_reads' HO267.out).2.2 | (with_reducible refine Kd.C_alloc ?_ _) | (with_reducible refine Kd.C_drewN ?_ _) | (with_reducible refine Kd.C_drew ?_))); (case side2 => exact (Kd.S_reads' HO267.out).2.1); rintro e w' ⟨rfl, ⟨nd, rfl⟩⟩; (try first | exact ⟨rfl, _, World.drewN_drewN _ _ _⟩ | exact ⟨rfl, _, Eq.trans (World.drewN_drewN _ _ _) (congrArg (World.drewN _) (Nat.add_assoc _ _ _))⟩)) | (go_at_call 53; (with_reducible refine (impl_IsTimes.calls k _ _ t265 false _ ?side1 ?side2 A12.out).mono ?_); (case side1 => repeat (first | exact (Kd.S_reads' HO267.out).2.2 | (with_reducible refine Kd.C_alloc ?_ _) | (with_reducible refine Kd.C_drewN ?_ _) | (with_reducible refine Kd.C_drew ?_))); (case side2 => exact (Kd.S_reads' HO267.out).2.1); rintro e w' ⟨rfl, ⟨nd, rfl⟩⟩; (try first | exact ⟨rfl, _, World.drewN_drewN _ _ _⟩ | exact ⟨rfl, _, Eq.trans (World.drewN_drewN _ _ _) (congrArg (World.drewN _) (Nat.add_assoc _ _ _))⟩))))
        go_ret
        exact ⟨by first | rfl | (simp [errW_none, errW_some] <;> rfl) | (simp [*, errW_none, errW_some] <;> rfl), by repeat (first | (with_reducible first | exact HB.out | apply below_alloc | apply pw_below_drewN | apply below_drew1) | exact HB.out)⟩


end Go.Proofs.Ytjhbpiboemajeaa.PFnOverlays
