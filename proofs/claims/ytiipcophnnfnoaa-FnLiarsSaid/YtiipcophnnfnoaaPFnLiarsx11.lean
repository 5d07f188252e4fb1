/- What the functions that the law FnLiars uses compute, and that the program computes it: walks written by a program of this session. -/
import Derived.Test.YtiipcophnnfnoaaPFnLiarsx0
import Derived.Test.YtiipcophnnfnoaaPFnLiarsx1
import Derived.Test.YtiipcophnnfnoaaPFnLiarsx2
import Derived.Test.YtiipcophnnfnoaaPFnLiarsx4
import Derived.Test.YtiipcophnnfnoaaPFnLiarsx5
import Derived.Test.YtiipcophnnfnoaaPFnLiarsx6
import Derived.Test.YtiipcophnnfnoaaPFnLiarsx7
import Derived.Test.YtiipcophnnfnoaaPFnLiarsx10
namespace Go.Proofs.Ytiipcophnnfnoaa.PFnLiars
open Go.RowKit Go.Proofs.YtiipcophnnfnoaaW.PrintWords Go.Proofs.YtiipcophnnfnoaaW.PrintLast Go.Proofs.YtiipcophnnfnoaaW.PrintMore
attribute [local go_sem] max2_int min2_int max_two min_two max_three min_three max_four min_four   -- for this text's walks alone
set_option linter.unusedVariables false
set_option linter.unusedSimpArgs false

/-! ### impl_SureLiars: function 46 -/
open Go.Proofs.Ytiipcophnnfnoaa.Base
theorem spec_l1In_eq (a b c : Int) : spec_l1In.f a b c = some (decide (b ≤ a ∧ a ≤ c)) := by
 unfold spec_l1In.f
 by_cases h : a ≥ b
 ·rw [if_pos h]
  simp [show b ≤ a from h]
 ·rw [if_neg h]
  have : ¬ b ≤ a := h
  simp [this]
theorem spec_IsMatrix_l1 (pre suf : List (List Int)) (row : List Int) (R : Bool) (hb : (pre ++ row :: suf).length ≤ 12) (hr : row.length ≤ 6)
  (hk : Ev (fun k => spec_IsMatrix.l0 k (pre ++ row :: suf) (row.length : Int) ((pre.length + 1 : Nat) : Int)) R) : ∀ (rs rp : List Int), row = rp ++ rs →
  Ev (fun k => spec_IsMatrix.l1 k (pre ++ row :: suf) (row.length : Int) (pre.length : Int) (rp.length : Int)) (rs.all cellR && R) := by
 intro rs
 simp only [List.length_append, List.length_cons] at hb
 induction rs with
 | nil =>
  intro rp e
  have hl : row.length = rp.length := by rw [e]; simp
  refine Ev.step (fun k => by rw [spec_IsMatrix.l1]) ?_
  refine evNeg (by omega) ?_
  rw [wsucc (by omega)]
  simpa using hk
 | cons v vs ih =>
  intro rp e
  have hl : row.length = rp.length + (vs.length + 1) := by rw [e]; simp
  have ev : rd row (rp.length : Int) = v := by rw [e, rd_mid]
  refine Ev.step (fun k => by rw [spec_IsMatrix.l1]) ?_
  simp only [rd_L1, getD_mid]
  refine evPos (by omega) (evPos (by omega) (evPos (by simp only [List.length_append, List.length_cons]; omega) (evPos (by omega) (evPos (by omega) ?_))))
  rw [ev, wsucc (by omega)]
  refine evSome (spec_l1In_eq _ _ _) ?_
  have h := ih (rp ++ [v]) (by simp [e])
  have h' : Ev (fun k => spec_IsMatrix.l1 k (pre ++ row :: suf) (row.length : Int) (pre.length : Int) ((rp.length + 1 : Nat) : Int)) (vs.all cellR && R) := by simpa using h
  by_cases hv : -2 ≤ v ∧ v ≤ 2
  ·refine evPos (by simpa using hv) (evEq ?_ h')
   simp only [List.all_cons, show cellR v = true from decide_eq_true hv, Bool.true_and]
  ·refine evNeg (by simpa using hv) (evEq ?_ (Ev.now _))
   simp only [List.all_cons, show cellR v = false from decide_eq_false hv, Bool.false_and]
theorem spec_IsMatrix_l0 (c : Int) (hc : 1 ≤ c ∧ c ≤ 6) : ∀ (suf pre : List (List Int)), (pre ++ suf).length ≤ 12 →
  Ev (fun k => spec_IsMatrix.l0 k (pre ++ suf) c (pre.length : Int)) (suf.all fun r => decide ((r.length : Int) = c) && r.all cellR) := by
 intro suf
 induction suf with
 | nil =>
  intro pre hb
  refine Ev.step (fun k => by rw [spec_IsMatrix.l0]) ?_
  exact evNeg (by simp) (Ev.now _)
 | cons x suf ih =>
  intro pre hb
  have hb' := hb
  simp only [List.length_append, List.length_cons] at hb'
  refine Ev.step (fun k => by rw [spec_IsMatrix.l0]) ?_
  refine evPos (by simp only [List.length_append, List.length_cons]; omega) (evPos (by omega) ?_)
  have e : rd_L1 (pre ++ x :: suf) (pre.length : Int) = x := by rw [rd_L1, getD_mid]
  rw [e]
  by_cases hx : (x.length : Int) = c
  ·refine evPos hx ?_
   subst hx
   have h := ih (pre ++ [x]) (by simpa using hb)
   have h' : Ev (fun k => spec_IsMatrix.l0 k (pre ++ x :: suf) (x.length : Int) ((pre.length + 1 : Nat) : Int)) (suf.all fun r => decide ((r.length : Int) = (x.length : Int)) && r.all cellR) := by simpa using h
   refine evEq ?_ (spec_IsMatrix_l1 pre suf x _ hb (by omega) h' x [] rfl)
   simp only [List.all_cons, decide_true, Bool.true_and]
  ·refine evNeg hx (evEq ?_ (Ev.now _))
   simp only [List.all_cons, decide_eq_false hx, Bool.false_and]
theorem spec_IsMatrix_ev (m : List (List Int)) (c : Int) : Ev (fun k => spec_IsMatrix.f k m c) (matB m c) := by
 unfold spec_IsMatrix.f
 refine evSome (spec_l1In_eq _ _ _) ?_
 by_cases h1 : 1 ≤ c ∧ c ≤ 6
 ·refine evPos (by simpa using h1) (Ev.step (fun k => by rw [spec_IsMatrix.j0]) ?_)
  by_cases h2 : m.length ≤ 12
  ·refine evNeg (by simp; omega) (evEq ?_ (spec_IsMatrix_l0 c h1 m [] (by simpa using h2)))
   simp only [matB, decide_eq_true h1, decide_eq_true h2, Bool.true_and]
  ·refine evPos (by simp; omega) (evEq ?_ (Ev.now _))
   simp only [matB, decide_eq_false h2, Bool.and_false, Bool.false_and]
 ·refine evNeg (by simpa using h1) (Ev.step (fun k => by rw [spec_IsMatrix.j0]) (evPos rfl (evEq ?_ (Ev.now _))))
  simp only [matB, decide_eq_false h1, Bool.false_and]
theorem spec_IsSystem_l0 (m : List (List Int)) (c : Int) : ∀ (suf pre : List Int), (pre ++ suf).length ≤ 1048576 →
  Ev (fun k => spec_IsSystem.l0 k m (pre ++ suf) c (pre.length : Int)) (matB m c && (decide ((pre ++ suf).length = m.length) && suf.all fun x => decide (-1000 ≤ x ∧ x ≤ 1000))) := by
 intro suf
 induction suf with
 | nil =>
  intro pre hb
  refine Ev.step (fun k => by rw [spec_IsSystem.l0]) ?_
  refine evNeg (by simp) (Ev.bind (spec_IsMatrix_ev m c) ?_)
  by_cases h1 : matB m c = true
  ·refine evPos h1 (evEq ?_ (Ev.now _))
   rw [h1]
   simp only [Bool.true_and, List.all_nil, Bool.and_true]
   by_cases h2 : (pre ++ []).length = m.length
   ·rw [decide_eq_true h2, h2]
    simp
   ·rw [decide_eq_false h2, beq_eq_false_iff_ne]
    omega
  ·have h1' : matB m c = false := by simpa using h1
   refine evNeg h1 (evEq ?_ (Ev.now _))
   rw [h1', Bool.false_and]
 | cons x suf ih =>
  intro pre hb
  have hb' := hb
  simp only [List.length_append, List.length_cons] at hb'
  refine Ev.step (fun k => by rw [spec_IsSystem.l0]) ?_
  refine evPos (by simp only [List.length_append, List.length_cons]; omega) (evPos (by omega) ?_)
  rw [rd_mid, wsucc (by omega)]
  refine evSome (spec_l1In_eq _ _ _) ?_
  by_cases hx : -1000 ≤ x ∧ x ≤ 1000
  ·have h := ih (pre ++ [x]) (by simpa using hb)
   refine evPos (by simpa using hx) (evEq ?_ (Ev.congr (fun k => ?_) h))
   ·simp only [List.all_cons, decide_eq_true hx, Bool.true_and]
    simp
   ·simp
  ·refine evNeg (by simpa using hx) (evEq ?_ (Ev.now _))
   simp only [List.all_cons, decide_eq_false hx, Bool.false_and, Bool.and_false]
theorem spec_IsSystem_ev (m : List (List Int)) (v : List Int) (c : Int) (hv : v.length ≤ 1048576) : Ev (fun k => spec_IsSystem.f k m v c) (sysB m v c) := by
 unfold spec_IsSystem.f
 exact spec_IsSystem_l0 m c v [] (by simpa using hv)
theorem spec_AreOwned_l0 (m : List (List Int)) (v : List Int) (c : Int) (hv : v.length ≤ 1048576) : ∀ (suf pre : List Int), (pre ++ suf).length ≤ 1048576 →
  Ev (fun k => spec_AreOwned.l0 k m v (pre ++ suf) c (pre.length : Int)) (sysB m v c && (decide ((pre ++ suf).length = m.length) && suf.all fun x => decide (0 ≤ x ∧ x ≤ 5))) := by
 intro suf
 induction suf with
 | nil =>
  intro pre hb
  refine Ev.step (fun k => by rw [spec_AreOwned.l0]) ?_
  refine evNeg (by simp) (Ev.bind (spec_IsSystem_ev m v c hv) ?_)
  by_cases h1 : sysB m v c = true
  ·refine evPos h1 (evEq ?_ (Ev.now _))
   rw [h1]
   simp only [Bool.true_and, List.all_nil, Bool.and_true]
   by_cases h2 : (pre ++ []).length = m.length
   ·rw [decide_eq_true h2, h2]
    simp
   ·rw [decide_eq_false h2, beq_eq_false_iff_ne]
    omega
  ·have h1' : sysB m v c = false := by simpa using h1
   refine evNeg h1 (evEq ?_ (Ev.now _))
   rw [h1', Bool.false_and]
 | cons x suf ih =>
  intro pre hb
  have hb' := hb
  simp only [List.length_append, List.length_cons] at hb'
  refine Ev.step (fun k => by rw [spec_AreOwned.l0]) ?_
  refine evPos (by simp only [List.length_append, List.length_cons]; omega) (evPos (by omega) ?_)
  rw [rd_mid, wsucc (by omega)]
  refine evSome (spec_l1In_eq _ _ _) ?_
  by_cases hx : 0 ≤ x ∧ x ≤ 5
  ·have h := ih (pre ++ [x]) (by simpa using hb)
   refine evPos (by simpa using hx) (evEq ?_ (Ev.congr (fun k => ?_) h))
   ·simp only [List.all_cons, decide_eq_true hx, Bool.true_and]
    simp
   ·simp
  ·refine evNeg (by simpa using hx) (evEq ?_ (Ev.now _))
   simp only [List.all_cons, decide_eq_false hx, Bool.false_and, Bool.and_false]
theorem spec_AreOwned_ev (m : List (List Int)) (v o : List Int) (c : Int) (hv : v.length ≤ 1048576) (ho : o.length ≤ 1048576) : Ev (fun k => spec_AreOwned.f k m v o c) (ownB m v o c) := by
 unfold spec_AreOwned.f
 exact spec_AreOwned_l0 m v c hv o [] (by simpa using ho)
def allHas (l : List (List Int)) (i : Nat) : Bool := l.all fun s => hasB s (i : Int)
def sureL (l : List (List Int)) (n : Nat) : List Int := ((List.range n).filter (allHas l)).map fun (i : Nat) => (i : Int)
theorem sureL_succ (l : List (List Int)) (n : Nat) : sureL l (n + 1) = sureL l n ++ (if allHas l n = true then [(n : Int)] else []) := by
 unfold sureL
 rw [List.range_succ, List.filter_append, List.map_append]
 congr 1
 by_cases h : allHas l n = true <;> simp [h]
theorem sureL_len (l : List (List Int)) (n : Nat) : (sureL l n).length ≤ n := by
 unfold sureL
 rw [List.length_map]
 refine Nat.le_trans (List.length_filter_le _ _) ?_
 simp
def sureV (m : List (List Int)) (v o : List Int) (c : Int) : List Int := if (fewV m v o c).length = 0 then [] else sureL (fewV m v o c) 6
theorem sureV_len (m : List (List Int)) (v o : List Int) (c : Int) : (sureV m v o c).length ≤ 6 := by
 unfold sureV
 split
 ·simp
 ·exact sureL_len _ 6
set_option maxHeartbeats 2000000 in
theorem SL1_c (g : Nat) (q : Int) (A : Option Addr) (c : Nat) (x : List Int) (w : World) (hg : w.heap[g]? = some (.cells #[.int .i64 q] 3 (0, 0))) (hr : Kd.C (Kd.int .i64) w A x.length x) (hc : x.length ≤ c) (hl : x.length ≤ 1048576) :
  Calls Try.prog 104 #[.slice A x.length c, .pointer (some ⟨g, 0, none⟩)] w fun e w' => e = .returned (.bool (!hasB x q)) ∧ Below w.heap.size w w' := by
 obtain ⟨k, hk⟩ := (slices_Contains_ev x q hl).rounds
 have K := Aside0.mk hk
 have HR := Aside0.mk hr
 have hcg := (blk_cell hg 0).trans rfl
 clear hk hr hg
 go_enter Try.func104, Try.ntmps104
 go_wp2_with fail
 go_at_call 96; (with_reducible refine (slices_Contains_int_int.calls k _ _ x q _ _ ?s0 hc K.out).mono ?_); (case s0 => exact HR.out); rintro e w' ⟨rfl, ⟨nd, rfl⟩⟩
 go_wp2
 go_ret
 exact ⟨rfl, by repeat (first | (with_reducible first | exact Below.refl _ _ | apply below_alloc | apply pw_below_drewN | apply below_drew1) | exact Below.refl _ _)⟩
set_option maxHeartbeats 2000000 in
theorem idxf_SL (p : List Int → Bool) (lb : Array Value) (A0 : Option Addr) (c0 : Nat) (l0 : List (List Int)) (w : World) (hr0 : Kd.C (Kd.slice 3 (Kd.int .i64)) w A0 l0.length l0) (hl : l0.length ≤ 1048576)
  (hp : ∀ x A c W, Below w.heap.size w W → x ∈ l0 → x.length ≤ c → Kd.C (Kd.int .i64) W A x.length x → Calls Try.prog 104 (#[.slice A x.length c] ++ lb) W fun e w' => e = .returned (.bool (p x)) ∧ Below W.heap.size W w') :
  Calls Try.prog 160 #[.slice A0 l0.length c0, .func (.func 104) #[] lb] w fun e w' => e = .returned (.int .i64 (firstP p l0 0)) ∧ Below w.heap.size w w' := by
 have HR0 := Aside0.mk hr0
 have HP := Aside0.mk hp
 have eg : ∀ args w, (callFunc 104 args).run Try.prog w = .ok (.enter 104 args) w := by
  intro args w
  have h1 : Try.f104.name ≠ "runtime.NumGoroutine" := by decide
  obtain ⟨c_, hb⟩ : ∃ c_, Try.f104.body = some c_ := ⟨_, rfl⟩
  simp [callFunc, Try.func104, h1, hb, mark]
 clear hr0 hp
 go_enter Try.func160, Try.ntmps160
 go_wp2
 go_loopg [8] l0.length (fun gg v8 wr => ∃ (pre suf : List (List Int)), gg = suf.length ∧ Aside0 (l0 = pre ++ suf) ∧ v8 = .int .i64 (pre.length : Int) ∧ Aside0 (firstP p suf pre.length = firstP p l0 0) ∧ Aside0 (Below w.heap.size w wr))
 case atStart => exact ⟨[], l0, rfl, ⟨rfl⟩, rfl, ⟨rfl⟩, ⟨(by repeat (first | (with_reducible first | exact Below.refl _ _ | apply below_alloc | apply pw_below_drewN | apply below_drew1) | exact Below.refl _ _))⟩⟩
 case round =>
  obtain ⟨pre, suf, hgg, HE, rfl, HA, HB⟩ := hrel
  cases suf with
  | nil =>
   have hlt : ¬ (pre.length : Int) < (l0.length : Int) := by rw [HE.out]; simp
   go_wp2
   go_ret
   exact ⟨by rw [← HA.out]; rfl, HB.out⟩
  | cons x suf =>
   have hlt : (pre.length : Int) < (l0.length : Int) := by rw [HE.out]; simp; omega
   obtain ⟨ad, Ax, cx, e, hc, hlx, hrx⟩ := at_L1 (Kd.C_below HR0.out HB.out) (pre.length : Int) (by omega) hlt
   have hx : rd_L1 l0 (pre.length : Int) = x := by rw [rd_L1, HE.out, getD_mid]
   rw [hx] at hc hlx hrx
   cases e
   have hc2 : wr.cell? (ad.add pre.length) = some (.slice Ax x.length cx) := by simpa using hc
   have HCALL := Aside0.mk (HP.out x Ax cx)
   have HM := Aside0.mk (show x ∈ l0 by rw [HE.out]; simp)
   have HRX := Aside0.mk hrx
   have HLX := Aside0.mk hlx
   clear hx hc hlx hrx
   cases hp : p x with
   | true =>
    rw [hp] at HCALL
    go_wp2_with fail
    go_at_call 104; (refine (HCALL.out _ ?hbel HM.out HLX.out ?hrd).mono ?_); (case hbel => repeat (first | (with_reducible first | exact HB.out | apply below_alloc | apply pw_below_drewN | apply below_drew1) | exact HB.out)); (case hrd => exact Kd.C_below HRX.out (by repeat (first | (with_reducible first | exact Below.refl _ _ | apply below_alloc | apply pw_below_drewN | apply below_drew1) | exact Below.refl _ _))); rintro e w' ⟨rfl, hb'⟩
    have HB2 := Aside0.mk (below_step (w := w) (by repeat (first | (with_reducible first | exact HB.out | apply below_alloc | apply pw_below_drewN | apply below_drew1) | exact HB.out)) hb')
    clear hb'
    go_wp2
    go_ret
    exact ⟨by rw [← HA.out, firstP, if_pos hp]; rfl, HB2.out⟩
   | false =>
    rw [hp] at HCALL
    go_wp2_with fail
    go_at_call 104; (refine (HCALL.out _ ?hbel HM.out HLX.out ?hrd).mono ?_); (case hbel => repeat (first | (with_reducible first | exact HB.out | apply below_alloc | apply pw_below_drewN | apply below_drew1) | exact HB.out)); (case hrd => exact Kd.C_below HRX.out (by repeat (first | (with_reducible first | exact Below.refl _ _ | apply below_alloc | apply pw_below_drewN | apply below_drew1) | exact Below.refl _ _))); rintro e w' ⟨rfl, hb'⟩
    have HB2 := Aside0.mk (below_step (w := w) (by repeat (first | (with_reducible first | exact HB.out | apply below_alloc | apply pw_below_drewN | apply below_drew1) | exact HB.out)) hb')
    clear hb'
    have HL := Aside0.mk hl
    have HLT := Aside0.mk hlt
    clear hl hlt
    go_wp2_with fail
    go_roundg suf.length
    case measure => rw [hgg]; simp
    case rel => exact ⟨pre ++ [x], suf, rfl, ⟨by rw [HE.out]; simp⟩, by rw [wsucc (by have := HL.out; have := HLT.out; omega)]; simp, ⟨by rw [← HA.out, firstP, if_neg (by rw [hp]; decide)]; simp⟩, ⟨HB2.out⟩⟩
set_option maxHeartbeats 2000000 in
theorem containsf_SL (p : List Int → Bool) (lb : Array Value) (A0 : Option Addr) (c0 : Nat) (l0 : List (List Int)) (w : World) (hr0 : Kd.C (Kd.slice 3 (Kd.int .i64)) w A0 l0.length l0) (hl : l0.length ≤ 1048576)
  (hp : ∀ x A c W, Below w.heap.size w W → x ∈ l0 → x.length ≤ c → Kd.C (Kd.int .i64) W A x.length x → Calls Try.prog 104 (#[.slice A x.length c] ++ lb) W fun e w' => e = .returned (.bool (p x)) ∧ Below W.heap.size W w') :
  Calls Try.prog 103 #[.slice A0 l0.length c0, .func (.func 104) #[] lb] w fun e w' => e = .returned (.bool (l0.any p)) ∧ Below w.heap.size w w' := by
 have H := Aside0.mk (idxf_SL p lb A0 c0 l0 w hr0 hl hp)
 rw [← firstP_any p l0 0]
 clear hr0 hp
 go_enter Try.func103, Try.ntmps103
 go_wp2_with fail
 go_at_call 160; (with_reducible refine (H.out).mono ?_); rintro e w' ⟨rfl, hb⟩
 have HB := Aside0.mk hb
 clear hb
 go_wp2
 go_ret
 exact ⟨rfl, HB.out⟩
set_option maxHeartbeats 8000000 in
set_option maxRecDepth 100000 in
theorem impl_SureLiars_c (A0 : Option Addr) (c0 : Nat) (m : List (List Int)) (A1 : Option Addr) (c1 : Nat) (v : List Int) (A2 : Option Addr) (c2 : Nat) (o : List Int) (c : Int) (w : World) (hr0 : Kd.C (Kd.slice 3 (Kd.int .i64)) w A0 m.length m) (hc0 : m.length ≤ c0) (hr1 : Kd.C (Kd.int .i64) w A1 v.length v) (hc1 : v.length ≤ c1) (hr2 : Kd.C (Kd.int .i64) w A2 o.length o) (hc2 : o.length ≤ c2) (hm : okII m) (hv : v.length ≤ 1048576) (ho : o.length ≤ 1048576) :
  Calls Try.prog 46 #[.slice A0 m.length c0, .slice A1 v.length c1, .slice A2 o.length c2, .int .i64 c] w fun e w' => ∃ u, e = .returned u ∧ Kd.R (Kd.int .i64) 3 w' w.heap.size (fun _ => True) u (sureV m v o c) ∧ Below w.heap.size w w' := by
 obtain ⟨L, hL⟩ : ∃ L, L = fewV m v o c := ⟨_, rfl⟩
 have hmem := fewV_mem m v o c
 have H0 := impl_FewestLiars_c A0 c0 m A1 c1 v A2 c2 o c w hr0 hc0 hr1 hc1 hr2 hc2 hm hv ho
 have hsv : sureV m v o c = if L.length = 0 then [] else sureL L 6 := by rw [hL]; rfl
 rw [← hL] at hmem H0
 obtain ⟨F, hF⟩ : ∃ F, F = sureV m v o c := ⟨_, rfl⟩
 rw [← hF] at hsv ⊢
 have HF := Aside0.mk hsv
 have H := Aside0.mk H0
 have HMEM := Aside0.mk hmem
 have hin3 : (Try.prog.info? 3).map (fun i => (i.zero, i.size, i.bytes)) = some (some (.int .i64 0), 1, 8) := by kernel_rfl
 have HIN3 := Aside0.mk hin3
 clear hmem H0 hL hsv hF hr0 hc0 hr1 hc1 hr2 hc2 hm hv ho hin3
 have eg : ∀ args w, (callFunc 104 args).run Try.prog w = .ok (.enter 104 args) w := by
  intro args w
  have h1 : Try.f104.name ≠ "runtime.NumGoroutine" := by decide
  obtain ⟨c_, hb⟩ : ∃ c_, Try.f104.body = some c_ := ⟨_, rfl⟩
  simp [callFunc, Try.func104, h1, hb, mark]
 go_enter Try.func46, Try.ntmps46
 go_wp2_with fail
 go_at_call 30; (refine (H.out).mono ?_); rintro e w2 ⟨vS, rfl, hS, hb⟩
 obtain ⟨AS, cS, rfl⟩ := Kd.S_slice hS
 have HS := Aside0.mk (Kd.S_reads' hS)
 have HB0 := Aside0.mk hb
 clear hS hb
 by_cases h0 : L.length = 0
 ·have h0' : ¬ 0 < L.length := by omega
  go_wp2
  go_ret
  exact ⟨_, rfl, by rw [HF.out, if_pos h0]; exact Kd.R_nil _ _ _ _ _, by repeat (first | (with_reducible first | exact HB0.out | apply below_alloc | apply pw_below_drewN | apply below_drew1) | exact HB0.out)⟩
 ·have HN0 := Aside0.mk h0
  go_wp2
  generalize hbz : ((L.length : Int) == 0) = bz
  clear hbz
  go_loopg [10, 20] 6 (fun gg v10 v20 wr => ∃ (q : Nat), gg = 6 - q ∧ v20 = .int .i64 (q : Int) ∧ Aside0 (q ≤ 6) ∧ Aside0 (Kd.R (Kd.int .i64) 3 wr w2.heap.size (fun _ => True) v10 (sureL L q)) ∧ Aside0 (Below w2.heap.size w2 wr))
  case atStart => exact ⟨0, rfl, rfl, ⟨by omega⟩, ⟨by simpa [sureL] using Kd.R_nil _ _ _ _ _⟩, ⟨(by repeat (first | (with_reducible first | exact Below.refl _ _ | apply below_alloc | apply pw_below_drewN | apply below_drew1) | exact Below.refl _ _))⟩⟩
  case round =>
   obtain ⟨q, hgg, rfl, HQ, HO, HB⟩ := hrel
   by_cases hq : q < 6
   ·have hq' : (q : Int) < 6 := by omega
    have HQ6 := Aside0.mk hq
    obtain ⟨A10, c10, rfl⟩ := Kd.R_slice HO.out
    have HLN := Aside0.mk (sureL_len L q)
    clear hq
    cases hall : allHas L q with
    | true =>
     have hany : (L.any fun s => !hasB s (q : Int)) = false := by
      unfold allHas at hall
      rw [List.all_eq_true] at hall
      rw [List.any_eq_false]
      intro s hs
      simp [hall s hs]
     have HANY := Aside0.mk hany
     clear hany
     go_wp2_with fail
     refine calls_gen (fun W' => Below wr.heap.size wr W' ∧ W'.heap[wr.heap.size]? = some (.cells #[.int .i64 (q : Int)] 3 (0, 0))) ⟨?gb, ?gn⟩ ?_
     case gb => repeat (first | (with_reducible exact Below.refl _ _) | refine below_set ?_ (Nat.le_refl _) | apply below_alloc | apply pw_below_drewN)
     case gn => (first | exact blk_set (blk_new _ _) 0 _ | exact blk_new _ _)
     rintro w3 ⟨hb3, hx3⟩
     have HB3 := Aside0.mk hb3
     have HX3 := Aside0.mk hx3
     clear hb3 hx3
     go_at_call 103; (refine (containsf_SL (fun s => !hasB s (q : Int)) #[.pointer (some ⟨wr.heap.size, 0, none⟩)] AS cS L _ (Kd.C_below HS.out.2.2 (below_step HB.out (below_step HB3.out (by repeat (first | (with_reducible first | exact Below.refl _ _ | apply below_alloc | apply pw_below_drewN | apply below_drew1) | exact Below.refl _ _))))) (by have := HMEM.out.1; omega) ?s1).mono ?_)
     case s1 =>
      intro x A c W hW hxm hxc hxr
      exact SL1_c wr.heap.size (q : Int) A c x W (blk_below HX3.out (below_step (w := w3) (by repeat (first | (with_reducible first | exact Below.refl _ _ | apply below_alloc | apply pw_below_drewN | apply below_drew1) | exact Below.refl _ _)) hW)) hxr hxc (by have := HMEM.out.2 x hxm; omega)
     rintro e w4 ⟨rfl, hb4⟩
     rw [HANY.out]
     have HB4 := Aside0.mk (below_step HB3.out (below_step (w := w3) (by repeat (first | (with_reducible first | exact Below.refl _ _ | apply below_alloc | apply pw_below_drewN | apply below_drew1) | exact Below.refl _ _)) hb4))
     have hc4 := (blk_cell (blk_below HX3.out (below_step (w := w3) (by repeat (first | (with_reducible first | exact Below.refl _ _ | apply below_alloc | apply pw_below_drewN | apply below_drew1) | exact Below.refl _ _)) hb4)) 0).trans rfl
     clear hb4
     go_wp2_with ((with_reducible refine gate_builtin (b := .append) (xs := #[.tmp 27, .tmp 29]) rfl ?_); at_builtin; refine Kd.R_append (Kd.int .i64) (w0 := w2) w2.heap.size rfl (.tmp 27) (.tmp 29) 25 3 (.int .i64 0) 8 rfl Try.underlying25 HIN3.out rfl (by decide) (by omega) (.slice A10 (sureL L q).length c10) (sureL L q) (q : Int) [.int .i64 (q : Int)] (fun _ => True) (fun _ => False) rfl rfl ?aP (fun _ h => h.elim) (fun _ _ => trivial) ?aO ?aB ?aS ?aL ?_; (case aP => exact rfl); (case aO => exact Kd.R_below HO.out (below_step HB4.out (by repeat (first | (with_reducible first | exact Below.refl _ _ | apply below_alloc | apply pw_below_drewN | apply below_drew1) | exact Below.refl _ _)))); (case aB => exact below_step HB.out (below_step HB4.out (by repeat (first | (with_reducible first | exact Below.refl _ _ | apply below_alloc | apply pw_below_drewN | apply below_drew1) | exact Below.refl _ _)))); (case aS => exact (below_step HB.out (below_step HB4.out (by repeat (first | (with_reducible first | exact Below.refl _ _ | apply below_alloc | apply pw_below_drewN | apply below_drew1) | exact Below.refl _ _)))).size); (case aL => have := HLN.out; omega); intro v5 w5 hR5 hB5 hg5 hat5; have HR5 := Aside0.mk hR5; have HB5 := Aside0.mk hB5; have HG5 := Aside0.mk hg5; clear hR5 hB5 hg5 hat5)
     go_roundg (6 - (q + 1))
     case measure => have := HQ6.out; omega
     case rel =>
      refine ⟨q + 1, rfl, by push_cast; rfl, ⟨by have := HQ6.out; omega⟩, ⟨by rw [sureL_succ, if_pos hall]; exact HR5.out⟩, HB5⟩
    | false =>
     have hany : (L.any fun s => !hasB s (q : Int)) = true := by
      unfold allHas at hall
      rw [List.all_eq_false] at hall
      obtain ⟨s, hs, hs2⟩ := hall
      exact List.any_eq_true.2 ⟨s, hs, by simpa using hs2⟩
     have HANY := Aside0.mk hany
     clear hany
     go_wp2_with fail
     refine calls_gen (fun W' => Below wr.heap.size wr W' ∧ W'.heap[wr.heap.size]? = some (.cells #[.int .i64 (q : Int)] 3 (0, 0))) ⟨?gb, ?gn⟩ ?_
     case gb => repeat (first | (with_reducible exact Below.refl _ _) | refine below_set ?_ (Nat.le_refl _) | apply below_alloc | apply pw_below_drewN)
     case gn => (first | exact blk_set (blk_new _ _) 0 _ | exact blk_new _ _)
     rintro w3 ⟨hb3, hx3⟩
     have HB3 := Aside0.mk hb3
     have HX3 := Aside0.mk hx3
     clear hb3 hx3
     go_at_call 103; (refine (containsf_SL (fun s => !hasB s (q : Int)) #[.pointer (some ⟨wr.heap.size, 0, none⟩)] AS cS L _ (Kd.C_below HS.out.2.2 (below_step HB.out (below_step HB3.out (by repeat (first | (with_reducible first | exact Below.refl _ _ | apply below_alloc | apply pw_below_drewN | apply below_drew1) | exact Below.refl _ _))))) (by have := HMEM.out.1; omega) ?s1).mono ?_)
     case s1 =>
      intro x A c W hW hxm hxc hxr
      exact SL1_c wr.heap.size (q : Int) A c x W (blk_below HX3.out (below_step (w := w3) (by repeat (first | (with_reducible first | exact Below.refl _ _ | apply below_alloc | apply pw_below_drewN | apply below_drew1) | exact Below.refl _ _)) hW)) hxr hxc (by have := HMEM.out.2 x hxm; omega)
     rintro e w4 ⟨rfl, hb4⟩
     rw [HANY.out]
     have HB4 := Aside0.mk (below_step HB3.out (below_step (w := w3) (by repeat (first | (with_reducible first | exact Below.refl _ _ | apply below_alloc | apply pw_below_drewN | apply below_drew1) | exact Below.refl _ _)) hb4))
     clear hb4
     go_wp2_with fail
     go_roundg (6 - (q + 1))
     case measure => have := HQ6.out; omega
     case rel =>
      refine ⟨q + 1, rfl, by push_cast; rfl, ⟨by have := HQ6.out; omega⟩, ⟨by rw [sureL_succ, if_neg (by rw [hall]; decide), List.append_nil]; exact Kd.R_below HO.out (below_step HB4.out (by repeat (first | (with_reducible first | exact Below.refl _ _ | apply below_alloc | apply pw_below_drewN | apply below_drew1) | exact Below.refl _ _)))⟩, ⟨below_step HB.out (below_step HB4.out (by repeat (first | (with_reducible first | exact Below.refl _ _ | apply below_alloc | apply pw_below_drewN | apply below_drew1) | exact Below.refl _ _)))⟩⟩
   ·have hq' : ¬ (q : Int) < 6 := by omega
    have hq6 : q = 6 := by have := HQ.out; omega
    subst hq6
    obtain ⟨A10, c10, rfl⟩ := Kd.R_slice HO.out
    go_wp2
    go_ret
    exact ⟨_, rfl, by rw [HF.out, if_neg HN0.out]; exact Kd.R_lower HO.out HB0.out.size, below_step HB0.out HB.out⟩

def impl_SureLiars.f (l0 : List (List Int)) (l1 l2 : List Int) (a3 : Int) : Option (List Int) := if okII l0 ∧ l1.length ≤ 1048576 ∧ l2.length ≤ 1048576 then some (sureV l0 l1 l2 a3) else none
theorem impl_SureLiars.calls (A0 : Option Addr) (c0 : Nat) (l0 : List (List Int)) (A1 : Option Addr) (c1 : Nat) (l1 : List Int) (A2 : Option Addr) (c2 : Nat) (l2 : List Int) (a3 : Int) (r : List Int) (w : World) (hr0 : Kd.C (Kd.slice 3 (Kd.int .i64)) w A0 l0.length l0) (hc0 : l0.length ≤ c0) (hr1 : Kd.C (Kd.int .i64) w A1 l1.length l1) (hc1 : l1.length ≤ c1) (hr2 : Kd.C (Kd.int .i64) w A2 l2.length l2) (hc2 : l2.length ≤ c2) (h : impl_SureLiars.f l0 l1 l2 a3 = some r) :
  Calls Try.prog 46 #[.slice A0 l0.length c0, .slice A1 l1.length c1, .slice A2 l2.length c2, .int .i64 a3] w fun e w' => ∃ v0_ : Value, e = .returned (v0_) ∧ Kd.R (Kd.int .i64) 3 w' w.heap.size (fun _ => True) v0_ r ∧ Below w.heap.size w w' := by
 unfold impl_SureLiars.f at h
 split at h
 ·rename_i hh
  obtain rfl := Option.some.inj h
  exact impl_SureLiars_c A0 c0 l0 A1 c1 l1 A2 c2 l2 a3 w hr0 hc0 hr1 hc1 hr2 hc2 hh.1 hh.2.1 hh.2.2
 ·cases h

-- NOT PRINTED: function 161 (slices_Clone_int_int_161)

/-! ### impl_IsInSpan: function 105 -/
open Go.Proofs.Ytiipcophnnfnoaa.Base
abbrev ST := Option Addr × Nat × Nat
def slV_ (t : ST) : Value := .slice t.1 t.2.1 t.2.2
def kSl_ : Kd ST := Kd.scalar slV_ (fun _ => rfl)
def inRd (w : World) (t : ST) (r : List Int) : Prop := t.2.1 = r.length ∧ r.length ≤ t.2.2 ∧ Kd.C (Kd.int .i64) w t.1 r.length r
theorem inRd.below {w w' : World} {t : ST} {r : List Int} (h : inRd w t r) (k : Below w.heap.size w w') : inRd w' t r := ⟨h.1, h.2.1, Kd.C_below h.2.2 k⟩
theorem rows_ks {w : World} {A : Option Addr} {l : List (List Int)} (h : Kd.C (Kd.slice 3 (Kd.int .i64)) w A l.length l) : ∃ T : List ST, T.length = l.length ∧ kSl_.C w A l.length T ∧ ∀ (j : Nat) (t : ST) (r : List Int), T[j]? = some t → l[j]? = some r → inRd w t r := by
 obtain ⟨h1, h2, h3⟩ := h
 by_cases h0 : 0 < l.length
 ·obtain ⟨ad, rfl, hc⟩ := h3 h0
  obtain ⟨T, hT, hP⟩ := list_of (P := fun j (t : ST) => ∀ r, l[j]? = some r → inRd w t r ∧ w.cell? (ad.add j) = some (slV_ t)) l.length (fun j hj => by
   obtain ⟨c, _, ⟨A1, c1, rfl, hl, hC⟩, hcell⟩ := hc j l[j] (List.getElem?_eq_getElem hj)
   refine ⟨(A1, l[j].length, c1), fun r hr => ?_⟩
   obtain rfl : l[j] = r := by rw [List.getElem?_eq_getElem hj] at hr; exact Option.some.inj hr
   refine ⟨⟨rfl, hl, hC⟩, ?_⟩
   have := hcell 0 _ rfl
   rwa [show j * (Kd.slice 3 (Kd.int .i64)).sz + 0 = j by show j * 1 + 0 = j; omega] at this)
  refine ⟨T, hT, ⟨hT, h2, fun _ => ⟨ad, rfl, fun j t ht => ?_⟩⟩, fun j t r ht hr => (hP j t ht r hr).1⟩
  have hj := (List.getElem?_eq_some_iff.1 ht).1
  have hcell := (hP j t ht l[j] (List.getElem?_eq_getElem (by omega))).2
  refine ⟨[slV_ t], rfl, rfl, fun i u hu => ?_⟩
  have hi : i = 0 := by
   have := (List.getElem?_eq_some_iff.1 hu).1
   simp at this
   omega
  subst hi
  have hu' : slV_ t = u := by simpa using hu
  subst hu'
  rwa [show j * kSl_.sz + 0 = j by show j * 1 + 0 = j; omega]
 ·refine ⟨[], by simp; omega, ⟨by simp; omega, h2, fun h => absurd h h0⟩, fun j t r ht _ => by simp at ht⟩
theorem ks_rows {w : World} {A : Option Addr} {T : List ST} {l : List (List Int)} (h : kSl_.C w A T.length T) (hl : T.length = l.length) (hP : ∀ (j : Nat) (t : ST) (r : List Int), T[j]? = some t → l[j]? = some r → inRd w t r) : Kd.C (Kd.slice 3 (Kd.int .i64)) w A l.length l := by
 obtain ⟨h1, h2, h3⟩ := h
 refine ⟨rfl, by omega, fun h0 => ?_⟩
 obtain ⟨ad, rfl, hc⟩ := h3 (by omega)
 refine ⟨ad, rfl, fun j r hr => ?_⟩
 have hj := (List.getElem?_eq_some_iff.1 hr).1
 have ht : T[j]? = some (T[j]'(by omega)) := List.getElem?_eq_getElem (by omega)
 obtain ⟨c, hc1, hc2, hc3⟩ := hc j _ ht
 have hi := hP j _ r ht hr
 have hc2' : c = [slV_ (T[j]'(by omega))] := hc2
 refine ⟨[slV_ (T[j]'(by omega))], rfl, ⟨(T[j]'(by omega)).1, (T[j]'(by omega)).2.2, ?_, hi.2.1, hi.2.2⟩, fun i u hu => ?_⟩
 ·unfold slV_; rw [hi.1]
 ·exact hc3 i u (by rw [hc2']; exact hu)
set_option maxHeartbeats 2000000 in
set_option maxRecDepth 100000 in
theorem clone_rows_c (A : Option Addr) (c : Nat) (T : List ST) (w : World) (h : kSl_.C w A T.length T) (hl : T.length ≤ 1048576) :
  Calls Try.prog 161 #[.slice A T.length c] w fun e w' => ∃ v, e = .returned v ∧ kSl_.R 25 w' w.heap.size (fun _ => True) v T ∧ Below w.heap.size w w' := by
 cases A with
 | none =>
  have hT : T = [] := by
   cases T with
   | nil => rfl
   | cons x xs =>
    obtain ⟨_, _, h3⟩ := h
    obtain ⟨ad, ha, _⟩ := h3 (by simp)
    cases ha
  subst hT
  clear h hl
  have EQ_ : ∀ W : World, (binOp .eql 33 (.slice none 0 c) (.slice none 0 0)).run Try.prog W = .ok (.bool true) W := fun W => by rw [run_eql_slice_nil W 33 _ _ _ _ Try.underlying33]; rfl
  go_enter Try.func161, Try.ntmps161
  go_wp2
  go_ret
  exact ⟨_, rfl, Kd.R_nil _ _ _ _ _, by repeat (first | (with_reducible first | exact Below.refl _ _ | apply below_alloc | apply pw_below_drewN | apply below_drew1) | exact Below.refl _ _)⟩
 | some ad =>
  have EQ_ : ∀ W : World, (binOp .eql 33 (.slice (some ad) T.length c) (.slice none 0 0)).run Try.prog W = .ok (.bool false) W := fun W => by rw [run_eql_slice_nil W 33 _ _ _ _ Try.underlying33]; rfl
  have hinf : (Try.prog.info? 25).map (fun i => (i.zero, i.size, i.bytes)) = some (some (.slice none 0 0), 1, 24) := by kernel_rfl
  have HINF := Aside0.mk hinf
  have HC := Aside0.mk h
  have HL := Aside0.mk hl
  clear hinf h hl
  go_enter Try.func161, Try.ntmps161
  go_wp2_with ((with_reducible refine gate_builtin (b := .append) (xs := #[.tmp 5, .tmp 6]) rfl ?_); at_builtin; refine Kd.R_append_rows kSl_ (Rr := fun t cs => cs = [slV_ t]) (w0 := w) w.heap.size rfl (.tmp 5) (.tmp 6) 33 25 (.slice none 0 0) 24 rfl Try.underlying33 HINF.out rfl (by decide) (by omega) _ [] T (some ad) T.length c (fun _ => True) (fun _ => False) rfl rfl ?aO ?aR (fun _ _ h => h) (fun _ h => h.elim) ?aF ?aB ?aS ?aL ?_; (case aF => exact fun _ _ => trivial); (case aO => exact Kd.R_of_own (own_lit_of _ w.heap.size 25 [] (Nat.le_refl _) (by simp)) (fun _ _ => trivial)); (case aR => exact ReadsRow.imp_ HC.out (by repeat (first | (with_reducible first | exact Below.refl _ _ | apply below_alloc | apply pw_below_drewN | apply below_drew1) | exact Below.refl _ _)) (fun _ _ h => h)); (case aB => repeat (first | (with_reducible first | exact Below.refl _ _ | apply below_alloc | apply pw_below_drewN | apply below_drew1) | exact Below.refl _ _)); (case aS => exact Below.size (w := w) (B := w.heap.size) (by repeat (first | (with_reducible first | exact Below.refl _ _ | apply below_alloc | apply pw_below_drewN | apply below_drew1) | exact Below.refl _ _))); (case aL => have := HL.out; simp only [List.length_nil]; omega); intro v1 w5 hO5 hB5 hg5 hat5)
  go_ret
  exact ⟨_, rfl, hO5, hB5⟩
theorem one_row' {w : World} {g : Nat} {A : Option Addr} {c : Nat} {l : List Int} (h : w.heap[g]? = some (.cells #[.slice A l.length c] 25 (0, 0))) (hc : l.length ≤ c) (hr : Kd.C (Kd.int .i64) w A l.length l) : Kd.C (Kd.slice 3 (Kd.int .i64)) w (some ⟨g, 0, none⟩) 1 [l] := by
 refine ⟨rfl, by omega, fun _ => ⟨⟨g, 0, none⟩, rfl, fun j p hj => ?_⟩⟩
 obtain ⟨hj0, hp⟩ : j = 0 ∧ p = l := by
  cases j with
  | zero => exact ⟨rfl, by simpa using hj.symm⟩
  | succ j => simp at hj
 subst hj0
 subst hp
 refine ⟨[.slice A p.length c], rfl, ⟨A, c, rfl, hc, hr⟩, fun i u hu => ?_⟩
 have hi : i = 0 := by
  have := (List.getElem?_eq_some_iff.1 hu).1
  simp at this
  omega
 subst hi
 have hu' : Value.slice A p.length c = u := by simpa using hu
 subst hu'
 have := blk_cell h 0
 simpa [Addr.add] using this
set_option maxHeartbeats 4000000 in
set_option maxRecDepth 100000 in
theorem impl_IsInSpan_c (A0 : Option Addr) (c0 : Nat) (l0 : List (List Int)) (A1 : Option Addr) (c1 : Nat) (l1 : List Int) (w : World) (hr0 : Kd.C (Kd.slice 3 (Kd.int .i64)) w A0 l0.length l0) (hc0 : l0.length ≤ c0) (hr1 : Kd.C (Kd.int .i64) w A1 l1.length l1) (hc1 : l1.length ≤ c1) (hl0 : l0.length ≤ 1048576) (hl1 : l1.length ≤ 1048576) (hll : ∀ r ∈ l0, r.length ≤ 1048576) :
  Calls Try.prog 105 #[.slice A0 l0.length c0, .slice A1 l1.length c1] w fun e w' => e = .returned (.bool (spanV l0 l1)) ∧ Below w.heap.size w w' := by
 obtain ⟨k1, hk1⟩ := (impl_IsMatrix_ev l0 (l1.length : Int) hll).rounds
 obtain ⟨k2, hk2⟩ := (impl_IsMatrix_ev [l1] (l1.length : Int) (fun r hr => by rw [List.mem_singleton.1 hr]; exact hl1)).rounds
 have HK2 := Aside0.mk hk2
 have HM1 := Aside0.mk (impl_IsMatrix.calls k1 A0 c0 l0 (l1.length : Int) _ w hr0 hc0 hk1)
 have HR0 := Aside0.mk hr0
 have HC0 := Aside0.mk hc0
 have HR1 := Aside0.mk hr1
 have HC1 := Aside0.mk hc1
 have HL0 := Aside0.mk hl0
 have HL1 := Aside0.mk hl1
 obtain ⟨res, hres⟩ : ∃ res, res = spanV l0 l1 := ⟨_, rfl⟩
 rw [← hres]
 have HRES := Aside0.mk hres
 clear hk1 hk2 hr0 hc0 hr1 hc1 hl0 hl1 hll hres
 by_cases hb1 : matB l0 (l1.length : Int) = true
 ·rw [hb1] at HM1
  by_cases hb2 : matB [l1] (l1.length : Int) = true
  ·rw [hb2] at HK2
   have M1 := matB_rows hb1
   have M2 := matB_rows hb2
   have hX1 := matB_cell hb1
   have hX2 : ∀ r ∈ l0 ++ [l1], ∀ j, (vec r j).natAbs ≤ cellB 6 j := fun r hr j => by
    rcases List.mem_append.1 hr with hr | hr
    ·exact hX1 r hr j
    ·exact matB_cell hb2 r hr j
   have hN2 : ∀ r ∈ l0 ++ [l1], r.length = l1.length := fun r hr => by
    rcases List.mem_append.1 hr with hr | hr
    ·exact M1.2.2.1 r hr
    ·rw [List.mem_singleton.1 hr]
   have HS := Aside0.mk (show res = decide ((redI l0 l1.length).length = (redI (l0 ++ [l1]) l1.length).length) by rw [HRES.out]; unfold spanV; rw [hb1, hb2]; rfl)
   have HMM := Aside0.mk M1
   have HX2 := Aside0.mk (And.intro hX2 hN2)
   have HX1 := Aside0.mk hX1
   clear hb1 hb2 M1 M2 hX1 hX2 hN2
   go_enter Try.func105, Try.ntmps105
   go_wp2_with fail
   go_at_call 59; refine HM1.out.mono ?_; rintro e w1 ⟨rfl, hd⟩
   have HB := Aside0.mk hd.below
   clear hd
   go_wp2_with fail
   go_at_call 59; refine (impl_IsMatrix.calls k2 (some ⟨_, 0, none⟩) 1 [l1] (l1.length : Int) true _ ?hr (by simp) HK2.out).mono ?_; (case hr => exact one_row' (by repeat (with_reducible first | apply blk_drew | apply blk_drewN | exact blk_new _ _)) HC1.out (Kd.C_below HR1.out (by repeat (first | (with_reducible first | exact HB.out | apply below_alloc | apply pw_below_drewN | apply below_drew1) | exact HB.out)))); rintro e w2 ⟨rfl, hd⟩
   have HB2 := Aside0.mk (below_step (w := w) (by repeat (first | (with_reducible first | exact HB.out | apply below_alloc | apply pw_below_drewN | apply below_drew1) | exact HB.out)) hd.below)
   clear hd
   go_wp2_with fail
   have hred := impl_reduceAny_c A0 c0 l0 l1.length l1.length 6 w2 (Kd.C_below HR0.out HB2.out) HC0.out HL0.out HMM.out.2.2.1 HMM.out.1.1 (by have := HMM.out.1; omega) (by omega) HX1.out (Nat.le_refl _)
   go_at_call 158; refine hred.mono ?_; rintro e w3 ⟨v1, rfl, hR1, hb3⟩
   obtain ⟨Aq, cq, rfl⟩ := Kd.R_slice hR1
   have HB3 := Aside0.mk (below_step HB2.out hb3)
   obtain ⟨T, hT, hks, hP⟩ := rows_ks (Kd.C_below HR0.out HB3.out)
   have HP := Aside0.mk hP
   have HT := Aside0.mk hT
   rw [← hT] at hks
   have hclone := clone_rows_c A0 c0 T w3 hks (by have := HL0.out; omega)
   rw [hT] at hclone
   have hinf : (Try.prog.info? 25).map (fun i => (i.zero, i.size, i.bytes)) = some (some (.slice none 0 0), 1, 24) := by kernel_rfl
   have HINF := Aside0.mk hinf
   have HCLN := Aside0.mk hclone
   clear hred hR1 hb3 hT hks hP hclone hinf
   go_wp2_with fail
   go_at_call 161; refine HCLN.out.mono ?_; rintro e w4 ⟨v2, rfl, hR2, hb4⟩
   have HR2 := Aside0.mk hR2
   have HB4 := Aside0.mk hb4
   clear hR2 hb4
   go_wp2_with ((with_reducible refine gate_builtin (b := .append) (xs := #[.tmp 24, .tmp 26]) rfl ?_); at_builtin; refine Kd.R_append kSl_ (w0 := w3) w3.heap.size rfl (.tmp 24) (.tmp 26) 33 25 (.slice none 0 0) 24 rfl Try.underlying33 HINF.out rfl (by decide) (by omega) v2 T (A1, l1.length, c1) [.slice A1 l1.length c1] (fun _ => True) (fun _ => False) rfl rfl rfl (fun _ h => h.elim) ?aF ?aO ?aB ?aS ?aL ?_; (case aF => exact fun _ _ => trivial); (case aO => exact HR2.out); (case aB => exact HB4.out); (case aS => exact HB4.out.size); (case aL => have := HT.out; have := HL0.out; omega); intro v3 w5 hO5 hB5 hg5 hat5)
   obtain ⟨A3, c3, hv3⟩ := Kd.R_slice hO5
   subst hv3
   have hrd := Kd.R_reads' hO5
   have hlen : (T ++ [((A1, l1.length, c1) : ST)]).length = (l0 ++ [l1]).length := by simp [HT.out]
   have hks5 := ks_rows (l := l0 ++ [l1]) hrd.2.2 hlen (fun j t r ht hr => by
    by_cases hj : j < T.length
    ·rw [List.getElem?_append_left hj] at ht
     rw [List.getElem?_append_left (by have := HT.out; omega)] at hr
     exact (HP.out j t r ht hr).below hB5
    ·have hj2 := (List.getElem?_eq_some_iff.1 ht).1
     simp at hj2
     have hjT : j = T.length := by omega
     subst hjT
     rw [List.getElem?_append_right (by omega), Nat.sub_self] at ht
     rw [List.getElem?_append_right (by have := HT.out; omega), show T.length - l0.length = 0 by have := HT.out; omega] at hr
     have ht' : (A1, l1.length, c1) = t := by simpa using ht
     have hr' : l1 = r := by simpa using hr
     subst ht'
     subst hr'
     exact ⟨rfl, HC1.out, Kd.C_below HR1.out (below_step HB3.out hB5)⟩)
   have hred2 := impl_reduceAny_c A3 c3 (l0 ++ [l1]) l1.length l1.length 6 w5 hks5 (by have := hrd.2.1; omega) (by have := HMM.out.2.1; simp; omega) HX2.out.2 HMM.out.1.1 (by have := HMM.out.1; omega) (by omega) HX2.out.1 (Nat.le_refl _)
   rw [← hlen] at hred2
   have HB5 := Aside0.mk (below_step HB3.out hB5)
   clear hO5 hB5 hg5 hat5 hrd hlen hks5
   go_at_call 158; refine hred2.mono ?_; rintro e w6 ⟨v4, rfl, hR4, hb6⟩
   obtain ⟨A4, c4, rfl⟩ := Kd.R_slice hR4
   have HB6 := Aside0.mk (below_step HB5.out hb6)
   clear hred2 hR4 hb6
   go_wp2_with fail
   go_ret
   refine ⟨?_, by repeat (first | (with_reducible first | exact HB6.out | apply below_alloc | apply pw_below_drewN | apply below_drew1) | exact HB6.out)⟩
   rw [HS.out]
   congr 2
   by_cases hq : (redI l0 l1.length).length = (redI (l0 ++ [l1]) l1.length).length
   ·rw [decide_eq_true hq, hq]; simp
   ·rw [decide_eq_false hq]; simp; omega
  ·have hb2' : matB [l1] (l1.length : Int) = false := by simpa using hb2
   rw [hb2'] at HK2
   have HS := Aside0.mk (show res = false by rw [HRES.out]; unfold spanV; rw [hb2']; simp)
   clear hb1 hb2 hb2'
   go_enter Try.func105, Try.ntmps105
   go_wp2_with fail
   go_at_call 59; refine HM1.out.mono ?_; rintro e w1 ⟨rfl, hd⟩
   have HB := Aside0.mk hd.below
   clear hd
   go_wp2_with fail
   go_at_call 59; refine (impl_IsMatrix.calls k2 (some ⟨_, 0, none⟩) 1 [l1] (l1.length : Int) false _ ?hr (by simp) HK2.out).mono ?_; (case hr => exact one_row' (by repeat (with_reducible first | apply blk_drew | apply blk_drewN | exact blk_new _ _)) HC1.out (Kd.C_below HR1.out (by repeat (first | (with_reducible first | exact HB.out | apply below_alloc | apply pw_below_drewN | apply below_drew1) | exact HB.out)))); rintro e w2 ⟨rfl, hd⟩
   have HB2 := Aside0.mk (below_step (w := w) (by repeat (first | (with_reducible first | exact HB.out | apply below_alloc | apply pw_below_drewN | apply below_drew1) | exact HB.out)) hd.below)
   clear hd
   go_wp2_with fail
   go_ret
   exact ⟨by rw [HS.out]; rfl, by repeat (first | (with_reducible first | exact HB2.out | apply below_alloc | apply pw_below_drewN | apply below_drew1) | exact HB2.out)⟩
 ·have hb1' : matB l0 (l1.length : Int) = false := by simpa using hb1
  rw [hb1'] at HM1
  have HS := Aside0.mk (show res = false by rw [HRES.out]; unfold spanV; rw [hb1']; simp)
  clear hb1 hb1'
  go_enter Try.func105, Try.ntmps105
  go_wp2_with fail
  go_at_call 59; refine HM1.out.mono ?_; rintro e w1 ⟨rfl, hd⟩
  have HB := Aside0.mk hd.below
  clear hd
  go_wp2_with fail
  go_ret
  exact ⟨by rw [HS.out]; rfl, by repeat (first | (with_reducible first | exact HB.out | apply below_alloc | apply pw_below_drewN | apply below_drew1) | exact HB.out)⟩

def impl_IsInSpan.f (l0 : List (List Int)) (l1 : List Int) : Option Bool := if l0.length ≤ 1048576 ∧ l1.length ≤ 1048576 ∧ (∀ r ∈ l0, r.length ≤ 1048576) then some (spanV l0 l1) else none
theorem impl_IsInSpan.calls (A0 : Option Addr) (c0 : Nat) (l0 : List (List Int)) (A1 : Option Addr) (c1 : Nat) (l1 : List Int) (r : Bool) (w : World) (hr0 : Kd.C (Kd.slice 3 (Kd.int .i64)) w A0 l0.length l0) (hc0 : l0.length ≤ c0) (hr1 : Kd.C (Kd.int .i64) w A1 l1.length l1) (hc1 : l1.length ≤ c1) (h : impl_IsInSpan.f l0 l1 = some r) :
  Calls Try.prog 105 #[.slice A0 l0.length c0, .slice A1 l1.length c1] w fun e w' => e = .returned (.bool r) ∧ Below w.heap.size w w' := by
 unfold impl_IsInSpan.f at h
 split at h
 ·rename_i hh
  obtain rfl := Option.some.inj h
  exact impl_IsInSpan_c A0 c0 l0 A1 c1 l1 w hr0 hc0 hr1 hc1 hh.1 hh.2.1 hh.2.2
 ·cases h

/-! ### impl_IsChecked: function 47 -/
def impl_IsChecked.l0 : Nat → List (List Int) → List Int → Int → List (List Int) → Bool → Int → Int → Option (Bool)
 | 0, _, _, _, _, _, _, _ => none
 | k + 1, x0, x1, x2, x7, x8, x19, x20 => if x20 < x19 then (if 0 ≤ x20 then (if x20 < (x1.length : Int) then (if (rd x1 x20) = x2 then (if x20 < (x0.length : Int) then ((impl_IsInSpan.f x7 (rd_L1 x0 x20)).bind fun t360 => (if t360 = true then (impl_IsChecked.l0 k x0 x1 x2 x7 true x19 (wrap64 (x20 + 1))) else (some false))) else (none)) else (impl_IsChecked.l0 k x0 x1 x2 x7 x8 x19 (wrap64 (x20 + 1)))) else (none)) else (none)) else (some x8)
def impl_IsChecked.f (k : Nat) (l0 : List (List Int)) (l1 : List Int) (a2 : Int) : Option (Bool) := (impl_WithoutOwners.f k l0 l1 (([a2] : List Int))).bind fun t355 => (impl_IsChecked.l0 k l0 l1 a2 t355 false (mn (l0.length : Int) (l1.length : Int)) 0)
theorem impl_IsChecked.mono_l : ∀ k, (∀ y0 y1 y2 y3 y4 y5 y6, LeO (impl_IsChecked.l0 k y0 y1 y2 y3 y4 y5 y6) (impl_IsChecked.l0 (k + 1) y0 y1 y2 y3 y4 y5 y6))
 | 0 => fun _ _ _ _ _ _ _ r h => by simp [impl_IsChecked.l0] at h
 | k + 1 => by
  have ih0 := impl_IsChecked.mono_l k
  ·intro y0 y1 y2 y3 y4 y5 y6
   unfold impl_IsChecked.l0
   repeat' first
   | (with_reducible exact ih0 _ _ _ _ _ _ _)
   | (with_reducible exact impl_WithoutOwners.mono _ _ _ _)
   | (with_reducible exact LeO.refl _)
   | (with_reducible exact LeO.none _)
   | (with_reducible refine LeO.ite ?_ ?_)
   | (with_reducible refine LeO.bind ?_ (fun _ => ?_))
   | exact ih0 _ _ _ _ _ _ _
   | exact impl_WithoutOwners.mono _ _ _ _
   | exact LeO.none _
   | refine LeO.ite ?_ ?_
   | refine LeO.bind ?_ (fun _ => ?_)
theorem impl_IsChecked.mono : ∀ a0 a1 a2 k, LeO (impl_IsChecked.f k a0 a1 a2) (impl_IsChecked.f (k + 1) a0 a1 a2) := by
 intro a0 a1 a2 k
 have ih0 := impl_IsChecked.mono_l k
 unfold impl_IsChecked.f
 repeat' first
   | (with_reducible exact ih0 _ _ _ _ _ _ _)
   | (with_reducible exact impl_WithoutOwners.mono _ _ _ _)
   | (with_reducible exact LeO.refl _)
   | (with_reducible exact LeO.none _)
   | (with_reducible refine LeO.ite ?_ ?_)
   | (with_reducible refine LeO.bind ?_ (fun _ => ?_))
   | exact ih0 _ _ _ _ _ _ _
   | exact impl_WithoutOwners.mono _ _ _ _
   | exact LeO.none _
   | refine LeO.ite ?_ ?_
   | refine LeO.bind ?_ (fun _ => ?_)
set_option maxHeartbeats 8000000 in
set_option maxRecDepth 100000 in
theorem impl_IsChecked.calls (k : Nat) (A0 : Option Addr) (c0 : Nat) (l0 : List (List Int)) (A1 : Option Addr) (c1 : Nat) (l1 : List Int) (a2 : Int) (r : Bool) (w : World) (hr0 : Kd.C (Kd.slice 3 (Kd.int .i64)) w A0 l0.length l0) (hc0 : l0.length ≤ c0) (hr1 : Kd.C (Kd.int .i64) w A1 l1.length l1) (hc1 : l1.length ≤ c1) (h : impl_IsChecked.f k l0 l1 a2 = some r) :
  Calls Try.prog 47 #[.slice A0 l0.length c0, .slice A1 l1.length c1, .int .i64 a2] w fun e w' => e = .returned (.bool r) ∧ Below w.heap.size w w' := by
 have HR0 := Aside0.mk hr0
 have HC0 := Aside0.mk hc0
 clear hr0 hc0
 have HR1 := Aside0.mk hr1
 have HC1 := Aside0.mk hc1
 clear hr1 hc1
 have HB := Aside0.mk (Below.refl w.heap.size w)
 have H : ((impl_WithoutOwners.f k l0 l1 (([a2] : List Int))).bind fun t355 => (impl_IsChecked.l0 k l0 l1 a2 t355 false (mn (l0.length : Int) (l1.length : Int)) 0)) = some r := h
 clear h
 obtain ⟨y352, hy352⟩ : ∃ y_ : List Int, y_ = (([a2] : List Int)) := ⟨_, rfl⟩
 replace H : ((impl_WithoutOwners.f k l0 l1 y352).bind fun t355 => (impl_IsChecked.l0 k l0 l1 a2 t355 false (mn (l0.length : Int) (l1.length : Int)) 0)) = some r := by first | (rw [hy352]; with_reducible exact H) | (have H2_ := (Option.bind_some _ _).symm.trans H; rw [hy352]; with_reducible exact H2_) | (have H2_ := (Option.bind_some _ _).symm.trans H; with_reducible exact H2_) | with_reducible exact H | (rw [hy352]; exact H) | exact H
 have Ny352 := Aside0.mk hy352
 clear hy352
 replace H := Option.bind_eq_some_iff.mp H
 obtain ⟨t355, A40, H⟩ := H
 replace H : (impl_IsChecked.l0 k l0 l1 a2 t355 false (mn (l0.length : Int) (l1.length : Int)) 0) = some r := H
 have A4 := Aside0.mk A40
 clear A40
 obtain ⟨ji5, hji5⟩ : ∃ j_ : Int, (mn (l0.length : Int) (l1.length : Int)) = j_ := ⟨_, rfl⟩
 replace H : (impl_IsChecked.l0 k l0 l1 a2 t355 false ji5 0) = some r := by first | (rw [hji5] at H; exact H) | (simp only [hji5] at H ⊢; exact H)
 (try rw [hji5] at A4)
 (try (have hji5l : 0 ≤ ji5 := by (rw [← hji5]; unfold mn; (repeat' split) <;> omega)))
 (try (have hji5m : 0 ≤ ji5 := by omega))
 have hji5_ : (if (l1.length : Int) < (l0.length : Int) then (l1.length : Int) else (l0.length : Int)) = ji5 := hji5
 have hji5n_ : (if l1.length < l0.length then (l1.length : Int) else (l0.length : Int)) = ji5 := by
  rw [← hji5]; unfold mn; (repeat' split) <;> omega
 have H' := Aside0.mk H
 clear H
 go_enter Try.func47, Try.ntmps47
 go_wp2_with (first | ((with_reducible refine gate_dst (N := 13) rfl ?_); refine Kd.R_lit (Kd.int .i64) _ 3 ?hg (N := 13) ?hd (xs := ([a2] : List Int)) (inner := [.int .i64 a2]) (ok := fun _ => True) (okp := fun _ => True) ?hr ?hp (fun _ hk => hk) trivial (Below.refl _ _) (Nat.le_refl _) (by simp) ?_; (case hd => rfl); (case hg => rfl); (case hr => first | (go_simp; done) | (go_simp; rfl)); (case hp => exact (Reps.one (show Kd.M (Kd.int .i64) _ _ _ a2 [.int .i64 a2] from rfl) (Reps.none _ _))); intro v353 w6 ho7 hb hg_ hnew_; clear hg_ hnew_; (first | rw [← Ny352.out] at ho7 | (simp only [Int.reduceToNat] at ho7; rw [← Ny352.out] at ho7)); have n0_ := Aside0.mk (Kd.R_lower ho7 (below_size (by repeat (first | (with_reducible first | exact HB.out | apply below_alloc | apply pw_below_drewN | apply below_drew1) | exact HB.out)))); have n1_ := Aside0.mk (below_step (by repeat (first | (with_reducible first | exact HB.out | apply below_alloc | apply pw_below_drewN | apply below_drew1) | exact HB.out)) hb); clear HB; have HO354 := n0_; have HB := n1_; clear n0_ n1_; clear hb ho7; obtain ⟨Ao8, co8, eo8⟩ := Kd.R_slice HO354.out; subst eo8) | ((with_reducible refine gate_callee (f := 44) rfl ?_); refine goesL_ (some 14) rfl rfl Try.func44 (by kernel_rfl) rfl #[.slice A0 l0.length c0, .slice A1 l1.length c1, .slice Ao8 y352.length co8] rfl (by (try simp only [List.map_toArray, List.map_cons, List.map_nil]); first | done | rfl | (simp only [List.length_drop, List.length_take]; rfl)) ?_; (with_reducible refine (impl_WithoutOwners.calls k _ _ l0 _ _ l1 _ _ y352 t355 _ ?side1 ?side2 ?side3 ?side4 ?side5 ?side6 A4.out).mono ?_); (case side1 => repeat (first | exact (Kd.C_below HR0.out HB.out) | (with_reducible refine Kd.C_alloc ?_ _) | (with_reducible refine Kd.C_drewN ?_ _) | (with_reducible refine Kd.C_drew ?_))); (case side2 => exact HC0.out); (case side3 => repeat (first | exact (Kd.C_below HR1.out HB.out) | (with_reducible refine Kd.C_alloc ?_ _) | (with_reducible refine Kd.C_drewN ?_ _) | (with_reducible refine Kd.C_drew ?_))); (case side4 => exact HC1.out); (case side5 => repeat (first | exact (Kd.R_reads' HO354.out).2.2 | (with_reducible refine Kd.C_alloc ?_ _) | (with_reducible refine Kd.C_drewN ?_ _) | (with_reducible refine Kd.C_drew ?_))); (case side6 => exact (Kd.R_reads' HO354.out).2.1); rintro e w9 ⟨v356, rfl, ho0, hb⟩; refine ⟨_, rfl, ?_⟩; have n0_ := Aside0.mk (Kd.R_below (by (with_reducible repeat (first | apply Kd.R_alloc | apply Kd.R_drewN | apply Kd.R_drew)); exact HO354.out) hb); have n1_ := Aside0.mk (Kd.S_lower (Kd.S_new' ho0 (Kd.R_lt (by (with_reducible repeat (first | apply Kd.R_alloc | apply Kd.R_drewN | apply Kd.R_drew)); exact HO354.out))) (below_size (by repeat (first | (with_reducible first | exact HB.out | apply below_alloc | apply pw_below_drewN | apply below_drew1) | exact HB.out)))); have n2_ := Aside0.mk (below_step (by repeat (first | (with_reducible first | exact HB.out | apply below_alloc | apply pw_below_drewN | apply below_drew1) | exact HB.out)) hb); clear HO354; clear HB; have HO354 := n0_; have HO357 := n1_; have HB := n2_; clear n0_ n1_ n2_; (try clear hb); (try clear hb2); (try clear hk); (try clear hi); (try clear ho0)))
 go_loopg [8, 20] k (fun kq v8 v20 w' => ∃ (x8_1 : Bool) (x20_1 : Int), v8 = .bool x8_1 ∧ v20 = .int .i64 x20_1 ∧ Aside0 (impl_IsChecked.l0 kq l0 l1 a2 t355 x8_1 ji5 x20_1 = some r) ∧ Aside0 (kq ≤ k) ∧ Aside0 (Kd.S (Kd.slice 3 (Kd.int .i64)) 25 w' w.heap.size (fun _ => True) v356 t355) ∧ Aside0 (Below w.heap.size w w'))
 case atStart => exact ⟨(false), (0), (by first | rfl | (simp; done) | (simp [*]; done)), (by first | rfl | (simp; done) | (simp [*]; done)), H', ⟨Nat.le_refl _⟩, ⟨by (with_reducible repeat (first | apply Kd.S_alloc | apply Kd.S_drewN | apply Kd.S_drew)); exact Kd.S_mono HO357.out (fun _ hk => trivial)⟩, ⟨by repeat (first | (with_reducible first | exact HB.out | apply below_alloc | apply pw_below_drewN | apply below_drew1) | exact HB.out)⟩⟩
 case round =>
  clear H'
  try clear c1
  try clear p2
  try clear c4
  obtain ⟨x8_1, x20_1, rfl, rfl, HA, HK1, HO_7, HB⟩ := hrel
  cases gk with
  | zero => exact absurd HA.out (by simp [impl_IsChecked.l0])
  | succ k1 =>
   have H := HA.out
   clear HA
   simp only [impl_IsChecked.l0] at H
   by_cases c10 : x20_1 < ji5
   ·rw [if_pos c10] at H
    have c10b0 : decide (x20_1 < ji5) = true := decide_eq_true c10
    clear c10
    by_cases c11 : 0 ≤ x20_1
    ·rw [if_pos c11] at H
     have c11b0 : decide (0 ≤ x20_1) = true := decide_eq_true c11
     clear c11
     by_cases c12 : x20_1 < (l1.length : Int)
     ·rw [if_pos c12] at H
      have c12b0 : decide (x20_1 < (l1.length : Int)) = true := decide_eq_true c12
      clear c12
      by_cases c13 : (rd l1 x20_1) = a2
      ·rw [if_pos c13] at H
       have c13b0 : ((rd l1 x20_1) == a2) = true := beq_iff_eq.mpr c13
       have c13b1 : ((rd l1 x20_1) != a2) = false := bne_eq_false_iff_eq.mpr c13
       clear c13
       by_cases c14 : x20_1 < (l0.length : Int)
       ·rw [if_pos c14] at H
        have c14b0 : decide (x20_1 < (l0.length : Int)) = true := decide_eq_true c14
        clear c14
        replace H := Option.bind_eq_some_iff.mp H
        obtain ⟨t360, A150, H⟩ := H
        replace H : (if t360 = true then (impl_IsChecked.l0 k1 l0 l1 a2 t355 true ji5 (wrap64 (x20_1 + 1))) else (some false)) = some r := H
        have A15 := Aside0.mk A150
        clear A150
        by_cases c16 : t360 = true
        ·subst c16
         have H1 : (impl_IsChecked.l0 k1 l0 l1 a2 t355 true ji5 (wrap64 (x20_1 + 1))) = some r := by rw [if_pos rfl] at H; exact H
         clear H
         have H := H1
         clear H1
         have H' := Aside0.mk H
         clear H
         have p358 : 0 ≤ (x20_1 : Int) := of_decide_eq_true (by first | (with_reducible assumption) | assumption)
         have q358 : x20_1 < (l1.length : Int) := of_decide_eq_true (by first | (with_reducible assumption) | assumption)
         obtain ⟨ad358, e358, hx358_0⟩ := Kd.at_int HR1.out x20_1 p358 q358
         cases e358
         replace hx358_0 := (HB.out.cell (World.block_lt_of_cell? w _ hx358_0)).trans hx358_0
         replace p358 := eq_true p358
         replace q358 := eq_true q358
         have p359 : 0 ≤ (x20_1 : Int) := of_decide_eq_true (by first | (with_reducible assumption) | assumption)
         have q359 : x20_1 < (l0.length : Int) := of_decide_eq_true (by first | (with_reducible assumption) | assumption)
         obtain ⟨ad359, A359_0, c359_0, e359, hx359_0, hl359_0, hi359_0⟩ := at_L1 HR0.out x20_1 p359 q359
         cases e359
         replace hx359_0 := (HB.out.cell (World.block_lt_of_cell? w _ hx359_0)).trans hx359_0
         have HR359_0 := Aside0.mk hi359_0
         have HC359_0 := Aside0.mk hl359_0
         clear hi359_0 hl359_0
         replace p359 := eq_true p359
         replace q359 := eq_true q359
         obtain ⟨Ao17, co17, eo17⟩ := Kd.S_slice HO_7.out
         subst eo17
         go_wp2_with (first | ((with_reducible refine gate_callee (f := 105) rfl ?_); refine goesL_ (some 34) rfl rfl Try.func105 (by kernel_rfl) rfl #[.slice Ao17 t355.length co17, .slice A359_0 (rd_L1 l0 x20_1).length c359_0] rfl (by (try simp only [List.map_toArray, List.map_cons, List.map_nil]); first | done | rfl | (simp only [List.length_drop, List.length_take]; rfl)) ?_; (with_reducible refine (impl_IsInSpan.calls _ _ t355 _ _ (rd_L1 l0 x20_1) true _ ?side1 ?side2 ?side3 ?side4 A15.out).mono ?_); (case side1 => repeat (first | exact (Kd.S_reads' HO_7.out).2.2 | (with_reducible refine Kd.C_alloc ?_ _) | (with_reducible refine Kd.C_drewN ?_ _) | (with_reducible refine Kd.C_drew ?_))); (case side2 => exact (Kd.S_reads' HO_7.out).2.1); (case side3 => repeat (first | exact (Kd.C_below HR359_0.out HB.out) | (with_reducible refine Kd.C_alloc ?_ _) | (with_reducible refine Kd.C_drewN ?_ _) | (with_reducible refine Kd.C_drew ?_))); (case side4 => exact HC359_0.out); rintro e w18 ⟨rfl, hb⟩; refine ⟨_, rfl, ?_⟩; have n0_ := Aside0.mk (Kd.S_below (by (with_reducible repeat (first | apply Kd.S_alloc | apply Kd.S_drewN | apply Kd.S_drew)); exact HO_7.out) hb); have n1_ := Aside0.mk (below_step (by repeat (first | (with_reducible first | exact HB.out | apply below_alloc | apply pw_below_drewN | apply below_drew1) | exact HB.out)) hb); clear HO_7; clear HB; have HO_7 := n0_; have HB := n1_; clear n0_ n1_; (try clear hb); (try clear hb2); (try clear hk); (try clear hi)))
         go_roundg k1
         case measure => have := HK1.out; omega
         case rel => exact ⟨(true), (wrap64 (x20_1 + 1)), (by first | rfl | (simp; done) | (simp [*]; done)), (by first | rfl | (simp; done) | (simp [*]; done)), H', ⟨by have := HK1.out; omega⟩, ⟨by (with_reducible repeat (first | apply Kd.S_alloc | apply Kd.S_drewN | apply Kd.S_drew)); exact HO_7.out⟩, ⟨by repeat (first | (with_reducible first | exact HB.out | apply below_alloc | apply pw_below_drewN | apply below_drew1) | exact HB.out)⟩⟩
        ·replace c16 := Bool.eq_false_iff.mpr c16
         subst c16
         have H1 : (some false) = some r := by rw [if_neg (show ¬ (false = true) by decide)] at H; exact H
         clear H
         have H := H1
         clear H1
         obtain rfl := Option.some.inj H
         have p358 : 0 ≤ (x20_1 : Int) := of_decide_eq_true (by first | (with_reducible assumption) | assumption)
         have q358 : x20_1 < (l1.length : Int) := of_decide_eq_true (by first | (with_reducible assumption) | assumption)
         obtain ⟨ad358, e358, hx358_0⟩ := Kd.at_int HR1.out x20_1 p358 q358
         cases e358
         replace hx358_0 := (HB.out.cell (World.block_lt_of_cell? w _ hx358_0)).trans hx358_0
         replace p358 := eq_true p358
         replace q358 := eq_true q358
         have p359 : 0 ≤ (x20_1 : Int) := of_decide_eq_true (by first | (with_reducible assumption) | assumption)
         have q359 : x20_1 < (l0.length : Int) := of_decide_eq_true (by first | (with_reducible assumption) | assumption)
         obtain ⟨ad359, A359_0, c359_0, e359, hx359_0, hl359_0, hi359_0⟩ := at_L1 HR0.out x20_1 p359 q359
         cases e359
         replace hx359_0 := (HB.out.cell (World.block_lt_of_cell? w _ hx359_0)).trans hx359_0
         have HR359_0 := Aside0.mk hi359_0
         have HC359_0 := Aside0.mk hl359_0
         clear hi359_0 hl359_0
         replace p359 := eq_true p359
         replace q359 := eq_true q359
         obtain ⟨Ao19, co19, eo19⟩ := Kd.S_slice HO_7.out
         subst eo19
         go_wp2_with (first | ((with_reducible refine gate_callee (f := 105) rfl ?_); refine goesL_ (some 34) rfl rfl Try.func105 (by kernel_rfl) rfl #[.slice Ao19 t355.length co19, .slice A359_0 (rd_L1 l0 x20_1).length c359_0] rfl (by (try simp only [List.map_toArray, List.map_cons, List.map_nil]); first | done | rfl | (simp only [List.length_drop, List.length_take]; rfl)) ?_; (with_reducible refine (impl_IsInSpan.calls _ _ t355 _ _ (rd_L1 l0 x20_1) false _ ?side1 ?side2 ?side3 ?side4 A15.out).mono ?_); (case side1 => repeat (first | exact (Kd.S_reads' HO_7.out).2.2 | (with_reducible refine Kd.C_alloc ?_ _) | (with_reducible refine Kd.C_drewN ?_ _) | (with_reducible refine Kd.C_drew ?_))); (case side2 => exact (Kd.S_reads' HO_7.out).2.1); (case side3 => repeat (first | exact (Kd.C_below HR359_0.out HB.out) | (with_reducible refine Kd.C_alloc ?_ _) | (with_reducible refine Kd.C_drewN ?_ _) | (with_reducible refine Kd.C_drew ?_))); (case side4 => exact HC359_0.out); rintro e w20 ⟨rfl, hb⟩; refine ⟨_, rfl, ?_⟩; have n0_ := Aside0.mk (Kd.S_below (by (with_reducible repeat (first | apply Kd.S_alloc | apply Kd.S_drewN | apply Kd.S_drew)); exact HO_7.out) hb); have n1_ := Aside0.mk (below_step (by repeat (first | (with_reducible first | exact HB.out | apply below_alloc | apply pw_below_drewN | apply below_drew1) | exact HB.out)) hb); clear HO_7; clear HB; have HO_7 := n0_; have HB := n1_; clear n0_ n1_; (try clear hb); (try clear hb2); (try clear hk); (try clear hi)))
         go_ret
         exact ⟨by first | rfl | (simp [errW_none, errW_some] <;> rfl) | (simp only [← hji5]; first | rfl | (simp [errW_none, errW_some] <;> rfl)) | (simp [*, errW_none, errW_some] <;> rfl), by repeat (first | (with_reducible first | exact HB.out | apply below_alloc | apply pw_below_drewN | apply below_drew1) | exact HB.out)⟩
       ·rw [if_neg c14] at H
        exact absurd H (by simp)
      ·rw [if_neg c13] at H
       have c13b0 : ((rd l1 x20_1) == a2) = false := beq_eq_false_iff_ne.mpr c13
       have c13b1 : ((rd l1 x20_1) != a2) = true := bne_iff_ne.mpr c13
       have H' := Aside0.mk H
       clear H
       have p358 : 0 ≤ (x20_1 : Int) := of_decide_eq_true (by first | (with_reducible assumption) | assumption)
       have q358 : x20_1 < (l1.length : Int) := of_decide_eq_true (by first | (with_reducible assumption) | assumption)
       obtain ⟨ad358, e358, hx358_0⟩ := Kd.at_int HR1.out x20_1 p358 q358
       cases e358
       replace hx358_0 := (HB.out.cell (World.block_lt_of_cell? w _ hx358_0)).trans hx358_0
       replace p358 := eq_true p358
       replace q358 := eq_true q358
       go_wp2
       go_roundg k1
       case measure => have := HK1.out; omega
       case rel => exact ⟨(x8_1), (wrap64 (x20_1 + 1)), (by first | rfl | (simp; done) | (simp [*]; done)), (by first | rfl | (simp; done) | (simp [*]; done)), H', ⟨by have := HK1.out; omega⟩, ⟨by (with_reducible repeat (first | apply Kd.S_alloc | apply Kd.S_drewN | apply Kd.S_drew)); exact HO_7.out⟩, ⟨by repeat (first | (with_reducible first | exact HB.out | apply below_alloc | apply pw_below_drewN | apply below_drew1) | exact HB.out)⟩⟩
     ·rw [if_neg c12] at H
      exact absurd H (by simp)
    ·rw [if_neg c11] at H
     exact absurd H (by simp)
   ·rw [if_neg c10] at H
    have c10b0 : decide (x20_1 < ji5) = false := decide_eq_false c10
    clear c10
    obtain rfl := Option.some.inj H
    go_wp2
    go_ret
    exact ⟨by first | rfl | (simp [errW_none, errW_some] <;> rfl) | (simp only [← hji5]; first | rfl | (simp [errW_none, errW_some] <;> rfl)) | (simp [*, errW_none, errW_some] <;> rfl), by repeat (first | (with_reducible first | exact HB.out | apply below_alloc | apply pw_below_drewN | apply below_drew1) | exact HB.out)⟩

end Go.Proofs.Ytiipcophnnfnoaa.PFnLiars
