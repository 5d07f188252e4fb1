/- What the functions that the law FnExactIsWorld uses compute, and that the program computes it: walks written by a program of this session. -/
import Derived.Test.YtiipcophnnfnoaaPFnExactIsWorldx0
import Derived.Test.YtiipcophnnfnoaaPFnExactIsWorldx2
import Derived.Test.YtiipcophnnfnoaaPFnExactIsWorldx13
namespace Go.Proofs.Ytiipcophnnfnoaa.PFnExactIsWorld
open Go.RowKit Go.Proofs.YtiipcophnnfnoaaW.PrintWords Go.Proofs.YtiipcophnnfnoaaW.PrintLast Go.Proofs.YtiipcophnnfnoaaW.PrintMore
attribute [local go_sem] max2_int min2_int max_two min_two max_three min_three max_four min_four   -- for this text's walks alone
set_option linter.unusedVariables false
set_option linter.unusedSimpArgs false

/-! ### impl_isSet: function 112 -/
abbrev srtL (l : List Int) : List Int := l.mergeSort fun x y => decide (x ≤ y)
theorem compact_le (zs : List Int) : (Lib.compact zs).length ≤ zs.length := by
 unfold Lib.compact Lib.compactUpTo
 rw [List.length_map]
 exact Nat.le_trans (List.length_filter_le _ _) (by simp)

theorem ints_of_holds {w : World} {g m : Nat} {S : List Int} (h : Sort.Holds (Value.int .i64) w g 0 S.toArray) (hm : m ≤ S.length) (hl : m ≤ 1048576) : Kd.C (Kd.int .i64) w (some ⟨g, 0, none⟩) (S.take m).length (S.take m) := by
 have hlen : (S.take m).length = m := by rw [List.length_take]; omega
 refine ⟨rfl, by omega, fun _ => ⟨⟨g, 0, none⟩, rfl, fun j p hj => ?_⟩⟩
 have hj2 := (List.getElem?_eq_some_iff.1 hj).1
 have hjm : j < S.length := by omega
 have hp : S[j] = p := by
  have e := List.getElem?_eq_some_iff.1 hj
  obtain ⟨_, e⟩ := e
  rw [← e, List.getElem_take]
 refine ⟨[.int .i64 p], rfl, rfl, fun i u hu => ?_⟩
 have hi : i = 0 := by
  have := (List.getElem?_eq_some_iff.1 hu).1
  simp at this
  omega
 subst hi
 have hu' : Value.int .i64 p = u := by simpa using hu
 subst hu'
 have h1 := (h j (by simpa using hjm)).1
 rw [Nat.zero_add, getElem!_pos _ j (by simpa using hjm)] at h1
 show w.cell? ((⟨g, 0, none⟩ : Addr).add (j * 1 + 0)) = _
 rw [add_at, Nat.zero_add, Nat.mul_one, Nat.add_zero, h1]
 simp [List.getElem_toArray, hp]
set_option maxHeartbeats 4000000 in
set_option maxRecDepth 100000 in
theorem impl_sorted_c (A : Option Addr) (c : Nat) (zs : List Int) (w : World) (hr : Kd.C (Kd.int .i64) w A zs.length zs) (hc : zs.length ≤ c) (hl : zs.length ≤ 1048576) :
  Calls Try.prog 164 #[.slice A zs.length c] w fun e w' => ∃ A' c', e = .returned (.slice A' (Lib.compact (srtL zs)).length c') ∧ (Lib.compact (srtL zs)).length ≤ c' ∧ Kd.C (Kd.int .i64) w' A' (Lib.compact (srtL zs)).length (Lib.compact (srtL zs)) ∧ Below w.heap.size w w' := by
 have hf : slices_Clone_int_int.f zs = some zs := by
  unfold slices_Clone_int_int.f
  simp
  omega
 have hclone := slices_Clone_int_int.calls A c zs zs w hr hc hf
 have HC := Aside0.mk hclone
 obtain ⟨S, hS⟩ : ∃ S, S = srtL zs := ⟨_, rfl⟩
 rw [← hS]
 obtain ⟨Y, hY⟩ : ∃ Y, Y = Lib.compact S := ⟨_, rfl⟩
 rw [← hY]
 have HS := Aside0.mk hS
 have HY := Aside0.mk hY
 have hSl : S.length = zs.length := by rw [hS]; exact List.length_mergeSort zs
 have hYl : Y.length ≤ zs.length := by rw [hY, ← hSl]; exact compact_le _
 have HL := Aside0.mk (And.intro hl (And.intro hSl hYl))
 clear hclone hr hc hf hY hl hS
 by_cases h0 : zs.length = 0
 ·have hY0 : Y = [] := List.eq_nil_of_length_eq_zero (by omega)
  subst hY0
  have H00 := Aside0.mk h0
  clear hSl hYl h0
  go_enter Try.func164, Try.ntmps164
  go_wp2_with fail
  go_at_call 102; refine HC.out.mono ?_; rintro e w1 ⟨v1, rfl, hR, hbel⟩
  obtain ⟨A1, c1, rfl⟩ := Kd.R_slice hR
  have HB1 := Aside0.mk hbel
  clear hR hbel
  rw [H00.out]
  go_wp2_with fail
  go_at_call 191; refine (Try.slices_Sort_int_none A1 c1 _).mono ?_; rintro e w2 ⟨rfl, rfl⟩
  go_wp2_with fail
  go_at_call 192; refine (Try.slices_Compact_int_empty A1 c1 _).mono ?_; rintro e w3 ⟨rfl, rfl⟩
  have HB3 := Aside0.mk (show Below w.heap.size w _ from by repeat (first | (with_reducible first | exact HB1.out | apply below_alloc | apply pw_below_drewN | apply below_drew1) | exact HB1.out))
  go_wp2
  go_ret
  exact ⟨A1, c1, rfl, Nat.zero_le _, ⟨rfl, by simp, fun h => absurd h (by simp)⟩, by repeat (first | (with_reducible first | exact HB1.out | apply below_alloc | apply pw_below_drewN | apply below_drew1) | exact HB1.out)⟩
 ·have H0 := Aside0.mk h0
  clear hSl hYl h0
  go_enter Try.func164, Try.ntmps164
  go_wp2_with fail
  go_at_call 102; refine HC.out.mono ?_; rintro e w1 ⟨v1, rfl, hR, hbel⟩
  have hp := Nat.pos_of_ne_zero H0.out
  obtain ⟨g0, cap0, hv, _⟩ := Kd.R_form hR hp
  have hnn : v1 ≠ .slice none 0 0 := by rw [hv]; intro h; cases h
  obtain ⟨g, cap, rfl, hbg, hgl, hncap, hcm, hlen, hH⟩ := Lib.holds_of_ownsRow (enc := Value.int .i64) (Kd.own_of_R hR) hnn
  have X := Aside0.mk (And.intro hbel (And.intro hbg (And.intro hgl (And.intro hH hncap))))
  clear hv hR hbel hH hnn hlen hp hbg hncap hcm hgl
  go_wp2_with fail
  have hsort := Try.slices_Sort_int g 0 cap zs w1 X.out.2.2.2.1 X.out.2.2.1 (by have := HL.out.1; omega)
  go_at_call 191; refine hsort.mono ?_; rintro e w2 ⟨rfl, nn, os, hw2⟩
  have hH2 : Sort.Holds (Value.int .i64) w2 g 0 S.toArray := by
   rw [HS.out]
   subst hw2
   exact Sort.holds_grow _ _ os g 0 _ (by simpa [Sort.putRow, Sort.mapBlock, Sort.ahead] using X.out.2.2.1) (Sort.holds_putRow _ _ g 0 _ _ (Sort.holds_ahead _ w1 nn g 0 _ X.out.2.2.2.1) (by simp))
  have hB2 : Below w.heap.size w w2 := by
   subst hw2
   exact X.out.1.grown (grownBy_sortedI _) X.out.1.size (fun j hj => by cases hj; exact X.out.2.1)
  have X2 := Aside0.mk (And.intro hH2 hB2)
  clear hw2 hsort hH2 hB2
  rw [← HL.out.2.1]
  go_wp2_with fail
  go_at_call 192; refine (Try.slices_Compact_int g 0 cap S w2 X2.out.1 (by have := HL.out; omega) (by have := HL.out; have := X.out.2.2.2.2; omega)).mono ?_; rintro e w3 ⟨rfl, q, hw3⟩
  rw [← HY.out] at hw3 ⊢
  have hH3 : Sort.Holds (Value.int .i64) w3 g 0 (Y ++ List.replicate (S.length - Y.length) 0).toArray := by
   subst hw3
   exact Sort.holds_putRow _ _ g 0 _ _ (Sort.holds_ahead _ w2 q g 0 _ X2.out.1) (by simp; have := HL.out; omega)
  have hB3 : Below w.heap.size w w3 := by
   have hg := grownBy_sortedI (w := w2) (g := g) (n := q) (os := #[]) (Y ++ List.replicate (S.length - Y.length) 0).toArray
   rw [Sort.grow_empty, ← hw3] at hg
   exact X2.out.2.grown hg X2.out.2.size (fun j hj => by cases hj; exact X.out.2.1)
  have hC3 := ints_of_holds (m := Y.length) hH3 (by simp) (by have := HL.out; omega)
  rw [List.take_left] at hC3
  have X3 := Aside0.mk (And.intro hC3 hB3)
  clear hw3 hH3 hB3 hC3
  go_wp2
  go_ret
  exact ⟨some ⟨g, 0, none⟩, cap, rfl, by have := HL.out; have := X.out.2.2.2.2; omega, X3.out.1, X3.out.2⟩
def isSetF (k : Nat) (zs : List Int) (n : Int) : Option Bool := if zs.length ≤ 1048576 ∧ 0 ≤ n ∧ n ≤ 9223372036854775807 then (impl_allIn.f k zs 0 (n - 1)).bind fun t => (if t = true then (slices_Equal_int_int.f k (Lib.compact (srtL zs)) zs) else some false) else none
set_option maxHeartbeats 4000000 in
set_option maxRecDepth 100000 in
theorem impl_isSet_c (k : Nat) (A : Option Addr) (c : Nat) (zs : List Int) (n : Int) (r : Bool) (w : World) (hr : Kd.C (Kd.int .i64) w A zs.length zs) (hc : zs.length ≤ c) (h : isSetF k zs n = some r) :
  Calls Try.prog 112 #[.slice A zs.length c, .int .i64 n] w fun e w' => e = .returned (.bool r) ∧ Below w.heap.size w w' := by
 unfold isSetF at h
 split at h
 case isFalse => cases h
 rename_i hh
 obtain ⟨hl, hn⟩ := hh
 obtain ⟨t, hk1, h⟩ := Option.bind_eq_some_iff.mp h
 have hw1 : IntKind.i64.wrap (n - 1) = n - 1 := by rw [IntKind.wrap_i64]; omega
 have H := Aside0.mk (fun (W : World) (hb : Below w.heap.size w W) => impl_sorted_c A c zs W (Kd.C_below hr hb) hc hl)
 have HR := Aside0.mk (And.intro hr hc)
 have K1 := Aside0.mk hk1
 clear hk1 hr hc hl
 cases t with
 | false =>
  have hrf : r = false := by simpa using h.symm
  subst hrf
  clear h
  go_enter Try.func112, Try.ntmps112
  go_wp2_with fail
  go_at_call 99; (refine (impl_allIn.calls k A c zs 0 (n - 1) false _ HR.out.1 HR.out.2 K1.out).mono ?_); rintro e w' ⟨rfl, ⟨nd, rfl⟩⟩
  go_wp2
  go_ret
  exact ⟨rfl, (by repeat (first | (with_reducible first | exact Below.refl _ _ | apply below_alloc | apply pw_below_drewN | apply below_drew1) | exact Below.refl _ _))⟩
 | true =>
  have hk2 : slices_Equal_int_int.f k (Lib.compact (srtL zs)) zs = some r := by simpa using h
  have K2 := Aside0.mk hk2
  clear h hk2
  go_enter Try.func112, Try.ntmps112
  go_wp2_with fail
  go_at_call 99; (refine (impl_allIn.calls k A c zs 0 (n - 1) true _ HR.out.1 HR.out.2 K1.out).mono ?_); rintro e w' ⟨rfl, ⟨nd, rfl⟩⟩
  go_wp2_with fail
  go_at_call 164; (refine (H.out _ (by repeat (first | (with_reducible first | exact Below.refl _ _ | apply below_alloc | apply pw_below_drewN | apply below_drew1) | exact Below.refl _ _))).mono ?_); rintro e w2 ⟨A2, c2, rfl, hc2, hr2, hb2⟩
  have HB2 := Aside0.mk (below_step (w := w) (by repeat (first | (with_reducible first | exact Below.refl _ _ | apply below_alloc | apply pw_below_drewN | apply below_drew1) | exact Below.refl _ _)) hb2)
  have HR2 := Aside0.mk (And.intro hr2 hc2)
  clear hc2 hr2 hb2
  go_wp2_with fail
  go_at_call 137; (refine (slices_Equal_int_int.calls k A2 c2 _ A c zs _ _ (Kd.C_below HR2.out.1 (by repeat (first | (with_reducible first | exact Below.refl _ _ | apply below_alloc | apply pw_below_drewN | apply below_drew1) | exact Below.refl _ _))) HR2.out.2 (Kd.C_below HR.out.1 (below_step HB2.out (by repeat (first | (with_reducible first | exact Below.refl _ _ | apply below_alloc | apply pw_below_drewN | apply below_drew1) | exact Below.refl _ _)))) HR.out.2 K2.out).mono ?_); rintro e w' ⟨rfl, ⟨nd2, rfl⟩⟩
  go_wp2
  go_ret
  exact ⟨rfl, by repeat (first | (with_reducible first | exact HB2.out | apply below_alloc | apply pw_below_drewN | apply below_drew1) | exact HB2.out)⟩

def impl_isSet.f (k : Nat) (l0 : List Int) (a1 : Int) : Option Bool := isSetF k l0 a1
theorem impl_isSet.mono : ∀ a0 a1 k, LeO (impl_isSet.f k a0 a1) (impl_isSet.f (k + 1) a0 a1) := by
 intro a0 a1 k
 unfold impl_isSet.f isSetF
 repeat' first
   | (with_reducible exact impl_allIn.mono _ _ _ _)
   | (with_reducible exact slices_Equal_int_int.mono _ _ _)
   | (with_reducible exact LeO.refl _)
   | (with_reducible exact LeO.none _)
   | (with_reducible refine LeO.ite ?_ ?_)
   | (with_reducible refine LeO.bind ?_ (fun _ => ?_))
   | exact impl_allIn.mono _ _ _ _
   | exact slices_Equal_int_int.mono _ _ _
   | exact LeO.none _
   | refine LeO.ite ?_ ?_
   | refine LeO.bind ?_ (fun _ => ?_)
theorem impl_isSet.calls (k : Nat) (A0 : Option Addr) (c0 : Nat) (l0 : List Int) (a1 : Int) (r : Bool) (w : World) (hr0 : Kd.C (Kd.int .i64) w A0 l0.length l0) (hc0 : l0.length ≤ c0) (h : impl_isSet.f k l0 a1 = some r) :
  Calls Try.prog 112 #[.slice A0 l0.length c0, .int .i64 a1] w fun e w' => e = .returned (.bool r) ∧ Below w.heap.size w w' :=
 impl_isSet_c k A0 c0 l0 a1 r w hr0 hc0 h

-- NOT PRINTED: function 193 (impl_Probe_193)

-- NOT PRINTED: function 165 (impl_Probe_165)

/-! ### impl_AreProbes: function 113 -/
open Go.Proofs.Ytiipcophnnfnoaa.Base
set_option maxHeartbeats 4000000 in
set_option maxRecDepth 100000 in
theorem idxf_Probe (p : S103 → Bool) (lb : Array Value) (A0 : Option Addr) (c0 : Nat) (l0 : List S103) (w : World) (hr0 : Kd.C k103 w A0 l0.length l0) (hl : l0.length ≤ 1048576)
  (hp : ∀ x (A2 : Option Addr) (c2 : Nat) W, Below w.heap.size w W → x ∈ l0 → x.f2.length ≤ c2 → Kd.C (Kd.int .i64) W A2 x.f2.length x.f2 → Calls Try.prog 166 (#[.agg #[.int .i64 x.f0, .int .i64 x.f1, .slice A2 x.f2.length c2]] ++ lb) W fun e w' => e = .returned (.bool (p x)) ∧ Below W.heap.size W w') :
  Calls Try.prog 193 #[.slice A0 l0.length c0, .func (.func 166) #[] lb] w fun e w' => e = .returned (.int .i64 (firstP p l0 0)) ∧ Below w.heap.size w w' := by
 have hu := Try.underlying103
 have HR0 := Aside0.mk hr0
 have HP := Aside0.mk hp
 have eg : ∀ args w, (callFunc 166 args).run Try.prog w = .ok (.enter 166 args) w := by
  intro args w
  have h1 : Try.f166.name ≠ "runtime.NumGoroutine" := by decide
  obtain ⟨c_, hb⟩ : ∃ c_, Try.f166.body = some c_ := ⟨_, rfl⟩
  simp [callFunc, Try.func166, h1, hb, mark]
 clear hr0 hp
 go_enter Try.func193, Try.ntmps193
 go_wp2
 go_loopg [8] l0.length (fun gg v8 wr => ∃ (pre suf : List S103), gg = suf.length ∧ Aside0 (l0 = pre ++ suf) ∧ v8 = .int .i64 (pre.length : Int) ∧ Aside0 (firstP p suf pre.length = firstP p l0 0) ∧ Aside0 (Below w.heap.size w wr))
 case atStart => exact ⟨[], l0, rfl, ⟨rfl⟩, rfl, ⟨rfl⟩, ⟨(by repeat (first | (with_reducible first | exact Below.refl _ _ | apply below_alloc | apply pw_below_drewN | apply below_drew1) | exact Below.refl _ _))⟩⟩
 case round =>
  obtain ⟨pre, suf, hgg, HE, rfl, HA, HB⟩ := hrel
  cases suf with
  | nil =>
   have hlt : ¬ (pre.length : Int) < (l0.length : Int) := by rw [HE.out]; simp
   go_wp2
   go_ret
   exact ⟨by rw [← HA.out]; rfl, HB.out⟩
  | cons x suf =>
   have hlt : (pre.length : Int) < (l0.length : Int) := by rw [HE.out]; simp; omega
   have ex : rd_T103 l0 (pre.length : Int) = x := by rw [rd_T103, HE.out, getD_mid]
   obtain ⟨ad, A2, c2, e3, hx0, hx1, hx2, hl2, hi2⟩ := at_T103 HR0.out (pre.length : Int) (by omega) hlt
   rw [ex] at hx0 hx1 hx2 hl2 hi2
   cases e3
   replace hx0 := (HB.out.cell (World.block_lt_of_cell? w _ hx0)).trans hx0
   replace hx1 := (HB.out.cell (World.block_lt_of_cell? w _ hx1)).trans hx1
   replace hx2 := (HB.out.cell (World.block_lt_of_cell? w _ hx2)).trans hx2
   simp only [Int.toNat_natCast] at hx0 hx1 hx2
   have HL2 := Aside0.mk hl2
   have HI2 := Aside0.mk (Kd.C_below hi2 HB.out)
   clear hl2 hi2
   have HCALL := Aside0.mk (HP.out x A2 c2)
   have HM := Aside0.mk (show x ∈ l0 by rw [HE.out]; simp)
   clear ex
   cases hp : p x with
   | true =>
    rw [hp] at HCALL
    go_wp2_with fail
    go_at_call 166; (refine (HCALL.out _ ?hbel HM.out HL2.out (Kd.C_below HI2.out (by repeat (first | (with_reducible first | exact Below.refl _ _ | apply below_alloc | apply pw_below_drewN | apply below_drew1) | exact Below.refl _ _)))).mono ?_); (case hbel => repeat (first | (with_reducible first | exact HB.out | apply below_alloc | apply pw_below_drewN | apply below_drew1) | exact HB.out)); rintro e w' ⟨rfl, hb'⟩
    have HB2 := Aside0.mk (below_step (w := w) (by repeat (first | (with_reducible first | exact HB.out | apply below_alloc | apply pw_below_drewN | apply below_drew1) | exact HB.out)) hb')
    clear hb'
    go_wp2
    go_ret
    exact ⟨by rw [← HA.out, firstP, if_pos hp]; rfl, HB2.out⟩
   | false =>
    rw [hp] at HCALL
    go_wp2_with fail
    go_at_call 166; (refine (HCALL.out _ ?hbel HM.out HL2.out (Kd.C_below HI2.out (by repeat (first | (with_reducible first | exact Below.refl _ _ | apply below_alloc | apply pw_below_drewN | apply below_drew1) | exact Below.refl _ _)))).mono ?_); (case hbel => repeat (first | (with_reducible first | exact HB.out | apply below_alloc | apply pw_below_drewN | apply below_drew1) | exact HB.out)); rintro e w' ⟨rfl, hb'⟩
    have HB2 := Aside0.mk (below_step (w := w) (by repeat (first | (with_reducible first | exact HB.out | apply below_alloc | apply pw_below_drewN | apply below_drew1) | exact HB.out)) hb')
    clear hb'
    have HL := Aside0.mk hl
    have HLT := Aside0.mk hlt
    clear hl hlt
    go_wp2_with fail
    go_roundg suf.length
    case measure => rw [hgg]; simp
    case rel => exact ⟨pre ++ [x], suf, rfl, ⟨by rw [HE.out]; simp⟩, by rw [wsucc (by have := HL.out; have := HLT.out; omega)]; simp, ⟨by rw [← HA.out, firstP, if_neg (by rw [hp]; decide)]; simp⟩, ⟨HB2.out⟩⟩
set_option maxHeartbeats 2000000 in
theorem containsf_Probe (p : S103 → Bool) (lb : Array Value) (A0 : Option Addr) (c0 : Nat) (l0 : List S103) (w : World) (hr0 : Kd.C k103 w A0 l0.length l0) (hl : l0.length ≤ 1048576)
  (hp : ∀ x (A2 : Option Addr) (c2 : Nat) W, Below w.heap.size w W → x ∈ l0 → x.f2.length ≤ c2 → Kd.C (Kd.int .i64) W A2 x.f2.length x.f2 → Calls Try.prog 166 (#[.agg #[.int .i64 x.f0, .int .i64 x.f1, .slice A2 x.f2.length c2]] ++ lb) W fun e w' => e = .returned (.bool (p x)) ∧ Below W.heap.size W w') :
  Calls Try.prog 165 #[.slice A0 l0.length c0, .func (.func 166) #[] lb] w fun e w' => e = .returned (.bool (l0.any p)) ∧ Below w.heap.size w w' := by
 have H := Aside0.mk (idxf_Probe p lb A0 c0 l0 w hr0 hl hp)
 rw [← firstP_any p l0 0]
 clear hr0 hp
 go_enter Try.func165, Try.ntmps165
 go_wp2_with fail
 go_at_call 193; (with_reducible refine (H.out).mono ?_); rintro e w' ⟨rfl, hb⟩
 have HB := Aside0.mk hb
 clear hb
 go_wp2
 go_ret
 exact ⟨rfl, HB.out⟩

def arePF (k : Nat) (nd : Int) (lk : List S133) : List S103 → Option Bool
 | [] => some true
 | x :: xs => (impl_IsPath.f k nd lk x.f2 x.f0 x.f1).bind fun b => (arePF k nd lk xs).bind fun r => some (!decide ((x.f2.length : Int) = 0) && (b && r))
def badP (k : Nat) (nd : Int) (lk : List S133) (x : S103) : Bool := decide ((x.f2.length : Int) = 0) || !((impl_IsPath.f k nd lk x.f2 x.f0 x.f1).getD false)
theorem arePF_all (k : Nat) (nd : Int) (lk : List S133) : ∀ (l : List S103) (r : Bool), arePF k nd lk l = some r → (∀ x ∈ l, ∃ b, impl_IsPath.f k nd lk x.f2 x.f0 x.f1 = some b) ∧ r = !(l.any (badP k nd lk))
 | [], r, h => ⟨by simp, by simpa [arePF] using h.symm⟩
 | x :: xs, r, h => by
  rw [arePF] at h
  obtain ⟨b, h1, h⟩ := Option.bind_eq_some_iff.mp h
  obtain ⟨q, h2, h⟩ := Option.bind_eq_some_iff.mp h
  obtain ⟨i1, i2⟩ := arePF_all k nd lk xs q h2
  refine ⟨fun y hy => ?_, ?_⟩
  ·rcases List.mem_cons.1 hy with rfl | hy
   ·exact ⟨b, h1⟩
   ·exact i1 y hy
  ·rw [← Option.some.inj h, List.any_cons, badP, h1, i2]
   cases b <;> simp
theorem arePF_mono (nd : Int) (lk : List S133) (k : Nat) : ∀ (l : List S103), LeO (arePF k nd lk l) (arePF (k + 1) nd lk l)
 | [] => LeO.refl _
 | x :: xs => by
  rw [arePF, arePF]
  exact LeO.bind (impl_IsPath.mono _ _ _ _ _ _) (fun _ => LeO.bind (arePF_mono nd lk k xs) (fun _ => LeO.refl _))
set_option maxHeartbeats 4000000 in
set_option maxRecDepth 100000 in
theorem AreProbes1_c (k : Nat) (gb : Nat) (nd : Int) (A0 : Option Addr) (c0 : Nat) (lk : List S133) (x : S103) (A2 : Option Addr) (c2 : Nat) (b : Bool) (w : World) (hbox : w.heap[gb]? = some (.cells #[.int .i64 nd, .slice A0 lk.length c0] 37 (0, 0))) (hr : Kd.C k133 w A0 lk.length lk) (hc : lk.length ≤ c0) (hc2 : x.f2.length ≤ c2) (hr2 : Kd.C (Kd.int .i64) w A2 x.f2.length x.f2) (h : impl_IsPath.f k nd lk x.f2 x.f0 x.f1 = some b) :
  Calls Try.prog 166 #[.agg #[.int .i64 x.f0, .int .i64 x.f1, .slice A2 x.f2.length c2], .pointer (some ⟨gb, 0, none⟩)] w fun e w' => e = .returned (.bool (badP k nd lk x)) ∧ Below w.heap.size w w' := by
 have hu := Try.underlying37
 have hu2 := Try.underlying103
 rw [badP, h]
 obtain ⟨x0, x1, x2⟩ := x
 dsimp only at h hc2 hr2 ⊢
 have HR := Aside0.mk (And.intro hr hc)
 have HR2 := Aside0.mk (And.intro hr2 hc2)
 have H := Aside0.mk h
 have hcb0 := (blk_cell hbox 0).trans rfl
 have hcb1 := (blk_cell hbox 1).trans rfl
 have hnb : (⟨gb, 0, none⟩ : Addr).block < w.heap.size := blk_lt hbox
 have HBX := Aside0.mk hbox
 clear hr hc hr2 hc2 h hbox
 by_cases h0 : (x2.length : Int) = 0
 ·go_enter Try.func166, Try.ntmps166
  go_wp2
  go_ret
  exact ⟨by simp [h0], (by repeat (first | (with_reducible first | exact Below.refl _ _ | apply below_alloc | apply pw_below_drewN | apply below_drew1) | exact Below.refl _ _))⟩
 ·go_enter Try.func166, Try.ntmps166
  go_wp2_with fail
  ·go_ret
   exact ⟨rfl, (by repeat (first | (with_reducible first | exact Below.refl _ _ | apply below_alloc | apply pw_below_drewN | apply below_drew1) | exact Below.refl _ _))⟩
  go_at_call 167; (refine (impl_IsPath.calls k nd A0 c0 lk A2 c2 x2 x0 x1 b _ (Kd.C_below HR.out.1 (by repeat (first | (with_reducible first | exact Below.refl _ _ | apply below_alloc | apply pw_below_drewN | apply below_drew1) | exact Below.refl _ _))) HR.out.2 (Kd.C_below HR2.out.1 (by repeat (first | (with_reducible first | exact Below.refl _ _ | apply below_alloc | apply pw_below_drewN | apply below_drew1) | exact Below.refl _ _))) HR2.out.2 H.out).mono ?_); rintro e w' ⟨rfl, hb⟩
  have HB := Aside0.mk (below_step (w := w) (by repeat (first | (with_reducible first | exact Below.refl _ _ | apply below_alloc | apply pw_below_drewN | apply below_drew1) | exact Below.refl _ _)) hb)
  clear hb
  go_wp2
  go_ret
  exact ⟨rfl, HB.out⟩
def areProbesF (k : Nat) (nd : Int) (lk : List S133) (l : List S103) : Option Bool := (impl_IsNet.f k nd lk).bind fun b => (if b = true then (if (l.length : Int) ≤ 12 then arePF k nd lk l else some false) else some false)
set_option maxHeartbeats 4000000 in
set_option maxRecDepth 100000 in
theorem impl_AreProbes_c (k : Nat) (nd : Int) (A0 : Option Addr) (c0 : Nat) (lk : List S133) (A1 : Option Addr) (c1 : Nat) (l : List S103) (r : Bool) (w : World) (hr : Kd.C k133 w A0 lk.length lk) (hc : lk.length ≤ c0) (hr1 : Kd.C k103 w A1 l.length l) (hc1 : l.length ≤ c1) (h : areProbesF k nd lk l = some r) :
  Calls Try.prog 113 #[.agg #[.int .i64 nd, .slice A0 lk.length c0], .slice A1 l.length c1] w fun e w' => e = .returned (.bool r) ∧ Below w.heap.size w w' := by
 have hu := Try.underlying37
 rw [areProbesF] at h
 obtain ⟨b, h1, h⟩ := Option.bind_eq_some_iff.mp h
 have HR := Aside0.mk (And.intro hr hc)
 have HR1 := Aside0.mk (And.intro hr1 hc1)
 have H1 := Aside0.mk h1
 clear hr hc hr1 hc1 h1
 cases b with
 | false =>
  have hrf : r = false := by simpa using h.symm
  subst hrf
  clear h
  go_enter Try.func113, Try.ntmps113
  go_wp2_with fail
  go_at_call 60; (refine (impl_IsNet.calls k nd A0 c0 lk false _ (Kd.C_below HR.out.1 (by repeat (first | (with_reducible first | exact Below.refl _ _ | apply below_alloc | apply pw_below_drewN | apply below_drew1) | exact Below.refl _ _))) HR.out.2 H1.out).mono ?_); rintro e w' ⟨rfl, hb⟩
  have HB := Aside0.mk (below_step (w := w) (by repeat (first | (with_reducible first | exact Below.refl _ _ | apply below_alloc | apply pw_below_drewN | apply below_drew1) | exact Below.refl _ _)) hb)
  clear hb
  go_wp2
  go_ret
  exact ⟨rfl, HB.out⟩
 | true =>
  rw [if_pos rfl] at h
  by_cases h12 : (l.length : Int) ≤ 12
  ·rw [if_pos h12] at h
   obtain ⟨hall, hrr⟩ := arePF_all k nd lk l r h
   have HA := Aside0.mk hall
   have HRR := Aside0.mk hrr
   clear h hall hrr
   go_enter Try.func113, Try.ntmps113
   go_wp2_with fail
   refine calls_gen (fun W' => Below w.heap.size w W' ∧ W'.heap[w.heap.size]? = some (.cells #[.int .i64 nd, .slice A0 lk.length c0] 37 (0, 0))) ⟨?gb, ?gx⟩ ?_
   case gb => repeat (first | (with_reducible first | exact Below.refl _ _ | apply below_alloc | apply pw_below_drewN | apply below_drew1) | exact Below.refl _ _)
   case gx => exact blk_new w _
   rintro W ⟨hbw, hgx⟩
   have HBW := Aside0.mk hbw
   have BX := Aside0.mk hgx
   clear hbw hgx
   go_at_call 60; (refine (impl_IsNet.calls k nd A0 c0 lk true _ (Kd.C_below HR.out.1 HBW.out) HR.out.2 H1.out).mono ?_); rintro e w' ⟨rfl, hb⟩
   have HB := Aside0.mk (below_step HBW.out hb)
   have BX2 := Aside0.mk (blk_below BX.out hb)
   clear hb
   go_wp2_with fail
   refine calls_gen (fun W' => Below w.heap.size w W' ∧ W'.heap[w.heap.size]? = some (.cells #[.int .i64 nd, .slice A0 lk.length c0] 37 (0, 0))) ⟨?gb, ?gx⟩ ?_
   case gb => repeat (first | (with_reducible first | exact HB.out | apply below_alloc | apply pw_below_drewN | apply below_drew1) | exact HB.out)
   case gx => exact BX2.out
   rintro W2 ⟨hbw, hgx⟩
   have HBW2 := Aside0.mk hbw
   have BX3 := Aside0.mk hgx
   clear hbw hgx
   go_at_call 165; (refine (containsf_Probe (badP k nd lk) #[.pointer (some ⟨w.heap.size, 0, none⟩)] A1 c1 l W2 (Kd.C_below HR1.out.1 HBW2.out) (by omega) ?s1).mono ?_)
   case s1 =>
    intro x A2 c2 Z hZ hx hcx hrx
    obtain ⟨b, hb⟩ := HA.out x hx
    exact AreProbes1_c k w.heap.size nd A0 c0 lk x A2 c2 b Z (blk_below BX3.out hZ) (Kd.C_below HR.out.1 (below_step HBW2.out hZ)) HR.out.2 hcx hrx hb
   rintro e w2 ⟨rfl, hb⟩
   have HB2 := Aside0.mk (below_step HBW2.out hb)
   clear hb
   go_wp2
   go_ret
   exact ⟨by rw [HRR.out]; rfl, HB2.out⟩
  ·rw [if_neg h12] at h
   have hrf : r = false := by simpa using h.symm
   subst hrf
   clear h
   go_enter Try.func113, Try.ntmps113
   go_wp2_with fail
   go_at_call 60; (refine (impl_IsNet.calls k nd A0 c0 lk true _ (Kd.C_below HR.out.1 (by repeat (first | (with_reducible first | exact Below.refl _ _ | apply below_alloc | apply pw_below_drewN | apply below_drew1) | exact Below.refl _ _))) HR.out.2 H1.out).mono ?_); rintro e w' ⟨rfl, hb⟩
   have HB := Aside0.mk (below_step (w := w) (by repeat (first | (with_reducible first | exact Below.refl _ _ | apply below_alloc | apply pw_below_drewN | apply below_drew1) | exact Below.refl _ _)) hb)
   clear hb
   go_wp2
   go_ret
   exact ⟨rfl, HB.out⟩

def impl_AreProbes.f (k : Nat) (a0_0 : Int) (l0_1 : List S133) (l1 : List S103) : Option Bool := areProbesF k a0_0 l0_1 l1
theorem impl_AreProbes.mono : ∀ a0 a1 a2 k, LeO (impl_AreProbes.f k a0 a1 a2) (impl_AreProbes.f (k + 1) a0 a1 a2) := by
 intro a0 a1 a2 k
 unfold impl_AreProbes.f areProbesF
 exact LeO.bind (impl_IsNet.mono _ _ _) (fun _ => LeO.ite (LeO.ite (arePF_mono _ _ _ _) (LeO.refl _)) (LeO.refl _))
theorem impl_AreProbes.calls (k : Nat) (a0_0 : Int) (A0_1 : Option Addr) (c0_1 : Nat) (l0_1 : List S133) (A1 : Option Addr) (c1 : Nat) (l1 : List S103) (r : Bool) (w : World) (hr0_1 : Kd.C k133 w A0_1 l0_1.length l0_1) (hc0_1 : l0_1.length ≤ c0_1) (hr1 : Kd.C k103 w A1 l1.length l1) (hc1 : l1.length ≤ c1) (h : impl_AreProbes.f k a0_0 l0_1 l1 = some r) :
  Calls Try.prog 113 #[.agg #[.int .i64 a0_0, .slice A0_1 l0_1.length c0_1], .slice A1 l1.length c1] w fun e w' => e = .returned (.bool r) ∧ Below w.heap.size w w' :=
 impl_AreProbes_c k a0_0 A0_1 c0_1 l0_1 A1 c1 l1 r w hr0_1 hc0_1 hr1 hc1 h

/-! ### impl_IsBucket: function 114 -/
def impl_IsBucket.f (a0_0 : Int) (a0_1 : Int) (a0_2 : Int) (a0_3 : Int) : Option (Bool) := (impl_InRange.f a0_1 0 1000).bind fun t339 => (if t339 = true then ((impl_InRange.f a0_2 0 1000).bind fun t340 => (if t340 = true then ((impl_InRange.f a0_0 0 a0_1).bind fun t341 => (if t341 = true then ((impl_InRange.f a0_3 0 100000).bind fun t342 => (some t342)) else (some false))) else (some false))) else (some false))
set_option maxHeartbeats 8000000 in
set_option maxRecDepth 100000 in
theorem impl_IsBucket.calls (a0_0 : Int) (a0_1 : Int) (a0_2 : Int) (a0_3 : Int) (r : Bool) (w : World) (h : impl_IsBucket.f a0_0 a0_1 a0_2 a0_3 = some r) :
  Calls Try.prog 114 #[.agg #[.int .i64 a0_0, .int .i64 a0_1, .int .i64 a0_2, .int .i64 a0_3]] w fun e w' => e = .returned (.bool r) ∧ Below w.heap.size w w' := by
 have hu39 := Try.underlying39
 have HB := Aside0.mk (Below.refl w.heap.size w)
 have H : ((impl_InRange.f a0_1 0 1000).bind fun t339 => (if t339 = true then ((impl_InRange.f a0_2 0 1000).bind fun t340 => (if t340 = true then ((impl_InRange.f a0_0 0 a0_1).bind fun t341 => (if t341 = true then ((impl_InRange.f a0_3 0 100000).bind fun t342 => (some t342)) else (some false))) else (some false))) else (some false))) = some r := h
 clear h
 replace H := Option.bind_eq_some_iff.mp H
 obtain ⟨t339, A20, H⟩ := H
 replace H : (if t339 = true then ((impl_InRange.f a0_2 0 1000).bind fun t340 => (if t340 = true then ((impl_InRange.f a0_0 0 a0_1).bind fun t341 => (if t341 = true then ((impl_InRange.f a0_3 0 100000).bind fun t342 => (some t342)) else (some false))) else (some false))) else (some false)) = some r := H
 have A2 := Aside0.mk A20
 clear A20
 by_cases c3 : t339 = true
 ·subst c3
  have H1 : ((impl_InRange.f a0_2 0 1000).bind fun t340 => (if t340 = true then ((impl_InRange.f a0_0 0 a0_1).bind fun t341 => (if t341 = true then ((impl_InRange.f a0_3 0 100000).bind fun t342 => (some t342)) else (some false))) else (some false))) = some r := by rw [if_pos rfl] at H; exact H
  clear H
  have H := H1
  clear H1
  replace H := Option.bind_eq_some_iff.mp H
  obtain ⟨t340, A40, H⟩ := H
  replace H : (if t340 = true then ((impl_InRange.f a0_0 0 a0_1).bind fun t341 => (if t341 = true then ((impl_InRange.f a0_3 0 100000).bind fun t342 => (some t342)) else (some false))) else (some false)) = some r := H
  have A4 := Aside0.mk A40
  clear A40
  by_cases c5 : t340 = true
  ·subst c5
   have H1 : ((impl_InRange.f a0_0 0 a0_1).bind fun t341 => (if t341 = true then ((impl_InRange.f a0_3 0 100000).bind fun t342 => (some t342)) else (some false))) = some r := by rw [if_pos rfl] at H; exact H
   clear H
   have H := H1
   clear H1
   replace H := Option.bind_eq_some_iff.mp H
   obtain ⟨t341, A60, H⟩ := H
   replace H : (if t341 = true then ((impl_InRange.f a0_3 0 100000).bind fun t342 => (some t342)) else (some false)) = some r := H
   have A6 := Aside0.mk A60
   clear A60
   by_cases c7 : t341 = true
   ·subst c7
    have H1 : ((impl_InRange.f a0_3 0 100000).bind fun t342 => (some t342)) = some r := by rw [if_pos rfl] at H; exact H
    clear H
    have H := H1
    clear H1
    replace H := Option.bind_eq_some_iff.mp H
    obtain ⟨t342, A80, H⟩ := H
    replace H : (some t342) = some r := H
    have A8 := Aside0.mk A80
    clear A80
    obtain rfl := Option.some.inj H
    go_enter Try.func114, Try.ntmps114
    go_wp2_with (first | ((with_reducible refine gate_dst (N := 1) rfl ?_); refine box_event ?hg (N := 1) ?hd (cs := #[.int .i64 a0_0, .int .i64 a0_1, .int .i64 a0_2, .int .i64 a0_3]) (t := 39) ?hr ?_; (case hd => rfl); (case hg => rfl); (case hr => first | (go_simp; done) | (go_simp; rfl)); intro gb338 hg w9 hbox hb; have n0_ := Aside0.mk (below_step (by repeat (first | (with_reducible first | exact HB.out | apply below_alloc | apply pw_below_drewN | apply below_drew1) | exact HB.out)) hb); have n1_ := Aside0.mk (hbox); have n2_ := Aside0.mk ((by rw [hg]; exact (below_size (by repeat (first | (with_reducible first | exact HB.out | apply below_alloc | apply pw_below_drewN | apply below_drew1) | exact HB.out))) : w.heap.size ≤ gb338)); have n3_ := Aside0.mk ((by rw [hg]; exact (below_size (by repeat (first | (with_reducible first | exact HB.out | apply below_alloc | apply pw_below_drewN | apply below_drew1) | exact HB.out))) : w.heap.size ≤ gb338)); clear HB; have HB := n0_; have BK338 := n1_; have GW338 := n2_; have GE338 := n3_; clear n0_ n1_ n2_ n3_; clear hb hbox hg; obtain ⟨hcz10_0, hcz10_1, hcz10_2, hcz10_3⟩ := cells4 BK338.out; obtain ⟨hfz10_0, hfz10_1, hfz10_2, hfz10_3⟩ := froz4 BK338.out) | ((with_reducible refine gate_callee (f := 116) rfl ?_); refine goesL_ (some 5) rfl rfl Try.func116 (by kernel_rfl) rfl #[.int .i64 a0_1, .int .i64 0, .int .i64 1000] rfl (by (try simp only [List.map_toArray, List.map_cons, List.map_nil]); first | done | rfl | (simp only [List.length_drop, List.length_take]; rfl)) ?_; (with_reducible refine (impl_InRange.calls a0_1 0 1000 true _ A2.out).mono ?_); rintro e w' ⟨rfl, ⟨nd, rfl⟩⟩; refine ⟨_, rfl, ?_⟩) | (go_at_call 116; (with_reducible refine (impl_InRange.calls a0_2 0 1000 true _ A4.out).mono ?_); rintro e w' ⟨rfl, ⟨nd, rfl⟩⟩) | (go_at_call 116; (with_reducible refine (impl_InRange.calls a0_0 0 a0_1 true _ A6.out).mono ?_); rintro e w' ⟨rfl, ⟨nd, rfl⟩⟩) | (go_at_call 116; (with_reducible refine (impl_InRange.calls a0_3 0 100000 t342 _ A8.out).mono ?_); rintro e w' ⟨rfl, ⟨nd, rfl⟩⟩))
    go_ret
    exact ⟨by first | rfl | (simp [errW_none, errW_some] <;> rfl) | (simp [*, errW_none, errW_some] <;> rfl), by repeat (first | (with_reducible first | exact HB.out | apply below_alloc | apply pw_below_drewN | apply below_drew1 | refine below_set ?_ GE338.out) | exact HB.out)⟩
   ·replace c7 := Bool.eq_false_iff.mpr c7
    subst c7
    have H1 : (some false) = some r := by rw [if_neg (show ¬ (false = true) by decide)] at H; exact H
    clear H
    have H := H1
    clear H1
    obtain rfl := Option.some.inj H
    go_enter Try.func114, Try.ntmps114
    go_wp2_with (first | ((with_reducible refine gate_dst (N := 1) rfl ?_); refine box_event ?hg (N := 1) ?hd (cs := #[.int .i64 a0_0, .int .i64 a0_1, .int .i64 a0_2, .int .i64 a0_3]) (t := 39) ?hr ?_; (case hd => rfl); (case hg => rfl); (case hr => first | (go_simp; done) | (go_simp; rfl)); intro gb338 hg w11 hbox hb; have n0_ := Aside0.mk (below_step (by repeat (first | (with_reducible first | exact HB.out | apply below_alloc | apply pw_below_drewN | apply below_drew1) | exact HB.out)) hb); have n1_ := Aside0.mk (hbox); have n2_ := Aside0.mk ((by rw [hg]; exact (below_size (by repeat (first | (with_reducible first | exact HB.out | apply below_alloc | apply pw_below_drewN | apply below_drew1) | exact HB.out))) : w.heap.size ≤ gb338)); have n3_ := Aside0.mk ((by rw [hg]; exact (below_size (by repeat (first | (with_reducible first | exact HB.out | apply below_alloc | apply pw_below_drewN | apply below_drew1) | exact HB.out))) : w.heap.size ≤ gb338)); clear HB; have HB := n0_; have BK338 := n1_; have GW338 := n2_; have GE338 := n3_; clear n0_ n1_ n2_ n3_; clear hb hbox hg; obtain ⟨hcz12_0, hcz12_1, hcz12_2, hcz12_3⟩ := cells4 BK338.out; obtain ⟨hfz12_0, hfz12_1, hfz12_2, hfz12_3⟩ := froz4 BK338.out) | ((with_reducible refine gate_callee (f := 116) rfl ?_); refine goesL_ (some 5) rfl rfl Try.func116 (by kernel_rfl) rfl #[.int .i64 a0_1, .int .i64 0, .int .i64 1000] rfl (by (try simp only [List.map_toArray, List.map_cons, List.map_nil]); first | done | rfl | (simp only [List.length_drop, List.length_take]; rfl)) ?_; (with_reducible refine (impl_InRange.calls a0_1 0 1000 true _ A2.out).mono ?_); rintro e w' ⟨rfl, ⟨nd, rfl⟩⟩; refine ⟨_, rfl, ?_⟩) | (go_at_call 116; (with_reducible refine (impl_InRange.calls a0_2 0 1000 true _ A4.out).mono ?_); rintro e w' ⟨rfl, ⟨nd, rfl⟩⟩) | (go_at_call 116; (with_reducible refine (impl_InRange.calls a0_0 0 a0_1 false _ A6.out).mono ?_); rintro e w' ⟨rfl, ⟨nd, rfl⟩⟩))
    go_ret
    exact ⟨by first | rfl | (simp [errW_none, errW_some] <;> rfl) | (simp [*, errW_none, errW_some] <;> rfl), by repeat (first | (with_reducible first | exact HB.out | apply below_alloc | apply pw_below_drewN | apply below_drew1 | refine below_set ?_ GE338.out) | exact HB.out)⟩
  ·replace c5 := Bool.eq_false_iff.mpr c5
   subst c5
   have H1 : (some false) = some r := by rw [if_neg (show ¬ (false = true) by decide)] at H; exact H
   clear H
   have H := H1
   clear H1
   obtain rfl := Option.some.inj H
   go_enter Try.func114, Try.ntmps114
   go_wp2_with (first | ((with_reducible refine gate_dst (N := 1) rfl ?_); refine box_event ?hg (N := 1) ?hd (cs := #[.int .i64 a0_0, .int .i64 a0_1, .int .i64 a0_2, .int .i64 a0_3]) (t := 39) ?hr ?_; (case hd => rfl); (case hg => rfl); (case hr => first | (go_simp; done) | (go_simp; rfl)); intro gb338 hg w13 hbox hb; have n0_ := Aside0.mk (below_step (by repeat (first | (with_reducible first | exact HB.out | apply below_alloc | apply pw_below_drewN | apply below_drew1) | exact HB.out)) hb); have n1_ := Aside0.mk (hbox); have n2_ := Aside0.mk ((by rw [hg]; exact (below_size (by repeat (first | (with_reducible first | exact HB.out | apply below_alloc | apply pw_below_drewN | apply below_drew1) | exact HB.out))) : w.heap.size ≤ gb338)); have n3_ := Aside0.mk ((by rw [hg]; exact (below_size (by repeat (first | (with_reducible first | exact HB.out | apply below_alloc | apply pw_below_drewN | apply below_drew1) | exact HB.out))) : w.heap.size ≤ gb338)); clear HB; have HB := n0_; have BK338 := n1_; have GW338 := n2_; have GE338 := n3_; clear n0_ n1_ n2_ n3_; clear hb hbox hg; obtain ⟨hcz14_0, hcz14_1, hcz14_2, hcz14_3⟩ := cells4 BK338.out; obtain ⟨hfz14_0, hfz14_1, hfz14_2, hfz14_3⟩ := froz4 BK338.out) | ((with_reducible refine gate_callee (f := 116) rfl ?_); refine goesL_ (some 5) rfl rfl Try.func116 (by kernel_rfl) rfl #[.int .i64 a0_1, .int .i64 0, .int .i64 1000] rfl (by (try simp only [List.map_toArray, List.map_cons, List.map_nil]); first | done | rfl | (simp only [List.length_drop, List.length_take]; rfl)) ?_; (with_reducible refine (impl_InRange.calls a0_1 0 1000 true _ A2.out).mono ?_); rintro e w' ⟨rfl, ⟨nd, rfl⟩⟩; refine ⟨_, rfl, ?_⟩) | (go_at_call 116; (with_reducible refine (impl_InRange.calls a0_2 0 1000 false _ A4.out).mono ?_); rintro e w' ⟨rfl, ⟨nd, rfl⟩⟩))
   go_ret
   exact ⟨by first | rfl | (simp [errW_none, errW_some] <;> rfl) | (simp [*, errW_none, errW_some] <;> rfl), by repeat (first | (with_reducible first | exact HB.out | apply below_alloc | apply pw_below_drewN | apply below_drew1 | refine below_set ?_ GE338.out) | exact HB.out)⟩
 ·replace c3 := Bool.eq_false_iff.mpr c3
  subst c3
  have H1 : (some false) = some r := by rw [if_neg (show ¬ (false = true) by decide)] at H; exact H
  clear H
  have H := H1
  clear H1
  obtain rfl := Option.some.inj H
  go_enter Try.func114, Try.ntmps114
  go_wp2_with (first | ((with_reducible refine gate_dst (N := 1) rfl ?_); refine box_event ?hg (N := 1) ?hd (cs := #[.int .i64 a0_0, .int .i64 a0_1, .int .i64 a0_2, .int .i64 a0_3]) (t := 39) ?hr ?_; (case hd => rfl); (case hg => rfl); (case hr => first | (go_simp; done) | (go_simp; rfl)); intro gb338 hg w15 hbox hb; have n0_ := Aside0.mk (below_step (by repeat (first | (with_reducible first | exact HB.out | apply below_alloc | apply pw_below_drewN | apply below_drew1) | exact HB.out)) hb); have n1_ := Aside0.mk (hbox); have n2_ := Aside0.mk ((by rw [hg]; exact (below_size (by repeat (first | (with_reducible first | exact HB.out | apply below_alloc | apply pw_below_drewN | apply below_drew1) | exact HB.out))) : w.heap.size ≤ gb338)); have n3_ := Aside0.mk ((by rw [hg]; exact (below_size (by repeat (first | (with_reducible first | exact HB.out | apply below_alloc | apply pw_below_drewN | apply below_drew1) | exact HB.out))) : w.heap.size ≤ gb338)); clear HB; have HB := n0_; have BK338 := n1_; have GW338 := n2_; have GE338 := n3_; clear n0_ n1_ n2_ n3_; clear hb hbox hg; obtain ⟨hcz16_0, hcz16_1, hcz16_2, hcz16_3⟩ := cells4 BK338.out; obtain ⟨hfz16_0, hfz16_1, hfz16_2, hfz16_3⟩ := froz4 BK338.out) | ((with_reducible refine gate_callee (f := 116) rfl ?_); refine goesL_ (some 5) rfl rfl Try.func116 (by kernel_rfl) rfl #[.int .i64 a0_1, .int .i64 0, .int .i64 1000] rfl (by (try simp only [List.map_toArray, List.map_cons, List.map_nil]); first | done | rfl | (simp only [List.length_drop, List.length_take]; rfl)) ?_; (with_reducible refine (impl_InRange.calls a0_1 0 1000 false _ A2.out).mono ?_); rintro e w' ⟨rfl, ⟨nd, rfl⟩⟩; refine ⟨_, rfl, ?_⟩))
  go_ret
  exact ⟨by first | rfl | (simp [errW_none, errW_some] <;> rfl) | (simp [*, errW_none, errW_some] <;> rfl), by repeat (first | (with_reducible first | exact HB.out | apply below_alloc | apply pw_below_drewN | apply below_drew1 | refine below_set ?_ GE338.out) | exact HB.out)⟩

/-! ### impl_AreSeen: function 115 -/
def impl_AreSeen.l0 : Nat → Int → Int → Int → List (S62) → Int → Int → Option (Bool)
 | 0, _, _, _, _, _, _ => none
 | k + 1, x1, x2, x7, x13, x14, x15 => if x15 < x14 then (if 0 ≤ x15 then (if x15 < (x13.length : Int) then ((impl_at.f ((rd_T62 x13 x15).f0) x1).bind fun t345 => (if t345 = true then ((impl_at.f ((rd_T62 x13 x15).f1) 6).bind fun t346 => (if t346 = true then ((impl_InRange.f ((rd_T62 x13 x15).f2) x7 x2).bind fun t347 => (if t347 = true then ((impl_InRange.f ((rd_T62 x13 x15).f3) 0 1000).bind fun t348 => (if t348 = true then (if (rd_T62 x13 x15).f4 = true then (if ((rd_T62 x13 x15).f3) = 0 then (impl_AreSeen.l0 k x1 x2 ((rd_T62 x13 x15).f2) x13 x14 (wrap64 (x15 + 1))) else (some false)) else (impl_AreSeen.l0 k x1 x2 ((rd_T62 x13 x15).f2) x13 x14 (wrap64 (x15 + 1)))) else (some false))) else (some false))) else (some false))) else (some false))) else (none)) else (none)) else (some true)
def impl_AreSeen.f (k : Nat) (l0 : List (S62)) (a1 : Int) (a2 : Int) : Option (Bool) := if (l0.length : Int) > 60 then (some false) else (impl_AreSeen.l0 k a1 a2 0 l0 (l0.length : Int) 0)
theorem impl_AreSeen.mono_l : ∀ k, (∀ y0 y1 y2 y3 y4 y5, LeO (impl_AreSeen.l0 k y0 y1 y2 y3 y4 y5) (impl_AreSeen.l0 (k + 1) y0 y1 y2 y3 y4 y5))
 | 0 => fun _ _ _ _ _ _ r h => by simp [impl_AreSeen.l0] at h
 | k + 1 => by
  have ih0 := impl_AreSeen.mono_l k
  ·intro y0 y1 y2 y3 y4 y5
   unfold impl_AreSeen.l0
   repeat' first
   | (with_reducible exact ih0 _ _ _ _ _ _)
   | (with_reducible exact LeO.refl _)
   | (with_reducible exact LeO.none _)
   | (with_reducible refine LeO.ite ?_ ?_)
   | (with_reducible refine LeO.bind ?_ (fun _ => ?_))
   | exact ih0 _ _ _ _ _ _
   | exact LeO.none _
   | refine LeO.ite ?_ ?_
   | refine LeO.bind ?_ (fun _ => ?_)
theorem impl_AreSeen.mono : ∀ a0 a1 a2 k, LeO (impl_AreSeen.f k a0 a1 a2) (impl_AreSeen.f (k + 1) a0 a1 a2) := by
 intro a0 a1 a2 k
 have ih0 := impl_AreSeen.mono_l k
 unfold impl_AreSeen.f
 repeat' first
   | (with_reducible exact ih0 _ _ _ _ _ _)
   | (with_reducible exact LeO.refl _)
   | (with_reducible exact LeO.none _)
   | (with_reducible refine LeO.ite ?_ ?_)
   | (with_reducible refine LeO.bind ?_ (fun _ => ?_))
   | exact ih0 _ _ _ _ _ _
   | exact LeO.none _
   | refine LeO.ite ?_ ?_
   | refine LeO.bind ?_ (fun _ => ?_)
set_option maxHeartbeats 8000000 in
set_option maxRecDepth 100000 in
theorem impl_AreSeen.calls (k : Nat) (A0 : Option Addr) (c0 : Nat) (l0 : List (S62)) (a1 : Int) (a2 : Int) (r : Bool) (w : World) (hr0 : Kd.C k62 w A0 l0.length l0) (hc0 : l0.length ≤ c0) (h : impl_AreSeen.f k l0 a1 a2 = some r) :
  Calls Try.prog 115 #[.slice A0 l0.length c0, .int .i64 a1, .int .i64 a2] w fun e w' => e = .returned (.bool r) ∧ Below w.heap.size w w' := by
 have hu62 := Try.underlying62
 have HR0 := Aside0.mk hr0
 have HC0 := Aside0.mk hc0
 clear hr0 hc0
 have HB := Aside0.mk (Below.refl w.heap.size w)
 have H : (if (l0.length : Int) > 60 then (some false) else (impl_AreSeen.l0 k a1 a2 0 l0 (l0.length : Int) 0)) = some r := h
 clear h
 by_cases c4 : (l0.length : Int) > 60
 ·rw [if_pos c4] at H
  have c4b0 : decide (60 < (l0.length : Int)) = true := decide_eq_true c4
  have c4b1 : decide (60 < l0.length) = true := decide_eq_true (by omega)
  clear c4
  obtain rfl := Option.some.inj H
  go_enter Try.func115, Try.ntmps115
  go_wp2
  go_ret
  exact ⟨by first | rfl | (simp [errW_none, errW_some] <;> rfl) | (simp [*, errW_none, errW_some] <;> rfl), by repeat (first | (with_reducible first | exact HB.out | apply below_alloc | apply pw_below_drewN | apply below_drew1) | exact HB.out)⟩
 ·rw [if_neg c4] at H
  have c4b0 : decide (60 < (l0.length : Int)) = false := decide_eq_false c4
  have c4b1 : decide (60 < l0.length) = false := decide_eq_false (by omega)
  clear c4
  have H' := Aside0.mk H
  clear H
  go_enter Try.func115, Try.ntmps115
  go_wp2
  go_loopg [7, 15] k (fun kq v7 v15 w' => ∃ (x7_1 : Int) (x15_1 : Int), v7 = .int .i64 x7_1 ∧ v15 = .int .i64 x15_1 ∧ Aside0 (impl_AreSeen.l0 kq a1 a2 x7_1 l0 (l0.length : Int) x15_1 = some r) ∧ Aside0 (kq ≤ k) ∧ Aside0 (Below w.heap.size w w'))
  case atStart => exact ⟨(0), (0), (by first | rfl | (simp; done) | (simp [*]; done)), (by first | rfl | (simp; done) | (simp [*]; done)), H', ⟨Nat.le_refl _⟩, ⟨by repeat (first | (with_reducible first | exact HB.out | apply below_alloc | apply pw_below_drewN | apply below_drew1) | exact HB.out)⟩⟩
  case round =>
   clear H'
   try clear c1
   try clear p2
   try clear c4
   try clear c4b0
   try clear c4b1
   obtain ⟨x7_1, x15_1, rfl, rfl, HA, HK1, HB⟩ := hrel
   cases gk with
   | zero => exact absurd HA.out (by simp [impl_AreSeen.l0])
   | succ k1 =>
    have H := HA.out
    clear HA
    simp only [impl_AreSeen.l0] at H
    by_cases c5 : x15_1 < (l0.length : Int)
    ·rw [if_pos c5] at H
     have c5b0 : decide (x15_1 < (l0.length : Int)) = true := decide_eq_true c5
     clear c5
     by_cases c6 : 0 ≤ x15_1
     ·rw [if_pos c6] at H
      have c6b0 : decide (0 ≤ x15_1) = true := decide_eq_true c6
      clear c6
      by_cases c7 : x15_1 < (l0.length : Int)
      ·rw [if_pos c7] at H
       have c7b0 : decide (x15_1 < (l0.length : Int)) = true := decide_eq_true c7
       clear c7
       replace H := Option.bind_eq_some_iff.mp H
       obtain ⟨t345, A80, H⟩ := H
       replace H : (if t345 = true then ((impl_at.f ((rd_T62 l0 x15_1).f1) 6).bind fun t346 => (if t346 = true then ((impl_InRange.f ((rd_T62 l0 x15_1).f2) x7_1 a2).bind fun t347 => (if t347 = true then ((impl_InRange.f ((rd_T62 l0 x15_1).f3) 0 1000).bind fun t348 => (if t348 = true then (if (rd_T62 l0 x15_1).f4 = true then (if ((rd_T62 l0 x15_1).f3) = 0 then (impl_AreSeen.l0 k1 a1 a2 ((rd_T62 l0 x15_1).f2) l0 (l0.length : Int) (wrap64 (x15_1 + 1))) else (some false)) else (impl_AreSeen.l0 k1 a1 a2 ((rd_T62 l0 x15_1).f2) l0 (l0.length : Int) (wrap64 (x15_1 + 1)))) else (some false))) else (some false))) else (some false))) else (some false)) = some r := H
       have A8 := Aside0.mk A80
       clear A80
       by_cases c9 : t345 = true
       ·subst c9
        have H1 : ((impl_at.f ((rd_T62 l0 x15_1).f1) 6).bind fun t346 => (if t346 = true then ((impl_InRange.f ((rd_T62 l0 x15_1).f2) x7_1 a2).bind fun t347 => (if t347 = true then ((impl_InRange.f ((rd_T62 l0 x15_1).f3) 0 1000).bind fun t348 => (if t348 = true then (if (rd_T62 l0 x15_1).f4 = true then (if ((rd_T62 l0 x15_1).f3) = 0 then (impl_AreSeen.l0 k1 a1 a2 ((rd_T62 l0 x15_1).f2) l0 (l0.length : Int) (wrap64 (x15_1 + 1))) else (some false)) else (impl_AreSeen.l0 k1 a1 a2 ((rd_T62 l0 x15_1).f2) l0 (l0.length : Int) (wrap64 (x15_1 + 1)))) else (some false))) else (some false))) else (some false))) = some r := by rw [if_pos rfl] at H; exact H
        clear H
        have H := H1
        clear H1
        replace H := Option.bind_eq_some_iff.mp H
        obtain ⟨t346, A100, H⟩ := H
        replace H : (if t346 = true then ((impl_InRange.f ((rd_T62 l0 x15_1).f2) x7_1 a2).bind fun t347 => (if t347 = true then ((impl_InRange.f ((rd_T62 l0 x15_1).f3) 0 1000).bind fun t348 => (if t348 = true then (if (rd_T62 l0 x15_1).f4 = true then (if ((rd_T62 l0 x15_1).f3) = 0 then (impl_AreSeen.l0 k1 a1 a2 ((rd_T62 l0 x15_1).f2) l0 (l0.length : Int) (wrap64 (x15_1 + 1))) else (some false)) else (impl_AreSeen.l0 k1 a1 a2 ((rd_T62 l0 x15_1).f2) l0 (l0.length : Int) (wrap64 (x15_1 + 1)))) else (some false))) else (some false))) else (some false)) = some r := H
        have A10 := Aside0.mk A100
        clear A100
        by_cases c11 : t346 = true
        ·subst c11
         have H1 : ((impl_InRange.f ((rd_T62 l0 x15_1).f2) x7_1 a2).bind fun t347 => (if t347 = true then ((impl_InRange.f ((rd_T62 l0 x15_1).f3) 0 1000).bind fun t348 => (if t348 = true then (if (rd_T62 l0 x15_1).f4 = true then (if ((rd_T62 l0 x15_1).f3) = 0 then (impl_AreSeen.l0 k1 a1 a2 ((rd_T62 l0 x15_1).f2) l0 (l0.length : Int) (wrap64 (x15_1 + 1))) else (some false)) else (impl_AreSeen.l0 k1 a1 a2 ((rd_T62 l0 x15_1).f2) l0 (l0.length : Int) (wrap64 (x15_1 + 1)))) else (some false))) else (some false))) = some r := by rw [if_pos rfl] at H; exact H
         clear H
         have H := H1
         clear H1
         replace H := Option.bind_eq_some_iff.mp H
         obtain ⟨t347, A120, H⟩ := H
         replace H : (if t347 = true then ((impl_InRange.f ((rd_T62 l0 x15_1).f3) 0 1000).bind fun t348 => (if t348 = true then (if (rd_T62 l0 x15_1).f4 = true then (if ((rd_T62 l0 x15_1).f3) = 0 then (impl_AreSeen.l0 k1 a1 a2 ((rd_T62 l0 x15_1).f2) l0 (l0.length : Int) (wrap64 (x15_1 + 1))) else (some false)) else (impl_AreSeen.l0 k1 a1 a2 ((rd_T62 l0 x15_1).f2) l0 (l0.length : Int) (wrap64 (x15_1 + 1)))) else (some false))) else (some false)) = some r := H
         have A12 := Aside0.mk A120
         clear A120
         by_cases c13 : t347 = true
         ·subst c13
          have H1 : ((impl_InRange.f ((rd_T62 l0 x15_1).f3) 0 1000).bind fun t348 => (if t348 = true then (if (rd_T62 l0 x15_1).f4 = true then (if ((rd_T62 l0 x15_1).f3) = 0 then (impl_AreSeen.l0 k1 a1 a2 ((rd_T62 l0 x15_1).f2) l0 (l0.length : Int) (wrap64 (x15_1 + 1))) else (some false)) else (impl_AreSeen.l0 k1 a1 a2 ((rd_T62 l0 x15_1).f2) l0 (l0.length : Int) (wrap64 (x15_1 + 1)))) else (some false))) = some r := by rw [if_pos rfl] at H; exact H
          clear H
          have H := H1
          clear H1
          replace H := Option.bind_eq_some_iff.mp H
          obtain ⟨t348, A140, H⟩ := H
          replace H : (if t348 = true then (if (rd_T62 l0 x15_1).f4 = true then (if ((rd_T62 l0 x15_1).f3) = 0 then (impl_AreSeen.l0 k1 a1 a2 ((rd_T62 l0 x15_1).f2) l0 (l0.length : Int) (wrap64 (x15_1 + 1))) else (some false)) else (impl_AreSeen.l0 k1 a1 a2 ((rd_T62 l0 x15_1).f2) l0 (l0.length : Int) (wrap64 (x15_1 + 1)))) else (some false)) = some r := H
          have A14 := Aside0.mk A140
          clear A140
          by_cases c15 : t348 = true
          ·subst c15
           have H1 : (if (rd_T62 l0 x15_1).f4 = true then (if ((rd_T62 l0 x15_1).f3) = 0 then (impl_AreSeen.l0 k1 a1 a2 ((rd_T62 l0 x15_1).f2) l0 (l0.length : Int) (wrap64 (x15_1 + 1))) else (some false)) else (impl_AreSeen.l0 k1 a1 a2 ((rd_T62 l0 x15_1).f2) l0 (l0.length : Int) (wrap64 (x15_1 + 1)))) = some r := by rw [if_pos rfl] at H; exact H
           clear H
           have H := H1
           clear H1
           obtain ⟨bq16, hbq16⟩ : ∃ b_ : Bool, b_ = ((rd_T62 l0 x15_1).f4) := ⟨_, rfl⟩
           replace H : (if bq16 = true then (if ((rd_T62 l0 x15_1).f3) = 0 then (impl_AreSeen.l0 k1 a1 a2 ((rd_T62 l0 x15_1).f2) l0 (l0.length : Int) (wrap64 (x15_1 + 1))) else (some false)) else (impl_AreSeen.l0 k1 a1 a2 ((rd_T62 l0 x15_1).f2) l0 (l0.length : Int) (wrap64 (x15_1 + 1)))) = some r := by rw [← hbq16] at H; exact H
           have Nbq16 := Aside0.mk hbq16
           clear hbq16
           by_cases c17 : bq16 = true
           ·subst c17
            have H1 : (if ((rd_T62 l0 x15_1).f3) = 0 then (impl_AreSeen.l0 k1 a1 a2 ((rd_T62 l0 x15_1).f2) l0 (l0.length : Int) (wrap64 (x15_1 + 1))) else (some false)) = some r := by rw [if_pos rfl] at H; exact H
            clear H
            have H := H1
            clear H1
            by_cases c18 : ((rd_T62 l0 x15_1).f3) = 0
            ·rw [if_pos c18] at H
             have c18b0 : (((rd_T62 l0 x15_1).f3) == 0) = true := beq_iff_eq.mpr c18
             have c18b1 : (((rd_T62 l0 x15_1).f3) != 0) = false := bne_eq_false_iff_eq.mpr c18
             clear c18
             have H' := Aside0.mk H
             clear H
             have p343 : 0 ≤ (x15_1 : Int) := of_decide_eq_true (by first | (with_reducible assumption) | assumption)
             have q343 : x15_1 < (l0.length : Int) := of_decide_eq_true (by first | (with_reducible assumption) | assumption)
             obtain ⟨ad343, e343, hx343_0, hx343_1, hx343_2, hx343_3, hx343_4⟩ := at_T62 HR0.out x15_1 p343 q343
             (try rw [← Nbq16.out] at hx343_4)
             cases e343
             replace hx343_0 := (HB.out.cell (World.block_lt_of_cell? w _ hx343_0)).trans hx343_0
             replace hx343_1 := (HB.out.cell (World.block_lt_of_cell? w _ hx343_1)).trans hx343_1
             replace hx343_2 := (HB.out.cell (World.block_lt_of_cell? w _ hx343_2)).trans hx343_2
             replace hx343_3 := (HB.out.cell (World.block_lt_of_cell? w _ hx343_3)).trans hx343_3
             replace hx343_4 := (HB.out.cell (World.block_lt_of_cell? w _ hx343_4)).trans hx343_4
             replace p343 := eq_true p343
             replace q343 := eq_true q343
             go_wp2_with (first | ((with_reducible refine gate_dst (N := 9) rfl ?_); refine box_event ?hg (N := 9) ?hd (cs := #[.int .i64 0, .int .i64 0, .int .i64 0, .int .i64 0, .bool false]) (t := 62) ?hr ?_; (case hd => rfl); (case hg => rfl); (case hr => first | (go_simp; done) | (go_simp; rfl)); intro gb344 hg w19 hbox hb; have n0_ := Aside0.mk (below_step (by repeat (first | (with_reducible first | exact HB.out | apply below_alloc | apply pw_below_drewN | apply below_drew1) | exact HB.out)) hb); have n1_ := Aside0.mk (hbox); have n2_ := Aside0.mk ((by rw [hg]; exact (below_size (by repeat (first | (with_reducible first | exact HB.out | apply below_alloc | apply pw_below_drewN | apply below_drew1) | exact HB.out))) : w.heap.size ≤ gb344)); have n3_ := Aside0.mk ((by rw [hg]; exact (below_size (by repeat (first | (with_reducible first | exact HB.out | apply below_alloc | apply pw_below_drewN | apply below_drew1) | exact HB.out))) : w.heap.size ≤ gb344)); clear HB; have HB := n0_; have BK344 := n1_; have GW344 := n2_; have GE344 := n3_; clear n0_ n1_ n2_ n3_; clear hb hbox hg; obtain ⟨hcz20_0, hcz20_1, hcz20_2, hcz20_3, hcz20_4⟩ := cells5 BK344.out; obtain ⟨hfz20_0, hfz20_1, hfz20_2, hfz20_3, hfz20_4⟩ := froz5 BK344.out) | ((with_reducible refine gate_callee (f := 87) rfl ?_); refine goesL_ (some 22) rfl rfl Try.func87 (by kernel_rfl) rfl #[.int .i64 ((rd_T62 l0 x15_1).f0), .int .i64 a1] rfl (by (try simp only [List.map_toArray, List.map_cons, List.map_nil]); first | done | rfl | (simp only [List.length_drop, List.length_take]; rfl)) ?_; (with_reducible refine (impl_at.calls ((rd_T62 l0 x15_1).f0) a1 true _ A8.out).mono ?_); rintro e w' ⟨rfl, ⟨nd, rfl⟩⟩; refine ⟨_, rfl, ?_⟩) | (go_at_call 87; (with_reducible refine (impl_at.calls ((rd_T62 l0 x15_1).f1) 6 true _ A10.out).mono ?_); rintro e w' ⟨rfl, ⟨nd, rfl⟩⟩) | (go_at_call 116; (with_reducible refine (impl_InRange.calls ((rd_T62 l0 x15_1).f2) x7_1 a2 true _ A12.out).mono ?_); rintro e w' ⟨rfl, ⟨nd, rfl⟩⟩) | (go_at_call 116; (with_reducible refine (impl_InRange.calls ((rd_T62 l0 x15_1).f3) 0 1000 true _ A14.out).mono ?_); rintro e w' ⟨rfl, ⟨nd, rfl⟩⟩))
             go_roundg k1
             case measure => have := HK1.out; omega
             case rel => exact ⟨((rd_T62 l0 x15_1).f2), (wrap64 (x15_1 + 1)), (by first | rfl | (simp; done) | (simp [*]; done)), (by first | rfl | (simp; done) | (simp [*]; done)), H', ⟨by have := HK1.out; omega⟩, ⟨by repeat (first | (with_reducible first | exact HB.out | apply below_alloc | apply pw_below_drewN | apply below_drew1 | refine below_set ?_ GE344.out) | exact HB.out)⟩⟩
            ·rw [if_neg c18] at H
             have c18b0 : (((rd_T62 l0 x15_1).f3) == 0) = false := beq_eq_false_iff_ne.mpr c18
             have c18b1 : (((rd_T62 l0 x15_1).f3) != 0) = true := bne_iff_ne.mpr c18
             obtain rfl := Option.some.inj H
             have p343 : 0 ≤ (x15_1 : Int) := of_decide_eq_true (by first | (with_reducible assumption) | assumption)
             have q343 : x15_1 < (l0.length : Int) := of_decide_eq_true (by first | (with_reducible assumption) | assumption)
             obtain ⟨ad343, e343, hx343_0, hx343_1, hx343_2, hx343_3, hx343_4⟩ := at_T62 HR0.out x15_1 p343 q343
             (try rw [← Nbq16.out] at hx343_4)
             cases e343
             replace hx343_0 := (HB.out.cell (World.block_lt_of_cell? w _ hx343_0)).trans hx343_0
             replace hx343_1 := (HB.out.cell (World.block_lt_of_cell? w _ hx343_1)).trans hx343_1
             replace hx343_2 := (HB.out.cell (World.block_lt_of_cell? w _ hx343_2)).trans hx343_2
             replace hx343_3 := (HB.out.cell (World.block_lt_of_cell? w _ hx343_3)).trans hx343_3
             replace hx343_4 := (HB.out.cell (World.block_lt_of_cell? w _ hx343_4)).trans hx343_4
             replace p343 := eq_true p343
             replace q343 := eq_true q343
             go_wp2_with (first | ((with_reducible refine gate_dst (N := 9) rfl ?_); refine box_event ?hg (N := 9) ?hd (cs := #[.int .i64 0, .int .i64 0, .int .i64 0, .int .i64 0, .bool false]) (t := 62) ?hr ?_; (case hd => rfl); (case hg => rfl); (case hr => first | (go_simp; done) | (go_simp; rfl)); intro gb344 hg w21 hbox hb; have n0_ := Aside0.mk (below_step (by repeat (first | (with_reducible first | exact HB.out | apply below_alloc | apply pw_below_drewN | apply below_drew1) | exact HB.out)) hb); have n1_ := Aside0.mk (hbox); have n2_ := Aside0.mk ((by rw [hg]; exact (below_size (by repeat (first | (with_reducible first | exact HB.out | apply below_alloc | apply pw_below_drewN | apply below_drew1) | exact HB.out))) : w.heap.size ≤ gb344)); have n3_ := Aside0.mk ((by rw [hg]; exact (below_size (by repeat (first | (with_reducible first | exact HB.out | apply below_alloc | apply pw_below_drewN | apply below_drew1) | exact HB.out))) : w.heap.size ≤ gb344)); clear HB; have HB := n0_; have BK344 := n1_; have GW344 := n2_; have GE344 := n3_; clear n0_ n1_ n2_ n3_; clear hb hbox hg; obtain ⟨hcz22_0, hcz22_1, hcz22_2, hcz22_3, hcz22_4⟩ := cells5 BK344.out; obtain ⟨hfz22_0, hfz22_1, hfz22_2, hfz22_3, hfz22_4⟩ := froz5 BK344.out) | ((with_reducible refine gate_callee (f := 87) rfl ?_); refine goesL_ (some 22) rfl rfl Try.func87 (by kernel_rfl) rfl #[.int .i64 ((rd_T62 l0 x15_1).f0), .int .i64 a1] rfl (by (try simp only [List.map_toArray, List.map_cons, List.map_nil]); first | done | rfl | (simp only [List.length_drop, List.length_take]; rfl)) ?_; (with_reducible refine (impl_at.calls ((rd_T62 l0 x15_1).f0) a1 true _ A8.out).mono ?_); rintro e w' ⟨rfl, ⟨nd, rfl⟩⟩; refine ⟨_, rfl, ?_⟩) | (go_at_call 87; (with_reducible refine (impl_at.calls ((rd_T62 l0 x15_1).f1) 6 true _ A10.out).mono ?_); rintro e w' ⟨rfl, ⟨nd, rfl⟩⟩) | (go_at_call 116; (with_reducible refine (impl_InRange.calls ((rd_T62 l0 x15_1).f2) x7_1 a2 true _ A12.out).mono ?_); rintro e w' ⟨rfl, ⟨nd, rfl⟩⟩) | (go_at_call 116; (with_reducible refine (impl_InRange.calls ((rd_T62 l0 x15_1).f3) 0 1000 true _ A14.out).mono ?_); rintro e w' ⟨rfl, ⟨nd, rfl⟩⟩))
             go_ret
             exact ⟨by first | rfl | (simp [errW_none, errW_some] <;> rfl) | (simp [*, errW_none, errW_some] <;> rfl), by repeat (first | (with_reducible first | exact HB.out | apply below_alloc | apply pw_below_drewN | apply below_drew1 | refine below_set ?_ GE344.out) | exact HB.out)⟩
           ·replace c17 := Bool.eq_false_iff.mpr c17
            subst c17
            have H1 : (impl_AreSeen.l0 k1 a1 a2 ((rd_T62 l0 x15_1).f2) l0 (l0.length : Int) (wrap64 (x15_1 + 1))) = some r := by rw [if_neg (show ¬ (false = true) by decide)] at H; exact H
            clear H
            have H := H1
            clear H1
            have H' := Aside0.mk H
            clear H
            have p343 : 0 ≤ (x15_1 : Int) := of_decide_eq_true (by first | (with_reducible assumption) | assumption)
            have q343 : x15_1 < (l0.length : Int) := of_decide_eq_true (by first | (with_reducible assumption) | assumption)
            obtain ⟨ad343, e343, hx343_0, hx343_1, hx343_2, hx343_3, hx343_4⟩ := at_T62 HR0.out x15_1 p343 q343
            (try rw [← Nbq16.out] at hx343_4)
            cases e343
            replace hx343_0 := (HB.out.cell (World.block_lt_of_cell? w _ hx343_0)).trans hx343_0
            replace hx343_1 := (HB.out.cell (World.block_lt_of_cell? w _ hx343_1)).trans hx343_1
            replace hx343_2 := (HB.out.cell (World.block_lt_of_cell? w _ hx343_2)).trans hx343_2
            replace hx343_3 := (HB.out.cell (World.block_lt_of_cell? w _ hx343_3)).trans hx343_3
            replace hx343_4 := (HB.out.cell (World.block_lt_of_cell? w _ hx343_4)).trans hx343_4
            replace p343 := eq_true p343
            replace q343 := eq_true q343
            go_wp2_with (first | ((with_reducible refine gate_dst (N := 9) rfl ?_); refine box_event ?hg (N := 9) ?hd (cs := #[.int .i64 0, .int .i64 0, .int .i64 0, .int .i64 0, .bool false]) (t := 62) ?hr ?_; (case hd => rfl); (case hg => rfl); (case hr => first | (go_simp; done) | (go_simp; rfl)); intro gb344 hg w23 hbox hb; have n0_ := Aside0.mk (below_step (by repeat (first | (with_reducible first | exact HB.out | apply below_alloc | apply pw_below_drewN | apply below_drew1) | exact HB.out)) hb); have n1_ := Aside0.mk (hbox); have n2_ := Aside0.mk ((by rw [hg]; exact (below_size (by repeat (first | (with_reducible first | exact HB.out | apply below_alloc | apply pw_below_drewN | apply below_drew1) | exact HB.out))) : w.heap.size ≤ gb344)); have n3_ := Aside0.mk ((by rw [hg]; exact (below_size (by repeat (first | (with_reducible first | exact HB.out | apply below_alloc | apply pw_below_drewN | apply below_drew1) | exact HB.out))) : w.heap.size ≤ gb344)); clear HB; have HB := n0_; have BK344 := n1_; have GW344 := n2_; have GE344 := n3_; clear n0_ n1_ n2_ n3_; clear hb hbox hg; obtain ⟨hcz24_0, hcz24_1, hcz24_2, hcz24_3, hcz24_4⟩ := cells5 BK344.out; obtain ⟨hfz24_0, hfz24_1, hfz24_2, hfz24_3, hfz24_4⟩ := froz5 BK344.out) | ((with_reducible refine gate_callee (f := 87) rfl ?_); refine goesL_ (some 22) rfl rfl Try.func87 (by kernel_rfl) rfl #[.int .i64 ((rd_T62 l0 x15_1).f0), .int .i64 a1] rfl (by (try simp only [List.map_toArray, List.map_cons, List.map_nil]); first | done | rfl | (simp only [List.length_drop, List.length_take]; rfl)) ?_; (with_reducible refine (impl_at.calls ((rd_T62 l0 x15_1).f0) a1 true _ A8.out).mono ?_); rintro e w' ⟨rfl, ⟨nd, rfl⟩⟩; refine ⟨_, rfl, ?_⟩) | (go_at_call 87; (with_reducible refine (impl_at.calls ((rd_T62 l0 x15_1).f1) 6 true _ A10.out).mono ?_); rintro e w' ⟨rfl, ⟨nd, rfl⟩⟩) | (go_at_call 116; (with_reducible refine (impl_InRange.calls ((rd_T62 l0 x15_1).f2) x7_1 a2 true _ A12.out).mono ?_); rintro e w' ⟨rfl, ⟨nd, rfl⟩⟩) | (go_at_call 116; (with_reducible refine (impl_InRange.calls ((rd_T62 l0 x15_1).f3) 0 1000 true _ A14.out).mono ?_); rintro e w' ⟨rfl, ⟨nd, rfl⟩⟩))
            go_roundg k1
            case measure => have := HK1.out; omega
            case rel => exact ⟨((rd_T62 l0 x15_1).f2), (wrap64 (x15_1 + 1)), (by first | rfl | (simp; done) | (simp [*]; done)), (by first | rfl | (simp; done) | (simp [*]; done)), H', ⟨by have := HK1.out; omega⟩, ⟨by repeat (first | (with_reducible first | exact HB.out | apply below_alloc | apply pw_below_drewN | apply below_drew1 | refine below_set ?_ GE344.out) | exact HB.out)⟩⟩
          ·replace c15 := Bool.eq_false_iff.mpr c15
           subst c15
           have H1 : (some false) = some r := by rw [if_neg (show ¬ (false = true) by decide)] at H; exact H
           clear H
           have H := H1
           clear H1
           obtain rfl := Option.some.inj H
           have p343 : 0 ≤ (x15_1 : Int) := of_decide_eq_true (by first | (with_reducible assumption) | assumption)
           have q343 : x15_1 < (l0.length : Int) := of_decide_eq_true (by first | (with_reducible assumption) | assumption)
           obtain ⟨ad343, e343, hx343_0, hx343_1, hx343_2, hx343_3, hx343_4⟩ := at_T62 HR0.out x15_1 p343 q343
           cases e343
           replace hx343_0 := (HB.out.cell (World.block_lt_of_cell? w _ hx343_0)).trans hx343_0
           replace hx343_1 := (HB.out.cell (World.block_lt_of_cell? w _ hx343_1)).trans hx343_1
           replace hx343_2 := (HB.out.cell (World.block_lt_of_cell? w _ hx343_2)).trans hx343_2
           replace hx343_3 := (HB.out.cell (World.block_lt_of_cell? w _ hx343_3)).trans hx343_3
           replace hx343_4 := (HB.out.cell (World.block_lt_of_cell? w _ hx343_4)).trans hx343_4
           replace p343 := eq_true p343
           replace q343 := eq_true q343
           go_wp2_with (first | ((with_reducible refine gate_dst (N := 9) rfl ?_); refine box_event ?hg (N := 9) ?hd (cs := #[.int .i64 0, .int .i64 0, .int .i64 0, .int .i64 0, .bool false]) (t := 62) ?hr ?_; (case hd => rfl); (case hg => rfl); (case hr => first | (go_simp; done) | (go_simp; rfl)); intro gb344 hg w25 hbox hb; have n0_ := Aside0.mk (below_step (by repeat (first | (with_reducible first | exact HB.out | apply below_alloc | apply pw_below_drewN | apply below_drew1) | exact HB.out)) hb); have n1_ := Aside0.mk (hbox); have n2_ := Aside0.mk ((by rw [hg]; exact (below_size (by repeat (first | (with_reducible first | exact HB.out | apply below_alloc | apply pw_below_drewN | apply below_drew1) | exact HB.out))) : w.heap.size ≤ gb344)); have n3_ := Aside0.mk ((by rw [hg]; exact (below_size (by repeat (first | (with_reducible first | exact HB.out | apply below_alloc | apply pw_below_drewN | apply below_drew1) | exact HB.out))) : w.heap.size ≤ gb344)); clear HB; have HB := n0_; have BK344 := n1_; have GW344 := n2_; have GE344 := n3_; clear n0_ n1_ n2_ n3_; clear hb hbox hg; obtain ⟨hcz26_0, hcz26_1, hcz26_2, hcz26_3, hcz26_4⟩ := cells5 BK344.out; obtain ⟨hfz26_0, hfz26_1, hfz26_2, hfz26_3, hfz26_4⟩ := froz5 BK344.out) | ((with_reducible refine gate_callee (f := 87) rfl ?_); refine goesL_ (some 22) rfl rfl Try.func87 (by kernel_rfl) rfl #[.int .i64 ((rd_T62 l0 x15_1).f0), .int .i64 a1] rfl (by (try simp only [List.map_toArray, List.map_cons, List.map_nil]); first | done | rfl | (simp only [List.length_drop, List.length_take]; rfl)) ?_; (with_reducible refine (impl_at.calls ((rd_T62 l0 x15_1).f0) a1 true _ A8.out).mono ?_); rintro e w' ⟨rfl, ⟨nd, rfl⟩⟩; refine ⟨_, rfl, ?_⟩) | (go_at_call 87; (with_reducible refine (impl_at.calls ((rd_T62 l0 x15_1).f1) 6 true _ A10.out).mono ?_); rintro e w' ⟨rfl, ⟨nd, rfl⟩⟩) | (go_at_call 116; (with_reducible refine (impl_InRange.calls ((rd_T62 l0 x15_1).f2) x7_1 a2 true _ A12.out).mono ?_); rintro e w' ⟨rfl, ⟨nd, rfl⟩⟩) | (go_at_call 116; (with_reducible refine (impl_InRange.calls ((rd_T62 l0 x15_1).f3) 0 1000 false _ A14.out).mono ?_); rintro e w' ⟨rfl, ⟨nd, rfl⟩⟩))
           go_ret
           exact ⟨by first | rfl | (simp [errW_none, errW_some] <;> rfl) | (simp [*, errW_none, errW_some] <;> rfl), by repeat (first | (with_reducible first | exact HB.out | apply below_alloc | apply pw_below_drewN | apply below_drew1 | refine below_set ?_ GE344.out) | exact HB.out)⟩
         ·replace c13 := Bool.eq_false_iff.mpr c13
          subst c13
          have H1 : (some false) = some r := by rw [if_neg (show ¬ (false = true) by decide)] at H; exact H
          clear H
          have H := H1
          clear H1
          obtain rfl := Option.some.inj H
          have p343 : 0 ≤ (x15_1 : Int) := of_decide_eq_true (by first | (with_reducible assumption) | assumption)
          have q343 : x15_1 < (l0.length : Int) := of_decide_eq_true (by first | (with_reducible assumption) | assumption)
          obtain ⟨ad343, e343, hx343_0, hx343_1, hx343_2, hx343_3, hx343_4⟩ := at_T62 HR0.out x15_1 p343 q343
          cases e343
          replace hx343_0 := (HB.out.cell (World.block_lt_of_cell? w _ hx343_0)).trans hx343_0
          replace hx343_1 := (HB.out.cell (World.block_lt_of_cell? w _ hx343_1)).trans hx343_1
          replace hx343_2 := (HB.out.cell (World.block_lt_of_cell? w _ hx343_2)).trans hx343_2
          replace hx343_3 := (HB.out.cell (World.block_lt_of_cell? w _ hx343_3)).trans hx343_3
          replace hx343_4 := (HB.out.cell (World.block_lt_of_cell? w _ hx343_4)).trans hx343_4
          replace p343 := eq_true p343
          replace q343 := eq_true q343
          go_wp2_with (first | ((with_reducible refine gate_dst (N := 9) rfl ?_); refine box_event ?hg (N := 9) ?hd (cs := #[.int .i64 0, .int .i64 0, .int .i64 0, .int .i64 0, .bool false]) (t := 62) ?hr ?_; (case hd => rfl); (case hg => rfl); (case hr => first | (go_simp; done) | (go_simp; rfl)); intro gb344 hg w27 hbox hb; have n0_ := Aside0.mk (below_step (by repeat (first | (with_reducible first | exact HB.out | apply below_alloc | apply pw_below_drewN | apply below_drew1) | exact HB.out)) hb); have n1_ := Aside0.mk (hbox); have n2_ := Aside0.mk ((by rw [hg]; exact (below_size (by repeat (first | (with_reducible first | exact HB.out | apply below_alloc | apply pw_below_drewN | apply below_drew1) | exact HB.out))) : w.heap.size ≤ gb344)); have n3_ := Aside0.mk ((by rw [hg]; exact (below_size (by repeat (first | (with_reducible first | exact HB.out | apply below_alloc | apply pw_below_drewN | apply below_drew1) | exact HB.out))) : w.heap.size ≤ gb344)); clear HB; have HB := n0_; have BK344 := n1_; have GW344 := n2_; have GE344 := n3_; clear n0_ n1_ n2_ n3_; clear hb hbox hg; obtain ⟨hcz28_0, hcz28_1, hcz28_2, hcz28_3, hcz28_4⟩ := cells5 BK344.out; obtain ⟨hfz28_0, hfz28_1, hfz28_2, hfz28_3, hfz28_4⟩ := froz5 BK344.out) | ((with_reducible refine gate_callee (f := 87) rfl ?_); refine goesL_ (some 22) rfl rfl Try.func87 (by kernel_rfl) rfl #[.int .i64 ((rd_T62 l0 x15_1).f0), .int .i64 a1] rfl (by (try simp only [List.map_toArray, List.map_cons, List.map_nil]); first | done | rfl | (simp only [List.length_drop, List.length_take]; rfl)) ?_; (with_reducible refine (impl_at.calls ((rd_T62 l0 x15_1).f0) a1 true _ A8.out).mono ?_); rintro e w' ⟨rfl, ⟨nd, rfl⟩⟩; refine ⟨_, rfl, ?_⟩) | (go_at_call 87; (with_reducible refine (impl_at.calls ((rd_T62 l0 x15_1).f1) 6 true _ A10.out).mono ?_); rintro e w' ⟨rfl, ⟨nd, rfl⟩⟩) | (go_at_call 116; (with_reducible refine (impl_InRange.calls ((rd_T62 l0 x15_1).f2) x7_1 a2 false _ A12.out).mono ?_); rintro e w' ⟨rfl, ⟨nd, rfl⟩⟩))
          go_ret
          exact ⟨by first | rfl | (simp [errW_none, errW_some] <;> rfl) | (simp [*, errW_none, errW_some] <;> rfl), by repeat (first | (with_reducible first | exact HB.out | apply below_alloc | apply pw_below_drewN | apply below_drew1 | refine below_set ?_ GE344.out) | exact HB.out)⟩
        ·replace c11 := Bool.eq_false_iff.mpr c11
         subst c11
         have H1 : (some false) = some r := by rw [if_neg (show ¬ (false = true) by decide)] at H; exact H
         clear H
         have H := H1
         clear H1
         obtain rfl := Option.some.inj H
         have p343 : 0 ≤ (x15_1 : Int) := of_decide_eq_true (by first | (with_reducible assumption) | assumption)
         have q343 : x15_1 < (l0.length : Int) := of_decide_eq_true (by first | (with_reducible assumption) | assumption)
         obtain ⟨ad343, e343, hx343_0, hx343_1, hx343_2, hx343_3, hx343_4⟩ := at_T62 HR0.out x15_1 p343 q343
         cases e343
         replace hx343_0 := (HB.out.cell (World.block_lt_of_cell? w _ hx343_0)).trans hx343_0
         replace hx343_1 := (HB.out.cell (World.block_lt_of_cell? w _ hx343_1)).trans hx343_1
         replace hx343_2 := (HB.out.cell (World.block_lt_of_cell? w _ hx343_2)).trans hx343_2
         replace hx343_3 := (HB.out.cell (World.block_lt_of_cell? w _ hx343_3)).trans hx343_3
         replace hx343_4 := (HB.out.cell (World.block_lt_of_cell? w _ hx343_4)).trans hx343_4
         replace p343 := eq_true p343
         replace q343 := eq_true q343
         go_wp2_with (first | ((with_reducible refine gate_dst (N := 9) rfl ?_); refine box_event ?hg (N := 9) ?hd (cs := #[.int .i64 0, .int .i64 0, .int .i64 0, .int .i64 0, .bool false]) (t := 62) ?hr ?_; (case hd => rfl); (case hg => rfl); (case hr => first | (go_simp; done) | (go_simp; rfl)); intro gb344 hg w29 hbox hb; have n0_ := Aside0.mk (below_step (by repeat (first | (with_reducible first | exact HB.out | apply below_alloc | apply pw_below_drewN | apply below_drew1) | exact HB.out)) hb); have n1_ := Aside0.mk (hbox); have n2_ := Aside0.mk ((by rw [hg]; exact (below_size (by repeat (first | (with_reducible first | exact HB.out | apply below_alloc | apply pw_below_drewN | apply below_drew1) | exact HB.out))) : w.heap.size ≤ gb344)); have n3_ := Aside0.mk ((by rw [hg]; exact (below_size (by repeat (first | (with_reducible first | exact HB.out | apply below_alloc | apply pw_below_drewN | apply below_drew1) | exact HB.out))) : w.heap.size ≤ gb344)); clear HB; have HB := n0_; have BK344 := n1_; have GW344 := n2_; have GE344 := n3_; clear n0_ n1_ n2_ n3_; clear hb hbox hg; obtain ⟨hcz30_0, hcz30_1, hcz30_2, hcz30_3, hcz30_4⟩ := cells5 BK344.out; obtain ⟨hfz30_0, hfz30_1, hfz30_2, hfz30_3, hfz30_4⟩ := froz5 BK344.out) | ((with_reducible refine gate_callee (f := 87) rfl ?_); refine goesL_ (some 22) rfl rfl Try.func87 (by kernel_rfl) rfl #[.int .i64 ((rd_T62 l0 x15_1).f0), .int .i64 a1] rfl (by (try simp only [List.map_toArray, List.map_cons, List.map_nil]); first | done | rfl | (simp only [List.length_drop, List.length_take]; rfl)) ?_; (with_reducible refine (impl_at.calls ((rd_T62 l0 x15_1).f0) a1 true _ A8.out).mono ?_); rintro e w' ⟨rfl, ⟨nd, rfl⟩⟩; refine ⟨_, rfl, ?_⟩) | (go_at_call 87; (with_reducible refine (impl_at.calls ((rd_T62 l0 x15_1).f1) 6 false _ A10.out).mono ?_); rintro e w' ⟨rfl, ⟨nd, rfl⟩⟩))
         go_ret
         exact ⟨by first | rfl | (simp [errW_none, errW_some] <;> rfl) | (simp [*, errW_none, errW_some] <;> rfl), by repeat (first | (with_reducible first | exact HB.out | apply below_alloc | apply pw_below_drewN | apply below_drew1 | refine below_set ?_ GE344.out) | exact HB.out)⟩
       ·replace c9 := Bool.eq_false_iff.mpr c9
        subst c9
        have H1 : (some false) = some r := by rw [if_neg (show ¬ (false = true) by decide)] at H; exact H
        clear H
        have H := H1
        clear H1
        obtain rfl := Option.some.inj H
        have p343 : 0 ≤ (x15_1 : Int) := of_decide_eq_true (by first | (with_reducible assumption) | assumption)
        have q343 : x15_1 < (l0.length : Int) := of_decide_eq_true (by first | (with_reducible assumption) | assumption)
        obtain ⟨ad343, e343, hx343_0, hx343_1, hx343_2, hx343_3, hx343_4⟩ := at_T62 HR0.out x15_1 p343 q343
        cases e343
        replace hx343_0 := (HB.out.cell (World.block_lt_of_cell? w _ hx343_0)).trans hx343_0
        replace hx343_1 := (HB.out.cell (World.block_lt_of_cell? w _ hx343_1)).trans hx343_1
        replace hx343_2 := (HB.out.cell (World.block_lt_of_cell? w _ hx343_2)).trans hx343_2
        replace hx343_3 := (HB.out.cell (World.block_lt_of_cell? w _ hx343_3)).trans hx343_3
        replace hx343_4 := (HB.out.cell (World.block_lt_of_cell? w _ hx343_4)).trans hx343_4
        replace p343 := eq_true p343
        replace q343 := eq_true q343
        go_wp2_with (first | ((with_reducible refine gate_dst (N := 9) rfl ?_); refine box_event ?hg (N := 9) ?hd (cs := #[.int .i64 0, .int .i64 0, .int .i64 0, .int .i64 0, .bool false]) (t := 62) ?hr ?_; (case hd => rfl); (case hg => rfl); (case hr => first | (go_simp; done) | (go_simp; rfl)); intro gb344 hg w31 hbox hb; have n0_ := Aside0.mk (below_step (by repeat (first | (with_reducible first | exact HB.out | apply below_alloc | apply pw_below_drewN | apply below_drew1) | exact HB.out)) hb); have n1_ := Aside0.mk (hbox); have n2_ := Aside0.mk ((by rw [hg]; exact (below_size (by repeat (first | (with_reducible first | exact HB.out | apply below_alloc | apply pw_below_drewN | apply below_drew1) | exact HB.out))) : w.heap.size ≤ gb344)); have n3_ := Aside0.mk ((by rw [hg]; exact (below_size (by repeat (first | (with_reducible first | exact HB.out | apply below_alloc | apply pw_below_drewN | apply below_drew1) | exact HB.out))) : w.heap.size ≤ gb344)); clear HB; have HB := n0_; have BK344 := n1_; have GW344 := n2_; have GE344 := n3_; clear n0_ n1_ n2_ n3_; clear hb hbox hg; obtain ⟨hcz32_0, hcz32_1, hcz32_2, hcz32_3, hcz32_4⟩ := cells5 BK344.out; obtain ⟨hfz32_0, hfz32_1, hfz32_2, hfz32_3, hfz32_4⟩ := froz5 BK344.out) | ((with_reducible refine gate_callee (f := 87) rfl ?_); refine goesL_ (some 22) rfl rfl Try.func87 (by kernel_rfl) rfl #[.int .i64 ((rd_T62 l0 x15_1).f0), .int .i64 a1] rfl (by (try simp only [List.map_toArray, List.map_cons, List.map_nil]); first | done | rfl | (simp only [List.length_drop, List.length_take]; rfl)) ?_; (with_reducible refine (impl_at.calls ((rd_T62 l0 x15_1).f0) a1 false _ A8.out).mono ?_); rintro e w' ⟨rfl, ⟨nd, rfl⟩⟩; refine ⟨_, rfl, ?_⟩))
        go_ret
        exact ⟨by first | rfl | (simp [errW_none, errW_some] <;> rfl) | (simp [*, errW_none, errW_some] <;> rfl), by repeat (first | (with_reducible first | exact HB.out | apply below_alloc | apply pw_below_drewN | apply below_drew1 | refine below_set ?_ GE344.out) | exact HB.out)⟩
      ·rw [if_neg c7] at H
       exact absurd H (by simp)
     ·rw [if_neg c6] at H
      exact absurd H (by simp)
    ·rw [if_neg c5] at H
     have c5b0 : decide (x15_1 < (l0.length : Int)) = false := decide_eq_false c5
     clear c5
     obtain rfl := Option.some.inj H
     go_wp2
     go_ret
     exact ⟨by first | rfl | (simp [errW_none, errW_some] <;> rfl) | (simp [*, errW_none, errW_some] <;> rfl), by repeat (first | (with_reducible first | exact HB.out | apply below_alloc | apply pw_below_drewN | apply below_drew1) | exact HB.out)⟩

end Go.Proofs.Ytiipcophnnfnoaa.PFnExactIsWorld
