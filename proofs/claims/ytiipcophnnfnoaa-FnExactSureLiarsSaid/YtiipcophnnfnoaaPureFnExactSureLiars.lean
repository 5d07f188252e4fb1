/- Lemmas: surelaw own zz_FnExactSureLiars -/
import Derived.Test.YtiipcophnnfnoaaPFnExactSureLiarsx0
import Derived.Test.YtiipcophnnfnoaaPFnExactSureLiarsx1
import Derived.Test.YtiipcophnnfnoaaPFnExactSureLiarsx2
import Derived.Test.YtiipcophnnfnoaaPFnExactSureLiarsx3
import Derived.Test.YtiipcophnnfnoaaPFnExactSureLiarsx4
import Derived.Test.YtiipcophnnfnoaaPFnExactSureLiarsx5
import Derived.Test.YtiipcophnnfnoaaPFnExactSureLiarsx6
import Derived.Test.YtiipcophnnfnoaaPFnExactSureLiarsx7
import Derived.Test.YtiipcophnnfnoaaPFnExactSureLiarsx8
import Derived.Test.YtiipcophnnfnoaaPFnExactSureLiarsx9
import Derived.Test.YtiipcophnnfnoaaPFnExactSureLiarsx10
import Derived.Test.YtiipcophnnfnoaaPFnExactSureLiarsx11
import Derived.Test.YtiipcophnnfnoaaPFnExactSureLiarsx12
import Derived.Test.YtiipcophnnfnoaaPFnExactSureLiarsx13
import Derived.Test.YtiipcophnnfnoaaPFnExactSureLiarsx14
import Derived.Test.YtiipcophnnfnoaaPFnExactSureLiarsx15
import Derived.Test.YtiipcophnnfnoaaVFnExactSureLiars
namespace Go.Proofs.Ytiipcophnnfnoaa.Pure
open Go.RowKit Go.Proofs.Ytiipcophnnfnoaa.Base Go.Proofs.Ytiipcophnnfnoaa.PFnExactSureLiars Go.Proofs.YtiipcophnnfnoaaW.PrintWords Go.Proofs.YtiipcophnnfnoaaW.PrintLast Go.Proofs.YtiipcophnnfnoaaW.PrintMore
set_option linter.unusedVariables false
set_option linter.unusedSimpArgs false
/-! ### own -/
/-! ### cgen -/
theorem calls_gen {P : Program} {f : Nat} {args : Array Value} {w : World} {Q : Ending → World → Prop} (R : World → Prop) (hR : R w) (h : ∀ w', R w' → Calls P f args w' Q) : Calls P f args w Q := h w hR
/-! ### small -/
theorem spec_l1In_eq (a b c : Int) : spec_l1In.f a b c = some (decide (b ≤ a ∧ a ≤ c)) := by
 unfold spec_l1In.f
 by_cases h : a ≥ b
 ·rw [if_pos h]
  simp [show b ≤ a from h]
 ·rw [if_neg h]
  have : ¬ b ≤ a := h
  simp [this]
/-! ### addv -/
def addV (cols : Nat) : Nat → Nat → List Int → List (List Int)
 | 0, _, set => [set]
 | d + 1, fr, set => (List.range' fr (cols - fr)).flatMap fun c => addV cols d (c + 1) (set ++ [(c : Int)])
theorem flat_len {α β : Type} (f : α → List β) (m : Nat) : ∀ (l : List α), (∀ x ∈ l, (f x).length ≤ m) → (l.flatMap f).length ≤ l.length * m
 | [], _ => by simp
 | x :: l, h => by
  have h1 := flat_len f m l (fun y hy => h y (by simp [hy]))
  have h2 := h x (by simp)
  rw [List.flatMap_cons, List.length_append, List.length_cons, Nat.succ_mul]
  omega
theorem addV_length (cols : Nat) (hc : cols ≤ 6) : ∀ (d fr : Nat) (set : List Int), (addV cols d fr set).length ≤ 6 ^ d
 | 0, fr, set => by simp [addV]
 | d + 1, fr, set => by
  rw [addV]
  have h := flat_len (fun c => addV cols d (c + 1) (set ++ [(c : Int)])) (6 ^ d) (List.range' fr (cols - fr)) (fun c _ => addV_length cols hc d _ _)
  rw [List.length_range'] at h
  have h2 : (cols - fr) * 6 ^ d ≤ 6 * 6 ^ d := Nat.mul_le_mul_right _ (by omega)
  rw [Nat.pow_succ, Nat.mul_comm]
  omega
theorem addV_six {d : Nat} (h : d ≤ 6) (cols : Nat) (hc : cols ≤ 6) (fr : Nat) (set : List Int) : (addV cols d fr set).length ≤ 46656 :=
 Nat.le_trans (addV_length cols hc d fr set) (Nat.le_trans (Nat.pow_le_pow_right (by omega) h) (by decide))
theorem addV_mem (cols : Nat) : ∀ (d fr : Nat) (set t : List Int), t ∈ addV cols d fr set → t.length = set.length + d
 | 0, fr, set, t, h => by
  rw [addV, List.mem_singleton] at h
  rw [h]
  rfl
 | d + 1, fr, set, t, h => by
  rw [addV, List.mem_flatMap] at h
  obtain ⟨c, _, hc⟩ := h
  have := addV_mem cols d _ _ t hc
  rw [this, List.length_append]
  simp
  omega
/-! ### setsof -/
set_option maxHeartbeats 4000000 in
set_option maxRecDepth 100000 in
theorem add0_c (w0 : World) (gs go gc ga n cols : Nat) (A : Option Addr) (c : Nat) (set : List Int) (fr : Nat) (vo : Value) (rows : List (List Int)) (w : World)
  (hlen : set.length = n) (hn : n ≤ 6) (hB : Below w0.heap.size w0 w) (hR : Kd.R (Kd.int .i64) 3 w w0.heap.size (fun _ => True) (.slice A set.length c) set)
  (hS : Kd.S (Kd.slice 3 (Kd.int .i64)) 25 w w0.heap.size (fun _ => True) vo rows)
  (hgs : w.heap[gs]? = some (.cells #[.int .i64 n] 3 (0, 0))) (hgo : w.heap[go]? = some (.cells #[vo] 33 (0, 0))) (hbo : w0.heap.size ≤ go) (hl : rows.length + 1 ≤ 1000000) :
  Calls Try.prog 150 #[.slice A set.length c, .int .i64 fr, .pointer (some ⟨gs, 0, none⟩), .pointer (some ⟨go, 0, none⟩), .pointer (some ⟨gc, 0, none⟩), .pointer (some ⟨ga, 0, none⟩)] w fun e w' => (∃ v, e = .returned v) ∧ ∃ vo', w'.heap[go]? = some (.cells #[vo'] 33 (0, 0)) ∧ Kd.S (Kd.slice 3 (Kd.int .i64)) 25 w' w0.heap.size (fun _ => True) vo' (rows ++ [set]) ∧ Below w0.heap.size w0 w' ∧ Kept w w' (fun k => k = go ∨ some k = vo.ownBlock) ∧ (vo'.ownBlock = vo.ownBlock ∨ ∃ b, vo'.ownBlock = some b ∧ w.heap.size ≤ b) := by
 subst hlen
 have hcl : slices_Clone_int_int.f set = some set := by
  unfold slices_Clone_int_int.f
  simp
  omega
 have K := Aside0.mk hcl
 have hinf : (Try.prog.info? 25).map (fun i => (i.zero, i.size, i.bytes)) = some (some (.slice none 0 0), 1, 24) := by kernel_rfl
 have HINF := Aside0.mk hinf
 have HR := Aside0.mk hR
 have HS := Aside0.mk hS
 have HB := Aside0.mk hB
 have HGO := Aside0.mk hgo
 have HBO := Aside0.mk hbo
 have HL := Aside0.mk hl
 have hcs := (blk_cell hgs 0).trans rfl
 have hco := (blk_cell hgo 0).trans rfl
 clear hcl hinf hR hS hB hgs hgo hbo hl
 go_enter Try.func150, Try.ntmps150
 go_upto_region 1 with fail
 have HNE := Aside0.mk (Kd.S_ne HS.out HGO.out (by decide))
 have hfo := blk_frozen HGO.out 0
 go_region_law (first | (go_simp; go_at_call 102; (refine (slices_Clone_int_int.calls A c set set _ (Kd.C_below (Kd.R_reads' HR.out).2.2 (by repeat (first | (with_reducible first | exact Below.refl _ _ | apply below_alloc | apply pw_below_drewN | apply below_drew1) | exact Below.refl _ _))) (Kd.R_reads' HR.out).2.1 K.out).mono ?_); rintro e w1_ ⟨v1_, rfl, ho1, hb1⟩; obtain ⟨Ac_, cc_, rfl⟩ := Kd.R_slice ho1; have hk1_ := (blk_cell (blk_below HGO.out (below_step (w := w) (by repeat (first | (with_reducible first | exact Below.refl _ _ | apply below_alloc | apply pw_below_drewN | apply below_drew1) | exact Below.refl _ _)) hb1)) 0).trans rfl; have hk5_ : ∀ o, (World.alloc w1_ o).cell? ⟨go, 0, none⟩ = some vo := (fun o => (blk_cell (blk_alloc (blk_below HGO.out (below_step (w := w) (by repeat (first | (with_reducible first | exact Below.refl _ _ | apply below_alloc | apply pw_below_drewN | apply below_drew1) | exact Below.refl _ _)) hb1)) o) 0).trans rfl); have hk2_ := blk_frozen (blk_below HGO.out (below_step (w := w) (by repeat (first | (with_reducible first | exact Below.refl _ _ | apply below_alloc | apply pw_below_drewN | apply below_drew1) | exact Below.refl _ _)) hb1)) 0) | (refine Kd.S_append_step (Kd.slice 3 (Kd.int .i64)) (w0 := w0) w0.heap.size (by rfl) _ _ 33 25 (.slice none 0 0) 24 (by rfl) Try.underlying33 HINF.out rfl (by decide) (by omega) vo rows set [.slice Ac_ set.length cc_] (fun _ => True) (fun k => some k = (.slice Ac_ set.length cc_ : Value).ownBlock) (by rfl) (by rfl) ?aP ?aK (fun _ _ => trivial) ?aO ?aB ?aS ?aL ?_; (case aP => exact Kd.M_row (Kd.R_mono (Kd.R_tight rfl (Kd.R_lower (Kd.R_below ho1 (by repeat (first | (with_reducible first | exact Below.refl _ _ | apply below_alloc | apply pw_below_drewN | apply below_drew1) | exact Below.refl _ _))) HB.out.size)) (fun _ h_ => h_))); (case aK => exact fun k hk => ⟨trivial, fun he => Nat.lt_irrefl _ (Nat.lt_of_lt_of_le (Kd.S_lt HS.out k he.symm) (Kd.R_base ho1 k hk.symm))⟩); (case aO => exact Kd.S_mono (Kd.S_old HS.out (below_step (below_step (w := w) (by repeat (first | (with_reducible first | exact Below.refl _ _ | apply below_alloc | apply pw_below_drewN | apply below_drew1) | exact Below.refl _ _)) hb1) (by repeat (first | (with_reducible first | exact Below.refl _ _ | apply below_alloc | apply pw_below_drewN | apply below_drew1) | exact Below.refl _ _)))) (fun k hk => ⟨trivial, fun he => Nat.lt_irrefl _ (Nat.lt_of_lt_of_le hk.2 (Kd.R_base ho1 k he.symm))⟩)); (case aB => exact below_step HB.out (below_step (below_step (w := w) (by repeat (first | (with_reducible first | exact Below.refl _ _ | apply below_alloc | apply pw_below_drewN | apply below_drew1) | exact Below.refl _ _)) hb1) (by repeat (first | (with_reducible first | exact Below.refl _ _ | apply below_alloc | apply pw_below_drewN | apply below_drew1) | exact Below.refl _ _)))); (case aS => exact Nat.le_trans HB.out.size ((below_step (below_step (w := w) (by repeat (first | (with_reducible first | exact Below.refl _ _ | apply below_alloc | apply pw_below_drewN | apply below_drew1) | exact Below.refl _ _)) hb1) (by repeat (first | (with_reducible first | exact Below.refl _ _ | apply below_alloc | apply pw_below_drewN | apply below_drew1) | exact Below.refl _ _)))).size); (case aL => have := HL.out; omega); intro v2 w2 hS2 hB2 hg2 hat2; obtain ⟨A2_, c2_, rfl⟩ := Kd.S_slice hS2; have hj_ := (hg2.block go (blk_lt (blk_below HGO.out (below_step (below_step (w := w) (by repeat (first | (with_reducible first | exact Below.refl _ _ | apply below_alloc | apply pw_below_drewN | apply below_drew1) | exact Below.refl _ _)) hb1) (by repeat (first | (with_reducible first | exact Below.refl _ _ | apply below_alloc | apply pw_below_drewN | apply below_drew1) | exact Below.refl _ _))))) HNE.out).trans (blk_below HGO.out (below_step (below_step (w := w) (by repeat (first | (with_reducible first | exact Below.refl _ _ | apply below_alloc | apply pw_below_drewN | apply below_drew1) | exact Below.refl _ _)) hb1) (by repeat (first | (with_reducible first | exact Below.refl _ _ | apply below_alloc | apply pw_below_drewN | apply below_drew1) | exact Below.refl _ _)))); have hk3_ := (blk_cell hj_ 0).trans rfl; have hk4_ := blk_frozen hj_ 0) | fail)
 all_goals
  have hbz := below_step (below_step (w := w) (by repeat (first | (with_reducible first | exact Below.refl _ _ | apply below_alloc | apply pw_below_drewN | apply below_drew1) | exact Below.refl _ _)) hb1) (by repeat (first | (with_reducible first | exact Below.refl _ _ | apply below_alloc | apply pw_below_drewN | apply below_drew1) | exact Below.refl _ _))
  have hgo2 : w2.heap[go]? = some (.cells #[vo] 33 (0, 0)) := (hg2.block go (blk_lt (blk_below HGO.out hbz)) HNE.out).trans (blk_below HGO.out hbz)
  go_wp2
  refine bodyPost_ret (results_none rfl _ _ _) rfl ?_
  simp only [List.length_append, List.length_cons, List.length_nil, Nat.zero_add] at hS2 hat2
  refine ⟨⟨_, rfl⟩, _, blk_set hgo2 0 _, ?_, ?_, ?_, ?_⟩
  ·exact Kd.S_set hS2 hgo2 (by decide) 0 _
  ·exact below_set hB2 HBO.out
  ·exact Kept.setCell (Kept.of_grown hg2 (Kept.of_below hbz _) (fun k hk => .inl (.inr hk.symm))) (p := ⟨go, 0, none⟩) (.inl (.inl rfl)) _
  ·rcases hat2 with h | ⟨b, h, hb⟩
   ·exact .inl h
   ·exact .inr ⟨b, h, Nat.le_trans hbz.size hb⟩
/-! ### setsof2 -/
theorem one_int {w : World} {g : Nat} {q : Int} (h : w.heap[g]? = some (.cells #[.int .i64 q] 3 (0, 0))) : Kd.C (Kd.int .i64) w (some ⟨g, 0, none⟩) 1 [q] := by
 refine ⟨rfl, by omega, fun _ => ⟨⟨g, 0, none⟩, rfl, fun j p hj => ?_⟩⟩
 obtain ⟨hj0, hp⟩ : j = 0 ∧ p = q := by
  cases j with
  | zero => exact ⟨rfl, by simpa using hj.symm⟩
  | succ j => simp at hj
 subst hj0
 subst hp
 refine ⟨[.int .i64 p], rfl, rfl, fun i u hu => ?_⟩
 have hi : i = 0 := by
  have := (List.getElem?_eq_some_iff.1 hu).1
  simp at this
  omega
 subst hi
 have hu' : Value.int .i64 p = u := by simpa using hu
 subst hu'
 have := blk_cell h 0
 simpa [Addr.add] using this
set_option maxHeartbeats 4000000 in
set_option maxRecDepth 100000 in
theorem add_c (w0 : World) (gs go gc ga n cols : Nat) (hn : n ≤ 6) (hcols : cols ≤ 6) (hbo : w0.heap.size ≤ go) : ∀ (d : Nat) (A : Option Addr) (nn c : Nat) (set : List Int) (fr : Nat) (fi : Int) (vo : Value) (rows : List (List Int)) (w : World),
  set.length + d = n → nn = set.length → fr ≤ 7 → fi = (fr : Int) → Below w0.heap.size w0 w → Kd.R (Kd.int .i64) 3 w w0.heap.size (fun _ => True) (.slice A nn c) set →
  Kd.S (Kd.slice 3 (Kd.int .i64)) 25 w w0.heap.size (fun _ => True) vo rows →
  w.heap[gs]? = some (.cells #[.int .i64 n] 3 (0, 0)) → w.heap[go]? = some (.cells #[vo] 33 (0, 0)) → w.heap[gc]? = some (.cells #[.int .i64 cols] 3 (0, 0)) → w.heap[ga]? = some (.cells #[.func (.func 150) #[] #[.pointer (some ⟨gs, 0, none⟩), .pointer (some ⟨go, 0, none⟩), .pointer (some ⟨gc, 0, none⟩), .pointer (some ⟨ga, 0, none⟩)]] 146 (0, 0)) → rows.length + (addV cols d fr set).length ≤ 1000000 →
  Calls Try.prog 150 #[.slice A nn c, .int .i64 fi, .pointer (some ⟨gs, 0, none⟩), .pointer (some ⟨go, 0, none⟩), .pointer (some ⟨gc, 0, none⟩), .pointer (some ⟨ga, 0, none⟩)] w fun e w' => (∃ v, e = .returned v) ∧ ∃ vo', w'.heap[go]? = some (.cells #[vo'] 33 (0, 0)) ∧ Kd.S (Kd.slice 3 (Kd.int .i64)) 25 w' w0.heap.size (fun _ => True) vo' (rows ++ addV cols d fr set) ∧ Below w0.heap.size w0 w' ∧ Kept w w' (fun k => k = go ∨ some k = vo.ownBlock) ∧ (vo'.ownBlock = vo.ownBlock ∨ ∃ b, vo'.ownBlock = some b ∧ w.heap.size ≤ b) := by
 intro d
 induction d with
 | zero =>
  intro A nn c set fr fi vo rows w hlen hnn hfr hfi hB hR hS hgs hgo hgc hga ht
  subst hnn
  subst hfi
  exact add0_c w0 gs go gc ga n cols A c set fr vo rows w (by omega) hn hB hR hS hgs hgo hbo (by simpa [addV] using ht)
 | succ d ih =>
  intro A nn c set fr fi vo rows w hlen hnn hfr hfi hB hR hS hgs hgo hgc hga ht
  subst hnn
  subst hfi
  have hcl : slices_Clone_int_int.f set = some set := by
   unfold slices_Clone_int_int.f
   simp
   omega
  have K := Aside0.mk hcl
  have hin3 : (Try.prog.info? 3).map (fun i => (i.zero, i.size, i.bytes)) = some (some (.int .i64 0), 1, 8) := by kernel_rfl
  have HIN3 := Aside0.mk hin3
  have HGN := Aside0.mk (Kd.S_ne hS hgs)
  have HSR0 := Aside0.mk (Kd.R_mono (ok' := fun k => ¬ (fun k => k = go ∨ some k = vo.ownBlock) k) (Kd.R_tight rfl hR) (fun k hk hp => by
   obtain ⟨cs, hcs⟩ := Kd.R_typed hR k hk.symm
   rcases hp with rfl | hp
   ·rw [hcs] at hgo; simp at hgo
   ·obtain ⟨cs2, hcs2⟩ := Kd.S_typed hS k hp.symm
    rw [hcs] at hcs2; simp at hcs2))
  have HF := Aside0.mk (show ∀ g t (cs : Array Value), w.heap[g]? = some (.cells cs t (0, 0)) → t ≠ 33 → 25 ≠ t → ¬ (fun k => k = go ∨ some k = vo.ownBlock) g from fun g t cs h1 h2 h3 hp => by
   rcases hp with rfl | hp
   ·rw [h1] at hgo; simp at hgo; exact h2 hgo.2
   ·exact Kd.S_ne hS h1 h3 hp)
  have HN := Aside0.mk (And.intro hlen hn)
  have HCO := Aside0.mk (And.intro hcols hfr)
  have GS0 := Aside0.mk hgs
  have GO0 := Aside0.mk hgo
  have GC0 := Aside0.mk hgc
  have GA0 := Aside0.mk hga
  have HS0 := Aside0.mk hS
  have HB0 := Aside0.mk hB
  have HT := Aside0.mk ht
  have HBO := Aside0.mk hbo
  have hcs := (blk_cell hgs 0).trans rfl
  have hne : ¬ set.length = n := by omega
  have eg : ∀ args w, (callFunc 150 args).run Try.prog w = .ok (.enter 150 args) w := by
   intro args w
   have h1 : Try.f150.name ≠ "runtime.NumGoroutine" := by decide
   obtain ⟨c_, hb⟩ : ∃ c_, Try.f150.body = some c_ := ⟨_, rfl⟩
   simp [callFunc, Try.func150, h1, hb, mark]
  clear hcl hin3 hB hR hS hgs hgo hgc hga ht hlen hn hcols hfr hbo HGN
  go_enter Try.func150, Try.ntmps150
  go_wp2
  go_loopg [8] (cols - fr) (fun gg v8 wr => ∃ (q : Nat) (vr : Value), gg = cols - q ∧ v8 = .int .i64 (q : Int) ∧ Aside0 (fr ≤ q ∧ (q ≤ cols ∨ q = fr)) ∧ Aside0 (Kd.S (Kd.slice 3 (Kd.int .i64)) 25 wr w0.heap.size (fun _ => True) vr (rows ++ (List.range' fr (q - fr)).flatMap (fun c => addV cols d (c + 1) (set ++ [(c : Int)])))) ∧ Aside0 (wr.heap[go]? = some (.cells #[vr] 33 (0, 0))) ∧ Aside0 (Below w0.heap.size w0 wr) ∧ Aside0 (Kept w wr (fun k => k = go ∨ some k = vo.ownBlock)) ∧ Aside0 (vr.ownBlock = vo.ownBlock ∨ ∃ b, vr.ownBlock = some b ∧ w.heap.size ≤ b))
  case atStart => exact ⟨fr, vo, rfl, rfl, ⟨Nat.le_refl _, .inr rfl⟩, ⟨by simpa using HS0.out⟩, GO0, HB0, ⟨Kept.refl _ _⟩, ⟨.inl rfl⟩⟩
  case round =>
   clear HS0 HB0 hcs
   obtain ⟨q, vr, hgg, rfl, HQ, HS, GO, HB, HK, HV⟩ := hrel
   have GS := Aside0.mk (blk_kept GS0.out HK.out (HF.out _ _ _ GS0.out (by decide) (by decide)))
   have GC := Aside0.mk (blk_kept GC0.out HK.out (HF.out _ _ _ GC0.out (by decide) (by decide)))
   have GA := Aside0.mk (blk_kept GA0.out HK.out (HF.out _ _ _ GA0.out (by decide) (by decide)))
   have HSR := Aside0.mk (Kd.R_kept HSR0.out HK.out (fun _ h => h))
   have hcc := (blk_cell GC.out 0).trans rfl
   by_cases hlt : q < cols
   ·have hlt' : (q : Int) < (cols : Int) := by omega
    have HLT := Aside0.mk hlt
    have hca := (blk_cell GA.out 0).trans rfl
    have hw1 : IntKind.i64.wrap ((q : Int) + 1) = (q : Int) + 1 := by rw [IntKind.wrap_i64]; have := HCO.out; omega
    have hq1 : q + 1 - fr = (q - fr) + 1 := by have := HQ.out; omega
    have HSP := Aside0.mk (show (List.range' fr (q + 1 - fr)).flatMap (fun c => addV cols d (c + 1) (set ++ [(c : Int)])) = (List.range' fr (q - fr)).flatMap (fun c => addV cols d (c + 1) (set ++ [(c : Int)])) ++ addV cols d (q + 1) (set ++ [(q : Int)]) by
     rw [hq1, List.range'_concat, List.flatMap_append, show fr + 1 * (q - fr) = q by have := HQ.out; omega]
     simp)
    have HTOT := Aside0.mk (show (rows ++ (List.range' fr (q - fr)).flatMap (fun c => addV cols d (c + 1) (set ++ [(c : Int)]))).length + (addV cols d (q + 1) (set ++ [(q : Int)])).length ≤ 1000000 by
     have h1 := HT.out
     have h2 : addV cols (d + 1) fr set = (List.range' fr (cols - fr)).flatMap (fun c => addV cols d (c + 1) (set ++ [(c : Int)])) := rfl
     have h3 : List.range' fr (cols - fr) = List.range' fr (q + 1 - fr) ++ List.range' (q + 1) (cols - (q + 1)) := by
      have := HQ.out
      rw [show cols - fr = (q + 1 - fr) + (cols - (q + 1)) by omega, ← List.range'_append]
      congr 2
      omega
     rw [h2, h3, List.flatMap_append, List.length_append, HSP.out, List.length_append] at h1
     rw [List.length_append]
     omega)
    have HGANE := Aside0.mk (show ¬ (fun k => k = go ∨ some k = vr.ownBlock) ga from fun hp => by
     rcases hp with hp | hp
     ·have h1 := GA.out; rw [hp, GO.out] at h1; simp at h1
     ·exact Kd.S_ne HS.out GA.out (by decide) hp)
    clear hlt hq1
    go_wp2_with fail
    go_region_held3 (fun w' => w'.cell? ⟨ga, 0, none⟩ = some (.func (.func 150) #[] #[.pointer (some ⟨gs, 0, none⟩), .pointer (some ⟨go, 0, none⟩), .pointer (some ⟨gc, 0, none⟩), .pointer (some ⟨ga, 0, none⟩)])) (first | assumption | go_keep | fail) (first | (go_at_call 102; (refine (slices_Clone_int_int.calls A c set set _ (Kd.C_below (Kd.R_reads' HSR.out).2.2 (by repeat (first | (with_reducible first | exact Below.refl _ _ | apply below_alloc | apply pw_below_drewN | apply below_drew1) | exact Below.refl _ _))) (Kd.R_reads' HSR.out).2.1 K.out).mono ?_); rintro e w1_ ⟨v1_, rfl, ho1, hb1⟩; obtain ⟨Ac_, cc_, rfl⟩ := Kd.R_slice ho1; have hk1_ := (blk_cell (blk_below GA.out (below_step (w := wr) (by repeat (first | (with_reducible first | exact Below.refl _ _ | apply below_alloc | apply pw_below_drewN | apply below_drew1) | exact Below.refl _ _)) hb1)) 0).trans rfl) | (refine Kd.R_append_rows_step (Kd.int .i64) (w0 := wr) wr.heap.size (by rfl) _ _ 25 3 (.int .i64 0) 8 (by rfl) Try.underlying25 HIN3.out rfl (by decide) (by omega) (.slice Ac_ set.length cc_) set [(q : Int)] _ _ _ (fun _ => True) (fun _ => False) (by rfl) (by rfl) ?aO ?aR (fun _ _ h => h) (fun _ h => h.elim) (fun _ _ => trivial) ?aB ?aS ?aL ?_; (case aO => exact Kd.R_lower (Kd.R_below ho1 (by repeat (first | (with_reducible first | exact Below.refl _ _ | apply below_alloc | apply pw_below_drewN | apply below_drew1) | exact Below.refl _ _))) (show Below wr.heap.size wr _ from (by repeat (first | (with_reducible first | exact Below.refl _ _ | apply below_alloc | apply pw_below_drewN | apply below_drew1) | exact Below.refl _ _))).size); (case aR => exact one_int (by repeat (first | exact blk_new _ _ | refine blk_below ?_ hb1 | refine blk_drewN ?_ _))); (case aB => exact (below_step (below_step (w := wr) (by repeat (first | (with_reducible first | exact Below.refl _ _ | apply below_alloc | apply pw_below_drewN | apply below_drew1) | exact Below.refl _ _)) hb1) (by repeat (first | (with_reducible first | exact Below.refl _ _ | apply below_alloc | apply pw_below_drewN | apply below_drew1) | exact Below.refl _ _)))); (case aS => exact ((below_step (below_step (w := wr) (by repeat (first | (with_reducible first | exact Below.refl _ _ | apply below_alloc | apply pw_below_drewN | apply below_drew1) | exact Below.refl _ _)) hb1) (by repeat (first | (with_reducible first | exact Below.refl _ _ | apply below_alloc | apply pw_below_drewN | apply below_drew1) | exact Below.refl _ _)))).size); (case aL => have := HN.out; simp; omega); intro v2 w2 hR2 hB2 hg2 hat2; obtain ⟨A2_, c2_, rfl⟩ := Kd.R_slice hR2; simp only [List.length_append, List.length_cons, List.length_nil, Nat.zero_add] at hR2; have hk2_ := (blk_cell (blk_below GA.out hB2) 0).trans rfl) | (go_at_call 150; (refine (ih A2_ _ c2_ (set ++ [(q : Int)]) (q + 1) _ vr (rows ++ (List.range' fr (q - fr)).flatMap (fun c => addV cols d (c + 1) (set ++ [(c : Int)]))) _ ?bl ?bn ?bf ?bq ?bB ?bR ?bS ?bs ?bo ?bc ?ba ?bt).mono ?_); (case bl => have := HN.out; simp; omega); (case bn => simp); (case bf => have := HCO.out; have := HLT.out; omega); (case bq => push_cast; rfl); (case bB => exact below_step HB.out (below_step hB2 (by repeat (first | (with_reducible first | exact Below.refl _ _ | apply below_alloc | apply pw_below_drewN | apply below_drew1) | exact Below.refl _ _)))); (case bR => exact Kd.R_mono (Kd.R_lower (Kd.R_below hR2 (by repeat (first | (with_reducible first | exact Below.refl _ _ | apply below_alloc | apply pw_below_drewN | apply below_drew1) | exact Below.refl _ _))) HB.out.size) (fun _ _ => trivial)); (case bS => exact Kd.S_below HS.out (below_step hB2 (by repeat (first | (with_reducible first | exact Below.refl _ _ | apply below_alloc | apply pw_below_drewN | apply below_drew1) | exact Below.refl _ _)))); (case bs => exact blk_below GS.out (below_step hB2 (by repeat (first | (with_reducible first | exact Below.refl _ _ | apply below_alloc | apply pw_below_drewN | apply below_drew1) | exact Below.refl _ _)))); (case bo => exact blk_below GO.out (below_step hB2 (by repeat (first | (with_reducible first | exact Below.refl _ _ | apply below_alloc | apply pw_below_drewN | apply below_drew1) | exact Below.refl _ _)))); (case bc => exact blk_below GC.out (below_step hB2 (by repeat (first | (with_reducible first | exact Below.refl _ _ | apply below_alloc | apply pw_below_drewN | apply below_drew1) | exact Below.refl _ _)))); (case ba => exact blk_below GA.out (below_step hB2 (by repeat (first | (with_reducible first | exact Below.refl _ _ | apply below_alloc | apply pw_below_drewN | apply below_drew1) | exact Below.refl _ _)))); (case bt => exact HTOT.out); rintro e w3 ⟨⟨u3, rfl⟩, vo3, hgo3, hS3, hB3, hk3, hat3⟩; have hk3_ := cell_kept (hk2_) hk3 HGANE.out))
    all_goals (go_wp2_with fail)
    all_goals (go_roundg (cols - (q + 1)))
    all_goals (first | (case measure => have := HLT.out; rw [hgg]; omega) | skip)
    all_goals
     have hb9 := below_step (w := wr) hB2 (by repeat (first | (with_reducible first | exact Below.refl _ _ | apply below_alloc | apply pw_below_drewN | apply below_drew1) | exact Below.refl _ _))
     refine ⟨q + 1, vo3, rfl, by push_cast; rfl, ⟨by have := HQ.out; have := HLT.out; omega⟩, ⟨?_⟩, ⟨hgo3⟩, ⟨hB3⟩, ⟨?_⟩, ⟨?_⟩⟩
     ·rw [HSP.out, ← List.append_assoc]; exact hS3
     ·refine Kept.then_ HK.out ((Kept.of_below hb9 _).then_ hk3 (fun _ h => .inl h)) (fun k hk => ?_)
      rcases hk with hk | hk
      ·exact .inl (.inl hk)
      ·rcases HV.out with h | ⟨b, h, hb⟩
       ·exact .inl (.inr (hk.trans h))
       ·rw [h] at hk; injection hk with hk; subst hk; exact .inr hb
     ·rcases hat3 with h | ⟨b, h, hb⟩
      ·rw [h]; exact HV.out
      ·exact .inr ⟨b, h, Nat.le_trans HK.out.1 (Nat.le_trans hb9.size hb)⟩
   ·have hlt' : ¬ (q : Int) < (cols : Int) := by omega
    have hqe : q - fr = cols - fr := by have := HQ.out; omega
    go_wp2
    refine bodyPost_end (results_none rfl _ _ _) rfl ?_
    exact ⟨⟨_, rfl⟩, vr, GO.out, by rw [hqe] at HS; exact HS.out, HB.out, HK.out, HV.out⟩
/-! ### inrange -/
theorem impl_InRange_eq (a b c : Int) : impl_InRange.f a b c = some (decide (b ≤ a ∧ a ≤ c)) := by
 unfold impl_InRange.f
 by_cases h : b ≤ a
 ·rw [if_pos h]
  simp [h]
 ·rw [if_neg h]
  simp [h]
/-! ### setsof3 -/
theorem run_store_func_ {P : Program} {w : World} {a : Addr} {m : Mode} (f : Fn) (t : Array Value) (v : Array Value) : (store a (.func f t v) m).run P w = stored P w a (.func f t v) m := run_store P w a _ m rfl
attribute [local go_sem] run_store_func_
theorem blk_two (w : World) (a b : Obj) : ((w.alloc a).alloc b).heap[w.heap.size + 1]? = some b := by
 have h := blk_new (w.alloc a) b
 rw [show (w.alloc a).heap.size = w.heap.size + 1 from Array.size_push _] at h
 exact h
set_option maxHeartbeats 4000000 in
set_option maxRecDepth 100000 in
theorem impl_SetsOf_c (cols size : Nat) (hc : cols ≤ 6) (hs : size ≤ cols) (hlen : (addV cols size 0 []).length ≤ 1000000) (w : World) :
  Calls Try.prog 85 #[.int .i64 cols, .int .i64 size] w fun e w' => ∃ v, e = .returned v ∧ Kd.S (Kd.slice 3 (Kd.int .i64)) 25 w' w.heap.size (fun _ => True) v (addV cols size 0 []) ∧ Below w.heap.size w w' := by
 have K1 := Aside0.mk (show impl_InRange.f (cols : Int) 0 6 = some true by rw [impl_InRange_eq, decide_eq_true (by omega)])
 have K2 := Aside0.mk (show impl_InRange.f (size : Int) 0 (cols : Int) = some true by rw [impl_InRange_eq, decide_eq_true (by omega)])
 have HC := Aside0.mk (And.intro hc hs)
 have HLEN := Aside0.mk hlen
 clear hlen hc hs
 have eg : ∀ args w, (callFunc 150 args).run Try.prog w = .ok (.enter 150 args) w := by
  intro args w
  have h1 : Try.f150.name ≠ "runtime.NumGoroutine" := by decide
  obtain ⟨c_, hb⟩ : ∃ c_, Try.f150.body = some c_ := ⟨_, rfl⟩
  simp [callFunc, Try.func150, h1, hb, mark]
 go_enter Try.func85, Try.ntmps85
 go_upto_region 3 with (first | (go_at_call 116; (with_reducible refine (impl_InRange.calls (cols : Int) 0 6 true _ K1.out).mono ?_); rintro e w' ⟨rfl, ⟨nd, rfl⟩⟩) | (go_at_call 116; (with_reducible refine (impl_InRange.calls (size : Int) 0 (cols : Int) true _ K2.out).mono ?_); rintro e w' ⟨rfl, ⟨nd, rfl⟩⟩))
 generalize hm : World.drewN _ _ = w1
 have hb0 : Below w.heap.size w w1 := by rw [← hm]; exact (by repeat (first | (with_reducible first | exact Below.refl _ _ | apply below_alloc | apply pw_below_drewN | apply below_drew1) | exact Below.refl _ _))
 have hx0 : w1.heap[w.heap.size]? = some (.cells #[.int .i64 (cols : Int)] 3 (0, 0)) := by rw [← hm]; exact blk_drewN (blk_alloc (blk_new w _) _) _
 have hx1 : w1.heap[w.heap.size + 1]? = some (.cells #[.int .i64 (size : Int)] 3 (0, 0)) := by rw [← hm]; exact blk_drewN (blk_two w _ _) _
 clear hm
 go_upto_region 4 with fail
 generalize hm : World.alloc _ _ = w2
 have hb1 : Below w1.heap.size w1 w2 := by rw [← hm]; exact (by repeat (first | (with_reducible first | exact Below.refl _ _ | apply below_alloc | apply pw_below_drewN | apply below_drew1) | exact Below.refl _ _))
 have hx2 : w2.heap[w1.heap.size]? = some (.cells #[.slice none 0 0] 33 (0, 0)) := by rw [← hm]; exact blk_new _ _
 clear hm
 go_upto_region 5 with fail
 generalize hm : World.alloc _ _ = w3
 have hb2 : Below w2.heap.size w2 w3 := by rw [← hm]; exact (by repeat (first | (with_reducible first | exact Below.refl _ _ | apply below_alloc | apply pw_below_drewN | apply below_drew1) | exact Below.refl _ _))
 have hx3 : w3.heap[w2.heap.size]? = some (.cells #[.nilFunc] 146 (0, 0)) := by rw [← hm]; exact blk_new _ _
 clear hm
 have hf3 := blk_frozen hx3 0
 have hc3 := (blk_cell hx3 0).trans rfl
 go_upto_region 6 with fail
 generalize hm : World.setCell _ _ _ = w4
 have hx3' : w4.heap[w2.heap.size]? = some (.cells #[.func (.func 150) #[] #[.pointer (some ⟨w.heap.size + 1, 0, none⟩), .pointer (some ⟨w1.heap.size, 0, none⟩), .pointer (some ⟨w.heap.size, 0, none⟩), .pointer (some ⟨w2.heap.size, 0, none⟩)]] 146 (0, 0)) := by rw [← hm]; exact blk_set hx3 0 _
 have hk34 : Kept w3 w4 (fun k => k = w2.heap.size) := by rw [← hm]; exact Kept.setCell (S := fun k => k = w2.heap.size) (Kept.refl _ _) (p := ⟨w2.heap.size, 0, none⟩) (.inl rfl) _
 have hbw : Below w.heap.size w w4 := by
  rw [← hm]
  exact below_set (below_step hb0 (below_step hb1 hb2)) (Nat.le_trans hb0.size hb1.size)
 have hl0 := blk_lt hx0
 have hl1 := blk_lt hx1
 have hl2 := blk_lt hx2
 have hx0' := blk_kept (blk_below hx0 (below_step hb1 hb2)) hk34 (by intro h; have := hb1.size; omega)
 have hx1' := blk_kept (blk_below hx1 (below_step hb1 hb2)) hk34 (by intro h; have := hb1.size; omega)
 have hx2' := blk_kept (blk_below hx2 hb2) hk34 (by intro h; omega)
 clear hm hf3 hc3 hb2 hx3 hk34
 have hc4 := (blk_cell hx3' 0).trans rfl
 have hs1 : w.heap.size ≤ w1.heap.size := hb0.size
 go_wp2_with fail
 go_at_call 150; (refine (add_c w (w.heap.size + 1) w1.heap.size w.heap.size w2.heap.size size cols ?an ?ac hs1 size (some ⟨w4.heap.size, 0, none⟩) 0 0 [] 0 0 (.slice none 0 0) [] _ ?bl rfl ?bf rfl ?bB ?bR ?bS ?bs ?bo ?bc ?ba ?bt).mono ?_)
 case an => have := HC.out; omega
 case ac => exact HC.out.1
 case bl => simp
 case bf => omega
 case bB => exact below_step hbw (by repeat (first | (with_reducible first | exact Below.refl _ _ | apply below_alloc | apply pw_below_drewN | apply below_drew1) | exact Below.refl _ _))
 case bR => exact Kd.R_of_own (own_lit w4 w.heap.size 3 .i64 [] hbw.size (by simp)) (fun _ _ => trivial)
 case bS => exact Kd.S_nil _ _ _ _ _
 case bs => exact blk_alloc hx1' _
 case bo => exact blk_alloc hx2' _
 case bc => exact blk_alloc hx0' _
 case ba => exact blk_alloc hx3' _
 case bt => simpa using HLEN.out
 rintro e w5 ⟨⟨u5, rfl⟩, vo5, hgo5, hS5, hB5, hk5, hat5⟩
 obtain ⟨A5, c5, rfl⟩ := Kd.S_slice hS5
 have hc5 := (blk_cell hgo5 0).trans rfl
 have HS5 := Aside0.mk hS5
 have HB5 := Aside0.mk hB5
 clear hS5 hB5 hgo5 hk5 hat5 hx0' hx1' hx2' hx3' hc4 hbw
 go_wp2
 go_ret
 exact ⟨_, rfl, by simpa using HS5.out, HB5.out⟩
/-! ### setsv -/
def frm (s : List Int) : Nat := match s.getLast? with
 | none => 0
 | some x => (x + 1).toNat
def extV (cols : Nat) (s : List Int) : List (List Int) := (List.range' (frm s) (cols - frm s)).map fun (c : Nat) => s ++ [(c : Int)]
def levN (cols : Nat) : Nat → List (List Int) → List (List Int)
 | 0, L => L
 | d + 1, L => levN cols d (L.flatMap (extV cols))
theorem frm_snoc (s : List Int) (c : Nat) : frm (s ++ [(c : Int)]) = c + 1 := by
 simp [frm]
theorem levN_addV (cols : Nat) : ∀ (d : Nat) (L : List (List Int)), levN cols d L = L.flatMap fun s => addV cols d (frm s) s
 | 0, L => by simp [levN, addV]
 | d + 1, L => by
  rw [levN, levN_addV cols d, List.flatMap_assoc]
  refine congrArg (fun f => L.flatMap f) (funext fun s => ?_)
  rw [extV, List.flatMap_map, addV]
  refine congrArg (fun f => (List.range' (frm s) (cols - frm s)).flatMap f) (funext fun c => ?_)
  rw [frm_snoc]
def goodS (cols n : Nat) (s : List Int) : Prop := s.length = n ∧ ∀ x, s.getLast? = some x → 0 ≤ x ∧ x < (cols : Int)
theorem extV_good {cols n : Nat} {s : List Int} (h : goodS cols n s) : ∀ t ∈ extV cols s, goodS cols (n + 1) t := by
 intro t ht
 rw [extV, List.mem_map] at ht
 obtain ⟨c, hc, rfl⟩ := ht
 have hc2 := List.mem_range'_1.1 hc
 refine ⟨by simp [h.1], fun x hx => ?_⟩
 have e : x = (c : Int) := by simpa using hx.symm
 omega
theorem extV_len {cols : Nat} (hc : cols ≤ 6) (s : List Int) : (extV cols s).length ≤ 6 := by
 simp [extV]
 omega
theorem spec_SetsOf_l2 (cols : Nat) (hc : cols ≤ 6) (size n : Int) (out : List (List Int)) (i : Nat) (s : List Int) (hs : out.getD i [] = s) (hi : i < out.length) (hsl : s.length ≤ 6) (hol : out.length ≤ 46656) (R : List (List Int)) : ∀ (d c : Nat) (next : List (List Int)), c + d = cols → next.length + d ≤ 1000000 →
  Ev (fun k => spec_SetsOf.l1 k (cols : Int) size out n (next ++ (List.range' c d).map fun (x : Nat) => s ++ [(x : Int)]) ((i + 1 : Nat) : Int)) R → Ev (fun k => spec_SetsOf.l2 k (cols : Int) size out n next (i : Int) (c : Int)) R := by
 intro d
 induction d with
 | zero =>
  intro c next e hn h
  refine Ev.step (fun k => by rw [spec_SetsOf.l2]) ?_
  refine evNeg (by omega) ?_
  rw [wsucc (by omega)]
  simpa using h
 | succ d ih =>
  intro c next e hn h
  refine Ev.step (fun k => by rw [spec_SetsOf.l2]) ?_
  have hg : rd_L1 out (i : Int) = s := by rw [rd_L1]; simpa using hs
  refine evPos (by omega) (evSome rfl (evPos (by omega) (evPos (by omega) ?_)))
  rw [hg, wsucc (by omega)]
  refine evPos (by simp; omega) (evSome rfl (evPos (by simp; omega) (evPos (by omega) (ih (c + 1) _ (by omega) (by simp; omega) ?_))))
  simpa [List.range'_succ] using h
theorem spec_SetsOf_l1 (cols : Nat) (hc : cols ≤ 6) (size : Int) (n : Nat) (hn : n ≤ 6) (out : List (List Int)) (hol : out.length ≤ 46656) (hg : ∀ s ∈ out, goodS cols n s) (R : List (List Int)) : ∀ (suf pre next : List (List Int)), out = pre ++ suf → next.length + 6 * suf.length ≤ 900000 →
  Ev (fun k => spec_SetsOf.l0 k (cols : Int) size (next ++ suf.flatMap (extV cols)) ((n + 1 : Nat) : Int)) R → Ev (fun k => spec_SetsOf.l1 k (cols : Int) size out (n : Int) next (pre.length : Int)) R := by
 intro suf
 induction suf with
 | nil =>
  intro pre next e hl h
  refine Ev.step (fun k => by rw [spec_SetsOf.l1]) ?_
  refine evNeg (by rw [e]; simp) ?_
  rw [wsucc (by omega)]
  simpa using h
 | cons s suf ih =>
  intro pre next e hl h
  have hel : out.length = pre.length + (suf.length + 1) := by rw [e]; simp
  have hgs := hg s (by rw [e]; simp)
  have hr : rd_L1 out (pre.length : Int) = s := by rw [rd_L1, e, getD_mid]
  simp only [List.length_cons] at hl
  have hnext := ih (pre ++ [s]) (next ++ extV cols s) (by rw [e]; simp) (by have := extV_len hc s; simp; omega) (by simpa using h)
  have key : Ev (fun k => spec_SetsOf.l2 k (cols : Int) size out (n : Int) next (pre.length : Int) (frm s : Int)) R := by
   by_cases hf : frm s ≤ cols
   ·refine spec_SetsOf_l2 cols hc size n out pre.length s (by rw [e]; simp) (by omega) (by rw [hgs.1]; omega) hol R (cols - frm s) (frm s) next (by omega) (by omega) ?_
    simpa [extV] using hnext
   ·exfalso
    apply hf
    unfold frm
    cases hs : s.getLast? with
    | none => simp
    | some x =>
     have := hgs.2 x hs
     simp only
     omega
  refine Ev.step (fun k => by rw [spec_SetsOf.l1]) ?_
  refine evPos (by omega) (evPos (by omega) ?_)
  rw [hr]
  by_cases h0 : s = []
  ·subst h0
   refine evNeg (by simp) (Ev.step (fun k => by rw [spec_SetsOf.j3]) ?_)
   simpa [frm] using key
  ·obtain ⟨s', x, rfl⟩ : ∃ s' x, s = s' ++ [x] := ⟨s.dropLast, s.getLast h0, (List.dropLast_concat_getLast h0).symm⟩
   have hx := hgs.2 x (by simp)
   have hll : ((s' ++ [x]).length : Int) - 1 = (s'.length : Int) := by simp
   have hsl : s'.length ≤ 6 := by have := hgs.1; simp at this; omega
   rw [hll, w64 (by omega) (by omega)]
   have hrd : rd (s' ++ [x]) (s'.length : Int) = x := rd_mid s' [] x
   rw [hrd, w64 (by omega) (by omega)]
   have hfx : ((frm (s' ++ [x]) : Nat) : Int) = x + 1 := by simp [frm]; omega
   rw [hfx] at key
   refine evPos (by simp) (evPos (by omega) (evPos (by simp; omega) (Ev.step (fun k => by rw [spec_SetsOf.j3]) ?_)))
   exact key
theorem spec_SetsOf_l0 (cols : Nat) (hc : cols ≤ 6) (size : Nat) (hs : size ≤ 6) : ∀ (d n : Nat) (out : List (List Int)), n + d = size → out.length ≤ 6 ^ n → (∀ s ∈ out, goodS cols n s) →
  Ev (fun k => spec_SetsOf.l0 k (cols : Int) (size : Int) out (n : Int)) (levN cols d out) := by
 intro d
 induction d with
 | zero =>
  intro n out e hl hg
  refine Ev.step (fun k => by rw [spec_SetsOf.l0]) ?_
  exact evNeg (by omega) (Ev.now _)
 | succ d ih =>
  intro n out e hl hg
  have hl2 : out.length ≤ 46656 := Nat.le_trans hl (Nat.le_trans (Nat.pow_le_pow_right (by omega) (show n ≤ 6 by omega)) (by decide))
  refine Ev.step (fun k => by rw [spec_SetsOf.l0]) ?_
  refine evPos (by omega) ?_
  have h := spec_SetsOf_l1 cols hc (size : Int) n (by omega) out hl2 hg (levN cols d (out.flatMap (extV cols))) out [] [] rfl (by simp; omega) (by
   have h0 := ih (n + 1) (out.flatMap (extV cols)) (by omega) ?_ ?_
   ·exact h0
   ·have h1 := flat_len (extV cols) 6 out (fun s _ => extV_len hc s)
    rw [Nat.pow_succ]
    have h2 := Nat.mul_le_mul_right 6 hl
    omega
   ·intro t ht
    rw [List.mem_flatMap] at ht
    obtain ⟨s, hs1, hs2⟩ := ht
    exact extV_good (hg s hs1) t hs2)
  simpa [levN] using h
theorem spec_SetsOf_ev (cols size : Nat) (hc : cols ≤ 6) (hs : size ≤ cols) : Ev (fun k => spec_SetsOf.f k (cols : Int) (size : Int)) (addV cols size 0 []) := by
 unfold spec_SetsOf.f
 refine evSome rfl (evSome (spec_l1In_eq _ _ _) ?_)
 refine evPos (by simpa using (show 0 ≤ (cols : Int) ∧ (cols : Int) ≤ 6 by omega)) (evSome (spec_l1In_eq _ _ _) ?_)
 rw [decide_eq_true (show 0 ≤ (size : Int) ∧ (size : Int) ≤ (cols : Int) by omega)]
 refine Ev.step (fun k => by rw [spec_SetsOf.j0]) ?_
 refine evNeg (by decide) (evPos (by simp) ?_)
 have h := spec_SetsOf_l0 cols hc size (by omega) size 0 [[]] (by omega) (by simp) (by intro s hs; rw [List.mem_singleton] at hs; subst hs; exact ⟨rfl, fun x hx => by simp at hx⟩)
 rw [levN_addV] at h
 simpa [frm] using h
/-! ### allin -/
theorem impl_allIn_l0 (lo hi : Int) : ∀ (suf pre : List Int), (pre ++ suf).length ≤ 1048576 →
  Ev (fun k => impl_allIn.l0 k lo hi (pre ++ suf) ((pre ++ suf).length : Int) (pre.length : Int)) (suf.all fun x => decide (lo ≤ x ∧ x ≤ hi)) := by
 intro suf
 induction suf with
 | nil =>
  intro pre hb
  refine Ev.step (fun k => by rw [impl_allIn.l0]) ?_
  exact evNeg (by simp) (Ev.now _)
 | cons x suf ih =>
  intro pre hb
  simp only [List.length_append, List.length_cons] at hb
  refine Ev.step (fun k => by rw [impl_allIn.l0]) ?_
  refine evPos (by simp only [List.length_append, List.length_cons]; omega) (evPos (by omega) (evPos (by simp only [List.length_append, List.length_cons]; omega) ?_))
  rw [rd_mid, wsucc (by omega)]
  refine evSome (impl_InRange_eq _ _ _) ?_
  by_cases hx : lo ≤ x ∧ x ≤ hi
  ·refine evPos (by simp [hx]) ?_
   have h := ih (pre ++ [x]) (by simp; omega)
   refine evEq ?_ (Ev.congr (fun k => ?_) h)
   ·simp [hx]
   ·simp
  ·refine evNeg (by simpa using hx) (evEq ?_ (Ev.now _))
   simp [hx]
theorem impl_allIn_ev (l : List Int) (lo hi : Int) (hl : l.length ≤ 1048576) : Ev (fun k => impl_allIn.f k l lo hi) (l.all fun x => decide (lo ≤ x ∧ x ≤ hi)) := by
 have h := impl_allIn_l0 lo hi l [] (by simpa using hl)
 simpa [impl_allIn.f] using h
/-! ### matrix -/
def cellR (v : Int) : Bool := decide (-2 ≤ v ∧ v ≤ 2)
def matB (m : List (List Int)) (c : Int) : Bool := decide (1 ≤ c ∧ c ≤ 6) && (decide (m.length ≤ 12) && m.all fun r => decide ((r.length : Int) = c) && r.all cellR)
theorem impl_IsMatrix_l0 (c : Int) : ∀ (suf pre : List (List Int)), (pre ++ suf).length ≤ 12 → (∀ r ∈ suf, r.length ≤ 1048576) →
  Ev (fun k => impl_IsMatrix.l0 k c (pre ++ suf) ((pre ++ suf).length : Int) (pre.length : Int)) (suf.all fun r => decide ((r.length : Int) = c) && r.all cellR) := by
 intro suf
 induction suf with
 | nil =>
  intro pre hb hr
  refine Ev.step (fun k => by rw [impl_IsMatrix.l0]) ?_
  exact evNeg (by simp) (Ev.now _)
 | cons x suf ih =>
  intro pre hb hr
  simp only [List.length_append, List.length_cons] at hb
  refine Ev.step (fun k => by rw [impl_IsMatrix.l0]) ?_
  refine evPos (by simp only [List.length_append, List.length_cons]; omega) (evPos (by omega) (evPos (by simp only [List.length_append, List.length_cons]; omega) ?_))
  rw [rd_L1, getD_mid, wsucc (by omega)]
  have h := ih (pre ++ [x]) (by simp; omega) (fun r h => hr r (by simp [h]))
  have h' : Ev (fun k => impl_IsMatrix.l0 k c (pre ++ x :: suf) ((pre ++ x :: suf).length : Int) ((pre.length + 1 : Nat) : Int)) (suf.all fun r => decide ((r.length : Int) = c) && r.all cellR) := by simpa using h
  by_cases hx : (x.length : Int) = c
  ·refine evPos hx (Ev.bind (impl_allIn_ev x (-2) 2 (hr x (by simp))) ?_)
   have ea : (x.all fun v => decide (-2 ≤ v ∧ v ≤ 2)) = x.all cellR := rfl
   rw [ea]
   by_cases ha : x.all cellR = true
   ·refine evPos ha (evEq ?_ h')
    simp only [List.all_cons, decide_eq_true hx, ha, Bool.true_and]
   ·have ha' : x.all cellR = false := by simpa using ha
    refine evNeg ha (evEq ?_ (Ev.now _))
    simp only [List.all_cons, ha', Bool.and_false, Bool.false_and]
  ·refine evNeg hx (evEq ?_ (Ev.now _))
   simp only [List.all_cons, decide_eq_false hx, Bool.false_and]
theorem impl_IsMatrix_ev (m : List (List Int)) (c : Int) (hr : ∀ r ∈ m, r.length ≤ 1048576) : Ev (fun k => impl_IsMatrix.f k m c) (matB m c) := by
 unfold impl_IsMatrix.f
 refine evSome (impl_InRange_eq _ _ _) ?_
 by_cases h1 : 1 ≤ c ∧ c ≤ 6
 ·refine evPos (by simpa using h1) (Ev.step (fun k => by rw [impl_IsMatrix.j0]) ?_)
  by_cases h2 : m.length ≤ 12
  ·refine evNeg (by simp; omega) (evEq ?_ (impl_IsMatrix_l0 c m [] (by simpa using h2) hr))
   simp only [matB, decide_eq_true h1, decide_eq_true h2, Bool.true_and]
  ·refine evPos (by simp; omega) (evEq ?_ (Ev.now _))
   simp only [matB, decide_eq_false h2, Bool.and_false, Bool.false_and]
 ·refine evNeg (by simpa using h1) (Ev.step (fun k => by rw [impl_IsMatrix.j0]) (evPos rfl (evEq ?_ (Ev.now _))))
  simp only [matB, decide_eq_false h1, Bool.false_and]
/-! ### smatrix -/
theorem spec_IsMatrix_l1 (pre suf : List (List Int)) (row : List Int) (R : Bool) (hb : (pre ++ row :: suf).length ≤ 12) (hr : row.length ≤ 6)
  (hk : Ev (fun k => spec_IsMatrix.l0 k (pre ++ row :: suf) (row.length : Int) ((pre.length + 1 : Nat) : Int)) R) : ∀ (rs rp : List Int), row = rp ++ rs →
  Ev (fun k => spec_IsMatrix.l1 k (pre ++ row :: suf) (row.length : Int) (pre.length : Int) (rp.length : Int)) (rs.all cellR && R) := by
 intro rs
 simp only [List.length_append, List.length_cons] at hb
 induction rs with
 | nil =>
  intro rp e
  have hl : row.length = rp.length := by rw [e]; simp
  refine Ev.step (fun k => by rw [spec_IsMatrix.l1]) ?_
  refine evNeg (by omega) ?_
  rw [wsucc (by omega)]
  simpa using hk
 | cons v vs ih =>
  intro rp e
  have hl : row.length = rp.length + (vs.length + 1) := by rw [e]; simp
  have ev : rd row (rp.length : Int) = v := by rw [e, rd_mid]
  refine Ev.step (fun k => by rw [spec_IsMatrix.l1]) ?_
  simp only [rd_L1, getD_mid]
  refine evPos (by omega) (evPos (by omega) (evPos (by simp only [List.length_append, List.length_cons]; omega) (evPos (by omega) (evPos (by omega) ?_))))
  rw [ev, wsucc (by omega)]
  refine evSome (spec_l1In_eq _ _ _) ?_
  have h := ih (rp ++ [v]) (by simp [e])
  have h' : Ev (fun k => spec_IsMatrix.l1 k (pre ++ row :: suf) (row.length : Int) (pre.length : Int) ((rp.length + 1 : Nat) : Int)) (vs.all cellR && R) := by simpa using h
  by_cases hv : -2 ≤ v ∧ v ≤ 2
  ·refine evPos (by simpa using hv) (evEq ?_ h')
   simp only [List.all_cons, show cellR v = true from decide_eq_true hv, Bool.true_and]
  ·refine evNeg (by simpa using hv) (evEq ?_ (Ev.now _))
   simp only [List.all_cons, show cellR v = false from decide_eq_false hv, Bool.false_and]
theorem spec_IsMatrix_l0 (c : Int) (hc : 1 ≤ c ∧ c ≤ 6) : ∀ (suf pre : List (List Int)), (pre ++ suf).length ≤ 12 →
  Ev (fun k => spec_IsMatrix.l0 k (pre ++ suf) c (pre.length : Int)) (suf.all fun r => decide ((r.length : Int) = c) && r.all cellR) := by
 intro suf
 induction suf with
 | nil =>
  intro pre hb
  refine Ev.step (fun k => by rw [spec_IsMatrix.l0]) ?_
  exact evNeg (by simp) (Ev.now _)
 | cons x suf ih =>
  intro pre hb
  have hb' := hb
  simp only [List.length_append, List.length_cons] at hb'
  refine Ev.step (fun k => by rw [spec_IsMatrix.l0]) ?_
  refine evPos (by simp only [List.length_append, List.length_cons]; omega) (evPos (by omega) ?_)
  have e : rd_L1 (pre ++ x :: suf) (pre.length : Int) = x := by rw [rd_L1, getD_mid]
  rw [e]
  by_cases hx : (x.length : Int) = c
  ·refine evPos hx ?_
   subst hx
   have h := ih (pre ++ [x]) (by simpa using hb)
   have h' : Ev (fun k => spec_IsMatrix.l0 k (pre ++ x :: suf) (x.length : Int) ((pre.length + 1 : Nat) : Int)) (suf.all fun r => decide ((r.length : Int) = (x.length : Int)) && r.all cellR) := by simpa using h
   refine evEq ?_ (spec_IsMatrix_l1 pre suf x _ hb (by omega) h' x [] rfl)
   simp only [List.all_cons, decide_true, Bool.true_and]
  ·refine evNeg hx (evEq ?_ (Ev.now _))
   simp only [List.all_cons, decide_eq_false hx, Bool.false_and]
theorem spec_IsMatrix_ev (m : List (List Int)) (c : Int) : Ev (fun k => spec_IsMatrix.f k m c) (matB m c) := by
 unfold spec_IsMatrix.f
 refine evSome (spec_l1In_eq _ _ _) ?_
 by_cases h1 : 1 ≤ c ∧ c ≤ 6
 ·refine evPos (by simpa using h1) (Ev.step (fun k => by rw [spec_IsMatrix.j0]) ?_)
  by_cases h2 : m.length ≤ 12
  ·refine evNeg (by simp; omega) (evEq ?_ (spec_IsMatrix_l0 c h1 m [] (by simpa using h2)))
   simp only [matB, decide_eq_true h1, decide_eq_true h2, Bool.true_and]
  ·refine evPos (by simp; omega) (evEq ?_ (Ev.now _))
   simp only [matB, decide_eq_false h2, Bool.and_false, Bool.false_and]
 ·refine evNeg (by simpa using h1) (Ev.step (fun k => by rw [spec_IsMatrix.j0]) (evPos rfl (evEq ?_ (Ev.now _))))
  simp only [matB, decide_eq_false h1, Bool.false_and]
/-! ### system -/
def sysB (m : List (List Int)) (v : List Int) (c : Int) : Bool := matB m c && (decide (v.length = m.length) && v.all fun x => decide (-1000 ≤ x ∧ x ≤ 1000))
theorem impl_IsSystem_ev (m : List (List Int)) (v : List Int) (c : Int) (hr : ∀ r ∈ m, r.length ≤ 1048576) (hv : v.length ≤ 1048576) : Ev (fun k => impl_IsSystem.f k m v c) (sysB m v c) := by
 unfold impl_IsSystem.f
 refine Ev.bind (impl_IsMatrix_ev m c hr) ?_
 by_cases h1 : matB m c = true
 ·refine evPos h1 ?_
  by_cases h2 : v.length = m.length
  ·refine evPos (by omega) (Ev.bind (impl_allIn_ev v (-1000) 1000 hv) (evEq ?_ (Ev.now _)))
   simp only [sysB, h1, decide_eq_true h2, Bool.true_and]
  ·refine evNeg (by omega) (evEq ?_ (Ev.now _))
   simp only [sysB, decide_eq_false h2, Bool.and_false, Bool.false_and]
 ·have h1' : matB m c = false := by simpa using h1
  refine evNeg h1 (evEq ?_ (Ev.now _))
  simp only [sysB, h1', Bool.false_and]
theorem spec_IsSystem_l0 (m : List (List Int)) (c : Int) : ∀ (suf pre : List Int), (pre ++ suf).length ≤ 1048576 →
  Ev (fun k => spec_IsSystem.l0 k m (pre ++ suf) c (pre.length : Int)) (matB m c && (decide ((pre ++ suf).length = m.length) && suf.all fun x => decide (-1000 ≤ x ∧ x ≤ 1000))) := by
 intro suf
 induction suf with
 | nil =>
  intro pre hb
  refine Ev.step (fun k => by rw [spec_IsSystem.l0]) ?_
  refine evNeg (by simp) (Ev.bind (spec_IsMatrix_ev m c) ?_)
  by_cases h1 : matB m c = true
  ·refine evPos h1 (evEq ?_ (Ev.now _))
   rw [h1]
   simp only [Bool.true_and, List.all_nil, Bool.and_true]
   by_cases h2 : (pre ++ []).length = m.length
   ·rw [decide_eq_true h2, h2]
    simp
   ·rw [decide_eq_false h2, beq_eq_false_iff_ne]
    omega
  ·have h1' : matB m c = false := by simpa using h1
   refine evNeg h1 (evEq ?_ (Ev.now _))
   rw [h1', Bool.false_and]
 | cons x suf ih =>
  intro pre hb
  have hb' := hb
  simp only [List.length_append, List.length_cons] at hb'
  refine Ev.step (fun k => by rw [spec_IsSystem.l0]) ?_
  refine evPos (by simp only [List.length_append, List.length_cons]; omega) (evPos (by omega) ?_)
  rw [rd_mid, wsucc (by omega)]
  refine evSome (spec_l1In_eq _ _ _) ?_
  by_cases hx : -1000 ≤ x ∧ x ≤ 1000
  ·have h := ih (pre ++ [x]) (by simpa using hb)
   refine evPos (by simpa using hx) (evEq ?_ (Ev.congr (fun k => ?_) h))
   ·simp only [List.all_cons, decide_eq_true hx, Bool.true_and]
    simp
   ·simp
  ·refine evNeg (by simpa using hx) (evEq ?_ (Ev.now _))
   simp only [List.all_cons, decide_eq_false hx, Bool.false_and, Bool.and_false]
theorem spec_IsSystem_ev (m : List (List Int)) (v : List Int) (c : Int) (hv : v.length ≤ 1048576) : Ev (fun k => spec_IsSystem.f k m v c) (sysB m v c) := by
 unfold spec_IsSystem.f
 exact spec_IsSystem_l0 m c v [] (by simpa using hv)
/-! ### linalg -/
/-! ### redi -/
/-! ### specred -/
theorem rd_vec (r : List Int) (j : Nat) : rd r (j : Int) = vec r j := by simp [rd, vec]
theorem spec_Max_abs (a : Int) (h : a.natAbs ≤ 9223372036854775807) : spec_Max.f a (wrap64 (-a)) = some ((a.natAbs : Nat) : Int) := by
 unfold spec_Max.f
 rw [w64 (by omega) (by omega)]
 by_cases h0 : -a > a
 ·rw [if_pos h0]; congr 1; omega
 ·rw [if_neg h0]; congr 1; omega
theorem spec_l4Gcd_l0 : ∀ (n b a : Nat), b ≤ n → Ev (fun k => spec_l4Gcd.l0 k (a : Int) (b : Int)) ((Nat.gcd a b : Nat) : Int) := by
 intro n
 induction n with
 | zero =>
  intro b a hb
  obtain rfl : b = 0 := by omega
  refine Ev.step (fun k => by rw [spec_l4Gcd.l0]) ?_
  exact evNeg (by simp) (evEq (by simp) (Ev.now _))
 | succ n ih =>
  intro b a hb
  refine Ev.step (fun k => by rw [spec_l4Gcd.l0]) ?_
  by_cases h0 : b = 0
  ·subst h0
   exact evNeg (by simp) (evEq (by simp) (Ev.now _))
  ·refine evPos (by omega) (evNeg (by omega) ?_)
   rw [Int.tmod_eq_emod_of_nonneg (by omega), show (a : Int) % (b : Int) = ((a % b : Nat) : Int) by omega]
   have h := ih (a % b) b (by have := Nat.mod_lt a (by omega : b > 0); omega)
   refine evEq ?_ h
   rw [Nat.gcd_comm a b, Nat.gcd_rec b a, Nat.gcd_comm]
theorem spec_l4Gcd_ev (a b : Int) (ha : a.natAbs ≤ 9223372036854775807) (hb : b.natAbs ≤ 9223372036854775807) : Ev (fun k => spec_l4Gcd.f k a b) ((Int.gcd a b : Nat) : Int) := by
 unfold spec_l4Gcd.f
 exact evSome (spec_Max_abs a ha) (evSome (spec_Max_abs b hb) (spec_l4Gcd_l0 _ _ _ (Nat.le_refl _)))
theorem gcdL_le_of (a b : Int) (M : Nat) (ha : a.natAbs ≤ M) (hb : b.natAbs ≤ M) : Int.gcd a b ≤ M := by
 by_cases h : b = 0
 ·subst h; simpa using ha
 ·exact Nat.le_trans (Nat.le_of_dvd (by omega) (Nat.gcd_dvd_right a.natAbs b.natAbs)) hb
theorem gcdL_le (M : Nat) : ∀ (r : List Int) (g : Int), g.natAbs ≤ M → (∀ x ∈ r, x.natAbs ≤ M) → (gcdF g r).natAbs ≤ M
 | [], g, h, _ => h
 | x :: r, g, h, hr => gcdL_le M r _ (by
   have := gcdL_le_of g x M h (hr x (by simp))
   simpa using this) (fun y hy => hr y (by simp [hy]))
theorem gcdL_append (g : Int) (r : List Int) (x : Int) : gcdF g (r ++ [x]) = ((Int.gcd (gcdF g r) x : Nat) : Int) := by simp [gcdF, List.foldl_append]
theorem spec_l5Lead_l0 : ∀ (suf pre : List Int), (pre ++ suf).length ≤ 1048576 → (∀ x ∈ pre, x = 0) →
  Ev (fun k => spec_l5Lead.l0 k (pre ++ suf) (pre.length : Int)) ((leadL (pre ++ suf) : Nat) : Int) := by
 intro suf
 induction suf with
 | nil =>
  intro pre hb hz
  refine Ev.step (fun k => by rw [spec_l5Lead.l0]) ?_
  refine evNeg (by simp) (evEq ?_ (Ev.now _))
  rw [leadL_zero]
  intro j
  rcases vec_mem (pre ++ []) j with h | h
  ·exact h
  ·exact hz _ (by simpa using h)
 | cons x suf ih =>
  intro pre hb hz
  simp only [List.length_append, List.length_cons] at hb
  refine Ev.step (fun k => by rw [spec_l5Lead.l0]) ?_
  refine evPos (by simp only [List.length_append, List.length_cons]; omega) (evPos (by omega) ?_)
  rw [rd_mid, wsucc (by omega)]
  by_cases hx : x = 0
  ·refine evPos hx ?_
   have h := ih (pre ++ [x]) (by simp; omega) (fun y hy => by
    rcases List.mem_append.1 hy with hy | hy
    ·exact hz y hy
    ·rw [List.mem_singleton.1 hy]; exact hx)
   refine evEq ?_ (Ev.congr (fun k => ?_) h)
   ·simp
   ·simp
  ·refine evNeg hx (evEq ?_ (Ev.now _))
   rw [leadL_eq (pre ++ x :: suf) pre.length (by simp) ?_ ?_]
   ·intro j hj
    rw [vec_of_lt _ _ (by simp; omega), List.getElem_append_left hj]
    exact hz _ (List.getElem_mem _)
   ·rw [vec_of_lt _ _ (by simp)]
    simpa using hx
theorem spec_l5Lead_ev (r : List Int) (h : r.length ≤ 1048576) : Ev (fun k => spec_l5Lead.f k r) ((leadL r : Nat) : Int) := by
 unfold spec_l5Lead.f
 have := spec_l5Lead_l0 r [] (by simpa using h) (by simp)
 simpa using this
theorem spec_l5Tidy_l1 (s : Int) (hs : s ≠ 0) : ∀ (suf pre : List Int), (pre ++ suf).length ≤ 1048576 → (∀ x ∈ suf, x.natAbs ≤ 4611686018427387904) →
  Ev (fun k => spec_l5Tidy.l1 k s (pre ++ suf) (pre.length : Int)) (pre ++ suf.map fun x => Int.tdiv x s) := by
 intro suf
 induction suf with
 | nil =>
  intro pre hb hz
  refine Ev.step (fun k => by rw [spec_l5Tidy.l1]) ?_
  exact evNeg (by simp) (evEq (by simp) (Ev.now _))
 | cons x suf ih =>
  intro pre hb hz
  simp only [List.length_append, List.length_cons] at hb
  refine Ev.step (fun k => by rw [spec_l5Tidy.l1]) ?_
  refine evPos (by simp only [List.length_append, List.length_cons]; omega) (evPos (by omega) (evNeg hs ?_))
  have hx := hz x (by simp)
  have hd := tdiv_le x s
  rw [rd_mid, wsucc (by omega), set_mid, w64 (n := Int.tdiv x s) (by omega) (by omega)]
  have h := ih (pre ++ [Int.tdiv x s]) (by simp; omega) (fun y hy => hz y (by simp [hy]))
  refine evEq ?_ (Ev.congr (fun k => ?_) h)
  ·simp
  ·simp
theorem spec_l5Tidy_l0 (r : List Int) (hl : r.length ≤ 1048576) (hb : bound62 r) : ∀ (suf pre : List Int), r = pre ++ suf →
  Ev (fun k => spec_l5Tidy.l0 k r (gcdF 0 pre) (pre.length : Int)) (tidyL r) := by
 intro suf
 induction suf with
 | nil =>
  intro pre e
  have e0 : pre = r := by simpa using e.symm
  subst e0
  refine Ev.step (fun k => by rw [spec_l5Tidy.l0]) ?_
  refine evNeg (by omega) ?_
  refine evSome rfl (evPos (by simp; omega) (evSome rfl (Ev.bind (spec_l5Lead_ev pre hl) ?_)))
  by_cases hz : leadL pre = pre.length
  ·refine evPos (by omega) (evEq ?_ (Ev.now _))
   unfold tidyL
   rw [if_pos hz]; simp
  ·have hlt : leadL pre < pre.length := Nat.lt_of_le_of_ne List.findIdx_le_length hz
   have hp := gcdF_pos pre hz
   have hle := gcdL_le 4611686018427387904 pre 0 (by simp) hb
   refine evNeg (by omega) (evPos (by omega) (evPos (by omega) ?_))
   rw [rd_vec]
   have et : tidyL pre = [] ++ pre.map fun x => Int.tdiv x (sgnG pre) := by unfold tidyL; rw [if_neg hz]; simp
   rw [et]
   by_cases hn : vec pre (leadL pre) < 0
   ·refine evPos hn (Ev.step (fun k => by rw [spec_l5Tidy.j1]) ?_)
    rw [w64 (by omega) (by omega), show - gcdF 0 pre = sgnG pre by unfold sgnG; rw [if_pos hn]]
    have h := spec_l5Tidy_l1 (sgnG pre) (by unfold sgnG; rw [if_pos hn]; omega) pre [] (by simpa using hl) hb
    simpa using h
   ·refine evNeg hn (Ev.step (fun k => by rw [spec_l5Tidy.j1]) ?_)
    rw [show gcdF 0 pre = sgnG pre by unfold sgnG; rw [if_neg hn]]
    have h := spec_l5Tidy_l1 (sgnG pre) (by unfold sgnG; rw [if_neg hn]; omega) pre [] (by simpa using hl) hb
    simpa using h
 | cons x suf ih =>
  intro pre e
  have hlen : pre.length < r.length := by rw [e]; simp
  refine Ev.step (fun k => by rw [spec_l5Tidy.l0]) ?_
  refine evPos (by omega) (evPos (by omega) ?_)
  have hx : rd r (pre.length : Int) = x := by rw [e]; exact rd_mid pre suf x
  rw [hx, wsucc (by omega)]
  have h1 := gcdL_le 4611686018427387904 pre 0 (by simp) (fun y hy => hb y (by rw [e]; simp [hy]))
  have h2 := hb x (by rw [e]; simp)
  refine Ev.bind (spec_l4Gcd_ev (gcdF 0 pre) x (by omega) (by omega)) ?_
  rw [← gcdL_append]
  have h := ih (pre ++ [x]) (by simp [e])
  simpa using h
theorem spec_l5Tidy_ev (r : List Int) (hl : r.length ≤ 1048576) (hb : bound62 r) : Ev (fun k => spec_l5Tidy.f k r) (tidyL r) := by
 have h := spec_l5Tidy_l0 r hl hb r [] rfl
 exact h
theorem spec_l5Clear_l0 (a p : List Int) (c : Nat) (hN : a.length = p.length) (hl : a.length ≤ 1048576) (hc : c < a.length) (ha : ∀ j, (vec a j).natAbs ≤ 322560000) (hp : ∀ j, (vec p j).natAbs ≤ 322560000) :
  ∀ (d j : Nat), j + d = a.length → Ev (fun k => spec_l5Clear.l0 k a p (c : Int) ((List.zipWith (fun x y => x * vec p c - y * vec a c) a p).take j) (j : Int)) (clearL a p c) := by
 intro d
 induction d with
 | zero =>
  intro j hj
  refine Ev.step (fun k => by rw [spec_l5Clear.l0]) ?_
  refine evNeg (by omega) ?_
  have et : (List.zipWith (fun x y => x * vec p c - y * vec a c) a p).take j = List.zipWith (fun x y => x * vec p c - y * vec a c) a p := List.take_of_length_le (by simp; omega)
  rw [et]
  refine Ev.bind (spec_l5Tidy_ev _ (by simp; omega) ?_) (evEq (by unfold clearL; rfl) (Ev.now _))
  intro x hx
  obtain ⟨i, hi, rfl⟩ := List.mem_iff_getElem.1 hx
  simp at hi
  rw [List.getElem_zipWith]
  have e1 := ha i
  have e2 := hp i
  rw [vec_of_lt a i (by omega)] at e1
  rw [vec_of_lt p i (by omega)] at e2
  have m1 := mul_bd e1 (hp c)
  have m2 := mul_bd e2 (ha c)
  omega
 | succ d ih =>
  intro j hj
  refine Ev.step (fun k => by rw [spec_l5Clear.l0]) ?_
  refine evPos (by omega) (evPos (by omega) (evPos (by omega) (evPos (by omega) (evPos (by omega) (evPos (by omega) (evPos (by simp; omega) ?_))))))
  rw [rd_vec, rd_vec, rd_vec, rd_vec, wsucc (by omega)]
  have m1 := mul_bd (ha j) (hp c)
  have m2 := mul_bd (hp j) (ha c)
  rw [w64 (n := vec a j * vec p c) (by omega) (by omega), w64 (n := vec p j * vec a c) (by omega) (by omega), w64 (n := vec a j * vec p c - vec p j * vec a c) (by omega) (by omega)]
  have h := ih (j + 1) (by omega)
  have hz : j < (List.zipWith (fun x y => x * vec p c - y * vec a c) a p).length := by simp; omega
  rw [List.take_add_one, List.getElem?_eq_getElem hz, List.getElem_zipWith] at h
  rw [vec_of_lt a j (by omega), vec_of_lt p j (by omega)]
  exact h
theorem spec_l5Clear_ev (a p : List Int) (c : Nat) (hN : a.length = p.length) (hl : a.length ≤ 1048576) (hc : c < a.length) (ha : ∀ j, (vec a j).natAbs ≤ 322560000) (hp : ∀ j, (vec p j).natAbs ≤ 322560000) : Ev (fun k => spec_l5Clear.f k a p (c : Int)) (clearL a p c) := by
 have h := spec_l5Clear_l0 a p c hN hl hc ha hp a.length 0 (by omega)
 exact h
/-! ### specred2 -/
theorem rdL_at (L : List (List Int)) (j : Nat) : rd_L1 L (j : Int) = L.getD j [] := by simp [rd_L1]
theorem spec_l2_skip (res : List (List Int)) (N cols c at_ : Nat) (hc : c < N) (rest : List (List Int)) : ∀ (Z pre : List (List Int)), (pre ++ Z ++ rest).length ≤ 1048576 → (∀ z ∈ Z, vec z c = 0 ∧ z.length = N) →
  Ev (fun k => spec_l5Reduce.l2 k (cols : Int) (pre ++ Z ++ rest) (at_ : Int) (c : Int) ((pre.length + Z.length : Nat) : Int)) res →
  Ev (fun k => spec_l5Reduce.l2 k (cols : Int) (pre ++ Z ++ rest) (at_ : Int) (c : Int) (pre.length : Int)) res := by
 intro Z
 induction Z with
 | nil => intro pre hl hz h; simpa using h
 | cons z Z ih =>
  intro pre hl hz h
  have hz0 := hz z (by simp)
  simp only [List.length_append, List.length_cons] at hl
  refine Ev.step (fun k => by rw [spec_l5Reduce.l2]) ?_
  have hg : (pre ++ z :: Z ++ rest).getD pre.length [] = z := by simp
  rw [rdL_at, hg, rd_vec, wsucc (by omega)]
  refine evPos (by simp only [List.length_append, List.length_cons]; omega) (evPos (by omega) (evPos (by omega) (evPos (by omega) (evPos hz0.1 ?_))))
  have h2 := ih (pre ++ [z]) (by simp; omega) (fun y hy => hz y (by simp [hy])) (by
   refine Ev.congr (fun k => ?_) h
   simp only [List.length_append, List.length_cons, List.length_nil, List.append_assoc, List.cons_append, List.nil_append]
   rw [show pre.length + (0 + 1) + Z.length = pre.length + (Z.length + 1) by omega])
  refine Ev.congr (fun k => ?_) h2
  simp
theorem spec_l3_skip (res : List (List Int)) (N cols c at_ : Nat) (x : List Int) (hc : c < N) (hx : x.length = N) (hN : N ≤ 1048576) (hxb : ∀ j, (vec x j).natAbs ≤ 322560000) (rest : List (List Int)) : ∀ (Z pre : List (List Int)), (pre ++ Z ++ rest).length ≤ 1048576 → at_ < (pre ++ Z ++ rest).length → (∀ z ∈ Z, z.length = N ∧ ∀ j, (vec z j).natAbs ≤ 322560000) →
  (pre.length + Z.length ≤ at_ ∨ at_ < pre.length) → (∀ Z' : List (List Int), Z'.length = Z.length → (pre ++ Z' ++ rest).getD at_ [] = x) →
  Ev (fun k => spec_l5Reduce.l3 k (cols : Int) (pre ++ Z.map (fun r => clearIf r x c) ++ rest) (at_ : Int) (c : Int) ((pre.length + Z.length : Nat) : Int)) res →
  Ev (fun k => spec_l5Reduce.l3 k (cols : Int) (pre ++ Z ++ rest) (at_ : Int) (c : Int) (pre.length : Int)) res := by
 intro Z
 induction Z with
 | nil => intro pre hl hat hz ha hp h; simpa using h
 | cons z Z ih =>
  intro pre hl hat hz ha hp h
  have hz0 := hz z (by simp)
  have hl' := hl
  simp only [List.length_append, List.length_cons] at hl ha hat
  have hg : (pre ++ z :: Z ++ rest).getD pre.length [] = z := by simp
  have hpx := hp (z :: Z) rfl
  have next : Ev (fun k => spec_l5Reduce.l3 k (cols : Int) (pre ++ [clearIf z x c] ++ Z ++ rest) (at_ : Int) (c : Int) (((pre ++ [clearIf z x c]).length : Nat) : Int)) res := by
   refine ih (pre ++ [clearIf z x c]) (by simp; omega) (by simp; omega) (fun y hy => hz y (by simp [hy])) (by simp; omega) (fun Z' hZ' => ?_) ?_
   ·have h1 := hp (clearIf z x c :: Z') (by simp [hZ'])
    simpa using h1
   ·refine Ev.congr (fun k => ?_) h
    simp only [List.length_append, List.length_cons, List.length_nil, List.append_assoc, List.cons_append, List.nil_append, List.map_cons]
    rw [show pre.length + (0 + 1) + Z.length = pre.length + (Z.length + 1) by omega]
  have hs : ((pre ++ [clearIf z x c]).length : Int) = ((pre.length + 1 : Nat) : Int) := by simp
  refine Ev.step (fun k => by rw [spec_l5Reduce.l3]) ?_
  rw [rdL_at, rdL_at, hg, hpx, rd_vec, wsucc (by omega)]
  refine evPos (by simp only [List.length_append, List.length_cons]; omega) (evNeg (by omega) (evPos (by omega) (evPos (by omega) (evPos (by omega) ?_))))
  by_cases h0 : vec z c = 0
  ·refine evPos h0 ?_
   have e : clearIf z x c = z := by unfold clearIf; rw [if_pos h0]
   rw [e] at next
   refine Ev.congr (fun k => ?_) next
   simp
  ·refine evNeg h0 (evPos (by omega) (evPos (by simp only [List.length_append, List.length_cons]; omega) (Ev.bind (spec_l5Clear_ev z x c (by rw [hz0.1, hx]) (by omega) (by omega) hz0.2 hxb) ?_)))
   have e : clearIf z x c = clearL z x c := by unfold clearIf; rw [if_neg h0]
   rw [e] at next
   refine Ev.congr (fun k => ?_) next
   simp
theorem first_at (c : Nat) : ∀ (R : List (List Int)), (∀ r ∈ R, vec r c = 0) ∨ ∃ R0 x R1, R = R0 ++ x :: R1 ∧ (∀ r ∈ R0, vec r c = 0) ∧ vec x c ≠ 0
 | [] => .inl (by simp)
 | r :: R => by
  by_cases h : vec r c = 0
  ·rcases first_at c R with h1 | ⟨R0, x, R1, e, h1, h2⟩
   ·left
    intro s hs
    rcases List.mem_cons.1 hs with rfl | hs
    ·exact h
    ·exact h1 s hs
   ·right
    refine ⟨r :: R0, x, R1, by rw [e]; rfl, ?_, h2⟩
    intro s hs
    rcases List.mem_cons.1 hs with rfl | hs
    ·exact h
    ·exact h1 s hs
  ·exact .inr ⟨[], r, R, rfl, by simp, h⟩
theorem spec_l5Reduce_l1 (X : List (List Int)) (N cb cols : Nat) (hNc : N ≤ cb + 1) (h6 : cb ≤ 6) (hX : ∀ r ∈ X, ∀ j, (vec r j).natAbs ≤ cellB cb j) (hcols : cols ≤ N) (hXl : X.length ≤ 1048576) : ∀ (d c : Nat) (O R : List (List Int)), c + d = cols → CInv X N c R O → (O ++ R).length = X.length →
  ∃ O' R', Ev (fun k => spec_l5Reduce.l1 k (cols : Int) (O ++ R) (O.length : Int) (c : Int)) (O' ++ R') ∧ CInv X N cols R' O' ∧ (O' ++ R').length = X.length := by
 intro d
 induction d with
 | zero =>
  intro c O R hc h hl
  obtain rfl : c = cols := by omega
  exact ⟨O, R, Ev.step (fun k => by rw [spec_l5Reduce.l1]) (evNeg (by omega) (Ev.now _)), h, hl⟩
 | succ d ih =>
  intro c O R hc h hl
  have hcN : c < N := by omega
  have hN7 : N ≤ 7 := by omega
  have hlen : O.length + R.length = X.length := by rw [← hl, List.length_append]
  rcases first_at c R with hz | ⟨R0, x, R1, e, hz, hx⟩
  ·obtain ⟨O', R', he, hi, hl'⟩ := ih (c + 1) O R (by omega) (h.skip hz) hl
   refine ⟨O', R', ?_, hi, hl'⟩
   refine Ev.step (fun k => by rw [spec_l5Reduce.l1]) (evPos (by omega) ?_)
   have hs := spec_l2_skip (O' ++ R') N cols c O.length hcN [] R O (by simp; omega) (fun z hz' => ⟨hz z hz', h.lenr z hz'⟩)
   simp only [List.append_nil] at hs
   refine hs ?_
   refine Ev.step (fun k => by rw [spec_l5Reduce.l2]) (evNeg (by simp) ?_)
   refine Ev.step (fun k => by rw [spec_l5Reduce.j3]) (evPos (by simp) ?_)
   rw [wsucc (by omega)]
   exact he
  ·have hxR : x ∈ R := by rw [e]; simp
   obtain ⟨others, ho, hset⟩ : ∃ others : List (List Int), (∀ r, r ∈ R ↔ r = x ∨ r ∈ others) ∧ (((O ++ R).set (O.length + R0.length) ((O ++ R).getD O.length [])).set O.length x = O ++ x :: others) := by
    cases R0 with
    | nil =>
     refine ⟨R1, fun r => by rw [e]; simp, ?_⟩
     rw [e]
     simp
    | cons y t =>
     refine ⟨t ++ y :: R1, fun r => by rw [e]; simp; grind, ?_⟩
     rw [e]
     simp
   have hol : others.length + 1 = R.length := by
    have := congrArg List.length hset
    simp at this
    omega
   have hbR : ∀ r ∈ R, r.length = N ∧ ∀ j, (vec r j).natAbs ≤ 322560000 := fun r hr => ⟨h.lenr r hr, fun j => h.rem_le hNc h6 hX (by omega) r hr j⟩
   have hbO : ∀ r ∈ O, r.length = N ∧ ∀ j, (vec r j).natAbs ≤ 322560000 := fun r hr => ⟨h.leno r hr, fun j => h.out_le hNc h6 hX (by omega) r hr j⟩
   have hbo : ∀ r ∈ others, r.length = N ∧ ∀ j, (vec r j).natAbs ≤ 322560000 := fun r hr => hbR r ((ho r).2 (.inr hr))
   have hp := h.pivot hx ho
   have hl2 : ((O.map (fun r => clearIf r x c) ++ [x]) ++ others.map (fun r => clearIf r x c)).length = X.length := by simp; omega
   obtain ⟨O', R', he, hi, hl'⟩ := ih (c + 1) _ _ (by omega) hp hl2
   refine ⟨O', R', ?_, hi, hl'⟩
   refine Ev.step (fun k => by rw [spec_l5Reduce.l1]) (evPos (by omega) ?_)
   have hOR : O ++ R = O ++ R0 ++ x :: R1 := by rw [e]; simp
   rw [hOR]
   refine spec_l2_skip (O' ++ R') N cols c O.length hcN (x :: R1) R0 O (by rw [← hOR]; omega) (fun z hz' => ⟨hz z hz', h.lenr z (by rw [e]; simp [hz'])⟩) ?_
   have hgx : (O ++ R0 ++ x :: R1).getD (O.length + R0.length) [] = x := by simp
   have hRl : R0.length < R.length := by rw [e]; simp
   refine Ev.step (fun k => by rw [spec_l5Reduce.l2]) ?_
   rw [rdL_at, hgx, rd_vec]
   refine evPos (by rw [← hOR]; simp only [List.length_append]; omega) (evPos (by omega) (evPos (by omega) (evPos (by have := h.lenr x hxR; omega) (evNeg hx ?_))))
   refine Ev.step (fun k => by rw [spec_l5Reduce.j3]) ?_
   rw [rdL_at, rdL_at, hgx]
   refine evNeg (by rw [← hOR]; simp only [List.length_append]; omega) (evPos (by omega) (evPos (by rw [← hOR]; simp only [List.length_append]; omega) (evPos (by omega) (evPos (by rw [← hOR]; simp only [List.length_append]; omega) ?_))))
   have htx : tidyL x = x := tidy_id (h.inv.tid _ ⟨x, hxR, rfl⟩)
   have ht := spec_l5Tidy_ev x (by rw [h.lenr x hxR]; omega) (fun y hy => by
    obtain ⟨j, hj, rfl⟩ := List.mem_iff_getElem.1 hy
    have := (hbR x hxR).2 j
    rw [vec_of_lt x j hj] at this
    omega)
   rw [htx] at ht
   refine Ev.bind ht ?_
   simp only [Int.toNat_natCast]
   rw [← hOR, hset]
   -- the rows ahead
   have s1 := spec_l3_skip (O' ++ R') N cols c O.length x hcN (h.lenr x hxR) (by omega) (hbR x hxR).2 (x :: others) O [] (by simp; omega) (by simp) hbO (.inl (by simp)) (fun Z' hZ' => by rw [List.nil_append, ← hZ']; simp)
   simp only [List.nil_append, List.length_nil, Nat.zero_add] at s1
   refine s1 ?_
   -- the pivot
   refine Ev.step (fun k => by rw [spec_l5Reduce.l3]) ?_
   refine evPos (by simp only [List.length_append, List.length_map, List.length_cons]; omega) (evPos rfl ?_)
   rw [wsucc (by omega)]
   -- the rows behind
   have s2 := spec_l3_skip (O' ++ R') N cols c O.length x hcN (h.lenr x hxR) (by omega) (hbR x hxR).2 [] others (O.map (fun r => clearIf r x c) ++ [x]) (by first | (simp; done) | (simp; omega)) (by first | (simp; done) | (simp; omega)) hbo (.inr (by simp)) (fun Z' hZ' => by
    rw [List.append_nil, List.append_assoc, List.getD_eq_getElem?_getD, List.getElem?_append_right (by simp)]
    simp)
   simp only [List.append_nil, List.length_append, List.length_map, List.length_cons, List.length_nil, Nat.zero_add, List.append_assoc, List.cons_append, List.nil_append] at s2
   refine s2 ?_
   refine Ev.step (fun k => by rw [spec_l5Reduce.l3]) ?_
   refine evNeg (by simp only [List.length_append, List.length_map, List.length_cons]; omega) ?_
   rw [wsucc (by omega), wsucc (by omega)]
   refine Ev.congr (fun k => ?_) he
   simp
theorem spec_l5Reduce_l0 (X : List (List Int)) (cols : Int) (hl : X.length ≤ 1048576) (hb : ∀ r ∈ X, r.length ≤ 1048576 ∧ bound62 r) (res : List (List Int)) (h : Ev (fun k => spec_l5Reduce.l1 k cols (X.map tidyL) 0 0) res) : ∀ (suf pre : List (List Int)), X = pre ++ suf →
  Ev (fun k => spec_l5Reduce.l0 k X cols (pre.map tidyL) (pre.length : Int)) res := by
 intro suf
 induction suf with
 | nil =>
  intro pre e
  have e0 : pre = X := by simpa using e.symm
  subst e0
  exact Ev.step (fun k => by rw [spec_l5Reduce.l0]) (evNeg (by omega) h)
 | cons x suf ih =>
  intro pre e
  have hlen : pre.length < X.length := by rw [e]; simp
  have hx := hb x (by rw [e]; simp)
  refine Ev.step (fun k => by rw [spec_l5Reduce.l0]) ?_
  have hg : X.getD pre.length [] = x := by rw [e]; simp
  rw [rdL_at, hg, wsucc (by omega)]
  refine evPos (by omega) (evPos (by omega) (Ev.bind (spec_l5Tidy_ev x hx.1 hx.2) (evPos (by simp; omega) ?_)))
  have h2 := ih (pre ++ [x]) (by simp [e])
  refine Ev.congr (fun k => ?_) h2
  simp
theorem bound62_cell {r : List Int} {cb : Nat} (h : ∀ j, (vec r j).natAbs ≤ cellB cb j) : bound62 r := by
 intro x hx
 obtain ⟨j, hj, rfl⟩ := List.mem_iff_getElem.1 hx
 have h1 := h j
 rw [vec_of_lt r j hj] at h1
 unfold cellB at h1
 split at h1 <;> omega
theorem spec_l5Reduce_ev (X : List (List Int)) (N cb cols : Nat) (hN : ∀ r ∈ X, r.length = N) (hNc : N ≤ cb + 1) (h6 : cb ≤ 6) (hX : ∀ r ∈ X, ∀ j, (vec r j).natAbs ≤ cellB cb j) (hcols : cols ≤ N) (hXl : X.length ≤ 1048576) :
  ∃ O R, Ev (fun k => spec_l5Reduce.f k X (cols : Int)) (O ++ R) ∧ CInv X N cols R O ∧ (O ++ R).length = X.length := by
 obtain ⟨O, R, he, hi, hl⟩ := spec_l5Reduce_l1 X N cb cols hNc h6 hX hcols hXl cols 0 [] (X.map tidyL) (by omega) (CInv.init X N hN) (by simp)
 refine ⟨O, R, ?_, hi, hl⟩
 unfold spec_l5Reduce.f
 have h := spec_l5Reduce_l0 X cols hXl (fun r hr => ⟨by rw [hN r hr]; omega, bound62_cell (hX r hr)⟩) (O ++ R) (by simpa using he) X [] rfl
 exact h
/-! ### span -/
theorem vec_inj {r s : List Int} (hl : r.length = s.length) (h : ∀ j, vec r j = vec s j) : r = s := by
 refine List.ext_getElem hl fun j h1 h2 => ?_
 have := h j
 rwa [vec_of_lt r j h1, vec_of_lt s j h2] at this
abbrev ofL (X : List (List Int)) : (Nat → Int) → Prop := fun z => ∃ r, r ∈ X ∧ z = vec r
theorem inX_ofL (X : List (List Int)) (y : Nat → Int) : Sp (inX (xvec X) X.length) y ↔ Sp (ofL X) y := by
 constructor
 ·intro h
  refine h.mono ?_
  rintro z ⟨i, hi, rfl⟩
  exact ⟨X[i], List.getElem_mem _, xvec_mem X i hi⟩
 ·intro h
  refine h.mono ?_
  rintro z ⟨r, hr, rfl⟩
  obtain ⟨i, hi, rfl⟩ := List.mem_iff_getElem.1 hr
  exact ⟨i, hi, (xvec_mem X i hi).symm⟩
theorem outE_rows (O : List (List Int)) (z : Nat → Int) : rowsOf (outE O) z ↔ ofL O z := by
 constructor
 ·rintro ⟨a, ha, rfl⟩
  obtain ⟨r, hr, rfl⟩ := List.mem_map.1 ha
  exact ⟨r, hr, rfl⟩
 ·rintro ⟨r, hr, rfl⟩
  exact ⟨(leadL r, vec r), List.mem_map.2 ⟨r, hr, rfl⟩, rfl⟩
/-- rows that vanish everywhere add nothing -/
theorem CInv.span {X : List (List Int)} {N c : Nat} {R O : List (List Int)} (h : CInv X N c R O) (hz : ∀ r ∈ R, ∀ j, vec r j = 0) (y : Nat → Int) : Sp (rowsOf (outE O)) y ↔ Sp (ofL X) y := by
 rw [← inX_ofL]
 constructor
 ·intro hy
  refine hy.trans fun z hz' => h.inv.span2 z (.inr hz')
 ·intro hy
  refine hy.trans ?_
  rintro z ⟨i, hi, rfl⟩
  refine (h.inv.span1 i hi).trans ?_
  rintro z (⟨r, hr, rfl⟩ | hz')
  ·exact Sp.zero.of_eq (hz r hr)
  ·exact .mem hz'
theorem CInv.zeros {X : List (List Int)} {N : Nat} {R O : List (List Int)} (h : CInv X N N R O) : ∀ r ∈ R, ∀ j, vec r j = 0 := fun r hr j => by
 by_cases hj : j < N
 ·exact h.low r hr j hj
 ·exact vec_out r j (by rw [h.lenr r hr]; omega)
theorem CInv.unique {X X' : List (List Int)} {N c c' : Nat} {R O R' O' : List (List Int)} (h : CInv X N c R O) (h' : CInv X' N c' R' O') (hz : ∀ r ∈ R, ∀ j, vec r j = 0) (hz' : ∀ r ∈ R', ∀ j, vec r j = 0) (hs : ∀ y, Sp (ofL X) y ↔ Sp (ofL X') y) : O = O' := by
 have e := ech_unique h.inv.ech h'.inv.ech h.inv.prim h'.inv.prim (fun y => by rw [CInv.span h hz, CInv.span h' hz', hs])
 have hl : O.length = O'.length := by simpa [outE] using congrArg List.length e
 refine List.ext_getElem hl fun i h1 h2 => ?_
 refine vec_inj (by rw [h.leno _ (List.getElem_mem _), h'.leno _ (List.getElem_mem _)]) fun j => ?_
 have e1 := congrArg (fun l => l[i]?) e
 simp [outE, h1, h2] at e1
 rw [e1.2]
theorem subset_len {α : Type} [DecidableEq α] : ∀ (l m : List α), l.Nodup → (∀ x ∈ l, x ∈ m) → l.length ≤ m.length
 | [], m, _, _ => by simp
 | x :: l, m, hn, h => by
  rw [List.nodup_cons] at hn
  have hx := h x (by simp)
  have ih := subset_len l (m.erase x) hn.2 (fun y hy => by
   have hne : y ≠ x := fun e => hn.1 (e ▸ hy)
   rw [List.mem_erase_of_ne hne]
   exact h y (by simp [hy]))
  rw [List.length_erase_of_mem hx] at ih
  have : 0 < m.length := List.length_pos_of_mem hx
  simp only [List.length_cons]
  omega
theorem same_members {α : Type} [DecidableEq α] {l m : List α} (hn : l.Nodup) (h : ∀ x ∈ l, x ∈ m) (hl : m.length ≤ l.length) : ∀ x ∈ m, x ∈ l := by
 intro x hx
 apply Classical.byContradiction
 intro hnx
 have := subset_len (x :: l) m (List.nodup_cons.2 ⟨hnx, hn⟩) (fun y hy => by
  rcases List.mem_cons.1 hy with rfl | hy
  ·exact hx
  ·exact h y hy)
 simp only [List.length_cons] at this
 omega
/-- a row is cleared by the pivots one behind the other -/
def goL : List (List Int) → List Int → List Int
 | [], x => x
 | r :: O, x => goL O (clearIf x r (leadL r))
theorem clearIf_clr (x r : List Int) (k : Nat) (h : x.length = r.length) (hr : vec r k ≠ 0) : ∃ g : Int, g ≠ 0 ∧ ∀ j, clr k (vec r) (vec x) j = g * vec (clearIf x r k) j := by
 unfold clearIf
 split
 ·rename_i h0
  exact ⟨vec r k, hr, fun j => by simp only [clr]; rw [h0]; grind⟩
 ·exact (clearL_tid x r k h).mul
theorem clearIf_sp (S : (Nat → Int) → Prop) (x r : List Int) (k : Nat) (h : x.length = r.length) (hr : vec r k ≠ 0) (hS : Sp S (vec r)) : Sp S (vec (clearIf x r k)) ↔ Sp S (vec x) := by
 obtain ⟨g, hg, e⟩ := clearIf_clr x r k h hr
 constructor
 ·intro hy
  refine Sp.of_lin (vec r k) g (vec x k) hr hy hS fun j => ?_
  have := e j
  simp only [clr] at this
  grind
 ·intro hx
  refine Sp.of_lin g (vec r k) (- vec x k) hg hx hS fun j => ?_
  rw [← e j]
  simp only [clr]
  grind
theorem clearIf_zero {x r : List Int} {k : Nat} (h : x.length = r.length) (hr : vec r k ≠ 0) (j : Nat) : vec (clearIf x r k) j = 0 ↔ vec x j * vec r k = vec r j * vec x k := by
 obtain ⟨g, hg, e⟩ := clearIf_clr x r k h hr
 have h1 := e j
 simp only [clr] at h1
 constructor
 ·intro h0
  rw [h0] at h1
  simp at h1
  omega
 ·intro h0
  have h2 : g * vec (clearIf x r k) j = 0 := by omega
  rcases Int.mul_eq_zero.1 h2 with h2 | h2
  ·exact absurd h2 hg
  ·exact h2
theorem goL_length {N : Nat} : ∀ (O : List (List Int)) (x : List Int), (∀ r ∈ O, r.length = N) → x.length = N → (goL O x).length = N
 | [], x, _, h => h
 | r :: O, x, hO, h => goL_length O _ (fun s hs => hO s (by simp [hs])) (by rw [clearIf_length _ _ _ (by rw [h, hO r (by simp)])]; exact h)
theorem goL_sp {N : Nat} (S : (Nat → Int) → Prop) : ∀ (O : List (List Int)) (x : List Int), (∀ r ∈ O, r.length = N ∧ vec r (leadL r) ≠ 0 ∧ Sp S (vec r)) → x.length = N → (Sp S (vec (goL O x)) ↔ Sp S (vec x))
 | [], x, _, _ => Iff.rfl
 | r :: O, x, hO, h => by
  have hr := hO r (by simp)
  have hl : x.length = r.length := by rw [h, hr.1]
  rw [show goL (r :: O) x = goL O (clearIf x r (leadL r)) from rfl, goL_sp S O _ (fun s hs => hO s (by simp [hs])) (by rw [clearIf_length _ _ _ hl]; exact h)]
  exact clearIf_sp S x r _ hl hr.2.1 hr.2.2
/-- what is cleared vanishes at the pivots -/
theorem goL_van {N : Nat} : ∀ (O : List (List Int)) (x : List Int), Ech (outE O) → (∀ r ∈ O, r.length = N) → x.length = N → ∀ c, ((∃ r ∈ O, leadL r = c) ∨ (vec x c = 0 ∧ ∀ r ∈ O, vec r c = 0)) → vec (goL O x) c = 0
 | [], x, _, _, _, c, h => by
  rcases h with ⟨r, hr, _⟩ | h
  ·cases hr
  ·exact h.1
 | r :: O, x, hE, hO, hx, c, h => by
  have hrl := hO r (by simp)
  have hl : x.length = r.length := by rw [hx, hrl]
  have hp : vec r (leadL r) ≠ 0 := by have := hE.pos (leadL r, vec r) (by simp [outE]); simp only at this; omega
  have hpw := List.pairwise_cons.1 hE.apart
  refine goL_van O _ hE.tail (fun s hs => hO s (by simp [hs])) (by rw [clearIf_length _ _ _ hl]; exact hx) c ?_
  by_cases hc : leadL r = c
  ·right
   refine ⟨?_, fun s hs => ?_⟩
   ·rw [clearIf_zero hl hp]; rw [hc]; grind
   ·have := (hpw.1 (leadL s, vec s) (List.mem_map.2 ⟨s, hs, rfl⟩)).2.2
    rw [← hc]; exact this
  ·rcases h with ⟨s, hs, e⟩ | ⟨h1, h2⟩
   ·rcases List.mem_cons.1 hs with rfl | hs
    ·exact absurd e hc
    ·exact .inl ⟨s, hs, e⟩
   ·right
    refine ⟨?_, fun s hs => h2 s (by simp [hs])⟩
    rw [clearIf_zero hl hp, h1, h2 r (by simp)]; simp
theorem goL_zero {X : List (List Int)} {N c : Nat} {R O : List (List Int)} (h : CInv X N c R O) (hz : ∀ r ∈ R, ∀ j, vec r j = 0) (x : List Int) (hx : x.length = N) : (∀ j, vec (goL O x) j = 0) ↔ Sp (ofL X) (vec x) := by
 have hO : ∀ r ∈ O, r.length = N ∧ vec r (leadL r) ≠ 0 ∧ Sp (rowsOf (outE O)) (vec r) := fun r hr => by
  have hm : (leadL r, vec r) ∈ outE O := List.mem_map.2 ⟨r, hr, rfl⟩
  refine ⟨h.leno r hr, ?_, .mem ⟨_, hm, rfl⟩⟩
  have := h.inv.ech.pos _ hm
  simp only at this
  omega
 rw [← CInv.span h hz, ← goL_sp _ O x hO hx]
 constructor
 ·intro h0; exact Sp.zero.of_eq h0
 ·intro hs
  refine ech_zero h.inv.ech hs ?_
  intro a ha
  obtain ⟨r, hr, rfl⟩ := List.mem_map.1 ha
  exact goL_van O x h.inv.ech h.leno hx _ (.inl ⟨r, hr, rfl⟩)
/-- the rank tells whether a row lies in the span -/
theorem rank_span {X : List (List Int)} {x : List Int} {N c c' : Nat} {R O R' O' : List (List Int)} (h : CInv X N c R O) (h' : CInv (X ++ [x]) N c' R' O') (hz : ∀ r ∈ R, ∀ j, vec r j = 0) (hz' : ∀ r ∈ R', ∀ j, vec r j = 0) (hx : x.length = N) : O.length = O'.length ↔ Sp (ofL X) (vec x) := by
 have sub : ∀ y, Sp (ofL X) y → Sp (ofL (X ++ [x])) y := fun y hy => hy.mono (by rintro z ⟨r, hr, rfl⟩; exact ⟨r, by simp [hr], rfl⟩)
 constructor
 ·intro hl
  have hsub : ∀ c ∈ (outE O).map (·.1), c ∈ (outE O').map (·.1) := by
   intro c hc
   rw [ech_leads h.inv.ech] at hc
   rw [ech_leads h'.inv.ech]
   obtain ⟨y, hy, hr⟩ := hc
   exact ⟨y, (CInv.span h' hz' y).2 (sub y ((CInv.span h hz y).1 hy)), hr⟩
  have hback := same_members h.inv.ech.nodup hsub (by simp [outE]; omega)
  rw [← goL_zero h hz x hx]
  have hO : ∀ r ∈ O, r.length = N ∧ vec r (leadL r) ≠ 0 ∧ Sp (rowsOf (outE O')) (vec r) := fun r hr => by
   have hm : (leadL r, vec r) ∈ outE O := List.mem_map.2 ⟨r, hr, rfl⟩
   refine ⟨h.leno r hr, ?_, ?_⟩
   ·have := h.inv.ech.pos _ hm
    simp only at this
    omega
   ·exact (CInv.span h' hz' _).2 (sub _ ((CInv.span h hz _).1 (.mem ⟨_, hm, rfl⟩)))
  refine ech_zero h'.inv.ech ((goL_sp _ O x hO hx).2 ((CInv.span h' hz' _).2 (.mem ⟨x, by simp, rfl⟩))) ?_
  intro a ha
  have hm := hback a.1 (List.mem_map.2 ⟨a, ha, rfl⟩)
  obtain ⟨b, hb, e⟩ := List.mem_map.1 hm
  obtain ⟨r, hr, rfl⟩ := List.mem_map.1 hb
  exact goL_van O x h.inv.ech h.leno hx _ (.inl ⟨r, hr, e⟩)
 ·intro hs
  have e := ech_pivots h.inv.ech h'.inv.ech (fun y => by
   rw [CInv.span h hz, CInv.span h' hz']
   constructor
   ·exact sub y
   ·intro hy
    refine hy.trans ?_
    rintro z ⟨r, hr, rfl⟩
    rcases List.mem_append.1 hr with hr | hr
    ·exact .mem ⟨r, hr, rfl⟩
    ·rw [List.mem_singleton.1 hr]; exact hs)
  simpa [outE] using congrArg List.length e
/-- the cells of a row while it is cleared -/
theorem goL_bound (D : Int) (hD : D ≠ 0) (x0 : Nat → Int) (M : Nat) : ∀ (O : List (List Int)) (x : List Int) (z : Nat → Int) (A b : Int) (K : Nat), Ech (outE O) → (∀ r ∈ O, r.length = x.length ∧ ∃ q : Int, D = q * vec r (leadL r) ∧ ∀ j, (x0 (leadL r) * (q * vec r j)).natAbs ≤ M) →
  A ≠ 0 → (∀ j, A * vec x j = b * z j) → (∀ r ∈ O, z (leadL r) = D * x0 (leadL r)) → (∀ j, (z j).natAbs ≤ K) → (∀ j, (vec x j).natAbs ≤ K) →
  ∀ O1 O2, O = O1 ++ O2 → ∀ j, (vec (goL O1 x) j).natAbs ≤ K + O1.length * M
 | [], x, z, A, b, K, _, _, _, _, _, _, hxK, O1, O2, e, j => by
  obtain ⟨rfl, _⟩ := List.append_eq_nil_iff.1 e.symm
  have := hxK j
  simp [goL]; omega
 | r :: O, x, z, A, b, K, hE, hO, hA, hxz, hzD, hzK, hxK, O1, O2, e, j => by
  cases O1 with
  | nil =>
   have := hxK j
   simp [goL]; omega
  | cons s O1 =>
   injection e with e1 e2
   subst e1
   obtain ⟨hl, q, hq, hqM⟩ := hO r (by simp)
   have hp : vec r (leadL r) ≠ 0 := by have := hE.pos (leadL r, vec r) (by simp [outE]); simp only at this; omega
   have hpw := List.pairwise_cons.1 hE.apart
   have hzr := hzD r (by simp)
   obtain ⟨z', hz'⟩ : ∃ z' : Nat → Int, z' = fun j => z j - x0 (leadL r) * (q * vec r j) := ⟨_, rfl⟩
   have hz'K : ∀ j, (z' j).natAbs ≤ K + M := fun j => by
    have h1 := hzK j
    have h2 := hqM j
    rw [hz']
    simp only
    omega
   obtain ⟨g, hg, hcl⟩ := clearIf_clr x r (leadL r) hl.symm hp
   have hA' : A * g ≠ 0 := fun h0 => by
    rcases Int.mul_eq_zero.1 h0 with h0 | h0
    ·exact hA h0
    ·exact hg h0
   have hpar : ∀ j, A * g * vec (clearIf x r (leadL r)) j = b * vec r (leadL r) * z' j := fun j => by
    have h1 := hcl j
    simp only [clr] at h1
    have h2 := hxz j
    have h3 := hxz (leadL r)
    rw [hzr, hq] at h3
    rw [hz']
    simp only
    grind
   have hxK' : ∀ j, (vec (clearIf x r (leadL r)) j).natAbs ≤ K + M := by
    intro j
    unfold clearIf
    split
    ·have := hxK j; omega
    ·rename_i hne
     have ht := clearL_tid x r (leadL r) hl.symm
     rcases ht.prim with h0 | hpr
     ·rw [h0 j]; simp
     ·have hpar' := hpar
      unfold clearIf at hpar'
      rw [if_neg hne] at hpar'
      obtain ⟨w, hw, hw2⟩ := prim_le hpr (A * g) (b * vec r (leadL r)) hA' hpar'
      rcases hw2 j with h1 | h1
      ·have h2 := hz'K j
       rw [h1, Int.natAbs_mul] at h2
       have : 1 * (vec (clearL x r (leadL r)) j).natAbs ≤ w.natAbs * (vec (clearL x r (leadL r)) j).natAbs := Nat.mul_le_mul (by omega) (Nat.le_refl _)
       omega
      ·rw [h1]; simp
   have ih := goL_bound D hD x0 M O (clearIf x r (leadL r)) z' (A * g) (b * vec r (leadL r)) (K + M) hE.tail (fun s hs => by
    have h1 := hO s (by simp [hs])
    exact ⟨by rw [clearIf_length _ _ _ hl.symm]; exact h1.1, h1.2⟩) hA' hpar (fun s hs => by
    have h1 := hzD s (by simp [hs])
    have h2 := (hpw.1 (leadL s, vec s) (List.mem_map.2 ⟨s, hs, rfl⟩)).2.1
    simp only at h2
    rw [hz']
    simp only
    rw [h1, h2]; simp) hz'K hxK' O1 O2 e2 j
   rw [show goL (r :: O1) x = goL O1 (clearIf x r (leadL r)) from rfl, List.length_cons, Nat.add_mul]
   omega
/-! ### spanv -/
def spanV (m : List (List Int)) (row : List Int) : Bool := matB m (row.length : Int) && matB [row] (row.length : Int) && decide ((redI m row.length).length = (redI (m ++ [row]) row.length).length)
theorem matB_rows {m : List (List Int)} {N : Nat} (h : matB m (N : Int) = true) : (1 ≤ N ∧ N ≤ 6) ∧ m.length ≤ 12 ∧ (∀ r ∈ m, r.length = N) ∧ ∀ r ∈ m, ∀ j, (vec r j).natAbs ≤ 2 := by
 simp only [matB, Bool.and_eq_true, List.all_eq_true, decide_eq_true_eq] at h
 refine ⟨by omega, h.2.1, fun r hr => by have := (h.2.2 r hr).1; omega, fun r hr j => ?_⟩
 rcases vec_mem r j with h0 | h0
 ·rw [h0]; simp
 ·have := (h.2.2 r hr).2 _ h0
  simp only [cellR, decide_eq_true_eq] at this
  omega
theorem matB_cell {m : List (List Int)} {N : Nat} (h : matB m (N : Int) = true) : ∀ r ∈ m, ∀ j, (vec r j).natAbs ≤ cellB 6 j := fun r hr j => by
 have h1 := (matB_rows h).2.2.2 r hr j
 unfold cellB
 split <;> omega
/-! ### solvable -/
theorem CInv.solv {X : List (List Int)} {cols : Nat} {R O R' O' : List (List Int)} (h : CInv X (cols + 1) cols R O) (h' : CInv X (cols + 1) cols R' O') (hz : ∀ r ∈ R, vec r cols = 0) : ∀ r ∈ R', vec r cols = 0 := by
 intro r hr
 have hz0 : ∀ r ∈ R, ∀ j, vec r j = 0 := fun r hr j => by
  by_cases h1 : j < cols
  ·exact h.low r hr j h1
  ·by_cases h2 : j = cols
   ·subst h2; exact hz r hr
   ·exact vec_out r j (by rw [h.lenr r hr]; omega)
 apply Classical.byContradiction
 intro hne
 have hs : Sp (rowsOf (outE O)) (vec r) := (CInv.span h hz0 _).2 ((inX_ofL X _).1 (h'.inv.span2 _ (.inl ⟨r, hr, rfl⟩)))
 obtain ⟨a, ha, e⟩ := lead_pivot h.inv.ech hs cols (h'.low r hr) hne
 obtain ⟨o, ho, rfl⟩ := List.mem_map.1 ha
 have := h.lead o ho
 omega
theorem lead_rem {X : List (List Int)} {cols : Nat} {R O : List (List Int)} (h : CInv X (cols + 1) cols R O) (r : List Int) (hr : r ∈ R) : leadL r = cols ↔ vec r cols ≠ 0 := by
 constructor
 ·intro e
  have := leadL_at r (by rw [e, h.lenr r hr]; omega)
  rwa [e] at this
 ·exact fun hne => leadL_eq r cols (by rw [h.lenr r hr]; omega) (h.low r hr) hne
def goodR (rows : List (List Int)) (c : Nat) : Bool := rows.all fun r => !(leadL r == c)
theorem good_spec {X : List (List Int)} {cols : Nat} {R O : List (List Int)} (h : CInv X (cols + 1) cols R O) : goodR (O ++ R) cols = true ↔ ∀ r ∈ R, vec r cols = 0 := by
 simp only [goodR, List.all_eq_true, List.mem_append, Bool.not_eq_true', beq_eq_false_iff_ne]
 constructor
 ·intro hg r hr
  apply Classical.byContradiction
  intro hne
  exact hg r (.inr hr) ((lead_rem h r hr).2 hne)
 ·intro hz r hr
  rcases hr with hr | hr
  ·have := h.lead r hr
   omega
  ·intro e
   exact (lead_rem h r hr).1 e (hz r hr)
theorem good_impl {X : List (List Int)} {cols : Nat} (h : CInv X (cols + 1) cols (runI X cols).1 (runI X cols).2) : goodR (redI X (cols + 1)) cols = true ↔ ∀ r ∈ (runI X cols).1, vec r cols = 0 := by
 have e : redI X (cols + 1) = (stepI cols (runI X cols)).2 := rfl
 obtain ⟨k, hk⟩ : ∃ k, k = (runI X cols).1.findIdx (fun r => leadL r == cols) := ⟨_, rfl⟩
 by_cases hl : k < (runI X cols).1.length
 ·have e2 : (runI X cols).1.getD k [] ∈ redI X (cols + 1) := by
   rw [e]
   unfold stepI
   rw [← hk, if_pos hl]
   simp
  have e3 : (runI X cols).1.getD k [] = (runI X cols).1[k] := by rw [List.getD_eq_getElem?_getD, List.getElem?_eq_getElem hl]; rfl
  have e4 : leadL (runI X cols).1[k] = cols := by
   have hp : (leadL (runI X cols).1[k] == cols) = true := by
    subst hk
    exact List.findIdx_getElem (w := hl)
   simpa using hp
  rw [e3] at e2
  constructor
  ·intro hg
   simp only [goodR, List.all_eq_true, Bool.not_eq_true', beq_eq_false_iff_ne] at hg
   exact absurd e4 (hg _ e2)
  ·intro hz
   exact absurd (hz _ (List.getElem_mem hl)) ((lead_rem h _ (List.getElem_mem hl)).1 e4)
 ·have e2 : redI X (cols + 1) = (runI X cols).2 := by
   rw [e]
   unfold stepI
   rw [← hk, if_neg hl]
  rw [e2]
  constructor
  ·intro _ r hr
   apply Classical.byContradiction
   intro hne
   have e4 := (lead_rem h r hr).2 hne
   obtain ⟨j, hj, rfl⟩ := List.mem_iff_getElem.1 hr
   have h1 : j < k := by omega
   rw [hk] at h1
   have := List.not_of_lt_findIdx h1
   simp [e4] at this
  ·intro _
   simp only [goodR, List.all_eq_true, Bool.not_eq_true', beq_eq_false_iff_ne]
   intro r hr
   have := h.lead r hr
   omega
def augL : List (List Int) → List Int → List (List Int)
 | r :: rs, v :: vs => (r ++ [v]) :: augL rs vs
 | _, _ => []
theorem augL_mem : ∀ (m : List (List Int)) (v : List Int) (x : List Int), x ∈ augL m v → ∃ r ∈ m, ∃ y ∈ v, x = r ++ [y]
 | [], v, x, h => by simp [augL] at h
 | r :: rs, [], x, h => by simp [augL] at h
 | r :: rs, y :: vs, x, h => by
  rw [augL, List.mem_cons] at h
  rcases h with rfl | h
  ·exact ⟨r, by simp, y, by simp, rfl⟩
  ·obtain ⟨r', h1, y', h2, h3⟩ := augL_mem rs vs x h
   exact ⟨r', by simp [h1], y', by simp [h2], h3⟩
theorem augL_len : ∀ (m : List (List Int)) (v : List Int), (augL m v).length ≤ m.length
 | [], v => by simp [augL]
 | r :: rs, [] => by simp [augL]
 | r :: rs, y :: vs => by
  have := augL_len rs vs
  simp only [augL, List.length_cons]
  omega
theorem augL_ok {m : List (List Int)} {v : List Int} {c : Int} (h : sysB m v c = true) : (1 ≤ c ∧ c ≤ 6) ∧ m.length ≤ 12 ∧ v.length = m.length ∧ (∀ r ∈ m, (r.length : Int) = c) ∧ (∀ x ∈ augL m v, x.length = c.toNat + 1) ∧ ∀ x ∈ augL m v, ∀ j, (vec x j).natAbs ≤ cellB c.toNat j := by
 unfold sysB at h
 simp only [Bool.and_eq_true, decide_eq_true_eq] at h
 obtain ⟨hm, hl, hv⟩ := h
 have hc : 1 ≤ c ∧ c ≤ 6 := by
  unfold matB at hm
  simp only [Bool.and_eq_true, decide_eq_true_eq] at hm
  exact hm.1
 have hcn : ((c.toNat : Nat) : Int) = c := by omega
 rw [← hcn] at hm
 obtain ⟨h1, h2, h3, h4⟩ := matB_rows hm
 refine ⟨hc, h2, hl, fun r hr => by have := h3 r hr; omega, fun x hx => ?_, fun x hx j => ?_⟩
 ·obtain ⟨r, hr, y, hy, rfl⟩ := augL_mem m v x hx
  rw [List.length_append, h3 r hr]
  rfl
 ·obtain ⟨r, hr, y, hy, rfl⟩ := augL_mem m v x hx
  have hy2 := List.all_eq_true.1 hv y hy
  simp only [decide_eq_true_eq] at hy2
  have h3r := h3 r hr
  unfold cellB
  by_cases hj : j = c.toNat
  ·rw [if_pos hj]
   have e : vec (r ++ [y]) j = y := by simp [vec, hj, ← h3r]
   rw [e]
   omega
  ·rw [if_neg hj]
   by_cases hj2 : j < r.length
   ·have e : vec (r ++ [y]) j = vec r j := by simp [vec, List.getD_eq_getElem?_getD, List.getElem?_append_left hj2]
    rw [e]
    exact h4 r hr j
   ·have e : vec (r ++ [y]) j = 0 := vec_out _ _ (by simp; omega)
    rw [e]
    simp
def solvV (m : List (List Int)) (v : List Int) (c : Int) : Bool := sysB m v c && goodR (redI (augL m v) (c.toNat + 1)) c.toNat
theorem impl_solved_l1 (c : Nat) (hc : c ≤ 6) (T : List (List Int)) : ∀ (suf pre : List (List Int)), (pre ++ suf).length ≤ 1048576 → (∀ r ∈ suf, r.length = c + 1) →
  ∃ R, Ev (fun k => impl_solved.l1 k (c : Int) T (pre ++ suf) ((pre ++ suf).length : Int) (pre.length : Int)) (R, goodR suf c) := by
 intro suf
 induction suf with
 | nil =>
  intro pre hb hr
  exact ⟨T, Ev.step (fun k => by rw [impl_solved.l1]) (evNeg (by simp) (evEq (by simp [goodR]) (Ev.now _)))⟩
 | cons x suf ih =>
  intro pre hb hr
  simp only [List.length_append, List.length_cons] at hb
  obtain ⟨R, h⟩ := ih (pre ++ [x]) (by simp; omega) (fun r h => hr r (by simp [h]))
  have hx := hr x (by simp)
  have hle : leadL x ≤ x.length := by unfold leadL; exact List.findIdx_le_length
  have hld : impl_lead.f x = some (leadI x) := by unfold impl_lead.f; rw [if_pos (by omega)]
  by_cases e : leadL x = c
  ·refine ⟨[], Ev.step (fun k => by rw [impl_solved.l1]) ?_⟩
   refine evPos (by simp only [List.length_append, List.length_cons]; omega) (evPos (by omega) (evPos (by simp only [List.length_append, List.length_cons]; omega) ?_))
   rw [rd_L1, getD_mid]
   refine evSome hld (evPos ?_ (evEq ?_ (Ev.now _)))
   ·unfold leadI; rw [if_neg (by omega)]; omega
   ·simp [goodR, e]
  ·refine ⟨R, Ev.step (fun k => by rw [impl_solved.l1]) ?_⟩
   refine evPos (by simp only [List.length_append, List.length_cons]; omega) (evPos (by omega) (evPos (by simp only [List.length_append, List.length_cons]; omega) ?_))
   rw [rd_L1, getD_mid, wsucc (by omega)]
   refine evSome hld (evNeg ?_ (evEq ?_ (Ev.congr (fun k => ?_) h)))
   ·unfold leadI; split <;> omega
   ·simp [goodR, e]
   ·simp
theorem impl_solved_l0 (c : Int) (v0 : List Int) (m0 : List (List Int)) (hs : sysB m0 v0 c = true) : ∀ (sm : List (List Int)) (sv : List Int) (pm : List (List Int)) (pv : List Int) (out : List (List Int)), m0 = pm ++ sm → v0 = pv ++ sv → pm.length = pv.length → out ++ augL sm sv = augL m0 v0 → out.length = pm.length →
  ∃ R, Ev (fun k => impl_solved.l0 k v0 c out m0 (m0.length : Int) (pm.length : Int)) (R, goodR (redI (augL m0 v0) (c.toNat + 1)) c.toNat) := by
 obtain ⟨hc, hml, hvl, hrl, hal, hac⟩ := augL_ok hs
 intro sm
 induction sm with
 | nil =>
  intro sv pm pv out em ev hl ho hol
  have e1 : m0.length = pm.length := by rw [em]; simp
  have ho2 : out = augL m0 v0 := by rw [← ho]; simp [augL]
  have hw : wrap64 (c + 1) = ((c.toNat + 1 : Nat) : Int) := by rw [w64 (by omega) (by omega)]; omega
  have hall := augL_len m0 v0
  have hwd : widthN (augL m0 v0) (c.toNat + 1) = c.toNat + 1 := by
   unfold widthN
   split
   ·omega
   ·rename_i h0
    have h1 : (augL m0 v0).getD 0 [] = (augL m0 v0)[0]'(by omega) := by
     rw [List.getD_eq_getElem?_getD, List.getElem?_eq_getElem (by omega)]; rfl
    rw [h1]
    exact hal _ (List.getElem_mem _)
  have hred : impl_reduceAny.f (augL m0 v0) (wrap64 (c + 1)) = some (redI (augL m0 v0) (c.toNat + 1)) := by
   unfold impl_reduceAny.f
   rw [hw, if_pos, Int.toNat_natCast]
   unfold redOk
   rw [Int.toNat_natCast, hwd]
   exact ⟨by omega, ⟨by omega, by omega⟩, ⟨by omega, by omega⟩, fun r hr => ⟨hal r hr, fun j _ => by simpa using hac r hr j⟩⟩
  have hinv := runI_CInv (augL m0 v0) (c.toNat + 1) hal (c.toNat + 1) (Nat.le_refl _)
  have hrows : ∀ r ∈ redI (augL m0 v0) (c.toNat + 1), r.length = c.toNat + 1 := hinv.leno
  have hlen2 := runI_len (augL m0 v0) (c.toNat + 1)
  obtain ⟨R, h⟩ := impl_solved_l1 c.toNat (by omega) (redI (augL m0 v0) (c.toNat + 1)) (redI (augL m0 v0) (c.toNat + 1)) [] (by simp only [List.nil_append]; unfold redI; omega) hrows
  refine ⟨R, Ev.step (fun k => by rw [impl_solved.l0]) ?_⟩
  refine evNeg (by omega) ?_
  rw [ho2]
  refine evSome hred ?_
  rw [Int.toNat_of_nonneg (by omega)] at h
  simpa using h
 | cons x sm ih =>
  intro sv pm pv out em ev hl ho hol
  cases sv with
  | nil =>
   exfalso
   have h1 : m0.length = pm.length + (sm.length + 1) := by rw [em]; simp
   have h2 : v0.length = pv.length := by rw [ev]; simp
   omega
  | cons y sv =>
   have h1 : m0.length = pm.length + (sm.length + 1) := by rw [em]; simp
   have h2 : v0.length = pv.length + (sv.length + 1) := by rw [ev]; simp
   obtain ⟨R, h⟩ := ih sv (pm ++ [x]) (pv ++ [y]) (out ++ [x ++ [y]]) (by rw [em]; simp) (by rw [ev]; simp) (by simp [hl]) (by rw [← ho]; simp [augL]) (by simp [hol])
   have hx : (x.length : Int) = c := hrl x (by rw [em]; simp)
   refine ⟨R, Ev.step (fun k => by rw [impl_solved.l0]) ?_⟩
   refine evPos (by omega) (evPos (by omega) (evPos (by omega) ?_))
   have hcl : slices_Clone_int_int.f x = some x := by
    unfold slices_Clone_int_int.f
    simp
    omega
   have hg : rd_L1 m0 (pm.length : Int) = x := by rw [em, rd_L1, getD_mid]
   have hg2 : rd v0 (pm.length : Int) = y := by rw [ev]; exact rd_mid' pv sv y hl.symm
   rw [hg, hg2, wsucc (by omega)]
   refine evSome hcl (evPos (by omega) (evSome rfl (evPos (by simp; omega) (evSome rfl (evPos (by simp; omega) ?_)))))
   simpa using h
theorem impl_IsSolvable_ev (m : List (List Int)) (v : List Int) (c : Int) (hr : ∀ r ∈ m, r.length ≤ 1048576) (hv : v.length ≤ 1048576) : Ev (fun k => impl_IsSolvable.f k m v c) (solvV m v c) := by
 have key : ∃ R, Ev (fun k => impl_solved.f k m v c) (R, solvV m v c) := by
  by_cases hs : sysB m v c = true
  ·obtain ⟨R, h⟩ := impl_solved_l0 c v m hs m v [] [] [] rfl rfl rfl rfl rfl
   refine ⟨R, ?_⟩
   unfold impl_solved.f
   refine Ev.bind (impl_IsSystem_ev m v c hr hv) (evPos hs ?_)
   rw [solvV, hs, Bool.true_and]
   simpa using h
  ·refine ⟨[], ?_⟩
   unfold impl_solved.f
   refine Ev.bind (impl_IsSystem_ev m v c hr hv) (evNeg hs (evEq ?_ (Ev.now _)))
   have hs' : sysB m v c = false := by simpa using hs
   rw [solvV, hs', Bool.false_and]
 obtain ⟨R, h⟩ := key
 unfold impl_IsSolvable.f
 exact Ev.bind h (Ev.now _)
theorem spec_l6Good_l0 (c : Nat) (hc : c ≤ 6) : ∀ (suf pre : List (List Int)), (pre ++ suf).length ≤ 1048576 → (∀ r ∈ suf, r.length = c + 1) →
  Ev (fun k => spec_l6Good.l0 k (pre ++ suf) (c : Int) (pre.length : Int)) (goodR suf c) := by
 intro suf
 induction suf with
 | nil =>
  intro pre hb hr
  exact Ev.step (fun k => by rw [spec_l6Good.l0]) (evNeg (by simp) (evEq (by simp [goodR]) (Ev.now _)))
 | cons x suf ih =>
  intro pre hb hr
  simp only [List.length_append, List.length_cons] at hb
  have h := ih (pre ++ [x]) (by simp; omega) (fun r h => hr r (by simp [h]))
  have hx := hr x (by simp)
  refine Ev.step (fun k => by rw [spec_l6Good.l0]) ?_
  refine evPos (by simp only [List.length_append, List.length_cons]; omega) (evPos (by omega) ?_)
  rw [rd_L1, getD_mid, wsucc (by omega)]
  refine Ev.bind (spec_l5Lead_ev x (by omega)) ?_
  by_cases e : leadL x = c
  ·exact evPos (by omega) (evEq (by simp [goodR, e]) (Ev.now _))
  ·refine evNeg (by omega) (evEq ?_ (Ev.congr (fun k => ?_) h))
   ·simp [goodR, e]
   ·simp
theorem spec_l6Rows_l0 (c : Int) (v0 : List Int) (m0 : List (List Int)) (hs : sysB m0 v0 c = true) (res : List (List Int)) (hres : Ev (fun k => spec_l5Reduce.f k (augL m0 v0) c) res) : ∀ (sm : List (List Int)) (sv : List Int) (pm : List (List Int)) (pv : List Int) (out : List (List Int)), m0 = pm ++ sm → v0 = pv ++ sv → pm.length = pv.length → out ++ augL sm sv = augL m0 v0 → out.length = pm.length →
  Ev (fun k => spec_l6Rows.l0 k m0 v0 c out (pm.length : Int)) res := by
 obtain ⟨hc, hml, hvl, hrl, hal, hac⟩ := augL_ok hs
 intro sm
 induction sm with
 | nil =>
  intro sv pm pv out em ev hl ho hol
  have e1 : m0.length = pm.length := by rw [em]; simp
  have ho2 : out = augL m0 v0 := by rw [← ho]; simp [augL]
  refine Ev.step (fun k => by rw [spec_l6Rows.l0]) ?_
  refine evNeg (by omega) ?_
  rw [ho2]
  exact Ev.bind hres (Ev.now _)
 | cons x sm ih =>
  intro sv pm pv out em ev hl ho hol
  cases sv with
  | nil =>
   exfalso
   have h1 : m0.length = pm.length + (sm.length + 1) := by rw [em]; simp
   have h2 : v0.length = pv.length := by rw [ev]; simp
   omega
  | cons y sv =>
   have h1 : m0.length = pm.length + (sm.length + 1) := by rw [em]; simp
   have h2 : v0.length = pv.length + (sv.length + 1) := by rw [ev]; simp
   have h := ih sv (pm ++ [x]) (pv ++ [y]) (out ++ [x ++ [y]]) (by rw [em]; simp) (by rw [ev]; simp) (by simp [hl]) (by rw [← ho]; simp [augL]) (by simp [hol])
   have hx : (x.length : Int) = c := hrl x (by rw [em]; simp)
   have hg : rd_L1 m0 (pm.length : Int) = x := by rw [em, rd_L1, getD_mid]
   have hg2 : rd v0 (pm.length : Int) = y := by rw [ev]; exact rd_mid' pv sv y hl.symm
   refine Ev.step (fun k => by rw [spec_l6Rows.l0]) ?_
   refine evPos (by omega) (evSome rfl (evPos (by omega) ?_))
   rw [hg, hg2, wsucc (by omega)]
   refine evPos (by simp; omega) (evSome rfl (evPos (by omega) (evSome rfl (evPos (by simp; omega) (evSome rfl (evPos (by simp; omega) ?_))))))
   simpa using h
theorem spec_IsSolvable_ev (m : List (List Int)) (v : List Int) (c : Int) (hv : v.length ≤ 1048576) : Ev (fun k => spec_IsSolvable.f k m v c) (solvV m v c) := by
 unfold spec_IsSolvable.f
 refine Ev.bind (spec_IsSystem_ev m v c hv) ?_
 by_cases hs : sysB m v c = true
 ·obtain ⟨hc, hml, hvl, hrl, hal, hac⟩ := augL_ok hs
  have hcn : ((c.toNat : Nat) : Int) = c := by omega
  have hall := augL_len m v
  obtain ⟨O, R, he, hi, hlen⟩ := spec_l5Reduce_ev (augL m v) (c.toNat + 1) c.toNat c.toNat hal (Nat.le_refl _) (by omega) hac (by omega) (by omega)
  rw [hcn] at he
  have hrows : ∀ r ∈ O ++ R, r.length = c.toNat + 1 := fun r hr => by
   rcases List.mem_append.1 hr with hr | hr
   ·exact hi.leno r hr
   ·exact hi.lenr r hr
  have h6 := spec_l6Good_l0 c.toNat (by omega) (O ++ R) [] (by simp only [List.nil_append]; omega) hrows
  have h7 := spec_l6Rows_l0 c v m hs (O ++ R) he m v [] [] [] rfl rfl rfl rfl rfl
  have hI := runI_CInv (augL m v) (c.toNat + 1) hal c.toNat (by omega)
  have hEq : goodR (O ++ R) c.toNat = goodR (redI (augL m v) (c.toNat + 1)) c.toNat := by
   rw [Bool.eq_iff_iff, good_spec hi, good_impl hI]
   exact ⟨CInv.solv hi hI, CInv.solv hI hi⟩
  refine evPos hs (Ev.bind (show Ev (fun k => spec_l6Rows.f k m v c) (O ++ R) from by unfold spec_l6Rows.f; simpa using h7) (Ev.bind (show Ev (fun k => spec_l6Good.f k (O ++ R) c) (goodR (O ++ R) c.toNat) from ?_) (evEq ?_ (Ev.now _))))
  ·unfold spec_l6Good.f
   rw [hcn] at h6
   simpa using h6
  ·rw [solvV, hs, Bool.true_and, hEq]
 ·have hs' : sysB m v c = false := by simpa using hs
  refine evNeg hs (evEq ?_ (Ev.now _))
  rw [solvV, hs', Bool.false_and]
/-! ### has -/
def hasB (l : List Int) (v : Int) : Bool := l.any fun x => decide (x = v)
theorem spec_l7Has_l0 (v : Int) : ∀ (suf pre : List Int), (pre ++ suf).length ≤ 1048576 → Ev (fun k => spec_l7Has.l0 k (pre ++ suf) v (pre.length : Int)) (hasB suf v) := by
 intro suf
 induction suf with
 | nil =>
  intro pre hb
  refine Ev.step (fun k => by rw [spec_l7Has.l0]) ?_
  exact evNeg (by simp) (Ev.now _)
 | cons x suf ih =>
  intro pre hb
  simp only [List.length_append, List.length_cons] at hb
  refine Ev.step (fun k => by rw [spec_l7Has.l0]) ?_
  refine evPos (by simp only [List.length_append, List.length_cons]; omega) (evPos (by omega) ?_)
  rw [rd_mid, wsucc (by omega)]
  by_cases hx : x = v
  ·refine evPos hx (evEq ?_ (Ev.now _))
   simp [hasB, hx]
  ·have h := ih (pre ++ [x]) (by simp; omega)
   refine evNeg hx (evEq ?_ (Ev.congr (fun k => ?_) h))
   ·simp [hasB, hx]
   ·simp
theorem spec_l7Has_ev (l : List Int) (v : Int) (hl : l.length ≤ 1048576) : Ev (fun k => spec_l7Has.f k l v) (hasB l v) := by
 unfold spec_l7Has.f
 exact spec_l7Has_l0 v l [] (by simpa using hl)
theorem slices_Index_l0 (v : Int) : ∀ (suf pre : List Int), (pre ++ suf).length ≤ 1048576 →
  ∃ r, Ev (fun k => slices_Index_int_int.l0 k (pre ++ suf) v ((pre ++ suf).length : Int) (pre.length : Int)) r ∧ decide (r ≥ 0) = hasB suf v := by
 intro suf
 induction suf with
 | nil =>
  intro pre hb
  exact ⟨-1, Ev.step (fun k => by rw [slices_Index_int_int.l0]) (evNeg (by simp) (Ev.now _)), rfl⟩
 | cons x suf ih =>
  intro pre hb
  simp only [List.length_append, List.length_cons] at hb
  by_cases hx : v = x
  ·refine ⟨(pre.length : Int), Ev.step (fun k => by rw [slices_Index_int_int.l0]) ?_, ?_⟩
   ·refine evPos (by simp only [List.length_append, List.length_cons]; omega) (evPos (by omega) (evPos (by simp only [List.length_append, List.length_cons]; omega) ?_))
    rw [rd_mid]
    exact evPos hx (Ev.now _)
   ·simp [hasB, hx]
  ·obtain ⟨r, h, e⟩ := ih (pre ++ [x]) (by simp; omega)
   refine ⟨r, Ev.step (fun k => by rw [slices_Index_int_int.l0]) ?_, ?_⟩
   ·refine evPos (by simp only [List.length_append, List.length_cons]; omega) (evPos (by omega) (evPos (by simp only [List.length_append, List.length_cons]; omega) ?_))
    rw [rd_mid, wsucc (by omega)]
    exact evNeg hx (Ev.congr (fun k => by simp) h)
   ·rw [e]
    have : ¬ x = v := fun c => hx c.symm
    simp [hasB, this]
theorem slices_Contains_ev (l : List Int) (v : Int) (hl : l.length ≤ 1048576) : Ev (fun k => slices_Contains_int_int.f k l v) (hasB l v) := by
 unfold slices_Contains_int_int.f slices_Index_int_int.f
 obtain ⟨r, h, e⟩ := slices_Index_l0 v l [] (by simpa using hl)
 exact Ev.bind h (evEq e (Ev.now _))
/-! ### szints -/
def leftI (l : List Int) (a : Int) : Int := if a - (l.length : Int) < 0 then -1 else a - (l.length : Int)
theorem szIntS_eq (l : List Int) (a : Int) (h0 : 0 ≤ a) (h1 : a ≤ 1048576) (hl : l.length ≤ 9223372036854775807) : laws_szIntS.f l a = some (leftI l a) := by
 unfold laws_szIntS.f leftI
 rw [w64 (by omega) (by omega)]
 split <;> rfl
/-! ### ints -/
theorem toIntS_l0 : ∀ (suf pre rest : List Int), (pre ++ suf).length ≤ 1048576 → rest.length = suf.length →
  Ev (fun k => laws_toIntS.l0 k (pre ++ suf) (pre ++ rest) (pre.length : Int)) (pre ++ suf) := by
 intro suf
 induction suf with
 | nil =>
  intro pre rest hb hr
  obtain rfl : rest = [] := by simpa using hr
  refine Ev.step (fun k => by rw [laws_toIntS.l0]) ?_
  exact evNeg (by simp) (Ev.now _)
 | cons x suf ih =>
  intro pre rest hb hr
  obtain ⟨r, rest, rfl⟩ : ∃ r t, rest = r :: t := by
   cases rest with
   | nil => simp at hr
   | cons r t => exact ⟨r, t, rfl⟩
  simp only [List.length_append, List.length_cons] at hb hr
  refine Ev.step (fun k => by rw [laws_toIntS.l0]) ?_
  refine evPos (by simp only [List.length_append, List.length_cons]; omega) (evPos (by omega) (evPos (by simp only [List.length_append, List.length_cons]; omega) ?_))
  rw [rd_mid, set_mid, wsucc (by omega)]
  have h := ih (pre ++ [x]) rest (by simp; omega) (by omega)
  simpa using h
theorem toIntS_ev (l : List Int) (hl : l.length ≤ 1048576) : Ev (fun k => laws_toIntS.f k l) l := by
 unfold laws_toIntS.f
 refine evPos (by omega) (evPos (by omega) ?_)
 have h := toIntS_l0 l [] (List.replicate l.length 0) (by simpa using hl) (by simp)
 simpa using h
theorem eqIntS_l0 : ∀ (suf pre : List Int), (pre ++ suf).length ≤ 1048576 →
  Ev (fun k => laws_eqIntS.l0 k (pre ++ suf) (pre ++ suf) (pre.length : Int)) true := by
 intro suf
 induction suf with
 | nil =>
  intro pre hb
  refine Ev.step (fun k => by rw [laws_eqIntS.l0]) ?_
  exact evNeg (by simp) (Ev.now _)
 | cons x suf ih =>
  intro pre hb
  simp only [List.length_append, List.length_cons] at hb
  refine Ev.step (fun k => by rw [laws_eqIntS.l0]) ?_
  refine evPos (by simp only [List.length_append, List.length_cons]; omega) (evPos (by omega) (evPos (by simp only [List.length_append, List.length_cons]; omega) (evPos rfl ?_)))
  rw [wsucc (by omega)]
  have h := ih (pre ++ [x]) (by simp; omega)
  simpa using h
theorem eqIntS_ev (l : List Int) (hl : l.length ≤ 1048576) : Ev (fun k => laws_eqIntS.f k l l) true := by
 unfold laws_eqIntS.f
 refine evPos rfl ?_
 have h := eqIntS_l0 l [] (by simpa using hl)
 simpa using h
/-! ### intss -/
/-- What is left of a behind the lists' own lengths and the list's length; -1 where it is not enough. -/
def leftR : List (List Int) → Int → Int
 | [], a => a
 | r :: rs, a => if leftI r a < 0 then -1 else leftR rs (leftI r a)
def leftII (l : List (List Int)) (a : Int) : Int := if a - (l.length : Int) < 0 then -1 else leftR l (a - (l.length : Int))
theorem szIntSS_l0 : ∀ (suf pre : List (List Int)) (a : Int), (pre ++ suf).length ≤ 1048576 → 0 ≤ a → a ≤ 1048576 → (∀ r ∈ suf, r.length ≤ 9223372036854775807) →
  Ev (fun k => laws_szIntSS.l0 k (pre ++ suf) a (pre.length : Int)) (leftR suf a) := by
 intro suf
 induction suf with
 | nil =>
  intro pre a hb h0 h1 hr
  refine Ev.step (fun k => by rw [laws_szIntSS.l0]) ?_
  exact evNeg (by simp) (Ev.now _)
 | cons x suf ih =>
  intro pre a hb h0 h1 hr
  simp only [List.length_append, List.length_cons] at hb
  refine Ev.step (fun k => by rw [laws_szIntSS.l0]) ?_
  refine evPos (by simp only [List.length_append, List.length_cons]; omega) (evPos (by omega) ?_)
  rw [rd_L1, getD_mid, wsucc (by omega)]
  refine evSome (szIntS_eq x a h0 h1 (hr x (by simp))) ?_
  by_cases hx : leftI x a < 0
  ·refine evPos hx (evEq ?_ (Ev.now _))
   simp [leftR, hx]
  ·refine evNeg hx ?_
   have hle : leftI x a ≤ 1048576 := by
    unfold leftI
    split <;> omega
   have h := ih (pre ++ [x]) (leftI x a) (by simp; omega) (by omega) hle (fun r h => hr r (by simp [h]))
   refine evEq ?_ (Ev.congr (fun k => ?_) h)
   ·simp [leftR, hx]
   ·simp
theorem szIntSS_ev (l : List (List Int)) (a : Int) (h0 : 0 ≤ a) (h1 : a ≤ 1048576) (hl : l.length ≤ 9223372036854775807) (hr : ∀ r ∈ l, r.length ≤ 9223372036854775807) : Ev (fun k => laws_szIntSS.f k l a) (leftII l a) := by
 unfold laws_szIntSS.f
 rw [w64 (by omega) (by omega)]
 by_cases h : a - (l.length : Int) < 0
 ·refine evPos h (evEq ?_ (Ev.now _))
  simp [leftII, h]
 ·refine evNeg h (evEq ?_ (szIntSS_l0 l [] _ (by simp; omega) (by omega) (by omega) hr))
  simp [leftII, h]
theorem leftR_rows : ∀ (l : List (List Int)) (a : Int), 0 ≤ leftR l a → 0 ≤ a → a ≤ 1048576 → (∀ r ∈ l, r.length ≤ 1048576)
 | [], _, _, _, _ => by simp
 | r :: rs, a, h, h0, h1 => by
  unfold leftR at h
  split at h
  ·omega
  ·rename_i hx
   have hx' : 0 ≤ leftI r a := by omega
   have hrl : r.length ≤ 1048576 ∧ leftI r a ≤ 1048576 := by
    unfold leftI at hx' ⊢
    split at hx' <;> split <;> omega
   intro q hq
   rcases List.mem_cons.1 hq with rfl | hq
   ·exact hrl.1
   ·exact leftR_rows rs _ h hx' hrl.2 q hq
/-- Rows that may be examined. -/
def okII (l : List (List Int)) : Prop := l.length ≤ 1048576 ∧ ∀ r ∈ l, r.length ≤ 1048576
theorem leftII_ok {l : List (List Int)} (h : 0 ≤ leftII l 1048576) : okII l := by
 unfold leftII at h
 split at h
 ·omega
 ·exact ⟨by omega, leftR_rows l _ h (by omega) (by omega)⟩
theorem toIntSS_l0 : ∀ (suf pre rest : List (List Int)), (pre ++ suf).length ≤ 1048576 → rest.length = suf.length → (∀ r ∈ suf, r.length ≤ 1048576) →
  Ev (fun k => laws_toIntSS.l0 k (pre ++ suf) (pre ++ rest) (pre.length : Int)) (pre ++ suf) := by
 intro suf
 induction suf with
 | nil =>
  intro pre rest hb hr hq
  obtain rfl : rest = [] := by simpa using hr
  refine Ev.step (fun k => by rw [laws_toIntSS.l0]) ?_
  exact evNeg (by simp) (Ev.now _)
 | cons x suf ih =>
  intro pre rest hb hr hq
  obtain ⟨r, rest, rfl⟩ : ∃ r t, rest = r :: t := by
   cases rest with
   | nil => simp at hr
   | cons r t => exact ⟨r, t, rfl⟩
  simp only [List.length_append, List.length_cons] at hb hr
  refine Ev.step (fun k => by rw [laws_toIntSS.l0]) ?_
  refine evPos (by simp only [List.length_append, List.length_cons]; omega) (evPos (by omega) ?_)
  rw [rd_L1, getD_mid]
  refine Ev.bind (toIntS_ev x (hq x (by simp))) (evPos (by simp only [List.length_append, List.length_cons]; omega) ?_)
  rw [set_mid, wsucc (by omega)]
  have h := ih (pre ++ [x]) rest (by simp; omega) (by omega) (fun r h => hq r (by simp [h]))
  simpa using h
theorem toIntSS_ev (l : List (List Int)) (hl : okII l) : Ev (fun k => laws_toIntSS.f k l) l := by
 have h0 := hl.1
 unfold laws_toIntSS.f
 refine evPos (by omega) (evPos (by omega) ?_)
 have h := toIntSS_l0 l [] (List.replicate l.length []) (by simpa using hl.1) (by simp) hl.2
 simpa using h
theorem eqIntSS_l0 : ∀ (suf pre : List (List Int)), (pre ++ suf).length ≤ 1048576 → (∀ r ∈ suf, r.length ≤ 1048576) →
  Ev (fun k => laws_eqIntSS.l0 k (pre ++ suf) (pre ++ suf) (pre.length : Int)) true := by
 intro suf
 induction suf with
 | nil =>
  intro pre hb hq
  refine Ev.step (fun k => by rw [laws_eqIntSS.l0]) ?_
  exact evNeg (by simp) (Ev.now _)
 | cons x suf ih =>
  intro pre hb hq
  simp only [List.length_append, List.length_cons] at hb
  refine Ev.step (fun k => by rw [laws_eqIntSS.l0]) ?_
  refine evPos (by simp only [List.length_append, List.length_cons]; omega) (evPos (by omega) (evPos (by simp only [List.length_append, List.length_cons]; omega) ?_))
  rw [rd_L1, getD_mid]
  refine Ev.bind (eqIntS_ev x (hq x (by simp))) (evPos rfl ?_)
  rw [wsucc (by omega)]
  have h := ih (pre ++ [x]) (by simp; omega) (fun r h => hq r (by simp [h]))
  simpa using h
theorem eqIntSS_ev (l : List (List Int)) (hl : okII l) : Ev (fun k => laws_eqIntSS.f k l l) true := by
 unfold laws_eqIntSS.f
 refine evPos rfl ?_
 have h := eqIntSS_l0 l [] (by simpa using hl.1) hl.2
 simpa using h
/-! ### without -/
def woV : List (List Int) → List Int → List Int → List (List Int)
 | m :: ms, o :: os, d => if hasB d o = true then woV ms os d else m :: woV ms os d
 | _, _, _ => []
theorem woV_nil2 : ∀ (ms : List (List Int)) (d : List Int), woV ms [] d = [] := by
 intro ms d; cases ms <;> rfl
theorem woV_nil1 (os d : List Int) : woV [] os d = [] := rfl
theorem woV_len : ∀ (ms : List (List Int)) (os d : List Int), (woV ms os d).length ≤ ms.length
 | [], _, _ => by simp [woV]
 | m :: ms, [], d => by simp [woV_nil2]
 | m :: ms, o :: os, d => by
  have := woV_len ms os d
  rw [woV]
  split <;> simp only [List.length_cons] <;> omega
theorem woV_mem : ∀ (ms : List (List Int)) (os d : List Int) (r : List Int), r ∈ woV ms os d → r ∈ ms
 | [], _, _, r, h => by simp [woV] at h
 | m :: ms, [], d, r, h => by simp [woV_nil2] at h
 | m :: ms, o :: os, d, r, h => by
  rw [woV] at h
  split at h
  ·exact List.mem_cons_of_mem _ (woV_mem ms os d r h)
  ·rcases List.mem_cons.1 h with h | h
   ·rw [h]; simp
   ·exact List.mem_cons_of_mem _ (woV_mem ms os d r h)
theorem woV_tot : ∀ (ms : List (List Int)) (os d : List Int), okII ms → okII (woV ms os d) := fun ms os d h => ⟨Nat.le_trans (woV_len _ _ _) h.1, fun r hr => h.2 r (woV_mem _ _ _ _ hr)⟩
theorem mn_len (a b : Nat) : mn (a : Int) (b : Int) = ((min a b : Nat) : Int) := by
 unfold mn
 split <;> omega
theorem impl_WithoutOwners_l0 (d : List Int) (hd : d.length ≤ 1048576) : ∀ (sm : List (List Int)) (so : List Int) (pm : List (List Int)) (po : List Int) (out : List (List Int)), pm.length = po.length → (pm ++ sm).length ≤ 1048576 → (po ++ so).length ≤ 1048576 → (∀ r ∈ sm, r.length ≤ 1048576) → out.length ≤ pm.length →
  Ev (fun k => impl_WithoutOwners.l0 k (pm ++ sm) (po ++ so) d out (mn ((pm ++ sm).length : Int) ((po ++ so).length : Int)) (po.length : Int)) (out ++ woV sm so d) := by
 intro sm
 induction sm with
 | nil =>
  intro so pm po out h1 h2 h3 h4 h5
  refine Ev.step (fun k => by rw [impl_WithoutOwners.l0]) ?_
  refine evNeg (by rw [mn_len]; simp only [List.length_append, List.length_nil]; omega) (evEq ?_ (Ev.now _))
  simp [woV]
 | cons x sm ih =>
  intro so pm po out h1 h2 h3 h4 h5
  cases so with
  | nil =>
   refine Ev.step (fun k => by rw [impl_WithoutOwners.l0]) ?_
   refine evNeg (by rw [mn_len]; simp only [List.length_append, List.length_nil]; omega) (evEq ?_ (Ev.now _))
   simp [woV]
  | cons o so =>
   simp only [List.length_append, List.length_cons] at h2 h3
   refine Ev.step (fun k => by rw [impl_WithoutOwners.l0]) ?_
   refine evPos (by rw [mn_len]; simp only [List.length_append, List.length_cons]; omega) (evPos (by omega) (evPos (by simp only [List.length_append, List.length_cons]; omega) ?_))
   rw [rd_mid]
   refine Ev.bind (slices_Contains_ev d o hd) ?_
   rw [wsucc (by omega)]
   by_cases hb : hasB d o = true
   ·refine evPos hb ?_
    have h := ih so (pm ++ [x]) (po ++ [o]) out (by simp [h1]) (by simp; omega) (by simp; omega) (fun r hr => h4 r (by simp [hr])) (by simp; omega)
    refine evEq ?_ (Ev.congr (fun k => ?_) h)
    ·simp only [woV, if_pos hb]
    ·simp
   ·refine evNeg hb (evPos (by simp only [List.length_append, List.length_cons]; omega) ?_)
    rw [rd_L1, getD_mid' pm sm x [] h1]
    have hcl : slices_Clone_int_int.f x = some x := by
     unfold slices_Clone_int_int.f
     have := h4 x (by simp)
     simp
     omega
    refine evSome hcl (evPos (by omega) ?_)
    have h := ih so (pm ++ [x]) (po ++ [o]) (out ++ [x]) (by simp [h1]) (by simp; omega) (by simp; omega) (fun r hr => h4 r (by simp [hr])) (by simp; omega)
    refine evEq ?_ (Ev.congr (fun k => ?_) h)
    ·simp only [woV, if_neg hb]; simp
    ·simp
theorem impl_WithoutOwners_ev (m : List (List Int)) (o d : List Int) (hm : okII m) (ho : o.length ≤ 1048576) (hd : d.length ≤ 1048576) : Ev (fun k => impl_WithoutOwners.f k m o d) (woV m o d) := by
 have h := impl_WithoutOwners_l0 d hd m o [] [] [] rfl (by simpa using hm.1) (by simpa using ho) hm.2 (by simp)
 simpa [impl_WithoutOwners.f] using h
theorem spec_WithoutOwners_l0 (d : List Int) (hd : d.length ≤ 1048576) : ∀ (sm : List (List Int)) (so : List Int) (pm : List (List Int)) (po : List Int) (out : List (List Int)), pm.length = po.length → (pm ++ sm).length ≤ 1048576 → (po ++ so).length ≤ 1048576 → (∀ r ∈ sm, r.length ≤ 1048576) → out.length ≤ pm.length →
  Ev (fun k => spec_WithoutOwners.l0 k (pm ++ sm) (po ++ so) d out (pm.length : Int)) (out ++ woV sm so d) := by
 intro sm
 induction sm with
 | nil =>
  intro so pm po out h1 h2 h3 h4 h5
  refine Ev.step (fun k => by rw [spec_WithoutOwners.l0]) ?_
  refine evNeg (by simp) (Ev.step (fun k => by rw [spec_WithoutOwners.j1]) ?_)
  refine evNeg (by simp) (evEq ?_ (Ev.now _))
  simp [woV]
 | cons x sm ih =>
  intro so pm po out h1 h2 h3 h4 h5
  cases so with
  | nil =>
   refine Ev.step (fun k => by rw [spec_WithoutOwners.l0]) ?_
   refine evPos (by simp only [List.length_append, List.length_cons]; omega) (Ev.step (fun k => by rw [spec_WithoutOwners.j1]) ?_)
   refine evNeg (by simp only [List.append_nil, decide_eq_true_eq]; omega) (evEq ?_ (Ev.now _))
   simp [woV]
  | cons o so =>
   simp only [List.length_append, List.length_cons] at h2 h3
   refine Ev.step (fun k => by rw [spec_WithoutOwners.l0]) ?_
   refine evPos (by simp only [List.length_append, List.length_cons]; omega) (Ev.step (fun k => by rw [spec_WithoutOwners.j1]) ?_)
   refine evPos (by simp only [List.length_append, List.length_cons, decide_eq_true_eq]; omega) (evPos (by omega) (evPos (by simp only [List.length_append, List.length_cons]; omega) ?_))
   rw [rd_mid' po so o h1.symm]
   refine Ev.bind (spec_l7Has_ev d o hd) ?_
   by_cases hb : hasB d o = true
   ·refine evPos hb ?_
    rw [wsucc (by omega)]
    have h := ih so (pm ++ [x]) (po ++ [o]) out (by simp [h1]) (by simp; omega) (by simp; omega) (fun r hr => h4 r (by simp [hr])) (by simp; omega)
    refine evEq ?_ (Ev.congr (fun k => ?_) h)
    ·simp only [woV, if_pos hb]
    ·simp
   ·refine evNeg hb ?_
    rw [rd_L1, getD_mid pm sm x []]
    rw [wsucc (by omega)]
    have hx := h4 x (by simp)
    refine evPos (by simp only [List.length_append, List.length_cons]; omega) (evPos (by simp; omega) (evPos (by omega) ?_))
    have h := ih so (pm ++ [x]) (po ++ [o]) (out ++ [x]) (by simp [h1]) (by simp; omega) (by simp; omega) (fun r hr => h4 r (by simp [hr])) (by simp; omega)
    refine evEq ?_ (Ev.congr (fun k => ?_) h)
    ·simp only [woV, if_neg hb]; simp
    ·simp
theorem spec_WithoutOwners_ev (m : List (List Int)) (o d : List Int) (hm : okII m) (ho : o.length ≤ 1048576) (hd : d.length ≤ 1048576) : Ev (fun k => spec_WithoutOwners.f k m o d) (woV m o d) := by
 have h := spec_WithoutOwners_l0 d hd m o [] [] [] rfl (by simpa using hm.1) (by simpa using ho) hm.2 (by simp)
 simpa [spec_WithoutOwners.f] using h
/-! ### vwithout -/
def vwV : List Int → List Int → List Int → List Int
 | v :: vs, o :: os, d => if hasB d o = true then vwV vs os d else v :: vwV vs os d
 | _, _, _ => []
theorem vwV_nil2 : ∀ (vs : List Int) (d : List Int), vwV vs [] d = [] := by
 intro vs d; cases vs <;> rfl
theorem vwV_len : ∀ (vs os d : List Int), (vwV vs os d).length ≤ vs.length
 | [], os, d => by simp [vwV]
 | v :: vs, [], d => by simp [vwV]
 | v :: vs, o :: os, d => by
  have h := vwV_len vs os d
  rw [vwV]
  split <;> simp <;> omega
theorem impl_ValuesWithout_l0 (d : List Int) (hd : d.length ≤ 1048576) : ∀ (sm so pm po out : List Int), pm.length = po.length → (pm ++ sm).length ≤ 1048576 → (po ++ so).length ≤ 1048576 → out.length ≤ pm.length →
  Ev (fun k => impl_ValuesWithout.l0 k (pm ++ sm) (po ++ so) d out (mn ((pm ++ sm).length : Int) ((po ++ so).length : Int)) (po.length : Int)) (out ++ vwV sm so d) := by
 intro sm
 induction sm with
 | nil =>
  intro so pm po out h1 h2 h3 h5
  refine Ev.step (fun k => by rw [impl_ValuesWithout.l0]) ?_
  refine evNeg (by rw [mn_len]; simp only [List.length_append, List.length_nil]; omega) (evEq ?_ (Ev.now _))
  simp [vwV]
 | cons x sm ih =>
  intro so pm po out h1 h2 h3 h5
  cases so with
  | nil =>
   refine Ev.step (fun k => by rw [impl_ValuesWithout.l0]) ?_
   refine evNeg (by rw [mn_len]; simp only [List.length_append, List.length_nil]; omega) (evEq ?_ (Ev.now _))
   simp [vwV]
  | cons o so =>
   simp only [List.length_append, List.length_cons] at h2 h3
   refine Ev.step (fun k => by rw [impl_ValuesWithout.l0]) ?_
   refine evPos (by rw [mn_len]; simp only [List.length_append, List.length_cons]; omega) (evPos (by omega) (evPos (by simp only [List.length_append, List.length_cons]; omega) ?_))
   rw [rd_mid]
   refine Ev.bind (slices_Contains_ev d o hd) ?_
   rw [wsucc (by omega)]
   by_cases hb : hasB d o = true
   ·refine evPos hb ?_
    have h := ih so (pm ++ [x]) (po ++ [o]) out (by simp [h1]) (by simp; omega) (by simp; omega) (by simp; omega)
    refine evEq ?_ (Ev.congr (fun k => ?_) h)
    ·simp only [vwV, if_pos hb]
    ·simp
   ·refine evNeg hb (evPos (by simp only [List.length_append, List.length_cons]; omega) ?_)
    rw [rd_mid' pm sm x h1]
    refine evPos (by omega) ?_
    have h := ih so (pm ++ [x]) (po ++ [o]) (out ++ [x]) (by simp [h1]) (by simp; omega) (by simp; omega) (by simp; omega)
    refine evEq ?_ (Ev.congr (fun k => ?_) h)
    ·simp only [vwV, if_neg hb]; simp
    ·simp
theorem impl_ValuesWithout_ev (v o d : List Int) (hv : v.length ≤ 1048576) (ho : o.length ≤ 1048576) (hd : d.length ≤ 1048576) : Ev (fun k => impl_ValuesWithout.f k v o d) (vwV v o d) := by
 have h := impl_ValuesWithout_l0 d hd v o [] [] [] rfl (by simpa using hv) (by simpa using ho) (by simp)
 simpa [impl_ValuesWithout.f] using h
theorem spec_ValuesWithout_l0 (d : List Int) (hd : d.length ≤ 1048576) : ∀ (sm so pm po out : List Int), pm.length = po.length → (pm ++ sm).length ≤ 1048576 → (po ++ so).length ≤ 1048576 → out.length ≤ pm.length →
  Ev (fun k => spec_ValuesWithout.l0 k (pm ++ sm) (po ++ so) d out (pm.length : Int)) (out ++ vwV sm so d) := by
 intro sm
 induction sm with
 | nil =>
  intro so pm po out h1 h2 h3 h5
  refine Ev.step (fun k => by rw [spec_ValuesWithout.l0]) ?_
  refine evNeg (by simp) (Ev.step (fun k => by rw [spec_ValuesWithout.j1]) ?_)
  refine evNeg (by simp) (evEq ?_ (Ev.now _))
  simp [vwV]
 | cons x sm ih =>
  intro so pm po out h1 h2 h3 h5
  cases so with
  | nil =>
   refine Ev.step (fun k => by rw [spec_ValuesWithout.l0]) ?_
   refine evPos (by simp only [List.length_append, List.length_cons]; omega) (Ev.step (fun k => by rw [spec_ValuesWithout.j1]) ?_)
   refine evNeg (by simp only [List.append_nil, decide_eq_true_eq]; omega) (evEq ?_ (Ev.now _))
   simp [vwV]
  | cons o so =>
   simp only [List.length_append, List.length_cons] at h2 h3
   refine Ev.step (fun k => by rw [spec_ValuesWithout.l0]) ?_
   refine evPos (by simp only [List.length_append, List.length_cons]; omega) (Ev.step (fun k => by rw [spec_ValuesWithout.j1]) ?_)
   refine evPos (by simp only [List.length_append, List.length_cons, decide_eq_true_eq]; omega) (evPos (by omega) (evPos (by simp only [List.length_append, List.length_cons]; omega) ?_))
   rw [rd_mid' po so o h1.symm]
   refine Ev.bind (spec_l7Has_ev d o hd) ?_
   rw [wsucc (by omega)]
   by_cases hb : hasB d o = true
   ·refine evPos hb ?_
    have h := ih so (pm ++ [x]) (po ++ [o]) out (by simp [h1]) (by simp; omega) (by simp; omega) (by simp; omega)
    refine evEq ?_ (Ev.congr (fun k => ?_) h)
    ·simp only [vwV, if_pos hb]
    ·simp
   ·refine evNeg hb (evPos (by simp only [List.length_append, List.length_cons]; omega) ?_)
    rw [rd_mid]
    refine evPos (by omega) ?_
    have h := ih so (pm ++ [x]) (po ++ [o]) (out ++ [x]) (by simp [h1]) (by simp; omega) (by simp; omega) (by simp; omega)
    refine evEq ?_ (Ev.congr (fun k => ?_) h)
    ·simp only [vwV, if_neg hb]; simp
    ·simp
theorem spec_ValuesWithout_ev (v o d : List Int) (hv : v.length ≤ 1048576) (ho : o.length ≤ 1048576) (hd : d.length ≤ 1048576) : Ev (fun k => spec_ValuesWithout.f k v o d) (vwV v o d) := by
 have h := spec_ValuesWithout_l0 d hd v o [] [] [] rfl (by simpa using hv) (by simpa using ho) (by simp)
 simpa [spec_ValuesWithout.f] using h
/-! ### owned -/
def ownB (m : List (List Int)) (v o : List Int) (c : Int) : Bool := sysB m v c && (decide (o.length = m.length) && o.all fun x => decide (0 ≤ x ∧ x ≤ 5))
theorem impl_AreOwned_ev (m : List (List Int)) (v o : List Int) (c : Int) (hr : ∀ r ∈ m, r.length ≤ 1048576) (hv : v.length ≤ 1048576) (ho : o.length ≤ 1048576) : Ev (fun k => impl_AreOwned.f k m v o c) (ownB m v o c) := by
 unfold impl_AreOwned.f
 refine Ev.bind (impl_IsSystem_ev m v c hr hv) ?_
 by_cases h1 : sysB m v c = true
 ·refine evPos h1 ?_
  by_cases h2 : o.length = m.length
  ·refine evPos (by omega) (Ev.bind (impl_allIn_ev o 0 5 ho) (evEq ?_ (Ev.now _)))
   simp only [ownB, h1, decide_eq_true h2, Bool.true_and]
  ·refine evNeg (by omega) (evEq ?_ (Ev.now _))
   simp only [ownB, decide_eq_false h2, Bool.and_false, Bool.false_and]
 ·have h1' : sysB m v c = false := by simpa using h1
  refine evNeg h1 (evEq ?_ (Ev.now _))
  simp only [ownB, h1', Bool.false_and]
theorem spec_AreOwned_l0 (m : List (List Int)) (v : List Int) (c : Int) (hv : v.length ≤ 1048576) : ∀ (suf pre : List Int), (pre ++ suf).length ≤ 1048576 →
  Ev (fun k => spec_AreOwned.l0 k m v (pre ++ suf) c (pre.length : Int)) (sysB m v c && (decide ((pre ++ suf).length = m.length) && suf.all fun x => decide (0 ≤ x ∧ x ≤ 5))) := by
 intro suf
 induction suf with
 | nil =>
  intro pre hb
  refine Ev.step (fun k => by rw [spec_AreOwned.l0]) ?_
  refine evNeg (by simp) (Ev.bind (spec_IsSystem_ev m v c hv) ?_)
  by_cases h1 : sysB m v c = true
  ·refine evPos h1 (evEq ?_ (Ev.now _))
   rw [h1]
   simp only [Bool.true_and, List.all_nil, Bool.and_true]
   by_cases h2 : (pre ++ []).length = m.length
   ·rw [decide_eq_true h2, h2]
    simp
   ·rw [decide_eq_false h2, beq_eq_false_iff_ne]
    omega
  ·have h1' : sysB m v c = false := by simpa using h1
   refine evNeg h1 (evEq ?_ (Ev.now _))
   rw [h1', Bool.false_and]
 | cons x suf ih =>
  intro pre hb
  have hb' := hb
  simp only [List.length_append, List.length_cons] at hb'
  refine Ev.step (fun k => by rw [spec_AreOwned.l0]) ?_
  refine evPos (by simp only [List.length_append, List.length_cons]; omega) (evPos (by omega) ?_)
  rw [rd_mid, wsucc (by omega)]
  refine evSome (spec_l1In_eq _ _ _) ?_
  by_cases hx : 0 ≤ x ∧ x ≤ 5
  ·have h := ih (pre ++ [x]) (by simpa using hb)
   refine evPos (by simpa using hx) (evEq ?_ (Ev.congr (fun k => ?_) h))
   ·simp only [List.all_cons, decide_eq_true hx, Bool.true_and]
    simp
   ·simp
  ·refine evNeg (by simpa using hx) (evEq ?_ (Ev.now _))
   simp only [List.all_cons, decide_eq_false hx, Bool.false_and, Bool.and_false]
theorem spec_AreOwned_ev (m : List (List Int)) (v o : List Int) (c : Int) (hv : v.length ≤ 1048576) (ho : o.length ≤ 1048576) : Ev (fun k => spec_AreOwned.f k m v o c) (ownB m v o c) := by
 unfold spec_AreOwned.f
 exact spec_AreOwned_l0 m v c hv o [] (by simpa using ho)
/-! ### fewest -/
def selV (m : List (List Int)) (v o : List Int) (c : Int) (L : List (List Int)) : List (List Int) := L.filter fun s => solvV (woV m o s) (vwV v o s) c
def fewF (m : List (List Int)) (v o : List Int) (c : Int) : Nat → Nat → List (List Int)
 | 0, _ => []
 | d + 1, s => if (selV m v o c (addV 6 s 0 [])).length = 0 then fewF m v o c d (s + 1) else selV m v o c (addV 6 s 0 [])
def fewV (m : List (List Int)) (v o : List Int) (c : Int) : List (List Int) := if ownB m v o c = true then fewF m v o c 7 0 else []
theorem selV_sub (m : List (List Int)) (v o : List Int) (c : Int) (L : List (List Int)) : (selV m v o c L).length ≤ L.length := List.length_filter_le _ _
theorem fewF_mem (m : List (List Int)) (v o : List Int) (c : Int) : ∀ (d s : Nat), s + d = 7 → (fewF m v o c d s).length ≤ 46656 ∧ ∀ r ∈ fewF m v o c d s, r.length ≤ 6
 | 0, s, _ => by simp [fewF]
 | d + 1, s, h => by
  rw [fewF]
  split
  ·exact fewF_mem m v o c d (s + 1) (by omega)
  ·refine ⟨Nat.le_trans (selV_sub m v o c _) (addV_six (by omega) 6 (by omega) 0 []), fun r hr => ?_⟩
   have := addV_mem 6 s 0 [] r (List.mem_filter.1 hr).1
   rw [this]
   simp
   omega
theorem fewV_mem (m : List (List Int)) (v o : List Int) (c : Int) : (fewV m v o c).length ≤ 46656 ∧ ∀ r ∈ fewV m v o c, r.length ≤ 6 := by
 unfold fewV
 split
 ·exact fewF_mem m v o c 7 0 rfl
 ·simp
theorem spec_FewestLiars_l1 (m : List (List Int)) (v o : List Int) (c : Int) (hm : okII m) (hv : v.length ≤ 1048576) (ho : o.length ≤ 1048576) (s : Nat) (hs : s ≤ 6) (L : List (List Int)) (hL : L.length ≤ 46656) (hr : ∀ r ∈ L, r.length ≤ 6) (R : List (List Int)) : ∀ (suf pre out : List (List Int)), L = pre ++ suf → out.length ≤ pre.length →
  Ev (fun k => spec_FewestLiars.l0 k m v o c (out ++ selV m v o c suf) ((s + 1 : Nat) : Int)) R → Ev (fun k => spec_FewestLiars.l1 k m v o c out (s : Int) L (pre.length : Int)) R := by
 intro suf
 induction suf with
 | nil =>
  intro pre out e ho2 h
  refine Ev.step (fun k => by rw [spec_FewestLiars.l1]) ?_
  refine evNeg (by rw [e]; simp) ?_
  rw [wsucc (by omega)]
  simpa [selV] using h
 | cons x suf ih =>
  intro pre out e ho2 h
  have hel : L.length = pre.length + (suf.length + 1) := by rw [e]; simp
  have hx := hr x (by rw [e]; simp)
  have hg : rd_L1 L (pre.length : Int) = x := by rw [rd_L1, e, getD_mid]
  refine Ev.step (fun k => by rw [spec_FewestLiars.l1]) ?_
  refine evPos (by omega) (evPos (by omega) ?_)
  rw [hg, wsucc (by omega)]
  refine Ev.bind (spec_WithoutOwners_ev m o x hm ho (by omega)) (Ev.bind (spec_ValuesWithout_ev v o x hv ho (by omega)) (Ev.bind (spec_IsSolvable_ev _ _ c (Nat.le_trans (vwV_len v o x) hv)) ?_))
  by_cases hb : solvV (woV m o x) (vwV v o x) c = true
  ·refine evPos hb (evPos (by omega) ?_)
   have h2 := ih (pre ++ [x]) (out ++ [x]) (by rw [e]; simp) (by simp; omega) (by simpa [selV, hb] using h)
   simpa using h2
  ·refine evNeg hb ?_
   have h2 := ih (pre ++ [x]) out (by rw [e]; simp) (by simp; omega) (by simpa [selV, hb] using h)
   simpa using h2
theorem spec_FewestLiars_l0 (m : List (List Int)) (v o : List Int) (c : Int) (hm : okII m) (hv : v.length ≤ 1048576) (ho : o.length ≤ 1048576) : ∀ (d s : Nat), s + d = 7 →
  Ev (fun k => spec_FewestLiars.l0 k m v o c [] (s : Int)) (if ownB m v o c = true then fewF m v o c d s else []) := by
 intro d
 induction d with
 | zero =>
  intro s e
  refine Ev.step (fun k => by rw [spec_FewestLiars.l0]) ?_
  refine evNeg (by omega) (Ev.step (fun k => by rw [spec_FewestLiars.j1]) ?_)
  exact evNeg (by decide) (evEq (by simp [fewF]) (Ev.now _))
 | succ d ih =>
  intro s e
  refine Ev.step (fun k => by rw [spec_FewestLiars.l0]) ?_
  refine evPos (by omega) (Ev.bind (spec_AreOwned_ev m v o c hv ho) ?_)
  by_cases hb : ownB m v o c = true
  ·refine evPos hb (Ev.step (fun k => by rw [spec_FewestLiars.j1]) ?_)
   refine evPos (by simp) (Ev.bind (spec_SetsOf_ev 6 s (by omega) (by omega)) ?_)
   refine spec_FewestLiars_l1 m v o c hm hv ho s (by omega) _ (addV_six (by omega) 6 (by omega) 0 []) (fun r hr => by have := addV_mem 6 s 0 [] r hr; rw [this]; simp; omega) _ _ [] [] rfl (by simp) ?_
   rw [if_pos hb, fewF, List.nil_append]
   by_cases h0 : (selV m v o c (addV 6 s 0 [])).length = 0
   ·have h1 := ih (s + 1) (by omega)
    rw [if_pos hb] at h1
    rw [if_pos h0, List.eq_nil_of_length_eq_zero h0]
    exact h1
   ·rw [if_neg h0]
    refine Ev.step (fun k => by rw [spec_FewestLiars.l0]) ?_
    by_cases h6 : s + 1 ≤ 6
    ·refine evPos (by omega) (Ev.bind (spec_AreOwned_ev m v o c hv ho) (evPos hb (Ev.step (fun k => by rw [spec_FewestLiars.j1]) ?_)))
     exact evNeg (by rw [beq_iff_eq]; omega) (Ev.now _)
    ·refine evNeg (by omega) (Ev.step (fun k => by rw [spec_FewestLiars.j1]) ?_)
     exact evNeg (by decide) (Ev.now _)
  ·refine evNeg hb (Ev.step (fun k => by rw [spec_FewestLiars.j1]) ?_)
   exact evNeg (by decide) (evEq (by rw [if_neg hb]) (Ev.now _))
theorem spec_FewestLiars_ev (m : List (List Int)) (v o : List Int) (c : Int) (hm : okII m) (hv : v.length ≤ 1048576) (ho : o.length ≤ 1048576) : Ev (fun k => spec_FewestLiars.f k m v o c) (fewV m v o c) := by
 unfold spec_FewestLiars.f
 exact spec_FewestLiars_l0 m v o c hm hv ho 7 0 rfl
/-! ### fewesth -/
set_option maxHeartbeats 8000000 in
set_option maxRecDepth 100000 in
theorem impl_FewestLiars_c (A0 : Option Addr) (c0 : Nat) (m : List (List Int)) (A1 : Option Addr) (c1 : Nat) (v : List Int) (A2 : Option Addr) (c2 : Nat) (o : List Int) (c : Int) (w : World) (hr0 : Kd.C (Kd.slice 3 (Kd.int .i64)) w A0 m.length m) (hc0 : m.length ≤ c0) (hr1 : Kd.C (Kd.int .i64) w A1 v.length v) (hc1 : v.length ≤ c1) (hr2 : Kd.C (Kd.int .i64) w A2 o.length o) (hc2 : o.length ≤ c2) (hm : okII m) (hv : v.length ≤ 1048576) (ho : o.length ≤ 1048576) :
  Calls Try.prog 30 #[.slice A0 m.length c0, .slice A1 v.length c1, .slice A2 o.length c2, .int .i64 c] w fun e w' => ∃ u, e = .returned u ∧ Kd.S (Kd.slice 3 (Kd.int .i64)) 25 w' w.heap.size (fun _ => True) u (fewV m v o c) ∧ Below w.heap.size w w' := by
 obtain ⟨k0, hk0⟩ := (impl_AreOwned_ev m v o c hm.2 hv ho).rounds
 have K0 := Aside0.mk hk0
 have HR0 := Aside0.mk (And.intro hr0 hc0)
 have HR1 := Aside0.mk (And.intro hr1 hc1)
 have HR2 := Aside0.mk (And.intro hr2 hc2)
 have HM := Aside0.mk hm
 have HVO := Aside0.mk (And.intro hv ho)
 have hinf : (Try.prog.info? 25).map (fun i => (i.zero, i.size, i.bytes)) = some (some (.slice none 0 0), 1, 24) := by kernel_rfl
 have HINF := Aside0.mk hinf
 have HFE := Aside0.mk (show fewV m v o c = if ownB m v o c = true then fewF m v o c 7 0 else [] from rfl)
 obtain ⟨F, hF⟩ : ∃ F, F = fewV m v o c := ⟨_, rfl⟩
 rw [← hF] at HFE ⊢
 clear hk0 hr0 hc0 hr1 hc1 hr2 hc2 hm hv ho hinf hF
 cases hb : ownB m v o c with
 | false =>
  rw [hb] at K0 HFE
  go_enter Try.func30, Try.ntmps30
  go_wp2_with fail
  go_at_call 41; (refine (impl_AreOwned.calls k0 A0 c0 m A1 c1 v A2 c2 o c false _ HR0.out.1 HR0.out.2 HR1.out.1 HR1.out.2 HR2.out.1 HR2.out.2 K0.out).mono ?_); rintro e w' ⟨rfl, ⟨nd, rfl⟩⟩
  go_wp2
  go_ret
  exact ⟨_, rfl, by rw [HFE.out]; exact Kd.S_nil _ _ _ _ _, (by repeat (first | (with_reducible first | exact Below.refl _ _ | apply below_alloc | apply pw_below_drewN | apply below_drew1) | exact Below.refl _ _))⟩
 | true =>
  rw [hb] at K0 HFE
  go_enter Try.func30, Try.ntmps30
  go_wp2_with fail
  go_at_call 41; (refine (impl_AreOwned.calls k0 A0 c0 m A1 c1 v A2 c2 o c true _ HR0.out.1 HR0.out.2 HR1.out.1 HR1.out.2 HR2.out.1 HR2.out.2 K0.out).mono ?_); rintro e w' ⟨rfl, ⟨nd, rfl⟩⟩
  have HB0 := Aside0.mk (show Below w.heap.size w _ from (by repeat (first | (with_reducible first | exact Below.refl _ _ | apply below_alloc | apply pw_below_drewN | apply below_drew1) | exact Below.refl _ _)))
  go_wp2
  go_loopg [19] 7 (fun gg v19 wr => ∃ (s : Nat), gg = 7 - s ∧ v19 = .int .i64 (s : Int) ∧ Aside0 (s ≤ 7) ∧ Aside0 (fewF m v o c (7 - s) s = F) ∧ Aside0 (Below w.heap.size w wr))
  case atStart => exact ⟨0, rfl, rfl, ⟨by omega⟩, ⟨HFE.out.symm⟩, ⟨by repeat (first | (with_reducible first | exact HB0.out | apply below_alloc | apply pw_below_drewN | apply below_drew1) | exact HB0.out)⟩⟩
  case round =>
   clear HB0
   obtain ⟨s, hgg, rfl, HS7, HF, HB⟩ := hrel
   by_cases hs : s < 7
   ·have hs' : (s : Int) < 7 := by omega
    have HS := Aside0.mk hs
    obtain ⟨L, hL⟩ : ∃ L, L = addV 6 s 0 [] := ⟨_, rfl⟩
    have HL := Aside0.mk hL
    have HLL := Aside0.mk (show L.length ≤ 46656 from by rw [hL]; exact addV_six (by omega) 6 (by omega) 0 [])
    have HLM := Aside0.mk (show ∀ r ∈ L, r.length ≤ 6 from fun r hr => by rw [hL] at hr; have := addV_mem 6 s 0 [] r hr; rw [this]; simp; omega)
    clear hL hs
    go_wp2_with fail
    go_at_call 85; (refine (calls_cast (by rfl) (impl_SetsOf_c 6 s (by omega) (by have := HS.out; omega) (by rw [← HL.out]; have := HLL.out; omega) _)).mono ?_)
    rintro e w2 ⟨vS, rfl, hS, hb2⟩
    rw [← HL.out] at hS
    have HB2 := Aside0.mk (below_step HB.out (below_step (w := wr) (by repeat (first | (with_reducible first | exact Below.refl _ _ | apply below_alloc | apply pw_below_drewN | apply below_drew1) | exact Below.refl _ _)) hb2))
    obtain ⟨f, hft⟩ := Kd.S_lower (Kd.S_mono (ok' := fun k => k < w2.heap.size) (Kd.S_bound hS) (fun k hk => hk.2.2.1)) (Nat.le_trans HB.out.size (show Below wr.heap.size wr _ from (by repeat (first | (with_reducible first | exact Below.refl _ _ | apply below_alloc | apply pw_below_drewN | apply below_drew1) | exact Below.refl _ _))).size)
    obtain ⟨AS, cS, hvS⟩ := Kd.S_slice hS
    subst hvS
    have HT0 := Aside0.mk hft
    clear hft hS hb2 HB
    go_wp2
    go_loopg [10, 25] L.length (fun gg v10 v25 wq => ∃ (pre suf : List (List Int)), gg = suf.length ∧ Aside0 (L = pre ++ suf) ∧ v25 = .int .i64 (pre.length : Int) ∧ Aside0 ((Kd.tag f (Kd.slice 3 (Kd.int .i64))).R 25 wq w.heap.size (fun k => k < w2.heap.size) (.slice AS L.length cS) L.zipIdx) ∧ Aside0 (Kd.S (Kd.slice 3 (Kd.int .i64)) 25 wq w.heap.size (fun k => w2.heap.size ≤ k ∨ (k < w2.heap.size ∧ f k < pre.length)) v10 (selV m v o c pre)) ∧ Aside0 (∀ k, v10.ownBlock = some k → w2.heap.size ≤ k) ∧ Aside0 (w2.heap.size ≤ wq.heap.size) ∧ Aside0 (Below w.heap.size w wq))
    case atStart => exact ⟨[], L, rfl, ⟨rfl⟩, rfl, ⟨by (with_reducible repeat (first | apply Kd.R_alloc | apply Kd.R_drewN | apply Kd.R_drew)); exact HT0.out⟩, ⟨Kd.S_nil _ _ _ _ _⟩, ⟨fun k hk => by simp [Value.ownBlock] at hk⟩, ⟨(show Below w2.heap.size w2 _ from (by repeat (first | (with_reducible first | exact Below.refl _ _ | apply below_alloc | apply pw_below_drewN | apply below_drew1) | exact Below.refl _ _))).size⟩, ⟨by repeat (first | (with_reducible first | exact HB2.out | apply below_alloc | apply pw_below_drewN | apply below_drew1) | exact HB2.out)⟩⟩
    case round =>
     clear HT0 HB2
     obtain ⟨pre, suf, hg2, HE, rfl, HT, HO, HOW, HSZ, HB⟩ := hrel
     cases suf with
     | nil =>
      have e0 : L = pre := by simpa using HE.out
      subst e0
      obtain ⟨Ao, co, rfl⟩ := Kd.S_slice HO.out
      have hnl : ¬ (L.length : Int) < (L.length : Int) := by omega
      have hstep : fewF m v o c (7 - s) s = if (selV m v o c L).length = 0 then fewF m v o c (7 - (s + 1)) (s + 1) else selV m v o c L := by
       have h1 := HS.out
       rw [show 7 - s = (7 - (s + 1)) + 1 by omega, fewF, ← HL.out]
      have HST := Aside0.mk hstep
      clear hstep
      by_cases hz : (selV m v o c L).length = 0
      ·have hz' : ¬ 0 < (selV m v o c L).length := by omega
       have HZ := Aside0.mk hz
       clear hz
       go_wp2_with fail
       go_roundg (7 - (s + 1))
       case measure => have := HS.out; omega
       case rel => exact ⟨s + 1, rfl, by push_cast; rfl, ⟨by have := HS.out; omega⟩, ⟨by rw [← HF.out, HST.out, if_pos HZ.out]⟩, ⟨by repeat (first | (with_reducible first | exact HB.out | apply below_alloc | apply pw_below_drewN | apply below_drew1) | exact HB.out)⟩⟩
      ·have hz' : 0 < (selV m v o c L).length := by omega
       have HZ := Aside0.mk hz
       clear hz
       go_wp2
       go_ret
       exact ⟨_, rfl, by rw [← HF.out, HST.out, if_neg HZ.out]; exact Kd.S_mono HO.out (fun _ _ => trivial), HB.out⟩
     | cons x suf =>
      have hel : L.length = pre.length + (suf.length + 1) := by rw [HE.out]; simp
      have hlt : (pre.length : Int) < (L.length : Int) := by omega
      have hx6 := HLM.out x (by rw [HE.out]; simp)
      obtain ⟨g, rfl⟩ : ∃ g, AS = some ⟨g, 0, none⟩ := by
       obtain ⟨g, cap, e1, _⟩ := Kd.R_form HT.out (by rw [List.length_zipIdx]; omega)
       injection e1 with e1
       exact ⟨g, e1⟩
      obtain ⟨cs, hcl, hM, hcc⟩ := Kd.R_getA HT.out ([], 0) (pre.length : Int) (by omega) (by omega)
      have hgx : L.zipIdx.getD ((pre.length : Int)).toNat ([], 0) = (x, pre.length) := by
       rw [Int.toNat_natCast, List.getD_eq_getElem?_getD, List.getElem?_zipIdx]
       simp [HE.out]
      rw [hgx] at hM
      obtain ⟨vx, rfl, hRx⟩ : ∃ vx, cs = [vx] ∧ Kd.R (Kd.int .i64) 3 wr w.heap.size (fun k => (k < w2.heap.size ∧ some k ≠ (Value.slice (some ⟨g, 0, none⟩) L.length cS).ownBlock) ∧ f k = pre.length) vx x := hM
      obtain ⟨Ax, cx, rfl⟩ := Kd.R_slice hRx
      have hcell : wr.cell? ⟨g, pre.length, none⟩ = some (.slice Ax x.length cx) := by
       have := hcc 0 _ rfl
       rw [add_at] at this
       simpa [Kd.tag, Kd.slice] using this
      obtain ⟨kw, hkw⟩ := (impl_WithoutOwners_ev m o x HM.out HVO.out.2 (by omega)).rounds
      obtain ⟨kv, hkv⟩ := (impl_ValuesWithout_ev v o x HVO.out.1 HVO.out.2 (by omega)).rounds
      obtain ⟨ks, hks⟩ := (impl_IsSolvable_ev (woV m o x) (vwV v o x) c (woV_tot m o x HM.out).2 (Nat.le_trans (vwV_len v o x) HVO.out.1)).rounds
      have KW := Aside0.mk hkw
      have KV := Aside0.mk hkv
      have KS := Aside0.mk hks
      have HRX := Aside0.mk hRx
      have HEL := Aside0.mk hel
      clear hkw hkv hks hRx hcc hgx hcl hel hx6
      go_wp2_with fail
      go_at_call 44; (refine (impl_WithoutOwners.calls kw A0 c0 m A2 c2 o Ax cx x (woV m o x) _ (Kd.C_below HR0.out.1 (below_step HB.out (by repeat (first | (with_reducible first | exact Below.refl _ _ | apply below_alloc | apply pw_below_drewN | apply below_drew1) | exact Below.refl _ _)))) HR0.out.2 (Kd.C_below HR2.out.1 (below_step HB.out (by repeat (first | (with_reducible first | exact Below.refl _ _ | apply below_alloc | apply pw_below_drewN | apply below_drew1) | exact Below.refl _ _)))) HR2.out.2 (Kd.C_below (Kd.R_reads' HRX.out).2.2 (by repeat (first | (with_reducible first | exact Below.refl _ _ | apply below_alloc | apply pw_below_drewN | apply below_drew1) | exact Below.refl _ _))) (Kd.R_reads' HRX.out).2.1 KW.out).mono ?_); rintro e w3 ⟨v3, rfl, hS3, hb3⟩
      have hq3 := below_step (w := wr) (by repeat (first | (with_reducible first | exact Below.refl _ _ | apply below_alloc | apply pw_below_drewN | apply below_drew1) | exact Below.refl _ _)) hb3
      obtain ⟨A3, c3, rfl⟩ := Kd.S_slice hS3
      have Q3 := Aside0.mk hq3
      have HS3 := Aside0.mk hS3
      clear hS3 hb3 hq3
      go_wp2_with fail
      go_at_call 45; (refine (impl_ValuesWithout.calls kv A1 c1 v A2 c2 o Ax cx x (vwV v o x) _ (Kd.C_below HR1.out.1 (below_step HB.out (below_step Q3.out (by repeat (first | (with_reducible first | exact Below.refl _ _ | apply below_alloc | apply pw_below_drewN | apply below_drew1) | exact Below.refl _ _))))) HR1.out.2 (Kd.C_below HR2.out.1 (below_step HB.out (below_step Q3.out (by repeat (first | (with_reducible first | exact Below.refl _ _ | apply below_alloc | apply pw_below_drewN | apply below_drew1) | exact Below.refl _ _))))) HR2.out.2 (Kd.C_below (Kd.R_reads' HRX.out).2.2 (below_step Q3.out (by repeat (first | (with_reducible first | exact Below.refl _ _ | apply below_alloc | apply pw_below_drewN | apply below_drew1) | exact Below.refl _ _)))) (Kd.R_reads' HRX.out).2.1 KV.out).mono ?_); rintro e w4 ⟨v4, rfl, hS4, hb4⟩
      have hq4 := below_step (w := w3) (by repeat (first | (with_reducible first | exact Below.refl _ _ | apply below_alloc | apply pw_below_drewN | apply below_drew1) | exact Below.refl _ _)) hb4
      obtain ⟨A4, c4, rfl⟩ := Kd.R_slice hS4
      have Q4 := Aside0.mk hq4
      have HS4 := Aside0.mk hS4
      clear hS4 hb4 hq4
      cases hsol : solvV (woV m o x) (vwV v o x) c with
      | false =>
       rw [hsol] at KS
       go_wp2_with fail
       go_at_call 43; (refine (impl_IsSolvable.calls ks A3 c3 (woV m o x) A4 c4 (vwV v o x) c false _ (Kd.C_below (Kd.S_reads' HS3.out).2.2 (below_step Q4.out (by repeat (first | (with_reducible first | exact Below.refl _ _ | apply below_alloc | apply pw_below_drewN | apply below_drew1) | exact Below.refl _ _)))) (Kd.S_reads' HS3.out).2.1 (Kd.C_below (Kd.R_reads' HS4.out).2.2 (by repeat (first | (with_reducible first | exact Below.refl _ _ | apply below_alloc | apply pw_below_drewN | apply below_drew1) | exact Below.refl _ _))) (Kd.R_reads' HS4.out).2.1 KS.out).mono ?_); rintro e w5 ⟨rfl, hb5⟩
       have Q5 := Aside0.mk (below_step Q3.out (below_step Q4.out (below_step (w := w4) (by repeat (first | (with_reducible first | exact Below.refl _ _ | apply below_alloc | apply pw_below_drewN | apply below_drew1) | exact Below.refl _ _)) hb5)))
       clear hb5
       go_wp2_with fail
       go_roundg suf.length
       case measure => rw [hg2]; simp
       case rel =>
        refine ⟨pre ++ [x], suf, rfl, ⟨by rw [HE.out]; simp⟩, ?_, ⟨?_⟩, ⟨?_⟩, HOW, ⟨?_⟩, ⟨?_⟩⟩
        ·rw [List.length_append, wsucc (by have := HEL.out; have := HLL.out; omega)]; rfl
        ·exact Kd.R_below HT.out (below_step Q5.out (by repeat (first | (with_reducible first | exact Below.refl _ _ | apply below_alloc | apply pw_below_drewN | apply below_drew1) | exact Below.refl _ _)))
        ·rw [show selV m v o c (pre ++ [x]) = selV m v o c pre by simp [selV, hsol]]
         refine Kd.S_mono (Kd.S_below HO.out (below_step Q5.out (by repeat (first | (with_reducible first | exact Below.refl _ _ | apply below_alloc | apply pw_below_drewN | apply below_drew1) | exact Below.refl _ _)))) (fun k hk => ?_)
         rcases hk with hk | hk
         ·exact .inl hk
         ·exact .inr ⟨hk.1, by simp; omega⟩
        ·exact Nat.le_trans HSZ.out (below_step Q5.out (by repeat (first | (with_reducible first | exact Below.refl _ _ | apply below_alloc | apply pw_below_drewN | apply below_drew1) | exact Below.refl _ _))).size
        ·exact below_step HB.out (below_step Q5.out (by repeat (first | (with_reducible first | exact Below.refl _ _ | apply below_alloc | apply pw_below_drewN | apply below_drew1) | exact Below.refl _ _)))
      | true =>
       rw [hsol] at KS
       go_wp2_with fail
       go_at_call 43; (refine (impl_IsSolvable.calls ks A3 c3 (woV m o x) A4 c4 (vwV v o x) c true _ (Kd.C_below (Kd.S_reads' HS3.out).2.2 (below_step Q4.out (by repeat (first | (with_reducible first | exact Below.refl _ _ | apply below_alloc | apply pw_below_drewN | apply below_drew1) | exact Below.refl _ _)))) (Kd.S_reads' HS3.out).2.1 (Kd.C_below (Kd.R_reads' HS4.out).2.2 (by repeat (first | (with_reducible first | exact Below.refl _ _ | apply below_alloc | apply pw_below_drewN | apply below_drew1) | exact Below.refl _ _))) (Kd.R_reads' HS4.out).2.1 KS.out).mono ?_); rintro e w5 ⟨rfl, hb5⟩
       have Q5 := Aside0.mk (below_step Q3.out (below_step Q4.out (below_step (w := w4) (by repeat (first | (with_reducible first | exact Below.refl _ _ | apply below_alloc | apply pw_below_drewN | apply below_drew1) | exact Below.refl _ _)) hb5)))
       clear hb5
       have HSL := Aside0.mk (show (selV m v o c pre).length ≤ 46656 from Nat.le_trans (selV_sub m v o c pre) (by have := HEL.out; have := HLL.out; omega))
       go_wp2_with ((with_reducible refine gate_builtin (b := .append) (xs := #[.tmp 39, .tmp 41]) rfl ?_); at_builtin; refine Kd.S_append (Kd.slice 3 (Kd.int .i64)) (w0 := w) w.heap.size rfl (.tmp 39) (.tmp 41) 33 25 (.slice none 0 0) 24 rfl Try.underlying33 HINF.out rfl (by decide) (by omega) _ (selV m v o c pre) x [.slice Ax x.length cx] (fun k => w2.heap.size ≤ k ∨ (k < w2.heap.size ∧ f k < pre.length + 1)) (fun k => k < w2.heap.size ∧ f k = pre.length) rfl rfl ?aP ?aK ?aF ?aO ?aB ?aS ?aL ?_; (case aP => exact ⟨_, rfl, Kd.R_mono (Kd.R_below HRX.out (below_step Q5.out (by repeat (first | (with_reducible first | exact Below.refl _ _ | apply below_alloc | apply pw_below_drewN | apply below_drew1) | exact Below.refl _ _)))) (fun k hk => ⟨hk.1.1, hk.2⟩)⟩); (case aK => exact fun k hk => ⟨.inr ⟨hk.1, by omega⟩, fun he => by have := HOW.out k he.symm; omega⟩); (case aF => exact fun k hk => .inl (Nat.le_trans (Nat.le_trans HSZ.out (below_step Q5.out (by repeat (first | (with_reducible first | exact Below.refl _ _ | apply below_alloc | apply pw_below_drewN | apply below_drew1) | exact Below.refl _ _))).size) hk)); (case aO => exact Kd.S_mono (Kd.S_below HO.out (below_step Q5.out (by repeat (first | (with_reducible first | exact Below.refl _ _ | apply below_alloc | apply pw_below_drewN | apply below_drew1) | exact Below.refl _ _)))) (fun k hk => by rcases hk with hk | hk; exact ⟨.inl hk, fun h => by omega⟩; exact ⟨.inr ⟨hk.1, by omega⟩, fun h => by omega⟩)); (case aB => exact below_step HB.out (below_step Q5.out (by repeat (first | (with_reducible first | exact Below.refl _ _ | apply below_alloc | apply pw_below_drewN | apply below_drew1) | exact Below.refl _ _)))); (case aS => exact (below_step HB.out (below_step Q5.out (by repeat (first | (with_reducible first | exact Below.refl _ _ | apply below_alloc | apply pw_below_drewN | apply below_drew1) | exact Below.refl _ _)))).size); (case aL => have := HSL.out; omega); intro v6 w6 hS6 hB6 hg6 hat6; have HS6 := Aside0.mk hS6; have HB6 := Aside0.mk hB6; have HG6 := Aside0.mk hg6; have HA6 := Aside0.mk hat6; clear hS6 hB6 hg6 hat6)
       go_roundg suf.length
       case measure => rw [hg2]; simp
       case rel =>
        refine ⟨pre ++ [x], suf, rfl, ⟨by rw [HE.out]; simp⟩, ?_, ⟨?_⟩, ⟨?_⟩, ⟨?_⟩, ⟨?_⟩, ⟨?_⟩⟩
        ·rw [List.length_append, wsucc (by have := HEL.out; have := HLL.out; omega)]; rfl
        ·exact Kd.R_grown (Kd.R_below HT.out (below_step Q5.out (by repeat (first | (with_reducible first | exact Below.refl _ _ | apply below_alloc | apply pw_below_drewN | apply below_drew1) | exact Below.refl _ _)))) HG6.out (fun k hk he => by have := HOW.out k he.symm; omega)
        ·rw [show selV m v o c (pre ++ [x]) = selV m v o c pre ++ [x] by simp [selV, hsol]]
         rw [List.length_append]
         exact HS6.out
        ·intro k hk
         rcases HA6.out with h | ⟨b, h, hb⟩
         ·exact HOW.out k (h.symm.trans hk)
         ·rw [h] at hk; injection hk with hk; subst hk; exact Nat.le_trans (Nat.le_trans HSZ.out (below_step Q5.out (by repeat (first | (with_reducible first | exact Below.refl _ _ | apply below_alloc | apply pw_below_drewN | apply below_drew1) | exact Below.refl _ _))).size) hb
        ·exact Nat.le_trans (Nat.le_trans HSZ.out (below_step Q5.out (by repeat (first | (with_reducible first | exact Below.refl _ _ | apply below_alloc | apply pw_below_drewN | apply below_drew1) | exact Below.refl _ _))).size) HG6.out.size
        ·exact HB6.out
   ·have hs' : ¬ (s : Int) < 7 := by omega
    have hs7 : s = 7 := by have := HS7.out; omega
    subst hs7
    go_wp2
    go_ret
    exact ⟨_, rfl, by rw [← HF.out]; exact Kd.S_nil _ _ _ _ _, by repeat (first | (with_reducible first | exact HB.out | apply below_alloc | apply pw_below_drewN | apply below_drew1) | exact HB.out)⟩
/-! ### idxf -/
/-! ### sure -/
def allHas (l : List (List Int)) (i : Nat) : Bool := l.all fun s => hasB s (i : Int)
def sureL (l : List (List Int)) (n : Nat) : List Int := ((List.range n).filter (allHas l)).map fun (i : Nat) => (i : Int)
theorem sureL_succ (l : List (List Int)) (n : Nat) : sureL l (n + 1) = sureL l n ++ (if allHas l n = true then [(n : Int)] else []) := by
 unfold sureL
 rw [List.range_succ, List.filter_append, List.map_append]
 congr 1
 by_cases h : allHas l n = true <;> simp [h]
theorem sureL_len (l : List (List Int)) (n : Nat) : (sureL l n).length ≤ n := by
 unfold sureL
 rw [List.length_map]
 refine Nat.le_trans (List.length_filter_le _ _) ?_
 simp
def sureV (m : List (List Int)) (v o : List Int) (c : Int) : List Int := if (fewV m v o c).length = 0 then [] else sureL (fewV m v o c) 6
theorem sureV_len (m : List (List Int)) (v o : List Int) (c : Int) : (sureV m v o c).length ≤ 6 := by
 unfold sureV
 split
 ·simp
 ·exact sureL_len _ 6
theorem spec_SureLiars_l1 (l : List (List Int)) (hl : l.length ≤ 46656) (hr : ∀ r ∈ l, r.length ≤ 6) (n : Nat) (hn : n < 6) (out : List Int) (ho : out.length ≤ n) (R : List Int) : ∀ (suf pre : List (List Int)) (b : Bool), l = pre ++ suf →
  Ev (fun k => spec_SureLiars.l0 k (out ++ (if (b && suf.all fun s => hasB s (n : Int)) = true then [(n : Int)] else [])) l ((n + 1 : Nat) : Int)) R → Ev (fun k => spec_SureLiars.l1 k out l (n : Int) b (pre.length : Int)) R := by
 intro suf
 induction suf with
 | nil =>
  intro pre b e h
  refine Ev.step (fun k => by rw [spec_SureLiars.l1]) ?_
  refine evNeg (by rw [e]; simp) ?_
  rw [wsucc (by omega)]
  cases b with
  | true => refine evPos rfl (evPos (by omega) ?_); simpa using h
  | false => refine evNeg (by decide) ?_; simpa using h
 | cons x suf ih =>
  intro pre b e h
  have hel : l.length = pre.length + (suf.length + 1) := by rw [e]; simp
  have hx := hr x (by rw [e]; simp)
  have hg : rd_L1 l (pre.length : Int) = x := by rw [rd_L1, e, getD_mid]
  refine Ev.step (fun k => by rw [spec_SureLiars.l1]) ?_
  refine evPos (by omega) ?_
  rw [hg, wsucc (by omega)]
  cases b with
  | true =>
   refine evPos rfl (evPos (by omega) (Ev.bind (spec_l7Has_ev x n (by omega)) ?_))
   have h2 := ih (pre ++ [x]) (hasB x (n : Int)) (by rw [e]; simp) (by simpa using h)
   simpa using h2
  | false =>
   refine evNeg (by decide) ?_
   have h2 := ih (pre ++ [x]) false (by rw [e]; simp) (by simpa using h)
   simpa using h2
theorem spec_SureLiars_l0 (l : List (List Int)) (hl : l.length ≤ 46656) (hr : ∀ r ∈ l, r.length ≤ 6) : ∀ (d n : Nat), n + d = 6 →
  Ev (fun k => spec_SureLiars.l0 k (if l.length = 0 then [] else sureL l n) l (n : Int)) (if l.length = 0 then [] else sureL l 6) := by
 intro d
 induction d with
 | zero =>
  intro n e
  obtain rfl : n = 6 := by omega
  refine Ev.step (fun k => by rw [spec_SureLiars.l0]) ?_
  refine evNeg (by omega) (Ev.step (fun k => by rw [spec_SureLiars.j1]) ?_)
  exact evNeg (by decide) (Ev.now _)
 | succ d ih =>
  intro n e
  refine Ev.step (fun k => by rw [spec_SureLiars.l0]) ?_
  refine evPos (by omega) (Ev.step (fun k => by rw [spec_SureLiars.j1]) ?_)
  by_cases h0 : l.length = 0
  ·rw [if_pos h0, if_pos h0]
   exact evNeg (by rw [decide_eq_true_eq]; omega) (Ev.now _)
  ·have h := ih (n + 1) (by omega)
   rw [if_neg h0, if_neg h0] at h ⊢
   refine evPos (by rw [decide_eq_true_eq]; omega) ?_
   refine spec_SureLiars_l1 l hl hr n (by omega) (sureL l n) (sureL_len l n) _ l [] true rfl ?_
   rw [sureL_succ] at h
   simpa [allHas] using h
theorem spec_SureLiars_ev (m : List (List Int)) (v o : List Int) (c : Int) (hm : okII m) (hv : v.length ≤ 1048576) (ho : o.length ≤ 1048576) : Ev (fun k => spec_SureLiars.f k m v o c) (sureV m v o c) := by
 unfold spec_SureLiars.f
 refine Ev.bind (spec_FewestLiars_ev m v o c hm hv ho) ?_
 have hf := fewV_mem m v o c
 have h := spec_SureLiars_l0 (fewV m v o c) hf.1 hf.2 6 0 rfl
 refine evEq (by rfl) (Ev.congr (fun k => ?_) h)
 by_cases h0 : (fewV m v o c).length = 0 <;> simp [h0, sureL]
/-! ### sureh -/
set_option maxHeartbeats 2000000 in
theorem SL1_c (g : Nat) (q : Int) (A : Option Addr) (c : Nat) (x : List Int) (w : World) (hg : w.heap[g]? = some (.cells #[.int .i64 q] 3 (0, 0))) (hr : Kd.C (Kd.int .i64) w A x.length x) (hc : x.length ≤ c) (hl : x.length ≤ 1048576) :
  Calls Try.prog 104 #[.slice A x.length c, .pointer (some ⟨g, 0, none⟩)] w fun e w' => e = .returned (.bool (!hasB x q)) ∧ Below w.heap.size w w' := by
 obtain ⟨k, hk⟩ := (slices_Contains_ev x q hl).rounds
 have K := Aside0.mk hk
 have HR := Aside0.mk hr
 have hcg := (blk_cell hg 0).trans rfl
 clear hk hr hg
 go_enter Try.func104, Try.ntmps104
 go_wp2_with fail
 go_at_call 96; (with_reducible refine (slices_Contains_int_int.calls k _ _ x q _ _ ?s0 hc K.out).mono ?_); (case s0 => exact HR.out); rintro e w' ⟨rfl, ⟨nd, rfl⟩⟩
 go_wp2
 go_ret
 exact ⟨rfl, by repeat (first | (with_reducible first | exact Below.refl _ _ | apply below_alloc | apply pw_below_drewN | apply below_drew1) | exact Below.refl _ _)⟩
set_option maxHeartbeats 2000000 in
theorem idxf_SL (p : List Int → Bool) (lb : Array Value) (A0 : Option Addr) (c0 : Nat) (l0 : List (List Int)) (w : World) (hr0 : Kd.C (Kd.slice 3 (Kd.int .i64)) w A0 l0.length l0) (hl : l0.length ≤ 1048576)
  (hp : ∀ x A c W, Below w.heap.size w W → x ∈ l0 → x.length ≤ c → Kd.C (Kd.int .i64) W A x.length x → Calls Try.prog 104 (#[.slice A x.length c] ++ lb) W fun e w' => e = .returned (.bool (p x)) ∧ Below W.heap.size W w') :
  Calls Try.prog 160 #[.slice A0 l0.length c0, .func (.func 104) #[] lb] w fun e w' => e = .returned (.int .i64 (firstP p l0 0)) ∧ Below w.heap.size w w' := by
 have HR0 := Aside0.mk hr0
 have HP := Aside0.mk hp
 have eg : ∀ args w, (callFunc 104 args).run Try.prog w = .ok (.enter 104 args) w := by
  intro args w
  have h1 : Try.f104.name ≠ "runtime.NumGoroutine" := by decide
  obtain ⟨c_, hb⟩ : ∃ c_, Try.f104.body = some c_ := ⟨_, rfl⟩
  simp [callFunc, Try.func104, h1, hb, mark]
 clear hr0 hp
 go_enter Try.func160, Try.ntmps160
 go_wp2
 go_loopg [8] l0.length (fun gg v8 wr => ∃ (pre suf : List (List Int)), gg = suf.length ∧ Aside0 (l0 = pre ++ suf) ∧ v8 = .int .i64 (pre.length : Int) ∧ Aside0 (firstP p suf pre.length = firstP p l0 0) ∧ Aside0 (Below w.heap.size w wr))
 case atStart => exact ⟨[], l0, rfl, ⟨rfl⟩, rfl, ⟨rfl⟩, ⟨(by repeat (first | (with_reducible first | exact Below.refl _ _ | apply below_alloc | apply pw_below_drewN | apply below_drew1) | exact Below.refl _ _))⟩⟩
 case round =>
  obtain ⟨pre, suf, hgg, HE, rfl, HA, HB⟩ := hrel
  cases suf with
  | nil =>
   have hlt : ¬ (pre.length : Int) < (l0.length : Int) := by rw [HE.out]; simp
   go_wp2
   go_ret
   exact ⟨by rw [← HA.out]; rfl, HB.out⟩
  | cons x suf =>
   have hlt : (pre.length : Int) < (l0.length : Int) := by rw [HE.out]; simp; omega
   obtain ⟨ad, Ax, cx, e, hc, hlx, hrx⟩ := at_L1 (Kd.C_below HR0.out HB.out) (pre.length : Int) (by omega) hlt
   have hx : rd_L1 l0 (pre.length : Int) = x := by rw [rd_L1, HE.out, getD_mid]
   rw [hx] at hc hlx hrx
   cases e
   have hc2 : wr.cell? (ad.add pre.length) = some (.slice Ax x.length cx) := by simpa using hc
   have HCALL := Aside0.mk (HP.out x Ax cx)
   have HM := Aside0.mk (show x ∈ l0 by rw [HE.out]; simp)
   have HRX := Aside0.mk hrx
   have HLX := Aside0.mk hlx
   clear hx hc hlx hrx
   cases hp : p x with
   | true =>
    rw [hp] at HCALL
    go_wp2_with fail
    go_at_call 104; (refine (HCALL.out _ ?hbel HM.out HLX.out ?hrd).mono ?_); (case hbel => repeat (first | (with_reducible first | exact HB.out | apply below_alloc | apply pw_below_drewN | apply below_drew1) | exact HB.out)); (case hrd => exact Kd.C_below HRX.out (by repeat (first | (with_reducible first | exact Below.refl _ _ | apply below_alloc | apply pw_below_drewN | apply below_drew1) | exact Below.refl _ _))); rintro e w' ⟨rfl, hb'⟩
    have HB2 := Aside0.mk (below_step (w := w) (by repeat (first | (with_reducible first | exact HB.out | apply below_alloc | apply pw_below_drewN | apply below_drew1) | exact HB.out)) hb')
    clear hb'
    go_wp2
    go_ret
    exact ⟨by rw [← HA.out, firstP, if_pos hp]; rfl, HB2.out⟩
   | false =>
    rw [hp] at HCALL
    go_wp2_with fail
    go_at_call 104; (refine (HCALL.out _ ?hbel HM.out HLX.out ?hrd).mono ?_); (case hbel => repeat (first | (with_reducible first | exact HB.out | apply below_alloc | apply pw_below_drewN | apply below_drew1) | exact HB.out)); (case hrd => exact Kd.C_below HRX.out (by repeat (first | (with_reducible first | exact Below.refl _ _ | apply below_alloc | apply pw_below_drewN | apply below_drew1) | exact Below.refl _ _))); rintro e w' ⟨rfl, hb'⟩
    have HB2 := Aside0.mk (below_step (w := w) (by repeat (first | (with_reducible first | exact HB.out | apply below_alloc | apply pw_below_drewN | apply below_drew1) | exact HB.out)) hb')
    clear hb'
    have HL := Aside0.mk hl
    have HLT := Aside0.mk hlt
    clear hl hlt
    go_wp2_with fail
    go_roundg suf.length
    case measure => rw [hgg]; simp
    case rel => exact ⟨pre ++ [x], suf, rfl, ⟨by rw [HE.out]; simp⟩, by rw [wsucc (by have := HL.out; have := HLT.out; omega)]; simp, ⟨by rw [← HA.out, firstP, if_neg (by rw [hp]; decide)]; simp⟩, ⟨HB2.out⟩⟩
set_option maxHeartbeats 2000000 in
theorem containsf_SL (p : List Int → Bool) (lb : Array Value) (A0 : Option Addr) (c0 : Nat) (l0 : List (List Int)) (w : World) (hr0 : Kd.C (Kd.slice 3 (Kd.int .i64)) w A0 l0.length l0) (hl : l0.length ≤ 1048576)
  (hp : ∀ x A c W, Below w.heap.size w W → x ∈ l0 → x.length ≤ c → Kd.C (Kd.int .i64) W A x.length x → Calls Try.prog 104 (#[.slice A x.length c] ++ lb) W fun e w' => e = .returned (.bool (p x)) ∧ Below W.heap.size W w') :
  Calls Try.prog 103 #[.slice A0 l0.length c0, .func (.func 104) #[] lb] w fun e w' => e = .returned (.bool (l0.any p)) ∧ Below w.heap.size w w' := by
 have H := Aside0.mk (idxf_SL p lb A0 c0 l0 w hr0 hl hp)
 rw [← firstP_any p l0 0]
 clear hr0 hp
 go_enter Try.func103, Try.ntmps103
 go_wp2_with fail
 go_at_call 160; (with_reducible refine (H.out).mono ?_); rintro e w' ⟨rfl, hb⟩
 have HB := Aside0.mk hb
 clear hb
 go_wp2
 go_ret
 exact ⟨rfl, HB.out⟩
set_option maxHeartbeats 8000000 in
set_option maxRecDepth 100000 in
theorem impl_SureLiars_c (A0 : Option Addr) (c0 : Nat) (m : List (List Int)) (A1 : Option Addr) (c1 : Nat) (v : List Int) (A2 : Option Addr) (c2 : Nat) (o : List Int) (c : Int) (w : World) (hr0 : Kd.C (Kd.slice 3 (Kd.int .i64)) w A0 m.length m) (hc0 : m.length ≤ c0) (hr1 : Kd.C (Kd.int .i64) w A1 v.length v) (hc1 : v.length ≤ c1) (hr2 : Kd.C (Kd.int .i64) w A2 o.length o) (hc2 : o.length ≤ c2) (hm : okII m) (hv : v.length ≤ 1048576) (ho : o.length ≤ 1048576) :
  Calls Try.prog 46 #[.slice A0 m.length c0, .slice A1 v.length c1, .slice A2 o.length c2, .int .i64 c] w fun e w' => ∃ u, e = .returned u ∧ Kd.R (Kd.int .i64) 3 w' w.heap.size (fun _ => True) u (sureV m v o c) ∧ Below w.heap.size w w' := by
 obtain ⟨L, hL⟩ : ∃ L, L = fewV m v o c := ⟨_, rfl⟩
 have hmem := fewV_mem m v o c
 have H0 := impl_FewestLiars_c A0 c0 m A1 c1 v A2 c2 o c w hr0 hc0 hr1 hc1 hr2 hc2 hm hv ho
 have hsv : sureV m v o c = if L.length = 0 then [] else sureL L 6 := by rw [hL]; rfl
 rw [← hL] at hmem H0
 obtain ⟨F, hF⟩ : ∃ F, F = sureV m v o c := ⟨_, rfl⟩
 rw [← hF] at hsv ⊢
 have HF := Aside0.mk hsv
 have H := Aside0.mk H0
 have HMEM := Aside0.mk hmem
 have hin3 : (Try.prog.info? 3).map (fun i => (i.zero, i.size, i.bytes)) = some (some (.int .i64 0), 1, 8) := by kernel_rfl
 have HIN3 := Aside0.mk hin3
 clear hmem H0 hL hsv hF hr0 hc0 hr1 hc1 hr2 hc2 hm hv ho hin3
 have eg : ∀ args w, (callFunc 104 args).run Try.prog w = .ok (.enter 104 args) w := by
  intro args w
  have h1 : Try.f104.name ≠ "runtime.NumGoroutine" := by decide
  obtain ⟨c_, hb⟩ : ∃ c_, Try.f104.body = some c_ := ⟨_, rfl⟩
  simp [callFunc, Try.func104, h1, hb, mark]
 go_enter Try.func46, Try.ntmps46
 go_wp2_with fail
 go_at_call 30; (refine (H.out).mono ?_); rintro e w2 ⟨vS, rfl, hS, hb⟩
 obtain ⟨AS, cS, rfl⟩ := Kd.S_slice hS
 have HS := Aside0.mk (Kd.S_reads' hS)
 have HB0 := Aside0.mk hb
 clear hS hb
 by_cases h0 : L.length = 0
 ·have h0' : ¬ 0 < L.length := by omega
  go_wp2
  go_ret
  exact ⟨_, rfl, by rw [HF.out, if_pos h0]; exact Kd.R_nil _ _ _ _ _, by repeat (first | (with_reducible first | exact HB0.out | apply below_alloc | apply pw_below_drewN | apply below_drew1) | exact HB0.out)⟩
 ·have HN0 := Aside0.mk h0
  go_wp2
  generalize hbz : ((L.length : Int) == 0) = bz
  clear hbz
  go_loopg [10, 20] 6 (fun gg v10 v20 wr => ∃ (q : Nat), gg = 6 - q ∧ v20 = .int .i64 (q : Int) ∧ Aside0 (q ≤ 6) ∧ Aside0 (Kd.R (Kd.int .i64) 3 wr w2.heap.size (fun _ => True) v10 (sureL L q)) ∧ Aside0 (Below w2.heap.size w2 wr))
  case atStart => exact ⟨0, rfl, rfl, ⟨by omega⟩, ⟨by simpa [sureL] using Kd.R_nil _ _ _ _ _⟩, ⟨(by repeat (first | (with_reducible first | exact Below.refl _ _ | apply below_alloc | apply pw_below_drewN | apply below_drew1) | exact Below.refl _ _))⟩⟩
  case round =>
   obtain ⟨q, hgg, rfl, HQ, HO, HB⟩ := hrel
   by_cases hq : q < 6
   ·have hq' : (q : Int) < 6 := by omega
    have HQ6 := Aside0.mk hq
    obtain ⟨A10, c10, rfl⟩ := Kd.R_slice HO.out
    have HLN := Aside0.mk (sureL_len L q)
    clear hq
    cases hall : allHas L q with
    | true =>
     have hany : (L.any fun s => !hasB s (q : Int)) = false := by
      unfold allHas at hall
      rw [List.all_eq_true] at hall
      rw [List.any_eq_false]
      intro s hs
      simp [hall s hs]
     have HANY := Aside0.mk hany
     clear hany
     go_wp2_with fail
     refine calls_gen (fun W' => Below wr.heap.size wr W' ∧ W'.heap[wr.heap.size]? = some (.cells #[.int .i64 (q : Int)] 3 (0, 0))) ⟨?gb, ?gn⟩ ?_
     case gb => repeat (first | (with_reducible exact Below.refl _ _) | refine below_set ?_ (Nat.le_refl _) | apply below_alloc | apply pw_below_drewN)
     case gn => (first | exact blk_set (blk_new _ _) 0 _ | exact blk_new _ _)
     rintro w3 ⟨hb3, hx3⟩
     have HB3 := Aside0.mk hb3
     have HX3 := Aside0.mk hx3
     clear hb3 hx3
     go_at_call 103; (refine (containsf_SL (fun s => !hasB s (q : Int)) #[.pointer (some ⟨wr.heap.size, 0, none⟩)] AS cS L _ (Kd.C_below HS.out.2.2 (below_step HB.out (below_step HB3.out (by repeat (first | (with_reducible first | exact Below.refl _ _ | apply below_alloc | apply pw_below_drewN | apply below_drew1) | exact Below.refl _ _))))) (by have := HMEM.out.1; omega) ?s1).mono ?_)
     case s1 =>
      intro x A c W hW hxm hxc hxr
      exact SL1_c wr.heap.size (q : Int) A c x W (blk_below HX3.out (below_step (w := w3) (by repeat (first | (with_reducible first | exact Below.refl _ _ | apply below_alloc | apply pw_below_drewN | apply below_drew1) | exact Below.refl _ _)) hW)) hxr hxc (by have := HMEM.out.2 x hxm; omega)
     rintro e w4 ⟨rfl, hb4⟩
     rw [HANY.out]
     have HB4 := Aside0.mk (below_step HB3.out (below_step (w := w3) (by repeat (first | (with_reducible first | exact Below.refl _ _ | apply below_alloc | apply pw_below_drewN | apply below_drew1) | exact Below.refl _ _)) hb4))
     have hc4 := (blk_cell (blk_below HX3.out (below_step (w := w3) (by repeat (first | (with_reducible first | exact Below.refl _ _ | apply below_alloc | apply pw_below_drewN | apply below_drew1) | exact Below.refl _ _)) hb4)) 0).trans rfl
     clear hb4
     go_wp2_with ((with_reducible refine gate_builtin (b := .append) (xs := #[.tmp 27, .tmp 29]) rfl ?_); at_builtin; refine Kd.R_append (Kd.int .i64) (w0 := w2) w2.heap.size rfl (.tmp 27) (.tmp 29) 25 3 (.int .i64 0) 8 rfl Try.underlying25 HIN3.out rfl (by decide) (by omega) (.slice A10 (sureL L q).length c10) (sureL L q) (q : Int) [.int .i64 (q : Int)] (fun _ => True) (fun _ => False) rfl rfl ?aP (fun _ h => h.elim) (fun _ _ => trivial) ?aO ?aB ?aS ?aL ?_; (case aP => exact rfl); (case aO => exact Kd.R_below HO.out (below_step HB4.out (by repeat (first | (with_reducible first | exact Below.refl _ _ | apply below_alloc | apply pw_below_drewN | apply below_drew1) | exact Below.refl _ _)))); (case aB => exact below_step HB.out (below_step HB4.out (by repeat (first | (with_reducible first | exact Below.refl _ _ | apply below_alloc | apply pw_below_drewN | apply below_drew1) | exact Below.refl _ _)))); (case aS => exact (below_step HB.out (below_step HB4.out (by repeat (first | (with_reducible first | exact Below.refl _ _ | apply below_alloc | apply pw_below_drewN | apply below_drew1) | exact Below.refl _ _)))).size); (case aL => have := HLN.out; omega); intro v5 w5 hR5 hB5 hg5 hat5; have HR5 := Aside0.mk hR5; have HB5 := Aside0.mk hB5; have HG5 := Aside0.mk hg5; clear hR5 hB5 hg5 hat5)
     go_roundg (6 - (q + 1))
     case measure => have := HQ6.out; omega
     case rel =>
      refine ⟨q + 1, rfl, by push_cast; rfl, ⟨by have := HQ6.out; omega⟩, ⟨by rw [sureL_succ, if_pos hall]; exact HR5.out⟩, HB5⟩
    | false =>
     have hany : (L.any fun s => !hasB s (q : Int)) = true := by
      unfold allHas at hall
      rw [List.all_eq_false] at hall
      obtain ⟨s, hs, hs2⟩ := hall
      exact List.any_eq_true.2 ⟨s, hs, by simpa using hs2⟩
     have HANY := Aside0.mk hany
     clear hany
     go_wp2_with fail
     refine calls_gen (fun W' => Below wr.heap.size wr W' ∧ W'.heap[wr.heap.size]? = some (.cells #[.int .i64 (q : Int)] 3 (0, 0))) ⟨?gb, ?gn⟩ ?_
     case gb => repeat (first | (with_reducible exact Below.refl _ _) | refine below_set ?_ (Nat.le_refl _) | apply below_alloc | apply pw_below_drewN)
     case gn => (first | exact blk_set (blk_new _ _) 0 _ | exact blk_new _ _)
     rintro w3 ⟨hb3, hx3⟩
     have HB3 := Aside0.mk hb3
     have HX3 := Aside0.mk hx3
     clear hb3 hx3
     go_at_call 103; (refine (containsf_SL (fun s => !hasB s (q : Int)) #[.pointer (some ⟨wr.heap.size, 0, none⟩)] AS cS L _ (Kd.C_below HS.out.2.2 (below_step HB.out (below_step HB3.out (by repeat (first | (with_reducible first | exact Below.refl _ _ | apply below_alloc | apply pw_below_drewN | apply below_drew1) | exact Below.refl _ _))))) (by have := HMEM.out.1; omega) ?s1).mono ?_)
     case s1 =>
      intro x A c W hW hxm hxc hxr
      exact SL1_c wr.heap.size (q : Int) A c x W (blk_below HX3.out (below_step (w := w3) (by repeat (first | (with_reducible first | exact Below.refl _ _ | apply below_alloc | apply pw_below_drewN | apply below_drew1) | exact Below.refl _ _)) hW)) hxr hxc (by have := HMEM.out.2 x hxm; omega)
     rintro e w4 ⟨rfl, hb4⟩
     rw [HANY.out]
     have HB4 := Aside0.mk (below_step HB3.out (below_step (w := w3) (by repeat (first | (with_reducible first | exact Below.refl _ _ | apply below_alloc | apply pw_below_drewN | apply below_drew1) | exact Below.refl _ _)) hb4))
     clear hb4
     go_wp2_with fail
     go_roundg (6 - (q + 1))
     case measure => have := HQ6.out; omega
     case rel =>
      refine ⟨q + 1, rfl, by push_cast; rfl, ⟨by have := HQ6.out; omega⟩, ⟨by rw [sureL_succ, if_neg (by rw [hall]; decide), List.append_nil]; exact Kd.R_below HO.out (below_step HB4.out (by repeat (first | (with_reducible first | exact Below.refl _ _ | apply below_alloc | apply pw_below_drewN | apply below_drew1) | exact Below.refl _ _)))⟩, ⟨below_step HB.out (below_step HB4.out (by repeat (first | (with_reducible first | exact Below.refl _ _ | apply below_alloc | apply pw_below_drewN | apply below_drew1) | exact Below.refl _ _)))⟩⟩
   ·have hq' : ¬ (q : Int) < 6 := by omega
    have hq6 : q = 6 := by have := HQ.out; omega
    subst hq6
    obtain ⟨A10, c10, rfl⟩ := Kd.R_slice HO.out
    go_wp2
    go_ret
    exact ⟨_, rfl, by rw [HF.out, if_neg HN0.out]; exact Kd.R_lower HO.out HB0.out.size, below_step HB0.out HB.out⟩
/-! ### mints -/
def mkI : Int → Nat → List Int
 | _, 0 => []
 | k, n + 1 => k :: mkI (k + 1) n
theorem mkI_length : ∀ (n : Nat) (k : Int), (mkI k n).length = n
 | 0, _ => rfl
 | n + 1, k => by simp [mkI, mkI_length n]
theorem markIntS_l0 : ∀ (suf pre : List Int) (m : Int), (pre ++ suf).length ≤ 1048576 → 0 ≤ m → m + suf.length ≤ 4611686018427387904 →
  Ev (fun k => laws_markIntS.l0 k (pre ++ suf) m (pre.length : Int)) (m + suf.length, pre ++ mkI m suf.length) := by
 intro suf
 induction suf with
 | nil =>
  intro pre m hb h0 hm
  refine Ev.step (fun k => by rw [laws_markIntS.l0]) ?_
  refine evNeg (by simp) (evEq ?_ (Ev.now _))
  simp [mkI]
 | cons x suf ih =>
  intro pre m hb h0 hm
  simp only [List.length_append, List.length_cons] at hb hm
  refine Ev.step (fun k => by rw [laws_markIntS.l0]) ?_
  refine evPos (by simp only [List.length_append, List.length_cons]; omega) (evPos (by omega) ?_)
  rw [set_mid, wsucc (by omega), w64 (by omega) (by omega)]
  have h := ih (pre ++ [m]) (m + 1) (by simp; omega) (by omega) (by omega)
  refine evEq ?_ (Ev.congr (fun k => ?_) h)
  ·simp [mkI]
   omega
  ·simp
theorem markIntS_ev (l : List Int) (m : Int) (hl : l.length ≤ 1048576) (h0 : 0 ≤ m) (hm : m ≤ 1099511627776) : Ev (fun k => laws_markIntS.f k l m) (m + l.length, mkI m l.length) := by
 have h := markIntS_l0 l [] m (by simpa using hl) h0 (by omega)
 simpa [laws_markIntS.f] using h
theorem heldIntS_l0 : ∀ (n : Nat) (pre : List Int) (m : Int), pre.length + n ≤ 1048576 → 0 ≤ m → m + n ≤ 4611686018427387904 →
  Ev (fun k => laws_heldIntS.l0 k (pre ++ mkI m n) m (pre.length : Int)) (m + n) := by
 intro n
 induction n with
 | zero =>
  intro pre m hb h0 hm
  refine Ev.step (fun k => by rw [laws_heldIntS.l0]) ?_
  refine evNeg (by simp [mkI]) (evEq ?_ (Ev.now _))
  simp
 | succ n ih =>
  intro pre m hb h0 hm
  refine Ev.step (fun k => by rw [laws_heldIntS.l0]) ?_
  refine evPos (by simp only [List.length_append, mkI_length]; omega) (evPos (by omega) ?_)
  rw [mkI, rd_mid, wsucc (by omega), w64 (by omega) (by omega)]
  refine evPos rfl ?_
  have h := ih (pre ++ [m]) (m + 1) (by simp; omega) (by omega) (by omega)
  refine evEq ?_ (Ev.congr (fun k => ?_) h)
  ·omega
  ·simp
theorem heldIntS_ev (n : Nat) (m : Int) (hl : n ≤ 1048576) (h0 : 0 ≤ m) (hm : m ≤ 1099511627776) : Ev (fun k => laws_heldIntS.f k (mkI m n) m) (m + n) := by
 have h := heldIntS_l0 n [] m (by simpa using hl) h0 (by omega)
 simpa [laws_heldIntS.f] using h
/-! ### markintss -/
def totL : List (List Int) → Nat
 | [] => 0
 | r :: rs => r.length + totL rs
def mkII : Int → List (List Int) → List (List Int)
 | _, [] => []
 | a, r :: rs => mkI a r.length :: mkII (a + r.length) rs
theorem mkII_length : ∀ (l : List (List Int)) (a : Int), (mkII a l).length = l.length
 | [], _ => rfl
 | r :: rs, a => by simp [mkII, mkII_length rs]
theorem totL_snoc : ∀ (l : List (List Int)) (x : List Int), totL (l ++ [x]) = totL l + x.length
 | [], x => by simp [totL]
 | r :: rs, x => by simp only [List.cons_append, totL, totL_snoc rs x]; omega
theorem mkII_snoc : ∀ (l : List (List Int)) (x : List Int) (a : Int), mkII a (l ++ [x]) = mkII a l ++ [mkI (a + totL l) x.length]
 | [], x, a => by simp [mkII, totL]
 | r :: rs, x, a => by
  simp only [List.cons_append, mkII, totL, mkII_snoc rs x]
  rw [show a + (r.length : Int) + (totL rs : Int) = a + ((r.length + totL rs : Nat) : Int) by omega]
theorem totL_append : ∀ (l m : List (List Int)), totL (l ++ m) = totL l + totL m
 | [], m => by simp [totL]
 | r :: rs, m => by simp only [List.cons_append, totL, totL_append rs m]; omega
set_option maxHeartbeats 2000000 in
theorem markIntSS_c (P0 : Nat → Prop) (u : Value) (l0 : List (List Int)) (a1 : Int) (w0 w : World) (hB : Below w0.heap.size w0 w) (ho0 : Kd.S (Kd.slice 3 (Kd.int .i64)) 25 w w0.heap.size P0 u l0) (hl : okII l0) (h0 : 0 ≤ a1) (h1 : a1 + totL l0 ≤ 1099511627776) :
  Calls Try.prog 19 #[u, .int .i64 a1] w fun e w' => e = .returned (.int .i64 (a1 + totL l0)) ∧ Kd.S (Kd.slice 3 (Kd.int .i64)) 25 w' w0.heap.size P0 u (mkII a1 l0) ∧ Below w0.heap.size w0 w' ∧ Kept w w' P0 := by
 obtain ⟨A, c, rfl⟩ := Kd.S_slice ho0
 have HB0 := Aside0.mk hB
 have HO0 := Aside0.mk ho0
 have HL := Aside0.mk hl
 clear hB ho0 hl
 have h0' := Aside0.mk h0
 have h1' := Aside0.mk h1
 clear h0 h1
 go_enter Try.func19, Try.ntmps19
 go_wp2
 go_loopg [1, 5] l0.length (fun gg v1 v5 wr => ∃ (pre suf : List (List Int)), gg = suf.length ∧ Aside0 (l0 = pre ++ suf) ∧ v1 = .int .i64 (a1 + totL pre) ∧ v5 = .int .i64 (pre.length : Int) ∧ Aside0 (Kd.S (Kd.slice 3 (Kd.int .i64)) 25 wr w0.heap.size P0 (.slice A l0.length c) (mkII a1 pre ++ suf)) ∧ Aside0 (Below w0.heap.size w0 wr) ∧ Aside0 (Kept w wr P0))
 case atStart => exact ⟨[], l0, rfl, ⟨rfl⟩, by simp [totL], rfl, ⟨by simpa [mkII] using (by (with_reducible repeat (first | apply Kd.S_alloc | apply Kd.S_drewN | apply Kd.S_drew)); exact HO0.out)⟩, ⟨by repeat (first | (with_reducible first | exact HB0.out | apply below_alloc | apply pw_below_drewN | apply below_drew1) | exact HB0.out)⟩, ⟨by repeat (first | exact Kept.refl _ _ | apply Kept.alloc | apply Kept.drewN)⟩⟩
 case round =>
  clear HO0 HB0
  obtain ⟨pre, suf, hgg, HE, rfl, rfl, HO, HB, HK⟩ := hrel
  cases suf with
  | nil =>
   have e0 : l0 = pre := by simpa using HE.out
   subst e0
   go_wp2
   go_ret
   exact ⟨rfl, by have := HO.out; rwa [List.append_nil] at this, HB.out, HK.out⟩
  | cons x suf =>
   have hlen : l0.length = pre.length + (suf.length + 1) := by rw [HE.out]; simp
   have ht : totL l0 = totL pre + (x.length + totL suf) := by rw [HE.out, totL_append]; rfl
   have hx : x.length ≤ 1048576 := HL.out.2 x (by rw [HE.out]; simp)
   have hlt : (pre.length : Int) < (l0.length : Int) := by omega
   obtain ⟨g, cap, e1, gb, gl, cl⟩ := Kd.S_form HO.out (by simp [mkII_length]; omega)
   injection e1 with e1 e2 e3
   subst e1
   subst e3
   have HO1 := HO.out
   obtain ⟨oki, cs, hcl, hM, hcc, hoki, hH⟩ := Kd.S_lend HO1 [] (pre.length : Int) (by omega) (by omega)
   obtain ⟨v, rfl, hR⟩ := hM
   have hcell : wr.cell? ⟨g, pre.length, none⟩ = some v := by have := hcc 0 v rfl; simpa [Kd.slice] using this
   have hxe : (mkII a1 pre ++ x :: suf).getD ((pre.length : Int)).toNat [] = x := getD_mid' _ _ _ _ (mkII_length _ _)
   rw [hxe] at hR
   obtain ⟨k1, hk1⟩ := (markIntS_ev x (a1 + totL pre) hx (by have := h0'.out; omega) (by have := h1'.out; omega)).rounds
   have HK1 := Aside0.mk hk1
   have HR := Aside0.mk hR
   have HH := Aside0.mk hH
   have HOK := Aside0.mk hoki
   have HLEN := Aside0.mk hlen
   have HLL := Aside0.mk (show l0.length ≤ 1048576 from HL.out.1)
   clear hk1 hR hH hoki hcc hxe HO1 hlen ht hx gb gl cl hcl e2
   go_wp2_with (go_at_call 24; (with_reducible refine (laws_markIntS.calls k1 oki v x _ _ _ w0 _ ?s1 ?s2 HK1.out).mono ?_); (case s1 => exact HB.out); (case s2 => exact HR.out); rintro e w' ⟨rfl, hR', hB', hK'⟩)
   go_roundg suf.length
   case measure => rw [hgg]; simp
   case rel =>
    refine ⟨pre ++ [x], suf, rfl, ⟨by rw [HE.out]; simp⟩, ?_, ?_, ⟨?_⟩, ⟨hB'⟩, ⟨Kept.then_ HK.out hK' (fun k hk => .inl (HOK.out k hk).1)⟩⟩
    ·rw [totL_snoc]; congr 1; omega
    ·rw [List.length_append, wsucc (by have := HLEN.out; have := HLL.out; omega)]; rfl
    ·have h2 := Kd.H_back (Kd.H_kept HH.out hK' (fun k _ hn => hn)) (x' := mkI (a1 + totL pre) x.length) ⟨v, rfl, Kd.R_tight rfl hR'⟩ (fun k hk => HR.out.1 k hk.symm)
     rw [mkII_snoc, List.append_assoc]
     have h3 : (mkII a1 pre ++ x :: suf).set ((pre.length : Int)).toNat (mkI (a1 + totL pre) x.length) = mkII a1 pre ++ mkI (a1 + totL pre) x.length :: suf := by
      have := set_mid (mkII a1 pre) suf x (mkI (a1 + totL pre) x.length)
      rwa [mkII_length] at this
     rw [h3] at h2
     exact h2
/-! ### heldintss -/
theorem totL_le : ∀ (l : List (List Int)) (n : Nat), (∀ r ∈ l, r.length ≤ n) → totL l ≤ l.length * n
 | [], _, _ => by simp [totL]
 | r :: rs, n, h => by
  have h1 := totL_le rs n (fun q hq => h q (by simp [hq]))
  have h2 := h r (by simp)
  simp only [totL, List.length_cons, Nat.succ_mul]
  omega
theorem totL_leftR : ∀ (l : List (List Int)) (a : Int), 0 ≤ a → 0 ≤ leftR l a → (totL l : Int) ≤ a
 | [], a, h, _ => by simpa [totL] using h
 | r :: rs, a, h, h2 => by
  unfold leftR at h2
  split at h2
  ·omega
  ·rename_i hx
   have h3 := totL_leftR rs _ (by omega) h2
   have h4 : leftI r a = a - r.length := by unfold leftI at hx ⊢; split <;> omega
   simp only [totL]
   omega
theorem totL_left {l : List (List Int)} (h : 0 ≤ leftII l 1048576) : totL l ≤ 1048576 := by
 unfold leftII at h
 split at h
 ·omega
 ·have := totL_leftR l _ (by omega) h
  omega
/-! ### surelaw -/
def sureOk (_ : Nat) (l0 : List (List Int)) (l1 l2 : List Int) (a3 : Int) (r : List Int) : Prop := okII l0 ∧ l1.length ≤ 1048576 ∧ l2.length ≤ 1048576 ∧ r = sureV l0 l1 l2 a3
structure SureH (l0 : List (List Int)) (l1 l2 : List Int) (a3 : Int) (r : List Int) : Prop where
 rounds : ∃ k : Nat, sureOk k l0 l1 l2 a3 r
theorem impl_SureLiars.calls (k : Nat) (A0 : Option Addr) (c0 : Nat) (l0 : List (List Int)) (A1 : Option Addr) (c1 : Nat) (l1 : List Int) (A2 : Option Addr) (c2 : Nat) (l2 : List Int) (a3 : Int) (r : List Int) (w : World) (hr0 : Kd.C (Kd.slice 3 (Kd.int .i64)) w A0 l0.length l0) (hc0 : l0.length ≤ c0) (hr1 : Kd.C (Kd.int .i64) w A1 l1.length l1) (hc1 : l1.length ≤ c1) (hr2 : Kd.C (Kd.int .i64) w A2 l2.length l2) (hc2 : l2.length ≤ c2) (h : sureOk k l0 l1 l2 a3 r) :
  Calls Try.prog 46 #[.slice A0 l0.length c0, .slice A1 l1.length c1, .slice A2 l2.length c2, .int .i64 a3] w fun e w' => ∃ v0_ : Value, e = .returned v0_ ∧ Kd.R (Kd.int .i64) 3 w' w.heap.size (fun _ => True) v0_ r ∧ Below w.heap.size w w' := by
 obtain ⟨h1, h2, h3, rfl⟩ := h
 exact impl_SureLiars_c A0 c0 l0 A1 c1 l1 A2 c2 l2 a3 w hr0 hc0 hr1 hc1 hr2 hc2 h1 h2 h3
/-! ### zz_FnExactSureLiars -/
set_option maxHeartbeats 4000000 in
set_option maxRecDepth 100000 in
theorem FnExactSureLiars_calls (A0 : Option Addr) (c0 : Nat) (l0 : List (List Int)) (A1 : Option Addr) (c1 : Nat) (l1 : List Int) (A2 : Option Addr) (c2 : Nat) (l2 : List Int) (a3 : Int) (w : World) (hr0 : Kd.C (Kd.slice 3 (Kd.int .i64)) w A0 l0.length l0) (hc0 : l0.length ≤ c0) (hr1 : Kd.C (Kd.int .i64) w A1 l1.length l1) (hc1 : l1.length ≤ c1) (hr2 : Kd.C (Kd.int .i64) w A2 l2.length l2) (hc2 : l2.length ≤ c2) (g0 : l0.length ≤ 9223372036854775807 ∧ ∀ y ∈ l0, y.length ≤ 9223372036854775807 ∧ ∀ z ∈ y, (Lit.int .i64 z).wf = true) (g1 : l1.length ≤ 9223372036854775807 ∧ ∀ y ∈ l1, (Lit.int .i64 y).wf = true) (g2 : l2.length ≤ 9223372036854775807 ∧ ∀ y ∈ l2, (Lit.int .i64 y).wf = true) (g3 : (Lit.int .i64 a3).wf = true) :
  Calls Try.prog 8 #[.slice A0 l0.length c0, .slice A1 l1.length c1, .slice A2 l2.length c2, .int .i64 a3] w fun e w' => e = .returned (.bool true) ∧ Below w.heap.size w w' := by
 by_cases b1 : l1.length > 1048576
 ·have b1' : decide (l1.length > 1048576) = true := decide_eq_true b1
  go_enter Try.func8, Try.ntmps8
  go_wp2
  go_ret
  exact ⟨rfl, Below.refl _ _⟩
 have ok1 : l1.length ≤ 1048576 := by omega
 by_cases b2 : l2.length > 1048576
 ·have b2' : decide (l2.length > 1048576) = true := decide_eq_true b2
  go_enter Try.func8, Try.ntmps8
  go_wp2
  go_ret
  exact ⟨rfl, Below.refl _ _⟩
 have ok2 : l2.length ≤ 1048576 := by omega
 by_cases b0 : leftII l0 1048576 < 0
 ·obtain ⟨k0, hk0⟩ := (szIntSS_ev l0 1048576 (by omega) (by omega) g0.1 (fun r hr => (g0.2 r hr).1)).rounds
  have K0 := Aside0.mk hk0
  have HR := Aside0.mk hr0
  have b0' : decide (leftII l0 1048576 < 0) = true := decide_eq_true b0
  clear hk0 hr0
  go_enter Try.func8, Try.ntmps8
  go_wp2_with fail
  go_at_call 26; (with_reducible refine (laws_szIntSS.calls k0 _ _ l0 1048576 _ _ ?s0 hc0 K0.out).mono ?_); (case s0 => repeat (first | exact HR.out | (with_reducible refine Kd.C_alloc ?_ _) | (with_reducible refine Kd.C_drewN ?_ _) | (with_reducible refine Kd.C_drew ?_))); rintro e w' ⟨rfl, ⟨nd, rfl⟩⟩
  go_wp2
  go_ret
  exact ⟨rfl, (by repeat (first | (with_reducible first | exact Below.refl _ _ | apply below_alloc | apply pw_below_drewN | apply below_drew1) | exact Below.refl _ _))⟩
 have ok0 : okII l0 := leftII_ok (by omega)
 have b0' : decide (leftII l0 1048576 < 0) = false := decide_eq_false b0
 have HR0 := Aside0.mk hr0
 have HR1 := Aside0.mk hr1
 have HR2 := Aside0.mk hr2
 clear hr0 hr1 hr2
 obtain ⟨y0, hy0⟩ : ∃ y, y = sureV l0 l1 l2 a3 := ⟨_, rfl⟩
 have ty0 : y0.length ≤ 6 := by rw [hy0]; exact sureV_len _ _ _ _
 have oy0 : y0.length ≤ 1048576 := by omega
 have hs := spec_SureLiars_ev l0 l1 l2 a3 ok0 ok1 ok2
 have hi : SureH l0 l1 l2 a3 y0 := ⟨⟨0, ok0, ok1, ok2, hy0⟩⟩
 rw [← hy0] at hs
 clear hy0
 have t0 : totL l0 ≤ 1048576 := totL_left (by omega)
 obtain ⟨k2, hz_⟩ := (szIntSS_ev l0 (1048576) (by omega) (by omega) g0.1 (fun r hr => (g0.2 r hr).1)).rounds
 have Kk2 := Aside0.mk hz_
 clear hz_
 obtain ⟨k4, hz_⟩ := (toIntSS_ev l0 ok0).rounds
 have Kk4 := Aside0.mk hz_
 clear hz_
 obtain ⟨k13, hz_⟩ := (toIntS_ev l1 ok1).rounds
 have Kk13 := Aside0.mk hz_
 clear hz_
 obtain ⟨k23, hz_⟩ := (toIntS_ev l2 ok2).rounds
 have Kk23 := Aside0.mk hz_
 clear hz_
 obtain ⟨k34, hz_⟩ := (hs).rounds
 have Kk34 := Aside0.mk hz_
 clear hz_
 obtain ⟨k46, hz_⟩ := (toIntSS_ev l0 ok0).rounds
 have Kk46 := Aside0.mk hz_
 clear hz_
 obtain ⟨k59, hz_⟩ := (toIntS_ev l1 ok1).rounds
 have Kk59 := Aside0.mk hz_
 clear hz_
 obtain ⟨k73, hz_⟩ := (toIntS_ev l2 ok2).rounds
 have Kk73 := Aside0.mk hz_
 clear hz_
 obtain ⟨k88, hz_⟩ := (hi).rounds
 have Kk88 := Aside0.mk hz_
 clear hz_
 obtain ⟨k104, hz_⟩ := (eqIntS_ev y0 oy0).rounds
 have Kk104 := Aside0.mk hz_
 clear hz_
 obtain ⟨k106, hz_⟩ := (toIntSS_ev l0 ok0).rounds
 have Kk106 := Aside0.mk hz_
 clear hz_
 obtain ⟨k123, hz_⟩ := (eqIntSS_ev l0 ok0).rounds
 have Kk123 := Aside0.mk hz_
 clear hz_
 obtain ⟨k125, hz_⟩ := (toIntS_ev l1 ok1).rounds
 have Kk125 := Aside0.mk hz_
 clear hz_
 obtain ⟨k143, hz_⟩ := (eqIntS_ev l1 ok1).rounds
 have Kk143 := Aside0.mk hz_
 clear hz_
 obtain ⟨k145, hz_⟩ := (toIntS_ev l2 ok2).rounds
 have Kk145 := Aside0.mk hz_
 clear hz_
 obtain ⟨k164, hz_⟩ := (eqIntS_ev l2 ok2).rounds
 have Kk164 := Aside0.mk hz_
 clear hz_
 obtain ⟨k181, hz_⟩ := (markIntS_ev l1 ((1 + (totL l0 : Int))) (by omega) (by omega) (by omega)).rounds
 have Kk181 := Aside0.mk hz_
 clear hz_
 obtain ⟨k196, hz_⟩ := (markIntS_ev l2 (((1 + (totL l0 : Int)) + (l1.length : Int))) (by omega) (by omega) (by omega)).rounds
 have Kk196 := Aside0.mk hz_
 clear hz_
 obtain ⟨k211, hz_⟩ := (eqIntS_ev y0 oy0).rounds
 have Kk211 := Aside0.mk hz_
 clear hz_
 obtain ⟨k213, hz_⟩ := (markIntS_ev y0 (1) (by omega) (by omega) (by omega)).rounds
 have Kk213 := Aside0.mk hz_
 clear hz_
 obtain ⟨k228, hz_⟩ := (heldIntS_ev y0.length (1) (by omega) (by omega) (by omega)).rounds
 have Kk228 := Aside0.mk hz_
 clear hz_
 obtain ⟨k230, hz_⟩ := (toIntSS_ev l0 ok0).rounds
 have Kk230 := Aside0.mk hz_
 clear hz_
 obtain ⟨k250, hz_⟩ := (toIntS_ev l1 ok1).rounds
 have Kk250 := Aside0.mk hz_
 clear hz_
 obtain ⟨k271, hz_⟩ := (toIntS_ev l2 ok2).rounds
 have Kk271 := Aside0.mk hz_
 clear hz_
 obtain ⟨k293, hz_⟩ := (hi).rounds
 have Kk293 := Aside0.mk hz_
 clear hz_
 obtain ⟨k316, hz_⟩ := (eqIntS_ev y0 oy0).rounds
 have Kk316 := Aside0.mk hz_
 clear hz_
 obtain ⟨k318, hz_⟩ := (heldIntS_ev y0.length (1) (by omega) (by omega) (by omega)).rounds
 have Kk318 := Aside0.mk hz_
 clear hz_
 go_enter Try.func8, Try.ntmps8
 have HBW0 := Aside0.mk (Below.refl w.heap.size w)
 -- laws.szIntSS
 go_wp2_with fail
 go_at_call 26; (with_reducible refine (laws_szIntSS.calls k2 _ _ (l0) (1048576) (leftII l0 (1048576)) _ ?s0 ?s1 Kk2.out).mono ?_); (case s0 => exact Kd.C_below (by exact HR0.out) (below_step HBW0.out (by repeat (first | (with_reducible first | exact Below.refl _ _ | apply below_alloc | apply pw_below_drewN | apply below_drew1) | exact Below.refl _ _)))); (case s1 => exact hc0); rintro e w' ⟨rfl, ⟨nd, rfl⟩⟩
 -- laws.toIntSS
 go_wp2_with fail
 go_at_call 28; (with_reducible refine (laws_toIntSS.calls k4 _ _ (l0) (l0) _ ?s0 ?s1 Kk4.out).mono ?_); (case s0 => exact Kd.C_below (by exact HR0.out) (below_step HBW0.out (by repeat (first | (with_reducible first | exact Below.refl _ _ | apply below_alloc | apply pw_below_drewN | apply below_drew1) | exact Below.refl _ _)))); (case s1 => exact hc0); rintro e w3 ⟨v5, rfl, ho6, hb⟩
 have HO7 := Aside0.mk (S_fresh HBW0.out (by repeat (first | (with_reducible first | exact Below.refl _ _ | apply below_alloc | apply pw_below_drewN | apply below_drew1) | exact Below.refl _ _)) ho6 hb)
 clear ho6
 have hbz := below_step (w := w) (by repeat (first | (with_reducible first | exact Below.refl _ _ | apply below_alloc | apply pw_below_drewN | apply below_drew1) | exact Below.refl _ _)) hb
 have HBW8 := Aside0.mk (below_step HBW0.out hbz)
 clear HBW0
 have HSZ9 := Aside0.mk hbz.size
 obtain ⟨A10, c11, rfl⟩ := Kd.S_slice HO7.out
 clear hb hbz
 -- laws.toIntS
 go_wp2_with fail
 go_at_call 29; (with_reducible refine (laws_toIntS.calls k13 _ _ (l1) (l1) _ ?s0 ?s1 Kk13.out).mono ?_); (case s0 => exact Kd.C_below (by exact HR1.out) (below_step HBW8.out (by repeat (first | (with_reducible first | exact Below.refl _ _ | apply below_alloc | apply pw_below_drewN | apply below_drew1) | exact Below.refl _ _)))); (case s1 => exact hc1); rintro e w12 ⟨v14, rfl, ho15, hb⟩
 have HO16 := Aside0.mk (R_fresh HBW8.out (by repeat (first | (with_reducible first | exact Below.refl _ _ | apply below_alloc | apply pw_below_drewN | apply below_drew1) | exact Below.refl _ _)) ho15 hb)
 clear ho15
 have hbz := below_step (w := w3) (by repeat (first | (with_reducible first | exact Below.refl _ _ | apply below_alloc | apply pw_below_drewN | apply below_drew1) | exact Below.refl _ _)) hb
 have HBW17 := Aside0.mk (below_step HBW8.out hbz)
 clear HBW8
 have HSZ18 := Aside0.mk hbz.size
 have HO19 := Aside0.mk (Kd.S_below HO7.out hbz)
 clear HO7
 obtain ⟨A20, c21, rfl⟩ := Kd.R_slice HO16.out
 clear hb hbz
 -- laws.toIntS
 go_wp2_with fail
 go_at_call 29; (with_reducible refine (laws_toIntS.calls k23 _ _ (l2) (l2) _ ?s0 ?s1 Kk23.out).mono ?_); (case s0 => exact Kd.C_below (by exact HR2.out) (below_step HBW17.out (by repeat (first | (with_reducible first | exact Below.refl _ _ | apply below_alloc | apply pw_below_drewN | apply below_drew1) | exact Below.refl _ _)))); (case s1 => exact hc2); rintro e w22 ⟨v24, rfl, ho25, hb⟩
 have HO26 := Aside0.mk (R_fresh HBW17.out (by repeat (first | (with_reducible first | exact Below.refl _ _ | apply below_alloc | apply pw_below_drewN | apply below_drew1) | exact Below.refl _ _)) ho25 hb)
 clear ho25
 have hbz := below_step (w := w12) (by repeat (first | (with_reducible first | exact Below.refl _ _ | apply below_alloc | apply pw_below_drewN | apply below_drew1) | exact Below.refl _ _)) hb
 have HBW27 := Aside0.mk (below_step HBW17.out hbz)
 clear HBW17
 have HSZ28 := Aside0.mk hbz.size
 have HO29 := Aside0.mk (Kd.S_below HO19.out hbz)
 clear HO19
 have HO30 := Aside0.mk (Kd.R_below HO16.out hbz)
 clear HO16
 obtain ⟨A31, c32, rfl⟩ := Kd.R_slice HO26.out
 clear hb hbz
 -- spec.SureLiars
 go_wp2_with fail
 go_at_call 48; (with_reducible refine (spec_SureLiars.calls k34 _ _ (l0) _ _ (l1) _ _ (l2) (a3) (y0) _ ?s0 ?s1 ?s2 ?s3 ?s4 ?s5 Kk34.out).mono ?_); (case s0 => have z_ := (Kd.S_reads' HO29.out); repeat (first | exact z_.2.2 | (with_reducible refine Kd.C_alloc ?_ _) | (with_reducible refine Kd.C_drewN ?_ _) | (with_reducible refine Kd.C_drew ?_))); (case s1 => exact (Kd.S_reads' HO29.out).2.1); (case s2 => have z_ := (Kd.R_reads' HO30.out); repeat (first | exact z_.2.2 | (with_reducible refine Kd.C_alloc ?_ _) | (with_reducible refine Kd.C_drewN ?_ _) | (with_reducible refine Kd.C_drew ?_))); (case s3 => exact (Kd.R_reads' HO30.out).2.1); (case s4 => have z_ := (Kd.R_reads' HO26.out); repeat (first | exact z_.2.2 | (with_reducible refine Kd.C_alloc ?_ _) | (with_reducible refine Kd.C_drewN ?_ _) | (with_reducible refine Kd.C_drew ?_))); (case s5 => exact (Kd.R_reads' HO26.out).2.1); rintro e w33 ⟨v35, rfl, ho36, hb⟩
 have HO37 := Aside0.mk (R_fresh HBW27.out (by repeat (first | (with_reducible first | exact Below.refl _ _ | apply below_alloc | apply pw_below_drewN | apply below_drew1) | exact Below.refl _ _)) ho36 hb)
 clear ho36
 have hbz := below_step (w := w22) (by repeat (first | (with_reducible first | exact Below.refl _ _ | apply below_alloc | apply pw_below_drewN | apply below_drew1) | exact Below.refl _ _)) hb
 have HBW38 := Aside0.mk (below_step HBW27.out hbz)
 clear HBW27
 have HSZ39 := Aside0.mk hbz.size
 have HO40 := Aside0.mk (Kd.S_below HO29.out hbz)
 clear HO29
 have HO41 := Aside0.mk (Kd.R_below HO30.out hbz)
 clear HO30
 have HO42 := Aside0.mk (Kd.R_below HO26.out hbz)
 clear HO26
 obtain ⟨A43, c44, rfl⟩ := Kd.R_slice HO37.out
 clear hb hbz
 -- laws.toIntSS
 go_wp2_with fail
 go_at_call 28; (with_reducible refine (laws_toIntSS.calls k46 _ _ (l0) (l0) _ ?s0 ?s1 Kk46.out).mono ?_); (case s0 => exact Kd.C_below (by exact HR0.out) (below_step HBW38.out (by repeat (first | (with_reducible first | exact Below.refl _ _ | apply below_alloc | apply pw_below_drewN | apply below_drew1) | exact Below.refl _ _)))); (case s1 => exact hc0); rintro e w45 ⟨v47, rfl, ho48, hb⟩
 have HO49 := Aside0.mk (S_fresh HBW38.out (by repeat (first | (with_reducible first | exact Below.refl _ _ | apply below_alloc | apply pw_below_drewN | apply below_drew1) | exact Below.refl _ _)) ho48 hb)
 clear ho48
 have hbz := below_step (w := w33) (by repeat (first | (with_reducible first | exact Below.refl _ _ | apply below_alloc | apply pw_below_drewN | apply below_drew1) | exact Below.refl _ _)) hb
 have HBW50 := Aside0.mk (below_step HBW38.out hbz)
 clear HBW38
 have HSZ51 := Aside0.mk hbz.size
 have HO52 := Aside0.mk (Kd.S_below HO40.out hbz)
 clear HO40
 have HO53 := Aside0.mk (Kd.R_below HO41.out hbz)
 clear HO41
 have HO54 := Aside0.mk (Kd.R_below HO42.out hbz)
 clear HO42
 have HO55 := Aside0.mk (Kd.R_below HO37.out hbz)
 clear HO37
 obtain ⟨A56, c57, rfl⟩ := Kd.S_slice HO49.out
 clear hb hbz
 -- laws.toIntS
 go_wp2_with fail
 go_at_call 29; (with_reducible refine (laws_toIntS.calls k59 _ _ (l1) (l1) _ ?s0 ?s1 Kk59.out).mono ?_); (case s0 => exact Kd.C_below (by exact HR1.out) (below_step HBW50.out (by repeat (first | (with_reducible first | exact Below.refl _ _ | apply below_alloc | apply pw_below_drewN | apply below_drew1) | exact Below.refl _ _)))); (case s1 => exact hc1); rintro e w58 ⟨v60, rfl, ho61, hb⟩
 have HO62 := Aside0.mk (R_fresh HBW50.out (by repeat (first | (with_reducible first | exact Below.refl _ _ | apply below_alloc | apply pw_below_drewN | apply below_drew1) | exact Below.refl _ _)) ho61 hb)
 clear ho61
 have hbz := below_step (w := w45) (by repeat (first | (with_reducible first | exact Below.refl _ _ | apply below_alloc | apply pw_below_drewN | apply below_drew1) | exact Below.refl _ _)) hb
 have HBW63 := Aside0.mk (below_step HBW50.out hbz)
 clear HBW50
 have HSZ64 := Aside0.mk hbz.size
 have HO65 := Aside0.mk (Kd.S_below HO52.out hbz)
 clear HO52
 have HO66 := Aside0.mk (Kd.R_below HO53.out hbz)
 clear HO53
 have HO67 := Aside0.mk (Kd.R_below HO54.out hbz)
 clear HO54
 have HO68 := Aside0.mk (Kd.R_below HO55.out hbz)
 clear HO55
 have HO69 := Aside0.mk (Kd.S_below HO49.out hbz)
 clear HO49
 obtain ⟨A70, c71, rfl⟩ := Kd.R_slice HO62.out
 clear hb hbz
 -- laws.toIntS
 go_wp2_with fail
 go_at_call 29; (with_reducible refine (laws_toIntS.calls k73 _ _ (l2) (l2) _ ?s0 ?s1 Kk73.out).mono ?_); (case s0 => exact Kd.C_below (by exact HR2.out) (below_step HBW63.out (by repeat (first | (with_reducible first | exact Below.refl _ _ | apply below_alloc | apply pw_below_drewN | apply below_drew1) | exact Below.refl _ _)))); (case s1 => exact hc2); rintro e w72 ⟨v74, rfl, ho75, hb⟩
 have HO76 := Aside0.mk (R_fresh HBW63.out (by repeat (first | (with_reducible first | exact Below.refl _ _ | apply below_alloc | apply pw_below_drewN | apply below_drew1) | exact Below.refl _ _)) ho75 hb)
 clear ho75
 have hbz := below_step (w := w58) (by repeat (first | (with_reducible first | exact Below.refl _ _ | apply below_alloc | apply pw_below_drewN | apply below_drew1) | exact Below.refl _ _)) hb
 have HBW77 := Aside0.mk (below_step HBW63.out hbz)
 clear HBW63
 have HSZ78 := Aside0.mk hbz.size
 have HO79 := Aside0.mk (Kd.S_below HO65.out hbz)
 clear HO65
 have HO80 := Aside0.mk (Kd.R_below HO66.out hbz)
 clear HO66
 have HO81 := Aside0.mk (Kd.R_below HO67.out hbz)
 clear HO67
 have HO82 := Aside0.mk (Kd.R_below HO68.out hbz)
 clear HO68
 have HO83 := Aside0.mk (Kd.S_below HO69.out hbz)
 clear HO69
 have HO84 := Aside0.mk (Kd.R_below HO62.out hbz)
 clear HO62
 obtain ⟨A85, c86, rfl⟩ := Kd.R_slice HO76.out
 clear hb hbz
 -- impl.SureLiars
 go_wp2_with fail
 go_at_call 46; (with_reducible refine (impl_SureLiars.calls k88 _ _ (l0) _ _ (l1) _ _ (l2) (a3) (y0) _ ?s0 ?s1 ?s2 ?s3 ?s4 ?s5 Kk88.out).mono ?_); (case s0 => have z_ := (Kd.S_reads' HO83.out); repeat (first | exact z_.2.2 | (with_reducible refine Kd.C_alloc ?_ _) | (with_reducible refine Kd.C_drewN ?_ _) | (with_reducible refine Kd.C_drew ?_))); (case s1 => exact (Kd.S_reads' HO83.out).2.1); (case s2 => have z_ := (Kd.R_reads' HO84.out); repeat (first | exact z_.2.2 | (with_reducible refine Kd.C_alloc ?_ _) | (with_reducible refine Kd.C_drewN ?_ _) | (with_reducible refine Kd.C_drew ?_))); (case s3 => exact (Kd.R_reads' HO84.out).2.1); (case s4 => have z_ := (Kd.R_reads' HO76.out); repeat (first | exact z_.2.2 | (with_reducible refine Kd.C_alloc ?_ _) | (with_reducible refine Kd.C_drewN ?_ _) | (with_reducible refine Kd.C_drew ?_))); (case s5 => exact (Kd.R_reads' HO76.out).2.1); rintro e w87 ⟨v89, rfl, ho90, hb⟩
 have HO91 := Aside0.mk (R_fresh HBW77.out (by repeat (first | (with_reducible first | exact Below.refl _ _ | apply below_alloc | apply pw_below_drewN | apply below_drew1) | exact Below.refl _ _)) ho90 hb)
 clear ho90
 have hbz := below_step (w := w72) (by repeat (first | (with_reducible first | exact Below.refl _ _ | apply below_alloc | apply pw_below_drewN | apply below_drew1) | exact Below.refl _ _)) hb
 have HBW92 := Aside0.mk (below_step HBW77.out hbz)
 clear HBW77
 have HSZ93 := Aside0.mk hbz.size
 have HO94 := Aside0.mk (Kd.S_below HO79.out hbz)
 clear HO79
 have HO95 := Aside0.mk (Kd.R_below HO80.out hbz)
 clear HO80
 have HO96 := Aside0.mk (Kd.R_below HO81.out hbz)
 clear HO81
 have HO97 := Aside0.mk (Kd.R_below HO82.out hbz)
 clear HO82
 have HO98 := Aside0.mk (Kd.S_below HO83.out hbz)
 clear HO83
 have HO99 := Aside0.mk (Kd.R_below HO84.out hbz)
 clear HO84
 have HO100 := Aside0.mk (Kd.R_below HO76.out hbz)
 clear HO76
 obtain ⟨A101, c102, rfl⟩ := Kd.R_slice HO91.out
 clear hb hbz
 -- laws.eqIntS
 go_wp2_with fail
 go_at_call 23; (with_reducible refine (laws_eqIntS.calls k104 _ _ (y0) _ _ (y0) true _ ?s0 ?s1 ?s2 ?s3 Kk104.out ⟨rfl⟩).mono ?_); (case s0 => have z_ := (Kd.R_reads' HO91.out); repeat (first | exact z_.2.2 | (with_reducible refine Kd.C_alloc ?_ _) | (with_reducible refine Kd.C_drewN ?_ _) | (with_reducible refine Kd.C_drew ?_))); (case s1 => exact (Kd.R_reads' HO91.out).2.1); (case s2 => have z_ := (Kd.R_reads' HO97.out); repeat (first | exact z_.2.2 | (with_reducible refine Kd.C_alloc ?_ _) | (with_reducible refine Kd.C_drewN ?_ _) | (with_reducible refine Kd.C_drew ?_))); (case s3 => exact (Kd.R_reads' HO97.out).2.1); rintro e w' ⟨rfl, ⟨nd, rfl⟩⟩
 -- laws.toIntSS
 go_wp2_with fail
 go_at_call 28; (with_reducible refine (laws_toIntSS.calls k106 _ _ (l0) (l0) _ ?s0 ?s1 Kk106.out).mono ?_); (case s0 => exact Kd.C_below (by exact HR0.out) (below_step HBW92.out (by repeat (first | (with_reducible first | exact Below.refl _ _ | apply below_alloc | apply pw_below_drewN | apply below_drew1) | exact Below.refl _ _)))); (case s1 => exact hc0); rintro e w105 ⟨v107, rfl, ho108, hb⟩
 have HO109 := Aside0.mk (S_fresh HBW92.out (by repeat (first | (with_reducible first | exact Below.refl _ _ | apply below_alloc | apply pw_below_drewN | apply below_drew1) | exact Below.refl _ _)) ho108 hb)
 clear ho108
 have hbz := below_step (w := w87) (by repeat (first | (with_reducible first | exact Below.refl _ _ | apply below_alloc | apply pw_below_drewN | apply below_drew1) | exact Below.refl _ _)) hb
 have HBW110 := Aside0.mk (below_step HBW92.out hbz)
 clear HBW92
 have HSZ111 := Aside0.mk hbz.size
 have HO112 := Aside0.mk (Kd.S_below HO94.out hbz)
 clear HO94
 have HO113 := Aside0.mk (Kd.R_below HO95.out hbz)
 clear HO95
 have HO114 := Aside0.mk (Kd.R_below HO96.out hbz)
 clear HO96
 have HO115 := Aside0.mk (Kd.R_below HO97.out hbz)
 clear HO97
 have HO116 := Aside0.mk (Kd.S_below HO98.out hbz)
 clear HO98
 have HO117 := Aside0.mk (Kd.R_below HO99.out hbz)
 clear HO99
 have HO118 := Aside0.mk (Kd.R_below HO100.out hbz)
 clear HO100
 have HO119 := Aside0.mk (Kd.R_below HO91.out hbz)
 clear HO91
 obtain ⟨A120, c121, rfl⟩ := Kd.S_slice HO109.out
 clear hb hbz
 -- laws.eqIntSS
 go_wp2_with fail
 go_at_call 16; (with_reducible refine (laws_eqIntSS.calls k123 _ _ (l0) _ _ (l0) true _ ?s0 ?s1 ?s2 ?s3 Kk123.out ⟨rfl⟩).mono ?_); (case s0 => have z_ := (Kd.S_reads' HO116.out); repeat (first | exact z_.2.2 | (with_reducible refine Kd.C_alloc ?_ _) | (with_reducible refine Kd.C_drewN ?_ _) | (with_reducible refine Kd.C_drew ?_))); (case s1 => exact (Kd.S_reads' HO116.out).2.1); (case s2 => have z_ := (Kd.S_reads' HO109.out); repeat (first | exact z_.2.2 | (with_reducible refine Kd.C_alloc ?_ _) | (with_reducible refine Kd.C_drewN ?_ _) | (with_reducible refine Kd.C_drew ?_))); (case s3 => exact (Kd.S_reads' HO109.out).2.1); rintro e w' ⟨rfl, ⟨nd, rfl⟩⟩
 -- laws.toIntS
 go_wp2_with fail
 go_at_call 29; (with_reducible refine (laws_toIntS.calls k125 _ _ (l1) (l1) _ ?s0 ?s1 Kk125.out).mono ?_); (case s0 => exact Kd.C_below (by exact HR1.out) (below_step HBW110.out (by repeat (first | (with_reducible first | exact Below.refl _ _ | apply below_alloc | apply pw_below_drewN | apply below_drew1) | exact Below.refl _ _)))); (case s1 => exact hc1); rintro e w124 ⟨v126, rfl, ho127, hb⟩
 have HO128 := Aside0.mk (R_fresh HBW110.out (by repeat (first | (with_reducible first | exact Below.refl _ _ | apply below_alloc | apply pw_below_drewN | apply below_drew1) | exact Below.refl _ _)) ho127 hb)
 clear ho127
 have hbz := below_step (w := w105) (by repeat (first | (with_reducible first | exact Below.refl _ _ | apply below_alloc | apply pw_below_drewN | apply below_drew1) | exact Below.refl _ _)) hb
 have HBW129 := Aside0.mk (below_step HBW110.out hbz)
 clear HBW110
 have HSZ130 := Aside0.mk hbz.size
 have HO131 := Aside0.mk (Kd.S_below HO112.out hbz)
 clear HO112
 have HO132 := Aside0.mk (Kd.R_below HO113.out hbz)
 clear HO113
 have HO133 := Aside0.mk (Kd.R_below HO114.out hbz)
 clear HO114
 have HO134 := Aside0.mk (Kd.R_below HO115.out hbz)
 clear HO115
 have HO135 := Aside0.mk (Kd.S_below HO116.out hbz)
 clear HO116
 have HO136 := Aside0.mk (Kd.R_below HO117.out hbz)
 clear HO117
 have HO137 := Aside0.mk (Kd.R_below HO118.out hbz)
 clear HO118
 have HO138 := Aside0.mk (Kd.R_below HO119.out hbz)
 clear HO119
 have HO139 := Aside0.mk (Kd.S_below HO109.out hbz)
 clear HO109
 obtain ⟨A140, c141, rfl⟩ := Kd.R_slice HO128.out
 clear hb hbz
 -- laws.eqIntS
 go_wp2_with fail
 go_at_call 23; (with_reducible refine (laws_eqIntS.calls k143 _ _ (l1) _ _ (l1) true _ ?s0 ?s1 ?s2 ?s3 Kk143.out ⟨rfl⟩).mono ?_); (case s0 => have z_ := (Kd.R_reads' HO136.out); repeat (first | exact z_.2.2 | (with_reducible refine Kd.C_alloc ?_ _) | (with_reducible refine Kd.C_drewN ?_ _) | (with_reducible refine Kd.C_drew ?_))); (case s1 => exact (Kd.R_reads' HO136.out).2.1); (case s2 => have z_ := (Kd.R_reads' HO128.out); repeat (first | exact z_.2.2 | (with_reducible refine Kd.C_alloc ?_ _) | (with_reducible refine Kd.C_drewN ?_ _) | (with_reducible refine Kd.C_drew ?_))); (case s3 => exact (Kd.R_reads' HO128.out).2.1); rintro e w' ⟨rfl, ⟨nd, rfl⟩⟩
 -- laws.toIntS
 go_wp2_with fail
 go_at_call 29; (with_reducible refine (laws_toIntS.calls k145 _ _ (l2) (l2) _ ?s0 ?s1 Kk145.out).mono ?_); (case s0 => exact Kd.C_below (by exact HR2.out) (below_step HBW129.out (by repeat (first | (with_reducible first | exact Below.refl _ _ | apply below_alloc | apply pw_below_drewN | apply below_drew1) | exact Below.refl _ _)))); (case s1 => exact hc2); rintro e w144 ⟨v146, rfl, ho147, hb⟩
 have HO148 := Aside0.mk (R_fresh HBW129.out (by repeat (first | (with_reducible first | exact Below.refl _ _ | apply below_alloc | apply pw_below_drewN | apply below_drew1) | exact Below.refl _ _)) ho147 hb)
 clear ho147
 have hbz := below_step (w := w124) (by repeat (first | (with_reducible first | exact Below.refl _ _ | apply below_alloc | apply pw_below_drewN | apply below_drew1) | exact Below.refl _ _)) hb
 have HBW149 := Aside0.mk (below_step HBW129.out hbz)
 clear HBW129
 have HSZ150 := Aside0.mk hbz.size
 have HO151 := Aside0.mk (Kd.S_below HO131.out hbz)
 clear HO131
 have HO152 := Aside0.mk (Kd.R_below HO132.out hbz)
 clear HO132
 have HO153 := Aside0.mk (Kd.R_below HO133.out hbz)
 clear HO133
 have HO154 := Aside0.mk (Kd.R_below HO134.out hbz)
 clear HO134
 have HO155 := Aside0.mk (Kd.S_below HO135.out hbz)
 clear HO135
 have HO156 := Aside0.mk (Kd.R_below HO136.out hbz)
 clear HO136
 have HO157 := Aside0.mk (Kd.R_below HO137.out hbz)
 clear HO137
 have HO158 := Aside0.mk (Kd.R_below HO138.out hbz)
 clear HO138
 have HO159 := Aside0.mk (Kd.S_below HO139.out hbz)
 clear HO139
 have HO160 := Aside0.mk (Kd.R_below HO128.out hbz)
 clear HO128
 obtain ⟨A161, c162, rfl⟩ := Kd.R_slice HO148.out
 clear hb hbz
 -- laws.eqIntS
 go_wp2_with fail
 go_at_call 23; (with_reducible refine (laws_eqIntS.calls k164 _ _ (l2) _ _ (l2) true _ ?s0 ?s1 ?s2 ?s3 Kk164.out ⟨rfl⟩).mono ?_); (case s0 => have z_ := (Kd.R_reads' HO157.out); repeat (first | exact z_.2.2 | (with_reducible refine Kd.C_alloc ?_ _) | (with_reducible refine Kd.C_drewN ?_ _) | (with_reducible refine Kd.C_drew ?_))); (case s1 => exact (Kd.R_reads' HO157.out).2.1); (case s2 => have z_ := (Kd.R_reads' HO148.out); repeat (first | exact z_.2.2 | (with_reducible refine Kd.C_alloc ?_ _) | (with_reducible refine Kd.C_drewN ?_ _) | (with_reducible refine Kd.C_drew ?_))); (case s3 => exact (Kd.R_reads' HO148.out).2.1); rintro e w' ⟨rfl, ⟨nd, rfl⟩⟩
 -- laws.markIntSS
 go_wp2_with fail
 go_at_call 19; (with_reducible refine (markIntSS_c (fun k => w33.heap.size ≤ k ∧ k < w45.heap.size) _ (l0) (1) w _ ?s0 ?s1 ok0 (by omega) (by omega)).mono ?_); (case s0 => exact below_step HBW149.out (by repeat (first | (with_reducible first | exact Below.refl _ _ | apply below_alloc | apply pw_below_drewN | apply below_drew1) | exact Below.refl _ _))); (case s1 => ((with_reducible repeat (first | apply Kd.S_alloc | apply Kd.S_drewN | apply Kd.S_drew)); exact HO155.out)); rintro e w165 ⟨rfl, ho, hb, hkp⟩
 have hkz := (Kept.of_below (w := w144) (by repeat (first | (with_reducible first | exact Below.refl _ _ | apply below_alloc | apply pw_below_drewN | apply below_drew1) | exact Below.refl _ _)) (fun k => w33.heap.size ≤ k ∧ k < w45.heap.size)).then_ hkp (fun _ h_ => .inl h_)
 have HO167 := Aside0.mk (ho)
 clear HO155 ho
 have HO168 := Aside0.mk (Kd.S_kept HO151.out hkz (fun k hk hp => by have := HSZ9.out; have := HSZ18.out; have := HSZ28.out; have := HSZ39.out; have := HSZ51.out; have := HSZ64.out; have := HSZ78.out; have := HSZ93.out; have := HSZ111.out; have := HSZ130.out; have := HSZ150.out; omega))
 clear HO151
 have HO169 := Aside0.mk (Kd.R_kept HO152.out hkz (fun k hk hp => by have := HSZ9.out; have := HSZ18.out; have := HSZ28.out; have := HSZ39.out; have := HSZ51.out; have := HSZ64.out; have := HSZ78.out; have := HSZ93.out; have := HSZ111.out; have := HSZ130.out; have := HSZ150.out; omega))
 clear HO152
 have HO170 := Aside0.mk (Kd.R_kept HO153.out hkz (fun k hk hp => by have := HSZ9.out; have := HSZ18.out; have := HSZ28.out; have := HSZ39.out; have := HSZ51.out; have := HSZ64.out; have := HSZ78.out; have := HSZ93.out; have := HSZ111.out; have := HSZ130.out; have := HSZ150.out; omega))
 clear HO153
 have HO171 := Aside0.mk (Kd.R_kept HO154.out hkz (fun k hk hp => by have := HSZ9.out; have := HSZ18.out; have := HSZ28.out; have := HSZ39.out; have := HSZ51.out; have := HSZ64.out; have := HSZ78.out; have := HSZ93.out; have := HSZ111.out; have := HSZ130.out; have := HSZ150.out; omega))
 clear HO154
 have HO172 := Aside0.mk (Kd.R_kept HO156.out hkz (fun k hk hp => by have := HSZ9.out; have := HSZ18.out; have := HSZ28.out; have := HSZ39.out; have := HSZ51.out; have := HSZ64.out; have := HSZ78.out; have := HSZ93.out; have := HSZ111.out; have := HSZ130.out; have := HSZ150.out; omega))
 clear HO156
 have HO173 := Aside0.mk (Kd.R_kept HO157.out hkz (fun k hk hp => by have := HSZ9.out; have := HSZ18.out; have := HSZ28.out; have := HSZ39.out; have := HSZ51.out; have := HSZ64.out; have := HSZ78.out; have := HSZ93.out; have := HSZ111.out; have := HSZ130.out; have := HSZ150.out; omega))
 clear HO157
 have HO174 := Aside0.mk (Kd.R_kept HO158.out hkz (fun k hk hp => by have := HSZ9.out; have := HSZ18.out; have := HSZ28.out; have := HSZ39.out; have := HSZ51.out; have := HSZ64.out; have := HSZ78.out; have := HSZ93.out; have := HSZ111.out; have := HSZ130.out; have := HSZ150.out; omega))
 clear HO158
 have HO175 := Aside0.mk (Kd.S_kept HO159.out hkz (fun k hk hp => by have := HSZ9.out; have := HSZ18.out; have := HSZ28.out; have := HSZ39.out; have := HSZ51.out; have := HSZ64.out; have := HSZ78.out; have := HSZ93.out; have := HSZ111.out; have := HSZ130.out; have := HSZ150.out; omega))
 clear HO159
 have HO176 := Aside0.mk (Kd.R_kept HO160.out hkz (fun k hk hp => by have := HSZ9.out; have := HSZ18.out; have := HSZ28.out; have := HSZ39.out; have := HSZ51.out; have := HSZ64.out; have := HSZ78.out; have := HSZ93.out; have := HSZ111.out; have := HSZ130.out; have := HSZ150.out; omega))
 clear HO160
 have HO177 := Aside0.mk (Kd.R_kept HO148.out hkz (fun k hk hp => by have := HSZ9.out; have := HSZ18.out; have := HSZ28.out; have := HSZ39.out; have := HSZ51.out; have := HSZ64.out; have := HSZ78.out; have := HSZ93.out; have := HSZ111.out; have := HSZ130.out; have := HSZ150.out; omega))
 clear HO148
 have HBW178 := Aside0.mk hb
 clear HBW149
 have HSZ179 := Aside0.mk hkz.1
 clear hb hkp hkz
 -- laws.markIntS
 go_wp2_with fail
 go_at_call 24; (with_reducible refine (laws_markIntS.calls k181 (fun k => w45.heap.size ≤ k ∧ k < w58.heap.size) _ (l1) ((1 + (totL l0 : Int))) (((1 + (totL l0 : Int)) + (l1.length : Int))) ((mkI ((1 + (totL l0 : Int))) l1.length)) w _ ?s0 ?s1 Kk181.out).mono ?_); (case s0 => exact below_step HBW178.out (by repeat (first | (with_reducible first | exact Below.refl _ _ | apply below_alloc | apply pw_below_drewN | apply below_drew1) | exact Below.refl _ _))); (case s1 => ((with_reducible repeat (first | apply Kd.R_alloc | apply Kd.R_drewN | apply Kd.R_drew)); exact HO172.out)); rintro e w180 ⟨rfl, ho, hb, hkp⟩
 have hkz := (Kept.of_below (w := w165) (by repeat (first | (with_reducible first | exact Below.refl _ _ | apply below_alloc | apply pw_below_drewN | apply below_drew1) | exact Below.refl _ _)) (fun k => w45.heap.size ≤ k ∧ k < w58.heap.size)).then_ hkp (fun _ h_ => .inl h_)
 have HO182 := Aside0.mk (R_tight' rfl ho HO172.out)
 clear HO172 ho
 have HO183 := Aside0.mk (Kd.S_kept HO168.out hkz (fun k hk hp => by have := HSZ9.out; have := HSZ18.out; have := HSZ28.out; have := HSZ39.out; have := HSZ51.out; have := HSZ64.out; have := HSZ78.out; have := HSZ93.out; have := HSZ111.out; have := HSZ130.out; have := HSZ150.out; have := HSZ179.out; omega))
 clear HO168
 have HO184 := Aside0.mk (Kd.R_kept HO169.out hkz (fun k hk hp => by have := HSZ9.out; have := HSZ18.out; have := HSZ28.out; have := HSZ39.out; have := HSZ51.out; have := HSZ64.out; have := HSZ78.out; have := HSZ93.out; have := HSZ111.out; have := HSZ130.out; have := HSZ150.out; have := HSZ179.out; omega))
 clear HO169
 have HO185 := Aside0.mk (Kd.R_kept HO170.out hkz (fun k hk hp => by have := HSZ9.out; have := HSZ18.out; have := HSZ28.out; have := HSZ39.out; have := HSZ51.out; have := HSZ64.out; have := HSZ78.out; have := HSZ93.out; have := HSZ111.out; have := HSZ130.out; have := HSZ150.out; have := HSZ179.out; omega))
 clear HO170
 have HO186 := Aside0.mk (Kd.R_kept HO171.out hkz (fun k hk hp => by have := HSZ9.out; have := HSZ18.out; have := HSZ28.out; have := HSZ39.out; have := HSZ51.out; have := HSZ64.out; have := HSZ78.out; have := HSZ93.out; have := HSZ111.out; have := HSZ130.out; have := HSZ150.out; have := HSZ179.out; omega))
 clear HO171
 have HO187 := Aside0.mk (Kd.R_kept HO173.out hkz (fun k hk hp => by have := HSZ9.out; have := HSZ18.out; have := HSZ28.out; have := HSZ39.out; have := HSZ51.out; have := HSZ64.out; have := HSZ78.out; have := HSZ93.out; have := HSZ111.out; have := HSZ130.out; have := HSZ150.out; have := HSZ179.out; omega))
 clear HO173
 have HO188 := Aside0.mk (Kd.R_kept HO174.out hkz (fun k hk hp => by have := HSZ9.out; have := HSZ18.out; have := HSZ28.out; have := HSZ39.out; have := HSZ51.out; have := HSZ64.out; have := HSZ78.out; have := HSZ93.out; have := HSZ111.out; have := HSZ130.out; have := HSZ150.out; have := HSZ179.out; omega))
 clear HO174
 have HO189 := Aside0.mk (Kd.S_kept HO175.out hkz (fun k hk hp => by have := HSZ9.out; have := HSZ18.out; have := HSZ28.out; have := HSZ39.out; have := HSZ51.out; have := HSZ64.out; have := HSZ78.out; have := HSZ93.out; have := HSZ111.out; have := HSZ130.out; have := HSZ150.out; have := HSZ179.out; omega))
 clear HO175
 have HO190 := Aside0.mk (Kd.R_kept HO176.out hkz (fun k hk hp => by have := HSZ9.out; have := HSZ18.out; have := HSZ28.out; have := HSZ39.out; have := HSZ51.out; have := HSZ64.out; have := HSZ78.out; have := HSZ93.out; have := HSZ111.out; have := HSZ130.out; have := HSZ150.out; have := HSZ179.out; omega))
 clear HO176
 have HO191 := Aside0.mk (Kd.R_kept HO177.out hkz (fun k hk hp => by have := HSZ9.out; have := HSZ18.out; have := HSZ28.out; have := HSZ39.out; have := HSZ51.out; have := HSZ64.out; have := HSZ78.out; have := HSZ93.out; have := HSZ111.out; have := HSZ130.out; have := HSZ150.out; have := HSZ179.out; omega))
 clear HO177
 have HO192 := Aside0.mk (Kd.S_kept HO167.out hkz (fun k hk hp => by have := HSZ9.out; have := HSZ18.out; have := HSZ28.out; have := HSZ39.out; have := HSZ51.out; have := HSZ64.out; have := HSZ78.out; have := HSZ93.out; have := HSZ111.out; have := HSZ130.out; have := HSZ150.out; have := HSZ179.out; omega))
 clear HO167
 have HBW193 := Aside0.mk hb
 clear HBW178
 have HSZ194 := Aside0.mk hkz.1
 clear hb hkp hkz
 -- laws.markIntS
 go_wp2_with fail
 go_at_call 24; (with_reducible refine (laws_markIntS.calls k196 (fun k => w58.heap.size ≤ k ∧ k < w72.heap.size) _ (l2) (((1 + (totL l0 : Int)) + (l1.length : Int))) ((((1 + (totL l0 : Int)) + (l1.length : Int)) + (l2.length : Int))) ((mkI (((1 + (totL l0 : Int)) + (l1.length : Int))) l2.length)) w _ ?s0 ?s1 Kk196.out).mono ?_); (case s0 => exact below_step HBW193.out (by repeat (first | (with_reducible first | exact Below.refl _ _ | apply below_alloc | apply pw_below_drewN | apply below_drew1) | exact Below.refl _ _))); (case s1 => ((with_reducible repeat (first | apply Kd.R_alloc | apply Kd.R_drewN | apply Kd.R_drew)); exact HO187.out)); rintro e w195 ⟨rfl, ho, hb, hkp⟩
 have hkz := (Kept.of_below (w := w180) (by repeat (first | (with_reducible first | exact Below.refl _ _ | apply below_alloc | apply pw_below_drewN | apply below_drew1) | exact Below.refl _ _)) (fun k => w58.heap.size ≤ k ∧ k < w72.heap.size)).then_ hkp (fun _ h_ => .inl h_)
 have HO197 := Aside0.mk (R_tight' rfl ho HO187.out)
 clear HO187 ho
 have HO198 := Aside0.mk (Kd.S_kept HO183.out hkz (fun k hk hp => by have := HSZ9.out; have := HSZ18.out; have := HSZ28.out; have := HSZ39.out; have := HSZ51.out; have := HSZ64.out; have := HSZ78.out; have := HSZ93.out; have := HSZ111.out; have := HSZ130.out; have := HSZ150.out; have := HSZ179.out; have := HSZ194.out; omega))
 clear HO183
 have HO199 := Aside0.mk (Kd.R_kept HO184.out hkz (fun k hk hp => by have := HSZ9.out; have := HSZ18.out; have := HSZ28.out; have := HSZ39.out; have := HSZ51.out; have := HSZ64.out; have := HSZ78.out; have := HSZ93.out; have := HSZ111.out; have := HSZ130.out; have := HSZ150.out; have := HSZ179.out; have := HSZ194.out; omega))
 clear HO184
 have HO200 := Aside0.mk (Kd.R_kept HO185.out hkz (fun k hk hp => by have := HSZ9.out; have := HSZ18.out; have := HSZ28.out; have := HSZ39.out; have := HSZ51.out; have := HSZ64.out; have := HSZ78.out; have := HSZ93.out; have := HSZ111.out; have := HSZ130.out; have := HSZ150.out; have := HSZ179.out; have := HSZ194.out; omega))
 clear HO185
 have HO201 := Aside0.mk (Kd.R_kept HO186.out hkz (fun k hk hp => by have := HSZ9.out; have := HSZ18.out; have := HSZ28.out; have := HSZ39.out; have := HSZ51.out; have := HSZ64.out; have := HSZ78.out; have := HSZ93.out; have := HSZ111.out; have := HSZ130.out; have := HSZ150.out; have := HSZ179.out; have := HSZ194.out; omega))
 clear HO186
 have HO202 := Aside0.mk (Kd.R_kept HO188.out hkz (fun k hk hp => by have := HSZ9.out; have := HSZ18.out; have := HSZ28.out; have := HSZ39.out; have := HSZ51.out; have := HSZ64.out; have := HSZ78.out; have := HSZ93.out; have := HSZ111.out; have := HSZ130.out; have := HSZ150.out; have := HSZ179.out; have := HSZ194.out; omega))
 clear HO188
 have HO203 := Aside0.mk (Kd.S_kept HO189.out hkz (fun k hk hp => by have := HSZ9.out; have := HSZ18.out; have := HSZ28.out; have := HSZ39.out; have := HSZ51.out; have := HSZ64.out; have := HSZ78.out; have := HSZ93.out; have := HSZ111.out; have := HSZ130.out; have := HSZ150.out; have := HSZ179.out; have := HSZ194.out; omega))
 clear HO189
 have HO204 := Aside0.mk (Kd.R_kept HO190.out hkz (fun k hk hp => by have := HSZ9.out; have := HSZ18.out; have := HSZ28.out; have := HSZ39.out; have := HSZ51.out; have := HSZ64.out; have := HSZ78.out; have := HSZ93.out; have := HSZ111.out; have := HSZ130.out; have := HSZ150.out; have := HSZ179.out; have := HSZ194.out; omega))
 clear HO190
 have HO205 := Aside0.mk (Kd.R_kept HO191.out hkz (fun k hk hp => by have := HSZ9.out; have := HSZ18.out; have := HSZ28.out; have := HSZ39.out; have := HSZ51.out; have := HSZ64.out; have := HSZ78.out; have := HSZ93.out; have := HSZ111.out; have := HSZ130.out; have := HSZ150.out; have := HSZ179.out; have := HSZ194.out; omega))
 clear HO191
 have HO206 := Aside0.mk (Kd.S_kept HO192.out hkz (fun k hk hp => by have := HSZ9.out; have := HSZ18.out; have := HSZ28.out; have := HSZ39.out; have := HSZ51.out; have := HSZ64.out; have := HSZ78.out; have := HSZ93.out; have := HSZ111.out; have := HSZ130.out; have := HSZ150.out; have := HSZ179.out; have := HSZ194.out; omega))
 clear HO192
 have HO207 := Aside0.mk (Kd.R_kept HO182.out hkz (fun k hk hp => by have := HSZ9.out; have := HSZ18.out; have := HSZ28.out; have := HSZ39.out; have := HSZ51.out; have := HSZ64.out; have := HSZ78.out; have := HSZ93.out; have := HSZ111.out; have := HSZ130.out; have := HSZ150.out; have := HSZ179.out; have := HSZ194.out; omega))
 clear HO182
 have HBW208 := Aside0.mk hb
 clear HBW193
 have HSZ209 := Aside0.mk hkz.1
 clear hb hkp hkz
 -- laws.eqIntS
 go_wp2_with fail
 go_at_call 23; (with_reducible refine (laws_eqIntS.calls k211 _ _ (y0) _ _ (y0) true _ ?s0 ?s1 ?s2 ?s3 Kk211.out ⟨rfl⟩).mono ?_); (case s0 => have z_ := (Kd.R_reads' HO202.out); repeat (first | exact z_.2.2 | (with_reducible refine Kd.C_alloc ?_ _) | (with_reducible refine Kd.C_drewN ?_ _) | (with_reducible refine Kd.C_drew ?_))); (case s1 => exact (Kd.R_reads' HO202.out).2.1); (case s2 => have z_ := (Kd.R_reads' HO201.out); repeat (first | exact z_.2.2 | (with_reducible refine Kd.C_alloc ?_ _) | (with_reducible refine Kd.C_drewN ?_ _) | (with_reducible refine Kd.C_drew ?_))); (case s3 => exact (Kd.R_reads' HO201.out).2.1); rintro e w' ⟨rfl, ⟨nd, rfl⟩⟩
 -- laws.markIntS
 go_wp2_with fail
 go_at_call 24; (with_reducible refine (laws_markIntS.calls k213 (fun k => w72.heap.size ≤ k ∧ k < w87.heap.size) _ (y0) (1) ((1 + (y0.length : Int))) ((mkI (1) y0.length)) w _ ?s0 ?s1 Kk213.out).mono ?_); (case s0 => exact below_step HBW208.out (by repeat (first | (with_reducible first | exact Below.refl _ _ | apply below_alloc | apply pw_below_drewN | apply below_drew1) | exact Below.refl _ _))); (case s1 => ((with_reducible repeat (first | apply Kd.R_alloc | apply Kd.R_drewN | apply Kd.R_drew)); exact HO202.out)); rintro e w212 ⟨rfl, ho, hb, hkp⟩
 have hkz := (Kept.of_below (w := w195) (by repeat (first | (with_reducible first | exact Below.refl _ _ | apply below_alloc | apply pw_below_drewN | apply below_drew1) | exact Below.refl _ _)) (fun k => w72.heap.size ≤ k ∧ k < w87.heap.size)).then_ hkp (fun _ h_ => .inl h_)
 have HO214 := Aside0.mk (R_tight' rfl ho HO202.out)
 clear HO202 ho
 have HO215 := Aside0.mk (Kd.S_kept HO198.out hkz (fun k hk hp => by have := HSZ9.out; have := HSZ18.out; have := HSZ28.out; have := HSZ39.out; have := HSZ51.out; have := HSZ64.out; have := HSZ78.out; have := HSZ93.out; have := HSZ111.out; have := HSZ130.out; have := HSZ150.out; have := HSZ179.out; have := HSZ194.out; have := HSZ209.out; omega))
 clear HO198
 have HO216 := Aside0.mk (Kd.R_kept HO199.out hkz (fun k hk hp => by have := HSZ9.out; have := HSZ18.out; have := HSZ28.out; have := HSZ39.out; have := HSZ51.out; have := HSZ64.out; have := HSZ78.out; have := HSZ93.out; have := HSZ111.out; have := HSZ130.out; have := HSZ150.out; have := HSZ179.out; have := HSZ194.out; have := HSZ209.out; omega))
 clear HO199
 have HO217 := Aside0.mk (Kd.R_kept HO200.out hkz (fun k hk hp => by have := HSZ9.out; have := HSZ18.out; have := HSZ28.out; have := HSZ39.out; have := HSZ51.out; have := HSZ64.out; have := HSZ78.out; have := HSZ93.out; have := HSZ111.out; have := HSZ130.out; have := HSZ150.out; have := HSZ179.out; have := HSZ194.out; have := HSZ209.out; omega))
 clear HO200
 have HO218 := Aside0.mk (Kd.R_kept HO201.out hkz (fun k hk hp => by have := HSZ9.out; have := HSZ18.out; have := HSZ28.out; have := HSZ39.out; have := HSZ51.out; have := HSZ64.out; have := HSZ78.out; have := HSZ93.out; have := HSZ111.out; have := HSZ130.out; have := HSZ150.out; have := HSZ179.out; have := HSZ194.out; have := HSZ209.out; omega))
 clear HO201
 have HO219 := Aside0.mk (Kd.S_kept HO203.out hkz (fun k hk hp => by have := HSZ9.out; have := HSZ18.out; have := HSZ28.out; have := HSZ39.out; have := HSZ51.out; have := HSZ64.out; have := HSZ78.out; have := HSZ93.out; have := HSZ111.out; have := HSZ130.out; have := HSZ150.out; have := HSZ179.out; have := HSZ194.out; have := HSZ209.out; omega))
 clear HO203
 have HO220 := Aside0.mk (Kd.R_kept HO204.out hkz (fun k hk hp => by have := HSZ9.out; have := HSZ18.out; have := HSZ28.out; have := HSZ39.out; have := HSZ51.out; have := HSZ64.out; have := HSZ78.out; have := HSZ93.out; have := HSZ111.out; have := HSZ130.out; have := HSZ150.out; have := HSZ179.out; have := HSZ194.out; have := HSZ209.out; omega))
 clear HO204
 have HO221 := Aside0.mk (Kd.R_kept HO205.out hkz (fun k hk hp => by have := HSZ9.out; have := HSZ18.out; have := HSZ28.out; have := HSZ39.out; have := HSZ51.out; have := HSZ64.out; have := HSZ78.out; have := HSZ93.out; have := HSZ111.out; have := HSZ130.out; have := HSZ150.out; have := HSZ179.out; have := HSZ194.out; have := HSZ209.out; omega))
 clear HO205
 have HO222 := Aside0.mk (Kd.S_kept HO206.out hkz (fun k hk hp => by have := HSZ9.out; have := HSZ18.out; have := HSZ28.out; have := HSZ39.out; have := HSZ51.out; have := HSZ64.out; have := HSZ78.out; have := HSZ93.out; have := HSZ111.out; have := HSZ130.out; have := HSZ150.out; have := HSZ179.out; have := HSZ194.out; have := HSZ209.out; omega))
 clear HO206
 have HO223 := Aside0.mk (Kd.R_kept HO207.out hkz (fun k hk hp => by have := HSZ9.out; have := HSZ18.out; have := HSZ28.out; have := HSZ39.out; have := HSZ51.out; have := HSZ64.out; have := HSZ78.out; have := HSZ93.out; have := HSZ111.out; have := HSZ130.out; have := HSZ150.out; have := HSZ179.out; have := HSZ194.out; have := HSZ209.out; omega))
 clear HO207
 have HO224 := Aside0.mk (Kd.R_kept HO197.out hkz (fun k hk hp => by have := HSZ9.out; have := HSZ18.out; have := HSZ28.out; have := HSZ39.out; have := HSZ51.out; have := HSZ64.out; have := HSZ78.out; have := HSZ93.out; have := HSZ111.out; have := HSZ130.out; have := HSZ150.out; have := HSZ179.out; have := HSZ194.out; have := HSZ209.out; omega))
 clear HO197
 have HBW225 := Aside0.mk hb
 clear HBW208
 have HSZ226 := Aside0.mk hkz.1
 clear hb hkp hkz
 -- laws.heldIntS
 go_wp2_with fail
 go_at_call 25; (refine (calls_cast ?ce (laws_heldIntS.calls k228 A101 c102 ((mkI (1) y0.length)) (1) (1 + (y0.length : Int)) _ ?s0 ?s1 Kk228.out ⟨by have := (show (0 : Int) ≤ 1 from by omega); omega⟩)).mono ?_); (case ce => simp only [mkI_length]); (case s0 => have z_ := (Kd.R_reads' HO214.out); repeat (first | exact z_.2.2 | (with_reducible refine Kd.C_alloc ?_ _) | (with_reducible refine Kd.C_drewN ?_ _) | (with_reducible refine Kd.C_drew ?_))); (case s1 => have z_ := (Kd.R_reads' HO214.out).2.1; simp only [mkI_length]; exact z_); rintro e w' ⟨rfl, ⟨nd, rfl⟩⟩
 -- laws.toIntSS
 go_wp2_with fail
 go_at_call 28; (with_reducible refine (laws_toIntSS.calls k230 _ _ (l0) (l0) _ ?s0 ?s1 Kk230.out).mono ?_); (case s0 => exact Kd.C_below (by exact HR0.out) (below_step HBW225.out (by repeat (first | (with_reducible first | exact Below.refl _ _ | apply below_alloc | apply pw_below_drewN | apply below_drew1) | exact Below.refl _ _)))); (case s1 => exact hc0); rintro e w229 ⟨v231, rfl, ho232, hb⟩
 have HO233 := Aside0.mk (S_fresh HBW225.out (by repeat (first | (with_reducible first | exact Below.refl _ _ | apply below_alloc | apply pw_below_drewN | apply below_drew1) | exact Below.refl _ _)) ho232 hb)
 clear ho232
 have hbz := below_step (w := w212) (by repeat (first | (with_reducible first | exact Below.refl _ _ | apply below_alloc | apply pw_below_drewN | apply below_drew1) | exact Below.refl _ _)) hb
 have HBW234 := Aside0.mk (below_step HBW225.out hbz)
 clear HBW225
 have HSZ235 := Aside0.mk hbz.size
 have HO236 := Aside0.mk (Kd.S_below HO215.out hbz)
 clear HO215
 have HO237 := Aside0.mk (Kd.R_below HO216.out hbz)
 clear HO216
 have HO238 := Aside0.mk (Kd.R_below HO217.out hbz)
 clear HO217
 have HO239 := Aside0.mk (Kd.R_below HO218.out hbz)
 clear HO218
 have HO240 := Aside0.mk (Kd.S_below HO219.out hbz)
 clear HO219
 have HO241 := Aside0.mk (Kd.R_below HO220.out hbz)
 clear HO220
 have HO242 := Aside0.mk (Kd.R_below HO221.out hbz)
 clear HO221
 have HO243 := Aside0.mk (Kd.S_below HO222.out hbz)
 clear HO222
 have HO244 := Aside0.mk (Kd.R_below HO223.out hbz)
 clear HO223
 have HO245 := Aside0.mk (Kd.R_below HO224.out hbz)
 clear HO224
 have HO246 := Aside0.mk (Kd.R_below HO214.out hbz)
 clear HO214
 obtain ⟨A247, c248, rfl⟩ := Kd.S_slice HO233.out
 clear hb hbz
 -- laws.toIntS
 go_wp2_with fail
 go_at_call 29; (with_reducible refine (laws_toIntS.calls k250 _ _ (l1) (l1) _ ?s0 ?s1 Kk250.out).mono ?_); (case s0 => exact Kd.C_below (by exact HR1.out) (below_step HBW234.out (by repeat (first | (with_reducible first | exact Below.refl _ _ | apply below_alloc | apply pw_below_drewN | apply below_drew1) | exact Below.refl _ _)))); (case s1 => exact hc1); rintro e w249 ⟨v251, rfl, ho252, hb⟩
 have HO253 := Aside0.mk (R_fresh HBW234.out (by repeat (first | (with_reducible first | exact Below.refl _ _ | apply below_alloc | apply pw_below_drewN | apply below_drew1) | exact Below.refl _ _)) ho252 hb)
 clear ho252
 have hbz := below_step (w := w229) (by repeat (first | (with_reducible first | exact Below.refl _ _ | apply below_alloc | apply pw_below_drewN | apply below_drew1) | exact Below.refl _ _)) hb
 have HBW254 := Aside0.mk (below_step HBW234.out hbz)
 clear HBW234
 have HSZ255 := Aside0.mk hbz.size
 have HO256 := Aside0.mk (Kd.S_below HO236.out hbz)
 clear HO236
 have HO257 := Aside0.mk (Kd.R_below HO237.out hbz)
 clear HO237
 have HO258 := Aside0.mk (Kd.R_below HO238.out hbz)
 clear HO238
 have HO259 := Aside0.mk (Kd.R_below HO239.out hbz)
 clear HO239
 have HO260 := Aside0.mk (Kd.S_below HO240.out hbz)
 clear HO240
 have HO261 := Aside0.mk (Kd.R_below HO241.out hbz)
 clear HO241
 have HO262 := Aside0.mk (Kd.R_below HO242.out hbz)
 clear HO242
 have HO263 := Aside0.mk (Kd.S_below HO243.out hbz)
 clear HO243
 have HO264 := Aside0.mk (Kd.R_below HO244.out hbz)
 clear HO244
 have HO265 := Aside0.mk (Kd.R_below HO245.out hbz)
 clear HO245
 have HO266 := Aside0.mk (Kd.R_below HO246.out hbz)
 clear HO246
 have HO267 := Aside0.mk (Kd.S_below HO233.out hbz)
 clear HO233
 obtain ⟨A268, c269, rfl⟩ := Kd.R_slice HO253.out
 clear hb hbz
 -- laws.toIntS
 go_wp2_with fail
 go_at_call 29; (with_reducible refine (laws_toIntS.calls k271 _ _ (l2) (l2) _ ?s0 ?s1 Kk271.out).mono ?_); (case s0 => exact Kd.C_below (by exact HR2.out) (below_step HBW254.out (by repeat (first | (with_reducible first | exact Below.refl _ _ | apply below_alloc | apply pw_below_drewN | apply below_drew1) | exact Below.refl _ _)))); (case s1 => exact hc2); rintro e w270 ⟨v272, rfl, ho273, hb⟩
 have HO274 := Aside0.mk (R_fresh HBW254.out (by repeat (first | (with_reducible first | exact Below.refl _ _ | apply below_alloc | apply pw_below_drewN | apply below_drew1) | exact Below.refl _ _)) ho273 hb)
 clear ho273
 have hbz := below_step (w := w249) (by repeat (first | (with_reducible first | exact Below.refl _ _ | apply below_alloc | apply pw_below_drewN | apply below_drew1) | exact Below.refl _ _)) hb
 have HBW275 := Aside0.mk (below_step HBW254.out hbz)
 clear HBW254
 have HSZ276 := Aside0.mk hbz.size
 have HO277 := Aside0.mk (Kd.S_below HO256.out hbz)
 clear HO256
 have HO278 := Aside0.mk (Kd.R_below HO257.out hbz)
 clear HO257
 have HO279 := Aside0.mk (Kd.R_below HO258.out hbz)
 clear HO258
 have HO280 := Aside0.mk (Kd.R_below HO259.out hbz)
 clear HO259
 have HO281 := Aside0.mk (Kd.S_below HO260.out hbz)
 clear HO260
 have HO282 := Aside0.mk (Kd.R_below HO261.out hbz)
 clear HO261
 have HO283 := Aside0.mk (Kd.R_below HO262.out hbz)
 clear HO262
 have HO284 := Aside0.mk (Kd.S_below HO263.out hbz)
 clear HO263
 have HO285 := Aside0.mk (Kd.R_below HO264.out hbz)
 clear HO264
 have HO286 := Aside0.mk (Kd.R_below HO265.out hbz)
 clear HO265
 have HO287 := Aside0.mk (Kd.R_below HO266.out hbz)
 clear HO266
 have HO288 := Aside0.mk (Kd.S_below HO267.out hbz)
 clear HO267
 have HO289 := Aside0.mk (Kd.R_below HO253.out hbz)
 clear HO253
 obtain ⟨A290, c291, rfl⟩ := Kd.R_slice HO274.out
 clear hb hbz
 -- impl.SureLiars
 go_wp2_with fail
 go_at_call 46; (with_reducible refine (impl_SureLiars.calls k293 _ _ (l0) _ _ (l1) _ _ (l2) (a3) (y0) _ ?s0 ?s1 ?s2 ?s3 ?s4 ?s5 Kk293.out).mono ?_); (case s0 => have z_ := (Kd.S_reads' HO288.out); repeat (first | exact z_.2.2 | (with_reducible refine Kd.C_alloc ?_ _) | (with_reducible refine Kd.C_drewN ?_ _) | (with_reducible refine Kd.C_drew ?_))); (case s1 => exact (Kd.S_reads' HO288.out).2.1); (case s2 => have z_ := (Kd.R_reads' HO289.out); repeat (first | exact z_.2.2 | (with_reducible refine Kd.C_alloc ?_ _) | (with_reducible refine Kd.C_drewN ?_ _) | (with_reducible refine Kd.C_drew ?_))); (case s3 => exact (Kd.R_reads' HO289.out).2.1); (case s4 => have z_ := (Kd.R_reads' HO274.out); repeat (first | exact z_.2.2 | (with_reducible refine Kd.C_alloc ?_ _) | (with_reducible refine Kd.C_drewN ?_ _) | (with_reducible refine Kd.C_drew ?_))); (case s5 => exact (Kd.R_reads' HO274.out).2.1); rintro e w292 ⟨v294, rfl, ho295, hb⟩
 have HO296 := Aside0.mk (R_fresh HBW275.out (by repeat (first | (with_reducible first | exact Below.refl _ _ | apply below_alloc | apply pw_below_drewN | apply below_drew1) | exact Below.refl _ _)) ho295 hb)
 clear ho295
 have hbz := below_step (w := w270) (by repeat (first | (with_reducible first | exact Below.refl _ _ | apply below_alloc | apply pw_below_drewN | apply below_drew1) | exact Below.refl _ _)) hb
 have HBW297 := Aside0.mk (below_step HBW275.out hbz)
 clear HBW275
 have HSZ298 := Aside0.mk hbz.size
 have HO299 := Aside0.mk (Kd.S_below HO277.out hbz)
 clear HO277
 have HO300 := Aside0.mk (Kd.R_below HO278.out hbz)
 clear HO278
 have HO301 := Aside0.mk (Kd.R_below HO279.out hbz)
 clear HO279
 have HO302 := Aside0.mk (Kd.R_below HO280.out hbz)
 clear HO280
 have HO303 := Aside0.mk (Kd.S_below HO281.out hbz)
 clear HO281
 have HO304 := Aside0.mk (Kd.R_below HO282.out hbz)
 clear HO282
 have HO305 := Aside0.mk (Kd.R_below HO283.out hbz)
 clear HO283
 have HO306 := Aside0.mk (Kd.S_below HO284.out hbz)
 clear HO284
 have HO307 := Aside0.mk (Kd.R_below HO285.out hbz)
 clear HO285
 have HO308 := Aside0.mk (Kd.R_below HO286.out hbz)
 clear HO286
 have HO309 := Aside0.mk (Kd.R_below HO287.out hbz)
 clear HO287
 have HO310 := Aside0.mk (Kd.S_below HO288.out hbz)
 clear HO288
 have HO311 := Aside0.mk (Kd.R_below HO289.out hbz)
 clear HO289
 have HO312 := Aside0.mk (Kd.R_below HO274.out hbz)
 clear HO274
 obtain ⟨A313, c314, rfl⟩ := Kd.R_slice HO296.out
 clear hb hbz
 -- laws.eqIntS
 go_wp2_with fail
 go_at_call 23; (with_reducible refine (laws_eqIntS.calls k316 _ _ (y0) _ _ (y0) true _ ?s0 ?s1 ?s2 ?s3 Kk316.out ⟨rfl⟩).mono ?_); (case s0 => have z_ := (Kd.R_reads' HO296.out); repeat (first | exact z_.2.2 | (with_reducible refine Kd.C_alloc ?_ _) | (with_reducible refine Kd.C_drewN ?_ _) | (with_reducible refine Kd.C_drew ?_))); (case s1 => exact (Kd.R_reads' HO296.out).2.1); (case s2 => have z_ := (Kd.R_reads' HO302.out); repeat (first | exact z_.2.2 | (with_reducible refine Kd.C_alloc ?_ _) | (with_reducible refine Kd.C_drewN ?_ _) | (with_reducible refine Kd.C_drew ?_))); (case s3 => exact (Kd.R_reads' HO302.out).2.1); rintro e w' ⟨rfl, ⟨nd, rfl⟩⟩
 -- laws.heldIntS
 go_wp2_with fail
 go_at_call 25; (refine (calls_cast ?ce (laws_heldIntS.calls k318 A101 c102 ((mkI (1) y0.length)) (1) (1 + (y0.length : Int)) _ ?s0 ?s1 Kk318.out ⟨by have := (show (0 : Int) ≤ 1 from by omega); omega⟩)).mono ?_); (case ce => simp only [mkI_length]); (case s0 => have z_ := (Kd.R_reads' HO309.out); repeat (first | exact z_.2.2 | (with_reducible refine Kd.C_alloc ?_ _) | (with_reducible refine Kd.C_drewN ?_ _) | (with_reducible refine Kd.C_drew ?_))); (case s1 => have z_ := (Kd.R_reads' HO309.out).2.1; simp only [mkI_length]; exact z_); rintro e w' ⟨rfl, ⟨nd, rfl⟩⟩
 go_wp2
 go_ret
 exact ⟨rfl, below_step HBW297.out (by repeat (first | (with_reducible first | exact Below.refl _ _ | apply below_alloc | apply pw_below_drewN | apply below_drew1) | exact Below.refl _ _))⟩
end Go.Proofs.Ytiipcophnnfnoaa.Pure
