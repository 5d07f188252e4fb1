/- What the functions that the law FnLiars uses compute, and that the program computes it: walks written by a program of this session. -/
import Derived.Test.YtiipcophnnfnoaaPFnLiarsx0
import Derived.Test.YtiipcophnnfnoaaPFnLiarsx1
import Derived.Test.YtiipcophnnfnoaaPFnLiarsx2
import Derived.Test.YtiipcophnnfnoaaPFnLiarsx4
import Derived.Test.YtiipcophnnfnoaaPFnLiarsx5
import Derived.Test.YtiipcophnnfnoaaPFnLiarsx6
namespace Go.Proofs.Ytiipcophnnfnoaa.PFnLiars
open Go.RowKit Go.Proofs.YtiipcophnnfnoaaW.PrintWords Go.Proofs.YtiipcophnnfnoaaW.PrintLast Go.Proofs.YtiipcophnnfnoaaW.PrintMore
attribute [local go_sem] max2_int min2_int max_two min_two max_three min_three max_four min_four   -- for this text's walks alone
set_option linter.unusedVariables false
set_option linter.unusedSimpArgs false

/-! ### impl_FewestLiars: function 30 -/
open Go.Proofs.Ytiipcophnnfnoaa.Base
theorem calls_gen {P : Program} {f : Nat} {args : Array Value} {w : World} {Q : Ending → World → Prop} (R : World → Prop) (hR : R w) (h : ∀ w', R w' → Calls P f args w' Q) : Calls P f args w Q := h w hR
def addV (cols : Nat) : Nat → Nat → List Int → List (List Int)
 | 0, _, set => [set]
 | d + 1, fr, set => (List.range' fr (cols - fr)).flatMap fun c => addV cols d (c + 1) (set ++ [(c : Int)])
theorem flat_len {α β : Type} (f : α → List β) (m : Nat) : ∀ (l : List α), (∀ x ∈ l, (f x).length ≤ m) → (l.flatMap f).length ≤ l.length * m
 | [], _ => by simp
 | x :: l, h => by
  have h1 := flat_len f m l (fun y hy => h y (by simp [hy]))
  have h2 := h x (by simp)
  rw [List.flatMap_cons, List.length_append, List.length_cons, Nat.succ_mul]
  omega
theorem addV_length (cols : Nat) (hc : cols ≤ 6) : ∀ (d fr : Nat) (set : List Int), (addV cols d fr set).length ≤ 6 ^ d
 | 0, fr, set => by simp [addV]
 | d + 1, fr, set => by
  rw [addV]
  have h := flat_len (fun c => addV cols d (c + 1) (set ++ [(c : Int)])) (6 ^ d) (List.range' fr (cols - fr)) (fun c _ => addV_length cols hc d _ _)
  rw [List.length_range'] at h
  have h2 : (cols - fr) * 6 ^ d ≤ 6 * 6 ^ d := Nat.mul_le_mul_right _ (by omega)
  rw [Nat.pow_succ, Nat.mul_comm]
  omega
theorem addV_six {d : Nat} (h : d ≤ 6) (cols : Nat) (hc : cols ≤ 6) (fr : Nat) (set : List Int) : (addV cols d fr set).length ≤ 46656 :=
 Nat.le_trans (addV_length cols hc d fr set) (Nat.le_trans (Nat.pow_le_pow_right (by omega) h) (by decide))
theorem addV_mem (cols : Nat) : ∀ (d fr : Nat) (set t : List Int), t ∈ addV cols d fr set → t.length = set.length + d
 | 0, fr, set, t, h => by
  rw [addV, List.mem_singleton] at h
  rw [h]
  rfl
 | d + 1, fr, set, t, h => by
  rw [addV, List.mem_flatMap] at h
  obtain ⟨c, _, hc⟩ := h
  have := addV_mem cols d _ _ t hc
  rw [this, List.length_append]
  simp
  omega
set_option maxHeartbeats 4000000 in
set_option maxRecDepth 100000 in
theorem add0_c (w0 : World) (gs go gc ga n cols : Nat) (A : Option Addr) (c : Nat) (set : List Int) (fr : Nat) (vo : Value) (rows : List (List Int)) (w : World)
  (hlen : set.length = n) (hn : n ≤ 6) (hB : Below w0.heap.size w0 w) (hR : Kd.R (Kd.int .i64) 3 w w0.heap.size (fun _ => True) (.slice A set.length c) set)
  (hS : Kd.S (Kd.slice 3 (Kd.int .i64)) 25 w w0.heap.size (fun _ => True) vo rows)
  (hgs : w.heap[gs]? = some (.cells #[.int .i64 n] 3 (0, 0))) (hgo : w.heap[go]? = some (.cells #[vo] 33 (0, 0))) (hbo : w0.heap.size ≤ go) (hl : rows.length + 1 ≤ 1000000) :
  Calls Try.prog 150 #[.slice A set.length c, .int .i64 fr, .pointer (some ⟨gs, 0, none⟩), .pointer (some ⟨go, 0, none⟩), .pointer (some ⟨gc, 0, none⟩), .pointer (some ⟨ga, 0, none⟩)] w fun e w' => (∃ v, e = .returned v) ∧ ∃ vo', w'.heap[go]? = some (.cells #[vo'] 33 (0, 0)) ∧ Kd.S (Kd.slice 3 (Kd.int .i64)) 25 w' w0.heap.size (fun _ => True) vo' (rows ++ [set]) ∧ Below w0.heap.size w0 w' ∧ Kept w w' (fun k => k = go ∨ some k = vo.ownBlock) ∧ (vo'.ownBlock = vo.ownBlock ∨ ∃ b, vo'.ownBlock = some b ∧ w.heap.size ≤ b) := by
 subst hlen
 have hcl : slices_Clone_int_int_102.f set = some set := by
  unfold slices_Clone_int_int_102.f
  simp
  omega
 have K := Aside0.mk hcl
 have hinf : (Try.prog.info? 25).map (fun i => (i.zero, i.size, i.bytes)) = some (some (.slice none 0 0), 1, 24) := by kernel_rfl
 have HINF := Aside0.mk hinf
 have HR := Aside0.mk hR
 have HS := Aside0.mk hS
 have HB := Aside0.mk hB
 have HGO := Aside0.mk hgo
 have HBO := Aside0.mk hbo
 have HL := Aside0.mk hl
 have hcs := (blk_cell hgs 0).trans rfl
 have hco := (blk_cell hgo 0).trans rfl
 clear hcl hinf hR hS hB hgs hgo hbo hl
 go_enter Try.func150, Try.ntmps150
 go_upto_region 1 with fail
 have HNE := Aside0.mk (Kd.S_ne HS.out HGO.out (by decide))
 have hfo := blk_frozen HGO.out 0
 go_region_law (first | (go_simp; go_at_call 102; (refine (slices_Clone_int_int_102.calls A c set set _ (Kd.C_below (Kd.R_reads' HR.out).2.2 (by repeat (first | (with_reducible first | exact Below.refl _ _ | apply below_alloc | apply pw_below_drewN | apply below_drew1) | exact Below.refl _ _))) (Kd.R_reads' HR.out).2.1 K.out).mono ?_); rintro e w1_ ⟨v1_, rfl, ho1, hb1⟩; obtain ⟨Ac_, cc_, rfl⟩ := Kd.R_slice ho1; have hk1_ := (blk_cell (blk_below HGO.out (below_step (w := w) (by repeat (first | (with_reducible first | exact Below.refl _ _ | apply below_alloc | apply pw_below_drewN | apply below_drew1) | exact Below.refl _ _)) hb1)) 0).trans rfl; have hk5_ : ∀ o, (World.alloc w1_ o).cell? ⟨go, 0, none⟩ = some vo := (fun o => (blk_cell (blk_alloc (blk_below HGO.out (below_step (w := w) (by repeat (first | (with_reducible first | exact Below.refl _ _ | apply below_alloc | apply pw_below_drewN | apply below_drew1) | exact Below.refl _ _)) hb1)) o) 0).trans rfl); have hk2_ := blk_frozen (blk_below HGO.out (below_step (w := w) (by repeat (first | (with_reducible first | exact Below.refl _ _ | apply below_alloc | apply pw_below_drewN | apply below_drew1) | exact Below.refl _ _)) hb1)) 0) | (refine Kd.S_append_step (Kd.slice 3 (Kd.int .i64)) (w0 := w0) w0.heap.size (by rfl) _ _ 33 25 (.slice none 0 0) 24 (by rfl) Try.underlying33 HINF.out rfl (by decide) (by omega) vo rows set [.slice Ac_ set.length cc_] (fun _ => True) (fun k => some k = (.slice Ac_ set.length cc_ : Value).ownBlock) (by rfl) (by rfl) ?aP ?aK (fun _ _ => trivial) ?aO ?aB ?aS ?aL ?_; (case aP => exact Kd.M_row (Kd.R_mono (Kd.R_tight rfl (Kd.R_lower (Kd.R_below ho1 (by repeat (first | (with_reducible first | exact Below.refl _ _ | apply below_alloc | apply pw_below_drewN | apply below_drew1) | exact Below.refl _ _))) HB.out.size)) (fun _ h_ => h_))); (case aK => exact fun k hk => ⟨trivial, fun he => Nat.lt_irrefl _ (Nat.lt_of_lt_of_le (Kd.S_lt HS.out k he.symm) (Kd.R_base ho1 k hk.symm))⟩); (case aO => exact Kd.S_mono (Kd.S_old HS.out (below_step (below_step (w := w) (by repeat (first | (with_reducible first | exact Below.refl _ _ | apply below_alloc | apply pw_below_drewN | apply below_drew1) | exact Below.refl _ _)) hb1) (by repeat (first | (with_reducible first | exact Below.refl _ _ | apply below_alloc | apply pw_below_drewN | apply below_drew1) | exact Below.refl _ _)))) (fun k hk => ⟨trivial, fun he => Nat.lt_irrefl _ (Nat.lt_of_lt_of_le hk.2 (Kd.R_base ho1 k he.symm))⟩)); (case aB => exact below_step HB.out (below_step (below_step (w := w) (by repeat (first | (with_reducible first | exact Below.refl _ _ | apply below_alloc | apply pw_below_drewN | apply below_drew1) | exact Below.refl _ _)) hb1) (by repeat (first | (with_reducible first | exact Below.refl _ _ | apply below_alloc | apply pw_below_drewN | apply below_drew1) | exact Below.refl _ _)))); (case aS => exact Nat.le_trans HB.out.size ((below_step (below_step (w := w) (by repeat (first | (with_reducible first | exact Below.refl _ _ | apply below_alloc | apply pw_below_drewN | apply below_drew1) | exact Below.refl _ _)) hb1) (by repeat (first | (with_reducible first | exact Below.refl _ _ | apply below_alloc | apply pw_below_drewN | apply below_drew1) | exact Below.refl _ _)))).size); (case aL => have := HL.out; omega); intro v2 w2 hS2 hB2 hg2 hat2; obtain ⟨A2_, c2_, rfl⟩ := Kd.S_slice hS2; have hj_ := (hg2.block go (blk_lt (blk_below HGO.out (below_step (below_step (w := w) (by repeat (first | (with_reducible first | exact Below.refl _ _ | apply below_alloc | apply pw_below_drewN | apply below_drew1) | exact Below.refl _ _)) hb1) (by repeat (first | (with_reducible first | exact Below.refl _ _ | apply below_alloc | apply pw_below_drewN | apply below_drew1) | exact Below.refl _ _))))) HNE.out).trans (blk_below HGO.out (below_step (below_step (w := w) (by repeat (first | (with_reducible first | exact Below.refl _ _ | apply below_alloc | apply pw_below_drewN | apply below_drew1) | exact Below.refl _ _)) hb1) (by repeat (first | (with_reducible first | exact Below.refl _ _ | apply below_alloc | apply pw_below_drewN | apply below_drew1) | exact Below.refl _ _)))); have hk3_ := (blk_cell hj_ 0).trans rfl; have hk4_ := blk_frozen hj_ 0) | fail)
 all_goals
  have hbz := below_step (below_step (w := w) (by repeat (first | (with_reducible first | exact Below.refl _ _ | apply below_alloc | apply pw_below_drewN | apply below_drew1) | exact Below.refl _ _)) hb1) (by repeat (first | (with_reducible first | exact Below.refl _ _ | apply below_alloc | apply pw_below_drewN | apply below_drew1) | exact Below.refl _ _))
  have hgo2 : w2.heap[go]? = some (.cells #[vo] 33 (0, 0)) := (hg2.block go (blk_lt (blk_below HGO.out hbz)) HNE.out).trans (blk_below HGO.out hbz)
  go_wp2
  refine bodyPost_ret (results_none rfl _ _ _) rfl ?_
  simp only [List.length_append, List.length_cons, List.length_nil, Nat.zero_add] at hS2 hat2
  refine ⟨⟨_, rfl⟩, _, blk_set hgo2 0 _, ?_, ?_, ?_, ?_⟩
  ·exact Kd.S_set hS2 hgo2 (by decide) 0 _
  ·exact below_set hB2 HBO.out
  ·exact Kept.setCell (Kept.of_grown hg2 (Kept.of_below hbz _) (fun k hk => .inl (.inr hk.symm))) (p := ⟨go, 0, none⟩) (.inl (.inl rfl)) _
  ·rcases hat2 with h | ⟨b, h, hb⟩
   ·exact .inl h
   ·exact .inr ⟨b, h, Nat.le_trans hbz.size hb⟩
theorem one_int {w : World} {g : Nat} {q : Int} (h : w.heap[g]? = some (.cells #[.int .i64 q] 3 (0, 0))) : Kd.C (Kd.int .i64) w (some ⟨g, 0, none⟩) 1 [q] := by
 refine ⟨rfl, by omega, fun _ => ⟨⟨g, 0, none⟩, rfl, fun j p hj => ?_⟩⟩
 obtain ⟨hj0, hp⟩ : j = 0 ∧ p = q := by
  cases j with
  | zero => exact ⟨rfl, by simpa using hj.symm⟩
  | succ j => simp at hj
 subst hj0
 subst hp
 refine ⟨[.int .i64 p], rfl, rfl, fun i u hu => ?_⟩
 have hi : i = 0 := by
  have := (List.getElem?_eq_some_iff.1 hu).1
  simp at this
  omega
 subst hi
 have hu' : Value.int .i64 p = u := by simpa using hu
 subst hu'
 have := blk_cell h 0
 simpa [Addr.add] using this
set_option maxHeartbeats 4000000 in
set_option maxRecDepth 100000 in
theorem add_c (w0 : World) (gs go gc ga n cols : Nat) (hn : n ≤ 6) (hcols : cols ≤ 6) (hbo : w0.heap.size ≤ go) : ∀ (d : Nat) (A : Option Addr) (nn c : Nat) (set : List Int) (fr : Nat) (fi : Int) (vo : Value) (rows : List (List Int)) (w : World),
  set.length + d = n → nn = set.length → fr ≤ 7 → fi = (fr : Int) → Below w0.heap.size w0 w → Kd.R (Kd.int .i64) 3 w w0.heap.size (fun _ => True) (.slice A nn c) set →
  Kd.S (Kd.slice 3 (Kd.int .i64)) 25 w w0.heap.size (fun _ => True) vo rows →
  w.heap[gs]? = some (.cells #[.int .i64 n] 3 (0, 0)) → w.heap[go]? = some (.cells #[vo] 33 (0, 0)) → w.heap[gc]? = some (.cells #[.int .i64 cols] 3 (0, 0)) → w.heap[ga]? = some (.cells #[.func (.func 150) #[] #[.pointer (some ⟨gs, 0, none⟩), .pointer (some ⟨go, 0, none⟩), .pointer (some ⟨gc, 0, none⟩), .pointer (some ⟨ga, 0, none⟩)]] 146 (0, 0)) → rows.length + (addV cols d fr set).length ≤ 1000000 →
  Calls Try.prog 150 #[.slice A nn c, .int .i64 fi, .pointer (some ⟨gs, 0, none⟩), .pointer (some ⟨go, 0, none⟩), .pointer (some ⟨gc, 0, none⟩), .pointer (some ⟨ga, 0, none⟩)] w fun e w' => (∃ v, e = .returned v) ∧ ∃ vo', w'.heap[go]? = some (.cells #[vo'] 33 (0, 0)) ∧ Kd.S (Kd.slice 3 (Kd.int .i64)) 25 w' w0.heap.size (fun _ => True) vo' (rows ++ addV cols d fr set) ∧ Below w0.heap.size w0 w' ∧ Kept w w' (fun k => k = go ∨ some k = vo.ownBlock) ∧ (vo'.ownBlock = vo.ownBlock ∨ ∃ b, vo'.ownBlock = some b ∧ w.heap.size ≤ b) := by
 intro d
 induction d with
 | zero =>
  intro A nn c set fr fi vo rows w hlen hnn hfr hfi hB hR hS hgs hgo hgc hga ht
  subst hnn
  subst hfi
  exact add0_c w0 gs go gc ga n cols A c set fr vo rows w (by omega) hn hB hR hS hgs hgo hbo (by simpa [addV] using ht)
 | succ d ih =>
  intro A nn c set fr fi vo rows w hlen hnn hfr hfi hB hR hS hgs hgo hgc hga ht
  subst hnn
  subst hfi
  have hcl : slices_Clone_int_int_102.f set = some set := by
   unfold slices_Clone_int_int_102.f
   simp
   omega
  have K := Aside0.mk hcl
  have hin3 : (Try.prog.info? 3).map (fun i => (i.zero, i.size, i.bytes)) = some (some (.int .i64 0), 1, 8) := by kernel_rfl
  have HIN3 := Aside0.mk hin3
  have HGN := Aside0.mk (Kd.S_ne hS hgs)
  have HSR0 := Aside0.mk (Kd.R_mono (ok' := fun k => ¬ (fun k => k = go ∨ some k = vo.ownBlock) k) (Kd.R_tight rfl hR) (fun k hk hp => by
   obtain ⟨cs, hcs⟩ := Kd.R_typed hR k hk.symm
   rcases hp with rfl | hp
   ·rw [hcs] at hgo; simp at hgo
   ·obtain ⟨cs2, hcs2⟩ := Kd.S_typed hS k hp.symm
    rw [hcs] at hcs2; simp at hcs2))
  have HF := Aside0.mk (show ∀ g t (cs : Array Value), w.heap[g]? = some (.cells cs t (0, 0)) → t ≠ 33 → 25 ≠ t → ¬ (fun k => k = go ∨ some k = vo.ownBlock) g from fun g t cs h1 h2 h3 hp => by
   rcases hp with rfl | hp
   ·rw [h1] at hgo; simp at hgo; exact h2 hgo.2
   ·exact Kd.S_ne hS h1 h3 hp)
  have HN := Aside0.mk (And.intro hlen hn)
  have HCO := Aside0.mk (And.intro hcols hfr)
  have GS0 := Aside0.mk hgs
  have GO0 := Aside0.mk hgo
  have GC0 := Aside0.mk hgc
  have GA0 := Aside0.mk hga
  have HS0 := Aside0.mk hS
  have HB0 := Aside0.mk hB
  have HT := Aside0.mk ht
  have HBO := Aside0.mk hbo
  have hcs := (blk_cell hgs 0).trans rfl
  have hne : ¬ set.length = n := by omega
  have eg : ∀ args w, (callFunc 150 args).run Try.prog w = .ok (.enter 150 args) w := by
   intro args w
   have h1 : Try.f150.name ≠ "runtime.NumGoroutine" := by decide
   obtain ⟨c_, hb⟩ : ∃ c_, Try.f150.body = some c_ := ⟨_, rfl⟩
   simp [callFunc, Try.func150, h1, hb, mark]
  clear hcl hin3 hB hR hS hgs hgo hgc hga ht hlen hn hcols hfr hbo HGN
  go_enter Try.func150, Try.ntmps150
  go_wp2
  go_loopg [8] (cols - fr) (fun gg v8 wr => ∃ (q : Nat) (vr : Value), gg = cols - q ∧ v8 = .int .i64 (q : Int) ∧ Aside0 (fr ≤ q ∧ (q ≤ cols ∨ q = fr)) ∧ Aside0 (Kd.S (Kd.slice 3 (Kd.int .i64)) 25 wr w0.heap.size (fun _ => True) vr (rows ++ (List.range' fr (q - fr)).flatMap (fun c => addV cols d (c + 1) (set ++ [(c : Int)])))) ∧ Aside0 (wr.heap[go]? = some (.cells #[vr] 33 (0, 0))) ∧ Aside0 (Below w0.heap.size w0 wr) ∧ Aside0 (Kept w wr (fun k => k = go ∨ some k = vo.ownBlock)) ∧ Aside0 (vr.ownBlock = vo.ownBlock ∨ ∃ b, vr.ownBlock = some b ∧ w.heap.size ≤ b))
  case atStart => exact ⟨fr, vo, rfl, rfl, ⟨Nat.le_refl _, .inr rfl⟩, ⟨by simpa using HS0.out⟩, GO0, HB0, ⟨Kept.refl _ _⟩, ⟨.inl rfl⟩⟩
  case round =>
   clear HS0 HB0 hcs
   obtain ⟨q, vr, hgg, rfl, HQ, HS, GO, HB, HK, HV⟩ := hrel
   have GS := Aside0.mk (blk_kept GS0.out HK.out (HF.out _ _ _ GS0.out (by decide) (by decide)))
   have GC := Aside0.mk (blk_kept GC0.out HK.out (HF.out _ _ _ GC0.out (by decide) (by decide)))
   have GA := Aside0.mk (blk_kept GA0.out HK.out (HF.out _ _ _ GA0.out (by decide) (by decide)))
   have HSR := Aside0.mk (Kd.R_kept HSR0.out HK.out (fun _ h => h))
   have hcc := (blk_cell GC.out 0).trans rfl
   by_cases hlt : q < cols
   ·have hlt' : (q : Int) < (cols : Int) := by omega
    have HLT := Aside0.mk hlt
    have hca := (blk_cell GA.out 0).trans rfl
    have hw1 : IntKind.i64.wrap ((q : Int) + 1) = (q : Int) + 1 := by rw [IntKind.wrap_i64]; have := HCO.out; omega
    have hq1 : q + 1 - fr = (q - fr) + 1 := by have := HQ.out; omega
    have HSP := Aside0.mk (show (List.range' fr (q + 1 - fr)).flatMap (fun c => addV cols d (c + 1) (set ++ [(c : Int)])) = (List.range' fr (q - fr)).flatMap (fun c => addV cols d (c + 1) (set ++ [(c : Int)])) ++ addV cols d (q + 1) (set ++ [(q : Int)]) by
     rw [hq1, List.range'_concat, List.flatMap_append, show fr + 1 * (q - fr) = q by have := HQ.out; omega]
     simp)
    have HTOT := Aside0.mk (show (rows ++ (List.range' fr (q - fr)).flatMap (fun c => addV cols d (c + 1) (set ++ [(c : Int)]))).length + (addV cols d (q + 1) (set ++ [(q : Int)])).length ≤ 1000000 by
     have h1 := HT.out
     have h2 : addV cols (d + 1) fr set = (List.range' fr (cols - fr)).flatMap (fun c => addV cols d (c + 1) (set ++ [(c : Int)])) := rfl
     have h3 : List.range' fr (cols - fr) = List.range' fr (q + 1 - fr) ++ List.range' (q + 1) (cols - (q + 1)) := by
      have := HQ.out
      rw [show cols - fr = (q + 1 - fr) + (cols - (q + 1)) by omega, ← List.range'_append]
      congr 2
      omega
     rw [h2, h3, List.flatMap_append, List.length_append, HSP.out, List.length_append] at h1
     rw [List.length_append]
     omega)
    have HGANE := Aside0.mk (show ¬ (fun k => k = go ∨ some k = vr.ownBlock) ga from fun hp => by
     rcases hp with hp | hp
     ·have h1 := GA.out; rw [hp, GO.out] at h1; simp at h1
     ·exact Kd.S_ne HS.out GA.out (by decide) hp)
    clear hlt hq1
    go_wp2_with fail
    go_region_held3 (fun w' => w'.cell? ⟨ga, 0, none⟩ = some (.func (.func 150) #[] #[.pointer (some ⟨gs, 0, none⟩), .pointer (some ⟨go, 0, none⟩), .pointer (some ⟨gc, 0, none⟩), .pointer (some ⟨ga, 0, none⟩)])) (first | assumption | go_keep | fail) (first | (go_at_call 102; (refine (slices_Clone_int_int_102.calls A c set set _ (Kd.C_below (Kd.R_reads' HSR.out).2.2 (by repeat (first | (with_reducible first | exact Below.refl _ _ | apply below_alloc | apply pw_below_drewN | apply below_drew1) | exact Below.refl _ _))) (Kd.R_reads' HSR.out).2.1 K.out).mono ?_); rintro e w1_ ⟨v1_, rfl, ho1, hb1⟩; obtain ⟨Ac_, cc_, rfl⟩ := Kd.R_slice ho1; have hk1_ := (blk_cell (blk_below GA.out (below_step (w := wr) (by repeat (first | (with_reducible first | exact Below.refl _ _ | apply below_alloc | apply pw_below_drewN | apply below_drew1) | exact Below.refl _ _)) hb1)) 0).trans rfl) | (refine Kd.R_append_rows_step (Kd.int .i64) (w0 := wr) wr.heap.size (by rfl) _ _ 25 3 (.int .i64 0) 8 (by rfl) Try.underlying25 HIN3.out rfl (by decide) (by omega) (.slice Ac_ set.length cc_) set [(q : Int)] _ _ _ (fun _ => True) (fun _ => False) (by rfl) (by rfl) ?aO ?aR (fun _ _ h => h) (fun _ h => h.elim) (fun _ _ => trivial) ?aB ?aS ?aL ?_; (case aO => exact Kd.R_lower (Kd.R_below ho1 (by repeat (first | (with_reducible first | exact Below.refl _ _ | apply below_alloc | apply pw_below_drewN | apply below_drew1) | exact Below.refl _ _))) (show Below wr.heap.size wr _ from (by repeat (first | (with_reducible first | exact Below.refl _ _ | apply below_alloc | apply pw_below_drewN | apply below_drew1) | exact Below.refl _ _))).size); (case aR => exact one_int (by repeat (first | exact blk_new _ _ | refine blk_below ?_ hb1 | refine blk_drewN ?_ _))); (case aB => exact (below_step (below_step (w := wr) (by repeat (first | (with_reducible first | exact Below.refl _ _ | apply below_alloc | apply pw_below_drewN | apply below_drew1) | exact Below.refl _ _)) hb1) (by repeat (first | (with_reducible first | exact Below.refl _ _ | apply below_alloc | apply pw_below_drewN | apply below_drew1) | exact Below.refl _ _)))); (case aS => exact ((below_step (below_step (w := wr) (by repeat (first | (with_reducible first | exact Below.refl _ _ | apply below_alloc | apply pw_below_drewN | apply below_drew1) | exact Below.refl _ _)) hb1) (by repeat (first | (with_reducible first | exact Below.refl _ _ | apply below_alloc | apply pw_below_drewN | apply below_drew1) | exact Below.refl _ _)))).size); (case aL => have := HN.out; simp; omega); intro v2 w2 hR2 hB2 hg2 hat2; obtain ⟨A2_, c2_, rfl⟩ := Kd.R_slice hR2; simp only [List.length_append, List.length_cons, List.length_nil, Nat.zero_add] at hR2; have hk2_ := (blk_cell (blk_below GA.out hB2) 0).trans rfl) | (go_at_call 150; (refine (ih A2_ _ c2_ (set ++ [(q : Int)]) (q + 1) _ vr (rows ++ (List.range' fr (q - fr)).flatMap (fun c => addV cols d (c + 1) (set ++ [(c : Int)]))) _ ?bl ?bn ?bf ?bq ?bB ?bR ?bS ?bs ?bo ?bc ?ba ?bt).mono ?_); (case bl => have := HN.out; simp; omega); (case bn => simp); (case bf => have := HCO.out; have := HLT.out; omega); (case bq => push_cast; rfl); (case bB => exact below_step HB.out (below_step hB2 (by repeat (first | (with_reducible first | exact Below.refl _ _ | apply below_alloc | apply pw_below_drewN | apply below_drew1) | exact Below.refl _ _)))); (case bR => exact Kd.R_mono (Kd.R_lower (Kd.R_below hR2 (by repeat (first | (with_reducible first | exact Below.refl _ _ | apply below_alloc | apply pw_below_drewN | apply below_drew1) | exact Below.refl _ _))) HB.out.size) (fun _ _ => trivial)); (case bS => exact Kd.S_below HS.out (below_step hB2 (by repeat (first | (with_reducible first | exact Below.refl _ _ | apply below_alloc | apply pw_below_drewN | apply below_drew1) | exact Below.refl _ _)))); (case bs => exact blk_below GS.out (below_step hB2 (by repeat (first | (with_reducible first | exact Below.refl _ _ | apply below_alloc | apply pw_below_drewN | apply below_drew1) | exact Below.refl _ _)))); (case bo => exact blk_below GO.out (below_step hB2 (by repeat (first | (with_reducible first | exact Below.refl _ _ | apply below_alloc | apply pw_below_drewN | apply below_drew1) | exact Below.refl _ _)))); (case bc => exact blk_below GC.out (below_step hB2 (by repeat (first | (with_reducible first | exact Below.refl _ _ | apply below_alloc | apply pw_below_drewN | apply below_drew1) | exact Below.refl _ _)))); (case ba => exact blk_below GA.out (below_step hB2 (by repeat (first | (with_reducible first | exact Below.refl _ _ | apply below_alloc | apply pw_below_drewN | apply below_drew1) | exact Below.refl _ _)))); (case bt => exact HTOT.out); rintro e w3 ⟨⟨u3, rfl⟩, vo3, hgo3, hS3, hB3, hk3, hat3⟩; have hk3_ := cell_kept (hk2_) hk3 HGANE.out))
    all_goals (go_wp2_with fail)
    all_goals (go_roundg (cols - (q + 1)))
    all_goals (first | (case measure => have := HLT.out; rw [hgg]; omega) | skip)
    all_goals
     have hb9 := below_step (w := wr) hB2 (by repeat (first | (with_reducible first | exact Below.refl _ _ | apply below_alloc | apply pw_below_drewN | apply below_drew1) | exact Below.refl _ _))
     refine ⟨q + 1, vo3, rfl, by push_cast; rfl, ⟨by have := HQ.out; have := HLT.out; omega⟩, ⟨?_⟩, ⟨hgo3⟩, ⟨hB3⟩, ⟨?_⟩, ⟨?_⟩⟩
     ·rw [HSP.out, ← List.append_assoc]; exact hS3
     ·refine Kept.then_ HK.out ((Kept.of_below hb9 _).then_ hk3 (fun _ h => .inl h)) (fun k hk => ?_)
      rcases hk with hk | hk
      ·exact .inl (.inl hk)
      ·rcases HV.out with h | ⟨b, h, hb⟩
       ·exact .inl (.inr (hk.trans h))
       ·rw [h] at hk; injection hk with hk; subst hk; exact .inr hb
     ·rcases hat3 with h | ⟨b, h, hb⟩
      ·rw [h]; exact HV.out
      ·exact .inr ⟨b, h, Nat.le_trans HK.out.1 (Nat.le_trans hb9.size hb)⟩
   ·have hlt' : ¬ (q : Int) < (cols : Int) := by omega
    have hqe : q - fr = cols - fr := by have := HQ.out; omega
    go_wp2
    refine bodyPost_end (results_none rfl _ _ _) rfl ?_
    exact ⟨⟨_, rfl⟩, vr, GO.out, by rw [hqe] at HS; exact HS.out, HB.out, HK.out, HV.out⟩
theorem impl_InRange_eq (a b c : Int) : impl_InRange.f a b c = some (decide (b ≤ a ∧ a ≤ c)) := by
 unfold impl_InRange.f
 by_cases h : b ≤ a
 ·rw [if_pos h]
  simp [h]
 ·rw [if_neg h]
  simp [h]
theorem run_store_func_ {P : Program} {w : World} {a : Addr} {m : Mode} (f : Fn) (t : Array Value) (v : Array Value) : (store a (.func f t v) m).run P w = stored P w a (.func f t v) m := run_store P w a _ m rfl
attribute [local go_sem] run_store_func_
theorem blk_two (w : World) (a b : Obj) : ((w.alloc a).alloc b).heap[w.heap.size + 1]? = some b := by
 have h := blk_new (w.alloc a) b
 rw [show (w.alloc a).heap.size = w.heap.size + 1 from Array.size_push _] at h
 exact h
set_option maxHeartbeats 4000000 in
set_option maxRecDepth 100000 in
theorem impl_SetsOf_c (cols size : Nat) (hc : cols ≤ 6) (hs : size ≤ cols) (hlen : (addV cols size 0 []).length ≤ 1000000) (w : World) :
  Calls Try.prog 85 #[.int .i64 cols, .int .i64 size] w fun e w' => ∃ v, e = .returned v ∧ Kd.S (Kd.slice 3 (Kd.int .i64)) 25 w' w.heap.size (fun _ => True) v (addV cols size 0 []) ∧ Below w.heap.size w w' := by
 have K1 := Aside0.mk (show impl_InRange.f (cols : Int) 0 6 = some true by rw [impl_InRange_eq, decide_eq_true (by omega)])
 have K2 := Aside0.mk (show impl_InRange.f (size : Int) 0 (cols : Int) = some true by rw [impl_InRange_eq, decide_eq_true (by omega)])
 have HC := Aside0.mk (And.intro hc hs)
 have HLEN := Aside0.mk hlen
 clear hlen hc hs
 have eg : ∀ args w, (callFunc 150 args).run Try.prog w = .ok (.enter 150 args) w := by
  intro args w
  have h1 : Try.f150.name ≠ "runtime.NumGoroutine" := by decide
  obtain ⟨c_, hb⟩ : ∃ c_, Try.f150.body = some c_ := ⟨_, rfl⟩
  simp [callFunc, Try.func150, h1, hb, mark]
 go_enter Try.func85, Try.ntmps85
 go_upto_region 3 with (first | (go_at_call 116; (with_reducible refine (impl_InRange.calls (cols : Int) 0 6 true _ K1.out).mono ?_); rintro e w' ⟨rfl, ⟨nd, rfl⟩⟩) | (go_at_call 116; (with_reducible refine (impl_InRange.calls (size : Int) 0 (cols : Int) true _ K2.out).mono ?_); rintro e w' ⟨rfl, ⟨nd, rfl⟩⟩))
 generalize hm : World.drewN _ _ = w1
 have hb0 : Below w.heap.size w w1 := by rw [← hm]; exact (by repeat (first | (with_reducible first | exact Below.refl _ _ | apply below_alloc | apply pw_below_drewN | apply below_drew1) | exact Below.refl _ _))
 have hx0 : w1.heap[w.heap.size]? = some (.cells #[.int .i64 (cols : Int)] 3 (0, 0)) := by rw [← hm]; exact blk_drewN (blk_alloc (blk_new w _) _) _
 have hx1 : w1.heap[w.heap.size + 1]? = some (.cells #[.int .i64 (size : Int)] 3 (0, 0)) := by rw [← hm]; exact blk_drewN (blk_two w _ _) _
 clear hm
 go_upto_region 4 with fail
 generalize hm : World.alloc _ _ = w2
 have hb1 : Below w1.heap.size w1 w2 := by rw [← hm]; exact (by repeat (first | (with_reducible first | exact Below.refl _ _ | apply below_alloc | apply pw_below_drewN | apply below_drew1) | exact Below.refl _ _))
 have hx2 : w2.heap[w1.heap.size]? = some (.cells #[.slice none 0 0] 33 (0, 0)) := by rw [← hm]; exact blk_new _ _
 clear hm
 go_upto_region 5 with fail
 generalize hm : World.alloc _ _ = w3
 have hb2 : Below w2.heap.size w2 w3 := by rw [← hm]; exact (by repeat (first | (with_reducible first | exact Below.refl _ _ | apply below_alloc | apply pw_below_drewN | apply below_drew1) | exact Below.refl _ _))
 have hx3 : w3.heap[w2.heap.size]? = some (.cells #[.nilFunc] 146 (0, 0)) := by rw [← hm]; exact blk_new _ _
 clear hm
 have hf3 := blk_frozen hx3 0
 have hc3 := (blk_cell hx3 0).trans rfl
 go_upto_region 6 with fail
 generalize hm : World.setCell _ _ _ = w4
 have hx3' : w4.heap[w2.heap.size]? = some (.cells #[.func (.func 150) #[] #[.pointer (some ⟨w.heap.size + 1, 0, none⟩), .pointer (some ⟨w1.heap.size, 0, none⟩), .pointer (some ⟨w.heap.size, 0, none⟩), .pointer (some ⟨w2.heap.size, 0, none⟩)]] 146 (0, 0)) := by rw [← hm]; exact blk_set hx3 0 _
 have hk34 : Kept w3 w4 (fun k => k = w2.heap.size) := by rw [← hm]; exact Kept.setCell (S := fun k => k = w2.heap.size) (Kept.refl _ _) (p := ⟨w2.heap.size, 0, none⟩) (.inl rfl) _
 have hbw : Below w.heap.size w w4 := by
  rw [← hm]
  exact below_set (below_step hb0 (below_step hb1 hb2)) (Nat.le_trans hb0.size hb1.size)
 have hl0 := blk_lt hx0
 have hl1 := blk_lt hx1
 have hl2 := blk_lt hx2
 have hx0' := blk_kept (blk_below hx0 (below_step hb1 hb2)) hk34 (by intro h; have := hb1.size; omega)
 have hx1' := blk_kept (blk_below hx1 (below_step hb1 hb2)) hk34 (by intro h; have := hb1.size; omega)
 have hx2' := blk_kept (blk_below hx2 hb2) hk34 (by intro h; omega)
 clear hm hf3 hc3 hb2 hx3 hk34
 have hc4 := (blk_cell hx3' 0).trans rfl
 have hs1 : w.heap.size ≤ w1.heap.size := hb0.size
 go_wp2_with fail
 go_at_call 150; (refine (add_c w (w.heap.size + 1) w1.heap.size w.heap.size w2.heap.size size cols ?an ?ac hs1 size (some ⟨w4.heap.size, 0, none⟩) 0 0 [] 0 0 (.slice none 0 0) [] _ ?bl rfl ?bf rfl ?bB ?bR ?bS ?bs ?bo ?bc ?ba ?bt).mono ?_)
 case an => have := HC.out; omega
 case ac => exact HC.out.1
 case bl => simp
 case bf => omega
 case bB => exact below_step hbw (by repeat (first | (with_reducible first | exact Below.refl _ _ | apply below_alloc | apply pw_below_drewN | apply below_drew1) | exact Below.refl _ _))
 case bR => exact Kd.R_of_own (own_lit w4 w.heap.size 3 .i64 [] hbw.size (by simp)) (fun _ _ => trivial)
 case bS => exact Kd.S_nil _ _ _ _ _
 case bs => exact blk_alloc hx1' _
 case bo => exact blk_alloc hx2' _
 case bc => exact blk_alloc hx0' _
 case ba => exact blk_alloc hx3' _
 case bt => simpa using HLEN.out
 rintro e w5 ⟨⟨u5, rfl⟩, vo5, hgo5, hS5, hB5, hk5, hat5⟩
 obtain ⟨A5, c5, rfl⟩ := Kd.S_slice hS5
 have hc5 := (blk_cell hgo5 0).trans rfl
 have HS5 := Aside0.mk hS5
 have HB5 := Aside0.mk hB5
 clear hS5 hB5 hgo5 hk5 hat5 hx0' hx1' hx2' hx3' hc4 hbw
 go_wp2
 go_ret
 exact ⟨_, rfl, by simpa using HS5.out, HB5.out⟩
def frm (s : List Int) : Nat := match s.getLast? with
 | none => 0
 | some x => (x + 1).toNat
def extV (cols : Nat) (s : List Int) : List (List Int) := (List.range' (frm s) (cols - frm s)).map fun (c : Nat) => s ++ [(c : Int)]
def levN (cols : Nat) : Nat → List (List Int) → List (List Int)
 | 0, L => L
 | d + 1, L => levN cols d (L.flatMap (extV cols))
theorem frm_snoc (s : List Int) (c : Nat) : frm (s ++ [(c : Int)]) = c + 1 := by
 simp [frm]
theorem levN_addV (cols : Nat) : ∀ (d : Nat) (L : List (List Int)), levN cols d L = L.flatMap fun s => addV cols d (frm s) s
 | 0, L => by simp [levN, addV]
 | d + 1, L => by
  rw [levN, levN_addV cols d, List.flatMap_assoc]
  refine congrArg (fun f => L.flatMap f) (funext fun s => ?_)
  rw [extV, List.flatMap_map, addV]
  refine congrArg (fun f => (List.range' (frm s) (cols - frm s)).flatMap f) (funext fun c => ?_)
  rw [frm_snoc]
def goodS (cols n : Nat) (s : List Int) : Prop := s.length = n ∧ ∀ x, s.getLast? = some x → 0 ≤ x ∧ x < (cols : Int)
theorem extV_good {cols n : Nat} {s : List Int} (h : goodS cols n s) : ∀ t ∈ extV cols s, goodS cols (n + 1) t := by
 intro t ht
 rw [extV, List.mem_map] at ht
 obtain ⟨c, hc, rfl⟩ := ht
 have hc2 := List.mem_range'_1.1 hc
 refine ⟨by simp [h.1], fun x hx => ?_⟩
 have e : x = (c : Int) := by simpa using hx.symm
 omega
theorem extV_len {cols : Nat} (hc : cols ≤ 6) (s : List Int) : (extV cols s).length ≤ 6 := by
 simp [extV]
 omega
theorem impl_allIn_l0 (lo hi : Int) : ∀ (suf pre : List Int), (pre ++ suf).length ≤ 1048576 →
  Ev (fun k => impl_allIn.l0 k lo hi (pre ++ suf) ((pre ++ suf).length : Int) (pre.length : Int)) (suf.all fun x => decide (lo ≤ x ∧ x ≤ hi)) := by
 intro suf
 induction suf with
 | nil =>
  intro pre hb
  refine Ev.step (fun k => by rw [impl_allIn.l0]) ?_
  exact evNeg (by simp) (Ev.now _)
 | cons x suf ih =>
  intro pre hb
  simp only [List.length_append, List.length_cons] at hb
  refine Ev.step (fun k => by rw [impl_allIn.l0]) ?_
  refine evPos (by simp only [List.length_append, List.length_cons]; omega) (evPos (by omega) (evPos (by simp only [List.length_append, List.length_cons]; omega) ?_))
  rw [rd_mid, wsucc (by omega)]
  refine evSome (impl_InRange_eq _ _ _) ?_
  by_cases hx : lo ≤ x ∧ x ≤ hi
  ·refine evPos (by simp [hx]) ?_
   have h := ih (pre ++ [x]) (by simp; omega)
   refine evEq ?_ (Ev.congr (fun k => ?_) h)
   ·simp [hx]
   ·simp
  ·refine evNeg (by simpa using hx) (evEq ?_ (Ev.now _))
   simp [hx]
theorem impl_allIn_ev (l : List Int) (lo hi : Int) (hl : l.length ≤ 1048576) : Ev (fun k => impl_allIn.f k l lo hi) (l.all fun x => decide (lo ≤ x ∧ x ≤ hi)) := by
 have h := impl_allIn_l0 lo hi l [] (by simpa using hl)
 simpa [impl_allIn.f] using h
def cellR (v : Int) : Bool := decide (-2 ≤ v ∧ v ≤ 2)
def matB (m : List (List Int)) (c : Int) : Bool := decide (1 ≤ c ∧ c ≤ 6) && (decide (m.length ≤ 12) && m.all fun r => decide ((r.length : Int) = c) && r.all cellR)
theorem impl_IsMatrix_l0 (c : Int) : ∀ (suf pre : List (List Int)), (pre ++ suf).length ≤ 12 → (∀ r ∈ suf, r.length ≤ 1048576) →
  Ev (fun k => impl_IsMatrix.l0 k c (pre ++ suf) ((pre ++ suf).length : Int) (pre.length : Int)) (suf.all fun r => decide ((r.length : Int) = c) && r.all cellR) := by
 intro suf
 induction suf with
 | nil =>
  intro pre hb hr
  refine Ev.step (fun k => by rw [impl_IsMatrix.l0]) ?_
  exact evNeg (by simp) (Ev.now _)
 | cons x suf ih =>
  intro pre hb hr
  simp only [List.length_append, List.length_cons] at hb
  refine Ev.step (fun k => by rw [impl_IsMatrix.l0]) ?_
  refine evPos (by simp only [List.length_append, List.length_cons]; omega) (evPos (by omega) (evPos (by simp only [List.length_append, List.length_cons]; omega) ?_))
  rw [rd_L1, getD_mid, wsucc (by omega)]
  have h := ih (pre ++ [x]) (by simp; omega) (fun r h => hr r (by simp [h]))
  have h' : Ev (fun k => impl_IsMatrix.l0 k c (pre ++ x :: suf) ((pre ++ x :: suf).length : Int) ((pre.length + 1 : Nat) : Int)) (suf.all fun r => decide ((r.length : Int) = c) && r.all cellR) := by simpa using h
  by_cases hx : (x.length : Int) = c
  ·refine evPos hx (Ev.bind (impl_allIn_ev x (-2) 2 (hr x (by simp))) ?_)
   have ea : (x.all fun v => decide (-2 ≤ v ∧ v ≤ 2)) = x.all cellR := rfl
   rw [ea]
   by_cases ha : x.all cellR = true
   ·refine evPos ha (evEq ?_ h')
    simp only [List.all_cons, decide_eq_true hx, ha, Bool.true_and]
   ·have ha' : x.all cellR = false := by simpa using ha
    refine evNeg ha (evEq ?_ (Ev.now _))
    simp only [List.all_cons, ha', Bool.and_false, Bool.false_and]
  ·refine evNeg hx (evEq ?_ (Ev.now _))
   simp only [List.all_cons, decide_eq_false hx, Bool.false_and]
theorem impl_IsMatrix_ev (m : List (List Int)) (c : Int) (hr : ∀ r ∈ m, r.length ≤ 1048576) : Ev (fun k => impl_IsMatrix.f k m c) (matB m c) := by
 unfold impl_IsMatrix.f
 refine evSome (impl_InRange_eq _ _ _) ?_
 by_cases h1 : 1 ≤ c ∧ c ≤ 6
 ·refine evPos (by simpa using h1) (Ev.step (fun k => by rw [impl_IsMatrix.j0]) ?_)
  by_cases h2 : m.length ≤ 12
  ·refine evNeg (by simp; omega) (evEq ?_ (impl_IsMatrix_l0 c m [] (by simpa using h2) hr))
   simp only [matB, decide_eq_true h1, decide_eq_true h2, Bool.true_and]
  ·refine evPos (by simp; omega) (evEq ?_ (Ev.now _))
   simp only [matB, decide_eq_false h2, Bool.and_false, Bool.false_and]
 ·refine evNeg (by simpa using h1) (Ev.step (fun k => by rw [impl_IsMatrix.j0]) (evPos rfl (evEq ?_ (Ev.now _))))
  simp only [matB, decide_eq_false h1, Bool.false_and]
def sysB (m : List (List Int)) (v : List Int) (c : Int) : Bool := matB m c && (decide (v.length = m.length) && v.all fun x => decide (-1000 ≤ x ∧ x ≤ 1000))
theorem impl_IsSystem_ev (m : List (List Int)) (v : List Int) (c : Int) (hr : ∀ r ∈ m, r.length ≤ 1048576) (hv : v.length ≤ 1048576) : Ev (fun k => impl_IsSystem.f k m v c) (sysB m v c) := by
 unfold impl_IsSystem.f
 refine Ev.bind (impl_IsMatrix_ev m c hr) ?_
 by_cases h1 : matB m c = true
 ·refine evPos h1 ?_
  by_cases h2 : v.length = m.length
  ·refine evPos (by omega) (Ev.bind (impl_allIn_ev v (-1000) 1000 hv) (evEq ?_ (Ev.now _)))
   simp only [sysB, h1, decide_eq_true h2, Bool.true_and]
  ·refine evNeg (by omega) (evEq ?_ (Ev.now _))
   simp only [sysB, decide_eq_false h2, Bool.and_false, Bool.false_and]
 ·have h1' : matB m c = false := by simpa using h1
  refine evNeg h1 (evEq ?_ (Ev.now _))
  simp only [sysB, h1', Bool.false_and]
theorem rd_vec (r : List Int) (j : Nat) : rd r (j : Int) = vec r j := by simp [rd, vec]
theorem gcdL_le_of (a b : Int) (M : Nat) (ha : a.natAbs ≤ M) (hb : b.natAbs ≤ M) : Int.gcd a b ≤ M := by
 by_cases h : b = 0
 ·subst h; simpa using ha
 ·exact Nat.le_trans (Nat.le_of_dvd (by omega) (Nat.gcd_dvd_right a.natAbs b.natAbs)) hb
theorem gcdL_le (M : Nat) : ∀ (r : List Int) (g : Int), g.natAbs ≤ M → (∀ x ∈ r, x.natAbs ≤ M) → (gcdF g r).natAbs ≤ M
 | [], g, h, _ => h
 | x :: r, g, h, hr => gcdL_le M r _ (by
   have := gcdL_le_of g x M h (hr x (by simp))
   simpa using this) (fun y hy => hr y (by simp [hy]))
theorem gcdL_append (g : Int) (r : List Int) (x : Int) : gcdF g (r ++ [x]) = ((Int.gcd (gcdF g r) x : Nat) : Int) := by simp [gcdF, List.foldl_append]
theorem rdL_at (L : List (List Int)) (j : Nat) : rd_L1 L (j : Int) = L.getD j [] := by simp [rd_L1]
theorem first_at (c : Nat) : ∀ (R : List (List Int)), (∀ r ∈ R, vec r c = 0) ∨ ∃ R0 x R1, R = R0 ++ x :: R1 ∧ (∀ r ∈ R0, vec r c = 0) ∧ vec x c ≠ 0
 | [] => .inl (by simp)
 | r :: R => by
  by_cases h : vec r c = 0
  ·rcases first_at c R with h1 | ⟨R0, x, R1, e, h1, h2⟩
   ·left
    intro s hs
    rcases List.mem_cons.1 hs with rfl | hs
    ·exact h
    ·exact h1 s hs
   ·right
    refine ⟨r :: R0, x, R1, by rw [e]; rfl, ?_, h2⟩
    intro s hs
    rcases List.mem_cons.1 hs with rfl | hs
    ·exact h
    ·exact h1 s hs
  ·exact .inr ⟨[], r, R, rfl, by simp, h⟩
theorem bound62_cell {r : List Int} {cb : Nat} (h : ∀ j, (vec r j).natAbs ≤ cellB cb j) : bound62 r := by
 intro x hx
 obtain ⟨j, hj, rfl⟩ := List.mem_iff_getElem.1 hx
 have h1 := h j
 rw [vec_of_lt r j hj] at h1
 unfold cellB at h1
 split at h1 <;> omega
theorem vec_inj {r s : List Int} (hl : r.length = s.length) (h : ∀ j, vec r j = vec s j) : r = s := by
 refine List.ext_getElem hl fun j h1 h2 => ?_
 have := h j
 rwa [vec_of_lt r j h1, vec_of_lt s j h2] at this
abbrev ofL (X : List (List Int)) : (Nat → Int) → Prop := fun z => ∃ r, r ∈ X ∧ z = vec r
theorem inX_ofL (X : List (List Int)) (y : Nat → Int) : Sp (inX (xvec X) X.length) y ↔ Sp (ofL X) y := by
 constructor
 ·intro h
  refine h.mono ?_
  rintro z ⟨i, hi, rfl⟩
  exact ⟨X[i], List.getElem_mem _, xvec_mem X i hi⟩
 ·intro h
  refine h.mono ?_
  rintro z ⟨r, hr, rfl⟩
  obtain ⟨i, hi, rfl⟩ := List.mem_iff_getElem.1 hr
  exact ⟨i, hi, (xvec_mem X i hi).symm⟩
theorem outE_rows (O : List (List Int)) (z : Nat → Int) : rowsOf (outE O) z ↔ ofL O z := by
 constructor
 ·rintro ⟨a, ha, rfl⟩
  obtain ⟨r, hr, rfl⟩ := List.mem_map.1 ha
  exact ⟨r, hr, rfl⟩
 ·rintro ⟨r, hr, rfl⟩
  exact ⟨(leadL r, vec r), List.mem_map.2 ⟨r, hr, rfl⟩, rfl⟩
/-- rows that vanish everywhere add nothing -/
theorem CInv.span {X : List (List Int)} {N c : Nat} {R O : List (List Int)} (h : CInv X N c R O) (hz : ∀ r ∈ R, ∀ j, vec r j = 0) (y : Nat → Int) : Sp (rowsOf (outE O)) y ↔ Sp (ofL X) y := by
 rw [← inX_ofL]
 constructor
 ·intro hy
  refine hy.trans fun z hz' => h.inv.span2 z (.inr hz')
 ·intro hy
  refine hy.trans ?_
  rintro z ⟨i, hi, rfl⟩
  refine (h.inv.span1 i hi).trans ?_
  rintro z (⟨r, hr, rfl⟩ | hz')
  ·exact Sp.zero.of_eq (hz r hr)
  ·exact .mem hz'
theorem CInv.zeros {X : List (List Int)} {N : Nat} {R O : List (List Int)} (h : CInv X N N R O) : ∀ r ∈ R, ∀ j, vec r j = 0 := fun r hr j => by
 by_cases hj : j < N
 ·exact h.low r hr j hj
 ·exact vec_out r j (by rw [h.lenr r hr]; omega)
theorem CInv.unique {X X' : List (List Int)} {N c c' : Nat} {R O R' O' : List (List Int)} (h : CInv X N c R O) (h' : CInv X' N c' R' O') (hz : ∀ r ∈ R, ∀ j, vec r j = 0) (hz' : ∀ r ∈ R', ∀ j, vec r j = 0) (hs : ∀ y, Sp (ofL X) y ↔ Sp (ofL X') y) : O = O' := by
 have e := ech_unique h.inv.ech h'.inv.ech h.inv.prim h'.inv.prim (fun y => by rw [CInv.span h hz, CInv.span h' hz', hs])
 have hl : O.length = O'.length := by simpa [outE] using congrArg List.length e
 refine List.ext_getElem hl fun i h1 h2 => ?_
 refine vec_inj (by rw [h.leno _ (List.getElem_mem _), h'.leno _ (List.getElem_mem _)]) fun j => ?_
 have e1 := congrArg (fun l => l[i]?) e
 simp [outE, h1, h2] at e1
 rw [e1.2]
theorem subset_len {α : Type} [DecidableEq α] : ∀ (l m : List α), l.Nodup → (∀ x ∈ l, x ∈ m) → l.length ≤ m.length
 | [], m, _, _ => by simp
 | x :: l, m, hn, h => by
  rw [List.nodup_cons] at hn
  have hx := h x (by simp)
  have ih := subset_len l (m.erase x) hn.2 (fun y hy => by
   have hne : y ≠ x := fun e => hn.1 (e ▸ hy)
   rw [List.mem_erase_of_ne hne]
   exact h y (by simp [hy]))
  rw [List.length_erase_of_mem hx] at ih
  have : 0 < m.length := List.length_pos_of_mem hx
  simp only [List.length_cons]
  omega
theorem same_members {α : Type} [DecidableEq α] {l m : List α} (hn : l.Nodup) (h : ∀ x ∈ l, x ∈ m) (hl : m.length ≤ l.length) : ∀ x ∈ m, x ∈ l := by
 intro x hx
 apply Classical.byContradiction
 intro hnx
 have := subset_len (x :: l) m (List.nodup_cons.2 ⟨hnx, hn⟩) (fun y hy => by
  rcases List.mem_cons.1 hy with rfl | hy
  ·exact hx
  ·exact h y hy)
 simp only [List.length_cons] at this
 omega
/-- a row is cleared by the pivots one behind the other -/
def goL : List (List Int) → List Int → List Int
 | [], x => x
 | r :: O, x => goL O (clearIf x r (leadL r))
theorem clearIf_clr (x r : List Int) (k : Nat) (h : x.length = r.length) (hr : vec r k ≠ 0) : ∃ g : Int, g ≠ 0 ∧ ∀ j, clr k (vec r) (vec x) j = g * vec (clearIf x r k) j := by
 unfold clearIf
 split
 ·rename_i h0
  exact ⟨vec r k, hr, fun j => by simp only [clr]; rw [h0]; grind⟩
 ·exact (clearL_tid x r k h).mul
theorem clearIf_sp (S : (Nat → Int) → Prop) (x r : List Int) (k : Nat) (h : x.length = r.length) (hr : vec r k ≠ 0) (hS : Sp S (vec r)) : Sp S (vec (clearIf x r k)) ↔ Sp S (vec x) := by
 obtain ⟨g, hg, e⟩ := clearIf_clr x r k h hr
 constructor
 ·intro hy
  refine Sp.of_lin (vec r k) g (vec x k) hr hy hS fun j => ?_
  have := e j
  simp only [clr] at this
  grind
 ·intro hx
  refine Sp.of_lin g (vec r k) (- vec x k) hg hx hS fun j => ?_
  rw [← e j]
  simp only [clr]
  grind
theorem clearIf_zero {x r : List Int} {k : Nat} (h : x.length = r.length) (hr : vec r k ≠ 0) (j : Nat) : vec (clearIf x r k) j = 0 ↔ vec x j * vec r k = vec r j * vec x k := by
 obtain ⟨g, hg, e⟩ := clearIf_clr x r k h hr
 have h1 := e j
 simp only [clr] at h1
 constructor
 ·intro h0
  rw [h0] at h1
  simp at h1
  omega
 ·intro h0
  have h2 : g * vec (clearIf x r k) j = 0 := by omega
  rcases Int.mul_eq_zero.1 h2 with h2 | h2
  ·exact absurd h2 hg
  ·exact h2
theorem goL_length {N : Nat} : ∀ (O : List (List Int)) (x : List Int), (∀ r ∈ O, r.length = N) → x.length = N → (goL O x).length = N
 | [], x, _, h => h
 | r :: O, x, hO, h => goL_length O _ (fun s hs => hO s (by simp [hs])) (by rw [clearIf_length _ _ _ (by rw [h, hO r (by simp)])]; exact h)
theorem goL_sp {N : Nat} (S : (Nat → Int) → Prop) : ∀ (O : List (List Int)) (x : List Int), (∀ r ∈ O, r.length = N ∧ vec r (leadL r) ≠ 0 ∧ Sp S (vec r)) → x.length = N → (Sp S (vec (goL O x)) ↔ Sp S (vec x))
 | [], x, _, _ => Iff.rfl
 | r :: O, x, hO, h => by
  have hr := hO r (by simp)
  have hl : x.length = r.length := by rw [h, hr.1]
  rw [show goL (r :: O) x = goL O (clearIf x r (leadL r)) from rfl, goL_sp S O _ (fun s hs => hO s (by simp [hs])) (by rw [clearIf_length _ _ _ hl]; exact h)]
  exact clearIf_sp S x r _ hl hr.2.1 hr.2.2
/-- what is cleared vanishes at the pivots -/
theorem goL_van {N : Nat} : ∀ (O : List (List Int)) (x : List Int), Ech (outE O) → (∀ r ∈ O, r.length = N) → x.length = N → ∀ c, ((∃ r ∈ O, leadL r = c) ∨ (vec x c = 0 ∧ ∀ r ∈ O, vec r c = 0)) → vec (goL O x) c = 0
 | [], x, _, _, _, c, h => by
  rcases h with ⟨r, hr, _⟩ | h
  ·cases hr
  ·exact h.1
 | r :: O, x, hE, hO, hx, c, h => by
  have hrl := hO r (by simp)
  have hl : x.length = r.length := by rw [hx, hrl]
  have hp : vec r (leadL r) ≠ 0 := by have := hE.pos (leadL r, vec r) (by simp [outE]); simp only at this; omega
  have hpw := List.pairwise_cons.1 hE.apart
  refine goL_van O _ hE.tail (fun s hs => hO s (by simp [hs])) (by rw [clearIf_length _ _ _ hl]; exact hx) c ?_
  by_cases hc : leadL r = c
  ·right
   refine ⟨?_, fun s hs => ?_⟩
   ·rw [clearIf_zero hl hp]; rw [hc]; grind
   ·have := (hpw.1 (leadL s, vec s) (List.mem_map.2 ⟨s, hs, rfl⟩)).2.2
    rw [← hc]; exact this
  ·rcases h with ⟨s, hs, e⟩ | ⟨h1, h2⟩
   ·rcases List.mem_cons.1 hs with rfl | hs
    ·exact absurd e hc
    ·exact .inl ⟨s, hs, e⟩
   ·right
    refine ⟨?_, fun s hs => h2 s (by simp [hs])⟩
    rw [clearIf_zero hl hp, h1, h2 r (by simp)]; simp
theorem goL_zero {X : List (List Int)} {N c : Nat} {R O : List (List Int)} (h : CInv X N c R O) (hz : ∀ r ∈ R, ∀ j, vec r j = 0) (x : List Int) (hx : x.length = N) : (∀ j, vec (goL O x) j = 0) ↔ Sp (ofL X) (vec x) := by
 have hO : ∀ r ∈ O, r.length = N ∧ vec r (leadL r) ≠ 0 ∧ Sp (rowsOf (outE O)) (vec r) := fun r hr => by
  have hm : (leadL r, vec r) ∈ outE O := List.mem_map.2 ⟨r, hr, rfl⟩
  refine ⟨h.leno r hr, ?_, .mem ⟨_, hm, rfl⟩⟩
  have := h.inv.ech.pos _ hm
  simp only at this
  omega
 rw [← CInv.span h hz, ← goL_sp _ O x hO hx]
 constructor
 ·intro h0; exact Sp.zero.of_eq h0
 ·intro hs
  refine ech_zero h.inv.ech hs ?_
  intro a ha
  obtain ⟨r, hr, rfl⟩ := List.mem_map.1 ha
  exact goL_van O x h.inv.ech h.leno hx _ (.inl ⟨r, hr, rfl⟩)
/-- the rank tells whether a row lies in the span -/
theorem rank_span {X : List (List Int)} {x : List Int} {N c c' : Nat} {R O R' O' : List (List Int)} (h : CInv X N c R O) (h' : CInv (X ++ [x]) N c' R' O') (hz : ∀ r ∈ R, ∀ j, vec r j = 0) (hz' : ∀ r ∈ R', ∀ j, vec r j = 0) (hx : x.length = N) : O.length = O'.length ↔ Sp (ofL X) (vec x) := by
 have sub : ∀ y, Sp (ofL X) y → Sp (ofL (X ++ [x])) y := fun y hy => hy.mono (by rintro z ⟨r, hr, rfl⟩; exact ⟨r, by simp [hr], rfl⟩)
 constructor
 ·intro hl
  have hsub : ∀ c ∈ (outE O).map (·.1), c ∈ (outE O').map (·.1) := by
   intro c hc
   rw [ech_leads h.inv.ech] at hc
   rw [ech_leads h'.inv.ech]
   obtain ⟨y, hy, hr⟩ := hc
   exact ⟨y, (CInv.span h' hz' y).2 (sub y ((CInv.span h hz y).1 hy)), hr⟩
  have hback := same_members h.inv.ech.nodup hsub (by simp [outE]; omega)
  rw [← goL_zero h hz x hx]
  have hO : ∀ r ∈ O, r.length = N ∧ vec r (leadL r) ≠ 0 ∧ Sp (rowsOf (outE O')) (vec r) := fun r hr => by
   have hm : (leadL r, vec r) ∈ outE O := List.mem_map.2 ⟨r, hr, rfl⟩
   refine ⟨h.leno r hr, ?_, ?_⟩
   ·have := h.inv.ech.pos _ hm
    simp only at this
    omega
   ·exact (CInv.span h' hz' _).2 (sub _ ((CInv.span h hz _).1 (.mem ⟨_, hm, rfl⟩)))
  refine ech_zero h'.inv.ech ((goL_sp _ O x hO hx).2 ((CInv.span h' hz' _).2 (.mem ⟨x, by simp, rfl⟩))) ?_
  intro a ha
  have hm := hback a.1 (List.mem_map.2 ⟨a, ha, rfl⟩)
  obtain ⟨b, hb, e⟩ := List.mem_map.1 hm
  obtain ⟨r, hr, rfl⟩ := List.mem_map.1 hb
  exact goL_van O x h.inv.ech h.leno hx _ (.inl ⟨r, hr, e⟩)
 ·intro hs
  have e := ech_pivots h.inv.ech h'.inv.ech (fun y => by
   rw [CInv.span h hz, CInv.span h' hz']
   constructor
   ·exact sub y
   ·intro hy
    refine hy.trans ?_
    rintro z ⟨r, hr, rfl⟩
    rcases List.mem_append.1 hr with hr | hr
    ·exact .mem ⟨r, hr, rfl⟩
    ·rw [List.mem_singleton.1 hr]; exact hs)
  simpa [outE] using congrArg List.length e
/-- the cells of a row while it is cleared -/
theorem goL_bound (D : Int) (hD : D ≠ 0) (x0 : Nat → Int) (M : Nat) : ∀ (O : List (List Int)) (x : List Int) (z : Nat → Int) (A b : Int) (K : Nat), Ech (outE O) → (∀ r ∈ O, r.length = x.length ∧ ∃ q : Int, D = q * vec r (leadL r) ∧ ∀ j, (x0 (leadL r) * (q * vec r j)).natAbs ≤ M) →
  A ≠ 0 → (∀ j, A * vec x j = b * z j) → (∀ r ∈ O, z (leadL r) = D * x0 (leadL r)) → (∀ j, (z j).natAbs ≤ K) → (∀ j, (vec x j).natAbs ≤ K) →
  ∀ O1 O2, O = O1 ++ O2 → ∀ j, (vec (goL O1 x) j).natAbs ≤ K + O1.length * M
 | [], x, z, A, b, K, _, _, _, _, _, _, hxK, O1, O2, e, j => by
  obtain ⟨rfl, _⟩ := List.append_eq_nil_iff.1 e.symm
  have := hxK j
  simp [goL]; omega
 | r :: O, x, z, A, b, K, hE, hO, hA, hxz, hzD, hzK, hxK, O1, O2, e, j => by
  cases O1 with
  | nil =>
   have := hxK j
   simp [goL]; omega
  | cons s O1 =>
   injection e with e1 e2
   subst e1
   obtain ⟨hl, q, hq, hqM⟩ := hO r (by simp)
   have hp : vec r (leadL r) ≠ 0 := by have := hE.pos (leadL r, vec r) (by simp [outE]); simp only at this; omega
   have hpw := List.pairwise_cons.1 hE.apart
   have hzr := hzD r (by simp)
   obtain ⟨z', hz'⟩ : ∃ z' : Nat → Int, z' = fun j => z j - x0 (leadL r) * (q * vec r j) := ⟨_, rfl⟩
   have hz'K : ∀ j, (z' j).natAbs ≤ K + M := fun j => by
    have h1 := hzK j
    have h2 := hqM j
    rw [hz']
    simp only
    omega
   obtain ⟨g, hg, hcl⟩ := clearIf_clr x r (leadL r) hl.symm hp
   have hA' : A * g ≠ 0 := fun h0 => by
    rcases Int.mul_eq_zero.1 h0 with h0 | h0
    ·exact hA h0
    ·exact hg h0
   have hpar : ∀ j, A * g * vec (clearIf x r (leadL r)) j = b * vec r (leadL r) * z' j := fun j => by
    have h1 := hcl j
    simp only [clr] at h1
    have h2 := hxz j
    have h3 := hxz (leadL r)
    rw [hzr, hq] at h3
    rw [hz']
    simp only
    grind
   have hxK' : ∀ j, (vec (clearIf x r (leadL r)) j).natAbs ≤ K + M := by
    intro j
    unfold clearIf
    split
    ·have := hxK j; omega
    ·rename_i hne
     have ht := clearL_tid x r (leadL r) hl.symm
     rcases ht.prim with h0 | hpr
     ·rw [h0 j]; simp
     ·have hpar' := hpar
      unfold clearIf at hpar'
      rw [if_neg hne] at hpar'
      obtain ⟨w, hw, hw2⟩ := prim_le hpr (A * g) (b * vec r (leadL r)) hA' hpar'
      rcases hw2 j with h1 | h1
      ·have h2 := hz'K j
       rw [h1, Int.natAbs_mul] at h2
       have : 1 * (vec (clearL x r (leadL r)) j).natAbs ≤ w.natAbs * (vec (clearL x r (leadL r)) j).natAbs := Nat.mul_le_mul (by omega) (Nat.le_refl _)
       omega
      ·rw [h1]; simp
   have ih := goL_bound D hD x0 M O (clearIf x r (leadL r)) z' (A * g) (b * vec r (leadL r)) (K + M) hE.tail (fun s hs => by
    have h1 := hO s (by simp [hs])
    exact ⟨by rw [clearIf_length _ _ _ hl.symm]; exact h1.1, h1.2⟩) hA' hpar (fun s hs => by
    have h1 := hzD s (by simp [hs])
    have h2 := (hpw.1 (leadL s, vec s) (List.mem_map.2 ⟨s, hs, rfl⟩)).2.1
    simp only at h2
    rw [hz']
    simp only
    rw [h1, h2]; simp) hz'K hxK' O1 O2 e2 j
   rw [show goL (r :: O1) x = goL O1 (clearIf x r (leadL r)) from rfl, List.length_cons, Nat.add_mul]
   omega
def spanV (m : List (List Int)) (row : List Int) : Bool := matB m (row.length : Int) && matB [row] (row.length : Int) && decide ((redI m row.length).length = (redI (m ++ [row]) row.length).length)
theorem matB_rows {m : List (List Int)} {N : Nat} (h : matB m (N : Int) = true) : (1 ≤ N ∧ N ≤ 6) ∧ m.length ≤ 12 ∧ (∀ r ∈ m, r.length = N) ∧ ∀ r ∈ m, ∀ j, (vec r j).natAbs ≤ 2 := by
 simp only [matB, Bool.and_eq_true, List.all_eq_true, decide_eq_true_eq] at h
 refine ⟨by omega, h.2.1, fun r hr => by have := (h.2.2 r hr).1; omega, fun r hr j => ?_⟩
 rcases vec_mem r j with h0 | h0
 ·rw [h0]; simp
 ·have := (h.2.2 r hr).2 _ h0
  simp only [cellR, decide_eq_true_eq] at this
  omega
theorem matB_cell {m : List (List Int)} {N : Nat} (h : matB m (N : Int) = true) : ∀ r ∈ m, ∀ j, (vec r j).natAbs ≤ cellB 6 j := fun r hr j => by
 have h1 := (matB_rows h).2.2.2 r hr j
 unfold cellB
 split <;> omega
theorem CInv.solv {X : List (List Int)} {cols : Nat} {R O R' O' : List (List Int)} (h : CInv X (cols + 1) cols R O) (h' : CInv X (cols + 1) cols R' O') (hz : ∀ r ∈ R, vec r cols = 0) : ∀ r ∈ R', vec r cols = 0 := by
 intro r hr
 have hz0 : ∀ r ∈ R, ∀ j, vec r j = 0 := fun r hr j => by
  by_cases h1 : j < cols
  ·exact h.low r hr j h1
  ·by_cases h2 : j = cols
   ·subst h2; exact hz r hr
   ·exact vec_out r j (by rw [h.lenr r hr]; omega)
 apply Classical.byContradiction
 intro hne
 have hs : Sp (rowsOf (outE O)) (vec r) := (CInv.span h hz0 _).2 ((inX_ofL X _).1 (h'.inv.span2 _ (.inl ⟨r, hr, rfl⟩)))
 obtain ⟨a, ha, e⟩ := lead_pivot h.inv.ech hs cols (h'.low r hr) hne
 obtain ⟨o, ho, rfl⟩ := List.mem_map.1 ha
 have := h.lead o ho
 omega
theorem lead_rem {X : List (List Int)} {cols : Nat} {R O : List (List Int)} (h : CInv X (cols + 1) cols R O) (r : List Int) (hr : r ∈ R) : leadL r = cols ↔ vec r cols ≠ 0 := by
 constructor
 ·intro e
  have := leadL_at r (by rw [e, h.lenr r hr]; omega)
  rwa [e] at this
 ·exact fun hne => leadL_eq r cols (by rw [h.lenr r hr]; omega) (h.low r hr) hne
def goodR (rows : List (List Int)) (c : Nat) : Bool := rows.all fun r => !(leadL r == c)
theorem good_spec {X : List (List Int)} {cols : Nat} {R O : List (List Int)} (h : CInv X (cols + 1) cols R O) : goodR (O ++ R) cols = true ↔ ∀ r ∈ R, vec r cols = 0 := by
 simp only [goodR, List.all_eq_true, List.mem_append, Bool.not_eq_true', beq_eq_false_iff_ne]
 constructor
 ·intro hg r hr
  apply Classical.byContradiction
  intro hne
  exact hg r (.inr hr) ((lead_rem h r hr).2 hne)
 ·intro hz r hr
  rcases hr with hr | hr
  ·have := h.lead r hr
   omega
  ·intro e
   exact (lead_rem h r hr).1 e (hz r hr)
theorem good_impl {X : List (List Int)} {cols : Nat} (h : CInv X (cols + 1) cols (runI X cols).1 (runI X cols).2) : goodR (redI X (cols + 1)) cols = true ↔ ∀ r ∈ (runI X cols).1, vec r cols = 0 := by
 have e : redI X (cols + 1) = (stepI cols (runI X cols)).2 := rfl
 obtain ⟨k, hk⟩ : ∃ k, k = (runI X cols).1.findIdx (fun r => leadL r == cols) := ⟨_, rfl⟩
 by_cases hl : k < (runI X cols).1.length
 ·have e2 : (runI X cols).1.getD k [] ∈ redI X (cols + 1) := by
   rw [e]
   unfold stepI
   rw [← hk, if_pos hl]
   simp
  have e3 : (runI X cols).1.getD k [] = (runI X cols).1[k] := by rw [List.getD_eq_getElem?_getD, List.getElem?_eq_getElem hl]; rfl
  have e4 : leadL (runI X cols).1[k] = cols := by
   have hp : (leadL (runI X cols).1[k] == cols) = true := by
    subst hk
    exact List.findIdx_getElem (w := hl)
   simpa using hp
  rw [e3] at e2
  constructor
  ·intro hg
   simp only [goodR, List.all_eq_true, Bool.not_eq_true', beq_eq_false_iff_ne] at hg
   exact absurd e4 (hg _ e2)
  ·intro hz
   exact absurd (hz _ (List.getElem_mem hl)) ((lead_rem h _ (List.getElem_mem hl)).1 e4)
 ·have e2 : redI X (cols + 1) = (runI X cols).2 := by
   rw [e]
   unfold stepI
   rw [← hk, if_neg hl]
  rw [e2]
  constructor
  ·intro _ r hr
   apply Classical.byContradiction
   intro hne
   have e4 := (lead_rem h r hr).2 hne
   obtain ⟨j, hj, rfl⟩ := List.mem_iff_getElem.1 hr
   have h1 : j < k := by omega
   rw [hk] at h1
   have := List.not_of_lt_findIdx h1
   simp [e4] at this
  ·intro _
   simp only [goodR, List.all_eq_true, Bool.not_eq_true', beq_eq_false_iff_ne]
   intro r hr
   have := h.lead r hr
   omega
def augL : List (List Int) → List Int → List (List Int)
 | r :: rs, v :: vs => (r ++ [v]) :: augL rs vs
 | _, _ => []
theorem augL_mem : ∀ (m : List (List Int)) (v : List Int) (x : List Int), x ∈ augL m v → ∃ r ∈ m, ∃ y ∈ v, x = r ++ [y]
 | [], v, x, h => by simp [augL] at h
 | r :: rs, [], x, h => by simp [augL] at h
 | r :: rs, y :: vs, x, h => by
  rw [augL, List.mem_cons] at h
  rcases h with rfl | h
  ·exact ⟨r, by simp, y, by simp, rfl⟩
  ·obtain ⟨r', h1, y', h2, h3⟩ := augL_mem rs vs x h
   exact ⟨r', by simp [h1], y', by simp [h2], h3⟩
theorem augL_len : ∀ (m : List (List Int)) (v : List Int), (augL m v).length ≤ m.length
 | [], v => by simp [augL]
 | r :: rs, [] => by simp [augL]
 | r :: rs, y :: vs => by
  have := augL_len rs vs
  simp only [augL, List.length_cons]
  omega
theorem augL_ok {m : List (List Int)} {v : List Int} {c : Int} (h : sysB m v c = true) : (1 ≤ c ∧ c ≤ 6) ∧ m.length ≤ 12 ∧ v.length = m.length ∧ (∀ r ∈ m, (r.length : Int) = c) ∧ (∀ x ∈ augL m v, x.length = c.toNat + 1) ∧ ∀ x ∈ augL m v, ∀ j, (vec x j).natAbs ≤ cellB c.toNat j := by
 unfold sysB at h
 simp only [Bool.and_eq_true, decide_eq_true_eq] at h
 obtain ⟨hm, hl, hv⟩ := h
 have hc : 1 ≤ c ∧ c ≤ 6 := by
  unfold matB at hm
  simp only [Bool.and_eq_true, decide_eq_true_eq] at hm
  exact hm.1
 have hcn : ((c.toNat : Nat) : Int) = c := by omega
 rw [← hcn] at hm
 obtain ⟨h1, h2, h3, h4⟩ := matB_rows hm
 refine ⟨hc, h2, hl, fun r hr => by have := h3 r hr; omega, fun x hx => ?_, fun x hx j => ?_⟩
 ·obtain ⟨r, hr, y, hy, rfl⟩ := augL_mem m v x hx
  rw [List.length_append, h3 r hr]
  rfl
 ·obtain ⟨r, hr, y, hy, rfl⟩ := augL_mem m v x hx
  have hy2 := List.all_eq_true.1 hv y hy
  simp only [decide_eq_true_eq] at hy2
  have h3r := h3 r hr
  unfold cellB
  by_cases hj : j = c.toNat
  ·rw [if_pos hj]
   have e : vec (r ++ [y]) j = y := by simp [vec, hj, ← h3r]
   rw [e]
   omega
  ·rw [if_neg hj]
   by_cases hj2 : j < r.length
   ·have e : vec (r ++ [y]) j = vec r j := by simp [vec, List.getD_eq_getElem?_getD, List.getElem?_append_left hj2]
    rw [e]
    exact h4 r hr j
   ·have e : vec (r ++ [y]) j = 0 := vec_out _ _ (by simp; omega)
    rw [e]
    simp
def solvV (m : List (List Int)) (v : List Int) (c : Int) : Bool := sysB m v c && goodR (redI (augL m v) (c.toNat + 1)) c.toNat
theorem impl_solved_l1 (c : Nat) (hc : c ≤ 6) (T : List (List Int)) : ∀ (suf pre : List (List Int)), (pre ++ suf).length ≤ 1048576 → (∀ r ∈ suf, r.length = c + 1) →
  ∃ R, Ev (fun k => impl_solved.l1 k (c : Int) T (pre ++ suf) ((pre ++ suf).length : Int) (pre.length : Int)) (R, goodR suf c) := by
 intro suf
 induction suf with
 | nil =>
  intro pre hb hr
  exact ⟨T, Ev.step (fun k => by rw [impl_solved.l1]) (evNeg (by simp) (evEq (by simp [goodR]) (Ev.now _)))⟩
 | cons x suf ih =>
  intro pre hb hr
  simp only [List.length_append, List.length_cons] at hb
  obtain ⟨R, h⟩ := ih (pre ++ [x]) (by simp; omega) (fun r h => hr r (by simp [h]))
  have hx := hr x (by simp)
  have hle : leadL x ≤ x.length := by unfold leadL; exact List.findIdx_le_length
  have hld : impl_lead.f x = some (leadI x) := by unfold impl_lead.f; rw [if_pos (by omega)]
  by_cases e : leadL x = c
  ·refine ⟨[], Ev.step (fun k => by rw [impl_solved.l1]) ?_⟩
   refine evPos (by simp only [List.length_append, List.length_cons]; omega) (evPos (by omega) (evPos (by simp only [List.length_append, List.length_cons]; omega) ?_))
   rw [rd_L1, getD_mid]
   refine evSome hld (evPos ?_ (evEq ?_ (Ev.now _)))
   ·unfold leadI; rw [if_neg (by omega)]; omega
   ·simp [goodR, e]
  ·refine ⟨R, Ev.step (fun k => by rw [impl_solved.l1]) ?_⟩
   refine evPos (by simp only [List.length_append, List.length_cons]; omega) (evPos (by omega) (evPos (by simp only [List.length_append, List.length_cons]; omega) ?_))
   rw [rd_L1, getD_mid, wsucc (by omega)]
   refine evSome hld (evNeg ?_ (evEq ?_ (Ev.congr (fun k => ?_) h)))
   ·unfold leadI; split <;> omega
   ·simp [goodR, e]
   ·simp
theorem impl_solved_l0 (c : Int) (v0 : List Int) (m0 : List (List Int)) (hs : sysB m0 v0 c = true) : ∀ (sm : List (List Int)) (sv : List Int) (pm : List (List Int)) (pv : List Int) (out : List (List Int)), m0 = pm ++ sm → v0 = pv ++ sv → pm.length = pv.length → out ++ augL sm sv = augL m0 v0 → out.length = pm.length →
  ∃ R, Ev (fun k => impl_solved.l0 k v0 c out m0 (m0.length : Int) (pm.length : Int)) (R, goodR (redI (augL m0 v0) (c.toNat + 1)) c.toNat) := by
 obtain ⟨hc, hml, hvl, hrl, hal, hac⟩ := augL_ok hs
 intro sm
 induction sm with
 | nil =>
  intro sv pm pv out em ev hl ho hol
  have e1 : m0.length = pm.length := by rw [em]; simp
  have ho2 : out = augL m0 v0 := by rw [← ho]; simp [augL]
  have hw : wrap64 (c + 1) = ((c.toNat + 1 : Nat) : Int) := by rw [w64 (by omega) (by omega)]; omega
  have hall := augL_len m0 v0
  have hwd : widthN (augL m0 v0) (c.toNat + 1) = c.toNat + 1 := by
   unfold widthN
   split
   ·omega
   ·rename_i h0
    have h1 : (augL m0 v0).getD 0 [] = (augL m0 v0)[0]'(by omega) := by
     rw [List.getD_eq_getElem?_getD, List.getElem?_eq_getElem (by omega)]; rfl
    rw [h1]
    exact hal _ (List.getElem_mem _)
  have hred : impl_reduceAny.f (augL m0 v0) (wrap64 (c + 1)) = some (redI (augL m0 v0) (c.toNat + 1)) := by
   unfold impl_reduceAny.f
   rw [hw, if_pos, Int.toNat_natCast]
   unfold redOk
   rw [Int.toNat_natCast, hwd]
   exact ⟨by omega, ⟨by omega, by omega⟩, ⟨by omega, by omega⟩, fun r hr => ⟨hal r hr, fun j _ => by simpa using hac r hr j⟩⟩
  have hinv := runI_CInv (augL m0 v0) (c.toNat + 1) hal (c.toNat + 1) (Nat.le_refl _)
  have hrows : ∀ r ∈ redI (augL m0 v0) (c.toNat + 1), r.length = c.toNat + 1 := hinv.leno
  have hlen2 := runI_len (augL m0 v0) (c.toNat + 1)
  obtain ⟨R, h⟩ := impl_solved_l1 c.toNat (by omega) (redI (augL m0 v0) (c.toNat + 1)) (redI (augL m0 v0) (c.toNat + 1)) [] (by simp only [List.nil_append]; unfold redI; omega) hrows
  refine ⟨R, Ev.step (fun k => by rw [impl_solved.l0]) ?_⟩
  refine evNeg (by omega) ?_
  rw [ho2]
  refine evSome hred ?_
  rw [Int.toNat_of_nonneg (by omega)] at h
  simpa using h
 | cons x sm ih =>
  intro sv pm pv out em ev hl ho hol
  cases sv with
  | nil =>
   exfalso
   have h1 : m0.length = pm.length + (sm.length + 1) := by rw [em]; simp
   have h2 : v0.length = pv.length := by rw [ev]; simp
   omega
  | cons y sv =>
   have h1 : m0.length = pm.length + (sm.length + 1) := by rw [em]; simp
   have h2 : v0.length = pv.length + (sv.length + 1) := by rw [ev]; simp
   obtain ⟨R, h⟩ := ih sv (pm ++ [x]) (pv ++ [y]) (out ++ [x ++ [y]]) (by rw [em]; simp) (by rw [ev]; simp) (by simp [hl]) (by rw [← ho]; simp [augL]) (by simp [hol])
   have hx : (x.length : Int) = c := hrl x (by rw [em]; simp)
   refine ⟨R, Ev.step (fun k => by rw [impl_solved.l0]) ?_⟩
   refine evPos (by omega) (evPos (by omega) (evPos (by omega) ?_))
   have hcl : slices_Clone_int_int_102.f x = some x := by
    unfold slices_Clone_int_int_102.f
    simp
    omega
   have hg : rd_L1 m0 (pm.length : Int) = x := by rw [em, rd_L1, getD_mid]
   have hg2 : rd v0 (pm.length : Int) = y := by rw [ev]; exact rd_mid' pv sv y hl.symm
   rw [hg, hg2, wsucc (by omega)]
   refine evSome hcl (evPos (by omega) (evSome rfl (evPos (by simp; omega) (evSome rfl (evPos (by simp; omega) ?_)))))
   simpa using h
theorem impl_IsSolvable_ev (m : List (List Int)) (v : List Int) (c : Int) (hr : ∀ r ∈ m, r.length ≤ 1048576) (hv : v.length ≤ 1048576) : Ev (fun k => impl_IsSolvable.f k m v c) (solvV m v c) := by
 have key : ∃ R, Ev (fun k => impl_solved.f k m v c) (R, solvV m v c) := by
  by_cases hs : sysB m v c = true
  ·obtain ⟨R, h⟩ := impl_solved_l0 c v m hs m v [] [] [] rfl rfl rfl rfl rfl
   refine ⟨R, ?_⟩
   unfold impl_solved.f
   refine Ev.bind (impl_IsSystem_ev m v c hr hv) (evPos hs ?_)
   rw [solvV, hs, Bool.true_and]
   simpa using h
  ·refine ⟨[], ?_⟩
   unfold impl_solved.f
   refine Ev.bind (impl_IsSystem_ev m v c hr hv) (evNeg hs (evEq ?_ (Ev.now _)))
   have hs' : sysB m v c = false := by simpa using hs
   rw [solvV, hs', Bool.false_and]
 obtain ⟨R, h⟩ := key
 unfold impl_IsSolvable.f
 exact Ev.bind h (Ev.now _)
def hasB (l : List Int) (v : Int) : Bool := l.any fun x => decide (x = v)
theorem slices_Index_l0 (v : Int) : ∀ (suf pre : List Int), (pre ++ suf).length ≤ 1048576 →
  ∃ r, Ev (fun k => slices_Index_int_int.l0 k (pre ++ suf) v ((pre ++ suf).length : Int) (pre.length : Int)) r ∧ decide (r ≥ 0) = hasB suf v := by
 intro suf
 induction suf with
 | nil =>
  intro pre hb
  exact ⟨-1, Ev.step (fun k => by rw [slices_Index_int_int.l0]) (evNeg (by simp) (Ev.now _)), rfl⟩
 | cons x suf ih =>
  intro pre hb
  simp only [List.length_append, List.length_cons] at hb
  by_cases hx : v = x
  ·refine ⟨(pre.length : Int), Ev.step (fun k => by rw [slices_Index_int_int.l0]) ?_, ?_⟩
   ·refine evPos (by simp only [List.length_append, List.length_cons]; omega) (evPos (by omega) (evPos (by simp only [List.length_append, List.length_cons]; omega) ?_))
    rw [rd_mid]
    exact evPos hx (Ev.now _)
   ·simp [hasB, hx]
  ·obtain ⟨r, h, e⟩ := ih (pre ++ [x]) (by simp; omega)
   refine ⟨r, Ev.step (fun k => by rw [slices_Index_int_int.l0]) ?_, ?_⟩
   ·refine evPos (by simp only [List.length_append, List.length_cons]; omega) (evPos (by omega) (evPos (by simp only [List.length_append, List.length_cons]; omega) ?_))
    rw [rd_mid, wsucc (by omega)]
    exact evNeg hx (Ev.congr (fun k => by simp) h)
   ·rw [e]
    have : ¬ x = v := fun c => hx c.symm
    simp [hasB, this]
theorem slices_Contains_ev (l : List Int) (v : Int) (hl : l.length ≤ 1048576) : Ev (fun k => slices_Contains_int_int.f k l v) (hasB l v) := by
 unfold slices_Contains_int_int.f slices_Index_int_int.f
 obtain ⟨r, h, e⟩ := slices_Index_l0 v l [] (by simpa using hl)
 exact Ev.bind h (evEq e (Ev.now _))
def leftI (l : List Int) (a : Int) : Int := if a - (l.length : Int) < 0 then -1 else a - (l.length : Int)
/-- What is left of a behind the lists' own lengths and the list's length; -1 where it is not enough. -/
def leftR : List (List Int) → Int → Int
 | [], a => a
 | r :: rs, a => if leftI r a < 0 then -1 else leftR rs (leftI r a)
def leftII (l : List (List Int)) (a : Int) : Int := if a - (l.length : Int) < 0 then -1 else leftR l (a - (l.length : Int))
theorem leftR_rows : ∀ (l : List (List Int)) (a : Int), 0 ≤ leftR l a → 0 ≤ a → a ≤ 1048576 → (∀ r ∈ l, r.length ≤ 1048576)
 | [], _, _, _, _ => by simp
 | r :: rs, a, h, h0, h1 => by
  unfold leftR at h
  split at h
  ·omega
  ·rename_i hx
   have hx' : 0 ≤ leftI r a := by omega
   have hrl : r.length ≤ 1048576 ∧ leftI r a ≤ 1048576 := by
    unfold leftI at hx' ⊢
    split at hx' <;> split <;> omega
   intro q hq
   rcases List.mem_cons.1 hq with rfl | hq
   ·exact hrl.1
   ·exact leftR_rows rs _ h hx' hrl.2 q hq
/-- Rows that may be examined. -/
def okII (l : List (List Int)) : Prop := l.length ≤ 1048576 ∧ ∀ r ∈ l, r.length ≤ 1048576
theorem leftII_ok {l : List (List Int)} (h : 0 ≤ leftII l 1048576) : okII l := by
 unfold leftII at h
 split at h
 ·omega
 ·exact ⟨by omega, leftR_rows l _ h (by omega) (by omega)⟩
def woV : List (List Int) → List Int → List Int → List (List Int)
 | m :: ms, o :: os, d => if hasB d o = true then woV ms os d else m :: woV ms os d
 | _, _, _ => []
theorem woV_nil2 : ∀ (ms : List (List Int)) (d : List Int), woV ms [] d = [] := by
 intro ms d; cases ms <;> rfl
theorem woV_nil1 (os d : List Int) : woV [] os d = [] := rfl
theorem woV_len : ∀ (ms : List (List Int)) (os d : List Int), (woV ms os d).length ≤ ms.length
 | [], _, _ => by simp [woV]
 | m :: ms, [], d => by simp [woV_nil2]
 | m :: ms, o :: os, d => by
  have := woV_len ms os d
  rw [woV]
  split <;> simp only [List.length_cons] <;> omega
theorem woV_mem : ∀ (ms : List (List Int)) (os d : List Int) (r : List Int), r ∈ woV ms os d → r ∈ ms
 | [], _, _, r, h => by simp [woV] at h
 | m :: ms, [], d, r, h => by simp [woV_nil2] at h
 | m :: ms, o :: os, d, r, h => by
  rw [woV] at h
  split at h
  ·exact List.mem_cons_of_mem _ (woV_mem ms os d r h)
  ·rcases List.mem_cons.1 h with h | h
   ·rw [h]; simp
   ·exact List.mem_cons_of_mem _ (woV_mem ms os d r h)
theorem woV_tot : ∀ (ms : List (List Int)) (os d : List Int), okII ms → okII (woV ms os d) := fun ms os d h => ⟨Nat.le_trans (woV_len _ _ _) h.1, fun r hr => h.2 r (woV_mem _ _ _ _ hr)⟩
theorem mn_len (a b : Nat) : mn (a : Int) (b : Int) = ((min a b : Nat) : Int) := by
 unfold mn
 split <;> omega
theorem impl_WithoutOwners_l0 (d : List Int) (hd : d.length ≤ 1048576) : ∀ (sm : List (List Int)) (so : List Int) (pm : List (List Int)) (po : List Int) (out : List (List Int)), pm.length = po.length → (pm ++ sm).length ≤ 1048576 → (po ++ so).length ≤ 1048576 → (∀ r ∈ sm, r.length ≤ 1048576) → out.length ≤ pm.length →
  Ev (fun k => impl_WithoutOwners.l0 k (pm ++ sm) (po ++ so) d out (mn ((pm ++ sm).length : Int) ((po ++ so).length : Int)) (po.length : Int)) (out ++ woV sm so d) := by
 intro sm
 induction sm with
 | nil =>
  intro so pm po out h1 h2 h3 h4 h5
  refine Ev.step (fun k => by rw [impl_WithoutOwners.l0]) ?_
  refine evNeg (by rw [mn_len]; simp only [List.length_append, List.length_nil]; omega) (evEq ?_ (Ev.now _))
  simp [woV]
 | cons x sm ih =>
  intro so pm po out h1 h2 h3 h4 h5
  cases so with
  | nil =>
   refine Ev.step (fun k => by rw [impl_WithoutOwners.l0]) ?_
   refine evNeg (by rw [mn_len]; simp only [List.length_append, List.length_nil]; omega) (evEq ?_ (Ev.now _))
   simp [woV]
  | cons o so =>
   simp only [List.length_append, List.length_cons] at h2 h3
   refine Ev.step (fun k => by rw [impl_WithoutOwners.l0]) ?_
   refine evPos (by rw [mn_len]; simp only [List.length_append, List.length_cons]; omega) (evPos (by omega) (evPos (by simp only [List.length_append, List.length_cons]; omega) ?_))
   rw [rd_mid]
   refine Ev.bind (slices_Contains_ev d o hd) ?_
   rw [wsucc (by omega)]
   by_cases hb : hasB d o = true
   ·refine evPos hb ?_
    have h := ih so (pm ++ [x]) (po ++ [o]) out (by simp [h1]) (by simp; omega) (by simp; omega) (fun r hr => h4 r (by simp [hr])) (by simp; omega)
    refine evEq ?_ (Ev.congr (fun k => ?_) h)
    ·simp only [woV, if_pos hb]
    ·simp
   ·refine evNeg hb (evPos (by simp only [List.length_append, List.length_cons]; omega) ?_)
    rw [rd_L1, getD_mid' pm sm x [] h1]
    have hcl : slices_Clone_int_int_102.f x = some x := by
     unfold slices_Clone_int_int_102.f
     have := h4 x (by simp)
     simp
     omega
    refine evSome hcl (evPos (by omega) ?_)
    have h := ih so (pm ++ [x]) (po ++ [o]) (out ++ [x]) (by simp [h1]) (by simp; omega) (by simp; omega) (fun r hr => h4 r (by simp [hr])) (by simp; omega)
    refine evEq ?_ (Ev.congr (fun k => ?_) h)
    ·simp only [woV, if_neg hb]; simp
    ·simp
theorem impl_WithoutOwners_ev (m : List (List Int)) (o d : List Int) (hm : okII m) (ho : o.length ≤ 1048576) (hd : d.length ≤ 1048576) : Ev (fun k => impl_WithoutOwners.f k m o d) (woV m o d) := by
 have h := impl_WithoutOwners_l0 d hd m o [] [] [] rfl (by simpa using hm.1) (by simpa using ho) hm.2 (by simp)
 simpa [impl_WithoutOwners.f] using h
def vwV : List Int → List Int → List Int → List Int
 | v :: vs, o :: os, d => if hasB d o = true then vwV vs os d else v :: vwV vs os d
 | _, _, _ => []
theorem vwV_nil2 : ∀ (vs : List Int) (d : List Int), vwV vs [] d = [] := by
 intro vs d; cases vs <;> rfl
theorem vwV_len : ∀ (vs os d : List Int), (vwV vs os d).length ≤ vs.length
 | [], os, d => by simp [vwV]
 | v :: vs, [], d => by simp [vwV]
 | v :: vs, o :: os, d => by
  have h := vwV_len vs os d
  rw [vwV]
  split <;> simp <;> omega
theorem impl_ValuesWithout_l0 (d : List Int) (hd : d.length ≤ 1048576) : ∀ (sm so pm po out : List Int), pm.length = po.length → (pm ++ sm).length ≤ 1048576 → (po ++ so).length ≤ 1048576 → out.length ≤ pm.length →
  Ev (fun k => impl_ValuesWithout.l0 k (pm ++ sm) (po ++ so) d out (mn ((pm ++ sm).length : Int) ((po ++ so).length : Int)) (po.length : Int)) (out ++ vwV sm so d) := by
 intro sm
 induction sm with
 | nil =>
  intro so pm po out h1 h2 h3 h5
  refine Ev.step (fun k => by rw [impl_ValuesWithout.l0]) ?_
  refine evNeg (by rw [mn_len]; simp only [List.length_append, List.length_nil]; omega) (evEq ?_ (Ev.now _))
  simp [vwV]
 | cons x sm ih =>
  intro so pm po out h1 h2 h3 h5
  cases so with
  | nil =>
   refine Ev.step (fun k => by rw [impl_ValuesWithout.l0]) ?_
   refine evNeg (by rw [mn_len]; simp only [List.length_append, List.length_nil]; omega) (evEq ?_ (Ev.now _))
   simp [vwV]
  | cons o so =>
   simp only [List.length_append, List.length_cons] at h2 h3
   refine Ev.step (fun k => by rw [impl_ValuesWithout.l0]) ?_
   refine evPos (by rw [mn_len]; simp only [List.length_append, List.length_cons]; omega) (evPos (by omega) (evPos (by simp only [List.length_append, List.length_cons]; omega) ?_))
   rw [rd_mid]
   refine Ev.bind (slices_Contains_ev d o hd) ?_
   rw [wsucc (by omega)]
   by_cases hb : hasB d o = true
   ·refine evPos hb ?_
    have h := ih so (pm ++ [x]) (po ++ [o]) out (by simp [h1]) (by simp; omega) (by simp; omega) (by simp; omega)
    refine evEq ?_ (Ev.congr (fun k => ?_) h)
    ·simp only [vwV, if_pos hb]
    ·simp
   ·refine evNeg hb (evPos (by simp only [List.length_append, List.length_cons]; omega) ?_)
    rw [rd_mid' pm sm x h1]
    refine evPos (by omega) ?_
    have h := ih so (pm ++ [x]) (po ++ [o]) (out ++ [x]) (by simp [h1]) (by simp; omega) (by simp; omega) (by simp; omega)
    refine evEq ?_ (Ev.congr (fun k => ?_) h)
    ·simp only [vwV, if_neg hb]; simp
    ·simp
theorem impl_ValuesWithout_ev (v o d : List Int) (hv : v.length ≤ 1048576) (ho : o.length ≤ 1048576) (hd : d.length ≤ 1048576) : Ev (fun k => impl_ValuesWithout.f k v o d) (vwV v o d) := by
 have h := impl_ValuesWithout_l0 d hd v o [] [] [] rfl (by simpa using hv) (by simpa using ho) (by simp)
 simpa [impl_ValuesWithout.f] using h
def ownB (m : List (List Int)) (v o : List Int) (c : Int) : Bool := sysB m v c && (decide (o.length = m.length) && o.all fun x => decide (0 ≤ x ∧ x ≤ 5))
theorem impl_AreOwned_ev (m : List (List Int)) (v o : List Int) (c : Int) (hr : ∀ r ∈ m, r.length ≤ 1048576) (hv : v.length ≤ 1048576) (ho : o.length ≤ 1048576) : Ev (fun k => impl_AreOwned.f k m v o c) (ownB m v o c) := by
 unfold impl_AreOwned.f
 refine Ev.bind (impl_IsSystem_ev m v c hr hv) ?_
 by_cases h1 : sysB m v c = true
 ·refine evPos h1 ?_
  by_cases h2 : o.length = m.length
  ·refine evPos (by omega) (Ev.bind (impl_allIn_ev o 0 5 ho) (evEq ?_ (Ev.now _)))
   simp only [ownB, h1, decide_eq_true h2, Bool.true_and]
  ·refine evNeg (by omega) (evEq ?_ (Ev.now _))
   simp only [ownB, decide_eq_false h2, Bool.and_false, Bool.false_and]
 ·have h1' : sysB m v c = false := by simpa using h1
  refine evNeg h1 (evEq ?_ (Ev.now _))
  simp only [ownB, h1', Bool.false_and]
def selV (m : List (List Int)) (v o : List Int) (c : Int) (L : List (List Int)) : List (List Int) := L.filter fun s => solvV (woV m o s) (vwV v o s) c
def fewF (m : List (List Int)) (v o : List Int) (c : Int) : Nat → Nat → List (List Int)
 | 0, _ => []
 | d + 1, s => if (selV m v o c (addV 6 s 0 [])).length = 0 then fewF m v o c d (s + 1) else selV m v o c (addV 6 s 0 [])
def fewV (m : List (List Int)) (v o : List Int) (c : Int) : List (List Int) := if ownB m v o c = true then fewF m v o c 7 0 else []
theorem selV_sub (m : List (List Int)) (v o : List Int) (c : Int) (L : List (List Int)) : (selV m v o c L).length ≤ L.length := List.length_filter_le _ _
theorem fewF_mem (m : List (List Int)) (v o : List Int) (c : Int) : ∀ (d s : Nat), s + d = 7 → (fewF m v o c d s).length ≤ 46656 ∧ ∀ r ∈ fewF m v o c d s, r.length ≤ 6
 | 0, s, _ => by simp [fewF]
 | d + 1, s, h => by
  rw [fewF]
  split
  ·exact fewF_mem m v o c d (s + 1) (by omega)
  ·refine ⟨Nat.le_trans (selV_sub m v o c _) (addV_six (by omega) 6 (by omega) 0 []), fun r hr => ?_⟩
   have := addV_mem 6 s 0 [] r (List.mem_filter.1 hr).1
   rw [this]
   simp
   omega
theorem fewV_mem (m : List (List Int)) (v o : List Int) (c : Int) : (fewV m v o c).length ≤ 46656 ∧ ∀ r ∈ fewV m v o c, r.length ≤ 6 := by
 unfold fewV
 split
 ·exact fewF_mem m v o c 7 0 rfl
 ·simp
set_option maxHeartbeats 8000000 in
set_option maxRecDepth 100000 in
theorem impl_FewestLiars_c (A0 : Option Addr) (c0 : Nat) (m : List (List Int)) (A1 : Option Addr) (c1 : Nat) (v : List Int) (A2 : Option Addr) (c2 : Nat) (o : List Int) (c : Int) (w : World) (hr0 : Kd.C (Kd.slice 3 (Kd.int .i64)) w A0 m.length m) (hc0 : m.length ≤ c0) (hr1 : Kd.C (Kd.int .i64) w A1 v.length v) (hc1 : v.length ≤ c1) (hr2 : Kd.C (Kd.int .i64) w A2 o.length o) (hc2 : o.length ≤ c2) (hm : okII m) (hv : v.length ≤ 1048576) (ho : o.length ≤ 1048576) :
  Calls Try.prog 30 #[.slice A0 m.length c0, .slice A1 v.length c1, .slice A2 o.length c2, .int .i64 c] w fun e w' => ∃ u, e = .returned u ∧ Kd.S (Kd.slice 3 (Kd.int .i64)) 25 w' w.heap.size (fun _ => True) u (fewV m v o c) ∧ Below w.heap.size w w' := by
 obtain ⟨k0, hk0⟩ := (impl_AreOwned_ev m v o c hm.2 hv ho).rounds
 have K0 := Aside0.mk hk0
 have HR0 := Aside0.mk (And.intro hr0 hc0)
 have HR1 := Aside0.mk (And.intro hr1 hc1)
 have HR2 := Aside0.mk (And.intro hr2 hc2)
 have HM := Aside0.mk hm
 have HVO := Aside0.mk (And.intro hv ho)
 have hinf : (Try.prog.info? 25).map (fun i => (i.zero, i.size, i.bytes)) = some (some (.slice none 0 0), 1, 24) := by kernel_rfl
 have HINF := Aside0.mk hinf
 have HFE := Aside0.mk (show fewV m v o c = if ownB m v o c = true then fewF m v o c 7 0 else [] from rfl)
 obtain ⟨F, hF⟩ : ∃ F, F = fewV m v o c := ⟨_, rfl⟩
 rw [← hF] at HFE ⊢
 clear hk0 hr0 hc0 hr1 hc1 hr2 hc2 hm hv ho hinf hF
 cases hb : ownB m v o c with
 | false =>
  rw [hb] at K0 HFE
  go_enter Try.func30, Try.ntmps30
  go_wp2_with fail
  go_at_call 41; (refine (impl_AreOwned.calls k0 A0 c0 m A1 c1 v A2 c2 o c false _ HR0.out.1 HR0.out.2 HR1.out.1 HR1.out.2 HR2.out.1 HR2.out.2 K0.out).mono ?_); rintro e w' ⟨rfl, ⟨nd, rfl⟩⟩
  go_wp2
  go_ret
  exact ⟨_, rfl, by rw [HFE.out]; exact Kd.S_nil _ _ _ _ _, (by repeat (first | (with_reducible first | exact Below.refl _ _ | apply below_alloc | apply pw_below_drewN | apply below_drew1) | exact Below.refl _ _))⟩
 | true =>
  rw [hb] at K0 HFE
  go_enter Try.func30, Try.ntmps30
  go_wp2_with fail
  go_at_call 41; (refine (impl_AreOwned.calls k0 A0 c0 m A1 c1 v A2 c2 o c true _ HR0.out.1 HR0.out.2 HR1.out.1 HR1.out.2 HR2.out.1 HR2.out.2 K0.out).mono ?_); rintro e w' ⟨rfl, ⟨nd, rfl⟩⟩
  have HB0 := Aside0.mk (show Below w.heap.size w _ from (by repeat (first | (with_reducible first | exact Below.refl _ _ | apply below_alloc | apply pw_below_drewN | apply below_drew1) | exact Below.refl _ _)))
  go_wp2
  go_loopg [19] 7 (fun gg v19 wr => ∃ (s : Nat), gg = 7 - s ∧ v19 = .int .i64 (s : Int) ∧ Aside0 (s ≤ 7) ∧ Aside0 (fewF m v o c (7 - s) s = F) ∧ Aside0 (Below w.heap.size w wr))
  case atStart => exact ⟨0, rfl, rfl, ⟨by omega⟩, ⟨HFE.out.symm⟩, ⟨by repeat (first | (with_reducible first | exact HB0.out | apply below_alloc | apply pw_below_drewN | apply below_drew1) | exact HB0.out)⟩⟩
  case round =>
   clear HB0
   obtain ⟨s, hgg, rfl, HS7, HF, HB⟩ := hrel
   by_cases hs : s < 7
   ·have hs' : (s : Int) < 7 := by omega
    have HS := Aside0.mk hs
    obtain ⟨L, hL⟩ : ∃ L, L = addV 6 s 0 [] := ⟨_, rfl⟩
    have HL := Aside0.mk hL
    have HLL := Aside0.mk (show L.length ≤ 46656 from by rw [hL]; exact addV_six (by omega) 6 (by omega) 0 [])
    have HLM := Aside0.mk (show ∀ r ∈ L, r.length ≤ 6 from fun r hr => by rw [hL] at hr; have := addV_mem 6 s 0 [] r hr; rw [this]; simp; omega)
    clear hL hs
    go_wp2_with fail
    go_at_call 85; (refine (calls_cast (by rfl) (impl_SetsOf_c 6 s (by omega) (by have := HS.out; omega) (by rw [← HL.out]; have := HLL.out; omega) _)).mono ?_)
    rintro e w2 ⟨vS, rfl, hS, hb2⟩
    rw [← HL.out] at hS
    have HB2 := Aside0.mk (below_step HB.out (below_step (w := wr) (by repeat (first | (with_reducible first | exact Below.refl _ _ | apply below_alloc | apply pw_below_drewN | apply below_drew1) | exact Below.refl _ _)) hb2))
    obtain ⟨f, hft⟩ := Kd.S_lower (Kd.S_mono (ok' := fun k => k < w2.heap.size) (Kd.S_bound hS) (fun k hk => hk.2.2.1)) (Nat.le_trans HB.out.size (show Below wr.heap.size wr _ from (by repeat (first | (with_reducible first | exact Below.refl _ _ | apply below_alloc | apply pw_below_drewN | apply below_drew1) | exact Below.refl _ _))).size)
    obtain ⟨AS, cS, hvS⟩ := Kd.S_slice hS
    subst hvS
    have HT0 := Aside0.mk hft
    clear hft hS hb2 HB
    go_wp2
    go_loopg [10, 25] L.length (fun gg v10 v25 wq => ∃ (pre suf : List (List Int)), gg = suf.length ∧ Aside0 (L = pre ++ suf) ∧ v25 = .int .i64 (pre.length : Int) ∧ Aside0 ((Kd.tag f (Kd.slice 3 (Kd.int .i64))).R 25 wq w.heap.size (fun k => k < w2.heap.size) (.slice AS L.length cS) L.zipIdx) ∧ Aside0 (Kd.S (Kd.slice 3 (Kd.int .i64)) 25 wq w.heap.size (fun k => w2.heap.size ≤ k ∨ (k < w2.heap.size ∧ f k < pre.length)) v10 (selV m v o c pre)) ∧ Aside0 (∀ k, v10.ownBlock = some k → w2.heap.size ≤ k) ∧ Aside0 (w2.heap.size ≤ wq.heap.size) ∧ Aside0 (Below w.heap.size w wq))
    case atStart => exact ⟨[], L, rfl, ⟨rfl⟩, rfl, ⟨by (with_reducible repeat (first | apply Kd.R_alloc | apply Kd.R_drewN | apply Kd.R_drew)); exact HT0.out⟩, ⟨Kd.S_nil _ _ _ _ _⟩, ⟨fun k hk => by simp [Value.ownBlock] at hk⟩, ⟨(show Below w2.heap.size w2 _ from (by repeat (first | (with_reducible first | exact Below.refl _ _ | apply below_alloc | apply pw_below_drewN | apply below_drew1) | exact Below.refl _ _))).size⟩, ⟨by repeat (first | (with_reducible first | exact HB2.out | apply below_alloc | apply pw_below_drewN | apply below_drew1) | exact HB2.out)⟩⟩
    case round =>
     clear HT0 HB2
     obtain ⟨pre, suf, hg2, HE, rfl, HT, HO, HOW, HSZ, HB⟩ := hrel
     cases suf with
     | nil =>
      have e0 : L = pre := by simpa using HE.out
      subst e0
      obtain ⟨Ao, co, rfl⟩ := Kd.S_slice HO.out
      have hnl : ¬ (L.length : Int) < (L.length : Int) := by omega
      have hstep : fewF m v o c (7 - s) s = if (selV m v o c L).length = 0 then fewF m v o c (7 - (s + 1)) (s + 1) else selV m v o c L := by
       have h1 := HS.out
       rw [show 7 - s = (7 - (s + 1)) + 1 by omega, fewF, ← HL.out]
      have HST := Aside0.mk hstep
      clear hstep
      by_cases hz : (selV m v o c L).length = 0
      ·have hz' : ¬ 0 < (selV m v o c L).length := by omega
       have HZ := Aside0.mk hz
       clear hz
       go_wp2_with fail
       go_roundg (7 - (s + 1))
       case measure => have := HS.out; omega
       case rel => exact ⟨s + 1, rfl, by push_cast; rfl, ⟨by have := HS.out; omega⟩, ⟨by rw [← HF.out, HST.out, if_pos HZ.out]⟩, ⟨by repeat (first | (with_reducible first | exact HB.out | apply below_alloc | apply pw_below_drewN | apply below_drew1) | exact HB.out)⟩⟩
      ·have hz' : 0 < (selV m v o c L).length := by omega
       have HZ := Aside0.mk hz
       clear hz
       go_wp2
       go_ret
       exact ⟨_, rfl, by rw [← HF.out, HST.out, if_neg HZ.out]; exact Kd.S_mono HO.out (fun _ _ => trivial), HB.out⟩
     | cons x suf =>
      have hel : L.length = pre.length + (suf.length + 1) := by rw [HE.out]; simp
      have hlt : (pre.length : Int) < (L.length : Int) := by omega
      have hx6 := HLM.out x (by rw [HE.out]; simp)
      obtain ⟨g, rfl⟩ : ∃ g, AS = some ⟨g, 0, none⟩ := by
       obtain ⟨g, cap, e1, _⟩ := Kd.R_form HT.out (by rw [List.length_zipIdx]; omega)
       injection e1 with e1
       exact ⟨g, e1⟩
      obtain ⟨cs, hcl, hM, hcc⟩ := Kd.R_getA HT.out ([], 0) (pre.length : Int) (by omega) (by omega)
      have hgx : L.zipIdx.getD ((pre.length : Int)).toNat ([], 0) = (x, pre.length) := by
       rw [Int.toNat_natCast, List.getD_eq_getElem?_getD, List.getElem?_zipIdx]
       simp [HE.out]
      rw [hgx] at hM
      obtain ⟨vx, rfl, hRx⟩ : ∃ vx, cs = [vx] ∧ Kd.R (Kd.int .i64) 3 wr w.heap.size (fun k => (k < w2.heap.size ∧ some k ≠ (Value.slice (some ⟨g, 0, none⟩) L.length cS).ownBlock) ∧ f k = pre.length) vx x := hM
      obtain ⟨Ax, cx, rfl⟩ := Kd.R_slice hRx
      have hcell : wr.cell? ⟨g, pre.length, none⟩ = some (.slice Ax x.length cx) := by
       have := hcc 0 _ rfl
       rw [add_at] at this
       simpa [Kd.tag, Kd.slice] using this
      obtain ⟨kw, hkw⟩ := (impl_WithoutOwners_ev m o x HM.out HVO.out.2 (by omega)).rounds
      obtain ⟨kv, hkv⟩ := (impl_ValuesWithout_ev v o x HVO.out.1 HVO.out.2 (by omega)).rounds
      obtain ⟨ks, hks⟩ := (impl_IsSolvable_ev (woV m o x) (vwV v o x) c (woV_tot m o x HM.out).2 (Nat.le_trans (vwV_len v o x) HVO.out.1)).rounds
      have KW := Aside0.mk hkw
      have KV := Aside0.mk hkv
      have KS := Aside0.mk hks
      have HRX := Aside0.mk hRx
      have HEL := Aside0.mk hel
      clear hkw hkv hks hRx hcc hgx hcl hel hx6
      go_wp2_with fail
      go_at_call 44; (refine (impl_WithoutOwners.calls kw A0 c0 m A2 c2 o Ax cx x (woV m o x) _ (Kd.C_below HR0.out.1 (below_step HB.out (by repeat (first | (with_reducible first | exact Below.refl _ _ | apply below_alloc | apply pw_below_drewN | apply below_drew1) | exact Below.refl _ _)))) HR0.out.2 (Kd.C_below HR2.out.1 (below_step HB.out (by repeat (first | (with_reducible first | exact Below.refl _ _ | apply below_alloc | apply pw_below_drewN | apply below_drew1) | exact Below.refl _ _)))) HR2.out.2 (Kd.C_below (Kd.R_reads' HRX.out).2.2 (by repeat (first | (with_reducible first | exact Below.refl _ _ | apply below_alloc | apply pw_below_drewN | apply below_drew1) | exact Below.refl _ _))) (Kd.R_reads' HRX.out).2.1 KW.out).mono ?_); rintro e w3 ⟨v3, rfl, hS3, hb3⟩
      have hq3 := below_step (w := wr) (by repeat (first | (with_reducible first | exact Below.refl _ _ | apply below_alloc | apply pw_below_drewN | apply below_drew1) | exact Below.refl _ _)) hb3
      obtain ⟨A3, c3, rfl⟩ := Kd.S_slice hS3
      have Q3 := Aside0.mk hq3
      have HS3 := Aside0.mk hS3
      clear hS3 hb3 hq3
      go_wp2_with fail
      go_at_call 45; (refine (impl_ValuesWithout.calls kv A1 c1 v A2 c2 o Ax cx x (vwV v o x) _ (Kd.C_below HR1.out.1 (below_step HB.out (below_step Q3.out (by repeat (first | (with_reducible first | exact Below.refl _ _ | apply below_alloc | apply pw_below_drewN | apply below_drew1) | exact Below.refl _ _))))) HR1.out.2 (Kd.C_below HR2.out.1 (below_step HB.out (below_step Q3.out (by repeat (first | (with_reducible first | exact Below.refl _ _ | apply below_alloc | apply pw_below_drewN | apply below_drew1) | exact Below.refl _ _))))) HR2.out.2 (Kd.C_below (Kd.R_reads' HRX.out).2.2 (below_step Q3.out (by repeat (first | (with_reducible first | exact Below.refl _ _ | apply below_alloc | apply pw_below_drewN | apply below_drew1) | exact Below.refl _ _)))) (Kd.R_reads' HRX.out).2.1 KV.out).mono ?_); rintro e w4 ⟨v4, rfl, hS4, hb4⟩
      have hq4 := below_step (w := w3) (by repeat (first | (with_reducible first | exact Below.refl _ _ | apply below_alloc | apply pw_below_drewN | apply below_drew1) | exact Below.refl _ _)) hb4
      obtain ⟨A4, c4, rfl⟩ := Kd.R_slice hS4
      have Q4 := Aside0.mk hq4
      have HS4 := Aside0.mk hS4
      clear hS4 hb4 hq4
      cases hsol : solvV (woV m o x) (vwV v o x) c with
      | false =>
       rw [hsol] at KS
       go_wp2_with fail
       go_at_call 43; (refine (impl_IsSolvable.calls ks A3 c3 (woV m o x) A4 c4 (vwV v o x) c false _ (Kd.C_below (Kd.S_reads' HS3.out).2.2 (below_step Q4.out (by repeat (first | (with_reducible first | exact Below.refl _ _ | apply below_alloc | apply pw_below_drewN | apply below_drew1) | exact Below.refl _ _)))) (Kd.S_reads' HS3.out).2.1 (Kd.C_below (Kd.R_reads' HS4.out).2.2 (by repeat (first | (with_reducible first | exact Below.refl _ _ | apply below_alloc | apply pw_below_drewN | apply below_drew1) | exact Below.refl _ _))) (Kd.R_reads' HS4.out).2.1 KS.out).mono ?_); rintro e w5 ⟨rfl, hb5⟩
       have Q5 := Aside0.mk (below_step Q3.out (below_step Q4.out (below_step (w := w4) (by repeat (first | (with_reducible first | exact Below.refl _ _ | apply below_alloc | apply pw_below_drewN | apply below_drew1) | exact Below.refl _ _)) hb5)))
       clear hb5
       go_wp2_with fail
       go_roundg suf.length
       case measure => rw [hg2]; simp
       case rel =>
        refine ⟨pre ++ [x], suf, rfl, ⟨by rw [HE.out]; simp⟩, ?_, ⟨?_⟩, ⟨?_⟩, HOW, ⟨?_⟩, ⟨?_⟩⟩
        ·rw [List.length_append, wsucc (by have := HEL.out; have := HLL.out; omega)]; rfl
        ·exact Kd.R_below HT.out (below_step Q5.out (by repeat (first | (with_reducible first | exact Below.refl _ _ | apply below_alloc | apply pw_below_drewN | apply below_drew1) | exact Below.refl _ _)))
        ·rw [show selV m v o c (pre ++ [x]) = selV m v o c pre by simp [selV, hsol]]
         refine Kd.S_mono (Kd.S_below HO.out (below_step Q5.out (by repeat (first | (with_reducible first | exact Below.refl _ _ | apply below_alloc | apply pw_below_drewN | apply below_drew1) | exact Below.refl _ _)))) (fun k hk => ?_)
         rcases hk with hk | hk
         ·exact .inl hk
         ·exact .inr ⟨hk.1, by simp; omega⟩
        ·exact Nat.le_trans HSZ.out (below_step Q5.out (by repeat (first | (with_reducible first | exact Below.refl _ _ | apply below_alloc | apply pw_below_drewN | apply below_drew1) | exact Below.refl _ _))).size
        ·exact below_step HB.out (below_step Q5.out (by repeat (first | (with_reducible first | exact Below.refl _ _ | apply below_alloc | apply pw_below_drewN | apply below_drew1) | exact Below.refl _ _)))
      | true =>
       rw [hsol] at KS
       go_wp2_with fail
       go_at_call 43; (refine (impl_IsSolvable.calls ks A3 c3 (woV m o x) A4 c4 (vwV v o x) c true _ (Kd.C_below (Kd.S_reads' HS3.out).2.2 (below_step Q4.out (by repeat (first | (with_reducible first | exact Below.refl _ _ | apply below_alloc | apply pw_below_drewN | apply below_drew1) | exact Below.refl _ _)))) (Kd.S_reads' HS3.out).2.1 (Kd.C_below (Kd.R_reads' HS4.out).2.2 (by repeat (first | (with_reducible first | exact Below.refl _ _ | apply below_alloc | apply pw_below_drewN | apply below_drew1) | exact Below.refl _ _))) (Kd.R_reads' HS4.out).2.1 KS.out).mono ?_); rintro e w5 ⟨rfl, hb5⟩
       have Q5 := Aside0.mk (below_step Q3.out (below_step Q4.out (below_step (w := w4) (by repeat (first | (with_reducible first | exact Below.refl _ _ | apply below_alloc | apply pw_below_drewN | apply below_drew1) | exact Below.refl _ _)) hb5)))
       clear hb5
       have HSL := Aside0.mk (show (selV m v o c pre).length ≤ 46656 from Nat.le_trans (selV_sub m v o c pre) (by have := HEL.out; have := HLL.out; omega))
       go_wp2_with ((with_reducible refine gate_builtin (b := .append) (xs := #[.tmp 39, .tmp 41]) rfl ?_); at_builtin; refine Kd.S_append (Kd.slice 3 (Kd.int .i64)) (w0 := w) w.heap.size rfl (.tmp 39) (.tmp 41) 33 25 (.slice none 0 0) 24 rfl Try.underlying33 HINF.out rfl (by decide) (by omega) _ (selV m v o c pre) x [.slice Ax x.length cx] (fun k => w2.heap.size ≤ k ∨ (k < w2.heap.size ∧ f k < pre.length + 1)) (fun k => k < w2.heap.size ∧ f k = pre.length) rfl rfl ?aP ?aK ?aF ?aO ?aB ?aS ?aL ?_; (case aP => exact ⟨_, rfl, Kd.R_mono (Kd.R_below HRX.out (below_step Q5.out (by repeat (first | (with_reducible first | exact Below.refl _ _ | apply below_alloc | apply pw_below_drewN | apply below_drew1) | exact Below.refl _ _)))) (fun k hk => ⟨hk.1.1, hk.2⟩)⟩); (case aK => exact fun k hk => ⟨.inr ⟨hk.1, by omega⟩, fun he => by have := HOW.out k he.symm; omega⟩); (case aF => exact fun k hk => .inl (Nat.le_trans (Nat.le_trans HSZ.out (below_step Q5.out (by repeat (first | (with_reducible first | exact Below.refl _ _ | apply below_alloc | apply pw_below_drewN | apply below_drew1) | exact Below.refl _ _))).size) hk)); (case aO => exact Kd.S_mono (Kd.S_below HO.out (below_step Q5.out (by repeat (first | (with_reducible first | exact Below.refl _ _ | apply below_alloc | apply pw_below_drewN | apply below_drew1) | exact Below.refl _ _)))) (fun k hk => by rcases hk with hk | hk; exact ⟨.inl hk, fun h => by omega⟩; exact ⟨.inr ⟨hk.1, by omega⟩, fun h => by omega⟩)); (case aB => exact below_step HB.out (below_step Q5.out (by repeat (first | (with_reducible first | exact Below.refl _ _ | apply below_alloc | apply pw_below_drewN | apply below_drew1) | exact Below.refl _ _)))); (case aS => exact (below_step HB.out (below_step Q5.out (by repeat (first | (with_reducible first | exact Below.refl _ _ | apply below_alloc | apply pw_below_drewN | apply below_drew1) | exact Below.refl _ _)))).size); (case aL => have := HSL.out; omega); intro v6 w6 hS6 hB6 hg6 hat6; have HS6 := Aside0.mk hS6; have HB6 := Aside0.mk hB6; have HG6 := Aside0.mk hg6; have HA6 := Aside0.mk hat6; clear hS6 hB6 hg6 hat6)
       go_roundg suf.length
       case measure => rw [hg2]; simp
       case rel =>
        refine ⟨pre ++ [x], suf, rfl, ⟨by rw [HE.out]; simp⟩, ?_, ⟨?_⟩, ⟨?_⟩, ⟨?_⟩, ⟨?_⟩, ⟨?_⟩⟩
        ·rw [List.length_append, wsucc (by have := HEL.out; have := HLL.out; omega)]; rfl
        ·exact Kd.R_grown (Kd.R_below HT.out (below_step Q5.out (by repeat (first | (with_reducible first | exact Below.refl _ _ | apply below_alloc | apply pw_below_drewN | apply below_drew1) | exact Below.refl _ _)))) HG6.out (fun k hk he => by have := HOW.out k he.symm; omega)
        ·rw [show selV m v o c (pre ++ [x]) = selV m v o c pre ++ [x] by simp [selV, hsol]]
         rw [List.length_append]
         exact HS6.out
        ·intro k hk
         rcases HA6.out with h | ⟨b, h, hb⟩
         ·exact HOW.out k (h.symm.trans hk)
         ·rw [h] at hk; injection hk with hk; subst hk; exact Nat.le_trans (Nat.le_trans HSZ.out (below_step Q5.out (by repeat (first | (with_reducible first | exact Below.refl _ _ | apply below_alloc | apply pw_below_drewN | apply below_drew1) | exact Below.refl _ _))).size) hb
        ·exact Nat.le_trans (Nat.le_trans HSZ.out (below_step Q5.out (by repeat (first | (with_reducible first | exact Below.refl _ _ | apply below_alloc | apply pw_below_drewN | apply below_drew1) | exact Below.refl _ _))).size) HG6.out.size
        ·exact HB6.out
   ·have hs' : ¬ (s : Int) < 7 := by omega
    have hs7 : s = 7 := by have := HS7.out; omega
    subst hs7
    go_wp2
    go_ret
    exact ⟨_, rfl, by rw [← HF.out]; exact Kd.S_nil _ _ _ _ _, by repeat (first | (with_reducible first | exact HB.out | apply below_alloc | apply pw_below_drewN | apply below_drew1) | exact HB.out)⟩

instance okII_dec (m : List (List Int)) : Decidable (okII m) := by unfold okII; infer_instance
def impl_FewestLiars.f (l0 : List (List Int)) (l1 l2 : List Int) (a3 : Int) : Option (List (List Int)) := if okII l0 ∧ l1.length ≤ 1048576 ∧ l2.length ≤ 1048576 then some (fewV l0 l1 l2 a3) else none
theorem impl_FewestLiars.calls (A0 : Option Addr) (c0 : Nat) (l0 : List (List Int)) (A1 : Option Addr) (c1 : Nat) (l1 : List Int) (A2 : Option Addr) (c2 : Nat) (l2 : List Int) (a3 : Int) (r : List (List Int)) (w : World) (hr0 : Kd.C (Kd.slice 3 (Kd.int .i64)) w A0 l0.length l0) (hc0 : l0.length ≤ c0) (hr1 : Kd.C (Kd.int .i64) w A1 l1.length l1) (hc1 : l1.length ≤ c1) (hr2 : Kd.C (Kd.int .i64) w A2 l2.length l2) (hc2 : l2.length ≤ c2) (h : impl_FewestLiars.f l0 l1 l2 a3 = some r) :
  Calls Try.prog 30 #[.slice A0 l0.length c0, .slice A1 l1.length c1, .slice A2 l2.length c2, .int .i64 a3] w fun e w' => ∃ v0_ : Value, e = .returned (v0_) ∧ Kd.S (Kd.slice 3 (Kd.int .i64)) 25 w' w.heap.size (fun _ => True) v0_ r ∧ Below w.heap.size w w' := by
 unfold impl_FewestLiars.f at h
 split at h
 ·rename_i hh
  obtain rfl := Option.some.inj h
  exact impl_FewestLiars_c A0 c0 l0 A1 c1 l1 A2 c2 l2 a3 w hr0 hc0 hr1 hc1 hr2 hc2 hh.1 hh.2.1 hh.2.2
 ·cases h

end Go.Proofs.Ytiipcophnnfnoaa.PFnLiars
