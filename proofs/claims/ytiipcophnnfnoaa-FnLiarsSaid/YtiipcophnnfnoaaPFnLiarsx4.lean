/- What the functions that the law FnLiars uses compute, and that the program computes it: walks written by a program of this session. -/
import Derived.Test.YtiipcophnnfnoaaPFnLiarsx0
import Derived.Test.YtiipcophnnfnoaaPFnLiarsx1
import Derived.Test.YtiipcophnnfnoaaPFnLiarsx2
import Derived.Test.YtiipcophnnfnoaaPFnLiarsx3
namespace Go.Proofs.Ytiipcophnnfnoaa.PFnLiars
open Go.RowKit Go.Proofs.YtiipcophnnfnoaaW.PrintWords Go.Proofs.YtiipcophnnfnoaaW.PrintLast Go.Proofs.YtiipcophnnfnoaaW.PrintMore
attribute [local go_sem] max2_int min2_int max_two min_two max_three min_three max_four min_four   -- for this text's walks alone
set_option linter.unusedVariables false
set_option linter.unusedSimpArgs false

/-! ### impl_reduceAny: function 158 -/
open Go.Proofs.Ytiipcophnnfnoaa.Base
theorem impl_gcd_l0 : ∀ (n b a : Nat), b ≤ n → Ev (fun k => impl_gcd.l0 k (a : Int) (b : Int)) ((Nat.gcd a b : Nat) : Int) := by
 intro n
 induction n with
 | zero =>
  intro b a hb
  obtain rfl : b = 0 := by omega
  refine Ev.step (fun k => by rw [impl_gcd.l0]) ?_
  exact evPos rfl (evEq (by simp) (Ev.now _))
 | succ n ih =>
  intro b a hb
  refine Ev.step (fun k => by rw [impl_gcd.l0]) ?_
  by_cases h0 : b = 0
  ·subst h0
   exact evPos rfl (evEq (by simp) (Ev.now _))
  ·refine evNeg (by omega) ?_
   rw [Int.tmod_eq_emod_of_nonneg (by omega), show (a : Int) % (b : Int) = ((a % b : Nat) : Int) by omega]
   have h := ih (a % b) b (by have := Nat.mod_lt a (by omega : b > 0); omega)
   refine evEq ?_ h
   rw [Nat.gcd_comm a b, Nat.gcd_rec b a, Nat.gcd_comm]
theorem impl_gcd_ev (a b : Int) (ha : a.natAbs ≤ 9223372036854775807) (hb : b.natAbs ≤ 9223372036854775807) : Ev (fun k => impl_gcd.f k a b) ((Int.gcd a b : Nat) : Int) := by
 have key : ∀ a : Int, 0 ≤ a → a.natAbs ≤ 9223372036854775807 → Ev (fun k => impl_gcd.j0 k a b) ((Nat.gcd a.natAbs b.natAbs : Nat) : Int) := by
  intro a h0 h1
  refine Ev.step (fun k => by rw [impl_gcd.j0]) ?_
  have h := impl_gcd_l0 b.natAbs b.natAbs a.natAbs (Nat.le_refl _)
  rw [show ((a.natAbs : Nat) : Int) = a by omega] at h
  by_cases hn : b < 0
  ·refine evPos hn (Ev.step (fun k => by rw [impl_gcd.j1]) ?_)
   rw [w64 (by omega) (by omega), show -b = ((b.natAbs : Nat) : Int) by omega]
   exact h
  ·refine evNeg hn (Ev.step (fun k => by rw [impl_gcd.j1]) ?_)
   rw [show ((b.natAbs : Nat) : Int) = b by omega] at h
   exact h
 unfold impl_gcd.f
 by_cases hn : a < 0
 ·refine evPos hn ?_
  rw [w64 (by omega) (by omega)]
  have h := key (-a) (by omega) (by omega)
  rw [Int.natAbs_neg] at h
  exact h
 ·exact evNeg hn (key a (by omega) ha)
theorem gcd_le_of (a b : Int) (M : Nat) (ha : a.natAbs ≤ M) (hb : b.natAbs ≤ M) : Int.gcd a b ≤ M := by
 by_cases h : b = 0
 ·subst h; simpa using ha
 ·exact Nat.le_trans (Nat.le_of_dvd (by omega) (Nat.gcd_dvd_right a.natAbs b.natAbs)) hb
theorem gcdF_le (M : Nat) : ∀ (r : List Int) (g : Int), g.natAbs ≤ M → (∀ x ∈ r, x.natAbs ≤ M) → (gcdF g r).natAbs ≤ M
 | [], g, h, _ => h
 | x :: r, g, h, hr => gcdF_le M r _ (by
   have := gcd_le_of g x M h (hr x (by simp))
   simpa using this) (fun y hy => hr y (by simp [hy]))
theorem gcdF_append (g : Int) (r : List Int) (x : Int) : gcdF g (r ++ [x]) = ((Int.gcd (gcdF g r) x : Nat) : Int) := by simp [gcdF, List.foldl_append]
theorem gcdF_zero_lead (r : List Int) : gcdF 0 r = 0 ↔ leadL r = r.length := by
 constructor
 ·intro h
  apply Classical.byContradiction
  intro hn
  have := gcdF_pos r hn
  omega
 ·intro h
  have key : ∀ (s : List Int), (∀ x ∈ s, x = 0) → gcdF 0 s = 0 := by
   intro s
   induction s with
   | nil => intro _; rfl
   | cons x s ih =>
    intro hs
    have hx := hs x (by simp)
    subst hx
    exact ih (fun y hy => hs y (by simp [hy]))
  refine key r fun x hx => ?_
  obtain ⟨j, hj, rfl⟩ := List.mem_iff_getElem.1 hx
  have h1 := leadL_low r j (by omega)
  unfold vec at h1
  rw [List.getD_eq_getElem?_getD, List.getElem?_eq_getElem hj] at h1
  exact h1
/-- What a call turns: the blocks of S alone. -/
structure Trn (S : Nat → Prop) (w w' : World) : Prop where
 os : w'.os = w.os
 tape : w'.tape = w.tape
 output : w'.output = w.output
 size : w.heap.size ≤ w'.heap.size
 block : ∀ k, k < w.heap.size → ¬ S k → w'.heap[k]? = w.heap[k]?
theorem Trn.refl (S : Nat → Prop) (w : World) : Trn S w w := ⟨rfl, rfl, rfl, Nat.le_refl _, fun _ _ _ => rfl⟩
theorem Trn.trans {S : Nat → Prop} {a b c : World} (h : Trn S a b) (k : Trn S b c) : Trn S a c :=
 ⟨k.os.trans h.os, k.tape.trans h.tape, k.output.trans h.output, Nat.le_trans h.size k.size, fun i hi hs => (k.block i (Nat.lt_of_lt_of_le hi h.size) hs).trans (h.block i hi hs)⟩
theorem Trn.of_below {S : Nat → Prop} {a b : World} (h : Below a.heap.size a b) : Trn S a b := ⟨h.os, h.tape, h.output, h.size, fun i hi _ => h.block i hi⟩
theorem Trn.then_below {S : Nat → Prop} {a b c : World} (h : Trn S a b) (k : Below b.heap.size b c) : Trn S a c := h.trans (.of_below k)
theorem Trn.mono {S T : Nat → Prop} {a b : World} (h : Trn S a b) (hs : ∀ k, S k → T k) : Trn T a b := ⟨h.os, h.tape, h.output, h.size, fun i hi ht => h.block i hi fun hk => ht (hs i hk)⟩
theorem Trn.setCell {S : Nat → Prop} {a b : World} (h : Trn S a b) (p : Addr) (u : Value) (hp : S p.block) : Trn S a (b.setCell p u) :=
 ⟨h.os, h.tape, h.output, by rw [World.size_setCell]; exact h.size, fun i hi hs => (Below.heap_setCell b p u i (fun e => hs (e ▸ hp))).trans (h.block i hi hs)⟩
theorem Trn.below {S : Nat → Prop} {B : Nat} {w0 a b : World} (hS : ∀ k, S k → B ≤ k) (h : Below B w0 a) (hB : B ≤ a.heap.size) (k : Trn S a b) : Below B w0 b :=
 ⟨k.os.trans h.os, k.tape.trans h.tape, k.output.trans h.output, Nat.le_trans h.size k.size, fun i hi => (k.block i (Nat.lt_of_lt_of_le hi hB) (fun hs => by have := hS i hs; omega)).trans (h.block i hi)⟩
abbrev GR (w : World) (B b cap : Nat) (r : List Int) : Prop := Kd.R (Kd.int .i64) 3 w B (fun k => k = b) (.slice (some ⟨b, 0, none⟩) r.length cap) r
abbrev GRn (w : World) (B b cap n : Nat) (r : List Int) : Prop := Kd.R (Kd.int .i64) 3 w B (fun k => k = b) (.slice (some ⟨b, 0, none⟩) n cap) r
theorem GR.lt {w : World} {B b cap : Nat} {r : List Int} (h : GR w B b cap r) : b < w.heap.size := ((Kd.own_of_R h).lt b rfl).2
theorem GR.base {w : World} {B b cap : Nat} {r : List Int} (h : GR w B b cap r) : B ≤ b := ((Kd.own_of_R h).lt b rfl).1
theorem GR.move {w w' : World} {B b cap : Nat} {r : List Int} (h : GR w B b cap r) (e : w'.heap[b]? = w.heap[b]?) : GR w' B b cap r := Kd.R_move h (fun k hk => hk ▸ e)
theorem GR.trn {S : Nat → Prop} {w w' : World} {B b cap : Nat} {r : List Int} (h : GR w B b cap r) (k : Trn S w w') (hs : ¬ S b) : GR w' B b cap r := h.move (k.block b h.lt hs)
theorem GR.reads {w : World} {B b cap : Nat} {r : List Int} (h : GR w B b cap r) : Kd.C (Kd.int .i64) w (some ⟨b, 0, none⟩) r.length r := (Kd.R_reads' h).2.2
theorem GRn.cell {w : World} {B b cap n : Nat} {r : List Int} (h : GRn w B b cap n r) (hn : r.length = n) (j : Nat) (hj : j < n) : w.cell? ⟨b, j, none⟩ = some (.int .i64 (vec r j)) ∧ w.frozen? ⟨b, j, none⟩ = false := by
 subst hn
 have h1 := Kd.R_cell (0 : Int) h (j : Int) (by omega) (by omega)
 rwa [show rdOf 0 r (j : Int) = vec r j by simp [rdOf, vec], Int.toNat_natCast] at h1
theorem GRn.put {w : World} {B b cap n : Nat} {r : List Int} (h : GRn w B b cap n r) (hn : r.length = n) (j : Nat) (x : Int) : GRn (w.setCell ⟨b, j, none⟩ (.int .i64 x)) B b cap n (r.set j x) := by
 subst hn
 have h1 := (Kd.R_put h (j : Int) x).1
 rwa [Int.toNat_natCast] at h1
theorem vec_mid (pre suf : List Int) (x : Int) (n : Nat) (hn : pre.length = n) : vec (pre ++ x :: suf) n = x := by
 subst hn; simp [vec]
theorem gcdF_take_le {zs pre suf : List Int} (h : bound62 zs) (e : zs = pre ++ suf) : 0 ≤ gcdF 0 pre ∧ gcdF 0 pre ≤ 4611686018427387904 := by
 have h1 := gcdF_le 4611686018427387904 pre 0 (by simp) (fun x hx => h x (by rw [e]; simp [hx]))
 have h2 := gcdF_nonneg pre 0 (Int.le_refl 0)
 omega
set_option maxHeartbeats 1000000 in
set_option maxRecDepth 100000 in
theorem impl_tidy_c (B b cap : Nat) (zs : List Int) (w : World) (hr : GR w B b cap zs) (hl : zs.length ≤ 1048576) (hb : bound62 zs) :
  Calls Try.prog 186 #[.slice (some ⟨b, 0, none⟩) zs.length cap] w fun e w' => e = .returned (.tuple #[]) ∧ GR w' B b cap (tidyL zs) ∧ Trn (fun k => k = b) w w' := by
 have HR := Aside0.mk hr
 have HL := Aside0.mk hl
 have HBD := Aside0.mk hb
 clear hr hl hb
 go_enter Try.func186, Try.ntmps186
 go_wp2
 go_loopg [2, 8] zs.length (fun gg v2 v8 wr => ∃ (pre suf : List Int), gg = suf.length ∧ Aside0 (zs = pre ++ suf) ∧ v2 = .int .i64 (gcdF 0 pre) ∧ v8 = .int .i64 (pre.length : Int) ∧ Aside0 (Below w.heap.size w wr))
 case atStart => exact ⟨[], zs, rfl, ⟨rfl⟩, rfl, rfl, ⟨by repeat (first | (with_reducible first | exact Below.refl _ _ | apply below_alloc | apply pw_below_drewN | apply below_drew1) | exact Below.refl _ _)⟩⟩
 case round =>
  obtain ⟨pre, suf, hgg, HE, rfl, rfl, HB⟩ := hrel
  cases suf with
  | cons x suf =>
   have hlt : (pre.length : Int) < (zs.length : Int) := by rw [HE.out]; simp; omega
   have hc := (Kd.R_cell (0 : Int) (HR.out.trn (Trn.of_below (S := fun _ => False) HB.out) (fun h => h)) (pre.length : Int) (by omega) hlt).1
   have hx : rdOf 0 zs (pre.length : Int) = x := by rw [HE.out]; simp [rdOf]
   rw [hx, Int.toNat_natCast] at hc
   obtain ⟨k, hk⟩ := (impl_gcd_ev (gcdF 0 pre) x (by have := gcdF_take_le HBD.out HE.out; omega) (by have := HBD.out x (by rw [HE.out]; simp); omega)).rounds
   rw [← gcdF_append] at hk
   have HK := Aside0.mk hk
   have HLT := Aside0.mk hlt
   clear hx hk
   go_wp2_with fail
   go_at_call 202; refine (impl_gcd.calls k _ _ _ _ HK.out).mono ?_; rintro e w' ⟨rfl, ⟨nd, rfl⟩⟩
   clear hlt
   go_wp2_with fail
   go_roundg suf.length
   case measure => rw [hgg]; simp
   case rel => exact ⟨pre ++ [x], suf, rfl, ⟨by rw [HE.out]; simp⟩, rfl, by rw [wsucc (by have := HL.out; have := HLT.out; omega)]; simp, ⟨by repeat (first | (with_reducible first | exact HB.out | apply below_alloc | apply pw_below_drewN | apply below_drew1) | exact HB.out)⟩⟩
  | nil =>
   have e0 : zs = pre := by simpa using HE.out
   subst e0
   have hlt : ¬ (zs.length : Int) < (zs.length : Int) := by omega
   have HR2 := Aside0.mk (HR.out.trn (Trn.of_below (S := fun _ => False) HB.out) (fun h => h))
   by_cases hz : leadL zs = zs.length
   ·have hg0 : gcdF 0 zs = 0 := (gcdF_zero_lead zs).2 hz
    have hgd : (gcdF 0 zs == 0) = true := by rw [hg0]; rfl
    have HT := Aside0.mk (show tidyL zs = zs by unfold tidyL; rw [if_pos hz])
    rw [hg0]
    clear hgd hg0 hz
    go_wp2
    refine bodyPost_ret (results_none rfl _ _ _) rfl ?_
    exact ⟨rfl, by rw [HT.out]; exact HR2.out, .of_below HB.out⟩
   ·have hp := gcdF_pos zs hz
    have hgne : (gcdF 0 zs == 0) = false := by simp; omega
    have hle := (gcdF_take_le HBD.out (show zs = zs ++ [] by simp)).2
    have hll : leadL zs < zs.length := Nat.lt_of_le_of_ne List.findIdx_le_length hz
    have HLD := Aside0.mk (impl_lead_c (some ⟨b, 0, none⟩) cap zs wr HR2.out.reads HL.out)
    have hli : leadI zs = (leadL zs : Int) := by unfold leadI; rw [if_neg hz]
    rw [hli] at HLD
    obtain ⟨g, hg⟩ : ∃ g, g = gcdF 0 zs := ⟨_, rfl⟩
    rw [← hg] at hp hgne hle ⊢
    obtain ⟨p, hpl⟩ : ∃ p, p = leadL zs := ⟨_, rfl⟩
    rw [← hpl] at hll HLD
    have HG := Aside0.mk hg
    have HPL := Aside0.mk hpl
    have HP := Aside0.mk hp
    have HLE := Aside0.mk hle
    have HZ := Aside0.mk hz
    have hlti : (p : Int) < (zs.length : Int) := by omega
    have hcell : wr.cell? ⟨b, p, none⟩ = some (.int .i64 (vec zs p)) := by
     have h := (Kd.R_cell (0 : Int) HR2.out (p : Int) (by omega) hlti).1
     rwa [show rdOf 0 zs (p : Int) = vec zs p by simp [rdOf, vec], Int.toNat_natCast] at h
    have HC := Aside0.mk hcell
    obtain ⟨q, hq⟩ : ∃ q, q = vec zs p := ⟨_, rfl⟩
    rw [← hq] at HC
    have HQ := Aside0.mk hq
    clear hg hpl hli hz hp hle hll hcell hq
    go_wp2_with fail
    go_at_call 159; refine HLD.out.mono ?_; rintro e w2 ⟨rfl, hb2⟩
    have HB2 := Aside0.mk hb2
    have hcell2 : w2.cell? ⟨b, p, none⟩ = some (.int .i64 q) := pw_cell_below hb2 HC.out
    clear hb2
    by_cases hneg : q < 0
    ·have hd : decide (q < 0) = true := decide_eq_true hneg
     go_wp2_with fail
     obtain ⟨s, hs⟩ : ∃ s, s = - g := ⟨_, rfl⟩
     have hw : wrap64 (-g) = s := by rw [hs]; exact w64 (by have := HLE.out; omega) (by have := HP.out; omega)
     rw [hw]
     have HS2 := Aside0.mk hs
     have HS := Aside0.mk (show sgnG zs = s by unfold sgnG; rw [← HPL.out, ← HQ.out, if_pos hneg, ← HG.out, hs])
     have HSN := Aside0.mk (show s ≠ 0 by have := HP.out; omega)
     clear hs hw hneg hd
     go_loopg [28] zs.length (fun gg v28 wr2 => ∃ (pre suf : List Int), gg = suf.length ∧ Aside0 (zs = pre ++ suf) ∧ v28 = .int .i64 (pre.length : Int) ∧ Aside0 (GRn wr2 B b cap zs.length (pre.map (fun x => Int.tdiv x s) ++ suf)) ∧ Aside0 (Trn (fun k => k = b) w wr2))
     case atStart => exact ⟨[], zs, rfl, ⟨rfl⟩, rfl, ⟨by simpa using HR2.out.trn (Trn.of_below (S := fun _ => False) (by repeat (first | (with_reducible first | exact HB2.out | apply below_alloc | apply pw_below_drewN | apply below_drew1) | exact HB2.out))) (fun h => h)⟩, ⟨(Trn.of_below HB.out).then_below (by repeat (first | (with_reducible first | exact HB2.out | apply below_alloc | apply pw_below_drewN | apply below_drew1) | exact HB2.out))⟩⟩
     case round =>
      obtain ⟨pre, suf, hgg2, HE2, rfl, HRR, HTT⟩ := hrel
      cases suf with
      | nil =>
       have e0 : zs = pre := by simpa using HE2.out
       subst e0
       have hlt : ¬ (zs.length : Int) < (zs.length : Int) := by omega
       go_wp2
       refine bodyPost_end (results_none rfl _ _ _) rfl ?_
       refine ⟨rfl, ?_, HTT.out⟩
       have h := HRR.out
       have e : tidyL zs = zs.map (fun x => Int.tdiv x s) := by unfold tidyL; rw [if_neg HZ.out, HS.out]
       unfold GR
       rw [e]
       simpa [GRn] using h
      | cons x suf =>
       have hlen : (pre.map (fun x => Int.tdiv x s) ++ x :: suf).length = zs.length := by rw [HE2.out]; simp
       have hlt : (pre.length : Int) < (zs.length : Int) := by rw [HE2.out]; simp; omega
       have hc := HRR.out.cell hlen pre.length (by omega)
       have hx : vec (pre.map (fun x => Int.tdiv x s) ++ x :: suf) pre.length = x := vec_mid _ _ _ _ (by simp)
       rw [hx] at hc
       have hc1 := hc.1
       have hc2 := hc.2
       have hsne : s ≠ 0 := HSN.out
       have hsd : (s == 0) = false := by simpa using hsne
       have HLEN := Aside0.mk hlen
       have HLT := Aside0.mk hlt
       have hx1 := HBD.out x (by rw [HE2.out]; simp)
       have hx2 := tdiv_le x s
       obtain ⟨d, hd0⟩ : ∃ d, d = Int.tdiv x s := ⟨_, rfl⟩
       have hwd : IntKind.i64.wrap (Int.tdiv x s) = d := by rw [hd0, IntKind.wrap_i64]; omega
       have HD := Aside0.mk hd0
       clear hc hx hlen hx1 hx2 hd0
       go_wp2_with fail
       go_roundg suf.length
       case measure => rw [hgg2]; simp
       case rel =>
        refine ⟨pre ++ [x], suf, rfl, ⟨by rw [HE2.out]; simp⟩, by rw [wsucc (by have := HL.out; have := HLT.out; omega)]; simp, ⟨?_⟩, ⟨HTT.out.setCell _ _ rfl⟩⟩
        have h := HRR.out.put HLEN.out pre.length d
        rwa [show (pre.map (fun x => Int.tdiv x s) ++ x :: suf).set pre.length d = (pre ++ [x]).map (fun x => Int.tdiv x s) ++ suf by rw [HD.out]; simp] at h
    ·have hd : decide (q < 0) = false := decide_eq_false hneg
     go_wp2_with fail
     obtain ⟨s, hs⟩ : ∃ s, s = g := ⟨_, rfl⟩
     have HS := Aside0.mk (show sgnG zs = s by unfold sgnG; rw [← HPL.out, ← HQ.out, if_neg (by omega), ← HG.out, hs])
     have HSN := Aside0.mk (show s ≠ 0 by have := HP.out; omega)
     rw [← hs]
     clear hs hneg hd
     go_loopg [28] zs.length (fun gg v28 wr2 => ∃ (pre suf : List Int), gg = suf.length ∧ Aside0 (zs = pre ++ suf) ∧ v28 = .int .i64 (pre.length : Int) ∧ Aside0 (GRn wr2 B b cap zs.length (pre.map (fun x => Int.tdiv x s) ++ suf)) ∧ Aside0 (Trn (fun k => k = b) w wr2))
     case atStart => exact ⟨[], zs, rfl, ⟨rfl⟩, rfl, ⟨by simpa using HR2.out.trn (Trn.of_below (S := fun _ => False) (by repeat (first | (with_reducible first | exact HB2.out | apply below_alloc | apply pw_below_drewN | apply below_drew1) | exact HB2.out))) (fun h => h)⟩, ⟨(Trn.of_below HB.out).then_below (by repeat (first | (with_reducible first | exact HB2.out | apply below_alloc | apply pw_below_drewN | apply below_drew1) | exact HB2.out))⟩⟩
     case round =>
      obtain ⟨pre, suf, hgg2, HE2, rfl, HRR, HTT⟩ := hrel
      cases suf with
      | nil =>
       have e0 : zs = pre := by simpa using HE2.out
       subst e0
       have hlt : ¬ (zs.length : Int) < (zs.length : Int) := by omega
       go_wp2
       refine bodyPost_end (results_none rfl _ _ _) rfl ?_
       refine ⟨rfl, ?_, HTT.out⟩
       have h := HRR.out
       have e : tidyL zs = zs.map (fun x => Int.tdiv x s) := by unfold tidyL; rw [if_neg HZ.out, HS.out]
       unfold GR
       rw [e]
       simpa [GRn] using h
      | cons x suf =>
       have hlen : (pre.map (fun x => Int.tdiv x s) ++ x :: suf).length = zs.length := by rw [HE2.out]; simp
       have hlt : (pre.length : Int) < (zs.length : Int) := by rw [HE2.out]; simp; omega
       have hc := HRR.out.cell hlen pre.length (by omega)
       have hx : vec (pre.map (fun x => Int.tdiv x s) ++ x :: suf) pre.length = x := vec_mid _ _ _ _ (by simp)
       rw [hx] at hc
       have hc1 := hc.1
       have hc2 := hc.2
       have hsne : s ≠ 0 := HSN.out
       have hsd : (s == 0) = false := by simpa using hsne
       have HLEN := Aside0.mk hlen
       have HLT := Aside0.mk hlt
       have hx1 := HBD.out x (by rw [HE2.out]; simp)
       have hx2 := tdiv_le x s
       obtain ⟨d, hd0⟩ : ∃ d, d = Int.tdiv x s := ⟨_, rfl⟩
       have hwd : IntKind.i64.wrap (Int.tdiv x s) = d := by rw [hd0, IntKind.wrap_i64]; omega
       have HD := Aside0.mk hd0
       clear hc hx hlen hx1 hx2 hd0
       go_wp2_with fail
       go_roundg suf.length
       case measure => rw [hgg2]; simp
       case rel =>
        refine ⟨pre ++ [x], suf, rfl, ⟨by rw [HE2.out]; simp⟩, by rw [wsucc (by have := HL.out; have := HLT.out; omega)]; simp, ⟨?_⟩, ⟨HTT.out.setCell _ _ rfl⟩⟩
        have h := HRR.out.put HLEN.out pre.length d
        rwa [show (pre.map (fun x => Int.tdiv x s) ++ x :: suf).set pre.length d = (pre ++ [x]).map (fun x => Int.tdiv x s) ++ suf by rw [HD.out]; simp] at h
/-- A row in memory: its block, its capacity, its numbers. -/
abbrev RT := Nat × Nat × List Int
def rv (t : RT) : Value := .slice (some ⟨t.1, 0, none⟩) t.2.2.length t.2.1
def kr : Kd RT := Kd.scalar rv (fun _ => rfl)
abbrev GL (w : World) (B : Nat) (v : Value) (L : List RT) : Prop := kr.R 25 w B (fun k => some k = v.ownBlock) v L
theorem GL.move {w w' : World} {B : Nat} {v : Value} {L : List RT} (h : GL w B v L) (e : ∀ k, some k = v.ownBlock → w'.heap[k]? = w.heap[k]?) : GL w' B v L := Kd.R_move h e
theorem GL.lt {w : World} {B : Nat} {v : Value} {L : List RT} (h : GL w B v L) {k : Nat} (hk : some k = v.ownBlock) : k < w.heap.size := ((Kd.own_of_R h).lt k hk.symm).2
theorem GL.base {w : World} {B : Nat} {v : Value} {L : List RT} (h : GL w B v L) {k : Nat} (hk : some k = v.ownBlock) : B ≤ k := ((Kd.own_of_R h).lt k hk.symm).1
theorem GL.trn {S : Nat → Prop} {w w' : World} {B : Nat} {v : Value} {L : List RT} (h : GL w B v L) (t : Trn S w w') (hs : ∀ k, some k = v.ownBlock → ¬ S k) : GL w' B v L := h.move fun k hk => t.block k (h.lt hk) (hs k hk)
theorem GL.typed {w : World} {B : Nat} {v : Value} {L : List RT} (h : GL w B v L) {k : Nat} (hk : some k = v.ownBlock) : ∃ cs, w.heap[k]? = some (.cells cs 25 (0, 0)) := own_typed (Kd.own_of_R h) k hk.symm
theorem GR.typed {w : World} {B b cap : Nat} {r : List Int} (h : GR w B b cap r) : ∃ cs, w.heap[b]? = some (.cells cs 3 (0, 0)) := own_typed (Kd.own_of_R h) b rfl
theorem GL.ne {w : World} {B B' : Nat} {v : Value} {L : List RT} (h : GL w B v L) {k b cap : Nat} {r : List Int} (hk : some k = v.ownBlock) (h2 : GR w B' b cap r) : k ≠ b := by
 obtain ⟨c1, e1⟩ := h.typed hk
 obtain ⟨c2, e2⟩ := h2.typed
 exact blk_ne e1 e2 (by decide)
theorem kr_erase {w : World} {g n cap B : Nat} {L : List RT} (h : GL w B (.slice (some ⟨g, 0, none⟩) n cap) L) : w.frozen? ⟨g, n, none⟩ = false ∧ (n < cap → (w.cell? ⟨g, n, none⟩).isSome = true) := by
 have ho := Kd.own_of_R h
 rcases ho.2 with ⟨h', _⟩ | ⟨g', cap', cur, h', hb, hg, hnc, hcm, hcs, htake⟩
 ·simp at h'
 ·simp only [Value.slice.injEq, Option.some.injEq, Addr.mk.injEq, and_true, true_and] at h'
  obtain ⟨rfl, rfl, rfl⟩ := h'
  refine ⟨blk_frozen hg _, fun hlt => ?_⟩
  rw [blk_cell hg]
  simp [hcs, hlt]
theorem kr_tail {w : World} {g m cap B : Nat} {L : List RT} (h : GL w B (.slice (some ⟨g, 0, none⟩) m cap) L) (u : Value) : GL (w.setCell ⟨g, m, none⟩ u) B (.slice (some ⟨g, 0, none⟩) m cap) L := by
 obtain ⟨rfl, _⟩ := Kd.R_reads' h
 have ho := ((Kd.own_of_R h).stored L.length u).1
 have e : (encs rv L).set L.length u = encs rv L := List.set_eq_of_length_le (by simp [encs])
 rw [e] at ho
 exact Kd.R_of_own ho h.1
theorem Trn.of_grown {w w' : World} {g : Nat} (h : w.drew.grownBy w' (some g)) : Trn (fun k => k = g) w w' :=
 ⟨h.os, h.tape, h.output, h.size, fun k hk hs => h.block k hk (fun e => hs (by injection e))⟩
theorem R_delete_E {α : Type} {P : Program} {ops : Array Oper} {o : Oper} {a : Act} {Kc : Act → World → Prop} {Q : Exit → Act → World → Prop} {E : Prop} (d : Kd α) {w0 W : World} (base : Nat) (hgd : o.guard = none) (s x : Operand) (t e : TypeId) (ho : o.op = .call { callee := .builtin .append, args := #[s, x], argTypes := #[t, t] })
  (ht : P.underlying t = some (.slice e)) (hinfo : (P.info? e).map (·.size) = some d.sz) {g n c k m c2 : Nat} {A : Option Addr} {xs : List α} {ok : Nat → Prop}
  (hs : a.eval s = .slice (some ⟨g, 0, none⟩) k c) (hx : a.eval x = .slice A m c2) (hA : A = if c = k + 1 then some ⟨g, 0, none⟩ else (some (⟨g, 0, none⟩ : Addr)).map (·.add ((k + 1) * d.sz))) (hm : m = n - (k + 1))
  (HO : d.R e W base ok (.slice (some ⟨g, 0, none⟩) n c) xs) (hk : k < n) (HB : Below base w0 W) (hbase : base ≤ W.heap.size)
  (h : ∀ w1, d.R e w1 base ok (.slice (some ⟨g, 0, none⟩) (n - 1) c) (xs.eraseIdx k) → Below base w0 w1 → W.grownBy w1 (some g) → Kc (a.put o.dst (.slice (some ⟨g, 0, none⟩) (n - 1) c)) w1) :
  if Region.wanted o (yielded ops a.tmps) = true then Oper.wp P o a W Kc Q else E := by
 have hw : Region.wanted o (yielded ops a.tmps) = true := by simp [Region.wanted, hgd]
 have h1 := Kd.R_delete_step (Q := Q) (Kc := Kc) (ops := ops) d base hw s x t e ho ht hinfo hs hx hA hm HO hk HB hbase h
 rw [if_pos hw] at h1 ⊢
 exact h1
set_option maxHeartbeats 1000000 in
set_option maxRecDepth 100000 in
theorem slices_Delete_c (B g n cap i : Nat) (L : List RT) (w : World) (hr : GL w B (.slice (some ⟨g, 0, none⟩) n cap) L) (hn : n = L.length) (hi : i < n) (hl : n ≤ 1048576) :
  Calls Try.prog 188 #[.slice (some ⟨g, 0, none⟩) n cap, .int .i64 (i : Int), .int .i64 ((i : Int) + 1)] w fun e w' => e = .returned (.slice (some ⟨g, 0, none⟩) (n - 1) cap) ∧ GL w' B (.slice (some ⟨g, 0, none⟩) (n - 1) cap) (L.eraseIdx i) ∧ Trn (fun k => k = g) w w' := by
 have hcap : n ≤ cap := by
  subst hn
  exact (Kd.R_reads' hr).2.1
 have HR := Aside0.mk hr
 have HN := Aside0.mk hn
 have e1 : ((i : Int) == (i : Int) + 1) = false := by simp; omega
 have hg0 : B ≤ w.heap.size := Nat.le_of_lt (Nat.lt_of_le_of_lt (hr.base (k := g) rfl) (hr.lt (k := g) rfl))
 have HB0 := Aside0.mk hg0
 clear hr hn hg0
 go_enter Try.func188, Try.ntmps188
 go_wp2_with fail
 have hinfo : (Try.prog.info? 25).map (·.size) = some 1 := by kernel_rfl
 obtain ⟨i0, hi0, hzz⟩ := Option.map_eq_some_iff.1 hinfo
 have hcut1 := cut_to (P := Try.prog) 33 25 .i64 Try.underlying33 hi0 (some ⟨g, 0, none⟩) n cap (i : Int) (by omega) (by omega) hcap
 have hcut2 := cut_from (P := Try.prog) 33 25 .i64 Try.underlying33 hi0 1 hzz (some ⟨g, 0, none⟩) n cap ((i : Int) + 1) (by omega) (by omega)
 rw [Int.toNat_natCast] at hcut1
 rw [show ((i : Int) + 1).toNat = i + 1 by omega] at hcut2
 obtain ⟨A4, hA4⟩ : ∃ A4, A4 = (if cap = i + 1 then some ⟨g, 0, none⟩ else (some (⟨g, 0, none⟩ : Addr)).map (·.add ((i + 1) * 1))) := ⟨_, rfl⟩
 rw [← hA4] at hcut2
 have HA4 := Aside0.mk hA4
 have HI := Aside0.mk hinfo
 have HII := Aside0.mk hi
 clear hA4 hinfo hi0 hzz hi
 go_region_held3 (fun _ => True) (trivial) ((refine R_delete_E kr (w0 := w) B (by rfl) _ _ _ _ (by rfl) Try.underlying33 HI.out (g := g) (n := n) (c := cap) (k := i) (m := n - (i + 1)) (c2 := cap - (i + 1)) (A := A4) (xs := L) (ok := fun k => some k = some g) (by rfl) (by rfl) HA4.out rfl HR.out HII.out ?ha ?hb ?_; (case ha => repeat (first | (with_reducible first | exact Below.refl _ _ | apply below_alloc | apply pw_below_drewN | apply below_drew1) | exact Below.refl _ _)); (case hb => exact HB0.out); intro w1 hO1 hB1 hg1))
 obtain ⟨m, hm⟩ : ∃ m, n = m + 1 := ⟨n - 1, by have := HII.out; omega⟩
 subst hm
 rw [show m + 1 - 1 = m by omega] at *
 have hO2 : GL w1 B (.slice (some ⟨g, 0, none⟩) m cap) (L.eraseIdx i) := Kd.R_mono hO1 (fun k hk => hk)
 have hke := kr_erase hO2
 have hmc : m < cap := by omega
 have hcl : ∀ ty, (Builtin.clear_ #[33] ty #[.slice (some ⟨g, m, none⟩) 1 (cap - m)]).run Try.prog w1 = .ok (.tuple #[]) (w1.setCells g m (List.replicate 1 (.slice none 0 0))) :=
  fun ty => Lib.run_clear_slice w1 33 25 ty _ Try.underlying33 Try.zeroValue25 rfl rfl g m 1 (cap - m) (by omega) (fun j hj => by have h0 : j = 0 := (by omega); subst h0; exact hke.2 hmc) (fun j hj => by have h0 : j = 0 := (by omega); subst h0; exact hke.1)
 have HO2 := Aside0.mk hO2
 have HG1 := Aside0.mk hg1
 clear hcut1 hcut2 hO1 hB1 hg1 hke hO2 e1
 have hm1 : (m : Int) ≤ ((m + 1 : Nat) : Int) := by omega
 have hm2 : ((m + 1 : Nat) : Int) ≤ (cap : Int) := by omega
 have hm3 : (0 : Int) ≤ (m : Int) := by omega
 have hm4 : m + 1 - m = 1 := by omega
 have hm5 : ¬ cap = m := by omega
 go_wp2_with fail
 go_ret
 rw [show m + 1 - 1 = m by omega]
 exact ⟨rfl, kr_tail HO2.out _, (Trn.of_grown HG1.out).setCell _ _ rfl⟩
theorem kr_at {w : World} {A : Option Addr} {L : List RT} (h : kr.C w A L.length L) (j : Nat) (t : RT) (hj : L[j]? = some t) : ∃ ad, A = some ad ∧ w.cell? (ad.add j) = some (rv t) := by
 have hl := (List.getElem?_eq_some_iff.1 hj).1
 obtain ⟨ad, e, hc⟩ := h.2.2 (by omega)
 obtain ⟨c, hc1, hc2, hc3⟩ := hc j t hj
 refine ⟨ad, e, ?_⟩
 have hc2' : c = [rv t] := hc2
 have h3 := hc3 0 (rv t) (by rw [hc2']; rfl)
 rwa [show j * kr.sz + 0 = j by show j * 1 + 0 = j; omega] at h3
set_option maxHeartbeats 2000000 in
theorem idxf_rows (p : RT → Bool) (lb : Array Value) (A0 : Option Addr) (c0 : Nat) (l0 : List RT) (w : World) (hr0 : kr.C w A0 l0.length l0) (hl : l0.length ≤ 1048576)
  (hp : ∀ x W, Below w.heap.size w W → x ∈ l0 → Calls Try.prog 187 (#[rv x] ++ lb) W fun e w' => e = .returned (.bool (p x)) ∧ Below W.heap.size W w') :
  Calls Try.prog 160 #[.slice A0 l0.length c0, .func (.func 187) #[] lb] w fun e w' => e = .returned (.int .i64 (firstP p l0 0)) ∧ Below w.heap.size w w' := by
 have HR0 := Aside0.mk hr0
 have HP := Aside0.mk hp
 have eg : ∀ args w, (callFunc 187 args).run Try.prog w = .ok (.enter 187 args) w := by
  intro args w
  have h1 : Try.f187.name ≠ "runtime.NumGoroutine" := by decide
  obtain ⟨c_, hb⟩ : ∃ c_, Try.f187.body = some c_ := ⟨_, rfl⟩
  simp [callFunc, Try.func187, h1, hb, mark]
 clear hr0 hp
 go_enter Try.func160, Try.ntmps160
 go_wp2
 go_loopg [8] l0.length (fun gg v8 wr => ∃ (pre suf : List RT), gg = suf.length ∧ Aside0 (l0 = pre ++ suf) ∧ v8 = .int .i64 (pre.length : Int) ∧ Aside0 (firstP p suf pre.length = firstP p l0 0) ∧ Aside0 (Below w.heap.size w wr))
 case atStart => exact ⟨[], l0, rfl, ⟨rfl⟩, rfl, ⟨rfl⟩, ⟨by repeat (first | (with_reducible first | exact Below.refl _ _ | apply below_alloc | apply pw_below_drewN | apply below_drew1) | exact Below.refl _ _)⟩⟩
 case round =>
  obtain ⟨pre, suf, hgg, HE, rfl, HA, HB⟩ := hrel
  cases suf with
  | nil =>
   have hlt : ¬ (pre.length : Int) < (l0.length : Int) := by rw [HE.out]; simp
   go_wp2
   go_ret
   exact ⟨by rw [← HA.out]; rfl, HB.out⟩
  | cons x suf =>
   have hlt : (pre.length : Int) < (l0.length : Int) := by rw [HE.out]; simp; omega
   obtain ⟨ad, e, hc⟩ := kr_at HR0.out pre.length x (by rw [HE.out]; simp)
   cases e
   have hc2 : wr.cell? (ad.add pre.length) = some (rv x) := (HB.out.cell (World.block_lt_of_cell? w _ hc)).trans hc
   have HCALL := Aside0.mk (HP.out x)
   have HM := Aside0.mk (show x ∈ l0 by rw [HE.out]; simp)
   clear hc
   have hb0 := Aside0.mk (Below.refl w.heap.size w)
   cases hp : p x with
   | true =>
    rw [hp] at HCALL
    go_wp2_with fail
    go_at_call 187; (refine (HCALL.out _ ?hbel HM.out).mono ?_); (case hbel => repeat (first | (with_reducible first | exact HB.out | apply below_alloc | apply pw_below_drewN | apply below_drew1) | exact HB.out)); rintro e w' ⟨rfl, hb'⟩
    have HB2 := Aside0.mk (below_step (w := w) (by repeat (first | (with_reducible first | exact HB.out | apply below_alloc | apply pw_below_drewN | apply below_drew1) | exact HB.out)) hb')
    clear hb'
    go_wp2
    go_ret
    exact ⟨by rw [← HA.out, firstP, if_pos hp]; rfl, HB2.out⟩
   | false =>
    rw [hp] at HCALL
    go_wp2_with fail
    go_at_call 187; (refine (HCALL.out _ ?hbel HM.out).mono ?_); (case hbel => repeat (first | (with_reducible first | exact HB.out | apply below_alloc | apply pw_below_drewN | apply below_drew1) | exact HB.out)); rintro e w' ⟨rfl, hb'⟩
    have HB2 := Aside0.mk (below_step (w := w) (by repeat (first | (with_reducible first | exact HB.out | apply below_alloc | apply pw_below_drewN | apply below_drew1) | exact HB.out)) hb')
    clear hb'
    have HL := Aside0.mk hl
    have HLT := Aside0.mk hlt
    clear hl hlt
    go_wp2_with fail
    go_roundg suf.length
    case measure => rw [hgg]; simp
    case rel => exact ⟨pre ++ [x], suf, rfl, ⟨by rw [HE.out]; simp⟩, by rw [wsucc (by have := HL.out; have := HLT.out; omega)]; simp, ⟨by rw [← HA.out, firstP, if_neg (by rw [hp]; decide)]; simp⟩, ⟨HB2.out⟩⟩
set_option maxHeartbeats 1000000 in
theorem redu1_c (B gc : Nat) (t : RT) (c : Int) (w : World) (hr : GR w B t.1 t.2.1 t.2.2) (hl : t.2.2.length ≤ 1048576) (hc : w.heap[gc]? = some (.cells #[.int .i64 c] 3 (0, 0))) :
  Calls Try.prog 187 #[rv t, .pointer (some ⟨gc, 0, none⟩)] w fun e w' => e = .returned (.bool (leadI t.2.2 == c)) ∧ Below w.heap.size w w' := by
 have H := Aside0.mk (fun (W : World) (hb : Below w.heap.size w W) => impl_lead_c (some ⟨t.1, 0, none⟩) t.2.1 t.2.2 W (hr.trn (Trn.of_below (S := fun _ => False) hb) (fun h => h)).reads hl)
 have hcell : w.cell? ⟨gc, 0, none⟩ = some (.int .i64 c) := (blk_cell hc 0).trans rfl
 have HC := Aside0.mk hcell
 clear hr hl hc
 unfold rv
 go_enter Try.func187, Try.ntmps187
 go_wp2_with fail
 go_region_held3 (fun w' => w'.cell? ⟨gc, 0, none⟩ = some (.int .i64 c)) (first | go_keep | assumption | exact pw_cell_below hb2 (by assumption)) ((go_at_call 159; (refine (H.out _ ?hbel).mono ?_); (case hbel => repeat (first | (with_reducible first | exact Below.refl _ _ | apply below_alloc | apply pw_below_drewN | apply below_drew1) | exact Below.refl _ _)); rintro e w2 ⟨rfl, hb2⟩))
 all_goals (go_wp2)
 all_goals (go_ret)
 all_goals (refine ⟨rfl, ?_⟩)
 all_goals (exact below_step (w := w) (by repeat (first | (with_reducible first | exact Below.refl _ _ | apply below_alloc | apply pw_below_drewN | apply below_drew1) | exact Below.refl _ _)) hb2)
def stepI (c : Nat) (s : List (List Int) × List (List Int)) : List (List Int) × List (List Int) :=
 if s.1.findIdx (fun r => leadL r == c) < s.1.length then
  ((s.1.eraseIdx (s.1.findIdx (fun r => leadL r == c))).map (fun r => clearIf r (s.1.getD (s.1.findIdx (fun r => leadL r == c)) []) c),
   s.2.map (fun r => clearIf r (s.1.getD (s.1.findIdx (fun r => leadL r == c)) []) c) ++ [s.1.getD (s.1.findIdx (fun r => leadL r == c)) []])
 else s
def runI (X : List (List Int)) : Nat → List (List Int) × List (List Int)
 | 0 => (X.map tidyL, [])
 | c + 1 => stepI c (runI X c)
def redI (X : List (List Int)) (cols : Nat) : List (List Int) := (runI X cols).2
theorem CInv.stepC {X : List (List Int)} {N c : Nat} {s : List (List Int) × List (List Int)} (h : CInv X N c s.1 s.2) (hc : c < N) : CInv X N (c + 1) (stepI c s).1 (stepI c s).2 := by
 unfold stepI
 obtain ⟨k, hk⟩ : ∃ k, k = s.1.findIdx (fun r => leadL r == c) := ⟨_, rfl⟩
 rw [← hk]
 by_cases hl : k < s.1.length
 ·rw [if_pos hl]
  have hx : s.1.getD k [] = s.1[k] := by rw [List.getD_eq_getElem?_getD, List.getElem?_eq_getElem hl]; rfl
  rw [hx]
  have hp : (leadL s.1[k] == c) = true := by
   subst hk
   exact List.findIdx_getElem (w := hl)
  have hlead : leadL s.1[k] = c := by simpa using hp
  have hN := h.lenr _ (List.getElem_mem hl)
  refine h.pivot (x := s.1[k]) ?_ ?_
  ·have := leadL_at s.1[k] (by rw [hlead, hN]; exact hc)
   rwa [hlead] at this
  ·intro r
   rw [List.mem_eraseIdx_iff_getElem]
   constructor
   ·intro hr
    obtain ⟨j, hj, rfl⟩ := List.mem_iff_getElem.1 hr
    by_cases e : j = k
    ·left; subst e; rfl
    ·right; exact ⟨j, hj, e, rfl⟩
   ·rintro (rfl | ⟨j, hj, _, rfl⟩)
    ·exact List.getElem_mem _
    ·exact List.getElem_mem _
 ·rw [if_neg hl]
  refine h.skip fun r hr => ?_
  apply Classical.byContradiction
  intro hne
  obtain ⟨j, hj, rfl⟩ := List.mem_iff_getElem.1 hr
  have hlead : leadL s.1[j] = c := leadL_eq _ _ (by rw [h.lenr _ (List.getElem_mem hj)]; exact hc) (h.low _ (List.getElem_mem hj)) hne
  have h1 : j < k := by omega
  rw [hk] at h1
  have := List.not_of_lt_findIdx h1
  simp [hlead] at this
theorem runI_CInv (X : List (List Int)) (N : Nat) (hX : ∀ r ∈ X, r.length = N) : ∀ c, c ≤ N → CInv X N c (runI X c).1 (runI X c).2
 | 0, _ => CInv.init X N hX
 | c + 1, h => (runI_CInv X N hX c (by omega)).stepC (by omega)
theorem mul_bd {a b : Int} (ha : a.natAbs ≤ 322560000) (hb : b.natAbs ≤ 322560000) : (a * b).natAbs ≤ 104044953600000000 := by
 rw [Int.natAbs_mul]
 exact Nat.mul_le_mul ha hb
theorem runI_len (X : List (List Int)) : ∀ c, (runI X c).1.length + (runI X c).2.length = X.length
 | 0 => by simp [runI]
 | c + 1 => by
  have ih := runI_len X c
  show (stepI c (runI X c)).1.length + (stepI c (runI X c)).2.length = X.length
  unfold stepI
  by_cases hl : (runI X c).1.findIdx (fun r => leadL r == c) < (runI X c).1.length
  ·rw [if_pos hl]
   simp only [List.length_map, List.length_append, List.length_cons, List.length_nil, List.length_eraseIdx]
   rw [if_pos hl]
   omega
  ·rw [if_neg hl]
   exact ih
theorem tidy_id {x : List Int} (h : Tid (vec x) (vec x)) : tidyL x = x := by
 unfold tidyL
 by_cases hz : leadL x = x.length
 ·rw [if_pos hz]
 ·have hl : leadL x < x.length := Nat.lt_of_le_of_ne List.findIdx_le_length hz
  have hne := leadL_at x hl
  have hp : Prim (vec x) := by
   rcases h.prim with h0 | hp
   ·exact absurd (h0 _) hne
   ·exact hp
  have hg := gcdF_pos x hz
  have hd : gcdF 0 x ∣ 1 := hp _ _ fun j => by
   rw [Int.one_mul]
   rcases vec_mem x j with h3 | h3
   ·rw [h3]; exact Int.dvd_zero _
   ·exact (gcdF_dvd_all x 0).2 _ h3
  have hg1 : gcdF 0 x = 1 := by
   have := Int.le_of_dvd (by omega) hd
   omega
  have hpos := h.lead (leadL x) (fun j hj => leadL_low x j hj) hne
  have hs : sgnG x = 1 := by unfold sgnG; rw [if_neg (by omega), hg1]
  rw [if_neg hz, hs]
  exact List.map_id'' (fun x => Int.tdiv_one x) x
theorem firstP_find {α : Type} (p : α → Bool) : ∀ (l : List α) (n : Nat), firstP p l n = if l.findIdx p < l.length then ((n + l.findIdx p : Nat) : Int) else -1
 | [], n => by simp [firstP]
 | x :: l, n => by
  rw [firstP, List.findIdx_cons]
  cases hp : p x with
  | true => simp
  | false =>
   rw [if_neg (by simp), firstP_find p l (n + 1)]
   simp only [cond_false, List.length_cons]
   by_cases h : l.findIdx p < l.length
   ·rw [if_pos h, if_pos (by omega)]; omega
   ·rw [if_neg h, if_neg (by omega)]
/-- rows in memory, apart from each other -/
structure GZ (w : World) (B : Nat) (Z : List RT) : Prop where
 rows : ∀ t ∈ Z, GR w B t.1 t.2.1 t.2.2
 nd : (Z.map (·.1)).Nodup
theorem GZ.trn {S : Nat → Prop} {w w' : World} {B : Nat} {Z : List RT} (h : GZ w B Z) (k : Trn S w w') (hs : ∀ t ∈ Z, ¬ S t.1) : GZ w' B Z := ⟨fun t ht => (h.rows t ht).trn k (hs t ht), h.nd⟩
theorem GZ.below {w w' : World} {B : Nat} {Z : List RT} (h : GZ w B Z) (k : Below w.heap.size w w') : GZ w' B Z := h.trn (Trn.of_below (S := fun _ => False) k) (fun _ _ h => h)
theorem GZ.perm {w : World} {B : Nat} {Z Z' : List RT} (h : GZ w B Z) (hp : Z.Perm Z') : GZ w B Z' := ⟨fun t ht => h.rows t (hp.mem_iff.2 ht), ((hp.map (·.1)).nodup_iff).1 h.nd⟩
theorem GZ.apart {w : World} {B : Nat} {U V : List RT} {t : RT} (h : GZ w B (U ++ t :: V)) : ∀ s, s ∈ U ∨ s ∈ V → s.1 ≠ t.1 := by
 intro s hs e
 have hn := (((List.perm_middle (a := t) (l₁ := U) (l₂ := V)).map (·.1)).nodup_iff).1 h.nd
 rw [List.map_cons, List.nodup_cons] at hn
 refine hn.1 (List.mem_map.2 ⟨s, ?_, e⟩)
 rcases hs with hs | hs <;> simp [hs]
/-- one row is turned -/
theorem GZ.turn {w w' : World} {B : Nat} {U V : List RT} {t : RT} {r' : List Int} (h : GZ w B (U ++ t :: V)) (k : Trn (fun b => b = t.1) w w') (hr : GR w' B t.1 t.2.1 r') : GZ w' B (U ++ (t.1, t.2.1, r') :: V) := by
 refine ⟨fun s hs => ?_, ?_⟩
 ·rcases List.mem_append.1 hs with hs | hs
  ·exact (h.rows s (by simp [hs])).trn k (h.apart s (.inl hs))
  ·rcases List.mem_cons.1 hs with rfl | hs
   ·exact hr
   ·exact (h.rows s (by simp [hs])).trn k (h.apart s (.inr hs))
 ·have := h.nd
  simpa using this
theorem GL.congr {w : World} {B : Nat} {v : Value} {L L' : List RT} (h : GL w B v L) (e : L.map rv = L'.map rv) : GL w B v L' := by
 have hl : L.length = L'.length := by simpa using congrArg List.length e
 have ho := Kd.own_of_R h
 rw [show encs rv L = encs rv L' from e, hl] at ho
 exact Kd.R_of_own ho h.1
theorem GL.below {w w' : World} {B : Nat} {v : Value} {L : List RT} (h : GL w B v L) (k : Below w.heap.size w w') : GL w' B v L := h.trn (Trn.of_below (S := fun _ => False) k) (fun _ _ h => h)
theorem GL.turn {w w' : World} {B : Nat} {v : Value} {L : List RT} {b cap : Nat} {r : List Int} (h : GL w B v L) (k : Trn (fun i => i = b) w w') (hr : GR w B b cap r) : GL w' B v L := h.trn k (fun i hi e => h.ne hi hr e)
/-- the row as the two passes write it -/
def mixL (r p : List Int) (pc f : Int) (i : Nat) : List Int := (List.zipWith (fun x y => x * pc - y * f) (r.take i) (p.take i)) ++ r.drop i
theorem mixL_length (r p : List Int) (pc f : Int) (i : Nat) (h : r.length = p.length) : (mixL r p pc f i).length = r.length := by simp [mixL]; omega
theorem mixL_zero (r p : List Int) (pc f : Int) : mixL r p pc f 0 = r := by simp [mixL]
theorem mixL_all (r p : List Int) (c : Nat) (h : r.length = p.length) : tidyL (mixL r p (vec p c) (vec r c) r.length) = clearL r p c := by
 unfold clearL mixL
 rw [List.take_length, h, List.take_length, ← h, List.drop_length, List.append_nil]
theorem mixL_at (r p : List Int) (pc f : Int) (i : Nat) (h : r.length = p.length) : vec (mixL r p pc f i) i = vec r i := by
 unfold mixL vec
 rw [List.getD_eq_getElem?_getD, List.getD_eq_getElem?_getD]
 by_cases hi : i < r.length
 ·rw [List.getElem?_append_right (by simp; omega), List.getElem?_drop]
  congr 2
  simp; omega
 ·rw [List.getElem?_eq_none (by simp; omega), List.getElem?_eq_none (by omega)]
theorem mixL_succ (r p : List Int) (pc f : Int) (i : Nat) (h : r.length = p.length) (hi : i < r.length) : (mixL r p pc f i).set i (vec r i * pc - vec p i * f) = mixL r p pc f (i + 1) := by
 refine List.ext_getElem (by simp [mixL]; omega) fun j h1 h2 => ?_
 rw [List.getElem_set]
 have hr : vec r i = r[i] := vec_of_lt r i hi
 have hp : vec p i = p[i] := vec_of_lt p i (by omega)
 by_cases e : i = j
 ·subst e
  rw [if_pos rfl]
  simp only [mixL]
  rw [List.getElem_append_left (by simp; omega), List.getElem_zipWith, List.getElem_take, List.getElem_take, hr, hp]
 ·rw [if_neg e]
  simp only [mixL]
  by_cases hj : j < i
  ·rw [List.getElem_append_left (by simp; omega), List.getElem_append_left (by simp; omega)]
   simp
  ·rw [List.getElem_append_right (by simp; omega), List.getElem_append_right (by simp; omega)]
   simp only [List.length_zipWith, List.length_take, List.getElem_drop]
   congr 1
   omega
theorem mixL_bound {r p : List Int} {pc f : Int} {i : Nat} (hr : ∀ j, (vec r j).natAbs ≤ 322560000) (hp : ∀ j, (vec p j).natAbs ≤ 322560000) (h1 : pc.natAbs ≤ 322560000) (h2 : f.natAbs ≤ 322560000) : bound62 (mixL r p pc f i) := by
 intro x hx
 rcases List.mem_append.1 hx with hx | hx
 ·obtain ⟨j, hj, rfl⟩ := List.mem_iff_getElem.1 hx
  rw [List.getElem_zipWith, List.getElem_take, List.getElem_take]
  simp at hj
  have e1 := hr j
  have e2 := hp j
  rw [vec_of_lt r j (by omega)] at e1
  rw [vec_of_lt p j (by omega)] at e2
  have m1 := mul_bd e1 h1
  have m2 := mul_bd e2 h2
  omega
 ·have hx' := List.mem_of_mem_drop hx
  obtain ⟨j, hj, rfl⟩ := List.mem_iff_getElem.1 hx'
  have e1 := hr j
  rw [vec_of_lt r j hj] at e1
  omega
/-- a list of what exists at each place -/
theorem list_of {α : Type} {P : Nat → α → Prop} : ∀ (n : Nat), (∀ j, j < n → ∃ t, P j t) → ∃ L : List α, L.length = n ∧ ∀ j t, L[j]? = some t → P j t
 | 0, _ => ⟨[], rfl, fun j t h => by simp at h⟩
 | n + 1, h => by
  obtain ⟨L, hl, hp⟩ := list_of n (fun j hj => h j (by omega))
  obtain ⟨t, ht⟩ := h n (by omega)
  refine ⟨L ++ [t], by simp [hl], fun j s hj => ?_⟩
  by_cases e : j < n
  ·rw [List.getElem?_append_left (by omega)] at hj
   exact hp j s hj
  ·have hj2 := (List.getElem?_eq_some_iff.1 hj).1
   simp at hj2
   have e2 : j = n := by omega
   subst e2
   rw [List.getElem?_append_right (by omega), hl] at hj
   simp at hj
   rw [← hj]; exact ht
theorem rows_of_S {w : World} {B : Nat} {v : Value} {X : List (List Int)} (h : Kd.S (Kd.slice 3 (Kd.int .i64)) 25 w B (fun _ => True) v X) (hX : ∀ r ∈ X, 0 < r.length) : ∃ L : List RT, L.map (·.2.2) = X ∧ GL w B v L ∧ GZ w B L := by
 obtain ⟨f, h0, inner, ho, hr⟩ := h
 rw [List.length_zipIdx] at ho
 have hil : inner.length = X.length := by
  have h1 := ho.1
  rw [show (Kd.tag f (Kd.slice 3 (Kd.int .i64))).sz = 1 from rfl, Nat.mul_one] at h1
  exact h1
 have key : ∀ j, j < X.length → ∃ t : RT, X[j]? = some t.2.2 ∧ inner[j]? = some (rv t) ∧ GR w B t.1 t.2.1 t.2.2 ∧ f t.1 = j := by
  intro j hj
  obtain ⟨u, hu, hR⟩ := hr.2 j (X[j], j) (by rw [List.getElem?_zipIdx, List.getElem?_eq_getElem hj]; simp)
  obtain ⟨g, cap, hv, _⟩ := Kd.R_form hR (hX _ (List.getElem_mem hj))
  subst hv
  refine ⟨(g, cap, X[j]), List.getElem?_eq_getElem hj, ?_, ?_, ?_⟩
  ·have h1 : ((inner.drop (j * 1)).take 1) = [rv (g, cap, X[j])] := hu
   rw [Nat.mul_one] at h1
   have h2 : ((inner.drop j).take 1)[0]? = some (rv (g, cap, X[j])) := by rw [h1]; rfl
   rw [List.getElem?_take, if_pos (by omega), List.getElem?_drop] at h2
   simpa using h2
  ·refine Kd.R_mono (Kd.R_tight rfl hR) (fun k hk => ?_)
   have : g = k := by simpa [Value.ownBlock] using hk.symm
   exact this.symm
  ·exact (hR.1 g rfl).2
 obtain ⟨L, hL, hP⟩ := list_of X.length key
 have hX' : L.map (·.2.2) = X := by
  refine List.ext_getElem? fun j => ?_
  rw [List.getElem?_map]
  by_cases hj : j < L.length
  ·rw [List.getElem?_eq_getElem hj]
   exact (hP j L[j] (List.getElem?_eq_getElem hj)).1.symm
  ·rw [List.getElem?_eq_none (by omega), List.getElem?_eq_none (by omega)]; rfl
 have hin : inner = encs rv L := by
  refine List.ext_getElem? fun j => ?_
  unfold encs
  rw [List.getElem?_map]
  by_cases hj : j < L.length
  ·rw [List.getElem?_eq_getElem hj]
   exact (hP j L[j] (List.getElem?_eq_getElem hj)).2.1
  ·rw [List.getElem?_eq_none (by omega), List.getElem?_eq_none (by omega)]; rfl
 refine ⟨L, hX', ?_, ?_, ?_⟩
 ·rw [← hL, hin] at ho
  exact Kd.R_of_own ho (fun k hk => hk.symm)
 ·intro t ht
  obtain ⟨j, hj, rfl⟩ := List.mem_iff_getElem.1 ht
  exact (hP j _ (List.getElem?_eq_getElem hj)).2.2.1
 ·rw [List.Nodup, List.pairwise_map, List.pairwise_iff_getElem]
  intro i j hi hj hij e
  have e1 := (hP i _ (List.getElem?_eq_getElem hi)).2.2.2
  have e2 := (hP j _ (List.getElem?_eq_getElem hj)).2.2.2
  rw [e] at e1
  omega
theorem rows_R {w : World} {B : Nat} {v : Value} {L : List RT} (h : GL w B v L) (hz : ∀ t ∈ L, GR w B t.1 t.2.1 t.2.2) : Kd.R (Kd.slice 3 (Kd.int .i64)) 25 w B (fun _ => True) v (L.map (·.2.2)) := by
 refine ⟨fun _ _ => trivial, encs rv L, ?_, ?_, ?_⟩
 ·rw [List.length_map]; exact Kd.own_of_R h
 ·simp [encs, Kd.slice]
 ·intro j r hj
  rw [List.getElem?_map] at hj
  obtain ⟨t, ht, rfl⟩ := Option.map_eq_some_iff.1 hj
  have hg := hz t (List.mem_of_getElem? ht)
  refine ⟨rv t, ?_, ?_⟩
  ·have hl := (List.getElem?_eq_some_iff.1 ht).1
   show ((encs rv L).drop (j * 1)).take 1 = [rv t]
   rw [Nat.mul_one]
   refine List.ext_getElem? fun i => ?_
   rw [List.getElem?_take]
   by_cases hi : i < 1
   ·obtain rfl : i = 0 := by omega
    rw [if_pos hi, List.getElem?_drop]
    simp [encs, ht]
   ·rw [if_neg hi, List.getElem?_eq_none (by simp; omega)]
  ·exact Kd.R_mono hg (fun k hk => ⟨trivial, fun e => h.ne e hg hk⟩)
theorem idx_rows {N : Nat} (i : Nat) (hi : i < N) : ∀ (L : List RT), (∀ t ∈ L, t.2.2.length = N) → L.findIdx (fun t => leadI t.2.2 == (i : Int)) = (L.map (·.2.2)).findIdx (fun r => leadL r == i)
 | [], _ => rfl
 | t :: L, h => by
  have ih := idx_rows i hi L (fun s hs => h s (by simp [hs]))
  have ht := h t (by simp)
  have e : (leadI t.2.2 == (i : Int)) = (leadL t.2.2 == i) := by
   unfold leadI
   by_cases hl : leadL t.2.2 = t.2.2.length
   ·rw [if_pos hl]
    have h1 : (leadL t.2.2 == i) = false := by simp; omega
    rw [h1]
    simp
   ·rw [if_neg hl]
    by_cases h2 : leadL t.2.2 = i
    ·simp [h2]
    ·have h1 : (leadL t.2.2 == i) = false := by simpa using h2
     rw [h1]
     simp; omega
  rw [List.map_cons, List.findIdx_cons, List.findIdx_cons, e, ih]
theorem impl_tidy_n (B b cap n : Nat) (zs : List Int) (w : World) (hn : zs.length = n) (hr : GRn w B b cap n zs) (hl : n ≤ 1048576) (hb : bound62 zs) :
  Calls Try.prog 186 #[.slice (some ⟨b, 0, none⟩) n cap] w fun e w' => e = .returned (.tuple #[]) ∧ GRn w' B b cap n (tidyL zs) ∧ Trn (fun k => k = b) w w' := by
 subst hn
 have h := impl_tidy_c B b cap zs w hr hl hb
 unfold GR at h
 rw [tidyL_length] at h
 exact h
def clrT (p : List Int) (i : Nat) (t : RT) : RT := (t.1, t.2.1, clearIf t.2.2 p i)
theorem clrT_rv (p : List Int) (i : Nat) (L : List RT) (h : ∀ t ∈ L, t.2.2.length = p.length) : (L.map (clrT p i)).map rv = L.map rv := by
 rw [List.map_map]
 refine List.map_congr_left fun t ht => ?_
 simp [clrT, rv, clearIf_length _ _ _ (h t ht)]
theorem clrT_row (p : List Int) (i : Nat) (L : List RT) : (L.map (clrT p i)).map (·.2.2) = (L.map (·.2.2)).map (fun r => clearIf r p i) := by
 rw [List.map_map, List.map_map]; rfl
theorem GZ.cellp {w : World} {B : Nat} {Z : List RT} (h : GZ w B Z) {t : RT} (ht : t ∈ Z) (j : Nat) (hj : j < t.2.2.length) : w.cell? ⟨t.1, j, none⟩ = some (.int .i64 (vec t.2.2 j)) := (GRn.cell (h.rows t ht) rfl j hj).1
theorem erase_perm {α : Type} : ∀ (L : List α) (k : Nat) (p : α), L[k]? = some p → L.Perm (p :: L.eraseIdx k)
 | [], k, p, h => by simp at h
 | x :: L, 0, p, h => by
  obtain rfl : x = p := by simpa using h
  exact List.Perm.refl _
 | x :: L, k + 1, p, h => by
  have ih := erase_perm L k p (by simpa using h)
  exact (ih.cons x).trans (List.Perm.swap p x _)
theorem under159 : Try.prog.underlying 173 = some (.array 2 33) := by kernel_rfl
theorem ix0 (va vb : Value) (W : World) : (Instr.index 173 (.agg #[va, vb]) (.int .i64 0)).run Try.prog W = .ok va W := by
 simp [Instr.index, run_underlying under159, asIntOf, go_sem]
theorem ix1 (va vb : Value) (W : World) : (Instr.index 173 (.agg #[va, vb]) (.int .i64 1)).run Try.prog W = .ok vb W := by
 simp [Instr.index, run_underlying under159, asIntOf, go_sem]
theorem keep_set {w : World} {a b : Addr} {u v : Value} (h : w.cell? b = some v) (hne : a.block ≠ b.block) : (w.setCell a u).drew.cell? b = some v := by
 have h1 : (w.setCell a u).cell? b = w.cell? b := World.cell?_of_block (Below.heap_setCell w a u b.block (fun e => hne e.symm))
 exact h1.trans h
theorem erase_map {α β : Type} (f : α → β) : ∀ (L : List α) (k : Nat), (L.map f).eraseIdx k = (L.eraseIdx k).map f
 | [], _ => by simp
 | x :: L, 0 => by simp
 | x :: L, k + 1 => by simp [erase_map f L k]
theorem impl_copyRows_l0 : ∀ (suf pre : List (List Int)), (pre ++ suf).length ≤ 1048576 → (∀ r ∈ suf, r.length ≤ 1048576) →
  Ev (fun k => impl_copyRows.l0 k pre (pre ++ suf) ((pre ++ suf).length : Int) (pre.length : Int)) (pre ++ suf) := by
 intro suf
 induction suf with
 | nil =>
  intro pre hb hr
  refine Ev.step (fun k => by rw [impl_copyRows.l0]) ?_
  exact evNeg (by simp) (evEq (by simp) (Ev.now _))
 | cons x suf ih =>
  intro pre hb hr
  simp only [List.length_append, List.length_cons] at hb
  refine Ev.step (fun k => by rw [impl_copyRows.l0]) ?_
  refine evPos (by simp only [List.length_append, List.length_cons]; omega) (evPos (by omega) (evPos (by simp only [List.length_append, List.length_cons]; omega) ?_))
  rw [rd_L1, getD_mid, wsucc (by omega)]
  have hx := hr x (by simp)
  have hcl : slices_Clone_int_int_102.f x = some x := by
   unfold slices_Clone_int_int_102.f
   simp
   omega
  refine evSome hcl (evPos (by omega) ?_)
  have h := ih (pre ++ [x]) (by simp; omega) (fun r h => hr r (by simp [h]))
  refine evEq ?_ (Ev.congr (fun k => ?_) h)
  ·simp
  ·simp
theorem impl_copyRows_ev (l : List (List Int)) (hl : l.length ≤ 1048576) (hr : ∀ r ∈ l, r.length ≤ 1048576) : Ev (fun k => impl_copyRows.f k l) l := by
 unfold impl_copyRows.f
 have h := impl_copyRows_l0 l [] (by simpa using hl) hr
 simpa using h
theorem calls_at {P : Program} {f : Nat} {args : Array Value} {w : World} {Q : Ending → World → Prop} (R : World → Prop) (hR : R w) (h : ∀ w', R w' → Calls P f args w' Q) : Calls P f args w Q := h w hR
def tidyT (t : RT) : RT := (t.1, t.2.1, tidyL t.2.2)
theorem tidyT_rv (L : List RT) : (L.map tidyT).map rv = L.map rv := by
 rw [List.map_map]
 refine List.map_congr_left fun t _ => ?_
 simp [tidyT, rv, tidyL_length]
theorem tidyT_row (L : List RT) : (L.map tidyT).map (·.2.2) = (L.map (·.2.2)).map tidyL := by
 rw [List.map_map, List.map_map]; rfl
theorem bound_cell {r : List Int} {cb : Nat} (h : ∀ j, (vec r j).natAbs ≤ cellB cb j) : bound62 r := by
 intro x hx
 obtain ⟨j, hj, rfl⟩ := List.mem_iff_getElem.1 hx
 have h1 := h j
 rw [vec_of_lt r j hj] at h1
 unfold cellB at h1
 split at h1 <;> omega
set_option maxHeartbeats 4000000 in
set_option maxRecDepth 100000 in
theorem impl_reduceAny_c (A : Option Addr) (c : Nat) (X : List (List Int)) (N cols cb : Nat) (w : World) (hr : Kd.C (Kd.slice 3 (Kd.int .i64)) w A X.length X) (hc : X.length ≤ c) (hl : X.length ≤ 1048576) (hN : ∀ r ∈ X, r.length = N) (hN1 : 1 ≤ N) (hNc : N ≤ cb + 1) (h6 : cb ≤ 6)
  (hX : ∀ r ∈ X, ∀ j, (vec r j).natAbs ≤ cellB cb j) (hcols : cols ≤ N) :
  Calls Try.prog 158 #[.slice A X.length c, .int .i64 (cols : Int)] w fun e w' => ∃ v, e = .returned v ∧ Kd.R (Kd.slice 3 (Kd.int .i64)) 25 w' w.heap.size (fun _ => True) v (redI X cols) ∧ Below w.heap.size w w' := by
 obtain ⟨k, hk⟩ := (impl_copyRows_ev X hl (fun r hr => by have := hN r hr; omega)).rounds
 have HCP := Aside0.mk (impl_copyRows.calls k A c X X w hr hc hk)
 have HN := Aside0.mk hN
 have HX := Aside0.mk hX
 have HCI := Aside0.mk (runI_CInv X N hN)
 have HL := Aside0.mk hl
 have HCO := Aside0.mk hcols
 have HN1 := Aside0.mk hN1
 have HNC := Aside0.mk (And.intro hNc h6)
 clear hk hr hc hN hX hl hcols hN1 hNc h6
 go_enter Try.func158, Try.ntmps158
 go_wp2_with fail
 go_at_call 185; refine HCP.out.mono ?_; rintro e w1 ⟨v5, rfl, hS, hB1⟩
 obtain ⟨B, hB⟩ : ∃ B, B = w.heap.size := ⟨_, rfl⟩
 rw [← hB] at hS
 obtain ⟨L0, hL0, hGL, hGZ⟩ := rows_of_S hS (fun r hr => by have := HN.out r hr; have := HN1.out; omega)
 obtain ⟨A5, c5, hv5⟩ := Kd.R_slice hGL
 subst hv5
 have HB1 := Aside0.mk hB1
 have HBB := Aside0.mk hB
 have HL0 := Aside0.mk hL0
 have HGL := Aside0.mk hGL
 have HGZ := Aside0.mk hGZ
 have HLL := Aside0.mk (show L0.length = X.length by rw [← hL0]; simp)
 clear hS hB1 hB hL0 hGL hGZ HCP
 go_wp2_with fail
 go_loopg [22] L0.length (fun gg v22 wr => ∃ (pre suf : List RT), gg = suf.length ∧ Aside0 (L0 = pre ++ suf) ∧ v22 = .int .i64 (pre.length : Int) ∧ Aside0 (GZ wr B (pre.map tidyT ++ suf)) ∧ Aside0 (GL wr B (.slice A5 L0.length c5) L0) ∧ Aside0 (Below w.heap.size w wr))
 case atStart => exact ⟨[], L0, rfl, ⟨rfl⟩, rfl, ⟨by simpa using HGZ.out⟩, HGL, HB1⟩
 case round =>
  clear HGL HGZ HB1
  obtain ⟨pre, suf, hgg, HE, rfl, HZ, HV, HB⟩ := hrel
  cases suf with
  | cons t suf =>
   have hlt : (pre.length : Int) < (L0.length : Int) := by rw [HE.out]; simp; omega
   obtain ⟨ad, e, hc⟩ := kr_at (Kd.R_reads' HV.out).2.2 pre.length t (by rw [HE.out]; simp)
   cases e
   have htX : t.2.2 ∈ X := by rw [← HL0.out]; exact List.mem_map.2 ⟨t, by rw [HE.out]; simp, rfl⟩
   have HT := Aside0.mk (impl_tidy_c B t.1 t.2.1 t.2.2 wr (HZ.out.rows t (by simp)) (by have := HN.out _ htX; have := HNC.out; omega) (bound_cell (HX.out _ htX)))
   have HGT := Aside0.mk (HZ.out.rows t (by simp))
   have HLT := Aside0.mk hlt
   clear htX
   go_wp2_with fail
   go_at_call 186; refine HT.out.mono ?_; rintro e w2 ⟨rfl, hG2, hT2⟩
   have HZ2 := Aside0.mk (HZ.out.turn hT2 hG2)
   have HV2 := Aside0.mk (HV.out.turn hT2 HGT.out)
   have HB2 := Aside0.mk (Trn.below (S := fun k => k = t.1) (B := w.heap.size) (by intro k hk; rw [hk, ← HBB.out]; exact HGT.out.base) HB.out HB.out.size hT2)
   clear hG2 hT2 hlt hc
   go_wp2_with fail
   go_roundg suf.length
   case measure => rw [hgg]; simp
   case rel => exact ⟨pre ++ [t], suf, rfl, ⟨by rw [HE.out]; simp⟩, by rw [wsucc (by have := HL.out; have := HLL.out; have := HLT.out; omega)]; simp, ⟨by simpa [tidyT] using HZ2.out⟩, HV2, HB2⟩
  | nil =>
   have e0 : L0 = pre := by simpa using HE.out
   subst e0
   have hlt : ¬ (L0.length : Int) < (L0.length : Int) := by omega
   have HZ0 := Aside0.mk (show GZ wr B (L0.map tidyT ++ []) from by simpa using HZ.out)
   have HV0 := Aside0.mk (HV.out.congr (tidyT_rv L0).symm)
   clear HZ HV hlt HE
   go_wp2_with fail
   go_loopg [5, 8, 30] cols (fun gg v5 v8 v30 wc => ∃ (i : Nat) (L O : List RT), gg + i = cols ∧ v30 = .int .i64 (i : Int) ∧ Aside0 (L.map (·.2.2) = (runI X i).1 ∧ O.map (·.2.2) = (runI X i).2) ∧ Aside0 (GL wc B v5 L) ∧ Aside0 (GL wc B v8 O) ∧ Aside0 (GZ wc B (L ++ O)) ∧ Aside0 (∀ k, some k = v5.ownBlock → some k ≠ v8.ownBlock) ∧ Aside0 (Below w.heap.size w wc))
   case atStart => exact ⟨0, L0.map tidyT, [], rfl, rfl, ⟨by rw [tidyT_row, HL0.out]; exact ⟨rfl, rfl⟩⟩, by simpa using HV0, ⟨Kd.R_nil _ _ _ _ _⟩, HZ0, ⟨fun k _ h => by simp [Value.ownBlock] at h⟩, HB⟩
   case round =>
    clear HB HZ0 HV0
    obtain ⟨i, L, O, hgg2, rfl, HRUN, HGL, HGO, HZ, HNE, HB⟩ := hrel
    obtain ⟨Ar, cr, hvr⟩ := Kd.R_slice HGL.out
    subst hvr
    obtain ⟨Ao, co, hvo⟩ := Kd.R_slice HGO.out
    subst hvo
    by_cases hlt : i < cols
    ·have hlt2 : (i : Int) < (cols : Int) := by omega
     have HLT := Aside0.mk hlt
     clear hlt
     have CI := HCI.out i (by have := HLT.out; have := HCO.out; omega)
     have hlenL : ∀ t ∈ L, t.2.2.length = N := fun t ht => CI.lenr _ (by rw [← HRUN.out.1]; exact List.mem_map.2 ⟨t, ht, rfl⟩)
     have hlenO : ∀ t ∈ O, t.2.2.length = N := fun t ht => CI.leno _ (by rw [← HRUN.out.2]; exact List.mem_map.2 ⟨t, ht, rfl⟩)
     have hll : L.length + O.length = X.length := by
      have h := runI_len X i
      rw [← HRUN.out.1, ← HRUN.out.2, List.length_map, List.length_map] at h
      exact h
     have hiN : i < N := by have := HLT.out; have := HCO.out; omega
     have hN7 : N ≤ 7 := by have := HNC.out; omega
     have HCIi := Aside0.mk CI
     have HLENL := Aside0.mk hlenL
     have HLENO := Aside0.mk hlenO
     have HLEN2 := Aside0.mk hll
     have HIN := Aside0.mk (And.intro hiN hN7)
     clear CI hlenL hlenO hll hiN hN7
     go_wp2_with fail
     refine calls_at (fun W => Below wr.heap.size wr W ∧ W.heap[wr.heap.size]? = some (.cells #[.int .i64 (i : Int)] 3 (0, 0))) ⟨below_alloc (Below.refl _ _) _, blk_new _ _⟩ ?_
     rintro W1 ⟨hb1, hbox⟩
     obtain ⟨gc, hgc⟩ : ∃ gc, gc = wr.heap.size := ⟨_, rfl⟩
     rw [← hgc] at hbox ⊢
     have hL1 := HGL.out.below hb1
     have hO1 := HGO.out.below hb1
     have hZ1 := HZ.out.below hb1
     have hcall := idxf_rows (fun t => leadI t.2.2 == (i : Int)) #[.pointer (some ⟨gc, 0, none⟩)] Ar cr L W1 (Kd.R_reads' hL1).2.2 (by have := HLEN2.out; have := HL.out; omega)
      (fun x W hbW hx => redu1_c B gc x (i : Int) W ((hZ1.rows x (by simp [hx])).trn (Trn.of_below (S := fun _ => False) hbW) (fun h => h)) (by have := HLENL.out x hx; have := HIN.out; omega) (blk_below hbox hbW))
     rw [firstP_find, Nat.zero_add, idx_rows i HIN.out.1 L HLENL.out, HRUN.out.1] at hcall
     go_at_call 160; refine hcall.mono ?_; rintro e W2 ⟨rfl, hb2⟩
     have HL2 := Aside0.mk (hL1.below hb2)
     have HO2 := Aside0.mk (hO1.below hb2)
     have HZ2 := Aside0.mk (hZ1.below hb2)
     have HBX := Aside0.mk (blk_below hbox hb2)
     have HGC := Aside0.mk (show (∀ t ∈ L ++ O, t.1 ≠ gc) ∧ B ≤ gc from ⟨fun t ht e => by have := (HZ.out.rows t ht).lt; omega, by have := HB.out.size; have := HBB.out; omega⟩)
     have HB2 := Aside0.mk (below_step (below_step HB.out hb1) hb2)
     clear hL1 hO1 hZ1 hb1 hb2 hbox hgc hcall HGL HGO HZ HB
     by_cases hk : (runI X i).1.findIdx (fun r => leadL r == i) < L.length
     ·rw [if_pos hk]
      obtain ⟨k0, hk0⟩ : ∃ k0, k0 = (runI X i).1.findIdx (fun r => leadL r == i) := ⟨_, rfl⟩
      rw [← hk0] at hk ⊢
      obtain ⟨g, cap, e1, _, _, _⟩ := Kd.R_form HL2.out (by omega)
      injection e1 with e1 _ e3
      subst e1
      subst e3
      obtain ⟨⟨pb, pcp, pr⟩, hp⟩ : ∃ p, L[k0]? = some p := ⟨_, List.getElem?_eq_getElem hk⟩
      have hprN : pr.length = N := HLENL.out _ (List.mem_of_getElem? hp)
      have hcp := (Kd.R_celln ((0, 0, []) : RT) HL2.out (k0 : Int) (by omega) (by omega)).1
      rw [show rdOf ((0, 0, []) : RT) L (k0 : Int) = (pb, pcp, pr) by simp [rdOf, hp], Int.toNat_natCast] at hcp
      have hcp2 : W2.cell? ⟨g, k0, none⟩ = some (.slice (some ⟨pb, 0, none⟩) N pcp) := by rw [← hprN]; exact hcp
      have hdel := slices_Delete_c B g L.length cr k0 L W2 HL2.out rfl hk (by have := HLEN2.out; have := HL.out; omega)
      have hk7 : k0 < 1048577 := by have := HLEN2.out; have := HL.out; omega
      have HK0 := Aside0.mk hk0
      have HDEL := Aside0.mk hdel
      have HPP := Aside0.mk hp
      have HPN := Aside0.mk hprN
      have HK := Aside0.mk hk
      have hk2 : ¬ (k0 : Int) < 0 := by omega
      have hk3 : (k0 : Int) < (L.length : Int) := by omega
      clear hk hk0 hdel hp hcp hprN
      go_wp2_with fail
      go_at_call 188; refine HDEL.out.mono ?_; rintro e W3 ⟨rfl, hG3, hT3⟩
      have hgne : ∀ t ∈ L ++ O, t.1 ≠ g := fun t ht e => HL2.out.ne (k := g) rfl (HZ2.out.rows t ht) e.symm
      have HZ3 := Aside0.mk ((HZ2.out.trn hT3 hgne).perm ((erase_perm L k0 _ HPP.out).append_right O))
      have HO3 := Aside0.mk (HO2.out.trn hT3 (fun k hk e => HNE.out g rfl (e ▸ hk)))
      have HBX3 := Aside0.mk ((hT3.block gc (blk_lt HBX.out) (fun e => by obtain ⟨cs, hcs⟩ := HL2.out.typed (k := g) rfl; exact blk_ne HBX.out hcs (by decide) e)).trans HBX.out)
      have HB3 := Aside0.mk (Trn.below (S := fun k => k = g) (B := w.heap.size) (by intro k hk; rw [hk, ← HBB.out]; exact HL2.out.base (k := g) rfl) HB2.out HB2.out.size hT3)
      obtain ⟨Ag, hAg⟩ : ∃ Ag : Option Addr, Ag = some ⟨g, 0, none⟩ := ⟨_, rfl⟩
      obtain ⟨nn, hnn⟩ : ∃ nn, nn = L.length - 1 := ⟨_, rfl⟩
      obtain ⟨L', hL'⟩ : ∃ L', L' = L.eraseIdx k0 := ⟨_, rfl⟩
      rw [← hAg, ← hnn, ← hL'] at hG3
      rw [← hL'] at HZ3
      have HG3 := Aside0.mk hG3
      have HNN := Aside0.mk (show L'.length = nn ∧ nn ≤ 1048576 ∧ O.length ≤ 1048576 by rw [hL', List.length_eraseIdx, if_pos HK.out, hnn]; have := HLEN2.out; have := HL.out; omega)
      have HLA := Aside0.mk (show ∀ t : RT, t ∈ L' ∨ t ∈ O → t.2.2.length = N by
       rintro t (ht | ht)
       ·rw [hL'] at ht; exact HLENL.out t (List.mem_of_mem_eraseIdx ht)
       ·exact HLENO.out t ht)
      have HGA := Aside0.mk hAg
      have HLP := Aside0.mk hL'
      have HNNE := Aside0.mk (show ∀ k, some k = (Value.slice Ag nn cr).ownBlock → some k ≠ (Value.slice Ao O.length co).ownBlock by rw [hAg]; exact HNE.out)
      rw [← hAg, ← hnn]
      clear hG3 hT3 hgne hAg hnn hL' HZ2 HO2 HBX HB2 HL2 HNE HDEL hcp2 hk2 hk3
      go_wp2_with fail
      go_loopg [50] 2 (fun gg v50 wd => ∃ Z : List RT, ((v50 = .int .i64 0 ∧ gg = 2 ∧ Z = (pb, pcp, pr) :: (L' ++ O)) ∨ (v50 = .int .i64 1 ∧ gg = 1 ∧ Z = (pb, pcp, pr) :: (L'.map (clrT pr i) ++ O)) ∨ (v50 = .int .i64 2 ∧ gg = 0 ∧ Z = (pb, pcp, pr) :: (L'.map (clrT pr i) ++ O.map (clrT pr i)))) ∧ Aside0 (GZ wd B Z) ∧ Aside0 (GL wd B (.slice Ag nn cr) L') ∧ Aside0 (GL wd B (.slice Ao O.length co) O) ∧ Aside0 (wd.heap[gc]? = some (.cells #[.int .i64 (i : Int)] 3 (0, 0))) ∧ Aside0 (Below w.heap.size w wd))
      case atStart => exact ⟨_, .inl ⟨rfl, rfl, rfl⟩, HZ3, HG3, HO3, HBX3, HB3⟩
      case round =>
       clear HZ3 HG3 HO3 HBX3 HB3
       obtain ⟨Z, hcase, HZC, HVR, HVO, HBX, HB⟩ := hrel
       rcases hcase with ⟨rfl, hgg3, rfl⟩ | ⟨rfl, hgg3, rfl⟩ | ⟨rfl, hgg3, rfl⟩
       ·have hix : ∀ W, (Instr.index 173 (.agg #[.slice Ag nn cr, .slice Ao O.length co]) (.int .i64 0)).run Try.prog W = .ok (.slice Ag nn cr) W := fun W => ix0 _ _ W
        go_wp2_with fail
        go_loopg [55] nn (fun gg v55 we => ∃ (pre suf : List RT), gg = suf.length ∧ Aside0 (L' = pre ++ suf) ∧ v55 = .int .i64 (pre.length : Int) ∧ Aside0 (GZ we B ([(pb, pcp, pr)] ++ (pre.map (clrT pr i) ++ suf) ++ O)) ∧ Aside0 (GL we B (.slice Ag nn cr) L') ∧ Aside0 (GL we B (.slice Ao O.length co) O) ∧ Aside0 (we.heap[gc]? = some (.cells #[.int .i64 (i : Int)] 3 (0, 0))) ∧ Aside0 (Below w.heap.size w we))
        case atStart => exact ⟨[], L', by first | rfl | simp [HNN.out], ⟨rfl⟩, rfl, ⟨by simpa using HZC.out⟩, HVR, HVO, HBX, HB⟩
        case round =>
         clear HZC HVR HVO HBX HB
         obtain ⟨pre, suf, hgg4, HE4, rfl, HZD, HVR, HVO, HBX, HB⟩ := hrel
         cases suf with
         | nil =>
          have e0 : L' = pre := by simpa using HE4.out
          have hlt5 : ¬ (pre.length : Int) < (nn : Int) := by rw [← e0]; have := HNN.out; omega
          have HZE := Aside0.mk (show GZ wr B ([(pb, pcp, pr)] ++ L'.map (clrT pr i) ++ O) by rw [e0]; simpa using HZD.out)
          clear e0
          go_wp2_with fail
          go_roundg 1
          case measure => omega
          case rel => exact ⟨_, .inr (.inl ⟨rfl, rfl, rfl⟩), ⟨by simpa using HZE.out⟩, HVR, HVO, HBX, HB⟩
         | cons t suf =>
          obtain ⟨b, cp, r⟩ := t
          have hlt5 : (pre.length : Int) < (nn : Int) := by
           have h1 := congrArg List.length HE4.out
           rw [List.length_append, List.length_cons] at h1
           have := HNN.out
           omega
          have hmem : (b, cp, r) ∈ L' := by rw [HE4.out]; simp
          have hrN : r.length = N := HLA.out (b, cp, r) (by first | exact .inl hmem | exact .inr hmem)
          obtain ⟨ad, e, hc⟩ := kr_at (Kd.R_reads' HVR.out).2.2 pre.length (b, cp, r) (by rw [HE4.out]; simp)
          have hc2 : wr.cell? (ad.add pre.length) = some (.slice (some ⟨b, 0, none⟩) N cp) := by rw [← hrN]; exact hc
          cases e
          have hzm : (b, cp, r) ∈ [(pb, pcp, pr)] ++ (pre.map (clrT pr i) ++ (b, cp, r) :: suf) ++ O := by simp
          have hf := HZD.out.cellp hzm i (by show i < r.length; have := HIN.out; omega)
          have hbx := blk_cell HBX.out 0
          have hbx2 : wr.cell? ⟨gc, 0, none⟩ = some (.int .i64 (i : Int)) := hbx.trans rfl
          have hiN2 : (i : Int) < (N : Int) := by have := HIN.out; omega
          have hi0 : (0 : Int) ≤ (i : Int) := by omega
          obtain ⟨f, hfd⟩ : ∃ f, f = vec r i := ⟨_, rfl⟩
          rw [← hfd] at hf
          have HFD := Aside0.mk hfd
          have HRN := Aside0.mk hrN
          have HMEM := Aside0.mk hmem
          have HLT5 := Aside0.mk hlt5
          clear hc hzm hbx hfd hrN hmem
          by_cases hf0 : f = 0
          ·have hfe : (f == 0) = true := by simpa using hf0
           have HCT := Aside0.mk (show clrT pr i (b, cp, r) = (b, cp, r) by unfold clrT clearIf; simp only; rw [← HFD.out, if_pos hf0])
           clear hf0
           go_wp2_with fail
           go_roundg suf.length
           case measure => first | (rw [hgg4]; simp; done) | simp
           case rel => exact ⟨pre ++ [(b, cp, r)], suf, rfl, ⟨by rw [HE4.out]; simp⟩, by rw [wsucc (by have := HLT5.out; have := HNN.out; omega)]; simp, ⟨by rw [List.map_append, List.map_cons, List.map_nil, HCT.out]; simpa using HZD.out⟩, HVR, HVO, HBX, HB⟩
          ·have hfe : (f == 0) = false := by simpa using hf0
           have HAP := Aside0.mk (show pb ≠ b from (show GZ wr B (([(pb, pcp, pr)] ++ pre.map (clrT pr i)) ++ (b, cp, r) :: (suf ++ O)) from by simpa using HZD.out).apart (pb, pcp, pr) (.inl (by simp)))
           have HGB := Aside0.mk (show b ≠ gc from HGC.out.1 (b, cp, r) (by rw [HLP.out] at HMEM; have h_ := List.mem_of_mem_eraseIdx HMEM.out; simp [h_]))
           have HRB := Aside0.mk (show ∀ j, (vec r j).natAbs ≤ 322560000 from fun j => HCIi.out.rem_le HNC.out.1 HNC.out.2 HX.out (by have := HIN.out; have := HNC.out; omega) r (by rw [← HRUN.out.1]; have h_ := HMEM.out; rw [HLP.out] at h_; exact List.mem_map.2 ⟨_, List.mem_of_mem_eraseIdx h_, rfl⟩) j)
           have HPB := Aside0.mk (show ∀ j, (vec pr j).natAbs ≤ 322560000 from fun j => HCIi.out.rem_le HNC.out.1 HNC.out.2 HX.out (by have := HIN.out; have := HNC.out; omega) pr (by rw [← HRUN.out.1]; exact List.mem_map.2 ⟨_, List.mem_of_getElem? HPP.out, rfl⟩) j)
           have HPC := Aside0.mk (show ∀ j, j < N → wr.cell? ⟨pb, j, none⟩ = some (.int .i64 (vec pr j)) from fun j hj => HZD.out.cellp (t := (pb, pcp, pr)) (by simp) j (by show j < pr.length; rw [HPN.out]; exact hj))
           have HGR := Aside0.mk (show GRn wr B b cp N r by rw [← HRN.out]; exact HZD.out.rows (b, cp, r) (by simp))
           have HF0 := Aside0.mk hf0
           obtain ⟨pc, hpc⟩ : ∃ pc, pc = vec pr i := ⟨_, rfl⟩
           have HPCD := Aside0.mk hpc
           have HMX := Aside0.mk (show ∀ m, (mixL r pr pc f m).length = N from fun m => by rw [mixL_length _ _ _ _ _ (by rw [HRN.out, HPN.out]), HRN.out])
           clear hf0 hpc
           go_wp2_with fail
           go_loopg [67] N (fun gg v67 wf => ∃ m : Nat, gg + m = N ∧ v67 = .int .i64 (m : Int) ∧ Aside0 (GRn wf B b cp N (mixL r pr pc f m)) ∧ Aside0 (Trn (fun k => k = b) wr wf))
           case atStart => exact ⟨0, rfl, rfl, ⟨by rw [mixL_zero]; exact HGR.out⟩, ⟨Trn.refl _ _⟩⟩
           case round =>
            obtain ⟨m, hgg5, rfl, HRR, HTR⟩ := hrel
            by_cases hm : m < N
            ·have hm2 : (m : Int) < (N : Int) := by omega
             have hA := HRR.out.cell (HMX.out m) m hm
             rw [mixL_at _ _ _ _ _ (by rw [HRN.out, HPN.out])] at hA
             obtain ⟨x, hx⟩ : ∃ x, x = vec r m := ⟨_, rfl⟩
             obtain ⟨y, hy⟩ : ∃ y, y = vec pr m := ⟨_, rfl⟩
             rw [← hx] at hA
             have hA1 := hA.1
             have hA2 := hA.2
             have hB1 : wr.cell? ⟨gc, 0, none⟩ = some (.int .i64 (i : Int)) := (blk_cell ((HTR.out.block gc (blk_lt HBX.out) (fun e => HGB.out e.symm)).trans HBX.out) 0).trans rfl
             have hkeep : ∀ j, j < N → wr.cell? ⟨pb, j, none⟩ = some (.int .i64 (vec pr j)) := fun j hj => by
              have h1 := HPC.out j hj
              exact (World.cell?_of_block (HTR.out.block pb (World.block_lt_of_cell? _ _ h1) (fun e => HAP.out e))).trans h1
             have hC1 := hkeep i HIN.out.1
             have hD1 := hkeep m hm
             rw [← HPCD.out] at hC1
             rw [← hy] at hD1
             have hne1 : gc ≠ b := fun e => HGB.out e.symm
             have hne2 : pb ≠ b := HAP.out
             have HXX := Aside0.mk hx
             have HYY := Aside0.mk hy
             have HM := Aside0.mk hm
             clear hx hy hA hkeep hm
             go_wp2_with fail
             refine start_ (n := 20) (S := fun w' => w'.cell? ⟨b, m, none⟩ = some (.int .i64 x) ∧ w'.cell? ⟨gc, 0, none⟩ = some (.int .i64 (i : Int)) ∧ w'.cell? ⟨pb, i, none⟩ = some (.int .i64 pc) ∧ w'.cell? ⟨pb, m, none⟩ = some (.int .i64 y)) (ds := [19]) #[false, false, false, false, false, false, false, false, false, false, false, false, false, false, false, false, false, false, false, false] (by kernel_rfl) rfl rfl ⟨hA1, hB1, hC1, hD1⟩ (fun hHeld => ?_)
             refine take_ (i := 0) (N := some 70) (v := ?_) (a' := ?_) #[true, false, false, false, false, false, false, false, false, false, false, false, false, false, false, false, false, false, false, false] rfl rfl (by kernel_rfl) (fun _ _ _ h => h) (Or.inl ⟨by rfl, ?_⟩) hHeld ?_ ?_
             rotate_left
             ·rintro w' ⟨s0, s1, s2, s3⟩
              go_simp
              with_reducible rfl
             rotate_left
             ·simp only [Act.put, List.setIfInBounds_toArray, List.set_cons_zero, List.set_cons_succ]
              rfl
             refine take_ (i := 1) (N := some 71) (v := ?_) (a' := ?_) #[true, true, false, false, false, false, false, false, false, false, false, false, false, false, false, false, false, false, false, false] rfl rfl (by kernel_rfl) (fun _ _ _ h => h) (Or.inl ⟨by rfl, ?_⟩) hHeld ?_ ?_
             rotate_left
             ·rintro w' ⟨s0, s1, s2, s3⟩
              go_simp
              with_reducible rfl
             rotate_left
             ·simp only [Act.put, List.setIfInBounds_toArray, List.set_cons_zero, List.set_cons_succ]
              rfl
             refine take_ (i := 2) (N := some 72) (v := ?_) (a' := ?_) #[true, true, true, false, false, false, false, false, false, false, false, false, false, false, false, false, false, false, false, false] rfl rfl (by kernel_rfl) (fun _ _ _ h => h) (Or.inl ⟨by rfl, ?_⟩) hHeld ?_ ?_
             rotate_left
             ·rintro w' ⟨s0, s1, s2, s3⟩
              go_simp
              with_reducible rfl
             rotate_left
             ·simp only [Act.put, List.setIfInBounds_toArray, List.set_cons_zero, List.set_cons_succ]
              rfl
             refine take_ (i := 3) (N := some 73) (v := ?_) (a' := ?_) #[true, true, true, true, false, false, false, false, false, false, false, false, false, false, false, false, false, false, false, false] rfl rfl (by kernel_rfl) (fun _ _ _ h => h) (Or.inl ⟨by rfl, ?_⟩) hHeld ?_ ?_
             rotate_left
             ·rintro w' ⟨s0, s1, s2, s3⟩
              go_simp
              with_reducible rfl
             rotate_left
             ·simp only [Act.put, List.setIfInBounds_toArray, List.set_cons_zero, List.set_cons_succ]
              rfl
             refine take_ (i := 4) (N := some 74) (v := ?_) (a' := ?_) #[true, true, true, true, true, false, false, false, false, false, false, false, false, false, false, false, false, false, false, false] rfl rfl (by kernel_rfl) (fun _ _ _ h => h) (Or.inl ⟨by rfl, ?_⟩) hHeld ?_ ?_
             rotate_left
             ·rintro w' ⟨s0, s1, s2, s3⟩
              go_simp
              with_reducible rfl
             rotate_left
             ·simp only [Act.put, List.setIfInBounds_toArray, List.set_cons_zero, List.set_cons_succ]
              rfl
             refine take_ (i := 5) (N := some 75) (v := ?_) (a' := ?_) #[true, true, true, true, true, true, false, false, false, false, false, false, false, false, false, false, false, false, false, false] rfl rfl (by kernel_rfl) (fun _ _ _ h => h) (Or.inl ⟨by rfl, ?_⟩) hHeld ?_ ?_
             rotate_left
             ·rintro w' ⟨s0, s1, s2, s3⟩
              go_simp
              with_reducible rfl
             rotate_left
             ·simp only [Act.put, List.setIfInBounds_toArray, List.set_cons_zero, List.set_cons_succ]
              rfl
             refine take_ (i := 6) (N := some 76) (v := ?_) (a' := ?_) #[true, true, true, true, true, true, true, false, false, false, false, false, false, false, false, false, false, false, false, false] rfl rfl (by kernel_rfl) (fun _ _ _ h => h) (Or.inl ⟨by rfl, ?_⟩) hHeld ?_ ?_
             rotate_left
             ·rintro w' ⟨s0, s1, s2, s3⟩
              go_simp
              with_reducible rfl
             rotate_left
             ·simp only [Act.put, List.setIfInBounds_toArray, List.set_cons_zero, List.set_cons_succ]
              rfl
             refine take_ (i := 7) (N := some 77) (v := ?_) (a' := ?_) #[true, true, true, true, true, true, true, true, false, false, false, false, false, false, false, false, false, false, false, false] rfl rfl (by kernel_rfl) (fun _ _ _ h => h) (Or.inl ⟨by rfl, ?_⟩) hHeld ?_ ?_
             rotate_left
             ·rintro w' ⟨s0, s1, s2, s3⟩
              go_simp
              with_reducible rfl
             rotate_left
             ·simp only [Act.put, List.setIfInBounds_toArray, List.set_cons_zero, List.set_cons_succ]
              rfl
             refine take_ (i := 8) (N := some 78) (v := ?_) (a' := ?_) #[true, true, true, true, true, true, true, true, true, false, false, false, false, false, false, false, false, false, false, false] rfl rfl (by kernel_rfl) (fun _ _ _ h => h) (Or.inl ⟨by rfl, ?_⟩) hHeld ?_ ?_
             rotate_left
             ·rintro w' ⟨s0, s1, s2, s3⟩
              go_simp
              with_reducible rfl
             rotate_left
             ·simp only [Act.put, List.setIfInBounds_toArray, List.set_cons_zero, List.set_cons_succ]
              rfl
             refine take_ (i := 9) (N := some 79) (v := ?_) (a' := ?_) #[true, true, true, true, true, true, true, true, true, true, false, false, false, false, false, false, false, false, false, false] rfl rfl (by kernel_rfl) (fun _ _ _ h => h) (Or.inl ⟨by rfl, ?_⟩) hHeld ?_ ?_
             rotate_left
             ·rintro w' ⟨s0, s1, s2, s3⟩
              go_simp
              with_reducible rfl
             rotate_left
             ·simp only [Act.put, List.setIfInBounds_toArray, List.set_cons_zero, List.set_cons_succ]
              rfl
             refine take_ (i := 10) (N := some 80) (v := ?_) (a' := ?_) #[true, true, true, true, true, true, true, true, true, true, true, false, false, false, false, false, false, false, false, false] rfl rfl (by kernel_rfl) (fun _ _ _ h => h) (Or.inl ⟨by rfl, ?_⟩) hHeld ?_ ?_
             rotate_left
             ·rintro w' ⟨s0, s1, s2, s3⟩
              go_simp
              with_reducible rfl
             rotate_left
             ·simp only [Act.put, List.setIfInBounds_toArray, List.set_cons_zero, List.set_cons_succ]
              rfl
             refine take_ (i := 11) (N := some 81) (v := ?_) (a' := ?_) #[true, true, true, true, true, true, true, true, true, true, true, true, false, false, false, false, false, false, false, false] rfl rfl (by kernel_rfl) (fun _ _ _ h => h) (Or.inl ⟨by rfl, ?_⟩) hHeld ?_ ?_
             rotate_left
             ·rintro w' ⟨s0, s1, s2, s3⟩
              go_simp
              with_reducible rfl
             rotate_left
             ·simp only [Act.put, List.setIfInBounds_toArray, List.set_cons_zero, List.set_cons_succ]
              rfl
             refine take_ (i := 12) (N := some 82) (v := ?_) (a' := ?_) #[true, true, true, true, true, true, true, true, true, true, true, true, true, false, false, false, false, false, false, false] rfl rfl (by kernel_rfl) (fun _ _ _ h => h) (Or.inl ⟨by rfl, ?_⟩) hHeld ?_ ?_
             rotate_left
             ·rintro w' ⟨s0, s1, s2, s3⟩
              go_simp
              with_reducible rfl
             rotate_left
             ·simp only [Act.put, List.setIfInBounds_toArray, List.set_cons_zero, List.set_cons_succ]
              rfl
             refine take_ (i := 13) (N := some 83) (v := ?_) (a' := ?_) #[true, true, true, true, true, true, true, true, true, true, true, true, true, true, false, false, false, false, false, false] rfl rfl (by kernel_rfl) (fun _ _ _ h => h) (Or.inl ⟨by rfl, ?_⟩) hHeld ?_ ?_
             rotate_left
             ·rintro w' ⟨s0, s1, s2, s3⟩
              go_simp
              with_reducible rfl
             rotate_left
             ·simp only [Act.put, List.setIfInBounds_toArray, List.set_cons_zero, List.set_cons_succ]
              rfl
             refine take_ (i := 14) (N := some 84) (v := ?_) (a' := ?_) #[true, true, true, true, true, true, true, true, true, true, true, true, true, true, true, false, false, false, false, false] rfl rfl (by kernel_rfl) (fun _ _ _ h => h) (Or.inl ⟨by rfl, ?_⟩) hHeld ?_ ?_
             rotate_left
             ·rintro w' ⟨s0, s1, s2, s3⟩
              go_simp
              with_reducible rfl
             rotate_left
             ·simp only [Act.put, List.setIfInBounds_toArray, List.set_cons_zero, List.set_cons_succ]
              rfl
             refine take_ (i := 15) (N := some 85) (v := ?_) (a' := ?_) #[true, true, true, true, true, true, true, true, true, true, true, true, true, true, true, true, false, false, false, false] rfl rfl (by kernel_rfl) (fun _ _ _ h => h) (Or.inl ⟨by rfl, ?_⟩) hHeld ?_ ?_
             rotate_left
             ·rintro w' ⟨s0, s1, s2, s3⟩
              go_simp
              with_reducible rfl
             rotate_left
             ·simp only [Act.put, List.setIfInBounds_toArray, List.set_cons_zero, List.set_cons_succ]
              rfl
             refine take_ (i := 16) (N := some 86) (v := ?_) (a' := ?_) #[true, true, true, true, true, true, true, true, true, true, true, true, true, true, true, true, true, false, false, false] rfl rfl (by kernel_rfl) (fun _ _ _ h => h) (Or.inl ⟨by rfl, ?_⟩) hHeld ?_ ?_
             rotate_left
             ·rintro w' ⟨s0, s1, s2, s3⟩
              go_simp
              with_reducible rfl
             rotate_left
             ·simp only [Act.put, List.setIfInBounds_toArray, List.set_cons_zero, List.set_cons_succ]
              rfl
             refine take_ (i := 17) (N := some 87) (v := ?_) (a' := ?_) #[true, true, true, true, true, true, true, true, true, true, true, true, true, true, true, true, true, true, false, false] rfl rfl (by kernel_rfl) (fun _ _ _ h => h) (Or.inl ⟨by rfl, ?_⟩) hHeld ?_ ?_
             rotate_left
             ·rintro w' ⟨s0, s1, s2, s3⟩
              go_simp
              with_reducible rfl
             rotate_left
             ·simp only [Act.put, List.setIfInBounds_toArray, List.set_cons_zero, List.set_cons_succ]
              rfl
             refine take_ (i := 18) (N := some 88) (v := ?_) (a' := ?_) #[true, true, true, true, true, true, true, true, true, true, true, true, true, true, true, true, true, true, true, false] rfl rfl (by kernel_rfl) (fun _ _ _ h => h) (Or.inl ⟨by rfl, ?_⟩) hHeld ?_ ?_
             rotate_left
             ·rintro w' ⟨s0, s1, s2, s3⟩
              go_simp
              with_reducible rfl
             rotate_left
             ·simp only [Act.put, List.setIfInBounds_toArray, List.set_cons_zero, List.set_cons_succ]
              rfl
             refine last_ (i := 19) (N := none) #[true, true, true, true, true, true, true, true, true, true, true, true, true, true, true, true, true, true, true, true] rfl rfl (by kernel_rfl) (by decide) (fun K hK => ?_)
             refine skip_ (w1 := ?_) (by rfl) rfl ?_ ?_
             rotate_left
             ·go_simp
              rfl
             refine hK.out _ _ ?_
             clear hK K
             refine done_ (by kernel_rfl) ?_
             have hw : IntKind.i64.wrap (IntKind.i64.wrap (x * pc) - IntKind.i64.wrap (y * f)) = x * pc - y * f := by
              have m1 := mul_bd (a := x) (b := pc) (by rw [HXX.out]; exact HRB.out m) (by rw [HPCD.out]; exact HPB.out i)
              have m2 := mul_bd (a := y) (b := f) (by rw [HYY.out]; exact HPB.out m) (by rw [HFD.out]; exact HRB.out i)
              rw [IntKind.wrap_i64, IntKind.wrap_i64, IntKind.wrap_i64]
              omega
             rw [hw]
             have HG5 := Aside0.mk (HRR.out.put (HMX.out m) m (x * pc - y * f))
             have HT5 := Aside0.mk (HTR.out.setCell ⟨b, m, none⟩ (.int .i64 (x * pc - y * f)) rfl)
             clear hw hA1 hA2 hB1 hC1 hD1 hne1 hne2
             go_wp2_with fail
             go_roundg (N - (m + 1))
             case measure => have := HM.out; omega
             case rel =>
              refine ⟨m + 1, by have := HM.out; omega, by rw [wsucc (by have := HM.out; have := HIN.out; omega)], ⟨?_⟩, ⟨HT5.out.then_below (by repeat (first | (with_reducible first | exact Below.refl _ _ | apply below_alloc | apply pw_below_drewN | apply below_drew1) | exact Below.refl _ _))⟩⟩
              have h_ := HG5.out
              rw [HXX.out, HYY.out, mixL_succ _ _ _ _ _ (by rw [HRN.out, HPN.out]) (by rw [HRN.out]; exact HM.out)] at h_
              rw [HXX.out, HYY.out]
              (with_reducible repeat (first | apply Kd.R_alloc | apply Kd.R_drewN | apply Kd.R_drew))
              exact h_
            ·have hmN : m = N := by omega
             subst hmN
             have hm3 : ¬ (m : Int) < (m : Int) := by omega
             have HT := Aside0.mk (impl_tidy_n B b cp m (mixL r pr pc f m) wr (HMX.out m) HRR.out (by have := HIN.out; omega) (mixL_bound HRB.out HPB.out (by rw [HPCD.out]; exact HPB.out i) (by rw [HFD.out]; exact HRB.out i)))
             have hcl : tidyL (mixL r pr pc f m) = clearL r pr i := by
              have h_ := mixL_all r pr i (by rw [HRN.out, HPN.out])
              rwa [HRN.out, ← HPCD.out, ← HFD.out] at h_
             rw [hcl] at HT
             have hci : clearL r pr i = clearIf r pr i := by unfold clearIf; rw [if_neg (by rw [← HFD.out]; exact HF0.out)]
             rw [hci] at HT
             clear hcl hci hm
             go_wp2_with fail
             go_at_call 186; refine HT.out.mono ?_; rintro e w4 ⟨rfl, hG4, hT4⟩
             have HTT := Aside0.mk (HTR.out.trans hT4)
             have hG4' : GR w4 B b cp (clearIf r pr i) := by
              unfold GR
              rw [clearIf_length _ _ _ (by rw [HRN.out, HPN.out]), HRN.out]
              exact hG4
             have HZ5 := Aside0.mk ((show GZ _ B (([(pb, pcp, pr)] ++ pre.map (clrT pr i)) ++ (b, cp, r) :: (suf ++ O)) from by simpa using HZD.out).turn HTT.out hG4')
             have HGB2 := HZD.out.rows (b, cp, r) (by simp)
             have HVR5 := Aside0.mk (HVR.out.turn HTT.out HGB2)
             have HVO5 := Aside0.mk (HVO.out.turn HTT.out HGB2)
             have HBX5 := Aside0.mk ((HTT.out.block gc (blk_lt HBX.out) (fun e => HGB.out e.symm)).trans HBX.out)
             have HB5 := Aside0.mk (Trn.below (S := fun k => k = b) (B := w.heap.size) (by intro k hk; rw [hk, ← HBB.out]; exact HGB2.base) HB.out HB.out.size HTT.out)
             clear hG4 hT4 hG4' HGB2
             go_wp2_with fail
             go_roundg suf.length
             case measure => first | (rw [hgg4]; simp; done) | simp
             case rel => exact ⟨pre ++ [(b, cp, r)], suf, rfl, ⟨by rw [HE4.out]; simp⟩, by rw [wsucc (by have := HLT5.out; have := HNN.out; omega)]; simp, ⟨by simpa [clrT] using HZ5.out⟩, HVR5, HVO5, HBX5, HB5⟩
       ·have hix : ∀ W, (Instr.index 173 (.agg #[.slice Ag nn cr, .slice Ao O.length co]) (.int .i64 1)).run Try.prog W = .ok (.slice Ao O.length co) W := fun W => ix1 _ _ W
        go_wp2_with fail
        go_loopg [55] O.length (fun gg v55 we => ∃ (pre suf : List RT), gg = suf.length ∧ Aside0 (O = pre ++ suf) ∧ v55 = .int .i64 (pre.length : Int) ∧ Aside0 (GZ we B (((pb, pcp, pr) :: L'.map (clrT pr i)) ++ (pre.map (clrT pr i) ++ suf) ++ ([] : List RT))) ∧ Aside0 (GL we B (.slice Ag nn cr) L') ∧ Aside0 (GL we B (.slice Ao O.length co) O) ∧ Aside0 (we.heap[gc]? = some (.cells #[.int .i64 (i : Int)] 3 (0, 0))) ∧ Aside0 (Below w.heap.size w we))
        case atStart => exact ⟨[], O, by first | rfl | simp [HNN.out], ⟨rfl⟩, rfl, ⟨by simpa using HZC.out⟩, HVR, HVO, HBX, HB⟩
        case round =>
         clear HZC HVR HVO HBX HB
         obtain ⟨pre, suf, hgg4, HE4, rfl, HZD, HVR, HVO, HBX, HB⟩ := hrel
         cases suf with
         | nil =>
          have e0 : O = pre := by simpa using HE4.out
          have hlt5 : ¬ (pre.length : Int) < (O.length : Int) := by rw [← e0]; have := HNN.out; omega
          have HZE := Aside0.mk (show GZ wr B (((pb, pcp, pr) :: L'.map (clrT pr i)) ++ O.map (clrT pr i) ++ ([] : List RT)) by rw [e0]; simpa using HZD.out)
          clear e0
          go_wp2_with fail
          go_roundg 0
          case measure => omega
          case rel => exact ⟨_, .inr (.inr ⟨rfl, rfl, rfl⟩), ⟨by simpa using HZE.out⟩, HVR, HVO, HBX, HB⟩
         | cons t suf =>
          obtain ⟨b, cp, r⟩ := t
          have hlt5 : (pre.length : Int) < (O.length : Int) := by
           have h1 := congrArg List.length HE4.out
           rw [List.length_append, List.length_cons] at h1
           have := HNN.out
           omega
          have hmem : (b, cp, r) ∈ O := by rw [HE4.out]; simp
          have hrN : r.length = N := HLA.out (b, cp, r) (by first | exact .inl hmem | exact .inr hmem)
          obtain ⟨ad, e, hc⟩ := kr_at (Kd.R_reads' HVO.out).2.2 pre.length (b, cp, r) (by rw [HE4.out]; simp)
          have hc2 : wr.cell? (ad.add pre.length) = some (.slice (some ⟨b, 0, none⟩) N cp) := by rw [← hrN]; exact hc
          cases e
          have hzm : (b, cp, r) ∈ ((pb, pcp, pr) :: L'.map (clrT pr i)) ++ (pre.map (clrT pr i) ++ (b, cp, r) :: suf) ++ ([] : List RT) := by simp
          have hf := HZD.out.cellp hzm i (by show i < r.length; have := HIN.out; omega)
          have hbx := blk_cell HBX.out 0
          have hbx2 : wr.cell? ⟨gc, 0, none⟩ = some (.int .i64 (i : Int)) := hbx.trans rfl
          have hiN2 : (i : Int) < (N : Int) := by have := HIN.out; omega
          have hi0 : (0 : Int) ≤ (i : Int) := by omega
          obtain ⟨f, hfd⟩ : ∃ f, f = vec r i := ⟨_, rfl⟩
          rw [← hfd] at hf
          have HFD := Aside0.mk hfd
          have HRN := Aside0.mk hrN
          have HMEM := Aside0.mk hmem
          have HLT5 := Aside0.mk hlt5
          clear hc hzm hbx hfd hrN hmem
          by_cases hf0 : f = 0
          ·have hfe : (f == 0) = true := by simpa using hf0
           have HCT := Aside0.mk (show clrT pr i (b, cp, r) = (b, cp, r) by unfold clrT clearIf; simp only; rw [← HFD.out, if_pos hf0])
           clear hf0
           go_wp2_with fail
           go_roundg suf.length
           case measure => first | (rw [hgg4]; simp; done) | simp
           case rel => exact ⟨pre ++ [(b, cp, r)], suf, rfl, ⟨by rw [HE4.out]; simp⟩, by rw [wsucc (by have := HLT5.out; have := HNN.out; omega)]; simp, ⟨by rw [List.map_append, List.map_cons, List.map_nil, HCT.out]; simpa using HZD.out⟩, HVR, HVO, HBX, HB⟩
          ·have hfe : (f == 0) = false := by simpa using hf0
           have HAP := Aside0.mk (show pb ≠ b from (show GZ wr B ((((pb, pcp, pr) :: L'.map (clrT pr i)) ++ pre.map (clrT pr i)) ++ (b, cp, r) :: (suf ++ ([] : List RT))) from by simpa using HZD.out).apart (pb, pcp, pr) (.inl (by simp)))
           have HGB := Aside0.mk (show b ≠ gc from HGC.out.1 (b, cp, r) (by simp [HMEM.out]))
           have HRB := Aside0.mk (show ∀ j, (vec r j).natAbs ≤ 322560000 from fun j => HCIi.out.out_le HNC.out.1 HNC.out.2 HX.out (by have := HIN.out; have := HNC.out; omega) r (by rw [← HRUN.out.2]; exact List.mem_map.2 ⟨_, HMEM.out, rfl⟩) j)
           have HPB := Aside0.mk (show ∀ j, (vec pr j).natAbs ≤ 322560000 from fun j => HCIi.out.rem_le HNC.out.1 HNC.out.2 HX.out (by have := HIN.out; have := HNC.out; omega) pr (by rw [← HRUN.out.1]; exact List.mem_map.2 ⟨_, List.mem_of_getElem? HPP.out, rfl⟩) j)
           have HPC := Aside0.mk (show ∀ j, j < N → wr.cell? ⟨pb, j, none⟩ = some (.int .i64 (vec pr j)) from fun j hj => HZD.out.cellp (t := (pb, pcp, pr)) (by simp) j (by show j < pr.length; rw [HPN.out]; exact hj))
           have HGR := Aside0.mk (show GRn wr B b cp N r by rw [← HRN.out]; exact HZD.out.rows (b, cp, r) (by simp))
           have HF0 := Aside0.mk hf0
           obtain ⟨pc, hpc⟩ : ∃ pc, pc = vec pr i := ⟨_, rfl⟩
           have HPCD := Aside0.mk hpc
           have HMX := Aside0.mk (show ∀ m, (mixL r pr pc f m).length = N from fun m => by rw [mixL_length _ _ _ _ _ (by rw [HRN.out, HPN.out]), HRN.out])
           clear hf0 hpc
           go_wp2_with fail
           go_loopg [67] N (fun gg v67 wf => ∃ m : Nat, gg + m = N ∧ v67 = .int .i64 (m : Int) ∧ Aside0 (GRn wf B b cp N (mixL r pr pc f m)) ∧ Aside0 (Trn (fun k => k = b) wr wf))
           case atStart => exact ⟨0, rfl, rfl, ⟨by rw [mixL_zero]; exact HGR.out⟩, ⟨Trn.refl _ _⟩⟩
           case round =>
            obtain ⟨m, hgg5, rfl, HRR, HTR⟩ := hrel
            by_cases hm : m < N
            ·have hm2 : (m : Int) < (N : Int) := by omega
             have hA := HRR.out.cell (HMX.out m) m hm
             rw [mixL_at _ _ _ _ _ (by rw [HRN.out, HPN.out])] at hA
             obtain ⟨x, hx⟩ : ∃ x, x = vec r m := ⟨_, rfl⟩
             obtain ⟨y, hy⟩ : ∃ y, y = vec pr m := ⟨_, rfl⟩
             rw [← hx] at hA
             have hA1 := hA.1
             have hA2 := hA.2
             have hB1 : wr.cell? ⟨gc, 0, none⟩ = some (.int .i64 (i : Int)) := (blk_cell ((HTR.out.block gc (blk_lt HBX.out) (fun e => HGB.out e.symm)).trans HBX.out) 0).trans rfl
             have hkeep : ∀ j, j < N → wr.cell? ⟨pb, j, none⟩ = some (.int .i64 (vec pr j)) := fun j hj => by
              have h1 := HPC.out j hj
              exact (World.cell?_of_block (HTR.out.block pb (World.block_lt_of_cell? _ _ h1) (fun e => HAP.out e))).trans h1
             have hC1 := hkeep i HIN.out.1
             have hD1 := hkeep m hm
             rw [← HPCD.out] at hC1
             rw [← hy] at hD1
             have hne1 : gc ≠ b := fun e => HGB.out e.symm
             have hne2 : pb ≠ b := HAP.out
             have HXX := Aside0.mk hx
             have HYY := Aside0.mk hy
             have HM := Aside0.mk hm
             clear hx hy hA hkeep hm
             go_wp2_with fail
             refine start_ (n := 20) (S := fun w' => w'.cell? ⟨b, m, none⟩ = some (.int .i64 x) ∧ w'.cell? ⟨gc, 0, none⟩ = some (.int .i64 (i : Int)) ∧ w'.cell? ⟨pb, i, none⟩ = some (.int .i64 pc) ∧ w'.cell? ⟨pb, m, none⟩ = some (.int .i64 y)) (ds := [19]) #[false, false, false, false, false, false, false, false, false, false, false, false, false, false, false, false, false, false, false, false] (by kernel_rfl) rfl rfl ⟨hA1, hB1, hC1, hD1⟩ (fun hHeld => ?_)
             refine take_ (i := 0) (N := some 70) (v := ?_) (a' := ?_) #[true, false, false, false, false, false, false, false, false, false, false, false, false, false, false, false, false, false, false, false] rfl rfl (by kernel_rfl) (fun _ _ _ h => h) (Or.inl ⟨by rfl, ?_⟩) hHeld ?_ ?_
             rotate_left
             ·rintro w' ⟨s0, s1, s2, s3⟩
              go_simp
              with_reducible rfl
             rotate_left
             ·simp only [Act.put, List.setIfInBounds_toArray, List.set_cons_zero, List.set_cons_succ]
              rfl
             refine take_ (i := 1) (N := some 71) (v := ?_) (a' := ?_) #[true, true, false, false, false, false, false, false, false, false, false, false, false, false, false, false, false, false, false, false] rfl rfl (by kernel_rfl) (fun _ _ _ h => h) (Or.inl ⟨by rfl, ?_⟩) hHeld ?_ ?_
             rotate_left
             ·rintro w' ⟨s0, s1, s2, s3⟩
              go_simp
              with_reducible rfl
             rotate_left
             ·simp only [Act.put, List.setIfInBounds_toArray, List.set_cons_zero, List.set_cons_succ]
              rfl
             refine take_ (i := 2) (N := some 72) (v := ?_) (a' := ?_) #[true, true, true, false, false, false, false, false, false, false, false, false, false, false, false, false, false, false, false, false] rfl rfl (by kernel_rfl) (fun _ _ _ h => h) (Or.inl ⟨by rfl, ?_⟩) hHeld ?_ ?_
             rotate_left
             ·rintro w' ⟨s0, s1, s2, s3⟩
              go_simp
              with_reducible rfl
             rotate_left
             ·simp only [Act.put, List.setIfInBounds_toArray, List.set_cons_zero, List.set_cons_succ]
              rfl
             refine take_ (i := 3) (N := some 73) (v := ?_) (a' := ?_) #[true, true, true, true, false, false, false, false, false, false, false, false, false, false, false, false, false, false, false, false] rfl rfl (by kernel_rfl) (fun _ _ _ h => h) (Or.inl ⟨by rfl, ?_⟩) hHeld ?_ ?_
             rotate_left
             ·rintro w' ⟨s0, s1, s2, s3⟩
              go_simp
              with_reducible rfl
             rotate_left
             ·simp only [Act.put, List.setIfInBounds_toArray, List.set_cons_zero, List.set_cons_succ]
              rfl
             refine take_ (i := 4) (N := some 74) (v := ?_) (a' := ?_) #[true, true, true, true, true, false, false, false, false, false, false, false, false, false, false, false, false, false, false, false] rfl rfl (by kernel_rfl) (fun _ _ _ h => h) (Or.inl ⟨by rfl, ?_⟩) hHeld ?_ ?_
             rotate_left
             ·rintro w' ⟨s0, s1, s2, s3⟩
              go_simp
              with_reducible rfl
             rotate_left
             ·simp only [Act.put, List.setIfInBounds_toArray, List.set_cons_zero, List.set_cons_succ]
              rfl
             refine take_ (i := 5) (N := some 75) (v := ?_) (a' := ?_) #[true, true, true, true, true, true, false, false, false, false, false, false, false, false, false, false, false, false, false, false] rfl rfl (by kernel_rfl) (fun _ _ _ h => h) (Or.inl ⟨by rfl, ?_⟩) hHeld ?_ ?_
             rotate_left
             ·rintro w' ⟨s0, s1, s2, s3⟩
              go_simp
              with_reducible rfl
             rotate_left
             ·simp only [Act.put, List.setIfInBounds_toArray, List.set_cons_zero, List.set_cons_succ]
              rfl
             refine take_ (i := 6) (N := some 76) (v := ?_) (a' := ?_) #[true, true, true, true, true, true, true, false, false, false, false, false, false, false, false, false, false, false, false, false] rfl rfl (by kernel_rfl) (fun _ _ _ h => h) (Or.inl ⟨by rfl, ?_⟩) hHeld ?_ ?_
             rotate_left
             ·rintro w' ⟨s0, s1, s2, s3⟩
              go_simp
              with_reducible rfl
             rotate_left
             ·simp only [Act.put, List.setIfInBounds_toArray, List.set_cons_zero, List.set_cons_succ]
              rfl
             refine take_ (i := 7) (N := some 77) (v := ?_) (a' := ?_) #[true, true, true, true, true, true, true, true, false, false, false, false, false, false, false, false, false, false, false, false] rfl rfl (by kernel_rfl) (fun _ _ _ h => h) (Or.inl ⟨by rfl, ?_⟩) hHeld ?_ ?_
             rotate_left
             ·rintro w' ⟨s0, s1, s2, s3⟩
              go_simp
              with_reducible rfl
             rotate_left
             ·simp only [Act.put, List.setIfInBounds_toArray, List.set_cons_zero, List.set_cons_succ]
              rfl
             refine take_ (i := 8) (N := some 78) (v := ?_) (a' := ?_) #[true, true, true, true, true, true, true, true, true, false, false, false, false, false, false, false, false, false, false, false] rfl rfl (by kernel_rfl) (fun _ _ _ h => h) (Or.inl ⟨by rfl, ?_⟩) hHeld ?_ ?_
             rotate_left
             ·rintro w' ⟨s0, s1, s2, s3⟩
              go_simp
              with_reducible rfl
             rotate_left
             ·simp only [Act.put, List.setIfInBounds_toArray, List.set_cons_zero, List.set_cons_succ]
              rfl
             refine take_ (i := 9) (N := some 79) (v := ?_) (a' := ?_) #[true, true, true, true, true, true, true, true, true, true, false, false, false, false, false, false, false, false, false, false] rfl rfl (by kernel_rfl) (fun _ _ _ h => h) (Or.inl ⟨by rfl, ?_⟩) hHeld ?_ ?_
             rotate_left
             ·rintro w' ⟨s0, s1, s2, s3⟩
              go_simp
              with_reducible rfl
             rotate_left
             ·simp only [Act.put, List.setIfInBounds_toArray, List.set_cons_zero, List.set_cons_succ]
              rfl
             refine take_ (i := 10) (N := some 80) (v := ?_) (a' := ?_) #[true, true, true, true, true, true, true, true, true, true, true, false, false, false, false, false, false, false, false, false] rfl rfl (by kernel_rfl) (fun _ _ _ h => h) (Or.inl ⟨by rfl, ?_⟩) hHeld ?_ ?_
             rotate_left
             ·rintro w' ⟨s0, s1, s2, s3⟩
              go_simp
              with_reducible rfl
             rotate_left
             ·simp only [Act.put, List.setIfInBounds_toArray, List.set_cons_zero, List.set_cons_succ]
              rfl
             refine take_ (i := 11) (N := some 81) (v := ?_) (a' := ?_) #[true, true, true, true, true, true, true, true, true, true, true, true, false, false, false, false, false, false, false, false] rfl rfl (by kernel_rfl) (fun _ _ _ h => h) (Or.inl ⟨by rfl, ?_⟩) hHeld ?_ ?_
             rotate_left
             ·rintro w' ⟨s0, s1, s2, s3⟩
              go_simp
              with_reducible rfl
             rotate_left
             ·simp only [Act.put, List.setIfInBounds_toArray, List.set_cons_zero, List.set_cons_succ]
              rfl
             refine take_ (i := 12) (N := some 82) (v := ?_) (a' := ?_) #[true, true, true, true, true, true, true, true, true, true, true, true, true, false, false, false, false, false, false, false] rfl rfl (by kernel_rfl) (fun _ _ _ h => h) (Or.inl ⟨by rfl, ?_⟩) hHeld ?_ ?_
             rotate_left
             ·rintro w' ⟨s0, s1, s2, s3⟩
              go_simp
              with_reducible rfl
             rotate_left
             ·simp only [Act.put, List.setIfInBounds_toArray, List.set_cons_zero, List.set_cons_succ]
              rfl
             refine take_ (i := 13) (N := some 83) (v := ?_) (a' := ?_) #[true, true, true, true, true, true, true, true, true, true, true, true, true, true, false, false, false, false, false, false] rfl rfl (by kernel_rfl) (fun _ _ _ h => h) (Or.inl ⟨by rfl, ?_⟩) hHeld ?_ ?_
             rotate_left
             ·rintro w' ⟨s0, s1, s2, s3⟩
              go_simp
              with_reducible rfl
             rotate_left
             ·simp only [Act.put, List.setIfInBounds_toArray, List.set_cons_zero, List.set_cons_succ]
              rfl
             refine take_ (i := 14) (N := some 84) (v := ?_) (a' := ?_) #[true, true, true, true, true, true, true, true, true, true, true, true, true, true, true, false, false, false, false, false] rfl rfl (by kernel_rfl) (fun _ _ _ h => h) (Or.inl ⟨by rfl, ?_⟩) hHeld ?_ ?_
             rotate_left
             ·rintro w' ⟨s0, s1, s2, s3⟩
              go_simp
              with_reducible rfl
             rotate_left
             ·simp only [Act.put, List.setIfInBounds_toArray, List.set_cons_zero, List.set_cons_succ]
              rfl
             refine take_ (i := 15) (N := some 85) (v := ?_) (a' := ?_) #[true, true, true, true, true, true, true, true, true, true, true, true, true, true, true, true, false, false, false, false] rfl rfl (by kernel_rfl) (fun _ _ _ h => h) (Or.inl ⟨by rfl, ?_⟩) hHeld ?_ ?_
             rotate_left
             ·rintro w' ⟨s0, s1, s2, s3⟩
              go_simp
              with_reducible rfl
             rotate_left
             ·simp only [Act.put, List.setIfInBounds_toArray, List.set_cons_zero, List.set_cons_succ]
              rfl
             refine take_ (i := 16) (N := some 86) (v := ?_) (a' := ?_) #[true, true, true, true, true, true, true, true, true, true, true, true, true, true, true, true, true, false, false, false] rfl rfl (by kernel_rfl) (fun _ _ _ h => h) (Or.inl ⟨by rfl, ?_⟩) hHeld ?_ ?_
             rotate_left
             ·rintro w' ⟨s0, s1, s2, s3⟩
              go_simp
              with_reducible rfl
             rotate_left
             ·simp only [Act.put, List.setIfInBounds_toArray, List.set_cons_zero, List.set_cons_succ]
              rfl
             refine take_ (i := 17) (N := some 87) (v := ?_) (a' := ?_) #[true, true, true, true, true, true, true, true, true, true, true, true, true, true, true, true, true, true, false, false] rfl rfl (by kernel_rfl) (fun _ _ _ h => h) (Or.inl ⟨by rfl, ?_⟩) hHeld ?_ ?_
             rotate_left
             ·rintro w' ⟨s0, s1, s2, s3⟩
              go_simp
              with_reducible rfl
             rotate_left
             ·simp only [Act.put, List.setIfInBounds_toArray, List.set_cons_zero, List.set_cons_succ]
              rfl
             refine take_ (i := 18) (N := some 88) (v := ?_) (a' := ?_) #[true, true, true, true, true, true, true, true, true, true, true, true, true, true, true, true, true, true, true, false] rfl rfl (by kernel_rfl) (fun _ _ _ h => h) (Or.inl ⟨by rfl, ?_⟩) hHeld ?_ ?_
             rotate_left
             ·rintro w' ⟨s0, s1, s2, s3⟩
              go_simp
              with_reducible rfl
             rotate_left
             ·simp only [Act.put, List.setIfInBounds_toArray, List.set_cons_zero, List.set_cons_succ]
              rfl
             refine last_ (i := 19) (N := none) #[true, true, true, true, true, true, true, true, true, true, true, true, true, true, true, true, true, true, true, true] rfl rfl (by kernel_rfl) (by decide) (fun K hK => ?_)
             refine skip_ (w1 := ?_) (by rfl) rfl ?_ ?_
             rotate_left
             ·go_simp
              rfl
             refine hK.out _ _ ?_
             clear hK K
             refine done_ (by kernel_rfl) ?_
             have hw : IntKind.i64.wrap (IntKind.i64.wrap (x * pc) - IntKind.i64.wrap (y * f)) = x * pc - y * f := by
              have m1 := mul_bd (a := x) (b := pc) (by rw [HXX.out]; exact HRB.out m) (by rw [HPCD.out]; exact HPB.out i)
              have m2 := mul_bd (a := y) (b := f) (by rw [HYY.out]; exact HPB.out m) (by rw [HFD.out]; exact HRB.out i)
              rw [IntKind.wrap_i64, IntKind.wrap_i64, IntKind.wrap_i64]
              omega
             rw [hw]
             have HG5 := Aside0.mk (HRR.out.put (HMX.out m) m (x * pc - y * f))
             have HT5 := Aside0.mk (HTR.out.setCell ⟨b, m, none⟩ (.int .i64 (x * pc - y * f)) rfl)
             clear hw hA1 hA2 hB1 hC1 hD1 hne1 hne2
             go_wp2_with fail
             go_roundg (N - (m + 1))
             case measure => have := HM.out; omega
             case rel =>
              refine ⟨m + 1, by have := HM.out; omega, by rw [wsucc (by have := HM.out; have := HIN.out; omega)], ⟨?_⟩, ⟨HT5.out.then_below (by repeat (first | (with_reducible first | exact Below.refl _ _ | apply below_alloc | apply pw_below_drewN | apply below_drew1) | exact Below.refl _ _))⟩⟩
              have h_ := HG5.out
              rw [HXX.out, HYY.out, mixL_succ _ _ _ _ _ (by rw [HRN.out, HPN.out]) (by rw [HRN.out]; exact HM.out)] at h_
              rw [HXX.out, HYY.out]
              (with_reducible repeat (first | apply Kd.R_alloc | apply Kd.R_drewN | apply Kd.R_drew))
              exact h_
            ·have hmN : m = N := by omega
             subst hmN
             have hm3 : ¬ (m : Int) < (m : Int) := by omega
             have HT := Aside0.mk (impl_tidy_n B b cp m (mixL r pr pc f m) wr (HMX.out m) HRR.out (by have := HIN.out; omega) (mixL_bound HRB.out HPB.out (by rw [HPCD.out]; exact HPB.out i) (by rw [HFD.out]; exact HRB.out i)))
             have hcl : tidyL (mixL r pr pc f m) = clearL r pr i := by
              have h_ := mixL_all r pr i (by rw [HRN.out, HPN.out])
              rwa [HRN.out, ← HPCD.out, ← HFD.out] at h_
             rw [hcl] at HT
             have hci : clearL r pr i = clearIf r pr i := by unfold clearIf; rw [if_neg (by rw [← HFD.out]; exact HF0.out)]
             rw [hci] at HT
             clear hcl hci hm
             go_wp2_with fail
             go_at_call 186; refine HT.out.mono ?_; rintro e w4 ⟨rfl, hG4, hT4⟩
             have HTT := Aside0.mk (HTR.out.trans hT4)
             have hG4' : GR w4 B b cp (clearIf r pr i) := by
              unfold GR
              rw [clearIf_length _ _ _ (by rw [HRN.out, HPN.out]), HRN.out]
              exact hG4
             have HZ5 := Aside0.mk ((show GZ _ B ((((pb, pcp, pr) :: L'.map (clrT pr i)) ++ pre.map (clrT pr i)) ++ (b, cp, r) :: (suf ++ ([] : List RT))) from by simpa using HZD.out).turn HTT.out hG4')
             have HGB2 := HZD.out.rows (b, cp, r) (by simp)
             have HVR5 := Aside0.mk (HVR.out.turn HTT.out HGB2)
             have HVO5 := Aside0.mk (HVO.out.turn HTT.out HGB2)
             have HBX5 := Aside0.mk ((HTT.out.block gc (blk_lt HBX.out) (fun e => HGB.out e.symm)).trans HBX.out)
             have HB5 := Aside0.mk (Trn.below (S := fun k => k = b) (B := w.heap.size) (by intro k hk; rw [hk, ← HBB.out]; exact HGB2.base) HB.out HB.out.size HTT.out)
             clear hG4 hT4 hG4' HGB2
             go_wp2_with fail
             go_roundg suf.length
             case measure => first | (rw [hgg4]; simp; done) | simp
             case rel => exact ⟨pre ++ [(b, cp, r)], suf, rfl, ⟨by rw [HE4.out]; simp⟩, by rw [wsucc (by have := HLT5.out; have := HNN.out; omega)]; simp, ⟨by simpa [clrT] using HZ5.out⟩, HVR5, HVO5, HBX5, HB5⟩
       ·have hinf : (Try.prog.info? 25).map (fun i => (i.zero, i.size, i.bytes)) = some (some (.slice none 0 0), 1, 24) := by kernel_rfl
        have HINF := Aside0.mk hinf
        have HBQ := Aside0.mk (show Below B w wr by rw [HBB.out]; exact HB.out)
        have HCELL := Aside0.mk (show [Value.slice (some ⟨pb, 0, none⟩) N pcp] = [rv (pb, pcp, pr)] by unfold rv; rw [HPN.out])
        clear hinf
        go_wp2_with ((with_reducible refine gate_builtin (b := .append) (xs := #[.tmp 94, .tmp 96]) rfl ?_); at_builtin; refine Kd.R_append kr (w0 := w) B rfl (.tmp 94) (.tmp 96) 33 25 (.slice none 0 0) 24 rfl Try.underlying33 HINF.out rfl (by decide) (by omega) (.slice Ao O.length co) O (pb, pcp, pr) [Value.slice (some ⟨pb, 0, none⟩) N pcp] (fun _ => True) (fun _ => False) rfl rfl HCELL.out (fun _ h => h.elim) ?aF ?aO ?aB ?aS ?aL ?_; (case aF => exact fun _ _ => trivial); (case aO => exact Kd.R_mono HVO.out (fun _ _ => trivial)); (case aB => exact HBQ.out); (case aS => rw [HBB.out]; exact HB.out.size); (case aL => have := HNN.out; omega); intro v1 w5 hO5 hB5 hg5 hat5)
        have hL6 : GL w5 B (.slice Ag nn cr) L' := HVR.out.move (fun k hk => hg5.block k (HVR.out.lt hk) (HNNE.out k hk))
        have hZ6 := (show GZ w5 B _ from ⟨fun t ht => (HZC.out.rows t ht).move (hg5.block t.1 (HZC.out.rows t ht).lt (fun e => HVO.out.ne e (HZC.out.rows t ht) rfl)), HZC.out.nd⟩)
        have hO6 : GL w5 B v1 (O ++ [(pb, pcp, pr)]) := Kd.R_tight rfl hO5
        have hlen : ∀ t : RT, t ∈ L' ∨ t ∈ O → t.2.2.length = pr.length := fun t ht => by rw [HLA.out t ht, HPN.out]
        have HL6 := Aside0.mk (hL6.congr (clrT_rv pr i L' (fun t ht => hlen t (.inl ht))).symm)
        have HO6 := Aside0.mk (hO6.congr (L' := O.map (clrT pr i) ++ [(pb, pcp, pr)]) (by rw [List.map_append, List.map_append, clrT_rv pr i O (fun t ht => hlen t (.inr ht))]))
        have HZ6 := Aside0.mk (hZ6.perm (show List.Perm _ (L'.map (clrT pr i) ++ (O.map (clrT pr i) ++ [(pb, pcp, pr)])) from by rw [← List.append_assoc]; exact (List.perm_append_singleton _ _).symm))
        have HNE6 := Aside0.mk (show ∀ k, some k = (Value.slice Ag nn cr).ownBlock → some k ≠ v1.ownBlock from fun k hk e => by
         rcases hat5 with h | ⟨q, h, hq⟩
         ·exact HNNE.out k hk (e.trans h)
         ·have h1 := HVR.out.lt hk
          rw [h] at e
          injection e with e
          omega)
        have HB6 := Aside0.mk (show Below w.heap.size w w5 by rw [← HBB.out]; exact hB5)
        have hget : (runI X i).1.getD k0 [] = pr := by
         rw [← HRUN.out.1, List.getD_eq_getElem?_getD, List.getElem?_map, HPP.out]; rfl
        have her : (runI X i).1.eraseIdx k0 = L'.map (·.2.2) := by rw [← HRUN.out.1, HLP.out, erase_map]
        have hstep : stepI i (runI X i) = ((L'.map (·.2.2)).map (fun r => clearIf r pr i), (O.map (·.2.2)).map (fun r => clearIf r pr i) ++ [pr]) := by
         unfold stepI
         rw [← HK0.out, if_pos (by rw [← HRUN.out.1, List.length_map]; exact HK.out), hget, her, HRUN.out.2]
        have HST := Aside0.mk hstep
        clear hL6 hZ6 hO6 hlen hget her hstep hO5 hB5 hg5 hat5
        go_wp2_with fail
        go_roundg (cols - (i + 1))
        case measure => have := HLT.out; omega
        case rel => exact ⟨i + 1, L'.map (clrT pr i), O.map (clrT pr i) ++ [(pb, pcp, pr)], by have := HLT.out; omega, by rw [wsucc (by have := HIN.out; omega)], ⟨by show _ = (stepI i (runI X i)).1 ∧ _ = (stepI i (runI X i)).2; rw [HST.out]; exact ⟨clrT_row pr i L', by rw [List.map_append, clrT_row]; rfl⟩⟩, HL6, HO6, HZ6, HNE6, HB6⟩
     ·rw [if_neg hk]
      have hstep : stepI i (runI X i) = runI X i := by
       unfold stepI
       rw [if_neg (by rw [← HRUN.out.1, List.length_map, HRUN.out.1]; exact hk)]
      have HST := Aside0.mk hstep
      clear hk hstep
      go_wp2_with fail
      go_roundg (cols - (i + 1))
      case measure => have := HLT.out; omega
      case rel => exact ⟨i + 1, L, O, by have := HLT.out; omega, by rw [wsucc (by have := HIN.out; omega)], ⟨by show L.map _ = (stepI i (runI X i)).1 ∧ O.map _ = (stepI i (runI X i)).2; rw [HST.out]; exact HRUN.out⟩, HL2, HO2, HZ2, HNE, HB2⟩
    ·have hlt2 : ¬ (i : Int) < (cols : Int) := by omega
     have hic : i = cols := by omega
     subst hic
     go_wp2
     go_ret
     refine ⟨_, rfl, ?_, HB.out⟩
     have h := rows_R HGO.out (fun t ht => HZ.out.rows t (by simp [ht]))
     rw [HRUN.out.2] at h
     rw [← HBB.out]
     exact h

def widthN (X : List (List Int)) (a : Nat) : Nat := if X.length = 0 then max 1 a else (X.getD 0 []).length
def redOk (X : List (List Int)) (a : Int) : Prop := X.length ≤ 1048576 ∧ (0 ≤ a ∧ a.toNat ≤ widthN X a.toNat) ∧ (1 ≤ widthN X a.toNat ∧ widthN X a.toNat ≤ 7) ∧ ∀ r ∈ X, r.length = widthN X a.toNat ∧ ∀ j, j < widthN X a.toNat → (vec r j).natAbs ≤ cellB (widthN X a.toNat - 1) j
instance (X : List (List Int)) (a : Int) : Decidable (redOk X a) := by unfold redOk; infer_instance
def impl_reduceAny.f (l0 : List (List Int)) (a1 : Int) : Option (List (List Int)) := if redOk l0 a1 then some (redI l0 a1.toNat) else none
theorem impl_reduceAny.calls (A0 : Option Addr) (c0 : Nat) (l0 : List (List Int)) (a1 : Int) (r : List (List Int)) (w : World) (hr0 : Kd.C (Kd.slice 3 (Kd.int .i64)) w A0 l0.length l0) (hc0 : l0.length ≤ c0) (h : impl_reduceAny.f l0 a1 = some r) :
  Calls Try.prog 158 #[.slice A0 l0.length c0, .int .i64 a1] w fun e w' => ∃ v0_ : Value, e = .returned (v0_) ∧ Kd.R (Kd.slice 3 (Kd.int .i64)) 25 w' w.heap.size (fun _ => True) v0_ r ∧ Below w.heap.size w w' := by
 unfold impl_reduceAny.f at h
 split at h
 ·rename_i hh
  obtain rfl := Option.some.inj h
  obtain ⟨h1, h2, h3, h4⟩ := hh
  have hx := impl_reduceAny_c A0 c0 l0 (widthN l0 a1.toNat) a1.toNat (widthN l0 a1.toNat - 1) w hr0 hc0 h1 (fun r hr => (h4 r hr).1) h3.1 (by omega) (by omega) (fun r hr j => by
   by_cases hj : j < widthN l0 a1.toNat
   ·exact (h4 r hr).2 j hj
   ·rw [vec_out r j (by rw [(h4 r hr).1]; omega)]; simp) h2.2
  rw [show ((a1.toNat : Nat) : Int) = a1 by omega] at hx
  exact hx
 ·cases h

end Go.Proofs.Ytiipcophnnfnoaa.PFnLiars
