import Derived.Test.YtiipcophnnfnoaaPFnExactNewWorldx0
import Derived.Test.YtiipcophnnfnoaaPFnExactNewWorldx1
import Derived.Test.YtiipcophnnfnoaaPFnExactNewWorldx2
import Derived.Test.YtiipcophnnfnoaaPFnExactNewWorldx3
import Derived.Test.YtiipcophnnfnoaaPFnExactNewWorldx4
import Derived.Test.YtiipcophnnfnoaaPFnExactNewWorldx5
import Derived.Test.YtiipcophnnfnoaaPFnExactNewWorldx6
import Derived.Test.YtiipcophnnfnoaaPFnExactNewWorldx7
import Derived.Test.YtiipcophnnfnoaaPFnExactNewWorldx8
import Derived.Test.YtiipcophnnfnoaaPFnExactNewWorldx9
import Derived.Test.YtiipcophnnfnoaaPFnExactNewWorldx10
import Derived.Test.YtiipcophnnfnoaaPFnExactNewWorldx11
import Derived.Test.YtiipcophnnfnoaaPFnExactNewWorldx12
import Derived.Test.YtiipcophnnfnoaaPFnExactNewWorldx13
import Derived.Test.YtiipcophnnfnoaaPFnExactNewWorldx14
import Derived.Test.YtiipcophnnfnoaaPFnExactNewWorldx15
import Derived.Test.YtiipcophnnfnoaaPFnExactNewWorldx16
import Derived.Test.YtiipcophnnfnoaaPFnExactNewWorldx17
import Derived.Test.YtiipcophnnfnoaaPFnExactNewWorldx18
import Derived.Test.YtiipcophnnfnoaaPFnExactNewWorldx19
import Derived.Test.YtiipcophnnfnoaaPFnExactNewWorldx20
import Derived.Test.YtiipcophnnfnoaaPFnExactNewWorldx21
import Derived.Test.YtiipcophnnfnoaaPFnExactNewWorldx22
import Derived.Test.YtiipcophnnfnoaaPFnExactNewWorldx23
import Derived.Test.YtiipcophnnfnoaaPFnExactNewWorldx24
import Derived.Test.YtiipcophnnfnoaaPFnExactNewWorldx25
import Derived.Test.YtiipcophnnfnoaaPFnExactNewWorldx26
import Derived.Test.YtiipcophnnfnoaaRFnExactNewWorld
import Derived.Test.YtiipcophnnfnoaaVFnExactNewWorld
import Derived.Lib.SlicesCompact
set_option linter.unusedVariables false
set_option linter.unusedSimpArgs false
namespace Go.Proofs.Ytiipcophnnfnoaa.Pure
open Go.RowKit Go.Proofs.Ytiipcophnnfnoaa.Base Go.Proofs.Ytiipcophnnfnoaa.PFnExactNewWorld Go.Proofs.YtiipcophnnfnoaaW.PrintWords Go.Proofs.YtiipcophnnfnoaaW.PrintLast Go.Proofs.YtiipcophnnfnoaaW.PrintMore
def leftI (l:List Int) (a:Int):Int:=if a - (l.length:Int) < 0 then -1 else a - (l.length:Int)
theorem toIntS_l0:∀ (suf pre rest:List Int),(pre ++ suf).length≤1048576→rest.length=suf.length →
  Ev (fun k=>laws_toIntS.l0 k (pre ++ suf) (pre ++ rest) (pre.length:Int)) (pre ++ suf) :=by
 intro suf
 induction suf with
 | nil =>
  intro pre rest hb hr
  obtain rfl:rest=[] :=by simpa using hr
  refine Ev.step (fun k=>by rw [laws_toIntS.l0]) ?_
  exact evNeg (by simp) (Ev.now _)
 | cons x suf ih =>
  intro pre rest hb hr
  obtain ⟨r,rest,rfl⟩:∃ r t,rest=r :: t:=by
   cases rest with
   | nil=>simp at hr
   | cons r t=>exact ⟨r,t,rfl⟩
  simp only [List.length_append,List.length_cons] at hb hr
  refine Ev.step (fun k=>by rw [laws_toIntS.l0]) ?_
  refine evPos (by simp only [List.length_append,List.length_cons];omega) (evPos (by omega) (evPos (by simp only [List.length_append,List.length_cons];omega) ?_))
  rw [rd_mid,set_mid,wsucc (by omega)]
  have h:=ih (pre ++ [x]) rest (by simp;omega) (by omega)
  simpa using h
theorem toIntS_ev (l:List Int) (hl:l.length≤1048576):Ev (fun k=>laws_toIntS.f k l) l:=by
 unfold laws_toIntS.f
 refine evPos (by omega) (evPos (by omega) ?_)
 have h:=toIntS_l0 l [] (List.replicate l.length 0) (by simpa using hl) (by simp)
 simpa using h
theorem eqIntS_l0:∀ (suf pre:List Int),(pre ++ suf).length≤1048576 →
  Ev (fun k=>laws_eqIntS.l0 k (pre ++ suf) (pre ++ suf) (pre.length:Int)) true:=by
 intro suf
 induction suf with
 | nil =>
  intro pre hb
  refine Ev.step (fun k=>by rw [laws_eqIntS.l0]) ?_
  exact evNeg (by simp) (Ev.now _)
 | cons x suf ih =>
  intro pre hb
  simp only [List.length_append,List.length_cons] at hb
  refine Ev.step (fun k=>by rw [laws_eqIntS.l0]) ?_
  refine evPos (by simp only [List.length_append,List.length_cons];omega) (evPos (by omega) (evPos (by simp only [List.length_append,List.length_cons];omega) (evPos rfl ?_)))
  rw [wsucc (by omega)]
  have h:=ih (pre ++ [x]) (by simp;omega)
  simpa using h
theorem eqIntS_ev (l:List Int) (hl:l.length≤1048576):Ev (fun k=>laws_eqIntS.f k l l) true:=by
 unfold laws_eqIntS.f
 refine evPos rfl ?_
 have h:=eqIntS_l0 l [] (by simpa using hl)
 simpa using h
def leftL {α:Type} (l:List α) (a:Int):Int:=if a - (l.length:Int) < 0 then -1 else a - (l.length:Int)
theorem leftL_ok {α:Type} {l:List α} (h:0≤leftL l 1048576):l.length≤1048576:=by
 unfold leftL at h
 split at h <;> omega
theorem eqSeen_eq (x:S62):laws_eqSeen.f x.f0 x.f1 x.f2 x.f3 x.f4 x.f0 x.f1 x.f2 x.f3 x.f4=some true:=by
 simp [laws_eqSeen.f]
theorem eqSeenS_l0:∀ (suf pre:List S62),(pre ++ suf).length≤1048576 →
  Ev (fun k=>laws_eqSeenS.l0 k (pre ++ suf) (pre ++ suf) (pre.length:Int)) true:=by
 intro suf
 induction suf with
 | nil =>
  intro pre hb
  refine Ev.step (fun k=>by rw [laws_eqSeenS.l0]) ?_
  exact evNeg (by simp) (Ev.now _)
 | cons x suf ih =>
  intro pre hb
  simp only [List.length_append,List.length_cons] at hb
  refine Ev.step (fun k=>by rw [laws_eqSeenS.l0]) ?_
  refine evPos (by simp only [List.length_append,List.length_cons];omega) (evPos (by omega) (evPos (by simp only [List.length_append,List.length_cons];omega) ?_))
  simp only [rd_T62,getD_mid]
  refine evSome (eqSeen_eq x) (evPos rfl ?_)
  rw [wsucc (by omega)]
  have h:=ih (pre ++ [x]) (by simp;omega)
  simpa using h
theorem eqSeenS_ev (l:List S62) (hl:l.length≤1048576):Ev (fun k=>laws_eqSeenS.f k l l) true:=by
 unfold laws_eqSeenS.f
 refine evPos rfl ?_
 have h:=eqSeenS_l0 l [] (by simpa using hl)
 simpa using h
def cvLink (x:S159):S133:=⟨x.f0,x.f1⟩
theorem szLinkS_eq (l:List S159) (a:Int) (h0:0≤a) (h1:a≤1048576) (hl:l.length≤9223372036854775807):laws_szLinkS.f l a=some (leftL l a) :=by
 unfold laws_szLinkS.f leftL
 rw [w64 (by omega) (by omega)]
 split <;> rfl
theorem leftL_neg {α:Type} {l:List α} {a:Int} (h:leftL l a < 0):leftL l a=-1:=by
 unfold leftL at h ⊢
 split <;> omega
theorem leftL_le {α:Type} (l:List α) {a:Int} (h0:0≤a):leftL l a≤a:=by
 unfold leftL
 split <;> omega
theorem leftL_ok' {α:Type} {l:List α} {a:Int} (ha:a≤1048576) (h:0≤leftL l a):l.length≤1048576:=by
 unfold leftL at h
 split at h <;> omega
theorem leftI_eq (l:List Int) (a:Int):leftI l a=leftL l a:=rfl
theorem szNet_eq (n:Int) (l:List S159) (a:Int) (h0:0≤a) (h1:a≤1048576) (hl:l.length≤9223372036854775807):laws_szNet.f n l a=some (leftL l a) :=by
 unfold laws_szNet.f
 rw [szLinkS_eq l a h0 h1 hl,Option.bind_some]
 split
 ·rename_i h
  rw [leftL_neg h]
 ·rfl
theorem toLinkS_l0:∀ (suf pre:List S159) (rest:List S133),(pre ++ suf).length≤1048576→rest.length=suf.length → 
  Ev (fun k=>laws_toLinkS.l0 k (pre ++ suf) (pre.map cvLink ++ rest) (pre.length:Int)) ((pre ++ suf).map cvLink) :=by
 intro suf
 induction suf with
 | nil =>
  intro pre rest hb hr
  obtain rfl:rest=[] :=by simpa using hr
  refine Ev.step (fun k=>by rw [laws_toLinkS.l0]) ?_
  refine evNeg (by simp) (evEq ?_ (Ev.now _))
  simp
 | cons x suf ih =>
  intro pre rest hb hr
  obtain ⟨r,rest,rfl⟩:∃ r t,rest=r :: t:=by
   cases rest with
   | nil=>simp at hr
   | cons r t=>exact ⟨r,t,rfl⟩
  simp only [List.length_append,List.length_cons] at hb hr
  refine Ev.step (fun k=>by rw [laws_toLinkS.l0]) ?_
  refine evPos (by simp only [List.length_append,List.length_cons];omega) (evPos (by omega) ?_)
  simp only [rd_T159,getD_mid]
  refine evSome rfl (evPos (by simp only [List.length_append,List.length_cons,List.length_map];omega) ?_)
  rw [wsucc (by omega)]
  have h:=ih (pre ++ [x]) rest (by simp;omega) (by omega)
  refine evEq ?_ (Ev.congr (fun k=>?_) h)
  ·simp
  ·have e:(pre.length:Int)=((pre.map cvLink).length:Int) :=by simp
   rw [e,set_mid]
   simp [cvLink]
theorem toLinkS_ev (l:List S159) (hl:l.length≤1048576):Ev (fun k=>laws_toLinkS.f k l) (l.map cvLink) :=by
 unfold laws_toLinkS.f
 refine evPos (by omega) (evPos (by omega) ?_)
 have h:=toLinkS_l0 l [] (List.replicate l.length z133) (by simpa using hl) (by simp)
 simpa using h
theorem eqLink_eq (x:S133):laws_eqLink.f x.f0 x.f1 x.f0 x.f1=some true:=by
 simp [laws_eqLink.f]
theorem eqLinkS_l0:∀ (suf pre:List S133),(pre ++ suf).length≤1048576 → 
  Ev (fun k=>laws_eqLinkS.l0 k (pre ++ suf) (pre ++ suf) (pre.length:Int)) true:=by
 intro suf
 induction suf with
 | nil =>
  intro pre hb
  refine Ev.step (fun k=>by rw [laws_eqLinkS.l0]) ?_
  exact evNeg (by simp) (Ev.now _)
 | cons x suf ih =>
  intro pre hb
  simp only [List.length_append,List.length_cons] at hb
  refine Ev.step (fun k=>by rw [laws_eqLinkS.l0]) ?_
  refine evPos (by simp only [List.length_append,List.length_cons];omega) (evPos (by omega) (evPos (by simp only [List.length_append,List.length_cons];omega) ?_))
  simp only [rd_T133,getD_mid]
  refine evSome (eqLink_eq x) (evPos rfl ?_)
  rw [wsucc (by omega)]
  have h:=ih (pre ++ [x]) (by simp;omega)
  simpa using h
theorem eqLinkS_ev (l:List S133) (hl:l.length≤1048576):Ev (fun k=>laws_eqLinkS.f k l l) true:=by
 unfold laws_eqLinkS.f
 refine evPos rfl ?_
 have h:=eqLinkS_l0 l [] (by simpa using hl)
 simpa using h
def okP' (l:List S103):Prop:=l.length≤1048576∧∀ p∈l,p.f2.length≤1048576
theorem eqProbe_ev (x:S103) (h:x.f2.length≤1048576):Ev (fun k=>laws_eqProbe.f k x.f0 x.f1 x.f2 x.f0 x.f1 x.f2) true:=by
 unfold laws_eqProbe.f
 exact evPos rfl (evPos rfl (Ev.bind (eqIntS_ev x.f2 h) (evPos rfl (Ev.now _))))
theorem eqProbeS_l0:∀ (suf pre:List S103),(pre ++ suf).length≤1048576→(∀ p∈suf,p.f2.length≤1048576) →
  Ev (fun k=>laws_eqProbeS.l0 k (pre ++ suf) (pre ++ suf) (pre.length:Int)) true:=by
 intro suf
 induction suf with
 | nil =>
  intro pre hb hq
  refine Ev.step (fun k=>by rw [laws_eqProbeS.l0]) ?_
  exact evNeg (by simp) (Ev.now _)
 | cons x suf ih =>
  intro pre hb hq
  simp only [List.length_append,List.length_cons] at hb
  refine Ev.step (fun k=>by rw [laws_eqProbeS.l0]) ?_
  refine evPos (by simp only [List.length_append,List.length_cons];omega) (evPos (by omega) (evPos (by simp only [List.length_append,List.length_cons];omega) ?_))
  simp only [rd_T103,getD_mid]
  refine Ev.bind (eqProbe_ev x (hq x (by simp))) (evPos rfl ?_)
  rw [wsucc (by omega)]
  have h:=ih (pre ++ [x]) (by simp;omega) (fun p h=>hq p (by simp [h]))
  simpa using h
theorem eqProbeS_ev (l:List S103) (hl:okP' l):Ev (fun k=>laws_eqProbeS.f k l l) true:=by
 unfold laws_eqProbeS.f
 refine evPos rfl ?_
 have h:=eqProbeS_l0 l [] (by simpa using hl.1) hl.2
 simpa using h
def okW' (lk:List S133) (de dn:List Int) (pr:List S103) (ow li:List Int) (se:List S62):Prop :=
 lk.length≤1048576∧de.length≤1048576∧dn.length≤1048576∧okP' pr∧ow.length≤1048576∧li.length≤1048576∧se.length≤1048576
theorem eqBucket_eq (a b c d:Int):laws_eqBucket.f a b c d a b c d=some true:=by
 simp [laws_eqBucket.f]
theorem eqNet_ev (nd:Int) (lk:List S133) (h:lk.length≤1048576):Ev (fun k=>laws_eqNet.f k nd lk nd lk) true:=by
 unfold laws_eqNet.f
 exact evPos rfl (Ev.bind (eqLinkS_ev lk h) (evPos rfl (Ev.now _)))
structure IW where
 d0:Int
 l1:List S133
 l2:List Int
 l3:List Int
 l4:List S103
 l5:List Int
 l6:List Int
 d7:Int
 d8:Int
 d9:Int
 d10:Int
 l11:List S62
 d12:Int
structure IP where
 A1:Option Addr
 c1:Nat
 A2:Option Addr
 c2:Nat
 A3:Option Addr
 c3:Nat
 A4:Option Addr
 c4:Nat
 A5:Option Addr
 c5:Nat
 A6:Option Addr
 c6:Nat
 A11:Option Addr
 c11:Nat
abbrev IW.cells (x:IW) (p:IP):Array Value:=#[.int .i64 x.d0,.slice p.A1 x.l1.length p.c1,.slice p.A2 x.l2.length p.c2,.slice p.A3 x.l3.length p.c3,.slice p.A4 x.l4.length p.c4,.slice p.A5 x.l5.length p.c5,.slice p.A6 x.l6.length p.c6,.int .i64 x.d7,.int .i64 x.d8,.int .i64 x.d9,.int .i64 x.d10,.slice p.A11 x.l11.length p.c11,.int .i64 x.d12]
structure IW.Rd (x:IW) (p:IP) (w:World):Prop where
 r1:Kd.C k133 w p.A1 x.l1.length x.l1
 h1:x.l1.length≤p.c1
 r2:Kd.C (Kd.int .i64) w p.A2 x.l2.length x.l2
 h2:x.l2.length≤p.c2
 r3:Kd.C (Kd.int .i64) w p.A3 x.l3.length x.l3
 h3:x.l3.length≤p.c3
 r4:Kd.C k103 w p.A4 x.l4.length x.l4
 h4:x.l4.length≤p.c4
 r5:Kd.C (Kd.int .i64) w p.A5 x.l5.length x.l5
 h5:x.l5.length≤p.c5
 r6:Kd.C (Kd.int .i64) w p.A6 x.l6.length x.l6
 h6:x.l6.length≤p.c6
 r11:Kd.C k62 w p.A11 x.l11.length x.l11
 h11:x.l11.length≤p.c11
theorem IW.Rd.below {x:IW} {p:IP} {w w1:World} (h:x.Rd p w) (hb:Below w.heap.size w w1):x.Rd p w1:=⟨Kd.C_below h.r1 hb,h.h1,Kd.C_below h.r2 hb,h.h2,Kd.C_below h.r3 hb,h.h3,Kd.C_below h.r4 hb,h.h4,Kd.C_below h.r5 hb,h.h5,Kd.C_below h.r6 hb,h.h6,Kd.C_below h.r11 hb,h.h11⟩
theorem IW.at_ {x:IW} {p:IP} {w:World} {g t:Nat} (h:w.heap[g]?=some (.cells (x.cells p) t (0,0))):w.cell? ⟨g,0,none⟩=some (.int .i64 x.d0) ∧w.cell? ⟨g,1,none⟩=some (.slice p.A1 x.l1.length p.c1) ∧w.cell? ⟨g,2,none⟩=some (.slice p.A2 x.l2.length p.c2) ∧w.cell? ⟨g,3,none⟩=some (.slice p.A3 x.l3.length p.c3) ∧w.cell? ⟨g,4,none⟩=some (.slice p.A4 x.l4.length p.c4) ∧w.cell? ⟨g,5,none⟩=some (.slice p.A5 x.l5.length p.c5) ∧w.cell? ⟨g,6,none⟩=some (.slice p.A6 x.l6.length p.c6) ∧w.cell? ⟨g,7,none⟩=some (.int .i64 x.d7) ∧w.cell? ⟨g,8,none⟩=some (.int .i64 x.d8) ∧w.cell? ⟨g,9,none⟩=some (.int .i64 x.d9) ∧w.cell? ⟨g,10,none⟩=some (.int .i64 x.d10) ∧w.cell? ⟨g,11,none⟩=some (.slice p.A11 x.l11.length p.c11) ∧w.cell? ⟨g,12,none⟩=some (.int .i64 x.d12) :=⟨(blk_cell h 0).trans rfl,(blk_cell h 1).trans rfl,(blk_cell h 2).trans rfl,(blk_cell h 3).trans rfl,(blk_cell h 4).trans rfl,(blk_cell h 5).trans rfl,(blk_cell h 6).trans rfl,(blk_cell h 7).trans rfl,(blk_cell h 8).trans rfl,(blk_cell h 9).trans rfl,(blk_cell h 10).trans rfl,(blk_cell h 11).trans rfl,(blk_cell h 12).trans rfl⟩
structure IW.Md (x:IW) (p:IP) (w:World) (base:Nat) (ok:Nat→Prop):Prop where
 m1:Kd.R k133 133 w base (fun k_=>ok k_) (.slice p.A1 x.l1.length p.c1) x.l1
 m2:Kd.R (Kd.int .i64) 3 w base (fun k_=>ok k_∧some k_≠(.slice p.A3 x.l3.length p.c3:Value).ownBlock∧some k_≠(.slice p.A5 x.l5.length p.c5:Value).ownBlock∧some k_≠(.slice p.A6 x.l6.length p.c6:Value).ownBlock) (.slice p.A2 x.l2.length p.c2) x.l2
 m3:Kd.R (Kd.int .i64) 3 w base (fun k_=>ok k_∧some k_≠(.slice p.A2 x.l2.length p.c2:Value).ownBlock∧some k_≠(.slice p.A5 x.l5.length p.c5:Value).ownBlock∧some k_≠(.slice p.A6 x.l6.length p.c6:Value).ownBlock) (.slice p.A3 x.l3.length p.c3) x.l3
 m4:Kd.S k103 103 w base (fun k_=>ok k_∧some k_≠(.slice p.A2 x.l2.length p.c2:Value).ownBlock∧some k_≠(.slice p.A3 x.l3.length p.c3:Value).ownBlock∧some k_≠(.slice p.A5 x.l5.length p.c5:Value).ownBlock∧some k_≠(.slice p.A6 x.l6.length p.c6:Value).ownBlock) (.slice p.A4 x.l4.length p.c4) x.l4
 m5:Kd.R (Kd.int .i64) 3 w base (fun k_=>ok k_∧some k_≠(.slice p.A2 x.l2.length p.c2:Value).ownBlock∧some k_≠(.slice p.A3 x.l3.length p.c3:Value).ownBlock∧some k_≠(.slice p.A6 x.l6.length p.c6:Value).ownBlock) (.slice p.A5 x.l5.length p.c5) x.l5
 m6:Kd.R (Kd.int .i64) 3 w base (fun k_=>ok k_∧some k_≠(.slice p.A2 x.l2.length p.c2:Value).ownBlock∧some k_≠(.slice p.A3 x.l3.length p.c3:Value).ownBlock∧some k_≠(.slice p.A5 x.l5.length p.c5:Value).ownBlock) (.slice p.A6 x.l6.length p.c6) x.l6
 m11:Kd.R k62 62 w base (fun k_=>ok k_) (.slice p.A11 x.l11.length p.c11) x.l11
theorem IW.Md.rd {x:IW} {p:IP} {w:World} {base:Nat} {ok:Nat→Prop} (h:x.Md p w base ok):x.Rd p w:=⟨(Kd.R_reads' h.m1).2.2,(Kd.R_reads' h.m1).2.1,(Kd.R_reads' h.m2).2.2,(Kd.R_reads' h.m2).2.1,(Kd.R_reads' h.m3).2.2,(Kd.R_reads' h.m3).2.1,(Kd.S_reads' h.m4).2.2,(Kd.S_reads' h.m4).2.1,(Kd.R_reads' h.m5).2.2,(Kd.R_reads' h.m5).2.1,(Kd.R_reads' h.m6).2.2,(Kd.R_reads' h.m6).2.1,(Kd.R_reads' h.m11).2.2,(Kd.R_reads' h.m11).2.1⟩
theorem IW.Md.step {x:IW} {p:IP} {w w1:World} {base:Nat} {ok:Nat→Prop} (h:x.Md p w base ok) (hm:∀ k,ok k→k < w.heap.size→w1.heap[k]?=w.heap[k]?):x.Md p w1 base ok:=⟨Kd.R_step h.m1 (fun k hk hl=>hm k hk hl),Kd.R_step h.m2 (fun k hk hl=>hm k hk.1 hl),Kd.R_step h.m3 (fun k hk hl=>hm k hk.1 hl),Kd.S_step h.m4 (fun k hk hl=>hm k hk.1 hl),Kd.R_step h.m5 (fun k hk hl=>hm k hk.1 hl),Kd.R_step h.m6 (fun k hk hl=>hm k hk.1 hl),Kd.R_step h.m11 (fun k hk hl=>hm k hk hl)⟩
theorem IW.Md.below {x:IW} {p:IP} {w w1:World} {base:Nat} {ok:Nat→Prop} (h:x.Md p w base ok) (hb:Below w.heap.size w w1):x.Md p w1 base ok:=h.step (fun k _ hl=>hb.block k hl)
theorem IW.Md.kept {x:IW} {p:IP} {w w1:World} {base:Nat} {ok S:Nat→Prop} (h:x.Md p w base ok) (hk:Kept w w1 S) (hne:∀ k,ok k→¬ S k):x.Md p w1 base ok:=h.step (fun k ho hl=>hk.2 k hl (hne k ho))
theorem IW.Md.lower {x:IW} {p:IP} {w:World} {base base':Nat} {ok:Nat→Prop} (h:x.Md p w base ok) (hb:base'≤base):x.Md p w base' ok:=⟨Kd.R_lower h.m1 hb,Kd.R_lower h.m2 hb,Kd.R_lower h.m3 hb,Kd.S_lower h.m4 hb,Kd.R_lower h.m5 hb,Kd.R_lower h.m6 hb,Kd.R_lower h.m11 hb⟩
theorem IW.Md.mono {x:IW} {p:IP} {w:World} {base:Nat} {ok ok':Nat→Prop} (h:x.Md p w base ok) (hok:∀ k,ok k→ok' k):x.Md p w base ok':=⟨Kd.R_mono h.m1 (fun k hk=>hok k hk),Kd.R_mono h.m2 (fun k hk=>⟨hok k hk.1,hk.2⟩),Kd.R_mono h.m3 (fun k hk=>⟨hok k hk.1,hk.2⟩),Kd.S_mono h.m4 (fun k hk=>⟨hok k hk.1,hk.2⟩),Kd.R_mono h.m5 (fun k hk=>⟨hok k hk.1,hk.2⟩),Kd.R_mono h.m6 (fun k hk=>⟨hok k hk.1,hk.2⟩),Kd.R_mono h.m11 (fun k hk=>hok k hk)⟩
structure LP where
 A1:Option Addr
 c1:Nat
 A2:Option Addr
 c2:Nat
 A3:Option Addr
 c3:Nat
 A4:Option Addr
 c4:Nat
 A5:Option Addr
 c5:Nat
 A6:Option Addr
 c6:Nat
 A11:Option Addr
 c11:Nat
def IW.Ok (x:IW):Prop:=okW' x.l1 x.l2 x.l3 x.l4 x.l5 x.l6 x.l11
theorem rB {α:Type} {d:Kd α} {e b:Nat} {ok:Nat→Prop} {v:Value} {xs:List α} {w w1:World} (h:Aside0 (Kd.R d e w b ok v xs)) (hb:Below w.heap.size w w1):Aside0 (Kd.R d e w1 b ok v xs) :=⟨Kd.R_below h.out hb⟩
theorem xB {g:Nat} {o:Obj} {w w1:World} (h:Aside0 (w.heap[g]?=some o)) (hb:Below w.heap.size w w1):Aside0 (w1.heap[g]?=some o) :=⟨blk_below h.out hb⟩
theorem mB {x:IW} {p:IP} {w w1:World} {b:Nat} {ok:Nat→Prop} (h:Aside0 (x.Md p w b ok)) (hb:Below w.heap.size w w1):Aside0 (x.Md p w1 b ok) :=⟨h.out.below hb⟩
theorem sB {w0 w w1:World} (h:Aside0 (Below w0.heap.size w0 w)) (hb:Below w.heap.size w w1):Aside0 (Below w0.heap.size w0 w1) :=⟨below_step h.out hb⟩
theorem bW {w w':World} (z:Below w.heap.size w w':=by repeat (first|(with_reducible first|exact Below.refl _ _|apply below_alloc|apply pw_below_drewN|apply below_drew1)|exact Below.refl _ _)):Below w.heap.size w w':=z
theorem bV {w w':World} (z:Below w.heap.size w w':=by repeat (first|(with_reducible exact Below.refl _ _)|refine below_set ?_ (Nat.le_refl _)|apply below_alloc|apply pw_below_drewN)):Below w.heap.size w w':=z
theorem bN {g:Nat} {o:Obj} {w':World} (z:w'.heap[g]?=some o:=by (repeat (refine blk_drewN ?_ _));exact blk_new _ _):w'.heap[g]?=some o:=z
theorem rBS {α:Type} {d:Kd α} {e b:Nat} {ok:Nat→Prop} {v:Value} {xs:List α} {w w1:World} (h:Aside0 (Kd.S d e w b ok v xs)) (hb:Below w.heap.size w w1):Aside0 (Kd.S d e w1 b ok v xs) :=⟨Kd.S_below h.out hb⟩
theorem rK {α:Type} {d:Kd α} {e b:Nat} {ok S:Nat→Prop} {v:Value} {xs:List α} {w w1:World} (h:Aside0 (Kd.R d e w b ok v xs)) (hk:Kept w w1 S) (hd:∀ k,ok k→¬ S k):Aside0 (Kd.R d e w1 b ok v xs) :=⟨Kd.R_kept h.out hk hd⟩
theorem rKS {α:Type} {d:Kd α} {e b:Nat} {ok S:Nat→Prop} {v:Value} {xs:List α} {w w1:World} (h:Aside0 (Kd.S d e w b ok v xs)) (hk:Kept w w1 S) (hd:∀ k,ok k→¬ S k):Aside0 (Kd.S d e w1 b ok v xs) :=⟨Kd.S_kept h.out hk hd⟩
def hasB (l:List Int) (v:Int):Bool:=l.any fun x=>decide (x=v)
theorem spec_l7Has_l0 (v:Int):∀ (suf pre:List Int),(pre ++ suf).length≤1048576→Ev (fun k=>spec_l7Has.l0 k (pre ++ suf) v (pre.length:Int)) (hasB suf v) :=by
 intro suf
 induction suf with
 | nil =>
  intro pre hb
  refine Ev.step (fun k=>by rw [spec_l7Has.l0]) ?_
  exact evNeg (by simp) (Ev.now _)
 | cons x suf ih =>
  intro pre hb
  simp only [List.length_append,List.length_cons] at hb
  refine Ev.step (fun k=>by rw [spec_l7Has.l0]) ?_
  refine evPos (by simp only [List.length_append,List.length_cons];omega) (evPos (by omega) ?_)
  rw [rd_mid,wsucc (by omega)]
  by_cases hx:x=v
  ·refine evPos hx (evEq ?_ (Ev.now _))
   simp [hasB,hx]
  ·have h:=ih (pre ++ [x]) (by simp;omega)
   refine evNeg hx (evEq ?_ (Ev.congr (fun k=>?_) h))
   ·simp [hasB,hx]
   ·simp
theorem spec_l7Has_ev (l:List Int) (v:Int) (hl:l.length≤1048576):Ev (fun k=>spec_l7Has.f k l v) (hasB l v) :=by
 unfold spec_l7Has.f
 exact spec_l7Has_l0 v l [] (by simpa using hl)
theorem slices_Index_l0 (v:Int):∀ (suf pre:List Int),(pre ++ suf).length≤1048576 →
  ∃ r,Ev (fun k=>slices_Index_int_int.l0 k (pre ++ suf) v ((pre ++ suf).length:Int) (pre.length:Int)) r∧decide (r≥0)=hasB suf v:=by
 intro suf
 induction suf with
 | nil =>
  intro pre hb
  exact ⟨-1,Ev.step (fun k=>by rw [slices_Index_int_int.l0]) (evNeg (by simp) (Ev.now _)),rfl⟩
 | cons x suf ih =>
  intro pre hb
  simp only [List.length_append,List.length_cons] at hb
  by_cases hx:v=x
  ·refine ⟨(pre.length:Int),Ev.step (fun k=>by rw [slices_Index_int_int.l0]) ?_,?_⟩
   ·refine evPos (by simp only [List.length_append,List.length_cons];omega) (evPos (by omega) (evPos (by simp only [List.length_append,List.length_cons];omega) ?_))
    rw [rd_mid]
    exact evPos hx (Ev.now _)
   ·simp [hasB,hx]
  ·obtain ⟨r,h,e⟩ :=ih (pre ++ [x]) (by simp;omega)
   refine ⟨r,Ev.step (fun k=>by rw [slices_Index_int_int.l0]) ?_,?_⟩
   ·refine evPos (by simp only [List.length_append,List.length_cons];omega) (evPos (by omega) (evPos (by simp only [List.length_append,List.length_cons];omega) ?_))
    rw [rd_mid,wsucc (by omega)]
    exact evNeg hx (Ev.congr (fun k=>by simp) h)
   ·rw [e]
    have:¬ x=v:=fun c=>hx c.symm
    simp [hasB,this]
theorem slices_Contains_ev (l:List Int) (v:Int) (hl:l.length≤1048576):Ev (fun k=>slices_Contains_int_int.f k l v) (hasB l v) :=by
 unfold slices_Contains_int_int.f slices_Index_int_int.f
 obtain ⟨r,h,e⟩ :=slices_Index_l0 v l [] (by simpa using hl)
 exact Ev.bind h (evEq e (Ev.now _))
theorem impl_at_eq (a n:Int):impl_at.f a n=some (decide (0≤a∧a < n)) :=by
 unfold impl_at.f
 by_cases h:a≥0
 ·rw [if_pos h]
  simp [show 0≤a from h]
 ·rw [if_neg h]
  have:¬ 0≤a:=h
  simp [this]
theorem impl_InRange_eq (a b c:Int):impl_InRange.f a b c=some (decide (b≤a∧a≤c)) :=by
 unfold impl_InRange.f
 by_cases h:b≤a
 ·rw [if_pos h]
  simp [h]
 ·rw [if_neg h]
  simp [h]
theorem spec_l1In_eq (a b c:Int):spec_l1In.f a b c=some (decide (b≤a∧a≤c)) :=by
 unfold spec_l1In.f
 by_cases h:a≥b
 ·rw [if_pos h]
  simp [show b≤a from h]
 ·rw [if_neg h]
  have:¬ b≤a:=h
  simp [this]
def endF (lk:List S133):List Int→Int→Int
 | [],a=>a
 | x :: xs,a=>if 0≤x∧x < (lk.length:Int) then (if a=(rd_T133 lk x).f0 then endF lk xs (rd_T133 lk x).f1 else if a=(rd_T133 lk x).f1 then endF lk xs (rd_T133 lk x).f0 else -1) else -1
theorem impl_EndOf_l0 (nd:Int) (lk:List S133):∀ (suf pre:List Int) (a:Int),(pre ++ suf).length≤1048576 →
  Ev (fun k=>impl_EndOf.l0 k a (pre ++ suf) ((pre ++ suf).length:Int) (pre.length:Int) nd lk) (endF lk suf a) :=by
 intro suf
 induction suf with
 | nil =>
  intro pre a hb
  refine Ev.step (fun k=>by rw [impl_EndOf.l0]) ?_
  exact evNeg (by simp) (evEq (by simp [endF]) (Ev.now _))
 | cons x suf ih =>
  intro pre a hb
  simp only [List.length_append,List.length_cons] at hb
  have h:=fun b=>ih (pre ++ [x]) b (by simp;omega)
  refine Ev.step (fun k=>by rw [impl_EndOf.l0]) ?_
  refine evPos (by simp only [List.length_append,List.length_cons];omega) (evPos (by omega) (evPos (by simp only [List.length_append,List.length_cons];omega) ?_))
  rw [rd_mid,wsucc (by omega)]
  refine evSome (impl_at_eq _ _) ?_
  by_cases hx:0≤x∧x < (lk.length:Int)
  ·refine evPos (by simpa using hx) (evPos hx.1 (evPos hx.2 ?_))
   by_cases h1:a=(rd_T133 lk x).f0
   ·refine evPos h1 (evSome (a:=(rd_T133 lk x).f1) (by unfold impl_Link_across.f;rw [if_pos h1]) (evEq ?_ (Ev.congr (fun k=>?_) (h (rd_T133 lk x).f1))))
    ·rw [endF,if_pos hx,if_pos h1]
    ·simp
   ·refine evNeg h1 ?_
    by_cases h2:a=(rd_T133 lk x).f1
    ·refine evPos h2 (evSome (a:=(rd_T133 lk x).f0) (by unfold impl_Link_across.f;rw [if_neg h1,if_pos h2]) (evEq ?_ (Ev.congr (fun k=>?_) (h (rd_T133 lk x).f0))))
     ·rw [endF,if_pos hx,if_neg h1,if_pos h2]
     ·simp
    ·exact evNeg h2 (evEq (by rw [endF,if_pos hx,if_neg h1,if_neg h2]) (Ev.now _))
  ·exact evNeg (by simpa using hx) (evEq (by rw [endF,if_neg hx]) (Ev.now _))
theorem impl_EndOf_ev (nd:Int) (lk:List S133) (path:List Int) (a:Int) (hl:path.length≤1048576):Ev (fun k=>impl_EndOf.f k nd lk path a) (endF lk path a) :=by
 have h:=impl_EndOf_l0 nd lk path [] a (by simpa using hl)
 simpa [impl_EndOf.f] using h
theorem spec_EndOf_l0 (nd:Int) (lk:List S133) (hlk:lk.length≤1048576):∀ (suf pre:List Int) (a:Int),(pre ++ suf).length≤1048576 →
  Ev (fun k=>spec_EndOf.l0 k (pre ++ suf) a (pre.length:Int) nd lk) (endF lk suf a) :=by
 intro suf
 induction suf with
 | nil =>
  intro pre a hb
  refine Ev.step (fun k=>by rw [spec_EndOf.l0]) ?_
  exact evNeg (by simp) (evEq (by simp [endF]) (Ev.now _))
 | cons x suf ih =>
  intro pre a hb
  simp only [List.length_append,List.length_cons] at hb
  have h:=fun b=>ih (pre ++ [x]) b (by simp;omega)
  refine Ev.step (fun k=>by rw [spec_EndOf.l0]) ?_
  refine evPos (by simp only [List.length_append,List.length_cons];omega) (evPos (by omega) ?_)
  rw [rd_mid,wsucc (by omega),w64 (n:=(lk.length:Int) - 1) (by omega) (by omega)]
  refine evSome (spec_l1In_eq _ _ _) ?_
  by_cases hx:0≤x∧x < (lk.length:Int)
  ·refine evPos (by rw [decide_eq_true_eq];omega) (evPos hx.1 (evPos hx.2 ?_))
   by_cases h1:a=(rd_T133 lk x).f0
   ·refine evPos h1 (evEq ?_ (Ev.congr (fun k=>?_) (h (rd_T133 lk x).f1)))
    ·rw [endF,if_pos hx,if_pos h1]
    ·simp
   ·refine evNeg h1 ?_
    by_cases h2:a=(rd_T133 lk x).f1
    ·refine evPos h2 (evEq ?_ (Ev.congr (fun k=>?_) (h (rd_T133 lk x).f0)))
     ·rw [endF,if_pos hx,if_neg h1,if_pos h2]
     ·simp
    ·exact evNeg h2 (evEq (by rw [endF,if_pos hx,if_neg h1,if_neg h2]) (Ev.now _))
  ·exact evNeg (by rw [decide_eq_true_eq];omega) (evEq (by rw [endF,if_neg hx]) (Ev.now _))
theorem spec_EndOf_ev (nd:Int) (lk:List S133) (hlk:lk.length≤1048576) (path:List Int) (a:Int) (hl:path.length≤1048576):Ev (fun k=>spec_EndOf.f k nd lk path a) (endF lk path a) :=by
 have h:=spec_EndOf_l0 nd lk hlk path [] a (by simpa using hl)
 simpa [spec_EndOf.f] using h
def noRep:List Int→List Int→Bool
 | _,[] =>true
 | pre,x :: suf=>!hasB pre x && noRep (pre ++ [x]) suf
def pathB (lk:List S133) (path:List Int) (a b:Int):Bool:=noRep [] path && (decide (endF lk path a=b) && (decide (path.length=0) || decide (0≤b)))
theorem impl_IsPath_l0 (nd:Int) (lk:List S133) (path:List Int) (a b:Int) (hl:path.length≤1048576):∀ (suf pre:List Int),path=pre ++ suf →
  Ev (fun k=>impl_IsPath.l0 k path a b path (path.length:Int) (pre.length:Int) nd lk) (noRep pre suf && (decide (endF lk path a=b) && (decide (path.length=0) || decide (0≤b)))) :=by
 intro suf
 induction suf with
 | nil =>
  intro pre e
  have el:path.length=pre.length:=by rw [e];simp
  refine Ev.step (fun k=>by rw [impl_IsPath.l0]) ?_
  refine evNeg (by omega) (Ev.bind (impl_EndOf_ev nd lk path a hl) ?_)
  by_cases h1:endF lk path a=b
  ·refine evPos h1 ?_
   by_cases h2:path.length=0
   ·exact evPos (by omega) (evEq (by simp [noRep,h1,h2]) (Ev.now _))
   ·exact evNeg (by omega) (evEq (by simp [noRep,h1,h2]) (Ev.now _))
  ·exact evNeg h1 (evEq (by simp [noRep,h1]) (Ev.now _))
 | cons x suf ih =>
  intro pre e
  have el:path.length=pre.length + (suf.length + 1) :=by rw [e];simp
  have h:=ih (pre ++ [x]) (by rw [e];simp)
  have hr:rd path (pre.length:Int)=x:=by rw [e];exact rd_mid pre suf x
  have ht:path.take ((pre.length:Int)).toNat=pre:=by rw [e];simp
  refine Ev.step (fun k=>by rw [impl_IsPath.l0]) ?_
  refine evPos (by omega) (evPos (by omega) (evPos (by omega) (evPos (by omega) ?_)))
  rw [hr,ht,wsucc (by omega)]
  refine Ev.bind (slices_Contains_ev pre x (by omega)) ?_
  by_cases hb:hasB pre x=true
  ·exact evPos hb (evEq (by simp [noRep,hb]) (Ev.now _))
  ·refine evNeg hb (evEq ?_ (Ev.congr (fun k=>?_) h))
   ·simp [noRep,hb]
   ·simp
theorem impl_IsPath_ev (nd:Int) (lk:List S133) (path:List Int) (a b:Int) (hl:path.length≤1048576):Ev (fun k=>impl_IsPath.f k nd lk path a b) (pathB lk path a b) :=by
 have h:=impl_IsPath_l0 nd lk path a b hl path [] rfl
 simpa [impl_IsPath.f,pathB] using h
theorem spec_IsPath_l0 (nd:Int) (lk:List S133) (hlk:lk.length≤1048576) (path:List Int) (a b:Int) (hl:path.length≤1048576):∀ (suf pre:List Int),path=pre ++ suf →
  Ev (fun k=>spec_IsPath.l0 k path a b (pre.length:Int) nd lk) (noRep pre suf && (decide (endF lk path a=b) && (decide (path.length=0) || decide (0≤b)))) :=by
 intro suf
 induction suf with
 | nil =>
  intro pre e
  have el:path.length=pre.length:=by rw [e];simp
  refine Ev.step (fun k=>by rw [spec_IsPath.l0]) ?_
  refine evNeg (by omega) (Ev.bind (spec_EndOf_ev nd lk hlk path a hl) ?_)
  by_cases h1:endF lk path a=b
  ·refine evPos h1 ?_
   by_cases h2:0≤b
   ·exact evPos h2 (evEq (by simp [noRep,h1,h2]) (Ev.now _))
   ·refine evNeg h2 (evEq ?_ (Ev.now _))
    by_cases h3:path.length=0
    ·simp [noRep,h1,h2,h3]
    ·have h4:((path.length:Int) == 0)=false:=by rw [beq_eq_false_iff_ne];omega
     rw [h4,noRep,decide_eq_true h1,decide_eq_false h3,decide_eq_false h2]
     rfl
  ·exact evNeg h1 (evEq (by simp [noRep,h1]) (Ev.now _))
 | cons x suf ih =>
  intro pre e
  have el:path.length=pre.length + (suf.length + 1) :=by rw [e];simp
  have h:=ih (pre ++ [x]) (by rw [e];simp)
  have hr:rd path (pre.length:Int)=x:=by rw [e];exact rd_mid pre suf x
  have ht:path.take ((pre.length:Int)).toNat=pre:=by rw [e];simp
  refine Ev.step (fun k=>by rw [spec_IsPath.l0]) ?_
  refine evPos (by omega) (evPos (by omega) (evPos (by omega) ?_))
  rw [hr,ht,wsucc (by omega)]
  refine Ev.bind (spec_l7Has_ev pre x (by omega)) ?_
  by_cases hb:hasB pre x=true
  ·exact evPos hb (evEq (by simp [noRep,hb]) (Ev.now _))
  ·refine evNeg hb (evEq ?_ (Ev.congr (fun k=>?_) h))
   ·simp [noRep,hb]
   ·simp
theorem spec_IsPath_ev (nd:Int) (lk:List S133) (hlk:lk.length≤1048576) (path:List Int) (a b:Int) (hl:path.length≤1048576):Ev (fun k=>spec_IsPath.f k nd lk path a b) (pathB lk path a b) :=by
 have h:=spec_IsPath_l0 nd lk hlk path a b hl path [] rfl
 simpa [spec_IsPath.f,pathB] using h
def ascB:List Int→Bool
 | x :: y :: r=>decide (x < y) && ascB (y :: r)
 | _=>true
def setB (l:List Int) (n:Int):Bool:=(l.all fun x=>decide (0≤x∧x≤n - 1)) && ascB l
def snOk (p n:Int) (x:S62):Bool:=decide ((0≤x.f0∧x.f0 < p) ∧(0≤x.f1∧x.f1≤5) ∧(0≤x.f2∧x.f2≤n) ∧(0≤x.f3∧x.f3≤1000))
def snBad (x:S62):Bool:=!x.f4 || decide (x.f3=0)
def seenF (p n:Int):Int→List S62→Bool
 | _,[] =>true
 | last,x :: xs=>snOk p n x && (snBad x && (decide (last≤x.f2) && seenF p n x.f2 xs))
def areSeenB (l:List S62) (p n:Int):Bool:=seenF p n 0 l && decide (l.length≤60)
theorem spec_AreSeen_j1t (l:List S62) (p n i a b c d:Int) (e:Bool):Ev (fun k=>spec_AreSeen.j1 k l p n i true a b c d e) false :=
 Ev.step (fun k=>by rw [spec_AreSeen.j1]) (evPos rfl (Ev.now _))
def lastOf (l:List S62):Int:=match l.getLast? with|some q=>q.f2|none=>0
theorem spec_AreSeen_j1f (p n:Int) (pre suf:List S62) (x:S62) (R:Bool) (hb:(pre ++ x :: suf).length≤1048576) (h0:0≤x.f2)
  (hk:Ev (fun k=>spec_AreSeen.l0 k (pre ++ x :: suf) p n ((pre.length + 1:Nat):Int)) R) :
  Ev (fun k=>spec_AreSeen.j1 k (pre ++ x :: suf) p n (pre.length:Int) false x.f0 x.f1 x.f2 x.f3 x.f4) (snBad x && (decide (lastOf pre≤x.f2) && R)) :=by
 simp only [List.length_append,List.length_cons] at hb
 refine Ev.step (fun k=>by rw [spec_AreSeen.j1]) ?_
 refine evNeg (by simp) ?_
 have key:Ev (fun k=>if (pre.length:Int) > 0 then (if 0≤(wrap64 ((pre.length:Int) - 1)) then (if (wrap64 ((pre.length:Int) - 1)) < ((pre ++ x :: suf).length:Int) then (if ((rd_T62 (pre ++ x :: suf) (wrap64 ((pre.length:Int) - 1))).f2) > x.f2 then (some false) else (spec_AreSeen.l0 k (pre ++ x :: suf) p n (wrap64 ((pre.length:Int) + 1)))) else (none)) else (none)) else (spec_AreSeen.l0 k (pre ++ x :: suf) p n (wrap64 ((pre.length:Int) + 1)))) (decide (lastOf pre≤x.f2) && R) :=by
  rw [wsucc (by omega),w64 (by omega) (by omega)]
  rcases List.eq_nil_or_concat pre with rfl|⟨q,y,rfl⟩
  ·refine evNeg (by simp) (evEq ?_ hk)
   simp [lastOf,h0]
  ·have e1:((q ++ [y]).length:Int) - 1=(q.length:Int) :=by simp
   have e2:(q ++ [y]) ++ x :: suf=q ++ y :: x :: suf:=by simp
   have e3:rd_T62 ((q ++ [y]) ++ x :: suf) (q.length:Int)=y:=by rw [rd_T62,e2,getD_mid]
   have e4:lastOf (q ++ [y])=y.f2:=by simp [lastOf]
   rw [List.concat_eq_append] at *
   rw [e1,e3,e4]
   refine evPos (by simp <;> omega) (evPos (by omega) (evPos (by simp only [List.length_append,List.length_cons,List.length_nil];omega) ?_))
   by_cases hc:y.f2 > x.f2
   ·refine evPos hc (evEq ?_ (Ev.now _))
    have:decide (y.f2≤x.f2)=false:=by simp;omega
    simp [this]
   ·refine evNeg hc (evEq ?_ hk)
    have:decide (y.f2≤x.f2)=true:=by simp;omega
    simp [this]
 by_cases h4:x.f4=true
 ·refine evPos h4 ?_
  by_cases h3:x.f3=0
  ·refine evPos h3 (evEq ?_ key)
   simp [snBad,h3]
  ·refine evNeg h3 (evEq ?_ (Ev.now _))
   simp [snBad,h3,h4]
 ·refine evNeg h4 (evEq ?_ key)
  have:x.f4=false:=by simpa using h4
  simp [snBad,this]
theorem spec_AreSeen_l0 (p n:Int):∀ (suf pre:List S62),(pre ++ suf).length≤1048576 →
  Ev (fun k=>spec_AreSeen.l0 k (pre ++ suf) p n (pre.length:Int)) (seenF p n (lastOf pre) suf && decide ((pre ++ suf).length≤60)) :=by
 intro suf
 induction suf with
 | nil =>
  intro pre hb
  refine Ev.step (fun k=>by rw [spec_AreSeen.l0]) ?_
  refine evNeg (by simp) (evEq ?_ (Ev.now _))
  simp only [seenF,Bool.true_and,decide_eq_decide] <;> omega
 | cons x suf ih =>
  intro pre hb
  have hb':=hb
  simp only [List.length_append,List.length_cons] at hb'
  refine Ev.step (fun k=>by rw [spec_AreSeen.l0]) ?_
  refine evPos (by simp only [List.length_append,List.length_cons];omega) (evPos (by omega) ?_)
  simp only [rd_T62,getD_mid]
  have h:=ih (pre ++ [x]) (by simpa using hb)
  have e1:lastOf (pre ++ [x])=x.f2:=by simp [lastOf]
  rw [e1] at h
  have h':Ev (fun k=>spec_AreSeen.l0 k (pre ++ x :: suf) p n ((pre.length + 1:Nat):Int)) (seenF p n x.f2 suf && decide ((pre ++ x :: suf).length≤60)) :=by simpa using h
  have bad:snOk p n x=false→false=(seenF p n (lastOf pre) (x :: suf) && decide ((pre ++ x :: suf).length≤60)) :=by
   intro hx
   simp [seenF,hx]
  by_cases c1:x.f0 < 0
  ·refine evPos c1 (evEq (bad ?_) (spec_AreSeen_j1t _ _ _ _ _ _ _ _ _))
   simp [snOk]
   omega
  refine evNeg c1 ?_
  by_cases c2:x.f0≥p
  ·refine evPos c2 (evEq (bad ?_) (spec_AreSeen_j1t _ _ _ _ _ _ _ _ _))
   simp [snOk]
   omega
  refine evNeg c2 (evSome (spec_l1In_eq _ _ _) ?_)
  by_cases c3:0≤x.f1∧x.f1≤5
  ·refine evPos (by simpa using c3) (evSome (spec_l1In_eq _ _ _) ?_)
   by_cases c4:0≤x.f2∧x.f2≤n
   ·refine evPos (by simpa using c4) (evSome (spec_l1In_eq _ _ _) ?_)
    by_cases c5:0≤x.f3∧x.f3≤1000
    ·have e:(!decide (0≤x.f3∧x.f3≤1000))=false:=by simp [c5]
     rw [e]
     refine evEq ?_ (spec_AreSeen_j1f p n pre suf x _ hb c4.1 h')
     have hx:snOk p n x=true:=by
      simp [snOk]
      omega
     simp only [seenF,hx,Bool.true_and,Bool.and_assoc]
    ·have e:(!decide (0≤x.f3∧x.f3≤1000))=true:=by simp [c5]
     rw [e]
     refine evEq (bad ?_) (spec_AreSeen_j1t _ _ _ _ _ _ _ _ _)
     simp [snOk]
     omega
   ·refine evNeg (by simpa using c4) (evEq (bad ?_) (spec_AreSeen_j1t _ _ _ _ _ _ _ _ _))
    simp [snOk]
    omega
  ·refine evNeg (by simpa using c3) (evEq (bad ?_) (spec_AreSeen_j1t _ _ _ _ _ _ _ _ _))
   simp [snOk]
   omega
theorem spec_AreSeen_ev (l:List S62) (p n:Int) (hl:l.length≤1048576):Ev (fun k=>spec_AreSeen.f k l p n) (areSeenB l p n) :=by
 unfold spec_AreSeen.f
 exact spec_AreSeen_l0 p n l [] (by simpa using hl)
theorem impl_AreSeen_l0 (p n:Int):∀ (suf pre:List S62) (last:Int),(pre ++ suf).length≤60→0≤last →
  Ev (fun k=>impl_AreSeen.l0 k p n last (pre ++ suf) ((pre ++ suf).length:Int) (pre.length:Int)) (seenF p n last suf) :=by
 intro suf
 induction suf with
 | nil =>
  intro pre last hb h0
  refine Ev.step (fun k=>by rw [impl_AreSeen.l0]) ?_
  exact evNeg (by simp) (Ev.now _)
 | cons x suf ih =>
  intro pre last hb h0
  simp only [List.length_append,List.length_cons] at hb
  refine Ev.step (fun k=>by rw [impl_AreSeen.l0]) ?_
  refine evPos (by simp only [List.length_append,List.length_cons];omega) (evPos (by omega) (evPos (by simp only [List.length_append,List.length_cons];omega) ?_))
  simp only [rd_T62,getD_mid]
  rw [wsucc (by omega)]
  have bad:(snOk p n x && decide (last≤x.f2))=false→false=seenF p n last (x :: suf) :=by
   intro hx
   rw [seenF]
   cases h1:snOk p n x <;> cases h2:decide (last≤x.f2) <;> simp_all
  refine evSome (impl_at_eq _ _) ?_
  by_cases c1:0≤x.f0∧x.f0 < p
  ·refine evPos (by simpa using c1) (evSome (impl_at_eq _ _) ?_)
   by_cases c2:0≤x.f1∧x.f1 < 6
   ·refine evPos (by simpa using c2) (evSome (impl_InRange_eq _ _ _) ?_)
    by_cases c3:last≤x.f2∧x.f2≤n
    ·refine evPos (by simpa using c3) (evSome (impl_InRange_eq _ _ _) ?_)
     by_cases c4:0≤x.f3∧x.f3≤1000
     ·refine evPos (by simpa using c4) ?_
      have h:=ih (pre ++ [x]) x.f2 (by simp;omega) (by omega)
      have h':Ev (fun k=>impl_AreSeen.l0 k p n x.f2 (pre ++ x :: suf) ((pre ++ x :: suf).length:Int) ((pre.length + 1:Nat):Int)) (seenF p n x.f2 suf) :=by simpa using h
      have hx:snOk p n x=true:=by
       simp [snOk]
       omega
      have hd:decide (last≤x.f2)=true:=by simp [c3.1]
      by_cases h4:x.f4=true
      ·refine evPos h4 ?_
       by_cases h3:x.f3=0
       ·refine evPos h3 (evEq ?_ h')
        simp only [seenF,hx,hd,snBad,h3,decide_true,Bool.or_true,Bool.true_and]
       ·refine evNeg h3 (evEq ?_ (Ev.now _))
        simp [seenF,hx,snBad,h3,h4]
      ·refine evNeg h4 (evEq ?_ h')
       have:x.f4=false:=by simpa using h4
       simp only [seenF,hx,hd,snBad,this,Bool.not_false,Bool.true_or,Bool.true_and]
     ·refine evNeg (by simpa using c4) (evEq (bad ?_) (Ev.now _))
      simp [snOk]
      omega
    ·refine evNeg (by simpa using c3) (evEq (bad ?_) (Ev.now _))
     simp [snOk]
     omega
   ·refine evNeg (by simpa using c2) (evEq (bad ?_) (Ev.now _))
    simp [snOk]
    omega
  ·refine evNeg (by simpa using c1) (evEq (bad ?_) (Ev.now _))
   simp [snOk]
   omega
theorem impl_AreSeen_ev (l:List S62) (p n:Int) (hl:l.length≤1048576):Ev (fun k=>impl_AreSeen.f k l p n) (areSeenB l p n) :=by
 unfold impl_AreSeen.f
 by_cases h:(l.length:Int) > 60
 ·refine evPos h (evEq ?_ (Ev.now _))
  have:decide (l.length≤60)=false:=by simp;omega
  simp [areSeenB,this]
 ·refine evNeg h (evEq ?_ (impl_AreSeen_l0 p n l [] 0 (by simp;omega) (by omega)))
  have:decide (l.length≤60)=true:=by simp;omega
  simp [areSeenB,this]
theorem evAndW {g:Nat→Option Bool} {b r:Bool} (h:Ev g r):Ev (fun k=>if b=true then g k else some false) (b && r) :=by
 cases b with
 | true=>exact evPos rfl h
 | false=>exact evNeg (by decide) (Ev.now _)
theorem evAndP {g:Nat→Option Bool} {c:Prop} [Decidable c] {r:Bool} (h:Ev g r):Ev (fun k=>if c then g k else some false) (decide c && r) :=by
 by_cases hc:c
 ·exact evPos hc (evEq (by simp [hc]) h)
 ·exact evNeg hc (evEq (by simp [hc]) (Ev.now _))
theorem evAndE {g f:Nat→Option Bool} {b r:Bool} (h:Ev g r) (hf:Ev f false):Ev (fun k=>if b=true then g k else f k) (b && r) :=by
 cases b with
 | true=>exact evPos rfl h
 | false=>exact evNeg (by decide) hf
theorem evAndQ {g f:Nat→Option Bool} {c:Prop} [Decidable c] {r:Bool} (h:Ev g r) (hf:Ev f false):Ev (fun k=>if c then g k else f k) (decide c && r) :=by
 by_cases hc:c
 ·exact evPos hc (evEq (by simp [hc]) h)
 ·exact evNeg hc (evEq (by simp [hc]) hf)
def netF (nd:Int) (lk:List S133):Int→List S133→Bool
 | _,[] =>true
 | i,x :: xs=>decide ((0≤x.f0∧x.f0 < nd) ∧(0≤x.f1∧x.f1 < nd) ∧x.f0≠x.f1∧linkV lk x.f0 x.f1=i) && netF nd lk (i + 1) xs
def netB (nd:Int) (lk:List S133):Bool:=decide (1≤nd∧nd≤8) && (decide (1≤(lk.length:Int) ∧(lk.length:Int) ≤6) && netF nd lk 0 lk)
theorem firstP_le {α:Type} (p:α→Bool) (suf:List α) (x:α) (hx:p x=true):∀ (pre:List α) (n:Nat),firstP p (pre ++ x :: suf) n≤(n + pre.length:Nat)
 | [],n=>by simp [firstP,hx]
 | y :: pre,n=>by
  rw [List.cons_append,firstP]
  split
  ·simp only [List.length_cons];omega
  ·have:=firstP_le p suf x hx pre (n + 1)
   simp only [List.length_cons];omega
theorem lnk_self (x:S133):lnk x.f0 x.f1 x=true:=by simp [lnk]
theorem spec_LinkOf_l0 (nd a b:Int):∀ (suf pre:List S133),(pre ++ suf).length≤1048576 →
  Ev (fun k=>spec_LinkOf.l0 k a b (pre.length:Int) nd (pre ++ suf)) (firstP (lnk a b) suf pre.length) :=by
 intro suf
 induction suf with
 | nil =>
  intro pre hb
  refine Ev.step (fun k=>by rw [spec_LinkOf.l0]) ?_
  exact evNeg (by simp) (evEq (by simp [firstP]) (Ev.now _))
 | cons x suf ih =>
  intro pre hb
  simp only [List.length_append,List.length_cons] at hb
  have h:=ih (pre ++ [x]) (by simp;omega)
  refine Ev.step (fun k=>by rw [spec_LinkOf.l0]) ?_
  refine evPos (by simp only [List.length_append,List.length_cons];omega) (evPos (by omega) ?_)
  simp only [rd_T133,getD_mid]
  rw [wsucc (by omega)]
  by_cases h1:(x.f0 == a && (x.f1 == b))=true
  ·exact evPos h1 (evEq (by rw [firstP,if_pos (by rw [lnk,h1];rfl)]) (Ev.now _))
  ·refine evNeg h1 ?_
   by_cases h2:(x.f0 == b && (x.f1 == a))=true
   ·exact evPos h2 (evEq (by rw [firstP,if_pos (by rw [lnk,h2,Bool.or_true])]) (Ev.now _))
   ·refine evNeg h2 (evEq ?_ (Ev.congr (fun k=>?_) h))
    ·rw [firstP,if_neg (by rw [lnk,Bool.not_eq_true _ |>.mp h1,Bool.not_eq_true _ |>.mp h2];decide)]
     simp
    ·simp
theorem spec_LinkOf_ev (nd:Int) (lk:List S133) (a b:Int) (hl:lk.length≤1048576):Ev (fun k=>spec_LinkOf.f k nd lk a b) (linkV lk a b) :=by
 have h:=spec_LinkOf_l0 nd a b lk [] (by simpa using hl)
 simpa [spec_LinkOf.f,linkV] using h
theorem spec_IsNet_l0 (nd:Int) (lk:List S133) (hl:lk.length≤1048576) (hn:1≤nd∧nd≤8):∀ (suf pre:List S133),lk=pre ++ suf →
  Ev (fun k=>spec_IsNet.l0 k (pre.length:Int) nd lk) (netF nd lk (pre.length:Int) suf) :=by
 intro suf
 induction suf with
 | nil =>
  intro pre e
  have el:lk.length=pre.length:=by rw [e];simp
  refine Ev.step (fun k=>by rw [spec_IsNet.l0]) ?_
  exact evNeg (by omega) (evEq (by simp [netF]) (Ev.now _))
 | cons x suf ih =>
  intro pre e
  have el:lk.length=pre.length + (suf.length + 1) :=by rw [e];simp
  have h:=ih (pre ++ [x]) (by rw [e];simp)
  have hr:rd_T133 lk (pre.length:Int)=x:=by rw [rd_T133,e,getD_mid]
  have hle:linkV lk x.f0 x.f1≤(pre.length:Int) :=by
   have:=firstP_le (lnk x.f0 x.f1) suf x (lnk_self x) pre 0
   rw [← e] at this
   simpa [linkV] using this
  refine Ev.step (fun k=>by rw [spec_IsNet.l0]) ?_
  refine evPos (by omega) (evPos (by omega) ?_)
  rw [hr,wsucc (by omega),w64 (n:=nd - 1) (by omega) (by omega)]
  have ebad:¬ ((0≤x.f0∧x.f0 < nd) ∧(0≤x.f1∧x.f1 < nd) ∧x.f0≠x.f1∧linkV lk x.f0 x.f1=(pre.length:Int)) →false=netF nd lk (pre.length:Int) (x :: suf) :=fun hc=>by rw [netF,decide_eq_false hc];rfl
  refine evSome (spec_l1In_eq _ _ _) ?_
  by_cases c1:0≤x.f0∧x.f0≤nd - 1
  ·refine evPos (by simpa using c1) (evSome (spec_l1In_eq _ _ _) ?_)
   by_cases c2:0≤x.f1∧x.f1≤nd - 1
   ·refine evPos (by simpa using c2) ?_
    by_cases c0:x.f0=x.f1
    ·exact evPos c0 (evEq (ebad (fun hc=>hc.2.2.1 c0)) (Ev.now _))
    refine evNeg c0 (Ev.bind (spec_LinkOf_ev nd lk _ _ hl) ?_)
    by_cases c3:linkV lk x.f0 x.f1=(pre.length:Int)
    ·refine evNeg (by omega) (evEq ?_ (Ev.congr (fun k=>?_) h))
     ·rw [netF,decide_eq_true ⟨⟨c1.1,by omega⟩,⟨c2.1,by omega⟩,c0,c3⟩];simp
     ·simp
    ·exact evPos (by omega) (evEq (ebad (fun hc=>c3 hc.2.2.2)) (Ev.now _))
   ·exact evNeg (by simpa using c2) (evEq (ebad (fun hc=>c2 ⟨hc.2.1.1,by omega⟩)) (Ev.now _))
  ·exact evNeg (by simpa using c1) (evEq (ebad (fun hc=>c1 ⟨hc.1.1,by omega⟩)) (Ev.now _))
theorem spec_IsNet_ev (nd:Int) (lk:List S133) (hl:lk.length≤1048576):Ev (fun k=>spec_IsNet.f k nd lk) (netB nd lk) :=by
 unfold spec_IsNet.f
 have jt:Ev (fun k=>spec_IsNet.j0 k true nd lk) false:=Ev.step (fun k=>by rw [spec_IsNet.j0]) (evPos rfl (Ev.now _))
 refine evSome (spec_l1In_eq _ _ _) ?_
 by_cases hn:1≤nd∧nd≤8
 ·refine evPos (by simpa using hn) (evSome (spec_l1In_eq _ _ _) ?_)
  rw [netB,decide_eq_true hn,Bool.true_and]
  cases h:decide (1≤(lk.length:Int) ∧(lk.length:Int) ≤6) with
  | false=>exact jt
  | true =>
   refine Ev.step (fun k=>by rw [spec_IsNet.j0]) ?_
   refine evNeg (by decide) (evEq ?_ (spec_IsNet_l0 nd lk hl hn lk [] rfl))
   simp
 ·refine evNeg (by simpa using hn) (evEq ?_ jt)
  rw [netB,decide_eq_false hn]
  rfl
def setG (n:Int):Option Int→List Int→Bool
 | _,[] =>true
 | none,x :: xs=>decide (0≤x∧x≤n - 1) && setG n (some x) xs
 | some q,x :: xs=>decide (0≤x∧x≤n - 1) && (decide (q < x) && setG n (some x) xs)
theorem setG_some (n:Int):∀ (l:List Int) (q:Int),setG n (some q) l=((l.all fun x=>decide (0≤x∧x≤n - 1)) && ascB (q :: l))
 | [],q=>by simp [setG,ascB]
 | x :: xs,q=>by
  rw [setG,setG_some n xs x,List.all_cons,ascB]
  generalize decide (0≤x∧x≤n - 1)=b1;generalize decide (q < x)=b2;generalize (xs.all fun x=>decide (0≤x∧x≤n - 1))=b3;generalize ascB (x :: xs)=b4
  cases b1 <;> cases b2 <;> cases b3 <;> cases b4 <;> rfl
theorem setG_none (n:Int) (l:List Int):setG n none l=setB l n:=by
 cases l with
 | nil=>simp [setG,setB,ascB]
 | cons x xs =>
  rw [setG,setG_some,setB,List.all_cons,Bool.and_assoc]
theorem spec_l29Set_l0 (n:Int) (hn:0≤n∧n≤1048576):∀ (suf pre:List Int),(pre ++ suf).length≤1048576 →
  Ev (fun k=>spec_l29Set.l0 k (pre ++ suf) n (pre.length:Int)) (setG n pre.getLast? suf) :=by
 intro suf
 induction suf with
 | nil =>
  intro pre hb
  refine Ev.step (fun k=>by rw [spec_l29Set.l0]) ?_
  exact evNeg (by simp) (evEq (by simp [setG]) (Ev.now _))
 | cons x suf ih =>
  intro pre hb
  simp only [List.length_append,List.length_cons] at hb
  have h:=ih (pre ++ [x]) (by simp;omega)
  rw [show (pre ++ [x]).getLast?=some x by simp] at h
  have h':Ev (fun k=>spec_l29Set.l0 k (pre ++ x :: suf) n ((pre.length + 1:Nat):Int)) (setG n (some x) suf) :=by simpa using h
  refine Ev.step (fun k=>by rw [spec_l29Set.l0]) ?_
  refine evPos (by simp only [List.length_append,List.length_cons];omega) (evPos (by omega) ?_)
  rw [rd_mid,w64 (n:=n - 1) (by omega) (by omega)]
  refine evSome (spec_l1In_eq _ _ _) ?_
  rw [wsucc (by omega)]
  by_cases c1:0≤x∧x≤n - 1
  ·refine evPos (by simpa using c1) ?_
   rcases List.eq_nil_or_concat pre with rfl|⟨q,y,rfl⟩
   ·refine evNeg (by simp) (evEq ?_ h')
    simp [setG,c1]
   ·rw [List.concat_eq_append] at *
    have e1:wrap64 (((q ++ [y]).length:Int) - 1)=(q.length:Int) :=by rw [w64 (by omega) (by omega)];simp
    have e3:rd (q ++ [y] ++ x :: suf) (q.length:Int)=y:=by rw [show q ++ [y] ++ x :: suf=q ++ y :: x :: suf by simp,rd_mid]
    rw [e1,e3]
    refine evPos (by simp <;> omega) (evPos (by omega) (evPos (by simp only [List.length_append,List.length_cons,List.length_nil];omega) ?_))
    rw [show (q ++ [y]).getLast?=some y by simp,setG,decide_eq_true c1,Bool.true_and]
    by_cases hc:y≥x
    ·exact evPos hc (evEq (by rw [decide_eq_false (by omega)];rfl) (Ev.now _))
    ·exact evNeg hc (evEq (by rw [decide_eq_true (by omega)];rfl) h')
  ·refine evNeg (by simpa using c1) (evEq ?_ (Ev.now _))
   cases pre.getLast? <;> simp [setG,c1]
theorem spec_l29Set_ev (l:List Int) (n:Int) (hl:l.length≤1048576) (hn:0≤n∧n≤1048576):Ev (fun k=>spec_l29Set.f k l n) (setB l n) :=by
 have h:=spec_l29Set_l0 n hn l [] (by simpa using hl)
 rw [← setG_none]
 simpa [spec_l29Set.f] using h
def bucketB (a b c d:Int):Bool:=decide (0≤b∧b≤1000) && (decide (0≤c∧c≤1000) && (decide (0≤a∧a≤b) && decide (0≤d∧d≤100000)))
theorem ite_and_ {b:Bool} {r:Bool}:(if b=true then some r else some false)=some (b && r) :=by cases b <;> rfl
theorem spec_IsBucket_eq (a b c d:Int):spec_IsBucket.f a b c d=some (bucketB a b c d) :=by
 unfold spec_IsBucket.f bucketB
 simp only [spec_l1In_eq,Option.bind_some,ite_and_]
def okProbe (lk:List S133) (x:S103):Bool:=!decide ((x.f2.length:Int)=0) && pathB lk x.f2 x.f0 x.f1
def probesB (nd:Int) (lk:List S133) (l:List S103):Bool:=l.all (okProbe lk) && (netB nd lk && decide ((l.length:Int) ≤12))
theorem spec_AreProbes_l0 (nd:Int) (lk:List S133) (hlk:lk.length≤1048576):∀ (suf pre:List S103),(pre ++ suf).length≤1048576→(∀ p∈suf,p.f2.length≤1048576) →
  Ev (fun k=>spec_AreProbes.l0 k (pre ++ suf) (pre.length:Int) nd lk) (suf.all (okProbe lk) && (netB nd lk && decide (((pre ++ suf).length:Int) ≤12))) :=by
 intro suf
 induction suf with
 | nil =>
  intro pre hb hp
  refine Ev.step (fun k=>by rw [spec_AreProbes.l0]) ?_
  refine evNeg (by simp) (evEq (by simp) (Ev.bind (spec_IsNet_ev nd lk hlk) (evAndW (Ev.now _))))
 | cons x suf ih =>
  intro pre hb hp
  simp only [List.length_append,List.length_cons] at hb
  have h:=ih (pre ++ [x]) (by simp;omega) (fun p h=>hp p (by simp [h]))
  refine Ev.step (fun k=>by rw [spec_AreProbes.l0]) ?_
  refine evPos (by simp only [List.length_append,List.length_cons];omega) (evPos (by omega) ?_)
  have hr:rd_T103 (pre ++ x :: suf) (pre.length:Int)=x:=by rw [rd_T103,getD_mid]
  rw [hr,wsucc (by omega),List.all_cons,okProbe]
  by_cases c0:(x.f2.length:Int)=0
  ·exact evPos c0 (evEq (by rw [decide_eq_true c0];rfl) (Ev.now _))
  ·refine evNeg c0 (Ev.bind (spec_IsPath_ev nd lk hlk x.f2 x.f0 x.f1 (hp x (by simp))) ?_)
   rw [decide_eq_false c0,Bool.not_false,Bool.true_and,Bool.and_assoc]
   refine evAndW ?_
   simpa using h
theorem spec_AreProbes_ev (nd:Int) (lk:List S133) (l:List S103) (hl:lk.length≤1048576) (hn:l.length≤1048576) (h:∀ p∈l,p.f2.length≤1048576):Ev (fun k=>spec_AreProbes.f k nd lk l) (probesB nd lk l) :=by
 have h:=spec_AreProbes_l0 nd lk hl l [] (by simpa using hn) h
 simpa [spec_AreProbes.f,probesB] using h
def worldT (l4:List S103) (l5 l6:List Int) (a7 a8 a9 a10:Int) (l11:List S62) (a12:Int):Bool:=decide ((l5.length:Int)=(l4.length:Int)) && (setB l6 6 && (bucketB a7 a8 a9 a10 && (decide (a10≤a12) && (areSeenB l11 (l4.length:Int) a12 && decide (0≤a12∧a12≤100000)))))
def worldB (a0_0:Int) (l0_1:(List S133)) (l0_2:(List Int)) (l0_3:(List Int)) (l0_4:(List S103)) (l0_5:(List Int)) (l0_6:(List Int)) (a0_7:Int) (a0_8:Int) (a0_9:Int) (a0_10:Int) (l0_11:(List S62)) (a0_12:Int):Bool:=(l0_2.all fun x=>decide (0≤x∧x≤100)) && ((l0_5.all fun x=>decide (0≤x∧x≤5)) && (netB a0_0 l0_1 && (decide ((l0_2.length:Int)=(l0_1.length:Int)) && (setB l0_3 (l0_1.length:Int) && (!decide ((l0_4.length:Int)=0) && (probesB a0_0 l0_1 l0_4 && worldT l0_4 l0_5 l0_6 a0_7 a0_8 a0_9 a0_10 l0_11 a0_12))))))
theorem spec_IsWorld_j2t (a0_0:Int) (l0_1:(List S133)) (l0_2:(List Int)) (l0_3:(List Int)) (l0_4:(List S103)) (l0_5:(List Int)) (l0_6:(List Int)) (a0_7:Int) (a0_8:Int) (a0_9:Int) (a0_10:Int) (l0_11:(List S62)) (a0_12:Int):Ev (fun k=>spec_IsWorld.j2 k true a0_0 l0_1 l0_2 l0_3 l0_4 l0_5 l0_6 a0_7 a0_8 a0_9 a0_10 l0_11 a0_12) false:=Ev.step (fun k=>by rw [spec_IsWorld.j2]) (evPos rfl (Ev.now _))
theorem spec_IsWorld_j2f (a0_0:Int) (l0_1:(List S133)) (l0_2:(List Int)) (l0_3:(List Int)) (l0_4:(List S103)) (l0_5:(List Int)) (l0_6:(List Int)) (a0_7:Int) (a0_8:Int) (a0_9:Int) (a0_10:Int) (l0_11:(List S62)) (a0_12:Int) (h:okW' l0_1 l0_2 l0_3 l0_4 l0_5 l0_6 l0_11):Ev (fun k=>spec_IsWorld.j2 k false a0_0 l0_1 l0_2 l0_3 l0_4 l0_5 l0_6 a0_7 a0_8 a0_9 a0_10 l0_11 a0_12) (worldT l0_4 l0_5 l0_6 a0_7 a0_8 a0_9 a0_10 l0_11 a0_12) :=by
 obtain ⟨o1,o2,o3,⟨o4,o4p⟩,o5,o6,o11⟩ :=h
 refine Ev.step (fun k=>by rw [spec_IsWorld.j2]) (evNeg (by decide) ?_)
 exact evAndP (Ev.bind (spec_l29Set_ev l0_6 6 o6 (by decide)) (evAndW (evSome (spec_IsBucket_eq _ _ _ _) (evAndW (evAndP (Ev.bind (spec_AreSeen_ev l0_11 _ _ o11) (evAndW (evSome (spec_l1In_eq _ _ _) (Ev.now _)))))))))
theorem spec_IsWorld_l1 (a0_0:Int) (l0_1:(List S133)) (l0_2:(List Int)) (l0_3:(List Int)) (l0_4:(List S103)) (l0_5:(List Int)) (l0_6:(List Int)) (a0_7:Int) (a0_8:Int) (a0_9:Int) (a0_10:Int) (l0_11:(List S62)) (a0_12:Int) (h:okW' l0_1 l0_2 l0_3 l0_4 l0_5 l0_6 l0_11):∀ (suf pre:List Int),l0_5=pre ++ suf →
  Ev (fun k=>spec_IsWorld.l1 k (pre.length:Int) a0_0 l0_1 l0_2 l0_3 l0_4 l0_5 l0_6 a0_7 a0_8 a0_9 a0_10 l0_11 a0_12) ((suf.all fun x=>decide (0≤x∧x≤5)) && (netB a0_0 l0_1 && (decide ((l0_2.length:Int)=(l0_1.length:Int)) && (setB l0_3 (l0_1.length:Int) && (!decide ((l0_4.length:Int)=0) && (probesB a0_0 l0_1 l0_4 && worldT l0_4 l0_5 l0_6 a0_7 a0_8 a0_9 a0_10 l0_11 a0_12)))))) :=by
 have jt:=spec_IsWorld_j2t a0_0 l0_1 l0_2 l0_3 l0_4 l0_5 l0_6 a0_7 a0_8 a0_9 a0_10 l0_11 a0_12
 have jf:=spec_IsWorld_j2f a0_0 l0_1 l0_2 l0_3 l0_4 l0_5 l0_6 a0_7 a0_8 a0_9 a0_10 l0_11 a0_12 h
 obtain ⟨o1,o2,o3,⟨o4,o4p⟩,o5,o6,o11⟩ :=h
 intro suf
 induction suf with
 | nil =>
  intro pre e
  have el:l0_5.length=pre.length:=by rw [e];simp
  refine Ev.step (fun k=>by rw [spec_IsWorld.l1]) ?_
  rw [List.all_nil,Bool.true_and]
  refine evNeg (by omega) (Ev.bind (spec_IsNet_ev a0_0 l0_1 o1) (evAndE (evAndQ (Ev.bind (spec_l29Set_ev l0_3 _ o3 ⟨by omega,by omega⟩) (evAndE ?_ jt)) jt) jt))
  by_cases h0:(l0_4.length:Int)=0
  ·exact evPos h0 (evEq (by rw [decide_eq_true h0];rfl) jt)
  ·refine evNeg h0 (Ev.bind (spec_AreProbes_ev a0_0 l0_1 l0_4 o1 o4 o4p) ?_)
   rw [decide_eq_false h0,Bool.not_false,Bool.true_and]
   cases probesB a0_0 l0_1 l0_4 with
   | true=>exact jf
   | false=>exact jt
 | cons x suf ih =>
  intro pre e
  have el:l0_5.length=pre.length + (suf.length + 1) :=by rw [e];simp
  have h:=ih (pre ++ [x]) (by rw [e];simp)
  have hr:rd l0_5 (pre.length:Int)=x:=by rw [e];exact rd_mid pre suf x
  refine Ev.step (fun k=>by rw [spec_IsWorld.l1]) ?_
  refine evPos (by omega) (evPos (by omega) ?_)
  rw [hr,wsucc (by omega),List.all_cons,Bool.and_assoc]
  refine evSome (spec_l1In_eq _ _ _) (evAndW (Ev.congr (fun k=>?_) h))
  simp
theorem spec_IsWorld_l0 (a0_0:Int) (l0_1:(List S133)) (l0_2:(List Int)) (l0_3:(List Int)) (l0_4:(List S103)) (l0_5:(List Int)) (l0_6:(List Int)) (a0_7:Int) (a0_8:Int) (a0_9:Int) (a0_10:Int) (l0_11:(List S62)) (a0_12:Int) (h:okW' l0_1 l0_2 l0_3 l0_4 l0_5 l0_6 l0_11):∀ (suf pre:List Int),l0_2=pre ++ suf →
  Ev (fun k=>spec_IsWorld.l0 k (pre.length:Int) a0_0 l0_1 l0_2 l0_3 l0_4 l0_5 l0_6 a0_7 a0_8 a0_9 a0_10 l0_11 a0_12) ((suf.all fun x=>decide (0≤x∧x≤100)) && ((l0_5.all fun x=>decide (0≤x∧x≤5)) && (netB a0_0 l0_1 && (decide ((l0_2.length:Int)=(l0_1.length:Int)) && (setB l0_3 (l0_1.length:Int) && (!decide ((l0_4.length:Int)=0) && (probesB a0_0 l0_1 l0_4 && worldT l0_4 l0_5 l0_6 a0_7 a0_8 a0_9 a0_10 l0_11 a0_12))))))) :=by
 have h1:=spec_IsWorld_l1 a0_0 l0_1 l0_2 l0_3 l0_4 l0_5 l0_6 a0_7 a0_8 a0_9 a0_10 l0_11 a0_12 h l0_5 [] rfl
 obtain ⟨o1,o2,o3,⟨o4,o4p⟩,o5,o6,o11⟩ :=h
 intro suf
 induction suf with
 | nil =>
  intro pre e
  have el:l0_2.length=pre.length:=by rw [e];simp
  refine Ev.step (fun k=>by rw [spec_IsWorld.l0]) ?_
  rw [List.all_nil,Bool.true_and]
  exact evNeg (by omega) (by simpa using h1)
 | cons x suf ih =>
  intro pre e
  have el:l0_2.length=pre.length + (suf.length + 1) :=by rw [e];simp
  have h:=ih (pre ++ [x]) (by rw [e];simp)
  have hr:rd l0_2 (pre.length:Int)=x:=by rw [e];exact rd_mid pre suf x
  refine Ev.step (fun k=>by rw [spec_IsWorld.l0]) ?_
  refine evPos (by omega) (evPos (by omega) ?_)
  rw [hr,wsucc (by omega),List.all_cons,Bool.and_assoc]
  refine evSome (spec_l1In_eq _ _ _) (evAndW (Ev.congr (fun k=>?_) h))
  simp
theorem spec_IsWorld_ev (a0_0:Int) (l0_1:(List S133)) (l0_2:(List Int)) (l0_3:(List Int)) (l0_4:(List S103)) (l0_5:(List Int)) (l0_6:(List Int)) (a0_7:Int) (a0_8:Int) (a0_9:Int) (a0_10:Int) (l0_11:(List S62)) (a0_12:Int) (h:okW' l0_1 l0_2 l0_3 l0_4 l0_5 l0_6 l0_11):Ev (fun k=>spec_IsWorld.f k a0_0 l0_1 l0_2 l0_3 l0_4 l0_5 l0_6 a0_7 a0_8 a0_9 a0_10 l0_11 a0_12) (worldB a0_0 l0_1 l0_2 l0_3 l0_4 l0_5 l0_6 a0_7 a0_8 a0_9 a0_10 l0_11 a0_12) :=by
 have h0:=spec_IsWorld_l0 a0_0 l0_1 l0_2 l0_3 l0_4 l0_5 l0_6 a0_7 a0_8 a0_9 a0_10 l0_11 a0_12 h l0_2 [] rfl
 unfold spec_IsWorld.f
 simpa [worldB] using h0
theorem rd_set {xs:List Int} {i j:Int} (v:Int) (hi:0≤i∧i < (xs.length:Int)) (hj:0≤j∧j < (xs.length:Int)):rd (xs.set i.toNat v) j=if j=i then v else rd xs j:=by
 obtain ⟨a,rfl⟩:∃ a:Nat,i=a:=⟨i.toNat,by omega⟩
 obtain ⟨b,rfl⟩:∃ b:Nat,j=b:=⟨j.toNat,by omega⟩
 rw [rd_at _ b (by simp;omega),rd_at xs b (by omega)]
 simp only [Int.toNat_natCast,List.getElem_set]
 by_cases e:a=b
 ·rw [if_pos e,if_pos (by omega)]
 ·rw [if_neg e,if_neg (by omega)]
def acr (l:S133) (v:Int):Int:=if v=l.f0 then l.f1 else if v=l.f1 then l.f0 else -1
structure FarOk (lk:List S133) (to_ B:Int) (far:List Int):Prop where
 lo:∀ v,0≤v→v < (far.length:Int) →-1≤rd far v∧rd far v≤B
 z:∀ v,0≤v→v < (far.length:Int) →rd far v=0→v=to_
 nb:∀ v,0≤v→v < (far.length:Int) →0 < rd far v→∃ (i:Nat) (h:i < lk.length),(0≤acr lk[i] v∧acr lk[i] v < (far.length:Int)) ∧rd far (acr lk[i] v)=rd far v - 1
theorem FarOk.put {lk:List S133} {to_ B o p r:Int} {far:List Int} (h:FarOk lk to_ B far) (ho:0≤o∧o < (far.length:Int)) (hn:rd far o < 0) (hp:0≤p∧p < (far.length:Int)) (hr:rd far p=r) (h0:0≤r) (hB:r + 1≤B)
  {l:S133} (hl:l∈lk) (ha:acr l o=p):FarOk lk to_ B (far.set o.toNat (r + 1)) :=by
 obtain ⟨i,hi,rfl⟩ :=List.getElem_of_mem hl
 have hne:p≠o:=fun e=>by rw [e] at hr;omega
 refine ⟨fun v v0 v1=>?_,fun v v0 v1 hz=>?_,fun v v0 v1 hv=>?_⟩
 ·rw [List.length_set] at v1
  rw [rd_set _ ho ⟨v0,v1⟩]
  split
  ·omega
  ·exact h.lo v v0 v1
 ·rw [List.length_set] at v1
  rw [rd_set _ ho ⟨v0,v1⟩] at hz
  split at hz
  ·omega
  ·exact h.z v v0 v1 hz
 ·rw [List.length_set] at v1
  rw [rd_set _ ho ⟨v0,v1⟩] at hv ⊢
  by_cases e:v=o
  ·subst e
   rw [if_pos rfl]
   refine ⟨i,hi,by rw [ha,List.length_set];exact hp,?_⟩
   rw [ha,rd_set _ ho hp,if_neg hne]
   omega
  ·rw [if_neg e] at hv ⊢
   obtain ⟨j,hj,hb,hd⟩ :=h.nb v v0 v1 hv
   refine ⟨j,hj,by simpa using hb,?_⟩
   have h2:acr lk[j] v≠o:=fun e2=>by rw [e2] at hd;omega
   rw [rd_set _ ho hb,if_neg h2]
   exact hd
def updA (r:Int) (far:List Int) (l:S133):List Int:=if rd far l.f0=r∧rd far l.f1 < 0 then far.set l.f1.toNat (r + 1) else far
def updB (r:Int) (far:List Int) (l:S133):List Int:=if rd far l.f1=r∧rd far l.f0 < 0 then far.set l.f0.toNat (r + 1) else far
def updL (r:Int) (far:List Int) (l:S133):List Int:=updB r (updA r far l) l
abbrev LinkOk (nd:Int) (l:S133):Prop:=(0≤l.f0∧l.f0 < nd) ∧(0≤l.f1∧l.f1 < nd) ∧l.f0≠l.f1
theorem netF_ok {nd:Int} {lk:List S133}:∀ (l:List S133) (i:Int),netF nd lk i l=true→∀ x∈l,LinkOk nd x
 | [],_,_,x,hx=>by simp at hx
 | y :: l,i,h,x,hx=>by
  rw [netF,Bool.and_eq_true,decide_eq_true_eq] at h
  rcases List.mem_cons.1 hx with rfl|hx
  ·exact ⟨h.1.1,h.1.2.1,h.1.2.2.1⟩
  ·exact netF_ok l (i + 1) h.2 x hx
theorem updA_len (r:Int) (far:List Int) (l:S133):(updA r far l).length=far.length:=by unfold updA;split <;> simp
theorem updB_len (r:Int) (far:List Int) (l:S133):(updB r far l).length=far.length:=by unfold updB;split <;> simp
theorem updL_len (r:Int) (far:List Int) (l:S133):(updL r far l).length=far.length:=by rw [updL,updB_len,updA_len]
theorem updA_ok {lk:List S133} {to_ B r nd:Int} {far:List Int} (h:FarOk lk to_ B far) (h0:0≤r) (hB:r + 1≤B) {l:S133} (hl:l∈lk) (hk:LinkOk nd l) (hn:(far.length:Int)=nd):FarOk lk to_ B (updA r far l) :=by
 unfold updA
 split
 ·rename_i c
  obtain ⟨k0,k1,k2⟩ :=hk
  exact h.put (by omega) c.2 (p:=l.f0) (by omega) c.1 h0 hB hl (by unfold acr;rw [if_neg (fun e=>k2 e.symm),if_pos rfl])
 ·exact h
theorem updB_ok {lk:List S133} {to_ B r nd:Int} {far:List Int} (h:FarOk lk to_ B far) (h0:0≤r) (hB:r + 1≤B) {l:S133} (hl:l∈lk) (hk:LinkOk nd l) (hn:(far.length:Int)=nd):FarOk lk to_ B (updB r far l) :=by
 unfold updB
 split
 ·rename_i c
  obtain ⟨k0,k1,k2⟩ :=hk
  exact h.put (by omega) c.2 (p:=l.f1) (by omega) c.1 h0 hB hl (by unfold acr;rw [if_pos rfl])
 ·exact h
theorem updL_ok {lk:List S133} {to_ B r nd:Int} {far:List Int} (h:FarOk lk to_ B far) (h0:0≤r) (hB:r + 1≤B) {l:S133} (hl:l∈lk) (hk:LinkOk nd l) (hn:(far.length:Int)=nd):FarOk lk to_ B (updL r far l) :=
 updB_ok (updA_ok h h0 hB hl hk hn) h0 hB hl hk (by rw [updA_len];exact hn)
theorem foldL_ok {lk:List S133} {to_ B r nd:Int} (h0:0≤r) (hB:r + 1≤B):∀ (l:List S133) (far:List Int),(∀ x∈l,x∈lk∧LinkOk nd x) →(far.length:Int)=nd→FarOk lk to_ B far→FarOk lk to_ B (l.foldl (updL r) far) ∧(l.foldl (updL r) far).length=far.length
 | [],far,_,_,h=>⟨h,rfl⟩
 | x :: l,far,hx,hn,h=>by
  obtain ⟨a,b⟩ :=foldL_ok h0 hB l (updL r far x) (fun y hy=>hx y (by simp [hy])) (by rw [updL_len];exact hn) (updL_ok h h0 hB (hx x (by simp)).1 (hx x (by simp)).2 hn)
  exact ⟨a,by rw [List.foldl_cons,b,updL_len]⟩
def bfs (lk:List S133):Nat→Int→List Int→List Int
 | 0,_,far=>far
 | d + 1,r,far=>bfs lk d (r + 1) (lk.foldl (updL r) far)
theorem bfs_ok {lk:List S133} {to_ B nd:Int} (hk:∀ x∈lk,LinkOk nd x):∀ (d:Nat) (r:Int) (far:List Int),0≤r→r + d≤B→(far.length:Int)=nd→FarOk lk to_ B far→FarOk lk to_ B (bfs lk d r far) ∧(bfs lk d r far).length=far.length
 | 0,_,far,_,_,_,h=>⟨h,rfl⟩
 | d + 1,r,far,h0,hB,hn,h=>by
  obtain ⟨a,b⟩ :=foldL_ok h0 (by omega) lk far (fun x hx=>⟨hx,hk x hx⟩) hn h
  obtain ⟨c,e⟩ :=bfs_ok hk d (r + 1) (lk.foldl (updL r) far) (by omega) (by omega) (by rw [b];exact hn) a
  exact ⟨c,by rw [bfs,e,b]⟩
def far0 (n:Nat) (to_:Int):List Int:=(List.replicate n (-1:Int)).set to_.toNat 0
theorem rd_rep (n:Nat) (v:Int) (h:0≤v∧v < (n:Int)):rd (List.replicate n (-1:Int)) v=-1:=by
 obtain ⟨a,rfl⟩:∃ a:Nat,v=a:=⟨v.toNat,by omega⟩
 rw [rd_at _ a (by simp;omega)]
 simp
theorem far0_ok (lk:List S133) (n:Nat) (to_ B:Int) (ht:0≤to_∧to_ < (n:Int)) (hB:0≤B):FarOk lk to_ B (far0 n to_) ∧(far0 n to_).length=n:=by
 have hr:∀ v,0≤v→v < (n:Int) →rd (far0 n to_) v=if v=to_ then 0 else -1:=fun v v0 v1=>by
  unfold far0
  rw [rd_set _ (by simpa using ht) (by simpa using ⟨v0,v1⟩),rd_rep n v ⟨v0,v1⟩]
 have hl:(far0 n to_).length=n:=by simp [far0]
 refine ⟨⟨fun v v0 v1=>?_,fun v v0 v1 hz=>?_,fun v v0 v1 hv=>?_⟩,hl⟩
 all_goals rw [hl] at v1
 ·rw [hr v v0 v1]
  split <;> omega
 ·rw [hr v v0 v1] at hz
  split at hz
  ·assumption
  ·omega
 ·rw [hr v v0 v1] at hv
  split at hv <;> omega
def nxP (far:List Int) (a:Int) (l:S133):Bool:=decide (0≤acr l a∧rd far (acr l a)=rd far a - 1)
def walkV (lk:List S133) (far:List Int) (to_:Int):Nat→Int→List Int
 | 0,_=>[]
 | d + 1,a=>if a=to_ then [] else firstP (nxP far a) lk 0 :: walkV lk far to_ d (acr (rd_T133 lk (firstP (nxP far a) lk 0)) a)
def routeV (nd:Int) (lk:List S133) (a b:Int):List Int :=
 if netB nd lk=true∧(0≤a∧a < nd) ∧(0≤b∧b < nd) then (if rd (bfs lk nd.toNat 0 (far0 nd.toNat b)) a < 0 then [] else walkV lk (bfs lk nd.toNat 0 (far0 nd.toNat b)) b (rd (bfs lk nd.toNat 0 (far0 nd.toNat b)) a).toNat a) else []
theorem firstP_split {α:Type} (p:α→Bool):∀ (l:List α) (n:Nat),(∃ x∈l,p x=true) →∃ pre x suf,l=pre ++ x :: suf∧p x=true∧(∀ y∈pre,p y=false) ∧firstP p l n=((n + pre.length:Nat):Int)
 | [],n,h=>by obtain ⟨x,hx,_⟩ :=h;simp at hx
 | y :: l,n,h=>by
  cases hy:p y with
  | true=>exact ⟨[],y,l,rfl,hy,by simp,by simp [firstP,hy]⟩
  | false =>
   have h2:∃ x∈l,p x=true:=by
    obtain ⟨x,hx,hp⟩ :=h
    rcases List.mem_cons.1 hx with rfl|hx
    ·rw [hy] at hp;cases hp
    ·exact ⟨x,hx,hp⟩
   obtain ⟨pre,x,suf,e1,e2,e3,e4⟩ :=firstP_split p l (n + 1) h2
   refine ⟨y :: pre,x,suf,by rw [e1];rfl,e2,fun z hz=>?_,?_⟩
   ·rcases List.mem_cons.1 hz with rfl|hz
    ·exact hy
    ·exact e3 z hz
   ·rw [firstP,if_neg (by rw [hy];decide),e4]
    congr 1
    simp only [List.length_cons]
    omega
theorem rd_lk (pre suf:List S133) (x:S133):rd_T133 (pre ++ x :: suf) (pre.length:Int)=x:=by
 rw [rd_T133,List.getD_eq_getElem?_getD]
 simp
theorem step_ok {lk:List S133} {to_ B a:Int} {far:List Int} (h:FarOk lk to_ B far) (a0:0≤a) (a1:a < (far.length:Int)) (hv:0 < rd far a) (hk:∀ x∈lk,LinkOk (far.length:Int) x) :
  ∃ pre x suf,lk=pre ++ x :: suf∧(∀ y∈pre,nxP far a y=false) ∧firstP (nxP far a) lk 0=(pre.length:Int) ∧(0≤acr x a∧acr x a < (far.length:Int)) ∧rd far (acr x a)=rd far a - 1:=by
 obtain ⟨i,hi,hb,hd⟩ :=h.nb a a0 a1 hv
 obtain ⟨pre,x,suf,e1,e2,e3,e4⟩ :=firstP_split (nxP far a) lk 0 ⟨lk[i],List.getElem_mem hi,by rw [nxP,decide_eq_true_eq];exact ⟨hb.1,hd⟩⟩
 rw [nxP,decide_eq_true_eq] at e2
 refine ⟨pre,x,suf,e1,e3,by rw [e4];congr 1;omega,⟨e2.1,?_⟩,e2.2⟩
 have hx:=hk x (by rw [e1];simp)
 unfold acr at e2 ⊢
 split at e2
 ·rw [if_pos (by assumption)];exact hx.2.1.2
 ·rename_i c
  rw [if_neg c]
  split at e2
  ·rw [if_pos (by assumption)];exact hx.1.2
  ·omega
theorem ev_stage2 {nd r:Int} {x:S133} (hx:LinkOk nd x) {far y:List Int} (hl:(far.length:Int)=nd) (h0:0≤r∧r≤100) {α:Type} {R:α} {F:Nat→List Int→Option α} (h:Ev (fun k=>F k (updB r y x)) R) :
  Ev (fun k=>if rd y x.f1=r then (if 0≤x.f0 then (if x.f0 < (far.length:Int) then (if rd y x.f0 < 0 then F k (y.set x.f0.toNat (wrap64 (r + 1))) else F k y) else none) else none) else F k y) R:=by
 obtain ⟨k0,k1,k2⟩ :=hx
 by_cases c1:rd y x.f1=r
 ·refine evPos c1 (evPos k0.1 (evPos (by omega) ?_))
  by_cases c2:rd y x.f0 < 0
  ·refine evPos c2 ?_
   rw [w64 (n:=r + 1) (by omega) (by omega)]
   rwa [updB,if_pos ⟨c1,c2⟩] at h
  ·refine evNeg c2 ?_
   rwa [updB,if_neg (fun c=>c2 c.2)] at h
 ·refine evNeg c1 ?_
  rwa [updB,if_neg (fun c=>c1 c.1)] at h
theorem spec_RouteTo_j4 (a b:Int) {lk:List S133} {nd r i:Int} {x:S133} (hx:LinkOk nd x) {far:List Int} (hl:(far.length:Int)=nd) (h0:0≤r∧r≤100) {R:List Int} (bb:Bool) (hb:bb=decide (rd far x.f0=r∧rd far x.f1 < 0))
  (h:Ev (fun k=>spec_RouteTo.l2 k a b [] (updL r far x) r (wrap64 (i + 1)) nd lk) R):Ev (fun k=>spec_RouteTo.j4 k a b [] far r i x.f0 x.f1 bb nd lk) R:=by
 have hx':=hx
 obtain ⟨k0,k1,k2⟩ :=hx
 refine Ev.step (fun k=>by rw [spec_RouteTo.j4]) ?_
 by_cases c:rd far x.f0=r∧rd far x.f1 < 0
 ·have hA:updA r far x=far.set x.f1.toNat (wrap64 (r + 1)) :=by rw [updA,if_pos c,w64 (by omega) (by omega)]
  rw [updL,hA] at h
  subst hb
  refine evPos (by simpa using c) (evPos k1.1 (evPos (by omega) (evSome rfl ?_)))
  exact ev_stage2 hx' hl h0 (F:=fun k y=>spec_RouteTo.l2 k a b [] y r (wrap64 (i + 1)) nd lk) h
 ·have hA:updA r far x=far:=by rw [updA,if_neg c]
  rw [updL,hA] at h
  subst hb
  refine evNeg (by simpa using c) (evPos k1.1 (evPos (by omega) ?_))
  exact ev_stage2 hx' hl h0 (F:=fun k y=>spec_RouteTo.l2 k a b [] y r (wrap64 (i + 1)) nd lk) h
theorem spec_RouteTo_l2 (a b:Int) {lk:List S133} {nd r:Int} (hk:∀ x∈lk,LinkOk nd x) (hlk:lk.length≤100) (h0:0≤r∧r≤100) {R:List Int}:∀ (suf pre:List S133) (far:List Int),lk=pre ++ suf→(far.length:Int)=nd →
  Ev (fun k=>spec_RouteTo.l1 k a b [] (suf.foldl (updL r) far) (wrap64 (r + 1)) nd lk) R→Ev (fun k=>spec_RouteTo.l2 k a b [] far r (pre.length:Int) nd lk) R
 | [],pre,far,e,hl,h=>by
  refine Ev.step (fun k=>by rw [spec_RouteTo.l2]) (evNeg (by rw [e];simp) ?_)
  exact h
 | x :: suf,pre,far,e,hl,h=>by
  have hx:=hk x (by rw [e];simp)
  have hr:rd_T133 lk (pre.length:Int)=x:=by rw [e];exact rd_lk pre suf x
  have hlen:pre.length + 1≤lk.length:=by rw [e];simp
  have ih:=spec_RouteTo_l2 a b hk hlk h0 suf (pre ++ [x]) (updL r far x) (by rw [e];simp) (by rw [updL_len];exact hl) h
  rw [show (pre ++ [x]).length=pre.length + 1 by simp,← wsucc (by omega)] at ih
  obtain ⟨k0,k1,k2⟩ :=hx
  refine Ev.step (fun k=>by rw [spec_RouteTo.l2,hr]) (evPos (by omega) (evPos (by omega) (evPos k0.1 (evPos (by omega) ?_))))
  by_cases c:rd far x.f0=r
  ·exact evPos c (evPos k1.1 (evPos (by omega) (spec_RouteTo_j4 a b ⟨k0,k1,k2⟩ hl h0 _ (by simp [c]) ih)))
  ·exact evNeg c (spec_RouteTo_j4 a b ⟨k0,k1,k2⟩ hl h0 _ (by simp [c]) ih)
theorem spec_RouteTo_l1 (a b:Int) {lk:List S133} {n:Nat} (hn:n≤50) (hk:∀ x∈lk,LinkOk (n:Int) x) (hlk:lk.length≤100) {R:List Int}:∀ (d r:Nat) (far:List Int),r + d=n→far.length=n →
  Ev (fun k=>if 0≤a then (if a < ((bfs lk d (r:Int) far).length:Int) then (if rd (bfs lk d (r:Int) far) a < 0 then some [] else spec_RouteTo.l3 k b [] (bfs lk d (r:Int) far) a (n:Int) lk) else none) else none) R →
  Ev (fun k=>spec_RouteTo.l1 k a b [] far (r:Int) (n:Int) lk) R
 | 0,r,far,e,hl,h=>by
  refine Ev.step (fun k=>by rw [spec_RouteTo.l1]) (evNeg (by omega) ?_)
  exact h
 | d + 1,r,far,e,hl,h=>by
  have hf:(lk.foldl (updL (r:Int)) far).length=far.length:=by
   have:∀ (l:List S133) (f:List Int),(l.foldl (updL (r:Int)) f).length=f.length:=fun l=>by
    induction l with
    | nil=>intro f;rfl
    | cons y l ih=>intro f;rw [List.foldl_cons,ih,updL_len]
   exact this lk far
  have ih:=spec_RouteTo_l1 a b hn hk hlk d (r + 1) (lk.foldl (updL (r:Int)) far) (by omega) (by rw [hf];exact hl) (R:=R) (by rw [bfs] at h;exact h)
  refine Ev.step (fun k=>by rw [spec_RouteTo.l1]) (evPos (by omega) ?_)
  refine spec_RouteTo_l2 a b hk hlk (by omega) lk [] far rfl (by omega) ?_
  rw [wsucc (by omega)]
  exact ih
theorem spec_RouteTo_l0 (a b:Int) {lk:List S133} {n:Nat} (hn:n≤50) (hb:0≤b∧b < (n:Int)) {R:List Int} (h:Ev (fun k=>spec_RouteTo.l1 k a b [] (far0 n b) 0 (n:Int) lk) R):∀ (d j:Nat),j + d=n →
  Ev (fun k=>spec_RouteTo.l0 k a b [] (List.replicate j (-1)) (j:Int) (n:Int) lk) R
 | 0,j,e=>by
  have e':j=n:=by omega
  subst e'
  refine Ev.step (fun k=>by rw [spec_RouteTo.l0]) (evNeg (by omega) (evPos hb.1 (evPos (by simpa using hb.2) ?_)))
  exact h
 | d + 1,j,e=>by
  have ih:=spec_RouteTo_l0 a b hn hb h d (j + 1) (by omega)
  rw [List.replicate_succ',← wsucc (by omega)] at ih
  exact Ev.step (fun k=>by rw [spec_RouteTo.l0]) (evPos (by omega) (evPos (by simp;omega) ih))
theorem endF_one {pre suf:List S133} {x:S133} (a:Int):endF (pre ++ x :: suf) [(pre.length:Int)] a=acr x a:=by
 rw [endF,if_pos (by simp only [List.length_append,List.length_cons];omega),rd_lk,acr]
 by_cases c1:a=x.f0
 ·rw [if_pos c1,if_pos c1];rfl
 ·rw [if_neg c1,if_neg c1]
  by_cases c2:a=x.f1
  ·rw [if_pos c2,if_pos c2];rfl
  ·rw [if_neg c2,if_neg c2]
theorem acr_lt {nd a:Int} {x:S133} (hx:LinkOk nd x):acr x a < nd∧-1≤acr x a:=by
 obtain ⟨k0,k1,k2⟩ :=hx
 unfold acr
 split
 ·omega
 ·split <;> omega
theorem spec_RouteTo_l4 (b:Int) (out:List Int) {lk:List S133} {n:Nat} (hn:n≤50) (hk:∀ x∈lk,LinkOk (n:Int) x) (hlk:lk.length≤100) {B a:Int} (hB:B≤100) {far:List Int} (hF:FarOk lk b B far) (hl:far.length=n) (a0:0≤a) (a1:a < (n:Int))
  {x:S133} {suf:List S133} (hx:0≤acr x a∧rd far (acr x a)=rd far a - 1) {R:List Int}:∀ (q p:List S133),lk=p ++ q ++ x :: suf→(∀ y∈q,nxP far a y=false) →
  Ev (fun k=>spec_RouteTo.l4 k b out far a ((p ++ q).length:Int) (wrap64 (((p ++ q).length:Int) + 1)) (n:Int) lk) R→Ev (fun k=>spec_RouteTo.l4 k b out far a (-1) (p.length:Int) (n:Int) lk) R
 | [],p,e,hq,h=>by
  rw [List.append_nil] at h e
  have hxk:=acr_lt (a:=a) (hk x (by rw [e];simp))
  have hlen:p.length < lk.length:=by rw [e];simp
  have hlo:=hF.lo a a0 (by omega)
  refine Ev.step (fun k=>by rw [spec_RouteTo.l4]) (evPos (by omega) (Ev.step (fun k=>by rw [spec_RouteTo.j7]) (evPos (by decide) ?_)))
  refine Ev.bind (spec_EndOf_ev (n:Int) lk (by omega) [(p.length:Int)] a (by simp)) ?_
  rw [show endF lk [(p.length:Int)] a=acr x a by rw [e];exact endF_one a]
  refine evPos hx.1 (evPos hx.1 (evPos (by omega) (evPos a0 (evPos (by omega) (evPos ?_ h)))))
  rw [w64 (by omega) (by omega)]
  exact hx.2
 | y :: q,p,e,hq,h=>by
  have ih:=spec_RouteTo_l4 (suf:=suf) b out hn hk hlk hB hF hl a0 a1 hx q (p ++ [y]) (by rw [e];simp) (fun z hz=>hq z (by simp [hz])) (by simpa using h)
  have hyk:=acr_lt (a:=a) (hk y (by rw [e];simp))
  have hlen:p.length < lk.length:=by rw [e];simp
  have hlo:=hF.lo a a0 (by omega)
  rw [show (p ++ [y]).length=p.length + 1 by simp,← wsucc (by omega)] at ih
  refine Ev.step (fun k=>by rw [spec_RouteTo.l4]) (evPos (by omega) (Ev.step (fun k=>by rw [spec_RouteTo.j7]) (evPos (by decide) ?_)))
  refine Ev.bind (spec_EndOf_ev (n:Int) lk (by omega) [(p.length:Int)] a (by simp)) ?_
  rw [show endF lk [(p.length:Int)] a=acr y a by rw [e,List.append_assoc];exact endF_one a]
  have hy:=hq y (by simp)
  rw [nxP,decide_eq_false_iff_not] at hy
  by_cases c:acr y a≥0
  ·refine evPos c (evPos c (evPos (by omega) (evPos a0 (evPos (by omega) (evNeg ?_ ih)))))
   rw [w64 (by omega) (by omega)]
   exact fun c2=>hy ⟨c,c2⟩
  ·exact evNeg c ih
theorem spec_RouteTo_l3 (b:Int) {lk:List S133} {n:Nat} (hn:n≤50) (hk:∀ x∈lk,LinkOk (n:Int) x) (hlk:lk.length≤100) {B:Int} (hB:B≤100) {far:List Int} (hF:FarOk lk b B far) (hl:far.length=n):∀ (d:Nat) (a:Int) (out:List Int),0≤a→a < (n:Int) →rd far a=(d:Int) →out.length + d≤1000 →
  Ev (fun k=>spec_RouteTo.l3 k b out far a (n:Int) lk) (out ++ walkV lk far b d a)
 | 0,a,out,a0,a1,hd,ho=>by
  have:=hF.z a a0 (by omega) (by omega)
  exact Ev.step (fun k=>by rw [spec_RouteTo.l3]) (evPos this (evEq (by simp [walkV]) (Ev.now _)))
 | d + 1,a,out,a0,a1,hd,ho=>by
  by_cases c:a=b
  ·exact Ev.step (fun k=>by rw [spec_RouteTo.l3]) (evPos c (evEq (by simp [walkV,c]) (Ev.now _)))
  ·obtain ⟨pre,x,suf,e1,e2,e3,e4,e5⟩ :=step_ok hF a0 (by omega) (by omega) (fun y hy=>by rw [hl];exact hk y hy)
   have ih:=spec_RouteTo_l3 b hn hk hlk hB hF hl d (acr x a) (out ++ [(pre.length:Int)]) e4.1 (by omega) (by omega) (by simp;omega)
   have hr:rd_T133 lk (pre.length:Int)=x:=by rw [e1];exact rd_lk pre suf x
   refine Ev.step (fun k=>by rw [spec_RouteTo.l3]) (evNeg c ?_)
   refine spec_RouteTo_l4 b out hn hk hlk hB hF hl a0 a1 ⟨e4.1,e5⟩ pre [] (by simpa using e1) e2 ?_
   have hj:Ev (fun k=>spec_RouteTo.j7 k b out far a (pre.length:Int) (wrap64 ((pre.length:Int) + 1)) false (n:Int) lk) (out ++ walkV lk far b (d + 1) a) :=by
    refine Ev.step (fun k=>by rw [spec_RouteTo.j7]) (evNeg (by decide) (evPos (by omega) ?_))
    refine Ev.bind (spec_EndOf_ev (n:Int) lk (by omega) [(pre.length:Int)] a (by simp)) ?_
    rw [show endF lk [(pre.length:Int)] a=acr x a by rw [e1];exact endF_one a]
    refine evEq ?_ ih
    rw [walkV,if_neg c,e3,hr]
    simp
   rw [List.nil_append]
   refine Ev.step (fun k=>by rw [spec_RouteTo.l4]) ?_
   rw [show decide ((pre.length:Int) < 0)=false by simp]
   by_cases c2:wrap64 ((pre.length:Int) + 1) < (lk.length:Int)
   ·exact evPos c2 hj
   ·exact evNeg c2 hj
theorem netB_ok {nd:Int} {lk:List S133} (h:netB nd lk=true):(1≤nd∧nd≤8) ∧lk.length≤6∧∀ x∈lk,LinkOk nd x:=by
 rw [netB] at h
 simp only [Bool.and_eq_true,decide_eq_true_eq] at h
 exact ⟨h.1,by omega,netF_ok lk 0 h.2.2⟩
theorem spec_RouteTo_ev (nd:Int) (lk:List S133) (hlk:lk.length≤1048576) (a b:Int):Ev (fun k=>spec_RouteTo.f k nd lk a b) (routeV nd lk a b) :=by
 have hfalse:Ev (fun k=>spec_RouteTo.j0 k a b [] true nd lk) [] :=Ev.step (fun k=>by rw [spec_RouteTo.j0]) (evPos rfl (Ev.now _))
 unfold spec_RouteTo.f
 refine evSome (a:=[]) rfl (Ev.bind (spec_IsNet_ev nd lk hlk) ?_)
 by_cases h:netB nd lk=true
 ·obtain ⟨n1,n2,hk⟩ :=netB_ok h
  refine evPos h (evSome (spec_l1In_eq _ _ _) ?_)
  rw [w64 (n:=nd - 1) (by omega) (by omega)]
  by_cases ca:0≤a∧a≤nd - 1
  ·refine evPos (by simpa using ca) (evSome (spec_l1In_eq _ _ _) ?_)
   by_cases cb:0≤b∧b≤nd - 1
   ·rw [decide_eq_true cb]
    obtain ⟨n,rfl⟩:∃ n:Nat,nd=n:=⟨nd.toNat,by omega⟩
    obtain ⟨f1,f2⟩ :=far0_ok lk n b 50 (by omega) (by omega)
    obtain ⟨g1,g2⟩ :=bfs_ok (B:=50) hk n 0 (far0 n b) (by omega) (by omega) (by omega) f1
    rw [routeV,if_pos ⟨h,by omega,by omega⟩,Int.toNat_natCast]
    refine Ev.step (fun k=>by rw [spec_RouteTo.j0]) (evNeg (by decide) ?_)
    refine spec_RouteTo_l0 a b (by omega) (by omega) ?_ n 0 (by omega)
    refine spec_RouteTo_l1 a b (by omega) hk (by omega) n 0 (far0 n b) (by omega) f2 ?_
    refine evPos ca.1 (evPos (by rw [show ((0:Nat):Int)=0 from rfl,g2,f2];omega) ?_)
    by_cases c:rd (bfs lk n ((0:Nat):Int) (far0 n b)) a < 0
    ·have c':rd (bfs lk n 0 (far0 n b)) a < 0:=c
     exact evPos c (evEq (by rw [if_pos c']) (Ev.now _))
    ·have hlo:=g1.lo a ca.1 (by rw [g2,f2];omega)
     have hc:¬ rd (bfs lk n 0 (far0 n b)) a < 0:=c
     refine evNeg c ?_
     rw [if_neg hc]
     have:=spec_RouteTo_l3 b (by omega) hk (by omega) (by omega:(50:Int) ≤100) g1 (by rw [g2,f2]) (rd (bfs lk n 0 (far0 n b)) a).toNat a [] ca.1 (by omega) (by omega) (by simp;omega)
     simpa using this
   ·rw [decide_eq_false cb,routeV,if_neg (fun c=>cb (by omega))]
    exact hfalse
  ·refine evNeg (by simpa using ca) ?_
   rw [routeV,if_neg (fun c=>ca (by omega))]
   exact hfalse
 ·refine evNeg h ?_
  rw [routeV,if_neg (fun c=>h c.1)]
  exact hfalse
def insI (x:Int) (S:List Int):List Int:=S.takeWhile (fun y=>decide (y≤x)) ++ x :: S.dropWhile (fun y=>decide (y≤x))
def sortI (l:List Int):List Int:=l.foldl (fun S x=>insI x S) []
theorem insI_perm (x:Int) (S:List Int):(insI x S).Perm (x :: S) :=by
 unfold insI
 refine (List.perm_middle).trans (List.Perm.cons x ?_)
 rw [List.takeWhile_append_dropWhile]
theorem sortI_perm_go:∀ (l S:List Int),(l.foldl (fun S x=>insI x S) S).Perm (S ++ l)
 | [],S=>by simp
 | x :: l,S=>by
  simp only [List.foldl_cons]
  refine (sortI_perm_go l (insI x S)).trans ?_
  refine ((insI_perm x S).append_right l).trans ?_
  exact (List.perm_middle (a:=x) (l₁:=S) (l₂:=l)).symm
theorem sortI_perm (l:List Int):(sortI l).Perm l:=by simpa [sortI] using sortI_perm_go l []
theorem insI_sorted (x:Int):∀ (S:List Int),S.Pairwise (·≤·) →(insI x S).Pairwise (·≤·)
 | [],_=>by simp [insI]
 | y :: S,h=>by
  rw [List.pairwise_cons] at h
  by_cases hy:y≤x
  ·have ih:=insI_sorted x S h.2
   have e:insI x (y :: S)=y :: insI x S:=by simp [insI,hy]
   rw [e,List.pairwise_cons]
   refine ⟨fun z hz=>?_,ih⟩
   have hz':=(insI_perm x S).mem_iff.1 hz
   rcases List.mem_cons.1 hz' with rfl|hz'
   ·exact hy
   ·exact h.1 z hz'
  ·have e:insI x (y :: S)=x :: y :: S:=by simp [insI,hy]
   rw [e,List.pairwise_cons]
   refine ⟨fun z hz=>?_,List.pairwise_cons.2 h⟩
   rcases List.mem_cons.1 hz with rfl|hz'
   ·omega
   ·have:=h.1 z hz';omega
theorem sortI_sorted_go:∀ (l S:List Int),S.Pairwise (·≤·) →(l.foldl (fun S x=>insI x S) S).Pairwise (·≤·)
 | [],_,h=>h
 | x :: l,S,h=>sortI_sorted_go l _ (insI_sorted x S h)
theorem sortI_sorted (l:List Int):(sortI l).Pairwise (·≤·) :=sortI_sorted_go l [] List.Pairwise.nil
theorem sorted_unique:∀ {l m:List Int},l.Perm m→l.Pairwise (·≤·) →m.Pairwise (·≤·) →l=m
 | [],m,hp,_,_=>by simpa using hp.symm.eq_nil.symm
 | x :: l,[],hp,_,_=>by simpa using hp.eq_nil
 | x :: l,y :: m,hp,hl,hm=>by
  rw [List.pairwise_cons] at hl hm
  have hx:x≤y:=by
   rcases List.mem_cons.1 (hp.mem_iff.2 (List.mem_cons_self (a:=y) (l:=m))) with h|h
   ·omega
   ·exact hl.1 y h
  have hy:y≤x:=by
   rcases List.mem_cons.1 (hp.mem_iff.1 (List.mem_cons_self (a:=x) (l:=l))) with h|h
   ·omega
   ·exact hm.1 x h
  obtain rfl:x=y:=by omega
  rw [sorted_unique ((List.perm_cons x).1 hp) hl.2 hm.2]
theorem sortI_eq (l:List Int):sortI l=l.mergeSort fun x y=>decide (x≤y) :=by
 refine sorted_unique ((sortI_perm l).trans (List.mergeSort_perm l _).symm) (sortI_sorted l) ?_
 have h:=List.pairwise_mergeSort (le:=fun x y:Int=>decide (x≤y)) (by intro a b c h1 h2;simp at h1 h2 ⊢;omega) (by intro a b;simp;omega) l
 simpa using h
def eqLst {α:Type} (e:α→α→Bool):List α→List α→Bool
 | [],[] =>true
 | x :: xs,y :: ys=>e x y && eqLst e xs ys
 | _,_=>false
theorem eqLst_len {α:Type} (e:α→α→Bool):∀ (xs ys:List α),¬ (xs.length:Int)=(ys.length:Int) →eqLst e xs ys=false
 | [],[],h=>by simp at h
 | [],_ :: _,_=>rfl
 | _ :: _,[],_=>rfl
 | x :: xs,y :: ys,h=>by
  rw [eqLst,eqLst_len e xs ys (by simpa using h)]
  simp
theorem ev_eqdrop {α:Type} (e:α→α→Bool) (L:Nat→Int→Option Bool) (xs ys:List α) (R:Bool) (hl:(xs.length:Int)=(ys.length:Int)) (hend:Ev (fun k=>L k (xs.length:Int)) R)
  (hstep:∀ (i:Nat) (hi:i < xs.length) (hy:i < ys.length) (r:Bool),Ev (fun k=>L k ((i + 1:Nat):Int)) r→Ev (fun k=>L k (i:Int)) (e xs[i] ys[i] && r)) :
  ∀ (n i:Nat),xs.length - i=n→i≤xs.length→Ev (fun k=>L k (i:Int)) (eqLst e (xs.drop i) (ys.drop i) && R) :=by
 intro n
 induction n with
 | zero =>
  intro i hn hi
  have:i=xs.length:=by omega
  subst this
  rw [List.drop_length,List.drop_eq_nil_of_le (by omega),eqLst]
  simpa using hend
 | succ n ih =>
  intro i hn hi
  have h:=hstep i (by omega) (by omega) _ (ih (i + 1) (by omega) (by omega))
  rw [List.drop_eq_getElem_cons (show i < xs.length by omega),List.drop_eq_getElem_cons (show i < ys.length by omega),eqLst,Bool.and_assoc]
  exact h
theorem ev_eqloop {α:Type} (e:α→α→Bool) (L:Nat→Int→Option Bool) (xs ys:List α) (R:Bool) (hl:(xs.length:Int)=(ys.length:Int)) (hend:Ev (fun k=>L k (xs.length:Int)) R)
  (hstep:∀ (i:Nat) (hi:i < xs.length) (hy:i < ys.length) (r:Bool),Ev (fun k=>L k ((i + 1:Nat):Int)) r→Ev (fun k=>L k (i:Int)) (e xs[i] ys[i] && r)) :
  Ev (fun k=>L k 0) (eqLst e xs ys && R) :=ev_eqdrop e L xs ys R hl hend hstep _ 0 rfl (Nat.zero_le _)
def eI (x y:Int):Bool:=decide (x=y)
def eL (x y:S133):Bool:=!((!(x.f0 == y.f0)) || (!(x.f1 == y.f1)))
def eP (x y:S103):Bool:=decide (x.f0=y.f0) && (decide (x.f1=y.f1) && eqLst eI x.f2 y.f2)
def eS (x y:S62):Bool:=!(!(x.f0 == y.f0) || (!(x.f1 == y.f1) || (!(x.f2 == y.f2) || (!(x.f3 == y.f3) || (!(x.f4 == y.f4))))))
theorem slices_Equal_ev (l m:List Int) (hl:l.length≤1048576):Ev (fun k=>slices_Equal_int_int.f k l m) (eqLst eI l m) :=by
 unfold slices_Equal_int_int.f
 by_cases h:(l.length:Int)=(m.length:Int)
 ·refine evPos h ?_
  rw [← Bool.and_true (eqLst eI l m)]
  refine ev_eqloop eI (fun k i=>slices_Equal_int_int.l0 k l m (l.length:Int) i) l m true h (Ev.step (fun k=>by rw [slices_Equal_int_int.l0]) (evNeg (by omega) (Ev.now _))) ?_
  intro i hi hy r hr
  refine Ev.step (fun k=>by rw [slices_Equal_int_int.l0]) (evPos (by omega) (evPos (by omega) (evPos (by omega) (evPos (by omega) ?_))))
  rw [rd_at l i hi,rd_at m i hy,wsucc (by omega)]
  by_cases hc:l[i]=m[i]
  ·exact evPos hc (evEq (by rw [eI,decide_eq_true hc];rfl) hr)
  ·exact evNeg hc (evEq (by rw [eI,decide_eq_false hc];rfl) (Ev.now _))
 ·exact evNeg h (evEq (eqLst_len _ _ _ h).symm (Ev.now _))
theorem rdP_at (l:List S103) (i:Nat) (h:i < l.length):rd_T103 l (i:Int)=l[i] :=getD_at l _ i h
theorem rdS_at (l:List S62) (i:Nat) (h:i < l.length):rd_T62 l (i:Int)=l[i] :=getD_at l _ i h
theorem rdL_at (l:List S133) (i:Nat) (h:i < l.length):rd_T133 l (i:Int)=l[i] :=getD_at l _ i h
theorem ascB_iff:∀ (l:List Int),ascB l=true↔l.Pairwise (· < ·)
 | [] =>by simp [ascB]
 | [x] =>by simp [ascB]
 | x :: y :: r=>by
  have ih:=ascB_iff (y :: r)
  rw [ascB,Bool.and_eq_true,ih,decide_eq_true_eq,List.pairwise_cons (a:=x)]
  constructor
  ·rintro ⟨h1,h2⟩
   refine ⟨fun z hz=>?_,h2⟩
   rcases List.mem_cons.1 hz with rfl|hz
   ·exact h1
   ·exact Int.lt_trans h1 ((List.pairwise_cons.1 h2).1 z hz)
  ·rintro ⟨h1,h2⟩
   exact ⟨h1 y (by simp),h2⟩
theorem srtL_sorted (l:List Int):(srtL l).Pairwise (·≤·) :=by
 have h:=List.pairwise_mergeSort (le:=fun x y:Int=>decide (x≤y)) (by intro a b c h1 h2;simp at h1 h2 ⊢;omega) (by intro a b;simp;omega) l
 exact h.imp (fun h=>by simpa using h)
theorem compact_asc (zs:List Int) (h:zs.Pairwise (·≤·)):(Lib.compact zs).Pairwise (· < ·) :=by
 unfold Lib.compact Lib.compactUpTo
 rw [List.pairwise_map]
 have hp:((List.range zs.length).filter (Lib.keeps zs.toArray)).Pairwise (· < ·) :=(List.pairwise_lt_range).filter _
 refine List.Pairwise.imp_of_mem ?_ hp
 intro i j hi hj hij
 have hj2:=List.mem_filter.1 hj
 have hjn:=List.mem_range.1 hj2.1
 have hk:j=0∨zs.toArray[j]!≠zs.toArray[j - 1]!:=by simpa [Lib.keeps] using hj2.2
 have hne:zs.toArray[j]!≠zs.toArray[j - 1]!:=by
  rcases hk with hk|hk
  ·omega
  ·exact hk
 have hg:=List.pairwise_iff_getElem.1 h
 have e1:∀ k (hk:k < zs.length),zs.toArray[k]! = zs[k] :=fun k hk=>by rw [getElem!_pos zs.toArray k (by simpa using hk)];simp
 rw [e1 i (by omega),e1 j hjn]
 rw [e1 j hjn,e1 (j - 1) (by omega)] at hne
 have h2:=hg (j - 1) j (by omega) hjn (by omega)
 have h3:zs[i] ≤zs[j - 1] :=by
  by_cases e:i=j - 1
  ·subst e;exact Int.le_refl _
  ·exact hg i (j - 1) (by omega) (by omega) (by omega)
 omega
theorem compact_same (zs:List Int) (h:zs.Pairwise (· < ·)):Lib.compact zs=zs:=by
 refine Lib.compact_all zs fun j hj=>?_
 by_cases h0:j=0
 ·simp [Lib.keeps,h0]
 ·refine Lib.keeps_pos ?_
  have e1:∀ k (hk:k < zs.length),zs.toArray[k]! = zs[k] :=fun k hk=>by rw [getElem!_pos zs.toArray k (by simpa using hk)];simp
  rw [e1 j hj,e1 (j - 1) (by omega)]
  have:=List.pairwise_iff_getElem.1 h (j - 1) j (by omega) hj (by omega)
  omega
theorem eqLst_eI:∀ (xs ys:List Int),eqLst eI xs ys=true↔xs=ys
 | [],[] =>by simp [eqLst]
 | [],_ :: _=>by simp [eqLst]
 | _ :: _,[] =>by simp [eqLst]
 | x :: xs,y :: ys=>by
  rw [eqLst,Bool.and_eq_true,eqLst_eI xs ys,eI,decide_eq_true_eq,List.cons.injEq]
theorem set_asc (l:List Int):eqLst eI (Lib.compact (srtL l)) l=ascB l:=by
 rw [Bool.eq_iff_iff,eqLst_eI,ascB_iff]
 constructor
 ·intro h
  rw [← h]
  exact compact_asc _ (srtL_sorted l)
 ·intro h
  have e:srtL l=l:=sorted_unique (List.mergeSort_perm l _) (srtL_sorted l) (h.imp (fun h=>Int.le_of_lt h))
  rw [e,compact_same l h]
theorem impl_allIn_l0 (lo hi:Int):∀ (suf pre:List Int),(pre ++ suf).length≤1048576 →
  Ev (fun k=>impl_allIn.l0 k lo hi (pre ++ suf) ((pre ++ suf).length:Int) (pre.length:Int)) (suf.all fun x=>decide (lo≤x∧x≤hi)) :=by
 intro suf
 induction suf with
 | nil =>
  intro pre hb
  refine Ev.step (fun k=>by rw [impl_allIn.l0]) ?_
  exact evNeg (by simp) (Ev.now _)
 | cons x suf ih =>
  intro pre hb
  simp only [List.length_append,List.length_cons] at hb
  refine Ev.step (fun k=>by rw [impl_allIn.l0]) ?_
  refine evPos (by simp only [List.length_append,List.length_cons];omega) (evPos (by omega) (evPos (by simp only [List.length_append,List.length_cons];omega) ?_))
  rw [rd_mid,wsucc (by omega)]
  refine evSome (impl_InRange_eq _ _ _) ?_
  by_cases hx:lo≤x∧x≤hi
  ·refine evPos (by simp [hx]) ?_
   have h:=ih (pre ++ [x]) (by simp;omega)
   refine evEq ?_ (Ev.congr (fun k=>?_) h)
   ·simp [hx]
   ·simp
  ·refine evNeg (by simpa using hx) (evEq ?_ (Ev.now _))
   simp [hx]
theorem impl_allIn_ev (l:List Int) (lo hi:Int) (hl:l.length≤1048576):Ev (fun k=>impl_allIn.f k l lo hi) (l.all fun x=>decide (lo≤x∧x≤hi)) :=by
 have h:=impl_allIn_l0 lo hi l [] (by simpa using hl)
 simpa [impl_allIn.f] using h
theorem impl_LinkOf_eq (nd:Int) (lk:List S133) (a b:Int) (hl:lk.length≤1048576):impl_LinkOf.f nd lk a b=some (linkV lk a b) :=by
 unfold impl_LinkOf.f
 rw [if_pos hl]
theorem impl_IsNet_l0 (nd:Int) (lk:List S133) (hl:lk.length≤1048576):∀ (suf pre:List S133),lk=pre ++ suf →
  Ev (fun k=>impl_IsNet.l0 k lk (lk.length:Int) (pre.length:Int) nd lk) (netF nd lk (pre.length:Int) suf) :=by
 intro suf
 induction suf with
 | nil =>
  intro pre e
  have el:lk.length=pre.length:=by rw [e];simp
  refine Ev.step (fun k=>by rw [impl_IsNet.l0]) ?_
  exact evNeg (by omega) (evEq (by simp [netF]) (Ev.now _))
 | cons x suf ih =>
  intro pre e
  have el:lk.length=pre.length + (suf.length + 1) :=by rw [e];simp
  have h:=ih (pre ++ [x]) (by rw [e];simp)
  have hr:rd_T133 lk (pre.length:Int)=x:=by rw [rd_T133,e,getD_mid]
  refine Ev.step (fun k=>by rw [impl_IsNet.l0]) ?_
  refine evPos (by omega) (evPos (by omega) (evPos (by omega) ?_))
  rw [hr,wsucc (by omega)]
  have ebad:¬ ((0≤x.f0∧x.f0 < nd) ∧(0≤x.f1∧x.f1 < nd) ∧x.f0≠x.f1∧linkV lk x.f0 x.f1=(pre.length:Int)) →false=netF nd lk (pre.length:Int) (x :: suf) :=fun hc=>by rw [netF,decide_eq_false hc];rfl
  by_cases c0:x.f0=x.f1
  ·exact evPos c0 (evEq (ebad (fun hc=>hc.2.2.1 c0)) (Ev.now _))
  refine evNeg c0 (evSome (impl_at_eq _ _) ?_)
  by_cases c1:0≤x.f0∧x.f0 < nd
  ·refine evPos (by simpa using c1) (evSome (impl_at_eq _ _) ?_)
   by_cases c2:0≤x.f1∧x.f1 < nd
   ·refine evPos (by simpa using c2) (evSome (impl_LinkOf_eq nd lk _ _ hl) ?_)
    by_cases c3:linkV lk x.f0 x.f1=(pre.length:Int)
    ·refine evPos c3 (evEq ?_ (Ev.congr (fun k=>?_) h))
     ·rw [netF,decide_eq_true ⟨c1,c2,c0,c3⟩];simp
     ·simp
    ·exact evNeg c3 (evEq (ebad (fun hc=>c3 hc.2.2.2)) (Ev.now _))
   ·exact evNeg (by simpa using c2) (evEq (ebad (fun hc=>c2 hc.2.1)) (Ev.now _))
  ·exact evNeg (by simpa using c1) (evEq (ebad (fun hc=>c1 hc.1)) (Ev.now _))
theorem impl_IsNet_ev (nd:Int) (lk:List S133) (hl:lk.length≤1048576):Ev (fun k=>impl_IsNet.f k nd lk) (netB nd lk) :=by
 unfold impl_IsNet.f
 have jt:Ev (fun k=>impl_IsNet.j0 k true nd lk) false:=Ev.step (fun k=>by rw [impl_IsNet.j0]) (evPos rfl (Ev.now _))
 refine evSome (impl_InRange_eq _ _ _) (evAndE (evSome (impl_InRange_eq _ _ _) ?_) jt)
 cases h:decide (1≤(lk.length:Int) ∧(lk.length:Int) ≤6) with
 | false=>exact jt
 | true =>
  refine Ev.step (fun k=>by rw [impl_IsNet.j0]) ?_
  refine evNeg (by decide) (evEq ?_ (impl_IsNet_l0 nd lk hl lk [] rfl))
  simp
theorem impl_isSet_ev (l:List Int) (n:Int) (hl:l.length≤1048576) (hn:0≤n∧n≤1048576):Ev (fun k=>impl_isSet.f k l n) (setB l n) :=by
 have hc:l.length≤1048576∧0≤n∧n≤9223372036854775807:=⟨hl,hn.1,by omega⟩
 have hYl:(Lib.compact (srtL l)).length≤1048576:=by
  have h1:(srtL l).length=l.length:=List.length_mergeSort l
  have h2:=compact_le (srtL l)
  omega
 have h2:=slices_Equal_ev (Lib.compact (srtL l)) l hYl
 rw [set_asc] at h2
 unfold impl_isSet.f isSetF
 refine evPos hc (Ev.bind (impl_allIn_ev l 0 (n - 1) hl) (evAndW h2))
theorem impl_IsBucket_eq (a b c d:Int):impl_IsBucket.f a b c d=some (bucketB a b c d) :=by
 unfold impl_IsBucket.f bucketB
 simp only [impl_InRange_eq,Option.bind_some,ite_and_]
theorem arePF_ev (nd:Int) (lk:List S133):∀ (l:List S103),(∀ p∈l,p.f2.length≤1048576) →Ev (fun k=>arePF k nd lk l) (l.all (okProbe lk))
 | [],_=>Ev.now _
 | x :: xs,h=>by
  refine Ev.bind (impl_IsPath_ev nd lk x.f2 x.f0 x.f1 (h x (by simp))) (Ev.bind (arePF_ev nd lk xs (fun p hp=>h p (by simp [hp]))) (evEq ?_ (Ev.now _)))
  rw [List.all_cons,okProbe,Bool.and_assoc]
theorem impl_AreProbes_ev (nd:Int) (lk:List S133) (l:List S103) (hl:lk.length≤1048576) (h:∀ p∈l,p.f2.length≤1048576):Ev (fun k=>impl_AreProbes.f k nd lk l) (probesB nd lk l) :=by
 unfold impl_AreProbes.f areProbesF probesB
 refine evEq ?_ (Ev.bind (impl_IsNet_ev nd lk hl) (evAndW (evAndP (arePF_ev nd lk l h))))
 ac_rfl
theorem impl_IsWorld_ev (a0_0:Int) (l0_1:(List S133)) (l0_2:(List Int)) (l0_3:(List Int)) (l0_4:(List S103)) (l0_5:(List Int)) (l0_6:(List Int)) (a0_7:Int) (a0_8:Int) (a0_9:Int) (a0_10:Int) (l0_11:(List S62)) (a0_12:Int) (h:okW' l0_1 l0_2 l0_3 l0_4 l0_5 l0_6 l0_11):Ev (fun k=>impl_IsWorld.f k a0_0 l0_1 l0_2 l0_3 l0_4 l0_5 l0_6 a0_7 a0_8 a0_9 a0_10 l0_11 a0_12) (worldB a0_0 l0_1 l0_2 l0_3 l0_4 l0_5 l0_6 a0_7 a0_8 a0_9 a0_10 l0_11 a0_12) :=by
 obtain ⟨o1,o2,o3,⟨o4,o4p⟩,o5,o6,o11⟩ :=h
 unfold impl_IsWorld.f isWorldF
 refine evEq ?_ (Ev.bind (impl_IsNet_ev a0_0 l0_1 o1) (evAndW (evAndP (Ev.bind (impl_allIn_ev l0_2 0 100 o2) (evAndW (Ev.bind (impl_isSet_ev l0_3 (l0_1.length:Int) o3 ⟨by omega,by omega⟩) (evAndW (evAndP (Ev.bind (impl_AreProbes_ev a0_0 l0_1 l0_4 o1 o4p) (evAndW (evAndP (Ev.bind (impl_allIn_ev l0_5 0 5 o5) (evAndW (Ev.bind (impl_isSet_ev l0_6 6 o6 (by decide)) (evAndW (evSome (impl_IsBucket_eq _ _ _ _) (evAndW (evAndP (Ev.bind (impl_AreSeen_ev l0_11 _ _ o11) (evAndW (evSome (impl_InRange_eq _ _ _) (Ev.now _))))))))))))))))))))))
 have e:decide ((l0_4.length:Int) > 0)=!decide ((l0_4.length:Int)=0) :=by
  by_cases h:(l0_4.length:Int)=0
  ·simp [h]
  ·rw [decide_eq_false h,decide_eq_true (by omega)];rfl
 rw [worldB,worldT,e]
 ac_rfl
theorem impl_across_eq (x:S133) (v:Int):impl_Link_across.f x.f0 x.f1 v=some (acr x v) :=by
 unfold impl_Link_across.f acr
 split
 ·rfl
 ·split <;> rfl
theorem ev_istage {nd r v o:Int} {y:List Int} (hl:(y.length:Int)=nd) (hv:0≤v∧v < nd) (ho:0≤o∧o < nd) (h0:0≤r∧r≤100) {α:Type} {R:α} {F:Nat→List Int→Option α} (h:Ev (fun k=>F k (if rd y v=r∧rd y o < 0 then y.set o.toNat (r + 1) else y)) R) :
  Ev (fun k=>if 0≤v then (if v < (y.length:Int) then (if rd y v=r then (if 0≤o then (if o < (y.length:Int) then (if rd y o < 0 then F k (y.set o.toNat (wrap64 (r + 1))) else F k y) else none) else none) else F k y) else none) else none) R:=by
 refine evPos hv.1 (evPos (by omega) ?_)
 by_cases c1:rd y v=r
 ·refine evPos c1 (evPos ho.1 (evPos (by omega) ?_))
  by_cases c2:rd y o < 0
  ·refine evPos c2 ?_
   rw [w64 (n:=r + 1) (by omega) (by omega)]
   rwa [if_pos ⟨c1,c2⟩] at h
  ·refine evNeg c2 ?_
   rwa [if_neg (fun c=>c2 c.2)] at h
 ·refine evNeg c1 ?_
  rwa [if_neg (fun c=>c1 c.1)] at h
theorem impl_RouteTo_l2 (a b m:Int) {lk:List S133} {nd r:Int} (hk:∀ x∈lk,LinkOk nd x) (hlk:lk.length≤100) (h0:0≤r∧r≤100) {R:List Int}:∀ (suf pre:List S133) (far:List Int),lk=pre ++ suf→(far.length:Int)=nd →
  Ev (fun k=>impl_RouteTo.l1 k a b (suf.foldl (updL r) far) m (wrap64 (r + 1)) nd lk) R→Ev (fun k=>impl_RouteTo.l2 k a b far r m r lk (lk.length:Int) (pre.length:Int) nd lk) R
 | [],pre,far,e,hl,h=>by
  refine Ev.step (fun k=>by rw [impl_RouteTo.l2]) (evNeg (by rw [e];simp) ?_)
  exact h
 | x :: suf,pre,far,e,hl,h=>by
  have hx:=hk x (by rw [e];simp)
  have hr:rd_T133 lk (pre.length:Int)=x:=by rw [e];exact rd_lk pre suf x
  have hlen:pre.length + 1≤lk.length:=by rw [e];simp
  have ih:=impl_RouteTo_l2 a b m hk hlk h0 suf (pre ++ [x]) (updL r far x) (by rw [e];simp) (by rw [updL_len];exact hl) h
  rw [show (pre ++ [x]).length=pre.length + 1 by simp,← wsucc (by omega)] at ih
  obtain ⟨k0,k1,k2⟩ :=hx
  have q0:acr x x.f0=x.f1:=by rw [acr,if_pos rfl]
  have q1:acr x x.f1=x.f0:=by rw [acr,if_neg (fun e=>k2 e.symm),if_pos rfl]
  have r0:rd [x.f0,x.f1] 0=x.f0:=rfl
  have r1:rd [x.f0,x.f1] (wrap64 (0 + 1))=x.f1:=by rw [w64 (by omega) (by omega)];rfl
  refine Ev.step (fun k=>by rw [impl_RouteTo.l2,hr]) (evPos (by omega) (evPos (by omega) (evPos (by omega) (evSome rfl ?_))))
  refine Ev.step (fun k=>by rw [impl_RouteTo.l3,r0]) (evPos (by simp) (evPos (by omega) (evPos (by simp) (evSome (impl_across_eq x x.f0) ?_))))
  rw [q0]
  refine ev_istage hl k0 k1 h0 (F:=fun k y=>impl_RouteTo.l3 k a b y r m r lk (lk.length:Int) (pre.length:Int) [x.f0,x.f1] (([x.f0,x.f1]:List Int).length:Int) (wrap64 (0 + 1)) nd lk x.f0 x.f1) ?_
  have hA:(updA r far x).length=far.length:=updA_len r far x
  show Ev (fun k=>impl_RouteTo.l3 k a b (updA r far x) r m r lk (lk.length:Int) (pre.length:Int) [x.f0,x.f1] (([x.f0,x.f1]:List Int).length:Int) (wrap64 (0 + 1)) nd lk x.f0 x.f1) R
  refine Ev.step (fun k=>by rw [impl_RouteTo.l3,r1]) ?_
  rw [w64 (n:=(0:Int) + 1) (by omega) (by omega)]
  refine evPos (by simp) (evPos (by omega) (evPos (by simp) (evSome (impl_across_eq x x.f1) ?_)))
  rw [q1]
  refine ev_istage (by rw [hA];exact hl) k1 k0 h0 (F:=fun k y=>impl_RouteTo.l3 k a b y r m r lk (lk.length:Int) (pre.length:Int) [x.f0,x.f1] (([x.f0,x.f1]:List Int).length:Int) (wrap64 (0 + 1 + 1)) nd lk x.f0 x.f1) ?_
  show Ev (fun k=>impl_RouteTo.l3 k a b (updL r far x) r m r lk (lk.length:Int) (pre.length:Int) [x.f0,x.f1] (([x.f0,x.f1]:List Int).length:Int) (wrap64 (0 + 1 + 1)) nd lk x.f0 x.f1) R
  rw [w64 (n:=(0:Int) + 1 + 1) (by omega) (by omega)]
  exact Ev.step (fun k=>by rw [impl_RouteTo.l3]) (evNeg (by simp) ih)
theorem impl_RouteTo_l1 (a b:Int) {lk:List S133} {n:Nat} (hn:n≤50) (hk:∀ x∈lk,LinkOk (n:Int) x) (hlk:lk.length≤100) {R:List Int}:∀ (d r:Nat) (far:List Int),r + d=n→far.length=n →
  Ev (fun k=>if 0≤a then (if a < ((bfs lk d (r:Int) far).length:Int) then (if rd (bfs lk d (r:Int) far) a < 0 then some [] else impl_RouteTo.l4 k b (bfs lk d (r:Int) far) [] a (n:Int) lk) else none) else none) R →
  Ev (fun k=>impl_RouteTo.l1 k a b far (n:Int) (r:Int) (n:Int) lk) R
 | 0,r,far,e,hl,h=>by
  refine Ev.step (fun k=>by rw [impl_RouteTo.l1]) (evNeg (by omega) ?_)
  exact h
 | d + 1,r,far,e,hl,h=>by
  have hf:(lk.foldl (updL (r:Int)) far).length=far.length:=by
   have:∀ (l:List S133) (f:List Int),(l.foldl (updL (r:Int)) f).length=f.length:=fun l=>by
    induction l with
    | nil=>intro f;rfl
    | cons y l ih=>intro f;rw [List.foldl_cons,ih,updL_len]
   exact this lk far
  have ih:=impl_RouteTo_l1 a b hn hk hlk d (r + 1) (lk.foldl (updL (r:Int)) far) (by omega) (by rw [hf];exact hl) (R:=R) (by rw [bfs] at h;exact h)
  refine Ev.step (fun k=>by rw [impl_RouteTo.l1]) (evPos (by omega) ?_)
  refine impl_RouteTo_l2 a b (n:Int) hk hlk (by omega) lk [] far rfl (by omega) ?_
  rw [wsucc (by omega)]
  exact ih
theorem set_rep (j d:Nat):(List.replicate j (-1:Int) ++ List.replicate (d + 1) 0).set j (-1)=List.replicate (j + 1) (-1) ++ List.replicate d 0:=by
 rw [List.replicate_succ,List.set_append_right _ _ (by simp),List.replicate_succ']
 simp
theorem impl_RouteTo_l0 (a b:Int) {lk:List S133} {n:Nat} (hn:n≤50) (hb:0≤b∧b < (n:Int)) {R:List Int} (h:Ev (fun k=>impl_RouteTo.l1 k a b (far0 n b) (n:Int) 0 (n:Int) lk) R):∀ (d j:Nat),j + d=n →
  Ev (fun k=>impl_RouteTo.l0 k a b (List.replicate j (-1) ++ List.replicate d 0) (n:Int) (j:Int) (n:Int) lk) R
 | 0,j,e=>by
  have e':j=n:=by omega
  subst e'
  refine Ev.step (fun k=>by rw [impl_RouteTo.l0]) (evNeg (by omega) (evPos hb.1 (evPos (by simpa using hb.2) ?_)))
  simpa [far0] using h
 | d + 1,j,e=>by
  have ih:=impl_RouteTo_l0 a b hn hb h d (j + 1) (by omega)
  rw [← set_rep,← wsucc (by omega)] at ih
  refine Ev.step (fun k=>by rw [impl_RouteTo.l0]) (evPos (by omega) (evPos (by omega) (evPos (by simp;omega) ?_)))
  rw [Int.toNat_natCast]
  exact ih
theorem impl_RouteTo_l5 (b:Int) (out:List Int) {lk:List S133} {n:Nat} (hn:n≤50) (hk:∀ x∈lk,LinkOk (n:Int) x) (hlk:lk.length≤100) (ho:out.length≤1000) {B a:Int} (hB:B≤100) {far:List Int} (hF:FarOk lk b B far) (hl:far.length=n) (a0:0≤a) (a1:a < (n:Int))
  {x:S133} {suf:List S133} (hx:0≤acr x a∧rd far (acr x a)=rd far a - 1) {R:List Int}:∀ (q p:List S133),lk=p ++ q ++ x :: suf→(∀ y∈q,nxP far a y=false) →
  Ev (fun k=>impl_RouteTo.l4 k b far (out ++ [((p ++ q).length:Int)]) (acr x a) (n:Int) lk) R→Ev (fun k=>impl_RouteTo.l5 k b far out a lk (lk.length:Int) (p.length:Int) (n:Int) lk) R
 | [],p,e,hq,h=>by
  rw [List.append_nil] at h e
  have hxk:=acr_lt (a:=a) (hk x (by rw [e];simp))
  have hlen:p.length < lk.length:=by rw [e];simp
  have hlo:=hF.lo a a0 (by omega)
  have hr:rd_T133 lk (p.length:Int)=x:=by rw [e];exact rd_lk p suf x
  refine Ev.step (fun k=>by rw [impl_RouteTo.l5,hr]) (evPos (by omega) (evPos (by omega) (evPos (by omega) (evSome (impl_across_eq x a) ?_))))
  refine evPos hx.1 (evPos hx.1 (evPos (by omega) (evPos a0 (evPos (by omega) (evPos ?_ (evPos (by omega) h))))))
  rw [w64 (by omega) (by omega)]
  exact hx.2
 | y :: q,p,e,hq,h=>by
  have ih:=impl_RouteTo_l5 (suf:=suf) b out hn hk hlk ho hB hF hl a0 a1 hx q (p ++ [y]) (by rw [e];simp) (fun z hz=>hq z (by simp [hz])) (by simpa using h)
  have hyk:=acr_lt (a:=a) (hk y (by rw [e];simp))
  have hlen:p.length < lk.length:=by rw [e];simp
  have hlo:=hF.lo a a0 (by omega)
  have hr:rd_T133 lk (p.length:Int)=y:=by rw [e,List.append_assoc];exact rd_lk p _ y
  rw [show (p ++ [y]).length=p.length + 1 by simp,← wsucc (by omega)] at ih
  refine Ev.step (fun k=>by rw [impl_RouteTo.l5,hr]) (evPos (by omega) (evPos (by omega) (evPos (by omega) (evSome (impl_across_eq y a) ?_))))
  have hy:=hq y (by simp)
  rw [nxP,decide_eq_false_iff_not] at hy
  by_cases c:acr y a≥0
  ·refine evPos c (evPos c (evPos (by omega) (evPos a0 (evPos (by omega) (evNeg ?_ ih)))))
   rw [w64 (by omega) (by omega)]
   exact fun c2=>hy ⟨c,c2⟩
  ·exact evNeg c ih
theorem impl_RouteTo_l4 (b:Int) {lk:List S133} {n:Nat} (hn:n≤50) (hk:∀ x∈lk,LinkOk (n:Int) x) (hlk:lk.length≤100) {B:Int} (hB:B≤100) {far:List Int} (hF:FarOk lk b B far) (hl:far.length=n):∀ (d:Nat) (a:Int) (out:List Int),0≤a→a < (n:Int) →rd far a=(d:Int) →out.length + d≤1000 →
  Ev (fun k=>impl_RouteTo.l4 k b far out a (n:Int) lk) (out ++ walkV lk far b d a)
 | 0,a,out,a0,a1,hd,ho=>by
  have:=hF.z a a0 (by omega) (by omega)
  exact Ev.step (fun k=>by rw [impl_RouteTo.l4]) (evPos this (evEq (by simp [walkV]) (Ev.now _)))
 | d + 1,a,out,a0,a1,hd,ho=>by
  by_cases c:a=b
  ·exact Ev.step (fun k=>by rw [impl_RouteTo.l4]) (evPos c (evEq (by simp [walkV,c]) (Ev.now _)))
  ·obtain ⟨pre,x,suf,e1,e2,e3,e4,e5⟩ :=step_ok hF a0 (by omega) (by omega) (fun y hy=>by rw [hl];exact hk y hy)
   have ih:=impl_RouteTo_l4 b hn hk hlk hB hF hl d (acr x a) (out ++ [(pre.length:Int)]) e4.1 (by omega) (by omega) (by simp;omega)
   have hr:rd_T133 lk (pre.length:Int)=x:=by rw [e1];exact rd_lk pre suf x
   refine Ev.step (fun k=>by rw [impl_RouteTo.l4]) (evNeg c ?_)
   refine impl_RouteTo_l5 b out hn hk hlk (by omega) hB hF hl a0 a1 ⟨e4.1,e5⟩ pre [] (by simpa using e1) e2 ?_
   rw [List.nil_append]
   refine evEq ?_ ih
   rw [walkV,if_neg c,e3,hr]
   simp
theorem impl_RouteTo_ev (nd:Int) (lk:List S133) (hlk:lk.length≤1048576) (a b:Int):Ev (fun k=>impl_RouteTo.f k nd lk a b) (routeV nd lk a b) :=by
 have hfalse:Ev (fun k=>impl_RouteTo.j0 k a b true nd lk) [] :=Ev.step (fun k=>by rw [impl_RouteTo.j0]) (evPos rfl (Ev.now _))
 unfold impl_RouteTo.f
 refine Ev.bind (impl_IsNet_ev nd lk hlk) ?_
 by_cases h:netB nd lk=true
 ·obtain ⟨n1,n2,hk⟩ :=netB_ok h
  refine evPos h (evSome (impl_at_eq _ _) ?_)
  by_cases ca:0≤a∧a < nd
  ·refine evPos (by simpa using ca) (evSome (impl_at_eq _ _) ?_)
   by_cases cb:0≤b∧b < nd
   ·rw [decide_eq_true cb]
    obtain ⟨n,rfl⟩:∃ n:Nat,nd=n:=⟨nd.toNat,by omega⟩
    obtain ⟨f1,f2⟩ :=far0_ok lk n b 50 (by omega) (by omega)
    obtain ⟨g1,g2⟩ :=bfs_ok (B:=50) hk n 0 (far0 n b) (by omega) (by omega) (by omega) f1
    rw [routeV,if_pos ⟨h,ca,cb⟩,Int.toNat_natCast]
    refine Ev.step (fun k=>by rw [impl_RouteTo.j0]) (evNeg (by decide) (evPos (by omega) (evPos (by omega) (evSome rfl ?_))))
    rw [Int.toNat_natCast,List.length_replicate]
    refine impl_RouteTo_l0 a b (by omega) cb ?_ n 0 (by omega)
    refine impl_RouteTo_l1 a b (by omega) hk (by omega) n 0 (far0 n b) (by omega) f2 ?_
    refine evPos ca.1 (evPos (by rw [show ((0:Nat):Int)=0 from rfl,g2,f2];omega) ?_)
    by_cases c:rd (bfs lk n ((0:Nat):Int) (far0 n b)) a < 0
    ·have c':rd (bfs lk n 0 (far0 n b)) a < 0:=c
     exact evPos c (evEq (by rw [if_pos c']) (Ev.now _))
    ·have hlo:=g1.lo a ca.1 (by rw [g2,f2];omega)
     have hc:¬ rd (bfs lk n 0 (far0 n b)) a < 0:=c
     refine evNeg c ?_
     rw [if_neg hc]
     have:=impl_RouteTo_l4 b (by omega) hk (by omega) (by omega:(50:Int) ≤100) g1 (by rw [g2,f2]) (rd (bfs lk n 0 (far0 n b)) a).toNat a [] ca.1 (by omega) (by omega) (by simp;omega)
     simpa using this
   ·rw [decide_eq_false cb,routeV,if_neg (fun c=>cb c.2.2)]
    exact hfalse
  ·refine evNeg (by simpa using ca) ?_
   rw [routeV,if_neg (fun c=>ca c.2.1)]
   exact hfalse
 ·refine evNeg h ?_
  rw [routeV,if_neg (fun c=>h c.1)]
  exact hfalse
theorem walkV_len (lk:List S133) (far:List Int) (b:Int):∀ (d:Nat) (a:Int),(walkV lk far b d a).length≤d
 | 0,_=>by simp [walkV]
 | d + 1,a=>by
  rw [walkV]
  split
  ·simp
  ·have:=walkV_len lk far b d (acr (rd_T133 lk (firstP (nxP far a) lk 0)) a)
   simp only [List.length_cons]
   omega
theorem routeV_len (nd:Int) (lk:List S133) (a b:Int):(routeV nd lk a b).length≤50:=by
 unfold routeV
 split
 ·rename_i h
  obtain ⟨h,ca,cb⟩ :=h
  obtain ⟨n1,n2,hk⟩ :=netB_ok h
  obtain ⟨n,rfl⟩:∃ n:Nat,nd=n:=⟨nd.toNat,by omega⟩
  obtain ⟨f1,f2⟩ :=far0_ok lk n b 50 (by omega) (by omega)
  obtain ⟨g1,g2⟩ :=bfs_ok (B:=50) hk n 0 (far0 n b) (by omega) (by omega) (by omega) f1
  rw [Int.toNat_natCast]
  have hlo:=g1.lo a ca.1 (by rw [g2,f2];omega)
  split
  ·simp
  ·exact Nat.le_trans (walkV_len _ _ _ _ _) (by omega)
 ·simp
def prB (nd:Int) (lk:List S133) (a:Int):List Int→List S103→List S103
 | [],out=>out
 | b :: bs,out=>prB nd lk a bs (if ¬ (((routeV nd lk a b).length:Int)=0) ∧(out.length:Int) < 12 then out ++ [⟨a,b,routeV nd lk a b⟩] else out)
def prA (nd:Int) (lk:List S133):List Int→List S103→List S103
 | [],out=>out
 | a :: l,out=>prA nd lk l (prB nd lk a l out)
theorem prB_ok (nd:Int) (lk:List S133) (a:Int):∀ (l:List Int) (out:List S103),(out.length≤12∧∀ p∈out,p.f2.length≤50) →(prB nd lk a l out).length≤12∧∀ p∈prB nd lk a l out,p.f2.length≤50
 | [],out,h=>h
 | b :: l,out,h=>by
  refine prB_ok nd lk a l _ ?_
  split
  ·rename_i c
   refine ⟨by simp;omega,fun p hp=>?_⟩
   rcases List.mem_append.1 hp with hp|hp
   ·exact h.2 p hp
   ·rw [List.mem_singleton.1 hp]
    exact routeV_len nd lk a b
  ·exact h
theorem prA_ok (nd:Int) (lk:List S133):∀ (l:List Int) (out:List S103),(out.length≤12∧∀ p∈out,p.f2.length≤50) →(prA nd lk l out).length≤12∧∀ p∈prA nd lk l out,p.f2.length≤50
 | [],out,h=>h
 | a :: l,out,h=>prA_ok nd lk l _ (prB_ok nd lk a l out h)
theorem spec_ProbeFor_ev (nd:Int) (lk:List S133) (hlk:lk.length≤1048576) (a b:Int):Ev (fun k=>spec_ProbeFor.f k nd lk a b) (if ((routeV nd lk a b).length:Int)=0 then (0,0,[],false) else (a,b,routeV nd lk a b,true)) :=by
 unfold spec_ProbeFor.f
 refine Ev.bind (spec_RouteTo_ev nd lk hlk a b) ?_
 by_cases c:((routeV nd lk a b).length:Int)=0
 ·exact evPos c (evEq (by rw [if_pos c]) (Ev.now _))
 ·exact evNeg c (evEq (by rw [if_neg c]) (Ev.now _))
theorem impl_ProbeFor_ev (nd:Int) (lk:List S133) (hlk:lk.length≤1048576) (a b:Int):Ev (fun k=>impl_ProbeFor.f k nd lk a b) (if ((routeV nd lk a b).length:Int)=0 then (0,0,[],false) else (a,b,routeV nd lk a b,true)) :=by
 unfold impl_ProbeFor.f
 refine Ev.bind (impl_RouteTo_ev nd lk hlk a b) ?_
 by_cases c:((routeV nd lk a b).length:Int)=0
 ·exact evPos c (evEq (by rw [if_pos c]) (Ev.now _))
 ·exact evNeg c (evEq (by rw [if_neg c]) (Ev.now _))
theorem ev_probe {nd a b:Int} {lk:List S133} {out:List S103} (ho:out.length≤12) {α:Type} {R:α} {F:Nat→List S103→Option α}
  (h:Ev (fun k=>F k (if ¬ (((routeV nd lk a b).length:Int)=0) ∧(out.length:Int) < 12 then out ++ [⟨a,b,routeV nd lk a b⟩] else out)) R) {r:Int × Int × List Int × Bool} (hr:r=if ((routeV nd lk a b).length:Int)=0 then (0,0,[],false) else (a,b,routeV nd lk a b,true)) :
  Ev (fun k=>if r.2.2.2=true then (if (out.length:Int) < 12 then (if out.length < 3518437208883 then F k (out ++ [(⟨r.1,r.2.1,r.2.2.1⟩:S103)]) else none) else F k out) else F k out) R:=by
 by_cases c:((routeV nd lk a b).length:Int)=0
 ·rw [if_pos c] at hr
  subst hr
  refine evNeg (by decide) ?_
  rwa [if_neg (fun c2=>c2.1 c)] at h
 ·rw [if_neg c] at hr
  subst hr
  refine evPos rfl ?_
  by_cases c2:(out.length:Int) < 12
  ·refine evPos c2 (evPos (by omega) ?_)
   rwa [if_pos ⟨c,c2⟩] at h
  ·refine evNeg c2 ?_
   rwa [if_neg (fun c3=>c2 c3.2)] at h
theorem spec_ProbesOf_l1 (nd:Int) (lk:List S133) (hlk:lk.length≤1048576) (hs:List Int) (hh:hs.length≤1048576) (i:Nat) (hi:i < hs.length) {R:List S103}:∀ (suf pre:List Int) (out:List S103),hs=pre ++ suf→(out.length≤12∧∀ p∈out,p.f2.length≤50) →
  Ev (fun k=>spec_ProbesOf.l0 k hs (prB nd lk hs[i] suf out) (wrap64 ((i:Int) + 1)) nd lk) R→Ev (fun k=>spec_ProbesOf.l1 k hs out (i:Int) (pre.length:Int) nd lk) R
 | [],pre,out,e,ho,h=>by
  refine Ev.step (fun k=>by rw [spec_ProbesOf.l1]) (evNeg (by rw [e];simp) ?_)
  exact h
 | b :: suf,pre,out,e,ho,h=>by
  have hb:rd hs (pre.length:Int)=b:=by rw [e];exact rd_mid pre suf b
  have ha:rd hs (i:Int)=hs[i] :=rd_at hs i hi
  have hlen:pre.length + 1≤hs.length:=by rw [e];simp
  have ho2:=prB_ok nd lk hs[i] [b] out ho
  have ih:=spec_ProbesOf_l1 nd lk hlk hs hh i hi suf (pre ++ [b]) (prB nd lk hs[i] [b] out) (by rw [e];simp) ho2 h
  rw [show (pre ++ [b]).length=pre.length + 1 by simp,← wsucc (by omega)] at ih
  refine Ev.step (fun k=>by rw [spec_ProbesOf.l1,hb,ha]) (evPos (by omega) (evPos (by omega) (evPos (by omega) (evPos (by omega) ?_))))
  refine Ev.bind (spec_ProbeFor_ev nd lk hlk hs[i] b) ?_
  exact ev_probe ho.1 (F:=fun k o=>spec_ProbesOf.l1 k hs o (i:Int) (wrap64 ((pre.length:Int) + 1)) nd lk) ih rfl
theorem spec_ProbesOf_l0 (nd:Int) (lk:List S133) (hlk:lk.length≤1048576) (hs:List Int) (hh:hs.length≤1048576):∀ (suf pre:List Int) (out:List S103),hs=pre ++ suf→(out.length≤12∧∀ p∈out,p.f2.length≤50) →
  Ev (fun k=>spec_ProbesOf.l0 k hs out (pre.length:Int) nd lk) (prA nd lk suf out)
 | [],pre,out,e,ho=>by
  refine Ev.step (fun k=>by rw [spec_ProbesOf.l0]) (evNeg (by rw [e];simp) ?_)
  exact Ev.now _
 | a :: suf,pre,out,e,ho=>by
  have hlen:pre.length + 1≤hs.length:=by rw [e];simp
  have hi:hs[pre.length]'(by omega)=a:=by simp [e]
  have ih:=spec_ProbesOf_l0 nd lk hlk hs hh suf (pre ++ [a]) (prB nd lk a suf out) (by rw [e];simp) (prB_ok nd lk a suf out ho)
  refine Ev.step (fun k=>by rw [spec_ProbesOf.l0]) (evPos (by omega) ?_)
  have h1:=spec_ProbesOf_l1 nd lk hlk hs hh pre.length (by omega) (R:=prA nd lk (a :: suf) out) suf (pre ++ [a]) out (by rw [e];simp) ho (by
   rw [wsucc (by omega),hi]
   simpa [prA] using ih)
  rw [show (pre ++ [a]).length=pre.length + 1 by simp,← wsucc (by omega)] at h1
  exact h1
theorem spec_ProbesOf_ev (nd:Int) (lk:List S133) (hlk:lk.length≤1048576) (hs:List Int) (hh:hs.length≤1048576):Ev (fun k=>spec_ProbesOf.f k nd lk hs) (prA nd lk hs []) :=by
 unfold spec_ProbesOf.f
 exact spec_ProbesOf_l0 nd lk hlk hs hh hs [] [] rfl ⟨by simp,by simp⟩
theorem impl_ProbesOf_l1 (nd:Int) (lk:List S133) (hlk:lk.length≤1048576) (hs x12 x22:List Int) (a x13 x14:Int) (hh:x22.length≤1048576) {R:List S103}:∀ (suf pre:List Int) (out:List S103),x22=pre ++ suf→(out.length≤12∧∀ p∈out,p.f2.length≤50) →
  Ev (fun k=>impl_ProbesOf.l0 k hs (prB nd lk a suf out) x12 x13 (wrap64 (x14 + 1)) nd lk) R→Ev (fun k=>impl_ProbesOf.l1 k hs out a x12 x13 x14 x22 (x22.length:Int) (pre.length:Int) nd lk) R
 | [],pre,out,e,ho,h=>by
  refine Ev.step (fun k=>by rw [impl_ProbesOf.l1]) (evNeg (by rw [e];simp) ?_)
  exact h
 | b :: suf,pre,out,e,ho,h=>by
  have hb:rd x22 (pre.length:Int)=b:=by rw [e];exact rd_mid pre suf b
  have hlen:pre.length + 1≤x22.length:=by rw [e];simp
  have ho2:=prB_ok nd lk a [b] out ho
  have ih:=impl_ProbesOf_l1 nd lk hlk hs x12 x22 a x13 x14 hh suf (pre ++ [b]) (prB nd lk a [b] out) (by rw [e];simp) ho2 h
  rw [show (pre ++ [b]).length=pre.length + 1 by simp,← wsucc (by omega)] at ih
  refine Ev.step (fun k=>by rw [impl_ProbesOf.l1,hb]) (evPos (by omega) (evPos (by omega) (evPos (by omega) ?_)))
  refine Ev.bind (impl_ProbeFor_ev nd lk hlk a b) ?_
  exact ev_probe ho.1 (F:=fun k o=>impl_ProbesOf.l1 k hs o a x12 x13 x14 x22 (x22.length:Int) (wrap64 ((pre.length:Int) + 1)) nd lk) ih rfl
theorem impl_ProbesOf_l0 (nd:Int) (lk:List S133) (hlk:lk.length≤1048576) (hs:List Int) (hh:hs.length≤1048576):∀ (suf pre:List Int) (out:List S103),hs=pre ++ suf→(out.length≤12∧∀ p∈out,p.f2.length≤50) →
  Ev (fun k=>impl_ProbesOf.l0 k hs out hs (hs.length:Int) (pre.length:Int) nd lk) (prA nd lk suf out)
 | [],pre,out,e,ho=>by
  refine Ev.step (fun k=>by rw [impl_ProbesOf.l0]) (evNeg (by rw [e];simp) ?_)
  exact Ev.now _
 | a :: suf,pre,out,e,ho=>by
  have hlen:pre.length + 1≤hs.length:=by rw [e];simp
  have ha:rd hs (pre.length:Int)=a:=by rw [e];exact rd_mid pre suf a
  have hd:hs.drop (pre.length + 1)=suf:=by rw [e];simp
  have ih:=impl_ProbesOf_l0 nd lk hlk hs hh suf (pre ++ [a]) (prB nd lk a suf out) (by rw [e];simp) (prB_ok nd lk a suf out ho)
  refine Ev.step (fun k=>by rw [impl_ProbesOf.l0,ha,wsucc (by omega),Int.toNat_natCast,hd]) (evPos (by omega) (evPos (by omega) (evPos (by omega) (evPos (by omega) (evPos (by omega) ?_)))))
  have hsl:suf.length≤hs.length:=by
   rw [e]
   simp only [List.length_append,List.length_cons]
   omega
  refine impl_ProbesOf_l1 nd lk hlk hs hs suf a (hs.length:Int) (pre.length:Int) (by omega) suf [] out rfl ho ?_
  rw [wsucc (by omega)]
  simpa [prA] using ih
theorem impl_ProbesOf_ev (nd:Int) (lk:List S133) (hlk:lk.length≤1048576) (hs:List Int) (hh:hs.length≤1048576):Ev (fun k=>impl_ProbesOf.f k nd lk hs) (prA nd lk hs []) :=by
 unfold impl_ProbesOf.f
 exact impl_ProbesOf_l0 nd lk hlk hs hh hs [] [] rfl ⟨by simp,by simp⟩
theorem clone_ii (l:List Int) (h:l.length≤1048576):slices_Clone_int_int.f l=some l:=by
 unfold slices_Clone_int_int.f
 rw [Option.bind_some,if_pos (by simp;omega)]
 rfl
theorem impl_copyProbes_l0:∀ (suf pre:List S103),(pre ++ suf).length≤1048576→(∀ p∈suf,p.f2.length≤1048576) →Ev (fun k=>impl_copyProbes.l0 k pre (pre ++ suf) ((pre ++ suf).length:Int) (pre.length:Int)) (pre ++ suf)
 | [],pre,h,hp=>Ev.step (fun k=>by rw [impl_copyProbes.l0]) (evNeg (by simp) (evEq (by simp) (Ev.now _)))
 | x :: suf,pre,h,hp=>by
  have hr:rd_T103 (pre ++ x :: suf) (pre.length:Int)=x:=by
   rw [rd_T103,List.getD_eq_getElem?_getD]
   simp
  simp only [List.length_append,List.length_cons] at h
  have ih:=impl_copyProbes_l0 suf (pre ++ [x]) (by simp;omega) (fun p hp2=>hp p (by simp [hp2]))
  refine Ev.step (fun k=>by rw [impl_copyProbes.l0,hr]) (evPos (by simp only [List.length_append,List.length_cons];omega) (evPos (by omega) (evPos (by simp only [List.length_append,List.length_cons];omega) (evSome (clone_ii x.f2 (hp x (by simp))) ?_))))
  refine evPos (by omega) ?_
  rw [wsucc (by omega)]
  simpa using ih
theorem impl_copyProbes_ev (l:List S103) (h:l.length≤1048576) (hp:∀ p∈l,p.f2.length≤1048576):Ev (fun k=>impl_copyProbes.f k l) l:=by
 unfold impl_copyProbes.f
 exact impl_copyProbes_l0 l [] h hp
abbrev NWV:Type:=Int × List S133 × List Int × List Int × List S103 × List Int × List Int × Int × Int × Int × Int × List S62 × Int × Bool
def nwV (nd:Int) (lk:List S133) (de hs ow:List Int):NWV:=if worldB nd lk de [] (prA nd lk hs []) ow [] 12 12 4 0 [] 0=true then (nd,lk,de,[],prA nd lk hs [],ow,[],12,12,4,0,[],0,true) else (0,[],[],[],[],[],[],0,0,0,0,[],0,false)
theorem spec_NewWorld_ev (nd:Int) (lk:List S133) (de hs ow:List Int) (h1:lk.length≤1048576) (h2:de.length≤1048576) (h3:hs.length≤1048576) (h4:ow.length≤1048576):Ev (fun k=>spec_NewWorld.f k nd lk de hs ow) (nwV nd lk de hs ow) :=by
 obtain ⟨p1,p2⟩ :=prA_ok nd lk hs [] ⟨by simp,by simp⟩
 have hw:=spec_IsWorld_ev nd lk de [] (prA nd lk hs []) ow [] 12 12 4 0 [] 0 ⟨h1,h2,by simp,⟨by omega,fun p hp=>Nat.le_trans (p2 p hp) (by omega)⟩,h4,by simp,by simp⟩
 have hn:spec_l29Net.f nd lk=some (nd,lk) :=by
  unfold spec_l29Net.f
  rw [Option.bind_some,if_pos (by simp;omega)]
  rfl
 unfold spec_NewWorld.f
 refine evSome hn (evSome (a:=[]) rfl (evPos (by simp;omega) (evSome (a:=de) rfl (Ev.bind (spec_ProbesOf_ev nd lk h1 hs h3) (evSome (a:=[]) rfl (evPos (by simp;omega) (evSome (a:=ow) rfl (Ev.bind hw ?_))))))))
 unfold nwV
 by_cases c:worldB nd lk de [] (prA nd lk hs []) ow [] 12 12 4 0 [] 0=true
 ·exact evPos c (evEq (by rw [if_pos c]) (Ev.now _))
 ·exact evNeg c (evEq (by rw [if_neg c]) (Ev.now _))
theorem impl_NewWorld_ev (nd:Int) (lk:List S133) (de hs ow:List Int) (h1:lk.length≤1048576) (h2:de.length≤1048576) (h3:hs.length≤1048576) (h4:ow.length≤1048576):Ev (fun k=>impl_NewWorld.f k nd lk de hs ow) (nwV nd lk de hs ow) :=by
 obtain ⟨p1,p2⟩ :=prA_ok nd lk hs [] ⟨by simp,by simp⟩
 have hok:okW' lk de [] (prA nd lk hs []) ow [] [] :=⟨h1,h2,by simp,⟨by omega,fun p hp=>Nat.le_trans (p2 p hp) (by omega)⟩,h4,by simp,by simp⟩
 have hw:=impl_IsWorld_ev nd lk de [] (prA nd lk hs []) ow [] 12 12 4 0 [] 0 hok
 have hl:impl_Link_170.f lk=some lk:=by
  unfold impl_Link_170.f
  rw [Option.bind_some,if_pos (by simp;omega)]
  rfl
 have hc:Ev (fun k=>impl_copyWorld.f k nd lk de [] (prA nd lk hs []) ow [] 12 12 4 0 [] 0) (nd,lk,de,[],prA nd lk hs [],ow,[],12,12,4,0,[],0) :=by
  unfold impl_copyWorld.f
  exact evSome hl (evSome (clone_ii de h2) (evSome (clone_ii [] (by simp)) (Ev.bind (impl_copyProbes_ev _ (by omega) (fun p hp=>Nat.le_trans (p2 p hp) (by omega))) (evSome (clone_ii ow h4) (evSome (clone_ii [] (by simp)) (evSome rfl (Ev.now _)))))))
 unfold impl_NewWorld.f
 refine Ev.bind (impl_ProbesOf_ev nd lk h1 hs h3) (Ev.bind hc (Ev.bind hw ?_))
 unfold nwV
 by_cases c:worldB nd lk de [] (prA nd lk hs []) ow [] 12 12 4 0 [] 0=true
 ·exact evPos c (evEq (by rw [if_pos c]) (Ev.now _))
 ·exact evNeg c (evEq (by rw [if_neg c]) (Ev.now _))
set_option maxHeartbeats 4000000 in
set_option maxRecDepth 100000 in
theorem eqWorld_c (x:IW) (p q:IP) (w:World) (hp:x.Rd p w) (hq:x.Rd q w) (ho:x.Ok) :
  Calls Try.prog 17 #[.agg (x.cells p),.agg (x.cells q)] w fun e w'=>e=.returned (.bool true) ∧Below w.heap.size w w':=by
 have hu:=Try.underlying42
 have hu2:=Try.underlying37
 have hu3:=Try.underlying39
 obtain ⟨k1,hk⟩ :=(eqNet_ev x.d0 x.l1 ho.1).rounds
 have K1:=Aside0.mk hk
 clear hk
 obtain ⟨k2,hk⟩ :=(eqIntS_ev x.l2 ho.2.1).rounds
 have K2:=Aside0.mk hk
 clear hk
 obtain ⟨k3,hk⟩ :=(eqIntS_ev x.l3 ho.2.2.1).rounds
 have K3:=Aside0.mk hk
 clear hk
 obtain ⟨k4,hk⟩ :=(eqProbeS_ev x.l4 ho.2.2.2.1).rounds
 have K4:=Aside0.mk hk
 clear hk
 obtain ⟨k5,hk⟩ :=(eqIntS_ev x.l5 ho.2.2.2.2.1).rounds
 have K5:=Aside0.mk hk
 clear hk
 obtain ⟨k6,hk⟩ :=(eqIntS_ev x.l6 ho.2.2.2.2.2.1).rounds
 have K6:=Aside0.mk hk
 clear hk
 obtain ⟨k11,hk⟩ :=(eqSeenS_ev x.l11 ho.2.2.2.2.2.2).rounds
 have K11:=Aside0.mk hk
 clear hk
 have HP:=Aside0.mk hp
 have HQ:=Aside0.mk hq
 clear hp hq ho
 go_enter Try.func17,Try.ntmps17
 go_wp2_with fail
 go_at_call 55;(with_reducible refine (laws_eqNet.calls k1 x.d0 p.A1 p.c1 x.l1 x.d0 q.A1 q.c1 x.l1 true _ ?s0 HP.out.h1 ?s1 HQ.out.h1 K1.out ⟨rfl⟩).mono ?_);(case s0=>exact (HP.out.below (by repeat (first|(with_reducible first|exact Below.refl _ _|apply below_alloc|apply pw_below_drewN|apply below_drew1)|exact Below.refl _ _))).r1);(case s1=>exact (HQ.out.below (by repeat (first|(with_reducible first|exact Below.refl _ _|apply below_alloc|apply pw_below_drewN|apply below_drew1)|exact Below.refl _ _))).r1);rintro e w1 ⟨rfl,hb⟩
 have HB:=Aside0.mk (below_step (w:=w) (by repeat (first|(with_reducible first|exact Below.refl _ _|apply below_alloc|apply pw_below_drewN|apply below_drew1)|exact Below.refl _ _)) hb)
 have BP:=Aside0.mk (show w1.heap[w.heap.size]?=some (.cells (x.cells p) 42 (0,0)) from blk_below (by repeat (first|exact blk_new _ _|refine blk_drewN ?_ _|refine blk_alloc ?_ _)) hb)
 have BQ:=Aside0.mk (show w1.heap[w.heap.size + 1]?=some (.cells (x.cells q) 42 (0,0)) from blk_below (by have h_:=blk_new (w.alloc (.cells (x.cells p) 42)) (.cells (x.cells q) 42);simpa using h_) hb)
 clear hb
 obtain ⟨hp0,hp1,hp2,hp3,hp4,hp5,hp6,hp7,hp8,hp9,hp10,hp11,hp12⟩ :=IW.at_ BP.out
 obtain ⟨hq0,hq1,hq2,hq3,hq4,hq5,hq6,hq7,hq8,hq9,hq10,hq11,hq12⟩ :=IW.at_ BQ.out
 go_wp2_with fail
 go_at_call 23;(with_reducible refine (laws_eqIntS.calls k2 p.A2 p.c2 x.l2 q.A2 q.c2 x.l2 true _ ?s0 HP.out.h2 ?s1 HQ.out.h2 K2.out ⟨rfl⟩).mono ?_);(case s0=>exact (HP.out.below (below_step HB.out (by repeat (first|(with_reducible first|exact Below.refl _ _|apply below_alloc|apply pw_below_drewN|apply below_drew1)|exact Below.refl _ _)))).r2);(case s1=>exact (HQ.out.below (below_step HB.out (by repeat (first|(with_reducible first|exact Below.refl _ _|apply below_alloc|apply pw_below_drewN|apply below_drew1)|exact Below.refl _ _)))).r2);rintro e w' ⟨rfl,⟨nd,rfl⟩⟩
 clear hp0 hp1 hp2 hp3 hp4 hp5 hp6 hp7 hp8 hp9 hp10 hp11 hp12 hq0 hq1 hq2 hq3 hq4 hq5 hq6 hq7 hq8 hq9 hq10 hq11 hq12
 obtain ⟨hp0,hp1,hp2,hp3,hp4,hp5,hp6,hp7,hp8,hp9,hp10,hp11,hp12⟩ :=IW.at_ BP.out
 obtain ⟨hq0,hq1,hq2,hq3,hq4,hq5,hq6,hq7,hq8,hq9,hq10,hq11,hq12⟩ :=IW.at_ BQ.out
 go_wp2_with fail
 go_at_call 23;(with_reducible refine (laws_eqIntS.calls k3 p.A3 p.c3 x.l3 q.A3 q.c3 x.l3 true _ ?s0 HP.out.h3 ?s1 HQ.out.h3 K3.out ⟨rfl⟩).mono ?_);(case s0=>exact (HP.out.below (below_step HB.out (by repeat (first|(with_reducible first|exact Below.refl _ _|apply below_alloc|apply pw_below_drewN|apply below_drew1)|exact Below.refl _ _)))).r3);(case s1=>exact (HQ.out.below (below_step HB.out (by repeat (first|(with_reducible first|exact Below.refl _ _|apply below_alloc|apply pw_below_drewN|apply below_drew1)|exact Below.refl _ _)))).r3);rintro e w' ⟨rfl,⟨nd,rfl⟩⟩
 clear hp0 hp1 hp2 hp3 hp4 hp5 hp6 hp7 hp8 hp9 hp10 hp11 hp12 hq0 hq1 hq2 hq3 hq4 hq5 hq6 hq7 hq8 hq9 hq10 hq11 hq12
 obtain ⟨hp0,hp1,hp2,hp3,hp4,hp5,hp6,hp7,hp8,hp9,hp10,hp11,hp12⟩ :=IW.at_ BP.out
 obtain ⟨hq0,hq1,hq2,hq3,hq4,hq5,hq6,hq7,hq8,hq9,hq10,hq11,hq12⟩ :=IW.at_ BQ.out
 go_wp2_with fail
 go_at_call 72;(with_reducible refine (laws_eqProbeS.calls k4 p.A4 p.c4 x.l4 q.A4 q.c4 x.l4 true _ ?s0 HP.out.h4 ?s1 HQ.out.h4 K4.out ⟨rfl⟩).mono ?_);(case s0=>exact (HP.out.below (below_step HB.out (by repeat (first|(with_reducible first|exact Below.refl _ _|apply below_alloc|apply pw_below_drewN|apply below_drew1)|exact Below.refl _ _)))).r4);(case s1=>exact (HQ.out.below (below_step HB.out (by repeat (first|(with_reducible first|exact Below.refl _ _|apply below_alloc|apply pw_below_drewN|apply below_drew1)|exact Below.refl _ _)))).r4);rintro e w4 ⟨rfl,hb⟩
 have hs:=below_step (w:=w1) (by repeat (first|(with_reducible first|exact Below.refl _ _|apply below_alloc|apply pw_below_drewN|apply below_drew1)|exact Below.refl _ _)) hb
 have HB2:=Aside0.mk (below_step HB.out hs)
 have BP2:=Aside0.mk (blk_below BP.out hs)
 have BQ2:=Aside0.mk (blk_below BQ.out hs)
 clear HB BP BQ hb hs hp0 hp1 hp2 hp3 hp4 hp5 hp6 hp7 hp8 hp9 hp10 hp11 hp12 hq0 hq1 hq2 hq3 hq4 hq5 hq6 hq7 hq8 hq9 hq10 hq11 hq12
 have HB:=HB2
 have BP:=BP2
 have BQ:=BQ2
 clear HB2 BP2 BQ2
 obtain ⟨hp0,hp1,hp2,hp3,hp4,hp5,hp6,hp7,hp8,hp9,hp10,hp11,hp12⟩ :=IW.at_ BP.out
 obtain ⟨hq0,hq1,hq2,hq3,hq4,hq5,hq6,hq7,hq8,hq9,hq10,hq11,hq12⟩ :=IW.at_ BQ.out
 go_wp2_with fail
 go_at_call 23;(with_reducible refine (laws_eqIntS.calls k5 p.A5 p.c5 x.l5 q.A5 q.c5 x.l5 true _ ?s0 HP.out.h5 ?s1 HQ.out.h5 K5.out ⟨rfl⟩).mono ?_);(case s0=>exact (HP.out.below (below_step HB.out (by repeat (first|(with_reducible first|exact Below.refl _ _|apply below_alloc|apply pw_below_drewN|apply below_drew1)|exact Below.refl _ _)))).r5);(case s1=>exact (HQ.out.below (below_step HB.out (by repeat (first|(with_reducible first|exact Below.refl _ _|apply below_alloc|apply pw_below_drewN|apply below_drew1)|exact Below.refl _ _)))).r5);rintro e w' ⟨rfl,⟨nd,rfl⟩⟩
 clear hp0 hp1 hp2 hp3 hp4 hp5 hp6 hp7 hp8 hp9 hp10 hp11 hp12 hq0 hq1 hq2 hq3 hq4 hq5 hq6 hq7 hq8 hq9 hq10 hq11 hq12
 obtain ⟨hp0,hp1,hp2,hp3,hp4,hp5,hp6,hp7,hp8,hp9,hp10,hp11,hp12⟩ :=IW.at_ BP.out
 obtain ⟨hq0,hq1,hq2,hq3,hq4,hq5,hq6,hq7,hq8,hq9,hq10,hq11,hq12⟩ :=IW.at_ BQ.out
 go_wp2_with fail
 go_at_call 23;(with_reducible refine (laws_eqIntS.calls k6 p.A6 p.c6 x.l6 q.A6 q.c6 x.l6 true _ ?s0 HP.out.h6 ?s1 HQ.out.h6 K6.out ⟨rfl⟩).mono ?_);(case s0=>exact (HP.out.below (below_step HB.out (by repeat (first|(with_reducible first|exact Below.refl _ _|apply below_alloc|apply pw_below_drewN|apply below_drew1)|exact Below.refl _ _)))).r6);(case s1=>exact (HQ.out.below (below_step HB.out (by repeat (first|(with_reducible first|exact Below.refl _ _|apply below_alloc|apply pw_below_drewN|apply below_drew1)|exact Below.refl _ _)))).r6);rintro e w' ⟨rfl,⟨nd,rfl⟩⟩
 clear hp0 hp1 hp2 hp3 hp4 hp5 hp6 hp7 hp8 hp9 hp10 hp11 hp12 hq0 hq1 hq2 hq3 hq4 hq5 hq6 hq7 hq8 hq9 hq10 hq11 hq12
 obtain ⟨hp0,hp1,hp2,hp3,hp4,hp5,hp6,hp7,hp8,hp9,hp10,hp11,hp12⟩ :=IW.at_ BP.out
 obtain ⟨hq0,hq1,hq2,hq3,hq4,hq5,hq6,hq7,hq8,hq9,hq10,hq11,hq12⟩ :=IW.at_ BQ.out
 go_wp2_with fail
 go_at_call 73;(with_reducible refine (laws_eqBucket.calls x.d7 x.d8 x.d9 x.d10 x.d7 x.d8 x.d9 x.d10 true _ (eqBucket_eq _ _ _ _) ⟨rfl⟩).mono ?_);rintro e w7 ⟨rfl,hb⟩
 have hs:=below_step (w:=w4) (by repeat (first|(with_reducible first|exact Below.refl _ _|apply below_alloc|apply pw_below_drewN|apply below_drew1)|exact Below.refl _ _)) hb
 have HB2:=Aside0.mk (below_step HB.out hs)
 have BP2:=Aside0.mk (blk_below BP.out hs)
 have BQ2:=Aside0.mk (blk_below BQ.out hs)
 clear HB BP BQ hb hs hp0 hp1 hp2 hp3 hp4 hp5 hp6 hp7 hp8 hp9 hp10 hp11 hp12 hq0 hq1 hq2 hq3 hq4 hq5 hq6 hq7 hq8 hq9 hq10 hq11 hq12
 have HB:=HB2
 have BP:=BP2
 have BQ:=BQ2
 clear HB2 BP2 BQ2
 obtain ⟨hp0,hp1,hp2,hp3,hp4,hp5,hp6,hp7,hp8,hp9,hp10,hp11,hp12⟩ :=IW.at_ BP.out
 obtain ⟨hq0,hq1,hq2,hq3,hq4,hq5,hq6,hq7,hq8,hq9,hq10,hq11,hq12⟩ :=IW.at_ BQ.out
 go_wp2_with fail
 go_at_call 74;(with_reducible refine (laws_eqSeenS.calls k11 p.A11 p.c11 x.l11 q.A11 q.c11 x.l11 true _ ?s0 HP.out.h11 ?s1 HQ.out.h11 K11.out ⟨rfl⟩).mono ?_);(case s0=>exact (HP.out.below (below_step HB.out (by repeat (first|(with_reducible first|exact Below.refl _ _|apply below_alloc|apply pw_below_drewN|apply below_drew1)|exact Below.refl _ _)))).r11);(case s1=>exact (HQ.out.below (below_step HB.out (by repeat (first|(with_reducible first|exact Below.refl _ _|apply below_alloc|apply pw_below_drewN|apply below_drew1)|exact Below.refl _ _)))).r11);rintro e w8 ⟨rfl,hb⟩
 have hs:=below_step (w:=w7) (by repeat (first|(with_reducible first|exact Below.refl _ _|apply below_alloc|apply pw_below_drewN|apply below_drew1)|exact Below.refl _ _)) hb
 have HB2:=Aside0.mk (below_step HB.out hs)
 have BP2:=Aside0.mk (blk_below BP.out hs)
 have BQ2:=Aside0.mk (blk_below BQ.out hs)
 clear HB BP BQ hb hs hp0 hp1 hp2 hp3 hp4 hp5 hp6 hp7 hp8 hp9 hp10 hp11 hp12 hq0 hq1 hq2 hq3 hq4 hq5 hq6 hq7 hq8 hq9 hq10 hq11 hq12
 have HB:=HB2
 have BP:=BP2
 have BQ:=BQ2
 clear HB2 BP2 BQ2
 obtain ⟨hp0,hp1,hp2,hp3,hp4,hp5,hp6,hp7,hp8,hp9,hp10,hp11,hp12⟩ :=IW.at_ BP.out
 obtain ⟨hq0,hq1,hq2,hq3,hq4,hq5,hq6,hq7,hq8,hq9,hq10,hq11,hq12⟩ :=IW.at_ BQ.out
 go_wp2
 go_ret
 exact ⟨rfl,below_step HB.out (by repeat (first|(with_reducible first|exact Below.refl _ _|apply below_alloc|apply pw_below_drewN|apply below_drew1)|exact Below.refl _ _))⟩
theorem S_apart_ {α β:Type} {d:Kd α} {d':Kd β} {e e':Nat} {w:World} {b b':Nat} {ok ok':Nat→Prop} {v v':Value} {xs:List α} {ys:List β} (h:Kd.R d e w b ok v xs) (h':Kd.S d' e' w b' ok' v' ys) (ht:∀ q,q∈e' :: d'.E→q≠e):Kd.S d' e' w b' (fun k=>ok' k∧some k≠v.ownBlock) v' ys:=by
 cases hv:v.ownBlock with
 | none=>exact Kd.S_mono h' (fun k hk=>⟨hk,by simp⟩)
 | some g =>
  obtain ⟨cells,hb⟩ :=Kd.R_typed h g hv
  exact Kd.S_mono (Kd.S_types h' hb ht) (fun k hk=>⟨hk.1,fun he=>hk.2 (by injection he)⟩)
theorem R_apart_ {α β:Type} {d:Kd α} {d':Kd β} {e e':Nat} {w:World} {b b':Nat} {ok ok':Nat→Prop} {v v':Value} {xs:List α} {ys:List β} (h:Kd.R d e w b ok v xs) (h':Kd.R d' e' w b' ok' v' ys) (hn:e≠e'):∀ k,some k=v.ownBlock→some k=v'.ownBlock→False:=by
 intro k h1 h2
 obtain ⟨c1,hb1⟩ :=Kd.R_typed h k h1.symm
 obtain ⟨c2,hb2⟩ :=Kd.R_typed h' k h2.symm
 rw [hb1] at hb2
 simp only [Option.some.injEq,Obj.cells.injEq] at hb2
 exact hn hb2.2.1
def mkL:Int→Nat→List S133
 | _,0=>[]
 | k,n + 1=>⟨k,k + 1⟩ :: mkL (k + 2) n
theorem mkL_length:∀ (n:Nat) (k:Int),(mkL k n).length=n
 | 0,_=>rfl
 | n + 1,k=>by simp [mkL,mkL_length n]
theorem markLinkS_l0:∀ (suf pre:List S133) (m:Int),(pre ++ suf).length≤1048576→0≤m→m + 2 * suf.length≤4611686018427387904 →
  Ev (fun k=>laws_markLinkS.l0 k (pre ++ suf) m (pre.length:Int)) (m + 2 * suf.length,pre ++ mkL m suf.length) :=by
 intro suf
 induction suf with
 | nil =>
  intro pre m hb h0 hm
  refine Ev.step (fun k=>by rw [laws_markLinkS.l0]) ?_
  refine evNeg (by simp) (evEq ?_ (Ev.now _))
  simp [mkL]
 | cons x suf ih =>
  intro pre m hb h0 hm
  simp only [List.length_append,List.length_cons] at hb hm
  refine Ev.step (fun k=>by rw [laws_markLinkS.l0]) ?_
  refine evPos (by simp only [List.length_append,List.length_cons];omega) (evPos (by omega) ?_)
  simp only [Option.bind_some,rd_T133,set_mid,getD_mid]
  rw [wsucc (by omega),w64 (n:=m + 1) (by omega) (by omega),w64 (n:=m + 1 + 1) (by omega) (by omega)]
  have h:=ih (pre ++ [⟨m,m + 1⟩]) (m + 2) (by simp;omega) (by omega) (by omega)
  refine evEq ?_ (Ev.congr (fun k=>?_) h)
  ·simp [mkL]
   omega
  ·simp [Int.add_assoc]
theorem markNet_ev (n:Int) (l:List S133) (m:Int) (hl:l.length≤1048576) (h0:0≤m) (hm:m≤1099511627776):Ev (fun k=>laws_markNet.f k n l m) (m + 2 * l.length,mkL m l.length) :=by
 have h:=markLinkS_l0 l [] m (by simpa using hl) h0 (by omega)
 unfold laws_markNet.f
 have h2:Ev (fun k=>laws_markLinkS.f k l m) (m + 2 * l.length,mkL m l.length) :=by simpa [laws_markLinkS.f] using h
 exact Ev.bind h2 (Ev.now _)
def mkS:Int→Nat→List S62
 | _,0=>[]
 | k,n + 1=>⟨k,k + 1,k + 2,k + 3,Int.tmod (k + 4) 3 == 0⟩ :: mkS (k + 5) n
theorem mkS_length:∀ (n:Nat) (k:Int),(mkS k n).length=n
 | 0,_=>rfl
 | n + 1,k=>by simp [mkS,mkS_length n]
theorem markSeenS_l0:∀ (suf pre:List S62) (m:Int),(pre ++ suf).length≤1048576→0≤m→m + 5 * suf.length≤4611686018427387904 →
  Ev (fun k=>laws_markSeenS.l0 k (pre ++ suf) m (pre.length:Int)) (m + 5 * suf.length,pre ++ mkS m suf.length) :=by
 intro suf
 induction suf with
 | nil =>
  intro pre m hb h0 hm
  refine Ev.step (fun k=>by rw [laws_markSeenS.l0]) ?_
  refine evNeg (by simp) (evEq ?_ (Ev.now _))
  simp [mkS]
 | cons x suf ih =>
  intro pre m hb h0 hm
  simp only [List.length_append,List.length_cons] at hb hm
  refine Ev.step (fun k=>by rw [laws_markSeenS.l0]) ?_
  refine evPos (by simp only [List.length_append,List.length_cons];omega) (evPos (by omega) ?_)
  simp only [Option.bind_some,rd_T62,set_mid,getD_mid]
  rw [wsucc (by omega),w64 (n:=m + 1) (by omega) (by omega),w64 (n:=m + 1 + 1) (by omega) (by omega),w64 (n:=m + 1 + 1 + 1) (by omega) (by omega),w64 (n:=m + 1 + 1 + 1 + 1) (by omega) (by omega),w64 (n:=m + 1 + 1 + 1 + 1 + 1) (by omega) (by omega)]
  have h:=ih (pre ++ [⟨m,m + 1,m + 2,m + 3,Int.tmod (m + 4) 3 == 0⟩]) (m + 5) (by simp;omega) (by omega) (by omega)
  refine evEq ?_ (Ev.congr (fun k=>?_) h)
  ·simp [mkS]
   omega
  ·simp [Int.add_assoc]
theorem markSeenS_ev (l:List S62) (m:Int) (hl:l.length≤1048576) (h0:0≤m) (hm:m≤1099511627776):Ev (fun k=>laws_markSeenS.f k l m) (m + 5 * l.length,mkS m l.length) :=by
 have h:=markSeenS_l0 l [] m (by simpa using hl) h0 (by omega)
 simpa [laws_markSeenS.f] using h
theorem heldSeenS_l0:∀ (n:Nat) (pre:List S62) (m:Int),pre.length + n≤1048576→0≤m→m + 5 * n≤4611686018427387904 →
  Ev (fun k=>laws_heldSeenS.l0 k (pre ++ mkS m n) m (pre.length:Int)) (m + 5 * n) :=by
 intro n
 induction n with
 | zero =>
  intro pre m hb h0 hm
  refine Ev.step (fun k=>by rw [laws_heldSeenS.l0]) ?_
  refine evNeg (by simp [mkS]) (evEq ?_ (Ev.now _))
  simp
 | succ n ih =>
  intro pre m hb h0 hm
  refine Ev.step (fun k=>by rw [laws_heldSeenS.l0]) ?_
  refine evPos (by simp only [List.length_append,mkS_length];omega) (evPos (by omega) ?_)
  rw [mkS]
  simp only [rd_T62,getD_mid]
  rw [wsucc (by omega),w64 (n:=m + 1) (by omega) (by omega),w64 (n:=m + 1 + 1) (by omega) (by omega),w64 (n:=m + 1 + 1 + 1) (by omega) (by omega),w64 (n:=m + 1 + 1 + 1 + 1) (by omega) (by omega),w64 (n:=m + 1 + 1 + 1 + 1 + 1) (by omega) (by omega)]
  refine evPos (by first|trivial|omega) (evPos (by first|trivial|omega) (evPos (by first|trivial|omega) (evPos (by first|trivial|omega) (evNeg ?_ ?_))))
  ·simp [Int.add_assoc]
  have h:=ih (pre ++ [⟨m,m + 1,m + 2,m + 3,Int.tmod (m + 4) 3 == 0⟩]) (m + 5) (by simp;omega) (by omega) (by omega)
  refine evEq ?_ (Ev.congr (fun k=>?_) h)
  ·omega
  ·simp [Int.add_assoc]
theorem heldSeenS_ev (n:Nat) (m:Int) (hl:n≤1048576) (h0:0≤m) (hm:m≤1099511627776):Ev (fun k=>laws_heldSeenS.f k (mkS m n) m) (m + 5 * n) :=by
 have h:=heldSeenS_l0 n [] m (by simpa using hl) h0 (by omega)
 simpa [laws_heldSeenS.f] using h
def mkI:Int→Nat→List Int
 | _,0=>[]
 | k,n + 1=>k :: mkI (k + 1) n
theorem mkI_length:∀ (n:Nat) (k:Int),(mkI k n).length=n
 | 0,_=>rfl
 | n + 1,k=>by simp [mkI,mkI_length n]
theorem markIntS_l0:∀ (suf pre:List Int) (m:Int),(pre ++ suf).length≤1048576→0≤m→m + suf.length≤4611686018427387904 →
  Ev (fun k=>laws_markIntS.l0 k (pre ++ suf) m (pre.length:Int)) (m + suf.length,pre ++ mkI m suf.length) :=by
 intro suf
 induction suf with
 | nil =>
  intro pre m hb h0 hm
  refine Ev.step (fun k=>by rw [laws_markIntS.l0]) ?_
  refine evNeg (by simp) (evEq ?_ (Ev.now _))
  simp [mkI]
 | cons x suf ih =>
  intro pre m hb h0 hm
  simp only [List.length_append,List.length_cons] at hb hm
  refine Ev.step (fun k=>by rw [laws_markIntS.l0]) ?_
  refine evPos (by simp only [List.length_append,List.length_cons];omega) (evPos (by omega) ?_)
  rw [set_mid,wsucc (by omega),w64 (by omega) (by omega)]
  have h:=ih (pre ++ [m]) (m + 1) (by simp;omega) (by omega) (by omega)
  refine evEq ?_ (Ev.congr (fun k=>?_) h)
  ·simp [mkI]
   omega
  ·simp
theorem markIntS_ev (l:List Int) (m:Int) (hl:l.length≤1048576) (h0:0≤m) (hm:m≤1099511627776):Ev (fun k=>laws_markIntS.f k l m) (m + l.length,mkI m l.length) :=by
 have h:=markIntS_l0 l [] m (by simpa using hl) h0 (by omega)
 simpa [laws_markIntS.f] using h
theorem heldIntS_l0:∀ (n:Nat) (pre:List Int) (m:Int),pre.length + n≤1048576→0≤m→m + n≤4611686018427387904 →
  Ev (fun k=>laws_heldIntS.l0 k (pre ++ mkI m n) m (pre.length:Int)) (m + n) :=by
 intro n
 induction n with
 | zero =>
  intro pre m hb h0 hm
  refine Ev.step (fun k=>by rw [laws_heldIntS.l0]) ?_
  refine evNeg (by simp [mkI]) (evEq ?_ (Ev.now _))
  simp
 | succ n ih =>
  intro pre m hb h0 hm
  refine Ev.step (fun k=>by rw [laws_heldIntS.l0]) ?_
  refine evPos (by simp only [List.length_append,mkI_length];omega) (evPos (by omega) ?_)
  rw [mkI,rd_mid,wsucc (by omega),w64 (by omega) (by omega)]
  refine evPos rfl ?_
  have h:=ih (pre ++ [m]) (m + 1) (by simp;omega) (by omega) (by omega)
  refine evEq ?_ (Ev.congr (fun k=>?_) h)
  ·omega
  ·simp
theorem heldIntS_ev (n:Nat) (m:Int) (hl:n≤1048576) (h0:0≤m) (hm:m≤1099511627776):Ev (fun k=>laws_heldIntS.f k (mkI m n) m) (m + n) :=by
 have h:=heldIntS_l0 n [] m (by simpa using hl) h0 (by omega)
 simpa [laws_heldIntS.f] using h
theorem heldLinkS_l0:∀ (n:Nat) (pre:List S133) (m:Int),pre.length + n≤1048576→0≤m→m + 2 * n≤4611686018427387904 →
  Ev (fun k=>laws_heldLinkS.l0 k (pre ++ mkL m n) m (pre.length:Int)) (m + 2 * n)
 | 0,pre,m,h,h0,h1=>Ev.step (fun k=>by rw [laws_heldLinkS.l0]) (evNeg (by simp [mkL]) (evEq (by simp) (Ev.now _)))
 | n + 1,pre,m,h,h0,h1=>by
  have ih:=heldLinkS_l0 n (pre ++ [⟨m,m + 1⟩]) (m + 2) (by simp;omega) (by omega) (by omega)
  have hr:rd_T133 (pre ++ mkL m (n + 1)) (pre.length:Int)=⟨m,m + 1⟩ :=by
   rw [rd_T133,List.getD_eq_getElem?_getD]
   simp [mkL]
  have hl:(pre ++ mkL m (n + 1)).length=pre.length + (n + 1) :=by rw [List.length_append,mkL_length]
  refine Ev.step (fun k=>by rw [laws_heldLinkS.l0,hr]) (evPos (by rw [hl];omega) (evPos (by omega) (evPos rfl (evPos (by rw [w64 (by omega) (by omega)]) ?_))))
  rw [w64 (n:=m + 1) (by omega) (by omega),w64 (n:=m + 1 + 1) (by omega) (by omega),wsucc (by omega)]
  refine evEq (by omega) (Ev.congr (fun k=>?_) ih)
  rw [show m + 1 + 1=m + 2 by omega]
  simp [mkL]
theorem heldNet_ev (n:Nat) (m e:Int) (hn:n≤1048576) (h0:0≤m) (h1:m≤1125899906842624):Ev (fun k=>laws_heldNet.f k e (mkL m n) m) (m + 2 * n) :=by
 unfold laws_heldNet.f laws_heldLinkS.f
 have h:=heldLinkS_l0 n [] m (by simpa using hn) h0 (by omega)
 exact Ev.bind (by simpa using h) (evNeg (by omega) (Ev.now _))
theorem heldIntS_ev2 (n:Nat) (m:Int) (hl:n≤1048576) (h0:0≤m) (hm:m≤1125899906842624):Ev (fun k=>laws_heldIntS.f k (mkI m n) m) (m + n) :=by
 have h:=heldIntS_l0 n [] m (by simpa using hl) h0 (by omega)
 simpa [laws_heldIntS.f] using h
theorem heldSeenS_ev2 (n:Nat) (m:Int) (hl:n≤1048576) (h0:0≤m) (hm:m≤1125899906842624):Ev (fun k=>laws_heldSeenS.f k (mkS m n) m) (m + 5 * n) :=by
 have h:=heldSeenS_l0 n [] m (by simpa using hl) h0 (by omega)
 simpa [laws_heldSeenS.f] using h
def totP:List S103→Nat
 | [] =>0
 | p :: ps=>(2 + p.f2.length) + totP ps
def mkPP:Int→List S103→List S103
 | _,[] =>[]
 | a,p :: ps=>⟨a,a + 1,mkI (a + 2) p.f2.length⟩ :: mkPP (a + ((2 + p.f2.length:Nat):Int)) ps
theorem mkPP_length:∀ (l:List S103) (a:Int),(mkPP a l).length=l.length
 | [],_=>rfl
 | p :: ps,a=>by simp [mkPP,mkPP_length ps]
theorem totP_append:∀ (l m:List S103),totP (l ++ m)=totP l + totP m
 | [],m=>by simp [totP]
 | p :: ps,m=>by simp only [List.cons_append,totP,totP_append ps m];omega
theorem mkPP_snoc:∀ (l:List S103) (x:S103) (a:Int),mkPP a (l ++ [x])=mkPP a l ++ [⟨a + totP l,a + totP l + 1,mkI (a + totP l + 2) x.f2.length⟩]
 | [],x,a=>by simp [mkPP,totP]
 | p :: ps,x,a=>by
  simp only [List.cons_append,mkPP,totP,mkPP_snoc ps x]
  rw [show a + ((2 + p.f2.length:Nat):Int) + (totP ps:Int)=a + ((2 + p.f2.length + totP ps:Nat):Int) by omega]
theorem totP_le:∀ (l:List S103),(∀ p∈l,p.f2.length≤1048576) →totP l≤1048578 * l.length
 | [],_=>by simp [totP]
 | p :: ps,h=>by
  have:=totP_le ps (fun q hq=>h q (by simp [hq]))
  have:=h p (by simp)
  simp only [totP,List.length_cons]
  omega
theorem heldProbeS_l0:∀ (suf pre:List S103) (m:Int),(pre ++ suf).length≤1048576→(∀ p∈suf,p.f2.length≤1048576) →0≤m→m + totP suf≤1125899906842624 →
  Ev (fun k=>laws_heldProbeS.l0 k (pre ++ mkPP m suf) m (pre.length:Int)) (m + totP suf)
 | [],pre,m,h,hp,h0,h1=>Ev.step (fun k=>by rw [laws_heldProbeS.l0]) (evNeg (by simp [mkPP]) (evEq (by simp [totP]) (Ev.now _)))
 | x :: suf,pre,m,h,hp,h0,h1=>by
  simp only [totP] at h1
  simp only [List.length_append,List.length_cons] at h
  have ih:=heldProbeS_l0 suf (pre ++ [⟨m,m + 1,mkI (m + 2) x.f2.length⟩]) (m + ((2 + x.f2.length:Nat):Int)) (by simp;omega) (fun p hq=>hp p (by simp [hq])) (by omega) (by omega)
  have hr:rd_T103 (pre ++ mkPP m (x :: suf)) (pre.length:Int)=⟨m,m + 1,mkI (m + 2) x.f2.length⟩ :=by
   rw [rd_T103,List.getD_eq_getElem?_getD]
   simp [mkPP]
  have hl:(pre ++ mkPP m (x :: suf)).length=pre.length + (suf.length + 1) :=by rw [List.length_append,mkPP_length];simp
  have e1:wrap64 (m + 1)=m + 1:=w64 (by omega) (by omega)
  have e2:wrap64 (wrap64 (m + 1) + 1)=m + 2:=by rw [e1,w64 (by omega) (by omega)];omega
  refine Ev.step (fun k=>by rw [laws_heldProbeS.l0,hr,e2]) (evPos (by rw [hl];omega) (evPos (by omega) (evPos rfl (evPos e1.symm ?_))))
  refine Ev.bind (heldIntS_ev2 x.f2.length (m + 2) (hp x (by simp)) (by omega) (by omega)) (evNeg (by omega) ?_)
  rw [wsucc (by omega)]
  refine evEq (by simp only [totP];omega) (Ev.congr (fun k=>?_) ih)
  rw [show m + 2 + (x.f2.length:Int)=m + ((2 + x.f2.length:Nat):Int) by omega]
  simp [mkPP]
theorem heldProbeS_ev (l:List S103) (m:Int) (hl:l.length≤1048576) (hp:∀ p∈l,p.f2.length≤1048576) (h0:0≤m) (h1:m + totP l≤1125899906842624):Ev (fun k=>laws_heldProbeS.f k (mkPP m l) m) (m + totP l) :=by
 have h:=heldProbeS_l0 l [] m (by simpa using hl) hp h0 h1
 simpa [laws_heldProbeS.f] using h
theorem markIntS_ev2 (l:List Int) (m:Int) (hl:l.length≤1048576) (h0:0≤m) (hm:m≤1125899906842624):Ev (fun k=>laws_markIntS.f k l m) (m + l.length,mkI m l.length) :=by
 have h:=markIntS_l0 l [] m (by simpa using hl) h0 (by omega)
 simpa [laws_markIntS.f] using h
theorem seg1_ {W:World} {base g n c:Nat} {ok oki:Nat→Prop} {l:List S103} {i:Nat} {u0 u1 v2:Value} (h:Kd.H k103 103 W base ok (.slice (some ⟨g,0,none⟩) n c) l (i:Int) oki [u0,u1,v2]) (hi:(i:Int) < n) (a:Int) :
  Kd.H k103 103 (W.setCell ⟨g,i * 3 + 1,none⟩ (.int .i64 a)) base ok (.slice (some ⟨g,0,none⟩) n c) l (i:Int) oki [u0,.int .i64 a,v2] :=by
 have h2:=(Kd.H_seg h (by omega) hi (seg:=[.int .i64 a]) (j:=1) (by show 1 + 1≤3;decide) (by simp [Value.oneCell'])).1
 have eo:((i:Int)).toNat * (k103).sz + 1=i * 3 + 1:=by simp [show (k103).sz=3 from rfl]
 rw [eo] at h2
 exact h2
theorem cell1_ {W:World} {base g n c:Nat} {ok oki:Nat→Prop} {l:List S103} {i:Nat} {u0 u1 v2:Value} (h:Kd.H k103 103 W base ok (.slice (some ⟨g,0,none⟩) n c) l (i:Int) oki [u0,u1,v2]) (hi:(i:Int) < n):W.cell? ⟨g,i * 3 + 1,none⟩=some u1:=by
 obtain ⟨_,_,_,_,_,hcc,_⟩ :=Kd.H_raw h (by omega) hi
 have h_:=hcc 1 _ rfl
 simpa [show (k103).sz=3 from rfl] using h_
theorem cell2_ {W:World} {base g n c:Nat} {ok oki:Nat→Prop} {l:List S103} {i:Nat} {u0 u1 v2:Value} (h:Kd.H k103 103 W base ok (.slice (some ⟨g,0,none⟩) n c) l (i:Int) oki [u0,u1,v2]) (hi:(i:Int) < n):W.cell? ⟨g,i * 3 + 2,none⟩=some v2:=by
 obtain ⟨_,_,_,_,_,hcc,_⟩ :=Kd.H_raw h (by omega) hi
 have h_:=hcc 2 _ rfl
 simpa [show (k103).sz=3 from rfl] using h_
set_option maxHeartbeats 4000000 in
set_option maxRecDepth 100000 in
theorem markProbeS_s (P0:Nat→Prop) (u:Value) (l0:List S103) (a1:Int) (w0 w:World) (hB:Below w0.heap.size w0 w) (ho0:Kd.S k103 103 w w0.heap.size P0 u l0) (hl:l0.length≤1048576) (hp:∀ p∈l0,p.f2.length≤1048576) (h0:0≤a1) (h1:a1≤1099511627776) :
  Calls Try.prog 75 #[u,.int .i64 a1] w fun e w'=>e=.returned (.int .i64 (a1 + totP l0)) ∧Kd.S k103 103 w' w0.heap.size P0 u (mkPP a1 l0) ∧Below w0.heap.size w0 w'∧Kept w w' P0:=by
 have hu:=Try.underlying103
 obtain ⟨A,c,rfl⟩ :=Kd.S_slice ho0
 have HB0:=Aside0.mk hB
 have HO0:=Aside0.mk ho0
 have HL:=Aside0.mk hl
 have HP:=Aside0.mk hp
 clear hB ho0 hl hp
 have h0':=Aside0.mk h0
 have h1':=Aside0.mk h1
 clear h0 h1
 go_enter Try.func75,Try.ntmps75
 go_wp2
 go_loopg [1,5] l0.length (fun gg v1 v5 wr=>∃ (pre0 pre suf:List S103) (m:Int),gg=suf.length∧Aside0 (l0=pre0 ++ suf) ∧Aside0 (pre.length=pre0.length) ∧v1=.int .i64 m∧Aside0 (0≤m) ∧Aside0 (m≤a1 + 1048578 * pre.length) ∧v5=.int .i64 (pre.length:Int) ∧Aside0 (Kd.S k103 103 wr w0.heap.size P0 (.slice A l0.length c) (pre ++ suf)) ∧Aside0 (Below w0.heap.size w0 wr) ∧Aside0 (Kept w wr P0) ∧Aside0 (pre=mkPP a1 pre0) ∧Aside0 (m=a1 + totP pre0))
 case atStart=>exact ⟨[],[],l0,a1,rfl,⟨rfl⟩,⟨rfl⟩,rfl,h0',⟨by simp⟩,rfl,⟨(by (with_reducible repeat (first|apply Kd.S_alloc|apply Kd.S_drewN|apply Kd.S_drew));exact HO0.out)⟩,⟨by repeat (first|(with_reducible first|exact HB0.out|apply below_alloc|apply pw_below_drewN|apply below_drew1)|exact HB0.out)⟩,⟨by repeat (first|(with_reducible first|exact Kept.refl _ _|apply Kept.alloc|apply Kept.drewN|apply Kept.drew)|exact Kept.refl _ _)⟩,⟨by simp [mkPP]⟩,⟨by simp [totP]⟩⟩
 case round =>
  clear HO0 HB0
  obtain ⟨pre0,pre,suf,m,hgg,HE,HPL,rfl,HM0,HM1,rfl,HO,HB,HK,HPR,HMR⟩ :=hrel
  cases suf with
  | nil =>
   have hlt:¬ (pre.length:Int) < (l0.length:Int) :=by rw [HE.out];simp [HPL.out]
   have hb2:=HM1.out
   have hlen:l0.length=pre.length:=by rw [HE.out];simp [HPL.out]
   rw [← hlen] at hb2
   have HM2:=Aside0.mk hb2
   clear hb2 hlen
   go_wp2
   go_ret
   have hl0:l0=pre0:=by have:=HE.out;simpa using this
   have ho:=HO.out
   rw [List.append_nil,HPR.out,← hl0] at ho
   exact ⟨by rw [HMR.out,← hl0];rfl,ho,HB.out,HK.out⟩
  | cons x suf =>
   have hlen:l0.length=pre.length + (suf.length + 1) :=by rw [HE.out];simp [HPL.out]
   have hx:x.f2.length≤1048576:=HP.out x (by rw [HE.out];simp)
   have hlt:(pre.length:Int) < (l0.length:Int) :=by omega
   obtain ⟨g,cap,e1,gb,gl,cl⟩ :=Kd.S_form HO.out (by simp [hlen];omega)
   injection e1 with e1 e2 e3
   subst e1
   subst e3
   obtain ⟨cells,hblk⟩ :=Kd.S_typed HO.out g (by simp [Value.ownBlock])
   have HO1:=HO.out
   obtain ⟨oki,cs,hcl,hM,hcc,hoki,hH⟩ :=Kd.S_lend HO1 z103 (pre.length:Int) (by omega) (by omega)
   have hxe:(pre ++ x :: suf).getD ((pre.length:Int)).toNat z103=x:=getD_mid _ _ _ _
   rw [hxe] at hM
   obtain ⟨v2,rfl,hR⟩ :=k103_openM hM
   have hg0:wr.cell? ⟨g,pre.length * 3,none⟩=some (.int .i64 x.f0) :=by have:=hcc 0 _ rfl;simpa [show (k103).sz=3 from rfl] using this
   have hf0:wr.frozen? ⟨g,pre.length * 3,none⟩=false:=blk_frozen hblk _
   have hP8:=Kd.H_seg hH (by omega) (by omega) (seg:=[.int .i64 m]) (j:=0) (by show 0 + 1≤3;decide) (by simp [Value.oneCell'])
   have eo:((pre.length:Int)).toNat * (k103).sz + 0=pre.length * 3:=by simp [show (k103).sz=3 from rfl]
   rw [eo] at hP8
   have HP8:=Aside0.mk (show Kd.H k103 103 (wr.setCell ⟨g,pre.length * 3,none⟩ (.int .i64 m)) w0.heap.size P0 (.slice (some ⟨g,0,none⟩) l0.length c) (pre ++ x :: suf) (pre.length:Int) oki [.int .i64 m,.int .i64 x.f1,v2] ∧wr.grownBy (wr.setCell ⟨g,pre.length * 3,none⟩ (.int .i64 m)) (some g) from hP8)
   clear hP8 eo
   have HBK:=Aside0.mk hblk
   have HOK:=Aside0.mk hoki
   have HR:=Aside0.mk hR
   have HLEN:=Aside0.mk hlen
   have HX:=Aside0.mk hx
   have HLT:=Aside0.mk hlt
   have HGB:=Aside0.mk gb
   have HPG:=Aside0.mk ((Kd.S_R HO.out).1 g rfl)
   have hm0:=HM0.out
   have hm1:=HM1.out
   have ha1:=h1'.out
   have hll:=HL.out
   have f1:wrap64 (m + 1)=m + 1:=w64 (by omega) (by omega)
   have f2:wrap64 (wrap64 (m + 1) + 1)=m + 2:=by rw [f1,w64 (by omega) (by omega)];omega
   obtain ⟨k1,hk1⟩ :=(markIntS_ev2 x.f2 (m + 2) hx (by omega) (by omega)).rounds
   rw [← f2] at hk1
   have HK1:=Aside0.mk hk1
   have E1:=Aside0.mk f1
   have E2:=Aside0.mk f2
   clear hblk hoki hR hlen hx hH hcc hM hxe HO1 gl cl hcl e2 gb hk1 hm0 hm1 ha1 hll f1 f2
   have hH9:Kd.H k103 103 (wr.setCell ⟨g,pre.length * 3,none⟩ (.int .i64 m)) w0.heap.size P0 (.slice (some ⟨g,0,none⟩) l0.length c) (pre ++ x :: suf) (pre.length:Int) oki [.int .i64 m,.int .i64 x.f1,v2] :=HP8.out.1
   have hg1:(wr.setCell ⟨g,pre.length * 3,none⟩ (.int .i64 m)).cell? ⟨g,pre.length * 3 + 1,none⟩=some (.int .i64 x.f1) :=cell1_ hH9 (by have:=HLT.out;omega)
   have hf1:(wr.setCell ⟨g,pre.length * 3,none⟩ (.int .i64 m)).frozen? ⟨g,pre.length * 3 + 1,none⟩=false:=blk_frozen (blk_set HBK.out _ _) _
   have hH10:Kd.H k103 103 ((wr.setCell ⟨g,pre.length * 3,none⟩ (.int .i64 m)).setCell ⟨g,pre.length * 3 + 1,none⟩ (.int .i64 (wrap64 (m + 1)))) w0.heap.size P0 (.slice (some ⟨g,0,none⟩) l0.length c) (pre ++ x :: suf) (pre.length:Int) oki [.int .i64 m,.int .i64 (wrap64 (m + 1)),v2] :=seg1_ hH9 (by have:=HLT.out;omega) _
   have hg2:((wr.setCell ⟨g,pre.length * 3,none⟩ (.int .i64 m)).setCell ⟨g,pre.length * 3 + 1,none⟩ (.int .i64 (wrap64 (m + 1)))).cell? ⟨g,pre.length * 3 + 2,none⟩=some v2:=cell2_ hH10 (by have:=HLT.out;omega)
   have HH10:=Aside0.mk hH10
   have HB10:=Aside0.mk (show Below w0.heap.size w0 ((wr.setCell ⟨g,pre.length * 3,none⟩ (.int .i64 m)).setCell ⟨g,pre.length * 3 + 1,none⟩ (.int .i64 (wrap64 (m + 1)))) from below_set (below_set HB.out HGB.out) HGB.out)
   have HR10:=Aside0.mk (show Kd.R (Kd.int .i64) 3 ((wr.setCell ⟨g,pre.length * 3,none⟩ (.int .i64 m)).setCell ⟨g,pre.length * 3 + 1,none⟩ (.int .i64 (wrap64 (m + 1)))) w0.heap.size oki v2 x.f2 from Kd.R_far (p:=⟨g,_,none⟩) (Kd.R_far (p:=⟨g,_,none⟩) HR.out (fun k hk=>(HOK.out k hk).2) _) (fun k hk=>(HOK.out k hk).2) _)
   have HK10:=Aside0.mk (show Kept w ((wr.setCell ⟨g,pre.length * 3,none⟩ (.int .i64 m)).setCell ⟨g,pre.length * 3 + 1,none⟩ (.int .i64 (wrap64 (m + 1)))) P0 from Kept.setCell (Kept.setCell HK.out (p:=⟨g,_,none⟩) (.inl HPG.out) _) (p:=⟨g,_,none⟩) (.inl HPG.out) _)
   clear hH9 hH10
   go_wp2_with (go_at_call 24;(with_reducible refine (laws_markIntS.calls k1 oki v2 x.f2 _ _ _ w0 _ ?s1 ?s2 HK1.out).mono ?_);(case s1=>exact HB10.out);(case s2=>exact HR10.out);rintro e w' ⟨rfl,hR',hB',hK'⟩)
   go_roundg suf.length
   case measure=>rw [hgg];simp
   case rel =>
    have hx2:=HX.out
    have e2_:=E2.out
    refine ⟨pre0 ++ [x],pre ++ [⟨m,wrap64 (m + 1),mkI (wrap64 (wrap64 (m + 1) + 1)) x.f2.length⟩],suf,_,rfl,⟨by rw [HE.out];simp⟩,⟨by simp [HPL.out]⟩,rfl,⟨by have:=HM0.out;omega⟩,⟨by have:=HM1.out;rw [List.length_append];simp only [List.length_cons,List.length_nil];omega⟩,?_,⟨?_⟩,⟨hB'⟩,⟨Kept.then_ HK10.out hK' (fun k hk=>.inl (HOK.out k hk).1)⟩,⟨by rw [mkPP_snoc,← HPR.out,← HMR.out,E2.out,E1.out]⟩,⟨by rw [E2.out,HMR.out,totP_append];simp only [totP];omega⟩⟩
    ·rw [List.length_append,wsucc (by have:=HLEN.out;have:=HL.out;omega)];rfl
    ·have h2:=Kd.H_back (Kd.H_kept HH10.out hK' (fun k _ hn=>hn)) (x':=⟨m,wrap64 (m + 1),mkI (wrap64 (wrap64 (m + 1) + 1)) x.f2.length⟩) (k103_mkM _ _ _ _ (Kd.R_tight rfl hR')) (fun k hk=>HR10.out.1 k hk.symm)
     rw [set_mid] at h2
     rw [List.append_assoc]
     exact h2
theorem markSeenS_ev2 (l:List S62) (m:Int) (hl:l.length≤1048576) (h0:0≤m) (hm:m≤1125899906842624):Ev (fun k=>laws_markSeenS.f k l m) (m + 5 * l.length,mkS m l.length) :=by
 have h:=markSeenS_l0 l [] m (by simpa using hl) h0 (by omega)
 simpa [laws_markSeenS.f] using h
def mkW (a1:Int) (x:IW):IW:={x with l1:=mkL (a1) x.l1.length,l2:=mkI (a1 + 2 * (x.l1.length:Int)) x.l2.length,l3:=mkI (a1 + 2 * (x.l1.length:Int) + (x.l2.length:Int)) x.l3.length,l4:=mkPP (a1 + 2 * (x.l1.length:Int) + (x.l2.length:Int) + (x.l3.length:Int)) x.l4,l5:=mkI (a1 + 2 * (x.l1.length:Int) + (x.l2.length:Int) + (x.l3.length:Int) + (totP x.l4:Int)) x.l5.length,l6:=mkI (a1 + 2 * (x.l1.length:Int) + (x.l2.length:Int) + (x.l3.length:Int) + (totP x.l4:Int) + (x.l5.length:Int)) x.l6.length,l11:=mkS (a1 + 2 * (x.l1.length:Int) + (x.l2.length:Int) + (x.l3.length:Int) + (totP x.l4:Int) + (x.l5.length:Int) + (x.l6.length:Int)) x.l11.length}
def cntW (a1:Int) (x:IW):Int:=a1 + 2 * (x.l1.length:Int) + (x.l2.length:Int) + (x.l3.length:Int) + (totP x.l4:Int) + (x.l5.length:Int) + (x.l6.length:Int) + 5 * (x.l11.length:Int)
set_option maxHeartbeats 8000000 in
set_option maxRecDepth 100000 in
theorem markWorld_s (x:IW) (p:IP) (ok:Nat→Prop) (w0 w:World) (hB:Below w0.heap.size w0 w) (hm:x.Md p w w0.heap.size ok) (hx:x.Ok) (a1:Int) (h0:0≤a1) (h1:a1≤1048576) :
  Calls Try.prog 18 #[.agg (x.cells p),.int .i64 a1] w fun e w'=>e=.returned (.int .i64 (cntW a1 x)) ∧(mkW a1 x).Md p w' w0.heap.size ok∧Below w0.heap.size w0 w'∧Kept w w' ok:=by
 have hu:=Try.underlying42
 have hun:=Try.underlying37
 obtain ⟨o1,o2,o3,⟨o4,o4p⟩,o5,o6,o11⟩ :=hx
 have T1:=Aside0.mk (show Kd.R k133 133 w w0.heap.size (fun k=>some k=(.slice p.A1 x.l1.length p.c1:Value).ownBlock) (.slice p.A1 x.l1.length p.c1) x.l1 from Kd.R_mono (Kd.R_tight rfl hm.m1) (fun k hk=>by simpa using hk))
 have T2:=Aside0.mk (show Kd.R (Kd.int .i64) 3 w w0.heap.size (fun k=>some k=(.slice p.A2 x.l2.length p.c2:Value).ownBlock) (.slice p.A2 x.l2.length p.c2) x.l2 from Kd.R_mono (Kd.R_tight rfl hm.m2) (fun k hk=>by simpa using hk))
 have T3:=Aside0.mk (show Kd.R (Kd.int .i64) 3 w w0.heap.size (fun k=>some k=(.slice p.A3 x.l3.length p.c3:Value).ownBlock) (.slice p.A3 x.l3.length p.c3) x.l3 from Kd.R_mono (Kd.R_tight rfl hm.m3) (fun k hk=>by simpa using hk))
 have T4:=Aside0.mk (show Kd.S k103 103 w w0.heap.size (fun k=>(ok k∧some k≠(.slice p.A2 x.l2.length p.c2:Value).ownBlock∧some k≠(.slice p.A3 x.l3.length p.c3:Value).ownBlock∧some k≠(.slice p.A5 x.l5.length p.c5:Value).ownBlock∧some k≠(.slice p.A6 x.l6.length p.c6:Value).ownBlock) ∧some k≠(.slice p.A1 x.l1.length p.c1:Value).ownBlock∧some k≠(.slice p.A11 x.l11.length p.c11:Value).ownBlock∧k < w.heap.size) (.slice p.A4 x.l4.length p.c4) x.l4 from Kd.S_mono (Kd.S_bound (S_apart_ hm.m11 (S_apart_ hm.m1 hm.m4 (by decide)) (by decide))) (fun k hk=>⟨hk.1.1.1,hk.1.1.2,hk.1.2,hk.2.2.1⟩))
 have T5:=Aside0.mk (show Kd.R (Kd.int .i64) 3 w w0.heap.size (fun k=>some k=(.slice p.A5 x.l5.length p.c5:Value).ownBlock) (.slice p.A5 x.l5.length p.c5) x.l5 from Kd.R_mono (Kd.R_tight rfl hm.m5) (fun k hk=>by simpa using hk))
 have T6:=Aside0.mk (show Kd.R (Kd.int .i64) 3 w w0.heap.size (fun k=>some k=(.slice p.A6 x.l6.length p.c6:Value).ownBlock) (.slice p.A6 x.l6.length p.c6) x.l6 from Kd.R_mono (Kd.R_tight rfl hm.m6) (fun k hk=>by simpa using hk))
 have T11:=Aside0.mk (show Kd.R k62 62 w w0.heap.size (fun k=>some k=(.slice p.A11 x.l11.length p.c11:Value).ownBlock) (.slice p.A11 x.l11.length p.c11) x.l11 from Kd.R_mono (Kd.R_tight rfl hm.m11) (fun k hk=>by simpa using hk))
 have D1_2:=Aside0.mk (show ∀ k,(fun k=>some k=(.slice p.A2 x.l2.length p.c2:Value).ownBlock) k→¬ (fun k=>some k=(.slice p.A1 x.l1.length p.c1:Value).ownBlock) k from fun k h1 h2=>R_apart_ hm.m1 hm.m2 (by decide) k h2 h1)
 have D1_3:=Aside0.mk (show ∀ k,(fun k=>some k=(.slice p.A3 x.l3.length p.c3:Value).ownBlock) k→¬ (fun k=>some k=(.slice p.A1 x.l1.length p.c1:Value).ownBlock) k from fun k h1 h2=>R_apart_ hm.m1 hm.m3 (by decide) k h2 h1)
 have D1_4:=Aside0.mk (show ∀ k,(fun k=>(ok k∧some k≠(.slice p.A2 x.l2.length p.c2:Value).ownBlock∧some k≠(.slice p.A3 x.l3.length p.c3:Value).ownBlock∧some k≠(.slice p.A5 x.l5.length p.c5:Value).ownBlock∧some k≠(.slice p.A6 x.l6.length p.c6:Value).ownBlock) ∧some k≠(.slice p.A1 x.l1.length p.c1:Value).ownBlock∧some k≠(.slice p.A11 x.l11.length p.c11:Value).ownBlock∧k < w.heap.size) k→¬ (fun k=>some k=(.slice p.A1 x.l1.length p.c1:Value).ownBlock) k from fun k hk he=>hk.2.1 he)
 have D1_5:=Aside0.mk (show ∀ k,(fun k=>some k=(.slice p.A5 x.l5.length p.c5:Value).ownBlock) k→¬ (fun k=>some k=(.slice p.A1 x.l1.length p.c1:Value).ownBlock) k from fun k h1 h2=>R_apart_ hm.m1 hm.m5 (by decide) k h2 h1)
 have D1_6:=Aside0.mk (show ∀ k,(fun k=>some k=(.slice p.A6 x.l6.length p.c6:Value).ownBlock) k→¬ (fun k=>some k=(.slice p.A1 x.l1.length p.c1:Value).ownBlock) k from fun k h1 h2=>R_apart_ hm.m1 hm.m6 (by decide) k h2 h1)
 have D1_11:=Aside0.mk (show ∀ k,(fun k=>some k=(.slice p.A11 x.l11.length p.c11:Value).ownBlock) k→¬ (fun k=>some k=(.slice p.A1 x.l1.length p.c1:Value).ownBlock) k from fun k h1 h2=>R_apart_ hm.m1 hm.m11 (by decide) k h2 h1)
 have D2_3:=Aside0.mk (show ∀ k,(fun k=>some k=(.slice p.A3 x.l3.length p.c3:Value).ownBlock) k→¬ (fun k=>some k=(.slice p.A2 x.l2.length p.c2:Value).ownBlock) k from fun k h1 h2=>(hm.m3.1 k h1.symm).2.1 h2)
 have D2_4:=Aside0.mk (show ∀ k,(fun k=>(ok k∧some k≠(.slice p.A2 x.l2.length p.c2:Value).ownBlock∧some k≠(.slice p.A3 x.l3.length p.c3:Value).ownBlock∧some k≠(.slice p.A5 x.l5.length p.c5:Value).ownBlock∧some k≠(.slice p.A6 x.l6.length p.c6:Value).ownBlock) ∧some k≠(.slice p.A1 x.l1.length p.c1:Value).ownBlock∧some k≠(.slice p.A11 x.l11.length p.c11:Value).ownBlock∧k < w.heap.size) k→¬ (fun k=>some k=(.slice p.A2 x.l2.length p.c2:Value).ownBlock) k from fun k hk he=>hk.1.2.1 he)
 have D2_5:=Aside0.mk (show ∀ k,(fun k=>some k=(.slice p.A5 x.l5.length p.c5:Value).ownBlock) k→¬ (fun k=>some k=(.slice p.A2 x.l2.length p.c2:Value).ownBlock) k from fun k h1 h2=>(hm.m5.1 k h1.symm).2.1 h2)
 have D2_6:=Aside0.mk (show ∀ k,(fun k=>some k=(.slice p.A6 x.l6.length p.c6:Value).ownBlock) k→¬ (fun k=>some k=(.slice p.A2 x.l2.length p.c2:Value).ownBlock) k from fun k h1 h2=>(hm.m6.1 k h1.symm).2.1 h2)
 have D2_11:=Aside0.mk (show ∀ k,(fun k=>some k=(.slice p.A11 x.l11.length p.c11:Value).ownBlock) k→¬ (fun k=>some k=(.slice p.A2 x.l2.length p.c2:Value).ownBlock) k from fun k h1 h2=>R_apart_ hm.m2 hm.m11 (by decide) k h2 h1)
 have D3_4:=Aside0.mk (show ∀ k,(fun k=>(ok k∧some k≠(.slice p.A2 x.l2.length p.c2:Value).ownBlock∧some k≠(.slice p.A3 x.l3.length p.c3:Value).ownBlock∧some k≠(.slice p.A5 x.l5.length p.c5:Value).ownBlock∧some k≠(.slice p.A6 x.l6.length p.c6:Value).ownBlock) ∧some k≠(.slice p.A1 x.l1.length p.c1:Value).ownBlock∧some k≠(.slice p.A11 x.l11.length p.c11:Value).ownBlock∧k < w.heap.size) k→¬ (fun k=>some k=(.slice p.A3 x.l3.length p.c3:Value).ownBlock) k from fun k hk he=>hk.1.2.2.1 he)
 have D3_5:=Aside0.mk (show ∀ k,(fun k=>some k=(.slice p.A5 x.l5.length p.c5:Value).ownBlock) k→¬ (fun k=>some k=(.slice p.A3 x.l3.length p.c3:Value).ownBlock) k from fun k h1 h2=>(hm.m5.1 k h1.symm).2.2.1 h2)
 have D3_6:=Aside0.mk (show ∀ k,(fun k=>some k=(.slice p.A6 x.l6.length p.c6:Value).ownBlock) k→¬ (fun k=>some k=(.slice p.A3 x.l3.length p.c3:Value).ownBlock) k from fun k h1 h2=>(hm.m6.1 k h1.symm).2.2.1 h2)
 have D3_11:=Aside0.mk (show ∀ k,(fun k=>some k=(.slice p.A11 x.l11.length p.c11:Value).ownBlock) k→¬ (fun k=>some k=(.slice p.A3 x.l3.length p.c3:Value).ownBlock) k from fun k h1 h2=>R_apart_ hm.m3 hm.m11 (by decide) k h2 h1)
 have D4_5:=Aside0.mk (show ∀ k,(fun k=>some k=(.slice p.A5 x.l5.length p.c5:Value).ownBlock) k→¬ (fun k=>(ok k∧some k≠(.slice p.A2 x.l2.length p.c2:Value).ownBlock∧some k≠(.slice p.A3 x.l3.length p.c3:Value).ownBlock∧some k≠(.slice p.A5 x.l5.length p.c5:Value).ownBlock∧some k≠(.slice p.A6 x.l6.length p.c6:Value).ownBlock) ∧some k≠(.slice p.A1 x.l1.length p.c1:Value).ownBlock∧some k≠(.slice p.A11 x.l11.length p.c11:Value).ownBlock∧k < w.heap.size) k from fun k he hk=>hk.1.2.2.2.1 he)
 have D4_6:=Aside0.mk (show ∀ k,(fun k=>some k=(.slice p.A6 x.l6.length p.c6:Value).ownBlock) k→¬ (fun k=>(ok k∧some k≠(.slice p.A2 x.l2.length p.c2:Value).ownBlock∧some k≠(.slice p.A3 x.l3.length p.c3:Value).ownBlock∧some k≠(.slice p.A5 x.l5.length p.c5:Value).ownBlock∧some k≠(.slice p.A6 x.l6.length p.c6:Value).ownBlock) ∧some k≠(.slice p.A1 x.l1.length p.c1:Value).ownBlock∧some k≠(.slice p.A11 x.l11.length p.c11:Value).ownBlock∧k < w.heap.size) k from fun k he hk=>hk.1.2.2.2.2 he)
 have D4_11:=Aside0.mk (show ∀ k,(fun k=>some k=(.slice p.A11 x.l11.length p.c11:Value).ownBlock) k→¬ (fun k=>(ok k∧some k≠(.slice p.A2 x.l2.length p.c2:Value).ownBlock∧some k≠(.slice p.A3 x.l3.length p.c3:Value).ownBlock∧some k≠(.slice p.A5 x.l5.length p.c5:Value).ownBlock∧some k≠(.slice p.A6 x.l6.length p.c6:Value).ownBlock) ∧some k≠(.slice p.A1 x.l1.length p.c1:Value).ownBlock∧some k≠(.slice p.A11 x.l11.length p.c11:Value).ownBlock∧k < w.heap.size) k from fun k he hk=>hk.2.2.1 he)
 have D5_6:=Aside0.mk (show ∀ k,(fun k=>some k=(.slice p.A6 x.l6.length p.c6:Value).ownBlock) k→¬ (fun k=>some k=(.slice p.A5 x.l5.length p.c5:Value).ownBlock) k from fun k h1 h2=>(hm.m6.1 k h1.symm).2.2.2 h2)
 have D5_11:=Aside0.mk (show ∀ k,(fun k=>some k=(.slice p.A11 x.l11.length p.c11:Value).ownBlock) k→¬ (fun k=>some k=(.slice p.A5 x.l5.length p.c5:Value).ownBlock) k from fun k h1 h2=>R_apart_ hm.m5 hm.m11 (by decide) k h2 h1)
 have D6_11:=Aside0.mk (show ∀ k,(fun k=>some k=(.slice p.A11 x.l11.length p.c11:Value).ownBlock) k→¬ (fun k=>some k=(.slice p.A6 x.l6.length p.c6:Value).ownBlock) k from fun k h1 h2=>R_apart_ hm.m6 hm.m11 (by decide) k h2 h1)
 have X1:=Aside0.mk (show ∀ k,(fun k=>some k=(.slice p.A1 x.l1.length p.c1:Value).ownBlock) k→k < w.heap.size from fun k h=>Kd.R_lt hm.m1 k h.symm)
 have X2:=Aside0.mk (show ∀ k,(fun k=>some k=(.slice p.A2 x.l2.length p.c2:Value).ownBlock) k→k < w.heap.size from fun k h=>Kd.R_lt hm.m2 k h.symm)
 have X3:=Aside0.mk (show ∀ k,(fun k=>some k=(.slice p.A3 x.l3.length p.c3:Value).ownBlock) k→k < w.heap.size from fun k h=>Kd.R_lt hm.m3 k h.symm)
 have X4:=Aside0.mk (show ∀ k,(fun k=>(ok k∧some k≠(.slice p.A2 x.l2.length p.c2:Value).ownBlock∧some k≠(.slice p.A3 x.l3.length p.c3:Value).ownBlock∧some k≠(.slice p.A5 x.l5.length p.c5:Value).ownBlock∧some k≠(.slice p.A6 x.l6.length p.c6:Value).ownBlock) ∧some k≠(.slice p.A1 x.l1.length p.c1:Value).ownBlock∧some k≠(.slice p.A11 x.l11.length p.c11:Value).ownBlock∧k < w.heap.size) k→k < w.heap.size from fun k h=>h.2.2.2)
 have X5:=Aside0.mk (show ∀ k,(fun k=>some k=(.slice p.A5 x.l5.length p.c5:Value).ownBlock) k→k < w.heap.size from fun k h=>Kd.R_lt hm.m5 k h.symm)
 have X6:=Aside0.mk (show ∀ k,(fun k=>some k=(.slice p.A6 x.l6.length p.c6:Value).ownBlock) k→k < w.heap.size from fun k h=>Kd.R_lt hm.m6 k h.symm)
 have X11:=Aside0.mk (show ∀ k,(fun k=>some k=(.slice p.A11 x.l11.length p.c11:Value).ownBlock) k→k < w.heap.size from fun k h=>Kd.R_lt hm.m11 k h.symm)
 have Y1:=Aside0.mk (show ∀ k,(fun k=>some k=(.slice p.A1 x.l1.length p.c1:Value).ownBlock) k→ok k from fun k h=>hm.m1.1 k h.symm)
 have Y2:=Aside0.mk (show ∀ k,(fun k=>some k=(.slice p.A2 x.l2.length p.c2:Value).ownBlock) k→ok k from fun k h=>(hm.m2.1 k h.symm).1)
 have Y3:=Aside0.mk (show ∀ k,(fun k=>some k=(.slice p.A3 x.l3.length p.c3:Value).ownBlock) k→ok k from fun k h=>(hm.m3.1 k h.symm).1)
 have Y4:=Aside0.mk (show ∀ k,(fun k=>(ok k∧some k≠(.slice p.A2 x.l2.length p.c2:Value).ownBlock∧some k≠(.slice p.A3 x.l3.length p.c3:Value).ownBlock∧some k≠(.slice p.A5 x.l5.length p.c5:Value).ownBlock∧some k≠(.slice p.A6 x.l6.length p.c6:Value).ownBlock) ∧some k≠(.slice p.A1 x.l1.length p.c1:Value).ownBlock∧some k≠(.slice p.A11 x.l11.length p.c11:Value).ownBlock∧k < w.heap.size) k→ok k from fun k h=>h.1.1)
 have Y5:=Aside0.mk (show ∀ k,(fun k=>some k=(.slice p.A5 x.l5.length p.c5:Value).ownBlock) k→ok k from fun k h=>(hm.m5.1 k h.symm).1)
 have Y6:=Aside0.mk (show ∀ k,(fun k=>some k=(.slice p.A6 x.l6.length p.c6:Value).ownBlock) k→ok k from fun k h=>(hm.m6.1 k h.symm).1)
 have Y11:=Aside0.mk (show ∀ k,(fun k=>some k=(.slice p.A11 x.l11.length p.c11:Value).ownBlock) k→ok k from fun k h=>hm.m11.1 k h.symm)
 have Z1:=Aside0.mk (show ∀ k,(fun k=>some k=(.slice p.A1 x.l1.length p.c1:Value).ownBlock) k→ok k from fun k h=>hm.m1.1 k h.symm)
 have Z2:=Aside0.mk (show ∀ k,(fun k=>some k=(.slice p.A2 x.l2.length p.c2:Value).ownBlock) k→ok k∧some k≠(.slice p.A3 x.l3.length p.c3:Value).ownBlock∧some k≠(.slice p.A5 x.l5.length p.c5:Value).ownBlock∧some k≠(.slice p.A6 x.l6.length p.c6:Value).ownBlock from fun k h=>hm.m2.1 k h.symm)
 have Z3:=Aside0.mk (show ∀ k,(fun k=>some k=(.slice p.A3 x.l3.length p.c3:Value).ownBlock) k→ok k∧some k≠(.slice p.A2 x.l2.length p.c2:Value).ownBlock∧some k≠(.slice p.A5 x.l5.length p.c5:Value).ownBlock∧some k≠(.slice p.A6 x.l6.length p.c6:Value).ownBlock from fun k h=>hm.m3.1 k h.symm)
 have Z4:=Aside0.mk (show ∀ k,(fun k=>(ok k∧some k≠(.slice p.A2 x.l2.length p.c2:Value).ownBlock∧some k≠(.slice p.A3 x.l3.length p.c3:Value).ownBlock∧some k≠(.slice p.A5 x.l5.length p.c5:Value).ownBlock∧some k≠(.slice p.A6 x.l6.length p.c6:Value).ownBlock) ∧some k≠(.slice p.A1 x.l1.length p.c1:Value).ownBlock∧some k≠(.slice p.A11 x.l11.length p.c11:Value).ownBlock∧k < w.heap.size) k→ok k∧some k≠(.slice p.A2 x.l2.length p.c2:Value).ownBlock∧some k≠(.slice p.A3 x.l3.length p.c3:Value).ownBlock∧some k≠(.slice p.A5 x.l5.length p.c5:Value).ownBlock∧some k≠(.slice p.A6 x.l6.length p.c6:Value).ownBlock from fun k h=>h.1)
 have Z5:=Aside0.mk (show ∀ k,(fun k=>some k=(.slice p.A5 x.l5.length p.c5:Value).ownBlock) k→ok k∧some k≠(.slice p.A2 x.l2.length p.c2:Value).ownBlock∧some k≠(.slice p.A3 x.l3.length p.c3:Value).ownBlock∧some k≠(.slice p.A6 x.l6.length p.c6:Value).ownBlock from fun k h=>hm.m5.1 k h.symm)
 have Z6:=Aside0.mk (show ∀ k,(fun k=>some k=(.slice p.A6 x.l6.length p.c6:Value).ownBlock) k→ok k∧some k≠(.slice p.A2 x.l2.length p.c2:Value).ownBlock∧some k≠(.slice p.A3 x.l3.length p.c3:Value).ownBlock∧some k≠(.slice p.A5 x.l5.length p.c5:Value).ownBlock from fun k h=>hm.m6.1 k h.symm)
 have Z11:=Aside0.mk (show ∀ k,(fun k=>some k=(.slice p.A11 x.l11.length p.c11:Value).ownBlock) k→ok k from fun k h=>hm.m11.1 k h.symm)
 have HB:=Aside0.mk hB;have H0:=Aside0.mk h0;have H1:=Aside0.mk h1;clear hm hB h0 h1
 have O1:=Aside0.mk o1;clear o1
 have O2:=Aside0.mk o2;clear o2
 have O3:=Aside0.mk o3;clear o3
 have O4:=Aside0.mk o4;clear o4
 have O5:=Aside0.mk o5;clear o5
 have O6:=Aside0.mk o6;clear o6
 have O11:=Aside0.mk o11;clear o11
 have O4P:=Aside0.mk o4p;clear o4p
 go_enter Try.func18,Try.ntmps18
 go_wp2_with fail
 refine calls_gen (fun W'=>Below w.heap.size w W'∧W'.heap[w.heap.size]?=some (.cells (x.cells p) 42 (0,0))) ⟨?gb,?gx⟩ ?_
 case gb=>exact bV
 case gx=>(repeat (refine blk_drewN ?_ _));exact blk_new _ _
 rintro W1 ⟨hbw,hgx⟩
 have HS:=Aside0.mk hbw.size;have BX:=Aside0.mk hgx;clear hgx
 have HK:=Aside0.mk (Kept.of_below hbw ok)
 replace HB:=Aside0.mk (below_step HB.out hbw)
 replace T1:=rB T1 hbw
 replace T2:=rB T2 hbw
 replace T3:=rB T3 hbw
 replace T4:=rBS T4 hbw
 replace T5:=rB T5 hbw
 replace T6:=rB T6 hbw
 replace T11:=rB T11 hbw
 clear hbw
 obtain ⟨k1,hk1⟩ :=(markNet_ev x.d0 x.l1 a1 O1.out H0.out (by have:=H1.out;omega)).rounds
 have K1:=Aside0.mk hk1;clear hk1
 go_at_call 56;(refine (laws_markNet.calls k1 x.d0 _ _ x.l1 _ _ _ w0 W1 HB.out T1.out K1.out).mono ?_);rintro e w1 ⟨rfl,hR',hB',hK'⟩
 have BX2:=Aside0.mk ((hK'.2 w.heap.size (blk_lt BX.out) (fun h=>by have:=X1.out _ h;omega)).trans BX.out);clear BX;have BX:=BX2;clear BX2
 replace T2:=rK T2 hK' D1_2.out
 replace T3:=rK T3 hK' D1_3.out
 replace T4:=rKS T4 hK' D1_4.out
 replace T5:=rK T5 hK' D1_5.out
 replace T6:=rK T6 hK' D1_6.out
 replace T11:=rK T11 hK' D1_11.out
 have M1:=Aside0.mk (R_tight' rfl hR' T1.out);clear hR'
 replace HK:=Aside0.mk (Kept.then_ HK.out hK' (fun k hk=>.inl (Y1.out k hk)))
 replace HS:=Aside0.mk (Nat.le_trans HS.out hK'.1)
 have HB2:=Aside0.mk hB';clear HB;have HB:=HB2;clear HB2 hB' hK'
 obtain ⟨x0,x1,x2,x3,x4,x5,x6,x7,x8,x9,x10,x11,x12⟩ :=IW.at_ BX.out
 go_wp2_with fail
 refine calls_gen (fun W'=>Below w1.heap.size w1 W') ?gb ?_
 case gb=>exact bV
 rintro W2 hbw
 clear x0 x1 x2 x3 x4 x5 x6 x7 x8 x9 x10 x11 x12
 replace HS:=Aside0.mk (Nat.le_trans HS.out hbw.size);replace BX:=Aside0.mk (blk_below BX.out hbw)
 replace HK:=Aside0.mk (Kept.below HK.out hbw)
 replace HB:=Aside0.mk (below_step HB.out hbw)
 replace T2:=rB T2 hbw
 replace T3:=rB T3 hbw
 replace T4:=rBS T4 hbw
 replace T5:=rB T5 hbw
 replace T6:=rB T6 hbw
 replace T11:=rB T11 hbw
 replace M1:=rB M1 hbw
 clear hbw
 obtain ⟨k2,hk2⟩ :=(markIntS_ev2 x.l2 (a1 + 2 * (x.l1.length:Int)) O2.out (by have:=H0.out;have:=H1.out;have:=O1.out;omega) (by have:=H0.out;have:=H1.out;have:=O1.out;omega)).rounds
 have K2:=Aside0.mk hk2;clear hk2
 go_at_call 24;(refine (laws_markIntS.calls k2 _ _ x.l2 _ _ _ w0 W2 HB.out T2.out K2.out).mono ?_);rintro e w2 ⟨rfl,hR',hB',hK'⟩
 have BX2:=Aside0.mk ((hK'.2 w.heap.size (blk_lt BX.out) (fun h=>by have:=X2.out _ h;omega)).trans BX.out);clear BX;have BX:=BX2;clear BX2
 replace T3:=rK T3 hK' D2_3.out
 replace T4:=rKS T4 hK' D2_4.out
 replace T5:=rK T5 hK' D2_5.out
 replace T6:=rK T6 hK' D2_6.out
 replace T11:=rK T11 hK' D2_11.out
 replace M1:=rK M1 hK' (fun k hj hi=>D1_2.out k hi hj)
 have M2:=Aside0.mk (R_tight' rfl hR' T2.out);clear hR'
 replace HK:=Aside0.mk (Kept.then_ HK.out hK' (fun k hk=>.inl (Y2.out k hk)))
 replace HS:=Aside0.mk (Nat.le_trans HS.out hK'.1)
 have HB2:=Aside0.mk hB';clear HB;have HB:=HB2;clear HB2 hB' hK'
 obtain ⟨x0,x1,x2,x3,x4,x5,x6,x7,x8,x9,x10,x11,x12⟩ :=IW.at_ BX.out
 go_wp2_with fail
 refine calls_gen (fun W'=>Below w2.heap.size w2 W') ?gb ?_
 case gb=>exact bV
 rintro W3 hbw
 clear x0 x1 x2 x3 x4 x5 x6 x7 x8 x9 x10 x11 x12
 replace HS:=Aside0.mk (Nat.le_trans HS.out hbw.size);replace BX:=Aside0.mk (blk_below BX.out hbw)
 replace HK:=Aside0.mk (Kept.below HK.out hbw)
 replace HB:=Aside0.mk (below_step HB.out hbw)
 replace T3:=rB T3 hbw
 replace T4:=rBS T4 hbw
 replace T5:=rB T5 hbw
 replace T6:=rB T6 hbw
 replace T11:=rB T11 hbw
 replace M1:=rB M1 hbw
 replace M2:=rB M2 hbw
 clear hbw
 obtain ⟨k3,hk3⟩ :=(markIntS_ev2 x.l3 (a1 + 2 * (x.l1.length:Int) + (x.l2.length:Int)) O3.out (by have:=H0.out;have:=H1.out;have:=O1.out;have:=O2.out;omega) (by have:=H0.out;have:=H1.out;have:=O1.out;have:=O2.out;omega)).rounds
 have K3:=Aside0.mk hk3;clear hk3
 go_at_call 24;(refine (laws_markIntS.calls k3 _ _ x.l3 _ _ _ w0 W3 HB.out T3.out K3.out).mono ?_);rintro e w3 ⟨rfl,hR',hB',hK'⟩
 have BX2:=Aside0.mk ((hK'.2 w.heap.size (blk_lt BX.out) (fun h=>by have:=X3.out _ h;omega)).trans BX.out);clear BX;have BX:=BX2;clear BX2
 replace T4:=rKS T4 hK' D3_4.out
 replace T5:=rK T5 hK' D3_5.out
 replace T6:=rK T6 hK' D3_6.out
 replace T11:=rK T11 hK' D3_11.out
 replace M1:=rK M1 hK' (fun k hj hi=>D1_3.out k hi hj)
 replace M2:=rK M2 hK' (fun k hj hi=>D2_3.out k hi hj)
 have M3:=Aside0.mk (R_tight' rfl hR' T3.out);clear hR'
 replace HK:=Aside0.mk (Kept.then_ HK.out hK' (fun k hk=>.inl (Y3.out k hk)))
 replace HS:=Aside0.mk (Nat.le_trans HS.out hK'.1)
 have HB2:=Aside0.mk hB';clear HB;have HB:=HB2;clear HB2 hB' hK'
 obtain ⟨x0,x1,x2,x3,x4,x5,x6,x7,x8,x9,x10,x11,x12⟩ :=IW.at_ BX.out
 go_wp2_with fail
 refine calls_gen (fun W'=>Below w3.heap.size w3 W') ?gb ?_
 case gb=>exact bV
 rintro W4 hbw
 clear x0 x1 x2 x3 x4 x5 x6 x7 x8 x9 x10 x11 x12
 replace HS:=Aside0.mk (Nat.le_trans HS.out hbw.size);replace BX:=Aside0.mk (blk_below BX.out hbw)
 replace HK:=Aside0.mk (Kept.below HK.out hbw)
 replace HB:=Aside0.mk (below_step HB.out hbw)
 replace T4:=rBS T4 hbw
 replace T5:=rB T5 hbw
 replace T6:=rB T6 hbw
 replace T11:=rB T11 hbw
 replace M1:=rB M1 hbw
 replace M2:=rB M2 hbw
 replace M3:=rB M3 hbw
 clear hbw
 go_at_call 75;(refine (markProbeS_s _ _ x.l4 (a1 + 2 * (x.l1.length:Int) + (x.l2.length:Int) + (x.l3.length:Int)) w0 W4 HB.out T4.out O4.out O4P.out (by have:=H0.out;have:=H1.out;have:=O1.out;have:=O2.out;have:=O3.out;omega) (by have:=H0.out;have:=H1.out;have:=O1.out;have:=O2.out;have:=O3.out;omega)).mono ?_);rintro e w4 ⟨rfl,hR',hB',hK'⟩
 have BX2:=Aside0.mk ((hK'.2 w.heap.size (blk_lt BX.out) (fun h=>by have:=X4.out _ h;omega)).trans BX.out);clear BX;have BX:=BX2;clear BX2
 replace T5:=rK T5 hK' D4_5.out
 replace T6:=rK T6 hK' D4_6.out
 replace T11:=rK T11 hK' D4_11.out
 replace M1:=rK M1 hK' (fun k hj hi=>D1_4.out k hi hj)
 replace M2:=rK M2 hK' (fun k hj hi=>D2_4.out k hi hj)
 replace M3:=rK M3 hK' (fun k hj hi=>D3_4.out k hi hj)
 have M4:=Aside0.mk hR';clear hR'
 replace HK:=Aside0.mk (Kept.then_ HK.out hK' (fun k hk=>.inl (Y4.out k hk)))
 replace HS:=Aside0.mk (Nat.le_trans HS.out hK'.1)
 have HB2:=Aside0.mk hB';clear HB;have HB:=HB2;clear HB2 hB' hK'
 obtain ⟨x0,x1,x2,x3,x4,x5,x6,x7,x8,x9,x10,x11,x12⟩ :=IW.at_ BX.out
 go_wp2_with fail
 refine calls_gen (fun W'=>Below w4.heap.size w4 W') ?gb ?_
 case gb=>exact bV
 rintro W5 hbw
 clear x0 x1 x2 x3 x4 x5 x6 x7 x8 x9 x10 x11 x12
 replace HS:=Aside0.mk (Nat.le_trans HS.out hbw.size);replace BX:=Aside0.mk (blk_below BX.out hbw)
 replace HK:=Aside0.mk (Kept.below HK.out hbw)
 replace HB:=Aside0.mk (below_step HB.out hbw)
 replace T5:=rB T5 hbw
 replace T6:=rB T6 hbw
 replace T11:=rB T11 hbw
 replace M1:=rB M1 hbw
 replace M2:=rB M2 hbw
 replace M3:=rB M3 hbw
 replace M4:=rBS M4 hbw
 clear hbw
 obtain ⟨k5,hk5⟩ :=(markIntS_ev2 x.l5 (a1 + 2 * (x.l1.length:Int) + (x.l2.length:Int) + (x.l3.length:Int) + (totP x.l4:Int)) O5.out (by have:=H0.out;have:=H1.out;have:=O1.out;have:=O2.out;have:=O3.out;have:=O4.out;have:=totP_le x.l4 O4P.out;omega) (by have:=H0.out;have:=H1.out;have:=O1.out;have:=O2.out;have:=O3.out;have:=O4.out;have:=totP_le x.l4 O4P.out;omega)).rounds
 have K5:=Aside0.mk hk5;clear hk5
 go_at_call 24;(refine (laws_markIntS.calls k5 _ _ x.l5 _ _ _ w0 W5 HB.out T5.out K5.out).mono ?_);rintro e w5 ⟨rfl,hR',hB',hK'⟩
 have BX2:=Aside0.mk ((hK'.2 w.heap.size (blk_lt BX.out) (fun h=>by have:=X5.out _ h;omega)).trans BX.out);clear BX;have BX:=BX2;clear BX2
 replace T6:=rK T6 hK' D5_6.out
 replace T11:=rK T11 hK' D5_11.out
 replace M1:=rK M1 hK' (fun k hj hi=>D1_5.out k hi hj)
 replace M2:=rK M2 hK' (fun k hj hi=>D2_5.out k hi hj)
 replace M3:=rK M3 hK' (fun k hj hi=>D3_5.out k hi hj)
 replace M4:=rKS M4 hK' (fun k hj hi=>D4_5.out k hi hj)
 have M5:=Aside0.mk (R_tight' rfl hR' T5.out);clear hR'
 replace HK:=Aside0.mk (Kept.then_ HK.out hK' (fun k hk=>.inl (Y5.out k hk)))
 replace HS:=Aside0.mk (Nat.le_trans HS.out hK'.1)
 have HB2:=Aside0.mk hB';clear HB;have HB:=HB2;clear HB2 hB' hK'
 obtain ⟨x0,x1,x2,x3,x4,x5,x6,x7,x8,x9,x10,x11,x12⟩ :=IW.at_ BX.out
 go_wp2_with fail
 refine calls_gen (fun W'=>Below w5.heap.size w5 W') ?gb ?_
 case gb=>exact bV
 rintro W6 hbw
 clear x0 x1 x2 x3 x4 x5 x6 x7 x8 x9 x10 x11 x12
 replace HS:=Aside0.mk (Nat.le_trans HS.out hbw.size);replace BX:=Aside0.mk (blk_below BX.out hbw)
 replace HK:=Aside0.mk (Kept.below HK.out hbw)
 replace HB:=Aside0.mk (below_step HB.out hbw)
 replace T6:=rB T6 hbw
 replace T11:=rB T11 hbw
 replace M1:=rB M1 hbw
 replace M2:=rB M2 hbw
 replace M3:=rB M3 hbw
 replace M4:=rBS M4 hbw
 replace M5:=rB M5 hbw
 clear hbw
 obtain ⟨k6,hk6⟩ :=(markIntS_ev2 x.l6 (a1 + 2 * (x.l1.length:Int) + (x.l2.length:Int) + (x.l3.length:Int) + (totP x.l4:Int) + (x.l5.length:Int)) O6.out (by have:=H0.out;have:=H1.out;have:=O1.out;have:=O2.out;have:=O3.out;have:=O4.out;have:=O5.out;have:=totP_le x.l4 O4P.out;omega) (by have:=H0.out;have:=H1.out;have:=O1.out;have:=O2.out;have:=O3.out;have:=O4.out;have:=O5.out;have:=totP_le x.l4 O4P.out;omega)).rounds
 have K6:=Aside0.mk hk6;clear hk6
 go_at_call 24;(refine (laws_markIntS.calls k6 _ _ x.l6 _ _ _ w0 W6 HB.out T6.out K6.out).mono ?_);rintro e w6 ⟨rfl,hR',hB',hK'⟩
 have BX2:=Aside0.mk ((hK'.2 w.heap.size (blk_lt BX.out) (fun h=>by have:=X6.out _ h;omega)).trans BX.out);clear BX;have BX:=BX2;clear BX2
 replace T11:=rK T11 hK' D6_11.out
 replace M1:=rK M1 hK' (fun k hj hi=>D1_6.out k hi hj)
 replace M2:=rK M2 hK' (fun k hj hi=>D2_6.out k hi hj)
 replace M3:=rK M3 hK' (fun k hj hi=>D3_6.out k hi hj)
 replace M4:=rKS M4 hK' (fun k hj hi=>D4_6.out k hi hj)
 replace M5:=rK M5 hK' (fun k hj hi=>D5_6.out k hi hj)
 have M6:=Aside0.mk (R_tight' rfl hR' T6.out);clear hR'
 replace HK:=Aside0.mk (Kept.then_ HK.out hK' (fun k hk=>.inl (Y6.out k hk)))
 replace HS:=Aside0.mk (Nat.le_trans HS.out hK'.1)
 have HB2:=Aside0.mk hB';clear HB;have HB:=HB2;clear HB2 hB' hK'
 obtain ⟨x0,x1,x2,x3,x4,x5,x6,x7,x8,x9,x10,x11,x12⟩ :=IW.at_ BX.out
 go_wp2_with fail
 refine calls_gen (fun W'=>Below w6.heap.size w6 W') ?gb ?_
 case gb=>exact bV
 rintro W11 hbw
 clear x0 x1 x2 x3 x4 x5 x6 x7 x8 x9 x10 x11 x12
 replace HS:=Aside0.mk (Nat.le_trans HS.out hbw.size);replace BX:=Aside0.mk (blk_below BX.out hbw)
 replace HK:=Aside0.mk (Kept.below HK.out hbw)
 replace HB:=Aside0.mk (below_step HB.out hbw)
 replace T11:=rB T11 hbw
 replace M1:=rB M1 hbw
 replace M2:=rB M2 hbw
 replace M3:=rB M3 hbw
 replace M4:=rBS M4 hbw
 replace M5:=rB M5 hbw
 replace M6:=rB M6 hbw
 clear hbw
 obtain ⟨k11,hk11⟩ :=(markSeenS_ev2 x.l11 (a1 + 2 * (x.l1.length:Int) + (x.l2.length:Int) + (x.l3.length:Int) + (totP x.l4:Int) + (x.l5.length:Int) + (x.l6.length:Int)) O11.out (by have:=H0.out;have:=H1.out;have:=O1.out;have:=O2.out;have:=O3.out;have:=O4.out;have:=O5.out;have:=O6.out;have:=totP_le x.l4 O4P.out;omega) (by have:=H0.out;have:=H1.out;have:=O1.out;have:=O2.out;have:=O3.out;have:=O4.out;have:=O5.out;have:=O6.out;have:=totP_le x.l4 O4P.out;omega)).rounds
 have K11:=Aside0.mk hk11;clear hk11
 go_at_call 76;(refine (laws_markSeenS.calls k11 _ _ x.l11 _ _ _ w0 W11 HB.out T11.out K11.out).mono ?_);rintro e w11 ⟨rfl,hR',hB',hK'⟩
 have BX2:=Aside0.mk ((hK'.2 w.heap.size (blk_lt BX.out) (fun h=>by have:=X11.out _ h;omega)).trans BX.out);clear BX;have BX:=BX2;clear BX2
 replace M1:=rK M1 hK' (fun k hj hi=>D1_11.out k hi hj)
 replace M2:=rK M2 hK' (fun k hj hi=>D2_11.out k hi hj)
 replace M3:=rK M3 hK' (fun k hj hi=>D3_11.out k hi hj)
 replace M4:=rKS M4 hK' (fun k hj hi=>D4_11.out k hi hj)
 replace M5:=rK M5 hK' (fun k hj hi=>D5_11.out k hi hj)
 replace M6:=rK M6 hK' (fun k hj hi=>D6_11.out k hi hj)
 have M11:=Aside0.mk (R_tight' rfl hR' T11.out);clear hR'
 replace HK:=Aside0.mk (Kept.then_ HK.out hK' (fun k hk=>.inl (Y11.out k hk)))
 replace HS:=Aside0.mk (Nat.le_trans HS.out hK'.1)
 have HB2:=Aside0.mk hB';clear HB;have HB:=HB2;clear HB2 hB' hK'
 have MD:Aside0 ((mkW a1 x).Md p w11 w0.heap.size ok) :=by
  refine ⟨⟨?_,?_,?_,?_,?_,?_,?_⟩⟩
  all_goals simp only [mkW,mkL_length,mkI_length,mkPP_length,mkS_length]
  ·exact Kd.R_mono M1.out (fun k hk=>Z1.out k hk)
  ·exact Kd.R_mono M2.out (fun k hk=>Z2.out k hk)
  ·exact Kd.R_mono M3.out (fun k hk=>Z3.out k hk)
  ·exact Kd.S_mono M4.out (fun k hk=>Z4.out k hk)
  ·exact Kd.R_mono M5.out (fun k hk=>Z5.out k hk)
  ·exact Kd.R_mono M6.out (fun k hk=>Z6.out k hk)
  ·exact Kd.R_mono M11.out (fun k hk=>Z11.out k hk)
 go_wp2
 go_ret
 exact ⟨by rw [cntW];rfl,by first|exact MD.out|exact MD.out.below bV,by first|exact HB.out|exact below_step HB.out bV,by first|exact HK.out|exact Kept.below HK.out bV⟩
theorem R_ivn {α:Type} {d:Kd α} {e:Nat} {W w2:World} {b:Nat} {ok:Nat→Prop} {v:Value} {xs:List α} (hb:b≤W.heap.size) (ho:Kd.R d e w2 W.heap.size ok v xs):Kd.R d e w2 b (fun k=>W.heap.size≤k∧k < w2.heap.size) v xs:=Kd.R_lower (Kd.R_mono (Kd.R_bound ho) (fun k hk=>⟨hk.2.1,hk.2.2.1⟩)) hb
theorem md_mk {x:IW} {w':World} {b:Nat} {v1 v2 v3 v4 v5 v6 v11:Value} (h1:Kd.R k133 133 w' b (fun _=>True) v1 x.l1)
  (h2:Kd.R (Kd.int .i64) 3 w' b (fun k_=>some k_≠v3.ownBlock∧some k_≠v5.ownBlock∧some k_≠v6.ownBlock) v2 x.l2) (h3:Kd.R (Kd.int .i64) 3 w' b (fun k_=>some k_≠v2.ownBlock∧some k_≠v5.ownBlock∧some k_≠v6.ownBlock) v3 x.l3)
  (h4:Kd.S k103 103 w' b (fun k_=>some k_≠v2.ownBlock∧some k_≠v3.ownBlock∧some k_≠v5.ownBlock∧some k_≠v6.ownBlock) v4 x.l4)
  (h5:Kd.R (Kd.int .i64) 3 w' b (fun k_=>some k_≠v2.ownBlock∧some k_≠v3.ownBlock∧some k_≠v6.ownBlock) v5 x.l5) (h6:Kd.R (Kd.int .i64) 3 w' b (fun k_=>some k_≠v2.ownBlock∧some k_≠v3.ownBlock∧some k_≠v5.ownBlock) v6 x.l6)
  (h11:Kd.R k62 62 w' b (fun _=>True) v11 x.l11) :
  ∃ p:IP,v1=.slice p.A1 x.l1.length p.c1∧v2=.slice p.A2 x.l2.length p.c2∧v3=.slice p.A3 x.l3.length p.c3∧v4=.slice p.A4 x.l4.length p.c4∧v5=.slice p.A5 x.l5.length p.c5∧v6=.slice p.A6 x.l6.length p.c6∧v11=.slice p.A11 x.l11.length p.c11∧x.Md p w' b (fun k=>b≤k∧k < w'.heap.size) :=by
 obtain ⟨A1,c1,rfl⟩ :=Kd.R_slice h1
 obtain ⟨A2,c2,rfl⟩ :=Kd.R_slice h2
 obtain ⟨A3,c3,rfl⟩ :=Kd.R_slice h3
 obtain ⟨A4,c4,rfl⟩ :=Kd.S_slice h4
 obtain ⟨A5,c5,rfl⟩ :=Kd.R_slice h5
 obtain ⟨A6,c6,rfl⟩ :=Kd.R_slice h6
 obtain ⟨A11,c11,rfl⟩ :=Kd.R_slice h11
 exact ⟨⟨A1,c1,A2,c2,A3,c3,A4,c4,A5,c5,A6,c6,A11,c11⟩,rfl,rfl,rfl,rfl,rfl,rfl,rfl,⟨Kd.R_mono (Kd.R_bound h1) (fun k hk=>⟨hk.2.1,hk.2.2.1⟩),Kd.R_mono (Kd.R_bound h2) (fun k hk=>⟨⟨hk.2.1,hk.2.2.1⟩,hk.1⟩),Kd.R_mono (Kd.R_bound h3) (fun k hk=>⟨⟨hk.2.1,hk.2.2.1⟩,hk.1⟩),
  Kd.S_mono (Kd.S_bound h4) (fun k hk=>⟨⟨hk.2.1,hk.2.2.1⟩,hk.1⟩),Kd.R_mono (Kd.R_bound h5) (fun k hk=>⟨⟨hk.2.1,hk.2.2.1⟩,hk.1⟩),Kd.R_mono (Kd.R_bound h6) (fun k hk=>⟨⟨hk.2.1,hk.2.2.1⟩,hk.1⟩),Kd.R_mono (Kd.R_bound h11) (fun k hk=>⟨hk.2.1,hk.2.2.1⟩)⟩⟩
def nwX (nd:Int) (lk:List S133) (de hs ow:List Int):IW:=⟨(nwV nd lk de hs ow).1,(nwV nd lk de hs ow).2.1,(nwV nd lk de hs ow).2.2.1,(nwV nd lk de hs ow).2.2.2.1,(nwV nd lk de hs ow).2.2.2.2.1,(nwV nd lk de hs ow).2.2.2.2.2.1,(nwV nd lk de hs ow).2.2.2.2.2.2.1,(nwV nd lk de hs ow).2.2.2.2.2.2.2.1,(nwV nd lk de hs ow).2.2.2.2.2.2.2.2.1,(nwV nd lk de hs ow).2.2.2.2.2.2.2.2.2.1,(nwV nd lk de hs ow).2.2.2.2.2.2.2.2.2.2.1,(nwV nd lk de hs ow).2.2.2.2.2.2.2.2.2.2.2.1,(nwV nd lk de hs ow).2.2.2.2.2.2.2.2.2.2.2.2.1⟩
def nwB (nd:Int) (lk:List S133) (de hs ow:List Int):Bool:=(nwV nd lk de hs ow).2.2.2.2.2.2.2.2.2.2.2.2.2
theorem nwX_ok {nd:Int} {lk:List S133} {de hs ow:List Int} (h1:lk.length≤1048576) (h2:de.length≤1048576) (h4:ow.length≤1048576):(nwX nd lk de hs ow).Ok:=by
 obtain ⟨p1,p2⟩ :=prA_ok nd lk hs [] ⟨by simp,by simp⟩
 unfold nwX nwV
 split
 ·exact ⟨h1,h2,by simp,⟨by show (prA nd lk hs []).length≤1048576;omega,fun p hp=>Nat.le_trans (p2 p hp) (by omega)⟩,h4,by simp,by simp⟩
 ·exact ⟨by simp,by simp,by simp,⟨by simp,by simp⟩,by simp,by simp,by simp⟩
theorem spec_NewWorld_c (nd:Int) (An:Option Addr) (cn:Nat) (lk:List S133) (A1:Option Addr) (c1:Nat) (de:List Int) (A2:Option Addr) (c2:Nat) (hs:List Int) (A3:Option Addr) (c3:Nat) (ow:List Int) (w:World) (hrn:Kd.C k133 w An lk.length lk) (hcn:lk.length≤cn)
  (hr1:Kd.C (Kd.int .i64) w A1 de.length de) (hc1:de.length≤c1) (hr2:Kd.C (Kd.int .i64) w A2 hs.length hs) (hc2:hs.length≤c2) (hr3:Kd.C (Kd.int .i64) w A3 ow.length ow) (hc3:ow.length≤c3) (o1:lk.length≤1048576) (o2:de.length≤1048576) (o3:hs.length≤1048576) (o4:ow.length≤1048576) :
  Calls Try.prog 52 #[.agg #[.int .i64 nd,.slice An lk.length cn],.slice A1 de.length c1,.slice A2 hs.length c2,.slice A3 ow.length c3] w fun e w'=>∃ p:IP,e=.returned (.tuple #[.agg ((nwX nd lk de hs ow).cells p),.bool (nwB nd lk de hs ow)]) ∧(nwX nd lk de hs ow).Md p w' w.heap.size (fun k=>w.heap.size≤k∧k < w'.heap.size) ∧Below w.heap.size w w':=by
 obtain ⟨k,hk⟩ :=(spec_NewWorld_ev nd lk de hs ow o1 o2 o3 o4).rounds
 obtain ⟨X,hX⟩:∃ X,X=nwX nd lk de hs ow:=⟨_,rfl⟩
 obtain ⟨B,hB⟩:∃ B,B=nwB nd lk de hs ow:=⟨_,rfl⟩
 have hk2:spec_NewWorld.f k nd lk de hs ow=some (X.d0,X.l1,X.l2,X.l3,X.l4,X.l5,X.l6,X.d7,X.d8,X.d9,X.d10,X.l11,X.d12,B) :=by rw [hX,hB];exact hk
 rw [← hX,← hB]
 refine (spec_NewWorld.calls k nd An cn lk A1 c1 de A2 c2 hs A3 c3 ow _ _ _ _ _ _ _ _ _ _ _ _ _ _ w hrn hcn hr1 hc1 hr2 hc2 hr3 hc3 hk2).mono ?_
 rintro e w' ⟨v1,v2,v3,v4,v5,v6,v11,rfl,h1,h2,h3,h4,h5,h6,h11,hb⟩
 obtain ⟨p,rfl,rfl,rfl,rfl,rfl,rfl,rfl,hm⟩ :=md_mk h1 h2 h3 h4 h5 h6 h11
 exact ⟨p,rfl,hm,hb⟩
theorem impl_NewWorld_c (nd:Int) (An:Option Addr) (cn:Nat) (lk:List S133) (A1:Option Addr) (c1:Nat) (de:List Int) (A2:Option Addr) (c2:Nat) (hs:List Int) (A3:Option Addr) (c3:Nat) (ow:List Int) (w:World) (hrn:Kd.C k133 w An lk.length lk) (hcn:lk.length≤cn)
  (hr1:Kd.C (Kd.int .i64) w A1 de.length de) (hc1:de.length≤c1) (hr2:Kd.C (Kd.int .i64) w A2 hs.length hs) (hc2:hs.length≤c2) (hr3:Kd.C (Kd.int .i64) w A3 ow.length ow) (hc3:ow.length≤c3) (o1:lk.length≤1048576) (o2:de.length≤1048576) (o3:hs.length≤1048576) (o4:ow.length≤1048576) :
  Calls Try.prog 54 #[.agg #[.int .i64 nd,.slice An lk.length cn],.slice A1 de.length c1,.slice A2 hs.length c2,.slice A3 ow.length c3] w fun e w'=>∃ p:IP,e=.returned (.tuple #[.agg ((nwX nd lk de hs ow).cells p),.bool (nwB nd lk de hs ow)]) ∧(nwX nd lk de hs ow).Md p w' w.heap.size (fun k=>w.heap.size≤k∧k < w'.heap.size) ∧Below w.heap.size w w':=by
 obtain ⟨k,hk⟩ :=(impl_NewWorld_ev nd lk de hs ow o1 o2 o3 o4).rounds
 obtain ⟨X,hX⟩:∃ X,X=nwX nd lk de hs ow:=⟨_,rfl⟩
 obtain ⟨B,hB⟩:∃ B,B=nwB nd lk de hs ow:=⟨_,rfl⟩
 have hk2:impl_NewWorld.f k nd lk de hs ow=some (X.d0,X.l1,X.l2,X.l3,X.l4,X.l5,X.l6,X.d7,X.d8,X.d9,X.d10,X.l11,X.d12,B) :=by rw [hX,hB];exact hk
 rw [← hX,← hB]
 refine (impl_NewWorld.calls k nd An cn lk A1 c1 de A2 c2 hs A3 c3 ow _ _ _ _ _ _ _ _ _ _ _ _ _ _ w hrn hcn hr1 hc1 hr2 hc2 hr3 hc3 hk2).mono ?_
 rintro e w' ⟨v1,v2,v3,v4,v5,v6,v11,rfl,h1,h2,h3,h4,h5,h6,h11,hb⟩
 obtain ⟨p,rfl,rfl,rfl,rfl,rfl,rfl,rfl,hm⟩ :=md_mk h1 h2 h3 h4 h5 h6 h11
 exact ⟨p,rfl,hm,hb⟩
theorem mkW_cells (a:Int) (x:IW) (p:IP):(mkW a x).cells p=x.cells p:=by
 simp only [IW.cells,mkW,mkL_length,mkI_length,mkPP_length,mkS_length]
theorem heldWorld_ev (x:IW) (hx:x.Ok) (a:Int) (h0:0≤a) (h1:a≤1048576):Ev (fun k=>laws_heldWorld.f k (mkW a x).d0 (mkW a x).l1 (mkW a x).l2 (mkW a x).l3 (mkW a x).l4 (mkW a x).l5 (mkW a x).l6 (mkW a x).d7 (mkW a x).d8 (mkW a x).d9 (mkW a x).d10 (mkW a x).l11 (mkW a x).d12 a) (cntW a x) :=by
 obtain ⟨o1,o2,o3,⟨o4,o4p⟩,o5,o6,o11⟩ :=hx
 have ht:=totP_le x.l4 o4p
 unfold laws_heldWorld.f
 refine Ev.bind (heldNet_ev x.l1.length a _ o1 h0 (by omega)) (evNeg (by omega) ?_)
 refine Ev.bind (heldIntS_ev2 x.l2.length _ o2 (by omega) (by omega)) (evNeg (by omega) ?_)
 refine Ev.bind (heldIntS_ev2 x.l3.length _ o3 (by omega) (by omega)) (evNeg (by omega) ?_)
 refine Ev.bind (heldProbeS_ev x.l4 _ o4 o4p (by omega) (by omega)) (evNeg (by omega) ?_)
 refine Ev.bind (heldIntS_ev2 x.l5.length _ o5 (by omega) (by omega)) (evNeg (by omega) ?_)
 refine Ev.bind (heldIntS_ev2 x.l6.length _ o6 (by omega) (by omega)) (evNeg (by omega) ?_)
 refine Ev.bind (heldSeenS_ev2 x.l11.length _ o11 (by omega) (by omega)) (evNeg (by omega) ?_)
 exact evEq (by simp only [cntW]) (Ev.now _)
theorem heldWorld_c (x:IW) (p:IP) (hx:x.Ok) (a:Int) (h0:0≤a) (h1:a≤1048576) (w:World) (hr:(mkW a x).Rd p w) :
  Calls Try.prog 57 #[.agg (x.cells p),.int .i64 a] w fun e w'=>e=.returned (.int .i64 (cntW a x)) ∧Below w.heap.size w w':=by
 obtain ⟨k,hk⟩ :=(heldWorld_ev x hx a h0 h1).rounds
 have hc:0≤cntW a x:=by unfold cntW;omega
 rw [← mkW_cells a x p]
 exact laws_heldWorld.calls k _ _ _ _ _ _ _ _ _ _ _ _ _ _ _ _ _ _ _ _ _ _ _ _ _ _ _ a _ w hr.r1 hr.h1 hr.r2 hr.h2 hr.r3 hr.h3 hr.r4 hr.h4 hr.r5 hr.h5 hr.r6 hr.h6 hr.r11 hr.h11 hk ⟨hc⟩
set_option maxHeartbeats 8000000 in
set_option maxRecDepth 100000 in
theorem FnExactNewWorld_calls (a0_0:Int) (A0_1:Option Addr) (c0_1:Nat) (l0_1:(List S159)) (A1:Option Addr) (c1:Nat) (l1:List Int) (A2:Option Addr) (c2:Nat) (l2:List Int) (A3:Option Addr) (c3:Nat) (l3:List Int) (w:World) (hr0_1:Kd.C k159 w A0_1 l0_1.length l0_1) (hc0_1:l0_1.length≤c0_1) (hr1:Kd.C (Kd.int .i64) w A1 l1.length l1) (hc1:l1.length≤c1) (hr2:Kd.C (Kd.int .i64) w A2 l2.length l2) (hc2:l2.length≤c2) (hr3:Kd.C (Kd.int .i64) w A3 l3.length l3) (hc3:l3.length≤c3) (g0_0:(Lit.int .i64 a0_0).wf=true) (g0_1:(l0_1.length≤9223372036854775807∧∀ y0_∈l0_1,Wf159 y0_)) (g1:l1.length≤9223372036854775807∧∀ y_∈l1,(Lit.int .i64 y_).wf=true) (g2:l2.length≤9223372036854775807∧∀ y_∈l2,(Lit.int .i64 y_).wf=true) (g3:l3.length≤9223372036854775807∧∀ y_∈l3,(Lit.int .i64 y_).wf=true) :
  Calls Try.prog 10 #[.agg #[.int .i64 a0_0,.slice A0_1 l0_1.length c0_1],.slice A1 l1.length c1,.slice A2 l2.length c2,.slice A3 l3.length c3] w fun e w'=>e=.returned (.bool true) ∧Below w.heap.size w w':=by
 have hun:=Try.underlying24
 have hu:=Try.underlying42
 have huk:=Try.underlying37
 by_cases b1:l1.length > 1048576
 ·have b1':decide (l1.length > 1048576)=true:=decide_eq_true b1
  go_enter Try.func10,Try.ntmps10
  go_wp2
  go_ret
  exact ⟨rfl,bW⟩
 have ok1:l1.length≤1048576:=by omega
 by_cases b2:l2.length > 1048576
 ·have b2':decide (l2.length > 1048576)=true:=decide_eq_true b2
  go_enter Try.func10,Try.ntmps10
  go_wp2
  go_ret
  exact ⟨rfl,bW⟩
 have ok2:l2.length≤1048576:=by omega
 by_cases b3:l3.length > 1048576
 ·have b3':decide (l3.length > 1048576)=true:=decide_eq_true b3
  go_enter Try.func10,Try.ntmps10
  go_wp2
  go_ret
  exact ⟨rfl,bW⟩
 have ok3:l3.length≤1048576:=by omega
 have HR0:=Aside0.mk hr0_1;have HR1:=Aside0.mk hr1;have HR2:=Aside0.mk hr2;have HR3:=Aside0.mk hr3;clear hr0_1 hr1 hr2 hr3
 by_cases b0:leftL l0_1 1048576 < 0
 ·have b0':decide (leftL l0_1 1048576 < 0)=true:=decide_eq_true b0
  go_enter Try.func10,Try.ntmps10
  go_wp2_with fail
  refine calls_gen (fun W'=>Below w.heap.size w W') bW ?_
  rintro W0 hbw0
  go_at_call 51;(refine (laws_szNet.calls a0_0 A0_1 c0_1 l0_1 1048576 (leftL l0_1 1048576) W0 (Kd.C_below HR0.out hbw0) hc0_1 (szNet_eq a0_0 l0_1 1048576 (by omega) (by omega) g0_1.1)).mono ?_);rintro e W1 ⟨rfl,hb⟩
  go_wp2
  go_ret
  exact ⟨rfl,below_step (below_step hbw0 hb) bW⟩
 have b0':decide (leftL l0_1 1048576 < 0)=false:=decide_eq_false b0
 have ok0:l0_1.length≤1048576:=by unfold leftL at b0;split at b0 <;> omega
 obtain ⟨xl,hxl⟩:∃ z,z=l0_1.map cvLink:=⟨_,rfl⟩
 have OL:=Aside0.mk (show xl.length≤1048576 from by rw [hxl,List.length_map];exact ok0)
 obtain ⟨kn,hk⟩ :=(show Ev (fun k=>laws_toNet.f k a0_0 l0_1) (a0_0,xl) from by rw [hxl];unfold laws_toNet.f;exact Ev.bind (toLinkS_ev l0_1 ok0) (Ev.now _)).rounds;have KN:=Aside0.mk hk;clear hk hxl
 obtain ⟨kt1,hk⟩ :=(toIntS_ev l1 ok1).rounds;have KT1:=Aside0.mk hk;clear hk
 obtain ⟨ke1,hk⟩ :=(eqIntS_ev l1 ok1).rounds;have KE1:=Aside0.mk hk;clear hk
 obtain ⟨km1,hk⟩ :=(markIntS_ev2 l1 (1 + 2 * (xl.length:Int)) ok1 (by omega) (by have:=OL.out;omega)).rounds;have KM1:=Aside0.mk hk;clear hk
 obtain ⟨kt2,hk⟩ :=(toIntS_ev l2 ok2).rounds;have KT2:=Aside0.mk hk;clear hk
 obtain ⟨ke2,hk⟩ :=(eqIntS_ev l2 ok2).rounds;have KE2:=Aside0.mk hk;clear hk
 obtain ⟨km2,hk⟩ :=(markIntS_ev2 l2 (1 + 2 * (xl.length:Int) + (l1.length:Int)) ok2 (by omega) (by have:=OL.out;omega)).rounds;have KM2:=Aside0.mk hk;clear hk
 obtain ⟨kt3,hk⟩ :=(toIntS_ev l3 ok3).rounds;have KT3:=Aside0.mk hk;clear hk
 obtain ⟨ke3,hk⟩ :=(eqIntS_ev l3 ok3).rounds;have KE3:=Aside0.mk hk;clear hk
 obtain ⟨km3,hk⟩ :=(markIntS_ev2 l3 (1 + 2 * (xl.length:Int) + (l1.length:Int) + (l2.length:Int)) ok3 (by omega) (by have:=OL.out;omega)).rounds;have KM3:=Aside0.mk hk;clear hk
 obtain ⟨ken,hk⟩ :=(eqNet_ev a0_0 xl OL.out).rounds;have KEN:=Aside0.mk hk;clear hk
 obtain ⟨kmn,hk⟩ :=(markNet_ev a0_0 xl 1 OL.out (by omega) (by omega)).rounds;have KMN:=Aside0.mk hk;clear hk
 obtain ⟨x,hx⟩:∃ z,z=nwX a0_0 xl l1 l2 l3:=⟨_,rfl⟩
 have OKX:=Aside0.mk (show x.Ok from by rw [hx];exact nwX_ok OL.out ok1 ok3)
 have HXE:=Aside0.mk hx;clear hx
 obtain ⟨bo,hbo⟩:∃ z,z=nwB a0_0 xl l1 l2 l3:=⟨_,rfl⟩
 have HBE:=Aside0.mk hbo;clear hbo
 obtain ⟨ct,hct⟩:∃ z,z=cntW 1 x:=⟨_,rfl⟩
 have hct0:decide (ct < 0)=false:=decide_eq_false (by rw [hct];unfold cntW;omega)
 have HCE:=Aside0.mk hct;clear hct
 have hmk0:decide (1 + 2 * (xl.length:Int) + (l1.length:Int) + (l2.length:Int) + (l3.length:Int) < 0)=false:=decide_eq_false (by omega)
 have hbb:(bo != bo)=false:=by cases bo <;> rfl
 go_enter Try.func10,Try.ntmps10
 have HBW0:=Aside0.mk (Below.refl w.heap.size w)
 go_wp2_with fail
 refine calls_gen (fun W'=>Below w.heap.size w W'∧W'.heap[w.heap.size]?=some (.cells #[.int .i64 a0_0,.slice A0_1 (l0_1).length c0_1] 24 (0,0))) ⟨bV,bN⟩ ?_
 rintro W1 ⟨hbw,hbn⟩
 go_at_call 51;(refine (laws_szNet.calls a0_0 A0_1 c0_1 (l0_1) 1048576 (leftL l0_1 1048576) W1 (Kd.C_below HR0.out (below_step HBW0.out hbw)) hc0_1 (szNet_eq a0_0 l0_1 1048576 (by omega) (by omega) g0_1.1)).mono ?_);rintro e w2 ⟨rfl,hb⟩
 have hs:=below_step hbw hb
 have HB:=sB HBW0 hs;clear HBW0
 have BX3:=Aside0.mk (blk_below hbn hb);clear hbn
 have HS:=Aside0.mk (hs.size:w.heap.size≤w2.heap.size)
 replace HS:=Aside0.mk (And.intro HS.out (blk_lt BX3.out))
 clear hb hs hbw 
 have z4:=(blk_cell BX3.out 0).trans rfl
 have z5:=(blk_cell BX3.out 1).trans rfl
 go_wp2_with fail
 refine calls_gen (fun W'=>Below w2.heap.size w2 W') bV ?_
 rintro W6 hbw
 clear z4 z5
 go_at_call 53;(refine (laws_toNet.calls kn a0_0 A0_1 c0_1 (l0_1) a0_0 xl W6 (Kd.C_below HR0.out (below_step HB.out hbw)) hc0_1 KN.out).mono ?_);rintro e w7 ⟨v8,rfl,ho,hb⟩
 replace HS:=Aside0.mk (And.intro HS.out (And.intro (hbw.size:w2.heap.size≤W6.heap.size) (hb.size:W6.heap.size≤w7.heap.size)))
 have HO9:=Aside0.mk (Kd.R_mono (ok':=fun k=>W6.heap.size≤k∧k < w7.heap.size) (R_ivn (Nat.le_trans HB.out.size hbw.size) ho) (fun k h=>h));clear ho
 have hs:=below_step hbw hb
 replace HB:=sB HB hs
 replace BX3:=xB BX3 hs
 replace HS:=Aside0.mk (And.intro HS.out (hs.size:w2.heap.size≤w7.heap.size))
 obtain ⟨A10,c11,rfl⟩ :=Kd.R_slice HO9.out
 clear hb hs hbw 
 go_wp2_with fail
 refine calls_gen (fun W'=>Below w7.heap.size w7 W') bV ?_
 rintro W12 hbw
 go_at_call 29;(refine (laws_toIntS.calls kt1 A1 c1 (l1) (l1) W12 (Kd.C_below HR1.out (below_step HB.out hbw)) hc1 KT1.out).mono ?_);rintro e w13 ⟨v14,rfl,ho,hb⟩
 replace HS:=Aside0.mk (And.intro HS.out (And.intro (hbw.size:w7.heap.size≤W12.heap.size) (hb.size:W12.heap.size≤w13.heap.size)))
 have HO15:=Aside0.mk (Kd.R_mono (ok':=fun k=>W12.heap.size≤k∧k < w13.heap.size) (R_ivn (Nat.le_trans HB.out.size hbw.size) ho) (fun k h=>h));clear ho
 have hs:=below_step hbw hb
 replace HB:=sB HB hs
 replace HO9:=rB HO9 hs
 replace BX3:=xB BX3 hs
 replace HS:=Aside0.mk (And.intro HS.out (hs.size:w7.heap.size≤w13.heap.size))
 obtain ⟨A16,c17,rfl⟩ :=Kd.R_slice HO15.out
 clear hb hs hbw 
 go_wp2_with fail
 refine calls_gen (fun W'=>Below w13.heap.size w13 W') bV ?_
 rintro W18 hbw
 go_at_call 29;(refine (laws_toIntS.calls kt2 A2 c2 (l2) (l2) W18 (Kd.C_below HR2.out (below_step HB.out hbw)) hc2 KT2.out).mono ?_);rintro e w19 ⟨v20,rfl,ho,hb⟩
 replace HS:=Aside0.mk (And.intro HS.out (And.intro (hbw.size:w13.heap.size≤W18.heap.size) (hb.size:W18.heap.size≤w19.heap.size)))
 have HO21:=Aside0.mk (Kd.R_mono (ok':=fun k=>W18.heap.size≤k∧k < w19.heap.size) (R_ivn (Nat.le_trans HB.out.size hbw.size) ho) (fun k h=>h));clear ho
 have hs:=below_step hbw hb
 replace HB:=sB HB hs
 replace HO9:=rB HO9 hs
 replace HO15:=rB HO15 hs
 replace BX3:=xB BX3 hs
 replace HS:=Aside0.mk (And.intro HS.out (hs.size:w13.heap.size≤w19.heap.size))
 obtain ⟨A22,c23,rfl⟩ :=Kd.R_slice HO21.out
 clear hb hs hbw 
 go_wp2_with fail
 refine calls_gen (fun W'=>Below w19.heap.size w19 W') bV ?_
 rintro W24 hbw
 go_at_call 29;(refine (laws_toIntS.calls kt3 A3 c3 (l3) (l3) W24 (Kd.C_below HR3.out (below_step HB.out hbw)) hc3 KT3.out).mono ?_);rintro e w25 ⟨v26,rfl,ho,hb⟩
 replace HS:=Aside0.mk (And.intro HS.out (And.intro (hbw.size:w19.heap.size≤W24.heap.size) (hb.size:W24.heap.size≤w25.heap.size)))
 have HO27:=Aside0.mk (Kd.R_mono (ok':=fun k=>W24.heap.size≤k∧k < w25.heap.size) (R_ivn (Nat.le_trans HB.out.size hbw.size) ho) (fun k h=>h));clear ho
 have hs:=below_step hbw hb
 replace HB:=sB HB hs
 replace HO9:=rB HO9 hs
 replace HO15:=rB HO15 hs
 replace HO21:=rB HO21 hs
 replace BX3:=xB BX3 hs
 replace HS:=Aside0.mk (And.intro HS.out (hs.size:w19.heap.size≤w25.heap.size))
 obtain ⟨A28,c29,rfl⟩ :=Kd.R_slice HO27.out
 clear hb hs hbw 
 go_wp2_with fail
 refine calls_gen (fun W'=>Below w25.heap.size w25 W') bV ?_
 rintro W30 hbw
 have h32:=Kd.R_reads' (Kd.R_below HO9.out hbw)
 have h33:=Kd.R_reads' (Kd.R_below HO15.out hbw)
 have h34:=Kd.R_reads' (Kd.R_below HO21.out hbw)
 have h35:=Kd.R_reads' (Kd.R_below HO27.out hbw)
 go_at_call 52;(refine (spec_NewWorld_c a0_0 A10 c11 (xl) A16 c17 (l1) A22 c23 (l2) A28 c29 (l3) W30 h32.2.2 h32.2.1 h33.2.2 h33.2.1 h34.2.2 h34.2.1 h35.2.2 h35.2.1 OL.out ok1 ok2 ok3).mono ?_);rintro e w31 ⟨p36,rfl,hm,hb⟩
 rw [← HXE.out] at hm ⊢;rw [← HBE.out]
 replace HS:=Aside0.mk (And.intro HS.out (And.intro (hbw.size:w25.heap.size≤W30.heap.size) (hb.size:W30.heap.size≤w31.heap.size)))
 have HO37:=Aside0.mk ((hm.lower (Nat.le_trans HB.out.size hbw.size)).mono (ok':=fun k=>W30.heap.size≤k∧k < w31.heap.size) (fun k h=>h));clear hm
 have hs:=below_step hbw hb
 replace HB:=sB HB hs
 replace HO9:=rB HO9 hs
 replace HO15:=rB HO15 hs
 replace HO21:=rB HO21 hs
 replace HO27:=rB HO27 hs
 replace BX3:=xB BX3 hs
 replace HS:=Aside0.mk (And.intro HS.out (hs.size:w25.heap.size≤w31.heap.size))
 clear hb hs hbw h32 h33 h34 h35
 go_upto_region 12 with fail
 generalize hWX:w31.alloc (.cells (x.cells p36) 42)=w38
 have hbw:Below w31.heap.size w31 w38:=by rw [← hWX];exact (by repeat (first|(with_reducible first|exact Below.refl _ _|apply below_alloc|apply pw_below_drewN|apply below_drew1)|exact Below.refl _ _))
 have hbn:w38.heap[w31.heap.size]?=some (.cells (x.cells p36) 42 (0,0)) :=by rw [← hWX];exact blk_new _ _
 clear hWX 
 have hs:=hbw
 replace HB:=sB HB hs
 replace HO9:=rB HO9 hs
 replace HO15:=rB HO15 hs
 replace HO21:=rB HO21 hs
 replace HO27:=rB HO27 hs
 replace HO37:=mB HO37 hs
 replace BX3:=xB BX3 hs
 have BX39:=Aside0.mk (hbn);clear hbn
 replace HS:=Aside0.mk (And.intro HS.out (hs.size:w31.heap.size≤w38.heap.size))
 replace HS:=Aside0.mk (And.intro HS.out (blk_lt BX39.out))
 clear hs hbw
 have z40:=(blk_cell BX3.out 0).trans rfl
 have z41:=(blk_cell BX3.out 1).trans rfl
 go_wp2_with fail
 refine calls_gen (fun W'=>Below w38.heap.size w38 W') bV ?_
 rintro W42 hbw
 clear z40 z41
 go_at_call 53;(refine (laws_toNet.calls kn a0_0 A0_1 c0_1 (l0_1) a0_0 xl W42 (Kd.C_below HR0.out (below_step HB.out hbw)) hc0_1 KN.out).mono ?_);rintro e w43 ⟨v44,rfl,ho,hb⟩
 replace HS:=Aside0.mk (And.intro HS.out (And.intro (hbw.size:w38.heap.size≤W42.heap.size) (hb.size:W42.heap.size≤w43.heap.size)))
 have HO45:=Aside0.mk (Kd.R_mono (ok':=fun k=>W42.heap.size≤k∧k < w43.heap.size) (R_ivn (Nat.le_trans HB.out.size hbw.size) ho) (fun k h=>h));clear ho
 have hs:=below_step hbw hb
 replace HB:=sB HB hs
 replace HO9:=rB HO9 hs
 replace HO15:=rB HO15 hs
 replace HO21:=rB HO21 hs
 replace HO27:=rB HO27 hs
 replace HO37:=mB HO37 hs
 replace BX3:=xB BX3 hs
 replace BX39:=xB BX39 hs
 replace HS:=Aside0.mk (And.intro HS.out (hs.size:w38.heap.size≤w43.heap.size))
 obtain ⟨A46,c47,rfl⟩ :=Kd.R_slice HO45.out
 clear hb hs hbw 
 go_wp2_with fail
 refine calls_gen (fun W'=>Below w43.heap.size w43 W'∧W'.heap[w43.heap.size]?=some (.cells #[.int .i64 a0_0,.slice A46 (xl).length c47] 37 (0,0))) ⟨bV,bN⟩ ?_
 rintro W48 ⟨hbw,hbn⟩
 go_at_call 29;(refine (laws_toIntS.calls kt1 A1 c1 (l1) (l1) W48 (Kd.C_below HR1.out (below_step HB.out hbw)) hc1 KT1.out).mono ?_);rintro e w49 ⟨v50,rfl,ho,hb⟩
 replace HS:=Aside0.mk (And.intro HS.out (And.intro (hbw.size:w43.heap.size≤W48.heap.size) (hb.size:W48.heap.size≤w49.heap.size)))
 replace HS:=Aside0.mk (And.intro HS.out (blk_lt hbn))
 have HO51:=Aside0.mk (Kd.R_mono (ok':=fun k=>W48.heap.size≤k∧k < w49.heap.size) (R_ivn (Nat.le_trans HB.out.size hbw.size) ho) (fun k h=>h));clear ho
 have hs:=below_step hbw hb
 replace HB:=sB HB hs
 replace HO9:=rB HO9 hs
 replace HO15:=rB HO15 hs
 replace HO21:=rB HO21 hs
 replace HO27:=rB HO27 hs
 replace HO37:=mB HO37 hs
 replace HO45:=rB HO45 hs
 replace BX3:=xB BX3 hs
 replace BX39:=xB BX39 hs
 have BX52:=Aside0.mk (blk_below hbn hb);clear hbn
 replace HS:=Aside0.mk (And.intro HS.out (hs.size:w43.heap.size≤w49.heap.size))
 replace HS:=Aside0.mk (And.intro HS.out (blk_lt BX52.out))
 obtain ⟨A53,c54,rfl⟩ :=Kd.R_slice HO51.out
 clear hb hs hbw 
 go_wp2_with fail
 refine calls_gen (fun W'=>Below w49.heap.size w49 W') bV ?_
 rintro W55 hbw
 go_at_call 29;(refine (laws_toIntS.calls kt2 A2 c2 (l2) (l2) W55 (Kd.C_below HR2.out (below_step HB.out hbw)) hc2 KT2.out).mono ?_);rintro e w56 ⟨v57,rfl,ho,hb⟩
 replace HS:=Aside0.mk (And.intro HS.out (And.intro (hbw.size:w49.heap.size≤W55.heap.size) (hb.size:W55.heap.size≤w56.heap.size)))
 have HO58:=Aside0.mk (Kd.R_mono (ok':=fun k=>W55.heap.size≤k∧k < w56.heap.size) (R_ivn (Nat.le_trans HB.out.size hbw.size) ho) (fun k h=>h));clear ho
 have hs:=below_step hbw hb
 replace HB:=sB HB hs
 replace HO9:=rB HO9 hs
 replace HO15:=rB HO15 hs
 replace HO21:=rB HO21 hs
 replace HO27:=rB HO27 hs
 replace HO37:=mB HO37 hs
 replace HO45:=rB HO45 hs
 replace HO51:=rB HO51 hs
 replace BX3:=xB BX3 hs
 replace BX39:=xB BX39 hs
 replace BX52:=xB BX52 hs
 replace HS:=Aside0.mk (And.intro HS.out (hs.size:w49.heap.size≤w56.heap.size))
 obtain ⟨A59,c60,rfl⟩ :=Kd.R_slice HO58.out
 clear hb hs hbw 
 go_wp2_with fail
 refine calls_gen (fun W'=>Below w56.heap.size w56 W') bV ?_
 rintro W61 hbw
 go_at_call 29;(refine (laws_toIntS.calls kt3 A3 c3 (l3) (l3) W61 (Kd.C_below HR3.out (below_step HB.out hbw)) hc3 KT3.out).mono ?_);rintro e w62 ⟨v63,rfl,ho,hb⟩
 replace HS:=Aside0.mk (And.intro HS.out (And.intro (hbw.size:w56.heap.size≤W61.heap.size) (hb.size:W61.heap.size≤w62.heap.size)))
 have HO64:=Aside0.mk (Kd.R_mono (ok':=fun k=>W61.heap.size≤k∧k < w62.heap.size) (R_ivn (Nat.le_trans HB.out.size hbw.size) ho) (fun k h=>h));clear ho
 have hs:=below_step hbw hb
 replace HB:=sB HB hs
 replace HO9:=rB HO9 hs
 replace HO15:=rB HO15 hs
 replace HO21:=rB HO21 hs
 replace HO27:=rB HO27 hs
 replace HO37:=mB HO37 hs
 replace HO45:=rB HO45 hs
 replace HO51:=rB HO51 hs
 replace HO58:=rB HO58 hs
 replace BX3:=xB BX3 hs
 replace BX39:=xB BX39 hs
 replace BX52:=xB BX52 hs
 replace HS:=Aside0.mk (And.intro HS.out (hs.size:w56.heap.size≤w62.heap.size))
 obtain ⟨A65,c66,rfl⟩ :=Kd.R_slice HO64.out
 clear hb hs hbw 
 have z67:=(blk_cell BX52.out 0).trans rfl
 have z68:=(blk_cell BX52.out 1).trans rfl
 go_wp2_with fail
 refine calls_gen (fun W'=>Below w62.heap.size w62 W') bV ?_
 rintro W69 hbw
 clear z67 z68
 have h71:=Kd.R_reads' (Kd.R_below HO45.out hbw)
 have h72:=Kd.R_reads' (Kd.R_below HO51.out hbw)
 have h73:=Kd.R_reads' (Kd.R_below HO58.out hbw)
 have h74:=Kd.R_reads' (Kd.R_below HO64.out hbw)
 go_at_call 54;(refine (impl_NewWorld_c a0_0 A46 c47 (xl) A53 c54 (l1) A59 c60 (l2) A65 c66 (l3) W69 h71.2.2 h71.2.1 h72.2.2 h72.2.1 h73.2.2 h73.2.1 h74.2.2 h74.2.1 OL.out ok1 ok2 ok3).mono ?_);rintro e w70 ⟨p75,rfl,hm,hb⟩
 rw [← HXE.out] at hm ⊢;rw [← HBE.out]
 replace HS:=Aside0.mk (And.intro HS.out (And.intro (hbw.size:w62.heap.size≤W69.heap.size) (hb.size:W69.heap.size≤w70.heap.size)))
 have HO76:=Aside0.mk ((hm.lower (Nat.le_trans HB.out.size hbw.size)).mono (ok':=fun k=>W69.heap.size≤k∧k < w70.heap.size) (fun k h=>h));clear hm
 have hs:=below_step hbw hb
 replace HB:=sB HB hs
 replace HO9:=rB HO9 hs
 replace HO15:=rB HO15 hs
 replace HO21:=rB HO21 hs
 replace HO27:=rB HO27 hs
 replace HO37:=mB HO37 hs
 replace HO45:=rB HO45 hs
 replace HO51:=rB HO51 hs
 replace HO58:=rB HO58 hs
 replace HO64:=rB HO64 hs
 replace BX3:=xB BX3 hs
 replace BX39:=xB BX39 hs
 replace BX52:=xB BX52 hs
 replace HS:=Aside0.mk (And.intro HS.out (hs.size:w62.heap.size≤w70.heap.size))
 clear hb hs hbw h71 h72 h73 h74
 go_upto_region 17 with fail
 generalize hWX:w70.alloc (.cells (x.cells p75) 42)=w77
 have hbw:Below w70.heap.size w70 w77:=by rw [← hWX];exact (by repeat (first|(with_reducible first|exact Below.refl _ _|apply below_alloc|apply pw_below_drewN|apply below_drew1)|exact Below.refl _ _))
 have hbn:w77.heap[w70.heap.size]?=some (.cells (x.cells p75) 42 (0,0)) :=by rw [← hWX];exact blk_new _ _
 clear hWX 
 have hs:=hbw
 replace HB:=sB HB hs
 replace HO9:=rB HO9 hs
 replace HO15:=rB HO15 hs
 replace HO21:=rB HO21 hs
 replace HO27:=rB HO27 hs
 replace HO37:=mB HO37 hs
 replace HO45:=rB HO45 hs
 replace HO51:=rB HO51 hs
 replace HO58:=rB HO58 hs
 replace HO64:=rB HO64 hs
 replace HO76:=mB HO76 hs
 replace BX3:=xB BX3 hs
 replace BX39:=xB BX39 hs
 replace BX52:=xB BX52 hs
 have BX78:=Aside0.mk (hbn);clear hbn
 replace HS:=Aside0.mk (And.intro HS.out (hs.size:w70.heap.size≤w77.heap.size))
 replace HS:=Aside0.mk (And.intro HS.out (blk_lt BX78.out))
 clear hs hbw
 obtain ⟨z79,z80,z81,z82,z83,z84,z85,z86,z87,z88,z89,z90,z91⟩ :=IW.at_ BX39.out
 obtain ⟨z92,z93,z94,z95,z96,z97,z98,z99,z100,z101,z102,z103,z104⟩ :=IW.at_ BX78.out
 go_wp2_with fail
 refine calls_gen (fun W'=>Below w77.heap.size w77 W') bV ?_
 rintro W105 hbw
 clear z79 z80 z81 z82 z83 z84 z85 z86 z87 z88 z89 z90 z91 z92 z93 z94 z95 z96 z97 z98 z99 z100 z101 z102 z103 z104
 have hr1:=(HO76.out.rd).below hbw;have hr2:=(HO37.out.rd).below hbw
 go_at_call 17;(refine (eqWorld_c x p75 p36 W105 hr1 hr2 OKX.out).mono ?_);rintro e w106 ⟨rfl,hb⟩
 have hs:=below_step hbw hb
 replace HB:=sB HB hs
 replace HO9:=rB HO9 hs
 replace HO15:=rB HO15 hs
 replace HO21:=rB HO21 hs
 replace HO27:=rB HO27 hs
 replace HO37:=mB HO37 hs
 replace HO45:=rB HO45 hs
 replace HO51:=rB HO51 hs
 replace HO58:=rB HO58 hs
 replace HO64:=rB HO64 hs
 replace HO76:=mB HO76 hs
 replace BX3:=xB BX3 hs
 replace BX39:=xB BX39 hs
 replace BX52:=xB BX52 hs
 replace BX78:=xB BX78 hs
 replace HS:=Aside0.mk (And.intro HS.out (hs.size:w77.heap.size≤w106.heap.size))
 clear hr1 hr2 hb hs hbw
 go_upto_region 19 with fail
 (try simp only [Act.put,List.setIfInBounds_toArray,List.set_cons_zero,List.set_cons_succ])
 go_cut [78] (fun v78 wc107=>v78=.bool false∧Below w106.heap.size w106 wc107)
 case first =>
  go_region_held3 (fun w'=>Below w106.heap.size w106 w'∧(w'.cell? ⟨w43.heap.size,0,none⟩=some (.int .i64 a0_0) ∧w'.cell? ⟨w43.heap.size,1,none⟩=some (.slice A46 (xl).length c47)) ∧(w'.cell? ⟨w.heap.size,0,none⟩=some (.int .i64 a0_0) ∧w'.cell? ⟨w.heap.size,1,none⟩=some (.slice A0_1 (l0_1).length c0_1))) (first|exact ⟨(below_step (below_step (w:=w106) bW hb1) (below_step bW hb2)),⟨(blk_cell (blk_below BX52.out (below_step (below_step (w:=w106) bW hb1) (below_step bW hb2))) 0).trans rfl,(blk_cell (blk_below BX52.out (below_step (below_step (w:=w106) bW hb1) (below_step bW hb2))) 1).trans rfl⟩,⟨(blk_cell (blk_below BX3.out (below_step (below_step (w:=w106) bW hb1) (below_step bW hb2))) 0).trans rfl,(blk_cell (blk_below BX3.out (below_step (below_step (w:=w106) bW hb1) (below_step bW hb2))) 1).trans rfl⟩⟩|exact ⟨(below_step (w:=w106) bW hb1),⟨(blk_cell (blk_below BX52.out (below_step (w:=w106) bW hb1)) 0).trans rfl,(blk_cell (blk_below BX52.out (below_step (w:=w106) bW hb1)) 1).trans rfl⟩,⟨(blk_cell (blk_below BX3.out (below_step (w:=w106) bW hb1)) 0).trans rfl,(blk_cell (blk_below BX3.out (below_step (w:=w106) bW hb1)) 1).trans rfl⟩⟩|exact ⟨bW,⟨(blk_cell (blk_below BX52.out bW) 0).trans rfl,(blk_cell (blk_below BX52.out bW) 1).trans rfl⟩,⟨(blk_cell (blk_below BX3.out bW) 0).trans rfl,(blk_cell (blk_below BX3.out bW) 1).trans rfl⟩⟩)
   (first|(go_at_call 53;(refine (laws_toNet.calls kn a0_0 A0_1 c0_1 (l0_1) a0_0 xl _ (Kd.C_below HR0.out (below_step HB.out bW)) hc0_1 KN.out).mono ?_);rintro e w1_ ⟨v1_,rfl,ho_,hb1⟩;obtain ⟨A_,c_,rfl⟩ :=Kd.R_slice ho_)|(go_at_call 55;(refine (laws_eqNet.calls ken a0_0 A46 c47 (xl) a0_0 A_ c_ xl true _ (Kd.R_reads' (Kd.R_below HO45.out (below_step (w:=w106) bW hb1))).2.2 (Kd.R_reads' HO45.out).2.1 (Kd.C_below (Kd.R_reads' ho_).2.2 bW) (Kd.R_reads' ho_).2.1 KEN.out ⟨rfl⟩).mono ?_);rintro e w2_ ⟨rfl,hb2⟩)|fail)
  all_goals (try go_wp2_with fail)
  all_goals go_meet
  all_goals exact ⟨rfl,below_step (below_step (below_step (w:=w106) bW hb1) (below_step bW hb2)) bW⟩
 case rest =>
  obtain ⟨rfl,hbw⟩ :=hcut
  obtain ⟨wc107,hw9⟩:∃ w9,w9=wc:=⟨_,rfl⟩
  subst hw9
  have hs:=hbw
  replace HB:=sB HB hs
  replace HO9:=rB HO9 hs
  replace HO15:=rB HO15 hs
  replace HO21:=rB HO21 hs
  replace HO27:=rB HO27 hs
  replace HO37:=mB HO37 hs
  replace HO45:=rB HO45 hs
  replace HO51:=rB HO51 hs
  replace HO58:=rB HO58 hs
  replace HO64:=rB HO64 hs
  replace HO76:=mB HO76 hs
  replace BX3:=xB BX3 hs
  replace BX39:=xB BX39 hs
  replace BX52:=xB BX52 hs
  replace BX78:=xB BX78 hs
  replace HS:=Aside0.mk (And.intro HS.out (hs.size:w106.heap.size≤wc107.heap.size))
  clear hs hbw
  go_wp2_with fail
  refine calls_gen (fun W'=>Below wc107.heap.size wc107 W') bV ?_
  rintro W108 hbw
  go_at_call 29;(refine (laws_toIntS.calls kt1 A1 c1 (l1) (l1) W108 (Kd.C_below HR1.out (below_step HB.out hbw)) hc1 KT1.out).mono ?_);rintro e w109 ⟨v110,rfl,ho,hb⟩
  replace HS:=Aside0.mk (And.intro HS.out (And.intro (hbw.size:wc107.heap.size≤W108.heap.size) (hb.size:W108.heap.size≤w109.heap.size)))
  have HO111:=Aside0.mk (Kd.R_mono (ok':=fun k=>W108.heap.size≤k∧k < w109.heap.size) (R_ivn (Nat.le_trans HB.out.size hbw.size) ho) (fun k h=>h));clear ho
  have hs:=below_step hbw hb
  replace HB:=sB HB hs
  replace HO9:=rB HO9 hs
  replace HO15:=rB HO15 hs
  replace HO21:=rB HO21 hs
  replace HO27:=rB HO27 hs
  replace HO37:=mB HO37 hs
  replace HO45:=rB HO45 hs
  replace HO51:=rB HO51 hs
  replace HO58:=rB HO58 hs
  replace HO64:=rB HO64 hs
  replace HO76:=mB HO76 hs
  replace BX3:=xB BX3 hs
  replace BX39:=xB BX39 hs
  replace BX52:=xB BX52 hs
  replace BX78:=xB BX78 hs
  replace HS:=Aside0.mk (And.intro HS.out (hs.size:wc107.heap.size≤w109.heap.size))
  obtain ⟨A112,c113,rfl⟩ :=Kd.R_slice HO111.out
  clear hb hs hbw 
  go_wp2_with fail
  refine calls_gen (fun W'=>Below w109.heap.size w109 W') bV ?_
  rintro W114 hbw
  have h116:=Kd.R_reads' (Kd.R_below HO51.out hbw)
  have h117:=Kd.R_reads' (Kd.R_below HO111.out hbw)
  go_at_call 23;(refine (laws_eqIntS.calls ke1 A53 c54 (l1) A112 c113 (l1) true W114 h116.2.2 h116.2.1 h117.2.2 h117.2.1 KE1.out ⟨rfl⟩).mono ?_);rintro e w' ⟨rfl,⟨nd,rfl⟩⟩
  have hb:Below W114.heap.size W114 (W114.drewN nd) :=bW
  generalize W114.drewN nd=w115 at hb ⊢
  have hs:=below_step hbw hb
  replace HB:=sB HB hs
  replace HO9:=rB HO9 hs
  replace HO15:=rB HO15 hs
  replace HO21:=rB HO21 hs
  replace HO27:=rB HO27 hs
  replace HO37:=mB HO37 hs
  replace HO45:=rB HO45 hs
  replace HO51:=rB HO51 hs
  replace HO58:=rB HO58 hs
  replace HO64:=rB HO64 hs
  replace HO76:=mB HO76 hs
  replace HO111:=rB HO111 hs
  replace BX3:=xB BX3 hs
  replace BX39:=xB BX39 hs
  replace BX52:=xB BX52 hs
  replace BX78:=xB BX78 hs
  replace HS:=Aside0.mk (And.intro HS.out (hs.size:w109.heap.size≤w115.heap.size))
  clear hb hs hbw h116 h117
  clear HO111
  go_wp2_with fail
  refine calls_gen (fun W'=>Below w115.heap.size w115 W') bV ?_
  rintro W118 hbw
  go_at_call 29;(refine (laws_toIntS.calls kt2 A2 c2 (l2) (l2) W118 (Kd.C_below HR2.out (below_step HB.out hbw)) hc2 KT2.out).mono ?_);rintro e w119 ⟨v120,rfl,ho,hb⟩
  replace HS:=Aside0.mk (And.intro HS.out (And.intro (hbw.size:w115.heap.size≤W118.heap.size) (hb.size:W118.heap.size≤w119.heap.size)))
  have HO121:=Aside0.mk (Kd.R_mono (ok':=fun k=>W118.heap.size≤k∧k < w119.heap.size) (R_ivn (Nat.le_trans HB.out.size hbw.size) ho) (fun k h=>h));clear ho
  have hs:=below_step hbw hb
  replace HB:=sB HB hs
  replace HO9:=rB HO9 hs
  replace HO15:=rB HO15 hs
  replace HO21:=rB HO21 hs
  replace HO27:=rB HO27 hs
  replace HO37:=mB HO37 hs
  replace HO45:=rB HO45 hs
  replace HO51:=rB HO51 hs
  replace HO58:=rB HO58 hs
  replace HO64:=rB HO64 hs
  replace HO76:=mB HO76 hs
  replace BX3:=xB BX3 hs
  replace BX39:=xB BX39 hs
  replace BX52:=xB BX52 hs
  replace BX78:=xB BX78 hs
  replace HS:=Aside0.mk (And.intro HS.out (hs.size:w115.heap.size≤w119.heap.size))
  obtain ⟨A122,c123,rfl⟩ :=Kd.R_slice HO121.out
  clear hb hs hbw 
  go_wp2_with fail
  refine calls_gen (fun W'=>Below w119.heap.size w119 W') bV ?_
  rintro W124 hbw
  have h126:=Kd.R_reads' (Kd.R_below HO58.out hbw)
  have h127:=Kd.R_reads' (Kd.R_below HO121.out hbw)
  go_at_call 23;(refine (laws_eqIntS.calls ke2 A59 c60 (l2) A122 c123 (l2) true W124 h126.2.2 h126.2.1 h127.2.2 h127.2.1 KE2.out ⟨rfl⟩).mono ?_);rintro e w' ⟨rfl,⟨nd,rfl⟩⟩
  have hb:Below W124.heap.size W124 (W124.drewN nd) :=bW
  generalize W124.drewN nd=w125 at hb ⊢
  have hs:=below_step hbw hb
  replace HB:=sB HB hs
  replace HO9:=rB HO9 hs
  replace HO15:=rB HO15 hs
  replace HO21:=rB HO21 hs
  replace HO27:=rB HO27 hs
  replace HO37:=mB HO37 hs
  replace HO45:=rB HO45 hs
  replace HO51:=rB HO51 hs
  replace HO58:=rB HO58 hs
  replace HO64:=rB HO64 hs
  replace HO76:=mB HO76 hs
  replace HO121:=rB HO121 hs
  replace BX3:=xB BX3 hs
  replace BX39:=xB BX39 hs
  replace BX52:=xB BX52 hs
  replace BX78:=xB BX78 hs
  replace HS:=Aside0.mk (And.intro HS.out (hs.size:w119.heap.size≤w125.heap.size))
  clear hb hs hbw h126 h127
  clear HO121
  go_wp2_with fail
  refine calls_gen (fun W'=>Below w125.heap.size w125 W') bV ?_
  rintro W128 hbw
  go_at_call 29;(refine (laws_toIntS.calls kt3 A3 c3 (l3) (l3) W128 (Kd.C_below HR3.out (below_step HB.out hbw)) hc3 KT3.out).mono ?_);rintro e w129 ⟨v130,rfl,ho,hb⟩
  replace HS:=Aside0.mk (And.intro HS.out (And.intro (hbw.size:w125.heap.size≤W128.heap.size) (hb.size:W128.heap.size≤w129.heap.size)))
  have HO131:=Aside0.mk (Kd.R_mono (ok':=fun k=>W128.heap.size≤k∧k < w129.heap.size) (R_ivn (Nat.le_trans HB.out.size hbw.size) ho) (fun k h=>h));clear ho
  have hs:=below_step hbw hb
  replace HB:=sB HB hs
  replace HO9:=rB HO9 hs
  replace HO15:=rB HO15 hs
  replace HO21:=rB HO21 hs
  replace HO27:=rB HO27 hs
  replace HO37:=mB HO37 hs
  replace HO45:=rB HO45 hs
  replace HO51:=rB HO51 hs
  replace HO58:=rB HO58 hs
  replace HO64:=rB HO64 hs
  replace HO76:=mB HO76 hs
  replace BX3:=xB BX3 hs
  replace BX39:=xB BX39 hs
  replace BX52:=xB BX52 hs
  replace BX78:=xB BX78 hs
  replace HS:=Aside0.mk (And.intro HS.out (hs.size:w125.heap.size≤w129.heap.size))
  obtain ⟨A132,c133,rfl⟩ :=Kd.R_slice HO131.out
  clear hb hs hbw 
  go_wp2_with fail
  refine calls_gen (fun W'=>Below w129.heap.size w129 W') bV ?_
  rintro W134 hbw
  have h136:=Kd.R_reads' (Kd.R_below HO64.out hbw)
  have h137:=Kd.R_reads' (Kd.R_below HO131.out hbw)
  go_at_call 23;(refine (laws_eqIntS.calls ke3 A65 c66 (l3) A132 c133 (l3) true W134 h136.2.2 h136.2.1 h137.2.2 h137.2.1 KE3.out ⟨rfl⟩).mono ?_);rintro e w' ⟨rfl,⟨nd,rfl⟩⟩
  have hb:Below W134.heap.size W134 (W134.drewN nd) :=bW
  generalize W134.drewN nd=w135 at hb ⊢
  have hs:=below_step hbw hb
  replace HB:=sB HB hs
  replace HO9:=rB HO9 hs
  replace HO15:=rB HO15 hs
  replace HO21:=rB HO21 hs
  replace HO27:=rB HO27 hs
  replace HO37:=mB HO37 hs
  replace HO45:=rB HO45 hs
  replace HO51:=rB HO51 hs
  replace HO58:=rB HO58 hs
  replace HO64:=rB HO64 hs
  replace HO76:=mB HO76 hs
  replace HO131:=rB HO131 hs
  replace BX3:=xB BX3 hs
  replace BX39:=xB BX39 hs
  replace BX52:=xB BX52 hs
  replace BX78:=xB BX78 hs
  replace HS:=Aside0.mk (And.intro HS.out (hs.size:w129.heap.size≤w135.heap.size))
  clear hb hs hbw h136 h137
  clear HO131
  have z138:=(blk_cell BX52.out 0).trans rfl
  have z139:=(blk_cell BX52.out 1).trans rfl
  go_wp2_with fail
  refine calls_gen (fun W'=>Below w135.heap.size w135 W') bV ?_
  rintro W140 hbw
  clear z138 z139
  go_at_call 56;(refine (laws_markNet.calls kmn a0_0 (fun k=>W42.heap.size≤k∧k < w43.heap.size) _ (xl) (1) (1 + 2 * (xl.length:Int)) (mkL 1 xl.length) w W140 (below_step HB.out hbw) (Kd.R_below HO45.out hbw) KMN.out).mono ?_);rintro e w141 ⟨rfl,ho,hb,hkp⟩
  clear ho
  have hkz:=(Kept.of_below (w:=w135) hbw (fun k=>W42.heap.size≤k∧k < w43.heap.size)).then_ hkp (fun _ h_=>.inl h_)
  have HO142:=Aside0.mk (Kd.R_kept HO9.out hkz (fun k hk hp=>by have:=HS.out;omega));clear HO9
  have HO143:=Aside0.mk (Kd.R_kept HO15.out hkz (fun k hk hp=>by have:=HS.out;omega));clear HO15
  have HO144:=Aside0.mk (Kd.R_kept HO21.out hkz (fun k hk hp=>by have:=HS.out;omega));clear HO21
  have HO145:=Aside0.mk (Kd.R_kept HO27.out hkz (fun k hk hp=>by have:=HS.out;omega));clear HO27
  have HO146:=Aside0.mk (HO37.out.kept hkz (fun k hk hp=>by have:=HS.out;omega));clear HO37
  have HO147:=Aside0.mk (Kd.R_kept HO51.out hkz (fun k hk hp=>by have:=HS.out;omega));clear HO51
  have HO148:=Aside0.mk (Kd.R_kept HO58.out hkz (fun k hk hp=>by have:=HS.out;omega));clear HO58
  have HO149:=Aside0.mk (Kd.R_kept HO64.out hkz (fun k hk hp=>by have:=HS.out;omega));clear HO64
  have HO150:=Aside0.mk (HO76.out.kept hkz (fun k hk hp=>by have:=HS.out;omega));clear HO76
  have BX151:=Aside0.mk (blk_kept BX3.out hkz (by intro h;have:=HS.out;omega));clear BX3
  have BX152:=Aside0.mk (blk_kept BX39.out hkz (by intro h;have:=HS.out;omega));clear BX39
  have BX153:=Aside0.mk (blk_kept BX52.out hkz (by intro h;have:=HS.out;omega));clear BX52
  have BX154:=Aside0.mk (blk_kept BX78.out hkz (by intro h;have:=HS.out;omega));clear BX78
  have HB155:=Aside0.mk hb;clear HB
  replace HS:=Aside0.mk (And.intro HS.out (hkz.1:w135.heap.size≤w141.heap.size))
  clear hkz hkp hb hbw
  clear HO45
  go_wp2_with fail
  refine calls_gen (fun W'=>Below w141.heap.size w141 W') bV ?_
  rintro W156 hbw
  go_at_call 24;(refine (laws_markIntS.calls km1 (fun k=>W48.heap.size≤k∧k < w49.heap.size) _ (l1) (1 + 2 * (xl.length:Int)) (1 + 2 * (xl.length:Int) + (l1.length:Int)) (mkI (1 + 2 * (xl.length:Int)) l1.length) w W156 (below_step HB155.out hbw) (Kd.R_below HO147.out hbw) KM1.out).mono ?_);rintro e w157 ⟨rfl,ho,hb,hkp⟩
  clear ho
  have hkz:=(Kept.of_below (w:=w141) hbw (fun k=>W48.heap.size≤k∧k < w49.heap.size)).then_ hkp (fun _ h_=>.inl h_)
  have HO158:=Aside0.mk (Kd.R_kept HO142.out hkz (fun k hk hp=>by have:=HS.out;omega));clear HO142
  have HO159:=Aside0.mk (Kd.R_kept HO143.out hkz (fun k hk hp=>by have:=HS.out;omega));clear HO143
  have HO160:=Aside0.mk (Kd.R_kept HO144.out hkz (fun k hk hp=>by have:=HS.out;omega));clear HO144
  have HO161:=Aside0.mk (Kd.R_kept HO145.out hkz (fun k hk hp=>by have:=HS.out;omega));clear HO145
  have HO162:=Aside0.mk (HO146.out.kept hkz (fun k hk hp=>by have:=HS.out;omega));clear HO146
  have HO163:=Aside0.mk (Kd.R_kept HO148.out hkz (fun k hk hp=>by have:=HS.out;omega));clear HO148
  have HO164:=Aside0.mk (Kd.R_kept HO149.out hkz (fun k hk hp=>by have:=HS.out;omega));clear HO149
  have HO165:=Aside0.mk (HO150.out.kept hkz (fun k hk hp=>by have:=HS.out;omega));clear HO150
  have BX166:=Aside0.mk (blk_kept BX151.out hkz (by intro h;have:=HS.out;omega));clear BX151
  have BX167:=Aside0.mk (blk_kept BX152.out hkz (by intro h;have:=HS.out;omega));clear BX152
  have BX168:=Aside0.mk (blk_kept BX153.out hkz (by intro h;have:=HS.out;omega));clear BX153
  have BX169:=Aside0.mk (blk_kept BX154.out hkz (by intro h;have:=HS.out;omega));clear BX154
  have HB170:=Aside0.mk hb;clear HB155
  replace HS:=Aside0.mk (And.intro HS.out (hkz.1:w141.heap.size≤w157.heap.size))
  clear hkz hkp hb hbw
  clear HO147
  go_wp2_with fail
  refine calls_gen (fun W'=>Below w157.heap.size w157 W') bV ?_
  rintro W171 hbw
  go_at_call 24;(refine (laws_markIntS.calls km2 (fun k=>W55.heap.size≤k∧k < w56.heap.size) _ (l2) (1 + 2 * (xl.length:Int) + (l1.length:Int)) (1 + 2 * (xl.length:Int) + (l1.length:Int) + (l2.length:Int)) (mkI (1 + 2 * (xl.length:Int) + (l1.length:Int)) l2.length) w W171 (below_step HB170.out hbw) (Kd.R_below HO163.out hbw) KM2.out).mono ?_);rintro e w172 ⟨rfl,ho,hb,hkp⟩
  clear ho
  have hkz:=(Kept.of_below (w:=w157) hbw (fun k=>W55.heap.size≤k∧k < w56.heap.size)).then_ hkp (fun _ h_=>.inl h_)
  have HO173:=Aside0.mk (Kd.R_kept HO158.out hkz (fun k hk hp=>by have:=HS.out;omega));clear HO158
  have HO174:=Aside0.mk (Kd.R_kept HO159.out hkz (fun k hk hp=>by have:=HS.out;omega));clear HO159
  have HO175:=Aside0.mk (Kd.R_kept HO160.out hkz (fun k hk hp=>by have:=HS.out;omega));clear HO160
  have HO176:=Aside0.mk (Kd.R_kept HO161.out hkz (fun k hk hp=>by have:=HS.out;omega));clear HO161
  have HO177:=Aside0.mk (HO162.out.kept hkz (fun k hk hp=>by have:=HS.out;omega));clear HO162
  have HO178:=Aside0.mk (Kd.R_kept HO164.out hkz (fun k hk hp=>by have:=HS.out;omega));clear HO164
  have HO179:=Aside0.mk (HO165.out.kept hkz (fun k hk hp=>by have:=HS.out;omega));clear HO165
  have BX180:=Aside0.mk (blk_kept BX166.out hkz (by intro h;have:=HS.out;omega));clear BX166
  have BX181:=Aside0.mk (blk_kept BX167.out hkz (by intro h;have:=HS.out;omega));clear BX167
  have BX182:=Aside0.mk (blk_kept BX168.out hkz (by intro h;have:=HS.out;omega));clear BX168
  have BX183:=Aside0.mk (blk_kept BX169.out hkz (by intro h;have:=HS.out;omega));clear BX169
  have HB184:=Aside0.mk hb;clear HB170
  replace HS:=Aside0.mk (And.intro HS.out (hkz.1:w157.heap.size≤w172.heap.size))
  clear hkz hkp hb hbw
  clear HO163
  go_wp2_with fail
  refine calls_gen (fun W'=>Below w172.heap.size w172 W') bV ?_
  rintro W185 hbw
  go_at_call 24;(refine (laws_markIntS.calls km3 (fun k=>W61.heap.size≤k∧k < w62.heap.size) _ (l3) (1 + 2 * (xl.length:Int) + (l1.length:Int) + (l2.length:Int)) (1 + 2 * (xl.length:Int) + (l1.length:Int) + (l2.length:Int) + (l3.length:Int)) (mkI (1 + 2 * (xl.length:Int) + (l1.length:Int) + (l2.length:Int)) l3.length) w W185 (below_step HB184.out hbw) (Kd.R_below HO178.out hbw) KM3.out).mono ?_);rintro e w186 ⟨rfl,ho,hb,hkp⟩
  clear ho
  have hkz:=(Kept.of_below (w:=w172) hbw (fun k=>W61.heap.size≤k∧k < w62.heap.size)).then_ hkp (fun _ h_=>.inl h_)
  have HO187:=Aside0.mk (Kd.R_kept HO173.out hkz (fun k hk hp=>by have:=HS.out;omega));clear HO173
  have HO188:=Aside0.mk (Kd.R_kept HO174.out hkz (fun k hk hp=>by have:=HS.out;omega));clear HO174
  have HO189:=Aside0.mk (Kd.R_kept HO175.out hkz (fun k hk hp=>by have:=HS.out;omega));clear HO175
  have HO190:=Aside0.mk (Kd.R_kept HO176.out hkz (fun k hk hp=>by have:=HS.out;omega));clear HO176
  have HO191:=Aside0.mk (HO177.out.kept hkz (fun k hk hp=>by have:=HS.out;omega));clear HO177
  have HO192:=Aside0.mk (HO179.out.kept hkz (fun k hk hp=>by have:=HS.out;omega));clear HO179
  have BX193:=Aside0.mk (blk_kept BX180.out hkz (by intro h;have:=HS.out;omega));clear BX180
  have BX194:=Aside0.mk (blk_kept BX181.out hkz (by intro h;have:=HS.out;omega));clear BX181
  have BX195:=Aside0.mk (blk_kept BX182.out hkz (by intro h;have:=HS.out;omega));clear BX182
  have BX196:=Aside0.mk (blk_kept BX183.out hkz (by intro h;have:=HS.out;omega));clear BX183
  have HB197:=Aside0.mk hb;clear HB184
  replace HS:=Aside0.mk (And.intro HS.out (hkz.1:w172.heap.size≤w186.heap.size))
  clear hkz hkp hb hbw
  clear HO178
  obtain ⟨z198,z199,z200,z201,z202,z203,z204,z205,z206,z207,z208,z209,z210⟩ :=IW.at_ BX194.out
  obtain ⟨z211,z212,z213,z214,z215,z216,z217,z218,z219,z220,z221,z222,z223⟩ :=IW.at_ BX196.out
  go_wp2_with fail
  refine calls_gen (fun W'=>Below w186.heap.size w186 W') bV ?_
  rintro W224 hbw
  clear z198 z199 z200 z201 z202 z203 z204 z205 z206 z207 z208 z209 z210 z211 z212 z213 z214 z215 z216 z217 z218 z219 z220 z221 z222 z223
  have hr1:=(HO192.out.rd).below hbw;have hr2:=(HO191.out.rd).below hbw
  go_at_call 17;(refine (eqWorld_c x p75 p36 W224 hr1 hr2 OKX.out).mono ?_);rintro e w225 ⟨rfl,hb⟩
  have hs:=below_step hbw hb
  replace HB197:=sB HB197 hs
  replace HO187:=rB HO187 hs
  replace HO188:=rB HO188 hs
  replace HO189:=rB HO189 hs
  replace HO190:=rB HO190 hs
  replace HO191:=mB HO191 hs
  replace HO192:=mB HO192 hs
  replace BX193:=xB BX193 hs
  replace BX194:=xB BX194 hs
  replace BX195:=xB BX195 hs
  replace BX196:=xB BX196 hs
  replace HS:=Aside0.mk (And.intro HS.out (hs.size:w186.heap.size≤w225.heap.size))
  clear hr1 hr2 hb hs hbw
  obtain ⟨z226,z227,z228,z229,z230,z231,z232,z233,z234,z235,z236,z237,z238⟩ :=IW.at_ BX196.out
  go_wp2_with fail
  refine calls_gen (fun W'=>Below w225.heap.size w225 W') bV ?_
  rintro W239 hbw
  clear z226 z227 z228 z229 z230 z231 z232 z233 z234 z235 z236 z237 z238
  go_at_call 18;(refine (markWorld_s x p75 (fun k=>W69.heap.size≤k∧k < w70.heap.size) w W239 (below_step HB197.out hbw) (HO192.out.below hbw) OKX.out 1 (by omega) (by omega)).mono ?_);rintro e w240 ⟨rfl,hm,hb,hkp⟩
  rw [← HCE.out]
  have HO241:=Aside0.mk hm;clear hm
  have hkz:=(Kept.of_below (w:=w225) hbw (fun k=>W69.heap.size≤k∧k < w70.heap.size)).then_ hkp (fun _ h_=>.inl h_)
  have HO242:=Aside0.mk (Kd.R_kept HO187.out hkz (fun k hk hp=>by have:=HS.out;omega));clear HO187
  have HO243:=Aside0.mk (Kd.R_kept HO188.out hkz (fun k hk hp=>by have:=HS.out;omega));clear HO188
  have HO244:=Aside0.mk (Kd.R_kept HO189.out hkz (fun k hk hp=>by have:=HS.out;omega));clear HO189
  have HO245:=Aside0.mk (Kd.R_kept HO190.out hkz (fun k hk hp=>by have:=HS.out;omega));clear HO190
  have HO246:=Aside0.mk (HO191.out.kept hkz (fun k hk hp=>by have:=HS.out;omega));clear HO191
  have BX247:=Aside0.mk (blk_kept BX193.out hkz (by intro h;have:=HS.out;omega));clear BX193
  have BX248:=Aside0.mk (blk_kept BX194.out hkz (by intro h;have:=HS.out;omega));clear BX194
  have BX249:=Aside0.mk (blk_kept BX195.out hkz (by intro h;have:=HS.out;omega));clear BX195
  have BX250:=Aside0.mk (blk_kept BX196.out hkz (by intro h;have:=HS.out;omega));clear BX196
  have HB251:=Aside0.mk hb;clear HB197
  replace HS:=Aside0.mk (And.intro HS.out (hkz.1:w225.heap.size≤w240.heap.size))
  clear hkz hkp hb hbw
  clear HO192
  obtain ⟨z252,z253,z254,z255,z256,z257,z258,z259,z260,z261,z262,z263,z264⟩ :=IW.at_ BX250.out
  go_wp2_with fail
  refine calls_gen (fun W'=>Below w240.heap.size w240 W') bV ?_
  rintro W265 hbw
  clear z252 z253 z254 z255 z256 z257 z258 z259 z260 z261 z262 z263 z264
  have hr1:=(HO241.out.rd).below hbw
  go_at_call 57;(refine (heldWorld_c x p75 OKX.out 1 (by omega) (by omega) W265 hr1).mono ?_);rintro e w266 ⟨rfl,hb⟩;rw [← HCE.out]
  have hs:=below_step hbw hb
  replace HB251:=sB HB251 hs
  replace HO242:=rB HO242 hs
  replace HO243:=rB HO243 hs
  replace HO244:=rB HO244 hs
  replace HO245:=rB HO245 hs
  replace HO246:=mB HO246 hs
  replace HO241:=mB HO241 hs
  replace BX247:=xB BX247 hs
  replace BX248:=xB BX248 hs
  replace BX249:=xB BX249 hs
  replace BX250:=xB BX250 hs
  replace HS:=Aside0.mk (And.intro HS.out (hs.size:w240.heap.size≤w266.heap.size))
  clear hr1 hb hs hbw
  have z267:=(blk_cell BX247.out 0).trans rfl
  have z268:=(blk_cell BX247.out 1).trans rfl
  go_wp2_with fail
  refine calls_gen (fun W'=>Below w266.heap.size w266 W') bV ?_
  rintro W269 hbw
  clear z267 z268
  go_at_call 53;(refine (laws_toNet.calls kn a0_0 A0_1 c0_1 (l0_1) a0_0 xl W269 (Kd.C_below HR0.out (below_step HB251.out hbw)) hc0_1 KN.out).mono ?_);rintro e w270 ⟨v271,rfl,ho,hb⟩
  replace HS:=Aside0.mk (And.intro HS.out (And.intro (hbw.size:w266.heap.size≤W269.heap.size) (hb.size:W269.heap.size≤w270.heap.size)))
  have HO272:=Aside0.mk (Kd.R_mono (ok':=fun k=>W269.heap.size≤k∧k < w270.heap.size) (R_ivn (Nat.le_trans HB251.out.size hbw.size) ho) (fun k h=>h));clear ho
  have hs:=below_step hbw hb
  replace HB251:=sB HB251 hs
  replace HO242:=rB HO242 hs
  replace HO243:=rB HO243 hs
  replace HO244:=rB HO244 hs
  replace HO245:=rB HO245 hs
  replace HO246:=mB HO246 hs
  replace HO241:=mB HO241 hs
  replace BX247:=xB BX247 hs
  replace BX248:=xB BX248 hs
  replace BX249:=xB BX249 hs
  replace BX250:=xB BX250 hs
  replace HS:=Aside0.mk (And.intro HS.out (hs.size:w266.heap.size≤w270.heap.size))
  obtain ⟨A273,c274,rfl⟩ :=Kd.R_slice HO272.out
  clear hb hs hbw 
  go_wp2_with fail
  refine calls_gen (fun W'=>Below w270.heap.size w270 W') bV ?_
  rintro W275 hbw
  go_at_call 29;(refine (laws_toIntS.calls kt1 A1 c1 (l1) (l1) W275 (Kd.C_below HR1.out (below_step HB251.out hbw)) hc1 KT1.out).mono ?_);rintro e w276 ⟨v277,rfl,ho,hb⟩
  replace HS:=Aside0.mk (And.intro HS.out (And.intro (hbw.size:w270.heap.size≤W275.heap.size) (hb.size:W275.heap.size≤w276.heap.size)))
  have HO278:=Aside0.mk (Kd.R_mono (ok':=fun k=>W275.heap.size≤k∧k < w276.heap.size) (R_ivn (Nat.le_trans HB251.out.size hbw.size) ho) (fun k h=>h));clear ho
  have hs:=below_step hbw hb
  replace HB251:=sB HB251 hs
  replace HO242:=rB HO242 hs
  replace HO243:=rB HO243 hs
  replace HO244:=rB HO244 hs
  replace HO245:=rB HO245 hs
  replace HO246:=mB HO246 hs
  replace HO241:=mB HO241 hs
  replace HO272:=rB HO272 hs
  replace BX247:=xB BX247 hs
  replace BX248:=xB BX248 hs
  replace BX249:=xB BX249 hs
  replace BX250:=xB BX250 hs
  replace HS:=Aside0.mk (And.intro HS.out (hs.size:w270.heap.size≤w276.heap.size))
  obtain ⟨A279,c280,rfl⟩ :=Kd.R_slice HO278.out
  clear hb hs hbw 
  go_wp2_with fail
  refine calls_gen (fun W'=>Below w276.heap.size w276 W') bV ?_
  rintro W281 hbw
  go_at_call 29;(refine (laws_toIntS.calls kt2 A2 c2 (l2) (l2) W281 (Kd.C_below HR2.out (below_step HB251.out hbw)) hc2 KT2.out).mono ?_);rintro e w282 ⟨v283,rfl,ho,hb⟩
  replace HS:=Aside0.mk (And.intro HS.out (And.intro (hbw.size:w276.heap.size≤W281.heap.size) (hb.size:W281.heap.size≤w282.heap.size)))
  have HO284:=Aside0.mk (Kd.R_mono (ok':=fun k=>W281.heap.size≤k∧k < w282.heap.size) (R_ivn (Nat.le_trans HB251.out.size hbw.size) ho) (fun k h=>h));clear ho
  have hs:=below_step hbw hb
  replace HB251:=sB HB251 hs
  replace HO242:=rB HO242 hs
  replace HO243:=rB HO243 hs
  replace HO244:=rB HO244 hs
  replace HO245:=rB HO245 hs
  replace HO246:=mB HO246 hs
  replace HO241:=mB HO241 hs
  replace HO272:=rB HO272 hs
  replace HO278:=rB HO278 hs
  replace BX247:=xB BX247 hs
  replace BX248:=xB BX248 hs
  replace BX249:=xB BX249 hs
  replace BX250:=xB BX250 hs
  replace HS:=Aside0.mk (And.intro HS.out (hs.size:w276.heap.size≤w282.heap.size))
  obtain ⟨A285,c286,rfl⟩ :=Kd.R_slice HO284.out
  clear hb hs hbw 
  go_wp2_with fail
  refine calls_gen (fun W'=>Below w282.heap.size w282 W') bV ?_
  rintro W287 hbw
  go_at_call 29;(refine (laws_toIntS.calls kt3 A3 c3 (l3) (l3) W287 (Kd.C_below HR3.out (below_step HB251.out hbw)) hc3 KT3.out).mono ?_);rintro e w288 ⟨v289,rfl,ho,hb⟩
  replace HS:=Aside0.mk (And.intro HS.out (And.intro (hbw.size:w282.heap.size≤W287.heap.size) (hb.size:W287.heap.size≤w288.heap.size)))
  have HO290:=Aside0.mk (Kd.R_mono (ok':=fun k=>W287.heap.size≤k∧k < w288.heap.size) (R_ivn (Nat.le_trans HB251.out.size hbw.size) ho) (fun k h=>h));clear ho
  have hs:=below_step hbw hb
  replace HB251:=sB HB251 hs
  replace HO242:=rB HO242 hs
  replace HO243:=rB HO243 hs
  replace HO244:=rB HO244 hs
  replace HO245:=rB HO245 hs
  replace HO246:=mB HO246 hs
  replace HO241:=mB HO241 hs
  replace HO272:=rB HO272 hs
  replace HO278:=rB HO278 hs
  replace HO284:=rB HO284 hs
  replace BX247:=xB BX247 hs
  replace BX248:=xB BX248 hs
  replace BX249:=xB BX249 hs
  replace BX250:=xB BX250 hs
  replace HS:=Aside0.mk (And.intro HS.out (hs.size:w282.heap.size≤w288.heap.size))
  obtain ⟨A291,c292,rfl⟩ :=Kd.R_slice HO290.out
  clear hb hs hbw 
  go_wp2_with fail
  refine calls_gen (fun W'=>Below w288.heap.size w288 W') bV ?_
  rintro W293 hbw
  have h295:=Kd.R_reads' (Kd.R_below HO272.out hbw)
  have h296:=Kd.R_reads' (Kd.R_below HO278.out hbw)
  have h297:=Kd.R_reads' (Kd.R_below HO284.out hbw)
  have h298:=Kd.R_reads' (Kd.R_below HO290.out hbw)
  go_at_call 54;(refine (impl_NewWorld_c a0_0 A273 c274 (xl) A279 c280 (l1) A285 c286 (l2) A291 c292 (l3) W293 h295.2.2 h295.2.1 h296.2.2 h296.2.1 h297.2.2 h297.2.1 h298.2.2 h298.2.1 OL.out ok1 ok2 ok3).mono ?_);rintro e w294 ⟨p299,rfl,hm,hb⟩
  rw [← HXE.out] at hm ⊢;rw [← HBE.out]
  replace HS:=Aside0.mk (And.intro HS.out (And.intro (hbw.size:w288.heap.size≤W293.heap.size) (hb.size:W293.heap.size≤w294.heap.size)))
  have HO300:=Aside0.mk ((hm.lower (Nat.le_trans HB251.out.size hbw.size)).mono (ok':=fun k=>W293.heap.size≤k∧k < w294.heap.size) (fun k h=>h));clear hm
  have hs:=below_step hbw hb
  replace HB251:=sB HB251 hs
  replace HO242:=rB HO242 hs
  replace HO243:=rB HO243 hs
  replace HO244:=rB HO244 hs
  replace HO245:=rB HO245 hs
  replace HO246:=mB HO246 hs
  replace HO241:=mB HO241 hs
  replace HO272:=rB HO272 hs
  replace HO278:=rB HO278 hs
  replace HO284:=rB HO284 hs
  replace HO290:=rB HO290 hs
  replace BX247:=xB BX247 hs
  replace BX248:=xB BX248 hs
  replace BX249:=xB BX249 hs
  replace BX250:=xB BX250 hs
  replace HS:=Aside0.mk (And.intro HS.out (hs.size:w288.heap.size≤w294.heap.size))
  clear hb hs hbw h295 h296 h297 h298
  go_upto_region 43 with fail
  generalize hWX:w294.alloc (.cells (x.cells p299) 42)=w301
  have hbw:Below w294.heap.size w294 w301:=by rw [← hWX];exact (by repeat (first|(with_reducible first|exact Below.refl _ _|apply below_alloc|apply pw_below_drewN|apply below_drew1)|exact Below.refl _ _))
  have hbn:w301.heap[w294.heap.size]?=some (.cells (x.cells p299) 42 (0,0)) :=by rw [← hWX];exact blk_new _ _
  clear hWX 
  have hs:=hbw
  replace HB251:=sB HB251 hs
  replace HO242:=rB HO242 hs
  replace HO243:=rB HO243 hs
  replace HO244:=rB HO244 hs
  replace HO245:=rB HO245 hs
  replace HO246:=mB HO246 hs
  replace HO241:=mB HO241 hs
  replace HO272:=rB HO272 hs
  replace HO278:=rB HO278 hs
  replace HO284:=rB HO284 hs
  replace HO290:=rB HO290 hs
  replace HO300:=mB HO300 hs
  replace BX247:=xB BX247 hs
  replace BX248:=xB BX248 hs
  replace BX249:=xB BX249 hs
  replace BX250:=xB BX250 hs
  have BX302:=Aside0.mk (hbn);clear hbn
  replace HS:=Aside0.mk (And.intro HS.out (hs.size:w294.heap.size≤w301.heap.size))
  replace HS:=Aside0.mk (And.intro HS.out (blk_lt BX302.out))
  clear hs hbw
  obtain ⟨z303,z304,z305,z306,z307,z308,z309,z310,z311,z312,z313,z314,z315⟩ :=IW.at_ BX248.out
  obtain ⟨z316,z317,z318,z319,z320,z321,z322,z323,z324,z325,z326,z327,z328⟩ :=IW.at_ BX302.out
  go_wp2_with fail
  refine calls_gen (fun W'=>Below w301.heap.size w301 W') bV ?_
  rintro W329 hbw
  clear z303 z304 z305 z306 z307 z308 z309 z310 z311 z312 z313 z314 z315 z316 z317 z318 z319 z320 z321 z322 z323 z324 z325 z326 z327 z328
  have hr1:=(HO300.out.rd).below hbw;have hr2:=(HO246.out.rd).below hbw
  go_at_call 17;(refine (eqWorld_c x p299 p36 W329 hr1 hr2 OKX.out).mono ?_);rintro e w330 ⟨rfl,hb⟩
  have hs:=below_step hbw hb
  replace HB251:=sB HB251 hs
  replace HO242:=rB HO242 hs
  replace HO243:=rB HO243 hs
  replace HO244:=rB HO244 hs
  replace HO245:=rB HO245 hs
  replace HO246:=mB HO246 hs
  replace HO241:=mB HO241 hs
  replace HO272:=rB HO272 hs
  replace HO278:=rB HO278 hs
  replace HO284:=rB HO284 hs
  replace HO290:=rB HO290 hs
  replace HO300:=mB HO300 hs
  replace BX247:=xB BX247 hs
  replace BX248:=xB BX248 hs
  replace BX249:=xB BX249 hs
  replace BX250:=xB BX250 hs
  replace BX302:=xB BX302 hs
  replace HS:=Aside0.mk (And.intro HS.out (hs.size:w301.heap.size≤w330.heap.size))
  clear hr1 hr2 hb hs hbw
  obtain ⟨z331,z332,z333,z334,z335,z336,z337,z338,z339,z340,z341,z342,z343⟩ :=IW.at_ BX250.out
  go_wp2_with fail
  refine calls_gen (fun W'=>Below w330.heap.size w330 W') bV ?_
  rintro W344 hbw
  clear z331 z332 z333 z334 z335 z336 z337 z338 z339 z340 z341 z342 z343
  have hr1:=(HO241.out.rd).below hbw
  go_at_call 57;(refine (heldWorld_c x p75 OKX.out 1 (by omega) (by omega) W344 hr1).mono ?_);rintro e w345 ⟨rfl,hb⟩;rw [← HCE.out]
  have hs:=below_step hbw hb
  replace HB251:=sB HB251 hs
  replace HO242:=rB HO242 hs
  replace HO243:=rB HO243 hs
  replace HO244:=rB HO244 hs
  replace HO245:=rB HO245 hs
  replace HO246:=mB HO246 hs
  replace HO241:=mB HO241 hs
  replace HO272:=rB HO272 hs
  replace HO278:=rB HO278 hs
  replace HO284:=rB HO284 hs
  replace HO290:=rB HO290 hs
  replace HO300:=mB HO300 hs
  replace BX247:=xB BX247 hs
  replace BX248:=xB BX248 hs
  replace BX249:=xB BX249 hs
  replace BX250:=xB BX250 hs
  replace BX302:=xB BX302 hs
  replace HS:=Aside0.mk (And.intro HS.out (hs.size:w330.heap.size≤w345.heap.size))
  clear hr1 hb hs hbw
  go_wp2
  go_ret
  exact ⟨rfl,below_step HB251.out bW⟩
end Go.Proofs.Ytiipcophnnfnoaa.Pure
