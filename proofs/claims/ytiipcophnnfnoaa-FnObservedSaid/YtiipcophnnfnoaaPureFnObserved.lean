/- Lemmas: law_FnObserved -/
import Derived.Test.YtiipcophnnfnoaaPFnObservedx0
import Derived.Test.YtiipcophnnfnoaaPFnObservedx1
import Derived.Test.YtiipcophnnfnoaaPFnObservedx2
import Derived.Test.YtiipcophnnfnoaaPFnObservedx3
import Derived.Test.YtiipcophnnfnoaaPFnObservedx4
import Derived.Test.YtiipcophnnfnoaaPFnObservedx5
import Derived.Test.YtiipcophnnfnoaaPFnObservedx6
import Derived.Test.YtiipcophnnfnoaaPFnObservedx7
import Derived.Test.YtiipcophnnfnoaaPFnObservedx8
import Derived.Test.YtiipcophnnfnoaaPFnObservedx9
import Derived.Test.YtiipcophnnfnoaaPFnObservedx10
import Derived.Test.YtiipcophnnfnoaaPFnObservedx11
import Derived.Test.YtiipcophnnfnoaaPFnObservedx12
import Derived.Test.YtiipcophnnfnoaaPFnObservedx13
import Derived.Test.YtiipcophnnfnoaaPFnObservedx14
import Derived.Test.YtiipcophnnfnoaaPFnObservedx15
import Derived.Test.YtiipcophnnfnoaaPFnObservedx16
import Derived.Test.YtiipcophnnfnoaaPFnObservedx17
import Derived.Test.YtiipcophnnfnoaaPFnObservedx18
import Derived.Test.YtiipcophnnfnoaaPFnObservedx19
import Derived.Test.YtiipcophnnfnoaaPFnObservedx20
import Derived.Test.YtiipcophnnfnoaaPFnObservedx21
import Derived.Test.YtiipcophnnfnoaaPFnObservedx22
import Derived.Test.YtiipcophnnfnoaaRFnObserved
import Derived.Test.YtiipcophnnfnoaaVFnObserved
namespace Go.Proofs.Ytiipcophnnfnoaa.Pure
open Go.RowKit Go.Proofs.Ytiipcophnnfnoaa.Base Go.Proofs.Ytiipcophnnfnoaa.PFnObserved Go.Proofs.YtiipcophnnfnoaaW.PrintWords Go.Proofs.YtiipcophnnfnoaaW.PrintLast Go.Proofs.YtiipcophnnfnoaaW.PrintMore
set_option linter.unusedVariables false
set_option linter.unusedSimpArgs false
/-! ### draw -/
/-- A cursor that a draw may go on with: it stands within the bytes. -/
def cur (b:List Int) (i:Int):Prop:=b.length≤9223372036854775807∧0≤i∧i≤(b.length:Int)
theorem l1New_l0 (b:List Int) (hb:b.length≤9223372036854775806):∀ (d j:Nat) (h:Int),j + d=b.length→∃ h',Ev (fun k=>spec_l1New.l0 k b h (j:Int)) (b,0,h') :=by
 intro d
 induction d with
 | zero =>
  intro j h e
  exact ⟨h,(by refine Ev.step (fun k=>by rw [spec_l1New.l0]) ?_;exact evNeg (by omega) (Ev.now _))⟩
 | succ d ih =>
  intro j h e
  by_cases hj:(j:Int) < 4000
  ·obtain ⟨h',he⟩ :=ih (j + 1) (Go.bits .and .i64 (wrap64 ((wrap64 ((wrap64 (h * 137)) + (wrap64 (rd b (j:Int))))) + 11)) 1073741823) (by omega)
   refine ⟨h',?_⟩
   refine Ev.step (fun k=>by rw [spec_l1New.l0]) ?_
   refine evPos (by omega) (evPos hj (evPos (by omega) ?_))
   rw [wsucc (by omega)]
   exact he
  ·exact ⟨h,Ev.step (fun k=>by rw [spec_l1New.l0]) (evPos (by omega) (evNeg hj (Ev.now _)))⟩
theorem l1New_ev (b:List Int) (hb:b.length≤9223372036854775806):∃ h,Ev (fun k=>spec_l1New.f k b) (b,0,h) ∧cur b 0:=by
 obtain ⟨h,he⟩ :=l1New_l0 b hb b.length 0 (wrap64 (193017 + (b.length:Int))) (by omega)
 exact ⟨h,he,by omega,by omega,by omega⟩
theorem l1Byte_eq (b:List Int) (i h:Int) (hc:cur b i):∃ v i' h',spec_l1Byte.f b i h=some (v,i',h') ∧cur b i'∧0≤v∧v≤255:=by
 obtain ⟨h1,h2,h3⟩ :=hc
 unfold spec_l1Byte.f
 by_cases hi:i < (b.length:Int)
 ·rw [if_pos hi,if_pos h2]
  have ha:=and255 (wrap64 ((Go.bits .and .i64 (Go.bits .xor .i64 ((wrap64 ((wrap64 (h * 6364136223846793005)) + 1442695040888963407)) / 8589934592) ((wrap64 ((wrap64 (h * 6364136223846793005)) + 1442695040888963407)) / 140737488355328)) 255) + (wrap64 (rd b i))))
  refine ⟨_,_,_,rfl,⟨h1,?_,?_⟩,ha.1,ha.2⟩
  ·rw [w64 (by omega) (by omega)]
   omega
  ·rw [w64 (by omega) (by omega)]
   omega
 ·rw [if_neg hi]
  have ha:=and255 (Go.bits .xor .i64 ((wrap64 ((wrap64 (h * 6364136223846793005)) + 1442695040888963407)) / 8589934592) ((wrap64 ((wrap64 (h * 6364136223846793005)) + 1442695040888963407)) / 140737488355328))
  exact ⟨_,_,_,rfl,⟨h1,h2,h3⟩,ha.1,ha.2⟩
theorem l1Below_eq (b:List Int) (i h n:Int) (hc:cur b i) (hn:1≤n):∃ v i' h',spec_l1Below.f b i h n=some (v,i',h') ∧cur b i'∧0≤v∧v < n:=by
 unfold spec_l1Below.f
 rw [if_neg (by omega)]
 obtain ⟨v1,i1,h1,e1,c1,p1,q1⟩ :=l1Byte_eq b i h hc
 by_cases hs:n≤256
 ·rw [if_pos hs,e1]
  have hr:=tmod_range hn p1
  exact ⟨_,_,_,by rw [Option.bind_some,if_neg (by omega)],c1,hr.1,hr.2⟩
 ·obtain ⟨v2,i2,h2,e2,c2,p2,q2⟩ :=l1Byte_eq b i1 h1 c1
  obtain ⟨v3,i3,h3,e3,c3,p3,q3⟩ :=l1Byte_eq b i2 h2 c2
  rw [if_neg hs,e1,Option.bind_some,e2,Option.bind_some,e3,Option.bind_some,if_neg (by omega)]
  dsimp only
  rw [w64 (n:=v1 * 65536) (by omega) (by omega),w64 (n:=v2 * 256) (by omega) (by omega),w64 (n:=v1 * 65536 + v2 * 256) (by omega) (by omega),w64 (n:=v1 * 65536 + v2 * 256 + v3) (by omega) (by omega)]
  have hr:=tmod_range (a:=v1 * 65536 + v2 * 256 + v3) hn (by omega)
  exact ⟨_,_,_,rfl,c3,hr.1,hr.2⟩
theorem l1Below_zero (b:List Int) (i h n:Int) (hn:n≤0):spec_l1Below.f b i h n=some (0,i,h) :=by
 unfold spec_l1Below.f
 rw [if_pos hn]
theorem l1Once_eq (b:List Int) (i h n:Int) (hc:cur b i) (hn:1≤n):∃ v i' h',spec_l1Once.f b i h n=some (v,i',h') ∧cur b i':=by
 obtain ⟨v,i',h',e,c,_⟩ :=l1Below_eq b i h n hc hn
 unfold spec_l1Once.f
 rw [e]
 exact ⟨_,_,_,rfl,c⟩
theorem big_eq (l:List Int):laws_big.f l=some (decide ((l.length:Int) > 1048576)) :=rfl
/-! ### szints -/
def leftI (l:List Int) (a:Int):Int:=if a - (l.length:Int) < 0 then -1 else a - (l.length:Int)
/-! ### ints -/
/-! ### seens -/
def leftL {α:Type} (l:List α) (a:Int):Int:=if a - (l.length:Int) < 0 then -1 else a - (l.length:Int)
theorem leftL_ok {α:Type} {l:List α} (h:0≤leftL l 1048576):l.length≤1048576:=by
 unfold leftL at h
 split at h <;> omega
/-! ### world -/
theorem leftL_neg {α:Type} {l:List α} {a:Int} (h:leftL l a < 0):leftL l a=-1:=by
 unfold leftL at h ⊢
 split <;> omega
theorem leftL_le {α:Type} (l:List α) {a:Int} (h0:0≤a):leftL l a≤a:=by
 unfold leftL
 split <;> omega
theorem leftL_ok' {α:Type} {l:List α} {a:Int} (ha:a≤1048576) (h:0≤leftL l a):l.length≤1048576:=by
 unfold leftL at h
 split at h <;> omega
theorem leftI_eq (l:List Int) (a:Int):leftI l a=leftL l a:=rfl
def okP' (l:List S103):Prop:=l.length≤1048576∧∀ p∈l,p.f2.length≤1048576
def okW' (lk:List S133) (de dn:List Int) (pr:List S103) (ow li:List Int) (se:List S62):Prop :=
 lk.length≤1048576∧de.length≤1048576∧dn.length≤1048576∧okP' pr∧ow.length≤1048576∧li.length≤1048576∧se.length≤1048576
/-! ### has -/
/-! ### at -/
/-! ### inrange -/
theorem impl_InRange_eq (a b c:Int):impl_InRange.f a b c=some (decide (b≤a∧a≤c)) :=by
 unfold impl_InRange.f
 by_cases h:b≤a
 ·rw [if_pos h]
  simp [h]
 ·rw [if_neg h]
  simp [h]
/-! ### small -/
theorem spec_l1In_eq (a b c:Int):spec_l1In.f a b c=some (decide (b≤a∧a≤c)) :=by
 unfold spec_l1In.f
 by_cases h:a≥b
 ·rw [if_pos h]
  simp [show b≤a from h]
 ·rw [if_neg h]
  have:¬ b≤a:=h
  simp [this]
/-! ### paths -/
def endF (lk:List S133):List Int→Int→Int
 | [],a=>a
 | x :: xs,a=>if 0≤x∧x < (lk.length:Int) then (if a=(rd_T133 lk x).f0 then endF lk xs (rd_T133 lk x).f1 else if a=(rd_T133 lk x).f1 then endF lk xs (rd_T133 lk x).f0 else -1) else -1
theorem spec_EndOf_l0 (nd:Int) (lk:List S133) (hlk:lk.length≤1048576):∀ (suf pre:List Int) (a:Int),(pre ++ suf).length≤1048576 →
  Ev (fun k=>spec_EndOf.l0 k (pre ++ suf) a (pre.length:Int) nd lk) (endF lk suf a) :=by
 intro suf
 induction suf with
 | nil =>
  intro pre a hb
  refine Ev.step (fun k=>by rw [spec_EndOf.l0]) ?_
  exact evNeg (by simp) (evEq (by simp [endF]) (Ev.now _))
 | cons x suf ih =>
  intro pre a hb
  simp only [List.length_append,List.length_cons] at hb
  have h:=fun b=>ih (pre ++ [x]) b (by simp;omega)
  refine Ev.step (fun k=>by rw [spec_EndOf.l0]) ?_
  refine evPos (by simp only [List.length_append,List.length_cons];omega) (evPos (by omega) ?_)
  rw [rd_mid,wsucc (by omega),w64 (n:=(lk.length:Int) - 1) (by omega) (by omega)]
  refine evSome (spec_l1In_eq _ _ _) ?_
  by_cases hx:0≤x∧x < (lk.length:Int)
  ·refine evPos (by rw [decide_eq_true_eq];omega) (evPos hx.1 (evPos hx.2 ?_))
   by_cases h1:a=(rd_T133 lk x).f0
   ·refine evPos h1 (evEq ?_ (Ev.congr (fun k=>?_) (h (rd_T133 lk x).f1)))
    ·rw [endF,if_pos hx,if_pos h1]
    ·simp
   ·refine evNeg h1 ?_
    by_cases h2:a=(rd_T133 lk x).f1
    ·refine evPos h2 (evEq ?_ (Ev.congr (fun k=>?_) (h (rd_T133 lk x).f0)))
     ·rw [endF,if_pos hx,if_neg h1,if_pos h2]
     ·simp
    ·exact evNeg h2 (evEq (by rw [endF,if_pos hx,if_neg h1,if_neg h2]) (Ev.now _))
  ·exact evNeg (by rw [decide_eq_true_eq];omega) (evEq (by rw [endF,if_neg hx]) (Ev.now _))
theorem spec_EndOf_ev (nd:Int) (lk:List S133) (hlk:lk.length≤1048576) (path:List Int) (a:Int) (hl:path.length≤1048576):Ev (fun k=>spec_EndOf.f k nd lk path a) (endF lk path a) :=by
 have h:=spec_EndOf_l0 nd lk hlk path [] a (by simpa using hl)
 simpa [spec_EndOf.f] using h
def noRep:List Int→List Int→Bool
 | _,[] =>true
 | pre,x :: suf=>!hasB pre x && noRep (pre ++ [x]) suf
def pathB (lk:List S133) (path:List Int) (a b:Int):Bool:=noRep [] path && (decide (endF lk path a=b) && (decide (path.length=0) || decide (0≤b)))
theorem spec_IsPath_l0 (nd:Int) (lk:List S133) (hlk:lk.length≤1048576) (path:List Int) (a b:Int) (hl:path.length≤1048576):∀ (suf pre:List Int),path=pre ++ suf →
  Ev (fun k=>spec_IsPath.l0 k path a b (pre.length:Int) nd lk) (noRep pre suf && (decide (endF lk path a=b) && (decide (path.length=0) || decide (0≤b)))) :=by
 intro suf
 induction suf with
 | nil =>
  intro pre e
  have el:path.length=pre.length:=by rw [e];simp
  refine Ev.step (fun k=>by rw [spec_IsPath.l0]) ?_
  refine evNeg (by omega) (Ev.bind (spec_EndOf_ev nd lk hlk path a hl) ?_)
  by_cases h1:endF lk path a=b
  ·refine evPos h1 ?_
   by_cases h2:0≤b
   ·exact evPos h2 (evEq (by simp [noRep,h1,h2]) (Ev.now _))
   ·refine evNeg h2 (evEq ?_ (Ev.now _))
    by_cases h3:path.length=0
    ·simp [noRep,h1,h2,h3]
    ·have h4:((path.length:Int) == 0)=false:=by rw [beq_eq_false_iff_ne];omega
     rw [h4,noRep,decide_eq_true h1,decide_eq_false h3,decide_eq_false h2]
     rfl
  ·exact evNeg h1 (evEq (by simp [noRep,h1]) (Ev.now _))
 | cons x suf ih =>
  intro pre e
  have el:path.length=pre.length + (suf.length + 1) :=by rw [e];simp
  have h:=ih (pre ++ [x]) (by rw [e];simp)
  have hr:rd path (pre.length:Int)=x:=by rw [e];exact rd_mid pre suf x
  have ht:path.take ((pre.length:Int)).toNat=pre:=by rw [e];simp
  refine Ev.step (fun k=>by rw [spec_IsPath.l0]) ?_
  refine evPos (by omega) (evPos (by omega) (evPos (by omega) ?_))
  rw [hr,ht,wsucc (by omega)]
  refine Ev.bind (spec_l7Has_ev pre x (by omega)) ?_
  by_cases hb:hasB pre x=true
  ·exact evPos hb (evEq (by simp [noRep,hb]) (Ev.now _))
  ·refine evNeg hb (evEq ?_ (Ev.congr (fun k=>?_) h))
   ·simp [noRep,hb]
   ·simp
theorem spec_IsPath_ev (nd:Int) (lk:List S133) (hlk:lk.length≤1048576) (path:List Int) (a b:Int) (hl:path.length≤1048576):Ev (fun k=>spec_IsPath.f k nd lk path a b) (pathB lk path a b) :=by
 have h:=spec_IsPath_l0 nd lk hlk path a b hl path [] rfl
 simpa [spec_IsPath.f,pathB] using h
/-! ### asc0 -/
def ascB:List Int→Bool
 | x :: y :: r=>decide (x < y) && ascB (y :: r)
 | _=>true
def setB (l:List Int) (n:Int):Bool:=(l.all fun x=>decide (0≤x∧x≤n - 1)) && ascB l
/-! ### firstp -/
/-! ### lnk -/
def lnk (a b:Int) (x:S133):Bool:=(x.f0 == a && x.f1 == b) || (x.f0 == b && x.f1 == a)
def linkV (l:List S133) (a b:Int):Int:=firstP (lnk a b) l 0
/-! ### areseen -/
def snOk (p n:Int) (x:S62):Bool:=decide ((0≤x.f0∧x.f0 < p) ∧(0≤x.f1∧x.f1≤5) ∧(0≤x.f2∧x.f2≤n) ∧(0≤x.f3∧x.f3≤1000))
def snBad (x:S62):Bool:=!x.f4 || decide (x.f3=0)
def seenF (p n:Int):Int→List S62→Bool
 | _,[] =>true
 | last,x :: xs=>snOk p n x && (snBad x && (decide (last≤x.f2) && seenF p n x.f2 xs))
def areSeenB (l:List S62) (p n:Int):Bool:=seenF p n 0 l && decide (l.length≤60)
theorem spec_AreSeen_j1t (l:List S62) (p n i a b c d:Int) (e:Bool):Ev (fun k=>spec_AreSeen.j1 k l p n i true a b c d e) false :=
 Ev.step (fun k=>by rw [spec_AreSeen.j1]) (evPos rfl (Ev.now _))
def lastOf (l:List S62):Int:=match l.getLast? with|some q=>q.f2|none=>0
theorem spec_AreSeen_j1f (p n:Int) (pre suf:List S62) (x:S62) (R:Bool) (hb:(pre ++ x :: suf).length≤1048576) (h0:0≤x.f2)
  (hk:Ev (fun k=>spec_AreSeen.l0 k (pre ++ x :: suf) p n ((pre.length + 1:Nat):Int)) R) :
  Ev (fun k=>spec_AreSeen.j1 k (pre ++ x :: suf) p n (pre.length:Int) false x.f0 x.f1 x.f2 x.f3 x.f4) (snBad x && (decide (lastOf pre≤x.f2) && R)) :=by
 simp only [List.length_append,List.length_cons] at hb
 refine Ev.step (fun k=>by rw [spec_AreSeen.j1]) ?_
 refine evNeg (by simp) ?_
 have key:Ev (fun k=>if (pre.length:Int) > 0 then (if 0≤(wrap64 ((pre.length:Int) - 1)) then (if (wrap64 ((pre.length:Int) - 1)) < ((pre ++ x :: suf).length:Int) then (if ((rd_T62 (pre ++ x :: suf) (wrap64 ((pre.length:Int) - 1))).f2) > x.f2 then (some false) else (spec_AreSeen.l0 k (pre ++ x :: suf) p n (wrap64 ((pre.length:Int) + 1)))) else (none)) else (none)) else (spec_AreSeen.l0 k (pre ++ x :: suf) p n (wrap64 ((pre.length:Int) + 1)))) (decide (lastOf pre≤x.f2) && R) :=by
  rw [wsucc (by omega),w64 (by omega) (by omega)]
  rcases List.eq_nil_or_concat pre with rfl|⟨q,y,rfl⟩
  ·refine evNeg (by simp) (evEq ?_ hk)
   simp [lastOf,h0]
  ·have e1:((q ++ [y]).length:Int) - 1=(q.length:Int) :=by simp
   have e2:(q ++ [y]) ++ x :: suf=q ++ y :: x :: suf:=by simp
   have e3:rd_T62 ((q ++ [y]) ++ x :: suf) (q.length:Int)=y:=by rw [rd_T62,e2,getD_mid]
   have e4:lastOf (q ++ [y])=y.f2:=by simp [lastOf]
   rw [List.concat_eq_append] at *
   rw [e1,e3,e4]
   refine evPos (by simp <;> omega) (evPos (by omega) (evPos (by simp only [List.length_append,List.length_cons,List.length_nil];omega) ?_))
   by_cases hc:y.f2 > x.f2
   ·refine evPos hc (evEq ?_ (Ev.now _))
    have:decide (y.f2≤x.f2)=false:=by simp;omega
    simp [this]
   ·refine evNeg hc (evEq ?_ hk)
    have:decide (y.f2≤x.f2)=true:=by simp;omega
    simp [this]
 by_cases h4:x.f4=true
 ·refine evPos h4 ?_
  by_cases h3:x.f3=0
  ·refine evPos h3 (evEq ?_ key)
   simp [snBad,h3]
  ·refine evNeg h3 (evEq ?_ (Ev.now _))
   simp [snBad,h3,h4]
 ·refine evNeg h4 (evEq ?_ key)
  have:x.f4=false:=by simpa using h4
  simp [snBad,this]
theorem spec_AreSeen_l0 (p n:Int):∀ (suf pre:List S62),(pre ++ suf).length≤1048576 →
  Ev (fun k=>spec_AreSeen.l0 k (pre ++ suf) p n (pre.length:Int)) (seenF p n (lastOf pre) suf && decide ((pre ++ suf).length≤60)) :=by
 intro suf
 induction suf with
 | nil =>
  intro pre hb
  refine Ev.step (fun k=>by rw [spec_AreSeen.l0]) ?_
  refine evNeg (by simp) (evEq ?_ (Ev.now _))
  simp only [seenF,Bool.true_and,decide_eq_decide] <;> omega
 | cons x suf ih =>
  intro pre hb
  have hb':=hb
  simp only [List.length_append,List.length_cons] at hb'
  refine Ev.step (fun k=>by rw [spec_AreSeen.l0]) ?_
  refine evPos (by simp only [List.length_append,List.length_cons];omega) (evPos (by omega) ?_)
  simp only [rd_T62,getD_mid]
  have h:=ih (pre ++ [x]) (by simpa using hb)
  have e1:lastOf (pre ++ [x])=x.f2:=by simp [lastOf]
  rw [e1] at h
  have h':Ev (fun k=>spec_AreSeen.l0 k (pre ++ x :: suf) p n ((pre.length + 1:Nat):Int)) (seenF p n x.f2 suf && decide ((pre ++ x :: suf).length≤60)) :=by simpa using h
  have bad:snOk p n x=false→false=(seenF p n (lastOf pre) (x :: suf) && decide ((pre ++ x :: suf).length≤60)) :=by
   intro hx
   simp [seenF,hx]
  by_cases c1:x.f0 < 0
  ·refine evPos c1 (evEq (bad ?_) (spec_AreSeen_j1t _ _ _ _ _ _ _ _ _))
   simp [snOk]
   omega
  refine evNeg c1 ?_
  by_cases c2:x.f0≥p
  ·refine evPos c2 (evEq (bad ?_) (spec_AreSeen_j1t _ _ _ _ _ _ _ _ _))
   simp [snOk]
   omega
  refine evNeg c2 (evSome (spec_l1In_eq _ _ _) ?_)
  by_cases c3:0≤x.f1∧x.f1≤5
  ·refine evPos (by simpa using c3) (evSome (spec_l1In_eq _ _ _) ?_)
   by_cases c4:0≤x.f2∧x.f2≤n
   ·refine evPos (by simpa using c4) (evSome (spec_l1In_eq _ _ _) ?_)
    by_cases c5:0≤x.f3∧x.f3≤1000
    ·have e:(!decide (0≤x.f3∧x.f3≤1000))=false:=by simp [c5]
     rw [e]
     refine evEq ?_ (spec_AreSeen_j1f p n pre suf x _ hb c4.1 h')
     have hx:snOk p n x=true:=by
      simp [snOk]
      omega
     simp only [seenF,hx,Bool.true_and,Bool.and_assoc]
    ·have e:(!decide (0≤x.f3∧x.f3≤1000))=true:=by simp [c5]
     rw [e]
     refine evEq (bad ?_) (spec_AreSeen_j1t _ _ _ _ _ _ _ _ _)
     simp [snOk]
     omega
   ·refine evNeg (by simpa using c4) (evEq (bad ?_) (spec_AreSeen_j1t _ _ _ _ _ _ _ _ _))
    simp [snOk]
    omega
  ·refine evNeg (by simpa using c3) (evEq (bad ?_) (spec_AreSeen_j1t _ _ _ _ _ _ _ _ _))
   simp [snOk]
   omega
theorem spec_AreSeen_ev (l:List S62) (p n:Int) (hl:l.length≤1048576):Ev (fun k=>spec_AreSeen.f k l p n) (areSeenB l p n) :=by
 unfold spec_AreSeen.f
 exact spec_AreSeen_l0 p n l [] (by simpa using hl)
/-! ### isworld -/
theorem evAndW {g:Nat→Option Bool} {b r:Bool} (h:Ev g r):Ev (fun k=>if b=true then g k else some false) (b && r) :=by
 cases b with
 | true=>exact evPos rfl h
 | false=>exact evNeg (by decide) (Ev.now _)
theorem evAndP {g:Nat→Option Bool} {c:Prop} [Decidable c] {r:Bool} (h:Ev g r):Ev (fun k=>if c then g k else some false) (decide c && r) :=by
 by_cases hc:c
 ·exact evPos hc (evEq (by simp [hc]) h)
 ·exact evNeg hc (evEq (by simp [hc]) (Ev.now _))
theorem evAndE {g f:Nat→Option Bool} {b r:Bool} (h:Ev g r) (hf:Ev f false):Ev (fun k=>if b=true then g k else f k) (b && r) :=by
 cases b with
 | true=>exact evPos rfl h
 | false=>exact evNeg (by decide) hf
theorem evAndQ {g f:Nat→Option Bool} {c:Prop} [Decidable c] {r:Bool} (h:Ev g r) (hf:Ev f false):Ev (fun k=>if c then g k else f k) (decide c && r) :=by
 by_cases hc:c
 ·exact evPos hc (evEq (by simp [hc]) h)
 ·exact evNeg hc (evEq (by simp [hc]) hf)
def netF (nd:Int) (lk:List S133):Int→List S133→Bool
 | _,[] =>true
 | i,x :: xs=>decide ((0≤x.f0∧x.f0 < nd) ∧(0≤x.f1∧x.f1 < nd) ∧x.f0≠x.f1∧linkV lk x.f0 x.f1=i) && netF nd lk (i + 1) xs
def netB (nd:Int) (lk:List S133):Bool:=decide (1≤nd∧nd≤8) && (decide (1≤(lk.length:Int) ∧(lk.length:Int) ≤6) && netF nd lk 0 lk)
theorem firstP_le {α:Type} (p:α→Bool) (suf:List α) (x:α) (hx:p x=true):∀ (pre:List α) (n:Nat),firstP p (pre ++ x :: suf) n≤(n + pre.length:Nat)
 | [],n=>by simp [firstP,hx]
 | y :: pre,n=>by
  rw [List.cons_append,firstP]
  split
  ·simp only [List.length_cons];omega
  ·have:=firstP_le p suf x hx pre (n + 1)
   simp only [List.length_cons];omega
theorem lnk_self (x:S133):lnk x.f0 x.f1 x=true:=by simp [lnk]
theorem spec_LinkOf_l0 (nd a b:Int):∀ (suf pre:List S133),(pre ++ suf).length≤1048576 →
  Ev (fun k=>spec_LinkOf.l0 k a b (pre.length:Int) nd (pre ++ suf)) (firstP (lnk a b) suf pre.length) :=by
 intro suf
 induction suf with
 | nil =>
  intro pre hb
  refine Ev.step (fun k=>by rw [spec_LinkOf.l0]) ?_
  exact evNeg (by simp) (evEq (by simp [firstP]) (Ev.now _))
 | cons x suf ih =>
  intro pre hb
  simp only [List.length_append,List.length_cons] at hb
  have h:=ih (pre ++ [x]) (by simp;omega)
  refine Ev.step (fun k=>by rw [spec_LinkOf.l0]) ?_
  refine evPos (by simp only [List.length_append,List.length_cons];omega) (evPos (by omega) ?_)
  simp only [rd_T133,getD_mid]
  rw [wsucc (by omega)]
  by_cases h1:(x.f0 == a && (x.f1 == b))=true
  ·exact evPos h1 (evEq (by rw [firstP,if_pos (by rw [lnk,h1];rfl)]) (Ev.now _))
  ·refine evNeg h1 ?_
   by_cases h2:(x.f0 == b && (x.f1 == a))=true
   ·exact evPos h2 (evEq (by rw [firstP,if_pos (by rw [lnk,h2,Bool.or_true])]) (Ev.now _))
   ·refine evNeg h2 (evEq ?_ (Ev.congr (fun k=>?_) h))
    ·rw [firstP,if_neg (by rw [lnk,Bool.not_eq_true _ |>.mp h1,Bool.not_eq_true _ |>.mp h2];decide)]
     simp
    ·simp
theorem spec_LinkOf_ev (nd:Int) (lk:List S133) (a b:Int) (hl:lk.length≤1048576):Ev (fun k=>spec_LinkOf.f k nd lk a b) (linkV lk a b) :=by
 have h:=spec_LinkOf_l0 nd a b lk [] (by simpa using hl)
 simpa [spec_LinkOf.f,linkV] using h
theorem spec_IsNet_l0 (nd:Int) (lk:List S133) (hl:lk.length≤1048576) (hn:1≤nd∧nd≤8):∀ (suf pre:List S133),lk=pre ++ suf →
  Ev (fun k=>spec_IsNet.l0 k (pre.length:Int) nd lk) (netF nd lk (pre.length:Int) suf) :=by
 intro suf
 induction suf with
 | nil =>
  intro pre e
  have el:lk.length=pre.length:=by rw [e];simp
  refine Ev.step (fun k=>by rw [spec_IsNet.l0]) ?_
  exact evNeg (by omega) (evEq (by simp [netF]) (Ev.now _))
 | cons x suf ih =>
  intro pre e
  have el:lk.length=pre.length + (suf.length + 1) :=by rw [e];simp
  have h:=ih (pre ++ [x]) (by rw [e];simp)
  have hr:rd_T133 lk (pre.length:Int)=x:=by rw [rd_T133,e,getD_mid]
  have hle:linkV lk x.f0 x.f1≤(pre.length:Int) :=by
   have:=firstP_le (lnk x.f0 x.f1) suf x (lnk_self x) pre 0
   rw [← e] at this
   simpa [linkV] using this
  refine Ev.step (fun k=>by rw [spec_IsNet.l0]) ?_
  refine evPos (by omega) (evPos (by omega) ?_)
  rw [hr,wsucc (by omega),w64 (n:=nd - 1) (by omega) (by omega)]
  have ebad:¬ ((0≤x.f0∧x.f0 < nd) ∧(0≤x.f1∧x.f1 < nd) ∧x.f0≠x.f1∧linkV lk x.f0 x.f1=(pre.length:Int)) →false=netF nd lk (pre.length:Int) (x :: suf) :=fun hc=>by rw [netF,decide_eq_false hc];rfl
  refine evSome (spec_l1In_eq _ _ _) ?_
  by_cases c1:0≤x.f0∧x.f0≤nd - 1
  ·refine evPos (by simpa using c1) (evSome (spec_l1In_eq _ _ _) ?_)
   by_cases c2:0≤x.f1∧x.f1≤nd - 1
   ·refine evPos (by simpa using c2) ?_
    by_cases c0:x.f0=x.f1
    ·exact evPos c0 (evEq (ebad (fun hc=>hc.2.2.1 c0)) (Ev.now _))
    refine evNeg c0 (Ev.bind (spec_LinkOf_ev nd lk _ _ hl) ?_)
    by_cases c3:linkV lk x.f0 x.f1=(pre.length:Int)
    ·refine evNeg (by omega) (evEq ?_ (Ev.congr (fun k=>?_) h))
     ·rw [netF,decide_eq_true ⟨⟨c1.1,by omega⟩,⟨c2.1,by omega⟩,c0,c3⟩];simp
     ·simp
    ·exact evPos (by omega) (evEq (ebad (fun hc=>c3 hc.2.2.2)) (Ev.now _))
   ·exact evNeg (by simpa using c2) (evEq (ebad (fun hc=>c2 ⟨hc.2.1.1,by omega⟩)) (Ev.now _))
  ·exact evNeg (by simpa using c1) (evEq (ebad (fun hc=>c1 ⟨hc.1.1,by omega⟩)) (Ev.now _))
theorem spec_IsNet_ev (nd:Int) (lk:List S133) (hl:lk.length≤1048576):Ev (fun k=>spec_IsNet.f k nd lk) (netB nd lk) :=by
 unfold spec_IsNet.f
 have jt:Ev (fun k=>spec_IsNet.j0 k true nd lk) false:=Ev.step (fun k=>by rw [spec_IsNet.j0]) (evPos rfl (Ev.now _))
 refine evSome (spec_l1In_eq _ _ _) ?_
 by_cases hn:1≤nd∧nd≤8
 ·refine evPos (by simpa using hn) (evSome (spec_l1In_eq _ _ _) ?_)
  rw [netB,decide_eq_true hn,Bool.true_and]
  cases h:decide (1≤(lk.length:Int) ∧(lk.length:Int) ≤6) with
  | false=>exact jt
  | true =>
   refine Ev.step (fun k=>by rw [spec_IsNet.j0]) ?_
   refine evNeg (by decide) (evEq ?_ (spec_IsNet_l0 nd lk hl hn lk [] rfl))
   simp
 ·refine evNeg (by simpa using hn) (evEq ?_ jt)
  rw [netB,decide_eq_false hn]
  rfl
def setG (n:Int):Option Int→List Int→Bool
 | _,[] =>true
 | none,x :: xs=>decide (0≤x∧x≤n - 1) && setG n (some x) xs
 | some q,x :: xs=>decide (0≤x∧x≤n - 1) && (decide (q < x) && setG n (some x) xs)
theorem setG_some (n:Int):∀ (l:List Int) (q:Int),setG n (some q) l=((l.all fun x=>decide (0≤x∧x≤n - 1)) && ascB (q :: l))
 | [],q=>by simp [setG,ascB]
 | x :: xs,q=>by
  rw [setG,setG_some n xs x,List.all_cons,ascB]
  generalize decide (0≤x∧x≤n - 1)=b1;generalize decide (q < x)=b2;generalize (xs.all fun x=>decide (0≤x∧x≤n - 1))=b3;generalize ascB (x :: xs)=b4
  cases b1 <;> cases b2 <;> cases b3 <;> cases b4 <;> rfl
theorem setG_none (n:Int) (l:List Int):setG n none l=setB l n:=by
 cases l with
 | nil=>simp [setG,setB,ascB]
 | cons x xs =>
  rw [setG,setG_some,setB,List.all_cons,Bool.and_assoc]
theorem spec_l29Set_l0 (n:Int) (hn:0≤n∧n≤1048576):∀ (suf pre:List Int),(pre ++ suf).length≤1048576 →
  Ev (fun k=>spec_l29Set.l0 k (pre ++ suf) n (pre.length:Int)) (setG n pre.getLast? suf) :=by
 intro suf
 induction suf with
 | nil =>
  intro pre hb
  refine Ev.step (fun k=>by rw [spec_l29Set.l0]) ?_
  exact evNeg (by simp) (evEq (by simp [setG]) (Ev.now _))
 | cons x suf ih =>
  intro pre hb
  simp only [List.length_append,List.length_cons] at hb
  have h:=ih (pre ++ [x]) (by simp;omega)
  rw [show (pre ++ [x]).getLast?=some x by simp] at h
  have h':Ev (fun k=>spec_l29Set.l0 k (pre ++ x :: suf) n ((pre.length + 1:Nat):Int)) (setG n (some x) suf) :=by simpa using h
  refine Ev.step (fun k=>by rw [spec_l29Set.l0]) ?_
  refine evPos (by simp only [List.length_append,List.length_cons];omega) (evPos (by omega) ?_)
  rw [rd_mid,w64 (n:=n - 1) (by omega) (by omega)]
  refine evSome (spec_l1In_eq _ _ _) ?_
  rw [wsucc (by omega)]
  by_cases c1:0≤x∧x≤n - 1
  ·refine evPos (by simpa using c1) ?_
   rcases List.eq_nil_or_concat pre with rfl|⟨q,y,rfl⟩
   ·refine evNeg (by simp) (evEq ?_ h')
    simp [setG,c1]
   ·rw [List.concat_eq_append] at *
    have e1:wrap64 (((q ++ [y]).length:Int) - 1)=(q.length:Int) :=by rw [w64 (by omega) (by omega)];simp
    have e3:rd (q ++ [y] ++ x :: suf) (q.length:Int)=y:=by rw [show q ++ [y] ++ x :: suf=q ++ y :: x :: suf by simp,rd_mid]
    rw [e1,e3]
    refine evPos (by simp <;> omega) (evPos (by omega) (evPos (by simp only [List.length_append,List.length_cons,List.length_nil];omega) ?_))
    rw [show (q ++ [y]).getLast?=some y by simp,setG,decide_eq_true c1,Bool.true_and]
    by_cases hc:y≥x
    ·exact evPos hc (evEq (by rw [decide_eq_false (by omega)];rfl) (Ev.now _))
    ·exact evNeg hc (evEq (by rw [decide_eq_true (by omega)];rfl) h')
  ·refine evNeg (by simpa using c1) (evEq ?_ (Ev.now _))
   cases pre.getLast? <;> simp [setG,c1]
theorem spec_l29Set_ev (l:List Int) (n:Int) (hl:l.length≤1048576) (hn:0≤n∧n≤1048576):Ev (fun k=>spec_l29Set.f k l n) (setB l n) :=by
 have h:=spec_l29Set_l0 n hn l [] (by simpa using hl)
 rw [← setG_none]
 simpa [spec_l29Set.f] using h
def bucketB (a b c d:Int):Bool:=decide (0≤b∧b≤1000) && (decide (0≤c∧c≤1000) && (decide (0≤a∧a≤b) && decide (0≤d∧d≤100000)))
theorem ite_and_ {b:Bool} {r:Bool}:(if b=true then some r else some false)=some (b && r) :=by cases b <;> rfl
theorem spec_IsBucket_eq (a b c d:Int):spec_IsBucket.f a b c d=some (bucketB a b c d) :=by
 unfold spec_IsBucket.f bucketB
 simp only [spec_l1In_eq,Option.bind_some,ite_and_]
def okProbe (lk:List S133) (x:S103):Bool:=!decide ((x.f2.length:Int)=0) && pathB lk x.f2 x.f0 x.f1
def probesB (nd:Int) (lk:List S133) (l:List S103):Bool:=l.all (okProbe lk) && (netB nd lk && decide ((l.length:Int) ≤12))
theorem spec_AreProbes_l0 (nd:Int) (lk:List S133) (hlk:lk.length≤1048576):∀ (suf pre:List S103),(pre ++ suf).length≤1048576→(∀ p∈suf,p.f2.length≤1048576) →
  Ev (fun k=>spec_AreProbes.l0 k (pre ++ suf) (pre.length:Int) nd lk) (suf.all (okProbe lk) && (netB nd lk && decide (((pre ++ suf).length:Int) ≤12))) :=by
 intro suf
 induction suf with
 | nil =>
  intro pre hb hp
  refine Ev.step (fun k=>by rw [spec_AreProbes.l0]) ?_
  refine evNeg (by simp) (evEq (by simp) (Ev.bind (spec_IsNet_ev nd lk hlk) (evAndW (Ev.now _))))
 | cons x suf ih =>
  intro pre hb hp
  simp only [List.length_append,List.length_cons] at hb
  have h:=ih (pre ++ [x]) (by simp;omega) (fun p h=>hp p (by simp [h]))
  refine Ev.step (fun k=>by rw [spec_AreProbes.l0]) ?_
  refine evPos (by simp only [List.length_append,List.length_cons];omega) (evPos (by omega) ?_)
  have hr:rd_T103 (pre ++ x :: suf) (pre.length:Int)=x:=by rw [rd_T103,getD_mid]
  rw [hr,wsucc (by omega),List.all_cons,okProbe]
  by_cases c0:(x.f2.length:Int)=0
  ·exact evPos c0 (evEq (by rw [decide_eq_true c0];rfl) (Ev.now _))
  ·refine evNeg c0 (Ev.bind (spec_IsPath_ev nd lk hlk x.f2 x.f0 x.f1 (hp x (by simp))) ?_)
   rw [decide_eq_false c0,Bool.not_false,Bool.true_and,Bool.and_assoc]
   refine evAndW ?_
   simpa using h
theorem spec_AreProbes_ev (nd:Int) (lk:List S133) (l:List S103) (hl:lk.length≤1048576) (hn:l.length≤1048576) (h:∀ p∈l,p.f2.length≤1048576):Ev (fun k=>spec_AreProbes.f k nd lk l) (probesB nd lk l) :=by
 have h:=spec_AreProbes_l0 nd lk hl l [] (by simpa using hn) h
 simpa [spec_AreProbes.f,probesB] using h
def worldT (l4:List S103) (l5 l6:List Int) (a7 a8 a9 a10:Int) (l11:List S62) (a12:Int):Bool:=decide ((l5.length:Int)=(l4.length:Int)) && (setB l6 6 && (bucketB a7 a8 a9 a10 && (decide (a10≤a12) && (areSeenB l11 (l4.length:Int) a12 && decide (0≤a12∧a12≤100000)))))
def worldB (a0_0:Int) (l0_1:(List S133)) (l0_2:(List Int)) (l0_3:(List Int)) (l0_4:(List S103)) (l0_5:(List Int)) (l0_6:(List Int)) (a0_7:Int) (a0_8:Int) (a0_9:Int) (a0_10:Int) (l0_11:(List S62)) (a0_12:Int):Bool:=(l0_2.all fun x=>decide (0≤x∧x≤100)) && ((l0_5.all fun x=>decide (0≤x∧x≤5)) && (netB a0_0 l0_1 && (decide ((l0_2.length:Int)=(l0_1.length:Int)) && (setB l0_3 (l0_1.length:Int) && (!decide ((l0_4.length:Int)=0) && (probesB a0_0 l0_1 l0_4 && worldT l0_4 l0_5 l0_6 a0_7 a0_8 a0_9 a0_10 l0_11 a0_12))))))
theorem spec_IsWorld_j2t (a0_0:Int) (l0_1:(List S133)) (l0_2:(List Int)) (l0_3:(List Int)) (l0_4:(List S103)) (l0_5:(List Int)) (l0_6:(List Int)) (a0_7:Int) (a0_8:Int) (a0_9:Int) (a0_10:Int) (l0_11:(List S62)) (a0_12:Int):Ev (fun k=>spec_IsWorld.j2 k true a0_0 l0_1 l0_2 l0_3 l0_4 l0_5 l0_6 a0_7 a0_8 a0_9 a0_10 l0_11 a0_12) false:=Ev.step (fun k=>by rw [spec_IsWorld.j2]) (evPos rfl (Ev.now _))
theorem spec_IsWorld_j2f (a0_0:Int) (l0_1:(List S133)) (l0_2:(List Int)) (l0_3:(List Int)) (l0_4:(List S103)) (l0_5:(List Int)) (l0_6:(List Int)) (a0_7:Int) (a0_8:Int) (a0_9:Int) (a0_10:Int) (l0_11:(List S62)) (a0_12:Int) (h:okW' l0_1 l0_2 l0_3 l0_4 l0_5 l0_6 l0_11):Ev (fun k=>spec_IsWorld.j2 k false a0_0 l0_1 l0_2 l0_3 l0_4 l0_5 l0_6 a0_7 a0_8 a0_9 a0_10 l0_11 a0_12) (worldT l0_4 l0_5 l0_6 a0_7 a0_8 a0_9 a0_10 l0_11 a0_12) :=by
 obtain ⟨o1,o2,o3,⟨o4,o4p⟩,o5,o6,o11⟩ :=h
 refine Ev.step (fun k=>by rw [spec_IsWorld.j2]) (evNeg (by decide) ?_)
 exact evAndP (Ev.bind (spec_l29Set_ev l0_6 6 o6 (by decide)) (evAndW (evSome (spec_IsBucket_eq _ _ _ _) (evAndW (evAndP (Ev.bind (spec_AreSeen_ev l0_11 _ _ o11) (evAndW (evSome (spec_l1In_eq _ _ _) (Ev.now _)))))))))
theorem spec_IsWorld_l1 (a0_0:Int) (l0_1:(List S133)) (l0_2:(List Int)) (l0_3:(List Int)) (l0_4:(List S103)) (l0_5:(List Int)) (l0_6:(List Int)) (a0_7:Int) (a0_8:Int) (a0_9:Int) (a0_10:Int) (l0_11:(List S62)) (a0_12:Int) (h:okW' l0_1 l0_2 l0_3 l0_4 l0_5 l0_6 l0_11):∀ (suf pre:List Int),l0_5=pre ++ suf →
  Ev (fun k=>spec_IsWorld.l1 k (pre.length:Int) a0_0 l0_1 l0_2 l0_3 l0_4 l0_5 l0_6 a0_7 a0_8 a0_9 a0_10 l0_11 a0_12) ((suf.all fun x=>decide (0≤x∧x≤5)) && (netB a0_0 l0_1 && (decide ((l0_2.length:Int)=(l0_1.length:Int)) && (setB l0_3 (l0_1.length:Int) && (!decide ((l0_4.length:Int)=0) && (probesB a0_0 l0_1 l0_4 && worldT l0_4 l0_5 l0_6 a0_7 a0_8 a0_9 a0_10 l0_11 a0_12)))))) :=by
 have jt:=spec_IsWorld_j2t a0_0 l0_1 l0_2 l0_3 l0_4 l0_5 l0_6 a0_7 a0_8 a0_9 a0_10 l0_11 a0_12
 have jf:=spec_IsWorld_j2f a0_0 l0_1 l0_2 l0_3 l0_4 l0_5 l0_6 a0_7 a0_8 a0_9 a0_10 l0_11 a0_12 h
 obtain ⟨o1,o2,o3,⟨o4,o4p⟩,o5,o6,o11⟩ :=h
 intro suf
 induction suf with
 | nil =>
  intro pre e
  have el:l0_5.length=pre.length:=by rw [e];simp
  refine Ev.step (fun k=>by rw [spec_IsWorld.l1]) ?_
  rw [List.all_nil,Bool.true_and]
  refine evNeg (by omega) (Ev.bind (spec_IsNet_ev a0_0 l0_1 o1) (evAndE (evAndQ (Ev.bind (spec_l29Set_ev l0_3 _ o3 ⟨by omega,by omega⟩) (evAndE ?_ jt)) jt) jt))
  by_cases h0:(l0_4.length:Int)=0
  ·exact evPos h0 (evEq (by rw [decide_eq_true h0];rfl) jt)
  ·refine evNeg h0 (Ev.bind (spec_AreProbes_ev a0_0 l0_1 l0_4 o1 o4 o4p) ?_)
   rw [decide_eq_false h0,Bool.not_false,Bool.true_and]
   cases probesB a0_0 l0_1 l0_4 with
   | true=>exact jf
   | false=>exact jt
 | cons x suf ih =>
  intro pre e
  have el:l0_5.length=pre.length + (suf.length + 1) :=by rw [e];simp
  have h:=ih (pre ++ [x]) (by rw [e];simp)
  have hr:rd l0_5 (pre.length:Int)=x:=by rw [e];exact rd_mid pre suf x
  refine Ev.step (fun k=>by rw [spec_IsWorld.l1]) ?_
  refine evPos (by omega) (evPos (by omega) ?_)
  rw [hr,wsucc (by omega),List.all_cons,Bool.and_assoc]
  refine evSome (spec_l1In_eq _ _ _) (evAndW (Ev.congr (fun k=>?_) h))
  simp
theorem spec_IsWorld_l0 (a0_0:Int) (l0_1:(List S133)) (l0_2:(List Int)) (l0_3:(List Int)) (l0_4:(List S103)) (l0_5:(List Int)) (l0_6:(List Int)) (a0_7:Int) (a0_8:Int) (a0_9:Int) (a0_10:Int) (l0_11:(List S62)) (a0_12:Int) (h:okW' l0_1 l0_2 l0_3 l0_4 l0_5 l0_6 l0_11):∀ (suf pre:List Int),l0_2=pre ++ suf →
  Ev (fun k=>spec_IsWorld.l0 k (pre.length:Int) a0_0 l0_1 l0_2 l0_3 l0_4 l0_5 l0_6 a0_7 a0_8 a0_9 a0_10 l0_11 a0_12) ((suf.all fun x=>decide (0≤x∧x≤100)) && ((l0_5.all fun x=>decide (0≤x∧x≤5)) && (netB a0_0 l0_1 && (decide ((l0_2.length:Int)=(l0_1.length:Int)) && (setB l0_3 (l0_1.length:Int) && (!decide ((l0_4.length:Int)=0) && (probesB a0_0 l0_1 l0_4 && worldT l0_4 l0_5 l0_6 a0_7 a0_8 a0_9 a0_10 l0_11 a0_12))))))) :=by
 have h1:=spec_IsWorld_l1 a0_0 l0_1 l0_2 l0_3 l0_4 l0_5 l0_6 a0_7 a0_8 a0_9 a0_10 l0_11 a0_12 h l0_5 [] rfl
 obtain ⟨o1,o2,o3,⟨o4,o4p⟩,o5,o6,o11⟩ :=h
 intro suf
 induction suf with
 | nil =>
  intro pre e
  have el:l0_2.length=pre.length:=by rw [e];simp
  refine Ev.step (fun k=>by rw [spec_IsWorld.l0]) ?_
  rw [List.all_nil,Bool.true_and]
  exact evNeg (by omega) (by simpa using h1)
 | cons x suf ih =>
  intro pre e
  have el:l0_2.length=pre.length + (suf.length + 1) :=by rw [e];simp
  have h:=ih (pre ++ [x]) (by rw [e];simp)
  have hr:rd l0_2 (pre.length:Int)=x:=by rw [e];exact rd_mid pre suf x
  refine Ev.step (fun k=>by rw [spec_IsWorld.l0]) ?_
  refine evPos (by omega) (evPos (by omega) ?_)
  rw [hr,wsucc (by omega),List.all_cons,Bool.and_assoc]
  refine evSome (spec_l1In_eq _ _ _) (evAndW (Ev.congr (fun k=>?_) h))
  simp
theorem spec_IsWorld_ev (a0_0:Int) (l0_1:(List S133)) (l0_2:(List Int)) (l0_3:(List Int)) (l0_4:(List S103)) (l0_5:(List Int)) (l0_6:(List Int)) (a0_7:Int) (a0_8:Int) (a0_9:Int) (a0_10:Int) (l0_11:(List S62)) (a0_12:Int) (h:okW' l0_1 l0_2 l0_3 l0_4 l0_5 l0_6 l0_11):Ev (fun k=>spec_IsWorld.f k a0_0 l0_1 l0_2 l0_3 l0_4 l0_5 l0_6 a0_7 a0_8 a0_9 a0_10 l0_11 a0_12) (worldB a0_0 l0_1 l0_2 l0_3 l0_4 l0_5 l0_6 a0_7 a0_8 a0_9 a0_10 l0_11 a0_12) :=by
 have h0:=spec_IsWorld_l0 a0_0 l0_1 l0_2 l0_3 l0_4 l0_5 l0_6 a0_7 a0_8 a0_9 a0_10 l0_11 a0_12 h l0_2 [] rfl
 unfold spec_IsWorld.f
 simpa [worldB] using h0
/-! ### drawworld -/
def probOK (nd:Int) (lk:List S133) (h:List Int):Bool:=match spec_ProbesOf.f 400 nd lk h with
 | some r=>decide (r.length≤12) && r.all fun p=>decide (p.f2.length≤100)
 | none=>false
theorem probesOf_ok {nd:Int} {lk:List S133} {h:List Int} (hk:probOK nd lk h=true):∃ r,Ev (fun k=>spec_ProbesOf.f k nd lk h) r∧r.length≤12∧∀ p∈r,p.f2.length≤100:=by
 unfold probOK at hk
 split at hk
 ·rename_i r hr
  rw [Bool.and_eq_true,decide_eq_true_eq,List.all_eq_true] at hk
  exact ⟨r,Ev.of (fun k=>spec_ProbesOf.mono nd lk h k) hr,hk.1,fun p hp=>by simpa using hk.2 p hp⟩
 ·cases hk
abbrev exN (v:Int):Int × List S133:=if v=0 then (5,[⟨0,4⟩,⟨1,4⟩,⟨2,4⟩,⟨3,4⟩]) else if v=1 then (6,[⟨0,4⟩,⟨1,4⟩,⟨4,5⟩,⟨5,2⟩,⟨5,3⟩]) else (4,[⟨0,1⟩,⟨1,2⟩,⟨2,3⟩,⟨0,3⟩])
theorem ok0a:probOK 5 [⟨0,4⟩,⟨1,4⟩,⟨2,4⟩,⟨3,4⟩] [0,1,2,3]=true:=by decide +kernel
theorem ok0b:probOK 5 [⟨0,4⟩,⟨1,4⟩,⟨2,4⟩,⟨3,4⟩] [0,1,2]=true:=by decide +kernel
theorem ok1a:probOK 6 [⟨0,4⟩,⟨1,4⟩,⟨4,5⟩,⟨5,2⟩,⟨5,3⟩] [0,1,2,3]=true:=by decide +kernel
theorem ok1b:probOK 6 [⟨0,4⟩,⟨1,4⟩,⟨4,5⟩,⟨5,2⟩,⟨5,3⟩] [0,1,2]=true:=by decide +kernel
theorem ok2a:probOK 4 [⟨0,1⟩,⟨1,2⟩,⟨2,3⟩,⟨0,3⟩] [0,1,2,3]=true:=by decide +kernel
theorem ok2b:probOK 4 [⟨0,1⟩,⟨1,2⟩,⟨2,3⟩,⟨0,3⟩] [0,1,2]=true:=by decide +kernel
theorem exN_ok {v:Int} (h:0≤v∧v < 3):spec_ExampleNet.f (wrap64 (1 + v))=some (exN v) ∧(exN v).2.length≤6∧probOK (exN v).1 (exN v).2 [0,1,2,3]=true∧probOK (exN v).1 (exN v).2 [0,1,2]=true:=by
 have:v=0∨v=1∨v=2:=by omega
 rcases this with rfl|rfl|rfl
 ·exact ⟨(congrArg spec_ExampleNet.f (show wrap64 (1 + 0)=1 by decide +kernel)).trans rfl,by decide,ok0a,ok0b⟩
 ·exact ⟨(congrArg spec_ExampleNet.f (show wrap64 (1 + 1)=2 by decide +kernel)).trans rfl,by decide,ok1a,ok1b⟩
 ·exact ⟨(congrArg spec_ExampleNet.f (show wrap64 (1 + 2)=3 by decide +kernel)).trans rfl,by decide,ok2a,ok2b⟩
/-- What a drawn world is known to be. -/
structure WOk (lk:List S133) (de:List Int) (pr:List S103) (ow:List Int):Prop where
 l1:lk.length≤6
 l2:de.length≤6
 l4:pr.length≤12
 l4p:∀ p∈pr,p.f2.length≤100
 l5:ow.length≤12
 fine:pr=[] ∨(1≤lk.length∧de.length=lk.length∧(∀ d∈de,0≤d∧d≤100) ∧(∀ p∈pr,pathB lk p.f2 p.f0 p.f1=true) ∧ow.length=pr.length∧∀ o∈ow,0≤o∧o≤5)
theorem l29Net_eq (nd:Int) (lk:List S133) (h:lk.length≤6):spec_l29Net.f nd lk=some (nd,lk) :=by
 unfold spec_l29Net.f
 rw [Option.bind_some,if_pos (by simp;omega)]
 rfl
theorem newWorld_ev {nd:Int} {lk:List S133} {de h ow:List Int} {r:List S103} (hE:Ev (fun k=>spec_ProbesOf.f k nd lk h) r) (hl:lk.length≤6) (hd:de.length≤6) (ho:ow.length≤12) (hr:r.length≤12) (hp:∀ p∈r,p.f2.length≤100) :
  ∃ nd' lk' de' pr' ow' b0 b1 b2 b3 t,Ev (fun k=>spec_NewWorld.f k nd lk de h ow) (nd',lk',de',[],pr',ow',[],b0,b1,b2,b3,[],0,t) ∧WOk lk' de' pr' ow':=by
 have hw:=spec_IsWorld_ev nd lk de [] r ow [] 12 12 4 0 [] 0 ⟨by omega,by omega,by simp,⟨by omega,fun p h=>Nat.le_trans (hp p h) (by omega)⟩,by omega,by simp,by simp⟩
 have hgo:∀ R,Ev (fun k=>(spec_IsWorld.f k nd lk de [] r ow [] 12 12 4 0 [] 0).bind fun t287=>(if t287=true then (some (nd,lk,de,([]:List Int),r,ow,([]:List Int),12,12,4,0,([]:List S62),0,true)) else (some (0,([]:List S133),([]:List Int),([]:List Int),([]:List S103),([]:List Int),([]:List Int),0,0,0,0,([]:List S62),0,false)))) R→Ev (fun k=>spec_NewWorld.f k nd lk de h ow) R:=by
  intro R hR
  unfold spec_NewWorld.f
  exact evSome (l29Net_eq nd lk hl) (evSome (a:=[]) rfl (evPos (by simp;omega) (evSome (a:=de) rfl (Ev.bind hE (evSome (a:=[]) rfl (evPos (by simp;omega) (evSome (a:=ow) rfl hR)))))))
 by_cases hb:worldB nd lk de [] r ow [] 12 12 4 0 [] 0=true
 ·refine ⟨nd,lk,de,r,ow,12,12,4,0,true,hgo _ (Ev.bind hw (evPos hb (Ev.now _))),⟨hl,hd,hr,hp,ho,.inr ?_⟩⟩
  rw [worldB] at hb
  simp only [Bool.and_eq_true,List.all_eq_true,decide_eq_true_eq] at hb
  obtain ⟨h1,h2,h3,h4,h5,h6,h7,h8⟩ :=hb
  rw [netB] at h3
  simp only [Bool.and_eq_true,decide_eq_true_eq] at h3
  rw [probesB] at h7
  simp only [Bool.and_eq_true,List.all_eq_true] at h7
  rw [worldT] at h8
  simp only [Bool.and_eq_true,decide_eq_true_eq] at h8
  refine ⟨by omega,by omega,h1,fun p hp=>?_,by omega,h2⟩
  have:=h7.1 p hp
  rw [okProbe,Bool.and_eq_true] at this
  exact this.2
 ·refine ⟨0,[],[],[],[],0,0,0,0,false,hgo _ (Ev.bind hw (evNeg hb (Ev.now _))),⟨by simp,by simp,by simp,by simp,by simp,.inl rfl⟩⟩
theorem l29_l1 (b:List Int) (nd:Int) (lk:List S133) (de h:List Int) (r:List S103) (hE:Ev (fun k=>spec_ProbesOf.f k nd lk h) r) (hl:lk.length≤6) (hd:de.length≤6) (hr:r.length≤12) (hp:∀ p∈r,p.f2.length≤100) (i h':Int):∀ (d:Nat) (x8:List Int),x8.length + d=r.length →
  ∃ nd' lk' de' pr' ow' b0 b1 b2 b3,Ev (fun k=>spec_l29World.l1 k de h x8 (x8.length:Int) b i h' nd lk) (nd',lk',de',[],pr',ow',[],b0,b1,b2,b3,[],0,i,h') ∧WOk lk' de' pr' ow':=by
 intro d
 induction d with
 | zero =>
  intro x8 hx
  obtain ⟨nd',lk',de',pr',ow',b0,b1,b2,b3,t,e,ok⟩ :=newWorld_ev (ow:=x8) (de:=de) hE hl hd (by omega) hr hp
  refine ⟨nd',lk',de',pr',ow',b0,b1,b2,b3,Ev.step (fun k=>by rw [spec_l29World.l1]) ?_,ok⟩
  exact Ev.bind hE (evNeg (by omega) (Ev.bind e (Ev.now _)))
 | succ d ih =>
  intro x8 hx
  obtain ⟨nd',lk',de',pr',ow',b0,b1,b2,b3,e,ok⟩ :=ih (x8 ++ [Int.tmod (x8.length:Int) 3]) (by simp;omega)
  refine ⟨nd',lk',de',pr',ow',b0,b1,b2,b3,Ev.step (fun k=>by rw [spec_l29World.l1]) ?_,ok⟩
  refine Ev.bind hE (evPos (by omega) (evPos (by omega) ?_))
  rw [wsucc (by omega)]
  simpa using e
theorem l29_l0 (b:List Int) (nd:Int) (lk:List S133) (hl:lk.length≤6) (h4:probOK nd lk [0,1,2,3]=true) (h3:probOK nd lk [0,1,2]=true):∀ (d:Nat) (x5:List Int) (i h:Int),cur b i→x5.length + d=lk.length →
  ∃ nd' lk' de' pr' ow' b0 b1 b2 b3 i' h',Ev (fun k=>spec_l29World.l0 k x5 (x5.length:Int) b i h nd lk) (nd',lk',de',[],pr',ow',[],b0,b1,b2,b3,[],0,i',h') ∧cur b i'∧WOk lk' de' pr' ow':=by
 intro d
 induction d with
 | zero =>
  intro x5 i h hc hx
  obtain ⟨t,i1,h1,e1,c1⟩ :=l1Once_eq b i h 3 hc (by omega)
  cases t with
  | true =>
   obtain ⟨r,hE,hr,hp⟩ :=probesOf_ok h3
   obtain ⟨nd',lk',de',pr',ow',b0,b1,b2,b3,e,ok⟩ :=l29_l1 b nd lk x5 [0,1,2] r hE hl (by omega) hr hp i1 h1 r.length [] (by simp)
   refine ⟨nd',lk',de',pr',ow',b0,b1,b2,b3,i1,h1,Ev.step (fun k=>by rw [spec_l29World.l0]) ?_,c1,ok⟩
   refine evNeg (by omega) (evSome (a:=[0,1,2,3]) rfl (evSome e1 (evPos rfl (evPos (by decide) (Ev.step (fun k=>by rw [spec_l29World.j1]) ?_)))))
   simpa using e
  | false =>
   obtain ⟨r,hE,hr,hp⟩ :=probesOf_ok h4
   obtain ⟨nd',lk',de',pr',ow',b0,b1,b2,b3,e,ok⟩ :=l29_l1 b nd lk x5 [0,1,2,3] r hE hl (by omega) hr hp i1 h1 r.length [] (by simp)
   refine ⟨nd',lk',de',pr',ow',b0,b1,b2,b3,i1,h1,Ev.step (fun k=>by rw [spec_l29World.l0]) ?_,c1,ok⟩
   refine evNeg (by omega) (evSome (a:=[0,1,2,3]) rfl (evSome e1 (evNeg (by simp) (Ev.step (fun k=>by rw [spec_l29World.j1]) ?_))))
   simpa using e
 | succ d ih =>
  intro x5 i h hc hx
  obtain ⟨v,i1,h1,e1,c1,p1,q1⟩ :=l1Below_eq b i h 40 hc (by omega)
  obtain ⟨nd',lk',de',pr',ow',b0,b1,b2,b3,i',h',e,hc',ok⟩ :=ih (x5 ++ [v]) i1 h1 c1 (by simp;omega)
  refine ⟨nd',lk',de',pr',ow',b0,b1,b2,b3,i',h',Ev.step (fun k=>by rw [spec_l29World.l0]) ?_,hc',ok⟩
  refine evPos (by omega) (evSome e1 (evPos (by omega) ?_))
  rw [wsucc (by omega)]
  simpa using e
theorem l29World_ev (b:List Int) (i h:Int) (hc:cur b i):∃ nd' lk' de' pr' ow' b0 b1 b2 b3 i' h',Ev (fun k=>spec_l29World.f k b i h) (nd',lk',de',[],pr',ow',[],b0,b1,b2,b3,[],0,i',h') ∧cur b i'∧WOk lk' de' pr' ow':=by
 obtain ⟨v,i1,h1,e1,c1,p1,q1⟩ :=l1Below_eq b i h 3 hc (by omega)
 obtain ⟨a1,a2,a3,a4⟩ :=exN_ok ⟨p1,q1⟩
 obtain ⟨nd',lk',de',pr',ow',b0,b1,b2,b3,i',h',e,hc',ok⟩ :=l29_l0 b (exN v).1 (exN v).2 a2 a3 a4 (exN v).2.length [] i1 h1 c1 (by simp)
 refine ⟨nd',lk',de',pr',ow',b0,b1,b2,b3,i',h',?_,hc',ok⟩
 unfold spec_l29World.f
 exact evSome e1 (evSome a1 (by simpa using e))
theorem l15Set_l0 (b:List Int) (n:Nat) (hn:n≤100):∀ (d j:Nat) (x5:List Int) (i h:Int),cur b i→j + d=n→x5.length≤j →
  ∃ s i' h',Ev (fun k=>spec_l15Set.l0 k (n:Int) x5 (j:Int) b i h) (s,i',h') ∧cur b i'∧s.length≤n:=by
 intro d
 induction d with
 | zero =>
  intro j x5 i h hc hj hx
  exact ⟨x5,i,h,Ev.step (fun k=>by rw [spec_l15Set.l0]) (evNeg (by omega) (Ev.now _)),hc,by omega⟩
 | succ d ih =>
  intro j x5 i h hc hj hx
  obtain ⟨t,i1,h1,e1,c1⟩ :=l1Once_eq b i h 3 hc (by omega)
  cases t with
  | true =>
   obtain ⟨s,i',h',e,hc',hs⟩ :=ih (j + 1) (x5 ++ [(j:Int)]) i1 h1 c1 (by omega) (by simp;omega)
   refine ⟨s,i',h',Ev.step (fun k=>by rw [spec_l15Set.l0]) ?_,hc',hs⟩
   refine evPos (by omega) (evSome e1 (evPos rfl (evPos (by omega) ?_)))
   rw [wsucc (by omega)]
   exact e
  | false =>
   obtain ⟨s,i',h',e,hc',hs⟩ :=ih (j + 1) x5 i1 h1 c1 (by omega) (by omega)
   refine ⟨s,i',h',Ev.step (fun k=>by rw [spec_l15Set.l0]) ?_,hc',hs⟩
   refine evPos (by omega) (evSome e1 (evNeg (by simp) ?_))
   rw [wsucc (by omega)]
   exact e
theorem l15Set_ev (b:List Int) (n:Nat) (hn:n≤100) (i h:Int) (hc:cur b i):∃ s i' h',Ev (fun k=>spec_l15Set.f k b i h (n:Int)) (s,i',h') ∧cur b i'∧s.length≤n:=by
 obtain ⟨s,i',h',e,hh⟩ :=l15Set_l0 b n hn n 0 [] i h hc (by omega) (by simp)
 exact ⟨s,i',h',by simpa [spec_l15Set.f] using e,hh⟩
theorem l30World_ev (b:List Int) (i h:Int) (hc:cur b i):∃ nd lk de dn pr ow li b0 b1 b2 b3 nw i' h',Ev (fun k=>spec_l30World.f k b i h) (nd,lk,de,dn,pr,ow,li,b0,b1,b2,b3,[],nw,i',h') ∧cur b i'∧WOk lk de pr ow∧dn.length≤6∧li.length≤1:=by
 obtain ⟨nd,lk,de,pr,ow,b0,b1,b2,b3,i1,h1,e1,c1,ok⟩ :=l29World_ev b i h hc
 obtain ⟨dn,i2,h2,e2,c2,hdn⟩ :=l15Set_ev b lk.length (by have:=ok.l1;omega) i1 h1 c1
 obtain ⟨t,i3,h3,e3,c3⟩ :=l1Once_eq b i2 h2 2 c2 (by omega)
 unfold spec_l30World.f
 cases t with
 | true =>
  obtain ⟨v,i4,h4,e4,c4,_,_⟩ :=l1Below_eq b i3 h3 4 c3 (by omega)
  obtain ⟨v5,i5,h5,e5,c5,_,_⟩ :=l1Below_eq b i4 h4 9 c4 (by omega)
  exact ⟨_,_,_,_,_,_,_,_,_,_,_,_,_,_,Ev.bind e1 (Ev.bind e2 (evSome e3 (evPos rfl (evSome e4 (evSome e5 (Ev.now _)))))),c5,ok,by have:=ok.l1;show dn.length≤6;omega,by simp⟩
 | false =>
  obtain ⟨v5,i5,h5,e5,c5,_,_⟩ :=l1Below_eq b i3 h3 9 c3 (by omega)
  exact ⟨_,_,_,_,_,_,_,_,_,_,_,_,_,_,Ev.bind e1 (Ev.bind e2 (evSome e3 (evNeg (by simp) (evSome e5 (Ev.now _))))),c5,ok,by have:=ok.l1;show dn.length≤6;omega,by simp⟩
theorem drawObserve_ev (b:List Int) (hb:b.length≤1048576):∃ nd lk de dn pr ow li b0 b1 b2 b3 nw p,Ev (fun k=>spec_DrawObserve.f k b) (nd,lk,de,dn,pr,ow,li,b0,b1,b2,b3,[],nw,p) ∧WOk lk de pr ow∧dn.length≤6∧li.length≤1:=by
 obtain ⟨h,e1,c1⟩ :=l1New_ev b (by omega)
 obtain ⟨nd,lk,de,dn,pr,ow,li,b0,b1,b2,b3,nw,i2,h2,e2,c2,hh⟩ :=l30World_ev b 0 h c1
 obtain ⟨v,i3,h3,e3,c3,_,_⟩ :=l1Below_eq b i2 h2 (wrap64 ((pr.length:Int) + 2)) c2 (by have:=hh.1.l4;rw [w64 (by omega) (by omega)];omega)
 unfold spec_DrawObserve.f spec_DrawTrueDelay.f
 exact ⟨_,_,_,_,_,_,_,_,_,_,_,_,_,Ev.bind (Ev.bind e1 (Ev.bind e2 (evSome e3 (Ev.now _)))) (Ev.now _),hh⟩
/-! ### probeok -/
theorem probe_ok {pr:List S103} (h:okP' pr) (p:Int):(pr.getD p.toNat z103).f2.length≤1048576:=by
 rw [List.getD_eq_getElem?_getD]
 rcases e:pr[p.toNat]? with _|q
 ·simp [z103]
 ·exact h.2 q (List.mem_of_getElem? e)
/-! ### truedelay -/
def delayF (de:List Int):Int→List Int→Int
 | s,[] =>s
 | s,k :: ks=>delayF de (if 0≤k∧k < (de.length:Int) then wrap64 (s + rd de k) else s) ks
def trueDelayV (de:List Int) (pr:List S103) (p:Int):Int:=if 0≤p∧p < (pr.length:Int) then delayF de 0 (pr.getD p.toNat z103).f2 else -1
theorem impl_TrueDelay_l0 (nd:Int) (lk:List S133) (de dn:List Int) (pr:List S103) (ow li:List Int) (b0 b1 b2 b3:Int) (se:List S62) (nw:Int) (hd:de.length≤1048576) :
  ∀ (suf pre:List Int) (s:Int),(pre ++ suf).length≤1048576 →
  Ev (fun k=>impl_TrueDelay.l0 k s (pre ++ suf) ((pre ++ suf).length:Int) (pre.length:Int) nd lk de dn pr ow li b0 b1 b2 b3 se nw) (delayF de s suf) :=by
 intro suf
 induction suf with
 | nil =>
  intro pre s hb
  refine Ev.step (fun k=>by rw [impl_TrueDelay.l0]) ?_
  exact evNeg (by simp) (Ev.now _)
 | cons x suf ih =>
  intro pre s hb
  simp only [List.length_append,List.length_cons] at hb
  refine Ev.step (fun k=>by rw [impl_TrueDelay.l0]) ?_
  refine evPos (by simp only [List.length_append,List.length_cons];omega) (evPos (by omega) (evPos (by simp only [List.length_append,List.length_cons];omega) ?_))
  rw [rd_mid,wsucc (by omega)]
  refine evSome (impl_at_eq _ _) ?_
  have h:=fun s=>ih (pre ++ [x]) s (by simp;omega)
  by_cases hx:0≤x∧x < (de.length:Int)
  ·refine evPos (by simpa using hx) (evPos hx.1 (evPos hx.2 (evEq ?_ (Ev.congr (fun k=>?_) (h (wrap64 (s + rd de x)))))))
   ·rw [delayF,if_pos hx]
   ·simp
  ·refine evNeg (by simpa using hx) (evEq ?_ (Ev.congr (fun k=>?_) (h s)))
   ·rw [delayF,if_neg hx]
   ·simp
theorem impl_TrueDelay_ev (nd:Int) (lk:List S133) (de dn:List Int) (pr:List S103) (ow li:List Int) (b0 b1 b2 b3:Int) (se:List S62) (nw p:Int) (h:okW' lk de dn pr ow li se) :
  Ev (fun k=>impl_TrueDelay.f k nd lk de dn pr ow li b0 b1 b2 b3 se nw p) (trueDelayV de pr p) :=by
 unfold impl_TrueDelay.f
 refine evSome (impl_at_eq _ _) ?_
 by_cases hp:0≤p∧p < (pr.length:Int)
 ·refine evPos (by simpa using hp) (evPos hp.1 (evPos hp.2 ?_))
  have h2:=impl_TrueDelay_l0 nd lk de dn pr ow li b0 b1 b2 b3 se nw h.2.1 (pr.getD p.toNat z103).f2 [] 0 (by simpa using probe_ok h.2.2.2.1 p)
  refine evEq ?_ h2
  rw [trueDelayV,if_pos hp]
 ·refine evNeg (by simpa using hp) (evEq ?_ (Ev.now _))
  rw [trueDelayV,if_neg hp]
theorem spec_TrueDelay_l0 (nd:Int) (lk:List S133) (de dn:List Int) (pr:List S103) (ow li:List Int) (b0 b1 b2 b3:Int) (se:List S62) (nw:Int) (hd:de.length≤1048576) :
  ∀ (suf pre:List Int) (s:Int),(pre ++ suf).length≤1048576 →
  Ev (fun k=>spec_TrueDelay.l0 k s (pre ++ suf) (pre.length:Int) nd lk de dn pr ow li b0 b1 b2 b3 se nw) (delayF de s suf) :=by
 intro suf
 induction suf with
 | nil =>
  intro pre s hb
  refine Ev.step (fun k=>by rw [spec_TrueDelay.l0]) ?_
  exact evNeg (by simp) (Ev.now _)
 | cons x suf ih =>
  intro pre s hb
  simp only [List.length_append,List.length_cons] at hb
  refine Ev.step (fun k=>by rw [spec_TrueDelay.l0]) ?_
  refine evPos (by simp only [List.length_append,List.length_cons];omega) (evPos (by omega) ?_)
  rw [rd_mid,wsucc (by omega),w64 (n:=(de.length:Int) - 1) (by omega) (by omega)]
  refine evSome (spec_l1In_eq _ _ _) ?_
  have h:=fun s=>ih (pre ++ [x]) s (by simp;omega)
  by_cases hx:0≤x∧x < (de.length:Int)
  ·refine evPos (by simp;omega) (evPos hx.1 (evPos hx.2 (evEq ?_ (Ev.congr (fun k=>?_) (h (wrap64 (s + rd de x)))))))
   ·rw [delayF,if_pos hx]
   ·simp
  ·refine evNeg (by simp;omega) (evEq ?_ (Ev.congr (fun k=>?_) (h s)))
   ·rw [delayF,if_neg hx]
   ·simp
theorem spec_TrueDelay_ev (nd:Int) (lk:List S133) (de dn:List Int) (pr:List S103) (ow li:List Int) (b0 b1 b2 b3:Int) (se:List S62) (nw p:Int) (h:okW' lk de dn pr ow li se) :
  Ev (fun k=>spec_TrueDelay.f k nd lk de dn pr ow li b0 b1 b2 b3 se nw p) (trueDelayV de pr p) :=by
 have h4:=h.2.2.2.1.1
 unfold spec_TrueDelay.f
 rw [w64 (by omega) (by omega)]
 refine evSome (spec_l1In_eq _ _ _) ?_
 by_cases hp:0≤p∧p < (pr.length:Int)
 ·refine evPos (by simp;omega) (evPos hp.1 (evPos hp.2 ?_))
  have h2:=spec_TrueDelay_l0 nd lk de dn pr ow li b0 b1 b2 b3 se nw h.2.1 (pr.getD p.toNat z103).f2 [] 0 (by simpa using probe_ok h.2.2.2.1 p)
  refine evEq ?_ h2
  rw [trueDelayV,if_pos hp]
 ·refine evNeg (by simp;omega) (evEq ?_ (Ev.now _))
  rw [trueDelayV,if_neg hp]
/-! ### lie -/
def lieV (ow li:List Int) (p:Int):Int:=if (0≤p∧p < (ow.length:Int)) ∧hasB li (rd ow p)=true∧(0≤rd ow p∧rd ow p≤5) then 7 + rd ow p else 0
theorem spec_LieOf_ev (nd:Int) (lk:List S133) (de dn:List Int) (pr:List S103) (ow li:List Int) (b0 b1 b2 b3:Int) (se:List S62) (nw p:Int) (h:okW' lk de dn pr ow li se) :
  Ev (fun k=>spec_LieOf.f k nd lk de dn pr ow li b0 b1 b2 b3 se nw p) (lieV ow li p) :=by
 have h5:=h.2.2.2.2.1
 have h6:=h.2.2.2.2.2.1
 unfold spec_LieOf.f
 rw [w64 (n:=(ow.length:Int) - 1) (by omega) (by omega)]
 refine evSome (spec_l1In_eq _ _ _) ?_
 by_cases hp:0≤p∧p < (ow.length:Int)
 ·refine evPos (by simp;omega) (evPos hp.1 (evPos hp.2 (Ev.bind (spec_l7Has_ev li _ h6) ?_)))
  by_cases hh:hasB li (rd ow p)=true
  ·refine evPos hh (evSome (spec_l1In_eq _ _ _) ?_)
   by_cases ho:0≤rd ow p∧rd ow p≤5
   ·refine evPos (by simpa using ho) (evEq ?_ (Ev.now _))
    rw [lieV,if_pos ⟨hp,hh,ho⟩,w64 (by omega) (by omega)]
   ·refine evNeg (by simpa using ho) (evEq ?_ (Ev.now _))
    rw [lieV,if_neg (fun c=>ho c.2.2)]
  ·refine evNeg hh (evEq ?_ (Ev.now _))
   rw [lieV,if_neg (fun c=>hh c.2.1)]
 ·refine evNeg (by simp;omega) (evEq ?_ (Ev.now _))
  rw [lieV,if_neg (fun c=>hp c.1)]
theorem impl_LieOf_ev (nd:Int) (lk:List S133) (de dn:List Int) (pr:List S103) (ow li:List Int) (b0 b1 b2 b3:Int) (se:List S62) (nw p:Int) (h:okW' lk de dn pr ow li se) :
  Ev (fun k=>impl_LieOf.f k nd lk de dn pr ow li b0 b1 b2 b3 se nw p) (lieV ow li p) :=by
 have h6:=h.2.2.2.2.2.1
 unfold impl_LieOf.f
 refine evSome (impl_at_eq _ _) ?_
 by_cases hp:0≤p∧p < (ow.length:Int)
 ·refine evPos (by simpa using hp) (evPos hp.1 (evPos hp.2 (evSome (impl_at_eq _ _) ?_)))
  by_cases ho:0≤rd ow p∧rd ow p≤5
  ·refine evPos (by simp;omega) (Ev.bind (slices_Contains_ev li _ h6) ?_)
   by_cases hh:hasB li (rd ow p)=true
   ·refine evPos hh (evEq ?_ (Ev.now _))
    rw [lieV,if_pos ⟨hp,hh,ho⟩,w64 (by omega) (by omega)]
   ·refine evNeg hh (evEq ?_ (Ev.now _))
    rw [lieV,if_neg (fun c=>hh c.2.1)]
  ·refine evNeg (by simp;omega) (evEq ?_ (Ev.now _))
   rw [lieV,if_neg (fun c=>ho c.2.2)]
 ·refine evNeg (by simpa using hp) (evEq ?_ (Ev.now _))
  rw [lieV,if_neg (fun c=>hp c.1)]
/-! ### spectruebad -/
theorem spec_TrueBad_l0 (nd:Int) (lk:List S133) (de dn:List Int) (pr:List S103) (ow li:List Int) (b0 b1 b2 b3:Int) (se:List S62) (nw:Int) (hd:dn.length≤1048576) :
  ∀ (suf pre:List Int),(pre ++ suf).length≤1048576→Ev (fun k=>spec_TrueBad.l0 k (pre ++ suf) (pre.length:Int) nd lk de dn pr ow li b0 b1 b2 b3 se nw) (suf.any fun k=>hasB dn k) :=by
 intro suf
 induction suf with
 | nil =>
  intro pre hb
  refine Ev.step (fun k=>by rw [spec_TrueBad.l0]) ?_
  exact evNeg (by simp) (Ev.now _)
 | cons x suf ih =>
  intro pre hb
  simp only [List.length_append,List.length_cons] at hb
  refine Ev.step (fun k=>by rw [spec_TrueBad.l0]) ?_
  refine evPos (by simp only [List.length_append,List.length_cons];omega) (evPos (by omega) ?_)
  rw [rd_mid,wsucc (by omega)]
  refine Ev.bind (spec_l7Has_ev dn x hd) ?_
  rw [List.any_cons]
  by_cases hx:hasB dn x=true
  ·rw [hx]
   exact evPos rfl (Ev.now _)
  ·have hx':hasB dn x=false:=by simpa using hx
   rw [hx']
   have h:=ih (pre ++ [x]) (by simp;omega)
   refine evNeg (by decide) (evEq (by simp) (Ev.congr (fun k=>?_) h))
   simp
theorem spec_TrueBad_ev (nd:Int) (lk:List S133) (de dn:List Int) (pr:List S103) (ow li:List Int) (b0 b1 b2 b3:Int) (se:List S62) (nw p:Int) (h:okW' lk de dn pr ow li se) :
  Ev (fun k=>spec_TrueBad.f k nd lk de dn pr ow li b0 b1 b2 b3 se nw p) (badV nd lk de dn pr ow li b0 b1 b2 b3 se nw p) :=by
 have h4:=h.2.2.2.1.1
 have h3:=h.2.2.1
 unfold spec_TrueBad.f
 rw [w64 (n:=(pr.length:Int) - 1) (by omega) (by omega)]
 refine evSome (spec_l1In_eq _ _ _) ?_
 by_cases hp:0≤p∧p < (pr.length:Int)
 ·refine evPos (by simp;omega) (evPos hp.1 (evPos hp.2 ?_))
  have h2:=spec_TrueBad_l0 nd lk de dn pr ow li b0 b1 b2 b3 se nw h3 (pr.getD p.toNat z103).f2 [] (by simpa using probe_ok h.2.2.2.1 p)
  refine evEq ?_ h2
  rw [badV,if_pos hp]
  rfl
 ·refine evNeg (by simp;omega) (evEq ?_ (Ev.now _))
  rw [badV,if_neg hp]
theorem impl_TrueBad_eq (nd:Int) (lk:List S133) (de dn:List Int) (pr:List S103) (ow li:List Int) (b0 b1 b2 b3:Int) (se:List S62) (nw p:Int) (h:okW' lk de dn pr ow li se) :
  impl_TrueBad.f nd lk de dn pr ow li b0 b1 b2 b3 se nw p=some (badV nd lk de dn pr ow li b0 b1 b2 b3 se nw p) :=by
 unfold impl_TrueBad.f
 rw [if_pos ⟨h.2.2.2.1.2,h.2.2.1,h.2.2.2.1.1⟩]
/-! ### observe -/
def obsV (nd:Int) (lk:List S133) (de dn:List Int) (pr:List S103) (ow li:List Int) (b0 b1 b2 b3:Int) (se:List S62) (nw p:Int):Int × Int × Int × Int × Bool × Bool :=
 if (0≤p∧p < (pr.length:Int)) ∧(0≤p∧p < (ow.length:Int)) then
  (p,rd ow p,nw,if badV nd lk de dn pr ow li b0 b1 b2 b3 se nw p=true then 0 else wrap64 (trueDelayV de pr p + lieV ow li p),badV nd lk de dn pr ow li b0 b1 b2 b3 se nw p,true)
 else (0,0,0,0,false,false)
theorem spec_Observe_ev (nd:Int) (lk:List S133) (de dn:List Int) (pr:List S103) (ow li:List Int) (b0 b1 b2 b3:Int) (se:List S62) (nw p:Int) (h:okW' lk de dn pr ow li se) :
  Ev (fun k=>spec_Observe.f k nd lk de dn pr ow li b0 b1 b2 b3 se nw p) (obsV nd lk de dn pr ow li b0 b1 b2 b3 se nw p) :=by
 have h4:=h.2.2.2.1.1
 have h5:=h.2.2.2.2.1
 unfold spec_Observe.f
 rw [w64 (n:=(pr.length:Int) - 1) (by omega) (by omega),w64 (n:=(ow.length:Int) - 1) (by omega) (by omega)]
 refine evSome (spec_l1In_eq _ _ _) ?_
 by_cases hp:0≤p∧p < (pr.length:Int)
 ·refine evPos (by simp;omega) (evSome (spec_l1In_eq _ _ _) ?_)
  refine Ev.step (fun k=>by rw [spec_Observe.j0]) ?_
  by_cases ho:0≤p∧p < (ow.length:Int)
  ·refine evNeg (by simp;omega) (evPos ho.1 (evPos ho.2 (Ev.bind (spec_TrueBad_ev nd lk de dn pr ow li b0 b1 b2 b3 se nw p h) ?_)))
   by_cases hb:badV nd lk de dn pr ow li b0 b1 b2 b3 se nw p=true
   ·refine evPos hb (evEq ?_ (Ev.now _))
    rw [obsV,if_pos ⟨hp,ho⟩,if_pos hb]
   ·refine evNeg hb (Ev.bind (spec_TrueDelay_ev nd lk de dn pr ow li b0 b1 b2 b3 se nw p h) (Ev.bind (spec_LieOf_ev nd lk de dn pr ow li b0 b1 b2 b3 se nw p h) (evEq ?_ (Ev.now _))))
    rw [obsV,if_pos ⟨hp,ho⟩,if_neg hb]
  ·refine evPos (by simp;omega) (evEq ?_ (Ev.now _))
   rw [obsV,if_neg (fun c=>ho c.2)]
 ·refine evNeg (by simp;omega) (Ev.step (fun k=>by rw [spec_Observe.j0]) (evPos rfl (evEq ?_ (Ev.now _))))
  rw [obsV,if_neg (fun c=>hp c.1)]
theorem impl_Observe_ev (nd:Int) (lk:List S133) (de dn:List Int) (pr:List S103) (ow li:List Int) (b0 b1 b2 b3:Int) (se:List S62) (nw p:Int) (h:okW' lk de dn pr ow li se) :
  Ev (fun k=>impl_Observe.f k nd lk de dn pr ow li b0 b1 b2 b3 se nw p) (obsV nd lk de dn pr ow li b0 b1 b2 b3 se nw p) :=by
 unfold impl_Observe.f
 refine evSome (impl_at_eq _ _) ?_
 by_cases hp:0≤p∧p < (pr.length:Int)
 ·refine evPos (by simpa using hp) (evSome (impl_at_eq _ _) ?_)
  refine Ev.step (fun k=>by rw [impl_Observe.j0]) ?_
  by_cases ho:0≤p∧p < (ow.length:Int)
  ·refine evNeg (by simpa using ho) (evPos ho.1 (evPos ho.2 (evSome (impl_TrueBad_eq nd lk de dn pr ow li b0 b1 b2 b3 se nw p h) ?_)))
   by_cases hb:badV nd lk de dn pr ow li b0 b1 b2 b3 se nw p=true
   ·refine evPos hb (evEq ?_ (Ev.now _))
    rw [obsV,if_pos ⟨hp,ho⟩,if_pos hb]
   ·refine evNeg hb (Ev.bind (impl_TrueDelay_ev nd lk de dn pr ow li b0 b1 b2 b3 se nw p h) (Ev.bind (impl_LieOf_ev nd lk de dn pr ow li b0 b1 b2 b3 se nw p h) (evEq ?_ (Ev.now _))))
    rw [obsV,if_pos ⟨hp,ho⟩,if_neg hb]
  ·refine evPos (by simp;omega) (evEq ?_ (Ev.now _))
   rw [obsV,if_neg (fun c=>ho c.2)]
 ·refine evNeg (by simpa using hp) (Ev.step (fun k=>by rw [impl_Observe.j0]) (evPos rfl (evEq ?_ (Ev.now _))))
  rw [obsV,if_neg (fun c=>hp c.1)]
/-! ### honest -/
def honestB (de:List Int) (pr:List S103) (p d:Int) (b:Bool):Bool:=decide (0≤p∧p < (pr.length:Int)) && (if b=true then decide (d=0) else decide (d=trueDelayV de pr p))
theorem beq_dec (a b:Int):(a == b)=decide (a=b) :=by
 by_cases h:a=b <;> simp [h]
theorem impl_IsHonest_ev (nd:Int) (lk:List S133) (de dn:List Int) (pr:List S103) (ow li:List Int) (b0 b1 b2 b3:Int) (se:List S62) (nw p o t d:Int) (b:Bool) (h:okW' lk de dn pr ow li se) :
  Ev (fun k=>impl_IsHonest.f k nd lk de dn pr ow li b0 b1 b2 b3 se nw p o t d b) (honestB de pr p d b) :=by
 unfold impl_IsHonest.f
 refine evSome (impl_at_eq _ _) ?_
 by_cases hp:0≤p∧p < (pr.length:Int)
 ·refine evPos (by simpa using hp) ?_
  by_cases hb:b=true
  ·refine evPos hb (evEq ?_ (Ev.now _))
   rw [honestB,decide_eq_true hp,if_pos hb,beq_dec,Bool.true_and]
  ·refine evNeg hb (Ev.bind (impl_TrueDelay_ev nd lk de dn pr ow li b0 b1 b2 b3 se nw p h) (evEq ?_ (Ev.now _)))
   rw [honestB,decide_eq_true hp,if_neg hb,beq_dec,Bool.true_and]
 ·refine evNeg (by simpa using hp) (evEq ?_ (Ev.now _))
  rw [honestB,decide_eq_false hp,Bool.false_and]
/-! ### rowof -/
def bitV (path:List Int) (i:Nat):Int:=if hasB path (i:Int)=true then 1 else 0
def rowV (path:List Int) (n:Int):List Int:=if 1≤n∧n≤6 then (List.range n.toNat).map (bitV path) else []
def matV (l:List S103) (n:Int):List (List Int) :=l.map (fun p=>rowV p.f2 n)
theorem rowV_len (p:List Int) (n:Int):(rowV p n).length≤6:=by
 unfold rowV
 split <;> simp <;> omega
theorem hasB_snoc (l:List Int) (x v:Int):hasB (l ++ [x]) v=(hasB l v || decide (x=v)) :=by simp [hasB]
theorem row_set (pre:List Int) (x:Int) (n:Nat) (h0:0≤x) (h1:x < n):((List.range n).map (bitV pre)).set x.toNat 1=(List.range n).map (bitV (pre ++ [x])) :=by
 apply List.ext_getElem
 ·simp
 ·intro i h2 h3
  simp only [List.getElem_set,List.getElem_map,List.getElem_range,bitV,hasB_snoc]
  by_cases e:x.toNat=i
  ·have e2:x=(i:Int) :=by omega
   simp [e2]
  ·have e2:¬ x=(i:Int) :=by omega
   simp [e,e2]
theorem row_keep (pre:List Int) (x:Int) (n:Nat) (h:¬ (0≤x∧x < (n:Int))):(List.range n).map (bitV pre)=(List.range n).map (bitV (pre ++ [x])) :=by
 apply List.map_congr_left
 intro i hi
 have hi2:=List.mem_range.1 hi
 simp only [bitV,hasB_snoc]
 have e2:¬ x=(i:Int) :=by omega
 simp [e2]
theorem impl_RowOf_l0 (n:Nat) (hn:n≤6):∀ (suf pre:List Int),(pre ++ suf).length≤1048576 →
  Ev (fun k=>impl_RowOf.l0 k (n:Int) ((List.range n).map (bitV pre)) (pre ++ suf) ((pre ++ suf).length:Int) (pre.length:Int)) ((List.range n).map (bitV (pre ++ suf))) :=by
 intro suf
 induction suf with
 | nil =>
  intro pre hb
  refine Ev.step (fun k=>by rw [impl_RowOf.l0]) ?_
  exact evNeg (by simp) (evEq (by simp) (Ev.now _))
 | cons x suf ih =>
  intro pre hb
  simp only [List.length_append,List.length_cons] at hb
  refine Ev.step (fun k=>by rw [impl_RowOf.l0]) ?_
  refine evPos (by simp only [List.length_append,List.length_cons];omega) (evPos (by omega) (evPos (by simp only [List.length_append,List.length_cons];omega) ?_))
  rw [rd_mid,wsucc (by omega)]
  refine evSome (impl_at_eq _ _) ?_
  have h:=ih (pre ++ [x]) (by simp;omega)
  by_cases ha:0≤x∧x < (n:Int)
  ·refine evPos (by simpa using ha) (evPos ha.1 (evPos (by simpa using ha.2) ?_))
   rw [row_set pre x n ha.1 ha.2]
   simpa using h
  ·refine evNeg (by simpa using ha) ?_
   rw [row_keep pre x n ha]
   simpa using h
theorem impl_RowOf_ev (l:List Int) (n:Int) (hl:l.length≤1048576):Ev (fun k=>impl_RowOf.f k l n) (rowV l n) :=by
 unfold impl_RowOf.f
 refine evSome (impl_InRange_eq _ _ _) ?_
 by_cases h:1≤n∧n≤6
 ·refine evPos (by simpa using h) (evPos (by omega) (evPos (by omega) ?_))
  have h2:=impl_RowOf_l0 n.toNat (by omega) l [] (by simpa using hl)
  rw [Int.toNat_of_nonneg (by omega)] at h2
  have e:(List.range n.toNat).map (bitV [])=List.replicate n.toNat 0:=by
   apply List.ext_getElem
   ·simp
   ·intro i h3 h4
    simp [bitV,hasB]
  rw [e] at h2
  refine evEq ?_ h2
  simp [rowV,h]
 ·refine evNeg (by simpa using h) (evEq ?_ (Ev.now _))
  simp [rowV,h]
theorem impl_MatrixOf_l0 (n:Int):∀ (suf pre:List S103) (out:List (List Int)),(pre ++ suf).length≤1048576→(∀ p∈suf,p.f2.length≤1048576) →out.length≤pre.length →
  Ev (fun k=>impl_MatrixOf.l0 k n out (pre ++ suf) ((pre ++ suf).length:Int) (pre.length:Int)) (out ++ matV suf n) :=by
 intro suf
 induction suf with
 | nil =>
  intro pre out hb hp ho
  refine Ev.step (fun k=>by rw [impl_MatrixOf.l0]) ?_
  exact evNeg (by simp) (evEq (by simp [matV]) (Ev.now _))
 | cons x suf ih =>
  intro pre out hb hp ho
  simp only [List.length_append,List.length_cons] at hb
  refine Ev.step (fun k=>by rw [impl_MatrixOf.l0]) ?_
  refine evPos (by simp only [List.length_append,List.length_cons];omega) (evPos (by omega) (evPos (by simp only [List.length_append,List.length_cons];omega) ?_))
  simp only [rd_T103,getD_mid]
  rw [wsucc (by omega)]
  refine Ev.bind (impl_RowOf_ev x.f2 n (hp x (by simp))) (evPos (by omega) ?_)
  have h:=ih (pre ++ [x]) (out ++ [rowV x.f2 n]) (by simp;omega) (fun p h=>hp p (by simp [h])) (by simp;omega)
  refine evEq ?_ (Ev.congr (fun k=>?_) h)
  ·simp [matV]
  ·simp
theorem impl_MatrixOf_ev (l:List S103) (n:Int) (hl:l.length≤1048576) (hp:∀ p∈l,p.f2.length≤1048576):Ev (fun k=>impl_MatrixOf.f k l n) (matV l n) :=by
 have h:=impl_MatrixOf_l0 n l [] [] (by simpa using hl) hp (by simp)
 simpa [impl_MatrixOf.f] using h
/-! ### intss -/
/-- What is left of a behind the lists' own lengths and the list's length; -1 where it is not enough. -/
def leftR:List (List Int) →Int→Int
 | [],a=>a
 | r :: rs,a=>if leftI r a < 0 then -1 else leftR rs (leftI r a)
def leftII (l:List (List Int)) (a:Int):Int:=if a - (l.length:Int) < 0 then -1 else leftR l (a - (l.length:Int))
theorem leftR_rows:∀ (l:List (List Int)) (a:Int),0≤leftR l a→0≤a→a≤1048576→(∀ r∈l,r.length≤1048576)
 | [],_,_,_,_=>by simp
 | r :: rs,a,h,h0,h1=>by
  unfold leftR at h
  split at h
  ·omega
  ·rename_i hx
   have hx':0≤leftI r a:=by omega
   have hrl:r.length≤1048576∧leftI r a≤1048576:=by
    unfold leftI at hx' ⊢
    split at hx' <;> split <;> omega
   intro q hq
   rcases List.mem_cons.1 hq with rfl|hq
   ·exact hrl.1
   ·exact leftR_rows rs _ h hx' hrl.2 q hq
/-- Rows that may be examined. -/
def okII (l:List (List Int)):Prop:=l.length≤1048576∧∀ r∈l,r.length≤1048576
theorem leftII_ok {l:List (List Int)} (h:0≤leftII l 1048576):okII l:=by
 unfold leftII at h
 split at h
 ·omega
 ·exact ⟨by omega,leftR_rows l _ h (by omega) (by omega)⟩
/-! ### mints -/
def mkI:Int→Nat→List Int
 | _,0=>[]
 | k,n + 1=>k :: mkI (k + 1) n
theorem mkI_length:∀ (n:Nat) (k:Int),(mkI k n).length=n
 | 0,_=>rfl
 | n + 1,k=>by simp [mkI,mkI_length n]
/-! ### markintss -/
def totL:List (List Int) →Nat
 | [] =>0
 | r :: rs=>r.length + totL rs
def mkII:Int→List (List Int) →List (List Int)
 | _,[] =>[]
 | a,r :: rs=>mkI a r.length :: mkII (a + r.length) rs
theorem mkII_length:∀ (l:List (List Int)) (a:Int),(mkII a l).length=l.length
 | [],_=>rfl
 | r :: rs,a=>by simp [mkII,mkII_length rs]
theorem totL_snoc:∀ (l:List (List Int)) (x:List Int),totL (l ++ [x])=totL l + x.length
 | [],x=>by simp [totL]
 | r :: rs,x=>by simp only [List.cons_append,totL,totL_snoc rs x];omega
theorem mkII_snoc:∀ (l:List (List Int)) (x:List Int) (a:Int),mkII a (l ++ [x])=mkII a l ++ [mkI (a + totL l) x.length]
 | [],x,a=>by simp [mkII,totL]
 | r :: rs,x,a=>by
  simp only [List.cons_append,mkII,totL,mkII_snoc rs x]
  rw [show a + (r.length:Int) + (totL rs:Int)=a + ((r.length + totL rs:Nat):Int) by omega]
theorem totL_append:∀ (l m:List (List Int)),totL (l ++ m)=totL l + totL m
 | [],m=>by simp [totL]
 | r :: rs,m=>by simp only [List.cons_append,totL,totL_append rs m];omega
/-! ### heldintss -/
theorem totL_le:∀ (l:List (List Int)) (n:Nat),(∀ r∈l,r.length≤n) →totL l≤l.length * n
 | [],_,_=>by simp [totL]
 | r :: rs,n,h=>by
  have h1:=totL_le rs n (fun q hq=>h q (by simp [hq]))
  have h2:=h r (by simp)
  simp only [totL,List.length_cons,Nat.succ_mul]
  omega
theorem totL_leftR:∀ (l:List (List Int)) (a:Int),0≤a→0≤leftR l a→(totL l:Int) ≤a
 | [],a,h,_=>by simpa [totL] using h
 | r :: rs,a,h,h2=>by
  unfold leftR at h2
  split at h2
  ·omega
  ·rename_i hx
   have h3:=totL_leftR rs _ (by omega) h2
   have h4:leftI r a=a - r.length:=by unfold leftI at hx ⊢;split <;> omega
   simp only [totL]
   omega
theorem totL_left {l:List (List Int)} (h:0≤leftII l 1048576):totL l≤1048576:=by
 unfold leftII at h
 split at h
 ·omega
 ·have:=totL_leftR l _ (by omega) h
  omega
/-! ### wmatrix -/
theorem impl_WorldMatrix_ev (a0_0:Int) (l0_1:(List S133)) (l0_2:(List Int)) (l0_3:(List Int)) (l0_4:(List S103)) (l0_5:(List Int)) (l0_6:(List Int)) (a0_7:Int) (a0_8:Int) (a0_9:Int) (a0_10:Int) (l0_11:(List S62)) (a0_12:Int) (h:okW' l0_1 l0_2 l0_3 l0_4 l0_5 l0_6 l0_11):Ev (fun k=>impl_WorldMatrix.f k a0_0 l0_1 l0_2 l0_3 l0_4 l0_5 l0_6 a0_7 a0_8 a0_9 a0_10 l0_11 a0_12) (matV l0_4 (l0_1.length:Int)) :=by
 unfold impl_WorldMatrix.f
 exact Ev.bind (impl_MatrixOf_ev l0_4 _ h.2.2.2.1.1 h.2.2.2.1.2) (Ev.now _)
theorem matV_ok {l:List S103} {n:Int} (hl:l.length≤1048576):okII (matV l n) :=by
 refine ⟨by simpa [matV] using hl,fun r hr=>?_⟩
 simp only [matV,List.mem_map] at hr
 obtain ⟨p,_,rfl⟩ :=hr
 have:=rowV_len p.f2 n
 omega
theorem matV_tot {l:List S103} {n:Int} (hl:l.length≤1048576):totL (matV l n) ≤6291456:=by
 have h:=totL_le (matV l n) 6 (fun r hr=>by
  simp only [matV,List.mem_map] at hr
  obtain ⟨p,_,rfl⟩ :=hr
  exact rowV_len p.f2 n)
 have h2:(matV l n).length=l.length:=by simp [matV]
 rw [h2] at h
 omega
/-! ### law_FnObserved -/
theorem hasB_iff (l:List Int) (x:Int):hasB l x=true↔x∈l:=by
 rw [hasB,List.any_eq_true]
 constructor
 ·rintro ⟨y,hy,e⟩
  have:y=x:=by simpa using e
  rw [← this];exact hy
 ·exact fun h=>⟨x,h,by simp⟩
theorem contains_l0 (v:Int):∀ (suf pre:List Int),(pre ++ suf).length≤1048576→Ev (fun k=>laws_contains.l0 k (pre ++ suf) v (pre.length:Int)) (hasB suf v) :=by
 intro suf
 induction suf with
 | nil =>
  intro pre hb
  exact Ev.step (fun k=>by rw [laws_contains.l0]) (evNeg (by simp) (evEq (by simp [hasB]) (Ev.now _)))
 | cons x suf ih =>
  intro pre hb
  simp only [List.length_append,List.length_cons] at hb
  have h:=ih (pre ++ [x]) (by simp;omega)
  refine Ev.step (fun k=>by rw [laws_contains.l0]) ?_
  refine evPos (by simp only [List.length_append,List.length_cons];omega) (evPos (by omega) ?_)
  rw [rd_mid,wsucc (by omega)]
  by_cases hx:x=v
  ·exact evPos hx (evEq (by simp [hasB,hx]) (Ev.now _))
  ·refine evNeg hx (evEq ?_ (Ev.congr (fun k=>?_) h))
   ·simp [hasB,hx]
   ·simp
theorem contains_ev (l:List Int) (v:Int) (hl:l.length≤1048576):Ev (fun k=>laws_contains.f k l v) (hasB l v) :=by
 have h:=contains_l0 v l [] (by simpa using hl)
 simpa [laws_contains.f] using h
theorem noRep_nodup:∀ (suf pre:List Int),noRep pre suf=true→suf.Nodup∧∀ x∈suf,x ∉ pre
 | [],pre,_=>⟨List.nodup_nil,by simp⟩
 | x :: suf,pre,h=>by
  rw [noRep,Bool.and_eq_true] at h
  obtain ⟨h1,h2⟩ :=h
  have hx:x ∉ pre:=fun hm=>by rw [(hasB_iff pre x).2 hm] at h1;cases h1
  obtain ⟨i1,i2⟩ :=noRep_nodup suf (pre ++ [x]) h2
  refine ⟨List.nodup_cons.2 ⟨fun hm=>i2 x hm (by simp),i1⟩,fun y hy=>?_⟩
  rcases List.mem_cons.1 hy with rfl|hy
  ·exact hx
  ·exact fun hm=>i2 y hy (by simp [hm])
theorem endF_range (lk:List S133):∀ (path:List Int) (a:Int),0≤endF lk path a→∀ x∈path,0≤x∧x < (lk.length:Int)
 | [],a,_,x,hx=>by simp at hx
 | y :: ys,a,h,x,hx=>by
  rw [endF] at h
  split at h
  ·rename_i hy
   split at h
   ·rcases List.mem_cons.1 hx with rfl|hx
    ·exact hy
    ·exact endF_range lk ys _ h x hx
   ·split at h
    ·rcases List.mem_cons.1 hx with rfl|hx
     ·exact hy
     ·exact endF_range lk ys _ h x hx
    ·omega
  ·omega
theorem pathB_facts {lk:List S133} {path:List Int} {a b:Int} (h:pathB lk path a b=true):path.Nodup∧∀ x∈path,0≤x∧x < (lk.length:Int) :=by
 rw [pathB,Bool.and_eq_true,Bool.and_eq_true,decide_eq_true_eq,Bool.or_eq_true,decide_eq_true_eq,decide_eq_true_eq] at h
 obtain ⟨h1,h2,h3⟩ :=h
 refine ⟨(noRep_nodup path [] h1).1,?_⟩
 rcases h3 with h3|h3
 ·rw [List.eq_nil_of_length_eq_zero h3];simp
 ·exact endF_range lk path a (by omega)
def dotS (path de:List Int):Nat→Nat→Int
 | 0,_=>0
 | d + 1,j=>bitV path j * rd de (j:Int) + dotS path de d (j + 1)
theorem bit_le (path de:List Int) (hde:∀ d∈de,0≤d∧d≤100) (j:Nat) (hj:j < de.length):0≤bitV path j * rd de (j:Int) ∧bitV path j * rd de (j:Int) ≤100:=by
 have h:=hde _ (List.getElem_mem hj)
 rw [rd_at de j hj,bitV]
 split <;> omega
theorem dotS_cons (path de:List Int) (x:Int) (hx:hasB path x=false):∀ (d j:Nat),dotS (x :: path) de d j=(if (j:Int) ≤x∧x < ((j + d:Nat):Int) then rd de x else 0) + dotS path de d j
 | 0,j=>by
  rw [dotS,dotS,if_neg (by omega)]
  rfl
 | d + 1,j=>by
  rw [dotS,dotS,dotS_cons path de x hx d (j + 1)]
  by_cases e:x=(j:Int)
  ·have h1:bitV (x :: path) j=1:=by rw [bitV,if_pos (by simp [hasB,e])]
   have h2:bitV path j=0:=by rw [bitV,if_neg (by rw [← e,hx];decide)]
   rw [h1,h2,if_neg (by omega),if_pos (by omega),e]
   omega
  ·have h1:bitV (x :: path) j=bitV path j:=by
    have:hasB (x :: path) (j:Int)=hasB path (j:Int) :=by simp [hasB,e]
    rw [bitV,bitV,this]
   rw [h1]
   by_cases c:((j + 1:Nat):Int) ≤x∧x < ((j + 1 + d:Nat):Int)
   ·rw [if_pos c,if_pos (by omega)];omega
   ·rw [if_neg c,if_neg (by omega)];omega
theorem dotS_nil (de:List Int):∀ (d j:Nat),dotS [] de d j=0
 | 0,_=>rfl
 | d + 1,j=>by rw [dotS,dotS_nil de d (j + 1)];simp [bitV,hasB]
theorem delayF_dot (de:List Int) (hde:∀ d∈de,0≤d∧d≤100):∀ (path:List Int) (s:Int),path.Nodup→(∀ x∈path,0≤x∧x < (de.length:Int)) →0≤s→s + 100 * path.length≤1000000→delayF de s path=s + dotS path de de.length 0∧0≤dotS path de de.length 0∧dotS path de de.length 0≤100 * path.length
 | [],s,_,_,_,_=>by rw [delayF,dotS_nil];simp
 | x :: xs,s,hn,hr,h0,hs=>by
  obtain ⟨n1,n2⟩ :=List.nodup_cons.1 hn
  have hx:=hr x (by simp)
  have hxb:hasB xs x=false:=Bool.eq_false_iff.2 fun h=>n1 ((hasB_iff xs x).1 h)
  have hlt:x.toNat < de.length:=by omega
  have hv:rd de x=de[x.toNat] :=by rw [← rd_at de x.toNat hlt];congr 1;omega
  have hb:=hde _ (List.getElem_mem hlt)
  simp only [List.length_cons] at hs
  have ih:=delayF_dot de hde xs (s + rd de x) n2 (fun y hy=>hr y (by simp [hy])) (by omega) (by omega)
  rw [delayF,dotS_cons xs de x hxb,if_pos (by omega)]
  have hw:wrap64 (s + rd de x)=s + rd de x:=w64 (by omega) (by omega)
  have hc:(0≤x∧x < (de.length:Int)) :=hx
  simp only [hc,and_self,if_true,hw,List.length_cons]
  omega
theorem impl_DotOf_l0 (path de:List Int) (n:Nat) (hn:n≤6) (hl:de.length=n) (hde:∀ d∈de,0≤d∧d≤100):∀ (d j:Nat) (acc:Int),j + d=n→0≤acc→acc≤100 * j →
  Ev (fun k=>impl_DotOf.l0 k ((List.range n).map (bitV path)) de acc (n:Int) (j:Int)) (acc + dotS path de d j) :=by
 intro d
 induction d with
 | zero =>
  intro j acc hj h0 h1
  exact Ev.step (fun k=>by rw [impl_DotOf.l0]) (evNeg (by omega) (evEq (by simp [dotS]) (Ev.now _)))
 | succ d ih =>
  intro j acc hj h0 h1
  have hb:=bit_le path de hde j (by omega)
  have hr:rd ((List.range n).map (bitV path)) (j:Int)=bitV path j:=by
   rw [rd_at _ j (by simp;omega)];simp
  have h:=ih (j + 1) (acc + bitV path j * rd de (j:Int)) (by omega) (by omega) (by omega)
  refine Ev.step (fun k=>by rw [impl_DotOf.l0]) ?_
  refine evPos (by omega) (evPos (by omega) (evPos (by simp;omega) (evPos (by omega) ?_)))
  rw [hr,w64 (n:=bitV path j * rd de (j:Int)) (by omega) (by omega),w64 (n:=acc + bitV path j * rd de (j:Int)) (by omega) (by omega),wsucc (by omega)]
  refine evEq ?_ h
  rw [dotS]
  omega
theorem impl_DotOf_ev (path de:List Int) (n:Nat) (h1:1≤n) (hn:n≤6) (hl:de.length=n) (hde:∀ d∈de,0≤d∧d≤100):Ev (fun k=>impl_DotOf.f k (rowV path (n:Int)) de) (dotS path de n 0) :=by
 have h:=impl_DotOf_l0 path de n hn hl hde n 0 0 (by omega) (by omega) (by omega)
 have e:rowV path (n:Int)=(List.range n).map (bitV path) :=by rw [rowV,if_pos (by omega)];rfl
 have em:mn (((List.range n).map (bitV path)).length:Int) (de.length:Int)=(n:Int) :=by
  unfold mn;simp [hl]
 unfold impl_DotOf.f
 rw [e,em]
 simpa using h
theorem failV_bad (path dn:List Int) (n:Nat) (h1:1≤n) (hn:n≤6) (hp:∀ x∈path,0≤x∧x < (n:Int)):failV (rowV path (n:Int)) dn=path.any fun k=>hasB dn k:=by
 have e:rowV path (n:Int)=(List.range n).map (bitV path) :=by rw [rowV,if_pos (by omega)];rfl
 rw [e,Bool.eq_iff_iff,failV,List.any_eq_true,List.any_eq_true]
 have hrow:∀ k:Int,0≤k→k < (n:Int) →rd ((List.range n).map (bitV path)) k=if hasB path k=true then 1 else 0:=by
  intro k h0 hk
  have:k=(k.toNat:Int) :=by omega
  rw [this,rd_at _ k.toNat (by simp;omega)]
  simp [bitV]
 constructor
 ·rintro ⟨k,hk,h⟩
  rw [Bool.and_eq_true,decide_eq_true_eq] at h
  obtain ⟨⟨a,b⟩,c⟩ :=h
  have b':k < (n:Int) :=by simpa using b
  rw [hrow k a b'] at c
  have hk2:hasB path k=true:=by
   cases hb:hasB path k with
   | true=>rfl
   | false=>rw [hb] at c;simp at c
  exact ⟨k,(hasB_iff path k).1 hk2,(hasB_iff dn k).2 hk⟩
 ·rintro ⟨k,hk,h⟩
  have hr:=hp k hk
  refine ⟨k,(hasB_iff dn k).1 h,?_⟩
  rw [Bool.and_eq_true,decide_eq_true_eq]
  refine ⟨⟨hr.1,by simpa using hr.2⟩,?_⟩
  rw [hrow k hr.1 hr.2,if_pos ((hasB_iff path k).2 hk)]
  rfl
theorem law_j0 (nd:Int) (lk:List S133) (de dn:List Int) (pr:List S103) (ow li:List Int) (b0 b1 b2 b3:Int) (nw p o:Int) (h:okW' lk de dn pr ow li []) (c1:0≤p∧p < (pr.length:Int)) (c2:0≤p∧p < (ow.length:Int)) (ho:0≤rd ow p∧rd ow p≤5) (td dl:Int) (bad:Bool) (htd:td=trueDelayV de pr p) (h0:bad=true→dl=0) (h1:bad=false→dl=td + lieV ow li p) :
  Ev (fun k=>laws_FnObserved.j0 k p false nd lk de dn pr ow li b0 b1 b2 b3 [] nw p o nw dl bad) true:=by
 have hli:li.length≤1048576:=h.2.2.2.2.2.1
 have hlie:lieV ow li p=if hasB li (rd ow p)=true then 7 + rd ow p else 0:=by
  unfold lieV
  by_cases hb:hasB li (rd ow p)=true
  ·rw [if_pos ⟨c2,hb,ho⟩,if_pos hb]
  ·rw [if_neg (fun hh=>hb hh.2.1),if_neg hb]
 have hfin:((lieV ow li p == 0) == (!hasB li (rd ow p)))=true:=by
  rw [hlie]
  cases hasB li (rd ow p) with
  | true =>
   have:((if (true:Bool)=true then 7 + rd ow p else 0) == 0)=false:=by rw [if_pos rfl,beq_eq_false_iff_ne];omega
   rw [this];rfl
  | false=>rfl
 have hend:Ev (fun k=>(impl_LieOf.f k nd lk de dn pr ow li b0 b1 b2 b3 [] nw p).bind fun t603=>(if 0≤p then (if p < (ow.length:Int) then ((laws_contains.f k li (rd ow p)).bind fun t605=>(some ((t603 == 0) == (!t605)))) else (none)) else (none))) true :=
  Ev.bind (impl_LieOf_ev nd lk de dn pr ow li b0 b1 b2 b3 [] nw p h) (evPos c2.1 (evPos c2.2 (Ev.bind (contains_ev li (rd ow p) hli) (evEq hfin (Ev.now _)))))
 refine Ev.step (fun k=>by rw [laws_FnObserved.j0]) ?_
 refine evNeg (by decide) (Ev.bind (impl_IsHonest_ev nd lk de dn pr ow li b0 b1 b2 b3 [] nw p o nw dl bad h) ?_)
 rw [honestB,decide_eq_true c1,Bool.true_and]
 cases bad with
 | true =>
  refine evPos rfl (evPos ?_ hend)
  rw [if_pos rfl,decide_eq_true (h0 rfl)]
  rfl
 | false =>
  refine evNeg (by decide) (Ev.bind (impl_LieOf_ev nd lk de dn pr ow li b0 b1 b2 b3 [] nw p h) (evPos ?_ hend))
  rw [if_neg (by decide),← htd,h1 rfl,hlie]
  cases hasB li (rd ow p) with
  | true =>
   rw [if_pos rfl,decide_eq_false (by omega)]
   have:(7 + rd ow p == 0)=false:=by rw [beq_eq_false_iff_ne];omega
   rw [this];rfl
  | false =>
   rw [if_neg (by decide),decide_eq_true (by omega)]
   rfl
theorem FnObserved:laws_FnObserved.PureR:=by
 intro b h
 refine Ev.rounds ?_
 unfold laws_FnObserved.f
 refine evSome (big_eq b) ?_
 by_cases hb:(b.length:Int) > 1048576
 ·exact evPos (by simp [hb]) (Ev.now _)
 have hb':b.length≤1048576:=by omega
 obtain ⟨nd,lk,de,dn,pr,ow,li,b0,b1,b2,b3,nw,p,e,ok,hdn,hli⟩ :=drawObserve_ev b hb'
 have l1:=ok.l1
 have l2:=ok.l2
 have l4:=ok.l4
 have l5:=ok.l5
 have hok:okW' lk de dn pr ow li [] :=⟨by omega,by omega,by omega,⟨by omega,fun q hq=>Nat.le_trans (ok.l4p q hq) (by omega)⟩,by omega,by omega,by simp⟩
 refine evNeg (by simpa using hb) (Ev.bind e (Ev.bind (impl_Observe_ev nd lk de dn pr ow li b0 b1 b2 b3 [] nw p hok) (Ev.bind (spec_Observe_ev nd lk de dn pr ow li b0 b1 b2 b3 [] nw p hok) (evNeg (by simp) ?_))))
 by_cases c:(0≤p∧p < (pr.length:Int)) ∧(0≤p∧p < (ow.length:Int))
 ·obtain ⟨c1,c2⟩ :=c
  have hne:pr≠[] :=fun e=>by rw [e] at c1;simp at c1;omega
  rcases ok.fine with f|⟨f1,f2,f3,f4,f5,f6⟩
  ·exact absurd f hne
  have hpt:p.toNat < pr.length:=by omega
  have hrd:rd_T103 pr p=pr[p.toNat] :=by rw [rd_T103,List.getD_eq_getElem?_getD,List.getElem?_eq_getElem hpt];rfl
  obtain ⟨q,hq⟩:∃ q,q=pr[p.toNat] :=⟨_,rfl⟩
  have hqm:q∈pr:=by rw [hq];exact List.getElem_mem hpt
  obtain ⟨g1,g2⟩ :=pathB_facts (f4 q hqm)
  have hql:=ok.l4p q hqm
  have hof:0≤rd ow p∧rd ow p≤5:=by
   have hlt:p.toNat < ow.length:=by omega
   have:rd ow p=ow[p.toNat] :=by rw [← rd_at ow p.toNat hlt];congr 1;omega
   rw [this]
   exact f6 _ (List.getElem_mem hlt)
  have htd:trueDelayV de pr p=dotS q.f2 de de.length 0:=by
   have:=delayF_dot de f3 q.f2 0 g1 (fun x hx=>by have:=g2 x hx;omega) (by omega) (by omega)
   rw [trueDelayV,if_pos c1,List.getD_eq_getElem?_getD,List.getElem?_eq_getElem hpt,Option.getD_some,← hq,this.1]
   omega
  have htb:0≤dotS q.f2 de de.length 0∧dotS q.f2 de de.length 0≤10000:=by
   have:=delayF_dot de f3 q.f2 0 g1 (fun x hx=>by have:=g2 x hx;omega) (by omega) (by omega)
   omega
  have hlb:0≤lieV ow li p∧lieV ow li p≤12:=by unfold lieV;split <;> omega
  have hbad:badV nd lk de dn pr ow li b0 b1 b2 b3 [] nw p=q.f2.any fun k=>hasB dn k:=by
   rw [badV,if_pos c1,hrd,← hq]
  obtain ⟨bad,hbd⟩:∃ bad,bad=q.f2.any fun k=>hasB dn k:=⟨_,rfl⟩
  have hobs:obsV nd lk de dn pr ow li b0 b1 b2 b3 [] nw p=(p,rd ow p,nw,if bad=true then 0 else dotS q.f2 de de.length 0 + lieV ow li p,bad,true) :=by
   rw [obsV,if_pos ⟨c1,c2⟩,hbad,← hbd,htd,w64 (n:=dotS q.f2 de de.length 0 + lieV ow li p) (by omega) (by omega)]
  rw [hobs]
  have hml:(matV pr (lk.length:Int)).length=pr.length:=by rw [matV,List.length_map]
  have hrow:rd_L1 (matV pr (lk.length:Int)) p=rowV q.f2 (lk.length:Int) :=by
   rw [rd_L1,matV,List.getD_eq_getElem?_getD,List.getElem?_map,List.getElem?_eq_getElem hpt,hq];rfl
  have hfw:impl_FailsWith.f (rowV q.f2 (lk.length:Int)) dn=some bad:=by
   unfold impl_FailsWith.f
   rw [if_pos (by omega),failV_bad q.f2 dn lk.length f1 l1 g2,hbd]
  refine evPos rfl (Ev.bind (impl_WorldMatrix_ev nd lk de dn pr ow li b0 b1 b2 b3 [] nw hok) (evPos c1.1 (evPos (by rw [hml];exact c1.2) ?_)))
  dsimp only
  rw [hrow]
  refine evSome hfw (evNeg (by simp) (evPos rfl (evPos rfl ?_)))
  cases bad with
  | true=>exact evPos rfl (law_j0 nd lk de dn pr ow li b0 b1 b2 b3 nw p (rd ow p) hok c1 c2 hof _ _ true rfl (fun _=>rfl) (fun h=>by cases h))
  | false =>
   refine evNeg (by decide) (Ev.bind (impl_DotOf_ev q.f2 de lk.length f1 l1 f2 f3) (Ev.bind (impl_LieOf_ev nd lk de dn pr ow li b0 b1 b2 b3 [] nw p hok) ?_))
   have hz:((if (false:Bool)=true then 0 else dotS q.f2 de de.length 0 + lieV ow li p) != wrap64 (dotS q.f2 de lk.length 0 + lieV ow li p))=false:=by
    rw [f2] at htb ⊢
    rw [w64 (n:=dotS q.f2 de lk.length 0 + lieV ow li p) (by omega) (by omega),if_neg (by decide)]
    simp
   rw [hz]
   exact law_j0 nd lk de dn pr ow li b0 b1 b2 b3 nw p (rd ow p) hok c1 c2 hof _ _ false rfl (fun h=>by cases h) (fun _=>by rw [if_neg (by decide),htd])
 ·have hobs:obsV nd lk de dn pr ow li b0 b1 b2 b3 [] nw p=(0,0,0,0,false,false) :=by rw [obsV,if_neg c]
  rw [hobs]
  exact evNeg (by decide) (Ev.now _)
end Go.Proofs.Ytiipcophnnfnoaa.Pure
