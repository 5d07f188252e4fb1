import Derived.Test.YtiipcophnnfnoaaProg
import Derived.Below
import Derived.Deep.Draws
import Derived.Deep.AppendLies
import Derived.Maps.AppendAt
import Derived.OwnWalk
import Derived.Laws.BytesArg
import Derived.Laws.MakeOwn
import Derived.Laws.OwnMore
import Derived.Deep.OwnRows
import Derived.Tactics
import Derived.Lib.ConvBytes
import Derived.Laws.Slices
import Derived.WalkKit
import Derived.KernelRfl
import Derived.RowKit3
import Derived.Deep.LoopGhost
import Derived.Deep.QuietTactic
import Derived.BigQuiet
import Derived.WideLaws
import Derived.Deep.DeepCutAuto
import Derived.Deep.CutBlock
import Derived.Deep.RegionHeld3
import Derived.Laws.Rows
import Derived.Lib.AppendStr
import Derived.ArgAppend
import Derived.Laws.IdiomCopy
import Derived.OrdersHeld
import Derived.Laws.BitsLemmas
import Derived.RowKit
import Derived.Lib.LazyBuf
import Derived.Test.YtiipcophnnfnoaaVFnExactNewWorld
import Derived.Test.YtiipcophnnfnoaaSort
set_option linter.unusedVariables false
set_option linter.unusedSimpArgs false
namespace Go.Proofs.Ytiipcophnnfnoaa.PFnExactNewWorld
open Go.RowKit Go.Proofs.YtiipcophnnfnoaaW.PrintWords Go.Proofs.YtiipcophnnfnoaaW.PrintLast Go.Proofs.YtiipcophnnfnoaaW.PrintMore
set_option maxHeartbeats 8000000
set_option maxRecDepth 100000



def errW:Option Int→Value
  | none=>.nilIface
  | some c=>.iface 0 (.int .i64 c)
theorem errW_none:errW none=.nilIface:=rfl
theorem errW_some (c:Int):errW (some c)=.iface 0 (.int .i64 c) :=rfl

theorem info3:(Try.prog.info? 3).map (fun i=>(i.zero,i.size,i.bytes))=some (some (.int .i64 0),1,8) :=by kernel_rfl
theorem info62:(Try.prog.info? 62).map (fun i=>(i.zero,i.size,i.bytes))=some (some (.agg #[(.int .i64 0),(.int .i64 0),(.int .i64 0),(.int .i64 0),(.bool false)]),5,40) :=by kernel_rfl
theorem info103:(Try.prog.info? 103).map (fun i=>(i.zero,i.size,i.bytes))=some (some (.agg #[(.int .i64 0),(.int .i64 0),(.slice none 0 0)]),3,40) :=by kernel_rfl
theorem info133:(Try.prog.info? 133).map (fun i=>(i.zero,i.size,i.bytes))=some (some (.agg #[(.int .i64 0),(.int .i64 0)]),2,16) :=by kernel_rfl
-- the values' own types
structure S133 where
  f0:Int
  f1:Int
def z133:S133:=⟨(0:Int),(0:Int)⟩
def k133:Kd S133:=Kd.iso (Kd.pair (Kd.int .i64) (Kd.int .i64)) (fun x:S133=>(x.f0,x.f1))
theorem k133_open {w:World} {x:S133} {cs:List Value} (h:k133.K w x cs):cs=[.int .i64 x.f0,.int .i64 x.f1] :=by
 obtain ⟨_,_,rfl,rfl,rfl⟩ :=h;exact rfl
theorem k133_openM {w:World} {base:Nat} {ok:Nat→Prop} {x:S133} {cs:List Value} (h:k133.M w base ok x cs):cs=[.int .i64 x.f0,.int .i64 x.f1] :=by
 obtain ⟨_,_,rfl,rfl,rfl⟩ :=h;exact rfl
theorem k133_mk (w:World) (x:S133) :k133.K w x [.int .i64 x.f0,.int .i64 x.f1] :=⟨[.int .i64 x.f0],[.int .i64 x.f1],rfl,rfl,rfl⟩
theorem k133_mkM (w:World) (base:Nat) (ok:Nat→Prop) (x:S133) :k133.M w base ok x [.int .i64 x.f0,.int .i64 x.f1] :=⟨[.int .i64 x.f0],[.int .i64 x.f1],rfl,rfl,rfl⟩
def rd_T133 (xs:List S133) (i:Int):S133:=xs.getD i.toNat z133
theorem at_T133 {w:World} {A:Option Addr} {n:Nat} {xs:List S133} (h:Kd.C k133 w A n xs) (i:Int) (h0:0≤i) (h1:i < n):∃ ad,A=some ad∧w.cell? (ad.add (i.toNat * 2))=some (.int .i64 (rd_T133 xs i).f0) ∧w.cell? ⟨(ad.add (i.toNat * 2)).block,(ad.add (i.toNat * 2)).off + 1,none⟩=some (.int .i64 (rd_T133 xs i).f1) :=by
 obtain ⟨ad,c,e,_,hK,hc0⟩ :=Kd.C_get h z133 i h0 h1;have hc:∀ j u,c[j]?=some u→w.cell? (ad.add (i.toNat * 2 + j))=some u:=hc0;obtain rfl:=k133_open hK;exact ⟨ad,e,hc 0 _ rfl,by rw [← add_field _ _ 1 (by omega)];exact hc 1 _ rfl⟩

def rd_L2 (xs:List (List Int)) (i:Int):(List Int) :=xs.getD i.toNat ([]:List Int)
theorem at_L2 {w:World} {A:Option Addr} {n:Nat} {xs:List (List Int)} (h:Kd.C (Kd.slice 3 (Kd.int .i64)) w A n xs) (i:Int) (h0:0≤i) (h1:i < n):∃ ad A0 c0,A=some ad∧w.cell? (ad.add i.toNat)=some (.slice A0 (rd_L2 xs i).length c0) ∧(rd_L2 xs i).length≤c0∧(Kd.int .i64).C w A0 (rd_L2 xs i).length (rd_L2 xs i) :=by
 obtain ⟨ad,c,e,_,hK,hc0⟩ :=Kd.C_get h ([]:List Int) i h0 h1;have hc:∀ j u,c[j]?=some u→w.cell? (ad.add (i.toNat * 1 + j))=some u:=hc0;obtain ⟨A0,c0,rfl,l0,g0⟩ :=hK;exact ⟨ad,A0,c0,e,by have hq:=hc 0 _ rfl;rwa [Nat.mul_one,Nat.add_zero] at hq,l0,g0⟩

structure S103 where
  f0:Int
  f1:Int
  f2:(List Int)
def z103:S103:=⟨(0:Int),(0:Int),([]:List Int)⟩
def k103:Kd S103:=Kd.iso (Kd.pair (Kd.int .i64) (Kd.pair (Kd.int .i64) (Kd.slice 3 (Kd.int .i64)))) (fun x:S103=>(x.f0,x.f1,x.f2))
theorem k103_open {w:World} {x:S103} {cs:List Value} (h:k103.K w x cs):∃ A2 c2,cs=[.int .i64 x.f0,.int .i64 x.f1,.slice A2 x.f2.length c2] ∧x.f2.length≤c2∧(Kd.int .i64).C w A2 x.f2.length x.f2:=by
 obtain ⟨_,_,rfl,rfl,⟨_,_,rfl,rfl,⟨A2,c2,rfl,l2,g2⟩⟩⟩ :=h;exact ⟨A2,c2,rfl,l2,g2⟩
theorem k103_openM {w:World} {base:Nat} {ok:Nat→Prop} {x:S103} {cs:List Value} (h:k103.M w base ok x cs):∃ v2,cs=[.int .i64 x.f0,.int .i64 x.f1,v2] ∧(Kd.int .i64).R 3 w base ok v2 x.f2:=by
 obtain ⟨_,_,rfl,rfl,⟨_,_,rfl,rfl,⟨v2,rfl,g2⟩⟩⟩ :=h;exact ⟨v2,rfl,g2⟩
theorem k103_mk (w:World) (x:S103) {A2:Option Addr} {c2:Nat} (l2:x.f2.length≤c2) (g2:(Kd.int .i64).C w A2 x.f2.length x.f2):k103.K w x [.int .i64 x.f0,.int .i64 x.f1,.slice A2 x.f2.length c2] :=⟨[.int .i64 x.f0],[.int .i64 x.f1,.slice A2 x.f2.length c2],rfl,rfl,⟨[.int .i64 x.f1],[.slice A2 x.f2.length c2],rfl,rfl,⟨A2,c2,rfl,l2,g2⟩⟩⟩
theorem k103_mkM (w:World) (base:Nat) (ok:Nat→Prop) (x:S103) {v2:Value} (g2:(Kd.int .i64).R 3 w base ok v2 x.f2):k103.M w base ok x [.int .i64 x.f0,.int .i64 x.f1,v2] :=⟨[.int .i64 x.f0],[.int .i64 x.f1,v2],rfl,rfl,⟨[.int .i64 x.f1],[v2],rfl,rfl,⟨v2,rfl,g2⟩⟩⟩
def rd_T103 (xs:List S103) (i:Int):S103:=xs.getD i.toNat z103
theorem at_T103 {w:World} {A:Option Addr} {n:Nat} {xs:List S103} (h:Kd.C k103 w A n xs) (i:Int) (h0:0≤i) (h1:i < n):∃ ad A2 c2,A=some ad∧w.cell? (ad.add (i.toNat * 3))=some (.int .i64 (rd_T103 xs i).f0) ∧w.cell? ⟨(ad.add (i.toNat * 3)).block,(ad.add (i.toNat * 3)).off + 1,none⟩=some (.int .i64 (rd_T103 xs i).f1) ∧w.cell? ⟨(ad.add (i.toNat * 3)).block,(ad.add (i.toNat * 3)).off + 2,none⟩=some (.slice A2 (rd_T103 xs i).f2.length c2) ∧(rd_T103 xs i).f2.length≤c2∧(Kd.int .i64).C w A2 (rd_T103 xs i).f2.length (rd_T103 xs i).f2:=by
 obtain ⟨ad,c,e,_,hK,hc0⟩ :=Kd.C_get h z103 i h0 h1;have hc:∀ j u,c[j]?=some u→w.cell? (ad.add (i.toNat * 3 + j))=some u:=hc0;obtain ⟨A2,c2,rfl,l2,g2⟩ :=k103_open hK;exact ⟨ad,A2,c2,e,hc 0 _ rfl,by rw [← add_field _ _ 1 (by omega)];exact hc 1 _ rfl,by rw [← add_field _ _ 2 (by omega)];exact hc 2 _ rfl,l2,g2⟩

structure S62 where
  f0:Int
  f1:Int
  f2:Int
  f3:Int
  f4:Bool
def z62:S62:=⟨(0:Int),(0:Int),(0:Int),(0:Int),false⟩
def k62:Kd S62:=Kd.iso (Kd.pair (Kd.int .i64) (Kd.pair (Kd.int .i64) (Kd.pair (Kd.int .i64) (Kd.pair (Kd.int .i64) Kd.bool)))) (fun x:S62=>(x.f0,x.f1,x.f2,x.f3,x.f4))
theorem k62_open {w:World} {x:S62} {cs:List Value} (h:k62.K w x cs):cs=[.int .i64 x.f0,.int .i64 x.f1,.int .i64 x.f2,.int .i64 x.f3,.bool x.f4] :=by
 obtain ⟨_,_,rfl,rfl,⟨_,_,rfl,rfl,⟨_,_,rfl,rfl,⟨_,_,rfl,rfl,rfl⟩⟩⟩⟩ :=h;exact rfl
theorem k62_openM {w:World} {base:Nat} {ok:Nat→Prop} {x:S62} {cs:List Value} (h:k62.M w base ok x cs):cs=[.int .i64 x.f0,.int .i64 x.f1,.int .i64 x.f2,.int .i64 x.f3,.bool x.f4] :=by
 obtain ⟨_,_,rfl,rfl,⟨_,_,rfl,rfl,⟨_,_,rfl,rfl,⟨_,_,rfl,rfl,rfl⟩⟩⟩⟩ :=h;exact rfl
theorem k62_mk (w:World) (x:S62) :k62.K w x [.int .i64 x.f0,.int .i64 x.f1,.int .i64 x.f2,.int .i64 x.f3,.bool x.f4] :=⟨[.int .i64 x.f0],[.int .i64 x.f1,.int .i64 x.f2,.int .i64 x.f3,.bool x.f4],rfl,rfl,⟨[.int .i64 x.f1],[.int .i64 x.f2,.int .i64 x.f3,.bool x.f4],rfl,rfl,⟨[.int .i64 x.f2],[.int .i64 x.f3,.bool x.f4],rfl,rfl,⟨[.int .i64 x.f3],[.bool x.f4],rfl,rfl,rfl⟩⟩⟩⟩
theorem k62_mkM (w:World) (base:Nat) (ok:Nat→Prop) (x:S62) :k62.M w base ok x [.int .i64 x.f0,.int .i64 x.f1,.int .i64 x.f2,.int .i64 x.f3,.bool x.f4] :=⟨[.int .i64 x.f0],[.int .i64 x.f1,.int .i64 x.f2,.int .i64 x.f3,.bool x.f4],rfl,rfl,⟨[.int .i64 x.f1],[.int .i64 x.f2,.int .i64 x.f3,.bool x.f4],rfl,rfl,⟨[.int .i64 x.f2],[.int .i64 x.f3,.bool x.f4],rfl,rfl,⟨[.int .i64 x.f3],[.bool x.f4],rfl,rfl,rfl⟩⟩⟩⟩
def rd_T62 (xs:List S62) (i:Int):S62:=xs.getD i.toNat z62
theorem at_T62 {w:World} {A:Option Addr} {n:Nat} {xs:List S62} (h:Kd.C k62 w A n xs) (i:Int) (h0:0≤i) (h1:i < n):∃ ad,A=some ad∧w.cell? (ad.add (i.toNat * 5))=some (.int .i64 (rd_T62 xs i).f0) ∧w.cell? ⟨(ad.add (i.toNat * 5)).block,(ad.add (i.toNat * 5)).off + 1,none⟩=some (.int .i64 (rd_T62 xs i).f1) ∧w.cell? ⟨(ad.add (i.toNat * 5)).block,(ad.add (i.toNat * 5)).off + 2,none⟩=some (.int .i64 (rd_T62 xs i).f2) ∧w.cell? ⟨(ad.add (i.toNat * 5)).block,(ad.add (i.toNat * 5)).off + 3,none⟩=some (.int .i64 (rd_T62 xs i).f3) ∧w.cell? ⟨(ad.add (i.toNat * 5)).block,(ad.add (i.toNat * 5)).off + 4,none⟩=some (.bool (rd_T62 xs i).f4) :=by
 obtain ⟨ad,c,e,_,hK,hc0⟩ :=Kd.C_get h z62 i h0 h1;have hc:∀ j u,c[j]?=some u→w.cell? (ad.add (i.toNat * 5 + j))=some u:=hc0;obtain rfl:=k62_open hK;exact ⟨ad,e,hc 0 _ rfl,by rw [← add_field _ _ 1 (by omega)];exact hc 1 _ rfl,by rw [← add_field _ _ 2 (by omega)];exact hc 2 _ rfl,by rw [← add_field _ _ 3 (by omega)];exact hc 3 _ rfl,by rw [← add_field _ _ 4 (by omega)];exact hc 4 _ rfl⟩

structure S159 where
  f0:Int
  f1:Int
def z159:S159:=⟨(0:Int),(0:Int)⟩
def k159:Kd S159:=Kd.iso (Kd.pair (Kd.int .i64) (Kd.int .i64)) (fun x:S159=>(x.f0,x.f1))
theorem k159_open {w:World} {x:S159} {cs:List Value} (h:k159.K w x cs):cs=[.int .i64 x.f0,.int .i64 x.f1] :=by
 obtain ⟨_,_,rfl,rfl,rfl⟩ :=h;exact rfl
theorem k159_openM {w:World} {base:Nat} {ok:Nat→Prop} {x:S159} {cs:List Value} (h:k159.M w base ok x cs):cs=[.int .i64 x.f0,.int .i64 x.f1] :=by
 obtain ⟨_,_,rfl,rfl,rfl⟩ :=h;exact rfl
theorem k159_mk (w:World) (x:S159) :k159.K w x [.int .i64 x.f0,.int .i64 x.f1] :=⟨[.int .i64 x.f0],[.int .i64 x.f1],rfl,rfl,rfl⟩
theorem k159_mkM (w:World) (base:Nat) (ok:Nat→Prop) (x:S159) :k159.M w base ok x [.int .i64 x.f0,.int .i64 x.f1] :=⟨[.int .i64 x.f0],[.int .i64 x.f1],rfl,rfl,rfl⟩
def rd_T159 (xs:List S159) (i:Int):S159:=xs.getD i.toNat z159
theorem at_T159 {w:World} {A:Option Addr} {n:Nat} {xs:List S159} (h:Kd.C k159 w A n xs) (i:Int) (h0:0≤i) (h1:i < n):∃ ad,A=some ad∧w.cell? (ad.add (i.toNat * 2))=some (.int .i64 (rd_T159 xs i).f0) ∧w.cell? ⟨(ad.add (i.toNat * 2)).block,(ad.add (i.toNat * 2)).off + 1,none⟩=some (.int .i64 (rd_T159 xs i).f1) :=by
 obtain ⟨ad,c,e,_,hK,hc0⟩ :=Kd.C_get h z159 i h0 h1;have hc:∀ j u,c[j]?=some u→w.cell? (ad.add (i.toNat * 2 + j))=some u:=hc0;obtain rfl:=k159_open hK;exact ⟨ad,e,hc 0 _ rfl,by rw [← add_field _ _ 1 (by omega)];exact hc 1 _ rfl⟩

theorem cells3 {w:World} {g t:Nat} {a0 a1 a2:Value} (h:w.heap[g]?=some (.cells #[a0,a1,a2] t (0,0))):w.cell? ⟨g,0,none⟩=some a0∧w.cell? ⟨g,1,none⟩=some a1∧w.cell? ⟨g,2,none⟩=some a2 :=
  ⟨(blk_cell h 0).trans rfl,(blk_cell h 1).trans rfl,(blk_cell h 2).trans rfl⟩
theorem froz3 {w:World} {g t:Nat} {cs:Array Value} (h:w.heap[g]?=some (.cells cs t (0,0))):w.frozen? ⟨g,0,none⟩=false∧w.frozen? ⟨g,1,none⟩=false∧w.frozen? ⟨g,2,none⟩=false :=
  ⟨blk_frozen h 0,blk_frozen h 1,blk_frozen h 2⟩
theorem cells4 {w:World} {g t:Nat} {a0 a1 a2 a3:Value} (h:w.heap[g]?=some (.cells #[a0,a1,a2,a3] t (0,0))):w.cell? ⟨g,0,none⟩=some a0∧w.cell? ⟨g,1,none⟩=some a1∧w.cell? ⟨g,2,none⟩=some a2∧w.cell? ⟨g,3,none⟩=some a3 :=
  ⟨(blk_cell h 0).trans rfl,(blk_cell h 1).trans rfl,(blk_cell h 2).trans rfl,(blk_cell h 3).trans rfl⟩
theorem froz4 {w:World} {g t:Nat} {cs:Array Value} (h:w.heap[g]?=some (.cells cs t (0,0))):w.frozen? ⟨g,0,none⟩=false∧w.frozen? ⟨g,1,none⟩=false∧w.frozen? ⟨g,2,none⟩=false∧w.frozen? ⟨g,3,none⟩=false :=
  ⟨blk_frozen h 0,blk_frozen h 1,blk_frozen h 2,blk_frozen h 3⟩
theorem cells5 {w:World} {g t:Nat} {a0 a1 a2 a3 a4:Value} (h:w.heap[g]?=some (.cells #[a0,a1,a2,a3,a4] t (0,0))):w.cell? ⟨g,0,none⟩=some a0∧w.cell? ⟨g,1,none⟩=some a1∧w.cell? ⟨g,2,none⟩=some a2∧w.cell? ⟨g,3,none⟩=some a3∧w.cell? ⟨g,4,none⟩=some a4 :=
  ⟨(blk_cell h 0).trans rfl,(blk_cell h 1).trans rfl,(blk_cell h 2).trans rfl,(blk_cell h 3).trans rfl,(blk_cell h 4).trans rfl⟩
theorem froz5 {w:World} {g t:Nat} {cs:Array Value} (h:w.heap[g]?=some (.cells cs t (0,0))):w.frozen? ⟨g,0,none⟩=false∧w.frozen? ⟨g,1,none⟩=false∧w.frozen? ⟨g,2,none⟩=false∧w.frozen? ⟨g,3,none⟩=false∧w.frozen? ⟨g,4,none⟩=false :=
  ⟨blk_frozen h 0,blk_frozen h 1,blk_frozen h 2,blk_frozen h 3,blk_frozen h 4⟩
theorem cells13 {w:World} {g t:Nat} {a0 a1 a2 a3 a4 a5 a6 a7 a8 a9 a10 a11 a12:Value} (h:w.heap[g]?=some (.cells #[a0,a1,a2,a3,a4,a5,a6,a7,a8,a9,a10,a11,a12] t (0,0))):w.cell? ⟨g,0,none⟩=some a0∧w.cell? ⟨g,1,none⟩=some a1∧w.cell? ⟨g,2,none⟩=some a2∧w.cell? ⟨g,3,none⟩=some a3∧w.cell? ⟨g,4,none⟩=some a4∧w.cell? ⟨g,5,none⟩=some a5∧w.cell? ⟨g,6,none⟩=some a6∧w.cell? ⟨g,7,none⟩=some a7∧w.cell? ⟨g,8,none⟩=some a8∧w.cell? ⟨g,9,none⟩=some a9∧w.cell? ⟨g,10,none⟩=some a10∧w.cell? ⟨g,11,none⟩=some a11∧w.cell? ⟨g,12,none⟩=some a12 :=
  ⟨(blk_cell h 0).trans rfl,(blk_cell h 1).trans rfl,(blk_cell h 2).trans rfl,(blk_cell h 3).trans rfl,(blk_cell h 4).trans rfl,(blk_cell h 5).trans rfl,(blk_cell h 6).trans rfl,(blk_cell h 7).trans rfl,(blk_cell h 8).trans rfl,(blk_cell h 9).trans rfl,(blk_cell h 10).trans rfl,(blk_cell h 11).trans rfl,(blk_cell h 12).trans rfl⟩
theorem froz13 {w:World} {g t:Nat} {cs:Array Value} (h:w.heap[g]?=some (.cells cs t (0,0))):w.frozen? ⟨g,0,none⟩=false∧w.frozen? ⟨g,1,none⟩=false∧w.frozen? ⟨g,2,none⟩=false∧w.frozen? ⟨g,3,none⟩=false∧w.frozen? ⟨g,4,none⟩=false∧w.frozen? ⟨g,5,none⟩=false∧w.frozen? ⟨g,6,none⟩=false∧w.frozen? ⟨g,7,none⟩=false∧w.frozen? ⟨g,8,none⟩=false∧w.frozen? ⟨g,9,none⟩=false∧w.frozen? ⟨g,10,none⟩=false∧w.frozen? ⟨g,11,none⟩=false∧w.frozen? ⟨g,12,none⟩=false :=
  ⟨blk_frozen h 0,blk_frozen h 1,blk_frozen h 2,blk_frozen h 3,blk_frozen h 4,blk_frozen h 5,blk_frozen h 6,blk_frozen h 7,blk_frozen h 8,blk_frozen h 9,blk_frozen h 10,blk_frozen h 11,blk_frozen h 12⟩

theorem bw {n:Nat} {w0 w w':World} (h:Below n w0 w) (t:Below n w0 w→Below n w0 w':=by intro h;repeat (first|(with_reducible first|exact h|apply below_alloc|apply pw_below_drewN|apply below_drew1|refine below_set ?_ (Aside0.out (by with_reducible assumption)))|exact h)):Below n w0 w':=t h
theorem bk {g:Nat} {o:Obj} {w w':World} (h:Aside0 (w.heap[g]?=some o)) (t:w.heap[g]?=some o→w'.heap[g]?=some o:=by intro h;(with_reducible repeat (first|refine blk_drewN ?_ _|refine blk_drew ?_|refine blk_alloc ?_ _|refine blk_far ?_ (Aside0.out (by with_reducible assumption)) _));exact h):w'.heap[g]?=some o:=t h.out
theorem kr {α:Type} {d:Kd α} {e b:Nat} {ok:Nat→Prop} {v:Value} {xs:List α} {w w':World} (h:Kd.R d e w b ok v xs) (t:Kd.R d e w b ok v xs→Kd.R d e w' b ok v xs:=by intro h;(with_reducible repeat (first|apply Kd.R_alloc|apply Kd.R_drewN|apply Kd.R_drew));exact h):Kd.R d e w' b ok v xs:=t h
theorem ks {α:Type} {d:Kd α} {e b:Nat} {ok:Nat→Prop} {v:Value} {xs:List α} {w w':World} (h:Kd.S d e w b ok v xs) (t:Kd.S d e w b ok v xs→Kd.S d e w' b ok v xs:=by intro h;(with_reducible repeat (first|apply Kd.S_alloc|apply Kd.S_drewN|apply Kd.S_drew));exact h):Kd.S d e w' b ok v xs:=t h
theorem kc {α:Type} {d:Kd α} {w w1 w':World} {A:Option Addr} {n m:Nat} {l:List α} (h:d.C w A n l) (hb:Below m w w1) (t:d.C w A n l→Below m w w1→d.C w' A n l:=by intro h hb;repeat (first|exact (Kd.C_below h hb)|(with_reducible refine Kd.C_alloc ?_ _)|(with_reducible refine Kd.C_drewN ?_ _)|(with_reducible refine Kd.C_drew ?_))):d.C w' A n l:=t h hb
def ba (n m:Nat):Array Bool:=⟨(List.range n).map m.testBit⟩
theorem pu {P:Program} {md:Region.Mode} {ops:Array Oper} {Q:Exit→Act→World→Prop} {S:World→Prop} {ds:List Nat} {oi:Oper} {v:Value} {fuel:Nat} {l:Array Bool} {a a':Act} {w:World} {T:Bool × List (List Nat × List Nat)} (i n:Nat) (l':Array Bool) (HT:Aside0 (rtab md ops=T)) (h:wpAnyLast P md ops Q S ds fuel l' a' w) (hi:ops[i]?=some oi:=by exact rfl) (hN:oi.dst=some n:=by exact rfl) (hc:anyT T l.toList l'.toList i=true:=by kernel_rfl) (hQ:∀ c a w,Q (.panic c) (a.put oi.dst v) w→Q (.panic c) a w:=by exact fun _ _ _ h=>h) (hy:Yields P ops oi v a:=by first|exact Or.inr ⟨by rfl,rfl⟩|(refine Or.inl ⟨by rfl,?_⟩;intro w';go_simp;with_reducible rfl)) (ha:a.put (some n) v=a':=by simp only [Act.put,List.setIfInBounds_toArray,List.set_cons_zero,List.set_cons_succ,i64_w,i32_w];rfl):wpAnyLast P md ops Q S ds (fuel + 1) l a w:=pure_ l' hi hN (any_of HT.out hc) hQ hy ha h
theorem tk {P:Program} {md:Region.Mode} {ops:Array Oper} {Q:Exit→Act→World→Prop} {S:World→Prop} {ds:List Nat} {oi:Oper} {v:Value} {fuel:Nat} {l:Array Bool} {a a':Act} {w:World} {T:Bool × List (List Nat × List Nat)} {B:List Nat} (i n:Nat) (l':Array Bool) (HT:Aside0 (rtab md ops=T)) (HW:Aside0 (waitsOk T.2 B=true)) (hS:S w) (h:wpAnyLast P md ops Q S ds fuel l' a' w) (hi:ops[i]?=some oi:=by exact rfl) (hN:oi.dst=some n:=by exact rfl) (hc:takeW T B ds l.toList l'.toList i=true:=by kernel_rfl) (hQ:∀ c a w,Q (.panic c) (a.put oi.dst v) w→Q (.panic c) a w:=by exact fun _ _ _ h=>h) (hy:YieldsIf P ops S oi v a:=by refine Or.inl ⟨by rfl,?_⟩;intro w' hs;(repeat (have s_:=And.left hs;replace hs:=And.right hs));go_simp;with_reducible rfl) (ha:a.put (some n) v=a':=by simp only [Act.put,List.setIfInBounds_toArray,List.set_cons_zero,List.set_cons_succ,i64_w,i32_w];rfl):wpAnyLast P md ops Q S ds (fuel + 1) l a w:=take_ l' hi hN (take_ofW HT.out HW.out hc) hQ hy hS ha h
theorem rrfA {α:Type} {d:Kd α} {e b g j:Nat} {u:Value} {ok:Nat→Prop} {v:Value} {xs:List α} {w:World} (h:Kd.R d e w b (fun k=>ok k∧k≠g) v xs):Kd.R d e (w.setCell ⟨g,j,none⟩ u) b (fun k=>ok k∧k≠g) v xs:=Kd.R_far (p:=⟨g,j,none⟩) h (fun _ hk=>hk.2) u
theorem rrfB {α:Type} {d:Kd α} {e b g j:Nat} {u:Value} {ok q:Nat→Prop} {v:Value} {xs:List α} {w:World} (h:Kd.R d e w b (fun k=>(ok k∧k≠g) ∧q k) v xs):Kd.R d e (w.setCell ⟨g,j,none⟩ u) b (fun k=>(ok k∧k≠g) ∧q k) v xs:=Kd.R_far (p:=⟨g,j,none⟩) h (fun _ hk=>hk.1.2) u
theorem rrf {α:Type} {d:Kd α} {e b:Nat} {ok:Nat→Prop} {v:Value} {xs:List α} {w w':World} (h:Kd.R d e w b ok v xs) (z:Kd.R d e w b ok v xs→Kd.R d e w' b ok v xs:=by intro h;(with_reducible repeat (first|apply Kd.R_alloc|apply Kd.R_drewN|apply Kd.R_drew|apply rrfA|apply rrfB));exact h):Kd.R d e w' b ok v xs:=z h
theorem rrt {α:Type} {d:Kd α} {e b:Nat} {ok:Nat→Prop} {v:Value} {xs:List α} {w w':World} {g t:Nat} {cells:Array Value} (h:Kd.R d e w b ok v xs) (hb:w.heap[g]?=some (.cells cells t (0,0))) (ht:∀ q,q∈e :: d.E→q≠t:=by decide) (z:Kd.R d e w b (fun k=>ok k∧k≠g) v xs→Kd.R d e w' b (fun k=>ok k∧k≠g) v xs:=by intro h;(with_reducible repeat (first|apply Kd.R_alloc|apply Kd.R_drewN|apply Kd.R_drew|refine Kd.R_far (p:=⟨_,_,none⟩) ?_ (fun _ hk=>hk.2) _));exact h):Kd.R d e w' b (fun k=>ok k∧k≠g) v xs:=z (Kd.R_types h hb ht)
theorem rrm {α:Type} {d:Kd α} {e b:Nat} {ok:Nat→Prop} {v:Value} {xs:List α} {w w':World} {g t:Nat} {cells:Array Value} (h:Kd.R d e w b ok v xs) (hb:w.heap[g]?=some (.cells cells t (0,0))) (ht:∀ q,q∈e :: d.E→q≠t:=by decide) (z:Kd.R d e w b (fun k=>ok k∧k≠g) v xs→Kd.R d e w' b (fun k=>ok k∧k≠g) v xs:=by intro h;(with_reducible repeat (first|apply Kd.R_alloc|apply Kd.R_drewN|apply Kd.R_drew|refine Kd.R_far (p:=⟨_,_,none⟩) ?_ (fun _ hk=>hk.2) _));exact h):Kd.R d e w' b ok v xs:=Kd.R_mono (z (Kd.R_types h hb ht)) (fun _ h_=>h_.1)
theorem rsfA {α:Type} {d:Kd α} {e b g j:Nat} {u:Value} {ok:Nat→Prop} {v:Value} {xs:List α} {w:World} (h:Kd.S d e w b (fun k=>ok k∧k≠g) v xs):Kd.S d e (w.setCell ⟨g,j,none⟩ u) b (fun k=>ok k∧k≠g) v xs:=Kd.S_far (p:=⟨g,j,none⟩) h (fun _ hk=>hk.2) u
theorem rsfB {α:Type} {d:Kd α} {e b g j:Nat} {u:Value} {ok q:Nat→Prop} {v:Value} {xs:List α} {w:World} (h:Kd.S d e w b (fun k=>(ok k∧k≠g) ∧q k) v xs):Kd.S d e (w.setCell ⟨g,j,none⟩ u) b (fun k=>(ok k∧k≠g) ∧q k) v xs:=Kd.S_far (p:=⟨g,j,none⟩) h (fun _ hk=>hk.1.2) u
theorem rsf {α:Type} {d:Kd α} {e b:Nat} {ok:Nat→Prop} {v:Value} {xs:List α} {w w':World} (h:Kd.S d e w b ok v xs) (z:Kd.S d e w b ok v xs→Kd.S d e w' b ok v xs:=by intro h;(with_reducible repeat (first|apply Kd.S_alloc|apply Kd.S_drewN|apply Kd.S_drew|apply rsfA|apply rsfB));exact h):Kd.S d e w' b ok v xs:=z h
theorem rst {α:Type} {d:Kd α} {e b:Nat} {ok:Nat→Prop} {v:Value} {xs:List α} {w w':World} {g t:Nat} {cells:Array Value} (h:Kd.S d e w b ok v xs) (hb:w.heap[g]?=some (.cells cells t (0,0))) (ht:∀ q,q∈e :: d.E→q≠t:=by decide) (z:Kd.S d e w b (fun k=>ok k∧k≠g) v xs→Kd.S d e w' b (fun k=>ok k∧k≠g) v xs:=by intro h;(with_reducible repeat (first|apply Kd.S_alloc|apply Kd.S_drewN|apply Kd.S_drew|refine Kd.S_far (p:=⟨_,_,none⟩) ?_ (fun _ hk=>hk.2) _));exact h):Kd.S d e w' b (fun k=>ok k∧k≠g) v xs:=z (Kd.S_types h hb ht)
theorem rsm {α:Type} {d:Kd α} {e b:Nat} {ok:Nat→Prop} {v:Value} {xs:List α} {w w':World} {g t:Nat} {cells:Array Value} (h:Kd.S d e w b ok v xs) (hb:w.heap[g]?=some (.cells cells t (0,0))) (ht:∀ q,q∈e :: d.E→q≠t:=by decide) (z:Kd.S d e w b (fun k=>ok k∧k≠g) v xs→Kd.S d e w' b (fun k=>ok k∧k≠g) v xs:=by intro h;(with_reducible repeat (first|apply Kd.S_alloc|apply Kd.S_drewN|apply Kd.S_drew|refine Kd.S_far (p:=⟨_,_,none⟩) ?_ (fun _ hk=>hk.2) _));exact h):Kd.S d e w' b ok v xs:=Kd.S_mono (z (Kd.S_types h hb ht)) (fun _ h_=>h_.1)
theorem bp {g t:Nat} {cs c1 c2:Array Value} {w w':World} (h:w.heap[g]?=some (.cells cs t (0,0))) (z:w.heap[g]?=some (.cells cs t (0,0)) →w'.heap[g]?=some (.cells c1 t (0,0)) :=by intro h;(with_reducible repeat (first|refine blk_drewN ?_ _|refine blk_drew ?_|refine blk_alloc ?_ _|apply blk_set|refine (Below.heap_setCell _ _ _ _ (Aside0.out (by with_reducible assumption))).trans ?_));exact h) (e:c1=c2:=by first|(simp only [List.setIfInBounds_toArray,List.set_cons_zero,List.set_cons_succ];done)|rfl):w'.heap[g]?=some (.cells c2 t (0,0)) :=e ▸ z h
theorem cf {a:Addr} {v:Value} {w w':World} (h:w.cell? a=some v) (z:w.cell? a=some v→w'.cell? a=some v:=by intro h;(repeat (refine (cell_far (p:=⟨_,_,none⟩) (Aside0.out (by with_reducible assumption)) _).trans ?_));exact h):w'.cell? a=some v:=z h
theorem nf {X:Prop} {a:Addr} {v:Value} {w:World} {n:Nat} (h:w.cell? a=some v) (hg:w.heap.size≤n) (z:a.block < w.heap.size→w.heap.size≤n→X:=by intro h hg;first|exact Nat.ne_of_lt (Nat.lt_of_lt_of_le (by have:=h;first|rwa [add_block] at this|exact this) hg)|(rw [add_block];exact Nat.ne_of_lt (Nat.lt_of_lt_of_le (by have:=h;first|rwa [add_block] at this|exact this) hg))|(show (Addr.add _ _).block≠_;rw [add_block];exact Nat.ne_of_lt (Nat.lt_of_lt_of_le (by have:=h;first|rwa [add_block] at this|exact this) hg))|(dsimp only;exact Nat.ne_of_lt (Nat.lt_of_lt_of_le (by have:=h;first|rwa [add_block] at this|exact this) hg))):X:=z (World.block_lt_of_cell? _ _ h) hg
theorem nrm {P:Program} {md:Region.Mode} {ops:Array Oper} {Q:Exit→Act→World→Prop} {S:World→Prop} {ds:List Nat} {fuel:Nat} {l:Array Bool} {a a':Act} {w:World} (h:wpAnyLast P md ops Q S ds fuel l a' w) (ha:a=a':=by first|(simp only [putAll,Act.put,List.setIfInBounds_toArray,List.set_cons_zero,List.set_cons_succ];done)|(simp only [putAll,Act.put,List.setIfInBounds_toArray,List.set_cons_zero,List.set_cons_succ];rfl)):wpAnyLast P md ops Q S ds fuel l a w:=norm_ ha h
theorem gL {P : Program} {ops : Array Oper} {Q : Exit → Act → World → Prop} {rest : List Oper} {oi : Oper} {a : Act} {w : World} (n : Nat) {f : FuncId} {fn : Func} {ao : Array Operand} {ts : Array TypeId} (hf : P.funcs[f]? = some fn) (args : Array Value) (h : Calls P f args w fun e w' => ∃ v, e = .returned v ∧ wpList P ops Q rest (a.put (some n) v) w') (hd : oi.dst = some n := by exact rfl) (hg : oi.guard = none := by exact rfl) (hname : (fn.name == "runtime.NumGoroutine") = false := by kernel_rfl) (hb : fn.body.isSome = true := by exact rfl) (hop : oi.op = .call { callee := .value (.func f), args := ao, argTypes := ts } := by exact rfl) (hargs : ao.map a.eval = args := by (try simp only [List.map_toArray, List.map_cons, List.map_nil]); first | done | rfl | (simp only [List.length_drop, List.length_take]; rfl)) : wpList P ops Q (oi :: rest) a w := goesL_ (some n) hd hg hf hname hb args hop hargs h
theorem gS {P : Program} {ops : Array Oper} {Q : Exit → Act → World → Prop} {oi : Oper} {N : Option Tmp} {a : Act} {w : World} {K : Act → World → Prop} {f : FuncId} {fn : Func} {ao : Array Operand} {ts : Array TypeId} (hf : P.funcs[f]? = some fn) (args : Array Value) (h : Calls P f args w fun e w' => ∃ v, e = .returned v ∧ K (a.put N v) w') (hname : (fn.name == "runtime.NumGoroutine") = false := by kernel_rfl) (hb : fn.body.isSome = true := by exact rfl) (hw : Region.wanted oi (yielded ops a.tmps) = true := by rfl) (hN : oi.dst = N := by exact rfl) (hop : oi.op = .call { callee := .value (.func f), args := ao, argTypes := ts } := by exact rfl) (hargs : ao.map a.eval = args := by (try simp only [List.map_toArray, List.map_cons, List.map_nil]); first | done | rfl | (simp only [List.length_drop, List.length_take]; rfl)) : if Region.wanted oi (yielded ops a.tmps) = true then Oper.wp P oi a w K Q else K (a.put N undef) w := goes_ hf hname hb args hw hN hop hargs h
theorem bxe {P:Program} {ops:Array Oper} {Q:Exit→Act→World→Prop} {rest:List Oper} {o:Oper} {a:Act} {W:World} (N t:Nat) (cs:Array Value) (h:∀ g,g=W.heap.size→∀ w1,w1.heap[g]?=some (.cells cs t (0,0)) →Below W.heap.size W w1→wpList P ops Q rest (a.put o.dst (.pointer (some ⟨g,0,none⟩))) w1) (hd:o.dst=some N:=by exact rfl) (hgd:o.guard=none:=by exact rfl) (hrun:(execOp a.eval o).run P W=.ok (.value (.pointer (some ⟨W.heap.size,0,none⟩))) (W.alloc (.cells cs t (0,0))) :=by first|(go_simp;done)|(go_simp;rfl)):wpList P ops Q (o :: rest) a W:=box_event hgd hd hrun h
theorem bxs {P:Program} {ops:Array Oper} {Q:Exit→Act→World→Prop} {o:Oper} {a:Act} {Kc:Act→World→Prop} {W:World} (N t:Nat) (cs:Array Value) (h:∀ g,g=W.heap.size→∀ w1,w1.heap[g]?=some (.cells cs t (0,0)) →Below W.heap.size W w1→Kc (a.put o.dst (.pointer (some ⟨g,0,none⟩))) w1) (hd:o.dst=some N:=by exact rfl) (hw:Region.wanted o (yielded ops a.tmps)=true:=by rfl) (hrun:(execOp a.eval o).run P W=.ok (.value (.pointer (some ⟨W.heap.size,0,none⟩))) (W.alloc (.cells cs t (0,0))) :=by first|(go_simp;done)|(go_simp;rfl)):if Region.wanted o (yielded ops a.tmps)=true then Oper.wp P o a W Kc Q else Kc (a.put o.dst undef) W:=box_step hw hd hrun h
theorem gsz {g:Nat} {w W:World} (hg:g=W.heap.size) (h:Below w.heap.size w W):Aside0 (w.heap.size≤g) :=⟨hg ▸ below_size h⟩
theorem nlt_ {g g':Nat} {o:Obj} {W:World} (hg:g'=W.heap.size) (h:W.heap[g]?=some o):Aside0 (g≠g') :=⟨by rw [hg];exact Nat.ne_of_lt (blk_lt h)⟩
theorem ngt_ {g g':Nat} {o:Obj} {W:World} (hg:g'=W.heap.size) (h:W.heap[g]?=some o):Aside0 (g'≠g) :=⟨by rw [hg];exact Nat.ne_of_gt (blk_lt h)⟩
theorem bc {w:World} {g i:Nat} {t:TypeId} {cs:Array Value} {v:Value} (h:Aside0 (w.heap[g]?=some (.cells cs t (0,0)))) (e:cs[i]?=some v:=by rfl):w.cell? ⟨g,i,none⟩=some v:=(blk_cell h.out i).trans e
theorem bb {g:Nat} {o:Obj} {w w' w2:World} (h:Aside0 (w.heap[g]?=some o)) (hb:Below w'.heap.size w' w2) (z:w.heap[g]?=some o→w'.heap[g]?=some o:=by intro h;(with_reducible repeat (first|refine blk_drewN ?_ _|refine blk_drew ?_|refine blk_alloc ?_ _|refine blk_far ?_ (Aside0.out (by with_reducible assumption)) _));exact h):Aside0 (w2.heap[g]?=some o) :=⟨blk_below (z h.out) hb⟩
theorem hs {w0 w w' w2:World} (h:Aside0 (Below w0.heap.size w0 w)) (hb:Below w'.heap.size w' w2) (z:Below w0.heap.size w0 w→Below w0.heap.size w0 w':=by intro h;repeat (first|(with_reducible first|exact h|apply below_alloc|apply pw_below_drewN|apply below_drew1|refine below_set ?_ (Aside0.out (by with_reducible assumption)))|exact h)):Aside0 (Below w0.heap.size w0 w2) :=⟨below_step (z h.out) hb⟩
theorem rb {α:Type} {d:Kd α} {e b:Nat} {ok:Nat→Prop} {v:Value} {xs:List α} {w w' w2:World} (h:Aside0 (Kd.R d e w b ok v xs)) (hb:Below w'.heap.size w' w2) (z:Kd.R d e w b ok v xs→Kd.R d e w' b ok v xs:=by intro h;(with_reducible repeat (first|apply Kd.R_alloc|apply Kd.R_drewN|apply Kd.R_drew));exact h):Aside0 (Kd.R d e w2 b ok v xs) :=⟨Kd.R_below (z h.out) hb⟩
theorem dq {X:Prop} (z:X:=by first|exact ⟨rfl,_,World.drewN_drewN _ _ _⟩|exact ⟨rfl,_,Eq.trans (World.drewN_drewN _ _ _) (congrArg (World.drewN _) (Nat.add_assoc _ _ _))⟩):X:=z
theorem nrn {P:Program} {md:Region.Mode} {ops:Array Oper} {Q:Exit→Act→World→Prop} {S:World→Prop} {ds:List Nat} {fuel:Nat} {l:Array Bool} {b a':Act} {w:World} {v:Value} (n:Nat) (h:wpAnyLast P md ops Q S ds fuel l a' w) (ha:b.put (some n) v=a':=by simp only [Act.put,List.setIfInBounds_toArray,List.set_cons_zero,List.set_cons_succ,i64_w,i32_w];rfl):wpAnyLast P md ops Q S ds fuel l (b.put (some n) v) w:=norm_ ha h
theorem on {P:Program} {md:Region.Mode} {ops:Array Oper} {Q:Exit→Act→World→Prop} {S:World→Prop} {ds:List Nat} {oi:Oper} {fuel:Nat} {l:Array Bool} {a:Act} {w:World} {T:Bool × List (List Nat × List Nat)} (i n:Nat) (l':Array Bool) (HT:Aside0 (rtab md ops=T)) (h:∀ K:Act→World→Prop,Shut (∀ a' w',S w'→(S w'→wpAnyLast P md ops Q S ds fuel l' a' w') →K a' w') →if Region.wanted oi (yielded ops a.tmps)=true then Oper.wp P oi a w K Q else K (a.put (some n) undef) w) (hi:ops[i]?=some oi:=by exact rfl) (hN:oi.dst=some n:=by exact rfl) (hc:(readyT T.2 l.toList == [i] && l.toList.set i true == l'.toList)=true:=by kernel_rfl) (hd:i ∉ ds:=by simp):wpAnyLast P md ops Q S ds (fuel + 1) l a w:=one_ l' hi hN (one_of HT.out hc) hd h
theorem cb {w W:World} {a:Addr} {v:Value} (hb:Below w.heap.size w W) (h:w.cell? a=some v):W.cell? a=some v:=(hb.cell (World.block_lt_of_cell? w _ h)).trans h
theorem gd {P:Program} {ops:Array Oper} {o:Oper} {rest:List Oper} {a:Act} {Q:Exit→Act→World→Prop} {W:World} (N:Nat) (h:wpList P ops Q (o :: rest) a W) (_h:o.dst=some N:=by exact rfl):wpList P ops Q (o :: rest) a W:=h
theorem gc {P:Program} {ops:Array Oper} {o:Oper} {rest:List Oper} {a:Act} {Q:Exit→Act→World→Prop} {W:World} {xs:Array Operand} {ts:Array TypeId} (f:Nat) (h:wpList P ops Q (o :: rest) a W) (_h:o.op=.call {callee:=.value (.func f),args:=xs,argTypes:=ts} :=by exact rfl):wpList P ops Q (o :: rest) a W:=h
theorem od {p:Prop} [Decidable p] (h:decide p=true:=by first|(with_reducible assumption)|assumption):p:=of_decide_eq_true h
theorem zA {p:Prop} (h:p):Aside0 p:=⟨h⟩
end Go.Proofs.Ytiipcophnnfnoaa.PFnExactNewWorld
