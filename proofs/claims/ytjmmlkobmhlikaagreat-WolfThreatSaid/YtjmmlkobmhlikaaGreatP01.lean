/- Parts of the proof. -/
import Derived.Test.YtjmmlkobmhlikaaGreatP00
import Derived.WalkKit
import Derived.WalkSpells
import Derived.WalkLawsBesides
import Derived.Below
import Derived.Laws.OwnMore
import Derived.Deep.AppendLies
import Derived.Deep.Draws
import Derived.Lib.Hide
import Derived.Laws.EntriesVeiled
import Derived.Deep.RegionWith
import Derived.Outline
import Derived.RangeFuncNested
import Derived.RangeFuncBound
import Derived.RangeFuncCalls
import Derived.RangeFuncLeaves
import Derived.Shelf.Abstract
import Derived.Shelf.RegionOpen
import Derived.OwnWalkIn
import Derived.TacticsInMore
import Derived.LoopNIn
import Derived.LoopIn
set_option linter.all false
set_option maxHeartbeats 12800000
set_option maxRecDepth 1000000
namespace Go
def ui{p:Prop}(h:p):RowKit.Hid p:=h
end Go
namespace Go.Sq
open Go.RowKit
structure Gr (w w':World):Prop where
 below:Below w.heap.size w w'
 drawn:w.drawn<=w'.drawn
def Gr.refl (w:World):Gr w w:=⟨Below.refl _ _,Nat.le_refl _⟩
def Gr.trans {a b c:World}(h:Gr a b)(k:Gr b c):Gr a c:=⟨h.below.trans (k.below.mono h.below.size),Nat.le_trans h.drawn k.drawn⟩
def Gr.size {w w':World}(h:Gr w w'):w.heap.size<=w'.heap.size:=h.below.size
def Gr.alloc {w w':World}(h:Gr w w')(o:Obj):Gr w (w'.alloc o):=⟨h.below.alloc h.size o,h.drawn⟩
def Gr.drew {w w':World}(h:Gr w w'):Gr w w'.drew:=⟨h.below.drew,Nat.le_succ_of_le h.drawn⟩
def Gr.drewN {w w':World}(h:Gr w w')(n:Nat):Gr w (w'.drewN n):=⟨⟨h.below.os,h.below.tape,h.below.output,h.below.size,h.below.block⟩,Nat.le_trans h.drawn (Nat.le_add_right _ _)⟩
def Gr.setCell {w w':World}(h:Gr w w'){p:Addr}(hp:w.heap.size<=p.block)(v:Value):Gr w (w'.setCell p v):=⟨h.below.setCell hp v,h.drawn⟩
def Gr.grown {w w' w1:World}(h:Gr w w'){row:Option Nat}(hg:w'.grownBy w1 row)(hd:w'.drawn<=w1.drawn)(hr:∀k,row=some k->w.heap.size<=k):Gr w w1 :=
 ⟨h.below.grown hg h.size hr,Nat.le_trans h.drawn hd⟩
def Gr.cell {w w':World}(h:Gr w w'){p:Addr}(hp:p.block<w.heap.size):w'.cell? p=w.cell? p:=h.below.cell hp
def Gr.frozen {w w':World}(h:Gr w w'){p:Addr}(hp:p.block<w.heap.size):w'.frozen? p=w.frozen? p:=h.below.frozen hp
def RI (w:World)(B:Nat)(A:Option Addr)(l:List Int):Prop :=
 l≠[]->∃b o,A=some ⟨b,o,none⟩/\b<B/\∀i x,l[i]?=some x->w.cell? ⟨b,o+i,none⟩=some (.int .i64 x)
def RI.nil {w:World}{B:Nat}{A:Option Addr}:RI w B A []:=λh=>absurd rfl h
def RI.keep {w w':World}{B:Nat}{A:Option Addr}{l:List Int}(h:RI w B A l)(hk:∀b o,b<B->w'.cell? ⟨b,o,none⟩=w.cell? ⟨b,o,none⟩):RI w' B A l:=λhn=>by
 obtain⟨b,o,e,hb,hc⟩:=h hn
 exact⟨b,o,e,hb,λi x hx=>(hk _ _ hb).trans (hc i x hx)⟩
def RI.gr {w w':World}{B:Nat}{A:Option Addr}{l:List Int}(h:RI w B A l)(hB:B<=w.heap.size)(hg:Gr w w'):RI w' B A l:=h.keep λ_ _ hb=>hg.cell (Nat.lt_of_lt_of_le hb hB)
def RI.more {w:World}{B B':Nat}{A:Option Addr}{l:List Int}(h:RI w B A l)(hB:B<=B'):RI w B' A l:=λhn=>by
 obtain⟨b,o,e,hb,hc⟩:=h hn
 exact⟨b,o,e,by omega,hc⟩
def RI.at_ {w:World}{B:Nat}{A:Option Addr}{l:List Int}(h:RI w B A l){k:Nat}(hk:k<l.length):∃b o,A=some ⟨b,o,none⟩/\b<B/\w.cell? ⟨b,o+k,none⟩=some (.int .i64 (l[k]?.getD 0)):=by
 obtain⟨b,o,e,hb,hc⟩:=h (λe=>by subst e;simp at hk)
 exact⟨b,o,e,hb,by rw[List.getElem?_eq_getElem hk];exact hc k _ (List.getElem?_eq_getElem hk)⟩
def uq {w:World}{base:Nat}{v:Value}{l:List Int}(h:w.ownsRow base 3 1 v l.length (l.map (Value.int .i64))):∃A c,v=.slice A l.length c/\RI w w.heap.size A l:=by
 rcases h.2 with⟨rfl,h0⟩|⟨g,cap,cur,rfl,_,hg,_⟩
 ·have:l.length=0:=by simpa using h0
  have:l=[]:=List.eq_nil_of_length_eq_zero this
  subst this
  exact⟨none,0,rfl,.nil⟩
 ·refine⟨_,cap,rfl,λ_=>⟨g,0,rfl,(Array.getElem?_eq_some_iff.1 hg).1,λi x hx=>?_⟩⟩
  have:=h.cells (g:=g) rfl i (.int .i64 x) (by rw[List.getElem?_map,hx];rfl)
  have e:(⟨g,0,none⟩:Addr).add i=⟨g,0+i,none⟩:=by unfold Addr.add;split<;>simp_all
  rwa [e] at this
def HAt (w:World)(B b o:Nat)(h:Herder):Prop :=
 w.cell? ⟨b,o,none⟩=some (.int .i64 h.heads)/\w.cell? ⟨b,o+1,none⟩=some (.int .i64 h.dogs)/\w.cell? ⟨b,o+2,none⟩=some (.int .i64 h.most) /\
  ∃A c,w.cell? ⟨b,o+3,none⟩=some (.slice A h.off.length c)/\RI w B A h.off
def HsAt (w:World)(B:Nat)(A:Option Addr)(l:List Herder):Prop :=
 l≠[]->∃b o,A=some ⟨b,o,none⟩/\b<B/\∀i h,l[i]?=some h->HAt w B b (o+i*4) h
def HAt.keep {w w':World}{B b o:Nat}{h:Herder}(ha:HAt w B b o h)(hb:b<B)(hk:∀b o,b<B->w'.cell? ⟨b,o,none⟩=w.cell? ⟨b,o,none⟩):HAt w' B b o h:=by
 obtain⟨h1,h2,h3,A,c,h4,h5⟩:=ha
 exact⟨(hk _ _ hb).trans h1,(hk _ _ hb).trans h2,(hk _ _ hb).trans h3,A,c,(hk _ _ hb).trans h4,h5.keep hk⟩
def HsAt.keep {w w':World}{B:Nat}{A:Option Addr}{l:List Herder}(h:HsAt w B A l)(hk:∀b o,b<B->w'.cell? ⟨b,o,none⟩=w.cell? ⟨b,o,none⟩):HsAt w' B A l:=λhn=>by
 obtain⟨b,o,e,hb,hc⟩:=h hn
 exact⟨b,o,e,hb,λi h hi=>(hc i h hi).keep hb hk⟩
def HsAt.at_ {w:World}{B:Nat}{A:Option Addr}{c:Camp}(h:HsAt w B A c.herders){i:Nat}(hi:i<c.herders.length):∃b o,A=some ⟨b,o,none⟩/\b<B/\HAt w B b (o+i*4) (c.h i):=by
 obtain⟨b,o,e,hb,hc⟩:=h (λe=>by rw[e] at hi;simp at hi)
 exact⟨b,o,e,hb,hc i _ (by unfold Camp.h;rw[List.getElem?_eq_getElem hi];rfl)⟩
structure CampP (w:World)(B cb:Nat)(c:Camp)(nA hA:Option Addr)(nc hc:Nat):Prop where
 lt:cb<B
 c0:w.cell? ⟨cb,0,none⟩=some (.slice nA c.needs.length nc)
 c1:w.cell? ⟨cb,1,none⟩=some (.slice hA c.herders.length hc)
 needs:RI w B nA c.needs
 herds:HsAt w B hA c.herders
def CampP.keep {w w':World}{B cb:Nat}{c:Camp}{nA hA:Option Addr}{nc hc:Nat}(h:CampP w B cb c nA hA nc hc)(hk:∀b o,b<B->w'.cell? ⟨b,o,none⟩=w.cell? ⟨b,o,none⟩):CampP w' B cb c nA hA nc hc :=
 ⟨h.lt,(hk _ _ h.lt).trans h.c0,(hk _ _ h.lt).trans h.c1,h.needs.keep hk,h.herds.keep hk⟩
def CampP.gr {w w':World}{B cb:Nat}{c:Camp}{nA hA:Option Addr}{nc hc:Nat}(h:CampP w B cb c nA hA nc hc)(hB:B<=w.heap.size)(hg:Gr w w'):CampP w' B cb c nA hA nc hc :=
 h.keep λ_ _ hb=>hg.cell (Nat.lt_of_lt_of_le hb hB)
def RosAt (w:World)(B br:Nat)(r:Nat->Nat):Prop:=br<B/\∀i,i<5->w.cell? ⟨br,i,none⟩=some (.int .u8 (r i))
def RosAt.keep {w w':World}{B br:Nat}{r:Nat->Nat}(h:RosAt w B br r)(hk:∀b o,b<B->w'.cell? ⟨b,o,none⟩=w.cell? ⟨b,o,none⟩):RosAt w' B br r:=⟨h.1,λi hi=>(hk _ _ h.1).trans (h.2 i hi)⟩
def RosAt.gr {w w':World}{B br:Nat}{r:Nat->Nat}(h:RosAt w B br r)(hB:B<=w.heap.size)(hg:Gr w w'):RosAt w' B br r:=h.keep λ_ _ hb=>hg.cell (Nat.lt_of_lt_of_le hb hB)
def HAt.more {w:World}{B B' b o:Nat}{h:Herder}(ha:HAt w B b o h)(hB:B<=B'):HAt w B' b o h:=by
 obtain⟨h1,h2,h3,A,c,h4,h5⟩:=ha
 exact⟨h1,h2,h3,A,c,h4,h5.more hB⟩
def HsAt.more {w:World}{B B':Nat}{A:Option Addr}{l:List Herder}(h:HsAt w B A l)(hB:B<=B'):HsAt w B' A l:=λhn=>by
 obtain⟨b,o,e,hb,hc⟩:=h hn
 exact⟨b,o,e,Nat.lt_of_lt_of_le hb hB,λi h hi=>(hc i h hi).more hB⟩
def CampP.more {w:World}{B B' cb:Nat}{c:Camp}{nA hA:Option Addr}{nc hc:Nat}(h:CampP w B cb c nA hA nc hc)(hB:B<=B'):CampP w B' cb c nA hA nc hc :=
 ⟨Nat.lt_of_lt_of_le h.lt hB,h.c0,h.c1,h.needs.more hB,h.herds.more hB⟩
def RosAt.more {w:World}{B B' br:Nat}{r:Nat->Nat}(h:RosAt w B br r)(hB:B<=B'):RosAt w B' br r:=⟨Nat.lt_of_lt_of_le h.1 hB,h.2⟩
def CampP.on {w w':World}{cb:Nat}{c:Camp}{nA hA:Option Addr}{nc hc:Nat}(h:CampP w w.heap.size cb c nA hA nc hc)(hg:Gr w w'):CampP w' w'.heap.size cb c nA hA nc hc:=(h.gr (Nat.le_refl _) hg).more hg.size
def RosAt.on {w w':World}{br:Nat}{r:Nat->Nat}(h:RosAt w w.heap.size br r)(hg:Gr w w'):RosAt w' w'.heap.size br r:=(h.gr (Nat.le_refl _) hg).more hg.size
def set3 {w:World}{B:Nat}{u0 u1 u2:Value}(h0:w.cell? ⟨B,0,none⟩=some u0)(h1:w.cell? ⟨B,1,none⟩=some u1)(h2:w.cell? ⟨B,2,none⟩=some u2) :
  (∀v,(w.setCell ⟨B,0,none⟩ v).cell? ⟨B,0,none⟩=some v)/\(∀u v,((w.setCell ⟨B,0,none⟩ u).setCell ⟨B,1,none⟩ v).cell? ⟨B,1,none⟩=some v) /\
   ∀u x v,(((w.setCell ⟨B,0,none⟩ u).setCell ⟨B,1,none⟩ x).setCell ⟨B,2,none⟩ v).cell? ⟨B,2,none⟩=some v:=by
 have e1:∀u,(w.setCell ⟨B,0,none⟩ u).cell? ⟨B,1,none⟩=some u1:=λu=>by rw[World.cell?_setCell_other _ _ _ _ (by simp)];exact h1
 have e2:∀u x,((w.setCell ⟨B,0,none⟩ u).setCell ⟨B,1,none⟩ x).cell? ⟨B,2,none⟩=some u2:=λu x=>by rw[World.cell?_setCell_other _ _ _ _ (by simp),World.cell?_setCell_other _ _ _ _ (by simp)];exact h2
 exact⟨λv=>World.cell?_setCell_same _ _ _ h0,λu v=>World.cell?_setCell_same _ _ _ (e1 u),λu x v=>World.cell?_setCell_same _ _ _ (e2 u x)⟩
def aq {k:IntKind}{a b:Int}(h:a=b):Ending.returned (.int k a)=.returned (.int k b):=by rw[h]
def aD {a b:Bool}(h:a=b):Ending.returned (.bool a)=.returned (.bool b):=by rw[h]
variable {P:Program}
def wpList_append_gr {w:World}{ops:Array Oper}{rest:List Oper}{o:Oper}{a:Act}{Q:Exit->Act->World->Prop}(hgd:o.guard=none)(s x:Operand)(t:TypeId)
  (ho:o.op=.call { callee:=.builtin .append,args:=#[s,x],argTypes:=#[t,t] })
  (base:Nat) (e:TypeId) (i:TypeInfo) (z:Value) (size bytes:Nat) (ht:P.underlying t=some (.slice e)) (hi:P.info? e=some i) (hz:i.zero=some z)
  (hsize:i.size=size) (hby:i.bytes=bytes) (hzs:z.cells.size=size) (hsz:0<size)
  (v:Value) (n:Nat) (xs:List Value) (hs:a.eval s=v) (hown:w.ownsRow base e size v n xs)
  (ad:Addr) (m c:Nat) (news:List Value) (hx:a.eval x=.slice (some ad) m c) (hl:news.length=m*size) (hnews:∀j u,news[j]?=some u->w.cell? (ad.add j)=some u) (h1:∀u∈news,u.oneCell'=true)
  (h63:n+m<=maxLen) (hbytes:(n+m)*bytes<=140737488355328) (hbase:base<=w.heap.size)
  (h:∀v' w',w'.ownsRow base e size v' (n+m) (xs++news)->w.grownBy w' v.ownBlock->w.drawn<=w'.drawn->wpList P ops Q rest (a.put o.dst v') w'):wpList P ops Q (o::rest) a w:=by
 refine wpList_plain hgd λK hK=>?_
 obtain⟨v',w',hr,h2,h3,h4⟩:=run_append_own (P:=P) w base t o.type e i z size bytes ht hi hz hsize hby hzs hsz v n xs hown ad m c news hl hnews h1 h63 hbytes hbase
 have hd:=Go.Iso.drawn_mono P (Builtin.append_ #[t,t] o.type #[v,.slice (some ad) m c]) w #[]
 rw[Sem.runT_fst,hr] at hd
 unfold Oper.wp execOp
 simp only[ho,resolve,invoke,builtin,Sem.run_bind,Sem.run_pure,Result.andThen_ok,List.map_toArray,List.map_cons,List.map_nil,hs,hx,hr]
 exact hK _ _ (h v' w' h2 h3 hd)
end Go.Sq
namespace Go.Proofs.YtjmmlkobmhlikaaGreat
open Go.RowKit Go.Sq
def q8:∀x:Fin 16,∀h:Fin 4,(bits BinOp.and IntKind.u8 ((x.val:Int) / 2 ^ h.val) 1==1)=x.val.testBit h.val:=by decide
def iy (x h:Nat)(w:World)(hx:x<16)(hh:h<4):Calls uZ 84 #[.int .u8 x,.int .i64 h] w λe w'=>e=.returned (.bool (x.testBit h))/\w=w':=by
 go_enter Sq.func84,Tryz.ntmps84
 go_wp2
 go_ret
 have:=q8 ⟨x,hx⟩ ⟨h,hh⟩
 refine⟨?_,rfl⟩
 show Ending.returned (.bool _)=_
 rw[this]
def my (x k:Nat):below x (k+1)=below x k++if x.testBit k then[(k:Int)] else[]:=by
 unfold below
 rw[List.range_succ,List.filter_append,List.map_append]
 cases h:x.testBit k<;>simp[h]
def pJ (x k:Nat):(below x k).length<=k:=by
 unfold below
 rw[List.length_map]
 exact Nat.le_trans (List.length_filter_le _ _) (by simp)
def uv:(uZ.info? 3).map (λi=>(i.zero,i.size,i.bytes))=some (some (.int .i64 0),1,8):=by
 rw[ur];kernel_rfl
def fE (x:Nat)(w:World)(hx:x<16):Calls uZ 64 #[.int .u8 x] w λe w' =>
  ∃v,e=.returned v/\w'.ownsRow w.heap.size 3 1 v (wl x).length ((wl x).map (Value.int .i64))/\Gr w w':=by
 obtain⟨i0,hi,hz0,hz1,hz2⟩:=info_parts uv
 go_enter Sq.func64,Tryz.ntmps64
 go_wp2
 go_loopw [3,5] (λv i wr=>∃k:Nat,k<=4/\i=.int .i64 k/\wr.ownsRow w.heap.size 3 1 v (below x k).length ((below x k).map (Value.int .i64))/\Gr w wr) (λ_ i _=>4-(intOf i).toNat)
 case atStart=>exact⟨0,by omega,rfl,World.ownsRow_nil w _ _ _,Gr.refl w⟩
 case round =>
  obtain⟨k,hk,rfl,hown,hgr⟩:=hrel
  have hle:=pJ x k
  have hs:=my x k
  by_cases hlt:k<4
  ·have hw:=hgr.size
   cases hb:x.testBit k with
   |true =>
    have HS:Hid (below x (k+1)=below x k++[(k:Int)]):=by rw[hs,hb];rfl
    have hc:Calls uZ 84 #[.int .u8 x,.int .i64 k] wr λe w'=>e=.returned (.bool true)/\wr=w':=by rw[<-hb];exact iy x k wr hx hlt
    clear hs hb
    go_wp2_with (first|(go_at_call 84;refine hc.mono ?_;rintro e w' ⟨rfl,rfl⟩)|(at_builtin;refine wpList_append_gr rfl _ _ 22 rfl w.heap.size 3 i0 (.int .i64 0) 1 8 Sq.underlying22 hi hz0 hz1 hz2 rfl (by decide) _ _ _ rfl (hown.alloc _) ⟨wr.heap.size,0,none⟩ 1 1 [.int .i64 k] rfl rfl ?c1 ?c2 ?c3 ?c4 ?c5 ?_))
    case c1 =>
     intro j u hj
     match j,hj with
     |0,hj=>simp at hj;subst hj;simp[Addr.add]
    case c2=>intro u hu;simp at hu;subst hu;rfl
    case c3=>unfold maxLen;omega
    case c4=>omega
    case c5=>simp;omega
    intro v' w1 hown' hgrow hd
    have R:w1.ownsRow w.heap.size 3 1 v' (below x (k+1)).length ((below x (k+1)).map (Value.int .i64))/\Gr w w1 :=
     ⟨by rw[HS.out];simpa using hown',(hgr.alloc _).grown hgrow hd λj hj=>(hown.lt j hj).1⟩
    clear hown' hgrow hown hgr HS hd
    go_wp2
    go_roundw
    case rel=>exact⟨k+1,by omega,by go_num,R.1,R.2⟩
    case measure=>simp[intOf];omega
   |false =>
    have HS:=ui (show below x (k+1)=below x k by rw[hs,hb];simp)
    have hc:Calls uZ 84 #[.int .u8 x,.int .i64 k] wr λe w'=>e=.returned (.bool false)/\wr=w':=by rw[<-hb];exact iy x k wr hx hlt
    clear hs hb
    go_wp2_with (go_at_call 84;refine hc.mono ?_;rintro e w' ⟨rfl,rfl⟩)
    go_roundw
    case rel=>exact⟨k+1,by omega,by go_num,by rw[HS.out];exact hown,hgr⟩
    case measure=>simp[intOf];omega
  ·have:k=4:=by omega
   subst this
   go_wp2
   go_ret
   exact⟨_,rfl,hown,hgr⟩
open Go.RowKit Go.Sq
def i6 (x:Int)(w:World):Calls uZ 120 #[.int .i64 x] w λe w'=>e=.returned (.bool false)/\w=w':=by
 go_enter Sq.func120,Tryz.ntmps120
 go_wp2
 go_ret
 simp
def mz (a b:Int)(w:World):Calls uZ 83 #[.int .i64 a,.int .i64 b] w λe w'=>e=.returned (.int .i64 (cZ a b))/\w=w':=by
 by_cases h1:a<b
 ·have HS:=ui (show cZ a b=-1 by simp[cZ,h1])
  go_enter Sq.func83,Tryz.ntmps83
  go_wp2_with (go_at_call 120;refine(i6 _ _).mono ?_;rintro e w' ⟨rfl,rfl⟩)
  go_ret
  exact⟨aq HS.out.symm,rfl⟩
 ·by_cases h2:b<a
  ·have HS:=ui (show cZ a b=1 by simp[cZ,h1,h2])
   go_enter Sq.func83,Tryz.ntmps83
   go_wp2_with (go_at_call 120;refine(i6 _ _).mono ?_;rintro e w' ⟨rfl,rfl⟩)
   go_ret
   exact⟨aq HS.out.symm,rfl⟩
  ·have HS:=ui (show cZ a b=0 by simp[cZ,h1,h2])
   go_enter Sq.func83,Tryz.ntmps83
   go_wp2_with (go_at_call 120;refine(i6 _ _).mono ?_;rintro e w' ⟨rfl,rfl⟩)
   go_ret
   exact⟨aq HS.out.symm,rfl⟩
def IdxP (l:List Int)(x:Int)(e:Ending):Prop:=∃j:Int,e=.returned (.int .i64 j)/\decide (0<=j)=decide (x∈l)
def q9 (A:Option Addr)(c:Nat)(l:List Int)(x:Int)(w:World)(B:Nat)(h:RI w B A l)(hl:l.length<=4611686018427387904) :
  Calls uZ 75 #[.slice A l.length c,.int .i64 x] w λe w'=>IdxP l x e/\w=w':=by
 have HR:=ui h
 clear h
 go_enter Sq.func75,Tryz.ntmps75
 go_wp2
 go_loop [8] (λi=>∃k:Nat,k<=l.length/\i=.int .i64 k/\x ∉ l.take k) (λi=>l.length-(intOf i).toNat)
 case atStart=>exact⟨0,by omega,rfl,by simp⟩
 case round =>
  obtain⟨k,hk,rfl,hn⟩:=hrel
  by_cases hlt:k<l.length
  ·obtain⟨b,o,rfl,hb,hc⟩:=HR.out.at_ hlt
   have HT:=ui (bf 0 l k hlt)
   have hm:=mem_get l k hlt
   have HN:=ui hn
   clear hn
   generalize l[k]?.getD 0=y at hc HT hm
   by_cases hy:x=y
   ·have hb2:((x:Int)==y)=true:=by simpa using hy
    clear hy
    go_wp2
    go_ret
    refine⟨⟨k,rfl,?_⟩,rfl⟩
    have:x∈l:=by rw[show x=y by simpa using hb2];exact hm
    simp[this]
   ·have hb2:((x:Int)==y)=false:=by simpa using hy
    go_wp2
    go_round
    case rel=>exact⟨k+1,by omega,by go_num,by rw[HT.out];simp[HN.out,hy]⟩
    case measure=>simp[intOf];omega
  ·have:k=l.length:=by omega
   have HN:=ui hn
   clear hn
   go_wp2
   go_ret
   refine⟨⟨-1,rfl,?_⟩,rfl⟩
   have h2:=HN.out
   rw[List.take_of_length_le (by omega)] at h2
   simp[h2]
def iz (A:Option Addr)(c:Nat)(l:List Int)(x:Int)(w:World)(B:Nat)(h:RI w B A l)(hl:l.length<=4611686018427387904) :
  Calls uZ 52 #[.slice A l.length c,.int .i64 x] w λe w'=>e=.returned (.bool (decide (x∈l)))/\w=w':=by
 have HR:=ui h
 clear h
 go_enter Sq.func52,Tryz.ntmps52
 go_wp2_with fail
 refine(q9 A c l x w B HR.out hl).mono ?_
 rintro e w' ⟨⟨j,rfl,hj⟩,rfl⟩
 have HJ:=ui hj
 clear hj
 go_wp2
 go_ret
 refine⟨?_,rfl⟩
 have:=HJ.out
 show Ending.returned (.bool _)=_
 rw[<-this]
def jp (A A':Option Addr)(c c':Nat)(l m:List Int)(w:World)(B:Nat)(h:RI w B A l)(h':RI w B A' m)(hl:l.length<=4611686018427387904)(hm:m.length<=4611686018427387904) :
  Calls uZ 61 #[.slice A l.length c,.slice A' m.length c'] w λe w'=>e=.returned (.int .i64 (cmpL l m))/\w=w':=by
 have HR:=ui h
 have HR':=ui h'
 clear h h'
 go_enter Sq.func61,Tryz.ntmps61
 go_wp2
 go_loop [11] (λi=>∃k:Nat,k<=l.length/\k<=m.length/\i=.int .i64 k/\cmpL l m=cmpL (l.drop k) (m.drop k)) (λi=>l.length-(intOf i).toNat)
 case atStart=>exact⟨0,by omega,by omega,rfl,rfl⟩
 case round =>
  obtain⟨k,hk,hk',rfl,hcm⟩:=hrel
  have HC:=ui hcm
  clear hcm
  by_cases hlt:k<l.length
  ·obtain⟨b,o,rfl,hb,hc⟩:=HR.out.at_ hlt
   by_cases hlt':k<m.length
   ·obtain⟨b',o',rfl,hb',hc'⟩:=HR'.out.at_ hlt'
    have HD:=ui (nW l m k hlt hlt')
    generalize l[k]?.getD 0=x at hc HD
    generalize m[k]?.getD 0=y at hc' HD
    by_cases h1:x<y
    ·have HS:=ui (show cZ x y=-1 by simp[cZ,h1])
     have hcc:Calls uZ 83 #[.int .i64 x,.int .i64 y] w λe w'=>e=.returned (.int .i64 (-1))/\w=w':=by rw[<-HS.out];exact mz x y w
     go_wp2_with (go_at_call 83;refine hcc.mono ?_;rintro e w' ⟨rfl,rfl⟩)
     go_ret
     exact⟨aq (by rw[HC.out,HD.out,if_pos h1]),rfl⟩
    ·by_cases h2:y<x
     ·have HS:=ui (show cZ x y=1 by simp[cZ,h1,h2])
      have hcc:Calls uZ 83 #[.int .i64 x,.int .i64 y] w λe w'=>e=.returned (.int .i64 1)/\w=w':=by rw[<-HS.out];exact mz x y w
      go_wp2_with (go_at_call 83;refine hcc.mono ?_;rintro e w' ⟨rfl,rfl⟩)
      go_ret
      exact⟨aq (by rw[HC.out,HD.out,if_neg (by omega),if_pos h2]),rfl⟩
     ·have HS:=ui (show cZ x y=0 by simp[cZ,h1,h2])
      have hcc:Calls uZ 83 #[.int .i64 x,.int .i64 y] w λe w'=>e=.returned (.int .i64 0)/\w=w':=by rw[<-HS.out];exact mz x y w
      go_wp2_with (go_at_call 83;refine hcc.mono ?_;rintro e w' ⟨rfl,rfl⟩)
      go_round
      case rel=>exact⟨k+1,by omega,by omega,by go_num,by rw[HC.out,HD.out,if_neg (by omega),if_neg (by omega)]⟩
      case measure=>simp[intOf];omega
   ·have:k=m.length:=by omega
    have HS:=ui (show cmpL l m=1 by rw[HC.out,List.drop_of_length_le (l:=m) (by omega)];exact nV _ (by simp;omega))
    clear this
    go_wp2
    go_ret
    exact⟨aq HS.out.symm,rfl⟩
  ·have hkl:k=l.length:=by omega
   by_cases hlt':l.length<m.length
   ·have HS:=ui (show cmpL l m=-1 by rw[HC.out,List.drop_of_length_le (l:=l) (by omega),j7,if_neg (by simp;omega)])
    clear hkl
    go_wp2
    go_ret
    exact⟨aq HS.out.symm,rfl⟩
   ·have HS:=ui (show cmpL l m=0 by rw[HC.out,List.drop_of_length_le (l:=l) (by omega),j7,if_pos (by simp;omega)])
    clear hkl
    go_wp2
    go_ret
    exact⟨aq HS.out.symm,rfl⟩
def tH (A:Option Addr)(c:Nat)(l:List Int)(w:World)(B:Nat)(h:RI w B A l)(hl:l.length<=1048576)(hx:∀x∈l,0<=x/\x<=1048576) :
  Calls uZ 46 #[.slice A l.length c] w λe w'=>e=.returned (.int .i64 l.sum)/\w=w':=by
 have HR:=ui h
 have HX:=ui hx
 clear h hx
 go_enter Sq.func46,Tryz.ntmps46
 go_wp2
 go_loop [3,8] (λs i=>∃k:Nat,k<=l.length/\i=.int .i64 k/\s=.int .i64 (l.take k).sum) (λ_ i=>l.length-(intOf i).toNat)
 case atStart=>exact⟨0,by omega,rfl,by simp⟩
 case round =>
  obtain⟨k,hk,rfl,rfl⟩:=hrel
  by_cases hlt:k<l.length
  ·obtain⟨b,o,rfl,hb,hc⟩:=HR.out.at_ hlt
   have HS:=ui (gY l k hlt)
   have hy:=HX.out _ (mem_get l k hlt)
   obtain⟨hs1,hs2⟩:=sum_bound 0 1048576 (l.take k) λy hy=>HX.out y (List.mem_of_mem_take hy)
   have hs3:((l.take k).length:Int)*1048576<=1048576*1048576:=by
    have:(l.take k).length<=1048576:=by rw[List.length_take];omega
    omega
   have hs4:0<=(l.take k).sum:=by omega
   have hs5:(l.take k).sum<=1099511627776:=by omega
   clear hs1 hs2 hs3
   generalize l[k]?.getD 0=y at hc HS hy
   obtain⟨hy1,hy2⟩:=hy
   go_wp2
   go_round
   case rel=>exact⟨k+1,by omega,by go_num,by rw[HS.out]⟩
   case measure=>simp[intOf];omega
  ·have:k=l.length:=by omega
   have HS:=ui (show(l.take k).sum=l.sum by rw[List.take_of_length_le (by omega)])
   clear this
   go_wp2
   go_ret
   exact⟨aq HS.out,rfl⟩
open Go.RowKit Go.Sq
def gw (x:Nat)(w:World)(hx:x<16):Calls uZ 64 #[.int .u8 x] w λe w' =>
  ∃A c,e=.returned (.slice A (wl x).length c)/\RI w' w'.heap.size A (wl x)/\Gr w w':=(fE x w hx).mono λe w' ⟨v,h1,h2,h3⟩=>by
 obtain⟨A,c,rfl,h4⟩:=uq h2
 exact⟨A,c,h1,h4,h3⟩
def n7 (cb:Nat)(c:Camp)(x:Nat)(w:World){nA hA:Option Addr}{nc hc:Nat}(h:CampP w w.heap.size cb c nA hA nc hc)(h4:c.herders.length<=4)(hd:∀h∈c.herders,1<=h.dogs/\h.dogs<=5)(hx:c.has x) :
  Calls uZ 35 #[.pointer (some ⟨cb,0,none⟩),.int .u8 x] w λe w'=>e=.returned (.int .i64 (c.dogs x))/\Gr w w':=by
 have HP:=ui h
 have HD:=ui hd
 have HX:=ui hx
 have hx16:=us h4 hx
 clear h hd hx
 go_enter Sq.func35,Tryz.ntmps35
 go_wp2_with fail
 refine(gw x w hx16).mono ?_
 rintro e w1 ⟨A,cc,rfl,hri,hgr⟩
 have HR:=ui hri
 have HG:=ui hgr
 have HP1:=ui (HP.out.gr (Nat.le_refl _) hgr)
 have hl:=cO x
 clear hri hgr
 go_wp2
 go_loop [5,11] (λs i=>∃k:Nat,k<=(wl x).length/\i=.int .i64 k/\s=.int .i64 ((c.dogL x).take k).sum) (λ_ i=>(wl x).length-(intOf i).toNat)
 case atStart=>exact⟨0,by omega,rfl,by simp⟩
 case round =>
  obtain⟨k,hk,rfl,rfl⟩:=hrel
  by_cases hlt:k<(wl x).length
  ·obtain⟨b,o,rfl,hb,hcell⟩:=HR.out.at_ hlt
   obtain⟨n,hn,hn1,hn2,hn3⟩:=wl_at HX.out hlt
   rw[hn] at hcell
   have hc0:=HP1.out.c0
   have hc1:=HP1.out.c1
   obtain⟨hb2,ho2,rfl,hlt2,hh⟩:=HP1.out.herds.at_ hn1
   obtain⟨-,hdog,-,-⟩:=hh
   have HS:=ui ((gY (c.dogL x) k (by rw[c.dogL_len];exact hlt)).trans (by rw[c.dogL_at hlt hn]))
   obtain⟨hs1,hs2⟩:=dogs_bd c HX.out HD.out k
   obtain⟨hd1,hd2⟩:=HD.out _ (c.h_mem hn1)
   have HN:=ui hn
   clear hn
   go_wp2
   go_round
   case rel=>exact⟨k+1,by omega,by go_num,by rw[HS.out]⟩
   case measure=>simp[intOf];omega
  ·have hkl:k=(wl x).length:=by omega
   have HS:=ui (show((c.dogL x).take k).sum=c.dogs x by rw[List.take_of_length_le (by rw[c.dogL_len];omega)];rfl)
   clear hkl
   go_wp2
   go_ret
   exact⟨aq HS.out,HG.out⟩
def qS (cb br n night:Nat)(c:Camp)(w:World){nA hA:Option Addr}{nc hc:Nat}(h:CampP w w.heap.size cb c nA hA nc hc)(hn:n<c.herders.length)(ho:(c.h n).off.length<=5)(hn4:n<4) :
  Calls uZ 85 #[.pointer (some ⟨cb,0,none⟩),.pointer (some ⟨br,0,none⟩),.int .i64 night,.int .i64 n] w λe w'=>e=.returned (.bool (offB c night n))/\w=w':=by
 have HP:=ui h
 have hc0:=h.c0
 have hc1:=h.c1
 obtain⟨b,o,rfl,hlt,hh⟩:=h.herds.at_ hn
 obtain⟨-,-,-,A,cc,hoff,hri⟩:=hh
 have HC:=ui (iz A cc (c.h n).off night w w.heap.size hri (by omega))
 clear h hri
 go_enter Sq.func85,Tryz.ntmps85
 go_wp2_with fail
 refine HC.out.mono ?_
 rintro e w' ⟨rfl,rfl⟩
 go_wp2
 go_ret
 exact⟨rfl,rfl⟩
def lT (cb br n night:Nat)(r:Nat->Nat)(w:World)(hr:RosAt w w.heap.size br r)(hn:n<4)(hi:night<5)(hx:r (night-1)<16) :
  Calls uZ 86 #[.pointer (some ⟨cb,0,none⟩),.pointer (some ⟨br,0,none⟩),.int .i64 night,.int .i64 n] w λe w'=>e=.returned (.bool (eK r night n))/\w=w':=by
 rcases Nat.eq_zero_or_pos night with h0|h0
 ·have HS:=ui (show eK r night n=false by simp[eK,h0])
  subst h0
  clear hr hx
  go_enter Sq.func86,Tryz.ntmps86
  go_wp2
  go_ret
  exact⟨aD HS.out.symm,rfl⟩
 ·obtain⟨m,rfl⟩:∃m,night=m+1:=⟨night-1,by omega⟩
  have HS:=ui (show eK r (m+1) n=(r m).testBit n by simp[eK])
  have hc:=hr.2 m (by omega)
  rw[show m+1-1=m by omega] at hx
  have HC:=ui (iy (r m) n w hx hn)
  clear hr
  go_enter Sq.func86,Tryz.ntmps86
  go_wp2_with fail
  refine HC.out.mono ?_
  rintro e w' ⟨rfl,rfl⟩
  go_wp2
  go_ret
  exact⟨aD HS.out.symm,rfl⟩
def lU (cb br n night:Nat)(c:Camp)(r:Nat->Nat)(w:World){nA hA:Option Addr}{nc hc:Nat}(h:CampP w w.heap.size cb c nA hA nc hc)(hr:RosAt w w.heap.size br r)(hn:n<c.herders.length)(hn4:n<4)(hi:night<5)(hx:∀i,r i<16) :
  Calls uZ 87 #[.pointer (some ⟨cb,0,none⟩),.pointer (some ⟨br,0,none⟩),.int .i64 night,.int .i64 n] w λe w'=>e=.returned (.bool (nY c r night n))/\w=w':=by
 have HP:=ui h
 have HR:=ui hr
 have HX:=ui hx
 have hc0:=h.c0
 have hc1:=h.c1
 obtain⟨b,o,rfl,hlt,hh⟩:=h.herds.at_ hn
 obtain⟨-,-,hmost,-⟩:=hh
 clear h hr hx
 go_enter Sq.func87,Tryz.ntmps87
 go_wp2
 go_loop [9,12] (λs i=>∃k:Nat,k<=night/\i=.int .i64 k/\s=.int .i64 (oftenN r n k)) (λ_ i=>night-(intOf i).toNat)
 case atStart=>exact⟨0,by omega,rfl,rfl⟩
 case round =>
  obtain⟨k,hk,rfl,rfl⟩:=hrel
  have hle:=nX r n k
  by_cases hlt:k<night
  ·have hc:=HR.out.2 k (by omega)
   have hx16:=HX.out k
   cases hb:(r k).testBit n with
   |true =>
    have HC:Hid (Calls uZ 84 #[.int .u8 (r k),.int .i64 n] w λe w'=>e=.returned (.bool true)/\w=w'):=ui (by rw[<-hb];exact iy (r k) n w hx16 hn4)
    have HS:=ui (show oftenN r n (k+1)=oftenN r n k+1 by simp[oftenN,hb])
    clear hb
    go_wp2_with (go_at_call 84;refine HC.out.mono ?_;rintro e w' ⟨rfl,rfl⟩)
    go_round
    case rel=>exact⟨k+1,by omega,by go_num,by rw[HS.out];go_num⟩
    case measure=>simp[intOf];omega
   |false =>
    have HC:Hid (Calls uZ 84 #[.int .u8 (r k),.int .i64 n] w λe w'=>e=.returned (.bool false)/\w=w'):=ui (by rw[<-hb];exact iy (r k) n w hx16 hn4)
    have HS:=ui (show oftenN r n (k+1)=oftenN r n k by simp[oftenN,hb])
    clear hb
    go_wp2_with (go_at_call 84;refine HC.out.mono ?_;rintro e w' ⟨rfl,rfl⟩)
    go_round
    case rel=>exact⟨k+1,by omega,by go_num,by rw[HS.out]⟩
    case measure=>simp[intOf];omega
  ·have hkl:k=night:=by omega
   subst hkl
   go_wp2
   go_ret
   exact⟨rfl,rfl⟩
open Go.RowKit Go.Sq
def ra (p:Nat->Prop):∀j,j<0->p j:=λ_ h=>absurd h (Nat.not_lt_zero _)
def lapV (x:Int×Int×Int):Value:=.agg #[.int .i64 x.1,.int .i64 x.2.1,.int .i64 x.2.2]
def lV (cb br night:Nat)(c:Camp)(r:Nat->Nat)(w:World){nA hA:Option Addr}{nc hc:Nat}(h:CampP w w.heap.size cb c nA hA nc hc)(hr:RosAt w w.heap.size br r)(hok:c.Ok)(hi:night<c.needs.length)(hx:∀i,c.has (r i)) :
  Calls uZ 66 #[.pointer (some ⟨cb,0,none⟩),.pointer (some ⟨br,0,none⟩),.int .i64 night] w λe w'=>e=.returned (lapV (lapseOf c r night))/\Gr w w':=by
 have HP:=ui h
 have HR:=ui hr
 have HX:=ui hx
 have hbr:=hr.1
 have hcb:=h.lt
 have hn5:=hok.n5
 clear h hr hx
 go_enter Sq.func66,Tryz.ntmps66
 go_wp2
 obtain⟨W0,hW0⟩:∃W0:World,W0=(w.alloc (.cells #[.int .i64 0,.int .i64 0,.int .i64 0] 146)).alloc (.cells #[.func (.func 85) #[] #[],.func (.func 86) #[] #[],.func (.func 87) #[] #[]] 164):=⟨_,rfl⟩
 have hg0:Gr w W0:=by rw[hW0];exact((Gr.refl w).alloc _).alloc _
 have hz0:W0.heap.size=w.heap.size+2:=by rw[hW0];simp
 have HRES:Hid (∀w2,Gr W0 w2->(w2.cell? ⟨w.heap.size,0,none⟩=some (.int .i64 0)/\w2.cell? ⟨w.heap.size,1,none⟩=some (.int .i64 0)/\w2.cell? ⟨w.heap.size,2,none⟩=some (.int .i64 0))/\w2.frozen? ⟨w.heap.size,0,none⟩=false/\w2.frozen? ⟨w.heap.size,1,none⟩=false/\w2.frozen? ⟨w.heap.size,2,none⟩=false):=ui λw2 hg=>by
  have e:∀o,w2.cell? ⟨w.heap.size,o,none⟩=(#[.int .i64 0,.int .i64 0,.int .i64 0]:Array Value)[o]?/\w2.frozen? ⟨w.heap.size,o,none⟩=false:=λo=>by
   rw[hg.cell (by show w.heap.size<_;omega),hg.frozen (by show w.heap.size<_;omega),hW0,World.cell?_alloc_past _ _ _ (by simp),World.cell?_alloc_at _ _ _ _ rfl,World.frozen?_alloc_past _ _ _ (by simp),World.frozen?_alloc_at _ _ _ _ rfl]
   exact⟨rfl,rfl⟩
  exact⟨⟨(e 0).1,(e 1).1,(e 2).1⟩,(e 0).2,(e 1).2,(e 2).2⟩
 rw[<-hW0]
 clear hW0
 have h4:=hok.h4
 go_loopw [14] (λi wr=>∃k:Nat,k<=3/\i=.int .i64 k/\(∀j,j<k->breaks c r night j=none)/\Gr W0 wr) (λi _=>3-(intOf i).toNat)
 case atStart=>exact⟨0,by omega,rfl,ra _,Gr.refl _⟩
 case round =>
  obtain⟨k,hk,rfl,hb,hgr⟩:=hrel
  have HG0:=ui (hg0.trans hgr)
  have HGR:=ui hgr
  clear hgr
  obtain rfl|rfl|rfl|rfl:k=0\/k=1\/k=2\/k=3:=by omega
  ·
   have hi0:∀w,(Instr.index 164 (.agg #[.func (.func 85) #[] #[],.func (.func 86) #[] #[],.func (.func 87) #[] #[]]) (.int .i64 0)).run uZ w=.ok (.func (.func 85) #[] #[]) w:=λ_=>by kernel_rfl
   have hrn:=HX.out night
   have h16:=us h4 hrn
   have hcr:=(HR.out.on HG0.out).2 night (by omega)
   have HL:=ui (gw (r night) wr h16)
   have HB:=ui hb
   have HP1:=ui (HP.out.on HG0.out)
   have HR1:=ui (HR.out.on HG0.out)
   clear hb
   go_wp2_with fail
   refine HL.out.mono ?_
   rintro e w2 ⟨A,cc,rfl,hri,hg2⟩
   have HRI:=ui hri
   have HG2:=ui (HG0.out.trans hg2)
   have HP2:=ui (HP1.out.on hg2)
   have HR2:=ui (HR1.out.on hg2)
   have HGW:=ui (HGR.out.trans hg2)
   obtain⟨⟨hr0,hr1,hr2⟩,hf0,hf1,hf2⟩:=HRES.out w2 HGW.out
   have hl:=cO (r night)
   have hz2:=hg2.size
   clear hri hg2
   go_wp2
   go_loop [25] (λi=>∃k:Nat,k<=(wl (r night)).length/\i=.int .i64 k/\((wl (r night)).take k).find? (λh=>ruleB c r night 0 h.toNat)=none) (λi=>(wl (r night)).length-(intOf i).toNat)
   case atStart=>exact⟨0,by omega,rfl,by simp⟩
   case round =>
    obtain⟨k,hk,rfl,hnone⟩:=hrel
    have HN:=ui hnone
    clear hnone
    by_cases hlt:k<(wl (r night)).length
    ·obtain⟨b,o,rfl,hb,hcell⟩:=HRI.out.at_ hlt
     obtain⟨n,hn,hn1,hn2,hn3⟩:=wl_at hrn hlt
     rw[hn] at hcell
     have HE:=ui hn
     clear hn
     cases hq:ruleB c r night 0 n with
     |true =>
      have HC:Hid (Calls uZ 85 #[.pointer (some ⟨cb,0,none⟩),.pointer (some ⟨br,0,none⟩),.int .i64 night,.int .i64 n] w2 λe w'=>e=.returned (.bool true)/\w2=w'):=ui (by rw[<-hq];exact qS cb br n night c w2 HP2.out hn1 (hok.off _ (c.h_mem hn1)).1 hn2)
      have HF:=ui (show breaks c r night 0=some ((n:Nat):Int) by have:=eZ hlt HN.out (by rw[HE.out];exact hq);rw[HE.out] at this;exact this)
      clear hq
      go_wp2_with (go_at_call 85;refine HC.out.mono ?_;rintro e w' ⟨rfl,rfl⟩)
      obtain⟨s0,s1,s2⟩:=set3 hr0 hr1 hr2
      refine bodyPost_ret (v:=lapV (1,night,n)) (by simp[results,Tryz.results66,go_sem,lapV,s0,s1,s2]) rfl ⟨?_,?_⟩
      ·exact congrArg Ending.returned (congrArg lapV (by unfold lapseOf;skip;rw[HF.out]))
      ·exact((HG2.out.setCell (Nat.le_refl _) _).setCell (Nat.le_refl _) _).setCell (Nat.le_refl _) _
     |false =>
      have HC:Hid (Calls uZ 85 #[.pointer (some ⟨cb,0,none⟩),.pointer (some ⟨br,0,none⟩),.int .i64 night,.int .i64 n] w2 λe w'=>e=.returned (.bool false)/\w2=w'):=ui (by rw[<-hq];exact qS cb br n night c w2 HP2.out hn1 (hok.off _ (c.h_mem hn1)).1 hn2)
      have HF:=ui (fD hlt HN.out (by rw[HE.out];exact hq))
      clear hq
      go_wp2_with (go_at_call 85;refine HC.out.mono ?_;rintro e w' ⟨rfl,rfl⟩)
      go_round
      case rel=>exact⟨k+1,by omega,by go_num,HF.out⟩
      case measure=>simp[intOf];omega
    ·have HF:=ui (show breaks c r night 0=none by have:=HN.out;rw[List.take_of_length_le (by omega)] at this;exact this)
     clear HN
     go_wp2
     go_roundw
     case rel=>exact⟨1,by omega,by go_num,λj hj=>by
      rcases Nat.lt_or_eq_of_le (Nat.le_of_lt_succ hj) with h|rfl
      ·exact HB.out j h
      ·exact HF.out,HGW.out⟩
     case measure=>simp[intOf]
  ·
   have hi0:∀w,(Instr.index 164 (.agg #[.func (.func 85) #[] #[],.func (.func 86) #[] #[],.func (.func 87) #[] #[]]) (.int .i64 1)).run uZ w=.ok (.func (.func 86) #[] #[]) w:=λ_=>by kernel_rfl
   have hrn:=HX.out night
   have h16:=us h4 hrn
   have hcr:=(HR.out.on HG0.out).2 night (by omega)
   have HL:=ui (gw (r night) wr h16)
   have HB:=ui hb
   have HP1:=ui (HP.out.on HG0.out)
   have HR1:=ui (HR.out.on HG0.out)
   clear hb
   go_wp2_with fail
   refine HL.out.mono ?_
   rintro e w2 ⟨A,cc,rfl,hri,hg2⟩
   have HRI:=ui hri
   have HG2:=ui (HG0.out.trans hg2)
   have HP2:=ui (HP1.out.on hg2)
   have HR2:=ui (HR1.out.on hg2)
   have HGW:=ui (HGR.out.trans hg2)
   obtain⟨⟨hr0,hr1,hr2⟩,hf0,hf1,hf2⟩:=HRES.out w2 HGW.out
   have hl:=cO (r night)
   have hz2:=hg2.size
   clear hri hg2
   go_wp2
   go_loop [25] (λi=>∃k:Nat,k<=(wl (r night)).length/\i=.int .i64 k/\((wl (r night)).take k).find? (λh=>ruleB c r night 1 h.toNat)=none) (λi=>(wl (r night)).length-(intOf i).toNat)
   case atStart=>exact⟨0,by omega,rfl,by simp⟩
   case round =>
    obtain⟨k,hk,rfl,hnone⟩:=hrel
    have HN:=ui hnone
    clear hnone
    by_cases hlt:k<(wl (r night)).length
    ·obtain⟨b,o,rfl,hb,hcell⟩:=HRI.out.at_ hlt
     obtain⟨n,hn,hn1,hn2,hn3⟩:=wl_at hrn hlt
     rw[hn] at hcell
     have HE:=ui hn
     clear hn
     cases hq:ruleB c r night 1 n with
     |true =>
      have HC:Hid (Calls uZ 86 #[.pointer (some ⟨cb,0,none⟩),.pointer (some ⟨br,0,none⟩),.int .i64 night,.int .i64 n] w2 λe w'=>e=.returned (.bool true)/\w2=w'):=ui (by rw[<-hq];exact lT cb br n night r w2 HR2.out hn2 (by omega) (us h4 (HX.out _)))
      have HF:=ui (show breaks c r night 1=some ((n:Nat):Int) by have:=eZ hlt HN.out (by rw[HE.out];exact hq);rw[HE.out] at this;exact this)
      clear hq
      go_wp2_with (go_at_call 86;refine HC.out.mono ?_;rintro e w' ⟨rfl,rfl⟩)
      obtain⟨s0,s1,s2⟩:=set3 hr0 hr1 hr2
      refine bodyPost_ret (v:=lapV (2,night,n)) (by simp[results,Tryz.results66,go_sem,lapV,s0,s1,s2]) rfl ⟨?_,?_⟩
      ·exact congrArg Ending.returned (congrArg lapV (by unfold lapseOf;skip;rw[HB.out 0 (by omega)];rw[HF.out]))
      ·exact((HG2.out.setCell (Nat.le_refl _) _).setCell (Nat.le_refl _) _).setCell (Nat.le_refl _) _
     |false =>
      have HC:Hid (Calls uZ 86 #[.pointer (some ⟨cb,0,none⟩),.pointer (some ⟨br,0,none⟩),.int .i64 night,.int .i64 n] w2 λe w'=>e=.returned (.bool false)/\w2=w'):=ui (by rw[<-hq];exact lT cb br n night r w2 HR2.out hn2 (by omega) (us h4 (HX.out _)))
      have HF:=ui (fD hlt HN.out (by rw[HE.out];exact hq))
      clear hq
      go_wp2_with (go_at_call 86;refine HC.out.mono ?_;rintro e w' ⟨rfl,rfl⟩)
      go_round
      case rel=>exact⟨k+1,by omega,by go_num,HF.out⟩
      case measure=>simp[intOf];omega
    ·have HF:=ui (show breaks c r night 1=none by have:=HN.out;rw[List.take_of_length_le (by omega)] at this;exact this)
     clear HN
     go_wp2
     go_roundw
     case rel=>exact⟨2,by omega,by go_num,λj hj=>by
      rcases Nat.lt_or_eq_of_le (Nat.le_of_lt_succ hj) with h|rfl
      ·exact HB.out j h
      ·exact HF.out,HGW.out⟩
     case measure=>simp[intOf]
  ·
   have hi0:∀w,(Instr.index 164 (.agg #[.func (.func 85) #[] #[],.func (.func 86) #[] #[],.func (.func 87) #[] #[]]) (.int .i64 2)).run uZ w=.ok (.func (.func 87) #[] #[]) w:=λ_=>by kernel_rfl
   have hrn:=HX.out night
   have h16:=us h4 hrn
   have hcr:=(HR.out.on HG0.out).2 night (by omega)
   have HL:=ui (gw (r night) wr h16)
   have HB:=ui hb
   have HP1:=ui (HP.out.on HG0.out)
   have HR1:=ui (HR.out.on HG0.out)
   clear hb
   go_wp2_with fail
   refine HL.out.mono ?_
   rintro e w2 ⟨A,cc,rfl,hri,hg2⟩
   have HRI:=ui hri
   have HG2:=ui (HG0.out.trans hg2)
   have HP2:=ui (HP1.out.on hg2)
   have HR2:=ui (HR1.out.on hg2)
   have HGW:=ui (HGR.out.trans hg2)
   obtain⟨⟨hr0,hr1,hr2⟩,hf0,hf1,hf2⟩:=HRES.out w2 HGW.out
   have hl:=cO (r night)
   have hz2:=hg2.size
   clear hri hg2
   go_wp2
   go_loop [25] (λi=>∃k:Nat,k<=(wl (r night)).length/\i=.int .i64 k/\((wl (r night)).take k).find? (λh=>ruleB c r night 2 h.toNat)=none) (λi=>(wl (r night)).length-(intOf i).toNat)
   case atStart=>exact⟨0,by omega,rfl,by simp⟩
   case round =>
    obtain⟨k,hk,rfl,hnone⟩:=hrel
    have HN:=ui hnone
    clear hnone
    by_cases hlt:k<(wl (r night)).length
    ·obtain⟨b,o,rfl,hb,hcell⟩:=HRI.out.at_ hlt
     obtain⟨n,hn,hn1,hn2,hn3⟩:=wl_at hrn hlt
     rw[hn] at hcell
     have HE:=ui hn
     clear hn
     cases hq:ruleB c r night 2 n with
     |true =>
      have HC:Hid (Calls uZ 87 #[.pointer (some ⟨cb,0,none⟩),.pointer (some ⟨br,0,none⟩),.int .i64 night,.int .i64 n] w2 λe w'=>e=.returned (.bool true)/\w2=w'):=ui (by rw[<-hq];exact lU cb br n night c r w2 HP2.out HR2.out hn1 hn2 (by omega) λi=>us h4 (HX.out i))
      have HF:=ui (show breaks c r night 2=some ((n:Nat):Int) by have:=eZ hlt HN.out (by rw[HE.out];exact hq);rw[HE.out] at this;exact this)
      clear hq
      go_wp2_with (go_at_call 87;refine HC.out.mono ?_;rintro e w' ⟨rfl,rfl⟩)
      obtain⟨s0,s1,s2⟩:=set3 hr0 hr1 hr2
      refine bodyPost_ret (v:=lapV (3,night,n)) (by simp[results,Tryz.results66,go_sem,lapV,s0,s1,s2]) rfl ⟨?_,?_⟩
      ·exact congrArg Ending.returned (congrArg lapV (by unfold lapseOf;skip;rw[HB.out 0 (by omega)];rw[HB.out 1 (by omega)];rw[HF.out]))
      ·exact((HG2.out.setCell (Nat.le_refl _) _).setCell (Nat.le_refl _) _).setCell (Nat.le_refl _) _
     |false =>
      have HC:Hid (Calls uZ 87 #[.pointer (some ⟨cb,0,none⟩),.pointer (some ⟨br,0,none⟩),.int .i64 night,.int .i64 n] w2 λe w'=>e=.returned (.bool false)/\w2=w'):=ui (by rw[<-hq];exact lU cb br n night c r w2 HP2.out HR2.out hn1 hn2 (by omega) λi=>us h4 (HX.out i))
      have HF:=ui (fD hlt HN.out (by rw[HE.out];exact hq))
      clear hq
      go_wp2_with (go_at_call 87;refine HC.out.mono ?_;rintro e w' ⟨rfl,rfl⟩)
      go_round
      case rel=>exact⟨k+1,by omega,by go_num,HF.out⟩
      case measure=>simp[intOf];omega
    ·have HF:=ui (show breaks c r night 2=none by have:=HN.out;rw[List.take_of_length_le (by omega)] at this;exact this)
     clear HN
     go_wp2
     go_roundw
     case rel=>exact⟨3,by omega,by go_num,λj hj=>by
      rcases Nat.lt_or_eq_of_le (Nat.le_of_lt_succ hj) with h|rfl
      ·exact HB.out j h
      ·exact HF.out,HGW.out⟩
     case measure=>simp[intOf]
  ·
   have hrn:=HX.out night
   have hcr:=(HR.out.on HG0.out).2 night (by omega)
   have HB:=ui hb
   have HP1:=ui (HP.out.on HG0.out)
   obtain⟨⟨hr0,hr1,hr2⟩,hf0,hf1,hf2⟩:=HRES.out wr HGR.out
   have hc0:=HP1.out.c0
   obtain⟨nb,no,rfl,hnb,hneed⟩:=HP1.out.needs.at_ hi
   have HD:=ui (n7 cb c (r night) wr.drew (HP1.out.on (Gr.refl wr).drew) h4 hok.dogs hrn)
   have HLT:=ui (show lapseOf c r night=if c.dogs (r night)<c.need night then(4,(night:Int),-1) else(0,-1,-1) by unfold lapseOf;rw[HB.out 0 (by omega),HB.out 1 (by omega),HB.out 2 (by omega)])
   have hcblt:cb<wr.heap.size:=HP1.out.lt
   have hWlt:w.heap.size<wr.heap.size:=by have:=HGR.out.size;omega
   have HG1:=ui ((HG0.out.drew))
   have HG2:=ui ((HGR.out.drew))
   clear hb hr0 hr1 hr2 hf0 hf1 hf2
   change wr.cell? ⟨nb,no+night,none⟩=some (.int .i64 (c.need night)) at hneed
   generalize c.need night=m at hneed HLT
   generalize c.dogs (r night)=d at HD HLT
   by_cases hdm:d<m
   ·have HL:=ui (show lapseOf c r night=(4,(night:Int),-1) by rw[HLT.out,if_pos hdm])
    clear HLT
    go_wp2
    go_region_with (first|(go_at_call 35;refine HD.out.mono ?_;rintro e w3 ⟨rfl,hg3⟩;have q0:=(hg3.cell (p:=⟨cb,0,none⟩) hcblt).trans hc0;have q1:=(hg3.cell (p:=⟨nb,no+night,none⟩) hnb).trans hneed;have HG3:=ui (HG1.out.trans hg3);obtain⟨⟨hr0,hr1,hr2⟩,hf0,hf1,hf2⟩:=HRES.out w3 (HG2.out.trans hg3);clear hg3))
    all_goals
     go_wp2
     obtain⟨s0,s1,s2⟩:=set3 hr0 hr1 hr2
     refine bodyPost_ret (v:=lapV (4,night,-1)) (by simp[results,Tryz.results66,go_sem,lapV,s0,s1,s2]) rfl ⟨?_,?_⟩
     ·exact congrArg Ending.returned (congrArg lapV HL.out.symm)
     ·exact((HG3.out.setCell (Nat.le_refl _) _).setCell (Nat.le_refl _) _).setCell (Nat.le_refl _) _
   ·have HL:=ui (show lapseOf c r night=(0,-1,-1) by rw[HLT.out,if_neg hdm])
    clear HLT
    go_wp2
    go_region_with (first|(go_at_call 35;refine HD.out.mono ?_;rintro e w3 ⟨rfl,hg3⟩;have q0:=(hg3.cell (p:=⟨cb,0,none⟩) hcblt).trans hc0;have q1:=(hg3.cell (p:=⟨nb,no+night,none⟩) hnb).trans hneed;have HG3:=ui (HG1.out.trans hg3);obtain⟨⟨hr0,hr1,hr2⟩,hf0,hf1,hf2⟩:=HRES.out w3 (HG2.out.trans hg3);clear hg3))
    all_goals
     go_wp2
     obtain⟨s0,s1,s2⟩:=set3 hr0 hr1 hr2
     refine bodyPost_ret (v:=lapV (0,-1,-1)) (by simp[results,Tryz.results66,go_sem,lapV,s0,s1,s2]) rfl ⟨?_,?_⟩
     ·exact congrArg Ending.returned (congrArg lapV HL.out.symm)
     ·exact((HG3.out.setCell (Nat.le_refl _) _).setCell (Nat.le_refl _) _).setCell (Nat.le_refl _) _
end Go.Proofs.YtjmmlkobmhlikaaGreat
namespace Go.Sq
def ofL (l:List Int):Nat:=l.foldl (λx h=>x ||| 2 ^ h.toNat) 0
def pK (l:List Int)(k:Nat)(hk:k<l.length):ofL (l.take (k+1))=ofL (l.take k) ||| 2 ^ (l[k]?.getD 0).toNat:=by
 rw[bf 0 l k hk];unfold ofL;rw[List.foldl_append];rfl
def tI:∀x:Fin 16,∀n:Fin 4,(x.val ||| 2 ^ n.val)<16:=by decide
def n8 (l:List Int)(h:∀x∈l,0<=x/\x<4):ofL l<16:=by
 have key:∀(l:List Int) (x:Nat),(∀y∈l,0<=y/\y<4)->x<16->l.foldl (λx h=>x ||| 2 ^ h.toNat) x<16:=by
  intro l
  induction l with
  |nil=>intro x _ hx;exact hx
  |cons a l ih =>
   intro x h hx
   have ha:=h a List.mem_cons_self
   exact ih _ (λy hy=>h y (List.mem_cons_of_mem _ hy)) (tI ⟨x,hx⟩ ⟨a.toNat,by omega⟩)
 exact key l 0 h (by decide)
open Go.RowKit
structure KT (T:Nat->Prop)(w w':World):Prop where
 os:w'.os=w.os
 tape:w'.tape=w.tape
 output:w'.output=w.output
 drawn:w.drawn<=w'.drawn
 size:w.heap.size<=w'.heap.size
 block:∀b,b<w.heap.size->¬T b->w'.heap[b]?=w.heap[b]?
def KT.refl (T:Nat->Prop)(w:World):KT T w w:=⟨rfl,rfl,rfl,Nat.le_refl _,Nat.le_refl _,λ_ _ _=>rfl⟩
def KT.trans {T:Nat->Prop}{a b c:World}(h:KT T a b)(k:KT T b c):KT T a c :=
 ⟨k.os.trans h.os,k.tape.trans h.tape,k.output.trans h.output,Nat.le_trans h.drawn k.drawn,Nat.le_trans h.size k.size,λx hx hT=>(k.block x (Nat.lt_of_lt_of_le hx h.size) hT).trans (h.block x hx hT)⟩
def um {T:Nat->Prop}{w w':World}(h:Gr w w'):KT T w w':=⟨h.below.os,h.below.tape,h.below.output,h.drawn,h.size,λb hb _=>h.below.block b hb⟩
def KT.mono {T T':Nat->Prop}{w w':World}(h:KT T w w')(hT:∀b,T b->T' b):KT T' w w':=⟨h.os,h.tape,h.output,h.drawn,h.size,λb hb hn=>h.block b hb λt=>hn (hT b t)⟩
def KT.setCell {T:Nat->Prop}(w:World){p:Addr}(hp:T p.block)(v:Value):KT T w (w.setCell p v) :=
 ⟨rfl,rfl,rfl,Nat.le_refl _,by simp[World.setCell],λb _ hT=>Below.heap_setCell w p v b λe=>hT (e▸hp)⟩
def KT.putObj {T:Nat->Prop}(w:World){l:Nat}(hl:T l)(o:Obj):KT T w (w.putObj l o) :=
 ⟨rfl,rfl,rfl,Nat.le_refl _,by simp[World.putObj],λb _ hT=>World.putObj_heap_other λe=>hT (e▸hl)⟩
def KT.cell {T:Nat->Prop}{w w':World}(h:KT T w w'){p:Addr}(hp:p.block<w.heap.size)(hT:¬T p.block):w'.cell? p=w.cell? p:=World.cell?_of_block (h.block _ hp hT)
def KT.frozen {T:Nat->Prop}{w w':World}(h:KT T w w'){p:Addr}(hp:p.block<w.heap.size)(hT:¬T p.block):w'.frozen? p=w.frozen? p:=World.frozen?_of_block (h.block _ hp hT)
def RIK (w:World)(K:Nat->Prop)(A:Option Addr)(l:List Int):Prop :=
 l≠[]->∃b o,A=some ⟨b,o,none⟩/\K b/\∀i x,l[i]?=some x->w.cell? ⟨b,o+i,none⟩=some (.int .i64 x)
def HAtK (w:World)(K:Nat->Prop)(b o:Nat)(h:Herder):Prop :=
 w.cell? ⟨b,o,none⟩=some (.int .i64 h.heads)/\w.cell? ⟨b,o+1,none⟩=some (.int .i64 h.dogs)/\w.cell? ⟨b,o+2,none⟩=some (.int .i64 h.most) /\
  ∃A c,w.cell? ⟨b,o+3,none⟩=some (.slice A h.off.length c)/\RIK w K A h.off
def HsAtK (w:World)(K:Nat->Prop)(A:Option Addr)(l:List Herder):Prop :=
 l≠[]->∃b o,A=some ⟨b,o,none⟩/\K b/\∀i h,l[i]?=some h->HAtK w K b (o+i*4) h
structure CampK (w:World)(K:Nat->Prop)(cb:Nat)(c:Camp)(sets:List Nat)(nA hA:Option Addr)(nc hc sb sc:Nat):Prop where
 lt:∀b,K b->b<w.heap.size
 kc:K cb
 c0:w.cell? ⟨cb,0,none⟩=some (.slice nA c.needs.length nc)
 c1:w.cell? ⟨cb,1,none⟩=some (.slice hA c.herders.length hc)
 c2:w.cell? ⟨cb,2,none⟩=some (.slice (some ⟨sb,0,none⟩) sets.length sc)
 ks:K sb
 sets:∀(i x:Nat),sets[i]?=some x->w.cell? ⟨sb,i,none⟩=some (.int .u8 (x:Int))
 needs:RIK w K nA c.needs
 herds:HsAtK w K hA c.herders
section
variable {w w':World} {K:Nat->Prop} {B:Nat} {A:Option Addr}
def RIK.ri {l:List Int}(h:RIK w K A l)(hK:∀b,K b->b<B):RI w B A l:=λhn=>by
 obtain⟨b,o,e,hb,hc⟩:=h hn
 exact⟨b,o,e,hK b hb,hc⟩
def HAtK.hat {b o:Nat}{h:Herder}(ha:HAtK w K b o h)(hK:∀b,K b->b<B):HAt w B b o h:=by
 obtain⟨h1,h2,h3,A,c,h4,h5⟩:=ha
 exact⟨h1,h2,h3,A,c,h4,h5.ri hK⟩
def HsAtK.hs {l:List Herder}(h:HsAtK w K A l)(hK:∀b,K b->b<B):HsAt w B A l:=λhn=>by
 obtain⟨b,o,e,hb,hc⟩:=h hn
 exact⟨b,o,e,hK b hb,λi h hi=>(hc i h hi).hat hK⟩
def RIK.keep {l:List Int}(h:RIK w K A l)(hk:∀b o,K b->w'.cell? ⟨b,o,none⟩=w.cell? ⟨b,o,none⟩):RIK w' K A l:=λhn=>by
 obtain⟨b,o,e,hb,hc⟩:=h hn
 exact⟨b,o,e,hb,λi x hx=>(hk _ _ hb).trans (hc i x hx)⟩
def HAtK.keep {b o:Nat}{h:Herder}(ha:HAtK w K b o h)(hb:K b)(hk:∀b o,K b->w'.cell? ⟨b,o,none⟩=w.cell? ⟨b,o,none⟩):HAtK w' K b o h:=by
 obtain⟨h1,h2,h3,A,c,h4,h5⟩:=ha
 exact⟨(hk _ _ hb).trans h1,(hk _ _ hb).trans h2,(hk _ _ hb).trans h3,A,c,(hk _ _ hb).trans h4,h5.keep hk⟩
def HsAtK.keep {l:List Herder}(h:HsAtK w K A l)(hk:∀b o,K b->w'.cell? ⟨b,o,none⟩=w.cell? ⟨b,o,none⟩):HsAtK w' K A l:=λhn=>by
 obtain⟨b,o,e,hb,hc⟩:=h hn
 exact⟨b,o,e,hb,λi h hi=>(hc i h hi).keep hb hk⟩
variable {cb:Nat} {c:Camp} {sets:List Nat} {nA hA:Option Addr} {nc hc sb sc:Nat}
def CampK.campP (h:CampK w K cb c sets nA hA nc hc sb sc):CampP w w.heap.size cb c nA hA nc hc:=⟨h.lt _ h.kc,h.c0,h.c1,h.needs.ri h.lt,h.herds.hs h.lt⟩
def CampK.keep (h:CampK w K cb c sets nA hA nc hc sb sc)(hz:w.heap.size<=w'.heap.size)(hk:∀b o,K b->w'.cell? ⟨b,o,none⟩=w.cell? ⟨b,o,none⟩):CampK w' K cb c sets nA hA nc hc sb sc :=
 ⟨λb hb=>Nat.lt_of_lt_of_le (h.lt b hb) hz,h.kc,(hk _ _ h.kc).trans h.c0,(hk _ _ h.kc).trans h.c1,(hk _ _ h.kc).trans h.c2,h.ks,λi x hx=>(hk _ _ h.ks).trans (h.sets i x hx),h.needs.keep hk,h.herds.keep hk⟩
end
abbrev Ros:=Nat->Nat
def upd (r:Ros)(n x:Nat):Ros:=λi=>if i=n then x else r i
def rosV (r:Ros):Value:=.agg #[.int .u8 (r 0),.int .u8 (r 1),.int .u8 (r 2),.int .u8 (r 3),.int .u8 (r 4)]
def walkL (c:Camp)(sets:List Nat):Nat->Ros->Nat->List Ros
 |0,r,_=>[r]
 |k+1,r,n=>sets.flatMap λx=>if(lapseOf c (upd r n x) n).1=0 then walkL c sets k (upd r n x) (n+1) else[]
structure WkS (T K:Nat->Prop)(cb:Nat)(c:Camp)(sets:List Nat)(nA hA:Option Addr)(nc hc sb sc bc by_ br bw l:Nat)(r:Ros)(w:World):Prop where
 camp:CampK w K cb c sets nA hA nc hc sb sc
 kt:∀b,K b->¬T b
 xc:w.cell? ⟨bc,0,none⟩=some (.pointer (some ⟨cb,0,none⟩))/\¬T bc/\bc<w.heap.size
 xy:w.cell? ⟨by_,0,none⟩=some (.func (.yield l) #[] #[])/\¬T by_/\by_<w.heap.size
 xw:w.cell? ⟨bw,0,none⟩=some (.func (.func 81) #[] #[.pointer (some ⟨bc,0,none⟩),.pointer (some ⟨by_,0,none⟩),.pointer (some ⟨br,0,none⟩),.pointer (some ⟨bw,0,none⟩)])/\¬T bw/\bw<w.heap.size
 xr:(∀i,i<5->w.cell? ⟨br,i,none⟩=some (.int .u8 (r i))/\w.frozen? ⟨br,i,none⟩=false)/\¬T br/\br<w.heap.size
 ne:bc≠br/\by_≠br/\bw≠br/\∀b,K b->b≠br
 rs:∀i,c.has (r i)
section
variable {T K:Nat->Prop} {cb:Nat} {c:Camp} {sets:List Nat} {nA hA:Option Addr} {nc hc sb sc bc by_ br bw l:Nat} {r:Ros} {w w':World}
def WkS.on (h:WkS T K cb c sets nA hA nc hc sb sc bc by_ br bw l r w)(k:KT T w w'):WkS T K cb c sets nA hA nc hc sb sc bc by_ br bw l r w':=by
 refine⟨h.camp.keep k.size λb o hb=>k.cell (p:=⟨b,o,none⟩) (h.camp.lt b hb) (h.kt b hb),h.kt,⟨(k.cell h.xc.2.2 h.xc.2.1).trans h.xc.1,h.xc.2.1,Nat.lt_of_lt_of_le h.xc.2.2 k.size⟩,⟨(k.cell h.xy.2.2 h.xy.2.1).trans h.xy.1,h.xy.2.1,Nat.lt_of_lt_of_le h.xy.2.2 k.size⟩,
  ⟨(k.cell h.xw.2.2 h.xw.2.1).trans h.xw.1,h.xw.2.1,Nat.lt_of_lt_of_le h.xw.2.2 k.size⟩,⟨λi hi=>?_,h.xr.2.1,Nat.lt_of_lt_of_le h.xr.2.2 k.size⟩,h.ne,h.rs⟩
 obtain⟨h1,h2⟩:=h.xr.1 i hi
 exact⟨(k.cell (p:=⟨br,i,none⟩) h.xr.2.2 h.xr.2.1).trans h1,(k.frozen (p:=⟨br,i,none⟩) h.xr.2.2 h.xr.2.1).trans h2⟩
def WkS.set (h:WkS T K cb c sets nA hA nc hc sb sc bc by_ br bw l r w){n x:Nat}(hn:n<5)(hx:c.has x):WkS T K cb c sets nA hA nc hc sb sc bc by_ br bw l (upd r n x) (w.setCell ⟨br,n,none⟩ (.int .u8 x)):=by
 have other:∀b o,b≠br->(w.setCell ⟨br,n,none⟩ (.int .u8 x)).cell? ⟨b,o,none⟩=w.cell? ⟨b,o,none⟩:=λb o hb=>World.cell?_setCell_other _ _ _ _ (by intro e;simp only[Addr.mk.injEq] at e;exact hb e.1.symm)
 have sz:(w.setCell ⟨br,n,none⟩ (.int .u8 x)).heap.size=w.heap.size:=by simp[World.setCell]
 refine⟨h.camp.keep (by rw[sz];exact Nat.le_refl _) λb o hb=>other b o (h.ne.2.2.2 b hb),h.kt,⟨(other _ _ h.ne.1).trans h.xc.1,h.xc.2.1,by rw[sz];exact h.xc.2.2⟩,⟨(other _ _ h.ne.2.1).trans h.xy.1,h.xy.2.1,by rw[sz];exact h.xy.2.2⟩,
  ⟨(other _ _ h.ne.2.2.1).trans h.xw.1,h.xw.2.1,by rw[sz];exact h.xw.2.2⟩,⟨λi hi=>?_,h.xr.2.1,by rw[sz];exact h.xr.2.2⟩,h.ne,λi=>?_⟩
 ·obtain⟨h1,h2⟩:=h.xr.1 i hi
  refine⟨?_,(World.frozen?_setCell _ _ _ _).trans h2⟩
  unfold upd
  by_cases e:i=n
  ·subst e
   rw[if_pos rfl]
   exact World.cell?_setCell_same _ _ _ h1
  ·rw[if_neg e,World.cell?_setCell_other _ _ _ _ (by intro e';simp only[Addr.mk.injEq] at e';omega)]
   exact h1
 ·unfold upd;split
  ·exact hx
  ·exact h.rs i
def WkS.ros (h:WkS T K cb c sets nA hA nc hc sb sc bc by_ br bw l r w):RosAt w w.heap.size br r:=⟨h.xr.2.2,λi hi=>(h.xr.1 i hi).1⟩
end
end Go.Sq
namespace Go.Proofs.YtjmmlkobmhlikaaGreat
open Go.RowKit Go.Sq Go.Shelf
attribute [local go_sem] Oper.semAt_some
def Said (T:Nat->Prop)(J Jx:List Ros->World->Prop)(pre:List Ros)(ρ:Ros)(W:World)(e:Ending)(W':World):Prop :=
 (e=.returned (.bool true)/\J (pre++[ρ]) W'/\KT T W W')\/(e=.returned (.bool false)/\Jx (pre++[ρ]) W'/\KT T W W')
def oa (T':Nat->Prop)(St:World->Prop)(J Jx:List Ros->World->Prop)(pre L:List Ros)(W:World)(e:Ending)(W':World):Prop :=
 (e=.returned (.bool true)/\J (pre++L) W'/\St W'/\KT T' W W')\/(e=.returned (.bool false)/\(∃q,q <+: L/\Jx (pre++q) W')/\KT T' W W')
section
variable {T K:Nat->Prop} {cb:Nat} {c:Camp} {sets:List Nat} {nA hA:Option Addr} {nc hc sb sc bc by_ br bw l:Nat} {J Jx:List Ros->World->Prop} {W0:World} {Lt:List Ros}
def oc (hok:c.Ok){r:Ros}{pre:List Ros}{W:World}(hs:WkS T K cb c sets nA hA nc hc sb sc bc by_ br bw l r W)(hk:KT (λb=>T b\/b=br) W0 W)(hj:J pre W)(hpl:pre++[r] <+: Lt)
  (hY:∀pre ρ W,pre++[ρ] <+: Lt->KT (λb=>T b\/b=br) W0 W->J pre W->YieldAt Fence.wide 0 uZ l #[rosV ρ] W (Said T J Jx pre ρ W)) :
  CallsIn Fence.wide 0 uZ 81 #[.int .i64 c.needs.length,.pointer (some ⟨bc,0,none⟩),.pointer (some ⟨by_,0,none⟩),.pointer (some ⟨br,0,none⟩),.pointer (some ⟨bw,0,none⟩)] W
   (oa (λb=>T b\/b=br) (WkS T K cb c sets nA hA nc hc sb sc bc by_ br bw l r) J Jx pre [r] W):=by
 have HS:=ui hs
 have hn5:=hok.n5
 obtain⟨fn,tmps,assign,body,hy,hR⟩:=hY pre r W hpl hk hj
 have HR:=ui hR
 have hxc:=hs.xc.1
 have hxy:=hs.xy.1
 have hc0:=hs.camp.c0
 have hr0:=(hs.xr.1 0 (by omega)).1
 have hr1:=(hs.xr.1 1 (by omega)).1
 have hr2:=(hs.xr.1 2 (by omega)).1
 have hr3:=(hs.xr.1 3 (by omega)).1
 have hr4:=(hs.xr.1 4 (by omega)).1
 unfold rosV at hy
 clear hs hk hj hY hR hpl
 refine callsIn_of_wp Sq.func81 rfl trivial ?_ rfl
 simp only[Tryz.ntmps81,List.size_toArray,List.length_cons,List.length_nil,Nat.reduceAdd,Nat.reduceSub,Array.replicate_succ,Array.replicate_zero,List.push_toArray,List.append_toArray,List.nil_append,List.cons_append]
 gi_wp2
 refine⟨rfl,HR.out.mono ?_⟩
 rintro e W' (⟨rfl,hj,hk⟩|⟨rfl,hj,hk⟩)
 ·have HJ:=ui hj
  have HK:=ui hk
  clear hj hk
  gi_wp2
  go_ret
  exact .inl ⟨rfl,HJ.out,HS.out.on HK.out,HK.out.mono λb hb=>.inl hb⟩
 ·have HJ:=ui hj
  have HK:=ui hk
  clear hj hk
  gi_wp2
  go_ret
  exact .inr ⟨rfl,⟨[r],List.prefix_refl _,HJ.out⟩,HK.out.mono λb hb=>.inl hb⟩
def re (k1 k2 k3:Int)(w:World):Sem.run uZ (Instr.field 146 (.agg #[.int .i64 k1,.int .i64 k2,.int .i64 k3]) 0) w=.ok (.int .i64 k1) w:=by kernel_rfl
def gives (c:Camp)(sets:List Nat)(k:Nat)(r:Ros)(n x:Nat):List Ros:=if(lapseOf c (upd r n x) n).1=0 then walkL c sets k (upd r n x) (n+1) else[]
def iA (c:Camp)(sets:List Nat)(k:Nat)(r:Ros)(n j:Nat)(hj:j<sets.length):(sets.take (j+1)).flatMap (gives c sets k r n)=(sets.take j).flatMap (gives c sets k r n)++gives c sets k r n (sets[j]?.getD 0):=by
 rw[bf 0 sets j hj,List.flatMap_append];simp
def od (c:Camp)(sets:List Nat)(k:Nat)(r:Ros)(n j:Nat)(hj:j<sets.length){q:List Ros}(h:q <+: gives c sets k r n (sets[j]?.getD 0)):(sets.take j).flatMap (gives c sets k r n)++q <+: sets.flatMap (gives c sets k r n):=by
 have e:sets.flatMap (gives c sets k r n)=(sets.take (j+1)).flatMap (gives c sets k r n)++(sets.drop (j+1)).flatMap (gives c sets k r n):=by
  rw[<-List.flatMap_append,List.take_append_drop]
 rw[e,iA _ _ _ _ _ _ hj]
 obtain⟨s,hs⟩:=h
 exact⟨s++(sets.drop (j+1)).flatMap (gives c sets k r n),by rw[<-hs];simp[List.append_assoc]⟩
def lW (r:Ros)(n x y:Nat):upd (upd r n x) n y=upd r n y:=by
 funext i;unfold upd;split<;>rfl
def kg (r:Ros)(n:Nat):upd r n (r n)=r:=by
 funext i;unfold upd;split
 ·rename_i h;rw[h]
 ·rfl
def sD (hok:c.Ok)(hsets:∀x∈sets,c.has x)(hsl:sets.length<=16)(hJT:∀pre w w',J pre w->(∀b,T b->w'.heap[b]?=w.heap[b]?)->J pre w')
  (hTlt:∀pre w,J pre w->∀b,T b->b<w.heap.size) (hTbr:¬T br)
  (hY:∀pre ρ W,pre++[ρ] <+: Lt->KT (λb=>T b\/b=br) W0 W->J pre W->YieldAt Fence.wide 0 uZ l #[rosV ρ] W (Said T J Jx pre ρ W)) :
  ∀(k n:Nat) (r:Ros) (pre:List Ros) (W:World),n+k=c.needs.length->WkS T K cb c sets nA hA nc hc sb sc bc by_ br bw l r W->KT (λb=>T b\/b=br) W0 W->J pre W->(∀i,n<=i->r i=0)->pre++walkL c sets k r n <+: Lt ->
  CallsIn Fence.wide 0 uZ 81 #[.int .i64 n,.pointer (some ⟨bc,0,none⟩),.pointer (some ⟨by_,0,none⟩),.pointer (some ⟨br,0,none⟩),.pointer (some ⟨bw,0,none⟩)] W
   (oa (λb=>T b\/b=br) (WkS T K cb c sets nA hA nc hc sb sc bc by_ br bw l r) J Jx pre (walkL c sets k r n) W):=by
 intro k
 induction k with
 |zero =>
  intro n r pre W hn hs hk hj hz hpl
  obtain rfl:n=c.needs.length:=by omega
  exact oc hok hs hk hj hpl hY
 |succ k ih =>
  intro n r pre W hn hs hk hj hz hpl
  have HPL:=ui hpl
  have HS:=ui hs
  have HK:=ui hk
  have HJ:=ui hj
  have HZ:=ui hz
  have HIH:=ui ih
  have HY:=ui hY
  have HJT:=ui hJT
  have HTL:=ui hTlt
  have HST:=ui hsets
  have hn5:=hok.n5
  have hnl:n<c.needs.length:=by omega
  have hxc:=hs.xc.1
  have hc0:=hs.camp.c0
  have hc2:=hs.camp.c2
  have hneq:((n:Int)==(c.needs.length:Int))=false:=by simpa using(by omega:¬(n:Int)=(c.needs.length:Int))
  have HW:Hid (walkL c sets (k+1) r n=sets.flatMap (gives c sets k r n)):=ui rfl
  clear hs hk hj hz ih hY hJT hTlt hsets hpl
  refine callsIn_of_wp Sq.func81 rfl trivial ?_ rfl
  simp only[Tryz.ntmps81,List.size_toArray,List.length_cons,List.length_nil,Nat.reduceAdd,Nat.reduceSub,Array.replicate_succ,Array.replicate_zero,List.push_toArray,List.append_toArray,List.nil_append,List.cons_append]
  gi_wp2
  gi_loopw [25] (λi wr=>∃(j x:Nat),j<=sets.length/\i=.int .i64 j/\c.has x/\WkS T K cb c sets nA hA nc hc sb sc bc by_ br bw l (upd r n x) wr/\J (pre++(sets.take j).flatMap (gives c sets k r n)) wr/\KT (λb=>T b\/b=br) W wr) (λi _=>sets.length-(intOf i).toNat)
  case atStart =>
   exact⟨0,r n,by omega,rfl,HS.out.rs n,by rw[kg];exact HS.out,by simpa using HJ.out,KT.refl _ _⟩
  case round =>
   obtain⟨j,x,hj,rfl,hx,hs,hjj,hk⟩:=hrel
   have HS1:=ui hs
   have HJ1:=ui hjj
   have HK1:=ui hk
   have hxx:=ui hx
   clear hs hjj hk hx
   by_cases hlt:j<sets.length
   ·obtain⟨y,hy⟩:∃y,sets[j]?=some y:=⟨sets[j],List.getElem?_eq_getElem hlt⟩
    have hyc:c.has y:=HST.out y (List.mem_of_getElem? hy)
    have hcell:=HS1.out.camp.sets j y hy
    obtain⟨hrn,hfn⟩:=HS1.out.xr.1 n (by omega)
    have hxc1:=HS1.out.xc.1
    have HS2:Hid (WkS T K cb c sets nA hA nc hc sb sc bc by_ br bw l (upd r n y) (wr.setCell ⟨br,n,none⟩ (.int .u8 y))):=ui (by have:=HS1.out.set (n:=n) (x:=y) (by omega) hyc;rwa [lW] at this)
    have hxc2:=HS2.out.xc.1
    have HGV:=ui (iA c sets k r n j hlt)
    have HGP:=ui (λq=>od c sets k r n j hlt (q:=q))
    have hyD:sets[j]?.getD 0=y:=by rw[hy];rfl
    have HD:=ui hyD
    have HKS:Hid (KT (λb=>T b\/b=br) W (wr.setCell ⟨br,n,none⟩ (.int .u8 y))):=ui (HK1.out.trans (KT.setCell wr (p:=⟨br,n,none⟩) (.inr rfl) _))
    have HJ2:Hid (J (pre++(sets.take j).flatMap (gives c sets k r n)) (wr.setCell ⟨br,n,none⟩ (.int .u8 y))):=ui (HJT.out _ _ _ HJ1.out λb hb=>Below.heap_setCell _ _ _ _ λe=>hTbr (by have e':b=br:=e;rw[<-e'];exact hb))
    have hlap:=lV cb br n c (upd r n y) (wr.setCell ⟨br,n,none⟩ (.int .u8 y)) HS2.out.camp.campP HS2.out.ros hok hnl HS2.out.rs
    unfold lapV at hlap
    have HGI:Hid (gives c sets k r n y=if(lapseOf c (upd r n y) n).1=0 then walkL c sets k (upd r n y) (n+1) else[]):=ui rfl
    generalize lapseOf c (upd r n y) n=lp at hlap HGI
    obtain⟨k1,k2,k3⟩:=lp
    have HL:=ui (callsIn_wide (n:=0).2 hlap)
    have hfd:=re k1 k2 k3
    clear hlap hy hyD
    by_cases h0:k1=0
    ·have HG0:=ui (show gives c sets k r n y=walkL c sets k (upd r n y) (n+1) by rw[HGI.out,if_pos h0])
     subst h0
     gi_wp2_with fail
     refine⟨trivial,rfl,HL.out.mono ?_⟩
     rintro e w2 ⟨rfl,hg2⟩
     have HKT:=ui (um (T:=λb=>T b\/b=br) hg2)
     have HS3:=ui (HS2.out.on (um (T:=T) hg2))
     have HJ3:=ui (HJT.out _ _ w2 HJ2.out λb hb=>hg2.below.block b (HTL.out _ _ HJ2.out b hb))
     have hxw:=HS3.out.xw.1
     have HC:=ui (HIH.out (n+1) (upd r n y) _ w2 (by omega) HS3.out (HK.out.trans (HKS.out.trans HKT.out)) HJ3.out (λi hi=>by unfold upd;rw[if_neg (by omega)];exact HZ.out i (by omega)) (by
      have h1:=HGP.out (walkL c sets k (upd r n y) (n+1)) (by rw[HD.out,HG0.out];exact List.prefix_refl _)
      rw[<-HW.out] at h1
      rw[List.append_assoc]
      exact((List.prefix_append_right_inj pre).2 h1).trans HPL.out))
     have hn1:IntKind.i64.wrap ((n:Int)+1)=(n:Int)+1:=by simp[IntKind.wrap,IntKind.min,IntKind.max,IntKind.signed,IntKind.bits];omega
     clear hg2
     gi_wp2_with fail
     refine⟨trivial,rfl,HC.out.mono ?_⟩
     rintro e w3 (⟨rfl,hj3,hs3,hk3⟩|⟨rfl,hq3,hk3⟩)
     ·have HJ4:=ui hj3
      have HS4:=ui hs3
      have HK4:=ui (HKS.out.trans (HKT.out.trans hk3))
      clear hj3 hs3 hk3
      gi_wp2
      go_roundw
      case rel =>
       exact⟨j+1,y,by omega,by go_num,hyc,HS4.out,by rw[HGV.out,HD.out,HG0.out,<-List.append_assoc];exact HJ4.out,HK4.out⟩
      case measure=>simp[intOf];omega
     ·have HQ:=ui hq3
      have HK4:=ui (HKS.out.trans (HKT.out.trans hk3))
      clear hq3 hk3
      gi_wp2
      go_ret
      refine .inr ⟨rfl,?_,HK4.out⟩
      obtain⟨q,q1,q2⟩:=HQ.out
      refine⟨(sets.take j).flatMap (gives c sets k r n)++q,?_,by rw[<-List.append_assoc];exact q2⟩
      rw[HW.out]
      exact HGP.out q (by rw[HD.out,HG0.out];exact q1)
    ·have HG0:=ui (show gives c sets k r n y=[] by rw[HGI.out,if_neg h0])
     have hb0:(k1==0)=false:=by simpa using h0
     gi_wp2_with fail
     refine⟨trivial,rfl,HL.out.mono ?_⟩
     rintro e w2 ⟨rfl,hg2⟩
     have HKT:=ui (um (T:=λb=>T b\/b=br) hg2)
     have HS3:=ui (HS2.out.on (um (T:=T) hg2))
     have HJ3:=ui (HJT.out _ _ w2 HJ2.out λb hb=>hg2.below.block b (HTL.out _ _ HJ2.out b hb))
     clear hg2
     gi_wp2
     refine⟨λ_ h=>(by cases h),?_⟩
     gi_wp2
     go_roundw
     case rel=>exact⟨j+1,y,by omega,by go_num,hyc,HS3.out,by rw[HGV.out,HD.out,HG0.out,List.append_nil];exact HJ3.out,HKS.out.trans HKT.out⟩
     case measure=>simp[intOf];omega
   ·obtain⟨hrn,hfn⟩:=HS1.out.xr.1 n (by omega)
    have h0:c.has 0:=Nat.two_pow_pos _
    have HS2:Hid (WkS T K cb c sets nA hA nc hc sb sc bc by_ br bw l r (wr.setCell ⟨br,n,none⟩ (.int .u8 0))):=ui (by
     have:=HS1.out.set (n:=n) (x:=0) (by omega) h0
     rw[lW] at this
     have e:upd r n 0=r:=by have:=kg r n;rwa [HZ.out n (Nat.le_refl _)] at this
     rwa [e] at this)
    have HKS:Hid (KT (λb=>T b\/b=br) W (wr.setCell ⟨br,n,none⟩ (.int .u8 0))):=ui (HK1.out.trans (KT.setCell wr (p:=⟨br,n,none⟩) (.inr rfl) _))
    have HJ2:Hid (J (pre++walkL c sets (k+1) r n) (wr.setCell ⟨br,n,none⟩ (.int .u8 0))):=ui (HJT.out _ _ _ (by have:=HJ1.out;rwa [List.take_of_length_le (by omega),<-HW.out] at this) λb hb=>Below.heap_setCell _ _ _ _ λe=>hTbr (by have e':b=br:=e;rw[<-e'];exact hb))
    gi_wp2
    go_ret
    exact .inl ⟨rfl,HJ2.out,HS2.out,HKS.out⟩
end
end Go.Proofs.YtjmmlkobmhlikaaGreat
