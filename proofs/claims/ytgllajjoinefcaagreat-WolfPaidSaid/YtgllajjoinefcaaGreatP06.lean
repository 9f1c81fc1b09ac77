/- Parts of the proof. -/
import Derived.Test.YtgllajjoinefcaaGreatP05
import Derived.Deep.AppendLies
import Derived.Lib.Hide
import Derived.Laws.EntriesVeiled
import Derived.RangeFuncNested
import Derived.RangeFuncBound
set_option linter.all false
set_option maxHeartbeats 12800000
set_option maxRecDepth 1000000
open Option renaming some->Z,none->Y
open Go.Value renaming pointer->U,slice->C,int->O
open Go renaming World->X,Calls->S,Value->bb,Addr->bh,heap_alloc_old->bD,bodyPost_ret->cq,TypeId->cw,run_endLoop->cF,run_enterLoop_outer->df,callsIn_of_wp->dn,Code->dr,callsIn_wide->dt,roundIn_of_wpIn->ed,Operand->ek,run_append_own->eo,wpIn_rangeFunc->ew,run_beginRound->ez,wpIn_mono->eH,TypeInfo->fl,Ending->fq
open Go.World renaming putObj_heap_other->E,cell?_setCell_other->bl,alloc_heap_new->bo,cell?_setCell_same->bq,putObj_heap_same->bs,setCell->bW,putObj->cA,frozen?->eG,cell?->fo
open Go.IntKind renaming i64->M,u8->er
open Go.Proofs renaming intOf->G
open Go.Obj renaming cells->H
open Go.Ending renaming returned->V
open Go.Fence renaming wide->bk
open Bool renaming false->bA,true->cK
open Go.Proofs.Tryz renaming results121->cd,ntmps139->di,ntmps57->dy,ntmps56->dS,ntmps154->eC,ntmps137->eF,ntmps44->e9
open List renaming drop_of_length_le->cf,flatMap_append->cU,prefix_refl->ea
open Go.Builtin renaming append_->ck,zeroCells->cu
open Go.Code renaming rangeFunc->cE
open Go.Instr renaming index->eb,endRound->eA
open Go.Sem renaming runT_fst->eT,run_bind->eV,run_pure->e8
open Array renaming getD->Array.LE,setIfInBounds->Array.L
open Eq renaming symm->Eq.LT
open Go renaming underlying->Go.LT
open Go.Addr renaming block->Go.Addr.Lo
open Go.BoundsCode renaming toNat->Go.BoundsCode.L
open Go.Calls renaming mono->Go.Calls.LT
open Go.CallsD renaming mono->Go.CallsD.LT
open Go.CallsIn renaming mono->Go.CallsIn.LT
open Go.Code renaming block->Go.Code.Lo
open Go.Ending renaming returned->Go.Ending.L
open Go.Instr renaming alloc->Go.Instr.Li
open Go.Obj renaming deferred->Go.Obj.L
open Go.Op renaming alloc->Go.Op.Li
open Go.Program renaming underlying->Go.Program.LT
open Go.RoundIn renaming mono->Go.RoundIn.LT
open Go.RowKit.Below renaming alloc->Go.RowKit.Below.Li,block->Go.RowKit.Below.Lo,grown->Go.RowKit.Below.SS,mono->Go.RowKit.Below.LT,setCell->Go.RowKit.Below.LE
open Go.TypeDesc renaming pointer->Go.TypeDesc.S
open Go.Value renaming ownBlock->Go.Value.L,pointer->Go.Value.S
open Go.World renaming alloc->Go.World.Li,cell?->Go.World.L,frozen?->Go.World.H,grownBy->Go.World.O,ownsRow->Go.World.S,putObj->Go.World.SL,setCell->Go.World.LE
open Go.World.grownBy renaming block->Go.World.grownBy.Lo
open Go.World.ownsRow renaming alloc->Go.World.ownsRow.Li
open Int renaming toNat->Int.L
open List renaming flatMap->List.S,length->List.L,set->List.SS,sum->List.Lo,take->List.LT,toArray->List.Li
open Nat renaming below->Nat.Ly,testBit->Nat.L
open Option renaming getD->Option.LE,isNone->Option.L
open UInt8 renaming toNat->UInt8.L
namespace Go
def AB{p:Prop}(h:p):RowKit.Hid p:=h
end Go
namespace Go.Sq
open Go.RowKit
structure Gr (w w':X):Prop where
 Ly:Below w.heap.size w w'
 drawn:w.drawn<=w'.drawn
def Gr.refl (w:X):Gr w w:=⟨Below.refl _ _,AD _⟩
def Gr.trans {a b c:X}(h:Gr a b)(k:Gr b c):Gr a c:=⟨h.Ly.trans (k.Ly.LT h.Ly.size),AX h.drawn k.drawn⟩
def Gr.size {w w':X}(h:Gr w w'):w.heap.size<=w'.heap.size:=h.Ly.size
def Gr.Li {w w':X}(h:Gr w w')(o:Obj):Gr w (w'.Li o):=⟨h.Ly.Li h.size o,h.drawn⟩
def Gr.drew {w w':X}(h:Gr w w'):Gr w w'.drew:=⟨h.Ly.drew,CI h.drawn⟩
def Gr.drewN {w w':X}(h:Gr w w')(n:Nat):Gr w (w'.drewN n):=⟨⟨h.Ly.os,h.Ly.tape,h.Ly.output,h.Ly.size,h.Ly.Lo⟩,AX h.drawn (Nat.le_add_right _ _)⟩
def Gr.LE {w w':X}(h:Gr w w'){p:bh}(hp:w.heap.size<=p.Lo)(v:bb):Gr w (w'.LE p v):=⟨h.Ly.LE hp v,h.drawn⟩
def Gr.SS {w w' w1:X}(h:Gr w w'){row:Option Nat}(hg:w'.O w1 row)(hd:w'.drawn<=w1.drawn)(hr:∀k,row=Z k->w.heap.size<=k):Gr w w1 :=
 ⟨h.Ly.SS hg h.size hr,AX h.drawn hd⟩
def Gr.cell {w w':X}(h:Gr w w'){p:bh}(hp:p.Lo<w.heap.size):w'.L p=w.L p:=h.Ly.cell hp
def Gr.frozen {w w':X}(h:Gr w w'){p:bh}(hp:p.Lo<w.heap.size):w'.H p=w.H p:=h.Ly.frozen hp
def RI (w:X)(B:Nat)(A:Option bh)(l:List Int):Prop :=
 l≠[]->∃b o,A=Z ⟨b,o,Y⟩/\b<B/\∀i x,l[i]?=Z x->w.L ⟨b,o+i,Y⟩=Z (O M x)
def RI.nil {w:X}{B:Nat}{A:Option bh}:RI w B A []:=λh=>AH rfl h
def RI.keep {w w':X}{B:Nat}{A:Option bh}{l:List Int}(h:RI w B A l)(hk:∀b o,b<B->w'.L ⟨b,o,Y⟩=w.L ⟨b,o,Y⟩):RI w' B A l:=λhn=>by
 obtain⟨b,o,e,hb,hc⟩:=h hn;exact⟨b,o,e,hb,λi x hx=>(hk _ _ hb).trans (hc i x hx)⟩
def RI.gr {w w':X}{B:Nat}{A:Option bh}{l:List Int}(h:RI w B A l)(hB:B<=w.heap.size)(hg:Gr w w'):RI w' B A l:=h.keep λ_ _ hb=>hg.cell (AI hb hB)
def RI.more {w:X}{B B':Nat}{A:Option bh}{l:List Int}(h:RI w B A l)(hB:B<=B'):RI w B' A l:=λhn=>by
 obtain⟨b,o,e,hb,hc⟩:=h hn;exact⟨b,o,e,by omega,hc⟩
def RI.at_ {w:X}{B:Nat}{A:Option bh}{l:List Int}(h:RI w B A l){k:Nat}(hk:k<l.L):∃b o,A=Z ⟨b,o,Y⟩/\b<B/\w.L ⟨b,o+k,Y⟩=Z (O M (l[k]?.LE 0)):=by
 obtain⟨b,o,e,hb,hc⟩:=h (λe=>by subst e;simp at hk);exact⟨b,o,e,hb,by rw[AG hk];exact hc k _ (AG hk)⟩
def RI.Fw {w:X}{base:Nat}{v:bb}{l:List Int}(h:w.S base 3 1 v l.L (l.map (O M))):∃A c,v=C A l.L c/\RI w w.heap.size A l:=by
 obtain⟨rfl,h0⟩|⟨g,cap,cur,rfl,_,hg,_⟩:=h.2
 .have:l.L=0:=by simpa using h0
  have:l=[]:=Bf this;subst this;exact⟨Y,0,rfl,.nil⟩
 .refine⟨_,cap,rfl,λ_=>⟨g,0,rfl,(AC.1 hg).1,λi x hx=>?_⟩⟩;have:=h.cells (g:=g) rfl i (O M x) (by rw[BE,hx];rfl);have e:(⟨g,0,Y⟩:bh).add i=⟨g,0+i,Y⟩:=by unfold Addr.add;split<;>simp_all
  rwa [e] at this
def Ng (w:X)(B b o:Nat)(h:EO):Prop :=
 w.L ⟨b,o,Y⟩=Z (O M h.heads)/\w.L ⟨b,o+1,Y⟩=Z (O M h.F9)/\w.L ⟨b,o+2,Y⟩=Z (O M h.most) /\
  ∃A c,w.L ⟨b,o+3,Y⟩=Z (C A h.off.L c)/\RI w B A h.off
def FY (w:X)(B:Nat)(A:Option bh)(l:List EO):Prop :=
 l≠[]->∃b o,A=Z ⟨b,o,Y⟩/\b<B/\∀i h,l[i]?=Z h->Ng w B b (o+i*4) h
def Ng.keep {w w':X}{B b o:Nat}{h:EO}(ha:Ng w B b o h)(hb:b<B)(hk:∀b o,b<B->w'.L ⟨b,o,Y⟩=w.L ⟨b,o,Y⟩):Ng w' B b o h:=by
 obtain⟨h1,h2,h3,A,c,h4,h5⟩:=ha;exact⟨(hk _ _ hb).trans h1,(hk _ _ hb).trans h2,(hk _ _ hb).trans h3,A,c,(hk _ _ hb).trans h4,h5.keep hk⟩
def FY.keep {w w':X}{B:Nat}{A:Option bh}{l:List EO}(h:FY w B A l)(hk:∀b o,b<B->w'.L ⟨b,o,Y⟩=w.L ⟨b,o,Y⟩):FY w' B A l:=λhn=>by
 obtain⟨b,o,e,hb,hc⟩:=h hn;exact⟨b,o,e,hb,λi h hi=>(hc i h hi).keep hb hk⟩
def FY.at_ {w:X}{B:Nat}{A:Option bh}{c:Eb}(h:FY w B A c.DR){i:Nat}(hi:i<c.DR.L):∃b o,A=Z ⟨b,o,Y⟩/\b<B/\Ng w B b (o+i*4) (c.h i):=by
 obtain⟨b,o,e,hb,hc⟩:=h (λe=>by rw[e] at hi;simp at hi);exact⟨b,o,e,hb,hc i _ (by unfold Eb.h;rw[AG hi];rfl)⟩
structure Fz (w:X)(B cb:Nat)(c:Eb)(nA hA:Option bh)(nc hc:Nat):Prop where
 lt:cb<B
 c0:w.L ⟨cb,0,Y⟩=Z (C nA c.DW.L nc)
 c1:w.L ⟨cb,1,Y⟩=Z (C hA c.DR.L hc)
 DW:RI w B nA c.DW
 Fg:FY w B hA c.DR
def Fz.keep {w w':X}{B cb:Nat}{c:Eb}{nA hA:Option bh}{nc hc:Nat}(h:Fz w B cb c nA hA nc hc)(hk:∀b o,b<B->w'.L ⟨b,o,Y⟩=w.L ⟨b,o,Y⟩):Fz w' B cb c nA hA nc hc :=
 ⟨h.lt,(hk _ _ h.lt).trans h.c0,(hk _ _ h.lt).trans h.c1,h.DW.keep hk,h.Fg.keep hk⟩
def Fz.gr {w w':X}{B cb:Nat}{c:Eb}{nA hA:Option bh}{nc hc:Nat}(h:Fz w B cb c nA hA nc hc)(hB:B<=w.heap.size)(hg:Gr w w'):Fz w' B cb c nA hA nc hc :=
 h.keep λ_ _ hb=>hg.cell (AI hb hB)
def GX (w:X)(B br:Nat)(r:Nat->Nat):Prop:=br<B/\∀i,i<5->w.L ⟨br,i,Y⟩=Z (.int .u8 (r i))
def GX.keep {w w':X}{B br:Nat}{r:Nat->Nat}(h:GX w B br r)(hk:∀b o,b<B->w'.L ⟨b,o,Y⟩=w.L ⟨b,o,Y⟩):GX w' B br r:=⟨h.1,λi hi=>(hk _ _ h.1).trans (h.2 i hi)⟩
def GX.gr {w w':X}{B br:Nat}{r:Nat->Nat}(h:GX w B br r)(hB:B<=w.heap.size)(hg:Gr w w'):GX w' B br r:=h.keep λ_ _ hb=>hg.cell (AI hb hB)
def Ng.more {w:X}{B B' b o:Nat}{h:EO}(ha:Ng w B b o h)(hB:B<=B'):Ng w B' b o h:=by
 obtain⟨h1,h2,h3,A,c,h4,h5⟩:=ha;exact⟨h1,h2,h3,A,c,h4,h5.more hB⟩
def FY.more {w:X}{B B':Nat}{A:Option bh}{l:List EO}(h:FY w B A l)(hB:B<=B'):FY w B' A l:=λhn=>by
 obtain⟨b,o,e,hb,hc⟩:=h hn;exact⟨b,o,e,AI hb hB,λi h hi=>(hc i h hi).more hB⟩
def Fz.more {w:X}{B B' cb:Nat}{c:Eb}{nA hA:Option bh}{nc hc:Nat}(h:Fz w B cb c nA hA nc hc)(hB:B<=B'):Fz w B' cb c nA hA nc hc :=
 ⟨AI h.lt hB,h.c0,h.c1,h.DW.more hB,h.Fg.more hB⟩
def GX.more {w:X}{B B' br:Nat}{r:Nat->Nat}(h:GX w B br r)(hB:B<=B'):GX w B' br r:=⟨AI h.1 hB,h.2⟩
def Fz.on {w w':X}{cb:Nat}{c:Eb}{nA hA:Option bh}{nc hc:Nat}(h:Fz w w.heap.size cb c nA hA nc hc)(hg:Gr w w'):Fz w' w'.heap.size cb c nA hA nc hc:=(h.gr (AD _) hg).more hg.size
def GX.on {w w':X}{br:Nat}{r:Nat->Nat}(h:GX w w.heap.size br r)(hg:Gr w w'):GX w' w'.heap.size br r:=(h.gr (AD _) hg).more hg.size
def NN {w:X}{B:Nat}{u0 u1 u2:bb}(h0:w.L ⟨B,0,Y⟩=Z u0)(h1:w.L ⟨B,1,Y⟩=Z u1)(h2:w.L ⟨B,2,Y⟩=Z u2) :
  (∀v,(w.LE ⟨B,0,Y⟩ v).L ⟨B,0,Y⟩=Z v)/\(∀u v,((w.LE ⟨B,0,Y⟩ u).LE ⟨B,1,Y⟩ v).L ⟨B,1,Y⟩=Z v) /\
   ∀u x v,(((w.LE ⟨B,0,Y⟩ u).LE ⟨B,1,Y⟩ x).LE ⟨B,2,Y⟩ v).L ⟨B,2,Y⟩=Z v:=by
 have e1:∀u,(w.LE ⟨B,0,Y⟩ u).L ⟨B,1,Y⟩=Z u1:=λu=>by rw[bl _ _ _ _ (by simp)];exact h1
 have e2:∀u x,((w.LE ⟨B,0,Y⟩ u).LE ⟨B,1,Y⟩ x).L ⟨B,2,Y⟩=Z u2:=λu x=>by rw[bl _ _ _ _ (by simp),bl _ _ _ _ (by simp)];exact h2
 exact⟨λv=>bq _ _ _ h0,λu v=>bq _ _ _ (e1 u),λu x v=>bq _ _ _ (e2 u x)⟩
def ap {k:IntKind}{a b:Int}(h:a=b):V (.int k a)=.L (.int k b):=by rw[h]
def aF {a b:Bool}(h:a=b):V (.bool a)=.L (.bool b):=by rw[h]
variable {P:Program}
def EB {w:X}{ops:Array Oper}{rest:List Oper}{o:Oper}{a:Act}{Q:Exit->Act->X->Prop}(hgd:o.guard=Y)(s x:ek)(t:cw)
  (ho:o.op=.call { callee:=.builtin .append,args:=#[s,x],argTypes:=#[t,t] })
  (base:Nat) (e:cw) (i:fl) (z:bb) (size bytes:Nat) (ht:P.LT t=Z (.slice e)) (hi:P.info? e=Z i) (hz:i.zero=Z z)
  (hsize:i.size=size) (hby:i.bytes=bytes) (hzs:z.cells.size=size) (zx:0<size)
  (v:bb) (n:Nat) (xs:List bb) (hs:a.eval s=v) (zm:w.S base e size v n xs)
  (ad:bh) (m c:Nat) (news:List bb) (hx:a.eval x=.slice (Z ad) m c) (hl:news.L=m*size) (hnews:∀j u,news[j]?=Z u->w.L (ad.add j)=Z u) (h1:∀u∈news,u.oneCell'=cK)
  (h63:n+m<=maxLen) (hbytes:(n+m)*bytes<=140737488355328) (hbase:base<=w.heap.size)
  (h:∀v' w',w'.S base e size v' (n+m) (xs++news)->w.O w' v.L->w.drawn<=w'.drawn->wpList P ops Q rest (a.put o.dst v') w'):wpList P ops Q (o::rest) a w:=by
 refine wpList_plain hgd λK hK=>?_;obtain⟨v',w',hr,h2,h3,h4⟩:=eo (P:=P) w base t o.type e i z size bytes ht hi hz hsize hby hzs zx v n xs zm ad m c news hl hnews h1 h63 hbytes hbase;have hd:=Go.Em.GK P (ck #[t,t] o.type #[v,.slice (Z ad) m c]) w #[];rw[eT,hr] at hd;unfold Oper.wp execOp;simp only[ho,resolve,invoke,builtin,eV,e8,Result.andThen_ok,CA,Ca,CB,hs,hx,hr]
 exact hK _ _ (h v' w' h2 h3 hd)
def AF:=@World.cell?_alloc_at
def AN:=@bl
def AP:=@Below.heap_setCell
def AW:=@bq
def AY:=@World.cell?_of_block
def A7:=@World.cell?_alloc_past
def Bs:=@World.ownsRow_nil
def Bt:=@World.frozen?_alloc_at
def BH:=@World.frozen?_setCell
def BR:=@World.frozen?_of_block
def Cm:=@World.frozen?_alloc_past
def Cp:=@Below.heap_alloc
def CU:=@World.size_alloc
end Go.Sq

namespace Go.Sq
open Go.Proofs
open Go.RowKit
def vr:∀x:Fin 16,∀h:Fin 4,(bits BinOp.and er ((x.val:Int) / 2 ^ h.val) 1==1)=x.val.L h.val:=by decide
def jy (x h:Nat)(w:X)(hx:x<16)(hh:h<4):S DP 174 #[.int .u8 x,O M h] w λe w'=>e=.L (.bool (x.L h))/\w=w':=by
 go_enter Sq.func174,Tryz.ntmps174;go_wp2;go_ret;have:=vr ⟨x,hx⟩ ⟨h,hh⟩;refine⟨?_,rfl⟩;show V (.bool _)=_;rw[this]
def pw (x k:Nat):below x (k+1)=below x k++if x.L k then[(k:Int)] else[]:=by
 unfold below;rw[C1,C6,Cs];cases h:x.L k<;>simp[h]
def ta (x k:Nat):(below x k).L<=k:=by
 unfold below;rw[B8];exact AX (CM _ _) (by simp)
def Dl:(DP.info? 3).map (λi=>(i.zero,i.size,i.bytes))=Z (Z (O M 0),1,8):=by
 rw[Dg];kernel_rfl
def gK (x:Nat)(w:X)(hx:x<16):S DP 128 #[.int .u8 x] w λe w' =>
  ∃v,e=.L v/\w'.S w.heap.size 3 1 v (wl x).L ((wl x).map (O M))/\Gr w w':=by
 obtain⟨i0,hi,zF,zE,zD⟩:=info_parts Dl;go_enter Sq.func128,Tryz.ntmps128;go_wp2;go_loopw [3,5] (λv i wr=>∃k:Nat,k<=4/\i=O M k/\wr.S w.heap.size 3 1 v (below x k).L ((below x k).map (O M))/\Gr w wr) (λ_ i _=>4-(G i).L)
 case atStart=>exact⟨0,by omega,rfl,Bs w _ _ _,Gr.refl w⟩
 case round =>
  obtain⟨k,hk,rfl,zm,zV⟩:=hrel;have zX:=ta x k;have hs:=pw x k;by_cases zY:k<4
  .have hw:=zV.size;cases hb:x.L k with
   |true =>
    have HS:Hid (below x (k+1)=below x k++[(k:Int)]):=by rw[hs,hb];rfl
    have hc:S DP 174 #[.int .u8 x,O M k] wr λe w'=>e=.L (.bool cK)/\wr=w':=by rw[<-hb];exact jy x k wr hx zY
    go_wp2_with (first|(go_at_call 174;refine hc.LT ?_;rintro e w' ⟨rfl,rfl⟩)|(at_builtin;refine EB rfl _ _ 22 rfl w.heap.size 3 i0 (O M 0) 1 8 Sq.underlying22 hi zF zE zD rfl (by decide) _ _ _ rfl (zm.Li _) ⟨wr.heap.size,0,Y⟩ 1 1 [O M k] rfl rfl ?c1 ?c2 ?c3 ?c4 ?c5 ?_))
    case c1 =>
     intro j u hj
     match j,hj with
     |0,hj=>simp at hj;subst hj;simp[Addr.add]
    case c2=>intro u hu;simp at hu;subst hu;rfl
    case c3=>unfold maxLen;omega
    case c4=>omega
    case c5=>simp;omega
    intro v' w1 hown' hgrow hd;have R:w1.S w.heap.size 3 1 v' (below x (k+1)).L ((below x (k+1)).map (O M))/\Gr w w1 :=
     ⟨by rw[HS.out];simpa using hown',(zV.Li _).SS hgrow hd λj hj=>(zm.lt j hj).1⟩
    go_wp2;go_roundw
    case rel=>exact⟨k+1,by omega,by go_num,R.1,R.2⟩
    case measure=>simp[Proofs.intOf];omega
   |false =>
    have HS:=AB (show below x (k+1)=below x k by rw[hs,hb];simp);have hc:S DP 174 #[.int .u8 x,O M k] wr λe w'=>e=.L (.bool bA)/\wr=w':=by rw[<-hb];exact jy x k wr hx zY
    go_wp2_with (go_at_call 174;refine hc.LT ?_;rintro e w' ⟨rfl,rfl⟩);go_roundw
    case rel=>exact⟨k+1,by omega,by go_num,by rw[HS.out];exact zm,zV⟩
    case measure=>simp[Proofs.intOf];omega
  .have:k=4:=by omega
   subst this;go_wp2;go_ret;exact⟨_,rfl,zm,zV⟩
def kr (x:Int)(w:X):S DP 189 #[O M x] w λe w'=>e=.L (.bool bA)/\w=w':=by
 go_enter Sq.func189,Tryz.ntmps189;go_wp2;go_ret;simp
def lW (a b:Int)(w:X):S DP 139 #[O M a,O M b] w λe w'=>e=.L (O M (cI a b))/\w=w':=by
 by_cases h1:a<b
 .have HS:=AB (show cI a b=-1 by simp[cI,h1]);go_enter Sq.func139,di;go_wp2_with (go_at_call 189;refine(kr _ _).LT ?_;rintro e w' ⟨rfl,rfl⟩);go_ret;exact⟨ap HS.out.LT,rfl⟩
 .by_cases h2:b<a
  .have HS:=AB (show cI a b=1 by simp[cI,h1,h2]);go_enter Sq.func139,di;go_wp2_with (go_at_call 189;refine(kr _ _).LT ?_;rintro e w' ⟨rfl,rfl⟩);go_ret;exact⟨ap HS.out.LT,rfl⟩
  .have HS:=AB (show cI a b=0 by simp[cI,h1,h2]);go_enter Sq.func139,di;go_wp2_with (go_at_call 189;refine(kr _ _).LT ?_;rintro e w' ⟨rfl,rfl⟩);go_ret;exact⟨ap HS.out.LT,rfl⟩
def Rh (l:List Int)(x:Int)(e:fq):Prop:=∃j:Int,e=.L (O M j)/\decide (0<=j)=decide (x∈l)
def vv (A:Option bh)(c:Nat)(l:List Int)(x:Int)(w:X)(B:Nat)(h:RI w B A l)(hl:l.L<=4611686018427387904) :
  S DP 131 #[C A l.L c,O M x] w λe w'=>Rh l x e/\w=w':=by
 have HR:=AB h;clear h;go_enter Sq.func131,Tryz.ntmps131;go_wp2;go_loop [8] (λi=>∃k:Nat,k<=l.L/\i=O M k/\x ∉ l.LT k) (λi=>l.L-(G i).L)
 case atStart=>exact⟨0,by omega,rfl,by simp⟩
 case round =>
  obtain⟨k,hk,rfl,hn⟩:=hrel;by_cases zY:k<l.L
  .obtain⟨b,o,rfl,hb,hc⟩:=HR.out.at_ zY;have HT:=AB (bu 0 l k zY);have hm:=Gh l k zY;have HN:=AB hn;clear hn;generalize l[k]?.LE 0=y at hc HT hm;by_cases hy:x=y
   .have zq:((x:Int)==y)=true:=by simpa using hy
    clear hy;go_wp2;go_ret;refine⟨⟨k,rfl,?_⟩,rfl⟩;have:x∈l:=by rw[show x=y by simpa using zq];exact hm
    simp[this]
   .have zq:((x:Int)==y)=false:=by simpa using hy
    go_wp2;go_round
    case rel=>exact⟨k+1,by omega,by go_num,by rw[HT.out];simp[HN.out,hy]⟩
    case measure=>simp[Proofs.intOf];omega
  .have:k=l.L:=by omega
   have HN:=AB hn;clear hn;go_wp2;go_ret;refine⟨⟨-1,rfl,?_⟩,rfl⟩;have h2:=HN.out;rw[Bj (by omega)] at h2;simp[h2]
def jz (A:Option bh)(c:Nat)(l:List Int)(x:Int)(w:X)(B:Nat)(h:RI w B A l)(hl:l.L<=4611686018427387904) :
  S DP 92 #[C A l.L c,O M x] w λe w'=>e=.L (.bool (decide (x∈l)))/\w=w':=by
 have HR:=AB h;go_enter Sq.func92,Tryz.ntmps92;go_wp2_with fail;refine(vv A c l x w B HR.out hl).LT ?_;rintro e w' ⟨⟨j,rfl,hj⟩,rfl⟩;have HJ:=AB hj;go_wp2;go_ret;refine⟨?_,rfl⟩;have:=HJ.out;show V (.bool _)=_;rw[<-this]
def kP (A A':Option bh)(c c':Nat)(l m:List Int)(w:X)(B:Nat)(h:RI w B A l)(h':RI w B A' m)(hl:l.L<=4611686018427387904)(hm:m.L<=4611686018427387904) :
  S DP 101 #[C A l.L c,C A' m.L c'] w λe w'=>e=.L (O M (IV l m))/\w=w':=by
 have HR:=AB h;have a7:=AB h';clear h h';go_enter Sq.func101,Tryz.ntmps101;go_wp2;go_loop [11] (λi=>∃k:Nat,k<=l.L/\k<=m.L/\i=O M k/\IV l m=IV (l.drop k) (m.drop k)) (λi=>l.L-(G i).L)
 case atStart=>exact⟨0,by omega,by omega,rfl,rfl⟩
 case round =>
  obtain⟨k,hk,a8,rfl,hcm⟩:=hrel;have HC:=AB hcm;clear hcm;by_cases zY:k<l.L
  .obtain⟨b,o,rfl,hb,hc⟩:=HR.out.at_ zY;by_cases a6:k<m.L
   .obtain⟨b',o',rfl,hb',hc'⟩:=a7.out.at_ a6;have HD:=AB (qL l m k zY a6);generalize l[k]?.LE 0=x at hc HD;generalize m[k]?.LE 0=y at hc' HD;by_cases h1:x<y
    .have HS:=AB (show cI x y=-1 by simp[cI,h1]);have hcc:S DP 139 #[O M x,O M y] w λe w'=>e=.L (O M (-1))/\w=w':=by rw[<-HS.out];exact lW x y w
     go_wp2_with (go_at_call 139;refine hcc.LT ?_;rintro e w' ⟨rfl,rfl⟩);go_ret;exact⟨ap (by rw[HC.out,HD.out,AJ h1]),rfl⟩
    .by_cases h2:y<x
     .have HS:=AB (show cI x y=1 by simp[cI,h1,h2]);have hcc:S DP 139 #[O M x,O M y] w λe w'=>e=.L (O M 1)/\w=w':=by rw[<-HS.out];exact lW x y w
      go_wp2_with (go_at_call 139;refine hcc.LT ?_;rintro e w' ⟨rfl,rfl⟩);go_ret;exact⟨ap (by rw[HC.out,HD.out,AE (by omega),AJ h2]),rfl⟩
     .have HS:=AB (show cI x y=0 by simp[cI,h1,h2]);have hcc:S DP 139 #[O M x,O M y] w λe w'=>e=.L (O M 0)/\w=w':=by rw[<-HS.out];exact lW x y w
      go_wp2_with (go_at_call 139;refine hcc.LT ?_;rintro e w' ⟨rfl,rfl⟩);go_round
      case rel=>exact⟨k+1,by omega,by omega,by go_num,by rw[HC.out,HD.out,AE (by omega),AE (by omega)]⟩
      case measure=>simp[Proofs.intOf];omega
   .have:k=m.L:=by omega
    have HS:=AB (show IV l m=1 by rw[HC.out,cf (l:=m) (by omega)];exact qK _ (by simp;omega));clear this;go_wp2;go_ret;exact⟨ap HS.out.LT,rfl⟩
  .have aA:k=l.L:=by omega
   by_cases a6:l.L<m.L
   .have HS:=AB (show IV l m=-1 by rw[HC.out,cf (l:=l) (by omega),lZ,AE (by simp;omega)]);go_wp2;go_ret;exact⟨ap HS.out.LT,rfl⟩
   .have HS:=AB (show IV l m=0 by rw[HC.out,cf (l:=l) (by omega),lZ,AJ (by simp;omega)]);go_wp2;go_ret;exact⟨ap HS.out.LT,rfl⟩
def yV (A:Option bh)(c:Nat)(l:List Int)(w:X)(B:Nat)(h:RI w B A l)(hl:l.L<=1048576)(hx:∀x∈l,0<=x/\x<=1048576) :
  S DP 86 #[C A l.L c] w λe w'=>e=.L (O M l.Lo)/\w=w':=by
 have HR:=AB h;have HX:=AB hx;go_enter Sq.func86,Tryz.ntmps86;go_wp2;go_loop [3,8] (λs i=>∃k:Nat,k<=l.L/\i=O M k/\s=O M (l.LT k).Lo) (λ_ i=>l.L-(G i).L)
 case atStart=>exact⟨0,by omega,rfl,by simp⟩
 case round =>
  obtain⟨k,hk,rfl,rfl⟩:=hrel;by_cases zY:k<l.L
  .obtain⟨b,o,rfl,hb,hc⟩:=HR.out.at_ zY;have HS:=AB (jb l k zY);have hy:=HX.out _ (Gh l k zY);obtain⟨hs1,hs2⟩:=GL 0 1048576 (l.LT k) λy hy=>HX.out y (Cj hy);have hs3:((l.LT k).L:Int)*1048576<=1048576*1048576:=by
    have:(l.LT k).L<=1048576:=by rw[CT];omega
    omega
   have hs4:0<=(l.LT k).Lo:=by omega
   have hs5:(l.LT k).Lo<=1099511627776:=by omega
   generalize l[k]?.LE 0=y at hc HS hy;obtain⟨a6,a7⟩:=hy;go_wp2;go_round
   case rel=>exact⟨k+1,by omega,by go_num,by rw[HS.out]⟩
   case measure=>simp[Proofs.intOf];omega
  .have:k=l.L:=by omega
   have HS:=AB (show(l.LT k).Lo=l.Lo by rw[Bj (by omega)]);clear this;go_wp2;go_ret;exact⟨ap HS.out,rfl⟩
def iG (x:Nat)(w:X)(hx:x<16):S DP 128 #[.int .u8 x] w λe w' =>
  ∃A c,e=.L (C A (wl x).L c)/\RI w' w'.heap.size A (wl x)/\Gr w w':=(gK x w hx).LT λe w' ⟨v,h1,h2,h3⟩=>by
 obtain⟨A,c,rfl,h4⟩:=RI.Fw h2;exact⟨A,c,h1,h4,h3⟩
def qP (cb:Nat)(c:Eb)(x:Nat)(w:X){nA hA:Option bh}{nc hc:Nat}(h:Fz w w.heap.size cb c nA hA nc hc)(h4:c.DR.L<=4)(hd:∀h∈c.DR,1<=h.F9/\h.F9<=5)(hx:c.LT x) :
  S DP 105 #[.S (Z ⟨cb,0,Y⟩),.int .u8 x] w λe w'=>e=.L (O M (c.F9 x))/\Gr w w':=by
 have HP:=AB h;have HD:=AB hd;have HX:=AB hx;have a8:=Dh h4 hx;go_enter Sq.func105,Tryz.ntmps105;go_wp2_with fail;refine(iG x w a8).LT ?_;rintro e w1 ⟨A,cc,rfl,aA,zV⟩;have HR:=AB aA;have HG:=AB zV;have a6:=AB (HP.out.gr (AD _) zV);have hl:=dC x;go_wp2;go_loop [5,11] (λs i=>∃k:Nat,k<=(wl x).L/\i=O M k/\s=O M ((c.Ke x).LT k).Lo) (λ_ i=>(wl x).L-(G i).L)
 case atStart=>exact⟨0,by omega,rfl,by simp⟩
 case round =>
  obtain⟨k,hk,rfl,rfl⟩:=hrel;by_cases zY:k<(wl x).L
  .obtain⟨b,o,rfl,hb,hcell⟩:=HR.out.at_ zY;obtain⟨n,hn,a7,aD,aF⟩:=MO HX.out zY;rw[hn] at hcell;have zp:=a6.out.c0;have zv:=a6.out.c1;obtain⟨zq,ho2,rfl,aC,hh⟩:=a6.out.Fg.at_ a7;obtain⟨-,hdog,-,-⟩:=hh;have HS:=AB ((jb (c.Ke x) k (by rw[c.Ky];exact zY)).trans (by rw[c.OQ zY hn]));obtain⟨hs1,hs2⟩:=MP c HX.out HD.out k;obtain⟨aG,aH⟩:=HD.out _ (c.IW a7);have HN:=AB hn
   go_wp2;go_round
   case rel=>exact⟨k+1,by omega,by go_num,by rw[HS.out]⟩
   case measure=>simp[Proofs.intOf];omega
  .have aB:k=(wl x).L:=by omega
   have HS:=AB (show((c.Ke x).LT k).Lo=c.F9 x by rw[Bj (by rw[c.Ky];omega)];rfl);clear aB;go_wp2;go_ret;exact⟨ap HS.out,HG.out⟩
def uW (cb br n night:Nat)(c:Eb)(w:X){nA hA:Option bh}{nc hc:Nat}(h:Fz w w.heap.size cb c nA hA nc hc)(hn:n<c.DR.L)(ho:(c.h n).off.L<=5)(a8:n<4) :
  S DP 153 #[.S (Z ⟨cb,0,Y⟩),.S (Z ⟨br,0,Y⟩),O M night,O M n] w λe w'=>e=.L (.bool (Qz c night n))/\w=w':=by
 have zv:=h.c1;obtain⟨b,o,rfl,zY,hh⟩:=h.Fg.at_ hn;obtain⟨-,-,-,A,cc,a7,a6⟩:=hh;have HC:=AB (jz A cc (c.h n).off night w w.heap.size a6 (by omega));go_enter Sq.func153,Tryz.ntmps153;go_wp2_with fail;refine HC.out.LT ?_;rintro e w' ⟨rfl,rfl⟩;go_wp2;go_ret;exact⟨rfl,rfl⟩
def ox (cb br n night:Nat)(r:Nat->Nat)(w:X)(hr:GX w w.heap.size br r)(hn:n<4)(hi:night<5)(hx:r (night-1)<16) :
  S DP 154 #[.S (Z ⟨cb,0,Y⟩),.S (Z ⟨br,0,Y⟩),O M night,O M n] w λe w'=>e=.L (.bool (fK r night n))/\w=w':=by
 obtain h0|h0:=BJ night
 .have HS:=AB (show fK r night n=bA by simp[fK,h0]);subst h0;go_enter Sq.func154,eC;go_wp2;go_ret;exact⟨aF HS.out.LT,rfl⟩
 .obtain⟨m,rfl⟩:∃m,night=m+1:=⟨night-1,by omega⟩;have HS:=AB (show fK r (m+1) n=(r m).L n by simp[fK]);have hc:=hr.2 m (by omega);rw[show m+1-1=m by omega] at hx;have HC:=AB (jy (r m) n w hx hn);go_enter Sq.func154,eC;go_wp2_with fail;refine HC.out.LT ?_;rintro e w' ⟨rfl,rfl⟩;go_wp2;go_ret;exact⟨aF HS.out.LT,rfl⟩
def oy (cb br n night:Nat)(c:Eb)(r:Nat->Nat)(w:X){nA hA:Option bh}{nc hc:Nat}(h:Fz w w.heap.size cb c nA hA nc hc)(hr:GX w w.heap.size br r)(hn:n<c.DR.L)(a7:n<4)(hi:night<5)(hx:∀i,r i<16) :
  S DP 155 #[.S (Z ⟨cb,0,Y⟩),.S (Z ⟨br,0,Y⟩),O M night,O M n] w λe w'=>e=.L (.bool (qN c r night n))/\w=w':=by
 have HR:=AB hr;have HX:=AB hx;have zv:=h.c1;obtain⟨b,o,rfl,zY,hh⟩:=h.Fg.at_ hn;obtain⟨-,-,hmost,-⟩:=hh;go_enter Sq.func155,Tryz.ntmps155;go_wp2;go_loop [9,12] (λs i=>∃k:Nat,k<=night/\i=O M k/\s=O M (Hf r n k)) (λ_ i=>night-(G i).L)
 case atStart=>exact⟨0,by omega,rfl,rfl⟩
 case round =>
  obtain⟨k,hk,rfl,rfl⟩:=hrel;have zX:=qM r n k;by_cases zY:k<night
  .have hc:=HR.out.2 k (by omega);have a6:=HX.out k;cases hb:(r k).L n with
   |true =>
    have HC:Hid (S DP 174 #[.int .u8 (r k),O M n] w λe w'=>e=.L (.bool cK)/\w=w'):=AB (by rw[<-hb];exact jy (r k) n w a6 a7);have HS:=AB (show Hf r n (k+1)=Hf r n k+1 by simp[Hf,hb]);go_wp2_with (go_at_call 174;refine HC.out.LT ?_;rintro e w' ⟨rfl,rfl⟩);go_round
    case rel=>exact⟨k+1,by omega,by go_num,by rw[HS.out];go_num⟩
    case measure=>simp[Proofs.intOf];omega
   |false =>
    have HC:Hid (S DP 174 #[.int .u8 (r k),O M n] w λe w'=>e=.L (.bool bA)/\w=w'):=AB (by rw[<-hb];exact jy (r k) n w a6 a7);have HS:=AB (show Hf r n (k+1)=Hf r n k by simp[Hf,hb]);go_wp2_with (go_at_call 174;refine HC.out.LT ?_;rintro e w' ⟨rfl,rfl⟩);go_round
    case rel=>exact⟨k+1,by omega,by go_num,by rw[HS.out]⟩
    case measure=>simp[Proofs.intOf];omega
  .have a8:k=night:=by omega
   subst a8;go_wp2;go_ret;exact⟨rfl,rfl⟩
def vw (p:Nat->Prop):∀j,j<0->p j:=λ_ h=>AH h (BY _)
def IX (x:Int×Int×Int):Value:=.agg #[O M x.1,O M x.2.1,O M x.2.2]
def oz (cb br night:Nat)(c:Eb)(r:Nat->Nat)(w:X){nA hA:Option bh}{nc hc:Nat}(h:Fz w w.heap.size cb c nA hA nc hc)(hr:GX w w.heap.size br r)(aO:c.Ok)(hi:night<c.DW.L)(hx:∀i,c.LT (r i)) :
  S DP 121 #[.S (Z ⟨cb,0,Y⟩),.S (Z ⟨br,0,Y⟩),O M night] w λe w'=>e=.L (IX (F4 c r night))/\Gr w w':=by
 have HP:=AB h;have HR:=AB hr;have HX:=AB hx;have hbr:=hr.1;have hcb:=h.lt;have b5:=aO.n5;clear h hr hx;go_enter Sq.func121,Tryz.ntmps121;go_wp2;obtain⟨W0,zM⟩:∃W0:X,W0=(w.Li (H #[O M 0,O M 0,O M 0] 220)).Li (H #[.func (.func 153) #[] #[],.func (.func 154) #[] #[],.func (.func 155) #[] #[]] 252):=⟨_,rfl⟩;have zL:Gr w W0:=by rw[zM];exact((Gr.refl w).Li _).Li _
 have zF:W0.heap.size=w.heap.size+2:=by rw[zM];simp
 have aB:Hid (∀w2,Gr W0 w2->(w2.L ⟨w.heap.size,0,Y⟩=Z (O M 0)/\w2.L ⟨w.heap.size,1,Y⟩=Z (O M 0)/\w2.L ⟨w.heap.size,2,Y⟩=Z (O M 0))/\w2.H ⟨w.heap.size,0,Y⟩=bA/\w2.H ⟨w.heap.size,1,Y⟩=bA/\w2.H ⟨w.heap.size,2,Y⟩=bA):=AB λw2 hg=>by
  have e:∀o,w2.L ⟨w.heap.size,o,Y⟩=(#[O M 0,O M 0,O M 0]:Array bb)[o]?/\w2.H ⟨w.heap.size,o,Y⟩=false:=λo=>by
   rw[hg.cell (by show w.heap.size<_;omega),hg.frozen (by show w.heap.size<_;omega),zM,A7 _ _ _ (by simp),AF _ _ _ _ rfl,Cm _ _ _ (by simp),Bt _ _ _ _ rfl];exact⟨rfl,rfl⟩
  exact⟨⟨(e 0).1,(e 1).1,(e 2).1⟩,(e 0).2,(e 1).2,(e 2).2⟩
 rw[<-zM];clear zM;have h4:=aO.h4;go_loopw [14] (λi wr=>∃k:Nat,k<=3/\i=O M k/\(∀j,j<k->breaks c r night j=Y)/\Gr W0 wr) (λi _=>3-(G i).L)
 case atStart=>exact⟨0,by omega,rfl,vw _,Gr.refl _⟩
 case round =>
  obtain⟨k,hk,rfl,hb,zV⟩:=hrel;have a6:=AB (zL.trans zV);have aJ:=AB zV;clear zV;obtain rfl|rfl|rfl|rfl:k=0\/k=1\/k=2\/k=3:=by omega
  ·
   have aW:∀w,(eb 252 (.agg #[.func (.func 153) #[] #[],.func (.func 154) #[] #[],.func (.func 155) #[] #[]]) (O M 0)).run DP w=.ok (.func (.func 153) #[] #[]) w:=λ_=>by kernel_rfl
   have a8:=HX.out night;have aP:=Dh h4 a8;have aU:=(HR.out.on a6.out).2 night (by omega);have HL:=AB (iG (r night) wr aP);have HB:=AB hb;have aA:=AB (HP.out.on a6.out);have aQ:=AB (HR.out.on a6.out);clear hb;go_wp2_with fail;refine HL.out.LT ?_;rintro e w2 ⟨A,cc,rfl,aC,zI⟩;have aR:=AB aC;have aD:=AB (a6.out.trans zI);have aK:=AB (aA.out.on zI);have aL:=AB (aQ.out.on zI);have aF:=AB (aJ.out.trans zI)
   obtain⟨⟨a7,zi,zz⟩,aM,aN,hf2⟩:=aB.out w2 aF.out;have hl:=dC (r night);have zD:=zI.size;clear aC zI;go_wp2;go_loop [25] (λi=>∃k:Nat,k<=(wl (r night)).L/\i=O M k/\((wl (r night)).LT k).find? (λh=>Kz c r night 0 h.L)=Y) (λi=>(wl (r night)).L-(G i).L)
   case atStart=>exact⟨0,by omega,rfl,by simp⟩
   case round =>
    obtain⟨k,hk,rfl,hnone⟩:=hrel;have HN:=AB hnone;clear hnone;by_cases zY:k<(wl (r night)).L
    .obtain⟨b,o,rfl,hb,hcell⟩:=aR.out.at_ zY;obtain⟨n,hn,aG,aH,aX⟩:=MO a8 zY;rw[hn] at hcell;have HE:=AB hn;clear hn;cases hq:Kz c r night 0 n with
     |true =>
      have HC:Hid (S DP 153 #[.S (Z ⟨cb,0,Y⟩),.S (Z ⟨br,0,Y⟩),O M night,O M n] w2 λe w'=>e=.L (.bool cK)/\w2=w'):=AB (by rw[<-hq];exact uW cb br n night c w2 aK.out aG (aO.off _ (c.IW aG)).1 aH);have HF:=AB (show breaks c r night 0=Z ((n:Nat):Int) by have:=gd zY HN.out (by rw[HE.out];exact hq);rw[HE.out] at this;exact this);clear hq;go_wp2_with (go_at_call 153;refine HC.out.LT ?_;rintro e w' ⟨rfl,rfl⟩)
      obtain⟨s0,s1,s2⟩:=NN a7 zi zz;refine cq (v:=IX (1,night,n)) (by simp[results,cd,go_sem,IX,s0,s1,s2]) rfl ⟨?_,?_⟩
      .exact AZ V (AZ IX (by unfold F4;skip;rw[HF.out]))
      .exact((aD.out.LE (AD _) _).LE (AD _) _).LE (AD _) _
     |false =>
      have HC:Hid (S DP 153 #[.S (Z ⟨cb,0,Y⟩),.S (Z ⟨br,0,Y⟩),O M night,O M n] w2 λe w'=>e=.L (.bool bA)/\w2=w'):=AB (by rw[<-hq];exact uW cb br n night c w2 aK.out aG (aO.off _ (c.IW aG)).1 aH);have HF:=AB (gJ zY HN.out (by rw[HE.out];exact hq));clear hq;go_wp2_with (go_at_call 153;refine HC.out.LT ?_;rintro e w' ⟨rfl,rfl⟩);go_round
      case rel=>exact⟨k+1,by omega,by go_num,HF.out⟩
      case measure=>simp[Proofs.intOf];omega
    .have HF:=AB (show breaks c r night 0=Y by have:=HN.out;rw[Bj (by omega)] at this;exact this);clear HN;go_wp2;go_roundw
     case rel=>exact⟨1,by omega,by go_num,λj hj=>by
      obtain h|rfl:=B5 (Cx hj)
      .exact HB.out j h
      .exact HF.out,aF.out⟩
     case measure=>simp[Proofs.intOf]
  ·
   have aW:∀w,(eb 252 (.agg #[.func (.func 153) #[] #[],.func (.func 154) #[] #[],.func (.func 155) #[] #[]]) (O M 1)).run DP w=.ok (.func (.func 154) #[] #[]) w:=λ_=>by kernel_rfl
   have a8:=HX.out night;have aP:=Dh h4 a8;have aU:=(HR.out.on a6.out).2 night (by omega);have HL:=AB (iG (r night) wr aP);have HB:=AB hb;have aA:=AB (HP.out.on a6.out);have aQ:=AB (HR.out.on a6.out);clear hb;go_wp2_with fail;refine HL.out.LT ?_;rintro e w2 ⟨A,cc,rfl,aC,zI⟩;have aR:=AB aC;have aD:=AB (a6.out.trans zI);have aK:=AB (aA.out.on zI);have aL:=AB (aQ.out.on zI);have aF:=AB (aJ.out.trans zI)
   obtain⟨⟨a7,zi,zz⟩,aM,aN,hf2⟩:=aB.out w2 aF.out;have hl:=dC (r night);have zD:=zI.size;clear aC zI;go_wp2;go_loop [25] (λi=>∃k:Nat,k<=(wl (r night)).L/\i=O M k/\((wl (r night)).LT k).find? (λh=>Kz c r night 1 h.L)=Y) (λi=>(wl (r night)).L-(G i).L)
   case atStart=>exact⟨0,by omega,rfl,by simp⟩
   case round =>
    obtain⟨k,hk,rfl,hnone⟩:=hrel;have HN:=AB hnone;clear hnone;by_cases zY:k<(wl (r night)).L
    .obtain⟨b,o,rfl,hb,hcell⟩:=aR.out.at_ zY;obtain⟨n,hn,aG,aH,aX⟩:=MO a8 zY;rw[hn] at hcell;have HE:=AB hn;clear hn;cases hq:Kz c r night 1 n with
     |true =>
      have HC:Hid (S DP 154 #[.S (Z ⟨cb,0,Y⟩),.S (Z ⟨br,0,Y⟩),O M night,O M n] w2 λe w'=>e=.L (.bool cK)/\w2=w'):=AB (by rw[<-hq];exact ox cb br n night r w2 aL.out aH (by omega) (Dh h4 (HX.out _)));have HF:=AB (show breaks c r night 1=Z ((n:Nat):Int) by have:=gd zY HN.out (by rw[HE.out];exact hq);rw[HE.out] at this;exact this);clear hq;go_wp2_with (go_at_call 154;refine HC.out.LT ?_;rintro e w' ⟨rfl,rfl⟩)
      obtain⟨s0,s1,s2⟩:=NN a7 zi zz;refine cq (v:=IX (2,night,n)) (by simp[results,cd,go_sem,IX,s0,s1,s2]) rfl ⟨?_,?_⟩
      .exact AZ V (AZ IX (by unfold F4;skip;rw[HB.out 0 (by omega)];rw[HF.out]))
      .exact((aD.out.LE (AD _) _).LE (AD _) _).LE (AD _) _
     |false =>
      have HC:Hid (S DP 154 #[.S (Z ⟨cb,0,Y⟩),.S (Z ⟨br,0,Y⟩),O M night,O M n] w2 λe w'=>e=.L (.bool bA)/\w2=w'):=AB (by rw[<-hq];exact ox cb br n night r w2 aL.out aH (by omega) (Dh h4 (HX.out _)));have HF:=AB (gJ zY HN.out (by rw[HE.out];exact hq));clear hq;go_wp2_with (go_at_call 154;refine HC.out.LT ?_;rintro e w' ⟨rfl,rfl⟩);go_round
      case rel=>exact⟨k+1,by omega,by go_num,HF.out⟩
      case measure=>simp[Proofs.intOf];omega
    .have HF:=AB (show breaks c r night 1=Y by have:=HN.out;rw[Bj (by omega)] at this;exact this);clear HN;go_wp2;go_roundw
     case rel=>exact⟨2,by omega,by go_num,λj hj=>by
      obtain h|rfl:=B5 (Cx hj)
      .exact HB.out j h
      .exact HF.out,aF.out⟩
     case measure=>simp[Proofs.intOf]
  ·
   have aW:∀w,(eb 252 (.agg #[.func (.func 153) #[] #[],.func (.func 154) #[] #[],.func (.func 155) #[] #[]]) (O M 2)).run DP w=.ok (.func (.func 155) #[] #[]) w:=λ_=>by kernel_rfl
   have a8:=HX.out night;have aP:=Dh h4 a8;have aU:=(HR.out.on a6.out).2 night (by omega);have HL:=AB (iG (r night) wr aP);have HB:=AB hb;have aA:=AB (HP.out.on a6.out);have aQ:=AB (HR.out.on a6.out);clear hb;go_wp2_with fail;refine HL.out.LT ?_;rintro e w2 ⟨A,cc,rfl,aC,zI⟩;have aR:=AB aC;have aD:=AB (a6.out.trans zI);have aK:=AB (aA.out.on zI);have aL:=AB (aQ.out.on zI);have aF:=AB (aJ.out.trans zI)
   obtain⟨⟨a7,zi,zz⟩,aM,aN,hf2⟩:=aB.out w2 aF.out;have hl:=dC (r night);have zD:=zI.size;clear aC zI;go_wp2;go_loop [25] (λi=>∃k:Nat,k<=(wl (r night)).L/\i=O M k/\((wl (r night)).LT k).find? (λh=>Kz c r night 2 h.L)=Y) (λi=>(wl (r night)).L-(G i).L)
   case atStart=>exact⟨0,by omega,rfl,by simp⟩
   case round =>
    obtain⟨k,hk,rfl,hnone⟩:=hrel;have HN:=AB hnone;clear hnone;by_cases zY:k<(wl (r night)).L
    .obtain⟨b,o,rfl,hb,hcell⟩:=aR.out.at_ zY;obtain⟨n,hn,aG,aH,aX⟩:=MO a8 zY;rw[hn] at hcell;have HE:=AB hn;clear hn;cases hq:Kz c r night 2 n with
     |true =>
      have HC:Hid (S DP 155 #[.S (Z ⟨cb,0,Y⟩),.S (Z ⟨br,0,Y⟩),O M night,O M n] w2 λe w'=>e=.L (.bool cK)/\w2=w'):=AB (by rw[<-hq];exact oy cb br n night c r w2 aK.out aL.out aG aH (by omega) λi=>Dh h4 (HX.out i));have HF:=AB (show breaks c r night 2=Z ((n:Nat):Int) by have:=gd zY HN.out (by rw[HE.out];exact hq);rw[HE.out] at this;exact this);clear hq
      go_wp2_with (go_at_call 155;refine HC.out.LT ?_;rintro e w' ⟨rfl,rfl⟩);obtain⟨s0,s1,s2⟩:=NN a7 zi zz;refine cq (v:=IX (3,night,n)) (by simp[results,cd,go_sem,IX,s0,s1,s2]) rfl ⟨?_,?_⟩
      .exact AZ V (AZ IX (by unfold F4;skip;rw[HB.out 0 (by omega)];rw[HB.out 1 (by omega)];rw[HF.out]))
      .exact((aD.out.LE (AD _) _).LE (AD _) _).LE (AD _) _
     |false =>
      have HC:Hid (S DP 155 #[.S (Z ⟨cb,0,Y⟩),.S (Z ⟨br,0,Y⟩),O M night,O M n] w2 λe w'=>e=.L (.bool bA)/\w2=w'):=AB (by rw[<-hq];exact oy cb br n night c r w2 aK.out aL.out aG aH (by omega) λi=>Dh h4 (HX.out i));have HF:=AB (gJ zY HN.out (by rw[HE.out];exact hq));clear hq;go_wp2_with (go_at_call 155;refine HC.out.LT ?_;rintro e w' ⟨rfl,rfl⟩)
      go_round
      case rel=>exact⟨k+1,by omega,by go_num,HF.out⟩
      case measure=>simp[Proofs.intOf];omega
    .have HF:=AB (show breaks c r night 2=Y by have:=HN.out;rw[Bj (by omega)] at this;exact this);clear HN;go_wp2;go_roundw
     case rel=>exact⟨3,by omega,by go_num,λj hj=>by
      obtain h|rfl:=B5 (Cx hj)
      .exact HB.out j h
      .exact HF.out,aF.out⟩
     case measure=>simp[Proofs.intOf]
  ·
   have a8:=HX.out night;have aU:=(HR.out.on a6.out).2 night (by omega);have HB:=AB hb;have aA:=AB (HP.out.on a6.out);obtain⟨⟨a7,zi,zz⟩,aM,aN,hf2⟩:=aB.out wr aJ.out;have zp:=aA.out.c0;obtain⟨nb,no,rfl,aY,aI⟩:=aA.out.DW.at_ hi;have HD:=AB (qP cb c (r night) wr.drew (aA.out.on (Gr.refl wr).drew) h4 aO.F9 a8);have aS:=AB (show F4 c r night=if c.F9 (r night)<c.need night then(4,(night:Int),-1) else(0,-1,-1) by unfold F4;rw[HB.out 0 (by omega),HB.out 1 (by omega),HB.out 2 (by omega)])
   have aT:cb<wr.heap.size:=aA.out.lt;have hWlt:w.heap.size<wr.heap.size:=by have:=aJ.out.size;omega
   have aZ:=AB ((a6.out.drew));have aD:=AB ((aJ.out.drew));clear hb a7 zi zz aM aN hf2;change wr.L ⟨nb,no+night,Y⟩=Z (O M (c.need night)) at aI;generalize c.need night=m at aI aS;generalize c.F9 (r night)=d at HD aS;by_cases hdm:d<m
   .have HL:=AB (show F4 c r night=(4,(night:Int),-1) by rw[aS.out,AJ hdm]);clear aS;go_wp2;go_region_with (first|(go_at_call 105;refine HD.out.LT ?_;rintro e w3 ⟨rfl,zH⟩;have q0:=(zH.cell (p:=⟨cb,0,Y⟩) aT).trans zp;have q1:=(zH.cell (p:=⟨nb,no+night,Y⟩) aY).trans aI;have aV:=AB (aZ.out.trans zH);obtain⟨⟨a7,zi,zz⟩,aM,aN,hf2⟩:=aB.out w3 (aD.out.trans zH);clear zH))
    all_goals
     go_wp2;obtain⟨s0,s1,s2⟩:=NN a7 zi zz;refine cq (v:=IX (4,night,-1)) (by simp[results,cd,go_sem,IX,s0,s1,s2]) rfl ⟨?_,?_⟩
     .exact AZ V (AZ IX HL.out.LT)
     .exact((aV.out.LE (AD _) _).LE (AD _) _).LE (AD _) _
   .have HL:=AB (show F4 c r night=(0,-1,-1) by rw[aS.out,AE hdm]);go_wp2;go_region_with (first|(go_at_call 105;refine HD.out.LT ?_;rintro e w3 ⟨rfl,zH⟩;have q0:=(zH.cell (p:=⟨cb,0,Y⟩) aT).trans zp;have q1:=(zH.cell (p:=⟨nb,no+night,Y⟩) aY).trans aI;have aV:=AB (aZ.out.trans zH);obtain⟨⟨a7,zi,zz⟩,aM,aN,hf2⟩:=aB.out w3 (aD.out.trans zH);clear zH))
    all_goals
     go_wp2;obtain⟨s0,s1,s2⟩:=NN a7 zi zz;refine cq (v:=IX (0,-1,-1)) (by simp[results,cd,go_sem,IX,s0,s1,s2]) rfl ⟨?_,?_⟩
     .exact AZ V (AZ IX HL.out.LT)
     .exact((aV.out.LE (AD _) _).LE (AD _) _).LE (AD _) _
structure KT (T:Nat->Prop)(w w':X):Prop where
 os:w'.os=w.os
 tape:w'.tape=w.tape
 output:w'.output=w.output
 drawn:w.drawn<=w'.drawn
 size:w.heap.size<=w'.heap.size
 Lo:∀b,b<w.heap.size->¬T b->w'.heap[b]?=w.heap[b]?
def KT.refl (T:Nat->Prop)(w:X):KT T w w:=⟨rfl,rfl,rfl,AD _,AD _,λ_ _ _=>rfl⟩
def KT.trans {T:Nat->Prop}{a b c:X}(h:KT T a b)(k:KT T b c):KT T a c :=
 ⟨k.os.trans h.os,k.tape.trans h.tape,k.output.trans h.output,AX h.drawn k.drawn,AX h.size k.size,λx hx hT=>(k.Lo x (AI hx h.size) hT).trans (h.Lo x hx hT)⟩
def KT.EF {T:Nat->Prop}{w w':X}(h:Gr w w'):KT T w w':=⟨h.Ly.os,h.Ly.tape,h.Ly.output,h.drawn,h.size,λb hb _=>h.Ly.Lo b hb⟩
def KT.LT {T T':Nat->Prop}{w w':X}(h:KT T w w')(hT:∀b,T b->T' b):KT T' w w':=⟨h.os,h.tape,h.output,h.drawn,h.size,λb hb hn=>h.Lo b hb λt=>hn (hT b t)⟩
def KT.LE {T:Nat->Prop}(w:X){p:bh}(hp:T p.Lo)(v:bb):KT T w (w.LE p v) :=
 ⟨rfl,rfl,rfl,AD _,by simp[bW],λb _ hT=>AP w p v b λe=>hT (e▸hp)⟩
def KT.SL {T:Nat->Prop}(w:X){l:Nat}(hl:T l)(o:Obj):KT T w (w.SL l o) :=
 ⟨rfl,rfl,rfl,AD _,by simp[cA],λb _ hT=>E λe=>hT (e▸hl)⟩
def KT.cell {T:Nat->Prop}{w w':X}(h:KT T w w'){p:bh}(hp:p.Lo<w.heap.size)(hT:¬T p.Lo):w'.L p=w.L p:=AY (h.Lo _ hp hT)
def KT.frozen {T:Nat->Prop}{w w':X}(h:KT T w w'){p:bh}(hp:p.Lo<w.heap.size)(hT:¬T p.Lo):w'.H p=w.H p:=BR (h.Lo _ hp hT)
def IU (w:X)(K:Nat->Prop)(A:Option bh)(l:List Int):Prop :=
 l≠[]->∃b o,A=Z ⟨b,o,Y⟩/\K b/\∀i x,l[i]?=Z x->w.L ⟨b,o+i,Y⟩=Z (O M x)
def Mp (w:X)(K:Nat->Prop)(b o:Nat)(h:EO):Prop :=
 w.L ⟨b,o,Y⟩=Z (O M h.heads)/\w.L ⟨b,o+1,Y⟩=Z (O M h.F9)/\w.L ⟨b,o+2,Y⟩=Z (O M h.most) /\
  ∃A c,w.L ⟨b,o+3,Y⟩=Z (C A h.off.L c)/\IU w K A h.off
def Hg (w:X)(K:Nat->Prop)(A:Option bh)(l:List EO):Prop :=
 l≠[]->∃b o,A=Z ⟨b,o,Y⟩/\K b/\∀i h,l[i]?=Z h->Mp w K b (o+i*4) h
structure FZ (w:X)(K:Nat->Prop)(cb:Nat)(c:Eb)(sets:List Nat)(nA hA:Option bh)(nc hc sb sc:Nat):Prop where
 lt:∀b,K b->b<w.heap.size
 kc:K cb
 c0:w.L ⟨cb,0,Y⟩=Z (C nA c.DW.L nc)
 c1:w.L ⟨cb,1,Y⟩=Z (C hA c.DR.L hc)
 c2:w.L ⟨cb,2,Y⟩=Z (.slice (Z ⟨sb,0,Y⟩) sets.L sc)
 ks:K sb
 sets:∀(i x:Nat),sets[i]?=Z x->w.L ⟨sb,i,Y⟩=Z (.int .u8 (x:Int))
 DW:IU w K nA c.DW
 Fg:Hg w K hA c.DR
section
variable {w w':X} {K:Nat->Prop} {B:Nat} {A:Option bh}
def IU.ri {l:List Int}(h:IU w K A l)(hK:∀b,K b->b<B):RI w B A l:=λhn=>by
 obtain⟨b,o,e,hb,hc⟩:=h hn;exact⟨b,o,e,hK b hb,hc⟩
def Mp.hat {b o:Nat}{h:EO}(ha:Mp w K b o h)(hK:∀b,K b->b<B):Ng w B b o h:=by
 obtain⟨h1,h2,h3,A,c,h4,h5⟩:=ha;exact⟨h1,h2,h3,A,c,h4,h5.ri hK⟩
def Hg.hs {l:List EO}(h:Hg w K A l)(hK:∀b,K b->b<B):FY w B A l:=λhn=>by
 obtain⟨b,o,e,hb,hc⟩:=h hn;exact⟨b,o,e,hK b hb,λi h hi=>(hc i h hi).hat hK⟩
def IU.keep {l:List Int}(h:IU w K A l)(hk:∀b o,K b->w'.L ⟨b,o,Y⟩=w.L ⟨b,o,Y⟩):IU w' K A l:=λhn=>by
 obtain⟨b,o,e,hb,hc⟩:=h hn;exact⟨b,o,e,hb,λi x hx=>(hk _ _ hb).trans (hc i x hx)⟩
def Mp.keep {b o:Nat}{h:EO}(ha:Mp w K b o h)(hb:K b)(hk:∀b o,K b->w'.L ⟨b,o,Y⟩=w.L ⟨b,o,Y⟩):Mp w' K b o h:=by
 obtain⟨h1,h2,h3,A,c,h4,h5⟩:=ha;exact⟨(hk _ _ hb).trans h1,(hk _ _ hb).trans h2,(hk _ _ hb).trans h3,A,c,(hk _ _ hb).trans h4,h5.keep hk⟩
def Hg.keep {l:List EO}(h:Hg w K A l)(hk:∀b o,K b->w'.L ⟨b,o,Y⟩=w.L ⟨b,o,Y⟩):Hg w' K A l:=λhn=>by
 obtain⟨b,o,e,hb,hc⟩:=h hn;exact⟨b,o,e,hb,λi h hi=>(hc i h hi).keep hb hk⟩
variable {cb:Nat} {c:Eb} {sets:List Nat} {nA hA:Option bh} {nc hc sb sc:Nat}
def FZ.NP (h:FZ w K cb c sets nA hA nc hc sb sc):Fz w w.heap.size cb c nA hA nc hc:=⟨h.lt _ h.kc,h.c0,h.c1,h.DW.ri h.lt,h.Fg.hs h.lt⟩
def FZ.keep (h:FZ w K cb c sets nA hA nc hc sb sc)(hz:w.heap.size<=w'.heap.size)(hk:∀b o,K b->w'.L ⟨b,o,Y⟩=w.L ⟨b,o,Y⟩):FZ w' K cb c sets nA hA nc hc sb sc :=
 ⟨λb hb=>AI (h.lt b hb) hz,h.kc,(hk _ _ h.kc).trans h.c0,(hk _ _ h.kc).trans h.c1,(hk _ _ h.kc).trans h.c2,h.ks,λi x hx=>(hk _ _ h.ks).trans (h.sets i x hx),h.DW.keep hk,h.Fg.keep hk⟩
end
abbrev EK:=Nat->Nat
def upd (r:EK)(n x:Nat):EK:=λi=>if i=n then x else r i
def ET (r:EK):Value:=.agg #[.int .u8 (r 0),.int .u8 (r 1),.int .u8 (r 2),.int .u8 (r 3),.int .u8 (r 4)]
def EJ (c:Eb)(sets:List Nat):Nat->EK->Nat->List EK
 |0,r,_=>[r]
 |k+1,r,n=>sets.S λx=>if(F4 c (upd r n x) n).1=0 then EJ c sets k (upd r n x) (n+1) else[]
structure Mj (T K:Nat->Prop)(cb:Nat)(c:Eb)(sets:List Nat)(nA hA:Option bh)(nc hc sb sc bc by_ br bw l:Nat)(r:EK)(w:X):Prop where
 F5:FZ w K cb c sets nA hA nc hc sb sc
 kt:∀b,K b->¬T b
 xc:w.L ⟨bc,0,Y⟩=Z (.S (Z ⟨cb,0,Y⟩))/\¬T bc/\bc<w.heap.size
 xy:w.L ⟨by_,0,Y⟩=Z (.func (.yield l) #[] #[])/\¬T by_/\by_<w.heap.size
 xw:w.L ⟨bw,0,Y⟩=Z (.func (.func 137) #[] #[.S (Z ⟨bc,0,Y⟩),.S (Z ⟨by_,0,Y⟩),.S (Z ⟨br,0,Y⟩),.S (Z ⟨bw,0,Y⟩)])/\¬T bw/\bw<w.heap.size
 xr:(∀i,i<5->w.L ⟨br,i,Y⟩=Z (.int .u8 (r i))/\w.H ⟨br,i,Y⟩=bA)/\¬T br/\br<w.heap.size
 ne:bc≠br/\by_≠br/\bw≠br/\∀b,K b->b≠br
 rs:∀i,c.LT (r i)
section
variable {T K:Nat->Prop} {cb:Nat} {c:Eb} {sets:List Nat} {nA hA:Option bh} {nc hc sb sc bc by_ br bw l:Nat} {r:EK} {w w':X}
def Mj.on (h:Mj T K cb c sets nA hA nc hc sb sc bc by_ br bw l r w)(k:KT T w w'):Mj T K cb c sets nA hA nc hc sb sc bc by_ br bw l r w':=by
 refine⟨h.F5.keep k.size λb o hb=>k.cell (p:=⟨b,o,Y⟩) (h.F5.lt b hb) (h.kt b hb),h.kt,⟨(k.cell h.xc.2.2 h.xc.2.1).trans h.xc.1,h.xc.2.1,AI h.xc.2.2 k.size⟩,⟨(k.cell h.xy.2.2 h.xy.2.1).trans h.xy.1,h.xy.2.1,AI h.xy.2.2 k.size⟩,
  ⟨(k.cell h.xw.2.2 h.xw.2.1).trans h.xw.1,h.xw.2.1,AI h.xw.2.2 k.size⟩,⟨λi hi=>?_,h.xr.2.1,AI h.xr.2.2 k.size⟩,h.ne,h.rs⟩
 obtain⟨h1,h2⟩:=h.xr.1 i hi;exact⟨(k.cell (p:=⟨br,i,Y⟩) h.xr.2.2 h.xr.2.1).trans h1,(k.frozen (p:=⟨br,i,Y⟩) h.xr.2.2 h.xr.2.1).trans h2⟩
def Mj.SS (h:Mj T K cb c sets nA hA nc hc sb sc bc by_ br bw l r w){n x:Nat}(hn:n<5)(hx:c.LT x):Mj T K cb c sets nA hA nc hc sb sc bc by_ br bw l (upd r n x) (w.LE ⟨br,n,Y⟩ (.int .u8 x)):=by
 have other:∀b o,b≠br->(w.LE ⟨br,n,Y⟩ (.int .u8 x)).L ⟨b,o,Y⟩=w.L ⟨b,o,Y⟩:=λb o hb=>AN _ _ _ _ (by intro e;simp only[Addr.mk.injEq] at e;exact hb e.1.LT);have sz:(w.LE ⟨br,n,Y⟩ (.int .u8 x)).heap.size=w.heap.size:=by simp[bW]
 refine⟨h.F5.keep (by rw[sz];exact AD _) λb o hb=>other b o (h.ne.2.2.2 b hb),h.kt,⟨(other _ _ h.ne.1).trans h.xc.1,h.xc.2.1,by rw[sz];exact h.xc.2.2⟩,⟨(other _ _ h.ne.2.1).trans h.xy.1,h.xy.2.1,by rw[sz];exact h.xy.2.2⟩,
  ⟨(other _ _ h.ne.2.2.1).trans h.xw.1,h.xw.2.1,by rw[sz];exact h.xw.2.2⟩,⟨λi hi=>?_,h.xr.2.1,by rw[sz];exact h.xr.2.2⟩,h.ne,λi=>?_⟩
 .obtain⟨h1,h2⟩:=h.xr.1 i hi;refine⟨?_,(BH _ _ _ _).trans h2⟩;unfold upd;by_cases e:i=n
  .subst e;rw[AJ rfl];exact AW _ _ _ h1
  .rw[AE e,AN _ _ _ _ (by intro e';simp only[Addr.mk.injEq] at e';omega)];exact h1
 .unfold upd;split
  .exact hx
  .exact h.rs i
def Mj.ros (h:Mj T K cb c sets nA hA nc hc sb sc bc by_ br bw l r w):GX w w.heap.size br r:=⟨h.xr.2.2,λi hi=>(h.xr.1 i hi).1⟩
end
open Go.Shelf
attribute [local go_sem] Oper.semAt_some
def Pt (T:Nat->Prop)(J Jx:List EK->X->Prop)(pre:List EK)(ρ:EK)(W:X)(e:fq)(W':X):Prop :=
 (e=.L (.bool cK)/\J (pre++[ρ]) W'/\KT T W W')\/(e=.L (.bool bA)/\Jx (pre++[ρ]) W'/\KT T W W')
def qR (T':Nat->Prop)(St:X->Prop)(J Jx:List EK->X->Prop)(pre L:List EK)(W:X)(e:fq)(W':X):Prop :=
 (e=.L (.bool cK)/\J (pre++L) W'/\St W'/\KT T' W W')\/(e=.L (.bool bA)/\(∃q,q <+: L/\Jx (pre++q) W')/\KT T' W W')
section
variable {T K:Nat->Prop} {cb:Nat} {c:Eb} {sets:List Nat} {nA hA:Option bh} {nc hc sb sc bc by_ br bw l:Nat} {J Jx:List EK->X->Prop} {W0:X} {Lt:List EK}
def qS (a6:c.Ok){r:EK}{pre:List EK}{W:X}(hs:Mj T K cb c sets nA hA nc hc sb sc bc by_ br bw l r W)(hk:KT (λb=>T b\/b=br) W0 W)(hj:J pre W)(hpl:pre++[r] <+: Lt)
  (hY:∀pre ρ W,pre++[ρ] <+: Lt->KT (λb=>T b\/b=br) W0 W->J pre W->YieldAt bk 0 DP l #[ET ρ] W (Pt T J Jx pre ρ W)) :
  CallsIn bk 0 DP 137 #[O M c.DW.L,.S (Z ⟨bc,0,Y⟩),.S (Z ⟨by_,0,Y⟩),.S (Z ⟨br,0,Y⟩),.S (Z ⟨bw,0,Y⟩)] W
   (qR (λb=>T b\/b=br) (Mj T K cb c sets nA hA nc hc sb sc bc by_ br bw l r) J Jx pre [r] W):=by
 have HS:=AB hs;have a7:=a6.n5;obtain⟨fn,tmps,assign,body,hy,hR⟩:=hY pre r W hpl hk hj;have HR:=AB hR;have a8:=hs.xc.1;have aA:=hs.xy.1;have zp:=hs.F5.c0;have aB:=(hs.xr.1 0 (by omega)).1;have zi:=(hs.xr.1 1 (by omega)).1;have zz:=(hs.xr.1 2 (by omega)).1;have hr3:=(hs.xr.1 3 (by omega)).1;have hr4:=(hs.xr.1 4 (by omega)).1;unfold ET at hy;clear hs hk hj hY hR hpl;refine dn Sq.func137 rfl trivial ?_ rfl
 simp only[eF,AR,AQ,AT,Nat.reduceAdd,Nat.reduceSub,Bz,BA,BQ,BI,BZ,BN]
 gi_wp2
 refine⟨rfl,HR.out.LT ?_⟩;rintro e W' (⟨rfl,hj,hk⟩|⟨rfl,hj,hk⟩)
 .have HJ:=AB hj;have HK:=AB hk
  gi_wp2
  go_ret;exact .inl ⟨rfl,HJ.out,HS.out.on HK.out,HK.out.LT λb hb=>.inl hb⟩
 .have HJ:=AB hj;have HK:=AB hk
  gi_wp2
  go_ret;exact .inr ⟨rfl,⟨[r],ea _,HJ.out⟩,HK.out.LT λb hb=>.inl hb⟩
def vy (k1 k2 k3:Int)(w:X):Sem.run DP (Instr.field 220 (.agg #[O M k1,O M k2,O M k3]) 0) w=.ok (O M k1) w:=by kernel_rfl
def gives (c:Eb)(sets:List Nat)(k:Nat)(r:EK)(n x:Nat):List EK:=if(F4 c (upd r n x) n).1=0 then EJ c sets k (upd r n x) (n+1) else[]
def jA (c:Eb)(sets:List Nat)(k:Nat)(r:EK)(n j:Nat)(hj:j<sets.L):(sets.LT (j+1)).S (gives c sets k r n)=(sets.LT j).S (gives c sets k r n)++gives c sets k r n (sets[j]?.LE 0):=by
 rw[bu 0 sets j hj,cU];simp
def qT (c:Eb)(sets:List Nat)(k:Nat)(r:EK)(n j:Nat)(hj:j<sets.L){q:List EK}(h:q <+: gives c sets k r n (sets[j]?.LE 0)):(sets.LT j).S (gives c sets k r n)++q <+: sets.S (gives c sets k r n):=by
 have e:sets.S (gives c sets k r n)=(sets.LT (j+1)).S (gives c sets k r n)++(sets.drop (j+1)).S (gives c sets k r n):=by
  rw[<-cU,List.take_append_drop]
 rw[e,jA _ _ _ _ _ _ hj];obtain⟨s,hs⟩:=h;exact⟨s++(sets.drop (j+1)).S (gives c sets k r n),by rw[<-hs];simp[Cy]⟩
def oA (r:EK)(n x y:Nat):upd (upd r n x) n y=upd r n y:=by
 funext i;unfold upd;split<;>rfl
def ma (r:EK)(n:Nat):upd r n (r n)=r:=by
 funext i;unfold upd;split
 .rename_i h;rw[h]
 .rfl
def xP (aI:c.Ok)(aF:∀x∈sets,c.LT x)(b5:sets.L<=16)(aP:∀pre w w',J pre w->(∀b,T b->w'.heap[b]?=w.heap[b]?)->J pre w')
  (aJ:∀pre w,J pre w->∀b,T b->b<w.heap.size) (aK:¬T br)
  (hY:∀pre ρ W,pre++[ρ] <+: Lt->KT (λb=>T b\/b=br) W0 W->J pre W->YieldAt bk 0 DP l #[ET ρ] W (Pt T J Jx pre ρ W)) :
  ∀(k n:Nat) (r:EK) (pre:List EK) (W:X),n+k=c.DW.L->Mj T K cb c sets nA hA nc hc sb sc bc by_ br bw l r W->KT (λb=>T b\/b=br) W0 W->J pre W->(∀i,n<=i->r i=0)->pre++EJ c sets k r n <+: Lt ->
  CallsIn bk 0 DP 137 #[O M n,.S (Z ⟨bc,0,Y⟩),.S (Z ⟨by_,0,Y⟩),.S (Z ⟨br,0,Y⟩),.S (Z ⟨bw,0,Y⟩)] W
   (qR (λb=>T b\/b=br) (Mj T K cb c sets nA hA nc hc sb sc bc by_ br bw l r) J Jx pre (EJ c sets k r n) W):=by
 intro k
 induction k with
 |zero =>
  intro n r pre W hn hs hk hj hz hpl;obtain rfl:n=c.DW.L:=by omega
  exact qS aI hs hk hj hpl hY
 |succ k ih =>
  intro n r pre W hn hs hk hj hz hpl;have aV:=AB hpl;have HS:=AB hs;have HK:=AB hk;have HJ:=AB hj;have HZ:=AB hz;have HIH:=AB ih;have HY:=AB hY;have aG:=AB aP;have aQ:=AB aJ;have HST:=AB aF;have b6:=aI.n5;have aW:n<c.DW.L:=by omega
  have b7:=hs.xc.1;have zp:=hs.F5.c0;have zt:=hs.F5.c2;have hneq:((n:Int)==(c.DW.L:Int))=false:=by simpa using(by omega:¬(n:Int)=(c.DW.L:Int))
  have HW:Hid (EJ c sets (k+1) r n=sets.S (gives c sets k r n)):=AB rfl;clear hs hk hj hz ih hY aP aJ aF hpl;refine dn Sq.func137 rfl trivial ?_ rfl;simp only[eF,AR,AQ,AT,Nat.reduceAdd,Nat.reduceSub,Bz,BA,BQ,BI,BZ,BN]
  gi_wp2
  gi_loopw [25] (λi wr=>∃(j x:Nat),j<=sets.L/\i=O M j/\c.LT x/\Mj T K cb c sets nA hA nc hc sb sc bc by_ br bw l (upd r n x) wr/\J (pre++(sets.LT j).S (gives c sets k r n)) wr/\KT (λb=>T b\/b=br) W wr) (λi _=>sets.L-(G i).L)
  case atStart =>
   exact⟨0,r n,by omega,rfl,HS.out.rs n,by rw[ma];exact HS.out,by simpa using HJ.out,KT.refl _ _⟩
  case round =>
   obtain⟨j,x,hj,rfl,hx,hs,aR,hk⟩:=hrel;have a7:=AB hs;have aS:=AB aR;have aT:=AB hk;have hxx:=AB hx;clear hs aR hk hx;by_cases zY:j<sets.L
   .obtain⟨y,hy⟩:∃y,sets[j]?=Z y:=⟨sets[j],AG zY⟩;have aL:c.LT y:=HST.out y (Cc hy);have hcell:=a7.out.F5.sets j y hy;obtain⟨aX,hfn⟩:=a7.out.xr.1 n (by omega);have hxc1:=a7.out.xc.1;have a6:Hid (Mj T K cb c sets nA hA nc hc sb sc bc by_ br bw l (upd r n y) (wr.LE ⟨br,n,Y⟩ (.int .u8 y))):=AB (by have:=a7.out.SS (n:=n) (x:=y) (by omega) aL;rwa [oA] at this);have hxc2:=a6.out.xc.1
    have aU:=AB (jA c sets k r n j zY);have HGP:=AB (λq=>qT c sets k r n j zY (q:=q));have hyD:sets[j]?.LE 0=y:=by rw[hy];rfl
    have HD:=AB hyD;have a8:Hid (KT (λb=>T b\/b=br) W (wr.LE ⟨br,n,Y⟩ (.int .u8 y))):=AB (aT.out.trans (KT.LE wr (p:=⟨br,n,Y⟩) (.inr rfl) _));have aA:Hid (J (pre++(sets.LT j).S (gives c sets k r n)) (wr.LE ⟨br,n,Y⟩ (.int .u8 y))):=AB (aG.out _ _ _ aS.out λb hb=>AP _ _ _ _ λe=>aK (by have e':b=br:=e;rw[<-e'];exact hb));have aB:=oz cb br n c (upd r n y) (wr.LE ⟨br,n,Y⟩ (.int .u8 y)) a6.out.F5.NP a6.out.ros aI aW a6.out.rs
    unfold IX at aB;have aM:Hid (gives c sets k r n y=if(F4 c (upd r n y) n).1=0 then EJ c sets k (upd r n y) (n+1) else[]):=AB rfl;generalize F4 c (upd r n y) n=lp at aB aM;obtain⟨k1,k2,k3⟩:=lp;have HL:=AB (dt (n:=0).2 aB);have hfd:=vy k1 k2 k3;clear aB hy hyD;by_cases h0:k1=0
    .have aC:=AB (show gives c sets k r n y=EJ c sets k (upd r n y) (n+1) by rw[aM.out,AJ h0]);subst h0
     gi_wp2_with fail
     refine⟨trivial,rfl,HL.out.LT ?_⟩;rintro e w2 ⟨rfl,zI⟩;have aD:=AB (KT.EF (T:=λb=>T b\/b=br) zI);have aH:=AB (a6.out.on (KT.EF (T:=T) zI));have aN:=AB (aG.out _ _ w2 aA.out λb hb=>zI.Ly.Lo b (aQ.out _ _ aA.out b hb));have b8:=aH.out.xw.1
     have HC:=AB (HIH.out (n+1) (upd r n y) _ w2 (by omega) aH.out (HK.out.trans (a8.out.trans aD.out)) aN.out (λi hi=>by unfold upd;rw[AE (by omega)];exact HZ.out i (by omega)) (by
      have h1:=HGP.out (EJ c sets k (upd r n y) (n+1)) (by rw[HD.out,aC.out];exact ea _);rw[<-HW.out] at h1;rw[Cy]
      exact((List.prefix_append_right_inj pre).2 h1).trans aV.out))
     have b9:IntKind.i64.wrap ((n:Int)+1)=(n:Int)+1:=by simp[IntKind.wrap,IntKind.min,IntKind.max,IntKind.signed,IntKind.bits];omega
     clear zI
     gi_wp2_with fail
     refine⟨trivial,rfl,HC.out.LT ?_⟩;rintro e w3 (⟨rfl,aY,hs3,zy⟩|⟨rfl,aZ,zy⟩)
     .have HJ4:=AB aY;have HS4:=AB hs3;have aO:=AB (a8.out.trans (aD.out.trans zy))
      gi_wp2
      go_roundw
      case rel =>
       exact⟨j+1,y,by omega,by go_num,aL,HS4.out,by rw[aU.out,HD.out,aC.out,<-Cy];exact HJ4.out,aO.out⟩
      case measure=>simp[Proofs.intOf];omega
     .have HQ:=AB aZ;have aO:=AB (a8.out.trans (aD.out.trans zy))
      gi_wp2
      go_ret;refine .inr ⟨rfl,?_,aO.out⟩;obtain⟨q,q1,q2⟩:=HQ.out;refine⟨(sets.LT j).S (gives c sets k r n)++q,?_,by rw[<-Cy];exact q2⟩;rw[HW.out];exact HGP.out q (by rw[HD.out,aC.out];exact q1)
    .have aC:=AB (show gives c sets k r n y=[] by rw[aM.out,AE h0])
     gi_wp2_with fail
     refine⟨trivial,rfl,HL.out.LT ?_⟩;rintro e w2 ⟨rfl,zI⟩;have aD:=AB (KT.EF (T:=λb=>T b\/b=br) zI);have aH:=AB (a6.out.on (KT.EF (T:=T) zI));have aN:=AB (aG.out _ _ w2 aA.out λb hb=>zI.Ly.Lo b (aQ.out _ _ aA.out b hb))
     gi_wp2
     refine⟨λ_ h=>(by cases h),?_⟩
     gi_wp2
     go_roundw
     case rel=>exact⟨j+1,y,by omega,by go_num,aL,aH.out,by rw[aU.out,HD.out,aC.out,Ct];exact aN.out,a8.out.trans aD.out⟩
     case measure=>simp[Proofs.intOf];omega
   .obtain⟨aX,hfn⟩:=a7.out.xr.1 n (by omega);have h0:c.LT 0:=Nat.two_pow_pos _
    have a6:Hid (Mj T K cb c sets nA hA nc hc sb sc bc by_ br bw l r (wr.LE ⟨br,n,Y⟩ (.int .u8 0))):=AB (by
     have:=a7.out.SS (n:=n) (x:=0) (by omega) h0;rw[oA] at this;have e:upd r n 0=r:=by have:=ma r n;rwa [HZ.out n (AD _)] at this
     rwa [e] at this)
    have a8:Hid (KT (λb=>T b\/b=br) W (wr.LE ⟨br,n,Y⟩ (.int .u8 0))):=AB (aT.out.trans (KT.LE wr (p:=⟨br,n,Y⟩) (.inr rfl) _));have aA:Hid (J (pre++EJ c sets (k+1) r n) (wr.LE ⟨br,n,Y⟩ (.int .u8 0))):=AB (aG.out _ _ _ (by have:=aS.out;rwa [Bj (by omega),<-HW.out] at this) λb hb=>AP _ _ _ _ λe=>aK (by have e':b=br:=e;rw[<-e'];exact hb))
    gi_wp2
    go_ret;exact .inl ⟨rfl,aA.out,a6.out,a8.out⟩
end
attribute [local go_sem] Oper.semAt_some
def me (cb n:Nat)(r:EK)(w:X):S DP 96 #[.S (Z ⟨cb,0,Y⟩),ET r,O M n] w λe w' =>
  e=.L (.func (.func 136) #[] #[.S (Z ⟨w.heap.size,0,Y⟩),.S (Z ⟨w.heap.size+1,0,Y⟩),.S (Z ⟨w.heap.size+2,0,Y⟩)]) /\
   w'=((w.Li (H #[.S (Z ⟨cb,0,Y⟩)] 112)).Li (H #[.int .u8 (r 0),.int .u8 (r 1),.int .u8 (r 2),.int .u8 (r 3),.int .u8 (r 4)] 115)).Li (H #[O M n] 3):=by
 unfold ET;go_enter Sq.func96,Tryz.ntmps96;go_wp2;go_ret;exact⟨rfl,rfl⟩
section
variable {T K:Nat->Prop} {cb:Nat} {c:Eb} {sets:List Nat} {nA hA:Option bh} {nc hc sb sc bc br bn l:Nat} {J Jx:List EK->X->Prop} {W0:X}
structure Mq (T K:Nat->Prop)(cb:Nat)(c:Eb)(sets:List Nat)(nA hA:Option bh)(nc hc sb sc bc br bn:Nat)(r:EK)(n:Nat)(w:X):Prop where
 F5:FZ w K cb c sets nA hA nc hc sb sc
 kt:∀b,K b->¬T b
 xc:w.L ⟨bc,0,Y⟩=Z (.S (Z ⟨cb,0,Y⟩))/\¬T bc/\bc<w.heap.size
 xr:(∀i,i<5->w.L ⟨br,i,Y⟩=Z (.int .u8 (r i))/\w.H ⟨br,i,Y⟩=bA)/\¬T br/\br<w.heap.size
 xn:w.L ⟨bn,0,Y⟩=Z (O M n)/\bn<w.heap.size
 ne:bc≠br/\∀b,K b->b≠br
 rs:∀i,c.LT (r i)
def uX (aD:c.Ok)(aA:∀x∈sets,c.LT x)(aF:sets.L<=16)(aB:∀pre w w',J pre w->(∀b,T b->w'.heap[b]?=w.heap[b]?)->J pre w')
  (a6:∀pre w,J pre w->∀b,T b->b<w.heap.size)
  {k n:Nat} {r:EK} {W:X} (hY:∀pre ρ W,pre++[ρ] <+: EJ c sets k r n->KT (λb=>T b\/b=br) W0 W->J pre W->YieldAt bk 0 DP l #[ET ρ] W (Pt T J Jx pre ρ W))
  (hn:n+k=c.DW.L) (hs:Mq T K cb c sets nA hA nc hc sb sc bc br bn r n W) (hk:KT (λb=>T b\/b=br) W0 W) (hj:J [] W) (hz:∀i,n<=i->r i=0) :
  CallsIn bk 0 DP 136 #[.func (.yield l) #[] #[],.S (Z ⟨bc,0,Y⟩),.S (Z ⟨br,0,Y⟩),.S (Z ⟨bn,0,Y⟩)] W
   λe W'=>e=.L (.tuple #[])/\KT (λb=>T b\/b=br) W W'/\(J (EJ c sets k r n) W'\/∃q,q <+: EJ c sets k r n/\Jx q W'):=by
 obtain⟨W1,zu⟩:∃W1:X,W1=(W.Li (H #[.func (.yield l) #[] #[]] 234)).Li (H #[.func (.func 137) #[] #[.S (Z ⟨bc,0,Y⟩),.S (Z ⟨W.heap.size,0,Y⟩),.S (Z ⟨br,0,Y⟩),.S (Z ⟨W.heap.size+1,0,Y⟩)]] 235):=⟨_,rfl⟩;have g1:Gr W W1:=by rw[zu];exact((Gr.refl W).Li _).Li _
 have a7:=a6 _ _ hj;have zE:W1.heap.size=W.heap.size+2:=by rw[zu];simp
 have aG:Hid (Mj T K cb c sets nA hA nc hc sb sc bc W.heap.size br (W.heap.size+1) l r W1):=AB (by
  have k1:KT T W W1:=KT.EF g1
  refine⟨hs.F5.keep k1.size λb o hb=>k1.cell (p:=⟨b,o,Y⟩) (hs.F5.lt b hb) (hs.kt b hb),hs.kt,⟨(k1.cell hs.xc.2.2 hs.xc.2.1).trans hs.xc.1,hs.xc.2.1,by have:=hs.xc.2.2;omega⟩,⟨?_,λh=>by have:=a7 _ h;omega,by omega⟩,⟨?_,λh=>by have:=a7 _ h;omega,by omega⟩,
   ⟨λi hi=>⟨(k1.cell (p:=⟨br,i,Y⟩) hs.xr.2.2 hs.xr.2.1).trans (hs.xr.1 i hi).1,(k1.frozen (p:=⟨br,i,Y⟩) hs.xr.2.2 hs.xr.2.1).trans (hs.xr.1 i hi).2⟩,hs.xr.2.1,by have:=hs.xr.2.2;omega⟩,⟨hs.ne.1,?_,?_,hs.ne.2⟩,hs.rs⟩
  .rw[zu,A7 _ _ _ (by simp),AF _ _ _ _ rfl];rfl
  .rw[zu,AF _ _ _ _ (by simp)];rfl
  .have:=hs.xr.2.2;omega
  .have:=hs.xr.2.2;omega)
 have aH:Hid (J [] W1):=AB (aB _ _ _ hj λb hb=>g1.Ly.Lo b (a7 b hb));have HWT:=AB (xP (by_:=W.heap.size) (bw:=W.heap.size+1) aD aA aF aB a6 hs.xr.2.1 hY k n r [] W1 hn aG.out (hk.trans (KT.EF g1)) aH.out hz (by simp));have hxn:=hs.xn.1;have hbn:=hs.xn.2;have aC:=AB g1;have aM:∀(fn:Fn) (first cap:Array bb) (w:X),(Instr.makeFunc fn first cap).run DP w=.ok (.func fn first cap) w:=λ_ _ _ _=>rfl
 rw[zu] at HWT;refine dn Sq.func136 rfl trivial ?_ rfl;simp only[Tryz.ntmps136,AR,AQ,AT,Nat.reduceAdd,Nat.reduceSub,Bz,BA,BQ,BI,BZ,BN]
 gi_wp2_with fail
 refine⟨trivial,rfl,HWT.out.LT ?_⟩;rw[<-zu];rintro e w3 (⟨rfl,aI,_,zy⟩|⟨rfl,aJ,zy⟩)
 .have aK:=AB aI;have a8:=AB ((KT.EF aC.out).trans zy)
  gi_wp2
  go_end0;exact⟨rfl,a8.out,.inl (by simpa using aK.out)⟩
 .have aL:=AB aJ;have a8:=AB ((KT.EF aC.out).trans zy)
  gi_wp2
  go_end0;refine⟨rfl,a8.out,.inr ?_⟩;obtain⟨q,h1,h2⟩:=aL.out;exact⟨q,h1,by simpa using h2⟩
end
def NQ (T0:Nat->Prop)(I:List EK->X->Prop)(Ix:dr->List EK->X->Prop)(xs:List EK)(W:X):Exit->Act->X->Prop
 |.normal,_,W'=>KT T0 W W'/\I xs W'
 |.ret,_,W'=>KT T0 W W'/\Ix .ret xs W'
 |.exit id,_,W'=>KT T0 W W'/\Ix (.exit id) xs W'
 |.goto t,_,W'=>KT T0 W W'/\Ix (.goto t) xs W'
 |.panic _,_,_=>False
 |.outgrown,_,_=>False
def _root_.Go.Sq.KT.Li {T T':Nat->Prop}{w w':X}(h:KT T w w')(hT:∀b,b<w.heap.size->T b->T' b):KT T' w w':=⟨h.os,h.tape,h.output,h.drawn,h.size,λb hb hn=>h.Lo b hb λt=>hn (hT b hb t)⟩
def dV {fn:Func}{tmps:Array bb}{R:fq->X->Prop}{D:Nat}{W:X}{v:bb}(hd:W.heap[D]?=Z (.L (Z [])))(hr:(results fn tmps).run DP (W.SL D (.L Y))=.ok v (W.SL D (.L Y)))(hR:R (.L v) (W.SL D (.L Y))) :
  LeavesInM bk 0 DP fn tmps R [{ target:=.collected D,args:=#[] }] .returning W:=⟨by simp,.inl ⟨D,_,rfl,run_takeDeferred hd,v,hr,hR⟩⟩
def cy {W:X}{D:Nat}{o:Obj}{p:bh}(h:p.Lo≠D):(W.SL D o).L p=W.L p:=AY (E h)
def one_cell {W:X}{b:Nat}{v:bb}{t:cw}(h:W.heap[b]?=Z (H #[v] t (0,0))):W.L ⟨b,0,Y⟩=Z v/\W.H ⟨b,0,Y⟩=bA/\b<W.heap.size:=by
 refine⟨?_,?_,(AC.1 h).1⟩
 .unfold fo;simp only[h];rfl
 .unfold eG;simp only[h];rfl
def one_set {W:X}{b:Nat}{v u:bb}{t:cw}(h:W.heap[b]?=Z (H #[v] t (0,0))):(W.LE ⟨b,0,Y⟩ u).heap[b]?=Z (H #[u] t (0,0)):=by
 unfold bW;simp only[Bv,if_true,h]
 rfl
def _root_.Go.Sq.KT.gr {T:Nat->Prop}{w w1 W:X}(h:Gr w w1)(hk:KT T w1 W)(hT:∀b,T b->w.heap.size<=b):Gr w W :=
 ⟨⟨hk.os.trans h.Ly.os,hk.tape.trans h.Ly.tape,hk.output.trans h.Ly.output,AX h.size hk.size,λb hb=>(hk.Lo b (AI hb h.size) λt=>by have:=hT b t;omega).trans (h.Ly.Lo b hb)⟩,AX h.drawn hk.drawn⟩
def _root_.Go.Sq.Gr.SL {w W:X}(h:Gr w W){D:Nat}(hD:w.heap.size<=D)(o:Obj):Gr w (W.SL D o) :=
 ⟨⟨h.Ly.os,h.Ly.tape,h.Ly.output,by simpa [cA] using h.size,λb hb=>(E (by omega)).trans (h.Ly.Lo b hb)⟩,h.drawn⟩
def qU {T0 K:Nat->Prop}{cb:Nat}{c:Eb}{sets:List Nat}{nA hA:Option bh}{nc hc sb sc bc br bn k n:Nat}{r:EK}{g:ek}{ps:Array Tmp}{assign body:dr}{Q:Exit->Act->X->Prop}{a:Act}{w:X}
  (aP:c.Ok) (aK:∀x∈sets,c.LT x) (aQ:sets.L<=16) (hg:a.eval g=.func (.func 136) #[] #[.S (Z ⟨bc,0,Y⟩),.S (Z ⟨br,0,Y⟩),.S (Z ⟨bn,0,Y⟩)])
  (hn:n+k=c.DW.L) (hz:∀i,n<=i->r i=0) (hs:Mq T0 K cb c sets nA hA nc hc sb sc bc br bn r n w) (a7:∀b,T0 b->b<w.heap.size) (aR:ps.size=1)
  (I:List EK->X->Prop) (Ix:dr->List EK->X->Prop) (hI:∀pre W W',I pre W->(∀b,T0 b->W'.heap[b]?=W.heap[b]?)->I pre W') (aF:∀c pre W W',Ix c pre W->(∀b,T0 b->W'.heap[b]?=W.heap[b]?)->Ix c pre W') (h0:I [] w)
  (a₁:EK->Act)
  (aG:∀(l:Nat) (ρ:EK) (W:X) (K:Act->X->Prop),K (a₁ ρ) W->assign.wpIn (Fence.wide.inRound l) 0 DP (Exit.then K (λ_ _ _=>False)) { tmps:=(ps.zip #[ET ρ]).foldl (λt (p,v)=>t.L p v) a.tmps,defers:=[] } W)
  (aL:∀(l:Nat) (pre:List EK) (ρ:EK) (W:X),pre++[ρ] <+: EJ c sets k r n->KT (λb=>T0 b\/b=br) w W->I pre W->body.wpIn (Fence.wide.inRound l) 0 DP (NQ T0 I Ix (pre++[ρ]) W) (a₁ ρ) W)
  (hdone:∀(D:Nat) (W:X),w.heap.size<=D->KT (λb=>T0 b\/b=br) w W->I (EJ c sets k r n) W->W.heap[D]?=Z (.L (Z []))->Q .normal { a with defers:={ target:=.collected D,args:=#[] }::a.defers } W)
  (aM:∀(D:Nat) (j:dr) (q:List EK) (W:X),w.heap.size<=D->KT (λb=>T0 b\/b=br) w W->q <+: EJ c sets k r n->Ix j q W->W.heap[D]?=Z (.L (Z []))->j.wpIn bk 0 DP Q { a with defers:={ target:=.collected D,args:=#[] }::a.defers } W) :
  (cE g ps assign body).wpIn bk 0 DP Q a w:=by
 refine ew ?_;intro fn hfn;have aH:∀b,K b->b<w.heap.size:=hs.F5.lt;obtain⟨rec,a6⟩:∃rec:LoopState->Option dr->Loop,rec=λst pe=>{ state:=st,pending:=pe,fn,tmps:=a.tmps,params:=ps,assign,body,defers:=w.heap.size }:=⟨_,rfl⟩;obtain⟨W1,zu⟩:∃W1,(w.Li (.L (Z []))).Li (.loop (rec .ready Y))=W1:=⟨_,rfl⟩;have aS:W1.heap[w.heap.size+1]?=Z (.loop (rec .ready Y)):=by
  rw[<-zu];have:=bo (w.Li (.L (Z []))) (.loop (rec .ready Y));rwa [CU] at this
 have aT:W1.heap[w.heap.size]?=Z (.L (Z [])):=by
  rw[<-zu];exact(Cp _ _ _ (by simp)).trans (bo w _)
 have zJ:Gr w W1:=by rw[<-zu];exact((Gr.refl w).Li _).Li _
 have aU:I [] W1:=hI _ _ _ h0 λb hb=>zJ.Ly.Lo b (a7 b hb);have zE:W1.heap.size=w.heap.size+2:=by rw[<-zu];simp
 refine⟨w.heap.size+1,[{ target:=.collected w.heap.size,args:=#[] }],W1,{ target:=.fn (.func 136) #[.S (Z ⟨bc,0,Y⟩),.S (Z ⟨br,0,Y⟩),.S (Z ⟨bn,0,Y⟩)],args:=#[.func (.yield (w.heap.size+1)) #[] #[]] },W1,136,
  #[.func (.yield (w.heap.size+1)) #[] #[]]++#[.S (Z ⟨bc,0,Y⟩),.S (Z ⟨br,0,Y⟩),.S (Z ⟨bn,0,Y⟩)],W1,?_,?_,?_,?_,λh=>(by cases h),?_⟩
 .rw[<-zu,a6];exact df _ _ _ _ _
 .simp only[resolve,hg];simp[go_sem]
 .intro f' _;trivial
 .simp[invoke,go_sem]
 .obtain⟨T,hT⟩:∃T:Nat->Prop,T=λb=>T0 b\/b=w.heap.size\/b=w.heap.size+1:=⟨_,rfl⟩;have aI:∀b,T0 b->T b:=λb hb=>by rw[hT];exact .inl hb
  have aV:T w.heap.size:=by rw[hT];exact .inr (.inl rfl)
  have aJ:T (w.heap.size+1):=by rw[hT];exact .inr (.inr rfl)
  have a8:∀b,b<w.heap.size->T b->T0 b:=λb hb h=>by
   rw[hT] at h;obtain h|h|h:=h
   .exact h
   .omega
   .omega
  have k1:KT T0 w W1:=KT.EF zJ;have hs1:Mq T K cb c sets nA hA nc hc sb sc bc br bn r n W1:=by
   refine⟨hs.F5.keep zJ.size λb o hb=>zJ.cell (aH b hb),λb hb h=>hs.kt b hb (a8 b (aH b hb) h),⟨(zJ.cell hs.xc.2.2).trans hs.xc.1,λh=>hs.xc.2.1 (a8 _ hs.xc.2.2 h),by have:=hs.xc.2.2;omega⟩,⟨λi hi=>⟨(zJ.cell (p:=⟨br,i,Y⟩) hs.xr.2.2).trans (hs.xr.1 i hi).1,(zJ.frozen (p:=⟨br,i,Y⟩) hs.xr.2.2).trans (hs.xr.1 i hi).2⟩,λh=>hs.xr.2.1 (a8 _ hs.xr.2.2 h),by have:=hs.xr.2.2;omega⟩,
    ⟨(zJ.cell hs.xn.2).trans hs.xn.1,by have:=hs.xn.2;omega⟩,hs.ne,hs.rs⟩
  have aD:∀ {W:X},KT (λb=>T b\/b=br) W1 W->KT (λb=>T0 b\/b=br) w W:=λhk =>
   KT.Li (T:=λb=>T b\/b=br) ((KT.EF zJ).trans hk) λb hb h=>h.elim (λh=>.inl (a8 b hb h)) .inr
  have b5:=hs.xr.2.2;have hput:∀(W:X) (o:Obj),KT T W (W.SL (w.heap.size+1) o):=λW o=>KT.SL W aJ o;have hq:=uX (T:=T) (l:=w.heap.size+1) (W0:=W1)
   (J:=λpre W=>I pre W/\W.heap[w.heap.size+1]?=Z (.loop (rec .ready Y))/\W.heap[w.heap.size]?=Z (.L (Z [])))
   (Jx:=λpre W=>∃j,Ix j pre W/\W.heap[w.heap.size+1]?=Z (.loop (rec .done (Z j)))/\W.heap[w.heap.size]?=Z (.L (Z [])))
   aP aK aQ (λpre W W' h hk=>⟨hI _ _ _ h.1 λb hb=>hk b (aI b hb),(hk _ aJ).trans h.2.1,(hk _ aV).trans h.2.2⟩)
   (λpre W h b hb=>by
    have h1:=(AC.1 h.2.1).1;rw[hT] at hb;obtain hb|hb|hb:=hb
    .have:=a7 b hb;omega
    .omega
    .omega)
   ?_ hn hs1 (KT.refl _ _) ⟨aU,aS,aT⟩ hz
  .refine hq.LT ?_;rintro e W2 ⟨rfl,zo,(⟨hi,hl,hd⟩|⟨q,aO,j,hi,hl,hd⟩)⟩
   .refine⟨Y,_,by have:=cF (P:=DP) hl (by rw[a6];simp);rw[a6] at this;exact this,hdone _ _ (AD _) (aD (zo.trans ((hput _ _).LT λb h=>.inl h))) (hI _ _ _ hi λb hb=>E (by have:=a7 b hb;omega)) ((E (by omega)).trans hd)⟩
   .exact⟨Z j,_,by have:=cF (P:=DP) hl (by rw[a6];simp);rw[a6] at this;exact this,aM _ j q _ (AD _) (aD (zo.trans ((hput _ _).LT λb h=>.inl h))) aO (aF _ _ _ _ hi λb hb=>E (by have:=a7 b hb;omega)) ((E (by omega)).trans hd)⟩
  .rintro pre ρ W hpl aW ⟨hi,hl,hd⟩;have zY:w.heap.size+1<W.heap.size:=(AC.1 hl).1;have hy:=run_yield (P:=DP) (args:=#[ET ρ]) hl (by rw[a6];simp[aR]);rw[a6] at hy;refine⟨fn,_,assign,body,hy,ed hfn (aG _ ρ W _ ⟨_,ez hl (by rw[a6]),?_⟩)⟩;obtain⟨Wb,aC⟩:∃Wb,Wb=W.SL (w.heap.size+1) (.loop { rec .ready Y with state:=.busy }):=⟨_,rfl⟩;rw[<-aC];have kb:KT T W Wb:=by rw[aC];exact hput _ _
   have zC:Wb.heap[w.heap.size+1]?=Z (.loop { rec .ready Y with state:=.busy }):=by rw[aC];exact bs zY
   have aX:Wb.heap[w.heap.size]?=Z (.L (Z [])):=by rw[aC];exact(E (by omega)).trans hd
   have aY:I pre Wb:=hI _ _ _ hi λb hb=>by rw[aC];exact E (by have:=a7 b hb;omega)
   have hzb:Wb.heap.size=W.heap.size:=by rw[aC];simp[cA]
   refine eH (aL _ pre ρ Wb hpl (aD (aW.trans (kb.LT λb h=>.inl h))) aY) ?_;have fin : ∀ (jump : Option dr) (W3 : X), KT T0 Wb W3 ->
     (eA (w.heap.size+1) jump).run DP W3=.ok (.bool jump.L) (W3.SL (w.heap.size+1) (.loop (rec (if jump.L then .ready else .done) jump))) /\
     (W3.SL (w.heap.size+1) (.loop (rec (if jump.L then .ready else .done) jump))).heap[w.heap.size+1]?=Z (.loop (rec (if jump.L then .ready else .done) jump)) /\
     (W3.SL (w.heap.size+1) (.loop (rec (if jump.L then .ready else .done) jump))).heap[w.heap.size]?=Z (.L (Z []))/\KT T W (W3.SL (w.heap.size+1) (.loop (rec (if jump.L then .ready else .done) jump))) /\
     ∀b,T0 b->(W3.SL (w.heap.size+1) (.loop (rec (if jump.L then .ready else .done) jump))).heap[b]?=W3.heap[b]?:=λjump W3 zy=>by
    have aN:W3.heap[w.heap.size+1]?=Z (.loop { rec .ready Y with state:=.busy }):=(zy.Lo _ (by omega) λh=>by have:=a7 _ h;omega).trans zC;have aZ:W3.heap[w.heap.size]?=Z (.L (Z [])):=(zy.Lo _ (by omega) λh=>by have:=a7 _ h;omega).trans aX;have:=run_endRound (P:=DP) jump aN;rw[a6] at this ⊢;exact⟨this,bs (AC.1 aN).1,(E (by omega)).trans aZ,(kb.trans (zy.LT aI)).trans (KT.SL W3 aJ _),λb hb=>E (by have:=a7 b hb;omega)⟩
   rintro e a3 W3 hp;cases e with
   |normal =>
    obtain⟨zy,aA⟩:=hp;obtain⟨hr,zr,aB,hk4,hb4⟩:=fin Y W3 zy;exact⟨_,_,hr,.inl ⟨rfl,⟨hI _ _ _ aA hb4,zr,aB⟩,hk4⟩⟩
   |ret =>
    obtain⟨zy,aA⟩:=hp;obtain⟨hr,zr,aB,hk4,hb4⟩:=fin (Z .ret) W3 zy;exact⟨_,_,hr,.inr ⟨rfl,⟨.ret,aF _ _ _ _ aA hb4,zr,aB⟩,hk4⟩⟩
   |exit id =>
    obtain⟨zy,aA⟩:=hp;obtain⟨hr,zr,aB,hk4,hb4⟩:=fin (Z (.exit id)) W3 zy;exact⟨_,_,hr,.inr ⟨rfl,⟨.exit id,aF _ _ _ _ aA hb4,zr,aB⟩,hk4⟩⟩
   |goto t =>
    obtain⟨zy,aA⟩:=hp;obtain⟨hr,zr,aB,hk4,hb4⟩:=fin (Z (.goto t)) W3 zy;exact⟨_,_,hr,.inr ⟨rfl,⟨.goto t,aF _ _ _ _ aA hb4,zr,aB⟩,hk4⟩⟩
   |panic ch=>exact hp.elim
   |outgrown=>exact hp.elim
def px {T0 K:Nat->Prop}{cb:Nat}{c:Eb}{sets:List Nat}{nA hA:Option bh}{nc hc sb sc bc br bn k n:Nat}{r:EK}{g:ek}{p:Tmp}{body:dr}{Q:Exit->Act->X->Prop}{a:Act}{w:X}
  (aA:c.Ok) (a6:∀x∈sets,c.LT x) (aB:sets.L<=16) (hg:a.eval g=.func (.func 136) #[] #[.S (Z ⟨bc,0,Y⟩),.S (Z ⟨br,0,Y⟩),.S (Z ⟨bn,0,Y⟩)])
  (hn:n+k=c.DW.L) (hz:∀i,n<=i->r i=0) (hs:Mq T0 K cb c sets nA hA nc hc sb sc bc br bn r n w) (aC:∀b,T0 b->b<w.heap.size)
  (I:List EK->X->Prop) (Ix:dr->List EK->X->Prop) (hI:∀pre W W',I pre W->(∀b,T0 b->W'.heap[b]?=W.heap[b]?)->I pre W') (aD:∀c pre W W',Ix c pre W->(∀b,T0 b->W'.heap[b]?=W.heap[b]?)->Ix c pre W') (h0:I [] w)
  (a7:∀(l:Nat) (pre:List EK) (ρ:EK) (W:X),KT (λb=>T0 b\/b=br) w W->I pre W->body.wpIn (Fence.wide.inRound l) 0 DP (NQ T0 I Ix (pre++[ρ]) W) { tmps:=a.tmps.L p (ET ρ),defers:=[] } W)
  (hdone:∀(D:Nat) (W:X),w.heap.size<=D->KT (λb=>T0 b\/b=br) w W->I (EJ c sets k r n) W->W.heap[D]?=Z (.L (Z []))->Q .normal { a with defers:={ target:=.collected D,args:=#[] }::a.defers } W)
  (a8:∀(D:Nat) (j:dr) (q:List EK) (W:X),w.heap.size<=D->KT (λb=>T0 b\/b=br) w W->q <+: EJ c sets k r n->Ix j q W->W.heap[D]?=Z (.L (Z []))->j.wpIn bk 0 DP Q { a with defers:={ target:=.collected D,args:=#[] }::a.defers } W) :
  (cE g #[p] .skip body).wpIn bk 0 DP Q a w:=by
 exact qU (ps:=#[p]) (assign:=.skip) aA a6 aB hg hn hz hs aC rfl I Ix hI aD h0 (λρ=>{ tmps:=a.tmps.L p (ET ρ),defers:=[] }) (λl ρ W K hK=>wpIn_skip (by show K _ W;simpa using hK)) (λl pre ρ W _=>a7 l pre ρ W) hdone a8
def kQ {T0 K:Nat->Prop}{cb:Nat}{c:Eb}{sets:List Nat}{nA hA:Option bh}{nc hc sb sc bc br bn k n:Nat}{r:EK}{g:ek}{ps:Array Tmp}{assign body:dr}{Q:Exit->Act->X->Prop}{a:Act}{w:X}
  (aS:c.Ok) (aL:∀x∈sets,c.LT x) (aT:sets.L<=16) (hg:a.eval g=.func (.func 136) #[] #[.S (Z ⟨bc,0,Y⟩),.S (Z ⟨br,0,Y⟩),.S (Z ⟨bn,0,Y⟩)])
  (hn:n+k=c.DW.L) (hz:∀i,n<=i->r i=0) (hs:Mq T0 K cb c sets nA hA nc hc sb sc bc br bn r n w) (a7:∀b,T0 b->b<w.heap.size) (aU:ps.size=1)
  (I:List EK->X->Prop) (Ix:dr->List EK->X->Prop) (hI:∀pre W W',I pre W->(∀b,T0 b->W'.heap[b]?=W.heap[b]?)->I pre W') (aG:∀c pre W W',Ix c pre W->(∀b,T0 b->W'.heap[b]?=W.heap[b]?)->Ix c pre W') (h0:I [] w)
  (aH:∀(l:Nat) (pre:List EK) (ρ:EK) (W:X),pre++[ρ] <+: EJ c sets k r n->KT (λb=>T0 b\/b=br) w W->I pre W->w.heap.size<l->l<W.heap.size ->
   assign.wpIn (Fence.wide.inRound l) 0 DP (Exit.then (λa₁ w₁=>KT T0 W w₁/\∀o,body.wpIn (Fence.wide.inRound l) 0 DP (NQ T0 I Ix (pre++[ρ]) (w₁.SL l o)) a₁ (w₁.SL l o)) (λ_ _ _=>False)) { tmps:=(ps.zip #[ET ρ]).foldl (λt (p,v)=>t.L p v) a.tmps,defers:=[] } W)
  (hdone:∀(D:Nat) (W:X),w.heap.size<=D->KT (λb=>T0 b\/b=br) w W->I (EJ c sets k r n) W->W.heap[D]?=Z (.L (Z []))->Q .normal { a with defers:={ target:=.collected D,args:=#[] }::a.defers } W)
  (aM:∀(D:Nat) (j:dr) (q:List EK) (W:X),w.heap.size<=D->KT (λb=>T0 b\/b=br) w W->q <+: EJ c sets k r n->Ix j q W->W.heap[D]?=Z (.L (Z []))->j.wpIn bk 0 DP Q { a with defers:={ target:=.collected D,args:=#[] }::a.defers } W) :
  (cE g ps assign body).wpIn bk 0 DP Q a w:=by
 refine ew ?_;intro fn hfn;have aI:∀b,K b->b<w.heap.size:=hs.F5.lt;obtain⟨rec,a6⟩:∃rec:LoopState->Option dr->Loop,rec=λst pe=>{ state:=st,pending:=pe,fn,tmps:=a.tmps,params:=ps,assign,body,defers:=w.heap.size }:=⟨_,rfl⟩;obtain⟨W1,zu⟩:∃W1,(w.Li (.L (Z []))).Li (.loop (rec .ready Y))=W1:=⟨_,rfl⟩;have aV:W1.heap[w.heap.size+1]?=Z (.loop (rec .ready Y)):=by
  rw[<-zu];have:=bo (w.Li (.L (Z []))) (.loop (rec .ready Y));rwa [CU] at this
 have aW:W1.heap[w.heap.size]?=Z (.L (Z [])):=by
  rw[<-zu];exact(Cp _ _ _ (by simp)).trans (bo w _)
 have zJ:Gr w W1:=by rw[<-zu];exact((Gr.refl w).Li _).Li _
 have aX:I [] W1:=hI _ _ _ h0 λb hb=>zJ.Ly.Lo b (a7 b hb);have zE:W1.heap.size=w.heap.size+2:=by rw[<-zu];simp
 refine⟨w.heap.size+1,[{ target:=.collected w.heap.size,args:=#[] }],W1,{ target:=.fn (.func 136) #[.S (Z ⟨bc,0,Y⟩),.S (Z ⟨br,0,Y⟩),.S (Z ⟨bn,0,Y⟩)],args:=#[.func (.yield (w.heap.size+1)) #[] #[]] },W1,136,
  #[.func (.yield (w.heap.size+1)) #[] #[]]++#[.S (Z ⟨bc,0,Y⟩),.S (Z ⟨br,0,Y⟩),.S (Z ⟨bn,0,Y⟩)],W1,?_,?_,?_,?_,λh=>(by cases h),?_⟩
 .rw[<-zu,a6];exact df _ _ _ _ _
 .simp only[resolve,hg];simp[go_sem]
 .intro f' _;trivial
 .simp[invoke,go_sem]
 .obtain⟨T,hT⟩:∃T:Nat->Prop,T=λb=>T0 b\/b=w.heap.size\/b=w.heap.size+1:=⟨_,rfl⟩;have aD:∀b,T0 b->T b:=λb hb=>by rw[hT];exact .inl hb
  have aY:T w.heap.size:=by rw[hT];exact .inr (.inl rfl)
  have aJ:T (w.heap.size+1):=by rw[hT];exact .inr (.inr rfl)
  have a8:∀b,b<w.heap.size->T b->T0 b:=λb hb h=>by
   rw[hT] at h;obtain h|h|h:=h
   .exact h
   .omega
   .omega
  have k1:KT T0 w W1:=KT.EF zJ;have hs1:Mq T K cb c sets nA hA nc hc sb sc bc br bn r n W1:=by
   refine⟨hs.F5.keep zJ.size λb o hb=>zJ.cell (aI b hb),λb hb h=>hs.kt b hb (a8 b (aI b hb) h),⟨(zJ.cell hs.xc.2.2).trans hs.xc.1,λh=>hs.xc.2.1 (a8 _ hs.xc.2.2 h),by have:=hs.xc.2.2;omega⟩,⟨λi hi=>⟨(zJ.cell (p:=⟨br,i,Y⟩) hs.xr.2.2).trans (hs.xr.1 i hi).1,(zJ.frozen (p:=⟨br,i,Y⟩) hs.xr.2.2).trans (hs.xr.1 i hi).2⟩,λh=>hs.xr.2.1 (a8 _ hs.xr.2.2 h),by have:=hs.xr.2.2;omega⟩,
    ⟨(zJ.cell hs.xn.2).trans hs.xn.1,by have:=hs.xn.2;omega⟩,hs.ne,hs.rs⟩
  have aF:∀ {W:X},KT (λb=>T b\/b=br) W1 W->KT (λb=>T0 b\/b=br) w W:=λhk =>
   KT.Li (T:=λb=>T b\/b=br) ((KT.EF zJ).trans hk) λb hb h=>h.elim (λh=>.inl (a8 b hb h)) .inr
  have b8:=hs.xr.2.2;have hput:∀(W:X) (o:Obj),KT T W (W.SL (w.heap.size+1) o):=λW o=>KT.SL W aJ o;have hq:=uX (T:=T) (l:=w.heap.size+1) (W0:=W1)
   (J:=λpre W=>I pre W/\W.heap[w.heap.size+1]?=Z (.loop (rec .ready Y))/\W.heap[w.heap.size]?=Z (.L (Z [])))
   (Jx:=λpre W=>∃j,Ix j pre W/\W.heap[w.heap.size+1]?=Z (.loop (rec .done (Z j)))/\W.heap[w.heap.size]?=Z (.L (Z [])))
   aS aL aT (λpre W W' h hk=>⟨hI _ _ _ h.1 λb hb=>hk b (aD b hb),(hk _ aJ).trans h.2.1,(hk _ aY).trans h.2.2⟩)
   (λpre W h b hb=>by
    have h1:=(AC.1 h.2.1).1;rw[hT] at hb;obtain hb|hb|hb:=hb
    .have:=a7 b hb;omega
    .omega
    .omega)
   ?_ hn hs1 (KT.refl _ _) ⟨aX,aV,aW⟩ hz
  .refine hq.LT ?_;rintro e W2 ⟨rfl,zo,(⟨hi,hl,hd⟩|⟨q,aQ,j,hi,hl,hd⟩)⟩
   .refine⟨Y,_,by have:=cF (P:=DP) hl (by rw[a6];simp);rw[a6] at this;exact this,hdone _ _ (AD _) (aF (zo.trans ((hput _ _).LT λb h=>.inl h))) (hI _ _ _ hi λb hb=>E (by have:=a7 b hb;omega)) ((E (by omega)).trans hd)⟩
   .exact⟨Z j,_,by have:=cF (P:=DP) hl (by rw[a6];simp);rw[a6] at this;exact this,aM _ j q _ (AD _) (aF (zo.trans ((hput _ _).LT λb h=>.inl h))) aQ (aG _ _ _ _ hi λb hb=>E (by have:=a7 b hb;omega)) ((E (by omega)).trans hd)⟩
  .rintro pre ρ W hpl aZ ⟨hi,hl,hd⟩;have zY:w.heap.size+1<W.heap.size:=(AC.1 hl).1;have hy:=run_yield (P:=DP) (args:=#[ET ρ]) hl (by rw[a6];simp[aU]);rw[a6] at hy;refine⟨fn,_,assign,body,hy,ed hfn (eH (aH (w.heap.size+1) pre ρ W hpl (aF aZ) hi (by omega) zY) ?_)⟩;rintro e1 a1 w1 Ji;cases e1 with
   |panic ch=>exact Ji.elim
   |outgrown=>exact Ji.elim
   |ret=>exact Ji.elim
   |exit id=>exact Ji.elim
   |goto t=>exact Ji.elim
   |normal =>
   obtain⟨aK,hb1⟩:=Ji;have aN:w1.heap[w.heap.size+1]?=Z (.loop (rec .ready Y)):=(aK.Lo _ zY λh=>by have:=a7 _ h;omega).trans hl;have b5:w1.heap[w.heap.size]?=Z (.L (Z [])):=(aK.Lo _ (by omega) λh=>by have:=a7 _ h;omega).trans hd;have aR:w.heap.size+1<w1.heap.size:=(AC.1 aN).1;refine⟨_,ez aN (by rw[a6]),?_⟩;obtain⟨Wb,aC⟩:∃Wb,Wb=w1.SL (w.heap.size+1) (.loop { rec .ready Y with state:=.busy }):=⟨_,rfl⟩
   have aO:=hb1 (.loop { rec .ready Y with state:=.busy });rw[<-aC] at aO ⊢;have kb:KT T W Wb:=(aK.LT aD).trans (by rw[aC];exact hput _ _);have zC:Wb.heap[w.heap.size+1]?=Z (.loop { rec .ready Y with state:=.busy }):=by rw[aC];exact bs aR
   have b6:Wb.heap[w.heap.size]?=Z (.L (Z [])):=by rw[aC];exact(E (by omega)).trans b5
   have hzb:Wb.heap.size=w1.heap.size:=by rw[aC];simp[cA]
   refine eH aO ?_;have fin : ∀ (jump : Option dr) (W3 : X), KT T0 Wb W3 ->
     (eA (w.heap.size+1) jump).run DP W3=.ok (.bool jump.L) (W3.SL (w.heap.size+1) (.loop (rec (if jump.L then .ready else .done) jump))) /\
     (W3.SL (w.heap.size+1) (.loop (rec (if jump.L then .ready else .done) jump))).heap[w.heap.size+1]?=Z (.loop (rec (if jump.L then .ready else .done) jump)) /\
     (W3.SL (w.heap.size+1) (.loop (rec (if jump.L then .ready else .done) jump))).heap[w.heap.size]?=Z (.L (Z []))/\KT T W (W3.SL (w.heap.size+1) (.loop (rec (if jump.L then .ready else .done) jump))) /\
     ∀b,T0 b->(W3.SL (w.heap.size+1) (.loop (rec (if jump.L then .ready else .done) jump))).heap[b]?=W3.heap[b]?:=λjump W3 zy=>by
    have aP:W3.heap[w.heap.size+1]?=Z (.loop { rec .ready Y with state:=.busy }):=(zy.Lo _ (by omega) λh=>by have:=a7 _ h;omega).trans zC;have b7:W3.heap[w.heap.size]?=Z (.L (Z [])):=(zy.Lo _ (by omega) λh=>by have:=a7 _ h;omega).trans b6;have:=run_endRound (P:=DP) jump aP;rw[a6] at this ⊢;exact⟨this,bs (AC.1 aP).1,(E (by omega)).trans b7,(kb.trans (zy.LT aD)).trans (KT.SL W3 aJ _),λb hb=>E (by have:=a7 b hb;omega)⟩
   rintro e a3 W3 hp;cases e with
   |normal =>
    obtain⟨zy,aA⟩:=hp;obtain⟨hr,zr,aB,hk4,hb4⟩:=fin Y W3 zy;exact⟨_,_,hr,.inl ⟨rfl,⟨hI _ _ _ aA hb4,zr,aB⟩,hk4⟩⟩
   |ret =>
    obtain⟨zy,aA⟩:=hp;obtain⟨hr,zr,aB,hk4,hb4⟩:=fin (Z .ret) W3 zy;exact⟨_,_,hr,.inr ⟨rfl,⟨.ret,aG _ _ _ _ aA hb4,zr,aB⟩,hk4⟩⟩
   |exit id =>
    obtain⟨zy,aA⟩:=hp;obtain⟨hr,zr,aB,hk4,hb4⟩:=fin (Z (.exit id)) W3 zy;exact⟨_,_,hr,.inr ⟨rfl,⟨.exit id,aG _ _ _ _ aA hb4,zr,aB⟩,hk4⟩⟩
   |goto t =>
    obtain⟨zy,aA⟩:=hp;obtain⟨hr,zr,aB,hk4,hb4⟩:=fin (Z (.goto t)) W3 zy;exact⟨_,_,hr,.inr ⟨rfl,⟨.goto t,aG _ _ _ _ aA hb4,zr,aB⟩,hk4⟩⟩
   |panic ch=>exact hp.elim
   |outgrown=>exact hp.elim
def vz (nb:Nat)(x y s:Int)(w:X)(hc:w.heap[nb]?=Z (H #[O M x] 153 (0,0)))(hs:IntKind.i64.wrap (x+y)=s) :
  S DP 81 #[.S (Z ⟨nb,0,Y⟩),O M y] w λe w'=>e=.L (O M s)/\w'=w.LE ⟨nb,0,Y⟩ (O M s):=by
 obtain⟨h1,h2,h3⟩:=one_cell hc;have a6:=run_call_add (P:=DP) Sq.func126 (by kernel_rfl) (by kernel_rfl) (by kernel_rfl) M (by kernel_rfl) (y:=y) (s:=s) h1 h2 (by simp[go_sem];exact hs);go_enter Sq.func81,Tryz.ntmps81;go_wp2;go_ret;exact⟨rfl,rfl⟩
def td (nb:Nat)(x:Int)(w:X)(hc:w.heap[nb]?=Z (H #[O M x] 153 (0,0))) :
  S DP 82 #[.S (Z ⟨nb,0,Y⟩)] w λe w'=>e=.L (O M x)/\w'=w:=by
 obtain⟨h1,h2,h3⟩:=one_cell hc;have hload:=run_call_load (P:=DP) Sq.func127 (by kernel_rfl) (by kernel_rfl) (by kernel_rfl) M (by kernel_rfl) h1;go_enter Sq.func82,Tryz.ntmps82;go_wp2;go_ret;exact⟨rfl,rfl⟩
def te (nb:Nat)(x s:Int)(ρ:EK)(w:X)(hc:w.heap[nb]?=Z (H #[O M x] 153 (0,0)))(hs:IntKind.i64.wrap (x+1)=s) :
  S DP 80 #[ET ρ,.S (Z ⟨nb,0,Y⟩)] w λe w'=>e=.L (.tuple #[])/\KT (·=nb) w w'/\w'.heap[nb]?=Z (H #[O M s] 153 (0,0)):=by
 have zY:=(one_cell hc).2.2;obtain⟨W,hW⟩:∃W,W=w.Li (H #[.int .u8 (ρ 0),.int .u8 (ρ 1),.int .u8 (ρ 2),.int .u8 (ρ 3),.int .u8 (ρ 4)] 115):=⟨_,rfl⟩;have zt:W.heap[nb]?=Z (H #[O M x] 153 (0,0)):=by rw[hW,bD _ _ zY];exact hc
 have HK:=AB (show KT (·=nb) w W by rw[hW];exact KT.EF ((Gr.refl w).Li _));have a6:=AB (vz nb x 1 s W zt hs);have HW:=AB hW;have a7:=AB zt;unfold ET;go_enter Sq.func80,Tryz.ntmps80;go_wp2_with fail;rw[<-HW.out];refine a6.out.LT ?_;rintro e w' ⟨rfl,hw'⟩;have HW':=AB hw';clear hw';go_wp2;go_end0;refine⟨rfl,HK.out.trans (by rw[HW'.out];exact KT.LE (T:=(·=nb)) W (p:=⟨nb,0,Y⟩) rfl _),?_⟩
 rw[HW'.out];exact one_set a7.out
def ca {W:X}{b i:Nat}{a:Array bb}{u:bb}{t:cw}{f:Nat×Nat}(h:W.heap[b]?=Z (.cells a t f)):(W.LE ⟨b,i,Y⟩ u).heap[b]?=Z (.cells (a.L i u) t f):=by
 unfold bW;simp only[Bv,if_true,h]
 rfl
def Gu {W:X}{b:Nat}{a:Array bb}{t:cw}(h:W.heap[b]?=Z (.cells a t (0,0))):(∀i:Nat,W.L ⟨b,i,Y⟩=a[i]?)/\(∀i,W.H ⟨b,i,Y⟩=bA)/\b<W.heap.size:=by
 refine⟨λi=>?_,λi=>?_,(AC.1 h).1⟩
 .unfold fo;simp only[h];rfl
 .unfold eG;simp[h]
def IY (m:Int)(r:EK)(b:Bool):Array Value:=#[.int .i32 m,.int .u32 0,.int .u8 (r 0),.int .u8 (r 1),.int .u8 (r 2),.int .u8 (r 3),.int .u8 (r 4),.bool b]
def tf (kb:Nat)(ρ:EK)(f:bb)(w:X)(hk:w.heap[kb]?=Z (.cells (IY 0 (λ_=>0) bA) 168 (0,0))) :
  S DP 89 #[.S (Z ⟨kb,0,Y⟩),ET ρ,f] w λe w'=>e=.L (.tuple #[])/\KT (·=kb) w w'/\w'.heap[kb]?=Z (.cells (IY 0 ρ cK) 168 (0,0)):=by
 obtain⟨W,hW⟩:∃W,W=w.Li (H #[.int .u8 (ρ 0),.int .u8 (ρ 1),.int .u8 (ρ 2),.int .u8 (ρ 3),.int .u8 (ρ 4)] 115):=⟨_,rfl⟩;have zY:=(AC.1 hk).1;have zo:W.heap[kb]?=Z (.cells (IY 0 (λ_=>0) bA) 168 (0,0)):=by rw[hW,bD _ _ zY];exact hk
 obtain⟨hc,hf,_⟩:=Gu zo;have h0:=hc 0;have f0:=hf 0;have zy:=ca (i:=0) (u:=.int .i32 1) zo;have HK:=AB (show KT (·=kb) w W by rw[hW];exact KT.EF ((Gr.refl w).Li _));obtain⟨hc3,hf3,_⟩:=Gu zy;have g0:=hc3 0;have g2:=hc3 2;have g3:=hc3 3;have g4:=hc3 4;have g5:=hc3 5;have g6:=hc3 6;have g7:=hc3 7;have e0:=hf3 0;have e2:=hf3 2;have e3:=hf3 3;have e4:=hf3 4;have e5:=hf3 5;have e6:=hf3 6
 have e7:=hf3 7;simp[IY] at h0 g0 g2 g3 g4 g5 g6 g7;have hb:∀i,i<5->(W.LE ⟨kb,0,Y⟩ (.int .i32 1)).L ⟨w.heap.size,i,Y⟩=Z (.int .u8 (ρ i)):=λi hi=>by
  rw[AN _ _ _ _ (λe=>by have:kb=w.heap.size:=AZ Addr.block e;omega),hW,AF _ _ _ _ rfl]
  match i,hi with
  |0,_=>rfl
  |1,_=>rfl
  |2,_=>rfl
  |3,_=>rfl
  |4,_=>rfl
 have b0:=hb 0 (by omega);have b1:=hb 1 (by omega);have b2:=hb 2 (by omega);have b3:=hb 3 (by omega);have b4:=hb 4 (by omega);have HW:=AB hW;have a8:=AB zo;have a6:=AB zy;clear hc hf hc3 hf3 zy zo hk hW hb;unfold ET;go_enter_defers Sq.func89,Tryz.ntmps89;go_wp2_with (go_at_call 129;rw[<-HW.out];refine(Do ⟨kb,0,Y⟩ _ h0 f0).LT ?_;rintro e w' ⟨rfl,rfl⟩);go_quiet (fail);go_wp2;have HS:=AB (ca (i:=7) (u:=.bool cK) (ca (i:=6) (u:=.int .u8 (ρ 4)) (ca (i:=5) (u:=.int .u8 (ρ 3)) (ca (i:=4) (u:=.int .u8 (ρ 2)) (ca (i:=3) (u:=.int .u8 (ρ 1)) (ca (i:=2) (u:=.int .u8 (ρ 0)) (show((W.LE ⟨kb,0,Y⟩ (.int .i32 1)).drewN nq).heap[kb]?=_ from a6.out)))))))
 refine leaves_cons (f:=130) (args:=#[.S (Z ⟨kb,0,Y⟩)]) (by simp) (by simp[go_sem]) ?_;obtain⟨a7,hf4,_⟩:=Gu HS.out;refine(Dn ⟨kb,0,Y⟩ .returning _ (by rw[a7 0];rfl) (hf4 0)).LT ?_;rintro e u' w'' ⟨rfl,rfl,rfl⟩;have k:∀(w:X) (i:Nat) (v:bb),KT (·=kb) w (w.LE ⟨kb,i,Y⟩ v):=λw i v=>KT.LE (T:=(·=kb)) w (p:=⟨kb,i,Y⟩) rfl v;refine⟨.tuple #[],results_none rfl _ _ _,rfl,HK.out.trans ((k _ 0 _).trans ((KT.EF ((Gr.refl _).drewN nq)).trans ((k _ 2 _).trans ((k _ 3 _).trans ((k _ 4 _).trans ((k _ 5 _).trans ((k _ 6 _).trans ((k _ 7 _).trans (k _ 0 _))))))))),?_⟩
 exact ca (i:=0) (u:=.int .i32 0) HS.out
def vB (kb xb:Nat)(ρ:EK)(f:bb)(w:X)(hx:w.L ⟨xb,0,Y⟩=Z f)(hxl:xb<w.heap.size)(hk:w.heap[kb]?=Z (.cells (IY 0 (λ_=>0) bA) 168 (0,0))) :
  S DP 88 #[ET ρ,.S (Z ⟨kb,0,Y⟩),.S (Z ⟨xb,0,Y⟩)] w λe w'=>e=.L (.tuple #[])/\KT (·=kb) w w'/\w'.heap[kb]?=Z (.cells (IY 0 ρ cK) 168 (0,0)):=by
 obtain⟨W,hW⟩:∃W,W=w.Li (H #[.int .u8 (ρ 0),.int .u8 (ρ 1),.int .u8 (ρ 2),.int .u8 (ρ 3),.int .u8 (ρ 4)] 115):=⟨_,rfl⟩;have zY:=(AC.1 hk).1;have HO:=AB (tf kb ρ f W (by rw[hW,bD _ _ zY];exact hk));have HK:=AB (show KT (·=kb) w W by rw[hW];exact KT.EF ((Gr.refl w).Li _));have HW:=AB hW;unfold ET at HO ⊢;go_enter Sq.func88,Tryz.ntmps88;go_wp2_with fail;rw[<-HW.out];refine HO.out.LT ?_
 rintro e w' ⟨rfl,a6,zo⟩;have a7:=AB (HK.out.trans a6);have a8:=AB zo;go_wp2;go_end0;exact⟨rfl,a7.out,a8.out⟩
def ku {T0 K:Nat->Prop}{cb:Nat}{c:Eb}{sets:List Nat}{nA hA:Option bh}{nc hc sb sc n:Nat}{r:EK}{w:X}(hC:FZ w K cb c sets nA hA nc hc sb sc)(hT:∀b,T0 b->b<w.heap.size)(hK:∀b,K b->¬T0 b)(hr:∀i,c.LT (r i)) :
  Mq T0 K cb c sets nA hA nc hc sb sc w.heap.size (w.heap.size+1) (w.heap.size+2) r n
   (((w.Li (H #[.S (Z ⟨cb,0,Y⟩)] 112)).Li (H #[.int .u8 (r 0),.int .u8 (r 1),.int .u8 (r 2),.int .u8 (r 3),.int .u8 (r 4)] 115)).Li (H #[O M n] 3)):=by
 have hg:Gr w (((w.Li (H #[.S (Z ⟨cb,0,Y⟩)] 112)).Li (H #[.int .u8 (r 0),.int .u8 (r 1),.int .u8 (r 2),.int .u8 (r 3),.int .u8 (r 4)] 115)).Li (H #[O M n] 3)):=(((Gr.refl w).Li _).Li _).Li _;refine⟨hC.keep hg.size λb o hb=>hg.cell (hC.lt b hb),hK,⟨?_,λh=>by have:=hT _ h;omega,by simp;omega⟩,⟨λi hi=>?_,λh=>by have:=hT _ h;omega,by simp⟩,⟨?_,by simp⟩,⟨by omega,λb hb=>by have:=hC.lt b hb;omega⟩,hr⟩
 .rw[A7 _ _ _ (by simp;omega),A7 _ _ _ (by simp),AF _ _ _ _ rfl];rfl
 .rw[A7 _ _ _ (by simp),AF _ _ _ _ (by simp),Cm _ _ _ (by simp),Bt _ _ _ _ (by simp)]
  match i,hi with
  |0,_=>exact⟨rfl,rfl⟩
  |1,_=>exact⟨rfl,rfl⟩
  |2,_=>exact⟨rfl,rfl⟩
  |3,_=>exact⟨rfl,rfl⟩
  |4,_=>exact⟨rfl,rfl⟩
 .rw[AF _ _ _ _ (by simp)];rfl
attribute [local go_sem] Oper.semAt_some
def QB:dr->dr
 |.seq _ b=>b
 |c=>c
noncomputable abbrev Pu:Code:=QB (Tryz.f123.body.LE .skip)
def LA (b4:Nat):Deferred:={ target:=.fn (.func 124) #[],args:=#[.S (Z ⟨b4,0,Y⟩)] }
def dD (b2 b3 b4 r:Nat):Act:=⟨#[.S (Z ⟨b4,0,Y⟩),.S (Z ⟨b2,0,Y⟩),.S (Z ⟨r,0,Y⟩),.S (Z ⟨b3,0,Y⟩),undef,undef,undef,undef,undef,undef,undef,undef],[LA b4]⟩
def oB {T0 K:Nat->Prop}{cb:Nat}{c:Eb}{sets:List Nat}{nA hA:Option bh}{nc hc sb sc b2 b3 b4 rb F k:Nat}{fc:Array bb}{r:EK}{w:X}
  (aP:c.Ok) (aC:∀x∈sets,c.LT x) (aQ:sets.L<=16) (hC:FZ w K cb c sets nA hA nc hc sb sc) (hT:∀b,T0 b->b<w.heap.size) (hK:∀b,K b->¬T0 b) (hr:∀i,c.LT (r i)) (hz:∀i,1<=i->r i=0) (hk:1+k=c.DW.L)
  (h2:w.L ⟨b2,0,Y⟩=Z (.S (Z ⟨cb,0,Y⟩))) (a7:∀i,i<5->w.L ⟨rb,i,Y⟩=Z (.int .u8 (r i))) (h3:w.L ⟨b3,0,Y⟩=Z (.func (.func F) #[] fc)) (a8:b3<w.heap.size/\¬T0 b3)
  (I:List EK->X->Prop) (hI:∀pre W W',I pre W->(∀b,T0 b->W'.heap[b]?=W.heap[b]?)->I pre W') (h0:I [] w)
  (zS:∀(x:Array bb) (w:X),(callFunc F x).run DP w=.ok (.enter F x) w)
  (aL:∀(pre:List EK) (ρ:EK) (W:X),pre++[ρ] <+: EJ c sets k r 1->KT (λb=>T0 b\/w.heap.size<=b) w W->I pre W->S DP F (#[ET ρ]++fc) W λe W'=>e=.L (.tuple #[])/\KT T0 W W'/\I (pre++[ρ]) W') :
  Pu.wp DP (λe a' w'=>(e=.normal\/e=.ret)/\(e=.normal/\I (EJ c sets k r 1) w'/\∃D,a'.defers=[{ target:=.collected D,args:=#[] },LA b4]/\¬T0 D/\w'.heap[D]?=Z (.L (Z [])))) (dD b2 b3 b4 rb) w:=by
 have HC:=AB hC;have HDO:=AB aL;have HT:=AB hT;have HK:=AB hK;have HI:=AB hI;have H0:=AB h0;have HR:=AB hr;have HZ:=AB hz;have HST:=AB aC;have r0:=a7 0 (by omega);have r1:=a7 1 (by omega);have r2:=a7 2 (by omega);have r3:=a7 3 (by omega);have r4:=a7 4 (by omega);have a6:=me cb 1 r w;rw[<-dt (n:=0)] at a6;unfold ET at a6;rw[show(((1:Nat):Int))=1 from rfl] at a6;have HF:=AB a6
 have HH3:=AB h3;clear hC aL hT hK hI h0 hr hz aC a7 a6 h3;unfold dD Pu Tryz.f123;simp only[AS,QB];rw[<-wpIn_wide (n:=0)]
 gi_wp2_with fail
 refine⟨trivial,rfl,HF.out.LT ?_⟩;rintro e w1 ⟨rfl,aD⟩;have hs:=ku (T0:=T0) (K:=K) (n:=1) (r:=r) HC.out HT.out HK.out HR.out;rw[show(((1:Nat):Int))=1 from rfl,<-aD] at hs;have HS:=AB hs;have zJ:Gr w w1:=by rw[aD];exact(((Gr.refl w).Li _).Li _).Li _
 have zE:w1.heap.size=w.heap.size+3:=by rw[aD];simp
 have aF:=AB zJ;have aH:=AB zE;clear hs zJ aD HF zE
 gi_wp2_with fail
 refine kQ (T0:=T0) (K:=K) (cb:=cb) (c:=c) (sets:=sets) (nA:=nA) (hA:=hA) (nc:=nc) (hc:=hc) (sb:=sb) (sc:=sc) (bc:=w.heap.size) (br:=w.heap.size+1) (bn:=w.heap.size+2) (k:=k) (n:=1) (r:=r)
  aP HST.out aQ rfl hk HZ.out HS.out (λb hb=>AI (HT.out b hb) aF.out.size) rfl
  I (λ_ _ _=>False) HI.out (λc pre W W' h _=>h) (HI.out _ _ _ H0.out λb hb=>aF.out.Ly.Lo b (HT.out b hb)) ?_ ?_ (λD j q W _ _ _ h _=>h.elim)
 .intro l pre ρ W hpl aG aI aW zC;have aA:KT (λb=>T0 b\/w.heap.size<=b) w W:=KT.Li (T:=λb=>T0 b\/b=w.heap.size+1) ((KT.EF aF.out).trans aG) λb hb h=>h.elim .inl λh=>by omega
  have HKW:=AB aA;have aR:=AB hpl;have aO:=AB aI;have hb3:W.L ⟨b3,0,Y⟩=Z (.func (.func F) #[] fc):=(aA.cell (p:=⟨b3,0,Y⟩) a8.1 (by rintro(h|h);exact a8.2 h;have:=a8.1;exact AH h (by show ¬w.heap.size<=b3;omega))).trans HH3.out;have hzw:=aA.size;have hzl:w.heap.size+3<=W.heap.size:=by have:=aG.size;have:=aH.out;omega
  obtain⟨W2,zn⟩:∃W2,W2=W.Li (H #[.int .u8 (ρ 0),.int .u8 (ρ 1),.int .u8 (ρ 2),.int .u8 (ρ 3),.int .u8 (ρ 4)] 115):=⟨_,rfl⟩;have aJ:Hid (KT T0 W W2):=AB (by rw[zn];exact KT.EF ((Gr.refl W).Li _));have aS:Hid (W2.heap[W.heap.size]?=Z (H #[.int .u8 (ρ 0),.int .u8 (ρ 1),.int .u8 (ρ 2),.int .u8 (ρ 3),.int .u8 (ρ 4)] 115 (0,0))):=AB (by rw[zn];exact bo W _);have HOLD:Hid (∀b,b<W.heap.size->W2.heap[b]?=W.heap[b]?):=AB λb hb=>by rw[zn];exact bD _ _ hb
  have zD:W2.heap.size=W.heap.size+1:=by rw[zn];simp
  have aX:=AB zD;have aM:=AB zn;clear aG aA hpl aI zn zD;unfold ET
  gi_wp2
  rw[<-aM.out];refine⟨aJ.out,λo=>?_⟩;clear aM;have aN:∀b,b<w.heap.size->b≠l:=λb hb=>by have:=aH.out;omega
  have aY:(W2.SL l o).L ⟨b3,0,Y⟩=Z (.func (.func F) #[] fc):=(cy (aN b3 a8.1)).trans ((aJ.out.cell (p:=⟨b3,0,Y⟩) (by show b3<_;have:=a8.1;omega) a8.2).trans hb3);obtain⟨aB,_,_⟩:=Gu (W:=W2.SL l o) ((E (by omega)).trans aS.out);have c0:=aB 0;have c1:=aB 1;have c2:=aB 2;have c3:=aB 3;have c4:=aB 4;simp at c0 c1 c2 c3 c4;have HI2:=AB (HI.out pre W (W2.SL l o) aO.out λb hb=>(E (aN b (HT.out b hb))).trans (HOLD.out b (by have:=HT.out b hb;omega)))
  have aK:=HDO.out pre ρ (W2.SL l o) aR.out ((HKW.out.trans (aJ.out.LT λb h=>.inl h)).trans (KT.SL (T:=λb=>T0 b\/w.heap.size<=b) W2 (.inr (by have:=aH.out;omega)) o)) HI2.out;rw[<-dt (n:=0)] at aK;unfold ET at aK;have aT:=AB aK
  gi_wp2_with fail
  refine⟨trivial,rfl,aT.out.LT ?_⟩;rintro e w5 ⟨rfl,aU,hi5⟩;have aV:=AB aU;have HI5:=AB hi5
  gi_wp2
  exact⟨aV.out,HI5.out⟩
 .intro D W hD aG hi hd;have HND:=AB (show ¬T0 D from λh=>by have:=HT.out D h;have:=aF.out.size;omega)
  gi_wp2
  exact⟨hi,HND.out⟩
def bN (a b c:Int)(w:X):S DP 57 #[O M a,O M b,O M c] w λe w'=>e=.L (.bool (Ha a b c))/\w=w':=by
 by_cases h1:b<=a
 .by_cases h2:a<=c
  .have HS:=AB (show Ha a b c=cK by simp[Ha,h1,h2]);go_enter Sq.func57,dy;go_wp2;go_ret;exact⟨aF HS.out.LT,rfl⟩
  .have HS:=AB (show Ha a b c=bA by simp[Ha];omega);go_enter Sq.func57,dy;go_wp2;go_ret;exact⟨aF HS.out.LT,rfl⟩
 .have HS:=AB (show Ha a b c=bA by simp[Ha];omega);go_enter Sq.func57,dy;go_wp2;go_ret;exact⟨aF HS.out.LT,rfl⟩
def il (n lo hi:Int)(w:X):S DP 56 #[O M n,O M lo,O M hi] w λe w'=>e=.L (O M (Fc n lo hi))/\w=w':=by
 by_cases h1:n<lo
 .have HS:=AB (show Fc n lo hi=7 by simp[Fc,h1]);go_enter Sq.func56,dS;go_wp2;go_ret;exact⟨ap HS.out.LT,rfl⟩
 .by_cases h2:hi<n
  .have HS:=AB (show Fc n lo hi=6 by simp[Fc,h1,h2]);go_enter Sq.func56,dS;go_wp2;go_ret;exact⟨ap HS.out.LT,rfl⟩
  .have HS:=AB (show Fc n lo hi=0 by simp[Fc,h1,h2]);go_enter Sq.func56,dS;go_wp2;go_ret;exact⟨ap HS.out.LT,rfl⟩
def i6 (A:Option bh)(c:Nat)(l:List Int)(n:Int)(w:X)(B:Nat)(h:RI w B A l)(hl:l.L<=4611686018427387904)(a6:0<=n)(hn:n<=4611686018427387904) :
  S DP 77 #[C A l.L c,O M n] w λe w'=>e=.L (O M (Gs l n))/\w=w':=by
 have HR:=AB h;go_enter Sq.func77,Tryz.ntmps77;go_wp2;go_loop [9] (λi=>∃k:Nat,k<=l.L/\i=O M k/\∀j,j<k->GU l n j=0) (λi=>l.L-(G i).L)
 case atStart=>exact⟨0,by omega,rfl,λj hj=>AH hj (BY _)⟩
 case round =>
  obtain⟨k,hk,rfl,hz⟩:=hrel;have HZ:=AB hz;by_cases zY:k<l.L
  .obtain⟨b,o,rfl,hb,hc⟩:=HR.out.at_ zY;have HA:Hid (GU l n k=if 0<=l[k]?.LE 0/\l[k]?.LE 0<=n-1 then(if 0<k/\l[k]?.LE 0<=l[k-1]?.LE 0 then 5 else 0) else 3):=AB rfl;by_cases hr:0<=l[k]?.LE 0/\l[k]?.LE 0<=n-1
   .have HI : Hid (S DP 57 #[O M (l[k]?.LE 0), O M 0, O M (n - 1)] w fun e w' => e = .L (.bool cK) ∧ w = w') := Lib.hid (by
     have:=bN (l[k]?.LE 0) 0 (n-1) w
     rwa [show Ha (l[k]?.LE 0) 0 (n-1)=cK by simp[Ha,hr.1,hr.2]] at this)
    obtain h0|h0:=BJ k
    .subst h0;have HS:=AB (show GU l n 0=0 by rw[HA.out,AJ hr,AE (by omega)]);simp only[Nat.add_zero] at hc;generalize l[0]?.LE 0=x at hc HI;go_wp2_with (go_at_call 57;refine HI.out.LT ?_;rintro e w' ⟨rfl,rfl⟩);go_round
     case rel=>exact⟨1,by omega,by go_num,λj hj=>by
      have:j=0:=by omega
      subst this;exact HS.out⟩
     case measure=>simp[Proofs.intOf];omega
    .obtain⟨m,rfl⟩:∃m,k=m+1:=⟨k-1,by omega⟩;have hc':w.L ⟨b,o+m,Y⟩=Z (O M (l[m]?.LE 0)):=by
      obtain⟨b',o',e,_,h⟩:=HR.out.at_ (k:=m) (by omega);simp only[Option.some.injEq,Addr.mk.injEq] at e;obtain⟨rfl,rfl,_⟩:=e;exact h
     by_cases zX:l[m+1]?.LE 0<=l[m]?.LE 0
     .have HS := Lib.hid (show Gs l n = 5 by
       have e:GU l n (m+1)=5:=by rw[HA.out,AJ hr,AJ ⟨h0,zX⟩]
       rw[l7 zY HZ.out (by rw[e];decide),e])
      generalize l[m+1]?.LE 0=x at hc HI zX;generalize l[m]?.LE 0=y at hc' zX;go_wp2_with (go_at_call 57;refine HI.out.LT ?_;rintro e w' ⟨rfl,rfl⟩);go_ret;exact⟨ap HS.out.LT,rfl⟩
     .have HS:=AB (show GU l n (m+1)=0 by rw[HA.out,AJ hr,AE (λh=>zX h.2)]);generalize l[m+1]?.LE 0=x at hc HI zX;generalize l[m]?.LE 0=y at hc' zX;go_wp2_with (go_at_call 57;refine HI.out.LT ?_;rintro e w' ⟨rfl,rfl⟩);go_round
      case rel=>exact⟨m+1+1,by omega,by go_num,λj hj=>by
       obtain h|rfl:=B5 (Cx hj)
       .exact HZ.out j h
       .exact HS.out⟩
      case measure=>simp[Proofs.intOf];omega
   .have HI : Hid (S DP 57 #[O M (l[k]?.LE 0), O M 0, O M (n - 1)] w fun e w' => e = .L (.bool bA) ∧ w = w') := Lib.hid (by
     have:=bN (l[k]?.LE 0) 0 (n-1) w
     rwa [show Ha (l[k]?.LE 0) 0 (n-1)=bA by simp[Ha];omega] at this)
    have HS:=AB (show Gs l n=3 by
     have e:GU l n k=3:=by rw[HA.out,AE hr]
     rw[l7 zY HZ.out (by rw[e];decide),e])
    generalize l[k]?.LE 0=x at hc HI;go_wp2_with (go_at_call 57;refine HI.out.LT ?_;rintro e w' ⟨rfl,rfl⟩);go_ret;exact⟨ap HS.out.LT,rfl⟩
  .have HS:=AB (show Gs l n=0 from qO λi hi=>HZ.out i (by omega));have:k=l.L:=by omega
   go_wp2;go_ret;exact⟨ap HS.out.LT,rfl⟩
def EG (nA hA:Option bh)(c:Eb)(nc hc:Nat):Value:=.agg #[C nA c.DW.L nc,C hA c.DR.L hc]
def p6 {c:Eb}(h1:Fc c.DW.L 1 5=0)(h2:(c.DW.all λx=>Ha x 0 12)=cK)(h3:Fc c.DR.L 1 4=0):Es c=bE (c.DR.map (GV c.DW.L)):=by
 simp[Es,h1,h2,h3]
def eP (c:Eb)(n:Int){i:Nat}(hi:i<c.DR.L):(c.DR.map (GV n))[i]?.LE 0=GV n (c.h i):=by
 unfold Eb.h;simp[hi]
def oO (nA hA:Option bh)(nc hc:Nat)(c:Eb)(w:X)(B:Nat)(hB:B<=w.heap.size)(hn:RI w B nA c.DW)(hh:FY w B hA c.DR)(aT:c.DW.L<=4611686018427387904)(zC:c.DR.L<=4611686018427387904)
  (aK:∀h∈c.DR,h.off.L<=4611686018427387904) :
  S DP 44 #[EG nA hA c nc hc] w λe w'=>e=.L (O M (Es c))/\Gr w w':=by
 have HN:=AB hn;have HH:=AB hh;have aM:=AB aK;clear hn hh aK;unfold EG;obtain⟨W0,zM⟩:∃W0:X,W0=w.Li (H #[C nA c.DW.L nc,C hA c.DR.L hc] 27):=⟨_,rfl⟩;have aD:Hid (Gr w W0):=AB (by rw[zM];exact(Gr.refl w).Li _);have HC:Hid (∀W,Gr W0 W->W.L ⟨w.heap.size,0,Y⟩=Z (C nA c.DW.L nc)/\W.L ⟨w.heap.size,1,Y⟩=Z (C hA c.DR.L hc)):=AB λW hg=>by
  rw[hg.cell (by show w.heap.size<_;rw[zM];simp),hg.cell (by show w.heap.size<_;rw[zM];simp),zM,AF _ _ _ _ rfl,AF _ _ _ _ rfl];exact⟨rfl,rfl⟩
 have zF:W0.heap.size=w.heap.size+1:=by rw[zM];simp
 by_cases aA:Fc c.DW.L 1 5=0
 .have HM:Hid (S DP 56 #[O M c.DW.L,O M 1,O M 5] (w.Li (H #[C nA c.DW.L nc,C hA c.DR.L hc] 27)) λe w'=>e=.L (O M 0)/\(w.Li (H #[C nA c.DW.L nc,C hA c.DR.L hc] 27))=w'):=AB (by rw[<-aA];exact il _ _ _ _);have aH:=AB aA;have HW:=AB zM;clear aA zM;go_enter Sq.func44,e9
  go_wp2_with (first|(go_at_call 56;refine HM.out.LT ?_;rintro e w' ⟨rfl,rfl⟩));rw[<-HW.out];clear HW HM;obtain⟨zp,zv⟩:=HC.out W0 (Gr.refl _);have aN:=AB ((HN.out.gr hB aD.out).more (B':=W0.heap.size) (by omega));go_loop [20] (λi=>∃k:Nat,k<=c.DW.L/\i=O M k/\∀j,j<k->Ha (c.DW[j]?.LE 0) 0 12=cK) (λi=>c.DW.L-(G i).L)
  case atStart=>exact⟨0,by omega,rfl,λj hj=>AH hj (BY _)⟩
  case round =>
   obtain⟨k,hk,rfl,hz⟩:=hrel;have HZ:=AB hz;clear hz;by_cases zY:k<c.DW.L
   .obtain⟨b,o,rfl,hb,hcell⟩:=aN.out.at_ zY;have hI:=bN (c.DW[k]?.LE 0) 0 12 W0;cases a7:Ha (c.DW[k]?.LE 0) 0 12 with
    |true =>
     rw[a7] at hI;have HI:=AB hI;have aO:=AB a7;clear hI a7;generalize c.DW[k]?.LE 0=x at hcell HI;go_wp2_with (go_at_call 57;refine HI.out.LT ?_;rintro e w' ⟨rfl,rfl⟩);go_round
     case rel=>exact⟨k+1,by omega,by go_num,λj hj=>by
      obtain h|rfl:=B5 (Cx hj)
      .exact HZ.out j h
      .exact aO.out⟩
     case measure=>simp[Proofs.intOf];omega
    |false =>
     rw[a7] at hI;have HI:=AB hI
     have HS:=AB (show Es c=1 by
      have:(c.DW.all λx=>Ha x 0 12)=false:=by
       rw[List.all_eq_false];exact⟨_,Gh _ _ zY,by simp[a7]⟩
      simp[Es,aH.out,this])
     clear hI a7;generalize c.DW[k]?.LE 0=x at hcell HI;go_wp2_with (go_at_call 57;refine HI.out.LT ?_;rintro e w' ⟨rfl,rfl⟩);go_ret;exact⟨ap HS.out.LT,aD.out⟩
   .have HA := Lib.hid (show (c.DW.all fun x => Ha x 0 12) = cK by
     rw[B6];intro x hx;obtain⟨j,hj,rfl⟩:=Cl.1 hx;have:=HZ.out j (by omega)
     rwa [AG hj] at this)
    have aI:k=c.DW.L:=by omega
    clear HZ;subst aI;have aF:=il c.DR.L 1 4 W0;by_cases aB:Fc c.DR.L 1 4=0
    .rw[aB] at aF;have HM:=AB aF;have HD:=AB (p6 aH.out HA.out aB);clear aF aB;go_wp2_with (first|(go_at_call 56;refine HM.out.LT ?_;rintro e w' ⟨rfl,rfl⟩));go_loopw [38] (λi wr=>∃k:Nat,k<=c.DR.L/\i=O M k/\(∀j,j<k->GV c.DW.L (c.h j)=0)/\Gr W0 wr) (λi _=>c.DR.L-(G i).L)
     case atStart=>exact⟨0,by omega,rfl,λj hj=>AH hj (BY _),Gr.refl _⟩
     case round =>
      obtain⟨k,hk,rfl,hz,zV⟩:=hrel;have HZ:=AB hz;have aL:=AB zV;have a8:=AB (aD.out.trans zV);obtain⟨Lu,aU⟩:=HC.out wr zV;have zx:w.heap.size<wr.heap.size:=by have:=aL.out.size;omega
      clear hz zV;by_cases zY:k<c.DR.L
      .have aP:=AB (HH.out.keep λb o hb=>a8.out.cell (p:=⟨b,o,Y⟩) (AI hb hB));obtain⟨b,o,rfl,hb,hat⟩:=aP.out.at_ (c:=c) zY;obtain⟨g0,g1,g2,A,ac,g3,aQ⟩:=hat;have aR:=AB (aQ.more (B':=wr.heap.size) (by omega));have aS:=aM.out _ (c.IW zY);have HF:=AB (eP c c.DW.L zY);have HIT:∀x lo hi v,Ha x lo hi=v->∀W:X,S DP 57 #[O M x,O M lo,O M hi] W λe w'=>e=.L (.bool v)/\W=w':=λx lo hi v h W=>by rw[<-h];exact bN _ _ _ _
       have a6:=AB HIT;cases t1:Ha (c.h k).heads 1 40 with
       |false =>
        have HS:=AB (show Es c=1 by
         have e:GV c.DW.L (c.h k)=1:=by simp[GV,t1]
         rw[HD.out,ce (k:=k) (by simpa using zY) (λi hi=>by rw[eP c _ (by omega)];exact HZ.out i hi) (by rw[HF.out,e];decide),HF.out,e])
        have HA:=AB (a6.out _ _ _ _ t1);go_wp2_with (first|(go_at_call 57;refine(HA.out _).LT ?_;rintro e w' ⟨rfl,rfl⟩));go_ret;exact⟨ap HS.out.LT,a8.out.Li _⟩
       |true =>
        have HA:=AB (a6.out _ _ _ _ t1);cases t2:Ha (c.h k).F9 1 5 with
        |false =>
         have HS:=AB (show Es c=1 by
          have e:GV c.DW.L (c.h k)=1:=by simp[GV,t2]
          rw[HD.out,ce (k:=k) (by simpa using zY) (λi hi=>by rw[eP c _ (by omega)];exact HZ.out i hi) (by rw[HF.out,e];decide),HF.out,e])
         have aC:=AB (a6.out _ _ _ _ t2);go_wp2_with fail;refine(HA.out _).LT ?_;rintro e w' ⟨rfl,rfl⟩;go_wp2_with fail;refine(aC.out _).LT ?_;rintro e w' ⟨rfl,rfl⟩;go_wp2;go_ret;exact⟨ap HS.out.LT,a8.out.Li _⟩
        |true =>
         have aC:=AB (a6.out _ _ _ _ t2);cases t3:Ha (c.h k).most 0 5 with
         |false =>
          have HS:=AB (show Es c=1 by
           have e:GV c.DW.L (c.h k)=1:=by simp[GV,t3]
           rw[HD.out,ce (k:=k) (by simpa using zY) (λi hi=>by rw[eP c _ (by omega)];exact HZ.out i hi) (by rw[HF.out,e];decide),HF.out,e])
          have aG:=AB (a6.out _ _ _ _ t3);go_wp2_with fail;refine(HA.out _).LT ?_;rintro e w' ⟨rfl,rfl⟩;go_wp2_with fail;refine(aC.out _).LT ?_;rintro e w' ⟨rfl,rfl⟩;go_wp2_with fail;refine(aG.out _).LT ?_;rintro e w' ⟨rfl,rfl⟩;go_wp2;go_ret;exact⟨ap HS.out.LT,a8.out.Li _⟩
         |true =>
          have aG:=AB (a6.out _ _ _ _ t3);have HE:=AB (show GV c.DW.L (c.h k)=Gs (c.h k).off c.DW.L by simp[GV,t1,t2,t3]);have HAS:=AB (λW (hg:Gr wr W)=>i6 A ac (c.h k).off c.DW.L W wr.heap.size (aR.out.gr (AD _) hg) aS (by omega) (by omega));have aJ:Hid (∀v,Gr wr (wr.Li v)):=AB λv=>(Gr.refl wr).Li v;by_cases he:Gs (c.h k).off c.DW.L=0
          .rw[he] at HAS;have HE0:=AB (HE.out.trans he);go_wp2_with fail;refine(HA.out _).LT ?_;rintro e w' ⟨rfl,rfl⟩;go_wp2_with fail;refine(aC.out _).LT ?_;rintro e w' ⟨rfl,rfl⟩;go_wp2_with fail;refine(aG.out _).LT ?_;rintro e w' ⟨rfl,rfl⟩;go_wp2_with fail;refine(HAS.out _ (aJ.out _)).LT ?_;rintro e w' ⟨rfl,rfl⟩;go_wp2;go_roundw
           case rel=>exact⟨k+1,by omega,by go_num,λj hj=>by
            obtain h|rfl:=B5 (Cx hj)
            .exact HZ.out j h
            .exact HE0.out,aL.out.Li _⟩
           case measure=>simp[Proofs.intOf];omega
          .have HS := Lib.hid (show Es c = Gs (c.h k).off c.DW.L by
            rw[HD.out,ce (k:=k) (by simpa using zY) (λi hi=>by rw[eP c _ (by omega)];exact HZ.out i hi) (by rw[HF.out,HE.out];exact he),HF.out,HE.out])
           have zU:((Gs (c.h k).off c.DW.L) != 0)=true:=by simpa using he
           generalize Gs (c.h k).off c.DW.L=e0 at HAS HS zU;go_wp2_with fail;refine(HA.out _).LT ?_;rintro e w' ⟨rfl,rfl⟩;go_wp2_with fail;refine(aC.out _).LT ?_;rintro e w' ⟨rfl,rfl⟩;go_wp2_with fail;refine(aG.out _).LT ?_;rintro e w' ⟨rfl,rfl⟩;go_wp2_with fail;refine(HAS.out _ (aJ.out _)).LT ?_;rintro e w' ⟨rfl,rfl⟩;go_wp2;go_ret;exact⟨ap HS.out.LT,a8.out.Li _⟩
      .have HS := Lib.hid (show Es c = 0 by
        rw[HD.out];exact dU λi hi=>by
         rw[B8] at hi
         rw[eP c _ hi];exact HZ.out i (by omega))
       have aI:k=c.DR.L:=by omega
       subst aI;go_wp2;go_ret;exact⟨ap HS.out.LT,a8.out⟩
    .have HS:=AB (show Es c=Fc c.DR.L 1 4 by simp[Es,aH.out,HA.out,aB]);have HM:=AB aF;have hb:((Fc c.DR.L 1 4) != 0)=true:=by simpa using aB
     generalize Fc c.DR.L 1 4=e0 at HM hb HS;go_wp2_with (first|(go_at_call 56;refine HM.out.LT ?_;rintro e w' ⟨rfl,rfl⟩));go_ret;exact⟨ap HS.out.LT,aD.out⟩
 .have HS:=AB (show Es c=Fc c.DW.L 1 5 by simp[Es,aA]);have HM:=AB (il c.DW.L 1 5 W0);have hb:((Fc c.DW.L 1 5) != 0)=true:=by simpa using aA
  rw[zM] at HM;generalize Fc c.DW.L 1 5=e0 at HM hb HS;go_enter Sq.func44,e9;go_wp2_with (first|(go_at_call 56;refine HM.out.LT ?_;rintro e w' ⟨rfl,rfl⟩));go_ret;exact⟨ap HS.out.LT,(Gr.refl w).Li _⟩
def im (u:bb):Prop:=∃x,u=.int .u8 x
def GH (w:X)(v:bb):Prop:=∀a n c,v=.slice (Z a) n c->∃(cur:Array bb) (t:cw),w.heap[a.Lo]?=Z (.cells cur t (0,0))/\∀u∈cur.toList,im u
def GH.nil (w:X):GH w (.slice Y 0 0):=λa n c h=>by cases h
def GH.keep {w w':X}{v:bb}(h:GH w v)(hk:∀a n c,v=.slice (Z a) n c->w'.heap[a.Lo]?=w.heap[a.Lo]?):GH w' v:=λa n c e=>by
 obtain⟨cur,t,h1,h2⟩:=h a n c e;exact⟨cur,t,(hk a n c e).trans h1,h2⟩
variable {P:Program}
def vZ (n:Nat):∀u∈(cu (O .u8 0).cells n).toList,im u:=by
 intro u hu;simp only[cu,CV,BO] at hu;obtain⟨i,_,rfl⟩:=hu;refine⟨0,?_⟩;show(#[O .u8 0]:Array bb)[i % 1]! = _;rw[Nat.mod_one];rfl
def nT (w:X)(base:Nat)(t ty e:cw)(i:fl)(ht:P.LT t=Z (.slice e))(hi:P.info? e=Z i)(hz:i.zero=Z (.int .u8 0))
  (hsize:i.size=1) (hby:i.bytes=1) (v:bb) (n:Nat) (xs:List bb) (zm:w.S base e 1 v n xs) (hf:GH w v)
  (a:bh) (m c:Nat) (news:List bb) (hl:news.L=m*1) (hnews:∀j u,news[j]?=Z u->w.L (a.add j)=Z u) (h1:∀u∈news,im u) (h63:n+m<=maxLen) (hbytes:(n+m)*1<=140737488355328)
  {v':bb} {w':X} (zA:(ck #[t,t] ty #[v,.slice (Z a) m c]).run P w=.ok v' w'):GH w' v':=by
 have a7:∀u∈news,u.oneCell'=true:=λu hu=>by obtain⟨x,rfl⟩:=h1 u hu;rfl
 have grown:∀(ys:List bb) k,(∀u∈ys,im u)->∀l1 l2 n1 c1,l1++l2=ys->GH (w.drew.Li (.cells (l1.Li++l2.Li++cu (O .u8 0).cells k) e)) (.slice (Z ⟨w.heap.size,0,Y⟩) n1 c1):=by
  intro ys k hys l1 l2 n1 c1 a8 a n c he;injection he with h _ _
  injection h with h
  subst h;refine⟨_,e,heap_alloc_new w.drew _,λu hu=>?_⟩;simp only[Array.toList_append,BK] at hu;obtain hu|hu:=hu
  .refine hys u ?_;rw[<-a8];simpa using hu
  .exact vZ _ u hu
 obtain⟨rfl,rfl⟩|⟨g,cap,cur,rfl,hbg,hg,aC,hcm,zW,a6⟩:=zm.2
 .by_cases hm:m=0
  .subst hm;have hn:news=[]:=Bf (by simpa using hl);subst hn;simp[ck,run_underlying ht,sizeOf,typeInfo,hi,Builtin.lenOf,Builtin.firstCells,loadCells,loadCellsFrom] at zA;obtain⟨rfl,rfl⟩:=zA;exact GH.nil _
  .have hr:=run_append_nil (P:=P) w t ty e i (.int .u8 0) ht hi hz a m c news (by rw[hsize];exact hl) hnews (by omega) (by omega) (by rw[hby];omega);rw[hr] at zA;cases zA;have:=grown news (grownCap w m 0 e-m) h1 [] news m (grownCap w m 0 e) rfl;simpa using this
 .obtain⟨cur',t',z1,z2⟩:=hf _ _ _ rfl;have z1':w.heap[g]?=Z (.cells cur' t' (0,0)):=z1;rw[hg] at z1';cases z1';have aB:∀u∈xs,im u:=λu hu=>z2 u (by rw[<-a6] at hu;exact Cj hu);by_cases hroom:n+m<=cap
  .have aA:n*i.size+news.L<=cur.size:=by rw[hsize,hl,zW];omega
   have hr:=run_append_room (P:=P) w t ty e i ht hi g n cap cur hg a m c news (by rw[hsize];exact hl) hnews a7 hroom aA;rw[hr] at zA;cases zA;intro a2 n2 c2 he;injection he with h _ _
   injection h with h
   subst h;refine⟨_,e,setRow_heap w g cur _ e _ hg,λu hu=>?_⟩;simp only[BK] at hu;obtain(hu|hu)|hu:=hu
   .exact z2 u (Cj hu)
   .exact h1 u hu
   .exact z2 u (List.mem_of_mem_drop hu)
  .have holds:∀j u,xs[j]?=Z u->w.L ((⟨g,0,Y⟩:bh).add j)=Z u:=zm.cells (g:=g) rfl;have hr:=run_append_grow (P:=P) w t ty e i (.int .u8 0) ht hi hz ⟨g,0,Y⟩ n cap xs (by rw[hsize];exact zm.1) holds a m c news (by rw[hsize];exact hl) hnews (by omega) (by omega) (by rw[hby];exact growslice_fits (by omega) hbytes);rw[hr] at zA;cases zA;exact grown (xs++news) _ (λu hu=>(BK.1 hu).elim (aB u) (h1 u)) xs news _ _ rfl
def io {w:X}{ops:Array Oper}{rest:List Oper}{o:Oper}{a:Act}{Q:Exit->Act->X->Prop}(hgd:o.guard=Y)(s x:ek)(t:cw)
  (ho:o.op=.call { callee:=.builtin .append,args:=#[s,x],argTypes:=#[t,t] })
  (base:Nat) (e:cw) (i:fl) (ht:P.LT t=Z (.slice e)) (hi:P.info? e=Z i) (hz:i.zero=Z (.int .u8 0))
  (hsize:i.size=1) (hby:i.bytes=1)
  (v:bb) (n:Nat) (xs:List bb) (hs:a.eval s=v) (zm:w.S base e 1 v n xs) (hf:GH w v)
  (ad:bh) (m c:Nat) (news:List bb) (hx:a.eval x=.slice (Z ad) m c) (hl:news.L=m*1) (hnews:∀j u,news[j]?=Z u->w.L (ad.add j)=Z u) (h1:∀u∈news,im u)
  (h63:n+m<=maxLen) (hbytes:(n+m)*1<=140737488355328) (hbase:base<=w.heap.size)
  (h:∀v' w',w'.S base e 1 v' (n+m) (xs++news)->w.O w' v.L->w.drawn<=w'.drawn->GH w' v'->wpList P ops Q rest (a.put o.dst v') w'):wpList P ops Q (o::rest) a w:=by
 refine wpList_plain hgd λK hK=>?_;have a6:∀u∈news,u.oneCell'=true:=λu hu=>by obtain⟨x,rfl⟩:=h1 u hu;rfl
 obtain⟨v',w',hr,h2,h3,h4⟩:=eo (P:=P) w base t o.type e i (.int .u8 0) 1 1 ht hi hz hsize hby rfl (by decide) v n xs zm ad m c news hl hnews a6 h63 hbytes hbase;have a7:=nT (P:=P) w base t o.type e i ht hi hz hsize hby v n xs zm hf ad m c news hl hnews h1 h63 hbytes hr;have hd:=Go.Em.GK P (ck #[t,t] o.type #[v,.slice (Z ad) m c]) w #[];rw[eT,hr] at hd
 unfold Oper.wp execOp;simp only[ho,resolve,invoke,builtin,eV,e8,Result.andThen_ok,CA,Ca,CB,hs,hx,hr];exact hK _ _ (h v' w' h2 h3 hd a7)
def we:∀x:Fin 16,∀n:Fin 4,bits BinOp.or er (x.val:Int) (2 ^ n.val % 256)=((x.val ||| 2 ^ n.val:Nat):Int):=by decide
def Ry (A:Option bh)(c:Nat)(l:List Int)(w:X)(B:Nat)(h:RI w B A l)(hl:l.L<=4611686018427387904)(hx:∀x∈l,0<=x/\x<4) :
  S DP 103 #[C A l.L c] w λe w'=>e=.L (.int .u8 (K3 l))/\w=w':=by
 have HR:=AB h;have HX:=AB hx;go_enter Sq.func103,Tryz.ntmps103;go_wp2;go_loop [3,8] (λs i=>∃k:Nat,k<=l.L/\i=O M k/\s=.int .u8 (K3 (l.LT k))) (λ_ i=>l.L-(G i).L)
 case atStart=>exact⟨0,by omega,rfl,rfl⟩
 case round =>
  obtain⟨k,hk,rfl,rfl⟩:=hrel;by_cases zY:k<l.L
  .obtain⟨b,o,rfl,hb,hc⟩:=HR.out.at_ zY;have HS:=AB (tc l k zY);obtain⟨n,hn,a8⟩:∃n:Nat,l[k]?.LE 0=n/\n<4:=by
    obtain⟨h1,h2⟩:=HX.out _ (Gh l k zY);exact⟨(l[k]?.LE 0).L,by omega,by omega⟩
   rw[hn] at hc;have HN:=AB hn;have a6:K3 (l.LT k)<16:=qQ _ λy hy=>HX.out y (Cj hy);have HO:=AB (show bits BinOp.or er ((K3 (l.LT k):Nat):Int) (2 ^ n % 256)=((K3 (l.LT k) ||| 2 ^ n:Nat):Int) from we ⟨_,a6⟩ ⟨n,a8⟩);have a7:=AB (show K3 (l.LT (k+1))=K3 (l.LT k) ||| 2 ^ n by rw[HS.out,HN.out];rfl);generalize K3 (l.LT k)=x at HO a7 a6;go_wp2;go_round
   case rel=>exact⟨k+1,by omega,by go_num,by rw[a7.out];exact AZ (Value.int .u8) HO.out⟩
   case measure=>simp[Proofs.intOf];omega
  .have aA:k=l.L:=by omega
   have HS:=AB (show K3 (l.LT k)=K3 l by rw[Bj (by omega)]);clear aA;go_wp2;go_ret;exact⟨ap (by rw[HS.out]),rfl⟩
def DI:(DP.info? 113).map (λi=>(i.zero,i.size,i.bytes))=Z (Z (.int .u8 0),1,1):=by
 rw[Dg];kernel_rfl
def LW (k:Nat):List Value:=(List.range k).map λi:Nat=>.int .u8 (i:Int)
def rG (k:Nat):LW (k+1)=LW k++[.int .u8 k]:=by simp[LW,C1]
def rH (N:Nat)(R:bb->X->X->Prop):Prop:=∀(W:X) (g cap B:Nat),W.S B 113 1 (.slice (Z ⟨g,0,Y⟩) N cap) N (LW N) ->
 S DP 134 #[.slice (Z ⟨g,0,Y⟩) N cap,.func (.func 135) #[] #[]] W λe W'=>e=.L (.tuple #[])/\R (.slice (Z ⟨g,0,Y⟩) N cap) W W'
def oP (nA hA:Option bh)(nc hc nn m:Nat)(w:X)(hm:m<=4){R:bb->X->X->Prop}(hs:rH (2 ^ m) R) :
  S DP 95 #[.agg #[C nA nn nc,C hA m hc]] w λe w'=>e=.L (.S (Z ⟨w.heap.size+1,0,Y⟩))/\∃(g cap:Nat) (W:X),R (.slice (Z ⟨g,0,Y⟩) (2 ^ m) cap) W w'/\w.heap.size+2<=g/\Gr w W/\w.heap.size+1<W.heap.size /\
   W.L ⟨w.heap.size+1,0,Y⟩=Z (C nA nn nc)/\W.L ⟨w.heap.size+1,1,Y⟩=Z (C hA m hc)/\W.L ⟨w.heap.size+1,2,Y⟩=Z (.slice (Z ⟨g,0,Y⟩) (2 ^ m) cap) /\
   W.S (w.heap.size+2) 113 1 (.slice (Z ⟨g,0,Y⟩) (2 ^ m) cap) (2 ^ m) (LW (2 ^ m)) /\
   GH W (.slice (Z ⟨g,0,Y⟩) (2 ^ m) cap)/\W.heap[w.heap.size+1]?=Z (H #[C nA nn nc,C hA m hc,.slice (Z ⟨g,0,Y⟩) (2 ^ m) cap] 218 (0,0)):=by
 obtain⟨i0,hi,zF,zE,zD⟩:=info_parts DI;have a6:=AB hs;have a8:((2:Int) ^ m % 256)=((2 ^ m:Nat):Int)/\2 ^ m<=16/\1<=2 ^ m:=by
  have:m=0\/m=1\/m=2\/m=3\/m=4:=by omega
  rcases this with rfl|rfl|rfl|rfl|rfl<;>decide
 obtain⟨Ji,aF,hp3⟩:=a8;generalize 2 ^ m=N at Ji aF hp3 a6 ⊢;have HP:=AB Ji;go_enter Sq.func95,Tryz.ntmps95;go_wp2;rw[HP.out]
 go_loopw [13] (λi wr=>∃k:Nat,k<=N/\i=.int .u8 k/\∃v,wr.L ⟨w.heap.size+1,0,Y⟩=Z (C nA nn nc)/\wr.L ⟨w.heap.size+1,1,Y⟩=Z (C hA m hc)/\wr.L ⟨w.heap.size+1,2,Y⟩=Z v/\wr.H ⟨w.heap.size+1,2,Y⟩=bA /\
  wr.S (w.heap.size+2) 113 1 v k (LW k)/\Gr w wr/\w.heap.size+2<=wr.heap.size/\GH wr v/\wr.heap[w.heap.size+1]?=Z (H #[C nA nn nc,C hA m hc,v] 218 (0,0))) (λi _=>N-(G i).L)
 case atStart =>
  refine⟨0,by omega,rfl,.slice Y 0 0,?_,?_,?_,?_,Bs _ _ _ _,((Gr.refl w).Li _).Li _,by simp,GH.nil _,?_⟩
  .rw[AF _ _ _ _ (by simp)];rfl
  .rw[AF _ _ _ _ (by simp)];rfl
  .rw[AF _ _ _ _ (by simp)];rfl
  .rw[Bt _ _ _ _ (by simp)]
  .have e1:∀A:Obj,w.heap.size+1=(w.Li A).heap.size:=λA=>by simp
   rw[e1 (H #[C nA nn nc,C hA m hc] 27)];exact heap_alloc_new _ _
 case round =>
  obtain⟨k,hk,rfl,v,h0,h1,h2,aG,zm,zV,zx,aH,aI⟩:=hrel;have a7:=AB aH;have HOB:=AB aI;have HG:=AB zV;by_cases zY:k<N
  .have h0':=h0;have hfa:GH (wr.Li (H #[.int .u8 k] 113)) v:=a7.out.keep λa n c e=>bD wr _ (zm.lt a.Lo (by rw[e];rfl)).2;go_wp2_with (at_builtin;refine io rfl _ _ 216 rfl (w.heap.size+2) 113 i0 Sq.underlying216 hi zF zE zD _ _ _ rfl (zm.Li _) hfa ⟨wr.heap.size,0,Y⟩ 1 1 [.int .u8 k] rfl rfl ?c1 ?c2 ?c3 ?c4 ?c5 ?_)
   case c1 =>
    intro j u hj
    match j,hj with
    |0,hj=>simp at hj;subst hj;simp[Addr.add]
   case c2=>intro u hu;simp at hu;subst hu;exact⟨_,rfl⟩
   case c3=>unfold maxLen;omega
   case c4=>omega
   case c5=>simp;omega
   intro v' w1 hown' hgrow hd aA;have aB:=AB aA;obtain⟨g',cap',rfl⟩:=ownsRow_succ hown';have zU:Z (w.heap.size+1)≠v.L:=λh=>by have:=(zm.lt _ h.LT).1;omega
   have k0:w1.L ⟨w.heap.size+1,0,Y⟩=Z (C nA nn nc):=hgrow.cell ((A7 _ _ _ (by show w.heap.size+1<_;omega)).trans h0) zU;have k1:w1.L ⟨w.heap.size+1,1,Y⟩=Z (C hA m hc):=hgrow.cell ((A7 _ _ _ (by show w.heap.size+1<_;omega)).trans h1) zU;have k2:w1.L ⟨w.heap.size+1,2,Y⟩=Z v:=hgrow.cell ((A7 _ _ _ (by show w.heap.size+1<_;omega)).trans h2) zU;have kf:w1.H ⟨w.heap.size+1,2,Y⟩=false:=by
    rw[BR (w:=wr.Li (H #[.int .u8 k] 113)) (hgrow.Lo (w.heap.size+1) (by simp;omega) zU)];exact(Cm _ _ _ (by show w.heap.size+1<_;omega)).trans aG
   have aC:=AB ((hgrow.Lo (w.heap.size+1) (by simp;omega) zU).trans ((bD wr _ (by omega)).trans HOB.out));have aJ:=AB ((HG.out.Li (H #[.int .u8 k] 113)).SS hgrow hd λj hj=>by have:=(zm.lt j hj).1;omega);have aD:w.heap.size+2<=w1.heap.size:=by have:=hgrow.size;simp at this;omega
   have HO:Hid (w1.S (w.heap.size+2) 113 1 (.slice (Z ⟨g',0,Y⟩) (k+1) cap') (k+1) (LW (k+1))):=AB (by rw[rG];exact hown');go_wp2;go_roundw
   case rel =>
    refine⟨k+1,by omega,by go_num,_,(AN _ _ _ _ (by simp)).trans k0,(AN _ _ _ _ (by simp)).trans k1,AW _ _ _ k2,(BH _ _ _ _).trans kf,ownsRow_setCell_below HO.out (by show w.heap.size+1<_;omega) _,aJ.out.LE (by show _<=w.heap.size+1;omega) _,by simpa using aD,aB.out.keep λa n c e=>?_,?_⟩
    .have hb:a.Lo=g':=by injection e with e1 _ _;injection e1 with e1;rw[<-e1]
     have zY:=(HO.out.lt g' rfl).1;unfold bW;simp only[Bv];rw[AE (by omega)]
    .unfold bW;simp only[Bv,if_true,aC.out]
     rfl
   case measure=>simp[Proofs.intOf];omega
  .have aK:k=N:=by omega
   subst aK;obtain⟨m',rfl⟩:∃m',k=m'+1:=⟨k-1,by omega⟩;obtain⟨g,cap,rfl⟩:=ownsRow_succ zm;have HC:=AB (a6.out wr g cap _ zm);have hg:=(zm.lt g rfl).1;have HO:=AB zm;go_wp2_with fail;refine HC.out.LT ?_;rintro e w2 ⟨rfl,hR⟩;have HR:=AB hR;go_wp2;go_ret;exact⟨rfl,g,cap,wr,HR.out,hg,HG.out,by omega,h0,h1,h2,HO.out,a7.out,HOB.out⟩
end Go.Sq
