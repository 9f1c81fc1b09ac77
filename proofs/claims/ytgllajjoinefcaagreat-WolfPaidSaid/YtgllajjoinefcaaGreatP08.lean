/- Parts of the proof. -/
import Derived.Test.YtgllajjoinefcaaGreatP07
import Derived.Shelf.Slices.Clone
set_option linter.all false
set_option maxHeartbeats 6400000
set_option maxRecDepth 1000000
open Go.Value renaming slice->Z,int->J,pointer->cd,ownBlock->eb
open Option renaming none->Y,some->U,isSome->ez
open Go.IntKind renaming i64->I,wrap->dr,signed->ek,bits->fo
open Go renaming World->C,Value->bb,Addr->bh,Calls->bo,info_parts->cw,TypeId->dt,wpIn_wide->fc,Oper->fq
open Go.World renaming setCell->E,alloc_heap_new->H,putObj_heap_other->bq,frozen?->bw,ownsRow_made->dn,cell?->dy,drew->fx
open Go.Proofs renaming intOf->O,size_putRow->ck
open Go.Obj renaming cells->G
open Go.Proofs.Tryz renaming results48->bs,ntmps93->fl
open Go.Addr renaming add_lit->cf,add->ed
open Bool renaming false->cq,true->ew
open Ne renaming symm->cu
open Int renaming ediv_nonneg->df,emod_nonneg->ea
open Go.Ending renaming returned->di
open Or renaming inr->eo,inl->fu
open Array renaming getD->Array.LE,setIfInBounds->Array.L
open BitVec renaming toNat->BitVec.L
open Eq renaming symm->Eq.LT
open Go renaming underlying->Go.LT
open Go.Addr renaming block->Go.Addr.Lo
open Go.BoundsCode renaming toNat->Go.BoundsCode.L
open Go.Calls renaming mono->Go.Calls.LT
open Go.CallsIn renaming mono->Go.CallsIn.LT
open Go.Code renaming block->Go.Code.Lo
open Go.Ending renaming returned->Go.Ending.L
open Go.Instr renaming alloc->Go.Instr.Li
open Go.Obj renaming deferred->Go.Obj.L
open Go.Op renaming alloc->Go.Op.Li
open Go.Program renaming underlying->Go.Program.LT
open Go.RowKit.Below renaming block->Go.RowKit.Below.Lo
open Go.TypeDesc renaming pointer->Go.TypeDesc.S
open Go.Value renaming ownBlock->Go.Value.L,pointer->Go.Value.S
open Go.World renaming alloc->Go.World.Li,cell?->Go.World.L,frozen?->Go.World.H,grownBy->Go.World.O,ownsRow->Go.World.S,putObj->Go.World.SL,setCell->Go.World.LE
open Go.World.grownBy renaming block->Go.World.grownBy.Lo
open Go.World.ownsRow renaming alloc->Go.World.ownsRow.Li
open Int renaming toNat->Int.L
open List renaming below->List.Ly,length->List.L,set->List.SS,sum->List.Lo,take->List.LT,toArray->List.Li
open Nat renaming below->Nat.Ly
open Ne renaming symm->Ne.LT
open Option renaming getD->Option.LE,isNone->Option.L
open UInt8 renaming toNat->UInt8.L
namespace Go.Sq
open Go.Proofs
open Go.RowKit
def wP (A:Option bh)(c:Nat)(l:List Int)(w:C)(B:Nat)(h:RI w B A l)(hB:B<=w.heap.size)(hl:l.L<=1048576) :
  bo DP 93 #[Z A l.L c] w λe w'=>∃v,e=.L v/\w'.S w.heap.size 3 1 v l.L (l.map (J I))/\Gr w w':=by
 obtain⟨i0,hi,zF,zE,zD⟩:=cw Dl;have HR:=AB h;have q22:∀(w:C) (a:Option bh) (n c n' c':Nat),(binOp .eql 22 (.slice a n c) (.slice Y n' c')).run DP w=.ok (.bool a.L) w:=λw a n c n' c'=>Lib.run_eql_slice_nil w _ _ a n c n' c' Sq.underlying22;cases A with
 |none =>
  have hl0:l=[]:=by
   cases l with
   |nil=>rfl
   |cons x l=>obtain⟨_,_,e,_⟩:=HR.out (by simp);cases e
  subst hl0;go_enter Sq.func93,fl;go_wp2;go_ret;exact⟨_,rfl,Bs _ _ _ _,.refl _⟩
 |some ad =>
  have hcell:∀j u,(l.map (J I))[j]?=U u->w.L (ad.add j)=U u/\(ad.add j).Lo<w.heap.size:=λj u hj=>by
   rw[BE] at hj;cases hx:l[j]? with
   |none=>rw[hx] at hj;cases hj
   |some x =>
    rw[hx] at hj;obtain⟨b,o,e,hb,hc⟩:=HR.out (λe=>by rw[e] at hx;simp at hx);obtain rfl:ad=⟨b,o,Y⟩:=by injection e
    have e2:(⟨b,o,Y⟩:bh).add j=⟨b,o+j,Y⟩:=cf _ _ _;rw[e2];exact⟨by rw[hc j x hx];exact hj,by show b<_;omega⟩
  have HC:=AB hcell;go_enter Sq.func93,fl;go_wp2_with (at_builtin;refine EB rfl _ _ 22 rfl w.heap.size 3 i0 (J I 0) 1 8 Sq.underlying22 hi zF zE zD rfl (by decide) _ _ _ rfl (dn w #[] 0 (AD _) (Bc _) rfl) ad l.L c (l.map (J I)) rfl ?qc1 ?qc2 ?qc3 ?qc4 ?qc5 ?qc6 ?_)
  case qc1=>simp
  case qc2=>intro j u hj;exact(AY (Cp _ _ _ (HC.out j u hj).2)).trans (HC.out j u hj).1
  case qc3=>intro u hu;obtain⟨x,_,rfl⟩:=BO.1 hu;rfl
  case qc4=>unfold maxLen;omega
  case qc5=>omega
  case qc6=>simp
  intro v' w1 zm hgrow hd;have hG:=AB (((Gr.refl w).Li _).SS hgrow hd (by intro k hk;simp[eb] at hk;omega));have hO:=AB zm;go_wp2;go_ret;exact⟨v',rfl,by simpa using hO.out,hG.out⟩
def Dx:(DP.info? 48).map (λi=>(i.zero,i.size,i.bytes))=U (U (.agg #[J I 0,J I 0,J I 0,.slice Y 0 0]),4,48):=by
 rw[Dg];kernel_rfl
def fS (w:C)(b o n:Nat):List Value:=(List.range (n*4)).map λj=>(w.L ⟨b,o+j,Y⟩).LE (J I 0)
def lk {w:C}{b o n j:Nat}(hj:j<n*4):(fS w b o n)[j]?=U ((w.L ⟨b,o+j,Y⟩).LE (J I 0)):=by simp[fS,hj]
def j4 (w:C)(b o n:Nat):(fS w b o n).L=n*4:=by simp[fS]
def hcell {w:C}{B b o:Nat}{l:List EO}(hc:∀(i:Nat) (h:EO),l[i]?=U h->Ng w B b (o+i*4) h){j:Nat}(hj:j<l.L*4):∃u,w.L ⟨b,o+j,Y⟩=U u/\u.oneCell'=true:=by
 obtain⟨h1,h2,h3,A,c,h4,_⟩:=hc (j / 4) _ (AG (show j / 4<l.L by omega));have:j % 4=0\/j % 4=1\/j % 4=2\/j % 4=3:=by omega
 obtain e|e|e|e:=this
 .rw[show o+j=o+j / 4*4 by omega];exact⟨_,h1,rfl⟩
 .rw[show o+j=o+j / 4*4+1 by omega];exact⟨_,h2,rfl⟩
 .rw[show o+j=o+j / 4*4+2 by omega];exact⟨_,h3,rfl⟩
 .rw[show o+j=o+j / 4*4+3 by omega];exact⟨_,h4,rfl⟩
def ub (b o c:Nat)(l:List EO)(w:C)(B:Nat)(hb:b<B)(hB:B<=w.heap.size)(hc:∀(i:Nat) (h:EO),l[i]?=U h->Ng w B b (o+i*4) h)(hn:0<l.L)(hl:l.L<=1048576) :
  bo DP 91 #[.slice (U ⟨b,o,Y⟩) l.L c] w λe w'=>∃g cap,e=.L (.slice (U ⟨g,0,Y⟩) l.L cap)/\Gr w w'/\w.heap.size<=g/\g<w'.heap.size/\(∀i,w'.H ⟨g,i,Y⟩=cq) /\
   ∀(i:Nat) (h:EO),l[i]?=U h->Ng w' B g (i*4) h:=by
 obtain⟨i0,hi,zF,zE,zD⟩:=cw Dx;have HC:=AB hc;have q22:∀(w:C) (a:Option bh) (n c n' c':Nat),(binOp .eql 25 (.slice a n c) (.slice Y n' c')).run DP w=.ok (.bool a.L) w:=λw a n c n' c'=>Lib.run_eql_slice_nil w _ _ a n c n' c' Sq.underlying25;go_enter Sq.func91,Tryz.ntmps91;go_wp2_with (at_builtin;refine EB rfl _ _ 25 rfl w.heap.size 48 i0 _ 4 48 Sq.underlying25 hi zF zE zD rfl (by decide) _ _ _ rfl (dn w #[] 0 (AD _) (Bc _) rfl) ⟨b,o,Y⟩ l.L c (fS w b o l.L) rfl ?qc1 ?qc2 ?qc3 ?qc4 ?qc5 ?qc6 ?_)
 case qc1=>exact j4 _ _ _ _
 case qc2 =>
  intro j u hj;have zY:j<l.L*4:=by have:=(Bd.1 hj).1;rwa [j4] at this
  rw[lk zY] at hj;obtain⟨v,hv,_⟩:=hcell HC.out zY;rw[hv] at hj;rw[cf,AY (Cp _ _ _ (show b<w.heap.size by omega)),hv];exact hj
 case qc3 =>
  intro u hu;obtain⟨j,hj,rfl⟩:=BO.1 hu;obtain⟨v,hv,h1⟩:=hcell HC.out (BM.1 hj);rw[hv];exact h1
 case qc4=>unfold maxLen;omega
 case qc5=>omega
 case qc6=>simp
 intro v' w1 zm hgrow hd;have hG:=AB (((Gr.refl w).Li _).SS hgrow hd (by intro k hk;simp[eb] at hk;omega));have zm:w1.S w.heap.size 48 4 v' l.L (fS w b o l.L):=by simpa using zm
 obtain⟨g,cap,rfl,_,_⟩:=zm.form hn;have hO:=AB zm;go_wp2;go_ret;refine⟨g,cap,rfl,hG.out,(hO.out.lt g rfl).1,(hO.out.lt g rfl).2,λi=>?_,λi h hi=>?_⟩
 .obtain⟨h,_⟩|⟨g',c',cur,h,_,hb,_⟩:=hO.out.2
  .cases h
  .obtain⟨rfl⟩:g=g':=by injection h with h1;injection h1 with h2;injection h2
   simp[bw,hb]
 .have a6:i<l.L:=(Bd.1 hi).1;have key:∀k u,k<4->w.L ⟨b,o+i*4+k,Y⟩=U u->w1.L ⟨g,i*4+k,Y⟩=U u:=λk u hk hu=>by
   have zY:i*4+k<l.L*4:=by omega
   have:=hO.out.cells (g:=g) rfl (i*4+k) u (by rw[lk zY,<-Nat.add_assoc,hu];rfl)
   rwa [cf,AU] at this
  obtain⟨h1,h2,h3,A,c',h4,h5⟩:=HC.out i h hi;exact⟨key 0 _ (by omega) h1,key 1 _ (by omega) h2,key 2 _ (by omega) h3,A,c',key 3 _ (by omega) h4,h5.gr hB hG.out⟩
def H7 (h:EO)(A:Option bh)(c:Nat):List Value:=[J I h.heads,J I h.F9,J I h.most,Z A h.off.L c,J I h.heads]
def DJ:(DP.info? 193).map (λi=>(i.zero,i.size,i.bytes))=U (U (.agg #[J I 0,J I 0,J I 0,.slice Y 0 0,J I 0]),5,56):=by
 rw[Dg];kernel_rfl
def yt {w:C}{ops:Array fq}{rest:List fq}{o:fq}{a:Act}{Q:Exit->Act->C->Prop}(hgd:o.guard=Y)(s x:Operand)(ho:o.op=.call { callee:=.builtin .append,args:=#[s,x],argTypes:=#[188,188] })
  (base:Nat) (v:bb) (n:Nat) (xs:List bb) (hs:a.eval s=v) (zm:w.S base 193 5 v n xs) (ad:bh) (c:Nat) (news:List bb) (hx:a.eval x=.slice (U ad) 1 c) (h5:news.L=5) (hc:∀(j:Nat) (u:bb),news[j]?=U u->w.L (ad.add j)=U u) (h1:∀u∈news,u.oneCell'=ew)
  (hn:n<=1048576) (hbase:base<=w.heap.size) (h:∀v' w',w'.S base 193 5 v' (n+1) (xs++news)->w.O w' v.L->w.drawn<=w'.drawn->wpList DP ops Q rest (a.put o.dst v') w'):wpList DP ops Q (o::rest) a w:=by
 obtain⟨i0,hi,zF,zE,zD⟩:=cw DJ;exact EB hgd s x 188 ho base 193 i0 _ 5 56 ((Sq.LT 188).trans Tryz.underlying188) hi zF zE zD rfl (by decide) v n xs hs zm ad 1 c news hx (by omega) hc h1 (by unfold maxLen;omega) (by omega) hbase h
def ud (cb:Nat)(nA hA:Option bh)(nc hc:Nat)(c:Eb)(w:C)(B:Nat)(hB:B<=w.heap.size)(h:Fz w B cb c nA hA nc hc)(hl:c.DR.L<=1048576) :
  bo DP 104 #[.S (U ⟨cb,0,Y⟩)] w λe w'=>∃v xs,e=.L v/\w'.S w.heap.size 193 5 v c.DR.L xs/\Gr w w'/\∀i,i<c.DR.L->∃A m,∀j,j<5->xs[i*5+j]?=(H7 (c.h i) A m)[j]?:=by
 have zv:=h.c1;have zY:=h.lt;have HH:=AB h.Fg;go_enter Sq.func104,Tryz.ntmps104;go_wp2;go_loopw [3,13] (λv i wr=>∃k:Nat,k<=c.DR.L/\i=J I k/\Gr w wr/\∃xs,wr.S w.heap.size 193 5 v k xs/\∀i,i<k->∃A m,∀j,j<5->xs[i*5+j]?=(H7 (c.h i) A m)[j]?) (λ_ i _=>c.DR.L-(O i).L)
 case atStart=>exact⟨0,by omega,rfl,.refl _,[],Bs _ _ _ _,λi hi=>AH hi (by omega)⟩
 case round =>
  obtain⟨k,hk,rfl,hg,xs,zm,a7⟩:=hrel;have HG:=AB hg;have HX:=AB a7;by_cases a6:k<c.DR.L
  .obtain⟨b,o,rfl,hb,h0,h1,h2,A_,m,h3,_⟩:=(HH.out.keep (w':=wr) λb o hb=>HG.out.cell (AI hb hB)).at_ a6;have hz:=HG.out.size;go_wp2_with (at_builtin;refine yt rfl _ _ rfl w.heap.size _ _ _ rfl ((zm.Li _).Li _ |>.Li _) ⟨wr.heap.size+1+1,0,Y⟩ 1 (H7 (c.h k) A_ m) rfl rfl ?c1 ?c2 ?c3 ?c4 ?_)
   case c1 =>
    intro j u hj;rw[cf,AU,AF _ _ _ _ (by simp)]
    match j,hj with
    |0,hj=>exact hj
    |1,hj=>exact hj
    |2,hj=>exact hj
    |3,hj=>exact hj
    |4,hj=>exact hj
    |j+5,hj=>simp[H7] at hj
   case c2=>intro u hu;simp[H7] at hu;rcases hu with rfl|rfl|rfl|rfl|rfl<;>rfl
   case c3=>omega
   case c4=>simp;omega
   intro v' w3 hown' hgrow hd;have a8:=AB ((((HG.out.Li _).Li _).Li _).SS hgrow hd λq hq=>(zm.lt q hq).1);have zk:xs.L=k*5:=zm.1;have aA:Hid (∀i,i<k+1->∃A m',∀j,j<5->(xs++H7 (c.h k) A_ m)[i*5+j]?=(H7 (c.h i) A m')[j]?):=AB λi hi=>by
    obtain h|h:=BP i k
    .obtain⟨A',m',hh⟩:=HX.out i h;exact⟨A',m',λj hj=>by rw[Bn (by omega)];exact hh j hj⟩
    .obtain rfl:i=k:=by omega
     exact⟨A_,m,λj hj=>by rw[Bo (by omega),zk];congr 1;omega⟩
   have aB:=AB hown';go_wp2;go_roundw
   case rel=>exact⟨k+1,by omega,by go_num,a8.out,_,aB.out,aA.out⟩
   case measure=>simp[Proofs.intOf];omega
  .have aC:k=c.DR.L:=by omega
   subst aC;have HO:=AB zm;go_wp2;go_ret;exact⟨_,xs,rfl,HO.out,HG.out,HX.out⟩
structure Nx (w:C)(g:Nat)(l:List Int):Prop where
 lt:g<w.heap.size
 left:∀(i:Nat) (x:Int),l[i]?=U x->w.L ⟨g,i*5+4,Y⟩=U (J I x)
 free:∀o,w.H ⟨g,o,Y⟩=cq
 rest:∀(i:Nat) (x:Int),l[i]?=U x->∃(n0 n1 n2:Int) (A:Option bh) (m c:Nat),w.L ⟨g,i*5,Y⟩=U (J I n0)/\w.L ⟨g,i*5+1,Y⟩=U (J I n1)/\w.L ⟨g,i*5+2,Y⟩=U (J I n2)/\w.L ⟨g,i*5+3,Y⟩=U (Z A m c)
def Nx.RH {w:C}{g:Nat}{l:List Int}(h:Nx w g l):Ou w w.heap.size (U ⟨g,0,Y⟩) l:=λ_=>⟨g,0,rfl,h.lt,λi x hx=>by
 simp only[AU]
 exact⟨h.left i x hx,h.rest i x hx⟩⟩
def Nx.keep {w w':C}{g:Nat}{l:List Int}(h:Nx w g l)(hz:w.heap.size<=w'.heap.size)(hk:w'.heap[g]?=w.heap[g]?):Nx w' g l:=by
 have e:∀o,w'.L ⟨g,o,Y⟩=w.L ⟨g,o,Y⟩:=λo=>AY hk;refine⟨AI h.lt hz,λi x hx=>(e _).trans (h.left i x hx),λo=>(BR hk).trans (h.free o),λi x hx=>?_⟩;obtain⟨n0,n1,n2,A,m,c,h0,h1,h2,h3⟩:=h.rest i x hx;exact⟨n0,n1,n2,A,m,c,(e _).trans h0,(e _).trans h1,(e _).trans h2,(e _).trans h3⟩
def Nx.SS {w:C}{g:Nat}{l:List Int}(h:Nx w g l){k:Nat}(hk:k<l.L)(y:Int):Nx (w.LE ⟨g,k*5+4,Y⟩ (J I y)) g (l.SS k y):=by
 have hz:(w.LE ⟨g,k*5+4,Y⟩ (J I y)).heap.size=w.heap.size:=by simp[E]
 have old:∀i x,(l.SS k y)[i]?=U x->∃x',l[i]?=U x':=λi x hx=>by
  have:=(Bd.1 hx).1;rw[Cu] at this;exact⟨_,AG this⟩
 refine⟨by rw[hz];exact h.lt,λi x hx=>?_,λo=>(BH _ _ _ _).trans (h.free o),λi x hx=>?_⟩
 .by_cases e:i=k
  .subst e;rw[List.getElem?_set_self hk] at hx;cases hx;exact AW _ _ _ (h.left i _ (AG hk))
  .rw[List.getElem?_set_ne (cu e)] at hx;rw[AN _ _ _ _ (by simp<;>omega)];exact h.left i x hx
 .obtain⟨x',a6⟩:=old i x hx;obtain⟨n0,n1,n2,A,m,c,h0,h1,h2,h3⟩:=h.rest i x' a6;refine⟨n0,n1,n2,A,m,c,?_,?_,?_,?_⟩
  all_goals rw[AN _ _ _ _ (by simp<;>omega)]
  .exact h0
  .exact h1
  .exact h2
  .exact h3
def aJ:List (Int×Int)->List bb
 |[]=>[]
 |p::l=>J I p.1::J I p.2::aJ l
def lP (l m:List (Int×Int)):aJ (l++m)=aJ l++aJ m:=by
 induction l with
 |nil=>rfl
 |cons p l ih=>simp[aJ,ih]
def iu {l:List (Int×Int)}{i:Nat}(h:i<l.L):(aJ l)[i*2]?=U (J I (l[i]?.LE (0,0)).1)/\(aJ l)[i*2+1]?=U (J I (l[i]?.LE (0,0)).2):=by
 induction l generalizing i with
 |nil=>simp at h
 |cons p l ih =>
  cases i with
  |zero=>exact⟨rfl,rfl⟩
  |succ i =>
   have:=ih (i:=i) (by simpa using h);rw[Nat.succ_mul];simpa [aJ] using this
def DK:(DP.info? 195).map (λi=>(i.zero,i.size,i.bytes))=U (U (.agg #[J I 0,J I 0]),2,16):=by
 rw[Dg];kernel_rfl
def yu {w:C}{ops:Array fq}{rest:List fq}{o:fq}{a:Act}{Q:Exit->Act->C->Prop}(hgd:o.guard=Y)(s x:Operand)(ho:o.op=.call { callee:=.builtin .append,args:=#[s,x],argTypes:=#[119,119] })
  (base:Nat) (v:bb) (n:Nat) (xs:List bb) (hs:a.eval s=v) (zm:w.S base 195 2 v n xs) (ad:bh) (c:Nat) (u1 u2:bb) (hx:a.eval x=.slice (U ad) 1 c) (zv:w.L (ad.add 0)=U u1) (zt:w.L (ad.add 1)=U u2) (h1:u1.oneCell'=ew) (h2:u2.oneCell'=ew)
  (hn:n<=1048576) (hbase:base<=w.heap.size) (h:∀v' w',w'.S base 195 2 v' (n+1) (xs++[u1,u2])->w.O w' v.L->w.drawn<=w'.drawn->wpList DP ops Q rest (a.put o.dst v') w'):wpList DP ops Q (o::rest) a w:=by
 obtain⟨i0,hi,zF,zE,zD⟩:=cw DK;refine EB hgd s x 119 ho base 195 i0 _ 2 16 ((Sq.LT 119).trans Tryz.underlying119) hi zF zE zD rfl (by decide) v n xs hs zm ad 1 c [u1,u2] hx rfl (λj u hj=>?_) (λu hu=>?_) (by unfold maxLen;omega) (by omega) hbase h
 .match j,hj with
  |0,hj=>cases hj;exact zv
  |1,hj=>cases hj;exact zt
 .simp only[AM,AK,or_false] at hu;obtain rfl|rfl:=hu
  .exact h1
  .exact h2
def ue (cb:Nat)(nA hA A:Option bh)(nc hc wc:Nat)(c:Eb)(r:EK)(ws:List Int)(w:C)(h:Fz w w.heap.size cb c nA hA nc hc)(aM:c.Ok)(hr:∀i,c.LT (r i))(aV:∀x∈ws,0<=x/\x<=60)(bV:ws.L<=5)(hw:RI w w.heap.size A ws) :
  bo DP 58 #[.S (U ⟨cb,0,Y⟩),ET r,Z A ws.L wc] w λe w'=>∃v,e=.L v/\w'.S (w.heap.size+1) 195 2 v (FQ c r ws).L (aJ (FQ c r ws))/\Gr w w':=by
 obtain⟨W0,zM⟩:∃W0:C,W0=w.Li (G #[.int .u8 (r 0),.int .u8 (r 1),.int .u8 (r 2),.int .u8 (r 3),.int .u8 (r 4)] 115):=⟨_,rfl⟩;have zL:Gr w W0:=zM▸(Gr.refl w).Li _;have zF:W0.heap.size=w.heap.size+1:=by rw[zM];simp
 have aN:Fz W0 W0.heap.size cb c nA hA nc hc:=h.on zL;have aO:=AB (ud cb nA hA nc hc c W0 W0.heap.size (AD _) aN (by have:=aM.h4;omega));have bI:=AB aN;have bJ:Hid (∀i,i<5->W0.L ⟨w.heap.size,i,Y⟩=U (.int .u8 (r i:Nat))):=AB λi hi=>by
  rw[zM,AF _ _ _ _ (by simp)]
  match i,hi with
  |0,_=>rfl
  |1,_=>rfl
  |2,_=>rfl
  |3,_=>rfl
  |4,_=>rfl
 have bK:=AB (hw.gr (AD _) zL);have HW:=AB zM;have aW:=AB zL;have aC:=AB aM;have HR:=AB hr;have HWS:=AB aV;clear zM zL aN h aM hr aV hw;unfold ET;go_enter Sq.func58,Tryz.ntmps58;go_wp2_with fail;rw[<-HW.out];refine aO.out.LT ?_;rintro e w1 ⟨v1,xs,rfl,zm,zJ,aX⟩;have h1:=aC.out.h1;obtain⟨g,cap,rfl,zQ⟩:∃g cap,v1=.slice (U ⟨g,0,Y⟩) c.DR.L cap/\W0.heap.size<=g:=by
  obtain⟨_,h0⟩|⟨g,cap,cur,rfl,h2,_⟩:=zm.2
  .omega
  .exact⟨g,cap,rfl,h2⟩
 have hoW:Nx w1 g (En c r ws 0).1:=by
  have hl0:(En c r ws 0).1=c.DR.map (·.heads):=rfl;have hcell:=zm.cells (g:=g) rfl;have e5:∀i x,(En c r ws 0).1[i]?=U x->∃A m,x=(c.h i).heads/\∀j,j<5->∀u,(H7 (c.h i) A m)[j]?=U u->w1.L ⟨g,i*5+j,Y⟩=U u:=λi x hx=>by
   rw[hl0] at hx;have aP:i<c.DR.L:=by have:=(Bd.1 hx).1;simpa using this
   obtain⟨A',m,hh⟩:=aX i aP;refine⟨A',m,?_,λj hj u hu=>?_⟩
   .rw[BE,AG aP] at hx;cases hx;unfold Eb.h;rw[AG aP];rfl
   .have:=hcell (i*5+j) u ((hh j hj).trans hu);have e:(⟨g,0,Y⟩:bh).add (i*5+j)=⟨g,0+(i*5+j),Y⟩:=by unfold ed;split<;>simp_all
    rw[e,AU] at this;exact this
  refine⟨(zm.lt g rfl).2,λi x hx=>?_,λo=>?_,λi x hx=>?_⟩
  .obtain⟨A',m,rfl,hc⟩:=e5 i x hx;exact hc 4 (by omega) _ rfl
  .obtain⟨hb,_⟩|⟨g2,bU,cur,e2,_,hb,_⟩:=zm.2
   .cases hb
   .have e3:g=g2:=by injection e2 with a;injection a with a;injection a
    subst e3;unfold bw;rw[hb];simp
  .obtain⟨A',m,rfl,hc⟩:=e5 i x hx;exact⟨_,_,_,_,_,_,hc 0 (by omega) _ rfl,hc 1 (by omega) _ rfl,hc 2 (by omega) _ rfl,hc 3 (by omega) _ rfl⟩
 have HOW:=AB hoW;have bL:=AB zJ;have b9:=(zm.lt g rfl).2;have zE:=zJ.size;clear zm zJ aX hoW aO;go_wp2;go_loopw [7,16] (λv i wr=>∃k:Nat,k<=ws.L/\i=J I k/\Gr W0 wr/\Nx wr g (En c r ws k).1/\wr.S w1.heap.size 195 2 v (En c r ws k).2.L (aJ (En c r ws k).2)/\w1.heap.size<=wr.heap.size) (λ_ i _=>ws.L-(O i).L)
 case atStart=>exact⟨0,by omega,rfl,bL.out,HOW.out,Bs _ _ _ _,AD _⟩
 case round =>
  obtain⟨wq,rfl⟩:∃wq,wq=wr:=⟨_,rfl⟩;obtain⟨k,hk,rfl,zV,hoq,zm,hzq⟩:=hrel;have aY:=AB zV;have HOQ:=AB hoq;have aZ:=AB zm;by_cases zY:k<ws.L
  .obtain⟨b,o,rfl,hb,zP⟩:=(bK.out.gr (by omega) zV).at_ zY;have bW:wq.L ⟨w.heap.size,k,Y⟩=U (.int .u8 (r k:Nat)):=(zV.cell (by show w.heap.size<_;omega)).trans (bJ.out k (by omega));have HD:=AB (qP cb c (r k) wq (bI.out.on zV) aC.out.h4 aC.out.F9 (HR.out k));have hdb:=MP c (HR.out k) aC.out.F9 (c.Ke (r k)).L;rw[List.take_length,<-DB] at hdb;have hx:=HWS.out _ (Gh ws k zY)
   have aD:=AB (show Kv c r ws k=(ws[k]?.LE 0-c.F9 (r k)).L from rfl);obtain⟨T,hT⟩:∃T,T=Kv c r ws k:=⟨_,rfl⟩;rw[<-hT] at aD;have HTT:=AB hT;have aQ:=Ho.all aC.out (r:=r) (ws:=ws) (AD _) k hk;have bM:=AB aQ;generalize c.F9 (r k)=D at HD hdb aD;generalize ws[k]?.LE 0=x at zP hx aD;have hmax:(max 0 (x-D):Int)=(T:Int):=by rw[aD.out];omega
   have hmax':(if(x-D)<0 then(0:Int) else x-D)=(T:Int):=by rw[aD.out];split<;>omega
   have hT60:T<=60:=by rw[aD.out];omega
   clear zV hoq zm hT aQ;go_wp2_with fail;refine HD.out.LT ?_;rintro e w2 ⟨rfl,zI⟩;have bN:=AB (aY.out.trans zI);have bA:=zI;have zD:=zI.size;have bB:=AB (HOQ.out.keep zI.size (zI.Ly.Lo g HOQ.out.lt));have bC:=AB (aR aZ.out λq _ hl=>zI.Ly.Lo q hl);have hgT:(T:Int)<=60:=by omega
   clear zI bA HD;go_wp2;go_loopw [7,29] (λv i wr=>∃m:Nat,m<=T/\i=J I m/\Gr W0 wr/\Nx wr g (Fa k (En c r ws k) m).1/\wr.S w1.heap.size 195 2 v (Fa k (En c r ws k) m).2.L (aJ (Fa k (En c r ws k) m).2)/\w1.heap.size<=wr.heap.size) (λ_ i _=>T-(O i).L)
   case atStart=>exact⟨0,by omega,rfl,bN.out,bB.out,bC.out,by omega⟩
   case round =>
    obtain⟨m,hm,rfl,b5,hoi,aS,bO⟩:=hrel;have aT:=AB b5;have a8:=AB hoi;have aA:=AB aS;clear b5 hoi aS;by_cases bX:m<T
    .have b6:=bM.out.it (d:=k) zY m;have aF:=AB b6;obtain⟨S,hS⟩:∃S,S=Fa k (En c r ws k) m:=⟨_,rfl⟩;have b7:Hid (Fa k (En c r ws k) (m+1)=dO k S):=AB (by rw[hS];rfl);rw[<-hS] at a8 aA aF;have HST:=AB (λh:EM S.1 S.1.L<0=>(nX (c:=c) (r:=r) (ws:=ws) (k:=k) (m:=m) zY (by rw[<-HTT.out];omega) (by rw[<-hS];exact h)).trans (by rw[<-hS]));have a6:=AB (yq (U ⟨g,0,Y⟩) cap S.1 wr wr.heap.size (AD _) a8.out.RH (by rw[aF.out.len];have:=aC.out.h4;omega))
     have zk:=aF.out.len
     have bD:=AB (show S.2.L<=160 by
      have h1:=GL 0 40 _ aF.out.Li;have h2:=aF.out.count
      omega)
     have b8:=jo S.1 S.1.L;have a7:Hid (dO k S=if EM S.1 S.1.L<0 then S else(S.1.SS (EM S.1 S.1.L).L (S.1[(EM S.1 S.1.L).L]?.LE 0-1),S.2++[((k:Int),EM S.1 S.1.L)])):=AB rfl;rw[zk] at a6 HST a7 b8;have hS':=AB hS;clear hS b6;generalize EM S.1 c.DR.L=q at a6 HST a7 b8;by_cases hq:q<0
     .have HLL:=AB (HST.out hq);have hqd:decide (q<0)=true:=by simpa using hq
      clear HST a7;go_wp2_with fail;refine a6.out.LT ?_;rintro e w3 ⟨rfl,zH⟩;have aU:=AB zH;have aB:=AB (aR aA.out λq _ hl=>zH.Ly.Lo q hl);clear zH a6;go_wp2;go_ret;refine⟨_,rfl,?_,aW.out.trans (aT.out.trans aU.out)⟩;rw[HLL.out];exact gq aB.out (by omega)
     .obtain⟨j,rfl⟩:∃j:Nat,q=j:=⟨q.L,by omega⟩;have aK:=AB (b7.out.trans (a7.out.trans (AE hq)));rw[Cn] at aK;have aH:j<S.1.L:=by omega
      have bE:=aF.out.Li _ (Gh S.1 j aH);have bY:=AB (a8.out.left j _ (AG aH));have hqd:decide ((j:Int)<0)=false:=by simp
      clear HST a7 b7 hq;go_wp2_with fail;refine a6.out.LT ?_;rintro e w3 ⟨rfl,zH⟩;have aU:=AB zH;have hb3:=zH.Ly.Lo g a8.out.lt;have aB:=AB (aR aA.out λq _ hl=>zH.Ly.Lo q hl);have aG:=AB (a8.out.keep zH.size hb3);have hz3:=zH.size;have hcell:w3.L ⟨g,j*5+4,Y⟩=U (J I (S.1[j]?.LE 0)):=by
       rw[AG aH];exact aG.out.left j _ (AG aH)
      have bZ:=aG.out.free (j*5+4);have HX:Hid (Nx (w3.LE ⟨g,j*5+4,Y⟩ (J I (S.1[j]?.LE 0-1))) g (S.1.SS j (S.1[j]?.LE 0-1))):=AB (aG.out.SS aH _);generalize S.1[j]?.LE 0=y at bE hcell HX aK;have hjh:j<c.DR.L:=by omega
      have hglt:g<w3.heap.size:=aG.out.lt;have bP:g<w1.heap.size:=b9;clear zH a6;go_wp2_with (at_builtin;refine yu rfl _ _ rfl w1.heap.size _ _ _ rfl ((ownsRow_setCell_below aB.out (by show g<_;omega) _).Li _) ⟨w3.heap.size,0,Y⟩ 1 (J I k) (J I j) rfl ?c1 ?c2 rfl rfl ?c3 ?c4 ?_)
      case c1=>rw[Addr.add_lit,AF _ _ _ _ (by simp)];rfl
      case c2=>rw[Addr.add_lit,AF _ _ _ _ (by simp)];rfl
      case c3=>have:=bD.out;omega
      case c4=>simp;omega
      intro v' w4 hown' hgrow hd;have aI:=hgrow.size;simp only[CU] at aI;have bF:Gr W0 w4:=(((aT.out.trans aU.out).LE (p:=⟨g,j*5+4,Y⟩) (by show _<=g;omega) (J I (y-1))).Li _).SS hgrow hd λq hq=>by have:=(aB.out.lt q hq).1;omega
      have zU:U g≠_:=dw aB.out bP;have bQ:=(hgrow.Lo g (by simp[E];omega) zU).trans (heap_alloc_old _ _ (by simp[E];omega));have bG:=AB (HX.out.keep (w':=w4) (by simp[E] at aI ⊢;omega) bQ);have bH:=AB bF;have aL:Hid ((Fa k (En c r ws k) (m+1)).2.L=S.2.L+1/\aJ (Fa k (En c r ws k) (m+1)).2=aJ S.2++[J I k,J I j]):=AB (by rw[aK.out,lP];exact⟨by simp,rfl⟩)
      have bR:Hid (w4.S w1.heap.size 195 2 v' (Fa k (En c r ws k) (m+1)).2.L (aJ (Fa k (En c r ws k) (m+1)).2)):=AB (by rw[aL.out.1,aL.out.2];exact hown');have HX4:Hid (Nx w4 g (Fa k (En c r ws k) (m+1)).1):=AB (by rw[aK.out];exact bG.out);have bS:w1.heap.size<=w4.heap.size:=by simp[E] at aI;omega
      go_wp2;go_roundw
      case rel=>exact⟨m+1,by omega,by go_num,bH.out,HX4.out,bR.out,bS⟩
      case measure=>simp[Proofs.intOf];omega
    .have hmt:m=T:=by omega
     have HE:Hid (En c r ws (k+1)=Fa k (En c r ws k) m):=AB (by rw[hmt,HTT.out];rfl);rw[<-HE.out] at a8 aA;subst hmt;go_wp2;go_roundw
     case rel=>exact⟨k+1,by omega,by go_num,aT.out,a8.out,aA.out,bO⟩
     case measure=>simp[Proofs.intOf];omega
  .have bT:k=ws.L:=by omega
   subst bT;go_wp2;go_ret;exact⟨_,rfl,gq aZ.out (by omega),aW.out.trans aY.out⟩
def L6 {w:C}{base:Nat}{v:bb}{l:List (Int×Int)}(h:w.S base 195 2 v l.L (aJ l)):∃A c,v=Z A l.L c/\Ih w w.heap.size A l:=by
 obtain⟨rfl,h0⟩|⟨g,cap,cur,rfl,_,hg,_⟩:=h.2
 .have:l=[]:=Bf h0;subst this;exact⟨Y,0,rfl,λh=>AH rfl h⟩
 .refine⟨_,cap,rfl,λ_=>⟨g,0,rfl,(AC.1 hg).1,λi x hx=>?_⟩⟩;have hi:=(Bd.1 hx).1;have a6:l[i]?.LE (0,0)=x:=by rw[hx];rfl
  have e:∀j,(⟨g,0,Y⟩:bh).add j=⟨g,0+j,Y⟩:=λj=>by unfold ed;split<;>simp_all
  have h1:=h.cells (g:=g) rfl _ _ (iu hi).1;have h2:=h.cells (g:=g) rfl _ _ (iu hi).2;rw[e,a6] at h1 h2;exact⟨h1,by rw[Nat.add_assoc];exact h2⟩
def RsK (w:C)(K:Nat->Prop)(A:Option bh)(l:List (Int×Int)):Prop :=
 l≠[]->∃b o,A=U ⟨b,o,Y⟩/\K b/\∀(i:Nat) (x:Int×Int),l[i]?=U x->w.L ⟨b,o+i*2,Y⟩=U (J I x.1)/\w.L ⟨b,o+i*2+1,Y⟩=U (J I x.2)
def MF {w:C}{base:Nat}{v:bb}{l:List (Int×Int)}(h:w.S base 195 2 v l.L (aJ l)):∃A c,v=Z A l.L c/\RsK w (λb=>base<=b/\b<w.heap.size) A l:=by
 obtain⟨A,c,rfl,h2⟩:=L6 h;refine⟨A,c,rfl,λhn=>?_⟩;obtain⟨b,o,rfl,hb,hc⟩:=h2 hn;exact⟨b,o,rfl,⟨(h.lt b rfl).1,hb⟩,hc⟩
def Jr {w:C}{base:Nat}{v:bb}{l:List Int}(h:w.S base 3 1 v l.L (l.map (J I))):∃A c,v=Z A l.L c/\IU w (λb=>base<=b/\b<w.heap.size) A l:=by
 obtain⟨A,c,rfl,h2⟩:=RI.Fw h;refine⟨A,c,rfl,λhn=>?_⟩;obtain⟨b,o,rfl,hb,hc⟩:=h2 hn;exact⟨b,o,rfl,⟨(h.lt b rfl).1,hb⟩,hc⟩
def KP (n:Nat)(bl:Nat->Nat)(w w':C):Prop:=w.heap.size<=w'.heap.size/\∀b,b<w.heap.size->(∀h,h<n->bl h≠b)->w'.heap[b]?=w.heap[b]?
section
variable {n:Nat} {bl:Nat->Nat} {w w' w2:C}
def KP.refl (n:Nat)(bl:Nat->Nat)(w:C):KP n bl w w:=⟨AD _,λ_ _ _=>rfl⟩
def KP.trans (h:KP n bl w w')(k:KP n bl w' w2):KP n bl w w2:=⟨AX h.1 k.1,λb hb hk=>(k.2 b (AI hb h.1) hk).trans (h.2 b hb hk)⟩
def KP.gr (h:Gr w w'):KP n bl w w':=⟨h.size,λb hb _=>h.Ly.Lo b hb⟩
def KP.SS {a:Nat}(ha:a<n)(t:Nat)(v:bb):KP n bl w (w.LE ⟨bl a,t,Y⟩ v):=⟨by simp[E],λb _ hk=>by rw[Go.Em.EC];exact AE (λe=>hk a ha e.LT)⟩
def KP.drew (h:KP n bl w w'):KP n bl w w'.drew:=h
def KP.cell (h:KP n bl w w'){b:Nat}(hb:b<w.heap.size)(hk:∀h,h<n->bl h≠b)(o:Nat):w'.L ⟨b,o,Y⟩=w.L ⟨b,o,Y⟩:=AY (h.2 b hb hk)
end
def Ge (p:Int)(r:EK)(ls:List (Int×Int))(k i h t:Nat):Int :=
 Hp p r ls h t k+if(ls[k]?.LE (0,0)).2=t/\h≠t then J6 p (wl (r (ls[k]?.LE (0,0)).1.L)) h i else 0
def qh (p:Int)(r:EK)(ls:List (Int×Int))(k h t:Nat):Ge p r ls k 0 h t=Hp p r ls h t k:=by unfold Ge J6;split<;>simp
def r8 (p:Int)(r:EK)(ls:List (Int×Int))(k h t:Nat):Ge p r ls k (wl (r (ls[k]?.LE (0,0)).1.L)).L h t=Hp p r ls h t (k+1):=rfl
def La (p:Int)(n i:Nat):Int:=p / n+(if(i:Int)<p % n then 1 else 0)
def qi (p:Int)(r:EK)(ls:List (Int×Int))(k i h t:Nat):Ge p r ls k (i+1) h t =
  Ge p r ls k i h t+if(ls[k]?.LE (0,0)).2=t/\h≠t/\(wl (r (ls[k]?.LE (0,0)).1.L))[i]?.LE 0=h then La p (wl (r (ls[k]?.LE (0,0)).1.L)).L i else 0:=by
 unfold Ge La;by_cases h1:(ls[k]?.LE (0,0)).2=t/\h≠t
 .rw[AJ h1,AJ h1];by_cases h2:(wl (r (ls[k]?.LE (0,0)).1.L))[i]?.LE 0=h
  .rw[AJ ⟨h1.1,h1.2,h2⟩];show _+(_+if _ then _ else _)=_;rw[AJ h2];omega
  .rw[AE (λh=>h2 h.2.2)];show _+(_+if _ then _ else _)=_;rw[AE h2];omega
 .rw[AE h1,AE h1,AE (λh=>h1 ⟨h.1,h.2.1⟩)];omega
def uf {p:Int}(hp:0<=p/\p<=99)(r:EK)(ls:List (Int×Int))(k i h t:Nat):0<=Ge p r ls k i h t/\Ge p r ls k i h t<=400*k+100*i:=by
 have h1:=mU hp r ls h t k;have h2:=mT hp (wl (r (ls[k]?.LE (0,0)).1.L)) h i;unfold Ge;split<;>omega
def z8 {w:C}{ops:Array fq}{rest:List fq}{o:fq}{a:Act}{Q:Exit->Act->C->Prop}(hgd:o.guard=Y)(s x:Operand)(ho:o.op=.call { callee:=.builtin .append,args:=#[s,x],argTypes:=#[50,50] })
  (base:Nat) (v:bb) (n:Nat) (xs:List bb) (hs:a.eval s=v) (zm:w.S base 22 1 v n xs) (ad:bh) (c:Nat) (u:bb) (hx:a.eval x=.slice (U ad) 1 c) (hc:w.L (ad.add 0)=U u) (h1:u.oneCell'=ew)
  (hn:n<=1048576) (hbase:base<=w.heap.size) (h:∀v' w',w'.S base 22 1 v' (n+1) (xs++[u])->w.O w' v.L->w.drawn<=w'.drawn->wpList DP ops Q rest (a.put o.dst v') w'):wpList DP ops Q (o::rest) a w:=by
 obtain⟨i0,hi,zF,zE,zD⟩:=cw Dw;refine EB hgd s x 50 ho base 22 i0 _ 1 24 ((Sq.LT 50).trans Tryz.underlying50) hi zF zE zD rfl (by decide) v n xs hs zm ad 1 c [u] hx rfl (λj u hj=>?_) (λu' hu=>?_) (by unfold maxLen;omega) (by omega) hbase h
 .match j,hj with
  |0,hj=>cases hj;exact hc
 .simp only[AM,AK,or_false] at hu;subst hu;exact h1
def yv (nA hA gA rA:Option bh)(nc hc gc rc:Nat)(c:Eb)(ls:List (List Int))(rs:List (Int×Int))(p:Int)(w:C)(B:Nat)(hB:B<=w.heap.size)(hn:RI w B nA c.DW)(hh:FY w B hA c.DR)(hg:FX w B gA ls)(hr:Ih w B rA rs)
  (bY:c.DW.L<=4611686018427387904) (zC:c.DR.L<=4611686018427387904) (bB:∀h∈c.DR,h.off.L<=4611686018427387904) (bZ:ls.L<=4611686018427387904) (zr:∀x∈ls,x.L<=4611686018427387904) (c0:rs.L<=4611686018427387904) (aM:rs.L<=rc)
  (hF:Eo c ls=0) (hR:cZ c.DW.L rs=0) (hp:0<=p/\p<=99) :
  bo DP 102 #[EG nA hA c nc hc,Z gA ls.L gc,Z rA rs.L rc,J I p] w λe w'=>Gr w w'/\∃A k,e=.L (.tuple #[Z A c.DR.L k,J I 0]) /\
   FX w' w'.heap.size A (JG c (DY ls) p (E2 c.DW.L rs rs.L)):=by
 unfold EG;obtain⟨W0,zM⟩:∃W0:C,W0=w.Li (G #[Z nA c.DW.L nc,Z hA c.DR.L hc] 27):=⟨_,rfl⟩;have zL:Gr w W0:=zM▸(Gr.refl w).Li _;have zF:W0.heap.size=w.heap.size+1:=by rw[zM];simp
 have HW:=AB zM;have aQ:=ua nA hA gA rA nc hc gc rc c ls rs W0 B (by omega) (hn.gr hB zL) (hh.keep λb o hb=>zL.cell (AI hb hB)) (hg.gr hB zL) (hr.gr hB zL) bY zC bB bZ zr c0 aM hF hR;unfold EG at aQ;have bC:=AB aQ;have c4:=AB zL;have bD:Hid (W0.L ⟨w.heap.size,1,Y⟩=U (Z hA c.DR.L hc)):=AB (by rw[zM,AF _ _ _ _ rfl];rfl);have aR:=AB hF
 have a8:=AB (Eb.Ok.of (show Es c=0 by
  have:=hF;unfold Eo at this;split at this
  .exact AH this (by assumption)
  .simpa using ‹¬Es c≠0›))
 have HRZ:=AB (r7 hR);have HBT:Hid (∀W,bo DP 57 #[J I p,J I 0,J I 99] W λe w'=>e=.L (.bool ew)/\W=w'):=AB λW=>by
  have:Ha p 0 99=true:=by simp[Ha];omega
  rw[<-this];exact bN _ _ _ W
 clear zM zL aQ hn hh hg hr zr bB hF hR;go_enter Sq.func102,Tryz.ntmps102;go_wp2_with fail;rw[<-HW.out];refine bC.out.LT ?_;rintro e w1 ⟨zJ,cb,A,ka,rfl,bE,bF⟩;obtain⟨W1,zu⟩:∃W1:C,W1=w1.Li (G #[.int .u8 (DY ls 0),.int .u8 (DY ls 1),.int .u8 (DY ls 2),.int .u8 (DY ls 3),.int .u8 (DY ls 4)] 114):=⟨_,rfl⟩;have aF:Gr w1 W1:=zu▸(Gr.refl w1).Li _;have zE:W1.heap.size=w1.heap.size+1:=by rw[zu];simp
 have hzz:=zJ.size;have bG:=AB (zJ.trans aF);have c5:=AB (bE.on aF);have cA:=AB (bF.gr (AD _) aF);have aS:Hid (∀i,i<5->W1.L ⟨w1.heap.size,i,Y⟩=U (.int .u8 (DY ls i:Nat))):=AB λi hi=>by
  rw[zu,AF _ _ _ _ (by simp)]
  match i,hi with
  |0,_=>rfl
  |1,_=>rfl
  |2,_=>rfl
  |3,_=>rfl
  |4,_=>rfl
 have zv:w1.L ⟨w.heap.size,1,Y⟩=U (Z hA c.DR.L hc):=(zJ.cell (by show w.heap.size<_;omega)).trans bD.out;have cR:w.heap.size<w1.heap.size:=by omega
 have cS:=a8.out.h4;have cT:=a8.out.h1;have cU:=λw=>ip c.DR.L w (by omega);have aT:=AB zu;clear zJ bE bF aF bC zu;unfold ET;go_wp2_with fail;rw[<-aT.out];refine(HBT.out _).LT ?_;rintro e w' ⟨rfl,rfl⟩;rw[aT.out];go_wp2;rw[<-aT.out];have hwl2:w.heap.size<W1.heap.size/\w1.heap.size<W1.heap.size:=by omega
 have cV:=AB zE;clear zv zE;have zv:=AB ((bG.out.cell (p:=⟨w.heap.size,1,Y⟩) (by show w.heap.size<_;omega)).trans bD.out);go_loopw [14,39] (λv i wr=>∃k:Nat,k<=c.DR.L/\i=J I k/\Gr W1 wr/\∃bl,Jv wr W1.heap.size v c.DR.L k (λ_ _=>0) bl) (λ_ i _=>c.DR.L-(O i).L)
 case atStart=>exact⟨0,by omega,rfl,.refl _,λ_=>0,.nil _ _ _ _ _⟩
 case round =>
  obtain⟨k,hk,rfl,zV,bl,a7⟩:=hrel;have aA:=AB zV;have HT:=AB a7;have zv:=(zV.cell (p:=⟨w.heap.size,1,Y⟩) (by show w.heap.size<_;omega)).trans zv.out;have cW:=zV.size;clear zV a7;by_cases zY:k<c.DR.L
  .obtain⟨xs,hrow,bH⟩:=HT.out.row;have HXS:=AB bH;have bT:=AB hrow;clear bH;have cO:w.heap.size<wr.heap.size:=by omega
   go_wp2_with (at_builtin;refine z8 rfl _ _ rfl W1.heap.size _ _ _ rfl ((hrow.Li _).Li _) ⟨wr.heap.size+1,0,Y⟩ 1 (.slice (U ⟨wr.heap.size,0,Y⟩) c.DR.L c.DR.L) rfl ?c1 rfl ?c2 ?c3 ?_)
   case c1=>rw[Addr.add_lit,AF _ _ _ _ (by simp)];rfl
   case c2=>omega
   case c3=>simp;omega
   intro v' w3 hown' hgrow hd;have aB:=AB (((aA.out.Li _).Li _).SS hgrow hd λq hq=>(hrow.lt q hq).1);have aU:=AB (HT.out.push (q:=wr.heap.size) bT.out HXS.out (by omega) (AD _) (λb hb=>(ae _ _ (by simp;omega)).trans (ae _ _ hb)) ((ae _ _ (by simp)).trans (heap_alloc_new _ _)) (λt ht=>el _ _ ht) (by simp;omega) hgrow hown');clear hown' hgrow hd hrow;go_wp2;go_roundw
   case rel=>exact⟨k+1,by omega,by go_num,aB.out,_,aU.out⟩
   case measure=>simp[Proofs.intOf];omega
  .have aV:k=c.DR.L:=by omega
   subst aV;obtain⟨g,hv,zQ,_⟩:∃g,(∃cap,u14=.slice (U ⟨g,0,Y⟩) c.DR.L cap)/\g<wr.heap.size/\True:=by
    obtain⟨xs,h1,h2⟩:=HT.out.row;obtain⟨_,h0⟩|⟨g,cap,cur,hv,_,k2,_⟩:=h1.2
    .omega
    .exact⟨g,⟨cap,hv⟩,(AC.1 k2).1,trivial⟩
   obtain⟨cap,rfl⟩:=hv;have bI:∀x∈E2 c.DW.L rs rs.L,0<=x/\x<=60:=λx hx=>by
    obtain⟨j,_,rfl⟩:=BO.1 hx;exact nV HRZ.out _ _ (AD _)
   have aG:=ue cb nA hA A nc hc ka c (DY ls) (E2 c.DW.L rs rs.L) wr (c5.out.on aA.out) a8.out (ir aR.out) bI (by rw[dY];exact a8.out.n5) ((cA.out.gr (by omega) aA.out).more (by omega));rw[dY] at aG;have hll:=jZ a8.out (DY ls) (E2 c.DW.L rs rs.L);have bJ:Hid (∀q∈FQ c (DY ls) (E2 c.DW.L rs rs.L),0<=q.1/\q.1<c.DW.L/\0<=q.2/\q.2<c.DR.L):=AB λq hq=>by
    have:=(lj a8.out (DY ls) (E2 c.DW.L rs rs.L)).night q hq
    rwa [dY] at this
   have HOL:Hid (JG c (DY ls) p (E2 c.DW.L rs rs.L)=L5 c.DR.L λh t=>Hp p (DY ls) (FQ c (DY ls) (E2 c.DW.L rs rs.L)) h t (FQ c (DY ls) (E2 c.DW.L rs rs.L)).L):=AB rfl;obtain⟨L,hL⟩:∃L,L=FQ c (DY ls) (E2 c.DW.L rs rs.L):=⟨_,rfl⟩;rw[<-hL] at aG hll bJ HOL;clear hL;have aK:=AB aG
   have aM:∀i,i<5->wr.L ⟨w1.heap.size,i,Y⟩=U (.int .u8 (DY ls i:Nat)):=λi hi=>(aA.out.cell (by show w1.heap.size<_;omega)).trans (aS.out i hi);obtain⟨a0,a1,a2,a3,a4⟩:=I3 aM;clear aG aM bI;unfold ET at aK;go_wp2_with fail;refine aK.out.LT ?_;rintro e w2 ⟨v,rfl,hown2,zI⟩;obtain⟨A2,k2,rfl,bK⟩:=MF hown2;have cB:=AB bK;have cC:=AB (aA.out.trans zI);have cD:=AB ((HT.out.gr zI).congr (M':=λh t=>Hp p (DY ls) L h t 0) λa t _ _=>rfl)
   have aW:Hid (∀h,h<c.DR.L->bl h<wr.heap.size):=AB λh hh=>(HT.out.at_ hh hh).2.1;have zD:=zI.size;have cP:=AB (λi hi=>(zI.cell (p:=⟨w1.heap.size,i,Y⟩) (by show w1.heap.size<_;omega)).trans (((aA.out.cell (p:=⟨w1.heap.size,i,Y⟩) (by show w1.heap.size<_;omega)).trans (aS.out i hi))));clear hown2 zI bK a0 a1 a2 a3 a4 aK;go_wp2;go_loopw [54] (λi wr=>∃k:Nat,k<=L.L/\i=J I k/\KP c.DR.L bl w2 wr/\Gr W1 wr/\Jv wr W1.heap.size (.slice (U ⟨g,0,Y⟩) c.DR.L cap) c.DR.L c.DR.L (λh t=>Hp p (DY ls) L h t k) bl) (λi _=>L.L-(O i).L)
   case atStart=>exact⟨0,by omega,rfl,.refl _ _ _,cC.out,cD.out⟩
   case round =>
    obtain⟨wq,rfl⟩:∃wq,wq=wr:=⟨_,rfl⟩;obtain⟨k,hk,rfl,a6,zV,a7⟩:=hrel;have HKP:=AB a6;have bL:=AB zV;have HTQ:=AB a7;have hzq:=a6.1;by_cases hlk:k<L.L
    .have aX:=bJ.out _ (BU hlk);have aY:L[k]?.LE (0,0)=L[k]:=by rw[AG hlk];rfl
     obtain⟨b,o,rfl,bM,bO⟩:=cB.out (λe=>by rw[e] at hlk;simp at hlk);obtain⟨h1,h2⟩:=bO k _ (AG hlk);have zU:∀h,h<c.DR.L->bl h≠b:=λh hh e=>by have:=aW.out h hh;omega
     have d1:=(a6.cell bM.2 zU (o+k*2)).trans h1;have d2:=(a6.cell bM.2 zU (o+k*2+1)).trans h2;rw[<-aY] at aX d1 d2;have cE:Hid (∀a t,Ge p (DY ls) L k 0 a t=Hp p (DY ls) L a t k):=AB λa t=>qh p (DY ls) L k a t;have aC:Hid (∀a t,Ge p (DY ls) L k (wl (DY ls (L[k]?.LE (0,0)).1.L)).L a t=Hp p (DY ls) L a t (k+1)):=AB λa t=>r8 p (DY ls) L k a t;have aI:Hid (∀i a t,Ge p (DY ls) L k (i+1) a t=Ge p (DY ls) L k i a t+if(L[k]?.LE (0,0)).2=(t:Int)/\a≠t/\(wl (DY ls (L[k]?.LE (0,0)).1.L))[i]?.LE 0=(a:Int) then La p (wl (DY ls (L[k]?.LE (0,0)).1.L)).L i else 0):=AB λi a t=>qi p (DY ls) L k i a t
     generalize L[k]?.LE (0,0)=q at aX d1 d2 aC aI;obtain⟨q1,q2⟩:=q;obtain⟨qn,rfl⟩:∃j:Nat,q1=j:=⟨q1.L,by omega⟩;obtain⟨qf,rfl⟩:∃j:Nat,q2=j:=⟨q2.L,by omega⟩;dsimp only at aX d1 d2 aC aI;rw[Cn] at aC aI;have cX:=a8.out.n5;have cF:qn<5:=by omega
     have hqf:qf<c.DR.L:=by omega
     have cG:wq.L ⟨w1.heap.size,qn,Y⟩=U (.int .u8 (DY ls qn:Nat)):=(zV.cell (by show w1.heap.size<_;omega)).trans (aS.out qn cF);have aZ:DY ls qn<16:=Dh a8.out.h4 (ir aR.out qn);have hxh:DY ls qn<2 ^ c.DR.L:=ir aR.out qn;generalize DY ls qn=x at cG aZ hxh aC aI;obtain⟨W2,zn⟩:∃W2:C,W2=wq.Li (G #[J I (qn:Int),J I (qf:Int)] 195):=⟨_,rfl⟩
     have aN:=AB (gK x W2 aZ);have hwq1:w1.heap.size<wq.heap.size:=by omega
     have cH:Hid (W2.L ⟨wq.heap.size,1,Y⟩=U (J I (qf:Int))):=AB (by rw[zn,AF _ _ _ _ rfl];rfl);have bU:Hid (Gr wq W2):=AB (zn▸(Gr.refl wq).Li _);have bP:Hid (W2.heap.size=wq.heap.size+1):=AB (by rw[zn];simp);have cI:=AB zn;clear a6 zV a7 bO h1 h2 aY zn;go_wp2_with fail;rw[<-cI.out];refine aN.out.LT ?_;rintro e w3 ⟨v3,rfl,aO,zH⟩;obtain⟨A3,k3,rfl,bQ⟩:=Jr aO
     have cJ:=AB bQ;have aB:=AB (bU.out.trans zH);have aU:=AB ((HTQ.out.gr aB.out).congr (M':=λa t=>Ge p (DY ls) L k 0 a t) λa t _ _=>(cE.out a t).LT);have bV:=AB ((zH.cell (p:=⟨wq.heap.size,1,Y⟩) (by show wq.heap.size<_;have:=bP.out;omega)).trans cH.out);have hz3:=aB.out.size;have cQ:wq.heap.size<W2.heap.size:=by have:=bP.out;omega
     have hz32:=zH.size;clear aO zH bQ aN d1 d2;go_wp2;go_loopw [65] (λi wr=>∃j:Nat,j<=(wl x).L/\i=J I j/\KP c.DR.L bl w3 wr/\Gr W1 wr/\Jv wr W1.heap.size (.slice (U ⟨g,0,Y⟩) c.DR.L cap) c.DR.L c.DR.L (λa t=>Ge p (DY ls) L k j a t) bl) (λi _=>(wl x).L-(O i).L)
     case atStart=>exact⟨0,by omega,rfl,.refl _ _ _,bL.out.trans aB.out,aU.out⟩
     case round =>
      obtain⟨j,hj,rfl,a6,bR,bS⟩:=hrel;have b5:=AB a6;have b6:=AB bR;have aJ:=AB bS;have cY:=a6.1;by_cases aD:j<(wl x).L
      .obtain⟨b3,o3,rfl,bW,hc3⟩:=cJ.out (λe=>by rw[e] at aD;simp at aD);obtain⟨a,ha,d3,hab⟩:=Mo (BU aD);have aP:a<c.DR.L:=l6 hxh hab;have cK:=(a6.cell bW.2 (λh hh e=>by have:=aW.out h hh;omega) (o3+j)).trans (hc3 j _ (AG aD));rw[ha] at cK;have cL:Hid ((wl x)[j]?.LE 0=(a:Int)):=AB (by rw[AG aD];exact ha);have d4:=(a6.cell (b:=wq.heap.size) (by omega) (λh hh e=>by have:=aW.out h hh;omega) 1).trans bV.out
       have b7:Hid (∀a' t,Ge p (DY ls) L k (j+1) a' t=Ge p (DY ls) L k j a' t+if(qf:Int)=(t:Int)/\a'≠t/\(a:Int)=(a':Int) then La p (wl x).L j else 0):=AB λa' t=>by rw[aI.out,cL.out]
       have bX:=dC x;have b8:Hid (La p (wl x).L j=p / ((wl x).L:Int)+if(j:Int)<p % ((wl x).L:Int) then 1 else 0):=AB rfl;clear ha;generalize (wl x).L=N at aD bX b8 b7 aC hj ⊢;clear a6 bR bS;have d5:0<=p / (N:Int):=df hp.1 (by omega);have d6:p / (N:Int)<=99:=CN (Int.ediv_le_self _ hp.1) hp.2;obtain⟨g',eg,_,hrow⟩:=aJ.out.ME aP;have eg':g'=g:=by injection eg with e;injection e with e;exact e.LT
       subst eg';obtain⟨hta,htb,htc,htf⟩:=aJ.out.at_ aP hqf;have cM:=uf hp (DY ls) L k j a qf;by_cases haf:a=qf
       .have zU:((a:Int) != (qf:Int))=false:=by simp[haf]
        have HT5:=AB (aJ.out.congr (M':=λa t=>Ge p (DY ls) L k (j+1) a t) λa' t _ _=>by rw[b7.out,AE (by omega)];simp);clear hrow htc htf;by_cases aL:(j:Int)<p % (N:Int)
        all_goals
         go_wp2;go_roundw
         case rel=>exact⟨j+1,by omega,by go_num,b5.out,b6.out,HT5.out⟩
         case measure=>simp[Proofs.intOf];omega
       .have zU:((a:Int) != (qf:Int))=true:=by simp;omega
        have aH:Hid (∀y:Int,y=La p N j->Jv (wr.LE ⟨bl a,qf,Y⟩ (J I (Ge p (DY ls) L k j a qf+y))) W1.heap.size (.slice (U ⟨g',0,Y⟩) c.DR.L cap) c.DR.L c.DR.L (λa t=>Ge p (DY ls) L k (j+1) a t) bl):=AB λy hy=>aJ.out.SS aP hqf _ λa' t' _ _=>by
         rw[b7.out];by_cases e:a'=a/\t'=qf
         .obtain⟨rfl,rfl⟩:=e;rw[AJ ⟨rfl,haf,rfl⟩,AJ ⟨rfl,rfl⟩,hy]
         .rw[AE (λh=>e (by omega)),AE e];omega
        have b9:=AB (λv=>b5.out.trans (KP.SS (w:=wr) aP qf v));have bA:=AB (λv=>b6.out.LE (p:=⟨bl a,qf,Y⟩) hta v);have hblw:=htb;generalize Ge p (DY ls) L k j a qf=M0 at htc cM aH;by_cases aL:(j:Int)<p % (N:Int)
        .have HY:=AB (aH.out (p / (N:Int)+1) (by rw[b8.out,AJ aL]));go_wp2;go_region
         all_goals
          go_wp2;go_roundw
          case rel=>exact⟨j+1,by omega,by go_num,(b9.out _).drew,(bA.out _).drew,HY.out.drew⟩
          case measure=>simp[Proofs.intOf];omega
        .have HY:=AB (aH.out (p / (N:Int)) (by rw[b8.out,AE aL];omega));go_wp2;go_region
         all_goals
          go_wp2;go_roundw
          case rel=>exact⟨j+1,by omega,by go_num,(b9.out _).drew,(bA.out _).drew,HY.out.drew⟩
          case measure=>simp[Proofs.intOf];omega
      .have cN:j=(wl x).L:=by omega
       subst cN;have HT6:=AB (aJ.out.congr (M':=λa t=>Hp p (DY ls) L a t (k+1)) λa' t _ _=>aC.out a' t);go_wp2;go_roundw
       case rel=>exact⟨k+1,by omega,by go_num,HKP.out.trans ((KP.gr aB.out).trans b5.out),b6.out,HT6.out⟩
       case measure=>simp[Proofs.intOf];omega
    .have aV:k=L.L:=by omega
     subst aV;have HTF:=AB (HTQ.out.Oc);clear a6 zV a7;go_wp2;go_ret2;exact⟨c4.out.trans (bG.out.trans bL.out),_,_,rfl,by rw[HOL.out];exact HTF.out⟩
def I4 (M:List (List Int))(k i j:Nat):Int:=Ig M k j-(if j=k then(M[k]?.LE []).Lo else 0)+if j<i then(M[k]?.LE [])[j]?.LE 0 else 0
def ug (M:List (List Int))(k i j:Nat)(h:j<i):I4 M k i j=Ig M (k+1) j:=by
 show _+(if _ then _ else _)=_;rw[AJ h];rfl
def r9 (M:List (List Int))(k j:Nat):I4 M k 0 j=Ig M k j-if j=k then(M[k]?.LE []).Lo else 0:=by
 unfold I4;generalize Ig M k j-(if j=k then(M[k]?.LE []).Lo else 0)=a;rw[AE (BY j)];omega
def sa (M:List (List Int))(k j t:Nat):I4 M k (j+1) t=I4 M k j t+if t=j then(M[k]?.LE [])[j]?.LE 0 else 0:=by
 unfold I4;generalize Ig M k t-(if t=k then(M[k]?.LE []).Lo else 0)=a;by_cases e:t=j
 .subst e;rw[AJ (by omega),AE (by omega),AJ rfl];omega
 .by_cases e2:t<j
  .rw[AJ (by omega),AJ e2,AE e];omega
  .rw[AE (by omega),AE e2,AE e];omega
def sd (M:List (List Int))(k j:Nat):I4 M k j j=Ig M k j-if j=k then(M[k]?.LE []).Lo else 0:=by
 unfold I4;generalize Ig M k j-(if j=k then(M[k]?.LE []).Lo else 0)=a;rw[AE (by omega)];omega
structure J7 (M:List (List Int)):Prop where
 size:M.L<=4
 rows:∀l∈M,l.L=M.L/\∀x∈l,0<=x/\x<=65536
def J7.row {M:List (List Int)}(h:J7 M){k:Nat}(hk:k<M.L):(M[k]?.LE []).L=M.L/\∀x∈M[k]?.LE [],0<=x/\x<=65536:=h.rows _ (gn M k hk)
def J7.at_ {M:List (List Int)}(h:J7 M){k:Nat}(hk:k<M.L)(j:Nat):0<=(M[k]?.LE [])[j]?.LE 0/\(M[k]?.LE [])[j]?.LE 0<=65536:=by
 obtain hj|hj:=BP j (M[k]?.LE []).L
 .exact(h.row hk).2 _ (Gh _ j hj)
 .rw[BV hj];simp
def J7.Lo {M:List (List Int)}(h:J7 M){k:Nat}(hk:k<M.L):0<=(M[k]?.LE []).Lo/\(M[k]?.LE []).Lo<=262144:=by
 have h1:=GL 0 65536 _ (h.row hk).2;have h2:=(h.row hk).1;have h3:=h.size;omega
def oY {M:List (List Int)}(h:J7 M)(k j:Nat)(hk:k<=M.L):-(262144*k)<=Ig M k j/\Ig M k j<=65536*k:=by
 induction k with
 |zero=>simp[Ig]
 |succ k ih =>
  have h1:=ih (by omega);have h2:=h.at_ (show k<M.L by omega) j;have h3:=h.Lo (show k<M.L by omega);unfold Ig;split<;>omega
def qj {c:Eb}(hc:c.Ok)(r:EK){p:Int}(hp:0<=p/\p<=99)(ws:List Int):J7 (JG c r p ws):=by
 have hl:(JG c r p ws).L=c.DR.L:=gv _ _;refine⟨by rw[hl];exact hc.h4,λl hm=>?_⟩;rw[hl];simp only[JG,L5,BO,BM] at hm;obtain⟨a,ha,rfl⟩:=hm;refine⟨by simp,λx hx=>?_⟩;simp only[BO,BM] at hx;obtain⟨t,_,rfl⟩:=hx;have h1:=mU hp r (FQ c r ws) a t (FQ c r ws).L;have h2:=jZ hc r ws;omega
def qk (nA hA gA rA:Option bh)(nc hc gc rc:Nat)(c:Eb)(ls:List (List Int))(rs:List (Int×Int))(p:Int)(w:C)(B:Nat)(hB:B<=w.heap.size)(hn:RI w B nA c.DW)(hh:FY w B hA c.DR)(hg:FX w B gA ls)(hr:Ih w B rA rs)
  (aR:c.DW.L<=4611686018427387904) (zC:c.DR.L<=4611686018427387904) (aO:∀h∈c.DR,h.off.L<=4611686018427387904) (aS:ls.L<=4611686018427387904) (zr:∀x∈ls,x.L<=4611686018427387904) (aT:rs.L<=4611686018427387904) (aU:rs.L<=rc)
  (hF:Eo c ls=0) (hR:cZ c.DW.L rs=0) (hp:0<=p/\p<=99) :
  bo DP 50 #[EG nA hA c nc hc,Z gA ls.L gc,Z rA rs.L rc,J I p] w λe w'=>Gr w w'/\∃A k,e=.L (.tuple #[Z A c.DR.L k,J I 0]) /\
   RI w' w'.heap.size A (Ov (JG c (DY ls) p (E2 c.DW.L rs rs.L))):=by
 unfold EG;obtain⟨W0,zM⟩:∃W0:C,W0=w.Li (G #[Z nA c.DW.L nc,Z hA c.DR.L hc] 27):=⟨_,rfl⟩;have zL:Gr w W0:=zM▸(Gr.refl w).Li _;have zF:W0.heap.size=w.heap.size+1:=by rw[zM];simp
 have HW:=AB zM;have how:=yv nA hA gA rA nc hc gc rc c ls rs p W0 B (by omega) (hn.gr hB zL) (hh.keep λb o hb=>zL.cell (AI hb hB)) (hg.gr hB zL) (hr.gr hB zL) aR zC aO aS zr aT aU hF hR hp;unfold EG at how;have aV:=AB zL
 have aF:=Eb.Ok.of (show Es c=0 by
  have:=hF;unfold Eo at this;split at this
  .exact AH this (by assumption)
  .simpa using ‹¬Es c≠0›)
 have a8:=qj aF (DY ls) hp (E2 c.DW.L rs rs.L);have a7:(JG c (DY ls) p (E2 c.DW.L rs rs.L)).L=c.DR.L:=gv _ _;have h4:=aF.h4;generalize JG c (DY ls) p (E2 c.DW.L rs rs.L)=M at how a8 a7;rw[<-a7] at h4;have aW:=AB a7;have HOW:=AB (how.LT (R':=λe w'=>Gr W0 w'/\∃A k,e=.L (.tuple #[Z A M.L k,J I 0])/\FX w' w'.heap.size A M) λe w' h=>by rw[a7];exact h)
 have a6:=AB a8;have bI:=λw=>ip M.L w (by omega);clear zM zL how hn hh hg hr zr aO hF hR aF a8 a7;go_enter Sq.func50,Tryz.ntmps50;go_wp2_with fail;rw[<-HW.out];refine HOW.out.LT ?_;rintro e w1 ⟨zJ,A,ka,rfl,aG⟩;have aX:=AB zJ;have aY:=AB aG;have zE:=zJ.size;clear zJ aG HOW;go_wp2;go_loopw [33] (λi wr=>∃k:Nat,k<=M.L/\i=J I k/\Gr w1 wr/\w1.heap.size<wr.heap.size/\∀j,j<M.L->wr.L ⟨w1.heap.size,j,Y⟩=U (J I (Ig M k j))/\wr.H ⟨w1.heap.size,j,Y⟩=cq) (λi _=>M.L-(O i).L)
 case atStart =>
  refine⟨0,by omega,rfl,(Gr.refl w1).Li _,by simp,λj hj=>⟨?_,?_⟩⟩
  .rw[AF _ _ _ _ (by simp),el _ _ hj];rfl
  .rw[Bt _ _ _ _ (by simp)]
 case round =>
  obtain⟨wq,rfl⟩:∃wq,wq=wr:=⟨_,rfl⟩;obtain⟨k,hk,rfl,zV,aZ,zW⟩:=hrel;have b5:=AB zV;have aH:=AB zW;by_cases zY:k<M.L
  .obtain⟨b,o,A',c',rfl,hb,aI,aA⟩:=aY.out.at_ zY;have b6:=(zV.cell (p:=⟨b,o+k,Y⟩) hb).trans aI;have aJ:=aA.gr (AD _) zV;have b7:=AB aA;clear aI aA;obtain⟨b8,aK⟩:=a6.out.row zY;have hsm:=a6.out.Lo zY;obtain⟨e1,e2⟩:=zW k zY;have b9:=oY a6.out k k hk;have aB:∀q,q=wq\/q=wq.drew->bo DP 86 #[Z A' (M[k]?.LE []).L c'] q λe w'=>e=.L (J I (M[k]?.LE []).Lo)/\q=w':=λq hq=>yV A' c' (M[k]?.LE []) q w1.heap.size (by rcases hq with rfl|rfl<;>exact aJ) (by omega) (λx hx=>by have:=aK x hx;omega)
   have aP:Hid (∀j,j<M.L->I4 M k 0 j=Ig M k j-if j=k then(M[k]?.LE []).Lo else 0):=AB λj _=>r9 M k j;have bJ:=AB aJ;have HRX:=AB aK;rw[b8] at b6 aB;have aL:=AB aB;obtain⟨S,hS⟩:∃S,S=(M[k]?.LE []).Lo:=⟨_,rfl⟩;rw[<-hS] at aL hsm aP;have aM:Hid (∀j,j<M.L->(wq.LE ⟨w1.heap.size,k,Y⟩ (J I (Ig M k k-S))).L ⟨w1.heap.size,j,Y⟩=U (J I (I4 M k 0 j))/\(wq.LE ⟨w1.heap.size,k,Y⟩ (J I (Ig M k k-S))).H ⟨w1.heap.size,j,Y⟩=cq):=AB λj hj=>by
    rw[BH,aP.out j hj];refine⟨?_,(aH.out j hj).2⟩;by_cases e:j=k
    .subst e;rw[AW _ _ _ e1,AJ rfl]
    .rw[AN _ _ _ _ (by simp[cu e]),AE e,(aH.out j hj).1];simp
   have HGS:Hid (Gr w1 (wq.LE ⟨w1.heap.size,k,Y⟩ (J I (Ig M k k-S)))):=AB (zV.LE (p:=⟨w1.heap.size,k,Y⟩) (AD _) _);clear zV zW aJ aK aB hS aH;generalize Ig M k k=bk at e1 b9 aM HGS;have hwr:IntKind.i64.wrap (bk-S)=bk-S:=by simp[dr,fo,ek];omega
   go_wp2;go_region_with (go_at_call 86;refine(aL.out _ (by first|exact fu rfl|exact eo rfl)).LT ?_;rintro e w3 ⟨rfl,rfl⟩)
   all_goals
    clear e1 e2 hwr;go_wp2;go_loopw [48] (λi wr=>∃j:Nat,j<=M.L/\i=J I j/\Gr w1 wr/\w1.heap.size<wr.heap.size/\∀t,t<M.L->wr.L ⟨w1.heap.size,t,Y⟩=U (J I (I4 M k j t))/\wr.H ⟨w1.heap.size,t,Y⟩=cq) (λi _=>M.L-(O i).L)
    case atStart=>exact⟨0,by omega,rfl,HGS.out.drew,by simp[World.setCell,World.drew];omega,aM.out⟩
    case round =>
     obtain⟨j,hj,rfl,aC,bA,aN⟩:=hrel;have bB:=AB aC;have aD:=AB aN;by_cases bC:j<M.L
     .obtain⟨b2,o2,rfl,zq,bD⟩:=(b7.out.gr (AD _) aC).at_ (k:=j) (by omega);have hx:=a6.out.at_ zY j;obtain⟨e1,e2⟩:=aN j bC;have bK:=oY a6.out k j hk;have aQ:Hid (∀t,I4 M k (j+1) t=I4 M k j t+if t=j then(M[k]?.LE [])[j]?.LE 0 else 0):=AB λt=>sa M k j t;have hbm:-(262144*5)<=I4 M k j j/\I4 M k j j<=65536*5:=by
       have hsm2:=a6.out.Lo zY;rw[sd];split<;>omega
      generalize I4 M k j j=y at e1 hbm;generalize (M[k]?.LE [])[j]?.LE 0=z at bD hx aQ;have HST:Hid (y=y->∀t,t<M.L->(wr.LE ⟨w1.heap.size,j,Y⟩ (J I (y+z))).L ⟨w1.heap.size,t,Y⟩=U (J I (I4 M k (j+1) t))/\(wr.LE ⟨w1.heap.size,j,Y⟩ (J I (y+z))).H ⟨w1.heap.size,t,Y⟩=cq):=AB λ_ t ht=>by
       rw[BH,aQ.out];refine⟨?_,(aD.out t ht).2⟩;by_cases e:t=j
       .subst e;rw[AW _ _ _ e1,AJ rfl];have:=(aD.out t ht).1;rw[e1] at this;cases this
        rfl
       .rw[AN _ _ _ _ (by simp[cu e]),AE e,(aD.out t ht).1];simp
      have HGT:=AB (aC.LE (p:=⟨w1.heap.size,j,Y⟩) (AD _) (J I (y+z)));clear aC aN;go_wp2;go_roundw
      case rel=>exact⟨j+1,by omega,by go_num,HGT.out,by simp[World.setCell];omega,HST.out rfl⟩
      case measure=>simp[Proofs.intOf];omega
     .have bE:j=M.L:=by omega
      subst bE;have bF:Hid (∀t,t<M.L->wr.L ⟨w1.heap.size,t,Y⟩=U (J I (Ig M (k+1) t))/\wr.H ⟨w1.heap.size,t,Y⟩=cq):=AB λt ht=>by
       rw[<-ug M k M.L t ht];exact aD.out t ht
      go_wp2;go_roundw
      case rel=>exact⟨k+1,by omega,by go_num,bB.out,bA,bF.out⟩
      case measure=>simp[Proofs.intOf];omega
  .have bG:k=M.L:=by omega
   subst bG
   have HF:Hid (RI wq wq.heap.size (U ⟨w1.heap.size,0,Y⟩) (Ov M)):=AB λ_=>⟨_,0,rfl,aZ,λi x hx=>by
    have hi:i<M.L:=by have:=(Bd.1 hx).1;simpa [Ov] using this
    have bH:x=Ig M M.L i:=by
     unfold Ov at hx;rw[BE,List.getElem?_range hi] at hx;exact(Option.some.inj hx).LT
    rw[AU,bH]
    exact(zW i hi).1⟩
   go_wp2;go_ret2;refine⟨aV.out.trans (aX.out.trans b5.out),U ⟨w1.heap.size,0,Y⟩,M.L,?_,HF.out⟩;rw[<-aW.out];rfl
open Go.Sort
def mV:Lib.pop8tab.size=256:=by decide +kernel
def wQ:∀x:Fin 16,wrap64 ((Lib.pop8tab[x.val]'(by have:=mV;omega)).L:Int)=((wl x.val).L:Int):=by decide +kernel
def yw (x:Nat)(w:C)(hx:x<16):bo DP 138 #[.int .u8 (x:Int)] w λe w'=>e=.L (J I (wl x).L)/\w=w':=by
 have HP:=AB (wQ ⟨x,hx⟩);have a6:x<Lib.pop8tab.size:=by have:=mV;omega
 go_enter Sq.func138,Tryz.ntmps138;go_wp2;go_ret;exact⟨ap HP.out,rfl⟩
def yx (x:Nat)(w:C)(hx:x<16):bo DP 97 #[.int .u8 x] w λe w'=>e=.L (J I (wl x).L)/\w=w':=by
 have HC:=AB (yw x w hx);go_enter Sq.func97,Tryz.ntmps97;go_wp2_with fail;refine HC.out.LT ?_;rintro e w' ⟨rfl,rfl⟩;go_wp2;go_ret;exact⟨rfl,rfl⟩
def KR (l:List Int):List Int:=l.mergeSort λx y=>decide (x<=y)
def ll (l:List Int):(KR l).L=l.L:=List.length_mergeSort l
def wR (g cap:Nat)(l:List Int)(w:C){base:Nat}(h:w.S base 3 1 (.slice (U ⟨g,0,Y⟩) l.L cap) l.L (l.map (J I)))(hl:l.L<=1048576) :
  bo DP 94 #[.slice (U ⟨g,0,Y⟩) l.L cap] w λe w'=>e=.L (.tuple #[])/\KT (·=g) w w'/\∀(i:Nat) (x:Int),(KR l)[i]?=U x->w'.L ⟨g,i,Y⟩=U (J I x):=by
 have zY:g<w.heap.size:=(h.lt g rfl).2;have hH:Holds (J I) w g 0 l.Li:=by
  intro j hj;have hj':j<l.L:=by simpa using hj
  refine⟨?_,?_⟩
  .have:=h.cells (g:=g) rfl j (J I l[j]) (by simp[hj']);rw[cf] at this;rw[this,getElem!_pos l.Li j (by simpa using hj')];simp
  .obtain⟨h,_⟩|⟨g',c',cur,h,_,hb,_⟩:=h.2
   .cases h
   .obtain⟨rfl⟩:g=g':=by injection h with h1;injection h1 with h2;injection h2
    simp[bw,hb]
 refine(Any.slices_Sort_int DA g 0 cap l w hH zY (by omega)).LT ?_;rintro e w' ⟨he,n,os,hW⟩;have zx:(KR l).Li.size=l.Li.size:=by simp[ll]
 refine⟨he,?_,λi x hx=>?_⟩
 .subst hW;refine⟨rfl,rfl,rfl,?_,?_,λb hb zU=>?_⟩
  .show w.drawn<=w.drawn+n;omega
  .rw[size_grow,ck];exact Nat.le_add_right _ _
  .rw[heap_grow_old _ _ (by rw[ck];exact hb)];unfold putRow mapBlock;rw[Bv,AE (λh=>zU h.LT)]
   rfl
 .have hi:i<(KR l).L:=(Bd.1 hx).1;subst hW;rw[cell?_grow _ _ _ (by rw[ck];exact zY)];have:=cell?_putRow (J I) (Sort.ahead w n) g 0 l.Li (KR l).Li hH zx i (by simpa using hi);rw[AU] at this;refine this.trans ?_;rw[getElem!_pos _ i (by simpa using hi)];rw[AG hi] at hx;simp at hx;simp[hx]
def wS (nA hA:Option bh)(nc hc:Nat)(c:Eb)(w:C)(K0:Nat->Prop)(zY:∀b,K0 b->b<w.heap.size)(hn:IU w K0 nA c.DW)(hh:Hg w K0 hA c.DR)(hm:c.DR.L<=4) :
  bo DP 95 #[EG nA hA c nc hc] w λe w'=>e=.L (.S (U ⟨w.heap.size+1,0,Y⟩))/\Gr w w'/\∃g cap,w.heap.size+2<=g /\
   FZ w' (λb=>K0 b\/b=w.heap.size+1\/b=g) (w.heap.size+1) c (Ex c.DR.L) nA hA nc hc g cap:=by
 refine(oP nA hA nc hc c.DW.L c.DR.L w hm (rI c.DR.L hm)).LT ?_;rintro e w' ⟨rfl,g,cap,W,⟨g',cap',hv,hk,hs,_⟩,hg,zV,hz,h0,h1,h2,ho,_⟩;obtain⟨rfl,rfl⟩:g=g'/\cap=cap':=by injection hv with a b c;injection a with a;injection a with a;exact⟨a,c⟩
 have hgW:=(ho.lt g rfl).2;have a6:Gr w w':=⟨⟨hk.os.trans zV.Ly.os,hk.tape.trans zV.Ly.tape,hk.output.trans zV.Ly.output,AX zV.size hk.size,λb hb=>(hk.Lo b (AI hb zV.size) (by show b≠g;omega)).trans (zV.Ly.Lo b hb)⟩,AX zV.drawn hk.drawn⟩;refine⟨rfl,a6,g,cap,hg,?_⟩;have zv:∀o,w'.L ⟨w.heap.size+1,o,Y⟩=W.L ⟨w.heap.size+1,o,Y⟩:=λo=>hk.cell (p:=⟨w.heap.size+1,o,Y⟩) hz (by show w.heap.size+1≠g;omega)
 refine⟨?_,eo (fu rfl),(zv 0).trans h0,(zv 1).trans h1,?_,eo (eo rfl),hs,?_,?_⟩
 .rintro b (h|h|h)
  .have:=zY b h;have:=a6.size;omega
  .have:=hk.size;omega
  .have:=hk.size;omega
 .rw[dv _ hm];exact(zv 2).trans h2
 .intro zU;obtain⟨b,o,e,hb,hc⟩:=hn zU;exact⟨b,o,e,.inl hb,λi x hx=>(a6.cell (p:=⟨b,o+i,Y⟩) (zY b hb)).trans (hc i x hx)⟩
 .intro zU;obtain⟨b,o,e,hb,hc⟩:=hh zU;refine⟨b,o,e,.inl hb,λi x hx=>?_⟩;obtain⟨q1,q2,q3,A,m,q4,q5⟩:=hc i x hx;have k:∀o,w'.L ⟨b,o,Y⟩=w.L ⟨b,o,Y⟩:=λo=>a6.cell (p:=⟨b,o,Y⟩) (zY b hb);refine⟨(k _).trans q1,(k _).trans q2,(k _).trans q3,A,m,(k _).trans q4,λa7=>?_⟩;obtain⟨b',o',e',hb',hc'⟩:=q5 a7;exact⟨b',o',e',.inl hb',λi x hx=>(a6.cell (p:=⟨b',o'+i,Y⟩) (zY b' hb')).trans (hc' i x hx)⟩
structure Q6 (nA:Option bh)(nc:Nat)(c:Eb)(ls:List (List Int))(k:Nat)(d:Int)(w:C)(Rf g cap:Nat)(w2:C):Prop where
 gr:Gr w w2
 c0:w2.L ⟨w.heap.size,0,Y⟩=U (Z nA c.DW.L nc)
 c1:w2.L ⟨w.heap.size,1,Y⟩=U (.slice (U ⟨g,0,Y⟩) c.DR.L cap)
 nb:w2.heap[w.heap.size+1]?=U (G #[J I 0] 3 (0,0))
 lt:w.heap.size+1<Rf/\Rf<w2.heap.size/\Rf<g
 given:∀i,i<5->w2.L ⟨Rf,i,Y⟩=U (.int .u8 (DY ls i:Nat))
 DW:IU w2 (λb=>b<w2.heap.size/\b≠w.heap.size+1) nA c.DW
 RJ:Hg w2 (λb=>b<w2.heap.size/\b≠w.heap.size+1) (U ⟨g,0,Y⟩) (JU c k d).DR
def uh (c:Eb)(k:Nat)(d:Int):(JU c k d).DR.L=c.DR.L:=by simp[JU]
def Na {c:Eb}{k i:Nat}{d:Int}{h:EO}(hi:(JU c k d).DR[i]?=U h)(hk:k<c.DR.L) :
  (i=k/\h={ c.h k with off:=fi (c.h k).off d })\/(i≠k/\c.DR[i]?=U h):=by
 unfold JU at hi;dsimp only at hi;rw[List.getElem?_set] at hi;by_cases e:k=i
 .subst e;rw[AJ rfl,AJ hk] at hi;cases hi;exact .inl ⟨rfl,rfl⟩
 .rw[AE e] at hi;exact .inr ⟨λh=>e h.LT,hi⟩
def lm {c:Eb}{sets:List Nat}(hs:∀x∈sets,c.LT x):∀(k:Nat) (r:EK) (n:Nat),(∀i,c.LT (r i))->∀ρ∈EJ c sets k r n,∀i,c.LT (ρ i):=by
 intro k
 induction k with
 |zero=>intro r n hr ρ a6;simp[EJ] at a6;subst a6;exact hr
 |succ k ih =>
  intro r n hr ρ a6;simp only[EJ,List.mem_flatMap] at a6;obtain⟨x,hx,h⟩:=a6;split at h
  .refine ih _ _ (λi=>?_) ρ h;unfold upd;split
   .exact hs x hx
   .exact hr i
  .simp at h
def se {c:Eb}(h:c.DR.L<=4){x:Nat}(hx:c.LT x):x<16:=by
 unfold Eb.LT at hx;exact AI hx (CR (by omega) h)
def ui {c:Eb}{ls:List (List Int)}(hE:Eo c ls=0)(h4:c.DR.L<=4)(i:Nat):DY ls i<16:=by
 unfold Eo at hE;split at hE
 .rename_i h;exact AH hE h
 .split at hE
  .rename_i h;exact AH hE h
  .unfold DY;cases hl:ls[i]? with
   |none=>decide
   |some l =>
    have:=bO.1 hE (Gs l c.DR.L) (BO.2 ⟨l,Cc hl,rfl⟩);exact qQ l λx hx=>by have:=(Ku this).1 x hx;omega
def mW:∀a b:Fin 16,bits BinOp.xor IntKind.u8 (a.val:Int) (b.val:Int)=((a.val ^^^ b.val:Nat):Int)/\a.val ^^^ b.val<16:=by decide +kernel
def oZ:∀x:Fin 16,(wl x.val).L<=4:=by decide +kernel
def pc {a b:EK}(h:∀i,i<5->a i ^^^ b i<16):∀k,k<=5->JB a b k<=4*k:=by
 intro k
 induction k with
 |zero=>intro _;exact AD _
 |succ k ih =>
  intro hk;have h2:=oZ ⟨a k ^^^ b k,h k (by omega)⟩;show JB a b k+(wl (a k ^^^ b k)).L<=_;simp only at h2;omega
def Ny (r:EK):Array Value:=#[.int .u8 (r 0),.int .u8 (r 1),.int .u8 (r 2),.int .u8 (r 3),.int .u8 (r 4)]
def wT (r:EK){i:Nat}(hi:i<5):(Ny r)[i]?=U (.int .u8 (r i)):=by
 match i,hi with
 |0,_=>rfl
 |1,_=>rfl
 |2,_=>rfl
 |3,_=>rfl
 |4,_=>rfl
def Q7 (r:EK):Option (EK×Nat)->EK
 |none=>r
 |some p=>p.1
def O5:Option (EK×Nat)->Nat
 |none=>0
 |some p=>p.2
structure Kj (r:EK)(J8 Lz b9:Nat)(o:Option (EK×Nat))(W:C):Prop where
 MG:W.heap[J8]?=U (.cells (Ny (Q7 r o)) 115 (0,0))
 is:W.heap[Lz]?=U (G #[.bool o.isSome] 4 (0,0))
 cost:W.heap[b9]?=U (G #[J I (O5 o)] 3 (0,0))
def cj {W:C}{b i:Nat}{a:Array bb}{u:bb}{t:dt}{f:Nat×Nat}(h:W.heap[b]?=U (.cells a t f)):(W.LE ⟨b,i,Y⟩ u).heap[b]?=U (.cells (a.L i u) t f):=by
 unfold E;simp only[Bv,if_true,h]
 rfl
def Kj.put {r:EK}{J8 Lz b9:Nat}{o:Option (EK×Nat)}{W:C}(h:Kj r J8 Lz b9 o W)(n1:J8≠Lz)(n2:J8≠b9)(n3:Lz≠b9)(ρ:EK)(n:Nat)(T0:Nat->Prop)(h1:T0 J8)(h2:T0 Lz)(h3:T0 b9) :
  Kj r J8 Lz b9 (U (ρ,n)) (((((((W.LE ⟨J8,0,Y⟩ (.int .u8 (ρ 0))).LE ⟨J8,1,Y⟩ (.int .u8 (ρ 1))).LE ⟨J8,2,Y⟩ (.int .u8 (ρ 2))).LE ⟨J8,3,Y⟩ (.int .u8 (ρ 3))).LE ⟨J8,4,Y⟩ (.int .u8 (ρ 4))).LE ⟨b9,0,Y⟩ (J I n)).LE ⟨Lz,0,Y⟩ (.bool ew)) /\
  KT T0 W (((((((W.LE ⟨J8,0,Y⟩ (.int .u8 (ρ 0))).LE ⟨J8,1,Y⟩ (.int .u8 (ρ 1))).LE ⟨J8,2,Y⟩ (.int .u8 (ρ 2))).LE ⟨J8,3,Y⟩ (.int .u8 (ρ 3))).LE ⟨J8,4,Y⟩ (.int .u8 (ρ 4))).LE ⟨b9,0,Y⟩ (J I n)).LE ⟨Lz,0,Y⟩ (.bool ew)):=by
 have k:∀(W:C) (p:bh) (v:bb),T0 p.Lo->KT T0 W (W.LE p v):=λW p v hp=>KT.LE W hp v;refine⟨⟨?_,?_,?_⟩,(k _ _ _ h1).trans ((k _ _ _ h1).trans ((k _ _ _ h1).trans ((k _ _ _ h1).trans ((k _ _ _ h1).trans ((k _ _ _ h3).trans (k _ _ _ h2))))))⟩
 .rw[AP _ _ _ _ (by show J8≠Lz;exact n1),AP _ _ _ _ (by show J8≠b9;exact n2)];exact cj (i:=4) (cj (i:=3) (cj (i:=2) (cj (i:=1) (cj (i:=0) h.MG))))
 .refine cj (i:=0) (a:=#[.bool o.isSome]) ?_;have e:∀(W:C) (i:Nat) (v:bb),(W.LE ⟨J8,i,Y⟩ v).heap[Lz]?=W.heap[Lz]?:=λW i v=>AP _ _ _ _ (by show Lz≠J8;exact cu n1);rw[AP _ _ _ _ (by show Lz≠b9;exact n3),e,e,e,e,e];exact h.is
 .rw[AP _ _ _ _ (by show b9≠Lz;exact cu n3)];refine cj (i:=0) (a:=#[J I (O5 o)]) ?_;have e:∀(W:C) (i:Nat) (v:bb),(W.LE ⟨J8,i,Y⟩ v).heap[b9]?=W.heap[b9]?:=λW i v=>AP _ _ _ _ (by show b9≠J8;exact cu n2);rw[e,e,e,e,e];exact h.cost
def Kj.drewN {r:EK}{J8 Lz b9:Nat}{o:Option (EK×Nat)}{W:C}(h:Kj r J8 Lz b9 o W)(m:Nat):Kj r J8 Lz b9 o (W.drewN m):=⟨h.MG,h.is,h.cost⟩
open Go.Shelf
attribute [local go_sem] Oper.semAt_some
def pd (f:FuncId):Fence.wide.fn f=True:=eq_true trivial
attribute [local go_sem] pd
attribute [local simp] pd
def fG {fn:Func}{tmps:Array bb}{R:Ending->C->Prop}{W:C}{v:bb}(hr:(results fn tmps).run DP W=.ok v W)(hR:R (.L v) W) :
  LeavesInM Fence.wide 0 DP fn tmps R [] .returning W:=⟨v,hr,hR⟩
def lR {c:Code}{P:Program}{K:Act->C->Prop}{Q:Exit->Act->C->Prop}{a:Act}{w:C}(h:c.wp P (Exit.then K λ_ _ _=>False) a w):c.wp P (Exit.then K Q) a w:=by
 rw[<-fc (n:=0)] at h ⊢;refine wpIn_mono h λe a w h=>?_;cases e with
 |normal=>exact h
 |_=>exact h.elim
def jp (c:Eb)(ls:List (List Int))(h d:Int)(w:C)(e:Ending)(w':C):Prop :=
 Gr w w'/\if Eo c ls≠0 then e=.L (.tuple #[.slice Y 0 0,J I 0,J I (Eo c ls)])
  else if(Ha h 0 (c.DR.L-1)&&Ha d 0 (c.DW.L-1))=cq then e=.L (.tuple #[.slice Y 0 0,J I 0,J I 3])
  else match GY (DY ls) (EJ (JU c h.L d) (Ex c.DR.L) c.DW.L GI 0) with
   |none=>e=.L (.tuple #[.slice Y 0 0,J I 0,J I 11])
   |some p=>∃A k,e=.L (.tuple #[Z A c.DW.L k,J I p.2,J I 0])/\FX w' w'.heap.size A (aV p.1 c.DW.L)
def uj (nA hA gA:Option bh)(nc hc gc:Nat)(c:Eb)(ls:List (List Int))(h d:Int)(w:C)(B:Nat)(hB:B<=w.heap.size)(hn:RI w B nA c.DW)(hh:FY w B hA c.DR)(hg:FX w B gA ls)
  (cK:c.DW.L<=4611686018427387904) (zC:c.DR.L<=4611686018427387904) (e7:∀h∈c.DR,h.off.L<=4611686018427387904) (fJ:ls.L<=4611686018427387904) (zr:∀x∈ls,x.L<=4611686018427387904)
  (aF:∀k:Nat,Eo c ls=0->h=k->k<c.DR.L->Ha d 0 (c.DW.L-1)=ew->(JU c k d).Ok) :
  bo DP 48 #[EG nA hA c nc hc,Z gA ls.L gc,J I h,J I d] w (jp c ls h d w):=by
 rw[<-callsIn_wide (n:=0)];obtain⟨W0,zM⟩:∃W0:C,W0=(w.Li (G #[Z nA c.DW.L nc,Z hA c.DR.L hc] 27)).Li (G #[J I 0] 3):=⟨_,rfl⟩;have zL:Gr w W0:=zM▸((Gr.refl w).Li _).Li _;have zF:W0.heap.size=w.heap.size+2:=by rw[zM];simp
 have hk:∀b o,b<B->W0.L ⟨b,o,Y⟩=w.L ⟨b,o,Y⟩:=λb o hb=>zL.cell (AI hb hB);have aS:=mP nA hA gA nc hc gc c ls W0 B (by omega) (hn.gr hB zL) (hh.keep hk) (hg.gr hB zL) cK zC e7 fJ zr;unfold EG at aS ⊢;have aT:=AB aS;have hcm:W0.L ⟨w.heap.size,0,Y⟩=U (Z nA c.DW.L nc)/\W0.L ⟨w.heap.size,1,Y⟩=U (Z hA c.DR.L hc):=by
  rw[zM];constructor
  all_goals rw[A7 _ _ _ (by simp),AF _ _ _ _ rfl];rfl
 have cL:=AB hcm;have zS:∀i,W0.H ⟨w.heap.size,i,Y⟩=false:=λi=>by
  rw[zM,Cm _ _ _ (by simp),Bt _ _ _ _ rfl]
 have HCF:=AB zS;clear zS;have e8:W0.heap[w.heap.size+1]?=U (G #[J I 0] 3 (0,0)):=by
  rw[zM];have:=H (w.Li (G #[Z nA c.DW.L nc,Z hA c.DR.L hc] 27)) (G #[J I 0] 3);rwa [CU] at this
 have HNB:=AB e8;have HW:=AB zM;have eA:=AB zL;have HN:=AB hn;have HH:=AB hh;have cM:=AB aF;clear aS hcm e8 zM zL hn hh hk hg aF e7 zr;refine callsIn_of_wp_marks Sq.func48 rfl trivial ?_ rfl;simp only[Tryz.ntmps48,AR,AQ,AT,Nat.reduceAdd,Nat.reduceSub,Bz,BA,BQ,BI,BZ,BN];rw[fc];go_wp2_with fail;rw[<-HW.out];refine aT.out.LT ?_;rintro e w1 ⟨zJ,hf⟩;have bT:=AB zJ;have zE:=zJ.size
 have cN:w1.heap[w.heap.size+1]?=U (G #[J I 0] 3 (0,0)):=(zJ.Ly.Lo _ (by omega)).trans HNB.out;have aU:=AB cN;have bU:=AB (eA.out.trans zJ);have zk:(w1.Li (G #[.int .u8 0,.int .u8 0,.int .u8 0,.int .u8 0,.int .u8 0] 115)).heap.size=w1.heap.size+1:=by simp
 clear cN;by_cases hE:Eo c ls=0
 .rw[AJ hE] at hf;obtain⟨cb,g0,cap0,rfl,hcb,gC,hK⟩:=hf;have HE:=AB hE;have HK:=AB hK;clear zJ hE aT hK;obtain⟨aD,bV,cO⟩:=one_cell aU.out;have hce:Es c=0:=by
   have:=HE.out;unfold Eo at this;split at this
   .exact this
   .rename_i h;simpa using h
  have b9:=AB (Eb.Ok.of hce);have fK:=b9.out.n5;have fL:=b9.out.h4;have hn1':=b9.out.n1;have eB:=b9.out.h1;obtain⟨W1,zu⟩:∃W1,W1=w1.Li (G #[.int .u8 (DY ls 0),.int .u8 (DY ls 1),.int .u8 (DY ls 2),.int .u8 (DY ls 3),.int .u8 (DY ls 4)] 115):=⟨_,rfl⟩;have cP:=AB zu;have aC:Hid (Gr w W1):=AB (by rw[zu];exact bU.out.Li _);have hsz1:W1.heap.size=w1.heap.size+1:=by rw[zu];simp
  have k0:w1.L ⟨w.heap.size,0,Y⟩=U (Z nA c.DW.L nc):=(bT.out.cell (by show w.heap.size<_;omega)).trans cL.out.1;have k1:w1.L ⟨w.heap.size,1,Y⟩=U (Z hA c.DR.L hc):=(bT.out.cell (by show w.heap.size<_;omega)).trans cL.out.2;have gD:w.heap.size<w1.heap.size:=by omega
  have cQ:Hid (W1.L ⟨w.heap.size,0,Y⟩=U (Z nA c.DW.L nc)):=AB (by rw[zu,A7 _ _ _ (by show w.heap.size<_;omega)];exact k0);have cR:Hid (W1.L ⟨w.heap.size,1,Y⟩=U (Z hA c.DR.L hc)):=AB (by rw[zu,A7 _ _ _ (by show w.heap.size<_;omega)];exact k1);have cS:W1.heap[w.heap.size+1]?=U (G #[J I 0] 3 (0,0)):=by rw[zu,ae _ _ cO];exact aU.out
  have bI:=AB cS;have aM:W1.heap[w1.heap.size]?=U (G #[.int .u8 (DY ls 0),.int .u8 (DY ls 1),.int .u8 (DY ls 2),.int .u8 (DY ls 3),.int .u8 (DY ls 4)] 115 (0,0)):=by rw[zu];exact H w1 _
  have eC:=AB aM;have hb1:=bN h 0 (c.DR.L-1) W1;have zq:=bN d 0 (c.DW.L-1) W1;obtain⟨x1,hx1⟩:∃x,x=Ha h 0 (c.DR.L-1):=⟨_,rfl⟩;obtain⟨x2,hx2⟩:∃x,x=Ha d 0 (c.DW.L-1):=⟨_,rfl⟩;rw[<-hx1] at hb1;rw[<-hx2] at zq;have eD:=AB hb1;have cT:=AB zq;have cU:=AB hx1;have cV:=AB hx2;clear hb1 zq hx1 hx2 zu aM cS hce aD bV;unfold ET;go_wp2_with fail;rw[<-cP.out];refine eD.out.LT ?_
  rintro e w' ⟨rfl,rfl⟩;have fM:=cQ.out;have gF:=cR.out;obtain⟨aD,bV,eT⟩:=one_cell bI.out;clear k0 k1;have cW:∀w',Gr w w'->w'.L ⟨w.heap.size+1,0,Y⟩=U (J I 0)->(x1&&x2)=cq->jp c ls h d w (.L (.tuple #[.slice Y 0 0,J I 0,J I 3])) w':=λw' hg _ hx=>by
   refine⟨hg,?_⟩;rw[AE (by simp[HE.out]),AJ (by rw[<-cU.out,<-cV.out];exact hx)]
  have bJ:=AB cW;clear cW;cases x1 with
  |false =>
   go_wp2;refine fG (v:=.tuple #[.slice Y 0 0,J I 0,J I 3]) (by simp[results,bs,go_sem,AW _ _ _ aD]) (bJ.out _ (aC.out.LE (by show _<=w.heap.size+1;omega) _) (AW _ _ _ aD) rfl)
  |true =>
   cases x2 with
   |false =>
    go_wp2_with (go_at_call 57;refine cT.out.LT ?_;rintro e w' ⟨rfl,rfl⟩);refine fG (v:=.tuple #[.slice Y 0 0,J I 0,J I 3]) (by simp[results,bs,go_sem,AW _ _ _ aD]) (bJ.out _ (aC.out.LE (by show _<=w.heap.size+1;omega) _) (AW _ _ _ aD) rfl)
   |true =>
    clear bJ;obtain⟨k,hk,aN⟩:∃k:Nat,h=k/\k<c.DR.L:=by
     have:=cU.out;simp only[Ha] at this;have:=this.LT;simp at this;exact⟨h.L,by omega,by omega⟩
    subst hk;obtain⟨hb,ho,rfl,eE,zW⟩:=HH.out (λe=>by rw[e] at eB;simp at eB);have hW:∀b o,b<B->W1.L ⟨b,o,Y⟩=w.L ⟨b,o,Y⟩:=λb o hb=>aC.out.cell (AI hb hB);have eF:=AB (ub hb ho hc c.DR W1 B eE (by have:=aC.out.size;omega) (λi x hi=>(zW i x hi).keep eE hW) (by omega) (by omega));clear zW hW;go_wp2_with (first|(go_at_call 57;refine cT.out.LT ?_;rintro e w' ⟨rfl,rfl⟩)|fail)
    refine eF.out.LT ?_;rintro e w3 ⟨g,cap,rfl,zH,zQ,gG,hgf,hat⟩;have eU:=zH.size;have hf3:w3.H ⟨w.heap.size,1,Y⟩=false:=((bT.out.trans (((Gr.refl w1).Li _).trans (cP.out▸zH))).frozen (p:=⟨w.heap.size,1,Y⟩) (by show w.heap.size<_;omega)).trans (HCF.out 1);have Lu:w3.L ⟨w.heap.size,0,Y⟩=U (Z nA c.DW.L nc):=(zH.cell (p:=⟨w.heap.size,0,Y⟩) (by show w.heap.size<_;omega)).trans cQ.out
    have eG:w3.L ⟨w.heap.size,1,Y⟩=U (.slice (U ⟨hb,ho,Y⟩) c.DR.L hc):=(zH.cell (p:=⟨w.heap.size,1,Y⟩) (by show w.heap.size<_;omega)).trans cR.out;have aO:c.DR[k]?=U (c.h k):=by unfold Eb.h;rw[AG aN];rfl
    obtain⟨cX,cY,zo,A,m,zy,a7⟩:=hat k (c.h k) aO;have aW:g≠w.heap.size:=by omega
    obtain⟨w4,hw4⟩:∃w4,w4=w3.LE ⟨w.heap.size,1,Y⟩ (.slice (U ⟨g,0,Y⟩) c.DR.L cap):=⟨_,rfl⟩;have fN:w4.heap.size=w3.heap.size:=by rw[hw4];simp[E]
    have aP:∀b o,b≠w.heap.size->w4.L ⟨b,o,Y⟩=w3.L ⟨b,o,Y⟩:=λb o hb=>by rw[hw4];exact AN _ _ _ _ (λe=>hb (AZ Addr.block e).LT)
    have cZ:∀b o,b<B->w4.L ⟨b,o,Y⟩=w3.L ⟨b,o,Y⟩:=λb o hb=>aP b o (by omega);have bA:Hid (Gr w w4):=AB (by rw[hw4];exact(aC.out.trans zH).LE (AD _) _);have aK:=(b9.out.off _ (c.IW aN)).1;have hcon:=jz A m (c.h k).off d w4 B (a7.keep cZ) (by omega);obtain⟨x3,hx3⟩:∃x,x=decide (d∈(c.h k).off):=⟨_,rfl⟩;rw[<-hx3] at hcon;have d5:=AB hcon;have d6:=AB hx3;have eH:=AB hw4
    have bB:Hid (∀(i:Nat) (x:EO),c.DR[i]?=U x->Ng w4 B g (i*4) x):=AB λi x hi=>by
     obtain⟨q0,q1,q2,A',m',q3,q4⟩:=hat i x hi;exact⟨(aP _ _ aW).trans q0,(aP _ _ aW).trans q1,(aP _ _ aW).trans q2,A',m',(aP _ _ aW).trans q3,q4.keep cZ⟩
    have d7:Hid (RI w4 B nA c.DW):=AB (HN.out.gr hB bA.out);have bK:Hid (w4.heap[w.heap.size+1]?=U (G #[J I 0] 3 (0,0))):=AB (by rw[hw4,AP _ _ _ _ (by show w.heap.size+1≠w.heap.size;omega),zH.Ly.Lo _ eT];exact bI.out);have bL:Hid (w4.heap[w1.heap.size]?=U (G #[.int .u8 (DY ls 0),.int .u8 (DY ls 1),.int .u8 (DY ls 2),.int .u8 (DY ls 3),.int .u8 (DY ls 4)] 115 (0,0))):=AB (by rw[hw4,AP _ _ _ _ (by show w1.heap.size≠w.heap.size;omega),zH.Ly.Lo _ (by omega)];exact eC.out)
    have HE4:Hid (w4.L ⟨w.heap.size,0,Y⟩=U (Z nA c.DW.L nc)/\w4.L ⟨w.heap.size,1,Y⟩=U (.slice (U ⟨g,0,Y⟩) c.DR.L cap)):=AB (by
     rw[hw4];exact⟨(AN _ _ _ _ (by simp)).trans Lu,AW _ _ _ eG⟩)
    have eI:Hid (∀i,w4.H ⟨g,i,Y⟩=cq):=AB λi=>by rw[hw4,BH];exact hgf i
    have eV:w3.L ⟨g,k*4+3,Y⟩=U (Z A (c.h k).off.L m):=zy;have eW:=AB a7;clear hcon hx3 hw4 hat a7 cX cY zo zy aP cZ hgf aO aD bV fM;go_wp2_with fail;rw[<-eH.out];refine d5.out.LT ?_;rintro e w' ⟨rfl,rfl⟩;clear Lu eG eV hf3 d5;have aL:W1.heap.size<=w4.heap.size/\g<w4.heap.size:=by omega
    obtain⟨d8,d9⟩:=HE4.out;have aO:c.DR[k]?=U (c.h k):=by unfold Eb.h;rw[AG aN];rfl
    obtain⟨cX,cY,zo,A',m',zy,a7⟩:=bB.out k (c.h k) aO;have dA:=AB a7;have fO:=eI.out (k*4+3);clear a7 cX cY zo eW fN zH eU;cases x3
    case' true =>
     have aA:Hid (Q6 nA nc c ls k d w w1.heap.size g cap w4):=AB (by
      have bW:fi (c.h k).off d=(c.h k).off:=by unfold fi;rw[AJ (by simpa using d6.out.LT)]
      refine⟨bA.out,d8,d9,bK.out,⟨by omega,by omega,by omega⟩,λi hi=>?_,?_,λzU=>⟨g,0,rfl,⟨aL.2,by omega⟩,λi x hi=>?_⟩⟩
      .rw[(Gu bL.out).1 i]
       match i,hi with
       |0,_=>rfl
       |1,_=>rfl
       |2,_=>rfl
       |3,_=>rfl
       |4,_=>rfl
      .exact fQ d7.out λb hb=>⟨by omega,by omega⟩
      .rw[AU];have key:∀y,c.DR[i]?=U y->Mp w4 (λb=>b<w4.heap.size/\b≠w.heap.size+1) g (i*4) y:=λy hy=>by
        obtain⟨q0,q1,q2,A',m',q3,q4⟩:=bB.out i y hy;exact⟨q0,q1,q2,A',m',q3,fQ q4 λb hb=>⟨by omega,by omega⟩⟩
       obtain⟨rfl,rfl⟩|⟨_,h⟩:=Na hi aN
       .rw[bW];exact key _ aO
       .exact key _ h)
     go_wp2_with fail;obtain⟨wz,rfl⟩:∃wz,wz=w4:=⟨_,rfl⟩
    case' false =>
     have bM:=AB (wP A' m' (c.h k).off w4 B dA.out (by omega) (by omega));have bW:fi (c.h k).off d=KR ((c.h k).off++[d]):=by unfold fi;rw[AE (by simpa using d6.out.LT)];rfl
     have HOA:=AB bW;obtain⟨off,a7⟩:∃off,off=(c.h k).off:=⟨_,rfl⟩;rw[<-a7] at bM HOA aK;have eX:w4.L ⟨g,k*4+3,Y⟩=U (Z A' off.L m'):=by rw[a7];exact zy
     have fP:=AB a7;rw[<-a7];clear bW zy a7 dA;go_wp2_with fail;refine bM.out.LT ?_;rintro e w5 ⟨v,rfl,zm,dB⟩;have gH:=dB.size;have dC:=zm.lt;have eK:=AB dB;clear dB bM;go_wp2_with (at_builtin;refine jT rfl _ _ rfl w4.heap.size _ _ _ rfl (zm.Li _) ⟨w5.heap.size,0,Y⟩ 1 (J I d) rfl ?c1 rfl ?c2 ?c3 ?_)
     case c1=>rw[AF _ _ _ _ rfl];rfl
     case c2=>omega
     case c3=>(try simp);omega
     intro v' w6 hown' hgrow hd;have aX:∀b,b<w4.heap.size->w6.heap[b]?=w4.heap[b]?:=λb hb=>by
      have zU:U b≠v.L:=dw zm hb;exact(hgrow.Lo b (by simp;omega) zU).trans ((ae _ _ (by omega)).trans (eK.out.Ly.Lo b hb))
     have hG6:Gr w w6:=((bA.out.trans eK.out).Li _).SS hgrow hd λq hq=>by have:=(dC q hq).1;have:=bA.out.size;omega
     have hc6:w6.L ⟨g,k*4+3,Y⟩=U (Z A' off.L m'):=(AY (aX g aL.2)).trans eX;have fR:w6.H ⟨g,k*4+3,Y⟩=false:=(BR (a:=⟨g,k*4+3,Y⟩) (aX g aL.2)).trans fO;obtain⟨g',cap',hv',hg'l,hg's⟩:=hown'.form (by omega);subst hv';have hsz6:w4.heap.size<=w6.heap.size:=by have:=hgrow.size;simp at this;omega
     obtain⟨w7,bX⟩:∃w7,w7=w6.LE ⟨g,k*4+3,Y⟩ (.slice (U ⟨g',0,Y⟩) (off.L+1) cap'):=⟨_,rfl⟩;have hz7:w7.heap.size=w6.heap.size:=by rw[bX];simp[E]
     have bY:w7.S w4.heap.size 3 1 (.slice (U ⟨g',0,Y⟩) (off++[d]).L cap') (off++[d]).L ((off++[d]).map (J I)):=by
      rw[bX];have:=ownsRow_setCell_below (a:=⟨g,k*4+3,Y⟩) hown' aL.2 (.slice (U ⟨g',0,Y⟩) (off.L+1) cap');simpa using this
     have aY:=wR g' cap' (off++[d]) w7 bY (by simp;omega);have cK:(off++[d]).L=off.L+1:=by simp
     rw[cK] at aY;have e5:=AB aY;have bC:=AB bX;have dD:=AB aX;have HG6:=AB hG6;clear aX hG6 hown' hgrow hd zm bY aY bX dC;go_wp2_with fail;rw[<-bC.out];refine e5.out.LT ?_;rintro e w8 ⟨rfl,bD,hs8⟩;have hz8:=bD.size;have fS:g≠g':=by omega
     have aB:∀b,b<w4.heap.size->b≠g->w8.heap[b]?=w4.heap[b]?:=λb hb zU=>by
      rw[bD.Lo b (by omega) (by show b≠g';omega),bC.out,AP _ _ _ _ (by show b≠g;exact zU)];exact dD.out b hb
     have dE:∀o,w8.L ⟨g,o,Y⟩=w7.L ⟨g,o,Y⟩:=λo=>bD.cell (p:=⟨g,o,Y⟩) (by show g<_;omega) fS;have zK:∀o,o≠k*4+3->w8.L ⟨g,o,Y⟩=w4.L ⟨g,o,Y⟩:=λo ho=>by
      rw[dE,bC.out,AN _ _ _ _ (λe=>ho (AZ Addr.off e).LT)];exact AY (dD.out g aL.2)
     have dF:w8.L ⟨g,k*4+3,Y⟩=U (.slice (U ⟨g',0,Y⟩) (off.L+1) cap'):=by
      rw[dE,bC.out];exact AW _ _ _ hc6
     have dG:∀b o,b<B->w8.L ⟨b,o,Y⟩=w4.L ⟨b,o,Y⟩:=λb o hb=>AY (aB b (by omega) (by omega))
     have aA:Hid (Q6 nA nc c ls k d w w1.heap.size g cap w8):=AB (by
      have dH:fi (c.h k).off d=KR (off++[d]):=by rw[<-fP.out];exact HOA.out
      refine⟨KT.gr (T:=(·=g')) (HG6.out.LE (p:=⟨g,k*4+3,Y⟩) (by show _<=g;omega) _) (bC.out▸bD) (by rintro b rfl;omega),(AY (aB w.heap.size (by omega) (by omega))).trans d8,(AY (aB w.heap.size (by omega) (by omega))).trans d9,(aB _ (by omega) (by omega)).trans bK.out,⟨by omega,by omega,by omega⟩,λi hi=>?_,?_,λzU=>⟨g,0,rfl,⟨by omega,by omega⟩,λi x hi=>?_⟩⟩
      .rw[AY (a:=⟨w1.heap.size,i,Y⟩) (aB w1.heap.size (by omega) (by omega)),(Gu bL.out).1 i]
       match i,hi with
       |0,_=>rfl
       |1,_=>rfl
       |2,_=>rfl
       |3,_=>rfl
       |4,_=>rfl
      .exact fQ (d7.out.keep dG) λb hb=>⟨by omega,by omega⟩
      .rw[AU];obtain⟨rfl,rfl⟩|⟨hik,h⟩:=Na hi aN
       .obtain⟨q0,q1,q2,_⟩:=bB.out i _ aO;refine⟨(zK _ (by omega)).trans q0,(zK _ (by omega)).trans q1,(zK _ (by omega)).trans q2,U ⟨g',0,Y⟩,cap',?_,?_⟩
        .rw[dF,dH,ll];simp
        .rw[dH];exact λ_=>⟨g',0,rfl,⟨by omega,by omega⟩,λj y hj=>by rw[AU];exact hs8 j y hj⟩
       .obtain⟨q0,q1,q2,A2,m2,q3,q4⟩:=bB.out i x h
        exact⟨(zK _ (by omega)).trans q0,(zK _ (by omega)).trans q1,(zK _ (by omega)).trans q2,A2,m2,(zK _ (by omega)).trans q3,fQ (q4.keep dG) λb hb=>⟨by omega,by omega⟩⟩)
     have fT:=aA.out.c0;have zi:=aA.out.c1;clear bD hs8 aB dE zK dF dG hc6 fR;go_wp2_with fail;obtain⟨wz,rfl⟩:∃wz,wz=w8:=⟨_,rfl⟩
    all_goals
     have aF:=cM.out k HE.out rfl aN cV.out.LT;have bZ:=uh c k d;obtain⟨c',hc'⟩:∃c',c'=JU c k d:=⟨_,rfl⟩;have c5:c'.DW=c.DW:=by rw[hc'];rfl
     have dI:=aA.out.RJ;rw[<-hc'] at dI aF bZ;have zG:=wS nA (U ⟨g,0,Y⟩) nc cap c' wz _ (λb hb=>hb.1) (by rw[c5];exact aA.out.DW) dI (by omega);unfold EG at zG;rw[c5,bZ] at zG;have HST:=AB zG;have HC':=AB hc';have aZ:=AB aF;have bO:=AB (ui HE.out fL);have e6:=aA.out.lt;clear zG hc' aF dI cQ cR eA bT bU aC bA HNB aU bI bK eC bL cP HN d7 HH eF eD cT cU d6 bB eI HE4 HCF cL HW eH cM d8 d9
     refine HST.out.LT ?_;rintro e w9 ⟨rfl,bE,g9,cap9,hg9l,hK9⟩;have hz9:=bE.size;have aM:∀i,i<5->w9.L ⟨w1.heap.size,i,Y⟩=U (.int .u8 (DY ls i:Nat)):=λi hi=>(bE.cell (p:=⟨w1.heap.size,i,Y⟩) e6.2.1).trans (aA.out.given i hi);obtain⟨v0,v1,v2,v3,v4⟩:=I3 aM;have eY:=AB aM;have hn9:w9.heap[w.heap.size+1]?=U (G #[J I 0] 3 (0,0)):=(bE.Ly.Lo _ (by omega)).trans aA.out.nb
     have HN9:=AB hn9;have dJ:=AB hK9;have fU:=AB bE;have hb12:w1.heap.size<w9.heap.size:=by omega
     clear aM hn9 hK9 bE HST
     try clear fT zi
     obtain⟨a6,aG⟩:∃a6:C,a6=(w9.Li (G #[.int .u8 (DY ls 0),.int .u8 (DY ls 1),.int .u8 (DY ls 2),.int .u8 (DY ls 3),.int .u8 (DY ls 4)] 115)).Li (G #[.bool cq] 4):=⟨_,rfl⟩;have aH:Gr w9 a6:=by rw[aG];exact((Gr.refl w9).Li _).Li _
     have bP:a6.heap.size=w9.heap.size+2:=by rw[aG];simp
     have cA:a6.heap[w9.heap.size]?=U (.cells (Ny (DY ls)) 115 (0,0)):=by
      rw[aG,ae _ _ (by simp)];exact H w9 _
     have hsome:a6.heap[w9.heap.size+1]?=U (G #[.bool cq] 4 (0,0)):=by
      rw[aG];have:=H (w9.Li (G #[.int .u8 (DY ls 0),.int .u8 (DY ls 1),.int .u8 (DY ls 2),.int .u8 (DY ls 3),.int .u8 (DY ls 4)] 115)) (G #[.bool cq] 4)
      rwa [CU] at this
     have eZ:Hid (Kj (DY ls) w9.heap.size (w9.heap.size+1) (w.heap.size+1) Y a6):=AB ⟨cA,hsome,(aH.Ly.Lo _ (by omega)).trans HN9.out⟩;obtain⟨T0,bF⟩:∃T0:Nat->Prop,T0=λb=>b=w9.heap.size\/b=w9.heap.size+1\/b=w.heap.size+1:=⟨_,rfl⟩;have bG:=AB bF;have dK:∀b,T0 b->b<a6.heap.size:=λb hb=>by rw[bF] at hb;omega
     have dL:∀b,(b<wz.heap.size/\b≠w.heap.size+1\/b=wz.heap.size+1\/b=g9)->¬T0 b:=λb hb h=>by
      rw[bF] at h;have:=dJ.out.lt b hb;omega
     have dM:¬T0 w1.heap.size:=λh=>by rw[bF] at h;omega
     have b5:=me (wz.heap.size+1) 0 GI a6;have hs:=ku (T0:=T0) (n:=0) (r:=GI) (dJ.out.keep (w':=a6) aH.size λb o hb=>aH.cell (p:=⟨b,o,Y⟩) (dJ.out.lt b hb)) dK dL gp;unfold ET at b5;have cB:=AB b5;have HS:=AB hs;have fV:=AB dK;have fW:=AB dL;have f5:=AB dM;have f6:=AB (fU.out.trans aH);have f9:Hid (∀i,i<5->a6.L ⟨w1.heap.size,i,Y⟩=U (.int .u8 (DY ls i:Nat))):=AB λi hi=>(aH.cell (p:=⟨w1.heap.size,i,Y⟩) (by show w1.heap.size<_;omega)).trans (eY.out i hi)
     have dN:=AB aG;have fA:=AB bP;clear aG b5 hs dK dL dM bF aH cA hsome bP;go_wp2_with fail;rw[<-dN.out];refine cB.out.LT ?_;rintro e cC ⟨rfl,b6⟩;have hs:=HS.out;rw[<-b6] at hs;have eL:=AB hs;have dO:Gr a6 cC:=by rw[b6];exact(((Gr.refl a6).Li _).Li _).Li _
     have bQ:cC.heap.size=a6.heap.size+3:=by rw[b6];simp
     have b7:=AB dO;have fB:=AB bQ;clear hs HS bQ dO b6 cB dN v0 v1 v2 v3 v4;go_wp2_with fail;have bP:=fA.out;have bQ:=fB.out;rw[<-fc (n:=0)];have fX:Hid (0+c.DW.L=c'.DW.L):=AB (by rw[c5];omega);have b8:Hid ((∀x∈Ex c.DR.L,c'.LT x)/\(Ex c.DR.L).L<=16):=AB ⟨by rw[<-bZ];exact mL aZ.out,by rw[<-bZ];exact oQ aZ.out⟩
     refine kQ (T0:=T0) (cb:=wz.heap.size+1) (c:=c') (sets:=Ex c.DR.L) (bc:=a6.heap.size) (br:=a6.heap.size+1) (bn:=a6.heap.size+2) (k:=c.DW.L) (n:=0) (r:=GI)
      aZ.out b8.out.1 b8.out.2 rfl fX.out (λ_ _=>rfl) eL.out (λb hb=>AI (fV.out b hb) b7.out.size) rfl
      (λpre W=>Kj (DY ls) w9.heap.size (w9.heap.size+1) (w.heap.size+1) (GY (DY ls) pre) W) (λ_ _ _=>False)
      (λpre W W' h hk=>by
       have fY:=hk w9.heap.size (by rw[bG.out];exact .inl rfl);have e16:=hk (w9.heap.size+1) (by rw[bG.out];exact .inr (.inl rfl));have e9:=hk (w.heap.size+1) (by rw[bG.out];exact .inr (.inr rfl))
       exact⟨fY.trans h.MG,e16.trans h.is,e9.trans h.cost⟩) (λc pre W W' h _=>h)
      (by
       have h:=eZ.out;have hb:=b7.out.Ly.Lo
       exact⟨(hb _ (by omega)).trans h.MG,(hb _ (by omega)).trans h.is,(hb _ (by omega)).trans h.cost⟩) ?_ ?_ (λD j q W _ _ _ h _=>h.elim)
     .intro l pre ρ W hpl aI dP hl1' hl2';have eM:∀i,c'.LT (ρ i):=lm b8.out.1 _ _ _ gp ρ (hpl.subset (by simp));have bR:Hid (∀i,ρ i<16):=AB λi=>se (by omega) (eM i);have dQ:∀i,i<5->W.L ⟨w1.heap.size,i,Y⟩=U (.int .u8 (DY ls i:Nat)):=λi hi=>by
       rw[aI.cell (p:=⟨w1.heap.size,i,Y⟩) (by show w1.heap.size<_;omega) (by rintro(h|h);exact f5.out h;have h':w1.heap.size=a6.heap.size+1:=h;omega),b7.out.cell (p:=⟨w1.heap.size,i,Y⟩) (by show w1.heap.size<_;omega)];exact f9.out i hi
      have hzW:=aI.size;have HI:=AB dP;obtain⟨W2,zn⟩:∃W2,W2=W.Li (G #[.int .u8 (ρ 0),.int .u8 (ρ 1),.int .u8 (ρ 2),.int .u8 (ρ 3),.int .u8 (ρ 4)] 115):=⟨_,rfl⟩;have fZ:Hid (KT T0 W W2):=AB (by rw[zn];exact KT.EF ((Gr.refl W).Li _));have eN:Hid (W2.heap[W.heap.size]?=U (.cells (Ny ρ) 115 (0,0))):=AB (by rw[zn];exact H W _);have HOLD:Hid (∀b,b<W.heap.size->W2.heap[b]?=W.heap[b]?):=AB λb hb=>by rw[zn];exact ae _ _ hb
      have zD:W2.heap.size=W.heap.size+1:=by rw[zn];simp
      have g5:=AB zD;have eO:=AB zn;have dR:=AB dQ;clear hpl aI dP eM dQ zn zD;unfold ET
      gi_wp2
      rw[<-eO.out];refine⟨fZ.out,λo=>?_⟩;clear eO;have g7:∀b,b<cC.heap.size->b≠l:=λb hb=>by omega
      have dS:Kj (DY ls) w9.heap.size (w9.heap.size+1) (w.heap.size+1) (GY (DY ls) pre) (W2.SL l o):=by
       have h:=HI.out;have e:∀b,b<cC.heap.size->(W2.SL l o).heap[b]?=W.heap[b]?:=λb hb=>(bq (g7 b hb)).trans (HOLD.out b (by omega));exact⟨(e _ (by omega)).trans h.MG,(e _ (by omega)).trans h.is,(e _ (by omega)).trans h.cost⟩
      have dT:∀i,i<5->(W2.SL l o).L ⟨W.heap.size,i,Y⟩=U (.int .u8 (ρ i:Nat)):=λi hi=>by
       rw[(Gu (W:=W2.SL l o) ((bq (by omega)).trans eN.out)).1 i];exact wT ρ hi
      have dU:∀i,i<5->(W2.SL l o).L ⟨w1.heap.size,i,Y⟩=U (.int .u8 (DY ls i:Nat)):=λi hi=>by
       rw[cy (by show w1.heap.size≠l;omega),AY (a:=⟨w1.heap.size,i,Y⟩) (HOLD.out w1.heap.size (by omega))];exact dR.out i hi
      have hz3:(W2.SL l o).heap.size=W.heap.size+1:=by simp[World.putObj];exact g5.out
      obtain⟨W3,hW3⟩:∃W3,W3=W2.SL l o:=⟨_,rfl⟩;rw[<-hW3] at dS dT dU hz3 ⊢;have cD:=AB dS;have aQ:=AB dT;have H12:=AB dU;have HZ3:=AB hz3;clear hW3 dS dT dU HI eN HOLD dR hz3
      gi_wp2
      gi_loopw [18,84] (λv i wr=>∃(j m:Nat),j<=5/\i=J I j/\v=J I (JB ρ (DY ls) j:Nat)/\wr=W3.drewN m) (λ_ i _=>5-(O i).L)
      case atStart=>exact⟨0,0,by omega,rfl,rfl,rfl⟩
      case round =>
       obtain⟨j,m,hj,rfl,rfl,rfl⟩:=hrel;by_cases hj5:j<5
       .have c17:W3.L ⟨W.heap.size,j,Y⟩=U (.int .u8 (ρ j:Nat)):=aQ.out j hj5;have c12:W3.L ⟨w1.heap.size,j,Y⟩=U (.int .u8 (DY ls j:Nat)):=H12.out j hj5;have hx:=mW ⟨ρ j,bR.out j⟩ ⟨DY ls j,bO.out j⟩;have g8:=pc (a:=ρ) (b:=DY ls) (λi hi=>(mW ⟨ρ i,bR.out i⟩ ⟨DY ls i,bO.out i⟩).2) j hj;have cE:Hid (JB ρ (DY ls) (j+1)=JB ρ (DY ls) j+(wl (ρ j ^^^ DY ls j)).L):=AB rfl
        have bS:=oZ ⟨ρ j ^^^ DY ls j,hx.2⟩;have dW:=AB (λw=>yx (ρ j ^^^ DY ls j) w hx.2);simp only at hx bS;obtain⟨hx1,hx2⟩:=hx;generalize ρ j ^^^ DY ls j=X at hx1 hx2 bS dW cE;generalize ρ j=x at c17 hx1;generalize DY ls j=y at c12 hx1;generalize JB ρ (DY ls) j=q at g8 cE;generalize (wl X).L=L at cE bS dW
        gi_wp2
        refine ft (F:=Fence.wide) rfl (by kernel_rfl) (by kernel_rfl) (by kernel_rfl) ?_
        repeat (gi_big_quiet_step (fail))
        refine wpQuietIn_step (λw _ f _=>trivial) (λK hK=>?_);go_simp;apply Exists.intro;refine⟨λ_=>?_,hK _ ?_⟩
        .exact⟨rfl,(callsIn_wide.2 (dW.out _)).LT λe w' h=>⟨h.1,_,h.2.LT⟩⟩
        clear hK K
        repeat (gi_big_quiet_step (fail))
        refine wpQuietIn_nil ?_;intro _ hw';obtain⟨nq,hw''⟩:=hw';subst hw''
        gi_wp2
        go_roundw
        case rel=>exact⟨j+1,m+nq,by omega,by go_num,by rw[cE.out];first|rfl|(congr 1;omega),rfl⟩
        case measure=>simp[Proofs.intOf];omega
       .have fC:j=5:=by omega
        subst fC;have cF:=cD.out;have HF5:=pc (a:=ρ) (b:=DY ls) (λi hi=>(mW ⟨ρ i,bR.out i⟩ ⟨DY ls i,bO.out i⟩).2) 5 (AD _);have bH:=AB (jQ (DY ls) pre ρ);obtain⟨cG,nb1,nb2⟩:=one_cell cF.is;obtain⟨aR,nc1,nc2⟩:=one_cell cF.cost;obtain⟨a8,aJ,nd2⟩:=Gu cF.MG;have p0:=aQ.out 0 (by omega);have p1:=aQ.out 1 (by omega);have p2:=aQ.out 2 (by omega);have p3:=aQ.out 3 (by omega)
        have p4:=aQ.out 4 (by omega);have d0:=a8 0;have d1:=a8 1;have d2:=a8 2;have d3:=a8 3;have d4:=a8 4;have f0:=aJ 0;have f1:=aJ 1;have f2:=aJ 2;have f3:=aJ 3;have f4:=aJ 4;generalize GY (DY ls) pre=o' at cG aR d0 d1 d2 d3 d4 bH cD;simp only[Ny,Bw,Br,Bu] at d0 d1 d2 d3 d4;clear cF a8 aJ;have dX:Hid (T0 w9.heap.size/\T0 (w9.heap.size+1)/\T0 (w.heap.size+1)):=AB (by rw[bG.out];exact⟨.inl rfl,.inr (.inl rfl),.inr (.inr rfl)⟩)
        have eP:KT T0 W3 (W3.drewN m):=KT.EF ((Gr.refl W3).drewN m);have dY:=AB eP;have hw9:w.heap.size+1<w9.heap.size:=by omega
        clear eP;obtain⟨q5,hq5⟩:∃q,q=JB ρ (DY ls) 5:=⟨_,rfl⟩;rw[<-hq5] at HF5 bH ⊢;clear hq5;have HP:=AB ((cD.out.drewN m).put (by omega) (by omega) (by omega) ρ q5 T0 dX.out.1 dX.out.2.1 dX.out.2.2);cases o' with
        |none =>
         gi_wp2
         refine⟨dY.out.trans HP.out.2,?_⟩;show Kj _ _ _ _ (GY _ (pre++[ρ])) _;rw[bH.out];exact HP.out.1
        |some p =>
         obtain⟨p1,n0⟩:=p;simp only[ez,O5] at cG aR;by_cases zY:q5<n0
         .have fD:(q5:Int)<(n0:Int):=by omega
          gi_wp2
          refine⟨dY.out.trans HP.out.2,?_⟩;show Kj _ _ _ _ (GY _ (pre++[ρ])) _;rw[bH.out];simp only[AJ zY];exact HP.out.1
         .have fD:¬(q5:Int)<(n0:Int):=by omega
          gi_wp2
          refine⟨dY.out,?_⟩;show Kj _ _ _ _ (GY _ (pre++[ρ])) _;rw[bH.out];simp only[AE zY];exact cD.out.drewN m
     .intro D W hD aI hi hd;have hw9:w.heap.size+1<w9.heap.size:=by omega
      have hGW:Gr w W:=KT.gr (T:=λb=>T0 b\/b=a6.heap.size+1) (aA.out.gr.trans (f6.out.trans b7.out)) aI (by
       rintro b (h|h)
       .rw[bG.out] at h;omega
       .omega)
      have hzW:=aI.size;have HNR:Hid (GY (DY ls) (EJ (JU c k d) (Ex c.DR.L) c.DW.L GI 0)=GY (DY ls) (EJ c' (Ex c.DR.L) c.DW.L GI 0)):=AB (by rw[HC'.out]);have aK:∀p,GY (DY ls) (EJ c' (Ex c.DR.L) c.DW.L GI 0)=U p->∀i,i<5->p.1 i<16:=λp hp i _ =>
       se (by omega) (lm b8.out.1 _ _ _ gp p.1 (rL _ _ p rfl hp) i)
      obtain⟨o',dZ⟩:∃o',o'=GY (DY ls) (EJ c' (Ex c.DR.L) c.DW.L GI 0):=⟨_,rfl⟩;rw[<-dZ] at aK HNR hi;have HNR2:=AB dZ
      have cH:Hid (∀e w',Gr w w'->(match o' with
       |none=>e=.L (.tuple #[.slice Y 0 0,J I 0,J I 11])
       |some p=>∃A k,e=.L (.tuple #[Z A c.DW.L k,J I p.2,J I 0])/\FX w' w'.heap.size A (aV p.1 c.DW.L))->jp c ls k d w e w'):=AB λe w' hg h=>by
        refine⟨hg,?_⟩;rw[AE (by simp[HE.out]),AE (by rw[show Ha (k:Int) 0 (c.DR.L-1)=ew by unfold Ha;simp;omega,<-cV.out];simp),show((k:Int)).L=k from rfl,HNR.out];exact h
      have hcc:W.L ⟨wz.heap.size+1,0,Y⟩=U (Z nA c.DW.L nc):=by
       rw[aI.cell (p:=⟨wz.heap.size+1,0,Y⟩) (by show wz.heap.size+1<_;omega) (by rintro(h|h);exact fW.out _ (.inr (.inl rfl)) h;have h':wz.heap.size+1=a6.heap.size+1:=h;omega)];have:=eL.out.F5.c0
       rwa [c5] at this
      obtain⟨cG,nb1,nb2⟩:=one_cell hi.is;obtain⟨aR,nc1,nc2⟩:=one_cell hi.cost;obtain⟨a8,aJ,nd2⟩:=Gu hi.MG;have eQ:=AB hGW;have cI:=AB hd;have cJ:D≠w.heap.size+1:=by omega
      have fE:wz.heap.size+1<W.heap.size:=by omega
      have fF:=AB aK;clear aI hi hGW hd dZ aK;cases o' with
      |none =>
       have HDS:Hid ((W.LE ⟨w.heap.size+1,0,Y⟩ (J I 0)).heap[D]?=U (.L (U []))):=AB ((AP _ _ _ _ cJ).trans cI.out);go_wp2;refine dV HDS.out (v:=.tuple #[.slice Y 0 0,J I 0,J I 11]) ?_ (cH.out _ _ ((eQ.out.LE (by show _<=w.heap.size+1;omega) _).SL (by omega) _) rfl);have:=cy (W:=W.LE ⟨w.heap.size+1,0,Y⟩ (J I 0)) (D:=D) (o:=.L Y) (p:=⟨w.heap.size+1,0,Y⟩) (cu cJ)
       rw[AW _ _ _ aR] at this;simp[results,bs,go_sem,this]
      |some p =>
       obtain⟨p1,n0⟩:=p;have HL:=AB (oR (wz.heap.size+1) nA c.DW.L nc p1 W.drew fE hcc fK (fF.out _ rfl));have d0:=a8 0;have d1:=a8 1;have d2:=a8 2;have d3:=a8 3;have d4:=a8 4;simp only[Ny,Q7,Bw,Br,Bu] at d0 d1 d2 d3 d4;simp only[ez,O5] at cG aR;unfold ET at HL;clear a8 aJ;go_wp2;refine lR ?_;go_region_with (first|(go_at_call 90;refine HL.out.LT ?_;rintro e w3 ⟨A3,c3,xs3,rfl,eR,zH⟩;have q0:=(zH.cell (p:=⟨w.heap.size+1,0,Y⟩) (by show w.heap.size+1<W.heap.size;omega)).trans aR;have q1:=(zH.frozen (p:=⟨w.heap.size+1,0,Y⟩) (by show w.heap.size+1<W.heap.size;omega)).trans nc1;have aC:=AB zH;have HOG:=AB eR;clear zH eR))
       all_goals
        go_wp2;have hz3:=aC.out.size;have gB:W.heap.size<=w3.heap.size:=hz3;have hD3:(w3.LE ⟨w.heap.size+1,0,Y⟩ (J I (n0:Nat))).heap[D]?=U (.L (U [])):=(AP _ _ _ _ cJ).trans ((aC.out.Ly.Lo D (AC.1 cI.out).1).trans cI.out);have fH:EW ((w3.LE ⟨w.heap.size+1,0,Y⟩ (J I (n0:Nat))).SL D (.L Y)) (W.drew.heap.size+1) (Z A3 c.DW.L c3) (aV p1 c.DW.L) xs3:=HOG.out.keep' λb hb hl=>by
         have hDl:=(AC.1 cI.out).1;have hb':W.heap.size+1<=b:=hb;rw[bq (by omega),AP _ _ _ _ (by show b≠w.heap.size+1;omega)]
        obtain⟨A4,c4,e4,fI⟩:=fH.Oc;rw[eJ] at e4;refine dV hD3 (v:=.tuple #[Z A3 c.DW.L c3,J I (n0:Nat),J I 0]) ?_ (cH.out _ _ (((eQ.out.drew.trans aC.out).LE (by show _<=w.heap.size+1;omega) _).SL (by omega) _) ⟨A4,c4,by rw[e4],fI⟩);have:=cy (W:=w3.LE ⟨w.heap.size+1,0,Y⟩ (J I (n0:Nat))) (D:=D) (o:=.L Y) (p:=⟨w.heap.size+1,0,Y⟩) (cu cJ)
        rw[AW _ _ _ q0] at this;simp[results,bs,go_sem,this]
 .rw[AE hE] at hf;obtain⟨p,r,rfl⟩:=hf;have HE:=AB hE;obtain⟨q,hq⟩:∃q,q=Eo c ls:=⟨_,rfl⟩;rw[<-hq] at hE ⊢;have HQ:=AB hq;have hqe:(q != 0)=true:=by simp[hE]
  obtain⟨aD,bV,cO⟩:=one_cell aU.out;have HX:=AB (show Gr w (w1.Li (G #[.int .u8 (r 0),.int .u8 (r 1),.int .u8 (r 2),.int .u8 (r 3),.int .u8 (r 4)] 115)) from bU.out.Li _);clear hE hq zJ aT;unfold ET;go_wp2;have hres:((w1.LE ⟨w.heap.size+1,0,Y⟩ (J I 0)).Li (G #[.int .u8 (r 0),.int .u8 (r 1),.int .u8 (r 2),.int .u8 (r 3),.int .u8 (r 4)] 115)).L ⟨w.heap.size+1,0,Y⟩=U (J I 0):=by
   rw[A7 _ _ _ (by simp[E];exact cO)];exact AW _ _ _ aD
  refine fG (v:=.tuple #[.slice Y 0 0,J I 0,J I q]) (by simp[results,bs,go_sem,hres]) ⟨(bU.out.LE (by show _<=w.heap.size+1;omega) _).Li _,?_⟩;rw[AJ HE.out,HQ.out]
def eK (A A':Option bh)(c c':Nat)(l m:List Int)(w:C)(B:Nat)(hB:B<=w.heap.size)(h:RI w B A l)(h':RI w B A' m)(hl:l.L<=4611686018427387904)(hm:m.L<=4611686018427387904) :
  bo DP 52 #[Z A l.L c,Z A' m.L c'] w λe w'=>e=.L (.bool (decide (l=m)))/\Gr w w':=by
 have HR:=AB h;have a6:=AB h';go_enter Sq.func52,Tryz.ntmps52;by_cases zk:l.L=m.L
 .go_wp2;go_loopw [5] (λi wr=>∃k:Nat,k<=l.L/\i=J I k/\l.LT k=m.LT k/\Gr w wr) (λi _=>l.L-(O i).L)
  case atStart=>exact⟨0,by omega,rfl,by simp,.refl _⟩
  case round =>
   obtain⟨k,hk,rfl,heq,hg⟩:=hrel;have HG:=AB hg;have HE:=AB heq;by_cases zY:k<l.L
   .obtain⟨b,o,rfl,hb,hc⟩:=(HR.out.gr hB HG.out).at_ zY;obtain⟨b',o',rfl,hb',hc'⟩:=(a6.out.gr hB HG.out).at_ (show k<m.L by omega);have HD:=AB (wj l m k zY (by omega));generalize l[k]?.LE 0=x at hc HD;generalize m[k]?.LE 0=y at hc' HD;by_cases h1:x=y
    .have HS:=AB (HD.out.1 HE.out h1);subst h1;clear HD;go_wp2;go_region;go_wp2;go_roundw
     case rel=>exact⟨k+1,by omega,by go_num,HS.out,HG.out.drew⟩
     case measure=>simp[Proofs.intOf];omega
    .have HS:=AB (HD.out.2 h1);have zU:decide (x≠y)=true:=by simp[h1]
     go_wp2;go_region;go_wp2;go_ret;exact⟨aF (by simp[HS.out]),HG.out.drew⟩
   .have a7:k=l.L:=by omega
    have HS:=AB (show l=m by have:=HE.out;rw[a7,Bj (by omega),Bj (by omega)] at this;exact this);go_wp2;go_ret;exact⟨aF (by simp[HS.out]),HG.out⟩
 .have zU:l≠m:=λe=>zk (by rw[e]);have HN:=AB zU;go_wp2;go_ret;exact⟨aF (by simp[HN.out]),.refl _⟩
def i7 (A A':Option bh)(c c':Nat)(l m:List (List Int))(w:C)(B:Nat)(hB:B<=w.heap.size)(h:FX w B A l)(h':FX w B A' m)(hl:l.L<=4611686018427387904)(hm:m.L<=4611686018427387904)
  (zC:∀x∈l,x.L<=4611686018427387904) (aC:∀x∈m,x.L<=4611686018427387904) :
  bo DP 28 #[Z A l.L c,Z A' m.L c'] w λe w'=>e=.L (.bool (decide (l=m)))/\Gr w w':=by
 have HR:=AB h;have aH:=AB h';have HL2:=AB zC;have aI:=AB aC;clear h h' zC aC;go_enter Sq.func28,Tryz.ntmps28;by_cases zk:l.L=m.L
 .rw[<-zk];have HLEN:=AB zk;clear zk;have aD:∀k,k<l.L->k<m.L:=λk hk=>by have:=HLEN.out;omega
  have a8:=AB aD;clear aD;go_wp2;go_loopw [5] (λi wr=>∃k:Nat,k<=l.L/\i=J I k/\l.LT k=m.LT k/\Gr w wr) (λi _=>l.L-(O i).L)
  case atStart=>exact⟨0,by omega,rfl,by simp,.refl _⟩
  case round =>
   obtain⟨k,hk,rfl,heq,hg⟩:=hrel;have HG:=AB hg;have HE:=AB heq;clear hg heq;by_cases zY:k<l.L
   .obtain⟨b,o,A1,c1,rfl,hb,hc,hr⟩:=(HR.out.gr hB HG.out).at_ zY;obtain⟨b',o',A2,c2,rfl,hb',hc',a7⟩:=(aH.out.gr hB HG.out).at_ (a8.out k zY);have HD:=AB (tV l m k zY (a8.out k zY));have hx:=HL2.out _ (gn l k zY);have hy:=aI.out _ (gn m k (a8.out k zY));generalize l[k]?.LE []=x at hc HD hr hx;generalize m[k]?.LE []=y at hc' HD a7 hy;have zx:=HG.out.size;have a6:Hid (∀q,q=wr\/q=wr.drew->bo DP 52 #[Z A1 x.L c1,Z A2 y.L c2] q λe w'=>e=.L (.bool (decide (x=y)))/\Gr q w'):=AB λq hq=>by
     obtain rfl|rfl:=hq
     .exact eK A1 A2 c1 c2 x y _ B (by omega) hr a7 hx hy
     .exact eK A1 A2 c1 c2 x y _ B (by show B<=wr.heap.size;omega) hr a7 hx hy
    clear hr a7 hx hy;by_cases h1:x=y
    .have HS:=AB (HD.out.1 HE.out h1);have aA:Hid (∀q,q=wr\/q=wr.drew->bo DP 52 #[Z A1 x.L c1,Z A2 y.L c2] q λe w'=>e=.L (.bool ew)/\Gr q w'):=AB λq hq=>(a6.out q hq).LT λe w' h=>⟨h.1.trans (aF (by simp[h1])),h.2⟩;clear h1 HD a6;go_wp2;go_region_with (first|(go_at_call 52;refine(aA.out _ (by first|exact fu rfl|exact eo rfl)).LT ?_;rintro e w3 ⟨rfl,zH⟩;have q0:=(zH.cell (p:=⟨b,o+k,Y⟩) (by show b<wr.heap.size;omega)).trans hc;have q1:=(zH.cell (p:=⟨b',o'+k,Y⟩) (by show b'<wr.heap.size;omega)).trans hc';have aB:=AB (show Gr w w3 from(by first|exact HG.out.trans zH|exact HG.out.drew.trans zH));clear zH))
     all_goals
      go_wp2;go_roundw
      case rel=>exact⟨k+1,by omega,by go_num,HS.out,aB.out⟩
      case measure=>simp[Proofs.intOf];omega
    .have HS:=AB (HD.out.2 h1);have aA:Hid (∀q,q=wr\/q=wr.drew->bo DP 52 #[Z A1 x.L c1,Z A2 y.L c2] q λe w'=>e=.L (.bool cq)/\Gr q w'):=AB λq hq=>(a6.out q hq).LT λe w' h=>⟨h.1.trans (aF (by simp[h1])),h.2⟩;clear h1 HD a6;go_wp2;go_region_with (first|(go_at_call 52;refine(aA.out _ (by first|exact fu rfl|exact eo rfl)).LT ?_;rintro e w3 ⟨rfl,zH⟩;have q0:=(zH.cell (p:=⟨b,o+k,Y⟩) (by show b<wr.heap.size;omega)).trans hc;have q1:=(zH.cell (p:=⟨b',o'+k,Y⟩) (by show b'<wr.heap.size;omega)).trans hc';have aB:=AB (show Gr w w3 from(by first|exact HG.out.trans zH|exact HG.out.drew.trans zH));clear zH))
     all_goals
      go_wp2;go_ret;exact⟨aF (by simp[HS.out]),aB.out⟩
   .have aG:k=l.L:=by omega
    have HS:=AB (show l=m by have:=HE.out;rw[aG,Bj (by omega),Bj (by have:=HLEN.out;omega)] at this;exact this);clear aG;go_wp2;go_ret;exact⟨aF (by simp[HS.out]),HG.out⟩
 .have zU:l≠m:=λe=>zk (by rw[e]);have HN:=AB zU;clear zU;go_wp2;go_ret;exact⟨aF (by simp[HN.out]),.refl _⟩
abbrev i64 (x:Int):Value:=J I x
def O6 (c:EE):Value:=.agg #[i64 c.kind,i64 c.pt,i64 c.ot,i64 c.at_,i64 c.er]
def Mm (c:EE):List Value:=[i64 c.kind,i64 c.pt,i64 c.ot,i64 c.at_,i64 c.er]
def Je:List EE->List bb
 |[]=>[]
 |c::l=>Mm c++Je l
def Js (f:Eu):Value:=.agg #[i64 f.pt,i64 f.yr,i64 f.at_]
def Oz (f:Eu):List Value:=[i64 f.pt,i64 f.yr,i64 f.at_]
def G6:List Eu->List bb
 |[]=>[]
 |c::l=>Oz c++G6 l
def JX (x:FB)(A:Option bh)(k:Nat):Value:=.agg #[i64 x.pts,i64 x.bend,Z A x.Eg.L k]
def ut (l m:List EE):Je (l++m)=Je l++Je m:=by
 induction l with
 |nil=>rfl
 |cons c l ih=>simp[Je,ih]
def uu (l m:List Eu):G6 (l++m)=G6 l++G6 m:=by
 induction l with
 |nil=>rfl
 |cons c l ih=>simp[G6,ih]
def pg:∀(l:List EE) (i:Nat) (c:EE),l[i]?=U c->∀j,j<5->(Je l)[i*5+j]?=(Mm c)[j]?
 |a::l,0,c,h,j,hj=>by
  simp at h;subst h;show(Mm a++Je l)[0*5+j]?=_;rw[Bn (by simp[Mm];omega)];simp
 |a::l,i+1,c,h,j,hj=>by
  show(Mm a++Je l)[(i+1)*5+j]?=_;rw[Bo (by simp[Mm];omega)];have:=pg l i c (by simpa using h) j hj;rw[<-this];congr 1;simp[Mm];omega
def iO:∀(l:List Eu) (i:Nat) (c:Eu),l[i]?=U c->∀j,j<3->(G6 l)[i*3+j]?=(Oz c)[j]?
 |a::l,0,c,h,j,hj=>by
  simp at h;subst h;show(Oz a++G6 l)[0*3+j]?=_;rw[Bn (by simp[Oz];omega)];simp
 |a::l,i+1,c,h,j,hj=>by
  show(Oz a++G6 l)[(i+1)*3+j]?=_;rw[Bo (by simp[Oz];omega)];have:=iO l i c (by simpa using h) j hj;rw[<-this];congr 1;simp[Oz];omega
def JJ:∀l,(G6 l).L=l.L*3
 |[]=>rfl
 |c::l=>by simp[G6,Oz,JJ l];omega
def NA (w:C)(b o:Nat)(c:EE):Prop :=
 w.L ⟨b,o,Y⟩=U (i64 c.kind)/\w.L ⟨b,o+1,Y⟩=U (i64 c.pt)/\w.L ⟨b,o+2,Y⟩=U (i64 c.ot)/\w.L ⟨b,o+3,Y⟩=U (i64 c.at_)/\w.L ⟨b,o+4,Y⟩=U (i64 c.er)
def Jt (w:C)(b o:Nat)(f:Eu):Prop :=
 w.L ⟨b,o,Y⟩=U (i64 f.pt)/\w.L ⟨b,o+1,Y⟩=U (i64 f.yr)/\w.L ⟨b,o+2,Y⟩=U (i64 f.at_)
def F3 (w:C)(B:Nat)(A:Option bh)(l:List EE):Prop :=
 l≠[]->∃b o,A=U ⟨b,o,Y⟩/\b<B/\∀i c,l[i]?=U c->NA w b (o+i*5) c
def E6 (w:C)(B:Nat)(A:Option bh)(l:List Eu):Prop :=
 l≠[]->∃b o,A=U ⟨b,o,Y⟩/\b<B/\∀i c,l[i]?=U c->Jt w b (o+i*3) c
section
variable {w w':C} {B B' b o:Nat} {A:Option bh}
def NA.keep {c:EE}(h:NA w b o c)(hk:∀o,w'.L ⟨b,o,Y⟩=w.L ⟨b,o,Y⟩):NA w' b o c:=by
 obtain⟨h1,h2,h3,h4,h5⟩:=h;exact⟨(hk _).trans h1,(hk _).trans h2,(hk _).trans h3,(hk _).trans h4,(hk _).trans h5⟩
def Jt.keep {c:Eu}(h:Jt w b o c)(hk:∀o,w'.L ⟨b,o,Y⟩=w.L ⟨b,o,Y⟩):Jt w' b o c:=by
 obtain⟨h1,h2,h3⟩:=h;exact⟨(hk _).trans h1,(hk _).trans h2,(hk _).trans h3⟩
def F3.keep {l:List EE}(h:F3 w B A l)(hk:∀b o,b<B->w'.L ⟨b,o,Y⟩=w.L ⟨b,o,Y⟩):F3 w' B A l:=λhn=>by
 obtain⟨b,o,e,hb,hc⟩:=h hn;exact⟨b,o,e,hb,λi h hi=>(hc i h hi).keep λ_=>hk _ _ hb⟩
def E6.keep {l:List Eu}(h:E6 w B A l)(hk:∀b o,b<B->w'.L ⟨b,o,Y⟩=w.L ⟨b,o,Y⟩):E6 w' B A l:=λhn=>by
 obtain⟨b,o,e,hb,hc⟩:=h hn;exact⟨b,o,e,hb,λi h hi=>(hc i h hi).keep λ_=>hk _ _ hb⟩
def F3.gr {l:List EE}(h:F3 w B A l)(hB:B<=w.heap.size)(hg:Gr w w'):F3 w' B A l:=h.keep λ_ _ hb=>hg.cell (AI hb hB)
def E6.gr {l:List Eu}(h:E6 w B A l)(hB:B<=w.heap.size)(hg:Gr w w'):E6 w' B A l:=h.keep λ_ _ hb=>hg.cell (AI hb hB)
def F3.more {l:List EE}(h:F3 w B A l)(hB:B<=B'):F3 w B' A l:=λhn=>by
 obtain⟨b,o,e,hb,hc⟩:=h hn;exact⟨b,o,e,by omega,hc⟩
def E6.more {l:List Eu}(h:E6 w B A l)(hB:B<=B'):E6 w B' A l:=λhn=>by
 obtain⟨b,o,e,hb,hc⟩:=h hn;exact⟨b,o,e,by omega,hc⟩
def F3.nil:F3 w B A []:=λh=>AH rfl h
def E6.nil:E6 w B A []:=λh=>AH rfl h
def F3.at_ {l:List EE}(h:F3 w B A l){k:Nat}(hk:k<l.L):∃b o,A=U ⟨b,o,Y⟩/\b<B/\NA w b (o+k*5) (l[k]?.LE .none):=by
 obtain⟨b,o,e,hb,hc⟩:=h (λe=>by rw[e] at hk;simp at hk);exact⟨b,o,e,hb,hc k _ (by rw[AG hk];rfl)⟩
def E6.at_ {l:List Eu}(h:E6 w B A l){k:Nat}(hk:k<l.L):∃b o,A=U ⟨b,o,Y⟩/\b<B/\Jt w b (o+k*3) (FC l k):=by
 obtain⟨b,o,e,hb,hc⟩:=h (λe=>by rw[e] at hk;simp at hk);exact⟨b,o,e,hb,hc k _ (by unfold FC;rw[AG hk];rfl)⟩
def F3.Fw {base:Nat}{e:dt}{v:bb}{l:List EE}(h:w.S base e 5 v l.L (Je l)):∃A c,v=Z A l.L c/\F3 w w.heap.size A l:=by
 obtain⟨rfl,h0⟩|⟨g,cap,cur,rfl,_,hg,_⟩:=h.2
 .have:l=[]:=Bf (by simpa using h0);subst this;exact⟨Y,0,rfl,.nil⟩
 .refine⟨_,cap,rfl,λ_=>⟨g,0,rfl,(AC.1 hg).1,λi c hi=>?_⟩⟩;have hc:=h.cells (g:=g) rfl;have key:∀j,j<5->∀u,(Mm c)[j]?=U u->w.L ⟨g,0+i*5+j,Y⟩=U u:=λj hj u hu=>by
   have:=hc (i*5+j) u (by rw[pg l i c hi j hj];exact hu);have e:(⟨g,0,Y⟩:bh).add (i*5+j)=⟨g,0+i*5+j,Y⟩:=by
    unfold ed;split
    .rename_i h0;simp;first|done|omega
    .simp;first|done|omega
   rwa [e] at this
  exact⟨key 0 (by omega) _ rfl,key 1 (by omega) _ rfl,key 2 (by omega) _ rfl,key 3 (by omega) _ rfl,key 4 (by omega) _ rfl⟩
def E6.Fw {base:Nat}{e:dt}{v:bb}{l:List Eu}(h:w.S base e 3 v l.L (G6 l)):∃A c,v=Z A l.L c/\E6 w w.heap.size A l:=by
 obtain⟨rfl,h0⟩|⟨g,cap,cur,rfl,_,hg,_⟩:=h.2
 .have:l=[]:=Bf (by simpa using h0);subst this;exact⟨Y,0,rfl,.nil⟩
 .refine⟨_,cap,rfl,λ_=>⟨g,0,rfl,(AC.1 hg).1,λi c hi=>?_⟩⟩;have hc:=h.cells (g:=g) rfl;have key:∀j,j<3->∀u,(Oz c)[j]?=U u->w.L ⟨g,0+i*3+j,Y⟩=U u:=λj hj u hu=>by
   have:=hc (i*3+j) u (by rw[iO l i c hi j hj];exact hu);have e:(⟨g,0,Y⟩:bh).add (i*3+j)=⟨g,0+i*3+j,Y⟩:=by
    unfold ed;split
    .rename_i h0;simp;first|done|omega
    .simp;first|done|omega
   rwa [e] at this
  exact⟨key 0 (by omega) _ rfl,key 1 (by omega) _ rfl,key 2 (by omega) _ rfl⟩
end
structure GD (w:C)(g n:Nat)(V:Nat->Int):Prop where
 lt:g<w.heap.size
 at_:∀h,h<n->w.L ⟨g,h,Y⟩=U (J I (V h))/\w.H ⟨g,h,Y⟩=cq
def GD.gr {w w':C}{g n:Nat}{V:Nat->Int}(h:GD w g n V)(hg:Gr w w'):GD w' g n V:=⟨AI h.lt hg.size,λq hq=>⟨(hg.cell (p:=⟨g,q,Y⟩) h.lt).trans (h.at_ q hq).1,(hg.frozen (p:=⟨g,q,Y⟩) h.lt).trans (h.at_ q hq).2⟩⟩
def GD.SS {w:C}{g n:Nat}{V V':Nat->Int}(h:GD w g n V){a:Nat}(ha:a<n)(y:Int)(hV:∀q,q<n->V' q=if q=a then y else V q):GD (w.LE ⟨g,a,Y⟩ (J I y)) g n V':=by
 refine⟨by have:=h.lt;simpa [E] using this,λq hq=>⟨?_,(BH _ _ _ _).trans (h.at_ q hq).2⟩⟩;rw[hV q hq];by_cases e:q=a
 .subst e;rw[AJ rfl];exact AW _ _ _ (h.at_ q hq).1
 .rw[AE e];exact(AN _ _ _ _ (by simp[cu e])).trans (h.at_ q hq).1
def GD.congr {w:C}{g n:Nat}{V V':Nat->Int}(h:GD w g n V)(e:∀q,q<n->V q=V' q):GD w g n V':=⟨h.lt,λq hq=>by rw[<-e q hq];exact h.at_ q hq⟩
def uv (w:C)(n:Nat):GD (w.Li (.cells (ct n) 3)) w.heap.size n λ_=>0:=⟨by simp,λh hh=>by
 rw[AF _ _ _ _ (by simp),Bt _ _ _ _ (by simp),el _ _ hh];exact⟨rfl,rfl⟩⟩
structure Hand (w:C)(hb B:Nat)(A:Option bh)(cap:Nat)(l:List Int)(N:Nat):Prop where
 obj:∃n:Nat,∃s:Int,w.heap[hb]?=U (G #[Z A l.L cap,J I n,.int .u64 s] 79 (0,0))/\n<=N
 Md:RI w B A l
 apart:B<=hb
def Hand.lt {w:C}{hb B:Nat}{A:Option bh}{cap:Nat}{l:List Int}{N:Nat}(h:Hand w hb B A cap l N):hb<w.heap.size:=by
 obtain⟨n,s,h1,_⟩:=h.obj;exact(AC.1 h1).1
def Hand.more {w:C}{hb B:Nat}{A:Option bh}{cap:Nat}{l:List Int}{N M:Nat}(h:Hand w hb B A cap l N)(hm:N<=M):Hand w hb B A cap l M:=by
 obtain⟨n,s,h1,h2⟩:=h.obj;exact⟨⟨n,s,h1,by omega⟩,h.Md,h.apart⟩
def Hand.gr {w w':C}{hb B:Nat}{A:Option bh}{cap:Nat}{l:List Int}{N:Nat}(h:Hand w hb B A cap l N)(hg:Gr w w'):Hand w' hb B A cap l N:=by
 have hl:=h.lt;obtain⟨n,s,h1,h2⟩:=h.obj;exact⟨⟨n,s,(hg.Ly.Lo hb hl).trans h1,h2⟩,h.Md.gr (by have:=h.apart;omega) hg,h.apart⟩
abbrev KH (hb:Nat)(w w':C):Prop:=KT (·=hb) w w'
def j9 (x y:Int):0<=bits BinOp.xor IntKind.u64 x y:=by
 unfold bits dr;have h:IntKind.u64.signed=false:=rfl;simp only[h,B7,Ba,if_false];exact ea _ (by decide)
def yB (hb B:Nat)(A:Option bh)(cap:Nat)(l:List Int)(N:Nat)(w:C)(h:Hand w hb B A cap l N)(hN:N<=1048576) :
  bo DP 39 #[.S (U ⟨hb,0,Y⟩)] w λe w'=>(∃v:Int,e=.L (.int .u64 v)/\0<=v)/\Hand w' hb B A cap l (N+1)/\KH hb w w':=by
 obtain⟨n,s,a6,hn⟩:=h.obj;have HH:=AB h;have c0:w.L ⟨hb,0,Y⟩=U (Z A l.L cap):=by unfold dy;rw[a6];rfl
 have c1:w.L ⟨hb,1,Y⟩=U (J I n):=by unfold dy;rw[a6];rfl
 have c2:w.L ⟨hb,2,Y⟩=U (.int .u64 s):=by unfold dy;rw[a6];rfl
 have f1:w.H ⟨hb,1,Y⟩=false:=by unfold bw;rw[a6];rfl
 have f2:w.H ⟨hb,2,Y⟩=false:=by unfold bw;rw[a6];rfl
 have HO:=AB a6;clear h a6;have key : ∀ (v x y : Int) (W : C), W.heap = ((w.LE ⟨hb, 1, Y⟩ (J I (n + 1 : Nat))).LE ⟨hb, 2, Y⟩ (.int .u64 y)).heap -> W.os = w.os -> W.tape = w.tape -> W.output = w.output -> w.drawn <= W.drawn -> 0 <= v ->
   (∃v':Int,di (.int .u64 v)=.L (.int .u64 v')/\0<=v')/\Hand W hb B A cap l (N+1)/\KH hb w W:=λv x y W hW e1 e2 e3 e4 hv=>by
  have hB:=HH.out.apart;have zY:=HH.out.lt;have a7:∀b,b≠hb->W.heap[b]?=w.heap[b]?:=λb zU=>by
   rw[hW,AP _ _ _ _ zU,AP _ _ _ _ zU]
  refine⟨⟨v,rfl,hv⟩,⟨⟨n+1,y,?_,by omega⟩,HH.out.Md.keep λb o hb'=>AY (a7 b (by omega)),hB⟩,⟨e1,e2,e3,e4,?_,λb _ zU=>a7 b zU⟩⟩
  .rw[hW];exact Eh (Eh HO.out)
  .rw[hW];simp[E]
 have HKEY:=AB key;clear key;go_enter Sq.func39,Tryz.ntmps39;by_cases zY:n<l.L
 .obtain⟨b,o,rfl,hb',a8⟩:=HH.out.Md.at_ zY;generalize l[n]?.LE 0=x at a8;go_wp2;go_region
  all_goals
   go_wp2;go_region
   all_goals
    go_wp2;go_ret;refine HKEY.out _ 0 _ _ rfl rfl rfl rfl (by simp[fx,E]<;>omega) ?_;exact df (j9 _ _) (by omega)
 .go_wp2;go_region
  all_goals
   go_wp2;go_ret;refine HKEY.out _ 0 _ _ rfl rfl rfl rfl (by simp[fx,E]<;>omega) ?_;exact df (j9 _ _) (by omega)
def aO (hb B:Nat)(A:Option bh)(cap:Nat)(l:List Int)(N:Nat)(m:Int)(w:C)(h:Hand w hb B A cap l N)(hN:N<=1048576)(hm:m<=1048576) :
  bo DP 11 #[.S (U ⟨hb,0,Y⟩),J I m] w λe w'=>(∃k:Nat,e=.L (J I k)/\((k:Int)<=m\/k=0))/\Hand w' hb B A cap l (N+1)/\KH hb w w':=by
 have HP:=AB (yB hb B A cap l N w h hN);have HH:=AB h;go_enter Sq.func11,Tryz.ntmps11;by_cases a7:m<=0
 .go_wp2;go_ret;exact⟨⟨0,rfl,.inr rfl⟩,HH.out.more (by omega),KT.refl _ _⟩
 .go_wp2_with fail;refine HP.out.LT ?_;rintro e w' ⟨⟨v,rfl,hv⟩,hh,hk⟩;have a6:=AB hh;have HK:=AB hk;have h1:IntKind.u64.wrap (m+1)=m+1:=by simp[dr,fo,ek];omega
  have h2:v % (m+1)<m+1:=Int.emod_lt_of_pos _ (by omega);have h3:0<=v % (m+1):=ea _ (by omega);go_wp2;go_ret;obtain⟨k,hk⟩:∃k:Nat,v % (m+1)=k:=⟨(v % (m+1)).L,by omega⟩;exact⟨⟨k,by show di (J I (v % (m+1)))=_;rw[hk],.inl (by omega)⟩,a6.out,HK.out⟩
def cV (hb B:Nat)(A:Option bh)(cap:Nat)(l:List Int)(N:Nat)(lo hi:Int)(w:C)(h:Hand w hb B A cap l N)(hN:N<=1048576)(h1:0<=lo/\lo<=1048576)(h2:lo<=hi/\hi<=1048576) :
  bo DP 10 #[.S (U ⟨hb,0,Y⟩),J I lo,J I hi] w λe w'=>(∃k:Nat,e=.L (J I k)/\lo<=k/\(k:Int)<=hi)/\Hand w' hb B A cap l (N+1)/\KH hb w w':=by
 have HP:=AB (aO hb B A cap l N (hi-lo) w h hN (by omega));go_enter Sq.func10,Tryz.ntmps10;go_wp2_with fail;refine HP.out.LT ?_;rintro e w' ⟨⟨k,rfl,hk⟩,hh,a6⟩;have a7:=AB hh;have HK:=AB a6;go_wp2;go_ret;obtain⟨q,hq⟩:∃q:Nat,lo+k=q:=⟨(lo+k).L,by omega⟩;exact⟨⟨q,by show di (J I (lo+k))=_;rw[hq],by omega,by omega⟩,a7.out,HK.out⟩
def gy (hb B:Nat)(A A2:Option bh)(cap c2:Nat)(l m:List Int)(N:Nat)(x:Int)(w:C)(h:Hand w hb B A cap l N)(hN:N<=1048576)(hm:m.L<=1048576)(aD:IU w (λb=>b≠hb/\b<w.heap.size) A2 m) :
  bo DP 36 #[.S (U ⟨hb,0,Y⟩),J I x,Z A2 m.L c2] w λe w'=>(∃k:Int,e=.L (J I k)/\k∈x::m)/\Hand w' hb B A cap l (N+1)/\KH hb w w':=by
 have HP:=AB (aO hb B A cap l N m.L w h hN (by omega));have HR:=AB aD;go_enter Sq.func36,Tryz.ntmps36;go_wp2_with fail;refine HP.out.LT ?_;rintro e w' ⟨⟨k,rfl,hk⟩,hh,a7⟩;have aA:=AB hh;have HK:=AB a7;by_cases aB:k=0
 .subst aB;clear hh a7 HP;go_wp2;go_ret;exact⟨⟨x,rfl,CE⟩,aA.out,HK.out⟩
 .have a6:k-1<m.L:=by omega
  obtain⟨b,o,rfl,zq,aC⟩:=HR.out (λe=>by rw[e] at a6;simp at a6);have hc:=aC (k-1) _ (AG a6);have zt:w'.L ⟨b,o+(k-1),Y⟩=U (J I m[k-1]):=(AY (a7.Lo b zq.2 zq.1)).trans hc;have a8:Hid (m[k-1]∈x::m):=AB (Cz _ (BU a6));generalize m[k-1]=y at zt a8;have e1:((k:Int)-1)=((k-1:Nat):Int):=by omega
  obtain⟨q,hq⟩:∃q,q=k-1:=⟨_,rfl⟩;rw[<-hq] at zt e1 a6;obtain rfl:k=q+1:=by omega
  clear hh a7 HP aC hc aB hq e1;have e2:((q+1:Nat):Int)-1=(q:Int):=by omega
  go_wp2;go_ret;exact⟨⟨y,rfl,a8.out⟩,aA.out,HK.out⟩
def fm (hb B:Nat)(A:Option bh)(cap:Nat)(l:List Int)(N:Nat)(a b:Int)(w:C)(h:Hand w hb B A cap l N)(hN:N<=1048576)(hb1:0<=b/\b<=1048576) :
  bo DP 37 #[.S (U ⟨hb,0,Y⟩),J I a,J I b] w λe w'=>(∃v:Bool,e=.L (.bool v))/\Hand w' hb B A cap l (N+1)/\KH hb w w':=by
 have HP:=AB (aO hb B A cap l N (b-1) w h hN (by omega));go_enter Sq.func37,Tryz.ntmps37;go_wp2_with fail;refine HP.out.LT ?_;rintro e w' ⟨⟨k,rfl,hk⟩,hh,a6⟩;have a7:=AB hh;have HK:=AB a6;go_wp2;go_ret;exact⟨⟨_,rfl⟩,a7.out,HK.out⟩
def ss (A:Option bh)(cap:Nat)(l:List Int)(w:C)(h:RI w w.heap.size A l) :
  bo DP 6 #[Z A l.L cap] w λe w'=>e=.L (.S (U ⟨w.heap.size,0,Y⟩))/\Hand w' w.heap.size w.heap.size A cap l 0/\Gr w w':=by
 have HR:=AB h;go_enter Sq.func6,Tryz.ntmps6;go_wp2;go_ret;exact⟨rfl,⟨⟨0,88172645463325252,H _ _,AD _⟩,HR.out.gr (AD _) ((Gr.refl w).Li _),AD _⟩,(Gr.refl w).Li _⟩
def EZ (p:Nat->Bool)(k:Nat):List Int:=((List.range k).filter p).map λn:Nat=>(n:Int)
def nl {p q:Nat->Bool}{k:Nat}(h:∀i,i<k->p i=q i):EZ p k=EZ q k:=by
 unfold EZ;congr 1;exact List.filter_congr λi hi=>h i (BM.1 hi)
def og (p:Nat->Bool)(k:Nat):EZ p (k+1)=EZ p k++if p k=ew then[(k:Int)] else[]:=by
 unfold EZ;rw[C1,C6,Cs];cases h:p k<;>simp[h]
def qs {p:Nat->Bool}{k:Nat}{x:Int}:x∈EZ p k↔∃n:Nat,x=n/\n<k/\p n=true:=by
 unfold EZ;simp only[BO,Cr,BM];constructor
 .rintro⟨n,⟨h1,h2⟩,rfl⟩;exact⟨n,rfl,h1,h2⟩
 .rintro⟨n,rfl,h1,h2⟩;exact⟨n,⟨h1,h2⟩,rfl⟩
def qu (p:Nat->Bool)(k:Nat):(EZ p k).L<=k:=by
 unfold EZ;rw[B8];exact AX (CM _ _) (by simp)
def qv (p:Nat->Bool)(k:Nat):(EZ p k).Pairwise (·<·):=by
 unfold EZ;rw[List.pairwise_map];exact(List.Pairwise.filter _ List.pairwise_lt_range).imp λh=>by omega
def su (p:Nat->Bool)(k:Nat):Gs (EZ p k) k=0:=by
 rw[ld];intro i hi;have h1:=qs.1 (Gh (EZ p k) i hi);obtain⟨n,e,hn,_⟩:=h1;unfold GU;rw[AJ (by rw[e];omega),AE];rintro⟨h0,zX⟩;have:=List.pairwise_iff_getElem.1 (qv p k) (i-1) i (by omega) hi (by omega);rw[AG hi,AG (by omega)] at zX;simp only[AS] at zX;omega
def FJ {w2 w3:C}{base size n:Nat}{e:dt}{v:bb}{xs:List bb}{o:Obj}(zm:w2.S base e size v n xs)(hg:(w2.Li o).O w3 v.L)(b:Nat)(hb:b<base)(hl:b<w2.heap.size):w3.heap[b]?=w2.heap[b]?:=by
 rw[hg.Lo b (by simp;omega) (dw zm hb),ae _ _ hl]
def gz {w2 w3:C}{v:bb}{o:Obj}(hg:(w2.Li o).O w3 v.L):w2.heap.size+1<=w3.heap.size:=by have:=hg.size;simpa using this
def gC {w0 w2 w3:C}{hb base size n:Nat}{e:dt}{v:bb}{xs:List bb}{o:Obj}(hK:KT (·=hb) w0 w2)(zm:w2.S base e size v n xs)(hbase:w0.heap.size<=base)(hg:(w2.Li o).O w3 v.L)(hd:(w2.Li o).drawn<=w3.drawn):KT (·=hb) w0 w3 :=
 ⟨hg.os.trans hK.os,hg.tape.trans hK.tape,hg.output.trans hK.output,AX hK.drawn hd,by have:=gz hg;have:=hK.size;omega,λb hb' zU=>(FJ zm hg b (by omega) (by have:=hK.size;omega)).trans (hK.Lo b hb' zU)⟩
def eN {w2 w3:C}{hb B cap N base size n:Nat}{A:Option bh}{l:List Int}{e:dt}{v:bb}{xs:List bb}{o:Obj}(h:Hand w2 hb B A cap l N)(zm:w2.S base e size v n xs)(hbase:hb<base)(hg:(w2.Li o).O w3 v.L):Hand w3 hb B A cap l N:=by
 have hl:=h.lt;obtain⟨m,s,ho,hm⟩:=h.obj;exact⟨⟨m,s,(FJ zm hg hb hbase hl).trans ho,hm⟩,h.Md.keep λb o hb'=>AY (FJ zm hg b (by have:=h.apart;omega) (by have:=h.apart;omega)),h.apart⟩
def da {w w':C}{base size n hb:Nat}{v:bb}{e:dt}{xs:List bb}(h:w.S base e size v n xs)(hb':hb<base)(k:KT (·=hb) w w'):w'.S base e size v n xs :=
 aR h λg hg hl=>k.Lo g hl λe=>by have:=(h.lt g hg).1;omega
def ph (A:Option bh)(c:Nat)(l:List Int)(w:C)(B:Nat)(h:RI w B A l)(hl:l.L<=1048576)(hx:∀x∈l,0<=x/\x<=1048576) :
  bo DP 15 #[Z A l.L c] w λe w'=>e=.L (J I l.Lo)/\w=w':=by
 have HR:=AB h;have HX:=AB hx;clear h hx;go_enter Sq.func15,Tryz.ntmps15;go_wp2;go_loop [3,4] (λs i=>∃k:Nat,k<=l.L/\i=J I k/\s=J I (l.LT k).Lo) (λ_ i=>l.L-(O i).L)
 case atStart=>exact⟨0,by omega,rfl,by simp⟩
 case round =>
  obtain⟨k,hk,rfl,rfl⟩:=hrel;by_cases zY:k<l.L
  .obtain⟨b,o,rfl,hb,hc⟩:=HR.out.at_ zY;have HS:=AB (jb l k zY);have hy:=HX.out _ (Gh l k zY);obtain⟨hs1,hs2⟩:=GL 0 1048576 (l.LT k) λy hy=>HX.out y (Cj hy);have hs3:((l.LT k).L:Int)*1048576<=1048576*1048576:=by
    have:(l.LT k).L<=1048576:=by rw[CT];omega
    omega
   have hs4:0<=(l.LT k).Lo:=by omega
   have hs5:(l.LT k).Lo<=1099511627776:=by omega
   clear hs1 hs2 hs3;generalize l[k]?.LE 0=y at hc HS hy;obtain⟨a6,a7⟩:=hy;go_wp2;go_round
   case rel=>exact⟨k+1,by omega,by go_num,by rw[HS.out]⟩
   case measure=>simp[Proofs.intOf];omega
  .have:k=l.L:=by omega
   have HS:=AB (show(l.LT k).Lo=l.Lo by rw[Bj (by omega)]);clear this;go_wp2;go_ret;exact⟨ap HS.out,rfl⟩
def sumTo (f:Nat->Int):Nat->Int
 |0=>0
 |k+1=>sumTo f k+f k
end Go.Sq
