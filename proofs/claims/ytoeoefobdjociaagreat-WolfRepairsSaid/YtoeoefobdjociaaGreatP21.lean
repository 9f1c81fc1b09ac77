/- Parts of the proof. -/
import Derived.Test.YtoeoefobdjociaaGreatP20
import Derived.Laws.AppendOwnNone
set_option linter.all false
set_option maxHeartbeats 6400000
set_option maxRecDepth 1000000
open Go.Value renaming slice->Z,int->C,pointer->D
open Option renaming none->J,some->U
open Go renaming World->I,Value->F,wpOps_cons->G,Addr->bc,TypeId->bl,info_parts->bs,Calls->bA,Operand->bD,Ending->b5,Exit->b6
open Go.Obj renaming cells->E
open Go.IntKind renaming i64->O
open Go.Builtin renaming append_->M
open List renaming exists_cons_of_ne_nil->H,length_pos_iff->bn,range'->bW
open Decidable renaming decide->ak,not_not->br
open Go.Code renaming region->bh
open Go.Addr renaming add_lit->bk
open Bool renaming true->bq,false->bw
namespace Go.Sq
open Go.Proofs
open Go.RowKit
def KW (base B:Nat)(c:D9)(v:F)(w:I):Prop:=B<=w.heap.size/\∃xs,w.ownsRow base 49 4 v c.DV.length xs/\∀(i:Nat) (h:EG),c.DV[i]?=U h->∃y,(∀j,j<4->xs[i*4+j]?=(cg h y)[j]?)/\∃A cc,y=Z A h.off.length cc/\RI w B A h.off
def NJ (base B:Nat)(c:D9):F3 Gr (KW base B c):=λv w w' hg ⟨hB,xs,h,ho⟩=>⟨AH hB hg.size,xs,ar h λb _ hb=>hg.below.block b hb,λi x hx=>by
 obtain⟨y,h1,A,cc,e,hr⟩:=ho i x hx
 exact⟨y,h1,A,cc,e,hr.gr hB hg⟩⟩
def ML (e s base:Nat)(v:F)(w:I):Prop:=∃b,v=.slice (U ⟨b,0,J⟩) 0 0/\w.ownsRow base e s (.slice (U ⟨b,0,J⟩) 0 0) 0 []
def Ma (e s base:Nat):F3 Gr (ML e s base):=λ_ _ _ hg ⟨b,e,h⟩=>⟨b,e,ar h λb _ hl=>hg.below.block b hl⟩
def qH {w:I}{e s base:Nat}(hg:base<=w.heap.size):ML e s base (.slice (U ⟨w.heap.size,0,J⟩) 0 0) (w.alloc (E #[] e)):=⟨_,rfl,by simp,.inr ⟨w.heap.size,0,#[],rfl,hg,heap_alloc_new w _,AA _,AU _,by simp,by simp⟩⟩
def KA {w:I}{base b B hc:Nat}{hA:Option bc}{c:D9}(h0:w.ownsRow base 49 4 (.slice (U ⟨b,0,J⟩) 0 0) 0 [])(hB:B<=w.heap.size)(hh:EN w B hA c.DV)(hl:c.DV.length<=20)(hbase:base<=w.heap.size) :
  ∃v' w',(M #[23,23] 23 #[.slice (U ⟨b,0,J⟩) 0 0,Z hA c.DV.length hc]).run DU w=.ok v' w'/\Gr w w'/\KW base B c v' w':=by
 have ht:=Sq.underlying23;obtain⟨i0,hi,zF,zE,zD⟩:=bs Dy;by_cases hn:c.DV=[]
 .refine⟨.slice (U ⟨b,0,J⟩) 0 0,w,?_,.refl w,hB,[],by rw[hn];exact h0,λi x hx=>by rw[hn] at hx;simp at hx⟩;rw[hn];cases hA<;>simp[M,run_underlying ht,sizeOf,typeInfo,hi,Builtin.lenOf,Builtin.firstCells,loadCells,loadCellsFrom,storeCells]
 .have a7:=bn.2 hn;obtain⟨a,o,rfl,hb,zW⟩:=hh hn;have hcell:∀j,j<c.DV.length*4->∃u,w.cell? ⟨a,o+j,J⟩=U u/\u.oneCell'=true:=λj hj=>by
   obtain⟨h1,h2,h3,A,cc,h4,_⟩:=zW (j / 4) _ (AB (show j / 4<c.DV.length by omega));have:j % 4=0\/j % 4=1\/j % 4=2\/j % 4=3:=by omega
   obtain e|e|e|e:=this
   .rw[show o+j=o+j / 4*4 by omega];exact⟨_,h1,rfl⟩
   .rw[show o+j=o+j / 4*4+1 by omega];exact⟨_,h2,rfl⟩
   .rw[show o+j=o+j / 4*4+2 by omega];exact⟨_,h3,rfl⟩
   .rw[show o+j=o+j / 4*4+3 by omega];exact⟨_,h4,rfl⟩
  have hnews:∀j v,(Iz w a o c.DV.length)[j]?=U v->w.cell? ((⟨a,o,J⟩:bc).add j)=U v:=λj u hj=>by
   have zY:j<c.DV.length*4:=by have:=(AV.1 hj).1;rwa [Hl] at this
   rw[fI zY] at hj;obtain⟨v,hv,_⟩:=hcell j zY;rw[hv] at hj;rw[bk,hv];exact hj
  obtain⟨v',w',hr,h2,_⟩:=run_append_own (P:=DU) w base 23 23 49 i0 _ 4 48 ht hi zF zE zD rfl (by decide) _ 0 [] h0 ⟨a,o,J⟩ c.DV.length hc (Iz w a o c.DV.length) (Hl _ _ _ _) hnews (λu hu=>by
   obtain⟨j,hj,rfl⟩:=Bf.1 hu;obtain⟨v,hv,h1⟩:=hcell j (Bu.1 hj)
   rw[hv];exact h1) (by unfold maxLen;omega) (by omega) hbase
  have zz:=run_append_grow (P:=DU) w 23 23 49 i0 _ ht hi zF ⟨b,0,J⟩ 0 0 [] (by simp) (λj u hj=>by simp at hj) ⟨a,o,J⟩ c.DV.length hc (Iz w a o c.DV.length) (by rw[zE];exact Hl _ _ _ _) hnews (by omega) (by omega) (by
   rw[zD];exact growslice_fits (by omega) (by omega))
  rw[hr] at zz;injection zz with _ e2
  have hg:Gr w w':=e2▸(Gr.refl w).drew.alloc _;refine⟨v',w',hr,hg,AH hB hg.size,_,by simpa using h2,λi x hx=>?_⟩;obtain⟨a1,a2,a3,A,cc,a4,a6⟩:=zW i x hx;have a8:i<c.DV.length:=(AV.1 hx).1;refine⟨Z A x.off.length cc,λj hj=>?_,A,cc,rfl,a6.gr hB hg⟩;rw[fI (by omega)];obtain rfl|rfl|rfl|rfl:=(show j=0\/j=1\/j=2\/j=3 by omega)
  .rw[Nat.add_zero,a1];rfl
  .rw[<-CV,a2];rfl
  .rw[<-CV,a3];rfl
  .rw[<-CV,a4];rfl
def E9 {w:I}{base size n:Nat}{e:bl}{v:F}{xs:List F}(h:w.ownsRow base e size v n xs):∃A c,v=Z A n c:=by
 obtain⟨rfl,rfl⟩|⟨g,c,_,rfl,_⟩:=h.2
 .exact⟨_,_,rfl⟩
 .exact⟨_,_,rfl⟩
structure CC (w:I)(B q:Nat)(c:D9)(vN vH:F)(xs:List F)(k:Nat)(W:I):Prop where
 gr:Gr w W
 bd:w.heap.size=q/\q+2<=W.heap.size
 qo:W.heap[q]?=U (E #[vN,vH] 25 (0,0))
 ro:W.heap[q+1]?=U (E #[.slice J 0 0,.slice J 0 0] 25 (0,0))
 DW:W.ownsRow (q+2) 3 1 vN c.DW.length (c.DW.map (C O))
 own:W.ownsRow (q+2) 49 4 vH c.DV.length xs
 I5:∀i h,c.DV[i]?=U h->∃y,(∀j,j<4->xs[i*4+j]?=(cg h y)[j]?)/\if i<k then W.ownsRow (q+2) 3 1 y h.off.length (h.off.map (C O)) else ∃A cc,y=Z A h.off.length cc/\RI W B A h.off
section
variable {w W W':I} {B q:Nat} {c:D9} {vN vH:F} {xs:List F} {k:Nat}
def CC.keep (h:CC w B q c vN vH xs k W)(hB:B<=w.heap.size)(hg:Gr W W'):CC w B q c vN vH xs k W':=by
 obtain⟨b1,b2⟩:=h.bd;have ok:∀ {e:bl} {sz n:Nat} {y:F} {zs:List F},W.ownsRow (q+2) e sz y n zs->W'.ownsRow (q+2) e sz y n zs:=λho=>ar ho λg _ hl=>hg.below.block g hl;refine⟨h.gr.trans hg,⟨b1,by have:=hg.size;omega⟩,(hg.below.block q (by omega)).trans h.qo,(hg.below.block (q+1) (by omega)).trans h.ro,ok h.DW,ok h.own,λi x hx=>?_⟩;obtain⟨y,h1,h2⟩:=h.I5 i x hx;refine⟨y,h1,?_⟩;split
 .rename_i hi;rw[AF hi] at h2;exact ok h2
 .rename_i hi;rw[AD hi] at h2;obtain⟨A,cc,e,hr⟩:=h2;exact⟨A,cc,e,hr.gr (by omega) hg⟩
def CC.start {u0 u1:F}(hg:Gr w W)(hB:B<=w.heap.size)(hq:w.heap.size=q)(hz:q+2<=W.heap.size)(h0:W.heap[q]?=U (E #[u0,u1] 25 (0,0)))(h1:W.heap[q+1]?=U (E #[.slice J 0 0,.slice J 0 0] 25 (0,0)))
  (hn:W.ownsRow (q+2) 3 1 vN c.DW.length (c.DW.map (C O))) (ho:KW (q+2) B c vH W):∃xs,CC w B q c vN vH xs 0 ((W.setCell ⟨q,0,J⟩ vN).setCell ⟨q,1,J⟩ vH):=by
 obtain⟨_,xs,ho,hc⟩:=ho;have hs:∀x,x≠q->((W.setCell ⟨q,0,J⟩ vN).setCell ⟨q,1,J⟩ vH).heap[x]?=W.heap[x]?:=λx a7=>(AR _ _ _ _ a7).trans (AR _ _ _ _ a7);refine⟨xs,(hg.setCell (by show _<=q;omega) _).setCell (by show _<=q;omega) _,⟨hq,by simpa [World.setCell] using hz⟩,?_,(hs _ (by omega)).trans h1,ar hn λg a6 _=>hs g (by have:=(hn.lt g a6).1;omega),ar ho λg a6 _=>hs g (by have:=(ho.lt g a6).1;omega),λi x hi=>?_⟩
 .rw[aI (aI h0)];rfl
 .obtain⟨y,h1,A,cc,e,hr⟩:=hc i x hi;exact⟨y,h1,by rw[AD (by omega)];exact⟨A,cc,e,hr.keep λb' o' hb'=>AT (hs b' (by omega))⟩⟩
def CC.put {g hc:Nat}{y':F}(h:CC w B q c vN (.slice (U ⟨g,0,J⟩) c.DV.length hc) xs k W)(hB:B<=w.heap.size)(hk:k<c.DV.length)(hy:W.ownsRow (q+2) 3 1 y' (c.h k).off.length ((c.h k).off.map (C O))) :
  CC w B q c vN (.slice (U ⟨g,0,J⟩) c.DV.length hc) (xs.set (k*4+3) y') (k+1) (W.setCell ⟨g,k*4+3,J⟩ y'):=by
 obtain⟨b1,b2⟩:=h.bd;have hgb:=h.own.lt g rfl;have zl:xs.length=c.DV.length*4:=h.own.1;have hs:∀b,b≠g->(W.setCell ⟨g,k*4+3,J⟩ y').heap[b]?=W.heap[b]?:=λb hb=>AR _ _ _ _ hb;have ok:∀ {sz n:Nat} {y:F} {zs:List F},W.ownsRow (q+2) 3 sz y n zs->(W.setCell ⟨g,k*4+3,J⟩ y').ownsRow (q+2) 3 sz y n zs:=λho=>ar ho λb hb _=>hs b λe=>cj (by decide) ho h.own hb (by rw[e];rfl);refine⟨h.gr.setCell (by show _<=g;omega) _,⟨b1,by simpa [World.setCell] using b2⟩,(hs q (by omega)).trans h.qo,(hs (q+1) (by omega)).trans h.ro,ok h.DW,(h.own.stored (k*4+3) y').1,λi x hx=>?_⟩
 obtain⟨y,h1,h2⟩:=h.I5 i x hx;by_cases e:i=k
 .subst e;have ex:x=c.h i:=by
   unfold D9.h;rw[hx];rfl
  refine⟨y',λj hj=>?_,by rw[AF (by omega),ex];exact ok hy⟩;by_cases e3:j=3
  .subst e3;rw[CF (by omega)];rfl
  .rw[Cl (by omega),h1 j hj];rcases(show j=0\/j=1\/j=2 by omega) with rfl|rfl|rfl<;>rfl
 .refine⟨y,λj hj=>by rw[Cl (by omega)];exact h1 j hj,?_⟩;by_cases hi:i<k
  .rw[AF hi] at h2;rw[AF (by omega)];exact ok h2
  .rw[AD hi] at h2;rw[AD (by omega)];obtain⟨A,cc,e4,hr⟩:=h2;exact⟨A,cc,e4,hr.keep λb o hb=>AT (hs b (by omega))⟩
end
noncomputable def kj:Code:=Tryz.f11.body.getD .skip
noncomputable def MM:Code:=Jv 2 kj
structure Jy (w:I)(base:Nat)(c:D9)(vN vH:F)(xs:List F):Prop where
 DW:w.ownsRow base 3 1 vN c.DW.length (c.DW.map (C O))
 own:w.ownsRow base 49 4 vH c.DV.length xs
 I5:∀(i:Nat) (h:EG),c.DV[i]?=U h->∃y,(∀j,j<4->xs[i*4+j]?=(cg h y)[j]?)/\w.ownsRow base 3 1 y h.off.length (h.off.map (C O))
def iV (c:D9)(w:I)(e:b5)(w':I):Prop :=
 Gr w w'/\∃a6 hA' a7 hc' xs,e=.returned (Ef a6 hA' c a7 hc')/\Jy w' w.heap.size c (Z a6 c.DW.length a7) (Z hA' c.DV.length hc') xs
def mX (c:D9)(w:I)(e:b5)(w':I):Prop :=
 Gr w w'/\∃a6 hA' a7 hc',e=.returned (Ef a6 hA' c a7 hc')/\IH w' (λb=>w.heap.size<=b/\b<w'.heap.size) a6 c.DW/\Gl w' (λb=>w.heap.size<=b/\b<w'.heap.size) hA' c.DV
def Jy.rik {w:I}{base nc:Nat}{c:D9}{nA:Option bc}{vH:F}{xs:List F}(h:Jy w base c (Z nA c.DW.length nc) vH xs):IH w (λb=>base<=b/\b<w.heap.size) nA c.DW:=by
 obtain⟨A,k,e,hr⟩:=Hm h.DW;injection e with e1 _ _
 subst e1;exact hr
def Jy.hsk {w:I}{base hc:Nat}{c:D9}{hA:Option bc}{vN:F}{xs:List F}(h:Jy w base c vN (Z hA c.DV.length hc) xs):Gl w (λb=>base<=b/\b<w.heap.size) hA c.DV:=λhn=>by
 obtain⟨g,cap,e,hgb,zQ⟩:=h.own.form (bn.2 hn);injection e with e1 _ _
 subst e1;refine⟨g,0,rfl,⟨hgb,zQ⟩,λi x hx=>?_⟩;have a8:i<c.DV.length:=(AV.1 hx).1;obtain⟨y,hy,a6⟩:=h.I5 i x hx;obtain⟨A',c',rfl,hr⟩:=Hm a6;have aA:xs.length=c.DV.length*4:=h.own.1;have at_:∀j z,j<4->(cg x (Z A' x.off.length c'))[j]?=U z->w.cell? ⟨g,0+i*4+j,J⟩=U z:=λj z a7 hz=>by
  rw[show 0+i*4+j=i*4+j by omega,h.own.cellAt (i*4+j) (by omega),hy j a7];exact hz
 exact⟨at_ 0 _ (by omega) rfl,at_ 1 _ (by omega) rfl,at_ 2 _ (by omega) rfl,A',c',at_ 3 _ (by omega) rfl,hr⟩
def sO {c:D9}{w w':I}{e:b5}(h:iV c w e w'):mX c w e w':=by
 obtain⟨h1,nA,hA,nc,hc,xs,rfl,h2⟩:=h;exact⟨h1,nA,hA,nc,hc,rfl,h2.rik,h2.hsk⟩
def qI {w W:I}{B a6 hc9:Nat}{c:D9}{a7 a8:Option bc}{xs:List F}(h:CC w B w.heap.size c (Z a7 c.DW.length a6) (Z a8 c.DV.length hc9) xs c.DV.length W)(hB:B<=w.heap.size)(v0 v1:F) :
  iV c w (.returned (Ef a7 a8 c a6 hc9)) ((W.setCell ⟨w.heap.size+1,0,J⟩ v0).setCell ⟨w.heap.size+1,1,J⟩ v1):=by
 have hs:∀b,b≠w.heap.size+1->((W.setCell ⟨w.heap.size+1,0,J⟩ v0).setCell ⟨w.heap.size+1,1,J⟩ v1).heap[b]?=W.heap[b]?:=λb hb=>(AR _ _ _ _ hb).trans (AR _ _ _ _ hb);have ok:∀ {e:bl} {s n:Nat} {v:F} {zs:List F},W.ownsRow (w.heap.size+2) e s v n zs->((W.setCell ⟨w.heap.size+1,0,J⟩ v0).setCell ⟨w.heap.size+1,1,J⟩ v1).ownsRow w.heap.size e s v n zs:=λho=>Fe (ar ho λg hg _=>hs g (by have:=(ho.lt g hg).1;omega)) (by omega)
 refine⟨(h.gr.setCell (by show _<=w.heap.size+1;omega) _).setCell (by show _<=w.heap.size+1;omega) _,_,_,_,_,xs,rfl,ok h.DW,ok h.own,λi x hx=>?_⟩;obtain⟨y,hy,aA⟩:=h.I5 i x hx;rw[AF (AV.1 hx).1] at aA;exact⟨y,hy,ok aA⟩
noncomputable def Mb:Array Oper:=match L6 (match L6 (NF (match(match NF (L6 MM) with|.block _ b=>b|c=>c) with|.loop b=>b|c=>c)) with|.block _ b=>b|c=>c) with|.region _ o _=>o|_=>#[]
def P5 (w0:I)(nq:Nat)(L:List F)(v:F)(w:I):Prop:=∃A k,v=Z A nq k/\w.ownsRow w0.heap.size 3 1 v nq L
def KX (w0:I)(nq:Nat)(L:List F):F3 Gr (P5 w0 nq L):=λv w w' hg ⟨A,k,e,h⟩=>⟨A,k,e,ar h λb _ hb=>hg.below.block b hb⟩
def uH {A:Option bc}{q g k n nq cc hc9:Nat}{L:List F}{W:I}{u:Nat->F}{Q:b6->Act->I->Prop}(h1:u 1=.pointer (U ⟨q,0,J⟩))(h3:u 3=C O (k:Nat))(hk:k<n)
  (HC:Hid (∀V,Gr W V->(V.cell? ⟨q,1,J⟩=U (.slice (U ⟨g,0,J⟩) n hc9)/\V.cell? ⟨g,k*4+3,J⟩=U (Z A nq cc)/\V.frozen? ⟨g,k*4+3,J⟩=bw)/\q<V.heap.size/\g<V.heap.size))
  (HQ:Hid (∀V,Gr W V->bA DU 31 #[Z A nq cc] V λe w'=>∃v,e=.returned v/\w'.ownsRow V.heap.size 3 1 v nq L/\Gr V w'))
  (hK:∀W5 u' A5 k5,Gr W W5->W5.ownsRow W.heap.size 3 1 (Z A5 nq k5) nq L->(∀t,FL Mb t=bq->u' t=u t)->Q .normal ⟨T 33 u',[]⟩ (W5.setCell ⟨g,k*4+3,J⟩ (Z A5 nq k5))):(bh 5 Mb bq).wp DU Q ⟨T 33 u,[]⟩ W:=by
 refine aW (R:=Gr) 10<|Ea (JJ 1 (G9 h1))<|Ea (Gp (El 0) λw hg=>by obtain⟨⟨c0,c1,f1⟩,cl,rl⟩:=HC.out w hg;assumption)<|Ea (Es h3)<|Ea (JJ 1 (G9 h1))<|Ea (Gp (El 3) λw hg=>by obtain⟨⟨c0,c1,f1⟩,cl,rl⟩:=HC.out w hg;assumption)<|Ea (Es h3)<|Ea (Ha (k*4) 4 (El 4) (El 5))<|Ea (JJ (k*4+3) (El 6))<|Ea (Gp (El 7) λw hg=>by obtain⟨⟨c0,c1,f1⟩,cl,rl⟩:=HC.out w hg;assumption)<|Ea (Jw Sq.func31 [8] (P5 W nq L) (KX _ _ _) λw hg=>(HQ.out w hg).mono λe w' h=>?_)<|Gc λu w hg hf hv=>?_
 .obtain⟨v,rfl,h1,h2⟩:=h;obtain⟨A5,k5,rfl⟩:=E9 h1;exact⟨_,rfl,h2,A5,k5,rfl,Fe h1 hg.size⟩
 .obtain⟨A5,k5,e29,ho⟩:=hv.at_ 9 29;have a6:=hv.at_ 1 21;have a7:=hv.at_ 2 22;have er:bW 10 (Mb.size-10)=[10,11,12]:=by kernel_rfl
  obtain⟨⟨c0,c1,f1⟩,cl,rl⟩:=HC.out w hg;rw[er,G];refine ft (op:=.indexAddr 23 (.tmp 21) (.tmp 22)) (t:=0) rfl (.pointer (U ⟨g,k*4,J⟩)) w (λev he=>?_) ?_
  .have e1:=(he.t 21).trans a6;have e2:=(he.t 22).trans a7;clear hv hf hg he hK ho;go_simp
   all_goals (intro h9;omega)
  .rw[G];refine ft (op:=.fieldAddr 49 (.tmp 30) 3) (t:=0) rfl (.pointer (U ⟨g,k*4+3,J⟩)) w (λev he=>?_) ?_
   .have e1:=(he.t 30).trans (aV ..);clear hv hf hg he hK ho;go_simp
   .rw[G];refine eP (op:=.store 22 (.tmp 31) (.tmp 29)) (t:=0) rfl (w.setCell ⟨g,k*4+3,J⟩ (Z A5 nq k5)) (λev he=>?_) ?_
    .have e1:=(he.t 31).trans (aV ..);have e2:=(he.t 29).trans ((Fh (by decide)).trans ((Fh (by decide)).trans e29));clear hv hf hg he hK ho;go_simp
    .show Q .normal _ _;have f30:FL Mb 30=false:=by kernel_rfl
     have f31:FL Mb 31=false:=by kernel_rfl
     exact hK _ _ A5 k5 hg (e29▸ho) λt ht=>(Fh λe=>by rw[e,f31] at ht;cases ht).trans ((Fh λe=>by rw[e,f30] at ht;cases ht).trans (hf t ht))
def qJ {w W:I}{B a6 hc9:Nat}{c:D9}{a7 a8:Option bc}{xs0:List F}{u:Nat->F}(h1:u 1=.pointer (U ⟨w.heap.size,0,J⟩))(h2:u 2=.pointer (U ⟨w.heap.size+1,0,J⟩))(hB:B<=w.heap.size)(zC:c.DV.length<=20)(aF:∀h∈c.DV,h.off.length<=20)
  (h:CC w B w.heap.size c (Z a7 c.DW.length a6) (Z a8 c.DV.length hc9) xs0 0 W):MM.wp DU (bodyPost DU Tryz.f11 (iV c w)) ⟨T 33 u,[]⟩ W:=by
 have aM:=Ay h;have aN:=Ay aF;clear h aF;have ez:MM=Jv 2 kj:=rfl;simp only[Jv,kj,Tryz.f11,AY,NF] at ez;rw[ez];clear ez;unfold T;simp only[List.range,List.range.loop,Cd,CG,h1,h2];go_wp2;go_loopw [3] (λi wr=>∃k:Nat,k<=c.DV.length/\i=C O k/\∃xs,CC w B w.heap.size c (Z a7 c.DW.length a6) (Z a8 c.DV.length hc9) xs k wr) (λi _=>c.DV.length-(Proofs.intOf i).toNat)
 case atStart=>exact⟨0,by omega,rfl,_,aM.out⟩
 case round =>
  obtain⟨k,hk,rfl,xs,hcc⟩:=hrel;have aW:=Ay hcc;obtain⟨s0,s1⟩:=D5 hcc.qo 1;obtain⟨s2,_⟩:=D5 hcc.qo 0;simp only[Bg,Be,Bd] at s0 s2;have hzz:=hcc.bd;have aX:w.heap.size<wr.heap.size:=by omega
  by_cases zY:k<c.DV.length
  .obtain⟨g,cap,hv,hgb,zQ⟩:=hcc.own.form (by omega);injection hv with aO _ hv2
   subst aO hv2;have hce:c.DV[k]?=U (c.h k):=by unfold D9.h;rw[AB zY];rfl
   obtain⟨y,hy,aG⟩:=hcc.I5 k _ hce;rw[AD (by omega)] at aG;obtain⟨A,cc,rfl,aH⟩:=aG;have aP:xs.length=c.DV.length*4:=hcc.own.1;have t0:wr.cell? ⟨g,k*4+3,J⟩=U (Z A (c.h k).off.length cc):=by
    rw[hcc.own.cellAt (k*4+3) (by omega)];exact hy 3 (by omega)
   have aQ:=aN.out _ (c.Gs zY);have aB:=Ay (λW (hg:Gr wr W)=>gH A cc (c.h k).off W B (aH.gr (by omega) hg) (by have:=hg.size;omega) (by omega));have aC:Hid (∀W,Gr wr W->CC w B w.heap.size c (Z a7 c.DW.length a6) (.slice (U ⟨g,0,J⟩) c.DV.length hc9) xs k W):=Ay λW hg=>hcc.keep hB hg;have aA:Hid (∀W,Gr wr W->((W.cell? ⟨w.heap.size,1,J⟩=U (.slice (U ⟨g,0,J⟩) c.DV.length hc9)/\W.frozen? ⟨w.heap.size,1,J⟩=bw)/\W.cell? ⟨g,k*4+3,J⟩=U (Z A (c.h k).off.length cc)/\W.frozen? ⟨g,k*4+3,J⟩=bw)/\w.heap.size<W.heap.size/\g<W.heap.size):=Ay λW hg=>by
    have h:=aC.out W hg;obtain⟨s0,s1⟩:=D5 h.qo 1;exact⟨⟨⟨s0,s1⟩,(hg.cell (p:=⟨g,k*4+3,J⟩) zQ).trans t0,h.own.frozenAt (k*4+3)⟩,by have:=hg.size;omega,by have:=hg.size;omega⟩
   have f0:=hcc.own.frozenAt (k*4+3);have HGC:=Ay (Gr.refl wr);have aT:¬g=w.heap.size:=by omega
   have aU:¬w.heap.size=g:=by omega
   generalize aD:(c.h k).off.length=nq at t0 aB aA aQ;replace aD:=Ay aD;clear hcc hy aH aP s2;go_wp2;rename_i aR _;refine iF 33 rfl λu5 hu=>?_;refine uH (q:=w.heap.size) (g:=g) (k:=k) (n:=c.DV.length) (hc9:=hc9) (hu 1) (hu 3) zY (Ay λV hV=>⟨⟨(aA.out V hV).1.1.1,(aA.out V hV).1.2⟩,(aA.out V hV).2⟩) aB λW5 u6 A5 k5 aI ho5 aJ=>?_;have aK:=Ay ((aC.out W5 aI).put hB zY (y':=Z A5 nq k5) (by rw[aD.out];exact Fe ho5 (by omega)))
   refine aR _ _ ?_;rw[fv (n:=33) [20,21,22,23,24,25,26,27,28,29,30,31] (by kernel_rfl) rfl hu aJ];simp only[B7,CR,Cf,Cx];clear aA aB aC ho5 aI hu aJ;go_wp2;go_roundw
   case rel=>exact⟨k+1,by omega,by go_num,_,aK.out⟩
   case measure=>simp[Proofs.intOf];omega
  .have aS:k=c.DV.length:=by omega
   subst aS;obtain⟨t0,t1⟩:=D5 hcc.ro 0;obtain⟨t2,_⟩:=D5 hcc.ro 1;simp only[Bg,Be,Bd] at t0 t2;obtain⟨_,t3⟩:=D5 hcc.ro 1;have aV:w.heap.size+1<wr.heap.size:=by omega
   have aL:=Ay (λv0 v1=>qI hcc hB v0 v1);clear hcc;go_wp2;have z0:((wr.setCell ⟨w.heap.size+1,0,J⟩ (Z a7 c.DW.length a6)).setCell ⟨w.heap.size+1,1,J⟩ (Z a8 c.DV.length hc9)).cell? ⟨w.heap.size+1,0,J⟩=U (Z a7 c.DW.length a6):=by
    rw[AL _ _ _ _ (by simp)];exact AQ _ _ _ t0
   have z1:((wr.setCell ⟨w.heap.size+1,0,J⟩ (Z a7 c.DW.length a6)).setCell ⟨w.heap.size+1,1,J⟩ (Z a8 c.DV.length hc9)).cell? ⟨w.heap.size+1,1,J⟩=U (Z a8 c.DV.length hc9) :=
    AQ _ _ _ ((AL _ _ _ _ (by simp)).trans t2)
   have hend:=aL.out (Z a7 c.DW.length a6) (Z a8 c.DV.length hc9);generalize (wr.setCell ⟨w.heap.size+1,0,J⟩ (Z a7 c.DW.length a6)).setCell ⟨w.heap.size+1,1,J⟩ (Z a8 c.DV.length hc9)=W8 at z0 z1 hend;refine bodyPost_ret (v:=.agg #[Z a7 c.DW.length a6,Z a8 c.DV.length hc9]) (by simp[results,Tryz.results11,go_sem,z0,z1]) rfl hend
def je {ev:bD->F}{s x:bD}{t:bl}{P:Program}{w w':I}{v:F}(hr:(M #[t,t] t #[ev s,ev x]).run P w=.ok v w'):(execOp ev (Ia (.call { callee:=.builtin .append,args:=#[s,x],argTypes:=#[t,t] }) t)).run P w=.ok (.value v) w':=by
 unfold execOp Ia;simp only[resolve,invoke,builtin,Sem.run_bind,Sem.run_pure,Result.andThen_ok,Cr,Cd,CG,hr]
noncomputable def Lh:Array Oper:=match L6 (Jv 1 kj) with|.region _ o _=>o|_=>#[]
def uI {nA hA:Option bc}{q nc hc B:Nat}{c:D9}{W:I}{u:Nat->F}{Q:b6->Act->I->Prop}(h1:u 1=.pointer (U ⟨q,0,J⟩))(hB:B<=W.heap.size)(hl:c.DV.length<=20)(HH:Hid (∀V,Gr W V->EN V B hA c.DV))
  (HC:Hid (∀V,Gr W V->((V.cell? ⟨q,0,J⟩=U (Z nA c.DW.length nc)/\V.frozen? ⟨q,0,J⟩=bw)/\V.cell? ⟨q,1,J⟩=U (Z hA c.DV.length hc)/\V.frozen? ⟨q,1,J⟩=bw)/\q<V.heap.size))
  (HQ:Hid (∀V,Gr W V->bA DU 31 #[Z nA c.DW.length nc] V λe w'=>∃v,e=.returned v/\w'.ownsRow V.heap.size 3 1 v c.DW.length (c.DW.map (C O))/\Gr V w'))
  (hK:∀W5 u' A5 k5 A6 k6,Gr W W5->W5.ownsRow W.heap.size 3 1 (Z A5 c.DW.length k5) c.DW.length (c.DW.map (C O))->KW W.heap.size B c (Z A6 c.DV.length k6) W5->(∀t,FL Lh t=bq->u' t=u t) ->
   Q .normal ⟨T 33 u',[]⟩ ((W5.setCell ⟨q,0,J⟩ (Z A5 c.DW.length k5)).setCell ⟨q,1,J⟩ (Z A6 c.DV.length k6))):(bh 1 Lh bq).wp DU Q ⟨T 33 u,[]⟩ W:=by
 refine aW (R:=Gr) 8<|Ea (JJ 0 (G9 h1))<|Ea (Gp (El 0) λw hg=>by obtain⟨⟨⟨c0,f0⟩,c1,f1⟩,cl⟩:=HC.out w hg;assumption)<|Ea (Jw Sq.func31 [1] (P5 W c.DW.length (c.DW.map (C O))) (KX _ _ _) λw hg=>(HQ.out w hg).mono λe w' h=>?_)<|Ea (J7 (ML 49 4 W.heap.size) (Ma _ _ _) ?_)<|Ea (JJ 1 (G9 h1))<|Ea (Gp (El 4) λw hg=>by obtain⟨⟨⟨c0,f0⟩,c1,f1⟩,cl⟩:=HC.out w hg;assumption)<|Ea (J7 (KW W.heap.size B c) (NJ _ _ _) ?_)<|Ea (JJ 0 (G9 h1))<|Gc λu w hg hf hv=>?_
 .obtain⟨v,rfl,h1,h2⟩:=h;obtain⟨A5,k5,rfl⟩:=E9 h1;exact⟨_,rfl,h2,A5,k5,rfl,Fe h1 hg.size⟩
 .intro u w hg hf hl hd;refine aU (op:=.buildSlice 23 0 #[]) (t:=23) rfl _ (w.alloc (E #[] 49)) (λev he=>?_) ((Gr.refl w).alloc _) (qH hg.size);clear hg hf hl hd he;go_simp
 .intro u w hg hf hl' hd;obtain⟨b,e1,h0⟩:=hd.at_ 3 7;obtain⟨v,w9,hr,a7,h9⟩:=KA h0 (AH hB hg.size) (HH.out w hg) hl hg.size;refine aU (op:=.call { callee:=Callee.builtin Builtin.append,args:=#[.tmp 7,.tmp 9],argTypes:=#[23,23] }) (t:=23) rfl v w9 (λev he=>?_) a7 h9;have e2:=(he.t 7).trans e1;have e3:=(he.t 9).trans (hd.at_ 5 9);exact je (by rw[e2,e3];exact hr)
 .obtain⟨A5,k5,e6,ho⟩:=hv.at_ 2 6;have hh:=hv.at_ 6 10;have e11:=hv.at_ 7 11;obtain⟨A6,k6,a6⟩:∃A6 k6,u 10=Z A6 c.DV.length k6:=by
   obtain⟨_,xs,h,_⟩:=hh;exact E9 h
  have er:bW 8 (Lh.size-8)=[8,9,10]:=by kernel_rfl
  obtain⟨⟨⟨c0,f0⟩,c1,f1⟩,cl⟩:=HC.out w hg;have e1:=(hf.at_ 1).trans h1;rw[er,G];refine eP (d:=J) (op:=.store 22 (.tmp 11) (.tmp 6)) (t:=0) rfl (w.setCell ⟨q,0,J⟩ (Z A5 c.DW.length k5)) (λev he=>?_) ?_
  .have e2:=(he.t 11).trans e11;have e3:=(he.t 6).trans e6;clear hv hf hg he hK ho hh;go_simp
  rw[G];refine ft (d:=U 12) (op:=.fieldAddr 25 (.tmp 1) 1) (t:=0) rfl (.pointer (U ⟨q,1,J⟩)) (w.setCell ⟨q,0,J⟩ (Z A5 c.DW.length k5)) (λev he=>?_) ?_
  .have e2:=(he.t 1).trans e1;clear hv hf hg he hK ho hh;go_simp
  rw[G];refine eP (d:=J) (op:=.store 23 (.tmp 12) (.tmp 10)) (t:=0) rfl ((w.setCell ⟨q,0,J⟩ (Z A5 c.DW.length k5)).setCell ⟨q,1,J⟩ (Z A6 c.DV.length k6)) (λev he=>?_) ?_
  .have e2:=(he.t 12).trans (aV ..);have e3:=(he.t 10).trans ((Fh (by decide)).trans a6);clear hv hf hg he hK ho hh;go_simp
  show Q .normal _ _;have f12:FL Lh 12=false:=by kernel_rfl
  exact hK _ _ A5 k5 A6 k6 hg (e6▸ho) (a6▸hh) λt ht=>(Fh λe=>by rw[e,f12] at ht;cases ht).trans (hf t ht)
def oa (nA hA:Option bc)(nc hc:Nat)(c:D9)(w:I)(B:Nat)(hB:B<=w.heap.size)(hn:RI w B nA c.DW)(hh:EN w B hA c.DV)(aH:c.DW.length<=20)(zC:c.DV.length<=20)(a7:∀h∈c.DV,h.off.length<=20) :
  bA DU 11 #[Ef nA hA c nc hc] w (iV c w):=by
 unfold Ef;obtain⟨W0,zM⟩:∃W0:I,W0=(w.alloc (E #[Z nA c.DW.length nc,Z hA c.DV.length hc] 25)).alloc (E #[.slice J 0 0,.slice J 0 0] 25):=⟨_,rfl⟩;have zL:Gr w W0:=zM▸((Gr.refl w).alloc _).alloc _;have zF:W0.heap.size=w.heap.size+2:=by rw[zM];simp
 have aB:=Ay zL;have aC:=Ay a7
 have a8:Hid (W0.heap[w.heap.size]?=U (E #[Z nA c.DW.length nc,Z hA c.DV.length hc] 25 (0,0))/\W0.heap[w.heap.size+1]?=U (E #[.slice J 0 0,.slice J 0 0] 25 (0,0))):=Ay (by
  rw[zM]
  exact⟨(ae _ _ (by simp)).trans (heap_alloc_new _ _),aM _ _ (by simp)⟩)
 have HC:=Ay λV (hV:Gr W0 V)=>(hV.below.block w.heap.size (by omega)).trans a8.out.1;have HW:=Ay zM;have aD:=Ay (λW (hg:Gr W0 W)=>gH nA nc c.DW W B (hn.gr hB (zL.trans hg)) (by have:=hg.size;omega) (by omega));have aF:=Ay (λW (hg:Gr W0 W)=>hh.keep λb o hb=>(zL.trans hg).cell (p:=⟨b,o,J⟩) (AC hb hB));clear zL hh hn a7 zM;go_enter Sq.func11,Tryz.ntmps11;go_wp2;rw[<-HW.out];rename_i aG;refine iF 33 rfl λu hu=>?_
 refine uI (B:=B) (hc:=hc) (hu 1) (by omega) zC aF (Ay λV hV=>?_) aD λW5 u' A5 k5 A6 k6 a6 ho hh aA=>aG _ _ ?_
 .have h:=HC.out V hV;exact⟨⟨D5 h 0,D5 h 1⟩,by have:=hV.size;omega⟩
 .have aI:=a6.size;rw[zF] at ho hh;obtain⟨xs,hcc⟩:=CC.start (aB.out.trans a6) hB rfl (by omega) (HC.out W5 a6) ((a6.below.block _ (by omega)).trans a8.out.2) ho hh;exact qJ ((aA 1 (by kernel_rfl)).trans (hu 1)) ((aA 2 (by kernel_rfl)).trans (hu 2)) hB zC aC.out hcc
def qK (nA hA:Option bc)(nc hc:Nat)(c:D9)(w:I)(B:Nat)(hB:B<=w.heap.size)(hn:RI w B nA c.DW)(hh:EN w B hA c.DV)(a6:c.DW.length<=20)(zC:c.DV.length<=20)(a7:∀h∈c.DV,h.off.length<=20) :
  bA DU 11 #[Ef nA hA c nc hc] w (mX c w) :=
 (oa nA hA nc hc c w B hB hn hh a6 zC a7).mono λ_ _ h=>sO h
def od (nA hA a6 hA':Option bc)(nc hc a7 hc':Nat)(c:D9)(w:I)(hn:RI w w.heap.size nA c.DW)(hh:EN w w.heap.size hA c.DV)(a8:RI w w.heap.size a6 c.DW)(aA:EN w w.heap.size hA' c.DV)(aL:c.DW.length<=20)(zC:c.DV.length<=20)(aB:∀h∈c.DV,h.off.length<=20) :
  bA DU 19 #[Ef nA hA c nc hc,Ef a6 hA' c a7 hc'] w λe w'=>e=.returned (.bool bq)/\Gr w w':=by
 unfold Ef;obtain⟨W0,zM⟩:∃W0:I,W0=(w.alloc (E #[Z nA c.DW.length nc,Z hA c.DV.length hc] 25)).alloc (E #[Z a6 c.DW.length a7,Z hA' c.DV.length hc'] 25):=⟨_,rfl⟩;have zL:Gr w W0:=zM▸((Gr.refl w).alloc _).alloc _;have zF:W0.heap.size=w.heap.size+2:=by rw[zM];simp
 have aG:=Ay zL;have HH:=Ay (hh.keep λb o hb=>zL.cell hb);have HH':=Ay (aA.keep λb o hb=>zL.cell hb);have aH:=Ay aB;have HC:Hid (∀W,Gr W0 W->(W.cell? ⟨w.heap.size,0,J⟩=U (Z nA c.DW.length nc)/\W.cell? ⟨w.heap.size,1,J⟩=U (Z hA c.DV.length hc)/\W.cell? ⟨w.heap.size+1,0,J⟩=U (Z a6 c.DW.length a7)/\W.cell? ⟨w.heap.size+1,1,J⟩=U (Z hA' c.DV.length hc'))/\w.heap.size+1<W.heap.size):=Ay λW hg=>by
  have:=hg.size;have e1:∀i,i<2->W.cell? ⟨w.heap.size,i,J⟩=(#[Z nA c.DW.length nc,Z hA c.DV.length hc])[i]?:=λi hi=>by
   rw[hg.cell (by show w.heap.size<_;omega),zM,AW _ _ _ (by simp),AE _ _ _ _ rfl]
  have e2:∀i,i<2->W.cell? ⟨w.heap.size+1,i,J⟩=(#[Z a6 c.DW.length a7,Z hA' c.DV.length hc'])[i]?:=λi hi=>by
   rw[hg.cell (by show w.heap.size+1<_;omega),zM,AE _ _ _ _ (by simp)]
  exact⟨⟨e1 0 (by omega),e1 1 (by omega),e2 0 (by omega),e2 1 (by omega)⟩,by omega⟩
 have HW:=Ay zM;have hsn:=cv nA a6 nc a7 c.DW c.DW W0 w.heap.size (by omega) (hn.gr (AA _) zL) (a8.gr (AA _) zL) (by omega) (by omega);have aI:=Ay hsn;clear zL hh hn aA a8 aB hsn zM;go_enter Sq.func19,Tryz.ntmps19;go_wp2;rw[<-HW.out];obtain⟨⟨a0,a1,a2,a3⟩,a4⟩:=HC.out W0 (.refl _);have a5:w.heap.size<W0.heap.size:=by omega
 refine aI.out.mono ?_;rintro e w1 ⟨rfl,zJ⟩;have aC:=Ay zJ;clear zJ a0 a1 a2 a3 a4 a5;obtain⟨⟨a0,a1,a2,a3⟩,a4⟩:=HC.out w1 aC.out;have a5:w.heap.size<w1.heap.size:=by omega
 simp only[decide_true];go_wp2;go_loopw [5] (λi wr=>∃k:Nat,k<=c.DV.length/\i=C O k/\Gr W0 wr) (λi _=>c.DV.length-(Proofs.intOf i).toNat)
 case atStart=>exact⟨0,by omega,rfl,aC.out⟩
 case round =>
  obtain⟨k,hk,rfl,hg⟩:=hrel;have HG:=Ay hg;clear hg a0 a1 a2 a3 a4 a5;obtain⟨⟨a0,a1,a2,a3⟩,a4⟩:=HC.out wr HG.out;have a5:w.heap.size<wr.heap.size:=by omega
  by_cases zY:k<c.DV.length
  .obtain⟨b,o,rfl,hb,b0,b1,b2,A,cc,b3,hr⟩:=(HH.out.keep λb o hb=>HG.out.cell (by show b<_;omega)).at_ zY;obtain⟨b',o',rfl,hb',c0,c1,c2,A',cc',c3,aD⟩:=(HH'.out.keep λb o hb=>HG.out.cell (by show b<_;omega)).at_ zY;have aM:=aH.out _ (c.Gs zY);have HS:=Ay (λW (hg:Gr wr W)=>cv A A' cc cc' (c.h k).off (c.h k).off W w.heap.size (by have:=hg.size;omega) (hr.gr (by omega) hg) (aD.gr (by omega) hg) (by omega) (by omega))
   clear hr aD;have hbl:b<wr.heap.size:=by omega
   have hbl':b'<wr.heap.size:=by omega
   go_wp2;go_region
   all_goals
    go_wp2;refine(HS.out _ ((((Gr.refl wr).alloc _).alloc _).drew)).mono ?_;rintro e w5 ⟨rfl,aF⟩;have aJ:=Ay (HG.out.trans (((((Gr.refl wr).alloc _).alloc _).drew).trans aF));clear aF HS;simp only[decide_true];go_wp2;go_roundw
    case rel=>exact⟨k+1,by omega,by go_num,aJ.out⟩
    case measure=>simp[Proofs.intOf];omega
  .have aK:k=c.DV.length:=by omega
   subst aK;go_wp2;go_ret;exact⟨rfl,aG.out.trans HG.out⟩
structure Li where
 nA:Option bc
 hA:Option bc
 gA:Option bc
 nc:Nat
 hc:Nat
 gc:Nat
 c:D9
 ls:List (List Int)
structure Li.Small (x:Li):Prop where
 n:x.c.DW.length<=20
 h:x.c.DV.length<=20
 o:∀y∈x.c.DV,y.off.length<=20
 l:x.ls.length<=20
 g:∀y∈x.ls,y.length<=20
structure Li.At (x:Li)(W:I):Prop where
 n:RI W W.heap.size x.nA x.c.DW
 h:EN W W.heap.size x.hA x.c.DV
 g:ER W W.heap.size x.gA x.ls
def _root_.Go.Sq.ER.on {w w':I}{A:Option bc}{l:List (List Int)}(h:ER w w.heap.size A l)(hg:Gr w w'):ER w' w'.heap.size A l:=(h.gr (AA _) hg).more hg.size
def _root_.Go.Sq.EN.on {w w':I}{A:Option bc}{l:List EG}(h:EN w w.heap.size A l)(hg:Gr w w'):EN w' w'.heap.size A l:=(h.keep λ_ _ hb=>hg.cell hb).more hg.size
def Li.At.gr {x:Li}{W W':I}(h:x.At W)(hg:Gr W W'):x.At W':=⟨(h.n.gr (AA _) hg).more hg.size,h.h.on hg,h.g.on hg⟩
structure NK (W:I)(cb co rb ro k:Nat)(x:Li):Prop where
 c0:W.cell? ⟨cb,co+k*2,J⟩=U (.slice x.nA x.c.DW.length x.nc)
 c1:W.cell? ⟨cb,co+k*2+1,J⟩=U (.slice x.hA x.c.DV.length x.hc)
 r0:W.cell? ⟨rb,ro+k,J⟩=U (.slice x.gA x.ls.length x.gc)
 lt:cb<W.heap.size/\rb<W.heap.size
 at_:x.At W
 small:x.Small
def NK.gr {W W':I}{cb co rb ro k:Nat}{x:Li}(h:NK W cb co rb ro k x)(hg:Gr W W'):NK W' cb co rb ro k x :=
 ⟨(hg.cell (p:=⟨cb,_,J⟩) h.lt.1).trans h.c0,(hg.cell (p:=⟨cb,_,J⟩) h.lt.1).trans h.c1,(hg.cell (p:=⟨rb,_,J⟩) h.lt.2).trans h.r0,⟨AC h.lt.1 hg.size,AC h.lt.2 hg.size⟩,h.at_.gr hg,h.small⟩
open Go.Eu
variable {R:I->I->Prop} {ops:Array Oper} {Q:b6->Act->I->Prop} {n m:Nat} {u:Nat->F} {ds:List Deferred} {w w':I}
def P6 (c:D9)(w0:I)(v:F)(w:I):Prop:=∃nA hA nc hc,v=Ef nA hA c nc hc/\IH w (λb=>w0.heap.size<=b/\b<w.heap.size) nA c.DW/\Gl w (λb=>w0.heap.size<=b/\b<w.heap.size) hA c.DV
def OD (c:D9)(w0:I):F3 Gr (P6 c w0):=λv w w' hg ⟨nA,hA,nc,hc,e,h1,h2⟩ =>
 ⟨nA,hA,nc,hc,e,fp h1 (λb hb=>⟨hb.1,AC hb.2 hg.size⟩) λb o hb=>hg.cell (p:=⟨b,o,J⟩) hb.2,gG h2 (λb hb=>⟨hb.1,AC hb.2 hg.size⟩) λb o hb=>hg.cell (p:=⟨b,o,J⟩) hb.2⟩
def P7 {c:D9}{w0 w w':I}{e:b5}(hg:Gr w0 w)(h:mX c w e w'):∃v,e=.returned v/\Gr w w'/\P6 c w0 v w':=by
 obtain⟨h1,nA,hA,nc,hc,rfl,h2,h3⟩:=h;have hk:∀b,w.heap.size<=b/\b<w'.heap.size->w0.heap.size<=b/\b<w'.heap.size:=λb hb=>⟨AH hg.size hb.1,hb.2⟩;exact⟨_,rfl,h1,nA,hA,nc,hc,rfl,fp h2 hk λ_ _ _=>rfl,gG h3 hk λ_ _ _=>rfl⟩
def Py (ls:List (List Int))(w0:I)(v:F)(w:I):Prop:=∃xs,Ec w w0.heap.size v ls xs
def NL (ls:List (List Int))(w0:I):F3 Gr (Py ls w0):=λv w w' hg ⟨xs,h⟩=>⟨xs,h.keep λb hb=>hg.below.block b hb⟩
def et {w:I}{B B':Nat}{v:F}{ls:List (List Int)}{xs:List F}(h:Ec w B v ls xs)(hb:B'<=B):Ec w B' v ls xs :=
 ⟨Fe h.row hb,λi l hi=>by obtain⟨u,h1,h2⟩:=h.cells i l hi;exact⟨u,h1,Fe h2 hb⟩⟩
def Q4 (w0:I)(v:F)(w:I):Prop:=∃b,v=.pointer (U ⟨b,0,J⟩)/\w0.heap.size<=b/\w.heap[b]?=U (E #[.slice J 0 0,.slice J 0 0] 25 (0,0))
def OE (w0:I):F3 Gr (Q4 w0):=λv w w' hg ⟨b,e,h1,h2⟩=>⟨b,e,h1,(hg.below.block b (Az.1 h2).1).trans h2⟩
section
variable {w0 w:I} {b:Nat} {x y:F}
def I2 (hb:w.heap[b]?=U (E #[.slice J 0 0,.slice J 0 0] 25 (0,0))) :
  (w.cell? ⟨b,0,J⟩=U (.slice J 0 0)/\w.cell? ⟨b,1,J⟩=U (.slice J 0 0)/\w.frozen? ⟨b,0,J⟩=bw/\w.frozen? ⟨b,1,J⟩=bw)/\b<w.heap.size:=by
 obtain⟨h1,h2⟩:=D5 hb 0;obtain⟨h3,h4⟩:=D5 hb 1;exact⟨⟨h1,h3,h2,h4⟩,(Az.1 hb).1⟩
def fM (b':Nat)(h:b'≠b):((w.setCell ⟨b,0,J⟩ x).setCell ⟨b,1,J⟩ y).heap[b']?=w.heap[b']?:=(AR _ _ _ _ h).trans (AR _ _ _ _ h)
def gK:((w.setCell ⟨b,0,J⟩ x).setCell ⟨b,1,J⟩ y).heap.size=w.heap.size:=by simp[World.setCell]
def sP (hg:Gr w0 w)(hb:w0.heap.size<=b):Gr w0 ((w.setCell ⟨b,0,J⟩ x).setCell ⟨b,1,J⟩ y):=(hg.setCell (p:=⟨b,0,J⟩) hb x).setCell (p:=⟨b,1,J⟩) hb y
def Nd (hb:w.heap[b]?=U (E #[.slice J 0 0,.slice J 0 0] 25 (0,0))) :
  ((w.setCell ⟨b,0,J⟩ x).setCell ⟨b,1,J⟩ y).cell? ⟨b,0,J⟩=U x/\((w.setCell ⟨b,0,J⟩ x).setCell ⟨b,1,J⟩ y).cell? ⟨b,1,J⟩=U y:=by
 obtain⟨⟨h1,h2,_⟩,_⟩:=I2 hb;refine⟨(AL _ _ _ _ (by simp)).trans (AQ _ _ _ h1),AQ _ _ _ ((AL _ _ _ _ (by simp)).trans h2)⟩
def po (hb:w.heap[b]?=U (E #[.slice J 0 0,.slice J 0 0] 25 (0,0))){b' o:Nat}{k:IntKind}{z:Int}(h:w.cell? ⟨b',o,J⟩=U (.int k z)):b'≠b:=λe=>by
 subst e;unfold World.cell? at h;dsimp only at h;rw[hb] at h;dsimp only at h;simp only[CJ,AZ,if_false] at h
 match o,h with
 |0,h=>simp at h
 |1,h=>simp at h
 |o+2,h=>simp at h
def pq {K:Nat->Prop}{A:Option bc}{l:List Int}(hb:w.heap[b]?=U (E #[.slice J 0 0,.slice J 0 0] 25 (0,0)))(h:IH w K A l):IH ((w.setCell ⟨b,0,J⟩ x).setCell ⟨b,1,J⟩ y) K A l:=λhn=>by
 obtain⟨b',o,e,h1,h2⟩:=h hn;obtain⟨z,l',rfl⟩:=H hn;have zU:=po hb (h2 0 z rfl);exact⟨b',o,e,h1,λi x hx=>(AT (a:=⟨b',o+i,J⟩) (fM b' zU)).trans (h2 i x hx)⟩
def xj {K:Nat->Prop}{A:Option bc}{l:List EG}(hb:w.heap[b]?=U (E #[.slice J 0 0,.slice J 0 0] 25 (0,0)))(h:Gl w K A l):Gl ((w.setCell ⟨b,0,J⟩ x).setCell ⟨b,1,J⟩ y) K A l:=λhn=>by
 obtain⟨b',o,e,h1,h2⟩:=h hn;obtain⟨z,l',rfl⟩:=H hn;have zU:b'≠b:=po hb (h2 0 z rfl).1;have hc:∀j,((w.setCell ⟨b,0,J⟩ x).setCell ⟨b,1,J⟩ y).cell? ⟨b',j,J⟩=w.cell? ⟨b',j,J⟩:=λj=>AT (a:=⟨b',j,J⟩) (fM b' zU);refine⟨b',o,e,h1,λi x hx=>?_⟩;obtain⟨k0,k1,k2,A',c,k3,k4⟩:=h2 i x hx;exact⟨(hc _).trans k0,(hc _).trans k1,(hc _).trans k2,A',c,(hc _).trans k3,pq hb k4⟩
def mY {B s n:Nat}{e:bl}{v:F}{xs:List F}(h:w.ownsRow B e s v n xs)(hb:w.heap[b]?=U (E #[.slice J 0 0,.slice J 0 0] 25 (0,0)))(he:e≠25){g:Nat}(hg:v.ownBlock=U g):g≠b:=λe'=>by
 subst e';obtain⟨rfl,_⟩|⟨g',c,cur,rfl,_,h3,_⟩:=h.2
 .cases hg
 .cases hg
  rw[hb] at h3;injection h3 with h3
  injection h3 with _ h3 _
  exact he h3.symm
def OG {B:Nat}{v:F}{ls:List (List Int)}{xs:List F}(hb:w.heap[b]?=U (E #[.slice J 0 0,.slice J 0 0] 25 (0,0)))(h:Ec w B v ls xs):Ec ((w.setCell ⟨b,0,J⟩ x).setCell ⟨b,1,J⟩ y) B v ls xs :=
 ⟨ar h.row λg hg _=>fM g (mY h.row hb (by decide) hg),λi l hi=>by
  obtain⟨u,h1,h2⟩:=h.cells i l hi
  exact⟨u,h1,ar h2 λg hg _=>fM g (mY h2 hb (by decide) hg)⟩⟩
end
def Q6:Code->Array Oper
 |.region _ o _=>o
 |_=>#[]
def inBody:Code->Code
 |.block _ b=>b
 |.loop b=>b
 |c=>c
def Pz:Code->Code
 |.seq _ (.cond _ x _)=>x
 |c=>c
def H2 (c:D9)(l:List Int):List Int:=l.map λh=>(c.h h.toNat).E3
def lD (c:D9)(l:List Int):(H2 c l).length=l.length:=Bq ..
def uJ {c:D9}(a6:c.Ok){l:List Int}(hl:∀x∈l,0<=x/\x<c.DV.length)(k:Nat)(hk:k<=1048576):0<=((H2 c l).take k).sum/\((H2 c l).take k).sum<=5242880:=by
 have h:∀x∈(H2 c l).take k,0<=x/\x<=(5:Nat):=λx hx=>by
  obtain⟨h,hh,rfl⟩:=Bf.1 (Cz hx);have h2:=hl h hh;have:=a6.E3 _ (c.Gs (i:=h.toNat) (by omega));omega
 have h2:=yx h;have zC:=List.length_take_le k (H2 c l);omega
def sQ (nA hA lA:Option bc)(nc hc lc:Nat)(c:D9)(l:List Int)(w:I)(B:Nat)(hB:B<=w.heap.size)(hh:EN w B hA c.DV)(hr:RI w B lA l)(a6:c.Ok)(hl:l.length<=1048576)(a7:∀x∈l,0<=x/\x<c.DV.length) :
  bA DU 97 #[Ef nA hA c nc hc,Z lA l.length lc] w λe w'=>e=.returned (C O (H2 c l).sum)/\Gr w w':=by
 unfold Ef;obtain⟨W0,zM⟩:∃W0:I,W0=w.alloc (E #[Z nA c.DW.length nc,Z hA c.DV.length hc] 25):=⟨_,rfl⟩;have zL:Gr w W0:=zM▸(Gr.refl w).alloc _;have zF:W0.heap.size=w.heap.size+1:=by rw[zM];simp
 have HW:=Ay zM;have a8:=Ay zL
 have aB:Hid (W0.cell? ⟨w.heap.size,1,J⟩=U (Z hA c.DV.length hc)):=Ay (by
  rw[zM,AE _ _ _ _ rfl];rfl)
 have HH:=Ay hh;have HR:=Ay hr;have aC:=Ay a7;have HBD:=Ay λk hk=>uJ a6 a7 k hk;have aD:=Ay a6;go_enter Sq.func97,Tryz.ntmps97;go_wp2;rw[<-HW.out];go_loopw [5,6] (λs i wr=>∃k:Nat,k<=l.length/\i=C O k/\s=C O ((H2 c l).take k).sum/\Gr W0 wr) (λ_ i _=>l.length-(Proofs.intOf i).toNat)
 case atStart=>exact⟨0,by omega,rfl,by simp,.refl _⟩
 case round =>
  obtain⟨k,hk,rfl,rfl,zV⟩:=hrel;have HG:=Ay zV;have aI:=zV.size;by_cases zY:k<l.length
  .have hg:=a8.out.trans zV;obtain⟨b,o,rfl,hb,hcell⟩:=(HR.out.gr hB hg).at_ zY;have hx:=aC.out l[k] (Bh zY);rw[AB zY,AY] at hcell
   have HS:Hid (((H2 c l).take (k+1)).sum=((H2 c l).take k).sum+(c.h (l[k]).toNat).E3):=Ay (by
    rw[jg _ _ (by rw[lD];exact zY)]
    simp[H2,AB zY])
   obtain⟨n,hn⟩:∃n:Nat,l[k]=n:=⟨(l[k]).toNat,by omega⟩;rw[hn] at hcell HS hx;have aA:n<c.DV.length:=by omega
   rw[CY] at HS;have zw:=(zV.cell (p:=⟨w.heap.size,1,J⟩) (by show w.heap.size<_;omega)).trans aB.out;obtain⟨zq,aJ,rfl,aG,hh⟩:=(HH.out.keep λb o hb=>hg.cell (p:=⟨b,o,J⟩) (AC hb hB)).at_ aA;obtain⟨-,aH,-,-⟩:=hh;have hs1:=HBD.out k (by omega);have aK:=aD.out.E3 _ (c.Gs aA);have aL:w.heap.size<wr.heap.size:=by omega
   have hb3:b<wr.heap.size:=by omega
   have hb4:zq<wr.heap.size:=by omega
   generalize ((H2 c l).take k).sum=S at HS hs1;go_wp2;go_region
   all_goals
    go_wp2;go_roundw
    case rel=>exact⟨k+1,by omega,by go_num,by rw[HS.out],by first|exact HG.out|exact HG.out.drew⟩
    case measure=>simp[Proofs.intOf];omega
  .have aF:k=l.length:=by omega
   subst aF;have HS:Hid (((H2 c l).take l.length).sum=(H2 c l).sum):=Ay (by rw[Bb (by rw[lD];omega)]);go_wp2;go_ret;exact⟨ap HS.out,a8.out.trans HG.out⟩
def KB (n:Nat):Code->Option (Array Oper)
 |.region id o _=>if id=n then U o else J
 |.seq a b=>(KB n a).or (KB n b)
 |.cond _ a b=>(KB n a).or (KB n b)
 |.block _ b=>KB n b
 |.loop b=>KB n b
 |_=>J
def II (n:Nat)(f:Func):Array Oper:=(KB n (f.body.getD .skip)).getD #[]
def uK {cb gb go hb ho gc hc m k h:Nat}{s x:Int}{W:I}{u:Nat->F}{Q:b6->Act->I->Prop}(h1:u 1=.slice (U ⟨gb,go,J⟩) (k+1) gc)(h2:u 2=.pointer (U ⟨cb,0,J⟩))(h6:u 6=C O (k:Nat))(h9:u 9=C O (h:Nat))(hk:k<gc)(hm:h<m)
  (HC:Hid (∀V,Gr W V->(V.cell? ⟨cb,1,J⟩=U (.slice (U ⟨hb,ho,J⟩) m hc)/\V.cell? ⟨hb,ho+h*4+2,J⟩=U (C O x))/\cb<V.heap.size/\hb<V.heap.size))
  (HW:Hid (∀V,Gr W V->bA DU 96 #[.slice (U ⟨gb,go,J⟩) k gc,C O (h:Nat)] V λe w'=>e=.returned (C O s)/\V=w'))
  (hK:∀W' u',Gr W W'->(∀t,FL (II 16 Tryz.f66) t=bq->u' t=u t)->u' 10=.bool (ak (s ≥ x))->Q .normal ⟨T 92 u',[]⟩ W'):(bh 16 (II 16 Tryz.f66) bq).wp DU Q ⟨T 92 u,[]⟩ W:=by
 refine aW (R:=Gr) 13<|Ea (Es h1)<|Ea (Es h6)<|Ea (Q3 (.slice (U ⟨gb,go,J⟩) k gc) ?_)<|Ea (Es h9)<|Ea (Jw Sq.func96 [2,3] (λv _=>v=C O s) (EU _) λw hg=>(HW.out w hg).mono λe w' h=>⟨_,h.1,h.2▸.refl _,rfl⟩)<|Ea (JJ 1 (G9 h2))<|Ea (Gp (El 5) λw hg=>by obtain⟨⟨k1,k2⟩,l1,l2⟩:=HC.out w hg;assumption)<|Ea (Es h9)<|Ea (Ha (ho+h*4) 4 (El 6) (El 7))<|Ea (JJ (ho+h*4+2) (El 8))<|Ea (Gp (El 9) λw hg=>by obtain⟨⟨k1,k2⟩,l1,l2⟩:=HC.out w hg;assumption)<|Ea (MK (.bool (ak (s ≥ x))) (El 4) (El 10))<|Ea (GD 11)<|Gc λu w hg hf hv=>?_
 .intro u w hg hf hl hd;refine bP (op:=.slice 26 (.tmp 60) J (U (.tmp 61)) J) (t:=26) rfl (λev he=>?_);have e60:=((he.t 60).trans (hd.at_ 0 60));have e61:=((he.t 61).trans (hd.at_ 1 61));clear hg hf hl hd he;have hs:k<=gc:=by omega
  go_simp
 .exact hK w u hg hf (hv.at_ 12 10)
def uL {lA hA:Option bc}{cb gb go nb no gc hc nc lc ln m k N:Nat}{s x:Int}{W:I}{u:Nat->F}{Q:b6->Act->I->Prop}(h1:u 1=.slice (U ⟨gb,go,J⟩) (k+1) gc)(h2:u 2=.pointer (U ⟨cb,0,J⟩))(h6:u 6=C O (k:Nat))(hk:k<N)
  (HC:Hid (∀V,Gr W V->(V.cell? ⟨cb,0,J⟩=U (.slice (U ⟨nb,no,J⟩) N nc)/\V.cell? ⟨cb,1,J⟩=U (Z hA m hc)/\V.cell? ⟨gb,go+k,J⟩=U (Z lA ln lc)/\V.cell? ⟨nb,no+k,J⟩=U (C O x))/\cb<V.heap.size/\gb<V.heap.size/\nb<V.heap.size))
  (HD:Hid (∀V,Gr W V->bA DU 97 #[.agg #[.slice (U ⟨nb,no,J⟩) N nc,Z hA m hc],Z lA ln lc] V λe w'=>e=.returned (C O s)/\Gr V w'))
  (hK:∀W' u',Gr W W'->(∀t,FL (II 19 Tryz.f66) t=bq->u' t=u t)->u' 88=.bool (ak (s<x))->Q .normal ⟨T 92 u',[]⟩ W'):(bh 19 (II 19 Tryz.f66) bq).wp DU Q ⟨T 92 u,[]⟩ W:=by
 refine aW (R:=Gr) 12<|Ea (I6 (.agg #[.slice (U ⟨nb,no,J⟩) N nc,Z hA m hc]) (G9 h2) rfl λw hg ev e=>by obtain⟨⟨k1,k2,k3,k4⟩,l1,l2,l3⟩:=HC.out w hg;clear hg;go_simp)<|Ea (Es h1)<|Ea (Es h6)<|Ea (Ha (go+k) 1 (El 1) (El 2))<|Ea (Gp (El 3) λw hg=>by obtain⟨⟨k1,k2,k3,k4⟩,l1,l2,l3⟩:=HC.out w hg;assumption)<|Ea (Lg Sq.func97 [0,4] HD.out)<|Ea (JJ 0 (G9 h2))<|Ea (Gp (El 6) λw hg=>by obtain⟨⟨k1,k2,k3,k4⟩,l1,l2,l3⟩:=HC.out w hg;assumption)<|Ea (Es h6)<|Ea (Ha (no+k) 1 (El 7) (El 8))<|Ea (Gp (El 9) λw hg=>by obtain⟨⟨k1,k2,k3,k4⟩,l1,l2,l3⟩:=HC.out w hg;assumption)<|Ea (MK (.bool (ak (s<x))) (El 5) (El 10))<|Gc λu w hg hf hv=>?_
 .exact hK w u hg hf (hv.at_ 11 88)
def xm {A3 A4:Option bc}{ab ao bb bo ga gb na nb c3 c4 k h:Nat}{X Y:List Int}{W:I}{u:Nat->F}{Q:b6->Act->I->Prop}(h1:u 1=.slice (U ⟨ab,ao,J⟩) na ga)(h2:u 2=.slice (U ⟨bb,bo,J⟩) nb gb)(h8:u 8=C O (k:Nat))(h9:u 9=C O (h:Nat))(hka:k<na)(hkb:k<nb)
  (HC:Hid (∀V,Gr W V->(V.cell? ⟨ab,ao+k,J⟩=U (Z A3 X.length c3)/\V.cell? ⟨bb,bo+k,J⟩=U (Z A4 Y.length c4))/\ab<V.heap.size/\bb<V.heap.size)) (HX:Hid (∀V,Gr W V->RI V V.heap.size A3 X)) (HY:Hid (∀V,Gr W V->RI V V.heap.size A4 Y)) (hX:X.length<=20) (hY:Y.length<=20)
  (hK:∀W' u',Gr W W'->(∀t,FL (II 8 Tryz.f45) t=bq->u' t=u t)->u' 35=.bool (ak ((h:Int)∈X) != ak ((h:Int)∈Y))->Q .normal ⟨T 39 u',[]⟩ W'):(bh 8 (II 8 Tryz.f45) bq).wp DU Q ⟨T 39 u,[]⟩ W:=by
 refine aW (R:=Gr) 13<|Ea (Es h1)<|Ea (Es h8)<|Ea (Ha (ao+k) 1 (El 0) (El 1))<|Ea (Gp (El 2) λw hg=>by obtain⟨⟨k2,k3⟩,l2,l3⟩:=HC.out w hg;assumption)<|Ea (Es h9)<|Ea (Jw Sq.func83 [3,4] (λv _=>v=.bool (ak ((h:Int)∈X))) (EU _) λw hg=>(Io A3 c3 X h w w.heap.size (HX.out w hg) (by omega)).mono λe w' h=>by obtain⟨rfl,rfl⟩:=h;exact⟨_,rfl,.refl _,rfl⟩)<|Ea (Es h2)<|Ea (Es h8)<|Ea (Ha (bo+k) 1 (El 6) (El 7))<|Ea (Gp (El 8) λw hg=>by obtain⟨⟨k2,k3⟩,l2,l3⟩:=HC.out w hg;assumption)<|Ea (Es h9)<|Ea (Jw Sq.func83 [9,10] (λv _=>v=.bool (ak ((h:Int)∈Y))) (EU _) λw hg=>(Io A4 c4 Y h w w.heap.size (HY.out w hg) (by omega)).mono λe w' h=>by obtain⟨rfl,rfl⟩:=h;exact⟨_,rfl,.refl _,rfl⟩)<|Ea (Q3 (.bool (ak ((h:Int)∈X) != ak ((h:Int)∈Y))) ?_)<|Gc λu w hg hf hv=>?_
 .intro u w hg hf hl hd;refine bP (op:=.binOp BinOp.neq 4 (.tmp 28) (.tmp 34) 4) (t:=4) rfl (λev he=>?_);have e28:=((he.t 28).trans (hd.at_ 5 28));have e34:=((he.t 34).trans (hd.at_ 11 34));clear hg hf hl hd he hK;generalize ak ((h:Int)∈X)=p at e28 ⊢;generalize ak ((h:Int)∈Y)=q at e34 ⊢;cases p<;>cases q<;>go_simp
 .exact hK w u hg hf (hv.at_ 12 35)
def subs (n:Nat):Nat->List (List Int)
 |0=>[[]]
 |k+1=>[]::((subs n k).map (((n-(k+1):Nat):Int)::·)++(subs n k).tail)
def pow {α:Type}(S:List α):Nat->List (List α)
 |0=>[[]]
 |k+1=>S.flatMap λs=>(pow S k).map (s::·)
def xp {α:Type}{S:List α}:∀ {k:Nat} {x:List α},x∈pow S k->x.length=k/\∀y∈x,y∈S:=by
 intro k
 induction k with
 |zero=>intro x hx;simp[pow] at hx;subst hx;exact⟨rfl,by simp⟩
 |succ k ih =>
  intro x hx;simp only[pow,CU,Bf] at hx;obtain⟨s,hs,y,hy,rfl⟩:=hx;obtain⟨h1,h2⟩:=ih hy;exact⟨by simp[h1],λz hz=>(AJ.1 hz).elim (λe=>e▸hs) (h2 z)⟩
def qL {α:Type}(S:List α)(k:Nat):(pow S k).length<=S.length ^ k:=by
 induction k with
 |zero=>exact AA _
 |succ k ih =>
  simp only[pow,List.length_flatMap,Bq];rw[List.map_const',List.sum_replicate_nat,Nat.pow_succ,Nat.mul_comm];exact Nat.mul_le_mul_right _ ih
def sR:∀m,m<=4->subs m m=(En m).map wl:=five ⟨by decide,by decide,by decide,by decide,by decide⟩
def OH:EH->Nat->List Nat->EH
 |r,_,[]=>r
 |r,n,x::xs=>OH (upd r n x) (n+1) xs
def Jk (c:D9):EH->Nat->List Nat->Bool
 |_,_,[]=>bq
 |r,n,x::xs=>decide ((Ej c (upd r n x) n).1=0)&&Jk c (upd r n x) (n+1) xs
def mZ (c:D9)(S:List Nat)(k:Nat):∀(r:EH) (n:Nat),Eh c S k r n=((pow S k).filter (Jk c r n)).map (OH r n):=by
 induction k with
 |zero=>intro r n;rfl
 |succ k ih =>
  intro r n;simp only[Eh,pow];rw[List.filter_flatMap,List.map_flatMap];congr 1;funext x;rw[List.filter_map];by_cases h:(Ej c (upd r n x) n).1=0
  .rw[AF h,ih,List.map_map];have e:(Jk c r n ∘ λy=>x::y)=Jk c (upd r n x) (n+1):=by
    funext y;simp[Jk,h]
   rw[e]
   rfl
  .rw[AD h];have e:(Jk c r n ∘ λy=>x::y)=λ_=>false:=by
    funext y;simp[Jk,h]
   rw[e];simp
def xq (xs:List Nat):∀(r:EH) (n i:Nat),OH r n xs i=if n<=i/\i<n+xs.length then xs[i-n]?.getD 0 else r i:=by
 induction xs with
 |nil=>intro r n i;simp[OH];omega
 |cons x xs ih =>
  intro r n i;simp only[OH];rw[ih];by_cases h1:n+1<=i/\i<n+1+xs.length
  .rw[AF h1,AF (by simp;omega),show i-n=i-(n+1)+1 by omega,Be]
  .rw[AD h1];unfold upd;by_cases h2:i=n
   .subst h2;rw[AF rfl,AF (by simp)];simp
   .rw[AD h2,AD (by simp;omega)]
def MN (N:Nat)(l:List Int)(d:Int):List Int:=Eo (λi=>decide ((i:Int)=d\/(i:Int)∈l)) N
def sT {l:List Int}{N:Nat}{d:Int}(hl:Fi l N=0)(hd:0<=d/\d<N):cA l d=MN N l d:=by
 obtain⟨h1,_,h2⟩:=I0 hl;have hp:=mW h2;have a8:∀z,z∈MN N l d↔z=d\/z∈l:=λz=>by
  unfold MN;rw[FB];constructor
  .rintro⟨n,rfl,_,h⟩;simpa using h
  .intro h;have hz:0<=z/\z<N:=by
    obtain rfl|h:=h
    .exact hd
    .exact h1 z h
   exact⟨z.toNat,by omega,by omega,by
    rw[show((z.toNat:Nat):Int)=z by omega]
    simpa using h⟩
 unfold cA;by_cases a6:d∈l
 .rw[AF a6];refine dN hp (da _ _) λz=>?_;show z∈l↔z∈MN N l d;rw[a8];exact⟨.inr,λh=>h.elim (λe=>e▸a6) id⟩
 .rw[AD a6];have a7:=List.mergeSort_perm (l++[d]) (λx y:Int=>decide (x<=y));have hs:=List.pairwise_mergeSort (le:=λx y:Int=>decide (x<=y)) (by intro a b c h1 h2;simp at *;omega) (by intro a b;simp;omega) (l++[d]);have aB:(l++[d]).Nodup:=by
   refine List.nodup_append.2 ⟨hp.imp λh=>by omega,by simp,λa ha b hb=>?_⟩;simp at hb;subst hb;exact λe=>a6 (e▸ha)
  have aA:=a7.nodup_iff.2 aB;refine dN ?_ (da _ _) λz=>?_
  .exact(hs.and aA).imp λ⟨a,b⟩=>by simp at a;omega
  .show _↔z∈MN N l d;rw[a7.mem_iff,a8];simp[or_comm]
def uM (N:Nat)(l:List Int)(d:Int):Fi (MN N l d) N=0:=ly _ _
def Mc (c:D9)(k:Nat)(d:Int):D9:={ c with DV:=c.DV.set k { c.h k with off:=MN c.DW.length (c.h k).off d } }
def JV {c:D9}(h:Eg c=0):Ez c.DW.length 1 5=0/\(c.DW.all λx=>FC x 0 12)=bq/\Ez c.DV.length 1 4=0/\∀x∈c.DV,Fq c.DW.length x=0:=by
 unfold Eg at h;by_cases h1:Ez c.DW.length 1 5≠0
 .rw[AF h1] at h;exact AI h h1
 rw[AD h1] at h;by_cases h2:(c.DW.all λx=>FC x 0 12)=bw
 .rw[AF h2] at h;cases h
 rw[AD h2] at h;by_cases h3:Ez c.DV.length 1 4≠0
 .rw[AF h3] at h;exact AI h h3
 rw[AD h3,bg] at h;exact⟨br.1 h1,by simpa using h2,br.1 h3,λx hx=>h _ (List.mem_map_of_mem hx)⟩
def qM {c:D9}(h1:Ez c.DW.length 1 5=0)(h2:(c.DW.all λx=>FC x 0 12)=bq)(h3:Ez c.DV.length 1 4=0)(h4:∀x∈c.DV,Fq c.DW.length x=0):Eg c=0:=by
 unfold Eg;rw[AD (by simpa using h1),AD (by rw[h2];simp),AD (by simpa using h3)];exact fN λx hx=>by
  obtain⟨y,hy,rfl⟩:=Bf.1 hx;exact h4 y hy
def uN {n:Int}{h:EG}(hh:Fq n h=0):Fi h.off n=0:=by
 unfold Fq at hh;split at hh
 .exact hh
 .cases hh
def xu {c:D9}(hc:Eg c=0){k:Nat}(hk:k<c.DV.length){d:Int}(hd:0<=d/\d<c.DW.length):G8 c k d=Mc c k d:=by
 unfold G8 Mc;rw[sT (uN ((JV hc).2.2.2 _ (c.Gs hk))) hd]
def sU {c:D9}(hc:Eg c=0){k:Nat}(hk:k<c.DV.length)(d:Int):Eg (Mc c k d)=0:=by
 obtain⟨h1,h2,h3,h4⟩:=JV hc;refine qM h1 h2 (by simpa [Mc] using h3) λx hx=>?_;obtain hx|rfl:=Dc hx
 .exact h4 x hx
 .have:=h4 _ (c.Gs hk);unfold Fq at this ⊢;dsimp only[Mc] at *;split at this
  .rename_i hb;rw[AF hb];exact uM _ _ _
  .cases this
def uO (a b:EH)(N:Nat)(ha:∀i,N<=i->a i=b i):∀k,N<=k->FM a b k=FM a b N:=by
  intro k hk
  induction k with
  | zero => obtain rfl : N = 0 := by omega
            rfl
  |succ k ih =>
    obtain h|h:=Br k N
    · obtain rfl:N=k+1:=by omega
      rfl
    · simp only[FM]
      rw[ih h,ha k h,Nat.xor_self];simp[wl,below]
def Gd (a b:Nat):Nat->Nat
 |0=>0
 |v+1=>Gd a b v+if a.testBit v=b.testBit v then 0 else 1
def qN (a b v:Nat):(below (a ^^^ b) v).length=Gd a b v:=by
 induction v with
 |zero=>rfl
 |succ v ih =>
  simp only[Gd];rw[<-ih];unfold below;rw[CN,CI,CQ,BH];congr 1;cases h:a.testBit v<;>cases h':b.testBit v<;>simp[List.filter_cons,Nat.testBit_xor,h,h']
def xx {a b m:Nat}(ha:a<2 ^ m)(hb:b<2 ^ m)(hm:m<=4):(wl (a ^^^ b)).length=Gd a b m:=by
  unfold wl;rw[qN];have key:∀v,m<=v->Gd a b v=Gd a b m:=λv hv=>by
    induction v with
    | zero => obtain rfl : m = 0 := by omega
              rfl
    |succ v ih =>
      obtain h|h:=Br v m
      · obtain rfl:m=v+1:=by omega
        rfl
      · simp only[Gd]
        have hz:∀ {x},x<2 ^ m->x.testBit v=false:=λhx=>Nat.testBit_lt_two_pow (AC hx (BN (by omega) h));rw[ih h,hz ha,hz hb];simp
  exact key 4 hm
def uP (a b v:Nat):Gd a b v<=v:=by
 induction v with
 |zero=>exact AA _
 |succ v ih=>simp only[Gd];split<;>omega
def Ec.grow {w w':I}{b1 b2 n:Nat}{u v:F}{ls:List (List Int)}{rs xs:List F}(h:Ec w b1 u ls rs)(hv:w.ownsRow b2 22 1 v n xs)(ha:∀g,u.ownBlock=U g->U g≠v.ownBlock)(hg:w.grownBy w' v.ownBlock):Ec w' b1 u ls rs :=
 ⟨ar h.row λg hu hl=>hg.block g hl (ha g hu),λi l hi=>by
  obtain⟨y,h1,h2⟩:=h.cells i l hi
  exact⟨y,h1,ar h2 λg hu hl=>hg.block g hl (cj (by decide) h2 hv hu)⟩⟩
def Ec.gr {w w':I}{base:Nat}{v:F}{ls:List (List Int)}{xs:List F}(h:Ec w base v ls xs)(hg:Gr w w'):Ec w' base v ls xs:=h.keep λb hb=>hg.below.block b hb
def Md {w':I}{base g:Nat}(hb:base<=g)(hg:w'.heap[g]?=U (E #[.slice J 0 0] 22 (0,0))):Ec w' base (.slice (U ⟨g,0,J⟩) 1 1) [[]] [.slice J 0 0]:=by
 refine⟨⟨rfl,.inr ⟨g,1,_,rfl,hb,hg,AA _,by unfold maxLen;simp,rfl,rfl⟩⟩,λi l hi=>?_⟩;cases i with
 |zero =>
  simp at hi;subst hi;exact⟨_,rfl,Bw _ _ _ _⟩
 |succ i=>simp at hi
section
variable {w:I} {ops:Array Oper} {rest:List Oper} {o:Oper} {a:Act} {Q:b6->Act->I->Prop}
def m7 (hgd:o.guard=J)(s x:bD)(ho:o.op=.call { callee:=.builtin .append,args:=#[s,x],argTypes:=#[22,22] })
  (base B:Nat) (v u:F) (n m:Nat) (xs ys:List F) (hs:a.eval s=v) (zm:w.ownsRow base 3 1 v n xs) (hx:a.eval x=u) (hu:w.ownsRow B 3 1 u m ys) (hy:∀y∈ys,y.oneCell'=bq)
  (hn:n+m<=1048576) (hbase:base<=w.heap.size) (h:∀v' w',w'.ownsRow base 3 1 v' (n+m) (xs++ys)->w.grownBy w' v.ownBlock->w.drawn<=w'.drawn->wpList DU ops Q rest (a.put o.dst v') w'):wpList DU ops Q (o::rest) a w:=by
 obtain⟨i0,hi,zF,zE,zD⟩:=bs Ds;have hl:=hu.1;obtain⟨rfl,h0⟩|⟨g,c,cur,rfl,h1,h2,h3⟩:=hu.2
 .subst h0;have e:ys=[]:=Bc (by omega);subst e;refine wpList_append_own_none hgd s x 22 ho base 3 i0 1 Sq.underlying22 hi v n xs hs zm hx ?_;exact h v w (by simpa using zm) (World.grownBy.refl w _) (AA _)
 .exact EA hgd s x 22 ho base 3 i0 (C O 0) 1 8 Sq.underlying22 hi zF zE zD rfl (by decide) v n xs hs zm ⟨g,0,J⟩ m c ys hx (by omega) (λj u hj=>hu.cells (g:=g) rfl j u hj) hy (by unfold maxLen;omega) (by omega) hbase h
def pt {t e:bl}(ht:DU.underlying t=U (.slice e))(he:(DU.info? e).map (λi=>(i.zero,i.size,i.bytes))=U (U (.slice J 0 0),1,24))(hgd:o.guard=J)(s x:bD)(ho:o.op=.call { callee:=.builtin .append,args:=#[s,x],argTypes:=#[t,t] })
  (base:Nat) (v:F) (n:Nat) (xs:List F) (hs:a.eval s=v) (zm:w.ownsRow base e 1 v n xs) (ad:bc) (c:Nat) (u:F) (hx:a.eval x=.slice (U ad) 1 c) (hc:w.cell? (ad.add 0)=U u) (h1:u.oneCell'=bq)
  (hn:n<=1048576) (hbase:base<=w.heap.size) (h:∀v' w',w'.ownsRow base e 1 v' (n+1) (xs++[u])->w.grownBy w' v.ownBlock->w.drawn<=w'.drawn->(v'.ownBlock=v.ownBlock\/v'.ownBlock=U w.heap.size)->wpList DU ops Q rest (a.put o.dst v') w'):wpList DU ops Q (o::rest) a w:=by
 obtain⟨i0,hi,zF,zE,zD⟩:=bs he;refine wpList_plain hgd λK hK=>?_
 obtain⟨v',w',hr,h2,h3,_,h5⟩:=run_append_own_at (P:=DU) w base t o.type e i0 _ 1 24 ht hi zF zE zD rfl (by decide) v n xs zm ad 1 c [u] rfl (λj y hj=>by
  match j,hj with
  |0,hj=>cases hj;exact hc) (λy hy=>by
  simp only[AJ,AG,or_false] at hy
  subst hy;exact h1) (by unfold maxLen;omega) (by omega) hbase
 have hd:=Go.Eu.Gf DU (M #[t,t] o.type #[v,.slice (U ad) 1 c]) w #[];rw[Sem.runT_fst,hr] at hd;unfold Oper.wp execOp;simp only[ho,resolve,invoke,builtin,Sem.run_bind,Sem.run_pure,Result.andThen_ok,Cr,Cd,CG,hs,hx,hr];exact hK _ _ (h v' w' h2 h3 hd h5)
end
def cells_one {w:I}{v:F}{t:bl}:(w.alloc (E #[v] t)).cell? ((⟨w.heap.size,0,J⟩:bc).add 0)=U v:=by
 rw[bk,AE _ _ _ _ (by simp)];rfl
def pu (w:I){base:Nat}(hb:base<=w.heap.size)(x:Int):(w.alloc (E #[C O x] 3)).ownsRow base 3 1 (.slice (U ⟨w.heap.size,0,J⟩) 1 1) 1 [C O x] :=
 ⟨rfl,.inr ⟨w.heap.size,1,_,rfl,hb,heap_alloc_new _ _,AA _,by unfold maxLen;simp,rfl,rfl⟩⟩
def pv (l:List Int):∀y∈l.map (C O),y.oneCell'=true:=λy hy=>by
 obtain⟨x,_,rfl⟩:=Bf.1 hy;rfl
def KY {wr w2 w3:I}{b1 b2:Nat}{v vr v' u:F}{L R:List (List Int)}{xs rs:List F}{l:List Int}(ho:Ec wr b1 v L xs)(hr:Ec wr b2 vr R rs)(hap:∀g,vr.ownBlock=U g->U g≠v.ownBlock)
  (g2:Gr wr w2) (hu:w2.ownsRow wr.heap.size 3 1 u l.length (l.map (C O))) (hb1:b1<=wr.heap.size) (hg:(w2.alloc (E #[u] 22)).grownBy w3 v.ownBlock) (zm:w3.ownsRow b1 22 1 v' (L.length+1) (xs++[u])) (hd:(w2.alloc (E #[u] 22)).drawn<=w3.drawn) (hv:v'.ownBlock=v.ownBlock\/v'.ownBlock=U (w2.heap.size+1)) :
  Ec w3 b1 v' (L++[l]) (xs++[u])/\Ec w3 b2 vr R rs/\(∀g,vr.ownBlock=U g->U g≠v'.ownBlock):=by
 have a6:=ho.gr g2;have zz:=hr.gr g2;refine⟨a6.push (Fe hu hb1) (λb hb=>ae _ _ hb) (by simp) hg rfl zm,(zz.gr ((Gr.refl _).alloc _)).grow (ar a6.row λg _ hl=>ae _ _ hl) hap hg,λg a7 e=>?_⟩;obtain hv|hv:=hv
 .exact hap g a7 (e.trans hv)
 .have h1:=(zz.row.lt g a7).2;rw[hv] at e;have e2:g=w2.heap.size+1:=by injection e
  omega
def sV (n k:Nat):[[]]++(subs n k).tail=subs n k:=by cases k<;>rfl
def sW {n j:Nat}(hj:j<n):(subs n (n-j)).tail=(subs n (n-j-1)).map ((j:Int)::·)++(subs n (n-j-1)).tail:=by
 obtain⟨k,hk⟩:∃k,n-j=k+1:=⟨n-j-1,by omega⟩;rw[hk];show(subs n k).map (((n-(k+1):Nat):Int)::·)++_=_;rw[show n-(k+1)=j by omega]
 rfl
def m8:∀n,n<=4->∀k,k<=n->(subs n k).length<=16:=by decide
def uQ (n k:Nat):∀x∈subs n k,x.length<=k:=by
 induction k with
 |zero=>intro x hx;simp[subs] at hx;simp[hx]
 |succ k ih =>
  intro x hx;simp only[subs,AJ,Bp,Bf] at hx;obtain rfl|⟨y,hy,rfl⟩|hx:=hx
  .simp
  .have:=ih y hy;simp;omega
  .have:=ih x (List.mem_of_mem_tail hx);omega
def _root_.Go.Sq.Ec.at_ {w:I}{base g m c:Nat}{R:List (List Int)}{rs:List F}(h:Ec w base (.slice (U ⟨g,0,J⟩) m c) R rs){q:Nat}(hq:q<R.length):∃A k,w.cell? ⟨g,q,J⟩=U (Z A R[q].length k)/\w.ownsRow base 3 1 (Z A R[q].length k) R[q].length (R[q].map (C O)):=by
 obtain⟨y,h1,h2⟩:=h.cells q _ (AB hq);obtain⟨A,k,rfl⟩:=E9 h2;have:=h.row.cells (g:=g) rfl q _ h1;rw[bk,AO] at this;exact⟨A,k,this,h2⟩
def _root_.Go.Sq.Ec.form {w:I}{base:Nat}{v:F}{R:List (List Int)}{rs:List F}(h:Ec w base v R rs)(hn:0<R.length):∃g c,v=.slice (U ⟨g,0,J⟩) R.length c/\base<=g/\g<w.heap.size:=by
 obtain⟨_,h0⟩|⟨g,cap,cur,hv,hb,hg,_⟩:=h.row.2
 .omega
 .exact⟨g,cap,hv,hb,(Az.1 hg).1⟩
structure Fo (w:I)(base:Nat)(v:F)(L:List (List (List Int)))(xs:List F):Prop where
 row:w.ownsRow base 26 1 v L.length xs
 cells:∀(i:Nat) (ls:List (List Int)),L[i]?=U ls->∃u ys,xs[i]?=U u/\Ec w base u ls ys
def Fo.nil (w:I)(base:Nat):Fo w base (.slice J 0 0) [] []:=⟨Bw _ _ _ _,λi l h=>by simp at h⟩
def Fo.gr {w w':I}{base:Nat}{v:F}{L:List (List (List Int))}{xs:List F}(h:Fo w base v L xs)(hg:Gr w w'):Fo w' base v L xs :=
 ⟨ar h.row λg _ hl=>hg.below.block g hl,λi l hi=>by
  obtain⟨u,ys,h1,h2⟩:=h.cells i l hi
  exact⟨u,ys,h1,h2.gr hg⟩⟩
def Ec.past {w w':I}{b1 b2 n s:Nat}{e:bl}{u v:F}{ls:List (List Int)}{rs xs:List F}(a6:(22:bl)≠e)(h3:(3:bl)≠e)(h:Ec w b1 u ls rs)(hv:w.ownsRow b2 e s v n xs)(hg:w.grownBy w' v.ownBlock):Ec w' b1 u ls rs :=
 ⟨ar h.row λg hu hl=>hg.block g hl (cj a6 h.row hv hu),λi l hi=>by
  obtain⟨y,h1,h2⟩:=h.cells i l hi
  exact⟨y,h1,ar h2 λg hu hl=>hg.block g hl (cj h3 h2 hv hu)⟩⟩
def Fo.form {w:I}{base:Nat}{v:F}{L:List (List (List Int))}{xs:List F}(h:Fo w base v L xs)(hn:0<L.length):∃g c,v=.slice (U ⟨g,0,J⟩) L.length c/\base<=g/\g<w.heap.size:=by
 obtain⟨_,h0⟩|⟨g,cap,cur,hv,hb,hg,_⟩:=h.row.2
 .omega
 .exact⟨g,cap,hv,hb,(Az.1 hg).1⟩
def _root_.Go.Sq.Fo.at_ {w:I}{base g m c:Nat}{R:List (List (List Int))}{rs:List F}(h:Fo w base (.slice (U ⟨g,0,J⟩) m c) R rs){q:Nat}(hq:q<R.length):∃A k ys,w.cell? ⟨g,q,J⟩=U (Z A R[q].length k)/\Ec w base (Z A R[q].length k) R[q] ys:=by
 obtain⟨y,ys,h1,h2⟩:=h.cells q _ (AB hq);obtain⟨A,k,rfl⟩:=E9 h2.row;have:=h.row.cells (g:=g) rfl q _ h1;rw[bk,AO] at this;exact⟨A,k,ys,this,h2⟩
def DQ:(DU.info? 26).map (λi=>(i.zero,i.size,i.bytes))=U (U (.slice J 0 0),1,24):=by
 rw[Do];kernel_rfl
def iG {x:Nat}(v:Nat)(hv:v<4):((v:Int)∈wl x)↔x.testBit v=true:=by
 constructor
 .intro h;obtain⟨n,e,_,h⟩:=Kf h;obtain rfl:v=n:=by omega
  exact h
 .intro h;show _∈Eo x.testBit 4;exact FB.2 ⟨v,rfl,hv,h⟩
def sX (a b:EH)(k:Nat):FM a b k<=4*k:=by
 induction k with
 |zero=>exact AA _
 |succ k ih =>
  have:=aY (a k ^^^ b k);simp only[FM];omega
end Go.Sq
