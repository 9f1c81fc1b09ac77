/- Parts of the proof. -/
import Derived.Test.YtghipmneleifpaaGreatP19
import Derived.Test.YtghipmneleifpaaGreatP20
import Derived.Test.YtghipmneleifpaaGreatP00
import Derived.Test.YtghipmneleifpaaGreatP18
import Derived.Test.YtghipmneleifpaaGreatP12
import Derived.Test.YtghipmneleifpaaGreatP13
import Derived.Test.YtghipmneleifpaaGreatP14
import Derived.Test.YtghipmneleifpaaGreatP15
set_option linter.all false
set_option maxHeartbeats 6400000
set_option maxRecDepth 1000000
open Go.Value renaming slice->a6,int->bc,pointer->bl
open Option renaming none->a7,some->a8
open Go renaming World->bb,Value->bh,wpOps_cons->bo,Addr->bs,bodyPost_ret->bA,TypeId->b7,Calls->b8,Ending->cu
open Go.IntKind renaming i64->bk
open Go.Obj renaming cells->bn
open List renaming exists_cons_of_ne_nil->bq,length_pos_iff->b6,range'->cr
open Go.World renaming setCell->br
open Go.Proofs renaming intOf->bw
open Go.Builtin renaming append_->bD
open Go.Code renaming region->bW
open Go.Proofs.Tryz renaming results13->b5,f37->b9
open Bool renaming false->cf,true->cq
namespace Go.Sq
open Go.Proofs
open Go.RowKit
def Nv (base B:Nat)(c:Cc)(v:bh)(w:bb):Prop:=B<=w.heap.size/\∃xs,w.ownsRow base 28 4 v c.B2.length xs/\∀(i:Nat) (h:CF),c.B2[i]?=a8 h->∃y,(∀j,j<4->xs[i*4+j]?=(cW h y)[j]?)/\∃A cc,y=a6 A h.off.length cc/\RI w B A h.off
def r6 (base B:Nat)(c:Cc):IK Gr (Nv base B c):=λv w w' hg ⟨hB,xs,h,ho⟩=>⟨yR hB hg.size,xs,al h λb _ hb=>hg.below.block b hb,λi x hx=>by
 obtain⟨y,h1,A,cc,e,hr⟩:=ho i x hx
 exact⟨y,h1,A,cc,e,hr.gr hB hg⟩⟩
def mX (e s base:Nat)(v:bh)(w:bb):Prop:=∃b,v=.slice (a8 ⟨b,0,a7⟩) 0 0/\w.ownsRow base e s (.slice (a8 ⟨b,0,a7⟩) 0 0) 0 []
def nW (e s base:Nat):IK Gr (mX e s base):=λ_ _ _ hg ⟨b,e,h⟩=>⟨b,e,al h λb _ hl=>hg.below.block b hl⟩
def qg {w:bb}{e s base:Nat}(hg:base<=w.heap.size):mX e s base (.slice (a8 ⟨w.heap.size,0,a7⟩) 0 0) (w.alloc (bn #[] e)):=⟨_,rfl,by simp,.inr ⟨w.heap.size,0,#[],rfl,hg,heap_alloc_new w _,yL _,zf _,by simp,by simp⟩⟩
def OO {w:bb}{base b B hc:Nat}{hA:Option bs}{c:Cc}(h0:w.ownsRow base 28 4 (.slice (a8 ⟨b,0,a7⟩) 0 0) 0 [])(hB:B<=w.heap.size)(hh:Db w B hA c.B2)(hl:c.B2.length<=20)(hbase:base<=w.heap.size) :
  ∃v' w',(bD #[23,23] 23 #[.slice (a8 ⟨b,0,a7⟩) 0 0,a6 hA c.B2.length hc]).run B1 w=.ok v' w'/\Gr w w'/\Nv base B c v' w':=by
 have ht:=Sq.underlying23;obtain⟨i0,hi,hz0,hz1,hz2⟩:=info_parts BD;by_cases hn:c.B2=[]
 .refine⟨.slice (a8 ⟨b,0,a7⟩) 0 0,w,?_,.refl w,hB,[],by rw[hn];exact h0,λi x hx=>by rw[hn] at hx;simp at hx⟩;rw[hn];cases hA<;>simp[bD,run_underlying ht,sizeOf,typeInfo,hi,Builtin.lenOf,Builtin.firstCells,loadCells,loadCellsFrom,storeCells]
 .have Ld:=b6.2 hn;obtain⟨a,o,rfl,hb,hcs⟩:=hh hn;have hcell:∀j,j<c.B2.length*4->∃u,w.cell? ⟨a,o+j,a7⟩=a8 u/\u.oneCell'=true:=λj hj=>by
   obtain⟨h1,h2,h3,A,cc,h4,_⟩:=hcs (j / 4) _ (yM (show j / 4<c.B2.length by omega));have:j % 4=0\/j % 4=1\/j % 4=2\/j % 4=3:=by omega
   rcases this with e|e|e|e
   .rw[show o+j=o+j / 4*4 by omega];exact⟨_,h1,rfl⟩
   .rw[show o+j=o+j / 4*4+1 by omega];exact⟨_,h2,rfl⟩
   .rw[show o+j=o+j / 4*4+2 by omega];exact⟨_,h3,rfl⟩
   .rw[show o+j=o+j / 4*4+3 by omega];exact⟨_,h4,rfl⟩
  have hnews:∀j v,(GZ w a o c.B2.length)[j]?=a8 v->w.cell? ((⟨a,o,a7⟩:bs).add j)=a8 v:=λj u hj=>by
   have hlt:j<c.B2.length*4:=by have:=(ze.1 hj).1;rwa [FX] at this
   rw[fD hlt] at hj;obtain⟨v,hv,_⟩:=hcell j hlt;rw[hv] at hj;rw[Addr.add_lit,hv];exact hj
  obtain⟨v',w',hr,h2,_⟩:=run_append_own (P:=B1) w base 23 23 28 i0 _ 4 48 ht hi hz0 hz1 hz2 rfl (by decide) _ 0 [] h0 ⟨a,o,a7⟩ c.B2.length hc (GZ w a o c.B2.length) (FX _ _ _ _) hnews (λu hu=>by
   obtain⟨j,hj,rfl⟩:=zu.1 hu;obtain⟨v,hv,h1⟩:=hcell j (zB.1 hj)
   rw[hv];exact h1) (by unfold maxLen;omega) (by omega) hbase
  have hr2:=run_append_grow (P:=B1) w 23 23 28 i0 _ ht hi hz0 ⟨b,0,a7⟩ 0 0 [] (by simp) (λj u hj=>by simp at hj) ⟨a,o,a7⟩ c.B2.length hc (GZ w a o c.B2.length) (by rw[hz1];exact FX _ _ _ _) hnews (by omega) (by omega) (by
   rw[hz2];exact growslice_fits (by omega) (by omega))
  rw[hr] at hr2;injection hr2 with _ e2
  have hg:Gr w w':=e2▸(Gr.refl w).drew.alloc _;refine⟨v',w',hr,hg,yR hB hg.size,_,by simpa using h2,λi x hx=>?_⟩;obtain⟨a1,a2,a3,A,cc,a4,Em⟩:=hcs i x hx;have YP:i<c.B2.length:=(ze.1 hx).1;refine⟨a6 A x.off.length cc,λj hj=>?_,A,cc,rfl,Em.gr hB hg⟩;rw[fD (by omega)];rcases(show j=0\/j=1\/j=2\/j=3 by omega) with rfl|rfl|rfl|rfl
  .rw[Nat.add_zero,a1];rfl
  .rw[<-AJ,a2];rfl
  .rw[<-AJ,a3];rfl
  .rw[<-AJ,a4];rfl
def DR {w:bb}{base size n:Nat}{e:b7}{v:bh}{xs:List bh}(h:w.ownsRow base e size v n xs):∃A c,v=a6 A n c:=by
 rcases h.2 with⟨rfl,rfl⟩|⟨g,c,_,rfl,_⟩
 .exact⟨_,_,rfl⟩
 .exact⟨_,_,rfl⟩
structure CC (w:bb)(B q:Nat)(c:Cc)(vN vH:bh)(xs:List bh)(k:Nat)(W:bb):Prop where
 gr:Gr w W
 bd:w.heap.size=q/\q+2<=W.heap.size
 qo:W.heap[q]?=a8 (bn #[vN,vH] 25 (0,0))
 ro:W.heap[q+1]?=a8 (bn #[.slice a7 0 0,.slice a7 0 0] 25 (0,0))
 B3:W.ownsRow (q+2) 3 1 vN c.B3.length (c.B3.map (bc bk))
 own:W.ownsRow (q+2) 28 4 vH c.B2.length xs
 Jf:∀i h,c.B2[i]?=a8 h->∃y,(∀j,j<4->xs[i*4+j]?=(cW h y)[j]?)/\if i<k then W.ownsRow (q+2) 3 1 y h.off.length (h.off.map (bc bk)) else ∃A cc,y=a6 A h.off.length cc/\RI W B A h.off
section
variable {w W W':bb} {B q:Nat} {c:Cc} {vN vH:bh} {xs:List bh} {k:Nat}
def CC.keep (h:CC w B q c vN vH xs k W)(hB:B<=w.heap.size)(hg:Gr W W'):CC w B q c vN vH xs k W':=by
 obtain⟨b1,b2⟩:=h.bd;have ok:∀ {e:b7} {sz n:Nat} {y:bh} {zs:List bh},W.ownsRow (q+2) e sz y n zs->W'.ownsRow (q+2) e sz y n zs:=λho=>al ho λg _ hl=>hg.below.block g hl;refine⟨h.gr.trans hg,⟨b1,by have:=hg.size;omega⟩,(hg.below.block q (by omega)).trans h.qo,(hg.below.block (q+1) (by omega)).trans h.ro,ok h.B3,ok h.own,λi x hx=>?_⟩;obtain⟨y,h1,h2⟩:=h.Jf i x hx;refine⟨y,h1,?_⟩;split
 .rename_i hi;rw[if_pos hi] at h2;exact ok h2
 .rename_i hi;rw[if_neg hi] at h2;obtain⟨A,cc,e,hr⟩:=h2;exact⟨A,cc,e,hr.gr (by omega) hg⟩
def CC.start {u0 u1:bh}(hg:Gr w W)(hB:B<=w.heap.size)(hq:w.heap.size=q)(hz:q+2<=W.heap.size)(h0:W.heap[q]?=a8 (bn #[u0,u1] 25 (0,0)))(h1:W.heap[q+1]?=a8 (bn #[.slice a7 0 0,.slice a7 0 0] 25 (0,0)))
  (hn:W.ownsRow (q+2) 3 1 vN c.B3.length (c.B3.map (bc bk))) (ho:Nv (q+2) B c vH W):∃xs,CC w B q c vN vH xs 0 ((W.setCell ⟨q,0,a7⟩ vN).setCell ⟨q,1,a7⟩ vH):=by
 obtain⟨_,xs,ho,hc⟩:=ho;have hs:∀x,x≠q->((W.setCell ⟨q,0,a7⟩ vN).setCell ⟨q,1,a7⟩ vH).heap[x]?=W.heap[x]?:=λx KY=>(yU _ _ _ _ KY).trans (yU _ _ _ _ KY);refine⟨xs,(hg.setCell (by show _<=q;omega) _).setCell (by show _<=q;omega) _,⟨hq,by simpa [br] using hz⟩,?_,(hs _ (by omega)).trans h1,al hn λg EE _=>hs g (by have:=(hn.lt g EE).1;omega),al ho λg EE _=>hs g (by have:=(ho.lt g EE).1;omega),λi x hi=>?_⟩
 .rw[Cz (Cz h0)];rfl
 .obtain⟨y,h1,A,cc,e,hr⟩:=hc i x hi;exact⟨y,h1,by rw[if_neg (by omega)];exact⟨A,cc,e,hr.keep λb' o' hb'=>zd (hs b' (by omega))⟩⟩
def CC.put {g hc:Nat}{y':bh}(h:CC w B q c vN (.slice (a8 ⟨g,0,a7⟩) c.B2.length hc) xs k W)(hB:B<=w.heap.size)(hk:k<c.B2.length)(hy:W.ownsRow (q+2) 3 1 y' (c.h k).off.length ((c.h k).off.map (bc bk))) :
  CC w B q c vN (.slice (a8 ⟨g,0,a7⟩) c.B2.length hc) (xs.set (k*4+3) y') (k+1) (W.setCell ⟨g,k*4+3,a7⟩ y'):=by
 obtain⟨b1,b2⟩:=h.bd;have hgb:=h.own.lt g rfl;have hlen:xs.length=c.B2.length*4:=h.own.1;have hs:∀b,b≠g->(W.setCell ⟨g,k*4+3,a7⟩ y').heap[b]?=W.heap[b]?:=λb hb=>yU _ _ _ _ hb;have ok:∀ {sz n:Nat} {y:bh} {zs:List bh},W.ownsRow (q+2) 3 sz y n zs->(W.setCell ⟨g,k*4+3,a7⟩ y').ownsRow (q+2) 3 sz y n zs:=λho=>al ho λb hb _=>hs b λe=>be (by decide) ho h.own hb (by rw[e];rfl);refine⟨h.gr.setCell (by show _<=g;omega) _,⟨b1,by simpa [br] using b2⟩,(hs q (by omega)).trans h.qo,(hs (q+1) (by omega)).trans h.ro,ok h.B3,(h.own.stored (k*4+3) y').1,λi x hx=>?_⟩
 obtain⟨y,h1,h2⟩:=h.Jf i x hx;by_cases e:i=k
 .subst e;have ex:x=c.h i:=by
   unfold Cc.h;rw[hx];rfl
  refine⟨y',λj hj=>?_,by rw[if_pos (by omega),ex];exact ok hy⟩;by_cases e3:j=3
  .subst e3;rw[List.getElem?_set_self (by omega)];rfl
  .rw[AS (by omega),h1 j hj];rcases(show j=0\/j=1\/j=2 by omega) with rfl|rfl|rfl<;>rfl
 .refine⟨y,λj hj=>by rw[AS (by omega)];exact h1 j hj,?_⟩;by_cases hi:i<k
  .rw[if_pos hi] at h2;rw[if_pos (by omega)];exact ok h2
  .rw[if_neg hi] at h2;rw[if_neg (by omega)];obtain⟨A,cc,e4,hr⟩:=h2;exact⟨A,cc,e4,hr.keep λb o hb=>zd (hs b (by omega))⟩
end
noncomputable def km:Code:=Tryz.f11.body.getD .skip
noncomputable def OP:Code:=DC 2 km
structure Eb (w:bb)(base:Nat)(c:Cc)(vN vH:bh)(xs:List bh):Prop where
 B3:w.ownsRow base 3 1 vN c.B3.length (c.B3.map (bc bk))
 own:w.ownsRow base 28 4 vH c.B2.length xs
 Jf:∀(i:Nat) (h:CF),c.B2[i]?=a8 h->∃y,(∀j,j<4->xs[i*4+j]?=(cW h y)[j]?)/\w.ownsRow base 3 1 y h.off.length (h.off.map (bc bk))
def iQ (c:Cc)(w:bb)(e:cu)(w':bb):Prop :=
 Gr w w'/\∃QV hA' UH hc' xs,e=.returned (Cj QV hA' c UH hc')/\Eb w' w.heap.size c (a6 QV c.B3.length UH) (a6 hA' c.B2.length hc') xs
def mY (c:Cc)(w:bb)(e:cu)(w':bb):Prop :=
 Gr w w'/\∃QV hA' UH hc',e=.returned (Cj QV hA' c UH hc')/\Hb w' (λb=>w.heap.size<=b/\b<w'.heap.size) QV c.B3/\EZ w' (λb=>w.heap.size<=b/\b<w'.heap.size) hA' c.B2
def Eb.rik {w:bb}{base nc:Nat}{c:Cc}{nA:Option bs}{vH:bh}{xs:List bh}(h:Eb w base c (a6 nA c.B3.length nc) vH xs):Hb w (λb=>base<=b/\b<w.heap.size) nA c.B3:=by
 obtain⟨A,k,e,hr⟩:=FY h.B3;injection e with e1 _ _
 subst e1;exact hr
def Eb.hsk {w:bb}{base hc:Nat}{c:Cc}{hA:Option bs}{vN:bh}{xs:List bh}(h:Eb w base c vN (a6 hA c.B2.length hc) xs):EZ w (λb=>base<=b/\b<w.heap.size) hA c.B2:=λhn=>by
 obtain⟨g,cap,e,hgb,Jn⟩:=h.own.form (b6.2 hn);injection e with e1 _ _
 subst e1;refine⟨g,0,rfl,⟨hgb,Jn⟩,λi x hx=>?_⟩;have YP:i<c.B2.length:=(ze.1 hx).1;obtain⟨y,hy,Zh⟩:=h.Jf i x hx;obtain⟨A',c',rfl,hr⟩:=FY Zh;have UO:xs.length=c.B2.length*4:=h.own.1;have at_:∀j z,j<4->(cW x (a6 A' x.off.length c'))[j]?=a8 z->w.cell? ⟨g,0+i*4+j,a7⟩=a8 z:=λj z hj4 hz=>by
  rw[show 0+i*4+j=i*4+j by omega,h.own.cellAt (i*4+j) (by omega),hy j hj4];exact hz
 exact⟨at_ 0 _ (by omega) rfl,at_ 1 _ (by omega) rfl,at_ 2 _ (by omega) rfl,A',c',at_ 3 _ (by omega) rfl,hr⟩
def r7 {c:Cc}{w w':bb}{e:cu}(h:iQ c w e w'):mY c w e w':=by
 obtain⟨h1,nA,hA,nc,hc,xs,rfl,h2⟩:=h;exact⟨h1,nA,hA,nc,hc,rfl,h2.rik,h2.hsk⟩
def qh {w W:bb}{B QW hc9:Nat}{c:Cc}{QX Ug:Option bs}{xs:List bh}(h:CC w B w.heap.size c (a6 QX c.B3.length QW) (a6 Ug c.B2.length hc9) xs c.B2.length W)(hB:B<=w.heap.size)(v0 v1:bh) :
  iQ c w (.returned (Cj QX Ug c QW hc9)) ((W.setCell ⟨w.heap.size+1,0,a7⟩ v0).setCell ⟨w.heap.size+1,1,a7⟩ v1):=by
 have hs:∀b,b≠w.heap.size+1->((W.setCell ⟨w.heap.size+1,0,a7⟩ v0).setCell ⟨w.heap.size+1,1,a7⟩ v1).heap[b]?=W.heap[b]?:=λb hb=>(yU _ _ _ _ hb).trans (yU _ _ _ _ hb);have ok:∀ {e:b7} {s n:Nat} {v:bh} {zs:List bh},W.ownsRow (w.heap.size+2) e s v n zs->((W.setCell ⟨w.heap.size+1,0,a7⟩ v0).setCell ⟨w.heap.size+1,1,a7⟩ v1).ownsRow w.heap.size e s v n zs:=λho=>Dp (al ho λg hg _=>hs g (by have:=(ho.lt g hg).1;omega)) (by omega)
 refine⟨(h.gr.setCell (by show _<=w.heap.size+1;omega) _).setCell (by show _<=w.heap.size+1;omega) _,_,_,_,_,xs,rfl,ok h.B3,ok h.own,λi x hx=>?_⟩;obtain⟨y,hy,Zh⟩:=h.Jf i x hx;rw[if_pos (ze.1 hx).1] at Zh;exact⟨y,hy,ok Zh⟩
noncomputable def Nw:Array Oper:=match EF (match EF (Hx (match(match Hx (EF OP) with|.block _ b=>b|c=>c) with|.loop b=>b|c=>c)) with|.block _ b=>b|c=>c) with|.region _ o _=>o|_=>#[]
def Zi (w0:bb)(nq:Nat)(L:List bh)(v:bh)(w:bb):Prop:=∃A k,v=a6 A nq k/\w.ownsRow w0.heap.size 3 1 v nq L
def lC (w0:bb)(nq:Nat)(L:List bh):IK Gr (Zi w0 nq L):=λv w w' hg ⟨A,k,e,h⟩=>⟨A,k,e,al h λb _ hb=>hg.below.block b hb⟩
def tU {A:Option bs}{q g k n nq cc hc9:Nat}{L:List bh}{W:bb}{u:Nat->bh}{Q:Exit->Act->bb->Prop}(h1:u 1=.pointer (a8 ⟨q,0,a7⟩))(h3:u 3=bc bk (k:Nat))(hk:k<n)
  (HC:Hid (∀V,Gr W V->(V.cell? ⟨q,1,a7⟩=a8 (.slice (a8 ⟨g,0,a7⟩) n hc9)/\V.cell? ⟨g,k*4+3,a7⟩=a8 (a6 A nq cc)/\V.frozen? ⟨g,k*4+3,a7⟩=cf)/\q<V.heap.size/\g<V.heap.size))
  (HQ:Hid (∀V,Gr W V->b8 B1 33 #[a6 A nq cc] V λe w'=>∃v,e=.returned v/\w'.ownsRow V.heap.size 3 1 v nq L/\Gr V w'))
  (hK:∀W5 u' A5 k5,Gr W W5->W5.ownsRow W.heap.size 3 1 (a6 A5 nq k5) nq L->(∀t,Fl Nw t=cq->u' t=u t)->Q .normal ⟨T 33 u',[]⟩ (W5.setCell ⟨g,k*4+3,a7⟩ (a6 A5 nq k5))):(bW 5 Nw cq).wp B1 Q ⟨T 33 u,[]⟩ W:=by
 refine dQ (R:=Gr) (m:=10) (by kernel_rfl) [λv _=>v=.pointer (a8 ⟨q,1,a7⟩),λv _=>v=.slice (a8 ⟨g,0,a7⟩) n hc9,λv _=>v=bc bk (k:Nat),λv _=>v=.pointer (a8 ⟨q,1,a7⟩),λv _=>v=.slice (a8 ⟨g,0,a7⟩) n hc9,λv _=>v=bc bk (k:Nat),λv _=>v=.pointer (a8 ⟨g,k*4,a7⟩),λv _=>v=.pointer (a8 ⟨g,k*4+3,a7⟩),λv _=>v=a6 A nq cc,Zi W nq L] ⟨aa _,aa _,aa _,aa _,aa _,aa _,aa _,aa _,aa _,lC _ _ _,trivial⟩ ⟨⟨⟨⟨⟨⟨⟨⟨⟨⟨trivial,?_⟩,?_⟩,?_⟩,?_⟩,?_⟩,?_⟩,?_⟩,?_⟩,?_⟩,?_⟩ λu w hg hf hv=>?_
 .intro u w hg hf hl hd;exact bJ rfl ((hf.at_ 1).trans h1)
 .intro u w hg hf hl hd;obtain⟨⟨c0,c1,f1⟩,cl,rl⟩:=HC.out w hg;exact aS rfl (hd.at_ 0 20) (by assumption)
 .intro u w hg hf hl hd;exact ai rfl ((hf.at_ 3).trans h3)
 .intro u w hg hf hl hd;exact bJ rfl ((hf.at_ 1).trans h1)
 .intro u w hg hf hl hd;obtain⟨⟨c0,c1,f1⟩,cl,rl⟩:=HC.out w hg;exact aS rfl (hd.at_ 3 23) (by assumption)
 .intro u w hg hf hl hd;exact ai rfl ((hf.at_ 3).trans h3)
 .intro u w hg hf hl hd;exact aU 4 rfl (hd.at_ 4 24) (hd.at_ 5 25)
 .intro u w hg hf hl hd;exact bJ rfl (hd.at_ 6 26)
 .intro u w hg hf hl hd;obtain⟨⟨c0,c1,f1⟩,cl,rl⟩:=HC.out w hg;exact aS rfl (hd.at_ 7 27) (by assumption)
 .intro u w hg hf hl hd;refine bf rfl Sq.func33 #[a6 A nq cc] (λev he=>by simp[((he.t 28).trans (hd.at_ 8 28))]) ((HQ.out w hg).mono λe w' h=>?_)
  .obtain⟨v,rfl,h1,h2⟩:=h;obtain⟨A5,k5,rfl⟩:=DR h1;exact⟨_,rfl,h2,A5,k5,rfl,Dp h1 hg.size⟩
 .obtain⟨A5,k5,e29,ho⟩:=hv.at_ 9 29;have e21:=hv.at_ 1 21;have OJ:=hv.at_ 2 22;have er:cr 10 (Nw.size-10)=[10,11,12]:=by kernel_rfl
  obtain⟨⟨c0,c1,f1⟩,cl,rl⟩:=HC.out w hg;rw[er,bo];refine dJ (op:=.indexAddr 23 (.tmp 21) (.tmp 22)) (t:=0) rfl (.pointer (a8 ⟨g,k*4,a7⟩)) w (λev he=>?_) ?_
  .have e1:=(he.t 21).trans e21;have e2:=(he.t 22).trans OJ;clear hv hf hg he hK ho;go_simp
   all_goals (intro h9;omega)
  .rw[bo];refine dJ (op:=.fieldAddr 28 (.tmp 30) 3) (t:=0) rfl (.pointer (a8 ⟨g,k*4+3,a7⟩)) w (λev he=>?_) ?_
   .have e1:=(he.t 30).trans (az ..);clear hv hf hg he hK ho;go_simp
   .rw[bo];refine fY (op:=.store 22 (.tmp 31) (.tmp 29)) (t:=0) rfl (w.setCell ⟨g,k*4+3,a7⟩ (a6 A5 nq k5)) (λev he=>?_) ?_
    .have e1:=(he.t 31).trans (az ..);have e2:=(he.t 29).trans ((CU (by decide)).trans ((CU (by decide)).trans e29));clear hv hf hg he hK ho;go_simp
    .show Q .normal _ _;have f30:Fl Nw 30=false:=by kernel_rfl
     have f31:Fl Nw 31=false:=by kernel_rfl
     exact hK _ _ A5 k5 hg (e29▸ho) λt ht=>(CU λe=>by rw[e,f31] at ht;cases ht).trans ((CU λe=>by rw[e,f30] at ht;cases ht).trans (hf t ht))
def qi {w W:bb}{B QW hc9:Nat}{c:Cc}{QX Ug:Option bs}{xs0:List bh}{u:Nat->bh}(h1:u 1=.pointer (a8 ⟨w.heap.size,0,a7⟩))(h2:u 2=.pointer (a8 ⟨w.heap.size+1,0,a7⟩))(hB:B<=w.heap.size)(hl2:c.B2.length<=20)(DN:∀h∈c.B2,h.off.length<=20)
  (h:CC w B w.heap.size c (a6 QX c.B3.length QW) (a6 Ug c.B2.length hc9) xs0 0 W):OP.wp B1 (bodyPost B1 Tryz.f11 (iQ c w)) ⟨T 33 u,[]⟩ W:=by
 have HXS:=yJ h;have Qd:=yJ DN;clear h DN;have ez:OP=DC 2 km:=rfl;simp only[DC,km,Tryz.f11,zc,Hx] at ez;rw[ez];clear ez;unfold T;simp only[List.range,List.range.loop,Ae,Ag,h1,h2];go_wp2;go_loopw [3] (λi wr=>∃k:Nat,k<=c.B2.length/\i=bc bk k/\∃xs,CC w B w.heap.size c (a6 QX c.B3.length QW) (a6 Ug c.B2.length hc9) xs k wr) (λi _=>c.B2.length-(bw i).toNat)
 case atStart=>exact⟨0,by omega,rfl,_,HXS.out⟩
 case round =>
  obtain⟨k,hk,rfl,xs,hcc⟩:=hrel;have PD:=yJ hcc;obtain⟨s0,s1⟩:=cell_of_heap hcc.qo 1;obtain⟨s2,_⟩:=cell_of_heap hcc.qo 0;simp only[zA,zz,zr] at s0 s2;have hzz:=hcc.bd;have hql:w.heap.size<wr.heap.size:=by omega
  by_cases hlt:k<c.B2.length
  .obtain⟨g,cap,hv,hgb,Jn⟩:=hcc.own.form (by omega);injection hv with hv1 _ hv2
   subst hv1 hv2;have hce:c.B2[k]?=a8 (c.h k):=by unfold Cc.h;rw[yM hlt];rfl
   obtain⟨y,hy,Zh⟩:=hcc.Jf k _ hce;rw[if_neg (by omega)] at Zh;obtain⟨A,cc,rfl,Em⟩:=Zh;have UO:xs.length=c.B2.length*4:=hcc.own.1;have t0:wr.cell? ⟨g,k*4+3,a7⟩=a8 (a6 A (c.h k).off.length cc):=by
    rw[hcc.own.cellAt (k*4+3) (by omega)];exact hy 3 (by omega)
   have WO:=Qd.out _ (c.Gw hlt);have Il:=yJ (λW (hg:Gr wr W)=>gz A cc (c.h k).off W B (Em.gr (by omega) hg) (by have:=hg.size;omega) (by omega));have VC:Hid (∀W,Gr wr W->CC w B w.heap.size c (a6 QX c.B3.length QW) (.slice (a8 ⟨g,0,a7⟩) c.B2.length hc9) xs k W):=yJ λW hg=>hcc.keep hB hg;have QS:Hid (∀W,Gr wr W->((W.cell? ⟨w.heap.size,1,a7⟩=a8 (.slice (a8 ⟨g,0,a7⟩) c.B2.length hc9)/\W.frozen? ⟨w.heap.size,1,a7⟩=cf)/\W.cell? ⟨g,k*4+3,a7⟩=a8 (a6 A (c.h k).off.length cc)/\W.frozen? ⟨g,k*4+3,a7⟩=cf)/\w.heap.size<W.heap.size/\g<W.heap.size):=yJ λW hg=>by
    have h:=VC.out W hg;obtain⟨s0,s1⟩:=cell_of_heap h.qo 1;exact⟨⟨⟨s0,s1⟩,(hg.cell (p:=⟨g,k*4+3,a7⟩) Jn).trans t0,h.own.frozenAt (k*4+3)⟩,by have:=hg.size;omega,by have:=hg.size;omega⟩
   have f0:=hcc.own.frozenAt (k*4+3);have LI:=yJ (Gr.refl wr);have hne1:¬g=w.heap.size:=by omega
   have hne2:¬w.heap.size=g:=by omega
   generalize hnq:(c.h k).off.length=nq at t0 Il QS WO;replace hnq:=yJ hnq;clear hcc hy Em UO s2;go_wp2;rename_i Uh _;refine kO 33 rfl λu5 hu=>?_;refine tU (q:=w.heap.size) (g:=g) (k:=k) (n:=c.B2.length) (hc9:=hc9) (hu 1) (hu 3) hlt (yJ λV hV=>⟨⟨(QS.out V hV).1.1.1,(QS.out V hV).1.2⟩,(QS.out V hV).2⟩) Il λW5 u6 A5 k5 Gg ho5 Nx=>?_;have aiR:=yJ ((VC.out W5 Gg).put hB hlt (y':=a6 A5 nq k5) (by rw[hnq.out];exact Dp ho5 (by omega)))
   refine Uh _ _ ?_;rw[iC (n:=33) [20,21,22,23,24,25,26,27,28,29,30,31] (by kernel_rfl) rfl hu Nx];simp only[Af,Bl,AC,AL];clear QS Il VC ho5 Gg hu Nx;go_wp2;go_roundw
   case rel=>exact⟨k+1,by omega,by go_num,_,aiR.out⟩
   case measure=>simp[Proofs.intOf];omega
  .have IE:k=c.B2.length:=by omega
   subst IE;obtain⟨t0,t1⟩:=cell_of_heap hcc.ro 0;obtain⟨t2,_⟩:=cell_of_heap hcc.ro 1;simp only[zA,zz,zr] at t0 t2;obtain⟨_,t3⟩:=cell_of_heap hcc.ro 1;have hql2:w.heap.size+1<wr.heap.size:=by omega
   have aiS:=yJ (λv0 v1=>qh hcc hB v0 v1);clear hcc;go_wp2;have z0:((wr.setCell ⟨w.heap.size+1,0,a7⟩ (a6 QX c.B3.length QW)).setCell ⟨w.heap.size+1,1,a7⟩ (a6 Ug c.B2.length hc9)).cell? ⟨w.heap.size+1,0,a7⟩=a8 (a6 QX c.B3.length QW):=by
    rw[yP _ _ _ _ (by simp)];exact yW _ _ _ t0
   have z1:((wr.setCell ⟨w.heap.size+1,0,a7⟩ (a6 QX c.B3.length QW)).setCell ⟨w.heap.size+1,1,a7⟩ (a6 Ug c.B2.length hc9)).cell? ⟨w.heap.size+1,1,a7⟩=a8 (a6 Ug c.B2.length hc9) :=
    yW _ _ _ ((yP _ _ _ _ (by simp)).trans t2)
   have hend:=aiS.out (a6 QX c.B3.length QW) (a6 Ug c.B2.length hc9);generalize (wr.setCell ⟨w.heap.size+1,0,a7⟩ (a6 QX c.B3.length QW)).setCell ⟨w.heap.size+1,1,a7⟩ (a6 Ug c.B2.length hc9)=W8 at z0 z1 hend;refine bA (v:=.agg #[a6 QX c.B3.length QW,a6 Ug c.B2.length hc9]) (by simp[results,Tryz.results11,go_sem,z0,z1]) rfl hend
def jb {ev:Operand->bh}{s x:Operand}{t:b7}{P:Program}{w w':bb}{v:bh}(hr:(bD #[t,t] t #[ev s,ev x]).run P w=.ok v w'):(execOp ev (IJ (.call { callee:=.builtin .append,args:=#[s,x],argTypes:=#[t,t] }) t)).run P w=.ok (.value v) w':=by
 unfold execOp IJ;simp only[resolve,invoke,builtin,Sem.run_bind,Sem.run_pure,Result.andThen_ok,AA,Ae,Ag,hr]
noncomputable def Md:Array Oper:=match EF (DC 1 km) with|.region _ o _=>o|_=>#[]
def tV {nA hA:Option bs}{q nc hc B:Nat}{c:Cc}{W:bb}{u:Nat->bh}{Q:Exit->Act->bb->Prop}(h1:u 1=.pointer (a8 ⟨q,0,a7⟩))(hB:B<=W.heap.size)(hl:c.B2.length<=20)(HH:Hid (∀V,Gr W V->Db V B hA c.B2))
  (HC:Hid (∀V,Gr W V->((V.cell? ⟨q,0,a7⟩=a8 (a6 nA c.B3.length nc)/\V.frozen? ⟨q,0,a7⟩=cf)/\V.cell? ⟨q,1,a7⟩=a8 (a6 hA c.B2.length hc)/\V.frozen? ⟨q,1,a7⟩=cf)/\q<V.heap.size))
  (HQ:Hid (∀V,Gr W V->b8 B1 33 #[a6 nA c.B3.length nc] V λe w'=>∃v,e=.returned v/\w'.ownsRow V.heap.size 3 1 v c.B3.length (c.B3.map (bc bk))/\Gr V w'))
  (hK:∀W5 u' A5 k5 A6 k6,Gr W W5->W5.ownsRow W.heap.size 3 1 (a6 A5 c.B3.length k5) c.B3.length (c.B3.map (bc bk))->Nv W.heap.size B c (a6 A6 c.B2.length k6) W5->(∀t,Fl Md t=cq->u' t=u t) ->
   Q .normal ⟨T 33 u',[]⟩ ((W5.setCell ⟨q,0,a7⟩ (a6 A5 c.B3.length k5)).setCell ⟨q,1,a7⟩ (a6 A6 c.B2.length k6))):(bW 1 Md cq).wp B1 Q ⟨T 33 u,[]⟩ W:=by
 refine dQ (R:=Gr) (m:=8) (by kernel_rfl) [λv _=>v=.pointer (a8 ⟨q,0,a7⟩),λv _=>v=a6 nA c.B3.length nc,Zi W c.B3.length (c.B3.map (bc bk)),mX 28 4 W.heap.size,λv _=>v=.pointer (a8 ⟨q,1,a7⟩),λv _=>v=a6 hA c.B2.length hc,Nv W.heap.size B c,λv _=>v=.pointer (a8 ⟨q,0,a7⟩)]
  ⟨aa _,aa _,lC _ _ _,nW _ _ _,aa _,aa _,r6 _ _ _,aa _,trivial⟩ ⟨⟨⟨⟨⟨⟨⟨⟨trivial,?_⟩,?_⟩,?_⟩,?_⟩,?_⟩,?_⟩,?_⟩,?_⟩ λu w hg hf hv=>?_
 .intro u w hg hf hl hd;exact bJ rfl ((hf.at_ 1).trans h1)
 .intro u w hg hf hl hd;obtain⟨⟨⟨c0,f0⟩,c1,f1⟩,cl⟩:=HC.out w hg;exact aS rfl (hd.at_ 0 4) (by assumption)
 .intro u w hg hf hl hd;refine bf rfl Sq.func33 #[a6 nA c.B3.length nc] (λev he=>by simp[((he.t 5).trans (hd.at_ 1 5))]) ((HQ.out w hg).mono λe w' h=>?_);obtain⟨v,rfl,h1,h2⟩:=h;obtain⟨A5,k5,rfl⟩:=DR h1;exact⟨_,rfl,h2,A5,k5,rfl,Dp h1 hg.size⟩
 .intro u w hg hf hl hd;refine aV (op:=.buildSlice 23 0 #[]) (t:=23) rfl _ (w.alloc (bn #[] 28)) (λev he=>?_) ((Gr.refl w).alloc _) (qg hg.size);clear hg hf hl hd he;go_simp
 .intro u w hg hf hl hd;exact bJ rfl ((hf.at_ 1).trans h1)
 .intro u w hg hf hl hd;obtain⟨⟨⟨c0,f0⟩,c1,f1⟩,cl⟩:=HC.out w hg;exact aS rfl (hd.at_ 4 8) (by assumption)
 .intro u w hg hf hl' hd;obtain⟨b,e1,h0⟩:=hd.at_ 3 7;obtain⟨v,w9,hr,OH,h9⟩:=OO h0 (yR hB hg.size) (HH.out w hg) hl hg.size;refine aV (op:=.call { callee:=Callee.builtin Builtin.append,args:=#[.tmp 7,.tmp 9],argTypes:=#[23,23] }) (t:=23) rfl v w9 (λev he=>?_) OH h9;have e2:=(he.t 7).trans e1;have e3:=(he.t 9).trans (hd.at_ 5 9);exact jb (by rw[e2,e3];exact hr)
 .intro u w hg hf hl hd;exact bJ rfl ((hf.at_ 1).trans h1)
 .obtain⟨A5,k5,e6,ho⟩:=hv.at_ 2 6;have hh:=hv.at_ 6 10;have e11:=hv.at_ 7 11;obtain⟨A6,k6,U9⟩:∃A6 k6,u 10=a6 A6 c.B2.length k6:=by
   obtain⟨_,xs,h,_⟩:=hh;exact DR h
  have er:cr 8 (Md.size-8)=[8,9,10]:=by kernel_rfl
  obtain⟨⟨⟨c0,f0⟩,c1,f1⟩,cl⟩:=HC.out w hg;have e1:=(hf.at_ 1).trans h1;rw[er,bo];refine fY (d:=a7) (op:=.store 22 (.tmp 11) (.tmp 6)) (t:=0) rfl (w.setCell ⟨q,0,a7⟩ (a6 A5 c.B3.length k5)) (λev he=>?_) ?_
  .have e2:=(he.t 11).trans e11;have e3:=(he.t 6).trans e6;clear hv hf hg he hK ho hh;go_simp
  rw[bo];refine dJ (d:=a8 12) (op:=.fieldAddr 25 (.tmp 1) 1) (t:=0) rfl (.pointer (a8 ⟨q,1,a7⟩)) (w.setCell ⟨q,0,a7⟩ (a6 A5 c.B3.length k5)) (λev he=>?_) ?_
  .have e2:=(he.t 1).trans e1;clear hv hf hg he hK ho hh;go_simp
  rw[bo];refine fY (d:=a7) (op:=.store 23 (.tmp 12) (.tmp 10)) (t:=0) rfl ((w.setCell ⟨q,0,a7⟩ (a6 A5 c.B3.length k5)).setCell ⟨q,1,a7⟩ (a6 A6 c.B2.length k6)) (λev he=>?_) ?_
  .have e2:=(he.t 12).trans (az ..);have e3:=(he.t 10).trans ((CU (by decide)).trans U9);clear hv hf hg he hK ho hh;go_simp
  show Q .normal _ _;have f12:Fl Md 12=false:=by kernel_rfl
  exact hK _ _ A5 k5 A6 k6 hg (e6▸ho) (U9▸hh) λt ht=>(CU λe=>by rw[e,f12] at ht;cases ht).trans (hf t ht)
def jc (nA hA:Option bs)(nc hc:Nat)(c:Cc)(w:bb)(B:Nat)(hB:B<=w.heap.size)(hn:RI w B nA c.B3)(hh:Db w B hA c.B2)(F4:c.B3.length<=20)(hl2:c.B2.length<=20)(DN:∀h∈c.B2,h.off.length<=20) :
  b8 B1 11 #[Cj nA hA c nc hc] w (iQ c w):=by
 unfold Cj;obtain⟨W0,hW0⟩:∃W0:bb,W0=(w.alloc (bn #[a6 nA c.B3.length nc,a6 hA c.B2.length hc] 25)).alloc (bn #[.slice a7 0 0,.slice a7 0 0] 25):=⟨_,rfl⟩;have hg0:Gr w W0:=hW0▸((Gr.refl w).alloc _).alloc _;have hz0:W0.heap.size=w.heap.size+2:=by rw[hW0];simp
 have Du:=yJ hg0;have Qd:=yJ DN
 have HRO:Hid (W0.heap[w.heap.size]?=a8 (bn #[a6 nA c.B3.length nc,a6 hA c.B2.length hc] 25 (0,0))/\W0.heap[w.heap.size+1]?=a8 (bn #[.slice a7 0 0,.slice a7 0 0] 25 (0,0))):=yJ (by
  rw[hW0]
  exact⟨(heap_alloc_old _ _ (by simp)).trans (heap_alloc_new _ _),aK _ _ (by simp)⟩)
 have HC:=yJ λV (hV:Gr W0 V)=>(hV.below.block w.heap.size (by omega)).trans HRO.out.1;have HW:=yJ hW0;have Xo:=yJ (λW (hg:Gr W0 W)=>gz nA nc c.B3 W B (hn.gr hB (hg0.trans hg)) (by have:=hg.size;omega) (by omega));have HHS:=yJ (λW (hg:Gr W0 W)=>hh.keep λb o hb=>(hg0.trans hg).cell (p:=⟨b,o,a7⟩) (yO hb hB));clear hg0 hh hn DN hW0;go_enter Sq.func11,Tryz.ntmps11;go_wp2;rw[<-HW.out];rename_i Uh
 refine kO 33 rfl λu hu=>?_;refine tV (B:=B) (hc:=hc) (hu 1) (by omega) hl2 HHS (yJ λV hV=>?_) Xo λW5 u' A5 k5 A6 k6 Gg ho hh Nx=>Uh _ _ ?_
 .have h:=HC.out V hV;exact⟨⟨cell_of_heap h 0,cell_of_heap h 1⟩,by have:=hV.size;omega⟩
 .have NN:=Gg.size;rw[hz0] at ho hh;obtain⟨xs,hcc⟩:=CC.start (Du.out.trans Gg) hB rfl (by omega) (HC.out W5 Gg) ((Gg.below.block _ (by omega)).trans HRO.out.2) ho hh;exact qi ((Nx 1 (by kernel_rfl)).trans (hu 1)) ((Nx 2 (by kernel_rfl)).trans (hu 2)) hB hl2 Qd.out hcc
def qj (nA hA:Option bs)(nc hc:Nat)(c:Cc)(w:bb)(B:Nat)(hB:B<=w.heap.size)(hn:RI w B nA c.B3)(hh:Db w B hA c.B2)(F4:c.B3.length<=20)(hl2:c.B2.length<=20)(DN:∀h∈c.B2,h.off.length<=20) :
  b8 B1 11 #[Cj nA hA c nc hc] w (mY c w) :=
 (jc nA hA nc hc c w B hB hn hh F4 hl2 DN).mono λ_ _ h=>r7 h
def nX (nA hA QV hA':Option bs)(nc hc UH hc':Nat)(c:Cc)(w:bb)(hn:RI w w.heap.size nA c.B3)(hh:Db w w.heap.size hA c.B2)(Us:RI w w.heap.size QV c.B3)(GQ:Db w w.heap.size hA' c.B2)(F4:c.B3.length<=20)(hl2:c.B2.length<=20)(DN:∀h∈c.B2,h.off.length<=20) :
  b8 B1 17 #[Cj nA hA c nc hc,Cj QV hA' c UH hc'] w λe w'=>e=.returned (.bool cq)/\Gr w w':=by
 unfold Cj;obtain⟨W0,hW0⟩:∃W0:bb,W0=(w.alloc (bn #[a6 nA c.B3.length nc,a6 hA c.B2.length hc] 25)).alloc (bn #[a6 QV c.B3.length UH,a6 hA' c.B2.length hc'] 25):=⟨_,rfl⟩;have hg0:Gr w W0:=hW0▸((Gr.refl w).alloc _).alloc _;have hz0:W0.heap.size=w.heap.size+2:=by rw[hW0];simp
 have Du:=yJ hg0;have HH:=yJ (hh.keep λb o hb=>hg0.cell hb);have HH':=yJ (GQ.keep λb o hb=>hg0.cell hb);have Qd:=yJ DN;have HC:Hid (∀W,Gr W0 W->(W.cell? ⟨w.heap.size,0,a7⟩=a8 (a6 nA c.B3.length nc)/\W.cell? ⟨w.heap.size,1,a7⟩=a8 (a6 hA c.B2.length hc)/\W.cell? ⟨w.heap.size+1,0,a7⟩=a8 (a6 QV c.B3.length UH)/\W.cell? ⟨w.heap.size+1,1,a7⟩=a8 (a6 hA' c.B2.length hc'))/\w.heap.size+1<W.heap.size):=yJ λW hg=>by
  have:=hg.size;have e1:∀i,i<2->W.cell? ⟨w.heap.size,i,a7⟩=(#[a6 nA c.B3.length nc,a6 hA c.B2.length hc])[i]?:=λi hi=>by
   rw[hg.cell (by show w.heap.size<_;omega),hW0,za _ _ _ (by simp),yN _ _ _ _ rfl]
  have e2:∀i,i<2->W.cell? ⟨w.heap.size+1,i,a7⟩=(#[a6 QV c.B3.length UH,a6 hA' c.B2.length hc'])[i]?:=λi hi=>by
   rw[hg.cell (by show w.heap.size+1<_;omega),hW0,yN _ _ _ _ (by simp)]
  exact⟨⟨e1 0 (by omega),e1 1 (by omega),e2 0 (by omega),e2 1 (by omega)⟩,by omega⟩
 have HW:=yJ hW0;have hsn:=cV nA QV nc UH c.B3 c.B3 W0 w.heap.size (by omega) (hn.gr (yL _) hg0) (Us.gr (yL _) hg0) (by omega) (by omega);have Y7:=yJ hsn;clear hg0 hh hn GQ Us DN hsn hW0;go_enter Sq.func17,Tryz.ntmps17;go_wp2;rw[<-HW.out];obtain⟨⟨a0,a1,a2,a3⟩,a4⟩:=HC.out W0 (.refl _);have a5:w.heap.size<W0.heap.size:=by omega
 refine Y7.out.mono ?_;rintro e w1 ⟨rfl,hg1⟩;have DO:=yJ hg1;clear hg1 a0 a1 a2 a3 a4 a5;obtain⟨⟨a0,a1,a2,a3⟩,a4⟩:=HC.out w1 DO.out;have a5:w.heap.size<w1.heap.size:=by omega
 simp only[decide_true];go_wp2;go_loopw [5] (λi wr=>∃k:Nat,k<=c.B2.length/\i=bc bk k/\Gr W0 wr) (λi _=>c.B2.length-(bw i).toNat)
 case atStart=>exact⟨0,by omega,rfl,DO.out⟩
 case round =>
  obtain⟨k,hk,rfl,hg⟩:=hrel;have HG:=yJ hg;clear hg a0 a1 a2 a3 a4 a5;obtain⟨⟨a0,a1,a2,a3⟩,a4⟩:=HC.out wr HG.out;have a5:w.heap.size<wr.heap.size:=by omega
  by_cases hlt:k<c.B2.length
  .obtain⟨b,o,rfl,hb,b0,b1,b2,A,cc,b3,hr⟩:=(HH.out.keep λb o hb=>HG.out.cell (by show b<_;omega)).at_ hlt;obtain⟨b',o',rfl,hb',c0,c1,c2,A',cc',c3,NJ⟩:=(HH'.out.keep λb o hb=>HG.out.cell (by show b<_;omega)).at_ hlt;have WO:=Qd.out _ (c.Gw hlt);have HS:=yJ (λW (hg:Gr wr W)=>cV A A' cc cc' (c.h k).off (c.h k).off W w.heap.size (by have:=hg.size;omega) (hr.gr (by omega) hg) (NJ.gr (by omega) hg) (by omega) (by omega))
   clear hr NJ;have hbl:b<wr.heap.size:=by omega
   have hbl':b'<wr.heap.size:=by omega
   go_wp2;go_region
   all_goals
    go_wp2;refine(HS.out _ ((((Gr.refl wr).alloc _).alloc _).drew)).mono ?_;rintro e w5 ⟨rfl,Gg⟩;have Hk:=yJ (HG.out.trans (((((Gr.refl wr).alloc _).alloc _).drew).trans Gg));clear Gg HS;simp only[decide_true];go_wp2;go_roundw
    case rel=>exact⟨k+1,by omega,by go_num,Hk.out⟩
    case measure=>simp[Proofs.intOf];omega
  .have IE:k=c.B2.length:=by omega
   subst IE;go_wp2;go_ret;exact⟨rfl,Du.out.trans HG.out⟩
structure Ny where
 nA:Option bs
 hA:Option bs
 gA:Option bs
 nc:Nat
 hc:Nat
 gc:Nat
 c:Cc
 ls:List (List Int)
structure Ny.Small (x:Ny):Prop where
 n:x.c.B3.length<=20
 h:x.c.B2.length<=20
 o:∀y∈x.c.B2,y.off.length<=20
 l:x.ls.length<=20
 g:∀y∈x.ls,y.length<=20
structure Ny.At (x:Ny)(W:bb):Prop where
 n:RI W W.heap.size x.nA x.c.B3
 h:Db W W.heap.size x.hA x.c.B2
 g:Da W W.heap.size x.gA x.ls
def _root_.Go.Sq.Da.on {w w':bb}{A:Option bs}{l:List (List Int)}(h:Da w w.heap.size A l)(hg:Gr w w'):Da w' w'.heap.size A l:=(h.gr (yL _) hg).more hg.size
def _root_.Go.Sq.Db.on {w w':bb}{A:Option bs}{l:List CF}(h:Db w w.heap.size A l)(hg:Gr w w'):Db w' w'.heap.size A l:=(h.keep λ_ _ hb=>hg.cell hb).more hg.size
def Ny.At.gr {x:Ny}{W W':bb}(h:x.At W)(hg:Gr W W'):x.At W':=⟨(h.n.gr (yL _) hg).more hg.size,h.h.on hg,h.g.on hg⟩
structure Qx (W:bb)(cb co rb ro k:Nat)(x:Ny):Prop where
 c0:W.cell? ⟨cb,co+k*2,a7⟩=a8 (.slice x.nA x.c.B3.length x.nc)
 c1:W.cell? ⟨cb,co+k*2+1,a7⟩=a8 (.slice x.hA x.c.B2.length x.hc)
 r0:W.cell? ⟨rb,ro+k,a7⟩=a8 (.slice x.gA x.ls.length x.gc)
 lt:cb<W.heap.size/\rb<W.heap.size
 at_:x.At W
 small:x.Small
def Qx.gr {W W':bb}{cb co rb ro k:Nat}{x:Ny}(h:Qx W cb co rb ro k x)(hg:Gr W W'):Qx W' cb co rb ro k x :=
 ⟨(hg.cell (p:=⟨cb,_,a7⟩) h.lt.1).trans h.c0,(hg.cell (p:=⟨cb,_,a7⟩) h.lt.1).trans h.c1,(hg.cell (p:=⟨rb,_,a7⟩) h.lt.2).trans h.r0,⟨yO h.lt.1 hg.size,yO h.lt.2 hg.size⟩,h.at_.gr hg,h.small⟩
open Go.Ct
variable {R:bb->bb->Prop} {ops:Array Oper} {Q:Exit->Act->bb->Prop} {n m:Nat} {u:Nat->bh} {ds:List Deferred} {w w':bb}
def Zj (c:Cc)(w0:bb)(v:bh)(w:bb):Prop:=∃nA hA nc hc,v=Cj nA hA c nc hc/\Hb w (λb=>w0.heap.size<=b/\b<w.heap.size) nA c.B3/\EZ w (λb=>w0.heap.size<=b/\b<w.heap.size) hA c.B2
def tW (c:Cc)(w0:bb):IK Gr (Zj c w0):=λv w w' hg ⟨nA,hA,nc,hc,e,h1,h2⟩ =>
 ⟨nA,hA,nc,hc,e,fi h1 (λb hb=>⟨hb.1,yO hb.2 hg.size⟩) λb o hb=>hg.cell (p:=⟨b,o,a7⟩) hb.2,gy h2 (λb hb=>⟨hb.1,yO hb.2 hg.size⟩) λb o hb=>hg.cell (p:=⟨b,o,a7⟩) hb.2⟩
def xG {c:Cc}{w0 w w':bb}{e:cu}(hg:Gr w0 w)(h:mY c w e w'):∃v,e=.returned v/\Gr w w'/\Zj c w0 v w':=by
 obtain⟨h1,nA,hA,nc,hc,rfl,h2,h3⟩:=h;have hk:∀b,w.heap.size<=b/\b<w'.heap.size->w0.heap.size<=b/\b<w'.heap.size:=λb hb=>⟨yR hg.size hb.1,hb.2⟩;exact⟨_,rfl,h1,nA,hA,nc,hc,rfl,fi h2 hk λ_ _ _=>rfl,gy h3 hk λ_ _ _=>rfl⟩
def XA (ls:List (List Int))(w0:bb)(v:bh)(w:bb):Prop:=∃xs,Ce w w0.heap.size v ls xs
def r8 (ls:List (List Int))(w0:bb):IK Gr (XA ls w0):=λv w w' hg ⟨xs,h⟩=>⟨xs,h.keep λb hb=>hg.below.block b hb⟩
def du {w:bb}{B B':Nat}{v:bh}{ls:List (List Int)}{xs:List bh}(h:Ce w B v ls xs)(hb:B'<=B):Ce w B' v ls xs :=
 ⟨Dp h.row hb,λi l hi=>by obtain⟨u,h1,h2⟩:=h.cells i l hi;exact⟨u,h1,Dp h2 hb⟩⟩
def adM (w0:bb)(v:bh)(w:bb):Prop:=∃b,v=.pointer (a8 ⟨b,0,a7⟩)/\w0.heap.size<=b/\w.heap[b]?=a8 (bn #[.slice a7 0 0,.slice a7 0 0] 25 (0,0))
def tX (w0:bb):IK Gr (adM w0):=λv w w' hg ⟨b,e,h1,h2⟩=>⟨b,e,h1,(hg.below.block b (yK.1 h2).1).trans h2⟩
section
variable {w0 w:bb} {b:Nat} {x y:bh}
def D4 (hb:w.heap[b]?=a8 (bn #[.slice a7 0 0,.slice a7 0 0] 25 (0,0))) :
  (w.cell? ⟨b,0,a7⟩=a8 (.slice a7 0 0)/\w.cell? ⟨b,1,a7⟩=a8 (.slice a7 0 0)/\w.frozen? ⟨b,0,a7⟩=cf/\w.frozen? ⟨b,1,a7⟩=cf)/\b<w.heap.size:=by
 obtain⟨h1,h2⟩:=cell_of_heap hb 0;obtain⟨h3,h4⟩:=cell_of_heap hb 1;exact⟨⟨h1,h3,h2,h4⟩,(yK.1 hb).1⟩
def cP (b':Nat)(h:b'≠b):((w.setCell ⟨b,0,a7⟩ x).setCell ⟨b,1,a7⟩ y).heap[b']?=w.heap[b']?:=(yU _ _ _ _ h).trans (yU _ _ _ _ h)
def fk:((w.setCell ⟨b,0,a7⟩ x).setCell ⟨b,1,a7⟩ y).heap.size=w.heap.size:=by simp[br]
def ko (hg:Gr w0 w)(hb:w0.heap.size<=b):Gr w0 ((w.setCell ⟨b,0,a7⟩ x).setCell ⟨b,1,a7⟩ y):=(hg.setCell (p:=⟨b,0,a7⟩) hb x).setCell (p:=⟨b,1,a7⟩) hb y
def VW (hb:w.heap[b]?=a8 (bn #[.slice a7 0 0,.slice a7 0 0] 25 (0,0))) :
  ((w.setCell ⟨b,0,a7⟩ x).setCell ⟨b,1,a7⟩ y).cell? ⟨b,0,a7⟩=a8 x/\((w.setCell ⟨b,0,a7⟩ x).setCell ⟨b,1,a7⟩ y).cell? ⟨b,1,a7⟩=a8 y:=by
 obtain⟨⟨h1,h2,_⟩,_⟩:=D4 hb;refine⟨(yP _ _ _ _ (by simp)).trans (yW _ _ _ h1),yW _ _ _ ((yP _ _ _ _ (by simp)).trans h2)⟩
def oT (hb:w.heap[b]?=a8 (bn #[.slice a7 0 0,.slice a7 0 0] 25 (0,0))){b' o:Nat}{k:IntKind}{z:Int}(h:w.cell? ⟨b',o,a7⟩=a8 (.int k z)):b'≠b:=λe=>by
 subst e;unfold World.cell? at h;dsimp only at h;rw[hb] at h;dsimp only at h;simp only[AB,zg,if_false] at h
 match o,h with
 |0,h=>simp at h
 |1,h=>simp at h
 |o+2,h=>simp at h
def oU {K:Nat->Prop}{A:Option bs}{l:List Int}(hb:w.heap[b]?=a8 (bn #[.slice a7 0 0,.slice a7 0 0] 25 (0,0)))(h:Hb w K A l):Hb ((w.setCell ⟨b,0,a7⟩ x).setCell ⟨b,1,a7⟩ y) K A l:=λhn=>by
 obtain⟨b',o,e,h1,h2⟩:=h hn;obtain⟨z,l',rfl⟩:=bq hn;have hne:=oT hb (h2 0 z rfl);exact⟨b',o,e,h1,λi x hx=>(zd (a:=⟨b',o+i,a7⟩) (cP b' hne)).trans (h2 i x hx)⟩
def we {K:Nat->Prop}{A:Option bs}{l:List CF}(hb:w.heap[b]?=a8 (bn #[.slice a7 0 0,.slice a7 0 0] 25 (0,0)))(h:EZ w K A l):EZ ((w.setCell ⟨b,0,a7⟩ x).setCell ⟨b,1,a7⟩ y) K A l:=λhn=>by
 obtain⟨b',o,e,h1,h2⟩:=h hn;obtain⟨z,l',rfl⟩:=bq hn;have hne:b'≠b:=oT hb (h2 0 z rfl).1;have hc:∀j,((w.setCell ⟨b,0,a7⟩ x).setCell ⟨b,1,a7⟩ y).cell? ⟨b',j,a7⟩=w.cell? ⟨b',j,a7⟩:=λj=>zd (a:=⟨b',j,a7⟩) (cP b' hne);refine⟨b',o,e,h1,λi x hx=>?_⟩;obtain⟨k0,k1,k2,A',c,k3,k4⟩:=h2 i x hx;exact⟨(hc _).trans k0,(hc _).trans k1,(hc _).trans k2,A',c,(hc _).trans k3,oU hb k4⟩
def fl {B s n:Nat}{e:b7}{v:bh}{xs:List bh}(h:w.ownsRow B e s v n xs)(hb:w.heap[b]?=a8 (bn #[.slice a7 0 0,.slice a7 0 0] 25 (0,0)))(he:e≠25){g:Nat}(hg:v.ownBlock=a8 g):g≠b:=λe'=>by
 subst e';rcases h.2 with⟨rfl,_⟩|⟨g',c,cur,rfl,_,h3,_⟩
 .cases hg
 .cases hg
  rw[hb] at h3;injection h3 with h3
  injection h3 with _ h3 _
  exact he h3.symm
def Nz {B:Nat}{v:bh}{ls:List (List Int)}{xs:List bh}(hb:w.heap[b]?=a8 (bn #[.slice a7 0 0,.slice a7 0 0] 25 (0,0)))(h:Ce w B v ls xs):Ce ((w.setCell ⟨b,0,a7⟩ x).setCell ⟨b,1,a7⟩ y) B v ls xs :=
 ⟨al h.row λg hg _=>cP g (fl h.row hb (by decide) hg),λi l hi=>by
  obtain⟨u,h1,h2⟩:=h.cells i l hi
  exact⟨u,h1,al h2 λg hg _=>cP g (fl h2 hb (by decide) hg)⟩⟩
end
def OQ:Code->Array Oper
 |.region _ o _=>o
 |_=>#[]
def inBody:Code->Code
 |.block _ b=>b
 |.loop b=>b
 |c=>c
def XB:Code->Code
 |.seq _ (.cond _ x _)=>x
 |c=>c
def lD {R:bb->bb->Prop}{ops:Array Oper}{Q:Exit->Act->bb->Prop}{n:Nat}{u:Nat->bh}{ds:List Deferred}{w:bb}{i:Nat}{d:Option Tmp}{op:Op}{g:Option (Nat×Bool)}{t:b7}{V:bh->bb->Prop}(h:opAt ops i=a8 (d,op,g,t))(w':bb)
  (hr:∀ev,Uf n u ev->(execOp ev (IJ op t)).run B1 w=.ok .skip w') (hg:R w w') (hV:V undef w') (hl:Lets ops n u g:=by trivial):Done R B1 ops Q n ds i V u w:=by
 refine kP h hl λo h1 h2 h3=>?_;unfold Oper.wp;rw[eM,h2,h3,hr _ eK,Oper.upon_skip];exact⟨undef,by rw[h1];exact gC,hg,hV⟩
structure RB (W:bb)(o x:Obj)(w w':bb):Prop where
 os:w'.os=w.os
 tape:w'.tape=w.tape
 output:w'.output=w.output
 drawn:w.drawn<=w'.drawn
 size:w.heap.size<=w'.heap.size
 block:∀b,b<w.heap.size->w'.heap[b]?=w.heap[b]?\/(W.heap.size<=b/\w.heap[b]?=a8 o/\w'.heap[b]?=a8 x)
section
variable {W w w' w2:bb} {o x:Obj}
def RB.Dh (h:Gr w w'):RB W o x w w':=⟨h.below.os,h.below.tape,h.below.output,h.drawn,h.size,λb hb=>.inl (h.below.block b hb)⟩
def RB.gr (h:RB W o x W w):Gr W w:=⟨⟨h.os,h.tape,h.output,h.size,λb hb=>(h.block b hb).elim id λe=>absurd hb (by omega)⟩,h.drawn⟩
def RB.trans (h:RB W o x w w')(k:RB W o x w' w2):RB W o x w w2:=by
 refine⟨k.os.trans h.os,k.tape.trans h.tape,k.output.trans h.output,yR h.drawn k.drawn,yR h.size k.size,λb hb=>?_⟩;rcases h.block b hb with h1|⟨h1,h2,h3⟩
 .rcases k.block b (yO hb h.size) with k1|⟨k1,k2,k3⟩
  .exact .inl (k1.trans h1)
  .exact .inr ⟨k1,h1▸k2,k3⟩
 .rcases k.block b (yO hb h.size) with k1|⟨k1,k2,k3⟩
  .exact .inr ⟨h1,h2,k1.trans h3⟩
  .exact .inr ⟨h1,h2,k3⟩
instance:Goes (RB W o x):={ refl:=λw=>.Dh (.refl w),trans:=RB.trans,drew:=λw=>.Dh (Gr.refl w).drew }
def Zk (W:bb)(o x:Obj)(v:bh)(w:bb):Prop:=∃b,v=.pointer (a8 ⟨b,0,a7⟩)/\W.heap.size<=b/\(w.heap[b]?=a8 o\/w.heap[b]?=a8 x)
def lE:IK (RB W o x) (Zk W o x):=λv w w' hg ⟨b,e,h1,h2⟩=>by
 have hb:b<w.heap.size:=by rcases h2 with h2|h2<;>exact(yK.1 h2).1
 refine⟨b,e,h1,?_⟩;rcases hg.block b hb with h|⟨_,_,h⟩
 .rw[h];exact h2
 .exact .inr h
def Qy (W:bb)(x:Obj)(d:Nat)(u:Nat->bh)(w:bb):Prop:=∃b,u d=.pointer (a8 ⟨b,0,a7⟩)/\W.heap.size<=b/\w.heap[b]?=a8 x
def mZ {d:Nat}:∀u w w',RB W o x w w'->Qy W x d u w->Qy W x d u w':=λu w w' hg ⟨b,e,h1,h2⟩=>by
 refine⟨b,e,h1,?_⟩;rcases hg.block b (yK.1 h2).1 with h|⟨_,_,h⟩
 .exact h.trans h2
 .exact h
def oV {d:Nat}:∀u w d' v,d'≠d->Qy W x d u w->Qy W x d (Jg u d' v) w:=λu w d' v hd ⟨b,e,h⟩=>⟨b,(CU (Ne.symm hd)).trans e,h⟩
end
def Gh (c:Cc)(l:List Int):List Int:=l.map λh=>(c.h h.toNat).Dd
def lF (c:Cc)(l:List Int):(Gh c l).length=l.length:=zy ..
def tY {c:Cc}(Dx:c.Ok){l:List Int}(hl:∀x∈l,0<=x/\x<c.B2.length)(k:Nat)(hk:k<=1048576):0<=((Gh c l).take k).sum/\((Gh c l).take k).sum<=5242880:=by
 have h:∀x∈(Gh c l).take k,0<=x/\x<=(5:Nat):=λx hx=>by
  obtain⟨h,hh,rfl⟩:=zu.1 (Aw hx);have h2:=hl h hh;have:=Dx.Dd _ (c.Gw (i:=h.toNat) (by omega));omega
 have h2:=xD h;have hl2:=List.length_take_le k (Gh c l);omega
def r9 (nA hA lA:Option bs)(nc hc lc:Nat)(c:Cc)(l:List Int)(w:bb)(B:Nat)(hB:B<=w.heap.size)(hh:Db w B hA c.B2)(hr:RI w B lA l)(Dx:c.Ok)(hl:l.length<=1048576)(Ij:∀x∈l,0<=x/\x<c.B2.length) :
  b8 B1 80 #[Cj nA hA c nc hc,a6 lA l.length lc] w λe w'=>e=.returned (bc bk (Gh c l).sum)/\Gr w w':=by
 unfold Cj;obtain⟨W0,hW0⟩:∃W0:bb,W0=w.alloc (bn #[a6 nA c.B3.length nc,a6 hA c.B2.length hc] 25):=⟨_,rfl⟩;have hg0:Gr w W0:=hW0▸(Gr.refl w).alloc _;have hz0:W0.heap.size=w.heap.size+1:=by rw[hW0];simp
 have HW:=yJ hW0;have Du:=yJ hg0
 have Lu:Hid (W0.cell? ⟨w.heap.size,1,a7⟩=a8 (a6 hA c.B2.length hc)):=yJ (by
  rw[hW0,yN _ _ _ _ rfl];rfl)
 have HH:=yJ hh;have HR:=yJ hr;have UC:=yJ Ij;have HBD:=yJ λk hk=>tY Dx Ij k hk;have FQ:=yJ Dx;go_enter Sq.func80,Tryz.ntmps80;go_wp2;rw[<-HW.out];go_loopw [5,6] (λs i wr=>∃k:Nat,k<=l.length/\i=bc bk k/\s=bc bk ((Gh c l).take k).sum/\Gr W0 wr) (λ_ i _=>l.length-(bw i).toNat)
 case atStart=>exact⟨0,by omega,rfl,by simp,.refl _⟩
 case round =>
  obtain⟨k,hk,rfl,rfl,hgr⟩:=hrel;have HG:=yJ hgr;have YA:=hgr.size;by_cases hlt:k<l.length
  .have hg:=Du.out.trans hgr;obtain⟨b,o,rfl,hb,hcell⟩:=(HR.out.gr hB hg).at_ hlt;have hx:=UC.out l[k] (zx hlt);rw[yM hlt,zc] at hcell
   have HS:Hid (((Gh c l).take (k+1)).sum=((Gh c l).take k).sum+(c.h (l[k]).toNat).Dd):=yJ (by
    rw[jf _ _ (by rw[lF];exact hlt)]
    simp[Gh,yM hlt])
   obtain⟨n,hn⟩:∃n:Nat,l[k]=n:=⟨(l[k]).toNat,by omega⟩;rw[hn] at hcell HS hx;have G6:n<c.B2.length:=by omega
   rw[AM] at HS;have hc1:=(hgr.cell (p:=⟨w.heap.size,1,a7⟩) (by show w.heap.size<_;omega)).trans Lu.out;obtain⟨hb2,Ut,rfl,Ib,hh⟩:=(HH.out.keep λb o hb=>hg.cell (p:=⟨b,o,a7⟩) (yO hb hB)).at_ G6;obtain⟨-,afw,-,-⟩:=hh;have hs1:=HBD.out k (by omega);have O3:=FQ.out.Dd _ (c.Gw G6);have KW:w.heap.size<wr.heap.size:=by omega
   have hb3:b<wr.heap.size:=by omega
   have hb4:hb2<wr.heap.size:=by omega
   generalize ((Gh c l).take k).sum=S at HS hs1;go_wp2;go_region
   all_goals
    go_wp2;go_roundw
    case rel=>exact⟨k+1,by omega,by go_num,by rw[HS.out],by first|exact HG.out|exact HG.out.drew⟩
    case measure=>simp[Proofs.intOf];omega
  .have FA:k=l.length:=by omega
   subst FA;have HS:Hid (((Gh c l).take l.length).sum=(Gh c l).sum):=yJ (by rw[zi (by rw[lF];omega)]);go_wp2;go_ret;exact⟨am HS.out,Du.out.trans HG.out⟩
def KM (n:Nat):Code->Option (Array Oper)
 |.region id o _=>if id=n then a8 o else a7
 |.seq a b=>(KM n a).or (KM n b)
 |.cond _ a b=>(KM n a).or (KM n b)
 |.block _ b=>KM n b
 |.loop b=>KM n b
 |_=>a7
def Jv (n:Nat)(f:Func):Array Oper:=(KM n (f.body.getD .skip)).getD #[]
def tZ {cb gb go hb ho gc hc m k h:Nat}{s x:Int}{W:bb}{u:Nat->bh}{Q:Exit->Act->bb->Prop}(h1:u 1=.slice (a8 ⟨gb,go,a7⟩) (k+1) gc)(h2:u 2=.pointer (a8 ⟨cb,0,a7⟩))(h6:u 6=bc bk (k:Nat))(h9:u 9=bc bk (h:Nat))(hk:k<gc)(hm:h<m)
  (HC:Hid (∀V,Gr W V->(V.cell? ⟨cb,1,a7⟩=a8 (.slice (a8 ⟨hb,ho,a7⟩) m hc)/\V.cell? ⟨hb,ho+h*4+2,a7⟩=a8 (bc bk x))/\cb<V.heap.size/\hb<V.heap.size))
  (HW:Hid (∀V,Gr W V->b8 B1 79 #[.slice (a8 ⟨gb,go,a7⟩) k gc,bc bk (h:Nat)] V λe w'=>e=.returned (bc bk s)/\V=w'))
  (hK:∀W' u',Gr W W'->(∀t,Fl (Jv 16 b9) t=cq->u' t=u t)->u' 10=.bool (decide (s ≥ x))->Q .normal ⟨T 92 u',[]⟩ W'):(bW 16 (Jv 16 b9) cq).wp B1 Q ⟨T 92 u,[]⟩ W:=by
 refine dQ (R:=Gr) (m:=13) (by kernel_rfl) [λv _=>v=.slice (a8 ⟨gb,go,a7⟩) (k+1) gc,λv _=>v=bc bk (k:Nat),λv _=>v=.slice (a8 ⟨gb,go,a7⟩) k gc,λv _=>v=bc bk (h:Nat),λv _=>v=bc bk s,λv _=>v=.pointer (a8 ⟨cb,1,a7⟩),λv _=>v=.slice (a8 ⟨hb,ho,a7⟩) m hc,λv _=>v=bc bk (h:Nat),λv _=>v=.pointer (a8 ⟨hb,ho+h*4,a7⟩),λv _=>v=.pointer (a8 ⟨hb,ho+h*4+2,a7⟩),λv _=>v=bc bk x,λv _=>v=.bool (decide (s ≥ x)),λv _=>v=.bool (decide (s ≥ x))] ⟨aa _,aa _,aa _,aa _,aa _,aa _,aa _,aa _,aa _,aa _,aa _,aa _,aa _,trivial⟩ ⟨⟨⟨⟨⟨⟨⟨⟨⟨⟨⟨⟨⟨trivial,?_⟩,?_⟩,?_⟩,?_⟩,?_⟩,?_⟩,?_⟩,?_⟩,?_⟩,?_⟩,?_⟩,?_⟩,?_⟩ λu w hg hf hv=>?_
 .intro u w hg hf hl hd;exact ai rfl ((hf.at_ 1).trans h1)
 .intro u w hg hf hl hd;exact ai rfl ((hf.at_ 6).trans h6)
 .intro u w hg hf hl hd;refine aq (op:=.slice 26 (.tmp 60) a7 (a8 (.tmp 61)) a7) (t:=26) rfl (λev he=>?_);have e60:=((he.t 60).trans (hd.at_ 0 60));have e61:=((he.t 61).trans (hd.at_ 1 61));clear hg hf hl hd he;have hs:k<=gc:=by omega
  go_simp
 .intro u w hg hf hl hd;exact ai rfl ((hf.at_ 9).trans h9)
 .intro u w hg hf hl hd;exact bf rfl Sq.func79 #[.slice (a8 ⟨gb,go,a7⟩) k gc,bc bk (h:Nat)] (λev he=>by simp[((he.t 62).trans (hd.at_ 2 62)),((he.t 63).trans (hd.at_ 3 63))]) ((HW.out w hg).mono λe w' h=>⟨_,h.1,h.2▸.refl _,rfl⟩)
 .intro u w hg hf hl hd;exact bJ rfl ((hf.at_ 2).trans h2)
 .intro u w hg hf hl hd;obtain⟨⟨k1,k2⟩,l1,l2⟩:=HC.out w hg;exact aS rfl (hd.at_ 5 65) (by assumption)
 .intro u w hg hf hl hd;exact ai rfl ((hf.at_ 9).trans h9)
 .intro u w hg hf hl hd;exact aU 4 rfl (hd.at_ 6 66) (hd.at_ 7 67)
 .intro u w hg hf hl hd;exact bJ rfl (hd.at_ 8 68)
 .intro u w hg hf hl hd;obtain⟨⟨k1,k2⟩,l1,l2⟩:=HC.out w hg;exact aS rfl (hd.at_ 9 69) (by assumption)
 .intro u w hg hf hl hd;refine aq (op:=.binOp BinOp.geq 3 (.tmp 64) (.tmp 70) 3) (t:=4) rfl (λev he=>?_);have e64:=(he.t 64).trans (hd.at_ 4 64);have e70:=(he.t 70).trans (hd.at_ 10 70);clear hg hf hl hd he;go_simp
 .intro u w hg hf hl hd;exact cD rfl (hd.at_ 11 71)
 .exact hK w u hg hf (hv.at_ 12 10)
def t7 {lA hA:Option bs}{cb gb go nb no gc hc nc lc ln m k N:Nat}{s x:Int}{W:bb}{u:Nat->bh}{Q:Exit->Act->bb->Prop}(h1:u 1=.slice (a8 ⟨gb,go,a7⟩) (k+1) gc)(h2:u 2=.pointer (a8 ⟨cb,0,a7⟩))(h6:u 6=bc bk (k:Nat))(hk:k<N)
  (HC:Hid (∀V,Gr W V->(V.cell? ⟨cb,0,a7⟩=a8 (.slice (a8 ⟨nb,no,a7⟩) N nc)/\V.cell? ⟨cb,1,a7⟩=a8 (a6 hA m hc)/\V.cell? ⟨gb,go+k,a7⟩=a8 (a6 lA ln lc)/\V.cell? ⟨nb,no+k,a7⟩=a8 (bc bk x))/\cb<V.heap.size/\gb<V.heap.size/\nb<V.heap.size))
  (HD:Hid (∀V,Gr W V->b8 B1 80 #[.agg #[.slice (a8 ⟨nb,no,a7⟩) N nc,a6 hA m hc],a6 lA ln lc] V λe w'=>e=.returned (bc bk s)/\Gr V w'))
  (hK:∀W' u',Gr W W'->(∀t,Fl (Jv 19 b9) t=cq->u' t=u t)->u' 88=.bool (decide (s<x))->Q .normal ⟨T 92 u',[]⟩ W'):(bW 19 (Jv 19 b9) cq).wp B1 Q ⟨T 92 u,[]⟩ W:=by
 refine dQ (R:=Gr) (m:=12) (by kernel_rfl) [λv _=>v=.agg #[.slice (a8 ⟨nb,no,a7⟩) N nc,a6 hA m hc],λv _=>v=.slice (a8 ⟨gb,go,a7⟩) (k+1) gc,λv _=>v=bc bk (k:Nat),λv _=>v=.pointer (a8 ⟨gb,go+k,a7⟩),λv _=>v=a6 lA ln lc,λv _=>v=bc bk s,λv _=>v=.pointer (a8 ⟨cb,0,a7⟩),λv _=>v=.slice (a8 ⟨nb,no,a7⟩) N nc,λv _=>v=bc bk (k:Nat),λv _=>v=.pointer (a8 ⟨nb,no+k,a7⟩),λv _=>v=bc bk x,λv _=>v=.bool (decide (s<x))] ⟨aa _,aa _,aa _,aa _,aa _,aa _,aa _,aa _,aa _,aa _,aa _,aa _,trivial⟩ ⟨⟨⟨⟨⟨⟨⟨⟨⟨⟨⟨⟨trivial,?_⟩,?_⟩,?_⟩,?_⟩,?_⟩,?_⟩,?_⟩,?_⟩,?_⟩,?_⟩,?_⟩,?_⟩ λu w hg hf hv=>?_
 .intro u w hg hf hl hd;refine aq (op:=.load 25 (.tmp 2)) (t:=25) rfl (λev he=>?_);have e2:=(he.t 2).trans ((hf.at_ 2).trans h2);obtain⟨⟨k1,k2,k3,k4⟩,l1,l2,l3⟩:=HC.out w hg;clear hg hf hl hd he;go_simp
 .intro u w hg hf hl hd;exact ai rfl ((hf.at_ 1).trans h1)
 .intro u w hg hf hl hd;exact ai rfl ((hf.at_ 6).trans h6)
 .intro u w hg hf hl hd;exact aU 1 rfl (hd.at_ 1 78) (hd.at_ 2 79)
 .intro u w hg hf hl hd;obtain⟨⟨k1,k2,k3,k4⟩,l1,l2,l3⟩:=HC.out w hg;exact aS rfl (hd.at_ 3 80) (by assumption)
 .intro u w hg hf hl hd;exact bf rfl Sq.func80 #[.agg #[.slice (a8 ⟨nb,no,a7⟩) N nc,a6 hA m hc],a6 lA ln lc] (λev he=>by simp[((he.t 77).trans (hd.at_ 0 77)),((he.t 81).trans (hd.at_ 4 81))]) ((HD.out w hg).mono λe w' h=>⟨_,h.1,h.2,rfl⟩)
 .intro u w hg hf hl hd;exact bJ rfl ((hf.at_ 2).trans h2)
 .intro u w hg hf hl hd;obtain⟨⟨k1,k2,k3,k4⟩,l1,l2,l3⟩:=HC.out w hg;exact aS rfl (hd.at_ 6 83) (by assumption)
 .intro u w hg hf hl hd;exact ai rfl ((hf.at_ 6).trans h6)
 .intro u w hg hf hl hd;exact aU 1 rfl (hd.at_ 7 84) (hd.at_ 8 85)
 .intro u w hg hf hl hd;obtain⟨⟨k1,k2,k3,k4⟩,l1,l2,l3⟩:=HC.out w hg;exact aS rfl (hd.at_ 9 86) (by assumption)
 .intro u w hg hf hl hd;refine aq (op:=.binOp BinOp.lss 3 (.tmp 82) (.tmp 87) 3) (t:=4) rfl (λev he=>?_);have e82:=(he.t 82).trans (hd.at_ 5 82);have e87:=(he.t 87).trans (hd.at_ 10 87);clear hg hf hl hd he;go_simp
 .exact hK w u hg hf (hv.at_ 11 88)
def dK (c:Cc)(r:CR):Nat->Int×Int×Int
 |0=>(0,-1,-1)
 |k+1=>if(dK c r k).1=0 then Ci c r k else dK c r k
def qk (c:Cc)(r:CR)(k:Nat)(h:(Ci c r k).1=0):Ci c r k=(0,-1,-1):=by
 unfold Ci at h ⊢;split at h
 .cases h
 .split at h
  .cases h
  .split at h
   .cases h
   .split at h
    .cases h
    .rename_i h4;exact if_neg h4
def iD {c:Cc}{r:CR}{k:Nat}(h:∀i,i<k->(Ci c r i).1=0):dK c r k=(0,-1,-1):=by
 induction k with
 |zero=>rfl
 |succ k ih =>
  rw[dK,ih λi hi=>h i (by omega),if_pos rfl];exact qk c r k (h k (by omega))
def jd {c:Cc}{r:CR}{k m:Nat}(h:∀i,i<k->(Ci c r i).1=0)(hk:(Ci c r k).1≠0)(hm:k<m):dK c r m=Ci c r k:=by
 induction m with
 |zero=>omega
 |succ m ih =>
  rw[dK];rcases zC k m with h1|h1
  .rw[ih h1,if_neg hk]
  .obtain rfl:k=m:=by omega
   rw[iD h,if_pos rfl]
def KN (x:Cc)(ls:List (List Int)):Int×Int×Int:=if Cg x ls=0 then dK x (B7 ls) x.B3.length else(0,0,0)
def Ia {V:bb}{b:Nat}{x y z x' y' z':bh}{ty:b7}(h:V.heap[b]?=a8 (bn #[x',y',z'] ty (0,0))) :
  (((V.setCell ⟨b,0,a7⟩ x).setCell ⟨b,1,a7⟩ y).setCell ⟨b,2,a7⟩ z).cell? ⟨b,0,a7⟩=a8 x/\(((V.setCell ⟨b,0,a7⟩ x).setCell ⟨b,1,a7⟩ y).setCell ⟨b,2,a7⟩ z).cell? ⟨b,1,a7⟩=a8 y/\(((V.setCell ⟨b,0,a7⟩ x).setCell ⟨b,1,a7⟩ y).setCell ⟨b,2,a7⟩ z).cell? ⟨b,2,a7⟩=a8 z:=by
 have h3:=Cz (i:=2) (u:=z) (Cz (i:=1) (u:=y) (Cz (i:=0) (u:=x) h));exact⟨(cell_of_heap h3 0).1,(cell_of_heap h3 1).1,(cell_of_heap h3 2).1⟩
def gG {w V:bb}{b:Nat}(hg:Gr w V)(hb:w.heap.size<=b)(x y z:bh):Gr w (((V.setCell ⟨b,0,a7⟩ x).setCell ⟨b,1,a7⟩ y).setCell ⟨b,2,a7⟩ z):=((hg.setCell hb _).setCell hb _).setCell hb _
def wj (nA hA gA:Option bs)(nc hc gc:Nat)(c:Cc)(ls:List (List Int))(w:bb)(B:Nat)(hB:B<=w.heap.size)(hn:RI w B nA c.B3)(hh:Db w B hA c.B2)(hg:Da w B gA ls)
  (F4:c.B3.length<=4611686018427387904) (hl2:c.B2.length<=4611686018427387904) (DN:∀h∈c.B2,h.off.length<=4611686018427387904) (IP:ls.length<=4611686018427387904) (hl4:∀x∈ls,x.length<=4611686018427387904) :
  b8 B1 13 #[Cj nA hA c nc hc,a6 gA ls.length gc] w λe w'=>e=.returned (.tuple #[Dc (KN c ls),bc bk (Cg c ls)])/\Gr w w':=by
 unfold Cj;obtain⟨W0,hW0⟩:∃W0:bb,W0=(w.alloc (bn #[a6 nA c.B3.length nc,a6 hA c.B2.length hc] 25)).alloc (bn #[bc bk 0,bc bk 0,bc bk 0] 42):=⟨_,rfl⟩;have hg0:Gr w W0:=hW0▸((Gr.refl w).alloc _).alloc _;have hz0:W0.heap.size=w.heap.size+2:=by rw[hW0];simp
 have HW:=yJ hW0;have Iq:=yJ (jr nA hA gA nc hc gc c ls W0 B (by omega) (hn.gr hB hg0) (hh.keep λb o hb=>hg0.cell (yO hb hB)) (hg.gr hB hg0) F4 hl2 DN IP hl4);have Du:=yJ hg0;have hc0:W0.cell? ⟨w.heap.size,0,a7⟩=a8 (a6 nA c.B3.length nc):=by
  rw[hW0,za _ _ _ (by simp),yN _ _ _ _ rfl];rfl
 have hr3:W0.heap[w.heap.size+1]?=a8 (bn #[bc bk 0,bc bk 0,bc bk 0] 42 (0,0)):=by
  rw[hW0];exact aK _ _ (by simp)
 have Lu:=yJ hc0;have HR3:=yJ hr3;clear hW0 hg0 hn hh hg hl4 DN hc0 hr3;go_enter Sq.func13,Tryz.ntmps13;unfold Cj at Iq;go_wp2_with fail;rw[<-HW.out];refine Iq.out.mono ?_;rintro e w1 ⟨hg1,Hu⟩;have DO:=yJ hg1;have hz1:=hg1.size;have NG:=yJ ((hg1.below.block (w.heap.size+1) (by omega)).trans HR3.out);have hbl:w.heap.size+1<w1.heap.size:=by omega
 by_cases h0:Cg c ls=0
 .rw[if_pos h0] at Hu;obtain⟨cb,g,cap,rfl,hcb,Yz,hK⟩:=Hu;have FQ:=yJ (Cc.Ok.of (fj h0));have YO:=yJ (eh h0);have HE:Hid (KN c ls=dK c (B7 ls) c.B3.length):=yJ (if_pos h0);have Mr:=FQ.out.n5;obtain⟨W1,hW1⟩:∃W1:bb,W1=w1.alloc (bn #[.int .u8 (B7 ls 0),.int .u8 (B7 ls 1),.int .u8 (B7 ls 2),.int .u8 (B7 ls 3),.int .u8 (B7 ls 4)] 76):=⟨_,rfl⟩;have Ju:Gr w1 W1:=hW1▸(Gr.refl w1).alloc _
  have hzW:W1.heap.size=w1.heap.size+1:=by rw[hW1];simp
  have SD:=yJ (hK.O4.on Ju)
  have HRA:Hid (E8 W1 W1.heap.size w1.heap.size (B7 ls)):=yJ ⟨by omega,λi hi=>by
   rw[hW1,yN _ _ _ _ (by simp)]
   match i,hi with
   |0,_=>rfl
   |1,_=>rfl
   |2,_=>rfl
   |3,_=>rfl
   |4,_=>rfl⟩
  have Nk:=yJ (hg1.trans Ju);have HRW:=yJ (((Ju.below.block (w.heap.size+1) hbl)).trans NG.out);have HCW:=yJ ((hg1.trans Ju).cell (p:=⟨w.heap.size,0,a7⟩) (by show w.heap.size<_;omega) |>.trans Lu.out);have Qk:=yJ hW1;have WU:=yJ h0;have hc0:=(hg1.cell (p:=⟨w.heap.size,0,a7⟩) (by show w.heap.size<_;omega)).trans Lu.out;have KW:w.heap.size<w1.heap.size:=by omega
  clear h0 hg1 hK Ju hW1 Iq;unfold Dr;go_wp2;rw[<-Qk.out];clear hc0;go_loopw [25] (λi wr=>∃k:Nat,k<=c.B3.length/\i=bc bk k/\Gr W1 wr/\∀i,i<k->(Ci c (B7 ls) i).1=0) (λi _=>c.B3.length-(bw i).toNat)
  case atStart=>exact⟨0,by omega,rfl,.refl _,λi hi=>by omega⟩
  case round =>
   obtain⟨k,hk,rfl,hgr,hno⟩:=hrel;have Zl:=yJ hno;have E6:=yJ hgr;have YA:=hgr.size;by_cases hlt:k<c.B3.length
   .have Me:=kw cb w1.heap.size k c (B7 ls) wr (SD.out.on hgr) (HRA.out.on hgr) FQ.out hlt YO.out;unfold Dc at Me;replace Me:=yJ Me;have HST:Hid ((Ci c (B7 ls) k).1≠0->KN c ls=Ci c (B7 ls) k):=yJ λIG=>by
     rw[HE.out];exact jd Zl.out IG hlt
    have HZ:Hid ((Ci c (B7 ls) k).1=0->∀i,i<k+1->(Ci c (B7 ls) i).1=0):=yJ λh i hi=>by
     rcases zq (zG hi) with h1|rfl
     .exact Zl.out i h1
     .exact h
    clear hgr hno;generalize Ci c (B7 ls) k=pp at Me HST HZ;obtain⟨p1,p2,p3⟩:=pp;dsimp only at Me HST HZ;go_wp2_with fail;refine Me.out.mono ?_;rintro e w2 ⟨rfl,hg2⟩;have Gt:=yJ (E6.out.trans hg2);have hz2:=hg2.size;clear hg2 Me;by_cases hp:p1=0
    .subst hp;have Uw:=yJ (HZ.out rfl);clear HZ HST;go_wp2;go_roundw
     case rel=>exact⟨k+1,by omega,by go_num,Gt.out.alloc _,Uw.out⟩
     case measure=>simp[Proofs.intOf];omega
    .have LL:=yJ (HST.out hp);have hpn:(p1 != 0)=true:=by simpa using hp
     have I5:Hid ((w2.alloc (bn #[bc bk p1,bc bk p2,bc bk p3] 42)).heap[w.heap.size+1]?=a8 (bn #[bc bk 0,bc bk 0,bc bk 0] 42 (0,0))):=yJ ((heap_alloc_old _ _ (by omega)).trans ((Gt.out.below.block (w.heap.size+1) (by omega)).trans HRW.out));obtain⟨d0,f0⟩:=cell_of_heap I5.out 0;obtain⟨d1,f1⟩:=cell_of_heap I5.out 1;obtain⟨d2,f2⟩:=cell_of_heap I5.out 2;clear HZ HST hp
     go_wp2;obtain⟨s0,s1,s2⟩:=Ia (x:=bc bk p1) (y:=bc bk p2) (z:=bc bk p3) I5.out;refine bA (v:=.tuple #[.agg #[bc bk p1,bc bk p2,bc bk p3],bc bk 0]) (by simp[results,b5,go_sem,s0,s1,s2]) rfl ⟨?_,?_⟩
     .rw[LL.out,WU.out];rfl
     .exact gG ((Du.out.trans (Nk.out.trans Gt.out)).alloc _) (zt _) _ _ _
   .have IE:k=c.B3.length:=by omega
    subst IE;have LL:Hid (KN c ls=(0,-1,-1)):=yJ (by rw[HE.out];exact iD Zl.out);have I5:Hid (wr.heap[w.heap.size+1]?=a8 (bn #[bc bk 0,bc bk 0,bc bk 0] 42 (0,0))):=yJ ((E6.out.below.block (w.heap.size+1) (by omega)).trans HRW.out);obtain⟨d0,f0⟩:=cell_of_heap I5.out 0;obtain⟨d1,f1⟩:=cell_of_heap I5.out 1;obtain⟨d2,f2⟩:=cell_of_heap I5.out 2;clear hgr hno;go_wp2;obtain⟨s0,s1,s2⟩:=Ia (x:=bc bk 0) (y:=bc bk (-1)) (z:=bc bk (-1)) I5.out
    refine bA (v:=.tuple #[.agg #[bc bk 0,bc bk (-1),bc bk (-1)],bc bk 0]) (by simp[results,b5,go_sem,s0,s1,s2]) rfl ⟨?_,?_⟩
    .rw[LL.out,WU.out];rfl
    .exact gG (Du.out.trans (Nk.out.trans E6.out)) (by omega) _ _ _
 .rw[if_neg h0] at Hu;obtain⟨p,r,rfl⟩:=Hu;have HE:Hid (KN c ls=(0,0,0)):=yJ (if_neg h0);have hne:(Cg c ls != 0)=true:=by simpa using h0
  generalize hq:Cg c ls=e0 at hne;replace hq:=yJ hq;have d0:=cell_of_heap NG.out 0;have d1:=cell_of_heap NG.out 1;have d2:=cell_of_heap NG.out 2;obtain⟨d0,f0⟩:=d0;obtain⟨d1,f1⟩:=d1;obtain⟨d2,f2⟩:=d2;clear h0 hg1;unfold Dr;go_wp2;obtain⟨s0,s1,s2⟩:=Ia (x:=bc bk 0) (y:=bc bk 0) (z:=bc bk 0) NG.out;have kp:∀(V:bb) (o:Obj) (i:Nat),w.heap.size+1<V.heap.size->(V.alloc o).cell? ⟨w.heap.size+1,i,a7⟩=V.cell? ⟨w.heap.size+1,i,a7⟩:=λV o i h=>za _ _ _ h
  have hbs:w.heap.size+1<(((w1.setCell ⟨w.heap.size+1,0,a7⟩ (bc bk 0)).setCell ⟨w.heap.size+1,1,a7⟩ (bc bk 0)).setCell ⟨w.heap.size+1,2,a7⟩ (bc bk 0)).heap.size:=by simpa [br] using hbl
  refine bA (v:=.tuple #[.agg #[bc bk 0,bc bk 0,bc bk 0],bc bk e0]) (by simp[results,b5,go_sem,s0,s1,s2,kp _ _ _ hbs]) rfl ⟨?_,?_⟩
  .rw[HE.out,hq.out];rfl
  .exact(gG (Du.out.trans DO.out) (zt _) _ _ _).alloc _
def subs (n:Nat):Nat->List (List Int)
 |0=>[[]]
 |k+1=>[]::((subs n k).map (((n-(k+1):Nat):Int)::·)++(subs n k).tail)
def pow {α:Type}(S:List α):Nat->List (List α)
 |0=>[[]]
 |k+1=>S.flatMap λs=>(pow S k).map (s::·)
def qm {α:Type}(S:List α)(k:Nat):(pow S k).length<=S.length ^ k:=by
 induction k with
 |zero=>exact yL _
 |succ k ih =>
  simp only[pow,List.length_flatMap,zy];rw[List.map_const',List.sum_replicate_nat,Nat.pow_succ,Nat.mul_comm];exact Nat.mul_le_mul_right _ ih
def sa:∀m,m<=4->subs m m=(Cy m).map wl:=five ⟨by decide,by decide,by decide,by decide,by decide⟩
def adN:CR->Nat->List Nat->CR
 |r,_,[]=>r
 |r,n,x::xs=>adN (upd r n x) (n+1) xs
def IL (c:Cc):CR->Nat->List Nat->Bool
 |_,_,[]=>cq
 |r,n,x::xs=>decide ((Ci c (upd r n x) n).1=0)&&IL c (upd r n x) (n+1) xs
def t8 (c:Cc)(S:List Nat)(k:Nat):∀(r:CR) (n:Nat),Cv c S k r n=((pow S k).filter (IL c r n)).map (adN r n):=by
 induction k with
 |zero=>intro r n;rfl
 |succ k ih =>
  intro r n;simp only[Cv,pow];rw[List.filter_flatMap,List.map_flatMap];congr 1;funext x;rw[List.filter_map];by_cases h:(Ci c (upd r n x) n).1=0
  .rw[if_pos h,ih,List.map_map];have e:(IL c r n ∘ λy=>x::y)=IL c (upd r n x) (n+1):=by
    funext y;simp[IL,h]
   rw[e]
   rfl
  .rw[if_neg h];have e:(IL c r n ∘ λy=>x::y)=λ_=>false:=by
    funext y;simp[IL,h]
   rw[e];simp
end Go.Sq
