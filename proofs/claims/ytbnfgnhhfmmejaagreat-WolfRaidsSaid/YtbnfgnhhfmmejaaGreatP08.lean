/- Parts of the proof. -/
import Derived.Test.YtbnfgnhhfmmejaaGreatP07
import Derived.Laws.AppendOwnNone
set_option linter.all false
set_option maxHeartbeats 6400000
set_option maxRecDepth 1000000
open Go.Value renaming slice->Z,int->U,pointer->br
open Option renaming none->Y,some->J
open Go.IntKind renaming i64->I,signed->cw,wrap->ea,bits->eb
open Go renaming World->F,Value->O,Calls->ak,Addr->bc,wpOps_cons->bk,Ending->ed,TypeId->eA,Exit->eF
open Go.Proofs renaming intOf->C
open Go.Obj renaming cells->H
open Go.Code renaming region->bb
open List renaming range->bh,exists_cons_of_ne_nil->bw,range'->cf,getElem?_set_self->cq,length_pos_iff->dn,length_take_le->dr
open Decidable renaming byContradiction->bn,decide->eC
open Go.World renaming setCell->bo
open Bool renaming false->bq,true->bs
open Go.Builtin renaming append_->cu
open Go.Proofs.Tryz renaming f21->df,f23->dS,f78->ek,f43->eo
open Option.some renaming injEq->dy,inj->eG
open Array renaming getD->Array.LH,push->Array.LE
open Char renaming toNat->Char.L
open Eq renaming symm->Eq.LH
open Go renaming underlying->Go.LH
open Go.Addr renaming block->Go.Addr.LE
open Go.BoundsCode renaming toNat->Go.BoundsCode.L
open Go.Calls renaming mono->Go.Calls.LT
open Go.Code renaming below->Go.Code.Li,block->Go.Code.LE,region->Go.Code.L
open Go.Ending renaming returned->Go.Ending.L
open Go.Exit renaming normal->Go.Exit.L
open Go.Instr renaming alloc->Go.Instr.LK
open Go.Op renaming alloc->Go.Op.LK
open Go.Program renaming underlying->Go.Program.LH
open Go.RowKit.Below renaming block->Go.RowKit.Below.LE
open Go.TypeDesc renaming pointer->Go.TypeDesc.S
open Go.Value renaming ownBlock->Go.Value.L,pointer->Go.Value.S
open Go.World renaming alloc->Go.World.LK,cell?->Go.World.S,frozen?->Go.World.O,heap->Go.World.L,ownsRow->Go.World.H,setCell->Go.World.LH
open Go.World.grownBy renaming block->Go.World.grownBy.LE
open Go.World.ownsRow renaming alloc->Go.World.ownsRow.LK
open Int renaming toNat->Int.L
open List renaming below->List.Li,length->List.L,set->List.Lo,sum->List.LE,take->List.LT
open Nat renaming below->Nat.Li
open Ne renaming symm->Ne.LH
open Option renaming getD->Option.LH
open UInt8 renaming toNat->UInt8.L
namespace Go.Sq
open Go.Proofs
open Go.RowKit
def Mz (base B:Nat)(c:Ek)(v:O)(w:F):Prop:=B<=w.L.size/\∃xs,w.H base 57 4 v c.D8.L xs/\∀(i:Nat) (h:EZ),c.D8[i]?=J h->∃y,(∀j,j<4->xs[i*4+j]?=(dD h y)[j]?)/\∃A cc,y=Z A h.off.L cc/\RI w B A h.off
def Od (base B:Nat)(c:Ek):Ga Gr (Mz base B c):=λv w w' hg ⟨hB,xs,h,ho⟩=>⟨AU hB hg.size,xs,ap h λb _ hb=>hg.Li.LE b hb,λi x hx=>by
 obtain⟨y,h1,A,cc,e,hr⟩:=ho i x hx
 exact⟨y,h1,A,cc,e,hr.gr hB hg⟩⟩
def M7 (e s base:Nat)(v:O)(w:F):Prop:=∃b,v=.slice (J ⟨b,0,Y⟩) 0 0/\w.H base e s (.slice (J ⟨b,0,Y⟩) 0 0) 0 []
def MA (e s base:Nat):Ga Gr (M7 e s base):=λ_ _ _ hg ⟨b,e,h⟩=>⟨b,e,ap h λb _ hl=>hg.Li.LE b hl⟩
def qN {w:F}{e s base:Nat}(hg:base<=w.L.size):M7 e s base (.slice (J ⟨w.L.size,0,Y⟩) 0 0) (w.LK (H #[] e)):=⟨_,rfl,by simp,.inr ⟨w.L.size,0,#[],rfl,hg,heap_alloc_new w _,AK _,Bg _,by simp,by simp⟩⟩
def M8 {w:F}{base b B hc:Nat}{hA:Option bc}{c:Ek}(h0:w.H base 57 4 (.slice (J ⟨b,0,Y⟩) 0 0) 0 [])(hB:B<=w.L.size)(hh:Fe w B hA c.D8)(hl:c.D8.L<=20)(hbase:base<=w.L.size) :
  ∃v' w',(cu #[23,23] 23 #[.slice (J ⟨b,0,Y⟩) 0 0,Z hA c.D8.L hc]).run D7 w=.ok v' w'/\Gr w w'/\Mz base B c v' w':=by
 have ht:=Sq.underlying23;obtain⟨i0,hi,zF,zE,zD⟩:=info_parts DI;by_cases hn:c.D8=[]
 .refine⟨.slice (J ⟨b,0,Y⟩) 0 0,w,?_,.refl w,hB,[],by rw[hn];exact h0,λi x hx=>by rw[hn] at hx;simp at hx⟩;rw[hn];cases hA<;>simp[cu,run_underlying ht,sizeOf,typeInfo,hi,Builtin.lenOf,Builtin.firstCells,loadCells,loadCellsFrom,storeCells]
 .have a7:=dn.2 hn;obtain⟨a,o,rfl,hb,zW⟩:=hh hn;have hcell:∀j,j<c.D8.L*4->∃u,w.S ⟨a,o+j,Y⟩=J u/\u.oneCell'=true:=λj hj=>by
   obtain⟨h1,h2,h3,A,cc,h4,_⟩:=zW (j / 4) _ (AL (show j / 4<c.D8.L by omega));have:j % 4=0\/j % 4=1\/j % 4=2\/j % 4=3:=by omega
   obtain e|e|e|e:=this
   .rw[show o+j=o+j / 4*4 by omega];exact⟨_,h1,rfl⟩
   .rw[show o+j=o+j / 4*4+1 by omega];exact⟨_,h2,rfl⟩
   .rw[show o+j=o+j / 4*4+2 by omega];exact⟨_,h3,rfl⟩
   .rw[show o+j=o+j / 4*4+3 by omega];exact⟨_,h4,rfl⟩
  have hnews:∀j v,(I3 w a o c.D8.L)[j]?=J v->w.S ((⟨a,o,Y⟩:bc).add j)=J v:=λj u hj=>by
   have zY:j<c.D8.L*4:=by have:=(Be.1 hj).1;rwa [Ia] at this
   rw[fQ zY] at hj;obtain⟨v,hv,_⟩:=hcell j zY;rw[hv] at hj;rw[Addr.add_lit,hv];exact hj
  obtain⟨v',w',hr,h2,_⟩:=run_append_own (P:=D7) w base 23 23 57 i0 _ 4 48 ht hi zF zE zD rfl (by decide) _ 0 [] h0 ⟨a,o,Y⟩ c.D8.L hc (I3 w a o c.D8.L) (Ia _ _ _ _) hnews (λu hu=>by
   obtain⟨j,hj,rfl⟩:=Bu.1 hu;obtain⟨v,hv,h1⟩:=hcell j (BQ.1 hj)
   rw[hv];exact h1) (by unfold maxLen;omega) (by omega) hbase
  have zy:=run_append_grow (P:=D7) w 23 23 57 i0 _ ht hi zF ⟨b,0,Y⟩ 0 0 [] (by simp) (λj u hj=>by simp at hj) ⟨a,o,Y⟩ c.D8.L hc (I3 w a o c.D8.L) (by rw[zE];exact Ia _ _ _ _) hnews (by omega) (by omega) (by
   rw[zD];exact growslice_fits (by omega) (by omega))
  rw[hr] at zy;injection zy with _ e2
  have hg:Gr w w':=e2▸(Gr.refl w).drew.LK _;refine⟨v',w',hr,hg,AU hB hg.size,_,by simpa using h2,λi x hx=>?_⟩;obtain⟨a1,a2,a3,A,cc,a4,a6⟩:=zW i x hx;have a8:i<c.D8.L:=(Be.1 hx).1;refine⟨Z A x.off.L cc,λj hj=>?_,A,cc,rfl,a6.gr hB hg⟩;rw[fQ (by omega)];obtain rfl|rfl|rfl|rfl:=(show j=0\/j=1\/j=2\/j=3 by omega)
  .rw[Nat.add_zero,a1];rfl
  .rw[<-CT,a2];rfl
  .rw[<-CT,a3];rfl
  .rw[<-CT,a4];rfl
def J5 {w:F}{base size n:Nat}{e:eA}{v:O}{xs:List O}(h:w.H base e size v n xs):∃A c,v=Z A n c:=by
 obtain⟨rfl,rfl⟩|⟨g,c,_,rfl,_⟩:=h.2
 .exact⟨_,_,rfl⟩
 .exact⟨_,_,rfl⟩
structure CC (w:F)(B q:Nat)(c:Ek)(vN vH:O)(xs:List O)(k:Nat)(W:F):Prop where
 gr:Gr w W
 bd:w.L.size=q/\q+2<=W.L.size
 qo:W.L[q]?=J (H #[vN,vH] 25 (0,0))
 ro:W.L[q+1]?=J (H #[.slice Y 0 0,.slice Y 0 0] 25 (0,0))
 D9:W.H (q+2) 3 1 vN c.D9.L (c.D9.map (U I))
 LH:W.H (q+2) 57 4 vH c.D8.L xs
 K3:∀i h,c.D8[i]?=J h->∃y,(∀j,j<4->xs[i*4+j]?=(dD h y)[j]?)/\if i<k then W.H (q+2) 3 1 y h.off.L (h.off.map (U I)) else ∃A cc,y=Z A h.off.L cc/\RI W B A h.off
section
variable {w W W':F} {B q:Nat} {c:Ek} {vN vH:O} {xs:List O} {k:Nat}
def CC.keep (h:CC w B q c vN vH xs k W)(hB:B<=w.L.size)(hg:Gr W W'):CC w B q c vN vH xs k W':=by
 obtain⟨b1,b2⟩:=h.bd;have ok:∀ {e:eA} {sz n:Nat} {y:O} {zs:List O},W.H (q+2) e sz y n zs->W'.H (q+2) e sz y n zs:=λho=>ap ho λg _ hl=>hg.Li.LE g hl;refine⟨h.gr.trans hg,⟨b1,by have:=hg.size;omega⟩,(hg.Li.LE q (by omega)).trans h.qo,(hg.Li.LE (q+1) (by omega)).trans h.ro,ok h.D9,ok h.LH,λi x hx=>?_⟩;obtain⟨y,h1,h2⟩:=h.K3 i x hx;refine⟨y,h1,?_⟩;split
 .rename_i hi;rw[AP hi] at h2;exact ok h2
 .rename_i hi;rw[AN hi] at h2;obtain⟨A,cc,e,hr⟩:=h2;exact⟨A,cc,e,hr.gr (by omega) hg⟩
def CC.start {u0 u1:O}(hg:Gr w W)(hB:B<=w.L.size)(hq:w.L.size=q)(hz:q+2<=W.L.size)(h0:W.L[q]?=J (H #[u0,u1] 25 (0,0)))(h1:W.L[q+1]?=J (H #[.slice Y 0 0,.slice Y 0 0] 25 (0,0)))
  (hn:W.H (q+2) 3 1 vN c.D9.L (c.D9.map (U I))) (ho:Mz (q+2) B c vH W):∃xs,CC w B q c vN vH xs 0 ((W.LH ⟨q,0,Y⟩ vN).LH ⟨q,1,Y⟩ vH):=by
 obtain⟨_,xs,ho,hc⟩:=ho;have hs:∀x,x≠q->((W.LH ⟨q,0,Y⟩ vN).LH ⟨q,1,Y⟩ vH).L[x]?=W.L[x]?:=λx a7=>(Bb _ _ _ _ a7).trans (Bb _ _ _ _ a7);refine⟨xs,(hg.LH (by show _<=q;omega) _).LH (by show _<=q;omega) _,⟨hq,by simpa [bo] using hz⟩,?_,(hs _ (by omega)).trans h1,ap hn λg a6 _=>hs g (by have:=(hn.lt g a6).1;omega),ap ho λg a6 _=>hs g (by have:=(ho.lt g a6).1;omega),λi x hi=>?_⟩
 .rw[aL (aL h0)];rfl
 .obtain⟨y,h1,A,cc,e,hr⟩:=hc i x hi;exact⟨y,h1,by rw[AN (by omega)];exact⟨A,cc,e,hr.keep λb' o' hb'=>A7 (hs b' (by omega))⟩⟩
def CC.put {g hc:Nat}{y':O}(h:CC w B q c vN (.slice (J ⟨g,0,Y⟩) c.D8.L hc) xs k W)(hB:B<=w.L.size)(hk:k<c.D8.L)(hy:W.H (q+2) 3 1 y' (c.h k).off.L ((c.h k).off.map (U I))) :
  CC w B q c vN (.slice (J ⟨g,0,Y⟩) c.D8.L hc) (xs.Lo (k*4+3) y') (k+1) (W.LH ⟨g,k*4+3,Y⟩ y'):=by
 obtain⟨b1,b2⟩:=h.bd;have hgb:=h.LH.lt g rfl;have zk:xs.L=c.D8.L*4:=h.LH.1;have hs:∀b,b≠g->(W.LH ⟨g,k*4+3,Y⟩ y').L[b]?=W.L[b]?:=λb hb=>Bb _ _ _ _ hb;have ok:∀ {sz n:Nat} {y:O} {zs:List O},W.H (q+2) 3 sz y n zs->(W.LH ⟨g,k*4+3,Y⟩ y').H (q+2) 3 sz y n zs:=λho=>ap ho λb hb _=>hs b λe=>fO (by decide) ho h.LH hb (by rw[e];rfl);refine⟨h.gr.LH (by show _<=g;omega) _,⟨b1,by simpa [bo] using b2⟩,(hs q (by omega)).trans h.qo,(hs (q+1) (by omega)).trans h.ro,ok h.D9,(h.LH.stored (k*4+3) y').1,λi x hx=>?_⟩
 obtain⟨y,h1,h2⟩:=h.K3 i x hx;by_cases e:i=k
 .subst e;have ex:x=c.h i:=by
   unfold Ek.h;rw[hx];rfl
  refine⟨y',λj hj=>?_,by rw[AP (by omega),ex];exact ok hy⟩;by_cases e3:j=3
  .subst e3;rw[cq (by omega)];rfl
  .rw[Dg (by omega),h1 j hj];rcases(show j=0\/j=1\/j=2 by omega) with rfl|rfl|rfl<;>rfl
 .refine⟨y,λj hj=>by rw[Dg (by omega)];exact h1 j hj,?_⟩;by_cases hi:i<k
  .rw[AP hi] at h2;rw[AP (by omega)];exact ok h2
  .rw[AN hi] at h2;rw[AN (by omega)];obtain⟨A,cc,e4,hr⟩:=h2;exact⟨A,cc,e4,hr.keep λb o hb=>A7 (hs b (by omega))⟩
end
noncomputable def ky:Code:=Tryz.f13.body.LH .skip
noncomputable def M9:Code:=JH 2 ky
structure J6 (w:F)(base:Nat)(c:Ek)(vN vH:O)(xs:List O):Prop where
 D9:w.H base 3 1 vN c.D9.L (c.D9.map (U I))
 LH:w.H base 57 4 vH c.D8.L xs
 K3:∀(i:Nat) (h:EZ),c.D8[i]?=J h->∃y,(∀j,j<4->xs[i*4+j]?=(dD h y)[j]?)/\w.H base 3 1 y h.off.L (h.off.map (U I))
def iS (c:Ek)(w:F)(e:ed)(w':F):Prop :=
 Gr w w'/\∃a6 hA' a7 hc' xs,e=.L (En a6 hA' c a7 hc')/\J6 w' w.L.size c (Z a6 c.D9.L a7) (Z hA' c.D8.L hc') xs
def nJ (c:Ek)(w:F)(e:ed)(w':F):Prop :=
 Gr w w'/\∃a6 hA' a7 hc',e=.L (En a6 hA' c a7 hc')/\Ie w' (λb=>w.L.size<=b/\b<w'.L.size) a6 c.D9/\GK w' (λb=>w.L.size<=b/\b<w'.L.size) hA' c.D8
def J6.rik {w:F}{base nc:Nat}{c:Ek}{nA:Option bc}{vH:O}{xs:List O}(h:J6 w base c (Z nA c.D9.L nc) vH xs):Ie w (λb=>base<=b/\b<w.L.size) nA c.D9:=by
 obtain⟨A,k,e,hr⟩:=Gp h.D9;injection e with e1 _ _
 subst e1;exact hr
def J6.hsk {w:F}{base hc:Nat}{c:Ek}{hA:Option bc}{vN:O}{xs:List O}(h:J6 w base c vN (Z hA c.D8.L hc) xs):GK w (λb=>base<=b/\b<w.L.size) hA c.D8:=λhn=>by
 obtain⟨g,cap,e,hgb,zQ⟩:=h.LH.form (dn.2 hn);injection e with e1 _ _
 subst e1;refine⟨g,0,rfl,⟨hgb,zQ⟩,λi x hx=>?_⟩;have a8:i<c.D8.L:=(Be.1 hx).1;obtain⟨y,hy,a6⟩:=h.K3 i x hx;obtain⟨A',c',rfl,hr⟩:=Gp a6;have aA:xs.L=c.D8.L*4:=h.LH.1;have at_:∀j z,j<4->(dD x (Z A' x.off.L c'))[j]?=J z->w.S ⟨g,0+i*4+j,Y⟩=J z:=λj z a7 hz=>by
  rw[show 0+i*4+j=i*4+j by omega,h.LH.cellAt (i*4+j) (by omega),hy j a7];exact hz
 exact⟨at_ 0 _ (by omega) rfl,at_ 1 _ (by omega) rfl,at_ 2 _ (by omega) rfl,A',c',at_ 3 _ (by omega) rfl,hr⟩
def s6 {c:Ek}{w w':F}{e:ed}(h:iS c w e w'):nJ c w e w':=by
 obtain⟨h1,nA,hA,nc,hc,xs,rfl,h2⟩:=h;exact⟨h1,nA,hA,nc,hc,rfl,h2.rik,h2.hsk⟩
def qO {w W:F}{B a6 hc9:Nat}{c:Ek}{a7 a8:Option bc}{xs:List O}(h:CC w B w.L.size c (Z a7 c.D9.L a6) (Z a8 c.D8.L hc9) xs c.D8.L W)(hB:B<=w.L.size)(v0 v1:O) :
  iS c w (.L (En a7 a8 c a6 hc9)) ((W.LH ⟨w.L.size+1,0,Y⟩ v0).LH ⟨w.L.size+1,1,Y⟩ v1):=by
 have hs:∀b,b≠w.L.size+1->((W.LH ⟨w.L.size+1,0,Y⟩ v0).LH ⟨w.L.size+1,1,Y⟩ v1).L[b]?=W.L[b]?:=λb hb=>(Bb _ _ _ _ hb).trans (Bb _ _ _ _ hb);have ok:∀ {e:eA} {s n:Nat} {v:O} {zs:List O},W.H (w.L.size+2) e s v n zs->((W.LH ⟨w.L.size+1,0,Y⟩ v0).LH ⟨w.L.size+1,1,Y⟩ v1).H w.L.size e s v n zs:=λho=>FD (ap ho λg hg _=>hs g (by have:=(ho.lt g hg).1;omega)) (by omega)
 refine⟨(h.gr.LH (by show _<=w.L.size+1;omega) _).LH (by show _<=w.L.size+1;omega) _,_,_,_,_,xs,rfl,ok h.D9,ok h.LH,λi x hx=>?_⟩;obtain⟨y,hy,aA⟩:=h.K3 i x hx;rw[AP (Be.1 hx).1] at aA;exact⟨y,hy,ok aA⟩
noncomputable def MB:Array Oper:=match K4 (match K4 (Oa (match(match Oa (K4 M9) with|.LE _ b=>b|c=>c) with|.loop b=>b|c=>c)) with|.LE _ b=>b|c=>c) with|.L _ o _=>o|_=>#[]
def Qu (w0:F)(nq:Nat)(L:List O)(v:O)(w:F):Prop:=∃A k,v=Z A nq k/\w.H w0.L.size 3 1 v nq L
def Ls (w0:F)(nq:Nat)(L:List O):Ga Gr (Qu w0 nq L):=λv w w' hg ⟨A,k,e,h⟩=>⟨A,k,e,ap h λb _ hb=>hg.Li.LE b hb⟩
def uN {A:Option bc}{q g k n nq cc hc9:Nat}{L:List O}{W:F}{u:Nat->O}{Q:eF->Act->F->Prop}(h1:u 1=.S (J ⟨q,0,Y⟩))(h3:u 3=U I (k:Nat))(hk:k<n)
  (HC:Hid (∀V,Gr W V->(V.S ⟨q,1,Y⟩=J (.slice (J ⟨g,0,Y⟩) n hc9)/\V.S ⟨g,k*4+3,Y⟩=J (Z A nq cc)/\V.O ⟨g,k*4+3,Y⟩=bq)/\q<V.L.size/\g<V.L.size))
  (HQ:Hid (∀V,Gr W V->ak D7 39 #[Z A nq cc] V λe w'=>∃v,e=.L v/\w'.H V.L.size 3 1 v nq L/\Gr V w'))
  (hK:∀W5 u' A5 k5,Gr W W5->W5.H W.L.size 3 1 (Z A5 nq k5) nq L->(∀t,FN MB t=bs->u' t=u t)->Q .L ⟨T 33 u',[]⟩ (W5.LH ⟨g,k*4+3,Y⟩ (Z A5 nq k5))):(bb 5 MB bs).wp D7 Q ⟨T 33 u,[]⟩ W:=by
 refine aD (R:=Gr) 10<|Ed (Lg 1 (Ic h1))<|Ed (FU (El 0) λw hg=>by obtain⟨⟨c0,c1,f1⟩,cl,rl⟩:=HC.out w hg;assumption)<|Ed (Em h3)<|Ed (Lg 1 (Ic h1))<|Ed (FU (El 3) λw hg=>by obtain⟨⟨c0,c1,f1⟩,cl,rl⟩:=HC.out w hg;assumption)<|Ed (Em h3)<|Ed (FI (k*4) 4 (El 4) (El 5))<|Ed (Lg (k*4+3) (El 6))<|Ed (FU (El 7) λw hg=>by obtain⟨⟨c0,c1,f1⟩,cl,rl⟩:=HC.out w hg;assumption)<|Ed (Je Sq.func39 [8] (Qu W nq L) (Ls _ _ _) λw hg=>(HQ.out w hg).LT λe w' h=>?_)<|FJ λu w hg hf hv=>?_
 .obtain⟨v,rfl,h1,h2⟩:=h;obtain⟨A5,k5,rfl⟩:=J5 h1;exact⟨_,rfl,h2,A5,k5,rfl,FD h1 hg.size⟩
 .obtain⟨A5,k5,e29,ho⟩:=hv.at_ 9 29;have a6:=hv.at_ 1 21;have a7:=hv.at_ 2 22;have er:cf 10 (MB.size-10)=[10,11,12]:=by kernel_rfl
  obtain⟨⟨c0,c1,f1⟩,cl,rl⟩:=HC.out w hg;rw[er,bk];refine gt (op:=.indexAddr 23 (.tmp 21) (.tmp 22)) (t:=0) rfl (.S (J ⟨g,k*4,Y⟩)) w (λev he=>?_) ?_
  .have e1:=(he.t 21).trans a6;have e2:=(he.t 22).trans a7;clear hv hf hg he hK ho;go_simp
   all_goals (intro h9;omega)
  .rw[bk];refine gt (op:=.fieldAddr 57 (.tmp 30) 3) (t:=0) rfl (.S (J ⟨g,k*4+3,Y⟩)) w (λev he=>?_) ?_
   .have e1:=(he.t 30).trans (bi ..);clear hv hf hg he hK ho;go_simp
   .rw[bk];refine dE (op:=.store 22 (.tmp 31) (.tmp 29)) (t:=0) rfl (w.LH ⟨g,k*4+3,Y⟩ (Z A5 nq k5)) (λev he=>?_) ?_
    .have e1:=(he.t 31).trans (bi ..);have e2:=(he.t 29).trans ((Fw (by decide)).trans ((Fw (by decide)).trans e29));clear hv hf hg he hK ho;go_simp
    .show Q .L _ _;have f30:FN MB 30=false:=by kernel_rfl
     have f31:FN MB 31=false:=by kernel_rfl
     exact hK _ _ A5 k5 hg (e29▸ho) λt ht=>(Fw λe=>by rw[e,f31] at ht;cases ht).trans ((Fw λe=>by rw[e,f30] at ht;cases ht).trans (hf t ht))
def qP {w W:F}{B a6 hc9:Nat}{c:Ek}{a7 a8:Option bc}{xs0:List O}{u:Nat->O}(h1:u 1=.S (J ⟨w.L.size,0,Y⟩))(h2:u 2=.S (J ⟨w.L.size+1,0,Y⟩))(hB:B<=w.L.size)(zC:c.D8.L<=20)(Fa:∀h∈c.D8,h.off.L<=20)
  (h:CC w B w.L.size c (Z a7 c.D9.L a6) (Z a8 c.D8.L hc9) xs0 0 W):M9.wp D7 (bodyPost D7 Tryz.f13 (iS c w)) ⟨T 33 u,[]⟩ W:=by
 have aL:=AI h;have aM:=AI Fa;clear h Fa;have ez:M9=JH 2 ky:=rfl;simp only[JH,ky,Tryz.f13,Bf,Oa] at ez;rw[ez];clear ez;unfold T;simp only[bh,List.range.loop,Ci,CX,h1,h2];go_wp2;go_loopw [3] (λi wr=>∃k:Nat,k<=c.D8.L/\i=U I k/\∃xs,CC w B w.L.size c (Z a7 c.D9.L a6) (Z a8 c.D8.L hc9) xs k wr) (λi _=>c.D8.L-(C i).L)
 case atStart=>exact⟨0,by omega,rfl,_,aL.out⟩
 case round =>
  obtain⟨k,hk,rfl,xs,hcc⟩:=hrel;have aS:=AI hcc;obtain⟨s0,s1⟩:=Eh hcc.qo 1;obtain⟨s2,_⟩:=Eh hcc.qo 0;simp only[BA,Bz,Bt] at s0 s2;have hzz:=hcc.bd;have aT:w.L.size<wr.L.size:=by omega
  by_cases zY:k<c.D8.L
  .obtain⟨g,cap,hv,hgb,zQ⟩:=hcc.LH.form (by omega);injection hv with aN _ hv2
   subst aN hv2;have hce:c.D8[k]?=J (c.h k):=by unfold Ek.h;rw[AL zY];rfl
   obtain⟨y,hy,aF⟩:=hcc.K3 k _ hce;rw[AN (by omega)] at aF;obtain⟨A,cc,rfl,aG⟩:=aF;have aO:xs.L=c.D8.L*4:=hcc.LH.1;have t0:wr.S ⟨g,k*4+3,Y⟩=J (Z A (c.h k).off.L cc):=by
    rw[hcc.LH.cellAt (k*4+3) (by omega)];exact hy 3 (by omega)
   have aP:=aM.out _ (c.I9 zY);have aB:=AI (λW (hg:Gr wr W)=>gP A cc (c.h k).off W B (aG.gr (by omega) hg) (by have:=hg.size;omega) (by omega));have aC:Hid (∀W,Gr wr W->CC w B w.L.size c (Z a7 c.D9.L a6) (.slice (J ⟨g,0,Y⟩) c.D8.L hc9) xs k W):=AI λW hg=>hcc.keep hB hg;have aA:Hid (∀W,Gr wr W->((W.S ⟨w.L.size,1,Y⟩=J (.slice (J ⟨g,0,Y⟩) c.D8.L hc9)/\W.O ⟨w.L.size,1,Y⟩=bq)/\W.S ⟨g,k*4+3,Y⟩=J (Z A (c.h k).off.L cc)/\W.O ⟨g,k*4+3,Y⟩=bq)/\w.L.size<W.L.size/\g<W.L.size):=AI λW hg=>by
    have h:=aC.out W hg;obtain⟨s0,s1⟩:=Eh h.qo 1;exact⟨⟨⟨s0,s1⟩,(hg.cell (p:=⟨g,k*4+3,Y⟩) zQ).trans t0,h.LH.frozenAt (k*4+3)⟩,by have:=hg.size;omega,by have:=hg.size;omega⟩
   have f0:=hcc.LH.frozenAt (k*4+3);have HGC:=AI (Gr.refl wr);have hne1:¬g=w.L.size:=by omega
   have hne2:¬w.L.size=g:=by omega
   generalize aD:(c.h k).off.L=nq at t0 aB aA aP;replace aD:=AI aD;clear hcc hy aG aO s2;go_wp2;rename_i aQ _;refine fX 33 rfl λu5 hu=>?_;refine uN (q:=w.L.size) (g:=g) (k:=k) (n:=c.D8.L) (hc9:=hc9) (hu 1) (hu 3) zY (AI λV hV=>⟨⟨(aA.out V hV).1.1.1,(aA.out V hV).1.2⟩,(aA.out V hV).2⟩) aB λW5 u6 A5 k5 aH ho5 aI=>?_;have aJ:=AI ((aC.out W5 aH).put hB zY (y':=Z A5 nq k5) (by rw[aD.out];exact FD ho5 (by omega)))
   refine aQ _ _ ?_;rw[dU (n:=33) [20,21,22,23,24,25,26,27,28,29,30,31] (by kernel_rfl) rfl hu aI];simp only[B1,CG,Cb,Ch];clear aA aB aC ho5 aH hu aI;go_wp2;go_roundw
   case rel=>exact⟨k+1,by omega,by go_num,_,aJ.out⟩
   case measure=>simp[Proofs.intOf];omega
  .have aR:k=c.D8.L:=by omega
   subst aR;obtain⟨t0,t1⟩:=Eh hcc.ro 0;obtain⟨t2,_⟩:=Eh hcc.ro 1;simp only[BA,Bz,Bt] at t0 t2;obtain⟨_,t3⟩:=Eh hcc.ro 1;have hql2:w.L.size+1<wr.L.size:=by omega
   have aK:=AI (λv0 v1=>qO hcc hB v0 v1);clear hcc;go_wp2;have z0:((wr.LH ⟨w.L.size+1,0,Y⟩ (Z a7 c.D9.L a6)).LH ⟨w.L.size+1,1,Y⟩ (Z a8 c.D8.L hc9)).S ⟨w.L.size+1,0,Y⟩=J (Z a7 c.D9.L a6):=by
    rw[AW _ _ _ _ (by simp)];exact Ba _ _ _ t0
   have z1:((wr.LH ⟨w.L.size+1,0,Y⟩ (Z a7 c.D9.L a6)).LH ⟨w.L.size+1,1,Y⟩ (Z a8 c.D8.L hc9)).S ⟨w.L.size+1,1,Y⟩=J (Z a8 c.D8.L hc9) :=
    Ba _ _ _ ((AW _ _ _ _ (by simp)).trans t2)
   have hend:=aK.out (Z a7 c.D9.L a6) (Z a8 c.D8.L hc9);generalize (wr.LH ⟨w.L.size+1,0,Y⟩ (Z a7 c.D9.L a6)).LH ⟨w.L.size+1,1,Y⟩ (Z a8 c.D8.L hc9)=W8 at z0 z1 hend;refine bodyPost_ret (v:=.agg #[Z a7 c.D9.L a6,Z a8 c.D8.L hc9]) (by simp[results,Tryz.results13,go_sem,z0,z1]) rfl hend
def jb {ev:Operand->O}{s x:Operand}{t:eA}{P:Program}{w w':F}{v:O}(hr:(cu #[t,t] t #[ev s,ev x]).run P w=.ok v w'):(execOp ev (IV (.call { callee:=.builtin .append,args:=#[s,x],argTypes:=#[t,t] }) t)).run P w=.ok (.value v) w':=by
 unfold execOp IV;simp only[resolve,invoke,builtin,Sem.run_bind,Sem.run_pure,Result.andThen_ok,C4,Ci,CX,hr]
noncomputable def LP:Array Oper:=match K4 (JH 1 ky) with|.L _ o _=>o|_=>#[]
def uO {nA hA:Option bc}{q nc hc B:Nat}{c:Ek}{W:F}{u:Nat->O}{Q:eF->Act->F->Prop}(h1:u 1=.S (J ⟨q,0,Y⟩))(hB:B<=W.L.size)(hl:c.D8.L<=20)(HH:Hid (∀V,Gr W V->Fe V B hA c.D8))
  (HC:Hid (∀V,Gr W V->((V.S ⟨q,0,Y⟩=J (Z nA c.D9.L nc)/\V.O ⟨q,0,Y⟩=bq)/\V.S ⟨q,1,Y⟩=J (Z hA c.D8.L hc)/\V.O ⟨q,1,Y⟩=bq)/\q<V.L.size))
  (HQ:Hid (∀V,Gr W V->ak D7 39 #[Z nA c.D9.L nc] V λe w'=>∃v,e=.L v/\w'.H V.L.size 3 1 v c.D9.L (c.D9.map (U I))/\Gr V w'))
  (hK:∀W5 u' A5 k5 A6 k6,Gr W W5->W5.H W.L.size 3 1 (Z A5 c.D9.L k5) c.D9.L (c.D9.map (U I))->Mz W.L.size B c (Z A6 c.D8.L k6) W5->(∀t,FN LP t=bs->u' t=u t) ->
   Q .L ⟨T 33 u',[]⟩ ((W5.LH ⟨q,0,Y⟩ (Z A5 c.D9.L k5)).LH ⟨q,1,Y⟩ (Z A6 c.D8.L k6))):(bb 1 LP bs).wp D7 Q ⟨T 33 u,[]⟩ W:=by
 refine aD (R:=Gr) 8<|Ed (Lg 0 (Ic h1))<|Ed (FU (El 0) λw hg=>by obtain⟨⟨⟨c0,f0⟩,c1,f1⟩,cl⟩:=HC.out w hg;assumption)<|Ed (Je Sq.func39 [1] (Qu W c.D9.L (c.D9.map (U I))) (Ls _ _ _) λw hg=>(HQ.out w hg).LT λe w' h=>?_)<|Ed (KC (M7 57 4 W.L.size) (MA _ _ _) ?_)<|Ed (Lg 1 (Ic h1))<|Ed (FU (El 4) λw hg=>by obtain⟨⟨⟨c0,f0⟩,c1,f1⟩,cl⟩:=HC.out w hg;assumption)<|Ed (KC (Mz W.L.size B c) (Od _ _ _) ?_)<|Ed (Lg 0 (Ic h1))<|FJ λu w hg hf hv=>?_
 .obtain⟨v,rfl,h1,h2⟩:=h;obtain⟨A5,k5,rfl⟩:=J5 h1;exact⟨_,rfl,h2,A5,k5,rfl,FD h1 hg.size⟩
 .intro u w hg hf hl hd;refine aV (op:=.buildSlice 23 0 #[]) (t:=23) rfl _ (w.LK (H #[] 57)) (λev he=>?_) ((Gr.refl w).LK _) (qN hg.size);clear hg hf hl hd he;go_simp
 .intro u w hg hf hl' hd;obtain⟨b,e1,h0⟩:=hd.at_ 3 7;obtain⟨v,w9,hr,a7,h9⟩:=M8 h0 (AU hB hg.size) (HH.out w hg) hl hg.size;refine aV (op:=.call { callee:=Callee.builtin Builtin.append,args:=#[.tmp 7,.tmp 9],argTypes:=#[23,23] }) (t:=23) rfl v w9 (λev he=>?_) a7 h9;have e2:=(he.t 7).trans e1;have e3:=(he.t 9).trans (hd.at_ 5 9);exact jb (by rw[e2,e3];exact hr)
 .obtain⟨A5,k5,e6,ho⟩:=hv.at_ 2 6;have hh:=hv.at_ 6 10;have e11:=hv.at_ 7 11;obtain⟨A6,k6,a6⟩:∃A6 k6,u 10=Z A6 c.D8.L k6:=by
   obtain⟨_,xs,h,_⟩:=hh;exact J5 h
  have er:cf 8 (LP.size-8)=[8,9,10]:=by kernel_rfl
  obtain⟨⟨⟨c0,f0⟩,c1,f1⟩,cl⟩:=HC.out w hg;have e1:=(hf.at_ 1).trans h1;rw[er,bk];refine dE (d:=Y) (op:=.store 22 (.tmp 11) (.tmp 6)) (t:=0) rfl (w.LH ⟨q,0,Y⟩ (Z A5 c.D9.L k5)) (λev he=>?_) ?_
  .have e2:=(he.t 11).trans e11;have e3:=(he.t 6).trans e6;clear hv hf hg he hK ho hh;go_simp
  rw[bk];refine gt (d:=J 12) (op:=.fieldAddr 25 (.tmp 1) 1) (t:=0) rfl (.S (J ⟨q,1,Y⟩)) (w.LH ⟨q,0,Y⟩ (Z A5 c.D9.L k5)) (λev he=>?_) ?_
  .have e2:=(he.t 1).trans e1;clear hv hf hg he hK ho hh;go_simp
  rw[bk];refine dE (d:=Y) (op:=.store 23 (.tmp 12) (.tmp 10)) (t:=0) rfl ((w.LH ⟨q,0,Y⟩ (Z A5 c.D9.L k5)).LH ⟨q,1,Y⟩ (Z A6 c.D8.L k6)) (λev he=>?_) ?_
  .have e2:=(he.t 12).trans (bi ..);have e3:=(he.t 10).trans ((Fw (by decide)).trans a6);clear hv hf hg he hK ho hh;go_simp
  show Q .L _ _;have f12:FN LP 12=false:=by kernel_rfl
  exact hK _ _ A5 k5 A6 k6 hg (e6▸ho) (a6▸hh) λt ht=>(Fw λe=>by rw[e,f12] at ht;cases ht).trans (hf t ht)
def oG (nA hA:Option bc)(nc hc:Nat)(c:Ek)(w:F)(B:Nat)(hB:B<=w.L.size)(hn:RI w B nA c.D9)(hh:Fe w B hA c.D8)(Gg:c.D9.L<=20)(zC:c.D8.L<=20)(Fa:∀h∈c.D8,h.off.L<=20) :
  ak D7 13 #[En nA hA c nc hc] w (iS c w):=by
 unfold En;obtain⟨W0,zM⟩:∃W0:F,W0=(w.LK (H #[Z nA c.D9.L nc,Z hA c.D8.L hc] 25)).LK (H #[.slice Y 0 0,.slice Y 0 0] 25):=⟨_,rfl⟩;have zL:Gr w W0:=zM▸((Gr.refl w).LK _).LK _;have zF:W0.L.size=w.L.size+2:=by rw[zM];simp
 have aA:=AI zL;have aB:=AI Fa
 have a7:Hid (W0.L[w.L.size]?=J (H #[Z nA c.D9.L nc,Z hA c.D8.L hc] 25 (0,0))/\W0.L[w.L.size+1]?=J (H #[.slice Y 0 0,.slice Y 0 0] 25 (0,0))):=AI (by
  rw[zM]
  exact⟨(aa _ _ (by simp)).trans (heap_alloc_new _ _),aS _ _ (by simp)⟩)
 have HC:=AI λV (hV:Gr W0 V)=>(hV.Li.LE w.L.size (by omega)).trans a7.out.1;have HW:=AI zM;have aC:=AI (λW (hg:Gr W0 W)=>gP nA nc c.D9 W B (hn.gr hB (zL.trans hg)) (by have:=hg.size;omega) (by omega));have aD:=AI (λW (hg:Gr W0 W)=>hh.keep λb o hb=>(zL.trans hg).cell (p:=⟨b,o,Y⟩) (AO hb hB));clear zL hh hn Fa zM;go_enter Sq.func13,Tryz.ntmps13;go_wp2;rw[<-HW.out];rename_i aF;refine fX 33 rfl λu hu=>?_
 refine uO (B:=B) (hc:=hc) (hu 1) (by omega) zC aD (AI λV hV=>?_) aC λW5 u' A5 k5 A6 k6 a6 ho hh a8=>aF _ _ ?_
 .have h:=HC.out V hV;exact⟨⟨Eh h 0,Eh h 1⟩,by have:=hV.size;omega⟩
 .have aG:=a6.size;rw[zF] at ho hh;obtain⟨xs,hcc⟩:=CC.start (aA.out.trans a6) hB rfl (by omega) (HC.out W5 a6) ((a6.Li.LE _ (by omega)).trans a7.out.2) ho hh;exact qP ((a8 1 (by kernel_rfl)).trans (hu 1)) ((a8 2 (by kernel_rfl)).trans (hu 2)) hB zC aB.out hcc
def qQ (nA hA:Option bc)(nc hc:Nat)(c:Ek)(w:F)(B:Nat)(hB:B<=w.L.size)(hn:RI w B nA c.D9)(hh:Fe w B hA c.D8)(Gg:c.D9.L<=20)(zC:c.D8.L<=20)(Fa:∀h∈c.D8,h.off.L<=20) :
  ak D7 13 #[En nA hA c nc hc] w (nJ c w) :=
 (oG nA hA nc hc c w B hB hn hh Gg zC Fa).LT λ_ _ h=>s6 h
def oH (nA hA a6 hA':Option bc)(nc hc a7 hc':Nat)(c:Ek)(w:F)(hn:RI w w.L.size nA c.D9)(hh:Fe w w.L.size hA c.D8)(a8:RI w w.L.size a6 c.D9)(aA:Fe w w.L.size hA' c.D8)(Gg:c.D9.L<=20)(zC:c.D8.L<=20)(Fa:∀h∈c.D8,h.off.L<=20) :
  ak D7 25 #[En nA hA c nc hc,En a6 hA' c a7 hc'] w λe w'=>e=.L (.bool bs)/\Gr w w':=by
 unfold En;obtain⟨W0,zM⟩:∃W0:F,W0=(w.LK (H #[Z nA c.D9.L nc,Z hA c.D8.L hc] 25)).LK (H #[Z a6 c.D9.L a7,Z hA' c.D8.L hc'] 25):=⟨_,rfl⟩;have zL:Gr w W0:=zM▸((Gr.refl w).LK _).LK _;have zF:W0.L.size=w.L.size+2:=by rw[zM];simp
 have aF:=AI zL;have HH:=AI (hh.keep λb o hb=>zL.cell hb);have HH':=AI (aA.keep λb o hb=>zL.cell hb);have aG:=AI Fa;have HC:Hid (∀W,Gr W0 W->(W.S ⟨w.L.size,0,Y⟩=J (Z nA c.D9.L nc)/\W.S ⟨w.L.size,1,Y⟩=J (Z hA c.D8.L hc)/\W.S ⟨w.L.size+1,0,Y⟩=J (Z a6 c.D9.L a7)/\W.S ⟨w.L.size+1,1,Y⟩=J (Z hA' c.D8.L hc'))/\w.L.size+1<W.L.size):=AI λW hg=>by
  have:=hg.size;have e1:∀i,i<2->W.S ⟨w.L.size,i,Y⟩=(#[Z nA c.D9.L nc,Z hA c.D8.L hc])[i]?:=λi hi=>by
   rw[hg.cell (by show w.L.size<_;omega),zM,Bi _ _ _ (by simp),AM _ _ _ _ rfl]
  have e2:∀i,i<2->W.S ⟨w.L.size+1,i,Y⟩=(#[Z a6 c.D9.L a7,Z hA' c.D8.L hc'])[i]?:=λi hi=>by
   rw[hg.cell (by show w.L.size+1<_;omega),zM,AM _ _ _ _ (by simp)]
  exact⟨⟨e1 0 (by omega),e1 1 (by omega),e2 0 (by omega),e2 1 (by omega)⟩,by omega⟩
 have HW:=AI zM;have hsn:=bM nA a6 nc a7 c.D9 c.D9 W0 w.L.size (by omega) (hn.gr (AK _) zL) (a8.gr (AK _) zL) (by omega) (by omega);have aH:=AI hsn;clear zL hh hn aA a8 Fa hsn zM;go_enter Sq.func25,Tryz.ntmps25;go_wp2;rw[<-HW.out];obtain⟨⟨a0,a1,a2,a3⟩,a4⟩:=HC.out W0 (.refl _);have a5:w.L.size<W0.L.size:=by omega
 refine aH.out.LT ?_;rintro e w1 ⟨rfl,zJ⟩;have aB:=AI zJ;clear zJ a0 a1 a2 a3 a4 a5;obtain⟨⟨a0,a1,a2,a3⟩,a4⟩:=HC.out w1 aB.out;have a5:w.L.size<w1.L.size:=by omega
 simp only[decide_true];go_wp2;go_loopw [5] (λi wr=>∃k:Nat,k<=c.D8.L/\i=U I k/\Gr W0 wr) (λi _=>c.D8.L-(C i).L)
 case atStart=>exact⟨0,by omega,rfl,aB.out⟩
 case round =>
  obtain⟨k,hk,rfl,hg⟩:=hrel;have HG:=AI hg;clear hg a0 a1 a2 a3 a4 a5;obtain⟨⟨a0,a1,a2,a3⟩,a4⟩:=HC.out wr HG.out;have a5:w.L.size<wr.L.size:=by omega
  by_cases zY:k<c.D8.L
  .obtain⟨b,o,rfl,hb,b0,b1,b2,A,cc,b3,hr⟩:=(HH.out.keep λb o hb=>HG.out.cell (by show b<_;omega)).at_ zY;obtain⟨b',o',rfl,hb',c0,c1,c2,A',cc',c3,aC⟩:=(HH'.out.keep λb o hb=>HG.out.cell (by show b<_;omega)).at_ zY;have aK:=aG.out _ (c.I9 zY);have HS:=AI (λW (hg:Gr wr W)=>bM A A' cc cc' (c.h k).off (c.h k).off W w.L.size (by have:=hg.size;omega) (hr.gr (by omega) hg) (aC.gr (by omega) hg) (by omega) (by omega))
   clear hr aC;have hbl:b<wr.L.size:=by omega
   have hbl':b'<wr.L.size:=by omega
   go_wp2;go_region
   all_goals
    go_wp2;refine(HS.out _ ((((Gr.refl wr).LK _).LK _).drew)).LT ?_;rintro e w5 ⟨rfl,aD⟩;have aI:=AI (HG.out.trans (((((Gr.refl wr).LK _).LK _).drew).trans aD));clear aD HS;simp only[decide_true];go_wp2;go_roundw
    case rel=>exact⟨k+1,by omega,by go_num,aI.out⟩
    case measure=>simp[Proofs.intOf];omega
  .have aJ:k=c.D8.L:=by omega
   subst aJ;go_wp2;go_ret;exact⟨rfl,aF.out.trans HG.out⟩
structure Cas where
 nA:Option bc
 hA:Option bc
 gA:Option bc
 nc:Nat
 hc:Nat
 gc:Nat
 c:Ek
 ls:List (List Int)
structure Cas.Small (x:Cas):Prop where
 n:x.c.D9.L<=20
 h:x.c.D8.L<=20
 o:∀y∈x.c.D8,y.off.L<=20
 l:x.ls.L<=20
 g:∀y∈x.ls,y.L<=20
structure Cas.At (x:Cas)(W:F):Prop where
 n:RI W W.L.size x.nA x.c.D9
 h:Fe W W.L.size x.hA x.c.D8
 g:E7 W W.L.size x.gA x.ls
def _root_.Go.Sq.E7.on {w w':F}{A:Option bc}{l:List (List Int)}(h:E7 w w.L.size A l)(hg:Gr w w'):E7 w' w'.L.size A l:=(h.gr (AK _) hg).more hg.size
def _root_.Go.Sq.Fe.on {w w':F}{A:Option bc}{l:List EZ}(h:Fe w w.L.size A l)(hg:Gr w w'):Fe w' w'.L.size A l:=(h.keep λ_ _ hb=>hg.cell hb).more hg.size
def Cas.At.gr {x:Cas}{W W':F}(h:x.At W)(hg:Gr W W'):x.At W':=⟨(h.n.gr (AK _) hg).more hg.size,h.h.on hg,h.g.on hg⟩
structure O8 (W:F)(cb co rb ro k:Nat)(x:Cas):Prop where
 c0:W.S ⟨cb,co+k*2,Y⟩=J (.slice x.nA x.c.D9.L x.nc)
 c1:W.S ⟨cb,co+k*2+1,Y⟩=J (.slice x.hA x.c.D8.L x.hc)
 r0:W.S ⟨rb,ro+k,Y⟩=J (.slice x.gA x.ls.L x.gc)
 lt:cb<W.L.size/\rb<W.L.size
 at_:x.At W
 small:x.Small
def O8.gr {W W':F}{cb co rb ro k:Nat}{x:Cas}(h:O8 W cb co rb ro k x)(hg:Gr W W'):O8 W' cb co rb ro k x :=
 ⟨(hg.cell (p:=⟨cb,_,Y⟩) h.lt.1).trans h.c0,(hg.cell (p:=⟨cb,_,Y⟩) h.lt.1).trans h.c1,(hg.cell (p:=⟨rb,_,Y⟩) h.lt.2).trans h.r0,⟨AO h.lt.1 hg.size,AO h.lt.2 hg.size⟩,h.at_.gr hg,h.small⟩
def dc (L:List Int)(E:Int)(w:F)(e:ed)(w':F):Prop:=Gr w w'/\∃A k,e=.L (.tuple #[Z A L.L k,U I E])/\RI w' w'.L.size A L
open Go.EB
variable {R:F->F->Prop} {ops:Array Oper} {Q:eF->Act->F->Prop} {n m:Nat} {u:Nat->O} {ds:List Deferred} {w w':F}
def Qv (c:Ek)(w0:F)(v:O)(w:F):Prop:=∃nA hA nc hc,v=En nA hA c nc hc/\Ie w (λb=>w0.L.size<=b/\b<w.L.size) nA c.D9/\GK w (λb=>w0.L.size<=b/\b<w.L.size) hA c.D8
def O9 (c:Ek)(w0:F):Ga Gr (Qv c w0):=λv w w' hg ⟨nA,hA,nc,hc,e,h1,h2⟩ =>
 ⟨nA,hA,nc,hc,e,eh h1 (λb hb=>⟨hb.1,AO hb.2 hg.size⟩) λb o hb=>hg.cell (p:=⟨b,o,Y⟩) hb.2,gO h2 (λb hb=>⟨hb.1,AO hb.2 hg.size⟩) λb o hb=>hg.cell (p:=⟨b,o,Y⟩) hb.2⟩
def Qw {c:Ek}{w0 w w':F}{e:ed}(hg:Gr w0 w)(h:nJ c w e w'):∃v,e=.L v/\Gr w w'/\Qv c w0 v w':=by
 obtain⟨h1,nA,hA,nc,hc,rfl,h2,h3⟩:=h;have hk:∀b,w.L.size<=b/\b<w'.L.size->w0.L.size<=b/\b<w'.L.size:=λb hb=>⟨AU hg.size hb.1,hb.2⟩;exact⟨_,rfl,h1,nA,hA,nc,hc,rfl,eh h2 hk λ_ _ _=>rfl,gO h3 hk λ_ _ _=>rfl⟩
def P0 (ls:List (List Int))(w0:F)(v:O)(w:F):Prop:=∃xs,EH w w0.L.size v ls xs
def Oe (ls:List (List Int))(w0:F):Ga Gr (P0 ls w0):=λv w w' hg ⟨xs,h⟩=>⟨xs,h.keep λb hb=>hg.Li.LE b hb⟩
def lQ {w:F}{B B':Nat}{v:O}{ls:List (List Int)}{xs:List O}(h:EH w B v ls xs)(hb:B'<=B):EH w B' v ls xs :=
 ⟨FD h.row hb,λi l hi=>by obtain⟨u,h1,h2⟩:=h.cells i l hi;exact⟨u,h1,FD h2 hb⟩⟩
def Ry (w0:F)(v:O)(w:F):Prop:=∃b,v=.S (J ⟨b,0,Y⟩)/\w0.L.size<=b/\w.L[b]?=J (H #[.slice Y 0 0,.slice Y 0 0] 25 (0,0))
def Pa (w0:F):Ga Gr (Ry w0):=λv w w' hg ⟨b,e,h1,h2⟩=>⟨b,e,h1,(hg.Li.LE b (AJ.1 h2).1).trans h2⟩
section
variable {w0 w:F} {b:Nat} {x y:O}
def Kl (hb:w.L[b]?=J (H #[.slice Y 0 0,.slice Y 0 0] 25 (0,0))) :
  (w.S ⟨b,0,Y⟩=J (.slice Y 0 0)/\w.S ⟨b,1,Y⟩=J (.slice Y 0 0)/\w.O ⟨b,0,Y⟩=bq/\w.O ⟨b,1,Y⟩=bq)/\b<w.L.size:=by
 obtain⟨h1,h2⟩:=Eh hb 0;obtain⟨h3,h4⟩:=Eh hb 1;exact⟨⟨h1,h3,h2,h4⟩,(AJ.1 hb).1⟩
def eP (b':Nat)(h:b'≠b):((w.LH ⟨b,0,Y⟩ x).LH ⟨b,1,Y⟩ y).L[b']?=w.L[b']?:=(Bb _ _ _ _ h).trans (Bb _ _ _ _ h)
def gS:((w.LH ⟨b,0,Y⟩ x).LH ⟨b,1,Y⟩ y).L.size=w.L.size:=by simp[bo]
def ta (hg:Gr w0 w)(hb:w0.L.size<=b):Gr w0 ((w.LH ⟨b,0,Y⟩ x).LH ⟨b,1,Y⟩ y):=(hg.LH (p:=⟨b,0,Y⟩) hb x).LH (p:=⟨b,1,Y⟩) hb y
def NC (hb:w.L[b]?=J (H #[.slice Y 0 0,.slice Y 0 0] 25 (0,0))) :
  ((w.LH ⟨b,0,Y⟩ x).LH ⟨b,1,Y⟩ y).S ⟨b,0,Y⟩=J x/\((w.LH ⟨b,0,Y⟩ x).LH ⟨b,1,Y⟩ y).S ⟨b,1,Y⟩=J y:=by
 obtain⟨⟨h1,h2,_⟩,_⟩:=Kl hb;refine⟨(AW _ _ _ _ (by simp)).trans (Ba _ _ _ h1),Ba _ _ _ ((AW _ _ _ _ (by simp)).trans h2)⟩
def pA (hb:w.L[b]?=J (H #[.slice Y 0 0,.slice Y 0 0] 25 (0,0))){b' o:Nat}{k:IntKind}{z:Int}(h:w.S ⟨b',o,Y⟩=J (.int k z)):b'≠b:=λe=>by
 subst e;unfold World.cell? at h;dsimp only at h;rw[hb] at h;dsimp only at h;simp only[CZ,Bj,if_false] at h
 match o,h with
 |0,h=>simp at h
 |1,h=>simp at h
 |o+2,h=>simp at h
def pB {K:Nat->Prop}{A:Option bc}{l:List Int}(hb:w.L[b]?=J (H #[.slice Y 0 0,.slice Y 0 0] 25 (0,0)))(h:Ie w K A l):Ie ((w.LH ⟨b,0,Y⟩ x).LH ⟨b,1,Y⟩ y) K A l:=λhn=>by
 obtain⟨b',o,e,h1,h2⟩:=h hn;obtain⟨z,l',rfl⟩:=bw hn;have zU:=pA hb (h2 0 z rfl);exact⟨b',o,e,h1,λi x hx=>(A7 (a:=⟨b',o+i,Y⟩) (eP b' zU)).trans (h2 i x hx)⟩
def xE {K:Nat->Prop}{A:Option bc}{l:List EZ}(hb:w.L[b]?=J (H #[.slice Y 0 0,.slice Y 0 0] 25 (0,0)))(h:GK w K A l):GK ((w.LH ⟨b,0,Y⟩ x).LH ⟨b,1,Y⟩ y) K A l:=λhn=>by
 obtain⟨b',o,e,h1,h2⟩:=h hn;obtain⟨z,l',rfl⟩:=bw hn;have zU:b'≠b:=pA hb (h2 0 z rfl).1;have hc:∀j,((w.LH ⟨b,0,Y⟩ x).LH ⟨b,1,Y⟩ y).S ⟨b',j,Y⟩=w.S ⟨b',j,Y⟩:=λj=>A7 (a:=⟨b',j,Y⟩) (eP b' zU);refine⟨b',o,e,h1,λi x hx=>?_⟩;obtain⟨k0,k1,k2,A',c,k3,k4⟩:=h2 i x hx;exact⟨(hc _).trans k0,(hc _).trans k1,(hc _).trans k2,A',c,(hc _).trans k3,pB hb k4⟩
def jy {B s n:Nat}{e:eA}{v:O}{xs:List O}(h:w.H B e s v n xs)(hb:w.L[b]?=J (H #[.slice Y 0 0,.slice Y 0 0] 25 (0,0)))(he:e≠25){g:Nat}(hg:v.L=J g):g≠b:=λe'=>by
 subst e';obtain⟨rfl,_⟩|⟨g',c,cur,rfl,_,h3,_⟩:=h.2
 .cases hg
 .cases hg
  rw[hb] at h3;injection h3 with h3
  injection h3 with _ h3 _
  exact he h3.LH
def Pb {B:Nat}{v:O}{ls:List (List Int)}{xs:List O}(hb:w.L[b]?=J (H #[.slice Y 0 0,.slice Y 0 0] 25 (0,0)))(h:EH w B v ls xs):EH ((w.LH ⟨b,0,Y⟩ x).LH ⟨b,1,Y⟩ y) B v ls xs :=
 ⟨ap h.row λg hg _=>eP g (jy h.row hb (by decide) hg),λi l hi=>by
  obtain⟨u,h1,h2⟩:=h.cells i l hi
  exact⟨u,h1,ap h2 λg hg _=>eP g (jy h2 hb (by decide) hg)⟩⟩
end
def Rz:Code->Array Oper
 |.L _ o _=>o
 |_=>#[]
def inBody:Code->Code
 |.LE _ b=>b
 |.loop b=>b
 |c=>c
def ND:Code->Code
 |.seq _ (.cond _ x _)=>x
 |c=>c
def Iy (c:Ek)(l:List Int):List Int:=l.map λh=>(c.h h.L).FL
def iI (c:Ek)(l:List Int):(Iy c l).L=l.L:=BD ..
def nK {c:Ek}(a6:c.Ok){l:List Int}(hl:∀x∈l,0<=x/\x<c.D8.L)(k:Nat)(hk:k<=1048576):0<=((Iy c l).LT k).LE/\((Iy c l).LT k).LE<=5242880:=by
 have h:∀x∈(Iy c l).LT k,0<=x/\x<=(5:Nat):=λx hx=>by
  obtain⟨h,hh,rfl⟩:=Bu.1 (Cq hx);have h2:=hl h hh;have:=a6.FL _ (c.I9 (i:=h.L) (by omega));omega
 have h2:=sL h;have zC:=dr k (Iy c l);omega
def td (nA hA lA:Option bc)(nc hc lc:Nat)(c:Ek)(l:List Int)(w:F)(B:Nat)(hB:B<=w.L.size)(hh:Fe w B hA c.D8)(hr:RI w B lA l)(a6:c.Ok)(hl:l.L<=1048576)(a7:∀x∈l,0<=x/\x<c.D8.L) :
  ak D7 79 #[En nA hA c nc hc,Z lA l.L lc] w λe w'=>e=.L (U I (Iy c l).LE)/\Gr w w':=by
 unfold En;obtain⟨W0,zM⟩:∃W0:F,W0=w.LK (H #[Z nA c.D9.L nc,Z hA c.D8.L hc] 25):=⟨_,rfl⟩;have zL:Gr w W0:=zM▸(Gr.refl w).LK _;have zF:W0.L.size=w.L.size+1:=by rw[zM];simp
 have HW:=AI zM;have a8:=AI zL
 have aB:Hid (W0.S ⟨w.L.size,1,Y⟩=J (Z hA c.D8.L hc)):=AI (by
  rw[zM,AM _ _ _ _ rfl];rfl)
 have HH:=AI hh;have HR:=AI hr;have aC:=AI a7;have aD:=AI λk hk=>nK a6 a7 k hk;have aF:=AI a6;go_enter Sq.func79,Tryz.ntmps79;go_wp2;rw[<-HW.out];go_loopw [5,6] (λs i wr=>∃k:Nat,k<=l.L/\i=U I k/\s=U I ((Iy c l).LT k).LE/\Gr W0 wr) (λ_ i _=>l.L-(C i).L)
 case atStart=>exact⟨0,by omega,rfl,by simp,.refl _⟩
 case round =>
  obtain⟨k,hk,rfl,rfl,zV⟩:=hrel;have HG:=AI zV;have aJ:=zV.size;by_cases zY:k<l.L
  .have hg:=a8.out.trans zV;obtain⟨b,o,rfl,hb,hcell⟩:=(HR.out.gr hB hg).at_ zY;have hx:=aC.out l[k] (BN zY);rw[AL zY,Bf] at hcell
   have HS:Hid (((Iy c l).LT (k+1)).LE=((Iy c l).LT k).LE+(c.h (l[k]).L).FL):=AI (by
    rw[gw _ _ (by rw[iI];exact zY)]
    simp[Iy,AL zY])
   obtain⟨n,hn⟩:∃n:Nat,l[k]=n:=⟨(l[k]).L,by omega⟩;rw[hn] at hcell HS hx;have aA:n<c.D8.L:=by omega
   rw[Cu] at HS;have zu:=(zV.cell (p:=⟨w.L.size,1,Y⟩) (by show w.L.size<_;omega)).trans aB.out;obtain⟨zp,ho2,rfl,aH,hh⟩:=(HH.out.keep λb o hb=>hg.cell (p:=⟨b,o,Y⟩) (AO hb hB)).at_ aA;obtain⟨-,aI,-,-⟩:=hh;have hs1:=aD.out k (by omega);have aK:=aF.out.FL _ (c.I9 aA);have aL:w.L.size<wr.L.size:=by omega
   have hb3:b<wr.L.size:=by omega
   have hb4:zp<wr.L.size:=by omega
   generalize ((Iy c l).LT k).LE=S at HS hs1;go_wp2;go_region
   all_goals
    go_wp2;go_roundw
    case rel=>exact⟨k+1,by omega,by go_num,by rw[HS.out],by first|exact HG.out|exact HG.out.drew⟩
    case measure=>simp[Proofs.intOf];omega
  .have aG:k=l.L:=by omega
   subst aG;have HS:Hid (((Iy c l).LT l.L).LE=(Iy c l).LE):=AI (by rw[Bm (by rw[iI];omega)]);go_wp2;go_ret;exact⟨al HS.out,a8.out.trans HG.out⟩
def K8 (n:Nat):Code->Option (Array Oper)
 |.L id o _=>if id=n then J o else Y
 |.seq a b=>(K8 n a).or (K8 n b)
 |.cond _ a b=>(K8 n a).or (K8 n b)
 |.LE _ b=>K8 n b
 |.loop b=>K8 n b
 |_=>Y
def IW (n:Nat)(f:Func):Array Oper:=(K8 n (f.body.LH .skip)).LH #[]
section
variable {b o L rc cb k j n nc:Nat} {xn xv:Int} {y:Bool} {A:Option bc} {W:F} {u:Nat->O} {Q:eF->Act->F->Prop}
def xF (h1:u 1=.slice (J ⟨b,o,Y⟩) L rc)(h2:u 2=.S (J ⟨cb,0,Y⟩))(h5:u 5=U I (k:Nat))(hk:k<L)(hn:n<=4611686018427387904)
  (HC:Hid (∀V,Gr W V->V.S ⟨b,o+k*2,Y⟩=J (U I xn)/\V.S ⟨cb,0,Y⟩=J (Z A n nc))) (HB:Hid (∀V,ak D7 47 #[U I xn,U I 0,U I ((n:Int)-1)] V λe w'=>e=.L (.bool y)/\V=w'))
  (hK:∀W' u',Gr W W'->(∀t,FN (IW 4 ek) t=bs->u' t=u t)->u' 23=.bool (!y)->Q .L ⟨T 47 u',[]⟩ W'):(bb 4 (IW 4 ek) bs).wp D7 Q ⟨T 47 u,[]⟩ W:=by
 refine aD (R:=Gr) 11<|Ed (Em h1)<|Ed (Em h5)<|Ed (FI (o+k*2) 2 (El 0) (El 1))<|Ed (Lg (o+k*2) (El 2))<|Ed (FU (El 3) λw hg=>(HC.out w hg).1)<|Ed (Lg 0 (Ic h2))<|Ed (FU (El 5) λw hg=>(HC.out w hg).2)<|Ed (Qs (El 6))<|Ed (Rx ((n:Int)-1) (El 7))<|Ed (O7 (.bool y) ?_)<|Ed (Kk (El 9))<|FJ λu w hg hf hv=>?_
 .intro u w hg hf hl hd;exact iH rfl Sq.func47 #[U I xn,U I 0,U I ((n:Int)-1)] (λev he=>by simp[he.2.1,(he.t 17).trans (hd.at_ 4 17),(he.t 21).trans (hd.at_ 8 21)]) ((HB.out w).LT λe w' h=>by obtain⟨rfl,rfl⟩:=h;exact⟨_,rfl,.refl _,rfl⟩)
 .exact hK w u hg hf (hv.at_ 10 23)
def uP (h1:u 1=.slice (J ⟨b,o,Y⟩) L rc)(h5:u 5=U I (k:Nat))(h6:u 6=U I (j:Nat))(hk:k<L)(hj:j<L)
  (HC:Hid (∀V,Gr W V->V.S ⟨b,o+k*2,Y⟩=J (U I xn)/\V.S ⟨b,o+j*2,Y⟩=J (U I xv)))
  (hK:∀W' u',Gr W W'->(∀t,FN (IW 11 ek) t=bs->u' t=u t)->u' 46=.bool (xv==xn)->Q .L ⟨T 47 u',[]⟩ W'):(bb 11 (IW 11 ek) bs).wp D7 Q ⟨T 47 u,[]⟩ W:=by
 refine aD (R:=Gr) 11<|Ed (Em h1)<|Ed (Em h6)<|Ed (FI (o+j*2) 2 (El 0) (El 1))<|Ed (Lg (o+j*2) (El 2))<|Ed (FU (El 3) λw hg=>(HC.out w hg).2)<|Ed (Em h1)<|Ed (Em h5)<|Ed (FI (o+k*2) 2 (El 5) (El 6))<|Ed (Lg (o+k*2) (El 7))<|Ed (FU (El 8) λw hg=>(HC.out w hg).1)<|Ed (My (.bool (xv==xn)) (El 4) (El 9))<|FJ λu w hg hf hv=>?_;exact hK w u hg hf (hv.at_ 10 46)
end
def qR (nA hA rA:Option bc)(nc hc rc:Nat)(c:Ek)(rs:List (Int×Int))(w:F)(B:Nat)(hB:B<=w.L.size)(hr:FA w B rA rs)(Gg:c.D9.L<=4611686018427387904)(Io:rs.L<=4611686018427387904) :
  ak D7 78 #[En nA hA c nc hc,Z rA rs.L rc] w λe w'=>e=.L (U I (bE c.D9.L rs))/\Gr w w':=by
 unfold En;obtain⟨W0,zM⟩:∃W0:F,W0=w.LK (H #[Z nA c.D9.L nc,Z hA c.D8.L hc] 25):=⟨_,rfl⟩;have zL:Gr w W0:=zM▸(Gr.refl w).LK _;have zF:W0.L.size=w.L.size+1:=by rw[zM];simp
 have HW:=AI zM;have aD:=AI zL;have aT:Hid (W0.S ⟨w.L.size,0,Y⟩=J (Z nA c.D9.L nc)):=AI (by rw[zM,AM _ _ _ _ rfl];rfl);have HR:=AI (hr.gr hB zL);clear zM zL hr;go_enter Sq.func78,Tryz.ntmps78;go_wp2;rw[<-HW.out];go_loopw [5] (λi wr=>∃k:Nat,k<=rs.L/\i=U I k/\(∀j,j<k->E9 c.D9.L rs j=0)/\Gr W0 wr) (λi _=>rs.L-(C i).L)
 case atStart=>exact⟨0,by omega,rfl,λj hj=>AS hj (BI _),.refl _⟩
 case round =>
  obtain⟨k,hk,rfl,hz,zV⟩:=hrel;have HZ:=AI hz;have HG:=AI zV;have aY:=zV.size;clear hz;by_cases zY:k<rs.L
  .obtain⟨b,o,rfl,hb,h1,h2⟩:=(HR.out.gr (by omega) zV).at_ zY;have hbr:b<wr.L.size:=by omega
   have a6:Hid (E9 c.D9.L rs k=if FM (rs[k]?.LH (0,0)).1 0 (c.D9.L-1)=bq then 3 else if FM (rs[k]?.LH (0,0)).2 0 60=bq then 1 else if(rs.LT k).any (·.1==(rs[k]?.LH (0,0)).1)=bs then 4 else 0):=AI rfl;have aB:Hid (∀e,E9 c.D9.L rs k=e->e≠0->bE c.D9.L rs=e):=AI λe he h=>by rw[j6 zY HZ.out (by rw[he];exact h),he]
   have aU:Hid (E9 c.D9.L rs k=0->∀j,j<k+1->E9 c.D9.L rs j=0):=AI λh j hj=>by
    by_cases e:j=k
    .subst e;exact h
    .exact HZ.out j (by omega)
   have HC:Hid (∀V,Gr wr V->V.S ⟨b,o+k*2,Y⟩=J (U I (rs[k]?.LH (0,0)).1)/\V.S ⟨b,o+k*2+1,Y⟩=J (U I (rs[k]?.LH (0,0)).2)/\b<V.L.size/\V.S ⟨w.L.size,0,Y⟩=J (Z nA c.D9.L nc)/\w.L.size<V.L.size):=AI λV hV=>by
    have:=hV.size;exact⟨(hV.cell (p:=⟨b,_,Y⟩) hbr).trans h1,(hV.cell (p:=⟨b,_,Y⟩) hbr).trans h2,by omega,((zV.trans hV).cell (p:=⟨w.L.size,0,Y⟩) (by show w.L.size<_;omega)).trans aT.out,by omega⟩
   have HD:Hid (∀V j,Gr wr V->j<rs.L->V.S ⟨b,o+j*2,Y⟩=J (U I (rs[j]?.LH (0,0)).1)):=AI λV j hV hj=>by
    obtain⟨b',o',e,hb',aV,-⟩:=((HR.out.gr (by omega) zV).gr (by omega) hV).at_ hj;simp only[dy,Addr.mk.injEq] at e;obtain⟨rfl,rfl,_⟩:=e;exact aV
   have aR:¬(rs.LT k).any (·.1==(rs[k]?.LH (0,0)).1)=bs↔∀j,j<k->(rs[j]?.LH (0,0)).1≠(rs[k]?.LH (0,0)).1:=by
    rw[Df];constructor
    .intro h j hj e;refine h ⟨rs[j]'(by omega),?_,?_⟩
     .exact C2.2 ⟨j,by rw[Cl,AP hj,AL (by omega)]⟩
     .rw[AL (show j<rs.L by omega)] at e;exact beq_iff_eq.2 e
    .rintro h ⟨x,hx,e⟩;obtain⟨j,hj⟩:=C2.1 hx;rw[Cl] at hj;split at hj
     .rename_i hjk;refine h j hjk ?_;rw[hj];exact beq_iff_eq.1 e
     .cases hj
   have a8:=AI aR;generalize hx:rs[k]?.LH (0,0)=x at a6 HC a8;have HX:=AI hx;clear hx;obtain⟨xn,xv⟩:=x;dsimp only at a6 HC a8;obtain⟨y1,aH⟩:∃y,y=FM xn 0 (c.D9.L-1):=⟨_,rfl⟩;obtain⟨y2,aI⟩:∃y,y=FM xv 0 60:=⟨_,rfl⟩;have aM:Hid (∀W,ak D7 47 #[U I xn,U I 0,U I (c.D9.L-1)] W λe w'=>e=.L (.bool y1)/\W=w'):=AI λW=>by rw[aH];exact dq _ _ _ W
   have aN:Hid (∀W,ak D7 47 #[U I xv,U I 0,U I 60] W λe w'=>e=.L (.bool y2)/\W=w'):=AI λW=>by rw[aI];exact dq _ _ _ W
   rw[<-aH,<-aI] at a6;clear aH aI;have HC4:Hid (∀V,Gr wr V->V.S ⟨b,o+k*2,Y⟩=J (U I xn)/\V.S ⟨w.L.size,0,Y⟩=J (Z nA c.D9.L nc)):=AI λV hV=>⟨(HC.out V hV).1,(HC.out V hV).2.2.2.1⟩;go_wp2;rename_i aJ;refine fX 47 rfl λu hu=>?_;refine xF (k:=k) (hu 1) (hu 2) (hu 5) zY Gg HC4 aM λW4 u4 hg4 hf aF=>?_;rw[dU (n:=47) [13,14,15,16,17,18,19,20,21,22,23] (by kernel_rfl) rfl hu hf]
   have aG:=AI hg4;clear hu hf HC4 aM hg4;refine aJ _ _ ?_;simp only[B1,CG,Cb,Ch];cases y1 with
   |false =>
    have HS:=AI (aB.out 3 (by rw[a6.out];rfl) (by decide));simp only[aF];clear aF;go_wp2;go_ret;exact⟨al HS.out.LH,aD.out.trans (HG.out.trans aG.out)⟩
   |true =>
    simp only[aF];clear aF;obtain⟨p1,p2,p3,p4,p5⟩:=HC.out W4 aG.out;cases y2 with
    |false =>
     have HS:=AI (aB.out 1 (by rw[a6.out];rfl) (by decide));go_wp2_with (go_at_call 47;refine(aN.out _).LT ?_;rintro e w' ⟨rfl,rfl⟩);go_ret;exact⟨al HS.out.LH,aD.out.trans (HG.out.trans aG.out)⟩
    |true =>
     go_wp2_with (first|(go_at_call 47;refine(aN.out _).LT ?_;rintro e w' ⟨rfl,rfl⟩)|fail);go_loopw [6] (λi wq=>∃j:Nat,j<=k/\i=U I j/\(∀m,m<j->(rs[m]?.LH (0,0)).1≠xn)/\Gr wr wq) (λi _=>k-(C i).L)
     case atStart=>exact⟨0,by omega,rfl,λm hm=>AS hm (BI _),aG.out⟩
     case round =>
      obtain⟨j,hj,rfl,zU,hgj⟩:=hrel;obtain⟨wq,rfl⟩:∃wq,wq=wr:=⟨_,rfl⟩;have aO:=AI zU;have aA:=AI hgj;clear zU hgj;by_cases hjk:j<k
      .have aC:Hid (∀V,Gr wq V->V.S ⟨b,o+k*2,Y⟩=J (U I xn)/\V.S ⟨b,o+j*2,Y⟩=J (U I (rs[j]?.LH (0,0)).1)):=AI λV hV=>⟨(HC.out V (aA.out.trans hV)).1,HD.out V j (aA.out.trans hV) (by omega)⟩;have aK:Hid ((rs[j]?.LH (0,0)).1≠xn->∀m,m<j+1->(rs[m]?.LH (0,0)).1≠xn):=AI λh m hm=>by
        by_cases e:m=j
        .subst e;exact h
        .exact aO.out m (by omega)
       have aL:Hid ((rs[j]?.LH (0,0)).1=xn->E9 c.D9.L rs k=4):=AI λh=>by
        rw[a6.out,AN (by decide),AN (by decide),AP];exact Classical.byContradiction λhc=>a8.out.1 hc j hjk h
       generalize (rs[j]?.LH (0,0)).1=z at aC aK aL;go_wp2;rename_i aJ;refine fX 47 rfl λu hu=>?_;refine uP (k:=k) (j:=j) (hu 1) (hu 5) (hu 6) zY (by omega) aC λW5 u5 aP hf a7=>?_;rw[dU (n:=47) [36,37,38,39,40,41,42,43,44,45,46] (by kernel_rfl) rfl hu hf];have aQ:=AI aP;clear hu hf aC aP;refine aJ _ _ ?_;simp only[B1,CG,Cb,Ch];cases he:(z==xn) with
       |true =>
        rw[he] at a7;have HS:=AI (aB.out 4 (aL.out (by simpa using he)) (by decide));simp only[a7];clear a7 he;go_wp2;go_ret;exact⟨al HS.out.LH,aD.out.trans (HG.out.trans (aA.out.trans aQ.out))⟩
       |false =>
        rw[he] at a7;have aW:=AI (aK.out (by simpa using he));simp only[a7];clear a7 he;go_wp2;go_roundw
        case rel=>exact⟨j+1,by omega,by go_num,aW.out,aA.out.trans aQ.out⟩
        case measure=>simp[Proofs.intOf];omega
      .have aS:j=k:=by omega
       subst aS;have HN3:=AI (aU.out (by rw[a6.out,AN (by decide),AN (by decide),AN (a8.out.2 aO.out)]));go_wp2;go_roundw
       case rel=>exact⟨j+1,by omega,by go_num,HN3.out,HG.out.trans aA.out⟩
       case measure=>simp[Proofs.intOf];omega
  .have aX:k=rs.L:=by omega
   subst aX;have HS:=AI (i5 HZ.out);go_wp2;go_ret;exact⟨al HS.out.LH,aD.out.trans HG.out⟩
structure GM (W0:F)(lb ob m n k base:Nat)(s:List Int×List (Int×Int))(V:F):Prop where
 gr:Gr W0 V
 lo:W0.L.size<=lb/\lb<ob/\ob<base/\base<=V.L.size
 len:s.1.L=m
 left:Gz V lb m λh=>s.1[h]?.LH 0
 done:∀i,i<k->i<n->∃A c,V.S ⟨ob,i,Y⟩=J (Z A (ED s.2 i).L c)/\Ie V (λb=>ob<b/\b<base) A (ED s.2 i)
 cur:k<n->∃v,V.S ⟨ob,k,Y⟩=J v/\V.H base 3 1 v (ED s.2 k).L ((ED s.2 k).map (U I))
 todo:∀i,k<i->i<n->V.S ⟨ob,i,Y⟩=J (.slice Y 0 0)
 LH:∀i,i<n->V.O ⟨ob,i,Y⟩=bq
section
variable {W0 V V':F} {lb ob m n k base:Nat} {s:List Int×List (Int×Int)}
def eQ {w w':F}{K:Nat->Prop}{A:Option bc}{l:List Int}(h:Ie w K A l)(hk:∀b o,K b->w'.S ⟨b,o,Y⟩=w.S ⟨b,o,Y⟩):Ie w' K A l:=λhn=>by
 obtain⟨b,o,e,hb,hc⟩:=h hn;exact⟨b,o,e,hb,λi x hx=>(hk b _ hb).trans (hc i x hx)⟩
def GM.keep (h:GM W0 lb ob m n k base s V)(hg:Gr V V'):GM W0 lb ob m n k base s V':=by
 obtain⟨l1,l2,l3,l4⟩:=h.lo;have hz:=hg.size;have kc:∀b o,b<base->V'.S ⟨b,o,Y⟩=V.S ⟨b,o,Y⟩:=λb o hb=>hg.cell (p:=⟨b,o,Y⟩) (by show b<_;omega);refine⟨h.gr.trans hg,⟨l1,l2,l3,by omega⟩,h.len,h.left.gr hg,λi hi hn=>?_,λhk=>?_,λi h1 h2=>(kc _ _ l3).trans (h.todo i h1 h2),λi hi=>(hg.frozen (p:=⟨ob,i,Y⟩) (by show ob<_;omega)).trans (h.LH i hi)⟩
 .obtain⟨A,c,h1,h2⟩:=h.done i hi hn;exact⟨A,c,(kc _ _ l3).trans h1,eQ h2 λb o hb=>kc b o hb.2⟩
 .obtain⟨v,h1,h2⟩:=h.cur hk;exact⟨v,(kc _ _ l3).trans h1,ap h2 λg _ hl=>hg.Li.LE g hl⟩
def dt {w:F}{K K':Nat->Prop}{A:Option bc}{l:List Int}(h:Ie w K A l)(hK:∀b,K b->K' b):Ie w K' A l:=λhn=>by
 obtain⟨b,o,e,hb,hc⟩:=h hn;exact⟨b,o,e,hK b hb,hc⟩
def GM.next (h:GM W0 lb ob m n k base s V)(h0:ED s.2 (k+1)=[]):GM W0 lb ob m n (k+1) V.L.size s V:=by
 obtain⟨l1,l2,l3,l4⟩:=h.lo;refine⟨h.gr,⟨l1,l2,by omega,AK _⟩,h.len,h.left,λi hi hn=>?_,λhk=>⟨_,h.todo (k+1) (by omega) hk,?_⟩,λi h1 h2=>h.todo i (by omega) h2,h.LH⟩
 .by_cases e:i=k
  .subst e;obtain⟨v,h1,h2⟩:=h.cur hn;obtain⟨A,c,rfl,h3⟩:=Gp h2;exact⟨A,c,h1,dt h3 λb hb=>⟨by omega,hb.2⟩⟩
  .obtain⟨A,c,h1,h2⟩:=h.done i (by omega) hn;exact⟨A,c,h1,dt h2 λb hb=>⟨hb.1,by omega⟩⟩
 .rw[h0];exact Bs _ _ _ _
def GM.hit (h:GM W0 lb ob m n k base s V){a:Nat}(ha:a<m)(y:Int):GM W0 lb ob m n k base (s.1.Lo a y,s.2) (V.LH ⟨lb,a,Y⟩ (U I y)):=by
 obtain⟨l1,l2,l3,l4⟩:=h.lo;have kb:∀b,b≠lb->(V.LH ⟨lb,a,Y⟩ (U I y)).L[b]?=V.L[b]?:=λb hb=>Bb _ _ _ _ hb;have kc:∀b o,b≠lb->(V.LH ⟨lb,a,Y⟩ (U I y)).S ⟨b,o,Y⟩=V.S ⟨b,o,Y⟩:=λb o hb=>A7 (kb b hb);have hz:(V.LH ⟨lb,a,Y⟩ (U I y)).L.size=V.L.size:=by simp[bo]
 refine⟨h.gr.LH (p:=⟨lb,a,Y⟩) l1 _,⟨l1,l2,l3,by omega⟩,by rw[C1];exact h.len,h.left.Lo ha y λq hq=>?_,λi hi hn=>?_,λhk=>?_,λi h1 h2=>(kc _ _ (by omega)).trans (h.todo i h1 h2),λi hi=>(BG _ _ _ _).trans (h.LH i hi)⟩
 .dsimp only;by_cases e:q=a
  .subst e;rw[cq (by rw[h.len];exact hq),AP rfl];rfl
  .rw[Dg (Ne.symm e),AN e]
 .obtain⟨A,c,h1,h2⟩:=h.done i hi hn;exact⟨A,c,(kc _ _ (by omega)).trans h1,eQ h2 λb o hb=>kc b o (by omega)⟩
 .obtain⟨v,h1,h2⟩:=h.cur hk;refine⟨v,(kc _ _ (by omega)).trans h1,ap h2 λg hg _=>kb g λe=>?_⟩;exact cr h2 (show lb<base by omega) (by rw[hg,e])
def GM.LE (h:GM W0 lb ob m n k base s V)(hk:k<n){V6:F}{v v':O}{y:Int}{o:Obj}(hv:V.S ⟨ob,k,Y⟩=J v)(zl:V6.H base 3 1 v' ((ED s.2 k).L+1) ((ED s.2 k).map (U I)++[U I y]))(hgrow:(V.LK o).grownBy V6 v.L)(hd:(V.LK o).drawn<=V6.drawn)
  (h0:V.H base 3 1 v (ED s.2 k).L ((ED s.2 k).map (U I))):GM W0 lb ob m n k base (s.1,s.2++[((k:Int),y)]) (V6.LH ⟨ob,k,Y⟩ v'):=by
 obtain⟨l1,l2,l3,l4⟩:=h.lo;have nb:∀b,b<base->J b≠v.L:=λb hb=>cr h0 hb;have a6:∀b,b<base->V6.L[b]?=V.L[b]?:=λb hb=>(hgrow.LE b (by rw[B6];omega) (nb b hb)).trans (aa _ _ (by omega));have kb:∀b,b<base->b≠ob->(V6.LH ⟨ob,k,Y⟩ v').L[b]?=V.L[b]?:=λb hb zU=>(Bb _ _ _ _ zU).trans (a6 b hb);have kc:∀b o,b<base->b≠ob->(V6.LH ⟨ob,k,Y⟩ v').S ⟨b,o,Y⟩=V.S ⟨b,o,Y⟩:=λb o hb zU=>A7 (kb b hb zU)
 have ko:∀i,i≠k->(V6.LH ⟨ob,k,Y⟩ v').S ⟨ob,i,Y⟩=V.S ⟨ob,i,Y⟩:=λi hi=>(AW _ _ _ _ (λe=>hi (Bh Addr.off e).LH)).trans (A7 (a6 ob l3));have hz:(V6.LH ⟨ob,k,Y⟩ v').L.size=V6.L.size:=by simp[bo]
 have hz6:V.L.size<=V6.L.size:=by have:=hgrow.size;rw[B6] at this;omega
 have hrow:∀i,ED (s.2++[(((k:Nat):Int),y)]) i=ED s.2 i++if i=k then[y] else[]:=λi=>mn s.2 k i y
 have hG:Gr W0 V6:=(h.gr.LK o).Lo hgrow hd λq hq=>by
  have:=h0.lt q hq;have:=h.gr.size;omega
 refine⟨hG.LH (p:=⟨ob,k,Y⟩) (by show _<=ob;omega) _,⟨l1,l2,l3,by omega⟩,h.len,⟨by rw[hz];have:=h.left.lt;omega,λq hq=>?_⟩,λi hi hn=>?_,λ_=>?_,λi h1 h2=>(ko i (by omega)).trans (h.todo i h1 h2),λi hi=>?_⟩
 .obtain⟨q1,q2⟩:=h.left.at_ q hq;exact⟨(kc _ _ (by omega) (by omega)).trans q1,(Cc (a:=⟨lb,q,Y⟩) (kb lb (by omega) (by omega))).trans q2⟩
 .obtain⟨A,c,h1,h2⟩:=h.done i hi hn;rw[hrow,AN (by omega),CM];exact⟨A,c,(ko i (by omega)).trans h1,eQ h2 λb o hb=>kc b o hb.2 (by omega)⟩
 .dsimp only;rw[hrow,AP rfl,B4,Cx];refine⟨v',Ba _ _ _ ((A7 (a6 ob l3)).trans hv),?_⟩;exact ownsRow_setCell_below (a:=⟨ob,k,Y⟩) zl l3 v'
 .rw[BG];exact(Cc (a:=⟨ob,i,Y⟩) (a6 ob l3)).trans (h.LH i hi)
def GM.at6 (h:GM W0 lb ob m n k base s V)(hk:k<n){V6:F}{v:O}{o:Obj}{xs:List O}{q:Nat}(hv:V.S ⟨ob,k,Y⟩=J v)(hgrow:(V.LK o).grownBy V6 v.L)(h0:V.H base 3 1 v q xs):V6.S ⟨ob,k,Y⟩=J v/\V6.O ⟨ob,k,Y⟩=bq/\ob<V6.L.size:=by
 obtain⟨l1,l2,l3,l4⟩:=h.lo;have e:V6.L[ob]?=V.L[ob]?:=(hgrow.LE ob (by rw[B6];omega) (cr h0 l3)).trans (aa _ _ (by omega));have hz:=hgrow.size;rw[B6] at hz;exact⟨(A7 e).trans hv,(Cc (a:=⟨ob,k,Y⟩) e).trans (h.LH k hk),by omega⟩
def NF (w:F)(lo:Nat)(A:Option bc)(ls:List (List Int)):Prop :=
 ls≠[]->∃b o,A=J ⟨b,o,Y⟩/\(lo<=b/\b<w.L.size)/\∀i l,ls[i]?=J l->∃A' c,w.S ⟨b,o+i,Y⟩=J (Z A' l.L c)/\Ie w (λb=>lo<=b/\b<w.L.size) A' l
def NF.at_ {w:F}{lo:Nat}{A:Option bc}{ls:List (List Int)}(h:NF w lo A ls):E7 w w.L.size A ls:=λhn=>by
 obtain⟨b,o,e,hb,hc⟩:=h hn;refine⟨b,o,e,hb.2,λi l hi=>?_⟩;obtain⟨A',c,h1,h2⟩:=hc i l hi;exact⟨A',c,h1,h2.ri λb hb=>hb.2⟩
def NF.LK {w:F}{lo lo':Nat}{A:Option bc}{ls:List (List Int)}(h:NF w lo A ls)(hl:lo'<=lo):NF w lo' A ls:=λhn=>by
 obtain⟨b,o,e,hb,hc⟩:=h hn;refine⟨b,o,e,⟨AU hl hb.1,hb.2⟩,λi l hi=>?_⟩;obtain⟨A',c,h1,h2⟩:=hc i l hi;exact⟨A',c,h1,dt h2 λb hb=>⟨AU hl hb.1,hb.2⟩⟩
def GM.Rt (h:GM W0 lb ob m n n base s V):NF V W0.L.size (J ⟨ob,0,Y⟩) ((bh n).map (ED s.2)):=λ_=>by
 obtain⟨l1,l2,l3,l4⟩:=h.lo;refine⟨ob,0,rfl,by omega,λi l hl=>?_⟩;have hi:i<n:=by have:=(Be.1 hl).1;simpa using this
 rw[Bv,CU hi] at hl;have e:l=ED s.2 i:=(eG hl).LH;subst e;obtain⟨A,c,h1,h2⟩:=h.done i hi hi;rw[Bd];exact⟨A,c,h1,dt h2 λb hb=>by omega⟩
end
def Lu (n:Nat):Array Value:=madeCells (Z Y 0 0).cells (n*1)
def yX (n:Nat)(w:F)(hn:n<=1048576):(Instr.makeSlice 26 (U I (n:Int)) (U I (n:Int))).run D7 w=.ok (.slice (J ⟨w.L.size,0,Y⟩) n n) (w.LK (.cells (Lu n) 22)):=by
 obtain⟨i0,hi,zF,zE,zD⟩:=info_parts DH;have:=run_makeSlice (P:=D7) w 26 22 i0 (.slice Y 0 0) ((Sq.LH 26).trans Tryz.underlying26) hi zF I I (n:Int) (n:Int) (by omega) (by omega) (by rw[zE];simp;omega) (by rw[zD];omega) (by omega);rw[zE] at this;simpa [Lu] using this
def pC (n j:Nat)(hj:j<n):(Lu n)[j]?=J (.slice Y 0 0):=by
 simp[Lu,madeCells,Value.cells,hj,Nat.mod_one]
section
variable {gb go L gc cb k len lc nc hc lb m j q:Nat} {nA hA A:Option bc} {x y D:Int} {N M:Nat} {W:F} {u:Nat->O} {Q:eF->Act->F->Prop}
def uQ (h1:u 1=.slice (J ⟨gb,go,Y⟩) L gc)(h3:u 3=.S (J ⟨cb,0,Y⟩))(h10:u 10=U I (k:Nat))(hk:k<L)
  (HC:Hid (∀V,Gr W V->(V.S ⟨cb,0,Y⟩=J (Z nA N nc)/\V.S ⟨cb,1,Y⟩=J (Z hA M hc)/\V.S ⟨gb,go+k,Y⟩=J (Z A len lc))/\cb<V.L.size))
  (HQ:Hid (∀V,Gr W V->ak D7 79 #[.agg #[Z nA N nc,Z hA M hc],Z A len lc] V λe w'=>e=.L (U I D)/\Gr V w'))
  (hK:∀W' u',Gr W W'->(∀t,FN (IW 16 eo) t=bs->u' t=u t)->u' 13=U I D->Q .L ⟨T 113 u',[]⟩ W'):(bb 16 (IW 16 eo) bs).wp D7 Q ⟨T 113 u,[]⟩ W:=by
 refine aD (R:=Gr) 7<|Ed (PH (.agg #[Z nA N nc,Z hA M hc]) (Ic h3) rfl λw hg ev e=>by obtain⟨⟨c0,c1,c2⟩,cl⟩:=HC.out w hg;clear hg;go_simp)<|Ed (Em h1)<|Ed (Em h10)<|Ed (FI (go+k) 1 (El 1) (El 2))<|Ed (FU (El 3) λw hg=>(HC.out w hg).1.2.2)<|Ed (K7 Sq.func79 [0,4] HQ.out)<|Ed (FE 5)<|FJ λu w hg hf hv=>?_;exact hK w u hg hf (hv.at_ 6 13)
def uR (h7:u 7=.slice (J ⟨lb,0,Y⟩) m m)(a6:u 14=U I (j:Nat))(a7:u 15=U I (q:Nat))(hj:j<m)(hq:q<m)
  (HC:Hid (∀V,Gr W V->V.S ⟨lb,q,Y⟩=J (U I x)/\V.S ⟨lb,j,Y⟩=J (U I y)))
  (hK:∀W' u',Gr W W'->(∀t,FN (IW 23 eo) t=bs->u' t=u t)->u' 89=.bool (eC (y<x))->Q .L ⟨T 113 u',[]⟩ W'):(bb 23 (IW 23 eo) bs).wp D7 Q ⟨T 113 u,[]⟩ W:=by
 refine aD (R:=Gr) 9<|Ed (Em h7)<|Ed (Em a7)<|Ed (FI q 1 (El 0) (El 1))<|Ed (FU (El 2) λw hg=>(HC.out w hg).1)<|Ed (Em h7)<|Ed (Em a6)<|Ed (FI j 1 (El 4) (El 5))<|Ed (FU (El 6) λw hg=>(HC.out w hg).2)<|Ed (My (.bool (eC (y<x))) (El 3) (El 7))<|FJ λu w hg hf hv=>?_;exact hK w u hg hf (hv.at_ 8 89)
end
def fY (nA hA gA rA:Option bc)(nc hc gc rc:Nat)(c:Ek)(ls:List (List Int))(rs:List (Int×Int))(w:F)(B:Nat)(hB:B<=w.L.size)(hh:Fe w B hA c.D8)(hg:E7 w B gA ls)(hr:FA w B rA rs)
  (hF:Et c ls=0) (hR:bE c.D9.L rs=0) (Io:rs.L<=1048576) :
  ak D7 43 #[En nA hA c nc hc,Z gA ls.L gc,Z rA rs.L rc] w λe w'=>Gr w w'/\∃A,e=.L (Z A c.D9.L c.D9.L)/\NF w' w.L.size A ((bh c.D9.L).map (ED (ET c (Ec ls) (Er c.D9.L rs rs.L)))):=by
 unfold En;obtain⟨W0,zM⟩:∃W0:F,W0=w.LK (H #[Z nA c.D9.L nc,Z hA c.D8.L hc] 25):=⟨_,rfl⟩;have zL:Gr w W0:=zM▸(Gr.refl w).LK _;have zF:W0.L.size=w.L.size+1:=by rw[zM];simp
 have aM:Hid (∀V,Gr W0 V->(V.S ⟨w.L.size,0,Y⟩=J (Z nA c.D9.L nc)/\V.S ⟨w.L.size,1,Y⟩=J (Z hA c.D8.L hc))/\w.L.size<V.L.size):=AI λV hV=>by
  have:=hV.size;rw[hV.cell (by show w.L.size<_;omega),hV.cell (by show w.L.size<_;omega),zM,AM _ _ _ _ rfl,AM _ _ _ _ rfl];exact⟨⟨rfl,rfl⟩,by omega⟩
 have aC:=Ek.Ok.of (cR hF);have c5:=aC.n5;have cA:=aC.n1;have bR:=aC.h4;have cB:=aC.h1;obtain⟨zk,aU⟩:=Iw hF;have aY:=AI aC;have HW:=AI zM;have bS:=AI zL;have HH:=AI λV (hV:Gr W0 V)=>((hh.keep λb o hb=>(zL.trans hV).cell (p:=⟨b,o,Y⟩) (AO hb hB)).more (by have:=hV.size;omega):Fe V V.L.size hA c.D8);have HG:=AI λV (hV:Gr W0 V)=>((hg.gr hB (zL.trans hV)).more (by have:=hV.size;omega):E7 V V.L.size gA ls)
 have HR:=AI λV (hV:Gr W0 V)=>hr.gr hB (zL.trans hV);have bP:Hid (∀k,k<c.D9.L->∃l,ls[k]?=J l/\l.L<=4/\(∀x∈l,0<=x/\x<c.D8.L)/\(Iy c l).LE=c.FL (Ec ls k)):=AI λk hk=>by
  obtain⟨l,hl⟩:∃l,ls[k]?=J l:=⟨ls[k]'(by omega),AL _⟩;have ha:=aU l (By hl);have hch:=JQ ha;refine⟨l,hl,?_,(I0 ha).1,?_⟩
  .obtain⟨p,e⟩:=hch;have:=dR p c.D8.L;rw[e];omega
  .rw[show Ec ls k=JK l by unfold Ec;rw[hl];rfl,sQ hch bR];rfl
 have HWV:=AI (eu (eN hR));have bT:=AI zk;rw[zk];have aN:=AI zF;clear zM zL hh hg hr hF hR aC zk aU zF;have cC:=λw=>da c.D8.L w (by omega);have hmk2:=λw=>yX c.D9.L w (by omega);go_enter Sq.func43,Tryz.ntmps43;obtain⟨⟨k0,k1⟩,kl⟩:=aM.out W0 (.refl _);go_wp2_with fail;rw[<-HW.out];go_wp2;go_loopw [8] (λi wr=>∃j:Nat,j<=c.D8.L/\i=U I j/\Gr W0 wr/\Gz wr (w.L.size+1) c.D8.L (λh=>if h<j then(c.h h).heads else 0)) (λi _=>c.D8.L-(C i).L)
 case atStart=>exact⟨0,by omega,rfl,(Gr.refl W0).LK _,(aN.out▸ef W0 c.D8.L).congr λq _=>by simp⟩
 case round =>
  obtain⟨j,hj,rfl,zV,aD⟩:=hrel;by_cases zY:j<c.D8.L
  .obtain⟨hb,ho,rfl,cD,h1,-,-,-⟩:=(HH.out wr zV).at_ zY;obtain⟨⟨q0,q1⟩,ql⟩:=aM.out wr zV;obtain⟨e1,e2⟩:=aD.at_ j zY;have bG:Hid (∀v,v=(c.h j).heads->Gz (wr.LH ⟨w.L.size+1,j,Y⟩ (U I v)) (w.L.size+1) c.D8.L (λh=>if h<j+1 then(c.h h).heads else 0)):=AI λv hv=>aD.Lo zY v λq hq=>by
    subst hv;by_cases e:q=j
    .subst e;rw[AP (by omega),AP rfl]
    .rw[AN e];by_cases e2:q<j
     .rw[AP e2,AP (by omega)]
     .rw[AN e2,AN (by omega)]
   have HGX:=AI λv:O=>zV.LH (p:=⟨w.L.size+1,j,Y⟩) (BJ aN.out) v;clear zV aD;generalize hx:(c.h j).heads=x at h1 bG;clear hx;go_wp2;go_roundw
   case rel=>exact⟨j+1,by omega,by go_num,HGX.out _,bG.out _ rfl⟩
   case measure=>simp[Proofs.intOf];omega
  .have bU:j=c.D8.L:=by omega
   subst bU
   have aV:Hid (GM W0 (w.L.size+1) wr.L.size c.D8.L c.D9.L 0 (wr.L.size+1) (Eu c (Ec ls) (Er c.D9.L rs rs.L) 0) (wr.LK (.cells (Lu c.D9.L) 22))):=AI (by
    have hz:=zV.size;have zY:=aD.lt;refine⟨zV.LK _,⟨BJ aN.out,zY,by omega,by rw[B6];omega⟩,by simp[Eu],(aD.gr ((Gr.refl wr).LK _)).congr λq hq=>?_,λi hi=>AS hi (BI _),λhk=>⟨.slice Y 0 0,?_,Bs _ _ _ _⟩,λi _ hi=>?_,λi hi=>?_⟩
    .rw[AP hq];simp only[Eu,Bv];rw[AL hq];unfold Ek.h;rw[AL hq];rfl
    .rw[AM _ _ _ _ rfl,pC _ _ hk]
    .rw[AM _ _ _ _ rfl,pC _ _ hi]
    .rw[BK _ _ _ _ rfl])
   obtain⟨lb,aO⟩:∃lb,lb=w.L.size+1:=⟨_,rfl⟩;obtain⟨⟨q0,q1⟩,ql⟩:=aM.out wr zV;rw[<-aO] at aV ⊢;clear zV aD;obtain⟨ob,aW⟩:∃ob,ob=wr.L.size:=⟨_,rfl⟩;obtain⟨Ws,aZ⟩:∃Ws,Ws=wr.LK (.cells (Lu c.D9.L) 22):=⟨_,rfl⟩;rw[<-aW,<-aZ] at aV;have b5:=AI aW;have bV:=AI aZ;have cE:=AI aO;clear aW aZ aO;go_wp2_with fail;rw[<-bV.out,<-b5.out];go_wp2;go_loopw [10] (λi wr=>∃k base:Nat,k<=c.D9.L/\i=U I k/\GM W0 lb ob c.D8.L c.D9.L k base (Eu c (Ec ls) (Er c.D9.L rs rs.L) k) wr) (λi _=>c.D9.L-(C i).L)
   case atStart=>exact⟨0,ob+1,by omega,rfl,by rw[b5.out];rw[b5.out] at aV;exact aV.out⟩
   case round =>
    obtain⟨k,base,hk,rfl,zG⟩:=hrel;have zV:=zG.gr;have HST:=AI zG;obtain⟨⟨q0,q1⟩,ql⟩:=aM.out wr zV;clear zG;by_cases a8:k<c.D9.L
    .obtain⟨wo,rfl⟩:∃wo,wo=wr:=⟨_,rfl⟩;go_wp2;go_loopw [11,12] (λv i wi=>∃j:Nat,j<=rs.L/\i=U I j/\v=U I (Fu rs j k)/\wi=wo) (λ_ i _=>rs.L-(C i).L)
     case atStart=>exact⟨0,by omega,rfl,rfl,rfl⟩
     case round =>
      obtain⟨j,hj,rfl,rfl,rfl⟩:=hrel;by_cases bW:j<rs.L
      .obtain⟨rb,ro,rfl,cF,h1,h2⟩:=(HR.out _ zV).at_ bW;have c4:rb<wr.L.size:=by have:=zV.size;have:=aN.out;omega
       have aX:Hid (Fu rs (j+1) k=if(rs[j]?.LH (0,0)).1=(k:Int) then(rs[j]?.LH (0,0)).2 else Fu rs j k):=AI rfl;generalize rs[j]?.LH (0,0)=x at h1 h2 aX;obtain⟨x1,x2⟩:=x;dsimp only at h1 h2 aX;by_cases hx:x1=(k:Int)
       .subst hx;go_wp2;go_roundw
        case rel=>exact⟨j+1,by omega,by go_num,by rw[aX.out,AP rfl],trivial⟩
        case measure=>simp[Proofs.intOf];omega
       .have hd:(x1==(k:Int))=false:=by simpa using hx
        have HX:=AI hx;clear hx;go_wp2;go_roundw
        case rel=>exact⟨j+1,by omega,by go_num,by rw[aX.out,AN HX.out],trivial⟩
        case measure=>simp[Proofs.intOf];omega
      .have hjr:j=rs.L:=by omega
       subst hjr;obtain⟨l,hl,zq,b6,aP⟩:=bP.out k a8;obtain⟨gb,go,A',lc,rfl,hgb,b7,aQ⟩:=(HG.out _ zV).at_ (k:=k) (by rw[bT.out];exact a8);rw[hl,Bf] at b7 aQ;have b8:Hid (∀V,Gr wr V->(V.S ⟨w.L.size,0,Y⟩=J (Z nA c.D9.L nc)/\V.S ⟨w.L.size,1,Y⟩=J (Z hA c.D8.L hc)/\V.S ⟨gb,go+k,Y⟩=J (Z A' l.L lc))/\w.L.size<V.L.size):=AI λV hV=>by
        obtain⟨⟨p0,p1⟩,pl⟩:=aM.out V (zV.trans hV);exact⟨⟨p0,p1,(hV.cell (p:=⟨gb,_,Y⟩) hgb).trans b7⟩,pl⟩
       have b9:Hid (∀V,Gr wr V->ak D7 79 #[.agg #[Z nA c.D9.L nc,Z hA c.D8.L hc],Z A' l.L lc] V λe w'=>e=.L (U I (c.FL (Ec ls k)))/\Gr V w'):=AI λV hV=>by
        rw[<-aP];exact td nA hA A' nc hc lc c l V V.L.size (AK _) (HH.out V (zV.trans hV)) ((aQ.gr (AK _) hV).more hV.size) aY.out (by omega) b6
       have bA:0<=c.FL (Ec ls k):=by
        have:=(nK aY.out b6 l.L (by omega)).1
        rwa [Bm (by rw[iI];exact AK _),aP] at this
       clear hl b6 aP b7 aQ;go_wp2;rename_i bB;refine fX 113 rfl λu hu=>?_;refine uQ (k:=k) (hu 1) (hu 3) (hu 10) a8 b8 b9 λW5 u5 bH hf bI=>?_;rw[dU (n:=113) [64,65,66,67,68,69,13] (by kernel_rfl) rfl hu hf];have bJ:=AI (HST.out.keep bH);clear hu hf b8 b9 bH HST;refine bB _ _ ?_;simp only[B1,CG,Cb,Ch];simp only[bI];clear bI;obtain⟨D,hD⟩:∃D,D=c.FL (Ec ls k):=⟨_,rfl⟩;obtain⟨M,hM⟩:∃M,M=Hm c (Ec ls) (Er c.D9.L rs rs.L) k:=⟨_,rfl⟩
       have hMD:M=(Fu rs rs.L k-D).L:=by rw[hM,hD];unfold Hm;rw[j5 a8];rfl
       obtain⟨S,hS⟩:∃S,S=Eu c (Ec ls) (Er c.D9.L rs rs.L) k:=⟨_,rfl⟩;have bC:Hid (∀j,Hf c c.D9.L (EP k S j)):=AI λj=>by
        rw[hS];exact(Hf.all aY.out (by rw[aI];exact AK _) k (by rw[aI];exact hk)).it a8 j
       have aJ:Hid (EP k S M=Eu c (Ec ls) (Er c.D9.L rs rs.L) (k+1)):=AI (by rw[hS,hM];rfl)
       have aR:Hid (ED (EP k S M).2 (k+1)=[]):=AI (by
        rw[aJ.out];unfold ED;rw[List.map_eq_nil_iff,CA];intro p hp;obtain⟨i,hi,e,_⟩:=(Le c (Ec ls) (Er c.D9.L rs rs.L) (k+1)).1 p hp
        simp;omega)
       have hwv:=HWV.out rs.L k (AK _);have hdd:0<=D:=by rw[hD];exact bA
       have aS:Hid (GM W0 lb ob c.D8.L c.D9.L k base (EP k S 0) W5):=AI (by rw[hS];exact bJ.out);rw[<-hD];have HMD:=AI hMD;clear hM hMD hS hD bJ bA;generalize Fu rs rs.L k=wv at HMD hwv;go_wp2;go_loopw [13] (λi wi=>∃j:Nat,j<=M/\i=U I (D+(j:Int))/\GM W0 lb ob c.D8.L c.D9.L k base (EP k S j) wi) (λi _=>(wv-C i).L)
       case atStart=>exact⟨0,Bg _,by simp,aS.out⟩
       case round =>
        obtain⟨j,hj,rfl,zG⟩:=hrel;have HMO:=HMD.out;by_cases hjw:D+(j:Int)<wv
        .have hjM:j<M:=by omega
         obtain⟨s,hs⟩:∃s,s=EP k S j:=⟨_,rfl⟩;have hlk:=bC.out j
         have a6:Hid (EP k S (j+1)=if 0<s.1[Fy s.1 (c.D8.L-1)]?.LH 0 then(s.1.Lo (Fy s.1 (c.D8.L-1)) (s.1[Fy s.1 (c.D8.L-1)]?.LH 0-1),s.2++[((k:Int),((Fy s.1 (c.D8.L-1):Nat):Int))]) else s):=AI (by
          rw[hs];have:=ml (n:=(k:Int)) (s:=EP k S j) (by rw[hlk.len];omega);rw[hlk.len] at this
          exact this)
         rw[<-hs] at zG hlk;have bD:Hid (∀a:Nat,0<=s.1[a]?.LH 0/\s.1[a]?.LH 0<=40):=AI λa=>by
          cases h:s.1[a]? with
          |none=>simp
          |some x=>exact hlk.LK x (By h)
         have HNT:=AI (show(ED s.2 k).L<=160 by
          have h1:=fF s.2 k;have h2:=dT (·.1) s.2 k;have h3:=hlk.count;have h4:=qA s.1 λx hx=>(hlk.LK x hx).1
          omega)
         have HST:=AI zG;clear zG hs hlk;obtain⟨wo,rfl⟩:∃wo,wo=wr:=⟨_,rfl⟩;go_wp2;go_loopw [14,15] (λb i wi=>∃q:Nat,q+1<=c.D8.L/\i=U I ((q+1:Nat):Int)/\b=U I (Fy s.1 q:Nat)/\Gr wo wi) (λ_ i _=>c.D8.L-(C i).L)
         case atStart=>exact⟨0,by omega,by simp,rfl,.refl _⟩
         case round =>
          obtain⟨q,hq,rfl,rfl,aF⟩:=hrel;have bK:=uH s.1 q;have a7:=AI (HST.out.keep aF);by_cases bL:q+1<c.D8.L
          .have aA:Hid (Fy s.1 (q+1)=if s.1[Fy s.1 q]?.LH 0<s.1[q+1]?.LH 0 then q+1 else Fy s.1 q):=AI rfl;have aB:Hid (∀V,Gr wr V->V.S ⟨lb,q+1,Y⟩=J (U I (s.1[q+1]?.LH 0))/\V.S ⟨lb,Fy s.1 q,Y⟩=J (U I (s.1[Fy s.1 q]?.LH 0))):=AI λV hV=>⟨((a7.out.keep hV).left.at_ (q+1) bL).1,((a7.out.keep hV).left.at_ (Fy s.1 q) (by omega)).1⟩;generalize s.1[q+1]?.LH 0=x at aA aB
           generalize s.1[Fy s.1 q]?.LH 0=y at aA aB;generalize Fy s.1 q=a at aA aB bK;have bM:=AI aF;clear aF a7;go_wp2;rename_i bB;refine fX 113 rfl λu hu=>?_;refine uR (q:=q+1) (j:=a) (hu 7) (hu 14) (hu 15) (by omega) bL aB λW6 u6 bN hf aG=>?_;rw[dU (n:=113) [81,82,83,84,85,86,87,88,89] (by kernel_rfl) rfl hu hf];have bO:=AI (bM.out.trans bN);clear hu hf aB bN;refine bB _ _ ?_
           simp only[B1,CG,Cb,Ch];by_cases aH:y<x
           .rw[BE aH] at aG;rw[AP aH] at aA;simp only[aG];clear aG aH;go_wp2;go_roundw
            case rel=>exact⟨q+1,by omega,by go_num,by rw[aA.out],bO.out⟩
            case measure=>simp[Proofs.intOf];omega
           .rw[B2 aH] at aG;rw[AN aH] at aA;simp only[aG];clear aG aH;go_wp2;go_roundw
            case rel=>exact⟨q+1,by omega,by go_num,by rw[aA.out],bO.out⟩
            case measure=>simp[Proofs.intOf];omega
          .have hqm:q=c.D8.L-1:=by omega
           rw[<-hqm] at a6;clear hqm;obtain⟨e1,e2⟩:=a7.out.left.at_ (Fy s.1 q) (by omega);have bX:=bD.out (Fy s.1 q);have aK:=AI λy:Int=>a7.out.hit (show Fy s.1 q<c.D8.L by omega) y;generalize s.1[Fy s.1 q]?.LH 0=x at e1 a6 bX;generalize Fy s.1 q=a at e1 e2 a6 aK bK;by_cases hx:0<x
           .rw[AP hx] at a6;have aL:=aK.out (x-1);obtain⟨v,hv,zl⟩:=aL.cur a8;have zl:=zl;obtain⟨l1,l2,l3,l4⟩:=aL.lo;have aW:ob<wr.L.size:=by have:=a7.out.lo;omega
            have hdx:eC (0<x)=true:=BE hx;have bF:=AI aL;have aT:=AI zl;have HV:=AI hv;have bM:=AI aF;have Io:base<=wr.L.size:=by simpa [bo] using l4
            have aO:lb<wr.L.size:=by omega
            clear aL zl a7 aK HST bD aF bC aR aJ aS;go_wp2_with (at_builtin;refine fP rfl _ _ rfl base _ _ _ rfl (aT.out.LK _) ⟨wr.L.size,0,Y⟩ 1 (U I (a:Nat)) rfl ?c1 rfl ?c2 ?c3 ?_)
            case c2=>have:=HNT.out;omega
            case c3=>(try simp[World.setCell]);omega
            intro v' w6 hown' hgrow hd;obtain⟨A6,k6,rfl⟩:=J5 hown';obtain⟨c6,f6,z6⟩:=bF.out.at6 a8 HV.out hgrow aT.out;have HP:=AI (bF.out.LE a8 HV.out hown' hgrow hd aT.out);clear hown' hgrow hd hv;go_wp2;go_roundw
            case rel=>exact⟨j+1,by omega,by rw[show D+((j+1:Nat):Int)=D+(j:Int)+1 by omega],by rw[a6.out];exact HP.out⟩
            case measure=>simp[Proofs.intOf];omega
           .rw[AN hx] at a6;have hdx:eC (0<x)=false:=B2 hx;clear aK HST bD aF bC aR aJ aS hx;have aO:lb<wr.L.size:=by have:=a7.out.lo;omega
            go_wp2;go_roundw
            case rel=>exact⟨j+1,by omega,by rw[show D+((j+1:Nat):Int)=D+(j:Int)+1 by omega],by rw[a6.out];exact a7.out⟩
            case measure=>simp[Proofs.intOf];omega
        .have hjM:j=M:=by omega
         subst hjM;have HN:=AI (zG.next aR.out);rw[aJ.out] at HN;clear zG;go_wp2;go_roundw
         case rel=>exact⟨k+1,_,by omega,by go_num,HN.out⟩
         case measure=>simp[Proofs.intOf];omega
    .have bY:k=c.D9.L:=by omega
     subst bY;have bQ:=AI (HST.out.Rt.LK (lo':=w.L.size) (by have:=aN.out;omega));have bZ:=AI (bS.out.trans zV);have c0:Hid ((Eu c (Ec ls) (Er c.D9.L rs rs.L) c.D9.L).2=ET c (Ec ls) (Er c.D9.L rs rs.L)):=AI (by unfold ET;rw[aI]);clear HST;go_wp2;go_ret;exact⟨bZ.out,_,rfl,by rw[<-c0.out];exact bQ.out⟩
def Jf (c:Ek)(ls:List (List Int))(rs:List (Int×Int)):List Int:=if Ez c ls rs=0 then Hi c (Ec ls) c.D9.L rs else[]
def av {c:Ek}{ls:List (List Int)}{rs:List (Int×Int)}(h:Ez c ls rs=0):Et c ls=0/\bE c.D9.L rs=0:=by
 unfold Ez at h;split at h
 .exact AS h (by assumption)
 .exact⟨bn (by assumption),h⟩
section
variable (nA hA gA rA:Option bc) (nc hc gc rc:Nat) (c:Ek) (ls:List (List Int)) (rs:List (Int×Int)) (w:F) (B:Nat) (hB:B<=w.L.size) (hn:RI w B nA c.D9) (hh:Fe w B hA c.D8) (hg:E7 w B gA ls) (hr:FA w B rA rs)
  (Gg:c.D9.L<=4611686018427387904) (zC:c.D8.L<=4611686018427387904) (Fa:∀h∈c.D8,h.off.L<=4611686018427387904) (G4:ls.L<=4611686018427387904) (zq:∀x∈ls,x.L<=4611686018427387904) (Io:rs.L<=1048576)
include hB hn hh hg hr Gg zC Fa G4 zq Io
def gT:ak D7 42 #[En nA hA c nc hc,Z gA ls.L gc,Z rA rs.L rc] w λe w'=>e=.L (U I (Ez c ls rs))/\Gr w w':=by
 unfold En;obtain⟨W0,zM⟩:∃W0:F,W0=w.LK (H #[Z nA c.D9.L nc,Z hA c.D8.L hc] 25):=⟨_,rfl⟩;have zL:Gr w W0:=zM▸(Gr.refl w).LK _;have zF:W0.L.size=w.L.size+1:=by rw[zM];simp
 have a7:Hid (∀V,Gr W0 V->(V.S ⟨w.L.size,0,Y⟩=J (Z nA c.D9.L nc)/\V.S ⟨w.L.size,1,Y⟩=J (Z hA c.D8.L hc))/\w.L.size<V.L.size):=AI λV hV=>by
  have:=hV.size;rw[hV.cell (by show w.L.size<_;omega),hV.cell (by show w.L.size<_;omega),zM,AM _ _ _ _ rfl,AM _ _ _ _ rfl];exact⟨⟨rfl,rfl⟩,by omega⟩
 have hf:=oD nA hA gA nc hc gc c ls W0 B (by omega) (hn.gr hB zL) (hh.keep λb o hb=>zL.cell (AO hb hB)) (hg.gr hB zL) Gg zC Fa G4 zq;unfold En at hf;have HF:=AI hf;have a6:=AI λV (hV:Gr W0 V)=>qR nA hA rA nc hc rc c rs V B (by have:=hV.size;omega) (hr.gr hB (zL.trans hV)) Gg (by omega);unfold En at a6;have HW:=AI zM;have a8:=AI zL;clear zM zL hn hh hg hr hf Fa zq zF;go_enter Sq.func42,Tryz.ntmps42
 obtain⟨⟨k0,k1⟩,kl⟩:=a7.out W0 (.refl _);go_wp2_with fail;rw[<-HW.out];refine HF.out.LT ?_;rintro e w1 ⟨rfl,zJ⟩;have aA:=AI zJ;obtain⟨⟨q0,q1⟩,ql⟩:=a7.out w1 zJ;by_cases h0:Et c ls=0
 .have HE:Hid (Ez c ls rs=bE c.D9.L rs):=AI (AN λh=>h h0);rw[h0];have aB:=AI (a6.out w1 zJ);clear h0 zJ HF a6 k0 k1 kl;go_wp2_with fail;refine aB.out.LT ?_;rintro e w2 ⟨rfl,zI⟩;have aC:=AI zI;go_wp2;go_ret;exact⟨al HE.out.LH,a8.out.trans (aA.out.trans aC.out)⟩
 .have HE:Hid (Ez c ls rs=Et c ls):=AI (AP h0);have zU:(Et c ls != 0)=true:=by simpa using h0
  generalize Et c ls=e0 at HE zU;go_wp2;go_ret;exact⟨al HE.out.LH,a8.out.trans aA.out⟩
def qS:ak D7 16 #[En nA hA c nc hc,Z gA ls.L gc,Z rA rs.L rc] w (dc (Jf c ls rs) (Ez c ls rs) w):=by
 unfold En;obtain⟨W0,zM⟩:∃W0:F,W0=w.LK (H #[Z nA c.D9.L nc,Z hA c.D8.L hc] 25):=⟨_,rfl⟩;have zL:Gr w W0:=zM▸(Gr.refl w).LK _;have zF:W0.L.size=w.L.size+1:=by rw[zM];simp
 have aC:Hid (∀V,Gr W0 V->(V.S ⟨w.L.size,0,Y⟩=J (Z nA c.D9.L nc)/\V.S ⟨w.L.size,1,Y⟩=J (Z hA c.D8.L hc))/\w.L.size<V.L.size):=AI λV hV=>by
  have:=hV.size;rw[hV.cell (by show w.L.size<_;omega),hV.cell (by show w.L.size<_;omega),zM,AM _ _ _ _ rfl,AM _ _ _ _ rfl];exact⟨⟨rfl,rfl⟩,by omega⟩
 have hf:=gT nA hA gA rA nc hc gc rc c ls rs W0 B (by omega) (hn.gr hB zL) (hh.keep λb o hb=>zL.cell (AO hb hB)) (hg.gr hB zL) (hr.gr hB zL) Gg zC Fa G4 zq Io;unfold En at hf;have HF:=AI hf;have a7:=AI λV (hV:Gr W0 V) (h0:Ez c ls rs=0)=>fY nA hA gA rA nc hc gc rc c ls rs V B (by have:=hV.size;omega) (hh.keep λb o hb=>(zL.trans hV).cell (p:=⟨b,o,Y⟩) (AO hb hB)) (hg.gr hB (zL.trans hV)) (hr.gr hB (zL.trans hV)) (av h0).1 (av h0).2 Io
 unfold En at a7;have HR:=AI λV (hV:Gr W0 V)=>hr.gr hB (zL.trans hV);have HW:=AI zM;have aD:=AI zL;have aK:=AI zF;clear zM zL hn hh hg hr hf Fa zq zF;go_enter Sq.func16,Tryz.ntmps16;obtain⟨⟨k0,k1⟩,kl⟩:=aC.out W0 (.refl _);go_wp2_with fail;rw[<-HW.out];refine HF.out.LT ?_;rintro e w1 ⟨rfl,zJ⟩;have aF:=AI zJ;obtain⟨⟨q0,q1⟩,ql⟩:=aC.out w1 zJ;by_cases h0:Ez c ls rs=0
 .have HE:Hid (Jf c ls rs=Hi c (Ec ls) c.D9.L rs):=AI (AP h0);have aL:=AI h0;have HRE:=AI λk hk=>nl (eN (av h0).2 k hk);have aM:=AI (a7.out w1 zJ h0);rw[h0];clear h0 zJ HF a7 k0 k1 kl;go_wp2_with fail;refine aM.out.LT ?_;rintro e w2 ⟨zI,A,rfl,aN⟩;have a8:=AI (aF.out.trans zI);have aG:=AI aN.at_;have aA:Hid (∀k,k<rs.L->(Hi c (Ec ls) c.D9.L rs)[k]?=J (EX (·.1) (ET c (Ec ls) (Er c.D9.L rs rs.L)) (rs[k]?.LH (0,0)).1:Int)):=AI λk hk=>by
   unfold Hi;rw[Bv,AL hk];rfl
  have aH:Hid ((Hi c (Ec ls) c.D9.L rs).L=rs.L):=AI (BD ..);generalize Hi c (Ec ls) c.D9.L rs=X at HE aA aH;generalize ET c (Ec ls) (Er c.D9.L rs rs.L)=L at aG aA;go_wp2;go_loopw [10,11] (λv i wr=>∃k:Nat,k<=rs.L/\i=U I k/\Gr w2 wr/\wr.H w2.L.size 3 1 v k ((X.LT k).map (U I))) (λ_ i _=>rs.L-(C i).L)
  case atStart=>exact⟨0,by omega,rfl,.refl _,Bs _ _ _ _⟩
  case round =>
   obtain⟨k,hk,rfl,zV,zl⟩:=hrel;by_cases zY:k<rs.L
   .obtain⟨rb,ro,rfl,aU,h1,-⟩:=(HR.out wr (a8.out.trans zV)).at_ zY;have aT:rb<wr.L.size:=by have:=(a8.out.trans zV).size;have:=aK.out;omega
    obtain⟨r1,-,-⟩:=HRE.out k zY;have a6:=aA.out k zY;generalize rs[k]?.LH (0,0)=x at h1 r1 a6;obtain⟨x1,x2⟩:=x;dsimp only at h1 r1 a6;obtain⟨m,rfl⟩:∃m:Nat,x1=m:=⟨x1.L,by simp[FM] at r1;omega⟩;have hm:m<c.D9.L:=by simp[FM] at r1;omega
    obtain⟨gb,go,A',lc,rfl,hgb,aI,-⟩:=(aG.out.on zV).at_ (k:=m) (by simpa using hm);have hrow:((bh c.D9.L).map (ED L))[m]?.LH []=ED L m:=by simp[hm]
    rw[hrow,fF] at aI;have HX:Hid (X.LT (k+1)=X.LT k++[((EX (·.1) L m:Nat):Int)]):=AI (by rw[CN,a6];rfl);generalize EX (·.1) L m=y at aI HX;have aO:=AI zV;have aB:=AI zl;have aV:=zV.size;obtain⟨Av,kv,rfl⟩:=J5 zl;clear zV zl a6 hrow r1;go_wp2_with (at_builtin;refine fP rfl _ _ rfl w2.L.size _ _ _ rfl (aB.out.LK _) ⟨wr.L.size,0,Y⟩ 1 (U I (y:Nat)) rfl ?c1 rfl ?c2 ?c3 ?_)
    case c1=>rw[AM _ _ _ _ rfl];rfl
    case c2=>omega
    case c3=>(try simp);omega
    intro v' w6 hown' hgrow hd;have aP:Hid (Gr w2 w6):=AI ((aO.out.LK _).Lo hgrow hd λq hq=>by have:=(aB.out.lt q hq).1;omega);have HO6:Hid (w6.H w2.L.size 3 1 v' (k+1) ((X.LT (k+1)).map (U I))):=AI (by rw[HX.out,Cx,List.map_take];exact hown');go_wp2;go_roundw
    case rel=>exact⟨k+1,by omega,by go_num,aP.out,HO6.out⟩
    case measure=>simp[Proofs.intOf];omega
   .have aQ:k=rs.L:=by omega
    subst aQ;have aR:=AI (aD.out.trans (a8.out.trans zV));rw[<-aH.out,CW] at zl;obtain⟨A6,k6,rfl,aJ⟩:=Gp zl;have aS:=AI (aJ.ri λb hb=>hb.2);go_wp2;go_ret2;exact⟨aR.out,_,_,by rw[aL.out,HE.out];rfl,by rw[HE.out];exact aS.out⟩
 .have HE:Hid (Jf c ls rs=[]):=AI (AN h0);have zU:(Ez c ls rs != 0)=true:=by simpa using h0
  generalize hq:Ez c ls rs=e0 at zU;have HQ:=AI hq;go_wp2;go_ret2;exact⟨aD.out.trans aF.out,Y,0,by rw[HE.out,HQ.out];rfl,by rw[HE.out];exact .nil⟩
end
def Ha (c:Ek)(ls:List (List Int))(rs:List (Int×Int)):List Int:=if Ez c ls rs=0 then JG c (Ec ls) c.D9.L rs else[]
def PI (w:F)(ob:Nat)(A:Option bc)(ls:List (List Int)):Prop :=
 ls≠[]->∃b o,A=J ⟨b,o,Y⟩/\(b<w.L.size/\b≠ob)/\∀i l,ls[i]?=J l->∃A' c,w.S ⟨b,o+i,Y⟩=J (Z A' l.L c)/\Ie w (λb=>b<w.L.size/\b≠ob) A' l
section
variable {w w':F} {lo ob:Nat} {A:Option bc} {ls:List (List Int)}
def NF.before (h:NF w lo A ls)(hl:ob<lo):PI w ob A ls:=λhn=>by
 obtain⟨b,o,e,hb,hc⟩:=h hn;refine⟨b,o,e,⟨hb.2,by omega⟩,λi l hi=>?_⟩;obtain⟨A',c,h1,h2⟩:=hc i l hi;exact⟨A',c,h1,dt h2 λb hb=>⟨hb.2,by omega⟩⟩
def NF.after (h:NF w lo A ls)(o:Obj):PI (w.LK o) w.L.size A ls:=λhn=>by
 have hk:∀b o',b<w.L.size->(w.LK o).S ⟨b,o',Y⟩=w.S ⟨b,o',Y⟩:=λb o' hb=>Bi _ _ _ hb;have hz:(w.LK o).L.size=w.L.size+1:=B6 _ _;obtain⟨b,q,e,hb,hc⟩:=h hn;refine⟨b,q,e,⟨by omega,by omega⟩,λi l hi=>?_⟩;obtain⟨A',c,h1,h2⟩:=hc i l hi;exact⟨A',c,(hk _ _ hb.2).trans h1,dt (eQ h2 λb o' hb=>hk b o' hb.2) λb hb=>⟨by omega,by omega⟩⟩
def PI.kt (h:PI w ob A ls)(k:KT (·=ob) w w'):PI w' ob A ls:=λhn=>by
 have hz:=k.size;have hk:∀b o',b<w.L.size->b≠ob->w'.S ⟨b,o',Y⟩=w.S ⟨b,o',Y⟩:=λb o' hb zU=>k.cell (p:=⟨b,o',Y⟩) hb zU;obtain⟨b,q,e,hb,hc⟩:=h hn;refine⟨b,q,e,⟨by omega,hb.2⟩,λi l hi=>?_⟩;obtain⟨A',c,h1,h2⟩:=hc i l hi;exact⟨A',c,(hk _ _ hb.1 hb.2).trans h1,dt (eQ h2 λb o' hb=>hk b o' hb.1 hb.2) λb hb=>⟨by omega,hb.2⟩⟩
def PI.at_ (h:PI w ob A ls){i:Nat}(hi:i<ls.L):∃b o A' c,A=J ⟨b,o,Y⟩/\b<w.L.size/\w.S ⟨b,o+i,Y⟩=J (Z A' (ls[i]?.LH []).L c) /\
  ∀k,k<(ls[i]?.LH []).L->∃b' o',A'=J ⟨b',o',Y⟩/\b'<w.L.size/\w.S ⟨b',o'+k,Y⟩=J (U I ((ls[i]?.LH [])[k]?.LH 0)):=by
 obtain⟨b,o,e,hb,hc⟩:=h (λe=>by rw[e] at hi;cases hi);obtain⟨A',c,h1,h2⟩:=hc i (ls[i]?.LH []) (by rw[AL hi];rfl);refine⟨b,o,A',c,e,hb.1,h1,λk hk=>?_⟩;obtain⟨b',o',e',hb',hc'⟩:=h2 (λe=>by rw[e] at hk;cases hk);exact⟨b',o',e',hb'.1,hc' k _ (by rw[AL hk];rfl)⟩
end
section
variable (nA hA gA rA:Option bc) (nc hc gc rc:Nat) (c:Ek) (ls:List (List Int)) (rs:List (Int×Int)) (w:F) (B:Nat) (hB:B<=w.L.size) (hn:RI w B nA c.D9) (hh:Fe w B hA c.D8) (hg:E7 w B gA ls) (hr:FA w B rA rs)
  (Gg:c.D9.L<=4611686018427387904) (zC:c.D8.L<=4611686018427387904) (Fa:∀h∈c.D8,h.off.L<=4611686018427387904) (G4:ls.L<=4611686018427387904) (zq:∀x∈ls,x.L<=4611686018427387904) (Io:rs.L<=1048576)
include hB hn hh hg hr Gg zC Fa G4 zq Io
def te:ak D7 19 #[En nA hA c nc hc,Z gA ls.L gc,Z rA rs.L rc] w (dc (Ha c ls rs) (Ez c ls rs) w):=by
  unfold En;obtain⟨W0,zM⟩:∃W0:F,W0=w.LK (H #[Z nA c.D9.L nc,Z hA c.D8.L hc] 25):=⟨_,rfl⟩;have zL:Gr w W0:=zM▸(Gr.refl w).LK _;have zF:W0.L.size=w.L.size+1:=by rw[zM];simp
  have aD:Hid (∀V,Gr W0 V->(V.S ⟨w.L.size,0,Y⟩=J (Z nA c.D9.L nc)/\V.S ⟨w.L.size,1,Y⟩=J (Z hA c.D8.L hc))/\w.L.size<V.L.size):=AI λV hV=>by
    have:=hV.size;rw[hV.cell (by show w.L.size<_;omega),hV.cell (by show w.L.size<_;omega),zM,AM _ _ _ _ rfl,AM _ _ _ _ rfl];exact⟨⟨rfl,rfl⟩,by omega⟩
  have hf:=gT nA hA gA rA nc hc gc rc c ls rs W0 B (by omega) (hn.gr hB zL) (hh.keep λb o hb=>zL.cell (AO hb hB)) (hg.gr hB zL) (hr.gr hB zL) Gg zC Fa G4 zq Io;unfold En at hf;have HF:=AI hf;have aF:=AI λV (hV:Gr W0 V) (h0:Ez c ls rs=0)=>fY nA hA gA rA nc hc gc rc c ls rs V B (by have:=hV.size;omega) (hh.keep λb o hb=>(zL.trans hV).cell (p:=⟨b,o,Y⟩) (AO hb hB)) (hg.gr hB (zL.trans hV)) (hr.gr hB (zL.trans hV)) (av h0).1 (av h0).2 Io
  unfold En at aF;have HR:=AI λV (hV:Gr W0 V)=>hr.gr hB (zL.trans hV);have HW:=AI zM;have aQ:=AI zL;have bM:=AI zF;clear zM zL hn hh hg hr hf Fa zq zF;go_enter Sq.func19,Tryz.ntmps19;obtain⟨⟨k0,k1⟩,kl⟩:=aD.out W0 (.refl _);go_wp2_with fail;rw[<-HW.out];refine HF.out.LT ?_;rintro e w1 ⟨rfl,zJ⟩;have aG:=AI zJ;obtain⟨⟨q0,q1⟩,ql⟩:=aD.out w1 zJ;by_cases h0:Ez c ls rs=0
  · have HE:Hid (Ha c ls rs=JG c (Ec ls) c.D9.L rs):=AI (AP h0)
    have b7:=AI h0;have aB:=Ek.Ok.of (cR (av h0).1);have bN:=aB.h4;have bO:=aB.n5;obtain⟨L,hL⟩:∃L,L=ET c (Ec ls) (Er c.D9.L rs rs.L):=⟨_,rfl⟩;have aZ:Hid (Ord L):=AI (hL▸ku _ _ _);have aH:Hid (∀p∈L,0<=p.1/\p.1<c.D9.L/\0<=p.2/\p.2<c.D8.L):=AI λp hp=>by
      have:=(dz aB (Ec ls) (Er c.D9.L rs rs.L)).night p (by rw[hL] at hp;exact hp)
      rwa [aI] at this
    have b8:=AI (hL▸cX aB (Ec ls) (Er c.D9.L rs rs.L):L.L<=160);have aJ:Hid (JG c (Ec ls) c.D9.L rs=(bh c.D8.L).map λh:Nat=>(EX (·.2) L h:Int)):=AI (by unfold JG;rw[hL]);have aK:Hid (∀V,Gr w1 V->ak D7 43 #[.agg #[Z nA c.D9.L nc,Z hA c.D8.L hc],Z gA ls.L gc,Z rA rs.L rc] V λe w'=>Gr V w'/\∃A,e=.L (Z A c.D9.L c.D9.L)/\NF w' V.L.size A ((bh c.D9.L).map (ED L))):=AI λV hV=>hL▸aF.out V (zJ.trans hV) h0
    have b9:Hid (∀V,Gr w1 V->(V.S ⟨w.L.size,0,Y⟩=J (Z nA c.D9.L nc)/\V.S ⟨w.L.size,1,Y⟩=J (Z hA c.D8.L hc))/\w.L.size<V.L.size):=AI λV hV=>aD.out V (zJ.trans hV);rw[h0];clear h0 zJ HF aF k0 k1 kl hL aB;have bP:=λw=>da c.D8.L w (by omega);have HRa:=AI (aK.out (w1.drewN 1) ((Gr.refl w1).drewN 1));have HRb:=AI (aK.out ((w1.drewN 1).LK (.cells (ID c.D8.L) 3)) (((Gr.refl w1).drewN 1).LK _))
    have HST:Hid (GJ L 0=0):=AI (lK λp hp=>(aH.out p hp).1);have b5:Hid (GJ L c.D9.L=L.L):=AI (nD λp hp=>(aH.out p hp).2.1);clear aK;go_wp2;go_region_with (go_at_call 43;(first|refine HRa.out.LT ?_|refine HRb.out.LT ?_);rintro e w' ⟨hg4,A,rfl,aL⟩;have aM:Gr w1 w':=(by first|exact((Gr.refl w1).drewN 1).trans hg4|exact(((Gr.refl w1).drewN 1).LK _).trans hg4);obtain⟨⟨p0,p1⟩,pl⟩:=b9.out w' aM)
    all_goals
      have aN:=AI (aG.out.trans aM);have bA:Hid (W0.L.size<=w1.L.size):=AI aG.out.size;go_wp2
      first
        | (obtain ⟨W4, a6⟩ : ∃ W4, W4 = w'.LK (.cells (ID c.D8.L) 3) := ⟨_, rfl⟩
           obtain ⟨ob, a7⟩ : ∃ ob, ob = w'.L.size := ⟨_, rfl⟩;rw [<- a6, <- a7];have aR : Hid (Gr W0 W4) := Lib.hid (by rw [a6]; exact aN.out.LK _);have aS : Hid (W0.L.size <= ob) := Lib.hid (by rw [a7]; exact aN.out.size);have aT : Hid (Gz W4 ob c.D8.L fun h => (EX (·.2) (L.LT 0) (h : Int) : Int)) := Lib.hid (by rw [a6, a7]; exact (ef w' _).congr fun q _ => by simp [EX])
           have HGB:Hid (PI W4 ob A ((bh c.D9.L).map (ED L))):=AI (by rw[a6,a7];exact aL.after _))
        | (obtain ⟨W4, a6⟩ : ∃ W4, W4 = w' := ⟨_, rfl⟩
           obtain ⟨ob, a7⟩ : ∃ ob, ob = w1.L.size := ⟨_, rfl⟩;rw [<- a7, <- a6];have aR : Hid (Gr W0 W4) := Lib.hid (by rw [a6]; exact aN.out);have aS : Hid (W0.L.size <= ob) := Lib.hid (by rw [a7]; exact bA.out);have aT : Hid (Gz W4 ob c.D8.L fun h => (EX (·.2) (L.LT 0) (h : Int) : Int)) := Lib.hid (by rw [a6, a7]; exact ((ef (w1.drewN 1) _).gr hg4).congr fun q _ => by simp [EX])
           have HGB:Hid (PI W4 ob A ((bh c.D9.L).map (ED L))):=AI (by rw[a6,a7];exact aL.before (by rw[B6];exact De _)))
      clear hg4 aL aM p0 p1 pl a6 a7;go_loopw [11] (λi wr=>∃p:Nat,p<=c.D9.L/\i=U I p/\KT (·=ob) W4 wr/\Gz wr ob c.D8.L (λh=>(EX (·.2) (L.LT (GJ L p)) (h:Int):Int))) (λi _=>c.D9.L-(C i).L)
      case atStart=>exact⟨0,by omega,rfl,.refl _ _,by rw[HST.out];exact aT.out⟩
      case round =>
        obtain⟨p,hp,rfl,aA,a8⟩:=hrel;by_cases aU:p<c.D9.L
        · obtain⟨wo,rfl⟩:∃wo,wo=wr:=⟨_,rfl⟩
          have aV:=AI (lL L p);obtain⟨R,hR⟩:∃R,R=ED L p:=⟨_,rfl⟩;have hrow:((bh c.D9.L).map (ED L))[p]?.LH []=R:=by simp[aU,hR]
          have bB:Hid (∀k,k<R.L->L[GJ L p+k]?=J ((p:Int),R[k]?.LH 0)):=AI λk hk=>by rw[hR];exact sP aZ.out p k (by rw[<-hR];exact hk)
          rw[<-hR] at aV;have bQ:=pv L (p+1);have Fa:=b8.out;have bC:=AI aA;have b6:=AI a8;clear aA a8 hR;go_wp2;go_loopw [12] (λi wr=>∃k:Nat,k<=R.L/\i=U I k/\KT (·=ob) W4 wr/\Gz wr ob c.D8.L (λh=>(EX (·.2) (L.LT (GJ L p+k)) (h:Int):Int))) (λi _=>R.L-(C i).L)
          case atStart=>exact⟨0,by omega,rfl,bC.out,b6.out⟩
          case round =>
            obtain⟨k,hk,rfl,aA,a8⟩:=hrel;obtain⟨gb,go,A',lc,rfl,hgb,bD,Im⟩:=(HGB.out.kt aA).at_ (i:=p) (by simpa using aU);rw[hrow] at bD Im;by_cases aW:k<R.L
            · obtain⟨rb,ro,rfl,bR,bE⟩:=Im k aW
              have hat:=bB.out k aW;have aO:=aH.out _ (By hat);have zY:GJ L p+k<L.L:=(Be.1 hat).1;have aC:=AI λt=>gM (·.2) L (GJ L p+k) zY t;have aX:=λt=>gN (·.2) L (GJ L p+k) t;rw[hat] at aC;simp only[Bf] at aC;generalize R[k]?.LH 0=y at bE aO aC hat;dsimp only at aO;obtain⟨a,rfl⟩:∃a:Nat,y=a:=⟨y.L,by omega⟩;have aY:a<c.D8.L:=by omega
              obtain⟨e1,e2⟩:=a8.at_ a aY
              have aP:Hid (Gz (wr.LH ⟨ob,a,Y⟩ (U I ((EX (·.2) (L.LT (GJ L p+k)) (a:Int):Int)+1))) ob c.D8.L (λh=>(EX (·.2) (L.LT (GJ L p+(k+1))) (h:Int):Int))):=AI (a8.Lo aY _ λq hq=>by
                rw[show GJ L p+(k+1)=GJ L p+k+1 by omega,aC.out];by_cases e:q=a
                · subst e;rw[AP rfl,AP rfl];rfl
                · rw[AN e,AN (by omega)];rfl)
              have bF:=AI λv:O=>aA.trans (KT.LH (T:=(·=ob)) wr (p:=⟨ob,a,Y⟩) rfl v);have hb:=aX a;generalize EX (·.2) (L.LT (GJ L p+k)) (a:Int)=z at e1 aP hb;clear aA a8 aX aO hat;go_wp2;go_roundw
              case rel=>exact⟨k+1,by omega,by go_num,bF.out _,aP.out⟩
              case measure=>simp[Proofs.intOf];omega
            · have bG:k=R.L:=by omega
              subst bG;rw[<-aV.out] at a8;have bH:=AI a8;have bI:=AI aA;go_wp2;go_roundw
              case rel=>exact⟨p+1,by omega,by go_num,bI.out,bH.out⟩
              case measure=>simp[Proofs.intOf];omega
        · have bJ:p=c.D9.L:=by omega
          subst bJ;rw[b5.out,CW] at a8;have bK:=AI (a8.ri);have bL:=AI (aQ.out.trans (KT.gr aR.out aA (by rintro b rfl;exact aS.out)));go_wp2;go_ret2;exact⟨bL.out,_,_,by rw[b7.out,HE.out,aJ.out,BD,CQ];rfl,by rw[HE.out,aJ.out];exact bK.out⟩
  · have HE:Hid (Ha c ls rs=[]):=AI (AN h0)
    have zU:(Ez c ls rs != 0)=true:=by simpa using h0
    generalize hq:Ez c ls rs=e0 at zU;have HQ:=AI hq;go_wp2;go_ret2;exact⟨aQ.out.trans aG.out,Y,0,by rw[HE.out,HQ.out];rfl,by rw[HE.out];exact .nil⟩
end
section
variable {xb xo N xc nb no n nc rb ro R rc tb m tc bl j i k a f:Nat} {y z:Int} {W:F} {u:Nat->O} {Q:eF->Act->F->Prop}
def xG (a6:u 15=.slice (J ⟨xb,xo,Y⟩) N xc)(a7:u 17=U I (j:Nat))(a8:u 13=.slice (J ⟨nb,no,Y⟩) n nc)(aA:u 14=U I (i:Nat))(aB:u 16=U I (k:Nat))(hj:j<N)(hi:i<n)(hk:k<R)
  (HC:Hid (∀V,Gr W V->V.S ⟨xb,xo+j,Y⟩=J (U I (a:Nat))/\V.S ⟨nb,no+i,Y⟩=J (.slice (J ⟨rb,ro,Y⟩) R rc)/\V.S ⟨rb,ro+k,Y⟩=J (U I (f:Nat))))
  (hK:∀W' u',Gr W W'->(∀t,FN (IW 25 dS) t=bs->u' t=u t)->u' 95=.bool ((a:Int) != (f:Int))->Q .L ⟨T 116 u',[]⟩ W'):(bb 25 (IW 25 dS) bs).wp D7 Q ⟨T 116 u,[]⟩ W:=by
 refine aD (R:=Gr) 12<|Ed (Em a6)<|Ed (Em a7)<|Ed (FI (xo+j) 1 (El 0) (El 1))<|Ed (FU (El 2) λw hg=>(HC.out w hg).1)<|Ed (Em a8)<|Ed (Em aA)<|Ed (FI (no+i) 1 (El 4) (El 5))<|Ed (FU (El 6) λw hg=>(HC.out w hg).2.1)<|Ed (Em aB)<|Ed (FI (ro+k) 1 (El 7) (El 8))<|Ed (FU (El 9) λw hg=>(HC.out w hg).2.2)<|Ed (My (.bool ((a:Int) != (f:Int))) (El 3) (El 10))<|FJ λu w hg hf hv=>?_
 exact hK w u hg hf (hv.at_ 11 95)
def xH (h11:u 11=.slice (J ⟨tb,0,Y⟩) m tc)(a6:u 15=.slice (J ⟨xb,xo,Y⟩) N xc)(a7:u 17=U I (j:Nat))(a8:u 13=.slice (J ⟨nb,no,Y⟩) n nc)(aA:u 14=U I (i:Nat))(aB:u 16=U I (k:Nat))(aC:u 18=U I y)(hj:j<N)(hi:i<n)(hk:k<R)(ha:a<m)(hf:f<m)(hz:0<=z/\z<=1048576)(hy:0<=y/\y<=1048576)
  (HC:Hid (∀V,Gr W V->(V.S ⟨xb,xo+j,Y⟩=J (U I (a:Nat))/\V.S ⟨nb,no+i,Y⟩=J (.slice (J ⟨rb,ro,Y⟩) R rc)/\V.S ⟨rb,ro+k,Y⟩=J (U I (f:Nat)))/\V.S ⟨tb,a,Y⟩=J (.slice (J ⟨bl,0,Y⟩) m m)/\V.S ⟨bl,f,Y⟩=J (U I z)/\V.O ⟨bl,f,Y⟩=bq/\bl<V.L.size))
  (hK:∀W' u',Gr W W'->(∀t,FN (IW 26 dS) t=bs->u' t=u t)->Q .L ⟨T 116 u',[]⟩ (W'.LH ⟨bl,f,Y⟩ (U I (z+y)))):(bb 26 (IW 26 dS) bs).wp D7 Q ⟨T 116 u,[]⟩ W:=by
 refine aD (R:=Gr) 19<|Ed (Em h11)<|Ed (Em a6)<|Ed (Em a7)<|Ed (FI (xo+j) 1 (El 1) (El 2))<|Ed (FU (El 3) λw hg=>(HC.out w hg).1.1)<|Ed (FI a 1 (El 0) (El 4))<|Ed (FU (El 5) λw hg=>(HC.out w hg).2.1)<|Ed (Em a8)<|Ed (Em aA)<|Ed (FI (no+i) 1 (El 7) (El 8))<|Ed (FU (El 9) λw hg=>(HC.out w hg).1.2.1)<|Ed (Em aB)<|Ed (FI (ro+k) 1 (El 10) (El 11))<|Ed (FU (El 12) λw hg=>(HC.out w hg).1.2.2)<|Ed (FI f 1 (El 6) (El 13))<|Ed (FU (El 14) λw hg=>(HC.out w hg).2.2.1)<|Ed (Em aC)<|Ed (O7 (U I (z+y)) ?_)<|Ed (FI f 1 (El 6) (El 13))<|FJ λu w hg hf hv=>?_
 .intro u w hg hf hl hd;refine bH (op:=.binOp BinOp.add 3 (.tmp 111) (.tmp 112) 3) (t:=3) rfl (λev he=>?_);have e1:=(he.t 111).trans (hd.at_ 15 111);have e2:=(he.t 112).trans (hd.at_ 16 112);have hw:IntKind.i64.wrap (z+y)=z+y:=by simp[ea,eb,cw];omega
  clear hg hf hl hd he;go_simp
 .have aF:=hv.at_ 17 113;have aG:=hv.at_ 18 114;have er:cf 19 ((IW 26 dS).size-19)=[19]:=by kernel_rfl
  obtain⟨-,-,c1,c2,c3⟩:=HC.out w hg;rw[er,bk];refine dE (op:=.store 3 (.tmp 114) (.tmp 113)) (t:=0) rfl (w.LH ⟨bl,f,Y⟩ (U I (z+y))) (λev he=>?_) ?_
  .have e1:=(he.t 114).trans aG;have e2:=(he.t 113).trans aF;clear hv hf hg he hK;go_simp
  .exact hK w u hg hf
end
def EY (c:Ek)(ls:List (List Int))(rs:List (Int×Int))(p:Int):Int:=if Ez c ls rs≠0 then Ez c ls rs else if FM p 0 99=bq then 1 else 0
section
variable (nA hA gA rA:Option bc) (nc hc gc rc:Nat) (c:Ek) (ls:List (List Int)) (rs:List (Int×Int)) (p:Int) (w:F) (B:Nat) (hB:B<=w.L.size) (hn:RI w B nA c.D9) (hh:Fe w B hA c.D8) (hg:E7 w B gA ls) (hr:FA w B rA rs)
  (Gg:c.D9.L<=4611686018427387904) (zC:c.D8.L<=4611686018427387904) (Fa:∀h∈c.D8,h.off.L<=4611686018427387904) (G4:ls.L<=4611686018427387904) (zq:∀x∈ls,x.L<=4611686018427387904) (Io:rs.L<=4611686018427387904) (Im:rs.L<=rc)
include hB hn hh hg hr Gg zC Fa G4 zq Io Im
def qT (hF:Ez c ls rs≠0):ak D7 15 #[En nA hA c nc hc,Z gA ls.L gc,Z rA rs.L rc] w λe w'=>e=.L (.tuple #[.slice Y 0 0,U I (Ez c ls rs)])/\Gr w w':=by
 unfold En;obtain⟨W0,zM⟩:∃W0:F,W0=w.LK (H #[Z nA c.D9.L nc,Z hA c.D8.L hc] 25):=⟨_,rfl⟩;have zL:Gr w W0:=zM▸(Gr.refl w).LK _;have zF:W0.L.size=w.L.size+1:=by rw[zM];simp
 have HW:=AI zM;have a7:=ew nA hA gA rA nc hc gc rc c ls rs W0 B (by omega) (hn.gr hB zL) (hh.keep λb o hb=>zL.cell (AO hb hB)) (hg.gr hB zL) (hr.gr hB zL) Gg zC Fa G4 zq Io Im;unfold En at a7;have aA:=AI a7;have aB:=AI zL;have a8:=AI hF;go_enter Sq.func15,Tryz.ntmps15;go_wp2_with fail;rw[<-HW.out];refine aA.out.LT ?_;rintro e w1 ⟨zJ,a6⟩;have aC:=AI (aB.out.trans zJ);rw[AN a8.out] at a6
 obtain⟨r,rfl⟩:=a6;have zU:(Ez c ls rs != 0)=true:=by simpa using a8.out
 unfold E6;generalize hq:Ez c ls rs=e0 at zU;replace hq:=AI hq;go_wp2;go_ret2;exact⟨by rw[hq.out];rfl,aC.out.LK _⟩
def tf (hF:Ez c ls rs≠0):ak D7 18 #[En nA hA c nc hc,Z gA ls.L gc,Z rA rs.L rc] w λe w'=>e=.L (.tuple #[.slice Y 0 0,U I (Ez c ls rs)])/\Gr w w':=by
 unfold En;obtain⟨W0,zM⟩:∃W0:F,W0=w.LK (H #[Z nA c.D9.L nc,Z hA c.D8.L hc] 25):=⟨_,rfl⟩;have zL:Gr w W0:=zM▸(Gr.refl w).LK _;have zF:W0.L.size=w.L.size+1:=by rw[zM];simp
 have HW:=AI zM;have a7:=ew nA hA gA rA nc hc gc rc c ls rs W0 B (by omega) (hn.gr hB zL) (hh.keep λb o hb=>zL.cell (AO hb hB)) (hg.gr hB zL) (hr.gr hB zL) Gg zC Fa G4 zq Io Im;unfold En at a7;have aA:=AI a7;have aB:=AI zL;have a8:=AI hF;go_enter Sq.func18,Tryz.ntmps18;go_wp2_with fail;rw[<-HW.out];refine aA.out.LT ?_;rintro e w1 ⟨zJ,a6⟩;have aC:=AI (aB.out.trans zJ);rw[AN a8.out] at a6
 obtain⟨r,rfl⟩:=a6;have zU:(Ez c ls rs != 0)=true:=by simpa using a8.out
 unfold E6;generalize hq:Ez c ls rs=e0 at zU;replace hq:=AI hq;go_wp2;go_ret2;exact⟨by rw[hq.out];rfl,aC.out.LK _⟩
def lR (hF:EY c ls rs p≠0):ak D7 22 #[En nA hA c nc hc,Z gA ls.L gc,Z rA rs.L rc,U I p] w λe w'=>e=.L (.tuple #[.slice Y 0 0,U I (EY c ls rs p)])/\Gr w w':=by
 unfold En;obtain⟨W0,zM⟩:∃W0:F,W0=w.LK (H #[Z nA c.D9.L nc,Z hA c.D8.L hc] 25):=⟨_,rfl⟩;have zL:Gr w W0:=zM▸(Gr.refl w).LK _;have zF:W0.L.size=w.L.size+1:=by rw[zM];simp
 have HW:=AI zM;have a7:=ew nA hA gA rA nc hc gc rc c ls rs W0 B (by omega) (hn.gr hB zL) (hh.keep λb o hb=>zL.cell (AO hb hB)) (hg.gr hB zL) (hr.gr hB zL) Gg zC Fa G4 zq Io Im;unfold En at a7;have aA:=AI a7;have aB:=AI zL;have aC:Hid (∀W,ak D7 45 #[U I p,U I 0,U I 99] W λe w'=>e=.L (.bool (FM p 0 99))/\W=w'):=AI λW=>bP _ _ _ W;have aD:=AI hF;go_enter Sq.func22,Tryz.ntmps22
 go_wp2_with fail;rw[<-HW.out];refine aA.out.LT ?_;rintro e w1 ⟨zJ,a6⟩;have a8:=AI (aB.out.trans zJ);by_cases h0:Ez c ls rs=0
 case neg =>
  have HE:Hid (EY c ls rs p=Ez c ls rs):=AI (AP h0);have H0:=AI h0;rw[AN H0.out] at a6;obtain⟨r,rfl⟩:=a6;have zU:(Ez c ls rs != 0)=true:=by simpa using H0.out
  unfold E6;generalize hq:Ez c ls rs=e0 at zU HE H0;replace hq:=AI hq;go_wp2;go_ret2;exact⟨by rw[HE.out];rfl,a8.out.LK _⟩
 have HE:Hid (EY c ls rs p=1/\FM p 0 99=bq):=AI (by
  have h:=aD.out;unfold EY at h ⊢;rw[AN (λh=>h h0)] at h ⊢;split at h
  .rename_i e;exact⟨AP e,e⟩
  .exact AS rfl h)
 rw[AP h0] at a6;obtain⟨cb,A,ka,rfl,aF,aG⟩:=a6;unfold E6;go_wp2_with fail;refine(aC.out _).LT ?_;rintro e w' ⟨rfl,rfl⟩;have hb:=HE.out.2;rw[hb];go_wp2;go_ret2;exact⟨by rw[HE.out.1];rfl,a8.out.LK _⟩
def mo (hF:EY c ls rs p≠0):ak D7 20 #[En nA hA c nc hc,Z gA ls.L gc,Z rA rs.L rc,U I p] w λe w'=>e=.L (.tuple #[.slice Y 0 0,U I (EY c ls rs p)])/\Gr w w':=by
 obtain⟨W0,zM⟩:∃W0:F,W0=w.LK (H #[Z nA c.D9.L nc,Z hA c.D8.L hc] 25):=⟨_,rfl⟩;have zL:Gr w W0:=zM▸(Gr.refl w).LK _;have zF:W0.L.size=w.L.size+1:=by rw[zM];simp
 have HW:=AI zM;have how:=lR nA hA gA rA nc hc gc rc c ls rs p W0 B (by omega) (hn.gr hB zL) (hh.keep λb o hb=>zL.cell (AO hb hB)) (hg.gr hB zL) (hr.gr hB zL) Gg zC Fa G4 zq Io Im hF;unfold En at how ⊢;have HOW:=AI how;have a6:=AI zL;have zU:(EY c ls rs p != 0)=true:=by simpa using hF
 go_enter Sq.func20,Tryz.ntmps20;go_wp2_with fail;rw[<-HW.out];refine HOW.out.LT ?_;rintro e w1 ⟨rfl,zJ⟩;have a7:=AI (a6.out.trans zJ);generalize hq:EY c ls rs p=e0 at zU;replace hq:=AI hq;go_wp2;go_ret2;exact⟨by rw[hq.out];rfl,a7.out⟩
end
def kz (X:List (List Int))(E:Int)(w:F)(e:ed)(w':F):Prop:=Gr w w'/\∃A k,e=.L (.tuple #[Z A X.L k,U I E])/\E7 w' w'.L.size A X
def F3 (c:Ek)(ls:List (List Int))(rs:List (Int×Int))(p:Int):List (List Int):=if EY c ls rs p=0 then GX c (Ec ls) p (Er c.D9.L rs rs.L) else[]
section
variable {w w':F} {lo m:Nat} {bl:Nat->Nat} {A:Option bc} {ls:List (List Int)}
def NF.LH (h:NF w lo A ls){i:Nat}(hi:i<ls.L):∃b o A' c,A=J ⟨b,o,Y⟩/\(lo<=b/\b<w.L.size)/\w.S ⟨b,o+i,Y⟩=J (Z A' (ls[i]?.LH []).L c) /\
  ∀k,k<(ls[i]?.LH []).L->∃b' o',A'=J ⟨b',o',Y⟩/\(lo<=b'/\b'<w.L.size)/\w.S ⟨b',o'+k,Y⟩=J (U I ((ls[i]?.LH [])[k]?.LH 0)):=by
 obtain⟨b,o,e,hb,hc⟩:=h (λe=>by rw[e] at hi;cases hi);obtain⟨A',c,h1,h2⟩:=hc i (ls[i]?.LH []) (by rw[AL hi];rfl);refine⟨b,o,A',c,e,hb,h1,λk hk=>?_⟩;obtain⟨b',o',e',hb',hc'⟩:=h2 (λe=>by rw[e] at hk;cases hk);exact⟨b',o',e',hb',hc' k _ (by rw[AL hk];rfl)⟩
end
section
variable (nA hA gA rA:Option bc) (nc hc gc rc:Nat) (c:Ek) (ls:List (List Int)) (rs:List (Int×Int)) (w:F) (B:Nat) (hB:B<=w.L.size) (hn:RI w B nA c.D9) (hh:Fe w B hA c.D8) (hg:E7 w B gA ls) (hr:FA w B rA rs)
  (Gg:c.D9.L<=4611686018427387904) (zC:c.D8.L<=4611686018427387904) (Fa:∀h∈c.D8,h.off.L<=4611686018427387904) (G4:ls.L<=4611686018427387904) (zq:∀x∈ls,x.L<=4611686018427387904) (Io:rs.L<=1048576)
include hB hn hh hg hr Gg zC Fa G4 zq Io
def lS (p:Int):ak D7 23 #[En nA hA c nc hc,Z gA ls.L gc,Z rA rs.L rc,U I p] w (kz (F3 c ls rs p) (EY c ls rs p) w):=by
 unfold En;obtain⟨W0,zM⟩:∃W0:F,W0=w.LK (H #[Z nA c.D9.L nc,Z hA c.D8.L hc] 25):=⟨_,rfl⟩;have zL:Gr w W0:=zM▸(Gr.refl w).LK _;have zF:W0.L.size=w.L.size+1:=by rw[zM];simp
 have aV:Hid (∀V,Gr W0 V->(V.S ⟨w.L.size,0,Y⟩=J (Z nA c.D9.L nc)/\V.S ⟨w.L.size,1,Y⟩=J (Z hA c.D8.L hc))/\w.L.size<V.L.size):=AI λV hV=>by
  have:=hV.size;rw[hV.cell (by show w.L.size<_;omega),hV.cell (by show w.L.size<_;omega),zM,AM _ _ _ _ rfl,AM _ _ _ _ rfl];exact⟨⟨rfl,rfl⟩,by omega⟩
 have hf:=gT nA hA gA rA nc hc gc rc c ls rs W0 B (by omega) (hn.gr hB zL) (hh.keep λb o hb=>zL.cell (AO hb hB)) (hg.gr hB zL) (hr.gr hB zL) Gg zC Fa G4 zq Io;unfold En at hf;have HF:=AI hf;have aG:=AI λV (hV:Gr W0 V) (h0:Ez c ls rs=0)=>fY nA hA gA rA nc hc gc rc c ls rs V B (by have:=hV.size;omega) (hh.keep λb o hb=>(zL.trans hV).cell (p:=⟨b,o,Y⟩) (AO hb hB)) (hg.gr hB (zL.trans hV)) (hr.gr hB (zL.trans hV)) (av h0).1 (av h0).2 Io
 unfold En at aG;have HG:=AI λV (hV:Gr W0 V)=>hg.gr hB (zL.trans hV);have HW:=AI zM;have aW:=AI zL;have cI:=AI zF;clear zM zL hn hh hg hr hf Fa zq zF;go_enter Sq.func23,Tryz.ntmps23;obtain⟨⟨k0,k1⟩,kl⟩:=aV.out W0 (.refl _);go_wp2_with fail;rw[<-HW.out];refine HF.out.LT ?_;rintro e w1 ⟨rfl,zJ⟩;have aH:=AI zJ;obtain⟨⟨q0,q1⟩,ql⟩:=aV.out w1 zJ;by_cases h0:Ez c ls rs=0
 .have aR:Hid (∀W,ak D7 47 #[U I p,U I 0,U I 99] W λe w'=>e=.L (.bool (FM p 0 99))/\W=w'):=AI λW=>dq _ _ _ W;have dC:=AI h0;by_cases hp:FM p 0 99=bq
  .have HE : Hid (EY c ls rs p = 1 ∧ F3 c ls rs p = []) := Lib.hid (by
    have e:EY c ls rs p=1:=by unfold EY;rw[AN (λh=>h h0),AP hp]
    exact⟨e,AN (by rw[e];decide)⟩)
   rw[hp] at aR;rw[h0];clear h0 zJ HF aG hp;go_wp2_with (go_at_call 47;refine(aR.out _).LT ?_;rintro e w' ⟨rfl,rfl⟩);go_ret2;exact⟨aW.out.trans aH.out,Y,0,by rw[HE.out.1,HE.out.2];rfl,by rw[HE.out.2];exact .nil⟩
  .have Jj:FM p 0 99=true:=by simpa using hp
   have aJ:0<=p/\p<=99:=by simp[FM] at Jj;omega
   have HE:Hid (EY c ls rs p=0/\F3 c ls rs p=GX c (Ec ls) p (Er c.D9.L rs rs.L)):=AI (by
    have e:EY c ls rs p=0:=by unfold EY;rw[AN (λh=>h h0),AN hp]
    exact⟨e,AP e⟩)
   have aS:=(av h0).1;have bP:=AI aS;have aK:=AI (Ek.Ok.of (cR aS));have dD:=aK.out.h4;have dE:=aK.out.n5;have dF:=aK.out.h1;have aX:=AI (Iw aS).1;have bQ:=AI λV (hV:Gr w1 V)=>aG.out V (zJ.trans hV) h0;rw[Jj] at aR;rw[h0];clear h0 HF aG hp Jj aS k0 k1 kl;have cJ:=AI λV (hV:Gr w1 V)=>aV.out V (zJ.trans hV);have dG:=λw=>da c.D8.L w (by omega);clear zJ;go_wp2_with (first|(go_at_call 47;refine(aR.out _).LT ?_;rintro e w' ⟨rfl,rfl⟩)|fail)
   go_loopw [11,12] (λv i wr=>∃k:Nat,k<=c.D8.L/\i=U I k/\Gr w1 wr/\∃bl,Jg wr w1.L.size v c.D8.L k (λ_ _=>0) bl) (λ_ i _=>c.D8.L-(C i).L)
   case atStart=>exact⟨0,by omega,rfl,.refl _,λ_=>0,.nil _ _ _ _ _⟩
   case round =>
    obtain⟨k,hk,rfl,zV,bl,a6⟩:=hrel;have aY:=AI zV;have HT:=AI a6;obtain⟨⟨q0,q1⟩,ql⟩:=cJ.out wr zV;have dH:=zV.size;clear zV a6;by_cases zY:k<c.D8.L
    .obtain⟨xs,hrow,bR⟩:=HT.out.row;have cK:=AI bR;have cB:=AI hrow;clear bR;go_wp2_with (at_builtin;refine ms rfl _ _ rfl w1.L.size _ _ _ rfl ((hrow.LK _).LK _) ⟨wr.L.size+1,0,Y⟩ 1 (.slice (J ⟨wr.L.size,0,Y⟩) c.D8.L c.D8.L) rfl ?c1 rfl ?c2 ?c3 ?_)
     case c1=>rw[Addr.add_lit,AM _ _ _ _ (by simp)];rfl
     case c2=>omega
     case c3=>simp;omega
     intro v' w3 hown' hgrow hd;have aZ:=AI (((aY.out.LK _).LK _).Lo hgrow hd λq hq=>(hrow.lt q hq).1);have b5:=AI (HT.out.LE (q:=wr.L.size) cB.out cK.out (by omega) (AK _) (λb hb=>(aa _ _ (by simp;omega)).trans (aa _ _ hb)) ((aa _ _ (by simp)).trans (heap_alloc_new _ _)) (λt ht=>dx _ _ ht) (by simp;omega) hgrow hown');clear hown' hgrow hd hrow;go_wp2;go_roundw
     case rel=>exact⟨k+1,by omega,by go_num,aZ.out,_,b5.out⟩
     case measure=>simp[Proofs.intOf];omega
    .have cL:k=c.D8.L:=by omega
     subst cL;obtain⟨g,hv,zQ⟩:∃g,(∃cap,u11=.slice (J ⟨g,0,Y⟩) c.D8.L cap)/\g<wr.L.size:=by
      obtain⟨xs,h1,h2⟩:=HT.out.row;obtain⟨_,h0⟩|⟨g,cap,cur,hv,_,k2,_⟩:=h1.2
      .omega
      .exact⟨g,⟨cap,hv⟩,(AJ.1 k2).1⟩
     obtain⟨cap,rfl⟩:=hv;have b6:=AI (bQ.out wr aY.out);obtain⟨L,hL⟩:∃L,L=ET c (Ec ls) (Er c.D9.L rs rs.L):=⟨_,rfl⟩;have cC:Hid (Ord L):=AI (hL▸ku _ _ _);have b7:Hid (∀q∈L,0<=q.1/\q.1<c.D9.L/\0<=q.2/\q.2<c.D8.L):=AI λq hq=>by
      have:=(dz aK.out (Ec ls) (Er c.D9.L rs rs.L)).night q (by rw[hL] at hq;exact hq)
      rwa [aI] at this
     have cM:=AI (hL▸cX aK.out (Ec ls) (Er c.D9.L rs rs.L):L.L<=160);have bS:Hid (GX c (Ec ls) p (Er c.D9.L rs rs.L)=Ld c.D8.L λh t=>Gu p (Ec ls) L h t L.L):=AI (by rw[hL];rfl);have HWL:Hid (∀i,i<c.D9.L->∃l,ls[i]?=J l/\wl (Ec ls i)=l/\l.L<=4/\∀x∈l,0<=x/\x<c.D8.L):=AI λi hi=>by
      obtain⟨l,hl⟩:∃l,ls[i]?=J l:=⟨ls[i]'(by rw[aX.out];exact hi),AL _⟩;have ha:=(Iw bP.out).2 l (By hl);refine⟨l,hl,yS bP.out hl,?_,(I0 ha).1⟩;obtain⟨q,e⟩:=JQ ha;have:=dR q c.D8.L;rw[e];omega
     rw[<-hL] at b6;clear hL bQ;have HST:Hid (GJ L 0=0):=AI (lK λq hq=>(b7.out q hq).1);have cD:Hid (GJ L c.D9.L=L.L):=AI (nD λq hq=>(b7.out q hq).2.1);go_wp2_with fail;refine b6.out.LT ?_;rintro e w2 ⟨zI,A,rfl,bT⟩;have HGN:=AI bT;have cN:=AI (aY.out.trans zI);have cO:=AI ((HT.out.gr zI).congr (M':=λh t=>Gu p (Ec ls) L h t 0) λa t _ _=>rfl);have bU:Hid (∀h,h<c.D8.L->bl h<wr.L.size):=AI λh hh=>(HT.out.at_ hh hh).2.1
     have HBA:Hid (∀h,h<c.D8.L->w1.L.size<=bl h):=AI λh hh=>(HT.out.at_ hh hh).1;clear zI bT b6;go_wp2;go_loopw [14] (λi wr=>∃q:Nat,q<=c.D9.L/\i=U I q/\KP c.D8.L bl w2 wr/\Gr w1 wr/\Jg wr w1.L.size (.slice (J ⟨g,0,Y⟩) c.D8.L cap) c.D8.L c.D8.L (λh t=>Gu p (Ec ls) L h t (GJ L q)) bl) (λi _=>c.D9.L-(C i).L)
     case atStart=>exact⟨0,by omega,rfl,.refl _ _ _,cN.out,by rw[HST.out];exact cO.out⟩
     case round =>
      obtain⟨q,hq,rfl,a7,zV,a6⟩:=hrel;by_cases aA:q<c.D9.L
      .obtain⟨wo,rfl⟩:∃wo,wo=wr:=⟨_,rfl⟩;obtain⟨l,hl,bV,zq,bW⟩:=HWL.out q aA;obtain⟨gb,go,A',lc,rfl,hgb,b8,aP⟩:=(HG.out w1 aH.out).at_ (k:=q) (by rw[aX.out];exact aA);rw[hl,Bf] at b8 aP;have hBw:B<=w1.L.size:=by have:=aH.out.size;have:=cI.out;omega
       have HX:Hid (∀V,Gr w1 V->(V.S ⟨gb,go+q,Y⟩=J (Z A' l.L lc)/\gb<V.L.size)/\∀j,j<l.L->∃b' o',A'=J ⟨b',o',Y⟩/\b'<w1.L.size/\V.S ⟨b',o'+j,Y⟩=J (U I (l[j]?.LH 0))):=AI λV hV=>by
        have hz:=hV.size;refine⟨⟨(hV.cell (p:=⟨gb,_,Y⟩) (by show gb<_;omega)).trans b8,by omega⟩,λj hj=>?_⟩;obtain⟨b',o',e,hb',hc'⟩:=aP (λe=>by rw[e] at hj;cases hj);exact⟨b',o',e,by omega,(hV.cell (p:=⟨b',_,Y⟩) (by show b'<_;omega)).trans (hc' j _ (by rw[AL hj];rfl))⟩
       have cE:=AI bW;have b9:=AI (lL L q);have HWQ:=AI bV;obtain⟨R,hR⟩:∃R,R=ED L q:=⟨_,rfl⟩;have hrow:((bh c.D9.L).map (ED L))[q]?.LH []=R:=by simp[aA,hR]
       obtain⟨nb,no,An,lcn,rfl,bA,aT,aL⟩:=HGN.out.LH (i:=q) (by simpa using aA);rw[hrow] at aT aL;have bB:Hid (∀V,KP c.D8.L bl w2 V->V.S ⟨nb,no+q,Y⟩=J (.slice An R.L lcn)/\nb<V.L.size/\∀k,k<R.L->∃b' o',An=J ⟨b',o',Y⟩/\∀V',KP c.D8.L bl w2 V'->V'.S ⟨b',o'+k,Y⟩=J (U I (R[k]?.LH 0))/\b'<V'.L.size):=AI λV hV=>by
        have hz:=hV.1;refine⟨(hV.cell bA.2 (λa ha e=>by have:=bU.out a ha;omega) _).trans aT,by omega,λk hk=>?_⟩;obtain⟨b',o',e,hb',hc'⟩:=aL k hk;exact⟨b',o',e,λV' hV'=>⟨(hV'.cell hb'.2 (λa ha e=>by have:=bU.out a ha;omega) _).trans hc',by have:=hV'.1;omega⟩⟩
       clear bA aT aL;have cP:Hid (∀k,k<R.L->L[GJ L q+k]?=J ((q:Int),R[k]?.LH 0)):=AI λk hk=>by rw[hR];exact sP cC.out q k (by rw[<-hR];exact hk)
       rw[<-hR] at b9;have dI:=pv L (q+1);have Fa:=cM.out;have hRb:R.L<=160:=by have:=b9.out;omega
       have cS:=AI a7;have cT:=AI zV;have HTW:=AI a6;obtain⟨⟨x0,x1⟩,-⟩:=HX.out wo zV;have dJ:q<ls.L:=by rw[aX.out];exact aA
       clear a7 zV a6 hR hl bV bW b8 aP;go_wp2;go_loopw [16] (λi wr=>∃k:Nat,k<=R.L/\i=U I k/\KP c.D8.L bl w2 wr/\Gr w1 wr/\Jg wr w1.L.size (.slice (J ⟨g,0,Y⟩) c.D8.L cap) c.D8.L c.D8.L (λh t=>Gu p (Ec ls) L h t (GJ L q+k)) bl) (λi _=>R.L-(C i).L)
       case atStart=>exact⟨0,by omega,rfl,cS.out,cT.out,HTW.out⟩
       case round =>
        obtain⟨k,hk,rfl,a7,zV,a6⟩:=hrel;obtain⟨aT,bA,aL⟩:=bB.out _ a7;by_cases aU:k<R.L
        .obtain⟨rb,ro,rfl,bX⟩:=aL k aU;have bC:=AI bX;have hat:=cP.out k aU;have aQ:=b7.out _ (By hat);obtain⟨K,hK⟩:∃K,K=GJ L q+k:=⟨_,rfl⟩;have hkL:K<L.L:=by rw[hK];exact(Be.1 hat).1
         rw[<-hK] at hat a6;have HKE:=AI hK;have cU:Hid (∀a t,Fv p (Ec ls) L K 0 a t=Gu p (Ec ls) L a t K):=AI λa t=>j7 p (Ec ls) L K a t;have aC:L[K]?.LH (0,0)=((q:Int),R[k]?.LH 0):=by rw[hat];rfl
         have cV:Hid (∀a t,Fv p (Ec ls) L K l.L a t=Gu p (Ec ls) L a t (K+1)):=AI λa t=>by
          have:=lF p (Ec ls) L K a t;rw[aC] at this;rw[<-HWQ.out];exact this
         have bY:Hid (∀i a t,Fv p (Ec ls) L K (i+1) a t=Fv p (Ec ls) L K i a t+if R[k]?.LH 0=(t:Int)/\a≠t/\l[i]?.LH 0=(a:Int) then Jp p l.L i else 0):=AI λi a t=>by
          have:=j8 p (Ec ls) L K i a t;rw[aC] at this;dsimp only at this;rw[Cu,HWQ.out] at this;exact this
         generalize R[k]?.LH 0=f0 at bC bY aQ;dsimp only at aQ;obtain⟨f,rfl⟩:∃f:Nat,f0=f:=⟨f0.L,by omega⟩;have bD:f<c.D8.L:=by omega
         have cF:=AI a7;have cG:=AI zV;have b5:=AI (a6.congr (M':=λa t=>Fv p (Ec ls) L K 0 a t) λa t _ _=>(cU.out a t).LH);obtain⟨wo2,rfl⟩:∃wo2,wo2=wr:=⟨_,rfl⟩;clear a7 zV a6 hat aQ aC hK bX;go_wp2;go_loopw [17] (λi wr=>∃j:Nat,j<=l.L/\i=U I j/\KP c.D8.L bl w2 wr/\Gr w1 wr/\Jg wr w1.L.size (.slice (J ⟨g,0,Y⟩) c.D8.L cap) c.D8.L c.D8.L (λa t=>Fv p (Ec ls) L K j a t) bl) (λi _=>l.L-(C i).L)
         case atStart=>exact⟨0,by omega,rfl,cF.out,cG.out,b5.out⟩
         case round =>
          obtain⟨j,hj,rfl,a7,zV,a6⟩:=hrel;by_cases aM:j<l.L
          .obtain⟨⟨x0,x1⟩,xr⟩:=HX.out wr zV;obtain⟨xb,xo,rfl,hxb,bE⟩:=xr j aM;have bF:=cE.out _ (BN aM);have hlg:l[j]?.LH 0=l[j]:=by rw[AL aM];rfl
           rw[<-hlg] at bF;have bG:=AI λa t=>bY.out j a t;generalize l[j]?.LH 0=a0 at bF bE bG;obtain⟨a,rfl⟩:∃a:Nat,a0=a:=⟨a0.L,by omega⟩;have aN:a<c.D8.L:=by omega
           have bH:Hid (Jp p l.L j=p / (l.L:Int)+if(j:Int)<p % (l.L:Int) then 1 else 0):=AI rfl;have cW:=jr aJ (Ec ls) L K j a f;obtain⟨g',eg,cH,hgrow⟩:=a6.LK aN;have cY:g'=g:=by injection eg with e;injection e with e;exact e.LH
           subst cY;obtain⟨cZ,bZ,c0,c4⟩:=a6.at_ aN bD;have aO:Hid (∀V,Gr wr V->(V.S ⟨xb,xo+j,Y⟩=J (U I (a:Nat))/\V.S ⟨nb,no+q,Y⟩=J (.slice (J ⟨rb,ro,Y⟩) R.L lcn)/\V.S ⟨rb,ro+k,Y⟩=J (U I (f:Nat)))/\V.S ⟨g',a,Y⟩=J (.slice (J ⟨bl a,0,Y⟩) c.D8.L c.D8.L)/\V.S ⟨bl a,f,Y⟩=J (U I (Fv p (Ec ls) L K j a f))/\V.O ⟨bl a,f,Y⟩=bq/\bl a<V.L.size):=AI λV hV=>by
            have hz:=hV.size;obtain⟨n1,n2,-⟩:=bB.out _ a7;obtain⟨n3,n4⟩:=bC.out _ a7;have zE:=zV.size;exact⟨⟨(hV.cell (p:=⟨xb,_,Y⟩) (by show xb<_;omega)).trans bE,(hV.cell (p:=⟨nb,_,Y⟩) n2).trans n1,(hV.cell (p:=⟨rb,_,Y⟩) n4).trans n3⟩,(hV.cell (p:=⟨g',_,Y⟩) cH).trans hgrow,(hV.cell (p:=⟨bl a,_,Y⟩) bZ).trans c0,(hV.frozen (p:=⟨bl a,_,Y⟩) bZ).trans c4,by omega⟩
           have aD:Hid (∀(V:F) (y:Int),Gr wr V->a≠f->y=Jp p l.L j->Jg (V.LH ⟨bl a,f,Y⟩ (U I (Fv p (Ec ls) L K j a f+y))) w1.L.size (.slice (J ⟨g',0,Y⟩) c.D8.L cap) c.D8.L c.D8.L (λa t=>Fv p (Ec ls) L K (j+1) a t) bl/\KP c.D8.L bl w2 (V.LH ⟨bl a,f,Y⟩ (U I (Fv p (Ec ls) L K j a f+y)))/\Gr w1 (V.LH ⟨bl a,f,Y⟩ (U I (Fv p (Ec ls) L K j a f+y)))):=AI λV y hV a8 hy=>by
            refine⟨(a6.gr hV).Lo aN bD _ λa' t' _ _=>?_,(a7.trans (KP.gr hV)).trans (KP.Lo aN f _),(zV.trans hV).LH (p:=⟨bl a,f,Y⟩) cZ _⟩;rw[bG.out];by_cases e:a'=a/\t'=f
            .obtain⟨rfl,rfl⟩:=e;rw[AP ⟨rfl,a8,rfl⟩,AP ⟨rfl,rfl⟩,hy]
            .rw[AN (λh=>e (by omega)),AN e];omega
           have aF:Hid (∀V,Gr wr V->a=f->Jg V w1.L.size (.slice (J ⟨g',0,Y⟩) c.D8.L cap) c.D8.L c.D8.L (λa t=>Fv p (Ec ls) L K (j+1) a t) bl/\KP c.D8.L bl w2 V/\Gr w1 V):=AI λV hV a8=>⟨(a6.gr hV).congr λa' t' _ _=>by rw[bG.out,AN (by omega)];simp,a7.trans (KP.gr hV),zV.trans hV⟩;have zF:=jr aJ (Ec ls) L K j a f;generalize Fv p (Ec ls) L K j a f=M0 at aO aD zF
           have hMb:0<=M0/\M0<=1048576:=by have:=Fa;omega
           have dK:0<=p / (l.L:Int):=Dn aJ.1 (by omega);have hq2:p / (l.L:Int)<=99:=Int.le_trans (Int.ediv_le_self _ aJ.1) aJ.2;have bI:=AI λh:(j:Int)<p % (l.L:Int)=>show p / (l.L:Int)+1=Jp p l.L j by rw[bH.out,AP h]
           have bJ:=AI λh:¬(j:Int)<p % (l.L:Int)=>show p / (l.L:Int)=Jp p l.L j by rw[bH.out,AN h];omega
           clear a7 zV a6 bE hgrow c0 c4 bF hlg HX bB bC bH cW zF;by_cases bK:(j:Int)<p % (l.L:Int)
           case' pos=>have HPY:=AI (bI.out bK)
           case' neg=>have HPY:=AI (bJ.out bK)
           all_goals
            clear bJ bI;go_wp2;rename_i d2;refine fX 116 rfl λu hu=>?_;refine xG (a:=a) (f:=f) (hu 15) (hu 17) (hu 13) (hu 14) (hu 16) aM aA aU (AI λV hV=>(aO.out V hV).1) λW5 u5 c5 hf aB=>?_;rw[dU (n:=116) [84,85,86,87,88,89,90,91,92,93,94,95] (by kernel_rfl) rfl hu hf];have bL:=AI c5;clear hu hf c5;refine d2 _ _ ?_;simp only[B1,CG,Cb,Ch];by_cases a8:a=f
            .rw[show((a:Int) != (f:Int))=bq by simp[a8]] at aB;simp only[aB];clear aB;obtain⟨s1,s2,s3⟩:=aF.out W5 bL.out a8;have bM:=AI s1;have bN:=AI s2;have bO:=AI s3;clear s1 s2 s3 aD aF aO a8;go_wp2;go_roundw
             case rel=>exact⟨j+1,by omega,by go_num,bN.out,bO.out,bM.out⟩
             case measure=>simp[Proofs.intOf];omega
            .rw[show((a:Int) != (f:Int))=bs by simp;omega] at aB;simp only[aB];clear aB;go_wp2;refine fX 116 rfl λu hu=>?_;refine xH (a:=a) (f:=f) (bl:=bl a) (z:=M0) (hu 11) (hu 15) (hu 17) (hu 13) (hu 14) (hu 16) (hu 18) aM aA aU aN bD hMb (by omega) (AI λV hV=>aO.out V (bL.out.trans hV)) λW6 u6 cA hf=>?_;rw[dU (n:=116) [96,97,98,99,100,101,102,103,104,105,106,107,108,109,110,111,112,113,114] (by kernel_rfl) rfl hu hf]
             obtain⟨s1,s2,s3⟩:=aD.out W6 _ (bL.out.trans cA) a8 HPY.out;have bM:=AI s1;have bN:=AI s2;have bO:=AI s3;clear hu hf s1 s2 s3 aD aF aO a8 cA;simp only[B1,CG,Cb,Ch];go_wp2;go_roundw
             case rel=>exact⟨j+1,by omega,by go_num,bN.out,bO.out,bM.out⟩
             case measure=>simp[Proofs.intOf];omega
          .have hje:j=l.L:=by omega
           subst hje;have d3:=AI (a6.congr (M':=λa t=>Gu p (Ec ls) L a t (GJ L q+(k+1))) λa t _ _=>by rw[cV.out,HKE.out];rfl);have d4:=AI a7;have d5:=AI zV;clear a7 zV a6;go_wp2;go_roundw
           case rel=>exact⟨k+1,by omega,by go_num,d4.out,d5.out,d3.out⟩
           case measure=>simp[Proofs.intOf];omega
        .have d6:k=R.L:=by omega
         subst d6;rw[<-b9.out] at a6;have d7:=AI a6;have d8:=AI a7;have aZ:=AI zV;clear a7 zV a6;go_wp2;go_roundw
         case rel=>exact⟨q+1,by omega,by go_num,d8.out,aZ.out,d7.out⟩
         case measure=>simp[Proofs.intOf];omega
      .have d9:q=c.D9.L:=by omega
       subst d9;rw[cD.out] at a6;have dA:=AI a6.LH;have dB:=AI (aW.out.trans (aH.out.trans zV));clear a7 zV a6;go_wp2;go_ret2;exact⟨dB.out,_,_,by rw[HE.out.1,HE.out.2,bS.out,cQ];rfl,by rw[HE.out.2,bS.out];exact dA.out⟩
 .have HE : Hid (EY c ls rs p = Ez c ls rs ∧ F3 c ls rs p = []) := Lib.hid (by
   have e:EY c ls rs p=Ez c ls rs:=AP h0
   exact⟨e,AN (by rw[e];exact h0)⟩)
  have zU:(Ez c ls rs != 0)=true:=by simpa using h0
  generalize Ez c ls rs=e0 at zU HE;clear h0 zJ HF aG;go_wp2;go_ret2;exact⟨aW.out.trans aH.out,Y,0,by rw[HE.out.1,HE.out.2];rfl,by rw[HE.out.2];exact .nil⟩
end
def Hk (M:List (List Int))(i k j:Nat):Int:=Hg M i j+(if j<k then(M[i]?.LH [])[j]?.LH 0 else 0)-if j=i then((M[i]?.LH []).LT k).LE else 0
def th (M:List (List Int))(i j:Nat):Hk M i 0 j=Hg M i j:=by simp[Hk]
def uS {M:List (List Int)}{i j n:Nat}(h:(M[i]?.LH []).L=n)(hj:j<n):Hk M i n j=Hg M (i+1) j:=by
 have e:=nu M i n j hj;rw[<-e];unfold Hk Jd;rw[AP hj,Bm (BJ h)];omega
def tj {M:List (List Int)}{i k:Nat}(j:Nat)(hk:k<(M[i]?.LH []).L):Hk M i (k+1) j=Hk M i k j+(if j=k then(M[i]?.LH [])[k]?.LH 0 else 0)-if j=i then(M[i]?.LH [])[k]?.LH 0 else 0:=by
 unfold Hk;rw[gw _ _ hk];by_cases h1:j=k
 .subst h1;have a1:j<j+1:=De j;have a2:¬j<j:=C5 j;simp only[a1,a2,if_true,if_false];split<;>omega
 .by_cases h3:j<k
  .have a1:j<k+1:=by omega
   simp only[h1,h3,a1,if_true,if_false];split<;>omega
  .have a1:¬j<k+1:=by omega
   simp only[h1,h3,a1,if_false];split<;>omega
def xI {M:List (List Int)}(h:JF M){i:Nat}(hi:i<M.L)(k j:Nat):-2097152<=Hk M i k j/\Hk M i k j<=2097152:=by
 have h1:=kU h i j (Nat.le_of_lt hi);have h2:=h.at_ hi j;have h3:=h.size;have h4:∀x∈(M[i]?.LH []).LT k,0<=x/\x<=((65536:Nat):Int):=λx hx=>(h.row hi).2 x (Cq hx);have h5:=sL h4;have h6:=dr k (M[i]?.LH []);have h7:=(h.row hi).1;have h8:((M[i]?.LH []).LT k).L<=4:=by rw[CV];omega
 unfold Hk;split<;>split<;>omega
def I6 (c:Ek)(ls:List (List Int))(rs:List (Int×Int))(p:Int):List Int:=if EY c ls rs p=0 then Kh (GX c (Ec ls) p (Er c.D9.L rs rs.L)) else[]
section
variable {ob m gb go gc rb ro R rc i k:Nat} {x y:Int} {W:F} {u:Nat->O} {Q:eF->Act->F->Prop}
def xJ (a7:u 12=.slice (J ⟨ob,0,Y⟩) m m)(h10:u 10=.slice (J ⟨gb,go,Y⟩) m gc)(a8:u 13=U I (i:Nat))(a6:u 14=U I (k:Nat))(hi:i<m)(hk:k<m)(aC:k<R)(hx:-16777216<=x/\x<=16777216)(hy:-16777216<=y/\y<=16777216)
  (HC:Hid (∀V,Gr W V->V.S ⟨gb,go+i,Y⟩=J (.slice (J ⟨rb,ro,Y⟩) R rc)/\V.S ⟨rb,ro+k,Y⟩=J (U I x)/\V.S ⟨ob,k,Y⟩=J (U I y)/\V.O ⟨ob,k,Y⟩=bq/\ob<V.L.size))
  (hK:∀W' u',Gr W W'->(∀t,FN (IW 11 df) t=bs->u' t=u t)->Q .L ⟨T 72 u',[]⟩ (W'.LH ⟨ob,k,Y⟩ (U I (y+x)))):(bb 11 (IW 11 df) bs).wp D7 Q ⟨T 72 u,[]⟩ W:=by
 refine aD (R:=Gr) 15<|Ed (Em a7)<|Ed (Em a6)<|Ed (Em a7)<|Ed (Em a6)<|Ed (FI k 1 (El 2) (El 3))<|Ed (FU (El 4) λw hg=>(HC.out w hg).2.2.1)<|Ed (Em h10)<|Ed (Em a8)<|Ed (FI (go+i) 1 (El 6) (El 7))<|Ed (FU (El 8) λw hg=>(HC.out w hg).1)<|Ed (Em a6)<|Ed (FI (ro+k) 1 (El 9) (El 10))<|Ed (FU (El 11) λw hg=>(HC.out w hg).2.1)<|Ed (O7 (U I (y+x)) ?_)<|Ed (FI k 1 (El 0) (El 1))<|FJ λu w hg hf hv=>?_
 .intro u w hg hf hl hd;refine bH (op:=.binOp BinOp.add 3 (.tmp 46) (.tmp 53) 3) (t:=3) rfl (λev he=>?_);have e1:=(he.t 46).trans (hd.at_ 5 46);have e2:=(he.t 53).trans (hd.at_ 12 53);have hw:IntKind.i64.wrap (y+x)=y+x:=by simp[ea,eb,cw];omega
  clear hg hf hl hd he;go_simp
 .have aA:=hv.at_ 13 54;have aB:=hv.at_ 14 55;have er:cf 15 ((IW 11 df).size-15)=[15]:=by kernel_rfl
  obtain⟨-,-,c1,c2,c3⟩:=HC.out w hg;rw[er,bk];refine dE (op:=.store 3 (.tmp 55) (.tmp 54)) (t:=0) rfl (w.LH ⟨ob,k,Y⟩ (U I (y+x))) (λev he=>?_) ?_
  .have e1:=(he.t 55).trans aB;have e2:=(he.t 54).trans aA;clear hv hf hg he hK;go_simp
  .exact hK w u hg hf
def xK (a7:u 12=.slice (J ⟨ob,0,Y⟩) m m)(h10:u 10=.slice (J ⟨gb,go,Y⟩) m gc)(a6:u 13=U I (i:Nat))(a8:u 14=U I (k:Nat))(hi:i<m)(hk:k<m)(aC:k<R)(hx:-16777216<=x/\x<=16777216)(hy:-16777216<=y/\y<=16777216)
  (HC:Hid (∀V,Gr W V->V.S ⟨gb,go+i,Y⟩=J (.slice (J ⟨rb,ro,Y⟩) R rc)/\V.S ⟨rb,ro+k,Y⟩=J (U I x)/\V.S ⟨ob,i,Y⟩=J (U I y)/\V.O ⟨ob,i,Y⟩=bq/\ob<V.L.size))
  (hK:∀W' u',Gr W W'->(∀t,FN (IW 12 df) t=bs->u' t=u t)->Q .L ⟨T 72 u',[]⟩ (W'.LH ⟨ob,i,Y⟩ (U I (y-x)))):(bb 12 (IW 12 df) bs).wp D7 Q ⟨T 72 u,[]⟩ W:=by
 refine aD (R:=Gr) 15<|Ed (Em a7)<|Ed (Em a6)<|Ed (Em a7)<|Ed (Em a6)<|Ed (FI i 1 (El 2) (El 3))<|Ed (FU (El 4) λw hg=>(HC.out w hg).2.2.1)<|Ed (Em h10)<|Ed (Em a6)<|Ed (FI (go+i) 1 (El 6) (El 7))<|Ed (FU (El 8) λw hg=>(HC.out w hg).1)<|Ed (Em a8)<|Ed (FI (ro+k) 1 (El 9) (El 10))<|Ed (FU (El 11) λw hg=>(HC.out w hg).2.1)<|Ed (O7 (U I (y-x)) ?_)<|Ed (FI i 1 (El 0) (El 1))<|FJ λu w hg hf hv=>?_
 .intro u w hg hf hl hd;refine bH (op:=.binOp BinOp.sub 3 (.tmp 61) (.tmp 68) 3) (t:=3) rfl (λev he=>?_);have e1:=(he.t 61).trans (hd.at_ 5 61);have e2:=(he.t 68).trans (hd.at_ 12 68);have hw:IntKind.i64.wrap (y-x)=y-x:=by simp[ea,eb,cw];omega
  clear hg hf hl hd he;go_simp
 .have aA:=hv.at_ 13 69;have aB:=hv.at_ 14 70;have er:cf 15 ((IW 12 df).size-15)=[15]:=by kernel_rfl
  obtain⟨-,-,c1,c2,c3⟩:=HC.out w hg;rw[er,bk];refine dE (op:=.store 3 (.tmp 70) (.tmp 69)) (t:=0) rfl (w.LH ⟨ob,i,Y⟩ (U I (y-x))) (λev he=>?_) ?_
  .have e1:=(he.t 70).trans aB;have e2:=(he.t 69).trans aA;clear hv hf hg he hK;go_simp
  .exact hK w u hg hf
end
section
variable (nA hA gA rA:Option bc) (nc hc gc rc:Nat) (c:Ek) (ls:List (List Int)) (rs:List (Int×Int)) (w:F) (B:Nat) (hB:B<=w.L.size) (hn:RI w B nA c.D9) (hh:Fe w B hA c.D8) (hg:E7 w B gA ls) (hr:FA w B rA rs)
  (Gg:c.D9.L<=4611686018427387904) (zC:c.D8.L<=4611686018427387904) (Fa:∀h∈c.D8,h.off.L<=4611686018427387904) (G4:ls.L<=4611686018427387904) (zq:∀x∈ls,x.L<=4611686018427387904) (Io:rs.L<=1048576)
include hB hn hh hg hr Gg zC Fa G4 zq Io
def mp (p:Int):ak D7 21 #[En nA hA c nc hc,Z gA ls.L gc,Z rA rs.L rc,U I p] w (dc (I6 c ls rs p) (EY c ls rs p) w):=by
 unfold En;obtain⟨W0,zM⟩:∃W0:F,W0=w.LK (H #[Z nA c.D9.L nc,Z hA c.D8.L hc] 25):=⟨_,rfl⟩;have zL:Gr w W0:=zM▸(Gr.refl w).LK _;have zF:W0.L.size=w.L.size+1:=by rw[zM];simp
 have aW:Hid (∀V,Gr W0 V->(V.S ⟨w.L.size,0,Y⟩=J (Z nA c.D9.L nc)/\V.S ⟨w.L.size,1,Y⟩=J (Z hA c.D8.L hc))/\w.L.size<V.L.size):=AI λV hV=>by
  have:=hV.size;rw[hV.cell (by show w.L.size<_;omega),hV.cell (by show w.L.size<_;omega),zM,AM _ _ _ _ rfl,AM _ _ _ _ rfl];exact⟨⟨rfl,rfl⟩,by omega⟩
 have hf:=lS nA hA gA rA nc hc gc rc c ls rs W0 B (by omega) (hn.gr hB zL) (hh.keep λb o hb=>zL.cell (AO hb hB)) (hg.gr hB zL) (hr.gr hB zL) Gg zC Fa G4 zq Io p;unfold En at hf;have HF:=AI hf;have HW:=AI zM;have aM:=AI zL;clear zM zL hn hh hg hr hf Fa zq zF;go_enter Sq.func21,Tryz.ntmps21;obtain⟨⟨k0,k1⟩,kl⟩:=aW.out W0 (.refl _);go_wp2_with fail;rw[<-HW.out];refine HF.out.LT ?_;rintro e w1 ⟨zJ,A,ka,rfl,aN⟩
 have aO:=AI zJ;have aP:=AI aN;by_cases h0:EY c ls rs p=0
 .have HE:Hid (EY c ls rs p=0/\I6 c ls rs p=Kh (F3 c ls rs p)):=AI ⟨h0,by unfold I6 F3;rw[AP h0,AP h0]⟩
  have hF:=(av (show Ez c ls rs=0 by
   unfold EY at h0;split at h0
   .exact AS h0 (by assumption)
   .exact bn (by assumption))).1
  have aQ:=Ek.Ok.of (cR hF);have aR:0<=p/\p<=99:=by
   unfold EY at h0;split at h0
   .exact AS h0 (by assumption)
   .split at h0
    .cases h0
    .rename_i h;simp[FM] at h;omega
  have aB:JF (F3 c ls rs p):=by
   have:=j9 aQ (Ec ls) aR (Er c.D9.L rs rs.L);unfold F3;rw[AP h0];exact this
  rw[h0];clear h0 zJ aN HF k0 k1 kl hF aQ aR;generalize F3 c ls rs p=M at HE aP aB;have aG:=AI aB;have h4:=aB.size;have bF:=λw=>da M.L w (by omega);have aC:Hid (∀i,i<M.L->(M[i]?.LH []).L=M.L):=AI λi hi=>(aG.out.row hi).1;clear aB;obtain⟨Wz,aD⟩:∃Wz:F,Wz=w1.LK (.cells (ID M.L) 3):=⟨_,rfl⟩;have aH:Hid (Gr w1 Wz):=AI (aD▸(Gr.refl w1).LK _)
  have aX:Hid (Gz Wz w1.L.size M.L λj=>Hg M 0 j):=AI (aD▸ef w1 M.L);have HWZ:=AI aD;clear aD;go_wp2_with fail;rw[<-HWZ.out];go_wp2;go_loopw [13] (λi wr=>∃q:Nat,q<=M.L/\i=U I q/\KT (·=w1.L.size) Wz wr/\Gz wr w1.L.size M.L (λj=>Hg M q j)) (λi _=>M.L-(C i).L)
  case atStart=>exact⟨0,by omega,rfl,.refl _ _,aX.out⟩
  case round =>
   obtain⟨q,hq,rfl,a8,aA⟩:=hrel;by_cases a6:q<M.L
   .obtain⟨wo,rfl⟩:∃wo,wo=wr:=⟨_,rfl⟩;have aY:=AI a8;have aZ:=AI (aA.congr (V':=λj=>Hk M q 0 j) λj _=>(th M q j).LH);obtain⟨gb,go,Ar,lc,rfl,hgb,aI,aJ⟩:=aP.out.at_ (k:=q) a6;rw[aC.out q a6] at aI;have HX:Hid (∀V,KT (·=w1.L.size) Wz V->V.S ⟨gb,go+q,Y⟩=J (.slice Ar M.L lc)/\gb<V.L.size/\∀k,k<M.L->∃b' o',Ar=J ⟨b',o',Y⟩/\b'<V.L.size/\V.S ⟨b',o'+k,Y⟩=J (U I ((M[q]?.LH [])[k]?.LH 0))):=AI λV hV=>by
     have hz:=hV.size;have zE:=aH.out.size;have key:∀b o,b<w1.L.size->V.S ⟨b,o,Y⟩=w1.S ⟨b,o,Y⟩:=λb o hb=>(hV.cell (p:=⟨b,o,Y⟩) (by show b<_;omega) (by show ¬b=_;omega)).trans (aH.out.cell (p:=⟨b,o,Y⟩) hb);refine⟨(key _ _ hgb).trans aI,by omega,λk hk=>?_⟩;have hl:=aC.out q a6;obtain⟨b',o',e,hb',hc'⟩:=aJ (λe=>by rw[e] at hl;simp at hl;omega);exact⟨b',o',e,by omega,(key _ _ hb').trans (hc' k _ (by rw[AL (by rw[hl];exact hk)];rfl))⟩
    have HSC:=AI λj k (hk:k<M.L)=>tj (M:=M) (i:=q) (k:=k) j (by rw[aC.out q a6];exact hk);have HIB:=AI λk j=>xI aG.out a6 k j;have HAB:=AI λk=>aG.out.at_ a6 k;have HEN:=AI λj (hj:j<M.L)=>uS (aC.out q a6) hj;clear a8 aA aI aJ;go_wp2;go_loopw [14] (λi wr=>∃k:Nat,k<=M.L/\i=U I k/\KT (·=w1.L.size) Wz wr/\Gz wr w1.L.size M.L (λj=>Hk M q k j)) (λi _=>M.L-(C i).L)
    case atStart=>exact⟨0,by omega,rfl,aY.out,aZ.out⟩
    case round =>
     obtain⟨k,hk,rfl,a8,aA⟩:=hrel;by_cases a7:k<M.L
     .obtain⟨x0,x1,xr⟩:=HX.out wr a8;obtain⟨rb,ro,rfl,bG,b5⟩:=xr k a7;have bH:=HIB.out k k;have bI:=HIB.out k q;have hax:=HAB.out k;have hsc:=λj=>HSC.out j k a7;have HY:Hid (∀V,KT (·=w1.L.size) Wz V->V.S ⟨gb,go+q,Y⟩=J (.slice (J ⟨rb,ro,Y⟩) M.L lc)/\V.S ⟨rb,ro+k,Y⟩=J (U I ((M[q]?.LH [])[k]?.LH 0))):=AI λV hV=>by
       obtain⟨y0,-,yr⟩:=HX.out V hV;obtain⟨b',o',e,-,hc'⟩:=yr k a7;simp only[dy,Addr.mk.injEq] at e;obtain⟨rfl,rfl,_⟩:=e;exact⟨y0,hc'⟩
      generalize (M[q]?.LH [])[k]?.LH 0=x at b5 hax hsc HY;have bJ:=aA.lt;have aS:Hid (∀V,Gr wr V->(V.S ⟨w1.L.size,k,Y⟩=J (U I (Hk M q k k))/\V.O ⟨w1.L.size,k,Y⟩=bq/\w1.L.size<V.L.size)/\KT (·=w1.L.size) Wz (V.LH ⟨w1.L.size,k,Y⟩ (U I (Hk M q k k+x)))/\Gz (V.LH ⟨w1.L.size,k,Y⟩ (U I (Hk M q k k+x))) w1.L.size M.L (λj=>Hk M q k j+if j=k then x else 0)):=AI λV hV=>by
       have hz:=hV.size;obtain⟨a1,a2⟩:=(aA.gr hV).at_ k a7;refine⟨⟨a1,a2,by omega⟩,(a8.trans (.E3 hV)).trans (KT.LH (T:=(·=w1.L.size)) V (p:=⟨w1.L.size,k,Y⟩) rfl _),(aA.gr hV).Lo a7 _ λj hj=>?_⟩;by_cases e:j=k
       .subst e;rw[AP rfl,AP rfl]
       .rw[AN e,AN e];omega
      have aK:Hid (∀V,Gz V w1.L.size M.L (λj=>Hk M q k j+if j=k then x else 0)->Gz (V.LH ⟨w1.L.size,q,Y⟩ (U I ((Hk M q k q+if q=k then x else 0)-x))) w1.L.size M.L (λj=>Hk M q (k+1) j)):=AI λV hV=>hV.Lo a6 _ λj hj=>by
       rw[hsc];by_cases e:j=q
       .subst e;rw[AP rfl,AP rfl]
       .rw[AN e,AN e];omega
      have hyq:-16777216<=(Hk M q k q+if q=k then x else 0)/\(Hk M q k q+if q=k then x else 0)<=16777216:=by split<;>omega
      have aU:Hid (∀V,Gr wr V->V.S ⟨gb,go+q,Y⟩=J (.slice (J ⟨rb,ro,Y⟩) M.L lc)/\V.S ⟨rb,ro+k,Y⟩=J (U I x)/\V.S ⟨w1.L.size,k,Y⟩=J (U I (Hk M q k k))/\V.O ⟨w1.L.size,k,Y⟩=bq/\w1.L.size<V.L.size):=AI λV hV=>by
       obtain⟨y1,y2⟩:=HY.out V (a8.trans (.E3 hV));exact⟨y1,y2,(aS.out V hV).1⟩
      go_wp2;rename_i b6;refine fX 72 rfl λu hu=>?_;refine xJ (i:=q) (k:=k) (x:=x) (y:=Hk M q k k) (hu 12) (hu 10) (hu 13) (hu 14) a6 a7 a7 (by omega) (by omega) aU λW5 u5 b7 hf=>?_;rw[dU (n:=72) [41,42,43,44,45,46,47,48,49,50,51,52,53,54,55] (by kernel_rfl) rfl hu hf];obtain⟨-,t1,t2⟩:=aS.out W5 b7;have aL:=AI t1;have aF:=AI t2;refine b6 _ _ ?_;simp only[B1,CG,Cb,Ch];generalize W5.LH ⟨w1.L.size,k,Y⟩ (U I (Hk M q k k+x))=W6 at aL aF ⊢
      have aV:Hid (∀V,Gr W6 V->V.S ⟨gb,go+q,Y⟩=J (.slice (J ⟨rb,ro,Y⟩) M.L lc)/\V.S ⟨rb,ro+k,Y⟩=J (U I x)/\V.S ⟨w1.L.size,q,Y⟩=J (U I (Hk M q k q+if q=k then x else 0))/\V.O ⟨w1.L.size,q,Y⟩=bq/\w1.L.size<V.L.size):=AI λV hV=>by
       obtain⟨y1,y2⟩:=HY.out V (aL.out.trans (.E3 hV));obtain⟨a1,a2⟩:=(aF.out.gr hV).at_ q a6;exact⟨y1,y2,a1,a2,(aF.out.gr hV).lt⟩
      go_wp2;refine fX 72 rfl λu hu=>?_;refine xK (i:=q) (k:=k) (x:=x) (y:=Hk M q k q+if q=k then x else 0) (hu 12) (hu 10) (hu 13) (hu 14) a6 a7 a7 (by omega) hyq aV λW7 u7 aT hf=>?_;rw[dU (n:=72) [56,57,58,59,60,61,62,63,64,65,66,67,68,69,70] (by kernel_rfl) rfl hu hf];have b8:=AI (aK.out W7 (aF.out.gr aT));have b9:=AI (((aL.out.trans (.E3 aT)).trans (KT.LH (T:=(·=w1.L.size)) W7 (p:=⟨w1.L.size,q,Y⟩) rfl (U I ((Hk M q k q+if q=k then x else 0)-x)))))
      simp only[B1,CG,Cb,Ch];go_wp2;go_roundw
      case rel=>exact⟨k+1,by omega,by go_num,b9.out,b8.out⟩
      case measure=>simp[Proofs.intOf];omega
     .have bA:k=M.L:=by omega
      subst bA;have aK:=AI (aA.congr (V':=λj=>Hg M (q+1) j) λj hj=>HEN.out j hj);have bB:=AI a8;go_wp2;go_roundw
      case rel=>exact⟨q+1,by omega,by go_num,bB.out,aK.out⟩
      case measure=>simp[Proofs.intOf];omega
   .have bC:q=M.L:=by omega
    subst bC;have bD:=AI aA.ri;have bE:=AI (aM.out.trans (aO.out.trans (KT.gr aH.out a8 (by rintro b rfl;exact AK _))));go_wp2;go_ret2;exact⟨bE.out,_,_,by rw[HE.out.1,HE.out.2,show(Kh M).L=M.L by simp[Kh]];rfl,by rw[HE.out.2];exact bD.out⟩
 .have HE:Hid (I6 c ls rs p=[]):=AI (AN h0);have zU:(EY c ls rs p != 0)=true:=by simpa using h0
  generalize hq:EY c ls rs p=e0 at zU;have HQ:=AI hq;go_wp2;go_ret2;exact⟨aM.out.trans aO.out,Y,0,by rw[HE.out,HQ.out];rfl,by rw[HE.out];exact .nil⟩
end
structure Hl extends Cas where
 rA:Option bc
 rc:Nat
 rs:List (Int×Int)
 p:Int
structure Hl.Small (x:Hl):Prop where
 FQ:x.toCas.Small
 r:x.rs.L<=20
 rc:x.rs.L<=x.rc
def cI {w w':F}{A:Option bc}{l:List (Int×Int)}(h:FA w w.L.size A l)(hg:Gr w w'):FA w' w'.L.size A l:=λhn=>by
 obtain⟨b,o,e,hb,hc⟩:=h.gr (AK _) hg hn;exact⟨b,o,e,AO hb hg.size,hc⟩
abbrev Hl.Jf (x:Hl):=Go.Sq.Jf x.c x.ls x.rs
abbrev Hl.Ha (x:Hl):=Go.Sq.Ha x.c x.ls x.rs
abbrev Hl.F3 (x:Hl):=Go.Sq.F3 x.c x.ls x.rs x.p
abbrev Hl.I6 (x:Hl):=Go.Sq.I6 x.c x.ls x.rs x.p
abbrev Hl.E9 (x:Hl):=Ez x.c x.ls x.rs
abbrev Hl.EY (x:Hl):=Go.Sq.EY x.c x.ls x.rs x.p
section
variable {x:Hl} {nA hA gA rA:Option bc} {nc hc gc rc:Nat} {w:F} (hs:x.Small) (hn:RI w w.L.size nA x.c.D9) (hh:Fe w w.L.size hA x.c.D8) (hg:E7 w w.L.size gA x.ls) (hr:FA w w.L.size rA x.rs)
include hs hn hh hg hr
def tk (Im:x.rs.L<=rc):ak D7 15 #[En nA hA x.c nc hc,Z gA x.ls.L gc,Z rA x.rs.L rc] w (dc x.Jf x.E9 w):=by
 have b1:=hs.FQ.n;have b2:=hs.FQ.h;have b3:=hs.FQ.l;have b6:=hs.r;have b4:∀h∈x.c.D8,h.off.L<=4611686018427387904:=λy hy=>AU (hs.FQ.o y hy) (by omega);have b5:∀y∈x.ls,y.L<=4611686018427387904:=λy hy=>AU (hs.FQ.g y hy) (by omega);by_cases hF:x.E9=0
 .refine(xq nA hA gA rA nc hc gc rc x.c x.ls x.rs w _ (AK _) hn hh hg hr (by omega) (by omega) b4 (by omega) b5 (by omega) Im (av hF).1 (av hF).2).LT ?_;rintro e w' ⟨h1,A,k,rfl,h2⟩;have e:x.Jf=Hi x.c (Ec x.ls) x.c.D9.L x.rs:=AP hF;refine⟨h1,A,k,?_,?_⟩
  .rw[hF,e];unfold Hi;rw[BD]
  .rw[e];exact h2.ri λb hb=>hb.2
 .refine(qT nA hA gA rA nc hc gc rc x.c x.ls x.rs w _ (AK _) hn hh hg hr (by omega) (by omega) b4 (by omega) b5 (by omega) Im hF).LT ?_;rintro e w' ⟨rfl,h1⟩;have e:x.Jf=[]:=AN hF;exact⟨h1,Y,0,by rw[e];rfl,by rw[e];exact .nil⟩
def uT (Im:x.rs.L<=rc):ak D7 18 #[En nA hA x.c nc hc,Z gA x.ls.L gc,Z rA x.rs.L rc] w (dc x.Ha x.E9 w):=by
 have b1:=hs.FQ.n;have b2:=hs.FQ.h;have b3:=hs.FQ.l;have b6:=hs.r;have b4:∀h∈x.c.D8,h.off.L<=4611686018427387904:=λy hy=>AU (hs.FQ.o y hy) (by omega);have b5:∀y∈x.ls,y.L<=4611686018427387904:=λy hy=>AU (hs.FQ.g y hy) (by omega);by_cases hF:x.E9=0
 .refine(yT nA hA gA rA nc hc gc rc x.c x.ls x.rs w _ (AK _) hn hh hg hr (by omega) (by omega) b4 (by omega) b5 (by omega) Im (av hF).1 (av hF).2).LT ?_;rintro e w' ⟨h1,A,k,rfl,h2⟩;have e:x.Ha=JG x.c (Ec x.ls) x.c.D9.L x.rs:=AP hF;refine⟨h1,A,k,?_,?_⟩
  .rw[hF,e];unfold JG;rw[BD,CQ]
  .rw[e];exact h2
 .refine(tf nA hA gA rA nc hc gc rc x.c x.ls x.rs w _ (AK _) hn hh hg hr (by omega) (by omega) b4 (by omega) b5 (by omega) Im hF).LT ?_;rintro e w' ⟨rfl,h1⟩;have e:x.Ha=[]:=AN hF;exact⟨h1,Y,0,by rw[e];rfl,by rw[e];exact .nil⟩
omit hs hn hh hg hr in
def K9 (h:x.EY=0):x.E9=0/\0<=x.p/\x.p<=99:=by
 have h:Go.Sq.EY x.c x.ls x.rs x.p=0:=h;unfold Go.Sq.EY at h;split at h
 .exact AS h (by assumption)
 .rename_i h1;split at h
  .cases h
  .rename_i h2;simp[FM] at h2;exact⟨bn h1,by omega⟩
def uU (Im:x.rs.L<=rc):ak D7 22 #[En nA hA x.c nc hc,Z gA x.ls.L gc,Z rA x.rs.L rc,U I x.p] w (kz x.F3 x.EY w):=by
 have b1:=hs.FQ.n;have b2:=hs.FQ.h;have b3:=hs.FQ.l;have b6:=hs.r;have b4:∀h∈x.c.D8,h.off.L<=4611686018427387904:=λy hy=>AU (hs.FQ.o y hy) (by omega);have b5:∀y∈x.ls,y.L<=4611686018427387904:=λy hy=>AU (hs.FQ.g y hy) (by omega);by_cases hF:x.EY=0
 .obtain⟨h0,hp⟩:=K9 hF;refine(ss nA hA gA rA nc hc gc rc x.c x.ls x.rs x.p w _ (AK _) hn hh hg hr (by omega) (by omega) b4 (by omega) b5 (by omega) Im (av h0).1 (av h0).2 hp).LT ?_;rintro e w' ⟨h1,A,k,rfl,h2⟩;have e:x.F3=GX x.c (Ec x.ls) x.p (Er x.c.D9.L x.rs x.rs.L):=AP hF;refine⟨h1,A,k,?_,?_⟩
  .rw[hF,e,show(GX x.c (Ec x.ls) x.p (Er x.c.D9.L x.rs x.rs.L)).L=x.c.D8.L from cQ _ _]
  .rw[e];exact h2
 .refine(lR nA hA gA rA nc hc gc rc x.c x.ls x.rs x.p w _ (AK _) hn hh hg hr (by omega) (by omega) b4 (by omega) b5 (by omega) Im hF).LT ?_;rintro e w' ⟨rfl,h1⟩;have e:x.F3=[]:=AN hF;exact⟨h1,Y,0,by rw[e];rfl,by rw[e];exact λh=>AS rfl h⟩
def nL (Im:x.rs.L<=rc):ak D7 20 #[En nA hA x.c nc hc,Z gA x.ls.L gc,Z rA x.rs.L rc,U I x.p] w (dc x.I6 x.EY w):=by
 have b1:=hs.FQ.n;have b2:=hs.FQ.h;have b3:=hs.FQ.l;have b6:=hs.r;have b4:∀h∈x.c.D8,h.off.L<=4611686018427387904:=λy hy=>AU (hs.FQ.o y hy) (by omega);have b5:∀y∈x.ls,y.L<=4611686018427387904:=λy hy=>AU (hs.FQ.g y hy) (by omega);by_cases hF:x.EY=0
 .obtain⟨h0,hp⟩:=K9 hF;refine(kg nA hA gA rA nc hc gc rc x.c x.ls x.rs x.p w _ (AK _) hn hh hg hr (by omega) (by omega) b4 (by omega) b5 (by omega) Im (av h0).1 (av h0).2 hp).LT ?_;rintro e w' ⟨h1,A,k,rfl,h2⟩;have e:x.I6=Kh (GX x.c (Ec x.ls) x.p (Er x.c.D9.L x.rs x.rs.L)):=AP hF;refine⟨h1,A,k,?_,?_⟩
  .rw[hF,e,show(Kh (GX x.c (Ec x.ls) x.p (Er x.c.D9.L x.rs x.rs.L))).L=x.c.D8.L by unfold Kh;rw[BD,CQ];exact cQ _ _]
  .rw[e];exact h2
 .refine(mo nA hA gA rA nc hc gc rc x.c x.ls x.rs x.p w _ (AK _) hn hh hg hr (by omega) (by omega) b4 (by omega) b5 (by omega) Im hF).LT ?_;rintro e w' ⟨rfl,h1⟩;have e:x.I6=[]:=AN hF;exact⟨h1,Y,0,by rw[e];rfl,by rw[e];exact .nil⟩
def nM:ak D7 16 #[En nA hA x.c nc hc,Z gA x.ls.L gc,Z rA x.rs.L rc] w (dc x.Jf x.E9 w):=by
 have b1:=hs.FQ.n;have b2:=hs.FQ.h;have b3:=hs.FQ.l;have b6:=hs.r;exact qS nA hA gA rA nc hc gc rc x.c x.ls x.rs w _ (AK _) hn hh hg hr (by omega) (by omega) (λy hy=>AU (hs.FQ.o y hy) (by omega)) (by omega) (λy hy=>AU (hs.FQ.g y hy) (by omega)) (by omega)
def oI:ak D7 19 #[En nA hA x.c nc hc,Z gA x.ls.L gc,Z rA x.rs.L rc] w (dc x.Ha x.E9 w):=by
 have b1:=hs.FQ.n;have b2:=hs.FQ.h;have b3:=hs.FQ.l;have b6:=hs.r;exact te nA hA gA rA nc hc gc rc x.c x.ls x.rs w _ (AK _) hn hh hg hr (by omega) (by omega) (λy hy=>AU (hs.FQ.o y hy) (by omega)) (by omega) (λy hy=>AU (hs.FQ.g y hy) (by omega)) (by omega)
def oJ:ak D7 23 #[En nA hA x.c nc hc,Z gA x.ls.L gc,Z rA x.rs.L rc,U I x.p] w (kz x.F3 x.EY w):=by
 have b1:=hs.FQ.n;have b2:=hs.FQ.h;have b3:=hs.FQ.l;have b6:=hs.r;exact lS nA hA gA rA nc hc gc rc x.c x.ls x.rs w _ (AK _) hn hh hg hr (by omega) (by omega) (λy hy=>AU (hs.FQ.o y hy) (by omega)) (by omega) (λy hy=>AU (hs.FQ.g y hy) (by omega)) (by omega) x.p
def kB:ak D7 21 #[En nA hA x.c nc hc,Z gA x.ls.L gc,Z rA x.rs.L rc,U I x.p] w (dc x.I6 x.EY w):=by
 have b1:=hs.FQ.n;have b2:=hs.FQ.h;have b3:=hs.FQ.l;have b6:=hs.r;exact mp nA hA gA rA nc hc gc rc x.c x.ls x.rs w _ (AK _) hn hh hg hr (by omega) (by omega) (λy hy=>AU (hs.FQ.o y hy) (by omega)) (by omega) (λy hy=>AU (hs.FQ.g y hy) (by omega)) (by omega) x.p
end
def xL (x y:Operand)(xs ys:Array O)(w:F):(eqGuard .neq 29 x y (.agg xs) (.agg ys)).run D7 w=.ok () w:=run_eqGuard_agg w .neq 29 x y xs ys (by kernel_rfl)
def xM (a b a' b':Int)(w:F):(Op.equalIn 10000 29 (.agg #[U I a,U I b]) (.agg #[U I a',U I b'])).run D7 w=.ok (a==a'&&b==b') w:=by
 rw[run_equalIn_agg w 9999 29 _ _ (by kernel_rfl) (by kernel_rfl)];simp[go_sem];by_cases h1:a=a'<;>by_cases h2:b=b'<;>simp[h1,h2]
def oL (A A':Option bc)(k k':Nat)(rs:List (Int×Int))(w:F)(B B':Nat)(hB:B<=w.L.size)(a6:B'<=w.L.size)(h1:FA w B A rs)(h2:FA w B' A' rs)(hl:rs.L<=1048576) :
  ak D7 26 #[Z A rs.L k,Z A' rs.L k'] w λe w'=>e=.L (.bool bs)/\Gr w w':=by
 have a7:=AI h1;have a8:=AI h2;go_enter Sq.func26,Tryz.ntmps26;go_wp2;go_loopw [5] (λi wr=>∃j:Nat,j<=rs.L/\i=U I j/\Gr w wr) (λi _=>rs.L-(C i).L)
 case atStart=>exact⟨0,by omega,rfl,.refl _⟩
 case round =>
  obtain⟨j,hj,rfl,zV⟩:=hrel;have HG:=AI zV;by_cases zY:j<rs.L
  .obtain⟨b,o,rfl,hb,c1,c2⟩:=(a7.out.gr hB zV).at_ zY;obtain⟨b',o',rfl,hb',d1,d2⟩:=(a8.out.gr a6 zV).at_ zY;have hz:=zV.size;have aA:b<wr.L.size:=by omega
   have hbw':b'<wr.L.size:=by omega
   generalize rs[j]?.LH (0,0)=x at c1 c2 d1 d2;obtain⟨x1,x2⟩:=x;dsimp only at c1 c2 d1 d2;have hgd:=λw=>xL (.tmp 20) (.tmp 24) #[U I x1,U I x2] #[U I x1,U I x2] w;have heq:∀w,(Op.equalIn 10000 29 (.agg #[U I x1,U I x2]) (.agg #[U I x1,U I x2])).run D7 w=.ok bs w:=λw=>by have:=xM x1 x2 x1 x2 w;simpa using this
   clear zV;go_wp2;go_region
   all_goals
    go_wp2;go_roundw
    case rel=>exact⟨j+1,by omega,by go_num,by first|exact HG.out|exact HG.out.drew⟩
    case measure=>simp[Proofs.intOf];omega
  .go_wp2;go_ret;exact⟨rfl,HG.out⟩
open Go.EB (aY dA oy aT mj fV dQ gn)
def GV (G:List (List Int))(v:O)(w:F):Prop:=∃A k,v=Z A G.L k/\E7 w w.L.size A G
def LQ (G:List (List Int)):Ga Gr (GV G):=λ_ _ _ hg ⟨A,k,e,h⟩=>⟨A,k,e,h.on hg⟩
end Go.Sq
