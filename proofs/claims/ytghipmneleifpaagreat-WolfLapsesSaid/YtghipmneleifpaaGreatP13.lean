/- Parts of the proof. -/
import Derived.Test.YtghipmneleifpaaGreatP12
import Derived.Test.YtghipmneleifpaaGreatP00
import Derived.Test.YtghipmneleifpaaGreatP10
import Derived.Outline
import Derived.RangeFuncNested
import Derived.RangeFuncBound
import Derived.RangeFuncCalls
import Derived.RangeFuncLeaves
import Derived.Shelf.Abstract
import Derived.Shelf.RegionOpen
import Derived.OwnWalkIn
import Derived.TacticsInMore
import Derived.LoopNIn
import Derived.LoopIn
import Derived.RangeFuncOwn
set_option linter.all false
set_option maxHeartbeats 12800000
set_option maxRecDepth 1000000
open Go.World renaming putObj_heap_other->a6,putObj_heap_same->bq,alloc_heap_new->bs,putObj->b6,setCell->cu
open Go.Value renaming pointer->a7,int->bl,slice->cE
open Option renaming some->a8,none->bb
open Go renaming World->bh,bodyPost_ret->b5,Addr->b8,run_endLoop->cf,run_enterLoop_outer->cq,callsIn_of_wp->cw,Code->cF,roundIn_of_wpIn->cU,Calls->df,wpIn_rangeFunc->dn,run_beginRound->dr,Value->dS,wpIn_mono->ea
open Go.Fence renaming wide->bk
open Go.IntKind renaming i64->bo
open Go.Ending renaming returned->bA
open Go.Proofs.Tryz renaming results35->bD,ntmps95->eb
open Go.Proofs renaming intOf->bW
open Go.Obj renaming cells->b7
open Go.Code renaming rangeFunc->b9
open Bool renaming false->cr
open Go.Instr renaming index->cK,endRound->dy
namespace Go.Sq
open Go.Proofs
open Go.RowKit
def oe (p:Nat->Prop):∀j,j<0->p j:=λ_ h=>absurd h (zU _)
def Dc (x:Int×Int×Int):Value:=.agg #[bl bo x.1,bl bo x.2.1,bl bo x.2.2]
def kw (cb br night:Nat)(c:Cc)(r:Nat->Nat)(w:bh){nA hA:Option b8}{nc hc:Nat}(h:DW w w.heap.size cb c nA hA nc hc)(hr:E8 w w.heap.size br r)(Dx:c.Ok)(hi:night<c.B3.length)(hx:∀i,c.has (r i)) :
  df B1 35 #[.pointer (a8 ⟨cb,0,bb⟩),.pointer (a8 ⟨br,0,bb⟩),bl bo night] w λe w'=>e=.returned (Dc (Ci c r night))/\Gr w w':=by
 have HP:=yJ h;have HR:=yJ hr;have HX:=yJ hx;have hbr:=hr.1;have hcb:=h.lt;have Mr:=Dx.n5;clear h hr hx;go_enter Sq.func35,Tryz.ntmps35;go_wp2;obtain⟨W0,hW0⟩:∃W0:bh,W0=(w.alloc (b7 #[bl bo 0,bl bo 0,bl bo 0] 42)).alloc (b7 #[.func (.func 73) #[] #[],.func (.func 74) #[] #[],.func (.func 75) #[] #[]] 134):=⟨_,rfl⟩;have hg0:Gr w W0:=by rw[hW0];exact((Gr.refl w).alloc _).alloc _
 have hz0:W0.heap.size=w.heap.size+2:=by rw[hW0];simp
 have Hd:Hid (∀w2,Gr W0 w2->(w2.cell? ⟨w.heap.size,0,bb⟩=a8 (bl bo 0)/\w2.cell? ⟨w.heap.size,1,bb⟩=a8 (bl bo 0)/\w2.cell? ⟨w.heap.size,2,bb⟩=a8 (bl bo 0))/\w2.frozen? ⟨w.heap.size,0,bb⟩=cr/\w2.frozen? ⟨w.heap.size,1,bb⟩=cr/\w2.frozen? ⟨w.heap.size,2,bb⟩=cr):=yJ λw2 hg=>by
  have e:∀o,w2.cell? ⟨w.heap.size,o,bb⟩=(#[bl bo 0,bl bo 0,bl bo 0]:Array dS)[o]?/\w2.frozen? ⟨w.heap.size,o,bb⟩=false:=λo=>by
   rw[hg.cell (by show w.heap.size<_;omega),hg.frozen (by show w.heap.size<_;omega),hW0,za _ _ _ (by simp),yN _ _ _ _ rfl,Ax _ _ _ (by simp),zD _ _ _ _ rfl];exact⟨rfl,rfl⟩
  exact⟨⟨(e 0).1,(e 1).1,(e 2).1⟩,(e 0).2,(e 1).2,(e 2).2⟩
 rw[<-hW0];clear hW0;have h4:=Dx.h4;go_loopw [14] (λi wr=>∃k:Nat,k<=3/\i=bl bo k/\(∀j,j<k->breaks c r night j=bb)/\Gr W0 wr) (λi _=>3-(bW i).toNat)
 case atStart=>exact⟨0,by omega,rfl,oe _,Gr.refl _⟩
 case round =>
  obtain⟨k,hk,rfl,hb,hgr⟩:=hrel;have Du:=yJ (hg0.trans hgr);have E6:=yJ hgr;clear hgr;obtain rfl|rfl|rfl|rfl:k=0\/k=1\/k=2\/k=3:=by omega
  ·
   have Uu:∀w,(cK 134 (.agg #[.func (.func 73) #[] #[],.func (.func 74) #[] #[],.func (.func 75) #[] #[]]) (bl bo 0)).run B1 w=.ok (.func (.func 73) #[] #[]) w:=λ_=>by kernel_rfl
   have QE:=HX.out night;have Wh:=Bs h4 QE;have hcr:=(HR.out.on Du.out).2 night (by omega);have HL:=yJ (iF (r night) wr Wh);have HB:=yJ hb;have G5:=yJ (HP.out.on Du.out);have NG:=yJ (HR.out.on Du.out);clear hb;go_wp2_with fail;refine HL.out.mono ?_;rintro e w2 ⟨A,cc,rfl,Em,hg2⟩;have KQ:=yJ Em;have Gt:=yJ (Du.out.trans hg2);have QF:=yJ (G5.out.on hg2);have Q3:=yJ (NG.out.on hg2);have Iu:=yJ (E6.out.trans hg2)
   obtain⟨⟨Iw,hr1,hr2⟩,Gx,PK,hf2⟩:=Hd.out w2 Iu.out;have hl:=bF (r night);have hz2:=hg2.size;clear Em hg2;go_wp2;go_loop [25] (λi=>∃k:Nat,k<=(wl (r night)).length/\i=bl bo k/\((wl (r night)).take k).find? (λh=>Fo c r night 0 h.toNat)=bb) (λi=>(wl (r night)).length-(bW i).toNat)
   case atStart=>exact⟨0,by omega,rfl,by simp⟩
   case round =>
    obtain⟨k,hk,rfl,hnone⟩:=hrel;have HN:=yJ hnone;clear hnone;by_cases hlt:k<(wl (r night)).length
    .obtain⟨b,o,rfl,hb,hcell⟩:=KQ.out.at_ hlt;obtain⟨n,hn,G6,LK,ZC⟩:=Kh QE hlt;rw[hn] at hcell;have HE:=yJ hn;clear hn;cases hq:Fo c r night 0 n with
     |true =>
      have HC:Hid (df B1 73 #[.pointer (a8 ⟨cb,0,bb⟩),.pointer (a8 ⟨br,0,bb⟩),bl bo night,bl bo n] w2 λe w'=>e=.returned (.bool true)/\w2=w'):=yJ (by rw[<-hq];exact uo cb br n night c w2 QF.out G6 (Dx.off _ (c.Gw G6)).1 LK);have HF:=yJ (show breaks c r night 0=a8 ((n:Nat):Int) by have:=dg hlt HN.out (by rw[HE.out];exact hq);rw[HE.out] at this;exact this);clear hq;go_wp2_with (go_at_call 73;refine HC.out.mono ?_;rintro e w' ⟨rfl,rfl⟩)
      obtain⟨s0,s1,s2⟩:=JX Iw hr1 hr2;refine b5 (v:=Dc (1,night,n)) (by simp[results,bD,go_sem,Dc,s0,s1,s2]) rfl ⟨?_,?_⟩
      .exact congrArg bA (congrArg Dc (by unfold Ci;skip;rw[HF.out]))
      .exact((Gt.out.setCell (yL _) _).setCell (yL _) _).setCell (yL _) _
     |false =>
      have HC:Hid (df B1 73 #[.pointer (a8 ⟨cb,0,bb⟩),.pointer (a8 ⟨br,0,bb⟩),bl bo night,bl bo n] w2 λe w'=>e=.returned (.bool cr)/\w2=w'):=yJ (by rw[<-hq];exact uo cb br n night c w2 QF.out G6 (Dx.off _ (c.Gw G6)).1 LK);have HF:=yJ (cG hlt HN.out (by rw[HE.out];exact hq));clear hq;go_wp2_with (go_at_call 73;refine HC.out.mono ?_;rintro e w' ⟨rfl,rfl⟩);go_round
      case rel=>exact⟨k+1,by omega,by go_num,HF.out⟩
      case measure=>simp[Proofs.intOf];omega
    .have HF:=yJ (show breaks c r night 0=bb by have:=HN.out;rw[zi (by omega)] at this;exact this);clear HN;go_wp2;go_roundw
     case rel=>exact⟨1,by omega,by go_num,λj hj=>by
      rcases zq (zG hj) with h|rfl
      .exact HB.out j h
      .exact HF.out,Iu.out⟩
     case measure=>simp[Proofs.intOf]
  ·
   have Uu:∀w,(cK 134 (.agg #[.func (.func 73) #[] #[],.func (.func 74) #[] #[],.func (.func 75) #[] #[]]) (bl bo 1)).run B1 w=.ok (.func (.func 74) #[] #[]) w:=λ_=>by kernel_rfl
   have QE:=HX.out night;have Wh:=Bs h4 QE;have hcr:=(HR.out.on Du.out).2 night (by omega);have HL:=yJ (iF (r night) wr Wh);have HB:=yJ hb;have G5:=yJ (HP.out.on Du.out);have NG:=yJ (HR.out.on Du.out);clear hb;go_wp2_with fail;refine HL.out.mono ?_;rintro e w2 ⟨A,cc,rfl,Em,hg2⟩;have KQ:=yJ Em;have Gt:=yJ (Du.out.trans hg2);have QF:=yJ (G5.out.on hg2);have Q3:=yJ (NG.out.on hg2);have Iu:=yJ (E6.out.trans hg2)
   obtain⟨⟨Iw,hr1,hr2⟩,Gx,PK,hf2⟩:=Hd.out w2 Iu.out;have hl:=bF (r night);have hz2:=hg2.size;clear Em hg2;go_wp2;go_loop [25] (λi=>∃k:Nat,k<=(wl (r night)).length/\i=bl bo k/\((wl (r night)).take k).find? (λh=>Fo c r night 1 h.toNat)=bb) (λi=>(wl (r night)).length-(bW i).toNat)
   case atStart=>exact⟨0,by omega,rfl,by simp⟩
   case round =>
    obtain⟨k,hk,rfl,hnone⟩:=hrel;have HN:=yJ hnone;clear hnone;by_cases hlt:k<(wl (r night)).length
    .obtain⟨b,o,rfl,hb,hcell⟩:=KQ.out.at_ hlt;obtain⟨n,hn,G6,LK,ZC⟩:=Kh QE hlt;rw[hn] at hcell;have HE:=yJ hn;clear hn;cases hq:Fo c r night 1 n with
     |true =>
      have HC:Hid (df B1 74 #[.pointer (a8 ⟨cb,0,bb⟩),.pointer (a8 ⟨br,0,bb⟩),bl bo night,bl bo n] w2 λe w'=>e=.returned (.bool true)/\w2=w'):=yJ (by rw[<-hq];exact oa cb br n night r w2 Q3.out LK (by omega) (Bs h4 (HX.out _)));have HF:=yJ (show breaks c r night 1=a8 ((n:Nat):Int) by have:=dg hlt HN.out (by rw[HE.out];exact hq);rw[HE.out] at this;exact this);clear hq;go_wp2_with (go_at_call 74;refine HC.out.mono ?_;rintro e w' ⟨rfl,rfl⟩)
      obtain⟨s0,s1,s2⟩:=JX Iw hr1 hr2;refine b5 (v:=Dc (2,night,n)) (by simp[results,bD,go_sem,Dc,s0,s1,s2]) rfl ⟨?_,?_⟩
      .exact congrArg bA (congrArg Dc (by unfold Ci;skip;rw[HB.out 0 (by omega)];rw[HF.out]))
      .exact((Gt.out.setCell (yL _) _).setCell (yL _) _).setCell (yL _) _
     |false =>
      have HC:Hid (df B1 74 #[.pointer (a8 ⟨cb,0,bb⟩),.pointer (a8 ⟨br,0,bb⟩),bl bo night,bl bo n] w2 λe w'=>e=.returned (.bool cr)/\w2=w'):=yJ (by rw[<-hq];exact oa cb br n night r w2 Q3.out LK (by omega) (Bs h4 (HX.out _)));have HF:=yJ (cG hlt HN.out (by rw[HE.out];exact hq));clear hq;go_wp2_with (go_at_call 74;refine HC.out.mono ?_;rintro e w' ⟨rfl,rfl⟩);go_round
      case rel=>exact⟨k+1,by omega,by go_num,HF.out⟩
      case measure=>simp[Proofs.intOf];omega
    .have HF:=yJ (show breaks c r night 1=bb by have:=HN.out;rw[zi (by omega)] at this;exact this);clear HN;go_wp2;go_roundw
     case rel=>exact⟨2,by omega,by go_num,λj hj=>by
      rcases zq (zG hj) with h|rfl
      .exact HB.out j h
      .exact HF.out,Iu.out⟩
     case measure=>simp[Proofs.intOf]
  ·
   have Uu:∀w,(cK 134 (.agg #[.func (.func 73) #[] #[],.func (.func 74) #[] #[],.func (.func 75) #[] #[]]) (bl bo 2)).run B1 w=.ok (.func (.func 75) #[] #[]) w:=λ_=>by kernel_rfl
   have QE:=HX.out night;have Wh:=Bs h4 QE;have hcr:=(HR.out.on Du.out).2 night (by omega);have HL:=yJ (iF (r night) wr Wh);have HB:=yJ hb;have G5:=yJ (HP.out.on Du.out);have NG:=yJ (HR.out.on Du.out);clear hb;go_wp2_with fail;refine HL.out.mono ?_;rintro e w2 ⟨A,cc,rfl,Em,hg2⟩;have KQ:=yJ Em;have Gt:=yJ (Du.out.trans hg2);have QF:=yJ (G5.out.on hg2);have Q3:=yJ (NG.out.on hg2);have Iu:=yJ (E6.out.trans hg2)
   obtain⟨⟨Iw,hr1,hr2⟩,Gx,PK,hf2⟩:=Hd.out w2 Iu.out;have hl:=bF (r night);have hz2:=hg2.size;clear Em hg2;go_wp2;go_loop [25] (λi=>∃k:Nat,k<=(wl (r night)).length/\i=bl bo k/\((wl (r night)).take k).find? (λh=>Fo c r night 2 h.toNat)=bb) (λi=>(wl (r night)).length-(bW i).toNat)
   case atStart=>exact⟨0,by omega,rfl,by simp⟩
   case round =>
    obtain⟨k,hk,rfl,hnone⟩:=hrel;have HN:=yJ hnone;clear hnone;by_cases hlt:k<(wl (r night)).length
    .obtain⟨b,o,rfl,hb,hcell⟩:=KQ.out.at_ hlt;obtain⟨n,hn,G6,LK,ZC⟩:=Kh QE hlt;rw[hn] at hcell;have HE:=yJ hn;clear hn;cases hq:Fo c r night 2 n with
     |true =>
      have HC:Hid (df B1 75 #[.pointer (a8 ⟨cb,0,bb⟩),.pointer (a8 ⟨br,0,bb⟩),bl bo night,bl bo n] w2 λe w'=>e=.returned (.bool true)/\w2=w'):=yJ (by rw[<-hq];exact od cb br n night c r w2 QF.out Q3.out G6 LK (by omega) λi=>Bs h4 (HX.out i));have HF:=yJ (show breaks c r night 2=a8 ((n:Nat):Int) by have:=dg hlt HN.out (by rw[HE.out];exact hq);rw[HE.out] at this;exact this);clear hq
      go_wp2_with (go_at_call 75;refine HC.out.mono ?_;rintro e w' ⟨rfl,rfl⟩);obtain⟨s0,s1,s2⟩:=JX Iw hr1 hr2;refine b5 (v:=Dc (3,night,n)) (by simp[results,bD,go_sem,Dc,s0,s1,s2]) rfl ⟨?_,?_⟩
      .exact congrArg bA (congrArg Dc (by unfold Ci;skip;rw[HB.out 0 (by omega)];rw[HB.out 1 (by omega)];rw[HF.out]))
      .exact((Gt.out.setCell (yL _) _).setCell (yL _) _).setCell (yL _) _
     |false =>
      have HC:Hid (df B1 75 #[.pointer (a8 ⟨cb,0,bb⟩),.pointer (a8 ⟨br,0,bb⟩),bl bo night,bl bo n] w2 λe w'=>e=.returned (.bool cr)/\w2=w'):=yJ (by rw[<-hq];exact od cb br n night c r w2 QF.out Q3.out G6 LK (by omega) λi=>Bs h4 (HX.out i));have HF:=yJ (cG hlt HN.out (by rw[HE.out];exact hq));clear hq;go_wp2_with (go_at_call 75;refine HC.out.mono ?_;rintro e w' ⟨rfl,rfl⟩);go_round
      case rel=>exact⟨k+1,by omega,by go_num,HF.out⟩
      case measure=>simp[Proofs.intOf];omega
    .have HF:=yJ (show breaks c r night 2=bb by have:=HN.out;rw[zi (by omega)] at this;exact this);clear HN;go_wp2;go_roundw
     case rel=>exact⟨3,by omega,by go_num,λj hj=>by
      rcases zq (zG hj) with h|rfl
      .exact HB.out j h
      .exact HF.out,Iu.out⟩
     case measure=>simp[Proofs.intOf]
  ·
   have QE:=HX.out night;have hcr:=(HR.out.on Du.out).2 night (by omega);have HB:=yJ hb;have G5:=yJ (HP.out.on Du.out);obtain⟨⟨Iw,hr1,hr2⟩,Gx,PK,hf2⟩:=Hd.out wr E6.out;have hc0:=G5.out.c0;obtain⟨nb,no,rfl,Ms,He⟩:=G5.out.B3.at_ hi;have HD:=yJ (qB cb c (r night) wr.drew (G5.out.on (Gr.refl wr).drew) h4 Dx.Dd QE);have QG:=yJ (show Ci c r night=if c.Dd (r night)<c.need night then(4,(night:Int),-1) else(0,-1,-1) by unfold Ci;rw[HB.out 0 (by omega),HB.out 1 (by omega),HB.out 2 (by omega)])
   have Wi:cb<wr.heap.size:=G5.out.lt;have hWlt:w.heap.size<wr.heap.size:=by have:=E6.out.size;omega
   have DO:=yJ ((Du.out.drew));have Gt:=yJ ((E6.out.drew));clear hb Iw hr1 hr2 Gx PK hf2;change wr.cell? ⟨nb,no+night,bb⟩=a8 (bl bo (c.need night)) at He;generalize c.need night=m at He QG;generalize c.Dd (r night)=d at HD QG;by_cases XM:d<m
   .have HL:=yJ (show Ci c r night=(4,(night:Int),-1) by rw[QG.out,if_pos XM]);clear QG;go_wp2;go_region_with (first|(go_at_call 77;refine HD.out.mono ?_;rintro e w3 ⟨rfl,hg3⟩;have q0:=(hg3.cell (p:=⟨cb,0,bb⟩) Wi).trans hc0;have q1:=(hg3.cell (p:=⟨nb,no+night,bb⟩) Ms).trans He;have Gu:=yJ (DO.out.trans hg3);obtain⟨⟨Iw,hr1,hr2⟩,Gx,PK,hf2⟩:=Hd.out w3 (Gt.out.trans hg3);clear hg3))
    all_goals
     go_wp2;obtain⟨s0,s1,s2⟩:=JX Iw hr1 hr2;refine b5 (v:=Dc (4,night,-1)) (by simp[results,bD,go_sem,Dc,s0,s1,s2]) rfl ⟨?_,?_⟩
     .exact congrArg bA (congrArg Dc HL.out.symm)
     .exact((Gu.out.setCell (yL _) _).setCell (yL _) _).setCell (yL _) _
   .have HL:=yJ (show Ci c r night=(0,-1,-1) by rw[QG.out,if_neg XM]);go_wp2;go_region_with (first|(go_at_call 77;refine HD.out.mono ?_;rintro e w3 ⟨rfl,hg3⟩;have q0:=(hg3.cell (p:=⟨cb,0,bb⟩) Wi).trans hc0;have q1:=(hg3.cell (p:=⟨nb,no+night,bb⟩) Ms).trans He;have Gu:=yJ (DO.out.trans hg3);obtain⟨⟨Iw,hr1,hr2⟩,Gx,PK,hf2⟩:=Hd.out w3 (Gt.out.trans hg3);clear hg3))
    all_goals
     go_wp2;obtain⟨s0,s1,s2⟩:=JX Iw hr1 hr2;refine b5 (v:=Dc (0,-1,-1)) (by simp[results,bD,go_sem,Dc,s0,s1,s2]) rfl ⟨?_,?_⟩
     .exact congrArg bA (congrArg Dc HL.out.symm)
     .exact((Gu.out.setCell (yL _) _).setCell (yL _) _).setCell (yL _) _
structure KT (T:Nat->Prop)(w w':bh):Prop where
 os:w'.os=w.os
 tape:w'.tape=w.tape
 output:w'.output=w.output
 drawn:w.drawn<=w'.drawn
 size:w.heap.size<=w'.heap.size
 block:∀b,b<w.heap.size->¬T b->w'.heap[b]?=w.heap[b]?
def KT.refl (T:Nat->Prop)(w:bh):KT T w w:=⟨rfl,rfl,rfl,yL _,yL _,λ_ _ _=>rfl⟩
def KT.trans {T:Nat->Prop}{a b c:bh}(h:KT T a b)(k:KT T b c):KT T a c :=
 ⟨k.os.trans h.os,k.tape.trans h.tape,k.output.trans h.output,yR h.drawn k.drawn,yR h.size k.size,λx hx hT=>(k.block x (yO hx h.size) hT).trans (h.block x hx hT)⟩
def KT.Dh {T:Nat->Prop}{w w':bh}(h:Gr w w'):KT T w w':=⟨h.below.os,h.below.tape,h.below.output,h.drawn,h.size,λb hb _=>h.below.block b hb⟩
def KT.mono {T T':Nat->Prop}{w w':bh}(h:KT T w w')(hT:∀b,T b->T' b):KT T' w w':=⟨h.os,h.tape,h.output,h.drawn,h.size,λb hb hn=>h.block b hb λt=>hn (hT b t)⟩
def KT.setCell {T:Nat->Prop}(w:bh){p:b8}(hp:T p.block)(v:dS):KT T w (w.setCell p v) :=
 ⟨rfl,rfl,rfl,yL _,by simp[cu],λb _ hT=>yU w p v b λe=>hT (e▸hp)⟩
def KT.putObj {T:Nat->Prop}(w:bh){l:Nat}(hl:T l)(o:Obj):KT T w (w.putObj l o) :=
 ⟨rfl,rfl,rfl,yL _,by simp[b6],λb _ hT=>a6 λe=>hT (e▸hl)⟩
def KT.cell {T:Nat->Prop}{w w':bh}(h:KT T w w'){p:b8}(hp:p.block<w.heap.size)(hT:¬T p.block):w'.cell? p=w.cell? p:=zd (h.block _ hp hT)
def KT.frozen {T:Nat->Prop}{w w':bh}(h:KT T w w'){p:b8}(hp:p.block<w.heap.size)(hT:¬T p.block):w'.frozen? p=w.frozen? p:=An (h.block _ hp hT)
def Hb (w:bh)(K:Nat->Prop)(A:Option b8)(l:List Int):Prop :=
 l≠[]->∃b o,A=a8 ⟨b,o,bb⟩/\K b/\∀i x,l[i]?=a8 x->w.cell? ⟨b,o+i,bb⟩=a8 (bl bo x)
def NV (w:bh)(K:Nat->Prop)(b o:Nat)(h:CF):Prop :=
 w.cell? ⟨b,o,bb⟩=a8 (bl bo h.heads)/\w.cell? ⟨b,o+1,bb⟩=a8 (bl bo h.Dd)/\w.cell? ⟨b,o+2,bb⟩=a8 (bl bo h.most) /\
  ∃A c,w.cell? ⟨b,o+3,bb⟩=a8 (cE A h.off.length c)/\Hb w K A h.off
def EZ (w:bh)(K:Nat->Prop)(A:Option b8)(l:List CF):Prop :=
 l≠[]->∃b o,A=a8 ⟨b,o,bb⟩/\K b/\∀i h,l[i]?=a8 h->NV w K b (o+i*4) h
structure Eo (w:bh)(K:Nat->Prop)(cb:Nat)(c:Cc)(sets:List Nat)(nA hA:Option b8)(nc hc sb sc:Nat):Prop where
 lt:∀b,K b->b<w.heap.size
 kc:K cb
 c0:w.cell? ⟨cb,0,bb⟩=a8 (cE nA c.B3.length nc)
 c1:w.cell? ⟨cb,1,bb⟩=a8 (cE hA c.B2.length hc)
 c2:w.cell? ⟨cb,2,bb⟩=a8 (.slice (a8 ⟨sb,0,bb⟩) sets.length sc)
 ks:K sb
 sets:∀(i x:Nat),sets[i]?=a8 x->w.cell? ⟨sb,i,bb⟩=a8 (.int .u8 (x:Int))
 B3:Hb w K nA c.B3
 DI:EZ w K hA c.B2
section
variable {w w':bh} {K:Nat->Prop} {B:Nat} {A:Option b8}
def Hb.ri {l:List Int}(h:Hb w K A l)(hK:∀b,K b->b<B):RI w B A l:=λhn=>by
 obtain⟨b,o,e,hb,hc⟩:=h hn;exact⟨b,o,e,hK b hb,hc⟩
def NV.hat {b o:Nat}{h:CF}(ha:NV w K b o h)(hK:∀b,K b->b<B):NU w B b o h:=by
 obtain⟨h1,h2,h3,A,c,h4,h5⟩:=ha;exact⟨h1,h2,h3,A,c,h4,h5.ri hK⟩
def EZ.hs {l:List CF}(h:EZ w K A l)(hK:∀b,K b->b<B):Db w B A l:=λhn=>by
 obtain⟨b,o,e,hb,hc⟩:=h hn;exact⟨b,o,e,hK b hb,λi h hi=>(hc i h hi).hat hK⟩
def Hb.keep {l:List Int}(h:Hb w K A l)(hk:∀b o,K b->w'.cell? ⟨b,o,bb⟩=w.cell? ⟨b,o,bb⟩):Hb w' K A l:=λhn=>by
 obtain⟨b,o,e,hb,hc⟩:=h hn;exact⟨b,o,e,hb,λi x hx=>(hk _ _ hb).trans (hc i x hx)⟩
def NV.keep {b o:Nat}{h:CF}(ha:NV w K b o h)(hb:K b)(hk:∀b o,K b->w'.cell? ⟨b,o,bb⟩=w.cell? ⟨b,o,bb⟩):NV w' K b o h:=by
 obtain⟨h1,h2,h3,A,c,h4,h5⟩:=ha;exact⟨(hk _ _ hb).trans h1,(hk _ _ hb).trans h2,(hk _ _ hb).trans h3,A,c,(hk _ _ hb).trans h4,h5.keep hk⟩
def EZ.keep {l:List CF}(h:EZ w K A l)(hk:∀b o,K b->w'.cell? ⟨b,o,bb⟩=w.cell? ⟨b,o,bb⟩):EZ w' K A l:=λhn=>by
 obtain⟨b,o,e,hb,hc⟩:=h hn;exact⟨b,o,e,hb,λi h hi=>(hc i h hi).keep hb hk⟩
variable {cb:Nat} {c:Cc} {sets:List Nat} {nA hA:Option b8} {nc hc sb sc:Nat}
def Eo.O4 (h:Eo w K cb c sets nA hA nc hc sb sc):DW w w.heap.size cb c nA hA nc hc:=⟨h.lt _ h.kc,h.c0,h.c1,h.B3.ri h.lt,h.DI.hs h.lt⟩
def Eo.keep (h:Eo w K cb c sets nA hA nc hc sb sc)(hz:w.heap.size<=w'.heap.size)(hk:∀b o,K b->w'.cell? ⟨b,o,bb⟩=w.cell? ⟨b,o,bb⟩):Eo w' K cb c sets nA hA nc hc sb sc :=
 ⟨λb hb=>yO (h.lt b hb) hz,h.kc,(hk _ _ h.kc).trans h.c0,(hk _ _ h.kc).trans h.c1,(hk _ _ h.kc).trans h.c2,h.ks,λi x hx=>(hk _ _ h.ks).trans (h.sets i x hx),h.B3.keep hk,h.DI.keep hk⟩
end
abbrev CR:=Nat->Nat
def upd (r:CR)(n x:Nat):CR:=λi=>if i=n then x else r i
def Dr (r:CR):Value:=.agg #[.int .u8 (r 0),.int .u8 (r 1),.int .u8 (r 2),.int .u8 (r 3),.int .u8 (r 4)]
def Cv (c:Cc)(sets:List Nat):Nat->CR->Nat->List CR
 |0,r,_=>[r]
 |k+1,r,n=>sets.flatMap λx=>if(Ci c (upd r n x) n).1=0 then Cv c sets k (upd r n x) (n+1) else[]
structure NH (T K:Nat->Prop)(cb:Nat)(c:Cc)(sets:List Nat)(nA hA:Option b8)(nc hc sb sc bc by_ br bw l:Nat)(r:CR)(w:bh):Prop where
 Ek:Eo w K cb c sets nA hA nc hc sb sc
 kt:∀b,K b->¬T b
 xc:w.cell? ⟨bc,0,bb⟩=a8 (.pointer (a8 ⟨cb,0,bb⟩))/\¬T bc/\bc<w.heap.size
 xy:w.cell? ⟨by_,0,bb⟩=a8 (.func (.yield l) #[] #[])/\¬T by_/\by_<w.heap.size
 xw:w.cell? ⟨bw,0,bb⟩=a8 (.func (.func 95) #[] #[.pointer (a8 ⟨bc,0,bb⟩),.pointer (a8 ⟨by_,0,bb⟩),.pointer (a8 ⟨br,0,bb⟩),.pointer (a8 ⟨bw,0,bb⟩)])/\¬T bw/\bw<w.heap.size
 xr:(∀i,i<5->w.cell? ⟨br,i,bb⟩=a8 (.int .u8 (r i))/\w.frozen? ⟨br,i,bb⟩=cr)/\¬T br/\br<w.heap.size
 ne:bc≠br/\by_≠br/\bw≠br/\∀b,K b->b≠br
 rs:∀i,c.has (r i)
section
variable {T K:Nat->Prop} {cb:Nat} {c:Cc} {sets:List Nat} {nA hA:Option b8} {nc hc sb sc bc by_ br bw l:Nat} {r:CR} {w w':bh}
def NH.on (h:NH T K cb c sets nA hA nc hc sb sc bc by_ br bw l r w)(k:KT T w w'):NH T K cb c sets nA hA nc hc sb sc bc by_ br bw l r w':=by
 refine⟨h.Ek.keep k.size λb o hb=>k.cell (p:=⟨b,o,bb⟩) (h.Ek.lt b hb) (h.kt b hb),h.kt,⟨(k.cell h.xc.2.2 h.xc.2.1).trans h.xc.1,h.xc.2.1,yO h.xc.2.2 k.size⟩,⟨(k.cell h.xy.2.2 h.xy.2.1).trans h.xy.1,h.xy.2.1,yO h.xy.2.2 k.size⟩,
  ⟨(k.cell h.xw.2.2 h.xw.2.1).trans h.xw.1,h.xw.2.1,yO h.xw.2.2 k.size⟩,⟨λi hi=>?_,h.xr.2.1,yO h.xr.2.2 k.size⟩,h.ne,h.rs⟩
 obtain⟨h1,h2⟩:=h.xr.1 i hi;exact⟨(k.cell (p:=⟨br,i,bb⟩) h.xr.2.2 h.xr.2.1).trans h1,(k.frozen (p:=⟨br,i,bb⟩) h.xr.2.2 h.xr.2.1).trans h2⟩
def NH.set (h:NH T K cb c sets nA hA nc hc sb sc bc by_ br bw l r w){n x:Nat}(hn:n<5)(hx:c.has x):NH T K cb c sets nA hA nc hc sb sc bc by_ br bw l (upd r n x) (w.setCell ⟨br,n,bb⟩ (.int .u8 x)):=by
 have other:∀b o,b≠br->(w.setCell ⟨br,n,bb⟩ (.int .u8 x)).cell? ⟨b,o,bb⟩=w.cell? ⟨b,o,bb⟩:=λb o hb=>yP _ _ _ _ (by intro e;simp only[Addr.mk.injEq] at e;exact hb e.1.symm);have sz:(w.setCell ⟨br,n,bb⟩ (.int .u8 x)).heap.size=w.heap.size:=by simp[cu]
 refine⟨h.Ek.keep (by rw[sz];exact yL _) λb o hb=>other b o (h.ne.2.2.2 b hb),h.kt,⟨(other _ _ h.ne.1).trans h.xc.1,h.xc.2.1,by rw[sz];exact h.xc.2.2⟩,⟨(other _ _ h.ne.2.1).trans h.xy.1,h.xy.2.1,by rw[sz];exact h.xy.2.2⟩,
  ⟨(other _ _ h.ne.2.2.1).trans h.xw.1,h.xw.2.1,by rw[sz];exact h.xw.2.2⟩,⟨λi hi=>?_,h.xr.2.1,by rw[sz];exact h.xr.2.2⟩,h.ne,λi=>?_⟩
 .obtain⟨h1,h2⟩:=h.xr.1 i hi;refine⟨?_,(zQ _ _ _ _).trans h2⟩;unfold upd;by_cases e:i=n
  .subst e;rw[if_pos rfl];exact yW _ _ _ h1
  .rw[if_neg e,yP _ _ _ _ (by intro e';simp only[Addr.mk.injEq] at e';omega)];exact h1
 .unfold upd;split
  .exact hx
  .exact h.rs i
def NH.ros (h:NH T K cb c sets nA hA nc hc sb sc bc by_ br bw l r w):E8 w w.heap.size br r:=⟨h.xr.2.2,λi hi=>(h.xr.1 i hi).1⟩
end
open Go.Shelf
attribute [local go_sem] Oper.semAt_some
def XN (T:Nat->Prop)(J Jx:List CR->bh->Prop)(pre:List CR)(ρ:CR)(W:bh)(e:Ending)(W':bh):Prop :=
 (e=.returned (.bool true)/\J (pre++[ρ]) W'/\KT T W W')\/(e=.returned (.bool cr)/\Jx (pre++[ρ]) W'/\KT T W W')
def qD (T':Nat->Prop)(St:bh->Prop)(J Jx:List CR->bh->Prop)(pre L:List CR)(W:bh)(e:Ending)(W':bh):Prop :=
 (e=.returned (.bool true)/\J (pre++L) W'/\St W'/\KT T' W W')\/(e=.returned (.bool cr)/\(∃q,q <+: L/\Jx (pre++q) W')/\KT T' W W')
section
variable {T K:Nat->Prop} {cb:Nat} {c:Cc} {sets:List Nat} {nA hA:Option b8} {nc hc sb sc bc by_ br bw l:Nat} {J Jx:List CR->bh->Prop} {W0:bh} {Lt:List CR}
def qE (Dx:c.Ok){r:CR}{pre:List CR}{W:bh}(hs:NH T K cb c sets nA hA nc hc sb sc bc by_ br bw l r W)(hk:KT (λb=>T b\/b=br) W0 W)(hj:J pre W)(hpl:pre++[r] <+: Lt)
  (hY:∀pre ρ W,pre++[ρ] <+: Lt->KT (λb=>T b\/b=br) W0 W->J pre W->YieldAt bk 0 B1 l #[Dr ρ] W (XN T J Jx pre ρ W)) :
  CallsIn bk 0 B1 95 #[bl bo c.B3.length,.pointer (a8 ⟨bc,0,bb⟩),.pointer (a8 ⟨by_,0,bb⟩),.pointer (a8 ⟨br,0,bb⟩),.pointer (a8 ⟨bw,0,bb⟩)] W
   (qD (λb=>T b\/b=br) (NH T K cb c sets nA hA nc hc sb sc bc by_ br bw l r) J Jx pre [r] W):=by
 have HS:=yJ hs;have Mr:=Dx.n5;obtain⟨fn,tmps,assign,body,hy,hR⟩:=hY pre r W hpl hk hj;have HR:=yJ hR;have hxc:=hs.xc.1;have KR:=hs.xy.1;have hc0:=hs.Ek.c0;have Iw:=(hs.xr.1 0 (by omega)).1;have hr1:=(hs.xr.1 1 (by omega)).1;have hr2:=(hs.xr.1 2 (by omega)).1;have hr3:=(hs.xr.1 3 (by omega)).1;have hr4:=(hs.xr.1 4 (by omega)).1;unfold Dr at hy;clear hs hk hj hY hR hpl;refine cw Sq.func95 rfl trivial ?_ rfl
 simp only[eb,yX,yV,zb,Nat.reduceAdd,Nat.reduceSub,zM,zN,zX,zR,Ab,zV]
 gi_wp2
 refine⟨rfl,HR.out.mono ?_⟩;rintro e W' (⟨rfl,hj,hk⟩|⟨rfl,hj,hk⟩)
 .have HJ:=yJ hj;have HK:=yJ hk
  gi_wp2
  go_ret;exact .inl ⟨rfl,HJ.out,HS.out.on HK.out,HK.out.mono λb hb=>.inl hb⟩
 .have HJ:=yJ hj;have HK:=yJ hk
  gi_wp2
  go_ret;exact .inr ⟨rfl,⟨[r],List.prefix_refl _,HJ.out⟩,HK.out.mono λb hb=>.inl hb⟩
def uz (k1 k2 k3:Int)(w:bh):Sem.run B1 (Instr.field 42 (.agg #[bl bo k1,bl bo k2,bl bo k3]) 0) w=.ok (bl bo k1) w:=by kernel_rfl
def gives (c:Cc)(sets:List Nat)(k:Nat)(r:CR)(n x:Nat):List CR:=if(Ci c (upd r n x) n).1=0 then Cv c sets k (upd r n x) (n+1) else[]
def jC (c:Cc)(sets:List Nat)(k:Nat)(r:CR)(n j:Nat)(hj:j<sets.length):(sets.take (j+1)).flatMap (gives c sets k r n)=(sets.take j).flatMap (gives c sets k r n)++gives c sets k r n (sets[j]?.getD 0):=by
 rw[bt 0 sets j hj,AW];simp
def qF (c:Cc)(sets:List Nat)(k:Nat)(r:CR)(n j:Nat)(hj:j<sets.length){q:List CR}(h:q <+: gives c sets k r n (sets[j]?.getD 0)):(sets.take j).flatMap (gives c sets k r n)++q <+: sets.flatMap (gives c sets k r n):=by
 have e:sets.flatMap (gives c sets k r n)=(sets.take (j+1)).flatMap (gives c sets k r n)++(sets.drop (j+1)).flatMap (gives c sets k r n):=by
  rw[<-AW,List.take_append_drop]
 rw[e,jC _ _ _ _ _ _ hj];obtain⟨s,hs⟩:=h;exact⟨s++(sets.drop (j+1)).flatMap (gives c sets k r n),by rw[<-hs];simp[AI]⟩
def og (r:CR)(n x y:Nat):upd (upd r n x) n y=upd r n y:=by
 funext i;unfold upd;split<;>rfl
def lY (r:CR)(n:Nat):upd r n (r n)=r:=by
 funext i;unfold upd;split
 .rename_i h;rw[h]
 .rfl
def wG (Dx:c.Ok)(Gy:∀x∈sets,c.has x)(QH:sets.length<=16)(hJT:∀pre w w',J pre w->(∀b,T b->w'.heap[b]?=w.heap[b]?)->J pre w')
  (Q4:∀pre w,J pre w->∀b,T b->b<w.heap.size) (aaL:¬T br)
  (hY:∀pre ρ W,pre++[ρ] <+: Lt->KT (λb=>T b\/b=br) W0 W->J pre W->YieldAt bk 0 B1 l #[Dr ρ] W (XN T J Jx pre ρ W)) :
  ∀(k n:Nat) (r:CR) (pre:List CR) (W:bh),n+k=c.B3.length->NH T K cb c sets nA hA nc hc sb sc bc by_ br bw l r W->KT (λb=>T b\/b=br) W0 W->J pre W->(∀i,n<=i->r i=0)->pre++Cv c sets k r n <+: Lt ->
  CallsIn bk 0 B1 95 #[bl bo n,.pointer (a8 ⟨bc,0,bb⟩),.pointer (a8 ⟨by_,0,bb⟩),.pointer (a8 ⟨br,0,bb⟩),.pointer (a8 ⟨bw,0,bb⟩)] W
   (qD (λb=>T b\/b=br) (NH T K cb c sets nA hA nc hc sb sc bc by_ br bw l r) J Jx pre (Cv c sets k r n) W):=by
 intro k
 induction k with
 |zero =>
  intro n r pre W hn hs hk hj hz hpl;obtain rfl:n=c.B3.length:=by omega
  exact qE Dx hs hk hj hpl hY
 |succ k ih =>
  intro n r pre W hn hs hk hj hz hpl;have HPL:=yJ hpl;have HS:=yJ hs;have HK:=yJ hk;have HJ:=yJ hj;have HZ:=yJ hz;have ZE:=yJ ih;have HY:=yJ hY;have HJT:=yJ hJT;have HTL:=yJ Q4;have HST:=yJ Gy;have Mr:=Dx.n5;have hnl:n<c.B3.length:=by omega
  have hxc:=hs.xc.1;have hc0:=hs.Ek.c0;have hc2:=hs.Ek.c2;have hneq:((n:Int)==(c.B3.length:Int))=false:=by simpa using(by omega:¬(n:Int)=(c.B3.length:Int))
  have HW:Hid (Cv c sets (k+1) r n=sets.flatMap (gives c sets k r n)):=yJ rfl;clear hs hk hj hz ih hY hJT Q4 Gy hpl;refine cw Sq.func95 rfl trivial ?_ rfl;simp only[eb,yX,yV,zb,Nat.reduceAdd,Nat.reduceSub,zM,zN,zX,zR,Ab,zV]
  gi_wp2
  gi_loopw [25] (λi wr=>∃(j x:Nat),j<=sets.length/\i=bl bo j/\c.has x/\NH T K cb c sets nA hA nc hc sb sc bc by_ br bw l (upd r n x) wr/\J (pre++(sets.take j).flatMap (gives c sets k r n)) wr/\KT (λb=>T b\/b=br) W wr) (λi _=>sets.length-(bW i).toNat)
  case atStart =>
   exact⟨0,r n,by omega,rfl,HS.out.rs n,by rw[lY];exact HS.out,by simpa using HJ.out,KT.refl _ _⟩
  case round =>
   obtain⟨j,x,hj,rfl,hx,hs,Wj,hk⟩:=hrel;have LL:=yJ hs;have HJ1:=yJ Wj;have HK1:=yJ hk;have hxx:=yJ hx;clear hs Wj hk hx;by_cases hlt:j<sets.length
   .obtain⟨y,hy⟩:∃y,sets[j]?=a8 y:=⟨sets[j],yM hlt⟩;have hyc:c.has y:=HST.out y (zS hy);have hcell:=LL.out.Ek.sets j y hy;obtain⟨QE,hfn⟩:=LL.out.xr.1 n (by omega);have hxc1:=LL.out.xc.1;have K9:Hid (NH T K cb c sets nA hA nc hc sb sc bc by_ br bw l (upd r n y) (wr.setCell ⟨br,n,bb⟩ (.int .u8 y))):=yJ (by have:=LL.out.set (n:=n) (x:=y) (by omega) hyc;rwa [og] at this);have hxc2:=K9.out.xc.1
    have HGV:=yJ (jC c sets k r n j hlt);have HGP:=yJ (λq=>qF c sets k r n j hlt (q:=q));have hyD:sets[j]?.getD 0=y:=by rw[hy];rfl
    have HD:=yJ hyD;have ZF:Hid (KT (λb=>T b\/b=br) W (wr.setCell ⟨br,n,bb⟩ (.int .u8 y))):=yJ (HK1.out.trans (KT.setCell wr (p:=⟨br,n,bb⟩) (.inr rfl) _));have ZG:Hid (J (pre++(sets.take j).flatMap (gives c sets k r n)) (wr.setCell ⟨br,n,bb⟩ (.int .u8 y))):=yJ (HJT.out _ _ _ HJ1.out λb hb=>yU _ _ _ _ λe=>aaL (by have e':b=br:=e;rw[<-e'];exact hb));have UM:=kw cb br n c (upd r n y) (wr.setCell ⟨br,n,bb⟩ (.int .u8 y)) K9.out.Ek.O4 K9.out.ros Dx hnl K9.out.rs
    unfold Dc at UM;have JY:Hid (gives c sets k r n y=if(Ci c (upd r n y) n).1=0 then Cv c sets k (upd r n y) (n+1) else[]):=yJ rfl;generalize Ci c (upd r n y) n=lp at UM JY;obtain⟨k1,k2,k3⟩:=lp;have HL:=yJ (callsIn_wide (n:=0).2 UM);have hfd:=uz k1 k2 k3;clear UM hy hyD;by_cases h0:k1=0
    .have Du:=yJ (show gives c sets k r n y=Cv c sets k (upd r n y) (n+1) by rw[JY.out,if_pos h0]);subst h0
     gi_wp2_with fail
     refine⟨trivial,rfl,HL.out.mono ?_⟩;rintro e w2 ⟨rfl,hg2⟩;have XO:=yJ (KT.Dh (T:=λb=>T b\/b=br) hg2);have Wk:=yJ (K9.out.on (KT.Dh (T:=T) hg2));have HJ3:=yJ (HJT.out _ _ w2 ZG.out λb hb=>hg2.below.block b (HTL.out _ _ ZG.out b hb));have Wn:=Wk.out.xw.1
     have HC:=yJ (ZE.out (n+1) (upd r n y) _ w2 (by omega) Wk.out (HK.out.trans (ZF.out.trans XO.out)) HJ3.out (λi hi=>by unfold upd;rw[if_neg (by omega)];exact HZ.out i (by omega)) (by
      have h1:=HGP.out (Cv c sets k (upd r n y) (n+1)) (by rw[HD.out,Du.out];exact List.prefix_refl _);rw[<-HW.out] at h1;rw[AI]
      exact((List.prefix_append_right_inj pre).2 h1).trans HPL.out))
     have G6:IntKind.i64.wrap ((n:Int)+1)=(n:Int)+1:=by simp[IntKind.wrap,IntKind.min,IntKind.max,IntKind.signed,IntKind.bits];omega
     clear hg2
     gi_wp2_with fail
     refine⟨trivial,rfl,HC.out.mono ?_⟩;rintro e w3 (⟨rfl,ZH,hs3,hk3⟩|⟨rfl,hq3,hk3⟩)
     .have HJ4:=yJ ZH;have HS4:=yJ hs3;have XP:=yJ (ZF.out.trans (XO.out.trans hk3))
      gi_wp2
      go_roundw
      case rel =>
       exact⟨j+1,y,by omega,by go_num,hyc,HS4.out,by rw[HGV.out,HD.out,Du.out,<-AI];exact HJ4.out,XP.out⟩
      case measure=>simp[Proofs.intOf];omega
     .have HQ:=yJ hq3;have XP:=yJ (ZF.out.trans (XO.out.trans hk3))
      gi_wp2
      go_ret;refine .inr ⟨rfl,?_,XP.out⟩;obtain⟨q,q1,q2⟩:=HQ.out;refine⟨(sets.take j).flatMap (gives c sets k r n)++q,?_,by rw[<-AI];exact q2⟩;rw[HW.out];exact HGP.out q (by rw[HD.out,Du.out];exact q1)
    .have Du:=yJ (show gives c sets k r n y=[] by rw[JY.out,if_neg h0])
     gi_wp2_with fail
     refine⟨trivial,rfl,HL.out.mono ?_⟩;rintro e w2 ⟨rfl,hg2⟩;have XO:=yJ (KT.Dh (T:=λb=>T b\/b=br) hg2);have Wk:=yJ (K9.out.on (KT.Dh (T:=T) hg2));have HJ3:=yJ (HJT.out _ _ w2 ZG.out λb hb=>hg2.below.block b (HTL.out _ _ ZG.out b hb))
     gi_wp2
     refine⟨λ_ h=>(by cases h),?_⟩
     gi_wp2
     go_roundw
     case rel=>exact⟨j+1,y,by omega,by go_num,hyc,Wk.out,by rw[HGV.out,HD.out,Du.out,Ay];exact HJ3.out,ZF.out.trans XO.out⟩
     case measure=>simp[Proofs.intOf];omega
   .obtain⟨QE,hfn⟩:=LL.out.xr.1 n (by omega);have h0:c.has 0:=Nat.two_pow_pos _
    have K9:Hid (NH T K cb c sets nA hA nc hc sb sc bc by_ br bw l r (wr.setCell ⟨br,n,bb⟩ (.int .u8 0))):=yJ (by
     have:=LL.out.set (n:=n) (x:=0) (by omega) h0;rw[og] at this;have e:upd r n 0=r:=by have:=lY r n;rwa [HZ.out n (yL _)] at this
     rwa [e] at this)
    have ZF:Hid (KT (λb=>T b\/b=br) W (wr.setCell ⟨br,n,bb⟩ (.int .u8 0))):=yJ (HK1.out.trans (KT.setCell wr (p:=⟨br,n,bb⟩) (.inr rfl) _));have ZG:Hid (J (pre++Cv c sets (k+1) r n) (wr.setCell ⟨br,n,bb⟩ (.int .u8 0))):=yJ (HJT.out _ _ _ (by have:=HJ1.out;rwa [zi (by omega),<-HW.out] at this) λb hb=>yU _ _ _ _ λe=>aaL (by have e':b=br:=e;rw[<-e'];exact hb))
    gi_wp2
    go_ret;exact .inl ⟨rfl,ZG.out,K9.out,ZF.out⟩
end
attribute [local go_sem] Oper.semAt_some
def lZ (cb n:Nat)(r:CR)(w:bh):df B1 62 #[.pointer (a8 ⟨cb,0,bb⟩),Dr r,bl bo n] w λe w' =>
  e=.returned (.func (.func 94) #[] #[.pointer (a8 ⟨w.heap.size,0,bb⟩),.pointer (a8 ⟨w.heap.size+1,0,bb⟩),.pointer (a8 ⟨w.heap.size+2,0,bb⟩)]) /\
   w'=((w.alloc (b7 #[.pointer (a8 ⟨cb,0,bb⟩)] 73)).alloc (b7 #[.int .u8 (r 0),.int .u8 (r 1),.int .u8 (r 2),.int .u8 (r 3),.int .u8 (r 4)] 76)).alloc (b7 #[bl bo n] 3):=by
 unfold Dr;go_enter Sq.func62,Tryz.ntmps62;go_wp2;go_ret;exact⟨rfl,rfl⟩
section
variable {T K:Nat->Prop} {cb:Nat} {c:Cc} {sets:List Nat} {nA hA:Option b8} {nc hc sb sc bc br bn l:Nat} {J Jx:List CR->bh->Prop} {W0:bh}
structure NW (T K:Nat->Prop)(cb:Nat)(c:Cc)(sets:List Nat)(nA hA:Option b8)(nc hc sb sc bc br bn:Nat)(r:CR)(n:Nat)(w:bh):Prop where
 Ek:Eo w K cb c sets nA hA nc hc sb sc
 kt:∀b,K b->¬T b
 xc:w.cell? ⟨bc,0,bb⟩=a8 (.pointer (a8 ⟨cb,0,bb⟩))/\¬T bc/\bc<w.heap.size
 xr:(∀i,i<5->w.cell? ⟨br,i,bb⟩=a8 (.int .u8 (r i))/\w.frozen? ⟨br,i,bb⟩=cr)/\¬T br/\br<w.heap.size
 xn:w.cell? ⟨bn,0,bb⟩=a8 (bl bo n)/\bn<w.heap.size
 ne:bc≠br/\∀b,K b->b≠br
 rs:∀i,c.has (r i)
def uq (Dx:c.Ok)(Gy:∀x∈sets,c.has x)(QH:sets.length<=16)(hJT:∀pre w w',J pre w->(∀b,T b->w'.heap[b]?=w.heap[b]?)->J pre w')
  (Q4:∀pre w,J pre w->∀b,T b->b<w.heap.size)
  {k n:Nat} {r:CR} {W:bh} (hY:∀pre ρ W,pre++[ρ] <+: Cv c sets k r n->KT (λb=>T b\/b=br) W0 W->J pre W->YieldAt bk 0 B1 l #[Dr ρ] W (XN T J Jx pre ρ W))
  (hn:n+k=c.B3.length) (hs:NW T K cb c sets nA hA nc hc sb sc bc br bn r n W) (hk:KT (λb=>T b\/b=br) W0 W) (hj:J [] W) (hz:∀i,n<=i->r i=0) :
  CallsIn bk 0 B1 94 #[.func (.yield l) #[] #[],.pointer (a8 ⟨bc,0,bb⟩),.pointer (a8 ⟨br,0,bb⟩),.pointer (a8 ⟨bn,0,bb⟩)] W
   λe W'=>e=.returned (.tuple #[])/\KT (λb=>T b\/b=br) W W'/\(J (Cv c sets k r n) W'\/∃q,q <+: Cv c sets k r n/\Jx q W'):=by
 obtain⟨W1,hW1⟩:∃W1:bh,W1=(W.alloc (b7 #[.func (.yield l) #[] #[]] 157)).alloc (b7 #[.func (.func 95) #[] #[.pointer (a8 ⟨bc,0,bb⟩),.pointer (a8 ⟨W.heap.size,0,bb⟩),.pointer (a8 ⟨br,0,bb⟩),.pointer (a8 ⟨W.heap.size+1,0,bb⟩)]] 158):=⟨_,rfl⟩;have g1:Gr W W1:=by rw[hW1];exact((Gr.refl W).alloc _).alloc _
 have hTW:=Q4 _ _ hj;have hz1:W1.heap.size=W.heap.size+2:=by rw[hW1];simp
 have LL:Hid (NH T K cb c sets nA hA nc hc sb sc bc W.heap.size br (W.heap.size+1) l r W1):=yJ (by
  have k1:KT T W W1:=KT.Dh g1
  refine⟨hs.Ek.keep k1.size λb o hb=>k1.cell (p:=⟨b,o,bb⟩) (hs.Ek.lt b hb) (hs.kt b hb),hs.kt,⟨(k1.cell hs.xc.2.2 hs.xc.2.1).trans hs.xc.1,hs.xc.2.1,by have:=hs.xc.2.2;omega⟩,⟨?_,λh=>by have:=hTW _ h;omega,by omega⟩,⟨?_,λh=>by have:=hTW _ h;omega,by omega⟩,
   ⟨λi hi=>⟨(k1.cell (p:=⟨br,i,bb⟩) hs.xr.2.2 hs.xr.2.1).trans (hs.xr.1 i hi).1,(k1.frozen (p:=⟨br,i,bb⟩) hs.xr.2.2 hs.xr.2.1).trans (hs.xr.1 i hi).2⟩,hs.xr.2.1,by have:=hs.xr.2.2;omega⟩,⟨hs.ne.1,?_,?_,hs.ne.2⟩,hs.rs⟩
  .rw[hW1,za _ _ _ (by simp),yN _ _ _ _ rfl];rfl
  .rw[hW1,yN _ _ _ _ (by simp)];rfl
  .have:=hs.xr.2.2;omega
  .have:=hs.xr.2.2;omega)
 have HJ1:Hid (J [] W1):=yJ (hJT _ _ _ hj λb hb=>g1.below.block b (hTW b hb));have ZI:=yJ (wG (by_:=W.heap.size) (bw:=W.heap.size+1) Dx Gy QH hJT Q4 hs.xr.2.1 hY k n r [] W1 hn LL.out (hk.trans (KT.Dh g1)) HJ1.out hz (by simp));have hxn:=hs.xn.1;have hbn:=hs.xn.2;have DO:=yJ g1;have NX:∀(fn:Fn) (first cap:Array dS) (w:bh),(Instr.makeFunc fn first cap).run B1 w=.ok (.func fn first cap) w:=λ_ _ _ _=>rfl
 rw[hW1] at ZI;refine cw Sq.func94 rfl trivial ?_ rfl;simp only[Tryz.ntmps94,yX,yV,zb,Nat.reduceAdd,Nat.reduceSub,zM,zN,zX,zR,Ab,zV]
 gi_wp2_with fail
 refine⟨trivial,rfl,ZI.out.mono ?_⟩;rw[<-hW1];rintro e w3 (⟨rfl,ZH,_,hk3⟩|⟨rfl,hq3,hk3⟩)
 .have HJ3:=yJ ZH;have Mt:=yJ ((KT.Dh DO.out).trans hk3)
  gi_wp2
  go_end0;exact⟨rfl,Mt.out,.inl (by simpa using HJ3.out)⟩
 .have HQ3:=yJ hq3;have Mt:=yJ ((KT.Dh DO.out).trans hk3)
  gi_wp2
  go_end0;refine⟨rfl,Mt.out,.inr ?_⟩;obtain⟨q,h1,h2⟩:=HQ3.out;exact⟨q,h1,by simpa using h2⟩
end
def Q6 (T0:Nat->Prop)(I:List CR->bh->Prop)(Ix:cF->List CR->bh->Prop)(xs:List CR)(W:bh):Exit->Act->bh->Prop
 |.normal,_,W'=>KT T0 W W'/\I xs W'
 |.ret,_,W'=>KT T0 W W'/\Ix .ret xs W'
 |.exit id,_,W'=>KT T0 W W'/\Ix (.exit id) xs W'
 |.goto t,_,W'=>KT T0 W W'/\Ix (.goto t) xs W'
 |.panic _,_,_=>False
 |.outgrown,_,_=>False
def _root_.Go.Sq.KT.low {T T':Nat->Prop}{w w':bh}(h:KT T w w')(hT:∀b,b<w.heap.size->T b->T' b):KT T' w w':=⟨h.os,h.tape,h.output,h.drawn,h.size,λb hb hn=>h.block b hb λt=>hn (hT b hb t)⟩
def dR {fn:Func}{tmps:Array dS}{R:Ending->bh->Prop}{D:Nat}{W:bh}{v:dS}(hd:W.heap[D]?=a8 (.deferred (a8 [])))(hr:(results fn tmps).run B1 (W.putObj D (.deferred bb))=.ok v (W.putObj D (.deferred bb)))(hR:R (.returned v) (W.putObj D (.deferred bb))) :
  LeavesInM bk 0 B1 fn tmps R [{ target:=.collected D,args:=#[] }] .returning W:=⟨by simp,.inl ⟨D,_,rfl,run_takeDeferred hd,v,hr,hR⟩⟩
def cy {W:bh}{D:Nat}{o:Obj}{p:b8}(h:p.block≠D):(W.putObj D o).cell? p=W.cell? p:=zd (a6 h)
def one_cell {W:bh}{b:Nat}{v:dS}{t:TypeId}(h:W.heap[b]?=a8 (b7 #[v] t (0,0))):W.cell? ⟨b,0,bb⟩=a8 v/\W.frozen? ⟨b,0,bb⟩=cr/\b<W.heap.size:=by
 refine⟨?_,?_,(yK.1 h).1⟩
 .unfold World.cell?;simp only[h];rfl
 .unfold World.frozen?;simp only[h];rfl
def one_set {W:bh}{b:Nat}{v u:dS}{t:TypeId}(h:W.heap[b]?=a8 (b7 #[v] t (0,0))):(W.setCell ⟨b,0,bb⟩ u).heap[b]?=a8 (b7 #[u] t (0,0)):=by
 unfold cu;simp only[zH,if_true,h]
 rfl
def _root_.Go.Sq.KT.gr {T:Nat->Prop}{w w1 W:bh}(h:Gr w w1)(hk:KT T w1 W)(hT:∀b,T b->w.heap.size<=b):Gr w W :=
 ⟨⟨hk.os.trans h.below.os,hk.tape.trans h.below.tape,hk.output.trans h.below.output,yR h.size hk.size,λb hb=>(hk.block b (yO hb h.size) λt=>by have:=hT b t;omega).trans (h.below.block b hb)⟩,yR h.drawn hk.drawn⟩
def _root_.Go.Sq.Gr.putObj {w W:bh}(h:Gr w W){D:Nat}(hD:w.heap.size<=D)(o:Obj):Gr w (W.putObj D o) :=
 ⟨⟨h.below.os,h.below.tape,h.below.output,by simpa [b6] using h.size,λb hb=>(a6 (by omega)).trans (h.below.block b hb)⟩,h.drawn⟩
def qG {T0 K:Nat->Prop}{cb:Nat}{c:Cc}{sets:List Nat}{nA hA:Option b8}{nc hc sb sc bc br bn k n:Nat}{r:CR}{g:Operand}{ps:Array Tmp}{assign body:cF}{Q:Exit->Act->bh->Prop}{a:Act}{w:bh}
  (Dx:c.Ok) (Gy:∀x∈sets,c.has x) (QH:sets.length<=16) (hg:a.eval g=.func (.func 94) #[] #[.pointer (a8 ⟨bc,0,bb⟩),.pointer (a8 ⟨br,0,bb⟩),.pointer (a8 ⟨bn,0,bb⟩)])
  (hn:n+k=c.B3.length) (hz:∀i,n<=i->r i=0) (hs:NW T0 K cb c sets nA hA nc hc sb sc bc br bn r n w) (Jz:∀b,T0 b->b<w.heap.size) (hps:ps.size=1)
  (I:List CR->bh->Prop) (Ix:cF->List CR->bh->Prop) (hI:∀pre W W',I pre W->(∀b,T0 b->W'.heap[b]?=W.heap[b]?)->I pre W') (Q7:∀c pre W W',Ix c pre W->(∀b,T0 b->W'.heap[b]?=W.heap[b]?)->Ix c pre W') (h0:I [] w)
  (a₁:CR->Act)
  (UN:∀(l:Nat) (ρ:CR) (W:bh) (K:Act->bh->Prop),K (a₁ ρ) W->assign.wpIn (Fence.wide.inRound l) 0 B1 (Exit.then K (λ_ _ _=>False)) { tmps:=(ps.zip #[Dr ρ]).foldl (λt (p,v)=>t.setIfInBounds p v) a.tmps,defers:=[] } W)
  (IV:∀(l:Nat) (pre:List CR) (ρ:CR) (W:bh),pre++[ρ] <+: Cv c sets k r n->KT (λb=>T0 b\/b=br) w W->I pre W->body.wpIn (Fence.wide.inRound l) 0 B1 (Q6 T0 I Ix (pre++[ρ]) W) (a₁ ρ) W)
  (hdone:∀(D:Nat) (W:bh),w.heap.size<=D->KT (λb=>T0 b\/b=br) w W->I (Cv c sets k r n) W->W.heap[D]?=a8 (.deferred (a8 []))->Q .normal { a with defers:={ target:=.collected D,args:=#[] }::a.defers } W)
  (CQ:∀(D:Nat) (j:cF) (q:List CR) (W:bh),w.heap.size<=D->KT (λb=>T0 b\/b=br) w W->q <+: Cv c sets k r n->Ix j q W->W.heap[D]?=a8 (.deferred (a8 []))->j.wpIn bk 0 B1 Q { a with defers:={ target:=.collected D,args:=#[] }::a.defers } W) :
  (b9 g ps assign body).wpIn bk 0 B1 Q a w:=by
 refine dn ?_;intro fn hfn;have Q8:∀b,K b->b<w.heap.size:=hs.Ek.lt;obtain⟨rec,GM⟩:∃rec:LoopState->Option cF->Loop,rec=λst pe=>{ state:=st,pending:=pe,fn,tmps:=a.tmps,params:=ps,assign,body,defers:=w.heap.size }:=⟨_,rfl⟩;obtain⟨W1,hW1⟩:∃W1,(w.alloc (.deferred (a8 []))).alloc (.loop (rec .ready bb))=W1:=⟨_,rfl⟩;have ZJ:W1.heap[w.heap.size+1]?=a8 (.loop (rec .ready bb)):=by
  rw[<-hW1];have:=bs (w.alloc (.deferred (a8 []))) (.loop (rec .ready bb));rwa [AR] at this
 have hK1:W1.heap[w.heap.size]?=a8 (.deferred (a8 [])):=by
  rw[<-hW1];exact(Ar _ _ _ (by simp)).trans (bs w _)
 have hg1:Gr w W1:=by rw[<-hW1];exact((Gr.refl w).alloc _).alloc _
 have hI1:I [] W1:=hI _ _ _ h0 λb hb=>hg1.below.block b (Jz b hb);have hz1:W1.heap.size=w.heap.size+2:=by rw[<-hW1];simp
 refine⟨w.heap.size+1,[{ target:=.collected w.heap.size,args:=#[] }],W1,{ target:=.fn (.func 94) #[.pointer (a8 ⟨bc,0,bb⟩),.pointer (a8 ⟨br,0,bb⟩),.pointer (a8 ⟨bn,0,bb⟩)],args:=#[.func (.yield (w.heap.size+1)) #[] #[]] },W1,94,
  #[.func (.yield (w.heap.size+1)) #[] #[]]++#[.pointer (a8 ⟨bc,0,bb⟩),.pointer (a8 ⟨br,0,bb⟩),.pointer (a8 ⟨bn,0,bb⟩)],W1,?_,?_,?_,?_,λh=>(by cases h),?_⟩
 .rw[<-hW1,GM];exact cq _ _ _ _ _
 .simp only[resolve,hg];simp[go_sem]
 .intro f' _;trivial
 .simp[invoke,go_sem]
 .obtain⟨T,hT⟩:∃T:Nat->Prop,T=λb=>T0 b\/b=w.heap.size\/b=w.heap.size+1:=⟨_,rfl⟩;have PL:∀b,T0 b->T b:=λb hb=>by rw[hT];exact .inl hb
  have hTD:T w.heap.size:=by rw[hT];exact .inr (.inl rfl)
  have Q9:T (w.heap.size+1):=by rw[hT];exact .inr (.inr rfl)
  have IW:∀b,b<w.heap.size->T b->T0 b:=λb hb h=>by
   rw[hT] at h;rcases h with h|h|h
   .exact h
   .omega
   .omega
  have k1:KT T0 w W1:=KT.Dh hg1;have hs1:NW T K cb c sets nA hA nc hc sb sc bc br bn r n W1:=by
   refine⟨hs.Ek.keep hg1.size λb o hb=>hg1.cell (Q8 b hb),λb hb h=>hs.kt b hb (IW b (Q8 b hb) h),⟨(hg1.cell hs.xc.2.2).trans hs.xc.1,λh=>hs.xc.2.1 (IW _ hs.xc.2.2 h),by have:=hs.xc.2.2;omega⟩,⟨λi hi=>⟨(hg1.cell (p:=⟨br,i,bb⟩) hs.xr.2.2).trans (hs.xr.1 i hi).1,(hg1.frozen (p:=⟨br,i,bb⟩) hs.xr.2.2).trans (hs.xr.1 i hi).2⟩,λh=>hs.xr.2.1 (IW _ hs.xr.2.2 h),by have:=hs.xr.2.2;omega⟩,
    ⟨(hg1.cell hs.xn.2).trans hs.xn.1,by have:=hs.xn.2;omega⟩,hs.ne,hs.rs⟩
  have NY:∀ {W:bh},KT (λb=>T b\/b=br) W1 W->KT (λb=>T0 b\/b=br) w W:=λhk =>
   KT.low (T:=λb=>T b\/b=br) ((KT.Dh hg1).trans hk) λb hb h=>h.elim (λh=>.inl (IW b hb h)) .inr
  have aaQ:=hs.xr.2.2;have hput:∀(W:bh) (o:Obj),KT T W (W.putObj (w.heap.size+1) o):=λW o=>KT.putObj W Q9 o;have hq:=uq (T:=T) (l:=w.heap.size+1) (W0:=W1)
   (J:=λpre W=>I pre W/\W.heap[w.heap.size+1]?=a8 (.loop (rec .ready bb))/\W.heap[w.heap.size]?=a8 (.deferred (a8 [])))
   (Jx:=λpre W=>∃j,Ix j pre W/\W.heap[w.heap.size+1]?=a8 (.loop (rec .done (a8 j)))/\W.heap[w.heap.size]?=a8 (.deferred (a8 [])))
   Dx Gy QH (λpre W W' h hk=>⟨hI _ _ _ h.1 λb hb=>hk b (PL b hb),(hk _ Q9).trans h.2.1,(hk _ hTD).trans h.2.2⟩)
   (λpre W h b hb=>by
    have h1:=(yK.1 h.2.1).1;rw[hT] at hb;rcases hb with hb|hb|hb
    .have:=Jz b hb;omega
    .omega
    .omega)
   ?_ hn hs1 (KT.refl _ _) ⟨hI1,ZJ,hK1⟩ hz
  .refine hq.mono ?_;rintro e W2 ⟨rfl,hk2,(⟨hi,hl,hd⟩|⟨q,EC,j,hi,hl,hd⟩)⟩
   .refine⟨bb,_,by have:=cf (P:=B1) hl (by rw[GM];simp);rw[GM] at this;exact this,hdone _ _ (yL _) (NY (hk2.trans ((hput _ _).mono λb h=>.inl h))) (hI _ _ _ hi λb hb=>a6 (by have:=Jz b hb;omega)) ((a6 (by omega)).trans hd)⟩
   .exact⟨a8 j,_,by have:=cf (P:=B1) hl (by rw[GM];simp);rw[GM] at this;exact this,CQ _ j q _ (yL _) (NY (hk2.trans ((hput _ _).mono λb h=>.inl h))) EC (Q7 _ _ _ _ hi λb hb=>a6 (by have:=Jz b hb;omega)) ((a6 (by omega)).trans hd)⟩
  .rintro pre ρ W hpl hkW ⟨hi,hl,hd⟩;have hlt:w.heap.size+1<W.heap.size:=(yK.1 hl).1;have hy:=run_yield (P:=B1) (args:=#[Dr ρ]) hl (by rw[GM];simp[hps]);rw[GM] at hy;refine⟨fn,_,assign,body,hy,cU hfn (UN _ ρ W _ ⟨_,dr hl (by rw[GM]),?_⟩)⟩;obtain⟨Wb,QI⟩:∃Wb,Wb=W.putObj (w.heap.size+1) (.loop { rec .ready bb with state:=.busy }):=⟨_,rfl⟩;rw[<-QI];have kb:KT T W Wb:=by rw[QI];exact hput _ _
   have hl2:Wb.heap[w.heap.size+1]?=a8 (.loop { rec .ready bb with state:=.busy }):=by rw[QI];exact bq hlt
   have Mp:Wb.heap[w.heap.size]?=a8 (.deferred (a8 [])):=by rw[QI];exact(a6 (by omega)).trans hd
   have Uv:I pre Wb:=hI _ _ _ hi λb hb=>by rw[QI];exact a6 (by have:=Jz b hb;omega)
   have hzb:Wb.heap.size=W.heap.size:=by rw[QI];simp[b6]
   refine ea (IV _ pre ρ Wb hpl (NY (hkW.trans (kb.mono λb h=>.inl h))) Uv) ?_;have fin : ∀ (jump : Option cF) (W3 : bh), KT T0 Wb W3 ->
     (dy (w.heap.size+1) jump).run B1 W3=.ok (.bool jump.isNone) (W3.putObj (w.heap.size+1) (.loop (rec (if jump.isNone then .ready else .done) jump))) /\
     (W3.putObj (w.heap.size+1) (.loop (rec (if jump.isNone then .ready else .done) jump))).heap[w.heap.size+1]?=a8 (.loop (rec (if jump.isNone then .ready else .done) jump)) /\
     (W3.putObj (w.heap.size+1) (.loop (rec (if jump.isNone then .ready else .done) jump))).heap[w.heap.size]?=a8 (.deferred (a8 []))/\KT T W (W3.putObj (w.heap.size+1) (.loop (rec (if jump.isNone then .ready else .done) jump))) /\
     ∀b,T0 b->(W3.putObj (w.heap.size+1) (.loop (rec (if jump.isNone then .ready else .done) jump))).heap[b]?=W3.heap[b]?:=λjump W3 hk3=>by
    have IP:W3.heap[w.heap.size+1]?=a8 (.loop { rec .ready bb with state:=.busy }):=(hk3.block _ (by omega) λh=>by have:=Jz _ h;omega).trans hl2;have NZ:W3.heap[w.heap.size]?=a8 (.deferred (a8 [])):=(hk3.block _ (by omega) λh=>by have:=Jz _ h;omega).trans Mp;have:=run_endRound (P:=B1) jump IP;rw[GM] at this ⊢;exact⟨this,bq (yK.1 IP).1,(a6 (by omega)).trans NZ,(kb.trans (hk3.mono PL)).trans (KT.putObj W3 Q9 _),λb hb=>a6 (by have:=Jz b hb;omega)⟩
   rintro e a3 W3 hp;cases e with
   |normal =>
    obtain⟨hk3,N0⟩:=hp;obtain⟨hr,hl4,LM,hk4,hb4⟩:=fin bb W3 hk3;exact⟨_,_,hr,.inl ⟨rfl,⟨hI _ _ _ N0 hb4,hl4,LM⟩,hk4⟩⟩
   |ret =>
    obtain⟨hk3,N0⟩:=hp;obtain⟨hr,hl4,LM,hk4,hb4⟩:=fin (a8 .ret) W3 hk3;exact⟨_,_,hr,.inr ⟨rfl,⟨.ret,Q7 _ _ _ _ N0 hb4,hl4,LM⟩,hk4⟩⟩
   |exit id =>
    obtain⟨hk3,N0⟩:=hp;obtain⟨hr,hl4,LM,hk4,hb4⟩:=fin (a8 (.exit id)) W3 hk3;exact⟨_,_,hr,.inr ⟨rfl,⟨.exit id,Q7 _ _ _ _ N0 hb4,hl4,LM⟩,hk4⟩⟩
   |goto t =>
    obtain⟨hk3,N0⟩:=hp;obtain⟨hr,hl4,LM,hk4,hb4⟩:=fin (a8 (.goto t)) W3 hk3;exact⟨_,_,hr,.inr ⟨rfl,⟨.goto t,Q7 _ _ _ _ N0 hb4,hl4,LM⟩,hk4⟩⟩
   |panic ch=>exact hp.elim
   |outgrown=>exact hp.elim
def pa {T0 K:Nat->Prop}{cb:Nat}{c:Cc}{sets:List Nat}{nA hA:Option b8}{nc hc sb sc bc br bn k n:Nat}{r:CR}{g:Operand}{p:Tmp}{body:cF}{Q:Exit->Act->bh->Prop}{a:Act}{w:bh}
  (Dx:c.Ok) (Gy:∀x∈sets,c.has x) (QH:sets.length<=16) (hg:a.eval g=.func (.func 94) #[] #[.pointer (a8 ⟨bc,0,bb⟩),.pointer (a8 ⟨br,0,bb⟩),.pointer (a8 ⟨bn,0,bb⟩)])
  (hn:n+k=c.B3.length) (hz:∀i,n<=i->r i=0) (hs:NW T0 K cb c sets nA hA nc hc sb sc bc br bn r n w) (Jz:∀b,T0 b->b<w.heap.size)
  (I:List CR->bh->Prop) (Ix:cF->List CR->bh->Prop) (hI:∀pre W W',I pre W->(∀b,T0 b->W'.heap[b]?=W.heap[b]?)->I pre W') (Q7:∀c pre W W',Ix c pre W->(∀b,T0 b->W'.heap[b]?=W.heap[b]?)->Ix c pre W') (h0:I [] w)
  (IV:∀(l:Nat) (pre:List CR) (ρ:CR) (W:bh),KT (λb=>T0 b\/b=br) w W->I pre W->body.wpIn (Fence.wide.inRound l) 0 B1 (Q6 T0 I Ix (pre++[ρ]) W) { tmps:=a.tmps.setIfInBounds p (Dr ρ),defers:=[] } W)
  (hdone:∀(D:Nat) (W:bh),w.heap.size<=D->KT (λb=>T0 b\/b=br) w W->I (Cv c sets k r n) W->W.heap[D]?=a8 (.deferred (a8 []))->Q .normal { a with defers:={ target:=.collected D,args:=#[] }::a.defers } W)
  (CQ:∀(D:Nat) (j:cF) (q:List CR) (W:bh),w.heap.size<=D->KT (λb=>T0 b\/b=br) w W->q <+: Cv c sets k r n->Ix j q W->W.heap[D]?=a8 (.deferred (a8 []))->j.wpIn bk 0 B1 Q { a with defers:={ target:=.collected D,args:=#[] }::a.defers } W) :
  (b9 g #[p] .skip body).wpIn bk 0 B1 Q a w:=by
 exact qG (ps:=#[p]) (assign:=.skip) Dx Gy QH hg hn hz hs Jz rfl I Ix hI Q7 h0 (λρ=>{ tmps:=a.tmps.setIfInBounds p (Dr ρ),defers:=[] }) (λl ρ W K hK=>wpIn_skip (by show K _ W;simpa using hK)) (λl pre ρ W _=>IV l pre ρ W) hdone CQ
def kU {T0 K:Nat->Prop}{cb:Nat}{c:Cc}{sets:List Nat}{nA hA:Option b8}{nc hc sb sc bc br bn k n:Nat}{r:CR}{g:Operand}{ps:Array Tmp}{assign body:cF}{Q:Exit->Act->bh->Prop}{a:Act}{w:bh}
  (Dx:c.Ok) (Gy:∀x∈sets,c.has x) (QH:sets.length<=16) (hg:a.eval g=.func (.func 94) #[] #[.pointer (a8 ⟨bc,0,bb⟩),.pointer (a8 ⟨br,0,bb⟩),.pointer (a8 ⟨bn,0,bb⟩)])
  (hn:n+k=c.B3.length) (hz:∀i,n<=i->r i=0) (hs:NW T0 K cb c sets nA hA nc hc sb sc bc br bn r n w) (Jz:∀b,T0 b->b<w.heap.size) (hps:ps.size=1)
  (I:List CR->bh->Prop) (Ix:cF->List CR->bh->Prop) (hI:∀pre W W',I pre W->(∀b,T0 b->W'.heap[b]?=W.heap[b]?)->I pre W') (Q7:∀c pre W W',Ix c pre W->(∀b,T0 b->W'.heap[b]?=W.heap[b]?)->Ix c pre W') (h0:I [] w)
  (XQ:∀(l:Nat) (pre:List CR) (ρ:CR) (W:bh),pre++[ρ] <+: Cv c sets k r n->KT (λb=>T0 b\/b=br) w W->I pre W->w.heap.size<l->l<W.heap.size ->
   assign.wpIn (Fence.wide.inRound l) 0 B1 (Exit.then (λa₁ w₁=>KT T0 W w₁/\∀o,body.wpIn (Fence.wide.inRound l) 0 B1 (Q6 T0 I Ix (pre++[ρ]) (w₁.putObj l o)) a₁ (w₁.putObj l o)) (λ_ _ _=>False)) { tmps:=(ps.zip #[Dr ρ]).foldl (λt (p,v)=>t.setIfInBounds p v) a.tmps,defers:=[] } W)
  (hdone:∀(D:Nat) (W:bh),w.heap.size<=D->KT (λb=>T0 b\/b=br) w W->I (Cv c sets k r n) W->W.heap[D]?=a8 (.deferred (a8 []))->Q .normal { a with defers:={ target:=.collected D,args:=#[] }::a.defers } W)
  (CQ:∀(D:Nat) (j:cF) (q:List CR) (W:bh),w.heap.size<=D->KT (λb=>T0 b\/b=br) w W->q <+: Cv c sets k r n->Ix j q W->W.heap[D]?=a8 (.deferred (a8 []))->j.wpIn bk 0 B1 Q { a with defers:={ target:=.collected D,args:=#[] }::a.defers } W) :
  (b9 g ps assign body).wpIn bk 0 B1 Q a w:=by
 refine dn ?_;intro fn hfn;have Q8:∀b,K b->b<w.heap.size:=hs.Ek.lt;obtain⟨rec,GM⟩:∃rec:LoopState->Option cF->Loop,rec=λst pe=>{ state:=st,pending:=pe,fn,tmps:=a.tmps,params:=ps,assign,body,defers:=w.heap.size }:=⟨_,rfl⟩;obtain⟨W1,hW1⟩:∃W1,(w.alloc (.deferred (a8 []))).alloc (.loop (rec .ready bb))=W1:=⟨_,rfl⟩;have ZJ:W1.heap[w.heap.size+1]?=a8 (.loop (rec .ready bb)):=by
  rw[<-hW1];have:=bs (w.alloc (.deferred (a8 []))) (.loop (rec .ready bb));rwa [AR] at this
 have hK1:W1.heap[w.heap.size]?=a8 (.deferred (a8 [])):=by
  rw[<-hW1];exact(Ar _ _ _ (by simp)).trans (bs w _)
 have hg1:Gr w W1:=by rw[<-hW1];exact((Gr.refl w).alloc _).alloc _
 have hI1:I [] W1:=hI _ _ _ h0 λb hb=>hg1.below.block b (Jz b hb);have hz1:W1.heap.size=w.heap.size+2:=by rw[<-hW1];simp
 refine⟨w.heap.size+1,[{ target:=.collected w.heap.size,args:=#[] }],W1,{ target:=.fn (.func 94) #[.pointer (a8 ⟨bc,0,bb⟩),.pointer (a8 ⟨br,0,bb⟩),.pointer (a8 ⟨bn,0,bb⟩)],args:=#[.func (.yield (w.heap.size+1)) #[] #[]] },W1,94,
  #[.func (.yield (w.heap.size+1)) #[] #[]]++#[.pointer (a8 ⟨bc,0,bb⟩),.pointer (a8 ⟨br,0,bb⟩),.pointer (a8 ⟨bn,0,bb⟩)],W1,?_,?_,?_,?_,λh=>(by cases h),?_⟩
 .rw[<-hW1,GM];exact cq _ _ _ _ _
 .simp only[resolve,hg];simp[go_sem]
 .intro f' _;trivial
 .simp[invoke,go_sem]
 .obtain⟨T,hT⟩:∃T:Nat->Prop,T=λb=>T0 b\/b=w.heap.size\/b=w.heap.size+1:=⟨_,rfl⟩;have PL:∀b,T0 b->T b:=λb hb=>by rw[hT];exact .inl hb
  have hTD:T w.heap.size:=by rw[hT];exact .inr (.inl rfl)
  have Q9:T (w.heap.size+1):=by rw[hT];exact .inr (.inr rfl)
  have IW:∀b,b<w.heap.size->T b->T0 b:=λb hb h=>by
   rw[hT] at h;rcases h with h|h|h
   .exact h
   .omega
   .omega
  have k1:KT T0 w W1:=KT.Dh hg1;have hs1:NW T K cb c sets nA hA nc hc sb sc bc br bn r n W1:=by
   refine⟨hs.Ek.keep hg1.size λb o hb=>hg1.cell (Q8 b hb),λb hb h=>hs.kt b hb (IW b (Q8 b hb) h),⟨(hg1.cell hs.xc.2.2).trans hs.xc.1,λh=>hs.xc.2.1 (IW _ hs.xc.2.2 h),by have:=hs.xc.2.2;omega⟩,⟨λi hi=>⟨(hg1.cell (p:=⟨br,i,bb⟩) hs.xr.2.2).trans (hs.xr.1 i hi).1,(hg1.frozen (p:=⟨br,i,bb⟩) hs.xr.2.2).trans (hs.xr.1 i hi).2⟩,λh=>hs.xr.2.1 (IW _ hs.xr.2.2 h),by have:=hs.xr.2.2;omega⟩,
    ⟨(hg1.cell hs.xn.2).trans hs.xn.1,by have:=hs.xn.2;omega⟩,hs.ne,hs.rs⟩
  have NY:∀ {W:bh},KT (λb=>T b\/b=br) W1 W->KT (λb=>T0 b\/b=br) w W:=λhk =>
   KT.low (T:=λb=>T b\/b=br) ((KT.Dh hg1).trans hk) λb hb h=>h.elim (λh=>.inl (IW b hb h)) .inr
  have aaQ:=hs.xr.2.2;have hput:∀(W:bh) (o:Obj),KT T W (W.putObj (w.heap.size+1) o):=λW o=>KT.putObj W Q9 o;have hq:=uq (T:=T) (l:=w.heap.size+1) (W0:=W1)
   (J:=λpre W=>I pre W/\W.heap[w.heap.size+1]?=a8 (.loop (rec .ready bb))/\W.heap[w.heap.size]?=a8 (.deferred (a8 [])))
   (Jx:=λpre W=>∃j,Ix j pre W/\W.heap[w.heap.size+1]?=a8 (.loop (rec .done (a8 j)))/\W.heap[w.heap.size]?=a8 (.deferred (a8 [])))
   Dx Gy QH (λpre W W' h hk=>⟨hI _ _ _ h.1 λb hb=>hk b (PL b hb),(hk _ Q9).trans h.2.1,(hk _ hTD).trans h.2.2⟩)
   (λpre W h b hb=>by
    have h1:=(yK.1 h.2.1).1;rw[hT] at hb;rcases hb with hb|hb|hb
    .have:=Jz b hb;omega
    .omega
    .omega)
   ?_ hn hs1 (KT.refl _ _) ⟨hI1,ZJ,hK1⟩ hz
  .refine hq.mono ?_;rintro e W2 ⟨rfl,hk2,(⟨hi,hl,hd⟩|⟨q,EC,j,hi,hl,hd⟩)⟩
   .refine⟨bb,_,by have:=cf (P:=B1) hl (by rw[GM];simp);rw[GM] at this;exact this,hdone _ _ (yL _) (NY (hk2.trans ((hput _ _).mono λb h=>.inl h))) (hI _ _ _ hi λb hb=>a6 (by have:=Jz b hb;omega)) ((a6 (by omega)).trans hd)⟩
   .exact⟨a8 j,_,by have:=cf (P:=B1) hl (by rw[GM];simp);rw[GM] at this;exact this,CQ _ j q _ (yL _) (NY (hk2.trans ((hput _ _).mono λb h=>.inl h))) EC (Q7 _ _ _ _ hi λb hb=>a6 (by have:=Jz b hb;omega)) ((a6 (by omega)).trans hd)⟩
  .rintro pre ρ W hpl hkW ⟨hi,hl,hd⟩;have hlt:w.heap.size+1<W.heap.size:=(yK.1 hl).1;have hy:=run_yield (P:=B1) (args:=#[Dr ρ]) hl (by rw[GM];simp[hps]);rw[GM] at hy;refine⟨fn,_,assign,body,hy,cU hfn (ea (XQ (w.heap.size+1) pre ρ W hpl (NY hkW) hi (by omega) hlt) ?_)⟩;rintro e1 a1 w1 GN;cases e1 with
   |panic ch=>exact GN.elim
   |outgrown=>exact GN.elim
   |ret=>exact GN.elim
   |exit id=>exact GN.elim
   |goto t=>exact GN.elim
   |normal =>
   obtain⟨kw1,hb1⟩:=GN;have F4:w1.heap[w.heap.size+1]?=a8 (.loop (rec .ready bb)):=(kw1.block _ hlt λh=>by have:=Jz _ h;omega).trans hl;have O3:w1.heap[w.heap.size]?=a8 (.deferred (a8 [])):=(kw1.block _ (by omega) λh=>by have:=Jz _ h;omega).trans hd;have aaR:w.heap.size+1<w1.heap.size:=(yK.1 F4).1;refine⟨_,dr F4 (by rw[GM]),?_⟩;obtain⟨Wb,QI⟩:∃Wb,Wb=w1.putObj (w.heap.size+1) (.loop { rec .ready bb with state:=.busy }):=⟨_,rfl⟩
   have O5:=hb1 (.loop { rec .ready bb with state:=.busy });rw[<-QI] at O5 ⊢;have kb:KT T W Wb:=(kw1.mono PL).trans (by rw[QI];exact hput _ _);have hl2:Wb.heap[w.heap.size+1]?=a8 (.loop { rec .ready bb with state:=.busy }):=by rw[QI];exact bq aaR
   have Mp:Wb.heap[w.heap.size]?=a8 (.deferred (a8 [])):=by rw[QI];exact(a6 (by omega)).trans O3
   have hzb:Wb.heap.size=w1.heap.size:=by rw[QI];simp[b6]
   refine ea O5 ?_;have fin : ∀ (jump : Option cF) (W3 : bh), KT T0 Wb W3 ->
     (dy (w.heap.size+1) jump).run B1 W3=.ok (.bool jump.isNone) (W3.putObj (w.heap.size+1) (.loop (rec (if jump.isNone then .ready else .done) jump))) /\
     (W3.putObj (w.heap.size+1) (.loop (rec (if jump.isNone then .ready else .done) jump))).heap[w.heap.size+1]?=a8 (.loop (rec (if jump.isNone then .ready else .done) jump)) /\
     (W3.putObj (w.heap.size+1) (.loop (rec (if jump.isNone then .ready else .done) jump))).heap[w.heap.size]?=a8 (.deferred (a8 []))/\KT T W (W3.putObj (w.heap.size+1) (.loop (rec (if jump.isNone then .ready else .done) jump))) /\
     ∀b,T0 b->(W3.putObj (w.heap.size+1) (.loop (rec (if jump.isNone then .ready else .done) jump))).heap[b]?=W3.heap[b]?:=λjump W3 hk3=>by
    have IP:W3.heap[w.heap.size+1]?=a8 (.loop { rec .ready bb with state:=.busy }):=(hk3.block _ (by omega) λh=>by have:=Jz _ h;omega).trans hl2;have NZ:W3.heap[w.heap.size]?=a8 (.deferred (a8 [])):=(hk3.block _ (by omega) λh=>by have:=Jz _ h;omega).trans Mp;have:=run_endRound (P:=B1) jump IP;rw[GM] at this ⊢;exact⟨this,bq (yK.1 IP).1,(a6 (by omega)).trans NZ,(kb.trans (hk3.mono PL)).trans (KT.putObj W3 Q9 _),λb hb=>a6 (by have:=Jz b hb;omega)⟩
   rintro e a3 W3 hp;cases e with
   |normal =>
    obtain⟨hk3,N0⟩:=hp;obtain⟨hr,hl4,LM,hk4,hb4⟩:=fin bb W3 hk3;exact⟨_,_,hr,.inl ⟨rfl,⟨hI _ _ _ N0 hb4,hl4,LM⟩,hk4⟩⟩
   |ret =>
    obtain⟨hk3,N0⟩:=hp;obtain⟨hr,hl4,LM,hk4,hb4⟩:=fin (a8 .ret) W3 hk3;exact⟨_,_,hr,.inr ⟨rfl,⟨.ret,Q7 _ _ _ _ N0 hb4,hl4,LM⟩,hk4⟩⟩
   |exit id =>
    obtain⟨hk3,N0⟩:=hp;obtain⟨hr,hl4,LM,hk4,hb4⟩:=fin (a8 (.exit id)) W3 hk3;exact⟨_,_,hr,.inr ⟨rfl,⟨.exit id,Q7 _ _ _ _ N0 hb4,hl4,LM⟩,hk4⟩⟩
   |goto t =>
    obtain⟨hk3,N0⟩:=hp;obtain⟨hr,hl4,LM,hk4,hb4⟩:=fin (a8 (.goto t)) W3 hk3;exact⟨_,_,hr,.inr ⟨rfl,⟨.goto t,Q7 _ _ _ _ N0 hb4,hl4,LM⟩,hk4⟩⟩
   |panic ch=>exact hp.elim
   |outgrown=>exact hp.elim
end Go.Sq
