/- Parts of the proof. -/
import Derived.Test.YtoeoefobdjociaaGreatP12
import Derived.RangeFuncNested
import Derived.RangeFuncBound
set_option linter.all false
set_option maxHeartbeats 12800000
set_option maxRecDepth 1000000
open Go.World renaming putObj_heap_other->Z,putObj_heap_same->O,alloc_heap_new->M,putObj->z,setCell->bq
open Go.Value renaming pointer->Y,int->C,slice->bD
open Option renaming some->U,none->X
open Go renaming World->F,bodyPost_ret->V,Addr->bb,run_endLoop->bk,run_enterLoop_outer->bl,callsIn_of_wp->bs,Code->bW,roundIn_of_wpIn->ck,Calls->cq,wpIn_rangeFunc->cr,run_beginRound->cu,Value->cE,wpIn_mono->cF
open Go.Fence renaming wide->N
open Go.IntKind renaming i64->E
open Go.Ending renaming returned->G
open Go.Proofs.Tryz renaming results79->H,ntmps78->cK
open Go.Proofs renaming intOf->S
open Go.Obj renaming cells->ak
open Go.Code renaming rangeFunc->bh
open Bool renaming false->bo
open Go.Instr renaming index->cf,endRound->cw
namespace Go.Sq
open Go.Proofs
open Go.RowKit
def oD (p:Nat->Prop):∀j,j<0->p j:=λ_ h=>AI h (BJ _)
def Gw (x:Int×Int×Int):Value:=.agg #[C E x.1,C E x.2.1,C E x.2.2]
def oG (cb br night:Nat)(c:D9)(r:Nat->Nat)(w:F){nA hA:Option bb}{nc hc:Nat}(h:FE w w.heap.size cb c nA hA nc hc)(hr:GU w w.heap.size br r)(aO:c.Ok)(hi:night<c.DW.length)(hx:∀i,c.has (r i)) :
  cq DU 79 #[.pointer (U ⟨cb,0,X⟩),.pointer (U ⟨br,0,X⟩),C E night] w λe w'=>e=.returned (Gw (Ej c r night))/\Gr w w':=by
 have HP:=Ay h;have HR:=Ay hr;have HX:=Ay hx;have hbr:=hr.1;have hcb:=h.lt;have b7:=aO.n5;clear h hr hx;go_enter Sq.func79,Tryz.ntmps79;go_wp2;obtain⟨W0,zM⟩:∃W0:F,W0=(w.alloc (ak #[C E 0,C E 0,C E 0] 124)).alloc (ak #[.func (.func 111) #[] #[],.func (.func 112) #[] #[],.func (.func 113) #[] #[]] 176):=⟨_,rfl⟩;have zL:Gr w W0:=by rw[zM];exact((Gr.refl w).alloc _).alloc _
 have zF:W0.heap.size=w.heap.size+2:=by rw[zM];simp
 have aB:Hid (∀w2,Gr W0 w2->(w2.cell? ⟨w.heap.size,0,X⟩=U (C E 0)/\w2.cell? ⟨w.heap.size,1,X⟩=U (C E 0)/\w2.cell? ⟨w.heap.size,2,X⟩=U (C E 0))/\w2.frozen? ⟨w.heap.size,0,X⟩=bo/\w2.frozen? ⟨w.heap.size,1,X⟩=bo/\w2.frozen? ⟨w.heap.size,2,X⟩=bo):=Ay λw2 hg=>by
  have e:∀o,w2.cell? ⟨w.heap.size,o,X⟩=(#[C E 0,C E 0,C E 0]:Array cE)[o]?/\w2.frozen? ⟨w.heap.size,o,X⟩=false:=λo=>by
   rw[hg.cell (by show w.heap.size<_;omega),hg.frozen (by show w.heap.size<_;omega),zM,AW _ _ _ (by simp),AE _ _ _ _ rfl,CA _ _ _ (by simp),By _ _ _ _ rfl];exact⟨rfl,rfl⟩
  exact⟨⟨(e 0).1,(e 1).1,(e 2).1⟩,(e 0).2,(e 1).2,(e 2).2⟩
 rw[<-zM];clear zM;have h4:=aO.h4;go_loopw [14] (λi wr=>∃k:Nat,k<=3/\i=C E k/\(∀j,j<k->breaks c r night j=X)/\Gr W0 wr) (λi _=>3-(S i).toNat)
 case atStart=>exact⟨0,by omega,rfl,oD _,Gr.refl _⟩
 case round =>
  obtain⟨k,hk,rfl,hb,zV⟩:=hrel;have a6:=Ay (zL.trans zV);have aJ:=Ay zV;clear zV;obtain rfl|rfl|rfl|rfl:k=0\/k=1\/k=2\/k=3:=by omega
  ·
   have aW:∀w,(cf 176 (.agg #[.func (.func 111) #[] #[],.func (.func 112) #[] #[],.func (.func 113) #[] #[]]) (C E 0)).run DU w=.ok (.func (.func 111) #[] #[]) w:=λ_=>by kernel_rfl
   have a8:=HX.out night;have aP:=Dp h4 a8;have aU:=(HR.out.on a6.out).2 night (by omega);have HL:=Ay (iK (r night) wr aP);have HB:=Ay hb;have aA:=Ay (HP.out.on a6.out);have aQ:=Ay (HR.out.on a6.out);clear hb;go_wp2_with fail;refine HL.out.mono ?_;rintro e w2 ⟨A,cc,rfl,aC,zI⟩;have aR:=Ay aC;have aD:=Ay (a6.out.trans zI);have aK:=Ay (aA.out.on zI);have aL:=Ay (aQ.out.on zI);have aF:=Ay (aJ.out.trans zI)
   obtain⟨⟨a7,zj,zz⟩,aM,aN,hf2⟩:=aB.out w2 aF.out;have hl:=aY (r night);have zD:=zI.size;clear aC zI;go_wp2;go_loop [25] (λi=>∃k:Nat,k<=(wl (r night)).length/\i=C E k/\((wl (r night)).take k).find? (λh=>Gu c r night 0 h.toNat)=X) (λi=>(wl (r night)).length-(S i).toNat)
   case atStart=>exact⟨0,by omega,rfl,by simp⟩
   case round =>
    obtain⟨k,hk,rfl,hnone⟩:=hrel;have HN:=Ay hnone;clear hnone;by_cases zY:k<(wl (r night)).length
    .obtain⟨b,o,rfl,hb,hcell⟩:=aR.out.at_ zY;obtain⟨n,hn,aG,aH,aX⟩:=Kg a8 zY;rw[hn] at hcell;have HE:=Ay hn;clear hn;cases hq:Gu c r night 0 n with
     |true =>
      have HC:Hid (cq DU 111 #[.pointer (U ⟨cb,0,X⟩),.pointer (U ⟨br,0,X⟩),C E night,C E n] w2 λe w'=>e=.returned (.bool true)/\w2=w'):=Ay (by rw[<-hq];exact vg cb br n night c w2 aK.out aG (aO.off _ (c.Gs aG)).1 aH);have HF:=Ay (show breaks c r night 0=U ((n:Nat):Int) by have:=dp zY HN.out (by rw[HE.out];exact hq);rw[HE.out] at this;exact this);clear hq;go_wp2_with (go_at_call 111;refine HC.out.mono ?_;rintro e w' ⟨rfl,rfl⟩)
      obtain⟨s0,s1,s2⟩:=K4 a7 zj zz;refine V (v:=Gw (1,night,n)) (by simp[results,H,go_sem,Gw,s0,s1,s2]) rfl ⟨?_,?_⟩
      .exact AX G (AX Gw (by unfold Ej;skip;rw[HF.out]))
      .exact((aD.out.setCell (AA _) _).setCell (AA _) _).setCell (AA _) _
     |false =>
      have HC:Hid (cq DU 111 #[.pointer (U ⟨cb,0,X⟩),.pointer (U ⟨br,0,X⟩),C E night,C E n] w2 λe w'=>e=.returned (.bool bo)/\w2=w'):=Ay (by rw[<-hq];exact vg cb br n night c w2 aK.out aG (aO.off _ (c.Gs aG)).1 aH);have HF:=Ay (cJ zY HN.out (by rw[HE.out];exact hq));clear hq;go_wp2_with (go_at_call 111;refine HC.out.mono ?_;rintro e w' ⟨rfl,rfl⟩);go_round
      case rel=>exact⟨k+1,by omega,by go_num,HF.out⟩
      case measure=>simp[Proofs.intOf];omega
    .have HF:=Ay (show breaks c r night 0=X by have:=HN.out;rw[Bb (by omega)] at this;exact this);clear HN;go_wp2;go_roundw
     case rel=>exact⟨1,by omega,by go_num,λj hj=>by
      obtain h|rfl:=Bv (BM hj)
      .exact HB.out j h
      .exact HF.out,aF.out⟩
     case measure=>simp[Proofs.intOf]
  ·
   have aW:∀w,(cf 176 (.agg #[.func (.func 111) #[] #[],.func (.func 112) #[] #[],.func (.func 113) #[] #[]]) (C E 1)).run DU w=.ok (.func (.func 112) #[] #[]) w:=λ_=>by kernel_rfl
   have a8:=HX.out night;have aP:=Dp h4 a8;have aU:=(HR.out.on a6.out).2 night (by omega);have HL:=Ay (iK (r night) wr aP);have HB:=Ay hb;have aA:=Ay (HP.out.on a6.out);have aQ:=Ay (HR.out.on a6.out);clear hb;go_wp2_with fail;refine HL.out.mono ?_;rintro e w2 ⟨A,cc,rfl,aC,zI⟩;have aR:=Ay aC;have aD:=Ay (a6.out.trans zI);have aK:=Ay (aA.out.on zI);have aL:=Ay (aQ.out.on zI);have aF:=Ay (aJ.out.trans zI)
   obtain⟨⟨a7,zj,zz⟩,aM,aN,hf2⟩:=aB.out w2 aF.out;have hl:=aY (r night);have zD:=zI.size;clear aC zI;go_wp2;go_loop [25] (λi=>∃k:Nat,k<=(wl (r night)).length/\i=C E k/\((wl (r night)).take k).find? (λh=>Gu c r night 1 h.toNat)=X) (λi=>(wl (r night)).length-(S i).toNat)
   case atStart=>exact⟨0,by omega,rfl,by simp⟩
   case round =>
    obtain⟨k,hk,rfl,hnone⟩:=hrel;have HN:=Ay hnone;clear hnone;by_cases zY:k<(wl (r night)).length
    .obtain⟨b,o,rfl,hb,hcell⟩:=aR.out.at_ zY;obtain⟨n,hn,aG,aH,aX⟩:=Kg a8 zY;rw[hn] at hcell;have HE:=Ay hn;clear hn;cases hq:Gu c r night 1 n with
     |true =>
      have HC:Hid (cq DU 112 #[.pointer (U ⟨cb,0,X⟩),.pointer (U ⟨br,0,X⟩),C E night,C E n] w2 λe w'=>e=.returned (.bool true)/\w2=w'):=Ay (by rw[<-hq];exact oB cb br n night r w2 aL.out aH (by omega) (Dp h4 (HX.out _)));have HF:=Ay (show breaks c r night 1=U ((n:Nat):Int) by have:=dp zY HN.out (by rw[HE.out];exact hq);rw[HE.out] at this;exact this);clear hq;go_wp2_with (go_at_call 112;refine HC.out.mono ?_;rintro e w' ⟨rfl,rfl⟩)
      obtain⟨s0,s1,s2⟩:=K4 a7 zj zz;refine V (v:=Gw (2,night,n)) (by simp[results,H,go_sem,Gw,s0,s1,s2]) rfl ⟨?_,?_⟩
      .exact AX G (AX Gw (by unfold Ej;skip;rw[HB.out 0 (by omega)];rw[HF.out]))
      .exact((aD.out.setCell (AA _) _).setCell (AA _) _).setCell (AA _) _
     |false =>
      have HC:Hid (cq DU 112 #[.pointer (U ⟨cb,0,X⟩),.pointer (U ⟨br,0,X⟩),C E night,C E n] w2 λe w'=>e=.returned (.bool bo)/\w2=w'):=Ay (by rw[<-hq];exact oB cb br n night r w2 aL.out aH (by omega) (Dp h4 (HX.out _)));have HF:=Ay (cJ zY HN.out (by rw[HE.out];exact hq));clear hq;go_wp2_with (go_at_call 112;refine HC.out.mono ?_;rintro e w' ⟨rfl,rfl⟩);go_round
      case rel=>exact⟨k+1,by omega,by go_num,HF.out⟩
      case measure=>simp[Proofs.intOf];omega
    .have HF:=Ay (show breaks c r night 1=X by have:=HN.out;rw[Bb (by omega)] at this;exact this);clear HN;go_wp2;go_roundw
     case rel=>exact⟨2,by omega,by go_num,λj hj=>by
      obtain h|rfl:=Bv (BM hj)
      .exact HB.out j h
      .exact HF.out,aF.out⟩
     case measure=>simp[Proofs.intOf]
  ·
   have aW:∀w,(cf 176 (.agg #[.func (.func 111) #[] #[],.func (.func 112) #[] #[],.func (.func 113) #[] #[]]) (C E 2)).run DU w=.ok (.func (.func 113) #[] #[]) w:=λ_=>by kernel_rfl
   have a8:=HX.out night;have aP:=Dp h4 a8;have aU:=(HR.out.on a6.out).2 night (by omega);have HL:=Ay (iK (r night) wr aP);have HB:=Ay hb;have aA:=Ay (HP.out.on a6.out);have aQ:=Ay (HR.out.on a6.out);clear hb;go_wp2_with fail;refine HL.out.mono ?_;rintro e w2 ⟨A,cc,rfl,aC,zI⟩;have aR:=Ay aC;have aD:=Ay (a6.out.trans zI);have aK:=Ay (aA.out.on zI);have aL:=Ay (aQ.out.on zI);have aF:=Ay (aJ.out.trans zI)
   obtain⟨⟨a7,zj,zz⟩,aM,aN,hf2⟩:=aB.out w2 aF.out;have hl:=aY (r night);have zD:=zI.size;clear aC zI;go_wp2;go_loop [25] (λi=>∃k:Nat,k<=(wl (r night)).length/\i=C E k/\((wl (r night)).take k).find? (λh=>Gu c r night 2 h.toNat)=X) (λi=>(wl (r night)).length-(S i).toNat)
   case atStart=>exact⟨0,by omega,rfl,by simp⟩
   case round =>
    obtain⟨k,hk,rfl,hnone⟩:=hrel;have HN:=Ay hnone;clear hnone;by_cases zY:k<(wl (r night)).length
    .obtain⟨b,o,rfl,hb,hcell⟩:=aR.out.at_ zY;obtain⟨n,hn,aG,aH,aX⟩:=Kg a8 zY;rw[hn] at hcell;have HE:=Ay hn;clear hn;cases hq:Gu c r night 2 n with
     |true =>
      have HC:Hid (cq DU 113 #[.pointer (U ⟨cb,0,X⟩),.pointer (U ⟨br,0,X⟩),C E night,C E n] w2 λe w'=>e=.returned (.bool true)/\w2=w'):=Ay (by rw[<-hq];exact oC cb br n night c r w2 aK.out aL.out aG aH (by omega) λi=>Dp h4 (HX.out i));have HF:=Ay (show breaks c r night 2=U ((n:Nat):Int) by have:=dp zY HN.out (by rw[HE.out];exact hq);rw[HE.out] at this;exact this);clear hq
      go_wp2_with (go_at_call 113;refine HC.out.mono ?_;rintro e w' ⟨rfl,rfl⟩);obtain⟨s0,s1,s2⟩:=K4 a7 zj zz;refine V (v:=Gw (3,night,n)) (by simp[results,H,go_sem,Gw,s0,s1,s2]) rfl ⟨?_,?_⟩
      .exact AX G (AX Gw (by unfold Ej;skip;rw[HB.out 0 (by omega)];rw[HB.out 1 (by omega)];rw[HF.out]))
      .exact((aD.out.setCell (AA _) _).setCell (AA _) _).setCell (AA _) _
     |false =>
      have HC:Hid (cq DU 113 #[.pointer (U ⟨cb,0,X⟩),.pointer (U ⟨br,0,X⟩),C E night,C E n] w2 λe w'=>e=.returned (.bool bo)/\w2=w'):=Ay (by rw[<-hq];exact oC cb br n night c r w2 aK.out aL.out aG aH (by omega) λi=>Dp h4 (HX.out i));have HF:=Ay (cJ zY HN.out (by rw[HE.out];exact hq));clear hq;go_wp2_with (go_at_call 113;refine HC.out.mono ?_;rintro e w' ⟨rfl,rfl⟩)
      go_round
      case rel=>exact⟨k+1,by omega,by go_num,HF.out⟩
      case measure=>simp[Proofs.intOf];omega
    .have HF:=Ay (show breaks c r night 2=X by have:=HN.out;rw[Bb (by omega)] at this;exact this);clear HN;go_wp2;go_roundw
     case rel=>exact⟨3,by omega,by go_num,λj hj=>by
      obtain h|rfl:=Bv (BM hj)
      .exact HB.out j h
      .exact HF.out,aF.out⟩
     case measure=>simp[Proofs.intOf]
  ·
   have a8:=HX.out night;have aU:=(HR.out.on a6.out).2 night (by omega);have HB:=Ay hb;have aA:=Ay (HP.out.on a6.out);obtain⟨⟨a7,zj,zz⟩,aM,aN,hf2⟩:=aB.out wr aJ.out;have zp:=aA.out.c0;obtain⟨nb,no,rfl,aZ,aI⟩:=aA.out.DW.at_ hi;have HD:=Ay (q8 cb c (r night) wr.drew (aA.out.on (Gr.refl wr).drew) h4 aO.E3 a8);have aS:=Ay (show Ej c r night=if c.E3 (r night)<c.need night then(4,(night:Int),-1) else(0,-1,-1) by unfold Ej;rw[HB.out 0 (by omega),HB.out 1 (by omega),HB.out 2 (by omega)])
   have aT:cb<wr.heap.size:=aA.out.lt;have hWlt:w.heap.size<wr.heap.size:=by have:=aJ.out.size;omega
   have b5:=Ay ((a6.out.drew));have aD:=Ay ((aJ.out.drew));clear hb a7 zj zz aM aN hf2;change wr.cell? ⟨nb,no+night,X⟩=U (C E (c.need night)) at aI;generalize c.need night=m at aI aS;generalize c.E3 (r night)=d at HD aS;by_cases b6:d<m
   .have HL:=Ay (show Ej c r night=(4,(night:Int),-1) by rw[aS.out,AF b6]);clear aS;go_wp2;go_region_with (first|(go_at_call 114;refine HD.out.mono ?_;rintro e w3 ⟨rfl,zH⟩;have q0:=(zH.cell (p:=⟨cb,0,X⟩) aT).trans zp;have q1:=(zH.cell (p:=⟨nb,no+night,X⟩) aZ).trans aI;have aV:=Ay (b5.out.trans zH);obtain⟨⟨a7,zj,zz⟩,aM,aN,hf2⟩:=aB.out w3 (aD.out.trans zH);clear zH))
    all_goals
     go_wp2;obtain⟨s0,s1,s2⟩:=K4 a7 zj zz;refine V (v:=Gw (4,night,-1)) (by simp[results,H,go_sem,Gw,s0,s1,s2]) rfl ⟨?_,?_⟩
     .exact AX G (AX Gw HL.out.symm)
     .exact((aV.out.setCell (AA _) _).setCell (AA _) _).setCell (AA _) _
   .have HL:=Ay (show Ej c r night=(0,-1,-1) by rw[aS.out,AD b6]);go_wp2;go_region_with (first|(go_at_call 114;refine HD.out.mono ?_;rintro e w3 ⟨rfl,zH⟩;have q0:=(zH.cell (p:=⟨cb,0,X⟩) aT).trans zp;have q1:=(zH.cell (p:=⟨nb,no+night,X⟩) aZ).trans aI;have aV:=Ay (b5.out.trans zH);obtain⟨⟨a7,zj,zz⟩,aM,aN,hf2⟩:=aB.out w3 (aD.out.trans zH);clear zH))
    all_goals
     go_wp2;obtain⟨s0,s1,s2⟩:=K4 a7 zj zz;refine V (v:=Gw (0,-1,-1)) (by simp[results,H,go_sem,Gw,s0,s1,s2]) rfl ⟨?_,?_⟩
     .exact AX G (AX Gw HL.out.symm)
     .exact((aV.out.setCell (AA _) _).setCell (AA _) _).setCell (AA _) _
structure KT (T:Nat->Prop)(w w':F):Prop where
 os:w'.os=w.os
 tape:w'.tape=w.tape
 output:w'.output=w.output
 drawn:w.drawn<=w'.drawn
 size:w.heap.size<=w'.heap.size
 block:∀b,b<w.heap.size->¬T b->w'.heap[b]?=w.heap[b]?
def KT.refl (T:Nat->Prop)(w:F):KT T w w:=⟨rfl,rfl,rfl,AA _,AA _,λ_ _ _=>rfl⟩
def KT.trans {T:Nat->Prop}{a b c:F}(h:KT T a b)(k:KT T b c):KT T a c :=
 ⟨k.os.trans h.os,k.tape.trans h.tape,k.output.trans h.output,AH h.drawn k.drawn,AH h.size k.size,λx hx hT=>(k.block x (AC hx h.size) hT).trans (h.block x hx hT)⟩
def KT.E4 {T:Nat->Prop}{w w':F}(h:Gr w w'):KT T w w':=⟨h.below.os,h.below.tape,h.below.output,h.drawn,h.size,λb hb _=>h.below.block b hb⟩
def KT.mono {T T':Nat->Prop}{w w':F}(h:KT T w w')(hT:∀b,T b->T' b):KT T' w w':=⟨h.os,h.tape,h.output,h.drawn,h.size,λb hb hn=>h.block b hb λt=>hn (hT b t)⟩
def KT.setCell {T:Nat->Prop}(w:F){p:bb}(hp:T p.block)(v:cE):KT T w (w.setCell p v) :=
 ⟨rfl,rfl,rfl,AA _,by simp[bq],λb _ hT=>AR w p v b λe=>hT (e▸hp)⟩
def KT.putObj {T:Nat->Prop}(w:F){l:Nat}(hl:T l)(o:Obj):KT T w (w.putObj l o) :=
 ⟨rfl,rfl,rfl,AA _,by simp[z],λb _ hT=>Z λe=>hT (e▸hl)⟩
def KT.cell {T:Nat->Prop}{w w':F}(h:KT T w w'){p:bb}(hp:p.block<w.heap.size)(hT:¬T p.block):w'.cell? p=w.cell? p:=AT (h.block _ hp hT)
def KT.frozen {T:Nat->Prop}{w w':F}(h:KT T w w'){p:bb}(hp:p.block<w.heap.size)(hT:¬T p.block):w'.frozen? p=w.frozen? p:=CE (h.block _ hp hT)
def IH (w:F)(K:Nat->Prop)(A:Option bb)(l:List Int):Prop :=
 l≠[]->∃b o,A=U ⟨b,o,X⟩/\K b/\∀i x,l[i]?=U x->w.cell? ⟨b,o+i,X⟩=U (C E x)
def Mm (w:F)(K:Nat->Prop)(b o:Nat)(h:EG):Prop :=
 w.cell? ⟨b,o,X⟩=U (C E h.heads)/\w.cell? ⟨b,o+1,X⟩=U (C E h.E3)/\w.cell? ⟨b,o+2,X⟩=U (C E h.most) /\
  ∃A c,w.cell? ⟨b,o+3,X⟩=U (bD A h.off.length c)/\IH w K A h.off
def Gl (w:F)(K:Nat->Prop)(A:Option bb)(l:List EG):Prop :=
 l≠[]->∃b o,A=U ⟨b,o,X⟩/\K b/\∀i h,l[i]?=U h->Mm w K b (o+i*4) h
structure FZ (w:F)(K:Nat->Prop)(cb:Nat)(c:D9)(sets:List Nat)(nA hA:Option bb)(nc hc sb sc:Nat):Prop where
 lt:∀b,K b->b<w.heap.size
 kc:K cb
 c0:w.cell? ⟨cb,0,X⟩=U (bD nA c.DW.length nc)
 c1:w.cell? ⟨cb,1,X⟩=U (bD hA c.DV.length hc)
 c2:w.cell? ⟨cb,2,X⟩=U (.slice (U ⟨sb,0,X⟩) sets.length sc)
 ks:K sb
 sets:∀(i x:Nat),sets[i]?=U x->w.cell? ⟨sb,i,X⟩=U (.int .u8 (x:Int))
 DW:IH w K nA c.DW
 Fx:Gl w K hA c.DV
section
variable {w w':F} {K:Nat->Prop} {B:Nat} {A:Option bb}
def IH.ri {l:List Int}(h:IH w K A l)(hK:∀b,K b->b<B):RI w B A l:=λhn=>by
 obtain⟨b,o,e,hb,hc⟩:=h hn;exact⟨b,o,e,hK b hb,hc⟩
def Mm.hat {b o:Nat}{h:EG}(ha:Mm w K b o h)(hK:∀b,K b->b<B):Ml w B b o h:=by
 obtain⟨h1,h2,h3,A,c,h4,h5⟩:=ha;exact⟨h1,h2,h3,A,c,h4,h5.ri hK⟩
def Gl.hs {l:List EG}(h:Gl w K A l)(hK:∀b,K b->b<B):EN w B A l:=λhn=>by
 obtain⟨b,o,e,hb,hc⟩:=h hn;exact⟨b,o,e,hK b hb,λi h hi=>(hc i h hi).hat hK⟩
def IH.keep {l:List Int}(h:IH w K A l)(hk:∀b o,K b->w'.cell? ⟨b,o,X⟩=w.cell? ⟨b,o,X⟩):IH w' K A l:=λhn=>by
 obtain⟨b,o,e,hb,hc⟩:=h hn;exact⟨b,o,e,hb,λi x hx=>(hk _ _ hb).trans (hc i x hx)⟩
def Mm.keep {b o:Nat}{h:EG}(ha:Mm w K b o h)(hb:K b)(hk:∀b o,K b->w'.cell? ⟨b,o,X⟩=w.cell? ⟨b,o,X⟩):Mm w' K b o h:=by
 obtain⟨h1,h2,h3,A,c,h4,h5⟩:=ha;exact⟨(hk _ _ hb).trans h1,(hk _ _ hb).trans h2,(hk _ _ hb).trans h3,A,c,(hk _ _ hb).trans h4,h5.keep hk⟩
def Gl.keep {l:List EG}(h:Gl w K A l)(hk:∀b o,K b->w'.cell? ⟨b,o,X⟩=w.cell? ⟨b,o,X⟩):Gl w' K A l:=λhn=>by
 obtain⟨b,o,e,hb,hc⟩:=h hn;exact⟨b,o,e,hb,λi h hi=>(hc i h hi).keep hb hk⟩
variable {cb:Nat} {c:D9} {sets:List Nat} {nA hA:Option bb} {nc hc sb sc:Nat}
def FZ.NT (h:FZ w K cb c sets nA hA nc hc sb sc):FE w w.heap.size cb c nA hA nc hc:=⟨h.lt _ h.kc,h.c0,h.c1,h.DW.ri h.lt,h.Fx.hs h.lt⟩
def FZ.keep (h:FZ w K cb c sets nA hA nc hc sb sc)(hz:w.heap.size<=w'.heap.size)(hk:∀b o,K b->w'.cell? ⟨b,o,X⟩=w.cell? ⟨b,o,X⟩):FZ w' K cb c sets nA hA nc hc sb sc :=
 ⟨λb hb=>AC (h.lt b hb) hz,h.kc,(hk _ _ h.kc).trans h.c0,(hk _ _ h.kc).trans h.c1,(hk _ _ h.kc).trans h.c2,h.ks,λi x hx=>(hk _ _ h.ks).trans (h.sets i x hx),h.DW.keep hk,h.Fx.keep hk⟩
end
abbrev EH:=Nat->Nat
def upd (r:EH)(n x:Nat):EH:=λi=>if i=n then x else r i
def Fl (r:EH):Value:=.agg #[.int .u8 (r 0),.int .u8 (r 1),.int .u8 (r 2),.int .u8 (r 3),.int .u8 (r 4)]
def Eh (c:D9)(sets:List Nat):Nat->EH->Nat->List EH
 |0,r,_=>[r]
 |k+1,r,n=>sets.flatMap λx=>if(Ej c (upd r n x) n).1=0 then Eh c sets k (upd r n x) (n+1) else[]
structure Mi (T K:Nat->Prop)(cb:Nat)(c:D9)(sets:List Nat)(nA hA:Option bb)(nc hc sb sc bc by_ br bw l:Nat)(r:EH)(w:F):Prop where
 F4:FZ w K cb c sets nA hA nc hc sb sc
 kt:∀b,K b->¬T b
 xc:w.cell? ⟨bc,0,X⟩=U (.pointer (U ⟨cb,0,X⟩))/\¬T bc/\bc<w.heap.size
 xy:w.cell? ⟨by_,0,X⟩=U (.func (.yield l) #[] #[])/\¬T by_/\by_<w.heap.size
 xw:w.cell? ⟨bw,0,X⟩=U (.func (.func 78) #[] #[.pointer (U ⟨bc,0,X⟩),.pointer (U ⟨by_,0,X⟩),.pointer (U ⟨br,0,X⟩),.pointer (U ⟨bw,0,X⟩)])/\¬T bw/\bw<w.heap.size
 xr:(∀i,i<5->w.cell? ⟨br,i,X⟩=U (.int .u8 (r i))/\w.frozen? ⟨br,i,X⟩=bo)/\¬T br/\br<w.heap.size
 ne:bc≠br/\by_≠br/\bw≠br/\∀b,K b->b≠br
 rs:∀i,c.has (r i)
section
variable {T K:Nat->Prop} {cb:Nat} {c:D9} {sets:List Nat} {nA hA:Option bb} {nc hc sb sc bc by_ br bw l:Nat} {r:EH} {w w':F}
def Mi.on (h:Mi T K cb c sets nA hA nc hc sb sc bc by_ br bw l r w)(k:KT T w w'):Mi T K cb c sets nA hA nc hc sb sc bc by_ br bw l r w':=by
 refine⟨h.F4.keep k.size λb o hb=>k.cell (p:=⟨b,o,X⟩) (h.F4.lt b hb) (h.kt b hb),h.kt,⟨(k.cell h.xc.2.2 h.xc.2.1).trans h.xc.1,h.xc.2.1,AC h.xc.2.2 k.size⟩,⟨(k.cell h.xy.2.2 h.xy.2.1).trans h.xy.1,h.xy.2.1,AC h.xy.2.2 k.size⟩,
  ⟨(k.cell h.xw.2.2 h.xw.2.1).trans h.xw.1,h.xw.2.1,AC h.xw.2.2 k.size⟩,⟨λi hi=>?_,h.xr.2.1,AC h.xr.2.2 k.size⟩,h.ne,h.rs⟩
 obtain⟨h1,h2⟩:=h.xr.1 i hi;exact⟨(k.cell (p:=⟨br,i,X⟩) h.xr.2.2 h.xr.2.1).trans h1,(k.frozen (p:=⟨br,i,X⟩) h.xr.2.2 h.xr.2.1).trans h2⟩
def Mi.set (h:Mi T K cb c sets nA hA nc hc sb sc bc by_ br bw l r w){n x:Nat}(hn:n<5)(hx:c.has x):Mi T K cb c sets nA hA nc hc sb sc bc by_ br bw l (upd r n x) (w.setCell ⟨br,n,X⟩ (.int .u8 x)):=by
 have other:∀b o,b≠br->(w.setCell ⟨br,n,X⟩ (.int .u8 x)).cell? ⟨b,o,X⟩=w.cell? ⟨b,o,X⟩:=λb o hb=>AL _ _ _ _ (by intro e;simp only[Addr.mk.injEq] at e;exact hb e.1.symm);have sz:(w.setCell ⟨br,n,X⟩ (.int .u8 x)).heap.size=w.heap.size:=by simp[bq]
 refine⟨h.F4.keep (by rw[sz];exact AA _) λb o hb=>other b o (h.ne.2.2.2 b hb),h.kt,⟨(other _ _ h.ne.1).trans h.xc.1,h.xc.2.1,by rw[sz];exact h.xc.2.2⟩,⟨(other _ _ h.ne.2.1).trans h.xy.1,h.xy.2.1,by rw[sz];exact h.xy.2.2⟩,
  ⟨(other _ _ h.ne.2.2.1).trans h.xw.1,h.xw.2.1,by rw[sz];exact h.xw.2.2⟩,⟨λi hi=>?_,h.xr.2.1,by rw[sz];exact h.xr.2.2⟩,h.ne,λi=>?_⟩
 .obtain⟨h1,h2⟩:=h.xr.1 i hi;refine⟨?_,(BI _ _ _ _).trans h2⟩;unfold upd;by_cases e:i=n
  .subst e;rw[AF rfl];exact AQ _ _ _ h1
  .rw[AD e,AL _ _ _ _ (by intro e';simp only[Addr.mk.injEq] at e';omega)];exact h1
 .unfold upd;split
  .exact hx
  .exact h.rs i
def Mi.ros (h:Mi T K cb c sets nA hA nc hc sb sc bc by_ br bw l r w):GU w w.heap.size br r:=⟨h.xr.2.2,λi hi=>(h.xr.1 i hi).1⟩
end
open Go.Shelf
attribute [local go_sem] Oper.semAt_some
def PC (T:Nat->Prop)(J Jx:List EH->F->Prop)(pre:List EH)(ρ:EH)(W:F)(e:Ending)(W':F):Prop :=
 (e=.returned (.bool true)/\J (pre++[ρ]) W'/\KT T W W')\/(e=.returned (.bool bo)/\Jx (pre++[ρ]) W'/\KT T W W')
def ra (T':Nat->Prop)(St:F->Prop)(J Jx:List EH->F->Prop)(pre L:List EH)(W:F)(e:Ending)(W':F):Prop :=
 (e=.returned (.bool true)/\J (pre++L) W'/\St W'/\KT T' W W')\/(e=.returned (.bool bo)/\(∃q,q <+: L/\Jx (pre++q) W')/\KT T' W W')
section
variable {T K:Nat->Prop} {cb:Nat} {c:D9} {sets:List Nat} {nA hA:Option bb} {nc hc sb sc bc by_ br bw l:Nat} {J Jx:List EH->F->Prop} {W0:F} {Lt:List EH}
def re (a6:c.Ok){r:EH}{pre:List EH}{W:F}(hs:Mi T K cb c sets nA hA nc hc sb sc bc by_ br bw l r W)(hk:KT (λb=>T b\/b=br) W0 W)(hj:J pre W)(hpl:pre++[r] <+: Lt)
  (hY:∀pre ρ W,pre++[ρ] <+: Lt->KT (λb=>T b\/b=br) W0 W->J pre W->YieldAt N 0 DU l #[Fl ρ] W (PC T J Jx pre ρ W)) :
  CallsIn N 0 DU 78 #[C E c.DW.length,.pointer (U ⟨bc,0,X⟩),.pointer (U ⟨by_,0,X⟩),.pointer (U ⟨br,0,X⟩),.pointer (U ⟨bw,0,X⟩)] W
   (ra (λb=>T b\/b=br) (Mi T K cb c sets nA hA nc hc sb sc bc by_ br bw l r) J Jx pre [r] W):=by
 have HS:=Ay hs;have a7:=a6.n5;obtain⟨fn,tmps,assign,body,hy,hR⟩:=hY pre r W hpl hk hj;have HR:=Ay hR;have a8:=hs.xc.1;have aA:=hs.xy.1;have zp:=hs.F4.c0;have aB:=(hs.xr.1 0 (by omega)).1;have zj:=(hs.xr.1 1 (by omega)).1;have zz:=(hs.xr.1 2 (by omega)).1;have hr3:=(hs.xr.1 3 (by omega)).1;have hr4:=(hs.xr.1 4 (by omega)).1;unfold Fl at hy;clear hs hk hj hY hR hpl;refine bs Sq.func78 rfl trivial ?_ rfl
 simp only[cK,AP,AM,AS,Nat.reduceAdd,Nat.reduceSub,BO,BP,B1,BT,Cb,BX]
 gi_wp2
 refine⟨rfl,HR.out.mono ?_⟩;rintro e W' (⟨rfl,hj,hk⟩|⟨rfl,hj,hk⟩)
 .have HJ:=Ay hj;have HK:=Ay hk
  gi_wp2
  go_ret;exact .inl ⟨rfl,HJ.out,HS.out.on HK.out,HK.out.mono λb hb=>.inl hb⟩
 .have HJ:=Ay hj;have HK:=Ay hk
  gi_wp2
  go_ret;exact .inr ⟨rfl,⟨[r],List.prefix_refl _,HJ.out⟩,HK.out.mono λb hb=>.inl hb⟩
def vE (k1 k2 k3:Int)(w:F):Sem.run DU (Instr.field 124 (.agg #[C E k1,C E k2,C E k3]) 0) w=.ok (C E k1) w:=by kernel_rfl
def gives (c:D9)(sets:List Nat)(k:Nat)(r:EH)(n x:Nat):List EH:=if(Ej c (upd r n x) n).1=0 then Eh c sets k (upd r n x) (n+1) else[]
def jD (c:D9)(sets:List Nat)(k:Nat)(r:EH)(n j:Nat)(hj:j<sets.length):(sets.take (j+1)).flatMap (gives c sets k r n)=(sets.take j).flatMap (gives c sets k r n)++gives c sets k r n (sets[j]?.getD 0):=by
 rw[bz 0 sets j hj,CD];simp
def rf (c:D9)(sets:List Nat)(k:Nat)(r:EH)(n j:Nat)(hj:j<sets.length){q:List EH}(h:q <+: gives c sets k r n (sets[j]?.getD 0)):(sets.take j).flatMap (gives c sets k r n)++q <+: sets.flatMap (gives c sets k r n):=by
 have e:sets.flatMap (gives c sets k r n)=(sets.take (j+1)).flatMap (gives c sets k r n)++(sets.drop (j+1)).flatMap (gives c sets k r n):=by
  rw[<-CD,List.take_append_drop]
 rw[e,jD _ _ _ _ _ _ hj];obtain⟨s,hs⟩:=h;exact⟨s++(sets.drop (j+1)).flatMap (gives c sets k r n),by rw[<-hs];simp[Ce]⟩
def oH (r:EH)(n x y:Nat):upd (upd r n x) n y=upd r n y:=by
 funext i;unfold upd;split<;>rfl
def lX (r:EH)(n:Nat):upd r n (r n)=r:=by
 funext i;unfold upd;split
 .rename_i h;rw[h]
 .rfl
def xL (aI:c.Ok)(aF:∀x∈sets,c.has x)(b6:sets.length<=16)(aP:∀pre w w',J pre w->(∀b,T b->w'.heap[b]?=w.heap[b]?)->J pre w')
  (aJ:∀pre w,J pre w->∀b,T b->b<w.heap.size) (aK:¬T br)
  (hY:∀pre ρ W,pre++[ρ] <+: Lt->KT (λb=>T b\/b=br) W0 W->J pre W->YieldAt N 0 DU l #[Fl ρ] W (PC T J Jx pre ρ W)) :
  ∀(k n:Nat) (r:EH) (pre:List EH) (W:F),n+k=c.DW.length->Mi T K cb c sets nA hA nc hc sb sc bc by_ br bw l r W->KT (λb=>T b\/b=br) W0 W->J pre W->(∀i,n<=i->r i=0)->pre++Eh c sets k r n <+: Lt ->
  CallsIn N 0 DU 78 #[C E n,.pointer (U ⟨bc,0,X⟩),.pointer (U ⟨by_,0,X⟩),.pointer (U ⟨br,0,X⟩),.pointer (U ⟨bw,0,X⟩)] W
   (ra (λb=>T b\/b=br) (Mi T K cb c sets nA hA nc hc sb sc bc by_ br bw l r) J Jx pre (Eh c sets k r n) W):=by
 intro k
 induction k with
 |zero =>
  intro n r pre W hn hs hk hj hz hpl;obtain rfl:n=c.DW.length:=by omega
  exact re aI hs hk hj hpl hY
 |succ k ih =>
  intro n r pre W hn hs hk hj hz hpl;have aV:=Ay hpl;have HS:=Ay hs;have HK:=Ay hk;have HJ:=Ay hj;have HZ:=Ay hz;have aW:=Ay ih;have HY:=Ay hY;have aG:=Ay aP;have aQ:=Ay aJ;have HST:=Ay aF;have b7:=aI.n5;have aX:n<c.DW.length:=by omega
  have b8:=hs.xc.1;have zp:=hs.F4.c0;have zt:=hs.F4.c2;have hneq:((n:Int)==(c.DW.length:Int))=false:=by simpa using(by omega:¬(n:Int)=(c.DW.length:Int))
  have HW:Hid (Eh c sets (k+1) r n=sets.flatMap (gives c sets k r n)):=Ay rfl;clear hs hk hj hz ih hY aP aJ aF hpl;refine bs Sq.func78 rfl trivial ?_ rfl;simp only[cK,AP,AM,AS,Nat.reduceAdd,Nat.reduceSub,BO,BP,B1,BT,Cb,BX]
  gi_wp2
  gi_loopw [25] (λi wr=>∃(j x:Nat),j<=sets.length/\i=C E j/\c.has x/\Mi T K cb c sets nA hA nc hc sb sc bc by_ br bw l (upd r n x) wr/\J (pre++(sets.take j).flatMap (gives c sets k r n)) wr/\KT (λb=>T b\/b=br) W wr) (λi _=>sets.length-(S i).toNat)
  case atStart =>
   exact⟨0,r n,by omega,rfl,HS.out.rs n,by rw[lX];exact HS.out,by simpa using HJ.out,KT.refl _ _⟩
  case round =>
   obtain⟨j,x,hj,rfl,hx,hs,aR,hk⟩:=hrel;have a7:=Ay hs;have aS:=Ay aR;have aT:=Ay hk;have hxx:=Ay hx;clear hs aR hk hx;by_cases zY:j<sets.length
   .obtain⟨y,hy⟩:∃y,sets[j]?=U y:=⟨sets[j],AB zY⟩;have aL:c.has y:=HST.out y (B5 hy);have hcell:=a7.out.F4.sets j y hy;obtain⟨aY,hfn⟩:=a7.out.xr.1 n (by omega);have hxc1:=a7.out.xc.1;have a6:Hid (Mi T K cb c sets nA hA nc hc sb sc bc by_ br bw l (upd r n y) (wr.setCell ⟨br,n,X⟩ (.int .u8 y))):=Ay (by have:=a7.out.set (n:=n) (x:=y) (by omega) aL;rwa [oH] at this);have hxc2:=a6.out.xc.1
    have aU:=Ay (jD c sets k r n j zY);have HGP:=Ay (λq=>rf c sets k r n j zY (q:=q));have hyD:sets[j]?.getD 0=y:=by rw[hy];rfl
    have HD:=Ay hyD;have a8:Hid (KT (λb=>T b\/b=br) W (wr.setCell ⟨br,n,X⟩ (.int .u8 y))):=Ay (aT.out.trans (KT.setCell wr (p:=⟨br,n,X⟩) (.inr rfl) _));have aA:Hid (J (pre++(sets.take j).flatMap (gives c sets k r n)) (wr.setCell ⟨br,n,X⟩ (.int .u8 y))):=Ay (aG.out _ _ _ aS.out λb hb=>AR _ _ _ _ λe=>aK (by have e':b=br:=e;rw[<-e'];exact hb));have aB:=oG cb br n c (upd r n y) (wr.setCell ⟨br,n,X⟩ (.int .u8 y)) a6.out.F4.NT a6.out.ros aI aX a6.out.rs
    unfold Gw at aB;have aM:Hid (gives c sets k r n y=if(Ej c (upd r n y) n).1=0 then Eh c sets k (upd r n y) (n+1) else[]):=Ay rfl;generalize Ej c (upd r n y) n=lp at aB aM;obtain⟨k1,k2,k3⟩:=lp;have HL:=Ay (callsIn_wide (n:=0).2 aB);have hfd:=vE k1 k2 k3;clear aB hy hyD;by_cases h0:k1=0
    .have aC:=Ay (show gives c sets k r n y=Eh c sets k (upd r n y) (n+1) by rw[aM.out,AF h0]);subst h0
     gi_wp2_with fail
     refine⟨trivial,rfl,HL.out.mono ?_⟩;rintro e w2 ⟨rfl,zI⟩;have aD:=Ay (KT.E4 (T:=λb=>T b\/b=br) zI);have aH:=Ay (a6.out.on (KT.E4 (T:=T) zI));have aN:=Ay (aG.out _ _ w2 aA.out λb hb=>zI.below.block b (aQ.out _ _ aA.out b hb));have b9:=aH.out.xw.1
     have HC:=Ay (aW.out (n+1) (upd r n y) _ w2 (by omega) aH.out (HK.out.trans (a8.out.trans aD.out)) aN.out (λi hi=>by unfold upd;rw[AD (by omega)];exact HZ.out i (by omega)) (by
      have h1:=HGP.out (Eh c sets k (upd r n y) (n+1)) (by rw[HD.out,aC.out];exact List.prefix_refl _);rw[<-HW.out] at h1;rw[Ce]
      exact((List.prefix_append_right_inj pre).2 h1).trans aV.out))
     have bA:IntKind.i64.wrap ((n:Int)+1)=(n:Int)+1:=by simp[IntKind.wrap,IntKind.min,IntKind.max,IntKind.signed,IntKind.bits];omega
     clear zI
     gi_wp2_with fail
     refine⟨trivial,rfl,HC.out.mono ?_⟩;rintro e w3 (⟨rfl,aZ,hs3,zy⟩|⟨rfl,b5,zy⟩)
     .have HJ4:=Ay aZ;have HS4:=Ay hs3;have aO:=Ay (a8.out.trans (aD.out.trans zy))
      gi_wp2
      go_roundw
      case rel =>
       exact⟨j+1,y,by omega,by go_num,aL,HS4.out,by rw[aU.out,HD.out,aC.out,<-Ce];exact HJ4.out,aO.out⟩
      case measure=>simp[Proofs.intOf];omega
     .have HQ:=Ay b5;have aO:=Ay (a8.out.trans (aD.out.trans zy))
      gi_wp2
      go_ret;refine .inr ⟨rfl,?_,aO.out⟩;obtain⟨q,q1,q2⟩:=HQ.out;refine⟨(sets.take j).flatMap (gives c sets k r n)++q,?_,by rw[<-Ce];exact q2⟩;rw[HW.out];exact HGP.out q (by rw[HD.out,aC.out];exact q1)
    .have aC:=Ay (show gives c sets k r n y=[] by rw[aM.out,AD h0])
     gi_wp2_with fail
     refine⟨trivial,rfl,HL.out.mono ?_⟩;rintro e w2 ⟨rfl,zI⟩;have aD:=Ay (KT.E4 (T:=λb=>T b\/b=br) zI);have aH:=Ay (a6.out.on (KT.E4 (T:=T) zI));have aN:=Ay (aG.out _ _ w2 aA.out λb hb=>zI.below.block b (aQ.out _ _ aA.out b hb))
     gi_wp2
     refine⟨λ_ h=>(by cases h),?_⟩
     gi_wp2
     go_roundw
     case rel=>exact⟨j+1,y,by omega,by go_num,aL,aH.out,by rw[aU.out,HD.out,aC.out,B6];exact aN.out,a8.out.trans aD.out⟩
     case measure=>simp[Proofs.intOf];omega
   .obtain⟨aY,hfn⟩:=a7.out.xr.1 n (by omega);have h0:c.has 0:=Nat.two_pow_pos _
    have a6:Hid (Mi T K cb c sets nA hA nc hc sb sc bc by_ br bw l r (wr.setCell ⟨br,n,X⟩ (.int .u8 0))):=Ay (by
     have:=a7.out.set (n:=n) (x:=0) (by omega) h0;rw[oH] at this;have e:upd r n 0=r:=by have:=lX r n;rwa [HZ.out n (AA _)] at this
     rwa [e] at this)
    have a8:Hid (KT (λb=>T b\/b=br) W (wr.setCell ⟨br,n,X⟩ (.int .u8 0))):=Ay (aT.out.trans (KT.setCell wr (p:=⟨br,n,X⟩) (.inr rfl) _));have aA:Hid (J (pre++Eh c sets (k+1) r n) (wr.setCell ⟨br,n,X⟩ (.int .u8 0))):=Ay (aG.out _ _ _ (by have:=aS.out;rwa [Bb (by omega),<-HW.out] at this) λb hb=>AR _ _ _ _ λe=>aK (by have e':b=br:=e;rw[<-e'];exact hb))
    gi_wp2
    go_ret;exact .inl ⟨rfl,aA.out,a6.out,a8.out⟩
end
attribute [local go_sem] Oper.semAt_some
def lY (cb n:Nat)(r:EH)(w:F):cq DU 39 #[.pointer (U ⟨cb,0,X⟩),Fl r,C E n] w λe w' =>
  e=.returned (.func (.func 77) #[] #[.pointer (U ⟨w.heap.size,0,X⟩),.pointer (U ⟨w.heap.size+1,0,X⟩),.pointer (U ⟨w.heap.size+2,0,X⟩)]) /\
   w'=((w.alloc (ak #[.pointer (U ⟨cb,0,X⟩)] 69)).alloc (ak #[.int .u8 (r 0),.int .u8 (r 1),.int .u8 (r 2),.int .u8 (r 3),.int .u8 (r 4)] 72)).alloc (ak #[C E n] 3):=by
 unfold Fl;go_enter Sq.func39,Tryz.ntmps39;go_wp2;go_ret;exact⟨rfl,rfl⟩
section
variable {T K:Nat->Prop} {cb:Nat} {c:D9} {sets:List Nat} {nA hA:Option bb} {nc hc sb sc bc br bn l:Nat} {J Jx:List EH->F->Prop} {W0:F}
structure Mn (T K:Nat->Prop)(cb:Nat)(c:D9)(sets:List Nat)(nA hA:Option bb)(nc hc sb sc bc br bn:Nat)(r:EH)(n:Nat)(w:F):Prop where
 F4:FZ w K cb c sets nA hA nc hc sb sc
 kt:∀b,K b->¬T b
 xc:w.cell? ⟨bc,0,X⟩=U (.pointer (U ⟨cb,0,X⟩))/\¬T bc/\bc<w.heap.size
 xr:(∀i,i<5->w.cell? ⟨br,i,X⟩=U (.int .u8 (r i))/\w.frozen? ⟨br,i,X⟩=bo)/\¬T br/\br<w.heap.size
 xn:w.cell? ⟨bn,0,X⟩=U (C E n)/\bn<w.heap.size
 ne:bc≠br/\∀b,K b->b≠br
 rs:∀i,c.has (r i)
def vi (aF:c.Ok)(aA:∀x∈sets,c.has x)(aG:sets.length<=16)(aB:∀pre w w',J pre w->(∀b,T b->w'.heap[b]?=w.heap[b]?)->J pre w')
  (a6:∀pre w,J pre w->∀b,T b->b<w.heap.size)
  {k n:Nat} {r:EH} {W:F} (hY:∀pre ρ W,pre++[ρ] <+: Eh c sets k r n->KT (λb=>T b\/b=br) W0 W->J pre W->YieldAt N 0 DU l #[Fl ρ] W (PC T J Jx pre ρ W))
  (hn:n+k=c.DW.length) (hs:Mn T K cb c sets nA hA nc hc sb sc bc br bn r n W) (hk:KT (λb=>T b\/b=br) W0 W) (hj:J [] W) (hz:∀i,n<=i->r i=0) :
  CallsIn N 0 DU 77 #[.func (.yield l) #[] #[],.pointer (U ⟨bc,0,X⟩),.pointer (U ⟨br,0,X⟩),.pointer (U ⟨bn,0,X⟩)] W
   λe W'=>e=.returned (.tuple #[])/\KT (λb=>T b\/b=br) W W'/\(J (Eh c sets k r n) W'\/∃q,q <+: Eh c sets k r n/\Jx q W'):=by
 obtain⟨W1,zu⟩:∃W1:F,W1=(W.alloc (ak #[.func (.yield l) #[] #[]] 141)).alloc (ak #[.func (.func 78) #[] #[.pointer (U ⟨bc,0,X⟩),.pointer (U ⟨W.heap.size,0,X⟩),.pointer (U ⟨br,0,X⟩),.pointer (U ⟨W.heap.size+1,0,X⟩)]] 142):=⟨_,rfl⟩;have g1:Gr W W1:=by rw[zu];exact((Gr.refl W).alloc _).alloc _
 have a7:=a6 _ _ hj;have zE:W1.heap.size=W.heap.size+2:=by rw[zu];simp
 have aH:Hid (Mi T K cb c sets nA hA nc hc sb sc bc W.heap.size br (W.heap.size+1) l r W1):=Ay (by
  have k1:KT T W W1:=KT.E4 g1
  refine⟨hs.F4.keep k1.size λb o hb=>k1.cell (p:=⟨b,o,X⟩) (hs.F4.lt b hb) (hs.kt b hb),hs.kt,⟨(k1.cell hs.xc.2.2 hs.xc.2.1).trans hs.xc.1,hs.xc.2.1,by have:=hs.xc.2.2;omega⟩,⟨?_,λh=>by have:=a7 _ h;omega,by omega⟩,⟨?_,λh=>by have:=a7 _ h;omega,by omega⟩,
   ⟨λi hi=>⟨(k1.cell (p:=⟨br,i,X⟩) hs.xr.2.2 hs.xr.2.1).trans (hs.xr.1 i hi).1,(k1.frozen (p:=⟨br,i,X⟩) hs.xr.2.2 hs.xr.2.1).trans (hs.xr.1 i hi).2⟩,hs.xr.2.1,by have:=hs.xr.2.2;omega⟩,⟨hs.ne.1,?_,?_,hs.ne.2⟩,hs.rs⟩
  .rw[zu,AW _ _ _ (by simp),AE _ _ _ _ rfl];rfl
  .rw[zu,AE _ _ _ _ (by simp)];rfl
  .have:=hs.xr.2.2;omega
  .have:=hs.xr.2.2;omega)
 have aI:Hid (J [] W1):=Ay (aB _ _ _ hj λb hb=>g1.below.block b (a7 b hb));have aC:=Ay (xL (by_:=W.heap.size) (bw:=W.heap.size+1) aF aA aG aB a6 hs.xr.2.1 hY k n r [] W1 hn aH.out (hk.trans (KT.E4 g1)) aI.out hz (by simp));have aM:=hs.xn.1;have hbn:=hs.xn.2;have aD:=Ay g1;have aN:∀(fn:Fn) (first cap:Array cE) (w:F),(Instr.makeFunc fn first cap).run DU w=.ok (.func fn first cap) w:=λ_ _ _ _=>rfl
 rw[zu] at aC;refine bs Sq.func77 rfl trivial ?_ rfl;simp only[Tryz.ntmps77,AP,AM,AS,Nat.reduceAdd,Nat.reduceSub,BO,BP,B1,BT,Cb,BX]
 gi_wp2_with fail
 refine⟨trivial,rfl,aC.out.mono ?_⟩;rw[<-zu];rintro e w3 (⟨rfl,aJ,_,zy⟩|⟨rfl,aK,zy⟩)
 .have aL:=Ay aJ;have a8:=Ay ((KT.E4 aD.out).trans zy)
  gi_wp2
  go_end0;exact⟨rfl,a8.out,.inl (by simpa using aL.out)⟩
 .have HQ3:=Ay aK;have a8:=Ay ((KT.E4 aD.out).trans zy)
  gi_wp2
  go_end0;refine⟨rfl,a8.out,.inr ?_⟩;obtain⟨q,h1,h2⟩:=HQ3.out;exact⟨q,h1,by simpa using h2⟩
end
def NU (T0:Nat->Prop)(I:List EH->F->Prop)(Ix:bW->List EH->F->Prop)(xs:List EH)(W:F):Exit->Act->F->Prop
 |.normal,_,W'=>KT T0 W W'/\I xs W'
 |.ret,_,W'=>KT T0 W W'/\Ix .ret xs W'
 |.exit id,_,W'=>KT T0 W W'/\Ix (.exit id) xs W'
 |.goto t,_,W'=>KT T0 W W'/\Ix (.goto t) xs W'
 |.panic _,_,_=>False
 |.outgrown,_,_=>False
def _root_.Go.Sq.KT.low {T T':Nat->Prop}{w w':F}(h:KT T w w')(hT:∀b,b<w.heap.size->T b->T' b):KT T' w w':=⟨h.os,h.tape,h.output,h.drawn,h.size,λb hb hn=>h.block b hb λt=>hn (hT b hb t)⟩
def dX {fn:Func}{tmps:Array cE}{R:Ending->F->Prop}{D:Nat}{W:F}{v:cE}(hd:W.heap[D]?=U (.deferred (U [])))(hr:(results fn tmps).run DU (W.putObj D (.deferred X))=.ok v (W.putObj D (.deferred X)))(hR:R (.returned v) (W.putObj D (.deferred X))) :
  LeavesInM N 0 DU fn tmps R [{ target:=.collected D,args:=#[] }] .returning W:=⟨by simp,.inl ⟨D,_,rfl,run_takeDeferred hd,v,hr,hR⟩⟩
def cC {W:F}{D:Nat}{o:Obj}{p:bb}(h:p.block≠D):(W.putObj D o).cell? p=W.cell? p:=AT (Z h)
def one_cell {W:F}{b:Nat}{v:cE}{t:TypeId}(h:W.heap[b]?=U (ak #[v] t (0,0))):W.cell? ⟨b,0,X⟩=U v/\W.frozen? ⟨b,0,X⟩=bo/\b<W.heap.size:=by
 refine⟨?_,?_,(Az.1 h).1⟩
 .unfold World.cell?;simp only[h];rfl
 .unfold World.frozen?;simp only[h];rfl
def one_set {W:F}{b:Nat}{v u:cE}{t:TypeId}(h:W.heap[b]?=U (ak #[v] t (0,0))):(W.setCell ⟨b,0,X⟩ u).heap[b]?=U (ak #[u] t (0,0)):=by
 unfold bq;simp only[BA,if_true,h]
 rfl
def _root_.Go.Sq.KT.gr {T:Nat->Prop}{w w1 W:F}(h:Gr w w1)(hk:KT T w1 W)(hT:∀b,T b->w.heap.size<=b):Gr w W :=
 ⟨⟨hk.os.trans h.below.os,hk.tape.trans h.below.tape,hk.output.trans h.below.output,AH h.size hk.size,λb hb=>(hk.block b (AC hb h.size) λt=>by have:=hT b t;omega).trans (h.below.block b hb)⟩,AH h.drawn hk.drawn⟩
def _root_.Go.Sq.Gr.putObj {w W:F}(h:Gr w W){D:Nat}(hD:w.heap.size<=D)(o:Obj):Gr w (W.putObj D o) :=
 ⟨⟨h.below.os,h.below.tape,h.below.output,by simpa [z] using h.size,λb hb=>(Z (by omega)).trans (h.below.block b hb)⟩,h.drawn⟩
def rg {T0 K:Nat->Prop}{cb:Nat}{c:D9}{sets:List Nat}{nA hA:Option bb}{nc hc sb sc bc br bn k n:Nat}{r:EH}{g:Operand}{ps:Array Tmp}{assign body:bW}{Q:Exit->Act->F->Prop}{a:Act}{w:F}
  (aP:c.Ok) (aK:∀x∈sets,c.has x) (aQ:sets.length<=16) (hg:a.eval g=.func (.func 77) #[] #[.pointer (U ⟨bc,0,X⟩),.pointer (U ⟨br,0,X⟩),.pointer (U ⟨bn,0,X⟩)])
  (hn:n+k=c.DW.length) (hz:∀i,n<=i->r i=0) (hs:Mn T0 K cb c sets nA hA nc hc sb sc bc br bn r n w) (a7:∀b,T0 b->b<w.heap.size) (aR:ps.size=1)
  (I:List EH->F->Prop) (Ix:bW->List EH->F->Prop) (hI:∀pre W W',I pre W->(∀b,T0 b->W'.heap[b]?=W.heap[b]?)->I pre W') (aF:∀c pre W W',Ix c pre W->(∀b,T0 b->W'.heap[b]?=W.heap[b]?)->Ix c pre W') (h0:I [] w)
  (a₁:EH->Act)
  (aG:∀(l:Nat) (ρ:EH) (W:F) (K:Act->F->Prop),K (a₁ ρ) W->assign.wpIn (Fence.wide.inRound l) 0 DU (Exit.then K (λ_ _ _=>False)) { tmps:=(ps.zip #[Fl ρ]).foldl (λt (p,v)=>t.setIfInBounds p v) a.tmps,defers:=[] } W)
  (aL:∀(l:Nat) (pre:List EH) (ρ:EH) (W:F),pre++[ρ] <+: Eh c sets k r n->KT (λb=>T0 b\/b=br) w W->I pre W->body.wpIn (Fence.wide.inRound l) 0 DU (NU T0 I Ix (pre++[ρ]) W) (a₁ ρ) W)
  (hdone:∀(D:Nat) (W:F),w.heap.size<=D->KT (λb=>T0 b\/b=br) w W->I (Eh c sets k r n) W->W.heap[D]?=U (.deferred (U []))->Q .normal { a with defers:={ target:=.collected D,args:=#[] }::a.defers } W)
  (aM:∀(D:Nat) (j:bW) (q:List EH) (W:F),w.heap.size<=D->KT (λb=>T0 b\/b=br) w W->q <+: Eh c sets k r n->Ix j q W->W.heap[D]?=U (.deferred (U []))->j.wpIn N 0 DU Q { a with defers:={ target:=.collected D,args:=#[] }::a.defers } W) :
  (bh g ps assign body).wpIn N 0 DU Q a w:=by
 refine cr ?_;intro fn hfn;have aH:∀b,K b->b<w.heap.size:=hs.F4.lt;obtain⟨rec,a6⟩:∃rec:LoopState->Option bW->Loop,rec=λst pe=>{ state:=st,pending:=pe,fn,tmps:=a.tmps,params:=ps,assign,body,defers:=w.heap.size }:=⟨_,rfl⟩;obtain⟨W1,zu⟩:∃W1,(w.alloc (.deferred (U []))).alloc (.loop (rec .ready X))=W1:=⟨_,rfl⟩;have aS:W1.heap[w.heap.size+1]?=U (.loop (rec .ready X)):=by
  rw[<-zu];have:=M (w.alloc (.deferred (U []))) (.loop (rec .ready X));rwa [C3] at this
 have aT:W1.heap[w.heap.size]?=U (.deferred (U [])):=by
  rw[<-zu];exact(Cs _ _ _ (by simp)).trans (M w _)
 have zJ:Gr w W1:=by rw[<-zu];exact((Gr.refl w).alloc _).alloc _
 have aU:I [] W1:=hI _ _ _ h0 λb hb=>zJ.below.block b (a7 b hb);have zE:W1.heap.size=w.heap.size+2:=by rw[<-zu];simp
 refine⟨w.heap.size+1,[{ target:=.collected w.heap.size,args:=#[] }],W1,{ target:=.fn (.func 77) #[.pointer (U ⟨bc,0,X⟩),.pointer (U ⟨br,0,X⟩),.pointer (U ⟨bn,0,X⟩)],args:=#[.func (.yield (w.heap.size+1)) #[] #[]] },W1,77,
  #[.func (.yield (w.heap.size+1)) #[] #[]]++#[.pointer (U ⟨bc,0,X⟩),.pointer (U ⟨br,0,X⟩),.pointer (U ⟨bn,0,X⟩)],W1,?_,?_,?_,?_,λh=>(by cases h),?_⟩
 .rw[<-zu,a6];exact bl _ _ _ _ _
 .simp only[resolve,hg];simp[go_sem]
 .intro f' _;trivial
 .simp[invoke,go_sem]
 .obtain⟨T,hT⟩:∃T:Nat->Prop,T=λb=>T0 b\/b=w.heap.size\/b=w.heap.size+1:=⟨_,rfl⟩;have aI:∀b,T0 b->T b:=λb hb=>by rw[hT];exact .inl hb
  have aV:T w.heap.size:=by rw[hT];exact .inr (.inl rfl)
  have aJ:T (w.heap.size+1):=by rw[hT];exact .inr (.inr rfl)
  have a8:∀b,b<w.heap.size->T b->T0 b:=λb hb h=>by
   rw[hT] at h;obtain h|h|h:=h
   .exact h
   .omega
   .omega
  have k1:KT T0 w W1:=KT.E4 zJ;have hs1:Mn T K cb c sets nA hA nc hc sb sc bc br bn r n W1:=by
   refine⟨hs.F4.keep zJ.size λb o hb=>zJ.cell (aH b hb),λb hb h=>hs.kt b hb (a8 b (aH b hb) h),⟨(zJ.cell hs.xc.2.2).trans hs.xc.1,λh=>hs.xc.2.1 (a8 _ hs.xc.2.2 h),by have:=hs.xc.2.2;omega⟩,⟨λi hi=>⟨(zJ.cell (p:=⟨br,i,X⟩) hs.xr.2.2).trans (hs.xr.1 i hi).1,(zJ.frozen (p:=⟨br,i,X⟩) hs.xr.2.2).trans (hs.xr.1 i hi).2⟩,λh=>hs.xr.2.1 (a8 _ hs.xr.2.2 h),by have:=hs.xr.2.2;omega⟩,
    ⟨(zJ.cell hs.xn.2).trans hs.xn.1,by have:=hs.xn.2;omega⟩,hs.ne,hs.rs⟩
  have aD:∀ {W:F},KT (λb=>T b\/b=br) W1 W->KT (λb=>T0 b\/b=br) w W:=λhk =>
   KT.low (T:=λb=>T b\/b=br) ((KT.E4 zJ).trans hk) λb hb h=>h.elim (λh=>.inl (a8 b hb h)) .inr
  have b5:=hs.xr.2.2;have hput:∀(W:F) (o:Obj),KT T W (W.putObj (w.heap.size+1) o):=λW o=>KT.putObj W aJ o;have hq:=vi (T:=T) (l:=w.heap.size+1) (W0:=W1)
   (J:=λpre W=>I pre W/\W.heap[w.heap.size+1]?=U (.loop (rec .ready X))/\W.heap[w.heap.size]?=U (.deferred (U [])))
   (Jx:=λpre W=>∃j,Ix j pre W/\W.heap[w.heap.size+1]?=U (.loop (rec .done (U j)))/\W.heap[w.heap.size]?=U (.deferred (U [])))
   aP aK aQ (λpre W W' h hk=>⟨hI _ _ _ h.1 λb hb=>hk b (aI b hb),(hk _ aJ).trans h.2.1,(hk _ aV).trans h.2.2⟩)
   (λpre W h b hb=>by
    have h1:=(Az.1 h.2.1).1;rw[hT] at hb;obtain hb|hb|hb:=hb
    .have:=a7 b hb;omega
    .omega
    .omega)
   ?_ hn hs1 (KT.refl _ _) ⟨aU,aS,aT⟩ hz
  .refine hq.mono ?_;rintro e W2 ⟨rfl,zo,(⟨hi,hl,hd⟩|⟨q,aO,j,hi,hl,hd⟩)⟩
   .refine⟨X,_,by have:=bk (P:=DU) hl (by rw[a6];simp);rw[a6] at this;exact this,hdone _ _ (AA _) (aD (zo.trans ((hput _ _).mono λb h=>.inl h))) (hI _ _ _ hi λb hb=>Z (by have:=a7 b hb;omega)) ((Z (by omega)).trans hd)⟩
   .exact⟨U j,_,by have:=bk (P:=DU) hl (by rw[a6];simp);rw[a6] at this;exact this,aM _ j q _ (AA _) (aD (zo.trans ((hput _ _).mono λb h=>.inl h))) aO (aF _ _ _ _ hi λb hb=>Z (by have:=a7 b hb;omega)) ((Z (by omega)).trans hd)⟩
  .rintro pre ρ W hpl aW ⟨hi,hl,hd⟩;have zY:w.heap.size+1<W.heap.size:=(Az.1 hl).1;have hy:=run_yield (P:=DU) (args:=#[Fl ρ]) hl (by rw[a6];simp[aR]);rw[a6] at hy;refine⟨fn,_,assign,body,hy,ck hfn (aG _ ρ W _ ⟨_,cu hl (by rw[a6]),?_⟩)⟩;obtain⟨Wb,aC⟩:∃Wb,Wb=W.putObj (w.heap.size+1) (.loop { rec .ready X with state:=.busy }):=⟨_,rfl⟩;rw[<-aC];have kb:KT T W Wb:=by rw[aC];exact hput _ _
   have zC:Wb.heap[w.heap.size+1]?=U (.loop { rec .ready X with state:=.busy }):=by rw[aC];exact O zY
   have aX:Wb.heap[w.heap.size]?=U (.deferred (U [])):=by rw[aC];exact(Z (by omega)).trans hd
   have aY:I pre Wb:=hI _ _ _ hi λb hb=>by rw[aC];exact Z (by have:=a7 b hb;omega)
   have hzb:Wb.heap.size=W.heap.size:=by rw[aC];simp[z]
   refine cF (aL _ pre ρ Wb hpl (aD (aW.trans (kb.mono λb h=>.inl h))) aY) ?_;have fin : ∀ (jump : Option bW) (W3 : F), KT T0 Wb W3 ->
     (cw (w.heap.size+1) jump).run DU W3=.ok (.bool jump.isNone) (W3.putObj (w.heap.size+1) (.loop (rec (if jump.isNone then .ready else .done) jump))) /\
     (W3.putObj (w.heap.size+1) (.loop (rec (if jump.isNone then .ready else .done) jump))).heap[w.heap.size+1]?=U (.loop (rec (if jump.isNone then .ready else .done) jump)) /\
     (W3.putObj (w.heap.size+1) (.loop (rec (if jump.isNone then .ready else .done) jump))).heap[w.heap.size]?=U (.deferred (U []))/\KT T W (W3.putObj (w.heap.size+1) (.loop (rec (if jump.isNone then .ready else .done) jump))) /\
     ∀b,T0 b->(W3.putObj (w.heap.size+1) (.loop (rec (if jump.isNone then .ready else .done) jump))).heap[b]?=W3.heap[b]?:=λjump W3 zy=>by
    have aN:W3.heap[w.heap.size+1]?=U (.loop { rec .ready X with state:=.busy }):=(zy.block _ (by omega) λh=>by have:=a7 _ h;omega).trans zC;have aZ:W3.heap[w.heap.size]?=U (.deferred (U [])):=(zy.block _ (by omega) λh=>by have:=a7 _ h;omega).trans aX;have:=run_endRound (P:=DU) jump aN;rw[a6] at this ⊢;exact⟨this,O (Az.1 aN).1,(Z (by omega)).trans aZ,(kb.trans (zy.mono aI)).trans (KT.putObj W3 aJ _),λb hb=>Z (by have:=a7 b hb;omega)⟩
   rintro e a3 W3 hp;cases e with
   |normal =>
    obtain⟨zy,aA⟩:=hp;obtain⟨hr,zr,aB,hk4,hb4⟩:=fin X W3 zy;exact⟨_,_,hr,.inl ⟨rfl,⟨hI _ _ _ aA hb4,zr,aB⟩,hk4⟩⟩
   |ret =>
    obtain⟨zy,aA⟩:=hp;obtain⟨hr,zr,aB,hk4,hb4⟩:=fin (U .ret) W3 zy;exact⟨_,_,hr,.inr ⟨rfl,⟨.ret,aF _ _ _ _ aA hb4,zr,aB⟩,hk4⟩⟩
   |exit id =>
    obtain⟨zy,aA⟩:=hp;obtain⟨hr,zr,aB,hk4,hb4⟩:=fin (U (.exit id)) W3 zy;exact⟨_,_,hr,.inr ⟨rfl,⟨.exit id,aF _ _ _ _ aA hb4,zr,aB⟩,hk4⟩⟩
   |goto t =>
    obtain⟨zy,aA⟩:=hp;obtain⟨hr,zr,aB,hk4,hb4⟩:=fin (U (.goto t)) W3 zy;exact⟨_,_,hr,.inr ⟨rfl,⟨.goto t,aF _ _ _ _ aA hb4,zr,aB⟩,hk4⟩⟩
   |panic ch=>exact hp.elim
   |outgrown=>exact hp.elim
def pz {T0 K:Nat->Prop}{cb:Nat}{c:D9}{sets:List Nat}{nA hA:Option bb}{nc hc sb sc bc br bn k n:Nat}{r:EH}{g:Operand}{p:Tmp}{body:bW}{Q:Exit->Act->F->Prop}{a:Act}{w:F}
  (aA:c.Ok) (a6:∀x∈sets,c.has x) (aB:sets.length<=16) (hg:a.eval g=.func (.func 77) #[] #[.pointer (U ⟨bc,0,X⟩),.pointer (U ⟨br,0,X⟩),.pointer (U ⟨bn,0,X⟩)])
  (hn:n+k=c.DW.length) (hz:∀i,n<=i->r i=0) (hs:Mn T0 K cb c sets nA hA nc hc sb sc bc br bn r n w) (aC:∀b,T0 b->b<w.heap.size)
  (I:List EH->F->Prop) (Ix:bW->List EH->F->Prop) (hI:∀pre W W',I pre W->(∀b,T0 b->W'.heap[b]?=W.heap[b]?)->I pre W') (aD:∀c pre W W',Ix c pre W->(∀b,T0 b->W'.heap[b]?=W.heap[b]?)->Ix c pre W') (h0:I [] w)
  (a7:∀(l:Nat) (pre:List EH) (ρ:EH) (W:F),KT (λb=>T0 b\/b=br) w W->I pre W->body.wpIn (Fence.wide.inRound l) 0 DU (NU T0 I Ix (pre++[ρ]) W) { tmps:=a.tmps.setIfInBounds p (Fl ρ),defers:=[] } W)
  (hdone:∀(D:Nat) (W:F),w.heap.size<=D->KT (λb=>T0 b\/b=br) w W->I (Eh c sets k r n) W->W.heap[D]?=U (.deferred (U []))->Q .normal { a with defers:={ target:=.collected D,args:=#[] }::a.defers } W)
  (a8:∀(D:Nat) (j:bW) (q:List EH) (W:F),w.heap.size<=D->KT (λb=>T0 b\/b=br) w W->q <+: Eh c sets k r n->Ix j q W->W.heap[D]?=U (.deferred (U []))->j.wpIn N 0 DU Q { a with defers:={ target:=.collected D,args:=#[] }::a.defers } W) :
  (bh g #[p] .skip body).wpIn N 0 DU Q a w:=by
 exact rg (ps:=#[p]) (assign:=.skip) aA a6 aB hg hn hz hs aC rfl I Ix hI aD h0 (λρ=>{ tmps:=a.tmps.setIfInBounds p (Fl ρ),defers:=[] }) (λl ρ W K hK=>wpIn_skip (by show K _ W;simpa using hK)) (λl pre ρ W _=>a7 l pre ρ W) hdone a8
def kR {T0 K:Nat->Prop}{cb:Nat}{c:D9}{sets:List Nat}{nA hA:Option bb}{nc hc sb sc bc br bn k n:Nat}{r:EH}{g:Operand}{ps:Array Tmp}{assign body:bW}{Q:Exit->Act->F->Prop}{a:Act}{w:F}
  (aS:c.Ok) (aL:∀x∈sets,c.has x) (aT:sets.length<=16) (hg:a.eval g=.func (.func 77) #[] #[.pointer (U ⟨bc,0,X⟩),.pointer (U ⟨br,0,X⟩),.pointer (U ⟨bn,0,X⟩)])
  (hn:n+k=c.DW.length) (hz:∀i,n<=i->r i=0) (hs:Mn T0 K cb c sets nA hA nc hc sb sc bc br bn r n w) (a7:∀b,T0 b->b<w.heap.size) (aU:ps.size=1)
  (I:List EH->F->Prop) (Ix:bW->List EH->F->Prop) (hI:∀pre W W',I pre W->(∀b,T0 b->W'.heap[b]?=W.heap[b]?)->I pre W') (aG:∀c pre W W',Ix c pre W->(∀b,T0 b->W'.heap[b]?=W.heap[b]?)->Ix c pre W') (h0:I [] w)
  (aH:∀(l:Nat) (pre:List EH) (ρ:EH) (W:F),pre++[ρ] <+: Eh c sets k r n->KT (λb=>T0 b\/b=br) w W->I pre W->w.heap.size<l->l<W.heap.size ->
   assign.wpIn (Fence.wide.inRound l) 0 DU (Exit.then (λa₁ w₁=>KT T0 W w₁/\∀o,body.wpIn (Fence.wide.inRound l) 0 DU (NU T0 I Ix (pre++[ρ]) (w₁.putObj l o)) a₁ (w₁.putObj l o)) (λ_ _ _=>False)) { tmps:=(ps.zip #[Fl ρ]).foldl (λt (p,v)=>t.setIfInBounds p v) a.tmps,defers:=[] } W)
  (hdone:∀(D:Nat) (W:F),w.heap.size<=D->KT (λb=>T0 b\/b=br) w W->I (Eh c sets k r n) W->W.heap[D]?=U (.deferred (U []))->Q .normal { a with defers:={ target:=.collected D,args:=#[] }::a.defers } W)
  (aM:∀(D:Nat) (j:bW) (q:List EH) (W:F),w.heap.size<=D->KT (λb=>T0 b\/b=br) w W->q <+: Eh c sets k r n->Ix j q W->W.heap[D]?=U (.deferred (U []))->j.wpIn N 0 DU Q { a with defers:={ target:=.collected D,args:=#[] }::a.defers } W) :
  (bh g ps assign body).wpIn N 0 DU Q a w:=by
 refine cr ?_;intro fn hfn;have aI:∀b,K b->b<w.heap.size:=hs.F4.lt;obtain⟨rec,a6⟩:∃rec:LoopState->Option bW->Loop,rec=λst pe=>{ state:=st,pending:=pe,fn,tmps:=a.tmps,params:=ps,assign,body,defers:=w.heap.size }:=⟨_,rfl⟩;obtain⟨W1,zu⟩:∃W1,(w.alloc (.deferred (U []))).alloc (.loop (rec .ready X))=W1:=⟨_,rfl⟩;have aV:W1.heap[w.heap.size+1]?=U (.loop (rec .ready X)):=by
  rw[<-zu];have:=M (w.alloc (.deferred (U []))) (.loop (rec .ready X));rwa [C3] at this
 have aW:W1.heap[w.heap.size]?=U (.deferred (U [])):=by
  rw[<-zu];exact(Cs _ _ _ (by simp)).trans (M w _)
 have zJ:Gr w W1:=by rw[<-zu];exact((Gr.refl w).alloc _).alloc _
 have aX:I [] W1:=hI _ _ _ h0 λb hb=>zJ.below.block b (a7 b hb);have zE:W1.heap.size=w.heap.size+2:=by rw[<-zu];simp
 refine⟨w.heap.size+1,[{ target:=.collected w.heap.size,args:=#[] }],W1,{ target:=.fn (.func 77) #[.pointer (U ⟨bc,0,X⟩),.pointer (U ⟨br,0,X⟩),.pointer (U ⟨bn,0,X⟩)],args:=#[.func (.yield (w.heap.size+1)) #[] #[]] },W1,77,
  #[.func (.yield (w.heap.size+1)) #[] #[]]++#[.pointer (U ⟨bc,0,X⟩),.pointer (U ⟨br,0,X⟩),.pointer (U ⟨bn,0,X⟩)],W1,?_,?_,?_,?_,λh=>(by cases h),?_⟩
 .rw[<-zu,a6];exact bl _ _ _ _ _
 .simp only[resolve,hg];simp[go_sem]
 .intro f' _;trivial
 .simp[invoke,go_sem]
 .obtain⟨T,hT⟩:∃T:Nat->Prop,T=λb=>T0 b\/b=w.heap.size\/b=w.heap.size+1:=⟨_,rfl⟩;have aD:∀b,T0 b->T b:=λb hb=>by rw[hT];exact .inl hb
  have aY:T w.heap.size:=by rw[hT];exact .inr (.inl rfl)
  have aJ:T (w.heap.size+1):=by rw[hT];exact .inr (.inr rfl)
  have a8:∀b,b<w.heap.size->T b->T0 b:=λb hb h=>by
   rw[hT] at h;obtain h|h|h:=h
   .exact h
   .omega
   .omega
  have k1:KT T0 w W1:=KT.E4 zJ;have hs1:Mn T K cb c sets nA hA nc hc sb sc bc br bn r n W1:=by
   refine⟨hs.F4.keep zJ.size λb o hb=>zJ.cell (aI b hb),λb hb h=>hs.kt b hb (a8 b (aI b hb) h),⟨(zJ.cell hs.xc.2.2).trans hs.xc.1,λh=>hs.xc.2.1 (a8 _ hs.xc.2.2 h),by have:=hs.xc.2.2;omega⟩,⟨λi hi=>⟨(zJ.cell (p:=⟨br,i,X⟩) hs.xr.2.2).trans (hs.xr.1 i hi).1,(zJ.frozen (p:=⟨br,i,X⟩) hs.xr.2.2).trans (hs.xr.1 i hi).2⟩,λh=>hs.xr.2.1 (a8 _ hs.xr.2.2 h),by have:=hs.xr.2.2;omega⟩,
    ⟨(zJ.cell hs.xn.2).trans hs.xn.1,by have:=hs.xn.2;omega⟩,hs.ne,hs.rs⟩
  have aF:∀ {W:F},KT (λb=>T b\/b=br) W1 W->KT (λb=>T0 b\/b=br) w W:=λhk =>
   KT.low (T:=λb=>T b\/b=br) ((KT.E4 zJ).trans hk) λb hb h=>h.elim (λh=>.inl (a8 b hb h)) .inr
  have b8:=hs.xr.2.2;have hput:∀(W:F) (o:Obj),KT T W (W.putObj (w.heap.size+1) o):=λW o=>KT.putObj W aJ o;have hq:=vi (T:=T) (l:=w.heap.size+1) (W0:=W1)
   (J:=λpre W=>I pre W/\W.heap[w.heap.size+1]?=U (.loop (rec .ready X))/\W.heap[w.heap.size]?=U (.deferred (U [])))
   (Jx:=λpre W=>∃j,Ix j pre W/\W.heap[w.heap.size+1]?=U (.loop (rec .done (U j)))/\W.heap[w.heap.size]?=U (.deferred (U [])))
   aS aL aT (λpre W W' h hk=>⟨hI _ _ _ h.1 λb hb=>hk b (aD b hb),(hk _ aJ).trans h.2.1,(hk _ aY).trans h.2.2⟩)
   (λpre W h b hb=>by
    have h1:=(Az.1 h.2.1).1;rw[hT] at hb;obtain hb|hb|hb:=hb
    .have:=a7 b hb;omega
    .omega
    .omega)
   ?_ hn hs1 (KT.refl _ _) ⟨aX,aV,aW⟩ hz
  .refine hq.mono ?_;rintro e W2 ⟨rfl,zo,(⟨hi,hl,hd⟩|⟨q,aQ,j,hi,hl,hd⟩)⟩
   .refine⟨X,_,by have:=bk (P:=DU) hl (by rw[a6];simp);rw[a6] at this;exact this,hdone _ _ (AA _) (aF (zo.trans ((hput _ _).mono λb h=>.inl h))) (hI _ _ _ hi λb hb=>Z (by have:=a7 b hb;omega)) ((Z (by omega)).trans hd)⟩
   .exact⟨U j,_,by have:=bk (P:=DU) hl (by rw[a6];simp);rw[a6] at this;exact this,aM _ j q _ (AA _) (aF (zo.trans ((hput _ _).mono λb h=>.inl h))) aQ (aG _ _ _ _ hi λb hb=>Z (by have:=a7 b hb;omega)) ((Z (by omega)).trans hd)⟩
  .rintro pre ρ W hpl aZ ⟨hi,hl,hd⟩;have zY:w.heap.size+1<W.heap.size:=(Az.1 hl).1;have hy:=run_yield (P:=DU) (args:=#[Fl ρ]) hl (by rw[a6];simp[aU]);rw[a6] at hy;refine⟨fn,_,assign,body,hy,ck hfn (cF (aH (w.heap.size+1) pre ρ W hpl (aF aZ) hi (by omega) zY) ?_)⟩;rintro e1 a1 w1 Iq;cases e1 with
   |panic ch=>exact Iq.elim
   |outgrown=>exact Iq.elim
   |ret=>exact Iq.elim
   |exit id=>exact Iq.elim
   |goto t=>exact Iq.elim
   |normal =>
   obtain⟨aK,hb1⟩:=Iq;have aN:w1.heap[w.heap.size+1]?=U (.loop (rec .ready X)):=(aK.block _ zY λh=>by have:=a7 _ h;omega).trans hl;have b5:w1.heap[w.heap.size]?=U (.deferred (U [])):=(aK.block _ (by omega) λh=>by have:=a7 _ h;omega).trans hd;have aR:w.heap.size+1<w1.heap.size:=(Az.1 aN).1;refine⟨_,cu aN (by rw[a6]),?_⟩;obtain⟨Wb,aC⟩:∃Wb,Wb=w1.putObj (w.heap.size+1) (.loop { rec .ready X with state:=.busy }):=⟨_,rfl⟩
   have aO:=hb1 (.loop { rec .ready X with state:=.busy });rw[<-aC] at aO ⊢;have kb:KT T W Wb:=(aK.mono aD).trans (by rw[aC];exact hput _ _);have zC:Wb.heap[w.heap.size+1]?=U (.loop { rec .ready X with state:=.busy }):=by rw[aC];exact O aR
   have b6:Wb.heap[w.heap.size]?=U (.deferred (U [])):=by rw[aC];exact(Z (by omega)).trans b5
   have hzb:Wb.heap.size=w1.heap.size:=by rw[aC];simp[z]
   refine cF aO ?_;have fin : ∀ (jump : Option bW) (W3 : F), KT T0 Wb W3 ->
     (cw (w.heap.size+1) jump).run DU W3=.ok (.bool jump.isNone) (W3.putObj (w.heap.size+1) (.loop (rec (if jump.isNone then .ready else .done) jump))) /\
     (W3.putObj (w.heap.size+1) (.loop (rec (if jump.isNone then .ready else .done) jump))).heap[w.heap.size+1]?=U (.loop (rec (if jump.isNone then .ready else .done) jump)) /\
     (W3.putObj (w.heap.size+1) (.loop (rec (if jump.isNone then .ready else .done) jump))).heap[w.heap.size]?=U (.deferred (U []))/\KT T W (W3.putObj (w.heap.size+1) (.loop (rec (if jump.isNone then .ready else .done) jump))) /\
     ∀b,T0 b->(W3.putObj (w.heap.size+1) (.loop (rec (if jump.isNone then .ready else .done) jump))).heap[b]?=W3.heap[b]?:=λjump W3 zy=>by
    have aP:W3.heap[w.heap.size+1]?=U (.loop { rec .ready X with state:=.busy }):=(zy.block _ (by omega) λh=>by have:=a7 _ h;omega).trans zC;have b7:W3.heap[w.heap.size]?=U (.deferred (U [])):=(zy.block _ (by omega) λh=>by have:=a7 _ h;omega).trans b6;have:=run_endRound (P:=DU) jump aP;rw[a6] at this ⊢;exact⟨this,O (Az.1 aP).1,(Z (by omega)).trans b7,(kb.trans (zy.mono aD)).trans (KT.putObj W3 aJ _),λb hb=>Z (by have:=a7 b hb;omega)⟩
   rintro e a3 W3 hp;cases e with
   |normal =>
    obtain⟨zy,aA⟩:=hp;obtain⟨hr,zr,aB,hk4,hb4⟩:=fin X W3 zy;exact⟨_,_,hr,.inl ⟨rfl,⟨hI _ _ _ aA hb4,zr,aB⟩,hk4⟩⟩
   |ret =>
    obtain⟨zy,aA⟩:=hp;obtain⟨hr,zr,aB,hk4,hb4⟩:=fin (U .ret) W3 zy;exact⟨_,_,hr,.inr ⟨rfl,⟨.ret,aG _ _ _ _ aA hb4,zr,aB⟩,hk4⟩⟩
   |exit id =>
    obtain⟨zy,aA⟩:=hp;obtain⟨hr,zr,aB,hk4,hb4⟩:=fin (U (.exit id)) W3 zy;exact⟨_,_,hr,.inr ⟨rfl,⟨.exit id,aG _ _ _ _ aA hb4,zr,aB⟩,hk4⟩⟩
   |goto t =>
    obtain⟨zy,aA⟩:=hp;obtain⟨hr,zr,aB,hk4,hb4⟩:=fin (U (.goto t)) W3 zy;exact⟨_,_,hr,.inr ⟨rfl,⟨.goto t,aG _ _ _ _ aA hb4,zr,aB⟩,hk4⟩⟩
   |panic ch=>exact hp.elim
   |outgrown=>exact hp.elim
end Go.Sq
