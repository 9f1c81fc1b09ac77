/- Parts of the proof. -/
import Derived.Test.YtoeoefobdjociaaGreatP17
set_option linter.all false
set_option maxHeartbeats 6400000
set_option maxRecDepth 1000000
open Go.Value renaming slice->Z,int->J,pointer->ak
open Option renaming none->Y,some->I,isSome->ck
open Go.IntKind renaming i64->U,wrap->cu
open Go.World renaming alloc_heap_new->C,setCell->H,putObj_heap_other->S,cell?->bs,frozen?->cq,drew->df
open Go renaming World->E,Calls->u,Addr->bl,Value->bo,wpIn_wide->cr,TypeId->dn
open Decidable renaming decide->O
open Go.Obj renaming cells->G
open Go.Proofs.Tryz renaming results13->V
open Go.Proofs renaming intOf->z
open Bool renaming false->bb,true->cw
open Go.Ending renaming returned->bh
open List renaming mem_iff_getElem?->bk,all_eq_false->bq
open Int renaming emod_nonneg->bw,ediv_nonneg->cf
namespace Go.Sq
open Go.Proofs
open Go.RowKit Go.Shelf
attribute [local go_sem] Oper.semAt_some
def pi (f:FuncId):Fence.wide.fn f=True:=eq_true trivial
attribute [local go_sem] pi
attribute [local simp] pi
def fO {fn:Func}{tmps:Array bo}{R:Ending->E->Prop}{W:E}{v:bo}(hr:(results fn tmps).run DU W=.ok v W)(hR:R (.returned v) W) :
  LeavesInM Fence.wide 0 DU fn tmps R [] .returning W:=⟨v,hr,hR⟩
def lN {c:Code}{P:Program}{K:Act->E->Prop}{Q:Exit->Act->E->Prop}{a:Act}{w:E}(h:c.wp P (Exit.then K λ_ _ _=>False) a w):c.wp P (Exit.then K Q) a w:=by
 rw[<-cr (n:=0)] at h ⊢;refine wpIn_mono h λe a w h=>?_;cases e with
 |normal=>exact h
 |_=>exact h.elim
def cT (c:D9)(ls:List (List Int))(h d:Int)(w:E)(e:Ending)(w':E):Prop :=
 Gr w w'/\if Ek c ls≠0 then e=.returned (.tuple #[.slice Y 0 0,J U 0,J U (Ek c ls)])
  else if(FC h 0 (c.DV.length-1)&&FC d 0 (c.DW.length-1))=bb then e=.returned (.tuple #[.slice Y 0 0,J U 0,J U 3])
  else match F6 (D4 ls) (Eh (G8 c h.toNat d) (En c.DV.length) c.DW.length EM 0) with
   |none=>e=.returned (.tuple #[.slice Y 0 0,J U 0,J U 11])
   |some p=>∃A k,e=.returned (.tuple #[Z A c.DW.length k,J U p.2,J U 0])/\ER w' w'.heap.size A (Ew p.1 c.DW.length)
def mL (nA hA gA:Option bl)(nc hc gc:Nat)(c:D9)(ls:List (List Int))(h d:Int)(w:E)(B:Nat)(hB:B<=w.heap.size)(hn:RI w B nA c.DW)(hh:EN w B hA c.DV)(hg:ER w B gA ls)
  (cL:c.DW.length<=4611686018427387904) (zC:c.DV.length<=4611686018427387904) (eA:∀h∈c.DV,h.off.length<=4611686018427387904) (fK:ls.length<=4611686018427387904) (zr:∀x∈ls,x.length<=4611686018427387904)
  (aF:∀k:Nat,Ek c ls=0->h=k->k<c.DV.length->FC d 0 (c.DW.length-1)=cw->(G8 c k d).Ok) :
  u DU 13 #[Ef nA hA c nc hc,Z gA ls.length gc,J U h,J U d] w (cT c ls h d w):=by
 rw[<-callsIn_wide (n:=0)];obtain⟨W0,zM⟩:∃W0:E,W0=(w.alloc (G #[Z nA c.DW.length nc,Z hA c.DV.length hc] 25)).alloc (G #[J U 0] 3):=⟨_,rfl⟩;have zL:Gr w W0:=zM▸((Gr.refl w).alloc _).alloc _;have zF:W0.heap.size=w.heap.size+2:=by rw[zM];simp
 have hk:∀b o,b<B->W0.cell? ⟨b,o,Y⟩=w.cell? ⟨b,o,Y⟩:=λb o hb=>zL.cell (AC hb hB);have aS:=mD nA hA gA nc hc gc c ls W0 B (by omega) (hn.gr hB zL) (hh.keep hk) (hg.gr hB zL) cL zC eA fK zr;unfold Ef at aS ⊢;have aT:=Ay aS;have hcm:W0.cell? ⟨w.heap.size,0,Y⟩=I (Z nA c.DW.length nc)/\W0.cell? ⟨w.heap.size,1,Y⟩=I (Z hA c.DV.length hc):=by
  rw[zM];constructor
  all_goals rw[AW _ _ _ (by simp),AE _ _ _ _ rfl];rfl
 have cM:=Ay hcm;have zS:∀i,W0.frozen? ⟨w.heap.size,i,Y⟩=false:=λi=>by
  rw[zM,CA _ _ _ (by simp),By _ _ _ _ rfl]
 have HCF:=Ay zS;clear zS;have eB:W0.heap[w.heap.size+1]?=I (G #[J U 0] 3 (0,0)):=by
  rw[zM];have:=C (w.alloc (G #[Z nA c.DW.length nc,Z hA c.DV.length hc] 25)) (G #[J U 0] 3);rwa [C3] at this
 have HNB:=Ay eB;have HW:=Ay zM;have eC:=Ay zL;have HN:=Ay hn;have HH:=Ay hh;have cN:=Ay aF;clear aS hcm eB zM zL hn hh hk hg aF eA zr;refine callsIn_of_wp_marks Sq.func13 rfl trivial ?_ rfl;simp only[Tryz.ntmps13,AP,AM,AS,Nat.reduceAdd,Nat.reduceSub,BO,BP,B1,BT,Cb,BX];rw[cr];go_wp2_with fail;rw[<-HW.out];refine aT.out.mono ?_;rintro e w1 ⟨zJ,hf⟩;have bR:=Ay zJ;have zE:=zJ.size
 have cO:w1.heap[w.heap.size+1]?=I (G #[J U 0] 3 (0,0)):=(zJ.below.block _ (by omega)).trans HNB.out;have aU:=Ay cO;have bT:=Ay (eC.out.trans zJ);have zl:(w1.alloc (G #[.int .u8 0,.int .u8 0,.int .u8 0,.int .u8 0,.int .u8 0] 72)).heap.size=w1.heap.size+1:=by simp
 clear cO;by_cases hE:Ek c ls=0
 .rw[AF hE] at hf;obtain⟨cb,g0,cap0,rfl,hcb,gF,hK⟩:=hf;have HE:=Ay hE;have HK:=Ay hK;clear zJ hE aT hK;obtain⟨aD,bU,cP⟩:=one_cell aU.out;have hce:Eg c=0:=by
   have:=HE.out;unfold Ek at this;split at this
   .exact this
   .rename_i h;simpa using h
  have b8:=Ay (D9.Ok.of hce);have fL:=b8.out.n5;have fM:=b8.out.h4;have hn1':=b8.out.n1;have eD:=b8.out.h1;obtain⟨W1,zu⟩:∃W1,W1=w1.alloc (G #[.int .u8 (D4 ls 0),.int .u8 (D4 ls 1),.int .u8 (D4 ls 2),.int .u8 (D4 ls 3),.int .u8 (D4 ls 4)] 72):=⟨_,rfl⟩;have cQ:=Ay zu;have aC:Hid (Gr w W1):=Ay (by rw[zu];exact bT.out.alloc _);have hsz1:W1.heap.size=w1.heap.size+1:=by rw[zu];simp
  have k0:w1.cell? ⟨w.heap.size,0,Y⟩=I (Z nA c.DW.length nc):=(bR.out.cell (by show w.heap.size<_;omega)).trans cM.out.1;have k1:w1.cell? ⟨w.heap.size,1,Y⟩=I (Z hA c.DV.length hc):=(bR.out.cell (by show w.heap.size<_;omega)).trans cM.out.2;have gG:w.heap.size<w1.heap.size:=by omega
  have cR:Hid (W1.cell? ⟨w.heap.size,0,Y⟩=I (Z nA c.DW.length nc)):=Ay (by rw[zu,AW _ _ _ (by show w.heap.size<_;omega)];exact k0);have cS:Hid (W1.cell? ⟨w.heap.size,1,Y⟩=I (Z hA c.DV.length hc)):=Ay (by rw[zu,AW _ _ _ (by show w.heap.size<_;omega)];exact k1);have cU:W1.heap[w.heap.size+1]?=I (G #[J U 0] 3 (0,0)):=by rw[zu,ae _ _ cP];exact aU.out
  have bH:=Ay cU;have aM:W1.heap[w1.heap.size]?=I (G #[.int .u8 (D4 ls 0),.int .u8 (D4 ls 1),.int .u8 (D4 ls 2),.int .u8 (D4 ls 3),.int .u8 (D4 ls 4)] 72 (0,0)):=by rw[zu];exact C w1 _
  have eE:=Ay aM;have hb1:=bS h 0 (c.DV.length-1) W1;have zq:=bS d 0 (c.DW.length-1) W1;obtain⟨x1,hx1⟩:∃x,x=FC h 0 (c.DV.length-1):=⟨_,rfl⟩;obtain⟨x2,hx2⟩:∃x,x=FC d 0 (c.DW.length-1):=⟨_,rfl⟩;rw[<-hx1] at hb1;rw[<-hx2] at zq;have eF:=Ay hb1;have cV:=Ay zq;have cW:=Ay hx1;have cX:=Ay hx2;clear hb1 zq hx1 hx2 zu aM cU hce aD bU;unfold Fl;go_wp2_with fail;rw[<-cQ.out];refine eF.out.mono ?_
  rintro e w' ⟨rfl,rfl⟩;have fN:=cR.out;have gH:=cS.out;obtain⟨aD,bU,eU⟩:=one_cell bH.out;clear k0 k1;have cY:∀w',Gr w w'->w'.cell? ⟨w.heap.size+1,0,Y⟩=I (J U 0)->(x1&&x2)=bb->cT c ls h d w (.returned (.tuple #[.slice Y 0 0,J U 0,J U 3])) w':=λw' hg _ hx=>by
   refine⟨hg,?_⟩;rw[AD (by simp[HE.out]),AF (by rw[<-cW.out,<-cX.out];exact hx)]
  have bI:=Ay cY;clear cY;cases x1 with
  |false =>
   go_wp2;refine fO (v:=.tuple #[.slice Y 0 0,J U 0,J U 3]) (by simp[results,V,go_sem,AQ _ _ _ aD]) (bI.out _ (aC.out.setCell (by show _<=w.heap.size+1;omega) _) (AQ _ _ _ aD) rfl)
  |true =>
   cases x2 with
   |false =>
    go_wp2_with (go_at_call 33;refine cV.out.mono ?_;rintro e w' ⟨rfl,rfl⟩);refine fO (v:=.tuple #[.slice Y 0 0,J U 0,J U 3]) (by simp[results,V,go_sem,AQ _ _ _ aD]) (bI.out _ (aC.out.setCell (by show _<=w.heap.size+1;omega) _) (AQ _ _ _ aD) rfl)
   |true =>
    clear bI;obtain⟨k,hk,aN⟩:∃k:Nat,h=k/\k<c.DV.length:=by
     have:=cW.out;simp only[FC] at this;have:=this.symm;simp at this;exact⟨h.toNat,by omega,by omega⟩
    subst hk;obtain⟨hb,ho,rfl,eG,zW⟩:=HH.out (λe=>by rw[e] at eD;simp at eD);have hW:∀b o,b<B->W1.cell? ⟨b,o,Y⟩=w.cell? ⟨b,o,Y⟩:=λb o hb=>aC.out.cell (AC hb hB);have eH:=Ay (us hb ho hc c.DV W1 B eG (by have:=aC.out.size;omega) (λi x hi=>(zW i x hi).keep eG hW) (by omega) (by omega));clear zW hW;go_wp2_with (first|(go_at_call 33;refine cV.out.mono ?_;rintro e w' ⟨rfl,rfl⟩)|fail)
    refine eH.out.mono ?_;rintro e w3 ⟨g,cap,rfl,zH,zQ,hgs,hgf,hat⟩;have eV:=zH.size;have hf3:w3.frozen? ⟨w.heap.size,1,Y⟩=false:=((bR.out.trans (((Gr.refl w1).alloc _).trans (cQ.out▸zH))).frozen (p:=⟨w.heap.size,1,Y⟩) (by show w.heap.size<_;omega)).trans (HCF.out 1);have KC:w3.cell? ⟨w.heap.size,0,Y⟩=I (Z nA c.DW.length nc):=(zH.cell (p:=⟨w.heap.size,0,Y⟩) (by show w.heap.size<_;omega)).trans cR.out
    have eI:w3.cell? ⟨w.heap.size,1,Y⟩=I (.slice (I ⟨hb,ho,Y⟩) c.DV.length hc):=(zH.cell (p:=⟨w.heap.size,1,Y⟩) (by show w.heap.size<_;omega)).trans cS.out;have aO:c.DV[k]?=I (c.h k):=by unfold D9.h;rw[AB aN];rfl
    obtain⟨cZ,d5,zo,A,m,zy,a7⟩:=hat k (c.h k) aO;have aV:g≠w.heap.size:=by omega
    obtain⟨w4,hw4⟩:∃w4,w4=w3.setCell ⟨w.heap.size,1,Y⟩ (.slice (I ⟨g,0,Y⟩) c.DV.length cap):=⟨_,rfl⟩;have fP:w4.heap.size=w3.heap.size:=by rw[hw4];simp[H]
    have aP:∀b o,b≠w.heap.size->w4.cell? ⟨b,o,Y⟩=w3.cell? ⟨b,o,Y⟩:=λb o hb=>by rw[hw4];exact AL _ _ _ _ (λe=>hb (AX Addr.block e).symm)
    have d6:∀b o,b<B->w4.cell? ⟨b,o,Y⟩=w3.cell? ⟨b,o,Y⟩:=λb o hb=>aP b o (by omega);have b9:Hid (Gr w w4):=Ay (by rw[hw4];exact(aC.out.trans zH).setCell (AA _) _);have aK:=(b8.out.off _ (c.Gs aN)).1;have hcon:=jC A m (c.h k).off d w4 B (a7.keep d6) (by omega);obtain⟨x3,hx3⟩:∃x,x=O (d∈(c.h k).off):=⟨_,rfl⟩;rw[<-hx3] at hcon;have d7:=Ay hcon;have d8:=Ay hx3;have HW4:=Ay hw4
    have bA:Hid (∀(i:Nat) (x:EG),c.DV[i]?=I x->Ml w4 B g (i*4) x):=Ay λi x hi=>by
     obtain⟨q0,q1,q2,A',m',q3,q4⟩:=hat i x hi;exact⟨(aP _ _ aV).trans q0,(aP _ _ aV).trans q1,(aP _ _ aV).trans q2,A',m',(aP _ _ aV).trans q3,q4.keep d6⟩
    have d9:Hid (RI w4 B nA c.DW):=Ay (HN.out.gr hB b9.out);have bJ:Hid (w4.heap[w.heap.size+1]?=I (G #[J U 0] 3 (0,0))):=Ay (by rw[hw4,AR _ _ _ _ (by show w.heap.size+1≠w.heap.size;omega),zH.below.block _ eU];exact bH.out);have bK:Hid (w4.heap[w1.heap.size]?=I (G #[.int .u8 (D4 ls 0),.int .u8 (D4 ls 1),.int .u8 (D4 ls 2),.int .u8 (D4 ls 3),.int .u8 (D4 ls 4)] 72 (0,0))):=Ay (by rw[hw4,AR _ _ _ _ (by show w1.heap.size≠w.heap.size;omega),zH.below.block _ (by omega)];exact eE.out)
    have HE4:Hid (w4.cell? ⟨w.heap.size,0,Y⟩=I (Z nA c.DW.length nc)/\w4.cell? ⟨w.heap.size,1,Y⟩=I (.slice (I ⟨g,0,Y⟩) c.DV.length cap)):=Ay (by
     rw[hw4];exact⟨(AL _ _ _ _ (by simp)).trans KC,AQ _ _ _ eI⟩)
    have eJ:Hid (∀i,w4.frozen? ⟨g,i,Y⟩=bb):=Ay λi=>by rw[hw4,BI];exact hgf i
    have eW:w3.cell? ⟨g,k*4+3,Y⟩=I (Z A (c.h k).off.length m):=zy;have eX:=Ay a7;clear hcon hx3 hw4 hat a7 cZ d5 zo zy aP d6 hgf aO aD bU fN;go_wp2_with fail;rw[<-HW4.out];refine d7.out.mono ?_;rintro e w' ⟨rfl,rfl⟩;clear KC eI eW hf3 d7;have aL:W1.heap.size<=w4.heap.size/\g<w4.heap.size:=by omega
    obtain⟨dA,dB⟩:=HE4.out;have aO:c.DV[k]?=I (c.h k):=by unfold D9.h;rw[AB aN];rfl
    obtain⟨cZ,d5,zo,A',m',zy,a7⟩:=bA.out k (c.h k) aO;have dC:=Ay a7;have fQ:=eJ.out (k*4+3);clear a7 cZ d5 zo eX fP zH eV;cases x3
    case' true =>
     have aA:Hid (QY nA nc c ls k d w w1.heap.size g cap w4):=Ay (by
      have bV:cA (c.h k).off d=(c.h k).off:=by unfold cA;rw[AF (by simpa using d8.out.symm)]
      refine⟨b9.out,dA,dB,bJ.out,⟨by omega,by omega,by omega⟩,λi hi=>?_,?_,λzU=>⟨g,0,rfl,⟨aL.2,by omega⟩,λi x hi=>?_⟩⟩
      .rw[(Gx bK.out).1 i]
       match i,hi with
       |0,_=>rfl
       |1,_=>rfl
       |2,_=>rfl
       |3,_=>rfl
       |4,_=>rfl
      .exact fX d9.out λb hb=>⟨by omega,by omega⟩
      .rw[AO];have key:∀y,c.DV[i]?=I y->Mm w4 (λb=>b<w4.heap.size/\b≠w.heap.size+1) g (i*4) y:=λy hy=>by
        obtain⟨q0,q1,q2,A',m',q3,q4⟩:=bA.out i y hy;exact⟨q0,q1,q2,A',m',q3,fX q4 λb hb=>⟨by omega,by omega⟩⟩
       obtain⟨rfl,rfl⟩|⟨_,h⟩:=Na hi aN
       .rw[bV];exact key _ aO
       .exact key _ h)
     go_wp2_with fail;obtain⟨wz,rfl⟩:∃wz,wz=w4:=⟨_,rfl⟩
    case' false =>
     have bL:=Ay (wS A' m' (c.h k).off w4 B dC.out (by omega) (by omega));have bV:cA (c.h k).off d=Kv ((c.h k).off++[d]):=by unfold cA;rw[AD (by simpa using d8.out.symm)];rfl
     have HOA:=Ay bV;obtain⟨off,a7⟩:∃off,off=(c.h k).off:=⟨_,rfl⟩;rw[<-a7] at bL HOA aK;have eY:w4.cell? ⟨g,k*4+3,Y⟩=I (Z A' off.length m'):=by rw[a7];exact zy
     have HEO:=Ay a7;rw[<-a7];clear bV zy a7 dC;go_wp2_with fail;refine bL.out.mono ?_;rintro e w5 ⟨v,rfl,zm,dD⟩;have gI:=dD.size;have dE:=zm.lt;have eK:=Ay dD;clear dD bL;go_wp2_with (at_builtin;refine iQ rfl _ _ rfl w4.heap.size _ _ _ rfl (zm.alloc _) ⟨w5.heap.size,0,Y⟩ 1 (J U d) rfl ?c1 rfl ?c2 ?c3 ?_)
     case c1=>rw[AE _ _ _ _ rfl];rfl
     case c2=>omega
     case c3=>(try simp);omega
     intro v' w6 hown' hgrow hd;have aW:∀b,b<w4.heap.size->w6.heap[b]?=w4.heap[b]?:=λb hb=>by
      have zU:I b≠v.ownBlock:=dz zm hb;exact(hgrow.block b (by simp;omega) zU).trans ((ae _ _ (by omega)).trans (eK.out.below.block b hb))
     have hG6:Gr w w6:=((b9.out.trans eK.out).alloc _).grown hgrow hd λq hq=>by have:=(dE q hq).1;have:=b9.out.size;omega
     have hc6:w6.cell? ⟨g,k*4+3,Y⟩=I (Z A' off.length m'):=(AT (aW g aL.2)).trans eY;have hf6:w6.frozen? ⟨g,k*4+3,Y⟩=false:=(CE (a:=⟨g,k*4+3,Y⟩) (aW g aL.2)).trans fQ;obtain⟨g',cap',hv',hg'l,hg's⟩:=hown'.form (by omega);subst hv';have hsz6:w4.heap.size<=w6.heap.size:=by have:=hgrow.size;simp at this;omega
     obtain⟨w7,bW⟩:∃w7,w7=w6.setCell ⟨g,k*4+3,Y⟩ (.slice (I ⟨g',0,Y⟩) (off.length+1) cap'):=⟨_,rfl⟩;have hz7:w7.heap.size=w6.heap.size:=by rw[bW];simp[H]
     have bX:w7.ownsRow w4.heap.size 3 1 (.slice (I ⟨g',0,Y⟩) (off++[d]).length cap') (off++[d]).length ((off++[d]).map (J U)):=by
      rw[bW];have:=ownsRow_setCell_below (a:=⟨g,k*4+3,Y⟩) hown' aL.2 (.slice (I ⟨g',0,Y⟩) (off.length+1) cap');simpa using this
     have aX:=wU g' cap' (off++[d]) w7 bX (by simp;omega);have cL:(off++[d]).length=off.length+1:=by simp
     rw[cL] at aX;have e7:=Ay aX;have bB:=Ay bW;have dF:=Ay aW;have fR:=Ay hG6;clear aW hG6 hown' hgrow hd zm bX aX bW dE;go_wp2_with fail;rw[<-bB.out];refine e7.out.mono ?_;rintro e w8 ⟨rfl,bC,hs8⟩;have hz8:=bC.size;have fS:g≠g':=by omega
     have aB:∀b,b<w4.heap.size->b≠g->w8.heap[b]?=w4.heap[b]?:=λb hb zU=>by
      rw[bC.block b (by omega) (by show b≠g';omega),bB.out,AR _ _ _ _ (by show b≠g;exact zU)];exact dF.out b hb
     have dG:∀o,w8.cell? ⟨g,o,Y⟩=w7.cell? ⟨g,o,Y⟩:=λo=>bC.cell (p:=⟨g,o,Y⟩) (by show g<_;omega) fS;have zK:∀o,o≠k*4+3->w8.cell? ⟨g,o,Y⟩=w4.cell? ⟨g,o,Y⟩:=λo ho=>by
      rw[dG,bB.out,AL _ _ _ _ (λe=>ho (AX Addr.off e).symm)];exact AT (dF.out g aL.2)
     have dH:w8.cell? ⟨g,k*4+3,Y⟩=I (.slice (I ⟨g',0,Y⟩) (off.length+1) cap'):=by
      rw[dG,bB.out];exact AQ _ _ _ hc6
     have dI:∀b o,b<B->w8.cell? ⟨b,o,Y⟩=w4.cell? ⟨b,o,Y⟩:=λb o hb=>AT (aB b (by omega) (by omega))
     have aA:Hid (QY nA nc c ls k d w w1.heap.size g cap w8):=Ay (by
      have dJ:cA (c.h k).off d=Kv (off++[d]):=by rw[<-HEO.out];exact HOA.out
      refine⟨KT.gr (T:=(·=g')) (fR.out.setCell (p:=⟨g,k*4+3,Y⟩) (by show _<=g;omega) _) (bB.out▸bC) (by rintro b rfl;omega),(AT (aB w.heap.size (by omega) (by omega))).trans dA,(AT (aB w.heap.size (by omega) (by omega))).trans dB,(aB _ (by omega) (by omega)).trans bJ.out,⟨by omega,by omega,by omega⟩,λi hi=>?_,?_,λzU=>⟨g,0,rfl,⟨by omega,by omega⟩,λi x hi=>?_⟩⟩
      .rw[AT (a:=⟨w1.heap.size,i,Y⟩) (aB w1.heap.size (by omega) (by omega)),(Gx bK.out).1 i]
       match i,hi with
       |0,_=>rfl
       |1,_=>rfl
       |2,_=>rfl
       |3,_=>rfl
       |4,_=>rfl
      .exact fX (d9.out.keep dI) λb hb=>⟨by omega,by omega⟩
      .rw[AO];obtain⟨rfl,rfl⟩|⟨hik,h⟩:=Na hi aN
       .obtain⟨q0,q1,q2,_⟩:=bA.out i _ aO;refine⟨(zK _ (by omega)).trans q0,(zK _ (by omega)).trans q1,(zK _ (by omega)).trans q2,I ⟨g',0,Y⟩,cap',?_,?_⟩
        .rw[dH,dJ,lr];simp
        .rw[dJ];exact λ_=>⟨g',0,rfl,⟨by omega,by omega⟩,λj y hj=>by rw[AO];exact hs8 j y hj⟩
       .obtain⟨q0,q1,q2,A2,m2,q3,q4⟩:=bA.out i x h
        exact⟨(zK _ (by omega)).trans q0,(zK _ (by omega)).trans q1,(zK _ (by omega)).trans q2,A2,m2,(zK _ (by omega)).trans q3,fX (q4.keep dI) λb hb=>⟨by omega,by omega⟩⟩)
     have fT:=aA.out.c0;have zj:=aA.out.c1;clear bC hs8 aB dG zK dH dI hc6 hf6;go_wp2_with fail;obtain⟨wz,rfl⟩:∃wz,wz=w8:=⟨_,rfl⟩
    all_goals
     have aF:=cN.out k HE.out rfl aN cX.out.symm;have bY:=ux c k d;obtain⟨c',hc'⟩:∃c',c'=G8 c k d:=⟨_,rfl⟩;have bZ:c'.DW=c.DW:=by rw[hc'];rfl
     have dK:=aA.out.RF;rw[<-hc'] at dK aF bY;have zG:=wV nA (I ⟨g,0,Y⟩) nc cap c' wz _ (λb hb=>hb.1) (by rw[bZ];exact aA.out.DW) dK (by omega);unfold Ef at zG;rw[bZ,bY] at zG;have HST:=Ay zG;have HC':=Ay hc';have aY:=Ay aF;have bM:=Ay (uy HE.out fM);have e8:=aA.out.lt;clear zG hc' aF dK cR cS eC bR bT aC b9 HNB aU bH bJ eE bK cQ HN d9 HH eH eF cV cW d8 bA eJ HE4 HCF cM HW HW4 cN dA dB
     refine HST.out.mono ?_;rintro e w9 ⟨rfl,bD,g9,cap9,hg9l,hK9⟩;have hz9:=bD.size;have aM:∀i,i<5->w9.cell? ⟨w1.heap.size,i,Y⟩=I (.int .u8 (D4 ls i:Nat)):=λi hi=>(bD.cell (p:=⟨w1.heap.size,i,Y⟩) e8.2.1).trans (aA.out.given i hi);obtain⟨v0,v1,v2,v3,v4⟩:=JP aM;have eZ:=Ay aM;have hn9:w9.heap[w.heap.size+1]?=I (G #[J U 0] 3 (0,0)):=(bD.below.block _ (by omega)).trans aA.out.nb
     have HN9:=Ay hn9;have dL:=Ay hK9;have fU:=Ay bD;have hb12:w1.heap.size<w9.heap.size:=by omega
     clear aM hn9 hK9 bD HST
     try clear fT zj
     obtain⟨a6,aG⟩:∃a6:E,a6=(w9.alloc (G #[.int .u8 (D4 ls 0),.int .u8 (D4 ls 1),.int .u8 (D4 ls 2),.int .u8 (D4 ls 3),.int .u8 (D4 ls 4)] 72)).alloc (G #[.bool bb] 4):=⟨_,rfl⟩;have aH:Gr w9 a6:=by rw[aG];exact((Gr.refl w9).alloc _).alloc _
     have bN:a6.heap.size=w9.heap.size+2:=by rw[aG];simp
     have c5:a6.heap[w9.heap.size]?=I (.cells (Ny (D4 ls)) 72 (0,0)):=by
      rw[aG,ae _ _ (by simp)];exact C w9 _
     have hsome:a6.heap[w9.heap.size+1]?=I (G #[.bool bb] 4 (0,0)):=by
      rw[aG];have:=C (w9.alloc (G #[.int .u8 (D4 ls 0),.int .u8 (D4 ls 1),.int .u8 (D4 ls 2),.int .u8 (D4 ls 3),.int .u8 (D4 ls 4)] 72)) (G #[.bool bb] 4)
      rwa [C3] at this
     have f5:Hid (J5 (D4 ls) w9.heap.size (w9.heap.size+1) (w.heap.size+1) Y a6):=Ay ⟨c5,hsome,(aH.below.block _ (by omega)).trans HN9.out⟩;obtain⟨T0,bE⟩:∃T0:Nat->Prop,T0=λb=>b=w9.heap.size\/b=w9.heap.size+1\/b=w.heap.size+1:=⟨_,rfl⟩;have bF:=Ay bE;have dM:∀b,T0 b->b<a6.heap.size:=λb hb=>by rw[bE] at hb;omega
     have dN:∀b,(b<wz.heap.size/\b≠w.heap.size+1\/b=wz.heap.size+1\/b=g9)->¬T0 b:=λb hb h=>by
      rw[bE] at h;have:=dL.out.lt b hb;omega
     have dO:¬T0 w1.heap.size:=λh=>by rw[bE] at h;omega
     have aZ:=lY (wz.heap.size+1) 0 EM a6;have hs:=ky (T0:=T0) (n:=0) (r:=EM) (dL.out.keep (w':=a6) aH.size λb o hb=>aH.cell (p:=⟨b,o,Y⟩) (dL.out.lt b hb)) dM dN cn;unfold Fl at aZ;have cB:=Ay aZ;have HS:=Ay hs;have fV:=Ay dM;have fW:=Ay dN;have f6:=Ay dO;have f9:=Ay (fU.out.trans aH);have fA:Hid (∀i,i<5->a6.cell? ⟨w1.heap.size,i,Y⟩=I (.int .u8 (D4 ls i:Nat))):=Ay λi hi=>(aH.cell (p:=⟨w1.heap.size,i,Y⟩) (by show w1.heap.size<_;omega)).trans (eZ.out i hi)
     have dP:=Ay aG;have fB:=Ay bN;clear aG aZ hs dM dN dO bE aH c5 hsome bN;go_wp2_with fail;rw[<-dP.out];refine cB.out.mono ?_;rintro e cD ⟨rfl,b5⟩;have hs:=HS.out;rw[<-b5] at hs;have eL:=Ay hs;have dQ:Gr a6 cD:=by rw[b5];exact(((Gr.refl a6).alloc _).alloc _).alloc _
     have bO:cD.heap.size=a6.heap.size+3:=by rw[b5];simp
     have b6:=Ay dQ;have fC:=Ay bO;clear hs HS bO dQ b5 cB dP v0 v1 v2 v3 v4;go_wp2_with fail;have bN:=fB.out;have bO:=fC.out;rw[<-cr (n:=0)];have fY:Hid (0+c.DW.length=c'.DW.length):=Ay (by rw[bZ];omega);have b7:Hid ((∀x∈En c.DV.length,c'.has x)/\(En c.DV.length).length<=16):=Ay ⟨by rw[<-bY];exact fi aY.out,by rw[<-bY];exact iP aY.out⟩
     refine kR (T0:=T0) (cb:=wz.heap.size+1) (c:=c') (sets:=En c.DV.length) (bc:=a6.heap.size) (br:=a6.heap.size+1) (bn:=a6.heap.size+2) (k:=c.DW.length) (n:=0) (r:=EM)
      aY.out b7.out.1 b7.out.2 rfl fY.out (λ_ _=>rfl) eL.out (λb hb=>AC (fV.out b hb) b6.out.size) rfl
      (λpre W=>J5 (D4 ls) w9.heap.size (w9.heap.size+1) (w.heap.size+1) (F6 (D4 ls) pre) W) (λ_ _ _=>False)
      (λpre W W' h hk=>by
       have fZ:=hk w9.heap.size (by rw[bF.out];exact .inl rfl);have g5:=hk (w9.heap.size+1) (by rw[bF.out];exact .inr (.inl rfl));have e9:=hk (w.heap.size+1) (by rw[bF.out];exact .inr (.inr rfl))
       exact⟨fZ.trans h.MD,g5.trans h.is,e9.trans h.cost⟩) (λc pre W W' h _=>h)
      (by
       have h:=f5.out;have hb:=b6.out.below.block
       exact⟨(hb _ (by omega)).trans h.MD,(hb _ (by omega)).trans h.is,(hb _ (by omega)).trans h.cost⟩) ?_ ?_ (λD j q W _ _ _ h _=>h.elim)
     .intro l pre ρ W hpl aI dR hl1' hl2';have eM:∀i,c'.has (ρ i):=fJ b7.out.1 _ _ _ cn ρ (hpl.subset (by simp));have bP:Hid (∀i,ρ i<16):=Ay λi=>ss (by omega) (eM i);have dS:∀i,i<5->W.cell? ⟨w1.heap.size,i,Y⟩=I (.int .u8 (D4 ls i:Nat)):=λi hi=>by
       rw[aI.cell (p:=⟨w1.heap.size,i,Y⟩) (by show w1.heap.size<_;omega) (by rintro(h|h);exact f6.out h;have h':w1.heap.size=a6.heap.size+1:=h;omega),b6.out.cell (p:=⟨w1.heap.size,i,Y⟩) (by show w1.heap.size<_;omega)];exact fA.out i hi
      have hzW:=aI.size;have HI:=Ay dR;obtain⟨W2,zn⟩:∃W2,W2=W.alloc (G #[.int .u8 (ρ 0),.int .u8 (ρ 1),.int .u8 (ρ 2),.int .u8 (ρ 3),.int .u8 (ρ 4)] 72):=⟨_,rfl⟩;have g7:Hid (KT T0 W W2):=Ay (by rw[zn];exact KT.E4 ((Gr.refl W).alloc _));have eN:Hid (W2.heap[W.heap.size]?=I (.cells (Ny ρ) 72 (0,0))):=Ay (by rw[zn];exact C W _);have HOLD:Hid (∀b,b<W.heap.size->W2.heap[b]?=W.heap[b]?):=Ay λb hb=>by rw[zn];exact ae _ _ hb
      have zD:W2.heap.size=W.heap.size+1:=by rw[zn];simp
      have g8:=Ay zD;have eO:=Ay zn;have dT:=Ay dS;clear hpl aI dR eM dS zn zD;unfold Fl
      gi_wp2
      rw[<-eO.out];refine⟨g7.out,λo=>?_⟩;clear eO;have gB:∀b,b<cD.heap.size->b≠l:=λb hb=>by omega
      have dU:J5 (D4 ls) w9.heap.size (w9.heap.size+1) (w.heap.size+1) (F6 (D4 ls) pre) (W2.putObj l o):=by
       have h:=HI.out;have e:∀b,b<cD.heap.size->(W2.putObj l o).heap[b]?=W.heap[b]?:=λb hb=>(S (gB b hb)).trans (HOLD.out b (by omega));exact⟨(e _ (by omega)).trans h.MD,(e _ (by omega)).trans h.is,(e _ (by omega)).trans h.cost⟩
      have dV:∀i,i<5->(W2.putObj l o).cell? ⟨W.heap.size,i,Y⟩=I (.int .u8 (ρ i:Nat)):=λi hi=>by
       rw[(Gx (W:=W2.putObj l o) ((S (by omega)).trans eN.out)).1 i];exact wW ρ hi
      have dW:∀i,i<5->(W2.putObj l o).cell? ⟨w1.heap.size,i,Y⟩=I (.int .u8 (D4 ls i:Nat)):=λi hi=>by
       rw[cC (by show w1.heap.size≠l;omega),AT (a:=⟨w1.heap.size,i,Y⟩) (HOLD.out w1.heap.size (by omega))];exact dT.out i hi
      have hz3:(W2.putObj l o).heap.size=W.heap.size+1:=by simp[World.putObj];exact g8.out
      obtain⟨W3,hW3⟩:∃W3,W3=W2.putObj l o:=⟨_,rfl⟩;rw[<-hW3] at dU dV dW hz3 ⊢;have cE:=Ay dU;have aQ:=Ay dV;have H12:=Ay dW;have HZ3:=Ay hz3;clear hW3 dU dV dW HI eN HOLD dT hz3
      gi_wp2
      gi_loopw [18,84] (λv i wr=>∃(j m:Nat),j<=5/\i=J U j/\v=J U (FM ρ (D4 ls) j:Nat)/\wr=W3.drewN m) (λ_ i _=>5-(z i).toNat)
      case atStart=>exact⟨0,0,by omega,rfl,rfl,rfl⟩
      case round =>
       obtain⟨j,m,hj,rfl,rfl,rfl⟩:=hrel;by_cases hj5:j<5
       .have c17:W3.cell? ⟨W.heap.size,j,Y⟩=I (.int .u8 (ρ j:Nat)):=aQ.out j hj5;have c12:W3.cell? ⟨w1.heap.size,j,Y⟩=I (.int .u8 (D4 ls j:Nat)):=H12.out j hj5;have hx:=mK ⟨ρ j,bP.out j⟩ ⟨D4 ls j,bM.out j⟩;have gC:=ph (a:=ρ) (b:=D4 ls) (λi hi=>(mK ⟨ρ i,bP.out i⟩ ⟨D4 ls i,bM.out i⟩).2) j hj;have cF:Hid (FM ρ (D4 ls) (j+1)=FM ρ (D4 ls) j+(wl (ρ j ^^^ D4 ls j)).length):=Ay rfl
        have bQ:=pg ⟨ρ j ^^^ D4 ls j,hx.2⟩;have dY:=Ay (λw=>yr (ρ j ^^^ D4 ls j) w hx.2);simp only at hx bQ;obtain⟨hx1,hx2⟩:=hx;generalize ρ j ^^^ D4 ls j=X at hx1 hx2 bQ dY cF;generalize ρ j=x at c17 hx1;generalize D4 ls j=y at c12 hx1;generalize FM ρ (D4 ls) j=q at gC cF;generalize (wl X).length=L at cF bQ dY
        gi_wp2
        refine fy (F:=Fence.wide) rfl (by kernel_rfl) (by kernel_rfl) (by kernel_rfl) ?_
        repeat (gi_big_quiet_step (fail))
        refine wpQuietIn_step (λw _ f _=>trivial) (λK hK=>?_);go_simp;apply Exists.intro;refine⟨λ_=>?_,hK _ ?_⟩
        .exact⟨rfl,(callsIn_wide.2 (dY.out _)).mono λe w' h=>⟨h.1,_,h.2.symm⟩⟩
        clear hK K
        repeat (gi_big_quiet_step (fail))
        refine wpQuietIn_nil ?_;intro _ hw';obtain⟨nq,hw''⟩:=hw';subst hw''
        gi_wp2
        go_roundw
        case rel=>exact⟨j+1,m+nq,by omega,by go_num,by rw[cF.out];first|rfl|(congr 1;omega),rfl⟩
        case measure=>simp[Proofs.intOf];omega
       .have fD:j=5:=by omega
        subst fD;have cG:=cE.out;have HF5:=ph (a:=ρ) (b:=D4 ls) (λi hi=>(mK ⟨ρ i,bP.out i⟩ ⟨D4 ls i,bM.out i⟩).2) 5 (AA _);have bG:=Ay (gy (D4 ls) pre ρ);obtain⟨cH,nb1,nb2⟩:=one_cell cG.is;obtain⟨aR,nc1,nc2⟩:=one_cell cG.cost;obtain⟨a8,aJ,nd2⟩:=Gx cG.MD;have p0:=aQ.out 0 (by omega);have p1:=aQ.out 1 (by omega);have p2:=aQ.out 2 (by omega);have p3:=aQ.out 3 (by omega)
        have p4:=aQ.out 4 (by omega);have d0:=a8 0;have d1:=a8 1;have d2:=a8 2;have d3:=a8 3;have d4:=a8 4;have f0:=aJ 0;have f1:=aJ 1;have f2:=aJ 2;have f3:=aJ 3;have f4:=aJ 4;generalize F6 (D4 ls) pre=o' at cH aR d0 d1 d2 d3 d4 bG cE;simp only[Ny,Bg,Bd,Be] at d0 d1 d2 d3 d4;clear cG a8 aJ;have dZ:Hid (T0 w9.heap.size/\T0 (w9.heap.size+1)/\T0 (w.heap.size+1)):=Ay (by rw[bF.out];exact⟨.inl rfl,.inr (.inl rfl),.inr (.inr rfl)⟩)
        have eP:KT T0 W3 (W3.drewN m):=KT.E4 ((Gr.refl W3).drewN m);have e5:=Ay eP;have hw9:w.heap.size+1<w9.heap.size:=by omega
        clear eP;obtain⟨q5,hq5⟩:∃q,q=FM ρ (D4 ls) 5:=⟨_,rfl⟩;rw[<-hq5] at HF5 bG ⊢;clear hq5;have HP:=Ay ((cE.out.drewN m).put (by omega) (by omega) (by omega) ρ q5 T0 dZ.out.1 dZ.out.2.1 dZ.out.2.2);cases o' with
        |none =>
         gi_wp2
         refine⟨e5.out.trans HP.out.2,?_⟩;show J5 _ _ _ _ (F6 _ (pre++[ρ])) _;rw[bG.out];exact HP.out.1
        |some p =>
         obtain⟨p1,n0⟩:=p;simp only[ck,Pa] at cH aR;by_cases zY:q5<n0
         .have fE:(q5:Int)<(n0:Int):=by omega
          gi_wp2
          refine⟨e5.out.trans HP.out.2,?_⟩;show J5 _ _ _ _ (F6 _ (pre++[ρ])) _;rw[bG.out];simp only[AF zY];exact HP.out.1
         .have fE:¬(q5:Int)<(n0:Int):=by omega
          gi_wp2
          refine⟨e5.out,?_⟩;show J5 _ _ _ _ (F6 _ (pre++[ρ])) _;rw[bG.out];simp only[AD zY];exact cE.out.drewN m
     .intro D W hD aI hi hd;have hw9:w.heap.size+1<w9.heap.size:=by omega
      have hGW:Gr w W:=KT.gr (T:=λb=>T0 b\/b=a6.heap.size+1) (aA.out.gr.trans (f9.out.trans b6.out)) aI (by
       rintro b (h|h)
       .rw[bF.out] at h;omega
       .omega)
      have hzW:=aI.size;have eQ:Hid (F6 (D4 ls) (Eh (G8 c k d) (En c.DV.length) c.DW.length EM 0)=F6 (D4 ls) (Eh c' (En c.DV.length) c.DW.length EM 0)):=Ay (by rw[HC'.out]);have aK:∀p,F6 (D4 ls) (Eh c' (En c.DV.length) c.DW.length EM 0)=I p->∀i,i<5->p.1 i<16:=λp hp i _ =>
       ss (by omega) (fJ b7.out.1 _ _ _ cn p.1 (rU _ _ p rfl hp) i)
      obtain⟨o',e6⟩:∃o',o'=F6 (D4 ls) (Eh c' (En c.DV.length) c.DW.length EM 0):=⟨_,rfl⟩;rw[<-e6] at aK eQ hi;have HNR2:=Ay e6
      have cI:Hid (∀e w',Gr w w'->(match o' with
       |none=>e=.returned (.tuple #[.slice Y 0 0,J U 0,J U 11])
       |some p=>∃A k,e=.returned (.tuple #[Z A c.DW.length k,J U p.2,J U 0])/\ER w' w'.heap.size A (Ew p.1 c.DW.length))->cT c ls k d w e w'):=Ay λe w' hg h=>by
        refine⟨hg,?_⟩;rw[AD (by simp[HE.out]),AD (by rw[show FC (k:Int) 0 (c.DV.length-1)=cw by unfold FC;simp;omega,<-cX.out];simp),show((k:Int)).toNat=k from rfl,eQ.out];exact h
      have hcc:W.cell? ⟨wz.heap.size+1,0,Y⟩=I (Z nA c.DW.length nc):=by
       rw[aI.cell (p:=⟨wz.heap.size+1,0,Y⟩) (by show wz.heap.size+1<_;omega) (by rintro(h|h);exact fW.out _ (.inr (.inl rfl)) h;have h':wz.heap.size+1=a6.heap.size+1:=h;omega)];have:=eL.out.F4.c0
       rwa [bZ] at this
      obtain⟨cH,nb1,nb2⟩:=one_cell hi.is;obtain⟨aR,nc1,nc2⟩:=one_cell hi.cost;obtain⟨a8,aJ,nd2⟩:=Gx hi.MD;have eR:=Ay hGW;have cJ:=Ay hd;have cK:D≠w.heap.size+1:=by omega
      have fF:wz.heap.size+1<W.heap.size:=by omega
      have fG:=Ay aK;clear aI hi hGW hd e6 aK;cases o' with
      |none =>
       have HDS:Hid ((W.setCell ⟨w.heap.size+1,0,Y⟩ (J U 0)).heap[D]?=I (.deferred (I []))):=Ay ((AR _ _ _ _ cK).trans cJ.out);go_wp2;refine dX HDS.out (v:=.tuple #[.slice Y 0 0,J U 0,J U 11]) ?_ (cI.out _ _ ((eR.out.setCell (by show _<=w.heap.size+1;omega) _).putObj (by omega) _) rfl);have:=cC (W:=W.setCell ⟨w.heap.size+1,0,Y⟩ (J U 0)) (D:=D) (o:=.deferred Y) (p:=⟨w.heap.size+1,0,Y⟩) (Ne.symm cK)
       rw[AQ _ _ _ aR] at this;simp[results,V,go_sem,this]
      |some p =>
       obtain⟨p1,n0⟩:=p;have HL:=Ay (oU (wz.heap.size+1) nA c.DW.length nc p1 W.drew fF hcc fL (fG.out _ rfl));have d0:=a8 0;have d1:=a8 1;have d2:=a8 2;have d3:=a8 3;have d4:=a8 4;simp only[Ny,QZ,Bg,Bd,Be] at d0 d1 d2 d3 d4;simp only[ck,Pa] at cH aR;unfold Fl at HL;clear a8 aJ;go_wp2;refine lN ?_;go_region_with (first|(go_at_call 41;refine HL.out.mono ?_;rintro e w3 ⟨A3,c3,xs3,rfl,eT,zH⟩;have q0:=(zH.cell (p:=⟨w.heap.size+1,0,Y⟩) (by show w.heap.size+1<W.heap.size;omega)).trans aR;have q1:=(zH.frozen (p:=⟨w.heap.size+1,0,Y⟩) (by show w.heap.size+1<W.heap.size;omega)).trans nc1;have aC:=Ay zH;have gD:=Ay eT;clear zH eT))
       all_goals
        go_wp2;have hz3:=aC.out.size;have hz3':W.heap.size<=w3.heap.size:=hz3;have hD3:(w3.setCell ⟨w.heap.size+1,0,Y⟩ (J U (n0:Nat))).heap[D]?=I (.deferred (I [])):=(AR _ _ _ _ cK).trans ((aC.out.below.block D (Az.1 cJ.out).1).trans cJ.out);have fH:Ec ((w3.setCell ⟨w.heap.size+1,0,Y⟩ (J U (n0:Nat))).putObj D (.deferred Y)) (W.drew.heap.size+1) (Z A3 c.DW.length c3) (Ew p1 c.DW.length) xs3:=gD.out.keep' λb hb hl=>by
         have hDl:=(Az.1 cJ.out).1;have hb':W.heap.size+1<=b:=hb;rw[S (by omega),AR _ _ _ _ (by show b≠w.heap.size+1;omega)]
        obtain⟨A4,c4,e4,fI⟩:=fH.J4;rw[EE] at e4;refine dX hD3 (v:=.tuple #[Z A3 c.DW.length c3,J U (n0:Nat),J U 0]) ?_ (cI.out _ _ (((eR.out.drew.trans aC.out).setCell (by show _<=w.heap.size+1;omega) _).putObj (by omega) _) ⟨A4,c4,by rw[e4],fI⟩);have:=cC (W:=w3.setCell ⟨w.heap.size+1,0,Y⟩ (J U (n0:Nat))) (D:=D) (o:=.deferred Y) (p:=⟨w.heap.size+1,0,Y⟩) (Ne.symm cK)
        rw[AQ _ _ _ q0] at this;simp[results,V,go_sem,this]
 .rw[AD hE] at hf;obtain⟨p,r,rfl⟩:=hf;have HE:=Ay hE;obtain⟨q,hq⟩:∃q,q=Ek c ls:=⟨_,rfl⟩;rw[<-hq] at hE ⊢;have HQ:=Ay hq;have hqe:(q != 0)=true:=by simp[hE]
  obtain⟨aD,bU,cP⟩:=one_cell aU.out;have HX:=Ay (show Gr w (w1.alloc (G #[.int .u8 (r 0),.int .u8 (r 1),.int .u8 (r 2),.int .u8 (r 3),.int .u8 (r 4)] 72)) from bT.out.alloc _);clear hE hq zJ aT;unfold Fl;go_wp2;have hres:((w1.setCell ⟨w.heap.size+1,0,Y⟩ (J U 0)).alloc (G #[.int .u8 (r 0),.int .u8 (r 1),.int .u8 (r 2),.int .u8 (r 3),.int .u8 (r 4)] 72)).cell? ⟨w.heap.size+1,0,Y⟩=I (J U 0):=by
   rw[AW _ _ _ (by simp[H];exact cP)];exact AQ _ _ _ aD
  refine fO (v:=.tuple #[.slice Y 0 0,J U 0,J U q]) (by simp[results,V,go_sem,hres]) ⟨(bT.out.setCell (by show _<=w.heap.size+1;omega) _).alloc _,?_⟩;rw[AF HE.out,HQ.out]
def cv (A A':Option bl)(c c':Nat)(l m:List Int)(w:E)(B:Nat)(hB:B<=w.heap.size)(h:RI w B A l)(h':RI w B A' m)(hl:l.length<=4611686018427387904)(hm:m.length<=4611686018427387904) :
  u DU 18 #[Z A l.length c,Z A' m.length c'] w λe w'=>e=.returned (.bool (O (l=m)))/\Gr w w':=by
 have HR:=Ay h;have a6:=Ay h';go_enter Sq.func18,Tryz.ntmps18;by_cases zl:l.length=m.length
 .go_wp2;go_loopw [5] (λi wr=>∃k:Nat,k<=l.length/\i=J U k/\l.take k=m.take k/\Gr w wr) (λi _=>l.length-(z i).toNat)
  case atStart=>exact⟨0,by omega,rfl,by simp,.refl _⟩
  case round =>
   obtain⟨k,hk,rfl,heq,hg⟩:=hrel;have HG:=Ay hg;have HE:=Ay heq;by_cases zY:k<l.length
   .obtain⟨b,o,rfl,hb,hc⟩:=(HR.out.gr hB HG.out).at_ zY;obtain⟨b',o',rfl,hb',hc'⟩:=(a6.out.gr hB HG.out).at_ (show k<m.length by omega);have HD:=Ay (wC l m k zY (by omega));generalize l[k]?.getD 0=x at hc HD;generalize m[k]?.getD 0=y at hc' HD;by_cases h1:x=y
    .have HS:=Ay (HD.out.1 HE.out h1);subst h1;clear HD;go_wp2;go_region;go_wp2;go_roundw
     case rel=>exact⟨k+1,by omega,by go_num,HS.out,HG.out.drew⟩
     case measure=>simp[Proofs.intOf];omega
    .have HS:=Ay (HD.out.2 h1);have zU:O (x≠y)=true:=by simp[h1]
     go_wp2;go_region;go_wp2;go_ret;exact⟨au (by simp[HS.out]),HG.out.drew⟩
   .have a7:k=l.length:=by omega
    have HS:=Ay (show l=m by have:=HE.out;rw[a7,Bb (by omega),Bb (by omega)] at this;exact this);go_wp2;go_ret;exact⟨au (by simp[HS.out]),HG.out⟩
 .have zU:l≠m:=λe=>zl (by rw[e]);have HN:=Ay zU;go_wp2;go_ret;exact⟨au (by simp[HN.out]),.refl _⟩
def ef (A A':Option bl)(c c':Nat)(l m:List (List Int))(w:E)(B:Nat)(hB:B<=w.heap.size)(h:ER w B A l)(h':ER w B A' m)(hl:l.length<=4611686018427387904)(hm:m.length<=4611686018427387904)
  (zC:∀x∈l,x.length<=4611686018427387904) (aC:∀x∈m,x.length<=4611686018427387904) :
  u DU 17 #[Z A l.length c,Z A' m.length c'] w λe w'=>e=.returned (.bool (O (l=m)))/\Gr w w':=by
 have HR:=Ay h;have aG:=Ay h';have aH:=Ay zC;have aI:=Ay aC;clear h h' zC aC;go_enter Sq.func17,Tryz.ntmps17;by_cases zl:l.length=m.length
 .rw[<-zl];have HLEN:=Ay zl;clear zl;have aD:∀k,k<l.length->k<m.length:=λk hk=>by have:=HLEN.out;omega
  have a8:=Ay aD;clear aD;go_wp2;go_loopw [5] (λi wr=>∃k:Nat,k<=l.length/\i=J U k/\l.take k=m.take k/\Gr w wr) (λi _=>l.length-(z i).toNat)
  case atStart=>exact⟨0,by omega,rfl,by simp,.refl _⟩
  case round =>
   obtain⟨k,hk,rfl,heq,hg⟩:=hrel;have HG:=Ay hg;have HE:=Ay heq;clear hg heq;by_cases zY:k<l.length
   .obtain⟨b,o,A1,c1,rfl,hb,hc,hr⟩:=(HR.out.gr hB HG.out).at_ zY;obtain⟨b',o',A2,c2,rfl,hb',hc',a7⟩:=(aG.out.gr hB HG.out).at_ (a8.out k zY);have HD:=Ay (ug l m k zY (a8.out k zY));have hx:=aH.out _ (gw l k zY);have hy:=aI.out _ (gw m k (a8.out k zY));generalize l[k]?.getD []=x at hc HD hr hx;generalize m[k]?.getD []=y at hc' HD a7 hy;have zx:=HG.out.size;have a6:Hid (∀q,q=wr\/q=wr.drew->u DU 18 #[Z A1 x.length c1,Z A2 y.length c2] q λe w'=>e=.returned (.bool (O (x=y)))/\Gr q w'):=Ay λq hq=>by
     obtain rfl|rfl:=hq
     .exact cv A1 A2 c1 c2 x y _ B (by omega) hr a7 hx hy
     .exact cv A1 A2 c1 c2 x y _ B (by show B<=wr.heap.size;omega) hr a7 hx hy
    clear hr a7 hx hy;by_cases h1:x=y
    .have HS:=Ay (HD.out.1 HE.out h1);have aA:Hid (∀q,q=wr\/q=wr.drew->u DU 18 #[Z A1 x.length c1,Z A2 y.length c2] q λe w'=>e=.returned (.bool cw)/\Gr q w'):=Ay λq hq=>(a6.out q hq).mono λe w' h=>⟨h.1.trans (au (by simp[h1])),h.2⟩;clear h1 HD a6;go_wp2;go_region_with (first|(go_at_call 18;refine(aA.out _ (by first|exact Or.inl rfl|exact Or.inr rfl)).mono ?_;rintro e w3 ⟨rfl,zH⟩;have q0:=(zH.cell (p:=⟨b,o+k,Y⟩) (by show b<wr.heap.size;omega)).trans hc;have q1:=(zH.cell (p:=⟨b',o'+k,Y⟩) (by show b'<wr.heap.size;omega)).trans hc';have aB:=Ay (show Gr w w3 from(by first|exact HG.out.trans zH|exact HG.out.drew.trans zH));clear zH))
     all_goals
      go_wp2;go_roundw
      case rel=>exact⟨k+1,by omega,by go_num,HS.out,aB.out⟩
      case measure=>simp[Proofs.intOf];omega
    .have HS:=Ay (HD.out.2 h1);have aA:Hid (∀q,q=wr\/q=wr.drew->u DU 18 #[Z A1 x.length c1,Z A2 y.length c2] q λe w'=>e=.returned (.bool bb)/\Gr q w'):=Ay λq hq=>(a6.out q hq).mono λe w' h=>⟨h.1.trans (au (by simp[h1])),h.2⟩;clear h1 HD a6;go_wp2;go_region_with (first|(go_at_call 18;refine(aA.out _ (by first|exact Or.inl rfl|exact Or.inr rfl)).mono ?_;rintro e w3 ⟨rfl,zH⟩;have q0:=(zH.cell (p:=⟨b,o+k,Y⟩) (by show b<wr.heap.size;omega)).trans hc;have q1:=(zH.cell (p:=⟨b',o'+k,Y⟩) (by show b'<wr.heap.size;omega)).trans hc';have aB:=Ay (show Gr w w3 from(by first|exact HG.out.trans zH|exact HG.out.drew.trans zH));clear zH))
     all_goals
      go_wp2;go_ret;exact⟨au (by simp[HS.out]),aB.out⟩
   .have aF:k=l.length:=by omega
    have HS:=Ay (show l=m by have:=HE.out;rw[aF,Bb (by omega),Bb (by have:=HLEN.out;omega)] at this;exact this);clear aF;go_wp2;go_ret;exact⟨au (by simp[HS.out]),HG.out⟩
 .have zU:l≠m:=λe=>zl (by rw[e]);have HN:=Ay zU;clear zU;go_wp2;go_ret;exact⟨au (by simp[HN.out]),.refl _⟩
structure Hand (w:E)(hb B:Nat)(A:Option bl)(cap:Nat)(l:List Int)(N:Nat):Prop where
 obj:∃n:Nat,∃s:Int,w.heap[hb]?=I (G #[Z A l.length cap,J U n,.int .u64 s] 62 (0,0))/\n<=N
 NB:RI w B A l
 apart:B<=hb
def Hand.lt {w:E}{hb B:Nat}{A:Option bl}{cap:Nat}{l:List Int}{N:Nat}(h:Hand w hb B A cap l N):hb<w.heap.size:=by
 obtain⟨n,s,h1,_⟩:=h.obj;exact(Az.1 h1).1
def Hand.more {w:E}{hb B:Nat}{A:Option bl}{cap:Nat}{l:List Int}{N M:Nat}(h:Hand w hb B A cap l N)(hm:N<=M):Hand w hb B A cap l M:=by
 obtain⟨n,s,h1,h2⟩:=h.obj;exact⟨⟨n,s,h1,by omega⟩,h.NB,h.apart⟩
def Hand.gr {w w':E}{hb B:Nat}{A:Option bl}{cap:Nat}{l:List Int}{N:Nat}(h:Hand w hb B A cap l N)(hg:Gr w w'):Hand w' hb B A cap l N:=by
 have hl:=h.lt;obtain⟨n,s,h1,h2⟩:=h.obj;exact⟨⟨n,s,(hg.below.block hb hl).trans h1,h2⟩,h.NB.gr (by have:=h.apart;omega) hg,h.apart⟩
abbrev KH (hb:Nat)(w w':E):Prop:=KT (·=hb) w w'
def j8 (x y:Int):0<=bits BinOp.xor IntKind.u64 x y:=by
 unfold bits cu;have h:IntKind.u64.signed=false:=rfl;simp only[h,B9,AZ,if_false];exact bw _ (by decide)
def yv (hb B:Nat)(A:Option bl)(cap:Nat)(l:List Int)(N:Nat)(w:E)(h:Hand w hb B A cap l N)(hN:N<=1048576) :
  u DU 30 #[.pointer (I ⟨hb,0,Y⟩)] w λe w'=>(∃v:Int,e=.returned (.int .u64 v)/\0<=v)/\Hand w' hb B A cap l (N+1)/\KH hb w w':=by
 obtain⟨n,s,a6,hn⟩:=h.obj;have HH:=Ay h;have c0:w.cell? ⟨hb,0,Y⟩=I (Z A l.length cap):=by unfold bs;rw[a6];rfl
 have c1:w.cell? ⟨hb,1,Y⟩=I (J U n):=by unfold bs;rw[a6];rfl
 have c2:w.cell? ⟨hb,2,Y⟩=I (.int .u64 s):=by unfold bs;rw[a6];rfl
 have f1:w.frozen? ⟨hb,1,Y⟩=false:=by unfold cq;rw[a6];rfl
 have f2:w.frozen? ⟨hb,2,Y⟩=false:=by unfold cq;rw[a6];rfl
 have HO:=Ay a6;clear h a6;have key : ∀ (v x y : Int) (W : E), W.heap = ((w.setCell ⟨hb, 1, Y⟩ (J U (n + 1 : Nat))).setCell ⟨hb, 2, Y⟩ (.int .u64 y)).heap -> W.os = w.os -> W.tape = w.tape -> W.output = w.output -> w.drawn <= W.drawn -> 0 <= v ->
   (∃v':Int,bh (.int .u64 v)=.returned (.int .u64 v')/\0<=v')/\Hand W hb B A cap l (N+1)/\KH hb w W:=λv x y W hW e1 e2 e3 e4 hv=>by
  have hB:=HH.out.apart;have zY:=HH.out.lt;have a7:∀b,b≠hb->W.heap[b]?=w.heap[b]?:=λb zU=>by
   rw[hW,AR _ _ _ _ zU,AR _ _ _ _ zU]
  refine⟨⟨v,rfl,hv⟩,⟨⟨n+1,y,?_,by omega⟩,HH.out.NB.keep λb o hb'=>AT (a7 b (by omega)),hB⟩,⟨e1,e2,e3,e4,?_,λb _ zU=>a7 b zU⟩⟩
  .rw[hW];exact aI (aI HO.out)
  .rw[hW];simp[H]
 have HKEY:=Ay key;clear key;go_enter Sq.func30,Tryz.ntmps30;by_cases zY:n<l.length
 .obtain⟨b,o,rfl,hb',a8⟩:=HH.out.NB.at_ zY;generalize l[n]?.getD 0=x at a8;go_wp2;go_region
  all_goals
   go_wp2;go_region
   all_goals
    go_wp2;go_ret;refine HKEY.out _ 0 _ _ rfl rfl rfl rfl (by simp[df,H]<;>omega) ?_;exact cf (j8 _ _) (by omega)
 .go_wp2;go_region
  all_goals
   go_wp2;go_ret;refine HKEY.out _ 0 _ _ rfl rfl rfl rfl (by simp[df,H]<;>omega) ?_;exact cf (j8 _ _) (by omega)
def fm (hb B:Nat)(A:Option bl)(cap:Nat)(l:List Int)(N:Nat)(m:Int)(w:E)(h:Hand w hb B A cap l N)(hN:N<=1048576)(hm:m<=1048576) :
  u DU 10 #[.pointer (I ⟨hb,0,Y⟩),J U m] w λe w'=>(∃k:Nat,e=.returned (J U k)/\((k:Int)<=m\/k=0))/\Hand w' hb B A cap l (N+1)/\KH hb w w':=by
 have HP:=Ay (yv hb B A cap l N w h hN);have HH:=Ay h;go_enter Sq.func10,Tryz.ntmps10;by_cases a7:m<=0
 .go_wp2;go_ret;exact⟨⟨0,rfl,.inr rfl⟩,HH.out.more (by omega),KT.refl _ _⟩
 .go_wp2_with fail;refine HP.out.mono ?_;rintro e w' ⟨⟨v,rfl,hv⟩,hh,hk⟩;have a6:=Ay hh;have HK:=Ay hk;have h1:IntKind.u64.wrap (m+1)=m+1:=by simp[cu,IntKind.bits,IntKind.signed];omega
  have h2:v % (m+1)<m+1:=Int.emod_lt_of_pos _ (by omega);have h3:0<=v % (m+1):=bw _ (by omega);go_wp2;go_ret;obtain⟨k,hk⟩:∃k:Nat,v % (m+1)=k:=⟨(v % (m+1)).toNat,by omega⟩;exact⟨⟨k,by show bh (J U (v % (m+1)))=_;rw[hk],.inl (by omega)⟩,a6.out,HK.out⟩
def eO (hb B:Nat)(A:Option bl)(cap:Nat)(l:List Int)(N:Nat)(lo hi:Int)(w:E)(h:Hand w hb B A cap l N)(hN:N<=1048576)(h1:0<=lo/\lo<=1048576)(h2:lo<=hi/\hi<=1048576) :
  u DU 25 #[.pointer (I ⟨hb,0,Y⟩),J U lo,J U hi] w λe w'=>(∃k:Nat,e=.returned (J U k)/\lo<=k/\(k:Int)<=hi)/\Hand w' hb B A cap l (N+1)/\KH hb w w':=by
 have HP:=Ay (fm hb B A cap l N (hi-lo) w h hN (by omega));go_enter Sq.func25,Tryz.ntmps25;go_wp2_with fail;refine HP.out.mono ?_;rintro e w' ⟨⟨k,rfl,hk⟩,hh,a6⟩;have a7:=Ay hh;have HK:=Ay a6;go_wp2;go_ret;obtain⟨q,hq⟩:∃q:Nat,lo+k=q:=⟨(lo+k).toNat,by omega⟩;exact⟨⟨q,by show bh (J U (lo+k))=_;rw[hq],by omega,by omega⟩,a7.out,HK.out⟩
def mO (hb B:Nat)(A A2:Option bl)(cap c2:Nat)(l m:List Int)(N:Nat)(x:Int)(w:E)(h:Hand w hb B A cap l N)(hN:N<=1048576)(hm:m.length<=1048576)(aD:IH w (λb=>b≠hb/\b<w.heap.size) A2 m) :
  u DU 26 #[.pointer (I ⟨hb,0,Y⟩),J U x,Z A2 m.length c2] w λe w'=>(∃k:Int,e=.returned (J U k)/\k∈x::m)/\Hand w' hb B A cap l (N+1)/\KH hb w w':=by
 have HP:=Ay (fm hb B A cap l N m.length w h hN (by omega));have HR:=Ay aD;go_enter Sq.func26,Tryz.ntmps26;go_wp2_with fail;refine HP.out.mono ?_;rintro e w' ⟨⟨k,rfl,hk⟩,hh,a7⟩;have aA:=Ay hh;have HK:=Ay a7;by_cases aB:k=0
 .subst aB;clear hh a7 HP;go_wp2;go_ret;exact⟨⟨x,rfl,B4⟩,aA.out,HK.out⟩
 .have a6:k-1<m.length:=by omega
  obtain⟨b,o,rfl,zq,aC⟩:=HR.out (λe=>by rw[e] at a6;simp at a6);have hc:=aC (k-1) _ (AB a6);have zt:w'.cell? ⟨b,o+(k-1),Y⟩=I (J U m[k-1]):=(AT (a7.block b zq.2 zq.1)).trans hc;have a8:Hid (m[k-1]∈x::m):=Ay (Ci _ (Bh a6));generalize m[k-1]=y at zt a8;have e1:((k:Int)-1)=((k-1:Nat):Int):=by omega
  obtain⟨q,hq⟩:∃q,q=k-1:=⟨_,rfl⟩;rw[<-hq] at zt e1 a6;obtain rfl:k=q+1:=by omega
  clear hh a7 HP aC hc aB hq e1;have e2:((q+1:Nat):Int)-1=(q:Int):=by omega
  go_wp2;go_ret;exact⟨⟨y,rfl,a8.out⟩,aA.out,HK.out⟩
def mP (hb B:Nat)(A:Option bl)(cap:Nat)(l:List Int)(N:Nat)(a b:Int)(w:E)(h:Hand w hb B A cap l N)(hN:N<=1048576)(hb1:0<=b/\b<=1048576) :
  u DU 27 #[.pointer (I ⟨hb,0,Y⟩),J U a,J U b] w λe w'=>(∃v:Bool,e=.returned (.bool v))/\Hand w' hb B A cap l (N+1)/\KH hb w w':=by
 have HP:=Ay (fm hb B A cap l N (b-1) w h hN (by omega));go_enter Sq.func27,Tryz.ntmps27;go_wp2_with fail;refine HP.out.mono ?_;rintro e w' ⟨⟨k,rfl,hk⟩,hh,a6⟩;have a7:=Ay hh;have HK:=Ay a6;go_wp2;go_ret;exact⟨⟨_,rfl⟩,a7.out,HK.out⟩
def sE (A:Option bl)(cap:Nat)(l:List Int)(w:E)(h:RI w w.heap.size A l) :
  u DU 7 #[Z A l.length cap] w λe w'=>e=.returned (.pointer (I ⟨w.heap.size,0,Y⟩))/\Hand w' w.heap.size w.heap.size A cap l 0/\Gr w w':=by
 have HR:=Ay h;go_enter Sq.func7,Tryz.ntmps7;go_wp2;go_ret;exact⟨rfl,⟨⟨0,88172645463325252,C _ _,AA _⟩,HR.out.gr (AA _) ((Gr.refl w).alloc _),AA _⟩,(Gr.refl w).alloc _⟩
def Eo (p:Nat->Bool)(k:Nat):List Int:=((List.range k).filter p).map λn:Nat=>(n:Int)
def iE {p q:Nat->Bool}{k:Nat}(h:∀i,i<k->p i=q i):Eo p k=Eo q k:=by
 unfold Eo;congr 1;exact List.filter_congr λi hi=>h i (Bu.1 hi)
def jc (p:Nat->Bool)(k:Nat):Eo p (k+1)=Eo p k++if p k=cw then[(k:Int)] else[]:=by
 unfold Eo;rw[CN,CI,CQ];cases h:p k<;>simp[h]
def FB {p:Nat->Bool}{k:Nat}{x:Int}:x∈Eo p k↔∃n:Nat,x=n/\n<k/\p n=true:=by
 unfold Eo;simp only[Bf,Ca,Bu];constructor
 .rintro⟨n,⟨h1,h2⟩,rfl⟩;exact⟨n,rfl,h1,h2⟩
 .rintro⟨n,rfl,h1,h2⟩;exact⟨n,⟨h1,h2⟩,rfl⟩
def eJ (p:Nat->Bool)(k:Nat):(Eo p k).length<=k:=by
 unfold Eo;rw[Bq];exact AH (CM _ _) (by simp)
def da (p:Nat->Bool)(k:Nat):(Eo p k).Pairwise (·<·):=by
 unfold Eo;rw[List.pairwise_map];exact(List.Pairwise.filter _ List.pairwise_lt_range).imp λh=>by omega
def ly (p:Nat->Bool)(k:Nat):Fi (Eo p k) k=0:=by
 rw[lf];intro i hi;have h1:=FB.1 (Ge (Eo p k) i hi);obtain⟨n,e,hn,_⟩:=h1;unfold FY;rw[AF (by rw[e];omega),AD];rintro⟨h0,zX⟩;have:=List.pairwise_iff_getElem.1 (da p k) (i-1) i (by omega) hi (by omega);rw[AB hi,AB (by omega)] at zX;simp only[AY] at zX;omega
def FN {w2 w3:E}{base size n:Nat}{e:dn}{v:bo}{xs:List bo}{o:Obj}(zm:w2.ownsRow base e size v n xs)(hg:(w2.alloc o).grownBy w3 v.ownBlock)(b:Nat)(hb:b<base)(hl:b<w2.heap.size):w3.heap[b]?=w2.heap[b]?:=by
 rw[hg.block b (by simp;omega) (dz zm hb),ae _ _ hl]
def gF {w2 w3:E}{v:bo}{o:Obj}(hg:(w2.alloc o).grownBy w3 v.ownBlock):w2.heap.size+1<=w3.heap.size:=by have:=hg.size;simpa using this
def fo {w0 w2 w3:E}{hb base size n:Nat}{e:dn}{v:bo}{xs:List bo}{o:Obj}(hK:KT (·=hb) w0 w2)(zm:w2.ownsRow base e size v n xs)(hbase:w0.heap.size<=base)(hg:(w2.alloc o).grownBy w3 v.ownBlock)(hd:(w2.alloc o).drawn<=w3.drawn):KT (·=hb) w0 w3 :=
 ⟨hg.os.trans hK.os,hg.tape.trans hK.tape,hg.output.trans hK.output,AH hK.drawn hd,by have:=gF hg;have:=hK.size;omega,λb hb' zU=>(FN zm hg b (by omega) (by have:=hK.size;omega)).trans (hK.block b hb' zU)⟩
def dL {w2 w3:E}{hb B cap N base size n:Nat}{A:Option bl}{l:List Int}{e:dn}{v:bo}{xs:List bo}{o:Obj}(h:Hand w2 hb B A cap l N)(zm:w2.ownsRow base e size v n xs)(hbase:hb<base)(hg:(w2.alloc o).grownBy w3 v.ownBlock):Hand w3 hb B A cap l N:=by
 have hl:=h.lt;obtain⟨m,s,ho,hm⟩:=h.obj;exact⟨⟨m,s,(FN zm hg hb hbase hl).trans ho,hm⟩,h.NB.keep λb o hb'=>AT (FN zm hg b (by have:=h.apart;omega) (by have:=h.apart;omega)),h.apart⟩
def mQ {w w':E}{base size n hb:Nat}{v:bo}{e:dn}{xs:List bo}(h:w.ownsRow base e size v n xs)(hb':hb<base)(k:KT (·=hb) w w'):w'.ownsRow base e size v n xs :=
 ar h λg hg hl=>k.block g hl λe=>by have:=(h.lt g hg).1;omega
def yw (hb B:Nat)(A:Option bl)(cap:Nat)(l:List Int)(N n:Nat)(w:E)(h:Hand w hb B A cap l N)(hN:N<=1000000)(hn:n<=64) :
  u DU 67 #[.pointer (I ⟨hb,0,Y⟩),J U n] w λe w'=>∃v p,e=.returned v/\w'.ownsRow w.heap.size 3 1 v (Eo p n).length ((Eo p n).map (J U))/\Hand w' hb B A cap l (N+n)/\KH hb w w':=by
 have HH:=Ay h;have zY:=h.lt;go_enter Sq.func67,Tryz.ntmps67;go_wp2;go_loopw [5,6] (λv i wr=>∃k:Nat,k<=n/\i=J U k/\∃p,wr.ownsRow w.heap.size 3 1 v (Eo p k).length ((Eo p k).map (J U))/\Hand wr hb B A cap l (N+k)/\KH hb w wr) (λ_ i _=>n-(z i).toNat)
 case atStart=>exact⟨0,by omega,rfl,λ_=>false,Bw _ _ _ _,HH.out,KT.refl _ _⟩
 case round =>
  obtain⟨k,hk,rfl,p,zm,hh,a6⟩:=hrel;have hz:=a6.size;have HK:=Ay a6;have HO:=Ay zm;by_cases hlk:k<n
  .have HC:=Ay (mP hb B A cap l (N+k) 1 2 wr hh (by omega) (by omega));go_wp2_with fail;refine HC.out.mono ?_;rintro e w2 ⟨⟨v,rfl⟩,hh,a6⟩;have aA:=Ay (HK.out.trans a6);have hown2:=mQ HO.out zY a6;have a7:=Ay hh;have zD:=a6.size;have aC:=Ay hown2;have HP:=Ay (jc (λj=>if j=k then v else p j) k);have aB:=Ay (iE (p:=λj=>if j=k then v else p j) (q:=p) (k:=k) λi hi=>AD (by omega));have aH:=eJ p k
   cases v with
   |true =>
    go_wp2_with (at_builtin;refine iQ rfl _ _ rfl w.heap.size _ _ _ rfl (hown2.alloc _) ⟨w2.heap.size,0,Y⟩ 1 (J U k) rfl ?c1 rfl ?c2 ?c3 ?_)
    case c1=>rw[AE _ _ _ _ (by simp)];rfl
    case c2=>omega
    case c3=>simp;omega
    intro v' w3 hown' hgrow hd;have aD:=Ay (fo aA.out hown2 (AA _) hgrow hd)
    have a8:Hid (w3.ownsRow w.heap.size 3 1 v' (Eo (λj=>if j=k then cw else p j) (k+1)).length ((Eo (λj=>if j=k then cw else p j) (k+1)).map (J U))):=Ay (by
     rw[HP.out,aB.out,AF (by simp)];simpa using hown')
    have aF:=Ay ((dL a7.out hown2 zY hgrow).more (M:=N+(k+1)) (by omega));go_wp2;go_roundw
    case rel=>exact⟨k+1,by omega,by go_num,_,a8.out,aF.out,aD.out⟩
    case measure=>simp[Proofs.intOf];omega
   |false =>
    have a8:Hid (w2.ownsRow w.heap.size 3 1 _ (Eo (λj=>if j=k then bb else p j) (k+1)).length ((Eo (λj=>if j=k then bb else p j) (k+1)).map (J U))):=Ay (by
     rw[HP.out,aB.out,AD (by simp)];simpa using aC.out)
    go_wp2;go_roundw
    case rel=>exact⟨k+1,by omega,by go_num,_,a8.out,a7.out,aA.out⟩
    case measure=>simp[Proofs.intOf];omega
  .have aG:k=n:=by omega
   subst aG;have a7:=Ay hh;go_wp2;go_ret;exact⟨_,p,rfl,HO.out,a7.out,HK.out⟩
def GC (c:D9):Bool:=(c.DV.take 20).all (λh=>decide (h.off.length<=20))&&O (c.DW.length<=20)&&O (c.DV.length<=20)
def JH (ls:List (List Int)):Bool:=(ls.take 20).all (λl=>decide (l.length<=20))&&O (ls.length<=20)
def NC {c:D9}(h:GC c=cw):c.DW.length<=20/\c.DV.length<=20/\∀x∈c.DV,x.off.length<=20:=by
 simp only[GC,AN,decide_eq_true_eq,Bz] at h;obtain⟨⟨h1,h2⟩,h3⟩:=h;rw[Bb h3] at h1;exact⟨h2,h3,h1⟩
def Pb {ls:List (List Int)}(h:JH ls=cw):ls.length<=20/\∀x∈ls,x.length<=20:=by
 simp only[JH,AN,decide_eq_true_eq,Bz] at h;obtain⟨h1,h3⟩:=h;rw[Bb h3] at h1;exact⟨h3,h1⟩
def zh (A:Option bl)(c:Nat)(ls:List (List Int))(w:E)(B:Nat)(hg:ER w B A ls)(hl:ls.length<=9223372036854775807)(zC:∀x∈ls,x.length<=9223372036854775807) :
  u DU 5 #[Z A ls.length c] w λe w'=>e=.returned (.bool (JH ls))/\w=w':=by
 have HG:=Ay hg;have HL:=Ay zC;go_enter Sq.func5,Tryz.ntmps5;go_wp2;go_loop [3] (λi=>∃k:Nat,k<=ls.length/\k<=20/\i=J U k/\∀x∈ls.take k,x.length<=20) (λi=>20-(z i).toNat)
 case atStart=>exact⟨0,by omega,by omega,rfl,by simp⟩
 case round =>
  obtain⟨k,hk,zo,rfl,hz⟩:=hrel;have HZ:=Ay hz;by_cases zY:k<ls.length/\k<20
  .obtain⟨zY,a6⟩:=zY;obtain⟨b,o,rfl,hb,a8⟩:=HG.out (λe=>by rw[e] at zY;simp at zY);obtain⟨A',c',hcell,aB⟩:=a8 k _ (AB zY);have aA:=HL.out _ (Bh zY);have HX:Hid (ls.take (k+1)=ls.take k++[ls[k]]):=Ay (by rw[BZ,AB zY];rfl);have HM:Hid (ls[k]∈ls.take 20):=Ay (bk.2 ⟨k,by rw[CL,AF a6,AB zY]⟩);generalize ls[k]=x at hcell aA HX HM;by_cases hx:x.length<=20
   .have HN : Hid (∀ y ∈ ls.take (k + 1), y.length <= 20) := Lib.hid fun y hy => by
     rw[HX.out] at hy;obtain hy|hy:=Bp.1 hy
     .exact HZ.out y hy
     .simp only[AJ,AG,or_false] at hy;subst hy;exact hx
    have aC:O ((x.length:Int) > 20)=false:=by simp;omega
    go_wp2;go_round
    case rel=>exact⟨k+1,by omega,by omega,by go_num,HN.out⟩
    case measure=>simp[Proofs.intOf];omega
   .have HS := Lib.hid (show JH ls = bb by
     have:(ls.take 20).all (λl=>decide (l.length<=20))=false:=bq.2 ⟨x,HM.out,by simpa using hx⟩
     simp[JH,this])
    go_wp2;go_ret;exact⟨au HS.out.symm,rfl⟩
  .have HT : Hid (JH ls = O ((ls.length : Int) <= 20)) := Lib.hid (by
    have:(ls.take 20).all (λl=>decide (l.length<=20))=true:=Bz.2 λy hy=>by
     have e:ls.take 20=ls.take k:=by
      obtain h|h:=Br k ls.length
      .have:k=20:=by omega
       rw[this]
      .rw[Bb h,Bb (by omega)]
     rw[e] at hy;simpa using HZ.out y hy
    simp only[JH,this,Cg]
    exact decide_eq_decide.2 (by omega))
   by_cases aD:k<ls.length
   .have a7:k=20:=by omega
    subst a7;go_wp2;go_ret;exact⟨au HT.out.symm,rfl⟩
   .have aF:k=ls.length:=by omega
    go_wp2;go_ret;exact⟨au HT.out.symm,rfl⟩
def pj (nA hA:Option bl)(nc hc:Nat)(c:D9)(w:E)(B:Nat)(hB:B<=w.heap.size)(hh:EN w B hA c.DV)(aC:c.DW.length<=9223372036854775807)(zC:c.DV.length<=9223372036854775807)(a8:∀h∈c.DV,h.off.length<=9223372036854775807) :
  u DU 4 #[Ef nA hA c nc hc] w λe w'=>e=.returned (.bool (GC c))/\Gr w w':=by
 unfold Ef;obtain⟨W0,zM⟩:∃W0:E,W0=w.alloc (G #[Z nA c.DW.length nc,Z hA c.DV.length hc] 25):=⟨_,rfl⟩;have zL:Gr w W0:=zM▸(Gr.refl w).alloc _;have zF:W0.heap.size=w.heap.size+1:=by rw[zM];simp
 have HG:=Ay (hh.keep λb o hb=>zL.cell (AC hb hB));have HL:=Ay a8;have a6:=Ay zL;have zp:W0.cell? ⟨w.heap.size,0,Y⟩=I (Z nA c.DW.length nc):=by rw[zM,AE _ _ _ _ rfl];rfl
 have zw:W0.cell? ⟨w.heap.size,1,Y⟩=I (Z hA c.DV.length hc):=by rw[zM,AE _ _ _ _ rfl];rfl
 have HW:=Ay zM;have aD:w.heap.size<W0.heap.size:=by omega
 clear hh a8 zL zM;go_enter Sq.func4,Tryz.ntmps4;go_wp2;rw[<-HW.out];go_loop [3] (λi=>∃k:Nat,k<=c.DV.length/\k<=20/\i=J U k/\∀x∈c.DV.take k,x.off.length<=20) (λi=>20-(z i).toNat)
 case atStart=>exact⟨0,by omega,by omega,rfl,by simp⟩
 case round =>
  obtain⟨k,hk,zo,rfl,hz⟩:=hrel;have HZ:=Ay hz;clear hz;by_cases zY:k<c.DV.length/\k<20
  .obtain⟨zY,aA⟩:=zY;obtain⟨b,o,rfl,hb,hat⟩:=HG.out.at_ (c:=c) zY;obtain⟨g0,g1,g2,A,ac,g3,aB⟩:=hat;have aF:=HL.out _ (c.Gs zY);have hce:c.DV[k]=c.h k:=by unfold D9.h;rw[AB zY];rfl
   have HX:Hid (c.DV.take (k+1)=c.DV.take k++[c.h k]):=Ay (by rw[BZ,AB zY,hce];rfl);have HM:Hid (c.h k∈c.DV.take 20):=Ay (bk.2 ⟨k,by rw[CL,AF aA,AB zY,hce]⟩);have aG:O ((k:Int)<c.DV.length)=true:=by simp;omega
   have aH:O ((k:Int)<20)=true:=by simp;omega
   clear g0 g1 g2 aB hce;by_cases hx:(c.h k).off.length<=20
   .have HN : Hid (∀ y ∈ c.DV.take (k + 1), y.off.length <= 20) := Lib.hid fun y hy => by
     rw[HX.out] at hy;obtain hy|hy:=Bp.1 hy
     .exact HZ.out y hy
     .simp only[AJ,AG,or_false] at hy;subst hy;exact hx
    have aI:O (((c.h k).off.length:Int) > 20)=false:=by simp;omega
    go_wp2;go_round
    case rel=>exact⟨k+1,by omega,by omega,by go_num,HN.out⟩
    case measure=>simp[Proofs.intOf];omega
   .have HS := Lib.hid (show GC c = bb by
     have:(c.DV.take 20).all (λh=>decide (h.off.length<=20))=false:=bq.2 ⟨_,HM.out,by simpa using hx⟩
     simp[GC,this])
    go_wp2;go_ret;exact⟨au HS.out.symm,a6.out⟩
  .have HT : Hid (GC c = (O ((c.DW.length : Int) <= 20) && O ((c.DV.length : Int) <= 20))) := Lib.hid (by
    have:(c.DV.take 20).all (λh=>decide (h.off.length<=20))=true:=Bz.2 λy hy=>by
     have e:c.DV.take 20=c.DV.take k:=by
      obtain h|h:=Br k c.DV.length
      .have:k=20:=by omega
       rw[this]
      .rw[Bb h,Bb (by omega)]
     rw[e] at hy;simpa using HZ.out y hy
    simp only[GC,this,Cg]
    rw[show O (c.DW.length<=20)=O ((c.DW.length:Int)<=20) from decide_eq_decide.2 (by omega),show O (c.DV.length<=20)=O ((c.DV.length:Int)<=20) from decide_eq_decide.2 (by omega)])
   have zK:(O ((k:Int)<c.DV.length)=bb)\/(O ((k:Int)<c.DV.length)=cw/\O ((k:Int)<20)=bb):=by
    by_cases h:k<c.DV.length
    .exact .inr ⟨by simpa using h,by simp;omega⟩
    .exact .inl (by simp;omega)
   by_cases hn20:c.DW.length<=20
   .have a7:O ((c.DW.length:Int)<=20)=true:=by simp;omega
    rw[a7,Cg] at HT;obtain h1|⟨h1,h2⟩:=zK
    .go_wp2
     all_goals
      go_ret;exact⟨au HT.out.symm,a6.out⟩
    .go_wp2
     all_goals
      go_ret;exact⟨au HT.out.symm,a6.out⟩
   .have a7:O ((c.DW.length:Int)<=20)=false:=by simp;omega
    rw[a7,B9] at HT;obtain h1|⟨h1,h2⟩:=zK
    .go_wp2
     all_goals
      go_ret;exact⟨au HT.out.symm,a6.out⟩
    .go_wp2
     all_goals
      go_ret;exact⟨au HT.out.symm,a6.out⟩
def qx (l:List Int)(h0:∀x∈l,0<=x):0<=l.sum:=by
 induction l with
 |nil=>simp
 |cons a l ih =>
  have h2:=h0 a (by simp);have:=ih (λx hx=>h0 x (by simp[hx]));simp only[List.sum_cons];omega
end Go.Sq
