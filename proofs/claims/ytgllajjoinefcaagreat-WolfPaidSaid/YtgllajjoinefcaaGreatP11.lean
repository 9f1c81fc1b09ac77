/- Parts of the proof. -/
import Derived.Test.YtgllajjoinefcaaGreatP10
set_option linter.all false
set_option maxHeartbeats 12800000
set_option maxRecDepth 1000000
open Go.Value renaming slice->Z,int->Y,pointer->dn
open Go.IntKind renaming i64->U,signed->bk,wrap->bq,bits->br
open Option renaming none->I,some->E
open Go renaming World->bc,bodyPost_ret->dt,Value->dy,Goroutine->dS,results_tmp2->ea,Addr->ed,Program->eH,FuncId->eT,Calls->e7
open Go.Proofs renaming intOf->bh
open Go.Obj renaming cells->bn
open Go.Proofs.Tryz renaming prog->cf,f3->dr,results42->eA,results12->eC,results13->eF,func123->eV,f123->e8
open Bool renaming false->cw,true->df
open Go.Instr renaming index->eb
open List renaming take_add_one->ek,range'->ew,map_take->eG,range->e5
open Go.Conc renaming G->eo
open Array renaming getD->Array.LE
open Eq renaming symm->Eq.LT
open Go renaming underlying->Go.LT
open Go.Addr renaming block->Go.Addr.Lo
open Go.BoundsCode renaming toNat->Go.BoundsCode.L
open Go.CallKind renaming deferred->Go.CallKind.L
open Go.Calls renaming mono->Go.Calls.LT
open Go.Code renaming block->Go.Code.Lo,region->Go.Code.L
open Go.Ending renaming returned->Go.Ending.L
open Go.Goroutine renaming frame->Go.Goroutine.L
open Go.Instr renaming alloc->Go.Instr.Li
open Go.Obj renaming deferred->Go.Obj.L
open Go.Op renaming alloc->Go.Op.Li
open Go.Program renaming funcs->Go.Program.L,underlying->Go.Program.LT
open Go.RowKit.Below renaming block->Go.RowKit.Below.Lo
open Go.TypeDesc renaming pointer->Go.TypeDesc.S
open Go.Value renaming pointer->Go.Value.S
open Go.World renaming alloc->Go.World.Li,cell?->Go.World.L,frozen?->Go.World.H,ownsRow->Go.World.S,setCell->Go.World.LE
open Go.World.ownsRow renaming alloc->Go.World.ownsRow.Li
open Int renaming toNat->Int.L
open List renaming length->List.L,set->List.SS,sum->List.Lo,take->List.LT,toArray->List.Li
open Option renaming getD->Option.LE
open UInt8 renaming toNat->UInt8.L
namespace Go.Sq
open Go.Proofs
open Go.RowKit
def P3 (f ob cb:Nat):Value:=.func (.func f) #[] #[.S (E ⟨ob,0,I⟩),.S (E ⟨cb,0,I⟩)]
structure AtL (x:FB)(xb ob cb gb:Nat)(W0:bc)(u:Nat->dy)(l:List Int)(ch:Bool)(f:Nat)(W:bc):Prop where
 u1:u 1=.S (E ⟨xb,0,I⟩)
 u4:u 4=.S (E ⟨ob,0,I⟩)
 u5:u 5=.S (E ⟨cb,0,I⟩)
 u6:u 6=P3 73 ob cb
 u7:u 7=P3 74 ob cb
 u22:u 22=.slice (E ⟨gb,0,I⟩) x.pts x.pts
 row:I5 x.pts l
 bw:BW ob cb gb x.pts (l,ch) W
 fuel:Kl x f l=bounds_ x/\JH l x.pts<f
 gr:Gr W0 W
 lo:W0.heap.size<=cb/\W0.heap.size<=gb/\W0.heap.size<=ob
def P4:dy->Nat
 |.slice (E a) _ _=>a.Lo
 |_=>0
def uP (x:FB)(cA:Option ed)(k:Nat)(w:bc)(hx:x.Ok)(hc:F3 w w.heap.size cA x.Eg):e7 DP 42 #[JX x cA k] w λe w'=>Gr w w'/\match bounds_ x with
  |none=>e=.L (.tuple #[.slice I 0 0,.bool cw])
  |some m=>∃g,e=.L (.tuple #[.slice (E ⟨g,0,I⟩) x.pts x.pts,.bool df])/\w.heap.size<=g/\w'.heap[g]?=E (.cells (m.map (Y U)).Li 94 (0,0)):=by
 obtain⟨W0,zM⟩:∃W0:bc,W0=w.Li (bn #[Y U x.pts,Y U x.bend,Z cA x.Eg.L k] 31):=⟨_,rfl⟩;have zL:Gr w W0:=by rw[zM];exact(Gr.refl w).Li _
 have zF:W0.heap.size=w.heap.size+1:=by rw[zM];simp
 have HE:Hid (∀W,Gr W0 W->W.L ⟨w.heap.size,0,I⟩=E (Y U x.pts)/\W.L ⟨w.heap.size,1,I⟩=E (Y U x.bend)/\W.L ⟨w.heap.size,2,I⟩=E (Z cA x.Eg.L k)):=AB λW hg=>by
  rw[hg.cell (by show w.heap.size<_;rw[zM];simp),hg.cell (by show w.heap.size<_;rw[zM];simp),hg.cell (by show w.heap.size<_;rw[zM];simp),zM,AF _ _ _ _ rfl,AF _ _ _ _ rfl,AF _ _ _ _ rfl];exact⟨rfl,rfl,rfl⟩
 obtain⟨W1,zu⟩:∃W1:bc,W1=W0.Li (bn #[Y U 0,Y U 9] 94):=⟨_,rfl⟩;have zJ:Gr W0 W1:=by rw[zu];exact(Gr.refl W0).Li _
 have c1:(W0.Li (bn #[Y U 0,Y U 9] 94)).L ⟨w.heap.size,0,I⟩=E (Y U x.pts):=by rw[<-zu];exact(HE.out W1 zJ).1
 have HR:=AB (uO W0.heap.size 1 x.pts hx.pts W1 (by rw[zu];exact heap_alloc_new _ _));rw[zF] at HR;have HW0:=AB zM;have bB:=AB zu;have aZ:=AB zL;have cD:=AB zJ;have HX:=AB hx;have HC:=AB hc;clear hx hc zM zu zL zJ;unfold JX i64;go_enter Sq.func42,Tryz.ntmps42;go_wp2_with fail;rw[<-HW0.out];refine lU 0 (λa W=>∃ob cb gb u l ch f,a=⟨T 187 u,[]⟩/\AtL x w.heap.size ob cb gb W0 u l ch f W) (λa W=>P0 (P4 (a.tmps.LE 22 undef)) x.pts W) rfl ?_ ?_
 .rintro _ W ⟨ob,cb,gb,u,l,ch,f,rfl,H⟩;have c4:W.L ⟨cb,0,I⟩=E (.bool ch):=(DU H.bw.OG 0).1;have c5:=(DU H.bw.OG 0).2;obtain⟨V0,aP⟩:∃V0,V0=W.LE ⟨cb,0,I⟩ (.bool cw):=⟨_,rfl⟩;have hb0:BW ob cb gb x.pts (l,cw) V0:=by
   obtain⟨n1,n2,n3⟩:=H.bw.ne;rw[aP];exact⟨(AP _ _ _ _ (by show ob≠cb;exact n1)).trans H.bw.out,Eh (u:=.bool cw) (i:=0) H.bw.OG,(AP _ _ _ _ (by show gb≠cb;exact λe=>n3 e.LT)).trans H.bw.row,H.bw.len,H.bw.ne⟩
  have aU:Gr W0 V0:=bR (cb:=cb) (gb:=gb) H.gr (by rw[aP];exact KT.LE _ (.inl rfl) _) H.lo.1 H.lo.2.1;have d0:=(HE.out V0 aU).1;rw[aP] at d0;have HV0:=AB aP;have HB0:=AB hb0;have aO:=AB aU;have aF:=HX.out.pts;have hpl:∀k,k+1<=x.pts->Hr x.pts (9+36*k) l (JW x.bend k (l,cw)):=λk hk=>(Hr.start H.row.len H.row.bd).Oy HX.out.bend k hk;have bC:=AB hpl;rw[yI,H.u1,H.u4,H.u5,H.u6,H.u7]
  unfold P3;have HH:=AB H;obtain⟨aC,aD,lo3⟩:=H.lo;clear H aP hb0 aU hpl c1;go_wp2;rw[<-HV0.out];clear c4 c5 d0;go_loopw [28] (λi wr=>∃j:Nat,j+1<=x.pts/\i=Y U j/\BW ob cb gb x.pts (JW x.bend j (l,cw)) wr/\Gr W0 wr) (λi _=>x.pts-(bh i).L)
  case atStart=>exact⟨0,by omega,rfl,HB0.out,aO.out⟩
  case round =>
   obtain⟨j,hj,rfl,aB,zV⟩:=hrel;have a6:=AB aB;have a7:=AB zV;clear aB zV;by_cases aK:j+1<x.pts
   .have bU:=a6;have aO:=a7;have bD:=AB (bC.out j (by omega));clear a6 a7;go_wp2;refine bI 187 rfl λu hu=>?_;refine yH (bend:=x.bend) (hu 1) (hu 4) (hu 8) bU.out (bD.out.sm (by omega)) aK aF.2 (HE.out _ aO.out).2.1 HX.out.bend (hu 6) λV1 u' b' k' hf=>?_;have b5:=AB (bR aO.out k' aC aD);have bV:=AB b';have bE:=AB (bD.out.b1 aK HX.out.bend);rw[aS (n:=187) [31,32,33,34,35,36,37,38,39,40,41,42] (by kernel_rfl) rfl hu hf]
    simp only[Bg,Bq,Be,Bh];clear b' k' hf hu;go_wp2;refine bI 187 rfl λu hu=>?_;refine xB (bend:=x.bend) (hu 1) (hu 4) (hu 8) bV.out (bE.out.sm (by omega)) aK aF.2 (HE.out _ b5.out).2.1 HX.out.bend (hu 6) λV2 u' b' k' hf=>?_;have b6:=AB (bR b5.out k' aC aD);have bW:=AB b';have bF:=AB (bE.out.b2 aK HX.out.bend);rw[aS (n:=187) [43,44,45,46,47,48,49,50,51,52,53,54] (by kernel_rfl) rfl hu hf]
    simp only[Bg,Bq,Be,Bh];clear b' k' hf hu;go_wp2;refine bI 187 rfl λu hu=>?_;refine xC (bend:=x.bend) (hu 1) (hu 4) (hu 8) bW.out (bF.out.sm (by omega)) aK aF.2 (HE.out _ b6.out).2.1 HX.out.bend (hu 7) λV3 u' b' k' hf=>?_;have a8:=AB (bR b6.out k' aC aD);have bX:=AB b';have bG:=AB (bF.out.b3 aK HX.out.bend);rw[aS (n:=187) [55,56,57,58,59,60,61,62,63,64,65,66] (by kernel_rfl) rfl hu hf]
    simp only[Bg,Bq,Be,Bh];clear b' k' hf hu;go_wp2;refine bI 187 rfl λu hu=>?_;refine xD (bend:=x.bend) (hu 1) (hu 4) (hu 8) bX.out (bG.out.sm (by omega)) aK aF.2 (HE.out _ a8.out).2.1 HX.out.bend (hu 7) λV4 u' b' k' hf=>?_;have aH:=AB (bR a8.out k' aC aD);have bY:=AB b';have cK:=AB (bG.out.b4 aK HX.out.bend);rw[aS (n:=187) [67,68,69,70,71,72,73,74,75,76,77,78] (by kernel_rfl) rfl hu hf]
    simp only[Bg,Bq,Be,Bh];clear b' k' hf hu;go_wp2;go_roundw
    case rel=>exact⟨j+1,by omega,by go_num,bY.out,aH.out⟩
    case measure=>simp[Proofs.intOf];omega
   .have bH:j=x.pts-1:=by omega
    have HP:=AB (bC.out j (by omega));obtain⟨s0,hs0⟩:∃s0,s0=JW x.bend j (l,cw):=⟨_,rfl⟩;rw[<-hs0] at HP a6;have bJ:FT x l=Hd x.Eg x.Eg.L s0:=by rw[hs0,bH];rfl
    have HPS:=AB bJ;have HQ:Hid (∀k,k<=x.Eg.L->Hr x.pts (200+36*k) l (Hd x.Eg k s0)):=AB λk hk=>Hr.Eg HX.out (HP.out.LT (by omega)) (by omega) k hk;clear hs0 bJ bH;have e2:=(HE.out _ a7.out).2.2;have bA:=HX.out.many;go_wp2;clear e2;go_loopw [83] (λi wr=>∃q:Nat,q<=x.Eg.L/\i=Y U q/\BW ob cb gb x.pts (Hd x.Eg q s0) wr/\Gr W0 wr) (λi _=>x.Eg.L-(bh i).L)
    case atStart=>exact⟨0,by omega,rfl,a6.out,a7.out⟩
    case round =>
     clear a6 a7;obtain⟨q,hq,rfl,aB,zV⟩:=hrel;by_cases bK:q<x.Eg.L
     .obtain⟨b,o,rfl,hb,t0,t1,t2,t3,t4⟩:=(HC.out.gr (AD _) (aZ.out.trans zV)).at_ bK;have aV:=AB (HQ.out q (by omega));have aM:=AB (fJ HX.out bK);have aL:Hid (Hd x.Eg (q+1) s0=j7 (x.Eg[q]?.LE .none) (Hd x.Eg q s0)):=AB rfl;have a6:=AB aB;have a7:=AB zV;generalize x.Eg[q]?.LE .none=c at t0 t1 t2 t3 t4 aM aL;generalize Hd x.Eg q s0=s at aV aL a6;have aG:=AB (uM c)
      have aQ:Hid (∀o,Gr wr (wr.Li o)):=AB λo=>(Gr.refl wr).Li o;unfold O6 i64 at aG;unfold i64 at *;clear aB zV;have zY:=a6.out.lt;obtain⟨kd,pt,ot,at_,er⟩:=c;have h5:kd=1\/kd=2\/kd=3\/kd=4\/kd=5:=by have:=aM.out.kind;dsimp only at this;omega
      have aI:Hid (pt<x.pts):=AB aM.out.pt
      have aR:Hid (-9<=at_/\at_<=9/\0<=er/\er<=9):=AB (by
       have h1:=aM.out.at_;have h2:=aM.out.er;dsimp only at h1 h2
       omega)
      dsimp only at t0 t1 t2 t3 t4 aG;obtain rfl|rfl|rfl|rfl|rfl:=h5
      .obtain⟨a1,a2,a3,a4⟩:=aR.out;rw[show PZ _=.iface 137 (.agg #[Y U pt,Y U at_]) from rfl] at aG;go_wp2_with fail;refine(aG.out _).LT ?_;rintro e w2 ⟨rfl,zI⟩;have aA:=AB ((aQ.out _).trans zI);have zD:wr.heap.size<w2.heap.size:=by have:=zI.size;simp at this;omega
       clear zI;go_wp2_with fail;refine(iQ ob cb gb x.pts pt (at_) s _ (a6.out.gr (aA.out.Li _)) aI.out aF.2).LT ?_;rintro e w3 ⟨rfl,hb3,zy⟩;have aJ:=AB hb3;have a8:=AB (bR (a7.out.trans (aA.out.Li _)) zy aC aD);have q0:w3.L ⟨w2.heap.size,0,I⟩=E (Y U pt):=(zy.cell (p:=⟨w2.heap.size,0,I⟩) (by simp) (by show ¬(w2.heap.size=cb\/w2.heap.size=gb);omega)).trans (by rw[AF _ _ _ _ rfl];rfl)
       have q1:w3.L ⟨w2.heap.size,1,I⟩=E (Y U at_):=(zy.cell (p:=⟨w2.heap.size,1,I⟩) (by simp) (by show ¬(w2.heap.size=cb\/w2.heap.size=gb);omega)).trans (by rw[AF _ _ _ _ rfl];rfl);clear hb3 zy;go_wp2_with fail;refine(fY ob cb gb x.pts pt (at_) _ w3 aJ.out aI.out aF.2).LT ?_;rintro e w4 ⟨rfl,hb4,hk4⟩;have aT:=AB hb4;have aH:=AB (bR a8.out hk4 aC aD);clear hb4 hk4;go_wp2
       go_roundw
       case rel=>exact⟨q+1,by omega,by go_num,by rw[aL.out];exact aT.out,aH.out⟩
       case measure=>simp[Proofs.intOf];omega
      .obtain⟨a1,a2,a3,a4⟩:=aR.out;rw[show PZ _=.iface 139 (.agg #[Y U pt,Y U at_,Y U er]) from rfl] at aG;go_wp2_with fail;refine(aG.out _).LT ?_;rintro e w2 ⟨rfl,zI⟩;have aA:=AB ((aQ.out _).trans zI);have zD:wr.heap.size<w2.heap.size:=by have:=zI.size;simp at this;omega
       clear zI;go_wp2_with fail;refine(iQ ob cb gb x.pts pt (at_-er) s _ (a6.out.gr (aA.out.Li _)) aI.out aF.2).LT ?_;rintro e w3 ⟨rfl,hb3,zy⟩;have aJ:=AB hb3;have a8:=AB (bR (a7.out.trans (aA.out.Li _)) zy aC aD);have q0:w3.L ⟨w2.heap.size,0,I⟩=E (Y U pt):=(zy.cell (p:=⟨w2.heap.size,0,I⟩) (by simp) (by show ¬(w2.heap.size=cb\/w2.heap.size=gb);omega)).trans (by rw[AF _ _ _ _ rfl];rfl)
       have q1:w3.L ⟨w2.heap.size,1,I⟩=E (Y U at_):=(zy.cell (p:=⟨w2.heap.size,1,I⟩) (by simp) (by show ¬(w2.heap.size=cb\/w2.heap.size=gb);omega)).trans (by rw[AF _ _ _ _ rfl];rfl);have q2:w3.L ⟨w2.heap.size,2,I⟩=E (Y U er):=(zy.cell (p:=⟨w2.heap.size,2,I⟩) (by simp) (by show ¬(w2.heap.size=cb\/w2.heap.size=gb);omega)).trans (by rw[AF _ _ _ _ rfl];rfl);clear hb3 zy
       go_wp2_with fail;refine(fY ob cb gb x.pts pt (at_+er) _ w3 aJ.out aI.out aF.2).LT ?_;rintro e w4 ⟨rfl,hb4,hk4⟩;have aT:=AB hb4;have aH:=AB (bR a8.out hk4 aC aD);clear hb4 hk4;go_wp2;go_roundw
       case rel=>exact⟨q+1,by omega,by go_num,by rw[aL.out];exact aT.out,aH.out⟩
       case measure=>simp[Proofs.intOf];omega
      .obtain⟨a1,a2,a3,a4⟩:=aR.out;rw[show PZ _=.iface 140 (.agg #[Y U pt,Y U at_]) from rfl] at aG;go_wp2_with fail;refine(aG.out _).LT ?_;rintro e w2 ⟨rfl,zI⟩;have aA:=AB ((aQ.out _).trans zI);have zD:wr.heap.size<w2.heap.size:=by have:=zI.size;simp at this;omega
       clear zI;go_wp2_with fail;refine(fY ob cb gb x.pts pt (at_) s _ (a6.out.gr (aA.out.Li _)) aI.out aF.2).LT ?_;rintro e w3 ⟨rfl,hb3,zy⟩;have aJ:=AB hb3;have a8:=AB (bR (a7.out.trans (aA.out.Li _)) zy aC aD);clear hb3 zy;go_wp2;go_roundw
       case rel=>exact⟨q+1,by omega,by go_num,by rw[aL.out];exact aJ.out,a8.out⟩
       case measure=>simp[Proofs.intOf];omega
      .obtain⟨a1,a2,a3,a4⟩:=aR.out;rw[show PZ _=.iface 141 (.agg #[Y U pt,Y U at_]) from rfl] at aG;go_wp2_with fail;refine(aG.out _).LT ?_;rintro e w2 ⟨rfl,zI⟩;have aA:=AB ((aQ.out _).trans zI);have zD:wr.heap.size<w2.heap.size:=by have:=zI.size;simp at this;omega
       clear zI;go_wp2_with fail;refine(iQ ob cb gb x.pts pt (at_) s _ (a6.out.gr (aA.out.Li _)) aI.out aF.2).LT ?_;rintro e w3 ⟨rfl,hb3,zy⟩;have aJ:=AB hb3;have a8:=AB (bR (a7.out.trans (aA.out.Li _)) zy aC aD);clear hb3 zy;go_wp2;go_roundw
       case rel=>exact⟨q+1,by omega,by go_num,by rw[aL.out];exact aJ.out,a8.out⟩
       case measure=>simp[Proofs.intOf];omega
      .obtain⟨a1,a2,a3,a4⟩:=aR.out;have HOT:Hid (ot<x.pts):=AB (aM.out.RN rfl).1;rw[show PZ _=.iface 143 (.agg #[Y U pt,Y U ot,Y U at_]) from rfl] at aG;go_wp2_with fail;refine(aG.out _).LT ?_;rintro e w2 ⟨rfl,zI⟩;have aA:=AB ((aQ.out _).trans zI);have zD:wr.heap.size<w2.heap.size:=by have:=zI.size;simp at this;omega
       clear zI;go_wp2;refine bI 187 rfl λu hu=>?_;refine xE (qb:=w2.heap.size) (pt:=pt) (ot:=ot) (at_:=at_) (hu 15) (hu 4) (a6.out.gr (aA.out.Li _)) (aV.out.sm (by omega)) aI.out HOT.out aF.2 ⟨by rw[AF _ _ _ _ rfl];rfl,by rw[AF _ _ _ _ rfl];rfl,by rw[AF _ _ _ _ rfl];rfl⟩ (by omega) (hu 7) λV1 u' b' k' hf=>?_;have aJ:=AB b';have a8:=AB (bR (a7.out.trans (aA.out.Li _)) k' aC aD);have cE:=AB ((aV.out.high (m:=D5 s.1 (ot*2+1)+at_) aI.out (by have:=aV.out.bd (ot*2+1);omega)).sm (by omega))
       have cF:Hid (V1.L ⟨w2.heap.size,0,I⟩=E (Y U pt)/\V1.L ⟨w2.heap.size,1,I⟩=E (Y U ot)/\V1.L ⟨w2.heap.size,2,I⟩=E (Y U at_)):=AB ⟨(k'.cell (p:=⟨w2.heap.size,0,I⟩) (by simp) (by show ¬(w2.heap.size=cb\/w2.heap.size=gb);omega)).trans (by rw[AF _ _ _ _ rfl];rfl),(k'.cell (p:=⟨w2.heap.size,1,I⟩) (by simp) (by show ¬(w2.heap.size=cb\/w2.heap.size=gb);omega)).trans (by rw[AF _ _ _ _ rfl];rfl),(k'.cell (p:=⟨w2.heap.size,2,I⟩) (by simp) (by show ¬(w2.heap.size=cb\/w2.heap.size=gb);omega)).trans (by rw[AF _ _ _ _ rfl];rfl)⟩
       rw[aS (n:=187) [146,147,148,149,150,151,152,153,154,155,156,157,158] (by kernel_rfl) rfl hu hf];simp only[Bg,Bq,Be,Bh];clear b' k' hf hu;go_wp2;refine bI 187 rfl λu hu=>?_;refine xF (qb:=w2.heap.size) (pt:=pt) (ot:=ot) (at_:=at_) (hu 15) (hu 4) aJ.out cE.out aI.out HOT.out aF.2 cF.out (by omega) (hu 6) λV2 u' b' k' hf=>?_;have aT:=AB b';have aH:=AB (bR a8.out k' aC aD);rw[aS (n:=187) [159,160,161,162,163,164,165,166,167,168,169,170,171] (by kernel_rfl) rfl hu hf]
       simp only[Bg,Bq,Be,Bh];clear b' k' hf hu;go_wp2;go_roundw
       case rel=>exact⟨q+1,by omega,by go_num,by rw[aL.out];exact aT.out,aH.out⟩
       case measure=>simp[Proofs.intOf];omega
     .have bL:q=x.Eg.L:=by omega
      have b7:BW ob cb gb x.pts (FT x l) wr:=by rw[HPS.out,<-bL];exact aB
      have a6:=AB b7;have a7:=AB zV;have bZ:=AB (Lq HX.out HH.out.row);obtain⟨sp,hsp⟩:∃sp,sp=FT x l:=⟨_,rfl⟩;have aN:=AB hsp;rw[<-hsp] at a6 bZ;have zY:=a6.out.lt;have c0:wr.L ⟨ob,0,I⟩=E (.slice (E ⟨gb,0,I⟩) x.pts x.pts):=(DU a6.out.out 0).1;clear aB zV b7 bL hsp bA;go_wp2;clear c0;go_loopw [175] (λi wr=>∃q:Nat,q<=x.pts/\i=Y U q/\BW ob cb gb x.pts sp wr/\Gr W0 wr/\∀p,p<q->D5 sp.1 (p*2)<=D5 sp.1 (p*2+1)) (λi _=>x.pts-(bh i).L)
      case atStart=>exact⟨0,by omega,rfl,a6.out,a7.out,λp hp=>by omega⟩
      case round =>
       clear a6 a7;obtain⟨r,hr,rfl,aB,zV,aW⟩:=hrel;have a6:=AB aB;have a7:=AB zV;have cG:=AB aW;by_cases cH:r<x.pts
       .obtain⟨c0,_⟩:=aB.at_ (i:=r*2) (by omega);obtain⟨c1,_⟩:=aB.at_ (i:=r*2+1) (by omega);clear aB zV aW;generalize bM:D5 sp.1 (r*2)=y0 at c0;generalize bN:D5 sp.1 (r*2+1)=y1 at c1;have HY0:=AB bM;have bO:=AB bN;clear bM bN;have b8:Hid (∀o,Gr wr (wr.Li o)):=AB λo=>(Gr.refl wr).Li o;by_cases hgt:y0 > y1
        .have cI : Hid (bounds_ x = I) := Lib.hid (xG HH.out.fuel HH.out.row fun c2 => by
          have:=c2 r cH;rw[<-aN.out,HY0.out,bO.out] at this
          omega)
         go_wp2;refine gF (dt (ea eA _ _ _) rfl ⟨aZ.out.trans (a7.out.trans (b8.out _)),?_⟩);rw[cI.out];exact rfl
        .go_wp2;go_roundw
         case rel=>exact⟨r+1,by omega,by go_num,a6.out.gr (b8.out _),a7.out.trans (b8.out _),λp hp=>by
          by_cases e:p=r
          .subst e;rw[HY0.out,bO.out];omega
          .exact cG.out p (by omega)⟩
         case measure=>simp[Proofs.intOf];omega
       .have zz:r=x.pts:=by omega
        have bP:Hid (J9 (FT x l).1 x.pts):=AB λp hp=>by rw[<-aN.out];exact aW p (by omega)
        have c3:wr.L ⟨cb,0,I⟩=E (.bool sp.2):=(DU aB.OG 0).1;have c0:wr.L ⟨ob,0,I⟩=E (.slice (E ⟨gb,0,I⟩) x.pts x.pts):=(DU aB.out 0).1;clear aB zV aW;have h4:sp.2=df\/sp.2=false:=by cases sp.2<;>simp
        obtain h4|h4:=h4
        .rw[h4] at c3;have aX:=AB h4;clear h4;go_wp2;go_step3;have b9:(FT x l).2=true:=by rw[<-aN.out];exact aX.out
         obtain⟨f',bQ,hf2,hf3⟩:=OI HX.out HH.out.fuel HH.out.row bP.out b9;rw[<-aN.out] at bQ hf2 hf3;have cB:sp=(sp.1,df):=by rw[<-aX.out]
         have bS:BW ob cb gb x.pts (sp.1,df) wr:=cB▸a6.out;have m1:=sU bS;have m2:=sU HH.out.bw;have g22:(T 187 u).LE 22 undef=.slice (E ⟨gb,0,I⟩) x.pts x.pts:=by rw[yI];exact HH.out.u22
         simp only[Exit.then];refine lF ?_;refine⟨⟨ob,cb,gb,_,sp.1,df,f',AZ (λt=>(⟨t,[]⟩:Act)) uw,⟨rfl,rfl,rfl,rfl,rfl,HH.out.u22,hf3,bS,bQ,a7.out,aC,aD,lo3⟩⟩,?_⟩;show P0 (P4 (u 22)) x.pts wr<P0 (P4 ((T 187 u).LE 22 undef)) x.pts W;rw[g22,HH.out.u22];show P0 gb x.pts wr<P0 gb x.pts W;rw[m1,m2];exact hf2
        .rw[h4] at c3;have aX:=AB h4;clear h4;go_wp2;have b9:(FT x l).2=false:=by rw[<-aN.out];exact aX.out
         refine gF (dt (ea eA _ _ _) rfl ⟨aZ.out.trans a7.out,?_⟩);rw[xH HH.out.fuel HH.out.row bP.out b9];exact⟨gb,rfl,by omega,by rw[<-aN.out];exact a6.out.row⟩
 .intro R aY;have HP:=AB aY;clear aY;go_wp2_with fail;rw[<-bB.out];refine HR.out.LT ?_;rintro e w2 ⟨gb,rfl,hgb,hg,hrow⟩;have zE:W1.heap.size=W0.heap.size+1:=by rw[bB.out];simp
  have HGB:Hid (W0.heap.size<=gb/\gb<w2.heap.size/\W0.heap.size<=w2.heap.size):=AB ⟨by omega,(AC.1 hrow).1,by have:=hg.size;omega⟩;have aA:=AB hg;have cC:=AB hrow;clear hg hrow c1 zE;go_wp2;go_step3;rename_i cJ;refine cJ _ _ ?_;refine bI 187 rfl λu hu=>?_;obtain⟨b1,b2,b3⟩:=HGB.out;refine HP.out _ _ ⟨_,_,gb,u,Ii x.pts,cw,9*x.pts+1,rfl,hu 1,hu 4,hu 5,hu 6,hu 7,hu 22,nf _,⟨?_,?_,?_,bT _,by omega,by omega,by omega⟩,⟨rfl,by rw[pf _ _ (AD _)];omega⟩,((cD.out.trans aA.out).Li _).Li _,by omega,b1,b3⟩
  .exact(((Gr.refl (w2.Li (bn #[.slice (E ⟨gb,0,I⟩) x.pts x.pts] 90))).Li (bn #[.bool cw] 4)).Ly.Lo _ (by simp)).trans (heap_alloc_new _ _)
  .have:=heap_alloc_new (w2.Li (bn #[.slice (E ⟨gb,0,I⟩) x.pts x.pts] 90)) (bn #[.bool cw] 4);simpa using this
  .exact((((Gr.refl w2).Li _).Li _).Ly.Lo _ (by omega)).trans cC.out
def J1 (W:bc)(sb:Nat)(a b:Int):Prop:=W.heap[sb]?=E (bn #[Y U a,Y U b] 94 (0,0))
def J1.c {W:bc}{sb:Nat}{a b:Int}(h:J1 W sb a b):W.L ⟨sb,0,I⟩=E (Y U a)/\W.H ⟨sb,0,I⟩=cw/\W.L ⟨sb,1,I⟩=E (Y U b)/\W.H ⟨sb,1,I⟩=false:=⟨(DU h 0).1,(DU h 0).2,(DU h 1).1,(DU h 1).2⟩
def lG (l:FL)(b:List Int)(p:Nat)(y:Int)(e:Nat):en l b p y e=Go.Sq.tk (FH l p y) (D5 b (p*2+e)):=rfl
def nC {w W W':bc}{b:Nat}(h:Gr w W)(k:KT (λx=>x=b) W W')(hb:w.heap.size<=b):Gr w W' :=
 ⟨⟨k.os.trans h.Ly.os,k.tape.trans h.Ly.tape,k.output.trans h.Ly.output,AX h.size k.size,λx hx=>(k.Lo x (AI hx h.size) (by omega)).trans (h.Ly.Lo x hx)⟩,AX h.drawn k.drawn⟩
def nD {W:bc}{g:Nat}{m:List Int}(h:W.heap[g]?=E (.cells (m.map (Y U)).Li 94 (0,0))){i:Nat}(hi:i<m.L):W.L ⟨g,i,I⟩=E (Y U (D5 m i)):=by
 unfold World.cell?;rw[h];simp[D5,AG hi]
def eR (o:Option (Int×Int))(e:Ending):Prop:=match o with
 |none=>e=.L (.tuple #[.agg #[Y U 0,Y U 0],Y U 12])
 |some (a,b)=>e=.L (.tuple #[.agg #[Y U a,Y U b],Y U 0])
open Go.Em
def yJ (a b:Int)(w:bc):(eb 94 (.agg #[Y U a,Y U b]) (Y U 0)).run DP w=.ok (Y U a) w:=by kernel_rfl
def yK (a b:Int)(w:bc):(eb 94 (.agg #[Y U a,Y U b]) (Y U 1)).run DP w=.ok (Y U b) w:=by kernel_rfl
def sV (x:FB)(cA fA:Option ed)(k fk:Nat)(l:FL)(rate from_ to:Int)(w:bc)(hx:x.Ok)(hl:l.L<=8)(aP:∀f∈l,f.Ok x.pts)(hno:JM l)(hc:F3 w w.heap.size cA x.Eg)(hf:E6 w w.heap.size fA l)(bF:l.L<=fk)(hr:1<=rate/\rate<=9)(ht:0<=from_/\from_<=to/\to<=30) :
  e7 DP 12 #[JX x cA k,Z fA l.L fk,Y U rate,Y U from_,Y U to] w λe w'=>Gr w w'/\eR (IL x l rate from_ to) e:=by
 obtain⟨W1,zu⟩:∃W:bc,W=(w.Li (bn #[Y U x.pts,Y U x.bend,Z cA x.Eg.L k] 31)).Li (bn #[Y U 0,Y U 0] 38):=⟨_,rfl⟩;have zJ:Gr w W1:=zu▸((Gr.refl w).Li _).Li _;have zE:W1.heap.size=w.heap.size+2:=by rw[zu];simp
 have HE:Hid (∀W,Gr W1 W->(W.L ⟨w.heap.size,0,I⟩=E (Y U x.pts)/\W.L ⟨w.heap.size,1,I⟩=E (Y U x.bend)/\W.L ⟨w.heap.size,2,I⟩=E (Z cA x.Eg.L k))/\W.heap[w.heap.size+1]?=E (bn #[Y U 0,Y U 0] 38 (0,0))):=AB λW hg=>by
  have e0:W.heap[w.heap.size]?=E (bn #[Y U x.pts,Y U x.bend,Z cA x.Eg.L k] 31 (0,0)):=by
   rw[hg.Ly.Lo _ (by omega),zu];exact(ae _ _ (by simp)).trans (heap_alloc_new _ _)
  refine⟨⟨(DU e0 0).1,(DU e0 1).1,(DU e0 2).1⟩,?_⟩;rw[hg.Ly.Lo _ (by omega),zu];exact ay _ _ (by simp)
 have zv:=(hc.gr (AD _) zJ).more zJ.size;have aQ:=(hf.gr (AD _) zJ).more zJ.size;have aR:=AB (qC x cA fA k fk l W1 hx zv hl aP hno aQ bF);have HC:=AB zv;have HF:=AB aQ;have HX:=AB hx;have aJ:=AB aP;have bG:=AB zu;have b8:=AB zJ;have HR:=AB hr;have HT:=AB ht;obtain⟨n,hn⟩:∃n,n=l.L:=⟨_,rfl⟩;have HN:=AB hn;obtain⟨r1,r2⟩:=hr;obtain⟨t1,t2,t3⟩:=ht;obtain⟨⟨c0,c1,c2⟩,_⟩:=HE.out W1 (.refl _);have d1:decide (rate<1)=false:=by simp;omega
 clear hx hc hf zv aQ aP hno zu zJ d1;unfold JX i64 at *;rw[<-hn] at aR hl ⊢;clear hn;go_enter Sq.func12,Tryz.ntmps12;go_wp2_with fail;rw[<-bG.out];go_wp2_with fail;refine aR.out.LT ?_;rintro e W2 ⟨rfl,zI⟩;have aC:=AB zI;clear zI aR c0 c1 c2;obtain⟨⟨c0,c1,c2⟩,_⟩:=HE.out W2 aC.out;go_wp2_with (go_at_call 41;refine(Pa _ _ _ (by omega) (by omega) _).LT ?_;rintro e W3 ⟨rfl,rfl⟩);have aS:=AB (uP x cA k W2 HX.out ((HC.out.gr (AD _) aC.out).more aC.out.size))
 unfold JX i64 at aS;refine aS.out.LT ?_;rintro e W3 ⟨zH,hb⟩;have a7:=AB (aC.out.trans zH);have zD:=aC.out.size;clear zH aS c0 c1 c2;cases a8:bounds_ x with
 |none =>
  rw[a8] at hb;dsimp only at hb;subst hb;have hfn:IL x l rate from_ to=none:=by unfold IL;rw[a8];rfl
  obtain⟨_,q2⟩:=HE.out W3 a7.out;have d0:W3.L ⟨w.heap.size+1,0,I⟩=E (Y U 0):=(DU q2 0).1;have d1:W3.L ⟨w.heap.size+1,1,I⟩=E (Y U 0):=(DU q2 1).1;have e0:=(DU q2 0).2;have e1:=(DU q2 1).2;have hz3:=a7.out.size;have aT:=AB hfn;clear a8 q2 hfn;have bH:Hid (∀u v,Gr w ((W3.LE ⟨w.heap.size+1,0,I⟩ u).LE ⟨w.heap.size+1,1,I⟩ v)):=AB λu v=>nC (b8.out.trans a7.out) ((KT.LE (T:=λb=>b=w.heap.size+1) W3 (p:=⟨w.heap.size+1,0,I⟩) rfl u).trans (KT.LE (T:=λb=>b=w.heap.size+1) _ (p:=⟨w.heap.size+1,1,I⟩) rfl v)) (by omega)
  go_wp2;refine dt (v:=.tuple #[.agg #[Y U 0,Y U 0],Y U 12]) (by simp[results,eC,go_sem,d0,d1,e0,e1]) rfl ⟨bH.out _ _,?_⟩;rw[aT.out];exact rfl
 |some m =>
  rw[a8] at hb;dsimp only at hb;obtain⟨g,rfl,zQ,hrow⟩:=hb;have hm:=j8 HX.out a8;have hfn:IL x l rate from_ to=E (Fb l m x.pts rate from_ 0 (to-from_+1).L,Fb l m x.pts rate from_ 1 (to-from_+1).L):=by unfold IL;rw[a8];rfl
  obtain⟨N,hN⟩:∃N:Nat,N=(to-from_+1).L:=⟨_,rfl⟩;rw[<-hN] at hfn;have aA:=AB hm;have hNt:(N:Int)=to-from_+1:=by omega
  obtain⟨pts,aB⟩:∃pts,pts=x.pts:=⟨_,rfl⟩;have hp4:pts<=4:=by have:=HX.out.pts;omega
  have HP:=AB aB;rw[<-aB] at hfn;have aT:=AB hfn;rw[<-aB];have bI:g<W3.heap.size:=(AC.1 hrow).1;obtain⟨W4,aD⟩:∃W:bc,W=W3.Li (bn #[Y U 0,Y U 0] 94):=⟨_,rfl⟩;have bJ:W4.heap.size=W3.heap.size+1:=by rw[aD];simp
  have hg4:Gr W3 W4:=aD▸(Gr.refl W3).Li _;have aU:Hid (∀W,KT (·=W3.heap.size) W4 W->W.heap[g]?=E (.cells (m.map (Y U)).Li 94 (0,0))/\W3.heap.size+1<=W.heap.size):=AB λW hk=>⟨by rw[hk.Lo g (by omega) (by omega),hg4.Ly.Lo g bI];exact hrow,by have:=hk.size;omega⟩;have b9:Hid (∀W,KT (·=W3.heap.size) W4 W->E6 W W.heap.size fA l):=AB λW hk=>((((HF.out.gr (AD _) a7.out).more a7.out.size).gr (AD _) hg4).keep λb o hb=>hk.cell (p:=⟨b,o,I⟩) (by show b<_;omega) (by show ¬b=_;omega)).more (by have:=hk.size;omega)
  have hs0:J1 W4 W3.heap.size 0 0:=by unfold J1;rw[aD];exact heap_alloc_new _ _
  have aV:=AB hs0;have aI:Hid (∀W u v,KT (·=W3.heap.size) W4 W->W.heap[w.heap.size+1]?=E (bn #[Y U 0,Y U 0] 38 (0,0))/\Gr w ((W.LE ⟨w.heap.size+1,0,I⟩ u).LE ⟨w.heap.size+1,1,I⟩ v)):=AB λW u v hk=>by
   obtain⟨_,q2⟩:=HE.out W3 a7.out;have hz3:=a7.out.size;refine⟨by rw[hk.Lo _ (by omega) (by omega),hg4.Ly.Lo _ (by omega)];exact q2,?_⟩;have h1:Gr w W4:=(b8.out.trans a7.out).trans hg4;have h2:Gr w W:=nC h1 hk (by omega);exact nC h2 ((KT.LE (T:=λb=>b=w.heap.size+1) W (p:=⟨w.heap.size+1,0,I⟩) rfl u).trans (KT.LE (T:=λb=>b=w.heap.size+1) _ (p:=⟨w.heap.size+1,1,I⟩) rfl v)) (by omega)
  have bK:Hid (∀q,0<=Fb l m pts rate from_ 0 q/\Fb l m pts rate from_ 0 q<=Fb l m pts rate from_ 1 q/\Fb l m pts rate from_ 1 q<=324*q):=AB λq=>by rw[HP.out];exact iB aJ.out aA.out HR.out HX.out.pts.2 from_ q
  have bL:=AB aD;obtain⟨sb,bA⟩:∃sb,sb=W3.heap.size:=⟨_,rfl⟩;have HSB:=AB bA;have aW:=AB hNt;clear hNt a8 hrow hm hfn hN aB aD hg4 hs0 bA;go_wp2_with fail;rw[<-bL.out,<-HSB.out];rw[<-HSB.out] at aU b9 aV aI bJ;go_wp2;go_loopw [16] (λi wr=>∃q:Nat,q<=N/\i=Y U (from_+q)/\KT (·=sb) W4 wr/\J1 wr sb (Fb l m pts rate from_ 0 q) (Fb l m pts rate from_ 1 q)) (λi _=>N-(bh i-from_).L)
  case atStart=>exact⟨0,by omega,by simp,.refl _ _,aV.out⟩
  case round =>
   obtain⟨q,hq,rfl,a6,hsm⟩:=hrel;have aK:=AB a6;have aF:=AB hsm;clear a6 hsm aV;by_cases bQ:q<N
   .obtain⟨wq,rfl⟩:∃wq,wq=wr:=⟨_,rfl⟩;have zX:from_+(q:Int)<=to:=by have:=aW.out;omega
    obtain⟨i1,i2,i3⟩:=bK.out q;have aL:Hid (Fb l m pts rate from_ 0 (q+1)=Fb l m pts rate from_ 0 q+Gz l m rate (from_+q) 0 pts/\Fb l m pts rate from_ 1 (q+1)=Fb l m pts rate from_ 1 q+Gz l m rate (from_+q) 1 pts):=AB ⟨rfl,rfl⟩;generalize Fb l m pts rate from_ 0 q=s0 at aF aL i1 i2 i3;generalize Fb l m pts rate from_ 1 q=s1 at aF aL i1 i2 i3;go_wp2;go_loopw [61] (λi wr=>∃p:Nat,p<=pts/\i=Y U p/\KT (·=sb) W4 wr/\J1 wr sb (s0+Gz l m rate (from_+q) 0 p) (s1+Gz l m rate (from_+q) 1 p)) (λi _=>pts-(bh i).L)
    case atStart=>exact⟨0,by omega,rfl,aK.out,by simpa [Gz] using aF.out⟩
    case round =>
     obtain⟨p,hp,rfl,a6,hsm⟩:=hrel;have aG:=AB a6;have aX:=AB hsm;clear a6 hsm aK aF;by_cases bM:p<pts
     .obtain⟨g1,g2⟩:=aU.out _ aG.out;have bN:m.L=pts*2:=by rw[HP.out];exact aA.out.len
      have aM:p<x.pts:=by rw[<-HP.out];exact bM
      have r0:=nD g1 (i:=p*2) (by omega);have r1':=nD g1 (i:=p*2+1) (by omega);obtain⟨b1,b2,b3⟩:=Lb aJ.out aA.out aM (from_+q);have hb1:=aA.out.lo p aM;have zq:=aA.out.hi p aM;have hb3:=aA.out.ord p aM;have bB:=ly aJ.out p (from_+(q:Int));have aY:=AB (xq fA fk p (from_+q) (D5 m (p*2)) (D5 m (p*2+1)) l wr (b9.out wr aG.out) (by rw[<-HN.out];omega) ⟨hb1,by omega,by omega,zq⟩ bB)
      rw[<-HN.out] at aY;obtain⟨y1,y2,y3⟩:=KV aJ.out aA.out HR.out (from_+q) p (by omega);have aZ:Hid (Gz l m rate (from_+q) 0 (p+1)=Gz l m rate (from_+q) 0 p+rate*tk (FH l p (from_+q)) (D5 m (p*2))/\Gz l m rate (from_+q) 1 (p+1)=Gz l m rate (from_+q) 1 p+rate*tk (FH l p (from_+q)) (D5 m (p*2+1))):=AB ⟨rfl,rfl⟩;rw[lG,Nat.add_zero] at b1 b2;rw[lG] at b2 b3;generalize tk (FH l p (from_+q)) (D5 m (p*2))=a0 at *
      generalize tk (FH l p (from_+q)) (D5 m (p*2+1))=a1 at *;generalize D5 m (p*2)=z0 at *;generalize D5 m (p*2+1)=z1 at *;generalize Gz l m rate (from_+q) 0 p=v0 at *;generalize Gz l m rate (from_+q) 1 p=v1 at *;have hq30:q<=30:=by have:=aW.out;omega
      have b5:=sr (a:=rate) (by omega) b1 b2;have hr9:rate*a1<=9*9:=CQ r2 b3 (by omega) (by omega);obtain⟨m0,aN⟩:∃z,z=rate*a0:=⟨_,rfl⟩;obtain⟨m1,aO⟩:∃z,z=rate*a1:=⟨_,rfl⟩;have hw0:IntKind.i64.wrap (rate*a0)=m0:=by rw[aN];simp[bq,br,bk];omega
      have bR:IntKind.i64.wrap (rate*a1)=m1:=by rw[aO];simp[bq,br,bk];omega
      rw[<-aN] at b5;rw[<-aO] at b5 hr9;rw[<-aN,<-aO] at aZ;have hw2:IntKind.i64.wrap (s0+v0+m0)=s0+v0+m0:=by simp[bq,br,bk];omega
      have hw3:IntKind.i64.wrap (s1+v1+m1)=s1+v1+m1:=by simp[bq,br,bk];omega
      clear bB hb1 zq hb3 g1 bN b1 b2 b3 y1 y2 y3 b5 hr9 aN aO;go_wp2_with fail;refine aY.out.LT ?_;rintro e w5 ⟨rfl,b6⟩;have bC:=AB (aG.out.trans (KT.EF b6));have b7:J1 w5 sb (s0+v0) (s1+v1):=(b6.Ly.Lo sb (by omega)).trans aX.out;have bD:=AB b7;clear b6 b7 r0 r1' aY aG aX;go_wp2;go_loopw [72] (λi wr=>∃j:Nat,j<=2/\i=Y U j/\KT (·=sb) W4 wr/\J1 wr sb (s0+v0+(if 0<j then m0 else 0)) (s1+v1+(if 1<j then m1 else 0))) (λi _=>2-(bh i).L)
      case atStart=>exact⟨0,by omega,rfl,bC.out,by simpa using bD.out⟩
      case round =>
       obtain⟨j,hj,rfl,a6,hsm⟩:=hrel;have bO:=AB a6;have bE:Hid (∀o v,KT (·=sb) W4 (wr.LE ⟨sb,o,I⟩ v)):=AB λo v=>a6.trans (KT.LE (T:=λx=>x=sb) wr (p:=⟨sb,o,I⟩) rfl v);clear a6 bC bD;obtain rfl|rfl|rfl:=(show j=0\/j=1\/j=2 by omega)
       .replace hsm:J1 wr sb (s0+v0) (s1+v1):=by simpa using hsm
        obtain⟨c0,c1,c2,c3⟩:=hsm.c;have aH:Hid (J1 (wr.LE ⟨sb,0,I⟩ (Y U (s0+v0+m0))) sb (s0+v0+m0) (s1+v1)):=AB (Eh (u:=Y U (s0+v0+m0)) (i:=0) hsm);clear hsm;have bP:∀w,(eb 94 (.agg #[Y U a0,Y U a1]) (Y U 0)).run DP w=.ok (Y U a0) w:=λ_=>yJ _ _ _;go_wp2;go_roundw
        case rel=>exact⟨1,by omega,by go_num,bE.out _ _,by simpa using aH.out⟩
        case measure=>simp[Proofs.intOf]
       .replace hsm:J1 wr sb (s0+v0+m0) (s1+v1):=by simpa using hsm
        obtain⟨c0,c1,c2,c3⟩:=hsm.c;have aH:Hid (J1 (wr.LE ⟨sb,1,I⟩ (Y U (s1+v1+m1))) sb (s0+v0+m0) (s1+v1+m1)):=AB (Eh (u:=Y U (s1+v1+m1)) (i:=1) hsm);clear hsm;have bP:∀w,(eb 94 (.agg #[Y U a0,Y U a1]) (Y U 1)).run DP w=.ok (Y U a1) w:=λ_=>yK _ _ _;go_wp2;go_roundw
        case rel=>exact⟨2,by omega,by go_num,bE.out _ _,by simpa using aH.out⟩
        case measure=>simp[Proofs.intOf]
       .replace hsm:J1 wr sb (s0+v0+m0) (s1+v1+m1):=by simpa using hsm
        have aH:=AB hsm;clear hsm;go_wp2;go_roundw
        case rel=>exact⟨p+1,by omega,by go_num,bO.out,by rw[aZ.out.1,aZ.out.2,<-Int.add_assoc,<-Int.add_assoc];exact aH.out⟩
        case measure=>simp[Proofs.intOf];omega
     .obtain rfl:p=pts:=by omega
      go_wp2;go_roundw
      case rel=>exact⟨q+1,by omega,by go_num,aG.out,by rw[aL.out.1,aL.out.2];exact aX.out⟩
      case measure=>simp[Proofs.intOf];omega
   .obtain rfl:q=N:=by omega
    have zX:¬from_+(q:Int)<=to:=by have:=aW.out;omega
    obtain⟨c0,c1,c2,c3⟩:=aF.out.c;obtain⟨q2,_⟩:=aI.out _ undef undef aK.out;have d0:wr.L ⟨w.heap.size+1,0,I⟩=E (Y U 0):=(DU q2 0).1;have d1:wr.L ⟨w.heap.size+1,1,I⟩=E (Y U 0):=(DU q2 1).1;have e0:=(DU q2 0).2;have e1:=(DU q2 1).2;clear q2;generalize Fb l m pts rate from_ 0 q=s0 at *;generalize Fb l m pts rate from_ 1 q=s1 at *
    go_wp2;refine dt (v:=.tuple #[.agg #[Y U s0,Y U s1],Y U 0]) (by simp[results,eC,go_sem,d0,d1,e0,e1]) rfl ⟨(aI.out _ _ _ aK.out).2,?_⟩;rw[aT.out];exact rfl
def lV {P:eH}{a:Act}{w:bc}{Q:Exit->Act->bc->Prop}{r1 r2 r3 r4 r5 r6 rest:Code}(l:Nat)(J:Act->bc->Prop)(μ:Act->bc->Nat)(hf:findLabel (.seq r1 (.seq r2 (.seq r3 (.seq r4 (.seq r5 (.seq r6 (.seq (.label l) rest))))))) l=E (.seq .skip rest))
  (pass:∀a w,J a w->rest.wp P (Exit.jump l (λa' w'=>J a' w'/\μ a' w'<μ a w) Q) a w)
  (first:∀R:Code,(∀a w,J a w->R.wp P (Exit.jump l J Q) a w)->(Code.seq r1 (.seq r2 (.seq r3 (.seq r4 (.seq r5 (.seq r6 (.seq (.label l) R))))))).wp P (Exit.jump l J Q) a w):(Code.scope (.seq r1 (.seq r2 (.seq r3 (.seq r4 (.seq r5 (.seq r6 (.seq (.label l) rest)))))))).wp P Q a w :=
 wp_scope_jumps l J μ hf (first rest λa w h=>Code.wp_mono (λe a w hq=>by
  cases e with
  |goto l'=>exact⟨hq.1,hq.2.1⟩
  |_=>exact hq) (pass a w h)) λa w h=>wp_seq (wp_skip (pass a w h))
def yL (u:Nat->dy):T 126 u=#[u 0,u 1,u 2,u 3,u 4,u 5,u 6,u 7,u 8,u 9,u 10,u 11,u 12,u 13,u 14,u 15,u 16,u 17,u 18,u 19,u 20,u 21,u 22,u 23,u 24,u 25,u 26,u 27,u 28,u 29,u 30,u 31,u 32,u 33,u 34,u 35,u 36,u 37,u 38,u 39,u 40,u 41,u 42,u 43,u 44,u 45,u 46,u 47,u 48,u 49,u 50,u 51,u 52,u 53,u 54,u 55,u 56,u 57,u 58,u 59,u 60,u 61,u 62,u 63,u 64,u 65,u 66,u 67,u 68,u 69,u 70,u 71,u 72,u 73,u 74,u 75,u 76,u 77,u 78,u 79,u 80,u 81,u 82,u 83,u 84,u 85,u 86,u 87,u 88,u 89,u 90,u 91,u 92,u 93,u 94,u 95,u 96,u 97,u 98,u 99,u 100,u 101,u 102,u 103,u 104,u 105,u 106,u 107,u 108,u 109,u 110,u 111,u 112,u 113,u 114,u 115,u 116,u 117,u 118,u 119,u 120,u 121,u 122,u 123,u 124,u 125]:=by kernel_rfl
def two (a b:Nat->Int)(i:Nat):Int:=if i % 2=0 then a (i / 2) else b (i / 2)
def I6 (n:Nat):Array Value:=madeCells (Value.agg #[Y U 0,Y U 0]).cells (n*2)
def Sq.underlying42:DP.LT 42=E (.slice 38):=(Sq.LT 42).trans Tryz.underlying42
def yM (n:Nat)(w:bc)(hn:n<=1048576):(Instr.makeSlice 42 (Y U (n:Int)) (Y U (n:Int))).run DP w=.ok (.slice (E ⟨w.heap.size,0,I⟩) n n) (w.Li (.cells (I6 n) 38)):=by
 obtain⟨i0,hi,zF,zE,zD⟩:=info_parts DL;have:=run_makeSlice (P:=DP) w 42 38 i0 (.agg #[Y U 0,Y U 0]) Sq.underlying42 hi zF U U (n:Int) (n:Int) (by omega) (by omega) (by rw[zE];simp;omega) (by rw[zD];omega) (by omega);rw[zE] at this;simpa [I6] using this
def sW (n j:Nat)(hj:j<n*2):(I6 n)[j]?=E (Y U 0):=by
 rcases Nat.mod_two_eq_zero_or_one j with e|e<;>simp[I6,madeCells,Value.cells,hj,e]
def sX (w:bc)(n:Nat):GD (w.Li (.cells (I6 n) 38)) w.heap.size (n*2) λ_=>0:=⟨by simp,λh hh=>by
 rw[AF _ _ _ _ (by simp),Bt _ _ _ _ (by simp),sW _ _ hh];exact⟨rfl,rfl⟩⟩
def Fs (c:Eb):List Int:=c.DR.map (·.heads)
def ep (c:Eb)(i:Nat):D5 (Fs c) i=(c.h i).heads:=by
 unfold D5 Fs Eb.h;rw[BE];cases c.DR[i]?<;>rfl
def bC (c:Eb):(Fs c).L=c.DR.L:=B8 _
structure AtP (c:Eb)(cb fb hb ob lst mst:Nat)(W0:bc)(u:Nat->dy)(k:Nat)(W:bc):Prop where
 u6:u 6=.S (E ⟨cb,0,I⟩)
 u15:u 15=.S (E ⟨fb,0,I⟩)
 u17:u 17=.slice (E ⟨hb,0,I⟩) c.DR.L c.DR.L
 u18:u 18=.slice (E ⟨ob,0,I⟩) c.DR.L c.DR.L
 u19:u 19=Y U (k:Nat)
 le:k<=mst
 LT:GD W hb c.DR.L λi=>D5 (Ee (Fs c) k) i
 out:GD W ob (c.DR.L*2) (two (λi=>if lst<k then D5 (Ee (Fs c) lst) i else 0) λ_=>0)
 kt:KT (λb=>b=hb\/b=ob) W0 W
noncomputable abbrev uQ (k:Nat):Array Oper:=Lr k Tryz.f13
example:G9 .any (Lr 27 Tryz.f13) 21=true:=by decide +kernel
def xI {c:Eb}{cb bb hb n hq ho hc d k:Nat}{H:Nat->Int}{W:bc}{u:Nat->dy}{Q:Exit->Act->bc->Prop}(h26:u 26=.S (E ⟨bb,0,I⟩))(a6:u 17=.slice (E ⟨hb,0,I⟩) n n)(h24:u 24=Y U (d:Nat))(h6:u 6=.S (E ⟨cb,0,I⟩))(h25:u 25=Y U (k:Nat))
  (c26:W.L ⟨bb,0,I⟩=E (Y U (c.h k).heads)) (c6:W.L ⟨cb,1,I⟩=E (.slice (E ⟨hq,ho,I⟩) n hc)) (cd:W.L ⟨hq,ho+d*4,I⟩=E (Y U (c.h d).heads)) (hN:GD W hb n H) (hd:d<n) (hk:k<n) (hh:∀i,i<n->1<=(c.h i).heads/\(c.h i).heads<=40) (hH:∀i,0<=H i/\H i<=20000)
  (hK:∀W' u',Rd W W'->Fr (uQ 27) u' u->u' 115=.bool (decide ((c.h d).heads*(H k+1)<(c.h k).heads*(H d+1)))->Q .normal ⟨T 126 u',[]⟩ W'):(Code.region 27 (uQ 27) df).wp DP Q ⟨T 126 u,[]⟩ W:=by
 have HN:Hid (∀w,Rd W w->∀i,i<n->w.L ⟨hb,i,I⟩=E (Y U (H i))):=AB λw r i hi=>(r.cell _).trans (hN.at_ i hi).1;obtain⟨a1,a2⟩:=hh k hk;obtain⟨a3,a4⟩:=hh d hd;obtain⟨b1,b2⟩:=hH k;obtain⟨b3,b4⟩:=hH d;have a7:IntKind.i64.wrap (H k+1)=H k+1:=by simp[bq,br,bk];omega
 have hw2:IntKind.i64.wrap (H d+1)=H d+1:=by simp[bq,br,bk];omega
 have a8:0<=(c.h k).heads*(H d+1)/\(c.h k).heads*(H d+1)<=40*20001:=⟨Db (by omega) (by omega),CQ a2 (by omega) (by omega) (by omega)⟩;have aA:0<=(c.h d).heads*(H k+1)/\(c.h d).heads*(H k+1)<=40*20001:=⟨Db (by omega) (by omega),CQ a4 (by omega) (by omega) (by omega)⟩;have hw3:IntKind.i64.wrap ((c.h k).heads*(H d+1))=(c.h k).heads*(H d+1):=by simp[bq,br,bk];omega
 have hw4:IntKind.i64.wrap ((c.h d).heads*(H k+1))=(c.h d).heads*(H k+1):=by simp[bq,br,bk];omega
 refine cv (R:=Rd) 21<|Ea (Gg 0 (FI h26))<|Ea (Fj (Ed 0) λw hg=>(hg.cell _).trans c26)<|Ea (Ez a6)<|Ea (Ez h24)<|Ea (Il d 1 (Ed 2) (Ed 3))<|Ea (Fj (Ed 4) λw hg=>HN.out w hg d hd)<|Ea (Kn (H d+1) (Ed 5))<|Ea (J0 (Y U ((c.h k).heads*(H d+1))) (Ed 1) (Ed 6))<|Ea (Gg 1 (FI h6))<|Ea (MH (.slice (E ⟨hq,ho,I⟩) n hc) (Ed 8) rfl ?_)<|Ea (Ez h24)<|Ea (Il (ho+d*4) 4 (Ed 9) (Ed 10))<|Ea (Gg (ho+d*4) (Ed 11))<|Ea (Fj (Ed 12) λw hg=>(hg.cell _).trans cd) <|
  Ea (Ez a6)<|Ea (Ez h25)<|Ea (Il k 1 (Ed 14) (Ed 15))<|Ea (Fj (Ed 16) λw hg=>HN.out w hg k hk)<|Ea (Kn (H k+1) (Ed 17))<|Ea (J0 (Y U ((c.h d).heads*(H k+1))) (Ed 13) (Ed 18))<|Ea (J0 (.bool (decide ((c.h d).heads*(H k+1)<(c.h k).heads*(H d+1)))) (Ed 7) (Ed 19))<|Lf λu' w' hg hf hv=>?_
 .intro w hg ev he;have c6':=(hg.cell ⟨cb,1,I⟩).trans c6;clear hg;go_simp
 .have er:ew 21 ((uQ 27).size-21)=[]:=by kernel_rfl
  rw[er];exact hK _ _ hg hf (hv.at_ 20 115)
def iT (c:Eb)(w:bc)(o:Option (Int×Int))(e:Ending)(w':bc):Prop:=match o with
 |none=>e=.L (.tuple #[.slice I 0 0,Y U 12])
 |some (a,b)=>∃g,e=.L (.tuple #[.slice (E ⟨g,0,I⟩) c.DR.L c.DR.L,Y U 0])/\w.heap.size<=g/\GD w' g (c.DR.L*2) (two (λi=>D5 (Ee (Fs c) a.L) i) λi=>D5 (Ee (Fs c) b.L) i)
structure OJ (w:bc)(c:Eb)(hA:Option ed)(hc:Nat)(fb hb ob ls ms:Nat)(W0:bc):Prop where
 gr:Gr w W0
 lt:w.heap.size<fb/\fb<hb/\hb<ob/\ob<W0.heap.size
 c6:W0.L ⟨w.heap.size,1,I⟩=E (Z hA c.DR.L hc)
 f0:W0.L ⟨fb,0,I⟩=E (Y U (ls:Nat))
 f1:W0.L ⟨fb,1,I⟩=E (Y U (ms:Nat))
 Fg:FY W0 w.heap.size hA c.DR
def OJ.on {w:bc}{c:Eb}{hA:Option ed}{hc fb hb ob ls ms:Nat}{W0 W:bc}(h:OJ w c hA hc fb hb ob ls ms W0)(k:KT (λb=>b=hb\/b=ob) W0 W) :
  W.L ⟨w.heap.size,1,I⟩=E (Z hA c.DR.L hc)/\W.L ⟨fb,0,I⟩=E (Y U (ls:Nat))/\W.L ⟨fb,1,I⟩=E (Y U (ms:Nat))/\FY W w.heap.size hA c.DR:=by
 obtain⟨l1,l2,l3,l4⟩:=h.lt
 exact⟨(k.cell (p:=⟨w.heap.size,1,I⟩) (by show w.heap.size<_;omega) (by show ¬(w.heap.size=hb\/w.heap.size=ob);omega)).trans h.c6,(k.cell (p:=⟨fb,0,I⟩) (by show fb<_;omega) (by show ¬(fb=hb\/fb=ob);omega)).trans h.f0,(k.cell (p:=⟨fb,1,I⟩) (by show fb<_;omega) (by show ¬(fb=hb\/fb=ob);omega)).trans h.f1,
  h.Fg.keep λb o hb'=>k.cell (p:=⟨b,o,I⟩) (by show b<_;omega) (by show ¬(b=hb\/b=ob);omega)⟩
def vi {K:Act->bc->Prop}{l:List dy}{ds:List Deferred}{w:bc}(n:Nat)(hn:l.L=n)(h:∀u:Nat->dy,(∀i,u i=l[i]?.LE undef)->K ⟨T n u,ds⟩ w):K ⟨l.Li,ds⟩ w:=by
 have h1:=h (λi=>l[i]?.LE undef) λ_=>rfl;have e:T n (λi=>l[i]?.LE undef)=l.Li:=by
  unfold T;congr 1;refine List.ext_getElem (by simp[hn]) λi h1 h2=>?_;simp[AG h2]
 rwa [e] at h1
def Aj {P:eH}{Q:Exit->Act->bc->Prop}{a:Act}{w:bc}{c r:Code}(h:∀K:Act->bc->Prop,(∀a w,r.wp P Q a w->K a w)->c.wp P (Exit.then K Q) a w):(Code.seq c r).wp P Q a w:=wp_seq (h _ λ_ _ h=>h)
def _root_.Go.Sq.GD.other {w:bc}{g n b o:Nat}{V:Nat->Int}{v:dy}(h:GD w g n V)(zU:g≠b):GD (w.LE ⟨b,o,I⟩ v) g n V:=by
 have hb:(w.LE ⟨b,o,I⟩ v).heap[g]?=w.heap[g]?:=AP _ _ _ _ (by show g≠b;exact zU);exact⟨by have:=h.lt;simpa [World.setCell] using this,λq hq=>⟨(AY (a:=⟨g,q,I⟩) hb).trans (h.at_ q hq).1,(BR (a:=⟨g,q,I⟩) hb).trans (h.at_ q hq).2⟩⟩
def uR {a b:Nat->Int}{n p:Nat}{v:Int}(hv:v=a p):∀q,q<n*2->two (λi=>if i<p+1 then a i else 0) b q=if q=p*2 then v else two (λi=>if i<p then a i else 0) b q:=λq _=>by
 unfold two;by_cases e:q=p*2
 .subst e;rw[AJ (by omega),AJ rfl,show p*2 / 2=p by omega];dsimp only;rw[AJ (by omega),hv]
 .rw[AE e];split
  .dsimp only;by_cases h:q / 2<p
   .rw[AJ (by omega),AJ h]
   .rw[AE (by omega),AE h]
  .rfl
def uS {a b:Nat->Int}{n p:Nat}{v:Int}(hv:v=b p):∀q,q<n*2->two a (λi=>if i<p+1 then b i else 0) q=if q=p*2+1 then v else two a (λi=>if i<p then b i else 0) q:=λq _=>by
 unfold two;by_cases e:q=p*2+1
 .subst e;rw[AE (by omega),AJ rfl,show(p*2+1) / 2=p by omega];dsimp only;rw[AJ (by omega),hv]
 .rw[AE e];split
  .rfl
  .dsimp only;by_cases h:q / 2<p
   .rw[AJ (by omega),AJ h]
   .rw[AE (by omega),AE h]
def pu {H has:List Int}{k:Nat}(h:Go.Sq.Fair H has k)(i:Nat):D5 has i<=k:=by
 have key:∀l:List Int,(∀i,0<=D5 l i)->∀i,D5 l i<=l.Lo:=λl=>by
  induction l with
  |nil=>intro _ i;simp[D5]
  |cons a l ih =>
   intro hp i;have ha:0<=a:=by simpa [D5] using hp 0
   have hl:=ih λi=>by simpa [D5] using hp (i+1)
   have hs:0<=l.Lo:=by
    have:=hl l.L;unfold D5 at this;simpa using this
   cases i with
   |zero=>simp[D5];omega
   |succ i =>
    have:=hl i;simp[D5] at this ⊢;omega
 have:=key has h.pos i
 rwa [h.Lo] at this
def Ak (H:List Int)(i:Nat):D5 (Ee H 0) i=0:=by
 unfold D5 Ee;rw[BE];cases H[i]?<;>rfl
def et {a b a' b':Nat->Int}{n:Nat}(h1:∀i,i<n->a i=a' i)(h2:∀i,i<n->b i=b' i):∀q,q<n*2->two a b q=two a' b' q:=λq hq=>by
 unfold two;split
 .exact h1 _ (by omega)
 .exact h2 _ (by omega)
def yN (c:Eb)(nA hA:Option ed)(nc hc:Nat)(x:FB)(cA fA:Option ed)(k fk:Nat)(l:FL)(rate from_ to:Int)(w:bc)(bH:Es c=0)(aG:c.Ok)(hn:RI w w.heap.size nA c.DW)(hh:FY w w.heap.size hA c.DR)
  (hx:x.Ok) (hl:l.L<=8) (aR:∀f∈l,f.Ok x.pts) (hno:JM l) (bJ:F3 w w.heap.size cA x.Eg) (hf:E6 w w.heap.size fA l) (bK:l.L<=fk) (hr:1<=rate/\rate<=9) (ht:0<=from_/\from_<=to/\to<=30) :
  e7 DP 13 #[EG nA hA c nc hc,JX x cA k,Z fA l.L fk,Y U rate,Y U from_,Y U to] w λe w'=>Gr w w'/\iT c w (IL x l rate from_ to) e w':=by
 obtain⟨W1,zu⟩:∃W:bc,W=(w.Li (bn #[Z nA c.DW.L nc,Z hA c.DR.L hc] 27)).Li (bn #[Y U x.pts,Y U x.bend,Z cA x.Eg.L k] 31):=⟨_,rfl⟩;have zJ:Gr w W1:=zu▸((Gr.refl w).Li _).Li _;have zE:W1.heap.size=w.heap.size+2:=by rw[zu];simp
 have HE:Hid (∀W,Gr W1 W->(W.L ⟨w.heap.size,0,I⟩=E (Z nA c.DW.L nc)/\W.L ⟨w.heap.size,1,I⟩=E (Z hA c.DR.L hc))/\W.L ⟨w.heap.size+1,0,I⟩=E (Y U x.pts)/\W.L ⟨w.heap.size+1,1,I⟩=E (Y U x.bend)/\W.L ⟨w.heap.size+1,2,I⟩=E (Z cA x.Eg.L k)):=AB λW hg=>by
  have e0:W.heap[w.heap.size]?=E (bn #[Z nA c.DW.L nc,Z hA c.DR.L hc] 27 (0,0)):=by
   rw[hg.Ly.Lo _ (by omega),zu];exact(ae _ _ (by simp)).trans (heap_alloc_new _ _)
  have e1:W.heap[w.heap.size+1]?=E (bn #[Y U x.pts,Y U x.bend,Z cA x.Eg.L k] 31 (0,0)):=by
   rw[hg.Ly.Lo _ (by omega),zu];exact ay _ _ (by simp)
  exact⟨⟨(DU e0 0).1,(DU e0 1).1⟩,(DU e1 0).1,(DU e1 1).1,(DU e1 2).1⟩
 have aH:∀W,Gr w W->RI W W.heap.size nA c.DW/\FY W W.heap.size hA c.DR/\F3 W W.heap.size cA x.Eg/\E6 W W.heap.size fA l:=λW g=>⟨hn.on g,(hh.keep λ_ _ hb=>g.cell hb).more g.size,(bJ.gr (AD _) g).more g.size,(hf.gr (AD _) g).more g.size⟩;have HCH:=AB (oO nA hA nc hc c W1 W1.heap.size (AD _) (aH W1 zJ).1 (aH W1 zJ).2.1 (by have:=aG.n5;omega) (by have:=aG.h4;omega) (λh hh=>by have:=(aG.off h hh).1;omega))
 rw[bH] at HCH;have aT:Hid (∀W,Gr w W->e7 DP 12 #[JX x cA k,Z fA l.L fk,Y U rate,Y U from_,Y U to] W λe w'=>Gr W w'/\eR (IL x l rate from_ to) e):=AB λW g=>sV x cA fA k fk l rate from_ to W hx hl aR hno (aH W g).2.2.1 (aH W g).2.2.2 bK hr ht;have bL:Hid (∀a b,IL x l rate from_ to=E (a,b)->0<=a/\a<=b/\b<=10044):=AB λa b e=>nj hx aR hr (by omega) e
 obtain⟨fo,aU⟩:∃fo,fo=IL x l rate from_ to:=⟨_,rfl⟩;rw[<-aU] at aT bL ⊢;obtain⟨ls,hls⟩:∃ls:Nat,ls=(fo.LE (0,0)).1.L:=⟨_,rfl⟩;obtain⟨ms,bM⟩:∃ms:Nat,ms=(fo.LE (0,0)).2.L:=⟨_,rfl⟩;have HLS:=AB hls;have c5:=AB bM;have aD:=AB aG;have cB:=AB hh;have aV:=AB zJ;have cC:=AB zu;obtain⟨fl,bN⟩:∃n,n=l.L:=⟨_,rfl⟩;rw[<-bN] at aT ⊢;clear bH aG hn hh hx hl aR hno bJ hf bK hr ht zu zJ aH aU hls bM bN
 unfold EG JX i64 at *;go_enter Sq.func13,Tryz.ntmps13;go_wp2_with fail;rw[<-cC.out];refine lV 0 (λa W=>∃fb hb ob W0 u q,a=⟨T 126 u,[]⟩/\fo=E ((ls:Int),(ms:Int))/\ls<=ms/\ms<=10044/\OJ w c hA hc fb hb ob ls ms W0/\AtP c w.heap.size fb hb ob ls ms W0 u q W) (λa _=>ms-(bh (a.tmps.LE 19 undef)).L) rfl ?_ ?_
 .rintro _ W ⟨fb,hb,ob,W0,u,q,rfl,hsome,cD,cE,B,H⟩;have hqm:=H.le;have HB:=AB B;have HH:=AB H;obtain⟨l1,l2,l3,l4⟩:=B.lt;obtain⟨n,hn⟩:∃n,n=c.DR.L:=⟨_,rfl⟩;have HN:=AB hn;rw[yL,H.u6,H.u15,H.u17,H.u18,H.u19,<-hn];have h4:=aD.out.h4;have h1:=aD.out.h1;rw[<-hn] at h4 h1;clear H B hn;refine Aj λK hK=>?_;have key:∀(u':Nat->dy) (W':bc),u' 6=u 6->u' 15=u 15->u' 17=u 17->u' 18=u 18->u' 19=u 19->GD W' hb n (λi=>D5 (Ee (Fs c) q) i)->GD W' ob (n*2) (two (λi=>if ls<q+1 then D5 (Ee (Fs c) ls) i else 0) λ_=>0)->KT (λb=>b=hb\/b=ob) W0 W'->K ⟨T 126 u',[]⟩ W':=by
   intro u' W' e6 bO bP e18 bQ a6 a7 hk;refine hK _ _ ?_;rw[yL,e6,bO,bP,e18,bQ,HH.out.u6,HH.out.u15,HH.out.u17,HH.out.u18,HH.out.u19,<-HN.out];have aN:=AB a6;have aW:=AB a7;have aF:=AB hk;obtain⟨b6,f0,f1,a8⟩:=HB.out.on hk;rw[<-HN.out] at b6;have c3:=AB a8;have aX:=AB (gw (Fs c) (λi hi=>by rw[ep];exact(aD.out.heads _ (c.IW (by rw[<-bC];exact hi))).1) (by rw[bC];exact aD.out.h1) q)
   clear a6 a7 hk a8 e6 bO bP e18 bQ hK;by_cases aM:q=ms
   .have HQM:=AB aM;have aI:(q:Int)=(ms:Int):=by omega
    clear aM;go_wp2;go_loopw [75] (λi wr=>∃p:Nat,p<=n/\i=Y U p/\GD wr hb n (λi=>D5 (Ee (Fs c) q) i)/\GD wr ob (n*2) (two (λi=>D5 (Ee (Fs c) ls) i) λi=>if i<p then D5 (Ee (Fs c) ms) i else 0)/\KT (λb=>b=hb\/b=ob) W0 wr) (λi _=>n-(bh i).L)
    case atStart=>exact⟨0,by omega,rfl,aN.out,aW.out.congr λi hi=>et (λi _=>by rw[AJ (by have:=HQM.out;omega)]) (λi _=>by rw[AE (by omega)]) i hi,aF.out⟩
    case round =>
     obtain⟨p,hp,rfl,a6,a7,hk⟩:=hrel;have H1:=AB a6;have H2:=AB a7;have H3:=AB hk;clear aN aW aF;by_cases aJ:p<n
     .obtain⟨c0,_⟩:=a6.at_ p aJ;obtain⟨c1,f2⟩:=a7.at_ (p*2+1) (by omega);have HV:=AB (λv (hv:v=D5 (Ee (Fs c) ms) p)=>a7.SS (a:=p*2+1) (by omega) v (uS (n:=n) (a:=λi=>D5 (Ee (Fs c) ls) i) (b:=λi=>D5 (Ee (Fs c) ms) i) (by rw[hv])));have aY:=AB (λv=>a6.other (b:=ob) (o:=p*2+1) (v:=v) (by omega));have aZ:Hid (∀v,KT (λb=>b=hb\/b=ob) W0 (wr.LE ⟨ob,p*2+1,I⟩ v)):=AB λv=>hk.trans (KT.LE (T:=λb=>b=hb\/b=ob) wr (p:=⟨ob,p*2+1,I⟩) (.inr rfl) v)
      have aK:Hid (D5 (Ee (Fs c) q) p=D5 (Ee (Fs c) ms) p):=AB (by rw[HQM.out]);generalize D5 (Ee (Fs c) q) p=v at c0 aK;clear a6 a7 hk;go_wp2;go_roundw
      case rel=>exact⟨p+1,by omega,by go_num,aY.out _,HV.out _ aK.out,aZ.out _⟩
      case measure=>simp[Proofs.intOf];omega
     .clear a6 a7 hk;have HSO:=AB hsome
      have c4:Hid (Gr w wr/\iT c w fo (.L (.tuple #[.slice (E ⟨ob,0,I⟩) n n,Y U 0])) wr):=AB ⟨bR HB.out.gr H3.out (by omega) (by omega),by
       rw[hsome];refine⟨ob,by rw[HN.out],by omega,?_⟩;rw[<-HN.out]
       exact H2.out.congr λi hi=>et (λi _=>by rw[Cn]) (λi h=>by rw[AJ (by omega),Cn]) i hi⟩
      clear hsome;go_wp2;exact gF (dt (ea eF _ _ _) rfl c4.out)
   .have aI:¬(q:Int)=(ms:Int):=by omega
    have hbq:((q:Int)==(ms:Int))=false:=by simpa using aI
    have b5:q<ms:=by omega
    have aO:∀i,0<=D5 (Ee (Fs c) q) i/\D5 (Ee (Fs c) q) i<=20000:=λi=>⟨aX.out.pos i,by have:=pu aX.out i;omega⟩;have b7:=AB aO;clear aO aM;go_wp2;go_loopw [24,90] (λd i wr=>∃p:Nat,p<=n/\i=Y U p/\d=Y U (Gp (Fs c) (Ee (Fs c) q) p:Nat)/\Gr W' wr) (λ_ i _=>n-(bh i).L)
    case atStart=>exact⟨0,by omega,rfl,rfl,.refl _⟩
    case round =>
     obtain⟨p,hp,rfl,rfl,hg⟩:=hrel;have HG:=AB hg;have aL:Gp (Fs c) (Ee (Fs c) q) p<n:=by
      have cK:=HN.out;have:=iN (Fs c) (Ee (Fs c) q) (by rw[bC];omega) p (by rw[bC];omega);rw[bC] at this;omega
     by_cases aJ:p<n
     .have hB:w.heap.size<=W'.heap.size:=by have:=aF.out.size;omega
      have a8:=c3.out.keep (w':=wr) λb o hb=>hg.cell (p:=⟨b,o,I⟩) (by show b<_;omega);obtain⟨b,o,rfl,cL,t1,t2,t3,A4,k4,t4,_⟩:=a8.at_ (i:=p) (by have:=HN.out;omega);obtain⟨b',o',e',_,s1,_⟩:=a8.at_ (i:=Gp (Fs c) (Ee (Fs c) q) p) (by have:=HN.out;omega);injection e' with e'
      injection e' with e1 e2
      subst e1 e2;have bS:=AB s1;have cM:=AB t1;have cF:Hid (wr.L ⟨w.heap.size,1,I⟩=E (.slice (E ⟨b,o,I⟩) n hc)):=AB ((hg.cell (p:=⟨w.heap.size,1,I⟩) (by show w.heap.size<_;have:=aF.out.size;omega)).trans b6);have cG:=AB (aN.out.gr hg);have cN:=hg.size;have hbr:b<wr.heap.size:=by omega
      have hwr:w.heap.size<wr.heap.size:=by have:=aF.out.size;omega
      have b8:Hid (Gp (Fs c) (Ee (Fs c) q) (p+1)=if(c.h (Gp (Fs c) (Ee (Fs c) q) p)).heads*(D5 (Ee (Fs c) q) p+1)<(c.h p).heads*(D5 (Ee (Fs c) q) (Gp (Fs c) (Ee (Fs c) q) p)+1) then p else Gp (Fs c) (Ee (Fs c) q) p):=AB (by conv=>{ lhs;unfold Gp };rw[ep,ep]);generalize Gp (Fs c) (Ee (Fs c) q) p=d at aL bS b8;clear hg a8 s1;generalize bT:(c.h p).heads=Lu at t1
      have HHD:=AB bT;clear bT;go_wp2_with fail;refine bI 126 rfl λu2 aA=>?_;have ga:Gr wr (wr.Li (bn #[Y U Lu,Y U (c.h p).F9,Y U (c.h p).most,Z A4 (c.h p).off.L k4] 48)):=(Gr.refl wr).Li _;refine xI (c:=c) (cb:=w.heap.size) (bb:=wr.heap.size) (hb:=hb) (n:=n) (hq:=b) (ho:=o) (hc:=hc) (d:=d) (k:=p) (H:=λi=>D5 (Ee (Fs c) q) i) (aA 26) (aA 17) (aA 24) (aA 6) (aA 25) ?_ ?_ ((ga.cell (p:=⟨b,o+d*4,I⟩) hbr).trans bS.out) (cG.out.gr ga) aL aJ (λi hi=>aD.out.heads _ (c.IW (by rw[<-HN.out];exact hi))) b7.out λW2 u3 bU hf3 b9=>?_
      .rw[HHD.out,AF _ _ _ _ rfl];rfl
      .exact(ga.cell (p:=⟨w.heap.size,1,I⟩) hwr).trans cF.out
      .rw[aS (n:=126) [95,96,97,98,99,100,101,102,103,104,105,106,107,108,109,110,111,112,113,114,115] (by kernel_rfl) rfl aA hf3];simp only[Bg,Bq,Be,Bh];rw[b9];have aB:=AB (HG.out.trans (ga.trans bU.gr));clear aA hf3 b9 bU ga t1 t2 t3 t4;by_cases zY:(c.h d).heads*(D5 (Ee (Fs c) q) p+1)<(c.h p).heads*(D5 (Ee (Fs c) q) d+1)
       .rw[Ci zY];have bA:=AB (b8.out.trans (AJ zY));clear zY;go_wp2;go_roundw
        case rel=>exact⟨p+1,by omega,by go_num,by rw[bA.out],aB.out⟩
        case measure=>simp[Proofs.intOf];omega
       .rw[B4 zY];have bA:=AB (b8.out.trans (AE zY));clear zY;go_wp2;go_roundw
        case rel=>exact⟨p+1,by omega,by go_num,by rw[bA.out],aB.out⟩
        case measure=>simp[Proofs.intOf];omega
     .obtain rfl:p=n:=by omega
      have hN:=aN.out.gr hg;obtain⟨c0,fz⟩:=hN.at_ _ aL;obtain⟨p1,p2⟩:=b7.out (Gp (Fs c) (Ee (Fs c) q) p);have hpf:∀i,D5 (Ee (Fs c) (q+1)) i=if i=Gp (Fs c) (Ee (Fs c) q) p then D5 (Ee (Fs c) q) (Gp (Fs c) (Ee (Fs c) q) p)+1 else D5 (Ee (Fs c) q) i:=λi=>by
       have e1:(Fs c).L=p:=by rw[bC,HN.out]
       have e2:(Ee (Fs c) q).L=p:=by rw[aX.out.len,e1]
       conv=>{ lhs;unfold Ee }
       rw[GQ,e1,e2];by_cases e:i=Gp (Fs c) (Ee (Fs c) q) p
       .rw[AJ ⟨e,aL⟩,AJ e]
       .rw[AE λh=>e h.1,AE e]
      have HS:=AB (hN.SS aL (D5 (Ee (Fs c) q) (Gp (Fs c) (Ee (Fs c) q) p)+1) λi _=>hpf i);have cH:=AB (λo v=>(aW.out.gr hg).other (b:=hb) (o:=o) (v:=v) (by omega));have HKK:=AB (λo v=>(aF.out.trans (KT.EF hg)).trans (KT.LE (T:=λb=>b=hb\/b=ob) wr (p:=⟨hb,o,I⟩) (.inl rfl) v));generalize Gp (Fs c) (Ee (Fs c) q) p=d at *;generalize D5 (Ee (Fs c) q) d=v at c0 p1 p2 HS
      have hwv:IntKind.i64.wrap (v+1)=v+1:=by simp[bq,br,bk];omega
      have hwq:IntKind.i64.wrap ((q:Int)+1)=(q:Int)+1:=by simp[bq,br,bk];omega
      have HSO:=AB hsome;clear hN hpf hg hsome;go_wp2;go_step3;refine lF ?_;refine⟨⟨fb,hb,ob,W0,_,q+1,AZ (λt=>(⟨t,[]⟩:Act)) uw,HSO.out,cD,cE,HB.out,⟨rfl,rfl,?_,?_,?_,by omega,?_,?_,HKK.out _ _⟩⟩,?_⟩
      .rw[<-HN.out];rfl
      .rw[<-HN.out];rfl
      .show Y U ((q:Int)+1)=_;rw[show((q+1:Nat):Int)=(q:Int)+1 by omega]
      .rw[<-HN.out];exact HS.out
      .rw[<-HN.out];exact cH.out _ _
      .show ms-(bh (Y U ((q:Int)+1))).L<ms-(bh (Y U (q:Int))).L;simp[bh];omega
  have KEY:=AB key;clear key hK;obtain⟨b6,f0,f1,a8⟩:=HB.out.on HH.out.kt;have HHS1:=AB a8;clear a8;by_cases b5:q=ls
  .have bB:=AB b5;have aI:(q:Int)=(ls:Int):=by omega
   clear b5;have HO0:Hid (GD W ob (n*2) (two (λi=>if i<0 then D5 (Ee (Fs c) ls) i else 0) λ_=>0)):=AB (by rw[HN.out];exact HH.out.out.congr λi hi=>et (λi _=>by rw[AE (by have:=bB.out;omega),AE (by omega)]) (λ_ _=>rfl) i hi);have bV:Hid (GD W hb n λi=>D5 (Ee (Fs c) q) i):=AB (by rw[HN.out];exact HH.out.LT);have bW:=AB HH.out.kt;go_wp2;go_loopw [58] (λi wr=>∃p:Nat,p<=n/\i=Y U p/\GD wr hb n (λi=>D5 (Ee (Fs c) q) i)/\GD wr ob (n*2) (two (λi=>if i<p then D5 (Ee (Fs c) ls) i else 0) λ_=>0)/\KT (λb=>b=hb\/b=ob) W0 wr) (λi _=>n-(bh i).L)
   case atStart=>exact⟨0,by omega,rfl,bV.out,HO0.out,bW.out⟩
   case round =>
    obtain⟨p,hp,rfl,a6,a7,hk⟩:=hrel;have H1:=AB a6;have H2:=AB a7;have H3:=AB hk;clear bV HO0 bW;by_cases aJ:p<n
    .obtain⟨c0,_⟩:=a6.at_ p aJ;obtain⟨c1,f2⟩:=a7.at_ (p*2) (by omega);have HV:=AB (λv (hv:v=D5 (Ee (Fs c) ls) p)=>a7.SS (a:=p*2) (by omega) v (uR (n:=n) (a:=λi=>D5 (Ee (Fs c) ls) i) (b:=λ_=>0) (by rw[hv])));have aY:=AB (λv=>a6.other (b:=ob) (o:=p*2) (v:=v) (by omega));have aZ:Hid (∀v,KT (λb=>b=hb\/b=ob) W0 (wr.LE ⟨ob,p*2,I⟩ v)):=AB λv=>hk.trans (KT.LE (T:=λb=>b=hb\/b=ob) wr (p:=⟨ob,p*2,I⟩) (.inr rfl) v)
     have aK:Hid (D5 (Ee (Fs c) q) p=D5 (Ee (Fs c) ls) p):=AB (by rw[bB.out]);generalize D5 (Ee (Fs c) q) p=v at c0 aK;clear a6 a7 hk;go_wp2;go_roundw
     case rel=>exact⟨p+1,by omega,by go_num,aY.out _,HV.out _ aK.out,aZ.out _⟩
     case measure=>simp[Proofs.intOf];omega
    .clear a6 a7 hk;go_wp2;refine vi (K:=K) 126 rfl λu' hu=>KEY.out u' _ ((hu 6).trans HH.out.u6.LT) ((hu 15).trans HH.out.u15.LT) ((hu 17).trans ?_) ((hu 18).trans ?_) ((hu 19).trans (by rw[HH.out.u19];first|rfl|(rw[aI];rfl))) H1.out ?_ H3.out
     .rw[HH.out.u17,HN.out];rfl
     .rw[HH.out.u18,HN.out];rfl
     .exact H2.out.congr λi hi=>et (λi h=>by rw[AJ (by omega),AJ (by have:=bB.out;omega)]) (λ_ _=>rfl) i hi
  .have aI:¬(q:Int)=(ls:Int):=by omega
   go_wp2;refine vi (K:=K) 126 rfl λu' hu=>KEY.out u' _ ((hu 6).trans HH.out.u6.LT) ((hu 15).trans HH.out.u15.LT) ((hu 17).trans ?_) ((hu 18).trans ?_) ((hu 19).trans HH.out.u19.LT) ?_ ?_ HH.out.kt
   .rw[HH.out.u17,HN.out];rfl
   .rw[HH.out.u18,HN.out];rfl
   .rw[HN.out];exact HH.out.LT
   .have:=HH.out.out;rw[HN.out];exact this.congr λi hi=>et (λi _=>by by_cases h:ls<q;rw[AJ h,AJ (by omega)];rw[AE h,AE (by omega)]) (λ_ _=>rfl) i hi
 .intro R aP;have HP:=AB aP;clear aP;obtain⟨⟨c0,c1⟩,d0,d1,d2⟩:=HE.out W1 (.refl _);go_wp2_with fail;refine HCH.out.LT ?_;rintro e W2 ⟨rfl,zI⟩;have bX:=AB zI;have bD:=AB (aT.out W2 (aV.out.trans zI));clear c0 c1 d0 d1 d2 zI;obtain⟨⟨c0,c1⟩,d0,d1,d2⟩:=HE.out W2 bX.out;go_wp2_with fail;refine bD.out.LT ?_;rintro e W3 ⟨zH,aC⟩;have aB:=AB (bX.out.trans zH);clear c0 c1 d0 d1 d2 zH bD
  obtain⟨⟨c0,c1⟩,d0,d1,d2⟩:=HE.out W3 aB.out;cases fo with
  |none =>
   unfold eR at aC;subst aC;go_wp2;exact gF (dt (ea eF _ _ _) rfl ⟨(aV.out.trans aB.out).Li _,rfl⟩)
  |some p =>
   obtain⟨a,b⟩:=p;unfold eR at aC;dsimp only at aC;subst aC;obtain⟨i1,i2,i3⟩:=bL.out a b rfl;have bE:(ls:Int)=a:=by have:=HLS.out;simp at this;omega
   have bF:(ms:Int)=b:=by have:=c5.out;simp at this;omega
   rw[<-bE] at i1 i2 ⊢;rw[<-bF] at i2 i3 ⊢;have HLA:=AB bE;have cI:=AB bF;clear bE bF;have h4:=aD.out.h4;obtain⟨n,hn⟩:∃n,n=c.DR.L:=⟨_,rfl⟩;have HN:=AB hn;rw[<-hn] at c1 h4 ⊢;have hz3:=aB.out.size;have bG:w.heap.size<W3.heap.size:=by omega
   have hmk1:=λw=>ip n w (by omega);have hmk2:=λw=>yM n w (by omega);have HGG:=AB (aV.out.trans aB.out);clear hn hz3;go_wp2;go_step3;rename_i cJ;refine cJ _ _ ?_;refine bI 126 rfl λu hu=>?_;obtain⟨W4,aQ⟩:∃W:bc,W=W3.Li (bn #[Y U (ls:Int),Y U (ms:Int)] 38):=⟨_,rfl⟩;rw[<-aQ];have bY:W4.heap.size=W3.heap.size+1:=by rw[aQ];simp
   have a6:=uv W4 n;have a7:=sX (W4.Li (.cells (ct n) 3)) n;have bZ:(W4.Li (.cells (ct n) 3)).heap.size=W3.heap.size+1+1:=by rw[show(W4.Li (.cells (ct n) 3)).heap.size=W4.heap.size+1 by simp,bY]
   rw[bY] at a6;rw[bZ] at a7;have g3:Gr W3 W4:=aQ▸(Gr.refl W3).Li _;have g4:Gr W4 ((W4.Li (.cells (ct n) 3)).Li (.cells (I6 n) 38)):=((Gr.refl W4).Li _).Li _;have e4:W4.heap[W3.heap.size]?=E (bn #[Y U (ls:Int),Y U (ms:Int)] 38 (0,0)):=by rw[aQ];exact heap_alloc_new _ _
   have c2:Gr w ((W4.Li (.cells (ct n) 3)).Li (.cells (I6 n) 38)):=(HGG.out.trans g3).trans g4;have hq:=HN.out;refine HP.out _ _ ⟨W3.heap.size,W3.heap.size+1,W3.heap.size+1+1,_,u,0,rfl,by rw[HLA.out,cI.out],by omega,by omega,⟨c2,⟨bG,by omega,by omega,by rw[show((W4.Li (.cells (ct n) 3)).Li (.cells (I6 n) 38)).heap.size=(W4.Li (.cells (ct n) 3)).heap.size+1 by simp,bZ];omega⟩,?_,?_,?_,cB.out.keep λ_ _ hb=>c2.cell hb⟩,⟨hu 6,hu 15,hq▸hu 17,hq▸hu 18,hu 19,Bc _,?_,?_,.refl _ _⟩⟩
   .rw[<-hq];exact(g4.cell (p:=⟨w.heap.size,1,I⟩) (by show w.heap.size<_;omega)).trans ((g3.cell (p:=⟨w.heap.size,1,I⟩) bG).trans c1)
   .exact(g4.cell (p:=⟨W3.heap.size,0,I⟩) (by show W3.heap.size<_;omega)).trans (DU e4 0).1
   .exact(g4.cell (p:=⟨W3.heap.size,1,I⟩) (by show W3.heap.size<_;omega)).trans (DU e4 1).1
   .rw[<-hq];exact(a6.gr ((Gr.refl _).Li _)).congr λq _=>(Ak _ q).LT
   .rw[<-hq];exact a7.congr λq _=>by unfold two;simp
def sY (nn mm:Nat)(bZ:1<=nn)(hnn:nn<=5)(c5:1<=mm)(cA:mm<=4)(hb B:Nat)(A:Option ed)(cap:Nat)(l:List Int)(N:Nat)(w:bc)(h:Hand w hb B A cap l N)(hN:N<=10000) :
  e7 DP 7 #[.S (E ⟨hb,0,I⟩),Y U nn,Y U mm] w λe w'=>∃c nA hA nc hc,e=.L (EG nA hA c nc hc)/\c.Ok/\Es c=0/\(c.DW.L<=nn/\c.DR.L<=mm)/\IU w' (λb=>w.heap.size<=b/\b<w'.heap.size) nA c.DW/\Hg w' (λb=>w.heap.size<=b/\b<w'.heap.size) hA c.DR/\Hand w' hb B A cap l (N+1000)/\KH hb w w':=by
 obtain⟨W0,zM⟩:∃W0:bc,W0=(w.Li (bn #[.slice I 0 0,.slice I 0 0] 27)).Li (bn #[.slice I 0 0,.slice I 0 0] 27):=⟨_,rfl⟩;have zL:Gr w W0:=zM▸((Gr.refl w).Li _).Li _;have HZ0:Hid (W0.heap.size=w.heap.size+2):=AB (by rw[zM];simp);have HH:=AB (h.gr zL);have zY:=h.lt;have HW:=AB zM;have cB:=AB zL;have b9:=AB (cV hb B A cap l N 1 nn W0 (h.gr zL) (by omega) (by omega) (by omega))
 have bL:Hid (CO w hb B A cap l N (w.heap.size+2) (.slice I 0 0) [] W0):=AB ⟨h.gr zL,by rw[zM];exact ay _ _ (by simp),by rw[zM,ae _ _ (by simp)];exact heap_alloc_new _ _,Bs _ _ _ _,⟨zL.Ly.os,zL.Ly.tape,zL.Ly.output,zL.drawn,zL.size,λb hb' _=>zL.Ly.Lo b hb'⟩,zY,by rw[zM];simp⟩;clear zM zL h;go_enter Sq.func7,Tryz.ntmps7;go_wp2_with fail;rw[<-HW.out];refine b9.out.LT ?_;rintro e w1 ⟨⟨n,rfl,cC,cD⟩,hh,a6⟩
 have bM:=AB (bL.out.Gb hh a6);clear hh a6 b9;go_wp2;go_loopw [9] (λi wr=>∃k:Nat,k<=n/\i=Y U k/\∃v ns,CO w hb B A cap l (N+1+4*k) (w.heap.size+2) v ns wr/\ns.L=k/\∀x∈ns,0<=x/\x<=12) (λi _=>n-(bh i).L)
 case atStart=>exact⟨0,by omega,rfl,_,[],bM.out,rfl,λx hx=>by simp at hx⟩
 case round =>
  obtain⟨k,hk,rfl,v,ns,a7,aL,hns⟩:=hrel;have HNS:=AB hns;clear hns;by_cases hlk:k<n
  .obtain⟨c0,f0,l0⟩:=a7.drew.cell;obtain⟨c9,f9,l9⟩:=a7.cell;replace a7:=AB a7.drew;go_wp2;clear c9 f9 l9
   go_region_law (first
    |(refine qw (by rfl) _ _ (by rfl) (by rfl) (w.heap.size+2) _ _ _ (by rfl) a7.out.LE (Y U z) rfl (by rfl) (by omega) a7.out.bs.2 ?_;intro v' w6 aI aB hd6;clear c0 f0 l0;have aM:=(FJ a7.out.LE aB (w.heap.size+1) (by omega) (AC.1 a7.out.Fy).1).trans a7.out.Fy;have c6:=(DU aM 0).1;have f6:=(DU aM 0).2;have aF:w6.S (w.heap.size+2) 3 1 v' (ns++[z]).L ((ns++[z]).map (Y U)):=(by simpa using aI);obtain⟨A6,k6,hv6,_⟩:=RI.Fw aF;subst hv6)
    |(refine sv (by rfl) ?_;go_simp;first
     |(go_at_call 11;refine(aO hb B A cap l _ _ _ a7.out.hand (by omega) (by omega)).LT ?_;rintro e w' ⟨⟨q,rfl,hq⟩,hh,a6⟩;replace a7:=AB (a7.out.Gb hh a6);clear c0 f0 l0 hh a6;obtain⟨c0,f0,l0⟩:=a7.out.cell;dsimp only)
     |(go_at_call 36;refine(gy hb B A _ cap 2 l [_,_] _ _ _ (a7.out.Li _).hand (by omega) (by simp) (yC (a7.out.room _))).LT ?_;rintro e w' ⟨⟨z,rfl,hz⟩,hh,a6⟩;have bN:0<=z/\z<=12:=(by simp only[AM,AK,or_false] at hz;omega);replace a7:=AB ((a7.out.Li _).Gb hh a6);clear c0 f0 l0 hh a6;have HZ:=AB bN;obtain⟨c0,f0,l0⟩:=a7.out.cell;dsimp only)))
   all_goals
    have aN:=AB ((a7.out.push aF aB hd6).more (M':=N+1+4*(k+1)) (by omega));have aP:(ns++[z]).L=k+1:=by simp[aL]
    rw[aP] at aN;have bP:Hid (∀x∈ns++[z],0<=x/\x<=12):=AB λx hx=>by
     obtain hx|hx:=BK.1 hx
     .exact HNS.out x hx
     .simp only[AM,AK,or_false] at hx;subst hx;exact HZ.out
    clear aF aB hd6 aI a7 c6 f6 aM;go_wp2;go_roundw
    case rel=>exact⟨k+1,by omega,by go_num,_,_,aN.out,aP,bP.out⟩
    case measure=>simp[Proofs.intOf];omega
  .have bW:k=n:=by omega
   subst bW;have aQ:=AB (a7.cp.more (M':=N+30) (by omega));have aR:=AB (cV hb B A cap l (N+30) 1 mm wr aQ.out.hand (by omega) (by omega) (by omega));clear a7;go_wp2_with fail;refine aR.out.LT ?_;rintro e w2 ⟨⟨m,rfl,cE,hm4⟩,hh,a6⟩;have bQ:=AB (aQ.out.Gb hh a6);clear hh a6 aR aQ;go_wp2;go_loopw [10] (λi wr=>∃j:Nat,j<=m/\i=Y U j/\∃u hs xs,CP w hb B A cap l (N+31+20*(m-j)) (w.heap.size+2) v ns u hs xs wr/\hs.L=m-j/\∀h∈hs,GV ns.L h=0) (λi _=>(bh i).L)
   case atStart=>exact⟨m,by omega,rfl,_,[],[],bQ.out.more (by omega),by simp,λh hh=>by simp at hh⟩
   case round =>
    obtain⟨wq,rfl⟩:∃wq,wq=wr:=⟨_,rfl⟩;obtain⟨j,hj,rfl,u,hs,xs,bA,hhl,bB⟩:=hrel;have HP:=AB bA;have bC:=AB bB;clear bA bB;by_cases cF:0<j
    .have bD:=AB (cV hb B A cap l _ 1 6 wq HP.out.hand (by omega) (by omega) (by omega));go_wp2_with fail;refine bD.out.LT ?_;rintro e v1 ⟨⟨a1,rfl,ha1,hb1⟩,hh,a6⟩;have bE:=AB (HP.out.Gb hh a6);have HA2:=AB (cV hb B A cap l _ 1 40 v1 hh (by omega) (by omega) (by omega));clear hh a6 bD;go_wp2_with fail;refine HA2.out.LT ?_;rintro e v2 ⟨⟨a2,rfl,ha2,zq⟩,hh,a6⟩;have aS:=AB (bE.out.Gb hh a6)
     have hhl2:=hh.lt;have HA3:=AB (gy hb B A (E ⟨v2.heap.size,0,I⟩) cap 1 l [(a2:Int)] _ a1 (v2.Li (bn #[Y U a2] 3)) (aS.out.Li _).hand (by omega) (by simp) (Aq (by simp;omega)));clear hh a6 HA2;go_wp2_with fail;refine HA3.out.LT ?_;rintro e v3 ⟨⟨a3,rfl,ha3⟩,hh,a6⟩;have h340:1<=a3/\a3<=40:=by simp only[AM,AK,or_false] at ha3;omega
     have bF:=AB ((aS.out.Li _).Gb hh a6);have HA4:=AB (cV hb B A cap l _ 1 5 v3 hh (by omega) (by omega) (by omega));clear hh a6 HA3;go_wp2_with fail;refine HA4.out.LT ?_;rintro e v4 ⟨⟨a4,rfl,cG,hb4⟩,hh,a6⟩;have bG:=AB (bF.out.Gb hh a6);have HA5:=AB (cV hb B A cap l _ 0 3 v4 hh (by omega) (by omega) (by omega));clear hh a6 HA4;go_wp2_with fail;refine HA5.out.LT ?_;rintro e v5 ⟨⟨a5,rfl,ha5,cH⟩,hh,a6⟩
     have aT:=AB ((bG.out.Gb hh a6).more (M':=N+31+20*(m-j)+5) (by omega));have bR:=hh.lt;clear hh a6 HA5 HP bE aS bF bG;obtain⟨vX,aD⟩:∃vX:bc,vX=v5.Li (bn #[Y U a3,Y U a4,Y U a5,.slice I 0 0] 48):=⟨_,rfl⟩;have HX0:Hid (vX.heap[v5.heap.size]?=E (bn #[Y U a3,Y U a4,Y U a5,.slice I 0 0] 48 (0,0))):=AB (by rw[aD];exact heap_alloc_new _ _)
     have HPX:=AB (aD▸aT.out.Li (bn #[Y U a3,Y U a4,Y U a5,.slice I 0 0] 48));have HZX:Hid (vX.heap.size=v5.heap.size+1):=AB (by rw[aD];simp);have HKX:Hid (KT (·=hb) v5 vX):=AB (aD▸KT.EF ((Gr.refl v5).Li _));have HVX:=AB aD;clear aD;go_wp2;rw[<-HVX.out];go_loopw [12] (λi wr=>∃t:Nat,t<=k/\i=Y U t/\∃y p,KT (·=hb) v5 wr/\Hand wr hb B A cap l (N+31+20*(m-j)+5+t)/\wr.heap[v5.heap.size]?=E (bn #[Y U a3,Y U a4,Y U a5,y] 48 (0,0))/\wr.S (v5.heap.size+1) 3 1 y (EZ p t).L ((EZ p t).map (Y U))) (λi _=>k-(bh i).L)
     case atStart=>exact⟨0,by omega,rfl,_,λ_=>false,HKX.out,HPX.out.hand,HX0.out,Bs _ _ _ _⟩
     case round =>
      obtain⟨t,ht,rfl,y,p,a6,hh,aA,zm⟩:=hrel;have HK:=AB a6;have HO:=AB zm;have HXO:=AB aA;have hzw:=a6.size;have hXl:=(AC.1 aA).1;by_cases htk:t<k
      .have bH:=AB (fm hb B A cap l _ 1 6 wr hh (by omega) (by omega));clear hh a6 zm aA;go_wp2_with fail;refine bH.out.LT ?_;rintro e w8 ⟨⟨bo,rfl⟩,hh,a6⟩;have bS:v5.heap.size≠hb:=by omega
       have aU:=AB (HK.out.trans a6);have a8:=da HO.out (show hb<v5.heap.size+1 by omega) a6;have aH:=(a6.Lo _ hXl bS).trans HXO.out;have bI:=AB aH;have c8:=(DU aH 3).1;have f8:=(DU aH 3).2;have bT:=(AC.1 aH).1;have HH8:=AB hh;have aJ:=AB a8;obtain⟨p2,aV⟩:∃p2:Nat->Bool,p2=λq=>if q=t then bo else p q:=⟨_,rfl⟩
       have HP:=AB (og p2 t);have aW:Hid (p2 t=bo):=AB (by rw[aV];simp);have aX:=AB (nl (p:=p2) (q:=p) (k:=t) λi hi=>by rw[aV];exact AE (by omega));clear aV;have cI:=qu p t;have hz8:=aU.out.size;have hZX:=HZX.out;clear a6 hh bH aH;obtain⟨yA,yc,aY,_⟩:=RI.Fw a8;subst aY;cases bo with
       |true =>
        clear hZX;go_wp2_with (at_builtin;refine jT rfl _ _ rfl (v5.heap.size+1) _ _ _ rfl (a8.Li _) ⟨w8.heap.size,0,I⟩ 1 (Y U t) rfl ?c1 rfl ?c2 ?c3 ?_)
        case c1=>first|(rw[Addr.add_lit,AF _ _ _ _ (by simp)];rfl)|(rw[AF _ _ _ _ (by simp)];rfl)
        case c2=>omega
        case c3=>simp;omega
        intro v' w9 hown' hgrow hd;have aG:w9.S (v5.heap.size+1) 3 1 v' (EZ p2 (t+1)).L ((EZ p2 (t+1)).map (Y U)):=by
         rw[HP.out,aX.out,AJ aW.out];simpa using hown'
        obtain⟨A9,c9,hv9,_⟩:=RI.Fw aG;subst hv9;have aK:=(FJ aJ.out hgrow v5.heap.size (by omega) bT).trans bI.out;have d9:=(DU aK 3).1;have g9:=(DU aK 3).2;have aP:(EZ p t).L+1=(EZ p2 (t+1)).L:=by rw[HP.out,aX.out,AJ aW.out];simp
        have bX:=AB ((gC aU.out aJ.out (by omega) hgrow hd).SS (p:=⟨v5.heap.size,3,I⟩) (AD _) (Z A9 (EZ p2 (t+1)).L c9));have bJ:=AB (((eN HH8.out aJ.out (by omega) hgrow).SS (p:=⟨v5.heap.size,3,I⟩) bR (Z A9 (EZ p2 (t+1)).L c9)).more (M:=N+31+20*(m-j)+5+(t+1)) (by omega));have HX9:=AB (Eh (i:=3) (u:=Z A9 (EZ p2 (t+1)).L c9) aK)
        have aZ:=AB (ownsRow_setCell_below aG (show(⟨v5.heap.size,3,I⟩:ed).Lo<v5.heap.size+1 from Nat.lt_succ_self _) (Z A9 (EZ p2 (t+1)).L c9));clear hown' hgrow hd aG a8 aK;go_wp2;go_roundw
        case rel=>exact⟨t+1,by omega,by go_num,_,_,bX.out,bJ.out,HX9.out,aZ.out⟩
        case measure=>simp[Proofs.intOf];omega
       |false =>
        have aZ:Hid (w8.S (v5.heap.size+1) 3 1 (Z yA (EZ p t).L yc) (EZ p2 (t+1)).L ((EZ p2 (t+1)).map (Y U))):=AB (by
         rw[HP.out,aX.out,AE (by rw[aW.out];simp)];simpa using aJ.out)
        clear a8;go_wp2;go_roundw
        case rel=>exact⟨t+1,by omega,by go_num,_,_,aU.out,HH8.out,bI.out,aZ.out⟩
        case measure=>simp[Proofs.intOf];omega
      .have bU:t=k:=by omega
       subst bU;have bJ:=AB hh;obtain⟨yA,yc,aY,_⟩:=RI.Fw zm;subst aY;have aC:=AB (aT.out.Gb hh a6);obtain⟨cu,fu,lu⟩:=aC.out.cell;have x0:=(DU aA 0).1;have x1:=(DU aA 1).1;have x2:=(DU aA 2).1;have x3:=(DU aA 3).1;have b5:=aC.out.Fg;have HOE:=AB (gq zm (show w.heap.size+2<=v5.heap.size+1 by have:=aT.out.bs;omega));clear hh a6 zm aA
       go_wp2_with (at_builtin;refine Ab rfl _ _ rfl (w.heap.size+2) _ _ _ rfl (b5.Li _) ⟨wr.heap.size,0,I⟩ 1 [Y U a3,Y U a4,Y U a5,Z yA (EZ p t).L yc] rfl rfl ?c1 ?c2 ?c3 ?c4 ?_)
       case c1 =>
        intro q z hq;rw[Addr.add_lit,AU,AF _ _ _ _ (by simp)]
        match q,hq with
        |0,hq=>exact hq
        |1,hq=>exact hq
        |2,hq=>exact hq
        |3,hq=>exact hq
        |q+4,hq=>simp at hq
       case c2=>intro z hz;simp at hz;rcases hz with rfl|rfl|rfl|rfl<;>rfl
       case c3=>omega
       case c4=>have:=aC.out.bs.2;simp;omega
       intro u' w9 hown' hgrow hd;obtain⟨gU,cU,rfl,_,_⟩:=hown'.form (by omega);have HPN:=AB (aC.out.push (x:=⟨a3,a4,a5,EZ p t⟩) HOE.out (by rw[hhl];exact hown') hgrow hd);have b6:=(FJ aC.out.Fg hgrow (w.heap.size+1) (by omega) (AC.1 aC.out.Fy).1).trans aC.out.Fy;have cq:=(DU b6 1).1;have fq:=(DU b6 1).2;have HHN:Hid (∀h∈hs++[(⟨a3,a4,a5,EZ p t⟩:EO)],GV ns.L h=0):=AB λh hh=>by
        obtain hh|hh:=BK.1 hh
        .exact bC.out h hh
        .simp only[AM,AK,or_false] at hh;subst hh;unfold GV;rw[AJ (by simp[Ha];omega),aL];exact su p t
       clear hown' hgrow hd b5 b6;go_wp2;go_roundw
       case rel=>exact⟨j-1,by omega,by go_num,_,_,_,HPN.out.more (by omega),by simp[hhl];omega,HHN.out⟩
       case measure=>simp[Proofs.intOf];omega
    .have bV:j=0:=by omega
     subst bV;obtain⟨nA,nc,hA,hc,rfl,rfl,b7,b8⟩:=HP.out.F5;have cJ:=AB b7;have cK:=AB b8;have q0:=(DU HP.out.Fy 0).1;have q1:=(DU HP.out.Fy 1).1;have r0:=(DU HP.out.Gf 0).1;have r1:=(DU HP.out.Gf 1).1;have g0:=(DU HP.out.Gf 0).2;have g1:=(DU HP.out.Gf 1).2
     have bK:Hid (Es ⟨ns,hs⟩=0):=AB (by
      unfold Es;have e1:Fc (ns.L:Int) 1 5=0:=dK.2 (by omega);have e2:Fc (hs.L:Int) 1 4=0:=dK.2 (by omega);rw[AE (by simp[e1]),AE,AE (by simp[e2])]
      .exact bO.2 fun x hx => by
        obtain⟨h,hh,rfl⟩:=BO.1 hx;exact bC.out h hh
      .have : (ns.all fun x => Ha x 0 12) = true := B6.2 fun x hx => by
        have:=HNS.out x hx;simp[Ha];omega
       rw[this];simp)
     have hhm:hs.L=m:=by omega
     have HKF:Hid (KT (·=hb) w ((wq.LE ⟨w.heap.size,0,I⟩ (Z nA k nc)).LE ⟨w.heap.size,1,I⟩ (Z hA m hc))):=AB ((HP.out.kt.SS (p:=⟨w.heap.size,0,I⟩) (AD _) _).SS (p:=⟨w.heap.size,1,I⟩) (AD _) _);have HHF:Hid (Hand ((wq.LE ⟨w.heap.size,0,I⟩ (Z nA k nc)).LE ⟨w.heap.size,1,I⟩ (Z hA m hc)) hb B A cap l (N+1000)):=AB (((HP.out.hand.SS (p:=⟨w.heap.size,0,I⟩) zY _).SS (p:=⟨w.heap.size,1,I⟩) zY _).more (by omega))
     have bY:Hid (IU ((wq.LE ⟨w.heap.size,0,I⟩ (Z nA k nc)).LE ⟨w.heap.size,1,I⟩ (Z hA m hc)) (λb=>w.heap.size<=b/\b<((wq.LE ⟨w.heap.size,0,I⟩ (Z nA k nc)).LE ⟨w.heap.size,1,I⟩ (Z hA m hc)).heap.size) nA ns):=AB (JK b7 (λb hb'=>⟨by omega,by have:=hb'.2;simpa [World.setCell] using this⟩) λb o hb'=>(AY (AP _ _ _ _ (by show b≠w.heap.size;omega))).trans (AY (AP _ _ _ _ (by show b≠w.heap.size;omega))))
     have HRG:Hid (Hg ((wq.LE ⟨w.heap.size,0,I⟩ (Z nA k nc)).LE ⟨w.heap.size,1,I⟩ (Z hA m hc)) (λb=>w.heap.size<=b/\b<((wq.LE ⟨w.heap.size,0,I⟩ (Z nA k nc)).LE ⟨w.heap.size,1,I⟩ (Z hA m hc)).heap.size) hA hs):=AB (Me b8 (λb hb'=>⟨by omega,by have:=hb'.2;simpa [World.setCell] using this⟩) λb o hb'=>(AY (AP _ _ _ _ (by show b≠w.heap.size;omega))).trans (AY (AP _ _ _ _ (by show b≠w.heap.size;omega))))
     clear b7 b8;go_wp2;have s1:=AW (wq.LE ⟨w.heap.size,0,I⟩ (Z nA k nc)) ⟨w.heap.size,1,I⟩ (Z hA m hc) ((AN wq ⟨w.heap.size,0,I⟩ ⟨w.heap.size,1,I⟩ (Z nA k nc) (by simp)).trans r1);have s0:=(AN (wq.LE ⟨w.heap.size,0,I⟩ (Z nA k nc)) ⟨w.heap.size,1,I⟩ ⟨w.heap.size,0,I⟩ (Z hA m hc) (by simp)).trans (AW wq ⟨w.heap.size,0,I⟩ (Z nA k nc) r0)
     refine dt (v:=.agg #[Z nA k nc,Z hA m hc]) (by simp[results,Tryz.results7,go_sem,s0,s1]) rfl ⟨⟨ns,hs⟩,nA,hA,nc,hc,by rw[<-aL,<-hhm];rfl,Eb.Ok.of bK.out,bK.out,⟨by show ns.L<=nn;omega,by show hs.L<=mm;omega⟩,bY.out,HRG.out,HHF.out,HKF.out⟩
noncomputable def aB:Code:=Tryz.f3.body.LE .skip
noncomputable def q3 (n:Nat):Code:=F8 (Ff n aB)
noncomputable def gG:Code:=Ff 9 aB
noncomputable def qF:Code:=Ff 11 aB
noncomputable def GJ:Array Oper:=MK (F8 (OB (q3 8)))
noncomputable def Jm:Array Oper:=MK (F8 qF)
noncomputable def yO:Array Oper:=MK (F8 (q3 8))
noncomputable abbrev lH (k:Nat):Array Oper:=OC k dr
def Au:q3 8=.seq (.L 8 yO cw) (.cond (.tmp 61) (.seq (.L 9 GJ cw) .ret) .skip):=by kernel_rfl
def uT:qF=.seq (.L 37 Jm cw) .ret:=by kernel_rfl
def p3 (a:Act):Bool:=match a.tmps.LE 61 undef with
 |.bool b=>b
 |_=>cw
def yP (a:Act):Prop:=a.tmps.size=184/\a.defers=[]/\a.tmps.LE 70 undef=.bool df
def yQ (a:Act):Prop:=a.tmps.size=184/\a.defers=[]
noncomputable def ju (a:Act):List Item:=if p3 a then[.inRegion GJ [9,10,11],.code .ret,.code gG] else[.inRegion Jm [0,1],.code .ret]
def N3 (a:Act):Prop:=(p3 a=df/\yP a)\/(p3 a=cw/\yQ a)
def nE:aB=.seq (q3 0) (.seq (q3 1) (.seq (q3 2) (.seq (q3 3) (.seq (q3 4) (.seq (q3 5) (.seq (q3 6) (.seq (q3 7) (.seq (q3 8) gG))))))))/\gG=.seq (q3 9) (.seq (q3 10) qF):=⟨by kernel_rfl,by kernel_rfl⟩
def xJ {W:bc}{u:Nat->dy}(h11:u 11=Y U 12)(a6:u 12=.slice I 0 0)(a7:u 13=Y U 12):bB DP ju (.seq (q3 8) gG) (λa _=>N3 a) ⟨T 184 u,[]⟩ W:=by
 refine ja (tgt:=[.inRegion GJ [9,10,11],.code .ret,.code gG]) (N:=λa _=>a.tmps.LE 61 undef=.bool df/\yP a) ?_ (λa w h=>?_)
 .refine fI (tgt:=[.inRegion GJ [9,10,11],.code .ret]) ?_;rw[Au];refine lT λK hK=>?_;have ez:yO=MK (F8 (F8 (Ff 8 aB))):=rfl;simp only[Ff,aB,dr,AS,Ju,F8,MK] at ez;rw[ez];clear ez;unfold T;simp only[e5,List.range.loop,Ca,CB,h11,a6,a7];go_wp2;refine mZ (v:=df) rfl ?_;rw[AJ rfl];refine fI (tgt:=[.inRegion GJ [9,10,11]]) ?_;refine fU (l:=GJ.toList.LT 9) (λj hj=>?_) (by kernel_rfl) ?_
  .rw[CT] at hj;rw[CF,AJ (by omega),Array.getElem?_toList]
  have ez:GJ=MK (F8 (OB (F8 (Ff 8 aB)))):=rfl;simp only[Ff,aB,dr,AS,Ju,F8,MK,OB] at ez;rw[ez];clear ez;simp only[List.take_succ_cons,List.take_zero];go_wp2;exact⟨rfl,rfl,rfl,rfl⟩
 .have hp:p3 a=true:=by unfold p3;rw[h.1]
  exact⟨by unfold ju;rw[AJ hp],.inl ⟨hp,h.2⟩⟩
example:G9 .any (lH 22) 9=true:=by decide +kernel
example:G9 .any (lH 34) 25=true:=by decide +kernel
def yR {gb fb n p:Nat}{V:Nat->Int}{ms:Int}{W:bc}{u:Nat->dy}{Q:Exit->Act->bc->Prop}(a6:u 12=.slice (E ⟨gb,0,I⟩) n n)(a7:u 17=Y U (p:Nat))(h10:u 10=.S (E ⟨fb,0,I⟩))(hp:p<n)(hN:GD W gb (n*2) V)(hf:W.L ⟨fb,1,I⟩=E (Y U ms))
  (hK:∀W' u',Rd W W'->Fr (lH 22) u' u->u' 18=Y U (V (p*2+1))->u' 16=Y U ms->Q .normal ⟨T 184 u',[]⟩ W'):(Code.region 22 (lH 22) df).wp DP Q ⟨T 184 u,[]⟩ W:=by
 refine cv (R:=Rd) 9<|Ea (Ez a6)<|Ea (Ez a7)<|Ea (Il (p*2) 2 (Ed 0) (Ed 1))<|Ea (Gg (p*2+1) (Ed 2))<|Ea (Fj (Ed 3) λw hg=>(hg.cell _).trans (hN.at_ (p*2+1) (by omega)).1)<|Ea (Gg 1 (FI h10))<|Ea (Fj (Ed 5) λw hg=>(hg.cell _).trans hf)<|Ea (ND 4)<|Ea (ND 6)<|Lf λu' w' hg hf' hv=>?_;have er:ew 9 ((lH 22).size-9)=[]:=by kernel_rfl
 rw[er];exact hK _ _ hg hf' (hv.at_ 7 18) (hv.at_ 8 16)
def sZ {c:Eb}{cb hq ho hc qb qo n cap i k:Nat}{x y:Int}{W:bc}{u:Nat->dy}{Q:Exit->Act->bc->Prop}(h4:u 4=.S (E ⟨cb,0,I⟩))(h19:u 19=Y U (i:Nat))(h20:u 20=Y U (k:Nat))(OP:u 15=.slice (E ⟨qb,qo,I⟩) n cap)
  (hi:i<n) (hk:k<n) (c4:W.L ⟨cb,1,I⟩=E (.slice (E ⟨hq,ho,I⟩) n hc)) (ci:W.L ⟨hq,ho+i*4,I⟩=E (Y U (c.h i).heads)) (ck:W.L ⟨hq,ho+k*4,I⟩=E (Y U (c.h k).heads)) (di:W.L ⟨qb,qo+i,I⟩=E (Y U x)) (dk:W.L ⟨qb,qo+k,I⟩=E (Y U y))
  (hh:∀i,i<n->1<=(c.h i).heads/\(c.h i).heads<=40) (hx:0<=x/\x<=20000) (hy:0<=y/\y<=20000)
  (hK:∀W' u',Rd W W'->Fr (lH 34) u' u->u' 21=Y U ((c.h i).heads*y)->u' 22=Y U ((c.h k).heads*(x+1))->Q .normal ⟨T 184 u',[]⟩ W'):(Code.region 34 (lH 34) df).wp DP Q ⟨T 184 u,[]⟩ W:=by
 obtain⟨a1,a2⟩:=hh k hk;obtain⟨a3,a4⟩:=hh i hi;have a6:IntKind.i64.wrap (x+1)=x+1:=by simp[bq,br,bk];omega
 have a7:0<=(c.h i).heads*y/\(c.h i).heads*y<=40*20001:=⟨Db (by omega) (by omega),CQ a4 (by omega) (by omega) (by omega)⟩;have a8:0<=(c.h k).heads*(x+1)/\(c.h k).heads*(x+1)<=40*20001:=⟨Db (by omega) (by omega),CQ a2 (by omega) (by omega) (by omega)⟩;have hw3:IntKind.i64.wrap ((c.h i).heads*y)=(c.h i).heads*y:=by simp[bq,br,bk];omega
 have hw4:IntKind.i64.wrap ((c.h k).heads*(x+1))=(c.h k).heads*(x+1):=by simp[bq,br,bk];omega
 have HC:Hid (∀w,Rd W w->∀ev:Operand->dy,∀t,ev (.tmp t)=.S (E ⟨cb,1,I⟩)->w.L ⟨cb,1,I⟩=E (.slice (E ⟨hq,ho,I⟩) n hc)):=AB λw r _ _ _=>(r.cell _).trans c4;refine cv (R:=Rd) 25<|Ea (Gg 1 (FI h4))<|Ea (MH (.slice (E ⟨hq,ho,I⟩) n hc) (Ed 0) rfl ?_)<|Ea (Ez h19)<|Ea (Il (ho+i*4) 4 (Ed 1) (Ed 2))<|Ea (Gg (ho+i*4) (Ed 3))<|Ea (Fj (Ed 4) λw hg=>(hg.cell _).trans ci)<|Ea (Ez OP)<|Ea (Ez h20)<|Ea (Il (qo+k) 1 (Ed 6) (Ed 7))<|Ea (Fj (Ed 8) λw hg=>(hg.cell _).trans dk)<|Ea (J0 (Y U ((c.h i).heads*y)) (Ed 5) (Ed 9)) <|
  Ea (Gg 1 (FI h4))<|Ea (MH (.slice (E ⟨hq,ho,I⟩) n hc) (Ed 11) rfl ?_)<|Ea (Ez h20)<|Ea (Il (ho+k*4) 4 (Ed 12) (Ed 13))<|Ea (Gg (ho+k*4) (Ed 14))<|Ea (Fj (Ed 15) λw hg=>(hg.cell _).trans ck)<|Ea (Ez OP)<|Ea (Ez h19)<|Ea (Il (qo+i) 1 (Ed 17) (Ed 18))<|Ea (Fj (Ed 19) λw hg=>(hg.cell _).trans di)<|Ea (Kn (x+1) (Ed 20))<|Ea (J0 (Y U ((c.h k).heads*(x+1))) (Ed 16) (Ed 21))<|Ea (ND 10)<|Ea (ND 22)<|Lf λu' w' hg hf' hv=>?_
 .intro w hg ev he;have c4':=HC.out w hg ev _ he;clear hg;go_simp
 .intro w hg ev he;have c4':=HC.out w hg ev _ he;clear hg;go_simp
 .have er:ew 25 ((lH 34).size-25)=[]:=by kernel_rfl
  rw[er];exact hK _ _ hg hf' (hv.at_ 23 21) (hv.at_ 24 22)
structure S3 (c:Eb)(hA:Option ed)(hc cb fb gb ls ms:Nat)(W:bc):Prop where
 lt:cb<W.heap.size/\fb<W.heap.size
 c4:W.L ⟨cb,1,I⟩=E (Z hA c.DR.L hc)
 f0:W.L ⟨fb,0,I⟩=E (Y U (ls:Nat))
 f1:W.L ⟨fb,1,I⟩=E (Y U (ms:Nat))
 Fg:FY W W.heap.size hA c.DR
 got:GD W gb (c.DR.L*2) (two (λi=>D5 (Ee (Fs c) ls) i) λi=>D5 (Ee (Fs c) ms) i)
def S3.gr {c:Eb}{hA:Option ed}{hc cb fb gb ls ms:Nat}{W W':bc}(h:S3 c hA hc cb fb gb ls ms W)(g:Gr W W'):S3 c hA hc cb fb gb ls ms W' :=
 ⟨⟨AI h.lt.1 g.size,AI h.lt.2 g.size⟩,(g.cell (p:=⟨cb,1,I⟩) h.lt.1).trans h.c4,(g.cell (p:=⟨fb,0,I⟩) h.lt.2).trans h.f0,(g.cell (p:=⟨fb,1,I⟩) h.lt.2).trans h.f1,(h.Fg.keep λ_ _ hb=>g.cell hb).more g.size,h.got.gr g⟩
def vj {a b:Nat->Int}{p:Nat}:two a b (p*2)=a p:=by
 unfold two;rw[AJ (by omega),show p*2 / 2=p by omega]
def Al {a b:Nat->Int}{p:Nat}:two a b (p*2+1)=b p:=by
 unfold two;rw[AE (by omega),show(p*2+1) / 2=p by omega]
def Q9 (l m p:Nat):Nat:=if p=0 then l else m
def vm {l m p:Nat}:Q9 l m (p+1)=m:=AE (by omega)
def vp {l m p:Nat}(h:p≠0):Q9 l m p=m:=AE h
def xK {c:Eb}{hA:Option ed}{hc cb fb gb ls ms:Nat}{W:bc}{u:Nat->dy}(aY:c.Ok)(bY:ls<=ms/\ms<=10044)(S:S3 c hA hc cb fb gb ls ms W)(h4:u 4=.S (E ⟨cb,0,I⟩))(h10:u 10=.S (E ⟨fb,0,I⟩))(h11:u 11=Y U 0)(bV:u 12=.slice (E ⟨gb,0,I⟩) c.DR.L c.DR.L)(bZ:u 13=Y U 0) :
  bB DP ju (.seq (q3 8) gG) (λa _=>N3 a) ⟨T 184 u,[]⟩ W:=by
 have c0:=aY.h4;have c5:=aY.h1;have HHE:=AB aY.heads;have cA:Hid (∀k,Go.Sq.Fair (Fs c) (Ee (Fs c) k) k):=AB λk=>gw (Fs c) (λi hi=>by rw[ep];exact(aY.heads _ (c.IW (by rw[<-bC];exact hi))).1) (by rw[bC];exact aY.h1) k;obtain⟨n,hn⟩:∃n,n=c.DR.L:=⟨_,rfl⟩;obtain⟨L,hL⟩:∃L:Nat->List Int,L=λs=>if s=1 then Ee (Fs c) ms else Ee (Fs c) ls:=⟨_,rfl⟩
 obtain⟨M,hM⟩:∃M:Nat->Nat,M=λs=>if s=1 then ms else ls:=⟨_,rfl⟩
 have aN:Hid (∀s,Go.Sq.Fair (Fs c) (L s) (M s)):=AB λs=>by
  rw[hL,hM];dsimp only;split<;>exact cA.out _
 have aA:Hid (∀s,(L s).L=n):=AB λs=>by rw[(aN.out s).len,bC,hn]
 have cB:Hid (∀s,M s<=10044):=AB λs=>by
  rw[hM];dsimp only;split<;>omega
 have bL:Hid (∀s,s≠1->L s=Ee (Fs c) ls/\M s=ls):=AB λs h=>by rw[hL,hM];exact⟨AE h,AE h⟩
 have bM:Hid (L 1=Ee (Fs c) ms/\M 1=ms):=AB (by rw[hL,hM];exact⟨AJ rfl,AJ rfl⟩);have aZ:Hid (∀s i,0<=D5 (L s) i/\D5 (L s) i<=20000):=AB λs i=>⟨(aN.out s).pos i,by have:=pu (aN.out s) i;have:=cB.out s;omega⟩;have HN:=AB hn;have HS:Hid (∀W',Gr W W'->S3 c hA hc cb fb gb ls ms W'):=AB λW' g=>S.gr g;have aI:=S.c4;rw[<-hn] at aI c0 c5 bV;clear S aY hL hM hn bY;refine aE λK hK=>?_;have ez:q3 8=F8 (Ff 8 aB):=rfl
 simp only[Ff,aB,dr,AS,Ju,F8] at ez;rw[ez];clear ez;unfold T;simp only[e5,List.range.loop,Ca,CB,h4,h10,h11,bV,bZ];go_wp2;rw[nE.2];refine aE λK hK=>?_;have ez:q3 9=F8 (Ff 9 aB):=rfl;simp only[Ff,aB,dr,AS,Ju,F8] at ez;rw[ez];clear ez;go_wp2;refine aE λK hK=>?_;have ez:q3 10=F8 (Ff 10 aB):=rfl;simp only[Ff,aB,dr,AS,Ju,F8] at ez;rw[ez];clear ez;clear aI
 go_wp2;go_loopw [14] (λi wr=>∃s:Nat,s<=2/\i=Y U s/\Gr W wr) (λi _=>2-(bh i).L)
 case atStart=>exact⟨0,by omega,rfl,.refl _⟩
 case round =>
  obtain⟨s,hs,rfl,hg⟩:=hrel;have HG:=AB hg;have bN:=(HS.out _ hg).f0;clear hg;by_cases hs2:s<2
  .obtain rfl|rfl:=(show s=0\/s=1 by omega)
   .clear hs hs2;rw[show((0:Nat):Int)=0 from rfl];obtain⟨wq,rfl⟩:∃wq,wq=wr:=⟨_,rfl⟩;go_wp2;go_loopw [15,16,17] (λv sm i wr=>∃p:Nat,p<=n/\i=Y U p/\Gr W wr/\wr.S W.heap.size 3 1 v p (((L 0).LT p).map (Y U))/\sm=Y U ((Q9 ls (M 0) p:Nat):Int)) (λ_ _ i _=>n-(bh i).L)
    case atStart=>exact⟨0,by omega,rfl,HG.out,Bs _ _ _ _,rfl⟩
    case round =>
     clear bN HG;obtain⟨p,hp,rfl,aO,hrow,rfl⟩:=hrel;have aC:=AB aO;have aK:=AB hrow;have aL:=HS.out _ aO;clear aO;by_cases aJ:p<n
     .have aD:=aL.got;rw[<-HN.out] at aD;have zL:=(aD.at_ (p*2) (by omega)).1;have bK:=aL.f1;rw[vj] at zL;clear hrow
      have b5:Hid ((L 0)[p]?.toList.map (Y U)=[Y U (D5 (Ee (Fs c) ls) p)]):=AB (by
       rw[<-(bL.out 0 (by decide)).1];have:p<(L 0).L:=by rw[aA.out];exact aJ
       simp[D5,AG this])
      have hx:=aZ.out 0 p;rw[(bL.out 0 (by decide)).1] at hx;have cC:=AB (bL.out 0 (by decide)).2;generalize D5 (Ee (Fs c) ls) p=x at zL hx b5;obtain⟨hx0,hx1⟩:=hx;clear aD bK aL;go_wp2_with (at_builtin;refine jT rfl _ _ rfl W.heap.size _ _ _ rfl (aK.out.Li _) ⟨wr.heap.size,0,I⟩ 1 (Y U x) rfl ?c1 rfl ?c2 ?c3 ?_)
      case c1=>rw[AF _ _ _ _ rfl];rfl
      case c2=>omega
      case c3=>have:=aC.out.size;simp;omega
      intro v' w4 hown' hgrow hd;have bO:=AB ((aC.out.Li _).SS hgrow hd λq hq=>(aK.out.lt q hq).1);have hown2:w4.S W.heap.size 3 1 v' (p+1) (((L 0).LT (p+1)).map (Y U)):=by
       have e:((L 0).LT (p+1)).map (Y U)=((L 0).LT p).map (Y U)++[Y U x]:=by
        rw[ek,Cs,b5.out]
       rw[e];simpa [eG] using hown'
      have bP:=AB hown2;clear hown' hgrow hd hown2;go_wp2;go_roundw
      case rel=>exact⟨p+1,by omega,by go_num,bO.out,bP.out,by rw[vm];rw[cC.out];unfold Q9;split<;>rfl⟩
      case measure=>simp[Proofs.intOf];omega
     .obtain rfl:p=n:=by omega
      clear aL;obtain⟨A,cap,rfl,a8⟩:=RI.Fw (l:=L 0) (by rw[aA.out];rw[Bj (by rw[aA.out];exact AD _)] at hrow;exact hrow);have bQ:=AB a8;have aP:=(aN.out 0).Lo
      have aQ:=AB (ph A cap (L 0) wr wr.heap.size a8 (by rw[aA.out];omega) λx hx=>by
       obtain⟨i,hi,rfl⟩:=Cl.1 hx;have:=aZ.out 0 i;unfold D5 at this;rw[AG hi] at this;simp at this
       omega)
      rw[aP,aA.out] at aQ;rw[aA.out];rw[vp (by omega)];clear hrow a8 aP;go_wp2_with fail;refine aQ.out.LT ?_;rintro e w8 ⟨rfl,rfl⟩;obtain⟨wt,rfl⟩:∃wt,wt=wr:=⟨_,rfl⟩;clear aQ;have bR:=AB (aN.out 0);have bS:=AB (HS.out _ aC.out);have aT:=AB (aZ.out 0);have aU:=AB (aA.out 0);generalize L 0=a6 at *;go_wp2;go_loopw [19] (λi wr=>∃i':Nat,i'<=p/\i=Y U i'/\Gr wt wr) (λi _=>p-(bh i).L)
      case atStart=>exact⟨0,by omega,rfl,.refl _⟩
      case round =>
       obtain⟨i,hi,rfl,zK⟩:=hrel;have b6:=AB zK;clear zK;by_cases aV:i<p
       .go_wp2;go_loopw [20] (λi' wr2=>∃k:Nat,k<=p/\i'=Y U k/\Gr wt wr2) (λi' _=>p-(bh i').L)
        case atStart=>exact⟨0,by omega,rfl,b6.out⟩
        case round =>
         obtain⟨k,hk,rfl,aF⟩:=hrel;have b7:=AB aF;by_cases aW:k<p
         .have hs:=bS.out.gr aF;have aJ:=HN.out;obtain⟨b,o,rfl,_,t1,_⟩:=hs.Fg.at_ (i:=i) (by omega);obtain⟨b',o',e',_,t2,_⟩:=hs.Fg.at_ (i:=k) (by omega);injection e' with e'
          injection e' with e1 e2
          subst e1 e2;have a8:=bQ.out.gr (AD _) aF;obtain⟨qb,qo,rfl,_,d1⟩:=a8.at_ (k:=i) (by rw[aU.out];exact aV);obtain⟨qb',qo',e',_,d2⟩:=a8.at_ (k:=k) (by rw[aU.out];exact aW);injection e' with e'
          injection e' with e1 e2
          subst e1 e2;have aI:=hs.c4;rw[<-aJ] at aI;have b8:=AB aI;have bA:=AB t1;have bD:=AB t2;have bE:=AB d1;have aX:=AB d2;clear hs a8 t1 t2 d1 d2 aI aF aJ;go_wp2_with fail;refine bI 184 rfl λu2 a7=>?_;refine sZ (c:=c) (cb:=cb) (hq:=b) (ho:=o) (hc:=hc) (qb:=qb) (qo:=qo) (n:=p) (cap:=cap) (i:=i) (k:=k) (x:=D5 a6 i) (y:=D5 a6 k) (a7 4) (a7 19) (a7 20) (a7 15) aV aW b8.out bA.out bD.out bE.out aX.out (λj hj=>HHE.out _ (c.IW (by rw[<-HN.out];exact hj))) (aT.out i) (aT.out k) λW2 u3 aG hf3 bF bG=>?_
          rw[aS (n:=184) [135,136,137,138,139,140,141,142,143,144,145,146,147,148,149,150,151,152,153,154,155,156,157,21,22] (by kernel_rfl) rfl a7 hf3];simp only[Bg,Bq,Be,Bh];rw[bF,bG];have aM:=AB (b7.out.trans aG.gr);have aH:Hid (i≠k->0<D5 a6 k->(c.h i).heads*D5 a6 k<=(c.h k).heads*(D5 a6 i+1)/\(i<k->(c.h i).heads*D5 a6 k<(c.h k).heads*(D5 a6 i+1))):=AB λh1 h2=>by
           have:=bR.out.fair i k (by rw[bC,<-HN.out];exact aV) (by rw[bC,<-HN.out];exact aW) h1 h2
           rwa [ep,ep] at this
          have bH:Hid (W2.L ⟨qb,qo+k,I⟩=E (Y U (D5 a6 k))):=AB ((aG.cell _).trans aX.out);generalize (c.h i).heads*D5 a6 k=a at aH;generalize (c.h k).heads*(D5 a6 i+1)=b9 at aH;generalize D5 a6 k=y at aH bH;clear a7 hf3 bF bG aG bA bD b8 bE aX;have hdy:=bH.out;by_cases hik:i=k
          .have bJ:(i:Int)=(k:Int):=by omega
           clear hik;go_wp2;go_roundw
           case rel=>exact⟨k+1,by omega,by go_num,aM.out⟩
           case measure=>simp[Proofs.intOf];omega
          .have bJ:¬(i:Int)=(k:Int):=by omega
           by_cases hy:0<y
           .obtain⟨f1,f2⟩:=aH.out hik hy;by_cases hab:a<b9
            .have g1:¬b9<a:=by omega
             have g2:¬a=b9:=by omega
             clear f1 f2 hab;go_wp2;go_roundw
             case rel=>exact⟨k+1,by omega,by go_num,aM.out⟩
             case measure=>simp[Proofs.intOf];omega
            .have g1:¬b9<a:=by omega
             have g2:a=b9:=by omega
             have g3:¬(i:Int)<(k:Int):=λh=>hab (f2 (by omega));clear f1 f2 hab;go_wp2;go_roundw
             case rel=>exact⟨k+1,by omega,by go_num,aM.out⟩
             case measure=>simp[Proofs.intOf];omega
           .clear aH;go_wp2;go_roundw
            case rel=>exact⟨k+1,by omega,by go_num,aM.out⟩
            case measure=>simp[Proofs.intOf];omega
         .clear aF;go_wp2;go_roundw
          case rel=>exact⟨i+1,by omega,by go_num,b7.out⟩
          case measure=>simp[Proofs.intOf];omega
       .have bT:=AB (aC.out.trans b6.out);go_wp2;go_roundw
        case rel=>exact⟨0+1,by omega,by go_num,bT.out⟩
        case measure=>simp[Proofs.intOf]
   .clear hs hs2;rw[show((1:Nat):Int)=1 from rfl];obtain⟨wq,rfl⟩:∃wq,wq=wr:=⟨_,rfl⟩;go_wp2;go_loopw [15,16,17] (λv sm i wr=>∃p:Nat,p<=n/\i=Y U p/\Gr W wr/\wr.S W.heap.size 3 1 v p (((L 1).LT p).map (Y U))/\sm=Y U ((Q9 ls (M 1) p:Nat):Int)) (λ_ _ i _=>n-(bh i).L)
    case atStart=>exact⟨0,by omega,rfl,HG.out,Bs _ _ _ _,rfl⟩
    case round =>
     clear bN HG;obtain⟨p,hp,rfl,aO,hrow,rfl⟩:=hrel;have aC:=AB aO;have aK:=AB hrow;have aL:=HS.out _ aO;clear aO;by_cases aJ:p<n
     .have aD:=aL.got;rw[<-HN.out] at aD;have zL:=(aD.at_ (p*2) (by omega)).1;have bK:=aL.f1;rw[vj] at zL;clear hrow;have bX:=AB aD;have cD:=AB bK;clear aD bK aL;generalize D5 (Ee (Fs c) ls) p=x0 at zL;go_wp2_with fail;refine bI 184 rfl λu2 a7=>?_;refine yR (gb:=gb) (fb:=fb) (n:=n) (p:=p) (ms:=(ms:Int)) (a7 12) (a7 17) (a7 10) aJ bX.out cD.out λW2 u3 aG hf3 bU bW=>?_
      rw[Al] at bU;rw[aS (n:=184) [102,103,104,105,106,107,108,18,16] (by kernel_rfl) rfl a7 hf3];simp only[Bg,Bq,Be,Bh];rw[bU,bW]
      have b5:Hid ((L 1)[p]?.toList.map (Y U)=[Y U (D5 (Ee (Fs c) ms) p)]):=AB (by
       rw[<-bM.out.1];have:p<(L 1).L:=by rw[aA.out];exact aJ
       simp[D5,AG this])
      have hx:=aZ.out 1 p;rw[bM.out.1] at hx;replace aC:=AB (aC.out.trans aG.gr);replace aK:=AB (aR aK.out λb o hb=>by rw[aG.heap]);clear a7 hf3 bU bW aG zL;generalize D5 (Ee (Fs c) ms) p=x at hx b5;obtain⟨hx0,hx1⟩:=hx;go_wp2_with (at_builtin;refine jT rfl _ _ rfl W.heap.size _ _ _ rfl (aK.out.Li _) ⟨W2.heap.size,0,I⟩ 1 (Y U x) rfl ?c1 rfl ?c2 ?c3 ?_)
      case c1=>rw[AF _ _ _ _ rfl];rfl
      case c2=>omega
      case c3=>have:=aC.out.size;simp;omega
      intro v' w4 hown' hgrow hd;have bO:=AB ((aC.out.Li _).SS hgrow hd λq hq=>(aK.out.lt q hq).1);have hown2:w4.S W.heap.size 3 1 v' (p+1) (((L 1).LT (p+1)).map (Y U)):=by
       have e:((L 1).LT (p+1)).map (Y U)=((L 1).LT p).map (Y U)++[Y U x]:=by
        rw[ek,Cs,b5.out]
       rw[e];simpa [eG] using hown'
      have bP:=AB hown2;clear hown' hgrow hd hown2;go_wp2;go_roundw
      case rel=>exact⟨p+1,by omega,by go_num,bO.out,bP.out,by rw[vm];rw[bM.out.2]⟩
      case measure=>simp[Proofs.intOf];omega
     .obtain rfl:p=n:=by omega
      clear aL;obtain⟨A,cap,rfl,a8⟩:=RI.Fw (l:=L 1) (by rw[aA.out];rw[Bj (by rw[aA.out];exact AD _)] at hrow;exact hrow);have bQ:=AB a8;have aP:=(aN.out 1).Lo
      have aQ:=AB (ph A cap (L 1) wr wr.heap.size a8 (by rw[aA.out];omega) λx hx=>by
       obtain⟨i,hi,rfl⟩:=Cl.1 hx;have:=aZ.out 1 i;unfold D5 at this;rw[AG hi] at this;simp at this
       omega)
      rw[aP,aA.out] at aQ;rw[aA.out];rw[vp (by omega)];clear hrow a8 aP;go_wp2_with fail;refine aQ.out.LT ?_;rintro e w8 ⟨rfl,rfl⟩;obtain⟨wt,rfl⟩:∃wt,wt=wr:=⟨_,rfl⟩;clear aQ;have bR:=AB (aN.out 1);have bS:=AB (HS.out _ aC.out);have aT:=AB (aZ.out 1);have aU:=AB (aA.out 1);generalize L 1=a6 at *;go_wp2;go_loopw [19] (λi wr=>∃i':Nat,i'<=p/\i=Y U i'/\Gr wt wr) (λi _=>p-(bh i).L)
      case atStart=>exact⟨0,by omega,rfl,.refl _⟩
      case round =>
       obtain⟨i,hi,rfl,zK⟩:=hrel;have b6:=AB zK;clear zK;by_cases aV:i<p
       .go_wp2;go_loopw [20] (λi' wr2=>∃k:Nat,k<=p/\i'=Y U k/\Gr wt wr2) (λi' _=>p-(bh i').L)
        case atStart=>exact⟨0,by omega,rfl,b6.out⟩
        case round =>
         obtain⟨k,hk,rfl,aF⟩:=hrel;have b7:=AB aF;by_cases aW:k<p
         .have hs:=bS.out.gr aF;have aJ:=HN.out;obtain⟨b,o,rfl,_,t1,_⟩:=hs.Fg.at_ (i:=i) (by omega);obtain⟨b',o',e',_,t2,_⟩:=hs.Fg.at_ (i:=k) (by omega);injection e' with e'
          injection e' with e1 e2
          subst e1 e2;have a8:=bQ.out.gr (AD _) aF;obtain⟨qb,qo,rfl,_,d1⟩:=a8.at_ (k:=i) (by rw[aU.out];exact aV);obtain⟨qb',qo',e',_,d2⟩:=a8.at_ (k:=k) (by rw[aU.out];exact aW);injection e' with e'
          injection e' with e1 e2
          subst e1 e2;have aI:=hs.c4;rw[<-aJ] at aI;have b8:=AB aI;have bA:=AB t1;have bD:=AB t2;have bE:=AB d1;have aX:=AB d2;clear hs a8 t1 t2 d1 d2 aI aF aJ;go_wp2_with fail;refine bI 184 rfl λu2 a7=>?_;refine sZ (c:=c) (cb:=cb) (hq:=b) (ho:=o) (hc:=hc) (qb:=qb) (qo:=qo) (n:=p) (cap:=cap) (i:=i) (k:=k) (x:=D5 a6 i) (y:=D5 a6 k) (a7 4) (a7 19) (a7 20) (a7 15) aV aW b8.out bA.out bD.out bE.out aX.out (λj hj=>HHE.out _ (c.IW (by rw[<-HN.out];exact hj))) (aT.out i) (aT.out k) λW2 u3 aG hf3 bF bG=>?_
          rw[aS (n:=184) [135,136,137,138,139,140,141,142,143,144,145,146,147,148,149,150,151,152,153,154,155,156,157,21,22] (by kernel_rfl) rfl a7 hf3];simp only[Bg,Bq,Be,Bh];rw[bF,bG];have aM:=AB (b7.out.trans aG.gr);have aH:Hid (i≠k->0<D5 a6 k->(c.h i).heads*D5 a6 k<=(c.h k).heads*(D5 a6 i+1)/\(i<k->(c.h i).heads*D5 a6 k<(c.h k).heads*(D5 a6 i+1))):=AB λh1 h2=>by
           have:=bR.out.fair i k (by rw[bC,<-HN.out];exact aV) (by rw[bC,<-HN.out];exact aW) h1 h2
           rwa [ep,ep] at this
          have bH:Hid (W2.L ⟨qb,qo+k,I⟩=E (Y U (D5 a6 k))):=AB ((aG.cell _).trans aX.out);generalize (c.h i).heads*D5 a6 k=a at aH;generalize (c.h k).heads*(D5 a6 i+1)=b9 at aH;generalize D5 a6 k=y at aH bH;clear a7 hf3 bF bG aG bA bD b8 bE aX;have hdy:=bH.out;by_cases hik:i=k
          .have bJ:(i:Int)=(k:Int):=by omega
           clear hik;go_wp2;go_roundw
           case rel=>exact⟨k+1,by omega,by go_num,aM.out⟩
           case measure=>simp[Proofs.intOf];omega
          .have bJ:¬(i:Int)=(k:Int):=by omega
           by_cases hy:0<y
           .obtain⟨f1,f2⟩:=aH.out hik hy;by_cases hab:a<b9
            .have g1:¬b9<a:=by omega
             have g2:¬a=b9:=by omega
             clear f1 f2 hab;go_wp2;go_roundw
             case rel=>exact⟨k+1,by omega,by go_num,aM.out⟩
             case measure=>simp[Proofs.intOf];omega
            .have g1:¬b9<a:=by omega
             have g2:a=b9:=by omega
             have g3:¬(i:Int)<(k:Int):=λh=>hab (f2 (by omega));clear f1 f2 hab;go_wp2;go_roundw
             case rel=>exact⟨k+1,by omega,by go_num,aM.out⟩
             case measure=>simp[Proofs.intOf];omega
           .clear aH;go_wp2;go_roundw
            case rel=>exact⟨k+1,by omega,by go_num,aM.out⟩
            case measure=>simp[Proofs.intOf];omega
         .clear aF;go_wp2;go_roundw
          case rel=>exact⟨i+1,by omega,by go_num,b7.out⟩
          case measure=>simp[Proofs.intOf];omega
       .have bT:=AB (aC.out.trans b6.out);go_wp2;go_roundw
        case rel=>exact⟨1+1,by omega,by go_num,bT.out⟩
        case measure=>simp[Proofs.intOf]
  .obtain rfl:s=2:=by omega
   clear bN;go_wp2;refine ja (tgt:=[.inRegion Jm [0,1],.code .ret]) (N:=λa _=>a.tmps.LE 61 undef=.bool cw/\yQ a) ?_ (λa w h=>?_)
   .rw[uT];refine fI (tgt:=[.inRegion Jm [0,1]]) ?_;refine fU (l:=[]) (λj hj=>AH hj (by simp)) (by kernel_rfl) ?_;exact⟨rfl,rfl,rfl⟩
   .have hp:p3 a=false:=by unfold p3;rw[h.1]
    exact⟨by unfold ju;rw[AE (by rw[hp];simp)],.inr ⟨hp,h.2⟩⟩
def xL {W W':bc}{K:Nat->Prop}{A:Option ed}{l:List EE}{hb:Nat}(h:nz W K A l)(hK:∀b,K b->b<W.heap.size/\b≠hb)(k:KT (·=hb) W W'):F3 W' W'.heap.size A l:=λhn=>by
 obtain⟨b,o,e,h1,h2⟩:=h hn;obtain⟨k1,k2⟩:=hK b h1;exact⟨b,o,e,AI k1 k.size,λi c hi=>(h2 i c hi).keep λo=>k.cell (p:=⟨b,o,I⟩) k1 k2⟩
def xM {W W':bc}{K:Nat->Prop}{A:Option ed}{l:List Eu}{hb:Nat}(h:sO W K A l)(hK:∀b,K b->b<W.heap.size/\b≠hb)(k:KT (·=hb) W W'):E6 W' W'.heap.size A l:=λhn=>by
 obtain⟨b,o,e,h1,h2⟩:=h hn;obtain⟨k1,k2⟩:=hK b h1;exact⟨b,o,e,AI k1 k.size,λi c hi=>(h2 i c hi).keep λo=>k.cell (p:=⟨b,o,I⟩) k1 k2⟩
def yS {W W':bc}{K:Nat->Prop}{A:Option ed}{l:List Int}{hb:Nat}(h:IU W K A l)(hK:∀b,K b->b<W.heap.size/\b≠hb)(k:KT (·=hb) W W'):RI W' W'.heap.size A l:=(Go.Sq.JK (K':=λb=>b<W'.heap.size) h (λb hb=>AI (hK b hb).1 k.size) λb o hb'=>k.cell (p:=⟨b,o,I⟩) (hK b hb').1 (hK b hb').2).ri λ_ h=>h
def yT {W W':bc}{K:Nat->Prop}{A:Option ed}{l:List EO}{hb:Nat}(h:Hg W K A l)(hK:∀b,K b->b<W.heap.size/\b≠hb)(k:KT (·=hb) W W'):FY W' W'.heap.size A l:=(Go.Sq.Me (K':=λb=>b<W'.heap.size) h (λb hb=>AI (hK b hb).1 k.size) λb o hb'=>k.cell (p:=⟨b,o,I⟩) (hK b hb').1 (hK b hb').2).hs λ_ h=>h
def s6 (A:Option ed)(cap:Nat)(l:List Int)(w:bc)(h:RI w w.heap.size A l)(tmps:Array dy)(ht:tmps=#[Z A l.L cap]++Array.replicate 183 undef) :
  bB DP ju aB (λa _=>N3 a) ⟨tmps,[]⟩ w:=by
 have bS:=AB (ss A cap l w h);clear h;rw[nE.1];subst ht;simp only[Bz,BA,BQ,BI,BZ,BN];refine aE λK hK=>?_;have ez:q3 0=F8 (Ff 0 aB):=rfl;simp only[Ff,aB,dr,AS,Ju,F8] at ez;rw[ez];clear ez;go_wp2;refine aE λK hK=>?_;have ez:q3 1=F8 (Ff 1 aB):=rfl;simp only[Ff,aB,dr,AS,Ju,F8] at ez;rw[ez];clear ez;go_wp2_with fail;refine bS.out.LT ?_;rintro e w1 ⟨rfl,b7,zJ⟩;have bT:=AB (sY 2 4 (by decide) (by decide) (by decide) (by decide) _ _ A cap l 0 w1 b7 (by omega))
 have cU:=b7.lt;clear b7 zJ bS;go_wp2;refine aE λK hK=>?_;have ez:q3 2=F8 (Ff 2 aB):=rfl;simp only[Ff,aB,dr,AS,Ju,F8] at ez;rw[ez];clear ez;go_wp2_with fail;refine bT.out.LT ?_;rintro e w2 ⟨c,nA,hA,nc,hc,rfl,bU,bV,JN,aV,aW,hh2,b8⟩;have bW:=AB bU;have cH:=AB bV;obtain⟨W2,zn⟩:∃W2:bc,W2=w2.Li (bn #[Z nA c.DW.L nc,Z hA c.DR.L hc] 27):=⟨_,rfl⟩
 have zD:=b8.size;have cI:=AB aV;have cJ:=AB aW;have zI:Gr w2 W2:=zn▸(Gr.refl w2).Li _;have b9:w2.heap.size<W2.heap.size:=by rw[zn];simp
 have cK:Hid (W2.heap[w2.heap.size]?=E (bn #[Z nA c.DW.L nc,Z hA c.DR.L hc] 27 (0,0))):=AB (by rw[zn];exact heap_alloc_new _ _);have bX:=AB (uD 3 3 (by decide) (by decide) _ _ A cap l 1000 W2 ((hh2.gr zI).more (by omega)) (by omega));have cL:=AB zI;have cM:=AB zn;unfold EG;clear bT aV aW hh2 b8 bU bV zn zI JN;go_wp2;rw[<-cM.out];refine aE λK hK=>?_
 have ez:q3 3=F8 (Ff 3 aB):=rfl;simp only[Ff,aB,dr,AS,Ju,F8] at ez;rw[ez];clear ez;go_wp2_with fail;refine bX.out.LT ?_;rintro e w3 ⟨x,cA,k,rfl,hx,hxp,cN,aC,hh3,aN⟩;have HX:=AB hx;have cO:=AB aC;obtain⟨W3,hW3⟩:∃W3:bc,W3=w3.Li (bn #[Y U x.pts,Y U x.bend,Z cA x.Eg.L k] 31):=⟨_,rfl⟩;have hz3:=aN.size;have zH:Gr w3 W3:=hW3▸(Gr.refl w3).Li _
 have bA:w3.heap.size<W3.heap.size:=by rw[hW3];simp
 have aX:Hid (W3.heap[w3.heap.size]?=E (bn #[Y U x.pts,Y U x.bend,Z cA x.Eg.L k] 31 (0,0))):=AB (by rw[hW3];exact heap_alloc_new _ _);have bC:KT (·=w.heap.size) W2 W3:=KT.trans aN (KT.EF zH);have aD:=om x cA k _ _ A cap l 2000 W3 hx.pts ((hh3.gr zH).more (by omega)) (by omega);unfold JX i64 at aD;have HFO:=AB aD;have bD:=AB bC;have cP:=AB zH;have cQ:=AB hW3
 unfold JX i64;clear bX hx hxp cN aC hh3 aN hW3 zH bC aD;go_wp2;rw[<-cQ.out];refine aE λK hK=>?_;have ez:q3 4=F8 (Ff 4 aB):=rfl;simp only[Ff,aB,dr,AS,Ju,F8] at ez;rw[ez];clear ez;have aH:W3.L ⟨w3.heap.size,0,I⟩=E (Y U x.pts):=(DU aX.out 0).1;have aI:W3.L ⟨w3.heap.size,1,I⟩=E (Y U x.bend):=(DU aX.out 1).1;have aJ:W3.L ⟨w3.heap.size,2,I⟩=E (Z cA x.Eg.L k):=(DU aX.out 2).1
 go_wp2_with fail;refine HFO.out.LT ?_;rintro e w4 ⟨fs,fA,fk,rfl,cW,bY,bE,hno,aF,bZ,aP⟩;have cR:=AB aF;have aQ:=AB bE;have c2:=AB hno;have c3:=AB aP;have aK:=AB (cV _ _ A cap l 3000 1 9 w4 (bZ.more (by omega)) (by omega) (by omega) (by omega));have cX:=aP.size;clear HFO bE hno aF bZ aP aH aI aJ;go_wp2_with fail;refine aK.out.LT ?_;rintro e w5 ⟨⟨rate,rfl,zi,zz⟩,c4,aR⟩
 have HUP:=AB (aO _ _ A cap l 3001 28 w5 c4 (by omega) (by omega));have c5:=AB aR;have cY:=aR.size;clear aK c4 aR;go_wp2_with fail;refine HUP.out.LT ?_;rintro e w6 ⟨⟨fr,rfl,zR⟩,cB,aS⟩;have hfr28:(fr:Int)<=28:=by omega
 have aK:=AB (cV _ _ A cap l 3002 (fr:Int) ((fr:Int)+2) w6 cB (by omega) (by omega) (by omega));have cC:=AB aS;have hz6:=aS.size;have hwf:IntKind.i64.wrap ((fr:Int)+2)=(fr:Int)+2:=by simp[bq,br,bk];omega
 clear HUP cB aS zR;go_wp2;refine aE λK hK=>?_;have ez:q3 5=F8 (Ff 5 aB):=rfl;simp only[Ff,aB,dr,AS,Ju,F8] at ez;rw[ez];clear ez;go_wp2_with fail;refine aK.out.LT ?_;rintro e w7 ⟨⟨to,rfl,ht1,ht2⟩,hh7,aT⟩;have hz7:=aT.size;have bF:KT (·=w.heap.size) w4 w7:=(c5.out.trans cC.out).trans aT;have aL:KT (·=w.heap.size) W3 w7:=KT.trans c3.out bF;have aY:KT (·=w.heap.size) W2 w7:=KT.trans bD.out aL
 have aU:KT (·=w.heap.size) w2 w7:=KT.trans (KT.EF cL.out) aY;have bG:KT (·=w.heap.size) w3 w7:=KT.trans (KT.EF cP.out) aL;have hcb:=(aY.Lo w2.heap.size b9 (by omega)).trans cK.out;have aZ:=(aL.Lo w3.heap.size bA (by omega)).trans aX.out;have cD:=yS cI.out (λb hb=>⟨hb.2,by omega⟩) aU;have bH:=yT cJ.out (λb hb=>⟨hb.2,by omega⟩) aU;have aC:=xL cO.out (λb hb=>⟨hb.2,by omega⟩) bG
 have aF:=xM cR.out (λb hb=>⟨hb.2,by omega⟩) bF;have bI:w7.L ⟨w2.heap.size,0,I⟩=E (Z nA c.DW.L nc):=(DU hcb 0).1;have bJ:w7.L ⟨w2.heap.size,1,I⟩=E (Z hA c.DR.L hc):=(DU hcb 1).1;have aH:w7.L ⟨w3.heap.size,0,I⟩=E (Y U x.pts):=(DU aZ 0).1;have aI:w7.L ⟨w3.heap.size,1,I⟩=E (Y U x.bend):=(DU aZ 1).1
 have aJ:w7.L ⟨w3.heap.size,2,I⟩=E (Z cA x.Eg.L k):=(DU aZ 2).1;have bK:w2.heap.size<w7.heap.size:=AI b9 aY.size;have bL:w3.heap.size<w7.heap.size:=AI bA aL.size;have bM:=sV x cA fA k fk fs (rate:Int) (fr:Int) (to:Int) w7 HX.out (by omega) aQ.out c2.out aC aF bY ⟨zi,zz⟩ (by omega);have aG:=AB (λ(W:bc) (g:Gr w7 W)=>yN c nA hA nc hc x cA fA k fk fs (rate:Int) (fr:Int) (to:Int) W cH.out bW.out (cD.on g) ((bH.keep λ_ _ hb=>g.cell hb).more g.size) HX.out (by omega) aQ.out c2.out ((aC.gr (AD _) g).more g.size) ((aF.gr (AD _) g).more g.size) bY ⟨zi,zz⟩ (by omega))
 have cE:=AB (λa b=>nj (a:=a) (b:=b) HX.out aQ.out (rate:=(rate:Int)) (from_:=(fr:Int)) (to:=(to:Int)) ⟨zi,zz⟩ (by omega));have cS:=AB bH;have bN:Hid (∀W,Gr w7 W->W.L ⟨w2.heap.size,0,I⟩=E (Z nA c.DW.L nc)/\W.L ⟨w2.heap.size,1,I⟩=E (Z hA c.DR.L hc)/\W.L ⟨w3.heap.size,0,I⟩=E (Y U x.pts)/\W.L ⟨w3.heap.size,1,I⟩=E (Y U x.bend)/\W.L ⟨w3.heap.size,2,I⟩=E (Z cA x.Eg.L k)):=AB λW g=>⟨(g.cell (p:=⟨w2.heap.size,0,I⟩) bK).trans bI,(g.cell (p:=⟨w2.heap.size,1,I⟩) bK).trans bJ,(g.cell (p:=⟨w3.heap.size,0,I⟩) bL).trans aH,(g.cell (p:=⟨w3.heap.size,1,I⟩) bL).trans aI,(g.cell (p:=⟨w3.heap.size,2,I⟩) bL).trans aJ⟩
 unfold JX i64 at bM;have bO:=AB bM;obtain⟨n,hn⟩:∃n,n=fs.L:=⟨_,rfl⟩;clear aK hh7 aT bF aL aY aU bG hcb aZ cD bH aC aF bM c3 c5 cC bD;rw[<-hn] at bO aG ⊢;clear hn;go_wp2;refine aE λK hK=>?_;have ez:q3 6=F8 (Ff 6 aB):=rfl;simp only[Ff,aB,dr,AS,Ju,F8] at ez;rw[ez];clear ez;go_wp2_with fail;refine bO.out.LT ?_;rintro e w8 ⟨b5,a6⟩;obtain⟨fo,aD⟩:∃fo,fo=IL x fs (rate:Int) (fr:Int) (to:Int):=⟨_,rfl⟩
 rw[<-aD] at a6 aG cE;clear aD bO;cases fo with
 |none =>
  unfold eR at a6;subst a6;obtain⟨W9,a7⟩:∃W9:bc,W9=w8.Li (bn #[Y U 0,Y U 0] 38):=⟨_,rfl⟩;have a8:Gr w7 W9:=a7▸b5.Li _;have hp:=aG.out W9 a8;unfold EG JX i64 at hp;have aM:=AB hp;have bP:=AB a7;have cF:=AB a8;have cG:Hid (W9.heap[w8.heap.size]?=E (bn #[Y U 0,Y U 0] 38 (0,0))):=AB (by rw[a7];exact heap_alloc_new _ _);have bQ:w8.heap.size<W9.heap.size:=by rw[a7];simp
  obtain⟨c0,c1,d0,d1,d2⟩:=bN.out W9 a8;clear hp a7 a8 b5 aG bI bJ aH aI aJ;go_wp2;rw[<-bP.out];refine aE λK hK=>?_;have ez:q3 7=F8 (Ff 7 aB):=rfl;simp only[Ff,aB,dr,AS,Ju,F8] at ez;rw[ez];clear ez;go_wp2_with fail;refine aM.out.LT ?_;rintro e b6 ⟨aA,a6⟩;unfold iT at a6;subst a6;clear aM;go_wp2;refine vi (K:=λa w=>bB DP ju _ _ a w) 184 rfl λu hu=>?_;exact xJ (hu 11) (hu 12) (hu 13)
 |some q =>
  obtain⟨fa,fb⟩:=q;unfold eR at a6;dsimp only at a6;subst a6;obtain⟨W9,a7⟩:∃W9:bc,W9=w8.Li (bn #[Y U fa,Y U fb] 38):=⟨_,rfl⟩;have a8:Gr w7 W9:=a7▸b5.Li _;have hp:=aG.out W9 a8;unfold EG JX i64 at hp;have aM:=AB hp;have bP:=AB a7;have cF:=AB a8;have cG:Hid (W9.heap[w8.heap.size]?=E (bn #[Y U fa,Y U fb] 38 (0,0))):=AB (by rw[a7];exact heap_alloc_new _ _)
  have bQ:w8.heap.size<W9.heap.size:=by rw[a7];simp
  obtain⟨c0,c1,d0,d1,d2⟩:=bN.out W9 a8;clear hp a7 a8 b5 aG bI bJ aH aI aJ;go_wp2;rw[<-bP.out];refine aE λK hK=>?_;have ez:q3 7=F8 (Ff 7 aB):=rfl;simp only[Ff,aB,dr,AS,Ju,F8] at ez;rw[ez];clear ez;go_wp2_with fail;refine aM.out.LT ?_;rintro e b6 ⟨aA,a6⟩;unfold iT at a6;dsimp only at a6;obtain⟨g,rfl,zQ,bR⟩:=a6;obtain⟨i1,i2,i3⟩:=cE.out fa fb rfl;have hs:S3 c hA hc w2.heap.size w8.heap.size g fa.L fb.L b6:=by
   have g7:Gr w7 b6:=cF.out.trans aA;have e1:=aA.Ly.Lo w8.heap.size bQ;rw[cG.out] at e1;refine⟨⟨AI bK g7.size,AI bQ aA.size⟩,(bN.out b6 g7).2.1,?_,?_,(cS.out.keep λ_ _ hb=>g7.cell hb).more g7.size,bR⟩
   .rw[show((fa.L:Nat):Int)=fa by omega];exact(DU e1 0).1
   .rw[show((fb.L:Nat):Int)=fb by omega];exact(DU e1 1).1
  have cT:=AB hs;clear aM hs zQ bR aA;go_wp2;refine vi (K:=λa w=>bB DP ju _ _ a w) 184 rfl λu hu=>?_;exact xK bW.out ⟨by omega,by omega⟩ cT.out (hu 4) (hu 10) (hu 11) (hu 12) (hu 13)
end Go.Sq
namespace Go.Co
open Go.Em Go.Conc Go.ConcN
section
variable {SB:eT->Bool} {H H':Hid} {β:Ef}
def IA.less (h:∀b,H b=cw->H' b=cw){f F:Fn}(r:IA (SP SB H) β f F):IA (SP SB H') β f F:=by
 cases r with
 |func s=>exact .func s
 |yield l k=>exact .yield l (h _ k)
def DX.less (h:(∀b,H b=cw->H' b=cw)/\(H.bl=df->H'.bl=df)){v V:dy}(r:DX (SP SB H) β v V):DX (SP SB H') β v V:=by
 induction r with
 |bool b=>exact .bool b
 |int k n=>exact .int k n
 |string s=>exact .string s
 |He=>exact .He
 |ptr o s hb=>exact .ptr o s hb
 |GA l c=>exact .GA l c
 |slice o s l c hb=>exact .slice o s l c hb
 |func hf h1 _ h2 _ i1 i2=>exact .func (IA.less h.1 hf) h1 i1 h2 i2
 |nilFunc=>exact .nilFunc
 |GZ=>exact .GZ
 |Gt=>exact .Gt
 |nilIface=>exact .nilIface
 |iface t _ ih=>exact .iface t ih
 |agg h1 _ i1=>exact .agg h1 i1
 |tuple h1 _ i1=>exact .tuple h1 i1
 |blank h1 h2=>exact .blank (h1.imp (λh=>h) h.2) h2
 |EN h1=>exact .EN (h1.imp (λh=>h) h.2)
 |E8 h1=>exact .E8 (h1.imp (λh=>h) h.2)
def D6.less (h:(∀b,H b=cw->H' b=cw)/\(H.bl=df->H'.bl=df)){x X:Array dy}(r:D6 (SP SB H) β x X):D6 (SP SB H') β x X:=⟨r.size,λi v V h1 h2=>DX.less h (r.at_ i v V h1 h2)⟩
def Fx.less (h:(∀b,H b=cw->H' b=cw)/\(H.bl=df->H'.bl=df)){d D:Deferred}(r:Fx (SP SB H) β d D):Fx (SP SB H') β d D:=by
 cases r with
 |fn f c a=>exact .fn (IA.less h.1 f) (D6.less h c) (D6.less h a)
 |nil a=>exact .nil (D6.less h a)
 |collected r k=>exact .collected r (h.1 _ k)
 |EN a A h1 h2 h3=>exact .EN a A (D6.less h h1) h2 (h3.imp (λh=>h) λx=>⟨h.2 x.1,x.2⟩)
def E3.imp {α:Type}{R R':α->α->Prop}(h:∀a A,R a A->R' a A){l L:List α}(r:E3 R l L):E3 R' l L:=by
 induction r with
 |nil=>exact .nil
 |cons ha _ ih=>exact .cons (h _ _ ha) ih
def EP.less (h:(∀b,H b=cw->H' b=cw)/\(H.bl=df->H'.bl=df)){Ck:Code->Prop}{o O:Obj}(r:EP (SP SB H) Ck β o O):EP (SP SB H') Ck β o O:=by
 cases r with
 |cells a f=>exact .cells (D6.less h a) f
 |loop p a b x d k=>exact .loop p a b (D6.less h x) d (h.1 _ k)
 |number o s l hb=>exact .number o s l hb
 |taken=>exact .taken
 |defs l=>exact .defs (E3.imp (λ_ _=>Fx.less h) l)
end
def Jp (p:eH)(b4:Nat)(Ψ:bc->Prop)(g:dS)(w:bc):Prop :=
 ∃c,g=ER (Frame.enter p 124 #[JA b4] .L) [c,bad]/\c.fn=123/\c.mode=.returning/\c.defers=[]/\c.kind=.L/\Ψ w
def rz {p:eH}{b4:Nat}{Ψ:bc->Prop}{BB:eT->Bool}(Mk:BB 124=cw){g:dS}{w:bc}(h:Jp p b4 Ψ g w):BB g.L.fn=false:=by
 obtain⟨c,rfl,_⟩:=h;exact Mk
def yg {c:Frame}(h:c.mode=.returning):c≠bad:=λe=>by rw[e] at h;cases h
section
variable {P:Er} {SB BB:eT->Bool} {zZ:Bool} {Gn ty Wg:Nat} {Ψ2:bc->Prop}
def mG {L:Lib.WgLink}(Wl:Lib.WgLib P.b L)(Mk:L.done=124)(a7:Barred P SB zZ L.done (Lib.doneFn L)){f92:Func}(hf:P.b.L[123]?=E f92)(hr:f92.results=#[]){b4:Nat}{Ψ:bc->Prop}{H:Hid}{Pk:Ef}(hPk:Pk b4 Wg){o:Bool}
  (a8:o=df->∀(x:Lone) (W:bc),x.H=H->Pk.le x.β->Gw P SB zZ Gn x W->Ψ x.w->Ψ2 W) :
  cO P SB BB zZ Gn L.tWg Wg Ψ2 (Jp P.a b4 Ψ) H [cR P.b] Pk o:=by
 rintro x g W hH hT zX ⟨c,e,c1,c2,c3,c4,c5⟩ hg hw a6;refine⟨?_,λho=>a8 ho x W hH zX hw c5⟩;refine yf Wl a7 (x:=x) (c:=c) (cs:=[bad]) (wl:=b4) (by rw[e,Mk]) (yg c2) (zX _ _ hPk) hg hw a6 λC CS r1 r2=>?_;have m:=r1.mode;rw[c2] at m;have hm:C.mode=.returning:=by
  generalize C.mode=M at m;cases m;rfl
 have d:=r1.defers;rw[c3] at d;have hd:C.defers=[]:=by
  generalize C.defers=M at d;cases d;rfl
 rw[hT] at r2;have zW:CS=[cR P.b]:=by
  generalize aA:[bad]=BL at r2;cases r2 with
  |base=>rfl
  |cons h1 h2=>cases aA;exact AH rfl h2.ne
 refine⟨hm,2,?_⟩;rw[zW];exact rx (by rw[<-r1.fn,c1];exact hf) hr hm hd (by rw[<-r1.kind,c4])
end
end Go.Co
namespace Go.Sq
open Go.Proofs
open Go.RowKit Go.Em Go.Co Go.Conc
section
variable {SB BB:eT->Bool} {H:Hid} {Gn Wg:Nat} {zN:Nat->Prop} {Ψ0 Ψ2:bc->Prop} {Pr:Ef} {T:List Frame} {Kb:Nat->Prop} {Ok:bc->Prop} {b2 b3 b4:Nat} {x1:Int} {tp:Bool} {K:Nat->Prop} {a:Act} {r:Nat} {x:Lone} {X:dS} {W:bc}
def pY (x1:Int)(SB:eT->Bool)(H:Hid)(K:Nat->Prop):∀v∈[Y .u8 x1,.int .u8 0,.int .u8 0,.int .u8 0,.int .u8 0],E5 SB H K v:=λv hv=>by
 simp only[AM,AK,or_false] at hv;rcases hv with rfl|rfl|rfl|rfl|rfl<;>exact DX.int _ _
def Ns.KM (ga:Ns SB BB H Gn Wg zN Ψ0 Pr T Kb Ok b2 b3 b4 x1 tp K a r x X W)(hO:fh Kb Ok):Head SB H Gn Kb Ok (λb=>K b\/b=r) (froze x.w r) :=
 ga.head.more hO ga.rK.1 ga.rK.2.1 ga.rK.2.2 ga.rb λv hv=>pY x1 SB H _ v hv
def jO {H':Hid}(hk:K b2/\K b3/\K b4):D6 (SP SB H') (EI (λb=>K b\/b=r)) (bK b2 b3 b4 r) (bK b2 b3 b4 r):=E9 λv hv=>by
 simp only[AM,AK,or_false] at hv;obtain rfl|rfl|rfl|rfl:=hv
 .exact E5.ptr (.inl hk.2.2) _ _
 .exact E5.ptr (.inl hk.1) _ _
 .exact E5.ptr (.inr rfl) _ _
 .exact E5.ptr (.inl hk.2.1) _ _
def tR (lib:∀H,Lib PP SB H df BB Gn){L:Lib.WgLink}(Wl:Lib.WgLib cf L)(Mk:L.done=124)(hT:L.tWg=215)(a6:Go.Co.Barred PP SB df L.done (Lib.doneFn L))(hO:fh Kb Ok)(hkb:Kb b2/\Kb b3/\Kb b4)(a8:Pr b4 Wg)(aA:∀b B,Pr b B->Kb b)
  (ga:Ns SB BB H Gn Wg zN Ψ0 Pr T Kb Ok b2 b3 b4 x1 tp K a r x X W)
  (a7:BB 124=cw) (kid:EL cf BB (Jp cf b4 λ_=>True) 0 (eo (Frame.enter cf 123 (bK b2 b3 b4 r) .L) [bad]) (froze x.w r)) :
  ∃(X' child:dS) (xk:Lone) (o:Bool) (Pk:Ef) (Q:dS->bc->Prop),stepG cf df X W=.spawn X' child W #[] /\
   Split PP SB BB df Gn Wg zN x X' child W tp tp o ⟨eo ((base 79).at a (.inRegion o8 []::T8)) [bad],froze x.w r,H,cut (λb=>K b\/b=r) x.β,T⟩ xk Pk /\
   cO PP SB BB df Gn 215 Wg Ψ2 Q xk.H xk.T Pk o/\(∀g w,Q g w->BB g.L.fn=cw)/\EL cf BB Q 0 xk.g xk.w:=by
 have hm:=ga.KM hO;have hH:=ga.h;have ht:=ga.t;subst hH ht
 obtain⟨G',child,e1,e2⟩:=LP (zN:=zN) (tp:=tp) (wl:=Pr) lib ga.op ga.gl ga.wl ga.tw ga.wg ga.Jc (λb B h=>ga.pr b B h) ga.cut (λb hb=>by
  cases e:x.H b with
  |true=>exact .inl rfl
  |false=>exact .inr (hm.base b hb e).1) (jO ⟨ga.head.sub _ hkb.1,ga.head.sub _ hkb.2.1,ga.head.sub _ hkb.2.2⟩) (λb B h=>.inl (ga.head.sub _ (aA b B h)))
 refine⟨G',child,_,cw,Pr,Jp cf b4 λ_=>True,e1,e2,?_,λg w h=>rz a7 h,kid⟩;have:=mG (P:=PP) (Gn:=Gn) (Ψ2:=Ψ2) (BB:=BB) Wl Mk a6 (f92:=e8) eV rfl (Ψ:=λ_=>True) (H:=x.H) (Pk:=Pr) a8 (o:=cw) (λe=>by cases e);rw[hT] at this;exact this
def Hl (tl:Nat->Bool)(oK:Nat->Obj)(w:bc):World:={ w with heap:=w.heap.mapIdx λb o=>if tl b then oK b else o }
def bL (tl:Nat->Bool)(oK:Nat->Obj)(w:bc):(Hl tl oK w).heap.size=w.heap.size:=by simp[Hl]
def bM (tl:Nat->Bool)(oK:Nat->Obj)(w:bc)(b:Nat)(hb:b<w.heap.size):(Hl tl oK w).heap[b]?=if tl b then E (oK b) else w.heap[b]?:=by
 simp only[Hl,CJ,AL hb,BT];split<;>rfl
def tS (lib:∀H,Lib PP SB H df BB Gn){L:Lib.WgLink}(Wl:Lib.WgLib cf L)(Mk:L.done=124)(hT:L.tWg=215)(a6:Go.Co.Barred PP SB df L.done (Lib.doneFn L))(hO:fh Kb Ok)(hkb:Kb b2/\Kb b3/\Kb b4)(aD:Pr b4 Wg)(aF:∀b B,Pr b B->Kb b)
  (ga:Ns SB BB H Gn Wg zN Ψ0 Pr T Kb Ok b2 b3 b4 x1 df K a r x X W) {tl:Nat->Bool} {oK:Nat->Obj} (aG:∀b B,Pr b B->tl b=df->zN B) (a7:∀b,tl b=df->∃B,Pr b B) (a8:∀b,tl b=df->H b=df) (aH:¬zN Wg)
  (aA:∀W,Ψ0 W->∀b B,Pr b B->tl b=df->∃O,W.heap[B]?=E O/\∀(S:Fu) (Ck:Code->Prop) (β:Ef),EP S Ck β (oK b) O) {Ψk:bc->Prop}
  (aB:∀(x:Lone) (W:bc),x.H=Df H tl->Pr.le x.β->Gw PP SB df Gn x W->Ψk x.w->Ψ2 W)
  (aC:BB 124=cw) (kid:EL cf BB (Jp cf b4 Ψk) 0 (eo (Frame.enter cf 123 (bK b2 b3 b4 r) .L) [bad]) (Hl tl oK (froze x.w r))) :
  ∃(X' child:dS) (xk:Lone) (o:Bool) (Pk:Ef) (Q:dS->bc->Prop),stepG cf df X W=.spawn X' child W #[] /\
   Split PP SB BB df Gn Wg zN x X' child W df cw o ⟨eo ((base 79).at a (.inRegion o8 []::T8)) [bad],froze x.w r,H,cut (λb=>K b\/b=r) x.β,T⟩ xk Pk /\
   cO PP SB BB df Gn 215 Wg Ψ2 Q xk.H xk.T Pk o/\(∀g w,Q g w->BB g.L.fn=cw)/\EL cf BB Q 0 xk.g xk.w:=by
 have hm:=ga.KM hO;have hH:=ga.h;have ht:=ga.t;subst hH ht;have lt:∀b,(K b\/b=r)->b<(froze x.w r).heap.size:=hm.lt;have pr:∀b B,x.β b B->tl b=df->Pr b B:=λb B hb h=>by
  obtain⟨B',hB⟩:=a7 b h;rw[ga.wl.Fl.fn hb (ga.pr _ _ hB)];exact hB
 have aI:∀b o,(K b\/b=r)->x.H b=cw->(froze x.w r).heap[b]?=E o->EP (SP SB (Df x.H tl)) (CK cf SB df) (EI λb=>K b\/b=r) o o:=λb o hb hh ho=>by
  obtain⟨_,o',h1,h2⟩:=hm.base b hb hh;rw[ho] at h1;cases h1;exact EP.less ⟨λb hb=>by simp[Df,hb],λ_=>rfl⟩ h2
 have aJ:∀b B,(K b\/b=r)->tl b=df->x.β b B->∃o O,(Hl tl oK (froze x.w r)).heap[b]?=E o/\W.heap[B]?=E O/\EP (SP SB (Df x.H tl)) (CK cf SB df) (cut (λb=>K b\/b=r) x.β) o O:=λb B hb h hB=>by
  obtain⟨O,h1,h2⟩:=aA W (ga.Hb rfl) b B (pr b B hB h) h;exact⟨oK b,O,by rw[bM _ _ _ _ (lt b hb),AJ h],h1,h2 _ _ _⟩
 obtain⟨G',child,e1,e2⟩:=LQ (zN:=zN) (wl:=Pr) (wk:=Hl tl oK (froze x.w r)) (tl:=tl) lib ga.op ga.gl ga.wl ga.tw ga.wg ga.Jc (λb B h=>ga.pr b B h) ga.cut (λb hb=>by
  cases e:x.H b with
  |true=>exact .inl rfl
  |false=>exact .inr (hm.base b hb e).1) (λb B h=>.inl (ga.head.sub _ (aF b B h))) (jO ⟨ga.head.sub _ hkb.1,ga.head.sub _ hkb.2.1,ga.head.sub _ hkb.2.2⟩)
  (λb B hb h=>aG b B (pr b B hb h) h) a8 aH ⟨by rw[bL];exact AD _,rfl⟩ (λb hb h=>by rw[bM _ _ _ _ (lt b hb),AE (by simp[h])]) aI aJ (λb hh=>by rw[bL];exact hm.old b hh)
 refine⟨G',child,_,df,Pr,Jp cf b4 Ψk,e1,e2,?_,λg w h=>rz aC h,kid⟩;have:=mG (P:=PP) (Gn:=Gn) (Ψ2:=Ψ2) (BB:=BB) Wl Mk a6 (f92:=e8) eV rfl (Ψ:=Ψk) (H:=Df x.H tl) (Pk:=Pr) aD (o:=df) (λ_=>aB);rw[hT] at this;exact this
end
end Go.Sq
