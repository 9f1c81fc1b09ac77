/- Parts of the proof. -/
import Derived.Test.YtghipmneleifpaaGreatP17
import Derived.Test.YtghipmneleifpaaGreatP13
import Derived.Test.YtghipmneleifpaaGreatP00
import Derived.Test.YtghipmneleifpaaGreatP14
import Derived.Test.YtghipmneleifpaaGreatP15
import Derived.Test.YtghipmneleifpaaGreatP16
set_option linter.all false
set_option maxHeartbeats 6400000
set_option maxRecDepth 1000000
open Go.Value renaming slice->a6,int->a8,pointer->b5
open Option renaming none->a7,some->bh,isSome->cE
open Go.IntKind renaming i64->bb,wrap->cU
open Go.World renaming alloc_heap_new->bk,setCell->bs,putObj_heap_other->bw,cell?->cr,frozen?->cF,drew->dn
open Go renaming World->bl,Calls->bW,Addr->b9,Value->cf,wpIn_wide->cK,TypeId->dr
open Decidable renaming decide->bo
open Go.Obj renaming cells->bq
open Go.Proofs.Tryz renaming results22->bA
open Go.Proofs renaming intOf->bD
open Bool renaming false->b6,true->df
open Go.Ending renaming returned->b7
open List renaming mem_iff_getElem?->b8,all_eq_false->cq
open Int renaming emod_nonneg->cu,ediv_nonneg->cw
namespace Go.Sq
open Go.Proofs
open Go.RowKit Go.Shelf
attribute [local go_sem] Oper.semAt_some
def oQ (f:FuncId):Fence.wide.fn f=True:=eq_true trivial
attribute [local go_sem] oQ
attribute [local simp] oQ
def fI {fn:Func}{tmps:Array cf}{R:Ending->bl->Prop}{W:bl}{v:cf}(hr:(results fn tmps).run B1 W=.ok v W)(hR:R (.returned v) W) :
  LeavesInM Fence.wide 0 B1 fn tmps R [] .returning W:=⟨v,hr,hR⟩
def lP {c:Code}{P:Program}{K:Act->bl->Prop}{Q:Exit->Act->bl->Prop}{a:Act}{w:bl}(h:c.wp P (Exit.then K λ_ _ _=>False) a w):c.wp P (Exit.then K Q) a w:=by
 rw[<-cK (n:=0)] at h ⊢;refine wpIn_mono h λe a w h=>?_;cases e with
 |normal=>exact h
 |_=>exact h.elim
def ju (c:Cc)(ls:List (List Int))(h d:Int)(w:bl)(e:Ending)(w':bl):Prop :=
 Gr w w'/\if Cg c ls≠0 then e=.returned (.tuple #[.slice a7 0 0,a8 bb 0,a8 bb (Cg c ls)])
  else if(Ez h 0 (c.B2.length-1)&&Ez d 0 (c.B3.length-1))=b6 then e=.returned (.tuple #[.slice a7 0 0,a8 bb 0,a8 bb 3])
  else match Fq (B7 ls) (Cv (Js c h.toNat d) (Cy c.B2.length) c.B3.length EB 0) with
   |none=>e=.returned (.tuple #[.slice a7 0 0,a8 bb 0,a8 bb 11])
   |some p=>∃A k,e=.returned (.tuple #[a6 A c.B3.length k,a8 bb p.2,a8 bb 0])/\Da w' w'.heap.size A (CG p.1 c.B3.length)
def tM (nA hA gA:Option b9)(nc hc gc:Nat)(c:Cc)(ls:List (List Int))(h d:Int)(w:bl)(B:Nat)(hB:B<=w.heap.size)(hn:RI w B nA c.B3)(hh:Db w B hA c.B2)(hg:Da w B gA ls)
  (F4:c.B3.length<=4611686018427387904) (hl2:c.B2.length<=4611686018427387904) (DN:∀h∈c.B2,h.off.length<=4611686018427387904) (IP:ls.length<=4611686018427387904) (hl4:∀x∈ls,x.length<=4611686018427387904)
  (Qo:∀k:Nat,Cg c ls=0->h=k->k<c.B2.length->Ez d 0 (c.B3.length-1)=df->(Js c k d).Ok) :
  bW B1 22 #[Cj nA hA c nc hc,a6 gA ls.length gc,a8 bb h,a8 bb d] w (ju c ls h d w):=by
 rw[<-callsIn_wide (n:=0)];obtain⟨W0,hW0⟩:∃W0:bl,W0=(w.alloc (bq #[a6 nA c.B3.length nc,a6 hA c.B2.length hc] 25)).alloc (bq #[a8 bb 0] 3):=⟨_,rfl⟩;have hg0:Gr w W0:=hW0▸((Gr.refl w).alloc _).alloc _;have hz0:W0.heap.size=w.heap.size+2:=by rw[hW0];simp
 have hk:∀b o,b<B->W0.cell? ⟨b,o,a7⟩=w.cell? ⟨b,o,a7⟩:=λb o hb=>hg0.cell (yO hb hB);have Hu:=jr nA hA gA nc hc gc c ls W0 B (by omega) (hn.gr hB hg0) (hh.keep hk) (hg.gr hB hg0) F4 hl2 DN IP hl4;unfold Cj at Hu ⊢;have Iq:=yJ Hu;have hcm:W0.cell? ⟨w.heap.size,0,a7⟩=bh (a6 nA c.B3.length nc)/\W0.cell? ⟨w.heap.size,1,a7⟩=bh (a6 hA c.B2.length hc):=by
  rw[hW0];constructor
  all_goals rw[za _ _ _ (by simp),yN _ _ _ _ rfl];rfl
 have M8:=yJ hcm;have hcf:∀i,W0.frozen? ⟨w.heap.size,i,a7⟩=false:=λi=>by
  rw[hW0,Ax _ _ _ (by simp),zD _ _ _ _ rfl]
 have HCF:=yJ hcf;clear hcf;have Ms:W0.heap[w.heap.size+1]?=bh (bq #[a8 bb 0] 3 (0,0)):=by
  rw[hW0];have:=bk (w.alloc (bq #[a6 nA c.B3.length nc,a6 hA c.B2.length hc] 25)) (bq #[a8 bb 0] 3);rwa [AR] at this
 have HNB:=yJ Ms;have HW:=yJ hW0;have Du:=yJ hg0;have HN:=yJ hn;have HH:=yJ hh;have ac0:=yJ Qo;clear Hu hcm Ms hW0 hg0 hn hh hk hg Qo DN hl4;refine callsIn_of_wp_marks Sq.func22 rfl trivial ?_ rfl;simp only[Tryz.ntmps22,yX,yV,zb,Nat.reduceAdd,Nat.reduceSub,zM,zN,zX,zR,Ab,zV];rw[cK];go_wp2_with fail;rw[<-HW.out];refine Iq.out.mono ?_;rintro e w1 ⟨hg1,hf⟩;have DO:=yJ hg1;have hz1:=hg1.size
 have ac1:w1.heap[w.heap.size+1]?=bh (bq #[a8 bb 0] 3 (0,0)):=(hg1.below.block _ (by omega)).trans HNB.out;have VF:=yJ ac1;have Gt:=yJ (Du.out.trans hg1);have hlen:(w1.alloc (bq #[.int .u8 0,.int .u8 0,.int .u8 0,.int .u8 0,.int .u8 0] 76)).heap.size=w1.heap.size+1:=by simp
 clear ac1;by_cases hE:Cg c ls=0
 .rw[if_pos hE] at hf;obtain⟨cb,g0,cap0,rfl,hcb,Yz,hK⟩:=hf;have HE:=yJ hE;have HK:=yJ hK;clear hg1 hE Iq hK;obtain⟨Ld,G6,LK⟩:=one_cell VF.out;have hce:Cn c=0:=by
   have:=HE.out;unfold Cg at this;split at this
   .exact this
   .rename_i h;simpa using h
  have FQ:=yJ (Cc.Ok.of hce);have Mr:=FQ.out.n5;have hh4:=FQ.out.h4;have hn1':=FQ.out.n1;have Vu:=FQ.out.h1;obtain⟨W1,hW1⟩:∃W1,W1=w1.alloc (bq #[.int .u8 (B7 ls 0),.int .u8 (B7 ls 1),.int .u8 (B7 ls 2),.int .u8 (B7 ls 3),.int .u8 (B7 ls 4)] 76):=⟨_,rfl⟩;have Qk:=yJ hW1;have Gu:Hid (Gr w W1):=yJ (by rw[hW1];exact Gt.out.alloc _);have hsz1:W1.heap.size=w1.heap.size+1:=by rw[hW1];simp
  have k0:w1.cell? ⟨w.heap.size,0,a7⟩=bh (a6 nA c.B3.length nc):=(DO.out.cell (by show w.heap.size<_;omega)).trans M8.out.1;have k1:w1.cell? ⟨w.heap.size,1,a7⟩=bh (a6 hA c.B2.length hc):=(DO.out.cell (by show w.heap.size<_;omega)).trans M8.out.2;have Gb:w.heap.size<w1.heap.size:=by omega
  have Lu:Hid (W1.cell? ⟨w.heap.size,0,a7⟩=bh (a6 nA c.B3.length nc)):=yJ (by rw[hW1,za _ _ _ (by show w.heap.size<_;omega)];exact k0);have Sz:Hid (W1.cell? ⟨w.heap.size,1,a7⟩=bh (a6 hA c.B2.length hc)):=yJ (by rw[hW1,za _ _ _ (by show w.heap.size<_;omega)];exact k1);have ac2:W1.heap[w.heap.size+1]?=bh (bq #[a8 bb 0] 3 (0,0)):=by rw[hW1,heap_alloc_old _ _ LK];exact VF.out
  have YW:=yJ ac2;have Mn:W1.heap[w1.heap.size]?=bh (bq #[.int .u8 (B7 ls 0),.int .u8 (B7 ls 1),.int .u8 (B7 ls 2),.int .u8 (B7 ls 3),.int .u8 (B7 ls 4)] 76 (0,0)):=by rw[hW1];exact bk w1 _
  have HGV:=yJ Mn;have hb1:=bS h 0 (c.B2.length-1) W1;have hb2:=bS d 0 (c.B3.length-1) W1;obtain⟨x1,hx1⟩:∃x,x=Ez h 0 (c.B2.length-1):=⟨_,rfl⟩;obtain⟨x2,hx2⟩:∃x,x=Ez d 0 (c.B3.length-1):=⟨_,rfl⟩;rw[<-hx1] at hb1;rw[<-hx2] at hb2;have HB1:=yJ hb1;have I5:=yJ hb2;have HX1:=yJ hx1;have HX2:=yJ hx2;clear hb1 hb2 hx1 hx2 hW1 Mn ac2 hce Ld G6;unfold Dr;go_wp2_with fail;rw[<-Qk.out]
  refine HB1.out.mono ?_;rintro e w' ⟨rfl,rfl⟩;have hq0:=Lu.out;have Xi:=Sz.out;obtain⟨Ld,G6,ahW⟩:=one_cell YW.out;clear k0 k1;have ac3:∀w',Gr w w'->w'.cell? ⟨w.heap.size+1,0,a7⟩=bh (a8 bb 0)->(x1&&x2)=b6->ju c ls h d w (.returned (.tuple #[.slice a7 0 0,a8 bb 0,a8 bb 3])) w':=λw' hg _ hx=>by
   refine⟨hg,?_⟩;rw[if_neg (by simp[HE.out]),if_pos (by rw[<-HX1.out,<-HX2.out];exact hx)]
  have YX:=yJ ac3;clear ac3;cases x1 with
  |false =>
   go_wp2;refine fI (v:=.tuple #[.slice a7 0 0,a8 bb 0,a8 bb 3]) (by simp[results,bA,go_sem,yW _ _ _ Ld]) (YX.out _ (Gu.out.setCell (by show _<=w.heap.size+1;omega) _) (yW _ _ _ Ld) rfl)
  |true =>
   cases x2 with
   |false =>
    go_wp2_with (go_at_call 39;refine I5.out.mono ?_;rintro e w' ⟨rfl,rfl⟩);refine fI (v:=.tuple #[.slice a7 0 0,a8 bb 0,a8 bb 3]) (by simp[results,bA,go_sem,yW _ _ _ Ld]) (YX.out _ (Gu.out.setCell (by show _<=w.heap.size+1;omega) _) (yW _ _ _ Ld) rfl)
   |true =>
    clear YX;obtain⟨k,hk,FA⟩:∃k:Nat,h=k/\k<c.B2.length:=by
     have:=HX1.out;simp only[Ez] at this;have:=this.symm;simp at this;exact⟨h.toNat,by omega,by omega⟩
    subst hk;obtain⟨hb,ho,rfl,KX,hcs⟩:=HH.out (λe=>by rw[e] at Vu;simp at Vu);have hW:∀b o,b<B->W1.cell? ⟨b,o,a7⟩=w.cell? ⟨b,o,a7⟩:=λb o hb=>Gu.out.cell (yO hb hB);have Nl:=yJ (tF hb ho hc c.B2 W1 B KX (by have:=Gu.out.size;omega) (λi x hi=>(hcs i x hi).keep KX hW) (by omega) (by omega));clear hcs hW;go_wp2_with (first|(go_at_call 39;refine I5.out.mono ?_;rintro e w' ⟨rfl,rfl⟩)|fail)
    refine Nl.out.mono ?_;rintro e w3 ⟨g,cap,rfl,hg3,Jn,hgs,hgf,hat⟩;have ahX:=hg3.size;have hf3:w3.frozen? ⟨w.heap.size,1,a7⟩=false:=((DO.out.trans (((Gr.refl w1).alloc _).trans (Qk.out▸hg3))).frozen (p:=⟨w.heap.size,1,a7⟩) (by show w.heap.size<_;omega)).trans (HCF.out 1);have P3:w3.cell? ⟨w.heap.size,0,a7⟩=bh (a6 nA c.B3.length nc):=(hg3.cell (p:=⟨w.heap.size,0,a7⟩) (by show w.heap.size<_;omega)).trans Lu.out
    have O3:w3.cell? ⟨w.heap.size,1,a7⟩=bh (.slice (bh ⟨hb,ho,a7⟩) c.B2.length hc):=(hg3.cell (p:=⟨w.heap.size,1,a7⟩) (by show w.heap.size<_;omega)).trans Sz.out;have M7:c.B2[k]?=bh (c.h k):=by unfold Cc.h;rw[yM FA];rfl
    obtain⟨IG,Wo,hk2,A,m,hk3,Fv⟩:=hat k (c.h k) M7;have VG:g≠w.heap.size:=by omega
    obtain⟨w4,hw4⟩:∃w4,w4=w3.setCell ⟨w.heap.size,1,a7⟩ (.slice (bh ⟨g,0,a7⟩) c.B2.length cap):=⟨_,rfl⟩;have hz4:w4.heap.size=w3.heap.size:=by rw[hw4];simp[bs]
    have ho4:∀b o,b≠w.heap.size->w4.cell? ⟨b,o,a7⟩=w3.cell? ⟨b,o,a7⟩:=λb o hb=>by rw[hw4];exact yP _ _ _ _ (λe=>hb (congrArg Addr.block e).symm)
    have hB4:∀b o,b<B->w4.cell? ⟨b,o,a7⟩=w3.cell? ⟨b,o,a7⟩:=λb o hb=>ho4 b o (by omega);have Lj:Hid (Gr w w4):=yJ (by rw[hw4];exact(Gu.out.trans hg3).setCell (yL _) _);have GV:=(FQ.out.off _ (c.Gw FA)).1;have hcon:=jB A m (c.h k).off d w4 B (Fv.keep hB4) (by omega);obtain⟨x3,hx3⟩:∃x,x=bo (d∈(c.h k).off):=⟨_,rfl⟩;rw[<-hx3] at hcon;have ac4:=yJ hcon;have HX3:=yJ hx3;have HW4:=yJ hw4
    have HAT:Hid (∀(i:Nat) (x:CF),c.B2[i]?=bh x->NU w4 B g (i*4) x):=yJ λi x hi=>by
     obtain⟨q0,q1,q2,A',m',q3,q4⟩:=hat i x hi;exact⟨(ho4 _ _ VG).trans q0,(ho4 _ _ VG).trans q1,(ho4 _ _ VG).trans q2,A',m',(ho4 _ _ VG).trans q3,q4.keep hB4⟩
    have HN4:Hid (RI w4 B nA c.B3):=yJ (HN.out.gr hB Lj.out);have YY:Hid (w4.heap[w.heap.size+1]?=bh (bq #[a8 bb 0] 3 (0,0))):=yJ (by rw[hw4,yU _ _ _ _ (by show w.heap.size+1≠w.heap.size;omega),hg3.below.block _ ahW];exact YW.out);have YZ:Hid (w4.heap[w1.heap.size]?=bh (bq #[.int .u8 (B7 ls 0),.int .u8 (B7 ls 1),.int .u8 (B7 ls 2),.int .u8 (B7 ls 3),.int .u8 (B7 ls 4)] 76 (0,0))):=yJ (by rw[hw4,yU _ _ _ _ (by show w1.heap.size≠w.heap.size;omega),hg3.below.block _ (by omega)];exact HGV.out)
    have HE4:Hid (w4.cell? ⟨w.heap.size,0,a7⟩=bh (a6 nA c.B3.length nc)/\w4.cell? ⟨w.heap.size,1,a7⟩=bh (.slice (bh ⟨g,0,a7⟩) c.B2.length cap)):=yJ (by
     rw[hw4];exact⟨(yP _ _ _ _ (by simp)).trans P3,yW _ _ _ O3⟩)
    have HGF:Hid (∀i,w4.frozen? ⟨g,i,a7⟩=b6):=yJ λi=>by rw[hw4,zQ];exact hgf i
    have ah0:w3.cell? ⟨g,k*4+3,a7⟩=bh (a6 A (c.h k).off.length m):=hk3;have Vm:=yJ Fv;clear hcon hx3 hw4 hat Fv IG Wo hk2 hk3 ho4 hB4 hgf M7 Ld G6 hq0;go_wp2_with fail;rw[<-HW4.out];refine ac4.out.mono ?_;rintro e w' ⟨rfl,rfl⟩;clear P3 O3 ah0 hf3 ac4;have SJ:W1.heap.size<=w4.heap.size/\g<w4.heap.size:=by omega
    obtain⟨he0,he1⟩:=HE4.out;have M7:c.B2[k]?=bh (c.h k):=by unfold Cc.h;rw[yM FA];rfl
    obtain⟨IG,Wo,hk2,A',m',hk3,Fv⟩:=HAT.out k (c.h k) M7;have ac6:=yJ Fv;have hgk:=HGF.out (k*4+3);clear Fv IG Wo hk2 Vm hz4 hg3 ahX;cases x3
    case' true =>
     have Ma:Hid (acY nA nc c ls k d w w1.heap.size g cap w4):=yJ (by
      have WA:fe (c.h k).off d=(c.h k).off:=by unfold fe;rw[if_pos (by simpa using HX3.out.symm)]
      refine⟨Lj.out,he0,he1,YY.out,⟨by omega,by omega,by omega⟩,λi hi=>?_,?_,λhne=>⟨g,0,rfl,⟨SJ.2,by omega⟩,λi x hi=>?_⟩⟩
      .rw[(E0 YZ.out).1 i]
       match i,hi with
       |0,_=>rfl
       |1,_=>rfl
       |2,_=>rfl
       |3,_=>rfl
       |4,_=>rfl
      .exact fR HN4.out λb hb=>⟨by omega,by omega⟩
      .rw[yZ];have key:∀y,c.B2[i]?=bh y->NV w4 (λb=>b<w4.heap.size/\b≠w.heap.size+1) g (i*4) y:=λy hy=>by
        obtain⟨q0,q1,q2,A',m',q3,q4⟩:=HAT.out i y hy;exact⟨q0,q1,q2,A',m',q3,fR q4 λb hb=>⟨by omega,by omega⟩⟩
       rcases PE hi FA with⟨rfl,rfl⟩|⟨_,h⟩
       .rw[WA];exact key _ M7
       .exact key _ h)
     go_wp2_with fail;obtain⟨wz,rfl⟩:∃wz,wz=w4:=⟨_,rfl⟩
    case' false =>
     have Y0:=yJ (vI A' m' (c.h k).off w4 B ac6.out (by omega) (by omega));have WA:fe (c.h k).off d=KF ((c.h k).off++[d]):=by unfold fe;rw[if_neg (by simpa using HX3.out.symm)];rfl
     have HOA:=yJ WA;obtain⟨off,Fv⟩:∃off,off=(c.h k).off:=⟨_,rfl⟩;rw[<-Fv] at Y0 HOA GV;have VH:w4.cell? ⟨g,k*4+3,a7⟩=bh (a6 A' off.length m'):=by rw[Fv];exact hk3
     have HEO:=yJ Fv;rw[<-Fv];clear WA hk3 Fv ac6;go_wp2_with fail;refine Y0.out.mono ?_;rintro e w5 ⟨v,rfl,hown,Gg⟩;have NN:=Gg.size;have VI:=hown.lt;have Hk:=yJ Gg;clear Gg Y0;go_wp2_with (at_builtin;refine jW rfl _ _ rfl w4.heap.size _ _ _ rfl (hown.alloc _) ⟨w5.heap.size,0,a7⟩ 1 (a8 bb d) rfl ?c1 rfl ?c2 ?c3 ?_)
     case c1=>rw[yN _ _ _ _ rfl];rfl
     case c2=>omega
     case c3=>(try simp);omega
     intro v' w6 hown' hgrow hd;have IZ:∀b,b<w4.heap.size->w6.heap[b]?=w4.heap[b]?:=λb hb=>by
      have hne:bh b≠v.ownBlock:=ef hown hb;exact(hgrow.block b (by simp;omega) hne).trans ((heap_alloc_old _ _ (by omega)).trans (Hk.out.below.block b hb))
     have hG6:Gr w w6:=((Lj.out.trans Hk.out).alloc _).grown hgrow hd λq hq=>by have:=(VI q hq).1;have:=Lj.out.size;omega
     have hc6:w6.cell? ⟨g,k*4+3,a7⟩=bh (a6 A' off.length m'):=(zd (IZ g SJ.2)).trans VH;have hf6:w6.frozen? ⟨g,k*4+3,a7⟩=false:=(An (a:=⟨g,k*4+3,a7⟩) (IZ g SJ.2)).trans hgk;obtain⟨g',cap',hv',hg'l,hg's⟩:=hown'.form (by omega);subst hv';have hsz6:w4.heap.size<=w6.heap.size:=by have:=hgrow.size;simp at this;omega
     obtain⟨w7,Px⟩:∃w7,w7=w6.setCell ⟨g,k*4+3,a7⟩ (.slice (bh ⟨g',0,a7⟩) (off.length+1) cap'):=⟨_,rfl⟩;have hz7:w7.heap.size=w6.heap.size:=by rw[Px];simp[bs]
     have Lv:w7.ownsRow w4.heap.size 3 1 (.slice (bh ⟨g',0,a7⟩) (off++[d]).length cap') (off++[d]).length ((off++[d]).map (a8 bb)):=by
      rw[Px];have:=ownsRow_setCell_below (a:=⟨g,k*4+3,a7⟩) hown' SJ.2 (.slice (bh ⟨g',0,a7⟩) (off.length+1) cap');simpa using this
     have SK:=vK g' cap' (off++[d]) w7 Lv (by simp;omega);have F4:(off++[d]).length=off.length+1:=by simp
     rw[F4] at SK;have Ps:=yJ SK;have Y1:=yJ Px;have ac7:=yJ IZ;have HG6:=yJ hG6;clear IZ hG6 hown' hgrow hd hown Lv SK Px VI;go_wp2_with fail;rw[<-Y1.out];refine Ps.out.mono ?_;rintro e w8 ⟨rfl,hk8,hs8⟩;have hz8:=hk8.size;have KZ:g≠g':=by omega
     have Lz:∀b,b<w4.heap.size->b≠g->w8.heap[b]?=w4.heap[b]?:=λb hb hne=>by
      rw[hk8.block b (by omega) (by show b≠g';omega),Y1.out,yU _ _ _ _ (by show b≠g;exact hne)];exact ac7.out b hb
     have OG:∀o,w8.cell? ⟨g,o,a7⟩=w7.cell? ⟨g,o,a7⟩:=λo=>hk8.cell (p:=⟨g,o,a7⟩) (by show g<_;omega) KZ;have hgo:∀o,o≠k*4+3->w8.cell? ⟨g,o,a7⟩=w4.cell? ⟨g,o,a7⟩:=λo ho=>by
      rw[OG,Y1.out,yP _ _ _ _ (λe=>ho (congrArg Addr.off e).symm)];exact zd (ac7.out g SJ.2)
     have ada:w8.cell? ⟨g,k*4+3,a7⟩=bh (.slice (bh ⟨g',0,a7⟩) (off.length+1) cap'):=by
      rw[OG,Y1.out];exact yW _ _ _ hc6
     have hB8:∀b o,b<B->w8.cell? ⟨b,o,a7⟩=w4.cell? ⟨b,o,a7⟩:=λb o hb=>zd (Lz b (by omega) (by omega))
     have Ma:Hid (acY nA nc c ls k d w w1.heap.size g cap w8):=yJ (by
      have adb:fe (c.h k).off d=KF (off++[d]):=by rw[<-HEO.out];exact HOA.out
      refine⟨KT.gr (T:=(·=g')) (HG6.out.setCell (p:=⟨g,k*4+3,a7⟩) (by show _<=g;omega) _) (Y1.out▸hk8) (by rintro b rfl;omega),(zd (Lz w.heap.size (by omega) (by omega))).trans he0,(zd (Lz w.heap.size (by omega) (by omega))).trans he1,(Lz _ (by omega) (by omega)).trans YY.out,⟨by omega,by omega,by omega⟩,λi hi=>?_,?_,λhne=>⟨g,0,rfl,⟨by omega,by omega⟩,λi x hi=>?_⟩⟩
      .rw[zd (a:=⟨w1.heap.size,i,a7⟩) (Lz w1.heap.size (by omega) (by omega)),(E0 YZ.out).1 i]
       match i,hi with
       |0,_=>rfl
       |1,_=>rfl
       |2,_=>rfl
       |3,_=>rfl
       |4,_=>rfl
      .exact fR (HN4.out.keep hB8) λb hb=>⟨by omega,by omega⟩
      .rw[yZ];rcases PE hi FA with⟨rfl,rfl⟩|⟨hik,h⟩
       .obtain⟨q0,q1,q2,_⟩:=HAT.out i _ M7;refine⟨(hgo _ (by omega)).trans q0,(hgo _ (by omega)).trans q1,(hgo _ (by omega)).trans q2,bh ⟨g',0,a7⟩,cap',?_,?_⟩
        .rw[ada,adb,lw];simp
        .rw[adb];exact λ_=>⟨g',0,rfl,⟨by omega,by omega⟩,λj y hj=>by rw[yZ];exact hs8 j y hj⟩
       .obtain⟨q0,q1,q2,A2,m2,q3,q4⟩:=HAT.out i x h
        exact⟨(hgo _ (by omega)).trans q0,(hgo _ (by omega)).trans q1,(hgo _ (by omega)).trans q2,A2,m2,(hgo _ (by omega)).trans q3,fR (q4.keep hB8) λb hb=>⟨by omega,by omega⟩⟩)
     have Iw:=Ma.out.c0;have hr1:=Ma.out.c1;clear hk8 hs8 Lz OG hgo ada hB8 hc6 hf6;go_wp2_with fail;obtain⟨wz,rfl⟩:∃wz,wz=w8:=⟨_,rfl⟩
    all_goals
     have Qo:=ac0.out k HE.out rfl FA HX2.out.symm;have VD:=tK c k d;obtain⟨c',hc'⟩:∃c',c'=Js c k d:=⟨_,rfl⟩;have hcn:c'.B3=c.B3:=by rw[hc'];rfl
     have Q3:=Ma.out.ahT;rw[<-hc'] at Q3 Qo VD;have hst:=vL nA (bh ⟨g,0,a7⟩) nc cap c' wz _ (λb hb=>hb.1) (by rw[hcn];exact Ma.out.B3) Q3 (by omega);unfold Cj at hst;rw[hcn,VD] at hst;have HST:=yJ hst;have HC':=yJ hc';have SL:=yJ Qo;have Y2:=yJ (tL HE.out hh4);have ade:=Ma.out.lt;clear hst hc' Qo Q3 Lu Sz Du DO Gt Gu Lj HNB VF YW YY HGV YZ Qk HN HN4 HH Nl HB1 I5 HX1 HX3 HAT HGF HE4 HCF M8 HW HW4 ac0 he0 he1
     refine HST.out.mono ?_;rintro e w9 ⟨rfl,OH,g9,cap9,hg9l,hK9⟩;have hz9:=OH.size;have Mn:∀i,i<5->w9.cell? ⟨w1.heap.size,i,a7⟩=bh (.int .u8 (B7 ls i:Nat)):=λi hi=>(OH.cell (p:=⟨w1.heap.size,i,a7⟩) ade.2.1).trans (Ma.out.given i hi);obtain⟨v0,v1,v2,v3,v4⟩:=JG Mn;have ah5:=yJ Mn;have hn9:w9.heap[w.heap.size+1]?=bh (bq #[a8 bb 0] 3 (0,0)):=(OH.below.block _ (by omega)).trans Ma.out.nb
     have HN9:=yJ hn9;have HK9:=yJ hK9;have HG9:=yJ OH;have hb12:w1.heap.size<w9.heap.size:=by omega
     clear Mn hn9 hK9 OH HST
     try clear Iw hr1
     obtain⟨LB,Qp⟩:∃LB:bl,LB=(w9.alloc (bq #[.int .u8 (B7 ls 0),.int .u8 (B7 ls 1),.int .u8 (B7 ls 2),.int .u8 (B7 ls 3),.int .u8 (B7 ls 4)] 76)).alloc (bq #[.bool b6] 4):=⟨_,rfl⟩;have Qq:Gr w9 LB:=by rw[Qp];exact((Gr.refl w9).alloc _).alloc _
     have Y3:LB.heap.size=w9.heap.size+2:=by rw[Qp];simp
     have KG:LB.heap[w9.heap.size]?=bh (.cells (Qn (B7 ls)) 76 (0,0)):=by
      rw[Qp,heap_alloc_old _ _ (by simp)];exact bk w9 _
     have hsome:LB.heap[w9.heap.size+1]?=bh (bq #[.bool b6] 4 (0,0)):=by
      rw[Qp];have:=bk (w9.alloc (bq #[.int .u8 (B7 ls 0),.int .u8 (B7 ls 1),.int .u8 (B7 ls 2),.int .u8 (B7 ls 3),.int .u8 (B7 ls 4)] 76)) (bq #[.bool b6] 4)
      rwa [AR] at this
     have Y4:Hid (J7 (B7 ls) w9.heap.size (w9.heap.size+1) (w.heap.size+1) a7 LB):=yJ ⟨KG,hsome,(Qq.below.block _ (by omega)).trans HN9.out⟩;obtain⟨T0,Jz⟩:∃T0:Nat->Prop,T0=λb=>b=w9.heap.size\/b=w9.heap.size+1\/b=w.heap.size+1:=⟨_,rfl⟩;have HT0:=yJ Jz;have Q9:∀b,T0 b->b<LB.heap.size:=λb hb=>by rw[Jz] at hb;omega
     have hKT:∀b,(b<wz.heap.size/\b≠w.heap.size+1\/b=wz.heap.size+1\/b=g9)->¬T0 b:=λb hb h=>by
      rw[Jz] at h;have:=HK9.out.lt b hb;omega
     have adh:¬T0 w1.heap.size:=λh=>by rw[Jz] at h;omega
     have Gz:=lZ (wz.heap.size+1) 0 EB LB;have hs:=ky (T0:=T0) (n:=0) (r:=EB) (HK9.out.keep (w':=LB) Qq.size λb o hb=>Qq.cell (p:=⟨b,o,a7⟩) (HK9.out.lt b hb)) Q9 hKT dO;unfold Dr at Gz;have Xp:=yJ Gz;have HS:=yJ hs;have HTL:=yJ Q9;have XO:=yJ hKT;have VJ:=yJ adh;have ah8:=yJ (HG9.out.trans Qq);have ah9:Hid (∀i,i<5->LB.cell? ⟨w1.heap.size,i,a7⟩=bh (.int .u8 (B7 ls i:Nat))):=yJ λi hi=>(Qq.cell (p:=⟨w1.heap.size,i,a7⟩) (by show w1.heap.size<_;omega)).trans (ah5.out i hi)
     have adi:=yJ Qp;have aia:=yJ Y3;clear Qp Gz hs Q9 hKT adh Jz Qq KG hsome Y3;go_wp2_with fail;rw[<-adi.out];refine Xp.out.mono ?_;rintro e w11 ⟨rfl,VK⟩;have hs:=HS.out;rw[<-VK] at hs;have K9:=yJ hs;have adj:Gr LB w11:=by rw[VK];exact(((Gr.refl LB).alloc _).alloc _).alloc _
     have Y5:w11.heap.size=LB.heap.size+3:=by rw[VK];simp
     have VL:=yJ adj;have aib:=yJ Y5;clear hs HS Y5 adj VK Xp adi v0 v1 v2 v3 v4;go_wp2_with fail;have Y3:=aia.out;have Y5:=aib.out;rw[<-cK (n:=0)];have HNL:Hid (0+c.B3.length=c'.B3.length):=yJ (by rw[hcn];omega);have VM:Hid ((∀x∈Cy c.B2.length,c'.has x)/\(Cy c.B2.length).length<=16):=yJ ⟨by rw[<-VD];exact gq SL.out,by rw[<-VD];exact iK SL.out⟩
     refine kU (T0:=T0) (cb:=wz.heap.size+1) (c:=c') (sets:=Cy c.B2.length) (bc:=LB.heap.size) (br:=LB.heap.size+1) (bn:=LB.heap.size+2) (k:=c.B3.length) (n:=0) (r:=EB)
      SL.out VM.out.1 VM.out.2 rfl HNL.out (λ_ _=>rfl) K9.out (λb hb=>yO (HTL.out b hb) VL.out.size) rfl
      (λpre W=>J7 (B7 ls) w9.heap.size (w9.heap.size+1) (w.heap.size+1) (Fq (B7 ls) pre) W) (λ_ _ _=>False)
      (λpre W W' h hk=>by
       have e15:=hk w9.heap.size (by rw[HT0.out];exact .inl rfl);have VN:=hk (w9.heap.size+1) (by rw[HT0.out];exact .inr (.inl rfl));have e9:=hk (w.heap.size+1) (by rw[HT0.out];exact .inr (.inr rfl))
       exact⟨e15.trans h.OE,VN.trans h.is,e9.trans h.cost⟩) (λc pre W W' h _=>h)
      (by
       have h:=Y4.out;have hb:=VL.out.below.block
       exact⟨(hb _ (by omega)).trans h.OE,(hb _ (by omega)).trans h.is,(hb _ (by omega)).trans h.cost⟩) ?_ ?_ (λD j q W _ _ _ h _=>h.elim)
     .intro l pre ρ W hpl JZ EC hl1' hl2';have Ew:∀i,c'.has (ρ i):=iu VM.out.1 _ _ _ dO ρ (hpl.subset (by simp));have Y6:Hid (∀i,ρ i<16):=yJ λi=>rP (by omega) (Ew i);have adk:∀i,i<5->W.cell? ⟨w1.heap.size,i,a7⟩=bh (.int .u8 (B7 ls i:Nat)):=λi hi=>by
       rw[JZ.cell (p:=⟨w1.heap.size,i,a7⟩) (by show w1.heap.size<_;omega) (by rintro(h|h);exact VJ.out h;have h':w1.heap.size=LB.heap.size+1:=h;omega),VL.out.cell (p:=⟨w1.heap.size,i,a7⟩) (by show w1.heap.size<_;omega)];exact ah9.out i hi
      have hzW:=JZ.size;have HI:=yJ EC;obtain⟨W2,hW2⟩:∃W2,W2=W.alloc (bq #[.int .u8 (ρ 0),.int .u8 (ρ 1),.int .u8 (ρ 2),.int .u8 (ρ 3),.int .u8 (ρ 4)] 76):=⟨_,rfl⟩;have HKA:Hid (KT T0 W W2):=yJ (by rw[hW2];exact KT.Dh ((Gr.refl W).alloc _));have LN:Hid (W2.heap[W.heap.size]?=bh (.cells (Qn ρ) 76 (0,0))):=yJ (by rw[hW2];exact bk W _);have HOLD:Hid (∀b,b<W.heap.size->W2.heap[b]?=W.heap[b]?):=yJ λb hb=>by rw[hW2];exact heap_alloc_old _ _ hb
      have hz2:W2.heap.size=W.heap.size+1:=by rw[hW2];simp
      have XS:=yJ hz2;have Rc:=yJ hW2;have adl:=yJ adk;clear hpl JZ EC Ew adk hW2 hz2;unfold Dr
      gi_wp2
      rw[<-Rc.out];refine⟨HKA.out,λo=>?_⟩;clear Rc;have hlD:∀b,b<w11.heap.size->b≠l:=λb hb=>by omega
      have hIc:J7 (B7 ls) w9.heap.size (w9.heap.size+1) (w.heap.size+1) (Fq (B7 ls) pre) (W2.putObj l o):=by
       have h:=HI.out;have e:∀b,b<w11.heap.size->(W2.putObj l o).heap[b]?=W.heap[b]?:=λb hb=>(bw (hlD b hb)).trans (HOLD.out b (by omega));exact⟨(e _ (by omega)).trans h.OE,(e _ (by omega)).trans h.is,(e _ (by omega)).trans h.cost⟩
      have VO:∀i,i<5->(W2.putObj l o).cell? ⟨W.heap.size,i,a7⟩=bh (.int .u8 (ρ i:Nat)):=λi hi=>by
       rw[(E0 (W:=W2.putObj l o) ((bw (by omega)).trans LN.out)).1 i];exact vM ρ hi
      have ZN:∀i,i<5->(W2.putObj l o).cell? ⟨w1.heap.size,i,a7⟩=bh (.int .u8 (B7 ls i:Nat)):=λi hi=>by
       rw[cy (by show w1.heap.size≠l;omega),zd (a:=⟨w1.heap.size,i,a7⟩) (HOLD.out w1.heap.size (by omega))];exact adl.out i hi
      have hz3:(W2.putObj l o).heap.size=W.heap.size+1:=by simp[World.putObj];exact XS.out
      obtain⟨W3,hW3⟩:∃W3,W3=W2.putObj l o:=⟨_,rfl⟩;rw[<-hW3] at hIc VO ZN hz3 ⊢;have HI3:=yJ hIc;have Xq:=yJ VO;have H12:=yJ ZN;have HZ3:=yJ hz3;clear hW3 hIc VO ZN HI LN HOLD adl hz3
      gi_wp2
      gi_loopw [18,84] (λv i wr=>∃(j m:Nat),j<=5/\i=a8 bb j/\v=a8 bb (I7 ρ (B7 ls) j:Nat)/\wr=W3.drewN m) (λ_ i _=>5-(bD i).toNat)
      case atStart=>exact⟨0,0,by omega,rfl,rfl,rfl⟩
      case round =>
       obtain⟨j,m,hj,rfl,rfl,rfl⟩:=hrel;by_cases hj5:j<5
       .have c17:W3.cell? ⟨W.heap.size,j,a7⟩=bh (.int .u8 (ρ j:Nat)):=Xq.out j hj5;have c12:W3.cell? ⟨w1.heap.size,j,a7⟩=bh (.int .u8 (B7 ls j:Nat)):=H12.out j hj5;have hx:=mK ⟨ρ j,Y6.out j⟩ ⟨B7 ls j,Y2.out j⟩;have QP:=oP (a:=ρ) (b:=B7 ls) (λi hi=>(mK ⟨ρ i,Y6.out i⟩ ⟨B7 ls i,Y2.out i⟩).2) j hj;have HFS:Hid (I7 ρ (B7 ls) (j+1)=I7 ρ (B7 ls) j+(wl (ρ j ^^^ B7 ls j)).length):=yJ rfl
        have SH:=oO ⟨ρ j ^^^ B7 ls j,hx.2⟩;have HSZ:=yJ (λw=>xu (ρ j ^^^ B7 ls j) w hx.2);simp only at hx SH;obtain⟨hx1,hx2⟩:=hx;generalize ρ j ^^^ B7 ls j=X at hx1 hx2 SH HSZ HFS;generalize ρ j=x at c17 hx1;generalize B7 ls j=y at c12 hx1;generalize I7 ρ (B7 ls) j=q at QP HFS;generalize (wl X).length=L at HFS SH HSZ
        gi_wp2
        refine fo (F:=Fence.wide) rfl (by kernel_rfl) (by kernel_rfl) (by kernel_rfl) ?_
        repeat (gi_big_quiet_step (fail))
        refine wpQuietIn_step (λw _ f _=>trivial) (λK hK=>?_);go_simp;apply Exists.intro;refine⟨λ_=>?_,hK _ ?_⟩
        .exact⟨rfl,(callsIn_wide.2 (HSZ.out _)).mono λe w' h=>⟨h.1,_,h.2.symm⟩⟩
        clear hK K
        repeat (gi_big_quiet_step (fail))
        refine wpQuietIn_nil ?_;intro _ hw';obtain⟨nq,hw''⟩:=hw';subst hw''
        gi_wp2
        go_roundw
        case rel=>exact⟨j+1,m+nq,by omega,by go_num,by rw[HFS.out];first|rfl|(congr 1;omega),rfl⟩
        case measure=>simp[Proofs.intOf];omega
       .have aif:j=5:=by omega
        subst aif;have HI4:=HI3.out;have HF5:=oP (a:=ρ) (b:=B7 ls) (λi hi=>(mK ⟨ρ i,Y6.out i⟩ ⟨B7 ls i,Y2.out i⟩).2) 5 (yL _);have Y7:=yJ (jT (B7 ls) pre ρ);obtain⟨nb0,nb1,nb2⟩:=one_cell HI4.is;obtain⟨nc0,nc1,JQ⟩:=one_cell HI4.cost;obtain⟨Qr,Xr,nd2⟩:=E0 HI4.OE;have p0:=Xq.out 0 (by omega);have p1:=Xq.out 1 (by omega);have p2:=Xq.out 2 (by omega);have p3:=Xq.out 3 (by omega)
        have p4:=Xq.out 4 (by omega);have d0:=Qr 0;have d1:=Qr 1;have d2:=Qr 2;have d3:=Qr 3;have d4:=Qr 4;have f0:=Xr 0;have f1:=Xr 1;have f2:=Xr 2;have f3:=Xr 3;have f4:=Xr 4;generalize Fq (B7 ls) pre=o' at nb0 nc0 d0 d1 d2 d3 d4 Y7 HI3;simp only[Qn,zA,zr,zz] at d0 d1 d2 d3 d4;clear HI4 Qr Xr;have YR:Hid (T0 w9.heap.size/\T0 (w9.heap.size+1)/\T0 (w.heap.size+1)):=yJ (by rw[HT0.out];exact⟨.inl rfl,.inr (.inl rfl),.inr (.inr rfl)⟩)
        have PS:KT T0 W3 (W3.drewN m):=KT.Dh ((Gr.refl W3).drewN m);have HKD:=yJ PS;have hw9:w.heap.size+1<w9.heap.size:=by omega
        clear PS;obtain⟨q5,hq5⟩:∃q,q=I7 ρ (B7 ls) 5:=⟨_,rfl⟩;rw[<-hq5] at HF5 Y7 ⊢;clear hq5;have HP:=yJ ((HI3.out.drewN m).put (by omega) (by omega) (by omega) ρ q5 T0 YR.out.1 YR.out.2.1 YR.out.2.2);cases o' with
        |none =>
         gi_wp2
         refine⟨HKD.out.trans HP.out.2,?_⟩;show J7 _ _ _ _ (Fq _ (pre++[ρ])) _;rw[Y7.out];exact HP.out.1
        |some p =>
         obtain⟨p1,n0⟩:=p;simp only[cE,VE] at nb0 nc0;by_cases hlt:q5<n0
         .have Q2:(q5:Int)<(n0:Int):=by omega
          gi_wp2
          refine⟨HKD.out.trans HP.out.2,?_⟩;show J7 _ _ _ _ (Fq _ (pre++[ρ])) _;rw[Y7.out];simp only[if_pos hlt];exact HP.out.1
         .have Q2:¬(q5:Int)<(n0:Int):=by omega
          gi_wp2
          refine⟨HKD.out,?_⟩;show J7 _ _ _ _ (Fq _ (pre++[ρ])) _;rw[Y7.out];simp only[if_neg hlt];exact HI3.out.drewN m
     .intro D W hD JZ hi hd;have hw9:w.heap.size+1<w9.heap.size:=by omega
      have hGW:Gr w W:=KT.gr (T:=λb=>T0 b\/b=LB.heap.size+1) (Ma.out.gr.trans (ah8.out.trans VL.out)) JZ (by
       rintro b (h|h)
       .rw[HT0.out] at h;omega
       .omega)
      have hzW:=JZ.size;have HNR:Hid (Fq (B7 ls) (Cv (Js c k d) (Cy c.B2.length) c.B3.length EB 0)=Fq (B7 ls) (Cv c' (Cy c.B2.length) c.B3.length EB 0)):=yJ (by rw[HC'.out]);have GV:∀p,Fq (B7 ls) (Cv c' (Cy c.B2.length) c.B3.length EB 0)=bh p->∀i,i<5->p.1 i<16:=λp hp i _ =>
       rP (by omega) (iu VM.out.1 _ _ _ dO p.1 (rq _ _ p rfl hp) i)
      obtain⟨o',Oh⟩:∃o',o'=Fq (B7 ls) (Cv c' (Cy c.B2.length) c.B3.length EB 0):=⟨_,rfl⟩;rw[<-Oh] at GV HNR hi;have HNR2:=yJ Oh
      have Xs:Hid (∀e w',Gr w w'->(match o' with
       |none=>e=.returned (.tuple #[.slice a7 0 0,a8 bb 0,a8 bb 11])
       |some p=>∃A k,e=.returned (.tuple #[a6 A c.B3.length k,a8 bb p.2,a8 bb 0])/\Da w' w'.heap.size A (CG p.1 c.B3.length))->ju c ls k d w e w'):=yJ λe w' hg h=>by
        refine⟨hg,?_⟩;rw[if_neg (by simp[HE.out]),if_neg (by rw[show Ez (k:Int) 0 (c.B2.length-1)=df by unfold Ez;simp;omega,<-HX2.out];simp),show((k:Int)).toNat=k from rfl,HNR.out];exact h
      have hcc:W.cell? ⟨wz.heap.size+1,0,a7⟩=bh (a6 nA c.B3.length nc):=by
       rw[JZ.cell (p:=⟨wz.heap.size+1,0,a7⟩) (by show wz.heap.size+1<_;omega) (by rintro(h|h);exact XO.out _ (.inr (.inl rfl)) h;have h':wz.heap.size+1=LB.heap.size+1:=h;omega)];have:=K9.out.Ek.c0
       rwa [hcn] at this
      obtain⟨nb0,nb1,nb2⟩:=one_cell hi.is;obtain⟨nc0,nc1,JQ⟩:=one_cell hi.cost;obtain⟨Qr,Xr,nd2⟩:=E0 hi.OE;have Iu:=yJ hGW;have HDD:=yJ hd;have hD9:D≠w.heap.size+1:=by omega
      have aii:wz.heap.size+1<W.heap.size:=by omega
      have VP:=yJ GV;clear JZ hi hGW hd Oh GV;cases o' with
      |none =>
       have HDS:Hid ((W.setCell ⟨w.heap.size+1,0,a7⟩ (a8 bb 0)).heap[D]?=bh (.deferred (bh []))):=yJ ((yU _ _ _ _ hD9).trans HDD.out);go_wp2;refine dR HDS.out (v:=.tuple #[.slice a7 0 0,a8 bb 0,a8 bb 11]) ?_ (Xs.out _ _ ((Iu.out.setCell (by show _<=w.heap.size+1;omega) _).putObj (by omega) _) rfl);have:=cy (W:=W.setCell ⟨w.heap.size+1,0,a7⟩ (a8 bb 0)) (D:=D) (o:=.deferred a7) (p:=⟨w.heap.size+1,0,a7⟩) (Ne.symm hD9)
       rw[yW _ _ _ nc0] at this;simp[results,bA,go_sem,this]
      |some p =>
       obtain⟨p1,n0⟩:=p;have HL:=yJ (oH (wz.heap.size+1) nA c.B3.length nc p1 W.drew aii hcc Mr (VP.out _ rfl));have d0:=Qr 0;have d1:=Qr 1;have d2:=Qr 2;have d3:=Qr 3;have d4:=Qr 4;simp only[Qn,acZ,zA,zr,zz] at d0 d1 d2 d3 d4;simp only[cE,VE] at nb0 nc0;unfold Dr at HL;clear Qr Xr;go_wp2;refine lP ?_;go_region_with (first|(go_at_call 56;refine HL.out.mono ?_;rintro e w3 ⟨A3,c3,xs3,rfl,Fg,hg3⟩;have q0:=(hg3.cell (p:=⟨w.heap.size+1,0,a7⟩) (by show w.heap.size+1<W.heap.size;omega)).trans nc0;have q1:=(hg3.frozen (p:=⟨w.heap.size+1,0,a7⟩) (by show w.heap.size+1<W.heap.size;omega)).trans nc1;have Gu:=yJ hg3;have PF:=yJ Fg;clear hg3 Fg))
       all_goals
        go_wp2;have hz3:=Gu.out.size;have hz3':W.heap.size<=w3.heap.size:=hz3;have hD3:(w3.setCell ⟨w.heap.size+1,0,a7⟩ (a8 bb (n0:Nat))).heap[D]?=bh (.deferred (bh [])):=(yU _ _ _ _ hD9).trans ((Gu.out.below.block D (yK.1 HDD.out).1).trans HDD.out);have aij:Ce ((w3.setCell ⟨w.heap.size+1,0,a7⟩ (a8 bb (n0:Nat))).putObj D (.deferred a7)) (W.drew.heap.size+1) (a6 A3 c.B3.length c3) (CG p1 c.B3.length) xs3:=PF.out.keep' λb hb hl=>by
         have hDl:=(yK.1 HDD.out).1;have hb':W.heap.size+1<=b:=hb;rw[bw (by omega),yU _ _ _ _ (by show b≠w.heap.size+1;omega)]
        obtain⟨A4,c4,e4,aik⟩:=aij.K5;rw[CZ] at e4;refine dR hD3 (v:=.tuple #[a6 A3 c.B3.length c3,a8 bb (n0:Nat),a8 bb 0]) ?_ (Xs.out _ _ (((Iu.out.drew.trans Gu.out).setCell (by show _<=w.heap.size+1;omega) _).putObj (by omega) _) ⟨A4,c4,by rw[e4],aik⟩);have:=cy (W:=w3.setCell ⟨w.heap.size+1,0,a7⟩ (a8 bb (n0:Nat))) (D:=D) (o:=.deferred a7) (p:=⟨w.heap.size+1,0,a7⟩) (Ne.symm hD9)
        rw[yW _ _ _ q0] at this;simp[results,bA,go_sem,this]
 .rw[if_neg hE] at hf;obtain⟨p,r,rfl⟩:=hf;have HE:=yJ hE;obtain⟨q,hq⟩:∃q,q=Cg c ls:=⟨_,rfl⟩;rw[<-hq] at hE ⊢;have HQ:=yJ hq;have hqe:(q != 0)=true:=by simp[hE]
  obtain⟨Ld,G6,LK⟩:=one_cell VF.out;have HX:=yJ (show Gr w (w1.alloc (bq #[.int .u8 (r 0),.int .u8 (r 1),.int .u8 (r 2),.int .u8 (r 3),.int .u8 (r 4)] 76)) from Gt.out.alloc _);clear hE hq hg1 Iq;unfold Dr;go_wp2;have hres:((w1.setCell ⟨w.heap.size+1,0,a7⟩ (a8 bb 0)).alloc (bq #[.int .u8 (r 0),.int .u8 (r 1),.int .u8 (r 2),.int .u8 (r 3),.int .u8 (r 4)] 76)).cell? ⟨w.heap.size+1,0,a7⟩=bh (a8 bb 0):=by
   rw[za _ _ _ (by simp[bs];exact LK)];exact yW _ _ _ Ld
  refine fI (v:=.tuple #[.slice a7 0 0,a8 bb 0,a8 bb q]) (by simp[results,bA,go_sem,hres]) ⟨(Gt.out.setCell (by show _<=w.heap.size+1;omega) _).alloc _,?_⟩;rw[if_pos HE.out,HQ.out]
def cV (A A':Option b9)(c c':Nat)(l m:List Int)(w:bl)(B:Nat)(hB:B<=w.heap.size)(h:RI w B A l)(h':RI w B A' m)(hl:l.length<=4611686018427387904)(hm:m.length<=4611686018427387904) :
  bW B1 26 #[a6 A l.length c,a6 A' m.length c'] w λe w'=>e=.returned (.bool (bo (l=m)))/\Gr w w':=by
 have HR:=yJ h;have HR':=yJ h';go_enter Sq.func26,Tryz.ntmps26;by_cases hlen:l.length=m.length
 .go_wp2;go_loopw [5] (λi wr=>∃k:Nat,k<=l.length/\i=a8 bb k/\l.take k=m.take k/\Gr w wr) (λi _=>l.length-(bD i).toNat)
  case atStart=>exact⟨0,by omega,rfl,by simp,.refl _⟩
  case round =>
   obtain⟨k,hk,rfl,heq,hg⟩:=hrel;have HG:=yJ hg;have HE:=yJ heq;by_cases hlt:k<l.length
   .obtain⟨b,o,rfl,hb,hc⟩:=(HR.out.gr hB HG.out).at_ hlt;obtain⟨b',o',rfl,hb',hc'⟩:=(HR'.out.gr hB HG.out).at_ (show k<m.length by omega);have HD:=yJ (uY l m k hlt (by omega));generalize l[k]?.getD 0=x at hc HD;generalize m[k]?.getD 0=y at hc' HD;by_cases h1:x=y
    .have HS:=yJ (HD.out.1 HE.out h1);subst h1;clear HD;go_wp2;go_region;go_wp2;go_roundw
     case rel=>exact⟨k+1,by omega,by go_num,HS.out,HG.out.drew⟩
     case measure=>simp[Proofs.intOf];omega
    .have HS:=yJ (HD.out.2 h1);have hne:bo (x≠y)=true:=by simp[h1]
     go_wp2;go_region;go_wp2;go_ret;exact⟨ap (by simp[HS.out]),HG.out.drew⟩
   .have FA:k=l.length:=by omega
    have HS:=yJ (show l=m by have:=HE.out;rw[FA,zi (by omega),zi (by omega)] at this;exact this);go_wp2;go_ret;exact⟨ap (by simp[HS.out]),HG.out⟩
 .have hne:l≠m:=λe=>hlen (by rw[e]);have HN:=yJ hne;go_wp2;go_ret;exact⟨ap (by simp[HN.out]),.refl _⟩
def fJ (A A':Option b9)(c c':Nat)(l m:List (List Int))(w:bl)(B:Nat)(hB:B<=w.heap.size)(h:Da w B A l)(h':Da w B A' m)(hl:l.length<=4611686018427387904)(hm:m.length<=4611686018427387904)
  (hl2:∀x∈l,x.length<=4611686018427387904) (NM:∀x∈m,x.length<=4611686018427387904) :
  bW B1 18 #[a6 A l.length c,a6 A' m.length c'] w λe w'=>e=.returned (.bool (bo (l=m)))/\Gr w w':=by
 have HR:=yJ h;have HR':=yJ h';have HL2:=yJ hl2;have Sw:=yJ NM;clear h h' hl2 NM;go_enter Sq.func18,Tryz.ntmps18;by_cases hlen:l.length=m.length
 .rw[<-hlen];have HLEN:=yJ hlen;clear hlen;have JE:∀k,k<l.length->k<m.length:=λk hk=>by have:=HLEN.out;omega
  have HMK:=yJ JE;clear JE;go_wp2;go_loopw [5] (λi wr=>∃k:Nat,k<=l.length/\i=a8 bb k/\l.take k=m.take k/\Gr w wr) (λi _=>l.length-(bD i).toNat)
  case atStart=>exact⟨0,by omega,rfl,by simp,.refl _⟩
  case round =>
   obtain⟨k,hk,rfl,heq,hg⟩:=hrel;have HG:=yJ hg;have HE:=yJ heq;clear hg heq;by_cases hlt:k<l.length
   .obtain⟨b,o,A1,c1,rfl,hb,hc,hr⟩:=(HR.out.gr hB HG.out).at_ hlt;obtain⟨b',o',A2,c2,rfl,hb',hc',NJ⟩:=(HR'.out.gr hB HG.out).at_ (HMK.out k hlt);have HD:=yJ (tt l m k hlt (HMK.out k hlt));have hx:=HL2.out _ (gp l k hlt);have hy:=Sw.out _ (gp m k (HMK.out k hlt));generalize l[k]?.getD []=x at hc HD hr hx;generalize m[k]?.getD []=y at hc' HD NJ hy;have hsz:=HG.out.size;have Ha:Hid (∀q,q=wr\/q=wr.drew->bW B1 26 #[a6 A1 x.length c1,a6 A2 y.length c2] q λe w'=>e=.returned (.bool (bo (x=y)))/\Gr q w'):=yJ λq hq=>by
     rcases hq with rfl|rfl
     .exact cV A1 A2 c1 c2 x y _ B (by omega) hr NJ hx hy
     .exact cV A1 A2 c1 c2 x y _ B (by show B<=wr.heap.size;omega) hr NJ hx hy
    clear hr NJ hx hy;by_cases h1:x=y
    .have HS:=yJ (HD.out.1 HE.out h1);have HC2:Hid (∀q,q=wr\/q=wr.drew->bW B1 26 #[a6 A1 x.length c1,a6 A2 y.length c2] q λe w'=>e=.returned (.bool df)/\Gr q w'):=yJ λq hq=>(Ha.out q hq).mono λe w' h=>⟨h.1.trans (ap (by simp[h1])),h.2⟩;clear h1 HD Ha;go_wp2;go_region_with (first|(go_at_call 26;refine(HC2.out _ (by first|exact Or.inl rfl|exact Or.inr rfl)).mono ?_;rintro e w3 ⟨rfl,hg3⟩;have q0:=(hg3.cell (p:=⟨b,o+k,a7⟩) (by show b<wr.heap.size;omega)).trans hc;have q1:=(hg3.cell (p:=⟨b',o'+k,a7⟩) (by show b'<wr.heap.size;omega)).trans hc';have Gu:=yJ (show Gr w w3 from(by first|exact HG.out.trans hg3|exact HG.out.drew.trans hg3));clear hg3))
     all_goals
      go_wp2;go_roundw
      case rel=>exact⟨k+1,by omega,by go_num,HS.out,Gu.out⟩
      case measure=>simp[Proofs.intOf];omega
    .have HS:=yJ (HD.out.2 h1);have HC2:Hid (∀q,q=wr\/q=wr.drew->bW B1 26 #[a6 A1 x.length c1,a6 A2 y.length c2] q λe w'=>e=.returned (.bool b6)/\Gr q w'):=yJ λq hq=>(Ha.out q hq).mono λe w' h=>⟨h.1.trans (ap (by simp[h1])),h.2⟩;clear h1 HD Ha;go_wp2;go_region_with (first|(go_at_call 26;refine(HC2.out _ (by first|exact Or.inl rfl|exact Or.inr rfl)).mono ?_;rintro e w3 ⟨rfl,hg3⟩;have q0:=(hg3.cell (p:=⟨b,o+k,a7⟩) (by show b<wr.heap.size;omega)).trans hc;have q1:=(hg3.cell (p:=⟨b',o'+k,a7⟩) (by show b'<wr.heap.size;omega)).trans hc';have Gu:=yJ (show Gr w w3 from(by first|exact HG.out.trans hg3|exact HG.out.drew.trans hg3));clear hg3))
     all_goals
      go_wp2;go_ret;exact⟨ap (by simp[HS.out]),Gu.out⟩
   .have FA:k=l.length:=by omega
    have HS:=yJ (show l=m by have:=HE.out;rw[FA,zi (by omega),zi (by have:=HLEN.out;omega)] at this;exact this);clear FA;go_wp2;go_ret;exact⟨ap (by simp[HS.out]),HG.out⟩
 .have hne:l≠m:=λe=>hlen (by rw[e]);have HN:=yJ hne;clear hne;go_wp2;go_ret;exact⟨ap (by simp[HN.out]),.refl _⟩
structure Hand (w:bl)(hb B:Nat)(A:Option b9)(cap:Nat)(l:List Int)(N:Nat):Prop where
 obj:∃n:Nat,∃s:Int,w.heap[hb]?=bh (bq #[a6 A l.length cap,a8 bb n,.int .u64 s] 67 (0,0))/\n<=N
 Qu:RI w B A l
 apart:B<=hb
def Hand.lt {w:bl}{hb B:Nat}{A:Option b9}{cap:Nat}{l:List Int}{N:Nat}(h:Hand w hb B A cap l N):hb<w.heap.size:=by
 obtain⟨n,s,h1,_⟩:=h.obj;exact(yK.1 h1).1
def Hand.more {w:bl}{hb B:Nat}{A:Option b9}{cap:Nat}{l:List Int}{N M:Nat}(h:Hand w hb B A cap l N)(hm:N<=M):Hand w hb B A cap l M:=by
 obtain⟨n,s,h1,h2⟩:=h.obj;exact⟨⟨n,s,h1,by omega⟩,h.Qu,h.apart⟩
def Hand.gr {w w':bl}{hb B:Nat}{A:Option b9}{cap:Nat}{l:List Int}{N:Nat}(h:Hand w hb B A cap l N)(hg:Gr w w'):Hand w' hb B A cap l N:=by
 have hl:=h.lt;obtain⟨n,s,h1,h2⟩:=h.obj;exact⟨⟨n,s,(hg.below.block hb hl).trans h1,h2⟩,h.Qu.gr (by have:=h.apart;omega) hg,h.apart⟩
abbrev KH (hb:Nat)(w w':bl):Prop:=KT (·=hb) w w'
def kh (x y:Int):0<=bits BinOp.xor IntKind.u64 x y:=by
 unfold bits cU;have h:IntKind.u64.signed=false:=rfl;simp only[h,Aa,zg,if_false];exact cu _ (by decide)
def xB (hb B:Nat)(A:Option b9)(cap:Nat)(l:List Int)(N:Nat)(w:bl)(h:Hand w hb B A cap l N)(hN:N<=1048576) :
  bW B1 69 #[.pointer (bh ⟨hb,0,a7⟩)] w λe w'=>(∃v:Int,e=.returned (.int .u64 v)/\0<=v)/\Hand w' hb B A cap l (N+1)/\KH hb w w':=by
 obtain⟨n,s,Er,hn⟩:=h.obj;have HH:=yJ h;have c0:w.cell? ⟨hb,0,a7⟩=bh (a6 A l.length cap):=by unfold cr;rw[Er];rfl
 have c1:w.cell? ⟨hb,1,a7⟩=bh (a8 bb n):=by unfold cr;rw[Er];rfl
 have c2:w.cell? ⟨hb,2,a7⟩=bh (.int .u64 s):=by unfold cr;rw[Er];rfl
 have f1:w.frozen? ⟨hb,1,a7⟩=false:=by unfold cF;rw[Er];rfl
 have f2:w.frozen? ⟨hb,2,a7⟩=false:=by unfold cF;rw[Er];rfl
 have HO:=yJ Er;clear h Er;have key : ∀ (v x y : Int) (W : bl), W.heap = ((w.setCell ⟨hb, 1, a7⟩ (a8 bb (n + 1 : Nat))).setCell ⟨hb, 2, a7⟩ (.int .u64 y)).heap -> W.os = w.os -> W.tape = w.tape -> W.output = w.output -> w.drawn <= W.drawn -> 0 <= v ->
   (∃v':Int,b7 (.int .u64 v)=.returned (.int .u64 v')/\0<=v')/\Hand W hb B A cap l (N+1)/\KH hb w W:=λv x y W hW e1 e2 e3 e4 hv=>by
  have hB:=HH.out.apart;have hlt:=HH.out.lt;have Iz:∀b,b≠hb->W.heap[b]?=w.heap[b]?:=λb hne=>by
   rw[hW,yU _ _ _ _ hne,yU _ _ _ _ hne]
  refine⟨⟨v,rfl,hv⟩,⟨⟨n+1,y,?_,by omega⟩,HH.out.Qu.keep λb o hb'=>zd (Iz b (by omega)),hB⟩,⟨e1,e2,e3,e4,?_,λb _ hne=>Iz b hne⟩⟩
  .rw[hW];exact Cz (Cz HO.out)
  .rw[hW];simp[bs]
 have HKEY:=yJ key;clear key;go_enter Sq.func69,Tryz.ntmps69;by_cases hlt:n<l.length
 .obtain⟨b,o,rfl,hb',Jj⟩:=HH.out.Qu.at_ hlt;generalize l[n]?.getD 0=x at Jj;go_wp2;go_region
  all_goals
   go_wp2;go_region
   all_goals
    go_wp2;go_ret;refine HKEY.out _ 0 _ _ rfl rfl rfl rfl (by simp[dn,bs]<;>omega) ?_;exact cw (kh _ _) (by omega)
 .go_wp2;go_region
  all_goals
   go_wp2;go_ret;refine HKEY.out _ 0 _ _ rfl rfl rfl rfl (by simp[dn,bs]<;>omega) ?_;exact cw (kh _ _) (by omega)
def iy (hb B:Nat)(A:Option b9)(cap:Nat)(l:List Int)(N:Nat)(m:Int)(w:bl)(h:Hand w hb B A cap l N)(hN:N<=1048576)(hm:m<=1048576) :
  bW B1 29 #[.pointer (bh ⟨hb,0,a7⟩),a8 bb m] w λe w'=>(∃k:Nat,e=.returned (a8 bb k)/\((k:Int)<=m\/k=0))/\Hand w' hb B A cap l (N+1)/\KH hb w w':=by
 have HP:=yJ (xB hb B A cap l N w h hN);have HH:=yJ h;go_enter Sq.func29,Tryz.ntmps29;by_cases hm0:m<=0
 .go_wp2;go_ret;exact⟨⟨0,rfl,.inr rfl⟩,HH.out.more (by omega),KT.refl _ _⟩
 .go_wp2_with fail;refine HP.out.mono ?_;rintro e w' ⟨⟨v,rfl,hv⟩,hh,hk⟩;have LF:=yJ hh;have HK:=yJ hk;have h1:IntKind.u64.wrap (m+1)=m+1:=by simp[cU,IntKind.bits,IntKind.signed];omega
  have h2:v % (m+1)<m+1:=Int.emod_lt_of_pos _ (by omega);have h3:0<=v % (m+1):=cu _ (by omega);go_wp2;go_ret;obtain⟨k,hk⟩:∃k:Nat,v % (m+1)=k:=⟨(v % (m+1)).toNat,by omega⟩;exact⟨⟨k,by show b7 (a8 bb (v % (m+1)))=_;rw[hk],.inl (by omega)⟩,LF.out,HK.out⟩
def eE (hb B:Nat)(A:Option b9)(cap:Nat)(l:List Int)(N:Nat)(lo hi:Int)(w:bl)(h:Hand w hb B A cap l N)(hN:N<=1048576)(h1:0<=lo/\lo<=1048576)(h2:lo<=hi/\hi<=1048576) :
  bW B1 27 #[.pointer (bh ⟨hb,0,a7⟩),a8 bb lo,a8 bb hi] w λe w'=>(∃k:Nat,e=.returned (a8 bb k)/\lo<=k/\(k:Int)<=hi)/\Hand w' hb B A cap l (N+1)/\KH hb w w':=by
 have HP:=yJ (iy hb B A cap l N (hi-lo) w h hN (by omega));go_enter Sq.func27,Tryz.ntmps27;go_wp2_with fail;refine HP.out.mono ?_;rintro e w' ⟨⟨k,rfl,hk⟩,hh,Ex⟩;have LF:=yJ hh;have HK:=yJ Ex;go_wp2;go_ret;obtain⟨q,hq⟩:∃q:Nat,lo+k=q:=⟨(lo+k).toNat,by omega⟩;exact⟨⟨q,by show b7 (a8 bb (lo+k))=_;rw[hq],by omega,by omega⟩,LF.out,HK.out⟩
def mN (hb B:Nat)(A A2:Option b9)(cap c2:Nat)(l m:List Int)(N:Nat)(x:Int)(w:bl)(h:Hand w hb B A cap l N)(hN:N<=1048576)(hm:m.length<=1048576)(Em:Hb w (λb=>b≠hb/\b<w.heap.size) A2 m) :
  bW B1 28 #[.pointer (bh ⟨hb,0,a7⟩),a8 bb x,a6 A2 m.length c2] w λe w'=>(∃k:Int,e=.returned (a8 bb k)/\k∈x::m)/\Hand w' hb B A cap l (N+1)/\KH hb w w':=by
 have HP:=yJ (iy hb B A cap l N m.length w h hN (by omega));have HR:=yJ Em;go_enter Sq.func28,Tryz.ntmps28;go_wp2_with fail;refine HP.out.mono ?_;rintro e w' ⟨⟨k,rfl,hk⟩,hh,Ex⟩;have LF:=yJ hh;have HK:=yJ Ex;by_cases IG:k=0
 .subst IG;clear hh Ex HP;go_wp2;go_ret;exact⟨⟨x,rfl,Ac⟩,LF.out,HK.out⟩
 .have hkm:k-1<m.length:=by omega
  obtain⟨b,o,rfl,hb2,Jj⟩:=HR.out (λe=>by rw[e] at hkm;simp at hkm);have hc:=Jj (k-1) _ (yM hkm);have hc2:w'.cell? ⟨b,o+(k-1),a7⟩=bh (a8 bb m[k-1]):=(zd (Ex.block b hb2.2 hb2.1)).trans hc;have VP:Hid (m[k-1]∈x::m):=yJ (Aj _ (zx hkm));generalize m[k-1]=y at hc2 VP;have e1:((k:Int)-1)=((k-1:Nat):Int):=by omega
  obtain⟨q,hq⟩:∃q,q=k-1:=⟨_,rfl⟩;rw[<-hq] at hc2 e1 hkm;obtain rfl:k=q+1:=by omega
  clear hh Ex HP Jj hc IG hq e1;have e2:((q+1:Nat):Int)-1=(q:Int):=by omega
  go_wp2;go_ret;exact⟨⟨y,rfl,VP.out⟩,LF.out,HK.out⟩
def mO (hb B:Nat)(A:Option b9)(cap:Nat)(l:List Int)(N:Nat)(a b:Int)(w:bl)(h:Hand w hb B A cap l N)(hN:N<=1048576)(hb1:0<=b/\b<=1048576) :
  bW B1 30 #[.pointer (bh ⟨hb,0,a7⟩),a8 bb a,a8 bb b] w λe w'=>(∃v:Bool,e=.returned (.bool v))/\Hand w' hb B A cap l (N+1)/\KH hb w w':=by
 have HP:=yJ (iy hb B A cap l N (b-1) w h hN (by omega));go_enter Sq.func30,Tryz.ntmps30;go_wp2_with fail;refine HP.out.mono ?_;rintro e w' ⟨⟨k,rfl,hk⟩,hh,Ex⟩;have LF:=yJ hh;have HK:=yJ Ex;go_wp2;go_ret;exact⟨⟨_,rfl⟩,LF.out,HK.out⟩
def rV (A:Option b9)(cap:Nat)(l:List Int)(w:bl)(h:RI w w.heap.size A l) :
  bW B1 7 #[a6 A l.length cap] w λe w'=>e=.returned (.pointer (bh ⟨w.heap.size,0,a7⟩))/\Hand w' w.heap.size w.heap.size A cap l 0/\Gr w w':=by
 have HR:=yJ h;go_enter Sq.func7,Tryz.ntmps7;go_wp2;go_ret;exact⟨rfl,⟨⟨0,88172645463325252,bk _ _,yL _⟩,HR.out.gr (yL _) ((Gr.refl w).alloc _),yL _⟩,(Gr.refl w).alloc _⟩
def Cr (p:Nat->Bool)(k:Nat):List Int:=((List.range k).filter p).map λn:Nat=>(n:Int)
def iz {p q:Nat->Bool}{k:Nat}(h:∀i,i<k->p i=q i):Cr p k=Cr q k:=by
 unfold Cr;congr 1;exact List.filter_congr λi hi=>h i (zB.1 hi)
def i8 (p:Nat->Bool)(k:Nat):Cr p (k+1)=Cr p k++if p k=df then[(k:Int)] else[]:=by
 unfold Cr;rw[AY,AK,AZ];cases h:p k<;>simp[h]
def Ea {p:Nat->Bool}{k:Nat}{x:Int}:x∈Cr p k↔∃n:Nat,x=n/\n<k/\p n=true:=by
 unfold Cr;simp only[zu,AE,zB];constructor
 .rintro⟨n,⟨h1,h2⟩,rfl⟩;exact⟨n,rfl,h1,h2⟩
 .rintro⟨n,rfl,h1,h2⟩;exact⟨n,⟨h1,h2⟩,rfl⟩
def eu (p:Nat->Bool)(k:Nat):(Cr p k).length<=k:=by
 unfold Cr;rw[zy];exact yR (AF _ _) (by simp)
def ew (p:Nat->Bool)(k:Nat):(Cr p k).Pairwise (·<·):=by
 unfold Cr;rw[List.pairwise_map];exact(List.Pairwise.filter _ List.pairwise_lt_range).imp λh=>by omega
def rW (p:Nat->Bool)(k:Nat):Dw (Cr p k) k=0:=by
 rw[li];intro i hi;have h1:=Ea.1 (EK (Cr p k) i hi);obtain⟨n,e,hn,_⟩:=h1;unfold En;rw[if_pos (by rw[e];omega),if_neg];rintro⟨h0,hle⟩;have:=List.pairwise_iff_getElem.1 (ew p k) (i-1) i (by omega) hi (by omega);rw[yM hi,yM (by omega)] at hle;simp only[zc] at hle;omega
def Ec {w2 w3:bl}{base size n:Nat}{e:dr}{v:cf}{xs:List cf}{o:Obj}(hown:w2.ownsRow base e size v n xs)(hg:(w2.alloc o).grownBy w3 v.ownBlock)(b:Nat)(hb:b<base)(hl:b<w2.heap.size):w3.heap[b]?=w2.heap[b]?:=by
 rw[hg.block b (by simp;omega) (ef hown hb),heap_alloc_old _ _ hl]
def gw {w2 w3:bl}{v:cf}{o:Obj}(hg:(w2.alloc o).grownBy w3 v.ownBlock):w2.heap.size+1<=w3.heap.size:=by have:=hg.size;simpa using this
def fh {w0 w2 w3:bl}{hb base size n:Nat}{e:dr}{v:cf}{xs:List cf}{o:Obj}(hK:KT (·=hb) w0 w2)(hown:w2.ownsRow base e size v n xs)(hbase:w0.heap.size<=base)(hg:(w2.alloc o).grownBy w3 v.ownBlock)(hd:(w2.alloc o).drawn<=w3.drawn):KT (·=hb) w0 w3 :=
 ⟨hg.os.trans hK.os,hg.tape.trans hK.tape,hg.output.trans hK.output,yR hK.drawn hd,by have:=gw hg;have:=hK.size;omega,λb hb' hne=>(Ec hown hg b (by omega) (by have:=hK.size;omega)).trans (hK.block b hb' hne)⟩
def dH {w2 w3:bl}{hb B cap N base size n:Nat}{A:Option b9}{l:List Int}{e:dr}{v:cf}{xs:List cf}{o:Obj}(h:Hand w2 hb B A cap l N)(hown:w2.ownsRow base e size v n xs)(hbase:hb<base)(hg:(w2.alloc o).grownBy w3 v.ownBlock):Hand w3 hb B A cap l N:=by
 have hl:=h.lt;obtain⟨m,s,ho,hm⟩:=h.obj;exact⟨⟨m,s,(Ec hown hg hb hbase hl).trans ho,hm⟩,h.Qu.keep λb o hb'=>zd (Ec hown hg b (by have:=h.apart;omega) (by have:=h.apart;omega)),h.apart⟩
def mP {w w':bl}{base size n hb:Nat}{v:cf}{e:dr}{xs:List cf}(h:w.ownsRow base e size v n xs)(hb':hb<base)(k:KT (·=hb) w w'):w'.ownsRow base e size v n xs :=
 al h λg hg hl=>k.block g hl λe=>by have:=(h.lt g hg).1;omega
def xC (hb B:Nat)(A:Option b9)(cap:Nat)(l:List Int)(N n:Nat)(w:bl)(h:Hand w hb B A cap l N)(hN:N<=1000000)(hn:n<=64) :
  bW B1 71 #[.pointer (bh ⟨hb,0,a7⟩),a8 bb n] w λe w'=>∃v p,e=.returned v/\w'.ownsRow w.heap.size 3 1 v (Cr p n).length ((Cr p n).map (a8 bb))/\Hand w' hb B A cap l (N+n)/\KH hb w w':=by
 have HH:=yJ h;have hlt:=h.lt;go_enter Sq.func71,Tryz.ntmps71;go_wp2;go_loopw [5,6] (λv i wr=>∃k:Nat,k<=n/\i=a8 bb k/\∃p,wr.ownsRow w.heap.size 3 1 v (Cr p k).length ((Cr p k).map (a8 bb))/\Hand wr hb B A cap l (N+k)/\KH hb w wr) (λ_ i _=>n-(bD i).toNat)
 case atStart=>exact⟨0,by omega,rfl,λ_=>false,zF _ _ _ _,HH.out,KT.refl _ _⟩
 case round =>
  obtain⟨k,hk,rfl,p,hown,hh,Ex⟩:=hrel;have hz:=Ex.size;have HK:=yJ Ex;have HO:=yJ hown;by_cases hlk:k<n
  .have HC:=yJ (mO hb B A cap l (N+k) 1 2 wr hh (by omega) (by omega));go_wp2_with fail;refine HC.out.mono ?_;rintro e w2 ⟨⟨v,rfl⟩,hh,Ex⟩;have QJ:=yJ (HK.out.trans Ex);have hown2:=mP HO.out hlt Ex;have LF:=yJ hh;have hz2:=Ex.size;have R5:=yJ hown2;have HP:=yJ (i8 (λj=>if j=k then v else p j) k);have HP0:=yJ (iz (p:=λj=>if j=k then v else p j) (q:=p) (k:=k) λi hi=>if_neg (by omega));have Jj:=eu p k
   cases v with
   |true =>
    go_wp2_with (at_builtin;refine jW rfl _ _ rfl w.heap.size _ _ _ rfl (hown2.alloc _) ⟨w2.heap.size,0,a7⟩ 1 (a8 bb k) rfl ?c1 rfl ?c2 ?c3 ?_)
    case c1=>rw[yN _ _ _ _ (by simp)];rfl
    case c2=>omega
    case c3=>simp;omega
    intro v' w3 hown' hgrow hd;have Mt:=yJ (fh QJ.out hown2 (yL _) hgrow hd)
    have Qe:Hid (w3.ownsRow w.heap.size 3 1 v' (Cr (λj=>if j=k then df else p j) (k+1)).length ((Cr (λj=>if j=k then df else p j) (k+1)).map (a8 bb))):=yJ (by
     rw[HP.out,HP0.out,if_pos (by simp)];simpa using hown')
    have Rb:=yJ ((dH LF.out hown2 hlt hgrow).more (M:=N+(k+1)) (by omega));go_wp2;go_roundw
    case rel=>exact⟨k+1,by omega,by go_num,_,Qe.out,Rb.out,Mt.out⟩
    case measure=>simp[Proofs.intOf];omega
   |false =>
    have Qe:Hid (w2.ownsRow w.heap.size 3 1 _ (Cr (λj=>if j=k then b6 else p j) (k+1)).length ((Cr (λj=>if j=k then b6 else p j) (k+1)).map (a8 bb))):=yJ (by
     rw[HP.out,HP0.out,if_neg (by simp)];simpa using R5.out)
    go_wp2;go_roundw
    case rel=>exact⟨k+1,by omega,by go_num,_,Qe.out,LF.out,QJ.out⟩
    case measure=>simp[Proofs.intOf];omega
  .have IE:k=n:=by omega
   subst IE;have LF:=yJ hh;go_wp2;go_ret;exact⟨_,p,rfl,HO.out,LF.out,HK.out⟩
def Fz (c:Cc):Bool:=(c.B2.take 20).all (λh=>decide (h.off.length<=20))&&bo (c.B3.length<=20)&&bo (c.B2.length<=20)
def J9 (ls:List (List Int)):Bool:=(ls.take 20).all (λl=>decide (l.length<=20))&&bo (ls.length<=20)
def rX {c:Cc}(h:Fz c=df):c.B3.length<=20/\c.B2.length<=20/\∀x∈c.B2,x.off.length<=20:=by
 simp only[Fz,yY,decide_eq_true_eq,zE] at h;obtain⟨⟨h1,h2⟩,h3⟩:=h;rw[zi h3] at h1;exact⟨h2,h3,h1⟩
def vT {ls:List (List Int)}(h:J9 ls=df):ls.length<=20/\∀x∈ls,x.length<=20:=by
 simp only[J9,yY,decide_eq_true_eq,zE] at h;obtain⟨h1,h3⟩:=h;rw[zi h3] at h1;exact⟨h3,h1⟩
def uw (A:Option b9)(c:Nat)(ls:List (List Int))(w:bl)(B:Nat)(hg:Da w B A ls)(hl:ls.length<=9223372036854775807)(hl2:∀x∈ls,x.length<=9223372036854775807) :
  bW B1 5 #[a6 A ls.length c] w λe w'=>e=.returned (.bool (J9 ls))/\w=w':=by
 have HG:=yJ hg;have HL:=yJ hl2;go_enter Sq.func5,Tryz.ntmps5;go_wp2;go_loop [3] (λi=>∃k:Nat,k<=ls.length/\k<=20/\i=a8 bb k/\∀x∈ls.take k,x.length<=20) (λi=>20-(bD i).toNat)
 case atStart=>exact⟨0,by omega,by omega,rfl,by simp⟩
 case round =>
  obtain⟨k,hk,hk2,rfl,hz⟩:=hrel;have HZ:=yJ hz;by_cases hlt:k<ls.length/\k<20
  .obtain⟨hlt,Ib⟩:=hlt;obtain⟨b,o,rfl,hb,Jj⟩:=HG.out (λe=>by rw[e] at hlt;simp at hlt);obtain⟨A',c',hcell,Em⟩:=Jj k _ (yM hlt);have OD:=HL.out _ (zx hlt);have HX:Hid (ls.take (k+1)=ls.take k++[ls[k]]):=yJ (by rw[AH,yM hlt];rfl);have HM:Hid (ls[k]∈ls.take 20):=yJ (b8.2 ⟨k,by rw[AD,if_pos Ib,yM hlt]⟩);generalize ls[k]=x at hcell OD HX HM;by_cases hx:x.length<=20
   .have HN : Hid (∀ y ∈ ls.take (k + 1), y.length <= 20) := Lib.hid fun y hy => by
     rw[HX.out] at hy;rcases zJ.1 hy with hy|hy
     .exact HZ.out y hy
     .simp only[yT,yQ,or_false] at hy;subst hy;exact hx
    have NZ:bo ((x.length:Int) > 20)=false:=by simp;omega
    go_wp2;go_round
    case rel=>exact⟨k+1,by omega,by omega,by go_num,HN.out⟩
    case measure=>simp[Proofs.intOf];omega
   .have HS := Lib.hid (show J9 ls = b6 by
     have:(ls.take 20).all (λl=>decide (l.length<=20))=false:=cq.2 ⟨x,HM.out,by simpa using hx⟩
     simp[J9,this])
    go_wp2;go_ret;exact⟨ap HS.out.symm,rfl⟩
  .have HT : Hid (J9 ls = bo ((ls.length : Int) <= 20)) := Lib.hid (by
    have:(ls.take 20).all (λl=>decide (l.length<=20))=true:=zE.2 λy hy=>by
     have e:ls.take 20=ls.take k:=by
      rcases zC k ls.length with h|h
      .have:k=20:=by omega
       rw[this]
      .rw[zi h,zi (by omega)]
     rw[e] at hy;simpa using HZ.out y hy
    simp only[J9,this,Ap]
    exact decide_eq_decide.2 (by omega))
   by_cases F4:k<ls.length
   .have aiF:k=20:=by omega
    subst aiF;go_wp2;go_ret;exact⟨ap HT.out.symm,rfl⟩
   .have FA:k=ls.length:=by omega
    go_wp2;go_ret;exact⟨ap HT.out.symm,rfl⟩
def oR (nA hA:Option b9)(nc hc:Nat)(c:Cc)(w:bl)(B:Nat)(hB:B<=w.heap.size)(hh:Db w B hA c.B2)(F4:c.B3.length<=9223372036854775807)(hl2:c.B2.length<=9223372036854775807)(DN:∀h∈c.B2,h.off.length<=9223372036854775807) :
  bW B1 4 #[Cj nA hA c nc hc] w λe w'=>e=.returned (.bool (Fz c))/\Gr w w':=by
 unfold Cj;obtain⟨W0,hW0⟩:∃W0:bl,W0=w.alloc (bq #[a6 nA c.B3.length nc,a6 hA c.B2.length hc] 25):=⟨_,rfl⟩;have hg0:Gr w W0:=hW0▸(Gr.refl w).alloc _;have hz0:W0.heap.size=w.heap.size+1:=by rw[hW0];simp
 have HG:=yJ (hh.keep λb o hb=>hg0.cell (yO hb hB));have HL:=yJ DN;have Du:=yJ hg0;have hc0:W0.cell? ⟨w.heap.size,0,a7⟩=bh (a6 nA c.B3.length nc):=by rw[hW0,yN _ _ _ _ rfl];rfl
 have hc1:W0.cell? ⟨w.heap.size,1,a7⟩=bh (a6 hA c.B2.length hc):=by rw[hW0,yN _ _ _ _ rfl];rfl
 have HW:=yJ hW0;have Gb:w.heap.size<W0.heap.size:=by omega
 clear hh DN hg0 hW0;go_enter Sq.func4,Tryz.ntmps4;go_wp2;rw[<-HW.out];go_loop [3] (λi=>∃k:Nat,k<=c.B2.length/\k<=20/\i=a8 bb k/\∀x∈c.B2.take k,x.off.length<=20) (λi=>20-(bD i).toNat)
 case atStart=>exact⟨0,by omega,by omega,rfl,by simp⟩
 case round =>
  obtain⟨k,hk,hk2,rfl,hz⟩:=hrel;have HZ:=yJ hz;clear hz;by_cases hlt:k<c.B2.length/\k<20
  .obtain⟨hlt,Ib⟩:=hlt;obtain⟨b,o,rfl,hb,hat⟩:=HG.out.at_ (c:=c) hlt;obtain⟨g0,g1,g2,A,ac,g3,Em⟩:=hat;have OD:=HL.out _ (c.Gw hlt);have hce:c.B2[k]=c.h k:=by unfold Cc.h;rw[yM hlt];rfl
   have HX:Hid (c.B2.take (k+1)=c.B2.take k++[c.h k]):=yJ (by rw[AH,yM hlt,hce];rfl);have HM:Hid (c.h k∈c.B2.take 20):=yJ (b8.2 ⟨k,by rw[AD,if_pos Ib,yM hlt,hce]⟩);have O3:bo ((k:Int)<c.B2.length)=true:=by simp;omega
   have Mp:bo ((k:Int)<20)=true:=by simp;omega
   clear g0 g1 g2 Em hce;by_cases hx:(c.h k).off.length<=20
   .have HN : Hid (∀ y ∈ c.B2.take (k + 1), y.off.length <= 20) := Lib.hid fun y hy => by
     rw[HX.out] at hy;rcases zJ.1 hy with hy|hy
     .exact HZ.out y hy
     .simp only[yT,yQ,or_false] at hy;subst hy;exact hx
    have NZ:bo (((c.h k).off.length:Int) > 20)=false:=by simp;omega
    go_wp2;go_round
    case rel=>exact⟨k+1,by omega,by omega,by go_num,HN.out⟩
    case measure=>simp[Proofs.intOf];omega
   .have HS := Lib.hid (show Fz c = b6 by
     have:(c.B2.take 20).all (λh=>decide (h.off.length<=20))=false:=cq.2 ⟨_,HM.out,by simpa using hx⟩
     simp[Fz,this])
    go_wp2;go_ret;exact⟨ap HS.out.symm,Du.out⟩
  .have HT : Hid (Fz c = (bo ((c.B3.length : Int) <= 20) && bo ((c.B2.length : Int) <= 20))) := Lib.hid (by
    have:(c.B2.take 20).all (λh=>decide (h.off.length<=20))=true:=zE.2 λy hy=>by
     have e:c.B2.take 20=c.B2.take k:=by
      rcases zC k c.B2.length with h|h
      .have:k=20:=by omega
       rw[this]
      .rw[zi h,zi (by omega)]
     rw[e] at hy;simpa using HZ.out y hy
    simp only[Fz,this,Ap]
    rw[show bo (c.B3.length<=20)=bo ((c.B3.length:Int)<=20) from decide_eq_decide.2 (by omega),show bo (c.B2.length<=20)=bo ((c.B2.length:Int)<=20) from decide_eq_decide.2 (by omega)])
   have hgo:(bo ((k:Int)<c.B2.length)=b6)\/(bo ((k:Int)<c.B2.length)=df/\bo ((k:Int)<20)=b6):=by
    by_cases h:k<c.B2.length
    .exact .inr ⟨by simpa using h,by simp;omega⟩
    .exact .inl (by simp;omega)
   by_cases hn20:c.B3.length<=20
   .have LM:bo ((c.B3.length:Int)<=20)=true:=by simp;omega
    rw[LM,Ap] at HT;rcases hgo with h1|⟨h1,h2⟩
    .go_wp2
     all_goals
      go_ret;exact⟨ap HT.out.symm,Du.out⟩
    .go_wp2
     all_goals
      go_ret;exact⟨ap HT.out.symm,Du.out⟩
   .have LM:bo ((c.B3.length:Int)<=20)=false:=by simp;omega
    rw[LM,Aa] at HT;rcases hgo with h1|⟨h1,h2⟩
    .go_wp2
     all_goals
      go_ret;exact⟨ap HT.out.symm,Du.out⟩
    .go_wp2
     all_goals
      go_ret;exact⟨ap HT.out.symm,Du.out⟩
end Go.Sq
