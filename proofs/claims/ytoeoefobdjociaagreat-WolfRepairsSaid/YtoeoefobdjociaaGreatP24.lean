/- Parts of the proof. -/
import Derived.Test.YtoeoefobdjociaaGreatP23
set_option linter.all false
set_option maxHeartbeats 6400000
set_option maxRecDepth 1000000
open Go.Value renaming slice->Z,int->I,pointer->bc
open Option renaming none->Y,some->U
open Go renaming World->J,Value->C,wp_seq->bb,Addr->bh,bodyPost_ret->bl,Exit->bn,Calls->bo
open Go.IntKind renaming i64->X
open Go.Code renaming region->E,wp->f
open Go.Proofs renaming intOf->O
open Bool renaming false->M,true->L
open List renaming range'->S,range->bq
namespace Go.Sq
open Go.RowKit
def Jc (n m:Nat):List (List Int):=(bq m).flatMap λm=>IJ n n (m+1)
def kr (n m:Nat):Jc n (m+1)=Jc n m++IJ n n (m+1):=by
 unfold Jc;rw[CN,CD];simp
def th {n m:Nat}(h:m<=n):∃rest,G4 n=Jc n m++rest:=by
 obtain⟨d,rfl⟩:∃d,n=m+d:=⟨n-m,by omega⟩;unfold G4;rw[List.range_add,CD];exact⟨_,rfl⟩
def yE {n m:Nat}(h:m<n){l:List Int}(hl:l∈IJ n n (m+1)):l∈G4 n:=CU.2 ⟨m,Bu.2 h,hl⟩
def zv (c:D9)(l:List Int)(p:Nat):Int:=if(p:Int)∈l then c.DW[p]?.getD 0 else 0
def yF {c:D9}{l:List Int}(hl:ay (GF l) c.DW.length=l){p:Nat}(hp:p<c.DW.length):(Ff c (GF l)).DW[p]?=U (zv c l p):=by
 have hm:(p:Int)∈l↔(GF l).testBit p=true:=by
  conv=>lhs;rw[<-hl]
  unfold ay;rw[Bf];constructor
  .rintro⟨q,hq,e⟩;obtain rfl:q=p:=by omega
   exact(Ca.1 hq).2
  .intro h;exact⟨p,Ca.2 ⟨Bu.2 hp,h⟩,rfl⟩
 show(Jh c.DW (GF l) c.DW.length)[p]?=_;rw[cH _ _ _ _ hp];unfold zv;congr 1;by_cases e:(p:Int)∈l
 .rw[AF e,AF ⟨hp,hm.1 e⟩]
 .rw[AD e,AD λh=>e (hm.2 h.2)]
structure XC (c:D9)(hA:Option bh)(hc xb:Nat)(l:List Int)(wr W:J):Prop where
 gr:Gr wr W
 bd:wr.heap.size=xb/\xb+2<=W.heap.size
 x0:W.heap[xb]?=U (.cells #[.slice (U ⟨xb+1,0,Y⟩) c.DW.length c.DW.length,Z hA c.DV.length hc] 25 (0,0))
 s:∀p,p<c.DW.length->W.cell? ⟨xb+1,p,Y⟩=U (I X (zv c l p))/\W.frozen? ⟨xb+1,p,Y⟩=M
def XC.put {c:D9}{hA:Option bh}{hc xb k x:Nat}{l:List Int}{wr W W5:J}(h:XC c hA hc xb (l.take k) wr W)(hk:k<l.length)(hx:l[k]?=U (x:Int))(a6:x<c.DW.length)(hg:Gr W W5):XC c hA hc xb (l.take (k+1)) wr (W5.setCell ⟨xb+1,x,Y⟩ (I X (c.DW[x]?.getD 0))):=by
 obtain⟨b1,b2⟩:=h.bd;have hz:=hg.size;refine⟨(h.gr.trans hg).setCell (by show _<=xb+1;omega) _,⟨b1,by simp[World.setCell];omega⟩,(AR _ _ _ _ (by show xb≠xb+1;omega)).trans ((hg.below.block xb (by omega)).trans h.x0),λp hp=>?_⟩;obtain⟨s1,s2⟩:=h.s p hp;have s1':=(hg.cell (p:=⟨xb+1,p,Y⟩) (by show xb+1<_;omega)).trans s1;have s2':=(hg.frozen (p:=⟨xb+1,p,Y⟩) (by show xb+1<_;omega)).trans s2;refine⟨?_,by rw[BI];exact s2'⟩
 have ht:l.take (k+1)=l.take k++[(x:Int)]:=by rw[BZ,hx];rfl
 by_cases e:p=x
 .subst e;rw[AQ _ _ _ s1'];unfold zv;rw[ht,AF (by simp)]
 .rw[AL _ _ _ _ (by simp<;>omega),s1'];unfold zv;have:((p:Int)∈l.take (k+1))↔(p:Int)∈l.take k:=by rw[ht];simp;omega
  simp only[this]
open Go.Proofs
def qQ (nA hA:Option bh)(nc hc:Nat)(c:D9)(w:J)(B:Nat)(hB:B<=w.heap.size)(hn:RI w B nA c.DW)(hh:EN w B hA c.DV)
  (bN:c.DW.length<=4611686018427387904) (zC:c.DV.length<=4611686018427387904) (b7:∀h∈c.DV,h.off.length<=4611686018427387904) :
  bo DU 16 #[Ef nA hA c nc hc] w (eN c w):=by
 unfold Ef;obtain⟨W0,zM⟩:∃W0:J,W0=w.alloc (.cells #[Z nA c.DW.length nc,Z hA c.DV.length hc] 25):=⟨_,rfl⟩;have zL:Gr w W0:=zM▸(Gr.refl w).alloc _;have zF:W0.heap.size=w.heap.size+1:=by rw[zM];simp
 have aK:Hid (∀V,Gr W0 V->(V.cell? ⟨w.heap.size,0,Y⟩=U (Z nA c.DW.length nc)/\V.cell? ⟨w.heap.size,1,Y⟩=U (Z hA c.DV.length hc))/\w.heap.size<V.heap.size):=Ay λV hV=>by
  have:=hV.size;rw[hV.cell (by show w.heap.size<_;omega),hV.cell (by show w.heap.size<_;omega),zM,AE _ _ _ _ rfl,AE _ _ _ _ rfl];exact⟨⟨rfl,rfl⟩,by omega⟩
 have aP:=ki nA hA nc hc c W0 B (by omega) (hn.gr hB zL) (hh.keep λb o hb=>zL.cell (AC hb hB)) bN zC b7;unfold Ef at aP;have b8:=Ay aP;have HN:=Ay λV (hV:Gr W0 V)=>hn.gr hB (zL.trans hV);have HH:=Ay λV (hV:Gr W0 V)=>(hh.keep λb o hb=>(zL.trans hV).cell (p:=⟨b,o,Y⟩) (AC hb hB):EN V B hA c.DV);have HW:=Ay zM;have aQ:=Ay zL;have hBz:B<=W0.heap.size:=by omega
 clear zM zL hn hh b7 aP;go_enter Sq.func16,Tryz.ntmps16;obtain⟨⟨k0,k1⟩,kl⟩:=aK.out W0 (.refl _);go_wp2_with fail;rw[<-HW.out];refine b8.out.mono ?_;rintro e w1 ⟨rfl,zJ⟩;have aR:=Ay zJ;clear zJ b8 k0 k1 kl;by_cases h0:Eg c=0
 .have b9:=Ay h0;have aG:=Ay (D9.Ok.of h0);have bA:=aG.out.n5;have aL:=aG.out.n1;have h4:=aG.out.h4;rw[h0];clear h0;obtain⟨nb,no,rfl,-,-⟩:=HN.out W0 (.refl _) (λe=>by rw[e] at aL;simp at aL);have HNE:Hid (∀V,Gr W0 V->∀x,x<c.DW.length->V.cell? ⟨nb,no+x,Y⟩=U (I X (c.DW[x]?.getD 0))/\nb<V.heap.size):=Ay λV hV x hx=>by
   obtain⟨_,_,e,h1,h2⟩:=HN.out V hV (λe=>by rw[e] at aL;simp at aL);cases e;exact⟨h2 x _ (by rw[AB hx];rfl),by have:=hV.size;omega⟩
  obtain⟨-,f2,f3,f4⟩:=JK ⟨c.DW.length,by omega⟩;dsimp only at f2 f3 f4;have bO:=Ay f3;have HDC:=Ay (tf aG.out);have bY:=λw=>iy c.DW.length w (by omega);obtain⟨⟨k0,k1⟩,kl⟩:=aK.out w1 aR.out;clear f2 f3 f4;go_wp2;clear k0 k1 kl;go_loopw [6] (λi wr=>∃m:Nat,m<=c.DW.length/\i=I X ((m+1:Nat):Int)/\Gr W0 wr/\∀l∈Jc c.DW.length m,isSome (Ff c (GF l))=L) (λi _=>c.DW.length+1-(O i).toNat)
  case atStart=>exact⟨0,by omega,rfl,aR.out,λl hl=>by cases hl⟩
  case round =>
   obtain⟨wq,rfl⟩:∃wq,wq=wr:=⟨_,rfl⟩;obtain⟨m,hm,rfl,zV,hall⟩:=hrel;have bB:=Ay zV;have aJ:=Ay hall;clear zV hall;by_cases zY:m<c.DW.length
   .have aS:=ow c.DW.length bA c.DW.length 0 (m+1) (AO _) (by omega) wq;rw[Int.natCast_zero] at aS;have aT:=Ay aS;have bC:=Ay λl (hl:l∈IJ c.DW.length c.DW.length (m+1))=>yE zY hl;have bD:=Ay λl (hl:l∈IJ c.DW.length c.DW.length (m+1))=>iW _ _ _ l hl;have HSP:Hid (∃rest,G4 c.DW.length=(Jc c.DW.length m++IJ c.DW.length c.DW.length (m+1))++rest):=Ay (by rw[<-kr];exact th (by omega))
    have HTS:Hid (∀l∈Jc c.DW.length (m+1),l∈Jc c.DW.length m\/l∈IJ c.DW.length c.DW.length (m+1)):=Ay λl hl=>by rw[kr] at hl;exact Bp.1 hl
    have hRl:(IJ c.DW.length c.DW.length (m+1)).length<=32:=AH (gj _ _ _) (AH (BN (by omega) bA) (by decide));clear aS;generalize IJ c.DW.length c.DW.length (m+1)=R at aT bC bD HSP HTS hRl;go_wp2_with fail;refine aT.out.mono ?_;rintro e w2 ⟨v,xs,rfl,zI,aF⟩;obtain⟨LA,Lc,rfl⟩:=E9 aF.row;have HGD:=Ay aF;have bE:=Ay (bB.out.trans zI);clear zI aF aT;go_wp2;go_loopw [8] (λi wr=>∃q:Nat,q<=R.length/\i=I X q/\Gr w2 wr/\∀l∈R.take q,isSome (Ff c (GF l))=L) (λi _=>R.length-(O i).toNat)
    case atStart=>exact⟨0,by omega,rfl,.refl _,λl hl=>by simp at hl⟩
    case round =>
     obtain⟨wp,rfl⟩:∃wp,wp=wr:=⟨_,rfl⟩;obtain⟨q,hq,rfl,zV,hall⟩:=hrel;have aA:=Ay zV;have aU:=Ay hall;clear zV hall;by_cases aH:q<R.length
     .obtain⟨gL,cL,hv,_,bF⟩:=HGD.out.form (by omega);obtain⟨rfl,rfl⟩:LA=U ⟨gL,0,Y⟩/\Lc=cL:=by injection hv with a b c;exact⟨a,c⟩
      obtain⟨lA,lc,aB,a8⟩:=HGD.out.at_ aH;have aV:=bD.out _ (Bh aH);obtain⟨aM,-⟩:=bO.out _ (bC.out _ (Bh aH));have bG:Hid (R.take (q+1)=R.take q++[R[q]]):=Ay (by rw[BZ,AB aH];rfl);have HDR:Hid (R=R.take q++R[q]::R.drop (q+1)):=Ay (by rw[List.getElem_cons_drop,List.take_append_drop]);generalize R[q]=l at aB a8 aV aM bG HDR;have bP:=Ay aM;obtain⟨lb,c9,e9,_,bH⟩:=a8.form (by omega)
      obtain⟨rfl,rfl⟩:lA=U ⟨lb,0,Y⟩/\lc=c9:=by injection e9 with a b c;exact⟨a,c⟩
      have HLC:Hid (∀V,Gr w2 V->(V.cell? ⟨gL,q,Y⟩=U (.slice (U ⟨lb,0,Y⟩) (m+1) lc))/\∀k (hk:k<l.length),V.cell? ⟨lb,k,Y⟩=U (I X l[k])):=Ay λV hV=>by
       refine⟨by rw[hV.cell bF,aB,aV],λk hk=>?_⟩;rw[hV.cell bH];have:=a8.cells (g:=lb) rfl k (I X l[k]) (by simp[hk]);rw[Addr.add_lit,AO] at this;exact this
      have HLX:Hid (∀k,k<l.length->∃x:Nat,l[k]?=U (x:Int)/\x<c.DW.length):=Ay λk hk=>by
       have hm:l[k]∈ay (GF l) c.DW.length:=by rw[aM];exact Bh hk
       obtain⟨x,hx,e⟩:=Bf.1 hm;exact⟨x,by rw[AB hk,<-e],Bu.1 (Ca.1 hx).1⟩
      have bI:=Ay (bE.out.trans aA.out);obtain⟨⟨k0,k1⟩,kl⟩:=aK.out wp bI.out;clear hv aB a8 aM e9;go_wp2;go_loopw [10] (λi wr=>∃k:Nat,k<=m+1/\i=I X k/\XC c hA hc wp.heap.size (l.take k) wp wr) (λi _=>m+1-(O i).toNat)
      case atStart =>
       refine⟨0,by omega,rfl,((Gr.refl wp).alloc _).alloc _,⟨rfl,by simp⟩,(ae _ _ (by simp)).trans (heap_alloc_new _ _),λp hp=>⟨?_,?_⟩⟩
       .rw[AE _ _ _ _ (by simp),ep _ _ hp];unfold zv;simp
       .rw[By _ _ _ _ (by simp)]
      case round =>
       obtain⟨k,hk,rfl,a6⟩:=hrel;have aW:=Ay a6;have aC:=bI.out.trans a6.gr;obtain⟨-,zD⟩:=a6.bd;obtain⟨x0,_⟩:=D5 a6.x0 0;obtain⟨x1,_⟩:=D5 a6.x0 1;simp only[Bg,Be,Bd] at x0 x1;have xl:wp.heap.size<wr.heap.size:=by omega
       by_cases hlk:k<m+1
       .obtain⟨x,hx,aN⟩:=HLX.out k (by omega);have HX:=Ay hx;obtain⟨s1,s2⟩:=a6.s x aN
        have bJ : Hid (∀ V, Gr wr V -> (((V.cell? ⟨wp.heap.size, 0, Y⟩ = U (.slice (U ⟨wp.heap.size + 1, 0, Y⟩) c.DW.length c.DW.length) ∧ V.cell? ⟨gL, q, Y⟩ = U (.slice (U ⟨lb, 0, Y⟩) (m + 1) lc)) ∧ V.cell? ⟨lb, k, Y⟩ = U (I X (x : Nat))) ∧
          (V.cell? ⟨w.heap.size,0,Y⟩=U (.slice (U ⟨nb,no,Y⟩) c.DW.length nc)/\V.cell? ⟨nb,no+x,Y⟩=U (I X (c.DW[x]?.getD 0)))/\V.cell? ⟨wp.heap.size+1,x,Y⟩=U (I X (zv c (l.take k) x))/\V.frozen? ⟨wp.heap.size+1,x,Y⟩=M)/\wp.heap.size+1<V.heap.size/\True):=Ay λV hV=>by
         have hL:=HLC.out V (aA.out.trans (aW.out.gr.trans hV));have aX:=hL.2 k (by omega);have hx2:l[k]'(by omega)=(x:Int):=by rw[AB (by omega)] at hx;injection hx
         rw[hx2] at aX;exact⟨⟨⟨⟨(hV.cell (p:=⟨wp.heap.size,0,Y⟩) xl).trans x0,hL.1⟩,aX⟩,⟨(aK.out V (aC.trans hV)).1.1,(HNE.out V (aC.trans hV) x aN).1⟩,(hV.cell (p:=⟨wp.heap.size+1,x,Y⟩) (by show wp.heap.size+1<_;omega)).trans s1,(hV.frozen (p:=⟨wp.heap.size+1,x,Y⟩) (by show wp.heap.size+1<_;omega)).trans s2⟩,(by have:=hV.size;omega),trivial⟩
        clear a6 hx x0 x1 s1 s2;go_wp2;rename_i bQ;refine iF 71 rfl λu2 hu=>?_;refine xI (hu 1) (hu 7) (hu 8) (hu 9) (hu 10) aH hlk aN bJ λW5 u6 aD bK=>?_;rw[fv (n:=71) [42,43,44,45,46,47,48,49,50,51,52,53,54,55,56,57,58,59,60,61,62] (by kernel_rfl) rfl hu bK];have aY:=aW.out.put (by omega) HX.out aN aD;generalize c.DW[x]?.getD 0=y at aY ⊢;have HXP:=Ay aY;clear aY;clear hu bK aD bJ
        refine bQ _ _ ?_;simp only[B7,CR,Cf,Cx];go_wp2;go_roundw
        case rel=>exact⟨k+1,by omega,by go_num,HXP.out⟩
        case measure=>simp[Proofs.intOf];omega
       .have bR:k=m+1:=by omega
        subst bR;have aZ:(Ff c (GF l)).DW.length=c.DW.length:=cS _ _ _;have b5:=oV aG.out (GF l);have bZ:=a6.gr.size;have htk:l.take (m+1)=l:=Bb (by omega)
        have a7 := fw (Ff c (GF l)) b5 c.DW.length 0 (by rw [aZ]; exact AO _) EM cn (U ⟨wp.heap.size + 1, 0, Y⟩) hA c.DW.length hc wr wr.heap.size (AA _) (fun _ => ⟨wp.heap.size + 1, 0, rfl, by omega, fun p y hp => by
          have hpn:p<c.DW.length:=by have:=(AV.1 hp).1;omega
          rw[yF bP.out hpn] at hp;injection hp with hp
          rw[AO,(a6.s p hpn).1,htk,hp]⟩) ((HH.out wr aC).more (by have:=aC.size;omega)) wr.heap.size (.slice Y 0 0) [] (Ec.nil _ _) (AA _)
        have aI:Hid (isSome (Ff c (GF l))=!(Eh (Ff c (GF l)) (En c.DV.length) c.DW.length EM 0).isEmpty):=Ay (by unfold isSome;rw[aZ];rfl);unfold Ef at a7;rw[aZ] at a7;change bo DU 28 #[.agg #[.slice (U ⟨wp.heap.size+1,0,Y⟩) c.DW.length c.DW.length,Z hA c.DV.length hc],.slice Y 0 0] wr (λe w'=>∃v ys,e=.returned v/\Gr wr w'/\Fo w' wr.heap.size v ((Eh (Ff c (GF l)) (En c.DV.length) c.DW.length EM 0).map λr=>Ew r c.DW.length) ys/\w'.ownsRow wr.heap.size 26 1 v (Eh (Ff c (GF l)) (En c.DV.length) c.DW.length EM 0).length ys) at a7
        generalize Eh (Ff c (GF l)) (En c.DV.length) c.DW.length EM 0=RR at a7 aI;replace a7:=Ay a7;have HGX:=Ay aC;clear a6 b5 aC;go_wp2_with fail;refine a7.out.mono ?_;rintro e w5 ⟨v,ys,rfl,aD,_,how⟩;obtain⟨qA,qc,rfl⟩:=E9 how;have aO:=Ay (aW.out.gr.trans aD);have bL:=Ay (HGX.out.trans aD);clear aD how a7;cases hs:isSome (Ff c (GF l)) with
        |true =>
         have hd:decide ((RR.length:Int)=0)=false:=Bx λh=>by
          have h1:=aI.out;rw[hs,Bc (show RR.length=0 by omega)] at h1;cases h1
         have bS:((RR.length:Int)==0)=false:=beq_eq_false_iff_ne.2 (of_decide_eq_false hd);have HAN:Hid (∀l'∈R.take (q+1),isSome (Ff c (GF l'))=L):=Ay λl' hl'=>by
          rw[bG.out] at hl';obtain h|h:=Bp.1 hl'
          .exact aU.out l' h
          .rw[BS.1 h];exact hs
         clear hs;go_wp2;clear hd bS;go_roundw
         case rel=>exact⟨q+1,by omega,by go_num,aA.out.trans aO.out,HAN.out⟩
         case measure=>simp[Proofs.intOf];omega
        |false =>
         have bT:RR=[]:=by
          have h1:=aI.out;rw[hs] at h1;cases RR with
          |nil=>rfl
          |cons _ _=>cases h1
         subst bT;have hL:=HLC.out w5 (aA.out.trans aO.out);have bX:gL<w5.heap.size:=AC bF (aA.out.trans aO.out).size;have c0:=hL.1
         have bM:Hid (eN c w (.returned (.tuple #[.slice (U ⟨lb,0,Y⟩) (m+1) lc,I X 0])) w5):=Ay (by
          have hd:=HDC.out;have hf:(G4 c.DW.length).find? (λl=>!isSome (Ff c (GF l)))=U l:=by
           obtain⟨rest,hr⟩:=HSP.out;refine List.find?_eq_some_iff_append.2 ⟨by rw[hs];rfl,Jc c.DW.length m++R.take q,R.drop (q+1)++rest,?_,λl' hl'=>?_⟩
           .rw[hr]
            conv=>lhs;rw[HDR.out]
            simp
           .obtain h|h:=Bp.1 hl'
            .rw[aJ.out l' h];rfl
            .rw[aU.out l' h];rfl
          rw[hf] at hd;have hsc:isSome c=false:=by
           cases h:isSome c with
           |false=>rfl
           |true=>rw[h] at hd;simp at hd
          rw[hsc] at hd;injection hd with hd
          refine⟨aQ.out.trans bL.out,?_⟩;rw[AD (by simp[b9.out]),hsc,AD (by simp),<-hd]
          exact⟨U ⟨lb,0,Y⟩,lc,by rw[aV],λ_=>⟨lb,0,rfl,AC bH (aA.out.trans aO.out).size,λj y hj=>by
           obtain⟨bU,e⟩:=AV.1 hj
           rw[AO,hL.2 j bU,e]⟩⟩)
         clear hs hL;go_wp2;exact bl (v:=.tuple #[.slice (U ⟨lb,0,Y⟩) (m+1) lc,I X 0]) (by simp[results,Tryz.results16,go_sem]) rfl bM.out
     .have bV:q=R.length:=by omega
      subst bV;have HAE:Hid (∀l∈Jc c.DW.length (m+1),isSome (Ff c (GF l))=L):=Ay λl hl=>by
       obtain h|h:=HTS.out l hl
       .exact aJ.out l h
       .exact aU.out l (by rw[Ct];exact h)
      have bW:=Ay (bE.out.trans aA.out);go_wp2;go_roundw
      case rel=>exact⟨m+1,by omega,by go_num,bW.out,HAE.out⟩
      case measure=>simp[Proofs.intOf];omega
   .have hmn:m=c.DW.length:=by omega
    subst hmn
    have aI:Hid (eN c w (.returned (.tuple #[.slice Y 0 0,I X 11])) wq):=Ay (by
     refine⟨aQ.out.trans bB.out,?_⟩;rw[AD (by simp[b9.out])];have hd:=HDC.out;have hf:(G4 c.DW.length).find? (λl=>!isSome (Ff c (GF l)))=none:=Cu.2 λl hl=>by rw[aJ.out l hl];simp
     rw[hf] at hd;cases hs:isSome c with
     |true=>rw[AF rfl]
     |false=>rw[hs] at hd;simp at hd)
    go_wp2;exact bl (v:=.tuple #[.slice Y 0 0,I X 11]) (by simp[results,Tryz.results16,go_sem]) rfl aI.out
 .have b6:Hid (eN c w (.returned (.tuple #[.slice Y 0 0,I X (Eg c)])) w1):=Ay ⟨aQ.out.trans aR.out,by rw[AF h0]⟩;generalize Eg c=e0 at h0 b6 ⊢;have c2:decide (e0=0)=false:=Bx h0;go_wp2;exact bl (v:=.tuple #[.slice Y 0 0,I X e0]) (by simp[results,Tryz.results16,go_sem]) rfl b6.out
open Go.Eu
def GV (G:List (List Int))(v:C)(w:J):Prop:=∃A k,v=Z A G.length k/\ER w w.heap.size A G
def Lj (G:List (List Int)):F3 Gr (GV G):=λ_ _ _ hg ⟨A,k,e,h⟩=>⟨A,k,e,h.on hg⟩
def NM (o:List (List Int)×Int×Int)(v:C)(w:J):Prop:=∃y,v=.tuple #[y,I X o.2.1,I X o.2.2]/\GV o.1 y w
def KZ (o:List (List Int)×Int×Int):F3 Gr (NM o):=λ_ _ _ hg ⟨y,e,h⟩=>⟨y,e,Lj _ _ _ _ hg h⟩
def Gk (c:D9)(ls:List (List Int))(h d:Int):List (List Int)×Int×Int :=
 if Ek c ls≠0 then([],0,Ek c ls) else if(FC h 0 (c.DV.length-1)&&FC d 0 (c.DW.length-1))=M then([],0,3)
 else match F6 (D4 ls) (Eh (G8 c h.toNat d) (En c.DV.length) c.DW.length EM 0) with
  |none=>([],0,11)
  |some p=>(Ew p.1 c.DW.length,p.2,0)
def iH {c:D9}{ls:List (List Int)}{h d:Int}{w w':J}{e:Ending}(H:cT c ls h d w e w'):∃v,e=.returned v/\Gr w w'/\NM (Gk c ls h d) v w':=by
 obtain⟨hg,H⟩:=H;have h0:GV [] (.slice Y 0 0) w':=⟨Y,0,rfl,λh=>AI rfl h⟩;unfold Gk;by_cases h1:Ek c ls≠0
 .rw[AF h1] at H ⊢;exact⟨_,H,hg,_,rfl,h0⟩
 .rw[AD h1] at H ⊢;by_cases h2:(FC h 0 (c.DV.length-1)&&FC d 0 (c.DW.length-1))=M
  .rw[AF h2] at H ⊢;exact⟨_,H,hg,_,rfl,h0⟩
  .rw[AD h2] at H ⊢;cases hn:F6 (D4 ls) (Eh (G8 c h.toNat d) (En c.DV.length) c.DW.length EM 0) with
   |none =>
    rw[hn] at H;exact⟨_,H,hg,_,rfl,h0⟩
   |some p =>
    rw[hn] at H;obtain⟨A,k,rfl,a6⟩:=H;exact⟨_,rfl,hg,_,rfl,A,k,by rw[EE],a6⟩
def MO (c:D9)(ls:List (List Int))(h d:Int):(Gk c ls h d).1.length<=20/\∀x∈(Gk c ls h d).1,x.length<=20:=by
 unfold Gk;by_cases h1:Ek c ls≠0
 .rw[AF h1];exact⟨AU _,λx hx=>by cases hx⟩
 .rw[AD h1];have a6:=D9.Ok.of (dO (show Ek c ls=0 by omega));by_cases h2:(FC h 0 (c.DV.length-1)&&FC d 0 (c.DW.length-1))=M
  .rw[AF h2];exact⟨AU _,λx hx=>by cases hx⟩
  .rw[AD h2];split
   .exact⟨AU _,λx hx=>by cases hx⟩
   .refine⟨by rw[EE];have:=a6.n5;omega,λx hx=>?_⟩;obtain⟨i,_,rfl⟩:=Bf.1 hx;exact AH (aY _) (by omega)
def E1 (c:D9):List Int×Int:=if Eg c≠0 then([],Eg c) else if isSome c then([],11) else((Fg c (2 ^ c.DW.length)).getD [],0)
def jf {c:D9}{w w':J}{e:Ending}(H:eN c w e w'):∃v,e=.returned v/\Gr w w'/\NG (E1 c).1 (E1 c).2 v w':=by
 obtain⟨hg,H⟩:=H;have h0:MF [] (.slice Y 0 0) w':=⟨Y,0,rfl,λh=>AI rfl h⟩;unfold E1;by_cases h1:Eg c≠0
 .rw[AF h1] at H ⊢;exact⟨_,H,hg,_,rfl,h0⟩
 .rw[AD h1] at H ⊢;by_cases h2:isSome c=L
  .rw[AF h2] at H ⊢;exact⟨_,H,hg,_,rfl,h0⟩
  .rw[AD h2] at H ⊢;obtain⟨A,k,rfl,hr⟩:=H;exact⟨_,rfl,hg,_,rfl,A,k,rfl,hr⟩
def ni (c:D9):(E1 c).1.length<=20:=by
 unfold E1;by_cases h1:Eg c≠0
 .rw[AF h1];exact AU _
 .rw[AD h1];have a6:=D9.Ok.of (show Eg c=0 by omega);have a7:=a6.n5;split
  .exact AU _
  .have h:=ko a7 (2 ^ c.DW.length) (AA _);cases hc:Fg c (2 ^ c.DW.length) with
   |none=>exact AU _
   |some x =>
    rw[hc] at h;obtain⟨i,_,rfl,_⟩:=h;exact AH (gz _ _) (by omega)
section
variable {x:Li} {nA hA gA:Option bh} {nc hc gc:Nat} {W:J}
def qR (hs:x.Small)(hn:RI W W.heap.size nA x.c.DW)(hh:EN W W.heap.size hA x.c.DV)(hg:ER W W.heap.size gA x.ls)(h d:Int):bo DU 13 #[Ef nA hA x.c nc hc,Z gA x.ls.length gc,I X h,I X d] W λe w'=>∃v,e=.returned v/\Gr W w'/\NM (Gk x.c x.ls h d) v w':=by
 have b1:=hs.n;have b2:=hs.h;have b3:=hs.l;refine(mL nA hA gA nc hc gc x.c x.ls h d W W.heap.size (AA _) hn hh hg (by omega) (by omega) (λy hy=>AH (hs.o y hy) (by omega)) (by omega) (λy hy=>AH (hs.g y hy) (by omega)) λk h0 e hk hd=>?_).mono λ_ _ H=>iH H;have a6:=dO h0;obtain⟨KC,a7⟩:0<=d/\d<x.c.DW.length:=by
  simp[FC] at hd;omega
 rw[xu a6 hk ⟨KC,a7⟩];exact D9.Ok.of (sU a6 hk d)
def lR (hs:x.Small)(hn:RI W W.heap.size nA x.c.DW)(hh:EN W W.heap.size hA x.c.DV)(hg:ER W W.heap.size gA x.ls)(h d:Int):bo DU 14 #[Ef nA hA x.c nc hc,Z gA x.ls.length gc,I X h,I X d] W λe w'=>∃v,e=.returned v/\Gr W w'/\NM (Gk x.c x.ls h d) v w':=by
 have b1:=hs.n;have b2:=hs.h;have b3:=hs.l;exact(ov nA hA gA nc hc gc x.c x.ls h d W W.heap.size (AA _) hn hh hg (by omega) (by omega) (λy hy=>AH (hs.o y hy) (by omega)) (by omega) (λy hy=>AH (hs.g y hy) (by omega))).mono λ_ _ H=>iH H
def tj (hs:x.Small)(hn:RI W W.heap.size nA x.c.DW)(hh:EN W W.heap.size hA x.c.DV):bo DU 15 #[Ef nA hA x.c nc hc] W λe w'=>∃v,e=.returned v/\Gr W w'/\NG (E1 x.c).1 (E1 x.c).2 v w':=by
 have b1:=hs.n;have b2:=hs.h;exact(oW nA hA nc hc x.c W W.heap.size (AA _) hn hh (by omega) (by omega) (λy hy=>AH (hs.o y hy) (by omega))).mono λ_ _ H=>jf H
def nj (hs:x.Small)(hn:RI W W.heap.size nA x.c.DW)(hh:EN W W.heap.size hA x.c.DV):bo DU 16 #[Ef nA hA x.c nc hc] W λe w'=>∃v,e=.returned v/\Gr W w'/\NG (E1 x.c).1 (E1 x.c).2 v w':=by
 have b1:=hs.n;have b2:=hs.h;exact(qQ nA hA nc hc x.c W W.heap.size (AA _) hn hh (by omega) (by omega) (λy hy=>AH (hs.o y hy) (by omega))).mono λ_ _ H=>jf H
end
def tk {x m:Nat}(hm:m<=4)(hx:x<2 ^ m):wl x=Eo x.testBit m:=by
 refine dN (da _ 4) (da _ _) λz=>?_;show z∈Eo x.testBit 4↔_;rw[FB,FB];constructor
 .rintro⟨n,e,_,hb⟩;exact⟨n,e,gP hx hb,hb⟩
 .rintro⟨n,e,hn,hb⟩;exact⟨n,e,by omega,hb⟩
def va {c:D9}(a6:c.Ok)(k:Nat):∀r∈Eh c (En c.DV.length) k EM 0,∀x∈Ew r c.DW.length,∃p,x=Eo p c.DV.length:=λr hr x hx=>by
 obtain⟨i,_,rfl⟩:=Bf.1 hx;exact⟨_,tk a6.h4 (fJ (fi a6) _ _ _ cn r hr i)⟩
def ox (hb B:Nat)(A nA hA:Option bh)(cap nc hc:Nat)(l:List Int)(N:Nat)(c:D9)(w:J)(h:Hand w hb B A cap l N)(hN:N<=90000)(aB:c.Ok)(hn:RI w w.heap.size nA c.DW)(hh:EN w w.heap.size hA c.DV) :
  bo DU 9 #[.pointer (U ⟨hb,0,Y⟩),Ef nA hA c nc hc] w λe w'=>∃v ls xs,e=.returned v/\Ec w' w.heap.size v ls xs/\ls.length=c.DW.length/\(∀x∈ls,∃p,x=Eo p c.DV.length)/\Hand w' hb B A cap l (N+1000)/\KH hb w w':=by
 unfold Ef;obtain⟨W0,zM⟩:∃W0:J,W0=w.alloc (.cells #[Z nA c.DW.length nc,Z hA c.DV.length hc] 25):=⟨_,rfl⟩;have zL:Gr w W0:=zM▸(Gr.refl w).alloc _;have zF:W0.heap.size=w.heap.size+1:=by rw[zM];simp
 have zY:=h.lt;have HW:=Ay zM;have aX:=Ay zL;have aL:Hid (W0.cell? ⟨w.heap.size,0,Y⟩=U (Z nA c.DW.length nc)/\W0.cell? ⟨w.heap.size,1,Y⟩=U (Z hA c.DV.length hc)):=Ay (by rw[zM,AE _ _ _ _ rfl,AE _ _ _ _ rfl];exact⟨rfl,rfl⟩);have HR:=fw c aB c.DW.length 0 (AO _) EM cn nA hA nc hc W0 W0.heap.size (AA _) ((hn.gr (AA _) zL).more (by omega)) ((hh.keep λb o hb=>zL.cell (p:=⟨b,o,Y⟩) hb).more (by omega)) W0.heap.size (.slice Y 0 0) [] (Ec.nil _ _) (AA _)
 unfold Ef at HR;have HWH:=Ay (va aB c.DW.length);have aM:=Ay (jz aB c.DW.length EM 0);have b6:16 ^ c.DW.length<=1048576:=AH (BN (by omega) aB.n5) (by decide);have aY:=aB.n5;have h4:=aB.h4;have hnm:c.DW.length*c.DV.length<=20:=Nat.mul_le_mul aY h4;have HH:=Ay (h.gr zL);generalize Eh c (En c.DV.length) c.DW.length EM 0=R at HR HWH aM;replace HR:=Ay HR
 clear zM zL hn hh h;go_enter Sq.func9,Tryz.ntmps9;obtain⟨k0,k1⟩:=aL.out;have kl:w.heap.size<W0.heap.size:=by omega
 go_wp2_with fail;rw[<-HW.out];go_wp2_with fail;refine HR.out.mono ?_;rintro e w1 ⟨v,ys,rfl,zJ,aN,how⟩;obtain⟨LA,Lc,rfl⟩:=E9 how;have aO:=Ay aN;have aH:=Ay (aX.out.trans zJ);have zE:=zJ.size;have aP:=Ay (HH.out.gr zJ);have b8:=aM.out;have q0:=(zJ.cell (p:=⟨w.heap.size,0,Y⟩) kl).trans k0;have q1:=(zJ.cell (p:=⟨w.heap.size,1,Y⟩) kl).trans k1;have ql:w.heap.size<w1.heap.size:=by omega
 have HQ:=Ay (And.intro q0 q1);clear zJ how aN k0 k1 HR aL;by_cases hR:0<R.length
 .have hdd:decide ((R.length:Int) > 0)=true:=by simp;omega
  go_wp2_with fail;refine(mP hb B A cap l N 2 3 w1 aP.out (by omega) (by omega)).mono ?_;rintro e w2 ⟨⟨v,rfl⟩,aQ,zo⟩;have aR:=Ay aQ;have aS:=Ay zo;have zD:=zo.size;have zU:¬w.heap.size=hb:=by omega
  replace q0:=(zo.cell (p:=⟨w.heap.size,0,Y⟩) ql zU).trans HQ.out.1;replace q1:=(zo.cell (p:=⟨w.heap.size,1,Y⟩) ql zU).trans HQ.out.2;replace ql:w.heap.size<w2.heap.size:=by omega
  clear aQ zo;cases v with
  |true =>
   have hwr:IntKind.i64.wrap ((R.length:Int)-1)=(R.length:Int)-1:=by simp[IntKind.wrap,IntKind.bits,IntKind.signed];omega
   go_wp2_with fail;refine(fm hb B A cap l _ _ w2 aR.out (by omega) (by omega)).mono ?_;rintro e w3 ⟨⟨q,rfl,hq⟩,a6,zy⟩;have aT:q<R.length:=by omega
   obtain⟨g,aW,hv,hgb,zQ⟩:=aO.out.form (by rw[Bq];exact hR);obtain⟨rfl,rfl⟩:LA=U ⟨g,0,Y⟩/\Lc=aW:=by injection hv with a b c;exact⟨a,c⟩
   obtain⟨gA,gc,zs,hcell,a8⟩:=aO.out.at_ (q:=q) (by rw[Bq];exact aT);rw[C4] at hcell a8;have aI:=Ay (HWH.out _ (Bh aT));have aJ:=Ay (EE R[q] c.DW.length);generalize Ew R[q] c.DW.length=ls at hcell a8 aI aJ;have aA:=aS.out.trans zy;have hz3:=aA.size;have aZ:=(aA.cell (p:=⟨g,q,Y⟩) zQ (by show ¬g=hb;omega)).trans hcell;have b7:g<w3.heap.size:=by omega
   obtain⟨gA',gc',he,aU⟩:=(a8.keep' (w':=w3) λb h1 h2=>aA.block b h2 (by show ¬b=hb;omega)).J4;obtain⟨rfl,rfl⟩:gA=gA'/\gc=gc':=by injection he with a b c;exact⟨a,c⟩
   have b5:=Ay (kg gA gc ls w3 aU (by rw[aJ.out];omega) (λx hx=>by
    obtain⟨p,rfl⟩:=aI.out x hx
    exact AH (eJ _ _) (by omega)))
   have aC:=Ay a6;have aD:=Ay aA;clear a6 zy aA aU he hcell a8 hv q0 q1;go_wp2_with fail;refine b5.out.mono ?_;rintro e w4 ⟨v,xs,rfl,a7,hg4⟩;have aF:=Ay a7;have aV:=Ay hg4;clear a7 hg4;go_wp2;go_ret;exact⟨_,ls,xs,rfl,et aF.out (by omega),aJ.out,aI.out,(aC.out.gr aV.out).more (by omega),(KT.E4 aH.out).trans (aD.out.trans (KT.E4 aV.out))⟩
  |false =>
   go_wp2_with fail;refine(j9 hb B A nA hA cap nc hc l (N+1) c.DW.length c.DV.length w2 aR.out (by omega) (by omega) (by omega)).mono ?_;rintro e w3 ⟨v,ls,xs,rfl,a7,aK,hall,a6,zy⟩;have aF:=Ay a7;have aG:=Ay hall;have aC:=Ay a6;have aD:=Ay zy;clear a7 hall a6 zy;go_wp2;go_ret;exact⟨_,ls,xs,rfl,et aF.out (by omega),aK,aG.out,aC.out.more (by omega),(KT.E4 aH.out).trans (aS.out.trans aD.out)⟩
 .have hR0:R.length=0:=by omega
  have hdd:decide ((R.length:Int) > 0)=false:=Bx (by omega);go_wp2_with fail;refine(j9 hb B A nA hA cap nc hc l N c.DW.length c.DV.length w1 aP.out (by omega) (by omega) (by omega)).mono ?_;rintro e w3 ⟨v,ls,xs,rfl,a7,aK,hall,a6,zy⟩;have aF:=Ay a7;have aG:=Ay hall;have aC:=Ay a6;have aD:=Ay zy;clear a7 hall a6 zy;go_wp2;go_ret;exact⟨_,ls,xs,rfl,et aF.out (by omega),aK,aG.out,aC.out.more (by omega),(KT.E4 aH.out).trans aD.out⟩
noncomputable def eK:Code:=Tryz.f3.body.getD .skip
noncomputable def q4 (n:Nat):Code:=L6 (Jv n eK)
noncomputable def yG:Code:=inBody (inBody (NF (q4 6)))
noncomputable def dP (n:Nat):Code:=Jv n (inBody (L6 (NF yG)))
noncomputable abbrev aH (k:Nat):Array Oper:=II k Tryz.f3
structure J9 (W:J)(cb co rb ro hb db ob k cc rc sc tc mc nc hc:Nat)(mA nA hA:Option bh)(x:Li)(hh dd:Int)(u:Nat->C):Prop where
 u13:u 13=.slice (U ⟨cb,co,Y⟩) 3 cc
 u14:u 14=.slice (U ⟨rb,ro,Y⟩) 3 rc
 u15:u 15=.slice (U ⟨hb,0,Y⟩) 3 sc
 u16:u 16=.slice (U ⟨db,0,Y⟩) 3 tc
 u17:u 17=I X (k:Nat)
 k3:k<3
 u18:u 18=.pointer (U ⟨ob,0,Y⟩)
 u19:u 19=Z mA x.ls.length mc
 Je:NK W cb co rb ro k x
 h0:W.cell? ⟨hb,k,Y⟩=U (I X hh)
 d0:W.cell? ⟨db,k,Y⟩=U (I X dd)
 hl:hb<W.heap.size/\db<W.heap.size
 lt:ob<W.heap.size
 o0:W.cell? ⟨ob,0,Y⟩=U (Z nA x.c.DW.length nc)
 o1:W.cell? ⟨ob,1,Y⟩=U (Z hA x.c.DV.length hc)
 n:RI W W.heap.size nA x.c.DW
 h:EN W W.heap.size hA x.c.DV
 m:ER W W.heap.size mA x.ls
section
variable {W:J} {cb co rb ro hb db ob k cc rc sc tc mc nc hc:Nat} {mA nA hA:Option bh} {x:Li} {hh dd:Int} {u:Nat->C}
def J9.gr (h:J9 W cb co rb ro hb db ob k cc rc sc tc mc nc hc mA nA hA x hh dd u){W':J}(hg:Gr W W'){u':Nat->C}(e:∀t,13<=t->t<=19->u' t=u t):J9 W' cb co rb ro hb db ob k cc rc sc tc mc nc hc mA nA hA x hh dd u' :=
 ⟨(e 13 (by omega) (by omega)).trans h.u13,(e 14 (by omega) (by omega)).trans h.u14,(e 15 (by omega) (by omega)).trans h.u15,(e 16 (by omega) (by omega)).trans h.u16,(e 17 (by omega) (by omega)).trans h.u17,h.k3,(e 18 (by omega) (by omega)).trans h.u18,(e 19 (by omega) (by omega)).trans h.u19,h.Je.gr hg,(hg.cell (p:=⟨hb,_,Y⟩) h.hl.1).trans h.h0,(hg.cell (p:=⟨db,_,Y⟩) h.hl.2).trans h.d0,⟨AC h.hl.1 hg.size,AC h.hl.2 hg.size⟩,
  AC h.lt hg.size,(hg.cell (p:=⟨ob,_,Y⟩) h.lt).trans h.o0,(hg.cell (p:=⟨ob,_,Y⟩) h.lt).trans h.o1,h.n.OB hg,h.h.on hg,h.m.on hg⟩
def J9.cells (h:J9 W cb co rb ro hb db ob k cc rc sc tc mc nc hc mA nA hA x hh dd u)(V:J)(hV:Gr W V):(V.cell? ⟨cb,co+k*2,Y⟩=U (.slice x.nA x.c.DW.length x.nc)/\V.cell? ⟨cb,co+k*2+1,Y⟩=U (.slice x.hA x.c.DV.length x.hc)/\V.cell? ⟨rb,ro+k,Y⟩=U (.slice x.gA x.ls.length x.gc)/\V.cell? ⟨ob,0,Y⟩=U (Z nA x.c.DW.length nc)/\V.cell? ⟨ob,1,Y⟩=U (Z hA x.c.DV.length hc)/\V.cell? ⟨hb,k,Y⟩=U (I X hh)/\V.cell? ⟨db,k,Y⟩=U (I X dd))/\cb<V.heap.size/\rb<V.heap.size/\ob<V.heap.size:=by
 have:=h.gr (u':=u) hV λ_ _ _=>rfl;exact⟨⟨this.Je.c0,this.Je.c1,this.Je.r0,this.o0,this.o1,this.h0,this.d0⟩,this.Je.lt.1,this.Je.lt.2,this.lt⟩
end
def yH {cb co rb ro k cc rc:Nat}{x:Li}{W:J}{u:Nat->C}{Q:bn->Act->J->Prop}(a8:u 13=.slice (U ⟨cb,co,Y⟩) 3 cc)(aA:u 14=.slice (U ⟨rb,ro,Y⟩) 3 rc)(a6:u 17=I X (k:Nat))(hk:k<3)(hx:NK W cb co rb ro k x)
  (hK:∀W' u',Gr W W'->(∀t,13<=t->t<=17->u' t=u t)->(∃(ob mc nc hc:Nat) (mA nA hA:Option bh),u' 18=.pointer (U ⟨ob,0,Y⟩)/\u' 19=Z mA x.ls.length mc/\ob<W'.heap.size/\W'.cell? ⟨ob,0,Y⟩=U (Z nA x.c.DW.length nc)/\W'.cell? ⟨ob,1,Y⟩=U (Z hA x.c.DV.length hc)/\RI W' W'.heap.size nA x.c.DW/\EN W' W'.heap.size hA x.c.DV/\ER W' W'.heap.size mA x.ls)->Q .normal ⟨T 180 u',[]⟩ W'):(E 10 (aH 10) L).wp DU Q ⟨T 180 u,[]⟩ W:=by
 have H23:=Ay (λV (hV:Gr W V)=>qK x.nA x.hA x.nc x.hc x.c V _ (AA _) (hx.at_.gr hV).n (hx.at_.gr hV).h hx.small.n hx.small.h hx.small.o);have H33:=Ay (λV (hV:Gr W V)=>kg x.gA x.gc x.ls V (hx.at_.gr hV).g (AH hx.small.l (by omega)) (λy hy=>AH (hx.small.g y hy) (by omega)));refine aW (R:=Gr) 11<|Ea (Es a8)<|Ea (Es a6)<|Ea (Ha (co+k*2) 2 (El 0) (El 1))<|Ea (I6 (.agg #[.slice x.nA x.c.DW.length x.nc,.slice x.hA x.c.DV.length x.hc]) (El 2) rfl λw hg ev e=>by obtain⟨c0,c1,r0,⟨cl,rl⟩,_,_⟩:=hx.gr hg;clear hg;go_simp)<|Ea (Jw Sq.func11 [3] (P6 x.c W) (OD _ _) λw hg=>(H23.out w hg).mono λe w' h=>P7 hg h)<|Ea (Es aA)<|Ea (Es a6)<|Ea (Ha (ro+k) 1 (El 5) (El 6))<|Ea (Gp (El 7) λw hg=>by obtain⟨c0,c1,r0,⟨cl,rl⟩,_,_⟩:=hx.gr hg;assumption)<|Ea (Jw Sq.func12 [8] (Py x.ls W) (NL _ _) λw hg=>(H33.out w hg).mono λe w' h=>?_)<|Ea (J7 (Q4 W) (OE _) ?_)<|Gc λu w hg hf hv=>?_
 .obtain⟨v,xs,rfl,h1,h2⟩:=h;exact⟨v,rfl,h2,xs,et h1 hg.size⟩
 .intro u w hg hf hl hd;refine aU (op:=.alloc 25) (t:=0) rfl _ (w.alloc (.cells #[.slice Y 0 0,.slice Y 0 0] 25)) (λev he=>?_) ((Gr.refl w).alloc _) ⟨_,rfl,hg.size,World.alloc_heap_new _ _⟩;clear hg hf hl hd he;go_simp
 .obtain⟨b,e12,hb1,zq⟩:=hv.at_ 10 18;obtain⟨nA,hA,nc,hc,e55,hr,hh⟩:=hv.at_ 4 81;obtain⟨xs,a7⟩:=hv.at_ 9 86;have er:S 11 ((aH 10).size-11)=[11,12]:=by kernel_rfl
  rw[er,wpOps_cons];refine eP (d:=Y) (op:=.store 25 (.tmp 18) (.tmp 81)) (t:=0) rfl ((w.setCell ⟨b,0,Y⟩ (Z nA x.c.DW.length nc)).setCell ⟨b,1,Y⟩ (Z hA x.c.DV.length hc)) (λev he=>?_) ?_
  .have e1:=(he.t 18).trans e12;have e2:=(he.t 81).trans e55;obtain⟨⟨q1,q2,q3,q4⟩,q5⟩:=I2 zq;unfold Ef at e2;clear hv hf hg hr hh a7 zq he hK;go_simp
  .rw[wpOps_cons];refine lC (d:=U 19) rfl ?_;show Q .normal _ _;obtain⟨mA,mc,e60,hm⟩:=(OG (x:=Z nA x.c.DW.length nc) (y:=Z hA x.c.DV.length hc) zq a7).J4;obtain⟨o0,o1⟩:=Nd (x:=Z nA x.c.DW.length nc) (y:=Z hA x.c.DV.length hc) zq;have ne:∀i,i≠19->GH (GH u Y undef) (U 19) (GH u Y undef 86) i=u i:=λi hi=>Fh hi
   refine hK _ _ (sP hg hb1) (λt h1 h2=>(ne t (by omega)).trans (hf t (eQ (by kernel_rfl) t h1 h2))) ⟨b,mc,nc,hc,mA,nA,hA,(ne 18 (by decide)).trans e12,(aV ..).trans e60,by rw[gK];exact(I2 zq).2,o0,o1,(pq zq hr).ri λb hb=>by rw[gK];exact hb.2,(xj zq hh).hs λb hb=>by rw[gK];exact hb.2,hm⟩
def yI {cb co rb ro hb db ob k cc rc sc tc mc nc hc:Nat}{mA nA hA:Option bh}{x:Li}{hh dd:Int}{W:J}{u:Nat->C}{Q:bn->Act->J->Prop}(hu:J9 W cb co rb ro hb db ob k cc rc sc tc mc nc hc mA nA hA x hh dd u)
  (hK:∀W' u',Gr W W'->(∀t,FL (aH 11) t=L->u' t=u t)->GV (Gk x.c x.ls hh dd).1 (u' 20) W'->u' 21=I X (Gk x.c x.ls hh dd).2.1->u' 22=I X (Gk x.c x.ls hh dd).2.2->Q .normal ⟨T 180 u',[]⟩ W'):(E 11 (aH 11) L).wp DU Q ⟨T 180 u,[]⟩ W:=by
 have HC:=Ay (λV hV=>hu.cells V hV);have hk:=hu.k3;have H34:=Ay λV (hV:Gr W V)=>qR hu.Je.small (hu.n.OB hV) (hu.h.on hV) (hu.m.on hV) (nc:=nc) (hc:=hc) (gc:=mc) hh dd;refine aW (R:=Gr) 18<|Ea (I6 (.agg #[Z nA x.c.DW.length nc,Z hA x.c.DV.length hc]) (G9 hu.u18) rfl λw hg ev e=>by obtain⟨⟨c0,c1,r0,o0,o1,p0,p1⟩,cl,rl,ol⟩:=HC.out w hg;clear hg;go_simp)<|Ea (Es hu.u19)<|Ea (Es hu.u15)<|Ea (Es hu.u17)<|Ea (Ha k 1 (El 2) (El 3))<|Ea (Gp (El 4) λw hg=>by obtain⟨⟨c0,c1,r0,o0,o1,p0,p1⟩,cl,rl,ol⟩:=HC.out w hg;assumption)<|Ea (Es hu.u16)<|Ea (Es hu.u17)<|Ea (Ha k 1 (El 6) (El 7))<|Ea (Gp (El 8) λw hg=>by obtain⟨⟨c0,c1,r0,o0,o1,p0,p1⟩,cl,rl,ol⟩:=HC.out w hg;assumption)<|Ea (Jw Sq.func13 [0,1,5,9] (NM (Gk x.c x.ls hh dd)) (KZ _) H34.out)<|Ea (GD 10)<|Ea (KF rfl 11 (GV (Gk x.c x.ls hh dd).1) (Lj _) λ_ _ ⟨y,e1,hy⟩=>⟨_,_,e1,rfl,hy⟩)<|Ea (KF rfl 11 (λv _=>v=I X (Gk x.c x.ls hh dd).2.1) (EU _) λ_ _ ⟨y,e1,hy⟩=>⟨_,_,e1,rfl,rfl⟩)<|Ea (KF rfl 11 (λv _=>v=I X (Gk x.c x.ls hh dd).2.2) (EU _) λ_ _ ⟨y,e1,hy⟩=>⟨_,_,e1,rfl,rfl⟩)<|Ea (GD 12)<|Ea (GD 13)<|Ea (GD 14)<|Gc λu w hg hf hv=>?_
 .have er:S 18 ((aH 11).size-18)=[]:=by kernel_rfl
  rw[er];exact hK w u hg hf (hv.at_ 15 20) (hv.at_ 16 21) (hv.at_ 17 22)
def yJ {cb co rb ro hb db ob k cc rc sc tc mc nc hc:Nat}{mA nA hA:Option bh}{x:Li}{hh dd:Int}{W:J}{u:Nat->C}{Q:bn->Act->J->Prop}(hu:J9 W cb co rb ro hb db ob k cc rc sc tc mc nc hc mA nA hA x hh dd u)
  (hK:∀W' u',Gr W W'->(∀t,FL (aH 12) t=L->u' t=u t)->GV (Gk x.c x.ls hh dd).1 (u' 23) W'->u' 24=I X (Gk x.c x.ls hh dd).2.1->u' 25=I X (Gk x.c x.ls hh dd).2.2->Q .normal ⟨T 180 u',[]⟩ W'):(E 12 (aH 12) L).wp DU Q ⟨T 180 u,[]⟩ W:=by
 have HC:=Ay (λV hV=>hu.cells V hV);have hk:=hu.k3;have H35:=Ay λV (hV:Gr W V)=>lR hu.Je.small (hu.Je.at_.gr hV).n (hu.Je.at_.gr hV).h (hu.Je.at_.gr hV).g (nc:=x.nc) (hc:=x.hc) (gc:=x.gc) hh dd;refine aW (R:=Gr) 24<|Ea (Es hu.u13)<|Ea (Es hu.u17)<|Ea (Ha (co+k*2) 2 (El 0) (El 1))<|Ea (I6 (.agg #[.slice x.nA x.c.DW.length x.nc,.slice x.hA x.c.DV.length x.hc]) (El 2) rfl λw hg ev e=>by obtain⟨⟨c0,c1,r0,o0,o1,p0,p1⟩,cl,rl,ol⟩:=HC.out w hg;clear hg;go_simp)<|Ea (Es hu.u14)<|Ea (Es hu.u17)<|Ea (Ha (ro+k) 1 (El 4) (El 5))<|Ea (Gp (El 6) λw hg=>by obtain⟨⟨c0,c1,r0,o0,o1,p0,p1⟩,cl,rl,ol⟩:=HC.out w hg;assumption)<|Ea (Es hu.u15)<|Ea (Es hu.u17)<|Ea (Ha k 1 (El 8) (El 9))<|Ea (Gp (El 10) λw hg=>by obtain⟨⟨c0,c1,r0,o0,o1,p0,p1⟩,cl,rl,ol⟩:=HC.out w hg;assumption)<|Ea (Es hu.u16)<|Ea (Es hu.u17)<|Ea (Ha k 1 (El 12) (El 13))<|Ea (Gp (El 14) λw hg=>by obtain⟨⟨c0,c1,r0,o0,o1,p0,p1⟩,cl,rl,ol⟩:=HC.out w hg;assumption)<|Ea (Jw Sq.func14 [3,7,11,15] (NM (Gk x.c x.ls hh dd)) (KZ _) H35.out)<|Ea (GD 16)<|Ea (KF rfl 17 (GV (Gk x.c x.ls hh dd).1) (Lj _) λ_ _ ⟨y,e1,hy⟩=>⟨_,_,e1,rfl,hy⟩)<|Ea (KF rfl 17 (λv _=>v=I X (Gk x.c x.ls hh dd).2.1) (EU _) λ_ _ ⟨y,e1,hy⟩=>⟨_,_,e1,rfl,rfl⟩)<|Ea (KF rfl 17 (λv _=>v=I X (Gk x.c x.ls hh dd).2.2) (EU _) λ_ _ ⟨y,e1,hy⟩=>⟨_,_,e1,rfl,rfl⟩)<|Ea (GD 18)<|Ea (GD 19)<|Ea (GD 20)<|Gc λu w hg hf hv=>?_
 .have er:S 24 ((aH 12).size-24)=[]:=by kernel_rfl
  rw[er];exact hK w u hg hf (hv.at_ 21 23) (hv.at_ 22 24) (hv.at_ 23 25)
def yK {cb co rb ro hb db ob k cc rc sc tc mc nc hc:Nat}{mA nA hA:Option bh}{x:Li}{hh dd:Int}{W:J}{u:Nat->C}{Q:bn->Act->J->Prop}(hu:J9 W cb co rb ro hb db ob k cc rc sc tc mc nc hc mA nA hA x hh dd u)
  (hK:∀W' u',Gr W W'->(∀t,FL (aH 13) t=L->u' t=u t)->MF (E1 x.c).1 (u' 26) W'->u' 27=I X (E1 x.c).2->Q .normal ⟨T 180 u',[]⟩ W'):(E 13 (aH 13) M).wp DU Q ⟨T 180 u,[]⟩ W:=by
 have HC:=Ay (λV hV=>hu.cells V hV);have hk:=hu.k3;have H36:=Ay λV (hV:Gr W V)=>tj hu.Je.small (hu.n.OB hV) (hu.h.on hV) (nc:=nc) (hc:=hc);refine aW (R:=Gr) 7<|Ea (I6 (.agg #[Z nA x.c.DW.length nc,Z hA x.c.DV.length hc]) (G9 hu.u18) rfl λw hg ev e=>by obtain⟨⟨c0,c1,r0,o0,o1,p0,p1⟩,cl,rl,ol⟩:=HC.out w hg;clear hg;go_simp)<|Ea (Jw Sq.func15 [0] (NG (E1 x.c).1 (E1 x.c).2) (L9 _ _) H36.out)<|Ea (GD 1)<|Ea (KF rfl 2 (MF (E1 x.c).1) (Kz _) λ_ _ ⟨y,e1,hy⟩=>⟨_,_,e1,rfl,hy⟩)<|Ea (KF rfl 2 (λv _=>v=I X (E1 x.c).2) (EU _) λ_ _ ⟨y,e1,hy⟩=>⟨_,_,e1,rfl,rfl⟩)<|Ea (GD 3)<|Ea (GD 4)<|Gc λu w hg hf hv=>?_
 .have er:S 7 ((aH 13).size-7)=[]:=by kernel_rfl
  rw[er];exact hK w u hg hf (hv.at_ 5 26) (hv.at_ 6 27)
def yL {cb co rb ro hb db ob k cc rc sc tc mc nc hc:Nat}{mA nA hA:Option bh}{x:Li}{hh dd:Int}{W:J}{u:Nat->C}{Q:bn->Act->J->Prop}(hu:J9 W cb co rb ro hb db ob k cc rc sc tc mc nc hc mA nA hA x hh dd u)
  (hK:∀W' u',Gr W W'->(∀t,FL (aH 14) t=L->u' t=u t)->MF (E1 x.c).1 (u' 28) W'->u' 29=I X (E1 x.c).2->Q .normal ⟨T 180 u',[]⟩ W'):(E 14 (aH 14) M).wp DU Q ⟨T 180 u,[]⟩ W:=by
 have HC:=Ay (λV hV=>hu.cells V hV);have hk:=hu.k3;have H37:=Ay λV (hV:Gr W V)=>nj hu.Je.small (hu.Je.at_.gr hV).n (hu.Je.at_.gr hV).h (nc:=x.nc) (hc:=x.hc);refine aW (R:=Gr) 10<|Ea (Es hu.u13)<|Ea (Es hu.u17)<|Ea (Ha (co+k*2) 2 (El 0) (El 1))<|Ea (I6 (.agg #[.slice x.nA x.c.DW.length x.nc,.slice x.hA x.c.DV.length x.hc]) (El 2) rfl λw hg ev e=>by obtain⟨⟨c0,c1,r0,o0,o1,p0,p1⟩,cl,rl,ol⟩:=HC.out w hg;clear hg;go_simp)<|Ea (Jw Sq.func16 [3] (NG (E1 x.c).1 (E1 x.c).2) (L9 _ _) H37.out)<|Ea (GD 4)<|Ea (KF rfl 5 (MF (E1 x.c).1) (Kz _) λ_ _ ⟨y,e1,hy⟩=>⟨_,_,e1,rfl,hy⟩)<|Ea (KF rfl 5 (λv _=>v=I X (E1 x.c).2) (EU _) λ_ _ ⟨y,e1,hy⟩=>⟨_,_,e1,rfl,rfl⟩)<|Ea (GD 6)<|Ea (GD 7)<|Gc λu w hg hf hv=>?_
 .have er:S 10 ((aH 14).size-10)=[]:=by kernel_rfl
  rw[er];exact hK w u hg hf (hv.at_ 8 28) (hv.at_ 9 29)
def yM {cb co rb ro hb db ob k cc rc sc tc mc nc hc:Nat}{mA nA hA:Option bh}{x:Li}{hh dd:Int}{W:J}{u:Nat->C}{Q:bn->Act->J->Prop}(hu:J9 W cb co rb ro hb db ob k cc rc sc tc mc nc hc mA nA hA x hh dd u){aA bA lA kA:Option bh}{ak bk lk kq:Nat}(a6:u 20=Z aA (Gk x.c x.ls hh dd).1.length ak)(g20:ER W W.heap.size aA (Gk x.c x.ls hh dd).1)(h21:u 21=I X (Gk x.c x.ls hh dd).2.1)(a7:u 22=I X (Gk x.c x.ls hh dd).2.2)(a8:u 23=Z bA (Gk x.c x.ls hh dd).1.length bk)(g23:ER W W.heap.size bA (Gk x.c x.ls hh dd).1)(h24:u 24=I X (Gk x.c x.ls hh dd).2.1)(h25:u 25=I X (Gk x.c x.ls hh dd).2.2)
  (aB:u 26=Z lA (E1 x.c).1.length lk) (r26:RI W W.heap.size lA (E1 x.c).1) (h27:u 27=I X (E1 x.c).2) (aC:u 28=Z kA (E1 x.c).1.length kq) (r28:RI W W.heap.size kA (E1 x.c).1) (aD:u 29=I X (E1 x.c).2)
  (hK:∀W' u',Gr W W'->(∀t,FL (aH 15) t=L->u' t=u t)->u' 178=.bool M->Q .normal ⟨T 180 u',[]⟩ W'):(E 15 (aH 15) L).wp DU Q ⟨T 180 u,[]⟩ W:=by
 have HC:=Ay (λV hV=>hu.cells V hV);have hk:=hu.k3;have b1:=hu.Je.small.n;have b2:=hu.Je.small.h;obtain⟨s1,s2⟩:=MO x.c x.ls hh dd;have s3:=ni x.c;have HGG:=Ay (λV (hV:Gr W V)=>(ef aA bA ak bk (Gk x.c x.ls hh dd).1 (Gk x.c x.ls hh dd).1 V _ (AA _) (g20.on hV) (g23.on hV) (AH s1 (by omega)) (AH s1 (by omega)) (λy hy=>AH (s2 y hy) (by omega)) (λy hy=>AH (s2 y hy) (by omega))).mono λe w' h=>(by rw[BE rfl] at h;exact h:e=.returned (.bool L)/\Gr V w'))
 have HII:=Ay (λV (hV:Gr W V)=>(cv lA kA lk kq (E1 x.c).1 (E1 x.c).1 V _ (AA _) (r26.OB hV) (r28.OB hV) (AH s3 (by omega)) (AH s3 (by omega))).mono λe w' h=>(by rw[BE rfl] at h;exact h:e=.returned (.bool L)/\Gr V w'));have H29:=Ay (λV (hV:Gr W V)=>od nA hA x.nA x.hA nc hc x.nc x.hc x.c V (hu.n.OB hV) (hu.h.on hV) (hu.Je.at_.gr hV).n (hu.Je.at_.gr hV).h hu.Je.small.n hu.Je.small.h hu.Je.small.o)
 have H28:=Ay (λV (hV:Gr W V)=>(ef mA x.gA mc x.gc x.ls x.ls V _ (AA _) (hu.m.on hV) (hu.Je.at_.gr hV).g (AH hu.Je.small.l (by omega)) (AH hu.Je.small.l (by omega)) (λy hy=>AH (hu.Je.small.g y hy) (by omega)) (λy hy=>AH (hu.Je.small.g y hy) (by omega))).mono λe w' h=>(by rw[BE rfl] at h;exact h:e=.returned (.bool L)/\Gr V w'));refine aW (R:=Gr) 43<|Ea (Es h21)<|Ea (Es h24)<|Ea (MK (.bool M) (El 0) (El 1))<|Ea (GD 2)<|Ea (Es a7)<|Ea (Es h25)<|Ea (MK (.bool M) (El 4) (El 5))<|Ea (MJ (El 3) (El 6))<|Ea (GD 7)<|Ea (Es h27)<|Ea (Es aD)<|Ea (MK (.bool M) (El 9) (El 10))<|Ea (MJ (El 8) (El 11))<|Ea (GD 12)<|Ea (Es a6)<|Ea (Es a8)<|Ea (Lg Sq.func17 [14,15] HGG.out)<|Ea (MH (El 16))<|Ea (MJ (El 13) (El 17))<|Ea (GD 18)<|Ea (Es aB)<|Ea (Es aC)<|Ea (Lg Sq.func18 [20,21] HII.out)<|Ea (MH (El 22))<|Ea (MJ (El 19) (El 23))<|Ea (GD 24)<|Ea (I6 (.agg #[Z nA x.c.DW.length nc,Z hA x.c.DV.length hc]) (G9 hu.u18) rfl λw hg ev e=>by obtain⟨⟨c0,c1,r0,o0,o1,p0,p1⟩,cl,rl,ol⟩:=HC.out w hg;clear hg;go_simp)<|Ea (Es hu.u13)<|Ea (Es hu.u17)<|Ea (Ha (co+k*2) 2 (El 27) (El 28))<|Ea (I6 (.agg #[.slice x.nA x.c.DW.length x.nc,.slice x.hA x.c.DV.length x.hc]) (El 29) rfl λw hg ev e=>by obtain⟨⟨c0,c1,r0,o0,o1,p0,p1⟩,cl,rl,ol⟩:=HC.out w hg;clear hg;go_simp)<|Ea (Lg Sq.func19 [26,30] H29.out)<|Ea (MH (El 31))<|Ea (MJ (El 25) (El 32))<|Ea (GD 33)<|Ea (Es hu.u19)<|Ea (Es hu.u14)<|Ea (Es hu.u17)<|Ea (Ha (ro+k) 1 (El 36) (El 37))<|Ea (Gp (El 38) λw hg=>by obtain⟨⟨c0,c1,r0,o0,o1,p0,p1⟩,cl,rl,ol⟩:=HC.out w hg;assumption)<|Ea (Lg Sq.func17 [35,39] H28.out)<|Ea (MH (El 40))<|Ea (MJ (El 34) (El 41))<|Gc λu w hg hf hv=>?_
 .have er:S 43 ((aH 15).size-43)=[]:=by kernel_rfl
  rw[er];exact hK w u hg hf (hv.at_ 42 178)
def Aa  {W:J} {u:Nat->C} {Q:bn->Act->J->Prop}
  (hK:∀W' u',Gr W W'->Fr (aH 7) u' u->u' 17=I X 0->Q .normal ⟨T 180 u',[]⟩ W'):(E 7 (aH 7) M).wp DU Q ⟨T 180 u,[]⟩ W:=by
 refine aW (R:=Gr) 1<|Ea Q2<|Gc λu w hg hf hv=>?_
 .exact hK w u hg hf (hv.at_ 0 17)
def Ab {cb co k cc:Nat}{W:J}{u:Nat->C}{Q:bn->Act->J->Prop}(a6:u 13=.slice (U ⟨cb,co,Y⟩) 3 cc)(a7:u 17=I X (k:Nat))
  (hK:∀W' u',Gr W W'->Fr (aH 8) u' u->u' 74=.bool (decide ((k:Int)<3))->Q .normal ⟨T 180 u',[]⟩ W'):(E 8 (aH 8) M).wp DU Q ⟨T 180 u,[]⟩ W:=by
 refine aW (R:=Gr) 4<|Ea (Es a7)<|Ea (Es a6)<|Ea (P4 (El 1))<|Ea (MK (.bool (decide ((k:Int)<3))) (El 0) (El 2))<|Gc λu w hg hf hv=>?_
 .exact hK w u hg hf (hv.at_ 3 74)
def Ac {k:Nat}{W:J}{u:Nat->C}{Q:bn->Act->J->Prop}(a6:u 17=I X (k:Nat))(hk:k<3)
  (hK:∀W' u',Gr W W'->Fr (aH 9) u' u->u' 17=I X ((k+1:Nat):Int)->Q .normal ⟨T 180 u',[]⟩ W'):(E 9 (aH 9) M).wp DU Q ⟨T 180 u,[]⟩ W:=by
 refine aW (R:=Gr) 3<|Ea (Q0 (RO 2 a6))<|Ea (P3 ((k:Int)+1) (El 0))<|Ea (GD 1)<|Gc λu w hg hf hv=>?_
 .exact hK w u hg hf (hv.at_ 2 17)
def Nf:dP 0=.seq (.region 10 (aH 10) L) (dP 1)/\dP 1=.seq (.region 11 (aH 11) L) (dP 2)/\dP 2=.seq (.region 12 (aH 12) L) (dP 3)/\dP 3=.seq (.region 13 (aH 13) M) (dP 4)/\dP 4=.seq (.region 14 (aH 14) M) (dP 5)/\dP 5=.seq (.region 15 (aH 15) L) (.cond (.tmp 178) (Pz (dP 5)) .skip):=⟨by kernel_rfl,by kernel_rfl,by kernel_rfl,by kernel_rfl,by kernel_rfl,by kernel_rfl⟩
def OO:q4 6=.seq (.region 7 (aH 7) M) (.block 0 (.loop yG))/\yG=.seq (.seq (.region 8 (aH 8) M) (.cond (.tmp 74) .skip (.exit 0))) (.seq (.block 1 (dP 0)) (.region 9 (aH 9) M)):=⟨by kernel_rfl,by kernel_rfl⟩
def yN {cb co rb ro hb db ob k cc rc sc tc mc nc hc:Nat}{mA nA hA:Option bh}{x:Li}{hh dd:Int}{W:J}{u:Nat->C}{Q:bn->Act->J->Prop}(hu:J9 W cb co rb ro hb db ob k cc rc sc tc mc nc hc mA nA hA x hh dd u)(hK:∀W' u',Gr W W'->(∀t,13<=t->t<=19->u' t=u t)->Q .normal ⟨T 180 u',[]⟩ W'):(dP 1).wp DU Q ⟨T 180 u,[]⟩ W:=by
 obtain⟨_,e1,e2,e3,e4,e5⟩:=Nf;rw[e1];refine bb (yI hu λW1 u1 g1 f1 v20 v21 v22=>?_);have m1:∀t,13<=t->t<=19->u1 t=u t:=λt h1 h2=>f1 t (eQ (by kernel_rfl) t h1 h2);have a6:=hu.gr g1 (u':=u1) m1;show f _ _ _ _ _;rw[e2];refine bb (yJ a6 λW2 u2 g2 f2 v23 v24 v25=>?_);have m2:∀t,13<=t->t<=19->u2 t=u1 t:=λt h1 h2=>f2 t (eQ (by kernel_rfl) t h1 h2);have a7:=a6.gr g2 (u':=u2) m2;show f _ _ _ _ _
 rw[e3];refine bb (yK a7 λW3 u3 g3 f3 v26 v27=>?_);have m3:∀t,13<=t->t<=19->u3 t=u2 t:=λt h1 h2=>f3 t (eQ (by kernel_rfl) t h1 h2);have hu3:=a7.gr g3 (u':=u3) m3;show f _ _ _ _ _;rw[e4];refine bb (yL hu3 λW4 u4 g4 f4 v28 v29=>?_);have m4:∀t,13<=t->t<=19->u4 t=u3 t:=λt h1 h2=>f4 t (eQ (by kernel_rfl) t h1 h2);have hu4:=hu3.gr g4 (u':=u4) m4;show f _ _ _ _ _;rw[e5];obtain⟨aA,ak,aB,ga⟩:=v20
 obtain⟨bA,bk,aC,gb⟩:=v23;obtain⟨lA,lk,aD,gl⟩:=v26;obtain⟨kA,kq,aF,gk⟩:=v28;have p4:∀t,FL (aH 14) t=L->FL (aH 13) t=L->u4 t=u2 t:=λt a b=>(f4 t a).trans (f3 t b);have p5:∀t,FL (aH 14) t=L->FL (aH 13) t=L->FL (aH 12) t=L->u4 t=u1 t:=λt a b c=>(p4 t a b).trans (f2 t c);refine bb (yM hu4 ((p5 20 (by kernel_rfl) (by kernel_rfl) (by kernel_rfl)).trans aB) (ga.on (g2.trans (g3.trans g4))) ((p5 21 (by kernel_rfl) (by kernel_rfl) (by kernel_rfl)).trans v21) ((p5 22 (by kernel_rfl) (by kernel_rfl) (by kernel_rfl)).trans v22) ((p4 23 (by kernel_rfl) (by kernel_rfl)).trans aC) (gb.on (g3.trans g4)) ((p4 24 (by kernel_rfl) (by kernel_rfl)).trans v24) ((p4 25 (by kernel_rfl) (by kernel_rfl)).trans v25) ((f4 26 (by kernel_rfl)).trans aD) (gl.OB g4) ((f4 27 (by kernel_rfl)).trans v27) aF gk v29 λW5 u5 g5 f5 a8=>?_)
 have m5:∀t,13<=t->t<=19->u5 t=u4 t:=λt h1 h2=>f5 t (eQ (by kernel_rfl) t h1 h2);show f _ _ _ _ _;refine wp_cond_false ((dM (by decide)).trans a8) (wp_skip ?_);exact hK W5 u5 (g1.trans (g2.trans (g3.trans (g4.trans g5)))) λt a b=>(m5 t a b).trans ((m4 t a b).trans ((m3 t a b).trans ((m2 t a b).trans (m1 t a b))))
def xJ {cb co rb ro hb db cc rc sc tc:Nat}{F:Nat->Li}{H D:Nat->Int}{W:J}{u:Nat->C}{Q:bn->Act->J->Prop}(a8:u 13=.slice (U ⟨cb,co,Y⟩) 3 cc)(aB:u 14=.slice (U ⟨rb,ro,Y⟩) 3 rc)(aC:u 15=.slice (U ⟨hb,0,Y⟩) 3 sc)(aD:u 16=.slice (U ⟨db,0,Y⟩) 3 tc)(hx:∀k,k<3->NK W cb co rb ro k (F k))(hh:∀k,k<3->W.cell? ⟨hb,k,Y⟩=U (I X (H k))/\W.cell? ⟨db,k,Y⟩=U (I X (D k)))(hl:hb<W.heap.size/\db<W.heap.size)(hK:∀W' u',Gr W W'->Q .normal ⟨T 180 u',[]⟩ W'):(q4 6).wp DU Q ⟨T 180 u,[]⟩ W:=by
 obtain⟨e1,e2⟩:=OO;obtain⟨e3,_⟩:=Nf;rw[e1];refine bb (Aa λW1 u1 g1 f1 a7=>?_);show f _ _ _ _ _;refine wp_block (wp_loop (λa w=>∃u k,a=⟨T 180 u,[]⟩/\Gr W w/\u 13=.slice (U ⟨cb,co,Y⟩) 3 cc/\u 14=.slice (U ⟨rb,ro,Y⟩) 3 rc/\u 15=.slice (U ⟨hb,0,Y⟩) 3 sc/\u 16=.slice (U ⟨db,0,Y⟩) 3 tc/\u 17=I X (k:Nat)/\k<=3) (λa _=>3-(O (a.tmps.getD 17 undef)).toNat) ⟨u1,0,rfl,g1,(f1.at_ 13).trans a8,(f1.at_ 14).trans aB,(f1.at_ 15).trans aC,(f1.at_ 16).trans aD,a7,by omega⟩ ?_)
 rintro a w ⟨u,k,rfl,hg,a8,aB,aC,aD,a7,hk⟩;have em:∀u:Nat->C,(T 180 u).getD 17 undef=u 17:=λu=>by rw[BY,gI (by decide)];rfl
 rw[e2];refine bb (bb (Ab a8 a7 λW2 u2 g2 f2 aA=>?_));show f _ _ _ _ _;by_cases zY:k<3
 .have hd:decide ((k:Int)<3)=true:=by simp;omega
  rw[hd] at aA;refine wp_cond_true ((dM (by decide)).trans aA) (wp_skip ?_);show f _ _ _ _ _;refine bb (wp_block ?_);rw[e3];have i13:=(f2.at_ 13).trans a8;have i14:=(f2.at_ 14).trans aB;have i15:=(f2.at_ 15).trans aC;have i16:=(f2.at_ 16).trans aD;have i17:=(f2.at_ 17).trans a7;refine bb (yH (k:=k) (x:=F k) i13 i14 i17 zY ((hx k zY).gr (hg.trans g2)) λW3 u3 g3 f3 hm=>?_);obtain⟨ob,mc,nc,hc,mA,nA,hA,o18,o19,ol,o0,o1,on_,oh,om⟩:=hm
  have a6:=hg.trans (g2.trans g3);have c13:=(f3 13 (by omega) (by omega)).trans i13;have c14:=(f3 14 (by omega) (by omega)).trans i14;have c15:=(f3 15 (by omega) (by omega)).trans i15;have c16:=(f3 16 (by omega) (by omega)).trans i16;have c17:=(f3 17 (by omega) (by omega)).trans i17;have hm:J9 W3 cb co rb ro hb db ob k cc rc sc tc mc nc hc mA nA hA (F k) (H k) (D k) u3:=⟨c13,c14,c15,c16,c17,zY,o18,o19,(hx k zY).gr a6,(a6.cell (p:=⟨hb,k,Y⟩) hl.1).trans (hh k zY).1,(a6.cell (p:=⟨db,k,Y⟩) hl.2).trans (hh k zY).2,⟨AC hl.1 a6.size,AC hl.2 a6.size⟩,ol,o0,o1,on_,oh,om⟩
  show f _ _ _ _ _;refine yN hm λW4 u4 g4 m=>?_;show f _ _ _ _ _;refine Ac (k:=k) ((m 17 (by omega) (by omega)).trans c17) zY λW5 u5 g5 f5 i21=>?_;refine⟨⟨u5,k+1,rfl,a6.trans (g4.trans g5),(f5.at_ 13).trans ((m 13 (by omega) (by omega)).trans c13),(f5.at_ 14).trans ((m 14 (by omega) (by omega)).trans c14),(f5.at_ 15).trans ((m 15 (by omega) (by omega)).trans c15),(f5.at_ 16).trans ((m 16 (by omega) (by omega)).trans c16),i21,by omega⟩,?_⟩
  show 3-(O ((T 180 u5).getD 17 undef)).toNat<3-(O ((T 180 u).getD 17 undef)).toNat;rw[em,em,i21,a7];simp[O];omega
 .have hd:decide ((k:Int)<3)=false:=by simp;omega
  rw[hd] at aA;refine wp_cond_false ((dM (by decide)).trans aA) (wp_exit ?_);exact(show(if(0:Nat)=0 then Q .normal ⟨T 180 u2,[]⟩ W2 else Q (.exit 0) ⟨T 180 u2,[]⟩ W2) from by rw[AF rfl];exact hK W2 u2 (hg.trans g2))
variable {R:J->J->Prop} {ops:Array Oper} {Q:bn->Act->J->Prop} {n m:Nat} {u:Nat->C} {ds:List Deferred} {w w':J}
instance {T:Nat->Prop}:Goes (KT T):={ refl:=KT.refl T,trans:=KT.trans,drew:=λw=>KT.E4 (Gr.refl w).drew }
def JW (lo:Nat)(v0 v1:C)(v:C)(w:J):Prop:=∃b,v=.pointer (U ⟨b,0,Y⟩)/\(lo<=b/\b<w.heap.size)/\w.cell? ⟨b,0,Y⟩=U v0/\w.cell? ⟨b,1,Y⟩=U v1
def ku (lo:Nat)(v0 v1:C):F3 Gr (JW lo v0 v1):=λv w w' hg ⟨b,e,h1,h2,h3⟩=>⟨b,e,⟨h1.1,AC h1.2 hg.size⟩,(hg.cell (p:=⟨b,0,Y⟩) h1.2).trans h2,(hg.cell (p:=⟨b,1,Y⟩) h1.2).trans h3⟩
def tn {w:J}{lo:Nat}(a6:lo<=w.heap.size)(v0 v1:C):JW lo v0 v1 (.pointer (U ⟨w.heap.size,0,Y⟩)) (w.alloc (.cells #[v0,v1] 25)) :=
 ⟨_,rfl,⟨a6,by simp⟩,by rw[AE _ _ _ _ rfl];rfl,by rw[AE _ _ _ _ rfl];rfl⟩
def OP (lo:Nat)(A:Option bh)(cap:Nat)(l:List Int)(v:C)(w:J):Prop:=∃hb B,v=.pointer (U ⟨hb,0,Y⟩)/\lo<=hb/\Hand w hb B A cap l 0
def NN (lo:Nat)(A:Option bh)(cap:Nat)(l:List Int):F3 Gr (OP lo A cap l):=λv w w' hg ⟨hb,B,e,h1,h2⟩=>⟨hb,B,e,h1,h2.gr hg⟩
def OQ (lo:Nat)(xs:Array C)(e:TypeId)(v:C)(w:J):Prop:=∃b,v=.slice (U ⟨b,0,Y⟩) 3 3/\lo<=b/\w.heap[b]?=U (.cells xs e (0,0))
def iI {hb lo:Nat}(h:hb<lo)(xs:Array C)(e:TypeId):F3 (KT (·=hb)) (OQ lo xs e):=λv w w' hg ⟨b,e,h1,h2⟩ =>
 ⟨b,e,h1,(hg.block b (Az.1 h2).1 (by omega)).trans h2⟩
def P8 (lo n m:Nat)(ls:List (List Int))(v:C)(w:J):Prop:=(∃xs,Ec w lo v ls xs)/\ls.length=n/\∀x∈ls,∃p,x=Eo p m
def vb {hb lo n m:Nat}(h:hb<lo){ls:List (List Int)}{v:C}{w w':J}(hg:KT (·=hb) w w')(hr:P8 lo n m ls v w):P8 lo n m ls v w':=by
 obtain⟨⟨xs,h1⟩,h2⟩:=hr;exact⟨⟨xs,h1.keep' λb h3 h4=>hg.block b h4 (by omega)⟩,h2⟩
def OT (lo n m:Nat)(v:C)(w:J):Prop:=∃ls,P8 lo n m ls v w
def Mg {hb lo n m:Nat}(h:hb<lo):F3 (KT (·=hb)) (OT lo n m):=λ_ _ _ hg ⟨ls,hr⟩=>⟨ls,vb h hg hr⟩
def P9 (lo n m:Nat)(g:C)(v:C)(w:J):Prop:=∃x,OQ lo #[g,x,g] 26 v w/\OT lo n m x w
def tq {hb lo n m:Nat}(h:hb<lo)(g:C):F3 (KT (·=hb)) (P9 lo n m g):=λv w w' hg ⟨x,h1,h2⟩=>⟨x,iI h _ _ _ _ _ hg h1,Mg h _ _ _ hg h2⟩
def Ad (a:Array C):a=T a.size λi=>a[i]?.getD undef:=by
 refine Array.ext Jj.symm λi h1 h2=>?_;have e:(T a.size λi=>a[i]?.getD undef)[i]?=U (a[i]?.getD undef):=gI h1;rw[AK h2,AK h1] at e;injection e with e
 exact e.symm
def yO {a:Array C}{n:Nat}(h:a.size=n):a=T n λi=>a[i]?.getD undef:=h▸Ad a
def nk {P:Program}{id:Nat}{ops:Array Oper}{more:List Item}{N:Act->J->Prop}{a:Act}{w:J}(h:bq ops.size=[0,1])(hn:N a w):aZ P [.inRegion ops [0,1],.code .ret] (.seq (.region id ops M) .ret) N a w :=
 fQ (tgt:=[.inRegion ops [0,1]]) (ge (l:=[]) (by intro j hj;simp at hj) (by rw[h];rfl) hn)
end Go.Sq
