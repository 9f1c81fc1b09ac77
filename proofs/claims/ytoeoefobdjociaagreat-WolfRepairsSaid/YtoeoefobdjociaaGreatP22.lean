/- Parts of the proof. -/
import Derived.Test.YtoeoefobdjociaaGreatP21
set_option linter.all false
set_option maxHeartbeats 6400000
set_option maxRecDepth 1000000
open Go.Value renaming slice->Z,int->U
open Option renaming none->Y,some->J
open Go renaming World->I,Value->E,bodyPost_ret->G,Addr->bc,Calls->bn
open Go.IntKind renaming i64->X
open Go.Proofs renaming intOf->C
open Decidable renaming decide->O
open Go.Obj renaming cells->M
open Go.Proofs.Tryz renaming results66->H,f28->ak
open Bool renaming eq_iff_iff->S,true->bh,false->bq
open Go.Builtin renaming append_->f,append->bk
namespace Go.Sq
open Go.Proofs
open Go.RowKit
def m9 (nA hA gA gB:Option bc)(nc hc ga gb n:Nat)(c:D9)(g ρ:EH)(w:I)(B:Nat)(hB:B<=w.heap.size)(aD:ER w B gA (Ew g n))(hgb:ER w B gB (Ew ρ n))(hm:c.DV.length<=4)(hgm:∀i,g i<2 ^ c.DV.length)(hrm:∀i,ρ i<2 ^ c.DV.length)(hn:n<=5) :
  bn DU 45 #[Ef nA hA c nc hc,Z gA n ga,.slice gB n gb] w λe w'=>e=.returned (U X ((FM ρ g n:Nat):Int))/\Gr w w':=by
 unfold Ef;obtain⟨W0,zM⟩:∃W0:I,W0=w.alloc (M #[Z nA c.DW.length nc,Z hA c.DV.length hc] 25):=⟨_,rfl⟩;have zL:Gr w W0:=zM▸(Gr.refl w).alloc _;have HW:=Ay zM;have aP:=Ay zL;have HC:Hid (∀V,Gr W0 V->V.cell? ⟨w.heap.size,1,Y⟩=J (Z hA c.DV.length hc)/\w.heap.size<V.heap.size):=Ay λV hV=>by
  have:=hV.size;have zF:W0.heap.size=w.heap.size+1:=by rw[zM];simp
  rw[hV.cell (by show w.heap.size<_;omega),zM,AE _ _ _ _ rfl];exact⟨rfl,by omega⟩
 have HA:=Ay λV (hV:Gr W0 V)=>(aD.gr hB (zL.trans hV)).more (B':=V.heap.size) (AH hB (zL.trans hV).size);have HB:=Ay λV (hV:Gr W0 V)=>(hgb.gr hB (zL.trans hV)).more (B':=V.heap.size) (AH hB (zL.trans hV).size);have HM:=Ay (And.intro hgm hrm);generalize c.DV.length=m at *;clear zM zL aD hgb hgm hrm;go_enter Sq.func45,Tryz.ntmps45;go_wp2;rw[<-HW.out];go_loopw [7,8] (λd i wr=>∃k:Nat,k<=n/\i=U X k/\Gr W0 wr/\d=U X ((FM ρ g k:Nat):Int)) (λ_ i _=>n-(C i).toNat)
 case atStart=>exact⟨0,by omega,rfl,.refl _,rfl⟩
 case round =>
  obtain⟨wp,rfl⟩:∃wp,wp=wr:=⟨_,rfl⟩;obtain⟨k,hk,rfl,a7,rfl⟩:=hrel;have aA:=Ay a7;by_cases hlk:k<n
  .have zU:∀r:EH,Ew r n≠[]:=λr e=>by have:=AX List.length e;rw[EE] at this;simp at this;omega
   obtain⟨ab,ao,rfl,-,-⟩:=HA.out _ a7 (zU g);obtain⟨bb,bo,rfl,-,-⟩:=HB.out _ a7 (zU ρ);have aO:Hid (∀V,Gr wp V->(∃A3 c3,(V.cell? ⟨ab,ao+k,Y⟩=J (Z A3 (wl (g k)).length c3)/\ab<V.heap.size)/\RI V V.heap.size A3 (wl (g k)))/\∃A4 c4,(V.cell? ⟨bb,bo+k,Y⟩=J (Z A4 (wl (ρ k)).length c4)/\bb<V.heap.size)/\RI V V.heap.size A4 (wl (ρ k))):=Ay λV hV=>by
    obtain⟨_,_,e,h1,h2⟩:=HA.out V (aA.out.trans hV) (zU g);cases e;obtain⟨_,_,e,k1,k2⟩:=HB.out V (aA.out.trans hV) (zU ρ);cases e;obtain⟨A3,c3,h3,h4⟩:=h2 k (wl (g k)) (by simp[Ew,hlk]);obtain⟨A4,c4,k3,k4⟩:=k2 k (wl (ρ k)) (by simp[Ew,hlk]);exact⟨⟨A3,c3,⟨h3,h1⟩,h4⟩,A4,c4,⟨k3,k1⟩,k4⟩
   have hfk:FM ρ g k<=4*k:=sX ρ g k
   have aF:Hid (FM ρ g (k+1)=FM ρ g k+Gd (ρ k) (g k) m):=Ay (by
    show FM ρ g k+(wl (ρ k ^^^ g k)).length=_
    rw[xx (HM.out.2 k) (HM.out.1 k) (by omega)])
   generalize FM ρ g k=F at aF hfk;clear a7 zU;go_wp2;go_loopw [7,9] (λd i wr=>∃v:Nat,v<=m/\i=U X v/\Gr wp wr/\d=U X ((F+Gd (ρ k) (g k) v:Nat):Int)) (λ_ i _=>m-(C i).toNat)
   case atStart=>exact⟨0,by omega,rfl,.refl _,rfl⟩
   case round =>
    obtain⟨v,hv,rfl,a8,rfl⟩:=hrel;have aQ:=Ay a8;obtain⟨k1,zP⟩:=HC.out wr (aA.out.trans a8);have aC:=uP (ρ k) (g k) v;by_cases hlv:v<m
    .obtain⟨⟨A3,c3,⟨k3,l3⟩,r3⟩,A4,c4,⟨k4,l4⟩,r4⟩:=aO.out wr a8;have aG:=iG (x:=g k) v (by omega);have aH:=iG (x:=ρ k) v (by omega)
     have aI:Hid ((O ((v:Int)∈wl (g k)) != O ((v:Int)∈wl (ρ k)))=((g k).testBit v != (ρ k).testBit v)):=Ay (by
      rw[show O ((v:Int)∈wl (g k))=(g k).testBit v by rw[S,decide_eq_true_iff];exact aG,show O ((v:Int)∈wl (ρ k))=(ρ k).testBit v by rw[S,decide_eq_true_iff];exact aH])
     have aB:Hid (Gd (ρ k) (g k) (v+1)=Gd (ρ k) (g k) v+if(ρ k).testBit v=(g k).testBit v then 0 else 1):=Ay rfl;have hw4:=aY (g k);have hw3:=aY (ρ k);have HX:=Ay λV (hV:Gr wr V)=>r3.OB hV;have HY:=Ay λV (hV:Gr wr V)=>r4.OB hV;have aJ:Hid (∀V,Gr wr V->(V.cell? ⟨ab,ao+k,Y⟩=J (Z A3 (wl (g k)).length c3)/\V.cell? ⟨bb,bo+k,Y⟩=J (Z A4 (wl (ρ k)).length c4))/\ab<V.heap.size/\bb<V.heap.size):=Ay λV hV=>⟨⟨(hV.cell (p:=⟨ab,ao+k,Y⟩) l3).trans k3,(hV.cell (p:=⟨bb,bo+k,Y⟩) l4).trans k4⟩,AC l3 hV.size,AC l4 hV.size⟩
     clear a8 aG aH r3 r4 k3 k4 l3 l4;go_wp2;rename_i aR;refine iF 39 rfl λu2 hu=>?_;refine xm (hu 1) (hu 2) (hu 8) (hu 9) hlk hlk aJ HX HY (by omega) (by omega) λW5 u6 aK aL a6=>?_;rw[fv (n:=39) [23,24,25,26,27,28,29,30,31,32,33,34,35] (by kernel_rfl) rfl hu aL];have aM:=Ay (aQ.out.trans aK);rw[aI.out] at a6;clear hu aL aK HX HY aJ aI;refine aR _ _ ?_;simp only[B7,CR,Cf,Cx];by_cases hb:(ρ k).testBit v=(g k).testBit v
     .have HD:Hid (Gd (ρ k) (g k) (v+1)=Gd (ρ k) (g k) v):=Ay (by rw[aB.out,AF hb];rfl);rw[hb,bne_self_eq_false] at a6;simp only[a6];clear a6 hb aB;generalize Gd (ρ k) (g k) v=D at HD aC;go_wp2;go_roundw
      case rel=>exact⟨v+1,by omega,by go_num,aM.out,by rw[HD.out]⟩
      case measure=>simp[Proofs.intOf];omega
     .have HD:Hid (Gd (ρ k) (g k) (v+1)=Gd (ρ k) (g k) v+1):=Ay (by rw[aB.out,AD hb]);rw[show((g k).testBit v != (ρ k).testBit v)=bh by simpa [bne_iff_ne] using Ne.symm hb] at a6;simp only[a6];clear a6 hb aB;generalize Gd (ρ k) (g k) v=D at HD aC;go_wp2;go_roundw
      case rel=>exact⟨v+1,by omega,by go_num,aM.out,by rw[HD.out];go_num⟩
      case measure=>simp[Proofs.intOf];omega
    .have hvm:v=m:=by omega
     subst hvm;have aN:Hid (F+Gd (ρ k) (g k) v=FM ρ g (k+1)):=Ay aF.out.symm;have aS:=Ay (aA.out.trans a8);generalize Gd (ρ k) (g k) v=D at aN aC;clear a8;go_wp2;go_roundw
     case rel=>exact⟨k+1,by omega,by go_num,aS.out,by rw[<-aN.out]⟩
     case measure=>simp[Proofs.intOf];omega
  .have aT:k=n:=by omega
   subst aT;have aV:=sX ρ g k;have aU:=Ay (aP.out.trans a7);clear a7;go_wp2;go_ret;exact⟨rfl,aU.out⟩
def IC (l:List Int)(d:Int):Nat->List Int
 |0=>[]
 |i+1=>IC l d i++if(i:Int)=d\/(i:Int)∈l then[(i:Int)] else[]
def jw {l:List Int}{d x:Int}:∀ {n:Nat},x∈IC l d n↔(0<=x/\x<n)/\(x=d\/x∈l)
 |0=>by simp only[IC,AG,false_iff];omega
 |n+1=>by
  simp only[IC,Bp,jw (n:=n)];have key:x∈(if(n:Int)=d\/(n:Int)∈l then[(n:Int)] else[])↔x=n/\(x=d\/x∈l):=by
   split
   .rename_i h;simp only[BS];exact⟨λe=>⟨e,e▸h⟩,λe=>e.1⟩
   .rename_i h;simp only[AG,false_iff];rintro⟨rfl,h'⟩;exact h h'
  rw[key];constructor
  .rintro(⟨⟨h1,h2⟩,h3⟩|⟨h1,h2⟩)
   .exact⟨⟨h1,by omega⟩,h3⟩
   .exact⟨⟨by omega,by omega⟩,h2⟩
  .rintro⟨⟨h1,h2⟩,h3⟩;by_cases e:x=n
   .exact .inr ⟨e,h3⟩
   .exact .inl ⟨⟨h1,by omega⟩,h3⟩
def jy (l:List Int)(d:Int):∀n:Nat,(IC l d n).length<=n
 |0=>AA _
 |n+1=>by
  have:=jy l d n;simp only[IC,BH];split
  .rw[List.length_singleton];omega
  .simp;omega
def Ho (c:D9)(k:Nat)(d:Int):D9:={ c with DV:=c.DV.set k { c.h k with off:=IC (c.h k).off d c.DW.length } }
def gi {c:D9}{k:Nat}{x:EG}(hk:k<c.DV.length)(n:Nat):D9.h { c with DV:=c.DV.set k x } n=if n=k then x else c.h n:=by
 unfold D9.h;show((c.DV.set k x)[n]?).getD _=_;by_cases e:n=k
 .subst e;rw[CF hk,AF rfl];rfl
 .rw[Cl (Ne.symm e),AD e]
def oe {c c':D9}(h0:c'.DW=c.DW)(h1:∀n,(c'.h n).E3=(c.h n).E3)(h2:∀n,(c'.h n).most=(c.h n).most)(h3:∀n (x:Nat),(x:Int)∈(c'.h n).off↔(x:Int)∈(c.h n).off)(r:EH)(k:Nat):Ej c' r k=Ej c r k:=by
 have hr:∀i n,Gu c' r k i n=Gu c r k i n:=λi n=>by
  match i with
  |0=>exact decide_eq_decide.2 (h3 n k)
  |1=>rfl
  |_+2=>show O (_ ≥ (c'.h n).most)=O (_ ≥ (c.h n).most);rw[h2]
 have hb:∀i,breaks c' r k i=breaks c r k i:=λi=>by
  unfold breaks;simp only[hr]
 have hd:c'.E3 (r k)=c.E3 (r k):=by
  unfold D9.E3;simp only[h1]
 unfold Ej D9.need;rw[hb,hb,hb,hd,h0]
def kk {c c':D9}(h:∀r k,Ej c' r k=Ej c r k)(sets:List Nat):∀(k:Nat) (r:EH) (n:Nat),Eh c' sets k r n=Eh c sets k r n
 |0,_,_=>rfl
 |k+1,r,n=>by
  unfold Eh;simp only[h,kk h sets k]
def gM {c:D9}{k:Nat}{d:Int}(a6:c.Ok)(hk:k<c.DV.length)(KC:0<=d)(hd:d<c.DW.length)(sets:List Nat)(j:Nat)(r:EH)(n:Nat):Eh (Ho c k d) sets j r n=Eh (G8 c k d) sets j r n:=by
 refine kk (λr k'=>?_) sets j r n;refine oe (c':=Ho c k d) (c:=G8 c k d) rfl (λn=>?_) (λn=>?_) (λn x=>?_) r k'
 .unfold Ho G8;rw[gi hk,gi hk];split<;>rfl
 .unfold Ho G8;rw[gi hk,gi hk];split<;>rfl
 .unfold Ho G8;rw[gi hk,gi hk];split
  .show(x:Int)∈IC _ _ _↔(x:Int)∈cA _ _;have hr:=(a6.off _ (c.Gs hk)).2;rw[jw];have key:(x:Int)∈cA (c.h k).off d↔(x:Int)=d\/(x:Int)∈(c.h k).off:=by
    unfold cA;split
    .rename_i h;exact⟨.inr,λe=>e.elim (λe=>e▸h) id⟩
    .rw[List.mem_mergeSort,Bp,BS,or_comm]
   rw[key];refine⟨λh=>h.2,λh=>⟨⟨by omega,?_⟩,h⟩⟩;obtain h|h:=h
   .omega
   .exact(hr _ h).2
  .rfl
def uR {c:D9}{k:Nat}{d:Int}(a6:c.Ok)(hk:k<c.DV.length):(Ho c k d).Ok:=by
 have hm:∀x∈(Ho c k d).DV,x∈c.DV\/x={ c.h k with off:=IC (c.h k).off d c.DW.length }:=λx hx=>(Dc hx);have hl:(Ho c k d).DV.length=c.DV.length:=Dd ..;have a7:=c.Gs hk;refine⟨a6.n1,a6.n5,a6.need,by rw[hl];exact a6.h1,by rw[hl];exact a6.h4,λx hx=>?_,λx hx=>?_,λx hx=>?_,λx hx=>?_⟩
 .obtain h|rfl:=hm x hx
  .exact a6.heads x h
  .exact a6.heads (c.h k) a7
 .obtain h|rfl:=hm x hx
  .exact a6.E3 x h
  .exact a6.E3 (c.h k) a7
 .obtain h|rfl:=hm x hx
  .exact a6.most x h
  .exact a6.most (c.h k) a7
 .obtain h|rfl:=hm x hx
  .exact a6.off x h
  .have:=a6.n5;exact⟨AH (jy _ _ _) a6.n5,λy hy=>(jw.1 hy).1⟩
section
variable {w:I} {ops:Array Oper} {rest:List Oper} {o:Oper} {a:Act} {Q:Exit->Act->I->Prop}
def yB (hgd:o.guard=Y)(s x:Operand)(ho:o.op=.call { callee:=.builtin .append,args:=#[s,x],argTypes:=#[23,23] })(a6:o.type=23){base b B hc:Nat}{hA:Option bc}{c:D9}(hs:a.eval s=.slice (J ⟨b,0,Y⟩) 0 0)(h0:w.ownsRow base 49 4 (.slice (J ⟨b,0,Y⟩) 0 0) 0 [])
  (hx:a.eval x=Z hA c.DV.length hc) (hB:B<=w.heap.size) (hh:EN w B hA c.DV) (hl:c.DV.length<=20) (hbase:base<=w.heap.size)
  (h:∀A' k' w',Gr w w'->KW base B c (Z A' c.DV.length k') w'->wpList DU ops Q rest (a.put o.dst (Z A' c.DV.length k')) w'):wpList DU ops Q (o::rest) a w:=by
 obtain⟨v',w',hr,hg,hv⟩:=KA (hc:=hc) h0 hB hh hl hbase;obtain⟨A',k',rfl⟩:∃A' k',v'=Z A' c.DV.length k':=by
  obtain⟨_,xs,h,_⟩:=hv;exact E9 h
 refine wpList_plain hgd λK hK=>?_;unfold Oper.wp execOp;simp only[ho,resolve,invoke,builtin,Sem.run_bind,Sem.run_pure,Result.andThen_ok,Cr,Cd,CG,hs,hx,a6,hr];exact hK _ _ (h A' k' w' hg hv)
end
structure OC (w:I)(B q g cap:Nat)(c:D9)(nA:Option bc)(nc:Nat)(xs:List E)(W:I):Prop where
 gr:Gr w W
 bd:w.heap.size=q/\q+2<=g/\g<W.heap.size
 qo:W.heap[q]?=J (M #[Z nA c.DW.length nc,.slice (J ⟨g,0,Y⟩) c.DV.length cap] 25 (0,0))
 ro:W.heap[q+1]?=J (M #[.slice Y 0 0,.slice Y 0 0] 25 (0,0))
 own:W.ownsRow (q+2) 49 4 (.slice (J ⟨g,0,Y⟩) c.DV.length cap) c.DV.length xs
 I5:∀(i:Nat) (h:EG),c.DV[i]?=J h->∃y,(∀j,j<4->xs[i*4+j]?=(cg h y)[j]?)/\∃A cc,y=Z A h.off.length cc/\RI W B A h.off
 DW:RI W B nA c.DW
section
variable {w W W':I} {B q g cap nc:Nat} {c:D9} {nA:Option bc} {xs:List E}
def OC.Q7 (h:OC w B q g cap c nA nc xs W)(hB:B<=w.heap.size)(hg:Gr w W')(hz:W.heap.size<=W'.heap.size)(hk:∀b,b<W.heap.size->b<q+2\/b=g->W'.heap[b]?=W.heap[b]?):OC w B q g cap c nA nc xs W':=by
 obtain⟨b1,b2,b3⟩:=h.bd;have hz:=h.gr.size;have a6:∀ {A':Option bc} {l:List Int},RI W B A' l->RI W' B A' l:=λhr=>hr.keep λb o hb=>AT (hk b (by omega) (.inl (by omega)));refine⟨hg,⟨b1,b2,by omega⟩,(hk q (by omega) (.inl (by omega))).trans h.qo,(hk (q+1) (by omega) (.inl (by omega))).trans h.ro,ar h.own λb hb hl=>hk b hl (.inr (by injection hb with e;exact e.symm)),λi x hx=>?_,a6 h.DW⟩;obtain⟨y,h1,A,cc,e,hr⟩:=h.I5 i x hx
 exact⟨y,h1,A,cc,e,a6 hr⟩
def OC.fin {k:Nat}{L:List Int}{A:Option bc}{ck:Nat}(h:OC w B q g cap c nA nc xs W)(hB:B<=w.heap.size)(hk:k<c.DV.length)(ho:W.ownsRow (q+2) 3 1 (Z A L.length ck) L.length (L.map (U X)))(v0 v1:E) :
  let W8:=((W.setCell ⟨g,k*4+3,Y⟩ (Z A L.length ck)).setCell ⟨q+1,0,Y⟩ v0).setCell ⟨q+1,1,Y⟩ v1
  Gr w W8/\RI W8 W8.heap.size nA c.DW/\EN W8 W8.heap.size (J ⟨g,0,Y⟩) (c.DV.set k { c.h k with off:=L }):=by
 obtain⟨b1,b2,b3⟩:=h.bd;have hz:=h.gr.size;intro W8;have zx:W8.heap.size=W.heap.size:=by simp[W8,World.setCell]
 have hs2:∀b,b≠q+1->W8.heap[b]?=(W.setCell ⟨g,k*4+3,Y⟩ (Z A L.length ck)).heap[b]?:=λb hb=>(AR _ _ _ _ hb).trans (AR _ _ _ _ hb);have hs:∀b,b≠g->b≠q+1->W8.heap[b]?=W.heap[b]?:=λb h1 h2=>(hs2 b h2).trans (AR _ _ _ _ h1)
 have zm:W8.ownsRow (q+2) 49 4 (.slice (J ⟨g,0,Y⟩) c.DV.length cap) c.DV.length (xs.set (k*4+3) (Z A L.length ck)):=ar (h.own.stored (k*4+3) _).1 λb hb _=>hs2 b (by
  have:g=b:=by injection hb
  omega)
 have hoL:W8.ownsRow (q+2) 3 1 (Z A L.length ck) L.length (L.map (U X)):=ar ho λb hb _=>hs b (λe=>cj (by decide) ho h.own hb (by rw[e];rfl)) (by have:=(ho.lt b hb).1;omega);have a6:∀ {A':Option bc} {l:List Int},RI W B A' l->RI W8 W8.heap.size A' l:=λhr=>(hr.keep λb o hb=>AT (hs b (by omega) (by omega))).more (by omega);have aB:xs.length=c.DV.length*4:=h.own.1;refine⟨((h.gr.setCell (by show _<=g;omega) _).setCell (by show _<=q+1;omega) _).setCell (by show _<=q+1;omega) _,a6 h.DW,λ_=>⟨g,0,rfl,by omega,λi x hx=>?_⟩⟩
 have a7:i<c.DV.length:=by have:=(AV.1 hx).1;simpa using this
 have key:∃A' c',(∀j,j<4->(xs.set (k*4+3) (Z A L.length ck))[i*4+j]?=(cg x (Z A' x.off.length c'))[j]?)/\RI W8 W8.heap.size A' x.off:=by
  by_cases e:i=k
  .subst e;rw[CF a7] at hx;injection hx with hx
   subst hx;obtain⟨y,h1,_⟩:=h.I5 i (c.h i) (by unfold D9.h;rw[AB a7];rfl);obtain⟨A',c',e',a8⟩:=Dn hoL;injection e' with e1 _ e2
   subst e1 e2;refine⟨A,ck,λj hj=>?_,a8⟩;by_cases e3:j=3
   .subst e3;rw[CF (by omega)];rfl
   .rw[Cl (by omega),h1 j hj];rcases(show j=0\/j=1\/j=2 by omega) with rfl|rfl|rfl<;>rfl
  .rw[Cl (Ne.symm e)] at hx;obtain⟨y,h1,A',c',rfl,hr⟩:=h.I5 i x hx;exact⟨A',c',λj hj=>by rw[Cl (by omega)];exact h1 j hj,a6 hr⟩
 obtain⟨A',c',hy,hr⟩:=key;have at_:∀j z,j<4->(cg x (Z A' x.off.length c'))[j]?=J z->W8.cell? ⟨g,0+i*4+j,Y⟩=J z:=λj z aA hz=>by
  rw[show 0+i*4+j=i*4+j by omega,zm.cellAt (i*4+j) (by omega),hy j aA];exact hz
 exact⟨at_ 0 _ (by omega) rfl,at_ 1 _ (by omega) rfl,at_ 2 _ (by omega) rfl,A',c',at_ 3 _ (by omega) rfl,hr⟩
end
def uS (nA hA:Option bc)(nc hc k:Nat)(d:Int)(c:D9)(w:I)(B:Nat)(hB:B<=w.heap.size)(hn:RI w B nA c.DW)(hh:EN w B hA c.DV)(aD:c.Ok)(hk:k<c.DV.length) :
  bn DU 44 #[Ef nA hA c nc hc,U X k,U X d] w λe w'=>∃hA' hc',e=.returned (Ef nA hA' (Ho c k d) nc hc')/\Gr w w'/\RI w' w'.heap.size nA c.DW/\EN w' w'.heap.size hA' (Ho c k d).DV:=by
 unfold Ef;obtain⟨W0,zM⟩:∃W0:I,W0=(w.alloc (M #[Z nA c.DW.length nc,Z hA c.DV.length hc] 25)).alloc (M #[.slice Y 0 0,.slice Y 0 0] 25):=⟨_,rfl⟩;have zL:Gr w W0:=zM▸((Gr.refl w).alloc _).alloc _;have zF:W0.heap.size=w.heap.size+2:=by rw[zM];simp
 have aF:Hid (W0.heap[w.heap.size]?=J (M #[Z nA c.DW.length nc,Z hA c.DV.length hc] 25 (0,0))/\W0.heap[w.heap.size+1]?=J (M #[.slice Y 0 0,.slice Y 0 0] 25 (0,0))):=Ay (by
  rw[zM]
  exact⟨(ae _ _ (by simp)).trans (heap_alloc_new _ _),aM _ _ (by simp)⟩)
 have HW:=Ay zM;have aR:=Ay zL;have HN:=Ay (hn.gr hB zL);have HH:=Ay ((hh.keep λb o hb=>zL.cell (p:=⟨b,o,Y⟩) (AC hb hB):EN W0 B hA c.DV));have aS:=Ay aD;have b5:=aD.n5;have h4:=aD.h4;obtain⟨k0,k1⟩:=D5 aF.out.1 0;obtain⟨k2,k3⟩:=D5 aF.out.1 1;simp only[Bg,Be,Bd] at k0 k2;have kl:w.heap.size<W0.heap.size:=by omega
 clear zM zL hn hh aD;go_enter Sq.func44,Tryz.ntmps44
 have aT:Hid ((W0.alloc (M #[] 49)).ownsRow (w.heap.size+2) 49 4 (.slice (J ⟨w.heap.size+1+1,0,Y⟩) 0 0) 0 []):=Ay (by
  have:=CW W0 (base:=w.heap.size+2) (e:=49) (size:=4) #[] 0 (by omega) (AU _) rfl
  rw[zF] at this;exact this)
 go_wp2_with (at_builtin;rw[<-HW.out];refine yB rfl _ _ rfl rfl (B:=B) (hc:=hc) (hA:=hA) (c:=c) rfl aT.out rfl ?c1 ?c2 ?c3 ?c4 ?_)
 case c1=>simp;omega
 case c2=>exact HH.out.keep λb o hb=>AW _ _ _ (by show b<_;omega)
 case c3=>omega
 case c4=>simp;omega
 intro A' k' w1 zJ aJ;have a7:Gr W0 w1:=((Gr.refl W0).alloc _).trans zJ;obtain⟨g,cap,hA',hgb,zQ⟩:∃g cap,A'=J ⟨g,0,Y⟩/\w.heap.size+2<=g/\g<w1.heap.size:=by
  obtain⟨_,xs,h,_⟩:=aJ;obtain⟨g,cap,e,h1,h2⟩:=h.form (by omega);injection e with e1 _ _
  exact⟨g,cap,e1,h1,h2⟩
 subst hA'
 have aK:Hid (∃xs,OC w B w.heap.size g k' c nA nc xs (w1.setCell ⟨w.heap.size,1,Y⟩ (.slice (J ⟨g,0,Y⟩) c.DV.length k'))):=Ay (by
  obtain⟨_,xs,ho,aP⟩:=aJ;have hs:∀b,b≠w.heap.size->(w1.setCell ⟨w.heap.size,1,Y⟩ (.slice (J ⟨g,0,Y⟩) c.DV.length k')).heap[b]?=w1.heap[b]?:=λb hb=>AR _ _ _ _ hb;refine⟨xs,(aR.out.trans a7).setCell (AA _) _,⟨rfl,by omega,by simpa [World.setCell] using zQ⟩,?_,(hs _ (by omega)).trans ((a7.below.block _ (by omega)).trans aF.out.2),ar ho λb hb _=>hs b (by have:=(ho.lt b hb).1;omega),λi x hx=>?_,(HN.out.gr (by omega) a7).keep λb o hb=>AT (hs b (by omega))⟩
  .exact(aI ((a7.below.block _ (by omega)).trans aF.out.1)).trans rfl
  .obtain⟨y,h1,A,cc,e,hr⟩:=aP i x hx
   exact⟨y,h1,A,cc,e,hr.keep λb o hb=>AT (hs b (by omega))⟩)
 have k4:=(a7.cell (p:=⟨w.heap.size,1,Y⟩) kl).trans k2;have kl1:w.heap.size<w1.heap.size:=by have:=a7.size;omega
 have k5:=(a7.frozen (p:=⟨w.heap.size,1,Y⟩) kl).trans k3;clear aJ zJ a7 k0 k1 k2 k3;go_wp2;generalize w1.setCell ⟨w.heap.size,1,Y⟩ (.slice (J ⟨g,0,Y⟩) c.DV.length k')=W1 at aK ⊢;obtain⟨xs,hoc⟩:=aK.out;have HC:=Ay hoc;clear aK hoc k4 k5;go_loopw [7,8] (λl i wr=>∃j:Nat,j<=c.DW.length/\i=U X j/\OC w B w.heap.size g k' c nA nc xs wr/\∃v,v=l/\wr.ownsRow (w.heap.size+2) 3 1 v (IC (c.h k).off d j).length ((IC (c.h k).off d j).map (U X))) (λ_ i _=>c.DW.length-(C i).toNat)
 case atStart=>exact⟨0,by omega,rfl,HC.out,_,rfl,Bw _ _ _ _⟩
 case round =>
  obtain⟨j,hj,rfl,a6,l,rfl,aC⟩:=hrel;have aG:=Ay a6;have a8:=Ay aC;obtain⟨s0,s1⟩:=D5 a6.qo 0;obtain⟨s2,s3⟩:=D5 a6.qo 1;simp only[Bg,Be,Bd] at s0 s2;obtain⟨-,zI,aV⟩:=a6.bd;have b6:w.heap.size<wr.heap.size:=by omega
  obtain⟨y,hy,A,cc,rfl,aL⟩:=a6.I5 k (c.h k) (by unfold D9.h;rw[AB hk];rfl);have b7:xs.length=c.DV.length*4:=a6.own.1;have t3:wr.cell? ⟨g,k*4+3,Y⟩=J (Z A (c.h k).off.length cc):=by
   rw[a6.own.cellAt (k*4+3) (by omega)];exact hy 3 (by omega)
  have hol5:=(aS.out.off _ (c.Gs hk)).1;by_cases zY:j<c.DW.length
  .have aN:=Ay (Io A cc (c.h k).off (j:Int) wr B aL (by omega));have HD:Hid (∀b:Bool,(b=bh↔((j:Int)=d\/(j:Int)∈(c.h k).off))->IC (c.h k).off d (j+1)=IC (c.h k).off d j++if b then[(j:Int)] else[]):=Ay λb hb=>by
    show IC _ _ _++_=_;congr 1;cases b with
    |true=>rw[AF (hb.1 rfl)];rfl
    |false=>rw[AD λh=>by cases hb.2 h];rfl
   have b8:=jy (c.h k).off d j
   have aB : Hid (∀ v' w6, w6.ownsRow (w.heap.size + 2) 3 1 v' ((IC (c.h k).off d j).length + 1) ((IC (c.h k).off d j).map (U X) ++ [U X (j : Nat)]) -> (wr.alloc (M #[U X (j : Nat)] 3)).grownBy w6 l.ownBlock -> (wr.alloc (M #[U X (j : Nat)] 3)).drawn <= w6.drawn -> ((j : Int) = d ∨ (j : Int) ∈ (c.h k).off) ->
     OC w B w.heap.size g k' c nA nc xs w6/\w6.ownsRow (w.heap.size+2) 3 1 v' (IC (c.h k).off d (j+1)).length ((IC (c.h k).off d (j+1)).map (U X))):=Ay λv' w6 h1 h2 h3 h4=>by
    have hz6:=h2.size;refine⟨aG.out.Q7 hB ((aG.out.gr.alloc _).grown h2 h3 λb hb=>by have:=(a8.out.lt b hb).1;omega) (by simp at hz6;omega) λb hb h=>(h2.block b (by simp;omega) ?_).trans (ae _ _ hb),?_⟩
    .obtain h|rfl:=h
     .exact dz a8.out h
     .exact cj (by decide) aG.out.own a8.out rfl
    .rw[HD.out bh ⟨λ_=>h4,λ_=>rfl⟩];simpa using h1
   clear a6 aC hy aL;by_cases aA:(j:Int)=d
   .have aO:O ((j:Int)=d)=true:=BE aA;have HJE:=Ay aA;clear aA aN;go_wp2_with (at_builtin;refine iQ rfl _ _ rfl (w.heap.size+2) _ _ _ rfl (a8.out.alloc _) ⟨wr.heap.size,0,Y⟩ 1 (U X d) rfl ?c1 rfl ?c2 ?c3 ?_)
    case c1=>rw[AE _ _ _ _ rfl];rfl
    case c2=>omega
    case c3=>simp;omega
    intro v' w6 h1 h2 h3;have e:=HJE.out;subst e;have hend:=aB.out v' w6 h1 h2 h3 (.inl rfl);replace hend:=Ay hend;clear h1 h2 h3 aB aO;go_wp2;go_roundw
    case rel=>exact⟨j+1,by omega,by go_num,hend.out.1,_,rfl,hend.out.2⟩
    case measure=>simp[Proofs.intOf];omega
   .have aO:O ((j:Int)=d)=false:=Bx aA;generalize hb:O ((j:Int)∈(c.h k).off)=b at aN;have HB:=Ay hb;have HJD:=Ay aA;clear aA hb;go_wp2_with fail;refine aN.out.mono ?_;rintro e w' ⟨rfl,rfl⟩;cases b with
    |true =>
     go_wp2_with (at_builtin;refine iQ rfl _ _ rfl (w.heap.size+2) _ _ _ rfl (a8.out.alloc _) ⟨wr.heap.size,0,Y⟩ 1 (U X (j:Nat)) rfl ?c1 rfl ?c2 ?c3 ?_)
     case c1=>rw[AE _ _ _ _ rfl];rfl
     case c2=>omega
     case c3=>simp;omega
     intro v' w6 h1 h2 h3;have hend:=aB.out v' w6 h1 h2 h3 (.inr (B3 HB.out));replace hend:=Ay hend;clear h1 h2 h3 aB;go_wp2;go_roundw
     case rel=>exact⟨j+1,by omega,by go_num,hend.out.1,_,rfl,hend.out.2⟩
     case measure=>simp[Proofs.intOf];omega
    |false =>
     have HE:=HD.out bq ⟨(by intro h;cases h),λh=>AI h (by have h2:=of_decide_eq_false HB.out;exact λh=>h.elim HJD.out h2)⟩;replace HE:=Ay (HE.trans (B6 _));go_wp2;go_roundw
     case rel=>exact⟨j+1,by omega,by go_num,aG.out,_,rfl,by rw[HE.out];exact a8.out⟩
     case measure=>simp[Proofs.intOf];omega
  .have aU:j=c.DW.length:=by omega
   subst aU;obtain⟨A7,k7,rfl⟩:=E9 aC;obtain⟨t0,t1⟩:=D5 a6.ro 0;obtain⟨t2,t4⟩:=D5 a6.ro 1;simp only[Bg,Be,Bd] at t0 t2;have aW:w.heap.size+1<wr.heap.size:=by omega
   have aX:¬g=w.heap.size:=by omega
   have aY:¬w.heap.size=g:=by omega
   have aZ:¬g=w.heap.size+1:=by omega
   have hne4:¬w.heap.size+1=g:=by omega
   have f3:=a6.own.frozenAt (k*4+3);have aQ:=Ay (λv0 v1=>a6.fin hB hk aC v0 v1);clear a6 aC hy aL;go_wp2;obtain⟨W7,aH⟩:∃W7,W7=wr.setCell ⟨g,k*4+3,Y⟩ (Z A7 (IC (c.h k).off d c.DW.length).length k7):=⟨_,rfl⟩;have t5:W7.cell? ⟨w.heap.size+1,0,Y⟩=J (.slice Y 0 0):=by rw[aH,AL _ _ _ _ (by simp)];exact t0
   have t6:W7.cell? ⟨w.heap.size+1,1,Y⟩=J (.slice Y 0 0):=by rw[aH,AL _ _ _ _ (by simp)];exact t2
   rw[<-aH];have z0:((W7.setCell ⟨w.heap.size+1,0,Y⟩ (Z nA c.DW.length nc)).setCell ⟨w.heap.size+1,1,Y⟩ (.slice (J ⟨g,0,Y⟩) c.DV.length k')).cell? ⟨w.heap.size+1,0,Y⟩=J (Z nA c.DW.length nc):=by
    rw[AL _ _ _ _ (by simp)];exact AQ _ _ _ t5
   have z1:((W7.setCell ⟨w.heap.size+1,0,Y⟩ (Z nA c.DW.length nc)).setCell ⟨w.heap.size+1,1,Y⟩ (.slice (J ⟨g,0,Y⟩) c.DV.length k')).cell? ⟨w.heap.size+1,1,Y⟩=J (.slice (J ⟨g,0,Y⟩) c.DV.length k') :=
    AQ _ _ _ ((AL _ _ _ _ (by simp)).trans t6)
   have hend:=aQ.out (Z nA c.DW.length nc) (.slice (J ⟨g,0,Y⟩) c.DV.length k');rw[<-aH] at hend;have hlc:(Ho c k d).DV.length=c.DV.length:=Dd ..;refine G (v:=.agg #[Z nA c.DW.length nc,.slice (J ⟨g,0,Y⟩) c.DV.length k']) (by simp[results,Tryz.results44,go_sem,z0,z1]) rfl ⟨J ⟨g,0,Y⟩,⟨k',?_⟩,hend⟩;rw[hlc];rfl
open Go.Eu
def xz {nA hA gA A3 A4:Option bc}{N m nc hc gc cb gL nL Lc c3 c4 j:Nat}{f1 f2:Int}{W:I}{u:Nat->E}{Q:Exit->Act->I->Prop}(h1:u 1=Z gA N gc)(h4:u 4=.pointer (J ⟨cb,0,Y⟩))(a6:u 12=.slice (J ⟨gL,0,Y⟩) nL Lc)(a7:u 13=Z A4 N c4)(a8:u 14=U X (j:Nat))(hj:j<nL)
  (HC:Hid (∀V,Gr W V->(V.cell? ⟨cb,0,Y⟩=J (Z nA N nc)/\V.cell? ⟨cb,1,Y⟩=J (Z hA m hc)/\V.cell? ⟨gL,j,Y⟩=J (Z A3 N c3))/\cb<V.heap.size/\gL<V.heap.size))
  (aA:Hid (∀V,Gr W V->bn DU 45 #[.agg #[Z nA N nc,Z hA m hc],Z gA N gc,Z A3 N c3] V λe w'=>e=.returned (U X f1)/\Gr V w')) (aB:Hid (∀V,Gr W V->bn DU 45 #[.agg #[Z nA N nc,Z hA m hc],Z gA N gc,Z A4 N c4] V λe w'=>e=.returned (U X f2)/\Gr V w'))
  (hK:∀W' u',Gr W W'->(∀t,FL (II 13 Tryz.f14) t=bh->u' t=u t)->u' 65=.bool (O (f1<f2))->Q .normal ⟨T 75 u',[]⟩ W'):(Code.region 13 (II 13 Tryz.f14) bh).wp DU Q ⟨T 75 u,[]⟩ W:=by
 refine aW (R:=Gr) 12<|Ea (I6 (.agg #[Z nA N nc,Z hA m hc]) (G9 h4) rfl λw hg ev e=>by obtain⟨⟨k0,k1,k2⟩,l0,l1⟩:=HC.out w hg;clear hg;go_simp)<|Ea (Es h1)<|Ea (Es a6)<|Ea (Es a8)<|Ea (Ha j 1 (El 2) (El 3))<|Ea (Gp (El 4) λw hg=>by obtain⟨⟨k0,k1,k2⟩,l0,l1⟩:=HC.out w hg;assumption)<|Ea (Lg Sq.func45 [0,1,5] aA.out)<|Ea (I6 (.agg #[Z nA N nc,Z hA m hc]) (G9 h4) rfl λw hg ev e=>by obtain⟨⟨k0,k1,k2⟩,l0,l1⟩:=HC.out w hg;clear hg;go_simp)<|Ea (Es h1)<|Ea (Es a7)<|Ea (Lg Sq.func45 [7,8,9] aB.out)<|Ea (MK (.bool (O (f1<f2))) (El 6) (El 10))<|Gc λu w hg hf hv=>?_
 .exact hK w u hg hf (hv.at_ 11 65)
def qO (r:EH)(n:Nat)(hn:n<4)(m:Nat):∀k,k<=m->GQ (Ew r m) k n=((Gt r n k:Nat):Int):=by
 intro k
 induction k with
 |zero=>intro _;rfl
 |succ k ih =>
  intro hk;have e:(Ew r m)[k]?.getD []=wl (r k):=by
   rw[AB (by rw[EE];omega)];simp[Ew]
  show GQ (Ew r m) k n+(if(n:Int)∈(Ew r m)[k]?.getD [] then 1 else 0)=_;rw[ih (by omega),e];show _=((Gt r n k+(if(r k).testBit n then 1 else 0):Nat):Int);by_cases hb:(r k).testBit n=bh
  .rw[AF ((iG n hn).2 hb),AF hb];omega
  .rw[AD λh=>hb ((iG n hn).1 h),AD hb];omega
def _root_.Go.Sq.ER.OI {w:I}{B:Nat}{A:Option bc}{r:EH}{m:Nat}(h:ER w B A (Ew r m))(k:Nat)(hk:k<=m:=by omega):ER w B A (Ew r k):=λzU=>by
 have a7:0<k:=by
  obtain h0|h0:=Bs k
  .subst h0;exact AI rfl zU
  .exact h0
 obtain⟨b,o,e,hb,hc⟩:=h (λe=>by have:=AX List.length e;rw[EE] at this;simp at this;omega);refine⟨b,o,e,hb,λi l hi=>hc i l ?_⟩;have a6:=(AV.1 hi).1;rw[EE] at a6;rw[<-hi];simp[Ew,BK,Cn a6,Cn (AC a6 hk)]
def J8 (c:D9)(r:EH)(k:Nat):Int×Int×Int:=if(Ej c r k).1=0 then(0,0,0) else Ej c r k
def og (nA hA gA:Option bc)(nc hc gc:Nat)(c:D9)(r:EH)(k:Nat)(w:I)(B:Nat)(hB:B<=w.heap.size)(hn:RI w B nA c.DW)(hh:EN w B hA c.DV)(hg:ER w B gA (Ew r (k+1)))(aU:c.Ok)(hk:k<c.DW.length)(hx:∀i,c.has (r i))(hgc:k<gc) :
  bn DU 66 #[Ef nA hA c nc hc,Z gA (k+1) gc] w λe w'=>e=.returned (.tuple #[Gw (J8 c r k),.bool (O ((Ej c r k).1≠0))])/\Gr w w':=by
 unfold Ef;obtain⟨W0,zM⟩:∃W0:I,W0=(w.alloc (M #[Z nA c.DW.length nc,Z hA c.DV.length hc] 25)).alloc (M #[U X 0,U X 0,U X 0] 124):=⟨_,rfl⟩;have zL:Gr w W0:=zM▸((Gr.refl w).alloc _).alloc _;have zF:W0.heap.size=w.heap.size+2:=by rw[zM];simp
 have HW:=Ay zM;have aP:=Ay zL;have zp:W0.cell? ⟨w.heap.size,0,Y⟩=J (Z nA c.DW.length nc)/\W0.cell? ⟨w.heap.size,1,Y⟩=J (Z hA c.DV.length hc):=by
  rw[zM,AW _ _ _ (by simp),AE _ _ _ _ rfl,AW _ _ _ (by simp),AE _ _ _ _ rfl];exact⟨rfl,rfl⟩
 have aJ:∀b o,b<B->W0.cell? ⟨b,o,Y⟩=w.cell? ⟨b,o,Y⟩:=λb o hb=>zL.cell (AC hb hB);have hP:FE W0 W0.heap.size w.heap.size c nA hA nc hc:=⟨by omega,zp.1,zp.2,(hn.gr hB zL).more (by omega),(hh.keep aJ).more (by omega)⟩;have HP:=Ay hP;have hG:=(hg.gr hB zL).more (B':=W0.heap.size) (by omega);obtain⟨gb,go,rfl,hbg,_⟩:=id (hG (by simp[Ew]));have aV:Hid (∀V,Gr W0 V->ER V V.heap.size (J ⟨gb,go,Y⟩) (Ew r (k+1))):=Ay λV hV=>(hG.gr (AA _) hV).more hV.size
 have aG:Hid (∀V,Gr W0 V->∀i,i<=k->∃lA lc,V.cell? ⟨gb,go+i,Y⟩=J (Z lA (wl (r i)).length lc)/\RI V V.heap.size lA (wl (r i))):=Ay λV hV i hi=>by
  obtain⟨b,o,e,hb,hc⟩:=aV.out V hV (by simp[Ew]);cases e;exact hc i _ (by simp[Ew,Cn (show i<k+1 by omega)])
 have aW:Hid (∀V,Gr W0 V->gb<V.heap.size):=Ay λV hV=>AC hbg hV.size;have aL:Hid (∀w2,Gr W0 w2->(w2.cell? ⟨w.heap.size+1,0,Y⟩=J (U X 0)/\w2.cell? ⟨w.heap.size+1,1,Y⟩=J (U X 0)/\w2.cell? ⟨w.heap.size+1,2,Y⟩=J (U X 0))/\w2.frozen? ⟨w.heap.size+1,0,Y⟩=bq/\w2.frozen? ⟨w.heap.size+1,1,Y⟩=bq/\w2.frozen? ⟨w.heap.size+1,2,Y⟩=bq):=Ay λw2 hg=>by
  have e:∀o,w2.cell? ⟨w.heap.size+1,o,Y⟩=(#[U X 0,U X 0,U X 0]:Array E)[o]?/\w2.frozen? ⟨w.heap.size+1,o,Y⟩=false:=λo=>by
   rw[hg.cell (by show w.heap.size+1<_;omega),hg.frozen (by show w.heap.size+1<_;omega),zM,AE _ _ _ _ (by simp),By _ _ _ _ (by simp)];exact⟨rfl,rfl⟩
  exact⟨⟨(e 0).1,(e 1).1,(e 2).1⟩,(e 0).2,(e 1).2,(e 2).2⟩
 have HX:=Ay hx;have bE:=Ay aU;have bJ:=aU.n5;have h4:=aU.h4;clear zM zL zp aJ hP hG hn hh hg hx aU;go_enter Sq.func66,Tryz.ntmps66;go_wp2;rw[<-HW.out];go_loopw [7] (λi wr=>∃q:Nat,q<=3/\i=U X ((q+1:Nat):Int)/\Gr W0 wr/\∀j,j<q->breaks c r k j=Y) (λi _=>4-(C i).toNat)
 case atStart=>exact⟨0,by omega,rfl,.refl _,oD _⟩
 case round =>
  obtain⟨q,bK,rfl,zV,hb⟩:=hrel;have aD:=Ay zV;have HB:=Ay hb;have hz:=zV.size;clear zV hb;obtain rfl|rfl|rfl|rfl:q=0\/q=1\/q=2\/q=3:=by omega
  ·
   clear hz;rw[show((0+1:Nat):Int)=1 from rfl];go_wp2;go_loopw [8] (λi wr=>∃j:Nat,j<=(wl (r k)).length/\i=U X j/\Gr W0 wr/\((wl (r k)).take j).find? (λh=>Gu c r k 0 h.toNat)=Y) (λi _=>(wl (r k)).length-(C i).toNat)
   case atStart=>exact⟨0,by omega,rfl,aD.out,by simp⟩
   case round =>
    obtain⟨j,hj,rfl,zV,hnone⟩:=hrel;obtain⟨wq,rfl⟩:∃wq,wq=wr:=⟨_,rfl⟩;have HN:=Ay hnone;have a7:=Ay zV;have a6:=Ay (HP.out.on zV);obtain⟨lA,lc,hrow,a8⟩:=aG.out wq zV k (by omega);have hbg:=aW.out wq zV;have zE:=zV.size;have bF:=aY (r k);clear hnone;by_cases zY:j<(wl (r k)).length
    .obtain⟨bl,ol,rfl,hbl,hcell⟩:=a8.at_ zY;obtain⟨n,hn,aH,aX,bG⟩:=Kg (HX.out k) zY;rw[hn] at hcell;have HE:=Ay hn;have zp:=a6.out.c0;have zw:=a6.out.c1;have aZ:=a6.out.lt;obtain⟨zq,aQ,e2,aM,hh⟩:=a6.out.Fx.at_ aH;obtain⟨-,-,aF,oA,oc,aT,aN⟩:=hh;subst e2;clear hn a8 zV;have aA:=Ay (Io oA oc (c.h n).off (k:Int) wq wq.heap.size aN (AH (bE.out.off _ (c.Gs aH)).1 (by omega)))
     have aB:O ((k:Int)∈(c.h n).off)=Gu c r k 0 n:=rfl;rw[aB] at aA;cases hq:Gu c r k 0 n with
     |true =>
      rw[hq] at aA;have HF:=Ay (show breaks c r k 0=J ((n:Nat):Int) by have:=dp zY HN.out (by rw[HE.out];exact hq);rw[HE.out] at this;exact this);clear hq aB;go_wp2_with fail;refine aA.out.mono ?_;rintro e w' ⟨rfl,rfl⟩;obtain⟨⟨aI,zj,zz⟩,b7,b8,hf2⟩:=aL.out wq a7.out;have hz3:=a7.out.size;go_wp2;obtain⟨s0,s1,s2⟩:=K4 aI zj zz;have HL:=Ay (show Ej c r k=(1,(k:Int),(n:Int)) by unfold Ej;rw[HF.out])
      refine G (v:=.tuple #[Gw (1,k,n),.bool bh]) (by simp[results,H,go_sem,Gw,s0,s1,s2]) rfl ⟨?_,?_⟩
      .rw[show J8 c r k=(1,(k:Int),(n:Int)) by unfold J8;rw[HL.out];rfl,HL.out];rfl
      .exact(((aP.out.trans a7.out).setCell (BU _) _).setCell (BU _) _).setCell (BU _) _
     |false =>
      rw[hq] at aA;have HF:=Ay (cJ zY HN.out (by rw[HE.out];exact hq));clear hq aB;go_wp2_with fail;refine aA.out.mono ?_;rintro e w' ⟨rfl,rfl⟩;go_wp2;go_roundw
      case rel=>exact⟨j+1,by omega,by go_num,a7.out,HF.out⟩
      case measure=>simp[Proofs.intOf];omega
    .have HF:=Ay (show breaks c r k 0=Y by have:=HN.out;rw[Bb (by omega)] at this;exact this);clear HN;go_wp2;go_roundw
     case rel=>exact⟨1,by omega,by go_num,a7.out,λj hj=>by
      obtain h|rfl:=Bv (BM hj)
      .exact HB.out j h
      .exact HF.out⟩
     case measure=>simp[Proofs.intOf]
  ·
   clear hz;rw[show((1+1:Nat):Int)=2 from rfl];go_wp2;go_loopw [8] (λi wr=>∃j:Nat,j<=(wl (r k)).length/\i=U X j/\Gr W0 wr/\((wl (r k)).take j).find? (λh=>Gu c r k 1 h.toNat)=Y) (λi _=>(wl (r k)).length-(C i).toNat)
   case atStart=>exact⟨0,by omega,rfl,aD.out,by simp⟩
   case round =>
    obtain⟨j,hj,rfl,zV,hnone⟩:=hrel;obtain⟨wq,rfl⟩:∃wq,wq=wr:=⟨_,rfl⟩;have HN:=Ay hnone;have a7:=Ay zV;have a6:=Ay (HP.out.on zV);obtain⟨lA,lc,hrow,a8⟩:=aG.out wq zV k (by omega);have hbg:=aW.out wq zV;have zE:=zV.size;have bF:=aY (r k);clear hnone;by_cases zY:j<(wl (r k)).length
    .obtain⟨bl,ol,rfl,hbl,hcell⟩:=a8.at_ zY;obtain⟨n,hn,aH,aX,bG⟩:=Kg (HX.out k) zY;rw[hn] at hcell;have HE:=Ay hn;have zp:=a6.out.c0;have zw:=a6.out.c1;have aZ:=a6.out.lt;obtain⟨zq,aQ,e2,aM,hh⟩:=a6.out.Fx.at_ aH;obtain⟨-,-,aF,oA,oc,aT,aN⟩:=hh;subst e2;clear hn a8 zV;by_cases aJ:k=0
     .have hq:Gu c r k 1 n=false:=by subst aJ;rfl
      have HF:=Ay (cJ zY HN.out (by rw[HE.out];exact hq));subst aJ;rw[Nat.add_zero] at hrow;go_wp2;go_roundw
      case rel=>exact⟨j+1,by omega,by go_num,a7.out,HF.out⟩
      case measure=>simp[Proofs.intOf];omega
     obtain⟨pA,pc,hprow,b9⟩:=aG.out wq a7.out (k-1) (by omega);have hwlp:=aY (r (k-1));have aA:=Ay (Io pA pc (wl (r (k-1))) (n:Int) wq wq.heap.size b9 (by omega));have aB:O ((n:Int)∈wl (r (k-1)))=Gu c r k 1 n:=by
      show _=(O (0<k)&&(r (k-1)).testBit n);rw[BE (by omega:0<k),Cg,S,decide_eq_true_iff];exact iG n aX
     rw[aB] at aA;have hks:0<k:=by omega
     have hke:(k:Int)-1=((k-1:Nat):Int):=by omega
     clear aJ b9;cases hq:Gu c r k 1 n with
     |true =>
      rw[hq] at aA;have HF:=Ay (show breaks c r k 1=J ((n:Nat):Int) by have:=dp zY HN.out (by rw[HE.out];exact hq);rw[HE.out] at this;exact this);clear hq aB;go_wp2_with fail;refine aA.out.mono ?_;rintro e w' ⟨rfl,rfl⟩;obtain⟨⟨aI,zj,zz⟩,b7,b8,hf2⟩:=aL.out wq a7.out;have hz3:=a7.out.size;go_wp2;obtain⟨s0,s1,s2⟩:=K4 aI zj zz;have HL:=Ay (show Ej c r k=(2,(k:Int),(n:Int)) by unfold Ej;rw[HB.out 0 (by omega)];rw[HF.out])
      refine G (v:=.tuple #[Gw (2,k,n),.bool bh]) (by simp[results,H,go_sem,Gw,s0,s1,s2]) rfl ⟨?_,?_⟩
      .rw[show J8 c r k=(2,(k:Int),(n:Int)) by unfold J8;rw[HL.out];rfl,HL.out];rfl
      .exact(((aP.out.trans a7.out).setCell (BU _) _).setCell (BU _) _).setCell (BU _) _
     |false =>
      rw[hq] at aA;have HF:=Ay (cJ zY HN.out (by rw[HE.out];exact hq));clear hq aB;go_wp2_with fail;refine aA.out.mono ?_;rintro e w' ⟨rfl,rfl⟩;go_wp2;go_roundw
      case rel=>exact⟨j+1,by omega,by go_num,a7.out,HF.out⟩
      case measure=>simp[Proofs.intOf];omega
    .have HF:=Ay (show breaks c r k 1=Y by have:=HN.out;rw[Bb (by omega)] at this;exact this);clear HN;go_wp2;go_roundw
     case rel=>exact⟨2,by omega,by go_num,a7.out,λj hj=>by
      obtain h|rfl:=Bv (BM hj)
      .exact HB.out j h
      .exact HF.out⟩
     case measure=>simp[Proofs.intOf]
  ·
   clear hz;rw[show((2+1:Nat):Int)=3 from rfl];go_wp2;go_loopw [8] (λi wr=>∃j:Nat,j<=(wl (r k)).length/\i=U X j/\Gr W0 wr/\((wl (r k)).take j).find? (λh=>Gu c r k 2 h.toNat)=Y) (λi _=>(wl (r k)).length-(C i).toNat)
   case atStart=>exact⟨0,by omega,rfl,aD.out,by simp⟩
   case round =>
    obtain⟨j,hj,rfl,zV,hnone⟩:=hrel;obtain⟨wq,rfl⟩:∃wq,wq=wr:=⟨_,rfl⟩;have HN:=Ay hnone;have a7:=Ay zV;have a6:=Ay (HP.out.on zV);obtain⟨lA,lc,hrow,a8⟩:=aG.out wq zV k (by omega);have hbg:=aW.out wq zV;have zE:=zV.size;have bF:=aY (r k);clear hnone;by_cases zY:j<(wl (r k)).length
    .obtain⟨bl,ol,rfl,hbl,hcell⟩:=a8.at_ zY;obtain⟨n,hn,aH,aX,bG⟩:=Kg (HX.out k) zY;rw[hn] at hcell;have HE:=Ay hn;have zp:=a6.out.c0;have zw:=a6.out.c1;have aZ:=a6.out.lt;obtain⟨zq,aQ,e2,aM,hh⟩:=a6.out.Fx.at_ aH;obtain⟨-,-,aF,oA,oc,aT,aN⟩:=hh;subst e2;clear hn a8 zV
     have bA:=Ay λV (hV:Gr wq V)=>qG (J ⟨gb,go,Y⟩) gc (Ew r k) n V V.heap.size ((aV.out V (a7.out.trans hV)).OI k) (by rw[EE];omega) (λx hx=>by
      obtain⟨i,_,rfl⟩:=Bf.1 hx
      exact AH (aY _) (by omega))
     rw[EE,qO r n aX k k (AA _)] at bA;have aB:O (((Gt r n k:Nat):Int) ≥ (c.h n).most)=Gu c r k 2 n:=rfl;have aR:Hid (∀V,Gr wq V->(V.cell? ⟨w.heap.size,1,Y⟩=J (.slice (J ⟨zq,aQ,Y⟩) c.DV.length hc)/\V.cell? ⟨zq,aQ+n*4+2,Y⟩=J (U X (c.h n).most))/\w.heap.size<V.heap.size/\zq<V.heap.size):=Ay λV hV=>⟨⟨(hV.cell (p:=⟨w.heap.size,1,Y⟩) aZ).trans zw,(hV.cell (p:=⟨zq,aQ+n*4+2,Y⟩) aM).trans aF⟩,AC aZ hV.size,AC aM hV.size⟩
     clear aF aT aN zp zw;go_wp2;rename_i bB;refine iF 92 rfl λu2 hu=>?_;refine uK (hu 1) (hu 2) (hu 6) (hu 9) (by omega) aH aR bA λW5 u6 bC aS h10=>?_;rw[fv (n:=92) [60,61,62,63,64,65,66,67,68,69,70,71,10] (by kernel_rfl) rfl hu aS];rw[aB] at h10;have aC:=Ay (a7.out.trans bC);clear hu aS aB bA aR;refine bB _ _ ?_;simp only[B7,CR,Cf,Cx];cases hq:Gu c r k 2 n with
     |true =>
      rw[hq] at h10;have HF:=Ay (show breaks c r k 2=J ((n:Nat):Int) by have:=dp zY HN.out (by rw[HE.out];exact hq);rw[HE.out] at this;exact this);simp only[h10];clear hq h10;obtain⟨⟨aI,zj,zz⟩,b7,b8,hf2⟩:=aL.out W5 aC.out;have hz3:=aC.out.size;go_wp2;obtain⟨s0,s1,s2⟩:=K4 aI zj zz;have HL:=Ay (show Ej c r k=(3,(k:Int),(n:Int)) by unfold Ej;rw[HB.out 0 (by omega)];rw[HB.out 1 (by omega)];rw[HF.out])
      refine G (v:=.tuple #[Gw (3,k,n),.bool bh]) (by simp[results,H,go_sem,Gw,s0,s1,s2]) rfl ⟨?_,?_⟩
      .rw[show J8 c r k=(3,(k:Int),(n:Int)) by unfold J8;rw[HL.out];rfl,HL.out];rfl
      .exact(((aP.out.trans aC.out).setCell (BU _) _).setCell (BU _) _).setCell (BU _) _
     |false =>
      rw[hq] at h10;have HF:=Ay (cJ zY HN.out (by rw[HE.out];exact hq));simp only[h10];clear hq h10;go_wp2;go_roundw
      case rel=>exact⟨j+1,by omega,by go_num,aC.out,HF.out⟩
      case measure=>simp[Proofs.intOf];omega
    .have HF:=Ay (show breaks c r k 2=Y by have:=HN.out;rw[Bb (by omega)] at this;exact this);clear HN;go_wp2;go_roundw
     case rel=>exact⟨3,by omega,by go_num,a7.out,λj hj=>by
      obtain h|rfl:=Bv (BM hj)
      .exact HB.out j h
      .exact HF.out⟩
     case measure=>simp[Proofs.intOf]
  ·
   have a6:=Ay (HP.out.on aD.out);obtain⟨nb,no,e0,bH,aO⟩:=a6.out.DW.at_ hk;subst e0;change wr.cell? ⟨nb,no+k,Y⟩=J (U X (c.need k)) at aO;obtain⟨lA,lc,hrow,a8⟩:=aG.out wr aD.out k (by omega);have bD:=aW.out wr aD.out;have bI:(H2 c (wl (r k))).sum=c.E3 (r k):=rfl
   have HD:Hid (∀V,Gr wr V->bn DU 97 #[.agg #[.slice (J ⟨nb,no,Y⟩) c.DW.length nc,Z hA c.DV.length hc],Z lA (wl (r k)).length lc] V λe w'=>e=.returned (U X (c.E3 (r k)))/\Gr V w'):=Ay λV hV=>sQ (J ⟨nb,no,Y⟩) hA lA nc hc lc c (wl (r k)) V V.heap.size (AA _) (HP.out.on (aD.out.trans hV)).Fx (a8.on hV) bE.out (AH (aY _) (by omega)) (λx hx=>by
    obtain⟨n,rfl,_,hb⟩:=Kf hx;have:=gP (HX.out k) hb
    omega)
   have aR:Hid (∀V,Gr wr V->(V.cell? ⟨w.heap.size,0,Y⟩=J (.slice (J ⟨nb,no,Y⟩) c.DW.length nc)/\V.cell? ⟨w.heap.size,1,Y⟩=J (Z hA c.DV.length hc)/\V.cell? ⟨gb,go+k,Y⟩=J (Z lA (wl (r k)).length lc)/\V.cell? ⟨nb,no+k,Y⟩=J (U X (c.need k)))/\w.heap.size<V.heap.size/\gb<V.heap.size/\nb<V.heap.size):=Ay λV hV=>by
    have hP:=a6.out.on hV;exact⟨⟨hP.c0,hP.c1,(hV.cell (p:=⟨gb,go+k,Y⟩) bD).trans hrow,(hV.cell (p:=⟨nb,no+k,Y⟩) bH).trans aO⟩,hP.lt,AC bD hV.size,AC bH hV.size⟩
   have b5:=Ay (show Ej c r k=if c.E3 (r k)<c.need k then(4,(k:Int),-1) else(0,-1,-1) by unfold Ej;rw[HB.out 0 (by omega),HB.out 1 (by omega),HB.out 2 (by omega)]);clear aO hrow a8 bI;go_wp2;rename_i bB;refine iF 92 rfl λu2 hu=>?_;refine uL (hu 1) (hu 2) (hu 6) hk aR HD λW5 u6 bC aS aK=>?_;rw[fv (n:=92) [77,78,79,80,81,82,83,84,85,86,87,88] (by kernel_rfl) rfl hu aS];have aC:=Ay (aD.out.trans bC)
   clear hu aS aR HD a6;refine bB _ _ ?_;simp only[B7,CR,Cf,Cx];obtain⟨⟨aI,zj,zz⟩,b7,b8,hf2⟩:=aL.out W5 aC.out;have hz3:=aC.out.size;obtain⟨s0,s1,s2⟩:=K4 aI zj zz;by_cases b6:c.E3 (r k)<c.need k
   .have HL:=Ay (show Ej c r k=(4,(k:Int),-1) by rw[b5.out,AF b6]);rw[BE b6] at aK;simp only[aK];clear aK b5;go_wp2;refine G (v:=.tuple #[Gw (4,k,-1),.bool bh]) (by simp[results,H,go_sem,Gw,s0,s1,s2]) rfl ⟨?_,?_⟩
    .rw[show J8 c r k=(4,(k:Int),-1) by unfold J8;rw[HL.out];rfl,HL.out];rfl
    .exact(((aP.out.trans aC.out).setCell (BU _) _).setCell (BU _) _).setCell (BU _) _
   .have HL:=Ay (show Ej c r k=(0,-1,-1) by rw[b5.out,AD b6]);rw[Bx b6] at aK;simp only[aK];clear aK b5;go_wp2;refine G (v:=.tuple #[Gw (0,0,0),.bool bq]) (by simp[results,H,go_sem,Gw,s0,s1,s2]) rfl ⟨?_,?_⟩
    .rw[show J8 c r k=(0,0,0) by unfold J8;rw[HL.out];rfl,HL.out];rfl
    .exact(((aP.out.trans aC.out).setCell (BU _) _).setCell (BU _) _).setCell (BU _) _
def yC {c:D9}{ls:List (List Int)}(h:Ek c ls=0){i:Nat}{l:List Int}(hi:ls[i]?=J l):wl (D4 ls i)=l:=by
 have a6:=D9.Ok.of (dO h);unfold D4;rw[hi];exact yy (qF ((jd h).2 l (B5 hi))) a6.h4
def sY {c:D9}{ls:List (List Int)}(hF:Ek c ls=0)(hl:ls.length=c.DW.length):Ew (D4 ls) c.DW.length=ls:=by
 refine List.ext_getElem (by rw[EE,hl]) λi h1 h2=>?_;simp only[Ew,C4,List.getElem_range];exact yC hF (AB h2)
def xB {ls:List (List Int)}{i:Nat}(h:ls.length<=i):D4 ls i=0:=by
 unfold D4;rw[BD h];rfl
open Go.Eu (aZ dA nX aS lP fQ fl ge)
def nd (W:I)(v:E)(w:I):Prop:=∃b,v=.slice (J ⟨b,0,Y⟩) 0 0/\w.ownsRow W.heap.size 22 1 (.slice (J ⟨b,0,Y⟩) 0 0) 0 []
def OJ (W:I)(n:Nat)(xs:List E)(v:E)(w:I):Prop:=w.ownsRow W.heap.size 22 1 v n xs
def Ph (W:I)(x:E)(v:E)(w:I):Prop:=∃b,v=.slice (J ⟨b,0,Y⟩) 1 1/\w.cell? ⟨b,0,Y⟩=J x/\W.heap.size<=b/\b<w.heap.size
def dg {w w':I}{base n s:Nat}{e:TypeId}{v:E}{xs:List E}(h:w.ownsRow base e s v n xs)(hg:Gr w w'):w'.ownsRow base e s v n xs:=ar h λb _ hl=>hg.below.block b hl
def qP (W:I):F3 Gr (nd W):=λ_ _ _ hg ⟨b,e,h⟩=>⟨b,e,dg h hg⟩
def sZ (W:I)(n:Nat)(xs:List E):F3 Gr (OJ W n xs):=λ_ _ _ hg h=>dg h hg
def OL (W:I)(x:E):F3 Gr (Ph W x):=λ_ _ _ hg ⟨b,e,h,h1,h2⟩=>⟨b,e,(hg.cell (p:=⟨b,0,Y⟩) h2).trans h,h1,AC h2 hg.size⟩
def s6 {W w:I}(hg:Gr W w):nd W (.slice (J ⟨w.heap.size,0,Y⟩) 0 0) (w.alloc (M #[] 22)):=⟨_,rfl,rfl,.inr ⟨w.heap.size,0,#[],rfl,hg.size,heap_alloc_new w _,AA _,AU _,rfl,rfl⟩⟩
def xC {W w:I}(hg:Gr W w)(x:E):Ph W x (.slice (J ⟨w.heap.size,0,Y⟩) 1 1) (w.alloc (M #[x] 22)):=⟨_,rfl,by rw[AE _ _ _ _ (by simp)];rfl,hg.size,by simp⟩
def Me {W w:I}(b:Nat){bb n:Nat}{v:E}{xs:List E}(hg:Gr W w)(h0:w.ownsRow W.heap.size 22 1 (.slice (J ⟨b,0,Y⟩) 0 0) 0 [])(h:w.ownsRow bb 22 1 v n xs)(hn:n<=1048576) :
  ∃v' w',(f #[26,26] 26 #[.slice (J ⟨b,0,Y⟩) 0 0,v]).run DU w=.ok v' w'/\Gr w w'/\w'.ownsRow W.heap.size 22 1 v' n xs:=by
 have ht:=Sq.underlying26;obtain⟨i0,hi,zF,zE,zD⟩:=info_parts Du;have hl:=h.1;obtain⟨rfl,rfl⟩|⟨g,cap,cur,rfl,h1,h2,h3,h4,h5,h6⟩:=h.2
 .have e:xs=[]:=Bc (by omega);subst e;exact⟨_,w,run_append_owned_none (P:=DU) w W.heap.size 26 26 22 i0 1 ht hi _ 0 [] h0,.refl w,h0⟩
 .obtain rfl|a7:=Bs n
  .have e:xs=[]:=Bc (by omega);subst e;refine⟨_,w,?_,.refl w,h0⟩;simp[f,run_underlying ht,sizeOf,typeInfo,hi,Builtin.lenOf,Builtin.firstCells,loadCells,loadCellsFrom,storeCells]
  .have hr := run_append_grow (P := DU) w 26 26 22 i0 _ ht hi zF ⟨b, 0, Y⟩ 0 0 [] (by simp) (fun j u hj => by simp at hj) ⟨g, 0, Y⟩ n cap xs (by rw [zE]; exact hl) (fun j u hj => h.cells (g := g) rfl j u hj) (by omega) (by omega) (by
    rw[zD];exact growslice_fits (by omega) (by omega))
   refine⟨_,_,hr,(Gr.refl w).drew.alloc _,?_⟩;have a6:=grownCap_ge w (0+n) 0 22;refine⟨hl,.inr ⟨w.heap.size,_,_,by rw[AO],hg.size,heap_alloc_new w.drew _,by omega,grownCap_le_maxLen w (0+n) 0 22 (by unfold maxLen;omega),?_,?_⟩⟩
   .rw[AO] at a6 ⊢;simp[size_zeroCells,hl];show n+_*1=_;omega
   .simp[hl]
section
variable {w:I} {o:Oper} {a:Act} {K:Act->I->Prop} {Q:Exit->Act->I->Prop}
def xD {t e:TypeId}(ht:DU.underlying t=J (.slice e))(he:(DU.info? e).map (λi=>(i.zero,i.size,i.bytes))=J (J (.slice Y 0 0),1,24))(s x:Operand)(ho:o.op=.call { callee:=.builtin .append,args:=#[s,x],argTypes:=#[t,t] })(a6:o.type=t)
  (base:Nat) (v:E) (n:Nat) (xs:List E) (hs:a.eval s=v) (zm:w.ownsRow base e 1 v n xs) (ad:bc) (c:Nat) (u:E) (hx:a.eval x=.slice (J ad) 1 c) (hc:w.cell? (ad.add 0)=J u) (h1:u.oneCell'=bh)
  (hn:n<=1048576) (hbase:base<=w.heap.size) (h:∀v' w',w'.ownsRow base e 1 v' (n+1) (xs++[u])->w.grownBy w' v.ownBlock->w.drawn<=w'.drawn->K (a.put o.dst v') w'):Oper.wp DU o a w K Q:=by
 obtain⟨i0,hi,zF,zE,zD⟩:=info_parts he
 obtain⟨v',w',hr,h2,h3,_⟩:=run_append_own (P:=DU) w base t o.type e i0 _ 1 24 ht hi zF zE zD rfl (by decide) v n xs zm ad 1 c [u] rfl (λj y hj=>by
  match j,hj with
  |0,hj=>cases hj;exact hc) (λy hy=>by
  simp only[AJ,AG,or_false] at hy
  subst hy;exact h1) (by unfold maxLen;omega) (by omega) hbase
 have hd:=Go.Eu.Gf DU (f #[t,t] o.type #[v,.slice (J ad) 1 c]) w #[];rw[Sem.runT_fst,hr] at hd;unfold Oper.wp execOp;simp only[ho,resolve,invoke,builtin,Sem.run_bind,Sem.run_pure,Result.andThen_ok,Cr,Cd,CG,hs,hx,hr];exact h v' w' h2 h3 hd
end
def yD {A:Option bc}{sg sn sc ln lc k bb n:Nat}{BV:E}{xs:List E}{W:I}{u:Nat->E}{Q:Exit->Act->I->Prop}(h1:u 1=BV)(h6:u 6=.slice (J ⟨sg,0,Y⟩) sn sc)(h7:u 7=U X (k:Nat))(hk:k<sn)(hn:n<=1048576)
  (HB:Hid (∀V,Gr W V->V.ownsRow bb 22 1 BV n xs)) (HC:Hid (∀V,Gr W V->V.cell? ⟨sg,k,Y⟩=J (Z A ln lc)/\sg<V.heap.size))
  (hK:∀W' u',Gr W W'->W'.ownsRow W.heap.size 22 1 (u' 8) (n+1) (xs++[Z A ln lc])->(∀t,FL (II 8 ak) t=bh->u' t=u t)->Q .normal ⟨T 52 u',[]⟩ W'):(Code.region 8 (II 8 ak) bh).wp DU Q ⟨T 52 u,[]⟩ W:=by
 refine aW (R:=Gr) 8<|Ea (J7 (nd W) (qP _) ?_)<|Ea (Es h1)<|Ea (J7 (OJ W n xs) (sZ _ _ _) ?_)<|Ea (Es h6)<|Ea (Es h7)<|Ea (Ha k 1 (El 3) (El 4))<|Ea (Gp (El 5) λw hg=>by obtain⟨k1,l1⟩:=HC.out w hg;assumption)<|Ea (J7 (Ph W (Z A ln lc)) (OL _ _) ?_)<|Gc λu w hg hf hv=>?_
 .intro u w hg hf hl hd;refine aU (op:=.buildSlice 26 0 #[]) (t:=26) rfl _ (w.alloc (M #[] 22)) (λev he=>?_) ((Gr.refl w).alloc _) (s6 hg);clear hg hf hl hd he;go_simp
 .intro u w hg hf hl hd;obtain⟨b,e1,h0⟩:=(hd.at_ 0 29);obtain⟨v,w9,hr,a7,h9⟩:=Me b hg h0 (HB.out w hg) hn;refine aU (op:=.call { callee:=Callee.builtin bk,args:=#[.tmp 29,.tmp 30],argTypes:=#[26,26] }) (t:=26) rfl v w9 (λev he=>?_) a7 h9;have e2:=(he.t 29).trans e1;have e3:=((he.t 30).trans (hd.at_ 1 30));exact je (by rw[e2,e3];exact hr)
 .intro u w hg hf hl hd;have e9:=(hd.at_ 6 35);refine aU (op:=.buildSlice 26 1 #[(0,.tmp 35)]) (t:=26) rfl _ (w.alloc (M #[Z A ln lc] 22)) (λev he=>?_) ((Gr.refl w).alloc _) (xC hg _);have e2:=((he.t 35).trans (hd.at_ 6 35));clear hg hf hl hd he;go_simp
 .have er:List.range' 8 ((II 8 ak).size-8)=[8,9]:=by kernel_rfl
  rw[er];have a6:OJ W n xs (u 31) w:=hv.at_ 2 31;have h36:Ph W (Z A ln lc) (u 36) w:=hv.at_ 7 36;obtain⟨b,e36,c36,_,_⟩:=h36;rw[wpOps_cons];refine lU (d:=J 37) (op:=.call { callee:=.builtin bk,args:=#[.tmp 31,.tmp 36],argTypes:=#[26,26] }) (t:=26) rfl (by trivial) λo q1 q2 q3=>?_;refine xD (t:=26) (e:=22) Sq.underlying26 Du (.tmp 31) (.tmp 36) q2 q3 W.heap.size (u 31) n xs (dM (by decide)) a6 ⟨b,0,Y⟩ 1 (Z A ln lc) ((dM (by decide)).trans e36) (by rw[Addr.add_lit];exact c36) rfl hn hg.size λv' w' zm hgrow hdr=>?_
  rw[q1,gJ,wpOps_cons];refine lC (d:=J 8) rfl ?_;show Q .normal _ _;have f8:FL (II 8 ak) 8=false:=by kernel_rfl
  have f37:FL (II 8 ak) 37=false:=by kernel_rfl
  refine hK _ _ (hg.grown hgrow hdr λq hq=>(a6.lt q hq).1) ?_ λt ht=>?_
  .rw[show GH (GH u (J 37) v') (J 8) (GH u (J 37) v' 37) 8=v' from(aV ..).trans (aV ..)];exact zm
  .have e8:t≠8:=λe=>by rw[e,f8] at ht;cases ht
   have e37:t≠37:=λe=>by rw[e,f37] at ht;cases ht
   exact(Fh e8).trans ((Fh e37).trans (hf t ht))
end Go.Sq
