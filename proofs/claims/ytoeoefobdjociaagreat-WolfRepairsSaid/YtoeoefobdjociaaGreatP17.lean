/- Parts of the proof. -/
import Derived.Test.YtoeoefobdjociaaGreatP16
set_option linter.all false
set_option maxHeartbeats 3200000
set_option maxRecDepth 1000000
open Go.Value renaming slice->Z,int->J
open Option renaming none->Y,some->U
open Go.IntKind renaming i64->I
open Go renaming World->X,Value->E,Calls->O,Addr->D
open Go.Proofs renaming intOf->F,size_putRow->C
namespace Go.Sq
def LY {w:X}{base:Nat}{v:E}{l:List (Int×Int)}(h:w.ownsRow base 160 2 v l.length (aO l)):∃A c,v=Z A l.length c/\Ik w w.heap.size A l:=by
 obtain⟨rfl,h0⟩|⟨g,cap,cur,rfl,_,hg,_⟩:=h.2
 .have:l=[]:=Bc h0;subst this;exact⟨Y,0,rfl,λh=>AI rfl h⟩
 .refine⟨_,cap,rfl,λ_=>⟨g,0,rfl,(Az.1 hg).1,λi x hx=>?_⟩⟩;have hi:=(AV.1 hx).1;have a6:l[i]?.getD (0,0)=x:=by rw[hx];rfl
  have e:∀j,(⟨g,0,Y⟩:D).add j=⟨g,0+j,Y⟩:=λj=>by unfold Addr.add;split<;>simp_all
  have h1:=h.cells (g:=g) rfl _ _ (iB hi).1;have h2:=h.cells (g:=g) rfl _ _ (iB hi).2;rw[e,a6] at h1 h2;exact⟨h1,by rw[CV];exact h2⟩
def RsK (w:X)(K:Nat->Prop)(A:Option D)(l:List (Int×Int)):Prop :=
 l≠[]->∃b o,A=U ⟨b,o,Y⟩/\K b/\∀(i:Nat) (x:Int×Int),l[i]?=U x->w.cell? ⟨b,o+i*2,Y⟩=U (J I x.1)/\w.cell? ⟨b,o+i*2+1,Y⟩=U (J I x.2)
def MC {w:X}{base:Nat}{v:E}{l:List (Int×Int)}(h:w.ownsRow base 160 2 v l.length (aO l)):∃A c,v=Z A l.length c/\RsK w (λb=>base<=b/\b<w.heap.size) A l:=by
 obtain⟨A,c,rfl,h2⟩:=LY h;refine⟨A,c,rfl,λhn=>?_⟩;obtain⟨b,o,rfl,hb,hc⟩:=h2 hn;exact⟨b,o,rfl,⟨(h.lt b rfl).1,hb⟩,hc⟩
def Hm {w:X}{base:Nat}{v:E}{l:List Int}(h:w.ownsRow base 3 1 v l.length (l.map (J I))):∃A c,v=Z A l.length c/\IH w (λb=>base<=b/\b<w.heap.size) A l:=by
 obtain⟨A,c,rfl,h2⟩:=Dn h;refine⟨A,c,rfl,λhn=>?_⟩;obtain⟨b,o,rfl,hb,hc⟩:=h2 hn;exact⟨b,o,rfl,⟨(h.lt b rfl).1,hb⟩,hc⟩
def KP (n:Nat)(bl:Nat->Nat)(w w':X):Prop:=w.heap.size<=w'.heap.size/\∀b,b<w.heap.size->(∀h,h<n->bl h≠b)->w'.heap[b]?=w.heap[b]?
section
variable {n:Nat} {bl:Nat->Nat} {w w' w2:X}
def KP.refl (n:Nat)(bl:Nat->Nat)(w:X):KP n bl w w:=⟨AA _,λ_ _ _=>rfl⟩
def KP.trans (h:KP n bl w w')(k:KP n bl w' w2):KP n bl w w2:=⟨AH h.1 k.1,λb hb hk=>(k.2 b (AC hb h.1) hk).trans (h.2 b hb hk)⟩
def KP.gr (h:Gr w w'):KP n bl w w':=⟨h.size,λb hb _=>h.below.block b hb⟩
def KP.set {a:Nat}(ha:a<n)(t:Nat)(v:E):KP n bl w (w.setCell ⟨bl a,t,Y⟩ v):=⟨by simp[World.setCell],λb _ hk=>by rw[Go.Eu.EJ];exact AD (λe=>hk a ha e.symm)⟩
def KP.drew (h:KP n bl w w'):KP n bl w w'.drew:=h
def KP.cell (h:KP n bl w w'){b:Nat}(hb:b<w.heap.size)(hk:∀h,h<n->bl h≠b)(o:Nat):w'.cell? ⟨b,o,Y⟩=w.cell? ⟨b,o,Y⟩:=AT (h.2 b hb hk)
end
def Gb (p:Int)(r:EH)(ls:List (Int×Int))(k i h t:Nat):Int :=
 Hk p r ls h t k+if(ls[k]?.getD (0,0)).2=t/\h≠t then JQ p (wl (r (ls[k]?.getD (0,0)).1.toNat)) h i else 0
def qk (p:Int)(r:EH)(ls:List (Int×Int))(k h t:Nat):Gb p r ls k 0 h t=Hk p r ls h t k:=by unfold Gb JQ;split<;>simp
def sj (p:Int)(r:EH)(ls:List (Int×Int))(k h t:Nat):Gb p r ls k (wl (r (ls[k]?.getD (0,0)).1.toNat)).length h t=Hk p r ls h t (k+1):=rfl
def KQ (p:Int)(n i:Nat):Int:=p / n+(if(i:Int)<p % n then 1 else 0)
def qm (p:Int)(r:EH)(ls:List (Int×Int))(k i h t:Nat):Gb p r ls k (i+1) h t =
  Gb p r ls k i h t+if(ls[k]?.getD (0,0)).2=t/\h≠t/\(wl (r (ls[k]?.getD (0,0)).1.toNat))[i]?.getD 0=h then KQ p (wl (r (ls[k]?.getD (0,0)).1.toNat)).length i else 0:=by
 unfold Gb KQ;by_cases h1:(ls[k]?.getD (0,0)).2=t/\h≠t
 .rw[AF h1,AF h1];by_cases h2:(wl (r (ls[k]?.getD (0,0)).1.toNat))[i]?.getD 0=h
  .rw[AF ⟨h1.1,h1.2,h2⟩];show _+(_+if _ then _ else _)=_;rw[AF h2];omega
  .rw[AD (λh=>h2 h.2.2)];show _+(_+if _ then _ else _)=_;rw[AD h2];omega
 .rw[AD h1,AD h1,AD (λh=>h1 ⟨h.1,h.2.1⟩)];omega
def uv {p:Int}(hp:0<=p/\p<=99)(r:EH)(ls:List (Int×Int))(k i h t:Nat):0<=Gb p r ls k i h t/\Gb p r ls k i h t<=400*k+100*i:=by
 have h1:=mI hp r ls h t k;have h2:=mH hp (wl (r (ls[k]?.getD (0,0)).1.toNat)) h i;unfold Gb;split<;>omega
open Go.Proofs
open Go.RowKit
def qp {w:X}{ops:Array Oper}{rest:List Oper}{o:Oper}{a:Act}{Q:Exit->Act->X->Prop}(hgd:o.guard=Y)(s x:Operand)(ho:o.op=.call { callee:=.builtin .append,args:=#[s,x],argTypes:=#[26,26] })
  (base:Nat) (v:E) (n:Nat) (xs:List E) (hs:a.eval s=v) (zm:w.ownsRow base 22 1 v n xs) (ad:D) (c:Nat) (u:E) (hx:a.eval x=.slice (U ad) 1 c) (hc:w.cell? (ad.add 0)=U u) (h1:u.oneCell'=true)
  (hn:n<=1048576) (hbase:base<=w.heap.size) (h:∀v' w',w'.ownsRow base 22 1 v' (n+1) (xs++[u])->w.grownBy w' v.ownBlock->w.drawn<=w'.drawn->wpList DU ops Q rest (a.put o.dst v') w'):wpList DU ops Q (o::rest) a w:=by
 obtain⟨i0,hi,zF,zE,zD⟩:=info_parts Du;refine EA hgd s x 26 ho base 22 i0 _ 1 24 ((Sq.underlying 26).trans Tryz.underlying26) hi zF zE zD rfl (by decide) v n xs hs zm ad 1 c [u] hx rfl (λj u hj=>?_) (λu' hu=>?_) (by unfold maxLen;omega) (by omega) hbase h
 .match j,hj with
  |0,hj=>cases hj;exact hc
 .simp only[AJ,AG,or_false] at hu;subst hu;exact h1
def yp (nA hA gA rA:Option D)(nc hc gc rc:Nat)(c:D9)(ls:List (List Int))(rs:List (Int×Int))(p:Int)(w:X)(B:Nat)(hB:B<=w.heap.size)(hn:RI w B nA c.DW)(hh:EN w B hA c.DV)(hg:ER w B gA ls)(hr:Ik w B rA rs)
  (bY:c.DW.length<=4611686018427387904) (zC:c.DV.length<=4611686018427387904) (bC:∀h∈c.DV,h.off.length<=4611686018427387904) (bZ:ls.length<=4611686018427387904) (zr:∀x∈ls,x.length<=4611686018427387904) (c0:rs.length<=4611686018427387904) (aM:rs.length<=rc)
  (hF:Ek c ls=0) (hR:iz c.DW.length rs=0) (hp:0<=p/\p<=99) :
  O DU 64 #[Ef nA hA c nc hc,Z gA ls.length gc,Z rA rs.length rc,J I p] w λe w'=>Gr w w'/\∃A k,e=.returned (.tuple #[Z A c.DV.length k,J I 0]) /\
   ER w' w'.heap.size A (Ju c (D4 ls) p (E8 c.DW.length rs rs.length)):=by
 unfold Ef;obtain⟨W0,zM⟩:∃W0:X,W0=w.alloc (.cells #[Z nA c.DW.length nc,Z hA c.DV.length hc] 25):=⟨_,rfl⟩;have zL:Gr w W0:=zM▸(Gr.refl w).alloc _;have zF:W0.heap.size=w.heap.size+1:=by rw[zM];simp
 have HW:=Ay zM;have aQ:=ur nA hA gA rA nc hc gc rc c ls rs W0 B (by omega) (hn.gr hB zL) (hh.keep λb o hb=>zL.cell (AC hb hB)) (hg.gr hB zL) (hr.gr hB zL) bY zC bC bZ zr c0 aM hF hR;unfold Ef at aQ;have HRD:=Ay aQ;have c4:=Ay zL;have bD:Hid (W0.cell? ⟨w.heap.size,1,Y⟩=U (Z hA c.DV.length hc)):=Ay (by rw[zM,AE _ _ _ _ rfl];rfl);have aR:=Ay hF
 have a8:=Ay (D9.Ok.of (show Eg c=0 by
  have:=hF;unfold Ek at this;split at this
  .exact AI this (by assumption)
  .simpa using ‹¬Eg c≠0›))
 have HRZ:=Ay (lm hR);have HBT:Hid (∀W,O DU 33 #[J I p,J I 0,J I 99] W λe w'=>e=.returned (.bool true)/\W=w'):=Ay λW=>by
  have:FC p 0 99=true:=by simp[FC];omega
  rw[<-this];exact bS _ _ _ W
 clear zM zL aQ hn hh hg hr zr bC hF hR;go_enter Sq.func64,Tryz.ntmps64;go_wp2_with fail;rw[<-HW.out];refine HRD.out.mono ?_;rintro e w1 ⟨zJ,cb,A,ka,rfl,bE,bF⟩;obtain⟨W1,zu⟩:∃W1:X,W1=w1.alloc (.cells #[.int .u8 (D4 ls 0),.int .u8 (D4 ls 1),.int .u8 (D4 ls 2),.int .u8 (D4 ls 3),.int .u8 (D4 ls 4)] 71):=⟨_,rfl⟩;have aF:Gr w1 W1:=zu▸(Gr.refl w1).alloc _;have zE:W1.heap.size=w1.heap.size+1:=by rw[zu];simp
 have hzz:=zJ.size;have bG:=Ay (zJ.trans aF);have c5:=Ay (bE.on aF);have cA:=Ay (bF.gr (AA _) aF);have aS:Hid (∀i,i<5->W1.cell? ⟨w1.heap.size,i,Y⟩=U (.int .u8 (D4 ls i:Nat))):=Ay λi hi=>by
  rw[zu,AE _ _ _ _ (by simp)]
  match i,hi with
  |0,_=>rfl
  |1,_=>rfl
  |2,_=>rfl
  |3,_=>rfl
  |4,_=>rfl
 have zw:w1.cell? ⟨w.heap.size,1,Y⟩=U (Z hA c.DV.length hc):=(zJ.cell (by show w.heap.size<_;omega)).trans bD.out;have cS:w.heap.size<w1.heap.size:=by omega
 have cT:=a8.out.h4;have cU:=a8.out.h1;have cV:=λw=>iy c.DV.length w (by omega);have aT:=Ay zu;clear zJ bE bF aF HRD zu;unfold Fl;go_wp2_with fail;rw[<-aT.out];refine(HBT.out _).mono ?_;rintro e w' ⟨rfl,rfl⟩;rw[aT.out];go_wp2;rw[<-aT.out];have hwl2:w.heap.size<W1.heap.size/\w1.heap.size<W1.heap.size:=by omega
 have cW:=Ay zE;clear zw zE;have zw:=Ay ((bG.out.cell (p:=⟨w.heap.size,1,Y⟩) (by show w.heap.size<_;omega)).trans bD.out);go_loopw [14,39] (λv i wr=>∃k:Nat,k<=c.DV.length/\i=J I k/\Gr W1 wr/\∃bl,Jl wr W1.heap.size v c.DV.length k (λ_ _=>0) bl) (λ_ i _=>c.DV.length-(F i).toNat)
 case atStart=>exact⟨0,by omega,rfl,.refl _,λ_=>0,.nil _ _ _ _ _⟩
 case round =>
  obtain⟨k,hk,rfl,zV,bl,a7⟩:=hrel;have aA:=Ay zV;have HT:=Ay a7;have zw:=(zV.cell (p:=⟨w.heap.size,1,Y⟩) (by show w.heap.size<_;omega)).trans zw.out;have cX:=zV.size;clear zV a7;by_cases zY:k<c.DV.length
  .obtain⟨xs,hrow,bH⟩:=HT.out.row;have cB:=Ay bH;have bT:=Ay hrow;clear bH;have cP:w.heap.size<wr.heap.size:=by omega
   go_wp2_with (at_builtin;refine qp rfl _ _ rfl W1.heap.size _ _ _ rfl ((hrow.alloc _).alloc _) ⟨wr.heap.size+1,0,Y⟩ 1 (.slice (U ⟨wr.heap.size,0,Y⟩) c.DV.length c.DV.length) rfl ?c1 rfl ?c2 ?c3 ?_)
   case c1=>rw[Addr.add_lit,AE _ _ _ _ (by simp)];rfl
   case c2=>omega
   case c3=>simp;omega
   intro v' w3 hown' hgrow hd;have aB:=Ay (((aA.out.alloc _).alloc _).grown hgrow hd λq hq=>(hrow.lt q hq).1);have aU:=Ay (HT.out.push (q:=wr.heap.size) bT.out cB.out (by omega) (AA _) (λb hb=>(ae _ _ (by simp;omega)).trans (ae _ _ hb)) ((ae _ _ (by simp)).trans (heap_alloc_new _ _)) (λt ht=>ep _ _ ht) (by simp;omega) hgrow hown');clear hown' hgrow hd hrow;go_wp2;go_roundw
   case rel=>exact⟨k+1,by omega,by go_num,aB.out,_,aU.out⟩
   case measure=>simp[Proofs.intOf];omega
  .have aV:k=c.DV.length:=by omega
   subst aV;obtain⟨g,hv,zQ,_⟩:∃g,(∃cap,u14=.slice (U ⟨g,0,Y⟩) c.DV.length cap)/\g<wr.heap.size/\True:=by
    obtain⟨xs,h1,h2⟩:=HT.out.row;obtain⟨_,h0⟩|⟨g,cap,cur,hv,_,k2,_⟩:=h1.2
    .omega
    .exact⟨g,⟨cap,hv⟩,(Az.1 k2).1,trivial⟩
   obtain⟨cap,rfl⟩:=hv;have bI:∀x∈E8 c.DW.length rs rs.length,0<=x/\x<=60:=λx hx=>by
    obtain⟨j,_,rfl⟩:=Bf.1 hx;exact nO HRZ.out _ _ (AA _)
   have aG:=uu cb nA hA A nc hc ka c (D4 ls) (E8 c.DW.length rs rs.length) wr (c5.out.on aA.out) a8.out (fH aR.out) bI (by rw[ee];exact a8.out.n5) ((cA.out.gr (by omega) aA.out).more (by omega));rw[ee] at aG;have cC:=j4 a8.out (D4 ls) (E8 c.DW.length rs rs.length);have bJ:Hid (∀q∈FU c (D4 ls) (E8 c.DW.length rs rs.length),0<=q.1/\q.1<c.DW.length/\0<=q.2/\q.2<c.DV.length):=Ay λq hq=>by
    have:=(lj a8.out (D4 ls) (E8 c.DW.length rs rs.length)).night q hq
    rwa [ee] at this
   have bK:Hid (Ju c (D4 ls) p (E8 c.DW.length rs rs.length)=LX c.DV.length λh t=>Hk p (D4 ls) (FU c (D4 ls) (E8 c.DW.length rs rs.length)) h t (FU c (D4 ls) (E8 c.DW.length rs rs.length)).length):=Ay rfl;obtain⟨L,hL⟩:∃L,L=FU c (D4 ls) (E8 c.DW.length rs rs.length):=⟨_,rfl⟩;rw[<-hL] at aG cC bJ bK;clear hL;have aK:=Ay aG
   have aM:∀i,i<5->wr.cell? ⟨w1.heap.size,i,Y⟩=U (.int .u8 (D4 ls i:Nat)):=λi hi=>(aA.out.cell (by show w1.heap.size<_;omega)).trans (aS.out i hi);obtain⟨a0,a1,a2,a3,a4⟩:=JP aM;clear aG aM bI;unfold Fl at aK;go_wp2_with fail;refine aK.out.mono ?_;rintro e w2 ⟨v,rfl,hown2,zI⟩;obtain⟨A2,k2,rfl,hrs⟩:=MC hown2;have cD:=Ay hrs;have cE:=Ay (aA.out.trans zI);have HT2:=Ay ((HT.out.gr zI).congr (M':=λh t=>Hk p (D4 ls) L h t 0) λa t _ _=>rfl)
   have aW:Hid (∀h,h<c.DV.length->bl h<wr.heap.size):=Ay λh hh=>(HT.out.at_ hh hh).2.1;have zD:=zI.size;have cQ:=Ay (λi hi=>(zI.cell (p:=⟨w1.heap.size,i,Y⟩) (by show w1.heap.size<_;omega)).trans (((aA.out.cell (p:=⟨w1.heap.size,i,Y⟩) (by show w1.heap.size<_;omega)).trans (aS.out i hi))));clear hown2 zI hrs a0 a1 a2 a3 a4 aK;go_wp2;go_loopw [54] (λi wr=>∃k:Nat,k<=L.length/\i=J I k/\KP c.DV.length bl w2 wr/\Gr W1 wr/\Jl wr W1.heap.size (.slice (U ⟨g,0,Y⟩) c.DV.length cap) c.DV.length c.DV.length (λh t=>Hk p (D4 ls) L h t k) bl) (λi _=>L.length-(F i).toNat)
   case atStart=>exact⟨0,by omega,rfl,.refl _ _ _,cE.out,HT2.out⟩
   case round =>
    obtain⟨wq,rfl⟩:∃wq,wq=wr:=⟨_,rfl⟩;obtain⟨k,hk,rfl,a6,zV,a7⟩:=hrel;have cF:=Ay a6;have bL:=Ay zV;have HTQ:=Ay a7;have hzq:=a6.1;by_cases hlk:k<L.length
    .have aX:=bJ.out _ (Bh hlk);have aZ:L[k]?.getD (0,0)=L[k]:=by rw[AB hlk];rfl
     obtain⟨b,o,rfl,bM,bN⟩:=cD.out (λe=>by rw[e] at hlk;simp at hlk);obtain⟨h1,h2⟩:=bN k _ (AB hlk);have zU:∀h,h<c.DV.length->bl h≠b:=λh hh e=>by have:=aW.out h hh;omega
     have d1:=(a6.cell bM.2 zU (o+k*2)).trans h1;have d2:=(a6.cell bM.2 zU (o+k*2+1)).trans h2;rw[<-aZ] at aX d1 d2;have cG:Hid (∀a t,Gb p (D4 ls) L k 0 a t=Hk p (D4 ls) L a t k):=Ay λa t=>qk p (D4 ls) L k a t;have aC:Hid (∀a t,Gb p (D4 ls) L k (wl (D4 ls (L[k]?.getD (0,0)).1.toNat)).length a t=Hk p (D4 ls) L a t (k+1)):=Ay λa t=>sj p (D4 ls) L k a t;have aI:Hid (∀i a t,Gb p (D4 ls) L k (i+1) a t=Gb p (D4 ls) L k i a t+if(L[k]?.getD (0,0)).2=(t:Int)/\a≠t/\(wl (D4 ls (L[k]?.getD (0,0)).1.toNat))[i]?.getD 0=(a:Int) then KQ p (wl (D4 ls (L[k]?.getD (0,0)).1.toNat)).length i else 0):=Ay λi a t=>qm p (D4 ls) L k i a t
     generalize L[k]?.getD (0,0)=q at aX d1 d2 aC aI;obtain⟨q1,q2⟩:=q;obtain⟨qn,rfl⟩:∃j:Nat,q1=j:=⟨q1.toNat,by omega⟩;obtain⟨qf,rfl⟩:∃j:Nat,q2=j:=⟨q2.toNat,by omega⟩;dsimp only at aX d1 d2 aC aI;rw[CY] at aC aI;have cY:=a8.out.n5;have cH:qn<5:=by omega
     have hqf:qf<c.DV.length:=by omega
     have cI:wq.cell? ⟨w1.heap.size,qn,Y⟩=U (.int .u8 (D4 ls qn:Nat)):=(zV.cell (by show w1.heap.size<_;omega)).trans (aS.out qn cH);have b5:D4 ls qn<16:=Dp a8.out.h4 (fH aR.out qn);have hxh:D4 ls qn<2 ^ c.DV.length:=fH aR.out qn;generalize D4 ls qn=x at cI b5 hxh aC aI;obtain⟨W2,zn⟩:∃W2:X,W2=wq.alloc (.cells #[J I (qn:Int),J I (qf:Int)] 160):=⟨_,rfl⟩
     have aN:=Ay (gQ x W2 b5);have hwq1:w1.heap.size<wq.heap.size:=by omega
     have cJ:Hid (W2.cell? ⟨wq.heap.size,1,Y⟩=U (J I (qf:Int))):=Ay (by rw[zn,AE _ _ _ _ rfl];rfl);have bU:Hid (Gr wq W2):=Ay (zn▸(Gr.refl wq).alloc _);have bO:Hid (W2.heap.size=wq.heap.size+1):=Ay (by rw[zn];simp);have cK:=Ay zn;clear a6 zV a7 bN h1 h2 aZ zn;go_wp2_with fail;rw[<-cK.out];refine aN.out.mono ?_;rintro e w3 ⟨v3,rfl,aO,zH⟩;obtain⟨A3,k3,rfl,bP⟩:=Hm aO
     have cL:=Ay bP;have aB:=Ay (bU.out.trans zH);have aU:=Ay ((HTQ.out.gr aB.out).congr (M':=λa t=>Gb p (D4 ls) L k 0 a t) λa t _ _=>(cG.out a t).symm);have bV:=Ay ((zH.cell (p:=⟨wq.heap.size,1,Y⟩) (by show wq.heap.size<_;have:=bO.out;omega)).trans cJ.out);have hz3:=aB.out.size;have cR:wq.heap.size<W2.heap.size:=by have:=bO.out;omega
     have hz32:=zH.size;clear aO zH bP aN d1 d2;go_wp2;go_loopw [65] (λi wr=>∃j:Nat,j<=(wl x).length/\i=J I j/\KP c.DV.length bl w3 wr/\Gr W1 wr/\Jl wr W1.heap.size (.slice (U ⟨g,0,Y⟩) c.DV.length cap) c.DV.length c.DV.length (λa t=>Gb p (D4 ls) L k j a t) bl) (λi _=>(wl x).length-(F i).toNat)
     case atStart=>exact⟨0,by omega,rfl,.refl _ _ _,bL.out.trans aB.out,aU.out⟩
     case round =>
      obtain⟨j,hj,rfl,a6,bQ,bR⟩:=hrel;have b6:=Ay a6;have b7:=Ay bQ;have aJ:=Ay bR;have cZ:=a6.1;by_cases aD:j<(wl x).length
      .obtain⟨b3,o3,rfl,bW,hc3⟩:=cL.out (λe=>by rw[e] at aD;simp at aD);obtain⟨a,ha,d3,hab⟩:=Kf (Bh aD);have aP:a<c.DV.length:=gP hxh hab;have cM:=(a6.cell bW.2 (λh hh e=>by have:=aW.out h hh;omega) (o3+j)).trans (hc3 j _ (AB aD));rw[ha] at cM;have cN:Hid ((wl x)[j]?.getD 0=(a:Int)):=Ay (by rw[AB aD];exact ha);have d4:=(a6.cell (b:=wq.heap.size) (by omega) (λh hh e=>by have:=aW.out h hh;omega) 1).trans bV.out
       have b8:Hid (∀a' t,Gb p (D4 ls) L k (j+1) a' t=Gb p (D4 ls) L k j a' t+if(qf:Int)=(t:Int)/\a'≠t/\(a:Int)=(a':Int) then KQ p (wl x).length j else 0):=Ay λa' t=>by rw[aI.out,cN.out]
       have bX:=aY x;have b9:Hid (KQ p (wl x).length j=p / ((wl x).length:Int)+if(j:Int)<p % ((wl x).length:Int) then 1 else 0):=Ay rfl;clear ha;generalize (wl x).length=N at aD bX b9 b8 aC hj ⊢;clear a6 bQ bR;have d5:0<=p / (N:Int):=Int.ediv_nonneg hp.1 (by omega);have hq2:p / (N:Int)<=99:=Int.le_trans (Int.ediv_le_self _ hp.1) hp.2;obtain⟨g',eg,_,hrow⟩:=aJ.out.MB aP;have eg':g'=g:=by injection eg with e;injection e with e;exact e.symm
       subst eg';obtain⟨hta,htb,htc,htf⟩:=aJ.out.at_ aP hqf;have hmb:=uv hp (D4 ls) L k j a qf;by_cases haf:a=qf
       .have zU:((a:Int) != (qf:Int))=false:=by simp[haf]
        have HT5:=Ay (aJ.out.congr (M':=λa t=>Gb p (D4 ls) L k (j+1) a t) λa' t _ _=>by rw[b8.out,AD (by omega)];simp);clear hrow htc htf;by_cases aL:(j:Int)<p % (N:Int)
        all_goals
         go_wp2;go_roundw
         case rel=>exact⟨j+1,by omega,by go_num,b6.out,b7.out,HT5.out⟩
         case measure=>simp[Proofs.intOf];omega
       .have zU:((a:Int) != (qf:Int))=true:=by simp;omega
        have aH:Hid (∀y:Int,y=KQ p N j->Jl (wr.setCell ⟨bl a,qf,Y⟩ (J I (Gb p (D4 ls) L k j a qf+y))) W1.heap.size (.slice (U ⟨g',0,Y⟩) c.DV.length cap) c.DV.length c.DV.length (λa t=>Gb p (D4 ls) L k (j+1) a t) bl):=Ay λy hy=>aJ.out.set aP hqf _ λa' t' _ _=>by
         rw[b8.out];by_cases e:a'=a/\t'=qf
         .obtain⟨rfl,rfl⟩:=e;rw[AF ⟨rfl,haf,rfl⟩,AF ⟨rfl,rfl⟩,hy]
         .rw[AD (λh=>e (by omega)),AD e];omega
        have bA:=Ay (λv=>b6.out.trans (KP.set (w:=wr) aP qf v));have bB:=Ay (λv=>b7.out.setCell (p:=⟨bl a,qf,Y⟩) hta v);have hblw:=htb;generalize Gb p (D4 ls) L k j a qf=M0 at htc hmb aH;by_cases aL:(j:Int)<p % (N:Int)
        .have HY:=Ay (aH.out (p / (N:Int)+1) (by rw[b9.out,AF aL]));go_wp2;go_region
         all_goals
          go_wp2;go_roundw
          case rel=>exact⟨j+1,by omega,by go_num,(bA.out _).drew,(bB.out _).drew,HY.out.drew⟩
          case measure=>simp[Proofs.intOf];omega
        .have HY:=Ay (aH.out (p / (N:Int)) (by rw[b9.out,AD aL];omega));go_wp2;go_region
         all_goals
          go_wp2;go_roundw
          case rel=>exact⟨j+1,by omega,by go_num,(bA.out _).drew,(bB.out _).drew,HY.out.drew⟩
          case measure=>simp[Proofs.intOf];omega
      .have cO:j=(wl x).length:=by omega
       subst cO;have HT6:=Ay (aJ.out.congr (M':=λa t=>Hk p (D4 ls) L a t (k+1)) λa' t _ _=>aC.out a' t);go_wp2;go_roundw
       case rel=>exact⟨k+1,by omega,by go_num,cF.out.trans ((KP.gr aB.out).trans b6.out),b7.out,HT6.out⟩
       case measure=>simp[Proofs.intOf];omega
    .have aV:k=L.length:=by omega
     subst aV;have HTF:=Ay (HTQ.out.J4);clear a6 zV a7;go_wp2;go_ret2;exact⟨c4.out.trans (bG.out.trans bL.out),_,_,rfl,by rw[bK.out];exact HTF.out⟩
def IV (M:List (List Int))(k i j:Nat):Int:=H9 M k j-(if j=k then(M[k]?.getD []).sum else 0)+if j<i then(M[k]?.getD [])[j]?.getD 0 else 0
def uw (M:List (List Int))(k i j:Nat)(h:j<i):IV M k i j=H9 M (k+1) j:=by
 show _+(if _ then _ else _)=_;rw[AF h];rfl
def sk (M:List (List Int))(k j:Nat):IV M k 0 j=H9 M k j-if j=k then(M[k]?.getD []).sum else 0:=by
 unfold IV;generalize H9 M k j-(if j=k then(M[k]?.getD []).sum else 0)=a;rw[AD (BJ j)];omega
def so (M:List (List Int))(k j t:Nat):IV M k (j+1) t=IV M k j t+if t=j then(M[k]?.getD [])[j]?.getD 0 else 0:=by
 unfold IV;generalize H9 M k t-(if t=k then(M[k]?.getD []).sum else 0)=a;by_cases e:t=j
 .subst e;rw[AF (by omega),AD (by omega),AF rfl];omega
 .by_cases e2:t<j
  .rw[AF (by omega),AF e2,AD e];omega
  .rw[AD (by omega),AD e2,AD e];omega
def sr (M:List (List Int))(k j:Nat):IV M k j j=H9 M k j-if j=k then(M[k]?.getD []).sum else 0:=by
 unfold IV;generalize H9 M k j-(if j=k then(M[k]?.getD []).sum else 0)=a;rw[AD (by omega)];omega
structure JR (M:List (List Int)):Prop where
 size:M.length<=4
 rows:∀l∈M,l.length=M.length/\∀x∈l,0<=x/\x<=65536
def JR.row {M:List (List Int)}(h:JR M){k:Nat}(hk:k<M.length):(M[k]?.getD []).length=M.length/\∀x∈M[k]?.getD [],0<=x/\x<=65536:=h.rows _ (gw M k hk)
def JR.at_ {M:List (List Int)}(h:JR M){k:Nat}(hk:k<M.length)(j:Nat):0<=(M[k]?.getD [])[j]?.getD 0/\(M[k]?.getD [])[j]?.getD 0<=65536:=by
 obtain hj|hj:=Br j (M[k]?.getD []).length
 .exact(h.row hk).2 _ (Ge _ j hj)
 .rw[BD hj];simp
def JR.sum {M:List (List Int)}(h:JR M){k:Nat}(hk:k<M.length):0<=(M[k]?.getD []).sum/\(M[k]?.getD []).sum<=262144:=by
 have h1:=Hb 0 65536 _ (h.row hk).2;have h2:=(h.row hk).1;have h3:=h.size;omega
def pf {M:List (List Int)}(h:JR M)(k j:Nat)(hk:k<=M.length):-(262144*k)<=H9 M k j/\H9 M k j<=65536*k:=by
 induction k with
 |zero=>simp[H9]
 |succ k ih =>
  have h1:=ih (by omega);have h2:=h.at_ (show k<M.length by omega) j;have h3:=h.sum (show k<M.length by omega);unfold H9;split<;>omega
def qq {c:D9}(hc:c.Ok)(r:EH){p:Int}(hp:0<=p/\p<=99)(ws:List Int):JR (Ju c r p ws):=by
 have hl:(Ju c r p ws).length=c.DV.length:=gE _ _;refine⟨by rw[hl];exact hc.h4,λl hm=>?_⟩;rw[hl];simp only[Ju,LX,Bf,Bu] at hm;obtain⟨a,ha,rfl⟩:=hm;refine⟨by simp,λx hx=>?_⟩;simp only[Bf,Bu] at hx;obtain⟨t,_,rfl⟩:=hx;have h1:=mI hp r (FU c r ws) a t (FU c r ws).length;have h2:=j4 hc r ws;omega
def qr (nA hA gA rA:Option D)(nc hc gc rc:Nat)(c:D9)(ls:List (List Int))(rs:List (Int×Int))(p:Int)(w:X)(B:Nat)(hB:B<=w.heap.size)(hn:RI w B nA c.DW)(hh:EN w B hA c.DV)(hg:ER w B gA ls)(hr:Ik w B rA rs)
  (aR:c.DW.length<=4611686018427387904) (zC:c.DV.length<=4611686018427387904) (aO:∀h∈c.DV,h.off.length<=4611686018427387904) (aS:ls.length<=4611686018427387904) (zr:∀x∈ls,x.length<=4611686018427387904) (aT:rs.length<=4611686018427387904) (aU:rs.length<=rc)
  (hF:Ek c ls=0) (hR:iz c.DW.length rs=0) (hp:0<=p/\p<=99) :
  O DU 23 #[Ef nA hA c nc hc,Z gA ls.length gc,Z rA rs.length rc,J I p] w λe w'=>Gr w w'/\∃A k,e=.returned (.tuple #[Z A c.DV.length k,J I 0]) /\
   RI w' w'.heap.size A (Ox (Ju c (D4 ls) p (E8 c.DW.length rs rs.length))):=by
 unfold Ef;obtain⟨W0,zM⟩:∃W0:X,W0=w.alloc (.cells #[Z nA c.DW.length nc,Z hA c.DV.length hc] 25):=⟨_,rfl⟩;have zL:Gr w W0:=zM▸(Gr.refl w).alloc _;have zF:W0.heap.size=w.heap.size+1:=by rw[zM];simp
 have HW:=Ay zM;have how:=yp nA hA gA rA nc hc gc rc c ls rs p W0 B (by omega) (hn.gr hB zL) (hh.keep λb o hb=>zL.cell (AC hb hB)) (hg.gr hB zL) (hr.gr hB zL) aR zC aO aS zr aT aU hF hR hp;unfold Ef at how;have aV:=Ay zL
 have aF:=D9.Ok.of (show Eg c=0 by
  have:=hF;unfold Ek at this;split at this
  .exact AI this (by assumption)
  .simpa using ‹¬Eg c≠0›)
 have a8:=qq aF (D4 ls) hp (E8 c.DW.length rs rs.length);have a7:(Ju c (D4 ls) p (E8 c.DW.length rs rs.length)).length=c.DV.length:=gE _ _;have h4:=aF.h4;generalize Ju c (D4 ls) p (E8 c.DW.length rs rs.length)=M at how a8 a7;rw[<-a7] at h4;have aW:=Ay a7;have HOW:=Ay (how.mono (R':=λe w'=>Gr W0 w'/\∃A k,e=.returned (.tuple #[Z A M.length k,J I 0])/\ER w' w'.heap.size A M) λe w' h=>by rw[a7];exact h)
 have a6:=Ay a8;have bJ:=λw=>iy M.length w (by omega);clear zM zL how hn hh hg hr zr aO hF hR aF a8 a7;go_enter Sq.func23,Tryz.ntmps23;go_wp2_with fail;rw[<-HW.out];refine HOW.out.mono ?_;rintro e w1 ⟨zJ,A,ka,rfl,aG⟩;have aX:=Ay zJ;have aY:=Ay aG;have zE:=zJ.size;clear zJ aG HOW;go_wp2;go_loopw [33] (λi wr=>∃k:Nat,k<=M.length/\i=J I k/\Gr w1 wr/\w1.heap.size<wr.heap.size/\∀j,j<M.length->wr.cell? ⟨w1.heap.size,j,Y⟩=U (J I (H9 M k j))/\wr.frozen? ⟨w1.heap.size,j,Y⟩=false) (λi _=>M.length-(F i).toNat)
 case atStart =>
  refine⟨0,by omega,rfl,(Gr.refl w1).alloc _,by simp,λj hj=>⟨?_,?_⟩⟩
  .rw[AE _ _ _ _ (by simp),ep _ _ hj];rfl
  .rw[By _ _ _ _ (by simp)]
 case round =>
  obtain⟨wq,rfl⟩:∃wq,wq=wr:=⟨_,rfl⟩;obtain⟨k,hk,rfl,zV,aZ,zW⟩:=hrel;have b5:=Ay zV;have aH:=Ay zW;by_cases zY:k<M.length
  .obtain⟨b,o,A',c',rfl,hb,aI,aA⟩:=aY.out.at_ zY;have b6:=(zV.cell (p:=⟨b,o+k,Y⟩) hb).trans aI;have aJ:=aA.gr (AA _) zV;have b7:=Ay aA;clear aI aA;obtain⟨b8,aK⟩:=a6.out.row zY;have hsm:=a6.out.sum zY;obtain⟨e1,e2⟩:=zW k zY;have b9:=pf a6.out k k hk;have aB:∀q,q=wq\/q=wq.drew->O DU 60 #[Z A' (M[k]?.getD []).length c'] q λe w'=>e=.returned (J I (M[k]?.getD []).sum)/\q=w':=λq hq=>yT A' c' (M[k]?.getD []) q w1.heap.size (by rcases hq with rfl|rfl<;>exact aJ) (by omega) (λx hx=>by have:=aK x hx;omega)
   have aP:Hid (∀j,j<M.length->IV M k 0 j=H9 M k j-if j=k then(M[k]?.getD []).sum else 0):=Ay λj _=>sk M k j;have bK:=Ay aJ;have HRX:=Ay aK;rw[b8] at b6 aB;have aL:=Ay aB;obtain⟨S,hS⟩:∃S,S=(M[k]?.getD []).sum:=⟨_,rfl⟩;rw[<-hS] at aL hsm aP;have aM:Hid (∀j,j<M.length->(wq.setCell ⟨w1.heap.size,k,Y⟩ (J I (H9 M k k-S))).cell? ⟨w1.heap.size,j,Y⟩=U (J I (IV M k 0 j))/\(wq.setCell ⟨w1.heap.size,k,Y⟩ (J I (H9 M k k-S))).frozen? ⟨w1.heap.size,j,Y⟩=false):=Ay λj hj=>by
    rw[BI,aP.out j hj];refine⟨?_,(aH.out j hj).2⟩;by_cases e:j=k
    .subst e;rw[AQ _ _ _ e1,AF rfl]
    .rw[AL _ _ _ _ (by simp[Ne.symm e]),AD e,(aH.out j hj).1];simp
   have HGS:Hid (Gr w1 (wq.setCell ⟨w1.heap.size,k,Y⟩ (J I (H9 M k k-S)))):=Ay (zV.setCell (p:=⟨w1.heap.size,k,Y⟩) (AA _) _);clear zV zW aJ aK aB hS aH;generalize H9 M k k=bk at e1 b9 aM HGS;have hwr:IntKind.i64.wrap (bk-S)=bk-S:=by simp[IntKind.wrap,IntKind.bits,IntKind.signed];omega
   go_wp2;go_region_with (go_at_call 60;refine(aL.out _ (by first|exact Or.inl rfl|exact Or.inr rfl)).mono ?_;rintro e w3 ⟨rfl,rfl⟩)
   all_goals
    clear e1 e2 hwr;go_wp2;go_loopw [48] (λi wr=>∃j:Nat,j<=M.length/\i=J I j/\Gr w1 wr/\w1.heap.size<wr.heap.size/\∀t,t<M.length->wr.cell? ⟨w1.heap.size,t,Y⟩=U (J I (IV M k j t))/\wr.frozen? ⟨w1.heap.size,t,Y⟩=false) (λi _=>M.length-(F i).toNat)
    case atStart=>exact⟨0,by omega,rfl,HGS.out.drew,by simp[World.setCell,World.drew];omega,aM.out⟩
    case round =>
     obtain⟨j,hj,rfl,aC,bA,aN⟩:=hrel;have bB:=Ay aC;have aD:=Ay aN;by_cases bC:j<M.length
     .obtain⟨b2,o2,rfl,zq,bD⟩:=(b7.out.gr (AA _) aC).at_ (k:=j) (by omega);have hx:=a6.out.at_ zY j;obtain⟨e1,e2⟩:=aN j bC;have bL:=pf a6.out k j hk;have aQ:Hid (∀t,IV M k (j+1) t=IV M k j t+if t=j then(M[k]?.getD [])[j]?.getD 0 else 0):=Ay λt=>so M k j t;have hbm:-(262144*5)<=IV M k j j/\IV M k j j<=65536*5:=by
       have hsm2:=a6.out.sum zY;rw[sr];split<;>omega
      generalize IV M k j j=y at e1 hbm;generalize (M[k]?.getD [])[j]?.getD 0=z at bD hx aQ;have HST:Hid (y=y->∀t,t<M.length->(wr.setCell ⟨w1.heap.size,j,Y⟩ (J I (y+z))).cell? ⟨w1.heap.size,t,Y⟩=U (J I (IV M k (j+1) t))/\(wr.setCell ⟨w1.heap.size,j,Y⟩ (J I (y+z))).frozen? ⟨w1.heap.size,t,Y⟩=false):=Ay λ_ t ht=>by
       rw[BI,aQ.out];refine⟨?_,(aD.out t ht).2⟩;by_cases e:t=j
       .subst e;rw[AQ _ _ _ e1,AF rfl];have:=(aD.out t ht).1;rw[e1] at this;cases this
        rfl
       .rw[AL _ _ _ _ (by simp[Ne.symm e]),AD e,(aD.out t ht).1];simp
      have bE:=Ay (aC.setCell (p:=⟨w1.heap.size,j,Y⟩) (AA _) (J I (y+z)));clear aC aN;go_wp2;go_roundw
      case rel=>exact⟨j+1,by omega,by go_num,bE.out,by simp[World.setCell];omega,HST.out rfl⟩
      case measure=>simp[Proofs.intOf];omega
     .have bF:j=M.length:=by omega
      subst bF;have bG:Hid (∀t,t<M.length->wr.cell? ⟨w1.heap.size,t,Y⟩=U (J I (H9 M (k+1) t))/\wr.frozen? ⟨w1.heap.size,t,Y⟩=false):=Ay λt ht=>by
       rw[<-uw M k M.length t ht];exact aD.out t ht
      go_wp2;go_roundw
      case rel=>exact⟨k+1,by omega,by go_num,bB.out,bA,bG.out⟩
      case measure=>simp[Proofs.intOf];omega
  .have bH:k=M.length:=by omega
   subst bH
   have HF:Hid (RI wq wq.heap.size (U ⟨w1.heap.size,0,Y⟩) (Ox M)):=Ay λ_=>⟨_,0,rfl,aZ,λi x hx=>by
    have hi:i<M.length:=by have:=(AV.1 hx).1;simpa [Ox] using this
    have bI:x=H9 M M.length i:=by
     unfold Ox at hx;rw[BK,Cn hi] at hx;exact(Option.some.inj hx).symm
    rw[AO,bI]
    exact(zW i hi).1⟩
   go_wp2;go_ret2;refine⟨aV.out.trans (aX.out.trans b5.out),U ⟨w1.heap.size,0,Y⟩,M.length,?_,HF.out⟩;rw[<-aW.out];rfl
open Go.Sort
def mJ:Lib.pop8tab.size=256:=by decide +kernel
def wT:∀x:Fin 16,wrap64 ((Lib.pop8tab[x.val]'(by have:=mJ;omega)).toNat:Int)=((wl x.val).length:Int):=by decide +kernel
def yq (x:Nat)(w:X)(hx:x<16):O DU 80 #[.int .u8 (x:Int)] w λe w'=>e=.returned (J I (wl x).length)/\w=w':=by
 have HP:=Ay (wT ⟨x,hx⟩);have a6:x<Lib.pop8tab.size:=by have:=mJ;omega
 go_enter Sq.func80,Tryz.ntmps80;go_wp2;go_ret;exact⟨ap HP.out,rfl⟩
def yr (x:Nat)(w:X)(hx:x<16):O DU 40 #[.int .u8 x] w λe w'=>e=.returned (J I (wl x).length)/\w=w':=by
 have HC:=Ay (yq x w hx);go_enter Sq.func40,Tryz.ntmps40;go_wp2_with fail;refine HC.out.mono ?_;rintro e w' ⟨rfl,rfl⟩;go_wp2;go_ret;exact⟨rfl,rfl⟩
def Kv (l:List Int):List Int:=l.mergeSort λx y=>decide (x<=y)
def lr (l:List Int):(Kv l).length=l.length:=List.length_mergeSort l
def wU (g cap:Nat)(l:List Int)(w:X){base:Nat}(h:w.ownsRow base 3 1 (.slice (U ⟨g,0,Y⟩) l.length cap) l.length (l.map (J I)))(hl:l.length<=1048576) :
  O DU 37 #[.slice (U ⟨g,0,Y⟩) l.length cap] w λe w'=>e=.returned (.tuple #[])/\KT (·=g) w w'/\∀(i:Nat) (x:Int),(Kv l)[i]?=U x->w'.cell? ⟨g,i,Y⟩=U (J I x):=by
 have zY:g<w.heap.size:=(h.lt g rfl).2;have hH:Holds (J I) w g 0 l.toArray:=by
  intro j hj;have hj':j<l.length:=by simpa using hj
  refine⟨?_,?_⟩
  .have:=h.cells (g:=g) rfl j (J I l[j]) (by simp[hj']);rw[Addr.add_lit] at this;rw[this,getElem!_pos l.toArray j (by simpa using hj')];simp
  .obtain⟨h,_⟩|⟨g',c',cur,h,_,hb,_⟩:=h.2
   .cases h
   .obtain⟨rfl⟩:g=g':=by injection h with h1;injection h1 with h2;injection h2
    simp[World.frozen?,hb]
 refine(Any.slices_Sort_int DF g 0 cap l w hH zY (by omega)).mono ?_;rintro e w' ⟨he,n,os,hW⟩;have zx:(Kv l).toArray.size=l.toArray.size:=by simp[lr]
 refine⟨he,?_,λi x hx=>?_⟩
 .subst hW;refine⟨rfl,rfl,rfl,?_,?_,λb hb zU=>?_⟩
  .show w.drawn<=w.drawn+n;omega
  .rw[size_grow,C];exact Nat.le_add_right _ _
  .rw[heap_grow_old _ _ (by rw[C];exact hb)];unfold putRow mapBlock;rw[BA,AD (λh=>zU h.symm)]
   rfl
 .have hi:i<(Kv l).length:=(AV.1 hx).1;subst hW;rw[cell?_grow _ _ _ (by rw[C];exact zY)];have:=cell?_putRow (J I) (Sort.ahead w n) g 0 l.toArray (Kv l).toArray hH zx i (by simpa using hi);rw[AO] at this;refine this.trans ?_;rw[getElem!_pos _ i (by simpa using hi)];rw[AB hi] at hx;simp at hx;simp[hx]
def wV (nA hA:Option D)(nc hc:Nat)(c:D9)(w:X)(K0:Nat->Prop)(zY:∀b,K0 b->b<w.heap.size)(hn:IH w K0 nA c.DW)(hh:Gl w K0 hA c.DV)(hm:c.DV.length<=4) :
  O DU 38 #[Ef nA hA c nc hc] w λe w'=>e=.returned (.pointer (U ⟨w.heap.size+1,0,Y⟩))/\Gr w w'/\∃g cap,w.heap.size+2<=g /\
   FZ w' (λb=>K0 b\/b=w.heap.size+1\/b=g) (w.heap.size+1) c (En c.DV.length) nA hA nc hc g cap:=by
 refine(oT nA hA nc hc c.DW.length c.DV.length w hm (rS c.DV.length hm)).mono ?_;rintro e w' ⟨rfl,g,cap,W,⟨g',cap',hv,hk,hs,_⟩,hg,zV,hz,h0,h1,h2,ho,_⟩;obtain⟨rfl,rfl⟩:g=g'/\cap=cap':=by injection hv with a b c;injection a with a;injection a with a;exact⟨a,c⟩
 have a8:=(ho.lt g rfl).2;have a6:Gr w w':=⟨⟨hk.os.trans zV.below.os,hk.tape.trans zV.below.tape,hk.output.trans zV.below.output,AH zV.size hk.size,λb hb=>(hk.block b (AC hb zV.size) (by show b≠g;omega)).trans (zV.below.block b hb)⟩,AH zV.drawn hk.drawn⟩;refine⟨rfl,a6,g,cap,hg,?_⟩;have zw:∀o,w'.cell? ⟨w.heap.size+1,o,Y⟩=W.cell? ⟨w.heap.size+1,o,Y⟩:=λo=>hk.cell (p:=⟨w.heap.size+1,o,Y⟩) hz (by show w.heap.size+1≠g;omega)
 refine⟨?_,Or.inr (Or.inl rfl),(zw 0).trans h0,(zw 1).trans h1,?_,Or.inr (Or.inr rfl),hs,?_,?_⟩
 .rintro b (h|h|h)
  .have:=zY b h;have:=a6.size;omega
  .have:=hk.size;omega
  .have:=hk.size;omega
 .rw[dx _ hm];exact(zw 2).trans h2
 .intro zU;obtain⟨b,o,e,hb,hc⟩:=hn zU;exact⟨b,o,e,.inl hb,λi x hx=>(a6.cell (p:=⟨b,o+i,Y⟩) (zY b hb)).trans (hc i x hx)⟩
 .intro zU;obtain⟨b,o,e,hb,hc⟩:=hh zU;refine⟨b,o,e,.inl hb,λi x hx=>?_⟩;obtain⟨q1,q2,q3,A,m,q4,q5⟩:=hc i x hx;have k:∀o,w'.cell? ⟨b,o,Y⟩=w.cell? ⟨b,o,Y⟩:=λo=>a6.cell (p:=⟨b,o,Y⟩) (zY b hb);refine⟨(k _).trans q1,(k _).trans q2,(k _).trans q3,A,m,(k _).trans q4,λa7=>?_⟩;obtain⟨b',o',e',hb',hc'⟩:=q5 a7;exact⟨b',o',e',.inl hb',λi x hx=>(a6.cell (p:=⟨b',o'+i,Y⟩) (zY b' hb')).trans (hc' i x hx)⟩
structure QY (nA:Option D)(nc:Nat)(c:D9)(ls:List (List Int))(k:Nat)(d:Int)(w:X)(Rc g cap:Nat)(w2:X):Prop where
 gr:Gr w w2
 c0:w2.cell? ⟨w.heap.size,0,Y⟩=U (Z nA c.DW.length nc)
 c1:w2.cell? ⟨w.heap.size,1,Y⟩=U (.slice (U ⟨g,0,Y⟩) c.DV.length cap)
 nb:w2.heap[w.heap.size+1]?=U (.cells #[J I 0] 3 (0,0))
 lt:w.heap.size+1<Rc/\Rc<w2.heap.size/\Rc<g
 given:∀i,i<5->w2.cell? ⟨Rc,i,Y⟩=U (.int .u8 (D4 ls i:Nat))
 DW:IH w2 (λb=>b<w2.heap.size/\b≠w.heap.size+1) nA c.DW
 RF:Gl w2 (λb=>b<w2.heap.size/\b≠w.heap.size+1) (U ⟨g,0,Y⟩) (G8 c k d).DV
def ux (c:D9)(k:Nat)(d:Int):(G8 c k d).DV.length=c.DV.length:=by simp[G8]
def Na {c:D9}{k i:Nat}{d:Int}{h:EG}(hi:(G8 c k d).DV[i]?=U h)(hk:k<c.DV.length) :
  (i=k/\h={ c.h k with off:=cA (c.h k).off d })\/(i≠k/\c.DV[i]?=U h):=by
 unfold G8 at hi;dsimp only at hi;rw[List.getElem?_set] at hi;by_cases e:k=i
 .subst e;rw[AF rfl,AF hk] at hi;cases hi;exact .inl ⟨rfl,rfl⟩
 .rw[AD e] at hi;exact .inr ⟨λh=>e h.symm,hi⟩
def fJ {c:D9}{sets:List Nat}(hs:∀x∈sets,c.has x):∀(k:Nat) (r:EH) (n:Nat),(∀i,c.has (r i))->∀ρ∈Eh c sets k r n,∀i,c.has (ρ i):=by
 intro k
 induction k with
 |zero=>intro r n hr ρ a6;simp[Eh] at a6;subst a6;exact hr
 |succ k ih =>
  intro r n hr ρ a6;simp only[Eh,CU] at a6;obtain⟨x,hx,h⟩:=a6;split at h
  .refine ih _ _ (λi=>?_) ρ h;unfold upd;split
   .exact hs x hx
   .exact hr i
  .simp at h
def ss {c:D9}(h:c.DV.length<=4){x:Nat}(hx:c.has x):x<16:=by
 unfold D9.has at hx;exact AC hx (BN (by omega) h)
def uy {c:D9}{ls:List (List Int)}(hE:Ek c ls=0)(h4:c.DV.length<=4)(i:Nat):D4 ls i<16:=by
 unfold Ek at hE;split at hE
 .rename_i h;exact AI hE h
 .split at hE
  .rename_i h;exact AI hE h
  .unfold D4;cases hl:ls[i]? with
   |none=>decide
   |some l =>
    have:=bg.1 hE (Fi l c.DV.length) (Bf.2 ⟨l,B5 hl,rfl⟩);exact q9 l λx hx=>by have:=(I0 this).1 x hx;omega
def mK:∀a b:Fin 16,bits BinOp.xor IntKind.u8 (a.val:Int) (b.val:Int)=((a.val ^^^ b.val:Nat):Int)/\a.val ^^^ b.val<16:=by decide +kernel
def pg:∀x:Fin 16,(wl x.val).length<=4:=by decide +kernel
def ph {a b:EH}(h:∀i,i<5->a i ^^^ b i<16):∀k,k<=5->FM a b k<=4*k:=by
 intro k
 induction k with
 |zero=>intro _;exact AA _
 |succ k ih =>
  intro hk;have h2:=pg ⟨a k ^^^ b k,h k (by omega)⟩;show FM a b k+(wl (a k ^^^ b k)).length<=_;simp only at h2;omega
def Ny (r:EH):Array Value:=#[.int .u8 (r 0),.int .u8 (r 1),.int .u8 (r 2),.int .u8 (r 3),.int .u8 (r 4)]
def wW (r:EH){i:Nat}(hi:i<5):(Ny r)[i]?=U (.int .u8 (r i)):=by
 match i,hi with
 |0,_=>rfl
 |1,_=>rfl
 |2,_=>rfl
 |3,_=>rfl
 |4,_=>rfl
def QZ (r:EH):Option (EH×Nat)->EH
 |none=>r
 |some p=>p.1
def Pa:Option (EH×Nat)->Nat
 |none=>0
 |some p=>p.2
structure J5 (r:EH)(JS Ln b9:Nat)(o:Option (EH×Nat))(W:X):Prop where
 MD:W.heap[JS]?=U (.cells (Ny (QZ r o)) 72 (0,0))
 is:W.heap[Ln]?=U (.cells #[.bool o.isSome] 4 (0,0))
 cost:W.heap[b9]?=U (.cells #[J I (Pa o)] 3 (0,0))
def ct {W:X}{b i:Nat}{a:Array E}{u:E}{t:TypeId}{f:Nat×Nat}(h:W.heap[b]?=U (.cells a t f)):(W.setCell ⟨b,i,Y⟩ u).heap[b]?=U (.cells (a.setIfInBounds i u) t f):=by
 unfold World.setCell;simp only[BA,if_true,h]
 rfl
def J5.put {r:EH}{JS Ln b9:Nat}{o:Option (EH×Nat)}{W:X}(h:J5 r JS Ln b9 o W)(n1:JS≠Ln)(n2:JS≠b9)(n3:Ln≠b9)(ρ:EH)(n:Nat)(T0:Nat->Prop)(h1:T0 JS)(h2:T0 Ln)(h3:T0 b9) :
  J5 r JS Ln b9 (U (ρ,n)) (((((((W.setCell ⟨JS,0,Y⟩ (.int .u8 (ρ 0))).setCell ⟨JS,1,Y⟩ (.int .u8 (ρ 1))).setCell ⟨JS,2,Y⟩ (.int .u8 (ρ 2))).setCell ⟨JS,3,Y⟩ (.int .u8 (ρ 3))).setCell ⟨JS,4,Y⟩ (.int .u8 (ρ 4))).setCell ⟨b9,0,Y⟩ (J I n)).setCell ⟨Ln,0,Y⟩ (.bool true)) /\
  KT T0 W (((((((W.setCell ⟨JS,0,Y⟩ (.int .u8 (ρ 0))).setCell ⟨JS,1,Y⟩ (.int .u8 (ρ 1))).setCell ⟨JS,2,Y⟩ (.int .u8 (ρ 2))).setCell ⟨JS,3,Y⟩ (.int .u8 (ρ 3))).setCell ⟨JS,4,Y⟩ (.int .u8 (ρ 4))).setCell ⟨b9,0,Y⟩ (J I n)).setCell ⟨Ln,0,Y⟩ (.bool true)):=by
 have k:∀(W:X) (p:D) (v:E),T0 p.block->KT T0 W (W.setCell p v):=λW p v hp=>KT.setCell W hp v;refine⟨⟨?_,?_,?_⟩,(k _ _ _ h1).trans ((k _ _ _ h1).trans ((k _ _ _ h1).trans ((k _ _ _ h1).trans ((k _ _ _ h1).trans ((k _ _ _ h3).trans (k _ _ _ h2))))))⟩
 .rw[AR _ _ _ _ (by show JS≠Ln;exact n1),AR _ _ _ _ (by show JS≠b9;exact n2)];exact ct (i:=4) (ct (i:=3) (ct (i:=2) (ct (i:=1) (ct (i:=0) h.MD))))
 .refine ct (i:=0) (a:=#[.bool o.isSome]) ?_;have e:∀(W:X) (i:Nat) (v:E),(W.setCell ⟨JS,i,Y⟩ v).heap[Ln]?=W.heap[Ln]?:=λW i v=>AR _ _ _ _ (by show Ln≠JS;exact Ne.symm n1);rw[AR _ _ _ _ (by show Ln≠b9;exact n3),e,e,e,e,e];exact h.is
 .rw[AR _ _ _ _ (by show b9≠Ln;exact Ne.symm n3)];refine ct (i:=0) (a:=#[J I (Pa o)]) ?_;have e:∀(W:X) (i:Nat) (v:E),(W.setCell ⟨JS,i,Y⟩ v).heap[b9]?=W.heap[b9]?:=λW i v=>AR _ _ _ _ (by show b9≠JS;exact Ne.symm n2);rw[e,e,e,e,e];exact h.cost
def J5.drewN {r:EH}{JS Ln b9:Nat}{o:Option (EH×Nat)}{W:X}(h:J5 r JS Ln b9 o W)(m:Nat):J5 r JS Ln b9 o (W.drewN m):=⟨h.MD,h.is,h.cost⟩
end Go.Sq
