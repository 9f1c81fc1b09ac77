/- Parts of the proof. -/
import Derived.Test.YtghipmneleifpaaGreatP16
import Derived.Test.YtghipmneleifpaaGreatP00
import Derived.Test.YtghipmneleifpaaGreatP12
import Derived.Test.YtghipmneleifpaaGreatP13
import Derived.Test.YtghipmneleifpaaGreatP14
import Derived.Test.YtghipmneleifpaaGreatP15
set_option linter.all false
set_option maxHeartbeats 3200000
set_option maxRecDepth 1000000
open Go.Value renaming slice->a6,int->a8
open Option renaming none->a7,some->bb
open Go.IntKind renaming i64->bc
open Go renaming World->bh,Value->bq,Calls->br,Addr->bs
open Go.Proofs renaming intOf->bn,size_putRow->bo
namespace Go.Sq
def Nj {w:bh}{base:Nat}{v:bq}{l:List (Int×Int)}(h:w.ownsRow base 165 2 v l.length (aM l)):∃A c,v=a6 A l.length c/\GI w w.heap.size A l:=by
 rcases h.2 with⟨rfl,h0⟩|⟨g,cap,cur,rfl,_,hg,_⟩
 .have:l=[]:=zj h0;subst this;exact⟨a7,0,rfl,λh=>absurd rfl h⟩
 .refine⟨_,cap,rfl,λ_=>⟨g,0,rfl,(yK.1 hg).1,λi x hx=>?_⟩⟩;have hi:=(ze.1 hx).1;have KY:l[i]?.getD (0,0)=x:=by rw[hx];rfl
  have e:∀j,(⟨g,0,a7⟩:bs).add j=⟨g,0+j,a7⟩:=λj=>by unfold Addr.add;split<;>simp_all
  have h1:=h.cells (g:=g) rfl _ _ (ir hi).1;have h2:=h.cells (g:=g) rfl _ _ (ir hi).2;rw[e,KY] at h1 h2;exact⟨h1,by rw[AJ];exact h2⟩
def RsK (w:bh)(K:Nat->Prop)(A:Option bs)(l:List (Int×Int)):Prop :=
 l≠[]->∃b o,A=bb ⟨b,o,a7⟩/\K b/\∀(i:Nat) (x:Int×Int),l[i]?=bb x->w.cell? ⟨b,o+i*2,a7⟩=bb (a8 bc x.1)/\w.cell? ⟨b,o+i*2+1,a7⟩=bb (a8 bc x.2)
def OC {w:bh}{base:Nat}{v:bq}{l:List (Int×Int)}(h:w.ownsRow base 165 2 v l.length (aM l)):∃A c,v=a6 A l.length c/\RsK w (λb=>base<=b/\b<w.heap.size) A l:=by
 obtain⟨A,c,rfl,h2⟩:=Nj h;refine⟨A,c,rfl,λhn=>?_⟩;obtain⟨b,o,rfl,hb,hc⟩:=h2 hn;exact⟨b,o,rfl,⟨(h.lt b rfl).1,hb⟩,hc⟩
def FY {w:bh}{base:Nat}{v:bq}{l:List Int}(h:w.ownsRow base 3 1 v l.length (l.map (a8 bc))):∃A c,v=a6 A l.length c/\Hb w (λb=>base<=b/\b<w.heap.size) A l:=by
 obtain⟨A,c,rfl,h2⟩:=Bp h;refine⟨A,c,rfl,λhn=>?_⟩;obtain⟨b,o,rfl,hb,hc⟩:=h2 hn;exact⟨b,o,rfl,⟨(h.lt b rfl).1,hb⟩,hc⟩
def KP (n:Nat)(bl:Nat->Nat)(w w':bh):Prop:=w.heap.size<=w'.heap.size/\∀b,b<w.heap.size->(∀h,h<n->bl h≠b)->w'.heap[b]?=w.heap[b]?
section
variable {n:Nat} {bl:Nat->Nat} {w w' w2:bh}
def KP.refl (n:Nat)(bl:Nat->Nat)(w:bh):KP n bl w w:=⟨yL _,λ_ _ _=>rfl⟩
def KP.trans (h:KP n bl w w')(k:KP n bl w' w2):KP n bl w w2:=⟨yR h.1 k.1,λb hb hk=>(k.2 b (yO hb h.1) hk).trans (h.2 b hb hk)⟩
def KP.gr (h:Gr w w'):KP n bl w w':=⟨h.size,λb hb _=>h.below.block b hb⟩
def KP.set {a:Nat}(ha:a<n)(t:Nat)(v:bq):KP n bl w (w.setCell ⟨bl a,t,a7⟩ v):=⟨by simp[World.setCell],λb _ hk=>by rw[Go.Ct.CW];exact if_neg (λe=>hk a ha e.symm)⟩
def KP.drew (h:KP n bl w w'):KP n bl w w'.drew:=h
def KP.cell (h:KP n bl w w'){b:Nat}(hb:b<w.heap.size)(hk:∀h,h<n->bl h≠b)(o:Nat):w'.cell? ⟨b,o,a7⟩=w.cell? ⟨b,o,a7⟩:=zd (h.2 b hb hk)
end
def EI (p:Int)(r:CR)(ls:List (Int×Int))(k i h t:Nat):Int :=
 FV p r ls h t k+if(ls[k]?.getD (0,0)).2=t/\h≠t then JN p (wl (r (ls[k]?.getD (0,0)).1.toNat)) h i else 0
def pT (p:Int)(r:CR)(ls:List (Int×Int))(k h t:Nat):EI p r ls k 0 h t=FV p r ls h t k:=by unfold EI JN;split<;>simp
def rL (p:Int)(r:CR)(ls:List (Int×Int))(k h t:Nat):EI p r ls k (wl (r (ls[k]?.getD (0,0)).1.toNat)).length h t=FV p r ls h t (k+1):=rfl
def Lr (p:Int)(n i:Nat):Int:=p / n+(if(i:Int)<p % n then 1 else 0)
def pU (p:Int)(r:CR)(ls:List (Int×Int))(k i h t:Nat):EI p r ls k (i+1) h t =
  EI p r ls k i h t+if(ls[k]?.getD (0,0)).2=t/\h≠t/\(wl (r (ls[k]?.getD (0,0)).1.toNat))[i]?.getD 0=h then Lr p (wl (r (ls[k]?.getD (0,0)).1.toNat)).length i else 0:=by
 unfold EI Lr;by_cases h1:(ls[k]?.getD (0,0)).2=t/\h≠t
 .rw[if_pos h1,if_pos h1];by_cases h2:(wl (r (ls[k]?.getD (0,0)).1.toNat))[i]?.getD 0=h
  .rw[if_pos ⟨h1.1,h1.2,h2⟩];show _+(_+if _ then _ else _)=_;rw[if_pos h2];omega
  .rw[if_neg (λh=>h2 h.2.2)];show _+(_+if _ then _ else _)=_;rw[if_neg h2];omega
 .rw[if_neg h1,if_neg h1,if_neg (λh=>h1 ⟨h.1,h.2.1⟩)];omega
def tI {p:Int}(hp:0<=p/\p<=99)(r:CR)(ls:List (Int×Int))(k i h t:Nat):0<=EI p r ls k i h t/\EI p r ls k i h t<=400*k+100*i:=by
 have h1:=mI hp r ls h t k;have h2:=mH hp (wl (r (ls[k]?.getD (0,0)).1.toNat)) h i;unfold EI;split<;>omega
open Go.Proofs
open Go.RowKit
def pV {w:bh}{ops:Array Oper}{rest:List Oper}{o:Oper}{a:Act}{Q:Exit->Act->bh->Prop}(hgd:o.guard=a7)(s x:Operand)(ho:o.op=.call { callee:=.builtin .append,args:=#[s,x],argTypes:=#[26,26] })
  (base:Nat) (v:bq) (n:Nat) (xs:List bq) (hs:a.eval s=v) (hown:w.ownsRow base 22 1 v n xs) (ad:bs) (c:Nat) (u:bq) (hx:a.eval x=.slice (bb ad) 1 c) (hc:w.cell? (ad.add 0)=bb u) (h1:u.oneCell'=true)
  (hn:n<=1048576) (hbase:base<=w.heap.size) (h:∀v' w',w'.ownsRow base 22 1 v' (n+1) (xs++[u])->w.grownBy w' v.ownBlock->w.drawn<=w'.drawn->wpList B1 ops Q rest (a.put o.dst v') w'):wpList B1 ops Q (o::rest) a w:=by
 obtain⟨i0,hi,hz0,hz1,hz2⟩:=info_parts By;refine CE hgd s x 26 ho base 22 i0 _ 1 24 ((Sq.underlying 26).trans Tryz.underlying26) hi hz0 hz1 hz2 rfl (by decide) v n xs hs hown ad 1 c [u] hx rfl (λj u hj=>?_) (λu' hu=>?_) (by unfold maxLen;omega) (by omega) hbase h
 .match j,hj with
  |0,hj=>cases hj;exact hc
 .simp only[yT,yQ,or_false] at hu;subst hu;exact h1
def xp (nA hA gA rA:Option bs)(nc hc gc rc:Nat)(c:Cc)(ls:List (List Int))(rs:List (Int×Int))(p:Int)(w:bh)(B:Nat)(hB:B<=w.heap.size)(hn:RI w B nA c.B3)(hh:Db w B hA c.B2)(hg:Da w B gA ls)(hr:GI w B rA rs)
  (F4:c.B3.length<=4611686018427387904) (hl2:c.B2.length<=4611686018427387904) (DN:∀h∈c.B2,h.off.length<=4611686018427387904) (IP:ls.length<=4611686018427387904) (hl4:∀x∈ls,x.length<=4611686018427387904) (Qf:rs.length<=4611686018427387904) (UE:rs.length<=rc)
  (hF:Cg c ls=0) (hR:ip c.B3.length rs=0) (hp:0<=p/\p<=99) :
  br B1 68 #[Cj nA hA c nc hc,a6 gA ls.length gc,a6 rA rs.length rc,a8 bc p] w λe w'=>Gr w w'/\∃A k,e=.returned (.tuple #[a6 A c.B2.length k,a8 bc 0]) /\
   Da w' w'.heap.size A (Jd c (B7 ls) p (Dj c.B3.length rs rs.length)):=by
 unfold Cj;obtain⟨W0,hW0⟩:∃W0:bh,W0=w.alloc (.cells #[a6 nA c.B3.length nc,a6 hA c.B2.length hc] 25):=⟨_,rfl⟩;have hg0:Gr w W0:=hW0▸(Gr.refl w).alloc _;have hz0:W0.heap.size=w.heap.size+1:=by rw[hW0];simp
 have HW:=yJ hW0;have hrd:=tE nA hA gA rA nc hc gc rc c ls rs W0 B (by omega) (hn.gr hB hg0) (hh.keep λb o hb=>hg0.cell (yO hb hB)) (hg.gr hB hg0) (hr.gr hB hg0) F4 hl2 DN IP hl4 Qf UE hF hR;unfold Cj at hrd;have HRD:=yJ hrd;have Du:=yJ hg0;have Sz:Hid (W0.cell? ⟨w.heap.size,1,a7⟩=bb (a6 hA c.B2.length hc)):=yJ (by rw[hW0,yN _ _ _ _ rfl];rfl);have Ll:=yJ hF
 have FQ:=yJ (Cc.Ok.of (show Cn c=0 by
  have:=hF;unfold Cg at this;split at this
  .exact absurd this (by assumption)
  .simpa using ‹¬Cn c≠0›))
 have HRZ:=yJ (lr hR);have HBT:Hid (∀W,br B1 39 #[a8 bc p,a8 bc 0,a8 bc 99] W λe w'=>e=.returned (.bool true)/\W=w'):=yJ λW=>by
  have:Ez p 0 99=true:=by simp[Ez];omega
  rw[<-this];exact bS _ _ _ W
 clear hW0 hg0 hrd hn hh hg hr hl4 DN hF hR;go_enter Sq.func68,Tryz.ntmps68;go_wp2_with fail;rw[<-HW.out];refine HRD.out.mono ?_;rintro e w1 ⟨hg1,cb,A,ka,rfl,Vz,Em⟩;obtain⟨W1,hW1⟩:∃W1:bh,W1=w1.alloc (.cells #[.int .u8 (B7 ls 0),.int .u8 (B7 ls 1),.int .u8 (B7 ls 2),.int .u8 (B7 ls 3),.int .u8 (B7 ls 4)] 75):=⟨_,rfl⟩;have Ju:Gr w1 W1:=hW1▸(Gr.refl w1).alloc _;have hz1:W1.heap.size=w1.heap.size+1:=by rw[hW1];simp
 have hzz:=hg1.size;have DO:=yJ (hg1.trans Ju);have SD:=yJ (Vz.on Ju);have KQ:=yJ (Em.gr (yL _) Ju);have UF:Hid (∀i,i<5->W1.cell? ⟨w1.heap.size,i,a7⟩=bb (.int .u8 (B7 ls i:Nat))):=yJ λi hi=>by
  rw[hW1,yN _ _ _ _ (by simp)]
  match i,hi with
  |0,_=>rfl
  |1,_=>rfl
  |2,_=>rfl
  |3,_=>rfl
  |4,_=>rfl
 have hc1:w1.cell? ⟨w.heap.size,1,a7⟩=bb (a6 hA c.B2.length hc):=(hg1.cell (by show w.heap.size<_;omega)).trans Sz.out;have Gb:w.heap.size<w1.heap.size:=by omega
 have hh4:=FQ.out.h4;have Vu:=FQ.out.h1;have JE:=λw=>jY c.B2.length w (by omega);have Qk:=yJ hW1;clear hg1 Vz Em Ju HRD hW1;unfold Dr;go_wp2_with fail;rw[<-Qk.out];refine(HBT.out _).mono ?_;rintro e w' ⟨rfl,rfl⟩;rw[Qk.out];go_wp2;rw[<-Qk.out];have hwl2:w.heap.size<W1.heap.size/\w1.heap.size<W1.heap.size:=by omega
 have Uw:=yJ hz1;clear hc1 hz1;have hc1:=yJ ((DO.out.cell (p:=⟨w.heap.size,1,a7⟩) (by show w.heap.size<_;omega)).trans Sz.out);go_loopw [14,39] (λv i wr=>∃k:Nat,k<=c.B2.length/\i=a8 bc k/\Gr W1 wr/\∃bl,IQ wr W1.heap.size v c.B2.length k (λ_ _=>0) bl) (λ_ i _=>c.B2.length-(bn i).toNat)
 case atStart=>exact⟨0,by omega,rfl,.refl _,λ_=>0,.nil _ _ _ _ _⟩
 case round =>
  obtain⟨k,hk,rfl,hgr,bl,Qm⟩:=hrel;have E6:=yJ hgr;have HT:=yJ Qm;have hc1:=(hgr.cell (p:=⟨w.heap.size,1,a7⟩) (by show w.heap.size<_;omega)).trans hc1.out;have hgz:=hgr.size;clear hgr Qm;by_cases hlt:k<c.B2.length
  .obtain⟨xs,hrow,Vh⟩:=HT.out.row;have HXS:=yJ Vh;have Je:=yJ hrow;clear Vh;have aaR:w.heap.size<wr.heap.size:=by omega
   go_wp2_with (at_builtin;refine pV rfl _ _ rfl W1.heap.size _ _ _ rfl ((hrow.alloc _).alloc _) ⟨wr.heap.size+1,0,a7⟩ 1 (.slice (bb ⟨wr.heap.size,0,a7⟩) c.B2.length c.B2.length) rfl ?c1 rfl ?c2 ?c3 ?_)
   case c1=>rw[Addr.add_lit,yN _ _ _ _ (by simp)];rfl
   case c2=>omega
   case c3=>simp;omega
   intro v' w3 hown' hgrow hd;have Gu:=yJ (((E6.out.alloc _).alloc _).grown hgrow hd λq hq=>(hrow.lt q hq).1);have YR:=yJ (HT.out.push (q:=wr.heap.size) Je.out HXS.out (by omega) (yL _) (λb hb=>(heap_alloc_old _ _ (by simp;omega)).trans (heap_alloc_old _ _ hb)) ((heap_alloc_old _ _ (by simp)).trans (heap_alloc_new _ _)) (λt ht=>fC _ _ ht) (by simp;omega) hgrow hown');clear hown' hgrow hd hrow
   go_wp2;go_roundw
   case rel=>exact⟨k+1,by omega,by go_num,Gu.out,_,YR.out⟩
   case measure=>simp[Proofs.intOf];omega
  .have IE:k=c.B2.length:=by omega
   subst IE;obtain⟨g,hv,Jn,_⟩:∃g,(∃cap,u14=.slice (bb ⟨g,0,a7⟩) c.B2.length cap)/\g<wr.heap.size/\True:=by
    obtain⟨xs,h1,h2⟩:=HT.out.row;rcases h1.2 with⟨_,h0⟩|⟨g,cap,cur,hv,_,k2,_⟩
    .omega
    .exact⟨g,⟨cap,hv⟩,(yK.1 k2).1,trivial⟩
   obtain⟨cap,rfl⟩:=hv;have hws:∀x∈Dj c.B3.length rs rs.length,0<=x/\x<=60:=λx hx=>by
    obtain⟨j,_,rfl⟩:=zu.1 hx;exact nK HRZ.out _ _ (yL _)
   have VB:=tH cb nA hA A nc hc ka c (B7 ls) (Dj c.B3.length rs rs.length) wr (SD.out.on E6.out) FQ.out (eh Ll.out) hws (by rw[dV];exact FQ.out.n5) ((KQ.out.gr (by omega) E6.out).more (by omega));rw[dV] at VB;have J6:=j7 FQ.out (B7 ls) (Dj c.B3.length rs rs.length);have HLN:Hid (∀q∈Ei c (B7 ls) (Dj c.B3.length rs rs.length),0<=q.1/\q.1<c.B3.length/\0<=q.2/\q.2<c.B2.length):=yJ λq hq=>by
    have:=(lm FQ.out (B7 ls) (Dj c.B3.length rs rs.length)).night q hq
    rwa [dV] at this
   have HOL:Hid (Jd c (B7 ls) p (Dj c.B3.length rs rs.length)=Nh c.B2.length λh t=>FV p (B7 ls) (Ei c (B7 ls) (Dj c.B3.length rs rs.length)) h t (Ei c (B7 ls) (Dj c.B3.length rs rs.length)).length):=yJ rfl;obtain⟨L,hL⟩:∃L,L=Ei c (B7 ls) (Dj c.B3.length rs rs.length):=⟨_,rfl⟩;rw[<-hL] at VB J6 HLN HOL;clear hL;have YS:=yJ VB
   have UE:∀i,i<5->wr.cell? ⟨w1.heap.size,i,a7⟩=bb (.int .u8 (B7 ls i:Nat)):=λi hi=>(E6.out.cell (by show w1.heap.size<_;omega)).trans (UF.out i hi);obtain⟨a0,a1,a2,a3,a4⟩:=JG UE;clear VB UE hws;unfold Dr at YS;go_wp2_with fail;refine YS.out.mono ?_;rintro e w2 ⟨v,rfl,hown2,hg2⟩;obtain⟨A2,k2,rfl,hrs⟩:=OC hown2;have SA:=yJ hrs;have Gt:=yJ (E6.out.trans hg2);have HT2:=yJ ((HT.out.gr hg2).congr (M':=λh t=>FV p (B7 ls) L h t 0) λa t _ _=>rfl)
   have HBL:Hid (∀h,h<c.B2.length->bl h<wr.heap.size):=yJ λh hh=>(HT.out.at_ hh hh).2.1;have hz2:=hg2.size;have ab4:=yJ (λi hi=>(hg2.cell (p:=⟨w1.heap.size,i,a7⟩) (by show w1.heap.size<_;omega)).trans (((E6.out.cell (p:=⟨w1.heap.size,i,a7⟩) (by show w1.heap.size<_;omega)).trans (UF.out i hi))));clear hown2 hg2 hrs a0 a1 a2 a3 a4 YS;go_wp2;go_loopw [54] (λi wr=>∃k:Nat,k<=L.length/\i=a8 bc k/\KP c.B2.length bl w2 wr/\Gr W1 wr/\IQ wr W1.heap.size (.slice (bb ⟨g,0,a7⟩) c.B2.length cap) c.B2.length c.B2.length (λh t=>FV p (B7 ls) L h t k) bl) (λi _=>L.length-(bn i).toNat)
   case atStart=>exact⟨0,by omega,rfl,.refl _ _ _,Gt.out,HT2.out⟩
   case round =>
    obtain⟨wq,rfl⟩:∃wq,wq=wr:=⟨_,rfl⟩;obtain⟨k,hk,rfl,QR,hgr,Qm⟩:=hrel;have VC:=yJ QR;have Ls:=yJ hgr;have HTQ:=yJ Qm;have hzq:=QR.1;by_cases hlk:k<L.length
    .have OD:=HLN.out _ (zx hlk);have Vi:L[k]?.getD (0,0)=L[k]:=by rw[yM hlk];rfl
     obtain⟨b,o,rfl,UG,Jj⟩:=SA.out (λe=>by rw[e] at hlk;simp at hlk);obtain⟨h1,h2⟩:=Jj k _ (yM hlk);have hne:∀h,h<c.B2.length->bl h≠b:=λh hh e=>by have:=HBL.out h hh;omega
     have d1:=(QR.cell UG.2 hne (o+k*2)).trans h1;have d2:=(QR.cell UG.2 hne (o+k*2+1)).trans h2;rw[<-Vi] at OD d1 d2;have HM0:Hid (∀a t,EI p (B7 ls) L k 0 a t=FV p (B7 ls) L a t k):=yJ λa t=>pT p (B7 ls) L k a t;have HME:Hid (∀a t,EI p (B7 ls) L k (wl (B7 ls (L[k]?.getD (0,0)).1.toNat)).length a t=FV p (B7 ls) L a t (k+1)):=yJ λa t=>rL p (B7 ls) L k a t;have Xl:Hid (∀i a t,EI p (B7 ls) L k (i+1) a t=EI p (B7 ls) L k i a t+if(L[k]?.getD (0,0)).2=(t:Int)/\a≠t/\(wl (B7 ls (L[k]?.getD (0,0)).1.toNat))[i]?.getD 0=(a:Int) then Lr p (wl (B7 ls (L[k]?.getD (0,0)).1.toNat)).length i else 0):=yJ λi a t=>pU p (B7 ls) L k i a t
     generalize L[k]?.getD (0,0)=q at OD d1 d2 HME Xl;obtain⟨q1,q2⟩:=q;obtain⟨qn,rfl⟩:∃j:Nat,q1=j:=⟨q1.toNat,by omega⟩;obtain⟨qf,rfl⟩:∃j:Nat,q2=j:=⟨q2.toNat,by omega⟩;dsimp only at OD d1 d2 HME Xl;rw[AM] at HME Xl;have Mr:=FQ.out.n5;have hqn:qn<5:=by omega
     have hqf:qf<c.B2.length:=by omega
     have hrq:wq.cell? ⟨w1.heap.size,qn,a7⟩=bb (.int .u8 (B7 ls qn:Nat)):=(hgr.cell (by show w1.heap.size<_;omega)).trans (UF.out qn hqn);have KV:B7 ls qn<16:=Bs FQ.out.h4 (eh Ll.out qn);have hxh:B7 ls qn<2 ^ c.B2.length:=eh Ll.out qn;generalize B7 ls qn=x at hrq KV hxh HME Xl;obtain⟨W2,hW2⟩:∃W2:bh,W2=wq.alloc (.cells #[a8 bc (qn:Int),a8 bc (qf:Int)] 165):=⟨_,rfl⟩
     have Xm:=yJ (gK x W2 KV);have hwq1:w1.heap.size<wq.heap.size:=by omega
     have Vv:Hid (W2.cell? ⟨wq.heap.size,1,a7⟩=bb (a8 bc (qf:Int))):=yJ (by rw[hW2,yN _ _ _ _ rfl];rfl);have ahL:Hid (Gr wq W2):=yJ (hW2▸(Gr.refl wq).alloc _);have XS:Hid (W2.heap.size=wq.heap.size+1):=yJ (by rw[hW2];simp);have Rc:=yJ hW2;clear QR hgr Qm Jj h1 h2 Vi hW2;go_wp2_with fail;rw[<-Rc.out];refine Xm.out.mono ?_;rintro e w3 ⟨v3,rfl,KE,hg3⟩;obtain⟨A3,k3,rfl,FD⟩:=FY KE
     have HON:=yJ FD;have Gu:=yJ (ahL.out.trans hg3);have YR:=yJ ((HTQ.out.gr Gu.out).congr (M':=λa t=>EI p (B7 ls) L k 0 a t) λa t _ _=>(HM0.out a t).symm);have ahM:=yJ ((hg3.cell (p:=⟨wq.heap.size,1,a7⟩) (by show wq.heap.size<_;have:=XS.out;omega)).trans Vv.out);have hz3:=Gu.out.size;have acE:wq.heap.size<W2.heap.size:=by have:=XS.out;omega
     have hz32:=hg3.size;clear KE hg3 FD Xm d1 d2;go_wp2;go_loopw [65] (λi wr=>∃j:Nat,j<=(wl x).length/\i=a8 bc j/\KP c.B2.length bl w3 wr/\Gr W1 wr/\IQ wr W1.heap.size (.slice (bb ⟨g,0,a7⟩) c.B2.length cap) c.B2.length c.B2.length (λa t=>EI p (B7 ls) L k j a t) bl) (λi _=>(wl x).length-(bn i).toNat)
     case atStart=>exact⟨0,by omega,rfl,.refl _ _ _,Ls.out.trans Gu.out,YR.out⟩
     case round =>
      obtain⟨j,hj,rfl,QR,Ml,QM⟩:=hrel;have HKI:=yJ QR;have JY:=yJ Ml;have HTI:=yJ QM;have YB:=QR.1;by_cases Xn:j<(wl x).length
      .obtain⟨b3,o3,rfl,ahO,hc3⟩:=HON.out (λe=>by rw[e] at Xn;simp at Xn);obtain⟨a,ha,ha4,hab⟩:=Kg (zx Xn);have hah:a<c.B2.length:=gJ hxh hab;have NZ:=(QR.cell ahO.2 (λh hh e=>by have:=HBL.out h hh;omega) (o3+j)).trans (hc3 j _ (yM Xn));rw[ha] at NZ;have Nk:Hid ((wl x)[j]?.getD 0=(a:Int)):=yJ (by rw[yM Xn];exact ha);have SC:=(QR.cell (b:=wq.heap.size) (by omega) (λh hh e=>by have:=HBL.out h hh;omega) 1).trans ahM.out
       have HMJ:Hid (∀a' t,EI p (B7 ls) L k (j+1) a' t=EI p (B7 ls) L k j a' t+if(qf:Int)=(t:Int)/\a'≠t/\(a:Int)=(a':Int) then Lr p (wl x).length j else 0):=yJ λa' t=>by rw[Xl.out,Nk.out]
       have SH:=bF x;have HPI:Hid (Lr p (wl x).length j=p / ((wl x).length:Int)+if(j:Int)<p % ((wl x).length:Int) then 1 else 0):=yJ rfl;clear ha;generalize (wl x).length=N at Xn SH HPI HMJ HME hj ⊢;clear QR Ml QM;have Xi:0<=p / (N:Int):=Int.ediv_nonneg hp.1 (by omega);have hq2:p / (N:Int)<=99:=Int.le_trans (Int.ediv_le_self _ hp.1) hp.2;obtain⟨g',eg,_,hrow⟩:=HTI.out.OA hah;have eg':g'=g:=by injection eg with e;injection e with e;exact e.symm
       subst eg';obtain⟨hta,htb,htc,htf⟩:=HTI.out.at_ hah hqf;have hmb:=tI hp (B7 ls) L k j a qf;by_cases haf:a=qf
       .have hne:((a:Int) != (qf:Int))=false:=by simp[haf]
        have HT5:=yJ (HTI.out.congr (M':=λa t=>EI p (B7 ls) L k (j+1) a t) λa' t _ _=>by rw[HMJ.out,if_neg (by omega)];simp);clear hrow htc htf;by_cases YT:(j:Int)<p % (N:Int)
        all_goals
         go_wp2;go_roundw
         case rel=>exact⟨j+1,by omega,by go_num,HKI.out,JY.out,HT5.out⟩
         case measure=>simp[Proofs.intOf];omega
       .have hne:((a:Int) != (qf:Int))=true:=by simp;omega
        have SI:Hid (∀y:Int,y=Lr p N j->IQ (wr.setCell ⟨bl a,qf,a7⟩ (a8 bc (EI p (B7 ls) L k j a qf+y))) W1.heap.size (.slice (bb ⟨g',0,a7⟩) c.B2.length cap) c.B2.length c.B2.length (λa t=>EI p (B7 ls) L k (j+1) a t) bl):=yJ λy hy=>HTI.out.set hah hqf _ λa' t' _ _=>by
         rw[HMJ.out];by_cases e:a'=a/\t'=qf
         .obtain⟨rfl,rfl⟩:=e;rw[if_pos ⟨rfl,haf,rfl⟩,if_pos ⟨rfl,rfl⟩,hy]
         .rw[if_neg (λh=>e (by omega)),if_neg e];omega
        have acT:=yJ (λv=>HKI.out.trans (KP.set (w:=wr) hah qf v));have acU:=yJ (λv=>JY.out.setCell (p:=⟨bl a,qf,a7⟩) hta v);have hblw:=htb;generalize EI p (B7 ls) L k j a qf=M0 at htc hmb SI;by_cases YT:(j:Int)<p % (N:Int)
        .have HY:=yJ (SI.out (p / (N:Int)+1) (by rw[HPI.out,if_pos YT]));go_wp2;go_region
         all_goals
          go_wp2;go_roundw
          case rel=>exact⟨j+1,by omega,by go_num,(acT.out _).drew,(acU.out _).drew,HY.out.drew⟩
          case measure=>simp[Proofs.intOf];omega
        .have HY:=yJ (SI.out (p / (N:Int)) (by rw[HPI.out,if_neg YT];omega));go_wp2;go_region
         all_goals
          go_wp2;go_roundw
          case rel=>exact⟨j+1,by omega,by go_num,(acT.out _).drew,(acU.out _).drew,HY.out.drew⟩
          case measure=>simp[Proofs.intOf];omega
      .have Oz:j=(wl x).length:=by omega
       subst Oz;have HT6:=yJ (HTI.out.congr (M':=λa t=>FV p (B7 ls) L a t (k+1)) λa' t _ _=>HME.out a' t);go_wp2;go_roundw
       case rel=>exact⟨k+1,by omega,by go_num,VC.out.trans ((KP.gr Gu.out).trans HKI.out),JY.out,HT6.out⟩
       case measure=>simp[Proofs.intOf];omega
    .have IE:k=L.length:=by omega
     subst IE;have HTF:=yJ (HTQ.out.K5);clear QR hgr Qm;go_wp2;go_ret2;exact⟨Du.out.trans (DO.out.trans Ls.out),_,_,rfl,by rw[HOL.out];exact HTF.out⟩
def Hv (M:List (List Int))(k i j:Nat):Int:=Gs M k j-(if j=k then(M[k]?.getD []).sum else 0)+if j<i then(M[k]?.getD [])[j]?.getD 0 else 0
def tJ (M:List (List Int))(k i j:Nat)(h:j<i):Hv M k i j=Gs M (k+1) j:=by
 show _+(if _ then _ else _)=_;rw[if_pos h];rfl
def rM (M:List (List Int))(k j:Nat):Hv M k 0 j=Gs M k j-if j=k then(M[k]?.getD []).sum else 0:=by
 unfold Hv;generalize Gs M k j-(if j=k then(M[k]?.getD []).sum else 0)=a;rw[if_neg (zU j)];omega
def rN (M:List (List Int))(k j t:Nat):Hv M k (j+1) t=Hv M k j t+if t=j then(M[k]?.getD [])[j]?.getD 0 else 0:=by
 unfold Hv;generalize Gs M k t-(if t=k then(M[k]?.getD []).sum else 0)=a;by_cases e:t=j
 .subst e;rw[if_pos (by omega),if_neg (by omega),if_pos rfl];omega
 .by_cases e2:t<j
  .rw[if_pos (by omega),if_pos e2,if_neg e];omega
  .rw[if_neg (by omega),if_neg e2,if_neg e];omega
def rO (M:List (List Int))(k j:Nat):Hv M k j j=Gs M k j-if j=k then(M[k]?.getD []).sum else 0:=by
 unfold Hv;generalize Gs M k j-(if j=k then(M[k]?.getD []).sum else 0)=a;rw[if_neg (by omega)];omega
structure JO (M:List (List Int)):Prop where
 size:M.length<=4
 rows:∀l∈M,l.length=M.length/\∀x∈l,0<=x/\x<=65536
def JO.row {M:List (List Int)}(h:JO M){k:Nat}(hk:k<M.length):(M[k]?.getD []).length=M.length/\∀x∈M[k]?.getD [],0<=x/\x<=65536:=h.rows _ (gp M k hk)
def JO.at_ {M:List (List Int)}(h:JO M){k:Nat}(hk:k<M.length)(j:Nat):0<=(M[k]?.getD [])[j]?.getD 0/\(M[k]?.getD [])[j]?.getD 0<=65536:=by
 rcases zC j (M[k]?.getD []).length with hj|hj
 .exact(h.row hk).2 _ (EK _ j hj)
 .rw[AG hj];simp
def JO.sum {M:List (List Int)}(h:JO M){k:Nat}(hk:k<M.length):0<=(M[k]?.getD []).sum/\(M[k]?.getD []).sum<=262144:=by
 have h1:=FI 0 65536 _ (h.row hk).2;have h2:=(h.row hk).1;have h3:=h.size;omega
def oN {M:List (List Int)}(h:JO M)(k j:Nat)(hk:k<=M.length):-(262144*k)<=Gs M k j/\Gs M k j<=65536*k:=by
 induction k with
 |zero=>simp[Gs]
 |succ k ih =>
  have h1:=ih (by omega);have h2:=h.at_ (show k<M.length by omega) j;have h3:=h.sum (show k<M.length by omega);unfold Gs;split<;>omega
def pW {c:Cc}(hc:c.Ok)(r:CR){p:Int}(hp:0<=p/\p<=99)(ws:List Int):JO (Jd c r p ws):=by
 have hl:(Jd c r p ws).length=c.B2.length:=gv _ _;refine⟨by rw[hl];exact hc.h4,λl hm=>?_⟩;rw[hl];simp only[Jd,Nh,zu,zB] at hm;obtain⟨a,ha,rfl⟩:=hm;refine⟨by simp,λx hx=>?_⟩;simp only[zu,zB] at hx;obtain⟨t,_,rfl⟩:=hx;have h1:=mI hp r (Ei c r ws) a t (Ei c r ws).length;have h2:=j7 hc r ws;omega
def pX (nA hA gA rA:Option bs)(nc hc gc rc:Nat)(c:Cc)(ls:List (List Int))(rs:List (Int×Int))(p:Int)(w:bh)(B:Nat)(hB:B<=w.heap.size)(hn:RI w B nA c.B3)(hh:Db w B hA c.B2)(hg:Da w B gA ls)(hr:GI w B rA rs)
  (F4:c.B3.length<=4611686018427387904) (hl2:c.B2.length<=4611686018427387904) (DN:∀h∈c.B2,h.off.length<=4611686018427387904) (IP:ls.length<=4611686018427387904) (hl4:∀x∈ls,x.length<=4611686018427387904) (Qf:rs.length<=4611686018427387904) (UE:rs.length<=rc)
  (hF:Cg c ls=0) (hR:ip c.B3.length rs=0) (hp:0<=p/\p<=99) :
  br B1 24 #[Cj nA hA c nc hc,a6 gA ls.length gc,a6 rA rs.length rc,a8 bc p] w λe w'=>Gr w w'/\∃A k,e=.returned (.tuple #[a6 A c.B2.length k,a8 bc 0]) /\
   RI w' w'.heap.size A (Sx (Jd c (B7 ls) p (Dj c.B3.length rs rs.length))):=by
 unfold Cj;obtain⟨W0,hW0⟩:∃W0:bh,W0=w.alloc (.cells #[a6 nA c.B3.length nc,a6 hA c.B2.length hc] 25):=⟨_,rfl⟩;have hg0:Gr w W0:=hW0▸(Gr.refl w).alloc _;have hz0:W0.heap.size=w.heap.size+1:=by rw[hW0];simp
 have HW:=yJ hW0;have how:=xp nA hA gA rA nc hc gc rc c ls rs p W0 B (by omega) (hn.gr hB hg0) (hh.keep λb o hb=>hg0.cell (yO hb hB)) (hg.gr hB hg0) (hr.gr hB hg0) F4 hl2 DN IP hl4 Qf UE hF hR hp;unfold Cj at how;have Du:=yJ hg0
 have Dx:=Cc.Ok.of (show Cn c=0 by
  have:=hF;unfold Cg at this;split at this
  .exact absurd this (by assumption)
  .simpa using ‹¬Cn c≠0›)
 have YU:=pW Dx (B7 ls) hp (Dj c.B3.length rs rs.length);have OD:(Jd c (B7 ls) p (Dj c.B3.length rs rs.length)).length=c.B2.length:=gv _ _;have h4:=Dx.h4;generalize Jd c (B7 ls) p (Dj c.B3.length rs rs.length)=M at how YU OD;rw[<-OD] at h4;have HLN:=yJ OD;have HOW:=yJ (how.mono (R':=λe w'=>Gr W0 w'/\∃A k,e=.returned (.tuple #[a6 A M.length k,a8 bc 0])/\Da w' w'.heap.size A M) λe w' h=>by rw[OD];exact h)
 have HTO:=yJ YU;have JE:=λw=>jY M.length w (by omega);clear hW0 hg0 how hn hh hg hr hl4 DN hF hR Dx YU OD;go_enter Sq.func24,Tryz.ntmps24;go_wp2_with fail;rw[<-HW.out];refine HOW.out.mono ?_;rintro e w1 ⟨hg1,A,ka,rfl,acV⟩;have DO:=yJ hg1;have Nk:=yJ acV;have hz1:=hg1.size;clear hg1 acV HOW;go_wp2;go_loopw [33] (λi wr=>∃k:Nat,k<=M.length/\i=a8 bc k/\Gr w1 wr/\w1.heap.size<wr.heap.size/\∀j,j<M.length->wr.cell? ⟨w1.heap.size,j,a7⟩=bb (a8 bc (Gs M k j))/\wr.frozen? ⟨w1.heap.size,j,a7⟩=false) (λi _=>M.length-(bn i).toNat)
 case atStart =>
  refine⟨0,by omega,rfl,(Gr.refl w1).alloc _,by simp,λj hj=>⟨?_,?_⟩⟩
  .rw[yN _ _ _ _ (by simp),fC _ _ hj];rfl
  .rw[zD _ _ _ _ (by simp)]
 case round =>
  obtain⟨wq,rfl⟩:∃wq,wq=wr:=⟨_,rfl⟩;obtain⟨k,hk,rfl,hgr,YA,hcs⟩:=hrel;have E6:=yJ hgr;have LN:=yJ hcs;by_cases hlt:k<M.length
  .obtain⟨b,o,A',c',rfl,hb,acW,YV⟩:=Nk.out.at_ hlt;have Jj:=(hgr.cell (p:=⟨b,o+k,a7⟩) hb).trans acW;have Em:=YV.gr (yL _) hgr;have NG:=yJ YV;clear acW YV;obtain⟨VD,hrx⟩:=HTO.out.row hlt;have hsm:=HTO.out.sum hlt;obtain⟨e1,e2⟩:=hcs k hlt;have Iz:=oN HTO.out k k hk;have RR:∀q,q=wq\/q=wq.drew->br B1 52 #[a6 A' (M[k]?.getD []).length c'] q λe w'=>e=.returned (a8 bc (M[k]?.getD []).sum)/\q=w':=λq hq=>ya A' c' (M[k]?.getD []) q w1.heap.size (by rcases hq with rfl|rfl<;>exact Em) (by omega) (λx hx=>by have:=hrx x hx;omega)
   have HM0:Hid (∀j,j<M.length->Hv M k 0 j=Gs M k j-if j=k then(M[k]?.getD []).sum else 0):=yJ λj _=>rM M k j;have KQ:=yJ Em;have HRX:=yJ hrx;rw[VD] at Jj RR;have acX:=yJ RR;obtain⟨S,hS⟩:∃S,S=(M[k]?.getD []).sum:=⟨_,rfl⟩;rw[<-hS] at acX hsm HM0;have Vy:Hid (∀j,j<M.length->(wq.setCell ⟨w1.heap.size,k,a7⟩ (a8 bc (Gs M k k-S))).cell? ⟨w1.heap.size,j,a7⟩=bb (a8 bc (Hv M k 0 j))/\(wq.setCell ⟨w1.heap.size,k,a7⟩ (a8 bc (Gs M k k-S))).frozen? ⟨w1.heap.size,j,a7⟩=false):=yJ λj hj=>by
    rw[zQ,HM0.out j hj];refine⟨?_,(LN.out j hj).2⟩;by_cases e:j=k
    .subst e;rw[yW _ _ _ e1,if_pos rfl]
    .rw[yP _ _ _ _ (by simp[Ne.symm e]),if_neg e,(LN.out j hj).1];simp
   have HGS:Hid (Gr w1 (wq.setCell ⟨w1.heap.size,k,a7⟩ (a8 bc (Gs M k k-S)))):=yJ (hgr.setCell (p:=⟨w1.heap.size,k,a7⟩) (yL _) _);clear hgr hcs Em hrx RR hS LN;generalize Gs M k k=bk at e1 Iz Vy HGS;have hwr:IntKind.i64.wrap (bk-S)=bk-S:=by simp[IntKind.wrap,IntKind.bits,IntKind.signed];omega
   go_wp2;go_region_with (go_at_call 52;refine(acX.out _ (by first|exact Or.inl rfl|exact Or.inr rfl)).mono ?_;rintro e w3 ⟨rfl,rfl⟩)
   all_goals
    clear e1 e2 hwr;go_wp2;go_loopw [48] (λi wr=>∃j:Nat,j<=M.length/\i=a8 bc j/\Gr w1 wr/\w1.heap.size<wr.heap.size/\∀t,t<M.length->wr.cell? ⟨w1.heap.size,t,a7⟩=bb (a8 bc (Hv M k j t))/\wr.frozen? ⟨w1.heap.size,t,a7⟩=false) (λi _=>M.length-(bn i).toNat)
    case atStart=>exact⟨0,by omega,rfl,HGS.out.drew,by simp[World.setCell,World.drew];omega,Vy.out⟩
    case round =>
     obtain⟨j,hj,rfl,Ml,YB,hci⟩:=hrel;have JY:=yJ Ml;have Xo:=yJ hci;by_cases Xn:j<M.length
     .obtain⟨b2,o2,rfl,hb2,hcj⟩:=(NG.out.gr (yL _) Ml).at_ (k:=j) (by omega);have hx:=HTO.out.at_ hlt j;obtain⟨e1,e2⟩:=hci j Xn;have RA:=oN HTO.out k j hk;have Xl:Hid (∀t,Hv M k (j+1) t=Hv M k j t+if t=j then(M[k]?.getD [])[j]?.getD 0 else 0):=yJ λt=>rN M k j t;have hbm:-(262144*5)<=Hv M k j j/\Hv M k j j<=65536*5:=by
       have hsm2:=HTO.out.sum hlt;rw[rO];split<;>omega
      generalize Hv M k j j=y at e1 hbm;generalize (M[k]?.getD [])[j]?.getD 0=z at hcj hx Xl;have HST:Hid (y=y->∀t,t<M.length->(wr.setCell ⟨w1.heap.size,j,a7⟩ (a8 bc (y+z))).cell? ⟨w1.heap.size,t,a7⟩=bb (a8 bc (Hv M k (j+1) t))/\(wr.setCell ⟨w1.heap.size,j,a7⟩ (a8 bc (y+z))).frozen? ⟨w1.heap.size,t,a7⟩=false):=yJ λ_ t ht=>by
       rw[zQ,Xl.out];refine⟨?_,(Xo.out t ht).2⟩;by_cases e:t=j
       .subst e;rw[yW _ _ _ e1,if_pos rfl];have:=(Xo.out t ht).1;rw[e1] at this;cases this
        rfl
       .rw[yP _ _ _ _ (by simp[Ne.symm e]),if_neg e,(Xo.out t ht).1];simp
      have HGT:=yJ (Ml.setCell (p:=⟨w1.heap.size,j,a7⟩) (yL _) (a8 bc (y+z)));clear Ml hci;go_wp2;go_roundw
      case rel=>exact⟨j+1,by omega,by go_num,HGT.out,by simp[World.setCell];omega,HST.out rfl⟩
      case measure=>simp[Proofs.intOf];omega
     .have Oz:j=M.length:=by omega
      subst Oz;have QS:Hid (∀t,t<M.length->wr.cell? ⟨w1.heap.size,t,a7⟩=bb (a8 bc (Gs M (k+1) t))/\wr.frozen? ⟨w1.heap.size,t,a7⟩=false):=yJ λt ht=>by
       rw[<-tJ M k M.length t ht];exact Xo.out t ht
      go_wp2;go_roundw
      case rel=>exact⟨k+1,by omega,by go_num,JY.out,YB,QS.out⟩
      case measure=>simp[Proofs.intOf];omega
  .have IE:k=M.length:=by omega
   subst IE
   have HF:Hid (RI wq wq.heap.size (bb ⟨w1.heap.size,0,a7⟩) (Sx M)):=yJ λ_=>⟨_,0,rfl,YA,λi x hx=>by
    have hi:i<M.length:=by have:=(ze.1 hx).1;simpa [Sx] using this
    have KY:x=Gs M M.length i:=by
     unfold Sx at hx;rw[zL,Am hi] at hx;exact(Option.some.inj hx).symm
    rw[yZ,KY]
    exact(hcs i hi).1⟩
   go_wp2;go_ret2;refine⟨Du.out.trans (DO.out.trans E6.out),bb ⟨w1.heap.size,0,a7⟩,M.length,?_,HF.out⟩;rw[<-HLN.out];rfl
open Go.Sort
def mJ:Lib.pop8tab.size=256:=by decide +kernel
def vJ:∀x:Fin 16,wrap64 ((Lib.pop8tab[x.val]'(by have:=mJ;omega)).toNat:Int)=((wl x.val).length:Int):=by decide +kernel
def xq (x:Nat)(w:bh)(hx:x<16):br B1 96 #[.int .u8 (x:Int)] w λe w'=>e=.returned (a8 bc (wl x).length)/\w=w':=by
 have HP:=yJ (vJ ⟨x,hx⟩);have hps:x<Lib.pop8tab.size:=by have:=mJ;omega
 go_enter Sq.func96,Tryz.ntmps96;go_wp2;go_ret;exact⟨am HP.out,rfl⟩
def xu (x:Nat)(w:bh)(hx:x<16):br B1 63 #[.int .u8 x] w λe w'=>e=.returned (a8 bc (wl x).length)/\w=w':=by
 have HC:=yJ (xq x w hx);go_enter Sq.func63,Tryz.ntmps63;go_wp2_with fail;refine HC.out.mono ?_;rintro e w' ⟨rfl,rfl⟩;go_wp2;go_ret;exact⟨rfl,rfl⟩
def KF (l:List Int):List Int:=l.mergeSort λx y=>decide (x<=y)
def lw (l:List Int):(KF l).length=l.length:=List.length_mergeSort l
def vK (g cap:Nat)(l:List Int)(w:bh){base:Nat}(h:w.ownsRow base 3 1 (.slice (bb ⟨g,0,a7⟩) l.length cap) l.length (l.map (a8 bc)))(hl:l.length<=1048576) :
  br B1 60 #[.slice (bb ⟨g,0,a7⟩) l.length cap] w λe w'=>e=.returned (.tuple #[])/\KT (·=g) w w'/\∀(i:Nat) (x:Int),(KF l)[i]?=bb x->w'.cell? ⟨g,i,a7⟩=bb (a8 bc x):=by
 have hlt:g<w.heap.size:=(h.lt g rfl).2;have hH:Holds (a8 bc) w g 0 l.toArray:=by
  intro j hj;have hj':j<l.length:=by simpa using hj
  refine⟨?_,?_⟩
  .have:=h.cells (g:=g) rfl j (a8 bc l[j]) (by simp[hj']);rw[Addr.add_lit] at this;rw[this,getElem!_pos l.toArray j (by simpa using hj')];simp
  .rcases h.2 with⟨h,_⟩|⟨g',c',cur,h,_,hb,_⟩
   .cases h
   .obtain⟨rfl⟩:g=g':=by injection h with h1;injection h1 with h2;injection h2
    simp[World.frozen?,hb]
 refine(Any.slices_Sort_int BK g 0 cap l w hH hlt (by omega)).mono ?_;rintro e w' ⟨he,n,os,hW⟩;have hsz:(KF l).toArray.size=l.toArray.size:=by simp[lw]
 refine⟨he,?_,λi x hx=>?_⟩
 .subst hW;refine⟨rfl,rfl,rfl,?_,?_,λb hb hne=>?_⟩
  .show w.drawn<=w.drawn+n;omega
  .rw[size_grow,bo];exact Nat.le_add_right _ _
  .rw[heap_grow_old _ _ (by rw[bo];exact hb)];unfold putRow mapBlock;rw[zH,if_neg (λh=>hne h.symm)]
   rfl
 .have hi:i<(KF l).length:=(ze.1 hx).1;subst hW;rw[cell?_grow _ _ _ (by rw[bo];exact hlt)];have:=cell?_putRow (a8 bc) (Sort.ahead w n) g 0 l.toArray (KF l).toArray hH hsz i (by simpa using hi);rw[yZ] at this;refine this.trans ?_;rw[getElem!_pos _ i (by simpa using hi)];rw[yM hi] at hx;simp at hx;simp[hx]
def vL (nA hA:Option bs)(nc hc:Nat)(c:Cc)(w:bh)(K0:Nat->Prop)(hlt:∀b,K0 b->b<w.heap.size)(hn:Hb w K0 nA c.B3)(hh:EZ w K0 hA c.B2)(hm:c.B2.length<=4) :
  br B1 61 #[Cj nA hA c nc hc] w λe w'=>e=.returned (.pointer (bb ⟨w.heap.size+1,0,a7⟩))/\Gr w w'/\∃g cap,w.heap.size+2<=g /\
   Eo w' (λb=>K0 b\/b=w.heap.size+1\/b=g) (w.heap.size+1) c (Cy c.B2.length) nA hA nc hc g cap:=by
 refine(oG nA hA nc hc c.B3.length c.B2.length w hm (rn c.B2.length hm)).mono ?_;rintro e w' ⟨rfl,g,cap,W,⟨g',cap',hv,hk,hs,_⟩,hg,hgr,hz,h0,h1,h2,ho,_⟩;obtain⟨rfl,rfl⟩:g=g'/\cap=cap':=by injection hv with a b c;injection a with a;injection a with a;exact⟨a,c⟩
 have hgW:=(ho.lt g rfl).2;have UD:Gr w w':=⟨⟨hk.os.trans hgr.below.os,hk.tape.trans hgr.below.tape,hk.output.trans hgr.below.output,yR hgr.size hk.size,λb hb=>(hk.block b (yO hb hgr.size) (by show b≠g;omega)).trans (hgr.below.block b hb)⟩,yR hgr.drawn hk.drawn⟩;refine⟨rfl,UD,g,cap,hg,?_⟩;have hc1:∀o,w'.cell? ⟨w.heap.size+1,o,a7⟩=W.cell? ⟨w.heap.size+1,o,a7⟩:=λo=>hk.cell (p:=⟨w.heap.size+1,o,a7⟩) hz (by show w.heap.size+1≠g;omega)
 refine⟨?_,Or.inr (Or.inl rfl),(hc1 0).trans h0,(hc1 1).trans h1,?_,Or.inr (Or.inr rfl),hs,?_,?_⟩
 .rintro b (h|h|h)
  .have:=hlt b h;have:=UD.size;omega
  .have:=hk.size;omega
  .have:=hk.size;omega
 .rw[dq _ hm];exact(hc1 2).trans h2
 .intro hne;obtain⟨b,o,e,hb,hc⟩:=hn hne;exact⟨b,o,e,.inl hb,λi x hx=>(UD.cell (p:=⟨b,o+i,a7⟩) (hlt b hb)).trans (hc i x hx)⟩
 .intro hne;obtain⟨b,o,e,hb,hc⟩:=hh hne;refine⟨b,o,e,.inl hb,λi x hx=>?_⟩;obtain⟨q1,q2,q3,A,m,q4,q5⟩:=hc i x hx;have k:∀o,w'.cell? ⟨b,o,a7⟩=w.cell? ⟨b,o,a7⟩:=λo=>UD.cell (p:=⟨b,o,a7⟩) (hlt b hb);refine⟨(k _).trans q1,(k _).trans q2,(k _).trans q3,A,m,(k _).trans q4,λUs=>?_⟩;obtain⟨b',o',e',hb',hc'⟩:=q5 Us;exact⟨b',o',e',.inl hb',λi x hx=>(UD.cell (p:=⟨b',o'+i,a7⟩) (hlt b' hb')).trans (hc' i x hx)⟩
structure acY (nA:Option bs)(nc:Nat)(c:Cc)(ls:List (List Int))(k:Nat)(d:Int)(w:bh)(b12 g cap:Nat)(w2:bh):Prop where
 gr:Gr w w2
 c0:w2.cell? ⟨w.heap.size,0,a7⟩=bb (a6 nA c.B3.length nc)
 c1:w2.cell? ⟨w.heap.size,1,a7⟩=bb (.slice (bb ⟨g,0,a7⟩) c.B2.length cap)
 nb:w2.heap[w.heap.size+1]?=bb (.cells #[a8 bc 0] 3 (0,0))
 lt:w.heap.size+1<b12/\b12<w2.heap.size/\b12<g
 given:∀i,i<5->w2.cell? ⟨b12,i,a7⟩=bb (.int .u8 (B7 ls i:Nat))
 B3:Hb w2 (λb=>b<w2.heap.size/\b≠w.heap.size+1) nA c.B3
 ahT:EZ w2 (λb=>b<w2.heap.size/\b≠w.heap.size+1) (bb ⟨g,0,a7⟩) (Js c k d).B2
def tK (c:Cc)(k:Nat)(d:Int):(Js c k d).B2.length=c.B2.length:=by simp[Js]
def PE {c:Cc}{k i:Nat}{d:Int}{h:CF}(hi:(Js c k d).B2[i]?=bb h)(hk:k<c.B2.length) :
  (i=k/\h={ c.h k with off:=fe (c.h k).off d })\/(i≠k/\c.B2[i]?=bb h):=by
 unfold Js at hi;dsimp only at hi;rw[List.getElem?_set] at hi;by_cases e:k=i
 .subst e;rw[if_pos rfl,if_pos hk] at hi;cases hi;exact .inl ⟨rfl,rfl⟩
 .rw[if_neg e] at hi;exact .inr ⟨λh=>e h.symm,hi⟩
def iu {c:Cc}{sets:List Nat}(hs:∀x∈sets,c.has x):∀(k:Nat) (r:CR) (n:Nat),(∀i,c.has (r i))->∀ρ∈Cv c sets k r n,∀i,c.has (ρ i):=by
 intro k
 induction k with
 |zero=>intro r n hr ρ Ew;simp[Cv] at Ew;subst Ew;exact hr
 |succ k ih =>
  intro r n hr ρ Ew;simp only[Cv,List.mem_flatMap] at Ew;obtain⟨x,hx,h⟩:=Ew;split at h
  .refine ih _ _ (λi=>?_) ρ h;unfold upd;split
   .exact hs x hx
   .exact hr i
  .simp at h
def rP {c:Cc}(h:c.B2.length<=4){x:Nat}(hx:c.has x):x<16:=by
 unfold Cc.has at hx;exact yO hx (Av (by omega) h)
def tL {c:Cc}{ls:List (List Int)}(hE:Cg c ls=0)(h4:c.B2.length<=4)(i:Nat):B7 ls i<16:=by
 unfold Cg at hE;split at hE
 .rename_i h;exact absurd hE h
 .split at hE
  .rename_i h;exact absurd hE h
  .unfold B7;cases hl:ls[i]? with
   |none=>decide
   |some l =>
    have:=bB.1 hE (Dw l c.B2.length) (zu.2 ⟨l,zS hl,rfl⟩);exact qC l λx hx=>by have:=(I6 this).1 x hx;omega
def mK:∀a b:Fin 16,bits BinOp.xor IntKind.u8 (a.val:Int) (b.val:Int)=((a.val ^^^ b.val:Nat):Int)/\a.val ^^^ b.val<16:=by decide +kernel
def oO:∀x:Fin 16,(wl x.val).length<=4:=by decide +kernel
def oP {a b:CR}(h:∀i,i<5->a i ^^^ b i<16):∀k,k<=5->I7 a b k<=4*k:=by
 intro k
 induction k with
 |zero=>intro _;exact yL _
 |succ k ih =>
  intro hk;have h2:=oO ⟨a k ^^^ b k,h k (by omega)⟩;show I7 a b k+(wl (a k ^^^ b k)).length<=_;simp only at h2;omega
def Qn (r:CR):Array Value:=#[.int .u8 (r 0),.int .u8 (r 1),.int .u8 (r 2),.int .u8 (r 3),.int .u8 (r 4)]
def vM (r:CR){i:Nat}(hi:i<5):(Qn r)[i]?=bb (.int .u8 (r i)):=by
 match i,hi with
 |0,_=>rfl
 |1,_=>rfl
 |2,_=>rfl
 |3,_=>rfl
 |4,_=>rfl
def acZ (r:CR):Option (CR×Nat)->CR
 |none=>r
 |some p=>p.1
def VE:Option (CR×Nat)->Nat
 |none=>0
 |some p=>p.2
structure J7 (r:CR)(JP Mm b9:Nat)(o:Option (CR×Nat))(W:bh):Prop where
 OE:W.heap[JP]?=bb (.cells (Qn (acZ r o)) 76 (0,0))
 is:W.heap[Mm]?=bb (.cells #[.bool o.isSome] 4 (0,0))
 cost:W.heap[b9]?=bb (.cells #[a8 bc (VE o)] 3 (0,0))
def cm {W:bh}{b i:Nat}{a:Array bq}{u:bq}{t:TypeId}{f:Nat×Nat}(h:W.heap[b]?=bb (.cells a t f)):(W.setCell ⟨b,i,a7⟩ u).heap[b]?=bb (.cells (a.setIfInBounds i u) t f):=by
 unfold World.setCell;simp only[zH,if_true,h]
 rfl
def J7.put {r:CR}{JP Mm b9:Nat}{o:Option (CR×Nat)}{W:bh}(h:J7 r JP Mm b9 o W)(n1:JP≠Mm)(n2:JP≠b9)(n3:Mm≠b9)(ρ:CR)(n:Nat)(T0:Nat->Prop)(h1:T0 JP)(h2:T0 Mm)(h3:T0 b9) :
  J7 r JP Mm b9 (bb (ρ,n)) (((((((W.setCell ⟨JP,0,a7⟩ (.int .u8 (ρ 0))).setCell ⟨JP,1,a7⟩ (.int .u8 (ρ 1))).setCell ⟨JP,2,a7⟩ (.int .u8 (ρ 2))).setCell ⟨JP,3,a7⟩ (.int .u8 (ρ 3))).setCell ⟨JP,4,a7⟩ (.int .u8 (ρ 4))).setCell ⟨b9,0,a7⟩ (a8 bc n)).setCell ⟨Mm,0,a7⟩ (.bool true)) /\
  KT T0 W (((((((W.setCell ⟨JP,0,a7⟩ (.int .u8 (ρ 0))).setCell ⟨JP,1,a7⟩ (.int .u8 (ρ 1))).setCell ⟨JP,2,a7⟩ (.int .u8 (ρ 2))).setCell ⟨JP,3,a7⟩ (.int .u8 (ρ 3))).setCell ⟨JP,4,a7⟩ (.int .u8 (ρ 4))).setCell ⟨b9,0,a7⟩ (a8 bc n)).setCell ⟨Mm,0,a7⟩ (.bool true)):=by
 have k:∀(W:bh) (p:bs) (v:bq),T0 p.block->KT T0 W (W.setCell p v):=λW p v hp=>KT.setCell W hp v;refine⟨⟨?_,?_,?_⟩,(k _ _ _ h1).trans ((k _ _ _ h1).trans ((k _ _ _ h1).trans ((k _ _ _ h1).trans ((k _ _ _ h1).trans ((k _ _ _ h3).trans (k _ _ _ h2))))))⟩
 .rw[yU _ _ _ _ (by show JP≠Mm;exact n1),yU _ _ _ _ (by show JP≠b9;exact n2)];exact cm (i:=4) (cm (i:=3) (cm (i:=2) (cm (i:=1) (cm (i:=0) h.OE))))
 .refine cm (i:=0) (a:=#[.bool o.isSome]) ?_;have e:∀(W:bh) (i:Nat) (v:bq),(W.setCell ⟨JP,i,a7⟩ v).heap[Mm]?=W.heap[Mm]?:=λW i v=>yU _ _ _ _ (by show Mm≠JP;exact Ne.symm n1);rw[yU _ _ _ _ (by show Mm≠b9;exact n3),e,e,e,e,e];exact h.is
 .rw[yU _ _ _ _ (by show b9≠Mm;exact Ne.symm n3)];refine cm (i:=0) (a:=#[a8 bc (VE o)]) ?_;have e:∀(W:bh) (i:Nat) (v:bq),(W.setCell ⟨JP,i,a7⟩ v).heap[b9]?=W.heap[b9]?:=λW i v=>yU _ _ _ _ (by show b9≠JP;exact Ne.symm n2);rw[e,e,e,e,e];exact h.cost
def J7.drewN {r:CR}{JP Mm b9:Nat}{o:Option (CR×Nat)}{W:bh}(h:J7 r JP Mm b9 o W)(m:Nat):J7 r JP Mm b9 o (W.drewN m):=⟨h.OE,h.is,h.cost⟩
end Go.Sq
