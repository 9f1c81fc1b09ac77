/- Parts of the proof. -/
import Derived.Test.YteckikkkfpblhaaGreatP18
import Derived.Test.YteckikkkfpblhaaGreatP14
import Derived.Test.YteckikkkfpblhaaGreatP15
import Derived.Test.YteckikkkfpblhaaGreatP00
import Derived.Test.YteckikkkfpblhaaGreatP01
import Derived.Shelf.Slices.Clone
set_option linter.all false
set_option maxHeartbeats 3200000
set_option maxRecDepth 1000000
namespace Go.Proofs.Ao
open Go.RowKit Go.Sq
def kM {n:Nat}{rs:List (Int×Int)}(h:hP n rs=0):∀k,k<rs.length->JM n rs k=0:=by
 have key:∀l:List Int,bE l=0->∀x∈l,x=0:=λl h x hx=>by
  unfold bE at h;cases hf:l.find? (λx=>x != 0) with
  |none=>simpa using zv.1 hf x hx
  |some y =>
   rw[hf] at h;have:=List.find?_some hf;simp at this;exact absurd h this
 intro k hk;exact key _ h _ (xW.2 ⟨k,by simpa using hk,rfl⟩)
def sA {n:Nat}{rs:List (Int×Int)}{k:Nat}(h:JM n rs k=0) :
  C2 (rs[k]?.getD (0,0)).1 0 (n-1)=true/\C2 (rs[k]?.getD (0,0)).2 0 60=true/\(rs.take k).any (·.1==(rs[k]?.getD (0,0)).1)=false:=by
 unfold JM at h;cases h1:C2 (rs[k]?.getD (0,0)).1 0 (n-1) with
 |false=>rw[h1,if_pos rfl] at h;cases h
 |true =>
  cases h2:C2 (rs[k]?.getD (0,0)).2 0 60 with
  |false=>rw[h1,h2,if_neg (by simp),if_pos rfl] at h;cases h
  |true =>
   cases h3:(rs.take k).any (·.1==(rs[k]?.getD (0,0)).1) with
   |true=>rw[h1,h2,h3,if_neg (by simp),if_neg (by simp),if_pos rfl] at h;cases h
   |false=>exact⟨rfl,rfl,rfl⟩
def _root_.Go.Sq.E8.take {w:World}{B:Nat}{A:Option Addr}{l:List (Int×Int)}(h:E8 w B A l)(k:Nat):E8 w B A (l.take k):=λhn=>by
 obtain⟨b,o,e,hb,hc⟩:=h (λe=>hn (by rw[e];simp))
 exact⟨b,o,e,hb,λi x hx=>hc i x (by
  rw[yX] at hx;split at hx
  .exact hx
  .cases hx)⟩
def pj {W:World}{cb:Nat}{c:AD}{nA hA:Option Addr}{nc hc:Nat}(h:Cn W W.heap.size cb c nA hA nc hc):Cn W.drew W.drew.heap.size cb c nA hA nc hc:=(h.keep (w':=W.drew) λ_ _ _=>rfl:Cn W.drew W.heap.size cb c nA hA nc hc)
def ut {W:World}{A:Option Addr}{l:List Int}(h:RI W W.heap.size A l):RI W.drew W.drew.heap.size A l:=h
def sB (nA hA gA rA:Option Addr)(nc hc gc rc:Nat)(c:AD)(ls:List (List Int))(rs:List (Int×Int))(w:World)(B:Nat)(hB:B<=w.heap.size)(hn:RI w B nA c.Aq)(hh:BG w B hA c.Ap)(hg:BD w B gA ls)(hr:E8 w B rA rs)
  (DG:c.Aq.length<=4611686018427387904) (hl2:c.Ap.length<=4611686018427387904) (BU:∀h∈c.Ap,h.off.length<=4611686018427387904) (EY:ls.length<=4611686018427387904) (hl4:∀x∈ls,x.length<=4611686018427387904) (Nh:rs.length<=4611686018427387904) (PU:rs.length<=rc)
  (hF:Ay c ls=0) (hR:hP c.Aq.length rs=0) :
  Calls An 90 #[AH nA hA c nc hc,.slice gA ls.length gc,.slice rA rs.length rc] w λe w'=>Gr w w'/\∃cb A k,e=.returned (.tuple #[.pointer (some ⟨cb,0,none⟩),BI (Av ls),.slice A c.Aq.length k,.int .i64 0]) /\
   Cn w' w'.heap.size cb c nA hA nc hc/\RI w' w'.heap.size A (BN c.Aq.length rs rs.length):=by
 have HR:=xf hr;have HRE:=xf (kM hR);unfold AH;obtain⟨W0,hW0⟩:∃W0:World,W0=(w.alloc (.cells #[.slice nA c.Aq.length nc,.slice hA c.Ap.length hc] 25)).alloc (.cells #[.int .u8 0,.int .u8 0,.int .u8 0,.int .u8 0,.int .u8 0] 71):=⟨_,rfl⟩;have hg0:Gr w W0:=hW0▸((Gr.refl w).alloc _).alloc _;have hz0:W0.heap.size=w.heap.size+2:=by rw[hW0];simp
 have HW:=xf hW0;have CW:=xf (dF nA hA gA nc hc gc c ls W0 B (by omega) (hn.gr hB hg0) (hh.keep λb o hb=>hg0.cell (xl hb hB)) (hg.gr hB hg0) DG hl2 BU EY hl4);have B4:=xf hg0;have hcm:W0.cell? ⟨w.heap.size,0,none⟩=some (.slice nA c.Aq.length nc)/\W0.cell? ⟨w.heap.size,1,none⟩=some (.slice hA c.Ap.length hc):=by
  rw[hW0];constructor
  all_goals rw[xI _ _ _ (by simp),xj _ _ _ _ rfl];rfl
 have NW:=xf hcm;have LS:∀i,i<5->W0.cell? ⟨w.heap.size+1,i,none⟩=some (.int .u8 ((λ_=>0:Bl) i:Nat))/\W0.frozen? ⟨w.heap.size+1,i,none⟩=false:=λi hi=>by
  rw[hW0,xj _ _ _ _ (by simp),xX _ _ _ _ (by simp)]
  match i,hi with
  |0,_=>exact⟨rfl,rfl⟩
  |1,_=>exact⟨rfl,rfl⟩
  |2,_=>exact⟨rfl,rfl⟩
  |3,_=>exact⟨rfl,rfl⟩
  |4,_=>exact⟨rfl,rfl⟩
 have HZ5:=xf LS;have FD:=xf hF;clear hW0 hg0 hn hh hg hr hl4 BU hcm LS hF hR;go_enter Sq.func90,Tryz.ntmps90;unfold AH at CW;go_wp2_with fail;rw[<-HW.out];refine CW.out.mono ?_;rintro e w1 ⟨hg1,DD⟩;rw[if_pos FD.out] at DD;obtain⟨cb,g,cap,rfl,hcb,Uu,hK⟩:=DD
 have DX:=xf (AD.Ok.of (show AK c=0 by
  have:=FD.out;unfold Ay at this;split at this
  .exact absurd this (by assumption)
  .simpa using ‹¬AK c≠0›))
 have MK:=DX.out.n5;have Ip:=DX.out.n1;obtain⟨W1,hW1⟩:∃W1:World,W1=w1.alloc (.cells #[.int .u8 (Av ls 0),.int .u8 (Av ls 1),.int .u8 (Av ls 2),.int .u8 (Av ls 3),.int .u8 (Av ls 4)] 72):=⟨_,rfl⟩;have Gq:Gr w1 W1:=hW1▸(Gr.refl w1).alloc _;have hz1:W1.heap.size=w1.heap.size+1:=by rw[hW1];simp
 have hzz:=hg1.size;have X0:Gr W0 W1:=hg1.trans Gq;have Ch:=xf X0;have HK:=xf hK;have aeS:=xf Gq;have Nd:Hid (∀i,i<5->W1.cell? ⟨w1.heap.size,i,none⟩=some (.int .u8 (Av ls i:Nat))):=xf λi hi=>by
  rw[hW1,xj _ _ _ _ (by simp)]
  match i,hi with
  |0,_=>rfl
  |1,_=>rfl
  |2,_=>rfl
  |3,_=>rfl
  |4,_=>rfl
 have MO:Hid (∀i,i<5->W1.cell? ⟨w.heap.size+1,i,none⟩=some (.int .u8 ((λ_=>0:Bl) i:Nat))/\W1.frozen? ⟨w.heap.size+1,i,none⟩=false):=xf λi hi=>by
  obtain⟨a,b⟩:=HZ5.out i hi;exact⟨(X0.cell (by show w.heap.size+1<_;omega)).trans a,(X0.frozen (by show w.heap.size+1<_;omega)).trans b⟩
 have N8:Hid (W1.cell? ⟨w.heap.size,0,none⟩=some (.slice nA c.Aq.length nc)/\W1.cell? ⟨w.heap.size,1,none⟩=some (.slice hA c.Ap.length hc)):=xf
  ⟨(X0.cell (by show w.heap.size<_;omega)).trans NW.out.1,(X0.cell (by show w.heap.size<_;omega)).trans NW.out.2⟩
 have Mw:=xf hW1;have hc0:w1.cell? ⟨w.heap.size,0,none⟩=some (.slice nA c.Aq.length nc):=(hg1.cell (by show w.heap.size<_;omega)).trans NW.out.1;have EZ:w.heap.size<w1.heap.size:=by omega
 have Hk:=λw=>gZ c.Aq.length w (by omega);clear hg1 hK Gq X0 CW hW1;unfold BI;go_wp2;rw[<-Mw.out];clear hc0;go_loopw [33] (λi wr=>∃k:Nat,k<=rs.length/\i=.int .i64 k/\Gr W1 wr/\W1.heap.size<wr.heap.size/\∀j,j<c.Aq.length->wr.cell? ⟨W1.heap.size,j,none⟩=some (.int .i64 (bC rs k j))/\wr.frozen? ⟨W1.heap.size,j,none⟩=false) (λi _=>rs.length-(intOf i).toNat)
 case atStart =>
  refine⟨0,by omega,rfl,(Gr.refl W1).alloc _,by simp,λj hj=>⟨?_,?_⟩⟩
  .rw[xj _ _ _ _ (by simp),dR _ _ hj];rfl
  .rw[xX _ _ _ _ (by simp)]
 case round =>
  obtain⟨k,hk,rfl,hgr,hzr,hcs⟩:=hrel;have D7:=xf hgr;have Hd:=xf hcs;have hc0:=(hgr.cell (by show w.heap.size<_;omega)).trans N8.out.1;have V9:=hgr.size;clear hgr hcs;by_cases hlt:k<rs.length
  .have Qj:=xf (HR.out.gr hB (B4.out.trans (Ch.out.trans D7.out)));obtain⟨b,o,rfl,hb,h1,h2⟩:=Qj.out.at_ hlt;have hro:=sA (HRE.out k hlt);have HWA:Hid (∀j:Nat,bC rs (k+1) j=if(rs[k]?.getD (0,0)).1=(j:Int) then(rs[k]?.getD (0,0)).2 else bC rs k j):=xf λj=>rfl;generalize rs[k]?.getD (0,0)=x at h1 h2 hro HWA;obtain⟨xn,xv⟩:=x;obtain⟨r1,r2,r3⟩:=hro;dsimp only at h1 h2 r1 r2 r3 HWA;have X1:Hid (∀W,Calls An 49 #[.int .i64 xn,.int .i64 0,.int .i64 (c.Aq.length-1)] W λe w'=>e=.returned (.bool true)/\W=w'):=xf λW=>by rw[<-r1];exact bQ _ _ _ W
   have Ke:Hid (∀W,Calls An 49 #[.int .i64 xv,.int .i64 0,.int .i64 60] W λe w'=>e=.returned (.bool true)/\W=w'):=xf λW=>by rw[<-r2];exact bQ _ _ _ W
   obtain⟨j,rfl⟩:∃j:Nat,xn=j:=⟨xn.toNat,by simp[C2] at r1;omega⟩;have Ng:j<c.Aq.length:=by simp[C2] at r1;omega
   obtain⟨W2,hW2⟩:∃W2:World,W2=wr.alloc (.cells #[.int .i64 (j:Int),.int .i64 xv] 58):=⟨_,rfl⟩;have hg2:Gr wr W2:=hW2▸(Gr.refl wr).alloc _;have hz2:W2.heap.size=wr.heap.size+1:=by rw[hW2];simp
   have hbx:W2.cell? ⟨wr.heap.size,0,none⟩=some (.int .i64 j)/\W2.cell? ⟨wr.heap.size,1,none⟩=some (.int .i64 xv):=by
    rw[hW2,xj _ _ _ _ rfl,xj _ _ _ _ rfl];exact⟨rfl,rfl⟩
   have Wu:=qR (some ⟨b,o,none⟩) rc wr.heap.size j (rs.take k) W2 B (by omega) ((Qj.out.take k).gr (by omega) hg2) (by simp;omega) (by omega) hbx.1;have J9:(rs.take k).length=k:=by simp;omega
   rw[J9,r3] at Wu;have aeU:=xf Wu;have HBX:=xf hbx;have Ea:=xf hg2;have O7:=xf hW2;have hwr:w.heap.size<wr.heap.size:=by omega
   have hkc:((k:Nat):Int)<=(rc:Int):=by omega
   clear Wu hbx hg2 hW2 r1 r2 r3 J9;go_wp2_with fail;refine(X1.out _).mono ?_;rintro e w' ⟨rfl,rfl⟩;go_wp2_with fail;refine(Ke.out _).mono ?_;rintro e w' ⟨rfl,rfl⟩;go_wp2_with fail;rw[<-O7.out];refine aeU.out.mono ?_;rintro e w3 ⟨rfl,hg3⟩;have Qk:=Ea.out.trans hg3;have D8:=xf Qk;have hz3:=hg3.size;have d0:w3.cell? ⟨wr.heap.size,0,none⟩=some (.int .i64 j):=(hg3.cell (by show wr.heap.size<_;omega)).trans HBX.out.1
   have d1:w3.cell? ⟨wr.heap.size,1,none⟩=some (.int .i64 xv):=(hg3.cell (by show wr.heap.size<_;omega)).trans HBX.out.2;have Wv:∀i,i<c.Aq.length->w3.cell? ⟨W1.heap.size,i,none⟩=some (.int .i64 (bC rs k i))/\w3.frozen? ⟨W1.heap.size,i,none⟩=false:=λi hi=>⟨(Qk.cell (by show W1.heap.size<_;omega)).trans (Hd.out i hi).1,(Qk.frozen (by show W1.heap.size<_;omega)).trans (Hd.out i hi).2⟩;have OJ:=xf Wv
   obtain⟨e1,e2⟩:=Wv j Ng;rw[hz1] at e1 e2;have Mx:Hid (∀i,i<c.Aq.length->(w3.setCell ⟨w1.heap.size+1,j,none⟩ (.int .i64 xv)).cell? ⟨W1.heap.size,i,none⟩=some (.int .i64 (bC rs (k+1) i))/\(w3.setCell ⟨w1.heap.size+1,j,none⟩ (.int .i64 xv)).frozen? ⟨W1.heap.size,i,none⟩=false):=xf λi hi=>by
    rw[yg,HWA.out];refine⟨?_,(OJ.out i hi).2⟩;rw[hz1];by_cases e:i=j
    .subst e;rw[xE _ _ _ e1,if_pos rfl]
    .rw[xq _ _ _ _ (by simp[Ne.symm e]),if_neg (by omega)];have:=(OJ.out i hi).1
     rwa [hz1] at this
   have OO:Hid (Gr W1 (w3.setCell ⟨w1.heap.size+1,j,none⟩ (.int .i64 xv))):=xf ((D7.out.trans Qk).setCell (p:=⟨w1.heap.size+1,j,none⟩) (by show _<=w1.heap.size+1;omega) _);clear hg3 Qk Wv hc0;go_wp2;go_roundw
   case rel=>exact⟨k+1,by omega,by go_num,OO.out,by simp[World.setCell];omega,Mx.out⟩
   case measure=>simp[intOf];omega
  .have E4:k=rs.length:=by omega
   subst E4
   have Ct:∀W:World,wr.heap.size<=W.heap.size->(∀o,W.cell? ⟨w1.heap.size+1,o,none⟩=wr.cell? ⟨w1.heap.size+1,o,none⟩)->RI W W.heap.size (some ⟨w1.heap.size+1,0,none⟩) (BN c.Aq.length rs rs.length):=λW hW hk _=>⟨_,0,rfl,by omega,λi x hx=>by
    have hi:i<c.Aq.length:=by have:=(xL.1 hx).1;rwa [dL] at this
    rw[ph hi] at hx;cases hx;rw[xG,hk,<-hz1]
    exact(Hd.out i hi).1⟩
   have Hf:=xf Ct;have JJ:∀W:World,wr.heap.size<=W.heap.size->(∀b o,b≠w.heap.size+1->W.cell? ⟨b,o,none⟩=wr.cell? ⟨b,o,none⟩)->Cn W W.heap.size cb c nA hA nc hc:=λW hW hk =>
    (HK.out.keep (w':=W) (by omega) λb o hb=>(hk b o λe=>by rcases hb with h|h|h<;>omega).trans ((aeS.out.trans D7.out).cell (p:=⟨b,o,none⟩) (HK.out.lt b hb))).KF
   have HCK:=xf JJ;have HPB:=xf (λ(b o:Nat) (hb:b≠w.heap.size+1)=>xH (a:=⟨b,o,none⟩) (jH wr (w.heap.size+1) (.int .u8 (Av ls 0:Nat)) (.int .u8 (Av ls 1:Nat)) (.int .u8 (Av ls 2:Nat)) (.int .u8 (Av ls 3:Nat)) (.int .u8 (Av ls 4:Nat)) hb));have HPZ:=xf (kJ wr (w.heap.size+1) (.int .u8 (Av ls 0:Nat)) (.int .u8 (Av ls 1:Nat)) (.int .u8 (Av ls 2:Nat)) (.int .u8 (Av ls 3:Nat)) (.int .u8 (Av ls 4:Nat)))
   obtain⟨a0,a1,a2,a3,a4⟩:=H6 (w:=wr) (b:=w1.heap.size) (r:=Av ls) λi hi=>(D7.out.cell (by show w1.heap.size<_;omega)).trans (Nd.out i hi);have LS:∀i,i<5->wr.cell? ⟨w.heap.size+1,i,none⟩=some (.int .u8 ((λ_=>0:Bl) i:Nat))/\wr.frozen? ⟨w.heap.size+1,i,none⟩=false:=λi hi=>by
    obtain⟨a,b⟩:=MO.out i hi;exact⟨(D7.out.cell (by show w.heap.size+1<_;omega)).trans a,(D7.out.frozen (by show w.heap.size+1<_;omega)).trans b⟩
   obtain⟨b0,c0⟩:=LS 0 (by omega);obtain⟨b1,c1⟩:=LS 1 (by omega);obtain⟨b2,c2⟩:=LS 2 (by omega);obtain⟨b3,c3⟩:=LS 3 (by omega);obtain⟨b4,c4⟩:=LS 4 (by omega);have Te:=xf (ee (λi hi=>(LS i hi).1) (.int .u8 (Av ls 0:Nat)) (.int .u8 (Av ls 1:Nat)) (.int .u8 (Av ls 2:Nat)) (.int .u8 (Av ls 3:Nat)) (.int .u8 (Av ls 4:Nat)));have Kh:=xf (fG (B4.out.trans (Ch.out.trans D7.out)) (b:=w.heap.size+1) (by omega) (.int .u8 (Av ls 0:Nat)) (.int .u8 (Av ls 1:Nat)) (.int .u8 (Av ls 2:Nat)) (.int .u8 (Av ls 3:Nat)) (.int .u8 (Av ls 4:Nat)))
   obtain⟨Wf,hWf⟩:∃Wf:World,Wf=Ez wr (w.heap.size+1) (.int .u8 (Av ls 0:Nat)) (.int .u8 (Av ls 1:Nat)) (.int .u8 (Av ls 2:Nat)) (.int .u8 (Av ls 3:Nat)) (.int .u8 (Av ls 4:Nat)):=⟨_,rfl⟩;rw[<-hWf] at HPB HPZ Kh;have HF1:=xf (pj (HCK.out Wf (yl HPZ.out.symm) HPB.out));have NX:=xf (ut (Hf.out Wf (yl HPZ.out.symm) λo=>HPB.out _ o (by omega)));have HF0:=xf Kh.out.drew;rw[hWf] at HF0 HF1 NX
   unfold Ez at HF0 HF1 NX;clear hWf;clear Kh HPB HPZ HCK Hf LS Ct hc0 JJ;go_wp2;go_region
   all_goals
    go_wp2;obtain⟨s0,s1,s2,s3,s4⟩:=Te.out;unfold Ez at s0 s1 s2 s3 s4;refine bodyPost_ret (v:=.tuple #[.pointer (some ⟨cb,0,none⟩),BI (Av ls),.slice (some ⟨w1.heap.size+1,0,none⟩) c.Aq.length c.Aq.length,.int .i64 0]) (by simp[results,Tryz.results90,go_sem,BI,s0,s1,s2,s3,s4]) rfl ⟨?_,cb,_,_,rfl,?_,?_⟩
    .exact HF0.out
    .exact HF1.out
    .exact NX.out
def uu (A:Option Addr)(c:Nat)(l:List Int)(w:World)(B:Nat)(h:RI w B A l)(hB:B<=w.heap.size)(hl:l.length<=1048576) :
  Calls An 52 #[.slice A l.length c] w λe w'=>∃v,e=.returned v/\w'.ownsRow w.heap.size 3 1 v l.length (l.map (Value.int .i64))/\Gr w w':=by
 obtain⟨i0,hi,hz0,hz1,hz2⟩:=info_parts zN;have HR:=xf h;clear h;have q22:∀(w:World) (a:Option Addr) (n c n' c':Nat),(binOp .eql 22 (.slice a n c) (.slice none n' c')).run An w=.ok (.bool a.isNone) w:=λw a n c n' c'=>Lib.run_eql_slice_nil w _ _ a n c n' c' Sq.underlying22;cases A with
 |none =>
  have hl0:l=[]:=by
   cases l with
   |nil=>rfl
   |cons x l=>obtain⟨_,_,e,_⟩:=HR.out (by simp);cases e
  subst hl0;go_enter Sq.func52,Tryz.ntmps52;go_wp2;go_ret;exact⟨_,rfl,xZ _ _ _ _,.refl _⟩
 |some ad =>
  have hcell:∀j u,(l.map (Value.int .i64))[j]?=some u->w.cell? (ad.add j)=some u/\(ad.add j).block<w.heap.size:=λj u hj=>by
   rw[yp] at hj;cases hx:l[j]? with
   |none=>rw[hx] at hj;cases hj
   |some x =>
    rw[hx] at hj;obtain⟨b,o,e,hb,hc⟩:=HR.out (λe=>by rw[e] at hx;simp at hx);obtain rfl:ad=⟨b,o,none⟩:=by injection e
    have e2:(⟨b,o,none⟩:Addr).add j=⟨b,o+j,none⟩:=Addr.add_lit _ _ _;rw[e2];exact⟨by rw[hc j x hx];exact hj,by show b<_;omega⟩
  have HC:=xf hcell;clear hcell;go_enter Sq.func52,Tryz.ntmps52;go_wp2_with (at_builtin;refine Bh rfl _ _ 22 rfl w.heap.size 3 i0 (.int .i64 0) 1 8 Sq.underlying22 hi hz0 hz1 hz2 rfl (by decide) _ _ _ rfl (zA w #[] 0 (xh _) (xK _) rfl) ad l.length c (l.map (Value.int .i64)) rfl ?qc1 ?qc2 ?qc3 ?qc4 ?qc5 ?qc6 ?_)
  case qc1=>simp
  case qc2=>intro j u hj;exact(xH (yP _ _ _ (HC.out j u hj).2)).trans (HC.out j u hj).1
  case qc3=>intro u hu;obtain⟨x,_,rfl⟩:=xW.1 hu;rfl
  case qc4=>unfold maxLen;omega
  case qc5=>omega
  case qc6=>simp
  intro v' w1 hown hgrow hd;have hG:=xf (((Gr.refl w).alloc _).grown hgrow hd (by intro k hk;simp[Value.ownBlock] at hk;omega));have hO:=xf hown;clear hown hgrow hd;go_wp2;go_ret;exact⟨v',rfl,by simpa using hO.out,hG.out⟩
def zR:(An.info? 46).map (λi=>(i.zero,i.size,i.bytes))=some (some (.agg #[.int .i64 0,.int .i64 0,.int .i64 0,.slice none 0 0]),4,48):=by
 rw[zJ];kernel_rfl
def EW (w:World)(b o n:Nat):List Value:=(List.range (n*4)).map λj=>(w.cell? ⟨b,o+j,none⟩).getD (.int .i64 0)
def fj {w:World}{b o n j:Nat}(hj:j<n*4):(EW w b o n)[j]?=some ((w.cell? ⟨b,o+j,none⟩).getD (.int .i64 0)):=by simp[EW,hj]
def Fp (w:World)(b o n:Nat):(EW w b o n).length=n*4:=by simp[EW]
def hcell {w:World}{B b o:Nat}{l:List Be}(hc:∀(i:Nat) (h:Be),l[i]?=some h->Kt w B b (o+i*4) h){j:Nat}(hj:j<l.length*4):∃u,w.cell? ⟨b,o+j,none⟩=some u/\u.oneCell'=true:=by
 obtain⟨h1,h2,h3,A,c,h4,_⟩:=hc (j / 4) _ (xi (show j / 4<l.length by omega));have:j % 4=0\/j % 4=1\/j % 4=2\/j % 4=3:=by omega
 rcases this with e|e|e|e
 .rw[show o+j=o+j / 4*4 by omega];exact⟨_,h1,rfl⟩
 .rw[show o+j=o+j / 4*4+1 by omega];exact⟨_,h2,rfl⟩
 .rw[show o+j=o+j / 4*4+2 by omega];exact⟨_,h3,rfl⟩
 .rw[show o+j=o+j / 4*4+3 by omega];exact⟨_,h4,rfl⟩
def sC (b o c:Nat)(l:List Be)(w:World)(B:Nat)(hb:b<B)(hB:B<=w.heap.size)(hc:∀(i:Nat) (h:Be),l[i]?=some h->Kt w B b (o+i*4) h)(hn:0<l.length)(hl:l.length<=1048576) :
  Calls An 50 #[.slice (some ⟨b,o,none⟩) l.length c] w λe w'=>∃g cap,e=.returned (.slice (some ⟨g,0,none⟩) l.length cap)/\Gr w w'/\w.heap.size<=g/\g<w'.heap.size/\(∀i,w'.frozen? ⟨g,i,none⟩=false) /\
   ∀(i:Nat) (h:Be),l[i]?=some h->Kt w' B g (i*4) h:=by
 obtain⟨i0,hi,hz0,hz1,hz2⟩:=info_parts zR;have HC:=xf hc;clear hc;have q22:∀(w:World) (a:Option Addr) (n c n' c':Nat),(binOp .eql 23 (.slice a n c) (.slice none n' c')).run An w=.ok (.bool a.isNone) w:=λw a n c n' c'=>Lib.run_eql_slice_nil w _ _ a n c n' c' Sq.underlying23;go_enter Sq.func50,Tryz.ntmps50;go_wp2_with (at_builtin;refine Bh rfl _ _ 23 rfl w.heap.size 46 i0 _ 4 48 Sq.underlying23 hi hz0 hz1 hz2 rfl (by decide) _ _ _ rfl (zA w #[] 0 (xh _) (xK _) rfl) ⟨b,o,none⟩ l.length c (EW w b o l.length) rfl ?qc1 ?qc2 ?qc3 ?qc4 ?qc5 ?qc6 ?_)
 case qc1=>exact Fp _ _ _ _
 case qc2 =>
  intro j u hj;have hlt:j<l.length*4:=by have:=(xL.1 hj).1;rwa [Fp] at this
  rw[fj hlt] at hj;obtain⟨v,hv,_⟩:=hcell HC.out hlt;rw[hv] at hj;rw[Addr.add_lit,xH (yP _ _ _ (show b<w.heap.size by omega)),hv];exact hj
 case qc3 =>
  intro u hu;obtain⟨j,hj,rfl⟩:=xW.1 hu;obtain⟨v,hv,h1⟩:=hcell HC.out (x9.1 hj);rw[hv];exact h1
 case qc4=>unfold maxLen;omega
 case qc5=>omega
 case qc6=>simp
 intro v' w1 hown hgrow hd;have hG:=xf (((Gr.refl w).alloc _).grown hgrow hd (by intro k hk;simp[Value.ownBlock] at hk;omega));have hown:w1.ownsRow w.heap.size 46 4 v' l.length (EW w b o l.length):=by simpa using hown
 obtain⟨g,cap,rfl,_,_⟩:=hown.form hn;have hO:=xf hown;clear hgrow hd hown;go_wp2;go_ret;refine⟨g,cap,rfl,hG.out,(hO.out.lt g rfl).1,(hO.out.lt g rfl).2,λi=>?_,λi h hi=>?_⟩
 .rcases hO.out.2 with⟨h,_⟩|⟨g',c',cur,h,_,hb,_⟩
  .cases h
  .obtain⟨rfl⟩:g=g':=by injection h with h1;injection h1 with h2;injection h2
   simp[World.frozen?,hb]
 .have X2:i<l.length:=(xL.1 hi).1;have key:∀k u,k<4->w.cell? ⟨b,o+i*4+k,none⟩=some u->w1.cell? ⟨g,i*4+k,none⟩=some u:=λk u hk hu=>by
   have hlt:i*4+k<l.length*4:=by omega
   have:=hO.out.cells (g:=g) rfl (i*4+k) u (by rw[fj hlt,<-zd,hu];rfl)
   rwa [Addr.add_lit,xG] at this
  obtain⟨h1,h2,h3,A,c',h4,h5⟩:=HC.out i h hi;exact⟨key 0 _ (by omega) h1,key 1 _ (by omega) h2,key 2 _ (by omega) h3,A,c',key 3 _ (by omega) h4,h5.gr hB hG.out⟩
end Go.Proofs.Ao
namespace Go.Sq
def EK (h:Be)(A:Option Addr)(c:Nat):List Value:=[.int .i64 h.heads,.int .i64 h.CJ,.int .i64 h.most,.slice A h.off.length c,.int .i64 h.heads]
end Go.Sq
namespace Go.Proofs.Ao
open Go.RowKit Go.Sq
def Af:(An.info? 194).map (λi=>(i.zero,i.size,i.bytes))=some (some (.agg #[.int .i64 0,.int .i64 0,.int .i64 0,.slice none 0 0,.int .i64 0]),5,56):=by
 rw[zJ];kernel_rfl
def vI {w:World}{ops:Array Oper}{rest:List Oper}{o:Oper}{a:Act}{Q:Exit->Act->World->Prop}(hgd:o.guard=none)(s x:Operand)(ho:o.op=.call { callee:=.builtin .append,args:=#[s,x],argTypes:=#[190,190] })
  (base:Nat) (v:Value) (n:Nat) (xs:List Value) (hs:a.eval s=v) (hown:w.ownsRow base 194 5 v n xs) (ad:Addr) (c:Nat) (news:List Value) (hx:a.eval x=.slice (some ad) 1 c) (h5:news.length=5) (hc:∀(j:Nat) (u:Value),news[j]?=some u->w.cell? (ad.add j)=some u) (h1:∀u∈news,u.oneCell'=true)
  (hn:n<=1048576) (hbase:base<=w.heap.size) (h:∀v' w',w'.ownsRow base 194 5 v' (n+1) (xs++news)->w.grownBy w' v.ownBlock->w.drawn<=w'.drawn->wpList An ops Q rest (a.put o.dst v') w'):wpList An ops Q (o::rest) a w:=by
 obtain⟨i0,hi,hz0,hz1,hz2⟩:=info_parts Af;exact Bh hgd s x 190 ho base 194 i0 _ 5 56 ((Sq.underlying 190).trans Tryz.underlying190) hi hz0 hz1 hz2 rfl (by decide) v n xs hs hown ad 1 c news hx (by omega) hc h1 (by unfold maxLen;omega) (by omega) hbase h
def sD (cb:Nat)(nA hA:Option Addr)(nc hc:Nat)(c:AD)(w:World)(B:Nat)(hB:B<=w.heap.size)(h:Cn w B cb c nA hA nc hc)(hl:c.Ap.length<=1048576) :
  Calls An 133 #[.pointer (some ⟨cb,0,none⟩)] w λe w'=>∃v xs,e=.returned v/\w'.ownsRow w.heap.size 194 5 v c.Ap.length xs/\Gr w w'/\∀i,i<c.Ap.length->∃A m,∀j,j<5->xs[i*5+j]?=(EK (c.h i) A m)[j]?:=by
 have hc1:=h.c1;have hlt:=h.lt;have HH:=xf h.CM;clear h;go_enter Sq.func133,Tryz.ntmps133;go_wp2;go_loopw [3,13] (λv i wr=>∃k:Nat,k<=c.Ap.length/\i=.int .i64 k/\Gr w wr/\∃xs,wr.ownsRow w.heap.size 194 5 v k xs/\∀i,i<k->∃A m,∀j,j<5->xs[i*5+j]?=(EK (c.h i) A m)[j]?) (λ_ i _=>c.Ap.length-(intOf i).toNat)
 case atStart=>exact⟨0,by omega,rfl,.refl _,[],xZ _ _ _ _,λi hi=>absurd hi (by omega)⟩
 case round =>
  obtain⟨k,hk,rfl,hg,xs,hown,Sk⟩:=hrel;have HG:=xf hg;have HX:=xf Sk;clear hg Sk;by_cases I8:k<c.Ap.length
  .obtain⟨b,o,rfl,hb,h0,h1,h2,A_,m,h3,_⟩:=(HH.out.keep (w':=wr) λb o hb=>HG.out.cell (xl hb hB)).at_ I8;have hz:=HG.out.size;go_wp2_with (at_builtin;refine vI rfl _ _ rfl w.heap.size _ _ _ rfl ((hown.alloc _).alloc _ |>.alloc _) ⟨wr.heap.size+1+1,0,none⟩ 1 (EK (c.h k) A_ m) rfl rfl ?c1 ?c2 ?c3 ?c4 ?_)
   case c1 =>
    intro j u hj;rw[Addr.add_lit,xG,xj _ _ _ _ (by simp)]
    match j,hj with
    |0,hj=>exact hj
    |1,hj=>exact hj
    |2,hj=>exact hj
    |3,hj=>exact hj
    |4,hj=>exact hj
    |j+5,hj=>simp[EK] at hj
   case c2=>intro u hu;simp[EK] at hu;rcases hu with rfl|rfl|rfl|rfl|rfl<;>rfl
   case c3=>omega
   case c4=>simp;omega
   intro v' w3 hown' hgrow hd;have D8:=xf ((((HG.out.alloc _).alloc _).alloc _).grown hgrow hd λq hq=>(hown.lt q hq).1);have hlen:xs.length=k*5:=hown.1;have HX3:Hid (∀i,i<k+1->∃A m',∀j,j<5->(xs++EK (c.h k) A_ m)[i*5+j]?=(EK (c.h i) A m')[j]?):=xf λi hi=>by
    rcases yh i k with h|h
    .obtain⟨A',m',hh⟩:=HX.out i h;exact⟨A',m',λj hj=>by rw[yz (by omega)];exact hh j hj⟩
    .obtain rfl:i=k:=by omega
     exact⟨A_,m,λj hj=>by rw[yx (by omega),hlen];congr 1;omega⟩
   have Ky:=xf hown';clear hown' hgrow hd hown;go_wp2;go_roundw
   case rel=>exact⟨k+1,by omega,by go_num,D8.out,_,Ky.out,HX3.out⟩
   case measure=>simp[intOf];omega
  .have D6:k=c.Ap.length:=by omega
   subst D6;have HO:=xf hown;clear hown;go_wp2;go_ret;exact⟨_,xs,rfl,HO.out,HG.out,HX.out⟩
end Go.Proofs.Ao
namespace Go.Sq
open Go.RowKit
structure N9 (w:World)(g:Nat)(l:List Int):Prop where
 lt:g<w.heap.size
 left:∀(i:Nat) (x:Int),l[i]?=some x->w.cell? ⟨g,i*5+4,none⟩=some (.int .i64 x)
 free:∀o,w.frozen? ⟨g,o,none⟩=false
 rest:∀(i:Nat) (x:Int),l[i]?=some x->∃(n0 n1 n2:Int) (A:Option Addr) (m c:Nat),w.cell? ⟨g,i*5,none⟩=some (.int .i64 n0)/\w.cell? ⟨g,i*5+1,none⟩=some (.int .i64 n1)/\w.cell? ⟨g,i*5+2,none⟩=some (.int .i64 n2)/\w.cell? ⟨g,i*5+3,none⟩=some (.slice A m c)
def N9.aeY {w:World}{g:Nat}{l:List Int}(h:N9 w g l):Qg w w.heap.size (some ⟨g,0,none⟩) l:=λ_=>⟨g,0,rfl,h.lt,λi x hx=>by
 simp only[xG]
 exact⟨h.left i x hx,h.rest i x hx⟩⟩
def N9.keep {w w':World}{g:Nat}{l:List Int}(h:N9 w g l)(hz:w.heap.size<=w'.heap.size)(hk:w'.heap[g]?=w.heap[g]?):N9 w' g l:=by
 have e:∀o,w'.cell? ⟨g,o,none⟩=w.cell? ⟨g,o,none⟩:=λo=>xH hk;refine⟨xl h.lt hz,λi x hx=>(e _).trans (h.left i x hx),λo=>(yV hk).trans (h.free o),λi x hx=>?_⟩;obtain⟨n0,n1,n2,A,m,c,h0,h1,h2,h3⟩:=h.rest i x hx;exact⟨n0,n1,n2,A,m,c,(e _).trans h0,(e _).trans h1,(e _).trans h2,(e _).trans h3⟩
def N9.set {w:World}{g:Nat}{l:List Int}(h:N9 w g l){k:Nat}(hk:k<l.length)(y:Int):N9 (w.setCell ⟨g,k*5+4,none⟩ (.int .i64 y)) g (l.set k y):=by
 have hz:(w.setCell ⟨g,k*5+4,none⟩ (.int .i64 y)).heap.size=w.heap.size:=by simp[World.setCell]
 have old:∀i x,(l.set k y)[i]?=some x->∃x',l[i]?=some x':=λi x hx=>by
  have:=(xL.1 hx).1;rw[List.length_set] at this;exact⟨_,xi this⟩
 refine⟨by rw[hz];exact h.lt,λi x hx=>?_,λo=>(yg _ _ _ _).trans (h.free o),λi x hx=>?_⟩
 .by_cases e:i=k
  .subst e;rw[List.getElem?_set_self hk] at hx;cases hx;exact xE _ _ _ (h.left i _ (xi hk))
  .rw[List.getElem?_set_ne (Ne.symm e)] at hx;rw[xq _ _ _ _ (by simp<;>omega)];exact h.left i x hx
 .obtain⟨x',Hh⟩:=old i x hx;obtain⟨n0,n1,n2,A,m,c,h0,h1,h2,h3⟩:=h.rest i x' Hh;refine⟨n0,n1,n2,A,m,c,?_,?_,?_,?_⟩
  all_goals rw[xq _ _ _ _ (by simp<;>omega)]
  .exact h0
  .exact h1
  .exact h2
  .exact h3
def aK:List (Int×Int)->List Value
 |[]=>[]
 |p::l=>.int .i64 p.1::.int .i64 p.2::aK l
def lj (l m:List (Int×Int)):aK (l++m)=aK l++aK m:=by
 induction l with
 |nil=>rfl
 |cons p l ih=>simp[aK,ih]
def ib {l:List (Int×Int)}{i:Nat}(h:i<l.length):(aK l)[i*2]?=some (.int .i64 (l[i]?.getD (0,0)).1)/\(aK l)[i*2+1]?=some (.int .i64 (l[i]?.getD (0,0)).2):=by
 induction l generalizing i with
 |nil=>simp at h
 |cons p l ih =>
  cases i with
  |zero=>exact⟨rfl,rfl⟩
  |succ i =>
   have:=ih (i:=i) (by simpa using h);rw[Nat.succ_mul];simpa [aK] using this
end Go.Sq
namespace Go.Proofs.Ao
open Go.RowKit Go.Sq
def Ag:(An.info? 157).map (λi=>(i.zero,i.size,i.bytes))=some (some (.agg #[.int .i64 0,.int .i64 0]),2,16):=by
 rw[zJ];kernel_rfl
def vJ {w:World}{ops:Array Oper}{rest:List Oper}{o:Oper}{a:Act}{Q:Exit->Act->World->Prop}(hgd:o.guard=none)(s x:Operand)(ho:o.op=.call { callee:=.builtin .append,args:=#[s,x],argTypes:=#[154,154] })
  (base:Nat) (v:Value) (n:Nat) (xs:List Value) (hs:a.eval s=v) (hown:w.ownsRow base 157 2 v n xs) (ad:Addr) (c:Nat) (u1 u2:Value) (hx:a.eval x=.slice (some ad) 1 c) (hc1:w.cell? (ad.add 0)=some u1) (hc2:w.cell? (ad.add 1)=some u2) (h1:u1.oneCell'=true) (h2:u2.oneCell'=true)
  (hn:n<=1048576) (hbase:base<=w.heap.size) (h:∀v' w',w'.ownsRow base 157 2 v' (n+1) (xs++[u1,u2])->w.grownBy w' v.ownBlock->w.drawn<=w'.drawn->wpList An ops Q rest (a.put o.dst v') w'):wpList An ops Q (o::rest) a w:=by
 obtain⟨i0,hi,hz0,hz1,hz2⟩:=info_parts Ag;refine Bh hgd s x 154 ho base 157 i0 _ 2 16 ((Sq.underlying 154).trans Tryz.underlying154) hi hz0 hz1 hz2 rfl (by decide) v n xs hs hown ad 1 c [u1,u2] hx rfl (λj u hj=>?_) (λu hu=>?_) (by unfold maxLen;omega) (by omega) hbase h
 .match j,hj with
  |0,hj=>cases hj;exact hc1
  |1,hj=>cases hj;exact hc2
 .simp only[xu,xm,or_false] at hu;rcases hu with rfl|rfl
  .exact h1
  .exact h2
def sE (cb:Nat)(nA hA A:Option Addr)(nc hc wc:Nat)(c:AD)(r:Bl)(ws:List Int)(w:World)(h:Cn w w.heap.size cb c nA hA nc hc)(Du:c.Ok)(hr:∀i,c.has (r i))(hws:∀x∈ws,0<=x/\x<=60)(XZ:ws.length<=5)(hw:RI w w.heap.size A ws) :
  Calls An 91 #[.pointer (some ⟨cb,0,none⟩),BI r,.slice A ws.length wc] w λe w'=>∃v,e=.returned v/\w'.ownsRow (w.heap.size+1) 157 2 v (CF c r ws).length (aK (CF c r ws))/\Gr w w':=by
 obtain⟨W0,hW0⟩:∃W0:World,W0=w.alloc (.cells #[.int .u8 (r 0),.int .u8 (r 1),.int .u8 (r 2),.int .u8 (r 3),.int .u8 (r 4)] 72):=⟨_,rfl⟩;have hg0:Gr w W0:=hW0▸(Gr.refl w).alloc _;have hz0:W0.heap.size=w.heap.size+1:=by rw[hW0];simp
 have Oa:Cn W0 W0.heap.size cb c nA hA nc hc:=h.on hg0;have aat:=xf (sD cb nA hA nc hc c W0 W0.heap.size (xh _) Oa (by have:=Du.h4;omega));have OP:=xf Oa;have Nd:Hid (∀i,i<5->W0.cell? ⟨w.heap.size,i,none⟩=some (.int .u8 (r i:Nat))):=xf λi hi=>by
  rw[hW0,xj _ _ _ _ (by simp)]
  match i,hi with
  |0,_=>rfl
  |1,_=>rfl
  |2,_=>rfl
  |3,_=>rfl
  |4,_=>rfl
 have Hf:=xf (hw.gr (xh _) hg0);have HW:=xf hW0;have B4:=xf hg0;have DX:=xf Du;have HR:=xf hr;have HWS:=xf hws;clear hW0 hg0 Oa h Du hr hws hw;unfold BI;go_enter Sq.func91,Tryz.ntmps91;go_wp2_with fail;rw[<-HW.out];refine aat.out.mono ?_;rintro e w1 ⟨v1,xs,rfl,hown,hg1,Sk⟩;have h1:=DX.out.h1;obtain⟨g,cap,rfl,JD⟩:∃g cap,v1=.slice (some ⟨g,0,none⟩) c.Ap.length cap/\W0.heap.size<=g:=by
  rcases hown.2 with⟨_,h0⟩|⟨g,cap,cur,rfl,h2,_⟩
  .omega
  .exact⟨g,cap,rfl,h2⟩
 have hoW:N9 w1 g (AX c r ws 0).1:=by
  have hl0:(AX c r ws 0).1=c.Ap.map (·.heads):=rfl;have hcell:=hown.cells (g:=g) rfl;have e5:∀i x,(AX c r ws 0).1[i]?=some x->∃A m,x=(c.h i).heads/\∀j,j<5->∀u,(EK (c.h i) A m)[j]?=some u->w1.cell? ⟨g,i*5+j,none⟩=some u:=λi x hx=>by
   rw[hl0] at hx;have X2:i<c.Ap.length:=by have:=(xL.1 hx).1;simpa using this
   obtain⟨A',m,hh⟩:=Sk i X2;refine⟨A',m,?_,λj hj u hu=>?_⟩
   .rw[yp,xi X2] at hx;cases hx;unfold AD.h;rw[xi X2];rfl
   .have:=hcell (i*5+j) u ((hh j hj).trans hu);have e:(⟨g,0,none⟩:Addr).add (i*5+j)=⟨g,0+(i*5+j),none⟩:=by unfold Addr.add;split<;>simp_all
    rw[e,xG] at this;exact this
  refine⟨(hown.lt g rfl).2,λi x hx=>?_,λo=>?_,λi x hx=>?_⟩
  .obtain⟨A',m,rfl,hc⟩:=e5 i x hx;exact hc 4 (by omega) _ rfl
  .rcases hown.2 with⟨hb,_⟩|⟨g2,Pf,cur,e2,_,hb,_⟩
   .cases hb
   .have e3:g=g2:=by injection e2 with a;injection a with a;injection a
    subst e3;unfold World.frozen?;rw[hb];simp
  .obtain⟨A',m,rfl,hc⟩:=e5 i x hx;exact⟨_,_,_,_,_,_,hc 0 (by omega) _ rfl,hc 1 (by omega) _ rfl,hc 2 (by omega) _ rfl,hc 3 (by omega) _ rfl⟩
 have HOW:=xf hoW;have Ch:=xf hg1;have aeZ:=(hown.lt g rfl).2;have hz1:=hg1.size;clear hown hg1 Sk hoW aat;go_wp2;go_loopw [7,16] (λv i wr=>∃k:Nat,k<=ws.length/\i=.int .i64 k/\Gr W0 wr/\N9 wr g (AX c r ws k).1/\wr.ownsRow w1.heap.size 157 2 v (AX c r ws k).2.length (aK (AX c r ws k).2)/\w1.heap.size<=wr.heap.size) (λ_ i _=>ws.length-(intOf i).toNat)
 case atStart=>exact⟨0,by omega,rfl,Ch.out,HOW.out,xZ _ _ _ _,xh _⟩
 case round =>
  obtain⟨wq,rfl⟩:∃wq,wq=wr:=⟨_,rfl⟩;obtain⟨k,hk,rfl,hgr,hoq,hown,hzq⟩:=hrel;have D7:=xf hgr;have HOQ:=xf hoq;have X3:=xf hown;by_cases hlt:k<ws.length
  .obtain⟨b,o,rfl,hb,hcw⟩:=(Hf.out.gr (by omega) hgr).at_ hlt;have PU:wq.cell? ⟨w.heap.size,k,none⟩=some (.int .u8 (r k:Nat)):=(hgr.cell (by show w.heap.size<_;omega)).trans (Nd.out k (by omega));have HD:=xf (pU cb c (r k) wq (OP.out.on hgr) DX.out.h4 DX.out.CJ (HR.out k));have hdb:=MJ c (HR.out k) DX.out.CJ (c.Io (r k)).length;rw[List.take_length,<-z8] at hdb;have hx:=HWS.out _ (Dd ws k hlt)
   have X4:=xf (show IH c r ws k=(ws[k]?.getD 0-c.CJ (r k)).toNat from rfl);obtain⟨T,hT⟩:∃T,T=IH c r ws k:=⟨_,rfl⟩;rw[<-hT] at X4;have HTT:=xf hT;have aau:=Er.all DX.out (r:=r) (ws:=ws) (xh _) k hk;have Ms:=xf aau;generalize c.CJ (r k)=D at HD hdb X4;generalize ws[k]?.getD 0=x at hcw hx X4;have hmax:(max 0 (x-D):Int)=(T:Int):=by rw[X4.out];omega
   have hmax':(if(x-D)<0 then(0:Int) else x-D)=(T:Int):=by rw[X4.out];split<;>omega
   have hT60:T<=60:=by rw[X4.out];omega
   clear hgr hoq hown hT aau;go_wp2_with fail;refine HD.out.mono ?_;rintro e w2 ⟨rfl,hg2⟩;have Ea:=xf (D7.out.trans hg2);have ae0:=hg2;have hz2:=hg2.size;have ae1:=xf (HOQ.out.keep hg2.size (hg2.below.block g HOQ.out.lt));have ae2:=xf (ar X3.out λq _ hl=>hg2.below.block q hl);have hgT:(T:Int)<=60:=by omega
   clear hg2 ae0 HD;go_wp2;go_loopw [7,29] (λv i wr=>∃m:Nat,m<=T/\i=.int .i64 m/\Gr W0 wr/\N9 wr g (BW k (AX c r ws k) m).1/\wr.ownsRow w1.heap.size 157 2 v (BW k (AX c r ws k) m).2.length (aK (BW k (AX c r ws k) m).2)/\w1.heap.size<=wr.heap.size) (λ_ i _=>T-(intOf i).toNat)
   case atStart=>exact⟨0,by omega,rfl,Ea.out,ae1.out,ae2.out,by omega⟩
   case round =>
    obtain⟨m,hm,rfl,FP,hoi,aav,Wa⟩:=hrel;have Gt:=xf FP;have Ww:=xf hoi;have Ql:=xf aav;clear FP hoi aav;by_cases hlm:m<T
    .have BU:=Ms.out.it (d:=k) hlt m;have X5:=xf BU;obtain⟨S,hS⟩:∃S,S=BW k (AX c r ws k) m:=⟨_,rfl⟩;have Oz:Hid (BW k (AX c r ws k) (m+1)=dG k S):=xf (by rw[hS];rfl);rw[<-hS] at Ww Ql X5;have HST:=xf (λh:Bq S.1 S.1.length<0=>(m8 (c:=c) (r:=r) (ws:=ws) (k:=k) (m:=m) hlt (by rw[<-HTT.out];omega) (by rw[<-hS];exact h)).trans (by rw[<-hS]));have JN:=xf (vG (some ⟨g,0,none⟩) cap S.1 wr wr.heap.size (xh _) Ww.out.aeY (by rw[X5.out.len];have:=DX.out.h4;omega))
     have hlen:=X5.out.len
     have ae3:=xf (show S.2.length<=160 by
      have h1:=Eg 0 40 _ X5.out.low;have h2:=X5.out.count
      omega)
     have hml:=jc S.1 S.1.length;have Lv:Hid (dG k S=if Bq S.1 S.1.length<0 then S else(S.1.set (Bq S.1 S.1.length).toNat (S.1[(Bq S.1 S.1.length).toNat]?.getD 0-1),S.2++[((k:Int),Bq S.1 S.1.length)])):=xf rfl;rw[hlen] at JN HST Lv hml;have hS':=xf hS;clear hS BU;generalize Bq S.1 c.Ap.length=q at JN HST Lv hml;by_cases hq:q<0
     .have HLL:=xf (HST.out hq);have hqd:decide (q<0)=true:=by simpa using hq
      clear HST Lv;go_wp2_with fail;refine JN.out.mono ?_;rintro e w3 ⟨rfl,hg3⟩;have D8:=xf hg3;have Qm:=xf (ar Ql.out λq _ hl=>hg3.below.block q hl);clear hg3 JN;go_wp2;go_ret;refine⟨_,rfl,?_,B4.out.trans (Gt.out.trans D8.out)⟩;rw[HLL.out];exact Cj Qm.out (by omega)
     .obtain⟨j,rfl⟩:∃j:Nat,q=j:=⟨q.toNat,by omega⟩;have HSS:=xf (Oz.out.trans (Lv.out.trans (if_neg hq)));rw[Int.toNat_natCast] at HSS;have Wt:j<S.1.length:=by omega
      have GF:=X5.out.low _ (Dd S.1 j Wt);have HLF:=xf (Ww.out.left j _ (xi Wt));have hqd:decide ((j:Int)<0)=false:=by simp
      clear HST Lv Oz hq;go_wp2_with fail;refine JN.out.mono ?_;rintro e w3 ⟨rfl,hg3⟩;have D8:=xf hg3;have hb3:=hg3.below.block g Ww.out.lt;have Qm:=xf (ar Ql.out λq _ hl=>hg3.below.block q hl);have Tl:=xf (Ww.out.keep hg3.size hb3);have hz3:=hg3.size;have hcell:w3.cell? ⟨g,j*5+4,none⟩=some (.int .i64 (S.1[j]?.getD 0)):=by
       rw[xi Wt];exact Tl.out.left j _ (xi Wt)
      have hfz:=Tl.out.free (j*5+4);have HX:Hid (N9 (w3.setCell ⟨g,j*5+4,none⟩ (.int .i64 (S.1[j]?.getD 0-1))) g (S.1.set j (S.1[j]?.getD 0-1))):=xf (Tl.out.set Wt _);generalize S.1[j]?.getD 0=y at GF hcell HX HSS;have hjh:j<c.Ap.length:=by omega
      have hglt:g<w3.heap.size:=Tl.out.lt;have V9:g<w1.heap.size:=aeZ;clear hg3 JN;go_wp2_with (at_builtin;refine vJ rfl _ _ rfl w1.heap.size _ _ _ rfl ((ownsRow_setCell_below Qm.out (by show g<_;omega) _).alloc _) ⟨w3.heap.size,0,none⟩ 1 (.int .i64 k) (.int .i64 j) rfl ?c1 ?c2 rfl rfl ?c3 ?c4 ?_)
      case c1=>rw[Addr.add_lit,xj _ _ _ _ (by simp)];rfl
      case c2=>rw[Addr.add_lit,xj _ _ _ _ (by simp)];rfl
      case c3=>have:=ae3.out;omega
      case c4=>simp;omega
      intro v' w4 hown' hgrow hd;have Tm:=hgrow.size;simp only[zn] at Tm;have aaw:Gr W0 w4:=(((Gt.out.trans D8.out).setCell (p:=⟨g,j*5+4,none⟩) (by show _<=g;omega) (.int .i64 (y-1))).alloc _).grown hgrow hd λq hq=>by have:=(Qm.out.lt q hq).1;omega
      have hne:some g≠_:=dQ Qm.out V9;have Gw:=(hgrow.block g (by simp[World.setCell];omega) hne).trans (heap_alloc_old _ _ (by simp[World.setCell];omega));have ae4:=xf (HX.out.keep (w':=w4) (by simp[World.setCell] at Tm ⊢;omega) Gw);have ae5:=xf aaw;have UI:Hid ((BW k (AX c r ws k) (m+1)).2.length=S.2.length+1/\aK (BW k (AX c r ws k) (m+1)).2=aK S.2++[.int .i64 k,.int .i64 j]):=xf (by rw[HSS.out,lj];exact⟨by simp,rfl⟩)
      have HO4:Hid (w4.ownsRow w1.heap.size 157 2 v' (BW k (AX c r ws k) (m+1)).2.length (aK (BW k (AX c r ws k) (m+1)).2)):=xf (by rw[UI.out.1,UI.out.2];exact hown');have HX4:Hid (N9 w4 g (BW k (AX c r ws k) (m+1)).1):=xf (by rw[HSS.out];exact ae4.out);have ZV:w1.heap.size<=w4.heap.size:=by simp[World.setCell] at Tm;omega
      clear hown' hgrow hd aaw Gw hne Tm;go_wp2;go_roundw
      case rel=>exact⟨m+1,by omega,by go_num,ae5.out,HX4.out,HO4.out,ZV⟩
      case measure=>simp[intOf];omega
    .have hmt:m=T:=by omega
     have HE:Hid (AX c r ws (k+1)=BW k (AX c r ws k) m):=xf (by rw[hmt,HTT.out];rfl);rw[<-HE.out] at Ww Ql;subst hmt;go_wp2;go_roundw
     case rel=>exact⟨k+1,by omega,by go_num,Gt.out,Ww.out,Ql.out,Wa⟩
     case measure=>simp[intOf];omega
  .have E4:k=ws.length:=by omega
   subst E4;go_wp2;go_ret;exact⟨_,rfl,Cj X3.out (by omega),B4.out.trans D7.out⟩
end Go.Proofs.Ao
namespace Go.Sq
def Lz {w:World}{base:Nat}{v:Value}{l:List (Int×Int)}(h:w.ownsRow base 157 2 v l.length (aK l)):∃A c,v=.slice A l.length c/\E8 w w.heap.size A l:=by
 rcases h.2 with⟨rfl,h0⟩|⟨g,cap,cur,rfl,_,hg,_⟩
 .have:l=[]:=xU h0;subst this;exact⟨none,0,rfl,λh=>absurd rfl h⟩
 .refine⟨_,cap,rfl,λ_=>⟨g,0,rfl,(xg.1 hg).1,λi x hx=>?_⟩⟩;have hi:=(xL.1 hx).1;have Hh:l[i]?.getD (0,0)=x:=by rw[hx];rfl
  have e:∀j,(⟨g,0,none⟩:Addr).add j=⟨g,0+j,none⟩:=λj=>by unfold Addr.add;split<;>simp_all
  have h1:=h.cells (g:=g) rfl _ _ (ib hi).1;have h2:=h.cells (g:=g) rfl _ _ (ib hi).2;rw[e,Hh] at h1 h2;exact⟨h1,by rw[zd];exact h2⟩
def RsK (w:World)(K:Nat->Prop)(A:Option Addr)(l:List (Int×Int)):Prop :=
 l≠[]->∃b o,A=some ⟨b,o,none⟩/\K b/\∀(i:Nat) (x:Int×Int),l[i]?=some x->w.cell? ⟨b,o+i*2,none⟩=some (.int .i64 x.1)/\w.cell? ⟨b,o+i*2+1,none⟩=some (.int .i64 x.2)
def My {w:World}{base:Nat}{v:Value}{l:List (Int×Int)}(h:w.ownsRow base 157 2 v l.length (aK l)):∃A c,v=.slice A l.length c/\RsK w (λb=>base<=b/\b<w.heap.size) A l:=by
 obtain⟨A,c,rfl,h2⟩:=Lz h;refine⟨A,c,rfl,λhn=>?_⟩;obtain⟨b,o,rfl,hb,hc⟩:=h2 hn;exact⟨b,o,rfl,⟨(h.lt b rfl).1,hb⟩,hc⟩
def DL {w:World}{base:Nat}{v:Value}{l:List Int}(h:w.ownsRow base 3 1 v l.length (l.map (Value.int .i64))):∃A c,v=.slice A l.length c/\FC w (λb=>base<=b/\b<w.heap.size) A l:=by
 obtain⟨A,c,rfl,h2⟩:=zG h;refine⟨A,c,rfl,λhn=>?_⟩;obtain⟨b,o,rfl,hb,hc⟩:=h2 hn;exact⟨b,o,rfl,⟨(h.lt b rfl).1,hb⟩,hc⟩
def KP (n:Nat)(bl:Nat->Nat)(w w':World):Prop:=w.heap.size<=w'.heap.size/\∀b,b<w.heap.size->(∀h,h<n->bl h≠b)->w'.heap[b]?=w.heap[b]?
section
variable {n:Nat} {bl:Nat->Nat} {w w' w2:World}
def KP.refl (n:Nat)(bl:Nat->Nat)(w:World):KP n bl w w:=⟨xh _,λ_ _ _=>rfl⟩
def KP.trans (h:KP n bl w w')(k:KP n bl w' w2):KP n bl w w2:=⟨xx h.1 k.1,λb hb hk=>(k.2 b (xl hb h.1) hk).trans (h.2 b hb hk)⟩
def KP.gr (h:Gr w w'):KP n bl w w':=⟨h.size,λb hb _=>h.below.block b hb⟩
def KP.set {a:Nat}(ha:a<n)(t:Nat)(v:Value):KP n bl w (w.setCell ⟨bl a,t,none⟩ v):=⟨by simp[World.setCell],λb _ hk=>by rw[Go.AW.Bi];exact if_neg (λe=>hk a ha e.symm)⟩
def KP.drew (h:KP n bl w w'):KP n bl w w'.drew:=h
def KP.cell (h:KP n bl w w'){b:Nat}(hb:b<w.heap.size)(hk:∀h,h<n->bl h≠b)(o:Nat):w'.cell? ⟨b,o,none⟩=w.cell? ⟨b,o,none⟩:=xH (h.2 b hb hk)
end
def Db (p:Int)(r:Bl)(ls:List (Int×Int))(k i h t:Nat):Int :=
 Es p r ls h t k+if(ls[k]?.getD (0,0)).2=t/\h≠t then Ie p (wl (r (ls[k]?.getD (0,0)).1.toNat)) h i else 0
def pk (p:Int)(r:Bl)(ls:List (Int×Int))(k h t:Nat):Db p r ls k 0 h t=Es p r ls h t k:=by unfold Db Ie;split<;>simp
def qS (p:Int)(r:Bl)(ls:List (Int×Int))(k h t:Nat):Db p r ls k (wl (r (ls[k]?.getD (0,0)).1.toNat)).length h t=Es p r ls h t (k+1):=rfl
def JO (p:Int)(n i:Nat):Int:=p / n+(if(i:Int)<p % n then 1 else 0)
def pm (p:Int)(r:Bl)(ls:List (Int×Int))(k i h t:Nat):Db p r ls k (i+1) h t =
  Db p r ls k i h t+if(ls[k]?.getD (0,0)).2=t/\h≠t/\(wl (r (ls[k]?.getD (0,0)).1.toNat))[i]?.getD 0=h then JO p (wl (r (ls[k]?.getD (0,0)).1.toNat)).length i else 0:=by
 unfold Db JO;by_cases h1:(ls[k]?.getD (0,0)).2=t/\h≠t
 .rw[if_pos h1,if_pos h1];by_cases h2:(wl (r (ls[k]?.getD (0,0)).1.toNat))[i]?.getD 0=h
  .rw[if_pos ⟨h1.1,h1.2,h2⟩];show _+(_+if _ then _ else _)=_;rw[if_pos h2];omega
  .rw[if_neg (λh=>h2 h.2.2)];show _+(_+if _ then _ else _)=_;rw[if_neg h2];omega
 .rw[if_neg h1,if_neg h1,if_neg (λh=>h1 ⟨h.1,h.2.1⟩)];omega
def sG {p:Int}(hp:0<=p/\p<=99)(r:Bl)(ls:List (Int×Int))(k i h t:Nat):0<=Db p r ls k i h t/\Db p r ls k i h t<=400*k+100*i:=by
 have h1:=mj hp r ls h t k;have h2:=mi hp (wl (r (ls[k]?.getD (0,0)).1.toNat)) h i;unfold Db;split<;>omega
end Go.Sq
namespace Go.Proofs.Ao
open Go.RowKit Go.Sq
def pn {w:World}{ops:Array Oper}{rest:List Oper}{o:Oper}{a:Act}{Q:Exit->Act->World->Prop}(hgd:o.guard=none)(s x:Operand)(ho:o.op=.call { callee:=.builtin .append,args:=#[s,x],argTypes:=#[26,26] })
  (base:Nat) (v:Value) (n:Nat) (xs:List Value) (hs:a.eval s=v) (hown:w.ownsRow base 22 1 v n xs) (ad:Addr) (c:Nat) (u:Value) (hx:a.eval x=.slice (some ad) 1 c) (hc:w.cell? (ad.add 0)=some u) (h1:u.oneCell'=true)
  (hn:n<=1048576) (hbase:base<=w.heap.size) (h:∀v' w',w'.ownsRow base 22 1 v' (n+1) (xs++[u])->w.grownBy w' v.ownBlock->w.drawn<=w'.drawn->wpList An ops Q rest (a.put o.dst v') w'):wpList An ops Q (o::rest) a w:=by
 obtain⟨i0,hi,hz0,hz1,hz2⟩:=info_parts zY;refine Bh hgd s x 26 ho base 22 i0 _ 1 24 ((Sq.underlying 26).trans Tryz.underlying26) hi hz0 hz1 hz2 rfl (by decide) v n xs hs hown ad 1 c [u] hx rfl (λj u hj=>?_) (λu' hu=>?_) (by unfold maxLen;omega) (by omega) hbase h
 .match j,hj with
  |0,hj=>cases hj;exact hc
 .simp only[xu,xm,or_false] at hu;subst hu;exact h1
def vK (nA hA gA rA:Option Addr)(nc hc gc rc:Nat)(c:AD)(ls:List (List Int))(rs:List (Int×Int))(p:Int)(w:World)(B:Nat)(hB:B<=w.heap.size)(hn:RI w B nA c.Aq)(hh:BG w B hA c.Ap)(hg:BD w B gA ls)(hr:E8 w B rA rs)
  (DG:c.Aq.length<=4611686018427387904) (hl2:c.Ap.length<=4611686018427387904) (BU:∀h∈c.Ap,h.off.length<=4611686018427387904) (EY:ls.length<=4611686018427387904) (hl4:∀x∈ls,x.length<=4611686018427387904) (Nh:rs.length<=4611686018427387904) (PU:rs.length<=rc)
  (hF:Ay c ls=0) (hR:hP c.Aq.length rs=0) (hp:0<=p/\p<=99) :
  Calls An 61 #[AH nA hA c nc hc,.slice gA ls.length gc,.slice rA rs.length rc,.int .i64 p] w λe w'=>Gr w w'/\∃A k,e=.returned (.tuple #[.slice A c.Ap.length k,.int .i64 0]) /\
   BD w' w'.heap.size A (G9 c (Av ls) p (BN c.Aq.length rs rs.length)):=by
 unfold AH;obtain⟨W0,hW0⟩:∃W0:World,W0=w.alloc (.cells #[.slice nA c.Aq.length nc,.slice hA c.Ap.length hc] 25):=⟨_,rfl⟩;have hg0:Gr w W0:=hW0▸(Gr.refl w).alloc _;have hz0:W0.heap.size=w.heap.size+1:=by rw[hW0];simp
 have HW:=xf hW0;have hrd:=sB nA hA gA rA nc hc gc rc c ls rs W0 B (by omega) (hn.gr hB hg0) (hh.keep λb o hb=>hg0.cell (xl hb hB)) (hg.gr hB hg0) (hr.gr hB hg0) DG hl2 BU EY hl4 Nh PU hF hR;unfold AH at hrd;have HRD:=xf hrd;have B4:=xf hg0;have N8:Hid (W0.cell? ⟨w.heap.size,1,none⟩=some (.slice hA c.Ap.length hc)):=xf (by rw[hW0,xj _ _ _ _ rfl];rfl);have FD:=xf hF
 have DX:=xf (AD.Ok.of (show AK c=0 by
  have:=hF;unfold Ay at this;split at this
  .exact absurd this (by assumption)
  .simpa using ‹¬AK c≠0›))
 have HRZ:=xf (kM hR);have HBT:Hid (∀W,Calls An 49 #[.int .i64 p,.int .i64 0,.int .i64 99] W λe w'=>e=.returned (.bool true)/\W=w'):=xf λW=>by
  have:C2 p 0 99=true:=by simp[C2];omega
  rw[<-this];exact bQ _ _ _ W
 clear hW0 hg0 hrd hn hh hg hr hl4 BU hF hR;go_enter Sq.func61,Tryz.ntmps61;go_wp2_with fail;rw[<-HW.out];refine HRD.out.mono ?_;rintro e w1 ⟨hg1,cb,A,ka,rfl,Oa,Ct⟩;obtain⟨W1,hW1⟩:∃W1:World,W1=w1.alloc (.cells #[.int .u8 (Av ls 0),.int .u8 (Av ls 1),.int .u8 (Av ls 2),.int .u8 (Av ls 3),.int .u8 (Av ls 4)] 71):=⟨_,rfl⟩;have Gq:Gr w1 W1:=hW1▸(Gr.refl w1).alloc _;have hz1:W1.heap.size=w1.heap.size+1:=by rw[hW1];simp
 have hzz:=hg1.size;have Ch:=xf (hg1.trans Gq);have OP:=xf (Oa.on Gq);have Hf:=xf (Ct.gr (xh _) Gq);have Nd:Hid (∀i,i<5->W1.cell? ⟨w1.heap.size,i,none⟩=some (.int .u8 (Av ls i:Nat))):=xf λi hi=>by
  rw[hW1,xj _ _ _ _ (by simp)]
  match i,hi with
  |0,_=>rfl
  |1,_=>rfl
  |2,_=>rfl
  |3,_=>rfl
  |4,_=>rfl
 have hc1:w1.cell? ⟨w.heap.size,1,none⟩=some (.slice hA c.Ap.length hc):=(hg1.cell (by show w.heap.size<_;omega)).trans N8.out;have EZ:w.heap.size<w1.heap.size:=by omega
 have Sn:=DX.out.h4;have Tk:=DX.out.h1;have Hk:=λw=>gZ c.Ap.length w (by omega);have Mw:=xf hW1;clear hg1 Oa Ct Gq HRD hW1;unfold BI;go_wp2_with fail;rw[<-Mw.out];refine(HBT.out _).mono ?_;rintro e w' ⟨rfl,rfl⟩;rw[Mw.out];go_wp2;rw[<-Mw.out];have hwl2:w.heap.size<W1.heap.size/\w1.heap.size<W1.heap.size:=by omega
 have MO:=xf hz1;clear hc1 hz1;have hc1:=xf ((Ch.out.cell (p:=⟨w.heap.size,1,none⟩) (by show w.heap.size<_;omega)).trans N8.out);go_loopw [14,39] (λv i wr=>∃k:Nat,k<=c.Ap.length/\i=.int .i64 k/\Gr W1 wr/\∃bl,GM wr W1.heap.size v c.Ap.length k (λ_ _=>0) bl) (λ_ i _=>c.Ap.length-(intOf i).toNat)
 case atStart=>exact⟨0,by omega,rfl,.refl _,λ_=>0,.nil _ _ _ _ _⟩
 case round =>
  obtain⟨k,hk,rfl,hgr,bl,Ob⟩:=hrel;have D7:=xf hgr;have HT:=xf Ob;have hc1:=(hgr.cell (p:=⟨w.heap.size,1,none⟩) (by show w.heap.size<_;omega)).trans hc1.out;have V9:=hgr.size;clear hgr Ob;by_cases hlt:k<c.Ap.length
  .obtain⟨xs,hrow,Sk⟩:=HT.out.row;have HXS:=xf Sk;have Oc:=xf hrow;clear Sk;have Yv:w.heap.size<wr.heap.size:=by omega
   go_wp2_with (at_builtin;refine pn rfl _ _ rfl W1.heap.size _ _ _ rfl ((hrow.alloc _).alloc _) ⟨wr.heap.size+1,0,none⟩ 1 (.slice (some ⟨wr.heap.size,0,none⟩) c.Ap.length c.Ap.length) rfl ?c1 rfl ?c2 ?c3 ?_)
   case c1=>rw[Addr.add_lit,xj _ _ _ _ (by simp)];rfl
   case c2=>omega
   case c3=>simp;omega
   intro v' w3 hown' hgrow hd;have D8:=xf (((D7.out.alloc _).alloc _).grown hgrow hd λq hq=>(hrow.lt q hq).1);have Wy:=xf (HT.out.push (q:=wr.heap.size) Oc.out HXS.out (by omega) (xh _) (λb hb=>(heap_alloc_old _ _ (by simp;omega)).trans (heap_alloc_old _ _ hb)) ((heap_alloc_old _ _ (by simp)).trans (heap_alloc_new _ _)) (λt ht=>dR _ _ ht) (by simp;omega) hgrow hown');clear hown' hgrow hd hrow
   go_wp2;go_roundw
   case rel=>exact⟨k+1,by omega,by go_num,D8.out,_,Wy.out⟩
   case measure=>simp[intOf];omega
  .have E4:k=c.Ap.length:=by omega
   subst E4;obtain⟨g,hv,JD,_⟩:∃g,(∃cap,u14=.slice (some ⟨g,0,none⟩) c.Ap.length cap)/\g<wr.heap.size/\True:=by
    obtain⟨xs,h1,h2⟩:=HT.out.row;rcases h1.2 with⟨_,h0⟩|⟨g,cap,cur,hv,_,k2,_⟩
    .omega
    .exact⟨g,⟨cap,hv⟩,(xg.1 k2).1,trivial⟩
   obtain⟨cap,rfl⟩:=hv;have hws:∀x∈BN c.Aq.length rs rs.length,0<=x/\x<=60:=λx hx=>by
    obtain⟨j,_,rfl⟩:=xW.1 hx;exact mZ HRZ.out _ _ (xh _)
   have Tn:=sE cb nA hA A nc hc ka c (Av ls) (BN c.Aq.length rs rs.length) wr (OP.out.on D7.out) DX.out (dT FD.out) hws (by rw[dL];exact DX.out.n5) ((Hf.out.gr (by omega) D7.out).more (by omega));rw[dL] at Tn;have X6:=jL DX.out (Av ls) (BN c.Aq.length rs rs.length);have HLN:Hid (∀q∈CF c (Av ls) (BN c.Aq.length rs rs.length),0<=q.1/\q.1<c.Aq.length/\0<=q.2/\q.2<c.Ap.length):=xf λq hq=>by
    have:=(kL DX.out (Av ls) (BN c.Aq.length rs rs.length)).night q hq
    rwa [dL] at this
   have HOL:Hid (G9 c (Av ls) p (BN c.Aq.length rs rs.length)=Lu c.Ap.length λh t=>Es p (Av ls) (CF c (Av ls) (BN c.Aq.length rs rs.length)) h t (CF c (Av ls) (BN c.Aq.length rs rs.length)).length):=xf rfl;obtain⟨L,hL⟩:∃L,L=CF c (Av ls) (BN c.Aq.length rs rs.length):=⟨_,rfl⟩;rw[<-hL] at Tn X6 HLN HOL;clear hL;have Wz:=xf Tn
   have PU:∀i,i<5->wr.cell? ⟨w1.heap.size,i,none⟩=some (.int .u8 (Av ls i:Nat)):=λi hi=>(D7.out.cell (by show w1.heap.size<_;omega)).trans (Nd.out i hi);obtain⟨a0,a1,a2,a3,a4⟩:=H6 PU;clear Tn PU hws;unfold BI at Wz;go_wp2_with fail;refine Wz.out.mono ?_;rintro e w2 ⟨v,rfl,hown2,hg2⟩;obtain⟨A2,k2,rfl,hrs⟩:=My hown2;have Qj:=xf hrs;have Ea:=xf (D7.out.trans hg2);have HT2:=xf ((HT.out.gr hg2).congr (M':=λh t=>Es p (Av ls) L h t 0) λa t _ _=>rfl)
   have HBL:Hid (∀h,h<c.Ap.length->bl h<wr.heap.size):=xf λh hh=>(HT.out.at_ hh hh).2.1;have hz2:=hg2.size;have ZO:=xf (λi hi=>(hg2.cell (p:=⟨w1.heap.size,i,none⟩) (by show w1.heap.size<_;omega)).trans (((D7.out.cell (p:=⟨w1.heap.size,i,none⟩) (by show w1.heap.size<_;omega)).trans (Nd.out i hi))));clear hown2 hg2 hrs a0 a1 a2 a3 a4 Wz;go_wp2;go_loopw [54] (λi wr=>∃k:Nat,k<=L.length/\i=.int .i64 k/\KP c.Ap.length bl w2 wr/\Gr W1 wr/\GM wr W1.heap.size (.slice (some ⟨g,0,none⟩) c.Ap.length cap) c.Ap.length c.Ap.length (λh t=>Es p (Av ls) L h t k) bl) (λi _=>L.length-(intOf i).toNat)
   case atStart=>exact⟨0,by omega,rfl,.refl _ _ _,Ea.out,HT2.out⟩
   case round =>
    obtain⟨wq,rfl⟩:∃wq,wq=wr:=⟨_,rfl⟩;obtain⟨k,hk,rfl,OQ,hgr,Ob⟩:=hrel;have HKP:=xf OQ;have HGQ:=xf hgr;have HTQ:=xf Ob;have hzq:=OQ.1;by_cases hlk:k<L.length
    .have Kz:=HLN.out _ (yb hlk);have Ta:L[k]?.getD (0,0)=L[k]:=by rw[xi hlk];rfl
     obtain⟨b,o,rfl,Ss,Hm⟩:=Qj.out (λe=>by rw[e] at hlk;simp at hlk);obtain⟨h1,h2⟩:=Hm k _ (xi hlk);have hne:∀h,h<c.Ap.length->bl h≠b:=λh hh e=>by have:=HBL.out h hh;omega
     have d1:=(OQ.cell Ss.2 hne (o+k*2)).trans h1;have d2:=(OQ.cell Ss.2 hne (o+k*2+1)).trans h2;rw[<-Ta] at Kz d1 d2;have HM0:Hid (∀a t,Db p (Av ls) L k 0 a t=Es p (Av ls) L a t k):=xf λa t=>pk p (Av ls) L k a t;have X7:Hid (∀a t,Db p (Av ls) L k (wl (Av ls (L[k]?.getD (0,0)).1.toNat)).length a t=Es p (Av ls) L a t (k+1)):=xf λa t=>qS p (Av ls) L k a t;have UJ:Hid (∀i a t,Db p (Av ls) L k (i+1) a t=Db p (Av ls) L k i a t+if(L[k]?.getD (0,0)).2=(t:Int)/\a≠t/\(wl (Av ls (L[k]?.getD (0,0)).1.toNat))[i]?.getD 0=(a:Int) then JO p (wl (Av ls (L[k]?.getD (0,0)).1.toNat)).length i else 0):=xf λi a t=>pm p (Av ls) L k i a t
     generalize L[k]?.getD (0,0)=q at Kz d1 d2 X7 UJ;obtain⟨q1,q2⟩:=q;obtain⟨qn,rfl⟩:∃j:Nat,q1=j:=⟨q1.toNat,by omega⟩;obtain⟨qf,rfl⟩:∃j:Nat,q2=j:=⟨q2.toNat,by omega⟩;dsimp only at Kz d1 d2 X7 UJ;rw[Int.toNat_natCast] at X7 UJ;have MK:=DX.out.n5;have hqn:qn<5:=by omega
     have hqf:qf<c.Ap.length:=by omega
     have Y2:wq.cell? ⟨w1.heap.size,qn,none⟩=some (.int .u8 (Av ls qn:Nat)):=(hgr.cell (by show w1.heap.size<_;omega)).trans (Nd.out qn hqn);have He:Av ls qn<16:=zI DX.out.h4 (dT FD.out qn);have hxh:Av ls qn<2 ^ c.Ap.length:=dT FD.out qn;generalize Av ls qn=x at Y2 He hxh X7 UJ;obtain⟨W2,hW2⟩:∃W2:World,W2=wq.alloc (.cells #[.int .i64 (qn:Int),.int .i64 (qf:Int)] 157):=⟨_,rfl⟩
     have LA:=xf (fy x W2 He);have hwq1:w1.heap.size<wq.heap.size:=by omega
     have HBX:Hid (W2.cell? ⟨wq.heap.size,1,none⟩=some (.int .i64 (qf:Int))):=xf (by rw[hW2,xj _ _ _ _ rfl];rfl);have ae9:Hid (Gr wq W2):=xf (hW2▸(Gr.refl wq).alloc _);have Ve:Hid (W2.heap.size=wq.heap.size+1):=xf (by rw[hW2];simp);have O7:=xf hW2;clear OQ hgr Ob Hm h1 h2 Ta hW2;go_wp2_with fail;rw[<-O7.out];refine LA.out.mono ?_;rintro e w3 ⟨v3,rfl,E9,hg3⟩;obtain⟨A3,k3,rfl,DW⟩:=DL E9
     have X3:=xf DW;have D8:=xf (ae9.out.trans hg3);have Wy:=xf ((HTQ.out.gr D8.out).congr (M':=λa t=>Db p (Av ls) L k 0 a t) λa t _ _=>(HM0.out a t).symm);have afa:=xf ((hg3.cell (p:=⟨wq.heap.size,1,none⟩) (by show wq.heap.size<_;have:=Ve.out;omega)).trans HBX.out);have hz3:=D8.out.size;have aam:wq.heap.size<W2.heap.size:=by have:=Ve.out;omega
     have hz32:=hg3.size;clear E9 hg3 DW LA d1 d2;go_wp2;go_loopw [65] (λi wr=>∃j:Nat,j<=(wl x).length/\i=.int .i64 j/\KP c.Ap.length bl w3 wr/\Gr W1 wr/\GM wr W1.heap.size (.slice (some ⟨g,0,none⟩) c.Ap.length cap) c.Ap.length c.Ap.length (λa t=>Db p (Av ls) L k j a t) bl) (λi _=>(wl x).length-(intOf i).toNat)
     case atStart=>exact⟨0,by omega,rfl,.refl _ _ _,HGQ.out.trans D8.out,Wy.out⟩
     case round =>
      obtain⟨j,hj,rfl,OQ,FP,OD⟩:=hrel;have HKI:=xf OQ;have Gt:=xf FP;have HTI:=xf OD;have Wa:=OQ.1;by_cases Mz:j<(wl x).length
      .obtain⟨b3,o3,rfl,WA,hc3⟩:=X3.out (λe=>by rw[e] at Mz;simp at Mz);obtain⟨a,ha,YE,hab⟩:=JW (yb Mz);have WC:a<c.Ap.length:=jh hxh hab;have L6:=(OQ.cell WA.2 (λh hh e=>by have:=HBL.out h hh;omega) (o3+j)).trans (hc3 j _ (xi Mz));rw[ha] at L6;have Nb:Hid ((wl x)[j]?.getD 0=(a:Int)):=xf (by rw[xi Mz];exact ha);have hbx:=(OQ.cell (b:=wq.heap.size) (by omega) (λh hh e=>by have:=HBL.out h hh;omega) 1).trans afa.out
       have HMJ:Hid (∀a' t,Db p (Av ls) L k (j+1) a' t=Db p (Av ls) L k j a' t+if(qf:Int)=(t:Int)/\a'≠t/\(a:Int)=(a':Int) then JO p (wl x).length j else 0):=xf λa' t=>by rw[UJ.out,Nb.out]
       have Qn:=cG x;have HPI:Hid (JO p (wl x).length j=p / ((wl x).length:Int)+if(j:Int)<p % ((wl x).length:Int) then 1 else 0):=xf rfl;clear ha;generalize (wl x).length=N at Mz Qn HPI HMJ X7 hj ⊢;clear OQ FP OD;have UH:0<=p / (N:Int):=Int.ediv_nonneg hp.1 (by omega);have hq2:p / (N:Int)<=99:=Int.le_trans (Int.ediv_le_self _ hp.1) hp.2;obtain⟨g',eg,_,hrow⟩:=HTI.out.Mv WC;have eg':g'=g:=by injection eg with e;injection e with e;exact e.symm
       subst eg';obtain⟨hta,htb,htc,htf⟩:=HTI.out.at_ WC hqf;have hmb:=sG hp (Av ls) L k j a qf;by_cases haf:a=qf
       .have hne:((a:Int) != (qf:Int))=false:=by simp[haf]
        have HT5:=xf (HTI.out.congr (M':=λa t=>Db p (Av ls) L k (j+1) a t) λa' t _ _=>by rw[HMJ.out,if_neg (by omega)];simp);clear hrow htc htf;by_cases WE:(j:Int)<p % (N:Int)
        all_goals
         go_wp2;go_roundw
         case rel=>exact⟨j+1,by omega,by go_num,HKI.out,Gt.out,HT5.out⟩
         case measure=>simp[intOf];omega
       .have hne:((a:Int) != (qf:Int))=true:=by simp;omega
        have Qo:Hid (∀y:Int,y=JO p N j->GM (wr.setCell ⟨bl a,qf,none⟩ (.int .i64 (Db p (Av ls) L k j a qf+y))) W1.heap.size (.slice (some ⟨g',0,none⟩) c.Ap.length cap) c.Ap.length c.Ap.length (λa t=>Db p (Av ls) L k (j+1) a t) bl):=xf λy hy=>HTI.out.set WC hqf _ λa' t' _ _=>by
         rw[HMJ.out];by_cases e:a'=a/\t'=qf
         .obtain⟨rfl,rfl⟩:=e;rw[if_pos ⟨rfl,haf,rfl⟩,if_pos ⟨rfl,rfl⟩,hy]
         .rw[if_neg (λh=>e (by omega)),if_neg e];omega
        have aaB:=xf (λv=>HKI.out.trans (KP.set (w:=wr) WC qf v));have aaC:=xf (λv=>Gt.out.setCell (p:=⟨bl a,qf,none⟩) hta v);have hblw:=htb;generalize Db p (Av ls) L k j a qf=M0 at htc hmb Qo;by_cases WE:(j:Int)<p % (N:Int)
        .have HY:=xf (Qo.out (p / (N:Int)+1) (by rw[HPI.out,if_pos WE]));go_wp2;go_region
         all_goals
          go_wp2;go_roundw
          case rel=>exact⟨j+1,by omega,by go_num,(aaB.out _).drew,(aaC.out _).drew,HY.out.drew⟩
          case measure=>simp[intOf];omega
        .have HY:=xf (Qo.out (p / (N:Int)) (by rw[HPI.out,if_neg WE];omega));go_wp2;go_region
         all_goals
          go_wp2;go_roundw
          case rel=>exact⟨j+1,by omega,by go_num,(aaB.out _).drew,(aaC.out _).drew,HY.out.drew⟩
          case measure=>simp[intOf];omega
      .have Ng:j=(wl x).length:=by omega
       subst Ng;have HT6:=xf (HTI.out.congr (M':=λa t=>Es p (Av ls) L a t (k+1)) λa' t _ _=>X7.out a' t);go_wp2;go_roundw
       case rel=>exact⟨k+1,by omega,by go_num,HKP.out.trans ((KP.gr D8.out).trans HKI.out),Gt.out,HT6.out⟩
       case measure=>simp[intOf];omega
    .have E4:k=L.length:=by omega
     subst E4;have HTF:=xf (HTQ.out.Ll);clear OQ hgr Ob;go_wp2;go_ret2;exact⟨B4.out.trans (Ch.out.trans HGQ.out),_,_,rfl,by rw[HOL.out];exact HTF.out⟩
end Go.Proofs.Ao
