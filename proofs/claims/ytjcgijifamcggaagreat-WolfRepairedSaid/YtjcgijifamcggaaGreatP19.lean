/- Parts of the proof. -/
import Derived.Test.YtjcgijifamcggaaGreatP18
import Derived.Test.YtjcgijifamcggaaGreatP14
import Derived.Test.YtjcgijifamcggaaGreatP15
import Derived.Test.YtjcgijifamcggaaGreatP00
import Derived.Test.YtjcgijifamcggaaGreatP01
import Derived.Shelf.Slices.Clone
set_option linter.all false
set_option maxHeartbeats 3200000
set_option maxRecDepth 1000000
namespace Go.Proofs.YtjcgijifamcggaaGreat
open Go.RowKit Go.Sq
def kB {n:Nat}{rs:List (Int×Int)}(h:gQ n rs=0):∀k,k<rs.length->J4 n rs k=0:=by
 have key:∀l:List Int,bz l=0->∀x∈l,x=0:=λl h x hx=>by
  unfold bz at h;cases hf:l.find? (λx=>x != 0) with
  |none=>simpa using zL.1 hf x hx
  |some y =>
   rw[hf] at h;have:=List.find?_some hf;simp at this;exact absurd h this
 intro k hk;exact key _ h _ (xU.2 ⟨k,by simpa using hk,rfl⟩)
def sn {n:Nat}{rs:List (Int×Int)}{k:Nat}(h:J4 n rs k=0) :
  Ej (rs[k]?.getD (0,0)).1 0 (n-1)=true/\Ej (rs[k]?.getD (0,0)).2 0 60=true/\(rs.take k).any (·.1==(rs[k]?.getD (0,0)).1)=false:=by
 unfold J4 at h;cases h1:Ej (rs[k]?.getD (0,0)).1 0 (n-1) with
 |false=>rw[h1,if_pos rfl] at h;cases h
 |true =>
  cases h2:Ej (rs[k]?.getD (0,0)).2 0 60 with
  |false=>rw[h1,h2,if_neg (by simp),if_pos rfl] at h;cases h
  |true =>
   cases h3:(rs.take k).any (·.1==(rs[k]?.getD (0,0)).1) with
   |true=>rw[h1,h2,h3,if_neg (by simp),if_neg (by simp),if_pos rfl] at h;cases h
   |false=>exact⟨rfl,rfl,rfl⟩
def _root_.Go.Sq.FB.take {w:World}{B:Nat}{A:Option Addr}{l:List (Int×Int)}(h:FB w B A l)(k:Nat):FB w B A (l.take k):=λhn=>by
 obtain⟨b,o,e,hb,hc⟩:=h (λe=>hn (by rw[e];simp))
 exact⟨b,o,e,hb,λi x hx=>hc i x (by
  rw[zx] at hx;split at hx
  .exact hx
  .cases hx)⟩
def oN {W:World}{cb:Nat}{c:AW}{nA hA:Option Addr}{nc hc:Nat}(h:CY W W.heap.size cb c nA hA nc hc):CY W.drew W.drew.heap.size cb c nA hA nc hc:=(h.keep (w':=W.drew) λ_ _ _=>rfl:CY W.drew W.heap.size cb c nA hA nc hc)
def ur {W:World}{A:Option Addr}{l:List Int}(h:RI W W.heap.size A l):RI W.drew W.drew.heap.size A l:=h
def so (nA hA gA rA:Option Addr)(nc hc gc rc:Nat)(c:AW)(ls:List (List Int))(rs:List (Int×Int))(w:World)(B:Nat)(hB:B<=w.heap.size)(hn:RI w B nA c.AK)(hh:Dr w B hA c.AH)(hg:CR w B gA ls)(hr:FB w B rA rs)
  (IZ:c.AK.length<=4611686018427387904) (hl2:c.AH.length<=4611686018427387904) (C7:∀h∈c.AH,h.off.length<=4611686018427387904) (L8:ls.length<=4611686018427387904) (hl4:∀x∈ls,x.length<=4611686018427387904) (hl5:rs.length<=4611686018427387904) (P5:rs.length<=rc)
  (hF:Ba c ls=0) (hR:gQ c.AK.length rs=0) :
  Calls AG 100 #[Bp nA hA c nc hc,.slice gA ls.length gc,.slice rA rs.length rc] w λe w'=>Gr w w'/\∃cb A k,e=.returned (.tuple #[.pointer (some ⟨cb,0,none⟩),Cc (AP ls),.slice A c.AK.length k,.int .i64 0]) /\
   CY w' w'.heap.size cb c nA hA nc hc/\RI w' w'.heap.size A (B7 c.AK.length rs rs.length):=by
 have HR:=xl hr;have HRE:=xl (kB hR);unfold Bp;obtain⟨W0,hW0⟩:∃W0:World,W0=(w.alloc (.cells #[.slice nA c.AK.length nc,.slice hA c.AH.length hc] 27)).alloc (.cells #[.int .u8 0,.int .u8 0,.int .u8 0,.int .u8 0,.int .u8 0] 51):=⟨_,rfl⟩;have hg0:Gr w W0:=hW0▸((Gr.refl w).alloc _).alloc _;have hz0:W0.heap.size=w.heap.size+2:=by rw[hW0];simp
 have HW:=xl hW0;have Gp:=xl (iQ nA hA gA nc hc gc c ls W0 B (by omega) (hn.gr hB hg0) (hh.keep λb o hb=>hg0.cell (xx hb hB)) (hg.gr hB hg0) IZ hl2 C7 L8 hl4);have Ds:=xl hg0;have hcm:W0.cell? ⟨w.heap.size,0,none⟩=some (.slice nA c.AK.length nc)/\W0.cell? ⟨w.heap.size,1,none⟩=some (.slice hA c.AH.length hc):=by
  rw[hW0];constructor
  all_goals rw[xO _ _ _ (by simp),xu _ _ _ _ rfl];rfl
 have N9:=xl hcm;have LC:∀i,i<5->W0.cell? ⟨w.heap.size+1,i,none⟩=some (.int .u8 ((λ_=>0:Bt) i:Nat))/\W0.frozen? ⟨w.heap.size+1,i,none⟩=false:=λi hi=>by
  rw[hW0,xu _ _ _ _ (by simp),yi _ _ _ _ (by simp)]
  match i,hi with
  |0,_=>exact⟨rfl,rfl⟩
  |1,_=>exact⟨rfl,rfl⟩
  |2,_=>exact⟨rfl,rfl⟩
  |3,_=>exact⟨rfl,rfl⟩
  |4,_=>exact⟨rfl,rfl⟩
 have HZ5:=xl LC;have JD:=xl hF;clear hW0 hg0 hn hh hg hr hl4 C7 hcm LC hF hR;go_enter Sq.func100,Tryz.ntmps100;unfold Bp at Gp;go_wp2_with fail;rw[<-HW.out];refine Gp.out.mono ?_;rintro e w1 ⟨hg1,Gq⟩;rw[if_pos JD.out] at Gq;obtain⟨cb,g,cap,rfl,hcb,SK,hK⟩:=Gq
 have EZ:=xl (AW.Ok.of (show Bi c=0 by
  have:=JD.out;unfold Ba at this;split at this
  .exact absurd this (by assumption)
  .simpa using ‹¬Bi c≠0›))
 have Su:=EZ.out.n5;have Hu:=EZ.out.n1;obtain⟨W1,hW1⟩:∃W1:World,W1=w1.alloc (.cells #[.int .u8 (AP ls 0),.int .u8 (AP ls 1),.int .u8 (AP ls 2),.int .u8 (AP ls 3),.int .u8 (AP ls 4)] 52):=⟨_,rfl⟩;have Hr:Gr w1 W1:=hW1▸(Gr.refl w1).alloc _;have hz1:W1.heap.size=w1.heap.size+1:=by rw[hW1];simp
 have hzz:=hg1.size;have Yy:Gr W0 W1:=hg1.trans Hr;have Df:=xl Yy;have HK:=xl hK;have Qt:=xl Hr;have P6:Hid (∀i,i<5->W1.cell? ⟨w1.heap.size,i,none⟩=some (.int .u8 (AP ls i:Nat))):=xl λi hi=>by
  rw[hW1,xu _ _ _ _ (by simp)]
  match i,hi with
  |0,_=>rfl
  |1,_=>rfl
  |2,_=>rfl
  |3,_=>rfl
  |4,_=>rfl
 have Um:Hid (∀i,i<5->W1.cell? ⟨w.heap.size+1,i,none⟩=some (.int .u8 ((λ_=>0:Bt) i:Nat))/\W1.frozen? ⟨w.heap.size+1,i,none⟩=false):=xl λi hi=>by
  obtain⟨a,b⟩:=HZ5.out i hi;exact⟨(Yy.cell (by show w.heap.size+1<_;omega)).trans a,(Yy.frozen (by show w.heap.size+1<_;omega)).trans b⟩
 have Qu:Hid (W1.cell? ⟨w.heap.size,0,none⟩=some (.slice nA c.AK.length nc)/\W1.cell? ⟨w.heap.size,1,none⟩=some (.slice hA c.AH.length hc)):=xl
  ⟨(Yy.cell (by show w.heap.size<_;omega)).trans N9.out.1,(Yy.cell (by show w.heap.size<_;omega)).trans N9.out.2⟩
 have Mj:=xl hW1;have hc0:w1.cell? ⟨w.heap.size,0,none⟩=some (.slice nA c.AK.length nc):=(hg1.cell (by show w.heap.size<_;omega)).trans N9.out.1;have EA:w.heap.size<w1.heap.size:=by omega
 have GL:=λw=>jp c.AK.length w (by omega);clear hg1 hK Hr Yy Gp hW1;unfold Cc;go_wp2;rw[<-Mj.out];clear hc0;go_loopw [33] (λi wr=>∃k:Nat,k<=rs.length/\i=.int .i64 k/\Gr W1 wr/\W1.heap.size<wr.heap.size/\∀j,j<c.AK.length->wr.cell? ⟨W1.heap.size,j,none⟩=some (.int .i64 (bm rs k j))/\wr.frozen? ⟨W1.heap.size,j,none⟩=false) (λi _=>rs.length-(intOf i).toNat)
 case atStart =>
  refine⟨0,by omega,rfl,(Gr.refl W1).alloc _,by simp,λj hj=>⟨?_,?_⟩⟩
  .rw[xu _ _ _ _ (by simp),fe _ _ hj];rfl
  .rw[yi _ _ _ _ (by simp)]
 case round =>
  obtain⟨k,hk,rfl,hgr,Yq,hcs⟩:=hrel;have Fp:=xl hgr;have Hc:=xl hcs;have hc0:=(hgr.cell (by show w.heap.size<_;omega)).trans Qu.out.1;have Tz:=hgr.size;clear hgr hcs;by_cases hlt:k<rs.length
  .have U5:=xl (HR.out.gr hB (Ds.out.trans (Df.out.trans Fp.out)));obtain⟨b,o,rfl,hb,h1,h2⟩:=U5.out.at_ hlt;have hro:=sn (HRE.out k hlt);have HWA:Hid (∀j:Nat,bm rs (k+1) j=if(rs[k]?.getD (0,0)).1=(j:Int) then(rs[k]?.getD (0,0)).2 else bm rs k j):=xl λj=>rfl;generalize rs[k]?.getD (0,0)=x at h1 h2 hro HWA;obtain⟨xn,xv⟩:=x;obtain⟨r1,r2,r3⟩:=hro;dsimp only at h1 h2 r1 r2 r3 HWA;have U6:Hid (∀W,Calls AG 18 #[.int .i64 xn,.int .i64 0,.int .i64 (c.AK.length-1)] W λe w'=>e=.returned (.bool true)/\W=w'):=xl λW=>by rw[<-r1];exact bI _ _ _ W
   have Jn:Hid (∀W,Calls AG 18 #[.int .i64 xv,.int .i64 0,.int .i64 60] W λe w'=>e=.returned (.bool true)/\W=w'):=xl λW=>by rw[<-r2];exact bI _ _ _ W
   obtain⟨j,rfl⟩:∃j:Nat,xn=j:=⟨xn.toNat,by simp[Ej] at r1;omega⟩;have I4:j<c.AK.length:=by simp[Ej] at r1;omega
   obtain⟨W2,hW2⟩:∃W2:World,W2=wr.alloc (.cells #[.int .i64 (j:Int),.int .i64 xv] 85):=⟨_,rfl⟩;have hg2:Gr wr W2:=hW2▸(Gr.refl wr).alloc _;have hz2:W2.heap.size=wr.heap.size+1:=by rw[hW2];simp
   have hbx:W2.cell? ⟨wr.heap.size,0,none⟩=some (.int .i64 j)/\W2.cell? ⟨wr.heap.size,1,none⟩=some (.int .i64 xv):=by
    rw[hW2,xu _ _ _ _ rfl,xu _ _ _ _ rfl];exact⟨rfl,rfl⟩
   have WV:=qw (some ⟨b,o,none⟩) rc wr.heap.size j (rs.take k) W2 B (by omega) ((U5.out.take k).gr (by omega) hg2) (by simp;omega) (by omega) hbx.1;have Kt:(rs.take k).length=k:=by simp;omega
   rw[Kt,r3] at WV;have WW:=xl WV;have HBX:=xl hbx;have EX:=xl hg2;have Mp:=xl hW2;have hwr:w.heap.size<wr.heap.size:=by omega
   have hkc:((k:Nat):Int)<=(rc:Int):=by omega
   clear WV hbx hg2 hW2 r1 r2 r3 Kt;go_wp2_with fail;refine(U6.out _).mono ?_;rintro e w' ⟨rfl,rfl⟩;go_wp2_with fail;refine(Jn.out _).mono ?_;rintro e w' ⟨rfl,rfl⟩;go_wp2_with fail;rw[<-Mp.out];refine WW.out.mono ?_;rintro e w3 ⟨rfl,hg3⟩;have Qv:=EX.out.trans hg3;have DW:=xl Qv;have hz3:=hg3.size;have d0:w3.cell? ⟨wr.heap.size,0,none⟩=some (.int .i64 j):=(hg3.cell (by show wr.heap.size<_;omega)).trans HBX.out.1
   have d1:w3.cell? ⟨wr.heap.size,1,none⟩=some (.int .i64 xv):=(hg3.cell (by show wr.heap.size<_;omega)).trans HBX.out.2;have WX:∀i,i<c.AK.length->w3.cell? ⟨W1.heap.size,i,none⟩=some (.int .i64 (bm rs k i))/\w3.frozen? ⟨W1.heap.size,i,none⟩=false:=λi hi=>⟨(Qv.cell (by show W1.heap.size<_;omega)).trans (Hc.out i hi).1,(Qv.frozen (by show W1.heap.size<_;omega)).trans (Hc.out i hi).2⟩;have SG:=xl WX
   obtain⟨e1,e2⟩:=WX j I4;rw[hz1] at e1 e2;have TL:Hid (∀i,i<c.AK.length->(w3.setCell ⟨w1.heap.size+1,j,none⟩ (.int .i64 xv)).cell? ⟨W1.heap.size,i,none⟩=some (.int .i64 (bm rs (k+1) i))/\(w3.setCell ⟨w1.heap.size+1,j,none⟩ (.int .i64 xv)).frozen? ⟨W1.heap.size,i,none⟩=false):=xl λi hi=>by
    rw[yt,HWA.out];refine⟨?_,(SG.out i hi).2⟩;rw[hz1];by_cases e:i=j
    .subst e;rw[xJ _ _ _ e1,if_pos rfl]
    .rw[xB _ _ _ _ (by simp[Ne.symm e]),if_neg (by omega)];have:=(SG.out i hi).1
     rwa [hz1] at this
   have Yz:Hid (Gr W1 (w3.setCell ⟨w1.heap.size+1,j,none⟩ (.int .i64 xv))):=xl ((Fp.out.trans Qv).setCell (p:=⟨w1.heap.size+1,j,none⟩) (by show _<=w1.heap.size+1;omega) _);clear hg3 Qv WX hc0;go_wp2;go_roundw
   case rel=>exact⟨k+1,by omega,by go_num,Yz.out,by simp[World.setCell];omega,TL.out⟩
   case measure=>simp[intOf];omega
  .have Ik:k=rs.length:=by omega
   subst Ik
   have Ea:∀W:World,wr.heap.size<=W.heap.size->(∀o,W.cell? ⟨w1.heap.size+1,o,none⟩=wr.cell? ⟨w1.heap.size+1,o,none⟩)->RI W W.heap.size (some ⟨w1.heap.size+1,0,none⟩) (B7 c.AK.length rs rs.length):=λW hW hk _=>⟨_,0,rfl,by omega,λi x hx=>by
    have hi:i<c.AK.length:=by have:=(xS.1 hx).1;rwa [dD] at this
    rw[oL hi] at hx;cases hx;rw[xM,hk,<-hz1]
    exact(Hc.out i hi).1⟩
   have IG:=xl Ea;have Ij:∀W:World,wr.heap.size<=W.heap.size->(∀b o,b≠w.heap.size+1->W.cell? ⟨b,o,none⟩=wr.cell? ⟨b,o,none⟩)->CY W W.heap.size cb c nA hA nc hc:=λW hW hk =>
    (HK.out.keep (w':=W) (by omega) λb o hb=>(hk b o λe=>by rcases hb with h|h|h<;>omega).trans ((Qt.out.trans Fp.out).cell (p:=⟨b,o,none⟩) (HK.out.lt b hb))).MW
   have WY:=xl Ij;have HPB:=xl (λ(b o:Nat) (hb:b≠w.heap.size+1)=>xN (a:=⟨b,o,none⟩) (jq wr (w.heap.size+1) (.int .u8 (AP ls 0:Nat)) (.int .u8 (AP ls 1:Nat)) (.int .u8 (AP ls 2:Nat)) (.int .u8 (AP ls 3:Nat)) (.int .u8 (AP ls 4:Nat)) hb));have HPZ:=xl (kw wr (w.heap.size+1) (.int .u8 (AP ls 0:Nat)) (.int .u8 (AP ls 1:Nat)) (.int .u8 (AP ls 2:Nat)) (.int .u8 (AP ls 3:Nat)) (.int .u8 (AP ls 4:Nat)))
   obtain⟨a0,a1,a2,a3,a4⟩:=Il (w:=wr) (b:=w1.heap.size) (r:=AP ls) λi hi=>(Fp.out.cell (by show w1.heap.size<_;omega)).trans (P6.out i hi);have LC:∀i,i<5->wr.cell? ⟨w.heap.size+1,i,none⟩=some (.int .u8 ((λ_=>0:Bt) i:Nat))/\wr.frozen? ⟨w.heap.size+1,i,none⟩=false:=λi hi=>by
    obtain⟨a,b⟩:=Um.out i hi;exact⟨(Fp.out.cell (by show w.heap.size+1<_;omega)).trans a,(Fp.out.frozen (by show w.heap.size+1<_;omega)).trans b⟩
   obtain⟨b0,c0⟩:=LC 0 (by omega);obtain⟨b1,c1⟩:=LC 1 (by omega);obtain⟨b2,c2⟩:=LC 2 (by omega);obtain⟨b3,c3⟩:=LC 3 (by omega);obtain⟨b4,c4⟩:=LC 4 (by omega);have TE:=xl (dQ (λi hi=>(LC i hi).1) (.int .u8 (AP ls 0:Nat)) (.int .u8 (AP ls 1:Nat)) (.int .u8 (AP ls 2:Nat)) (.int .u8 (AP ls 3:Nat)) (.int .u8 (AP ls 4:Nat)));have Mf:=xl (fB (Ds.out.trans (Df.out.trans Fp.out)) (b:=w.heap.size+1) (by omega) (.int .u8 (AP ls 0:Nat)) (.int .u8 (AP ls 1:Nat)) (.int .u8 (AP ls 2:Nat)) (.int .u8 (AP ls 3:Nat)) (.int .u8 (AP ls 4:Nat)))
   obtain⟨Wf,hWf⟩:∃Wf:World,Wf=E0 wr (w.heap.size+1) (.int .u8 (AP ls 0:Nat)) (.int .u8 (AP ls 1:Nat)) (.int .u8 (AP ls 2:Nat)) (.int .u8 (AP ls 3:Nat)) (.int .u8 (AP ls 4:Nat)):=⟨_,rfl⟩;rw[<-hWf] at HPB HPZ Mf;have HF1:=xl (oN (WY.out Wf (yP HPZ.out.symm) HPB.out));have Ob:=xl (ur (IG.out Wf (yP HPZ.out.symm) λo=>HPB.out _ o (by omega)));have HF0:=xl Mf.out.drew;rw[hWf] at HF0 HF1 Ob
   unfold E0 at HF0 HF1 Ob;clear hWf;clear Mf HPB HPZ WY IG LC Ea hc0 Ij;go_wp2;go_region
   all_goals
    go_wp2;obtain⟨s0,s1,s2,s3,s4⟩:=TE.out;unfold E0 at s0 s1 s2 s3 s4;refine bodyPost_ret (v:=.tuple #[.pointer (some ⟨cb,0,none⟩),Cc (AP ls),.slice (some ⟨w1.heap.size+1,0,none⟩) c.AK.length c.AK.length,.int .i64 0]) (by simp[results,Tryz.results100,go_sem,Cc,s0,s1,s2,s3,s4]) rfl ⟨?_,cb,_,_,rfl,?_,?_⟩
    .exact HF0.out
    .exact HF1.out
    .exact Ob.out
def us (A:Option Addr)(c:Nat)(l:List Int)(w:World)(B:Nat)(h:RI w B A l)(hB:B<=w.heap.size)(hl:l.length<=1048576) :
  Calls AG 21 #[.slice A l.length c] w λe w'=>∃v,e=.returned v/\w'.ownsRow w.heap.size 3 1 v l.length (l.map (Value.int .i64))/\Gr w w':=by
 obtain⟨i0,hi,hz0,hz1,hz2⟩:=info_parts Ac;have HR:=xl h;clear h;have q22:∀(w:World) (a:Option Addr) (n c n' c':Nat),(binOp .eql 22 (.slice a n c) (.slice none n' c')).run AG w=.ok (.bool a.isNone) w:=λw a n c n' c'=>Lib.run_eql_slice_nil w _ _ a n c n' c' Sq.underlying22;cases A with
 |none =>
  have hl0:l=[]:=by
   cases l with
   |nil=>rfl
   |cons x l=>obtain⟨_,_,e,_⟩:=HR.out (by simp);cases e
  subst hl0;go_enter Sq.func21,Tryz.ntmps21;go_wp2;go_ret;exact⟨_,rfl,x9 _ _ _ _,.refl _⟩
 |some ad =>
  have hcell:∀j u,(l.map (Value.int .i64))[j]?=some u->w.cell? (ad.add j)=some u/\(ad.add j).block<w.heap.size:=λj u hj=>by
   rw[yw] at hj;cases hx:l[j]? with
   |none=>rw[hx] at hj;cases hj
   |some x =>
    rw[hx] at hj;obtain⟨b,o,e,hb,hc⟩:=HR.out (λe=>by rw[e] at hx;simp at hx);obtain rfl:ad=⟨b,o,none⟩:=by injection e
    have e2:(⟨b,o,none⟩:Addr).add j=⟨b,o+j,none⟩:=Addr.add_lit _ _ _;rw[e2];exact⟨by rw[hc j x hx];exact hj,by show b<_;omega⟩
  have HC:=xl hcell;clear hcell;go_enter Sq.func21,Tryz.ntmps21;go_wp2_with (at_builtin;refine Bx rfl _ _ 22 rfl w.heap.size 3 i0 (.int .i64 0) 1 8 Sq.underlying22 hi hz0 hz1 hz2 rfl (by decide) _ _ _ rfl (zQ w #[] 0 (xp _) (xQ _) rfl) ad l.length c (l.map (Value.int .i64)) rfl ?qc1 ?qc2 ?qc3 ?qc4 ?qc5 ?qc6 ?_)
  case qc1=>simp
  case qc2=>intro j u hj;exact(xN (za _ _ _ (HC.out j u hj).2)).trans (HC.out j u hj).1
  case qc3=>intro u hu;obtain⟨x,_,rfl⟩:=xU.1 hu;rfl
  case qc4=>unfold maxLen;omega
  case qc5=>omega
  case qc6=>simp
  intro v' w1 hown hgrow hd;have hG:=xl (((Gr.refl w).alloc _).grown hgrow hd (by intro k hk;simp[Value.ownBlock] at hk;omega));have hO:=xl hown;clear hown hgrow hd;go_wp2;go_ret;exact⟨v',rfl,by simpa using hO.out,hG.out⟩
def Ai:(AG.info? 58).map (λi=>(i.zero,i.size,i.bytes))=some (some (.agg #[.int .i64 0,.int .i64 0,.int .i64 0,.slice none 0 0]),4,48):=by
 rw[zZ];kernel_rfl
def Fo (w:World)(b o n:Nat):List Value:=(List.range (n*4)).map λj=>(w.cell? ⟨b,o+j,none⟩).getD (.int .i64 0)
def ff {w:World}{b o n j:Nat}(hj:j<n*4):(Fo w b o n)[j]?=some ((w.cell? ⟨b,o+j,none⟩).getD (.int .i64 0)):=by simp[Fo,hj]
def FQ (w:World)(b o n:Nat):(Fo w b o n).length=n*4:=by simp[Fo]
def hcell {w:World}{B b o:Nat}{l:List BH}(hc:∀(i:Nat) (h:BH),l[i]?=some h->L3 w B b (o+i*4) h){j:Nat}(hj:j<l.length*4):∃u,w.cell? ⟨b,o+j,none⟩=some u/\u.oneCell'=true:=by
 obtain⟨h1,h2,h3,A,c,h4,_⟩:=hc (j / 4) _ (xq (show j / 4<l.length by omega));have:j % 4=0\/j % 4=1\/j % 4=2\/j % 4=3:=by omega
 rcases this with e|e|e|e
 .rw[show o+j=o+j / 4*4 by omega];exact⟨_,h1,rfl⟩
 .rw[show o+j=o+j / 4*4+1 by omega];exact⟨_,h2,rfl⟩
 .rw[show o+j=o+j / 4*4+2 by omega];exact⟨_,h3,rfl⟩
 .rw[show o+j=o+j / 4*4+3 by omega];exact⟨_,h4,rfl⟩
def sr (b o c:Nat)(l:List BH)(w:World)(B:Nat)(hb:b<B)(hB:B<=w.heap.size)(hc:∀(i:Nat) (h:BH),l[i]?=some h->L3 w B b (o+i*4) h)(hn:0<l.length)(hl:l.length<=1048576) :
  Calls AG 19 #[.slice (some ⟨b,o,none⟩) l.length c] w λe w'=>∃g cap,e=.returned (.slice (some ⟨g,0,none⟩) l.length cap)/\Gr w w'/\w.heap.size<=g/\g<w'.heap.size/\(∀i,w'.frozen? ⟨g,i,none⟩=false) /\
   ∀(i:Nat) (h:BH),l[i]?=some h->L3 w' B g (i*4) h:=by
 obtain⟨i0,hi,hz0,hz1,hz2⟩:=info_parts Ai;have HC:=xl hc;clear hc;have q22:∀(w:World) (a:Option Addr) (n c n' c':Nat),(binOp .eql 25 (.slice a n c) (.slice none n' c')).run AG w=.ok (.bool a.isNone) w:=λw a n c n' c'=>Lib.run_eql_slice_nil w _ _ a n c n' c' Sq.underlying25;go_enter Sq.func19,Tryz.ntmps19;go_wp2_with (at_builtin;refine Bx rfl _ _ 25 rfl w.heap.size 58 i0 _ 4 48 Sq.underlying25 hi hz0 hz1 hz2 rfl (by decide) _ _ _ rfl (zQ w #[] 0 (xp _) (xQ _) rfl) ⟨b,o,none⟩ l.length c (Fo w b o l.length) rfl ?qc1 ?qc2 ?qc3 ?qc4 ?qc5 ?qc6 ?_)
 case qc1=>exact FQ _ _ _ _
 case qc2 =>
  intro j u hj;have hlt:j<l.length*4:=by have:=(xS.1 hj).1;rwa [FQ] at this
  rw[ff hlt] at hj;obtain⟨v,hv,_⟩:=hcell HC.out hlt;rw[hv] at hj;rw[Addr.add_lit,xN (za _ _ _ (show b<w.heap.size by omega)),hv];exact hj
 case qc3 =>
  intro u hu;obtain⟨j,hj,rfl⟩:=xU.1 hu;obtain⟨v,hv,h1⟩:=hcell HC.out (yb.1 hj);rw[hv];exact h1
 case qc4=>unfold maxLen;omega
 case qc5=>omega
 case qc6=>simp
 intro v' w1 hown hgrow hd;have hG:=xl (((Gr.refl w).alloc _).grown hgrow hd (by intro k hk;simp[Value.ownBlock] at hk;omega));have hown:w1.ownsRow w.heap.size 58 4 v' l.length (Fo w b o l.length):=by simpa using hown
 obtain⟨g,cap,rfl,_,_⟩:=hown.form hn;have hO:=xl hown;clear hgrow hd hown;go_wp2;go_ret;refine⟨g,cap,rfl,hG.out,(hO.out.lt g rfl).1,(hO.out.lt g rfl).2,λi=>?_,λi h hi=>?_⟩
 .rcases hO.out.2 with⟨h,_⟩|⟨g',c',cur,h,_,hb,_⟩
  .cases h
  .obtain⟨rfl⟩:g=g':=by injection h with h1;injection h1 with h2;injection h2
   simp[World.frozen?,hb]
 .have YA:i<l.length:=(xS.1 hi).1;have key:∀k u,k<4->w.cell? ⟨b,o+i*4+k,none⟩=some u->w1.cell? ⟨g,i*4+k,none⟩=some u:=λk u hk hu=>by
   have hlt:i*4+k<l.length*4:=by omega
   have:=hO.out.cells (g:=g) rfl (i*4+k) u (by rw[ff hlt,<-zu,hu];rfl)
   rwa [Addr.add_lit,xM] at this
  obtain⟨h1,h2,h3,A,c',h4,h5⟩:=HC.out i h hi;exact⟨key 0 _ (by omega) h1,key 1 _ (by omega) h2,key 2 _ (by omega) h3,A,c',key 3 _ (by omega) h4,h5.gr hB hG.out⟩
end Go.Proofs.YtjcgijifamcggaaGreat
namespace Go.Sq
def Fa (h:BH)(A:Option Addr)(c:Nat):List Value:=[.int .i64 h.heads,.int .i64 h.DC,.int .i64 h.most,.slice A h.off.length c,.int .i64 h.heads]
end Go.Sq
namespace Go.Proofs.YtjcgijifamcggaaGreat
open Go.RowKit Go.Sq
def Ay:(AG.info? 202).map (λi=>(i.zero,i.size,i.bytes))=some (some (.agg #[.int .i64 0,.int .i64 0,.int .i64 0,.slice none 0 0,.int .i64 0]),5,56):=by
 rw[zZ];kernel_rfl
def vP {w:World}{ops:Array Oper}{rest:List Oper}{o:Oper}{a:Act}{Q:Exit->Act->World->Prop}(hgd:o.guard=none)(s x:Operand)(ho:o.op=.call { callee:=.builtin .append,args:=#[s,x],argTypes:=#[198,198] })
  (base:Nat) (v:Value) (n:Nat) (xs:List Value) (hs:a.eval s=v) (hown:w.ownsRow base 202 5 v n xs) (ad:Addr) (c:Nat) (news:List Value) (hx:a.eval x=.slice (some ad) 1 c) (h5:news.length=5) (hc:∀(j:Nat) (u:Value),news[j]?=some u->w.cell? (ad.add j)=some u) (h1:∀u∈news,u.oneCell'=true)
  (hn:n<=1048576) (hbase:base<=w.heap.size) (h:∀v' w',w'.ownsRow base 202 5 v' (n+1) (xs++news)->w.grownBy w' v.ownBlock->w.drawn<=w'.drawn->wpList AG ops Q rest (a.put o.dst v') w'):wpList AG ops Q (o::rest) a w:=by
 obtain⟨i0,hi,hz0,hz1,hz2⟩:=info_parts Ay;exact Bx hgd s x 198 ho base 202 i0 _ 5 56 ((Sq.underlying 198).trans Tryz.underlying198) hi hz0 hz1 hz2 rfl (by decide) v n xs hs hown ad 1 c news hx (by omega) hc h1 (by unfold maxLen;omega) (by omega) hbase h
def su (cb:Nat)(nA hA:Option Addr)(nc hc:Nat)(c:AW)(w:World)(B:Nat)(hB:B<=w.heap.size)(h:CY w B cb c nA hA nc hc)(hl:c.AH.length<=1048576) :
  Calls AG 138 #[.pointer (some ⟨cb,0,none⟩)] w λe w'=>∃v xs,e=.returned v/\w'.ownsRow w.heap.size 202 5 v c.AH.length xs/\Gr w w'/\∀i,i<c.AH.length->∃A m,∀j,j<5->xs[i*5+j]?=(Fa (c.h i) A m)[j]?:=by
 have hc1:=h.c1;have hlt:=h.lt;have HH:=xl h.Ct;clear h;go_enter Sq.func138,Tryz.ntmps138;go_wp2;go_loopw [3,13] (λv i wr=>∃k:Nat,k<=c.AH.length/\i=.int .i64 k/\Gr w wr/\∃xs,wr.ownsRow w.heap.size 202 5 v k xs/\∀i,i<k->∃A m,∀j,j<5->xs[i*5+j]?=(Fa (c.h i) A m)[j]?) (λ_ i _=>c.AH.length-(intOf i).toNat)
 case atStart=>exact⟨0,by omega,rfl,.refl _,[],x9 _ _ _ _,λi hi=>absurd hi (by omega)⟩
 case round =>
  obtain⟨k,hk,rfl,hg,xs,hown,SH⟩:=hrel;have HG:=xl hg;have HX:=xl SH;clear hg SH;by_cases afR:k<c.AH.length
  .obtain⟨b,o,rfl,hb,h0,h1,h2,A_,m,h3,_⟩:=(HH.out.keep (w':=wr) λb o hb=>HG.out.cell (xx hb hB)).at_ afR;have hz:=HG.out.size;go_wp2_with (at_builtin;refine vP rfl _ _ rfl w.heap.size _ _ _ rfl ((hown.alloc _).alloc _ |>.alloc _) ⟨wr.heap.size+1+1,0,none⟩ 1 (Fa (c.h k) A_ m) rfl rfl ?c1 ?c2 ?c3 ?c4 ?_)
   case c1 =>
    intro j u hj;rw[Addr.add_lit,xM,xu _ _ _ _ (by simp)]
    match j,hj with
    |0,hj=>exact hj
    |1,hj=>exact hj
    |2,hj=>exact hj
    |3,hj=>exact hj
    |4,hj=>exact hj
    |j+5,hj=>simp[Fa] at hj
   case c2=>intro u hu;simp[Fa] at hu;rcases hu with rfl|rfl|rfl|rfl|rfl<;>rfl
   case c3=>omega
   case c4=>simp;omega
   intro v' w3 hown' hgrow hd;have DW:=xl ((((HG.out.alloc _).alloc _).alloc _).grown hgrow hd λq hq=>(hown.lt q hq).1);have hlen:xs.length=k*5:=hown.1;have HX3:Hid (∀i,i<k+1->∃A m',∀j,j<5->(xs++Fa (c.h k) A_ m)[i*5+j]?=(Fa (c.h i) A m')[j]?):=xl λi hi=>by
    rcases yf i k with h|h
    .obtain⟨A',m',hh⟩:=HX.out i h;exact⟨A',m',λj hj=>by rw[yz (by omega)];exact hh j hj⟩
    .obtain rfl:i=k:=by omega
     exact⟨A_,m,λj hj=>by rw[yv (by omega),hlen];congr 1;omega⟩
   have G6:=xl hown';clear hown' hgrow hd hown;go_wp2;go_roundw
   case rel=>exact⟨k+1,by omega,by go_num,DW.out,_,G6.out,HX3.out⟩
   case measure=>simp[intOf];omega
  .have FD:k=c.AH.length:=by omega
   subst FD;have HO:=xl hown;clear hown;go_wp2;go_ret;exact⟨_,xs,rfl,HO.out,HG.out,HX.out⟩
end Go.Proofs.YtjcgijifamcggaaGreat
namespace Go.Sq
open Go.RowKit
structure Oi (w:World)(g:Nat)(l:List Int):Prop where
 lt:g<w.heap.size
 left:∀(i:Nat) (x:Int),l[i]?=some x->w.cell? ⟨g,i*5+4,none⟩=some (.int .i64 x)
 free:∀o,w.frozen? ⟨g,o,none⟩=false
 rest:∀(i:Nat) (x:Int),l[i]?=some x->∃(n0 n1 n2:Int) (A:Option Addr) (m c:Nat),w.cell? ⟨g,i*5,none⟩=some (.int .i64 n0)/\w.cell? ⟨g,i*5+1,none⟩=some (.int .i64 n1)/\w.cell? ⟨g,i*5+2,none⟩=some (.int .i64 n2)/\w.cell? ⟨g,i*5+3,none⟩=some (.slice A m c)
def Oi.afS {w:World}{g:Nat}{l:List Int}(h:Oi w g l):Qr w w.heap.size (some ⟨g,0,none⟩) l:=λ_=>⟨g,0,rfl,h.lt,λi x hx=>by
 simp only[xM]
 exact⟨h.left i x hx,h.rest i x hx⟩⟩
def Oi.keep {w w':World}{g:Nat}{l:List Int}(h:Oi w g l)(hz:w.heap.size<=w'.heap.size)(hk:w'.heap[g]?=w.heap[g]?):Oi w' g l:=by
 have e:∀o,w'.cell? ⟨g,o,none⟩=w.cell? ⟨g,o,none⟩:=λo=>xN hk;refine⟨xx h.lt hz,λi x hx=>(e _).trans (h.left i x hx),λo=>(zl hk).trans (h.free o),λi x hx=>?_⟩;obtain⟨n0,n1,n2,A,m,c,h0,h1,h2,h3⟩:=h.rest i x hx;exact⟨n0,n1,n2,A,m,c,(e _).trans h0,(e _).trans h1,(e _).trans h2,(e _).trans h3⟩
def Oi.set {w:World}{g:Nat}{l:List Int}(h:Oi w g l){k:Nat}(hk:k<l.length)(y:Int):Oi (w.setCell ⟨g,k*5+4,none⟩ (.int .i64 y)) g (l.set k y):=by
 have hz:(w.setCell ⟨g,k*5+4,none⟩ (.int .i64 y)).heap.size=w.heap.size:=by simp[World.setCell]
 have old:∀i x,(l.set k y)[i]?=some x->∃x',l[i]?=some x':=λi x hx=>by
  have:=(xS.1 hx).1;rw[List.length_set] at this;exact⟨_,xq this⟩
 refine⟨by rw[hz];exact h.lt,λi x hx=>?_,λo=>(yt _ _ _ _).trans (h.free o),λi x hx=>?_⟩
 .by_cases e:i=k
  .subst e;rw[List.getElem?_set_self hk] at hx;cases hx;exact xJ _ _ _ (h.left i _ (xq hk))
  .rw[zq (Ne.symm e)] at hx;rw[xB _ _ _ _ (by simp<;>omega)];exact h.left i x hx
 .obtain⟨x',Hy⟩:=old i x hx;obtain⟨n0,n1,n2,A,m,c,h0,h1,h2,h3⟩:=h.rest i x' Hy;refine⟨n0,n1,n2,A,m,c,?_,?_,?_,?_⟩
  all_goals rw[xB _ _ _ _ (by simp<;>omega)]
  .exact h0
  .exact h1
  .exact h2
  .exact h3
def aG:List (Int×Int)->List Value
 |[]=>[]
 |p::l=>.int .i64 p.1::.int .i64 p.2::aG l
def kQ (l m:List (Int×Int)):aG (l++m)=aG l++aG m:=by
 induction l with
 |nil=>rfl
 |cons p l ih=>simp[aG,ih]
def gT {l:List (Int×Int)}{i:Nat}(h:i<l.length):(aG l)[i*2]?=some (.int .i64 (l[i]?.getD (0,0)).1)/\(aG l)[i*2+1]?=some (.int .i64 (l[i]?.getD (0,0)).2):=by
 induction l generalizing i with
 |nil=>simp at h
 |cons p l ih =>
  cases i with
  |zero=>exact⟨rfl,rfl⟩
  |succ i =>
   have:=ih (i:=i) (by simpa using h);rw[Nat.succ_mul];simpa [aG] using this
end Go.Sq
namespace Go.Proofs.YtjcgijifamcggaaGreat
open Go.RowKit Go.Sq
def Az:(AG.info? 170).map (λi=>(i.zero,i.size,i.bytes))=some (some (.agg #[.int .i64 0,.int .i64 0]),2,16):=by
 rw[zZ];kernel_rfl
def vQ {w:World}{ops:Array Oper}{rest:List Oper}{o:Oper}{a:Act}{Q:Exit->Act->World->Prop}(hgd:o.guard=none)(s x:Operand)(ho:o.op=.call { callee:=.builtin .append,args:=#[s,x],argTypes:=#[167,167] })
  (base:Nat) (v:Value) (n:Nat) (xs:List Value) (hs:a.eval s=v) (hown:w.ownsRow base 170 2 v n xs) (ad:Addr) (c:Nat) (u1 u2:Value) (hx:a.eval x=.slice (some ad) 1 c) (hc1:w.cell? (ad.add 0)=some u1) (hc2:w.cell? (ad.add 1)=some u2) (h1:u1.oneCell'=true) (h2:u2.oneCell'=true)
  (hn:n<=1048576) (hbase:base<=w.heap.size) (h:∀v' w',w'.ownsRow base 170 2 v' (n+1) (xs++[u1,u2])->w.grownBy w' v.ownBlock->w.drawn<=w'.drawn->wpList AG ops Q rest (a.put o.dst v') w'):wpList AG ops Q (o::rest) a w:=by
 obtain⟨i0,hi,hz0,hz1,hz2⟩:=info_parts Az;refine Bx hgd s x 167 ho base 170 i0 _ 2 16 ((Sq.underlying 167).trans Tryz.underlying167) hi hz0 hz1 hz2 rfl (by decide) v n xs hs hown ad 1 c [u1,u2] hx rfl (λj u hj=>?_) (λu hu=>?_) (by unfold maxLen;omega) (by omega) hbase h
 .match j,hj with
  |0,hj=>cases hj;exact hc1
  |1,hj=>cases hj;exact hc2
 .simp only[xC,xz,or_false] at hu;rcases hu with rfl|rfl
  .exact h1
  .exact h2
def sv (cb:Nat)(nA hA A:Option Addr)(nc hc wc:Nat)(c:AW)(r:Bt)(ws:List Int)(w:World)(h:CY w w.heap.size cb c nA hA nc hc)(DV:c.Ok)(hr:∀i,c.has (r i))(hws:∀x∈ws,0<=x/\x<=60)(Yv:ws.length<=5)(hw:RI w w.heap.size A ws) :
  Calls AG 101 #[.pointer (some ⟨cb,0,none⟩),Cc r,.slice A ws.length wc] w λe w'=>∃v,e=.returned v/\w'.ownsRow (w.heap.size+1) 170 2 v (C9 c r ws).length (aG (C9 c r ws))/\Gr w w':=by
 obtain⟨W0,hW0⟩:∃W0:World,W0=w.alloc (.cells #[.int .u8 (r 0),.int .u8 (r 1),.int .u8 (r 2),.int .u8 (r 3),.int .u8 (r 4)] 52):=⟨_,rfl⟩;have hg0:Gr w W0:=hW0▸(Gr.refl w).alloc _;have hz0:W0.heap.size=w.heap.size+1:=by rw[hW0];simp
 have Oj:CY W0 W0.heap.size cb c nA hA nc hc:=h.on hg0;have aa0:=xl (su cb nA hA nc hc c W0 W0.heap.size (xp _) Oj (by have:=DV.h4;omega));have OU:=xl Oj;have P6:Hid (∀i,i<5->W0.cell? ⟨w.heap.size,i,none⟩=some (.int .u8 (r i:Nat))):=xl λi hi=>by
  rw[hW0,xu _ _ _ _ (by simp)]
  match i,hi with
  |0,_=>rfl
  |1,_=>rfl
  |2,_=>rfl
  |3,_=>rfl
  |4,_=>rfl
 have IG:=xl (hw.gr (xp _) hg0);have HW:=xl hW0;have Ds:=xl hg0;have EZ:=xl DV;have HR:=xl hr;have HWS:=xl hws;clear hW0 hg0 Oj h DV hr hws hw;unfold Cc;go_enter Sq.func101,Tryz.ntmps101;go_wp2_with fail;rw[<-HW.out];refine aa0.out.mono ?_;rintro e w1 ⟨v1,xs,rfl,hown,hg1,SH⟩;have h1:=EZ.out.h1;obtain⟨g,cap,rfl,IJ⟩:∃g cap,v1=.slice (some ⟨g,0,none⟩) c.AH.length cap/\W0.heap.size<=g:=by
  rcases hown.2 with⟨_,h0⟩|⟨g,cap,cur,rfl,h2,_⟩
  .omega
  .exact⟨g,cap,rfl,h2⟩
 have hoW:Oi w1 g (Br c r ws 0).1:=by
  have hl0:(Br c r ws 0).1=c.AH.map (·.heads):=rfl;have hcell:=hown.cells (g:=g) rfl;have e5:∀i x,(Br c r ws 0).1[i]?=some x->∃A m,x=(c.h i).heads/\∀j,j<5->∀u,(Fa (c.h i) A m)[j]?=some u->w1.cell? ⟨g,i*5+j,none⟩=some u:=λi x hx=>by
   rw[hl0] at hx;have YA:i<c.AH.length:=by have:=(xS.1 hx).1;simpa using this
   obtain⟨A',m,hh⟩:=SH i YA;refine⟨A',m,?_,λj hj u hu=>?_⟩
   .rw[yw,xq YA] at hx;cases hx;unfold AW.h;rw[xq YA];rfl
   .have:=hcell (i*5+j) u ((hh j hj).trans hu);have e:(⟨g,0,none⟩:Addr).add (i*5+j)=⟨g,0+(i*5+j),none⟩:=by unfold Addr.add;split<;>simp_all
    rw[e,xM] at this;exact this
  refine⟨(hown.lt g rfl).2,λi x hx=>?_,λo=>?_,λi x hx=>?_⟩
  .obtain⟨A',m,rfl,hc⟩:=e5 i x hx;exact hc 4 (by omega) _ rfl
  .rcases hown.2 with⟨hb,_⟩|⟨g2,aem,cur,e2,_,hb,_⟩
   .cases hb
   .have e3:g=g2:=by injection e2 with a;injection a with a;injection a
    subst e3;unfold World.frozen?;rw[hb];simp
  .obtain⟨A',m,rfl,hc⟩:=e5 i x hx;exact⟨_,_,_,_,_,_,hc 0 (by omega) _ rfl,hc 1 (by omega) _ rfl,hc 2 (by omega) _ rfl,hc 3 (by omega) _ rfl⟩
 have HOW:=xl hoW;have Df:=xl hg1;have afT:=(hown.lt g rfl).2;have hz1:=hg1.size;clear hown hg1 SH hoW aa0;go_wp2;go_loopw [7,16] (λv i wr=>∃k:Nat,k<=ws.length/\i=.int .i64 k/\Gr W0 wr/\Oi wr g (Br c r ws k).1/\wr.ownsRow w1.heap.size 170 2 v (Br c r ws k).2.length (aG (Br c r ws k).2)/\w1.heap.size<=wr.heap.size) (λ_ i _=>ws.length-(intOf i).toNat)
 case atStart=>exact⟨0,by omega,rfl,Df.out,HOW.out,x9 _ _ _ _,xp _⟩
 case round =>
  obtain⟨wq,rfl⟩:∃wq,wq=wr:=⟨_,rfl⟩;obtain⟨k,hk,rfl,hgr,hoq,hown,hzq⟩:=hrel;have Fp:=xl hgr;have HOQ:=xl hoq;have HON:=xl hown;by_cases hlt:k<ws.length
  .obtain⟨b,o,rfl,hb,hcw⟩:=(IG.out.gr (by omega) hgr).at_ hlt;have P5:wq.cell? ⟨w.heap.size,k,none⟩=some (.int .u8 (r k:Nat)):=(hgr.cell (by show w.heap.size<_;omega)).trans (P6.out k (by omega));have HD:=xl (pz cb c (r k) wq (OU.out.on hgr) EZ.out.h4 EZ.out.DC (HR.out k));have hdb:=MU c (HR.out k) EZ.out.DC (c.IE (r k)).length;rw[zk,<-As] at hdb;have hx:=HWS.out _ (Dq ws k hlt)
   have YB:=xl (show I5 c r ws k=(ws[k]?.getD 0-c.DC (r k)).toNat from rfl);obtain⟨T,hT⟩:∃T,T=I5 c r ws k:=⟨_,rfl⟩;rw[<-hT] at YB;have HTT:=xl hT;have aa2:=ER.all EZ.out (r:=r) (ws:=ws) (xp _) k hk;have P3:=xl aa2;generalize c.DC (r k)=D at HD hdb YB;generalize ws[k]?.getD 0=x at hcw hx YB;have hmax:(max 0 (x-D):Int)=(T:Int):=by rw[YB.out];omega
   have hmax':(if(x-D)<0 then(0:Int) else x-D)=(T:Int):=by rw[YB.out];split<;>omega
   have hT60:T<=60:=by rw[YB.out];omega
   clear hgr hoq hown hT aa2;go_wp2_with fail;refine HD.out.mono ?_;rintro e w2 ⟨rfl,hg2⟩;have EX:=xl (Fp.out.trans hg2);have afU:=hg2;have hz2:=hg2.size;have afV:=xl (HOQ.out.keep hg2.size (hg2.below.block g HOQ.out.lt));have afW:=xl (Bb HON.out λq _ hl=>hg2.below.block q hl);have hgT:(T:Int)<=60:=by omega
   clear hg2 afU HD;go_wp2;go_loopw [7,29] (λv i wr=>∃m:Nat,m<=T/\i=.int .i64 m/\Gr W0 wr/\Oi wr g (Cg k (Br c r ws k) m).1/\wr.ownsRow w1.heap.size 170 2 v (Cg k (Br c r ws k) m).2.length (aG (Cg k (Br c r ws k) m).2)/\w1.heap.size<=wr.heap.size) (λ_ i _=>T-(intOf i).toNat)
   case atStart=>exact⟨0,by omega,rfl,EX.out,afV.out,afW.out,by omega⟩
   case round =>
    obtain⟨m,hm,rfl,F6,hoi,aa3,TA⟩:=hrel;have G5:=xl F6;have KR:=xl hoi;have Qw:=xl aa3;clear F6 hoi aa3;by_cases hlm:m<T
    .have C7:=P3.out.it (d:=k) hlt m;have YC:=xl C7;obtain⟨S,hS⟩:∃S,S=Cg k (Br c r ws k) m:=⟨_,rfl⟩;have Kj:Hid (Cg k (Br c r ws k) (m+1)=dv k S):=xl (by rw[hS];rfl);rw[<-hS] at KR Qw YC;have HST:=xl (λh:BO S.1 S.1.length<0=>(mH (c:=c) (r:=r) (ws:=ws) (k:=k) (m:=m) hlt (by rw[<-HTT.out];omega) (by rw[<-hS];exact h)).trans (by rw[<-hS]));have J5:=xl (vO (some ⟨g,0,none⟩) cap S.1 wr wr.heap.size (xp _) KR.out.afS (by rw[YC.out.len];have:=EZ.out.h4;omega))
     have hlen:=YC.out.len
     have afX:=xl (show S.2.length<=160 by
      have h1:=EG 0 40 _ YC.out.low;have h2:=YC.out.count
      omega)
     have hml:=iS S.1 S.1.length;have LL:Hid (dv k S=if BO S.1 S.1.length<0 then S else(S.1.set (BO S.1 S.1.length).toNat (S.1[(BO S.1 S.1.length).toNat]?.getD 0-1),S.2++[((k:Int),BO S.1 S.1.length)])):=xl rfl;rw[hlen] at J5 HST LL hml;have hS':=xl hS;clear hS C7;generalize BO S.1 c.AH.length=q at J5 HST LL hml;by_cases hq:q<0
     .have YD:=xl (HST.out hq);have hqd:decide (q<0)=true:=by simpa using hq
      clear HST LL;go_wp2_with fail;refine J5.out.mono ?_;rintro e w3 ⟨rfl,hg3⟩;have DW:=xl hg3;have Qx:=xl (Bb Qw.out λq _ hl=>hg3.below.block q hl);clear hg3 J5;go_wp2;go_ret;refine⟨_,rfl,?_,Ds.out.trans (G5.out.trans DW.out)⟩;rw[YD.out];exact B1 Qx.out (by omega)
     .obtain⟨j,rfl⟩:∃j:Nat,q=j:=⟨q.toNat,by omega⟩;have HSS:=xl (Kj.out.trans (LL.out.trans (if_neg hq)));rw[zo] at HSS;have Yx:j<S.1.length:=by omega
      have GU:=YC.out.low _ (Dq S.1 j Yx);have HLF:=xl (KR.out.left j _ (xq Yx));have hqd:decide ((j:Int)<0)=false:=by simp
      clear HST LL Kj hq;go_wp2_with fail;refine J5.out.mono ?_;rintro e w3 ⟨rfl,hg3⟩;have DW:=xl hg3;have hb3:=hg3.below.block g KR.out.lt;have Qx:=xl (Bb Qw.out λq _ hl=>hg3.below.block q hl);have TM:=xl (KR.out.keep hg3.size hb3);have hz3:=hg3.size;have hcell:w3.cell? ⟨g,j*5+4,none⟩=some (.int .i64 (S.1[j]?.getD 0)):=by
       rw[xq Yx];exact TM.out.left j _ (xq Yx)
      have hfz:=TM.out.free (j*5+4);have HX:Hid (Oi (w3.setCell ⟨g,j*5+4,none⟩ (.int .i64 (S.1[j]?.getD 0-1))) g (S.1.set j (S.1[j]?.getD 0-1))):=xl (TM.out.set Yx _);generalize S.1[j]?.getD 0=y at GU hcell HX HSS;have hjh:j<c.AH.length:=by omega
      have hglt:g<w3.heap.size:=TM.out.lt;have Tz:g<w1.heap.size:=afT;clear hg3 J5;go_wp2_with (at_builtin;refine vQ rfl _ _ rfl w1.heap.size _ _ _ rfl ((ownsRow_setCell_below Qx.out (by show g<_;omega) _).alloc _) ⟨w3.heap.size,0,none⟩ 1 (.int .i64 k) (.int .i64 j) rfl ?c1 ?c2 rfl rfl ?c3 ?c4 ?_)
      case c1=>rw[Addr.add_lit,xu _ _ _ _ (by simp)];rfl
      case c2=>rw[Addr.add_lit,xu _ _ _ _ (by simp)];rfl
      case c3=>have:=afX.out;omega
      case c4=>simp;omega
      intro v' w4 hown' hgrow hd;have TN:=hgrow.size;simp only[zD] at TN;have aa4:Gr W0 w4:=(((G5.out.trans DW.out).setCell (p:=⟨g,j*5+4,none⟩) (by show _<=g;omega) (.int .i64 (y-1))).alloc _).grown hgrow hd λq hq=>by have:=(Qx.out.lt q hq).1;omega
      have hne:some g≠_:=dI Qx.out Tz;have F4:=(hgrow.block g (by simp[World.setCell];omega) hne).trans (heap_alloc_old _ _ (by simp[World.setCell];omega));have afY:=xl (HX.out.keep (w':=w4) (by simp[World.setCell] at TN ⊢;omega) F4);have afZ:=xl aa4;have U7:Hid ((Cg k (Br c r ws k) (m+1)).2.length=S.2.length+1/\aG (Cg k (Br c r ws k) (m+1)).2=aG S.2++[.int .i64 k,.int .i64 j]):=xl (by rw[HSS.out,kQ];exact⟨by simp,rfl⟩)
      have HO4:Hid (w4.ownsRow w1.heap.size 170 2 v' (Cg k (Br c r ws k) (m+1)).2.length (aG (Cg k (Br c r ws k) (m+1)).2)):=xl (by rw[U7.out.1,U7.out.2];exact hown');have HX4:Hid (Oi w4 g (Cg k (Br c r ws k) (m+1)).1):=xl (by rw[HSS.out];exact afY.out);have hz4:w1.heap.size<=w4.heap.size:=by simp[World.setCell] at TN;omega
      clear hown' hgrow hd aa4 F4 hne TN;go_wp2;go_roundw
      case rel=>exact⟨m+1,by omega,by go_num,afZ.out,HX4.out,HO4.out,hz4⟩
      case measure=>simp[intOf];omega
    .have hmt:m=T:=by omega
     have HE:Hid (Br c r ws (k+1)=Cg k (Br c r ws k) m):=xl (by rw[hmt,HTT.out];rfl);rw[<-HE.out] at KR Qw;subst hmt;go_wp2;go_roundw
     case rel=>exact⟨k+1,by omega,by go_num,G5.out,KR.out,Qw.out,TA⟩
     case measure=>simp[intOf];omega
  .have Ik:k=ws.length:=by omega
   subst Ik;go_wp2;go_ret;exact⟨_,rfl,B1 HON.out (by omega),Ds.out.trans Fp.out⟩
end Go.Proofs.YtjcgijifamcggaaGreat
namespace Go.Sq
def LM {w:World}{base:Nat}{v:Value}{l:List (Int×Int)}(h:w.ownsRow base 170 2 v l.length (aG l)):∃A c,v=.slice A l.length c/\FB w w.heap.size A l:=by
 rcases h.2 with⟨rfl,h0⟩|⟨g,cap,cur,rfl,_,hg,_⟩
 .have:l=[]:=xT h0;subst this;exact⟨none,0,rfl,λh=>absurd rfl h⟩
 .refine⟨_,cap,rfl,λ_=>⟨g,0,rfl,(xm.1 hg).1,λi x hx=>?_⟩⟩;have hi:=(xS.1 hx).1;have Hy:l[i]?.getD (0,0)=x:=by rw[hx];rfl
  have e:∀j,(⟨g,0,none⟩:Addr).add j=⟨g,0+j,none⟩:=λj=>by unfold Addr.add;split<;>simp_all
  have h1:=h.cells (g:=g) rfl _ _ (gT hi).1;have h2:=h.cells (g:=g) rfl _ _ (gT hi).2;rw[e,Hy] at h1 h2;exact⟨h1,by rw[zu];exact h2⟩
def RsK (w:World)(K:Nat->Prop)(A:Option Addr)(l:List (Int×Int)):Prop :=
 l≠[]->∃b o,A=some ⟨b,o,none⟩/\K b/\∀(i:Nat) (x:Int×Int),l[i]?=some x->w.cell? ⟨b,o+i*2,none⟩=some (.int .i64 x.1)/\w.cell? ⟨b,o+i*2+1,none⟩=some (.int .i64 x.2)
def ML {w:World}{base:Nat}{v:Value}{l:List (Int×Int)}(h:w.ownsRow base 170 2 v l.length (aG l)):∃A c,v=.slice A l.length c/\RsK w (λb=>base<=b/\b<w.heap.size) A l:=by
 obtain⟨A,c,rfl,h2⟩:=LM h;refine⟨A,c,rfl,λhn=>?_⟩;obtain⟨b,o,rfl,hb,hc⟩:=h2 hn;exact⟨b,o,rfl,⟨(h.lt b rfl).1,hb⟩,hc⟩
def EU {w:World}{base:Nat}{v:Value}{l:List Int}(h:w.ownsRow base 3 1 v l.length (l.map (Value.int .i64))):∃A c,v=.slice A l.length c/\F8 w (λb=>base<=b/\b<w.heap.size) A l:=by
 obtain⟨A,c,rfl,h2⟩:=zY h;refine⟨A,c,rfl,λhn=>?_⟩;obtain⟨b,o,rfl,hb,hc⟩:=h2 hn;exact⟨b,o,rfl,⟨(h.lt b rfl).1,hb⟩,hc⟩
def KP (n:Nat)(bl:Nat->Nat)(w w':World):Prop:=w.heap.size<=w'.heap.size/\∀b,b<w.heap.size->(∀h,h<n->bl h≠b)->w'.heap[b]?=w.heap[b]?
section
variable {n:Nat} {bl:Nat->Nat} {w w' w2:World}
def KP.refl (n:Nat)(bl:Nat->Nat)(w:World):KP n bl w w:=⟨xp _,λ_ _ _=>rfl⟩
def KP.trans (h:KP n bl w w')(k:KP n bl w' w2):KP n bl w w2:=⟨xI h.1 k.1,λb hb hk=>(k.2 b (xx hb h.1) hk).trans (h.2 b hb hk)⟩
def KP.gr (h:Gr w w'):KP n bl w w':=⟨h.size,λb hb _=>h.below.block b hb⟩
def KP.set {a:Nat}(ha:a<n)(t:Nat)(v:Value):KP n bl w (w.setCell ⟨bl a,t,none⟩ v):=⟨by simp[World.setCell],λb _ hk=>by rw[Go.Bl.BG];exact if_neg (λe=>hk a ha e.symm)⟩
def KP.drew (h:KP n bl w w'):KP n bl w w'.drew:=h
def KP.cell (h:KP n bl w w'){b:Nat}(hb:b<w.heap.size)(hk:∀h,h<n->bl h≠b)(o:Nat):w'.cell? ⟨b,o,none⟩=w.cell? ⟨b,o,none⟩:=xN (h.2 b hb hk)
end
def DG (p:Int)(r:Bt)(ls:List (Int×Int))(k i h t:Nat):Int :=
 ET p r ls h t k+if(ls[k]?.getD (0,0)).2=t/\h≠t then Iw p (wl (r (ls[k]?.getD (0,0)).1.toNat)) h i else 0
def oO (p:Int)(r:Bt)(ls:List (Int×Int))(k h t:Nat):DG p r ls k 0 h t=ET p r ls h t k:=by unfold DG Iw;split<;>simp
def qx (p:Int)(r:Bt)(ls:List (Int×Int))(k h t:Nat):DG p r ls k (wl (r (ls[k]?.getD (0,0)).1.toNat)).length h t=ET p r ls h t (k+1):=rfl
def J6 (p:Int)(n i:Nat):Int:=p / n+(if(i:Int)<p % n then 1 else 0)
def oP (p:Int)(r:Bt)(ls:List (Int×Int))(k i h t:Nat):DG p r ls k (i+1) h t =
  DG p r ls k i h t+if(ls[k]?.getD (0,0)).2=t/\h≠t/\(wl (r (ls[k]?.getD (0,0)).1.toNat))[i]?.getD 0=h then J6 p (wl (r (ls[k]?.getD (0,0)).1.toNat)).length i else 0:=by
 unfold DG J6;by_cases h1:(ls[k]?.getD (0,0)).2=t/\h≠t
 .rw[if_pos h1,if_pos h1];by_cases h2:(wl (r (ls[k]?.getD (0,0)).1.toNat))[i]?.getD 0=h
  .rw[if_pos ⟨h1.1,h1.2,h2⟩];show _+(_+if _ then _ else _)=_;rw[if_pos h2];omega
  .rw[if_neg (λh=>h2 h.2.2)];show _+(_+if _ then _ else _)=_;rw[if_neg h2];omega
 .rw[if_neg h1,if_neg h1,if_neg (λh=>h1 ⟨h.1,h.2.1⟩)];omega
def sx {p:Int}(hp:0<=p/\p<=99)(r:Bt)(ls:List (Int×Int))(k i h t:Nat):0<=DG p r ls k i h t/\DG p r ls k i h t<=400*k+100*i:=by
 have h1:=lS hp r ls h t k;have h2:=lR hp (wl (r (ls[k]?.getD (0,0)).1.toNat)) h i;unfold DG;split<;>omega
end Go.Sq
namespace Go.Proofs.YtjcgijifamcggaaGreat
open Go.RowKit Go.Sq
def tj {w:World}{ops:Array Oper}{rest:List Oper}{o:Oper}{a:Act}{Q:Exit->Act->World->Prop}(hgd:o.guard=none)(s x:Operand)(ho:o.op=.call { callee:=.builtin .append,args:=#[s,x],argTypes:=#[29,29] })
  (base:Nat) (v:Value) (n:Nat) (xs:List Value) (hs:a.eval s=v) (hown:w.ownsRow base 22 1 v n xs) (ad:Addr) (c:Nat) (u:Value) (hx:a.eval x=.slice (some ad) 1 c) (hc:w.cell? (ad.add 0)=some u) (h1:u.oneCell'=true)
  (hn:n<=1048576) (hbase:base<=w.heap.size) (h:∀v' w',w'.ownsRow base 22 1 v' (n+1) (xs++[u])->w.grownBy w' v.ownBlock->w.drawn<=w'.drawn->wpList AG ops Q rest (a.put o.dst v') w'):wpList AG ops Q (o::rest) a w:=by
 obtain⟨i0,hi,hz0,hz1,hz2⟩:=info_parts Af;refine Bx hgd s x 29 ho base 22 i0 _ 1 24 ((Sq.underlying 29).trans Tryz.underlying29) hi hz0 hz1 hz2 rfl (by decide) v n xs hs hown ad 1 c [u] hx rfl (λj u hj=>?_) (λu' hu=>?_) (by unfold maxLen;omega) (by omega) hbase h
 .match j,hj with
  |0,hj=>cases hj;exact hc
 .simp only[xC,xz,or_false] at hu;subst hu;exact h1
def vR (nA hA gA rA:Option Addr)(nc hc gc rc:Nat)(c:AW)(ls:List (List Int))(rs:List (Int×Int))(p:Int)(w:World)(B:Nat)(hB:B<=w.heap.size)(hn:RI w B nA c.AK)(hh:Dr w B hA c.AH)(hg:CR w B gA ls)(hr:FB w B rA rs)
  (IZ:c.AK.length<=4611686018427387904) (hl2:c.AH.length<=4611686018427387904) (C7:∀h∈c.AH,h.off.length<=4611686018427387904) (L8:ls.length<=4611686018427387904) (hl4:∀x∈ls,x.length<=4611686018427387904) (hl5:rs.length<=4611686018427387904) (P5:rs.length<=rc)
  (hF:Ba c ls=0) (hR:gQ c.AK.length rs=0) (hp:0<=p/\p<=99) :
  Calls AG 72 #[Bp nA hA c nc hc,.slice gA ls.length gc,.slice rA rs.length rc,.int .i64 p] w λe w'=>Gr w w'/\∃A k,e=.returned (.tuple #[.slice A c.AH.length k,.int .i64 0]) /\
   CR w' w'.heap.size A (Hq c (AP ls) p (B7 c.AK.length rs rs.length)):=by
 unfold Bp;obtain⟨W0,hW0⟩:∃W0:World,W0=w.alloc (.cells #[.slice nA c.AK.length nc,.slice hA c.AH.length hc] 27):=⟨_,rfl⟩;have hg0:Gr w W0:=hW0▸(Gr.refl w).alloc _;have hz0:W0.heap.size=w.heap.size+1:=by rw[hW0];simp
 have HW:=xl hW0;have hrd:=so nA hA gA rA nc hc gc rc c ls rs W0 B (by omega) (hn.gr hB hg0) (hh.keep λb o hb=>hg0.cell (xx hb hB)) (hg.gr hB hg0) (hr.gr hB hg0) IZ hl2 C7 L8 hl4 hl5 P5 hF hR;unfold Bp at hrd;have HRD:=xl hrd;have Ds:=xl hg0;have Qu:Hid (W0.cell? ⟨w.heap.size,1,none⟩=some (.slice hA c.AH.length hc)):=xl (by rw[hW0,xu _ _ _ _ rfl];rfl);have JD:=xl hF
 have EZ:=xl (AW.Ok.of (show Bi c=0 by
  have:=hF;unfold Ba at this;split at this
  .exact absurd this (by assumption)
  .simpa using ‹¬Bi c≠0›))
 have HRZ:=xl (kB hR);have HBT:Hid (∀W,Calls AG 18 #[.int .i64 p,.int .i64 0,.int .i64 99] W λe w'=>e=.returned (.bool true)/\W=w'):=xl λW=>by
  have:Ej p 0 99=true:=by simp[Ej];omega
  rw[<-this];exact bI _ _ _ W
 clear hW0 hg0 hrd hn hh hg hr hl4 C7 hF hR;go_enter Sq.func72,Tryz.ntmps72;go_wp2_with fail;rw[<-HW.out];refine HRD.out.mono ?_;rintro e w1 ⟨hg1,cb,A,ka,rfl,Oj,Ea⟩;obtain⟨W1,hW1⟩:∃W1:World,W1=w1.alloc (.cells #[.int .u8 (AP ls 0),.int .u8 (AP ls 1),.int .u8 (AP ls 2),.int .u8 (AP ls 3),.int .u8 (AP ls 4)] 51):=⟨_,rfl⟩;have Hr:Gr w1 W1:=hW1▸(Gr.refl w1).alloc _;have hz1:W1.heap.size=w1.heap.size+1:=by rw[hW1];simp
 have hzz:=hg1.size;have Df:=xl (hg1.trans Hr);have OU:=xl (Oj.on Hr);have IG:=xl (Ea.gr (xp _) Hr);have P6:Hid (∀i,i<5->W1.cell? ⟨w1.heap.size,i,none⟩=some (.int .u8 (AP ls i:Nat))):=xl λi hi=>by
  rw[hW1,xu _ _ _ _ (by simp)]
  match i,hi with
  |0,_=>rfl
  |1,_=>rfl
  |2,_=>rfl
  |3,_=>rfl
  |4,_=>rfl
 have hc1:w1.cell? ⟨w.heap.size,1,none⟩=some (.slice hA c.AH.length hc):=(hg1.cell (by show w.heap.size<_;omega)).trans Qu.out;have EA:w.heap.size<w1.heap.size:=by omega
 have TD:=EZ.out.h4;have Oe:=EZ.out.h1;have GL:=λw=>jp c.AH.length w (by omega);have Mj:=xl hW1;clear hg1 Oj Ea Hr HRD hW1;unfold Cc;go_wp2_with fail;rw[<-Mj.out];refine(HBT.out _).mono ?_;rintro e w' ⟨rfl,rfl⟩;rw[Mj.out];go_wp2;rw[<-Mj.out];have hwl2:w.heap.size<W1.heap.size/\w1.heap.size<W1.heap.size:=by omega
 have Um:=xl hz1;clear hc1 hz1;have hc1:=xl ((Df.out.cell (p:=⟨w.heap.size,1,none⟩) (by show w.heap.size<_;omega)).trans Qu.out);go_loopw [14,39] (λv i wr=>∃k:Nat,k<=c.AH.length/\i=.int .i64 k/\Gr W1 wr/\∃bl,G7 wr W1.heap.size v c.AH.length k (λ_ _=>0) bl) (λ_ i _=>c.AH.length-(intOf i).toNat)
 case atStart=>exact⟨0,by omega,rfl,.refl _,λ_=>0,.nil _ _ _ _ _⟩
 case round =>
  obtain⟨k,hk,rfl,hgr,bl,Ol⟩:=hrel;have Fp:=xl hgr;have HT:=xl Ol;have hc1:=(hgr.cell (p:=⟨w.heap.size,1,none⟩) (by show w.heap.size<_;omega)).trans hc1.out;have Tz:=hgr.size;clear hgr Ol;by_cases hlt:k<c.AH.length
  .obtain⟨xs,hrow,SH⟩:=HT.out.row;have HXS:=xl SH;have Js:=xl hrow;clear SH;have S6:w.heap.size<wr.heap.size:=by omega
   go_wp2_with (at_builtin;refine tj rfl _ _ rfl W1.heap.size _ _ _ rfl ((hrow.alloc _).alloc _) ⟨wr.heap.size+1,0,none⟩ 1 (.slice (some ⟨wr.heap.size,0,none⟩) c.AH.length c.AH.length) rfl ?c1 rfl ?c2 ?c3 ?_)
   case c1=>rw[Addr.add_lit,xu _ _ _ _ (by simp)];rfl
   case c2=>omega
   case c3=>simp;omega
   intro v' w3 hown' hgrow hd;have DW:=xl (((Fp.out.alloc _).alloc _).grown hgrow hd λq hq=>(hrow.lt q hq).1);have WZ:=xl (HT.out.push (q:=wr.heap.size) Js.out HXS.out (by omega) (xp _) (λb hb=>(heap_alloc_old _ _ (by simp;omega)).trans (heap_alloc_old _ _ hb)) ((heap_alloc_old _ _ (by simp)).trans (heap_alloc_new _ _)) (λt ht=>fe _ _ ht) (by simp;omega) hgrow hown');clear hown' hgrow hd hrow
   go_wp2;go_roundw
   case rel=>exact⟨k+1,by omega,by go_num,DW.out,_,WZ.out⟩
   case measure=>simp[intOf];omega
  .have Ik:k=c.AH.length:=by omega
   subst Ik;obtain⟨g,hv,IJ,_⟩:∃g,(∃cap,u14=.slice (some ⟨g,0,none⟩) c.AH.length cap)/\g<wr.heap.size/\True:=by
    obtain⟨xs,h1,h2⟩:=HT.out.row;rcases h1.2 with⟨_,h0⟩|⟨g,cap,cur,hv,_,k2,_⟩
    .omega
    .exact⟨g,⟨cap,hv⟩,(xm.1 k2).1,trivial⟩
   obtain⟨cap,rfl⟩:=hv;have hws:∀x∈B7 c.AK.length rs rs.length,0<=x/\x<=60:=λx hx=>by
    obtain⟨j,_,rfl⟩:=xU.1 hx;exact mF HRZ.out _ _ (xp _)
   have TP:=sv cb nA hA A nc hc ka c (AP ls) (B7 c.AK.length rs rs.length) wr (OU.out.on Fp.out) EZ.out (dJ JD.out) hws (by rw[dD];exact EZ.out.n5) ((IG.out.gr (by omega) Fp.out).more (by omega));rw[dD] at TP;have SS:=jv EZ.out (AP ls) (B7 c.AK.length rs rs.length);have W6:Hid (∀q∈C9 c (AP ls) (B7 c.AK.length rs rs.length),0<=q.1/\q.1<c.AK.length/\0<=q.2/\q.2<c.AH.length):=xl λq hq=>by
    have:=(kz EZ.out (AP ls) (B7 c.AK.length rs rs.length)).night q hq
    rwa [dD] at this
   have HOL:Hid (Hq c (AP ls) p (B7 c.AK.length rs rs.length)=LK c.AH.length λh t=>ET p (AP ls) (C9 c (AP ls) (B7 c.AK.length rs rs.length)) h t (C9 c (AP ls) (B7 c.AK.length rs rs.length)).length):=xl rfl;obtain⟨L,hL⟩:∃L,L=C9 c (AP ls) (B7 c.AK.length rs rs.length):=⟨_,rfl⟩;rw[<-hL] at TP SS W6 HOL;clear hL;have Xa:=xl TP
   have P5:∀i,i<5->wr.cell? ⟨w1.heap.size,i,none⟩=some (.int .u8 (AP ls i:Nat)):=λi hi=>(Fp.out.cell (by show w1.heap.size<_;omega)).trans (P6.out i hi);obtain⟨a0,a1,a2,a3,a4⟩:=Il P5;clear TP P5 hws;unfold Cc at Xa;go_wp2_with fail;refine Xa.out.mono ?_;rintro e w2 ⟨v,rfl,hown2,hg2⟩;obtain⟨A2,k2,rfl,hrs⟩:=ML hown2;have U5:=xl hrs;have EX:=xl (Fp.out.trans hg2);have HT2:=xl ((HT.out.gr hg2).congr (M':=λh t=>ET p (AP ls) L h t 0) λa t _ _=>rfl)
   have HBL:Hid (∀h,h<c.AH.length->bl h<wr.heap.size):=xl λh hh=>(HT.out.at_ hh hh).2.1;have hz2:=hg2.size;have aaq:=xl (λi hi=>(hg2.cell (p:=⟨w1.heap.size,i,none⟩) (by show w1.heap.size<_;omega)).trans (((Fp.out.cell (p:=⟨w1.heap.size,i,none⟩) (by show w1.heap.size<_;omega)).trans (P6.out i hi))));clear hown2 hg2 hrs a0 a1 a2 a3 a4 Xa;go_wp2;go_loopw [54] (λi wr=>∃k:Nat,k<=L.length/\i=.int .i64 k/\KP c.AH.length bl w2 wr/\Gr W1 wr/\G7 wr W1.heap.size (.slice (some ⟨g,0,none⟩) c.AH.length cap) c.AH.length c.AH.length (λh t=>ET p (AP ls) L h t k) bl) (λi _=>L.length-(intOf i).toNat)
   case atStart=>exact⟨0,by omega,rfl,.refl _ _ _,EX.out,HT2.out⟩
   case round =>
    obtain⟨wq,rfl⟩:∃wq,wq=wr:=⟨_,rfl⟩;obtain⟨k,hk,rfl,OV,hgr,Ol⟩:=hrel;have HKP:=xl OV;have HGQ:=xl hgr;have HTQ:=xl Ol;have hzq:=OV.1;by_cases hlk:k<L.length
    .have OW:=W6.out _ (yn hlk);have Ty:L[k]?.getD (0,0)=L[k]:=by rw[xq hlk];rfl
     obtain⟨b,o,rfl,SR,JY⟩:=U5.out (λe=>by rw[e] at hlk;simp at hlk);obtain⟨h1,h2⟩:=JY k _ (xq hlk);have hne:∀h,h<c.AH.length->bl h≠b:=λh hh e=>by have:=HBL.out h hh;omega
     have d1:=(OV.cell SR.2 hne (o+k*2)).trans h1;have d2:=(OV.cell SR.2 hne (o+k*2+1)).trans h2;rw[<-Ty] at OW d1 d2;have HM0:Hid (∀a t,DG p (AP ls) L k 0 a t=ET p (AP ls) L a t k):=xl λa t=>oO p (AP ls) L k a t;have YE:Hid (∀a t,DG p (AP ls) L k (wl (AP ls (L[k]?.getD (0,0)).1.toNat)).length a t=ET p (AP ls) L a t (k+1)):=xl λa t=>qx p (AP ls) L k a t;have U8:Hid (∀i a t,DG p (AP ls) L k (i+1) a t=DG p (AP ls) L k i a t+if(L[k]?.getD (0,0)).2=(t:Int)/\a≠t/\(wl (AP ls (L[k]?.getD (0,0)).1.toNat))[i]?.getD 0=(a:Int) then J6 p (wl (AP ls (L[k]?.getD (0,0)).1.toNat)).length i else 0):=xl λi a t=>oP p (AP ls) L k i a t
     generalize L[k]?.getD (0,0)=q at OW d1 d2 YE U8;obtain⟨q1,q2⟩:=q;obtain⟨qn,rfl⟩:∃j:Nat,q1=j:=⟨q1.toNat,by omega⟩;obtain⟨qf,rfl⟩:∃j:Nat,q2=j:=⟨q2.toNat,by omega⟩;dsimp only at OW d1 d2 YE U8;rw[zo] at YE U8;have Su:=EZ.out.n5;have Xb:qn<5:=by omega
     have hqf:qf<c.AH.length:=by omega
     have VP:wq.cell? ⟨w1.heap.size,qn,none⟩=some (.int .u8 (AP ls qn:Nat)):=(hgr.cell (by show w1.heap.size<_;omega)).trans (P6.out qn Xb);have JF:AP ls qn<16:=z8 EZ.out.h4 (dJ JD.out qn);have hxh:AP ls qn<2 ^ c.AH.length:=dJ JD.out qn;generalize AP ls qn=x at VP JF hxh YE U8;obtain⟨W2,hW2⟩:∃W2:World,W2=wq.alloc (.cells #[.int .i64 (qn:Int),.int .i64 (qf:Int)] 170):=⟨_,rfl⟩
     have U9:=xl (gh x W2 JF);have hwq1:w1.heap.size<wq.heap.size:=by omega
     have HBX:Hid (W2.cell? ⟨wq.heap.size,1,none⟩=some (.int .i64 (qf:Int))):=xl (by rw[hW2,xu _ _ _ _ rfl];rfl);have af3:Hid (Gr wq W2):=xl (hW2▸(Gr.refl wq).alloc _);have Sy:Hid (W2.heap.size=wq.heap.size+1):=xl (by rw[hW2];simp);have Mp:=xl hW2;clear OV hgr Ol JY h1 h2 Ty hW2;go_wp2_with fail;rw[<-Mp.out];refine U9.out.mono ?_;rintro e w3 ⟨v3,rfl,Ci,hg3⟩;obtain⟨A3,k3,rfl,ED⟩:=EU Ci
     have HON:=xl ED;have DW:=xl (af3.out.trans hg3);have WZ:=xl ((HTQ.out.gr DW.out).congr (M':=λa t=>DG p (AP ls) L k 0 a t) λa t _ _=>(HM0.out a t).symm);have af4:=xl ((hg3.cell (p:=⟨wq.heap.size,1,none⟩) (by show wq.heap.size<_;have:=Sy.out;omega)).trans HBX.out);have hz3:=DW.out.size;have aaU:wq.heap.size<W2.heap.size:=by have:=Sy.out;omega
     have hz32:=hg3.size;clear Ci hg3 ED U9 d1 d2;go_wp2;go_loopw [65] (λi wr=>∃j:Nat,j<=(wl x).length/\i=.int .i64 j/\KP c.AH.length bl w3 wr/\Gr W1 wr/\G7 wr W1.heap.size (.slice (some ⟨g,0,none⟩) c.AH.length cap) c.AH.length c.AH.length (λa t=>DG p (AP ls) L k j a t) bl) (λi _=>(wl x).length-(intOf i).toNat)
     case atStart=>exact⟨0,by omega,rfl,.refl _ _ _,HGQ.out.trans DW.out,WZ.out⟩
     case round =>
      obtain⟨j,hj,rfl,OV,F6,SC⟩:=hrel;have HKI:=xl OV;have G5:=xl F6;have HTI:=xl SC;have TA:=OV.1;by_cases Qy:j<(wl x).length
      .obtain⟨b3,o3,rfl,af6,hc3⟩:=HON.out (λe=>by rw[e] at Qy;simp at Qy);obtain⟨a,ha,ha4,hab⟩:=Kg (yn Qy);have hah:a<c.AH.length:=iY hxh hab;have GJ:=(OV.cell af6.2 (λh hh e=>by have:=HBL.out h hh;omega) (o3+j)).trans (hc3 j _ (xq Qy));rw[ha] at GJ;have Wv:Hid ((wl x)[j]?.getD 0=(a:Int)):=xl (by rw[xq Qy];exact ha);have hbx:=(OV.cell (b:=wq.heap.size) (by omega) (λh hh e=>by have:=HBL.out h hh;omega) 1).trans af4.out
       have HMJ:Hid (∀a' t,DG p (AP ls) L k (j+1) a' t=DG p (AP ls) L k j a' t+if(qf:Int)=(t:Int)/\a'≠t/\(a:Int)=(a':Int) then J6 p (wl x).length j else 0):=xl λa' t=>by rw[U8.out,Wv.out]
       have Qz:=bM x;have HPI:Hid (J6 p (wl x).length j=p / ((wl x).length:Int)+if(j:Int)<p % ((wl x).length:Int) then 1 else 0):=xl rfl;clear ha;generalize (wl x).length=N at Qy Qz HPI HMJ YE hj ⊢;clear OV F6 SC;have TK:0<=p / (N:Int):=Int.ediv_nonneg hp.1 (by omega);have hq2:p / (N:Int)<=99:=Int.le_trans (Int.ediv_le_self _ hp.1) hp.2;obtain⟨g',eg,_,hrow⟩:=HTI.out.MK hah;have eg':g'=g:=by injection eg with e;injection e with e;exact e.symm
       subst eg';obtain⟨hta,htb,htc,htf⟩:=HTI.out.at_ hah hqf;have hmb:=sx hp (AP ls) L k j a qf;by_cases haf:a=qf
       .have hne:((a:Int) != (qf:Int))=false:=by simp[haf]
        have HT5:=xl (HTI.out.congr (M':=λa t=>DG p (AP ls) L k (j+1) a t) λa' t _ _=>by rw[HMJ.out,if_neg (by omega)];simp);clear hrow htc htf;by_cases Xc:(j:Int)<p % (N:Int)
        all_goals
         go_wp2;go_roundw
         case rel=>exact⟨j+1,by omega,by go_num,HKI.out,G5.out,HT5.out⟩
         case measure=>simp[intOf];omega
       .have hne:((a:Int) != (qf:Int))=true:=by simp;omega
        have QB:Hid (∀y:Int,y=J6 p N j->G7 (wr.setCell ⟨bl a,qf,none⟩ (.int .i64 (DG p (AP ls) L k j a qf+y))) W1.heap.size (.slice (some ⟨g',0,none⟩) c.AH.length cap) c.AH.length c.AH.length (λa t=>DG p (AP ls) L k (j+1) a t) bl):=xl λy hy=>HTI.out.set hah hqf _ λa' t' _ _=>by
         rw[HMJ.out];by_cases e:a'=a/\t'=qf
         .obtain⟨rfl,rfl⟩:=e;rw[if_pos ⟨rfl,haf,rfl⟩,if_pos ⟨rfl,rfl⟩,hy]
         .rw[if_neg (λh=>e (by omega)),if_neg e];omega
        have aa8:=xl (λv=>HKI.out.trans (KP.set (w:=wr) hah qf v));have aa9:=xl (λv=>G5.out.setCell (p:=⟨bl a,qf,none⟩) hta v);have hblw:=htb;generalize DG p (AP ls) L k j a qf=M0 at htc hmb QB;by_cases Xc:(j:Int)<p % (N:Int)
        .have HY:=xl (QB.out (p / (N:Int)+1) (by rw[HPI.out,if_pos Xc]));go_wp2;go_region
         all_goals
          go_wp2;go_roundw
          case rel=>exact⟨j+1,by omega,by go_num,(aa8.out _).drew,(aa9.out _).drew,HY.out.drew⟩
          case measure=>simp[intOf];omega
        .have HY:=xl (QB.out (p / (N:Int)) (by rw[HPI.out,if_neg Xc];omega));go_wp2;go_region
         all_goals
          go_wp2;go_roundw
          case rel=>exact⟨j+1,by omega,by go_num,(aa8.out _).drew,(aa9.out _).drew,HY.out.drew⟩
          case measure=>simp[intOf];omega
      .have I4:j=(wl x).length:=by omega
       subst I4;have HT6:=xl (HTI.out.congr (M':=λa t=>ET p (AP ls) L a t (k+1)) λa' t _ _=>YE.out a' t);go_wp2;go_roundw
       case rel=>exact⟨k+1,by omega,by go_num,HKP.out.trans ((KP.gr DW.out).trans HKI.out),G5.out,HT6.out⟩
       case measure=>simp[intOf];omega
    .have Ik:k=L.length:=by omega
     subst Ik;have HTF:=xl (HTQ.out.Ky);clear OV hgr Ol;go_wp2;go_ret2;exact⟨Ds.out.trans (Df.out.trans HGQ.out),_,_,rfl,by rw[HOL.out];exact HTF.out⟩
end Go.Proofs.YtjcgijifamcggaaGreat
