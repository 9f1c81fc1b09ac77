/- Parts of the proof. -/
import Derived.Test.YteckikkkfpblhaaGreatP15
import Derived.Test.YteckikkkfpblhaaGreatP00
import Derived.Test.YteckikkkfpblhaaGreatP18
import Derived.Test.YteckikkkfpblhaaGreatP20
import Derived.Test.YteckikkkfpblhaaGreatP07
import Derived.Orders
import Derived.Deep.Slices
import Derived.Deep.Matrix
import Derived.ChangeSlices
set_option linter.all false
set_option maxHeartbeats 3200000
set_option maxRecDepth 1000000
namespace Go.Proofs.Ao
open Go.RowKit Go.Sq
def bR (A A':Option Addr)(c c':Nat)(l m:List Int)(w:World)(B:Nat)(hB:B<=w.heap.size)(h:RI w B A l)(h':RI w B A' m)(hl:l.length<=4611686018427387904)(hm:m.length<=4611686018427387904) :
  Calls An 16 #[.slice A l.length c,.slice A' m.length c'] w λe w'=>e=.returned (.bool (decide (l=m)))/\Gr w w':=by
 have HR:=xf h;have Yk:=xf h';clear h h';go_enter Sq.func16,Tryz.ntmps16;by_cases hlen:l.length=m.length
 .go_wp2;go_loopw [5] (λi wr=>∃k:Nat,k<=l.length/\i=.int .i64 k/\l.take k=m.take k/\Gr w wr) (λi _=>l.length-(intOf i).toNat)
  case atStart=>exact⟨0,by omega,rfl,by simp,.refl _⟩
  case round =>
   obtain⟨k,hk,rfl,heq,hg⟩:=hrel;have HG:=xf hg;have HE:=xf heq;clear hg heq;by_cases hlt:k<l.length
   .obtain⟨b,o,rfl,hb,hc⟩:=(HR.out.gr hB HG.out).at_ hlt;obtain⟨b',o',rfl,hb',hc'⟩:=(Yk.out.gr hB HG.out).at_ (show k<m.length by omega);have HD:=xf (t7 l m k hlt (by omega));generalize l[k]?.getD 0=x at hc HD;generalize m[k]?.getD 0=y at hc' HD;by_cases h1:x=y
    .have HS:=xf (HD.out.1 HE.out h1);subst h1;clear HD;go_wp2;go_region;go_wp2;go_roundw
     case rel=>exact⟨k+1,by omega,by go_num,HS.out,HG.out.drew⟩
     case measure=>simp[intOf];omega
    .have HS:=xf (HD.out.2 h1);have hne:decide (x≠y)=true:=by simp[h1]
     clear HD;go_wp2;go_region;go_wp2;go_ret;exact⟨ap (by simp[HS.out]),HG.out.drew⟩
   .have D6:k=l.length:=by omega
    have HS:=xf (show l=m by have:=HE.out;rw[D6,xN (by omega),xN (by omega)] at this;exact this);clear D6;go_wp2;go_ret;exact⟨ap (by simp[HS.out]),HG.out⟩
 .have hne:l≠m:=λe=>hlen (by rw[e]);have HN:=xf hne;clear hne;go_wp2;go_ret;exact⟨ap (by simp[HN.out]),.refl _⟩
def ft (A A':Option Addr)(c c':Nat)(l m:List (List Int))(w:World)(B:Nat)(hB:B<=w.heap.size)(h:BD w B A l)(h':BD w B A' m)(hl:l.length<=4611686018427387904)(hm:m.length<=4611686018427387904)
  (hl2:∀x∈l,x.length<=4611686018427387904) (Jl:∀x∈m,x.length<=4611686018427387904) :
  Calls An 18 #[.slice A l.length c,.slice A' m.length c'] w λe w'=>e=.returned (.bool (decide (l=m)))/\Gr w w':=by
 have HR:=xf h;have Yk:=xf h';have HL2:=xf hl2;have Qh:=xf Jl;clear h h' hl2 Jl;go_enter Sq.func18,Tryz.ntmps18;by_cases hlen:l.length=m.length
 .rw[<-hlen];have HLEN:=xf hlen;clear hlen;have Hk:∀k,k<l.length->k<m.length:=λk hk=>by have:=HLEN.out;omega
  have HMK:=xf Hk;clear Hk;go_wp2;go_loopw [5] (λi wr=>∃k:Nat,k<=l.length/\i=.int .i64 k/\l.take k=m.take k/\Gr w wr) (λi _=>l.length-(intOf i).toNat)
  case atStart=>exact⟨0,by omega,rfl,by simp,.refl _⟩
  case round =>
   obtain⟨k,hk,rfl,heq,hg⟩:=hrel;have HG:=xf hg;have HE:=xf heq;clear hg heq;by_cases hlt:k<l.length
   .obtain⟨b,o,A1,c1,rfl,hb,hc,hr⟩:=(HR.out.gr hB HG.out).at_ hlt;obtain⟨b',o',A2,c2,rfl,hb',hc',KU⟩:=(Yk.out.gr hB HG.out).at_ (HMK.out k hlt);have HD:=xf (sn l m k hlt (HMK.out k hlt));have hx:=HL2.out _ (fU l k hlt);have hy:=Qh.out _ (fU m k (HMK.out k hlt));generalize l[k]?.getD []=x at hc HD hr hx;generalize m[k]?.getD []=y at hc' HD KU hy;have hsz:=HG.out.size;have FA:Hid (∀q,q=wr\/q=wr.drew->Calls An 16 #[.slice A1 x.length c1,.slice A2 y.length c2] q λe w'=>e=.returned (.bool (decide (x=y)))/\Gr q w'):=xf λq hq=>by
     rcases hq with rfl|rfl
     .exact bR A1 A2 c1 c2 x y _ B (by omega) hr KU hx hy
     .exact bR A1 A2 c1 c2 x y _ B (by show B<=wr.heap.size;omega) hr KU hx hy
    clear hr KU hx hy;by_cases h1:x=y
    .have HS:=xf (HD.out.1 HE.out h1);have TY:Hid (∀q,q=wr\/q=wr.drew->Calls An 16 #[.slice A1 x.length c1,.slice A2 y.length c2] q λe w'=>e=.returned (.bool true)/\Gr q w'):=xf λq hq=>(FA.out q hq).mono λe w' h=>⟨h.1.trans (ap (by simp[h1])),h.2⟩;clear h1 HD FA;go_wp2;go_region_with (first|(go_at_call 16;refine(TY.out _ (by first|exact Or.inl rfl|exact Or.inr rfl)).mono ?_;rintro e w3 ⟨rfl,hg3⟩;have q0:=(hg3.cell (p:=⟨b,o+k,none⟩) (by show b<wr.heap.size;omega)).trans hc;have q1:=(hg3.cell (p:=⟨b',o'+k,none⟩) (by show b'<wr.heap.size;omega)).trans hc';have D8:=xf (show Gr w w3 from(by first|exact HG.out.trans hg3|exact HG.out.drew.trans hg3));clear hg3))
     all_goals
      go_wp2;go_roundw
      case rel=>exact⟨k+1,by omega,by go_num,HS.out,D8.out⟩
      case measure=>simp[intOf];omega
    .have HS:=xf (HD.out.2 h1);have TY:Hid (∀q,q=wr\/q=wr.drew->Calls An 16 #[.slice A1 x.length c1,.slice A2 y.length c2] q λe w'=>e=.returned (.bool false)/\Gr q w'):=xf λq hq=>(FA.out q hq).mono λe w' h=>⟨h.1.trans (ap (by simp[h1])),h.2⟩;clear h1 HD FA;go_wp2;go_region_with (first|(go_at_call 16;refine(TY.out _ (by first|exact Or.inl rfl|exact Or.inr rfl)).mono ?_;rintro e w3 ⟨rfl,hg3⟩;have q0:=(hg3.cell (p:=⟨b,o+k,none⟩) (by show b<wr.heap.size;omega)).trans hc;have q1:=(hg3.cell (p:=⟨b',o'+k,none⟩) (by show b'<wr.heap.size;omega)).trans hc';have D8:=xf (show Gr w w3 from(by first|exact HG.out.trans hg3|exact HG.out.drew.trans hg3));clear hg3))
     all_goals
      go_wp2;go_ret;exact⟨ap (by simp[HS.out]),D8.out⟩
   .have D6:k=l.length:=by omega
    have HS:=xf (show l=m by have:=HE.out;rw[D6,xN (by omega),xN (by have:=HLEN.out;omega)] at this;exact this);clear D6;go_wp2;go_ret;exact⟨ap (by simp[HS.out]),HG.out⟩
 .have hne:l≠m:=λe=>hlen (by rw[e]);have HN:=xf hne;clear hne;go_wp2;go_ret;exact⟨ap (by simp[HN.out]),.refl _⟩
open Go.AW Go.Co Go.Conc
def pq:Ay (Bj [3,2,4]) [[0,1],[1],[]]=0:=by decide +kernel
def pt:Ay (Bj [3,2,4]) BH=0:=by decide +kernel
def sL:hP 3 [(2,6)]=0:=by decide +kernel
def uz:Qi (G9 (Bj [3,2,4]) (Av BH) 9 (BN 3 [(2,6)] 1))=[8,0,-8]:=by decide +kernel
def sM:(Bo AL (Bc 3) 2 (Ce (Da 1)) 1).map (λr=>aX r 3)=[BH]:=by decide +kernel
def je {l:List Int}:(∀h∈(Bj l).Ap,h.off.length<=4611686018427387904):=by
 intro h hh;simp only[Bj,xu,xm,or_false] at hh;rcases hh with rfl|rfl|rfl<;>simp
def qX (nA hA gA:Option Addr)(w:World)(B:Nat)(hB:B<=w.heap.size)(hn:RI w B nA [3,2,4])(hh:BG w B hA (Bj [3,2,4]).Ap)(hg:BD w B gA [[0,1],[1],[]]) :
  Calls An 22 #[.agg #[.slice nA 3 3,.slice hA 3 3],.slice gA 3 3,.int .i64 2,.int .i64 0] w λe w'=>Gr w w'/\∃A k,e=.returned (.tuple #[.slice A 3 k,.int .i64 3,.int .i64 0])/\BD w' w'.heap.size A BH:=by
 refine(sK nA hA gA 3 3 3 (Bj [3,2,4]) [[0,1],[1],[]] 2 0 w B hB hn hh hg (by decide) (by decide) je (by decide) (by decide) (λk _ hk _ _=>?_)).mono ?_
 .obtain rfl:k=2:=by omega
  exact AD.Ok.of (by decide +kernel)
 .rintro e w' ⟨hg,h⟩;refine⟨hg,?_⟩;rw[if_neg (by simp[pq]),if_neg (by decide)] at h;have hr:=sv;have h2:Bo (Hq (Bj [3,2,4]) (Int.toNat 2) 0) (Bc (Bj [3,2,4]).Ap.length) (Bj [3,2,4]).Aq.length DC 0=Bo (Hq (Bj [3,2,4]) 2 0) (Bc 3) 3 DC 0:=rfl;rw[h2] at h;cases hn:DU (Av [[0,1],[1],[]]) (Bo (Hq (Bj [3,2,4]) 2 0) (Bc 3) 3 DC 0) with
  |none=>rw[hn] at hr;cases hr
  |some p =>
   rw[hn] at hr h;obtain⟨A,k,he,hgr⟩:=h;have hr2:(aX p.1 3,p.2)=(BH,3):=Option.some.inj hr;injection hr2 with e1 e2
   refine⟨A,k,?_,?_⟩
   .rw[he,e2];rfl
   .rw[<-e1];exact hgr
def sN (nA hA:Option Addr)(w:World)(B:Nat)(hB:B<=w.heap.size)(hn:RI w B nA [3,2,5])(hh:BG w B hA (Bj [3,2,5]).Ap) :
  Calls An 23 #[.agg #[.slice nA 3 3,.slice hA 3 3]] w λe w'=>Gr w w'/\∃A k,e=.returned (.tuple #[.slice A 2 k,.int .i64 0])/\RI w' w'.heap.size A [1,2]:=by
 refine(ue nA hA 3 3 (Bj [3,2,5]) w B hB hn hh (by decide) (by decide) je).mono ?_;rintro e w' ⟨hg,h⟩;refine⟨hg,?_⟩;rw[if_neg (by simp[li]),if_neg (by simp[jI])] at h;have h2:Cx (Bj [3,2,5]) (2 ^ (Bj [3,2,5]).Aq.length)=some [1,2]:=pc;rw[h2] at h;exact h
def vO (nA hA gA rA:Option Addr)(w:World)(B:Nat)(hB:B<=w.heap.size)(hn:RI w B nA [3,2,4])(hh:BG w B hA (Bj [3,2,4]).Ap)(hg:BD w B gA BH)(hr:E8 w B rA [(2,6)]) :
  Calls An 24 #[.agg #[.slice nA 3 3,.slice hA 3 3],.slice gA 3 3,.slice rA 1 1,.int .i64 9] w λe w'=>Gr w w'/\∃A k,e=.returned (.tuple #[.slice A 3 k,.int .i64 0])/\RI w' w'.heap.size A [8,0,-8]:=by
 refine(pp nA hA gA rA 3 3 3 1 (Bj [3,2,4]) BH [(2,6)] 9 w B hB hn hh hg hr (by decide) (by decide) je (by decide) (by decide) (by decide) (by decide) pt sL (by omega)).mono ?_;rintro e w' ⟨hg,A,k,he,h⟩;refine⟨hg,A,k,he,?_⟩;rw[<-uz];exact h
def wZ {w:World}{B b:Nat}{A0 A1 A2:Option Addr}{c0 c1 c2:Nat}{l0 l1 l2:List Int}{t:TypeId}{f:Nat×Nat}(h:w.heap[b]?=some (.cells #[.slice A0 l0.length c0,.slice A1 l1.length c1,.slice A2 l2.length c2] t f))(hb:b<B)(h0:RI w B A0 l0)(h1:RI w B A1 l1)(h2:RI w B A2 l2):BD w B (some ⟨b,0,none⟩) [l0,l1,l2]:=λ_=>by
 have e:∀o,w.cell? ⟨b,o,none⟩=(#[.slice A0 l0.length c0,.slice A1 l1.length c1,.slice A2 l2.length c2]:Array Value)[o]?:=λo=>by unfold World.cell?;rw[h];simp
 refine⟨b,0,rfl,hb,λi l hl=>?_⟩
 match i,hl with
 |0,hl=>cases hl;exact⟨A0,c0,e _,h0⟩
 |1,hl=>cases hl;exact⟨A1,c1,e _,h1⟩
 |2,hl=>cases hl;exact⟨A2,c2,e _,h2⟩
def xa {w:World}{B b:Nat}{x y:Int}{t:TypeId}{f:Nat×Nat}(h:w.heap[b]?=some (.cells #[.int .i64 x,.int .i64 y] t f))(hb:b<B):E8 w B (some ⟨b,0,none⟩) [(x,y)]:=λ_=>by
 have e:∀o,w.cell? ⟨b,o,none⟩=(#[.int .i64 x,.int .i64 y]:Array Value)[o]?:=λo=>by unfold World.cell?;rw[h];simp
 refine⟨b,0,rfl,hb,λi q hq=>?_⟩
 match i,hq with
 |0,hq=>cases hq;exact⟨e _,e _⟩
def LB (n:Nat)(l:List Value)(h:l.length=n+19):∃(y0 y1 y2 y3 y4 y5 y6 y7 y8 y9 FQ FT FU FV FX FY FZ F0 F2:Value) (tl:List Value),l=y0::y1::y2::y3::y4::y5::y6::y7::y8::y9::FQ::FT::FU::FV::FX::FY::FZ::F0::F2::tl/\tl.length=n:=by
 match l,h with
 |y0::y1::y2::y3::y4::y5::y6::y7::y8::y9::FQ::FT::FU::FV::FX::FY::FZ::F0::F2::tl,h=>exact⟨y0,y1,y2,y3,y4,y5,y6,y7,y8,y9,FQ,FT,FU,FV,FX,FY,FZ,F0,F2,tl,rfl,by simpa using h⟩
def wK {T:Array Value}(h:T.size=95):∃(y0 y1 y2 y3 y4 y5 y6 y7 y8 y9 FQ FT FU FV FX FY FZ F0 F2 H7 H8 H9 Ia Ib Ic LW LX Qu Qv Qw Qx Qy Qz QB QC QD QE QF QG QH QI QJ QK QL QM QN QO QP QQ QR QS QU QV QW QX QY QZ Q0 Q2 Q3 Q4 Q6 Q7 Q8 Q9 Ra Rb Rc Re Rf Rg Rh Ri Rj Rk Rl Rm Rn Rp Rq Rs Rt Ru Rv Rw Rx Ry Rz RA RB RD RF RG RH RJ:Value),T=#[y0,y1,y2,y3,y4,y5,y6,y7,y8,y9,FQ,FT,FU,FV,FX,FY,FZ,F0,F2,H7,H8,H9,Ia,Ib,Ic,LW,LX,Qu,Qv,Qw,Qx,Qy,Qz,QB,QC,QD,QE,QF,QG,QH,QI,QJ,QK,QL,QM,QN,QO,QP,QQ,QR,QS,QU,QV,QW,QX,QY,QZ,Q0,Q2,Q3,Q4,Q6,Q7,Q8,Q9,Ra,Rb,Rc,Re,Rf,Rg,Rh,Ri,Rj,Rk,Rl,Rm,Rn,Rp,Rq,Rs,Rt,Ru,Rv,Rw,Rx,Ry,Rz,RA,RB,RD,RF,RG,RH,RJ]:=by
 obtain⟨l⟩:=T;have h:l.length=76+19:=h;obtain⟨y0,y1,y2,y3,y4,y5,y6,y7,y8,y9,FQ,FT,FU,FV,FX,FY,FZ,F0,F2,l0,rfl,h0⟩:=LB 76 l h;obtain⟨H7,H8,H9,Ia,Ib,Ic,LW,LX,Qu,Qv,Qw,Qx,Qy,Qz,QB,QC,QD,QE,QF,l1,rfl,h1⟩:=LB 57 l0 h0;obtain⟨QG,QH,QI,QJ,QK,QL,QM,QN,QO,QP,QQ,QR,QS,QU,QV,QW,QX,QY,QZ,l2,rfl,h2⟩:=LB 38 l1 h1;obtain⟨Q0,Q2,Q3,Q4,Q6,Q7,Q8,Q9,Ra,Rb,Rc,Re,Rf,Rg,Rh,Ri,Rj,Rk,Rl,l3,rfl,h3⟩:=LB 19 l2 h2
 obtain⟨Rm,Rn,Rp,Rq,Rs,Rt,Ru,Rv,Rw,Rx,Ry,Rz,RA,RB,RD,RF,RG,RH,RJ,l4,rfl,h4⟩:=LB 0 l3 h3;obtain rfl:l4=[]:=xU h4;exact⟨y0,y1,y2,y3,y4,y5,y6,y7,y8,y9,FQ,FT,FU,FV,FX,FY,FZ,F0,F2,H7,H8,H9,Ia,Ib,Ic,LW,LX,Qu,Qv,Qw,Qx,Qy,Qz,QB,QC,QD,QE,QF,QG,QH,QI,QJ,QK,QL,QM,QN,QO,QP,QQ,QR,QS,QU,QV,QW,QX,QY,QZ,Q0,Q2,Q3,Q4,Q6,Q7,Q8,Q9,Ra,Rb,Rc,Re,Rf,Rg,Rh,Ri,Rj,Rk,Rl,Rm,Rn,Rp,Rq,Rs,Rt,Ru,Rv,Rw,Rx,Ry,Rz,RA,RB,RD,RF,RG,RH,RJ,rfl⟩
def uB (A:Option Addr)(c:Nat)(y0 y5 y6 y7 y8 y9 FQ FT FU FV FX FY FZ F0 F2 H7 H8 H9 Ia Ib Ic LW LX Qu Qv Qw Qx Qy Qz QB QC QD QE QF QG QH QI QJ QK QL QM QN QO QP QQ QR QS QU QV QW QX QY QZ Q0 Q2 Q3 Q4 Q6 Q7 Q8 Q9 Ra Rb Rc Re Rf Rg Rh Ri Rj Rk Rl Rm Rn Rp Rq Rs Rt Ru Rv Rw Rx Ry Rz RA RB RD RF RG RH RJ:Value)(w:World)(Ja:BD w w.heap.size A BH) :
  P9.wp An (λe a' _=>(e=.normal\/e=.ret)/\e=.ret/\a'.tmps.getD 0 undef=.bool true/\a'.defers=[]) ⟨#[y0,.int .i64 1,.int .i64 0,.slice A 3 c,.int .i64 0,y5,y6,y7,y8,y9,FQ,FT,FU,FV,FX,FY,FZ,F0,F2,H7,H8,H9,Ia,Ib,Ic,LW,LX,Qu,Qv,Qw,Qx,Qy,Qz,QB,QC,QD,QE,QF,QG,QH,QI,QJ,QK,QL,QM,QN,QO,QP,QQ,QR,QS,QU,QV,QW,QX,QY,QZ,Q0,Q2,Q3,Q4,Q6,Q7,Q8,Q9,Ra,Rb,Rc,Re,Rf,Rg,Rh,Ri,Rj,Rk,Rl,Rm,Rn,Rp,Rq,Rs,Rt,Ru,Rv,Rw,Rx,Ry,Rz,RA,RB,RD,RF,RG,RH,RJ],[]⟩ w:=by
 have HB:=xf Ja;clear Ja;have ez:P9=af (af (af wB)):=rfl;simp only[wB,Tryz.f6,Option.getD_some,af] at ez;rw[ez];clear ez;obtain⟨W1,hW1⟩:∃W1:World,W1=w.alloc (.cells #[.int .i64 3,.int .i64 2,.int .i64 4] 3):=⟨_,rfl⟩;have hg1:Gr w W1:=hW1▸(Gr.refl w).alloc _;have HN1:RowKit.Hid (RI W1 W1.heap.size (some ⟨w.heap.size,0,none⟩) [3,2,4]):=xf (cN (t:=3) (f:=(0,0)) (by rw[hW1];exact heap_alloc_new w _) (by rw[hW1];simp))
 have X1:=xf (HB.out.gr (xh _) hg1);have N8:=xf (l6 (some ⟨w.heap.size,0,none⟩) 3 [3,2,4] W1);have Mw:=xf hW1;have hz1:=hg1.size;clear hg1 hW1;go_wp2_with fail;rw[<-Mw.out];refine N8.out.mono ?_;rintro e w2 ⟨hA,rfl,Wj,hg2⟩;obtain⟨W2,hW2⟩:∃W2:World,W2=((w2.alloc (.cells #[.int .i64 0,.int .i64 1] 3)).alloc (.cells #[.int .i64 1] 3)).alloc (.cells #[.slice (some ⟨w2.heap.size,0,none⟩) 2 2,.slice (some ⟨w2.heap.size+1,0,none⟩) 1 1,.slice none 0 0] 22):=⟨_,rfl⟩
 have hg3:Gr w2 W2:=hW2▸(((Gr.refl w2).alloc _).alloc _).alloc _;have hz2:W2.heap.size=w2.heap.size+3:=by rw[hW2];simp
 have b0:W2.heap[w2.heap.size]?=some (.cells ([0,1].map (Value.int .i64)).toArray 3 (0,0)):=by
  rw[hW2,heap_alloc_old _ _ (by simp;omega),heap_alloc_old _ _ (by simp)];exact heap_alloc_new _ _
 have b1:W2.heap[w2.heap.size+1]?=some (.cells ([1].map (Value.int .i64)).toArray 3 (0,0)):=by
  rw[hW2,heap_alloc_old _ _ (by simp)];exact aD _ _ (by simp)
 have b2:W2.heap[w2.heap.size+2]?=some (.cells #[.slice (some ⟨w2.heap.size,0,none⟩) 2 2,.slice (some ⟨w2.heap.size+1,0,none⟩) 1 1,.slice none 0 0] 22 (0,0)):=by
  rw[hW2];exact aD _ _ (by simp)
 have UN:BD W2 W2.heap.size (some ⟨w2.heap.size+2,0,none⟩) [[0,1],[1],[]]:=wZ (l0:=[0,1]) (l1:=[1]) (l2:=[]) b2 (by omega) (cN b0 (by omega)) (cN b1 (by omega)) .nil;have HR:=xf (qX (some ⟨w.heap.size,0,none⟩) hA (some ⟨w2.heap.size+2,0,none⟩) W2 W2.heap.size (xh _) (((HN1.out.gr (xh _) hg2).gr hg2.size hg3).more (by have:=hg2.size;have:=hg3.size;omega)) ((Wj.keep λb o hb=>hg3.cell (p:=⟨b,o,none⟩) hb).more hg3.size) UN)
 have Ke:=xf ((X1.out.gr (by omega) hg2).gr (by have:=hg2.size;omega) hg3);have O7:=xf hW2;have hzz2:=hg2.size;clear Wj hg2 hW2 b0 b1 b2 UN N8 hz2;have ec:AH (some ⟨w.heap.size,0,none⟩) hA (Bj [3,2,4]) 3 3=.agg #[.slice (some ⟨w.heap.size,0,none⟩) 3 3,.slice hA 3 3]:=rfl;rw[ec];clear ec;have hz3:=hg3.size;clear hg3;go_wp2_with fail;rw[<-O7.out];refine HR.out.mono ?_;rintro e w3 ⟨hg3,A5,k5,rfl,aa3⟩
 have HB3:=xf (Ke.out.gr (by omega) hg3);have Kh:=xf aa3;have ZV:=hg3.size;clear hg3 aa3 HR HN1;obtain⟨V6,hV6⟩:∃V:World,V=w3.alloc (.cells #[.int .i64 3,.int .i64 2,.int .i64 5] 3):=⟨_,rfl⟩;have hg6:Gr w3 V6:=hV6▸(Gr.refl w3).alloc _;have HN6:RowKit.Hid (RI V6 V6.heap.size (some ⟨w3.heap.size,0,none⟩) [3,2,5]):=xf (cN (t:=3) (f:=(0,0)) (by rw[hV6];exact heap_alloc_new w3 _) (by rw[hV6];simp))
 have HC6:=xf (l6 (some ⟨w3.heap.size,0,none⟩) 3 [3,2,5] V6);have afI:=xf hg6;have HV6:=xf hV6;have hzV6:=hg6.size;clear hg6 hV6;go_wp2_with fail;rw[<-HV6.out];refine HC6.out.mono ?_;rintro e x6 ⟨hA6,rfl,aa5,RN⟩;have HX6:=xf (afI.out.trans RN);have aa6:=xf ((HN6.out.gr (xh _) RN).more RN.size);have aa7:=xf aa5;have hzx6:=RN.size;clear aa5 RN;have ec:AH (some ⟨w3.heap.size,0,none⟩) hA6 (Bj [3,2,5]) 3 3=.agg #[.slice (some ⟨w3.heap.size,0,none⟩) 3 3,.slice hA6 3 3]:=rfl
 have HCL:=xf (sN (some ⟨w3.heap.size,0,none⟩) hA6 x6 x6.heap.size (xh _) aa6.out aa7.out);rw[ec];clear ec;go_wp2_with fail;refine HCL.out.mono ?_;rintro e w5 ⟨GJ,A8,k8,rfl,aa8⟩;have HB5:=xf (HB3.out.gr (by omega) (HX6.out.trans GJ));have afL:=xf (Kh.out.gr (xh _) (HX6.out.trans GJ));have HI8:=xf aa8;have LS:=(HX6.out.trans GJ).size;clear GJ aa8 HCL HN6 HC6 aa7 aa6;obtain⟨V7,hV7⟩:∃V:World,V=w5.alloc (.cells #[.int .i64 3,.int .i64 2,.int .i64 4] 3):=⟨_,rfl⟩
 have hg7:Gr w5 V7:=hV7▸(Gr.refl w5).alloc _;have HN7:RowKit.Hid (RI V7 V7.heap.size (some ⟨w5.heap.size,0,none⟩) [3,2,4]):=xf (cN (t:=3) (f:=(0,0)) (by rw[hV7];exact heap_alloc_new w5 _) (by rw[hV7];simp));have HC7:=xf (l6 (some ⟨w5.heap.size,0,none⟩) 3 [3,2,4] V7);have afN:=xf hg7;have HV7:=xf hV7;have hzV7:=hg7.size;clear hg7 hV7;go_wp2_with fail;rw[<-HV7.out];refine HC7.out.mono ?_;rintro e x7 ⟨hA7,rfl,aba,RO⟩
 have HX7:=xf (afN.out.trans RO);have abb:=xf ((HN7.out.gr (xh _) RO).more RO.size);have abc:=xf aba;have hzx7:=RO.size;clear aba RO;have ec:AH (some ⟨w5.heap.size,0,none⟩) hA7 (Bj [3,2,4]) 3 3=.agg #[.slice (some ⟨w5.heap.size,0,none⟩) 3 3,.slice hA7 3 3]:=rfl;rw[ec];clear ec;have HGU:=xf (kg x7);go_wp2_with fail;refine HGU.out.mono ?_;rintro e x8 ⟨gA,rfl,UO,Sx⟩;obtain⟨V8,hV8⟩:∃V:World,V=x8.alloc (.cells #[.int .i64 2,.int .i64 6] 58):=⟨_,rfl⟩
 have LC:Gr x8 V8:=hV8▸(Gr.refl x8).alloc _;have abe:E8 V8 V8.heap.size (some ⟨x8.heap.size,0,none⟩) [(2,6)]:=xa (t:=58) (f:=(0,0)) (by rw[hV8];exact heap_alloc_new _ _) (by rw[hV8];simp)
 have abf:=xf (vO (some ⟨w5.heap.size,0,none⟩) hA7 gA (some ⟨x8.heap.size,0,none⟩) V8 V8.heap.size (xh _) ((abb.out.gr (xh _) (Sx.trans LC)).more (Sx.trans LC).size)
  ((abc.out.keep λb o hb=>(Sx.trans LC).cell (p:=⟨b,o,none⟩) hb).more (Sx.trans LC).size) ((UO.gr (xh _) LC).more LC.size) abe)
 have WV:=xf (HX7.out.trans (Sx.trans LC));have HV8:=xf hV8;have TB:(BH.length:Nat)=3:=rfl;clear UO Sx hV8 LC abe HGU;rw[TB];go_wp2_with fail;rw[<-HV8.out];refine abf.out.mono ?_;rintro e w9 ⟨Qs,A10,k10,rfl,UQ⟩;have hzz9:=(WV.out.trans Qs).size;have WW:=xf (HB5.out.gr (by omega) (WV.out.trans Qs));have afP:=xf (afL.out.gr (by omega) (WV.out.trans Qs));have afQ:=xf (HI8.out.gr (xh _) (WV.out.trans Qs))
 have WR:=xf UQ;clear Qs UQ abf HN7 HC7 abc abb;have UR:=xf (kg w9);go_wp2_with fail;refine UR.out.mono ?_;rintro e g11 ⟨afR,rfl,UO,hg⟩;have TC:=xf (ft A afR c 3 BH BH g11 g11.heap.size (xh _) ((WW.out.gr (by omega) hg).more (by have:=hg.size;omega)) UO (by decide) (by decide) (by decide) (by decide));rw[decide_eq_true (rfl:BH=BH)] at TC;have abg:=xf hg;have hzq11:=hg.size
 clear UO hg UR;have TB:(BH.length:Nat)=3:=rfl;rw[TB];rw[TB] at TC;clear TB;go_wp2_with fail;refine TC.out.mono ?_;rintro e s11 ⟨rfl,hg⟩;have WX:=xf (abg.out.trans hg);have hzs11:=(abg.out.trans hg).size;clear hg TC;have HGM:=xf (afP.out.gr (by omega) WX.out);have HIM:=xf (afQ.out.gr (by omega) WX.out);have Ur:=xf (WR.out.gr (by omega) WX.out);have UT:=xf (kg s11)
 go_wp2_with fail;refine UT.out.mono ?_;rintro e g12 ⟨afS,rfl,UO,hg⟩;have TD:=xf (ft A5 afS k5 3 BH BH g12 g12.heap.size (xh _) ((HGM.out.gr (by omega) hg).more (by have:=hg.size;omega)) UO (by decide) (by decide) (by decide) (by decide));rw[decide_eq_true (rfl:BH=BH)] at TD;have abh:=xf hg;have hzq12:=hg.size;clear UO hg UT;have TB:(BH.length:Nat)=3:=rfl;rw[TB]
 rw[TB] at TD;clear TB;go_wp2_with fail;refine TD.out.mono ?_;rintro e s12 ⟨rfl,hg⟩;have Tx:=xf (abh.out.trans hg);have hzs12:=(abh.out.trans hg).size;clear hg TD;obtain⟨V13,RP⟩:∃V:World,V=s12.alloc (.cells #[.int .i64 1,.int .i64 2] 3):=⟨_,rfl⟩;have KB:Gr s12 V13:=RP▸(Gr.refl s12).alloc _;have WY:=xf (bR A8 (some ⟨s12.heap.size,0,none⟩) k8 2 [1,2] [1,2] V13 V13.heap.size (xh _) (((HIM.out.gr (by omega) Tx.out).gr (by omega) KB).more (by have:=KB.size;omega)) (cN (t:=3) (f:=(0,0)) (by rw[RP];exact heap_alloc_new _ _) (by rw[RP];simp)) (by decide) (by decide))
 rw[decide_eq_true (rfl:([1,2]:List Int)=[1,2])] at WY;have afU:=xf RP;have abi:=xf KB;have hzq13:=KB.size;clear KB RP;go_wp2_with fail;rw[<-afU.out];refine WY.out.mono ?_;rintro e s13 ⟨rfl,hg⟩;have afV:=xf (abi.out.trans hg);have hzs13:=(abi.out.trans hg).size;clear hg WY;obtain⟨V14,RQ⟩:∃V:World,V=s13.alloc (.cells #[.int .i64 8,.int .i64 0,.int .i64 (-8)] 3):=⟨_,rfl⟩;have KB:Gr s13 V14:=RQ▸(Gr.refl s13).alloc _
 have WZ:=xf (bR A10 (some ⟨s13.heap.size,0,none⟩) k10 3 [8,0,-8] [8,0,-8] V14 V14.heap.size (xh _) ((((Ur.out.gr (by omega) Tx.out).gr (by omega) afV.out).gr (by omega) KB).more (by have:=KB.size;omega)) (cN (t:=3) (f:=(0,0)) (by rw[RQ];exact heap_alloc_new _ _) (by rw[RQ];simp)) (by decide) (by decide));rw[decide_eq_true (rfl:([8,0,-8]:List Int)=[8,0,-8])] at WZ;have afX:=xf RQ;have abj:=xf KB
 have hzq14:=KB.size;clear KB RQ;go_wp2_with fail;rw[<-afX.out];refine WZ.out.mono ?_;rintro e s14 ⟨rfl,hg⟩;have HT14:=xf (abj.out.trans hg);have hzs14:=(abj.out.trans hg).size;clear hg WZ;go_wp2
end Go.Proofs.Ao
namespace Go.AW
def ic (P:Program)(l C:Code)(N:Act->World->Prop)(a:Act)(w:World):Prop :=
 ∀(b:Frame) (k:List Item) (cs:List Frame),∃a' w',N a' w'/\Steps P (lone (b.at a (.code C::k)) cs w) (lone (b.at a' (.code l::k)) cs w')
def iQ {P:Program}{l:Code}{N:Act->World->Prop}{a:Act}{w:World}(h:N a w):ic P l l N a w:=λ_ _ _=>⟨a,w,h,.refl _ _⟩
def jM {P:Program}{l c r:Code}{N:Act->World->Prop}{a:Act}{w:World}(h:c.wp P (Exit.then (ic P l r N) λ_ _ _=>False) a w):ic P l (.seq c r) N a w:=λb k cs=>by
 obtain⟨e,a1,w1,hq,NH⟩:=h b (.code r::k) cs;cases e with
 |normal =>
  obtain⟨a2,w2,hn,hs⟩:=hq b k cs;exact⟨a2,w2,hn,.head step_seq (Steps.trans NH hs)⟩
 |_=>exact hq.elim
end Go.AW
namespace Go.Proofs.Ao
open Go.RowKit Go.AW Go.Co Go.Conc Go.ConcN Go.Sq
section
variable {Q:Goroutine->World->Prop} {b:Frame} {a:Act} {todo:List Item} {cs:List Frame} {w:World} {BB:FuncId->Bool}
def qY (hQ:∀g w W,AR w W->Q g w->Q g W)(hf:BB b.fn=true)(hg:∀o,({ b.at a todo with mode:=.returning }:Frame).oper?=some o->aJ Tryz.prog o.op=true)(h:∀τ d,(stepG Tryz.prog true (Go.Conc.G { b.at a todo with mode:=.returning } cs) (on w τ d)).goes (λg' w' _=>g'.callers≠[]/\∃W,AR W w'/\Br Tryz.prog BB Q 0 g' W)) :
  Br Tryz.prog BB Q 0 (Go.Conc.G { b.at a todo with mode:=.returning } cs) w:=by
 refine Br.step ⟨hf,hg⟩ λτ d=>?_;have:=h τ d;cases hs:stepG Tryz.prog true (Go.Conc.G { b.at a todo with mode:=.returning } cs) (on w τ d) with
 |go g' w' es =>
  rw[hs] at this;obtain⟨h1,W,h2,h3⟩:=this;exact⟨g',w',es,rfl,h1,h3.same hQ h2⟩
 |_=>rw[hs] at this;exact this.elim
end
def vP:codeOk An Fj false true P9=true:=by kernel_rfl
def uC {QT:Goroutine->World->Prop}{C:Frame}{cs:List Frame}(hQT:∀g w W,AR w W->QT g w->QT g W)
  (h:∀(a':Act) (todo:List Item) (w':World),a'.tmps.getD 0 undef=.bool true->a'.defers=[]->(∀o,({ (base 6).at a' todo with mode:=.returning }:Frame).oper?=some o->aJ Tryz.prog o.op=true)->Br Tryz.prog Fc QT 0 (Go.Conc.G { (base 6).at a' todo with mode:=.returning } (C::cs)) w'):jK QT (C::cs):=by
 intro K A c B xs w' U ρ Gp ho hU u1 u2 u3 u4 N0 CU;obtain⟨y0,y1,y2,y3,y4,y5,y6,y7,y8,y9,FQ,FT,FU,FV,FX,FY,FZ,F0,F2,H7,H8,H9,Ia,Ib,Ic,LW,LX,Qu,Qv,Qw,Qx,Qy,Qz,QB,QC,QD,QE,QF,QG,QH,QI,QJ,QK,QL,QM,QN,QO,QP,QQ,QR,QS,QU,QV,QW,QX,QY,QZ,Q0,Q2,Q3,Q4,Q6,Q7,Q8,Q9,Ra,Rb,Rc,Re,Rf,Rg,Rh,Ri,Rj,Rk,Rl,Rm,Rn,Rp,Rq,Rs,Rt,Ru,Rv,Rw,Rx,Ry,Rz,RA,RB,RD,RF,RG,RH,RJ,rfl⟩:=wK hU
 have u1:y1=.int .i64 1:=u1;have u2:y2=.int .i64 0:=u2;have u3:y3=.slice A 3 c:=u3;have u4:y4=.int .i64 0:=u4;subst u1 u2 u3 u4;have Ja:BD w' w'.heap.size A BH:=by
  obtain⟨A',c',hv,hg⟩:=ho.Ll;have hA:A=A':=by injection hv
  subst hA;have hl:=sM;rw[Gp] at hl;have:aX ρ 3=BH:=by simpa using hl
  rw[<-this];exact hg
 have Iq:AQ An Fj zD false (Bn K) ((base 6).at ⟨#[y0,.int .i64 1,.int .i64 0,.slice A 3 c,.int .i64 0,y5,y6,y7,y8,y9,FQ,FT,FU,FV,FX,FY,FZ,F0,F2,H7,H8,H9,Ia,Ib,Ic,LW,LX,Qu,Qv,Qw,Qx,Qy,Qz,QB,QC,QD,QE,QF,QG,QH,QI,QJ,QK,QL,QM,QN,QO,QP,QQ,QR,QS,QU,QV,QW,QX,QY,QZ,Q0,Q2,Q3,Q4,Q6,Q7,Q8,Q9,Ra,Rb,Rc,Re,Rf,Rg,Rh,Ri,Rj,Rk,Rl,Rm,Rn,Rp,Rq,Rs,Rt,Ru,Rv,Rw,Rx,Ry,Rz,RA,RB,RD,RF,RG,RH,RJ],[]⟩ [.code P9]) ((base 6).at ⟨#[y0,.int .i64 1,.int .i64 0,.slice A 3 c,.int .i64 0,y5,y6,y7,y8,y9,FQ,FT,FU,FV,FX,FY,FZ,F0,F2,H7,H8,H9,Ia,Ib,Ic,LW,LX,Qu,Qv,Qw,Qx,Qy,Qz,QB,QC,QD,QE,QF,QG,QH,QI,QJ,QK,QL,QM,QN,QO,QP,QQ,QR,QS,QU,QV,QW,QX,QY,QZ,Q0,Q2,Q3,Q4,Q6,Q7,Q8,Q9,Ra,Rb,Rc,Re,Rf,Rg,Rh,Ri,Rj,Rk,Rl,Rm,Rn,Rp,Rq,Rs,Rt,Ru,Rv,Rw,Rx,Ry,Rz,RA,RB,RD,RF,RG,RH,RJ],[]⟩ [.code P9]):=by
  refine⟨rfl,?_,.cons (.code vP) .nil,.nil,.run,rfl,⟨(by show CallKind.normal≠.early;decide),(by show Fj 6=true;decide)⟩,.none⟩;exact BQ (l:=[y0,.int .i64 1,.int .i64 0,.slice A 3 c,.int .i64 0,y5,y6,y7,y8,y9,FQ,FT,FU,FV,FX,FY,FZ,F0,F2,H7,H8,H9,Ia,Ib,Ic,LW,LX,Qu,Qv,Qw,Qx,Qy,Qz,QB,QC,QD,QE,QF,QG,QH,QI,QJ,QK,QL,QM,QN,QO,QP,QQ,QR,QS,QU,QV,QW,QX,QY,QZ,Q0,Q2,Q3,Q4,Q6,Q7,Q8,Q9,Ra,Rb,Rc,Re,Rf,Rg,Rh,Ri,Rj,Rk,Rl,Rm,Rn,Rp,Rq,Rs,Rt,Ru,Rv,Rw,Rx,Ry,Rz,RA,RB,RD,RF,RG,RH,RJ]) N0
 have hs:=(dP (H:=zD) fH).seg (b:=base 6) (a:=⟨#[y0,.int .i64 1,.int .i64 0,.slice A 3 c,.int .i64 0,y5,y6,y7,y8,y9,FQ,FT,FU,FV,FX,FY,FZ,F0,F2,H7,H8,H9,Ia,Ib,Ic,LW,LX,Qu,Qv,Qw,Qx,Qy,Qz,QB,QC,QD,QE,QF,QG,QH,QI,QJ,QK,QL,QM,QN,QO,QP,QQ,QR,QS,QU,QV,QW,QX,QY,QZ,Q0,Q2,Q3,Q4,Q6,Q7,Q8,Q9,Ra,Rb,Rc,Re,Rf,Rg,Rh,Ri,Rj,Rk,Rl,Rm,Rn,Rp,Rq,Rs,Rt,Ru,Rv,Rw,Rx,Ry,Rz,RA,RB,RD,RF,RG,RH,RJ],[]⟩) (c:=P9) (k:=[]) (C:=C) (cs:=cs) (Q:=QT) (w:=w') (K0:=K) Iq (λ_ _=>xK _) (xK _) (λb _ hb=>by cases hb) (λb hb=>by cases hb) (λb hb _=>CU b hb)
  (λs h=>by cases h) (λ_ _ _ _ _ _ _ _ _ _ _ h=>by cases h) (.inr ⟨_,_,Ae,rfl⟩) hQT
  (N:=λe a' _=>e=.ret/\a'.tmps.getD 0 undef=.bool true/\a'.defers=[]) (λτ d=>uB A c y0 y5 y6 y7 y8 y9 FQ FT FU FV FX FY FZ F0 F2 H7 H8 H9 Ia Ib Ic LW LX Qu Qv Qw Qx Qy Qz QB QC QD QE QF QG QH QI QJ QK QL QM QN QO QP QQ QR QS QU QV QW QX QY QZ Q0 Q2 Q3 Q4 Q6 Q7 Q8 Q9 Ra Rb Rc Re Rf Rg Rh Ri Rj Rk Rl Rm Rn Rp Rq Rs Rt Ru Rv Rw Rx Ry Rz RA RB RD RF RG RH RJ (on w' τ d) Ja)
  (λa' w' h=>by cases h.1) (λa' w' todo hn hpl=>h a' todo w' hn.2.1 hn.2.2 hpl)
 exact hs
structure RR (f:FuncId) where
 fn:Func
 t:Nat
 hf:Tryz.prog.funcs[f]?=some fn
 hres:fn.results=#[.tmp t]
 looked:Fc f=true
 fr:Act->Frame
 N:Act->Prop
 back:∀a,N a->jK (AW.Left Tryz.prog f λv _=>v=.bool true) (fr a::[bad])
def fk {P:Program}{N K:Nat}{m m1 m2:Machine}{t t1 t2:Trace}(h:runNT P N m t=(.next m1,t1))(k:runNT P K m1 t1=(.next m2,t2)):runNT P (N+K) m t=(.next m2,t2):=by
 rw[cS h];exact k
def RS {f:FuncId}{fn:Func}{t:Nat}(hf:Tryz.prog.funcs[f]?=some fn)(hres:fn.results=#[.tmp t])(hb:Fc f=true){H:Hid}{β:AO}{g A:Goroutine}{w:World}(hg:CI PP Jm H true Fc [] β g A)(hl:AW.Left Tryz.prog f (λv _=>v=.bool true) g w)(W:World) :
  A.status=.running/\stepG Tryz.prog true A W=.ended (.done (.bool true)) W #[]:=by
 obtain⟨w0,v,fr,hs,rfl,rfl,Iq,hm,hd,hk,DZ,hfn,hr⟩:=hl;have DW:=hg.top.FL (show Fc fr.fn=true by rw[Iq];exact hb);have e0:=hg.status.2;have e1:=hg.dying.2;have e2:=hg.offers.2;have hcs:=hg.callers;obtain⟨FR,CS2,st,dy,off⟩:=A;dsimp only at e0 e1 e2 hcs DW;subst e0 e1 e2;have T6:CS2=[]:=by
  cases hcs with
  |base=>rfl
  |cons _ h=>exact absurd rfl h.ne
 subst T6;refine⟨rfl,?_⟩;obtain⟨Sc,tmps,todo,defers,mode,kind,round⟩:=fr;obtain⟨fn2,Hz,T7,J1,Pn,YN,Po⟩:=FR;obtain⟨a1,a2,a3,a4,a5,a6,a7,a8⟩:=DW;dsimp only[Bx] at a1 a2 a3 a4 a5 a6 a7 a8 hm hd hk hfn hr Iq;subst a1 a6 hm hd hk Iq;have d2:J1=[]:=by cases a4;rfl
 have m2:Pn=.returning:=by cases a5;rfl
 subst d2 m2;rw[hf] at hfn;cases hfn;have hv:tmps.getD t undef=.bool true:=by
  have:=results_tmp hres tmps Tryz.prog w0;rw[hr] at this;injection this with h1 _
  exact h1.symm
 have hV:=a2.getD t (Aw.undef (SP Jm H) β);rw[hv] at hV;have hV2:Hz.getD t undef=.bool true:=by
  generalize Hz.getD t undef=V at hV;cases hV;rfl
 have hr2:=results_tmp hres Hz Tryz.prog W;rw[hV2] at hr2;have he2:=events_results_tmp (P:=Tryz.prog) (w:=W) hres Hz #[];have hne:¬2=Sc:=λe=>by subst e;revert hb;decide
 simp[stepG,unwind,doReturn,hf,hr2,he2,seen,GStep.after,hne]
section
variable {f:FuncId}
def Gf (E:RR f)(g:Goroutine)(w:World):Prop:=∃a:Act,E.N a/\Mt (E.fr a::[bad]) g w
def uD (E:RR f){A:Goroutine}{W:World}{x:Lone}(ht:Tw PP Jm Fc true 0 (λ_=>False) ⟨λB=>B<W.heap.size,W,0⟩ x A W)(hx:Br Tryz.prog Fc (Gf E) 0 x.g x.w)(hT:x.T=[])(hH:∀b,x.H b=false) :
  ∃N last o w' t',runNT Tryz.prog (N+1) (crowd #[A] W none) #[]=(.ended o w',t')/\runN Tryz.prog N (crowd #[A] W none)=.next last/\step Tryz.prog last=.ended o w' /\
   Go.Conc.Good Tryz.prog (λv w'=>v=.bool true/\(w'.os=W.os/\w'.output=W.output)/\W.heap.size<=w'.heap.size/\∀B,B<W.heap.size->w'.heap[B]?=W.heap[B]?) last o w' t':=by
 have hb:Gd Tryz.prog (λ_=>False) #[A] W #[] (λ_=>0):=by
  refine⟨⟨λi g hi hg=>?_,λj _=>rfl⟩,⟨past_nil.clean,λi a ha=>?_,past_nil.over,past_nil.hears,λop hop=>by simp at hop⟩,λi op x h=>by simp at h,λi op h=>by simp at h,λB h=>h.elim⟩
  .have:=(xg.1 hg).1;simp at this;omega
  .simp[touchAt,Trace.act?] at ha
 obtain⟨N1,m1,t1,r1,JG,W1,NU,q1,x1,A1,rfl,a1,a2,a3,a4,a5,a6,a7,a8,a9,a10⟩:=Fo (P:=PP) (SB:=Jm) (BB:=Fc) (lets:=true) (Gn:=0) (Dead:=λ_=>False) (Kp:=⟨λB=>B<W.heap.size,W,0⟩) Nq Qd (H:=x.H) (T:=x.T) (β:=x.β) (Q:=Gf E) (λg w h=>by obtain⟨a,_,h⟩:=h;exact .inl (Mt.fn g w h)) (os:=W.os) (ou:=W) (n:=1) (b0:=x.w.heap.size) (B0:=W.heap.size) _ (crowd #[A] W none) #[]
  ⟨#[A],W,none,λ_=>0,x,A,0,rfl,rfl,rfl,.of hb,ht,hx,rfl,rfl,AO.le_refl _,⟨rfl,rfl⟩,⟨xh _,xh _,λb B h=>.inl h⟩,rfl⟩
 obtain⟨a,ha,UH⟩:=a5;have Ye:∀b,x1.H b=false:=λb=>by rw[a6];exact hH b
 obtain⟨N2,m2,t2,r2,XM,W2,S0,q2,A2,abk,g2,w2,rfl,b1,b2,b3,b4,b5,b6,b7,b8,b9⟩:=N7 (sl:=NU) a3.btw a4 a1 UH (AP _ _) Ye (by omega);obtain⟨N3,m3,t3,r3,Zx,W3,sl3,q3,x3,A3,rfl,c1,c2,c3,c4,c5,c6,c7,c8,c9,c10⟩:=Fo (P:=PP) (SB:=Jm) (BB:=Fc) (lets:=true) (Gn:=0) (Dead:=abk) (Kp:=⟨λB=>B<W.heap.size,W,0⟩) Nq Qd (H:=x1.H) (T:=x1.T) (β:=x1.β) (Q:=Qe (E.fr a::[bad])) (λg w h=>.inl (Qe.fn g w h)) (os:=W2.os) (ou:=W2) (n:=XM.size) (b0:=w2.heap.size) (B0:=W2.heap.size) _ (crowd XM W2 S0) t2
  ⟨XM,W2,S0,q2,⟨g2,w2,x1.H,x1.β,x1.T⟩,A2,0,rfl,b1,rfl,.of b3,b4,b5,rfl,rfl,AO.le_refl _,⟨rfl,rfl⟩,⟨xh _,xh _,λb B h=>.inl h⟩,rfl⟩
 obtain⟨N4,m4,t4,r4,Sj,W4,VR,q4,A4,UU,g4,w4,rfl,d1,d2,d3,d4,d5,d6,d7,d8,d9⟩:=Qf (sl:=sl3) AW.Left.same (E.back a ha) c3.btw c4 c1 c5 (AP _ _) (λb=>by rw[c6];exact Ye b) (by omega);obtain⟨N5,m5,t5,r5,gs5,W5,ZG,q5,x5,A5,rfl,f1,f2,f3,f4,f5,f6,f7,f8,f9,f10⟩:=Fo (P:=PP) (SB:=Jm) (BB:=Fc) (lets:=true) (Gn:=0) (Dead:=UU) (Kp:=⟨λB=>B<W.heap.size,W,0⟩) Nq Qd (H:=x3.H) (T:=x3.T) (β:=x3.β) (Q:=AW.Left Tryz.prog f λv _=>v=.bool true) (λg w h=>.inr ⟨f,_,h⟩) (os:=W4.os) (ou:=W4) (n:=Sj.size) (b0:=w4.heap.size) (B0:=W4.heap.size) _ (crowd Sj W4 VR) t4
  ⟨Sj,W4,VR,q4,⟨g4,w4,x3.H,x3.β,x3.T⟩,A4,0,rfl,d1,rfl,.of d3,d4,d5,rfl,rfl,AO.le_refl _,⟨rfl,rfl⟩,⟨xh _,xh _,λb B h=>.inl h⟩,rfl⟩
 have eT:x5.T=[]:=f7.trans (c7.trans (a7.trans hT));have hrun:=fk r1 (fk r2 (fk r3 (fk r4 r5)));have JD:=f4.gl;unfold BZ at JD;rw[eT] at JD;have M6:W5.os=W.os/\W5.output=W.output:=⟨f9.1.trans (d7.1.trans (c9.1.trans (b7.1.trans a9.1))),f9.2.trans (d7.2.trans (c9.2.trans (b7.2.trans a9.2)))⟩;have hsz:W.heap.size<=W5.heap.size:=by have:=f10.1;have:=c10.1;have:=a10.1;omega
 obtain⟨M,last,o,w',t',e1,e2,e3,e4⟩:=beside_ends (P:=Tryz.prog) (Shun:=Gy UU) (B:=W5.heap.size) (D:=λ_ _ _=>False) (Post:=λv w'=>v=.bool true/\(w'.os=W.os/\w'.output=W.output)/\W.heap.size<=w'.heap.size/\∀B,B<W.heap.size->w'.heap[B]?=W.heap[B]?) (λ_ _ _ h=>h.elim) (gs:=gs5) (a:=A5) (w:=W5) (sl:=ZG) (t:=t5) (q:=q5) (n:=0) f1 f3.btw.lv f3.btw.past (λw1 Eb=>by
  obtain⟨d,rfl⟩:=Eb;obtain⟨s1,s2⟩:=RS E.hf E.hres E.looked JD f5 (W5.at d)
  exact⟨s1,.bool true,#[],s2,λe he=>by simp at he,rfl,M6,hsz,λB hB=>(f4.keep B hB).2⟩)
 refine⟨N1+(N2+(N3+(N4+N5)))+M,last,o,w',t',?_,?_,e3,e4⟩
 .exact(cS hrun).trans e1
 .have h1:=congrArg Prod.fst (cS (K:=M) hrun);rw[runNT_fst,runNT_fst] at h1;exact h1.trans e2
end
end Go.Proofs.Ao
namespace Go.AW
def mo:∀(n:Nat) (V:Value),SizeOf.sizeOf V<=n->∃v,(∀(S:Cb) (β:AO),S.hid.bl=true->Aw S β v V)/\∀(S:Cb) (β:AO),Aw S β v v:=by
 intro n
 induction n with
 |zero=>intro V h;cases V<;>simp at h
 |succ n ih =>
  intro V h;have un:nz V=true->∃v,(∀(S:Cb) (β:AO),S.hid.bl=true->Aw S β v V)/\∀(S:Cb) (β:AO),Aw S β v v:=λhb=>⟨hole,λS β h=>.blank (.inr h) hb,λS β=>.blank (.inl rfl) rfl⟩;cases V with
  |agg X =>
   have hx:∀i:_root_.Fin X.size,∃v,(∀(S:Cb) (β:AO),S.hid.bl=true->Aw S β v X[i])/\∀(S:Cb) (β:AO),Aw S β v v:=λi=>ih _ (by
    have:=Array.sizeOf_getElem X i.1 i.2;simp at h;simp only[Fin.getElem_fin]
    omega)
   refine⟨.agg (Array.ofFn λi=>Classical.choose (hx i)),λS β hb=>.agg (by simp) λi v V h1 h2=>?_,λS β=>.agg rfl λi v V h1 h2=>?_⟩
   .obtain⟨hi,rfl⟩:=xg.1 h2;obtain⟨_,rfl⟩:=xg.1 h1;rw[zB];exact(Classical.choose_spec (hx ⟨i,hi⟩)).1 S β hb
   .rw[h1] at h2;cases h2;obtain⟨hi,rfl⟩:=xg.1 h1;rw[zB];exact(Classical.choose_spec (hx _)).2 S β
  |tuple X =>
   have hx:∀i:_root_.Fin X.size,∃v,(∀(S:Cb) (β:AO),S.hid.bl=true->Aw S β v X[i])/\∀(S:Cb) (β:AO),Aw S β v v:=λi=>ih _ (by
    have:=Array.sizeOf_getElem X i.1 i.2;simp at h;simp only[Fin.getElem_fin]
    omega)
   refine⟨.tuple (Array.ofFn λi=>Classical.choose (hx i)),λS β hb=>.tuple (by simp) λi v V h1 h2=>?_,λS β=>.tuple rfl λi v V h1 h2=>?_⟩
   .obtain⟨hi,rfl⟩:=xg.1 h2;obtain⟨_,rfl⟩:=xg.1 h1;rw[zB];exact(Classical.choose_spec (hx ⟨i,hi⟩)).1 S β hb
   .rw[h1] at h2;cases h2;obtain⟨hi,rfl⟩:=xg.1 h1;rw[zB];exact(Classical.choose_spec (hx _)).2 S β
  |pointer a=>cases a with
   |none=>exact⟨.pointer none,λ_ _ _=>.Eh,λ_ _=>.Eh⟩
   |some a=>exact un rfl
  |bool b=>exact⟨.bool b,λ_ _ _=>.bool b,λ_ _=>.bool b⟩
  |int k n=>exact⟨.int k n,λ_ _ _=>.int k n,λ_ _=>.int k n⟩
  |string s=>exact⟨.string s,λ_ _ _=>.string s,λ_ _=>.string s⟩
  |nilIface=>exact⟨.nilIface,λ_ _ _=>.nilIface,λ_ _=>.nilIface⟩
  |nilFunc=>exact⟨.nilFunc,λ_ _ _=>.nilFunc,λ_ _=>.nilFunc⟩
  |func f x c=>cases f with
   |method n=>exact⟨hm,λ_ _ h=>.Bt (.inr h),λ_ _=>.Bt (.inl rfl)⟩
   |_=>exact un rfl
  |_=>exact un rfl
noncomputable def fI (V:Value):Value:=Classical.choose (mo (SizeOf.sizeOf V) V (xh _))
def iR (V:Value):(∀(S:Cb) (β:AO),S.hid.bl=true->Aw S β (fI V) V)/\∀(S:Cb) (β:AO),Aw S β (fI V) (fI V):=Classical.choose_spec (mo (SizeOf.sizeOf V) V (xh _))
noncomputable def cA (k:Nat->Bool)(C:Array Value):Array Value:=C.mapIdx λi V=>if k i then V else fI V
def ie (k:Nat->Bool)(C:Array Value):(cA k C).size=C.size:=by simp[cA]
def fv (k:Nat->Bool)(C:Array Value)(i:Nat):(cA k C)[i]?=(C[i]?).map λV=>if k i then V else fI V:=by simp[cA]
def lq {k:Nat->Bool}{C:Array Value}{i:Nat}(h:k i=true):(cA k C)[i]?=C[i]?:=by
 rw[fv];simp[h]
def na {S:Cb}{β:AO}{k:Nat->Bool}{C:Array Value}(hb:S.hid.bl=true)(h:∀i v,k i=true->C[i]?=some v->Aw S β v v):AA S β (cA k C) C:=by
 refine⟨ie _ _,λi v V h1 h2=>?_⟩;rw[fv,h2] at h1;simp only[yq,Option.some.injEq] at h1;subst h1;split
 .exact h i V ‹_› h2
 .exact(iR V).1 S β hb
def mp {S:Cb}{β:AO}{k:Nat->Bool}{C:Array Value}(h:∀i v,k i=true->C[i]?=some v->Aw S β v v):AA S β (cA k C) (cA k C):=by
 refine⟨rfl,λi v V h1 h2=>?_⟩;rw[h1] at h2;cases h2;rw[fv] at h1;cases hC:C[i]? with
 |none=>rw[hC] at h1;cases h1
 |some V =>
  rw[hC] at h1;simp only[yq,Option.some.injEq] at h1;subst h1;split
  .exact h i V ‹_› hC
  .exact(iR V).2 S β
noncomputable def iC (k:Nat->Bool):Obj->Obj
 |.cells C t f=>.cells (cA k C) t (0,max C.size f.2)
 |o=>o
noncomputable def bK (K:Nat->Bool)(k:Nat->Nat->Bool)(W:World):World:={ W with heap:=W.heap.mapIdx λb o=>if K b then iC (k b) o else o }
section
variable {K:Nat->Bool} {k:Nat->Nat->Bool} {W:World}
def nd:(bK K k W).heap.size=W.heap.size:=by simp[bK]
def jN (b:Nat):(bK K k W).heap[b]?=(W.heap[b]?).map λo=>if K b then iC (k b) o else o:=by simp[bK]
def eQ {b:Nat}(hb:K b=true){C:Array Value}{t:TypeId}{f:Nat×Nat}(h:W.heap[b]?=some (.cells C t f)):(bK K k W).heap[b]?=some (.cells (cA (k b) C) t (0,max C.size f.2)):=by
 rw[jN,h];simp[hb,iC]
def nf {b o:Nat}(h:K b=true->k b o=true):(bK K k W).cell? ⟨b,o,none⟩=W.cell? ⟨b,o,none⟩:=by
 unfold World.cell?;dsimp only;rw[jN];cases hb:K b with
 |false=>cases W.heap[b]?<;>simp
 |true =>
  cases hW:W.heap[b]? with
  |none=>rfl
  |some o' =>
   cases o' with
   |cells C t f=>simp[iC,lq (h hb)]
   |_=>rfl
def qZ {b:Nat}(hb:K b=true){C:Array Value}{t:TypeId}{f:Nat×Nat}(h:W.heap[b]?=some (.cells C t f)):Ro (bK K k W) b :=
 ⟨_,_,_,eQ hb h,λi hi=>by
  rw[ie] at hi
  exact⟨xK _,xl hi (Nat.le_max_left _ _)⟩⟩
def LD (S:Cb)(K:Nat->Bool)(k:Nat->Nat->Bool)(W:World):Prop:=∀b,K b=true->∃C t f,W.heap[b]?=some (.cells C t f)/\∀i v,k b i=true->C[i]?=some v->Aw S (Bn λb=>K b=true) v v
def ni {S:Cb}{Ck:Code->Prop}(hb:S.hid.bl=true)(hh:∀b,S.hid b=false)(h:LD S K k W):Bg S Ck 0 (Bn λb=>K b=true) (bK K k W) W:=by
 refine⟨⟨λh1 h2=>h1.2.symm.trans h2.2,λh1 h2=>h1.2.trans h2.2.symm,λ_=>⟨xK _,xK _⟩⟩,⟨xK _,xK _⟩,λb B hB _=>?_,λb B _ h=>?_,λb h=>?_,rfl⟩
 .obtain⟨hk,rfl⟩:=hB;obtain⟨C,t,f,h1,h2⟩:=h b hk;exact⟨_,_,eQ hk h1,h1,.cells (na hb h2) λi _ hi=>⟨xK _,xl hi (Nat.le_max_right _ _)⟩⟩
 .rw[hh] at h;cases h
 .rw[hh] at h;cases h
def LF {S:Cb}{Ck:Code->Prop}(h:LD S K k W):∀b,K b=true->∃o,(bK K k W).heap[b]?=some o/\Bw S Ck (Bn λb=>K b=true) o o:=λb hk=>by
 obtain⟨C,t,f,h1,h2⟩:=h b hk;exact⟨_,eQ hk h1,.cells (mp h2) λi h1 h2=>⟨h1,h2⟩⟩
end
def Hid.nb:Hid:=⟨λ_=>false,false,true⟩
end Go.AW
namespace Go.Proofs.Ao
open Go.RowKit Go.AW Go.Co Go.Conc Go.ConcN Go.Sq
end Go.Proofs.Ao
namespace Go.AW
def aR (P:Program)(tgt:List Item)(C:Code)(N:Act->World->Prop)(a:Act)(w:World):Prop :=
 ∀(b:Frame) (k:List Item) (cs:List Frame),∃a' w',N a' w'/\Steps P (lone (b.at a (.code C::k)) cs w) (lone (b.at a' (tgt++k)) cs w')
section
variable {P:Program} {tgt:List Item} {C c r:Code} {N:Act->World->Prop} {a:Act} {w:World}
def nj (h:c.wp P (Exit.then (aR P tgt r N) λ_ _ _=>False) a w):aR P tgt (.seq c r) N a w:=λb k cs=>by
 obtain⟨e,a1,w1,hq,NH⟩:=h b (.code r::k) cs;cases e with
 |normal =>
  obtain⟨a2,w2,hn,hs⟩:=hq b k cs;exact⟨a2,w2,hn,.head step_seq (Steps.trans NH hs)⟩
 |_=>exact hq.elim
def ba (h:∀K:Act->World->Prop,(∀a w,aR P tgt r N a w->K a w)->c.wp P (Exit.then K λ_ _ _=>False) a w):aR P tgt (.seq c r) N a w :=
 nj (h _ λ_ _ h=>h)
def iS (h:aR P tgt c N a w):aR P (tgt++[.code r]) (.seq c r) N a w:=λb k cs=>by
 obtain⟨a',w',hn,hs⟩:=h b (.code r::k) cs;exact⟨a',w',hn,.head step_seq (by simpa using hs)⟩
def ig {t:Operand}{x y:Code}{v:Bool}(hv:a.eval t=.bool v)(h:aR P tgt (if v then x else y) N a w):aR P tgt (.cond t x y) N a w:=λb k cs=>by
 obtain⟨a',w',hn,hs⟩:=h b k cs;exact⟨a',w',hn,.head (step_cond hv) hs⟩
def RU {ops:Array Oper}{N K:Act->World->Prop}{i:Nat}{a:Act}{w:World}(h:wpOp P ops (Exit.then N λ_ _ _=>False) i K a w)(b:Frame)(l2:List Nat)(k:List Item)(cs:List Frame) :
  ∃a' w',K a' w'/\Steps P (lone (b.at a (.inRegion ops (i::l2)::k)) cs w) (lone (b.at a' (.inRegion ops l2::k)) cs w'):=by
 simp only[wpOp] at h;cases ho:ops[i]? with
 |none =>
  simp only[ho] at h;have hst:=step_op_skip (P:=P) (b:=b) (a:=a) (k:=k) (cs:=cs) (w:=w) (ops:=ops) (i:=i) (rest:=l2) (by simp[ho]);simp only[ho,Option.bind_none,Act.put] at hst;exact⟨a,w,h,.head hst (.refl _ _)⟩
 |some o =>
  simp only[ho] at h;have Gi:∀v,(b.at a (.inRegion ops (i::l2)::k)).finish v=b.at (a.put o.dst v) (.inRegion ops l2::k):=λv=>by
   rw[Frame.finish_at,ho];rfl
  by_cases hw:Region.wanted o (yielded ops a.tmps)=true
  .simp only[hw,if_true] at h;rcases h with h|⟨_,a0,w0,hq⟩
   case inr=>exact hq.elim
   have hg:=stepG_op (P:=P) (b:=b) (k:=k) (cs:=cs) (w:=w) (rest:=l2) ho hw;simp only[Oper.wp,Oper.upon] at h;split at h
   .rename_i v w' hr;exact⟨_,_,h,.head (step_lone_go (by rw[hg,<-Gi];simp[stepG.apply,hr])) (.refl _ _)⟩
   .rename_i w' hr;exact⟨_,_,h,.head (step_lone_go (by rw[hg,<-Gi];simp[stepG.apply,hr])) (.refl _ _)⟩
   .rename_i d w' hr;have hd:({ b.at a (.inRegion ops (i::l2)::k) with defers:=d::a.defers }:Frame).finish undef=b.at ({ a with defers:=d::a.defers }.put o.dst undef) (.inRegion ops l2::k):=by
     have:=Frame.finish_at b { a with defers:=d::a.defers } ops i l2 k undef;rw[ho] at this;exact this
    refine⟨_,_,h,.head (step_lone_go ?_) (.refl _ _)⟩;rw[hg];simp only[stepG.apply,Sem.runT_eq,hr,GStep.bare_after];exact congrArg (λfr=>GStep.go { frame:=fr,callers:=cs,status:=.running,dying:=none } w') hd
   .rename_i f args w' hr;obtain⟨e,w2,fr,hR,hst,_,hlv⟩:=h (b.at a (.inRegion ops (i::l2)::k)::cs);have hen:step P (lone (b.at a (.inRegion ops (i::l2)::k)) cs w)=.next (lone (Frame.enter P f args .normal) (b.at a (.inRegion ops (i::l2)::k)::cs) w') :=
     step_lone_go (by rw[hg];simp[stepG.apply,hr,Frame.at])
    cases e with
    |returned v =>
     refine⟨_,_,hR,.head hen (hst.trans (.head ?_ (.refl _ _)))⟩;rw[<-Gi];exact step_leave_returned hlv
    |panicked chain=>exact hR.elim
    |outgrown =>
     obtain⟨a0,w0,hq⟩:=hR;exact hq.elim
   .rename_i row args w' hr;obtain⟨v,w2,hR,hst⟩:=h (b.at a (.inRegion ops (i::l2)::k)) cs;have hen:step P (lone (b.at a (.inRegion ops (i::l2)::k)) cs w)=.next (lone (Frame.ofRow P row args .normal) (b.at a (.inRegion ops (i::l2)::k)::cs) w') :=
     step_lone_go (by rw[hg];simp[stepG.apply,hr,Frame.at])
    refine⟨_,_,hR,.head hen (Steps.trans ?_ (.refl _ _))⟩;rw[<-Gi];exact hst
   .exact h.elim
   .exact h.elim
  .simp only[hw,if_false,xJ] at h;have hst:=step_op_skip (P:=P) (b:=b) (a:=a) (k:=k) (cs:=cs) (w:=w) (ops:=ops) (i:=i) (rest:=l2) (by simp[ho];simpa using hw);simp only[ho,yd] at hst;exact⟨_,_,h,.head hst (.refl _ _)⟩
def Om {ops:Array Oper}{K:Act->World->Prop}(l2:List Nat)(l:List Nat):∀(a:Act) (w:World),wpOps P ops (Exit.then K λ_ _ _=>False) l a w->∀(b:Frame) (k:List Item) (cs:List Frame),
  ∃a' w',K a' w'/\Steps P (lone (b.at a (.inRegion ops (l++l2)::k)) cs w) (lone (b.at a' (.inRegion ops l2::k)) cs w'):=by
 induction l with
 |nil=>exact λa w h b k cs=>⟨a,w,h,.refl _ _⟩
 |cons i rest ih =>
  intro a w h b k cs;rw[wpOps_cons] at h;obtain⟨a1,w1,h1,h2⟩:=RU h b (rest++l2) k cs;obtain⟨a2,w2,h3,h4⟩:=ih a1 w1 h1 b k cs;exact⟨a2,w2,h3,h2.trans h4⟩
def pu {ops:Array Oper}{Q:Exit->Act->World->Prop}(l:List Oper):∀k,(∀j,j<l.length->l[j]?=ops[k+j]?)->wpOps P ops Q (List.range' k l.length)=wpList P ops Q l:=by
 induction l with
 |nil=>intro k _;funext a w;simp[wpOps,wpList]
 |cons o l ih =>
  intro k h;have h0:ops[k]?=some o:=by simpa using(h 0 (by simp)).symm
  have ih':=ih (k+1) λj hj=>by have:=h (j+1) (by simpa using hj);simpa [zd,Nat.add_comm 1 j] using this
  funext a w;simp only[xz,List.range'_succ,wpOps,h0,wpList,ih']
def km {id:Nat}{ops:Array Oper}{l:List Oper}{l2:List Nat}(hl:∀j,j<l.length->l[j]?=ops[j]?)(h2:List.range ops.size=List.range' 0 l.length++l2)(h:wpList P ops (Exit.then N λ_ _ _=>False) l a w):aR P [.inRegion ops l2] (.region id ops false) N a w:=λb k cs=>by
 rw[<-pu l 0 (λj hj=>by rw[xG];exact hl j hj)] at h;obtain⟨a',w',hq,hs⟩:=Om l2 _ a w h b k cs;exact⟨a',w',hq,.head step_region (by rw[h2];exact hs)⟩
end
section
variable {P:Program} {SB:FuncId->Bool} {H:Hid} {G:Nat}
def Fq (b:Frame)(tgt:List Item)(cs:List Frame)(N:Act->World->Prop)(g:Goroutine)(w:World):Prop :=
 ∃a' w0,AR w0 w/\N a' w0/\g=Bx (b.at a' tgt) cs
def Fq.same {b:Frame}{tgt:List Item}{cs:List Frame}{N:Act->World->Prop}(g:Goroutine)(w W:World)(h:AR w W)(q:Fq b tgt cs N g w):Fq b tgt cs N g W:=by
 obtain⟨a',w0,h1,h2⟩:=q;exact⟨a',w0,h1.trans h,h2⟩
def IB (L:Lib (Ba.of P) SB H false SB G){b:Frame}{a:Act}{tgt:List Item}{C:Code}{k:List Item}{cs:List Frame}{w:World}{N:Act->World->Prop}(hne:cs≠[])(hs:Self P SB H G (Bx (b.at a (.code C::k)) cs) w)
  (h:∀τ d,aR P tgt C N a (on w τ d)):AG P (Self P SB H G) (Fq b (tgt++k) cs N) (Bx (b.at a (.code C::k)) cs) w:=by
 refine eJ L Fq.same ⟨hs,λτ d=>?_⟩;obtain⟨a',w',hn,n,hr⟩:=h τ d b k cs;exact da L (hs.same zC) hr hne ⟨a',w',⟨rfl,rfl,rfl⟩,hn,rfl⟩
end
section
variable {P:Ba} {AZ BC BB:FuncId->Bool} {H:Hid} {G:Nat} {Q:Goroutine->World->Prop}
def Fx.Xa (B:Fx P AZ BC BB H G){b:Frame}{a:Act}{tgt:List Item}{c:Code}{k:List Item}{C:Frame}{cs:List Frame}{K0:Nat->Prop}{w:World}
  (Iq:AQ P.a AZ H false (Bn K0) (b.at a (.code c::k)) (b.at a (.code c::k)))
  (BU:∀b,K0 b->G<=b) (hroom:G<=w.heap.size) (Hg:∀b,K0 b->H b=true->H.BA=true/\w.heap[b]?=some (.coro none)) (hold:∀b,H b=true->b<w.heap.size) (CU:∀b,K0 b->H b=false->∃o,w.heap[b]?=some o/\Bw (SP AZ H) (CK P.a AZ false) (Bn K0) o o)
  (hk:∀c t,tgt++k≠.code c::t) (hbl:BC b.fn=true\/∃fn s,P.a.funcs[b.fn]?=some fn/\fn.body=some (.refuse s)) (hQ:∀g w W,AR w W->Q g w->Q g W) {N:Act->World->Prop}
  (hc:∀τ d,aR P.a tgt c N a (on w τ d))
  (h1:∀a' w',N a' w'->Br P.b BB Q 0 (Bx (b.at a' (tgt++k)) (C::cs)) w') :
  Br P.b BB Q 0 (Bx (b.at a (.code c::k)) (C::cs)) w:=by
 have h0:=B.run (Qa:=Fq b (tgt++k) [bad] N) Fq.same (λg w f' hl hf' hlk e=>by
  obtain⟨a',w0,_,_,rfl⟩:=hl;have e3:b.fn=f':=e;rcases hbl with h|⟨fn,s,r1,r2⟩
  .rw[e3,hf'] at h;cases h
  .obtain⟨x,y,fn2,r,o1,o2,s2,fn3,hp,_⟩:=hlk;have:=hp.func;rw[<-e3,r1] at this;cases this;have:=hp.text;rw[r2] at this
   cases this) (C:=C) (cs:=cs) (.on Iq) (.on Iq) BU hroom Hg hold CU λhs=>IB (N:=N) (tgt:=tgt) B.la (by simp) hs hc
 refine h0.bind λg2 w' hq=>?_;obtain⟨g',w0,Ax,q1,q2,q3,q4,q5⟩:=hq;have DW:AQ P.a AZ H false Ax g'.frame g2.frame:=by
  have B9:=q4.top;obtain⟨a',wl,l1,l2,l3⟩:=q1;generalize hf:g'.frame=fr at B9 ⊢;generalize g2.frame=FR at B9 ⊢;cases B9 with
  |on h=>exact h
  |@stop f A A' kd s1 s2 s3 s4 =>
   exfalso;rcases B.ref f s1 s2 with⟨fn,s,r1,r2⟩|⟨x,y,fn,r,o1,o2,s,fn3,hp,_⟩
   .subst l3;have:=congrArg Frame.todo hf;simp only[Go.AW.Bx,Frame.enter,r1,Frame.at] at this;exact hk _ _ this
   .subst l3;have:=congrArg Frame.todo hf;simp only[Go.AW.Bx,Frame.enter,hp.func,Frame.at] at this;exact hk _ _ this
 have eF:g'.frame=g2.frame:=AQ.id (P:=Ba.of P.a) q3 DW;have e2:g2=Bx g2.frame g2.callers:=by
  obtain⟨x1,x2,x3,x4,x5⟩:=g2;obtain⟨_,_,⟨_,s1⟩,⟨_,d1⟩,⟨_,o1⟩⟩:=q4;dsimp only at *;subst s1 d1 o1
  rfl
 obtain⟨a',wl,l1,l2,l3⟩:=q1;have T6:g2.callers=C::cs:=by
  have:=q4.callers;rw[show g'.callers=[bad] by rw[l3];rfl] at this;generalize g2.callers=X at this;cases this with
  |base=>rfl
  |cons _ h=>exact absurd rfl h.ne
 rw[e2,T6,<-eF,l3];exact(h1 a' wl l2).same hQ (l1.trans q2)
end
end Go.AW
namespace Go.Proofs.Ao
open Go.RowKit Go.AW Go.Co Go.Conc Go.ConcN Go.Sq
inductive LG (ops:Array Oper):List Nat->Act->Act->Prop
 |nil (a:Act):LG ops [] a a
 |cons {i:Nat} {rest:List Nat} {a a':Act} {o:Oper} {v:Value}:ops[i]?=some o->Region.wanted o (yielded ops a.tmps)=true->aJ Tryz.prog o.op=true->(∀w,(execOp a.eval o).run Tryz.prog w=.ok (.value v) w)->LG ops rest (a.put o.dst v) a'->LG ops (i::rest) a a'
def q8 {Q:Goroutine->World->Prop}(hQ:∀g w W,AR w W->Q g w->Q g W){b:Frame}(hB:Fc b.fn=true)(hk:b.kind≠.early){ops:Array Oper}{k:List Item}{C:Frame}{cs:List Frame}{w:World}{rest:List Nat}{a a':Act}(h:LG ops rest a a')
  (he:Br Tryz.prog Fc Q 0 (Go.Conc.G (b.at a' (.inRegion ops []::k)) (C::cs)) w):Br Tryz.prog Fc Q 0 (Go.Conc.G (b.at a (.inRegion ops rest::k)) (C::cs)) w:=by
 induction h with
 |nil a=>exact he
 |@cons i rest a a' o v ho hw pl hv _ ih =>
  have hn:bJ Tryz.prog (.inRegion ops (i::rest)::k)=true:=by
   show(match ops[i]? with|some o=>aJ Tryz.prog o.op|none=>true)=true;rw[ho];exact pl
  refine aA hQ hB hn λτ d=>?_;rw[stepG_value ho hw hk (hv _)];simp only[goes_go];exact⟨AP _ _,w,zC,ih he⟩
structure LawIn (f:FuncId)(ops:Array Oper)(i:Nat)(rest:List Nat)(more:List Item) where
 fn:Func
 o:Oper
 d:Nat
 t:Nat
 n:Nat
 N:Act->Prop
 hf:Tryz.prog.funcs[f]?=some fn
 ho:ops[i]?=some o
 Xb:o.dst=some d
 hop:∃ts,o.op=.call { callee:=.value (.func 6),args:=#[],argTypes:=ts }
 plain:aJ Tryz.prog o.op=true
 hres:fn.results=#[.tmp t]
 looked:Fc f=true
 hn:fn.ntmps=n
 want:∀a,N a->Region.wanted o (yielded ops a.tmps)=true
 NM:∀a,N a->a.defers=[]
 pure:∀a,N a->∃a',LG ops rest (a.put (some d) (.bool true)) a'/\a'.defers=[]/\a'.tmps.getD t undef=.bool true
section
variable {f:FuncId} {ops:Array Oper} {i:Nat} {rest:List Nat} {more:List Item}
def LawIn.tgt (_:LawIn f ops i rest more):List Item:=.inRegion ops (i::rest)::.code .ret::more
def LawIn.fr (E:LawIn f ops i rest more)(a:Act):Frame:=(base f).at a E.tgt
def LawIn.go (E:LawIn f ops i rest more){a:Act}(ha:E.N a){cs:List Frame}(hcs:cs≠[]){w:World}:Br Tryz.prog Fc (Mt (E.fr a::cs)) 0 (Go.Conc.G ((base f).at a E.tgt) cs) w:=by
 have hQ:∀g w W,AR w W->Mt (E.fr a::cs) g w->Mt (E.fr a::cs) g W:=Mt.same;have hB:Fc (base f).fn=true:=E.looked;obtain⟨ts,g3⟩:=E.hop;have hn:bJ Tryz.prog E.tgt=true:=by
  show(match ops[i]? with|some o=>aJ Tryz.prog o.op|none=>true)=true;rw[E.ho];exact E.plain
 refine aA hQ hB hn λτ d=>?_;refine aG (o:=E.o) E.ho (E.want a ha) (by show CallKind.normal≠.early;decide) g3 Tryz.func6 (by kernel_rfl) (by kernel_rfl) ⟨AP _ _,w,zC,?_⟩;have em:(#[]:Array Operand).map a.eval=#[]:=by simp
 rw[em];exact uk (cs:=E.fr a::cs) (AP _ _) w
def LawIn.back (E:LawIn f ops i rest more){a:Act}(ha:E.N a):jK (AW.Left Tryz.prog f λv _=>v=.bool true) (E.fr a::[bad]):=by
 have hQ:∀g w W,AR w W->AW.Left Tryz.prog f (λv _=>v=.bool true) g w->AW.Left Tryz.prog f (λv _=>v=.bool true) g W:=AW.Left.same;have hB:Fc (base f).fn=true:=E.looked;refine uC hQ λa' todo w' hv Me hpl=>?_;refine qY hQ (by show Fc 6=true;decide) hpl λτ dd=>?_;refine goes_leave1 (b:=base 6) (b₀:=base f) (a₀:=a) (ops:=ops) (i:=i) (rest:=rest) (k:=.code .ret::more) rfl Me Tryz.func6 rfl ⟨AP _ _,w',zC,?_⟩
 rw[hv];have e1:(ops[i]?.bind (·.dst))=some E.d:=by rw[E.ho];exact E.Xb
 rw[e1];obtain⟨a2,hp,LL,afY⟩:=E.pure a ha;refine q8 hQ hB (by show CallKind.normal≠.early;decide) hp ?_;refine aA hQ hB rfl λτ dd=>?_;rw[stepG_region_end];simp only[goes_go];refine⟨AP _ _,w',zC,?_⟩;refine aA hQ hB rfl λτ dd=>?_;rw[stepG_ret'];simp only[goes_go];refine⟨AP _ _,w',zC,.fin ?_⟩;refine⟨w',.bool true,_,⟨rfl,rfl,rfl⟩,rfl,rfl,rfl,rfl,LL,rfl,E.fn,E.hf,?_⟩;have:=results_tmp E.hres a2.tmps Tryz.prog w'
 rw[afY] at this;exact this
noncomputable def LawIn.RV (E:LawIn f ops i rest more):RR f where
 fn:=E.fn
 t:=E.t
 hf:=E.hf
 hres:=E.hres
 looked:=E.looked
 fr:=E.fr
 N:=E.N
 back _ h:=E.back h
variable {K:Nat->Bool} {k:Nat->Nat->Bool} {W:World} {args:Array Value}
def pv (E:LawIn f ops i rest more){C:Code}(IL:E.fn.body=some C)(hput:(f != 6&&GN f)=true)(LV:Fj f=true)(RX:codeOk An Fj false true C=true)(OE:∀S,LD S K k W)(C8:∀S,AA S (Bn λb=>K b=true) args args)
  (hgo:∀τ d,aR An E.tgt C (λa _=>E.N a) ⟨args++Array.replicate (E.n-args.size) undef,[]⟩ (on (bK K k W) τ d)) :
  Br Tryz.prog Fc (Gf E.RV) 0 (Go.Conc.G (Frame.enter Tryz.prog f args .normal) [bad]) (bK K k W):=by
 have hQ:∀g w W,AR w W->Gf E.RV g w->Gf E.RV g W:=λg w W s ⟨a,h1,h3⟩=>⟨a,h1,Mt.same g w W s h3⟩;rw[enter_at _ E.hf IL,E.hn];have Iq:AQ An Fj zD false (Bn λb=>K b=true) ((base f).at ⟨args++Array.replicate (E.n-args.size) undef,[]⟩ [.code C]) ((base f).at ⟨args++Array.replicate (E.n-args.size) undef,[]⟩ [.code C]) :=
  ⟨rfl,(C8 _).append (.replicate (.undef _ _) _),.cons (.code RX) .nil,.nil,.run,rfl,⟨(by show CallKind.normal≠.early;decide),LV⟩,.none⟩
 refine(dP (H:=zD) fH).Xa (b:=base f) (a:=⟨args++Array.replicate (E.n-args.size) undef,[]⟩) (tgt:=E.tgt) (c:=C) (k:=[]) (C:=bad) (cs:=[]) (Q:=Gf E.RV) (w:=bK K k W) (K0:=λb=>K b=true) Iq (λ_ _=>xK _) (xK _) (λb _ hb=>by cases hb) (λb hb=>by cases hb) (λb hb _=>LF (OE _) b hb)
  (λc t h=>by simp[LawIn.tgt] at h) (.inr ⟨_,_,Sq.put E.hf hput,rfl⟩) hQ (N:=λa _=>E.N a) hgo (λa' w' hn=>?_)
 rw[List.append_nil];exact(E.go hn (AP _ _)).mono λg w h=>⟨a',hn,h⟩
def iT (E:LawIn f ops i rest more){C:Code}(IL:E.fn.body=some C)(hput:(f != 6&&GN f)=true)(LV:Fj f=true)(hsm:Jm f=true)(RX:codeOk An Fj false true C=true)(OE:∀S,LD S K k W)(C8:∀S,AA S (Bn λb=>K b=true) args args)
  (hgo:∀τ d,aR An E.tgt C (λa _=>E.N a) ⟨args++Array.replicate (E.n-args.size) undef,[]⟩ (on (bK K k W) τ d)) :
  ∃M last o w' t',runNT Tryz.prog (M+1) (solo (Go.Conc.G (Frame.enter Tryz.prog f args .normal) []) W) #[]=(.ended o w',t')/\runN Tryz.prog M (solo (Go.Conc.G (Frame.enter Tryz.prog f args .normal) []) W)=.next last/\step Tryz.prog last=.ended o w' /\
   Go.Conc.Good Tryz.prog (λv w'=>v=.bool true/\(w'.os=W.os/\w'.output=W.output)/\W.heap.size<=w'.heap.size/\∀B,B<W.heap.size->w'.heap[B]?=W.heap[B]?) last o w' t' :=
 uD E.RV (A:=Go.Conc.G (Frame.enter Tryz.prog f args .normal) []) (W:=W) (x:=⟨Go.Conc.G (Frame.enter Tryz.prog f args .normal) [bad],bK K k W,Hid.nb,Bn λb=>K b=true,[]⟩)
  ⟨⟨BK (P:=PP) (Nq _) (.inl hsm) (C8 _) .normal (by decide),.base,⟨rfl,rfl⟩,⟨rfl,rfl⟩,⟨rfl,rfl⟩⟩,ni rfl (λ_=>rfl) (OE _),rfl,λ_ _ _ h=>h.elim,λB hB=>⟨hB,rfl⟩,λb B hb _=>by
   obtain⟨hk,rfl⟩:=hb;obtain⟨C,t,f,h1,_⟩:=OE (SP Jm Hid.nb) b hk
   exact .inr (qZ hk h1)⟩ (pv E IL hput LV RX OE C8 hgo) rfl λ_=>rfl
end
end Go.Proofs.Ao
namespace Go.AW
open Classical
noncomputable def JS (W:World)(b:Nat):Bool:=decide (∃C t f,W.heap[b]?=some (.cells C t f))
def Fa (W:World)(v:Value):Prop:=∀S:Cb,Aw S (Bn λb=>JS W b=true) v v
noncomputable def Nt (W:World)(b i:Nat):Bool:=decide (∀C t f v,W.heap[b]?=some (.cells C t f)->C[i]?=some v->Fa W v)
noncomputable abbrev Et (W:World):World:=bK (JS W) (Nt W) W
def jO (W:World)(S:Cb):LD S (JS W) (Nt W) W:=λb hb=>by
 obtain⟨C,t,f,h⟩:=of_decide_eq_true hb;exact⟨C,t,f,h,λi v hk hv=>of_decide_eq_true hk C t f v h hv S⟩
def F4 {W:World}{a:Addr}{v:Value}(h:W.cell? a=some v):a.spot=none/\∃C t f,W.heap[a.block]?=some (.cells C t f)/\C[a.off]?=some v:=by
 unfold World.cell? at h;split at h
 .rename_i C t f hC;cases hs:a.spot with
  |none=>rw[hs] at h;exact⟨rfl,_,_,_,hC,h⟩
  |some s=>rw[hs] at h;cases h
 .cases h
def ca {W:World}{b o:Nat}{v:Value}(h:W.cell? ⟨b,o,none⟩=some v)(hv:Fa W v):(Et W).cell? ⟨b,o,none⟩=some v:=by
 unfold Et;rw[nf λ_=>?_]
 .exact h
 .obtain⟨_,C,t,f,h1,h2⟩:=F4 h;refine decide_eq_true λC' t' f' v' YC MQ=>?_;rw[h1] at YC;cases YC;rw[h2] at MQ;cases MQ;exact hv
def fl {W:World}(k:IntKind)(n:Int):Fa W (.int k n):=λ_=>.int _ _
def bT {W:World}{A:Option Addr}{len cap:Nat}(hl:len<=cap)(h:∀a,A=some a->0<cap->∃v,W.cell? a=some v):Fa W (.slice A len cap):=λS=>by
 cases A with
 |none=>exact .DF _ _
 |some a =>
  obtain⟨b,o,s⟩:=a;rcases xV cap with e|e
  .subst e;obtain rfl:len=0:=by omega
   exact .BP (.inl rfl)
  .obtain⟨v,hv⟩:=h _ rfl e;obtain⟨_,C,t,f,h1,_⟩:=F4 hv;exact .slice _ _ _ _ ⟨decide_eq_true ⟨C,t,f,h1⟩,rfl⟩
def iD {b o n:Nat}:(⟨b,o,none⟩:Addr).add n=⟨b,o+n,none⟩:=by
 unfold Addr.add;split
 .rename_i h;have h0:n=0:=h;subst h0;rfl
 .rfl
def add_zero (a:Addr):a.add 0=a:=by unfold Addr.add;rfl
end Go.AW
namespace Go.Sq
open Go.RowKit Go.AW Go.ChangeShapes Go.Deep
def kP {W:World}{a:Addr}{l:List Int}(h:∀i,i<l.length->W.cell? (a.add i)=some (.int .i64 (l.getD i 0))):RI (Et W) W.heap.size (some a) l:=λhne=>by
 have h0:=h 0 (List.length_pos_iff.2 hne);rw[add_zero] at h0;obtain⟨hs,C,t,f,h1,_⟩:=F4 h0;obtain⟨b,o,s⟩:=a;dsimp only at hs h1;subst hs;refine⟨b,o,rfl,(xg.1 h1).1,λi x hx=>?_⟩;have hi:=(xL.1 hx).1;have:=h i hi;rw[iD,yO,hx] at this;exact ca this (fl _ _)
def Ii {α:Type}{P:Nat->α->Prop}:∀n,(∀i,i<n->∃x,P i x)->∃l:List α,l.length=n/\∀i x,l[i]?=some x->P i x
 |0,_=>⟨[],rfl,λi x h=>by simp at h⟩
 |n+1,h=>by
  obtain⟨l,h1,h2⟩:=Ii n λi hi=>h i (by omega);obtain⟨x,hx⟩:=h n (by omega);refine⟨l++[x],by simp[h1],λi y hy=>?_⟩;by_cases hi:i<n
  .rw[yz (by omega)] at hy;exact h2 i y hy
  .have:=(xL.1 hy).1;rw[List.length_append,List.length_singleton,h1] at this;obtain rfl:i=n:=by omega
   rw[yx (by omega),h1,Nat.sub_self] at hy;cases hy;exact hx
variable {P:Program} {H:Type} {enc:TypeId×Value->H} {W:World} {held:Bool}
def Hs {t e:TypeId}{fuel:Nat}{cs:List Value}{x:DataW H×List MemPlace}(ht:P.underlying t=some (.slice e))(he:P.underlying e=some (.int .i64))(hc:P.cellsOf e=1)
  (h:DataW.trod enc P W 0 (λ_=>true) held fuel t cs=some x):∃A len cap l,cs=[.slice A len cap]/\l.length=len/\len<=maxLen/\Fa W (.slice A len cap)/\RI (Et W) W.heap.size A l:=by
 rcases open_ints ht he hc h with⟨rfl,_⟩|⟨a,len,cap,zs,rfl,_,h1,h2,h3,_,h4,_⟩
 .exact⟨none,0,0,[],rfl,rfl,xK _,bT (xh _) (λ_ e=>by cases e),.nil⟩
 .simp only[if_true] at h3;refine⟨some a,len,cap,zs.take len,rfl,by simp;omega,by omega,bT h1 λa' e hp=>?_,kP λi hi=>?_⟩
  .cases e
   have:=h4 0 (by omega);rw[add_zero] at this;exact⟨_,this⟩
  .have hi:i<len:=by simp at hi;omega
   rw[h4 i (by omega),yO,yO,yX,if_pos hi]
def Oo {t e q:TypeId}{fuel:Nat}{cs:List Value}{x:DataW H×List MemPlace}(ht:P.underlying t=some (.slice e))(he:P.underlying e=some (.slice q))(hq:P.underlying q=some (.int .i64))(ce:P.cellsOf e=1)(cq:P.cellsOf q=1)
  (h:DataW.trod enc P W 0 (λ_=>true) held fuel t cs=some x):∃A len cap ls,cs=[.slice A len cap]/\ls.length=len/\len<=maxLen/\(∀y∈ls,y.length<=maxLen)/\Fa W (.slice A len cap)/\BD (Et W) W.heap.size A ls:=by
 rcases open_int_rows ht he hq ce cq h with⟨rfl,_⟩|⟨a,len,cap,A,L,C,Z,rfl,_,h1,h2,_,h3⟩
 .exact⟨none,0,0,[],rfl,rfl,xK _,by simp,bT (xh _) (λ_ e=>by cases e),λh=>absurd rfl h⟩
 .have Gz : ∀ r, r < cap -> Fa W (.slice (A r) (L r) (C r)) := fun r hr => by
   obtain⟨_,g1,g2,_,_,_,g5⟩:=h3 r hr;refine bT g1 λa' e hp=>?_;have:=(g5 a' e).2 0 hp;rw[add_zero] at this;exact⟨_,this⟩
  refine⟨some a,len,cap,(List.range len).map λr=>(Z r).take (L r),rfl,by simp,by omega,λy hy=>?_,bT h1 λa' e hp=>?_,λhne=>?_⟩
  .obtain⟨r,hr,rfl⟩:=xW.1 hy;have hr:=x9.1 hr;obtain⟨_,g1,g2,_⟩:=h3 r (by omega);simp;omega
  .cases e
   have:=(h3 0 (by omega)).1;rw[add_zero] at this;exact⟨_,this⟩
  .have hlen : 0 < len := by
    rcases xV len with e|e
    .subst e;exact absurd rfl hne
    .exact e
   obtain⟨c0,_⟩:=h3 0 (by omega);rw[add_zero] at c0;obtain⟨hs,C',t',f',c1,_⟩:=F4 c0;obtain⟨b,o,s⟩:=a;dsimp only at hs c1;subst hs;refine⟨b,o,rfl,(xg.1 c1).1,λi l hl=>?_⟩;have hi:i<len:=by
    have:=(xL.1 hl).1;simpa using this
   rw[yp,zb hi] at hl;cases hl;obtain⟨g0,g1,g2,g3,_,g4,g5⟩:=h3 i (by omega);rw[iD] at g0;have el:((Z i).take (L i)).length=L i:=by simp;omega
   refine⟨A i,C i,by rw[el];exact ca g0 (Gz i (by omega)),?_⟩;cases hA:A i with
   |none =>
    have:L i=0:=by have:=g4 hA;omega
    dsimp only;rw[this,List.take_zero];exact .nil
   |some a' =>
    refine kP λj hj=>?_;dsimp only at hj ⊢;rw[el] at hj;rw[(g5 a' hA).2 j (by omega),yO,yO,yX,if_pos hj]
end Go.Sq
