/- Parts of the proof. -/
import Derived.Test.YtjcgijifamcggaaGreatP15
import Derived.Test.YtjcgijifamcggaaGreatP00
import Derived.Test.YtjcgijifamcggaaGreatP18
import Derived.Test.YtjcgijifamcggaaGreatP20
import Derived.Test.YtjcgijifamcggaaGreatP07
import Derived.Test.YtjcgijifamcggaaGreatP16
import Derived.Test.YtjcgijifamcggaaGreatP19
import Derived.Orders
set_option linter.all false
set_option maxHeartbeats 3200000
set_option maxRecDepth 1000000
namespace Go.Proofs.YtjcgijifamcggaaGreat
open Go.RowKit Go.Sq
def dR (A A':Option Addr)(c c':Nat)(l m:List Int)(w:World)(B:Nat)(hB:B<=w.heap.size)(h:RI w B A l)(h':RI w B A' m)(hl:l.length<=4611686018427387904)(hm:m.length<=4611686018427387904) :
  Calls AG 36 #[.slice A l.length c,.slice A' m.length c'] w λe w'=>e=.returned (.bool (decide (l=m)))/\Gr w w':=by
 have HR:=xl h;have Y0:=xl h';clear h h';go_enter Sq.func36,Tryz.ntmps36;by_cases hlen:l.length=m.length
 .go_wp2;go_loopw [5] (λi wr=>∃k:Nat,k<=l.length/\i=.int .i64 k/\l.take k=m.take k/\Gr w wr) (λi _=>l.length-(intOf i).toNat)
  case atStart=>exact⟨0,by omega,rfl,by simp,.refl _⟩
  case round =>
   obtain⟨k,hk,rfl,heq,hg⟩:=hrel;have HG:=xl hg;have HE:=xl heq;clear hg heq;by_cases hlt:k<l.length
   .obtain⟨b,o,rfl,hb,hc⟩:=(HR.out.gr hB HG.out).at_ hlt;obtain⟨b',o',rfl,hb',hc'⟩:=(Y0.out.gr hB HG.out).at_ (show k<m.length by omega);have HD:=xl (tY l m k hlt (by omega));generalize l[k]?.getD 0=x at hc HD;generalize m[k]?.getD 0=y at hc' HD;by_cases h1:x=y
    .have HS:=xl (HD.out.1 HE.out h1);subst h1;clear HD;go_wp2;go_region;go_wp2;go_roundw
     case rel=>exact⟨k+1,by omega,by go_num,HS.out,HG.out.drew⟩
     case measure=>simp[intOf];omega
    .have HS:=xl (HD.out.2 h1);have hne:decide (x≠y)=true:=by simp[h1]
     clear HD;go_wp2;go_region;go_wp2;go_ret;exact⟨aH (by simp[HS.out]),HG.out.drew⟩
   .have FD:k=l.length:=by omega
    have HS:=xl (show l=m by have:=HE.out;rw[FD,xZ (by omega),xZ (by omega)] at this;exact this);clear FD;go_wp2;go_ret;exact⟨aH (by simp[HS.out]),HG.out⟩
 .have hne:l≠m:=λe=>hlen (by rw[e]);have HN:=xl hne;clear hne;go_wp2;go_ret;exact⟨aH (by simp[HN.out]),.refl _⟩
def fl (A A':Option Addr)(c c':Nat)(l m:List (List Int))(w:World)(B:Nat)(hB:B<=w.heap.size)(h:CR w B A l)(h':CR w B A' m)(hl:l.length<=4611686018427387904)(hm:m.length<=4611686018427387904)
  (hl2:∀x∈l,x.length<=4611686018427387904) (OQ:∀x∈m,x.length<=4611686018427387904) :
  Calls AG 13 #[.slice A l.length c,.slice A' m.length c'] w λe w'=>e=.returned (.bool (decide (l=m)))/\Gr w w':=by
 have HR:=xl h;have Y0:=xl h';have HL2:=xl hl2;have Nx:=xl OQ;clear h h' hl2 OQ;go_enter Sq.func13,Tryz.ntmps13;by_cases hlen:l.length=m.length
 .rw[<-hlen];have HLEN:=xl hlen;clear hlen;have GL:∀k,k<l.length->k<m.length:=λk hk=>by have:=HLEN.out;omega
  have HMK:=xl GL;clear GL;go_wp2;go_loopw [5] (λi wr=>∃k:Nat,k<=l.length/\i=.int .i64 k/\l.take k=m.take k/\Gr w wr) (λi _=>l.length-(intOf i).toNat)
  case atStart=>exact⟨0,by omega,rfl,by simp,.refl _⟩
  case round =>
   obtain⟨k,hk,rfl,heq,hg⟩:=hrel;have HG:=xl hg;have HE:=xl heq;clear hg heq;by_cases hlt:k<l.length
   .obtain⟨b,o,A1,c1,rfl,hb,hc,hr⟩:=(HR.out.gr hB HG.out).at_ hlt;obtain⟨b',o',A2,c2,rfl,hb',hc',M7⟩:=(Y0.out.gr hB HG.out).at_ (HMK.out k hlt);have HD:=xl (sd l m k hlt (HMK.out k hlt));have hx:=HL2.out _ (fO l k hlt);have hy:=Nx.out _ (fO m k (HMK.out k hlt));generalize l[k]?.getD []=x at hc HD hr hx;generalize m[k]?.getD []=y at hc' HD M7 hy;have hsz:=HG.out.size;have F0:Hid (∀q,q=wr\/q=wr.drew->Calls AG 36 #[.slice A1 x.length c1,.slice A2 y.length c2] q λe w'=>e=.returned (.bool (decide (x=y)))/\Gr q w'):=xl λq hq=>by
     rcases hq with rfl|rfl
     .exact dR A1 A2 c1 c2 x y _ B (by omega) hr M7 hx hy
     .exact dR A1 A2 c1 c2 x y _ B (by show B<=wr.heap.size;omega) hr M7 hx hy
    clear hr M7 hx hy;by_cases h1:x=y
    .have HS:=xl (HD.out.1 HE.out h1);have Zc:Hid (∀q,q=wr\/q=wr.drew->Calls AG 36 #[.slice A1 x.length c1,.slice A2 y.length c2] q λe w'=>e=.returned (.bool true)/\Gr q w'):=xl λq hq=>(F0.out q hq).mono λe w' h=>⟨h.1.trans (aH (by simp[h1])),h.2⟩;clear h1 HD F0;go_wp2;go_region_with (first|(go_at_call 36;refine(Zc.out _ (by first|exact Or.inl rfl|exact Or.inr rfl)).mono ?_;rintro e w3 ⟨rfl,hg3⟩;have q0:=(hg3.cell (p:=⟨b,o+k,none⟩) (by show b<wr.heap.size;omega)).trans hc;have q1:=(hg3.cell (p:=⟨b',o'+k,none⟩) (by show b'<wr.heap.size;omega)).trans hc';have DW:=xl (show Gr w w3 from(by first|exact HG.out.trans hg3|exact HG.out.drew.trans hg3));clear hg3))
     all_goals
      go_wp2;go_roundw
      case rel=>exact⟨k+1,by omega,by go_num,HS.out,DW.out⟩
      case measure=>simp[intOf];omega
    .have HS:=xl (HD.out.2 h1);have Zc:Hid (∀q,q=wr\/q=wr.drew->Calls AG 36 #[.slice A1 x.length c1,.slice A2 y.length c2] q λe w'=>e=.returned (.bool false)/\Gr q w'):=xl λq hq=>(F0.out q hq).mono λe w' h=>⟨h.1.trans (aH (by simp[h1])),h.2⟩;clear h1 HD F0;go_wp2;go_region_with (first|(go_at_call 36;refine(Zc.out _ (by first|exact Or.inl rfl|exact Or.inr rfl)).mono ?_;rintro e w3 ⟨rfl,hg3⟩;have q0:=(hg3.cell (p:=⟨b,o+k,none⟩) (by show b<wr.heap.size;omega)).trans hc;have q1:=(hg3.cell (p:=⟨b',o'+k,none⟩) (by show b'<wr.heap.size;omega)).trans hc';have DW:=xl (show Gr w w3 from(by first|exact HG.out.trans hg3|exact HG.out.drew.trans hg3));clear hg3))
     all_goals
      go_wp2;go_ret;exact⟨aH (by simp[HS.out]),DW.out⟩
   .have FD:k=l.length:=by omega
    have HS:=xl (show l=m by have:=HE.out;rw[FD,xZ (by omega),xZ (by have:=HLEN.out;omega)] at this;exact this);clear FD;go_wp2;go_ret;exact⟨aH (by simp[HS.out]),HG.out⟩
 .have hne:l≠m:=λe=>hlen (by rw[e]);have HN:=xl hne;clear hne;go_wp2;go_ret;exact⟨aH (by simp[HN.out]),.refl _⟩
open Go.Bl Go.Co Go.Conc
def oS:Ba (BI [3,2,4]) [[0,1],[1],[]]=0:=by decide +kernel
def oT:Ba (BI [3,2,4]) B3=0:=by decide +kernel
def sE:gQ 3 [(2,6)]=0:=by decide +kernel
def ux:Qs (Hq (BI [3,2,4]) (AP B3) 9 (B7 3 [(2,6)] 1))=[8,0,-8]:=by decide +kernel
def sG:(Bz A7 (Bo 3) 2 (CB (DF 1)) 1).map (λr=>BJ r 3)=[B3]:=by decide +kernel
def iU {l:List Int}:(∀h∈(BI l).AH,h.off.length<=4611686018427387904):=by
 intro h hh;simp only[BI,xC,xz,or_false] at hh;rcases hh with rfl|rfl|rfl<;>simp
def qC (nA hA gA:Option Addr)(w:World)(B:Nat)(hB:B<=w.heap.size)(hn:RI w B nA [3,2,4])(hh:Dr w B hA (BI [3,2,4]).AH)(hg:CR w B gA [[0,1],[1],[]]) :
  Calls AG 8 #[.agg #[.slice nA 3 3,.slice hA 3 3],.slice gA 3 3,.int .i64 2,.int .i64 0] w λe w'=>Gr w w'/\∃A k,e=.returned (.tuple #[.slice A 3 k,.int .i64 3,.int .i64 0])/\CR w' w'.heap.size A B3:=by
 refine(lV nA hA gA 3 3 3 (BI [3,2,4]) [[0,1],[1],[]] 2 0 w B hB hn hh hg (by decide) (by decide) iU (by decide) (by decide) (λk _ hk _ _=>?_)).mono ?_
 .obtain rfl:k=2:=by omega
  exact AW.Ok.of (by decide +kernel)
 .rintro e w' ⟨hg,h⟩;refine⟨hg,?_⟩;rw[if_neg (by simp[oS]),if_neg (by decide)] at h;have hr:=sj;have h2:Bz (GY (BI [3,2,4]) (Int.toNat 2) 0) (Bo (BI [3,2,4]).AH.length) (BI [3,2,4]).AK.length Cv 0=Bz (GY (BI [3,2,4]) 2 0) (Bo 3) 3 Cv 0:=rfl;rw[h2] at h;cases hn:Cq (AP [[0,1],[1],[]]) (Bz (GY (BI [3,2,4]) 2 0) (Bo 3) 3 Cv 0) with
  |none=>rw[hn] at hr;cases hr
  |some p =>
   rw[hn] at hr h;obtain⟨A,k,he,hgr⟩:=h;have hr2:(BJ p.1 3,p.2)=(B3,3):=Option.some.inj hr;injection hr2 with e1 e2
   refine⟨A,k,?_,?_⟩
   .rw[he,e2];rfl
   .rw[<-e1];exact hgr
def sH (nA hA:Option Addr)(w:World)(B:Nat)(hB:B<=w.heap.size)(hn:RI w B nA [3,2,5])(hh:Dr w B hA (BI [3,2,5]).AH) :
  Calls AG 33 #[.agg #[.slice nA 3 3,.slice hA 3 3]] w λe w'=>Gr w w'/\∃A k,e=.returned (.tuple #[.slice A 2 k,.int .i64 0])/\RI w' w'.heap.size A [1,2]:=by
 refine(ub nA hA 3 3 (BI [3,2,5]) w B hB hn hh (by decide) (by decide) iU).mono ?_;rintro e w' ⟨hg,h⟩;refine⟨hg,?_⟩;rw[if_neg (by simp[kP]),if_neg (by simp[js])] at h;have h2:C3 (BI [3,2,5]) (2 ^ (BI [3,2,5]).AK.length)=some [1,2]:=oG;rw[h2] at h;exact h
def vU (nA hA gA rA:Option Addr)(w:World)(B:Nat)(hB:B<=w.heap.size)(hn:RI w B nA [3,2,4])(hh:Dr w B hA (BI [3,2,4]).AH)(hg:CR w B gA B3)(hr:FB w B rA [(2,6)]) :
  Calls AG 34 #[.agg #[.slice nA 3 3,.slice hA 3 3],.slice gA 3 3,.slice rA 1 1,.int .i64 9] w λe w'=>Gr w w'/\∃A k,e=.returned (.tuple #[.slice A 3 k,.int .i64 0])/\RI w' w'.heap.size A [8,0,-8]:=by
 refine(oR nA hA gA rA 3 3 3 1 (BI [3,2,4]) B3 [(2,6)] 9 w B hB hn hh hg hr (by decide) (by decide) iU (by decide) (by decide) (by decide) (by decide) oT sE (by omega)).mono ?_;rintro e w' ⟨hg,A,k,he,h⟩;refine⟨hg,A,k,he,?_⟩;rw[<-ux];exact h
def xg {w:World}{B b:Nat}{A0 A1 A2:Option Addr}{c0 c1 c2:Nat}{l0 l1 l2:List Int}{t:TypeId}{f:Nat×Nat}(h:w.heap[b]?=some (.cells #[.slice A0 l0.length c0,.slice A1 l1.length c1,.slice A2 l2.length c2] t f))(hb:b<B)(h0:RI w B A0 l0)(h1:RI w B A1 l1)(h2:RI w B A2 l2):CR w B (some ⟨b,0,none⟩) [l0,l1,l2]:=λ_=>by
 have e:∀o,w.cell? ⟨b,o,none⟩=(#[.slice A0 l0.length c0,.slice A1 l1.length c1,.slice A2 l2.length c2]:Array Value)[o]?:=λo=>by unfold World.cell?;rw[h];simp
 refine⟨b,0,rfl,hb,λi l hl=>?_⟩
 match i,hl with
 |0,hl=>cases hl;exact⟨A0,c0,e _,h0⟩
 |1,hl=>cases hl;exact⟨A1,c1,e _,h1⟩
 |2,hl=>cases hl;exact⟨A2,c2,e _,h2⟩
def xh {w:World}{B b:Nat}{x y:Int}{t:TypeId}{f:Nat×Nat}(h:w.heap[b]?=some (.cells #[.int .i64 x,.int .i64 y] t f))(hb:b<B):FB w B (some ⟨b,0,none⟩) [(x,y)]:=λ_=>by
 have e:∀o,w.cell? ⟨b,o,none⟩=(#[.int .i64 x,.int .i64 y]:Array Value)[o]?:=λo=>by unfold World.cell?;rw[h];simp
 refine⟨b,0,rfl,hb,λi q hq=>?_⟩
 match i,hq with
 |0,hq=>cases hq;exact⟨e _,e _⟩
def LN (n:Nat)(l:List Value)(h:l.length=n+19):∃(y0 y1 y2 y3 y4 y5 y6 y7 y8 y9 Ge Gf Gg Gh Gi Gj Gk Gl Gm:Value) (tl:List Value),l=y0::y1::y2::y3::y4::y5::y6::y7::y8::y9::Ge::Gf::Gg::Gh::Gi::Gj::Gk::Gl::Gm::tl/\tl.length=n:=by
 match l,h with
 |y0::y1::y2::y3::y4::y5::y6::y7::y8::y9::Ge::Gf::Gg::Gh::Gi::Gj::Gk::Gl::Gm::tl,h=>exact⟨y0,y1,y2,y3,y4,y5,y6,y7,y8,y9,Ge,Gf,Gg,Gh,Gi,Gj,Gk,Gl,Gm,tl,rfl,by simpa using h⟩
def wQ {T:Array Value}(h:T.size=95):∃(y0 y1 y2 y3 y4 y5 y6 y7 y8 y9 Ge Gf Gg Gh Gi Gj Gk Gl Gm Im Io Ip Iq Ir Iu Mh Mi QH QI QJ QK QL QM QN QO QP QQ QR QS QU QV QW QX QY QZ Q2 Q3 Q4 Q6 Q7 Q8 Q9 Ra Rb Rc Re Rf Rg Rh Ri Rj Rk Rl Rm Rn Rp Rq Rs Rt Ru Rv Rw Rx Ry Rz RA RD RF RG RH RJ RN RO RP RQ RR RS RU RV RX RY RZ R3 R4 R5:Value),T=#[y0,y1,y2,y3,y4,y5,y6,y7,y8,y9,Ge,Gf,Gg,Gh,Gi,Gj,Gk,Gl,Gm,Im,Io,Ip,Iq,Ir,Iu,Mh,Mi,QH,QI,QJ,QK,QL,QM,QN,QO,QP,QQ,QR,QS,QU,QV,QW,QX,QY,QZ,Q2,Q3,Q4,Q6,Q7,Q8,Q9,Ra,Rb,Rc,Re,Rf,Rg,Rh,Ri,Rj,Rk,Rl,Rm,Rn,Rp,Rq,Rs,Rt,Ru,Rv,Rw,Rx,Ry,Rz,RA,RD,RF,RG,RH,RJ,RN,RO,RP,RQ,RR,RS,RU,RV,RX,RY,RZ,R3,R4,R5]:=by
 obtain⟨l⟩:=T;have h:l.length=76+19:=h;obtain⟨y0,y1,y2,y3,y4,y5,y6,y7,y8,y9,Ge,Gf,Gg,Gh,Gi,Gj,Gk,Gl,Gm,l0,rfl,h0⟩:=LN 76 l h;obtain⟨Im,Io,Ip,Iq,Ir,Iu,Mh,Mi,QH,QI,QJ,QK,QL,QM,QN,QO,QP,QQ,QR,l1,rfl,h1⟩:=LN 57 l0 h0;obtain⟨QS,QU,QV,QW,QX,QY,QZ,Q2,Q3,Q4,Q6,Q7,Q8,Q9,Ra,Rb,Rc,Re,Rf,l2,rfl,h2⟩:=LN 38 l1 h1;obtain⟨Rg,Rh,Ri,Rj,Rk,Rl,Rm,Rn,Rp,Rq,Rs,Rt,Ru,Rv,Rw,Rx,Ry,Rz,RA,l3,rfl,h3⟩:=LN 19 l2 h2
 obtain⟨RD,RF,RG,RH,RJ,RN,RO,RP,RQ,RR,RS,RU,RV,RX,RY,RZ,R3,R4,R5,l4,rfl,h4⟩:=LN 0 l3 h3;obtain rfl:l4=[]:=xT h4;exact⟨y0,y1,y2,y3,y4,y5,y6,y7,y8,y9,Ge,Gf,Gg,Gh,Gi,Gj,Gk,Gl,Gm,Im,Io,Ip,Iq,Ir,Iu,Mh,Mi,QH,QI,QJ,QK,QL,QM,QN,QO,QP,QQ,QR,QS,QU,QV,QW,QX,QY,QZ,Q2,Q3,Q4,Q6,Q7,Q8,Q9,Ra,Rb,Rc,Re,Rf,Rg,Rh,Ri,Rj,Rk,Rl,Rm,Rn,Rp,Rq,Rs,Rt,Ru,Rv,Rw,Rx,Ry,Rz,RA,RD,RF,RG,RH,RJ,RN,RO,RP,RQ,RR,RS,RU,RV,RX,RY,RZ,R3,R4,R5,rfl⟩
def uy (A:Option Addr)(c:Nat)(y0 y5 y6 y7 y8 y9 Ge Gf Gg Gh Gi Gj Gk Gl Gm Im Io Ip Iq Ir Iu Mh Mi QH QI QJ QK QL QM QN QO QP QQ QR QS QU QV QW QX QY QZ Q2 Q3 Q4 Q6 Q7 Q8 Q9 Ra Rb Rc Re Rf Rg Rh Ri Rj Rk Rl Rm Rn Rp Rq Rs Rt Ru Rv Rw Rx Ry Rz RA RD RF RG RH RJ RN RO RP RQ RR RS RU RV RX RY RZ R3 R4 R5:Value)(w:World)(EW:CR w w.heap.size A B3) :
  Ql.wp AG (λe a' _=>(e=.normal\/e=.ret)/\e=.ret/\a'.tmps.getD 0 undef=.bool true/\a'.defers=[]) ⟨#[y0,.int .i64 1,.int .i64 0,.slice A 3 c,.int .i64 0,y5,y6,y7,y8,y9,Ge,Gf,Gg,Gh,Gi,Gj,Gk,Gl,Gm,Im,Io,Ip,Iq,Ir,Iu,Mh,Mi,QH,QI,QJ,QK,QL,QM,QN,QO,QP,QQ,QR,QS,QU,QV,QW,QX,QY,QZ,Q2,Q3,Q4,Q6,Q7,Q8,Q9,Ra,Rb,Rc,Re,Rf,Rg,Rh,Ri,Rj,Rk,Rl,Rm,Rn,Rp,Rq,Rs,Rt,Ru,Rv,Rw,Rx,Ry,Rz,RA,RD,RF,RG,RH,RJ,RN,RO,RP,RQ,RR,RS,RU,RV,RX,RY,RZ,R3,R4,R5],[]⟩ w:=by
 have HB:=xl EW;clear EW;have ez:Ql=ae (ae (ae wB)):=rfl;simp only[wB,Tryz.f11,Option.getD_some,ae] at ez;rw[ez];clear ez;obtain⟨W1,hW1⟩:∃W1:World,W1=w.alloc (.cells #[.int .i64 3,.int .i64 2,.int .i64 4] 3):=⟨_,rfl⟩;have hg1:Gr w W1:=hW1▸(Gr.refl w).alloc _;have HN1:RowKit.Hid (RI W1 W1.heap.size (some ⟨w.heap.size,0,none⟩) [3,2,4]):=xl (cv (t:=3) (f:=(0,0)) (by rw[hW1];exact heap_alloc_new w _) (by rw[hW1];simp))
 have U6:=xl (HB.out.gr (xp _) hg1);have Qu:=xl (lK (some ⟨w.heap.size,0,none⟩) 3 [3,2,4] W1);have Mj:=xl hW1;have hz1:=hg1.size;clear hg1 hW1;go_wp2_with fail;rw[<-Mj.out];refine Qu.out.mono ?_;rintro e w2 ⟨hA,rfl,WM,hg2⟩;obtain⟨W2,hW2⟩:∃W2:World,W2=((w2.alloc (.cells #[.int .i64 0,.int .i64 1] 3)).alloc (.cells #[.int .i64 1] 3)).alloc (.cells #[.slice (some ⟨w2.heap.size,0,none⟩) 2 2,.slice (some ⟨w2.heap.size+1,0,none⟩) 1 1,.slice none 0 0] 22):=⟨_,rfl⟩
 have hg3:Gr w2 W2:=hW2▸(((Gr.refl w2).alloc _).alloc _).alloc _;have hz2:W2.heap.size=w2.heap.size+3:=by rw[hW2];simp
 have b0:W2.heap[w2.heap.size]?=some (.cells ([0,1].map (Value.int .i64)).toArray 3 (0,0)):=by
  rw[hW2,heap_alloc_old _ _ (by simp;omega),heap_alloc_old _ _ (by simp)];exact heap_alloc_new _ _
 have b1:W2.heap[w2.heap.size+1]?=some (.cells ([1].map (Value.int .i64)).toArray 3 (0,0)):=by
  rw[hW2,heap_alloc_old _ _ (by simp)];exact ap _ _ (by simp)
 have b2:W2.heap[w2.heap.size+2]?=some (.cells #[.slice (some ⟨w2.heap.size,0,none⟩) 2 2,.slice (some ⟨w2.heap.size+1,0,none⟩) 1 1,.slice none 0 0] 22 (0,0)):=by
  rw[hW2];exact ap _ _ (by simp)
 have Eh:CR W2 W2.heap.size (some ⟨w2.heap.size+2,0,none⟩) [[0,1],[1],[]]:=xg (l0:=[0,1]) (l1:=[1]) (l2:=[]) b2 (by omega) (cv b0 (by omega)) (cv b1 (by omega)) .nil;have HR:=xl (qC (some ⟨w.heap.size,0,none⟩) hA (some ⟨w2.heap.size+2,0,none⟩) W2 W2.heap.size (xp _) (((HN1.out.gr (xp _) hg2).gr hg2.size hg3).more (by have:=hg2.size;have:=hg3.size;omega)) ((WM.keep λb o hb=>hg3.cell (p:=⟨b,o,none⟩) hb).more hg3.size) Eh)
 have Jn:=xl ((U6.out.gr (by omega) hg2).gr (by have:=hg2.size;omega) hg3);have Mp:=xl hW2;have hzz2:=hg2.size;clear WM hg2 hW2 b0 b1 b2 Eh Qu hz2;have ec:Bp (some ⟨w.heap.size,0,none⟩) hA (BI [3,2,4]) 3 3=.agg #[.slice (some ⟨w.heap.size,0,none⟩) 3 3,.slice hA 3 3]:=rfl;rw[ec];clear ec;have hz3:=hg3.size;clear hg3;go_wp2_with fail;rw[<-Mp.out];refine HR.out.mono ?_;rintro e w3 ⟨hg3,A5,k5,rfl,abD⟩
 have HB3:=xl (Jn.out.gr (by omega) hg3);have Mf:=xl abD;have hz4:=hg3.size;clear hg3 abD HR HN1;obtain⟨V6,hV6⟩:∃V:World,V=w3.alloc (.cells #[.int .i64 3,.int .i64 2,.int .i64 5] 3):=⟨_,rfl⟩;have Xr:Gr w3 V6:=hV6▸(Gr.refl w3).alloc _;have HN6:RowKit.Hid (RI V6 V6.heap.size (some ⟨w3.heap.size,0,none⟩) [3,2,5]):=xl (cv (t:=3) (f:=(0,0)) (by rw[hV6];exact heap_alloc_new w3 _) (by rw[hV6];simp))
 have HC6:=xl (lK (some ⟨w3.heap.size,0,none⟩) 3 [3,2,5] V6);have agA:=xl Xr;have HV6:=xl hV6;have hzV6:=Xr.size;clear Xr hV6;go_wp2_with fail;rw[<-HV6.out];refine HC6.out.mono ?_;rintro e x6 ⟨hA6,rfl,abF,R6⟩;have HX6:=xl (agA.out.trans R6);have abG:=xl ((HN6.out.gr (xp _) R6).more R6.size);have abH:=xl abF;have hzx6:=R6.size;clear abF R6;have ec:Bp (some ⟨w3.heap.size,0,none⟩) hA6 (BI [3,2,5]) 3 3=.agg #[.slice (some ⟨w3.heap.size,0,none⟩) 3 3,.slice hA6 3 3]:=rfl
 have HCL:=xl (sH (some ⟨w3.heap.size,0,none⟩) hA6 x6 x6.heap.size (xp _) abG.out abH.out);rw[ec];clear ec;go_wp2_with fail;refine HCL.out.mono ?_;rintro e w5 ⟨G8,A8,k8,rfl,abI⟩;have HB5:=xl (HB3.out.gr (by omega) (HX6.out.trans G8));have agD:=xl (Mf.out.gr (xp _) (HX6.out.trans G8));have HI8:=xl abI;have LC:=(HX6.out.trans G8).size;clear G8 abI HCL HN6 HC6 abH abG;obtain⟨V7,hV7⟩:∃V:World,V=w5.alloc (.cells #[.int .i64 3,.int .i64 2,.int .i64 4] 3):=⟨_,rfl⟩
 have Xs:Gr w5 V7:=hV7▸(Gr.refl w5).alloc _;have HN7:RowKit.Hid (RI V7 V7.heap.size (some ⟨w5.heap.size,0,none⟩) [3,2,4]):=xl (cv (t:=3) (f:=(0,0)) (by rw[hV7];exact heap_alloc_new w5 _) (by rw[hV7];simp));have HC7:=xl (lK (some ⟨w5.heap.size,0,none⟩) 3 [3,2,4] V7);have agE:=xl Xs;have HV7:=xl hV7;have hzV7:=Xs.size;clear Xs hV7;go_wp2_with fail;rw[<-HV7.out];refine HC7.out.mono ?_;rintro e x7 ⟨hA7,rfl,abL,R7⟩
 have HX7:=xl (agE.out.trans R7);have abM:=xl ((HN7.out.gr (xp _) R7).more R7.size);have abN:=xl abL;have hzx7:=R7.size;clear abL R7;have ec:Bp (some ⟨w5.heap.size,0,none⟩) hA7 (BI [3,2,4]) 3 3=.agg #[.slice (some ⟨w5.heap.size,0,none⟩) 3 3,.slice hA7 3 3]:=rfl;rw[ec];clear ec;have HGU:=xl (jR x7);go_wp2_with fail;refine HGU.out.mono ?_;rintro e x8 ⟨gA,rfl,Ve,SX⟩;obtain⟨V8,hV8⟩:∃V:World,V=x8.alloc (.cells #[.int .i64 2,.int .i64 6] 85):=⟨_,rfl⟩
 have LO:Gr x8 V8:=hV8▸(Gr.refl x8).alloc _;have abP:FB V8 V8.heap.size (some ⟨x8.heap.size,0,none⟩) [(2,6)]:=xh (t:=85) (f:=(0,0)) (by rw[hV8];exact heap_alloc_new _ _) (by rw[hV8];simp)
 have abQ:=xl (vU (some ⟨w5.heap.size,0,none⟩) hA7 gA (some ⟨x8.heap.size,0,none⟩) V8 V8.heap.size (xp _) ((abM.out.gr (xp _) (SX.trans LO)).more (SX.trans LO).size)
  ((abN.out.keep λb o hb=>(SX.trans LO).cell (p:=⟨b,o,none⟩) hb).more (SX.trans LO).size) ((Ve.gr (xp _) LO).more LO.size) abP)
 have Xt:=xl (HX7.out.trans (SX.trans LO));have HV8:=xl hV8;have T4:(B3.length:Nat)=3:=rfl;clear Ve SX hV8 LO abP HGU;rw[T4];go_wp2_with fail;rw[<-HV8.out];refine abQ.out.mono ?_;rintro e w9 ⟨QF,A10,Wc,rfl,Vg⟩;have hzz9:=(Xt.out.trans QF).size;have HB9:=xl (HB5.out.gr (by omega) (Xt.out.trans QF));have agG:=xl (agD.out.gr (by omega) (Xt.out.trans QF));have agH:=xl (HI8.out.gr (xp _) (Xt.out.trans QF))
 have Xn:=xl Vg;clear QF Vg abQ HN7 HC7 abN abM;have Vh:=xl (jR w9);go_wp2_with fail;refine Vh.out.mono ?_;rintro e g11 ⟨agI,rfl,Ve,hg⟩;have T5:=xl (fl A agI c 3 B3 B3 g11 g11.heap.size (xp _) ((HB9.out.gr (by omega) hg).more (by have:=hg.size;omega)) Ve (by decide) (by decide) (by decide) (by decide));rw[decide_eq_true (rfl:B3=B3)] at T5;have abR:=xl hg;have hzq11:=hg.size
 clear Ve hg Vh;have T4:(B3.length:Nat)=3:=rfl;rw[T4];rw[T4] at T5;clear T4;go_wp2_with fail;refine T5.out.mono ?_;rintro e s11 ⟨rfl,hg⟩;have Xu:=xl (abR.out.trans hg);have hzs11:=(abR.out.trans hg).size;clear hg T5;have HGM:=xl (agG.out.gr (by omega) Xu.out);have HIM:=xl (agH.out.gr (by omega) Xu.out);have HIN:=xl (Xn.out.gr (by omega) Xu.out);have Vi:=xl (jR s11)
 go_wp2_with fail;refine Vi.out.mono ?_;rintro e g12 ⟨agJ,rfl,Ve,hg⟩;have T6:=xl (fl A5 agJ k5 3 B3 B3 g12 g12.heap.size (xp _) ((HGM.out.gr (by omega) hg).more (by have:=hg.size;omega)) Ve (by decide) (by decide) (by decide) (by decide));rw[decide_eq_true (rfl:B3=B3)] at T6;have abS:=xl hg;have hzq12:=hg.size;clear Ve hg Vi;have T4:(B3.length:Nat)=3:=rfl;rw[T4]
 rw[T4] at T6;clear T4;go_wp2_with fail;refine T6.out.mono ?_;rintro e s12 ⟨rfl,hg⟩;have TW:=xl (abS.out.trans hg);have hzs12:=(abS.out.trans hg).size;clear hg T6;obtain⟨V13,R8⟩:∃V:World,V=s12.alloc (.cells #[.int .i64 1,.int .i64 2] 3):=⟨_,rfl⟩;have IU:Gr s12 V13:=R8▸(Gr.refl s12).alloc _;have Xv:=xl (dR A8 (some ⟨s12.heap.size,0,none⟩) k8 2 [1,2] [1,2] V13 V13.heap.size (xp _) (((HIM.out.gr (by omega) TW.out).gr (by omega) IU).more (by have:=IU.size;omega)) (cv (t:=3) (f:=(0,0)) (by rw[R8];exact heap_alloc_new _ _) (by rw[R8];simp)) (by decide) (by decide))
 rw[decide_eq_true (rfl:([1,2]:List Int)=[1,2])] at Xv;have agL:=xl R8;have abT:=xl IU;have hzq13:=IU.size;clear IU R8;go_wp2_with fail;rw[<-agL.out];refine Xv.out.mono ?_;rintro e s13 ⟨rfl,hg⟩;have agM:=xl (abT.out.trans hg);have hzs13:=(abT.out.trans hg).size;clear hg Xv;obtain⟨V14,R9⟩:∃V:World,V=s13.alloc (.cells #[.int .i64 8,.int .i64 0,.int .i64 (-8)] 3):=⟨_,rfl⟩;have IU:Gr s13 V14:=R9▸(Gr.refl s13).alloc _
 have Xw:=xl (dR A10 (some ⟨s13.heap.size,0,none⟩) Wc 3 [8,0,-8] [8,0,-8] V14 V14.heap.size (xp _) ((((HIN.out.gr (by omega) TW.out).gr (by omega) agM.out).gr (by omega) IU).more (by have:=IU.size;omega)) (cv (t:=3) (f:=(0,0)) (by rw[R9];exact heap_alloc_new _ _) (by rw[R9];simp)) (by decide) (by decide));rw[decide_eq_true (rfl:([8,0,-8]:List Int)=[8,0,-8])] at Xw;have agO:=xl R9;have abU:=xl IU
 have hzq14:=IU.size;clear IU R9;go_wp2_with fail;rw[<-agO.out];refine Xw.out.mono ?_;rintro e s14 ⟨rfl,hg⟩;have HT14:=xl (abU.out.trans hg);have hzs14:=(abU.out.trans hg).size;clear hg Xw;go_wp2
end Go.Proofs.YtjcgijifamcggaaGreat
namespace Go.Bl
def gW (P:Program)(l C:Code)(N:Act->World->Prop)(a:Act)(w:World):Prop :=
 ∀(b:Frame) (k:List Item) (cs:List Frame),∃a' w',N a' w'/\Steps P (lone (b.at a (.code C::k)) cs w) (lone (b.at a' (.code l::k)) cs w')
def iE {P:Program}{l:Code}{N:Act->World->Prop}{a:Act}{w:World}(h:N a w):gW P l l N a w:=λ_ _ _=>⟨a,w,h,.refl _ _⟩
def jw {P:Program}{l c r:Code}{N:Act->World->Prop}{a:Act}{w:World}(h:c.wp P (Exit.then (gW P l r N) λ_ _ _=>False) a w):gW P l (.seq c r) N a w:=λb k cs=>by
 obtain⟨e,a1,w1,hq,K6⟩:=h b (.code r::k) cs;cases e with
 |normal =>
  obtain⟨a2,w2,hn,hs⟩:=hq b k cs;exact⟨a2,w2,hn,.head step_seq (Steps.trans K6 hs)⟩
 |_=>exact hq.elim
end Go.Bl
namespace Go.Proofs.YtjcgijifamcggaaGreat
open Go.RowKit Go.Bl Go.Co Go.Conc Go.ConcN Go.Sq
section
variable {Q:Goroutine->World->Prop} {b:Frame} {a:Act} {todo:List Item} {cs:List Frame} {w:World} {BB:FuncId->Bool}
def qD (hQ:∀g w W,Bh w W->Q g w->Q g W)(hf:BB b.fn=true)(hg:∀o,({ b.at a todo with mode:=.returning }:Frame).oper?=some o->aF Tryz.prog o.op=true)(h:∀τ d,(stepG Tryz.prog true (Go.Conc.G { b.at a todo with mode:=.returning } cs) (on w τ d)).goes (λg' w' _=>g'.callers≠[]/\∃W,Bh W w'/\BN Tryz.prog BB Q 0 g' W)) :
  BN Tryz.prog BB Q 0 (Go.Conc.G { b.at a todo with mode:=.returning } cs) w:=by
 refine BN.step ⟨hf,hg⟩ λτ d=>?_;have:=h τ d;cases hs:stepG Tryz.prog true (Go.Conc.G { b.at a todo with mode:=.returning } cs) (on w τ d) with
 |go g' w' es =>
  rw[hs] at this;obtain⟨h1,W,h2,h3⟩:=this;exact⟨g',w',es,rfl,h1,h3.same hQ h2⟩
 |_=>rw[hs] at this;exact this.elim
end
def vV:codeOk AG Fw false true Ql=true:=by kernel_rfl
def uz {QT:Goroutine->World->Prop}{C:Frame}{cs:List Frame}(hQT:∀g w W,Bh w W->QT g w->QT g W)
  (h:∀(a':Act) (todo:List Item) (w':World),a'.tmps.getD 0 undef=.bool true->a'.defers=[]->(∀o,({ (base 11).at a' todo with mode:=.returning }:Frame).oper?=some o->aF Tryz.prog o.op=true)->BN Tryz.prog Fj QT 0 (Go.Conc.G { (base 11).at a' todo with mode:=.returning } (C::cs)) w'):ju QT (C::cs):=by
 intro K A c B xs w' U ρ GF ho hU u1 u2 u3 u4 Og Dj;obtain⟨y0,y1,y2,y3,y4,y5,y6,y7,y8,y9,Ge,Gf,Gg,Gh,Gi,Gj,Gk,Gl,Gm,Im,Io,Ip,Iq,Ir,Iu,Mh,Mi,QH,QI,QJ,QK,QL,QM,QN,QO,QP,QQ,QR,QS,QU,QV,QW,QX,QY,QZ,Q2,Q3,Q4,Q6,Q7,Q8,Q9,Ra,Rb,Rc,Re,Rf,Rg,Rh,Ri,Rj,Rk,Rl,Rm,Rn,Rp,Rq,Rs,Rt,Ru,Rv,Rw,Rx,Ry,Rz,RA,RD,RF,RG,RH,RJ,RN,RO,RP,RQ,RR,RS,RU,RV,RX,RY,RZ,R3,R4,R5,rfl⟩:=wQ hU
 have u1:y1=.int .i64 1:=u1;have u2:y2=.int .i64 0:=u2;have u3:y3=.slice A 3 c:=u3;have u4:y4=.int .i64 0:=u4;subst u1 u2 u3 u4;have EW:CR w' w'.heap.size A B3:=by
  obtain⟨A',c',hv,hg⟩:=ho.Ky;have hA:A=A':=by injection hv
  subst hA;have hl:=sG;rw[GF] at hl;have:BJ ρ 3=B3:=by simpa using hl
  rw[<-this];exact hg
 have IH:Bf AG Fw zV false (BK K) ((base 11).at ⟨#[y0,.int .i64 1,.int .i64 0,.slice A 3 c,.int .i64 0,y5,y6,y7,y8,y9,Ge,Gf,Gg,Gh,Gi,Gj,Gk,Gl,Gm,Im,Io,Ip,Iq,Ir,Iu,Mh,Mi,QH,QI,QJ,QK,QL,QM,QN,QO,QP,QQ,QR,QS,QU,QV,QW,QX,QY,QZ,Q2,Q3,Q4,Q6,Q7,Q8,Q9,Ra,Rb,Rc,Re,Rf,Rg,Rh,Ri,Rj,Rk,Rl,Rm,Rn,Rp,Rq,Rs,Rt,Ru,Rv,Rw,Rx,Ry,Rz,RA,RD,RF,RG,RH,RJ,RN,RO,RP,RQ,RR,RS,RU,RV,RX,RY,RZ,R3,R4,R5],[]⟩ [.code Ql]) ((base 11).at ⟨#[y0,.int .i64 1,.int .i64 0,.slice A 3 c,.int .i64 0,y5,y6,y7,y8,y9,Ge,Gf,Gg,Gh,Gi,Gj,Gk,Gl,Gm,Im,Io,Ip,Iq,Ir,Iu,Mh,Mi,QH,QI,QJ,QK,QL,QM,QN,QO,QP,QQ,QR,QS,QU,QV,QW,QX,QY,QZ,Q2,Q3,Q4,Q6,Q7,Q8,Q9,Ra,Rb,Rc,Re,Rf,Rg,Rh,Ri,Rj,Rk,Rl,Rm,Rn,Rp,Rq,Rs,Rt,Ru,Rv,Rw,Rx,Ry,Rz,RA,RD,RF,RG,RH,RJ,RN,RO,RP,RQ,RR,RS,RU,RV,RX,RY,RZ,R3,R4,R5],[]⟩ [.code Ql]):=by
  refine⟨rfl,?_,.cons (.code vV) .nil,.nil,.run,rfl,⟨(by show CallKind.normal≠.early;decide),(by show Fw 11=true;decide)⟩,.none⟩;exact B9 (l:=[y0,.int .i64 1,.int .i64 0,.slice A 3 c,.int .i64 0,y5,y6,y7,y8,y9,Ge,Gf,Gg,Gh,Gi,Gj,Gk,Gl,Gm,Im,Io,Ip,Iq,Ir,Iu,Mh,Mi,QH,QI,QJ,QK,QL,QM,QN,QO,QP,QQ,QR,QS,QU,QV,QW,QX,QY,QZ,Q2,Q3,Q4,Q6,Q7,Q8,Q9,Ra,Rb,Rc,Re,Rf,Rg,Rh,Ri,Rj,Rk,Rl,Rm,Rn,Rp,Rq,Rs,Rt,Ru,Rv,Rw,Rx,Ry,Rz,RA,RD,RF,RG,RH,RJ,RN,RO,RP,RQ,RR,RS,RU,RV,RX,RY,RZ,R3,R4,R5]) Og
 have hs:=(dH (H:=zV) fC).seg (b:=base 11) (a:=⟨#[y0,.int .i64 1,.int .i64 0,.slice A 3 c,.int .i64 0,y5,y6,y7,y8,y9,Ge,Gf,Gg,Gh,Gi,Gj,Gk,Gl,Gm,Im,Io,Ip,Iq,Ir,Iu,Mh,Mi,QH,QI,QJ,QK,QL,QM,QN,QO,QP,QQ,QR,QS,QU,QV,QW,QX,QY,QZ,Q2,Q3,Q4,Q6,Q7,Q8,Q9,Ra,Rb,Rc,Re,Rf,Rg,Rh,Ri,Rj,Rk,Rl,Rm,Rn,Rp,Rq,Rs,Rt,Ru,Rv,Rw,Rx,Ry,Rz,RA,RD,RF,RG,RH,RJ,RN,RO,RP,RQ,RR,RS,RU,RV,RX,RY,RZ,R3,R4,R5],[]⟩) (c:=Ql) (k:=[]) (C:=C) (cs:=cs) (Q:=QT) (w:=w') (K0:=K) IH (λ_ _=>xQ _) (xQ _) (λb _ hb=>by cases hb) (λb hb=>by cases hb) (λb hb _=>Dj b hb)
  (λs h=>by cases h) (λ_ _ _ _ _ _ _ _ _ _ _ h=>by cases h) (.inr ⟨_,_,Ax,rfl⟩) hQT
  (N:=λe a' _=>e=.ret/\a'.tmps.getD 0 undef=.bool true/\a'.defers=[]) (λτ d=>uy A c y0 y5 y6 y7 y8 y9 Ge Gf Gg Gh Gi Gj Gk Gl Gm Im Io Ip Iq Ir Iu Mh Mi QH QI QJ QK QL QM QN QO QP QQ QR QS QU QV QW QX QY QZ Q2 Q3 Q4 Q6 Q7 Q8 Q9 Ra Rb Rc Re Rf Rg Rh Ri Rj Rk Rl Rm Rn Rp Rq Rs Rt Ru Rv Rw Rx Ry Rz RA RD RF RG RH RJ RN RO RP RQ RR RS RU RV RX RY RZ R3 R4 R5 (on w' τ d) EW)
  (λa' w' h=>by cases h.1) (λa' w' todo hn hpl=>h a' todo w' hn.2.1 hn.2.2 hpl)
 exact hs
structure LP (f:FuncId) where
 fn:Func
 t:Nat
 hf:Tryz.prog.funcs[f]?=some fn
 hres:fn.results=#[.tmp t]
 looked:Fj f=true
 fr:Act->Frame
 N:Act->Prop
 back:∀a,N a->ju (Bl.Left Tryz.prog f λv _=>v=.bool true) (fr a::[bad])
def fg {P:Program}{N K:Nat}{m m1 m2:Machine}{t t1 t2:Trace}(h:runNT P N m t=(.next m1,t1))(k:runNT P K m1 t1=(.next m2,t2)):runNT P (N+K) m t=(.next m2,t2):=by
 rw[cD h];exact k
def Sa {f:FuncId}{fn:Func}{t:Nat}(hf:Tryz.prog.funcs[f]?=some fn)(hres:fn.results=#[.tmp t])(hb:Fj f=true){H:Hid}{β:Bc}{g A:Goroutine}{w:World}(hg:Dc PP Jr H true Fj [] β g A)(hl:Bl.Left Tryz.prog f (λv _=>v=.bool true) g w)(W:World) :
  A.status=.running/\stepG Tryz.prog true A W=.ended (.done (.bool true)) W #[]:=by
 obtain⟨w0,v,fr,hs,rfl,rfl,IH,hm,hd,hk,Ew,hfn,hr⟩:=hl;have ED:=hg.top.Gb (show Fj fr.fn=true by rw[IH];exact hb);have e0:=hg.status.2;have e1:=hg.dying.2;have e2:=hg.offers.2;have hcs:=hg.callers;obtain⟨FR,CS2,st,dy,off⟩:=A;dsimp only at e0 e1 e2 hcs ED;subst e0 e1 e2;have Ur:CS2=[]:=by
  cases hcs with
  |base=>rfl
  |cons _ h=>exact absurd rfl h.ne
 subst Ur;refine⟨rfl,?_⟩;obtain⟨Sz,tmps,todo,defers,mode,kind,round⟩:=fr;obtain⟨fn2,Ie,Us,Kl,Ps,Zq,Pt⟩:=FR;obtain⟨a1,a2,a3,a4,a5,a6,a7,a8⟩:=ED;dsimp only[BU] at a1 a2 a3 a4 a5 a6 a7 a8 hm hd hk hfn hr IH;subst a1 a6 hm hd hk IH;have d2:Kl=[]:=by cases a4;rfl
 have m2:Ps=.returning:=by cases a5;rfl
 subst d2 m2;rw[hf] at hfn;cases hfn;have hv:tmps.getD t undef=.bool true:=by
  have:=results_tmp hres tmps Tryz.prog w0;rw[hr] at this;injection this with h1 _
  exact h1.symm
 have hV:=a2.getD t (AO.undef (SP Jr H) β);rw[hv] at hV;have hV2:Ie.getD t undef=.bool true:=by
  generalize Ie.getD t undef=V at hV;cases hV;rfl
 have hr2:=results_tmp hres Ie Tryz.prog W;rw[hV2] at hr2;have he2:=events_results_tmp (P:=Tryz.prog) (w:=W) hres Ie #[];have hne:¬2=Sz:=λe=>by subst e;revert hb;decide
 simp[stepG,unwind,doReturn,hf,hr2,he2,seen,GStep.after,hne]
section
variable {f:FuncId}
def Gz (E:LP f)(g:Goroutine)(w:World):Prop:=∃a:Act,E.N a/\KQ (E.fr a::[bad]) g w
def uB (E:LP f){A:Goroutine}{W:World}{x:Lone}(ht:Tw PP Jr Fj true 0 (λ_=>False) ⟨λB=>B<W.heap.size,W,0⟩ x A W)(hx:BN Tryz.prog Fj (Gz E) 0 x.g x.w)(hT:x.T=[])(hH:∀b,x.H b=false) :
  ∃N last o w' t',runNT Tryz.prog (N+1) (crowd #[A] W none) #[]=(.ended o w',t')/\runN Tryz.prog N (crowd #[A] W none)=.next last/\step Tryz.prog last=.ended o w' /\
   Go.Conc.Good Tryz.prog (λv w'=>v=.bool true/\(w'.os=W.os/\w'.output=W.output)/\W.heap.size<=w'.heap.size/\∀B,B<W.heap.size->w'.heap[B]?=W.heap[B]?) last o w' t':=by
 have hb:Gy Tryz.prog (λ_=>False) #[A] W #[] (λ_=>0):=by
  refine⟨⟨λi g hi hg=>?_,λj _=>rfl⟩,⟨past_nil.clean,λi a ha=>?_,past_nil.over,past_nil.hears,λop hop=>by simp at hop⟩,λi op x h=>by simp at h,λi op h=>by simp at h,λB h=>h.elim⟩
  .have:=(xm.1 hg).1;simp at this;omega
  .simp[touchAt,Trace.act?] at ha
 obtain⟨N1,m1,t1,r1,J0,W1,NZ,q1,x1,A1,rfl,a1,a2,a3,a4,a5,a6,a7,a8,a9,a10⟩:=FP (P:=PP) (SB:=Jr) (BB:=Fj) (lets:=true) (Gn:=0) (Dead:=λ_=>False) (Kp:=⟨λB=>B<W.heap.size,W,0⟩) Nv Qo (H:=x.H) (T:=x.T) (β:=x.β) (Q:=Gz E) (λg w h=>by obtain⟨a,_,h⟩:=h;exact .inl (KQ.fn g w h)) (os:=W.os) (ou:=W) (n:=1) (b0:=x.w.heap.size) (B0:=W.heap.size) _ (crowd #[A] W none) #[]
  ⟨#[A],W,none,λ_=>0,x,A,0,rfl,rfl,rfl,.of hb,ht,hx,rfl,rfl,Bc.le_refl _,⟨rfl,rfl⟩,⟨xp _,xp _,λb B h=>.inl h⟩,rfl⟩
 obtain⟨a,ha,TK⟩:=a5;have YL:∀b,x1.H b=false:=λb=>by rw[a6];exact hH b
 obtain⟨N2,m2,t2,r2,Yg,W2,Tn,q2,A2,abV,g2,w2,rfl,b1,b2,b3,b4,b5,b6,b7,b8,b9⟩:=Oh (sl:=NZ) a3.btw a4 a1 TK (Be _ _) YL (by omega);obtain⟨N3,m3,t3,r3,gs3,W3,sl3,q3,x3,A3,rfl,c1,c2,c3,c4,c5,c6,c7,c8,c9,c10⟩:=FP (P:=PP) (SB:=Jr) (BB:=Fj) (lets:=true) (Gn:=0) (Dead:=abV) (Kp:=⟨λB=>B<W.heap.size,W,0⟩) Nv Qo (H:=x1.H) (T:=x1.T) (β:=x1.β) (Q:=Qp (E.fr a::[bad])) (λg w h=>.inl (Qp.fn g w h)) (os:=W2.os) (ou:=W2) (n:=Yg.size) (b0:=w2.heap.size) (B0:=W2.heap.size) _ (crowd Yg W2 Tn) t2
  ⟨Yg,W2,Tn,q2,⟨g2,w2,x1.H,x1.β,x1.T⟩,A2,0,rfl,b1,rfl,.of b3,b4,b5,rfl,rfl,Bc.le_refl _,⟨rfl,rfl⟩,⟨xp _,xp _,λb B h=>.inl h⟩,rfl⟩
 obtain⟨N4,m4,t4,r4,SF,W4,Wq,q4,A4,Vj,g4,w4,rfl,d1,d2,d3,d4,d5,d6,d7,d8,d9⟩:=Qq (sl:=sl3) Bl.Left.same (E.back a ha) c3.btw c4 c1 c5 (Be _ _) (λb=>by rw[c6];exact YL b) (by omega);obtain⟨N5,m5,t5,r5,gs5,W5,sl5,q5,x5,A5,rfl,f1,f2,f3,f4,f5,f6,f7,f8,f9,f10⟩:=FP (P:=PP) (SB:=Jr) (BB:=Fj) (lets:=true) (Gn:=0) (Dead:=Vj) (Kp:=⟨λB=>B<W.heap.size,W,0⟩) Nv Qo (H:=x3.H) (T:=x3.T) (β:=x3.β) (Q:=Bl.Left Tryz.prog f λv _=>v=.bool true) (λg w h=>.inr ⟨f,_,h⟩) (os:=W4.os) (ou:=W4) (n:=SF.size) (b0:=w4.heap.size) (B0:=W4.heap.size) _ (crowd SF W4 Wq) t4
  ⟨SF,W4,Wq,q4,⟨g4,w4,x3.H,x3.β,x3.T⟩,A4,0,rfl,d1,rfl,.of d3,d4,d5,rfl,rfl,Bc.le_refl _,⟨rfl,rfl⟩,⟨xp _,xp _,λb B h=>.inl h⟩,rfl⟩
 have eT:x5.T=[]:=f7.trans (c7.trans (a7.trans hT));have hrun:=fg r1 (fg r2 (fg r3 (fg r4 r5)));have IJ:=f4.gl;unfold Ch at IJ;rw[eT] at IJ;have Nf:W5.os=W.os/\W5.output=W.output:=⟨f9.1.trans (d7.1.trans (c9.1.trans (b7.1.trans a9.1))),f9.2.trans (d7.2.trans (c9.2.trans (b7.2.trans a9.2)))⟩;have hsz:W.heap.size<=W5.heap.size:=by have:=f10.1;have:=c10.1;have:=a10.1;omega
 obtain⟨M,last,o,w',t',e1,e2,e3,e4⟩:=beside_ends (P:=Tryz.prog) (Shun:=GM Vj) (B:=W5.heap.size) (D:=λ_ _ _=>False) (Post:=λv w'=>v=.bool true/\(w'.os=W.os/\w'.output=W.output)/\W.heap.size<=w'.heap.size/\∀B,B<W.heap.size->w'.heap[B]?=W.heap[B]?) (λ_ _ _ h=>h.elim) (gs:=gs5) (a:=A5) (w:=W5) (sl:=sl5) (t:=t5) (q:=q5) (n:=0) f1 f3.btw.lv f3.btw.past (λw1 EH=>by
  obtain⟨d,rfl⟩:=EH;obtain⟨s1,s2⟩:=Sa E.hf E.hres E.looked IJ f5 (W5.at d)
  exact⟨s1,.bool true,#[],s2,λe he=>by simp at he,rfl,Nf,hsz,λB hB=>(f4.keep B hB).2⟩)
 refine⟨N1+(N2+(N3+(N4+N5)))+M,last,o,w',t',?_,?_,e3,e4⟩
 .exact(cD hrun).trans e1
 .have h1:=congrArg Prod.fst (cD (K:=M) hrun);rw[runNT_fst,runNT_fst] at h1;exact h1.trans e2
end
end Go.Proofs.YtjcgijifamcggaaGreat
namespace Go.Bl
def lW:∀(n:Nat) (V:Value),SizeOf.sizeOf V<=n->∃v,(∀(S:CF) (β:Bc),S.hid.bl=true->AO S β v V)/\∀(S:CF) (β:Bc),AO S β v v:=by
 intro n
 induction n with
 |zero=>intro V h;cases V<;>simp at h
 |succ n ih =>
  intro V h;have un:mT V=true->∃v,(∀(S:CF) (β:Bc),S.hid.bl=true->AO S β v V)/\∀(S:CF) (β:Bc),AO S β v v:=λhb=>⟨hole,λS β h=>.blank (.inr h) hb,λS β=>.blank (.inl rfl) rfl⟩;cases V with
  |agg X =>
   have hx:∀i:_root_.Fin X.size,∃v,(∀(S:CF) (β:Bc),S.hid.bl=true->AO S β v X[i])/\∀(S:CF) (β:Bc),AO S β v v:=λi=>ih _ (by
    have:=Array.sizeOf_getElem X i.1 i.2;simp at h;simp only[Fin.getElem_fin]
    omega)
   refine⟨.agg (Array.ofFn λi=>Classical.choose (hx i)),λS β hb=>.agg (by simp) λi v V h1 h2=>?_,λS β=>.agg rfl λi v V h1 h2=>?_⟩
   .obtain⟨hi,rfl⟩:=xm.1 h2;obtain⟨_,rfl⟩:=xm.1 h1;rw[zR];exact(Classical.choose_spec (hx ⟨i,hi⟩)).1 S β hb
   .rw[h1] at h2;cases h2;obtain⟨hi,rfl⟩:=xm.1 h1;rw[zR];exact(Classical.choose_spec (hx _)).2 S β
  |tuple X =>
   have hx:∀i:_root_.Fin X.size,∃v,(∀(S:CF) (β:Bc),S.hid.bl=true->AO S β v X[i])/\∀(S:CF) (β:Bc),AO S β v v:=λi=>ih _ (by
    have:=Array.sizeOf_getElem X i.1 i.2;simp at h;simp only[Fin.getElem_fin]
    omega)
   refine⟨.tuple (Array.ofFn λi=>Classical.choose (hx i)),λS β hb=>.tuple (by simp) λi v V h1 h2=>?_,λS β=>.tuple rfl λi v V h1 h2=>?_⟩
   .obtain⟨hi,rfl⟩:=xm.1 h2;obtain⟨_,rfl⟩:=xm.1 h1;rw[zR];exact(Classical.choose_spec (hx ⟨i,hi⟩)).1 S β hb
   .rw[h1] at h2;cases h2;obtain⟨hi,rfl⟩:=xm.1 h1;rw[zR];exact(Classical.choose_spec (hx _)).2 S β
  |pointer a=>cases a with
   |none=>exact⟨.pointer none,λ_ _ _=>.EI,λ_ _=>.EI⟩
   |some a=>exact un rfl
  |bool b=>exact⟨.bool b,λ_ _ _=>.bool b,λ_ _=>.bool b⟩
  |int k n=>exact⟨.int k n,λ_ _ _=>.int k n,λ_ _=>.int k n⟩
  |string s=>exact⟨.string s,λ_ _ _=>.string s,λ_ _=>.string s⟩
  |nilIface=>exact⟨.nilIface,λ_ _ _=>.nilIface,λ_ _=>.nilIface⟩
  |nilFunc=>exact⟨.nilFunc,λ_ _ _=>.nilFunc,λ_ _=>.nilFunc⟩
  |func f x c=>cases f with
   |method n=>exact⟨hm,λ_ _ h=>.BP (.inr h),λ_ _=>.BP (.inl rfl)⟩
   |_=>exact un rfl
  |_=>exact un rfl
noncomputable def fD (V:Value):Value:=Classical.choose (lW (SizeOf.sizeOf V) V (xp _))
def iF (V:Value):(∀(S:CF) (β:Bc),S.hid.bl=true->AO S β (fD V) V)/\∀(S:CF) (β:Bc),AO S β (fD V) (fD V):=Classical.choose_spec (lW (SizeOf.sizeOf V) V (xp _))
noncomputable def ci (k:Nat->Bool)(C:Array Value):Array Value:=C.mapIdx λi V=>if k i then V else fD V
def gX (k:Nat->Bool)(C:Array Value):(ci k C).size=C.size:=by simp[ci]
def fm (k:Nat->Bool)(C:Array Value)(i:Nat):(ci k C)[i]?=(C[i]?).map λV=>if k i then V else fD V:=by simp[ci]
def kT {k:Nat->Bool}{C:Array Value}{i:Nat}(h:k i=true):(ci k C)[i]?=C[i]?:=by
 rw[fm];simp[h]
def mJ {S:CF}{β:Bc}{k:Nat->Bool}{C:Array Value}(hb:S.hid.bl=true)(h:∀i v,k i=true->C[i]?=some v->AO S β v v):AU S β (ci k C) C:=by
 refine⟨gX _ _,λi v V h1 h2=>?_⟩;rw[fm,h2] at h1;simp only[yC,Option.some.injEq] at h1;subst h1;split
 .exact h i V ‹_› h2
 .exact(iF V).1 S β hb
def lX {S:CF}{β:Bc}{k:Nat->Bool}{C:Array Value}(h:∀i v,k i=true->C[i]?=some v->AO S β v v):AU S β (ci k C) (ci k C):=by
 refine⟨rfl,λi v V h1 h2=>?_⟩;rw[h1] at h2;cases h2;rw[fm] at h1;cases hC:C[i]? with
 |none=>rw[hC] at h1;cases h1
 |some V =>
  rw[hC] at h1;simp only[yC,Option.some.injEq] at h1;subst h1;split
  .exact h i V ‹_› hC
  .exact(iF V).2 S β
noncomputable def ir (k:Nat->Bool):Obj->Obj
 |.cells C t f=>.cells (ci k C) t (0,max C.size f.2)
 |o=>o
noncomputable def aV (K:Nat->Bool)(k:Nat->Nat->Bool)(W:World):World:={ W with heap:=W.heap.mapIdx λb o=>if K b then ir (k b) o else o }
section
variable {K:Nat->Bool} {k:Nat->Nat->Bool} {W:World}
def mK:(aV K k W).heap.size=W.heap.size:=by simp[aV]
def jy (b:Nat):(aV K k W).heap[b]?=(W.heap[b]?).map λo=>if K b then ir (k b) o else o:=by simp[aV]
def eJ {b:Nat}(hb:K b=true){C:Array Value}{t:TypeId}{f:Nat×Nat}(h:W.heap[b]?=some (.cells C t f)):(aV K k W).heap[b]?=some (.cells (ci (k b) C) t (0,max C.size f.2)):=by
 rw[jy,h];simp[hb,ir]
def mL {b o:Nat}(h:K b=true->k b o=true):(aV K k W).cell? ⟨b,o,none⟩=W.cell? ⟨b,o,none⟩:=by
 unfold World.cell?;dsimp only;rw[jy];cases hb:K b with
 |false=>cases W.heap[b]?<;>simp
 |true =>
  cases hW:W.heap[b]? with
  |none=>rfl
  |some o' =>
   cases o' with
   |cells C t f=>simp[ir,kT (h hb)]
   |_=>rfl
def qE {b:Nat}(hb:K b=true){C:Array Value}{t:TypeId}{f:Nat×Nat}(h:W.heap[b]?=some (.cells C t f)):Ro (aV K k W) b :=
 ⟨_,_,_,eJ hb h,λi hi=>by
  rw[gX] at hi
  exact⟨xQ _,xx hi (Nat.le_max_left _ _)⟩⟩
def LQ (S:CF)(K:Nat->Bool)(k:Nat->Nat->Bool)(W:World):Prop:=∀b,K b=true->∃C t f,W.heap[b]?=some (.cells C t f)/\∀i v,k b i=true->C[i]?=some v->AO S (BK λb=>K b=true) v v
def mM {S:CF}{Ck:Code->Prop}(hb:S.hid.bl=true)(hh:∀b,S.hid b=false)(h:LQ S K k W):BF S Ck 0 (BK λb=>K b=true) (aV K k W) W:=by
 refine⟨⟨λh1 h2=>h1.2.symm.trans h2.2,λh1 h2=>h1.2.trans h2.2.symm,λ_=>⟨xQ _,xQ _⟩⟩,⟨xQ _,xQ _⟩,λb B hB _=>?_,λb B _ h=>?_,λb h=>?_,rfl⟩
 .obtain⟨hk,rfl⟩:=hB;obtain⟨C,t,f,h1,h2⟩:=h b hk;exact⟨_,_,eJ hk h1,h1,.cells (mJ hb h2) λi _ hi=>⟨xQ _,xx hi (Nat.le_max_right _ _)⟩⟩
 .rw[hh] at h;cases h
 .rw[hh] at h;cases h
def LR {S:CF}{Ck:Code->Prop}(h:LQ S K k W):∀b,K b=true->∃o,(aV K k W).heap[b]?=some o/\BS S Ck (BK λb=>K b=true) o o:=λb hk=>by
 obtain⟨C,t,f,h1,h2⟩:=h b hk;exact⟨_,eJ hk h1,.cells (lX h2) λi h1 h2=>⟨h1,h2⟩⟩
end
def Hid.nb:Hid:=⟨λ_=>false,false,true⟩
end Go.Bl
namespace Go.Proofs.YtjcgijifamcggaaGreat
open Go.RowKit Go.Bl Go.Co Go.Conc Go.ConcN Go.Sq
end Go.Proofs.YtjcgijifamcggaaGreat
namespace Go.Bl
def Da (P:Program)(tgt:List Item)(C:Code)(N:Act->World->Prop)(a:Act)(w:World):Prop :=
 ∀(b:Frame) (k:List Item) (cs:List Frame),∃a' w',N a' w'/\Steps P (lone (b.at a (.code C::k)) cs w) (lone (b.at a' (tgt++k)) cs w')
def aX (P:Program)(tg:Act->List Item)(C:Code)(N:Act->World->Prop)(a:Act)(w:World):Prop :=
 ∀(b:Frame) (k:List Item) (cs:List Frame),∃a' w',N a' w'/\Steps P (lone (b.at a (.code C::k)) cs w) (lone (b.at a' (tg a'++k)) cs w')
section
variable {P:Program} {tgt:List Item} {C c r:Code} {N:Act->World->Prop} {a:Act} {w:World}
def mN (h:c.wp P (Exit.then (Da P tgt r N) λ_ _ _=>False) a w):Da P tgt (.seq c r) N a w:=λb k cs=>by
 obtain⟨e,a1,w1,hq,K6⟩:=h b (.code r::k) cs;cases e with
 |normal =>
  obtain⟨a2,w2,hn,hs⟩:=hq b k cs;exact⟨a2,w2,hn,.head step_seq (Steps.trans K6 hs)⟩
 |_=>exact hq.elim
def bZ (h:∀K:Act->World->Prop,(∀a w,Da P tgt r N a w->K a w)->c.wp P (Exit.then K λ_ _ _=>False) a w):Da P tgt (.seq c r) N a w :=
 mN (h _ λ_ _ h=>h)
def aC {tg:Act->List Item}(h:∀K:Act->World->Prop,(∀a w,aX P tg r N a w->K a w)->c.wp P (Exit.then K λ_ _ _=>False) a w):aX P tg (.seq c r) N a w:=λb k cs=>by
 obtain⟨e,a1,w1,hq,K6⟩:=h _ (λ_ _ h=>h) b (.code r::k) cs;cases e with
 |normal =>
  obtain⟨a2,w2,hn,hs⟩:=hq b k cs;exact⟨a2,w2,hn,.head step_seq (Steps.trans K6 hs)⟩
 |_=>exact hq.elim
def Al {tg:Act->List Item}{N':Act->World->Prop}(h:Da P tgt C N a w)(hN:∀a w,N a w->tg a=tgt/\N' a w):aX P tg C N' a w:=λb k cs=>by
 obtain⟨a',w',hn,hs⟩:=h b k cs;obtain⟨h1,h2⟩:=hN a' w' hn;exact⟨a',w',h2,by rw[h1];exact hs⟩
def bK (h:Da P tgt c N a w):Da P (tgt++[.code r]) (.seq c r) N a w:=λb k cs=>by
 obtain⟨a',w',hn,hs⟩:=h b (.code r::k) cs;exact⟨a',w',hn,.head step_seq (by simpa using hs)⟩
def eK {t:Operand}{x y:Code}{v:Bool}(hv:a.eval t=.bool v)(h:Da P tgt (if v then x else y) N a w):Da P tgt (.cond t x y) N a w:=λb k cs=>by
 obtain⟨a',w',hn,hs⟩:=h b k cs;exact⟨a',w',hn,.head (step_cond hv) hs⟩
def Sb {ops:Array Oper}{N K:Act->World->Prop}{i:Nat}{a:Act}{w:World}(h:wpOp P ops (Exit.then N λ_ _ _=>False) i K a w)(b:Frame)(l2:List Nat)(k:List Item)(cs:List Frame) :
  ∃a' w',K a' w'/\Steps P (lone (b.at a (.inRegion ops (i::l2)::k)) cs w) (lone (b.at a' (.inRegion ops l2::k)) cs w'):=by
 simp only[wpOp] at h;cases ho:ops[i]? with
 |none =>
  simp only[ho] at h;have hst:=step_op_skip (P:=P) (b:=b) (a:=a) (k:=k) (cs:=cs) (w:=w) (ops:=ops) (i:=i) (rest:=l2) (by simp[ho]);simp only[ho,Option.bind_none,Act.put] at hst;exact⟨a,w,h,.head hst (.refl _ _)⟩
 |some o =>
  simp only[ho] at h;have FK:∀v,(b.at a (.inRegion ops (i::l2)::k)).finish v=b.at (a.put o.dst v) (.inRegion ops l2::k):=λv=>by
   rw[Frame.finish_at,ho];rfl
  by_cases hw:Region.wanted o (yielded ops a.tmps)=true
  .simp only[hw,if_true] at h;rcases h with h|⟨_,a0,w0,hq⟩
   case inr=>exact hq.elim
   have hg:=stepG_op (P:=P) (b:=b) (k:=k) (cs:=cs) (w:=w) (rest:=l2) ho hw;simp only[Oper.wp,Oper.upon] at h;split at h
   .rename_i v w' hr;exact⟨_,_,h,.head (step_lone_go (by rw[hg,<-FK];simp[stepG.apply,hr])) (.refl _ _)⟩
   .rename_i w' hr;exact⟨_,_,h,.head (step_lone_go (by rw[hg,<-FK];simp[stepG.apply,hr])) (.refl _ _)⟩
   .rename_i d w' hr;have hd:({ b.at a (.inRegion ops (i::l2)::k) with defers:=d::a.defers }:Frame).finish undef=b.at ({ a with defers:=d::a.defers }.put o.dst undef) (.inRegion ops l2::k):=by
     have:=Frame.finish_at b { a with defers:=d::a.defers } ops i l2 k undef;rw[ho] at this;exact this
    refine⟨_,_,h,.head (step_lone_go ?_) (.refl _ _)⟩;rw[hg];simp only[stepG.apply,Sem.runT_eq,hr,GStep.bare_after];exact congrArg (λfr=>GStep.go { frame:=fr,callers:=cs,status:=.running,dying:=none } w') hd
   .rename_i f args w' hr;obtain⟨e,w2,fr,hR,hst,_,hlv⟩:=h (b.at a (.inRegion ops (i::l2)::k)::cs);have hen:step P (lone (b.at a (.inRegion ops (i::l2)::k)) cs w)=.next (lone (Frame.enter P f args .normal) (b.at a (.inRegion ops (i::l2)::k)::cs) w') :=
     step_lone_go (by rw[hg];simp[stepG.apply,hr,Frame.at])
    cases e with
    |returned v =>
     refine⟨_,_,hR,.head hen (hst.trans (.head ?_ (.refl _ _)))⟩;rw[<-FK];exact step_leave_returned hlv
    |panicked chain=>exact hR.elim
    |outgrown =>
     obtain⟨a0,w0,hq⟩:=hR;exact hq.elim
   .rename_i row args w' hr;obtain⟨v,w2,hR,hst⟩:=h (b.at a (.inRegion ops (i::l2)::k)) cs;have hen:step P (lone (b.at a (.inRegion ops (i::l2)::k)) cs w)=.next (lone (Frame.ofRow P row args .normal) (b.at a (.inRegion ops (i::l2)::k)::cs) w') :=
     step_lone_go (by rw[hg];simp[stepG.apply,hr,Frame.at])
    refine⟨_,_,hR,.head hen (Steps.trans ?_ (.refl _ _))⟩;rw[<-FK];exact hst
   .exact h.elim
   .exact h.elim
  .simp only[hw,if_false,xP] at h;have hst:=step_op_skip (P:=P) (b:=b) (a:=a) (k:=k) (cs:=cs) (w:=w) (ops:=ops) (i:=i) (rest:=l2) (by simp[ho];simpa using hw);simp only[ho,yp] at hst;exact⟨_,_,h,.head hst (.refl _ _)⟩
def Ov {ops:Array Oper}{K:Act->World->Prop}(l2:List Nat)(l:List Nat):∀(a:Act) (w:World),wpOps P ops (Exit.then K λ_ _ _=>False) l a w->∀(b:Frame) (k:List Item) (cs:List Frame),
  ∃a' w',K a' w'/\Steps P (lone (b.at a (.inRegion ops (l++l2)::k)) cs w) (lone (b.at a' (.inRegion ops l2::k)) cs w'):=by
 induction l with
 |nil=>exact λa w h b k cs=>⟨a,w,h,.refl _ _⟩
 |cons i rest ih =>
  intro a w h b k cs;rw[wpOps_cons] at h;obtain⟨a1,w1,h1,h2⟩:=Sb h b (rest++l2) k cs;obtain⟨a2,w2,h3,h4⟩:=ih a1 w1 h1 b k cs;exact⟨a2,w2,h3,h2.trans h4⟩
def oU {ops:Array Oper}{Q:Exit->Act->World->Prop}(l:List Oper):∀k,(∀j,j<l.length->l[j]?=ops[k+j]?)->wpOps P ops Q (List.range' k l.length)=wpList P ops Q l:=by
 induction l with
 |nil=>intro k _;funext a w;simp[wpOps,wpList]
 |cons o l ih =>
  intro k h;have h0:ops[k]?=some o:=by simpa using(h 0 (by simp)).symm
  have ih':=ih (k+1) λj hj=>by have:=h (j+1) (by simpa using hj);simpa [zu,Nat.add_comm 1 j] using this
  funext a w;simp only[xH,List.range'_succ,wpOps,h0,wpList,ih']
def bu {id:Nat}{ops:Array Oper}{l:List Oper}{l2:List Nat}(hl:∀j,j<l.length->l[j]?=ops[j]?)(h2:List.range ops.size=List.range' 0 l.length++l2)(h:wpList P ops (Exit.then N λ_ _ _=>False) l a w):Da P [.inRegion ops l2] (.region id ops false) N a w:=λb k cs=>by
 rw[<-oU l 0 (λj hj=>by rw[xM];exact hl j hj)] at h;obtain⟨a',w',hq,hs⟩:=Ov l2 _ a w h b k cs;exact⟨a',w',hq,.head step_region (by rw[h2];exact hs)⟩
end
section
variable {P:Program} {SB:FuncId->Bool} {H:Hid} {G:Nat}
def FT (b:Frame)(tg:Act->List Item)(cs:List Frame)(N:Act->World->Prop)(g:Goroutine)(w:World):Prop :=
 ∃a' w0,Bh w0 w/\N a' w0/\g=BU (b.at a' (tg a')) cs
def FT.same {b:Frame}{tgt:Act->List Item}{cs:List Frame}{N:Act->World->Prop}(g:Goroutine)(w W:World)(h:Bh w W)(q:FT b tgt cs N g w):FT b tgt cs N g W:=by
 obtain⟨a',w0,h1,h2⟩:=q;exact⟨a',w0,h1.trans h,h2⟩
def IV (L:Lib (Bw.of P) SB H false SB G){b:Frame}{a:Act}{tgt:Act->List Item}{C:Code}{k:List Item}{cs:List Frame}{w:World}{N:Act->World->Prop}(hne:cs≠[])(hs:Self P SB H G (BU (b.at a (.code C::k)) cs) w)
  (h:∀τ d,aX P tgt C N a (on w τ d)):AZ P (Self P SB H G) (FT b (λa=>tgt a++k) cs N) (BU (b.at a (.code C::k)) cs) w:=by
 refine eu L FT.same ⟨hs,λτ d=>?_⟩;obtain⟨a',w',hn,n,hr⟩:=h τ d b k cs;exact cP L (hs.same zU) hr hne ⟨a',w',⟨rfl,rfl,rfl⟩,hn,rfl⟩
end
section
variable {P:Bw} {Bu BC BB:FuncId->Bool} {H:Hid} {G:Nat} {Q:Goroutine->World->Prop}
def FX.Xx (B:FX P Bu BC BB H G){b:Frame}{a:Act}{tgt:Act->List Item}{c:Code}{k:List Item}{C:Frame}{cs:List Frame}{K0:Nat->Prop}{w:World}
  (IH:Bf P.a Bu H false (BK K0) (b.at a (.code c::k)) (b.at a (.code c::k)))
  (C7:∀b,K0 b->G<=b) (hroom:G<=w.heap.size) (Hw:∀b,K0 b->H b=true->H.BX=true/\w.heap[b]?=some (.coro none)) (hold:∀b,H b=true->b<w.heap.size) (Dj:∀b,K0 b->H b=false->∃o,w.heap[b]?=some o/\BS (SP Bu H) (CK P.a Bu false) (BK K0) o o)
  (hk:∀a c t,tgt a++k≠.code c::t) (hbl:BC b.fn=true\/∃fn s,P.a.funcs[b.fn]?=some fn/\fn.body=some (.refuse s)) (hQ:∀g w W,Bh w W->Q g w->Q g W) {N:Act->World->Prop}
  (hc:∀τ d,aX P.a tgt c N a (on w τ d))
  (h1:∀a' w',N a' w'->BN P.b BB Q 0 (BU (b.at a' (tgt a'++k)) (C::cs)) w') :
  BN P.b BB Q 0 (BU (b.at a (.code c::k)) (C::cs)) w:=by
 have h0:=B.run (Qa:=FT b (λa=>tgt a++k) [bad] N) FT.same (λg w f' hl hf' hlk e=>by
  obtain⟨a',w0,_,_,rfl⟩:=hl;have e3:b.fn=f':=e;rcases hbl with h|⟨fn,s,r1,r2⟩
  .rw[e3,hf'] at h;cases h
  .obtain⟨x,y,fn2,r,o1,o2,s2,fn3,hp,_⟩:=hlk;have:=hp.func;rw[<-e3,r1] at this;cases this;have:=hp.text;rw[r2] at this
   cases this) (C:=C) (cs:=cs) (.on IH) (.on IH) C7 hroom Hw hold Dj λhs=>IV (N:=N) (tgt:=tgt) B.la (by simp) hs hc
 refine h0.bind λg2 w' hq=>?_;obtain⟨g',w0,AQ,q1,q2,q3,q4,q5⟩:=hq;have ED:Bf P.a Bu H false AQ g'.frame g2.frame:=by
  have Cs:=q4.top;obtain⟨a',wl,l1,l2,l3⟩:=q1;generalize hf:g'.frame=fr at Cs ⊢;generalize g2.frame=FR at Cs ⊢;cases Cs with
  |on h=>exact h
  |@stop f A A' kd s1 s2 s3 s4 =>
   exfalso;rcases B.ref f s1 s2 with⟨fn,s,r1,r2⟩|⟨x,y,fn,r,o1,o2,s,fn3,hp,_⟩
   .subst l3;have:=congrArg Frame.todo hf;simp only[Go.Bl.BU,Frame.enter,r1,Frame.at] at this;exact hk _ _ _ this
   .subst l3;have:=congrArg Frame.todo hf;simp only[Go.Bl.BU,Frame.enter,hp.func,Frame.at] at this;exact hk _ _ _ this
 have eF:g'.frame=g2.frame:=Bf.id (P:=Bw.of P.a) q3 ED;have e2:g2=BU g2.frame g2.callers:=by
  obtain⟨x1,x2,x3,x4,x5⟩:=g2;obtain⟨_,_,⟨_,s1⟩,⟨_,d1⟩,⟨_,o1⟩⟩:=q4;dsimp only at *;subst s1 d1 o1
  rfl
 obtain⟨a',wl,l1,l2,l3⟩:=q1;have Ur:g2.callers=C::cs:=by
  have:=q4.callers;rw[show g'.callers=[bad] by rw[l3];rfl] at this;generalize g2.callers=X at this;cases this with
  |base=>rfl
  |cons _ h=>exact absurd rfl h.ne
 rw[e2,Ur,<-eF,l3];exact(h1 a' wl l2).same hQ (l1.trans q2)
end
end Go.Bl
namespace Go.Proofs.YtjcgijifamcggaaGreat
open Go.RowKit Go.Bl Go.Co Go.Conc Go.ConcN Go.Sq
inductive LS (ops:Array Oper):List Nat->Act->Act->Prop
 |nil (a:Act):LS ops [] a a
 |cons {i:Nat} {rest:List Nat} {a a':Act} {o:Oper} {v:Value}:ops[i]?=some o->Region.wanted o (yielded ops a.tmps)=true->aF Tryz.prog o.op=true->(∀w,(execOp a.eval o).run Tryz.prog w=.ok (.value v) w)->LS ops rest (a.put o.dst v) a'->LS ops (i::rest) a a'
def qF {Q:Goroutine->World->Prop}(hQ:∀g w W,Bh w W->Q g w->Q g W){b:Frame}(hB:Fj b.fn=true)(hk:b.kind≠.early){ops:Array Oper}{k:List Item}{C:Frame}{cs:List Frame}{w:World}{rest:List Nat}{a a':Act}(h:LS ops rest a a')
  (he:BN Tryz.prog Fj Q 0 (Go.Conc.G (b.at a' (.inRegion ops []::k)) (C::cs)) w):BN Tryz.prog Fj Q 0 (Go.Conc.G (b.at a (.inRegion ops rest::k)) (C::cs)) w:=by
 induction h with
 |nil a=>exact he
 |@cons i rest a a' o v ho hw pl hv _ ih =>
  have hn:bC Tryz.prog (.inRegion ops (i::rest)::k)=true:=by
   show(match ops[i]? with|some o=>aF Tryz.prog o.op|none=>true)=true;rw[ho];exact pl
  refine aw hQ hB hn λτ d=>?_;rw[stepG_value ho hw hk (hv _)];simp only[goes_go];exact⟨Be _ _,w,zU,ih he⟩
structure LawIn (f:FuncId)(ops:Array Oper)(i:Nat)(rest:List Nat)(more:List Item) where
 fn:Func
 o:Oper
 d:Nat
 t:Nat
 n:Nat
 N:Act->Prop
 hf:Tryz.prog.funcs[f]?=some fn
 ho:ops[i]?=some o
 Xy:o.dst=some d
 hop:∃ts,o.op=.call { callee:=.value (.func 11),args:=#[],argTypes:=ts }
 plain:aF Tryz.prog o.op=true
 hres:fn.results=#[.tmp t]
 looked:Fj f=true
 hn:fn.ntmps=n
 want:∀a,N a->Region.wanted o (yielded ops a.tmps)=true
 OO:∀a,N a->a.defers=[]
 pure:∀a,N a->∃a',LS ops rest (a.put (some d) (.bool true)) a'/\a'.defers=[]/\a'.tmps.getD t undef=.bool true
section
variable {f:FuncId} {ops:Array Oper} {i:Nat} {rest:List Nat} {more:List Item}
def LawIn.tgt (_:LawIn f ops i rest more):List Item:=.inRegion ops (i::rest)::.code .ret::more
def LawIn.fr (E:LawIn f ops i rest more)(a:Act):Frame:=(base f).at a E.tgt
def LawIn.go (E:LawIn f ops i rest more){a:Act}(ha:E.N a){cs:List Frame}(hcs:cs≠[]){w:World}:BN Tryz.prog Fj (KQ (E.fr a::cs)) 0 (Go.Conc.G ((base f).at a E.tgt) cs) w:=by
 have hQ:∀g w W,Bh w W->KQ (E.fr a::cs) g w->KQ (E.fr a::cs) g W:=KQ.same;have hB:Fj (base f).fn=true:=E.looked;obtain⟨ts,g3⟩:=E.hop;have hn:bC Tryz.prog E.tgt=true:=by
  show(match ops[i]? with|some o=>aF Tryz.prog o.op|none=>true)=true;rw[E.ho];exact E.plain
 refine aw hQ hB hn λτ d=>?_;refine aB (o:=E.o) E.ho (E.want a ha) (by show CallKind.normal≠.early;decide) g3 Tryz.func11 (by kernel_rfl) (by kernel_rfl) ⟨Be _ _,w,zU,?_⟩;have em:(#[]:Array Operand).map a.eval=#[]:=by simp
 rw[em];exact ui (cs:=E.fr a::cs) (Be _ _) w
def LawIn.back (E:LawIn f ops i rest more){a:Act}(ha:E.N a):ju (Bl.Left Tryz.prog f λv _=>v=.bool true) (E.fr a::[bad]):=by
 have hQ:∀g w W,Bh w W->Bl.Left Tryz.prog f (λv _=>v=.bool true) g w->Bl.Left Tryz.prog f (λv _=>v=.bool true) g W:=Bl.Left.same;have hB:Fj (base f).fn=true:=E.looked;refine uz hQ λa' todo w' hv VG hpl=>?_;refine qD hQ (by show Fj 11=true;decide) hpl λτ dd=>?_;refine goes_leave1 (b:=base 11) (b₀:=base f) (a₀:=a) (ops:=ops) (i:=i) (rest:=rest) (k:=.code .ret::more) rfl VG Tryz.func11 rfl ⟨Be _ _,w',zU,?_⟩
 rw[hv];have e1:(ops[i]?.bind (·.dst))=some E.d:=by rw[E.ho];exact E.Xy
 rw[e1];obtain⟨a2,hp,KL,agP⟩:=E.pure a ha;refine qF hQ hB (by show CallKind.normal≠.early;decide) hp ?_;refine aw hQ hB rfl λτ dd=>?_;rw[stepG_region_end];simp only[goes_go];refine⟨Be _ _,w',zU,?_⟩;refine aw hQ hB rfl λτ dd=>?_;rw[stepG_ret'];simp only[goes_go];refine⟨Be _ _,w',zU,.fin ?_⟩;refine⟨w',.bool true,_,⟨rfl,rfl,rfl⟩,rfl,rfl,rfl,rfl,KL,rfl,E.fn,E.hf,?_⟩;have:=results_tmp E.hres a2.tmps Tryz.prog w'
 rw[agP] at this;exact this
variable {K:Nat->Bool} {k:Nat->Nat->Bool} {W:World} {args:Array Value}
def qG (E:LP f){n:Nat}(hn:E.fn.ntmps=n)(tg:Act->List Item)(htg:∀a c t,tg a≠.code c::t)(hE:∀a,E.N a->∀w,BN Tryz.prog Fj (KQ (E.fr a::[bad])) 0 (Go.Conc.G ((base f).at a (tg a)) [bad]) w){C:Code}(Ha:E.fn.body=some C)(hput:(f != 11&&GH f)=true)(WO:Fw f=true)(LU:codeOk AG Fw false true C=true)(JV:∀S,LQ S K k W)(DU:∀S,AU S (BK λb=>K b=true) args args)
  (hgo:∀τ d,aX AG tg C (λa _=>E.N a) ⟨args++Array.replicate (n-args.size) undef,[]⟩ (on (aV K k W) τ d)) :
  BN Tryz.prog Fj (Gz E) 0 (Go.Conc.G (Frame.enter Tryz.prog f args .normal) [bad]) (aV K k W):=by
 have hQ:∀g w W,Bh w W->Gz E g w->Gz E g W:=λg w W s ⟨a,h1,h3⟩=>⟨a,h1,KQ.same g w W s h3⟩;rw[enter_at _ E.hf Ha,hn];have IH:Bf AG Fw zV false (BK λb=>K b=true) ((base f).at ⟨args++Array.replicate (n-args.size) undef,[]⟩ [.code C]) ((base f).at ⟨args++Array.replicate (n-args.size) undef,[]⟩ [.code C]) :=
  ⟨rfl,(DU _).append (.replicate (.undef _ _) _),.cons (.code LU) .nil,.nil,.run,rfl,⟨(by show CallKind.normal≠.early;decide),WO⟩,.none⟩
 refine(dH (H:=zV) fC).Xx (b:=base f) (a:=⟨args++Array.replicate (n-args.size) undef,[]⟩) (tgt:=tg) (c:=C) (k:=[]) (C:=bad) (cs:=[]) (Q:=Gz E) (w:=aV K k W) (K0:=λb=>K b=true) IH (λ_ _=>xQ _) (xQ _) (λb _ hb=>by cases hb) (λb hb=>by cases hb) (λb hb _=>LR (JV _) b hb)
  (λa c t h=>htg a c t (by simpa using h)) (.inr ⟨_,_,Sq.put E.hf hput,rfl⟩) hQ (N:=λa _=>E.N a) hgo (λa' w' hn=>?_)
 rw[zv];exact(hE a' hn _).mono λg w h=>⟨a',hn,h⟩
def oV (E:LP f){n:Nat}(hn:E.fn.ntmps=n)(tg:Act->List Item)(htg:∀a c t,tg a≠.code c::t)(hE:∀a,E.N a->∀w,BN Tryz.prog Fj (KQ (E.fr a::[bad])) 0 (Go.Conc.G ((base f).at a (tg a)) [bad]) w){C:Code}(Ha:E.fn.body=some C)(hput:(f != 11&&GH f)=true)(WO:Fw f=true)(hsm:Jr f=true)(LU:codeOk AG Fw false true C=true)(JV:∀S,LQ S K k W)(DU:∀S,AU S (BK λb=>K b=true) args args)
  (hgo:∀τ d,aX AG tg C (λa _=>E.N a) ⟨args++Array.replicate (n-args.size) undef,[]⟩ (on (aV K k W) τ d)) :
  ∃M last o w' t',runNT Tryz.prog (M+1) (solo (Go.Conc.G (Frame.enter Tryz.prog f args .normal) []) W) #[]=(.ended o w',t')/\runN Tryz.prog M (solo (Go.Conc.G (Frame.enter Tryz.prog f args .normal) []) W)=.next last/\step Tryz.prog last=.ended o w' /\
   Go.Conc.Good Tryz.prog (λv w'=>v=.bool true/\(w'.os=W.os/\w'.output=W.output)/\W.heap.size<=w'.heap.size/\∀B,B<W.heap.size->w'.heap[B]?=W.heap[B]?) last o w' t' :=
 uB E (A:=Go.Conc.G (Frame.enter Tryz.prog f args .normal) []) (W:=W) (x:=⟨Go.Conc.G (Frame.enter Tryz.prog f args .normal) [bad],aV K k W,Hid.nb,BK λb=>K b=true,[]⟩)
  ⟨⟨B5 (P:=PP) (Nv _) (.inl hsm) (DU _) .normal (by decide),.base,⟨rfl,rfl⟩,⟨rfl,rfl⟩,⟨rfl,rfl⟩⟩,mM rfl (λ_=>rfl) (JV _),rfl,λ_ _ _ h=>h.elim,λB hB=>⟨hB,rfl⟩,λb B hb _=>by
   obtain⟨hk,rfl⟩:=hb;obtain⟨C,t,f,h1,_⟩:=JV (SP Jr Hid.nb) b hk
   exact .inr (qE hk h1)⟩ (qG E hn tg htg hE Ha hput WO LU JV DU hgo) rfl λ_=>rfl
variable {PS:Array Oper} {i2:Nat} {Ng:List Nat} {Vm:List Item}
noncomputable def LawIn.two (E:LawIn f ops i rest more)(F:LawIn f PS i2 Ng Vm)(p:Act->Bool):LP f where
 fn:=E.fn
 t:=E.t
 hf:=E.hf
 hres:=E.hres
 looked:=E.looked
 fr a:=if p a then E.fr a else F.fr a
 N a:=(p a=true/\E.N a)\/(p a=false/\F.N a)
 back a h:=by
  rcases h with⟨h1,h2⟩|⟨h1,h2⟩
  .rw[if_pos h1];exact E.back h2
  .rw[if_neg (by rw[h1];simp)];exact F.back h2
def lY (E:LawIn f ops i rest more)(F:LawIn f PS i2 Ng Vm)(p:Act->Bool){C:Code}(Ha:E.fn.body=some C)(hput:(f != 11&&GH f)=true)(WO:Fw f=true)(hsm:Jr f=true)(LU:codeOk AG Fw false true C=true)(JV:∀S,LQ S K k W)(DU:∀S,AU S (BK λb=>K b=true) args args)
  (hgo:∀τ d,aX AG (λa=>if p a then E.tgt else F.tgt) C (λa _=>(E.two F p).N a) ⟨args++Array.replicate (E.n-args.size) undef,[]⟩ (on (aV K k W) τ d)) :
  ∃M last o w' t',runNT Tryz.prog (M+1) (solo (Go.Conc.G (Frame.enter Tryz.prog f args .normal) []) W) #[]=(.ended o w',t')/\runN Tryz.prog M (solo (Go.Conc.G (Frame.enter Tryz.prog f args .normal) []) W)=.next last/\step Tryz.prog last=.ended o w' /\
   Go.Conc.Good Tryz.prog (λv w'=>v=.bool true/\(w'.os=W.os/\w'.output=W.output)/\W.heap.size<=w'.heap.size/\∀B,B<W.heap.size->w'.heap[B]?=W.heap[B]?) last o w' t' :=
 oV (E.two F p) E.hn (λa=>if p a then E.tgt else F.tgt) (λa c t h=>by
  split at h<;>simp[LawIn.tgt] at h) (λa h w=>by
  show BN Tryz.prog Fj (KQ ((if p a then E.fr a else F.fr a)::[bad])) 0 _ w;rcases h with⟨h1,h2⟩|⟨h1,h2⟩
  .rw[if_pos h1,if_pos h1];exact E.go h2 (Be _ _)
  .rw[if_neg (by rw[h1];simp),if_neg (by rw[h1];simp)];exact F.go h2 (Be _ _)) Ha hput WO hsm LU JV DU hgo
end
end Go.Proofs.YtjcgijifamcggaaGreat
namespace Go.Sq
open Go.RowKit
end Go.Sq
namespace Go.Proofs.YtjcgijifamcggaaGreat
open Go.RowKit Go.Sq
end Go.Proofs.YtjcgijifamcggaaGreat
