/- What is proved: whatever the input, the law WolfWatches answers true. Conditions: none beyond the statement's own. -/
import Derived.Test.YteckikkkfpblhaaGreatP26
import Derived.Test.YteckikkkfpblhaaGreatP21
import Derived.Test.YteckikkkfpblhaaGreatP00
import Derived.Test.YteckikkkfpblhaaGreatP22
import Derived.Test.YteckikkkfpblhaaGreatRows
import Derived.Test.YteckikkkfpblhaaGreatChecked
import Derived.Conc.HoldsTime
import Derived.ProofKit
import Derived.ClosedOfChecked
import Derived.Conc.LeavingOf
set_option linter.all false
set_option maxRecDepth 100000
namespace Go.Proofs.YteckikkkfpblhaaGreat
open Go.Proofs.Ao
open Go.RowKit Go.Sq Go.AW
def wO (a:Array Value):a=T a.size λi=>a[i]?.getD undef:=by
 refine Array.ext GL.symm λi h1 h2=>?_;have e:(T a.size λi=>a[i]?.getD undef)[i]?=some (a[i]?.getD undef):=gn h1;rw[xp h2,xp h1] at e;injection e with e
 exact e.symm
def wm {a:Array Value}{n:Nat}(h:a.size=n):a=T n λi=>a[i]?.getD undef:=h▸wO a
noncomputable def jT:Code:=Ik 2 dA
noncomputable def Fw:Array Oper:=Ca (EA (U5 (cg 1)))
noncomputable def F7:Array Oper:=Ca (EA vS)
def kW:dA=.seq (.region 0 (Ca (cg 0)) false) (.seq (.seq (.region 1 (Ca (EA (cg 1))) false) (.cond (.tmp 29) (.seq (.region 2 Fw false) .ret) .skip)) jT):=by kernel_rfl
def rz:jT=.seq (.region 3 (Ca (cg 2)) false) (.seq (.region 4 (Ca (cg 3)) false) (.seq (.region 5 (Ca (cg 4)) true) (.seq (cg 5) (.seq (.region 16 F7 false) .ret)))):=by kernel_rfl
def rB (a:Act):Prop:=a.tmps.size=136/\a.defers=[]
def n14 {u:Nat->Value}:rB ⟨T 136 u,[]⟩:=⟨GL,rfl⟩
def mI {P:Program}{id:Nat}{ops:Array Oper}{more:List Item}{N:Act->World->Prop}{a:Act}{w:World}(h:List.range ops.size=[0,1])(hn:N a w):aR P [.inRegion ops [0,1],.code .ret] (.seq (.region id ops false) .ret) N a w :=
 iS (tgt:=[.inRegion ops [0,1]]) (km (l:=[]) (by intro j hj;simp at hj) (by rw[h];rfl) hn)
section
variable {nA hA gA A:Option Addr} {nc hc gc cap:Nat} {c:AD} {ls:List (List Int)} {l:List Int} {w:World} {u:Nat->Value}
def uS (h0:u 0=.agg #[.slice nA c.Aq.length nc,.slice hA c.Ap.length hc])(h1:u 1=.slice gA ls.length gc)(hh:BG w w.heap.size hA c.Ap)(hg:BD w w.heap.size gA ls)(DG:c.Aq.length<=9223372036854775807)(hl2:c.Ap.length<=9223372036854775807)(EY:∀h∈c.Ap,h.off.length<=9223372036854775807)
  (hl4:ls.length<=9223372036854775807) (Nh:∀x∈ls,x.length<=9223372036854775807) (hs:(Dt c&&GK ls)=false):aR An [.inRegion Fw [0,1],.code .ret,.code jT] dA (λa _=>rB a) ⟨T 136 u,[]⟩ w:=by
 rw[kW];refine ba λK hK=>?_;refine ry h0 λW1 u1 g1 f1 h3=>hK _ _ ?_;refine iS (tgt:=[.inRegion Fw [0,1],.code .ret]) ?_;refine ba λK hK=>?_;cases LV:Dt c with
 |false =>
  refine uR (B:=w.heap.size) h3 g1.size (hh.keep λb o hb=>g1.cell hb) DG hl2 EY LV λW2 u2 g2 f2 Xl=>hK _ _ ?_;refine ig (v:=true) ((eX (by decide)).trans Xl) ?_;exact mI (more:=[]) (by kernel_rfl) n14
 |true =>
  rw[LV,yN] at hs;refine oe (B:=w.heap.size) h3 g1.size (hh.keep λb o hb=>g1.cell hb) DG hl2 EY LV ((f1.at_ 1).trans h1) (hg.keep λb o hb=>g1.cell hb) hl4 Nh λW2 u2 g2 f2 Xl=>hK _ _ ?_;rw[hs] at Xl;refine ig (v:=true) ((eX (by decide)).trans Xl) ?_;exact mI (more:=[]) (by kernel_rfl) n14
def uT (h0:u 0=.agg #[.slice nA c.Aq.length nc,.slice hA c.Ap.length hc])(h1:u 1=.slice gA ls.length gc)(h2:u 2=.slice A l.length cap)(hn:RI w w.heap.size nA c.Aq)(hh:BG w w.heap.size hA c.Ap)(hg:BD w w.heap.size gA ls)(hr:RI w w.heap.size A l)
  (hs:(Dt c&&GK ls)=true):aR An [.inRegion F7 [0,1],.code .ret] dA (λa _=>rB a) ⟨T 136 u,[]⟩ w:=by
 obtain⟨LV,hfb⟩:Dt c=true/\GK ls=true:=by simpa using hs
 obtain⟨s1,s2,s3⟩:=Ot LV;obtain⟨s4,s5⟩:=TE hfb;rw[kW];refine ba λK hK=>?_;refine ry h0 λW1 u1 g1 f1 h3=>hK _ _ ?_;refine ba λK hK=>?_;refine wp_seq (oe (B:=w.heap.size) h3 g1.size (hh.keep λb o hb=>g1.cell hb) (by omega) (by omega) (λy hy=>xx (s3 y hy) (by omega)) LV ((f1.at_ 1).trans h1) (hg.keep λb o hb=>g1.cell hb) (by omega) (λy hy=>xx (s5 y hy) (by omega)) λW2 u2 g2 f2 Xl=>?_);rw[hfb] at Xl
 show Code.wp _ _ _ _ _;refine wp_cond_false ((eX (by decide)).trans Xl) (wp_skip (hK _ _ ?_));rw[rz];have g02:=g1.trans g2;refine ba λK hK=>?_;refine vZ (B:=w.heap.size) ((f2.at_ 2).trans ((f1.at_ 2).trans h2)) (hr.keep λb o hb=>g02.cell hb) g02.size λW3 u3 g3 f3 h7=>hK _ _ ?_;obtain⟨hb,B,e7,BU,hh3⟩:=h7;have MR:Il w.heap.size (.slice nA c.Aq.length nc) (.slice hA c.Ap.length hc) (u3 3) W2:=by
  rw[f3.at_ 3,f2.at_ 3];exact Fv _ _ _ _ _ _ g2 h3
 obtain⟨b3,e3,hb3,c30,c31⟩:=MR;have Xm:¬b3=hb:=by omega
 have g03:=g02.trans g3;refine ba λK hK=>?_;refine we e7 hh3 λW4 u4 c2 nA2 hA2 nc2 hc2 k4 Sn f4 Du JJ h8 LY hs2=>hK _ _ ?_;obtain⟨b8,e8,LK,c80,c81⟩:=h8;have EY:=hh3.lt;have hz3:=g3.size;have q5:=Du.n5;have q4:=Du.h4;refine ba λK hK=>?_;refine wj (gc:=gc) (nc:=nc) (hc:=hc) (b3:=b3) (b8:=b8) (c:=c) (c2:=c2) (nA:=nA) (hA:=hA) (nA2:=nA2) (hA2:=hA2) (nc2:=nc2) (hc2:=hc2) (gA:=gA) (ls:=ls) ((f4 1 (by decide) (by decide) (by decide)).trans ((f3.at_ 1).trans ((f2.at_ 1).trans ((f1.at_ 1).trans h1)))) ((f4 3 (by decide) (by decide) (by decide)).trans e3) ⟨by have:=k4.size;omega,Xm⟩
  ((k4.cell (p:=⟨b3,0,none⟩) (show b3<W3.heap.size by omega) Xm).trans ((g3.cell (p:=⟨b3,0,none⟩) hb3.2).trans c30)) ((k4.cell (p:=⟨b3,1,none⟩) (show b3<W3.heap.size by omega) Xm).trans ((g3.cell (p:=⟨b3,1,none⟩) hb3.2).trans c31)) ((f4 7 (by decide) (by decide) (by decide)).trans e7) Sn e8 ⟨LK.2,by omega⟩ c80 c81 (by omega) (by omega) λW5 u5 k5 f5 h9 h10=>hK _ _ ?_
 obtain⟨cb,e9,lcb,hcb⟩:=h9;obtain⟨x,⟨rb,OH,lrb,MN⟩,Xk,⟨xs,Jj⟩,hl2,hch⟩:=h10;obtain⟨gA2,gc2,rfl,hg2⟩:=Jj.Ll;have Nf:∀b o,b<w.heap.size->W5.cell? ⟨b,o,none⟩=w.cell? ⟨b,o,none⟩:=λb o Jp=>by
  have:=g02.size;exact(k5.cell (p:=⟨b,o,none⟩) (show b<W4.heap.size by have:=k4.size;have:=g03.size;omega) (show ¬b=hb by omega)).trans ((k4.cell (p:=⟨b,o,none⟩) (show b<W3.heap.size by have:=g03.size;omega) (show ¬b=hb by omega)).trans (g03.cell (p:=⟨b,o,none⟩) Jp))
 have hz:w.heap.size<=W5.heap.size:=xx g03.size (xx k4.size k5.size);have hk2:∀b o,W3.heap.size<=b/\b<W4.heap.size->W5.cell? ⟨b,o,none⟩=W4.cell? ⟨b,o,none⟩:=λb o hb'=>k5.cell (p:=⟨b,o,none⟩) hb'.2 (show ¬b=hb by omega);have MK:RI W5 W5.heap.size nA2 c2.Aq:=(LY.keep hk2).ri λb hb'=>by have:=k5.size;omega
 have hs5:BG W5 W5.heap.size hA2 c2.Ap:=(hs2.keep hk2).hs λb hb'=>by have:=k5.size;omega
 have GJ:BD W5 W5.heap.size gA ls:=(hg.keep Nf).more hz;have o5:∀y∈c2.Ap,y.off.length<=20:=λy hy=>xx (Du.off y hy).1 (by omega);have Xn:=(xg.1 hcb).1;have Xo:=(xg.1 MN).1;have cc:=λi=>(cell_of_heap hcb i).1;have rr:=λi=>(cell_of_heap MN i).1;refine ba λK hK=>?_
 refine td (cb:=cb) (co:=0) (rb:=rb) (ro:=0) (cc:=3) (rc:=3) (F:=λk=>match k with
  |0=>⟨nA,hA,gA,nc,hc,gc,c,ls⟩
  |1=>⟨nA2,hA2,gA2,nc2,hc2,gc2,c2,Xk⟩
  |_=>⟨nA2,hA2,gA,nc2,hc2,gc,c2,ls⟩) e9 OH (λk hk=>?_) λW6 u6 g6=>hK _ _ ?_
 .match k,hk with
  |0,_=>exact⟨cc 0,cc 1,rr 0,⟨Xn,Xo⟩,⟨(hn.keep Nf).more hz,(hh.keep Nf).more hz,GJ⟩,⟨s1,s2,s3,s4,s5⟩⟩
  | 1, _ => exact ⟨cc 2, cc 3, rr 1, ⟨Xn, Xo⟩, ⟨MK, hs5, hg2⟩, ⟨by show c2.Aq.length <= 20; omega, by show c2.Ap.length <= 20; omega, o5, by show Xk.length <= 20; omega, fun y hy => by
    obtain⟨p,rfl⟩:=hch y hy;have:=cT p c2.Ap.length
    omega⟩⟩
  |2,_=>exact⟨cc 4,cc 5,rr 2,⟨Xn,Xo⟩,⟨MK,hs5,GJ⟩,⟨by show c2.Aq.length<=20;omega,by show c2.Ap.length<=20;omega,o5,s4,s5⟩⟩
 .exact mI (more:=[]) (by kernel_rfl) n14
end
open Go.Co Go.Conc Go.ConcN
def AU {a:Act}{v:Value}{d:Nat}(h:d<a.tmps.size):(a.put (some d) v).tmps.getD d undef=v:=by
 show(a.tmps.setIfInBounds d v).getD d undef=v;simp[Array.getD,h]
def mJ {a:Act}{v:Value}{d:Nat}:(a.put (some d) v).tmps.size=a.tmps.size:=Array.size_setIfInBounds
noncomputable def wP:LawIn 3 Fw 0 [1] [.code jT] where
 fn:=Tryz.f3
 o:=Fw.getD 0 default
 d:=30
 t:=6
 n:=136
 N:=rB
 hf:=Tryz.func3
 ho:=by kernel_rfl
 Xb:=by kernel_rfl
 hop:=⟨#[],by kernel_rfl⟩
 plain:=by kernel_rfl
 hres:=by kernel_rfl
 looked:=by decide
 hn:=Tryz.ntmps3
 want a h:=bi (by kernel_rfl)
 NM a h:=h.2
 pure a h:=by
  obtain⟨h1,h2⟩:=h;have g1:(Fw.getD 1 default).guard=none:=by kernel_rfl
  have o1:(Fw.getD 1 default).op=.assign (.tmp 30):=by kernel_rfl
  have d1:(Fw.getD 1 default).dst=some 6:=by kernel_rfl
  have s1:(a.put (some 30) (.bool true)).tmps.size=136:=by rw[mJ];exact h1
  refine⟨(a.put (some 30) (.bool true)).put (some 6) (.bool true),.cons (o:=Fw.getD 1 default) (v:=.bool true) (by kernel_rfl) (bi g1) (by kernel_rfl) (λw=>?_) ?_,h2,AU (by rw[s1];decide)⟩
  .unfold execOp;rw[o1];have e1:(a.put (some 30) (.bool true)).eval (.tmp 30)=.bool true:=AU (by rw[h1];decide);simp[e1]
  .rw[d1];exact .nil _
noncomputable def wQ:LawIn 3 F7 0 [1] [] where
 fn:=Tryz.f3
 o:=F7.getD 0 default
 d:=135
 t:=6
 n:=136
 N:=rB
 hf:=Tryz.func3
 ho:=by kernel_rfl
 Xb:=by kernel_rfl
 hop:=⟨#[],by kernel_rfl⟩
 plain:=by kernel_rfl
 hres:=by kernel_rfl
 looked:=by decide
 hn:=Tryz.ntmps3
 want a h:=bi (by kernel_rfl)
 NM a h:=h.2
 pure a h:=by
  obtain⟨h1,h2⟩:=h;have g1:(F7.getD 1 default).guard=none:=by kernel_rfl
  have o1:(F7.getD 1 default).op=.assign (.tmp 135):=by kernel_rfl
  have d1:(F7.getD 1 default).dst=some 6:=by kernel_rfl
  have s1:(a.put (some 135) (.bool true)).tmps.size=136:=by rw[mJ];exact h1
  refine⟨(a.put (some 135) (.bool true)).put (some 6) (.bool true),.cons (o:=F7.getD 1 default) (v:=.bool true) (by kernel_rfl) (bi g1) (by kernel_rfl) (λw=>?_) ?_,h2,AU (by rw[s1];decide)⟩
  .unfold execOp;rw[o1];have e1:(a.put (some 135) (.bool true)).eval (.tmp 135)=.bool true:=AU (by rw[h1];decide);simp[e1]
  .rw[d1];exact .nil _
def kX:codeOk An Fj false true dA=true:=by kernel_rfl
def args_at {x y z:Value}{X:Array Value}:((#[x,y,z]:Array Value)++X)[0]?.getD undef=x/\((#[x,y,z]:Array Value)++X)[1]?.getD undef=y/\((#[x,y,z]:Array Value)++X)[2]?.getD undef=z:=by
 refine⟨?_,?_,?_⟩<;>(rw[zo (by simp)];rfl)
def Ox {nA hA gA A:Option Addr}{nc hc gc cap:Nat}{c:AD}{ls:List (List Int)}{l:List Int}{W:World}(k0:Fa W (AH nA hA c nc hc))(k1:Fa W (.slice gA ls.length gc))(k2:Fa W (.slice A l.length cap))
  (hn:RI (Et W) W.heap.size nA c.Aq) (hh:BG (Et W) W.heap.size hA c.Ap) (hg:BD (Et W) W.heap.size gA ls) (hr:RI (Et W) W.heap.size A l) (DG:c.Aq.length<=maxLen) (hl2:c.Ap.length<=maxLen) (EY:∀h∈c.Ap,h.off.length<=maxLen) (hl4:ls.length<=maxLen) (Nh:∀x∈ls,x.length<=maxLen) :
  ∃M last o w' t',runNT Tryz.prog (M+1) (solo (Go.Conc.G (Frame.enter Tryz.prog 3 #[AH nA hA c nc hc,.slice gA ls.length gc,.slice A l.length cap] .normal) []) W) #[]=(.ended o w',t')/\runN Tryz.prog M (solo (Go.Conc.G (Frame.enter Tryz.prog 3 #[AH nA hA c nc hc,.slice gA ls.length gc,.slice A l.length cap] .normal) []) W)=.next last/\step Tryz.prog last=.ended o w' /\
   Go.Conc.Good Tryz.prog (λv w'=>v=.bool true/\(w'.os=W.os/\w'.output=W.output)/\W.heap.size<=w'.heap.size/\∀B,B<W.heap.size->w'.heap[B]?=W.heap[B]?) last o w' t':=by
 have C8:∀S,AA S (Bn λb=>JS W b=true) #[AH nA hA c nc hc,.slice gA ls.length gc,.slice A l.length cap] #[AH nA hA c nc hc,.slice gA ls.length gc,.slice A l.length cap]:=λS=>⟨rfl,λi v V h1 h2=>by
  rw[h1] at h2;cases h2
  match i,h1 with
  |0,h1=>cases h1;exact k0 S
  |1,h1=>cases h1;exact k1 S
  |2,h1=>cases h1;exact k2 S⟩
 have em:maxLen=9223372036854775807:=by unfold maxLen;omega
 have hz:∀τ d,(on (Et W) τ d).heap.size=W.heap.size:=λτ d=>nd;have eT:(#[AH nA hA c nc hc,.slice gA ls.length gc,.slice A l.length cap]:Array Value)++Array.replicate (136-3) undef=T 136 λi=>((#[AH nA hA c nc hc,.slice gA ls.length gc,.slice A l.length cap]:Array Value)++Array.replicate (136-3) undef)[i]?.getD undef:=wm (by simp);cases hs:Dt c&&GK ls with
 |false =>
  refine iT (K:=JS W) (k:=Nt W) wP (C:=dA) (by kernel_rfl) (by decide) (by decide) (by decide) kX (jO W) C8 λτ d=>?_;show aR An _ _ _ ⟨_++Array.replicate (136-3) undef,[]⟩ _;rw[eT];exact uS (nA:=nA) (hA:=hA) (gA:=gA) (nc:=nc) (hc:=hc) (gc:=gc) (c:=c) (ls:=ls) args_at.1 args_at.2.1 (by rw[hz];exact hh) (by rw[hz];exact hg) (xx DG (yl em)) (xx hl2 (yl em)) (λh hh=>xx (EY h hh) (yl em)) (xx hl4 (yl em)) (λx hx=>xx (Nh x hx) (yl em)) hs
 |true =>
  refine iT (K:=JS W) (k:=Nt W) wQ (C:=dA) (by kernel_rfl) (by decide) (by decide) (by decide) kX (jO W) C8 λτ d=>?_;show aR An _ _ _ ⟨_++Array.replicate (136-3) undef,[]⟩ _;rw[eT];exact uT (nA:=nA) (hA:=hA) (gA:=gA) (A:=A) (nc:=nc) (hc:=hc) (gc:=gc) (cap:=cap) (c:=c) (ls:=ls) (l:=l) args_at.1 args_at.2.1 args_at.2.2 (by rw[hz];exact hn) (by rw[hz];exact hh) (by rw[hz];exact hg) (by rw[hz];exact hr) hs
def Xp:laidOutB Tryz.checked.prog=true/\mapsRowed Tryz.checked.prog=true/\Tryz.checked.prog.plainKeys=true:=Go.ClosedOfChecked.closed_of_checked Tryz.checked (by kernel_rfl) (by kernel_rfl) (by kernel_rfl)
def tf:joinedFacts Tryz.pinned.checked.prog 3 Tryz.f3 Rows.wolfWatchesSpec Rows.wolfWatchesRow=true:=by
 show joinedFacts Tryz.checked.prog 3 Tryz.f3 Rows.wolfWatchesSpec Rows.wolfWatchesRow=true;obtain⟨h1,h2,h3⟩:=Xp;unfold joinedFacts;rw[h1,h2,h3]
 kernel_rfl
def uU:Tryz.pinned.checked.prog.funcNamed Rows.wolfWatchesRow.func=some 3:=by kernel_rfl
open Go.ChangeShapes Go.WideShapes Go.ChangeAt
def Tryz.own:ownKnob Tryz.prog.godebug=none:=by kernel_rfl
def Tryz.laidOut:laidOutB Tryz.prog=true:=by kernel_rfl
def iu (os:Os)(started:os.Started)(H:Type)(enc:TypeId×Value->H)(F:Stop.Interp) :
  ReturnsInLeavingWide { calm:=true } Tryz.checked os 3 .any (Rows.wolfWatchesSpec.pre6 enc Tryz.prog Tryz.f3 [] false) ((OpenSpec.ofChange Rows.wolfWatchesSpec).postWith enc Tryz.prog Tryz.f3 F (outsideKept [.timePasses]) false true false):=by
 refine returnsInLeavingWide_of_change_time (C:=Tryz.checked) Tryz.own started Tryz.func3
  (ChangeSpec.witness6c (enc:=enc) (C:=Tryz.checked) ⟨#[],#[.agg #[.slice none 0 0,.slice none 0 0],.slice none 0 0,.slice none 0 0],[]⟩ 8 (by kernel_rfl) (by kernel_rfl) (by kernel_rfl) (by kernel_rfl)) ?_
 intro W base args ds gs before U8 hW _ _ _;have hval:∀(j:Nat) t v,Tryz.f3.params[j]?=some t->args[j]?=some v->Value.okWide Tryz.prog W .any base t v:=U8;have hW':=hW;obtain⟨p,q,hA0,hV,rfl,_,_⟩:=hW;have hA:DataW.TrodAll enc Tryz.prog W 0 (λ_=>true) true Tryz.f3.params.toList args.toList ds p:=hA0;rw[Tryz.params3] at hA hval;obtain⟨v0,v1,v2,d0,d1,d2,p0,p1,p2,rfl,rfl,rfl,h0,h1,h2⟩:=trodAll_three hA
 obtain⟨rfl,rfl⟩:=trodVars_none hV;simp only[List.append_nil] at hW';have hlt:∀x∈p0++p1++p2,x.block<W.heap.size:=λx hx=>by simpa using hW'.lt x hx
 clear hA0 U8;obtain⟨nA,hA1,nc,hc,c,rfl,k0,hn,hh,DG,hl2,EY⟩:=Ou (hval 0 _ v0 rfl rfl) h0;obtain⟨a1,len1,Vg,rfl⟩:=okWide_slice Tryz.underlying26 (hval 1 _ v1 rfl rfl);obtain⟨a2,af0,Pf,rfl⟩:=okWide_slice Tryz.underlying22 (hval 2 _ v2 rfl rfl);obtain⟨Xc,UW,S4,e3,e59,e36⟩:=TF;obtain⟨gA,gl,gc,ls,hc1,rfl,hl4,Nh,k1,hg⟩:=Oo Tryz.underlying26 Tryz.underlying22 Tryz.underlying3 UW e3 h1.choose_spec
 obtain⟨A,ll,cap,l,hc2,rfl,_,k2,hr⟩:=Hs Tryz.underlying22 Tryz.underlying3 e3 h2.choose_spec;simp[Value.cells] at hc1 hc2;obtain⟨rfl,rfl,rfl⟩:=hc1;obtain⟨rfl,rfl,rfl⟩:=hc2;obtain⟨M,last,o,w',t',r1,r2,r3,r4⟩:=Ox k0 k1 k2 hn hh hg hr DG hl2 EY hl4 Nh;refine⟨M,last,o,w',t',r1,r2,r3,r4.mono λv hF=>?_⟩;obtain⟨rfl,⟨e1,e2⟩,e3,e4⟩:=hF;refine⟨?_,by rw[e1];exact Go.ConcM.OsLater.refl _⟩;have TM:Below W.heap.size W { w' with os:=W.os,tape:=W.tape }:=⟨rfl,rfl,e2,e3,λk hk=>e4 k hk⟩
 have Iq:=TM.frame (λx=>x∈p0++p1++p2/\(x∈([]:List MemPlace)\/x∈p0++(p1++p2)\/x∈([]:List MemPlace)));have g0:=Below.trod Tryz.laidOut (by kernel_rfl) (of_decide_eq_true (by kernel_rfl)) h0 TM λx hx=>hlt x (by simp[hx]);have g1:=Below.trod Tryz.laidOut (by kernel_rfl) (of_decide_eq_true (by kernel_rfl)) h1 TM λx hx=>hlt x (by simp[hx]);have g2:=Below.trod Tryz.laidOut (by kernel_rfl) (of_decide_eq_true (by kernel_rfl)) h2 TM λx hx=>hlt x (by simp[hx])
 refine⟨_,_,_,[],p0++(p1++p2),[],hW',?_,?_,rfl,Iq,λh=>by cases h⟩
 .exact trodAll_mk1 (shut_bool (by first|exact Tryz.underlying1|kernel_rfl) true)
 .have q0:DataW.Trod enc Tryz.prog { w' with os:=W.os } 0 (λb=>decide (b<W.heap.size)) true 25 (AH nA hA1 c nc hc) d0 p0:=g0.of_heap (by rfl);have q1:DataW.Trod enc Tryz.prog { w' with os:=W.os } 0 (λb=>decide (b<W.heap.size)) true 26 (.slice a1 ls.length Vg) d1 p1:=g1.of_heap (by rfl);have q2:DataW.Trod enc Tryz.prog { w' with os:=W.os } 0 (λb=>decide (b<W.heap.size)) true 22 (.slice a2 l.length Pf) d2 p2:=g2.of_heap (by rfl)
  exact trodAll_mk3 q0 q1 q2
theorem wolfWatches_holds:Rows.WolfWatchesSaid :=
 OpenClaim.holds_of_wide_leaving_time 3 Tryz.f3 rfl rfl rfl rfl rfl rfl rfl ⟨rfl,rfl,rfl,rfl,rfl⟩ rfl rfl rfl rfl rfl uU Tryz.func3 tf
  (of_decide_eq_true (by kernel_rfl)) (by unfold Func.isWrapper;first|(rw[if_pos (by decide +kernel)];kernel_rfl)|(rw[if_neg (by decide +kernel)];exact⟨rfl,rfl⟩))
  (λos started H enc _ F=>iu os started H enc F)
end Go.Proofs.YteckikkkfpblhaaGreat
