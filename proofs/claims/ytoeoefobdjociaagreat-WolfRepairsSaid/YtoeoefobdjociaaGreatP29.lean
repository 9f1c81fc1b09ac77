/- What is proved: whatever the numbers, the law WolfRepairs answers true. Conditions: none beyond the statement's own. -/
import Derived.Test.YtoeoefobdjociaaGreatP28
import Derived.Conc.LeavingOf
set_option linter.all false
set_option maxRecDepth 100000
open Go.DataW renaming Trod->Z,TrodAll->X
open Go.Proofs.Tryz renaming prog->Y,underlying3->J,underlying22->I,checked->E,underlying26->O,func3->S,f3->V
open Go.ChangeShapes renaming trodAll_cons->U
open Go.RowKit.Below renaming trod->N
open Go renaming TypeId->D,MemPlace->R,Value->G
namespace Go.Proofs.YtoeoefobdjociaaGreat
open Go.ChangeShapes Go.WideShapes Go.ChangeAt Go.RowKit Go.Conc Go.Eu Go.Sq
def Tryz.own:ownKnob Tryz.prog.godebug=none:=by kernel_rfl
def Tryz.laidOut:laidOutB Y=true:=by kernel_rfl
def eu {H:Type}{enc:D×G->H}{P:Program}{w:World}{base:Nat}{spare:Nat->Bool}{held:Bool}{t:D}{ts:List D}{v:G}{vs:List G}{d:DataW H}{ds:List (DataW H)}{p p':List R}(h:Z enc P w base spare held t v d p)(hs:X enc P w base spare held ts vs ds p'):X enc P w base spare held (t::ts) (v::vs) (d::ds) (p++p'):=⟨p,p',h,hs,rfl⟩
def Ll {H:Type}{enc:D×G->H}{P:Program}{w:World}{base:Nat}{spare:Nat->Bool}{held:Bool}{t0 t1 t2 t3 t4:D}{args:Array G}{ds:List (DataW H)}{ps:List R}(h:X enc P w base spare held [t0,t1,t2,t3,t4] args.toList ds ps) :
  ∃v0 v1 v2 v3 v4 d0 d1 d2 d3 d4 p0 p1 p2 p3 p4,args=#[v0,v1,v2,v3,v4]/\ds=[d0,d1,d2,d3,d4]/\ps=p0++(p1++(p2++(p3++(p4++[]))))/\Z enc P w base spare held t0 v0 d0 p0/\Z enc P w base spare held t1 v1 d1 p1/\Z enc P w base spare held t2 v2 d2 p2 /\
   Z enc P w base spare held t3 v3 d3 p3/\Z enc P w base spare held t4 v4 d4 p4:=by
 obtain⟨v0,vs,d0,a6,p0,q,e,rfl,rfl,h0,h⟩:=U h;obtain⟨v1,vs,d1,a6,p1,q,rfl,rfl,rfl,h1,h⟩:=U h;obtain⟨v2,vs,d2,a6,p2,q,rfl,rfl,rfl,h2,h⟩:=U h;obtain⟨v3,vs,d3,a6,p3,q,rfl,rfl,rfl,h3,h⟩:=U h;obtain⟨v4,vs,d4,a6,p4,q,rfl,rfl,rfl,h4,h⟩:=U h;obtain⟨rfl,rfl,rfl⟩:=trodAll_nil h;obtain⟨l⟩:=args;exact⟨v0,v1,v2,v3,v4,d0,d1,d2,d3,d4,p0,p1,p2,p3,p4,by cases e;rfl,rfl,rfl,h0,h1,h2,h3,h4⟩
def iJ (os:Os)(started:os.Started)(H:Type)(enc:D×G->H)(F:Stop.Interp) :
  ReturnsInLeavingWide { calm:=true } E os 3 .any (Rows.wolfRepairsSpec.pre6 enc Y V [] false) ((OpenSpec.ofChange Rows.wolfRepairsSpec).postWith enc Y V F (outsideKept [.timePasses]) false true false):=by
 refine returnsInLeavingWide_of_change_time (C:=E) Tryz.own started S
  (ChangeSpec.witness6c (enc:=enc) (C:=E) ⟨#[],#[.agg #[.slice none 0 0,.slice none 0 0],.slice none 0 0,.int .i64 0,.int .i64 0,.slice none 0 0],[]⟩ 8 (by kernel_rfl) (by kernel_rfl) (by kernel_rfl) (by kernel_rfl)) ?_
 intro W base args ds gs before a7 hW _ _ _;have hval:∀(j:Nat) t v,Tryz.f3.params[j]?=some t->args[j]?=some v->Value.okWide Y W .any base t v:=a7;have a8:=hW;obtain⟨p,q,hA0,hV,rfl,_,_⟩:=hW;have hA:X enc Y W 0 (λ_=>true) true Tryz.f3.params.toList args.toList ds p:=hA0;rw[Tryz.params3] at hA hval;obtain⟨v0,v1,v2,v3,v4,d0,d1,d2,d3,d4,p0,p1,p2,p3,p4,rfl,rfl,rfl,h0,h1,h2,h3,h4⟩:=Ll hA
 obtain⟨rfl,rfl⟩:=trodVars_none hV;simp only[B6] at a8;have zY:∀x∈p0++(p1++(p2++(p3++p4))),x.block<W.heap.size:=λx hx=>by simpa using a8.lt x hx
 clear hA0 a7;obtain⟨nA,hA1,nc,hc,c,rfl,k0,hn,hh,aC,zC,aD⟩:=ND (hval 0 _ v0 rfl rfl) h0;obtain⟨a1,len1,aA,rfl⟩:=okWide_slice O (hval 1 _ v1 rfl rfl);obtain⟨a2,aH,aB,rfl⟩:=okWide_slice I (hval 4 _ v4 rfl rfl);obtain⟨herder,rfl,_⟩:=okWide_int J (hval 2 _ v2 rfl rfl);obtain⟨night,rfl,_⟩:=okWide_int J (hval 3 _ v3 rfl rfl)
 obtain⟨aI,aF,aJ,e3,aK,e36⟩:=Pe;obtain⟨gA,gl,gc,ls,zw,rfl,zr,aG,k1,hg⟩:=NA O I J aF e3 h1.choose_spec;obtain⟨A,ll,cap,l,zt,rfl,_,k4,hr⟩:=JG I J e3 h4.choose_spec;simp[Value.cells] at zw zt;obtain⟨rfl,rfl,rfl⟩:=zw;obtain⟨rfl,rfl,rfl⟩:=zt;obtain⟨M,last,o,w',t',r1,r2,r3,r4⟩:=OV (herder:=herder) (night:=night) k0 k1 k4 hn hh hg hr aC zC aD zr aG
 refine⟨M,last,o,w',t',r1,r2,r3,r4.mono λv hF=>?_⟩;obtain⟨rfl,⟨e1,e2⟩,e3,e4⟩:=hF;refine⟨?_,by rw[e1];exact Go.ConcM.OsLater.refl _⟩;have a6:Below W.heap.size W { w' with os:=W.os,tape:=W.tape }:=⟨rfl,rfl,e2,e3,λk hk=>e4 k hk⟩;have zR:=a6.frame (λx=>x∈p0++(p1++(p2++(p3++p4)))/\(x∈([]:List R)\/x∈p0++(p1++(p2++(p3++(p4++[]))))\/x∈([]:List R)));have g0:=N Tryz.laidOut (by kernel_rfl) (B3 (by kernel_rfl)) h0 a6 λx hx=>zY x (by simp[hx])
 have g1:=N Tryz.laidOut (by kernel_rfl) (B3 (by kernel_rfl)) h1 a6 λx hx=>zY x (by simp[hx]);have g2:=N Tryz.laidOut (by kernel_rfl) (B3 (by kernel_rfl)) h2 a6 λx hx=>zY x (by simp[hx]);have g3:=N Tryz.laidOut (by kernel_rfl) (B3 (by kernel_rfl)) h3 a6 λx hx=>zY x (by simp[hx]);have g4:=N Tryz.laidOut (by kernel_rfl) (B3 (by kernel_rfl)) h4 a6 λx hx=>zY x (by simp[hx])
 refine⟨_,_,_,[],p0++(p1++(p2++(p3++(p4++[])))),[],a8,?_,?_,rfl,zR,λh=>by cases h⟩
 .exact trodAll_mk1 (shut_bool (by first|exact Tryz.underlying1|kernel_rfl) true)
 .have q0:Z enc Y { w' with os:=W.os } 0 (λb=>decide (b<W.heap.size)) true 25 (Ef nA hA1 c nc hc) d0 p0:=g0.of_heap (by rfl);have q1:Z enc Y { w' with os:=W.os } 0 (λb=>decide (b<W.heap.size)) true 26 (.slice a1 ls.length aA) d1 p1:=g1.of_heap (by rfl);have q2:Z enc Y { w' with os:=W.os } 0 (λb=>decide (b<W.heap.size)) true 3 (.int .i64 herder) d2 p2:=g2.of_heap (by rfl)
  have q3:Z enc Y { w' with os:=W.os } 0 (λb=>decide (b<W.heap.size)) true 3 (.int .i64 night) d3 p3:=g3.of_heap (by rfl);have q4:Z enc Y { w' with os:=W.os } 0 (λb=>decide (b<W.heap.size)) true 22 (.slice a2 l.length aB) d4 p4:=g4.of_heap (by rfl);exact eu q0 (eu q1 (eu q2 (eu q3 (eu q4 trodAll_mk0))))
theorem wolfRepairs_holds:Rows.WolfRepairsSaid :=
 OpenClaim.holds_of_wide_leaving_time 3 V rfl rfl rfl rfl rfl rfl rfl ⟨rfl,rfl,rfl,rfl,rfl⟩ rfl rfl rfl rfl rfl yS S xK
  (B3 (by kernel_rfl)) (by unfold Func.isWrapper;first|(rw[AF (by decide +kernel)];kernel_rfl)|(rw[AD (by decide +kernel)];exact⟨rfl,rfl⟩))
  (λos started H enc _ F=>iJ os started H enc F)
end Go.Proofs.YtoeoefobdjociaaGreat
