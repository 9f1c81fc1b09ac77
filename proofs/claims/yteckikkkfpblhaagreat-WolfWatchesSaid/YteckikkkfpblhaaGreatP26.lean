/- Parts of the proof. -/
import Derived.Test.YteckikkkfpblhaaGreatP25
import Derived.Test.YteckikkkfpblhaaGreatP00
set_option linter.all false
set_option maxHeartbeats 3200000
set_option maxRecDepth 1000000
namespace Go.Proofs.Ao
open Go.RowKit Go.Sq Go.AW
noncomputable def dA:Code:=Tryz.f3.body.getD .skip
noncomputable def cg (n:Nat):Code:=EA (Ik n dA)
noncomputable def vS:Code:=Ik 6 dA
def LJ:Code->Code
 |.block _ b=>b
 |.loop b=>b
 |c=>c
noncomputable def uJ:Code:=LJ (EA (Hu (LJ (LJ (Hu (cg 5))))))
noncomputable def cn (n:Nat):Code:=Ik n uJ
def Ca:Code->Array Oper
 |.region _ o _=>o
 |_=>#[]
def U5:Code->Code
 |.seq _ (.cond _ x _)=>x
 |c=>c
noncomputable def cD (k:Nat):Array Oper:=Ca (EA (cn k))
structure OW (W:World)(cb co rb ro ob k cc rc mc nc hc:Nat)(mA nA hA:Option Addr)(x:Jf)(u:Nat->Value):Prop where
 u9:u 9=.slice (some ⟨cb,co,none⟩) 3 cc
 u10:u 10=.slice (some ⟨rb,ro,none⟩) 3 rc
 U6:u 11=.int .i64 (k:Nat)
 k3:k<3
 u12:u 12=.pointer (some ⟨ob,0,none⟩)
 u13:u 13=.slice mA x.ls.length mc
 Gx:Ow W cb co rb ro k x
 lt:ob<W.heap.size
 o0:W.cell? ⟨ob,0,none⟩=some (.slice nA x.c.Aq.length nc)
 o1:W.cell? ⟨ob,1,none⟩=some (.slice hA x.c.Ap.length hc)
 n:RI W W.heap.size nA x.c.Aq
 h:BG W W.heap.size hA x.c.Ap
 m:BD W W.heap.size mA x.ls
section
variable {W:World} {cb co rb ro ob k cc rc mc nc hc:Nat} {mA nA hA:Option Addr} {x:Jf} {u:Nat->Value}
def OW.gr (h:OW W cb co rb ro ob k cc rc mc nc hc mA nA hA x u){W':World}(hg:Gr W W'){u':Nat->Value}(e9:u' 9=u 9)(OH:u' 10=u 10)(e11:u' 11=u 11)(R5:u' 12=u 12)(e13:u' 13=u 13):OW W' cb co rb ro ob k cc rc mc nc hc mA nA hA x u' :=
 ⟨e9.trans h.u9,OH.trans h.u10,e11.trans h.U6,h.k3,R5.trans h.u12,e13.trans h.u13,h.Gx.gr hg,xl h.lt hg.size,(hg.cell (p:=⟨ob,_,none⟩) h.lt).trans h.o0,(hg.cell (p:=⟨ob,_,none⟩) h.lt).trans h.o1,h.n.on hg,h.h.on hg,h.m.on hg⟩
def OW.cells (h:OW W cb co rb ro ob k cc rc mc nc hc mA nA hA x u)(V:World)(hV:Gr W V):(V.cell? ⟨cb,co+k*2,none⟩=some (.slice x.nA x.c.Aq.length x.nc)/\V.cell? ⟨cb,co+k*2+1,none⟩=some (.slice x.hA x.c.Ap.length x.hc)/\V.cell? ⟨rb,ro+k,none⟩=some (.slice x.gA x.ls.length x.gc)/\V.cell? ⟨ob,0,none⟩=some (.slice nA x.c.Aq.length nc)/\V.cell? ⟨ob,1,none⟩=some (.slice hA x.c.Ap.length hc))/\cb<V.heap.size/\rb<V.heap.size/\ob<V.heap.size:=by
 have:=h.gr (u':=u) hV rfl rfl rfl rfl rfl;exact⟨⟨this.Gx.c0,this.Gx.c1,this.Gx.r0,this.o0,this.o1⟩,this.Gx.lt.1,this.Gx.lt.2,this.lt⟩
end
def uK {cb co rb ro ob k cc rc mc nc hc:Nat}{mA nA hA:Option Addr}{x:Jf}{W:World}{u:Nat->Value}{Q:Exit->Act->World->Prop}(hu:OW W cb co rb ro ob k cc rc mc nc hc mA nA hA x u)
  (hK:∀W' u',Gr W W'->Fr (cD 1) u' u->Ef (Dc x) (u' 14) W'->u' 15=.int .i64 (Ay x.c x.ls)->Q .normal ⟨T 136 u',[]⟩ W'):(Code.region 10 (cD 1) false).wp An Q ⟨T 136 u,[]⟩ W:=by
 have HC:=xf (λV hV=>hu.cells V hV);have hk:=hu.k3;have H1:=xf (λV (hV:Gr W V)=>rq (nc:=nc) (hc:=hc) (gc:=mc) hu.Gx.small (hu.n.on hV) (hu.h.on hV) (hu.m.on hV));refine cm (R:=Gr) (m:=8) (by kernel_rfl) [λv _=>v=.agg #[.slice nA x.c.Aq.length nc,.slice hA x.c.Ap.length hc],λv _=>v=.slice mA x.ls.length mc,Kr (Dc x) (Ay x.c x.ls),Kr (Dc x) (Ay x.c x.ls),Ef (Dc x),λv _=>v=.int .i64 (Ay x.c x.ls),Ef (Dc x),λv _=>v=.int .i64 (Ay x.c x.ls)] ⟨aa _,aa _,cO _ _,cO _ _,aT _,aa _,aT _,aa _,trivial⟩ ⟨⟨⟨⟨⟨⟨⟨⟨trivial,?_⟩,?_⟩,?_⟩,?_⟩,?_⟩,?_⟩,?_⟩,?_⟩ λu w hg hf hv=>?_
 .intro u w hg hf hl hd;refine am (op:=.load 25 (.tmp 12)) (t:=25) rfl (λev he=>?_);have R5:=(he.t 12).trans ((hf.at_ 12).trans hu.u12);obtain⟨⟨c0,c1,r0,o0,o1⟩,cl,rl,ol⟩:=HC.out w hg;clear hg hf hl hd he;go_simp
 .intro u w hg hf hl hd;exact ai rfl ((hf.at_ 13).trans hu.u13)
 .intro u w hg hf hl hd;refine aL rfl Sq.func12 #[.agg #[.slice nA x.c.Aq.length nc,.slice hA x.c.Ap.length hc],.slice mA x.ls.length mc] (λev he=>?_) ((H1.out w hg).mono λe w' h=>?_)
  .simp[((he.t 62).trans (hd.at_ 0 62)),((he.t 63).trans (hd.at_ 1 63))]
  .obtain⟨h1,A,j,rfl,h2⟩:=h;exact⟨_,rfl,h1,_,rfl,A,j,rfl,h2⟩
 .intro u w hg hf hl hd;exact ai rfl (hd.at_ 2 64)
 .intro u w hg hf hl hd;obtain⟨y,e,hy⟩:=(hd.at_ 3 61);exact bu rfl e rfl hy
 .intro u w hg hf hl hd;obtain⟨y,e,hy⟩:=(hd.at_ 3 61);exact bu rfl e rfl rfl
 .intro u w hg hf hl hd;exact aP rfl (hd.at_ 4 65)
 .intro u w hg hf hl hd;exact aP rfl (hd.at_ 5 66)
 .exact hK w u hg hf (hv.at_ 6 14) (hv.at_ 7 15)
def uL {cb co rb ro ob k cc rc mc nc hc:Nat}{mA nA hA:Option Addr}{x:Jf}{W:World}{u:Nat->Value}{Q:Exit->Act->World->Prop}(hu:OW W cb co rb ro ob k cc rc mc nc hc mA nA hA x u)
  (hK:∀W' u',Gr W W'->Fr (cD 2) u' u->Ef (Dc x) (u' 16) W'->u' 17=.int .i64 (Ay x.c x.ls)->Q .normal ⟨T 136 u',[]⟩ W'):(Code.region 11 (cD 2) true).wp An Q ⟨T 136 u,[]⟩ W:=by
 have HC:=xf (λV hV=>hu.cells V hV);have hk:=hu.k3;have H1:=xf (λV (hV:Gr W V)=>mD (nc:=x.nc) (hc:=x.hc) (gc:=x.gc) hu.Gx.small (hu.Gx.at_.gr hV).n (hu.Gx.at_.gr hV).h (hu.Gx.at_.gr hV).g);refine fL (R:=Gr) (m:=14) (by kernel_rfl) [λv _=>v=.slice (some ⟨cb,co,none⟩) 3 cc,λv _=>v=.int .i64 (k:Nat),λv _=>v=.pointer (some ⟨cb,co+k*2,none⟩),λv _=>v=.agg #[.slice x.nA x.c.Aq.length x.nc,.slice x.hA x.c.Ap.length x.hc],λv _=>v=.slice (some ⟨rb,ro,none⟩) 3 rc,λv _=>v=.int .i64 (k:Nat),λv _=>v=.pointer (some ⟨rb,ro+k,none⟩),λv _=>v=.slice x.gA x.ls.length x.gc,Kr (Dc x) (Ay x.c x.ls),Kr (Dc x) (Ay x.c x.ls),Ef (Dc x),λv _=>v=.int .i64 (Ay x.c x.ls),Ef (Dc x),λv _=>v=.int .i64 (Ay x.c x.ls)] ⟨aa _,aa _,aa _,aa _,aa _,aa _,aa _,aa _,cO _ _,cO _ _,aT _,aa _,aT _,aa _,trivial⟩ ⟨⟨⟨⟨⟨⟨⟨⟨⟨⟨⟨⟨⟨⟨trivial,?_⟩,?_⟩,?_⟩,?_⟩,?_⟩,?_⟩,?_⟩,?_⟩,?_⟩,?_⟩,?_⟩,?_⟩,?_⟩,?_⟩ λu w hg hf hv=>?_
 .intro u w hg hf hl hd;exact ai rfl ((hf.at_ 9).trans hu.u9)
 .intro u w hg hf hl hd;exact ai rfl ((hf.at_ 11).trans hu.U6)
 .intro u w hg hf hl hd;refine am (op:=.indexAddr 33 (.tmp 68) (.tmp 69)) (t:=0) rfl (λev he=>?_);have e68:=(he.t 68).trans (hd.at_ 0 68);have e69:=(he.t 69).trans (hd.at_ 1 69);clear hg hf hl hd he;go_simp
  all_goals (intro h9;omega)
 .intro u w hg hf hl hd;refine am (op:=.load 25 (.tmp 70)) (t:=25) rfl (λev he=>?_);have e70:=(he.t 70).trans (hd.at_ 2 70);obtain⟨⟨c0,c1,r0,o0,o1⟩,cl,rl,ol⟩:=HC.out w hg;clear hg hf hl hd he;go_simp
 .intro u w hg hf hl hd;exact ai rfl ((hf.at_ 10).trans hu.u10)
 .intro u w hg hf hl hd;exact ai rfl ((hf.at_ 11).trans hu.U6)
 .intro u w hg hf hl hd;refine am (op:=.indexAddr 35 (.tmp 72) (.tmp 73)) (t:=0) rfl (λev he=>?_);have e72:=(he.t 72).trans (hd.at_ 4 72);have e73:=(he.t 73).trans (hd.at_ 5 73);clear hg hf hl hd he;go_simp
  all_goals (intro h9;omega)
 .intro u w hg hf hl hd;refine am (op:=.load 26 (.tmp 74)) (t:=26) rfl (λev he=>?_);have e74:=(he.t 74).trans (hd.at_ 6 74);obtain⟨⟨c0,c1,r0,o0,o1⟩,cl,rl,ol⟩:=HC.out w hg;clear hg hf hl hd he;go_simp
 .intro u w hg hf hl hd;refine aL rfl Sq.func13 #[.agg #[.slice x.nA x.c.Aq.length x.nc,.slice x.hA x.c.Ap.length x.hc],.slice x.gA x.ls.length x.gc] (λev he=>?_) ((H1.out w hg).mono λe w' h=>?_)
  .simp[((he.t 71).trans (hd.at_ 3 71)),((he.t 75).trans (hd.at_ 7 75))]
  .obtain⟨h1,A,j,rfl,h2⟩:=h;exact⟨_,rfl,h1,_,rfl,A,j,rfl,h2⟩
 .intro u w hg hf hl hd;exact ai rfl (hd.at_ 8 76)
 .intro u w hg hf hl hd;obtain⟨y,e,hy⟩:=(hd.at_ 9 67);exact bu rfl e rfl hy
 .intro u w hg hf hl hd;obtain⟨y,e,hy⟩:=(hd.at_ 9 67);exact bu rfl e rfl rfl
 .intro u w hg hf hl hd;exact aP rfl (hd.at_ 10 77)
 .intro u w hg hf hl hd;exact aP rfl (hd.at_ 11 78)
 .exact hK w u hg hf (hv.at_ 12 16) (hv.at_ 13 17)
def uM {cb co rb ro ob k cc rc mc nc hc:Nat}{mA nA hA:Option Addr}{x:Jf}{W:World}{u:Nat->Value}{Q:Exit->Act->World->Prop}(hu:OW W cb co rb ro ob k cc rc mc nc hc mA nA hA x u)
  (hK:∀W' u',Gr W W'->Fr (cD 3) u' u->Ef (Dw x) (u' 18) W'->u' 19=.int .i64 (Ay x.c x.ls)->Q .normal ⟨T 136 u',[]⟩ W'):(Code.region 12 (cD 3) false).wp An Q ⟨T 136 u,[]⟩ W:=by
 have HC:=xf (λV hV=>hu.cells V hV);have hk:=hu.k3;have H1:=xf (λV (hV:Gr W V)=>ru (nc:=nc) (hc:=hc) (gc:=mc) hu.Gx.small (hu.n.on hV) (hu.h.on hV) (hu.m.on hV));refine cm (R:=Gr) (m:=8) (by kernel_rfl) [λv _=>v=.agg #[.slice nA x.c.Aq.length nc,.slice hA x.c.Ap.length hc],λv _=>v=.slice mA x.ls.length mc,Kr (Dw x) (Ay x.c x.ls),Kr (Dw x) (Ay x.c x.ls),Ef (Dw x),λv _=>v=.int .i64 (Ay x.c x.ls),Ef (Dw x),λv _=>v=.int .i64 (Ay x.c x.ls)] ⟨aa _,aa _,cO _ _,cO _ _,aT _,aa _,aT _,aa _,trivial⟩ ⟨⟨⟨⟨⟨⟨⟨⟨trivial,?_⟩,?_⟩,?_⟩,?_⟩,?_⟩,?_⟩,?_⟩,?_⟩ λu w hg hf hv=>?_
 .intro u w hg hf hl hd;refine am (op:=.load 25 (.tmp 12)) (t:=25) rfl (λev he=>?_);have R5:=(he.t 12).trans ((hf.at_ 12).trans hu.u12);obtain⟨⟨c0,c1,r0,o0,o1⟩,cl,rl,ol⟩:=HC.out w hg;clear hg hf hl hd he;go_simp
 .intro u w hg hf hl hd;exact ai rfl ((hf.at_ 13).trans hu.u13)
 .intro u w hg hf hl hd;refine aL rfl Sq.func14 #[.agg #[.slice nA x.c.Aq.length nc,.slice hA x.c.Ap.length hc],.slice mA x.ls.length mc] (λev he=>?_) ((H1.out w hg).mono λe w' h=>?_)
  .simp[((he.t 80).trans (hd.at_ 0 80)),((he.t 81).trans (hd.at_ 1 81))]
  .obtain⟨h1,A,j,rfl,h2⟩:=h;exact⟨_,rfl,h1,_,rfl,A,j,rfl,h2⟩
 .intro u w hg hf hl hd;exact ai rfl (hd.at_ 2 82)
 .intro u w hg hf hl hd;obtain⟨y,e,hy⟩:=(hd.at_ 3 79);exact bu rfl e rfl hy
 .intro u w hg hf hl hd;obtain⟨y,e,hy⟩:=(hd.at_ 3 79);exact bu rfl e rfl rfl
 .intro u w hg hf hl hd;exact aP rfl (hd.at_ 4 83)
 .intro u w hg hf hl hd;exact aP rfl (hd.at_ 5 84)
 .exact hK w u hg hf (hv.at_ 6 18) (hv.at_ 7 19)
def uN {cb co rb ro ob k cc rc mc nc hc:Nat}{mA nA hA:Option Addr}{x:Jf}{W:World}{u:Nat->Value}{Q:Exit->Act->World->Prop}(hu:OW W cb co rb ro ob k cc rc mc nc hc mA nA hA x u)
  (hK:∀W' u',Gr W W'->Fr (cD 4) u' u->Ef (Dw x) (u' 20) W'->u' 21=.int .i64 (Ay x.c x.ls)->Q .normal ⟨T 136 u',[]⟩ W'):(Code.region 13 (cD 4) true).wp An Q ⟨T 136 u,[]⟩ W:=by
 have HC:=xf (λV hV=>hu.cells V hV);have hk:=hu.k3;have H1:=xf (λV (hV:Gr W V)=>mE (nc:=x.nc) (hc:=x.hc) (gc:=x.gc) hu.Gx.small (hu.Gx.at_.gr hV).n (hu.Gx.at_.gr hV).h (hu.Gx.at_.gr hV).g);refine fL (R:=Gr) (m:=14) (by kernel_rfl) [λv _=>v=.slice (some ⟨cb,co,none⟩) 3 cc,λv _=>v=.int .i64 (k:Nat),λv _=>v=.pointer (some ⟨cb,co+k*2,none⟩),λv _=>v=.agg #[.slice x.nA x.c.Aq.length x.nc,.slice x.hA x.c.Ap.length x.hc],λv _=>v=.slice (some ⟨rb,ro,none⟩) 3 rc,λv _=>v=.int .i64 (k:Nat),λv _=>v=.pointer (some ⟨rb,ro+k,none⟩),λv _=>v=.slice x.gA x.ls.length x.gc,Kr (Dw x) (Ay x.c x.ls),Kr (Dw x) (Ay x.c x.ls),Ef (Dw x),λv _=>v=.int .i64 (Ay x.c x.ls),Ef (Dw x),λv _=>v=.int .i64 (Ay x.c x.ls)] ⟨aa _,aa _,aa _,aa _,aa _,aa _,aa _,aa _,cO _ _,cO _ _,aT _,aa _,aT _,aa _,trivial⟩ ⟨⟨⟨⟨⟨⟨⟨⟨⟨⟨⟨⟨⟨⟨trivial,?_⟩,?_⟩,?_⟩,?_⟩,?_⟩,?_⟩,?_⟩,?_⟩,?_⟩,?_⟩,?_⟩,?_⟩,?_⟩,?_⟩ λu w hg hf hv=>?_
 .intro u w hg hf hl hd;exact ai rfl ((hf.at_ 9).trans hu.u9)
 .intro u w hg hf hl hd;exact ai rfl ((hf.at_ 11).trans hu.U6)
 .intro u w hg hf hl hd;refine am (op:=.indexAddr 33 (.tmp 86) (.tmp 87)) (t:=0) rfl (λev he=>?_);have e86:=(he.t 86).trans (hd.at_ 0 86);have e87:=(he.t 87).trans (hd.at_ 1 87);clear hg hf hl hd he;go_simp
  all_goals (intro h9;omega)
 .intro u w hg hf hl hd;refine am (op:=.load 25 (.tmp 88)) (t:=25) rfl (λev he=>?_);have e88:=(he.t 88).trans (hd.at_ 2 88);obtain⟨⟨c0,c1,r0,o0,o1⟩,cl,rl,ol⟩:=HC.out w hg;clear hg hf hl hd he;go_simp
 .intro u w hg hf hl hd;exact ai rfl ((hf.at_ 10).trans hu.u10)
 .intro u w hg hf hl hd;exact ai rfl ((hf.at_ 11).trans hu.U6)
 .intro u w hg hf hl hd;refine am (op:=.indexAddr 35 (.tmp 90) (.tmp 91)) (t:=0) rfl (λev he=>?_);have e90:=(he.t 90).trans (hd.at_ 4 90);have e91:=(he.t 91).trans (hd.at_ 5 91);clear hg hf hl hd he;go_simp
  all_goals (intro h9;omega)
 .intro u w hg hf hl hd;refine am (op:=.load 26 (.tmp 92)) (t:=26) rfl (λev he=>?_);have e92:=(he.t 92).trans (hd.at_ 6 92);obtain⟨⟨c0,c1,r0,o0,o1⟩,cl,rl,ol⟩:=HC.out w hg;clear hg hf hl hd he;go_simp
 .intro u w hg hf hl hd;refine aL rfl Sq.func15 #[.agg #[.slice x.nA x.c.Aq.length x.nc,.slice x.hA x.c.Ap.length x.hc],.slice x.gA x.ls.length x.gc] (λev he=>?_) ((H1.out w hg).mono λe w' h=>?_)
  .simp[((he.t 89).trans (hd.at_ 3 89)),((he.t 93).trans (hd.at_ 7 93))]
  .obtain⟨h1,A,j,rfl,h2⟩:=h;exact⟨_,rfl,h1,_,rfl,A,j,rfl,h2⟩
 .intro u w hg hf hl hd;exact ai rfl (hd.at_ 8 94)
 .intro u w hg hf hl hd;obtain⟨y,e,hy⟩:=(hd.at_ 9 85);exact bu rfl e rfl hy
 .intro u w hg hf hl hd;obtain⟨y,e,hy⟩:=(hd.at_ 9 85);exact bu rfl e rfl rfl
 .intro u w hg hf hl hd;exact aP rfl (hd.at_ 10 95)
 .intro u w hg hf hl hd;exact aP rfl (hd.at_ 11 96)
 .exact hK w u hg hf (hv.at_ 12 20) (hv.at_ 13 21)
def uO {cb co rb ro ob k cc rc mc nc hc:Nat}{mA nA hA:Option Addr}{x:Jf}{W:World}{u:Nat->Value}{Q:Exit->Act->World->Prop}(hu:OW W cb co rb ro ob k cc rc mc nc hc mA nA hA x u)(TH:Ef (Dc x) (u 14) W)(TJ:u 15=.int .i64 (Ay x.c x.ls))(r16:Ef (Dc x) (u 16) W)(Qt:u 17=.int .i64 (Ay x.c x.ls))(r18:Ef (Dw x) (u 18) W)(h19:u 19=.int .i64 (Ay x.c x.ls))(r20:Ef (Dw x) (u 20) W)(h21:u 21=.int .i64 (Ay x.c x.ls))
  (hK:∀W' u',Gr W W'->Fr (cD 5) u' u->u' 134=.bool false->Q .normal ⟨T 136 u',[]⟩ W'):(Code.region 14 (cD 5) true).wp An Q ⟨T 136 u,[]⟩ W:=by
 have HC:=xf (λV hV=>hu.cells V hV);have hk:=hu.k3;obtain⟨A1,k1,h14,hr1⟩:=TH;obtain⟨A2,k2,TN,hr2⟩:=r16;obtain⟨A3,k3,h18,hr3⟩:=r18;obtain⟨A4,k4,h20,hr4⟩:=r20;have DG:=sZ hu.Gx.small;have hl2:=s6 hu.Gx.small;have HA:=xf (λV (hV:Gr W V)=>(bR A1 A2 k1 k2 (Dc x) (Dc x) V _ (xh _) (hr1.on hV) (hr2.on hV) (by omega) (by omega)).mono λe w' h=>(by rw[decide_eq_true rfl] at h;exact h:e=.returned (.bool true)/\Gr V w'))
 have HB:=xf (λV (hV:Gr W V)=>(bR A3 A4 k3 k4 (Dw x) (Dw x) V _ (xh _) (hr3.on hV) (hr4.on hV) (by omega) (by omega)).mono λe w' h=>(by rw[decide_eq_true rfl] at h;exact h:e=.returned (.bool true)/\Gr V w'));have H29:=xf (λV (hV:Gr W V)=>nv nA hA x.nA x.hA nc hc x.nc x.hc x.c V (hu.n.on hV) (hu.h.on hV) (hu.Gx.at_.gr hV).n (hu.Gx.at_.gr hV).h hu.Gx.small.n hu.Gx.small.h hu.Gx.small.o);have H28:=xf (λV (hV:Gr W V)=>(ft mA x.gA mc x.gc x.ls x.ls V _ (xh _) (hu.m.on hV) (hu.Gx.at_.gr hV).g (xx hu.Gx.small.l (by omega)) (xx hu.Gx.small.l (by omega)) (λy hy=>xx (hu.Gx.small.g y hy) (by omega)) (λy hy=>xx (hu.Gx.small.g y hy) (by omega))).mono λe w' h=>(by rw[decide_eq_true rfl] at h;exact h:e=.returned (.bool true)/\Gr V w'))
 refine fL (R:=Gr) (m:=38) (by kernel_rfl) [λv _=>v=.int .i64 (Ay x.c x.ls),λv _=>v=.int .i64 (Ay x.c x.ls),λv _=>v=.bool false,λv _=>v=.bool false,λv _=>v=.int .i64 (Ay x.c x.ls),λv _=>v=.int .i64 (Ay x.c x.ls),λv _=>v=.bool false,λv _=>v=.bool false,λv _=>v=.bool false,λv _=>v=.slice A1 (Dc x).length k1,λv _=>v=.slice A2 (Dc x).length k2,λv _=>v=.bool true,λv _=>v=.bool false,λv _=>v=.bool false,λv _=>v=.bool false,λv _=>v=.slice A3 (Dw x).length k3,λv _=>v=.slice A4 (Dw x).length k4,λv _=>v=.bool true,λv _=>v=.bool false,λv _=>v=.bool false,λv _=>v=.bool false,λv _=>v=.agg #[.slice nA x.c.Aq.length nc,.slice hA x.c.Ap.length hc],λv _=>v=.slice (some ⟨cb,co,none⟩) 3 cc,λv _=>v=.int .i64 (k:Nat),λv _=>v=.pointer (some ⟨cb,co+k*2,none⟩),λv _=>v=.agg #[.slice x.nA x.c.Aq.length x.nc,.slice x.hA x.c.Ap.length x.hc],λv _=>v=.bool true,λv _=>v=.bool false,λv _=>v=.bool false,λv _=>v=.bool false,λv _=>v=.slice mA x.ls.length mc,λv _=>v=.slice (some ⟨rb,ro,none⟩) 3 rc,λv _=>v=.int .i64 (k:Nat),λv _=>v=.pointer (some ⟨rb,ro+k,none⟩),λv _=>v=.slice x.gA x.ls.length x.gc,λv _=>v=.bool true,λv _=>v=.bool false,λv _=>v=.bool false] ⟨aa _,aa _,aa _,aa _,aa _,aa _,aa _,aa _,aa _,aa _,aa _,aa _,aa _,aa _,aa _,aa _,aa _,aa _,aa _,aa _,aa _,aa _,aa _,aa _,aa _,aa _,aa _,aa _,aa _,aa _,aa _,aa _,aa _,aa _,aa _,aa _,aa _,aa _,trivial⟩ ⟨⟨⟨⟨⟨⟨⟨⟨⟨⟨⟨⟨⟨⟨⟨⟨⟨⟨⟨⟨⟨⟨⟨⟨⟨⟨⟨⟨⟨⟨⟨⟨⟨⟨⟨⟨⟨⟨trivial,?_⟩,?_⟩,?_⟩,?_⟩,?_⟩,?_⟩,?_⟩,?_⟩,?_⟩,?_⟩,?_⟩,?_⟩,?_⟩,?_⟩,?_⟩,?_⟩,?_⟩,?_⟩,?_⟩,?_⟩,?_⟩,?_⟩,?_⟩,?_⟩,?_⟩,?_⟩,?_⟩,?_⟩,?_⟩,?_⟩,?_⟩,?_⟩,?_⟩,?_⟩,?_⟩,?_⟩,?_⟩,?_⟩ λu w hg hf hv=>?_
 .intro u w hg hf hl hd;exact ai rfl ((hf.at_ 15).trans TJ)
 .intro u w hg hf hl hd;exact ai rfl ((hf.at_ 17).trans Qt)
 .intro u w hg hf hl hd;refine am (op:=.binOp BinOp.neq 38 (.tmp 97) (.tmp 98) 38) (t:=4) rfl (λev he=>?_);have e97:=(he.t 97).trans (hd.at_ 0 97);have e98:=(he.t 98).trans (hd.at_ 1 98);clear hg hf hl hd he;go_simp
 .intro u w hg hf hl hd;exact ai rfl (hd.at_ 2 99)
 .intro u w hg hf hl hd;exact ai rfl ((hf.at_ 19).trans h19) (hl:=aw (hd.at_ 3 100))
 .intro u w hg hf hl hd;exact ai rfl ((hf.at_ 21).trans h21) (hl:=aw (hd.at_ 3 100))
 .intro u w hg hf hl hd;refine am (op:=.binOp BinOp.neq 38 (.tmp 101) (.tmp 102) 38) (t:=4) rfl (λev he=>?_) (hl:=aw (hd.at_ 3 100));have e101:=(he.t 101).trans (hd.at_ 4 101);have e102:=(he.t 102).trans (hd.at_ 5 102);clear hg hf hl hd he;go_simp
 .intro u w hg hf hl hd;refine am (op:=.pick (.tmp 100) (.const (Value.bool true)) (.tmp 103)) (t:=4) rfl (λev he=>?_);have e100:=(he.t 100).trans (hd.at_ 3 100);have e103:=(he.t 103).trans (hd.at_ 6 103);have ec:=he.2.1;clear hg hf hl hd he;go_simp
 .intro u w hg hf hl hd;exact ai rfl (hd.at_ 7 104)
 .intro u w hg hf hl hd;exact ai rfl ((hf.at_ 14).trans h14) (hl:=aw (hd.at_ 8 105))
 .intro u w hg hf hl hd;exact ai rfl ((hf.at_ 16).trans TN) (hl:=aw (hd.at_ 8 105))
 .intro u w hg hf hl hd;exact aL rfl Sq.func16 #[.slice A1 (Dc x).length k1,.slice A2 (Dc x).length k2] (λev he=>by simp[((he.t 106).trans (hd.at_ 9 106)),((he.t 107).trans (hd.at_ 10 107))]) ((HA.out w hg).mono λe w' h=>⟨_,h.1,h.2,rfl⟩) (hl:=aw (hd.at_ 8 105))
 .intro u w hg hf hl hd;refine am (op:=.unOp UnOp.not 4 (.tmp 108)) (t:=4) rfl (λev he=>?_) (hl:=aw (hd.at_ 8 105));have e108:=(he.t 108).trans (hd.at_ 11 108);clear hg hf hl hd he;go_simp
 .intro u w hg hf hl hd;refine am (op:=.pick (.tmp 105) (.const (Value.bool true)) (.tmp 109)) (t:=4) rfl (λev he=>?_);have e105:=(he.t 105).trans (hd.at_ 8 105);have e109:=(he.t 109).trans (hd.at_ 12 109);have ec:=he.2.1;clear hg hf hl hd he;go_simp
 .intro u w hg hf hl hd;exact ai rfl (hd.at_ 13 110)
 .intro u w hg hf hl hd;exact ai rfl ((hf.at_ 18).trans h18) (hl:=aw (hd.at_ 14 111))
 .intro u w hg hf hl hd;exact ai rfl ((hf.at_ 20).trans h20) (hl:=aw (hd.at_ 14 111))
 .intro u w hg hf hl hd;exact aL rfl Sq.func16 #[.slice A3 (Dw x).length k3,.slice A4 (Dw x).length k4] (λev he=>by simp[((he.t 112).trans (hd.at_ 15 112)),((he.t 113).trans (hd.at_ 16 113))]) ((HB.out w hg).mono λe w' h=>⟨_,h.1,h.2,rfl⟩) (hl:=aw (hd.at_ 14 111))
 .intro u w hg hf hl hd;refine am (op:=.unOp UnOp.not 4 (.tmp 114)) (t:=4) rfl (λev he=>?_) (hl:=aw (hd.at_ 14 111));have e114:=(he.t 114).trans (hd.at_ 17 114);clear hg hf hl hd he;go_simp
 .intro u w hg hf hl hd;refine am (op:=.pick (.tmp 111) (.const (Value.bool true)) (.tmp 115)) (t:=4) rfl (λev he=>?_);have e111:=(he.t 111).trans (hd.at_ 14 111);have e115:=(he.t 115).trans (hd.at_ 18 115);have ec:=he.2.1;clear hg hf hl hd he;go_simp
 .intro u w hg hf hl hd;exact ai rfl (hd.at_ 19 116)
 .intro u w hg hf hl hd;refine am (op:=.load 25 (.tmp 12)) (t:=25) rfl (λev he=>?_) (hl:=aw (hd.at_ 20 117));have R5:=(he.t 12).trans ((hf.at_ 12).trans hu.u12);obtain⟨⟨c0,c1,r0,o0,o1⟩,cl,rl,ol⟩:=HC.out w hg;clear hg hf hl hd he;go_simp
 .intro u w hg hf hl hd;exact ai rfl ((hf.at_ 9).trans hu.u9) (hl:=aw (hd.at_ 20 117))
 .intro u w hg hf hl hd;exact ai rfl ((hf.at_ 11).trans hu.U6) (hl:=aw (hd.at_ 20 117))
 .intro u w hg hf hl hd;refine am (op:=.indexAddr 33 (.tmp 119) (.tmp 120)) (t:=0) rfl (λev he=>?_) (hl:=aw (hd.at_ 20 117));have e119:=(he.t 119).trans (hd.at_ 22 119);have e120:=(he.t 120).trans (hd.at_ 23 120);clear hg hf hl hd he;go_simp
  all_goals (intro h9;omega)
 .intro u w hg hf hl hd;refine am (op:=.load 25 (.tmp 121)) (t:=25) rfl (λev he=>?_) (hl:=aw (hd.at_ 20 117));have e121:=(he.t 121).trans (hd.at_ 24 121);obtain⟨⟨c0,c1,r0,o0,o1⟩,cl,rl,ol⟩:=HC.out w hg;clear hg hf hl hd he;go_simp
 .intro u w hg hf hl hd;exact aL rfl Sq.func17 #[.agg #[.slice nA x.c.Aq.length nc,.slice hA x.c.Ap.length hc],.agg #[.slice x.nA x.c.Aq.length x.nc,.slice x.hA x.c.Ap.length x.hc]] (λev he=>by simp[((he.t 118).trans (hd.at_ 21 118)),((he.t 122).trans (hd.at_ 25 122))]) ((H29.out w hg).mono λe w' h=>⟨_,h.1,h.2,rfl⟩) (hl:=aw (hd.at_ 20 117))
 .intro u w hg hf hl hd;refine am (op:=.unOp UnOp.not 4 (.tmp 123)) (t:=4) rfl (λev he=>?_) (hl:=aw (hd.at_ 20 117));have e123:=(he.t 123).trans (hd.at_ 26 123);clear hg hf hl hd he;go_simp
 .intro u w hg hf hl hd;refine am (op:=.pick (.tmp 117) (.const (Value.bool true)) (.tmp 124)) (t:=4) rfl (λev he=>?_);have e117:=(he.t 117).trans (hd.at_ 20 117);have e124:=(he.t 124).trans (hd.at_ 27 124);have ec:=he.2.1;clear hg hf hl hd he;go_simp
 .intro u w hg hf hl hd;exact ai rfl (hd.at_ 28 125)
 .intro u w hg hf hl hd;exact ai rfl ((hf.at_ 13).trans hu.u13) (hl:=aw (hd.at_ 29 126))
 .intro u w hg hf hl hd;exact ai rfl ((hf.at_ 10).trans hu.u10) (hl:=aw (hd.at_ 29 126))
 .intro u w hg hf hl hd;exact ai rfl ((hf.at_ 11).trans hu.U6) (hl:=aw (hd.at_ 29 126))
 .intro u w hg hf hl hd;refine am (op:=.indexAddr 35 (.tmp 128) (.tmp 129)) (t:=0) rfl (λev he=>?_) (hl:=aw (hd.at_ 29 126));have e128:=(he.t 128).trans (hd.at_ 31 128);have e129:=(he.t 129).trans (hd.at_ 32 129);clear hg hf hl hd he;go_simp
  all_goals (intro h9;omega)
 .intro u w hg hf hl hd;refine am (op:=.load 26 (.tmp 130)) (t:=26) rfl (λev he=>?_) (hl:=aw (hd.at_ 29 126));have e130:=(he.t 130).trans (hd.at_ 33 130);obtain⟨⟨c0,c1,r0,o0,o1⟩,cl,rl,ol⟩:=HC.out w hg;clear hg hf hl hd he;go_simp
 .intro u w hg hf hl hd;exact aL rfl Sq.func18 #[.slice mA x.ls.length mc,.slice x.gA x.ls.length x.gc] (λev he=>by simp[((he.t 127).trans (hd.at_ 30 127)),((he.t 131).trans (hd.at_ 34 131))]) ((H28.out w hg).mono λe w' h=>⟨_,h.1,h.2,rfl⟩) (hl:=aw (hd.at_ 29 126))
 .intro u w hg hf hl hd;refine am (op:=.unOp UnOp.not 4 (.tmp 132)) (t:=4) rfl (λev he=>?_) (hl:=aw (hd.at_ 29 126));have e132:=(he.t 132).trans (hd.at_ 35 132);clear hg hf hl hd he;go_simp
 .intro u w hg hf hl hd;refine am (op:=.pick (.tmp 126) (.const (Value.bool true)) (.tmp 133)) (t:=4) rfl (λev he=>?_);have e126:=(he.t 126).trans (hd.at_ 29 126);have e133:=(he.t 133).trans (hd.at_ 36 133);have ec:=he.2.1;clear hg hf hl hd he;go_simp
 .exact hK w u hg hf (hv.at_ 37 134)
def Xg:cn 1=.seq (.region 10 (cD 1) false) (cn 2)/\cn 2=.seq (.region 11 (cD 2) true) (cn 3)/\cn 3=.seq (.region 12 (cD 3) false) (cn 4)/\cn 4=.seq (.region 13 (cD 4) true) (cn 5) /\
  cn 5=.seq (.region 14 (cD 5) true) (.cond (.tmp 134) (U5 (cn 5)) .skip):=⟨by kernel_rfl,by kernel_rfl,by kernel_rfl,by kernel_rfl,by kernel_rfl⟩
def uP {cb co rb ro ob k cc rc mc nc hc:Nat}{mA nA hA:Option Addr}{x:Jf}{W:World}{u:Nat->Value}{Q:Exit->Act->World->Prop}(hu:OW W cb co rb ro ob k cc rc mc nc hc mA nA hA x u)(hK:∀W' u',Gr W W'->u' 9=u 9/\u' 10=u 10/\u' 11=u 11->Q .normal ⟨T 136 u',[]⟩ W'):(cn 1).wp An Q ⟨T 136 u,[]⟩ W:=by
 obtain⟨e1,e2,e3,e4,e5⟩:=Xg;rw[e1];refine wp_seq (uK hu λW1 u1 g1 f1 TH TJ=>?_);have hu1:=hu.gr g1 (u':=u1) (f1.at_ 9) (f1.at_ 10) (f1.at_ 11) (f1.at_ 12) (f1.at_ 13);show Code.wp _ _ _ _ _;rw[e2];refine wp_seq (uL hu1 λW2 u2 g2 f2 r16 Qt=>?_);have hu2:=hu1.gr g2 (u':=u2) (f2.at_ 9) (f2.at_ 10) (f2.at_ 11) (f2.at_ 12) (f2.at_ 13);replace TH:Ef (Dc x) (u2 14) W2:=by rw[f2.at_ 14];exact aT _ _ _ _ g2 TH
 replace TJ:=(f2.at_ 15).trans TJ;show Code.wp _ _ _ _ _;rw[e3];refine wp_seq (uM hu2 λW3 u3 g3 f3 r18 h19=>?_);have hu3:=hu2.gr g3 (u':=u3) (f3.at_ 9) (f3.at_ 10) (f3.at_ 11) (f3.at_ 12) (f3.at_ 13);replace TH:Ef (Dc x) (u3 14) W3:=by rw[f3.at_ 14];exact aT _ _ _ _ g3 TH
 replace TJ:=(f3.at_ 15).trans TJ;replace r16:Ef (Dc x) (u3 16) W3:=by rw[f3.at_ 16];exact aT _ _ _ _ g3 r16
 replace Qt:=(f3.at_ 17).trans Qt;show Code.wp _ _ _ _ _;rw[e4];refine wp_seq (uN hu3 λW4 u4 g4 f4 r20 h21=>?_);have hu4:=hu3.gr g4 (u':=u4) (f4.at_ 9) (f4.at_ 10) (f4.at_ 11) (f4.at_ 12) (f4.at_ 13);replace TH:Ef (Dc x) (u4 14) W4:=by rw[f4.at_ 14];exact aT _ _ _ _ g4 TH
 replace TJ:=(f4.at_ 15).trans TJ;replace r16:Ef (Dc x) (u4 16) W4:=by rw[f4.at_ 16];exact aT _ _ _ _ g4 r16
 replace Qt:=(f4.at_ 17).trans Qt;replace r18:Ef (Dw x) (u4 18) W4:=by rw[f4.at_ 18];exact aT _ _ _ _ g4 r18
 replace h19:=(f4.at_ 19).trans h19;show Code.wp _ _ _ _ _;rw[e5];refine wp_seq (uO hu4 TH TJ r16 Qt r18 h19 r20 h21 λW5 u5 g5 f5 agN=>?_);show Code.wp _ _ _ _ _;refine wp_cond_false ((eX (by decide)).trans agN) (wp_skip ?_);exact hK W5 u5 (g1.trans (g2.trans (g3.trans (g4.trans g5))))
  ⟨(f5.at_ 9).trans ((f4.at_ 9).trans ((f3.at_ 9).trans ((f2.at_ 9).trans (f1.at_ 9)))),(f5.at_ 10).trans ((f4.at_ 10).trans ((f3.at_ 10).trans ((f2.at_ 10).trans (f1.at_ 10)))),(f5.at_ 11).trans ((f4.at_ 11).trans ((f3.at_ 11).trans ((f2.at_ 11).trans (f1.at_ 11))))⟩
end Go.Proofs.Ao
namespace Go.Sq
open Go.RowKit Go.AW Go.Proofs.Ao
variable {R:World->World->Prop} {ops:Array Oper} {Q:Exit->Act->World->Prop} {n m:Nat} {u:Nat->Value} {ds:List Deferred} {w w':World}
def jf [Rfl R]{i j:Nat}{b:Bool}{d:Option Tmp}{op:Op}{t:TypeId}{V:Value->World->Prop}(h:opAt ops i=some (d,op,some (j,b),t)){d':Nat}(h3:u d'=.bool !b)(hV:V undef w)(h1:(opAt ops j).bind (·.1)=some d':=by rfl)(h2:d'<n:=by decide):Done R An ops Q n ds i V u w:=by
 obtain⟨o,g1,g2,_,g4,_⟩:=Hv h;have e:(ops[j]?).bind (·.dst)=some d':=by
  unfold opAt at h1;cases ho:ops[j]? with
  |none=>rw[ho] at h1;cases h1
  |some o=>rw[ho] at h1;exact h1
 have hw:Region.wanted o (yielded ops (T n u))=false:=by
  unfold Region.wanted;rw[g4];simp only[yielded,e,yd,gn h2,h3];cases b<;>rfl
 unfold Done wpOp;simp only[g1];rw[if_neg (by rw[hw];simp)];refine⟨undef,?_,Rfl.refl w,hV⟩;rw[iF];rfl
def Xh (c:AD)(w0:World)(v:Value)(w:World):Prop:=∃nA hA nc hc,v=AH nA hA c nc hc/\FC w (λb=>w0.heap.size<=b/\b<w.heap.size) nA c.Aq/\Dj w (λb=>w0.heap.size<=b/\b<w.heap.size) hA c.Ap
def ta (c:AD)(w0:World):Hb Gr (Xh c w0):=λv w w' hg ⟨nA,hA,nc,hc,e,h1,h2⟩ =>
 ⟨nA,hA,nc,hc,e,eW h1 (λb hb=>⟨hb.1,xl hb.2 hg.size⟩) λb o hb=>hg.cell (p:=⟨b,o,none⟩) hb.2,gj h2 (λb hb=>⟨hb.1,xl hb.2 hg.size⟩) λb o hb=>hg.cell (p:=⟨b,o,none⟩) hb.2⟩
def vT {c:AD}{w0 w w':World}{e:Ending}(hg:Gr w0 w)(h:mC c w e w'):∃v,e=.returned v/\Gr w w'/\Xh c w0 v w':=by
 obtain⟨h1,nA,hA,nc,hc,rfl,h2,h3⟩:=h;have hk:∀b,w.heap.size<=b/\b<w'.heap.size->w0.heap.size<=b/\b<w'.heap.size:=λb hb=>⟨xx hg.size hb.1,hb.2⟩;exact⟨_,rfl,h1,nA,hA,nc,hc,rfl,eW h2 hk λ_ _ _=>rfl,gj h3 hk λ_ _ _=>rfl⟩
def U7 (ls:List (List Int))(w0:World)(v:Value)(w:World):Prop:=∃xs,AY w w0.heap.size v ls xs
def rv (ls:List (List Int))(w0:World):Hb Gr (U7 ls w0):=λv w w' hg ⟨xs,h⟩=>⟨xs,h.keep λb hb=>hg.below.block b hb⟩
def kT {w:World}{B B':Nat}{v:Value}{ls:List (List Int)}{xs:List Value}(h:AY w B v ls xs)(hb:B'<=B):AY w B' v ls xs :=
 ⟨Cj h.row hb,λi l hi=>by obtain⟨u,h1,h2⟩:=h.cells i l hi;exact⟨u,h1,Cj h2 hb⟩⟩
def abG (w0:World)(v:Value)(w:World):Prop:=∃b,v=.pointer (some ⟨b,0,none⟩)/\w0.heap.size<=b/\w.heap[b]?=some (.cells #[.slice none 0 0,.slice none 0 0] 25 (0,0))
def tc (w0:World):Hb Gr (abG w0):=λv w w' hg ⟨b,e,h1,h2⟩=>⟨b,e,h1,(hg.below.block b (xg.1 h2).1).trans h2⟩
section
variable {w0 w:World} {b:Nat} {x y:Value}
def Gg (hb:w.heap[b]?=some (.cells #[.slice none 0 0,.slice none 0 0] 25 (0,0))) :
  (w.cell? ⟨b,0,none⟩=some (.slice none 0 0)/\w.cell? ⟨b,1,none⟩=some (.slice none 0 0)/\w.frozen? ⟨b,0,none⟩=false/\w.frozen? ⟨b,1,none⟩=false)/\b<w.heap.size:=by
 obtain⟨h1,h2⟩:=cell_of_heap hb 0;obtain⟨h3,h4⟩:=cell_of_heap hb 1;exact⟨⟨h1,h3,h2,h4⟩,(xg.1 hb).1⟩
def fo (b':Nat)(h:b'≠b):((w.setCell ⟨b,0,none⟩ x).setCell ⟨b,1,none⟩ y).heap[b']?=w.heap[b']?:=(xD _ _ _ _ h).trans (xD _ _ _ _ h)
def gq:((w.setCell ⟨b,0,none⟩ x).setCell ⟨b,1,none⟩ y).heap.size=w.heap.size:=by simp[World.setCell]
def mF (hg:Gr w0 w)(hb:w0.heap.size<=b):Gr w0 ((w.setCell ⟨b,0,none⟩ x).setCell ⟨b,1,none⟩ y):=(hg.setCell (p:=⟨b,0,none⟩) hb x).setCell (p:=⟨b,1,none⟩) hb y
def Nu (hb:w.heap[b]?=some (.cells #[.slice none 0 0,.slice none 0 0] 25 (0,0))) :
  ((w.setCell ⟨b,0,none⟩ x).setCell ⟨b,1,none⟩ y).cell? ⟨b,0,none⟩=some x/\((w.setCell ⟨b,0,none⟩ x).setCell ⟨b,1,none⟩ y).cell? ⟨b,1,none⟩=some y:=by
 obtain⟨⟨h1,h2,_⟩,_⟩:=Gg hb;refine⟨(xq _ _ _ _ (by simp)).trans (xE _ _ _ h1),xE _ _ _ ((xq _ _ _ _ (by simp)).trans h2)⟩
def oc (hb:w.heap[b]?=some (.cells #[.slice none 0 0,.slice none 0 0] 25 (0,0))){b' o:Nat}{k:IntKind}{z:Int}(h:w.cell? ⟨b',o,none⟩=some (.int k z)):b'≠b:=λe=>by
 subst e;unfold World.cell? at h;dsimp only at h;rw[hb] at h;dsimp only at h;simp only[yW,xJ,if_false] at h
 match o,h with
 |0,h=>simp at h
 |1,h=>simp at h
 |o+2,h=>simp at h
def od {K:Nat->Prop}{A:Option Addr}{l:List Int}(hb:w.heap[b]?=some (.cells #[.slice none 0 0,.slice none 0 0] 25 (0,0)))(h:FC w K A l):FC ((w.setCell ⟨b,0,none⟩ x).setCell ⟨b,1,none⟩ y) K A l:=λhn=>by
 obtain⟨b',o,e,h1,h2⟩:=h hn;obtain⟨z,l',rfl⟩:=List.exists_cons_of_ne_nil hn;have hne:=oc hb (h2 0 z rfl);exact⟨b',o,e,h1,λi x hx=>(xH (a:=⟨b',o+i,none⟩) (fo b' hne)).trans (h2 i x hx)⟩
def uQ {K:Nat->Prop}{A:Option Addr}{l:List Be}(hb:w.heap[b]?=some (.cells #[.slice none 0 0,.slice none 0 0] 25 (0,0)))(h:Dj w K A l):Dj ((w.setCell ⟨b,0,none⟩ x).setCell ⟨b,1,none⟩ y) K A l:=λhn=>by
 obtain⟨b',o,e,h1,h2⟩:=h hn;obtain⟨z,l',rfl⟩:=List.exists_cons_of_ne_nil hn;have hne:b'≠b:=oc hb (h2 0 z rfl).1;have hc:∀j,((w.setCell ⟨b,0,none⟩ x).setCell ⟨b,1,none⟩ y).cell? ⟨b',j,none⟩=w.cell? ⟨b',j,none⟩:=λj=>xH (a:=⟨b',j,none⟩) (fo b' hne);refine⟨b',o,e,h1,λi x hx=>?_⟩;obtain⟨k0,k1,k2,A',c,k3,k4⟩:=h2 i x hx;exact⟨(hc _).trans k0,(hc _).trans k1,(hc _).trans k2,A',c,(hc _).trans k3,od hb k4⟩
def mG {B s n:Nat}{e:TypeId}{v:Value}{xs:List Value}(h:w.ownsRow B e s v n xs)(hb:w.heap[b]?=some (.cells #[.slice none 0 0,.slice none 0 0] 25 (0,0)))(he:e≠25){g:Nat}(hg:v.ownBlock=some g):g≠b:=λe'=>by
 subst e';rcases h.2 with⟨rfl,_⟩|⟨g',c,cur,rfl,_,h3,_⟩
 .cases hg
 .cases hg
  rw[hb] at h3;injection h3 with h3
  injection h3 with _ h3 _
  exact he h3.symm
def R6 {B:Nat}{v:Value}{ls:List (List Int)}{xs:List Value}(hb:w.heap[b]?=some (.cells #[.slice none 0 0,.slice none 0 0] 25 (0,0)))(h:AY w B v ls xs):AY ((w.setCell ⟨b,0,none⟩ x).setCell ⟨b,1,none⟩ y) B v ls xs :=
 ⟨ar h.row λg hg _=>fo g (mG h.row hb (by decide) hg),λi l hi=>by
  obtain⟨u,h1,h2⟩:=h.cells i l hi
  exact⟨u,h1,ar h2 λg hg _=>fo g (mG h2 hb (by decide) hg)⟩⟩
end
end Go.Sq
namespace Go.Proofs.Ao
open Go.RowKit Go.Sq Go.AW
noncomputable def iq:Code:=LJ (LJ (Hu (cg 5)))
def vU {cb co rb ro k cc rc:Nat}{x:Jf}{W:World}{u:Nat->Value}{Q:Exit->Act->World->Prop}(h9:u 9=.slice (some ⟨cb,co,none⟩) 3 cc)(h10:u 10=.slice (some ⟨rb,ro,none⟩) 3 rc)(h11:u 11=.int .i64 (k:Nat))(hk:k<3)(hx:Ow W cb co rb ro k x)
  (hK:∀W' u',Gr W W'->u' 9=u 9->u' 10=u 10->u' 11=u 11->(∃ob mc nc hc mA nA hA,OW W' cb co rb ro ob k cc rc mc nc hc mA nA hA x u')->Q .normal ⟨T 136 u',[]⟩ W'):(Code.region 9 (cD 0) true).wp An Q ⟨T 136 u,[]⟩ W:=by
 have H23:=xf (λV (hV:Gr W V)=>pL x.nA x.hA x.nc x.hc x.c V _ (xh _) (hx.at_.gr hV).n (hx.at_.gr hV).h hx.small.n hx.small.h hx.small.o);have H33:=xf (λV (hV:Gr W V)=>pG x.gA x.gc x.ls V (hx.at_.gr hV).g (xx hx.small.l (by omega)) (λy hy=>xx (hx.small.g y hy) (by omega)));refine fL (R:=Gr) (m:=11) (by kernel_rfl) [λv _=>v=.slice (some ⟨cb,co,none⟩) 3 cc,λv _=>v=.int .i64 (k:Nat),λv _=>v=.pointer (some ⟨cb,co+k*2,none⟩),λv _=>v=.agg #[.slice x.nA x.c.Aq.length x.nc,.slice x.hA x.c.Ap.length x.hc],Xh x.c W,λv _=>v=.slice (some ⟨rb,ro,none⟩) 3 rc,λv _=>v=.int .i64 (k:Nat),λv _=>v=.pointer (some ⟨rb,ro+k,none⟩),λv _=>v=.slice x.gA x.ls.length x.gc,U7 x.ls W,abG W] ⟨aa _,aa _,aa _,aa _,ta _ _,aa _,aa _,aa _,aa _,rv _ _,tc _,trivial⟩ ⟨⟨⟨⟨⟨⟨⟨⟨⟨⟨⟨trivial,?_⟩,?_⟩,?_⟩,?_⟩,?_⟩,?_⟩,?_⟩,?_⟩,?_⟩,?_⟩,?_⟩ λu w hg hf hv=>?_
 .intro u w hg hf hl hd;exact ai rfl ((hf.at_ 9).trans h9)
 .intro u w hg hf hl hd;exact ai rfl ((hf.at_ 11).trans h11)
 .intro u w hg hf hl hd;refine am (op:=.indexAddr 33 (.tmp 51) (.tmp 52)) (t:=0) rfl (λev he=>?_);have e51:=(he.t 51).trans (hd.at_ 0 51);have e52:=(he.t 52).trans (hd.at_ 1 52);clear hg hf hl hd he;go_simp
  all_goals (intro h9;omega)
 .intro u w hg hf hl hd;refine am (op:=.load 25 (.tmp 53)) (t:=25) rfl (λev he=>?_);have e53:=(he.t 53).trans (hd.at_ 2 53);obtain⟨c0,c1,r0,⟨cl,rl⟩,_,_⟩:=hx.gr hg;clear hg hf hl hd he;go_simp
 .intro u w hg hf hl hd;exact aL rfl Sq.func10 #[.agg #[.slice x.nA x.c.Aq.length x.nc,.slice x.hA x.c.Ap.length x.hc]] (λev he=>by simp[((he.t 54).trans (hd.at_ 3 54))]) ((H23.out w hg).mono λe w' h=>vT hg h)
 .intro u w hg hf hl hd;exact ai rfl ((hf.at_ 10).trans h10)
 .intro u w hg hf hl hd;exact ai rfl ((hf.at_ 11).trans h11)
 .intro u w hg hf hl hd;refine am (op:=.indexAddr 35 (.tmp 56) (.tmp 57)) (t:=0) rfl (λev he=>?_);have e56:=(he.t 56).trans (hd.at_ 5 56);have e57:=(he.t 57).trans (hd.at_ 6 57);clear hg hf hl hd he;go_simp
  all_goals (intro h9;omega)
 .intro u w hg hf hl hd;refine am (op:=.load 26 (.tmp 58)) (t:=26) rfl (λev he=>?_);have e58:=(he.t 58).trans (hd.at_ 7 58);obtain⟨c0,c1,r0,⟨cl,rl⟩,_,_⟩:=hx.gr hg;clear hg hf hl hd he;go_simp
 .intro u w hg hf hl hd;refine aL rfl Sq.func11 #[.slice x.gA x.ls.length x.gc] (λev he=>by simp[((he.t 59).trans (hd.at_ 8 59))]) ((H33.out w hg).mono λe w' h=>?_)
  .obtain⟨v,xs,rfl,h1,h2⟩:=h;exact⟨v,rfl,h2,xs,kT h1 hg.size⟩
 .intro u w hg hf hl hd;refine ck (op:=.alloc 25) (t:=0) rfl _ (w.alloc (.cells #[.slice none 0 0,.slice none 0 0] 25)) (λev he=>?_) ((Gr.refl w).alloc _) ⟨_,rfl,hg.size,World.alloc_heap_new _ _⟩;clear hg hf hl hd he;go_simp
 .obtain⟨b,R5,hb1,hb2⟩:=hv.at_ 10 12;obtain⟨nA,hA,nc,hc,e55,hr,hh⟩:=hv.at_ 4 55;obtain⟨xs,Jj⟩:=hv.at_ 9 60;have er:List.range' 11 ((cD 0).size-11)=[11,12]:=by kernel_rfl
  rw[er,wpOps_cons];refine ko (op:=.store 25 (.tmp 12) (.tmp 55)) (t:=0) rfl ((w.setCell ⟨b,0,none⟩ (.slice nA x.c.Aq.length nc)).setCell ⟨b,1,none⟩ (.slice hA x.c.Ap.length hc)) (λev he=>?_) ?_
  .have e1:=(he.t 12).trans R5;have e2:=(he.t 55).trans e55;obtain⟨⟨q1,q2,q3,q4⟩,q5⟩:=Gg hb2;unfold AH at e2;clear hv hf hg hr hh Jj hb2 he hK;go_simp
  .rw[wpOps_cons];refine rm rfl ?_;show Q .normal _ _;obtain⟨mA,mc,e60,hm⟩:=(R6 (x:=.slice nA x.c.Aq.length nc) (y:=.slice hA x.c.Ap.length hc) hb2 Jj).Ll;obtain⟨o0,o1⟩:=Nu (x:=.slice nA x.c.Aq.length nc) (y:=.slice hA x.c.Ap.length hc) hb2;have ne:∀i,i≠13->DV (DV u none undef) (some 13) (DV u none undef 60) i=u i:=λi hi=>bB hi;have e9:=(ne 9 (by decide)).trans (hf.at_ 9)
   have OH:=(ne 10 (by decide)).trans (hf.at_ 10);have e11:=(ne 11 (by decide)).trans (hf.at_ 11);refine hK _ _ (mF hg hb1) e9 OH e11 ⟨b,mc,nc,hc,mA,nA,hA,e9.trans h9,OH.trans h10,e11.trans h11,hk,(ne 12 (by decide)).trans R5,(bH ..).trans e60,hx.gr (mF hg hb1),by rw[gq];exact(Gg hb2).2,o0,o1,(od hb2 hr).ri λb hb=>by rw[gq];exact hb.2,(uQ hb2 hh).hs λb hb=>by rw[gq];exact hb.2,hm⟩
def vV  {W:World} {u:Nat->Value} {Q:Exit->Act->World->Prop}
  (hK:∀W' u',Gr W W'->Fr (Ca (EA (cg 5))) u' u->u' 11=.int .i64 0->Q .normal ⟨T 136 u',[]⟩ W'):(Code.region 6 (Ca (EA (cg 5))) false).wp An Q ⟨T 136 u,[]⟩ W:=by
 refine cm (R:=Gr) (m:=1) (by kernel_rfl) [λv _=>v=.int .i64 0] ⟨aa _,trivial⟩ ⟨trivial,?_⟩ λu w hg hf hv=>?_
 .intro u w hg hf hl hd;exact io rfl rfl
 .exact hK w u hg hf (hv.at_ 0 11)
def vW {cb co k cc:Nat}{W:World}{u:Nat->Value}{Q:Exit->Act->World->Prop}(h9:u 9=.slice (some ⟨cb,co,none⟩) 3 cc)(h11:u 11=.int .i64 (k:Nat))
  (hK:∀W' u',Gr W W'->Fr (Ca (EA (EA iq))) u' u->u' 48=.bool (decide ((k:Int)<3))->Q .normal ⟨T 136 u',[]⟩ W'):(Code.region 7 (Ca (EA (EA iq))) false).wp An Q ⟨T 136 u,[]⟩ W:=by
 refine cm (R:=Gr) (m:=4) (by kernel_rfl) [λv _=>v=.int .i64 (k:Nat),λv _=>v=.slice (some ⟨cb,co,none⟩) 3 cc,λv _=>v=.int .i64 3,λv _=>v=.bool (decide ((k:Int)<3))] ⟨aa _,aa _,aa _,aa _,trivial⟩ ⟨⟨⟨⟨trivial,?_⟩,?_⟩,?_⟩,?_⟩ λu w hg hf hv=>?_
 .intro u w hg hf hl hd;exact ai rfl ((hf.at_ 11).trans h11)
 .intro u w hg hf hl hd;exact ai rfl ((hf.at_ 9).trans h9)
 .intro u w hg hf hl hd;refine am (op:=.call { callee:=Callee.builtin Builtin.len,args:=#[.tmp 46],argTypes:=#[33] }) (t:=3) rfl (λev he=>?_);have e46:=(he.t 46).trans (hd.at_ 1 46);clear hg hf hl hd he;go_simp
 .intro u w hg hf hl hd;refine am (op:=.binOp BinOp.lss 3 (.tmp 45) (.tmp 47) 3) (t:=4) rfl (λev he=>?_);have e45:=(he.t 45).trans (hd.at_ 0 45);have e47:=(he.t 47).trans (hd.at_ 2 47);clear hg hf hl hd he;go_simp
 .exact hK w u hg hf (hv.at_ 3 48)
def vY {k:Nat}{W:World}{u:Nat->Value}{Q:Exit->Act->World->Prop}(h11:u 11=.int .i64 (k:Nat))(hk:k<3)
  (hK:∀W' u',Gr W W'->Fr (Ca (Hu (Hu iq))) u' u->u' 11=.int .i64 ((k+1:Nat):Int)->Q .normal ⟨T 136 u',[]⟩ W'):(Code.region 8 (Ca (Hu (Hu iq))) false).wp An Q ⟨T 136 u,[]⟩ W:=by
 refine cm (R:=Gr) (m:=3) (by kernel_rfl) [λv _=>v=.int .i64 (k:Nat),λv _=>v=.int .i64 ((k+1:Nat):Int),λv _=>v=.int .i64 ((k+1:Nat):Int)] ⟨aa _,aa _,aa _,trivial⟩ ⟨⟨⟨trivial,?_⟩,?_⟩,?_⟩ λu w hg hf hv=>?_
 .intro u w hg hf hl hd;exact ai rfl ((hl.at_ 2 11).trans h11)
 .intro u w hg hf hl hd;refine am (op:=.binOp BinOp.add 3 (.tmp 49) (.const (Value.int IntKind.i64 1)) 3) (t:=3) rfl (λev he=>?_);have e49:=(he.t 49).trans (hd.at_ 0 49);have hw:IntKind.i64.wrap ((k:Int)+1)=(k:Int)+1:=by simp[IntKind.wrap,IntKind.bits,IntKind.signed];omega
  have ec:=he.2.1;clear hg hf hl hd he;go_simp
 .intro u w hg hf hl hd;exact aP rfl (hd.at_ 1 50)
 .exact hK w u hg hf (hv.at_ 2 11)
def TK:cg 5=.seq (.region 6 (Ca (EA (cg 5))) false) (.block 0 (.loop iq))/\iq=.seq (.seq (.region 7 (Ca (EA (EA iq))) false) (.cond (.tmp 48) .skip (.exit 0))) (.seq (.block 1 (cn 0)) (.region 8 (Ca (Hu (Hu iq))) false))/\cn 0=.seq (.region 9 (cD 0) true) (cn 1):=⟨by kernel_rfl,by kernel_rfl,by kernel_rfl⟩
def td {cb co rb ro cc rc:Nat}{F:Nat->Jf}{W:World}{u:Nat->Value}{Q:Exit->Act->World->Prop}(h9:u 9=.slice (some ⟨cb,co,none⟩) 3 cc)(h10:u 10=.slice (some ⟨rb,ro,none⟩) 3 rc)(hx:∀k,k<3->Ow W cb co rb ro k (F k))(hK:∀W' u',Gr W W'->Q .normal ⟨T 136 u',[]⟩ W'):(cg 5).wp An Q ⟨T 136 u,[]⟩ W:=by
 obtain⟨e1,e2,e3⟩:=TK;rw[e1];refine wp_seq (vV λW1 u1 g1 f1 h11=>?_);show Code.wp _ _ _ _ _;refine wp_block (wp_loop (λa w=>∃u k,a=⟨T 136 u,[]⟩/\Gr W w/\u 9=.slice (some ⟨cb,co,none⟩) 3 cc/\u 10=.slice (some ⟨rb,ro,none⟩) 3 rc/\u 11=.int .i64 (k:Nat)/\k<=3) (λa _=>3-(intOf (a.tmps.getD 11 undef)).toNat) ⟨u1,0,rfl,g1,(f1.at_ 9).trans h9,(f1.at_ 10).trans h10,h11,by omega⟩ ?_);rintro a w ⟨u,k,rfl,hg,h9,h10,h11,hk⟩
 have em:∀u:Nat->Value,(T 136 u).getD 11 undef=u 11:=λu=>by rw[yu,gn (by decide)];rfl
 rw[e2];refine wp_seq (wp_seq (vW h9 h11 λW2 u2 g2 f2 h48=>?_));show Code.wp _ _ _ _ _;by_cases hlt:k<3
 .have hd:decide ((k:Int)<3)=true:=by simp;omega
  rw[hd] at h48;refine wp_cond_true ((eX (by decide)).trans h48) (wp_skip ?_);show Code.wp _ _ _ _ _;refine wp_seq (wp_block ?_);rw[e3];refine wp_seq (vU (k:=k) (x:=F k) ((f2.at_ 9).trans h9) ((f2.at_ 10).trans h10) ((f2.at_ 11).trans h11) hlt ((hx k hlt).gr (hg.trans g2)) λW3 u3 g3 k9 k10 k11 hm=>?_);obtain⟨ob,mc,nc,hc,mA,nA,hA,hm⟩:=hm;show Code.wp _ _ _ _ _;refine uP hm λW4 u4 g4 m=>?_;show Code.wp _ _ _ _ _
  refine vY (k:=k) (m.2.2.trans hm.U6) hlt λW5 u5 g5 f5 i11=>?_;refine⟨⟨u5,k+1,rfl,hg.trans (g2.trans (g3.trans (g4.trans g5))),(f5.at_ 9).trans (m.1.trans hm.u9),(f5.at_ 10).trans (m.2.1.trans hm.u10),i11,by omega⟩,?_⟩;show 3-(intOf ((T 136 u5).getD 11 undef)).toNat<3-(intOf ((T 136 u).getD 11 undef)).toNat;rw[em,em,i11,h11];simp[intOf];omega
 .have hd:decide ((k:Int)<3)=false:=by simp;omega
  rw[hd] at h48;refine wp_cond_false ((eX (by decide)).trans h48) (wp_exit ?_);exact(show(if(0:Nat)=0 then Q .normal ⟨T 136 u2,[]⟩ W2 else Q (.exit 0) ⟨T 136 u2,[]⟩ W2) from by rw[if_pos rfl];exact hK W2 u2 (hg.trans g2))
end Go.Proofs.Ao
namespace Go.Sq
open Go.RowKit Go.AW Go.Proofs.Ao
variable {R:World->World->Prop} {ops:Array Oper} {Q:Exit->Act->World->Prop} {n m:Nat} {u:Nat->Value} {ds:List Deferred} {w w':World}
instance {T:Nat->Prop}:Goes (KT T):={ refl:=KT.refl T,trans:=KT.trans,drew:=λw=>zF (Gr.refl w).drew }
def Il (lo:Nat)(v0 v1:Value)(v:Value)(w:World):Prop:=∃b,v=.pointer (some ⟨b,0,none⟩)/\(lo<=b/\b<w.heap.size)/\w.cell? ⟨b,0,none⟩=some v0/\w.cell? ⟨b,1,none⟩=some v1
def Fv (lo:Nat)(v0 v1:Value):Hb Gr (Il lo v0 v1):=λv w w' hg ⟨b,e,h1,h2,h3⟩=>⟨b,e,⟨h1.1,xl h1.2 hg.size⟩,(hg.cell (p:=⟨b,0,none⟩) h1.2).trans h2,(hg.cell (p:=⟨b,1,none⟩) h1.2).trans h3⟩
def rx {w:World}{lo:Nat}(BU:lo<=w.heap.size)(v0 v1:Value):Il lo v0 v1 (.pointer (some ⟨w.heap.size,0,none⟩)) (w.alloc (.cells #[v0,v1] 25)) :=
 ⟨_,rfl,⟨BU,by simp⟩,by rw[xj _ _ _ _ rfl];rfl,by rw[xj _ _ _ _ rfl];rfl⟩
def Nv (lo:Nat)(A:Option Addr)(cap:Nat)(l:List Int)(v:Value)(w:World):Prop:=∃hb B,v=.pointer (some ⟨hb,0,none⟩)/\lo<=hb/\Hand w hb B A cap l 0
def kU (lo:Nat)(A:Option Addr)(cap:Nat)(l:List Int):Hb Gr (Nv lo A cap l):=λv w w' hg ⟨hb,B,e,h1,h2⟩=>⟨hb,B,e,h1,h2.gr hg⟩
end Go.Sq
namespace Go.Proofs.Ao
open Go.RowKit Go.Sq Go.AW
def ry {nA hA:Option Addr}{nc hc:Nat}{c:AD}{W:World}{u:Nat->Value}{Q:Exit->Act->World->Prop}(h0:u 0=.agg #[.slice nA c.Aq.length nc,.slice hA c.Ap.length hc])
  (hK:∀W' u',Gr W W'->Fr (Ca (cg 0)) u' u->Il W.heap.size (.slice nA c.Aq.length nc) (.slice hA c.Ap.length hc) (u' 3) W'->Q .normal ⟨T 136 u',[]⟩ W'):(Code.region 0 (Ca (cg 0)) false).wp An Q ⟨T 136 u,[]⟩ W:=by
 refine cm (R:=Gr) (m:=2) (by kernel_rfl) [Il W.heap.size (.slice nA c.Aq.length nc) (.slice hA c.Ap.length hc),λv _=>v=.bool false] ⟨Fv _ _ _,aa _,trivial⟩ ⟨⟨trivial,?_⟩,?_⟩ λu w hg hf hv=>?_
 .intro u w hg hf hl hd;refine ck (op:=.box 25 (.tmp 0)) (t:=0) rfl _ (w.alloc (.cells #[(.slice nA c.Aq.length nc),(.slice hA c.Ap.length hc)] 25)) (λev he=>?_) ((Gr.refl w).alloc _) (rx hg.size _ _);have e0:=((he.t 0).trans ((hf.at_ 0).trans h0));clear hg hf hl hd he;go_simp
 .intro u w hg hf hl hd;exact io rfl rfl
 .exact hK w u hg hf (hv.at_ 0 3)
def uR {nA hA:Option Addr}{nc hc:Nat}{c:AD}{B lo:Nat}{W:World}{u:Nat->Value}{Q:Exit->Act->World->Prop}(h3:Il lo (.slice nA c.Aq.length nc) (.slice hA c.Ap.length hc) (u 3) W)(hB:B<=W.heap.size)(hh:BG W B hA c.Ap)(DG:c.Aq.length<=9223372036854775807)(hl2:c.Ap.length<=9223372036854775807)(EY:∀h∈c.Ap,h.off.length<=9223372036854775807)(hs:Dt c=false)
  (hK:∀W' u',Gr W W'->Fr (Ca (EA (cg 1))) u' u->u' 29=.bool true->Q .normal ⟨T 136 u',[]⟩ W'):(Code.region 1 (Ca (EA (cg 1))) false).wp An Q ⟨T 136 u,[]⟩ W:=by
 have Xi:=xf (λV (hV:Gr W V)=>n7 nA hA nc hc c V B (xx hB hV.size) (hh.keep λb o hb=>hV.cell (p:=⟨b,o,none⟩) (xl hb hB)) DG hl2 EY);unfold AH at Xi;rw[hs] at Xi;refine cm (R:=Gr) (m:=8) (by kernel_rfl) [λv _=>v=.agg #[.slice nA c.Aq.length nc,.slice hA c.Ap.length hc],λv _=>v=.bool false,λv _=>v=.bool true,λv _=>v=.bool true,λv _=>v=undef,λv _=>v=undef,λv _=>v=undef,λv _=>v=.bool true] ⟨aa _,aa _,aa _,aa _,aa _,aa _,aa _,aa _,trivial⟩ ⟨⟨⟨⟨⟨⟨⟨⟨trivial,?_⟩,?_⟩,?_⟩,?_⟩,?_⟩,?_⟩,?_⟩,?_⟩ λu w hg hf hv=>?_
 .intro u w hg hf hl hd;refine am (op:=.load 25 (.tmp 3)) (t:=25) rfl (λev he=>?_);obtain⟨b,q3,_⟩:=id h3;have e3:=(he.t 3).trans ((hf.at_ 3).trans q3);obtain⟨b9,e9,hb,c0,c1⟩:=Fv _ _ _ _ _ _ hg h3;obtain rfl:b9=b:=by rw[q3] at e9;cases e9;rfl
  clear hg hf hl hd he h3;go_simp
 .intro u w hg hf hl hd;exact aL rfl Sq.func4 #[.agg #[.slice nA c.Aq.length nc,.slice hA c.Ap.length hc]] (λev he=>by simp[((he.t 22).trans (hd.at_ 0 22))]) ((Xi.out w hg).mono λe w' h=>⟨_,h.1,h.2,rfl⟩)
 .intro u w hg hf hl hd;refine am (op:=.unOp UnOp.not 4 (.tmp 23)) (t:=4) rfl (λev he=>?_);have S4:=(he.t 23).trans (hd.at_ 1 23);clear hg hf hl hd he;go_simp
 .intro u w hg hf hl hd;exact ai rfl (hd.at_ 2 24)
 .intro u w hg hf hl hd;exact jf rfl (hd.at_ 3 25) rfl
 .intro u w hg hf hl hd;exact jf rfl (hd.at_ 3 25) rfl
 .intro u w hg hf hl hd;exact jf rfl (hd.at_ 3 25) rfl
 .intro u w hg hf hl hd;refine am (op:=.pick (.tmp 25) (.const (Value.bool true)) (.tmp 28)) (t:=4) rfl (λev he=>?_);have Xc:=(he.t 25).trans (hd.at_ 3 25);have e28:=(he.t 28).trans (hd.at_ 6 28);have ec:=he.2.1;clear hg hf hl hd he;go_simp
 .exact hK w u hg hf (hv.at_ 7 29)
def oe {nA hA:Option Addr}{nc hc:Nat}{c:AD}{B lo gc:Nat}{gA:Option Addr}{ls:List (List Int)}{W:World}{u:Nat->Value}{Q:Exit->Act->World->Prop}(h3:Il lo (.slice nA c.Aq.length nc) (.slice hA c.Ap.length hc) (u 3) W)(hB:B<=W.heap.size)(hh:BG W B hA c.Ap)(DG:c.Aq.length<=9223372036854775807)(hl2:c.Ap.length<=9223372036854775807)(EY:∀h∈c.Ap,h.off.length<=9223372036854775807)(hs:Dt c=true)(h1:u 1=.slice gA ls.length gc)(hg0:BD W B gA ls)(hl4:ls.length<=9223372036854775807)(Nh:∀x∈ls,x.length<=9223372036854775807)
  (hK:∀W' u',Gr W W'->Fr (Ca (EA (cg 1))) u' u->u' 29=.bool (!GK ls)->Q .normal ⟨T 136 u',[]⟩ W'):(Code.region 1 (Ca (EA (cg 1))) false).wp An Q ⟨T 136 u,[]⟩ W:=by
 have Xi:=xf (λV (hV:Gr W V)=>n7 nA hA nc hc c V B (xx hB hV.size) (hh.keep λb o hb=>hV.cell (p:=⟨b,o,none⟩) (xl hb hB)) DG hl2 EY);unfold AH at Xi;rw[hs] at Xi;have H30:=xf (λV (hV:Gr W V)=>wL gA gc ls V B (hg0.gr hB hV) hl4 Nh);refine cm (R:=Gr) (m:=8) (by kernel_rfl) [λv _=>v=.agg #[.slice nA c.Aq.length nc,.slice hA c.Ap.length hc],λv _=>v=.bool true,λv _=>v=.bool false,λv _=>v=.bool false,λv _=>v=.slice gA ls.length gc,λv _=>v=.bool (GK ls),λv _=>v=.bool (!GK ls),λv _=>v=.bool (!GK ls)] ⟨aa _,aa _,aa _,aa _,aa _,aa _,aa _,aa _,trivial⟩ ⟨⟨⟨⟨⟨⟨⟨⟨trivial,?_⟩,?_⟩,?_⟩,?_⟩,?_⟩,?_⟩,?_⟩,?_⟩ λu w hg hf hv=>?_
 .intro u w hg hf hl hd;refine am (op:=.load 25 (.tmp 3)) (t:=25) rfl (λev he=>?_);obtain⟨b,q3,_⟩:=id h3;have e3:=(he.t 3).trans ((hf.at_ 3).trans q3);obtain⟨b9,e9,hb,c0,c1⟩:=Fv _ _ _ _ _ _ hg h3;obtain rfl:b9=b:=by rw[q3] at e9;cases e9;rfl
  clear hg hf hl hd he h3;go_simp
 .intro u w hg hf hl hd;exact aL rfl Sq.func4 #[.agg #[.slice nA c.Aq.length nc,.slice hA c.Ap.length hc]] (λev he=>by simp[((he.t 22).trans (hd.at_ 0 22))]) ((Xi.out w hg).mono λe w' h=>⟨_,h.1,h.2,rfl⟩)
 .intro u w hg hf hl hd;refine am (op:=.unOp UnOp.not 4 (.tmp 23)) (t:=4) rfl (λev he=>?_);have S4:=(he.t 23).trans (hd.at_ 1 23);clear hg hf hl hd he;go_simp
 .intro u w hg hf hl hd;exact ai rfl (hd.at_ 2 24)
 .intro u w hg hf hl hd;exact ai rfl ((hf.at_ 1).trans h1) (hl:=aw (hd.at_ 3 25))
 .intro u w hg hf hl hd;exact aL rfl Sq.func5 #[.slice gA ls.length gc] (λev he=>by simp[((he.t 26).trans (hd.at_ 4 26))]) ((H30.out w hg).mono λe w' h=>⟨_,h.1,h.2▸Gr.refl w,rfl⟩) (hl:=aw (hd.at_ 3 25))
 .intro u w hg hf hl hd;refine am (op:=.unOp UnOp.not 4 (.tmp 27)) (t:=4) rfl (λev he=>?_) (hl:=aw (hd.at_ 3 25));have e27:=(he.t 27).trans (hd.at_ 5 27);clear hg hf hl hd he;go_simp
 .intro u w hg hf hl hd;refine am (op:=.pick (.tmp 25) (.const (Value.bool true)) (.tmp 28)) (t:=4) rfl (λev he=>?_);have Xc:=(he.t 25).trans (hd.at_ 3 25);have e28:=(he.t 28).trans (hd.at_ 6 28);have ec:=he.2.1;clear hg hf hl hd he;go_simp
 .exact hK w u hg hf (hv.at_ 7 29)
def vZ {A:Option Addr}{cap:Nat}{l:List Int}{B:Nat}{W:World}{u:Nat->Value}{Q:Exit->Act->World->Prop}(h2:u 2=.slice A l.length cap)(hr:RI W B A l)(hB:B<=W.heap.size)
  (hK:∀W' u',Gr W W'->Fr (Ca (cg 2)) u' u->Nv W.heap.size A cap l (u' 7) W'->Q .normal ⟨T 136 u',[]⟩ W'):(Code.region 3 (Ca (cg 2)) false).wp An Q ⟨T 136 u,[]⟩ W:=by
 refine cm (R:=Gr) (m:=3) (by kernel_rfl) [λv _=>v=.slice A l.length cap,Nv W.heap.size A cap l,Nv W.heap.size A cap l] ⟨aa _,kU _ _ _ _,kU _ _ _ _,trivial⟩ ⟨⟨⟨trivial,?_⟩,?_⟩,?_⟩ λu w hg hf hv=>?_
 .intro u w hg hf hl hd;exact ai rfl ((hf.at_ 2).trans h2)
 .intro u w hg hf hl hd;exact aL rfl Sq.func7 #[.slice A l.length cap] (λev he=>by simp[((he.t 31).trans (hd.at_ 0 31))]) ((ra A cap l w ((hr.gr hB hg).more (xx hB hg.size))).mono λe w' h=>⟨_,h.1,h.2.2,_,_,rfl,hg.size,h.2.1⟩)
 .intro u w hg hf hl hd;exact aP rfl (hd.at_ 1 32)
 .exact hK w u hg hf (hv.at_ 2 7)
end Go.Proofs.Ao
namespace Go.Sq
open Go.RowKit Go.AW Go.Proofs.Ao
def R7 (lo:Nat)(xs:Array Value)(e:TypeId)(v:Value)(w:World):Prop:=∃b,v=.slice (some ⟨b,0,none⟩) 3 3/\lo<=b/\w.heap[b]?=some (.cells xs e (0,0))
def ir {hb lo:Nat}(h:hb<lo)(xs:Array Value)(e:TypeId):Hb (KT (·=hb)) (R7 lo xs e):=λv w w' hg ⟨b,e,h1,h2⟩ =>
 ⟨b,e,h1,(hg.block b (xg.1 h2).1 (by omega)).trans h2⟩
def Xj (lo n m:Nat)(ls:List (List Int))(v:Value)(w:World):Prop:=(∃xs,AY w lo v ls xs)/\ls.length=n/\∀x∈ls,∃p,x=AJ p m
def te {hb lo n m:Nat}(h:hb<lo){ls:List (List Int)}{v:Value}{w w':World}(hg:KT (·=hb) w w')(hr:Xj lo n m ls v w):Xj lo n m ls v w':=by
 obtain⟨⟨xs,h1⟩,h2⟩:=hr;exact⟨⟨xs,h1.keep' λb h3 h4=>hg.block b h4 (by omega)⟩,h2⟩
def R8 (lo n m:Nat)(v:Value)(w:World):Prop:=∃ls,Xj lo n m ls v w
def mH {hb lo n m:Nat}(h:hb<lo):Hb (KT (·=hb)) (R8 lo n m):=λ_ _ _ hg ⟨ls,hr⟩=>⟨ls,te h hg hr⟩
def TL (lo n m:Nat)(g:Value)(v:Value)(w:World):Prop:=∃x,R7 lo #[g,x,g] 26 v w/\R8 lo n m x w
def kV {hb lo n m:Nat}(h:hb<lo)(g:Value):Hb (KT (·=hb)) (TL lo n m g):=λv w w' hg ⟨x,h1,h2⟩=>⟨x,ir h _ _ _ _ _ hg h1,mH h _ _ _ hg h2⟩
end Go.Sq
namespace Go.Proofs.Ao
open Go.RowKit Go.Sq Go.AW
def we {hb B cap:Nat}{A:Option Addr}{l:List Int}{W:World}{u:Nat->Value}{Q:Exit->Act->World->Prop}(h7:u 7=.pointer (some ⟨hb,0,none⟩))(hh:Hand W hb B A cap l 0)
  (hK:∀W' u' c nA hA nc hc,KT (·=hb) W W'->Hand W' hb B A cap l 1000->(∀t,t≠33->t≠34->t≠8->u' t=u t)->c.Ok->AK c=0->Il W.heap.size (.slice nA c.Aq.length nc) (.slice hA c.Ap.length hc) (u' 8) W' ->
   FC W' (λb=>W.heap.size<=b/\b<W'.heap.size) nA c.Aq->Dj W' (λb=>W.heap.size<=b/\b<W'.heap.size) hA c.Ap->Q .normal ⟨T 136 u',[]⟩ W'):(Code.region 4 (Ca (cg 3)) false).wp An Q ⟨T 136 u,[]⟩ W:=by
 refine wp_region ?_;rw[show List.range (Ca (cg 3)).size=[0,1,2,3] from by kernel_rfl,wpOps_cons];refine uG rfl ?_;rw[wpOps_cons];refine uH rfl Sq.func8 #[.pointer (some ⟨hb,0,none⟩),.int .i64 5,.int .i64 4] (λev he=>?_) ((sU hb B A cap l 0 W hh (by omega)).mono ?_)
 .have e1:=(he.t 33).trans ((bH ..).trans h7);simp[e1,he.2.1]
 rintro e w2 ⟨c,nA,hA,nc,hc,rfl,Du,JJ,hn,hs,hh2,hk2⟩;refine⟨_,rfl,?_⟩;rw[wpOps_cons];refine ip (op:=.alloc 25) (t:=0) rfl (.pointer (some ⟨w2.heap.size,0,none⟩)) (w2.alloc (.cells #[.slice none 0 0,.slice none 0 0] 25)) (λev he=>?_) ?_
 .clear he hh hn hs hh2 hk2 hK;go_simp
 have hb2:(w2.alloc (.cells #[.slice none 0 0,.slice none 0 0] 25)).heap[w2.heap.size]?=some (.cells #[.slice none 0 0,.slice none 0 0] 25 (0,0)):=World.alloc_heap_new _ _;rw[wpOps_cons];refine ko (op:=.store 25 (.tmp 8) (.tmp 34)) (t:=0) rfl (((w2.alloc (.cells #[.slice none 0 0,.slice none 0 0] 25)).setCell ⟨w2.heap.size,0,none⟩ (.slice nA c.Aq.length nc)).setCell ⟨w2.heap.size,1,none⟩ (.slice hA c.Ap.length hc)) (λev he=>?_) ?_
 .have e1:=(he.t 8).trans (bH ..);have e2:=(he.t 34).trans ((bB (by decide)).trans (bH ..));obtain⟨⟨q1,q2,q3,q4⟩,q5⟩:=Gg hb2;unfold AH at e2;clear he hh hn hs hh2 hk2 hK hb2;go_simp
 have g2:Gr w2 (((w2.alloc (.cells #[.slice none 0 0,.slice none 0 0] 25)).setCell ⟨w2.heap.size,0,none⟩ (.slice nA c.Aq.length nc)).setCell ⟨w2.heap.size,1,none⟩ (.slice hA c.Ap.length hc)):=mF ((Gr.refl w2).alloc _) (xh _);have hz:=hk2.size;have Jh:∀b,W.heap.size<=b/\b<w2.heap.size->W.heap.size<=b/\b<(((w2.alloc (.cells #[.slice none 0 0,.slice none 0 0] 25)).setCell ⟨w2.heap.size,0,none⟩ (.slice nA c.Aq.length nc)).setCell ⟨w2.heap.size,1,none⟩ (.slice hA c.Ap.length hc)).heap.size:=λb hb=>⟨hb.1,xl hb.2 g2.size⟩
 obtain⟨o0,o1⟩:=Nu (x:=.slice nA c.Aq.length nc) (y:=.slice hA c.Ap.length hc) hb2;show Q .normal _ _;exact hK _ _ c nA hA nc hc (hk2.trans (zF g2)) (hh2.gr g2) (λt h1 h2 h3=>(bB h3).trans ((bB h2).trans (bB h1))) Du JJ ⟨w2.heap.size,(show IC (DV (DV u (some 33) (u 7)) (some 34) (AH nA hA c nc hc)) 8 (.pointer (some ⟨w2.heap.size,0,none⟩)) 8=_ from bH ..),⟨hz,by rw[gq];simp⟩,o0,o1⟩ (eW hn Jh λb o hb=>g2.cell (p:=⟨b,o,none⟩) hb.2) (gj hs Jh λb o hb=>g2.cell (p:=⟨b,o,none⟩) hb.2)
def wj {nA hA gA nA2 hA2 A:Option Addr}{nc hc gc nc2 hc2 cap hb B b3 b8:Nat}{c c2:AD}{ls:List (List Int)}{l:List Int}{W:World}{u:Nat->Value}{Q:Exit->Act->World->Prop}(h1:u 1=.slice gA ls.length gc)
  (h3:u 3=.pointer (some ⟨b3,0,none⟩)) (hb3:b3<W.heap.size/\¬b3=hb) (h30:W.cell? ⟨b3,0,none⟩=some (.slice nA c.Aq.length nc)) (h31:W.cell? ⟨b3,1,none⟩=some (.slice hA c.Ap.length hc)) (h7:u 7=.pointer (some ⟨hb,0,none⟩)) (hh:Hand W hb B A cap l 1000)
  (h8:u 8=.pointer (some ⟨b8,0,none⟩)) (LK:b8<W.heap.size/\¬b8=hb) (h80:W.cell? ⟨b8,0,none⟩=some (.slice nA2 c2.Aq.length nc2)) (h81:W.cell? ⟨b8,1,none⟩=some (.slice hA2 c2.Ap.length hc2)) (n2:c2.Aq.length<=64) (m2:c2.Ap.length<=64)
  (hK:∀W' u',KT (·=hb) W W'->Fr (Ca (cg 4)) u' u->R7 W.heap.size #[.slice nA c.Aq.length nc,.slice hA c.Ap.length hc,.slice nA2 c2.Aq.length nc2,.slice hA2 c2.Ap.length hc2,.slice nA2 c2.Aq.length nc2,.slice hA2 c2.Ap.length hc2] 25 (u' 9) W'->TL W.heap.size c2.Aq.length c2.Ap.length (.slice gA ls.length gc) (u' 10) W'->Q .normal ⟨T 136 u',[]⟩ W'):(Code.region 5 (Ca (cg 4)) true).wp An Q ⟨T 136 u,[]⟩ W:=by
 have hlt:=hh.lt;refine mz (R:=KT (·=hb)) (m:=12) 7 (Gr W) (Gr.refl W).drew (by kernel_rfl) [λv _=>v=.agg #[.slice nA c.Aq.length nc,.slice hA c.Ap.length hc],λv _=>v=.agg #[.slice nA2 c2.Aq.length nc2,.slice hA2 c2.Ap.length hc2],λv _=>v=.agg #[.slice nA2 c2.Aq.length nc2,.slice hA2 c2.Ap.length hc2],R7 W.heap.size #[.slice nA c.Aq.length nc,.slice hA c.Ap.length hc,.slice nA2 c2.Aq.length nc2,.slice hA2 c2.Ap.length hc2,.slice nA2 c2.Aq.length nc2,.slice hA2 c2.Ap.length hc2] 25,λv _=>v=.slice gA ls.length gc,λv _=>v=.pointer (some ⟨hb,0,none⟩),λv _=>v=.agg #[.slice nA2 c2.Aq.length nc2,.slice hA2 c2.Ap.length hc2],R8 W.heap.size c2.Aq.length c2.Ap.length,λv _=>v=.slice gA ls.length gc,TL W.heap.size c2.Aq.length c2.Ap.length (.slice gA ls.length gc),R7 W.heap.size #[.slice nA c.Aq.length nc,.slice hA c.Ap.length hc,.slice nA2 c2.Aq.length nc2,.slice hA2 c2.Ap.length hc2,.slice nA2 c2.Aq.length nc2,.slice hA2 c2.Ap.length hc2] 25,TL W.heap.size c2.Aq.length c2.Ap.length (.slice gA ls.length gc)] ⟨aa _,aa _,aa _,ir hlt _ _,aa _,aa _,aa _,mH hlt,aa _,kV hlt _,ir hlt _ _,kV hlt _,trivial⟩ ⟨⟨⟨⟨⟨⟨⟨⟨⟨⟨⟨⟨trivial,?_⟩,?_⟩,?_⟩,?_⟩,?_⟩,?_⟩,?_⟩,?_⟩,?_⟩,?_⟩,?_⟩,?_⟩ λu w hg hf hv=>?_
 .intro u w hg hf hl hd hj;refine am (op:=.load 25 (.tmp 3)) (t:=25) rfl (λev he=>?_);have e3:=(he.t 3).trans ((hf.at_ 3).trans h3);have c0:=(hg.cell (p:=⟨b3,0,none⟩) hb3.1 hb3.2).trans h30;have c1:=(hg.cell (p:=⟨b3,1,none⟩) hb3.1 hb3.2).trans h31;have hz:=hb3.1;clear hg hf hl hd he hj;go_simp
 .intro u w hg hf hl hd hj;refine am (op:=.load 25 (.tmp 8)) (t:=25) rfl (λev he=>?_);have e8:=(he.t 8).trans ((hf.at_ 8).trans h8);have c0:=(hg.cell (p:=⟨b8,0,none⟩) LK.1 LK.2).trans h80;have c1:=(hg.cell (p:=⟨b8,1,none⟩) LK.1 LK.2).trans h81;have hz:=LK.1;clear hg hf hl hd he hj;go_simp
 .intro u w hg hf hl hd hj;refine am (op:=.load 25 (.tmp 8)) (t:=25) rfl (λev he=>?_);have e8:=(he.t 8).trans ((hf.at_ 8).trans h8);have c0:=(hg.cell (p:=⟨b8,0,none⟩) LK.1 LK.2).trans h80;have c1:=(hg.cell (p:=⟨b8,1,none⟩) LK.1 LK.2).trans h81;have hz:=LK.1;clear hg hf hl hd he hj;go_simp
 .intro u w hg hf hl hd hj;have hz:=hg.size;refine ck (op:=.buildSlice 33 3 #[(0,.tmp 35),(1,.tmp 36),(2,.tmp 37)]) (t:=33) rfl _ (w.alloc (.cells #[.slice nA c.Aq.length nc,.slice hA c.Ap.length hc,.slice nA2 c2.Aq.length nc2,.slice hA2 c2.Ap.length hc2,.slice nA2 c2.Aq.length nc2,.slice hA2 c2.Ap.length hc2] 25)) (λev he=>?_) ⟨zF ((Gr.refl w).alloc _),λ_ h=>h.alloc _⟩ ⟨_,rfl,hz,World.alloc_heap_new _ _⟩
  have e1:=((he.t 35).trans (hd.at_ 0 35));have e2:=((he.t 36).trans (hd.at_ 1 36));have e3:=((he.t 37).trans (hd.at_ 2 37));clear hg hf hl hd he hj;go_simp
 .intro u w hg hf hl hd hj;exact ai rfl ((hf.at_ 1).trans h1)
 .intro u w hg hf hl hd hj;exact ai rfl ((hf.at_ 7).trans h7)
 .intro u w hg hf hl hd hj;refine am (op:=.load 25 (.tmp 8)) (t:=25) rfl (λev he=>?_);have e8:=(he.t 8).trans ((hf.at_ 8).trans h8);have c0:=(hg.cell (p:=⟨b8,0,none⟩) LK.1 LK.2).trans h80;have c1:=(hg.cell (p:=⟨b8,1,none⟩) LK.1 LK.2).trans h81;have hz:=LK.1;clear hg hf hl hd he hj;go_simp
 .intro u w hg hf hl hd hj;have hz:=hg.size;refine aL rfl Sq.func9 #[.pointer (some ⟨hb,0,none⟩),.agg #[.slice nA2 c2.Aq.length nc2,.slice hA2 c2.Ap.length hc2]] (λev he=>by simp[((he.t 40).trans (hd.at_ 5 40)),((he.t 41).trans (hd.at_ 6 41))]) ((px hb B A nA2 hA2 cap nc2 hc2 l 1000 c2.Aq.length c2.Ap.length w (hh.gr (hj rfl)) (by omega) (by omega) (by omega)).mono ?_)
  .rintro e w2 ⟨v,Xk,xs,rfl,h1,h2,h3,_,h4⟩;exact⟨v,rfl,⟨h4,λe=>absurd rfl e⟩,Xk,⟨xs,kT h1 (by omega)⟩,h2,h3⟩
 .intro u w hg hf hl hd hj;exact ai rfl ((hf.at_ 1).trans h1)
 .intro u w hg hf hl hd hj;have hz:=hg.size;obtain⟨Xk,⟨xs,h1⟩,h2⟩:=(hd.at_ 7 42);obtain⟨gA2,gc2,e42,_⟩:=h1.Ll;refine ck (op:=.buildSlice 35 3 #[(0,.tmp 39),(1,.tmp 42),(2,.tmp 43)]) (t:=35) rfl _ (w.alloc (.cells #[.slice gA ls.length gc,.slice gA2 Xk.length gc2,.slice gA ls.length gc] 26)) (λev he=>?_) ⟨zF ((Gr.refl w).alloc _),λ_ h=>h.alloc _⟩ ⟨_,⟨_,rfl,hz,World.alloc_heap_new _ _⟩,Xk,⟨xs,by rw[<-e42];exact h1.keep λb hb=>((Gr.refl w).alloc _).below.block b hb⟩,h2⟩
  have e1:=((he.t 39).trans (hd.at_ 4 39));have e2:=(he.t 42).trans e42;have e3:=((he.t 43).trans (hd.at_ 8 43));clear hg hf hl hd he hj h1;go_simp
 .intro u w hg hf hl hd hj;exact aP rfl (hd.at_ 3 38)
 .intro u w hg hf hl hd hj;exact aP rfl (hd.at_ 9 44)
 .exact hK w u hg hf (hv.at_ 10 9) (hv.at_ 11 10)
end Go.Proofs.Ao
