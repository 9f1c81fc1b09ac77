/- Parts of the proof. -/
import Derived.Test.YtghipmneleifpaaGreatP02
import Derived.Test.YtghipmneleifpaaGreatP00
set_option linter.all false
open Go.stepG renaming exec->bb,apply->cf,oper->eC
open Or renaming inr->bc
open Go renaming FuncId->bh,Frame->bl,Program->bs,Deferred->bD,doReturn->bW,World->b9,PanicEntry->cq,Event->cF,callDeferred->c0,Value->df,Code->dn,FrameMode->dr,Goroutine->dS,findLabel->eb,CallKind->ek,Item->er
open Bool renaming false->bk,true->bq
open Option renaming none->bn,some->bA,elim_none->cu,elim_some->ed
open Go.Instr renaming endRound->br,beginRound->cr,enterLoop->cE,takeDeferred->cK,endLoop->ea
open Go.GStep renaming after->bw
open Go.Frame renaming eval->b8,enter->cw,catches->cU,pos->eo,round->ez,oper?->eA
namespace Go.Ct
def ov:Op->Bool
 |.defer _=>bq
 |_=>bk
def jn (s:String):Bool:=s == "internal/race.Disable"||s == "internal/race.Enable"||s == "internal/race.Acquire"||s == "internal/race.ReleaseMerge"
def dE (p:bs)(f:bh):Bool:=match p.funcs[f]? with
 |some fn=>fn.body.isNone&&jn fn.name
 |none=>bk
def aW {p:bs}{f:bh}{fn:Func}(h:p.funcs[f]?=bA fn)(hb:fn.body.isSome=bq):dE p f=false:=by
 unfold dE;rw[h];cases hx:fn.body with
 |none=>rw[hx] at hb;cases hb
 |some c=>simp[hx]
def dT {p:bs}{f:bh}{fn:Func}(h:p.funcs[f]?=bA fn)(hb:jn fn.name=bk):dE p f=false:=by
 unfold dE;rw[h];simp[hb]
def eQ (p:bs)(c:Call):Bool:=match c.callee with
 |.value (.func f)=>dE p f
 |_=>bk
def eR (P:bs)(s d:TypeId):Bool:=match P.underlying s,P.underlying d with
 |some (.pointer _),bA .unsafePointer=>bq
 |_,_=>bk
def aL (p:bs):Op->Bool
 |.go _=>bk
 |.call c=>!eQ p c
 |.convert s d _=>!eR p s d
 |_=>bq
def Kk (P:bs)(SB:bh->Bool):Op->Bool
 |.go c=>bL P SB c&&match c.callee with
  |.builtin _=>bk
  |_=>bq
 |.call c=>eQ P c&&c.args.all (ah SB)&&match c.callee with
  |.value (.func f)=>!SB f
  |_=>bk
 |.convert s d x=>eR P s d&&ah SB x
 |_=>bk
def pw {P:bs}{SB:bh->Bool}{op:Op}(h:aL P op=bq):Kk P SB op=false:=by
 cases op with
 |go c=>simp[aL] at h
 |call c=>simp only[aL,zY] at h;simp[Kk,h]
 |convert s d x=>simp only[aL,zY] at h;simp[Kk,h]
 |_=>rfl
def iV {P:bs}{s d:TypeId}(h:gW P s d=bq):eR P s d=false:=by
 unfold gW at h;unfold eR;split at h
 .rename_i h1 h2;rw[h1,h2]
 .cases h
def sR {P p:bs}{SB:bh->Bool}{o:Oper}(h:dD P SB o=bq)(hn:∀f,SB f=bq->dE p f=bk)(hu:∀t,p.underlying t=P.underlying t):aL p o.op=true:=by
 unfold dD PO at h;cases hop:o.op with
 |go c=>rw[hop] at h;simp at h
 |call c =>
  rw[hop] at h;simp only[aL,zY];unfold eQ;cases hc:c.callee with
  |value f=>cases f with
   |func f =>
    simp only[bL,hc,yY] at h;exact hn f h.1.2
   |_=>rfl
  |_=>rfl
 |convert s d x =>
  rw[hop] at h;simp only[yY] at h;simp only[aL,zY];have:=iV h.1.1;unfold eR at this ⊢;rw[hu,hu];exact this
 |_=>rfl
def uI {P:bs}{SB:bh->Bool}{o:Oper}(h:dD P SB o=bq):Kk P SB o.op=false:=by
 unfold dD PO at h;cases hop:o.op with
 |go c=>rw[hop] at h;simp at h
 |call c =>
  rw[hop] at h;unfold Kk;cases hc:c.callee with
  |value f=>cases f with
   |func f =>
    simp only[bL,hc,yY] at h;have h2:SB f=true:=h.1.2;simp[hc,h2]
   |_=>simp[eQ,hc]
  |_=>simp[eQ,hc]
 |convert s d x =>
  rw[hop] at h;simp only[yY] at h;simp[Kk,iV h.1.1]
 |_=>rfl
def cv (P:bs)(SB:bh->Bool)(lets ad:Bool)(o:Oper):Bool:=(dD P SB o&&(ad||!ov o.op))||(lets&&Kk P SB o.op)
def wN:Op->Bool
 |.call c=>(match c.callee with|.value (.func f)=>f==81|_=>bk)&&(match(c.args[1]?:Option Operand) with|some (Operand.const (Value.int _ n))=>decide (n<0)|_=>bk)
 |_=>bk
def codeOk (P:bs)(SB:bh->Bool)(lets:Bool):Bool->dn->Bool
 |_,.skip|_,.exit _|_,.label _|_,.goto _|_,.ret=>bq
 |_,.refuse _=>bq
 |ad,.region _ ops _=>ops.all (cv P SB lets ad)&&!ops.any λo=>wN o.op
 |ad,.seq a b=>codeOk P SB lets ad a&&codeOk P SB lets ad b
 |ad,.cond c a b=>ah SB c&&codeOk P SB lets ad a&&codeOk P SB lets ad b
 |ad,.block _ b|ad,.loop b|ad,.scope b=>codeOk P SB lets ad b
 |_,.rangeFunc f _ yH bo=>ah SB f&&codeOk P SB lets bk yH&&codeOk P SB lets bk bo
section
variable (P:bs) (SB:bh->Bool) (H:Hid) (lets:Bool)
abbrev CK:dn->Prop:=λc=>codeOk P SB lets bk c=bq
inductive Ey (ad:Bool)(β:Cm):er->er->Prop
 |code {c:dn}:codeOk P SB lets ad c=bq->Ey ad β (.code c) (.code c)
 |inBlock (id:Nat):Ey ad β (.inBlock id) (.inBlock id)
 |inLoop {c:dn}:codeOk P SB lets ad c=bq->Ey ad β (.inLoop c) (.inLoop c)
 |inScope {c:dn}:codeOk P SB lets ad c=bq->Ey ad β (.inScope c) (.inScope c)
 |inRegion {ops:Array Oper} {l:List Nat}:ops.all (cv P SB lets ad)=bq->Ey ad β (.inRegion ops l) (.inRegion ops l)
 |inRangeFunc {l L:Nat}:β l L->H l=bk->Ey ad β (.inRangeFunc l) (.inRangeFunc L)
 |endRangeFunc {l L:Nat}:β l L->H l=bk->Ey ad β (.endRangeFunc l) (.endRangeFunc L)
 |beginRound:Ey ad β .beginRound .beginRound
inductive Iy (β:Cm):cq->cq->Prop
 |mk {v V:df} (r g:Bool):B6 (SP SB H) β v V->Iy β ⟨v,r,g⟩ ⟨V,r,g⟩
inductive IX (β:Cm):dr->dr->Prop
 |run:IX β .run .run
 |returning:IX β .returning .returning
 |panicking {l L:List cq}:Df (Iy SB H β) l L->IX β (.panicking l) (.panicking L)
inductive F6 (β:Cm):Option Nat->Option Nat->Prop
 |none:F6 β bn bn
 |some {l L:Nat}:β l L->H l=bk->F6 β (bA l) (bA L)
structure Cq (β:Cm)(f F:bl):Prop where
 fn:f.fn=F.fn
 tmps:Ca (SP SB H) β f.tmps F.tmps
 todo:Df (Ey P SB H lets f.roundOf.isNone β) f.todo F.todo
 defers:Df (D5 (SP SB H) β) f.defers F.defers
 mode:IX SB H β f.mode F.mode
 kind:f.kind=F.kind
 late:f.kind≠.early/\SB f.fn=bq
 round:F6 H β f.roundOf F.roundOf
def bad:Frame:={ fn:=0,tmps:=#[],todo:=[.code (.refuse "")],defers:=[⟨.nil,#[]⟩],mode:=.run,kind:=.normal }
inductive Dz (T:List bl)(β:Cm):List bl->List bl->Prop
 |base:Dz T β [bad] T
 |cons {c C:bl} {cs CS:List bl}:Cq P SB H lets β c C->Dz T β cs CS->Dz T β (c::cs) (C::CS)
end
section
variable (P:CL) (SB:bh->Bool) (H:Hid) (lets:Bool)
inductive ED (BB:bh->Bool)(β:Cm):bl->bl->Prop
 |on {f F:bl}:Cq P.a SB H lets β f F->ED BB β f F
 |stop {f:bh} {a A:Array df} {k:ek}:(SB f=bq\/aO SB f=bq)->BB f=bk->k≠.early->Ca (SP SB H) β a A->ED BB β (cw P.a f a k) (cw P.b f A k)
structure El (BB:bh->Bool)(T:List bl)(β:Cm)(g g':dS):Prop where
 top:ED P SB H lets BB β g.frame g'.frame
 callers:Dz P.a SB H lets T β g.callers g'.callers
 status:g.status=.running/\g'.status=.running
 dying:g.dying=bn/\g'.dying=bn
 offers:g.offers=bn/\g'.offers=bn
end
section
variable {P:CL} {SB:bh->Bool} {H:Hid} {lets:Bool} {BB:bh->Bool} {β B8:Cm} {G:Nat}
def Dz.mono {T:List bl}(h:∀c C,Cq P.a SB H lets β c C->Cq P.a SB H lets B8 c C){cs CS:List bl}(r:Dz P.a SB H lets T β cs CS):Dz P.a SB H lets T B8 cs CS:=by
 induction r with
 |base=>exact .base
 |cons a _ ih=>exact .cons (h _ _ a) ih
def Dz.ne {T:List bl}{cs CS:List bl}(r:Dz P.a SB H lets T β cs CS):cs≠[]:=by
 cases r<;>simp
def Ey.mono {ad:Bool}(h:β.le B8){i I:er}(r:Ey P.a SB H lets ad β i I):Ey P.a SB H lets ad B8 i I:=by
 cases r with
 |code c=>exact .code c
 |inBlock id=>exact .inBlock id
 |inLoop c=>exact .inLoop c
 |inScope c=>exact .inScope c
 |inRegion c=>exact .inRegion c
 |inRangeFunc a b=>exact .inRangeFunc (h _ _ a) b
 |endRangeFunc a b=>exact .endRangeFunc (h _ _ a) b
 |beginRound=>exact .beginRound
def Iy.mono (h:β.le B8){i I:cq}(r:Iy SB H β i I):Iy SB H B8 i I:=by
 cases r with
 |mk a b v=>exact .mk a b (v.mono h)
def IX.mono (h:β.le B8){i I:dr}(r:IX SB H β i I):IX SB H B8 i I:=by
 cases r with
 |run=>exact .run
 |returning=>exact .returning
 |panicking l=>exact .panicking (l.mono λ_ _=>Iy.mono h)
def F6.mono (h:β.le B8){i I:Option Nat}(r:F6 H β i I):F6 H B8 i I:=by
 cases r with
 |none=>exact .none
 |some a b=>exact .some (h _ _ a) b
def Cq.mono (h:β.le B8){f F:bl}(r:Cq P.a SB H lets β f F):Cq P.a SB H lets B8 f F :=
 ⟨r.fn,r.tmps.mono h,r.todo.mono λ_ _=>Ey.mono h,r.defers.mono λ_ _=>D5.mono h,r.mode.mono h,r.kind,r.late,r.round.mono h⟩
def Cq.eval {f F:bl}(r:Cq P.a SB H lets β f F){x:Operand}(h:ah SB x=bq):B6 (SP SB H) β (f.eval x) (F.eval x):=by
 cases x with
 |tmp t=>exact r.tmps.getD t (.tuple rfl (by simp))
 |const v=>exact gM h
 |global g=>cases h
 |func f=>exact .func (.func (.inl h)) rfl (by simp) rfl (by simp)
def Oa (id:Nat){ad:Bool}{l L:List er}(h:Df (Ey P.a SB H lets ad β) l L):(exitTo id l=bn/\exitTo id L=bn)\/∃k K,exitTo id l=bA k/\exitTo id L=bA K/\Df (Ey P.a SB H lets ad β) k K:=by
 induction h with
 |nil=>exact .inl ⟨rfl,rfl⟩
 |@cons i I l L hi hl ih =>
  cases hi with
  |inBlock id' =>
   unfold exitTo;split
   .exact .inr ⟨_,_,rfl,rfl,hl⟩
   .exact ih
  |_=>exact ih
def eU {ad:Bool}:∀ {c:dn} {l:Nat} {r:dn},codeOk P.a SB lets ad c=bq->eb c l=bA r->codeOk P.a SB lets ad r=bq
 |.seq a b,l,r,h,hf=>by
  simp only[codeOk,yY] at h;unfold eb at hf;split at hf
  .rename_i rest hr;cases hf;simp only[codeOk,yY];exact⟨eU h.1 hr,h.2⟩
  .exact eU h.2 hf
 |.label l',l,r,h,hf=>by
  unfold eb at hf;split at hf
  .cases hf;rfl
  .cases hf
 |.skip,_,_,_,hf|.region _ _ _,_,_,_,hf|.cond _ _ _,_,_,_,hf|.block _ _,_,_,_,hf|.loop _,_,_,_,hf|.rangeFunc _ _ _ _,_,_,_,hf|.exit _,_,_,_,hf|.scope _,_,_,_,hf|.goto _,_,_,_,hf|.ret,_,_,_,hf|.refuse _,_,_,_,hf=>by cases hf
def Ob {ad:Bool}(l:Nat){k K:List er}(h:Df (Ey P.a SB H lets ad β) k K):(gotoIn l k=bn/\gotoIn l K=bn)\/∃k' K',gotoIn l k=bA k'/\gotoIn l K=bA K'/\Df (Ey P.a SB H lets ad β) k' K':=by
 induction h with
 |nil=>exact .inl ⟨rfl,rfl⟩
 |@cons i I k K hi hl ih =>
  cases hi with
  |inScope hc =>
   rename_i c;unfold gotoIn;cases hf:eb c l with
   |none=>exact ih
   |some rest=>exact .inr ⟨_,_,rfl,rfl,.cons (.code (eU hc hf)) (.cons (.inScope hc) hl)⟩
  |_=>exact ih
def mem_seen {p:bs}{fn:bh}{es:Array cF}{E:cF}(h:E∈seen p fn es):E∈es:=by
 unfold seen at h;dsimp only at h;rw[<-Be] at h
 have key : ∀ (l : List cF) (q : Bool) (kept : Array cF), E ∈ (l.foldl (fun (x : Bool × Array cF) e => match x with
   |(q,kept)=>match e.loc with
    |.mark (.extern f)=>((p.funcs[f]?).any (·.norace),kept)
    |_=>(q,if q&&!e.sync then kept else kept.push e)) (q,kept)).2->E∈kept\/E∈l:=by
  intro l
  induction l with
  |nil=>intro q kept h;exact .inl h
  |cons e l ih =>
   intro q kept h;simp only[Af] at h;split at h
   .rcases ih _ _ h with h|h
    .exact .inl h
    .exact .inr (by simp[h])
   .rcases ih _ _ h with h|h
    .split at h
     .exact .inl h
     .rcases Array.mem_push.1 h with h|h
      .exact .inl h
      .exact .inr (by simp[h])
    .exact .inr (by simp[h])
 rcases key _ _ _ h with h|h
 .simp at h
 .simpa using h
end
def afV {α:Type}:Result α×Array cF->Prop
 |(.ok _ _,_)=>True
 |(.halt (.panic _) _,_)=>True
 |(.halt (.stuck _) _,_)=>True
 |(.halt (.unsupported u) _,_)=>∀g,u≠.initOrder g
 |_=>False
section
variable {P:CL} {S:DT} {Ck:dn->Prop} {G:Nat} {β:Cm}
def Cf.PR {α FK:Type}{m:Sem α}{M:Sem FK}{R:Cm->α->FK->Prop}(h:Cf P S Ck G β m M R){w W:b9}(hw:CV S Ck G β w W)(Dt:Array cF):afV (m.runT P.a w Dt):=by
 have hw':CV S Ck G β w { W with tape:=λi q=>w.tape (w.drawn+(i-W.drawn)) q }:=⟨hw.DG,hw.room,hw.D8,hw.Ej,hw.old,hw.env⟩
 have:=h w { W with tape:=λi q=>w.tape (w.drawn+(i-W.drawn)) q } ((world (m.runT P.a w Dt).1).drawn-w.drawn) hw' (λi _ q=>by
  show w.tape (w.drawn+i) q=w.tape (w.drawn+(W.drawn+i-W.drawn)) q
  rw[show W.drawn+i-W.drawn=i from by omega]) Dt #[] (by omega)
 revert this;generalize m.runT P.a w Dt=r;obtain⟨r,es⟩:=r;cases r with
 |ok a w'=>exact λ_=>trivial
 |halt x w'=>cases x with
  |panic v=>exact λ_=>trivial
  |stuck s=>exact λ_=>trivial
  |unsupported u=>exact id
  |_=>exact id
def Cf.some {α FK:Type}{m:Sem α}{M:Sem FK}{R:Cm->α->FK->Prop}(h:Cf P S Ck G β m M R){w W:b9}(hw:CV S Ck G β w W){Dt es:Array cF}{a:α}{w':b9}(hr:m.runT P.a w Dt=(.ok a w',es)):∃B8 A,R B8 a A:=by
 have hw':CV S Ck G β w { W with tape:=λi q=>w.tape (w.drawn+(i-W.drawn)) q }:=⟨hw.DG,hw.room,hw.D8,hw.Ej,hw.old,hw.env⟩
 have:=h w { W with tape:=λi q=>w.tape (w.drawn+(i-W.drawn)) q } ((world (m.runT P.a w Dt).1).drawn-w.drawn) hw' (λi _ q=>by
  show w.tape (w.drawn+i) q=w.tape (w.drawn+(W.drawn+i-W.drawn)) q
  rw[show W.drawn+i-W.drawn=i from by omega]) Dt #[] (by omega)
 rw[hr] at this;obtain⟨B8,A,_,_,_,h,_⟩:=this;exact⟨B8,A,h⟩
end
def aP:GStep->b9
 |.go _ w _|.comm _ _ _ _ w _|.spawn _ _ w _|.count _ w _|.timer _ _ w _|.alone _ _ w _|.newcoro _ _ _ w _|.coroswitch _ _ _ w _|.collect _ w _|.watch _ w _|.ended _ w _=>w
section
variable (P:CL) (SB:bh->Bool) (H:Hid) (lets:Bool) (BB:bh->Bool) (T:List bl) (G:Nat)
def Gone (g:dS):Prop:=(∃fr,g={ frame:=fr,callers:=[],status:=.running,dying:=bn })/\∀(P:bs) (w:b9),∃o w' es,stepG P bq g w=.ended o w' es
def Rh:Gone { frame:=bad,callers:=[],status:=.running,dying:=bn }:=⟨⟨_,rfl⟩,λ_ _=>⟨_,_,_,rfl⟩⟩
def px (l:List cq):Gone { frame:=bad.raise l,callers:=[],status:=.running,dying:=bn }:=⟨⟨_,rfl⟩,λ_ _=>⟨_,_,_,rfl⟩⟩
def Ef (β:Cm)(w W:b9):GStep->GStep->Prop
 |.go g w' _,s=>(g.callers=[]/\Gone g)\/∃B8 g2 W' ES,s=.go g2 W' ES/\El P SB H lets BB T B8 g g2/\Fin (SP SB H) (CK P.a SB lets) G β B8 w W w' W' ES.toList
 |.ended _ _ _,_=>True
 |_,_=>False
end
section
variable {P:CL} {SB:bh->Bool} {H:Hid} {lets:Bool} {BB:bh->Bool} {T:List bl} {β B8:Cm} {Gn:Nat}
structure Lib (P:CL)(SB:bh->Bool)(H:Hid)(lets:Bool)(BB:bh->Bool)(Gn:Nat):Prop where
 calls:Kd P (SP SB H) (CK P.a SB lets) Gn
 body:∀f,BB f=bq->∃fn c,P.a.funcs[f]?=bA fn/\fn.body.getD (.refuse "unsupported: a function without a Go body is entered")=c/\codeOk P.a SB lets bq c=bq/\P.fs[f]?=bA fn
 like:∀f,SB f=bq->∃fn Fw,P.a.funcs[f]?=bA fn/\P.fs[f]?=bA Fw/\fn.results=Fw.results
 afW:P.a.globals.size<=Gn
 nm:∀f,SB f=bq->dE P.a f=bk/\dE P.b f=bk
 sub:∀f,BB f=bq->SB f=bq
 bars:∀f,aO SB f=bq->∃fn s,P.a.funcs[f]?=bA fn/\fn.body=bA (.refuse s)
def Dg (L:Lib P SB H lets BB Gn){f:bh}(hf:SB f=bq\/aO SB f=bq){a A:Array df}(h:Ca (SP SB H) β a A)(k:ek)(hk:k≠.early) :
  ED P SB H lets BB β (cw P.a f a k) (cw P.b f A k):=by
 cases hb:BB f with
 |false=>exact .stop hf hb hk h
 |true =>
  obtain⟨fn,c,h1,h2,h3,h4⟩:=L.body f hb;have h4':P.b.funcs[f]?=bA fn:=h4;refine .on ⟨rfl,?_,?_,.nil,.run,rfl,⟨hk,L.sub f hb⟩,.none⟩
  .unfold cw;dsimp only;rw[h.size,h1,h4'];exact h.append (Ca.replicate (.tuple rfl (by simp)) _)
  .unfold cw;simp only[h1,h4',h2,zK,zc];exact .cons (.code h3) .nil
def dY {l L:Nat}(hl:β l L)(hh:H l=bk)(f:bh)(hf:SB f=bq){x X:Array df}(hx:Ca (SP SB H) β x X){yH bo:dn}(h1:codeOk P.a SB lets bk yH=bq)(h2:codeOk P.a SB lets bk bo=bq)(k:ek)(hk:k≠.early) :
  Cq P.a SB H lets β (ez l f x yH bo k) (ez L f X yH bo k) :=
 ⟨rfl,hx,.cons (.code h1) (.cons .beginRound (.cons (.code h2) .nil)),.nil,.run,rfl,⟨hk,hf⟩,.some hl hh⟩
def bj {f F:bl}(h:Cq P.a SB H lets β f F){v V:df}(hv:B6 (SP SB H) β v V):Cq P.a SB H lets β (f.finish v) (F.finish V):=by
 obtain⟨fn,tmps,todo,defers,mode,kind,round⟩:=f;obtain⟨Fw,EW,F7,Eg,IY,My,round'⟩:=F;obtain⟨h1,h2,h3,h4,h5,h6,h7,h8⟩:=h;dsimp only at *;unfold Frame.finish;cases h3 with
 |nil=>exact⟨h1,h2,.nil,h4,h5,h6,h7,h8⟩
 |@cons i I l L hi hl =>
  have QK:Df (Ey P.a SB H lets round.isNone β) (i::l) (I::L):=.cons hi hl;cases hi with
  |inRegion ho =>
   rename_i ops todo;cases todo with
   |nil=>exact⟨h1,h2,QK,h4,h5,h6,h7,h8⟩
   |cons j rest =>
    refine⟨h1,?_,.cons (.inRegion ho) hl,h4,h5,h6,h7,h8⟩;dsimp only;cases(ops[j]?).bind (·.dst) with
    |none=>exact h2
    |some d=>exact h2.set d hv
  |inRangeFunc a b=>exact⟨h1,h2,.cons (.endRangeFunc a b) hl,h4,h5,h6,h7,h8⟩
  |beginRound=>exact⟨h1,h2,hl,h4,h5,h6,h7,h8⟩
  |code c=>exact⟨h1,h2,QK,h4,h5,h6,h7,h8⟩
  |inBlock id=>exact⟨h1,h2,QK,h4,h5,h6,h7,h8⟩
  |inLoop c=>exact⟨h1,h2,QK,h4,h5,h6,h7,h8⟩
  |inScope c=>exact⟨h1,h2,QK,h4,h5,h6,h7,h8⟩
  |endRangeFunc a b=>exact⟨h1,h2,QK,h4,h5,h6,h7,h8⟩
def cI {f F:bl}(h:Cq P.a SB H lets β f F){l L:List cq}(hl:Df (Iy SB H β) l L):Cq P.a SB H lets β (f.raise l) (F.raise L):=by
 obtain⟨fn,tmps,todo,defers,mode,kind,round⟩:=f;obtain⟨Fw,EW,F7,Eg,IY,My,round'⟩:=F;obtain⟨h1,h2,h3,h4,h5,h6,h7,h8⟩:=h;dsimp only at *;unfold Frame.raise;cases h5 with
 |run=>exact⟨h1,h2,h3,h4,.panicking hl,h6,h7,h8⟩
 |returning=>exact⟨h1,h2,h3,h4,.panicking hl,h6,h7,h8⟩
 |panicking hc=>exact⟨h1,h2,h3,h4,.panicking (hl.append hc),h6,h7,h8⟩
def aQ {f F:bl}{cs CS:List bl}(h:Cq P.a SB H lets β f F)(hc:Dz P.a SB H lets T β cs CS) :
  El P SB H lets BB T β { frame:=f,callers:=cs,status:=.running,dying:=bn } { frame:=F,callers:=CS,status:=.running,dying:=bn } :=
 ⟨.on h,hc,⟨rfl,rfl⟩,⟨rfl,rfl⟩,⟨rfl,rfl⟩⟩
def Fin.seen {w W w' W':b9}{ES:List cF}(h:Fin (SP SB H) (CK P.a SB lets) Gn β B8 w W w' W' ES)(fn:bh):Fin (SP SB H) (CK P.a SB lets) Gn β B8 w W w' W' (seen P.b fn ES.toArray).toList :=
 { h with evs:=λht E hE=>h.evs ht E (by have:=mem_seen (p:=P.b) (fn:=fn) (E:=E) (es:=ES.toArray) (by simpa using hE);simpa using this) }
def ia (L:Lib P SB H lets BB Gn){fr FR:bl}{cs CS:List bl}(hf:Cq P.a SB H lets β fr FR)(hc:Dz P.a SB H lets T β cs CS){m M:Sem Next}
  (hm:Cf P (SP SB H) (CK P.a SB lets) Gn β m M (Gk (SP SB H) (CK P.a SB lets))) {w W:b9} {n:Nat} (hw:CV (SP SB H) (CK P.a SB lets) Gn β w W) (ht:JV n w W)
  (hb:(aP (cf P.a bq fr cs bn m w)).drawn<=w.drawn+n) :
  Ef P SB H lets BB T Gn β w W (cf P.a bq fr cs bn m w) (cf P.b bq FR CS bn M W):=by
 have EA:=hm.PR hw #[];have PS:fr.kind=FR.kind:=hf.kind;have QL:(fr.kind==.early)=false:=by simpa using hf.late.1
 have Ri:(FR.kind==.early)=false:=by rw[<-PS];exact QL
 have hE:=hm w W n hw ht #[] #[];have hsome:=λ(a:Next) (w':b9) (es:Array cF) (e:m.runT P.a w #[]=(.ok a w',es))=>hm.some hw e;have hkc:∀ {d:bD} {b:Bool} {r:String} {x:Array df} {k:List er},fr.todo=.call d b r x::k->False:=by
  intro d b r x k h;have:=hf.todo;rw[h] at this;generalize FR.todo=T at this;cases this with
  |cons hi _=>cases hi
 have afX:∀ {d:bD} {b:Bool} {r:String} {x:Array df} {k:List er},FR.todo=.call d b r x::k->False:=by
  intro d b r x k h;have:=hf.todo;rw[h] at this;generalize fr.todo=T at this;cases this with
  |cons hi _=>cases hi
 unfold cf at hb ⊢;simp only[if_true,QL,Ri,zg,if_false] at hb ⊢;rcases hr:m.runT P.a w #[] with⟨r,es⟩
 rw[hr] at hE EA hb;cases r with
 |ok x w' =>
  obtain⟨_,_,hx⟩:=hsome x w' es hr;have KW:w'.drawn<=w.drawn+n:=by cases hx<;>exact hb
  obtain⟨B8,X,W',ES,e1,e2,e3⟩:=hE KW;rw[e1];simp only[zw];have hf':=hf.mono e3.le;have hc':=hc.mono λ_ _ (r:Cq P.a SB H lets β _ _)=>r.mono e3.le;have FC:=e3.seen (P:=P) (SB:=SB) (H:=H) (lets:=lets) FR.fn;cases e2 with
  |value hv=>exact bc ⟨B8,_,W',_,rfl,aQ (bj hf' hv) hc',by simpa using FC⟩
  |skip=>exact bc ⟨B8,_,W',_,rfl,aQ (bj hf' (.tuple rfl (by simp))) hc',by simpa using FC⟩
  |enter hs ha =>
   refine bc ⟨B8,_,W',_,rfl,⟨?_,.cons hf' hc',⟨rfl,rfl⟩,⟨rfl,rfl⟩,⟨rfl,rfl⟩⟩,by simpa using FC⟩;split
   .exact(hkc ‹_›).elim
   .split
    .exact(afX ‹_›).elim
    .exact Dg L hs ha .normal (by simp)
  |round hl hh hx h1 h2=>exact bc ⟨B8,_,W',_,rfl,aQ (dY hl hh.1 _ hh.2 (by assumption) h1 h2 .normal (by simp)) (.cons hf' hc'),by simpa using FC⟩
  |defer hd=>exact bc ⟨B8,_,W',_,rfl,aQ (bj (f:={ fr with defers:=_::fr.defers }) (F:={ FR with defers:=_::FR.defers }) ⟨hf'.fn,hf'.tmps,hf'.todo,.cons hd hf'.defers,hf'.mode,hf'.kind,hf'.late,hf'.round⟩ (.tuple rfl (by simp))) hc',by simpa using FC⟩
 |halt x w' =>
  cases x with
  |panic v =>
   obtain⟨B8,X,W',ES,e1,e2,e3⟩:=hE hb;rw[e1];simp only[zw];have hf':=hf.mono e3.le;have hc':=hc.mono λ_ _ (r:Cq P.a SB H lets β _ _)=>r.mono e3.le;have FC:=e3.seen (P:=P) (SB:=SB) (H:=H) (lets:=lets) FR.fn;exact bc ⟨B8,_,W',_,rfl,aQ (cI hf' (.cons (.mk _ _ e2) .nil)) hc',by simpa using FC⟩
  |stuck s=>trivial
  |unsupported u =>
   cases u with
   |initOrder g=>exact absurd rfl (EA g)
   |_=>trivial
  |_=>exact EA.elim
end
section
variable {P:CL} {S:DT} {Ck:dn->Prop} {G:Nat} {β:Cm}
def me (fn:bh)(hfn:S.fr fn){x X:Array df}(hx:Ca S β x X)(ps:Array Tmp){yH bo:dn}(h1:Ck yH)(h2:Ck bo){o O:Option Nat}(ho:(o=bn/\O=bn)\/∃l L,o=bA l/\O=bA L/\β l L/\S.hid l=bk) :
  Cf P S Ck G β (cE fn x ps yH bo o) (cE fn X ps yH bo O) (λB8 r R=>B8 r.1 R.1/\S.hid r.1=bk/\Df (D5 S B8) r.2 R.2):=by
 have fin : ∀ (B8 : Cm) (d D : Nat) (m M : List bD), β.le B8 -> B8 d D -> S.hid d = bk -> Df (D5 S B8) m M -> Cf P S Ck G B8 (do
   pure (<-newObj (.loop { state:=.ready,pending:=bn,fn,tmps:=x,params:=ps,assign:=yH,body:=bo,defers:=d }),m):Sem (Nat×List bD)) (do
   pure (<-newObj (.loop { state:=.ready,pending:=bn,fn,tmps:=X,params:=ps,assign:=yH,body:=bo,defers:=D }),M):Sem (Nat×List bD)) (λB8 r R=>B8 r.1 R.1/\S.hid r.1=bk/\Df (D5 S B8) r.2 R.2):=by
  intro B8 d D m M hle hd hk hm;refine B4 (jD (.loop ⟨hfn,λc e=>by cases e⟩ h1 h2 (hx.mono hle) hd hk) (λi=>C5.id (S:=S) (Ck:=Ck) i (.loop ⟨hfn,λc e=>by cases e⟩ h1 h2 (hx.mono hle) hd hk) (by simp))) ?_;rintro Dq b B C0 ⟨hb,hb'⟩;exact B5 ⟨hb,hb',hm.mono λ_ _=>D5.mono C0⟩
 unfold cE;rcases ho with⟨rfl,rfl⟩|⟨l,L,rfl,rfl,hl,hk⟩
 .refine B4 (jD (.defs .nil) (λ_=>rfl)) ?_;rintro Dq b B C0 ⟨hb,hb'⟩;refine B4 (B5 (R:=λB8 (a A:Nat×List bD)=>Dq.le B8/\a=(b,[{ target:=.collected b,args:=#[] }])/\A=(B,[{ target:=.collected B,args:=#[] }])) ⟨Dq.le_refl,rfl,rfl⟩) ?_;rintro Eu a A C4 ⟨_,rfl,rfl⟩;exact fin Eu _ _ _ _ (Cm.le_trans C0 C4) (C4 _ _ hb) hb' (.cons (.collected (C4 _ _ hb) hb') .nil)
 .refine B4 (dA hl hk) ?_;rintro Dq r R C0 ⟨_,_,_,_,_,_,_,_,_,_,hd,hdk⟩;refine B4 (B5 (R:=λB8 (a A:Nat×List bD)=>Dq.le B8/\a=(r.defers,[])/\A=(R.defers,[])) ⟨Dq.le_refl,rfl,rfl⟩) ?_;rintro Eu a A C4 ⟨_,rfl,rfl⟩;exact fin Eu _ _ _ _ (Cm.le_trans C0 C4) (C4 _ _ hd) hdk .nil
def kD {β:Cm}{r R:Loop}(h:r.state=R.state/\r.pending=R.pending/\(S.fr r.fn/\∀c,r.pending=bA c->Ck c)/\r.fn=R.fn/\Ca S β r.tmps R.tmps/\r.params=R.params/\r.assign=R.assign/\r.body=R.body/\Ck r.assign/\Ck r.body/\β r.defers R.defers/\S.hid r.defers=bk)
  (st:LoopState) (pe:Option dn) (hp:S.fr r.fn/\∀c,pe=bA c->Ck c):C5 S Ck β (.loop { r with state:=st,pending:=pe }) (.loop { R with state:=st,pending:=pe }):=by
 obtain⟨h1,h2,h3,h4,h5,h6,h7,h8,h9,h10,h11,ZN⟩:=h;rw[<-h4,<-h6,<-h7,<-h8];exact .loop hp h9 h10 h5 h11 ZN
def lL {l L:Nat}(hl:β l L)(hk:S.hid l=bk):Cf P S Ck G β (cr l) (cr L) (λ_ _ _=>True):=by
 refine B4 (dA hl hk) ?_;intro Dq r R C0 h;have hst:=h.1;have hpe:=h.2.1;have ho:=kD h .busy r.pending h.2.2.1;rw[show({ R with state:=LoopState.busy,pending:=r.pending }:Loop)={ R with state:=.busy } from by rw[hpe]] at ho;refine B4 (fv (C0 _ _ hl) hk ho rfl) ?_;intro Eu _ _ _ _;rw[hst];cases R.state with
 |ready=>exact B5 trivial
 |_=>exact ax (.error _) trivial
def nF {l L:Nat}(hl:β l L)(hk:S.hid l=bk)(j:Option dn)(hj:∀c,j=bA c->Ck c):Cf P S Ck G β (br l j) (br L j) (λB8 v V=>B6 S B8 v V):=by
 refine B4 (dA hl hk) ?_;intro Dq r R C0 h;refine B4 (fv (C0 _ _ hl) hk (kD h _ j ⟨h.2.2.1.1,hj⟩) rfl) ?_;intro Eu _ _ _ _;exact B5 (.bool _)
def py {l L:Nat}(hl:β l L)(hk:S.hid l=bk):Cf P S Ck G β (ea l) (ea L) (λ_ a A=>a=A/\∀c,a=bA c->Ck c):=by
 refine B4 (dA hl hk) ?_;intro Dq r R C0 h;have hst:=h.1;have hpe:=h.2.1;have ho:=kD h .exhausted r.pending h.2.2.1;rw[show({ R with state:=LoopState.exhausted,pending:=r.pending }:Loop)={ R with state:=.exhausted } from by rw[hpe]] at ho
 have main : ∀ Eu, Dq.le Eu -> Cf P S Ck G Eu (do
   setObj l (.loop { r with state:=.exhausted })
   pure r.pending:Sem (Option dn)) (do
   setObj L (.loop { R with state:=.exhausted })
   pure R.pending:Sem (Option dn)) (λ_ a A=>a=A/\∀c,a=bA c->Ck c):=by
  intro Eu C4;refine B4 (fv (C4 _ _ (C0 _ _ hl)) hk (ho.mono C4) rfl) ?_;intro Ka _ _ _ _;exact B5 ⟨hpe,h.2.2.1.2⟩
 rw[hst];by_cases hb:(R.state==.busy)=bq
 .simp only[hb,if_true];exact B4 (R:=λ_ _ _=>False) (ax (.error _) trivial) (λ_ _ _ _ h=>h.elim)
 .simp only[hb,if_false,zg];exact main Dq Dq.le_refl
def jI {b B:Nat}(hb:β b B)(hk:S.hid b=bk):Cf P S Ck G β (cK b) (cK B) (λB8 l L=>Df (D5 S B8) l L):=by
 refine B4 (ft hb hk) ?_;intro Eu o O C4 ho;cases ho with
 |defs XU =>
  refine B4 (fv (C4 _ _ hb) hk .taken rfl) ?_;intro Ka _ _ Gi _;exact B5 (XU.mono λ_ _=>D5.mono Gi)
 |_=>exact λ_ _ _ _ _ _ _ _=>trivial
def iW {α γ:Type}{f F:α->Sem γ}{R:Cm->γ->γ->Prop}(hR:∀β B8,β.le B8->∀a A,R β a A->R B8 a A):∀(l:List α) (β:Cm),(∀x∈l,∀B8,β.le B8->Cf P S Ck G B8 (f x) (F x) R) ->
  Cf P S Ck G β (l.mapM f) (l.mapM F) (λB8 a A=>Df (R B8) a A)
 |[],β,_=>by simp only[List.mapM_nil];exact B5 .nil
 |x::l,β,h=>by
  simp only[List.mapM_cons];refine B4 (h x (by simp) β β.le_refl) ?_;intro DJ a A E1 ha;refine B4 (iW hR l DJ λy hy B8 hle=>h y (by simp[hy]) B8 (Cm.le_trans E1 hle)) ?_;intro Dq b B C0 hb;exact B5 (.cons (hR _ _ C0 _ _ ha) hb)
def jJ (fn:Func){x X:Array df}(hx:Ca S β x X):Cf P S Ck G β (results fn x) (results fn X) (λB8 v V=>B6 S B8 v V):=by
 unfold results;rw[A7,A7];have hu:∀β,B6 S β undef undef:=λβ=>.tuple rfl (by simp)
 have h := iW (P := P) (S := S) (Ck := Ck) (G := G) (f := fun (r : ResultVar) => match r with
   |.tmp t=>pure (x.getD t undef)
   |.cell a t=>do loadVar t (<-asAddr (x.getD a undef))) (F:=λ(r:ResultVar)=>match r with
   |.tmp t=>pure (X.getD t undef)
   |.cell a t=>do loadVar t (<-asAddr (X.getD a undef))) (R:=λB8 v V=>B6 S B8 v V) (λ_ _ h _ _ r=>r.mono h) fn.results.toList β (λr _ B8 hle=>by
    cases r with
    |tmp t=>exact B5 ((hx.mono hle).getD t (hu _))
    |cell a t =>
     refine B4 (dX ((hx.mono hle).getD a (hu _))) ?_;intro Dq p Q _ hp
     exact jE t hp)
 refine B4 (R:=λB8 a A=>Ca S B8 a A) ?_ ?_
 .refine B4 h ?_;intro Dq l L _ hl;exact B5 hl.toArray
 .intro Dq v V _ hv;refine B5 ?_;have hs:=hv.size;by_cases h1:v.size=1
  .have h2:V.size=1:=by omega
   rw[dif_pos h1,dif_pos h2];exact hv.at_ 0 _ _ (yS _) (yS _)
  .have h2:¬V.size=1:=by omega
   rw[dif_neg h1,dif_neg h2];exact hv.tuple
end
section
variable {P:CL} {SB:bh->Bool} {H:Hid} {lets:Bool} {BB:bh->Bool} {T:List bl} {β B8:Cm} {Gn:Nat} {main main2:Bool}
def iX {x X:Array df}(h:Ca (SP SB H) β x X)(ops:Array Oper)(j:Nat):yielded ops x j=yielded ops X j:=by
 unfold yielded;cases((ops[j]?).bind (·.dst)) with
 |none=>rfl
 |some d =>
  simp only[zK];cases hx:x[d]? with
  |none=>rw[h.get_none hx]
  |some v =>
   obtain⟨V,hV,hr⟩:=h.get? hx;rw[hV];cases hr with
   |blank _ hb=>cases V<;>first|rfl|(cases hb;done)
   |_=>rfl
def pz {l L:List cq}(h:Df (Iy SB H β) l L):Df (Iy SB H β) (l.dropWhile (!·.goexit)) (L.dropWhile (!·.goexit)):=by
 induction h with
 |nil=>exact .nil
 |@cons a A l L ha hl ih =>
  cases ha with
  |mk r g hv =>
   cases g with
   |false=>simpa using ih
   |true=>simpa using Df.cons (.mk r bq hv) hl
def eW {fr FR:bl}{cs CS:List bl}(hk:fr.kind=FR.kind)(hl:fr.kind≠.early)(hc:Dz P.a SB H lets T β cs CS)(hne:cs≠[]){v V:df}(hv:B6 (SP SB H) β v V){w W w' W':b9}{β0:Cm}{ES:List cF}
  (hf:Fin (SP SB H) (CK P.a SB lets) Gn β0 β w W w' W' ES) (es:Array cF) :
  Ef P SB H lets BB T Gn β0 w W (bw es (bW P.a main fr cs bn v w')) (bw ES.toArray (bW P.b main2 FR CS bn V W')):=by
 cases hc with
 |base =>
  unfold bW;cases fr.kind<;>exact Or.inl ⟨rfl,Rh⟩
 |@cons c C cs CS h1 h2 =>
  unfold bW;rw[<-hk];cases PS:fr.kind with
  |normal=>exact bc ⟨β,_,W',_,rfl,aQ (bj h1 hv) h2,by simpa using hf⟩
  |wrapped=>exact bc ⟨β,_,W',_,rfl,aQ (bj h1 hv) h2,by simpa using hf⟩
  |early=>exact absurd PS hl
  |_ =>
   refine bc ⟨β,_,W',_,rfl,aQ ?_ h2,by simpa using hf⟩;obtain⟨fn,tmps,todo,defers,mode,kind,round⟩:=c;obtain⟨Fw,EW,F7,Eg,IY,My,round'⟩:=C;obtain⟨a1,a2,a3,a4,a5,a6,a7,a8⟩:=h1;dsimp only at *;cases a5 with
   |run=>exact⟨a1,a2,a3,a4,.run,a6,a7,a8⟩
   |returning=>exact⟨a1,a2,a3,a4,.returning,a6,a7,a8⟩
   |panicking hch =>
    cases hch with
    |nil=>exact⟨a1,a2,a3,a4,.panicking .nil,a6,a7,a8⟩
    |@cons p Q l L hp hl =>
     cases hp with
     |mk r g hv' =>
      cases r with
      |false=>exact⟨a1,a2,a3,a4,.panicking (.cons (.mk bk g hv') hl),a6,a7,a8⟩
      |true =>
       have:=pz hl;dsimp only;revert this;generalize l.dropWhile (!·.goexit)=d;generalize L.dropWhile (!·.goexit)=D;intro hd;cases hd with
       |nil=>exact⟨a1,a2,a3,a4,.returning,a6,a7,a8⟩
       |cons x y=>exact⟨a1,a2,a3,a4,.panicking (.cons x y),a6,a7,a8⟩
def ck (L:Lib P SB H lets BB Gn){fr FR:bl}{cs CS:List bl}(hf:Cq P.a SB H lets β fr FR)(hc:Dz P.a SB H lets T β cs CS){d D:bD}(hd:D5 (SP SB H) β d D){w W:b9}{n:Nat}(hw:CV (SP SB H) (CK P.a SB lets) Gn β w W)(ht:JV n w W)
  (hb:(aP (c0 P.a fr cs bn d w)).drawn<=w.drawn+n) :
  Ef P SB H lets BB T Gn β w W (c0 P.a fr cs bn d w) (c0 P.b FR CS bn D W):=by
 have hm:=gY L.calls hd;have hE:=hm w W n hw ht #[] #[];have EA:=hm.PR hw #[];have hsome:=λ(a:Next) (w':b9) (es:Array cF) (e:(invoke d.target d.args).runT P.a w #[]=(.ok a w',es))=>hm.some hw e;unfold c0 at hb ⊢;cases hd with
 |@fn Ux fn2 XV Oc ar1 ar2 a b c =>
  simp only[Aa,zg,if_false] at hb ⊢;dsimp only at hE hsome;rcases hr2:(invoke (Target.fn Ux XV) ar1).runT P.a w #[] with⟨r,es⟩
  simp only[hr2] at hb hE EA ⊢;cases r with
  |ok x w' =>
   obtain⟨_,_,hx⟩:=hsome x w' es hr2;have KW:w'.drawn<=w.drawn+n:=by cases hx<;>exact hb
   obtain⟨B8,X,W',ES,e1,e2,e3⟩:=hE KW;simp only[e1,zw];have hf':=hf.mono e3.le;have hc':=hc.mono λ_ _ (r:Cq P.a SB H lets β _ _)=>r.mono e3.le;have FC:=e3.seen (P:=P) (SB:=SB) (H:=H) (lets:=lets) FR.fn;cases e2 with
   |value hv=>exact bc ⟨B8,_,W',_,rfl,aQ hf' hc',by simpa using FC⟩
   |skip=>exact bc ⟨B8,_,W',_,rfl,aQ hf' hc',by simpa using FC⟩
   |enter hs ha=>exact bc ⟨B8,_,W',_,rfl,⟨Dg L hs ha .deferred (by simp),.cons hf' hc',⟨rfl,rfl⟩,⟨rfl,rfl⟩,⟨rfl,rfl⟩⟩,by simpa using FC⟩
   |round hl hh hx h1 h2=>exact bc ⟨B8,_,W',_,rfl,aQ (dY hl hh.1 _ hh.2 (by assumption) h1 h2 .deferred (by simp)) (.cons hf' hc'),by simpa using FC⟩
   |defer hd=>exact bc ⟨B8,_,W',_,rfl,aQ hf' hc',by simpa using FC⟩
  |halt x w' =>
   cases x with
   |panic v =>
    obtain⟨B8,X,W',ES,e1,e2,e3⟩:=hE hb;simp only[e1,zw];have hf':=hf.mono e3.le;have hc':=hc.mono λ_ _ (r:Cq P.a SB H lets β _ _)=>r.mono e3.le;have FC:=e3.seen (P:=P) (SB:=SB) (H:=H) (lets:=lets) FR.fn;exact bc ⟨B8,_,W',_,rfl,aQ (cI hf' (.cons (.mk _ _ e2) .nil)) hc',by simpa using FC⟩
   |stuck s=>trivial
   |unsupported u=>trivial
   |_=>exact EA.elim
 |C3 a A h1 h2 h3 =>
  subst h2;have hq:=iU L.calls.big a w #[];unfold hd at hq ⊢;simp only[Aa,zg,if_false] at hq ⊢;rcases hq with⟨s,w',es',e⟩|⟨u,w',es',e,_⟩
  .simp only[e];trivial
  .simp only[e];trivial
 |@collected r1 r2 a b =>
  simp only[Aa,zg,if_false] at hb ⊢;dsimp only at hE hsome;rcases hr2:(invoke (Target.collected r1) #[]).runT P.a w #[] with⟨r,es⟩
  simp only[hr2] at hb hE EA ⊢;cases r with
  |ok x w' =>
   obtain⟨_,_,hx⟩:=hsome x w' es hr2;have KW:w'.drawn<=w.drawn+n:=by cases hx<;>exact hb
   obtain⟨B8,X,W',ES,e1,e2,e3⟩:=hE KW;simp only[e1,zw];have hf':=hf.mono e3.le;have hc':=hc.mono λ_ _ (r:Cq P.a SB H lets β _ _)=>r.mono e3.le;have FC:=e3.seen (P:=P) (SB:=SB) (H:=H) (lets:=lets) FR.fn;cases e2 with
   |value hv=>exact bc ⟨B8,_,W',_,rfl,aQ hf' hc',by simpa using FC⟩
   |skip=>exact bc ⟨B8,_,W',_,rfl,aQ hf' hc',by simpa using FC⟩
   |enter hs ha=>exact bc ⟨B8,_,W',_,rfl,⟨Dg L hs ha .deferred (by simp),.cons hf' hc',⟨rfl,rfl⟩,⟨rfl,rfl⟩,⟨rfl,rfl⟩⟩,by simpa using FC⟩
   |round hl hh hx h1 h2=>exact bc ⟨B8,_,W',_,rfl,aQ (dY hl hh.1 _ hh.2 (by assumption) h1 h2 .deferred (by simp)) (.cons hf' hc'),by simpa using FC⟩
   |defer hd=>exact bc ⟨B8,_,W',_,rfl,aQ hf' hc',by simpa using FC⟩
  |halt x w' =>
   cases x with
   |panic v =>
    obtain⟨B8,X,W',ES,e1,e2,e3⟩:=hE hb;simp only[e1,zw];have hf':=hf.mono e3.le;have hc':=hc.mono λ_ _ (r:Cq P.a SB H lets β _ _)=>r.mono e3.le;have FC:=e3.seen (P:=P) (SB:=SB) (H:=H) (lets:=lets) FR.fn;exact bc ⟨B8,_,W',_,rfl,aQ (cI hf' (.cons (.mk _ _ e2) .nil)) hc',by simpa using FC⟩
   |stuck s=>trivial
   |unsupported u=>trivial
   |_=>exact EA.elim
 |@nil ar1 ar2 a =>
  have Cx:=hf.mode;cases hm:fr.mode with
  |panicking l =>
   simp only[Bool.and_self,if_true];trivial
  |run =>
   have hM:FR.mode=.run:=by
    rw[hm] at Cx;generalize FR.mode=q at Cx;cases Cx;rfl
   simp only[hm,hM,Ak,zg,if_false] at hb ⊢;dsimp only at hE hsome;rcases hr2:(invoke Target.nil ar1).runT P.a w #[] with⟨r,es⟩
   simp only[hr2] at hb hE EA ⊢;cases r with
   |ok x w' =>
    obtain⟨_,_,hx⟩:=hsome x w' es hr2;have KW:w'.drawn<=w.drawn+n:=by cases hx<;>exact hb
    obtain⟨B8,X,W',ES,e1,e2,e3⟩:=hE KW;simp only[e1,zw];have hf':=hf.mono e3.le;have hc':=hc.mono λ_ _ (r:Cq P.a SB H lets β _ _)=>r.mono e3.le;have FC:=e3.seen (P:=P) (SB:=SB) (H:=H) (lets:=lets) FR.fn;cases e2 with
    |value hv=>exact bc ⟨B8,_,W',_,rfl,aQ hf' hc',by simpa using FC⟩
    |skip=>exact bc ⟨B8,_,W',_,rfl,aQ hf' hc',by simpa using FC⟩
    |enter hs ha=>exact bc ⟨B8,_,W',_,rfl,⟨Dg L hs ha .deferred (by simp),.cons hf' hc',⟨rfl,rfl⟩,⟨rfl,rfl⟩,⟨rfl,rfl⟩⟩,by simpa using FC⟩
    |round hl hh hx h1 h2=>exact bc ⟨B8,_,W',_,rfl,aQ (dY hl hh.1 _ hh.2 (by assumption) h1 h2 .deferred (by simp)) (.cons hf' hc'),by simpa using FC⟩
    |defer hd=>exact bc ⟨B8,_,W',_,rfl,aQ hf' hc',by simpa using FC⟩
   |halt x w' =>
    cases x with
    |panic v =>
     obtain⟨B8,X,W',ES,e1,e2,e3⟩:=hE hb;simp only[e1,zw];have hf':=hf.mono e3.le;have hc':=hc.mono λ_ _ (r:Cq P.a SB H lets β _ _)=>r.mono e3.le;have FC:=e3.seen (P:=P) (SB:=SB) (H:=H) (lets:=lets) FR.fn;exact bc ⟨B8,_,W',_,rfl,aQ (cI hf' (.cons (.mk _ _ e2) .nil)) hc',by simpa using FC⟩
    |stuck s=>trivial
     |unsupported u=>trivial
    |_=>exact EA.elim
  |returning =>
   have hM:FR.mode=.returning:=by
    rw[hm] at Cx;generalize FR.mode=q at Cx;cases Cx;rfl
   simp only[hm,hM,Ak,zg,if_false] at hb ⊢;dsimp only at hE hsome;rcases hr2:(invoke Target.nil ar1).runT P.a w #[] with⟨r,es⟩
   simp only[hr2] at hb hE EA ⊢;cases r with
   |ok x w' =>
    obtain⟨_,_,hx⟩:=hsome x w' es hr2;have KW:w'.drawn<=w.drawn+n:=by cases hx<;>exact hb
    obtain⟨B8,X,W',ES,e1,e2,e3⟩:=hE KW;simp only[e1,zw];have hf':=hf.mono e3.le;have hc':=hc.mono λ_ _ (r:Cq P.a SB H lets β _ _)=>r.mono e3.le;have FC:=e3.seen (P:=P) (SB:=SB) (H:=H) (lets:=lets) FR.fn;cases e2 with
    |value hv=>exact bc ⟨B8,_,W',_,rfl,aQ hf' hc',by simpa using FC⟩
    |skip=>exact bc ⟨B8,_,W',_,rfl,aQ hf' hc',by simpa using FC⟩
    |enter hs ha=>exact bc ⟨B8,_,W',_,rfl,⟨Dg L hs ha .deferred (by simp),.cons hf' hc',⟨rfl,rfl⟩,⟨rfl,rfl⟩,⟨rfl,rfl⟩⟩,by simpa using FC⟩
    |round hl hh hx h1 h2=>exact bc ⟨B8,_,W',_,rfl,aQ (dY hl hh.1 _ hh.2 (by assumption) h1 h2 .deferred (by simp)) (.cons hf' hc'),by simpa using FC⟩
    |defer hd=>exact bc ⟨B8,_,W',_,rfl,aQ hf' hc',by simpa using FC⟩
   |halt x w' =>
    cases x with
    |panic v =>
     obtain⟨B8,X,W',ES,e1,e2,e3⟩:=hE hb;simp only[e1,zw];have hf':=hf.mono e3.le;have hc':=hc.mono λ_ _ (r:Cq P.a SB H lets β _ _)=>r.mono e3.le;have FC:=e3.seen (P:=P) (SB:=SB) (H:=H) (lets:=lets) FR.fn;exact bc ⟨B8,_,W',_,rfl,aQ (cI hf' (.cons (.mk _ _ e2) .nil)) hc',by simpa using FC⟩
    |stuck s=>trivial
     |unsupported u=>trivial
    |_=>exact EA.elim
def jK (L:Lib P SB H lets BB Gn){fr FR:bl}{cs CS:List bl}(hf:Cq P.a SB H lets β fr FR)(hc:Dz P.a SB H lets T β cs CS){w W:b9}{n:Nat}(hw:CV (SP SB H) (CK P.a SB lets) Gn β w W)(ht:JV n w W)
  (hb:(aP (unwind P.a main fr cs bn w)).drawn<=w.drawn+n) :
  Ef P SB H lets BB T Gn β w W (unwind P.a main fr cs bn w) (unwind P.b main2 FR CS bn W):=by
 obtain⟨fn,tmps,todo,defers,mode,kind,round⟩:=fr;obtain⟨Fw,EW,F7,Eg,IY,My,round'⟩:=FR;obtain⟨a1,a2,a3,a4,a5,a6,a7,a8⟩:=hf;dsimp only at a1 a2 a3 a4 a5 a6 a7 a8;subst a1 a6;cases a4 with
 |@cons d D ds DS hd XU =>
  have hf':Cq P.a SB H lets β ⟨fn,tmps,todo,ds,mode,kind,round⟩ ⟨fn,EW,F7,DS,IY,kind,round'⟩:=⟨rfl,a2,a3,XU,a5,rfl,a7,a8⟩;cases hd with
  |fn x y z=>exact ck L hf' hc (.fn x y z) hw ht hb
  |nil x=>exact ck L hf' hc (.nil x) hw ht hb
  |C3 a A h1 h2 h3 =>
   subst h2;rcases h3 with rfl|⟨h3,n,c,x,rfl⟩
   .exact ck L hf' hc (.C3 a A h1 rfl (.inl rfl)) hw ht hb
   .exact ck L hf' hc (.C3 a A h1 rfl (.inr ⟨h3,n,c,x,rfl⟩)) hw ht hb
  |@collected r1 r2 x y =>
   have hm:=jI (P:=P) (Ck:=CK P.a SB lets) (G:=Gn) (S:=SP SB H) x y;have hE:=hm w W n hw ht #[] #[];have EA:=hm.PR hw #[];unfold unwind at hb ⊢;dsimp only at hb ⊢;rcases hr:(cK r1).runT P.a w #[] with⟨r,es⟩
   rw[hr] at hb hE EA;cases r with
   |ok l w' =>
    obtain⟨B8,X,W',ES,e1,e2,e3⟩:=hE hb;simp only[e1,zw];have hf2:=hf'.mono e3.le;have hc':=hc.mono λ_ _ (r:Cq P.a SB H lets β _ _)=>r.mono e3.le;have FC:=e3.seen (P:=P) (SB:=SB) (H:=H) (lets:=lets) fn;exact bc ⟨B8,_,W',_,rfl,aQ ⟨rfl,hf2.tmps,hf2.todo,e2.append hf2.defers,hf2.mode,rfl,a7,hf2.round⟩ hc',by simpa using FC⟩
   |halt x w'=>trivial
 |nil =>
  cases a5 with
  |run=>trivial
  |@panicking ch CH hch =>
   unfold unwind;dsimp only;obtain⟨f,f',g1,g2,_⟩:=L.like fn a7.2;have H5:P.b.funcs[fn]?=bA f':=g2;have q1:cU P.a ⟨fn,tmps,todo,[],.panicking ch,kind,round⟩=false:=by
    unfold cU;dsimp only;rw[g1]
   have q2:cU P.b ⟨fn,EW,F7,[],.panicking CH,kind,round'⟩=false:=by
    unfold cU;dsimp only;rw[H5]
   simp only[q1,q2,zg,if_false];cases hc with
   |base=>exact Or.inl ⟨rfl,px _⟩
   |cons h1 h2=>exact bc ⟨β,_,W,_,rfl,aQ (cI h1 hch) h2,by simpa using Fin.refl hw⟩
  |returning =>
   have hne:cs≠[]:=hc.ne;unfold unwind at hb ⊢;dsimp only at hb ⊢;obtain⟨f,f',g1,g2,g3⟩:=L.like fn a7.2;have H5:P.b.funcs[fn]?=bA f':=g2;have g4:results f' EW=results f EW:=by unfold results;rw[g3]
   have hm:=jJ (P:=P) (Ck:=CK P.a SB lets) (G:=Gn) (S:=SP SB H) f a2;have hE:=hm w W n hw ht #[] #[];have EA:=hm.PR hw #[];rw[g1] at hb ⊢;rw[H5];dsimp only at hb ⊢;rw[g4];rcases hr:(results f tmps).runT P.a w #[] with⟨r,es⟩
   rw[hr] at hb hE EA;cases r with
   |ok v w' =>
    have KW:w'.drawn<=w.drawn+n:=by
     have:∀cs,(aP (bw (seen P.a fn es) (bW P.a main ⟨fn,tmps,todo,[],.returning,kind,round⟩ cs bn v w')))=w'\/cs=[]:=by
      intro cs;cases cs with
      |nil=>exact .inr rfl
      |cons c cs =>
       refine .inl ?_;unfold bW;cases kind<;>rfl
     rcases this cs with h|h
     .rw[<-h];exact hb
     .exact absurd h hne
    obtain⟨B8,X,W',ES,e1,e2,e3⟩:=hE KW;simp only[e1,zw];have hc':=hc.mono λ_ _ (r:Cq P.a SB H lets β _ _)=>r.mono e3.le;have FC:=e3.seen (P:=P) (SB:=SB) (H:=H) (lets:=lets) fn;have:=eW (P:=P) (main:=main) (main2:=main2) (BB:=BB) (fr:=⟨fn,tmps,todo,[],.returning,kind,round⟩) (FR:=⟨fn,EW,F7,[],.returning,kind,round'⟩) rfl a7.1 hc' hne e2 FC (seen P.a fn es);simpa using this
   |halt x w'=>cases x<;>trivial
end
section
variable {P:CL} {SB:bh->Bool} {H:Hid} {lets:Bool} {BB:bh->Bool} {T:List bl} {β B8:Cm} {Gn:Nat} {main main2:Bool}
def bK {ad:Bool}:∀ {c:dn},codeOk P.a SB lets bk c=bq->codeOk P.a SB lets ad c=bq
 |.skip,_|.exit _,_|.label _,_|.goto _,_|.ret,_|.refuse _,_=>rfl
 |.region _ ops _,h=>by
  cases ad with
  |false=>exact h
  |true =>
   simp only[codeOk,yY,zh] at h ⊢;refine⟨?_,h.2⟩;intro o ho;have:=h.1 o ho;unfold cv at this ⊢;simp only[zk,yY] at this ⊢;rcases this with h1|h1
   .exact .inl ⟨h1.1,.inl trivial⟩
   .exact .inr h1
 |.seq a b,h=>by
  simp only[codeOk,yY] at h ⊢;exact⟨bK h.1,bK h.2⟩
 |.cond c a b,h=>by
  simp only[codeOk,yY] at h ⊢;exact⟨⟨h.1.1,bK h.1.2⟩,bK h.2⟩
 |.block _ b,h=>by simp only[codeOk] at h ⊢;exact bK h
 |.loop b,h=>by simp only[codeOk] at h ⊢;exact bK h
 |.scope b,h=>by simp only[codeOk] at h ⊢;exact bK h
 |.rangeFunc f ps yH bo,h=>by simp only[codeOk] at h ⊢;exact h
def O9 (p:bs)(SB:bh->Bool)(fr:bl):Prop:=∀o,fr.oper?=bA o->Kk p SB o.op=bk
def qP {o O:Option Nat}(h:F6 H β o O):o.isNone=O.isNone:=by cases h<;>rfl
section
variable {fn:bh} {tmps EW:Array df} {todo F7:List er} {defers Eg:List bD} {kind:ek} {round round':Option Nat} {cs CS:List bl} {w W:b9} {n:Nat}
def bz {mode IY:dr}(a2:Ca (SP SB H) β tmps EW)(a3:Df (Ey P.a SB H lets round.isNone β) todo F7)(a4:Df (D5 (SP SB H) β) defers Eg)(a5:IX SB H β mode IY)(a7:kind≠.early/\SB fn=bq)(a8:F6 H β round round')
  (hc:Dz P.a SB H lets T β cs CS) (hw:CV (SP SB H) (CK P.a SB lets) Gn β w W) :
  Ef P SB H lets BB T Gn β w W (.go { frame:=⟨fn,tmps,todo,defers,mode,kind,round⟩,callers:=cs,status:=.running,dying:=bn } w #[]) (.go { frame:=⟨fn,EW,F7,Eg,IY,kind,round'⟩,callers:=CS,status:=.running,dying:=bn } W #[]) :=
 bc ⟨β,_,W,_,rfl,aQ ⟨rfl,a2,a3,a4,a5,rfl,a7,a8⟩ hc,by simpa using Fin.refl hw⟩
def dF (j:Option dn)(hj:∀c,j=bA c->codeOk P.a SB lets bk c=bq)(a7:kind≠.early/\SB fn=bq){l L:Nat}(hl:β l L)(hh:H l=bk)
  (hc:Dz P.a SB H lets T β cs CS) (hne:cs≠[]) (hw:CV (SP SB H) (CK P.a SB lets) Gn β w W) (ht:JV n w W)
  (hb : (aP (bw (seen P.a fn ((br l j).runT P.a w #[]).2) (match ((br l j).runT P.a w #[]).1 with
    |.ok v w=>bW P.a main ⟨fn,tmps,todo,defers,.run,kind,round⟩ cs bn v w
    |.halt _ w=>.ended (.stuck "range over a function: no such loop" (eo P.a ⟨fn,tmps,todo,defers,.run,kind,round⟩)) w))).drawn<=w.drawn+n) :
  Ef P SB H lets BB T Gn β w W (bw (seen P.a fn ((br l j).runT P.a w #[]).2) (match ((br l j).runT P.a w #[]).1 with
    |.ok v w=>bW P.a main ⟨fn,tmps,todo,defers,.run,kind,round⟩ cs bn v w
    |.halt _ w=>.ended (.stuck "range over a function: no such loop" (eo P.a ⟨fn,tmps,todo,defers,.run,kind,round⟩)) w))
   (bw (seen P.b fn ((br L j).runT P.b W #[]).2) (match((br L j).runT P.b W #[]).1 with
    |.ok v w=>bW P.b main2 ⟨fn,EW,F7,Eg,.run,kind,round'⟩ CS bn v w
    |.halt _ w=>.ended (.stuck "range over a function: no such loop" (eo P.b ⟨fn,EW,F7,Eg,.run,kind,round'⟩)) w)):=by
 have hm:=nF (P:=P) (Ck:=CK P.a SB lets) (G:=Gn) (S:=SP SB H) hl hh j hj;have hE:=hm w W n hw ht #[] #[];rcases hr:(br l j).runT P.a w #[] with⟨r,es⟩
 rw[hr] at hb hE;cases r with
 |ok v w' =>
  have KW:w'.drawn<=w.drawn+n:=by
   have:∀cs,(aP (bw (seen P.a fn es) (bW P.a main ⟨fn,tmps,todo,defers,.run,kind,round⟩ cs bn v w')))=w'\/cs=[]:=by
    intro cs;cases cs with
    |nil=>exact .inr rfl
    |cons c cs =>
     refine .inl ?_;unfold bW;cases kind<;>rfl
   rcases this cs with h|h
   .rw[<-h];exact hb
   .exact absurd h hne
  obtain⟨B8,X,W',ES,e1,e2,e3⟩:=hE KW;simp only[e1,zw];have hc':=hc.mono λ_ _ (r:Cq P.a SB H lets β _ _)=>r.mono e3.le;have FC:=e3.seen (P:=P) (SB:=SB) (H:=H) (lets:=lets) fn;have:=eW (P:=P) (main:=main) (main2:=main2) (BB:=BB) (fr:=⟨fn,tmps,todo,defers,.run,kind,round⟩) (FR:=⟨fn,EW,F7,Eg,.run,kind,round'⟩) rfl a7.1 hc' hne e2 FC (seen P.a fn es);simpa using this
 |halt x w'=>trivial
end
def _root_.Go.Ct.Cf.aa3 {S:DT}{Ck:dn->Prop}{α FK:Type}{m:Sem α}{M:Sem FK}{R:Cm->α->FK->Prop}(h:Cf P S Ck Gn β m M R){w W:b9}(hw:CV S Ck Gn β w W){Dt es:Array cF}{a:α}{w':b9}(hr:m.runT P.a w Dt=(.ok a w',es)):∃B8 A W',R B8 a A/\β.le B8/\CV S Ck Gn B8 w' W':=by
 have hw':CV S Ck Gn β w { W with tape:=λi q=>w.tape (w.drawn+(i-W.drawn)) q }:=⟨hw.DG,hw.room,hw.D8,hw.Ej,hw.old,hw.env⟩
 have:=h w { W with tape:=λi q=>w.tape (w.drawn+(i-W.drawn)) q } ((world (m.runT P.a w Dt).1).drawn-w.drawn) hw' (λi _ q=>by
  show w.tape (w.drawn+i) q=w.tape (w.drawn+(W.drawn+i-W.drawn)) q
  rw[show W.drawn+i-W.drawn=i from by omega]) Dt #[] (by omega)
 rw[hr] at this;obtain⟨B8,A,W',_,_,h,hf⟩:=this;exact⟨B8,A,W',h,hf.le,hf.rel⟩
def nG {fr:bl}{cs:List bl}{m M:Sem Next}(hm:Cf P (SP SB H) (CK P.a SB lets) Gn β m M (Gk (SP SB H) (CK P.a SB lets))){w W:b9}(hw:CV (SP SB H) (CK P.a SB lets) Gn β w W) :
  w.drawn<=(aP (cf P.a bq fr cs bn m w)).drawn:=by
 have h0:=EM P.a m w #[];have EA:=hm.PR hw #[];have hsome:=λ(a:Next) (w':b9) (es:Array cF) (e:m.runT P.a w #[]=(.ok a w',es))=>hm.some hw e;unfold cf;simp only[if_true];rcases hr:m.runT P.a w #[] with⟨r,es⟩
 rw[hr] at EA h0;cases r with
 |ok x w' =>
  obtain⟨_,_,hx⟩:=hsome x w' es hr;cases hx<;>exact h0
 |halt x w' =>
  cases x with
  |panic v=>exact h0
  |stuck s=>exact h0
  |unsupported u =>
   cases u with
   |initOrder g=>exact absurd rfl (EA g)
   |_=>exact h0
  |_=>exact EA.elim
def Ef.after {w W w' W':b9}{ES:List cF}(hf:Fin (SP SB H) (CK P.a SB lets) Gn β B8 w W w' W' ES){s S:GStep}(h:Ef P SB H lets BB T Gn B8 w' W' s S)(es:Array cF):Ef P SB H lets BB T Gn β w W (bw es s) (bw ES.toArray S):=by
 cases s with
 |go g w2 es2 =>
  rcases h with h|⟨Dq,g2,W2,ES2,rfl,h2,h3⟩
  .exact Or.inl h
  refine bc ⟨Dq,g2,W2,_,rfl,h2,?_⟩;have:=hf.trans h3;simpa using this
 |ended o w es=>trivial
 |_=>exact h.elim
def sT (L:Lib P SB H lets BB Gn){fr FR:bl}{cs CS:List bl}(hf:Cq P.a SB H lets β fr FR)(hm:fr.mode=.run)(hc:Dz P.a SB H lets T β cs CS)(hgo:O9 P.a SB fr){w W:b9}{n:Nat}(hw:CV (SP SB H) (CK P.a SB lets) Gn β w W)(ht:JV n w W)
  (hb:(aP (bb P.a main bq fr cs bn w)).drawn<=w.drawn+n) :
  Ef P SB H lets BB T Gn β w W (bb P.a main bq fr cs bn w) (bb P.b main2 bq FR CS bn W):=by
 obtain⟨fn,tmps,todo,defers,mode,kind,round⟩:=fr;obtain⟨Fw,EW,F7,Eg,IY,My,round'⟩:=FR;have Gx:=hf;obtain⟨a1,a2,a3,a4,a5,a6,a7,a8⟩:=hf;dsimp only at a1 a2 a3 a4 a5 a6 a7 a8 hm;subst a1 a6 hm;cases a5;cases a3 with
 |nil =>
  cases a8 with
  |none =>
   simp only[bb] at hb ⊢;exact bz a2 .nil a4 .returning a7 .none hc hw
  |@some l L' hl hh =>
   have hne:cs≠[]:=hc.ne;simp only[bb] at hb ⊢;exact dF bn (λc e=>by cases e) a7 hl hh hc hne hw ht hb
 |@cons i I l L' hi hl =>
  cases hi with
  |@code c Ic =>
   have leave : ∀ (j : Option dn), (∀ c, j = bA c -> codeOk P.a SB lets bk c = bq) -> (∀ c, j = bA c -> c ≠ .ret -> round ≠ bn) ->
     bb P.a main bq ⟨fn,tmps,.code c::l,defers,.run,kind,round⟩ cs bn w=bb P.a main bq ⟨fn,tmps,.code c::l,defers,.run,kind,round⟩ cs bn w->True:=λ_ _ _ _=>trivial
   cases c with
   |skip=>exact bz a2 hl a4 .run a7 a8 hc hw
   |label l0=>exact bz a2 hl a4 .run a7 a8 hc hw
   |refuse s=>trivial
   |ret =>
    cases a8 with
    |none=>exact bz a2 (.cons (.code Ic) hl) a4 .returning a7 .none hc hw
    |@some l0 L0 hl0 hh =>
     have hne:cs≠[]:=hc.ne;exact dF (bA .ret) (λc e=>by cases e;rfl) a7 hl0 hh hc hne hw ht hb
   |seq a b =>
    simp only[codeOk,yY] at Ic;exact bz a2 (.cons (.code Ic.1) (.cons (.code Ic.2) hl)) a4 .run a7 a8 hc hw
   |cond x a b =>
    simp only[codeOk,yY] at Ic;have hx:=Gx.eval Ic.1.1;simp only[bb] at hb ⊢;revert hx;generalize b8 ⟨fn,tmps,.code (.cond x a b)::l,defers,.run,kind,round⟩ x=v;generalize b8 ⟨fn,EW,.code (.cond x a b)::L',Eg,.run,kind,round'⟩ x=V;intro hx;cases hx with
    |bool t =>
     cases t with
     |true=>exact bz a2 (.cons (.code Ic.1.2) hl) a4 .run a7 a8 hc hw
     |false=>exact bz a2 (.cons (.code Ic.2) hl) a4 .run a7 a8 hc hw
    |_=>trivial
   |block id b=>exact bz a2 (.cons (.code Ic) (.cons (.inBlock id) hl)) a4 .run a7 a8 hc hw
   |loop b=>exact bz a2 (.cons (.code Ic) (.cons (.inLoop Ic) hl)) a4 .run a7 a8 hc hw
   |scope b=>exact bz a2 (.cons (.code Ic) (.cons (.inScope Ic) hl)) a4 .run a7 a8 hc hw
   |exit id =>
    rcases Oa id hl with⟨e1,e2⟩|⟨k,K,e1,e2,hk⟩
    .cases a8 with
     |none=>simp only[bb,e1,cu];trivial
     |@some l0 L0 hl0 hh =>
      have hne:cs≠[]:=hc.ne;simp only[bb,e1,e2,cu] at hb ⊢;exact dF (bA (.exit id)) (λc e=>by cases e;rfl) a7 hl0 hh hc hne hw ht hb
    .simp only[bb,e1,e2,ed];exact bz a2 hk a4 .run a7 a8 hc hw
   |goto l1 =>
    rcases Ob l1 hl with⟨e1,e2⟩|⟨k,K,e1,e2,hk⟩
    .cases a8 with
     |none=>simp only[bb,e1,cu];trivial
     |@some l0 L0 hl0 hh =>
      have hne:cs≠[]:=hc.ne;simp only[bb,e1,e2,cu] at hb ⊢;exact dF (bA (.goto l1)) (λc e=>by cases e;rfl) a7 hl0 hh hc hne hw ht hb
    .simp only[bb,e1,e2,ed];exact bz a2 hk a4 .run a7 a8 hc hw
   |rangeFunc f ps yH bo =>
    simp only[codeOk,yY] at Ic;have ho:(round=bn/\round'=bn)\/∃l L,round=bA l/\round'=bA L/\β l L/\(SP SB H).hid l=false:=by
     cases a8 with
     |none=>exact .inl ⟨rfl,rfl⟩
     |some x y=>exact .inr ⟨_,_,rfl,rfl,x,y⟩
    have hm:=me (P:=P) (Ck:=CK P.a SB lets) (G:=Gn) (S:=SP SB H) fn a7.2 a2 ps Ic.1.2 Ic.2 ho;have hE:=hm w W n hw ht #[] #[];simp only[bb] at hb ⊢;rcases hr:(cE fn tmps ps yH bo round).runT P.a w #[] with⟨r,es⟩
    rw[hr] at hb hE;cases r with
    |ok x w' =>
     obtain⟨l0,mark⟩:=x;have next : ∀ (B8 : Cm) (l0 L0 : Nat), β.le B8 -> B8 l0 L0 -> H l0 = bk -> ∀ (m M : List bD),
       Cf P (SP SB H) (CK P.a SB lets) Gn B8 (do
        let d<-resolve (b8 ⟨fn,tmps,.inRangeFunc l0::l,m++defers,.run,kind,round⟩) { callee:=.value f,args:=#[.const (.func (.yield l0) #[] #[])],argTypes:=#[] } 0
        invoke d.target d.args) (do
        let d<-resolve (b8 ⟨fn,EW,.inRangeFunc L0::L',M++Eg,.run,kind,round'⟩) { callee:=.value f,args:=#[.const (.func (.yield L0) #[] #[])],argTypes:=#[] } 0
        invoke d.target d.args) (Gk (SP SB H) (CK P.a SB lets)):=by
      intro B8 l0 L0 hle hl0 hh0 m M;unfold resolve;dsimp only;have hx:B6 (SP SB H) B8 (b8 ⟨fn,tmps,.inRangeFunc l0::l,m++defers,.run,kind,round⟩ f) (b8 ⟨fn,EW,.inRangeFunc L0::L',M++Eg,.run,kind,round'⟩ f):=by
       have:=(Gx.eval Ic.1.1).mono hle;cases f with
       |tmp t=>exact this
       |const v=>exact this
       |global g=>exact this
       |func g=>exact this
      refine B4 (gf hx ?_) ?_
      .simp only[AA,Ae,Ag,b8];exact Ca.one (.func (.yield hl0 hh0) rfl (by simp) rfl (by simp))
      .intro Dq d D _ hd;exact gY L.calls hd
     obtain⟨DJ,⟨L1,M1⟩,W1,hx1,QL,F0⟩:=hm.aa3 hw hr;have hd:=nG (fr:=⟨fn,tmps,.inRangeFunc l0::l,mark++defers,.run,kind,round⟩) (cs:=cs) (next DJ l0 L1 QL hx1.1 hx1.2.1 mark M1) F0;have KW:w'.drawn<=w.drawn+n:=by
      have e:∀s,aP (bw (seen P.a fn es) s)=aP s:=λs=>by cases s<;>rfl
      rw[e] at hb;exact yR hd hb
     obtain⟨B8,⟨L0,M0⟩,W',ES,e1,⟨e2,e2',afZ⟩,e3⟩:=hE KW;simp only[e1,zw];have hc':=hc.mono λ_ _ (r:Cq P.a SB H lets β _ _)=>r.mono e3.le;have J0:Cq P.a SB H lets B8 ⟨fn,tmps,.inRangeFunc l0::l,mark++defers,.run,kind,round⟩ ⟨fn,EW,.inRangeFunc L0::L',M0++Eg,.run,kind,round'⟩ :=
      ⟨rfl,a2.mono e3.le,.cons (.inRangeFunc e2 e2') (hl.mono λ_ _=>Ey.mono e3.le),afZ.append (a4.mono λ_ _=>D5.mono e3.le),.run,rfl,a7,a8.mono e3.le⟩
     have h3:=e3.drawn
     have:=ia (BB:=BB) L J0 hc' (next B8 l0 L0 e3.le e2 e2' mark M0) e3.rel (ht.rest e3) (by
      have e:∀s,aP (bw (seen P.a fn es) s)=aP s:=λs=>by cases s<;>rfl
      rw[e] at hb;refine yR hb ?_
      omega)
     have:=Ef.after (e3.seen (P:=P) (SB:=SB) (H:=H) (lets:=lets) fn) this (seen P.a fn es);simpa using this
    |halt x w'=>trivial
   |region id ops draw =>
    have aa4:ops.all (cv P.a SB lets round.isNone)=true:=by have h0:=Ic;simp only[codeOk,yY] at h0;exact h0.1
    cases draw with
    |false=>exact bz a2 (.cons (.inRegion aa4) hl) a4 .run a7 a8 hc hw
    |true =>
     have hm:=fp (P:=P) (Ck:=CK P.a SB lets) (G:=Gn) (S:=SP SB H) (β:=β) (.order fn id);have hE:=hm w W n hw ht #[] #[];simp only[bb,Bool.not_true,zg,if_false] at hb ⊢;rw[<-Sem.runT_fst P.a (choose (.order fn id)) w #[]] at hb ⊢;rw[<-Sem.runT_fst P.b (choose (.order fn id)) W #[]];rcases hr:(choose (.order fn id)).runT P.a w #[] with⟨r,es⟩
     rw[hr] at hb hE;cases r with
     |ok t w' =>
      obtain⟨B8,X,W',ES,e1,e2,e3⟩:=hE hb;simp only[e1];subst e2;have hc':=hc.mono λ_ _ (r:Cq P.a SB H lets β _ _)=>r.mono e3.le;exact bc ⟨B8,_,W',_,rfl,aQ ⟨rfl,a2.mono e3.le,.cons (.inRegion aa4) (hl.mono λ_ _=>Ey.mono e3.le),a4.mono λ_ _=>D5.mono e3.le,.run,rfl,a7,a8.mono e3.le⟩ hc',{ e3 with evs:=by simp }⟩
     |halt x w'=>trivial
  |inBlock id=>exact bz a2 hl a4 .run a7 a8 hc hw
  |@inLoop c Ic=>exact bz a2 (.cons (.code Ic) (.cons (.inLoop Ic) hl)) a4 .run a7 a8 hc hw
  |@inScope c Ic=>exact bz a2 hl a4 .run a7 a8 hc hw
  |@inRegion ops todo ho =>
   cases todo with
   |nil=>exact bz a2 hl a4 .run a7 a8 hc hw
   |cons i rest =>
    have hy:yielded ops EW=yielded ops tmps:=(funext λj=>iX a2 ops j).symm;simp only[bb,hy] at hb ⊢;by_cases XW:(Option.map (λx=>Region.wanted x (yielded ops tmps)) ops[i]?).getD bk=bq
    .simp only[if_pos XW] at hb ⊢;cases hoi:ops[i]? with
     |none=>rw[hoi] at XW;cases XW
     |some o =>
      have af0:=hgo o (by unfold eA;exact hoi);have NI:cv P.a SB lets round.isNone o=true:=by
       simp only[zh] at ho;exact ho o (zl hoi)
      unfold cv at NI;rw[af0] at NI;simp only[Ak,AV,yY,zk,zY] at NI;have key:∀(p:bs) (t:Array df) (k:List er) (ds:List bD) (r:Option Nat),r.isNone=round.isNone->∀cs w,eC p bq ⟨fn,t,.inRegion ops (i::rest)::k,ds,.run,kind,r⟩ cs bn w=cf p bq ⟨fn,t,.inRegion ops (i::rest)::k,ds,.run,kind,r⟩ cs bn (execOp (b8 ⟨fn,t,.inRegion ops (i::rest)::k,ds,.run,kind,r⟩) o) w:=by
       intro p t k ds r hr cs w;unfold eC eA;simp only[hoi];cases r with
       |none=>rfl
       |some l0 =>
        rw[<-hr] at NI;cases hop:o.op with
        |defer c=>rw[hop] at NI;simp[ov] at NI
        |_=>rfl
      rw[key _ _ _ _ _ rfl] at hb ⊢;rw[key _ _ _ _ _ (qP a8).symm];exact ia L Gx hc (qO L.afW L.calls (λx hx=>Gx.eval hx) NI.1) hw ht hb
    .simp only[if_neg XW] at hb ⊢;exact bc ⟨β,_,W,_,rfl,aQ (bj Gx (.tuple rfl (by simp))) hc,by simpa using Fin.refl hw⟩
  |inRangeFunc x y=>trivial
  |@endRangeFunc l0 L0 x y =>
   have hm:=py (P:=P) (Ck:=CK P.a SB lets) (G:=Gn) (S:=SP SB H) x y;have hE:=hm w W n hw ht #[] #[];have EA:=hm.PR hw #[];simp only[bb] at hb ⊢;rcases hr:(ea l0).runT P.a w #[] with⟨r,es⟩
   rw[hr] at hb hE EA;cases r with
   |ok j w' =>
    obtain⟨B8,X,W',ES,e1,⟨e2,e2'⟩,e3⟩:=hE hb;subst e2;simp only[e1,zw];have hc':=hc.mono λ_ _ (r:Cq P.a SB H lets β _ _)=>r.mono e3.le;have FC:=e3.seen (P:=P) (SB:=SB) (H:=H) (lets:=lets) fn;have hl':=hl.mono λ_ _ (r:Ey P.a SB H lets round.isNone β _ _)=>r.mono e3.le;refine bc ⟨B8,_,W',_,rfl,aQ ⟨rfl,a2.mono e3.le,?_,a4.mono λ_ _=>D5.mono e3.le,.run,rfl,a7,a8.mono e3.le⟩ hc',by simpa using FC⟩
    cases j with
    |none=>exact hl'
    |some c=>exact .cons (.code (bK (e2' c rfl))) hl'
   |halt x w' =>
    cases x with
    |panic v =>
     obtain⟨B8,X,W',ES,e1,e2,e3⟩:=hE hb;simp only[e1,zw];have hc':=hc.mono λ_ _ (r:Cq P.a SB H lets β _ _)=>r.mono e3.le;have FC:=e3.seen (P:=P) (SB:=SB) (H:=H) (lets:=lets) fn;exact bc ⟨B8,_,W',_,rfl,aQ (cI (Gx.mono e3.le) (.cons (.mk _ _ e2) .nil)) hc',by simpa using FC⟩
    |_=>trivial
  |beginRound =>
   have hm:Cf P (SP SB H) (CK P.a SB lets) Gn β (do round.elim (stuck "beginRound: no round") cr;pure .skip:Sem Next) (do round'.elim (stuck "beginRound: no round") cr;pure .skip) (Gk (SP SB H) (CK P.a SB lets)):=by
    cases a8 with
    |none=>exact B4 (R:=λ_ _ _=>False) B9 (λ_ _ _ _ h=>h.elim)
    |some x y =>
     refine B4 (lL x y) ?_;intro Dq _ _ _ _;exact B5 .skip
   simp only[bb] at hb ⊢;exact ia L Gx hc hm hw ht hb
def Ready (p:bs)(SB:bh->Bool)(g:dS):Prop:=g.frame.mode=.run->O9 p SB g.frame
def dM (L:Lib P SB H lets BB Gn){g g2:dS}(hg:El P SB H lets BB T β g g2)(FD:Cq P.a SB H lets β g.frame g2.frame)(hr:Ready P.a SB g){w W:b9}{n:Nat}(hw:CV (SP SB H) (CK P.a SB lets) Gn β w W)(ht:JV n w W)
  (hb:(aP (stepG P.a main g w)).drawn<=w.drawn+n) :
  Ef P SB H lets BB T Gn β w W (stepG P.a main g w) (stepG P.b main2 g2 W):=by
 obtain⟨fr,cs,st,dy,off⟩:=g;obtain⟨FR,CS,Io,dy',XX⟩:=g2;obtain⟨h1,h2,⟨h3,QK⟩,⟨h4,h4'⟩,⟨h5,h5'⟩⟩:=hg;dsimp only at *;subst h4 h4';have hm:=FD.mode;cases Ws:fr.mode with
 |run =>
  rw[Ws] at hm;have e1:stepG P.a main ⟨fr,cs,st,bn,off⟩ w=bb P.a main bq fr cs bn w:=by unfold stepG;simp only[Ws]
  have e2:stepG P.b main2 ⟨FR,CS,Io,bn,XX⟩ W=bb P.b main2 bq FR CS bn W:=by
   have:FR.mode=.run:=by generalize FR.mode=q at hm;cases hm;rfl
   unfold stepG;simp only[this]
  rw[e1] at hb ⊢;rw[e2];exact sT L FD Ws h2 (hr Ws) hw ht hb
 |returning =>
  rw[Ws] at hm;have e1:stepG P.a main ⟨fr,cs,st,bn,off⟩ w=unwind P.a main fr cs bn w:=by unfold stepG;simp only[Ws]
  have e2:stepG P.b main2 ⟨FR,CS,Io,bn,XX⟩ W=unwind P.b main2 FR CS bn W:=by
   have:FR.mode=.returning:=by generalize FR.mode=q at hm;cases hm;rfl
   unfold stepG;simp only[this]
  rw[e1] at hb ⊢;rw[e2];exact jK L FD h2 hw ht hb
 |panicking l =>
  rw[Ws] at hm;have e1:stepG P.a main ⟨fr,cs,st,bn,off⟩ w=unwind P.a main fr cs bn w:=by unfold stepG;simp only[Ws]
  have e2:stepG P.b main2 ⟨FR,CS,Io,bn,XX⟩ W=unwind P.b main2 FR CS bn W:=by
   have:∃l,FR.mode=.panicking l:=by generalize FR.mode=q at hm;cases hm;exact⟨_,rfl⟩
   obtain⟨l,this⟩:=this;unfold stepG;simp only[this]
  rw[e1] at hb ⊢;rw[e2];exact jK L FD h2 hw ht hb
end
def CL.of (p:bs):CL:=⟨p,p.funcs⟩
abbrev CL.self (P:CL):CL:=CL.of P.a
section
variable {P:CL} {SB:bh->Bool} {H:Hid} {lets:Bool} {BB:bh->Bool} {β:Cm} {G:Nat}
def Ey.id {ad:Bool}(h:β.Q0){i I:er}(r:Ey P.a SB H lets ad β i I):i=I:=by
 cases r with
 |inRangeFunc hl _=>rw[h _ _ hl]
 |endRangeFunc hl _=>rw[h _ _ hl]
 |_=>rfl
def IX.id (h:KU H β){m M:dr}(r:IX SB H β m M):m=M:=by
 cases r with
 |panicking l=>rw[Df.id (λa A (r:Iy SB H β a A)=>by cases r with|mk x y v=>rw[v.id h]) l]
 |_=>rfl
def F6.id (h:β.Q0){o O:Option Nat}(r:F6 H β o O):o=O:=by
 cases r with
 |none=>rfl
 |some hl _=>rw[h _ _ hl]
def Cq.id (h:KU H β){f F:bl}(r:Cq P.a SB H lets β f F):f=F:=by
 have h1:=r.fn;have h2:=r.tmps.id h;have h3:=r.todo.id λ_ _=>Ey.id h.2;have h4:=r.defers.id λ_ _=>D5.id h;have h5:=r.mode.id h;have h6:=r.kind;have h7:=r.round.id h.2;obtain⟨b1,b2,b3,b4,b5,b6,b7⟩:=F;dsimp only at *;subst h1 h2 h3 h4 h5 h6 h7
 rfl
def ED.id (h:KU H β){f F:bl}(r:ED P.self SB H lets BB β f F):f=F:=by
 cases r with
 |on r=>exact r.id h
 |stop _ _ _ a=>rw[a.id h];rfl
def Dz.id (h:KU H β){cs CS:List bl}(r:Dz P.a SB H lets [bad] β cs CS):cs=CS:=by
 induction r with
 |base=>rfl
 |cons a _ ih=>rw[a.id h,ih]
def El.id (h:KU H β){g g':dS}(r:El P.self SB H lets BB [bad] β g g'):g=g':=by
 have h1:=r.top.id h;have h2:=r.callers.id h;obtain⟨a1,a2,a3,a4,a5⟩:=g;obtain⟨b1,b2,b3,b4,b5⟩:=g';obtain⟨_,_,⟨s1,s2⟩,⟨d1,d2⟩,⟨o1,o2⟩⟩:=r;dsimp only at *;subst h1 h2 s1 s2 d1 d2 o1 o2
 rfl
end
end Go.Ct
