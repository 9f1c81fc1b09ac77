/- Parts of the proof. -/
import Derived.Test.YtoeoefobdjociaaGreatP02
set_option linter.all false
open Go.stepG renaming exec->Z,apply->bw,oper->eb
open Or renaming inr->Y
open Go renaming FuncId->J,Frame->N,Program->bh,Deferred->bn,doReturn->bq,World->bs,PanicEntry->bA,Event->cf,stepG->ck,callDeferred->cu,Value->cw,Code->cE,FrameMode->cF,Goroutine->cK,findLabel->cU,CallKind->df,Item->dr
open Bool renaming false->U,true->bb
open Option renaming none->ak,some->bl,elim_none->bW,elim_some->c0
open Go.Instr renaming endRound->bc,beginRound->bD,enterLoop->b9,takeDeferred->cq,endLoop->cL
open Go.GStep renaming after->bk
open Go.Frame renaming eval->br,enter->b8,catches->cr,pos->dn,round->dS,oper?->ea
namespace Go.Eu
def oM:Op->Bool
 |.defer _=>bb
 |_=>U
def jo (s:String):Bool:=s == "internal/race.Disable"||s == "internal/race.Enable"||s == "internal/race.Acquire"||s == "internal/race.ReleaseMerge"
def dI (p:bh)(f:J):Bool:=match p.funcs[f]? with
 |some fn=>fn.body.isNone&&jo fn.name
 |none=>U
def ba {p:bh}{f:J}{fn:Func}(h:p.funcs[f]?=bl fn)(hb:fn.body.isSome=bb):dI p f=false:=by
 unfold dI;rw[h];cases hx:fn.body with
 |none=>rw[hx] at hb;cases hb
 |some c=>simp[hx]
def dY {p:bh}{f:J}{fn:Func}(h:p.funcs[f]?=bl fn)(hb:jo fn.name=U):dI p f=false:=by
 unfold dI;rw[h];simp[hb]
def eX (p:bh)(c:Call):Bool:=match c.callee with
 |.value (.func f)=>dI p f
 |_=>U
def eY (P:bh)(s d:TypeId):Bool:=match P.underlying s,P.underlying d with
 |some (.pointer _),bl .unsafePointer=>bb
 |_,_=>U
def aN (p:bh):Op->Bool
 |.go _=>U
 |.call c=>!eX p c
 |.convert s d _=>!eY p s d
 |_=>bb
def Kj (P:bh)(SB:J->Bool):Op->Bool
 |.go c=>bJ P SB c&&match c.callee with
  |.builtin _=>U
  |_=>bb
 |.call c=>eX P c&&c.args.all (ai SB)&&match c.callee with
  |.value (.func f)=>!SB f
  |_=>U
 |.convert s d x=>eY P s d&&ai SB x
 |_=>U
def pP {P:bh}{SB:J->Bool}{op:Op}(h:aN P op=bb):Kj P SB op=false:=by
 cases op with
 |go c=>simp[aN] at h
 |call c=>simp only[aN,B2] at h;simp[Kj,h]
 |convert s d x=>simp only[aN,B2] at h;simp[Kj,h]
 |_=>rfl
def iZ {P:bh}{s d:TypeId}(h:ic P s d=bb):eY P s d=false:=by
 unfold ic at h;unfold eY;split at h
 .rename_i h1 h2;rw[h1,h2]
 .cases h
def tN {P p:bh}{SB:J->Bool}{o:Oper}(h:dH P SB o=bb)(hn:∀f,SB f=bb->dI p f=U)(hu:∀t,p.underlying t=P.underlying t):aN p o.op=true:=by
 unfold dH Nh at h;cases hop:o.op with
 |go c=>rw[hop] at h;simp at h
 |call c =>
  rw[hop] at h;simp only[aN,B2];unfold eX;cases hc:c.callee with
  |value f=>cases f with
   |func f =>
    simp only[bJ,hc,AN] at h;exact hn f h.1.2
   |_=>rfl
  |_=>rfl
 |convert s d x =>
  rw[hop] at h;simp only[AN] at h;simp only[aN,B2];have:=iZ h.1.1;unfold eY at this ⊢;rw[hu,hu];exact this
 |_=>rfl
def vO {P:bh}{SB:J->Bool}{o:Oper}(h:dH P SB o=bb):Kj P SB o.op=false:=by
 unfold dH Nh at h;cases hop:o.op with
 |go c=>rw[hop] at h;simp at h
 |call c =>
  rw[hop] at h;unfold Kj;cases hc:c.callee with
  |value f=>cases f with
   |func f =>
    simp only[bJ,hc,AN] at h;have h2:SB f=true:=h.1.2;simp[hc,h2]
   |_=>simp[eX,hc]
  |_=>simp[eX,hc]
 |convert s d x =>
  rw[hop] at h;simp only[AN] at h;simp[Kj,iZ h.1.1]
 |_=>rfl
def cy (P:bh)(SB:J->Bool)(zZ ad:Bool)(o:Oper):Bool:=(dH P SB o&&(ad||!oM o.op))||(zZ&&Kj P SB o.op)
def xS:Op->Bool
 |.call c=>(match c.callee with|.value (.func f)=>f==88|_=>U)&&(match(c.args[1]?:Option Operand) with|some (Operand.const (Value.int _ n))=>decide (n<0)|_=>U)
 |_=>U
def codeOk (P:bh)(SB:J->Bool)(zZ:Bool):Bool->cE->Bool
 |_,.skip|_,.exit _|_,.label _|_,.goto _|_,.ret=>bb
 |_,.refuse _=>bb
 |ad,.region _ ops _=>ops.all (cy P SB zZ ad)&&!ops.any λo=>xS o.op
 |ad,.seq a b=>codeOk P SB zZ ad a&&codeOk P SB zZ ad b
 |ad,.cond c a b=>ai SB c&&codeOk P SB zZ ad a&&codeOk P SB zZ ad b
 |ad,.block _ b|ad,.loop b|ad,.scope b=>codeOk P SB zZ ad b
 |_,.rangeFunc f _ Aw bo=>ai SB f&&codeOk P SB zZ U Aw&&codeOk P SB zZ U bo
section
variable (P:bh) (SB:J->Bool) (H:Hid) (zZ:Bool)
abbrev CK:cE->Prop:=λc=>codeOk P SB zZ U c=bb
inductive F5 (ad:Bool)(β:Em):dr->dr->Prop
 |code {c:cE}:codeOk P SB zZ ad c=bb->F5 ad β (.code c) (.code c)
 |inBlock (id:Nat):F5 ad β (.inBlock id) (.inBlock id)
 |inLoop {c:cE}:codeOk P SB zZ ad c=bb->F5 ad β (.inLoop c) (.inLoop c)
 |inScope {c:cE}:codeOk P SB zZ ad c=bb->F5 ad β (.inScope c) (.inScope c)
 |inRegion {ops:Array Oper} {l:List Nat}:ops.all (cy P SB zZ ad)=bb->F5 ad β (.inRegion ops l) (.inRegion ops l)
 |inRangeFunc {l L:Nat}:β l L->H l=U->F5 ad β (.inRangeFunc l) (.inRangeFunc L)
 |endRangeFunc {l L:Nat}:β l L->H l=U->F5 ad β (.endRangeFunc l) (.endRangeFunc L)
 |beginRound:F5 ad β .beginRound .beginRound
inductive Jd (β:Em):bA->bA->Prop
 |mk {v V:cw} (r g:Bool):DZ (SP SB H) β v V->Jd β ⟨v,r,g⟩ ⟨V,r,g⟩
inductive Jm (β:Em):cF->cF->Prop
 |run:Jm β .run .run
 |returning:Jm β .returning .returning
 |panicking {l L:List bA}:E5 (Jd SB H β) l L->Jm β (.panicking l) (.panicking L)
inductive Hr (β:Em):Option Nat->Option Nat->Prop
 |none:Hr β ak ak
 |some {l L:Nat}:β l L->H l=U->Hr β (bl l) (bl L)
structure Er (β:Em)(f F:N):Prop where
 fn:f.fn=F.fn
 tmps:D8 (SP SB H) β f.tmps F.tmps
 todo:E5 (F5 P SB H zZ f.roundOf.isNone β) f.todo F.todo
 defers:E5 (FH (SP SB H) β) f.defers F.defers
 mode:Jm SB H β f.mode F.mode
 kind:f.kind=F.kind
 late:f.kind≠.early/\SB f.fn=bb
 round:Hr H β f.roundOf F.roundOf
def bad:Frame:={ fn:=0,tmps:=#[],todo:=[.code (.refuse "")],defers:=[⟨.nil,#[]⟩],mode:=.run,kind:=.normal }
inductive Fu (T:List N)(β:Em):List N->List N->Prop
 |base:Fu T β [bad] T
 |cons {c C:N} {cs CS:List N}:Er P SB H zZ β c C->Fu T β cs CS->Fu T β (c::cs) (C::CS)
end
section
variable (P:ED) (SB:J->Bool) (H:Hid) (zZ:Bool)
inductive F7 (BB:J->Bool)(β:Em):N->N->Prop
 |on {f F:N}:Er P.a SB H zZ β f F->F7 BB β f F
 |stop {f:J} {a A:Array cw} {k:df}:(SB f=bb\/aP SB f=bb)->BB f=U->k≠.early->D8 (SP SB H) β a A->F7 BB β (b8 P.a f a k) (b8 P.b f A k)
structure FX (BB:J->Bool)(T:List N)(β:Em)(g g':cK):Prop where
 top:F7 P SB H zZ BB β g.frame g'.frame
 callers:Fu P.a SB H zZ T β g.callers g'.callers
 status:g.status=.running/\g'.status=.running
 dying:g.dying=ak/\g'.dying=ak
 offers:g.offers=ak/\g'.offers=ak
end
section
variable {P:ED} {SB:J->Bool} {H:Hid} {zZ:Bool} {BB:J->Bool} {β D6:Em} {G:Nat}
def Fu.mono {T:List N}(h:∀c C,Er P.a SB H zZ β c C->Er P.a SB H zZ D6 c C){cs CS:List N}(r:Fu P.a SB H zZ T β cs CS):Fu P.a SB H zZ T D6 cs CS:=by
 induction r with
 |base=>exact .base
 |cons a _ ih=>exact .cons (h _ _ a) ih
def Fu.ne {T:List N}{cs CS:List N}(r:Fu P.a SB H zZ T β cs CS):cs≠[]:=by
 cases r<;>simp
def F5.mono {ad:Bool}(h:β.le D6){i I:dr}(r:F5 P.a SB H zZ ad β i I):F5 P.a SB H zZ ad D6 i I:=by
 cases r with
 |code c=>exact .code c
 |inBlock id=>exact .inBlock id
 |inLoop c=>exact .inLoop c
 |inScope c=>exact .inScope c
 |inRegion c=>exact .inRegion c
 |inRangeFunc a b=>exact .inRangeFunc (h _ _ a) b
 |endRangeFunc a b=>exact .endRangeFunc (h _ _ a) b
 |beginRound=>exact .beginRound
def Jd.mono (h:β.le D6){i I:bA}(r:Jd SB H β i I):Jd SB H D6 i I:=by
 cases r with
 |mk a b v=>exact .mk a b (v.mono h)
def Jm.mono (h:β.le D6){i I:cF}(r:Jm SB H β i I):Jm SB H D6 i I:=by
 cases r with
 |run=>exact .run
 |returning=>exact .returning
 |panicking l=>exact .panicking (l.mono λ_ _=>Jd.mono h)
def Hr.mono (h:β.le D6){i I:Option Nat}(r:Hr H β i I):Hr H D6 i I:=by
 cases r with
 |none=>exact .none
 |some a b=>exact .some (h _ _ a) b
def Er.mono (h:β.le D6){f F:N}(r:Er P.a SB H zZ β f F):Er P.a SB H zZ D6 f F :=
 ⟨r.fn,r.tmps.mono h,r.todo.mono λ_ _=>F5.mono h,r.defers.mono λ_ _=>FH.mono h,r.mode.mono h,r.kind,r.late,r.round.mono h⟩
def Er.eval {f F:N}(r:Er P.a SB H zZ β f F){x:Operand}(h:ai SB x=bb):DZ (SP SB H) β (f.eval x) (F.eval x):=by
 cases x with
 |tmp t=>exact r.tmps.getD t (.tuple rfl (by simp))
 |const v=>exact gT h
 |global g=>cases h
 |func f=>exact .func (.func (.inl h)) rfl (by simp) rfl (by simp)
def Mq (id:Nat){ad:Bool}{l L:List dr}(h:E5 (F5 P.a SB H zZ ad β) l L):(exitTo id l=ak/\exitTo id L=ak)\/∃k K,exitTo id l=bl k/\exitTo id L=bl K/\E5 (F5 P.a SB H zZ ad β) k K:=by
 induction h with
 |nil=>exact .inl ⟨rfl,rfl⟩
 |@cons i I l L hi hl ih =>
  cases hi with
  |inBlock id' =>
   unfold exitTo;split
   .exact .inr ⟨_,_,rfl,rfl,hl⟩
   .exact ih
  |_=>exact ih
def eZ {ad:Bool}:∀ {c:cE} {l:Nat} {r:cE},codeOk P.a SB zZ ad c=bb->cU c l=bl r->codeOk P.a SB zZ ad r=bb
 |.seq a b,l,r,h,hf=>by
  simp only[codeOk,AN] at h;unfold cU at hf;split at hf
  .rename_i rest hr;cases hf;simp only[codeOk,AN];exact⟨eZ h.1 hr,h.2⟩
  .exact eZ h.2 hf
 |.label l',l,r,h,hf=>by
  unfold cU at hf;split at hf
  .cases hf;rfl
  .cases hf
 |.skip,_,_,_,hf|.region _ _ _,_,_,_,hf|.cond _ _ _,_,_,_,hf|.block _ _,_,_,_,hf|.loop _,_,_,_,hf|.rangeFunc _ _ _ _,_,_,_,hf|.exit _,_,_,_,hf|.scope _,_,_,_,hf|.goto _,_,_,_,hf|.ret,_,_,_,hf|.refuse _,_,_,_,hf=>by cases hf
def Mr {ad:Bool}(l:Nat){k K:List dr}(h:E5 (F5 P.a SB H zZ ad β) k K):(gotoIn l k=ak/\gotoIn l K=ak)\/∃k' K',gotoIn l k=bl k'/\gotoIn l K=bl K'/\E5 (F5 P.a SB H zZ ad β) k' K':=by
 induction h with
 |nil=>exact .inl ⟨rfl,rfl⟩
 |@cons i I k K hi hl ih =>
  cases hi with
  |inScope hc =>
   rename_i c;unfold gotoIn;cases hf:cU c l with
   |none=>exact ih
   |some rest=>exact .inr ⟨_,_,rfl,rfl,.cons (.code (eZ hc hf)) (.cons (.inScope hc) hl)⟩
  |_=>exact ih
def mem_seen {p:bh}{fn:J}{es:Array cf}{E:cf}(h:E∈seen p fn es):E∈es:=by
 unfold seen at h;dsimp only at h;rw[<-De] at h
 have key : ∀ (l : List cf) (q : Bool) (kept : Array cf), E ∈ (l.foldl (fun (x : Bool × Array cf) e => match x with
   |(q,kept)=>match e.loc with
    |.mark (.extern f)=>((p.funcs[f]?).any (·.norace),kept)
    |_=>(q,if q&&!e.sync then kept else kept.push e)) (q,kept)).2->E∈kept\/E∈l:=by
  intro l
  induction l with
  |nil=>intro q kept h;exact .inl h
  |cons e l ih =>
   intro q kept h;simp only[B7] at h;split at h
   .obtain h|h:=ih _ _ h
    .exact .inl h
    .exact .inr (by simp[h])
   .obtain h|h:=ih _ _ h
    .split at h
     .exact .inl h
     .obtain h|h:=Array.mem_push.1 h
      .exact .inl h
      .exact .inr (by simp[h])
    .exact .inr (by simp[h])
 obtain h|h:=key _ _ _ h
 .simp at h
 .simpa using h
end
def Rg {α:Type}:Result α×Array cf->Prop
 |(.ok _ _,_)=>True
 |(.halt (.panic _) _,_)=>True
 |(.halt (.stuck _) _,_)=>True
 |(.halt (.unsupported u) _,_)=>∀g,u≠.initOrder g
 |_=>False
section
variable {P:ED} {S:Fy} {Ck:cE->Prop} {G:Nat} {β:Em}
def Ed.Ni {α Hd:Type}{m:Sem α}{M:Sem Hd}{R:Em->α->Hd->Prop}(h:Ed P S Ck G β m M R){w W:bs}(hw:EI S Ck G β w W)(a6:Array cf):Rg (m.runT P.a w a6):=by
 have hw':EI S Ck G β w { W with tape:=λi q=>w.tape (w.drawn+(i-W.drawn)) q }:=⟨hw.Fv,hw.room,hw.FJ,hw.FV,hw.old,hw.env⟩
 have:=h w { W with tape:=λi q=>w.tape (w.drawn+(i-W.drawn)) q } ((world (m.runT P.a w a6).1).drawn-w.drawn) hw' (λi _ q=>by
  show w.tape (w.drawn+i) q=w.tape (w.drawn+(W.drawn+i-W.drawn)) q
  rw[show W.drawn+i-W.drawn=i from by omega]) a6 #[] (by omega)
 revert this;generalize m.runT P.a w a6=r;obtain⟨r,es⟩:=r;cases r with
 |ok a w'=>exact λ_=>trivial
 |halt x w'=>cases x with
  |panic v=>exact λ_=>trivial
  |stuck s=>exact λ_=>trivial
  |unsupported u=>exact id
  |_=>exact id
def Ed.some {α Hd:Type}{m:Sem α}{M:Sem Hd}{R:Em->α->Hd->Prop}(h:Ed P S Ck G β m M R){w W:bs}(hw:EI S Ck G β w W){a6 es:Array cf}{a:α}{w':bs}(hr:m.runT P.a w a6=(.ok a w',es)):∃D6 A,R D6 a A:=by
 have hw':EI S Ck G β w { W with tape:=λi q=>w.tape (w.drawn+(i-W.drawn)) q }:=⟨hw.Fv,hw.room,hw.FJ,hw.FV,hw.old,hw.env⟩
 have:=h w { W with tape:=λi q=>w.tape (w.drawn+(i-W.drawn)) q } ((world (m.runT P.a w a6).1).drawn-w.drawn) hw' (λi _ q=>by
  show w.tape (w.drawn+i) q=w.tape (w.drawn+(W.drawn+i-W.drawn)) q
  rw[show W.drawn+i-W.drawn=i from by omega]) a6 #[] (by omega)
 rw[hr] at this;obtain⟨D6,A,_,_,_,h,_⟩:=this;exact⟨D6,A,h⟩
end
def aQ:GStep->bs
 |.go _ w _|.comm _ _ _ _ w _|.spawn _ _ w _|.count _ w _|.timer _ _ w _|.alone _ _ w _|.newcoro _ _ _ w _|.coroswitch _ _ _ w _|.collect _ w _|.watch _ w _|.ended _ w _=>w
section
variable (P:ED) (SB:J->Bool) (H:Hid) (zZ:Bool) (BB:J->Bool) (T:List N) (G:Nat)
def Gone (g:cK):Prop:=(∃fr,g={ frame:=fr,callers:=[],status:=.running,dying:=ak })/\∀(P:bh) (w:bs),∃o w' es,ck P bb g w=.ended o w' es
def NV:Gone { frame:=bad,callers:=[],status:=.running,dying:=ak }:=⟨⟨_,rfl⟩,λ_ _=>⟨_,_,_,rfl⟩⟩
def pQ (l:List bA):Gone { frame:=bad.raise l,callers:=[],status:=.running,dying:=ak }:=⟨⟨_,rfl⟩,λ_ _=>⟨_,_,_,rfl⟩⟩
def FP (β:Em)(w W:bs):GStep->GStep->Prop
 |.go g w' _,s=>(g.callers=[]/\Gone g)\/∃D6 g2 W' ES,s=.go g2 W' ES/\FX P SB H zZ BB T D6 g g2/\Fin (SP SB H) (CK P.a SB zZ) G β D6 w W w' W' ES.toList
 |.ended _ _ _,_=>True
 |_,_=>False
end
section
variable {P:ED} {SB:J->Bool} {H:Hid} {zZ:Bool} {BB:J->Bool} {T:List N} {β D6:Em} {Gn:Nat}
structure Lib (P:ED)(SB:J->Bool)(H:Hid)(zZ:Bool)(BB:J->Bool)(Gn:Nat):Prop where
 calls:Ka P (SP SB H) (CK P.a SB zZ) Gn
 body:∀f,BB f=bb->∃fn c,P.a.funcs[f]?=bl fn/\fn.body.getD (.refuse "unsupported: a function without a Go body is entered")=c/\codeOk P.a SB zZ bb c=bb/\P.fs[f]?=bl fn
 like:∀f,SB f=bb->∃fn GY,P.a.funcs[f]?=bl fn/\P.fs[f]?=bl GY/\fn.results=GY.results
 Rh:P.a.globals.size<=Gn
 nm:∀f,SB f=bb->dI P.a f=U/\dI P.b f=U
 sub:∀f,BB f=bb->SB f=bb
 bars:∀f,aP SB f=bb->∃fn s,P.a.funcs[f]?=bl fn/\fn.body=bl (.refuse s)
def E6 (L:Lib P SB H zZ BB Gn){f:J}(hf:SB f=bb\/aP SB f=bb){a A:Array cw}(h:D8 (SP SB H) β a A)(k:df)(hk:k≠.early) :
  F7 P SB H zZ BB β (b8 P.a f a k) (b8 P.b f A k):=by
 cases hb:BB f with
 |false=>exact .stop hf hb hk h
 |true =>
  obtain⟨fn,c,h1,h2,h3,h4⟩:=L.body f hb;have a6:P.b.funcs[f]?=bl fn:=h4;refine .on ⟨rfl,?_,?_,.nil,.run,rfl,⟨hk,L.sub f hb⟩,.none⟩
  .unfold b8;dsimp only;rw[h.size,h1,a6];exact h.append (D8.replicate (.tuple rfl (by simp)) _)
  .unfold b8;simp only[h1,a6,h2,BF,AY];exact .cons (.code h3) .nil
def ei {l L:Nat}(hl:β l L)(hh:H l=U)(f:J)(hf:SB f=bb){x X:Array cw}(hx:D8 (SP SB H) β x X){Aw bo:cE}(h1:codeOk P.a SB zZ U Aw=bb)(h2:codeOk P.a SB zZ U bo=bb)(k:df)(hk:k≠.early) :
  Er P.a SB H zZ β (dS l f x Aw bo k) (dS L f X Aw bo k) :=
 ⟨rfl,hx,.cons (.code h1) (.cons .beginRound (.cons (.code h2) .nil)),.nil,.run,rfl,⟨hk,hf⟩,.some hl hh⟩
def bp {f F:N}(h:Er P.a SB H zZ β f F){v V:cw}(hv:DZ (SP SB H) β v V):Er P.a SB H zZ β (f.finish v) (F.finish V):=by
 obtain⟨fn,tmps,todo,defers,mode,kind,round⟩:=f;obtain⟨GY,Gm,Hs,FQ,a7,a8,round'⟩:=F;obtain⟨h1,h2,h3,h4,h5,h6,h7,h8⟩:=h;dsimp only at *;unfold Frame.finish;cases h3 with
 |nil=>exact⟨h1,h2,.nil,h4,h5,h6,h7,h8⟩
 |@cons i I l L hi hl =>
  have a6:E5 (F5 P.a SB H zZ round.isNone β) (i::l) (I::L):=.cons hi hl;cases hi with
  |inRegion ho =>
   rename_i ops todo;cases todo with
   |nil=>exact⟨h1,h2,a6,h4,h5,h6,h7,h8⟩
   |cons j rest =>
    refine⟨h1,?_,.cons (.inRegion ho) hl,h4,h5,h6,h7,h8⟩;dsimp only;cases(ops[j]?).bind (·.dst) with
    |none=>exact h2
    |some d=>exact h2.set d hv
  |inRangeFunc a b=>exact⟨h1,h2,.cons (.endRangeFunc a b) hl,h4,h5,h6,h7,h8⟩
  |beginRound=>exact⟨h1,h2,hl,h4,h5,h6,h7,h8⟩
  |code c=>exact⟨h1,h2,a6,h4,h5,h6,h7,h8⟩
  |inBlock id=>exact⟨h1,h2,a6,h4,h5,h6,h7,h8⟩
  |inLoop c=>exact⟨h1,h2,a6,h4,h5,h6,h7,h8⟩
  |inScope c=>exact⟨h1,h2,a6,h4,h5,h6,h7,h8⟩
  |endRangeFunc a b=>exact⟨h1,h2,a6,h4,h5,h6,h7,h8⟩
def cN {f F:N}(h:Er P.a SB H zZ β f F){l L:List bA}(hl:E5 (Jd SB H β) l L):Er P.a SB H zZ β (f.raise l) (F.raise L):=by
 obtain⟨fn,tmps,todo,defers,mode,kind,round⟩:=f;obtain⟨GY,Gm,Hs,FQ,a6,a7,round'⟩:=F;obtain⟨h1,h2,h3,h4,h5,h6,h7,h8⟩:=h;dsimp only at *;unfold Frame.raise;cases h5 with
 |run=>exact⟨h1,h2,h3,h4,.panicking hl,h6,h7,h8⟩
 |returning=>exact⟨h1,h2,h3,h4,.panicking hl,h6,h7,h8⟩
 |panicking hc=>exact⟨h1,h2,h3,h4,.panicking (hl.append hc),h6,h7,h8⟩
def aR {f F:N}{cs CS:List N}(h:Er P.a SB H zZ β f F)(hc:Fu P.a SB H zZ T β cs CS) :
  FX P SB H zZ BB T β { frame:=f,callers:=cs,status:=.running,dying:=ak } { frame:=F,callers:=CS,status:=.running,dying:=ak } :=
 ⟨.on h,hc,⟨rfl,rfl⟩,⟨rfl,rfl⟩,⟨rfl,rfl⟩⟩
def Fin.seen {w W w' W':bs}{ES:List cf}(h:Fin (SP SB H) (CK P.a SB zZ) Gn β D6 w W w' W' ES)(fn:J):Fin (SP SB H) (CK P.a SB zZ) Gn β D6 w W w' W' (seen P.b fn ES.toArray).toList :=
 { h with evs:=λht E hE=>h.evs ht E (by have:=mem_seen (p:=P.b) (fn:=fn) (E:=E) (es:=ES.toArray) (by simpa using hE);simpa using this) }
def ij (L:Lib P SB H zZ BB Gn){fr FR:N}{cs CS:List N}(hf:Er P.a SB H zZ β fr FR)(hc:Fu P.a SB H zZ T β cs CS){m M:Sem Next}
  (hm:Ed P (SP SB H) (CK P.a SB zZ) Gn β m M (H4 (SP SB H) (CK P.a SB zZ))) {w W:bs} {n:Nat} (hw:EI (SP SB H) (CK P.a SB zZ) Gn β w W) (ht:JY n w W)
  (hb:(aQ (bw P.a bb fr cs ak m w)).drawn<=w.drawn+n) :
  FP P SB H zZ BB T Gn β w W (bw P.a bb fr cs ak m w) (bw P.b bb FR CS ak M W):=by
 have a7:=hm.Ni hw #[];have aB:fr.kind=FR.kind:=hf.kind;have a8:(fr.kind==.early)=false:=by simpa using hf.late.1
 have aC:(FR.kind==.early)=false:=by rw[<-aB];exact a8
 have hE:=hm w W n hw ht #[] #[];have hsome:=λ(a:Next) (w':bs) (es:Array cf) (e:m.runT P.a w #[]=(.ok a w',es))=>hm.some hw e;have hkc:∀ {d:bn} {b:Bool} {r:String} {x:Array cw} {k:List dr},fr.todo=.call d b r x::k->False:=by
  intro d b r x k h;have:=hf.todo;rw[h] at this;generalize FR.todo=T at this;cases this with
  |cons hi _=>cases hi
 have aA:∀ {d:bn} {b:Bool} {r:String} {x:Array cw} {k:List dr},FR.todo=.call d b r x::k->False:=by
  intro d b r x k h;have:=hf.todo;rw[h] at this;generalize fr.todo=T at this;cases this with
  |cons hi _=>cases hi
 unfold bw at hb ⊢;simp only[if_true,a8,aC,AZ,if_false] at hb ⊢;rcases hr:m.runT P.a w #[] with⟨r,es⟩
 rw[hr] at hE a7 hb;cases r with
 |ok x w' =>
  obtain⟨_,_,hx⟩:=hsome x w' es hr;have aD:w'.drawn<=w.drawn+n:=by cases hx<;>exact hb
  obtain⟨D6,X,W',ES,e1,e2,e3⟩:=hE aD;rw[e1];simp only[Bt];have hf':=hf.mono e3.le;have hc':=hc.mono λ_ _ (r:Er P.a SB H zZ β _ _)=>r.mono e3.le;have a6:=e3.seen (P:=P) (SB:=SB) (H:=H) (zZ:=zZ) FR.fn;cases e2 with
  |value hv=>exact Y ⟨D6,_,W',_,rfl,aR (bp hf' hv) hc',by simpa using a6⟩
  |skip=>exact Y ⟨D6,_,W',_,rfl,aR (bp hf' (.tuple rfl (by simp))) hc',by simpa using a6⟩
  |enter hs ha =>
   refine Y ⟨D6,_,W',_,rfl,⟨?_,.cons hf' hc',⟨rfl,rfl⟩,⟨rfl,rfl⟩,⟨rfl,rfl⟩⟩,by simpa using a6⟩;split
   .exact(hkc ‹_›).elim
   .split
    .exact(aA ‹_›).elim
    .exact E6 L hs ha .normal (by simp)
  |round hl hh hx h1 h2=>exact Y ⟨D6,_,W',_,rfl,aR (ei hl hh.1 _ hh.2 (by assumption) h1 h2 .normal (by simp)) (.cons hf' hc'),by simpa using a6⟩
  |defer hd=>exact Y ⟨D6,_,W',_,rfl,aR (bp (f:={ fr with defers:=_::fr.defers }) (F:={ FR with defers:=_::FR.defers }) ⟨hf'.fn,hf'.tmps,hf'.todo,.cons hd hf'.defers,hf'.mode,hf'.kind,hf'.late,hf'.round⟩ (.tuple rfl (by simp))) hc',by simpa using a6⟩
 |halt x w' =>
  cases x with
  |panic v =>
   obtain⟨D6,X,W',ES,e1,e2,e3⟩:=hE hb;rw[e1];simp only[Bt];have hf':=hf.mono e3.le;have hc':=hc.mono λ_ _ (r:Er P.a SB H zZ β _ _)=>r.mono e3.le;have a6:=e3.seen (P:=P) (SB:=SB) (H:=H) (zZ:=zZ) FR.fn;exact Y ⟨D6,_,W',_,rfl,aR (cN hf' (.cons (.mk _ _ e2) .nil)) hc',by simpa using a6⟩
  |stuck s=>trivial
  |unsupported u =>
   cases u with
   |initOrder g=>exact AI rfl (a7 g)
   |_=>trivial
  |_=>exact a7.elim
end
section
variable {P:ED} {S:Fy} {Ck:cE->Prop} {G:Nat} {β:Em}
def mb (fn:J)(hfn:S.fr fn){x X:Array cw}(hx:D8 S β x X)(ps:Array Tmp){Aw bo:cE}(h1:Ck Aw)(h2:Ck bo){o O:Option Nat}(ho:(o=ak/\O=ak)\/∃l L,o=bl l/\O=bl L/\β l L/\S.hid l=U) :
  Ed P S Ck G β (b9 fn x ps Aw bo o) (b9 fn X ps Aw bo O) (λD6 r R=>D6 r.1 R.1/\S.hid r.1=U/\E5 (FH S D6) r.2 R.2):=by
 have fin : ∀ (D6 : Em) (d D : Nat) (m M : List bn), β.le D6 -> D6 d D -> S.hid d = U -> E5 (FH S D6) m M -> Ed P S Ck G D6 (do
   pure (<-newObj (.loop { state:=.ready,pending:=ak,fn,tmps:=x,params:=ps,assign:=Aw,body:=bo,defers:=d }),m):Sem (Nat×List bn)) (do
   pure (<-newObj (.loop { state:=.ready,pending:=ak,fn,tmps:=X,params:=ps,assign:=Aw,body:=bo,defers:=D }),M):Sem (Nat×List bn)) (λD6 r R=>D6 r.1 R.1/\S.hid r.1=U/\E5 (FH S D6) r.2 R.2):=by
  intro D6 d D m M zX hd hk hm;refine DX (jE (.loop ⟨hfn,λc e=>by cases e⟩ h1 h2 (hx.mono zX) hd hk) (λi=>EW.id (S:=S) (Ck:=Ck) i (.loop ⟨hfn,λc e=>by cases e⟩ h1 h2 (hx.mono zX) hd hk) (by simp))) ?_;rintro a8 b B a7 ⟨hb,hb'⟩;exact DY ⟨hb,hb',hm.mono λ_ _=>FH.mono a7⟩
 unfold b9;obtain⟨rfl,rfl⟩|⟨l,L,rfl,rfl,hl,hk⟩:=ho
 .refine DX (jE (.defs .nil) (λ_=>rfl)) ?_;rintro a8 b B a7 ⟨hb,hb'⟩;refine DX (DY (R:=λD6 (a A:Nat×List bn)=>a8.le D6/\a=(b,[{ target:=.collected b,args:=#[] }])/\A=(B,[{ target:=.collected B,args:=#[] }])) ⟨a8.le_refl,rfl,rfl⟩) ?_;rintro aA a A a6 ⟨_,rfl,rfl⟩;exact fin aA _ _ _ _ (Em.le_trans a7 a6) (a6 _ _ hb) hb' (.cons (.collected (a6 _ _ hb) hb') .nil)
 .refine DX (dF hl hk) ?_;rintro a8 r R a7 ⟨_,_,_,_,_,_,_,_,_,_,hd,aB⟩;refine DX (DY (R:=λD6 (a A:Nat×List bn)=>a8.le D6/\a=(r.defers,[])/\A=(R.defers,[])) ⟨a8.le_refl,rfl,rfl⟩) ?_;rintro aA a A a6 ⟨_,rfl,rfl⟩;exact fin aA _ _ _ _ (Em.le_trans a7 a6) (a6 _ _ hd) aB .nil
def kD {β:Em}{r R:Loop}(h:r.state=R.state/\r.pending=R.pending/\(S.fr r.fn/\∀c,r.pending=bl c->Ck c)/\r.fn=R.fn/\D8 S β r.tmps R.tmps/\r.params=R.params/\r.assign=R.assign/\r.body=R.body/\Ck r.assign/\Ck r.body/\β r.defers R.defers/\S.hid r.defers=U)
  (st:LoopState) (pe:Option cE) (hp:S.fr r.fn/\∀c,pe=bl c->Ck c):EW S Ck β (.loop { r with state:=st,pending:=pe }) (.loop { R with state:=st,pending:=pe }):=by
 obtain⟨h1,h2,h3,h4,h5,h6,h7,h8,h9,h10,h11,a6⟩:=h;rw[<-h4,<-h6,<-h7,<-h8];exact .loop hp h9 h10 h5 h11 a6
def lJ {l L:Nat}(hl:β l L)(hk:S.hid l=U):Ed P S Ck G β (bD l) (bD L) (λ_ _ _=>True):=by
 refine DX (dF hl hk) ?_;intro a8 r R a6 h;have zG:=h.1;have a7:=h.2.1;have ho:=kD h .busy r.pending h.2.2.1;rw[show({ R with state:=LoopState.busy,pending:=r.pending }:Loop)={ R with state:=.busy } from by rw[a7]] at ho;refine DX (fC (a6 _ _ hl) hk ho rfl) ?_;intro aA _ _ _ _;rw[zG];cases R.state with
 |ready=>exact DY trivial
 |_=>exact az (.error _) trivial
def nI {l L:Nat}(hl:β l L)(hk:S.hid l=U)(j:Option cE)(hj:∀c,j=bl c->Ck c):Ed P S Ck G β (bc l j) (bc L j) (λD6 v V=>DZ S D6 v V):=by
 refine DX (dF hl hk) ?_;intro a7 r R a6 h;refine DX (fC (a6 _ _ hl) hk (kD h _ j ⟨h.2.2.1.1,hj⟩) rfl) ?_;intro a8 _ _ _ _;exact DY (.bool _)
def pR {l L:Nat}(hl:β l L)(hk:S.hid l=U):Ed P S Ck G β (cL l) (cL L) (λ_ a A=>a=A/\∀c,a=bl c->Ck c):=by
 refine DX (dF hl hk) ?_;intro a6 r R aB h;have zG:=h.1;have aA:=h.2.1;have ho:=kD h .exhausted r.pending h.2.2.1;rw[show({ R with state:=LoopState.exhausted,pending:=r.pending }:Loop)={ R with state:=.exhausted } from by rw[aA]] at ho
 have main : ∀ a7, a6.le a7 -> Ed P S Ck G a7 (do
   setObj l (.loop { r with state:=.exhausted })
   pure r.pending:Sem (Option cE)) (do
   setObj L (.loop { R with state:=.exhausted })
   pure R.pending:Sem (Option cE)) (λ_ a A=>a=A/\∀c,a=bl c->Ck c):=by
  intro a7 a8;refine DX (fC (a8 _ _ (aB _ _ hl)) hk (ho.mono a8) rfl) ?_;intro aC _ _ _ _;exact DY ⟨aA,h.2.2.1.2⟩
 rw[zG];by_cases hb:(R.state==.busy)=bb
 .simp only[hb,if_true];exact DX (R:=λ_ _ _=>False) (az (.error _) trivial) (λ_ _ _ _ h=>h.elim)
 .simp only[hb,if_false,AZ];exact main a6 a6.le_refl
def jJ {b B:Nat}(hb:β b B)(hk:S.hid b=U):Ed P S Ck G β (cq b) (cq B) (λD6 l L=>E5 (FH S D6) l L):=by
 refine DX (fB hb hk) ?_;intro aA o O a6 ho;cases ho with
 |defs a8 =>
  refine DX (fC (a6 _ _ hb) hk .taken rfl) ?_;intro aB _ _ a7 _;exact DY (a8.mono λ_ _=>FH.mono a7)
 |_=>exact λ_ _ _ _ _ _ _ _=>trivial
def i3 {α γ:Type}{f F:α->Sem γ}{R:Em->γ->γ->Prop}(hR:∀β D6,β.le D6->∀a A,R β a A->R D6 a A):∀(l:List α) (β:Em),(∀x∈l,∀D6,β.le D6->Ed P S Ck G D6 (f x) (F x) R) ->
  Ed P S Ck G β (l.mapM f) (l.mapM F) (λD6 a A=>E5 (R D6) a A)
 |[],β,_=>by simp only[List.mapM_nil];exact DY .nil
 |x::l,β,h=>by
  simp only[List.mapM_cons];refine DX (h x (by simp) β β.le_refl) ?_;intro a8 a A a6 ha;refine DX (i3 hR l a8 λy hy D6 zX=>h y (by simp[hy]) D6 (Em.le_trans a6 zX)) ?_;intro aA b B a7 hb;exact DY (.cons (hR _ _ a7 _ _ ha) hb)
def jK (fn:Func){x X:Array cw}(hx:D8 S β x X):Ed P S Ck G β (results fn x) (results fn X) (λD6 v V=>DZ S D6 v V):=by
 unfold results;rw[Da,Da];have hu:∀β,DZ S β undef undef:=λβ=>.tuple rfl (by simp)
 have h := i3 (P := P) (S := S) (Ck := Ck) (G := G) (f := fun (r : ResultVar) => match r with
   |.tmp t=>pure (x.getD t undef)
   |.cell a t=>do loadVar t (<-asAddr (x.getD a undef))) (F:=λ(r:ResultVar)=>match r with
   |.tmp t=>pure (X.getD t undef)
   |.cell a t=>do loadVar t (<-asAddr (X.getD a undef))) (R:=λD6 v V=>DZ S D6 v V) (λ_ _ h _ _ r=>r.mono h) fn.results.toList β (λr _ D6 zX=>by
    cases r with
    |tmp t=>exact DY ((hx.mono zX).getD t (hu _))
    |cell a t =>
     refine DX (eh ((hx.mono zX).getD a (hu _))) ?_;intro a6 p Q _ hp
     exact jF t hp)
 refine DX (R:=λD6 a A=>D8 S D6 a A) ?_ ?_
 .refine DX h ?_;intro a6 l L _ hl;exact DY hl.toArray
 .intro a6 v V _ hv;refine DY ?_;have hs:=hv.size;by_cases h1:v.size=1
  .have h2:V.size=1:=by omega
   rw[dif_pos h1,dif_pos h2];exact hv.at_ 0 _ _ (AK _) (AK _)
  .have h2:¬V.size=1:=by omega
   rw[dif_neg h1,dif_neg h2];exact hv.tuple
end
section
variable {P:ED} {SB:J->Bool} {H:Hid} {zZ:Bool} {BB:J->Bool} {T:List N} {β D6:Em} {Gn:Nat} {main main2:Bool}
def i4 {x X:Array cw}(h:D8 (SP SB H) β x X)(ops:Array Oper)(j:Nat):yielded ops x j=yielded ops X j:=by
 unfold yielded;cases((ops[j]?).bind (·.dst)) with
 |none=>rfl
 |some d =>
  simp only[BF];cases hx:x[d]? with
  |none=>rw[h.get_none hx]
  |some v =>
   obtain⟨V,hV,hr⟩:=h.get? hx;rw[hV];cases hr with
   |blank _ hb=>cases V<;>first|rfl|(cases hb;done)
   |_=>rfl
def pS {l L:List bA}(h:E5 (Jd SB H β) l L):E5 (Jd SB H β) (l.dropWhile (!·.goexit)) (L.dropWhile (!·.goexit)):=by
 induction h with
 |nil=>exact .nil
 |@cons a A l L ha hl ih =>
  cases ha with
  |mk r g hv =>
   cases g with
   |false=>simpa using ih
   |true=>simpa using E5.cons (.mk r bb hv) hl
def fd {fr FR:N}{cs CS:List N}(hk:fr.kind=FR.kind)(hl:fr.kind≠.early)(hc:Fu P.a SB H zZ T β cs CS)(zU:cs≠[]){v V:cw}(hv:DZ (SP SB H) β v V){w W w' W':bs}{β0:Em}{ES:List cf}
  (hf:Fin (SP SB H) (CK P.a SB zZ) Gn β0 β w W w' W' ES) (es:Array cf) :
  FP P SB H zZ BB T Gn β0 w W (bk es (bq P.a main fr cs ak v w')) (bk ES.toArray (bq P.b main2 FR CS ak V W')):=by
 cases hc with
 |base =>
  unfold bq;cases fr.kind<;>exact Or.inl ⟨rfl,NV⟩
 |@cons c C cs CS h1 h2 =>
  unfold bq;rw[<-hk];cases aA:fr.kind with
  |normal=>exact Y ⟨β,_,W',_,rfl,aR (bp h1 hv) h2,by simpa using hf⟩
  |wrapped=>exact Y ⟨β,_,W',_,rfl,aR (bp h1 hv) h2,by simpa using hf⟩
  |early=>exact AI aA hl
  |_ =>
   refine Y ⟨β,_,W',_,rfl,aR ?_ h2,by simpa using hf⟩;obtain⟨fn,tmps,todo,defers,mode,kind,round⟩:=c;obtain⟨GY,Gm,Hs,FQ,aB,aC,round'⟩:=C;obtain⟨a1,a2,a3,a4,a5,a6,a7,a8⟩:=h1;dsimp only at *;cases a5 with
   |run=>exact⟨a1,a2,a3,a4,.run,a6,a7,a8⟩
   |returning=>exact⟨a1,a2,a3,a4,.returning,a6,a7,a8⟩
   |panicking hch =>
    cases hch with
    |nil=>exact⟨a1,a2,a3,a4,.panicking .nil,a6,a7,a8⟩
    |@cons p Q l L hp hl =>
     cases hp with
     |mk r g hv' =>
      cases r with
      |false=>exact⟨a1,a2,a3,a4,.panicking (.cons (.mk U g hv') hl),a6,a7,a8⟩
      |true =>
       have:=pS hl;dsimp only;revert this;generalize l.dropWhile (!·.goexit)=d;generalize L.dropWhile (!·.goexit)=D;intro hd;cases hd with
       |nil=>exact⟨a1,a2,a3,a4,.returning,a6,a7,a8⟩
       |cons x y=>exact⟨a1,a2,a3,a4,.panicking (.cons x y),a6,a7,a8⟩
def cm (L:Lib P SB H zZ BB Gn){fr FR:N}{cs CS:List N}(hf:Er P.a SB H zZ β fr FR)(hc:Fu P.a SB H zZ T β cs CS){d D:bn}(hd:FH (SP SB H) β d D){w W:bs}{n:Nat}(hw:EI (SP SB H) (CK P.a SB zZ) Gn β w W)(ht:JY n w W)
  (hb:(aQ (cu P.a fr cs ak d w)).drawn<=w.drawn+n) :
  FP P SB H zZ BB T Gn β w W (cu P.a fr cs ak d w) (cu P.b FR CS ak D W):=by
 have hm:=ig L.calls hd;have hE:=hm w W n hw ht #[] #[];have a7:=hm.Ni hw #[];have hsome:=λ(a:Next) (w':bs) (es:Array cf) (e:(invoke d.target d.args).runT P.a w #[]=(.ok a w',es))=>hm.some hw e;unfold cu at hb ⊢;cases hd with
 |@fn aD aG aC aF aB ar2 a b c =>
  simp only[B9,AZ,if_false] at hb ⊢;dsimp only at hE hsome;rcases zz:(invoke (Target.fn aD aC) aB).runT P.a w #[] with⟨r,es⟩
  simp only[zz] at hb hE a7 ⊢;cases r with
  |ok x w' =>
   obtain⟨_,_,hx⟩:=hsome x w' es zz;have aA:w'.drawn<=w.drawn+n:=by cases hx<;>exact hb
   obtain⟨D6,X,W',ES,e1,e2,e3⟩:=hE aA;simp only[e1,Bt];have hf':=hf.mono e3.le;have hc':=hc.mono λ_ _ (r:Er P.a SB H zZ β _ _)=>r.mono e3.le;have a6:=e3.seen (P:=P) (SB:=SB) (H:=H) (zZ:=zZ) FR.fn;cases e2 with
   |value hv=>exact Y ⟨D6,_,W',_,rfl,aR hf' hc',by simpa using a6⟩
   |skip=>exact Y ⟨D6,_,W',_,rfl,aR hf' hc',by simpa using a6⟩
   |enter hs ha=>exact Y ⟨D6,_,W',_,rfl,⟨E6 L hs ha .deferred (by simp),.cons hf' hc',⟨rfl,rfl⟩,⟨rfl,rfl⟩,⟨rfl,rfl⟩⟩,by simpa using a6⟩
   |round hl hh hx h1 h2=>exact Y ⟨D6,_,W',_,rfl,aR (ei hl hh.1 _ hh.2 (by assumption) h1 h2 .deferred (by simp)) (.cons hf' hc'),by simpa using a6⟩
   |defer hd=>exact Y ⟨D6,_,W',_,rfl,aR hf' hc',by simpa using a6⟩
  |halt x w' =>
   cases x with
   |panic v =>
    obtain⟨D6,X,W',ES,e1,e2,e3⟩:=hE hb;simp only[e1,Bt];have hf':=hf.mono e3.le;have hc':=hc.mono λ_ _ (r:Er P.a SB H zZ β _ _)=>r.mono e3.le;have a6:=e3.seen (P:=P) (SB:=SB) (H:=H) (zZ:=zZ) FR.fn;exact Y ⟨D6,_,W',_,rfl,aR (cN hf' (.cons (.mk _ _ e2) .nil)) hc',by simpa using a6⟩
   |stuck s=>trivial
   |unsupported u=>trivial
   |_=>exact a7.elim
 |ET a A h1 h2 h3 =>
  subst h2;have hq:=iY L.calls.big a w #[];unfold hd at hq ⊢;simp only[B9,AZ,if_false] at hq ⊢;obtain⟨s,w',es',e⟩|⟨u,w',es',e,_⟩:=hq
  .simp only[e];trivial
  .simp only[e];trivial
 |@collected r1 r2 a b =>
  simp only[B9,AZ,if_false] at hb ⊢;dsimp only at hE hsome;rcases zz:(invoke (Target.collected r1) #[]).runT P.a w #[] with⟨r,es⟩
  simp only[zz] at hb hE a7 ⊢;cases r with
  |ok x w' =>
   obtain⟨_,_,hx⟩:=hsome x w' es zz;have aA:w'.drawn<=w.drawn+n:=by cases hx<;>exact hb
   obtain⟨D6,X,W',ES,e1,e2,e3⟩:=hE aA;simp only[e1,Bt];have hf':=hf.mono e3.le;have hc':=hc.mono λ_ _ (r:Er P.a SB H zZ β _ _)=>r.mono e3.le;have a6:=e3.seen (P:=P) (SB:=SB) (H:=H) (zZ:=zZ) FR.fn;cases e2 with
   |value hv=>exact Y ⟨D6,_,W',_,rfl,aR hf' hc',by simpa using a6⟩
   |skip=>exact Y ⟨D6,_,W',_,rfl,aR hf' hc',by simpa using a6⟩
   |enter hs ha=>exact Y ⟨D6,_,W',_,rfl,⟨E6 L hs ha .deferred (by simp),.cons hf' hc',⟨rfl,rfl⟩,⟨rfl,rfl⟩,⟨rfl,rfl⟩⟩,by simpa using a6⟩
   |round hl hh hx h1 h2=>exact Y ⟨D6,_,W',_,rfl,aR (ei hl hh.1 _ hh.2 (by assumption) h1 h2 .deferred (by simp)) (.cons hf' hc'),by simpa using a6⟩
   |defer hd=>exact Y ⟨D6,_,W',_,rfl,aR hf' hc',by simpa using a6⟩
  |halt x w' =>
   cases x with
   |panic v =>
    obtain⟨D6,X,W',ES,e1,e2,e3⟩:=hE hb;simp only[e1,Bt];have hf':=hf.mono e3.le;have hc':=hc.mono λ_ _ (r:Er P.a SB H zZ β _ _)=>r.mono e3.le;have a6:=e3.seen (P:=P) (SB:=SB) (H:=H) (zZ:=zZ) FR.fn;exact Y ⟨D6,_,W',_,rfl,aR (cN hf' (.cons (.mk _ _ e2) .nil)) hc',by simpa using a6⟩
   |stuck s=>trivial
   |unsupported u=>trivial
   |_=>exact a7.elim
 |@nil aB ar2 a =>
  have a8:=hf.mode;cases hm:fr.mode with
  |panicking l =>
   simp only[Bool.and_self,if_true];trivial
  |run =>
   have hM:FR.mode=.run:=by
    rw[hm] at a8;generalize FR.mode=q at a8;cases a8;rfl
   simp only[hm,hM,Cj,AZ,if_false] at hb ⊢;dsimp only at hE hsome;rcases zz:(invoke Target.nil aB).runT P.a w #[] with⟨r,es⟩
   simp only[zz] at hb hE a7 ⊢;cases r with
   |ok x w' =>
    obtain⟨_,_,hx⟩:=hsome x w' es zz;have aA:w'.drawn<=w.drawn+n:=by cases hx<;>exact hb
    obtain⟨D6,X,W',ES,e1,e2,e3⟩:=hE aA;simp only[e1,Bt];have hf':=hf.mono e3.le;have hc':=hc.mono λ_ _ (r:Er P.a SB H zZ β _ _)=>r.mono e3.le;have a6:=e3.seen (P:=P) (SB:=SB) (H:=H) (zZ:=zZ) FR.fn;cases e2 with
    |value hv=>exact Y ⟨D6,_,W',_,rfl,aR hf' hc',by simpa using a6⟩
    |skip=>exact Y ⟨D6,_,W',_,rfl,aR hf' hc',by simpa using a6⟩
    |enter hs ha=>exact Y ⟨D6,_,W',_,rfl,⟨E6 L hs ha .deferred (by simp),.cons hf' hc',⟨rfl,rfl⟩,⟨rfl,rfl⟩,⟨rfl,rfl⟩⟩,by simpa using a6⟩
    |round hl hh hx h1 h2=>exact Y ⟨D6,_,W',_,rfl,aR (ei hl hh.1 _ hh.2 (by assumption) h1 h2 .deferred (by simp)) (.cons hf' hc'),by simpa using a6⟩
    |defer hd=>exact Y ⟨D6,_,W',_,rfl,aR hf' hc',by simpa using a6⟩
   |halt x w' =>
    cases x with
    |panic v =>
     obtain⟨D6,X,W',ES,e1,e2,e3⟩:=hE hb;simp only[e1,Bt];have hf':=hf.mono e3.le;have hc':=hc.mono λ_ _ (r:Er P.a SB H zZ β _ _)=>r.mono e3.le;have a6:=e3.seen (P:=P) (SB:=SB) (H:=H) (zZ:=zZ) FR.fn;exact Y ⟨D6,_,W',_,rfl,aR (cN hf' (.cons (.mk _ _ e2) .nil)) hc',by simpa using a6⟩
    |stuck s=>trivial
     |unsupported u=>trivial
    |_=>exact a7.elim
  |returning =>
   have hM:FR.mode=.returning:=by
    rw[hm] at a8;generalize FR.mode=q at a8;cases a8;rfl
   simp only[hm,hM,Cj,AZ,if_false] at hb ⊢;dsimp only at hE hsome;rcases zz:(invoke Target.nil aB).runT P.a w #[] with⟨r,es⟩
   simp only[zz] at hb hE a7 ⊢;cases r with
   |ok x w' =>
    obtain⟨_,_,hx⟩:=hsome x w' es zz;have aA:w'.drawn<=w.drawn+n:=by cases hx<;>exact hb
    obtain⟨D6,X,W',ES,e1,e2,e3⟩:=hE aA;simp only[e1,Bt];have hf':=hf.mono e3.le;have hc':=hc.mono λ_ _ (r:Er P.a SB H zZ β _ _)=>r.mono e3.le;have a6:=e3.seen (P:=P) (SB:=SB) (H:=H) (zZ:=zZ) FR.fn;cases e2 with
    |value hv=>exact Y ⟨D6,_,W',_,rfl,aR hf' hc',by simpa using a6⟩
    |skip=>exact Y ⟨D6,_,W',_,rfl,aR hf' hc',by simpa using a6⟩
    |enter hs ha=>exact Y ⟨D6,_,W',_,rfl,⟨E6 L hs ha .deferred (by simp),.cons hf' hc',⟨rfl,rfl⟩,⟨rfl,rfl⟩,⟨rfl,rfl⟩⟩,by simpa using a6⟩
    |round hl hh hx h1 h2=>exact Y ⟨D6,_,W',_,rfl,aR (ei hl hh.1 _ hh.2 (by assumption) h1 h2 .deferred (by simp)) (.cons hf' hc'),by simpa using a6⟩
    |defer hd=>exact Y ⟨D6,_,W',_,rfl,aR hf' hc',by simpa using a6⟩
   |halt x w' =>
    cases x with
    |panic v =>
     obtain⟨D6,X,W',ES,e1,e2,e3⟩:=hE hb;simp only[e1,Bt];have hf':=hf.mono e3.le;have hc':=hc.mono λ_ _ (r:Er P.a SB H zZ β _ _)=>r.mono e3.le;have a6:=e3.seen (P:=P) (SB:=SB) (H:=H) (zZ:=zZ) FR.fn;exact Y ⟨D6,_,W',_,rfl,aR (cN hf' (.cons (.mk _ _ e2) .nil)) hc',by simpa using a6⟩
    |stuck s=>trivial
     |unsupported u=>trivial
    |_=>exact a7.elim
def jL (L:Lib P SB H zZ BB Gn){fr FR:N}{cs CS:List N}(hf:Er P.a SB H zZ β fr FR)(hc:Fu P.a SB H zZ T β cs CS){w W:bs}{n:Nat}(hw:EI (SP SB H) (CK P.a SB zZ) Gn β w W)(ht:JY n w W)
  (hb:(aQ (unwind P.a main fr cs ak w)).drawn<=w.drawn+n) :
  FP P SB H zZ BB T Gn β w W (unwind P.a main fr cs ak w) (unwind P.b main2 FR CS ak W):=by
 obtain⟨fn,tmps,todo,defers,mode,kind,round⟩:=fr;obtain⟨GY,Gm,Hs,FQ,aD,aH,round'⟩:=FR;obtain⟨a1,a2,a3,a4,a5,a6,a7,a8⟩:=hf;dsimp only at a1 a2 a3 a4 a5 a6 a7 a8;subst a1 a6;cases a4 with
 |@cons d D ds DS hd aF =>
  have hf':Er P.a SB H zZ β ⟨fn,tmps,todo,ds,mode,kind,round⟩ ⟨fn,Gm,Hs,DS,aD,kind,round'⟩:=⟨rfl,a2,a3,aF,a5,rfl,a7,a8⟩;cases hd with
  |fn x y z=>exact cm L hf' hc (.fn x y z) hw ht hb
  |nil x=>exact cm L hf' hc (.nil x) hw ht hb
  |ET a A h1 h2 h3 =>
   subst h2;obtain rfl|⟨h3,n,c,x,rfl⟩:=h3
   .exact cm L hf' hc (.ET a A h1 rfl (.inl rfl)) hw ht hb
   .exact cm L hf' hc (.ET a A h1 rfl (.inr ⟨h3,n,c,x,rfl⟩)) hw ht hb
  |@collected r1 r2 x y =>
   have hm:=jJ (P:=P) (Ck:=CK P.a SB zZ) (G:=Gn) (S:=SP SB H) x y;have hE:=hm w W n hw ht #[] #[];have aA:=hm.Ni hw #[];unfold unwind at hb ⊢;dsimp only at hb ⊢;rcases hr:(cq r1).runT P.a w #[] with⟨r,es⟩
   rw[hr] at hb hE aA;cases r with
   |ok l w' =>
    obtain⟨D6,X,W',ES,e1,e2,e3⟩:=hE hb;simp only[e1,Bt];have hf2:=hf'.mono e3.le;have hc':=hc.mono λ_ _ (r:Er P.a SB H zZ β _ _)=>r.mono e3.le;have aB:=e3.seen (P:=P) (SB:=SB) (H:=H) (zZ:=zZ) fn;exact Y ⟨D6,_,W',_,rfl,aR ⟨rfl,hf2.tmps,hf2.todo,e2.append hf2.defers,hf2.mode,rfl,a7,hf2.round⟩ hc',by simpa using aB⟩
   |halt x w'=>trivial
 |nil =>
  cases a5 with
  |run=>trivial
  |@panicking ch CH hch =>
   unfold unwind;dsimp only;obtain⟨f,f',g1,g2,_⟩:=L.like fn a7.2;have aC:P.b.funcs[fn]?=bl f':=g2;have q1:cr P.a ⟨fn,tmps,todo,[],.panicking ch,kind,round⟩=false:=by
    unfold cr;dsimp only;rw[g1]
   have q2:cr P.b ⟨fn,Gm,Hs,[],.panicking CH,kind,round'⟩=false:=by
    unfold cr;dsimp only;rw[aC]
   simp only[q1,q2,AZ,if_false];cases hc with
   |base=>exact Or.inl ⟨rfl,pQ _⟩
   |cons h1 h2=>exact Y ⟨β,_,W,_,rfl,aR (cN h1 hch) h2,by simpa using Fin.refl hw⟩
  |returning =>
   have zU:cs≠[]:=hc.ne;unfold unwind at hb ⊢;dsimp only at hb ⊢;obtain⟨f,f',g1,g2,g3⟩:=L.like fn a7.2;have aC:P.b.funcs[fn]?=bl f':=g2;have g4:results f' Gm=results f Gm:=by unfold results;rw[g3]
   have hm:=jK (P:=P) (Ck:=CK P.a SB zZ) (G:=Gn) (S:=SP SB H) f a2;have hE:=hm w W n hw ht #[] #[];have aA:=hm.Ni hw #[];rw[g1] at hb ⊢;rw[aC];dsimp only at hb ⊢;rw[g4];rcases hr:(results f tmps).runT P.a w #[] with⟨r,es⟩
   rw[hr] at hb hE aA;cases r with
   |ok v w' =>
    have aG:w'.drawn<=w.drawn+n:=by
     have:∀cs,(aQ (bk (seen P.a fn es) (bq P.a main ⟨fn,tmps,todo,[],.returning,kind,round⟩ cs ak v w')))=w'\/cs=[]:=by
      intro cs;cases cs with
      |nil=>exact .inr rfl
      |cons c cs =>
       refine .inl ?_;unfold bq;cases kind<;>rfl
     obtain h|h:=this cs
     .rw[<-h];exact hb
     .exact AI h zU
    obtain⟨D6,X,W',ES,e1,e2,e3⟩:=hE aG;simp only[e1,Bt];have hc':=hc.mono λ_ _ (r:Er P.a SB H zZ β _ _)=>r.mono e3.le;have aB:=e3.seen (P:=P) (SB:=SB) (H:=H) (zZ:=zZ) fn;have:=fd (P:=P) (main:=main) (main2:=main2) (BB:=BB) (fr:=⟨fn,tmps,todo,[],.returning,kind,round⟩) (FR:=⟨fn,Gm,Hs,[],.returning,kind,round'⟩) rfl a7.1 hc' zU e2 aB (seen P.a fn es);simpa using this
   |halt x w'=>cases x<;>trivial
end
section
variable {P:ED} {SB:J->Bool} {H:Hid} {zZ:Bool} {BB:J->Bool} {T:List N} {β D6:Em} {Gn:Nat} {main main2:Bool}
def bI {ad:Bool}:∀ {c:cE},codeOk P.a SB zZ U c=bb->codeOk P.a SB zZ ad c=bb
 |.skip,_|.exit _,_|.label _,_|.goto _,_|.ret,_|.refuse _,_=>rfl
 |.region _ ops _,h=>by
  cases ad with
  |false=>exact h
  |true =>
   simp only[codeOk,AN,Ba] at h ⊢;refine⟨?_,h.2⟩;intro o ho;have:=h.1 o ho;unfold cy at this ⊢;simp only[Bm,AN] at this ⊢;obtain h1|h1:=this
   .exact .inl ⟨h1.1,.inl trivial⟩
   .exact .inr h1
 |.seq a b,h=>by
  simp only[codeOk,AN] at h ⊢;exact⟨bI h.1,bI h.2⟩
 |.cond c a b,h=>by
  simp only[codeOk,AN] at h ⊢;exact⟨⟨h.1.1,bI h.1.2⟩,bI h.2⟩
 |.block _ b,h=>by simp only[codeOk] at h ⊢;exact bI h
 |.loop b,h=>by simp only[codeOk] at h ⊢;exact bI h
 |.scope b,h=>by simp only[codeOk] at h ⊢;exact bI h
 |.rangeFunc f ps Aw bo,h=>by simp only[codeOk] at h ⊢;exact h
def MT (p:bh)(SB:J->Bool)(fr:N):Prop:=∀o,fr.oper?=bl o->Kj p SB o.op=U
def rx {o O:Option Nat}(h:Hr H β o O):o.isNone=O.isNone:=by cases h<;>rfl
section
variable {fn:J} {tmps Gm:Array cw} {todo Hs:List dr} {defers FQ:List bn} {kind:df} {round round':Option Nat} {cs CS:List N} {w W:bs} {n:Nat}
def bC {mode a6:cF}(a2:D8 (SP SB H) β tmps Gm)(a3:E5 (F5 P.a SB H zZ round.isNone β) todo Hs)(a4:E5 (FH (SP SB H) β) defers FQ)(a5:Jm SB H β mode a6)(a7:kind≠.early/\SB fn=bb)(a8:Hr H β round round')
  (hc:Fu P.a SB H zZ T β cs CS) (hw:EI (SP SB H) (CK P.a SB zZ) Gn β w W) :
  FP P SB H zZ BB T Gn β w W (.go { frame:=⟨fn,tmps,todo,defers,mode,kind,round⟩,callers:=cs,status:=.running,dying:=ak } w #[]) (.go { frame:=⟨fn,Gm,Hs,FQ,a6,kind,round'⟩,callers:=CS,status:=.running,dying:=ak } W #[]) :=
 Y ⟨β,_,W,_,rfl,aR ⟨rfl,a2,a3,a4,a5,rfl,a7,a8⟩ hc,by simpa using Fin.refl hw⟩
def dJ (j:Option cE)(hj:∀c,j=bl c->codeOk P.a SB zZ U c=bb)(a7:kind≠.early/\SB fn=bb){l L:Nat}(hl:β l L)(hh:H l=U)
  (hc:Fu P.a SB H zZ T β cs CS) (zU:cs≠[]) (hw:EI (SP SB H) (CK P.a SB zZ) Gn β w W) (ht:JY n w W)
  (hb : (aQ (bk (seen P.a fn ((bc l j).runT P.a w #[]).2) (match ((bc l j).runT P.a w #[]).1 with
    |.ok v w=>bq P.a main ⟨fn,tmps,todo,defers,.run,kind,round⟩ cs ak v w
    |.halt _ w=>.ended (.stuck "range over a function: no such loop" (dn P.a ⟨fn,tmps,todo,defers,.run,kind,round⟩)) w))).drawn<=w.drawn+n) :
  FP P SB H zZ BB T Gn β w W (bk (seen P.a fn ((bc l j).runT P.a w #[]).2) (match ((bc l j).runT P.a w #[]).1 with
    |.ok v w=>bq P.a main ⟨fn,tmps,todo,defers,.run,kind,round⟩ cs ak v w
    |.halt _ w=>.ended (.stuck "range over a function: no such loop" (dn P.a ⟨fn,tmps,todo,defers,.run,kind,round⟩)) w))
   (bk (seen P.b fn ((bc L j).runT P.b W #[]).2) (match((bc L j).runT P.b W #[]).1 with
    |.ok v w=>bq P.b main2 ⟨fn,Gm,Hs,FQ,.run,kind,round'⟩ CS ak v w
    |.halt _ w=>.ended (.stuck "range over a function: no such loop" (dn P.b ⟨fn,Gm,Hs,FQ,.run,kind,round'⟩)) w)):=by
 have hm:=nI (P:=P) (Ck:=CK P.a SB zZ) (G:=Gn) (S:=SP SB H) hl hh j hj;have hE:=hm w W n hw ht #[] #[];rcases hr:(bc l j).runT P.a w #[] with⟨r,es⟩
 rw[hr] at hb hE;cases r with
 |ok v w' =>
  have a6:w'.drawn<=w.drawn+n:=by
   have:∀cs,(aQ (bk (seen P.a fn es) (bq P.a main ⟨fn,tmps,todo,defers,.run,kind,round⟩ cs ak v w')))=w'\/cs=[]:=by
    intro cs;cases cs with
    |nil=>exact .inr rfl
    |cons c cs =>
     refine .inl ?_;unfold bq;cases kind<;>rfl
   obtain h|h:=this cs
   .rw[<-h];exact hb
   .exact AI h zU
  obtain⟨D6,X,W',ES,e1,e2,e3⟩:=hE a6;simp only[e1,Bt];have hc':=hc.mono λ_ _ (r:Er P.a SB H zZ β _ _)=>r.mono e3.le;have a8:=e3.seen (P:=P) (SB:=SB) (H:=H) (zZ:=zZ) fn;have:=fd (P:=P) (main:=main) (main2:=main2) (BB:=BB) (fr:=⟨fn,tmps,todo,defers,.run,kind,round⟩) (FR:=⟨fn,Gm,Hs,FQ,.run,kind,round'⟩) rfl a7.1 hc' zU e2 a8 (seen P.a fn es);simpa using this
 |halt x w'=>trivial
end
def _root_.Go.Eu.Ed.Qx {S:Fy}{Ck:cE->Prop}{α Hd:Type}{m:Sem α}{M:Sem Hd}{R:Em->α->Hd->Prop}(h:Ed P S Ck Gn β m M R){w W:bs}(hw:EI S Ck Gn β w W){a6 es:Array cf}{a:α}{w':bs}(hr:m.runT P.a w a6=(.ok a w',es)):∃D6 A W',R D6 a A/\β.le D6/\EI S Ck Gn D6 w' W':=by
 have hw':EI S Ck Gn β w { W with tape:=λi q=>w.tape (w.drawn+(i-W.drawn)) q }:=⟨hw.Fv,hw.room,hw.FJ,hw.FV,hw.old,hw.env⟩
 have:=h w { W with tape:=λi q=>w.tape (w.drawn+(i-W.drawn)) q } ((world (m.runT P.a w a6).1).drawn-w.drawn) hw' (λi _ q=>by
  show w.tape (w.drawn+i) q=w.tape (w.drawn+(W.drawn+i-W.drawn)) q
  rw[show W.drawn+i-W.drawn=i from by omega]) a6 #[] (by omega)
 rw[hr] at this;obtain⟨D6,A,W',_,_,h,hf⟩:=this;exact⟨D6,A,W',h,hf.le,hf.rel⟩
def nJ {fr:N}{cs:List N}{m M:Sem Next}(hm:Ed P (SP SB H) (CK P.a SB zZ) Gn β m M (H4 (SP SB H) (CK P.a SB zZ))){w W:bs}(hw:EI (SP SB H) (CK P.a SB zZ) Gn β w W) :
  w.drawn<=(aQ (bw P.a bb fr cs ak m w)).drawn:=by
 have h0:=Gf P.a m w #[];have a6:=hm.Ni hw #[];have hsome:=λ(a:Next) (w':bs) (es:Array cf) (e:m.runT P.a w #[]=(.ok a w',es))=>hm.some hw e;unfold bw;simp only[if_true];rcases hr:m.runT P.a w #[] with⟨r,es⟩
 rw[hr] at a6 h0;cases r with
 |ok x w' =>
  obtain⟨_,_,hx⟩:=hsome x w' es hr;cases hx<;>exact h0
 |halt x w' =>
  cases x with
  |panic v=>exact h0
  |stuck s=>exact h0
  |unsupported u =>
   cases u with
   |initOrder g=>exact AI rfl (a6 g)
   |_=>exact h0
  |_=>exact a6.elim
def FP.after {w W w' W':bs}{ES:List cf}(hf:Fin (SP SB H) (CK P.a SB zZ) Gn β D6 w W w' W' ES){s S:GStep}(h:FP P SB H zZ BB T Gn D6 w' W' s S)(es:Array cf):FP P SB H zZ BB T Gn β w W (bk es s) (bk ES.toArray S):=by
 cases s with
 |go g w2 es2 =>
  obtain h|⟨a6,g2,W2,ES2,rfl,h2,h3⟩:=h
  .exact Or.inl h
  refine Y ⟨a6,g2,W2,_,rfl,h2,?_⟩;have:=hf.trans h3;simpa using this
 |ended o w es=>trivial
 |_=>exact h.elim
def tO (L:Lib P SB H zZ BB Gn){fr FR:N}{cs CS:List N}(hf:Er P.a SB H zZ β fr FR)(hm:fr.mode=.run)(hc:Fu P.a SB H zZ T β cs CS)(zK:MT P.a SB fr){w W:bs}{n:Nat}(hw:EI (SP SB H) (CK P.a SB zZ) Gn β w W)(ht:JY n w W)
  (hb:(aQ (Z P.a main bb fr cs ak w)).drawn<=w.drawn+n) :
  FP P SB H zZ BB T Gn β w W (Z P.a main bb fr cs ak w) (Z P.b main2 bb FR CS ak W):=by
 obtain⟨fn,tmps,todo,defers,mode,kind,round⟩:=fr;obtain⟨GY,Gm,Hs,FQ,aT,aU,round'⟩:=FR;have aB:=hf;obtain⟨a1,a2,a3,a4,a5,a6,a7,a8⟩:=hf;dsimp only at a1 a2 a3 a4 a5 a6 a7 a8 hm;subst a1 a6 hm;cases a5;cases a3 with
 |nil =>
  cases a8 with
  |none =>
   simp only[Z] at hb ⊢;exact bC a2 .nil a4 .returning a7 .none hc hw
  |@some l L' hl hh =>
   have zU:cs≠[]:=hc.ne;simp only[Z] at hb ⊢;exact dJ ak (λc e=>by cases e) a7 hl hh hc zU hw ht hb
 |@cons i I l L' hi hl =>
  cases hi with
  |@code c aA =>
   have leave : ∀ (j : Option cE), (∀ c, j = bl c -> codeOk P.a SB zZ U c = bb) -> (∀ c, j = bl c -> c ≠ .ret -> round ≠ ak) ->
     Z P.a main bb ⟨fn,tmps,.code c::l,defers,.run,kind,round⟩ cs ak w=Z P.a main bb ⟨fn,tmps,.code c::l,defers,.run,kind,round⟩ cs ak w->True:=λ_ _ _ _=>trivial
   cases c with
   |skip=>exact bC a2 hl a4 .run a7 a8 hc hw
   |label l0=>exact bC a2 hl a4 .run a7 a8 hc hw
   |refuse s=>trivial
   |ret =>
    cases a8 with
    |none=>exact bC a2 (.cons (.code aA) hl) a4 .returning a7 .none hc hw
    |@some l0 L0 hl0 hh =>
     have zU:cs≠[]:=hc.ne;exact dJ (bl .ret) (λc e=>by cases e;rfl) a7 hl0 hh hc zU hw ht hb
   |seq a b =>
    simp only[codeOk,AN] at aA;exact bC a2 (.cons (.code aA.1) (.cons (.code aA.2) hl)) a4 .run a7 a8 hc hw
   |cond x a b =>
    simp only[codeOk,AN] at aA;have hx:=aB.eval aA.1.1;simp only[Z] at hb ⊢;revert hx;generalize br ⟨fn,tmps,.code (.cond x a b)::l,defers,.run,kind,round⟩ x=v;generalize br ⟨fn,Gm,.code (.cond x a b)::L',FQ,.run,kind,round'⟩ x=V;intro hx;cases hx with
    |bool t =>
     cases t with
     |true=>exact bC a2 (.cons (.code aA.1.2) hl) a4 .run a7 a8 hc hw
     |false=>exact bC a2 (.cons (.code aA.2) hl) a4 .run a7 a8 hc hw
    |_=>trivial
   |block id b=>exact bC a2 (.cons (.code aA) (.cons (.inBlock id) hl)) a4 .run a7 a8 hc hw
   |loop b=>exact bC a2 (.cons (.code aA) (.cons (.inLoop aA) hl)) a4 .run a7 a8 hc hw
   |scope b=>exact bC a2 (.cons (.code aA) (.cons (.inScope aA) hl)) a4 .run a7 a8 hc hw
   |exit id =>
    obtain⟨e1,e2⟩|⟨k,K,e1,e2,hk⟩:=Mq id hl
    .cases a8 with
     |none=>simp only[Z,e1,bW];trivial
     |@some l0 L0 hl0 hh =>
      have zU:cs≠[]:=hc.ne;simp only[Z,e1,e2,bW] at hb ⊢;exact dJ (bl (.exit id)) (λc e=>by cases e;rfl) a7 hl0 hh hc zU hw ht hb
    .simp only[Z,e1,e2,c0];exact bC a2 hk a4 .run a7 a8 hc hw
   |goto l1 =>
    obtain⟨e1,e2⟩|⟨k,K,e1,e2,hk⟩:=Mr l1 hl
    .cases a8 with
     |none=>simp only[Z,e1,bW];trivial
     |@some l0 L0 hl0 hh =>
      have zU:cs≠[]:=hc.ne;simp only[Z,e1,e2,bW] at hb ⊢;exact dJ (bl (.goto l1)) (λc e=>by cases e;rfl) a7 hl0 hh hc zU hw ht hb
    .simp only[Z,e1,e2,c0];exact bC a2 hk a4 .run a7 a8 hc hw
   |rangeFunc f ps Aw bo =>
    simp only[codeOk,AN] at aA;have ho:(round=ak/\round'=ak)\/∃l L,round=bl l/\round'=bl L/\β l L/\(SP SB H).hid l=false:=by
     cases a8 with
     |none=>exact .inl ⟨rfl,rfl⟩
     |some x y=>exact .inr ⟨_,_,rfl,rfl,x,y⟩
    have hm:=mb (P:=P) (Ck:=CK P.a SB zZ) (G:=Gn) (S:=SP SB H) fn a7.2 a2 ps aA.1.2 aA.2 ho;have hE:=hm w W n hw ht #[] #[];simp only[Z] at hb ⊢;rcases hr:(b9 fn tmps ps Aw bo round).runT P.a w #[] with⟨r,es⟩
    rw[hr] at hb hE;cases r with
    |ok x w' =>
     obtain⟨l0,mark⟩:=x;have next : ∀ (D6 : Em) (l0 L0 : Nat), β.le D6 -> D6 l0 L0 -> H l0 = U -> ∀ (m M : List bn),
       Ed P (SP SB H) (CK P.a SB zZ) Gn D6 (do
        let d<-resolve (br ⟨fn,tmps,.inRangeFunc l0::l,m++defers,.run,kind,round⟩) { callee:=.value f,args:=#[.const (.func (.yield l0) #[] #[])],argTypes:=#[] } 0
        invoke d.target d.args) (do
        let d<-resolve (br ⟨fn,Gm,.inRangeFunc L0::L',M++FQ,.run,kind,round'⟩) { callee:=.value f,args:=#[.const (.func (.yield L0) #[] #[])],argTypes:=#[] } 0
        invoke d.target d.args) (H4 (SP SB H) (CK P.a SB zZ)):=by
      intro D6 l0 L0 zX hl0 aL m M;unfold resolve;dsimp only;have hx:DZ (SP SB H) D6 (br ⟨fn,tmps,.inRangeFunc l0::l,m++defers,.run,kind,round⟩ f) (br ⟨fn,Gm,.inRangeFunc L0::L',M++FQ,.run,kind,round'⟩ f):=by
       have:=(aB.eval aA.1.1).mono zX;cases f with
       |tmp t=>exact this
       |const v=>exact this
       |global g=>exact this
       |func g=>exact this
      refine DX (gp hx ?_) ?_
      .simp only[Cr,Cd,CG,br];exact D8.one (.func (.yield hl0 aL) rfl (by simp) rfl (by simp))
      .intro aM d D _ hd;exact ig L.calls hd
     obtain⟨aN,⟨L1,M1⟩,W1,hx1,aO,aP⟩:=hm.Qx hw hr;have hd:=nJ (fr:=⟨fn,tmps,.inRangeFunc l0::l,mark++defers,.run,kind,round⟩) (cs:=cs) (next aN l0 L1 aO hx1.1 hx1.2.1 mark M1) aP;have aS:w'.drawn<=w.drawn+n:=by
      have e:∀s,aQ (bk (seen P.a fn es) s)=aQ s:=λs=>by cases s<;>rfl
      rw[e] at hb;exact AH hd hb
     obtain⟨D6,⟨L0,M0⟩,W',ES,e1,⟨e2,aD,aJ⟩,e3⟩:=hE aS;simp only[e1,Bt];have hc':=hc.mono λ_ _ (r:Er P.a SB H zZ β _ _)=>r.mono e3.le;have zR:Er P.a SB H zZ D6 ⟨fn,tmps,.inRangeFunc l0::l,mark++defers,.run,kind,round⟩ ⟨fn,Gm,.inRangeFunc L0::L',M0++FQ,.run,kind,round'⟩ :=
      ⟨rfl,a2.mono e3.le,.cons (.inRangeFunc e2 aD) (hl.mono λ_ _=>F5.mono e3.le),aJ.append (a4.mono λ_ _=>FH.mono e3.le),.run,rfl,a7,a8.mono e3.le⟩
     have h3:=e3.drawn
     have:=ij (BB:=BB) L zR hc' (next D6 l0 L0 e3.le e2 aD mark M0) e3.rel (ht.rest e3) (by
      have e:∀s,aQ (bk (seen P.a fn es) s)=aQ s:=λs=>by cases s<;>rfl
      rw[e] at hb;refine AH hb ?_
      omega)
     have:=FP.after (e3.seen (P:=P) (SB:=SB) (H:=H) (zZ:=zZ) fn) this (seen P.a fn es);simpa using this
    |halt x w'=>trivial
   |region id ops draw =>
    have aG:ops.all (cy P.a SB zZ round.isNone)=true:=by have h0:=aA;simp only[codeOk,AN] at h0;exact h0.1
    cases draw with
    |false=>exact bC a2 (.cons (.inRegion aG) hl) a4 .run a7 a8 hc hw
    |true =>
     have hm:=fz (P:=P) (Ck:=CK P.a SB zZ) (G:=Gn) (S:=SP SB H) (β:=β) (.order fn id);have hE:=hm w W n hw ht #[] #[];simp only[Z,Bool.not_true,AZ,if_false] at hb ⊢;rw[<-Sem.runT_fst P.a (choose (.order fn id)) w #[]] at hb ⊢;rw[<-Sem.runT_fst P.b (choose (.order fn id)) W #[]];rcases hr:(choose (.order fn id)).runT P.a w #[] with⟨r,es⟩
     rw[hr] at hb hE;cases r with
     |ok t w' =>
      obtain⟨D6,X,W',ES,e1,e2,e3⟩:=hE hb;simp only[e1];subst e2;have hc':=hc.mono λ_ _ (r:Er P.a SB H zZ β _ _)=>r.mono e3.le;exact Y ⟨D6,_,W',_,rfl,aR ⟨rfl,a2.mono e3.le,.cons (.inRegion aG) (hl.mono λ_ _=>F5.mono e3.le),a4.mono λ_ _=>FH.mono e3.le,.run,rfl,a7,a8.mono e3.le⟩ hc',{ e3 with evs:=by simp }⟩
     |halt x w'=>trivial
  |inBlock id=>exact bC a2 hl a4 .run a7 a8 hc hw
  |@inLoop c aA=>exact bC a2 (.cons (.code aA) (.cons (.inLoop aA) hl)) a4 .run a7 a8 hc hw
  |@inScope c aA=>exact bC a2 hl a4 .run a7 a8 hc hw
  |@inRegion ops todo ho =>
   cases todo with
   |nil=>exact bC a2 hl a4 .run a7 a8 hc hw
   |cons i rest =>
    have hy:yielded ops Gm=yielded ops tmps:=(funext λj=>i4 a2 ops j).symm;simp only[Z,hy] at hb ⊢;by_cases aF:(Option.map (λx=>Region.wanted x (yielded ops tmps)) ops[i]?).getD U=bb
    .simp only[AF aF] at hb ⊢;cases hoi:ops[i]? with
     |none=>rw[hoi] at aF;cases aF
     |some o =>
      have aK:=zK o (by unfold ea;exact hoi);have aC:cy P.a SB zZ round.isNone o=true:=by
       simp only[Ba] at ho;exact ho o (Bi hoi)
      unfold cy at aC;rw[aK] at aC;simp only[Cj,C6,AN,Bm,B2] at aC;have key:∀(p:bh) (t:Array cw) (k:List dr) (ds:List bn) (r:Option Nat),r.isNone=round.isNone->∀cs w,eb p bb ⟨fn,t,.inRegion ops (i::rest)::k,ds,.run,kind,r⟩ cs ak w=bw p bb ⟨fn,t,.inRegion ops (i::rest)::k,ds,.run,kind,r⟩ cs ak (execOp (br ⟨fn,t,.inRegion ops (i::rest)::k,ds,.run,kind,r⟩) o) w:=by
       intro p t k ds r hr cs w;unfold eb ea;simp only[hoi];cases r with
       |none=>rfl
       |some l0 =>
        rw[<-hr] at aC;cases hop:o.op with
        |defer c=>rw[hop] at aC;simp[oM] at aC
        |_=>rfl
      rw[key _ _ _ _ _ rfl] at hb ⊢;rw[key _ _ _ _ _ (rx a8).symm];exact ij L aB hc (rv L.Rh L.calls (λx hx=>aB.eval hx) aC.1) hw ht hb
    .simp only[AD aF] at hb ⊢;exact Y ⟨β,_,W,_,rfl,aR (bp aB (.tuple rfl (by simp))) hc,by simpa using Fin.refl hw⟩
  |inRangeFunc x y=>trivial
  |@endRangeFunc l0 L0 x y =>
   have hm:=pR (P:=P) (Ck:=CK P.a SB zZ) (G:=Gn) (S:=SP SB H) x y;have hE:=hm w W n hw ht #[] #[];have aI:=hm.Ni hw #[];simp only[Z] at hb ⊢;rcases hr:(cL l0).runT P.a w #[] with⟨r,es⟩
   rw[hr] at hb hE aI;cases r with
   |ok j w' =>
    obtain⟨D6,X,W',ES,e1,⟨e2,aD⟩,e3⟩:=hE hb;subst e2;simp only[e1,Bt];have hc':=hc.mono λ_ _ (r:Er P.a SB H zZ β _ _)=>r.mono e3.le;have aH:=e3.seen (P:=P) (SB:=SB) (H:=H) (zZ:=zZ) fn;have hl':=hl.mono λ_ _ (r:F5 P.a SB H zZ round.isNone β _ _)=>r.mono e3.le;refine Y ⟨D6,_,W',_,rfl,aR ⟨rfl,a2.mono e3.le,?_,a4.mono λ_ _=>FH.mono e3.le,.run,rfl,a7,a8.mono e3.le⟩ hc',by simpa using aH⟩
    cases j with
    |none=>exact hl'
    |some c=>exact .cons (.code (bI (aD c rfl))) hl'
   |halt x w' =>
    cases x with
    |panic v =>
     obtain⟨D6,X,W',ES,e1,e2,e3⟩:=hE hb;simp only[e1,Bt];have hc':=hc.mono λ_ _ (r:Er P.a SB H zZ β _ _)=>r.mono e3.le;have aH:=e3.seen (P:=P) (SB:=SB) (H:=H) (zZ:=zZ) fn;exact Y ⟨D6,_,W',_,rfl,aR (cN (aB.mono e3.le) (.cons (.mk _ _ e2) .nil)) hc',by simpa using aH⟩
    |_=>trivial
  |beginRound =>
   have hm:Ed P (SP SB H) (CK P.a SB zZ) Gn β (do round.elim (stuck "beginRound: no round") bD;pure .skip:Sem Next) (do round'.elim (stuck "beginRound: no round") bD;pure .skip) (H4 (SP SB H) (CK P.a SB zZ)):=by
    cases a8 with
    |none=>exact DX (R:=λ_ _ _=>False) D7 (λ_ _ _ _ h=>h.elim)
    |some x y =>
     refine DX (lJ x y) ?_;intro aM _ _ _ _;exact DY .skip
   simp only[Z] at hb ⊢;exact ij L aB hc hm hw ht hb
def Ready (p:bh)(SB:J->Bool)(g:cK):Prop:=g.frame.mode=.run->MT p SB g.frame
def dR (L:Lib P SB H zZ BB Gn){g g2:cK}(hg:FX P SB H zZ BB T β g g2)(a8:Er P.a SB H zZ β g.frame g2.frame)(hr:Ready P.a SB g){w W:bs}{n:Nat}(hw:EI (SP SB H) (CK P.a SB zZ) Gn β w W)(ht:JY n w W)
  (hb:(aQ (ck P.a main g w)).drawn<=w.drawn+n) :
  FP P SB H zZ BB T Gn β w W (ck P.a main g w) (ck P.b main2 g2 W):=by
 obtain⟨fr,cs,st,dy,off⟩:=g;obtain⟨FR,CS,I8,dy',a7⟩:=g2;obtain⟨h1,h2,⟨h3,aB⟩,⟨h4,aA⟩,⟨h5,h5'⟩⟩:=hg;dsimp only at *;subst h4 aA;have hm:=a8.mode;cases a6:fr.mode with
 |run =>
  rw[a6] at hm;have e1:ck P.a main ⟨fr,cs,st,ak,off⟩ w=Z P.a main bb fr cs ak w:=by unfold ck;simp only[a6]
  have e2:ck P.b main2 ⟨FR,CS,I8,ak,a7⟩ W=Z P.b main2 bb FR CS ak W:=by
   have:FR.mode=.run:=by generalize FR.mode=q at hm;cases hm;rfl
   unfold ck;simp only[this]
  rw[e1] at hb ⊢;rw[e2];exact tO L a8 a6 h2 (hr a6) hw ht hb
 |returning =>
  rw[a6] at hm;have e1:ck P.a main ⟨fr,cs,st,ak,off⟩ w=unwind P.a main fr cs ak w:=by unfold ck;simp only[a6]
  have e2:ck P.b main2 ⟨FR,CS,I8,ak,a7⟩ W=unwind P.b main2 FR CS ak W:=by
   have:FR.mode=.returning:=by generalize FR.mode=q at hm;cases hm;rfl
   unfold ck;simp only[this]
  rw[e1] at hb ⊢;rw[e2];exact jL L a8 h2 hw ht hb
 |panicking l =>
  rw[a6] at hm;have e1:ck P.a main ⟨fr,cs,st,ak,off⟩ w=unwind P.a main fr cs ak w:=by unfold ck;simp only[a6]
  have e2:ck P.b main2 ⟨FR,CS,I8,ak,a7⟩ W=unwind P.b main2 FR CS ak W:=by
   have:∃l,FR.mode=.panicking l:=by generalize FR.mode=q at hm;cases hm;exact⟨_,rfl⟩
   obtain⟨l,this⟩:=this;unfold ck;simp only[this]
  rw[e1] at hb ⊢;rw[e2];exact jL L a8 h2 hw ht hb
end
def ED.of (p:bh):ED:=⟨p,p.funcs⟩
abbrev ED.self (P:ED):ED:=ED.of P.a
section
variable {P:ED} {SB:J->Bool} {H:Hid} {zZ:Bool} {BB:J->Bool} {β:Em} {G:Nat}
def F5.id {ad:Bool}(h:β.NS){i I:dr}(r:F5 P.a SB H zZ ad β i I):i=I:=by
 cases r with
 |inRangeFunc hl _=>rw[h _ _ hl]
 |endRangeFunc hl _=>rw[h _ _ hl]
 |_=>rfl
def Jm.id (h:KD H β){m M:cF}(r:Jm SB H β m M):m=M:=by
 cases r with
 |panicking l=>rw[E5.id (λa A (r:Jd SB H β a A)=>by cases r with|mk x y v=>rw[v.id h]) l]
 |_=>rfl
def Hr.id (h:β.NS){o O:Option Nat}(r:Hr H β o O):o=O:=by
 cases r with
 |none=>rfl
 |some hl _=>rw[h _ _ hl]
def Er.id (h:KD H β){f F:N}(r:Er P.a SB H zZ β f F):f=F:=by
 have h1:=r.fn;have h2:=r.tmps.id h;have h3:=r.todo.id λ_ _=>F5.id h.2;have h4:=r.defers.id λ_ _=>FH.id h;have h5:=r.mode.id h;have h6:=r.kind;have h7:=r.round.id h.2;obtain⟨b1,b2,b3,b4,b5,b6,b7⟩:=F;dsimp only at *;subst h1 h2 h3 h4 h5 h6 h7
 rfl
def F7.id (h:KD H β){f F:N}(r:F7 P.self SB H zZ BB β f F):f=F:=by
 cases r with
 |on r=>exact r.id h
 |stop _ _ _ a=>rw[a.id h];rfl
def Fu.id (h:KD H β){cs CS:List N}(r:Fu P.a SB H zZ [bad] β cs CS):cs=CS:=by
 induction r with
 |base=>rfl
 |cons a _ ih=>rw[a.id h,ih]
def FX.id (h:KD H β){g g':cK}(r:FX P.self SB H zZ BB [bad] β g g'):g=g':=by
 have h1:=r.top.id h;have h2:=r.callers.id h;obtain⟨a1,a2,a3,a4,a5⟩:=g;obtain⟨b1,b2,b3,b4,b5⟩:=g';obtain⟨_,_,⟨s1,s2⟩,⟨d1,d2⟩,⟨o1,o2⟩⟩:=r;dsimp only at *;subst h1 h2 s1 s2 d1 d2 o1 o2
 rfl
end
end Go.Eu
