/- Parts of the proof. -/
import Derived.Test.YteckikkkfpblhaaGreatP04
import Derived.Test.YteckikkkfpblhaaGreatP00
set_option linter.all false
namespace Go.AW
def nI:Op->Bool
 |.defer _=>true
 |_=>false
def i7 (s:String):Bool:=s == "internal/race.Disable"||s == "internal/race.Enable"||s == "internal/race.Acquire"||s == "internal/race.ReleaseMerge"
def dv (p:Program)(f:FuncId):Bool:=match p.funcs[f]? with
 |some fn=>fn.body.isNone&&i7 fn.name
 |none=>false
def aU {p:Program}{f:FuncId}{fn:Func}(h:p.funcs[f]?=some fn)(hb:fn.body.isSome=true):dv p f=false:=by
 unfold dv;rw[h];cases hx:fn.body with
 |none=>rw[hx] at hb;cases hb
 |some c=>simp[hx]
def dJ {p:Program}{f:FuncId}{fn:Func}(h:p.funcs[f]?=some fn)(hb:i7 fn.name=false):dv p f=false:=by
 unfold dv;rw[h];simp[hb]
def ew (p:Program)(c:Call):Bool:=match c.callee with
 |.value (.func f)=>dv p f
 |_=>false
def ey (P:Program)(s d:TypeId):Bool:=match P.underlying s,P.underlying d with
 |some (.pointer _),some .unsafePointer=>true
 |_,_=>false
def aJ (p:Program):Op->Bool
 |.go _=>false
 |.call c=>!ew p c
 |.convert s d _=>!ey p s d
 |_=>true
def IP (P:Program)(SB:FuncId->Bool):Op->Bool
 |.go c=>bI P SB c&&match c.callee with
  |.builtin _=>false
  |_=>true
 |.call c=>ew P c&&c.args.all (ah SB)&&match c.callee with
  |.value (.func f)=>!SB f
  |_=>false
 |.convert s d x=>ey P s d&&ah SB x
 |_=>false
def oM {P:Program}{SB:FuncId->Bool}{op:Op}(h:aJ P op=true):IP P SB op=false:=by
 cases op with
 |go c=>simp[aJ] at h
 |call c=>simp only[aJ,yw] at h;simp[IP,h]
 |convert s d x=>simp only[aJ,yw] at h;simp[IP,h]
 |_=>rfl
def iK {P:Program}{s d:TypeId}(h:gI P s d=true):ey P s d=false:=by
 unfold gI at h;unfold ey;split at h
 .rename_i h1 h2;rw[h1,h2]
 .cases h
def rS {P p:Program}{SB:FuncId->Bool}{o:Oper}(h:du P SB o=true)(hn:∀f,SB f=true->dv p f=false)(hu:∀t,p.underlying t=P.underlying t):aJ p o.op=true:=by
 unfold du NB at h;cases hop:o.op with
 |go c=>rw[hop] at h;simp at h
 |call c =>
  rw[hop] at h;simp only[aJ,yw];unfold ew;cases hc:c.callee with
  |value f=>cases f with
   |func f =>
    simp only[bI,hc,xC] at h;exact hn f h.1.2
   |_=>rfl
  |_=>rfl
 |convert s d x =>
  rw[hop] at h;simp only[xC] at h;simp only[aJ,yw];have:=iK h.1.1;unfold ey at this ⊢;rw[hu,hu];exact this
 |_=>rfl
def tJ {P:Program}{SB:FuncId->Bool}{o:Oper}(h:du P SB o=true):IP P SB o.op=false:=by
 unfold du NB at h;cases hop:o.op with
 |go c=>rw[hop] at h;simp at h
 |call c =>
  rw[hop] at h;unfold IP;cases hc:c.callee with
  |value f=>cases f with
   |func f =>
    simp only[bI,hc,xC] at h;have h2:SB f=true:=h.1.2;simp[hc,h2]
   |_=>simp[ew,hc]
  |_=>simp[ew,hc]
 |convert s d x =>
  rw[hop] at h;simp only[xC] at h;simp[IP,iK h.1.1]
 |_=>rfl
def ct (P:Program)(SB:FuncId->Bool)(lets ad:Bool)(o:Oper):Bool:=(du P SB o&&(ad||!nI o.op))||(lets&&IP P SB o.op)
def vb:Op->Bool
 |.call c=>(match c.callee with|.value (.func f)=>f==73|_=>false)&&(match(c.args[1]?:Option Operand) with|some (Operand.const (Value.int _ n))=>decide (n<0)|_=>false)
 |_=>false
def codeOk (P:Program)(SB:FuncId->Bool)(lets:Bool):Bool->Code->Bool
 |_,.skip|_,.exit _|_,.label _|_,.goto _|_,.ret=>true
 |_,.refuse _=>true
 |ad,.region _ ops _=>ops.all (ct P SB lets ad)&&!ops.any λo=>vb o.op
 |ad,.seq a b=>codeOk P SB lets ad a&&codeOk P SB lets ad b
 |ad,.cond c a b=>ah SB c&&codeOk P SB lets ad a&&codeOk P SB lets ad b
 |ad,.block _ b|ad,.loop b|ad,.scope b=>codeOk P SB lets ad b
 |_,.rangeFunc f _ xd bo=>ah SB f&&codeOk P SB lets false xd&&codeOk P SB lets false bo
section
variable (P:Program) (SB:FuncId->Bool) (H:Hid) (lets:Bool)
abbrev CK:Code->Prop:=λc=>codeOk P SB lets false c=true
inductive C0 (ad:Bool)(β:AO):Item->Item->Prop
 |code {c:Code}:codeOk P SB lets ad c=true->C0 ad β (.code c) (.code c)
 |inBlock (id:Nat):C0 ad β (.inBlock id) (.inBlock id)
 |inLoop {c:Code}:codeOk P SB lets ad c=true->C0 ad β (.inLoop c) (.inLoop c)
 |inScope {c:Code}:codeOk P SB lets ad c=true->C0 ad β (.inScope c) (.inScope c)
 |inRegion {ops:Array Oper} {l:List Nat}:ops.all (ct P SB lets ad)=true->C0 ad β (.inRegion ops l) (.inRegion ops l)
 |inRangeFunc {l L:Nat}:β l L->H l=false->C0 ad β (.inRangeFunc l) (.inRangeFunc L)
 |endRangeFunc {l L:Nat}:β l L->H l=false->C0 ad β (.endRangeFunc l) (.endRangeFunc L)
 |beginRound:C0 ad β .beginRound .beginRound
inductive GC (β:AO):PanicEntry->PanicEntry->Prop
 |mk {v V:Value} (r g:Bool):Aw (SP SB H) β v V->GC β ⟨v,r,g⟩ ⟨V,r,g⟩
inductive GQ (β:AO):FrameMode->FrameMode->Prop
 |run:GQ β .run .run
 |returning:GQ β .returning .returning
 |panicking {l L:List PanicEntry}:BJ (GC SB H β) l L->GQ β (.panicking l) (.panicking L)
inductive EC (β:AO):Option Nat->Option Nat->Prop
 |none:EC β none none
 |some {l L:Nat}:β l L->H l=false->EC β (some l) (some L)
structure AQ (β:AO)(f F:Frame):Prop where
 fn:f.fn=F.fn
 tmps:AA (SP SB H) β f.tmps F.tmps
 todo:BJ (C0 P SB H lets f.roundOf.isNone β) f.todo F.todo
 defers:BJ (Cl (SP SB H) β) f.defers F.defers
 mode:GQ SB H β f.mode F.mode
 kind:f.kind=F.kind
 late:f.kind≠.early/\SB f.fn=true
 round:EC H β f.roundOf F.roundOf
def bad:Frame:={ fn:=0,tmps:=#[],todo:=[.code (.refuse "")],defers:=[⟨.nil,#[]⟩],mode:=.run,kind:=.normal }
inductive B3 (T:List Frame)(β:AO):List Frame->List Frame->Prop
 |base:B3 T β [bad] T
 |cons {c C:Frame} {cs CS:List Frame}:AQ P SB H lets β c C->B3 T β cs CS->B3 T β (c::cs) (C::CS)
end
section
variable (P:Ba) (SB:FuncId->Bool) (H:Hid) (lets:Bool)
inductive C5 (BB:FuncId->Bool)(β:AO):Frame->Frame->Prop
 |on {f F:Frame}:AQ P.a SB H lets β f F->C5 BB β f F
 |stop {f:FuncId} {a A:Array Value} {k:CallKind}:(SB f=true\/aM SB f=true)->BB f=false->k≠.early->AA (SP SB H) β a A->C5 BB β (Frame.enter P.a f a k) (Frame.enter P.b f A k)
structure CI (BB:FuncId->Bool)(T:List Frame)(β:AO)(g g':Goroutine):Prop where
 top:C5 P SB H lets BB β g.frame g'.frame
 callers:B3 P.a SB H lets T β g.callers g'.callers
 status:g.status=.running/\g'.status=.running
 dying:g.dying=none/\g'.dying=none
 offers:g.offers=none/\g'.offers=none
end
section
variable {P:Ba} {SB:FuncId->Bool} {H:Hid} {lets:Bool} {BB:FuncId->Bool} {β Ax:AO} {G:Nat}
def B3.mono {T:List Frame}(h:∀c C,AQ P.a SB H lets β c C->AQ P.a SB H lets Ax c C){cs CS:List Frame}(r:B3 P.a SB H lets T β cs CS):B3 P.a SB H lets T Ax cs CS:=by
 induction r with
 |base=>exact .base
 |cons a _ ih=>exact .cons (h _ _ a) ih
def B3.ne {T:List Frame}{cs CS:List Frame}(r:B3 P.a SB H lets T β cs CS):cs≠[]:=by
 cases r<;>simp
def C0.mono {ad:Bool}(h:β.le Ax){i I:Item}(r:C0 P.a SB H lets ad β i I):C0 P.a SB H lets ad Ax i I:=by
 cases r with
 |code c=>exact .code c
 |inBlock id=>exact .inBlock id
 |inLoop c=>exact .inLoop c
 |inScope c=>exact .inScope c
 |inRegion c=>exact .inRegion c
 |inRangeFunc a b=>exact .inRangeFunc (h _ _ a) b
 |endRangeFunc a b=>exact .endRangeFunc (h _ _ a) b
 |beginRound=>exact .beginRound
def GC.mono (h:β.le Ax){i I:PanicEntry}(r:GC SB H β i I):GC SB H Ax i I:=by
 cases r with
 |mk a b v=>exact .mk a b (v.mono h)
def GQ.mono (h:β.le Ax){i I:FrameMode}(r:GQ SB H β i I):GQ SB H Ax i I:=by
 cases r with
 |run=>exact .run
 |returning=>exact .returning
 |panicking l=>exact .panicking (l.mono λ_ _=>GC.mono h)
def EC.mono (h:β.le Ax){i I:Option Nat}(r:EC H β i I):EC H Ax i I:=by
 cases r with
 |none=>exact .none
 |some a b=>exact .some (h _ _ a) b
def AQ.mono (h:β.le Ax){f F:Frame}(r:AQ P.a SB H lets β f F):AQ P.a SB H lets Ax f F :=
 ⟨r.fn,r.tmps.mono h,r.todo.mono λ_ _=>C0.mono h,r.defers.mono λ_ _=>Cl.mono h,r.mode.mono h,r.kind,r.late,r.round.mono h⟩
def AQ.eval {f F:Frame}(r:AQ P.a SB H lets β f F){x:Operand}(h:ah SB x=true):Aw (SP SB H) β (f.eval x) (F.eval x):=by
 cases x with
 |tmp t=>exact r.tmps.getD t (.tuple rfl (by simp))
 |const v=>exact gy h
 |global g=>cases h
 |func f=>exact .func (.func (.inl h)) rfl (by simp) rfl (by simp)
def Mc (id:Nat){ad:Bool}{l L:List Item}(h:BJ (C0 P.a SB H lets ad β) l L):(exitTo id l=none/\exitTo id L=none)\/∃k K,exitTo id l=some k/\exitTo id L=some K/\BJ (C0 P.a SB H lets ad β) k K:=by
 induction h with
 |nil=>exact .inl ⟨rfl,rfl⟩
 |@cons i I l L hi hl ih =>
  cases hi with
  |inBlock id' =>
   unfold exitTo;split
   .exact .inr ⟨_,_,rfl,rfl,hl⟩
   .exact ih
  |_=>exact ih
def eD {ad:Bool}:∀ {c:Code} {l:Nat} {r:Code},codeOk P.a SB lets ad c=true->findLabel c l=some r->codeOk P.a SB lets ad r=true
 |.seq a b,l,r,h,hf=>by
  simp only[codeOk,xC] at h;unfold findLabel at hf;split at hf
  .rename_i rest hr;cases hf;simp only[codeOk,xC];exact⟨eD h.1 hr,h.2⟩
  .exact eD h.2 hf
 |.label l',l,r,h,hf=>by
  unfold findLabel at hf;split at hf
  .cases hf;rfl
  .cases hf
 |.skip,_,_,_,hf|.region _ _ _,_,_,_,hf|.cond _ _ _,_,_,_,hf|.block _ _,_,_,_,hf|.loop _,_,_,_,hf|.rangeFunc _ _ _ _,_,_,_,hf|.exit _,_,_,_,hf|.scope _,_,_,_,hf|.goto _,_,_,_,hf|.ret,_,_,_,hf|.refuse _,_,_,_,hf=>by cases hf
def Md {ad:Bool}(l:Nat){k K:List Item}(h:BJ (C0 P.a SB H lets ad β) k K):(gotoIn l k=none/\gotoIn l K=none)\/∃k' K',gotoIn l k=some k'/\gotoIn l K=some K'/\BJ (C0 P.a SB H lets ad β) k' K':=by
 induction h with
 |nil=>exact .inl ⟨rfl,rfl⟩
 |@cons i I k K hi hl ih =>
  cases hi with
  |inScope hc =>
   rename_i c;unfold gotoIn;cases hf:findLabel c l with
   |none=>exact ih
   |some rest=>exact .inr ⟨_,_,rfl,rfl,.cons (.code (eD hc hf)) (.cons (.inScope hc) hl)⟩
  |_=>exact ih
def mem_seen {p:Program}{fn:FuncId}{es:Array Event}{E:Event}(h:E∈seen p fn es):E∈es:=by
 unfold seen at h;dsimp only at h;rw[<-zx] at h
 have key : ∀ (l : List Event) (q : Bool) (kept : Array Event), E ∈ (l.foldl (fun (x : Bool × Array Event) e => match x with
   |(q,kept)=>match e.loc with
    |.mark (.extern f)=>((p.funcs[f]?).any (·.norace),kept)
    |_=>(q,if q&&!e.sync then kept else kept.push e)) (q,kept)).2->E∈kept\/E∈l:=by
  intro l
  induction l with
  |nil=>intro q kept h;exact .inl h
  |cons e l ih =>
   intro q kept h;simp only[List.foldl_cons] at h;split at h
   .rcases ih _ _ h with h|h
    .exact .inl h
    .exact .inr (by simp[h])
   .rcases ih _ _ h with h|h
    .split at h
     .exact .inl h
     .rcases Array.mem_push.1 h with h|h
      .exact .inl h
      .exact .inr (by simp[h])
    .exact .inr (by simp[h])
 rcases key _ _ _ h with h|h
 .simp at h
 .simpa using h
end
def adp {α:Type}:Result α×Array Event->Prop
 |(.ok _ _,_)=>True
 |(.halt (.panic _) _,_)=>True
 |(.halt (.stuck _) _,_)=>True
 |(.halt (.unsupported u) _,_)=>∀g,u≠.initOrder g
 |_=>False
section
variable {P:Ba} {S:Cb} {Ck:Code->Prop} {G:Nat} {β:AO}
def AE.NC {α Ej:Type}{m:Sem α}{M:Sem Ej}{R:AO->α->Ej->Prop}(h:AE P S Ck G β m M R){w W:World}(hw:Bg S Ck G β w W)(BV:Array Event):adp (m.runT P.a w BV):=by
 have hw':Bg S Ck G β w { W with tape:=λi q=>w.tape (w.drawn+(i-W.drawn)) q }:=⟨hw.B6,hw.room,hw.Cq,hw.CG,hw.old,hw.env⟩;have hd:=Cr P.a m w BV
 have:=h w { W with tape:=λi q=>w.tape (w.drawn+(i-W.drawn)) q } ((world (m.runT P.a w BV).1).drawn-w.drawn) hw' (λi _ q=>by
  show w.tape (w.drawn+i) q=w.tape (w.drawn+(W.drawn+i-W.drawn)) q
  rw[show W.drawn+i-W.drawn=i from by omega]) BV #[] (by omega)
 revert this;generalize m.runT P.a w BV=r;obtain⟨r,es⟩:=r;cases r with
 |ok a w'=>exact λ_=>trivial
 |halt x w'=>cases x with
  |panic v=>exact λ_=>trivial
  |stuck s=>exact λ_=>trivial
  |unsupported u=>exact id
  |_=>exact id
def AE.some {α Ej:Type}{m:Sem α}{M:Sem Ej}{R:AO->α->Ej->Prop}(h:AE P S Ck G β m M R){w W:World}(hw:Bg S Ck G β w W){BV es:Array Event}{a:α}{w':World}(hr:m.runT P.a w BV=(.ok a w',es)):∃Ax A,R Ax a A:=by
 have hw':Bg S Ck G β w { W with tape:=λi q=>w.tape (w.drawn+(i-W.drawn)) q }:=⟨hw.B6,hw.room,hw.Cq,hw.CG,hw.old,hw.env⟩;have hd:=Cr P.a m w BV
 have:=h w { W with tape:=λi q=>w.tape (w.drawn+(i-W.drawn)) q } ((world (m.runT P.a w BV).1).drawn-w.drawn) hw' (λi _ q=>by
  show w.tape (w.drawn+i) q=w.tape (w.drawn+(W.drawn+i-W.drawn)) q
  rw[show W.drawn+i-W.drawn=i from by omega]) BV #[] (by omega)
 rw[hr] at this;obtain⟨Ax,A,_,_,_,h,_⟩:=this;exact⟨Ax,A,h⟩
end
def aN:GStep->World
 |.go _ w _|.comm _ _ _ _ w _|.spawn _ _ w _|.count _ w _|.timer _ _ w _|.alone _ _ w _|.newcoro _ _ _ w _|.coroswitch _ _ _ w _|.collect _ w _|.watch _ w _|.ended _ w _=>w
section
variable (P:Ba) (SB:FuncId->Bool) (H:Hid) (lets:Bool) (BB:FuncId->Bool) (T:List Frame) (G:Nat)
def Gone (g:Goroutine):Prop:=(∃fr,g={ frame:=fr,callers:=[],status:=.running,dying:=none })/\∀(P:Program) (w:World),∃o w' es,stepG P true g w=.ended o w' es
def Pb:Gone { frame:=bad,callers:=[],status:=.running,dying:=none }:=⟨⟨_,rfl⟩,λ_ _=>⟨_,_,_,rfl⟩⟩
def oN (l:List PanicEntry):Gone { frame:=bad.raise l,callers:=[],status:=.running,dying:=none }:=⟨⟨_,rfl⟩,λ_ _=>⟨_,_,_,rfl⟩⟩
def Cy (β:AO)(w W:World):GStep->GStep->Prop
 |.go g w' _,s=>(g.callers=[]/\Gone g)\/∃Ax g2 W' ES,s=.go g2 W' ES/\CI P SB H lets BB T Ax g g2/\Fin (SP SB H) (CK P.a SB lets) G β Ax w W w' W' ES.toList
 |.ended _ _ _,_=>True
 |_,_=>False
end
section
variable {P:Ba} {SB:FuncId->Bool} {H:Hid} {lets:Bool} {BB:FuncId->Bool} {T:List Frame} {β Ax:AO} {Gn:Nat}
structure Lib (P:Ba)(SB:FuncId->Bool)(H:Hid)(lets:Bool)(BB:FuncId->Bool)(Gn:Nat):Prop where
 calls:IE P (SP SB H) (CK P.a SB lets) Gn
 body:∀f,BB f=true->∃fn c,P.a.funcs[f]?=some fn/\fn.body.getD (.refuse "unsupported: a function without a Go body is entered")=c/\codeOk P.a SB lets true c=true/\P.fs[f]?=some fn
 like:∀f,SB f=true->∃fn DZ,P.a.funcs[f]?=some fn/\P.fs[f]?=some DZ/\fn.results=DZ.results
 adq:P.a.globals.size<=Gn
 nm:∀f,SB f=true->dv P.a f=false/\dv P.b f=false
 sub:∀f,BB f=true->SB f=true
 bars:∀f,aM SB f=true->∃fn s,P.a.funcs[f]?=some fn/\fn.body=some (.refuse s)
def BK (L:Lib P SB H lets BB Gn){f:FuncId}(hf:SB f=true\/aM SB f=true){a A:Array Value}(h:AA (SP SB H) β a A)(k:CallKind)(hk:k≠.early) :
  C5 P SB H lets BB β (Frame.enter P.a f a k) (Frame.enter P.b f A k):=by
 cases hb:BB f with
 |false=>exact .stop hf hb hk h
 |true =>
  obtain⟨fn,c,h1,h2,h3,h4⟩:=L.body f hb;have h4':P.b.funcs[f]?=some fn:=h4;refine .on ⟨rfl,?_,?_,.nil,.run,rfl,⟨hk,L.sub f hb⟩,.none⟩
  .unfold Frame.enter;dsimp only;rw[h.size,h1,h4'];exact h.append (AA.replicate (.tuple rfl (by simp)) _)
  .unfold Frame.enter;simp only[h1,h4',h2,yd,Option.getD_some];exact .cons (.code h3) .nil
def dN {l L:Nat}(hl:β l L)(hh:H l=false)(f:FuncId)(hf:SB f=true){x X:Array Value}(hx:AA (SP SB H) β x X){xd bo:Code}(h1:codeOk P.a SB lets false xd=true)(h2:codeOk P.a SB lets false bo=true)(k:CallKind)(hk:k≠.early) :
  AQ P.a SB H lets β (Frame.round l f x xd bo k) (Frame.round L f X xd bo k) :=
 ⟨rfl,hx,.cons (.code h1) (.cons .beginRound (.cons (.code h2) .nil)),.nil,.run,rfl,⟨hk,hf⟩,.some hl hh⟩
def bg {f F:Frame}(h:AQ P.a SB H lets β f F){v V:Value}(hv:Aw (SP SB H) β v V):AQ P.a SB H lets β (f.finish v) (F.finish V):=by
 obtain⟨fn,tmps,todo,defers,mode,kind,round⟩:=f;obtain⟨DZ,Dk,ED,Cz,GR,KL,round'⟩:=F;obtain⟨h1,h2,h3,h4,h5,h6,h7,h8⟩:=h;dsimp only at *;unfold Frame.finish;cases h3 with
 |nil=>exact⟨h1,h2,.nil,h4,h5,h6,h7,h8⟩
 |@cons i I l L hi hl =>
  have MR:BJ (C0 P.a SB H lets round.isNone β) (i::l) (I::L):=.cons hi hl;cases hi with
  |inRegion ho =>
   rename_i ops todo;cases todo with
   |nil=>exact⟨h1,h2,MR,h4,h5,h6,h7,h8⟩
   |cons j rest =>
    refine⟨h1,?_,.cons (.inRegion ho) hl,h4,h5,h6,h7,h8⟩;dsimp only;cases(ops[j]?).bind (·.dst) with
    |none=>exact h2
    |some d=>exact h2.set d hv
  |inRangeFunc a b=>exact⟨h1,h2,.cons (.endRangeFunc a b) hl,h4,h5,h6,h7,h8⟩
  |beginRound=>exact⟨h1,h2,hl,h4,h5,h6,h7,h8⟩
  |code c=>exact⟨h1,h2,MR,h4,h5,h6,h7,h8⟩
  |inBlock id=>exact⟨h1,h2,MR,h4,h5,h6,h7,h8⟩
  |inLoop c=>exact⟨h1,h2,MR,h4,h5,h6,h7,h8⟩
  |inScope c=>exact⟨h1,h2,MR,h4,h5,h6,h7,h8⟩
  |endRangeFunc a b=>exact⟨h1,h2,MR,h4,h5,h6,h7,h8⟩
def cI {f F:Frame}(h:AQ P.a SB H lets β f F){l L:List PanicEntry}(hl:BJ (GC SB H β) l L):AQ P.a SB H lets β (f.raise l) (F.raise L):=by
 obtain⟨fn,tmps,todo,defers,mode,kind,round⟩:=f;obtain⟨DZ,Dk,ED,Cz,GR,KL,round'⟩:=F;obtain⟨h1,h2,h3,h4,h5,h6,h7,h8⟩:=h;dsimp only at *;unfold Frame.raise;cases h5 with
 |run=>exact⟨h1,h2,h3,h4,.panicking hl,h6,h7,h8⟩
 |returning=>exact⟨h1,h2,h3,h4,.panicking hl,h6,h7,h8⟩
 |panicking hc=>exact⟨h1,h2,h3,h4,.panicking (hl.append hc),h6,h7,h8⟩
def aO {f F:Frame}{cs CS:List Frame}(h:AQ P.a SB H lets β f F)(hc:B3 P.a SB H lets T β cs CS) :
  CI P SB H lets BB T β { frame:=f,callers:=cs,status:=.running,dying:=none } { frame:=F,callers:=CS,status:=.running,dying:=none } :=
 ⟨.on h,hc,⟨rfl,rfl⟩,⟨rfl,rfl⟩,⟨rfl,rfl⟩⟩
def Fin.seen {w W w' W':World}{ES:List Event}(h:Fin (SP SB H) (CK P.a SB lets) Gn β Ax w W w' W' ES)(fn:FuncId):Fin (SP SB H) (CK P.a SB lets) Gn β Ax w W w' W' (seen P.b fn ES.toArray).toList :=
 { h with evs:=λht E hE=>h.evs ht E (by have:=mem_seen (p:=P.b) (fn:=fn) (E:=E) (es:=ES.toArray) (by simpa using hE);simpa using this) }
def gM (L:Lib P SB H lets BB Gn){fr FR:Frame}{cs CS:List Frame}(hf:AQ P.a SB H lets β fr FR)(hc:B3 P.a SB H lets T β cs CS){m M:Sem Next}
  (hm:AE P (SP SB H) (CK P.a SB lets) Gn β m M (EN (SP SB H) (CK P.a SB lets))) {w W:World} {n:Nat} (hw:Bg (SP SB H) (CK P.a SB lets) Gn β w W) (ht:Im n w W)
  (hb:(aN (stepG.apply P.a true fr cs none m w)).drawn<=w.drawn+n) :
  Cy P SB H lets BB T Gn β w W (stepG.apply P.a true fr cs none m w) (stepG.apply P.b true FR CS none M W):=by
 have C3:=hm.NC hw #[];have ND:fr.kind=FR.kind:=hf.kind;have OC:(fr.kind==.early)=false:=by simpa using hf.late.1
 have Pe:(FR.kind==.early)=false:=by rw[<-ND];exact OC
 have hE:=hm w W n hw ht #[] #[];have hsome:=λ(a:Next) (w':World) (es:Array Event) (e:m.runT P.a w #[]=(.ok a w',es))=>hm.some hw e;have hkc:∀ {d:Deferred} {b:Bool} {r:String} {x:Array Value} {k:List Item},fr.todo=.call d b r x::k->False:=by
  intro d b r x k h;have:=hf.todo;rw[h] at this;generalize FR.todo=T at this;cases this with
  |cons hi _=>cases hi
 have adr:∀ {d:Deferred} {b:Bool} {r:String} {x:Array Value} {k:List Item},FR.todo=.call d b r x::k->False:=by
  intro d b r x k h;have:=hf.todo;rw[h] at this;generalize fr.todo=T at this;cases this with
  |cons hi _=>cases hi
 unfold stepG.apply at hb ⊢;simp only[if_true,OC,Pe,xJ,if_false] at hb ⊢;rcases hr:m.runT P.a w #[] with⟨r,es⟩
 rw[hr] at hE C3 hb;cases r with
 |ok x w' =>
  obtain⟨_,_,hx⟩:=hsome x w' es hr;have Jp:w'.drawn<=w.drawn+n:=by cases hx<;>exact hb
  obtain⟨Ax,X,W',ES,e1,e2,e3⟩:=hE Jp;rw[e1];simp only[xS];have hf':=hf.mono e3.le;have hc':=hc.mono λ_ _ (r:AQ P.a SB H lets β _ _)=>r.mono e3.le;have Ec:=e3.seen (P:=P) (SB:=SB) (H:=H) (lets:=lets) FR.fn;cases e2 with
  |value hv=>exact Or.inr ⟨Ax,_,W',_,rfl,aO (bg hf' hv) hc',by simpa using Ec⟩
  |skip=>exact Or.inr ⟨Ax,_,W',_,rfl,aO (bg hf' (.tuple rfl (by simp))) hc',by simpa using Ec⟩
  |enter hs ha =>
   refine Or.inr ⟨Ax,_,W',_,rfl,⟨?_,.cons hf' hc',⟨rfl,rfl⟩,⟨rfl,rfl⟩,⟨rfl,rfl⟩⟩,by simpa using Ec⟩;split
   .exact(hkc ‹_›).elim
   .split
    .exact(adr ‹_›).elim
    .exact BK L hs ha .normal (by simp)
  |round hl hh hx h1 h2=>exact Or.inr ⟨Ax,_,W',_,rfl,aO (dN hl hh.1 _ hh.2 (by assumption) h1 h2 .normal (by simp)) (.cons hf' hc'),by simpa using Ec⟩
  |defer hd=>exact Or.inr ⟨Ax,_,W',_,rfl,aO (bg (f:={ fr with defers:=_::fr.defers }) (F:={ FR with defers:=_::FR.defers }) ⟨hf'.fn,hf'.tmps,hf'.todo,.cons hd hf'.defers,hf'.mode,hf'.kind,hf'.late,hf'.round⟩ (.tuple rfl (by simp))) hc',by simpa using Ec⟩
 |halt x w' =>
  cases x with
  |panic v =>
   obtain⟨Ax,X,W',ES,e1,e2,e3⟩:=hE hb;rw[e1];simp only[xS];have hf':=hf.mono e3.le;have hc':=hc.mono λ_ _ (r:AQ P.a SB H lets β _ _)=>r.mono e3.le;have Ec:=e3.seen (P:=P) (SB:=SB) (H:=H) (lets:=lets) FR.fn;exact Or.inr ⟨Ax,_,W',_,rfl,aO (cI hf' (.cons (.mk _ _ e2) .nil)) hc',by simpa using Ec⟩
  |stuck s=>trivial
  |unsupported u =>
   cases u with
   |initOrder g=>exact absurd rfl (C3 g)
   |_=>trivial
  |_=>exact C3.elim
end
section
variable {P:Ba} {S:Cb} {Ck:Code->Prop} {G:Nat} {β:AO}
def lI (fn:FuncId)(hfn:S.fr fn){x X:Array Value}(hx:AA S β x X)(ps:Array Tmp){xd bo:Code}(h1:Ck xd)(h2:Ck bo){o O:Option Nat}(ho:(o=none/\O=none)\/∃l L,o=some l/\O=some L/\β l L/\S.hid l=false) :
  AE P S Ck G β (Instr.enterLoop fn x ps xd bo o) (Instr.enterLoop fn X ps xd bo O) (λAx r R=>Ax r.1 R.1/\S.hid r.1=false/\BJ (Cl S Ax) r.2 R.2):=by
 have fin : ∀ (Ax : AO) (d D : Nat) (m M : List Deferred), β.le Ax -> Ax d D -> S.hid d = false -> BJ (Cl S Ax) m M -> AE P S Ck G Ax (do
   pure (<-newObj (.loop { state:=.ready,pending:=none,fn,tmps:=x,params:=ps,assign:=xd,body:=bo,defers:=d }),m):Sem (Nat×List Deferred)) (do
   pure (<-newObj (.loop { state:=.ready,pending:=none,fn,tmps:=X,params:=ps,assign:=xd,body:=bo,defers:=D }),M):Sem (Nat×List Deferred)) (λAx r R=>Ax r.1 R.1/\S.hid r.1=false/\BJ (Cl S Ax) r.2 R.2):=by
  intro Ax d D m M hle hd hk hm;refine Ar (jn (.loop ⟨hfn,λc e=>by cases e⟩ h1 h2 (hx.mono hle) hd hk) (λi=>Bw.id (S:=S) (Ck:=Ck) i (.loop ⟨hfn,λc e=>by cases e⟩ h1 h2 (hx.mono hle) hd hk) (by simp))) ?_;rintro BS b B Bp ⟨hb,hb'⟩;exact Au ⟨hb,hb',hm.mono λ_ _=>Cl.mono Bp⟩
 unfold Instr.enterLoop;rcases ho with⟨rfl,rfl⟩|⟨l,L,rfl,rfl,hl,hk⟩
 .refine Ar (jn (.defs .nil) (λ_=>rfl)) ?_;rintro BS b B Bp ⟨hb,hb'⟩;refine Ar (Au (R:=λAx (a A:Nat×List Deferred)=>BS.le Ax/\a=(b,[{ target:=.collected b,args:=#[] }])/\A=(B,[{ target:=.collected B,args:=#[] }])) ⟨BS.le_refl,rfl,rfl⟩) ?_;rintro CQ a A Bv ⟨_,rfl,rfl⟩;exact fin CQ _ _ _ _ (AO.le_trans Bp Bv) (Bv _ _ hb) hb' (.cons (.collected (Bv _ _ hb) hb') .nil)
 .refine Ar (dq hl hk) ?_;rintro BS r R Bp ⟨_,_,_,_,_,_,_,_,_,_,hd,hdk⟩;refine Ar (Au (R:=λAx (a A:Nat×List Deferred)=>BS.le Ax/\a=(r.defers,[])/\A=(R.defers,[])) ⟨BS.le_refl,rfl,rfl⟩) ?_;rintro CQ a A Bv ⟨_,rfl,rfl⟩;exact fin CQ _ _ _ _ (AO.le_trans Bp Bv) (Bv _ _ hd) hdk .nil
def j4 {β:AO}{r R:Loop}(h:r.state=R.state/\r.pending=R.pending/\(S.fr r.fn/\∀c,r.pending=some c->Ck c)/\r.fn=R.fn/\AA S β r.tmps R.tmps/\r.params=R.params/\r.assign=R.assign/\r.body=R.body/\Ck r.assign/\Ck r.body/\β r.defers R.defers/\S.hid r.defers=false)
  (st:LoopState) (pe:Option Code) (hp:S.fr r.fn/\∀c,pe=some c->Ck c):Bw S Ck β (.loop { r with state:=st,pending:=pe }) (.loop { R with state:=st,pending:=pe }):=by
 obtain⟨h1,h2,h3,h4,h5,h6,h7,h8,h9,h10,h11,Xz⟩:=h;rw[<-h4,<-h6,<-h7,<-h8];exact .loop hp h9 h10 h5 h11 Xz
def lg {l L:Nat}(hl:β l L)(hk:S.hid l=false):AE P S Ck G β (Instr.beginRound l) (Instr.beginRound L) (λ_ _ _=>True):=by
 refine Ar (dq hl hk) ?_;intro BS r R Bp h;have hst:=h.1;have hpe:=h.2.1;have ho:=j4 h .busy r.pending h.2.2.1;rw[show({ R with state:=LoopState.busy,pending:=r.pending }:Loop)={ R with state:=.busy } from by rw[hpe]] at ho;refine Ar (fe (Bp _ _ hl) hk ho rfl) ?_;intro CQ _ _ _ _;rw[hst];cases R.state with
 |ready=>exact Au trivial
 |_=>exact az (.error _) trivial
def mT {l L:Nat}(hl:β l L)(hk:S.hid l=false)(j:Option Code)(hj:∀c,j=some c->Ck c):AE P S Ck G β (Instr.endRound l j) (Instr.endRound L j) (λAx v V=>Aw S Ax v V):=by
 refine Ar (dq hl hk) ?_;intro BS r R Bp h;refine Ar (fe (Bp _ _ hl) hk (j4 h _ j ⟨h.2.2.1.1,hj⟩) rfl) ?_;intro CQ _ _ _ _;exact Au (.bool _)
def oO {l L:Nat}(hl:β l L)(hk:S.hid l=false):AE P S Ck G β (Instr.endLoop l) (Instr.endLoop L) (λ_ a A=>a=A/\∀c,a=some c->Ck c):=by
 refine Ar (dq hl hk) ?_;intro BS r R Bp h;have hst:=h.1;have hpe:=h.2.1;have ho:=j4 h .exhausted r.pending h.2.2.1;rw[show({ R with state:=LoopState.exhausted,pending:=r.pending }:Loop)={ R with state:=.exhausted } from by rw[hpe]] at ho
 have main : ∀ CQ, BS.le CQ -> AE P S Ck G CQ (do
   setObj l (.loop { r with state:=.exhausted })
   pure r.pending:Sem (Option Code)) (do
   setObj L (.loop { R with state:=.exhausted })
   pure R.pending:Sem (Option Code)) (λ_ a A=>a=A/\∀c,a=some c->Ck c):=by
  intro CQ Bv;refine Ar (fe (Bv _ _ (Bp _ _ hl)) hk (ho.mono Bv) rfl) ?_;intro ID _ _ _ _;exact Au ⟨hpe,h.2.2.1.2⟩
 rw[hst];by_cases hb:(R.state==.busy)=true
 .simp only[hb,if_true];exact Ar (R:=λ_ _ _=>False) (az (.error _) trivial) (λ_ _ _ _ h=>h.elim)
 .simp only[hb,if_false,xJ];exact main BS BS.le_refl
def js {b B:Nat}(hb:β b B)(hk:S.hid b=false):AE P S Ck G β (Instr.takeDeferred b) (Instr.takeDeferred B) (λAx l L=>BJ (Cl S Ax) l L):=by
 refine Ar (fd hb hk) ?_;intro CQ o O Bv ho;cases ho with
 |defs Me =>
  refine Ar (fe (Bv _ _ hb) hk .taken rfl) ?_;intro ID _ _ EL _;exact Au (Me.mono λ_ _=>Cl.mono EL)
 |_=>exact λ_ _ _ _ _ _ _ _=>trivial
def iL {α γ:Type}{f F:α->Sem γ}{R:AO->γ->γ->Prop}(hR:∀β Ax,β.le Ax->∀a A,R β a A->R Ax a A):∀(l:List α) (β:AO),(∀x∈l,∀Ax,β.le Ax->AE P S Ck G Ax (f x) (F x) R) ->
  AE P S Ck G β (l.mapM f) (l.mapM F) (λAx a A=>BJ (R Ax) a A)
 |[],β,_=>by simp only[List.mapM_nil];exact Au .nil
 |x::l,β,h=>by
  simp only[List.mapM_cons];refine Ar (h x (by simp) β β.le_refl) ?_;intro B7 a A Dp ha;refine Ar (iL hR l B7 λy hy Ax hle=>h y (by simp[hy]) Ax (AO.le_trans Dp hle)) ?_;intro BS b B Bp hb;exact Au (.cons (hR _ _ Bp _ _ ha) hb)
def jt (fn:Func){x X:Array Value}(hx:AA S β x X):AE P S Ck G β (results fn x) (results fn X) (λAx v V=>Aw S Ax v V):=by
 unfold results;rw[zt,zt];have hu:∀β,Aw S β undef undef:=λβ=>.tuple rfl (by simp)
 have h := iL (P := P) (S := S) (Ck := Ck) (G := G) (f := fun (r : ResultVar) => match r with
   |.tmp t=>pure (x.getD t undef)
   |.cell a t=>do loadVar t (<-asAddr (x.getD a undef))) (F:=λ(r:ResultVar)=>match r with
   |.tmp t=>pure (X.getD t undef)
   |.cell a t=>do loadVar t (<-asAddr (X.getD a undef))) (R:=λAx v V=>Aw S Ax v V) (λ_ _ h _ _ r=>r.mono h) fn.results.toList β (λr _ Ax hle=>by
    cases r with
    |tmp t=>exact Au ((hx.mono hle).getD t (hu _))
    |cell a t =>
     refine Ar (dM ((hx.mono hle).getD a (hu _))) ?_;intro BS p Q _ hp
     exact jo t hp)
 refine Ar (R:=λAx a A=>AA S Ax a A) ?_ ?_
 .refine Ar h ?_;intro BS l L _ hl;exact Au hl.toArray
 .intro BS v V _ hv;refine Au ?_;have hs:=hv.size;by_cases h1:v.size=1
  .have h2:V.size=1:=by omega
   rw[dif_pos h1,dif_pos h2];exact hv.at_ 0 _ _ (xp _) (xp _)
  .have h2:¬V.size=1:=by omega
   rw[dif_neg h1,dif_neg h2];exact hv.tuple
end
section
variable {P:Ba} {SB:FuncId->Bool} {H:Hid} {lets:Bool} {BB:FuncId->Bool} {T:List Frame} {β Ax:AO} {Gn:Nat} {main main2:Bool}
def iM {x X:Array Value}(h:AA (SP SB H) β x X)(ops:Array Oper)(j:Nat):yielded ops x j=yielded ops X j:=by
 unfold yielded;cases((ops[j]?).bind (·.dst)) with
 |none=>rfl
 |some d =>
  simp only[yd];cases hx:x[d]? with
  |none=>rw[h.get_none hx]
  |some v =>
   obtain⟨V,hV,hr⟩:=h.get? hx;rw[hV];cases hr with
   |blank _ hb=>cases V<;>first|rfl|(cases hb;done)
   |_=>rfl
def oP {l L:List PanicEntry}(h:BJ (GC SB H β) l L):BJ (GC SB H β) (l.dropWhile (!·.goexit)) (L.dropWhile (!·.goexit)):=by
 induction h with
 |nil=>exact .nil
 |@cons a A l L ha hl ih =>
  cases ha with
  |mk r g hv =>
   cases g with
   |false=>simpa using ih
   |true=>simpa using BJ.cons (.mk r true hv) hl
def eE {fr FR:Frame}{cs CS:List Frame}(hk:fr.kind=FR.kind)(hl:fr.kind≠.early)(hc:B3 P.a SB H lets T β cs CS)(hne:cs≠[]){v V:Value}(hv:Aw (SP SB H) β v V){w W w' W':World}{β0:AO}{ES:List Event}
  (hf:Fin (SP SB H) (CK P.a SB lets) Gn β0 β w W w' W' ES) (es:Array Event) :
  Cy P SB H lets BB T Gn β0 w W (GStep.after es (doReturn P.a main fr cs none v w')) (GStep.after ES.toArray (doReturn P.b main2 FR CS none V W')):=by
 cases hc with
 |base =>
  unfold doReturn;cases fr.kind<;>exact Or.inl ⟨rfl,Pb⟩
 |@cons c C cs CS h1 h2 =>
  unfold doReturn;rw[<-hk];cases ND:fr.kind with
  |normal=>exact Or.inr ⟨β,_,W',_,rfl,aO (bg h1 hv) h2,by simpa using hf⟩
  |wrapped=>exact Or.inr ⟨β,_,W',_,rfl,aO (bg h1 hv) h2,by simpa using hf⟩
  |early=>exact absurd ND hl
  |_ =>
   refine Or.inr ⟨β,_,W',_,rfl,aO ?_ h2,by simpa using hf⟩;obtain⟨fn,tmps,todo,defers,mode,kind,round⟩:=c;obtain⟨DZ,Dk,ED,Cz,GR,KL,round'⟩:=C;obtain⟨a1,a2,a3,a4,a5,a6,a7,a8⟩:=h1;dsimp only at *;cases a5 with
   |run=>exact⟨a1,a2,a3,a4,.run,a6,a7,a8⟩
   |returning=>exact⟨a1,a2,a3,a4,.returning,a6,a7,a8⟩
   |panicking hch =>
    cases hch with
    |nil=>exact⟨a1,a2,a3,a4,.panicking .nil,a6,a7,a8⟩
    |@cons p Q l L hp hl =>
     cases hp with
     |mk r g hv' =>
      cases r with
      |false=>exact⟨a1,a2,a3,a4,.panicking (.cons (.mk false g hv') hl),a6,a7,a8⟩
      |true =>
       have:=oP hl;dsimp only;revert this;generalize l.dropWhile (!·.goexit)=d;generalize L.dropWhile (!·.goexit)=D;intro hd;cases hd with
       |nil=>exact⟨a1,a2,a3,a4,.returning,a6,a7,a8⟩
       |cons x y=>exact⟨a1,a2,a3,a4,.panicking (.cons x y),a6,a7,a8⟩
def ci (L:Lib P SB H lets BB Gn){fr FR:Frame}{cs CS:List Frame}(hf:AQ P.a SB H lets β fr FR)(hc:B3 P.a SB H lets T β cs CS){d D:Deferred}(hd:Cl (SP SB H) β d D){w W:World}{n:Nat}(hw:Bg (SP SB H) (CK P.a SB lets) Gn β w W)(ht:Im n w W)
  (hb:(aN (callDeferred P.a fr cs none d w)).drawn<=w.drawn+n) :
  Cy P SB H lets BB T Gn β w W (callDeferred P.a fr cs none d w) (callDeferred P.b FR CS none D W):=by
 have hm:=gK L.calls hd;have hE:=hm w W n hw ht #[] #[];have C3:=hm.NC hw #[];have hsome:=λ(a:Next) (w':World) (es:Array Event) (e:(invoke d.target d.args).runT P.a w #[]=(.ok a w',es))=>hm.some hw e;unfold callDeferred at hb ⊢;cases hd with
 |@fn Sc fn2 Vg Pf ar1 ar2 a b c =>
  simp only[yC,xJ,if_false] at hb ⊢;dsimp only at hE hsome;rcases hr2:(invoke (Target.fn Sc Vg) ar1).runT P.a w #[] with⟨r,es⟩
  simp only[hr2] at hb hE C3 ⊢;cases r with
  |ok x w' =>
   obtain⟨_,_,hx⟩:=hsome x w' es hr2;have Jp:w'.drawn<=w.drawn+n:=by cases hx<;>exact hb
   obtain⟨Ax,X,W',ES,e1,e2,e3⟩:=hE Jp;simp only[e1,xS];have hf':=hf.mono e3.le;have hc':=hc.mono λ_ _ (r:AQ P.a SB H lets β _ _)=>r.mono e3.le;have Ec:=e3.seen (P:=P) (SB:=SB) (H:=H) (lets:=lets) FR.fn;cases e2 with
   |value hv=>exact Or.inr ⟨Ax,_,W',_,rfl,aO hf' hc',by simpa using Ec⟩
   |skip=>exact Or.inr ⟨Ax,_,W',_,rfl,aO hf' hc',by simpa using Ec⟩
   |enter hs ha=>exact Or.inr ⟨Ax,_,W',_,rfl,⟨BK L hs ha .deferred (by simp),.cons hf' hc',⟨rfl,rfl⟩,⟨rfl,rfl⟩,⟨rfl,rfl⟩⟩,by simpa using Ec⟩
   |round hl hh hx h1 h2=>exact Or.inr ⟨Ax,_,W',_,rfl,aO (dN hl hh.1 _ hh.2 (by assumption) h1 h2 .deferred (by simp)) (.cons hf' hc'),by simpa using Ec⟩
   |defer hd=>exact Or.inr ⟨Ax,_,W',_,rfl,aO hf' hc',by simpa using Ec⟩
  |halt x w' =>
   cases x with
   |panic v =>
    obtain⟨Ax,X,W',ES,e1,e2,e3⟩:=hE hb;simp only[e1,xS];have hf':=hf.mono e3.le;have hc':=hc.mono λ_ _ (r:AQ P.a SB H lets β _ _)=>r.mono e3.le;have Ec:=e3.seen (P:=P) (SB:=SB) (H:=H) (lets:=lets) FR.fn;exact Or.inr ⟨Ax,_,W',_,rfl,aO (cI hf' (.cons (.mk _ _ e2) .nil)) hc',by simpa using Ec⟩
   |stuck s=>trivial
   |unsupported u=>trivial
   |_=>exact C3.elim
 |Bt a A h1 h2 h3 =>
  subst h2;have hq:=iJ L.calls.big a w #[];unfold hd at hq ⊢;simp only[yC,xJ,if_false] at hq ⊢;rcases hq with⟨s,w',es',e⟩|⟨u,w',es',e,_⟩
  .simp only[e];trivial
  .simp only[e];trivial
 |@collected r1 r2 a b =>
  simp only[yC,xJ,if_false] at hb ⊢;dsimp only at hE hsome;rcases hr2:(invoke (Target.collected r1) #[]).runT P.a w #[] with⟨r,es⟩
  simp only[hr2] at hb hE C3 ⊢;cases r with
  |ok x w' =>
   obtain⟨_,_,hx⟩:=hsome x w' es hr2;have Jp:w'.drawn<=w.drawn+n:=by cases hx<;>exact hb
   obtain⟨Ax,X,W',ES,e1,e2,e3⟩:=hE Jp;simp only[e1,xS];have hf':=hf.mono e3.le;have hc':=hc.mono λ_ _ (r:AQ P.a SB H lets β _ _)=>r.mono e3.le;have Ec:=e3.seen (P:=P) (SB:=SB) (H:=H) (lets:=lets) FR.fn;cases e2 with
   |value hv=>exact Or.inr ⟨Ax,_,W',_,rfl,aO hf' hc',by simpa using Ec⟩
   |skip=>exact Or.inr ⟨Ax,_,W',_,rfl,aO hf' hc',by simpa using Ec⟩
   |enter hs ha=>exact Or.inr ⟨Ax,_,W',_,rfl,⟨BK L hs ha .deferred (by simp),.cons hf' hc',⟨rfl,rfl⟩,⟨rfl,rfl⟩,⟨rfl,rfl⟩⟩,by simpa using Ec⟩
   |round hl hh hx h1 h2=>exact Or.inr ⟨Ax,_,W',_,rfl,aO (dN hl hh.1 _ hh.2 (by assumption) h1 h2 .deferred (by simp)) (.cons hf' hc'),by simpa using Ec⟩
   |defer hd=>exact Or.inr ⟨Ax,_,W',_,rfl,aO hf' hc',by simpa using Ec⟩
  |halt x w' =>
   cases x with
   |panic v =>
    obtain⟨Ax,X,W',ES,e1,e2,e3⟩:=hE hb;simp only[e1,xS];have hf':=hf.mono e3.le;have hc':=hc.mono λ_ _ (r:AQ P.a SB H lets β _ _)=>r.mono e3.le;have Ec:=e3.seen (P:=P) (SB:=SB) (H:=H) (lets:=lets) FR.fn;exact Or.inr ⟨Ax,_,W',_,rfl,aO (cI hf' (.cons (.mk _ _ e2) .nil)) hc',by simpa using Ec⟩
   |stuck s=>trivial
   |unsupported u=>trivial
   |_=>exact C3.elim
 |@nil ar1 ar2 a =>
  have AV:=hf.mode;cases hm:fr.mode with
  |panicking l =>
   simp only[Bool.and_self,if_true];trivial
  |run =>
   have hM:FR.mode=.run:=by
    rw[hm] at AV;generalize FR.mode=q at AV;cases AV;rfl
   simp only[hm,hM,yJ,xJ,if_false] at hb ⊢;dsimp only at hE hsome;rcases hr2:(invoke Target.nil ar1).runT P.a w #[] with⟨r,es⟩
   simp only[hr2] at hb hE C3 ⊢;cases r with
   |ok x w' =>
    obtain⟨_,_,hx⟩:=hsome x w' es hr2;have Jp:w'.drawn<=w.drawn+n:=by cases hx<;>exact hb
    obtain⟨Ax,X,W',ES,e1,e2,e3⟩:=hE Jp;simp only[e1,xS];have hf':=hf.mono e3.le;have hc':=hc.mono λ_ _ (r:AQ P.a SB H lets β _ _)=>r.mono e3.le;have Ec:=e3.seen (P:=P) (SB:=SB) (H:=H) (lets:=lets) FR.fn;cases e2 with
    |value hv=>exact Or.inr ⟨Ax,_,W',_,rfl,aO hf' hc',by simpa using Ec⟩
    |skip=>exact Or.inr ⟨Ax,_,W',_,rfl,aO hf' hc',by simpa using Ec⟩
    |enter hs ha=>exact Or.inr ⟨Ax,_,W',_,rfl,⟨BK L hs ha .deferred (by simp),.cons hf' hc',⟨rfl,rfl⟩,⟨rfl,rfl⟩,⟨rfl,rfl⟩⟩,by simpa using Ec⟩
    |round hl hh hx h1 h2=>exact Or.inr ⟨Ax,_,W',_,rfl,aO (dN hl hh.1 _ hh.2 (by assumption) h1 h2 .deferred (by simp)) (.cons hf' hc'),by simpa using Ec⟩
    |defer hd=>exact Or.inr ⟨Ax,_,W',_,rfl,aO hf' hc',by simpa using Ec⟩
   |halt x w' =>
    cases x with
    |panic v =>
     obtain⟨Ax,X,W',ES,e1,e2,e3⟩:=hE hb;simp only[e1,xS];have hf':=hf.mono e3.le;have hc':=hc.mono λ_ _ (r:AQ P.a SB H lets β _ _)=>r.mono e3.le;have Ec:=e3.seen (P:=P) (SB:=SB) (H:=H) (lets:=lets) FR.fn;exact Or.inr ⟨Ax,_,W',_,rfl,aO (cI hf' (.cons (.mk _ _ e2) .nil)) hc',by simpa using Ec⟩
    |stuck s=>trivial
     |unsupported u=>trivial
    |_=>exact C3.elim
  |returning =>
   have hM:FR.mode=.returning:=by
    rw[hm] at AV;generalize FR.mode=q at AV;cases AV;rfl
   simp only[hm,hM,yJ,xJ,if_false] at hb ⊢;dsimp only at hE hsome;rcases hr2:(invoke Target.nil ar1).runT P.a w #[] with⟨r,es⟩
   simp only[hr2] at hb hE C3 ⊢;cases r with
   |ok x w' =>
    obtain⟨_,_,hx⟩:=hsome x w' es hr2;have Jp:w'.drawn<=w.drawn+n:=by cases hx<;>exact hb
    obtain⟨Ax,X,W',ES,e1,e2,e3⟩:=hE Jp;simp only[e1,xS];have hf':=hf.mono e3.le;have hc':=hc.mono λ_ _ (r:AQ P.a SB H lets β _ _)=>r.mono e3.le;have Ec:=e3.seen (P:=P) (SB:=SB) (H:=H) (lets:=lets) FR.fn;cases e2 with
    |value hv=>exact Or.inr ⟨Ax,_,W',_,rfl,aO hf' hc',by simpa using Ec⟩
    |skip=>exact Or.inr ⟨Ax,_,W',_,rfl,aO hf' hc',by simpa using Ec⟩
    |enter hs ha=>exact Or.inr ⟨Ax,_,W',_,rfl,⟨BK L hs ha .deferred (by simp),.cons hf' hc',⟨rfl,rfl⟩,⟨rfl,rfl⟩,⟨rfl,rfl⟩⟩,by simpa using Ec⟩
    |round hl hh hx h1 h2=>exact Or.inr ⟨Ax,_,W',_,rfl,aO (dN hl hh.1 _ hh.2 (by assumption) h1 h2 .deferred (by simp)) (.cons hf' hc'),by simpa using Ec⟩
    |defer hd=>exact Or.inr ⟨Ax,_,W',_,rfl,aO hf' hc',by simpa using Ec⟩
   |halt x w' =>
    cases x with
    |panic v =>
     obtain⟨Ax,X,W',ES,e1,e2,e3⟩:=hE hb;simp only[e1,xS];have hf':=hf.mono e3.le;have hc':=hc.mono λ_ _ (r:AQ P.a SB H lets β _ _)=>r.mono e3.le;have Ec:=e3.seen (P:=P) (SB:=SB) (H:=H) (lets:=lets) FR.fn;exact Or.inr ⟨Ax,_,W',_,rfl,aO (cI hf' (.cons (.mk _ _ e2) .nil)) hc',by simpa using Ec⟩
    |stuck s=>trivial
     |unsupported u=>trivial
    |_=>exact C3.elim
def ju (L:Lib P SB H lets BB Gn){fr FR:Frame}{cs CS:List Frame}(hf:AQ P.a SB H lets β fr FR)(hc:B3 P.a SB H lets T β cs CS){w W:World}{n:Nat}(hw:Bg (SP SB H) (CK P.a SB lets) Gn β w W)(ht:Im n w W)
  (hb:(aN (unwind P.a main fr cs none w)).drawn<=w.drawn+n) :
  Cy P SB H lets BB T Gn β w W (unwind P.a main fr cs none w) (unwind P.b main2 FR CS none W):=by
 obtain⟨fn,tmps,todo,defers,mode,kind,round⟩:=fr;obtain⟨DZ,Dk,ED,Cz,GR,KL,round'⟩:=FR;obtain⟨a1,a2,a3,a4,a5,a6,a7,a8⟩:=hf;dsimp only at a1 a2 a3 a4 a5 a6 a7 a8;subst a1 a6;cases a4 with
 |@cons d D ds DS hd Me =>
  have hf':AQ P.a SB H lets β ⟨fn,tmps,todo,ds,mode,kind,round⟩ ⟨fn,Dk,ED,DS,GR,kind,round'⟩:=⟨rfl,a2,a3,Me,a5,rfl,a7,a8⟩;cases hd with
  |fn x y z=>exact ci L hf' hc (.fn x y z) hw ht hb
  |nil x=>exact ci L hf' hc (.nil x) hw ht hb
  |Bt a A h1 h2 h3 =>
   subst h2;rcases h3 with rfl|⟨h3,n,c,x,rfl⟩
   .exact ci L hf' hc (.Bt a A h1 rfl (.inl rfl)) hw ht hb
   .exact ci L hf' hc (.Bt a A h1 rfl (.inr ⟨h3,n,c,x,rfl⟩)) hw ht hb
  |@collected r1 r2 x y =>
   have hm:=js (P:=P) (Ck:=CK P.a SB lets) (G:=Gn) (S:=SP SB H) x y;have hE:=hm w W n hw ht #[] #[];have C3:=hm.NC hw #[];unfold unwind at hb ⊢;dsimp only at hb ⊢;rcases hr:(Instr.takeDeferred r1).runT P.a w #[] with⟨r,es⟩
   rw[hr] at hb hE C3;cases r with
   |ok l w' =>
    obtain⟨Ax,X,W',ES,e1,e2,e3⟩:=hE hb;simp only[e1,xS];have hf2:=hf'.mono e3.le;have hc':=hc.mono λ_ _ (r:AQ P.a SB H lets β _ _)=>r.mono e3.le;have Ec:=e3.seen (P:=P) (SB:=SB) (H:=H) (lets:=lets) fn;exact Or.inr ⟨Ax,_,W',_,rfl,aO ⟨rfl,hf2.tmps,hf2.todo,e2.append hf2.defers,hf2.mode,rfl,a7,hf2.round⟩ hc',by simpa using Ec⟩
   |halt x w'=>trivial
 |nil =>
  cases a5 with
  |run=>trivial
  |@panicking ch CH hch =>
   unfold unwind;dsimp only;obtain⟨f,f',g1,g2,_⟩:=L.like fn a7.2;have Gb:P.b.funcs[fn]?=some f':=g2;have q1:Frame.catches P.a ⟨fn,tmps,todo,[],.panicking ch,kind,round⟩=false:=by
    unfold Frame.catches;dsimp only;rw[g1]
   have q2:Frame.catches P.b ⟨fn,Dk,ED,[],.panicking CH,kind,round'⟩=false:=by
    unfold Frame.catches;dsimp only;rw[Gb]
   simp only[q1,q2,xJ,if_false];cases hc with
   |base=>exact Or.inl ⟨rfl,oN _⟩
   |cons h1 h2=>exact Or.inr ⟨β,_,W,_,rfl,aO (cI h1 hch) h2,by simpa using Fin.refl hw⟩
  |returning =>
   have hne:cs≠[]:=hc.ne;unfold unwind at hb ⊢;dsimp only at hb ⊢;obtain⟨f,f',g1,g2,g3⟩:=L.like fn a7.2;have Gb:P.b.funcs[fn]?=some f':=g2;have g4:results f' Dk=results f Dk:=by unfold results;rw[g3]
   have hm:=jt (P:=P) (Ck:=CK P.a SB lets) (G:=Gn) (S:=SP SB H) f a2;have hE:=hm w W n hw ht #[] #[];have C3:=hm.NC hw #[];rw[g1] at hb ⊢;rw[Gb];dsimp only at hb ⊢;rw[g4];rcases hr:(results f tmps).runT P.a w #[] with⟨r,es⟩
   rw[hr] at hb hE C3;cases r with
   |ok v w' =>
    have Jp:w'.drawn<=w.drawn+n:=by
     have:∀cs,(aN (GStep.after (seen P.a fn es) (doReturn P.a main ⟨fn,tmps,todo,[],.returning,kind,round⟩ cs none v w')))=w'\/cs=[]:=by
      intro cs;cases cs with
      |nil=>exact .inr rfl
      |cons c cs =>
       refine .inl ?_;unfold doReturn;cases kind<;>rfl
     rcases this cs with h|h
     .rw[<-h];exact hb
     .exact absurd h hne
    obtain⟨Ax,X,W',ES,e1,e2,e3⟩:=hE Jp;simp only[e1,xS];have hc':=hc.mono λ_ _ (r:AQ P.a SB H lets β _ _)=>r.mono e3.le;have Ec:=e3.seen (P:=P) (SB:=SB) (H:=H) (lets:=lets) fn;have:=eE (P:=P) (main:=main) (main2:=main2) (BB:=BB) (fr:=⟨fn,tmps,todo,[],.returning,kind,round⟩) (FR:=⟨fn,Dk,ED,[],.returning,kind,round'⟩) rfl a7.1 hc' hne e2 Ec (seen P.a fn es);simpa using this
   |halt x w'=>cases x<;>trivial
end
section
variable {P:Ba} {SB:FuncId->Bool} {H:Hid} {lets:Bool} {BB:FuncId->Bool} {T:List Frame} {β Ax:AO} {Gn:Nat} {main main2:Bool}
def bG {ad:Bool}:∀ {c:Code},codeOk P.a SB lets false c=true->codeOk P.a SB lets ad c=true
 |.skip,_|.exit _,_|.label _,_|.goto _,_|.ret,_|.refuse _,_=>rfl
 |.region _ ops _,h=>by
  cases ad with
  |false=>exact h
  |true =>
   simp only[codeOk,xC,xM] at h ⊢;refine⟨?_,h.2⟩;intro o ho;have:=h.1 o ho;unfold ct at this ⊢;simp only[xO,xC] at this ⊢;rcases this with h1|h1
   .exact .inl ⟨h1.1,.inl trivial⟩
   .exact .inr h1
 |.seq a b,h=>by
  simp only[codeOk,xC] at h ⊢;exact⟨bG h.1,bG h.2⟩
 |.cond c a b,h=>by
  simp only[codeOk,xC] at h ⊢;exact⟨⟨h.1.1,bG h.1.2⟩,bG h.2⟩
 |.block _ b,h=>by simp only[codeOk] at h ⊢;exact bG h
 |.loop b,h=>by simp only[codeOk] at h ⊢;exact bG h
 |.scope b,h=>by simp only[codeOk] at h ⊢;exact bG h
 |.rangeFunc f ps xd bo,h=>by simp only[codeOk] at h ⊢;exact h
def MT (p:Program)(SB:FuncId->Bool)(fr:Frame):Prop:=∀o,fr.oper?=some o->IP p SB o.op=false
def qe {o O:Option Nat}(h:EC H β o O):o.isNone=O.isNone:=by cases h<;>rfl
section
variable {fn:FuncId} {tmps Dk:Array Value} {todo ED:List Item} {defers Cz:List Deferred} {kind:CallKind} {round round':Option Nat} {cs CS:List Frame} {w W:World} {n:Nat}
def bt {mode GR:FrameMode}(a2:AA (SP SB H) β tmps Dk)(a3:BJ (C0 P.a SB H lets round.isNone β) todo ED)(a4:BJ (Cl (SP SB H) β) defers Cz)(a5:GQ SB H β mode GR)(a7:kind≠.early/\SB fn=true)(a8:EC H β round round')
  (hc:B3 P.a SB H lets T β cs CS) (hw:Bg (SP SB H) (CK P.a SB lets) Gn β w W) :
  Cy P SB H lets BB T Gn β w W (.go { frame:=⟨fn,tmps,todo,defers,mode,kind,round⟩,callers:=cs,status:=.running,dying:=none } w #[]) (.go { frame:=⟨fn,Dk,ED,Cz,GR,kind,round'⟩,callers:=CS,status:=.running,dying:=none } W #[]) :=
 Or.inr ⟨β,_,W,_,rfl,aO ⟨rfl,a2,a3,a4,a5,rfl,a7,a8⟩ hc,by simpa using Fin.refl hw⟩
def dw (j:Option Code)(hj:∀c,j=some c->codeOk P.a SB lets false c=true)(a7:kind≠.early/\SB fn=true){l L:Nat}(hl:β l L)(hh:H l=false)
  (hc:B3 P.a SB H lets T β cs CS) (hne:cs≠[]) (hw:Bg (SP SB H) (CK P.a SB lets) Gn β w W) (ht:Im n w W)
  (hb : (aN (GStep.after (seen P.a fn ((Instr.endRound l j).runT P.a w #[]).2) (match ((Instr.endRound l j).runT P.a w #[]).1 with
    |.ok v w=>doReturn P.a main ⟨fn,tmps,todo,defers,.run,kind,round⟩ cs none v w
    |.halt _ w=>.ended (.stuck "range over a function: no such loop" (Frame.pos P.a ⟨fn,tmps,todo,defers,.run,kind,round⟩)) w))).drawn<=w.drawn+n) :
  Cy P SB H lets BB T Gn β w W (GStep.after (seen P.a fn ((Instr.endRound l j).runT P.a w #[]).2) (match ((Instr.endRound l j).runT P.a w #[]).1 with
    |.ok v w=>doReturn P.a main ⟨fn,tmps,todo,defers,.run,kind,round⟩ cs none v w
    |.halt _ w=>.ended (.stuck "range over a function: no such loop" (Frame.pos P.a ⟨fn,tmps,todo,defers,.run,kind,round⟩)) w))
   (GStep.after (seen P.b fn ((Instr.endRound L j).runT P.b W #[]).2) (match((Instr.endRound L j).runT P.b W #[]).1 with
    |.ok v w=>doReturn P.b main2 ⟨fn,Dk,ED,Cz,.run,kind,round'⟩ CS none v w
    |.halt _ w=>.ended (.stuck "range over a function: no such loop" (Frame.pos P.b ⟨fn,Dk,ED,Cz,.run,kind,round'⟩)) w)):=by
 have hm:=mT (P:=P) (Ck:=CK P.a SB lets) (G:=Gn) (S:=SP SB H) hl hh j hj;have hE:=hm w W n hw ht #[] #[];rcases hr:(Instr.endRound l j).runT P.a w #[] with⟨r,es⟩
 rw[hr] at hb hE;cases r with
 |ok v w' =>
  have Jp:w'.drawn<=w.drawn+n:=by
   have:∀cs,(aN (GStep.after (seen P.a fn es) (doReturn P.a main ⟨fn,tmps,todo,defers,.run,kind,round⟩ cs none v w')))=w'\/cs=[]:=by
    intro cs;cases cs with
    |nil=>exact .inr rfl
    |cons c cs =>
     refine .inl ?_;unfold doReturn;cases kind<;>rfl
   rcases this cs with h|h
   .rw[<-h];exact hb
   .exact absurd h hne
  obtain⟨Ax,X,W',ES,e1,e2,e3⟩:=hE Jp;simp only[e1,xS];have hc':=hc.mono λ_ _ (r:AQ P.a SB H lets β _ _)=>r.mono e3.le;have Ec:=e3.seen (P:=P) (SB:=SB) (H:=H) (lets:=lets) fn;have:=eE (P:=P) (main:=main) (main2:=main2) (BB:=BB) (fr:=⟨fn,tmps,todo,defers,.run,kind,round⟩) (FR:=⟨fn,Dk,ED,Cz,.run,kind,round'⟩) rfl a7.1 hc' hne e2 Ec (seen P.a fn es);simpa using this
 |halt x w'=>trivial
end
def _root_.Go.AW.AE.YI {S:Cb}{Ck:Code->Prop}{α Ej:Type}{m:Sem α}{M:Sem Ej}{R:AO->α->Ej->Prop}(h:AE P S Ck Gn β m M R){w W:World}(hw:Bg S Ck Gn β w W){BV es:Array Event}{a:α}{w':World}(hr:m.runT P.a w BV=(.ok a w',es)):∃Ax A W',R Ax a A/\β.le Ax/\Bg S Ck Gn Ax w' W':=by
 have hw':Bg S Ck Gn β w { W with tape:=λi q=>w.tape (w.drawn+(i-W.drawn)) q }:=⟨hw.B6,hw.room,hw.Cq,hw.CG,hw.old,hw.env⟩;have hd:=Cr P.a m w BV
 have:=h w { W with tape:=λi q=>w.tape (w.drawn+(i-W.drawn)) q } ((world (m.runT P.a w BV).1).drawn-w.drawn) hw' (λi _ q=>by
  show w.tape (w.drawn+i) q=w.tape (w.drawn+(W.drawn+i-W.drawn)) q
  rw[show W.drawn+i-W.drawn=i from by omega]) BV #[] (by omega)
 rw[hr] at this;obtain⟨Ax,A,W',_,_,h,hf⟩:=this;exact⟨Ax,A,W',h,hf.le,hf.rel⟩
def mU {fr:Frame}{cs:List Frame}{m M:Sem Next}(hm:AE P (SP SB H) (CK P.a SB lets) Gn β m M (EN (SP SB H) (CK P.a SB lets))){w W:World}(hw:Bg (SP SB H) (CK P.a SB lets) Gn β w W) :
  w.drawn<=(aN (stepG.apply P.a true fr cs none m w)).drawn:=by
 have h0:=Cr P.a m w #[];have C3:=hm.NC hw #[];have hsome:=λ(a:Next) (w':World) (es:Array Event) (e:m.runT P.a w #[]=(.ok a w',es))=>hm.some hw e;unfold stepG.apply;simp only[if_true];rcases hr:m.runT P.a w #[] with⟨r,es⟩
 rw[hr] at C3 h0;cases r with
 |ok x w' =>
  obtain⟨_,_,hx⟩:=hsome x w' es hr;cases hx<;>exact h0
 |halt x w' =>
  cases x with
  |panic v=>exact h0
  |stuck s=>exact h0
  |unsupported u =>
   cases u with
   |initOrder g=>exact absurd rfl (C3 g)
   |_=>exact h0
  |_=>exact C3.elim
def Cy.after {w W w' W':World}{ES:List Event}(hf:Fin (SP SB H) (CK P.a SB lets) Gn β Ax w W w' W' ES){s S:GStep}(h:Cy P SB H lets BB T Gn Ax w' W' s S)(es:Array Event):Cy P SB H lets BB T Gn β w W (GStep.after es s) (GStep.after ES.toArray S):=by
 cases s with
 |go g w2 es2 =>
  rcases h with h|⟨BS,g2,W2,ES2,rfl,h2,h3⟩
  .exact Or.inl h
  refine Or.inr ⟨BS,g2,W2,_,rfl,h2,?_⟩;have:=hf.trans h3;simpa using this
 |ended o w es=>trivial
 |_=>exact h.elim
def rT (L:Lib P SB H lets BB Gn){fr FR:Frame}{cs CS:List Frame}(hf:AQ P.a SB H lets β fr FR)(hm:fr.mode=.run)(hc:B3 P.a SB H lets T β cs CS)(hgo:MT P.a SB fr){w W:World}{n:Nat}(hw:Bg (SP SB H) (CK P.a SB lets) Gn β w W)(ht:Im n w W)
  (hb:(aN (stepG.exec P.a main true fr cs none w)).drawn<=w.drawn+n) :
  Cy P SB H lets BB T Gn β w W (stepG.exec P.a main true fr cs none w) (stepG.exec P.b main2 true FR CS none W):=by
 obtain⟨fn,tmps,todo,defers,mode,kind,round⟩:=fr;obtain⟨DZ,Dk,ED,Cz,GR,KL,round'⟩:=FR;have F8:=hf;obtain⟨a1,a2,a3,a4,a5,a6,a7,a8⟩:=hf;dsimp only at a1 a2 a3 a4 a5 a6 a7 a8 hm;subst a1 a6 hm;cases a5;cases a3 with
 |nil =>
  cases a8 with
  |none =>
   simp only[stepG.exec] at hb ⊢;exact bt a2 .nil a4 .returning a7 .none hc hw
  |@some l L' hl hh =>
   have hne:cs≠[]:=hc.ne;simp only[stepG.exec] at hb ⊢;exact dw none (λc e=>by cases e) a7 hl hh hc hne hw ht hb
 |@cons i I l L' hi hl =>
  cases hi with
  |@code c Ji =>
   have leave : ∀ (j : Option Code), (∀ c, j = some c -> codeOk P.a SB lets false c = true) -> (∀ c, j = some c -> c ≠ .ret -> round ≠ none) ->
     stepG.exec P.a main true ⟨fn,tmps,.code c::l,defers,.run,kind,round⟩ cs none w=stepG.exec P.a main true ⟨fn,tmps,.code c::l,defers,.run,kind,round⟩ cs none w->True:=λ_ _ _ _=>trivial
   clear leave;cases c with
   |skip=>exact bt a2 hl a4 .run a7 a8 hc hw
   |label l0=>exact bt a2 hl a4 .run a7 a8 hc hw
   |refuse s=>trivial
   |ret =>
    cases a8 with
    |none=>exact bt a2 (.cons (.code Ji) hl) a4 .returning a7 .none hc hw
    |@some l0 L0 hl0 hh =>
     have hne:cs≠[]:=hc.ne;exact dw (some .ret) (λc e=>by cases e;rfl) a7 hl0 hh hc hne hw ht hb
   |seq a b =>
    simp only[codeOk,xC] at Ji;exact bt a2 (.cons (.code Ji.1) (.cons (.code Ji.2) hl)) a4 .run a7 a8 hc hw
   |cond x a b =>
    simp only[codeOk,xC] at Ji;have hx:=F8.eval Ji.1.1;simp only[stepG.exec] at hb ⊢;revert hx;generalize Frame.eval ⟨fn,tmps,.code (.cond x a b)::l,defers,.run,kind,round⟩ x=v;generalize Frame.eval ⟨fn,Dk,.code (.cond x a b)::L',Cz,.run,kind,round'⟩ x=V;intro hx;cases hx with
    |bool t =>
     cases t with
     |true=>exact bt a2 (.cons (.code Ji.1.2) hl) a4 .run a7 a8 hc hw
     |false=>exact bt a2 (.cons (.code Ji.2) hl) a4 .run a7 a8 hc hw
    |_=>trivial
   |block id b=>exact bt a2 (.cons (.code Ji) (.cons (.inBlock id) hl)) a4 .run a7 a8 hc hw
   |loop b=>exact bt a2 (.cons (.code Ji) (.cons (.inLoop Ji) hl)) a4 .run a7 a8 hc hw
   |scope b=>exact bt a2 (.cons (.code Ji) (.cons (.inScope Ji) hl)) a4 .run a7 a8 hc hw
   |exit id =>
    rcases Mc id hl with⟨e1,e2⟩|⟨k,K,e1,e2,hk⟩
    .cases a8 with
     |none=>simp only[stepG.exec,e1,Option.elim_none];trivial
     |@some l0 L0 hl0 hh =>
      have hne:cs≠[]:=hc.ne;simp only[stepG.exec,e1,e2,Option.elim_none] at hb ⊢;exact dw (some (.exit id)) (λc e=>by cases e;rfl) a7 hl0 hh hc hne hw ht hb
    .simp only[stepG.exec,e1,e2,Option.elim_some];exact bt a2 hk a4 .run a7 a8 hc hw
   |goto l1 =>
    rcases Md l1 hl with⟨e1,e2⟩|⟨k,K,e1,e2,hk⟩
    .cases a8 with
     |none=>simp only[stepG.exec,e1,Option.elim_none];trivial
     |@some l0 L0 hl0 hh =>
      have hne:cs≠[]:=hc.ne;simp only[stepG.exec,e1,e2,Option.elim_none] at hb ⊢;exact dw (some (.goto l1)) (λc e=>by cases e;rfl) a7 hl0 hh hc hne hw ht hb
    .simp only[stepG.exec,e1,e2,Option.elim_some];exact bt a2 hk a4 .run a7 a8 hc hw
   |rangeFunc f ps xd bo =>
    simp only[codeOk,xC] at Ji;have ho:(round=none/\round'=none)\/∃l L,round=some l/\round'=some L/\β l L/\(SP SB H).hid l=false:=by
     cases a8 with
     |none=>exact .inl ⟨rfl,rfl⟩
     |some x y=>exact .inr ⟨_,_,rfl,rfl,x,y⟩
    have hm:=lI (P:=P) (Ck:=CK P.a SB lets) (G:=Gn) (S:=SP SB H) fn a7.2 a2 ps Ji.1.2 Ji.2 ho;have hE:=hm w W n hw ht #[] #[];simp only[stepG.exec] at hb ⊢;rcases hr:(Instr.enterLoop fn tmps ps xd bo round).runT P.a w #[] with⟨r,es⟩
    rw[hr] at hb hE;cases r with
    |ok x w' =>
     obtain⟨l0,mark⟩:=x;have next : ∀ (Ax : AO) (l0 L0 : Nat), β.le Ax -> Ax l0 L0 -> H l0 = false -> ∀ (m M : List Deferred),
       AE P (SP SB H) (CK P.a SB lets) Gn Ax (do
        let d<-resolve (Frame.eval ⟨fn,tmps,.inRangeFunc l0::l,m++defers,.run,kind,round⟩) { callee:=.value f,args:=#[.const (.func (.yield l0) #[] #[])],argTypes:=#[] } 0
        invoke d.target d.args) (do
        let d<-resolve (Frame.eval ⟨fn,Dk,.inRangeFunc L0::L',M++Cz,.run,kind,round'⟩) { callee:=.value f,args:=#[.const (.func (.yield L0) #[] #[])],argTypes:=#[] } 0
        invoke d.target d.args) (EN (SP SB H) (CK P.a SB lets)):=by
      intro Ax l0 L0 hle hl0 YJ m M;unfold resolve;dsimp only;have hx:Aw (SP SB H) Ax (Frame.eval ⟨fn,tmps,.inRangeFunc l0::l,m++defers,.run,kind,round⟩ f) (Frame.eval ⟨fn,Dk,.inRangeFunc L0::L',M++Cz,.run,kind,round'⟩ f):=by
       have:=(F8.eval Ji.1.1).mono hle;cases f with
       |tmp t=>exact this
       |const v=>exact this
       |global g=>exact this
       |func g=>exact this
      refine Ar (fP hx ?_) ?_
      .simp only[zm,zc,zk,Frame.eval];exact AA.one (.func (.yield hl0 YJ) rfl (by simp) rfl (by simp))
      .intro BS d D _ hd;exact gK L.calls hd
     obtain⟨B7,⟨L1,M1⟩,W1,hx1,OC,Eb⟩:=hm.YI hw hr;have hd:=mU (fr:=⟨fn,tmps,.inRangeFunc l0::l,mark++defers,.run,kind,round⟩) (cs:=cs) (next B7 l0 L1 OC hx1.1 hx1.2.1 mark M1) Eb;have Jp:w'.drawn<=w.drawn+n:=by
      have e:∀s,aN (GStep.after (seen P.a fn es) s)=aN s:=λs=>by cases s<;>rfl
      rw[e] at hb;exact xx hd hb
     obtain⟨Ax,⟨L0,M0⟩,W',ES,e1,⟨e2,e2',adt⟩,e3⟩:=hE Jp;simp only[e1,xS];have hc':=hc.mono λ_ _ (r:AQ P.a SB H lets β _ _)=>r.mono e3.le;have Iq:AQ P.a SB H lets Ax ⟨fn,tmps,.inRangeFunc l0::l,mark++defers,.run,kind,round⟩ ⟨fn,Dk,.inRangeFunc L0::L',M0++Cz,.run,kind,round'⟩ :=
      ⟨rfl,a2.mono e3.le,.cons (.inRangeFunc e2 e2') (hl.mono λ_ _=>C0.mono e3.le),adt.append (a4.mono λ_ _=>Cl.mono e3.le),.run,rfl,a7,a8.mono e3.le⟩
     have h3:=e3.drawn
     have:=gM (BB:=BB) L Iq hc' (next Ax l0 L0 e3.le e2 e2' mark M0) e3.rel (ht.rest e3) (by
      have e:∀s,aN (GStep.after (seen P.a fn es) s)=aN s:=λs=>by cases s<;>rfl
      rw[e] at hb;refine xx hb ?_
      omega)
     have:=Cy.after (e3.seen (P:=P) (SB:=SB) (H:=H) (lets:=lets) fn) this (seen P.a fn es);simpa using this
    |halt x w'=>trivial
   |region id ops draw =>
    have YK:ops.all (ct P.a SB lets round.isNone)=true:=by have h0:=Ji;simp only[codeOk,xC] at h0;exact h0.1
    cases draw with
    |false=>exact bt a2 (.cons (.inRegion YK) hl) a4 .run a7 a8 hc hw
    |true =>
     have hm:=eZ (P:=P) (Ck:=CK P.a SB lets) (G:=Gn) (S:=SP SB H) (β:=β) (.order fn id);have hE:=hm w W n hw ht #[] #[];simp only[stepG.exec,Bool.not_true,xJ,if_false] at hb ⊢;rw[<-Sem.runT_fst P.a (choose (.order fn id)) w #[]] at hb ⊢;rw[<-Sem.runT_fst P.b (choose (.order fn id)) W #[]];rcases hr:(choose (.order fn id)).runT P.a w #[] with⟨r,es⟩
     rw[hr] at hb hE;cases r with
     |ok t w' =>
      obtain⟨Ax,X,W',ES,e1,e2,e3⟩:=hE hb;simp only[e1];subst e2;have hc':=hc.mono λ_ _ (r:AQ P.a SB H lets β _ _)=>r.mono e3.le;exact Or.inr ⟨Ax,_,W',_,rfl,aO ⟨rfl,a2.mono e3.le,.cons (.inRegion YK) (hl.mono λ_ _=>C0.mono e3.le),a4.mono λ_ _=>Cl.mono e3.le,.run,rfl,a7,a8.mono e3.le⟩ hc',{ e3 with evs:=by simp }⟩
     |halt x w'=>trivial
  |inBlock id=>exact bt a2 hl a4 .run a7 a8 hc hw
  |@inLoop c Ji=>exact bt a2 (.cons (.code Ji) (.cons (.inLoop Ji) hl)) a4 .run a7 a8 hc hw
  |@inScope c Ji=>exact bt a2 hl a4 .run a7 a8 hc hw
  |@inRegion ops todo ho =>
   cases todo with
   |nil=>exact bt a2 hl a4 .run a7 a8 hc hw
   |cons i rest =>
    have hy:yielded ops Dk=yielded ops tmps:=(funext λj=>iM a2 ops j).symm;simp only[stepG.exec,hy] at hb ⊢;by_cases Vh:(Option.map (λx=>Region.wanted x (yielded ops tmps)) ops[i]?).getD false=true
    .simp only[if_pos Vh] at hb ⊢;cases hoi:ops[i]? with
     |none=>rw[hoi] at Vh;cases Vh
     |some o =>
      have adu:=hgo o (by unfold Frame.oper?;exact hoi);have LO:ct P.a SB lets round.isNone o=true:=by
       simp only[xM] at ho;exact ho o (xP hoi)
      unfold ct at LO;rw[adu] at LO;simp only[yJ,zp,xC,xO,yw] at LO;have key:∀(p:Program) (t:Array Value) (k:List Item) (ds:List Deferred) (r:Option Nat),r.isNone=round.isNone->∀cs w,stepG.oper p true ⟨fn,t,.inRegion ops (i::rest)::k,ds,.run,kind,r⟩ cs none w=stepG.apply p true ⟨fn,t,.inRegion ops (i::rest)::k,ds,.run,kind,r⟩ cs none (execOp (Frame.eval ⟨fn,t,.inRegion ops (i::rest)::k,ds,.run,kind,r⟩) o) w:=by
       intro p t k ds r hr cs w;unfold stepG.oper Frame.oper?;simp only[hoi];cases r with
       |none=>rfl
       |some l0 =>
        rw[<-hr] at LO;cases hop:o.op with
        |defer c=>rw[hop] at LO;simp[nI] at LO
        |_=>rfl
      rw[key _ _ _ _ _ rfl] at hb ⊢;rw[key _ _ _ _ _ (qe a8).symm];exact gM L F8 hc (qd L.adq L.calls (λx hx=>F8.eval hx) LO.1) hw ht hb
    .simp only[if_neg Vh] at hb ⊢;exact Or.inr ⟨β,_,W,_,rfl,aO (bg F8 (.tuple rfl (by simp))) hc,by simpa using Fin.refl hw⟩
  |inRangeFunc x y=>trivial
  |@endRangeFunc l0 L0 x y =>
   have hm:=oO (P:=P) (Ck:=CK P.a SB lets) (G:=Gn) (S:=SP SB H) x y;have hE:=hm w W n hw ht #[] #[];have C3:=hm.NC hw #[];simp only[stepG.exec] at hb ⊢;rcases hr:(Instr.endLoop l0).runT P.a w #[] with⟨r,es⟩
   rw[hr] at hb hE C3;cases r with
   |ok j w' =>
    obtain⟨Ax,X,W',ES,e1,⟨e2,e2'⟩,e3⟩:=hE hb;subst e2;simp only[e1,xS];have hc':=hc.mono λ_ _ (r:AQ P.a SB H lets β _ _)=>r.mono e3.le;have Ec:=e3.seen (P:=P) (SB:=SB) (H:=H) (lets:=lets) fn;have hl':=hl.mono λ_ _ (r:C0 P.a SB H lets round.isNone β _ _)=>r.mono e3.le;refine Or.inr ⟨Ax,_,W',_,rfl,aO ⟨rfl,a2.mono e3.le,?_,a4.mono λ_ _=>Cl.mono e3.le,.run,rfl,a7,a8.mono e3.le⟩ hc',by simpa using Ec⟩
    cases j with
    |none=>exact hl'
    |some c=>exact .cons (.code (bG (e2' c rfl))) hl'
   |halt x w' =>
    cases x with
    |panic v =>
     obtain⟨Ax,X,W',ES,e1,e2,e3⟩:=hE hb;simp only[e1,xS];have hc':=hc.mono λ_ _ (r:AQ P.a SB H lets β _ _)=>r.mono e3.le;have Ec:=e3.seen (P:=P) (SB:=SB) (H:=H) (lets:=lets) fn;exact Or.inr ⟨Ax,_,W',_,rfl,aO (cI (F8.mono e3.le) (.cons (.mk _ _ e2) .nil)) hc',by simpa using Ec⟩
    |_=>trivial
  |beginRound =>
   have hm:AE P (SP SB H) (CK P.a SB lets) Gn β (do round.elim (stuck "beginRound: no round") Instr.beginRound;pure .skip:Sem Next) (do round'.elim (stuck "beginRound: no round") Instr.beginRound;pure .skip) (EN (SP SB H) (CK P.a SB lets)):=by
    cases a8 with
    |none=>exact Ar (R:=λ_ _ _=>False) Az (λ_ _ _ _ h=>h.elim)
    |some x y =>
     refine Ar (lg x y) ?_;intro BS _ _ _ _;exact Au .skip
   simp only[stepG.exec] at hb ⊢;exact gM L F8 hc hm hw ht hb
def Ready (p:Program)(SB:FuncId->Bool)(g:Goroutine):Prop:=g.frame.mode=.run->MT p SB g.frame
def dD (L:Lib P SB H lets BB Gn){g g2:Goroutine}(hg:CI P SB H lets BB T β g g2)(DW:AQ P.a SB H lets β g.frame g2.frame)(hr:Ready P.a SB g){w W:World}{n:Nat}(hw:Bg (SP SB H) (CK P.a SB lets) Gn β w W)(ht:Im n w W)
  (hb:(aN (stepG P.a main g w)).drawn<=w.drawn+n) :
  Cy P SB H lets BB T Gn β w W (stepG P.a main g w) (stepG P.b main2 g2 W):=by
 obtain⟨fr,cs,st,dy,off⟩:=g;obtain⟨FR,CS,Gv,dy',Vi⟩:=g2;obtain⟨h1,h2,⟨h3,MR⟩,⟨h4,h4'⟩,⟨h5,h5'⟩⟩:=hg;dsimp only at *;subst h4 h4';have hm:=DW.mode;cases T4:fr.mode with
 |run =>
  rw[T4] at hm;have e1:stepG P.a main ⟨fr,cs,st,none,off⟩ w=stepG.exec P.a main true fr cs none w:=by unfold stepG;simp only[T4]
  have e2:stepG P.b main2 ⟨FR,CS,Gv,none,Vi⟩ W=stepG.exec P.b main2 true FR CS none W:=by
   have:FR.mode=.run:=by generalize FR.mode=q at hm;cases hm;rfl
   unfold stepG;simp only[this]
  rw[e1] at hb ⊢;rw[e2];exact rT L DW T4 h2 (hr T4) hw ht hb
 |returning =>
  rw[T4] at hm;have e1:stepG P.a main ⟨fr,cs,st,none,off⟩ w=unwind P.a main fr cs none w:=by unfold stepG;simp only[T4]
  have e2:stepG P.b main2 ⟨FR,CS,Gv,none,Vi⟩ W=unwind P.b main2 FR CS none W:=by
   have:FR.mode=.returning:=by generalize FR.mode=q at hm;cases hm;rfl
   unfold stepG;simp only[this]
  rw[e1] at hb ⊢;rw[e2];exact ju L DW h2 hw ht hb
 |panicking l =>
  rw[T4] at hm;have e1:stepG P.a main ⟨fr,cs,st,none,off⟩ w=unwind P.a main fr cs none w:=by unfold stepG;simp only[T4]
  have e2:stepG P.b main2 ⟨FR,CS,Gv,none,Vi⟩ W=unwind P.b main2 FR CS none W:=by
   have:∃l,FR.mode=.panicking l:=by generalize FR.mode=q at hm;cases hm;exact⟨_,rfl⟩
   obtain⟨l,this⟩:=this;unfold stepG;simp only[this]
  rw[e1] at hb ⊢;rw[e2];exact ju L DW h2 hw ht hb
end
end Go.AW
