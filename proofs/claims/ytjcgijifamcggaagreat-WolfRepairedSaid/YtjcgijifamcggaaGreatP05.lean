/- Parts of the proof. -/
import Derived.Test.YtjcgijifamcggaaGreatP04
import Derived.Test.YtjcgijifamcggaaGreatP00
set_option linter.all false
namespace Go.Bl
def m7:Op->Bool
 |.defer _=>true
 |_=>false
def iL (s:String):Bool:=s == "internal/race.Disable"||s == "internal/race.Enable"||s == "internal/race.Acquire"||s == "internal/race.ReleaseMerge"
def dh (p:Program)(f:FuncId):Bool:=match p.funcs[f]? with
 |some fn=>fn.body.isNone&&iL fn.name
 |none=>false
def aO {p:Program}{f:FuncId}{fn:Func}(h:p.funcs[f]?=some fn)(hb:fn.body.isSome=true):dh p f=false:=by
 unfold dh;rw[h];cases hx:fn.body with
 |none=>rw[hx] at hb;cases hb
 |some c=>simp[hx]
def dA {p:Program}{f:FuncId}{fn:Func}(h:p.funcs[f]?=some fn)(hb:iL fn.name=false):dh p f=false:=by
 unfold dh;rw[h];simp[hb]
def ej (p:Program)(c:Call):Bool:=match c.callee with
 |.value (.func f)=>dh p f
 |_=>false
def el (P:Program)(s d:TypeId):Bool:=match P.underlying s,P.underlying d with
 |some (.pointer _),some .unsafePointer=>true
 |_,_=>false
def aF (p:Program):Op->Bool
 |.go _=>false
 |.call c=>!ej p c
 |.convert s d _=>!el p s d
 |_=>true
def Ja (P:Program)(SB:FuncId->Bool):Op->Bool
 |.go c=>bB P SB c&&match c.callee with
  |.builtin _=>false
  |_=>true
 |.call c=>ej P c&&c.args.all (ag SB)&&match c.callee with
  |.value (.func f)=>!SB f
  |_=>false
 |.convert s d x=>el P s d&&ag SB x
 |_=>false
def n8 {P:Program}{SB:FuncId->Bool}{op:Op}(h:aF P op=true):Ja P SB op=false:=by
 cases op with
 |go c=>simp[aF] at h
 |call c=>simp only[aF,yG] at h;simp[Ja,h]
 |convert s d x=>simp only[aF,yG] at h;simp[Ja,h]
 |_=>rfl
def iy {P:Program}{s d:TypeId}(h:gz P s d=true):el P s d=false:=by
 unfold gz at h;unfold el;split at h
 .rename_i h1 h2;rw[h1,h2]
 .cases h
def rL {P p:Program}{SB:FuncId->Bool}{o:Oper}(h:dg P SB o=true)(hn:∀f,SB f=true->dh p f=false)(hu:∀t,p.underlying t=P.underlying t):aF p o.op=true:=by
 unfold dg NJ at h;cases hop:o.op with
 |go c=>rw[hop] at h;simp at h
 |call c =>
  rw[hop] at h;simp only[aF,yG];unfold ej;cases hc:c.callee with
  |value f=>cases f with
   |func f =>
    simp only[bB,hc,xG] at h;exact hn f h.1.2
   |_=>rfl
  |_=>rfl
 |convert s d x =>
  rw[hop] at h;simp only[xG] at h;simp only[aF,yG];have:=iy h.1.1;unfold el at this ⊢;rw[hu,hu];exact this
 |_=>rfl
def tH {P:Program}{SB:FuncId->Bool}{o:Oper}(h:dg P SB o=true):Ja P SB o.op=false:=by
 unfold dg NJ at h;cases hop:o.op with
 |go c=>rw[hop] at h;simp at h
 |call c =>
  rw[hop] at h;unfold Ja;cases hc:c.callee with
  |value f=>cases f with
   |func f =>
    simp only[bB,hc,xG] at h;have h2:SB f=true:=h.1.2;simp[hc,h2]
   |_=>simp[ej,hc]
  |_=>simp[ej,hc]
 |convert s d x =>
  rw[hop] at h;simp only[xG] at h;simp[Ja,iy h.1.1]
 |_=>rfl
def bX (P:Program)(SB:FuncId->Bool)(lets ad:Bool)(o:Oper):Bool:=(dg P SB o&&(ad||!m7 o.op))||(lets&&Ja P SB o.op)
def vb:Op->Bool
 |.call c=>(match c.callee with|.value (.func f)=>f==92|_=>false)&&(match(c.args[1]?:Option Operand) with|some (Operand.const (Value.int _ n))=>decide (n<0)|_=>false)
 |_=>false
def codeOk (P:Program)(SB:FuncId->Bool)(lets:Bool):Bool->Code->Bool
 |_,.skip|_,.exit _|_,.label _|_,.goto _|_,.ret=>true
 |_,.refuse _=>true
 |ad,.region _ ops _=>ops.all (bX P SB lets ad)&&!ops.any λo=>vb o.op
 |ad,.seq a b=>codeOk P SB lets ad a&&codeOk P SB lets ad b
 |ad,.cond c a b=>ag SB c&&codeOk P SB lets ad a&&codeOk P SB lets ad b
 |ad,.block _ b|ad,.loop b|ad,.scope b=>codeOk P SB lets ad b
 |_,.rangeFunc f _ xi bo=>ag SB f&&codeOk P SB lets false xi&&codeOk P SB lets false bo
section
variable (P:Program) (SB:FuncId->Bool) (H:Hid) (lets:Bool)
abbrev CK:Code->Prop:=λc=>codeOk P SB lets false c=true
inductive Du (ad:Bool)(β:Bc):Item->Item->Prop
 |code {c:Code}:codeOk P SB lets ad c=true->Du ad β (.code c) (.code c)
 |inBlock (id:Nat):Du ad β (.inBlock id) (.inBlock id)
 |inLoop {c:Code}:codeOk P SB lets ad c=true->Du ad β (.inLoop c) (.inLoop c)
 |inScope {c:Code}:codeOk P SB lets ad c=true->Du ad β (.inScope c) (.inScope c)
 |inRegion {ops:Array Oper} {l:List Nat}:ops.all (bX P SB lets ad)=true->Du ad β (.inRegion ops l) (.inRegion ops l)
 |inRangeFunc {l L:Nat}:β l L->H l=false->Du ad β (.inRangeFunc l) (.inRangeFunc L)
 |endRangeFunc {l L:Nat}:β l L->H l=false->Du ad β (.endRangeFunc l) (.endRangeFunc L)
 |beginRound:Du ad β .beginRound .beginRound
inductive GQ (β:Bc):PanicEntry->PanicEntry->Prop
 |mk {v V:Value} (r g:Bool):AO (SP SB H) β v V->GQ β ⟨v,r,g⟩ ⟨V,r,g⟩
inductive Hd (β:Bc):FrameMode->FrameMode->Prop
 |run:Hd β .run .run
 |returning:Hd β .returning .returning
 |panicking {l L:List PanicEntry}:B4 (GQ SB H β) l L->Hd β (.panicking l) (.panicking L)
inductive E2 (β:Bc):Option Nat->Option Nat->Prop
 |none:E2 β none none
 |some {l L:Nat}:β l L->H l=false->E2 β (some l) (some L)
structure Bf (β:Bc)(f F:Frame):Prop where
 fn:f.fn=F.fn
 tmps:AU (SP SB H) β f.tmps F.tmps
 todo:B4 (Du P SB H lets f.roundOf.isNone β) f.todo F.todo
 defers:B4 (CM (SP SB H) β) f.defers F.defers
 mode:Hd SB H β f.mode F.mode
 kind:f.kind=F.kind
 late:f.kind≠.early/\SB f.fn=true
 round:E2 H β f.roundOf F.roundOf
def bad:Frame:={ fn:=0,tmps:=#[],todo:=[.code (.refuse "")],defers:=[⟨.nil,#[]⟩],mode:=.run,kind:=.normal }
inductive Cl (T:List Frame)(β:Bc):List Frame->List Frame->Prop
 |base:Cl T β [bad] T
 |cons {c C:Frame} {cs CS:List Frame}:Bf P SB H lets β c C->Cl T β cs CS->Cl T β (c::cs) (C::CS)
end
section
variable (P:Bw) (SB:FuncId->Bool) (H:Hid) (lets:Bool)
inductive Dy (BB:FuncId->Bool)(β:Bc):Frame->Frame->Prop
 |on {f F:Frame}:Bf P.a SB H lets β f F->Dy BB β f F
 |stop {f:FuncId} {a A:Array Value} {k:CallKind}:(SB f=true\/aI SB f=true)->BB f=false->k≠.early->AU (SP SB H) β a A->Dy BB β (Frame.enter P.a f a k) (Frame.enter P.b f A k)
structure Dc (BB:FuncId->Bool)(T:List Frame)(β:Bc)(g g':Goroutine):Prop where
 top:Dy P SB H lets BB β g.frame g'.frame
 callers:Cl P.a SB H lets T β g.callers g'.callers
 status:g.status=.running/\g'.status=.running
 dying:g.dying=none/\g'.dying=none
 offers:g.offers=none/\g'.offers=none
end
section
variable {P:Bw} {SB:FuncId->Bool} {H:Hid} {lets:Bool} {BB:FuncId->Bool} {β AQ:Bc} {G:Nat}
def Cl.mono {T:List Frame}(h:∀c C,Bf P.a SB H lets β c C->Bf P.a SB H lets AQ c C){cs CS:List Frame}(r:Cl P.a SB H lets T β cs CS):Cl P.a SB H lets T AQ cs CS:=by
 induction r with
 |base=>exact .base
 |cons a _ ih=>exact .cons (h _ _ a) ih
def Cl.ne {T:List Frame}{cs CS:List Frame}(r:Cl P.a SB H lets T β cs CS):cs≠[]:=by
 cases r<;>simp
def Du.mono {ad:Bool}(h:β.le AQ){i I:Item}(r:Du P.a SB H lets ad β i I):Du P.a SB H lets ad AQ i I:=by
 cases r with
 |code c=>exact .code c
 |inBlock id=>exact .inBlock id
 |inLoop c=>exact .inLoop c
 |inScope c=>exact .inScope c
 |inRegion c=>exact .inRegion c
 |inRangeFunc a b=>exact .inRangeFunc (h _ _ a) b
 |endRangeFunc a b=>exact .endRangeFunc (h _ _ a) b
 |beginRound=>exact .beginRound
def GQ.mono (h:β.le AQ){i I:PanicEntry}(r:GQ SB H β i I):GQ SB H AQ i I:=by
 cases r with
 |mk a b v=>exact .mk a b (v.mono h)
def Hd.mono (h:β.le AQ){i I:FrameMode}(r:Hd SB H β i I):Hd SB H AQ i I:=by
 cases r with
 |run=>exact .run
 |returning=>exact .returning
 |panicking l=>exact .panicking (l.mono λ_ _=>GQ.mono h)
def E2.mono (h:β.le AQ){i I:Option Nat}(r:E2 H β i I):E2 H AQ i I:=by
 cases r with
 |none=>exact .none
 |some a b=>exact .some (h _ _ a) b
def Bf.mono (h:β.le AQ){f F:Frame}(r:Bf P.a SB H lets β f F):Bf P.a SB H lets AQ f F :=
 ⟨r.fn,r.tmps.mono h,r.todo.mono λ_ _=>Du.mono h,r.defers.mono λ_ _=>CM.mono h,r.mode.mono h,r.kind,r.late,r.round.mono h⟩
def Bf.eval {f F:Frame}(r:Bf P.a SB H lets β f F){x:Operand}(h:ag SB x=true):AO (SP SB H) β (f.eval x) (F.eval x):=by
 cases x with
 |tmp t=>exact r.tmps.getD t (.tuple rfl (by simp))
 |const v=>exact gj h
 |global g=>cases h
 |func f=>exact .func (.func (.inl h)) rfl (by simp) rfl (by simp)
def Ms (id:Nat){ad:Bool}{l L:List Item}(h:B4 (Du P.a SB H lets ad β) l L):(exitTo id l=none/\exitTo id L=none)\/∃k K,exitTo id l=some k/\exitTo id L=some K/\B4 (Du P.a SB H lets ad β) k K:=by
 induction h with
 |nil=>exact .inl ⟨rfl,rfl⟩
 |@cons i I l L hi hl ih =>
  cases hi with
  |inBlock id' =>
   unfold exitTo;split
   .exact .inr ⟨_,_,rfl,rfl,hl⟩
   .exact ih
  |_=>exact ih
def ep {ad:Bool}:∀ {c:Code} {l:Nat} {r:Code},codeOk P.a SB lets ad c=true->findLabel c l=some r->codeOk P.a SB lets ad r=true
 |.seq a b,l,r,h,hf=>by
  simp only[codeOk,xG] at h;unfold findLabel at hf;split at hf
  .rename_i rest hr;cases hf;simp only[codeOk,xG];exact⟨ep h.1 hr,h.2⟩
  .exact ep h.2 hf
 |.label l',l,r,h,hf=>by
  unfold findLabel at hf;split at hf
  .cases hf;rfl
  .cases hf
 |.skip,_,_,_,hf|.region _ _ _,_,_,_,hf|.cond _ _ _,_,_,_,hf|.block _ _,_,_,_,hf|.loop _,_,_,_,hf|.rangeFunc _ _ _ _,_,_,_,hf|.exit _,_,_,_,hf|.scope _,_,_,_,hf|.goto _,_,_,_,hf|.ret,_,_,_,hf|.refuse _,_,_,_,hf=>by cases hf
def Mt {ad:Bool}(l:Nat){k K:List Item}(h:B4 (Du P.a SB H lets ad β) k K):(gotoIn l k=none/\gotoIn l K=none)\/∃k' K',gotoIn l k=some k'/\gotoIn l K=some K'/\B4 (Du P.a SB H lets ad β) k' K':=by
 induction h with
 |nil=>exact .inl ⟨rfl,rfl⟩
 |@cons i I k K hi hl ih =>
  cases hi with
  |inScope hc =>
   rename_i c;unfold gotoIn;cases hf:findLabel c l with
   |none=>exact ih
   |some rest=>exact .inr ⟨_,_,rfl,rfl,.cons (.code (ep hc hf)) (.cons (.inScope hc) hl)⟩
  |_=>exact ih
def mem_seen {p:Program}{fn:FuncId}{es:Array Event}{E:Event}(h:E∈seen p fn es):E∈es:=by
 unfold seen at h;dsimp only at h;rw[<-zM] at h
 have key : ∀ (l : List Event) (q : Bool) (kept : Array Event), E ∈ (l.foldl (fun (x : Bool × Array Event) e => match x with
   |(q,kept)=>match e.loc with
    |.mark (.extern f)=>((p.funcs[f]?).any (·.norace),kept)
    |_=>(q,if q&&!e.sync then kept else kept.push e)) (q,kept)).2->E∈kept\/E∈l:=by
  intro l
  induction l with
  |nil=>intro q kept h;exact .inl h
  |cons e l ih =>
   intro q kept h;simp only[zw] at h;split at h
   .rcases ih _ _ h with h|h
    .exact .inl h
    .exact .inr (by simp[h])
   .rcases ih _ _ h with h|h
    .split at h
     .exact .inl h
     .rcases Array.mem_push.1 h with h|h
      .exact .inl h
      .exact .inr (by simp[h])
    .exact .inr (by simp[h])
 rcases key _ _ _ h with h|h
 .simp at h
 .simpa using h
end
def aeh {α:Type}:Result α×Array Event->Prop
 |(.ok _ _,_)=>True
 |(.halt (.panic _) _,_)=>True
 |(.halt (.stuck _) _,_)=>True
 |(.halt (.unsupported u) _,_)=>∀g,u≠.initOrder g
 |_=>False
section
variable {P:Bw} {S:CF} {Ck:Code->Prop} {G:Nat} {β:Bc}
def AX.NK {α EJ:Type}{m:Sem α}{M:Sem EJ}{R:Bc->α->EJ->Prop}(h:AX P S Ck G β m M R){w W:World}(hw:BF S Ck G β w W)(Ce:Array Event):aeh (m.runT P.a w Ce):=by
 have hw':BF S Ck G β w { W with tape:=λi q=>w.tape (w.drawn+(i-W.drawn)) q }:=⟨hw.Cn,hw.room,hw.CQ,hw.Db,hw.old,hw.env⟩;have hd:=Cy P.a m w Ce
 have:=h w { W with tape:=λi q=>w.tape (w.drawn+(i-W.drawn)) q } ((world (m.runT P.a w Ce).1).drawn-w.drawn) hw' (λi _ q=>by
  show w.tape (w.drawn+i) q=w.tape (w.drawn+(W.drawn+i-W.drawn)) q
  rw[show W.drawn+i-W.drawn=i from by omega]) Ce #[] (by omega)
 revert this;generalize m.runT P.a w Ce=r;obtain⟨r,es⟩:=r;cases r with
 |ok a w'=>exact λ_=>trivial
 |halt x w'=>cases x with
  |panic v=>exact λ_=>trivial
  |stuck s=>exact λ_=>trivial
  |unsupported u=>exact id
  |_=>exact id
def AX.some {α EJ:Type}{m:Sem α}{M:Sem EJ}{R:Bc->α->EJ->Prop}(h:AX P S Ck G β m M R){w W:World}(hw:BF S Ck G β w W){Ce es:Array Event}{a:α}{w':World}(hr:m.runT P.a w Ce=(.ok a w',es)):∃AQ A,R AQ a A:=by
 have hw':BF S Ck G β w { W with tape:=λi q=>w.tape (w.drawn+(i-W.drawn)) q }:=⟨hw.Cn,hw.room,hw.CQ,hw.Db,hw.old,hw.env⟩;have hd:=Cy P.a m w Ce
 have:=h w { W with tape:=λi q=>w.tape (w.drawn+(i-W.drawn)) q } ((world (m.runT P.a w Ce).1).drawn-w.drawn) hw' (λi _ q=>by
  show w.tape (w.drawn+i) q=w.tape (w.drawn+(W.drawn+i-W.drawn)) q
  rw[show W.drawn+i-W.drawn=i from by omega]) Ce #[] (by omega)
 rw[hr] at this;obtain⟨AQ,A,_,_,_,h,_⟩:=this;exact⟨AQ,A,h⟩
end
def aJ:GStep->World
 |.go _ w _|.comm _ _ _ _ w _|.spawn _ _ w _|.count _ w _|.timer _ _ w _|.alone _ _ w _|.newcoro _ _ _ w _|.coroswitch _ _ _ w _|.collect _ w _|.watch _ w _|.ended _ w _=>w
section
variable (P:Bw) (SB:FuncId->Bool) (H:Hid) (lets:Bool) (BB:FuncId->Bool) (T:List Frame) (G:Nat)
def Gone (g:Goroutine):Prop:=(∃fr,g={ frame:=fr,callers:=[],status:=.running,dying:=none })/\∀(P:Program) (w:World),∃o w' es,stepG P true g w=.ended o w' es
def Pl:Gone { frame:=bad,callers:=[],status:=.running,dying:=none }:=⟨⟨_,rfl⟩,λ_ _=>⟨_,_,_,rfl⟩⟩
def oa (l:List PanicEntry):Gone { frame:=bad.raise l,callers:=[],status:=.running,dying:=none }:=⟨⟨_,rfl⟩,λ_ _=>⟨_,_,_,rfl⟩⟩
def C5 (β:Bc)(w W:World):GStep->GStep->Prop
 |.go g w' _,s=>(g.callers=[]/\Gone g)\/∃AQ g2 W' ES,s=.go g2 W' ES/\Dc P SB H lets BB T AQ g g2/\Fin (SP SB H) (CK P.a SB lets) G β AQ w W w' W' ES.toList
 |.ended _ _ _,_=>True
 |_,_=>False
end
section
variable {P:Bw} {SB:FuncId->Bool} {H:Hid} {lets:Bool} {BB:FuncId->Bool} {T:List Frame} {β AQ:Bc} {Gn:Nat}
structure Lib (P:Bw)(SB:FuncId->Bool)(H:Hid)(lets:Bool)(BB:FuncId->Bool)(Gn:Nat):Prop where
 calls:I1 P (SP SB H) (CK P.a SB lets) Gn
 body:∀f,BB f=true->∃fn c,P.a.funcs[f]?=some fn/\fn.body.getD (.refuse "unsupported: a function without a Go body is entered")=c/\codeOk P.a SB lets true c=true/\P.fs[f]?=some fn
 like:∀f,SB f=true->∃fn Ew,P.a.funcs[f]?=some fn/\P.fs[f]?=some Ew/\fn.results=Ew.results
 aei:P.a.globals.size<=Gn
 nm:∀f,SB f=true->dh P.a f=false/\dh P.b f=false
 sub:∀f,BB f=true->SB f=true
 bars:∀f,aI SB f=true->∃fn s,P.a.funcs[f]?=some fn/\fn.body=some (.refuse s)
def B5 (L:Lib P SB H lets BB Gn){f:FuncId}(hf:SB f=true\/aI SB f=true){a A:Array Value}(h:AU (SP SB H) β a A)(k:CallKind)(hk:k≠.early) :
  Dy P SB H lets BB β (Frame.enter P.a f a k) (Frame.enter P.b f A k):=by
 cases hb:BB f with
 |false=>exact .stop hf hb hk h
 |true =>
  obtain⟨fn,c,h1,h2,h3,h4⟩:=L.body f hb;have h4':P.b.funcs[f]?=some fn:=h4;refine .on ⟨rfl,?_,?_,.nil,.run,rfl,⟨hk,L.sub f hb⟩,.none⟩
  .unfold Frame.enter;dsimp only;rw[h.size,h1,h4'];exact h.append (AU.replicate (.tuple rfl (by simp)) _)
  .unfold Frame.enter;simp only[h1,h4',h2,yp,Option.getD_some];exact .cons (.code h3) .nil
def dF {l L:Nat}(hl:β l L)(hh:H l=false)(f:FuncId)(hf:SB f=true){x X:Array Value}(hx:AU (SP SB H) β x X){xi bo:Code}(h1:codeOk P.a SB lets false xi=true)(h2:codeOk P.a SB lets false bo=true)(k:CallKind)(hk:k≠.early) :
  Bf P.a SB H lets β (Frame.round l f x xi bo k) (Frame.round L f X xi bo k) :=
 ⟨rfl,hx,.cons (.code h1) (.cons .beginRound (.cons (.code h2) .nil)),.nil,.run,rfl,⟨hk,hf⟩,.some hl hh⟩
def ba {f F:Frame}(h:Bf P.a SB H lets β f F){v V:Value}(hv:AO (SP SB H) β v V):Bf P.a SB H lets β (f.finish v) (F.finish V):=by
 obtain⟨fn,tmps,todo,defers,mode,kind,round⟩:=f;obtain⟨Ew,DT,E3,C6,He,KZ,round'⟩:=F;obtain⟨h1,h2,h3,h4,h5,h6,h7,h8⟩:=h;dsimp only at *;unfold Frame.finish;cases h3 with
 |nil=>exact⟨h1,h2,.nil,h4,h5,h6,h7,h8⟩
 |@cons i I l L hi hl =>
  have OJ:B4 (Du P.a SB H lets round.isNone β) (i::l) (I::L):=.cons hi hl;cases hi with
  |inRegion ho =>
   rename_i ops todo;cases todo with
   |nil=>exact⟨h1,h2,OJ,h4,h5,h6,h7,h8⟩
   |cons j rest =>
    refine⟨h1,?_,.cons (.inRegion ho) hl,h4,h5,h6,h7,h8⟩;dsimp only;cases(ops[j]?).bind (·.dst) with
    |none=>exact h2
    |some d=>exact h2.set d hv
  |inRangeFunc a b=>exact⟨h1,h2,.cons (.endRangeFunc a b) hl,h4,h5,h6,h7,h8⟩
  |beginRound=>exact⟨h1,h2,hl,h4,h5,h6,h7,h8⟩
  |code c=>exact⟨h1,h2,OJ,h4,h5,h6,h7,h8⟩
  |inBlock id=>exact⟨h1,h2,OJ,h4,h5,h6,h7,h8⟩
  |inLoop c=>exact⟨h1,h2,OJ,h4,h5,h6,h7,h8⟩
  |inScope c=>exact⟨h1,h2,OJ,h4,h5,h6,h7,h8⟩
  |endRangeFunc a b=>exact⟨h1,h2,OJ,h4,h5,h6,h7,h8⟩
def ck {f F:Frame}(h:Bf P.a SB H lets β f F){l L:List PanicEntry}(hl:B4 (GQ SB H β) l L):Bf P.a SB H lets β (f.raise l) (F.raise L):=by
 obtain⟨fn,tmps,todo,defers,mode,kind,round⟩:=f;obtain⟨Ew,DT,E3,C6,He,KZ,round'⟩:=F;obtain⟨h1,h2,h3,h4,h5,h6,h7,h8⟩:=h;dsimp only at *;unfold Frame.raise;cases h5 with
 |run=>exact⟨h1,h2,h3,h4,.panicking hl,h6,h7,h8⟩
 |returning=>exact⟨h1,h2,h3,h4,.panicking hl,h6,h7,h8⟩
 |panicking hc=>exact⟨h1,h2,h3,h4,.panicking (hl.append hc),h6,h7,h8⟩
def aK {f F:Frame}{cs CS:List Frame}(h:Bf P.a SB H lets β f F)(hc:Cl P.a SB H lets T β cs CS) :
  Dc P SB H lets BB T β { frame:=f,callers:=cs,status:=.running,dying:=none } { frame:=F,callers:=CS,status:=.running,dying:=none } :=
 ⟨.on h,hc,⟨rfl,rfl⟩,⟨rfl,rfl⟩,⟨rfl,rfl⟩⟩
def Fin.seen {w W w' W':World}{ES:List Event}(h:Fin (SP SB H) (CK P.a SB lets) Gn β AQ w W w' W' ES)(fn:FuncId):Fin (SP SB H) (CK P.a SB lets) Gn β AQ w W w' W' (seen P.b fn ES.toArray).toList :=
 { h with evs:=λht E hE=>h.evs ht E (by have:=mem_seen (p:=P.b) (fn:=fn) (E:=E) (es:=ES.toArray) (by simpa using hE);simpa using this) }
def gF (L:Lib P SB H lets BB Gn){fr FR:Frame}{cs CS:List Frame}(hf:Bf P.a SB H lets β fr FR)(hc:Cl P.a SB H lets T β cs CS){m M:Sem Next}
  (hm:AX P (SP SB H) (CK P.a SB lets) Gn β m M (Fe (SP SB H) (CK P.a SB lets))) {w W:World} {n:Nat} (hw:BF (SP SB H) (CK P.a SB lets) Gn β w W) (ht:ID n w W)
  (hb:(aJ (stepG.apply P.a true fr cs none m w)).drawn<=w.drawn+n) :
  C5 P SB H lets BB T Gn β w W (stepG.apply P.a true fr cs none m w) (stepG.apply P.b true FR CS none M W):=by
 have Dw:=hm.NK hw #[];have NL:fr.kind=FR.kind:=hf.kind;have OL:(fr.kind==.early)=false:=by simpa using hf.late.1
 have Pm:(FR.kind==.early)=false:=by rw[<-NL];exact OL
 have hE:=hm w W n hw ht #[] #[];have hsome:=λ(a:Next) (w':World) (es:Array Event) (e:m.runT P.a w #[]=(.ok a w',es))=>hm.some hw e;have hkc:∀ {d:Deferred} {b:Bool} {r:String} {x:Array Value} {k:List Item},fr.todo=.call d b r x::k->False:=by
  intro d b r x k h;have:=hf.todo;rw[h] at this;generalize FR.todo=T at this;cases this with
  |cons hi _=>cases hi
 have aej:∀ {d:Deferred} {b:Bool} {r:String} {x:Array Value} {k:List Item},FR.todo=.call d b r x::k->False:=by
  intro d b r x k h;have:=hf.todo;rw[h] at this;generalize fr.todo=T at this;cases this with
  |cons hi _=>cases hi
 unfold stepG.apply at hb ⊢;simp only[if_true,OL,Pm,xP,if_false] at hb ⊢;rcases hr:m.runT P.a w #[] with⟨r,es⟩
 rw[hr] at hE Dw hb;cases r with
 |ok x w' =>
  obtain⟨_,_,hx⟩:=hsome x w' es hr;have JU:w'.drawn<=w.drawn+n:=by cases hx<;>exact hb
  obtain⟨AQ,X,W',ES,e1,e2,e3⟩:=hE JU;rw[e1];simp only[ya];have hf':=hf.mono e3.le;have hc':=hc.mono λ_ _ (r:Bf P.a SB H lets β _ _)=>r.mono e3.le;have EC:=e3.seen (P:=P) (SB:=SB) (H:=H) (lets:=lets) FR.fn;cases e2 with
  |value hv=>exact Or.inr ⟨AQ,_,W',_,rfl,aK (ba hf' hv) hc',by simpa using EC⟩
  |skip=>exact Or.inr ⟨AQ,_,W',_,rfl,aK (ba hf' (.tuple rfl (by simp))) hc',by simpa using EC⟩
  |enter hs ha =>
   refine Or.inr ⟨AQ,_,W',_,rfl,⟨?_,.cons hf' hc',⟨rfl,rfl⟩,⟨rfl,rfl⟩,⟨rfl,rfl⟩⟩,by simpa using EC⟩;split
   .exact(hkc ‹_›).elim
   .split
    .exact(aej ‹_›).elim
    .exact B5 L hs ha .normal (by simp)
  |round hl hh hx h1 h2=>exact Or.inr ⟨AQ,_,W',_,rfl,aK (dF hl hh.1 _ hh.2 (by assumption) h1 h2 .normal (by simp)) (.cons hf' hc'),by simpa using EC⟩
  |defer hd=>exact Or.inr ⟨AQ,_,W',_,rfl,aK (ba (f:={ fr with defers:=_::fr.defers }) (F:={ FR with defers:=_::FR.defers }) ⟨hf'.fn,hf'.tmps,hf'.todo,.cons hd hf'.defers,hf'.mode,hf'.kind,hf'.late,hf'.round⟩ (.tuple rfl (by simp))) hc',by simpa using EC⟩
 |halt x w' =>
  cases x with
  |panic v =>
   obtain⟨AQ,X,W',ES,e1,e2,e3⟩:=hE hb;rw[e1];simp only[ya];have hf':=hf.mono e3.le;have hc':=hc.mono λ_ _ (r:Bf P.a SB H lets β _ _)=>r.mono e3.le;have EC:=e3.seen (P:=P) (SB:=SB) (H:=H) (lets:=lets) FR.fn;exact Or.inr ⟨AQ,_,W',_,rfl,aK (ck hf' (.cons (.mk _ _ e2) .nil)) hc',by simpa using EC⟩
  |stuck s=>trivial
  |unsupported u =>
   cases u with
   |initOrder g=>exact absurd rfl (Dw g)
   |_=>trivial
  |_=>exact Dw.elim
end
section
variable {P:Bw} {S:CF} {Ck:Code->Prop} {G:Nat} {β:Bc}
def ll (fn:FuncId)(hfn:S.fr fn){x X:Array Value}(hx:AU S β x X)(ps:Array Tmp){xi bo:Code}(h1:Ck xi)(h2:Ck bo){o O:Option Nat}(ho:(o=none/\O=none)\/∃l L,o=some l/\O=some L/\β l L/\S.hid l=false) :
  AX P S Ck G β (Instr.enterLoop fn x ps xi bo o) (Instr.enterLoop fn X ps xi bo O) (λAQ r R=>AQ r.1 R.1/\S.hid r.1=false/\B4 (CM S AQ) r.2 R.2):=by
 have fin : ∀ (AQ : Bc) (d D : Nat) (m M : List Deferred), β.le AQ -> AQ d D -> S.hid d = false -> B4 (CM S AQ) m M -> AX P S Ck G AQ (do
   pure (<-newObj (.loop { state:=.ready,pending:=none,fn,tmps:=x,params:=ps,assign:=xi,body:=bo,defers:=d }),m):Sem (Nat×List Deferred)) (do
   pure (<-newObj (.loop { state:=.ready,pending:=none,fn,tmps:=X,params:=ps,assign:=xi,body:=bo,defers:=D }),M):Sem (Nat×List Deferred)) (λAQ r R=>AQ r.1 R.1/\S.hid r.1=false/\B4 (CM S AQ) r.2 R.2):=by
  intro AQ d D m M hle hd hk hm;refine AJ (i5 (.loop ⟨hfn,λc e=>by cases e⟩ h1 h2 (hx.mono hle) hd hk) (λi=>BS.id (S:=S) (Ck:=Ck) i (.loop ⟨hfn,λc e=>by cases e⟩ h1 h2 (hx.mono hle) hd hk) (by simp))) ?_;rintro Cb b B BM ⟨hb,hb'⟩;exact AL ⟨hb,hb',hm.mono λ_ _=>CM.mono BM⟩
 unfold Instr.enterLoop;rcases ho with⟨rfl,rfl⟩|⟨l,L,rfl,rfl,hl,hk⟩
 .refine AJ (i5 (.defs .nil) (λ_=>rfl)) ?_;rintro Cb b B BM ⟨hb,hb'⟩;refine AJ (AL (R:=λAQ (a A:Nat×List Deferred)=>Cb.le AQ/\a=(b,[{ target:=.collected b,args:=#[] }])/\A=(B,[{ target:=.collected B,args:=#[] }])) ⟨Cb.le_refl,rfl,rfl⟩) ?_;rintro Dh a A BR ⟨_,rfl,rfl⟩;exact fin Dh _ _ _ _ (Bc.le_trans BM BR) (BR _ _ hb) hb' (.cons (.collected (BR _ _ hb) hb') .nil)
 .refine AJ (dc hl hk) ?_;rintro Cb r R BM ⟨_,_,_,_,_,_,_,_,_,_,hd,hdk⟩;refine AJ (AL (R:=λAQ (a A:Nat×List Deferred)=>Cb.le AQ/\a=(r.defers,[])/\A=(R.defers,[])) ⟨Cb.le_refl,rfl,rfl⟩) ?_;rintro Dh a A BR ⟨_,rfl,rfl⟩;exact fin Dh _ _ _ _ (Bc.le_trans BM BR) (BR _ _ hd) hdk .nil
def jL {β:Bc}{r R:Loop}(h:r.state=R.state/\r.pending=R.pending/\(S.fr r.fn/\∀c,r.pending=some c->Ck c)/\r.fn=R.fn/\AU S β r.tmps R.tmps/\r.params=R.params/\r.assign=R.assign/\r.body=R.body/\Ck r.assign/\Ck r.body/\β r.defers R.defers/\S.hid r.defers=false)
  (st:LoopState) (pe:Option Code) (hp:S.fr r.fn/\∀c,pe=some c->Ck c):BS S Ck β (.loop { r with state:=st,pending:=pe }) (.loop { R with state:=st,pending:=pe }):=by
 obtain⟨h1,h2,h3,h4,h5,h6,h7,h8,h9,h10,h11,MZ⟩:=h;rw[<-h4,<-h6,<-h7,<-h8];exact .loop hp h9 h10 h5 h11 MZ
def kO {l L:Nat}(hl:β l L)(hk:S.hid l=false):AX P S Ck G β (Instr.beginRound l) (Instr.beginRound L) (λ_ _ _=>True):=by
 refine AJ (dc hl hk) ?_;intro Cb r R BM h;have hst:=h.1;have hpe:=h.2.1;have ho:=jL h .busy r.pending h.2.2.1;rw[show({ R with state:=LoopState.busy,pending:=r.pending }:Loop)={ R with state:=.busy } from by rw[hpe]] at ho;refine AJ (eW (BM _ _ hl) hk ho rfl) ?_;intro Dh _ _ _ _;rw[hst];cases R.state with
 |ready=>exact AL trivial
 |_=>exact au (.error _) trivial
def mz {l L:Nat}(hl:β l L)(hk:S.hid l=false)(j:Option Code)(hj:∀c,j=some c->Ck c):AX P S Ck G β (Instr.endRound l j) (Instr.endRound L j) (λAQ v V=>AO S AQ v V):=by
 refine AJ (dc hl hk) ?_;intro Cb r R BM h;refine AJ (eW (BM _ _ hl) hk (jL h _ j ⟨h.2.2.1.1,hj⟩) rfl) ?_;intro Dh _ _ _ _;exact AL (.bool _)
def od {l L:Nat}(hl:β l L)(hk:S.hid l=false):AX P S Ck G β (Instr.endLoop l) (Instr.endLoop L) (λ_ a A=>a=A/\∀c,a=some c->Ck c):=by
 refine AJ (dc hl hk) ?_;intro Cb r R BM h;have hst:=h.1;have hpe:=h.2.1;have ho:=jL h .exhausted r.pending h.2.2.1;rw[show({ R with state:=LoopState.exhausted,pending:=r.pending }:Loop)={ R with state:=.exhausted } from by rw[hpe]] at ho
 have main : ∀ Dh, Cb.le Dh -> AX P S Ck G Dh (do
   setObj l (.loop { r with state:=.exhausted })
   pure r.pending:Sem (Option Code)) (do
   setObj L (.loop { R with state:=.exhausted })
   pure R.pending:Sem (Option Code)) (λ_ a A=>a=A/\∀c,a=some c->Ck c):=by
  intro Dh BR;refine AJ (eW (BR _ _ (BM _ _ hl)) hk (ho.mono BR) rfl) ?_;intro I0 _ _ _ _;exact AL ⟨hpe,h.2.2.1.2⟩
 rw[hst];by_cases hb:(R.state==.busy)=true
 .simp only[hb,if_true];exact AJ (R:=λ_ _ _=>False) (au (.error _) trivial) (λ_ _ _ _ h=>h.elim)
 .simp only[hb,if_false,xP];exact main Cb Cb.le_refl
def ja {b B:Nat}(hb:β b B)(hk:S.hid b=false):AX P S Ck G β (Instr.takeDeferred b) (Instr.takeDeferred B) (λAQ l L=>B4 (CM S AQ) l L):=by
 refine AJ (eU hb hk) ?_;intro Dh o O BR ho;cases ho with
 |defs VG =>
  refine AJ (eW (BR _ _ hb) hk .taken rfl) ?_;intro I0 _ _ Fb _;exact AL (VG.mono λ_ _=>CM.mono Fb)
 |_=>exact λ_ _ _ _ _ _ _ _=>trivial
def iz {α γ:Type}{f F:α->Sem γ}{R:Bc->γ->γ->Prop}(hR:∀β AQ,β.le AQ->∀a A,R β a A->R AQ a A):∀(l:List α) (β:Bc),(∀x∈l,∀AQ,β.le AQ->AX P S Ck G AQ (f x) (F x) R) ->
  AX P S Ck G β (l.mapM f) (l.mapM F) (λAQ a A=>B4 (R AQ) a A)
 |[],β,_=>by simp only[List.mapM_nil];exact AL .nil
 |x::l,β,h=>by
  simp only[List.mapM_cons];refine AJ (h x (by simp) β β.le_refl) ?_;intro Cp a A D5 ha;refine AJ (iz hR l Cp λy hy AQ hle=>h y (by simp[hy]) AQ (Bc.le_trans D5 hle)) ?_;intro Cb b B BM hb;exact AL (.cons (hR _ _ BM _ _ ha) hb)
def jb (fn:Func){x X:Array Value}(hx:AU S β x X):AX P S Ck G β (results fn x) (results fn X) (λAQ v V=>AO S AQ v V):=by
 unfold results;rw[zJ,zJ];have hu:∀β,AO S β undef undef:=λβ=>.tuple rfl (by simp)
 have h := iz (P := P) (S := S) (Ck := Ck) (G := G) (f := fun (r : ResultVar) => match r with
   |.tmp t=>pure (x.getD t undef)
   |.cell a t=>do loadVar t (<-asAddr (x.getD a undef))) (F:=λ(r:ResultVar)=>match r with
   |.tmp t=>pure (X.getD t undef)
   |.cell a t=>do loadVar t (<-asAddr (X.getD a undef))) (R:=λAQ v V=>AO S AQ v V) (λ_ _ h _ _ r=>r.mono h) fn.results.toList β (λr _ AQ hle=>by
    cases r with
    |tmp t=>exact AL ((hx.mono hle).getD t (hu _))
    |cell a t =>
     refine AJ (dE ((hx.mono hle).getD a (hu _))) ?_;intro Cb p Q _ hp
     exact i6 t hp)
 refine AJ (R:=λAQ a A=>AU S AQ a A) ?_ ?_
 .refine AJ h ?_;intro Cb l L _ hl;exact AL hl.toArray
 .intro Cb v V _ hv;refine AL ?_;have hs:=hv.size;by_cases h1:v.size=1
  .have h2:V.size=1:=by omega
   rw[dif_pos h1,dif_pos h2];exact hv.at_ 0 _ _ (xD _) (xD _)
  .have h2:¬V.size=1:=by omega
   rw[dif_neg h1,dif_neg h2];exact hv.tuple
end
section
variable {P:Bw} {SB:FuncId->Bool} {H:Hid} {lets:Bool} {BB:FuncId->Bool} {T:List Frame} {β AQ:Bc} {Gn:Nat} {main main2:Bool}
def iA {x X:Array Value}(h:AU (SP SB H) β x X)(ops:Array Oper)(j:Nat):yielded ops x j=yielded ops X j:=by
 unfold yielded;cases((ops[j]?).bind (·.dst)) with
 |none=>rfl
 |some d =>
  simp only[yp];cases hx:x[d]? with
  |none=>rw[h.get_none hx]
  |some v =>
   obtain⟨V,hV,hr⟩:=h.get? hx;rw[hV];cases hr with
   |blank _ hb=>cases V<;>first|rfl|(cases hb;done)
   |_=>rfl
def oe {l L:List PanicEntry}(h:B4 (GQ SB H β) l L):B4 (GQ SB H β) (l.dropWhile (!·.goexit)) (L.dropWhile (!·.goexit)):=by
 induction h with
 |nil=>exact .nil
 |@cons a A l L ha hl ih =>
  cases ha with
  |mk r g hv =>
   cases g with
   |false=>simpa using ih
   |true=>simpa using B4.cons (.mk r true hv) hl
def et {fr FR:Frame}{cs CS:List Frame}(hk:fr.kind=FR.kind)(hl:fr.kind≠.early)(hc:Cl P.a SB H lets T β cs CS)(hne:cs≠[]){v V:Value}(hv:AO (SP SB H) β v V){w W w' W':World}{β0:Bc}{ES:List Event}
  (hf:Fin (SP SB H) (CK P.a SB lets) Gn β0 β w W w' W' ES) (es:Array Event) :
  C5 P SB H lets BB T Gn β0 w W (GStep.after es (doReturn P.a main fr cs none v w')) (GStep.after ES.toArray (doReturn P.b main2 FR CS none V W')):=by
 cases hc with
 |base =>
  unfold doReturn;cases fr.kind<;>exact Or.inl ⟨rfl,Pl⟩
 |@cons c C cs CS h1 h2 =>
  unfold doReturn;rw[<-hk];cases NL:fr.kind with
  |normal=>exact Or.inr ⟨β,_,W',_,rfl,aK (ba h1 hv) h2,by simpa using hf⟩
  |wrapped=>exact Or.inr ⟨β,_,W',_,rfl,aK (ba h1 hv) h2,by simpa using hf⟩
  |early=>exact absurd NL hl
  |_ =>
   refine Or.inr ⟨β,_,W',_,rfl,aK ?_ h2,by simpa using hf⟩;obtain⟨fn,tmps,todo,defers,mode,kind,round⟩:=c;obtain⟨Ew,DT,E3,C6,He,KZ,round'⟩:=C;obtain⟨a1,a2,a3,a4,a5,a6,a7,a8⟩:=h1;dsimp only at *;cases a5 with
   |run=>exact⟨a1,a2,a3,a4,.run,a6,a7,a8⟩
   |returning=>exact⟨a1,a2,a3,a4,.returning,a6,a7,a8⟩
   |panicking hch =>
    cases hch with
    |nil=>exact⟨a1,a2,a3,a4,.panicking .nil,a6,a7,a8⟩
    |@cons p Q l L hp hl =>
     cases hp with
     |mk r g hv' =>
      cases r with
      |false=>exact⟨a1,a2,a3,a4,.panicking (.cons (.mk false g hv') hl),a6,a7,a8⟩
      |true =>
       have:=oe hl;dsimp only;revert this;generalize l.dropWhile (!·.goexit)=d;generalize L.dropWhile (!·.goexit)=D;intro hd;cases hd with
       |nil=>exact⟨a1,a2,a3,a4,.returning,a6,a7,a8⟩
       |cons x y=>exact⟨a1,a2,a3,a4,.panicking (.cons x y),a6,a7,a8⟩
def bT (L:Lib P SB H lets BB Gn){fr FR:Frame}{cs CS:List Frame}(hf:Bf P.a SB H lets β fr FR)(hc:Cl P.a SB H lets T β cs CS){d D:Deferred}(hd:CM (SP SB H) β d D){w W:World}{n:Nat}(hw:BF (SP SB H) (CK P.a SB lets) Gn β w W)(ht:ID n w W)
  (hb:(aJ (callDeferred P.a fr cs none d w)).drawn<=w.drawn+n) :
  C5 P SB H lets BB T Gn β w W (callDeferred P.a fr cs none d w) (callDeferred P.b FR CS none D W):=by
 have hm:=gD L.calls hd;have hE:=hm w W n hw ht #[] #[];have Dw:=hm.NK hw #[];have hsome:=λ(a:Next) (w':World) (es:Array Event) (e:(invoke d.target d.args).runT P.a w #[]=(.ok a w',es))=>hm.some hw e;unfold callDeferred at hb ⊢;cases hd with
 |@fn Sz fn2 ael aem ar1 ar2 a b c =>
  simp only[yN,xP,if_false] at hb ⊢;dsimp only at hE hsome;rcases hr2:(invoke (Target.fn Sz ael) ar1).runT P.a w #[] with⟨r,es⟩
  simp only[hr2] at hb hE Dw ⊢;cases r with
  |ok x w' =>
   obtain⟨_,_,hx⟩:=hsome x w' es hr2;have JU:w'.drawn<=w.drawn+n:=by cases hx<;>exact hb
   obtain⟨AQ,X,W',ES,e1,e2,e3⟩:=hE JU;simp only[e1,ya];have hf':=hf.mono e3.le;have hc':=hc.mono λ_ _ (r:Bf P.a SB H lets β _ _)=>r.mono e3.le;have EC:=e3.seen (P:=P) (SB:=SB) (H:=H) (lets:=lets) FR.fn;cases e2 with
   |value hv=>exact Or.inr ⟨AQ,_,W',_,rfl,aK hf' hc',by simpa using EC⟩
   |skip=>exact Or.inr ⟨AQ,_,W',_,rfl,aK hf' hc',by simpa using EC⟩
   |enter hs ha=>exact Or.inr ⟨AQ,_,W',_,rfl,⟨B5 L hs ha .deferred (by simp),.cons hf' hc',⟨rfl,rfl⟩,⟨rfl,rfl⟩,⟨rfl,rfl⟩⟩,by simpa using EC⟩
   |round hl hh hx h1 h2=>exact Or.inr ⟨AQ,_,W',_,rfl,aK (dF hl hh.1 _ hh.2 (by assumption) h1 h2 .deferred (by simp)) (.cons hf' hc'),by simpa using EC⟩
   |defer hd=>exact Or.inr ⟨AQ,_,W',_,rfl,aK hf' hc',by simpa using EC⟩
  |halt x w' =>
   cases x with
   |panic v =>
    obtain⟨AQ,X,W',ES,e1,e2,e3⟩:=hE hb;simp only[e1,ya];have hf':=hf.mono e3.le;have hc':=hc.mono λ_ _ (r:Bf P.a SB H lets β _ _)=>r.mono e3.le;have EC:=e3.seen (P:=P) (SB:=SB) (H:=H) (lets:=lets) FR.fn;exact Or.inr ⟨AQ,_,W',_,rfl,aK (ck hf' (.cons (.mk _ _ e2) .nil)) hc',by simpa using EC⟩
   |stuck s=>trivial
   |unsupported u=>trivial
   |_=>exact Dw.elim
 |BP a A h1 h2 h3 =>
  subst h2;have hq:=ix L.calls.big a w #[];unfold hd at hq ⊢;simp only[yN,xP,if_false] at hq ⊢;rcases hq with⟨s,w',es',e⟩|⟨u,w',es',e,_⟩
  .simp only[e];trivial
  .simp only[e];trivial
 |@collected r1 r2 a b =>
  simp only[yN,xP,if_false] at hb ⊢;dsimp only at hE hsome;rcases hr2:(invoke (Target.collected r1) #[]).runT P.a w #[] with⟨r,es⟩
  simp only[hr2] at hb hE Dw ⊢;cases r with
  |ok x w' =>
   obtain⟨_,_,hx⟩:=hsome x w' es hr2;have JU:w'.drawn<=w.drawn+n:=by cases hx<;>exact hb
   obtain⟨AQ,X,W',ES,e1,e2,e3⟩:=hE JU;simp only[e1,ya];have hf':=hf.mono e3.le;have hc':=hc.mono λ_ _ (r:Bf P.a SB H lets β _ _)=>r.mono e3.le;have EC:=e3.seen (P:=P) (SB:=SB) (H:=H) (lets:=lets) FR.fn;cases e2 with
   |value hv=>exact Or.inr ⟨AQ,_,W',_,rfl,aK hf' hc',by simpa using EC⟩
   |skip=>exact Or.inr ⟨AQ,_,W',_,rfl,aK hf' hc',by simpa using EC⟩
   |enter hs ha=>exact Or.inr ⟨AQ,_,W',_,rfl,⟨B5 L hs ha .deferred (by simp),.cons hf' hc',⟨rfl,rfl⟩,⟨rfl,rfl⟩,⟨rfl,rfl⟩⟩,by simpa using EC⟩
   |round hl hh hx h1 h2=>exact Or.inr ⟨AQ,_,W',_,rfl,aK (dF hl hh.1 _ hh.2 (by assumption) h1 h2 .deferred (by simp)) (.cons hf' hc'),by simpa using EC⟩
   |defer hd=>exact Or.inr ⟨AQ,_,W',_,rfl,aK hf' hc',by simpa using EC⟩
  |halt x w' =>
   cases x with
   |panic v =>
    obtain⟨AQ,X,W',ES,e1,e2,e3⟩:=hE hb;simp only[e1,ya];have hf':=hf.mono e3.le;have hc':=hc.mono λ_ _ (r:Bf P.a SB H lets β _ _)=>r.mono e3.le;have EC:=e3.seen (P:=P) (SB:=SB) (H:=H) (lets:=lets) FR.fn;exact Or.inr ⟨AQ,_,W',_,rfl,aK (ck hf' (.cons (.mk _ _ e2) .nil)) hc',by simpa using EC⟩
   |stuck s=>trivial
   |unsupported u=>trivial
   |_=>exact Dw.elim
 |@nil ar1 ar2 a =>
  have Bj:=hf.mode;cases hm:fr.mode with
  |panicking l =>
   simp only[Bool.and_self,if_true];trivial
  |run =>
   have hM:FR.mode=.run:=by
    rw[hm] at Bj;generalize FR.mode=q at Bj;cases Bj;rfl
   simp only[hm,hM,yV,xP,if_false] at hb ⊢;dsimp only at hE hsome;rcases hr2:(invoke Target.nil ar1).runT P.a w #[] with⟨r,es⟩
   simp only[hr2] at hb hE Dw ⊢;cases r with
   |ok x w' =>
    obtain⟨_,_,hx⟩:=hsome x w' es hr2;have JU:w'.drawn<=w.drawn+n:=by cases hx<;>exact hb
    obtain⟨AQ,X,W',ES,e1,e2,e3⟩:=hE JU;simp only[e1,ya];have hf':=hf.mono e3.le;have hc':=hc.mono λ_ _ (r:Bf P.a SB H lets β _ _)=>r.mono e3.le;have EC:=e3.seen (P:=P) (SB:=SB) (H:=H) (lets:=lets) FR.fn;cases e2 with
    |value hv=>exact Or.inr ⟨AQ,_,W',_,rfl,aK hf' hc',by simpa using EC⟩
    |skip=>exact Or.inr ⟨AQ,_,W',_,rfl,aK hf' hc',by simpa using EC⟩
    |enter hs ha=>exact Or.inr ⟨AQ,_,W',_,rfl,⟨B5 L hs ha .deferred (by simp),.cons hf' hc',⟨rfl,rfl⟩,⟨rfl,rfl⟩,⟨rfl,rfl⟩⟩,by simpa using EC⟩
    |round hl hh hx h1 h2=>exact Or.inr ⟨AQ,_,W',_,rfl,aK (dF hl hh.1 _ hh.2 (by assumption) h1 h2 .deferred (by simp)) (.cons hf' hc'),by simpa using EC⟩
    |defer hd=>exact Or.inr ⟨AQ,_,W',_,rfl,aK hf' hc',by simpa using EC⟩
   |halt x w' =>
    cases x with
    |panic v =>
     obtain⟨AQ,X,W',ES,e1,e2,e3⟩:=hE hb;simp only[e1,ya];have hf':=hf.mono e3.le;have hc':=hc.mono λ_ _ (r:Bf P.a SB H lets β _ _)=>r.mono e3.le;have EC:=e3.seen (P:=P) (SB:=SB) (H:=H) (lets:=lets) FR.fn;exact Or.inr ⟨AQ,_,W',_,rfl,aK (ck hf' (.cons (.mk _ _ e2) .nil)) hc',by simpa using EC⟩
    |stuck s=>trivial
     |unsupported u=>trivial
    |_=>exact Dw.elim
  |returning =>
   have hM:FR.mode=.returning:=by
    rw[hm] at Bj;generalize FR.mode=q at Bj;cases Bj;rfl
   simp only[hm,hM,yV,xP,if_false] at hb ⊢;dsimp only at hE hsome;rcases hr2:(invoke Target.nil ar1).runT P.a w #[] with⟨r,es⟩
   simp only[hr2] at hb hE Dw ⊢;cases r with
   |ok x w' =>
    obtain⟨_,_,hx⟩:=hsome x w' es hr2;have JU:w'.drawn<=w.drawn+n:=by cases hx<;>exact hb
    obtain⟨AQ,X,W',ES,e1,e2,e3⟩:=hE JU;simp only[e1,ya];have hf':=hf.mono e3.le;have hc':=hc.mono λ_ _ (r:Bf P.a SB H lets β _ _)=>r.mono e3.le;have EC:=e3.seen (P:=P) (SB:=SB) (H:=H) (lets:=lets) FR.fn;cases e2 with
    |value hv=>exact Or.inr ⟨AQ,_,W',_,rfl,aK hf' hc',by simpa using EC⟩
    |skip=>exact Or.inr ⟨AQ,_,W',_,rfl,aK hf' hc',by simpa using EC⟩
    |enter hs ha=>exact Or.inr ⟨AQ,_,W',_,rfl,⟨B5 L hs ha .deferred (by simp),.cons hf' hc',⟨rfl,rfl⟩,⟨rfl,rfl⟩,⟨rfl,rfl⟩⟩,by simpa using EC⟩
    |round hl hh hx h1 h2=>exact Or.inr ⟨AQ,_,W',_,rfl,aK (dF hl hh.1 _ hh.2 (by assumption) h1 h2 .deferred (by simp)) (.cons hf' hc'),by simpa using EC⟩
    |defer hd=>exact Or.inr ⟨AQ,_,W',_,rfl,aK hf' hc',by simpa using EC⟩
   |halt x w' =>
    cases x with
    |panic v =>
     obtain⟨AQ,X,W',ES,e1,e2,e3⟩:=hE hb;simp only[e1,ya];have hf':=hf.mono e3.le;have hc':=hc.mono λ_ _ (r:Bf P.a SB H lets β _ _)=>r.mono e3.le;have EC:=e3.seen (P:=P) (SB:=SB) (H:=H) (lets:=lets) FR.fn;exact Or.inr ⟨AQ,_,W',_,rfl,aK (ck hf' (.cons (.mk _ _ e2) .nil)) hc',by simpa using EC⟩
    |stuck s=>trivial
     |unsupported u=>trivial
    |_=>exact Dw.elim
def jc (L:Lib P SB H lets BB Gn){fr FR:Frame}{cs CS:List Frame}(hf:Bf P.a SB H lets β fr FR)(hc:Cl P.a SB H lets T β cs CS){w W:World}{n:Nat}(hw:BF (SP SB H) (CK P.a SB lets) Gn β w W)(ht:ID n w W)
  (hb:(aJ (unwind P.a main fr cs none w)).drawn<=w.drawn+n) :
  C5 P SB H lets BB T Gn β w W (unwind P.a main fr cs none w) (unwind P.b main2 FR CS none W):=by
 obtain⟨fn,tmps,todo,defers,mode,kind,round⟩:=fr;obtain⟨Ew,DT,E3,C6,He,KZ,round'⟩:=FR;obtain⟨a1,a2,a3,a4,a5,a6,a7,a8⟩:=hf;dsimp only at a1 a2 a3 a4 a5 a6 a7 a8;subst a1 a6;cases a4 with
 |@cons d D ds DS hd VG =>
  have hf':Bf P.a SB H lets β ⟨fn,tmps,todo,ds,mode,kind,round⟩ ⟨fn,DT,E3,DS,He,kind,round'⟩:=⟨rfl,a2,a3,VG,a5,rfl,a7,a8⟩;cases hd with
  |fn x y z=>exact bT L hf' hc (.fn x y z) hw ht hb
  |nil x=>exact bT L hf' hc (.nil x) hw ht hb
  |BP a A h1 h2 h3 =>
   subst h2;rcases h3 with rfl|⟨h3,n,c,x,rfl⟩
   .exact bT L hf' hc (.BP a A h1 rfl (.inl rfl)) hw ht hb
   .exact bT L hf' hc (.BP a A h1 rfl (.inr ⟨h3,n,c,x,rfl⟩)) hw ht hb
  |@collected r1 r2 x y =>
   have hm:=ja (P:=P) (Ck:=CK P.a SB lets) (G:=Gn) (S:=SP SB H) x y;have hE:=hm w W n hw ht #[] #[];have Dw:=hm.NK hw #[];unfold unwind at hb ⊢;dsimp only at hb ⊢;rcases hr:(Instr.takeDeferred r1).runT P.a w #[] with⟨r,es⟩
   rw[hr] at hb hE Dw;cases r with
   |ok l w' =>
    obtain⟨AQ,X,W',ES,e1,e2,e3⟩:=hE hb;simp only[e1,ya];have hf2:=hf'.mono e3.le;have hc':=hc.mono λ_ _ (r:Bf P.a SB H lets β _ _)=>r.mono e3.le;have EC:=e3.seen (P:=P) (SB:=SB) (H:=H) (lets:=lets) fn;exact Or.inr ⟨AQ,_,W',_,rfl,aK ⟨rfl,hf2.tmps,hf2.todo,e2.append hf2.defers,hf2.mode,rfl,a7,hf2.round⟩ hc',by simpa using EC⟩
   |halt x w'=>trivial
 |nil =>
  cases a5 with
  |run=>trivial
  |@panicking ch CH hch =>
   unfold unwind;dsimp only;obtain⟨f,f',g1,g2,_⟩:=L.like fn a7.2;have Gw:P.b.funcs[fn]?=some f':=g2;have q1:Frame.catches P.a ⟨fn,tmps,todo,[],.panicking ch,kind,round⟩=false:=by
    unfold Frame.catches;dsimp only;rw[g1]
   have q2:Frame.catches P.b ⟨fn,DT,E3,[],.panicking CH,kind,round'⟩=false:=by
    unfold Frame.catches;dsimp only;rw[Gw]
   simp only[q1,q2,xP,if_false];cases hc with
   |base=>exact Or.inl ⟨rfl,oa _⟩
   |cons h1 h2=>exact Or.inr ⟨β,_,W,_,rfl,aK (ck h1 hch) h2,by simpa using Fin.refl hw⟩
  |returning =>
   have hne:cs≠[]:=hc.ne;unfold unwind at hb ⊢;dsimp only at hb ⊢;obtain⟨f,f',g1,g2,g3⟩:=L.like fn a7.2;have Gw:P.b.funcs[fn]?=some f':=g2;have g4:results f' DT=results f DT:=by unfold results;rw[g3]
   have hm:=jb (P:=P) (Ck:=CK P.a SB lets) (G:=Gn) (S:=SP SB H) f a2;have hE:=hm w W n hw ht #[] #[];have Dw:=hm.NK hw #[];rw[g1] at hb ⊢;rw[Gw];dsimp only at hb ⊢;rw[g4];rcases hr:(results f tmps).runT P.a w #[] with⟨r,es⟩
   rw[hr] at hb hE Dw;cases r with
   |ok v w' =>
    have JU:w'.drawn<=w.drawn+n:=by
     have:∀cs,(aJ (GStep.after (seen P.a fn es) (doReturn P.a main ⟨fn,tmps,todo,[],.returning,kind,round⟩ cs none v w')))=w'\/cs=[]:=by
      intro cs;cases cs with
      |nil=>exact .inr rfl
      |cons c cs =>
       refine .inl ?_;unfold doReturn;cases kind<;>rfl
     rcases this cs with h|h
     .rw[<-h];exact hb
     .exact absurd h hne
    obtain⟨AQ,X,W',ES,e1,e2,e3⟩:=hE JU;simp only[e1,ya];have hc':=hc.mono λ_ _ (r:Bf P.a SB H lets β _ _)=>r.mono e3.le;have EC:=e3.seen (P:=P) (SB:=SB) (H:=H) (lets:=lets) fn;have:=et (P:=P) (main:=main) (main2:=main2) (BB:=BB) (fr:=⟨fn,tmps,todo,[],.returning,kind,round⟩) (FR:=⟨fn,DT,E3,[],.returning,kind,round'⟩) rfl a7.1 hc' hne e2 EC (seen P.a fn es);simpa using this
   |halt x w'=>cases x<;>trivial
end
section
variable {P:Bw} {SB:FuncId->Bool} {H:Hid} {lets:Bool} {BB:FuncId->Bool} {T:List Frame} {β AQ:Bc} {Gn:Nat} {main main2:Bool}
def bt {ad:Bool}:∀ {c:Code},codeOk P.a SB lets false c=true->codeOk P.a SB lets ad c=true
 |.skip,_|.exit _,_|.label _,_|.goto _,_|.ret,_|.refuse _,_=>rfl
 |.region _ ops _,h=>by
  cases ad with
  |false=>exact h
  |true =>
   simp only[codeOk,xG,xR] at h ⊢;refine⟨?_,h.2⟩;intro o ho;have:=h.1 o ho;unfold bX at this ⊢;simp only[xV,xG] at this ⊢;rcases this with h1|h1
   .exact .inl ⟨h1.1,.inl trivial⟩
   .exact .inr h1
 |.seq a b,h=>by
  simp only[codeOk,xG] at h ⊢;exact⟨bt h.1,bt h.2⟩
 |.cond c a b,h=>by
  simp only[codeOk,xG] at h ⊢;exact⟨⟨h.1.1,bt h.1.2⟩,bt h.2⟩
 |.block _ b,h=>by simp only[codeOk] at h ⊢;exact bt h
 |.loop b,h=>by simp only[codeOk] at h ⊢;exact bt h
 |.scope b,h=>by simp only[codeOk] at h ⊢;exact bt h
 |.rangeFunc f ps xi bo,h=>by simp only[codeOk] at h ⊢;exact h
def M4 (p:Program)(SB:FuncId->Bool)(fr:Frame):Prop:=∀o,fr.oper?=some o->Ja p SB o.op=false
def pN {o O:Option Nat}(h:E2 H β o O):o.isNone=O.isNone:=by cases h<;>rfl
section
variable {fn:FuncId} {tmps DT:Array Value} {todo E3:List Item} {defers C6:List Deferred} {kind:CallKind} {round round':Option Nat} {cs CS:List Frame} {w W:World} {n:Nat}
def bj {mode He:FrameMode}(a2:AU (SP SB H) β tmps DT)(a3:B4 (Du P.a SB H lets round.isNone β) todo E3)(a4:B4 (CM (SP SB H) β) defers C6)(a5:Hd SB H β mode He)(a7:kind≠.early/\SB fn=true)(a8:E2 H β round round')
  (hc:Cl P.a SB H lets T β cs CS) (hw:BF (SP SB H) (CK P.a SB lets) Gn β w W) :
  C5 P SB H lets BB T Gn β w W (.go { frame:=⟨fn,tmps,todo,defers,mode,kind,round⟩,callers:=cs,status:=.running,dying:=none } w #[]) (.go { frame:=⟨fn,DT,E3,C6,He,kind,round'⟩,callers:=CS,status:=.running,dying:=none } W #[]) :=
 Or.inr ⟨β,_,W,_,rfl,aK ⟨rfl,a2,a3,a4,a5,rfl,a7,a8⟩ hc,by simpa using Fin.refl hw⟩
def di (j:Option Code)(hj:∀c,j=some c->codeOk P.a SB lets false c=true)(a7:kind≠.early/\SB fn=true){l L:Nat}(hl:β l L)(hh:H l=false)
  (hc:Cl P.a SB H lets T β cs CS) (hne:cs≠[]) (hw:BF (SP SB H) (CK P.a SB lets) Gn β w W) (ht:ID n w W)
  (hb : (aJ (GStep.after (seen P.a fn ((Instr.endRound l j).runT P.a w #[]).2) (match ((Instr.endRound l j).runT P.a w #[]).1 with
    |.ok v w=>doReturn P.a main ⟨fn,tmps,todo,defers,.run,kind,round⟩ cs none v w
    |.halt _ w=>.ended (.stuck "range over a function: no such loop" (Frame.pos P.a ⟨fn,tmps,todo,defers,.run,kind,round⟩)) w))).drawn<=w.drawn+n) :
  C5 P SB H lets BB T Gn β w W (GStep.after (seen P.a fn ((Instr.endRound l j).runT P.a w #[]).2) (match ((Instr.endRound l j).runT P.a w #[]).1 with
    |.ok v w=>doReturn P.a main ⟨fn,tmps,todo,defers,.run,kind,round⟩ cs none v w
    |.halt _ w=>.ended (.stuck "range over a function: no such loop" (Frame.pos P.a ⟨fn,tmps,todo,defers,.run,kind,round⟩)) w))
   (GStep.after (seen P.b fn ((Instr.endRound L j).runT P.b W #[]).2) (match((Instr.endRound L j).runT P.b W #[]).1 with
    |.ok v w=>doReturn P.b main2 ⟨fn,DT,E3,C6,.run,kind,round'⟩ CS none v w
    |.halt _ w=>.ended (.stuck "range over a function: no such loop" (Frame.pos P.b ⟨fn,DT,E3,C6,.run,kind,round'⟩)) w)):=by
 have hm:=mz (P:=P) (Ck:=CK P.a SB lets) (G:=Gn) (S:=SP SB H) hl hh j hj;have hE:=hm w W n hw ht #[] #[];rcases hr:(Instr.endRound l j).runT P.a w #[] with⟨r,es⟩
 rw[hr] at hb hE;cases r with
 |ok v w' =>
  have JU:w'.drawn<=w.drawn+n:=by
   have:∀cs,(aJ (GStep.after (seen P.a fn es) (doReturn P.a main ⟨fn,tmps,todo,defers,.run,kind,round⟩ cs none v w')))=w'\/cs=[]:=by
    intro cs;cases cs with
    |nil=>exact .inr rfl
    |cons c cs =>
     refine .inl ?_;unfold doReturn;cases kind<;>rfl
   rcases this cs with h|h
   .rw[<-h];exact hb
   .exact absurd h hne
  obtain⟨AQ,X,W',ES,e1,e2,e3⟩:=hE JU;simp only[e1,ya];have hc':=hc.mono λ_ _ (r:Bf P.a SB H lets β _ _)=>r.mono e3.le;have EC:=e3.seen (P:=P) (SB:=SB) (H:=H) (lets:=lets) fn;have:=et (P:=P) (main:=main) (main2:=main2) (BB:=BB) (fr:=⟨fn,tmps,todo,defers,.run,kind,round⟩) (FR:=⟨fn,DT,E3,C6,.run,kind,round'⟩) rfl a7.1 hc' hne e2 EC (seen P.a fn es);simpa using this
 |halt x w'=>trivial
end
def _root_.Go.Bl.AX.Zl {S:CF}{Ck:Code->Prop}{α EJ:Type}{m:Sem α}{M:Sem EJ}{R:Bc->α->EJ->Prop}(h:AX P S Ck Gn β m M R){w W:World}(hw:BF S Ck Gn β w W){Ce es:Array Event}{a:α}{w':World}(hr:m.runT P.a w Ce=(.ok a w',es)):∃AQ A W',R AQ a A/\β.le AQ/\BF S Ck Gn AQ w' W':=by
 have hw':BF S Ck Gn β w { W with tape:=λi q=>w.tape (w.drawn+(i-W.drawn)) q }:=⟨hw.Cn,hw.room,hw.CQ,hw.Db,hw.old,hw.env⟩;have hd:=Cy P.a m w Ce
 have:=h w { W with tape:=λi q=>w.tape (w.drawn+(i-W.drawn)) q } ((world (m.runT P.a w Ce).1).drawn-w.drawn) hw' (λi _ q=>by
  show w.tape (w.drawn+i) q=w.tape (w.drawn+(W.drawn+i-W.drawn)) q
  rw[show W.drawn+i-W.drawn=i from by omega]) Ce #[] (by omega)
 rw[hr] at this;obtain⟨AQ,A,W',_,_,h,hf⟩:=this;exact⟨AQ,A,W',h,hf.le,hf.rel⟩
def mA {fr:Frame}{cs:List Frame}{m M:Sem Next}(hm:AX P (SP SB H) (CK P.a SB lets) Gn β m M (Fe (SP SB H) (CK P.a SB lets))){w W:World}(hw:BF (SP SB H) (CK P.a SB lets) Gn β w W) :
  w.drawn<=(aJ (stepG.apply P.a true fr cs none m w)).drawn:=by
 have h0:=Cy P.a m w #[];have Dw:=hm.NK hw #[];have hsome:=λ(a:Next) (w':World) (es:Array Event) (e:m.runT P.a w #[]=(.ok a w',es))=>hm.some hw e;unfold stepG.apply;simp only[if_true];rcases hr:m.runT P.a w #[] with⟨r,es⟩
 rw[hr] at Dw h0;cases r with
 |ok x w' =>
  obtain⟨_,_,hx⟩:=hsome x w' es hr;cases hx<;>exact h0
 |halt x w' =>
  cases x with
  |panic v=>exact h0
  |stuck s=>exact h0
  |unsupported u =>
   cases u with
   |initOrder g=>exact absurd rfl (Dw g)
   |_=>exact h0
  |_=>exact Dw.elim
def C5.after {w W w' W':World}{ES:List Event}(hf:Fin (SP SB H) (CK P.a SB lets) Gn β AQ w W w' W' ES){s S:GStep}(h:C5 P SB H lets BB T Gn AQ w' W' s S)(es:Array Event):C5 P SB H lets BB T Gn β w W (GStep.after es s) (GStep.after ES.toArray S):=by
 cases s with
 |go g w2 es2 =>
  rcases h with h|⟨Cb,g2,W2,ES2,rfl,h2,h3⟩
  .exact Or.inl h
  refine Or.inr ⟨Cb,g2,W2,_,rfl,h2,?_⟩;have:=hf.trans h3;simpa using this
 |ended o w es=>trivial
 |_=>exact h.elim
def rM (L:Lib P SB H lets BB Gn){fr FR:Frame}{cs CS:List Frame}(hf:Bf P.a SB H lets β fr FR)(hm:fr.mode=.run)(hc:Cl P.a SB H lets T β cs CS)(hgo:M4 P.a SB fr){w W:World}{n:Nat}(hw:BF (SP SB H) (CK P.a SB lets) Gn β w W)(ht:ID n w W)
  (hb:(aJ (stepG.exec P.a main true fr cs none w)).drawn<=w.drawn+n) :
  C5 P SB H lets BB T Gn β w W (stepG.exec P.a main true fr cs none w) (stepG.exec P.b main2 true FR CS none W):=by
 obtain⟨fn,tmps,todo,defers,mode,kind,round⟩:=fr;obtain⟨Ew,DT,E3,C6,He,KZ,round'⟩:=FR;have Gt:=hf;obtain⟨a1,a2,a3,a4,a5,a6,a7,a8⟩:=hf;dsimp only at a1 a2 a3 a4 a5 a6 a7 a8 hm;subst a1 a6 hm;cases a5;cases a3 with
 |nil =>
  cases a8 with
  |none =>
   simp only[stepG.exec] at hb ⊢;exact bj a2 .nil a4 .returning a7 .none hc hw
  |@some l L' hl hh =>
   have hne:cs≠[]:=hc.ne;simp only[stepG.exec] at hb ⊢;exact di none (λc e=>by cases e) a7 hl hh hc hne hw ht hb
 |@cons i I l L' hi hl =>
  cases hi with
  |@code c Ib =>
   have leave : ∀ (j : Option Code), (∀ c, j = some c -> codeOk P.a SB lets false c = true) -> (∀ c, j = some c -> c ≠ .ret -> round ≠ none) ->
     stepG.exec P.a main true ⟨fn,tmps,.code c::l,defers,.run,kind,round⟩ cs none w=stepG.exec P.a main true ⟨fn,tmps,.code c::l,defers,.run,kind,round⟩ cs none w->True:=λ_ _ _ _=>trivial
   clear leave;cases c with
   |skip=>exact bj a2 hl a4 .run a7 a8 hc hw
   |label l0=>exact bj a2 hl a4 .run a7 a8 hc hw
   |refuse s=>trivial
   |ret =>
    cases a8 with
    |none=>exact bj a2 (.cons (.code Ib) hl) a4 .returning a7 .none hc hw
    |@some l0 L0 hl0 hh =>
     have hne:cs≠[]:=hc.ne;exact di (some .ret) (λc e=>by cases e;rfl) a7 hl0 hh hc hne hw ht hb
   |seq a b =>
    simp only[codeOk,xG] at Ib;exact bj a2 (.cons (.code Ib.1) (.cons (.code Ib.2) hl)) a4 .run a7 a8 hc hw
   |cond x a b =>
    simp only[codeOk,xG] at Ib;have hx:=Gt.eval Ib.1.1;simp only[stepG.exec] at hb ⊢;revert hx;generalize Frame.eval ⟨fn,tmps,.code (.cond x a b)::l,defers,.run,kind,round⟩ x=v;generalize Frame.eval ⟨fn,DT,.code (.cond x a b)::L',C6,.run,kind,round'⟩ x=V;intro hx;cases hx with
    |bool t =>
     cases t with
     |true=>exact bj a2 (.cons (.code Ib.1.2) hl) a4 .run a7 a8 hc hw
     |false=>exact bj a2 (.cons (.code Ib.2) hl) a4 .run a7 a8 hc hw
    |_=>trivial
   |block id b=>exact bj a2 (.cons (.code Ib) (.cons (.inBlock id) hl)) a4 .run a7 a8 hc hw
   |loop b=>exact bj a2 (.cons (.code Ib) (.cons (.inLoop Ib) hl)) a4 .run a7 a8 hc hw
   |scope b=>exact bj a2 (.cons (.code Ib) (.cons (.inScope Ib) hl)) a4 .run a7 a8 hc hw
   |exit id =>
    rcases Ms id hl with⟨e1,e2⟩|⟨k,K,e1,e2,hk⟩
    .cases a8 with
     |none=>simp only[stepG.exec,e1,Option.elim_none];trivial
     |@some l0 L0 hl0 hh =>
      have hne:cs≠[]:=hc.ne;simp only[stepG.exec,e1,e2,Option.elim_none] at hb ⊢;exact di (some (.exit id)) (λc e=>by cases e;rfl) a7 hl0 hh hc hne hw ht hb
    .simp only[stepG.exec,e1,e2,Option.elim_some];exact bj a2 hk a4 .run a7 a8 hc hw
   |goto l1 =>
    rcases Mt l1 hl with⟨e1,e2⟩|⟨k,K,e1,e2,hk⟩
    .cases a8 with
     |none=>simp only[stepG.exec,e1,Option.elim_none];trivial
     |@some l0 L0 hl0 hh =>
      have hne:cs≠[]:=hc.ne;simp only[stepG.exec,e1,e2,Option.elim_none] at hb ⊢;exact di (some (.goto l1)) (λc e=>by cases e;rfl) a7 hl0 hh hc hne hw ht hb
    .simp only[stepG.exec,e1,e2,Option.elim_some];exact bj a2 hk a4 .run a7 a8 hc hw
   |rangeFunc f ps xi bo =>
    simp only[codeOk,xG] at Ib;have ho:(round=none/\round'=none)\/∃l L,round=some l/\round'=some L/\β l L/\(SP SB H).hid l=false:=by
     cases a8 with
     |none=>exact .inl ⟨rfl,rfl⟩
     |some x y=>exact .inr ⟨_,_,rfl,rfl,x,y⟩
    have hm:=ll (P:=P) (Ck:=CK P.a SB lets) (G:=Gn) (S:=SP SB H) fn a7.2 a2 ps Ib.1.2 Ib.2 ho;have hE:=hm w W n hw ht #[] #[];simp only[stepG.exec] at hb ⊢;rcases hr:(Instr.enterLoop fn tmps ps xi bo round).runT P.a w #[] with⟨r,es⟩
    rw[hr] at hb hE;cases r with
    |ok x w' =>
     obtain⟨l0,mark⟩:=x;have next : ∀ (AQ : Bc) (l0 L0 : Nat), β.le AQ -> AQ l0 L0 -> H l0 = false -> ∀ (m M : List Deferred),
       AX P (SP SB H) (CK P.a SB lets) Gn AQ (do
        let d<-resolve (Frame.eval ⟨fn,tmps,.inRangeFunc l0::l,m++defers,.run,kind,round⟩) { callee:=.value f,args:=#[.const (.func (.yield l0) #[] #[])],argTypes:=#[] } 0
        invoke d.target d.args) (do
        let d<-resolve (Frame.eval ⟨fn,DT,.inRangeFunc L0::L',M++C6,.run,kind,round'⟩) { callee:=.value f,args:=#[.const (.func (.yield L0) #[] #[])],argTypes:=#[] } 0
        invoke d.target d.args) (Fe (SP SB H) (CK P.a SB lets)):=by
      intro AQ l0 L0 hle hl0 Zm m M;unfold resolve;dsimp only;have hx:AO (SP SB H) AQ (Frame.eval ⟨fn,tmps,.inRangeFunc l0::l,m++defers,.run,kind,round⟩ f) (Frame.eval ⟨fn,DT,.inRangeFunc L0::L',M++C6,.run,kind,round'⟩ f):=by
       have:=(Gt.eval Ib.1.1).mono hle;cases f with
       |tmp t=>exact this
       |const v=>exact this
       |global g=>exact this
       |func g=>exact this
      refine AJ (fI hx ?_) ?_
      .simp only[zr,yE,yH,Frame.eval];exact AU.one (.func (.yield hl0 Zm) rfl (by simp) rfl (by simp))
      .intro Cb d D _ hd;exact gD L.calls hd
     obtain⟨Cp,⟨L1,M1⟩,W1,hx1,OL,EH⟩:=hm.Zl hw hr;have hd:=mA (fr:=⟨fn,tmps,.inRangeFunc l0::l,mark++defers,.run,kind,round⟩) (cs:=cs) (next Cp l0 L1 OL hx1.1 hx1.2.1 mark M1) EH;have JU:w'.drawn<=w.drawn+n:=by
      have e:∀s,aJ (GStep.after (seen P.a fn es) s)=aJ s:=λs=>by cases s<;>rfl
      rw[e] at hb;exact xI hd hb
     obtain⟨AQ,⟨L0,M0⟩,W',ES,e1,⟨e2,e2',aen⟩,e3⟩:=hE JU;simp only[e1,ya];have hc':=hc.mono λ_ _ (r:Bf P.a SB H lets β _ _)=>r.mono e3.le;have IH:Bf P.a SB H lets AQ ⟨fn,tmps,.inRangeFunc l0::l,mark++defers,.run,kind,round⟩ ⟨fn,DT,.inRangeFunc L0::L',M0++C6,.run,kind,round'⟩ :=
      ⟨rfl,a2.mono e3.le,.cons (.inRangeFunc e2 e2') (hl.mono λ_ _=>Du.mono e3.le),aen.append (a4.mono λ_ _=>CM.mono e3.le),.run,rfl,a7,a8.mono e3.le⟩
     have h3:=e3.drawn
     have:=gF (BB:=BB) L IH hc' (next AQ l0 L0 e3.le e2 e2' mark M0) e3.rel (ht.rest e3) (by
      have e:∀s,aJ (GStep.after (seen P.a fn es) s)=aJ s:=λs=>by cases s<;>rfl
      rw[e] at hb;refine xI hb ?_
      omega)
     have:=C5.after (e3.seen (P:=P) (SB:=SB) (H:=H) (lets:=lets) fn) this (seen P.a fn es);simpa using this
    |halt x w'=>trivial
   |region id ops draw =>
    have Zn:ops.all (bX P.a SB lets round.isNone)=true:=by have h0:=Ib;simp only[codeOk,xG] at h0;exact h0.1
    cases draw with
    |false=>exact bj a2 (.cons (.inRegion Zn) hl) a4 .run a7 a8 hc hw
    |true =>
     have hm:=eR (P:=P) (Ck:=CK P.a SB lets) (G:=Gn) (S:=SP SB H) (β:=β) (.order fn id);have hE:=hm w W n hw ht #[] #[];simp only[stepG.exec,Bool.not_true,xP,if_false] at hb ⊢;rw[<-Sem.runT_fst P.a (choose (.order fn id)) w #[]] at hb ⊢;rw[<-Sem.runT_fst P.b (choose (.order fn id)) W #[]];rcases hr:(choose (.order fn id)).runT P.a w #[] with⟨r,es⟩
     rw[hr] at hb hE;cases r with
     |ok t w' =>
      obtain⟨AQ,X,W',ES,e1,e2,e3⟩:=hE hb;simp only[e1];subst e2;have hc':=hc.mono λ_ _ (r:Bf P.a SB H lets β _ _)=>r.mono e3.le;exact Or.inr ⟨AQ,_,W',_,rfl,aK ⟨rfl,a2.mono e3.le,.cons (.inRegion Zn) (hl.mono λ_ _=>Du.mono e3.le),a4.mono λ_ _=>CM.mono e3.le,.run,rfl,a7,a8.mono e3.le⟩ hc',{ e3 with evs:=by simp }⟩
     |halt x w'=>trivial
  |inBlock id=>exact bj a2 hl a4 .run a7 a8 hc hw
  |@inLoop c Ib=>exact bj a2 (.cons (.code Ib) (.cons (.inLoop Ib) hl)) a4 .run a7 a8 hc hw
  |@inScope c Ib=>exact bj a2 hl a4 .run a7 a8 hc hw
  |@inRegion ops todo ho =>
   cases todo with
   |nil=>exact bj a2 hl a4 .run a7 a8 hc hw
   |cons i rest =>
    have hy:yielded ops DT=yielded ops tmps:=(funext λj=>iA a2 ops j).symm;simp only[stepG.exec,hy] at hb ⊢;by_cases VH:(Option.map (λx=>Region.wanted x (yielded ops tmps)) ops[i]?).getD false=true
    .simp only[if_pos VH] at hb ⊢;cases hoi:ops[i]? with
     |none=>rw[hoi] at VH;cases VH
     |some o =>
      have aeo:=hgo o (by unfold Frame.oper?;exact hoi);have Ma:bX P.a SB lets round.isNone o=true:=by
       simp only[xR] at ho;exact ho o (xY hoi)
      unfold bX at Ma;rw[aeo] at Ma;simp only[yV,zF,xG,xV,yG] at Ma;have key:∀(p:Program) (t:Array Value) (k:List Item) (ds:List Deferred) (r:Option Nat),r.isNone=round.isNone->∀cs w,stepG.oper p true ⟨fn,t,.inRegion ops (i::rest)::k,ds,.run,kind,r⟩ cs none w=stepG.apply p true ⟨fn,t,.inRegion ops (i::rest)::k,ds,.run,kind,r⟩ cs none (execOp (Frame.eval ⟨fn,t,.inRegion ops (i::rest)::k,ds,.run,kind,r⟩) o) w:=by
       intro p t k ds r hr cs w;unfold stepG.oper Frame.oper?;simp only[hoi];cases r with
       |none=>rfl
       |some l0 =>
        rw[<-hr] at Ma;cases hop:o.op with
        |defer c=>rw[hop] at Ma;simp[m7] at Ma
        |_=>rfl
      rw[key _ _ _ _ _ rfl] at hb ⊢;rw[key _ _ _ _ _ (pN a8).symm];exact gF L Gt hc (pM L.aei L.calls (λx hx=>Gt.eval hx) Ma.1) hw ht hb
    .simp only[if_neg VH] at hb ⊢;exact Or.inr ⟨β,_,W,_,rfl,aK (ba Gt (.tuple rfl (by simp))) hc,by simpa using Fin.refl hw⟩
  |inRangeFunc x y=>trivial
  |@endRangeFunc l0 L0 x y =>
   have hm:=od (P:=P) (Ck:=CK P.a SB lets) (G:=Gn) (S:=SP SB H) x y;have hE:=hm w W n hw ht #[] #[];have Dw:=hm.NK hw #[];simp only[stepG.exec] at hb ⊢;rcases hr:(Instr.endLoop l0).runT P.a w #[] with⟨r,es⟩
   rw[hr] at hb hE Dw;cases r with
   |ok j w' =>
    obtain⟨AQ,X,W',ES,e1,⟨e2,e2'⟩,e3⟩:=hE hb;subst e2;simp only[e1,ya];have hc':=hc.mono λ_ _ (r:Bf P.a SB H lets β _ _)=>r.mono e3.le;have EC:=e3.seen (P:=P) (SB:=SB) (H:=H) (lets:=lets) fn;have hl':=hl.mono λ_ _ (r:Du P.a SB H lets round.isNone β _ _)=>r.mono e3.le;refine Or.inr ⟨AQ,_,W',_,rfl,aK ⟨rfl,a2.mono e3.le,?_,a4.mono λ_ _=>CM.mono e3.le,.run,rfl,a7,a8.mono e3.le⟩ hc',by simpa using EC⟩
    cases j with
    |none=>exact hl'
    |some c=>exact .cons (.code (bt (e2' c rfl))) hl'
   |halt x w' =>
    cases x with
    |panic v =>
     obtain⟨AQ,X,W',ES,e1,e2,e3⟩:=hE hb;simp only[e1,ya];have hc':=hc.mono λ_ _ (r:Bf P.a SB H lets β _ _)=>r.mono e3.le;have EC:=e3.seen (P:=P) (SB:=SB) (H:=H) (lets:=lets) fn;exact Or.inr ⟨AQ,_,W',_,rfl,aK (ck (Gt.mono e3.le) (.cons (.mk _ _ e2) .nil)) hc',by simpa using EC⟩
    |_=>trivial
  |beginRound =>
   have hm:AX P (SP SB H) (CK P.a SB lets) Gn β (do round.elim (stuck "beginRound: no round") Instr.beginRound;pure .skip:Sem Next) (do round'.elim (stuck "beginRound: no round") Instr.beginRound;pure .skip) (Fe (SP SB H) (CK P.a SB lets)):=by
    cases a8 with
    |none=>exact AJ (R:=λ_ _ _=>False) AR (λ_ _ _ _ h=>h.elim)
    |some x y =>
     refine AJ (kO x y) ?_;intro Cb _ _ _ _;exact AL .skip
   simp only[stepG.exec] at hb ⊢;exact gF L Gt hc hm hw ht hb
def Ready (p:Program)(SB:FuncId->Bool)(g:Goroutine):Prop:=g.frame.mode=.run->M4 p SB g.frame
def dt (L:Lib P SB H lets BB Gn){g g2:Goroutine}(hg:Dc P SB H lets BB T β g g2)(ED:Bf P.a SB H lets β g.frame g2.frame)(hr:Ready P.a SB g){w W:World}{n:Nat}(hw:BF (SP SB H) (CK P.a SB lets) Gn β w W)(ht:ID n w W)
  (hb:(aJ (stepG P.a main g w)).drawn<=w.drawn+n) :
  C5 P SB H lets BB T Gn β w W (stepG P.a main g w) (stepG P.b main2 g2 W):=by
 obtain⟨fr,cs,st,dy,off⟩:=g;obtain⟨FR,CS,GK,dy',VI⟩:=g2;obtain⟨h1,h2,⟨h3,OJ⟩,⟨h4,h4'⟩,⟨h5,h5'⟩⟩:=hg;dsimp only at *;subst h4 h4';have hm:=ED.mode;cases Up:fr.mode with
 |run =>
  rw[Up] at hm;have e1:stepG P.a main ⟨fr,cs,st,none,off⟩ w=stepG.exec P.a main true fr cs none w:=by unfold stepG;simp only[Up]
  have e2:stepG P.b main2 ⟨FR,CS,GK,none,VI⟩ W=stepG.exec P.b main2 true FR CS none W:=by
   have:FR.mode=.run:=by generalize FR.mode=q at hm;cases hm;rfl
   unfold stepG;simp only[this]
  rw[e1] at hb ⊢;rw[e2];exact rM L ED Up h2 (hr Up) hw ht hb
 |returning =>
  rw[Up] at hm;have e1:stepG P.a main ⟨fr,cs,st,none,off⟩ w=unwind P.a main fr cs none w:=by unfold stepG;simp only[Up]
  have e2:stepG P.b main2 ⟨FR,CS,GK,none,VI⟩ W=unwind P.b main2 FR CS none W:=by
   have:FR.mode=.returning:=by generalize FR.mode=q at hm;cases hm;rfl
   unfold stepG;simp only[this]
  rw[e1] at hb ⊢;rw[e2];exact jc L ED h2 hw ht hb
 |panicking l =>
  rw[Up] at hm;have e1:stepG P.a main ⟨fr,cs,st,none,off⟩ w=unwind P.a main fr cs none w:=by unfold stepG;simp only[Up]
  have e2:stepG P.b main2 ⟨FR,CS,GK,none,VI⟩ W=unwind P.b main2 FR CS none W:=by
   have:∃l,FR.mode=.panicking l:=by generalize FR.mode=q at hm;cases hm;exact⟨_,rfl⟩
   obtain⟨l,this⟩:=this;unfold stepG;simp only[this]
  rw[e1] at hb ⊢;rw[e2];exact jc L ED h2 hw ht hb
end
end Go.Bl
