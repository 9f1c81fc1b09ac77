/- Parts of the proof. -/
import Derived.Test.YtoeoefobdjociaaGreatP04
import Derived.Conc.CrowdTrace
set_option linter.all false
open Go.Extern.Atomic renaming touchesFrozen->Y,read->I,casT->bs,update->b6,loadT->b7
open Bool renaming false->J,true->U
open Option renaming some->D,none->bW
open Go renaming Goroutine->ak,World->bc,FuncId->bh,Value->bq,unsupported->br,Frame->bw,Program->bA,IntKind->ck,callFunc->cF,execOp->cK,frozen->cU,stepG->c0,Code->dr,Addr->dy,doReturn->ed
open Go.Value renaming pointer->bb,bool->cf
open Go.Result renaming andThen->bk,ok->eC
open Go.Frame renaming enter->bn,todo->ek,mode->er
open Classical renaming choose_spec->bo,choose->b9
open Go.Conc renaming getElem?_append_cases->bD,noRace_append->cu,stepG_region_end->cL,stepG_value->df
open Go.Sem renaming run->b5,runT_fst->dS
open Option.some renaming injEq->b8,inj->eG
open Go.Mode renaming atomic->cq
open Array renaming sizeOf_getElem->cr,getD->cE,replicate->dn,ofFn->ez
open SizeOf renaming sizeOf->cw
namespace Go.Eu
open Go.Conc
def Fatal:Halt->Prop
 |.stuck _=>True
 |.unsupported u=>∀g,u≠.initOrder g
 |_=>False
def GN {α:Type}:Result α->Prop
 |.halt h _=>Fatal h
 |_=>False
section
variable {p:bA}
def OZ {c:bh} {fc:Func} (hf:p.funcs[c]?=D fc) (hname:(fc.name == "runtime.NumGoroutine")=J) (hb:fc.body.isNone=U) (hn:Extern.findNext fc=bW) (he:Extern.find fc=D (bs (.int .i32)))
  {a:dy} {w:bc} {x y:Int} (h1:∃s,w.farLoad p a U=.error (.stuck s)) (h2:∀t u,w.heap[a.block]?≠D (.view t u)) :
  (∃z,w.cell? a=D (.int .i32 z)/\w.frozen? a=J)\/GN ((cF c #[.pointer (D a),.int .i32 x,.int .i32 y]).run p w):=by
 obtain⟨s,h1⟩:=h1;rw[run_callFunc_extern hf hname hb hn he]
 have e0:(bs (.int .i32) #[.pointer (D a),.int .i32 x,.int .i32 y])=(do
  let a'<-asAddr (.pointer (D a))
  if<-Y a' then br (.unsafePointer "a write to bytes that a string shares")
  let eq<-match Extern.Atomic.T.int .i32,<-I (.int .i32) a',Value.int .i32 x with
   |_,.int _ x,.int _ y=>pure (x==y)
   |.ptr,.pointer x,.pointer y=>samePointer x y
   |.int _,.pointer (D _),.int _ 0|.int _,.int _ 0,.pointer (D _)=>pure J
   |.int _,.pointer (D _),_|.int _,_,.pointer (D _)=>br .addressObserved
   |_,_,_=>stuck "atomic.CompareAndSwap: old is no T"
  if eq then store a' (.int .i32 y) .atomic
  pure (cf eq)):=rfl
 rw[e0];by_cases hv:∃o,w.shape? a.block=bW/\w.heap[a.block]?=o/\(o=bW\/∃c t f,o=D (.cells c t f))
 .obtain⟨o,q1,q2,q3⟩:=hv;refine .inr ?_;obtain rfl|⟨c,t,f,rfl⟩:=q3
  .simp[Y,asAddr,viewAt,shape,getObj,b5,q1,q2,bk,GN,Fatal,stuck,br]
  .simp[Y,asAddr,viewAt,shape,getObj,b5,q1,q2,bk,GN,Fatal,stuck,br]
 have a6:(viewAt a.block).run p w=.ok bW w:=by
  cases hs:w.shape? a.block with
  |some z=>simp[viewAt,shape,b5,hs,bk]
  |none =>
   cases ho:w.heap[a.block]? with
   |none=>exact AI ⟨_,hs,ho,.inl rfl⟩ hv
   |some o =>
    cases o with
    |cells c t f=>exact AI ⟨_,hs,ho,.inr ⟨_,_,_,rfl⟩⟩ hv
    |view t u=>exact AI ho (h2 t u)
    |_=>simp[viewAt,shape,getObj,b5,hs,ho,bk]
 cases hz:w.frozen? a with
 |true=>exact .inr (by simp[Y,asAddr,a6,hz,frozen,b5,bk,GN,Fatal,stuck,br])
 |false =>
  cases hc:w.cell? a with
  |none =>
   have hl:(load a .atomic).run p w=.halt (.stuck s) w:=by
    have:(cq==cq)=true:=rfl;simp[load,b5,hc,this,h1]
   exact .inr (by simp[Y,I,asAddr,a6,hz,frozen,b5,hl,bk,GN,Fatal,stuck,br])
  |some v =>
   have hl:(load a .atomic).run p w=.ok v w:=by simp[load,b5,hc]
   cases v with
   |int k z =>
    by_cases hk:k=.i32
    .subst hk;exact .inl ⟨z,rfl,rfl⟩
    .have a7:¬IntKind.i32=k:=λe=>hk e.symm;exact .inr (by simp[Y,I,asAddr,a6,hz,frozen,b5,hl,a7,bk,GN,Fatal,stuck,br])
   |pointer q=>cases q<;>exact .inr (by simp[Y,I,asAddr,a6,hz,frozen,b5,hl,bk,GN,Fatal,stuck,br])
   |_=>exact .inr (by simp[Y,I,asAddr,a6,hz,frozen,b5,hl,bk,GN,Fatal,stuck,br])
def jM {main:Bool}{b:bw}{a:Act}{ops:Array Oper}{i:Nat}{rest:List Nat}{k:List Item}{cs:List bw}{w:bc}{o:Oper}(ho:ops[i]?=D o)(hw:Region.wanted o (yielded ops a.tmps)=U)(hk:b.kind≠.early)
  (h:GN ((cK a.eval o).run p w)) {g':ak} {w':bc} {es:Array Event}:c0 p main (EX (b.at a (.inRegion ops (i::rest)::k)) cs) w≠.go g' w' es:=by
 intro e;have e':=(stepG_oper (P:=p) (main:=main) (b:=b) (a:=a) (k:=k) (cs:=cs) (w:=w) ho hw).symm.trans e;have a6:(b.kind==CallKind.early)=false:=by simpa using hk
 unfold stepG.apply at e';rw[<-dS p _ w #[]] at h;simp only[if_true,Frame.at,a6,AZ,if_false] at e';revert e' h;obtain⟨r,es⟩:=(cK a.eval o).runT p w #[];intro h e';cases r with
 |ok v w'=>exact h.elim
 |halt x w' =>
  cases x with
  |stuck s=>cases e'
  |unsupported u =>
   cases u with
   |initOrder g=>exact AI rfl (h g)
   |_=>cases e'
  |_=>exact h.elim
structure Ls (p:bA)(f:bh)(x y:Int)(fn:Func)(r:Nat)(o1 o2:Oper)(s:String):Prop where
 func:p.funcs[f]?=D fn
 text:fn.body=D (.seq (.region r #[o1,o2] J) (.cond (.tmp 1) .ret (.refuse s)))
 room:3<=fn.ntmps
 res:fn.results=#[]
 free:o1.guard=bW/\o1.dst=D 2/\o2.guard=bW/\o2.dst=D 1
 one:∀(a:Act) w,(∃q,a.eval (.tmp 0)=.pointer (D q)/\(cK a.eval o1).run p w=.ok (.value (.pointer (D q))) w)\/GN ((cK a.eval o1).run p w)
 two:∀(a:Act) q w,a.eval (.tmp 2)=.pointer (D q)->(∃s,w.farLoad p q U=.error (.stuck s))->(∀t u,w.heap[q.block]?≠D (.view t u)) ->
  (∃z,w.cell? q=D (.int .i32 z)/\w.frozen? q=J/\(z=x->(cK a.eval o2).run p w=.ok (.value (.bool U)) (w.setCell q (.int .i32 y)))/\(z≠x->(cK a.eval o2).run p w=.ok (.value (.bool J)) w))\/GN ((cK a.eval o2).run p w)
variable {f:bh} {x y:Int} {fn:Func} {r:Nat} {o1 o2:Oper} {s:String} {args:Array bq} {k:CallKind} {cs:List bw} {w:bc}
def nK (h:Ls p f x y fn r o1 o2 s):bn p f args k={ base f with kind:=k }.at { tmps:=args++dn (fn.ntmps-args.size) undef,defers:=[] } [.code (.seq (.region r #[o1,o2] J) (.cond (.tmp 1) .ret (.refuse s)))]:=by
 simp[bn,Frame.at,h.func,h.text,base]
def bt {o:Oper}{ops:Array Oper}{t:Array bq}(h:o.guard=bW):Region.wanted o (yielded ops t)=true:=by unfold Region.wanted;rw[h]
def Kk (h:Ls p f x y fn r o1 o2 s)(hk:k≠.early){Ev Qa:ak->bc->Prop}(hE:∀g w W,Et w W->Ev g w->Ev g W)(hQ:∀g w W,Et w W->Qa g w->Qa g W)(hC:∀g w,g.frame.fn=f->¬Qa g w)
  (aA:∀q,args[0]?=D (.pointer (D q))->(∃s,w.farLoad p q U=.error (.stuck s))/\∀t u,w.heap[q.block]?≠D (.view t u))
  (hr:Ee p Ev Qa (EX (bn p f args k) cs) w) :
  ∃q fr,args[0]?=D (.pointer (D q))/\w.cell? q=D (.int .i32 x)/\w.frozen? q=J/\fr.fn=f/\fr.kind=k/\fr.mode=.returning/\fr.defers=[] /\
   Walk p (λg=>∀w,¬Qa g w) (EX (bn p f args k) cs) w (EX fr cs) (w.setCell q (.int .i32 y)):=by
 rw[nK h] at hr ⊢;generalize hT:args++dn (fn.ntmps-args.size) undef=T at hr ⊢;have hTs:3<=T.size:=by rw[<-hT];simp;have:=h.room;omega
 generalize hb:({ base f with kind:=k }:bw)=b at hr ⊢;have a6:b.kind≠.early:=by rw[<-hb];exact hk
 have hbf:b.fn=f:=by rw[<-hb];rfl
 obtain⟨f1,f2,f3,f4⟩:=h.free;have C:∀(a:Act) t,∀w,¬Qa (EX (b.at a t) cs) w:=λa t w=>hC _ _ hbf;have w2 : ∀ {w2 : bc} {g2 : ak}, Walk p (fun g => ∀ w, ¬ Qa g w) (EX (b.at ⟨T, []⟩ [.inRegion #[o1, o2] [0, 1], .code (.cond (.tmp 1) .ret (.refuse s))]) cs) w g2 w2 ->
   Walk p (λg=>∀w,¬Qa g w) (EX (b.at ⟨T,[]⟩ [.code (.seq (.region r #[o1,o2] J) (.cond (.tmp 1) .ret (.refuse s)))]) cs) w g2 w2:=λz =>
  .step (C _ _) stepG_seq (.step (C _ _) stepG_region z)
 have zz:=hr.descend hE hQ (λg w c=>c w) ⟨rfl,rfl,rfl⟩ (w2 .refl);obtain⟨q,q1,q2⟩|a7:=h.one ⟨T,[]⟩ w
 rotate_left
 .exfalso;cases zz with
  |fin h=>exact C _ _ _ h
  |next ng nw _ h2 _ =>
   obtain⟨⟨es,e⟩,_⟩:=h2 w.tape w.drawn;exact jM (o:=o1) rfl (bt f1) a6 a7 e
 have hq:args[0]?=D (.pointer (D q)):=by
  have e0:T.getD 0 undef=.pointer (D q):=q1;rw[<-hT] at e0;by_cases hz:0<args.size
  .have h9:0<args.size+(fn.ntmps-args.size):=by omega
   simpa [cE,Array.getElem_append,hz,h9] using e0
  .exfalso;have:args=#[]:=Array.eq_empty_of_size_eq_zero (by omega);subst this;simp[cE] at e0;simp[undef] at e0
 obtain⟨n1,n2⟩:=aA q hq;have e2:c0 p U (EX (b.at ⟨T,[]⟩ [.inRegion #[o1,o2] [0,1],.code (.cond (.tmp 1) .ret (.refuse s))]) cs) w=.go (EX (b.at ((Act.mk T []).put o1.dst (.pointer (D q))) [.inRegion #[o1,o2] [1],.code (.cond (.tmp 1) .ret (.refuse s))]) cs) w (listed p b.fn ⟨T,[]⟩ o1 w) :=
  df (o:=o1) rfl (bt f1) a6 q2
 rw[f2] at e2;generalize hA:(Act.mk T []).put (D 2) (.pointer (D q))=A at e2;have zk:A.eval (.tmp 2)=.pointer (D q):=by
  rw[<-hA];show(T.setIfInBounds 2 _).getD 2 undef=_;have:2<T.size:=hTs;simp[cE,this]
 have hAd:A.defers=[]:=by rw[<-hA];rfl
 have aB:A.tmps.size=T.size:=by rw[<-hA];exact Array.size_setIfInBounds
 have hr3:=zz.descend (C:=λg=>∀w,¬Qa g w) hE hQ (λg w c=>c w) ⟨rfl,rfl,rfl⟩ (.step (C _ _) e2 .refl);obtain⟨z,z1,z2,z3,z4⟩|a7:=h.two A q w zk n1 n2
 rotate_left
 .exfalso;cases hr3 with
  |fin h=>exact C _ _ _ h
  |next ng nw _ h2 _ =>
   obtain⟨⟨es,e⟩,_⟩:=h2 w.tape w.drawn;exact jM (o:=o2) rfl (bt f3) a6 a7 e
 have hT1:∀v,(A.put (D 1) v).eval (.tmp 1)=v:=λv=>by
  show(A.tmps.setIfInBounds 1 v).getD 1 undef=v;have:1<A.tmps.size:=by rw[aB];omega
  simp[cE,this]
 by_cases a8:z=x
 .have e3 : c0 p U (EX (b.at A [.inRegion #[o1, o2] [1], .code (.cond (.tmp 1) .ret (.refuse s))]) cs) w = .go (EX (b.at (A.put o2.dst (.bool U)) [.inRegion #[o1, o2] [], .code (.cond (.tmp 1) .ret (.refuse s))]) cs) (w.setCell q (.int .i32 y)) (listed p b.fn A o2 w) :=
   df (o:=o2) rfl (bt f3) a6 (z3 a8)
  rw[f4] at e3;subst a8;refine⟨q,_,hq,z1,z2,?_,?_,?_,?_,w2 (.step (C _ _) e2 (.step (C _ _) e3 (.step (C _ _) cL (.step (C _ _) (stepG_cond (t:=U) (hT1 _)) (.step (C _ _) stepG_ret' .refl)))))⟩
  .exact hbf
  .show b.kind=k;rw[<-hb]
  .rfl
  .exact hAd
 .exfalso;have e3:c0 p U (EX (b.at A [.inRegion #[o1,o2] [1],.code (.cond (.tmp 1) .ret (.refuse s))]) cs) w=.go (EX (b.at (A.put o2.dst (.bool J)) [.inRegion #[o1,o2] [],.code (.cond (.tmp 1) .ret (.refuse s))]) cs) w (listed p b.fn A o2 w) :=
   df (o:=o2) rfl (bt f3) a6 (z4 a8)
  rw[f4] at e3;have hr4:=hr3.descend (C:=λg=>∀w,¬Qa g w) hE hQ (λg w c=>c w) ⟨rfl,rfl,rfl⟩ (.step (C _ _) e3 (.step (C _ _) cL (.step (C _ _) (stepG_cond (t:=J) (hT1 _)) .refl)));cases hr4 with
  |fin h=>exact C _ _ _ h
  |next ng nw _ h2 _ =>
   obtain⟨⟨es,e⟩,_⟩:=h2 w.tape w.drawn;simp[c0,Go.Conc.G,Frame.at,stepG.exec] at e
end
def mi {p:bA}{main:Bool}{fr:bw}{cs:List bw}{w:bc}{fn:Func}(hm:fr.mode=.returning)(hd:fr.defers=[])(hf:p.funcs[fr.fn]?=D fn)(hr:fn.results=#[]) :
  c0 p main (EX fr cs) w=GStep.after #[] (ed p main fr cs bW (.tuple #[]) w):=by
 obtain⟨f1,tmps,todo,defers,mode,kind,round⟩:=fr;dsimp only at hm hd hf;subst hm hd;unfold c0 EX;dsimp only;unfold unwind;dsimp only;rw[hf];dsimp only;have e:(results fn tmps).runT p w #[]=(.ok (.tuple #[]) w,#[]):=Prod.ext ((dS ..).trans (results_none hr _ _ _)) (events_results_none hr _ _);rw[e];simp only[seen_none]
section
variable {S:Fy} {Ck:dr->Prop} {G:Nat} {β:Em}
def tQ {w:bc}(hw:EI S Ck G β w w)(hi:β.NS){q:dy}{u:bq}(hc:w.cell? q=D u){v:bq}(hv:DZ S β v v):EI S Ck G β (w.setCell q v) (w.setCell q v):=by
 have a6:∀b,b=q.block->w.heap[b]?≠D (.coro bW):=by
  intro b e h;subst e;unfold World.cell? at hc;rw[h] at hc;cases hc
 refine⟨hw.Fv,by rw[bB];exact hw.room,λb B hb hh=>?_,λb B hb hh=>?_,λb hb=>by rw[bB];exact hw.old b hb,rfl⟩
 .obtain⟨o,O,k1,k2,k3⟩:=hw.FJ b B hb hh;have:=hi _ _ hb;subst this;rw[k1] at k2;cases k2;rw[EJ];by_cases e:b=q.block
  .rw[AF e,k1];refine⟨_,_,rfl,rfl,?_⟩;cases k3 with
   |@cells c C t f F h1 h2 =>
    simp only[Ir];split
    .exact .cells h1 h2
    .exact .cells (h1.set _ hv) h2
   |loop a b c d e f=>exact .loop a b c d e f
   |number o s l h=>exact .number o s l h
   |taken=>exact .taken
   |defs h=>exact .defs h
  .rw[AD e];exact⟨_,_,k1,k1,k3⟩
 .have:=hi _ _ hb;subst this;have h:=hw.FV _ _ hb hh;rw[EJ];by_cases e:b=q.block
  .exact AI h.1 (a6 _ e)
  .rw[AD e];exact h
end
def Walk.split {p:bA}{C:ak->Prop}{g1 g2:ak}{w1 w2:bc}(h:Walk p C g1 w1 g2 w2):(g1=g2/\w1=w2)\/∃g w es,C g1/\c0 p U g1 w1=.go g w es/\Walk p C g w g2 w2:=by
 cases h with
 |refl=>exact .inl ⟨rfl,rfl⟩
 |step c e k=>exact .inr ⟨_,_,_,c,e,k⟩
def Walk.trans {p:bA}{C:ak->Prop}{g1 g2 g3:ak}{w1 w2 w3:bc}(h:Walk p C g1 w1 g2 w2)(k:Walk p C g2 w2 g3 w3):Walk p C g1 w1 g3 w3:=by
 induction h with
 |refl=>exact k
 |step c e _ ih=>exact .step c e (ih k)
section
variable {P:ED} {EB BC BB:bh->Bool} {H:Hid} {G:Nat}
def Held (p:bA)(BB:bh->Bool)(f:bh)(x y:Int):Prop:=∀(args:Array bq) (q:dy) (k:CallKind) (cs:List bw) (w:bc),k≠.early->cs≠[]->args[0]?=D (.pointer (D q))->w.cell? q=D (.int .i32 x)->w.frozen? q=J ->
 EO p BB (λg W=>Et (w.setCell q (.int .i32 y)) W/\∃fr,g=EX fr cs/\fr.fn=f/\fr.kind=k/\fr.mode=.returning/\fr.defers=[]/\fr.oper?=bW) 0 (EX (bn p f args k) cs) w
def Lu (P:ED)(BB:bh->Bool)(f:bh):Prop:=∃x y fn r o1 o2 s GY,Ls P.a f x y fn r o1 o2 s/\Held P.b BB f x y/\P.fs[f]?=D GY/\GY.results=#[]
def mj (P:ED)(EB BC BB:bh->Bool):Prop:=∀f,EB f=U\/aP EB f=U->BC f=J->(∃fn s,P.a.funcs[f]?=D fn/\fn.body=D (.refuse s))\/Lu P BB f
def Jn (P:ED)(EB BC:bh->Bool)(H:Hid)(G:Nat)(T:List bw)(Qa:ak->bc->Prop)(a6:ak)(w':bc):Prop :=
 ∃g' w0 D6,Qa g' w0/\Et w0 w'/\KD H D6/\FX P EB H J BC T D6 g' a6/\EI (SP EB H) (CK P.a EB J) G D6 w0 w0
def Jn.same {T:List bw}{Qa:ak->bc->Prop}(g:ak)(w W:bc)(s:Et w W)(x:Jn P EB BC H G T Qa g w):Jn P EB BC H G T Qa g W:=by
 obtain⟨g1,w0,a6,x1,x2,x3⟩:=x;exact⟨g1,w0,a6,x1,x2.trans s,x3⟩
def Ee.QB (Lc:Lib P EB H J BC G)(zG:mj P EB BC BB)(hb:∀f,EB f=U->BB f=U){Qa:ak->bc->Prop}(hQ:∀g w W,Et w W->Qa g w->Qa g W)(aR:∀g w f,Qa g w->BC f=J->Lu P BB f->g.frame.fn≠f)(hE:∀g w W,Et w W->Self P.a EB H G g w->Self P.a EB H G g W)
  {c:bw} {cs:List bw} {g:ak} {w:bc} (h:Ee P.a (Self P.a EB H G) Qa g w) :
  ∀ {g':ak} {w1 w':bc},Et w w1->Walk P.a (λg=>∀w,¬Qa g w) g w1 g' w'->∀ {β:Em} {g2:ak},KD H β->FX P EB H J BC (c::cs) β g' g2->EI (SP EB H) (CK P.a EB J) G β w' w' ->
  EO P.b BB (Jn P EB BC H G (c::cs) Qa) 0 g2 w':=by
 induction h with
 |@fin g w hq =>
  intro g' w1 w' hs hk β g2 hi hg hw;cases hk with
  |refl=>exact .fin ⟨_,_,_,hQ _ _ _ hs hq,⟨rfl,rfl,rfl⟩,hi,hg,hw⟩
  |step hc _ _=>exact AI hq (hc w)
 |@next g w ng nw h1 h2 h3 ih =>
  intro g' w1 w' hs hk β g2 hi hg hw;cases hk with
  |step hc e aS =>
   obtain⟨⟨es',e'⟩,_⟩:=h2 w1.tape w1.drawn;rw[<-hs.eq,e] at e';cases e';exact ih _ _ ⟨rfl,rfl,rfl⟩ aS hi hg hw
  |refl =>
  have eon:∀τ n,on w1 τ n=on w τ n:=λτ n=>by rw[hs.eq];rfl
  have zA:Ee P.a (Self P.a EB H G) Qa g w1:=(Ee.next ng nw h1 h2 h3).same hE hQ hs;have aJ:∀τ n,(∃es,c0 P.a U g (on w1 τ n)=.go (ng τ n) (nw τ n) es)/\(ng τ n).callers≠[]:=λτ n=>by rw[eon];exact h2 τ n
  have ih':∀τ n {g':ak} {w2 w':bc},Et (nw τ n) w2->Walk P.a (λg=>∀w,¬Qa g w) (ng τ n) w2 g' w'->∀ {β:Em} {g2:ak},KD H β->FX P EB H J BC (c::cs) β g' g2->EI (SP EB H) (CK P.a EB J) G β w' w' ->
   EO P.b BB (Jn P EB BC H G (c::cs) Qa) 0 g2 w':=λτ n=>ih τ n
  have eg:=hg.EX;have aC:=hg.top;have zW:=hg.callers;have e2:g2=EX g2.frame g2.callers:=by
   obtain⟨x1,x2,x3,x4,x5⟩:=g2;obtain⟨_,_,⟨_,s1⟩,⟨_,d1⟩,⟨_,o1⟩⟩:=hg;dsimp only at *;subst s1 d1 o1
   rfl
  generalize hf:g.frame=fr at aC eg;generalize hF:g2.frame=FR at aC e2;generalize g.callers=a7 at eg zW;generalize g2.callers=a6 at e2 zW;subst eg e2;cases aC with
  |on a8 =>
   have eF:fr=FR:=Er.id (P:=ED.of P.a) hi a8
   have aL:Fa P.b BB (EX FR a6) w1:=⟨by show BB FR.fn=U;rw[<-eF];exact hb _ a8.late.2,λo ho=>by
    have aA:FR.oper?=D o:=ho;rw[<-eF] at aA
    exact cG a8 (λf h=>(Lc.nm f h).2) (λ_=>rfl) o aA⟩
   refine EO.step aL λτ d=>?_;obtain⟨⟨es,e⟩,hn⟩:=aJ τ d;have hw':EI (SP EB H) (CK P.a EB J) G β (on w1 τ d) (on w1 τ d):=hw.same rfl rfl rfl;have:=dR (P:=P) (main:=U) (main2:=U) Lc hg a8 (λ_=>ry a8) hw' (n:=(nw τ d).drawn) (λ_ _ _=>rfl) (by rw[e];exact Db _ _);rw[e] at this;obtain⟨h0,_⟩|⟨D6,aD,W',ES,k1,k2,k3⟩:=this
   .exact AI h0 hn
   obtain⟨i1,i2⟩:=k3.same hi rfl;have hr:=ih' τ d ⟨rfl,rfl,rfl⟩ .refl i1 k2 (k3.rel.same rfl i2 rfl);refine⟨aD,W',ES,k1,lS k2.callers,hr.same Jn.same ⟨i2.symm,?_,?_⟩⟩
   .rw[k3.OS,k3.os]
   .rw[k3.OUT,k3.out]
  |@stop f a A k s1 s2 s3 s4 =>
   have eA:a=A:=s4.id hi;subst eA;obtain⟨fn,s,q1,q2⟩|⟨x,y,fn,r,o1,o2,s,GY,hp,aF,hf',aN⟩:=zG f s1 s2
   .exfalso;obtain⟨⟨es,e⟩,_⟩:=aJ w1.tape w1.drawn;exact i5 q1 q2 _ _ _ _ _ e
   have s0:EB f=true:=by
    obtain s1|s1:=s1
    .exact s1
    .exfalso;obtain⟨fn9,s9,z1,z2⟩:=Lc.bars f s1;rw[hp.func] at z1;cases z1;rw[hp.text] at z2;cases z2
   have aK:∀ww,EI (SP EB H) (CK P.a EB J) G β ww ww->∀q:dy,a[0]?=D (.pointer (D q))->(∃s,ww.farLoad P.a q U=.error (.stuck s))/\∀t u,ww.heap[q.block]?≠D (.view t u):=by
    intro ww hw q hq;have hv:DZ (SP EB H) β (.pointer (D q)) (.pointer (D q)):=s4.at_ 0 _ _ hq hq;obtain⟨B,aG,hB⟩:=K6 hv;have hB2:q.block=B:=hi.2 _ _ aG;subst hB2;refine⟨(MR (P:=P) hw ⟨aG,rfl,rfl⟩).1 U,λt u hu=>?_⟩;cases hh:(SP EB H).hid q.block with
    |true=>rw[(hw.FV _ _ aG hh).1] at hu;cases hu
    |false =>
     obtain⟨o,O,k1,k2,k3⟩:=hw.FJ _ _ aG hh;rw[hu] at k1;cases k1;cases k3
   have aH:∀g w,g.frame.fn=f->¬Qa g w:=λg w e hq=>aR g w f hq s2 ⟨x,y,fn,r,o1,o2,s,GY,hp,aF,hf',aN⟩ e;obtain⟨q,fr,hq,hc,hz,_⟩:=Kk hp s3 hE hQ aH (aK _ hw) zA;have hCS:a6≠[]:=lS zW;have aP:a7≠[]:=by cases zW<;>simp
   refine((aF a q k a6 w1 s3 hCS hq hc hz).bind λgB WB hB=>?_);obtain⟨hs2,FR,rfl,t1,t2,t3,t4,t5⟩:=hB
   refine EO.step ⟨by show BB FR.fn=U;rw[t1];exact hb f s0,λo ho=>by
    have aA:FR.oper?=D o:=ho
    rw[t5] at aA;cases aA⟩ λτ n=>?_
   have aO:EI (SP EB H) (CK P.a EB J) G β (on w1 τ n) (on w1 τ n):=hw.same rfl rfl rfl;obtain⟨q',fr,hq',hc',hz',r1,r2,r3,r4,aI⟩:=Kk hp s3 hE hQ aH (aK _ aO) (zA.same hE hQ Di);have eq:q'=q:=by rw[hq] at hq';cases hq';rfl
   subst eq;have hw2:EI (SP EB H) (CK P.a EB J) G β ((on w1 τ n).setCell q' (.int .i32 y)) ((on w1 τ n).setCell q' (.int .i32 y)):=tQ aO hi.2 hc' (.int _ _);have aM:Ee P.a (Self P.a EB H G) Qa (EX fr a7) ((on w1 τ n).setCell q' (.int .i32 y)):=(zA.same hE hQ Di).descend (C:=λg=>∀w,¬Qa g w) hE hQ (λg w c=>c w) ⟨rfl,rfl,rfl⟩ aI;have eWB:on WB τ n=(on w1 τ n).setCell q' (.int .i32 y):=by rw[hs2.eq];rfl
   rw[eWB];cases aM with
   |fin h=>exact AI h (aH _ _ r1)
   |next ng2 nw2 _ h2b _ =>
    obtain⟨⟨es,e⟩,hn⟩:=h2b τ n;have aQ:on ((on w1 τ n).setCell q' (.int .i32 y)) τ n=(on w1 τ n).setCell q' (.int .i32 y):=rfl;rw[aQ] at e;have ea:=mi (main:=U) (cs:=a7) (w:=(on w1 τ n).setCell q' (.int .i32 y)) r3 r4 (by rw[r1];exact hp.func) hp.res;have eb:=mi (p:=P.b) (main:=U) (cs:=a6) (w:=(on w1 τ n).setCell q' (.int .i32 y)) t3 t4 (by rw[t1];exact hf') aN;have:=fd (P:=P) (BB:=BC) (main:=U) (main2:=U) (fr:=fr) (FR:=FR) (r2.trans t2.symm) (by rw[r2];exact s3) zW aP (v:=.tuple #[]) (V:=.tuple #[]) (.tuple rfl (by simp)) (Fin.refl hw2) #[]
    rw[<-ea,e,<-show GStep.after #[] (ed P.b U FR a6 bW (.tuple #[]) ((on w1 τ n).setCell q' (.int .i32 y)))=GStep.after ([]:List Event).toArray (ed P.b U FR a6 bW (.tuple #[]) ((on w1 τ n).setCell q' (.int .i32 y))) from rfl,<-eb] at this;obtain⟨h0,_⟩|⟨D6,aD,W',ES,k1,k2,k3⟩:=this
    .exact AI h0 hn
    obtain⟨i1,i2⟩:=k3.same hi rfl;have hr:EO P.b BB (Jn P EB BC H G (c::cs) Qa) 0 aD (nw2 τ n):=by
     have aB:Walk P.a (λg=>∀w,¬Qa g w) (EX fr a7) ((on w1 τ n).setCell q' (.int .i32 y)) (ng2 τ n) (nw2 τ n):=.step (λw=>aH _ w r1) e .refl;have rel:=k3.rel.same rfl i2 rfl;obtain⟨e0,_⟩|⟨ga,wa,esa,_,e1,rest⟩:=aI.split
     .exfalso;have:=AX (λg:ak=>g.frame.mode) e0;rw[show(EX fr a7).frame.mode=.returning from r3] at this;cases this
     .obtain⟨⟨aT,e1'⟩,_⟩:=aJ τ n;rw[e1] at e1';cases e1';exact ih' τ n ⟨rfl,rfl,rfl⟩ (rest.trans aB) i1 k2 rel
    refine⟨aD,W',ES,k1,lS k2.callers,hr.same Jn.same ⟨i2.symm,?_,?_⟩⟩
    .rw[k3.OS,k3.os]
    .rw[k3.OUT,k3.out]
end
section
variable {P:ED} {EB BC BB:bh->Bool} {H:Hid} {G:Nat} {Q:ak->bc->Prop}
structure ID (P:ED)(EB BC BB:bh->Bool)(H:Hid)(G:Nat):Prop where
 la:Lib (ED.of P.a) EB H J EB G
 lc:Lib P EB H J BC G
 ref:mj P EB BC BB
 sub:∀f,EB f=U->BB f=U
 nb:H.bl=J
def tR {K0:Nat->Prop}{w:bc}{Ck:dr->Prop}(a6:∀b,K0 b->G<=b)(hroom:G<=w.heap.size)(a7:∀b,K0 b->H b=U->H.EZ=U/\w.heap[b]?=D (.coro bW))(hold:∀b,H b=U->b<w.heap.size)
  (a8:∀b,K0 b->H b=J->∃o,w.heap[b]?=D o/\EW (SP EB H) Ck (EK K0) o o):EI (SP EB H) Ck G (EK K0) w w:=by
 refine⟨⟨λh1 h2=>h1.2.symm.trans h2.2,λh1 h2=>h1.2.trans h2.2.symm,λ{b B} h=>⟨a6 b h.1,h.2▸a6 b h.1⟩⟩,⟨hroom,hroom⟩,λb B hb hh=>?_,λb B hb hh=>?_,hold,rfl⟩
 .obtain⟨hb,rfl⟩:=hb;obtain⟨o,h1,h2⟩:=a8 b hb hh;exact⟨o,o,h1,h1,h2⟩
 .obtain⟨hb,rfl⟩:=hb;obtain⟨h1,h2⟩:=a7 b hb hh;exact⟨h2,(λh=>AI (h1.symm.trans h) (by decide)),λ_=>h2⟩
def ID.run (B:ID P EB BC BB H G){Qa:ak->bc->Prop}(hQ:∀g w W,Et w W->Qa g w->Qa g W)(a8:∀g w f,Qa g w->BC f=J->Lu P BB f->g.frame.fn≠f){fr:bw}{C:bw}{cs:List bw}{K0:Nat->Prop}{w:bc}{F:bw}(ha:F7 (ED.of P.a) EB H J EB (EK K0) fr fr)(hc:F7 P EB H J BC (EK K0) fr F)
  (aA:∀b,K0 b->G<=b) (hroom:G<=w.heap.size) (a6:∀b,K0 b->H b=U->H.EZ=U/\w.heap[b]?=D (.coro bW)) (hold:∀b,H b=U->b<w.heap.size) (a7:∀b,K0 b->H b=J->∃o,w.heap[b]?=D o/\EW (SP EB H) (CK P.a EB J) (EK K0) o o)
  (h:Self P.a EB H G (EX fr [bad]) w->Ee P.a (Self P.a EB H G) Qa (EX fr [bad]) w) :
  EO P.b BB (Jn P EB BC H G (C::cs) Qa) 0 (EX F (C::cs)) w:=by
 have hi:KD H (EK K0):=⟨B.nb,λ_ _ h=>h.2⟩;have hw:=tR (Ck:=CK P.a EB J) aA hroom a6 hold a7;have hs:Self P.a EB H G (EX fr [bad]) w:=⟨_,hi,⟨ha,.base,⟨rfl,rfl⟩,⟨rfl,rfl⟩,⟨rfl,rfl⟩⟩,hw⟩;exact(h hs).QB B.lc B.ref B.sub hQ a8 (λ_ _ _ s h=>h.same s) ⟨rfl,rfl,rfl⟩ .refl hi ⟨hc,.base,⟨rfl,rfl⟩,⟨rfl,rfl⟩,⟨rfl,rfl⟩⟩ hw
def ID.fn (B:ID P EB BC BB H G){f:bh}(hf:EB f=U)(a7:BC f=U){K0:Nat->Prop}{w:bc}{args:Array bq}{C:bw}{cs:List bw}(zU:cs≠[])
  (aC:∀b,K0 b->G<=b) (hroom:G<=w.heap.size) (a6:D8 (SP EB H) (EK K0) args args)
  (aA:∀b,K0 b->H b=U->H.EZ=U/\w.heap[b]?=D (.coro bW)) (hold:∀b,H b=U->b<w.heap.size) (aB:∀b,K0 b->H b=J->∃o,w.heap[b]?=D o/\EW (SP EB H) (CK P.a EB J) (EK K0) o o)
  (hQ:∀g w W,Et w W->Q g w->Q g W) {R:bq->bc->Prop}
  (hc:∀τ d,Calls P.a f args (on w τ d) (λe w'=>∃v,e=.returned v/\R v w'))
  (h:∀v w',R v w'->EO P.b BB Q 0 (EX (C.finish v) cs) w') :
  EO P.b BB Q 0 (EX (bn P.b f args .normal) (C::cs)) w:=by
 have h1:=B.run (Qa:=Left P.a f R) Left.same (λg w f' hl hf' _ e=>by
  obtain⟨_,_,fr,_,_,rfl,e2,_⟩:=hl;have e3:fr.fn=f':=e;rw[e2] at e3;rw[<-e3,a7] at hf'
  cases hf') (C:=C) (cs:=cs) (E6 B.la (.inl hf) a6 .normal (by decide)) (E6 B.lc (.inl hf) a6 .normal (by decide)) aC hroom aA hold aB λhs=>H5 B.la hs hc
 refine h1.bind λg2 w' hq=>?_;obtain⟨g',w0,D6,q1,q2,q3,q4,q5⟩:=hq;have aD:=q1;obtain⟨wl,vl,fr,l1,l2,l3,l4,l5⟩:=aD;have aF:BB g'.frame.fn=true:=B.sub _ (by rw[l3];show EB fr.fn=U;rw[l4];exact hf);have a8:=q4.top.IP (by rw[l3];show BC fr.fn=U;rw[l4];exact a7);have eF:g'.frame=g2.frame:=Er.id (P:=ED.of P.a) q3 a8;refine EO.step ⟨by rw[<-eF];exact aF,λo ho=>?_⟩ λτ d=>?_
 .rw[<-eF] at ho;exact cG a8 (λf h=>(B.lc.nm f h).2) (λ_=>rfl) o ho
 .have hw':EI (SP EB H) (CK P.a EB J) G D6 w0 (on w' τ d):=q5.same rfl q2.1 (by rw[show(on w' τ d).os=w'.os from rfl,q2.2.1]);obtain⟨v,wa,wb,V,W',ES,aG,e1,e2,e3,e4,e5,e6⟩:=leave (P:=P) B.lc (main2:=U) q1 a7 q4 hw';obtain⟨i1,i2⟩:=e6.same q3 q2.1.symm;have eV:=e5.id i1;subst eV;refine⟨_,W',ES,e4,zU,(h v wa e2).same hQ ⟨?_,?_,?_⟩⟩
  .rw[<-i2,e3.1,<-e1.1]
  .rw[e6.OS,show(on w' τ d).os=w'.os from rfl,q2.2.1,e1.2.1]
  .rw[e6.OUT,show(on w' τ d).output=w'.output from rfl,q2.2.2,e1.2.2]
def ID.fnK (B:ID P EB BC BB H G){f:bh}(hf:EB f=U)(a8:BC f=U){K0:Nat->Prop}{w:bc}{args:Array bq}{C:bw}{cs:List bw}(zU:cs≠[])
  (aG:∀b,K0 b->G<=b) (hroom:G<=w.heap.size) (a7:D8 (SP EB H) (EK K0) args args)
  (aC:∀b,K0 b->H b=U->H.EZ=U/\w.heap[b]?=D (.coro bW)) (hold:∀b,H b=U->b<w.heap.size) (aD:∀b,K0 b->H b=J->∃o,w.heap[b]?=D o/\EW (SP EB H) (CK P.a EB J) (EK K0) o o)
  (hQ:∀g w W,Et w W->Q g w->Q g W) {R:bq->bc->Prop}
  (hc:∀τ d,Calls P.a f args (on w τ d) (λe w'=>∃v,e=.returned v/\R v w'))
  (h:∀v w' (K':Nat->Prop),R v w'->DZ (SP EB H) (EK K') v v->(∀b,K' b->G<=b)->(∀b,K' b->H b=J->∃o,w'.heap[b]?=D o/\EW (SP EB H) (CK P.a EB J) (EK K') o o)->EO P.b BB Q 0 (EX (C.finish v) cs) w') :
  EO P.b BB Q 0 (EX (bn P.b f args .normal) (C::cs)) w:=by
 have h1:=B.run (Qa:=Left P.a f R) Left.same (λg w f' hl hf' _ e=>by
  obtain⟨_,_,fr,_,_,rfl,e2,_⟩:=hl;have e3:fr.fn=f':=e;rw[e2] at e3;rw[<-e3,a8] at hf'
  cases hf') (C:=C) (cs:=cs) (E6 B.la (.inl hf) a7 .normal (by decide)) (E6 B.lc (.inl hf) a7 .normal (by decide)) aG hroom aC hold aD λhs=>H5 B.la hs hc
 refine h1.bind λg2 w' hq=>?_;obtain⟨g',w0,D6,q1,q2,q3,q4,q5⟩:=hq;have aH:=q1;obtain⟨wl,vl,fr,l1,l2,l3,l4,l5⟩:=aH;have aI:BB g'.frame.fn=true:=B.sub _ (by rw[l3];show EB fr.fn=U;rw[l4];exact hf);have aB:=q4.top.IP (by rw[l3];show BC fr.fn=U;rw[l4];exact a8);have eF:g'.frame=g2.frame:=Er.id (P:=ED.of P.a) q3 aB;refine EO.step ⟨by rw[<-eF];exact aI,λo ho=>?_⟩ λτ d=>?_
 .rw[<-eF] at ho;exact cG aB (λf h=>(B.lc.nm f h).2) (λ_=>rfl) o ho
 .have hw':EI (SP EB H) (CK P.a EB J) G D6 w0 (on w' τ d):=q5.same rfl q2.1 (by rw[show(on w' τ d).os=w'.os from rfl,q2.2.1]);obtain⟨v,wa,wb,V,W',ES,a6,e1,e2,e3,e4,e5,e6⟩:=leave (P:=P) B.lc (main2:=U) q1 a8 q4 hw';obtain⟨i1,i2⟩:=e6.same q3 q2.1.symm;have eV:=e5.id i1;subst eV;have aA:a6.le (EK λb=>a6 b b):=λb B hb=>by
   have:=i1.2 _ _ hb;subst this;exact⟨hb,rfl⟩
  have aF:∀b,a6 b b->H b=J->∃o,wa.heap[b]?=D o/\EW (SP EB H) (CK P.a EB J) (EK λb=>a6 b b) o o:=λb hb hh=>by
   obtain⟨o,O,k1,k2,k3⟩:=e6.rel.FJ b b hb hh;have eo:O=o:=by
    rw[<-i2,k1] at k2;exact(eG k2).symm
   subst eo;exact⟨O,by rw[e1.1,<-e3.1];exact k1,k3.mono aA⟩
  refine⟨_,W',ES,e4,zU,(h v wa (λb=>a6 b b) e2 (e5.mono aA) (λb hb=>(e6.rel.Fv.lo hb).1) aF).same hQ ⟨?_,?_,?_⟩⟩
  .rw[<-i2,e3.1,<-e1.1]
  .rw[e6.OS,show(on w' τ d).os=w'.os from rfl,q2.2.1,e1.2.1]
  .rw[e6.OUT,show(on w' τ d).output=w'.output from rfl,q2.2.2,e1.2.2]
def ID.seg (B:ID P EB BC BB H G){b:bw}{a:Act}{c:dr}{k:List Item}{C:bw}{cs:List bw}{K0:Nat->Prop}{w:bc}
  (zR:Er P.a EB H J (EK K0) (b.at a (.code c::k)) (b.at a (.code c::k)))
  (aC:∀b,K0 b->G<=b) (hroom:G<=w.heap.size) (aA:∀b,K0 b->H b=U->H.EZ=U/\w.heap[b]?=D (.coro bW)) (hold:∀b,H b=U->b<w.heap.size) (aB:∀b,K0 b->H b=J->∃o,w.heap[b]?=D o/\EW (SP EB H) (CK P.a EB J) (EK K0) o o)
  (hk:∀s,k≠[.code (.refuse s)]) (aD:∀f x y fn r o1 o2 s,Ls P.a f x y fn r o1 o2 s->∀c,fn.body=D c->k≠[.code c]) (hbl:BC b.fn=U\/∃fn s,P.a.funcs[b.fn]?=D fn/\fn.body=D (.refuse s)) (hQ:∀g w W,Et w W->Q g w->Q g W) {N:Exit->Act->bc->Prop}
  (hc:∀τ d,c.wp P.a (λe a' w'=>(e=.normal\/e=.ret)/\N e a' w') a (on w τ d))
  (h1:∀a' w',N .normal a' w'->EO P.b BB Q 0 (EX (b.at a' k) (C::cs)) w')
  (h2:∀a' w' todo,N .ret a' w'->(∀o,({ b.at a' todo with mode:=.returning }:bw).oper?=D o->aN P.b o.op=U)->EO P.b BB Q 0 (EX { b.at a' todo with mode:=.returning } (C::cs)) w') :
  EO P.b BB Q 0 (EX (b.at a (.code c::k)) (C::cs)) w:=by
 have h0:=B.run (Qa:=Iu b k [bad] N) Iu.same (λg w f' hl hf' hlk e=>by
  obtain⟨a',w0,_,h⟩:=hl;have e3:b.fn=f':=by rcases h with⟨_,rfl⟩|⟨_,_,rfl⟩<;>exact e
  obtain h|⟨fn,s,r1,r2⟩:=hbl
  .rw[e3,hf'] at h;cases h
  .obtain⟨x,y,aG,r,o1,o2,s2,aF,hp,_⟩:=hlk;have:=hp.func;rw[<-e3,r1] at this;cases this;have:=hp.text;rw[r2] at this
   cases this) (C:=C) (cs:=cs) (.on zR) (.on zR) aC hroom aA hold aB λhs=>Ms (N:=N) B.la (by simp) hs hc
 refine h0.bind λg2 w' hq=>?_;obtain⟨g',w0,D6,q1,q2,q3,q4,q5⟩:=hq;have a7:∀g2:ak,g'.callers=[bad]->FX P EB H J BC (C::cs) D6 g' g2->g2.callers=C::cs:=by
  intro g2 e1 e2;have:=e2.callers;rw[e1] at this;generalize g2.callers=X at this;cases this with
  |base=>rfl
  |cons _ h=>exact AI rfl h.ne
 have a8:Er P.a EB H J D6 g'.frame g2.frame:=by
  have a6:=q4.top;obtain⟨a',wl,l1,l2⟩:=q1;generalize hf:g'.frame=fr at a6 ⊢;generalize g2.frame=FR at a6 ⊢;cases a6 with
  |on h=>exact h
  |@stop f A A' kd s1 s2 s3 s4 =>
   exfalso;obtain⟨fn,s,r1,r2⟩|⟨x,y,fn,r,o1,o2,s,aF,hp,_⟩:=B.ref f s1 s2
   rotate_left
   .obtain⟨_,rfl⟩|⟨_,todo,rfl⟩:=l2
    .have e : k = [.code (.seq (.region r #[o1, o2] J) (.cond (.tmp 1) .ret (.refuse s)))] := by
      have:=AX ek hf;simpa [Go.Eu.EX,bn,hp.func,hp.text,Frame.at] using this
     exact aD f x y fn r o1 o2 s hp _ hp.text e
    .have:=AX er hf;simp[Go.Eu.EX,bn] at this
   obtain⟨_,rfl⟩|⟨_,todo,rfl⟩:=l2
   .have : k = [.code (.refuse s)] := by
     have:=AX ek hf;simpa [Go.Eu.EX,bn,r1,r2,Frame.at] using this
    exact hk s this
   .have:=AX er hf;simp[Go.Eu.EX,bn] at this
 have eF:g'.frame=g2.frame:=Er.id (P:=ED.of P.a) q3 a8;have e2:g2=EX g2.frame g2.callers:=by
  obtain⟨x1,x2,x3,x4,x5⟩:=g2;obtain⟨_,_,⟨_,s1⟩,⟨_,d1⟩,⟨_,o1⟩⟩:=q4;dsimp only at *;subst s1 d1 o1
  rfl
 obtain⟨a',wl,l1,l2⟩:=q1;obtain⟨l3,l4⟩|⟨l3,todo,l4⟩:=l2
 .have:=a7 g2 (by rw[l4];rfl) q4;rw[e2,this,<-eF,l4];exact(h1 a' wl l3).same hQ (l1.trans q2)
 .have:=a7 g2 (by rw[l4];rfl) q4;have hpl:∀o,g'.frame.oper?=D o->aN P.b o.op=true:=λo ho=>cG a8 (λf h=>(B.lc.nm f h).2) (λ_=>rfl) o ho;rw[l4] at hpl;rw[e2,this,<-eF,l4];exact(h2 a' wl todo l3 hpl).same hQ (l1.trans q2)
end
section
variable {P:ED} {S:Fy} {Ck:dr->Prop} {G:Nat} {β:Em}
def rz {α Hd:Type}{m:Sem α}{M:Sem Hd}{R:Em->α->Hd->Prop}(h:∀w W,EI S Ck G β w W->∀es,∃s w' es',m.runT P.a w es=(.halt (.stuck s) w',es')):Ed P S Ck G β m M R:=by
 intro w W n hw ht a6 a7 _;obtain⟨s,w',es',e⟩:=h w W hw a6;rw[e];trivial
def pU (f:bh):Ed P S Ck G β (mark (.extern f)) (mark (.extern f)) (λ_ _ _=>True):=by
 intro w W n hw ht a6 a7 _;have e1:(mark (.extern f)).runT P.a w a6=(.ok () w,a6.push ⟨.mark (.extern f),J,U⟩):=rfl;have e2:(mark (.extern f)).runT P.b W a7=(.ok () W,a7.push ⟨.mark (.extern f),J,U⟩):=rfl;rw[e1,e2];exact⟨β,(),W,[⟨.mark (.extern f),J,U⟩],by simp,trivial,{ Fin.refl hw with evs:=λ_ E hE=>by cases BS.1 hE;exact .mark (.extern f) }⟩
def kY (k:ck){a A:dy}(h:E0 β a A):Ed P S Ck G β (I (.int k) a) (I (.int k) A) (λD6 v V=>DZ S D6 v V):=by
 unfold I;refine DX (iL h .atomic) ?_;intro a6 v V _ hv;cases hv with
 |int k' n =>
  split
  .rename_i k2 k3 _ e1 e2;cases e1;cases e2;split
   .exact DY (.int _ _)
   .exact Eb (by intro g e;cases e)
  all_goals simp_all
 |ptr o s hb =>
  cases k<;>first|exact DY (.ptr o s hb)|exact Eb (by intro g e;cases e)
 |_=>cases k<;>exact Eb (by intro g e;cases e)
def pV {k:ck}(hk:k≠.u64){a A:dy}(h:E0 β a A):Ed P S Ck G β (I (.int k) a) (I (.int k) A) (λ_ v V=>∃n,v=.int k n/\V=.int k n):=by
 unfold I;refine DX (iL h .atomic) ?_;intro a6 v V _ hv;cases hv with
 |int k' n =>
  split
  .rename_i k2 k3 _ e1 e2;cases e1;cases e2;split
   .rename_i e;subst e;exact DY ⟨n,rfl,rfl⟩
   .exact Eb (by intro g e;cases e)
  all_goals simp_all
 |ptr o s hb =>
  cases k<;>first|exact AI rfl hk|exact Eb (by intro g e;cases e)
 |_=>cases k<;>exact Eb (by intro g e;cases e)
def rB (k:ck){x X:Array bq}(h:D8 S β x X):Ed P S Ck G β (b7 (.int k) x) (b7 (.int k) X) (λD6 v V=>DZ S D6 v V):=by
 have hl:=h.toList;obtain⟨l⟩:=x;obtain⟨L⟩:=X;simp only at hl;cases hl with
 |nil=>exact D7
 |cons ha hr =>
  cases hr with
  |cons _ _=>exact D7
  |nil =>
   refine DX (eh ha) ?_;intro a6 a A _ hA;exact kY k hA
def tS (k:ck){x X:Array bq}(h:D8 S β x X):Ed P S Ck G β (b6 (Op.intArith .add) k U x) (b6 (Op.intArith .add) k U X) (λD6 v V=>DZ S D6 v V):=by
 have hl:=h.toList;obtain⟨l⟩:=x;obtain⟨L⟩:=X;simp only at hl;cases hl with
 |nil=>exact D7
 |cons ha hr =>
  cases hr with
  |nil=>exact D7
  |cons hb hr =>
   cases hr with
   |cons _ _=>exact D7
   |nil =>
    refine DX (eh ha) ?_;intro aB a A a8 hA;refine DX (kY k hA) ?_;intro aC v V a6 hv;refine DX (eU hv) ?_;rintro aD n _ a7 rfl;refine DX (eU ((((hb.mono a8).mono a6)).mono a7)) ?_;rintro aF m _ aA rfl;refine DX (R:=λD6 a A=>DZ S D6 a A) (DY (.int _ _)) ?_;intro aG z Z le5 hz;refine DX (jh ((((hA.mono a6).mono a7).mono aA).mono le5) .atomic hz) ?_;intro aH _ _ le6 _
    exact DY (hz.mono le6)
def rC {a A:dy}(h:E0 β a A)(hh:S.hid a.block=J):Ed P S Ck G β (cU a) (cU A) (λ_ x X=>x=J->X=J):=by
 intro w W n hw ht a6 a7 _;have e1:(cU a).runT P.a w a6=(.ok (w.frozen? a) w,a6):=rfl;have e2:(cU A).runT P.b W a7=(.ok (W.frozen? A) W,a7):=rfl;rw[e1,e2];refine⟨β,W.frozen? A,W,[],by simp,λhz=>?_,Fin.refl hw⟩;obtain⟨o,O,h1,h2,h3⟩:=hw.FJ _ _ h.block hh;rw[bi,h1] at hz;rw[bi,h2];cases h3 with
 |cells ha hf =>
  simp only[BW,AY,Qw] at hz ⊢;rw[<-h.off];refine Bool.eq_false_iff.2 λhc=>?_;simp only[AN,decide_eq_true_eq,Bool.decide_and] at hc;obtain⟨p,q⟩:=hf _ hc.1 hc.2;simp[p,q] at hz
 |_=>rfl
def tT {w W:bc}(hw:EI S Ck G β w W){a A:dy}(h:E0 β a A)(hh:S.hid a.block=U):w.cell? a=none:=by
 unfold World.cell?;rw[(hw.FV _ _ h.block hh).1]
def tU {a A:dy}(h:E0 β a A)(hh:S.hid a.block=J):Ed P S Ck G β (Y a) (Y A) (λ_ x X=>x=J->X=J):=by
 unfold Y;refine DX (gZ h.block) ?_;rintro a6 _ _ zX ⟨rfl,rfl⟩;exact rC (h.mono zX) hh
def Nk {w W:bc}(hw:EI S Ck G β w W){a A:dy}(h:E0 β a A)(hh:S.hid a.block=U)(es:Array Event):∃es',(Y a).runT P.a w es=(.ok J w,es'):=by
 have e0:(shape a.block).runT P.a w es=(.ok bW w,es):=by
  show(eC (w.shape? a.block) w,es)=_;unfold World.shape?;rw[(hw.FV _ _ h.block hh).1]
 have e1:(viewAt a.block).runT P.a w es=(.ok bW w,es.push ⟨.obj a.block,J,J⟩):=by
  unfold viewAt;rw[aj,e0];simp only[CJ,AZ,if_false];rw[aj];have:(Go.getObj a.block).runT P.a w es=(.ok (.coro bW) w,es.push ⟨.obj a.block,J,J⟩):=by
   simp only[Go.getObj,Sem.runT,(hw.FV _ _ h.block hh).1];rfl
  rw[this]
  rfl
 refine⟨es.push ⟨.obj a.block,J,J⟩,?_⟩;unfold Y;rw[aj,e1];show(eC (w.frozen? a) w,_)=_;rw[bi,(hw.FV _ _ h.block hh).1]
 rfl
def tV {k:ck}(hk:k≠.u64){x X:Array bq}(h:D8 S β x X):Ed P S Ck G β (bs (.int k) x) (bs (.int k) X) (λD6 v V=>DZ S D6 v V):=by
 have hl:=h.toList;obtain⟨l⟩:=x;obtain⟨L⟩:=X;simp only at hl;cases hl with
 |nil=>exact D7
 |cons ha hr =>
  cases hr with
  |nil=>exact D7
  |cons hb hr =>
   cases hr with
   |nil=>exact D7
   |cons hc hr =>
    cases hr with
    |cons _ _=>exact D7
    |nil =>
     refine DX (eh ha) ?_;intro aF a A aC hA;cases hh:S.hid a.block with
     |true =>
      refine rz λw W hw es=>?_;obtain⟨aA,e1⟩:=Nk (P:=P) hw hA hh es;obtain⟨s,hs⟩:=(MR (P:=P) hw hA).1 U;have e2:∀es,(I (.int k) a).runT P.a w es=(.halt (.stuck s) w,es):=λes=>by
       unfold I;rw[aj];have:(Go.load a .atomic).runT P.a w es=(.halt (.stuck s) w,es):=by
        simp only[Go.load,Sem.runT,tT hw hA hh];have:(cq==cq)=true:=rfl;rw[this,hs]
       rw[this]
      refine⟨s,w,aA,?_⟩;rw[aj,e1];simp only[AZ,if_false];rw[aj];have e3:(pure PUnit.unit:Sem PUnit).runT P.a w aA=(.ok PUnit.unit w,aA):=rfl
      first
       |(rw[e3];simp only;rw[aj,aj,e2])
       |(rw[aj,e2])
       |(rw[e2])
     |false =>
      refine DX (tU hA hh) ?_;intro aG z Z a8 hz;cases z with
      |true=>exact Eb (by intro g e;cases e)
      |false =>
       rw[hz rfl];simp only[AZ,if_false];refine DX (pV hk (hA.mono a8)) ?_;rintro aD v V aB ⟨n1,rfl,rfl⟩;have hA3:=(hA.mono a8).mono aB;have hb3:=((hb.mono aC).mono a8).mono aB;have hc3:=((hc.mono aC).mono a8).mono aB;have fin:∀(a6:Em) (q:Bool),aD.le a6->∀ {c C:bq},DZ S aD c C->Ed P S Ck G a6 (do if q=U then do store a c .atomic;pure (cf q) else pure (cf q)) (do if q=U then do store A C .atomic;pure (cf q) else pure (cf q)) (λD6 v V=>DZ S D6 v V):=by
        intro a6 q a7 c C hcc;cases q with
        |false=>exact DY (.bool _)
        |true =>
         refine DX (jh (hA3.mono a7) .atomic (hcc.mono a7)) ?_;intro aH _ _ _ _;exact DY (.bool _)
       cases hb3 with
       |int k2 n2 =>
        refine DX (m:=pure (n1==n2)) (R:=λ_ a A=>a=A) (DY rfl) ?_;rintro a6 q _ a7 rfl;exact fin a6 q a7 hc3
       |ptr o s hb =>
        cases n1 with
        |ofNat m =>
         cases m with
         |zero =>
          refine DX (m:=pure J) (R:=λ_ a A=>a=A) (DY rfl) ?_;rintro a6 q _ a7 rfl;exact fin a6 q a7 hc3
         |succ m=>exact DX (R:=λ_ _ _=>False) (Eb (u:=.addressObserved) (by intro g e;cases e)) (λ_ _ _ _ h=>h.elim)
        |negSucc m=>exact DX (R:=λ_ _ _=>False) (Eb (u:=.addressObserved) (by intro g e;cases e)) (λ_ _ _ _ h=>h.elim)
       |blank _ _ =>
        cases n1 with
        |ofNat m=>cases m<;>exact Gg ((show zO P (stuck "atomic.CompareAndSwap: old is no T":Sem Bool) from λw es=>.inl ⟨_,_,_,rfl⟩).bind _)
        |negSucc m=>exact Gg ((show zO P (stuck "atomic.CompareAndSwap: old is no T":Sem Bool) from λw es=>.inl ⟨_,_,_,rfl⟩).bind _)
       |_ =>
        cases n1 with
        |ofNat m=>cases m<;>exact DX (R:=λ_ _ _=>False) (D7 (s := "atomic.CompareAndSwap: old is no T")) (λ_ _ _ _ h=>h.elim)
        |negSucc m=>exact DX (R:=λ_ _ _=>False) (D7 (s := "atomic.CompareAndSwap: old is no T")) (λ_ _ _ _ h=>h.elim)
end
def Jo (p:bA)(SB:bh->Bool)(zZ:Bool)(f:bh):Bool:=match p.funcs[f]? with
 |some fn=>fn.name != "runtime.NumGoroutine"&&match fn.body with
  |some c=>codeOk p SB zZ U c
  |none=>J
 |none=>J
def FD {p:bA}{SB:bh->Bool}{zZ:Bool}{f:bh}(this:Jo p SB zZ f=U):∃fn c,p.funcs[f]?=D fn/\fn.name ≠ "runtime.NumGoroutine"/\fn.body=D c/\codeOk p SB zZ U c=true:=by
 unfold Jo at this;cases hq:p.funcs[f]? with
 |none=>rw[hq] at this;cases this
 |some fn =>
  rw[hq] at this;cases hb:fn.body with
  |none=>simp[hb] at this
  |some c=>simp[hb] at this;exact⟨fn,c,rfl,this.1,hb,this.2⟩
def IE (P:ED)(f:bh):Prop:=∃fn GY s,P.a.funcs[f]?=D fn/\P.fs[f]?=D GY/\fn.name ≠ "runtime.NumGoroutine"/\GY.name ≠ "runtime.NumGoroutine"/\fn.body=D (.refuse s)/\GY.body.isSome=U
def ey {P:ED}{S:Fy}{Ck:dr->Prop}{G:Nat}{β:Em}{f:bh}(h:IE P f)(hf:S.fn f){a A:Array bq}(ha:D8 S β a A):Ed P S Ck G β (cF f a) (cF f A) (H4 S Ck):=by
 obtain⟨fn,GY,s,h1,h2,h3,h4,h5,h6⟩:=h;exact bT h1 h2 h3 h4 (by rw[h5];rfl) h6 hf ha
def IE.bars {P:ED}{f:bh}(h:IE P f):∃fn s,P.a.funcs[f]?=D fn/\fn.body=D (.refuse s):=by
 obtain⟨fn,GY,s,h1,h2,h3,h4,h5,h6⟩:=h;exact⟨fn,s,h1,h5⟩
def xT {p:bA}{SB:bh->Bool}{H:Hid}{Gn:Nat}(h:∀f,SB f=U->Jo p SB J f=U)(a6:∀f,aP SB f=U->IE (ED.of p) f)(hg:p.globals.size<=Gn/\p.info? big=bW):Lib (ED.of p) SB H J SB Gn:=by
 refine⟨⟨hg.2,λf hf β a A ha=>?_⟩,λf hf=>?_,λf hf=>?_,hg.1,λf hf=>?_,λ_ h=>h,λf hf=>(a6 f hf).bars⟩
 .have a7:=hf;obtain hf|hf:=hf
  .obtain⟨fn,c,h1,h2,h3,_⟩:=FD (h f hf);exact bT (P:=ED.of p) h1 h1 h2 h2 (by rw[h3];rfl) (by rw[h3];rfl) a7 ha
  .exact ey (a6 f hf) a7 ha
 .obtain⟨fn,c,h1,_,h3,h4⟩:=FD (h f hf);exact⟨fn,c,h1,by rw[h3];rfl,h4,h1⟩
 .obtain⟨fn,c,h1,_,_,_⟩:=FD (h f hf);exact⟨fn,fn,h1,h1,rfl⟩
 .obtain⟨fn,c,h1,_,h3,_⟩:=FD (h f hf);have:=ba h1 (by rw[h3];rfl);exact⟨this,this⟩
def vQ {P:ED}{SB BB:bh->Bool}{H:Hid}{zZ:Bool}{Gn:Nat}(h:∀f,BB f=U->Jo P.a SB zZ f=U)(same:∀f,BB f=U->P.fs[f]?=P.a.funcs[f]?)
  (stops:∀f,SB f=U->BB f=J->∃fn GY,P.a.funcs[f]?=D fn/\P.fs[f]?=D GY/\fn.results=GY.results/\fn.name ≠ "runtime.NumGoroutine"/\GY.name ≠ "runtime.NumGoroutine"/\fn.body.isSome=U/\GY.body.isSome=U)
  (sub:∀f,BB f=U->SB f=U) (a7:∀f,aP SB f=U->IE P f) (hg:P.a.globals.size<=Gn/\P.a.info? big=bW):Lib P SB H zZ BB Gn:=by
 refine⟨⟨hg.2,λf hf β a A ha=>?_⟩,λf hf=>?_,λf hf=>?_,hg.1,λf hf=>?_,sub,λf hf=>(a7 f hf).bars⟩
 .have a6:=hf;obtain hf|hf:=hf
  rotate_left
  .exact ey (a7 f hf) a6 ha
  cases hb:BB f with
  |true =>
   obtain⟨fn,c,h1,h2,h3,_⟩:=FD (h f hb);exact bT h1 ((same f hb).trans h1) h2 h2 (by rw[h3];rfl) (by rw[h3];rfl) a6 ha
  |false =>
   obtain⟨fn,GY,h1,h2,_,h3,h4,h5,h6⟩:=stops f hf hb;exact bT h1 h2 h3 h4 h5 h6 a6 ha
 .obtain⟨fn,c,h1,_,h3,h4⟩:=FD (h f hf);exact⟨fn,c,h1,by rw[h3];rfl,h4,(same f hf).trans h1⟩
 .cases hb:BB f with
  |true =>
   obtain⟨fn,c,h1,_,_,_⟩:=FD (h f hb);exact⟨fn,fn,h1,(same f hb).trans h1,rfl⟩
  |false =>
   obtain⟨fn,GY,h1,h2,h3,_⟩:=stops f hf hb;exact⟨fn,GY,h1,h2,h3⟩
 .cases hb:BB f with
  |true =>
   obtain⟨fn,c,h1,_,h3,_⟩:=FD (h f hb);exact⟨ba h1 (by rw[h3];rfl),ba (p:=P.b) ((same f hb).trans h1) (by rw[h3];rfl)⟩
  |false =>
   obtain⟨fn,GY,h1,h2,_,_,_,h5,h6⟩:=stops f hf hb;exact⟨ba h1 h5,ba (p:=P.b) h2 h6⟩
inductive Kl:(Array bq->Sem bq)->Prop
 |load (k:ck):Kl (b7 (.int k))
 |add (k:ck):Kl (b6 (Op.intArith .add) k U)
 |Je (k:ck):k≠.u64->Kl (bs (.int k))
section
variable {P:ED} {S:Fy} {Ck:dr->Prop} {G:Nat} {β:Em}
def rD {e:Array bq->Sem bq}(h:Kl e){a A:Array bq}(ha:D8 S β a A):Ed P S Ck G β (e a) (e A) (λD6 v V=>DZ S D6 v V):=by
 cases h with
 |load k=>exact rB k ha
 |add k=>exact tS k ha
 |Je k hk=>exact tV hk ha
def Lv (P:ED)(f:bh):Prop:=∃fn e,P.a.funcs[f]?=D fn/\P.fs[f]?=D fn/\(fn.name == "runtime.NumGoroutine")=J/\fn.body.isNone=U/\Extern.findNext fn=bW/\Extern.find fn=D e/\Kl e/\jo fn.name=J
def jN {f:bh}(h:Lv P f){a A:Array bq}(ha:D8 S β a A):Ed P S Ck G β (cF f a) (cF f A) (H4 S Ck):=by
 obtain⟨fn,e,h1,h2,h3,h4,h5,h6,h7,_⟩:=h;refine DX aT ?_;rintro a7 p p' zX ⟨hp,a8⟩;subst p p';rw[h1,show P.b.funcs[f]?=D fn from h2];simp only[h3,h4,h5,h6,AZ,if_false,if_true];refine DX (pU f) ?_;intro aA _ _ a6 _;refine DX (rD h7 ((ha.mono zX).mono a6)) ?_;intro aB v V _ hv;exact DY (.value hv)
def oN {p:bA}{SB:bh->Bool}{H:Hid}{Gn:Nat}(h:∀f,SB f=U->Jo p SB J f=U\/Lv (ED.of p) f)(a6:∀f,aP SB f=U->IE (ED.of p) f)(hg:p.globals.size<=Gn/\p.info? big=bW):Lib (ED.of p) SB H J SB Gn:=by
 refine⟨⟨hg.2,λf hf β a A ha=>?_⟩,λf hf=>?_,λf hf=>?_,hg.1,λf hf=>?_,λ_ h=>h,λf hf=>(a6 f hf).bars⟩
 .have a7:=hf;obtain hf|hf:=hf
  rotate_left
  .exact ey (a6 f hf) a7 ha
  obtain h0|h0:=h f hf
  .obtain⟨fn,c,h1,h2,h3,_⟩:=FD h0;exact bT (P:=ED.of p) h1 h1 h2 h2 (by rw[h3];rfl) (by rw[h3];rfl) a7 ha
  .exact jN h0 ha
 .obtain h0|⟨fn,e,h1,h2,_,h4,_⟩:=h f hf
  .obtain⟨fn,c,h1,_,h3,h4⟩:=FD h0;exact⟨fn,c,h1,by rw[h3];rfl,h4,h1⟩
  .refine⟨fn,_,h1,rfl,?_,h2⟩;have:fn.body=none:=by simpa using h4
   rw[this];rfl
 .obtain h0|⟨fn,e,h1,h2,_⟩:=h f hf
  .obtain⟨fn,c,h1,_,_,_⟩:=FD h0;exact⟨fn,fn,h1,h1,rfl⟩
  .exact⟨fn,fn,h1,h2,rfl⟩
 .obtain h0|⟨fn,e,h1,h2,_,_,_,_,_,h8⟩:=h f hf
  .obtain⟨fn,c,h1,_,h3,_⟩:=FD h0;have:=ba h1 (by rw[h3];rfl);exact⟨this,this⟩
  .exact⟨dY h1 h8,dY (p:=(ED.of p).b) h2 h8⟩
def iN {P:ED}{SB BB:bh->Bool}{H:Hid}{zZ:Bool}{Gn:Nat}(h:∀f,BB f=U->(Jo P.a SB zZ f=U/\P.fs[f]?=P.a.funcs[f]?)\/Lv P f)
  (stops:∀f,SB f=U->BB f=J->∃fn GY,P.a.funcs[f]?=D fn/\P.fs[f]?=D GY/\fn.results=GY.results/\fn.name ≠ "runtime.NumGoroutine"/\GY.name ≠ "runtime.NumGoroutine"/\fn.body.isSome=U/\GY.body.isSome=U)
  (sub:∀f,BB f=U->SB f=U) (a7:∀f,aP SB f=U->IE P f) (hg:P.a.globals.size<=Gn/\P.a.info? big=bW):Lib P SB H zZ BB Gn:=by
 refine⟨⟨hg.2,λf hf β a A ha=>?_⟩,λf hf=>?_,λf hf=>?_,hg.1,λf hf=>?_,sub,λf hf=>(a7 f hf).bars⟩
 .have a6:=hf;obtain hf|hf:=hf
  rotate_left
  .exact ey (a7 f hf) a6 ha
  cases hb:BB f with
  |true =>
   obtain⟨h0,hs⟩|h0:=h f hb
   .obtain⟨fn,c,h1,h2,h3,_⟩:=FD h0;exact bT h1 (hs.trans h1) h2 h2 (by rw[h3];rfl) (by rw[h3];rfl) a6 ha
   .exact jN h0 ha
  |false =>
   obtain⟨fn,GY,h1,h2,_,h3,h4,h5,h6⟩:=stops f hf hb;exact bT h1 h2 h3 h4 h5 h6 a6 ha
 .obtain⟨h0,hs⟩|⟨fn,e,h1,h2,_,h4,_⟩:=h f hf
  .obtain⟨fn,c,h1,_,h3,h4⟩:=FD h0;exact⟨fn,c,h1,by rw[h3];rfl,h4,hs.trans h1⟩
  .refine⟨fn,_,h1,rfl,?_,h2⟩;have:fn.body=none:=by simpa using h4
   rw[this];rfl
 .cases hb:BB f with
  |true =>
   obtain⟨h0,hs⟩|⟨fn,e,h1,h2,_⟩:=h f hb
   .obtain⟨fn,c,h1,_,_,_⟩:=FD h0;exact⟨fn,fn,h1,hs.trans h1,rfl⟩
   .exact⟨fn,fn,h1,h2,rfl⟩
  |false =>
   obtain⟨fn,GY,h1,h2,h3,_⟩:=stops f hf hb;exact⟨fn,GY,h1,h2,h3⟩
 .cases hb:BB f with
  |true =>
   obtain⟨h0,hs⟩|⟨fn,e,h1,h2,_,_,_,_,_,h8⟩:=h f hb
   .obtain⟨fn,c,h1,_,h3,_⟩:=FD h0;exact⟨ba h1 (by rw[h3];rfl),ba (p:=P.b) (hs.trans h1) (by rw[h3];rfl)⟩
   .exact⟨dY h1 h8,dY (p:=P.b) h2 h8⟩
  |false =>
   obtain⟨fn,GY,h1,h2,_,_,_,h5,h6⟩:=stops f hf hb;exact⟨ba h1 h5,ba (p:=P.b) h2 h6⟩
end
open Go.ConcN
structure TI (Sh:Loc->Prop)(Wr Rd:Nat->Loc->Prop)(N:Nat)(t:Trace):Prop where
 quiet:Quiet Sh t
 own:∀k,k<N->∀l,Wr k l->Perm t k l
 rd:∀k,k<N->∀l,Rd k l->PermW t k l
 nr:∀said,¬Race said t
 gs:∀(i:Nat) (op:MemOp),t[i]?=D op->op.g<N
def il (t:Trace)(l:Loc):Prop:=∀i a,touchAt t i=D a->a.loc≠l
section
variable {Sh:Loc->Prop} {Wr Rd Wr' Rd':Nat->Loc->Prop} {N k:Nat} {t u:Trace}
def OkOp (Sh:Loc->Prop)(Wr Rd:Nat->Loc->Prop)(k:Nat)(op:MemOp):Prop :=
 op.g=k/\∀x,op.act.touch?=D x->x.loc.isMemory=J\/(Sh x.loc/\x.kind≠.plain/\(x.kind=.said->k=0))\/(¬Sh x.loc/\(x.write=U->Wr k x.loc)/\(x.write=J->Rd k x.loc))
def TI.app (h:TI Sh Wr Rd N t)(hk:k<N)(hu:∀op∈u,OkOp Sh Wr' Rd' k op)
  (others:∀j,j≠k->∀l,(Wr' j l->Wr j l)/\(Rd' j l->Rd j l)) (a8:∀l,Wr' k l->Wr k l\/il t l) (aA:∀l,Rd' k l->Rd k l\/il t l)
  (sh:∀j l,Sh l->¬Wr' j l/\¬Rd' j l) (mem:∀l,(Sh l\/∃j,Wr' j l\/Rd' j l)->l.isMemory=U) (apart:∀j,j≠k->j<N->∀l,(Wr' k l->¬Rd' j l/\¬Wr' j l)/\(Rd' k l->¬Wr' j l)):TI Sh Wr' Rd' N (t++u):=by
 have perm:∀l,Wr' k l->Perm t k l:=λl hl=>(a8 l hl).elim (h.own k hk l) λhf i a ha e=>AI e (hf i a ha);have a6:∀l,Rd' k l->PermW t k l:=λl hl=>(aA l hl).elim (h.rd k hk l) λhf i a ha e=>AI e (hf i a ha);refine⟨h.quiet.app λop hop x hx hs=>?_,λj hj l hl=>?_,λj hj l hl=>?_,λsaid=>?_,λi op hi=>?_⟩
 .obtain hm|⟨_,h1,h2⟩|⟨hn,_⟩:=(hu op hop).2 x hx
  .rw[mem _ (.inl hs)] at hm;cases hm
  .exact⟨h1,λe=>(hu op hop).1.trans (h2 e)⟩
  .exact AI hs hn
 .by_cases e:j=k
  .subst e;exact(perm l hl).app λop hop _ _ _=>(hu op hop).1
  .refine(h.own j hj l ((others j e l).1 hl)).app λop hop b hb e'=>?_;obtain hm|⟨hs,_⟩|⟨_,h1,h2⟩:=(hu op hop).2 b hb
   .rw[e',mem _ (.inr ⟨j,.inl hl⟩)] at hm;cases hm
   .exact AI hl (sh j l (e'▸hs)).1
   .cases hw:b.write with
    |true=>exact AI hl ((apart j e hj l).1 (e'▸h1 hw)).2
    |false=>exact AI hl ((apart j e hj l).2 (e'▸h2 hw))
 .by_cases e:j=k
  .subst e;exact(a6 l hl).app λop hop _ _ _ _=>(hu op hop).1
  .refine(h.rd j hj l ((others j e l).2 hl)).app λop hop b hb e' hw=>?_;obtain hm|⟨hs,_⟩|⟨_,h1,_⟩:=(hu op hop).2 b hb
   .rw[e',mem _ (.inr ⟨j,.inr hl⟩)] at hm;cases hm
   .exact AI hl (sh j l (e'▸hs)).2
   .exact AI hl ((apart j e hj l).1 (e'▸h1 hw)).1
 .refine cu (h.nr said) (λop hop=>(hu op hop).1) (λi a ha op hop b hb hc=>?_);obtain hm|⟨hs,h1,h2⟩|⟨_,h1,h2⟩:=(hu op hop).2 b hb
  .have:=hc.2.1;rw[hc.1,hm] at this;cases this
  .exact h.quiet.known hs h1 h2 i a ha hc
  .cases a7:b.write with
   |true=>exact perm b.loc (h1 a7) i a ha hc.1
   |false=>exact a6 b.loc (h2 a7) i a ha hc.1 (hc.2.2.1.resolve_right (by simp[a7]))
 .obtain⟨_,hi'⟩|⟨_,aB⟩:=bD hi
  .exact h.gs i op hi'
  .rw[(hu op aB).1];exact hk
def TI.mono (h:TI Sh Wr Rd N t)(hw:∀k l,Wr' k l->Wr k l)(hr:∀k l,Rd' k l->Rd k l):TI Sh Wr' Rd' N t :=
 ⟨h.quiet,λk hk l hl=>h.own k hk l (hw k l hl),λk hk l hl=>h.rd k hk l (hr k l hl),h.nr,h.gs⟩
def TI.fork (h:TI Sh Wr Rd N t){x y:MemOp}(hN:0<N)(hx:x.g=0/\x.act=.go N)(hy:y.g=N/\y.act=.start)(h0:Deaf t 0=0)
  (others:∀j,j<N->∀l,(Wr' j l->Wr j l)/\(Rd' j l->Rd j l)) (child:∀l,(Wr' N l->Wr 0 l)/\(Rd' N l->Rd 0 l)):TI Sh Wr' Rd' (N+1) (t++#[x,y]):=by
 have hk:Deaf t N=0:=Deaf_absent λi op hi e=>by have:=h.gs i op hi;omega
 have a6:∀op∈#[x,y],∀b,op.act.touch?=D b->False:=by
  intro op hop b hb;simp only[B8,AJ,AG,or_false] at hop;obtain rfl|rfl:=hop
  .rw[hx.2] at hb;cases hb
  .rw[hy.2] at hb;cases hb
 have old:∀ {i:Nat} {a:Touch},touchAt (t++#[x,y]) i=D a->touchAt t i=D a:=by
  intro i a ha;obtain⟨z,hz,hza⟩:=touch_of ha;obtain⟨_,hz'⟩|⟨_,a8⟩:=bD hz
  .rw[touchAt_of hz'];exact hza
  .exact(a6 z a8 a hza).elim
 refine⟨h.quiet.app λop hop b hb _=>(a6 op hop b hb).elim,λk aA l hl=>?_,λk aA l hl=>?_,λsaid=>?_,λi op hi=>?_⟩
 .obtain zY|aB:=Br k N
  .exact(h.own k zY l ((others k zY l).1 hl)).app λop hop b hb _=>(a6 op hop b hb).elim
  .obtain rfl:k=N:=by omega
   exact λi a ha e=>fork_knows hx hy h0 hk (h.own 0 hN l ((child l).1 hl) i a (old ha) e)
 .obtain zY|aB:=Br k N
  .exact(h.rd k zY l ((others k zY l).2 hl)).app λop hop b hb _ _=>(a6 op hop b hb).elim
  .obtain rfl:k=N:=by omega
   exact λi a ha e hw=>fork_knows hx hy h0 hk (h.rd 0 hN l ((child l).2 hl) i a (old ha) e hw)
 .have e:t++#[x,y]=(t++#[x])++#[y]:=by apply Array.ext';simp
  rw[e];refine cu (g:=N) (cu (g:=0) (h.nr said) (λop hop=>by simp at hop;rw[hop];exact hx.1) (λi a _ op hop b hb _=>(a6 op (by simp at hop ⊢;exact .inl hop) b hb).elim))
   (λop hop=>by simp at hop;rw[hop];exact hy.1) (λi a _ op hop b hb _=>(a6 op (by simp at hop ⊢;exact .inr hop) b hb).elim)
 .obtain⟨_,hi'⟩|⟨_,a7⟩:=bD hi
  .have:=h.gs i op hi';omega
  .simp only[B8,AJ,AG,or_false] at a7;obtain rfl|rfl:=a7
   .rw[hx.1];omega
   .rw[hy.1];omega
end
inductive One {α:Type}(R:α->α->Prop):List α->List α->Prop
 |head {x y:α} {l:List α}:R x y->One R (x::l) (y::l)
 |tail {a:α} {l l':List α}:One R l l'->One R (a::l) (a::l')
def One.cons {α:Type}{R:α->α->Prop}{a:α}(ha:Acc R a):∀ {l:List α},Acc (One R) l->Acc (One R) (a::l):=by
 induction ha with
 |intro a _ iha =>
  intro l hl
  induction hl with
  |intro l hl ihl =>
   refine .intro _ λm hm=>?_;cases hm with
   |head h=>exact iha _ h (.intro l hl)
   |tail h=>exact ihl _ h
def One.acc {α:Type}{R:α->α->Prop}:∀ {l:List α},(∀x∈l,Acc R x)->Acc (One R) l
 |[],_=>.intro _ λm hm=>by cases hm
 |a::l,h=>One.cons (h a (by simp)) (One.acc λx hx=>h x (by simp[hx]))
def One.set {α:Type}{R:α->α->Prop}:∀ {l:List α} {i:Nat} {x y:α},l[i]?=D y->R x y->One R (l.set i x) l
 |_::_,0,_,_,h,r=>by
  simp only[Bd,b8] at h;subst h;exact .head r
 |_::l,i+1,_,_,h,r=>by
  simp only[Be] at h;exact .tail (One.set h r)
def iC (P:bA)(l C:dr)(N:Act->bc->Prop)(a:Act)(w:bc):Prop :=
 ∀(b:bw) (k:List Item) (cs:List bw),∃a' w',N a' w'/\Steps P (lone (b.at a (.code C::k)) cs w) (lone (b.at a' (.code l::k)) cs w')
def i9 {P:bA}{l:dr}{N:Act->bc->Prop}{a:Act}{w:bc}(h:N a w):iC P l l N a w:=λ_ _ _=>⟨a,w,h,.refl _ _⟩
def j5 {P:bA}{l c r:dr}{N:Act->bc->Prop}{a:Act}{w:bc}(h:c.wp P (Exit.then (iC P l r N) λ_ _ _=>False) a w):iC P l (.seq c r) N a w:=λb k cs=>by
 obtain⟨e,a1,w1,hq,a6⟩:=h b (.code r::k) cs;cases e with
 |normal =>
  obtain⟨a2,w2,hn,hs⟩:=hq b k cs;exact⟨a2,w2,hn,.head step_seq (Steps.trans a6 hs)⟩
 |_=>exact hq.elim
def mM:∀(n:Nat) (V:bq),cw V<=n->∃v,(∀(S:Fy) (β:Em),S.hid.bl=U->DZ S β v V)/\∀(S:Fy) (β:Em),DZ S β v v:=by
 intro n
 induction n with
 |zero=>intro V h;cases V<;>simp at h
 |succ n ih =>
  intro V h;have un:oz V=U->∃v,(∀(S:Fy) (β:Em),S.hid.bl=U->DZ S β v V)/\∀(S:Fy) (β:Em),DZ S β v v:=λhb=>⟨hole,λS β h=>.blank (.inr h) hb,λS β=>.blank (.inl rfl) rfl⟩;cases V with
  |agg X =>
   have hx:∀i:_root_.Fin X.size,∃v,(∀(S:Fy) (β:Em),S.hid.bl=U->DZ S β v X[i])/\∀(S:Fy) (β:Em),DZ S β v v:=λi=>ih _ (by
    have:=cr X i.1 i.2;simp at h;simp only[Fin.getElem_fin]
    omega)
   refine⟨.agg (ez λi=>b9 (hx i)),λS β hb=>.agg (by simp) λi v V h1 h2=>?_,λS β=>.agg rfl λi v V h1 h2=>?_⟩
   .obtain⟨hi,rfl⟩:=Az.1 h2;obtain⟨_,rfl⟩:=Az.1 h1;rw[Dh];exact(bo (hx ⟨i,hi⟩)).1 S β hb
   .rw[h1] at h2;cases h2;obtain⟨hi,rfl⟩:=Az.1 h1;rw[Dh];exact(bo (hx _)).2 S β
  |tuple X =>
   have hx:∀i:_root_.Fin X.size,∃v,(∀(S:Fy) (β:Em),S.hid.bl=U->DZ S β v X[i])/\∀(S:Fy) (β:Em),DZ S β v v:=λi=>ih _ (by
    have:=cr X i.1 i.2;simp at h;simp only[Fin.getElem_fin]
    omega)
   refine⟨.tuple (ez λi=>b9 (hx i)),λS β hb=>.tuple (by simp) λi v V h1 h2=>?_,λS β=>.tuple rfl λi v V h1 h2=>?_⟩
   .obtain⟨hi,rfl⟩:=Az.1 h2;obtain⟨_,rfl⟩:=Az.1 h1;rw[Dh];exact(bo (hx ⟨i,hi⟩)).1 S β hb
   .rw[h1] at h2;cases h2;obtain⟨hi,rfl⟩:=Az.1 h1;rw[Dh];exact(bo (hx _)).2 S β
  |pointer a=>cases a with
   |none=>exact⟨.pointer bW,λ_ _ _=>.Hc,λ_ _=>.Hc⟩
   |some a=>exact un rfl
  |bool b=>exact⟨.bool b,λ_ _ _=>.bool b,λ_ _=>.bool b⟩
  |int k n=>exact⟨.int k n,λ_ _ _=>.int k n,λ_ _=>.int k n⟩
  |string s=>exact⟨.string s,λ_ _ _=>.string s,λ_ _=>.string s⟩
  |nilIface=>exact⟨.nilIface,λ_ _ _=>.nilIface,λ_ _=>.nilIface⟩
  |nilFunc=>exact⟨.nilFunc,λ_ _ _=>.nilFunc,λ_ _=>.nilFunc⟩
  |func f x c=>cases f with
   |method n=>exact⟨hm,λ_ _ h=>.ET (.inr h),λ_ _=>.ET (.inl rfl)⟩
   |_=>exact un rfl
  |_=>exact un rfl
noncomputable def gd (V:bq):Value:=b9 (mM (cw V) V (AA _))
def ja (V:bq):(∀(S:Fy) (β:Em),S.hid.bl=U->DZ S β (gd V) V)/\∀(S:Fy) (β:Em),DZ S β (gd V) (gd V):=bo (mM (cw V) V (AA _))
noncomputable def cI (k:Nat->Bool)(C:Array bq):Array Value:=C.mapIdx λi V=>if k i then V else gd V
def iD (k:Nat->Bool)(C:Array bq):(cI k C).size=C.size:=by simp[cI]
def fP (k:Nat->Bool)(C:Array bq)(i:Nat):(cI k C)[i]?=(C[i]?).map λV=>if k i then V else gd V:=by simp[cI]
def lO {k:Nat->Bool}{C:Array bq}{i:Nat}(h:k i=U):(cI k C)[i]?=C[i]?:=by
 rw[fP];simp[h]
def nS {S:Fy}{β:Em}{k:Nat->Bool}{C:Array bq}(hb:S.hid.bl=U)(h:∀i v,k i=U->C[i]?=D v->DZ S β v v):D8 S β (cI k C) C:=by
 refine⟨iD _ _,λi v V h1 h2=>?_⟩;rw[fP,h2] at h1;simp only[BW,b8] at h1;subst h1;split
 .exact h i V ‹_› h2
 .exact(ja V).1 S β hb
def mN {S:Fy}{β:Em}{k:Nat->Bool}{C:Array bq}(h:∀i v,k i=U->C[i]?=D v->DZ S β v v):D8 S β (cI k C) (cI k C):=by
 refine⟨rfl,λi v V h1 h2=>?_⟩;rw[h1] at h2;cases h2;rw[fP] at h1;cases hC:C[i]? with
 |none=>rw[hC] at h1;cases h1
 |some V =>
  rw[hC] at h1;simp only[BW,b8] at h1;subst h1;split
  .exact h i V ‹_› hC
  .exact(ja V).2 S β
noncomputable def iS (k:Nat->Bool):Obj->Obj
 |.cells C t f=>.cells (cI k C) t (0,max C.size f.2)
 |o=>o
noncomputable def bG (K:Nat->Bool)(k:Nat->Nat->Bool)(W:bc):World:={ W with heap:=W.heap.mapIdx λb o=>if K b then iS (k b) o else o }
section
variable {K:Nat->Bool} {k:Nat->Nat->Bool} {W:bc}
def nT:(bG K k W).heap.size=W.heap.size:=by simp[bG]
def j6 (b:Nat):(bG K k W).heap[b]?=(W.heap[b]?).map λo=>if K b then iS (k b) o else o:=by simp[bG]
def fk {b:Nat}(hb:K b=U){C:Array bq}{t:TypeId}{f:Nat×Nat}(h:W.heap[b]?=D (.cells C t f)):(bG K k W).heap[b]?=D (.cells (cI (k b) C) t (0,max C.size f.2)):=by
 rw[j6,h];simp[hb,iS]
def nU {b o:Nat}(h:K b=U->k b o=U):(bG K k W).cell? ⟨b,o,bW⟩=W.cell? ⟨b,o,bW⟩:=by
 unfold World.cell?;dsimp only;rw[j6];cases hb:K b with
 |false=>cases W.heap[b]?<;>simp
 |true =>
  cases hW:W.heap[b]? with
  |none=>rfl
  |some o' =>
   cases o' with
   |cells C t f=>simp[iS,lO (h hb)]
   |_=>rfl
def sB {b:Nat}(hb:K b=U){C:Array bq}{t:TypeId}{f:Nat×Nat}(h:W.heap[b]?=D (.cells C t f)):Ro (bG K k W) b :=
 ⟨_,_,_,fk hb h,λi hi=>by
  rw[iD] at hi
  exact⟨AU _,AC hi (Nat.le_max_left _ _)⟩⟩
def KR (S:Fy)(K:Nat->Bool)(k:Nat->Nat->Bool)(W:bc):Prop:=∀b,K b=U->∃C t f,W.heap[b]?=D (.cells C t f)/\∀i v,k b i=U->C[i]?=D v->DZ S (EK λb=>K b=U) v v
def nV {S:Fy}{Ck:dr->Prop}(hb:S.hid.bl=U)(hh:∀b,S.hid b=J)(h:KR S K k W):EI S Ck 0 (EK λb=>K b=U) (bG K k W) W:=by
 refine⟨⟨λh1 h2=>h1.2.symm.trans h2.2,λh1 h2=>h1.2.trans h2.2.symm,λ_=>⟨AU _,AU _⟩⟩,⟨AU _,AU _⟩,λb B hB _=>?_,λb B _ h=>?_,λb h=>?_,rfl⟩
 .obtain⟨hk,rfl⟩:=hB;obtain⟨C,t,f,h1,h2⟩:=h b hk;exact⟨_,_,fk hk h1,h1,.cells (nS hb h2) λi _ hi=>⟨AU _,AC hi (Nat.le_max_right _ _)⟩⟩
 .rw[hh] at h;cases h
 .rw[hh] at h;cases h
def L4 {S:Fy}{Ck:dr->Prop}(h:KR S K k W):∀b,K b=U->∃o,(bG K k W).heap[b]?=D o/\EW S Ck (EK λb=>K b=U) o o:=λb hk=>by
 obtain⟨C,t,f,h1,h2⟩:=h b hk;exact⟨_,fk hk h1,.cells (mN h2) λi h1 h2=>⟨h1,h2⟩⟩
end
def Hid.nb:Hid:=⟨λ_=>J,J,U⟩
end Go.Eu
