/- Parts of the proof. -/
import Derived.Test.YtjcgijifamcggaaGreatP22
import Derived.Test.YtjcgijifamcggaaGreatP00
import Derived.Test.YtjcgijifamcggaaGreatP21
import Derived.Test.YtjcgijifamcggaaGreatP01
set_option linter.all false
set_option maxHeartbeats 6400000
set_option maxRecDepth 1000000
namespace Go.Sq
open Go.RowKit Go.Bl Go.Proofs.YtjcgijifamcggaaGreat
variable {R:World->World->Prop} {ops:Array Oper} {Q:Exit->Act->World->Prop} {n m:Nat} {u:Nat->Value} {ds:List Deferred} {w w':World}
def opAt (ops:Array Oper)(i:Nat):Option (Option Tmp×Op×Option (Nat×Bool)×TypeId):=(ops[i]?).map λo=>(o.dst,o.op,o.guard,o.type)
def Ke {i:Nat}{d:Option Tmp}{op:Op}{g:Option (Nat×Bool)}{t:TypeId}(h:opAt ops i=some (d,op,g,t)):∃o,ops[i]?=some o/\o.dst=d/\o.op=op/\o.guard=g/\o.type=t:=by
 unfold opAt at h;cases ho:ops[i]? with
 |none=>rw[ho] at h;cases h
 |some o=>rw[ho] at h;cases h;exact⟨o,rfl,rfl,rfl,rfl,rfl⟩
def Lets (ops:Array Oper)(n:Nat)(u:Nat->Value):Option (Nat×Bool)->Prop
 |none=>True
 |some (j,b)=>∃d,(opAt ops j).bind (·.1)=some d/\d<n/\u d=.bool b
def kE {o:Oper}(h:Lets ops n u o.guard):Region.wanted o (yielded ops (T n u))=true:=by
 unfold Region.wanted;cases hg:o.guard with
 |none=>rfl
 |some q =>
  obtain⟨j,b⟩:=q;rw[hg] at h;obtain⟨d,h1,h2,h3⟩:=h;have e:(ops[j]?).bind (·.dst)=some d:=by
   unfold opAt at h1;cases ho:ops[j]? with
   |none=>rw[ho] at h1;cases h1
   |some o=>rw[ho] at h1;exact h1
  simp only[yielded,e,yp,kX h2,h3];simp
def jZ {i:Nat}{d:Option Tmp}{op:Op}{g:Option (Nat×Bool)}{t:TypeId}{V:Value->World->Prop}(h:opAt ops i=some (d,op,g,t))(hl:Lets ops n u g)
  (hw:∀o:Oper,o.dst=d->o.op=op->o.type=t->Oper.wp AG o ⟨T n u,ds⟩ w (λa' w'=>∃v,a'=⟨T n (Hs u d v),ds⟩/\R w w'/\V v w') Q):Done R AG ops Q n ds i V u w:=by
 obtain⟨o,h1,h2,h3,h4,h5⟩:=Ke h;unfold Done wpOp;simp only[h1];rw[if_pos (kE (by rw[h4];exact hl))];refine .inl ?_;have e:((some o:Option Oper).bind (·.dst))=d:=h2;rw[e];exact hw o h2 h3 h5
def SY (n:Nat)(u:Nat->Value)(ev:Operand->Value):Prop:=(∀t,t<n->ev (.tmp t)=u t)/\(∀c,ev (.const c)=c)/\∀f,ev (.func f)=.func (.func f) #[] #[]
def dZ:SY n u (Act.eval ⟨T n u,ds⟩):=⟨λ_ h=>wj h,λ_=>rfl,λ_=>rfl⟩
@[go_sem] def JN (op:Op)(t:TypeId):Oper:={ dst:=none,op:=op,type:=t,pos := "",after:=#[],guard:=none }
def fE {ev:Operand->Value}{o:Oper}:execOp ev o=execOp ev (JN o.op o.type):=by
 unfold execOp JN
 rfl
def SY.t {ev:Operand->Value}(h:SY n u ev)(t:Nat)(ht:t<n:=by decide):ev (.tmp t)=u t:=h.1 t ht
def eP {i:Nat}{d:Option Tmp}{op:Op}{g:Option (Nat×Bool)}{t:TypeId}{V:Value->World->Prop}(h:opAt ops i=some (d,op,g,t))(v:Value)(w':World)
  (hr:∀ev,SY n u ev->(execOp ev (JN op t)).run AG w=.ok (.value v) w') (hg:R w w') (hV:V v w') (hl:Lets ops n u g:=by trivial):Done R AG ops Q n ds i V u w:=by
 refine jZ h hl λo h1 h2 h3=>?_;unfold Oper.wp;rw[fE,h2,h3,hr _ dZ];rw[Oper.upon_value];refine⟨v,?_,hg,hV⟩;rw[h1];exact jB
def qJ {f:FuncId} {args:Array Operand} {ats:Array TypeId} {t:TypeId} {fn:Func} (hf:AG.funcs[f]?=some fn) {vals:Array Value} (ha:∀ev,SY n u ev->args.map ev=vals) (hn:(fn.name == "runtime.NumGoroutine")=false) (hb:fn.body.isNone=false) :
  (execOp (Act.eval ⟨T n u,ds⟩) (JN (.call { callee:=.value (.func f),args:=args,argTypes:=ats }) t)).run AG w=.ok (.enter f vals) w:=by
 unfold execOp JN;have e1:=ha _ (dZ (ds:=ds));have e2:=(dZ (n:=n) (u:=u) (ds:=ds)).2.2 f;have Vy:fn.name ≠ "runtime.NumGoroutine":=by simpa using hn
 have hb':fn.body≠none:=λe=>by rw[e] at hb;cases hb
 simp[resolve,e1,e2,Deferred.ofValue,invoke,callFunc,hf,Vy,hb']
def fi {i:Nat}{d:Option Tmp}{f:FuncId}{args:Array Operand}{ats:Array TypeId}{g:Option (Nat×Bool)}{t:TypeId}{V:Value->World->Prop}(h:opAt ops i=some (d,.call { callee:=.value (.func f),args:=args,argTypes:=ats },g,t)){fn:Func}(hf:AG.funcs[f]?=some fn)(vals:Array Value)
  (ha:∀ev,SY n u ev->args.map ev=vals) (hc:Calls AG f vals w λe w'=>∃v,e=.returned v/\R w w'/\V v w') (hl:Lets ops n u g:=by trivial) (hn:(fn.name == "runtime.NumGoroutine")=false:=by kernel_rfl) (hb:fn.body.isNone=false:=by kernel_rfl):Done R AG ops Q n ds i V u w:=by
 refine jZ h hl λo h1 h2 h3=>?_;unfold Oper.wp;rw[fE,h2,qJ hf ha hn hb,Oper.upon_enter];refine hc.mono ?_;rintro e w' ⟨v,rfl,h5,h6⟩;refine⟨v,?_,h5,h6⟩;rw[h1];exact jB
def aM [Rfl R]{i:Nat}{d:Option Tmp}{op:Op}{g:Option (Nat×Bool)}{t:TypeId}{x:Value}(h:opAt ops i=some (d,op,g,t))(hr:∀ev,SY n u ev->(execOp ev (JN op t)).run AG w=.ok (.value x) w)(hl:Lets ops n u g:=by trivial):Done R AG ops Q n ds i (λv _=>v=x) u w :=
 eP h x w hr (Rfl.refl _) rfl hl
def aU [Rfl R]{i:Nat}{d:Option Tmp}{t:Nat}{g:Option (Nat×Bool)}{ty:TypeId}{V:Value->World->Prop}(h:opAt ops i=some (d,.move (.tmp t),g,ty))(hV:V (u t) w)(hl:Lets ops n u g:=by trivial)(ht:t<n:=by decide):Done R AG ops Q n ds i V u w :=
 eP h (u t) w (λev he=>by show(pure _:Sem Next).run _ _=_;rw[he.1 t ht];rfl) (Rfl.refl _) hV hl
def mO [Rfl R]{i:Nat}{d:Option Tmp}{t:Nat}{g:Option (Nat×Bool)}{ty:TypeId}{V:Value->World->Prop}(h:opAt ops i=some (d,.assign (.tmp t),g,ty))(hV:V (u t) w)(hl:Lets ops n u g:=by trivial)(ht:t<n:=by decide):Done R AG ops Q n ds i V u w :=
 eP h (u t) w (λev he=>by show(pure _:Sem Next).run _ _=_;rw[he.1 t ht];rfl) (Rfl.refl _) hV hl
def ib [Rfl R]{i j:Nat}{d:Option Tmp}{t:Nat}{g:Option (Nat×Bool)}{ty:TypeId}{V:Value->World->Prop}(h:opAt ops i=some (d,.extract (.tmp t) j,g,ty)){X:Array Value}(e:u t=.tuple X){x:Value}(hx:X[j]?=some x)(hV:V x w)(hl:Lets ops n u g:=by trivial)(ht:t<n:=by decide):Done R AG ops Q n ds i V u w :=
 eP h x w (λev he=>by
  have e1:=(he.1 t ht).trans e;unfold execOp JN
  simp[e1,Instr.extract,hx]) (Rfl.refl _) hV hl
end Go.Sq
namespace Go.Proofs.YtjcgijifamcggaaGreat
open Go.RowKit Go.Sq Go.Bl
variable {R:World->World->Prop} {ops:Array Oper} {Q:Exit->Act->World->Prop} {n m:Nat} {u:Nat->Value} {ds:List Deferred} {w w':World}
end Go.Proofs.YtjcgijifamcggaaGreat
namespace Go.Sq
open Go.RowKit Go.Bl Go.Proofs.YtjcgijifamcggaaGreat
variable {R:World->World->Prop} {ops:Array Oper} {Q:Exit->Act->World->Prop} {n m:Nat} {ds:List Deferred}
def GP (R:Nat->Prop):Nat->Prop
 |0=>True
 |m+1=>GP R m/\R m
def GP.at_ {R:Nat->Prop}:∀ {m:Nat},GP R m->∀i,i<m->R i
 |0,_,i,h=>absurd h (zg _)
 |m+1,h,i,hi=>by
  by_cases e:i=m
  .subst e;exact h.2
  .exact h.1.at_ i (by omega)
def GP.of {R:Nat->Prop}:∀ {m:Nat},(∀i,i<m->R i)->GP R m
 |0,_=>trivial
 |m+1,h=>⟨GP.of λi hi=>h i (by omega),h m (by omega)⟩
def Oy (R:World->World->Prop)(V:Value->World->Prop):Prop:=∀v w w',R w w'->V v w->V v w'
instance {J:World->Prop} {c i:Nat} [Rfl R]:Rfl (Till R J c i):=⟨λw=>⟨Rfl.refl w,λ_ h=>h⟩⟩
def al (x:Value):Oy R λv _=>v=x:=λ_ _ _ _ h=>h
def Vl (l:List (Value->World->Prop))(i:Nat):Value->World->Prop:=l[i]?.getD λ_ _=>True
def Ju (R:World->World->Prop):List (Value->World->Prop)->Prop
 |[]=>True
 |V::l=>Oy R V/\Ju R l
def Ju.at_:∀ {l:List (Value->World->Prop)},Ju R l->∀i,Oy R (Vl l i)
 |[],_,i=>λ_ _ _ _ _=>by unfold Vl;simp
 |V::l,h,0=>h.1
 |V::l,h,i+1=>h.2.at_ i
def Fr (ops:Array Oper)(u u0:Nat->Value):Prop:=∀t,IX ops t=true->u t=u0 t
def Fr.at_ {u u0:Nat->Value}(h:Fr ops u u0)(t:Nat)(e:IX ops t=true:=by kernel_rfl):u t=u0 t:=h t e
def XA (ops:Array Oper)(V:Nat->Value->World->Prop)(i:Nat)(u:Nat->Value)(w:World):Prop:=∀j∈Ka .any ops i,∀o d,ops[j]?=some o->o.dst=some d->V j (u d) w
def XA.at_ {V:Nat->Value->World->Prop}{i:Nat}{u:Nat->Value}{w:World}(h:XA ops V i u w)(j d:Nat)(h1:(Ka .any ops i).contains j=true:=by kernel_rfl)(h2:(opAt ops j).bind (·.1)=some d:=by rfl):V j (u d) w:=by
 unfold opAt at h2;cases ho:ops[j]? with
 |none=>rw[ho] at h2;cases h2
 |some o=>rw[ho] at h2;exact h j (List.contains_iff_mem.1 h1) o d ho h2
def Late (ops:Array Oper)(i:Nat)(u u0:Nat->Value):Prop:=∀j o t,i∈Ka .any ops j->ops[j]?=some o->o.dst=some t->u t=u0 t
def Ends (ops:Array Oper)(V:Nat->Value->World->Prop)(m:Nat)(u:Nat->Value)(w:World):Prop:=∀i,i<m->∀o d,ops[i]?=some o->o.dst=some d->V i (u d) w
def Ends.at_ {V:Nat->Value->World->Prop}{u:Nat->Value}{w:World}(h:Ends ops V m u w)(j d:Nat)(h1:j<m:=by decide)(h2:(opAt ops j).bind (·.1)=some d:=by rfl):V j (u d) w:=by
 unfold opAt at h2;cases ho:ops[j]? with
 |none=>rw[ho] at h2;cases h2
 |some o=>rw[ho] at h2;exact h j h1 o d ho h2
def mixed:AG.follows .mixedOrders=true:=by kernel_rfl
def Done.imp {i:Nat}{V V':Value->World->Prop}{u:Nat->Value}{w:World}(hV:∀v w',V v w'->V' v w')(h:Done R AG ops Q n ds i V u w):Done R AG ops Q n ds i V' u w :=
 wpOp_mono (λ_ _ ⟨v,h1,h2,h3⟩=>⟨v,h1,h2,hV _ _ h3⟩) h
def sOk (ops:Array Oper)(m s dS:Nat):Bool:=decide (m<=s)||(List.range ops.size).all λi=>(ops[i]?).bind (·.dst) != some dS||(Ka .any ops s).contains i
def mc [Goes R](c:Nat)(J:World->Prop)(s dS:Nat)(S:(Nat->Value)->World->Prop)(hS1:∀u w w',R w w'->S u w->S u w')(hS2:∀u w d v,d≠dS->S u w->S (IW u d v) w)(Xz:sOk ops m s dS=true){id:Nat}{u0:Nat->Value}{w0:World}(hJ0:J w0.drew)(X:Kd .any ops m=true)(l:List (Value->World->Prop))(Ht:Ju R l)
  (step:∀i,i<m->∀u w,R w0 w->Fr ops u u0->Late ops i u u0->XA ops (Vl l) i u w->(i=c->J w)->Done (Till R J c i) AG ops Q n ds i (λv w'=>Vl l i v w'/\(i=s->S (Hs u ((ops[i]?).bind (·.dst)) v) w')) u w)
  (fin:∀u w,R w0 w->Fr ops u u0->Ends ops (Vl l) m u w->(s<m->S u w)->wpOps AG ops Q (List.range' m (ops.size-m)) ⟨T n u,ds⟩ w):(Code.region id ops true).wp AG Q ⟨T n u0,ds⟩ w0:=by
 refine wp_region_any mixed ?_;have MN:∀i,i<ops.size->(Array.replicate ops.size false).getD i true=false:=λi hi=>by
  rw[yq,yr,if_pos hi];rfl
 have hms:m<=ops.size:=by
  rcases(Sc (m:=m) X).last with h|h
  .omega
  .have:=h.size;omega
 refine uE c J s dS S hS1 hS2 (Sc X) (λhsm i hi hd=>?_) (Vl l) (λi v w w' hg h=>Ht.at_ i v w w' hg h) step fin ops.size _ u0 _ (by simp) ?_ (Goes.drew w0) (λ_ _=>rfl) (λi hi hl=>?_) (λi _ hi=>MN i hi) (λi hi hl=>?_) (λ_=>hJ0) λhsm hl=>?_
 .unfold sOk at Xz;rw[xV,yu] at Xz;rcases Xz with h|h
  .have:=of_decide_eq_true h;omega
  .have:=h i (yb.2 hi);rw[hd] at this;simpa using this
 .rw[List.filter_eq_self.2 λi hi=>by rw[MN i (yb.1 hi)];rfl,List.length_range]
 .rw[MN i (by omega)] at hl;cases hl
 .rw[MN i (by omega)] at hl;cases hl
 .rw[MN s (by omega)] at hl;cases hl
def sJ [Goes R](c:Nat)(J:World->Prop){id:Nat}{u0:Nat->Value}{w0:World}(hJ0:J w0.drew)(X:Kd .any ops m=true)(l:List (Value->World->Prop))(Ht:Ju R l)
  (step:GP (λi=>∀u w,R w0 w->Fr ops u u0->Late ops i u u0->XA ops (Vl l) i u w->(i=c->J w)->Done (Till R J c i) AG ops Q n ds i (Vl l i) u w) m)
  (fin:∀u w,R w0 w->Fr ops u u0->Ends ops (Vl l) m u w->wpOps AG ops Q (List.range' m (ops.size-m)) ⟨T n u,ds⟩ w):(Code.region id ops true).wp AG Q ⟨T n u0,ds⟩ w0 :=
 mc c J m 0 (λ_ _=>True) (λ_ _ _ _ h=>h) (λ_ _ _ _ _ h=>h) (by unfold sOk;simp) hJ0 X l Ht (λi hi u w h1 h2 h3 h4 h5=>(step.at_ i hi u w h1 h2 h3 h4 h5).imp λ_ _ h=>⟨h,λ_=>trivial⟩) λu w h1 h2 h3 _=>fin u w h1 h2 h3
def sK [Goes R](s dS:Nat)(S:(Nat->Value)->World->Prop)(hS1:∀u w w',R w w'->S u w->S u w')(hS2:∀u w d v,d≠dS->S u w->S (IW u d v) w)(Xz:sOk ops m s dS=true){id:Nat}{u0:Nat->Value}{w0:World}(X:Kd .any ops m=true)(l:List (Value->World->Prop))(Ht:Ju R l)
  (ab0:∀u w,R w0 w->Fr ops u u0->Late ops s u u0->XA ops (Vl l) s u w->Done R AG ops Q n ds s (λv w'=>Vl l s v w'/\S (Hs u ((ops[s]?).bind (·.dst)) v) w') u w)
  (step:GP (λi=>i≠s->∀u w,R w0 w->Fr ops u u0->Late ops i u u0->XA ops (Vl l) i u w->Done R AG ops Q n ds i (Vl l i) u w) m)
  (fin:∀u w,R w0 w->Fr ops u u0->Ends ops (Vl l) m u w->(s<m->S u w)->wpOps AG ops Q (List.range' m (ops.size-m)) ⟨T n u,ds⟩ w):(Code.region id ops true).wp AG Q ⟨T n u0,ds⟩ w0 :=
 mc 0 (λ_=>True) s dS S hS1 hS2 Xz trivial X l Ht (λi hi u w h1 h2 h3 h4 _=>Done.weak (R:=R) (λ_ h=>⟨h,λ_ _=>trivial⟩) (by
  by_cases e:i=s
  .subst e;exact(ab0 u w h1 h2 h3 h4).imp λ_ _ h=>⟨h.1,λ_=>h.2⟩
  .exact(step.at_ i hi e u w h1 h2 h3 h4).imp λ_ _ h=>⟨h,λe'=>absurd e' e⟩)) fin
def nE [Goes R]{id:Nat}{u0:Nat->Value}{w0:World}(X:Kd .any ops m=true)(l:List (Value->World->Prop))(Ht:Ju R l)
  (step:GP (λi=>∀u w,R w0 w->Fr ops u u0->Late ops i u u0->XA ops (Vl l) i u w->Done R AG ops Q n ds i (Vl l i) u w) m)
  (fin:∀u w,R w0 w->Fr ops u u0->Ends ops (Vl l) m u w->wpOps AG ops Q (List.range' m (ops.size-m)) ⟨T n u,ds⟩ w):(Code.region id ops true).wp AG Q ⟨T n u0,ds⟩ w0 :=
 sJ 0 (λ_=>True) trivial X l Ht (GP.of λi hi u w h1 h2 h3 h4 _=>(step.at_ i hi u w h1 h2 h3 h4).weak λ_ h=>⟨h,λ_ _=>trivial⟩) fin
section
variable {ops:Array Oper} {Q:Exit->Act->World->Prop} {n m:Nat} {u:Nat->Value} {ds:List Deferred} {w w':World}
def tk {i:Nat}{d:Option Tmp}{op:Op}{g:Option (Nat×Bool)}{t:TypeId}{K:Act->World->Prop}(h:opAt ops i=some (d,op,g,t))(hl:Lets ops n u g)
  (hw:∀o:Oper,o.dst=d->o.op=op->o.type=t->Oper.wp AG o ⟨T n u,ds⟩ w K Q):wpOp AG ops Q i K ⟨T n u,ds⟩ w:=by
 obtain⟨o,h1,h2,h3,h4,h5⟩:=Ke h;unfold wpOp;simp only[h1];rw[if_pos (kE (by rw[h4];exact hl))];exact .inl (hw o h2 h3 h5)
def qK {i:Nat}{d:Option Tmp}{op:Op}{g:Option (Nat×Bool)}{t:TypeId}{K:Act->World->Prop}(h:opAt ops i=some (d,op,g,t))(v:Value)(w':World)
  (hr:∀ev,SY n u ev->(execOp ev (JN op t)).run AG w=.ok (.value v) w') (hK:K ⟨T n (Hs u d v),ds⟩ w') (hl:Lets ops n u g:=by trivial):wpOp AG ops Q i K ⟨T n u,ds⟩ w:=by
 refine tk h hl λo h1 h2 h3=>?_;unfold Oper.wp;rw[fE,h2,h3,hr _ dZ,Oper.upon_value,h1,jB];exact hK
def uF {i:Nat}{d:Option Tmp}{op:Op}{g:Option (Nat×Bool)}{t:TypeId}{K:Act->World->Prop}(h:opAt ops i=some (d,op,g,t))(w':World)
  (hr:∀ev,SY n u ev->(execOp ev (JN op t)).run AG w=.ok .skip w') (hK:K ⟨T n (Hs u d undef),ds⟩ w') (hl:Lets ops n u g:=by trivial):wpOp AG ops Q i K ⟨T n u,ds⟩ w:=by
 refine tk h hl λo h1 h2 h3=>?_;unfold Oper.wp;rw[fE,h2,h3,hr _ dZ,Oper.upon_skip,h1,jB];exact hK
end
end Go.Sq
namespace Go.Proofs.YtjcgijifamcggaaGreat
open Go.RowKit Go.Sq
def uG {W:World}{o:Oper}{a:Act}{K:Act->World->Prop}{Q:Exit->Act->World->Prop}(s x:Operand)(ho:o.op=.call { callee:=.builtin .append,args:=#[s,x],argTypes:=#[25,25] })(UJ:o.type=25)
  (base e7:Nat) (hs:a.eval s=.slice (some ⟨e7,0,none⟩) 0 0) (he:W.heap[e7]?=some (.cells #[] 58 (0,0))) (hb7:base<=e7) (ad:Addr) (b oo c:Nat) (l:List BH) (had:l≠[]->ad=⟨b,oo,none⟩) (hx:a.eval x=.slice (some ad) l.length c) (hc:∀(i:Nat) (h:BH),l[i]?=some h->∃B,L3 W B b (oo+i*4) h) (hl:l.length<=20) (hbase:base<=W.heap.size)
  (h:∀v' w',w'.ownsRow base 58 4 v' l.length (Fo W b oo l.length)->W.grownBy w' (some e7)->W.drawn<=w'.drawn->K (a.put o.dst v') w'):Oper.wp AG o a W K Q:=by
 obtain⟨i0,hi,hz0,hz1,hz2⟩:=info_parts Ai;have hcell:∀j,j<l.length*4->∃u,W.cell? ⟨b,oo+j,none⟩=some u/\u.oneCell'=true:=λj hj=>by
  obtain⟨B,h1,h2,h3,A,cc,h4,_⟩:=hc (j / 4) _ (xq (show j / 4<l.length by omega));have:j % 4=0\/j % 4=1\/j % 4=2\/j % 4=3:=by omega
  rcases this with e|e|e|e
  .rw[show oo+j=oo+j / 4*4 by omega];exact⟨_,h1,rfl⟩
  .rw[show oo+j=oo+j / 4*4+1 by omega];exact⟨_,h2,rfl⟩
  .rw[show oo+j=oo+j / 4*4+2 by omega];exact⟨_,h3,rfl⟩
  .rw[show oo+j=oo+j / 4*4+3 by omega];exact⟨_,h4,rfl⟩
 have hown:W.ownsRow base 58 4 (.slice (some ⟨e7,0,none⟩) 0 0) 0 []:=⟨rfl,.inr ⟨e7,0,#[],rfl,hb7,he,by omega,by unfold maxLen;omega,rfl,rfl⟩⟩
 obtain⟨v',w',hr,h2,h3,h4⟩:=run_append_own (P:=AG) W base 25 25 58 i0 _ 4 48 Sq.underlying25 hi hz0 hz1 hz2 rfl (by decide) _ 0 [] hown ad l.length c (Fo W b oo l.length) (FQ _ _ _ _) (λj u hj=>by
  have hlt:j<l.length*4:=by have:=(xS.1 hj).1;rwa [FQ] at this
  rw[ff hlt] at hj;obtain⟨v,hv,_⟩:=hcell j hlt;rw[hv] at hj;rw[had (λe=>by rw[e] at hlt;simp at hlt),Addr.add_lit,hv];exact hj) (λu hu=>by
  obtain⟨j,hj,rfl⟩:=xU.1 hu;obtain⟨v,hv,h1⟩:=hcell j (yb.1 hj)
  rw[hv];exact h1) (by unfold maxLen;omega) (by omega) hbase
 have hd:=Go.Bl.Cy AG (Builtin.append_ #[25,25] 25 #[.slice (some ⟨e7,0,none⟩) 0 0,.slice (some ad) l.length c]) W #[];rw[Sem.runT_fst,hr] at hd;unfold Oper.wp execOp;simp only[ho,resolve,invoke,builtin,Sem.run_bind,Sem.run_pure,Result.andThen_ok,zr,yE,yH,hs,hx,hr,UJ];exact h v' w' (by simpa using h2) h3 hd
def CV {w:World}{base size n:Nat}{e:TypeId}{v:Value}{xs:List Value}(h:w.ownsRow base e size v n xs):∃A c,v=.slice A n c:=by
 rcases h.2 with⟨rfl,rfl⟩|⟨g,c,_,rfl,_⟩
 .exact⟨_,_,rfl⟩
 .exact⟨_,_,rfl⟩
structure CC (w:World)(B q:Nat)(c:AW)(vN vH:Value)(xs:List Value)(k:Nat)(W:World):Prop where
 gr:Gr w W
 bd:w.heap.size=q/\q+2<=W.heap.size
 qo:W.heap[q]?=some (.cells #[vN,vH] 27 (0,0))
 ro:W.heap[q+1]?=some (.cells #[.slice none 0 0,.slice none 0 0] 27 (0,0))
 AK:W.ownsRow (q+2) 3 1 vN c.AK.length (c.AK.map (Value.int .i64))
 own:W.ownsRow (q+2) 58 4 vH c.AH.length xs
 G3:∀i h,c.AH[i]?=some h->∃y,(∀j,j<4->xs[i*4+j]?=(dw h y)[j]?)/\if i<k then W.ownsRow (q+2) 3 1 y h.off.length (h.off.map (Value.int .i64)) else ∃A cc,y=.slice A h.off.length cc/\RI W B A h.off
section
variable {w W W':World} {B q:Nat} {c:AW} {vN vH:Value} {xs:List Value} {k:Nat}
def CC.keep (h:CC w B q c vN vH xs k W)(hB:B<=w.heap.size)(hg:Gr W W'):CC w B q c vN vH xs k W':=by
 obtain⟨b1,b2⟩:=h.bd;have ok:∀ {e:TypeId} {sz n:Nat} {y:Value} {zs:List Value},W.ownsRow (q+2) e sz y n zs->W'.ownsRow (q+2) e sz y n zs:=λho=>Bb ho λg _ hl=>hg.below.block g hl;refine⟨h.gr.trans hg,⟨b1,by have:=hg.size;omega⟩,(hg.below.block q (by omega)).trans h.qo,(hg.below.block (q+1) (by omega)).trans h.ro,ok h.AK,ok h.own,λi x hx=>?_⟩;obtain⟨y,h1,h2⟩:=h.G3 i x hx;refine⟨y,h1,?_⟩;split
 .rename_i hi;rw[if_pos hi] at h2;exact ok h2
 .rename_i hi;rw[if_neg hi] at h2;obtain⟨A,cc,e,hr⟩:=h2;exact⟨A,cc,e,hr.gr (by omega) hg⟩
def CC.start {Wx:World}{b oo:Nat}{u0 u1:Value}(hg:Gr w W)(hB:B<=w.heap.size)(hq:w.heap.size=q)(hz:q+2<=W.heap.size)(h0:W.heap[q]?=some (.cells #[u0,u1] 27 (0,0)))(h1:W.heap[q+1]?=some (.cells #[.slice none 0 0,.slice none 0 0] 27 (0,0)))
  (hn:W.ownsRow (q+2) 3 1 vN c.AK.length (c.AK.map (Value.int .i64))) (ho:W.ownsRow (q+2) 58 4 vH c.AH.length (Fo Wx b oo c.AH.length)) (hx:Gr w Wx) (hc:∀(i:Nat) (h:BH),c.AH[i]?=some h->b<B/\L3 w B b (oo+i*4) h) :
  CC w B q c vN vH (Fo Wx b oo c.AH.length) 0 ((W.setCell ⟨q,0,none⟩ vN).setCell ⟨q,1,none⟩ vH):=by
 have hs:∀x,x≠q->((W.setCell ⟨q,0,none⟩ vN).setCell ⟨q,1,none⟩ vH).heap[x]?=W.heap[x]?:=λx Hy=>(xE _ _ _ _ Hy).trans (xE _ _ _ _ Hy);refine⟨(hg.setCell (by show _<=q;omega) _).setCell (by show _<=q;omega) _,⟨hq,by simpa [World.setCell] using hz⟩,?_,(hs _ (by omega)).trans h1,Bb hn λg Dd _=>hs g (by have:=(hn.lt g Dd).1;omega),Bb ho λg Dd _=>hs g (by have:=(ho.lt g Dd).1;omega),λi x hi=>?_⟩
 .rw[Bn (Bn h0)];rfl
 .obtain⟨hb,a1,a2,a3,A,cc,a4,hr⟩:=hc i x hi;have YA:i<c.AH.length:=(xS.1 hi).1;have hw:∀o,Wx.cell? ⟨b,o,none⟩=w.cell? ⟨b,o,none⟩:=λo=>hx.cell (by show b<_;omega)
  refine⟨.slice A x.off.length cc,λj hj=>?_,by
   rw[if_neg (by omega)]
   exact⟨A,cc,rfl,hr.keep λb' o' hb'=>(xN (hs b' (by omega))).trans (hg.cell (by show b'<_;omega))⟩⟩
  rw[ff (by omega),hw];rcases(show j=0\/j=1\/j=2\/j=3 by omega) with rfl|rfl|rfl|rfl
  .rw[Nat.add_zero,a1];rfl
  .rw[<-zu,a2];rfl
  .rw[<-zu,a3];rfl
  .rw[<-zu,a4];rfl
def CC.bare (hg:Gr w W)(hq:w.heap.size=q)(hz:q+2<=W.heap.size)(h0:W.heap[q]?=some (.cells #[vN,vH] 27 (0,0)))(h1:W.heap[q+1]?=some (.cells #[.slice none 0 0,.slice none 0 0] 27 (0,0)))
  (hn:W.ownsRow (q+2) 3 1 vN c.AK.length (c.AK.map (Value.int .i64))) (he:c.AH=[]) {e7:Nat} (hv:vH=.slice (some ⟨e7,0,none⟩) 0 0) (h7:q+2<=e7) (hc7:W.heap[e7]?=some (.cells #[] 58 (0,0))):CC w B q c vN vH [] 0 W:=by
 subst hv
 exact⟨hg,⟨hq,hz⟩,h0,h1,hn,by
  rw[he]
  exact⟨rfl,.inr ⟨e7,0,#[],rfl,h7,hc7,by simp,by unfold maxLen;simp,rfl,rfl⟩⟩,λi x hx=>by rw[he] at hx;simp at hx⟩
def AE {u0 u1 vN:Value}(hB:w.heap.size=q)(hg:Gr w W)(hz:q+2<=W.heap.size)(h0:W.heap[q]?=some (.cells #[u0,u1] 27 (0,0)))(h1:W.heap[q+1]?=some (.cells #[.slice none 0 0,.slice none 0 0] 27 (0,0)))(hn:W.ownsRow (q+2) 3 1 vN c.AK.length (c.AK.map (Value.int .i64)))(he:c.AH=[]) :
  CC w B q c vN (.slice (some ⟨W.heap.size,0,none⟩) 0 0) [] 0 (((W.setCell ⟨q,0,none⟩ vN).setCell ⟨q,1,none⟩ (.slice (some ⟨W.heap.size,0,none⟩) 0 0)).alloc (.cells #[] 58 (0,0))):=by
 have hsz:∀v,((W.setCell ⟨q,0,none⟩ vN).setCell ⟨q,1,none⟩ v).heap.size=W.heap.size:=λv=>by simp[World.setCell]
 have hs:∀v x,x<W.heap.size->x≠q->(((W.setCell ⟨q,0,none⟩ vN).setCell ⟨q,1,none⟩ v).alloc (.cells #[] 58 (0,0))).heap[x]?=W.heap[x]?:=λv x hl Hy=>(heap_alloc_old _ _ (by rw[hsz];exact hl)).trans ((xE _ _ _ _ Hy).trans (xE _ _ _ _ Hy));refine CC.bare (((hg.setCell (by show _<=q;omega) _).setCell (by show _<=q;omega) _).alloc _) hB (by simp[World.setCell];omega) ?_ ((hs _ _ (by omega) (by omega)).trans h1) (Bb hn λg Dd hl=>hs _ g hl (by have:=(hn.lt g Dd).1;omega)) he (e7:=W.heap.size) rfl hz ?_
 .refine(heap_alloc_old _ _ (by rw[hsz];omega)).trans ?_;rw[Bn (Bn h0)];rfl
 .exact(congrArg (λi=>(((W.setCell ⟨q,0,none⟩ vN).setCell ⟨q,1,none⟩ (.slice (some ⟨W.heap.size,0,none⟩) 0 0)).alloc (.cells #[] 58 (0,0))).heap[i]?) (hsz _).symm).trans (heap_alloc_new _ _)
def AF {u0 u1 vN:Value}{e7:Nat}(hB:w.heap.size=q)(hg:Gr w W)(hz:q+2<=W.heap.size)(h0:W.heap[q]?=some (.cells #[u0,u1] 27 (0,0)))(h1:W.heap[q+1]?=some (.cells #[.slice none 0 0,.slice none 0 0] 27 (0,0)))(hn:W.ownsRow (q+2) 3 1 vN c.AK.length (c.AK.map (Value.int .i64)))(he:c.AH=[])(h7:q+2<=e7)(hc7:W.heap[e7]?=some (.cells #[] 58 (0,0))) :
  CC w B q c vN (.slice (some ⟨e7,0,none⟩) 0 0) [] 0 ((W.setCell ⟨q,0,none⟩ vN).setCell ⟨q,1,none⟩ (.slice (some ⟨e7,0,none⟩) 0 0)):=by
 have hs:∀v x,x≠q->((W.setCell ⟨q,0,none⟩ vN).setCell ⟨q,1,none⟩ v).heap[x]?=W.heap[x]?:=λv x Hy=>(xE _ _ _ _ Hy).trans (xE _ _ _ _ Hy);refine CC.bare ((hg.setCell (by show _<=q;omega) _).setCell (by show _<=q;omega) _) hB (by simp[World.setCell];omega) ?_ ((hs _ _ (by omega)).trans h1) (Bb hn λg Dd hl=>hs _ g (by have:=(hn.lt g Dd).1;omega)) he (e7:=e7) rfl h7 ((hs _ _ (by omega)).trans hc7)
 rw[Bn (Bn h0)];rfl
def CC.put {g hc:Nat}{y':Value}(h:CC w B q c vN (.slice (some ⟨g,0,none⟩) c.AH.length hc) xs k W)(hB:B<=w.heap.size)(hk:k<c.AH.length)(hy:W.ownsRow (q+2) 3 1 y' (c.h k).off.length ((c.h k).off.map (Value.int .i64))) :
  CC w B q c vN (.slice (some ⟨g,0,none⟩) c.AH.length hc) (xs.set (k*4+3) y') (k+1) (W.setCell ⟨g,k*4+3,none⟩ y'):=by
 obtain⟨b1,b2⟩:=h.bd;have hgb:=h.own.lt g rfl;have hlen:xs.length=c.AH.length*4:=h.own.1;have hs:∀b,b≠g->(W.setCell ⟨g,k*4+3,none⟩ y').heap[b]?=W.heap[b]?:=λb hb=>xE _ _ _ _ hb;have ok:∀ {sz n:Nat} {y:Value} {zs:List Value},W.ownsRow (q+2) 3 sz y n zs->(W.setCell ⟨g,k*4+3,none⟩ y').ownsRow (q+2) 3 sz y n zs:=λho=>Bb ho λb hb _=>hs b λe=>cx (by decide) ho h.own hb (by rw[e];rfl);refine⟨h.gr.setCell (by show _<=g;omega) _,⟨b1,by simpa [World.setCell] using b2⟩,(hs q (by omega)).trans h.qo,(hs (q+1) (by omega)).trans h.ro,ok h.AK,(h.own.stored (k*4+3) y').1,λi x hx=>?_⟩
 obtain⟨y,h1,h2⟩:=h.G3 i x hx;by_cases e:i=k
 .subst e;have ex:x=c.h i:=by
   unfold AW.h;rw[hx];rfl
  refine⟨y',λj hj=>?_,by rw[if_pos (by omega),ex];exact ok hy⟩;by_cases e3:j=3
  .subst e3;rw[List.getElem?_set_self (by omega)];rfl
  .rw[zq (by omega),h1 j hj];rcases(show j=0\/j=1\/j=2 by omega) with rfl|rfl|rfl<;>rfl
 .refine⟨y,λj hj=>by rw[zq (by omega)];exact h1 j hj,?_⟩;by_cases hi:i<k
  .rw[if_pos hi] at h2;rw[if_pos (by omega)];exact ok h2
  .rw[if_neg hi] at h2;rw[if_neg (by omega)];obtain⟨A,cc,e4,hr⟩:=h2;exact⟨A,cc,e4,hr.keep λb o hb=>xN (hs b (by omega))⟩
end
noncomputable def me:Code:=Tryz.f29.body.getD .skip
noncomputable def MO:Code:=Ca 2 me
structure DJ (w:World)(base:Nat)(c:AW)(vN vH:Value)(xs:List Value):Prop where
 AK:w.ownsRow base 3 1 vN c.AK.length (c.AK.map (Value.int .i64))
 own:w.ownsRow base 58 4 vH c.AH.length xs
 G3:∀(i:Nat) (h:BH),c.AH[i]?=some h->∃y,(∀j,j<4->xs[i*4+j]?=(dw h y)[j]?)/\w.ownsRow base 3 1 y h.off.length (h.off.map (Value.int .i64))
def j4 (c:AW)(w:World)(e:Ending)(w':World):Prop :=
 Gr w w'/\∃KU hA' LV hc' xs,e=.returned (Bp KU hA' c LV hc')/\DJ w' w.heap.size c (.slice KU c.AK.length LV) (.slice hA' c.AH.length hc') xs
def DJ.rik {w:World}{base nc:Nat}{c:AW}{nA:Option Addr}{vH:Value}{xs:List Value}(h:DJ w base c (.slice nA c.AK.length nc) vH xs):F8 w (λb=>base<=b/\b<w.heap.size) nA c.AK:=by
 obtain⟨A,k,e,hr⟩:=EU h.AK;injection e with e1 _ _
 subst e1;exact hr
def DJ.hsk {w:World}{base hc:Nat}{c:AW}{hA:Option Addr}{vN:Value}{xs:List Value}(h:DJ w base c vN (.slice hA c.AH.length hc) xs):Ed w (λb=>base<=b/\b<w.heap.size) hA c.AH:=λhn=>by
 obtain⟨g,cap,e,hgb,IJ⟩:=h.own.form (List.length_pos_iff.2 hn);injection e with e1 _ _
 subst e1;refine⟨g,0,rfl,⟨hgb,IJ⟩,λi x hx=>?_⟩;have YA:i<c.AH.length:=(xS.1 hx).1;obtain⟨y,hy,XB⟩:=h.G3 i x hx;obtain⟨A',c',rfl,hr⟩:=EU XB;have Pb:xs.length=c.AH.length*4:=h.own.1;have at_:∀j z,j<4->(dw x (.slice A' x.off.length c'))[j]?=some z->w.cell? ⟨g,0+i*4+j,none⟩=some z:=λj z hj4 hz=>by
  rw[show 0+i*4+j=i*4+j by omega,h.own.cellAt (i*4+j) (by omega),hy j hj4];exact hz
 exact⟨at_ 0 _ (by omega) rfl,at_ 1 _ (by omega) rfl,at_ 2 _ (by omega) rfl,A',c',at_ 3 _ (by omega) rfl,hr⟩
def pc {w W:World}{B OY hc9:Nat}{c:AW}{OZ Sg:Option Addr}{xs:List Value}(h:CC w B w.heap.size c (.slice OZ c.AK.length OY) (.slice Sg c.AH.length hc9) xs c.AH.length W)(hB:B<=w.heap.size)(v0 v1:Value) :
  j4 c w (.returned (Bp OZ Sg c OY hc9)) ((W.setCell ⟨w.heap.size+1,0,none⟩ v0).setCell ⟨w.heap.size+1,1,none⟩ v1):=by
 have hs:∀b,b≠w.heap.size+1->((W.setCell ⟨w.heap.size+1,0,none⟩ v0).setCell ⟨w.heap.size+1,1,none⟩ v1).heap[b]?=W.heap[b]?:=λb hb=>(xE _ _ _ _ hb).trans (xE _ _ _ _ hb);have ok:∀ {e:TypeId} {s n:Nat} {v:Value} {zs:List Value},W.ownsRow (w.heap.size+2) e s v n zs->((W.setCell ⟨w.heap.size+1,0,none⟩ v0).setCell ⟨w.heap.size+1,1,none⟩ v1).ownsRow w.heap.size e s v n zs:=λho=>B1 (Bb ho λg hg _=>hs g (by have:=(ho.lt g hg).1;omega)) (by omega)
 refine⟨(h.gr.setCell (by show _<=w.heap.size+1;omega) _).setCell (by show _<=w.heap.size+1;omega) _,_,_,_,_,xs,rfl,ok h.AK,ok h.own,λi x hx=>?_⟩;obtain⟨y,hy,XB⟩:=h.G3 i x hx;rw[if_pos (xS.1 hx).1] at XB;exact⟨y,hy,ok XB⟩
noncomputable def Si:Array Oper:=match Cx (match Cx (Es (match(match Es (Cx MO) with|.block _ b=>b|c=>c) with|.loop b=>b|c=>c)) with|.block _ b=>b|c=>c) with|.region _ o _=>o|_=>#[]
def ab1 (w0:World)(nq:Nat)(L:List Value)(v:Value)(w:World):Prop:=∃A k,v=.slice A nq k/\w.ownsRow w0.heap.size 3 1 v nq L
def qL (w0:World)(nq:Nat)(L:List Value):Oy Gr (ab1 w0 nq L):=λv w w' hg ⟨A,k,e,h⟩=>⟨A,k,e,Bb h λb _ hb=>hg.below.block b hb⟩
def sL {A:Option Addr}{q g k n nq cc hc9:Nat}{L:List Value}{W:World}{u:Nat->Value}{Q:Exit->Act->World->Prop}(h1:u 1=.pointer (some ⟨q,0,none⟩))(h3:u 3=.int .i64 (k:Nat))(hk:k<n)
  (HC:Hid (∀V,Gr W V->(V.cell? ⟨q,1,none⟩=some (.slice (some ⟨g,0,none⟩) n hc9)/\V.cell? ⟨g,k*4+3,none⟩=some (.slice A nq cc)/\V.frozen? ⟨g,k*4+3,none⟩=false)/\q<V.heap.size/\g<V.heap.size))
  (HQ:Hid (∀V,Gr W V->Calls AG 57 #[.slice A nq cc] V λe w'=>∃v,e=.returned v/\w'.ownsRow V.heap.size 3 1 v nq L/\Gr V w'))
  (hK:∀W5 u' A5 k5,Gr W W5->W5.ownsRow W.heap.size 3 1 (.slice A5 nq k5) nq L->(∀t,t≠30->t≠31->IX Si t=true->u' t=u t)->Q .normal ⟨T 33 u',[]⟩ (W5.setCell ⟨g,k*4+3,none⟩ (.slice A5 nq k5))):(Code.region 5 Si true).wp AG Q ⟨T 33 u,[]⟩ W:=by
 refine nE (R:=Gr) (m:=10) (by kernel_rfl) [λv _=>v=.pointer (some ⟨q,1,none⟩),λv _=>v=.slice (some ⟨g,0,none⟩) n hc9,λv _=>v=.int .i64 (k:Nat),λv _=>v=.pointer (some ⟨q,1,none⟩),λv _=>v=.slice (some ⟨g,0,none⟩) n hc9,λv _=>v=.int .i64 (k:Nat),λv _=>v=.pointer (some ⟨g,k*4,none⟩),λv _=>v=.pointer (some ⟨g,k*4+3,none⟩),λv _=>v=.slice A nq cc,ab1 W nq L] ⟨al _,al _,al _,al _,al _,al _,al _,al _,al _,qL _ _ _,trivial⟩ ⟨⟨⟨⟨⟨⟨⟨⟨⟨⟨trivial,?_⟩,?_⟩,?_⟩,?_⟩,?_⟩,?_⟩,?_⟩,?_⟩,?_⟩,?_⟩ λu w hg hf hv=>?_
 .intro u w hg hf hl hd;refine aM (op:=.fieldAddr 27 (.tmp 1) 1) (t:=0) rfl (λev he=>?_);have e1:=(he.t 1).trans ((hf.at_ 1).trans h1);clear hg hf hl hd he;go_simp
 .intro u w hg hf hl hd;refine aM (op:=.load 25 (.tmp 20)) (t:=25) rfl (λev he=>?_);have UH:=(he.t 20).trans (hd.at_ 0 20);obtain⟨⟨c0,c1,f1⟩,cl,rl⟩:=HC.out w hg;clear hg hf hl hd he;go_simp
 .intro u w hg hf hl hd;exact aU rfl ((hf.at_ 3).trans h3)
 .intro u w hg hf hl hd;refine aM (op:=.fieldAddr 27 (.tmp 1) 1) (t:=0) rfl (λev he=>?_);have e1:=(he.t 1).trans ((hf.at_ 1).trans h1);clear hg hf hl hd he;go_simp
 .intro u w hg hf hl hd;refine aM (op:=.load 25 (.tmp 23)) (t:=25) rfl (λev he=>?_);have e23:=(he.t 23).trans (hd.at_ 3 23);obtain⟨⟨c0,c1,f1⟩,cl,rl⟩:=HC.out w hg;clear hg hf hl hd he;go_simp
 .intro u w hg hf hl hd;exact aU rfl ((hf.at_ 3).trans h3)
 .intro u w hg hf hl hd;refine aM (op:=.indexAddr 25 (.tmp 24) (.tmp 25)) (t:=0) rfl (λev he=>?_);have e24:=(he.t 24).trans (hd.at_ 4 24);have e25:=(he.t 25).trans (hd.at_ 5 25);clear hg hf hl hd he;go_simp
  all_goals (intro h9;omega)
 .intro u w hg hf hl hd;refine aM (op:=.fieldAddr 58 (.tmp 26) 3) (t:=0) rfl (λev he=>?_);have e26:=(he.t 26).trans (hd.at_ 6 26);clear hg hf hl hd he;go_simp
 .intro u w hg hf hl hd;refine aM (op:=.load 22 (.tmp 27)) (t:=22) rfl (λev he=>?_);have e27:=(he.t 27).trans (hd.at_ 7 27);obtain⟨⟨c0,c1,f1⟩,cl,rl⟩:=HC.out w hg;clear hg hf hl hd he;go_simp
 .intro u w hg hf hl hd;refine fi rfl Sq.func57 #[.slice A nq cc] (λev he=>by simp[((he.t 28).trans (hd.at_ 8 28))]) ((HQ.out w hg).mono λe w' h=>?_)
  .obtain⟨v,rfl,h1,h2⟩:=h;obtain⟨A5,k5,rfl⟩:=CV h1;exact⟨_,rfl,h2,A5,k5,rfl,B1 h1 hg.size⟩
 .obtain⟨A5,k5,e29,ho⟩:=hv.at_ 9 29;have SN:=hv.at_ 1 21;have e22:=hv.at_ 2 22;have er:List.range' 10 (Si.size-10)=[10,11,12]:=by kernel_rfl
  obtain⟨⟨c0,c1,f1⟩,cl,rl⟩:=HC.out w hg;rw[er,wpOps_cons];refine qK (op:=.indexAddr 25 (.tmp 21) (.tmp 22)) (t:=0) rfl (.pointer (some ⟨g,k*4,none⟩)) w (λev he=>?_) ?_
  .have e1:=(he.t 21).trans SN;have e2:=(he.t 22).trans e22;clear hv hf hg he hK ho;go_simp
   all_goals (intro h9;omega)
  .rw[wpOps_cons];refine qK (op:=.fieldAddr 58 (.tmp 30) 3) (t:=0) rfl (.pointer (some ⟨g,k*4+3,none⟩)) w (λev he=>?_) ?_
   .have e1:=(he.t 30).trans (fh ..);clear hv hf hg he hK ho;go_simp
   .rw[wpOps_cons];refine uF (op:=.store 22 (.tmp 31) (.tmp 29)) (t:=0) rfl (w.setCell ⟨g,k*4+3,none⟩ (.slice A5 nq k5)) (λev he=>?_) ?_
    .have e1:=(he.t 31).trans (fh ..);have e2:=(he.t 29).trans ((cX (by decide)).trans ((cX (by decide)).trans e29));clear hv hf hg he hK ho;go_simp
    .show Q .normal _ _;exact hK _ _ A5 k5 hg (e29▸ho) λt h30 h31 ht=>(cX h31).trans ((cX h30).trans (hf t ht))
def fU {w W:World}{B OY hc9:Nat}{c:AW}{OZ Sg:Option Addr}{xs0:List Value}{u:Nat->Value}(h1:u 1=.pointer (some ⟨w.heap.size,0,none⟩))(h2:u 2=.pointer (some ⟨w.heap.size+1,0,none⟩))(hB:B<=w.heap.size)(hl2:c.AH.length<=20)(C7:∀h∈c.AH,h.off.length<=20)
  (h:CC w B w.heap.size c (.slice OZ c.AK.length OY) (.slice Sg c.AH.length hc9) xs0 0 W):MO.wp AG (bodyPost AG Tryz.f29 (j4 c w)) ⟨T 33 u,[]⟩ W:=by
 have HXS:=xl h;have P3:=xl C7;clear h C7;have ez:MO=Ca 2 me:=rfl;simp only[Ca,me,Tryz.f29,Option.getD_some,Es] at ez;rw[ez];clear ez;unfold T;simp only[List.range,List.range.loop,yE,yH,h1,h2];go_wp2;go_loopw [3] (λi wr=>∃k:Nat,k<=c.AH.length/\i=.int .i64 k/\∃xs,CC w B w.heap.size c (.slice OZ c.AK.length OY) (.slice Sg c.AH.length hc9) xs k wr) (λi _=>c.AH.length-(intOf i).toNat)
 case atStart=>exact⟨0,by omega,rfl,_,HXS.out⟩
 case round =>
  obtain⟨k,hk,rfl,xs,hcc⟩:=hrel;have Yw:=xl hcc;obtain⟨s0,s1⟩:=cell_of_heap hcc.qo 1;obtain⟨s2,_⟩:=cell_of_heap hcc.qo 0;simp only[yd,List.getElem?_cons_succ,List.getElem?_cons_zero] at s0 s2;have hzz:=hcc.bd;have hql:w.heap.size<wr.heap.size:=by omega
  by_cases hlt:k<c.AH.length
  .obtain⟨g,cap,hv,hgb,IJ⟩:=hcc.own.form (by omega);injection hv with hv1 _ hv2
   subst hv1 hv2;have hce:c.AH[k]?=some (c.h k):=by unfold AW.h;rw[xq hlt];rfl
   obtain⟨y,hy,XB⟩:=hcc.G3 k _ hce;rw[if_neg (by omega)] at XB;obtain⟨A,cc,rfl,Ea⟩:=XB;have Pb:xs.length=c.AH.length*4:=hcc.own.1;have t0:wr.cell? ⟨g,k*4+3,none⟩=some (.slice A (c.h k).off.length cc):=by
    rw[hcc.own.cellAt (k*4+3) (by omega)];exact hy 3 (by omega)
   have Z1:=P3.out _ (c.GI hlt);have GG:=xl (λW (hg:Gr wr W)=>jA A cc (c.h k).off W B (Ea.gr (by omega) hg) (by have:=hg.size;omega) (by omega));have HKP:Hid (∀W,Gr wr W->CC w B w.heap.size c (.slice OZ c.AK.length OY) (.slice (some ⟨g,0,none⟩) c.AH.length hc9) xs k W):=xl λW hg=>hcc.keep hB hg;have SV:Hid (∀W,Gr wr W->((W.cell? ⟨w.heap.size,1,none⟩=some (.slice (some ⟨g,0,none⟩) c.AH.length hc9)/\W.frozen? ⟨w.heap.size,1,none⟩=false)/\W.cell? ⟨g,k*4+3,none⟩=some (.slice A (c.h k).off.length cc)/\W.frozen? ⟨g,k*4+3,none⟩=false)/\w.heap.size<W.heap.size/\g<W.heap.size):=xl λW hg=>by
    have h:=HKP.out W hg;obtain⟨s0,s1⟩:=cell_of_heap h.qo 1;exact⟨⟨⟨s0,s1⟩,(hg.cell (p:=⟨g,k*4+3,none⟩) IJ).trans t0,h.own.frozenAt (k*4+3)⟩,by have:=hg.size;omega,by have:=hg.size;omega⟩
   have f0:=hcc.own.frozenAt (k*4+3);have F2:=xl (Gr.refl wr);have hne1:¬g=w.heap.size:=by omega
   have hne2:¬w.heap.size=g:=by omega
   generalize hnq:(c.h k).off.length=nq at t0 GG SV Z1;replace hnq:=xl hnq;clear hcc hy Ea Pb s2;go_wp2;rename_i hKK _;refine jY 33 rfl λu5 hu=>?_;refine sL (q:=w.heap.size) (g:=g) (k:=k) (n:=c.AH.length) (hc9:=hc9) (hu 1) (hu 3) hlt (xl λV hV=>⟨⟨(SV.out V hV).1.1.1,(SV.out V hV).1.2⟩,(SV.out V hV).2⟩) GG λW5 u6 A5 k5 G8 ho5 DX=>?_;have e0:=(DX 0 (by decide) (by decide) (by kernel_rfl)).trans (hu 0)
   have e1:=(DX 1 (by decide) (by decide) (by kernel_rfl)).trans (hu 1);have e2:=(DX 2 (by decide) (by decide) (by kernel_rfl)).trans (hu 2);have e3:=(DX 3 (by decide) (by decide) (by kernel_rfl)).trans (hu 3);have e4:=(DX 4 (by decide) (by decide) (by kernel_rfl)).trans (hu 4);have e5:=(DX 5 (by decide) (by decide) (by kernel_rfl)).trans (hu 5);have e6:=(DX 6 (by decide) (by decide) (by kernel_rfl)).trans (hu 6)
   have e7:=(DX 7 (by decide) (by decide) (by kernel_rfl)).trans (hu 7);have e8:=(DX 8 (by decide) (by decide) (by kernel_rfl)).trans (hu 8);have e9:=(DX 9 (by decide) (by decide) (by kernel_rfl)).trans (hu 9);have PT:=(DX 10 (by decide) (by decide) (by kernel_rfl)).trans (hu 10);have e11:=(DX 11 (by decide) (by decide) (by kernel_rfl)).trans (hu 11);have Ua:=(DX 12 (by decide) (by decide) (by kernel_rfl)).trans (hu 12)
   have Ub:=(DX 13 (by decide) (by decide) (by kernel_rfl)).trans (hu 13);have Uc:=(DX 14 (by decide) (by decide) (by kernel_rfl)).trans (hu 14);have Nu:=(DX 15 (by decide) (by decide) (by kernel_rfl)).trans (hu 15);have QG:=(DX 16 (by decide) (by decide) (by kernel_rfl)).trans (hu 16);have Qg:=(DX 17 (by decide) (by decide) (by kernel_rfl)).trans (hu 17);have Ud:=(DX 18 (by decide) (by decide) (by kernel_rfl)).trans (hu 18)
   have Qk:=(DX 19 (by decide) (by decide) (by kernel_rfl)).trans (hu 19);have Ue:=(DX 32 (by decide) (by decide) (by kernel_rfl)).trans (hu 32);clear hu DX;dsimp only[List.getElem?_cons_succ,List.getElem?_cons_zero,Option.getD_some] at e0 e1 e2 e3 e4 e5 e6 e7 e8 e9 PT e11 Ua Ub Uc Nu QG Qg Ud Qk Ue;have agZ:=xl ((HKP.out W5 G8).put hB hlt (y':=.slice A5 nq k5) (by rw[hnq.out];exact B1 ho5 (by omega)))
   refine hKK _ _ ?_;unfold T;simp only[List.range,List.range.loop,yE,yH,e0,e1,e2,e3,e4,e5,e6,e7,e8,e9,PT,e11,Ua,Ub,Uc,Nu,QG,Qg,Ud,Qk,Ue];clear SV GG HKP ho5 G8 e0 e1 e2 e3 e4 e5 e6 e7 e8 e9 PT e11 Ua Ub Uc Nu QG Qg Ud Qk Ue;go_wp2;go_roundw
   case rel=>exact⟨k+1,by omega,by go_num,_,agZ.out⟩
   case measure=>simp[intOf];omega
  .have Ik:k=c.AH.length:=by omega
   subst Ik;obtain⟨t0,t1⟩:=cell_of_heap hcc.ro 0;obtain⟨t2,_⟩:=cell_of_heap hcc.ro 1;simp only[yd,List.getElem?_cons_succ,List.getElem?_cons_zero] at t0 t2;obtain⟨_,t3⟩:=cell_of_heap hcc.ro 1;have hql2:w.heap.size+1<wr.heap.size:=by omega
   have XC:=xl (λv0 v1=>pc hcc hB v0 v1);clear hcc;go_wp2;have z0:((wr.setCell ⟨w.heap.size+1,0,none⟩ (.slice OZ c.AK.length OY)).setCell ⟨w.heap.size+1,1,none⟩ (.slice Sg c.AH.length hc9)).cell? ⟨w.heap.size+1,0,none⟩=some (.slice OZ c.AK.length OY):=by
    rw[xB _ _ _ _ (by simp)];exact xJ _ _ _ t0
   have z1:((wr.setCell ⟨w.heap.size+1,0,none⟩ (.slice OZ c.AK.length OY)).setCell ⟨w.heap.size+1,1,none⟩ (.slice Sg c.AH.length hc9)).cell? ⟨w.heap.size+1,1,none⟩=some (.slice Sg c.AH.length hc9) :=
    xJ _ _ _ ((xB _ _ _ _ (by simp)).trans t2)
   have hend:=XC.out (.slice OZ c.AK.length OY) (.slice Sg c.AH.length hc9);generalize (wr.setCell ⟨w.heap.size+1,0,none⟩ (.slice OZ c.AK.length OY)).setCell ⟨w.heap.size+1,1,none⟩ (.slice Sg c.AH.length hc9)=W8 at z0 z1 hend;refine bodyPost_ret (v:=.agg #[.slice OZ c.AK.length OY,.slice Sg c.AH.length hc9]) (by simp[results,Tryz.results29,go_sem,z0,z1]) rfl hend
def mP (nA hA:Option Addr)(nc hc:Nat)(c:AW)(w:World)(B:Nat)(hB:B<=w.heap.size)(hn:RI w B nA c.AK)(hh:Dr w B hA c.AH)(IZ:c.AK.length<=20)(hl2:c.AH.length<=20)(C7:∀h∈c.AH,h.off.length<=20) :
  Calls AG 29 #[Bp nA hA c nc hc] w (j4 c w):=by
 unfold Bp;obtain⟨W0,hW0⟩:∃W0:World,W0=(w.alloc (.cells #[.slice nA c.AK.length nc,.slice hA c.AH.length hc] 27)).alloc (.cells #[.slice none 0 0,.slice none 0 0] 27):=⟨_,rfl⟩;have hg0:Gr w W0:=hW0▸((Gr.refl w).alloc _).alloc _;have hz0:W0.heap.size=w.heap.size+2:=by rw[hW0];simp
 have Ds:=xl hg0;have HH:=xl hh;have HN:=xl hn;have P3:=xl C7;have HC:Hid (∀W,Gr W0 W->(W.cell? ⟨w.heap.size,0,none⟩=some (.slice nA c.AK.length nc)/\W.frozen? ⟨w.heap.size,0,none⟩=false/\W.cell? ⟨w.heap.size,1,none⟩=some (.slice hA c.AH.length hc)/\W.frozen? ⟨w.heap.size,1,none⟩=false)/\w.heap.size<W.heap.size):=xl λW hg=>by
  have:=hg.size;have e1:∀i,i<2->W.cell? ⟨w.heap.size,i,none⟩=(#[Value.slice nA c.AK.length nc,.slice hA c.AH.length hc])[i]?:=λi hi=>by
   rw[hg.cell (by show w.heap.size<_;omega),hW0,xO _ _ _ (by simp),xu _ _ _ _ rfl]
  have e2:∀i,i<2->W.frozen? ⟨w.heap.size,i,none⟩=false:=λi hi=>by
   rw[hg.frozen (by show w.heap.size<_;omega),hW0,yS _ _ _ (by simp),yi _ _ _ _ rfl]
  exact⟨⟨e1 0 (by omega),e2 0 (by omega),e1 1 (by omega),e2 1 (by omega)⟩,by omega⟩
 have HW:=xl hW0;have Xf:=xl (λW (hg:Gr W0 W)=>jA nA nc c.AK W B (HN.out.gr hB (Ds.out.trans hg)) (by have:=hg.size;omega) (by omega));clear hg0 hh hn C7 hW0;go_enter Sq.func29,Tryz.ntmps29;go_wp2;rw[<-HW.out];obtain⟨⟨a0,a1,a2,a3⟩,a4⟩:=HC.out W0 (.refl _);have F2:=xl (Gr.refl W0)
 have Oz:Hid (W0.heap[w.heap.size]?=some (.cells #[.slice nA c.AK.length nc,.slice hA c.AH.length hc] 27 (0,0))/\W0.heap[w.heap.size+1]?=some (.cells #[.slice none 0 0,.slice none 0 0] 27 (0,0))):=xl (by
  rw[HW.out]
  exact⟨(heap_alloc_old _ _ (by simp)).trans (heap_alloc_new _ _),ap _ _ (by simp)⟩)
 cases hA with
 |none =>
  have he:c.AH=[]:=by
   cases hl:c.AH with
   |nil=>rfl
   |cons x l=>obtain⟨_,_,e,_⟩:=HH.out (by rw[hl];simp);cases e
  have hel:c.AH.length=0:=by rw[he];rfl
  have HEL:=xl hel;have HE:=xl he;rw[hel] at a2 HC ⊢;have IY:=xl (λW (hg:Gr W0 W)=>Ds.out.trans hg);clear he hel hl2;go_region_law (refine dK (by rfl) ?_;go_simp;go_at_call 57;refine(Xf.out _ (by first|exact F2.out|exact F2.out.drew|exact F2.out.alloc _|exact F2.out.drew.alloc _)).mono ?_;rintro e w3 ⟨v3,rfl,Ci,hg3⟩;obtain⟨A3,k3,rfl⟩:=CV Ci;have HGK:=xl hg3;have G6:=xl Ci;have DW:=xl ((show Gr W0 _ by first|exact F2.out|exact F2.out.drew|exact F2.out.alloc _|exact F2.out.drew.alloc _).trans hg3);clear a0 a1 a2 a3 a4 Ci hg3;obtain⟨⟨a0,a1,a2,a3⟩,a4⟩:=HC.out w3 DW.out;replace F2:=DW;clear DW;dsimp only)
  all_goals
   have SL:Gr w w3:=Ds.out.trans F2.out;have hs3:=F2.out.size;have hO3:w3.ownsRow (w.heap.size+2) 3 1 (.slice A3 c.AK.length k3) c.AK.length (c.AK.map (Value.int .i64)):=B1 G6.out (by first|(show _<=W0.heap.size;omega)|(show _<=(W0.alloc _).heap.size;simp;omega));have ZH:w3.heap[w.heap.size]?=_:=(F2.out.below.block _ (by omega)).trans Oz.out.1;have TK:w3.heap[w.heap.size+1]?=_:=(F2.out.below.block _ (by omega)).trans Oz.out.2
   refine(‹∀(a:Act) (w:World),Code.wp AG _ _ a w->_›) _ _ ?_;refine jY 33 rfl λu hu=>?_
   first
    |exact fU (hu 1) (hu 2) hB (by rw[HEL.out];omega) P3.out (hc9:=0) (by rw[HEL.out];exact AE rfl SL (by omega) ZH TK hO3 HE.out)
    |exact fU (hu 1) (hu 2) hB (by rw[HEL.out];omega) P3.out (hc9:=0) (by rw[HEL.out];exact AF rfl SL (by omega) ZH TK hO3 HE.out (by omega) ((HGK.out.below.block _ (by simp[hz0])).trans (ap _ _ (by simp[hz0]))))
 |some ad =>
  obtain⟨b,oo,had,hat⟩:∃b oo,(c.AH≠[]->ad=⟨b,oo,none⟩)/\∀(i:Nat) (h:BH),c.AH[i]?=some h->b<B/\L3 w B b (oo+i*4) h:=by
   by_cases he:c.AH=[]
   .exact⟨0,0,λh=>absurd he h,λi h hi=>by rw[he] at hi;simp at hi⟩
   .obtain⟨b,oo,e,hb,hc⟩:=HH.out he;exact⟨b,oo,λ_=>by injection e,λi h hi=>⟨hb,hc i h hi⟩⟩
  have HAD:=xl had;have TU:=xl hat;have IY:=xl (λW (hg:Gr W0 W)=>Ds.out.trans hg);clear had hat
  go_region_law (first
   |(refine dK (by rfl) (uG _ _ (by rfl) (by rfl) (w.heap.size+2) _ (by rfl) (by first|exact heap_alloc_new _ _|exact ap _ _ (by simp[hz0])|exact(HGK.out.below.block _ (by simp[hz0])).trans (ap _ _ (by simp[hz0]))) (by have:=F2.out.size;first|omega|(simp;omega)) ad b oo hc c.AH HAD.out (by rfl) (λi h hi=>⟨B,(TU.out i h hi).2.keep (TU.out i h hi).1 λb o hb=>(IY.out _ (by first|exact F2.out|exact F2.out.drew|exact F2.out.alloc _|exact F2.out.drew.alloc _)).cell (xx hb hB)⟩) (by omega) (by have:=F2.out.size;first|omega|(simp;omega)) ?_);intro v9 w9 Jv KI hd9;obtain⟨A9,k9,rfl⟩:=CV Jv;have hB9:∀x,x<w.heap.size+2->w9.heap[x]?=W0.heap[x]?:=(by intro x hx;refine(KI.block x (by have:=F2.out.size;first|omega|(simp;omega)) (by have:=F2.out.size;intro e;injection e with e;first|omega|(simp at e;omega))).trans ((show Gr W0 _ by first|exact F2.out|exact F2.out.drew|exact F2.out.alloc _|exact F2.out.drew.alloc _).below.block x (by omega)));have HB9:=xl hB9;have hz9:w.heap.size+2<=w9.heap.size:=(by have h1:=F2.out.size;have h2:=KI.size;first|omega|(simp at h2;omega));obtain⟨r0,r1⟩:=cell_of_heap ((hB9 w.heap.size (by omega)).trans Oz.out.1) 0;obtain⟨r2,r3⟩:=cell_of_heap ((hB9 w.heap.size (by omega)).trans Oz.out.1) 1;have r4:w.heap.size<w9.heap.size:=(by omega);have HO9:=xl Jv;have YH:=xl KI;have HD9:=xl hd9;clear Jv KI hd9 hB9)
   |(refine dK (by rfl) ?_;go_simp;go_at_call 57;refine(Xf.out _ (by first|exact F2.out|exact F2.out.drew|exact F2.out.alloc _|exact F2.out.drew.alloc _)).mono ?_;rintro e w3 ⟨v3,rfl,Ci,hg3⟩;obtain⟨A3,k3,rfl⟩:=CV Ci;have HGK:=xl hg3;have G6:=xl Ci;have DW:=xl ((show Gr W0 _ by first|exact F2.out|exact F2.out.drew|exact F2.out.alloc _|exact F2.out.drew.alloc _).trans hg3);clear a0 a1 a2 a3 a4 Ci hg3;obtain⟨⟨a0,a1,a2,a3⟩,a4⟩:=HC.out w3 DW.out;replace F2:=DW;clear DW;dsimp only))
  all_goals
   have SL:Gr w w3:=Ds.out.trans F2.out;have hs3:=F2.out.size;have hG9:Gr w w9:=by
    first
     |exact(SL.alloc _).grown YH.out HD9.out (λk hk=>by injection hk with hk;omega)
     |exact SL.grown YH.out HD9.out (λk hk=>by injection hk with hk;omega)
   have hbase:∀g,(Value.slice A3 c.AK.length k3).ownBlock=some g->w.heap.size+2<=g/\g<w3.heap.size/\some g≠some w3.heap.size/\w9.heap[g]?=w3.heap[g]?:=λg hg=>by
    obtain⟨q1,q2⟩:=G6.out.lt g hg;have Ut:W0.heap.size<=g:=xI (by first|exact xp _|(show W0.heap.size<=(W0.alloc _).heap.size;simp)) q1;refine⟨by omega,q2,λe=>by injection e with e;omega,?_⟩
    first
     |exact(YH.out.block g (by simp;omega) (λe=>by injection e with e;omega)).trans (heap_alloc_old _ _ q2)
     | exact YH.out.block g q2 (fun e => by
       injection e with e
       have q3:(W0.alloc (.cells #[] 58)).heap.size<=g:=q1
       simp at q3;omega)
   have hO3:w9.ownsRow (w.heap.size+2) 3 1 (.slice A3 c.AK.length k3) c.AK.length (c.AK.map (Value.int .i64)):=Bb (B1 G6.out (by first|(show _<=W0.heap.size;omega)|(show _<=(W0.alloc _).heap.size;simp;omega))) λg hg _=>(hbase g hg).2.2.2;have hCC:=xl (CC.start (B:=B) (q:=w.heap.size) hG9 hB rfl hz9 ((HB9.out w.heap.size (by omega)).trans Oz.out.1) ((HB9.out (w.heap.size+1) (by omega)).trans Oz.out.2) hO3 HO9.out (by first|exact SL|exact SL.alloc _) TU.out)
   obtain⟨W9,hW9⟩:∃W9,W9=(w9.setCell ⟨w.heap.size,0,none⟩ (.slice A3 c.AK.length k3)).setCell ⟨w.heap.size,1,none⟩ (.slice A9 c.AH.length k9):=⟨_,rfl⟩;rw[<-hW9] at hCC ⊢;refine(‹∀(a:Act) (w:World),Code.wp AG _ _ a w->_›) _ _ ?_;refine jY 33 rfl λu hu=>?_;exact fU (hu 1) (hu 2) hB hl2 P3.out hCC.out
end Go.Proofs.YtjcgijifamcggaaGreat
namespace Go.Sq
open Go.RowKit
end Go.Sq
namespace Go.Proofs.YtjcgijifamcggaaGreat
open Go.RowKit Go.Sq
end Go.Proofs.YtjcgijifamcggaaGreat
namespace Go.Sq
open Go.RowKit
structure Cas where
 nA:Option Addr
 hA:Option Addr
 gA:Option Addr
 nc:Nat
 hc:Nat
 gc:Nat
 c:AW
 ls:List (List Int)
end Go.Sq
namespace Go.Proofs.YtjcgijifamcggaaGreat
open Go.RowKit Go.Sq
end Go.Proofs.YtjcgijifamcggaaGreat
namespace Go.Sq
def cJ (c:AW)(r:Bt):Nat->Int×Int×Int
 |0=>(0,-1,-1)
 |k+1=>if(cJ c r k).1=0 then Bq c r k else cJ c r k
def pd (c:AW)(r:Bt)(k:Nat)(h:(Bq c r k).1=0):Bq c r k=(0,-1,-1):=by
 unfold Bq at h ⊢;split at h
 .cases h
 .split at h
  .cases h
  .split at h
   .cases h
   .split at h
    .cases h
    .rename_i h4;exact if_neg h4
def ic {c:AW}{r:Bt}{k:Nat}(h:∀i,i<k->(Bq c r i).1=0):cJ c r k=(0,-1,-1):=by
 induction k with
 |zero=>rfl
 |succ k ih =>
  rw[cJ,ih λi hi=>h i (by omega),if_pos rfl];exact pd c r k (h k (by omega))
def mQ {c:AW}{r:Bt}{k m:Nat}(h:∀i,i<k->(Bq c r i).1=0)(hk:(Bq c r k).1≠0)(hm:k<m):cJ c r m=Bq c r k:=by
 induction m with
 |zero=>omega
 |succ m ih =>
  rw[cJ];rcases yf k m with h1|h1
  .rw[ih h1,if_neg hk]
  .obtain rfl:k=m:=by omega
   rw[ic h,if_pos rfl]
def D9 (x:AW)(ls:List (List Int)):Int×Int×Int:=if Ba x ls=0 then cJ x (AP ls) x.AK.length else(0,0,0)
end Go.Sq
namespace Go.Proofs.YtjcgijifamcggaaGreat
open Go.RowKit Go.Sq
def H9 {V:World}{b:Nat}{x y z x' y' z':Value}{ty:TypeId}(h:V.heap[b]?=some (.cells #[x',y',z'] ty (0,0))) :
  (((V.setCell ⟨b,0,none⟩ x).setCell ⟨b,1,none⟩ y).setCell ⟨b,2,none⟩ z).cell? ⟨b,0,none⟩=some x/\(((V.setCell ⟨b,0,none⟩ x).setCell ⟨b,1,none⟩ y).setCell ⟨b,2,none⟩ z).cell? ⟨b,1,none⟩=some y/\(((V.setCell ⟨b,0,none⟩ x).setCell ⟨b,1,none⟩ y).setCell ⟨b,2,none⟩ z).cell? ⟨b,2,none⟩=some z:=by
 have h3:=Bn (i:=2) (u:=z) (Bn (i:=1) (u:=y) (Bn (i:=0) (u:=x) h));exact⟨(cell_of_heap h3 0).1,(cell_of_heap h3 1).1,(cell_of_heap h3 2).1⟩
def iV {w V:World}{b:Nat}(hg:Gr w V)(hb:w.heap.size<=b)(x y z:Value):Gr w (((V.setCell ⟨b,0,none⟩ x).setCell ⟨b,1,none⟩ y).setCell ⟨b,2,none⟩ z):=((hg.setCell hb _).setCell hb _).setCell hb _
def uH (nA hA gA:Option Addr)(nc hc gc:Nat)(c:AW)(ls:List (List Int))(w:World)(B:Nat)(hB:B<=w.heap.size)(hn:RI w B nA c.AK)(hh:Dr w B hA c.AH)(hg:CR w B gA ls)
  (IZ:c.AK.length<=4611686018427387904) (hl2:c.AH.length<=4611686018427387904) (C7:∀h∈c.AH,h.off.length<=4611686018427387904) (L8:ls.length<=4611686018427387904) (hl4:∀x∈ls,x.length<=4611686018427387904) :
  Calls AG 28 #[Bp nA hA c nc hc,.slice gA ls.length gc] w λe w'=>e=.returned (.tuple #[Eu (D9 c ls),.int .i64 (Ba c ls)])/\Gr w w':=by
 unfold Bp;obtain⟨W0,hW0⟩:∃W0:World,W0=(w.alloc (.cells #[.slice nA c.AK.length nc,.slice hA c.AH.length hc] 27)).alloc (.cells #[.int .i64 0,.int .i64 0,.int .i64 0] 71):=⟨_,rfl⟩;have hg0:Gr w W0:=hW0▸((Gr.refl w).alloc _).alloc _;have hz0:W0.heap.size=w.heap.size+2:=by rw[hW0];simp
 have HW:=xl hW0;have Gp:=xl (iQ nA hA gA nc hc gc c ls W0 B (by omega) (hn.gr hB hg0) (hh.keep λb o hb=>hg0.cell (xx hb hB)) (hg.gr hB hg0) IZ hl2 C7 L8 hl4);have Ds:=xl hg0;have hc0:W0.cell? ⟨w.heap.size,0,none⟩=some (.slice nA c.AK.length nc):=by
  rw[hW0,xO _ _ _ (by simp),xu _ _ _ _ rfl];rfl
 have hr3:W0.heap[w.heap.size+1]?=some (.cells #[.int .i64 0,.int .i64 0,.int .i64 0] 71 (0,0)):=by
  rw[hW0];exact ap _ _ (by simp)
 have OX:=xl hc0;have Sj:=xl hr3;clear hW0 hg0 hn hh hg hl4 C7 hc0 hr3;go_enter Sq.func28,Tryz.ntmps28;unfold Bp at Gp;go_wp2_with fail;rw[<-HW.out];refine Gp.out.mono ?_;rintro e w1 ⟨hg1,Gq⟩;have Df:=xl hg1;have hz1:=hg1.size;have Kh:=xl ((hg1.below.block (w.heap.size+1) (by omega)).trans Sj.out);have hbl:w.heap.size+1<w1.heap.size:=by omega
 by_cases h0:Ba c ls=0
 .rw[if_pos h0] at Gq;obtain⟨cb,g,cap,rfl,hcb,SK,hK⟩:=Gq;have EZ:=xl (AW.Ok.of (eN h0));have WW:=xl (dJ h0);have HE:Hid (D9 c ls=cJ c (AP ls) c.AK.length):=xl (if_pos h0);have Su:=EZ.out.n5;obtain⟨W1,hW1⟩:∃W1:World,W1=w1.alloc (.cells #[.int .u8 (AP ls 0),.int .u8 (AP ls 1),.int .u8 (AP ls 2),.int .u8 (AP ls 3),.int .u8 (AP ls 4)] 52):=⟨_,rfl⟩;have Hr:Gr w1 W1:=hW1▸(Gr.refl w1).alloc _
  have hzW:W1.heap.size=w1.heap.size+1:=by rw[hW1];simp
  have OU:=xl (hK.MW.on Hr)
  have HRA:Hid (Ec W1 W1.heap.size w1.heap.size (AP ls)):=xl ⟨by omega,λi hi=>by
   rw[hW1,xu _ _ _ _ (by simp)]
   match i,hi with
   |0,_=>rfl
   |1,_=>rfl
   |2,_=>rfl
   |3,_=>rfl
   |4,_=>rfl⟩
  have Wv:=xl (hg1.trans Hr);have HRW:=xl (((Hr.below.block (w.heap.size+1) hbl)).trans Kh.out);have HCW:=xl ((hg1.trans Hr).cell (p:=⟨w.heap.size,0,none⟩) (by show w.heap.size<_;omega) |>.trans OX.out);have Mj:=xl hW1;have HE0:=xl h0;have hc0:=(hg1.cell (p:=⟨w.heap.size,0,none⟩) (by show w.heap.size<_;omega)).trans OX.out;have JU:w.heap.size<w1.heap.size:=by omega
  clear h0 hg1 hK Hr hW1 Gp;unfold Cc;go_wp2;rw[<-Mj.out];clear hc0;go_loopw [25] (λi wr=>∃k:Nat,k<=c.AK.length/\i=.int .i64 k/\Gr W1 wr/\∀i,i<k->(Bq c (AP ls) i).1=0) (λi _=>c.AK.length-(intOf i).toNat)
  case atStart=>exact⟨0,by omega,rfl,.refl _,λi hi=>by omega⟩
  case round =>
   obtain⟨k,hk,rfl,hgr,hno⟩:=hrel;have YN:=xl hno;have Fp:=xl hgr;have Yq:=hgr.size;by_cases hlt:k<c.AK.length
   .have XD:=jG cb w1.heap.size k c (AP ls) wr (OU.out.on hgr) (HRA.out.on hgr) EZ.out hlt WW.out;unfold Eu at XD;replace XD:=xl XD;have HST:Hid ((Bq c (AP ls) k).1≠0->D9 c ls=Bq c (AP ls) k):=xl λOa=>by
     rw[HE.out];exact mQ YN.out Oa hlt
    have HZ:Hid ((Bq c (AP ls) k).1=0->∀i,i<k+1->(Bq c (AP ls) i).1=0):=xl λh i hi=>by
     rcases yB (yW hi) with h1|rfl
     .exact YN.out i h1
     .exact h
    clear hgr hno;generalize Bq c (AP ls) k=pp at XD HST HZ;obtain⟨p1,p2,p3⟩:=pp;dsimp only at XD HST HZ;go_wp2_with fail;refine XD.out.mono ?_;rintro e w2 ⟨rfl,hg2⟩;have EX:=xl (Fp.out.trans hg2);have hz2:=hg2.size;clear hg2 XD;by_cases hp:p1=0
    .subst hp;have Um:=xl (HZ.out rfl);clear HZ HST;go_wp2;go_roundw
     case rel=>exact⟨k+1,by omega,by go_num,EX.out.alloc _,Um.out⟩
     case measure=>simp[intOf];omega
    .have Kj:=xl (HST.out hp);have hpn:(p1 != 0)=true:=by simpa using hp
     have Jn:Hid ((w2.alloc (.cells #[.int .i64 p1,.int .i64 p2,.int .i64 p3] 71)).heap[w.heap.size+1]?=some (.cells #[.int .i64 0,.int .i64 0,.int .i64 0] 71 (0,0))):=xl ((heap_alloc_old _ _ (by omega)).trans ((EX.out.below.block (w.heap.size+1) (by omega)).trans HRW.out));obtain⟨d0,f0⟩:=cell_of_heap Jn.out 0;obtain⟨d1,f1⟩:=cell_of_heap Jn.out 1;obtain⟨d2,f2⟩:=cell_of_heap Jn.out 2;clear HZ HST hp
     go_wp2;obtain⟨s0,s1,s2⟩:=H9 (x:=.int .i64 p1) (y:=.int .i64 p2) (z:=.int .i64 p3) Jn.out;refine bodyPost_ret (v:=.tuple #[.agg #[.int .i64 p1,.int .i64 p2,.int .i64 p3],.int .i64 0]) (by simp[results,Tryz.results28,go_sem,s0,s1,s2]) rfl ⟨?_,?_⟩
     .rw[Kj.out,HE0.out];rfl
     .exact iV ((Ds.out.trans (Wv.out.trans EX.out)).alloc _) (Nat.le_succ _) _ _ _
   .have Ik:k=c.AK.length:=by omega
    subst Ik;have Kj:Hid (D9 c ls=(0,-1,-1)):=xl (by rw[HE.out];exact ic YN.out);have Jn:Hid (wr.heap[w.heap.size+1]?=some (.cells #[.int .i64 0,.int .i64 0,.int .i64 0] 71 (0,0))):=xl ((Fp.out.below.block (w.heap.size+1) (by omega)).trans HRW.out);obtain⟨d0,f0⟩:=cell_of_heap Jn.out 0;obtain⟨d1,f1⟩:=cell_of_heap Jn.out 1;obtain⟨d2,f2⟩:=cell_of_heap Jn.out 2;clear hgr hno;go_wp2;obtain⟨s0,s1,s2⟩:=H9 (x:=.int .i64 0) (y:=.int .i64 (-1)) (z:=.int .i64 (-1)) Jn.out
    refine bodyPost_ret (v:=.tuple #[.agg #[.int .i64 0,.int .i64 (-1),.int .i64 (-1)],.int .i64 0]) (by simp[results,Tryz.results28,go_sem,s0,s1,s2]) rfl ⟨?_,?_⟩
    .rw[Kj.out,HE0.out];rfl
    .exact iV (Ds.out.trans (Wv.out.trans Fp.out)) (by omega) _ _ _
 .rw[if_neg h0] at Gq;obtain⟨p,r,rfl⟩:=Gq;have HE:Hid (D9 c ls=(0,0,0)):=xl (if_neg h0);have hne:(Ba c ls != 0)=true:=by simpa using h0
  generalize hq:Ba c ls=e0 at hne;replace hq:=xl hq;have d0:=cell_of_heap Kh.out 0;have d1:=cell_of_heap Kh.out 1;have d2:=cell_of_heap Kh.out 2;obtain⟨d0,f0⟩:=d0;obtain⟨d1,f1⟩:=d1;obtain⟨d2,f2⟩:=d2;clear h0 hg1;unfold Cc;go_wp2;obtain⟨s0,s1,s2⟩:=H9 (x:=.int .i64 0) (y:=.int .i64 0) (z:=.int .i64 0) Kh.out;have kp:∀(V:World) (o:Obj) (i:Nat),w.heap.size+1<V.heap.size->(V.alloc o).cell? ⟨w.heap.size+1,i,none⟩=V.cell? ⟨w.heap.size+1,i,none⟩:=λV o i h=>xO _ _ _ h
  have YO:w.heap.size+1<(((w1.setCell ⟨w.heap.size+1,0,none⟩ (.int .i64 0)).setCell ⟨w.heap.size+1,1,none⟩ (.int .i64 0)).setCell ⟨w.heap.size+1,2,none⟩ (.int .i64 0)).heap.size:=by simpa [World.setCell] using hbl
  refine bodyPost_ret (v:=.tuple #[.agg #[.int .i64 0,.int .i64 0,.int .i64 0],.int .i64 e0]) (by simp[results,Tryz.results28,go_sem,s0,s1,s2,kp _ _ _ YO]) rfl ⟨?_,?_⟩
  .rw[HE.out,hq.out];rfl
  .exact(iV (Ds.out.trans Df.out) (Nat.le_succ _) _ _ _).alloc _
end Go.Proofs.YtjcgijifamcggaaGreat
