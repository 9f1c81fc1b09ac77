/- Parts of the proof. -/
import Derived.Test.YtghipmneleifpaaGreatP19
import Derived.Test.YtghipmneleifpaaGreatP00
import Derived.Test.YtghipmneleifpaaGreatP15
import Derived.Test.YtghipmneleifpaaGreatP18
set_option linter.all false
set_option maxHeartbeats 3200000
set_option maxRecDepth 1000000
open Go renaming World->a6,Value->a8,Calls->bq,TypeId->bA,Oper->bW
open Go.Value renaming slice->a7,int->bc
open List renaming range'->bb,contains_iff_mem->br,range->b6
open Go.IntKind renaming i64->bh
open Option renaming some->bk
open Go.Proofs renaming intOf->bl
open Go.Code renaming region->bn
open Bool renaming true->bo,false->bD
open Go.Proofs.Tryz renaming ntmps42->bs,ntmps41->bw,ntmps16->b5
namespace Go.Sq
open Go.RowKit Go.Ct
variable {R:a6->a6->Prop} {ops:Array bW} {Q:Exit->Act->a6->Prop} {n m:Nat} {ds:List Deferred}
def Hz (R:Nat->Prop):Nat->Prop
 |0=>True
 |m+1=>Hz R m/\R m
def Hz.at_ {R:Nat->Prop}:∀ {m:Nat},Hz R m->∀i,i<m->R i
 |0,_,i,h=>absurd h (zU _)
 |m+1,h,i,hi=>by
  by_cases e:i=m
  .subst e;exact h.2
  .exact h.1.at_ i (by omega)
def Hz.of {R:Nat->Prop}:∀ {m:Nat},(∀i,i<m->R i)->Hz R m
 |0,_=>trivial
 |m+1,h=>⟨Hz.of λi hi=>h i (by omega),h m (by omega)⟩
def IK (R:a6->a6->Prop)(V:a8->a6->Prop):Prop:=∀v w w',R w w'->V v w->V v w'
instance {J:a6->Prop} {c i:Nat} [Rfl R]:Rfl (Till R J c i):=⟨λw=>⟨Rfl.refl w,λ_ h=>h⟩⟩
def aa (x:a8):IK R λv _=>v=x:=λ_ _ _ _ h=>h
def Vl (l:List (a8->a6->Prop))(i:Nat):a8->a6->Prop:=l[i]?.getD λ_ _=>True
def JS (R:a6->a6->Prop):List (a8->a6->Prop)->Prop
 |[]=>True
 |V::l=>IK R V/\JS R l
def JS.at_:∀ {l:List (a8->a6->Prop)},JS R l->∀i,IK R (Vl l i)
 |[],_,i=>λ_ _ _ _ _=>by unfold Vl;simp
 |V::l,h,0=>h.1
 |V::l,h,i+1=>h.2.at_ i
def Fr (ops:Array bW)(u u0:Nat->a8):Prop:=∀t,Fl ops t=bo->u t=u0 t
def Fr.at_ {u u0:Nat->a8}(h:Fr ops u u0)(t:Nat)(e:Fl ops t=true:=by kernel_rfl):u t=u0 t:=h t e
def Xz (ops:Array bW)(V:Nat->a8->a6->Prop)(i:Nat)(u:Nat->a8)(w:a6):Prop:=∀j∈K7 .any ops i,∀o d,ops[j]?=bk o->o.dst=bk d->V j (u d) w
def Xz.at_ {V:Nat->a8->a6->Prop}{i:Nat}{u:Nat->a8}{w:a6}(h:Xz ops V i u w)(j d:Nat)(h1:(K7 .any ops i).contains j=true:=by kernel_rfl)(h2:(opAt ops j).bind (·.1)=bk d:=by rfl):V j (u d) w:=by
 unfold opAt at h2;cases ho:ops[j]? with
 |none=>rw[ho] at h2;cases h2
 |some o=>rw[ho] at h2;exact h j (br.1 h1) o d ho h2
def Late (ops:Array bW)(i:Nat)(u u0:Nat->a8):Prop:=∀j o t,i∈K7 .any ops j->ops[j]?=bk o->o.dst=bk t->u t=u0 t
def Late.at_ {i:Nat}{u u0:Nat->a8}(h:Late ops i u u0)(j t:Nat)(h1:(K7 .any ops j).contains i=true:=by kernel_rfl)(h2:(opAt ops j).bind (·.1)=bk t:=by rfl):u t=u0 t:=by
 unfold opAt at h2;cases ho:ops[j]? with
 |none=>rw[ho] at h2;cases h2
 |some o=>rw[ho] at h2;exact h j o t (br.1 h1) ho h2
def Ends (ops:Array bW)(V:Nat->a8->a6->Prop)(m:Nat)(u:Nat->a8)(w:a6):Prop:=∀i,i<m->∀o d,ops[i]?=bk o->o.dst=bk d->V i (u d) w
def Ends.at_ {V:Nat->a8->a6->Prop}{u:Nat->a8}{w:a6}(h:Ends ops V m u w)(j d:Nat)(h1:j<m:=by decide)(h2:(opAt ops j).bind (·.1)=bk d:=by rfl):V j (u d) w:=by
 unfold opAt at h2;cases ho:ops[j]? with
 |none=>rw[ho] at h2;cases h2
 |some o=>rw[ho] at h2;exact h j h1 o d ho h2
def mixed:B1.follows .mixedOrders=true:=by kernel_rfl
def Done.imp {i:Nat}{V V':a8->a6->Prop}{u:Nat->a8}{w:a6}(hV:∀v w',V v w'->V' v w')(h:Done R B1 ops Q n ds i V u w):Done R B1 ops Q n ds i V' u w :=
 wpOp_mono (λ_ _ ⟨v,h1,h2,h3⟩=>⟨v,h1,h2,hV _ _ h3⟩) h
def sOk (ops:Array bW)(m s dS:Nat):Bool:=decide (m<=s)||(b6 ops.size).all λi=>(ops[i]?).bind (·.dst) != bk dS||(K7 .any ops s).contains i
def mU [Goes R](c:Nat)(J:a6->Prop)(s dS:Nat)(S:(Nat->a8)->a6->Prop)(hS1:∀u w w',R w w'->S u w->S u w')(hS2:∀u w d v,d≠dS->S u w->S (Jg u d v) w)(Zg:sOk ops m s dS=bo){id:Nat}{u0:Nat->a8}{w0:a6}(hJ0:J w0.drew)(X:KL .any ops m=bo)(l:List (a8->a6->Prop))(Hy:JS R l)
  (step:∀i,i<m->∀u w,R w0 w->Fr ops u u0->Late ops i u u0->Xz ops (Vl l) i u w->(i=c->J w)->Done (Till R J c i) B1 ops Q n ds i (λv w'=>Vl l i v w'/\(i=s->S (EU u ((ops[i]?).bind (·.dst)) v) w')) u w)
  (fin:∀u w,R w0 w->Fr ops u u0->Ends ops (Vl l) m u w->(s<m->S u w)->wpOps B1 ops Q (bb m (ops.size-m)) ⟨T n u,ds⟩ w):(bn id ops bo).wp B1 Q ⟨T n u0,ds⟩ w0:=by
 refine wp_region_any mixed ?_;have OM:∀i,i<ops.size->(Array.replicate ops.size bD).getD i bo=false:=λi hi=>by
  rw[zW,zO,if_pos hi];rfl
 have hms:m<=ops.size:=by
  rcases(OL (m:=m) X).last with h|h
  .omega
  .have:=h.size;omega
 refine vW c J s dS S hS1 hS2 (OL X) (λhsm i hi hd=>?_) (Vl l) (λi v w w' hg h=>Hy.at_ i v w w' hg h) step fin ops.size _ u0 _ (by simp) ?_ (Goes.drew w0) (λ_ _=>rfl) (λi hi hl=>?_) (λi _ hi=>OM i hi) (λi hi hl=>?_) (λ_=>hJ0) λhsm hl=>?_
 .unfold sOk at Zg;rw[zk,zE] at Zg;rcases Zg with h|h
  .have:=of_decide_eq_true h;omega
  .have:=h i (zB.2 hi);rw[hd] at this;simpa using this
 .rw[List.filter_eq_self.2 λi hi=>by rw[OM i (zB.1 hi)];rfl,List.length_range]
 .rw[OM i (by omega)] at hl;cases hl
 .rw[OM i (by omega)] at hl;cases hl
 .rw[OM s (by omega)] at hl;cases hl
def tS [Goes R](c:Nat)(J:a6->Prop){id:Nat}{u0:Nat->a8}{w0:a6}(hJ0:J w0.drew)(X:KL .any ops m=bo)(l:List (a8->a6->Prop))(Hy:JS R l)
  (step:Hz (λi=>∀u w,R w0 w->Fr ops u u0->Late ops i u u0->Xz ops (Vl l) i u w->(i=c->J w)->Done (Till R J c i) B1 ops Q n ds i (Vl l i) u w) m)
  (fin:∀u w,R w0 w->Fr ops u u0->Ends ops (Vl l) m u w->wpOps B1 ops Q (bb m (ops.size-m)) ⟨T n u,ds⟩ w):(bn id ops bo).wp B1 Q ⟨T n u0,ds⟩ w0 :=
 mU c J m 0 (λ_ _=>True) (λ_ _ _ _ h=>h) (λ_ _ _ _ _ h=>h) (by unfold sOk;simp) hJ0 X l Hy (λi hi u w h1 h2 h3 h4 h5=>(step.at_ i hi u w h1 h2 h3 h4 h5).imp λ_ _ h=>⟨h,λ_=>trivial⟩) λu w h1 h2 h3 _=>fin u w h1 h2 h3
def mV [Goes R](s dS:Nat)(S:(Nat->a8)->a6->Prop)(hS1:∀u w w',R w w'->S u w->S u w')(hS2:∀u w d v,d≠dS->S u w->S (Jg u d v) w)(Zg:sOk ops m s dS=bo){id:Nat}{u0:Nat->a8}{w0:a6}(X:KL .any ops m=bo)(l:List (a8->a6->Prop))(Hy:JS R l)
  (adK:∀u w,R w0 w->Fr ops u u0->Late ops s u u0->Xz ops (Vl l) s u w->Done R B1 ops Q n ds s (λv w'=>Vl l s v w'/\S (EU u ((ops[s]?).bind (·.dst)) v) w') u w)
  (step:Hz (λi=>i≠s->∀u w,R w0 w->Fr ops u u0->Late ops i u u0->Xz ops (Vl l) i u w->Done R B1 ops Q n ds i (Vl l i) u w) m)
  (fin:∀u w,R w0 w->Fr ops u u0->Ends ops (Vl l) m u w->(s<m->S u w)->wpOps B1 ops Q (bb m (ops.size-m)) ⟨T n u,ds⟩ w):(bn id ops bo).wp B1 Q ⟨T n u0,ds⟩ w0 :=
 mU 0 (λ_=>True) s dS S hS1 hS2 Zg trivial X l Hy (λi hi u w h1 h2 h3 h4 _=>Done.weak (R:=R) (λ_ h=>⟨h,λ_ _=>trivial⟩) (by
  by_cases e:i=s
  .subst e;exact(adK u w h1 h2 h3 h4).imp λ_ _ h=>⟨h.1,λ_=>h.2⟩
  .exact(step.at_ i hi e u w h1 h2 h3 h4).imp λ_ _ h=>⟨h,λe'=>absurd e' e⟩)) fin
def dQ [Goes R]{id:Nat}{u0:Nat->a8}{w0:a6}(X:KL .any ops m=bo)(l:List (a8->a6->Prop))(Hy:JS R l)
  (step:Hz (λi=>∀u w,R w0 w->Fr ops u u0->Late ops i u u0->Xz ops (Vl l) i u w->Done R B1 ops Q n ds i (Vl l i) u w) m)
  (fin:∀u w,R w0 w->Fr ops u u0->Ends ops (Vl l) m u w->wpOps B1 ops Q (bb m (ops.size-m)) ⟨T n u,ds⟩ w):(bn id ops bo).wp B1 Q ⟨T n u0,ds⟩ w0 :=
 tS 0 (λ_=>True) trivial X l Hy (Hz.of λi hi u w h1 h2 h3 h4 _=>(step.at_ i hi u w h1 h2 h3 h4).weak λ_ h=>⟨h,λ_ _=>trivial⟩) fin
def qc {i:Nat}{md:Region.Mode}(X:Txt md ops m)(hi:i<ops.size){j d:Nat}{o:bW}(hj:ops[j]?=bk o)(hd:o.dst=bk d)(hne:j≠i)(u:Nat->a8)(v:a8):EU u ((ops[i]?).bind (·.dst)) v d=u d:=by
 rw[yS hi];show EU u ops[i].dst v d=u d;cases Ue:ops[i].dst with
 |none=>rfl
 |some d' =>
  refine CU λe'=>?_;subst e';rcases Nat.lt_or_gt_of_ne hne with h|h
  .exact X.one j i _ _ _ h hj (yS hi) hd Ue
  .exact X.one i j _ _ _ h (yS hi) hj Ue hd
def gD [Goes R]{id:Nat}{u0:Nat->a8}{w0:a6}(X:KL .any ops m=bo)(l:List (a8->a6->Prop))(Hy:JS R l)
  (step:Hz (λi=>∀u w,R w0 w->Fr ops u u0->Late ops i u u0->Xz ops (Vl l) i u w->Done R B1 ops Q n ds i (Vl l i) u w) m)
  (fin:∀u w,R w0 w->Fr ops u u0->Ends ops (Vl l) m u w->wpOps B1 ops Q (bb m (ops.size-m)) ⟨T n u,ds⟩ w):(bn id ops bD).wp B1 Q ⟨T n u0,ds⟩ w0:=by
 have hX:=OL (m:=m) X;have adH:m<=ops.size:=by
  rcases hX.last with h|h
  .omega
  .have:=h.size;omega
 have LG:∀ {t k:Nat},Fl ops t=bo->∀j o,ops[j]?=bk o->o.dst=bk t->k<=j:=λ{t k} ht j o hj hd=>by
  unfold Fl at ht;rw[zh] at ht;have:=ht _ (zl hj);rw[hd] at this;simp at this
 have key:∀d k u w,k+d=m->R w0 w->(∀t,(∀j o,ops[j]?=bk o->o.dst=bk t->k<=j)->u t=u0 t)->Ends ops (Vl l) k u w->wpOps B1 ops Q (bb k d++bb m (ops.size-m)) ⟨T n u,ds⟩ w:=by
  intro d
  induction d with
  |zero =>
   intro k u w hk hg hf hv;obtain rfl:k=m:=by omega
   exact fin u w hg (λt ht=>hf t (LG ht)) hv
  |succ d ih =>
   intro k u w hk hg hf hv;rw[List.range'_succ,zV,wpOps_cons];refine wpOp_mono ?_ (step.at_ k (by omega) u w hg (λt ht=>hf t λj o hj hd=>LG ht j o hj hd) (λj o t hkj hj hd=>hf t λj' o' hj' hd'=>?_) λj hj o d ho hd=>hv j (hX.lt k (by omega) j hj) o d ho hd)
   rotate_left
   .have Wj : j' = j := by
     rcases Nat.lt_trichotomy j' j with h|h|h
     .exact absurd hd (hX.one j' j _ _ _ h hj' hj hd')
     .exact h
     .exact absurd hd' (hX.one j j' _ _ _ h hj hj' hd)
    subst Wj;have:=hX.lt j' (yK.1 hj').1 k hkj;omega
   rintro a' w' ⟨v,rfl,hgr,hV⟩;refine ih (k+1) _ w' (by omega) (Goes.trans hg hgr) (λt ht=>?_) λj hj o d ho hd=>?_
   .have QM : (ops[k]'(by omega)).dst ≠ bk t := fun e => by
     have:=ht k _ (yS (by omega)) e;omega
    have e:EU u ((ops[k]?).bind (·.dst)) v t=u t:=by
     rw[yS (show k<ops.size by omega)];show EU u (ops[k]'(by omega)).dst v t=u t;cases Ue:(ops[k]'(by omega)).dst with
     |none=>rfl
     |some d=>exact CU λe=>QM (by rw[Ue,e])
    rw[e];exact hf t λj o hj hd=>by have:=ht j o hj hd;omega
   by_cases e:j=k
   .subst e;rw[ho];show Vl l j (EU u o.dst v d) w';rw[hd];show Vl l j (Jg u d v d) w';rw[az];exact hV
   .rw[qc hX (by omega) ho hd e];exact Hy.at_ j _ _ _ hgr (hv j (by omega) o d ho hd)
 refine wp_region ?_;have e:b6 ops.size=bb 0 m++bb m (ops.size-m):=by
  have:=List.range'_append (s:=0) (m:=m) (n:=ops.size-m) (step:=1);rw[Nat.one_mul,yZ] at this;rw[List.range_eq_range',this];congr 1;omega
 rw[e];exact key m 0 u0 w0 (by omega) (Rfl.refl _) (λ_ _=>rfl) λi hi=>absurd hi (zU _)
section
variable {ops:Array bW} {Q:Exit->Act->a6->Prop} {n m:Nat} {u:Nat->a8} {ds:List Deferred} {w w':a6}
def lV {i:Nat}{d:Option Tmp}{op:Op}{g:Option (Nat×Bool)}{t:bA}{K:Act->a6->Prop}(h:opAt ops i=bk (d,op,g,t))(hl:Lets ops n u g)
  (hw:∀o:bW,o.dst=d->o.op=op->o.type=t->Oper.wp B1 o ⟨T n u,ds⟩ w K Q):wpOp B1 ops Q i K ⟨T n u,ds⟩ w:=by
 obtain⟨o,h1,h2,h3,h4,h5⟩:=LH h;unfold wpOp;simp only[h1];rw[if_pos (lz (by rw[h4];exact hl))];exact .inl (hw o h2 h3 h5)
def dJ {i:Nat}{d:Option Tmp}{op:Op}{g:Option (Nat×Bool)}{t:bA}{K:Act->a6->Prop}(h:opAt ops i=bk (d,op,g,t))(v:a8)(w':a6)
  (hr:∀ev,Uf n u ev->(execOp ev (IJ op t)).run B1 w=.ok (.value v) w') (hK:K ⟨T n (EU u d v),ds⟩ w') (hl:Lets ops n u g:=by trivial):wpOp B1 ops Q i K ⟨T n u,ds⟩ w:=by
 refine lV h hl λo h1 h2 h3=>?_;unfold Oper.wp;rw[eM,h2,h3,hr _ eK,Oper.upon_value,h1,gC];exact hK
def fY {i:Nat}{d:Option Tmp}{op:Op}{g:Option (Nat×Bool)}{t:bA}{K:Act->a6->Prop}(h:opAt ops i=bk (d,op,g,t))(w':a6)
  (hr:∀ev,Uf n u ev->(execOp ev (IJ op t)).run B1 w=.ok .skip w') (hK:K ⟨T n (EU u d undef),ds⟩ w') (hl:Lets ops n u g:=by trivial):wpOp B1 ops Q i K ⟨T n u,ds⟩ w:=by
 refine lV h hl λo h1 h2 h3=>?_;unfold Oper.wp;rw[eM,h2,h3,hr _ eK,Oper.upon_skip,h1,gC];exact hK
def iB {i:Nat}{d:Option Tmp}{t:Nat}{g:Option (Nat×Bool)}{ty:bA}{K:Act->a6->Prop}(h:opAt ops i=bk (d,.assign (.tmp t),g,ty))(hK:K ⟨T n (EU u d (u t)),ds⟩ w)(hl:Lets ops n u g:=by trivial)(ht:t<n:=by decide):wpOp B1 ops Q i K ⟨T n u,ds⟩ w :=
 dJ h (u t) w (λev he=>by show(pure _:Sem Next).run _ _=_;rw[he.1 t ht];rfl) hK hl
def oS {i:Nat}{d:Option Tmp}{t:Nat}{g:Option (Nat×Bool)}{ty:bA}{K:Act->a6->Prop}(h:opAt ops i=bk (d,.move (.tmp t),g,ty))(hK:K ⟨T n (EU u d (u t)),ds⟩ w)(hl:Lets ops n u g:=by trivial)(ht:t<n:=by decide):wpOp B1 ops Q i K ⟨T n u,ds⟩ w :=
 dJ h (u t) w (λev he=>by show(pure _:Sem Next).run _ _=_;rw[he.1 t ht];rfl) hK hl
def vY {i:Nat}{d:Option Tmp}{f:FuncId}{args:Array Operand}{ats:Array bA}{g:Option (Nat×Bool)}{t:bA}{K:Act->a6->Prop}(h:opAt ops i=bk (d,.call { callee:=.value (.func f),args:=args,argTypes:=ats },g,t)){fn:Func}(hf:B1.funcs[f]?=bk fn)(vals:Array a8)
  (ha:∀ev,Uf n u ev->args.map ev=vals) (hc:bq B1 f vals w λe w'=>∃v,e=.returned v/\K ⟨T n (EU u d v),ds⟩ w') (hl:Lets ops n u g:=by trivial) (hn:(fn.name == "runtime.NumGoroutine")=false:=by kernel_rfl) (hb:fn.body.isNone=false:=by kernel_rfl):wpOp B1 ops Q i K ⟨T n u,ds⟩ w:=by
 refine lV h hl λo h1 h2 h3=>?_;unfold Oper.wp;rw[eM,h2,lB hf ha hn hb,Oper.upon_enter];refine hc.mono ?_;rintro e w' ⟨v,rfl,h5⟩;have e5:K ((⟨T n u,ds⟩:Act).put o.dst v) w':=by
  rw[h1,gC];exact h5
 exact e5
end
def vZ {ops:Array bW}{D:List Nat}(hD:ops.toList.filterMap (·.dst)=D){t:Nat}(h:D.contains t=bD):Fl ops t=true:=by
 subst hD;unfold Fl;rw[zh];intro o ho;have hn:t ∉ ops.toList.filterMap (·.dst):=by simpa using h
 have:o.dst≠bk t:=λe=>hn (List.mem_filterMap.2 ⟨o,by simpa using ho,e⟩);simpa using this
def rZ {u:Nat->a8}(D:List Nat):∀(l:List a8) (t:Nat),(D.foldl (λa d=>a.set d (u d)) l)[t]?=if t∈D/\t<l.length then bk (u t) else l[t]?:=by
 induction D with
 |nil=>intro l t;simp
 |cons d D ih =>
  intro l t;rw[Af,ih,Bc,List.getElem?_set];by_cases h1:t∈D/\t<l.length
  .rw[if_pos h1,if_pos ⟨Aj _ h1.1,h1.2⟩]
  .rw[if_neg h1];by_cases h2:d=t
   .subst h2;by_cases h3:d<l.length
    .rw[if_pos rfl,if_pos h3,if_pos ⟨Ac,h3⟩]
    .rw[if_pos rfl,if_neg h3,if_neg λh=>h3 h.2,AG (by omega)]
   .rw[if_neg h2,if_neg λh=>(yT.1 h.1).elim (λe=>h2 e.symm) λe=>h1 ⟨e,h.2⟩]
def iC {n:Nat}{u u':Nat->a8}{l:List a8}{ops:Array bW}(D:List Nat)(hD:ops.toList.filterMap (·.dst)=D)(hn:l.length=n)(hu:∀i,u i=l[i]?.getD undef)(hf:∀t,Fl ops t=bo->u' t=u t):T n u'=(D.foldl (λa d=>a.set d (u' d)) l).toArray:=by
 unfold T;congr 1;refine List.ext_getElem? λt=>?_;rw[rZ];by_cases ht:t<n
 .rw[zL,Am ht];show bk (u' t)=_;by_cases hm:t∈D
  .rw[if_pos ⟨hm,by omega⟩]
  .rw[if_neg λh=>hm h.1,hf t (vZ hD (by simpa using hm)),hu,yM (by omega)];rfl
 .rw[AG (by simp;omega),if_neg λh=>by omega,AG (by omega)]
open Go.Proofs
def gE (a b c:Int)(w:a6):bq B1 42 #[bc bh a,bc bh b,bc bh c] w λe w'=>e=.returned (.bool (Ez a b c))/\w=w':=by
 by_cases h1:b<=a
 .by_cases h2:a<=c
  .have HS:=yJ (show Ez a b c=bo by simp[Ez,h1,h2]);go_enter Sq.func42,bs;go_wp2;go_ret;exact⟨ap HS.out.symm,rfl⟩
  .have HS:=yJ (show Ez a b c=bD by simp[Ez];omega);go_enter Sq.func42,bs;go_wp2;go_ret;exact⟨ap HS.out.symm,rfl⟩
 .have HS:=yJ (show Ez a b c=bD by simp[Ez];omega);go_enter Sq.func42,bs;go_wp2;go_ret;exact⟨ap HS.out.symm,rfl⟩
def iP (n lo hi:Int)(w:a6):bq B1 41 #[bc bh n,bc bh lo,bc bh hi] w λe w'=>e=.returned (bc bh (CM n lo hi))/\w=w':=by
 by_cases h1:n<lo
 .have HS:=yJ (show CM n lo hi=7 by simp[CM,h1]);go_enter Sq.func41,bw;go_wp2;go_ret;exact⟨am HS.out.symm,rfl⟩
 .by_cases h2:hi<n
  .have HS:=yJ (show CM n lo hi=6 by simp[CM,h1,h2]);go_enter Sq.func41,bw;go_wp2;go_ret;exact⟨am HS.out.symm,rfl⟩
  .have HS:=yJ (show CM n lo hi=0 by simp[CM,h1,h2]);go_enter Sq.func41,bw;go_wp2;go_ret;exact⟨am HS.out.symm,rfl⟩
def mW (A:Option Addr)(c:Nat)(l:List Int)(n:Int)(w:a6)(B:Nat)(h:RI w B A l)(hB:B<=w.heap.size)(hl:l.length<=4611686018427387904)(Ld:0<=n)(hn:n<=4611686018427387904) :
  bq B1 43 #[a7 A l.length c,bc bh (n-1)] w λe w'=>e=.returned (bc bh (Dw l n))/\Gr w w':=by
 have HR:=yJ h;go_enter Sq.func43,Tryz.ntmps43;go_wp2;go_loopw [5] (λi wr=>∃k:Nat,k<=l.length/\i=bc bh k/\(∀j,j<k->En l n j=0)/\Gr w wr) (λi _=>l.length-(bl i).toNat)
 case atStart=>exact⟨0,by omega,rfl,λj hj=>absurd hj (zU _),.refl _⟩
 case round =>
  obtain⟨k,hk,rfl,hz,hgr⟩:=hrel;have HZ:=yJ hz;have HG:=yJ hgr;by_cases hlt:k<l.length
  .obtain⟨b,o,rfl,hb,hc⟩:=(HR.out.gr hB hgr).at_ hlt;have HA:Hid (En l n k=if 0<=l[k]?.getD 0/\l[k]?.getD 0<=n-1 then(if 0<k/\l[k]?.getD 0<=l[k-1]?.getD 0 then 5 else 0) else 3):=yJ rfl;by_cases hr:0<=l[k]?.getD 0/\l[k]?.getD 0<=n-1
   .have HI : Hid (∀ W, bq B1 42 #[bc bh (l[k]?.getD 0), bc bh 0, bc bh (n - 1)] W fun e w' => e = .returned (.bool bo) ∧ W = w') := Lib.hid fun W => by
     have:=gE (l[k]?.getD 0) 0 (n-1) W
     rwa [show Ez (l[k]?.getD 0) 0 (n-1)=bo by simp[Ez,hr.1,hr.2]] at this
    rcases zp k with h0|h0
    .subst h0;have HS:=yJ (show En l n 0=0 by rw[HA.out,if_pos hr,if_neg (by omega)]);simp only[Nat.add_zero] at hc;generalize l[0]?.getD 0=x at hc HI;go_wp2_with (go_at_call 42;refine(HI.out _).mono ?_;rintro e w' ⟨rfl,rfl⟩);go_quiet (fail);go_wp2;go_roundw
     case rel=>exact⟨1,by omega,by go_num,λj hj=>(by
      have:j=0:=by omega
      subst this;exact HS.out),HG.out.drewN _⟩
     case measure=>simp[Proofs.intOf];omega
    .obtain⟨m,rfl⟩:∃m,k=m+1:=⟨k-1,by omega⟩;have hc':wr.cell? ⟨b,o+m,none⟩=bk (bc bh (l[m]?.getD 0)):=by
      obtain⟨b',o',e,_,h⟩:=(HR.out.gr hB hgr).at_ (k:=m) (by omega);simp only[Option.some.injEq,Addr.mk.injEq] at e;obtain⟨rfl,rfl,_⟩:=e;exact h
     by_cases hle:l[m+1]?.getD 0<=l[m]?.getD 0
     .have HS := Lib.hid (show Dw l n = 5 by
       have e:En l n (m+1)=5:=by rw[HA.out,if_pos hr,if_pos ⟨h0,hle⟩]
       rw[gd hlt HZ.out (by rw[e];decide),e])
      generalize l[m+1]?.getD 0=x at hc HI hle;generalize l[m]?.getD 0=y at hc' hle;have Mp:decide (x<=y)=true:=by simpa using hle
      go_wp2_with (go_at_call 42;refine(HI.out _).mono ?_;rintro e w' ⟨rfl,rfl⟩);go_quiet (fail);go_wp2;go_ret;exact⟨am HS.out.symm,HG.out.drewN _⟩
     .have HS:=yJ (show En l n (m+1)=0 by rw[HA.out,if_pos hr,if_neg (λh=>hle h.2)]);generalize l[m+1]?.getD 0=x at hc HI hle;generalize l[m]?.getD 0=y at hc' hle;go_wp2_with (go_at_call 42;refine(HI.out _).mono ?_;rintro e w' ⟨rfl,rfl⟩);go_quiet (fail);go_wp2;go_roundw
      case rel=>exact⟨m+1+1,by omega,by go_num,λj hj=>(by
       rcases zq (zG hj) with h|rfl
       .exact HZ.out j h
       .exact HS.out),HG.out.drewN _⟩
      case measure=>simp[Proofs.intOf];omega
   .have HI : Hid (∀ W, bq B1 42 #[bc bh (l[k]?.getD 0), bc bh 0, bc bh (n - 1)] W fun e w' => e = .returned (.bool bD) ∧ W = w') := Lib.hid fun W => by
     have:=gE (l[k]?.getD 0) 0 (n-1) W
     rwa [show Ez (l[k]?.getD 0) 0 (n-1)=bD by simp[Ez];omega] at this
    have HS:=yJ (show Dw l n=3 by
     have e:En l n k=3:=by rw[HA.out,if_neg hr]
     rw[gd hlt HZ.out (by rw[e];decide),e])
    generalize l[k]?.getD 0=x at hc HI;go_wp2_with (go_at_call 42;refine(HI.out _).mono ?_;rintro e w' ⟨rfl,rfl⟩);go_ret;exact⟨am HS.out.symm,HG.out⟩
  .have HS:=yJ (show Dw l n=0 from kS λi hi=>HZ.out i (by omega));have:k=l.length:=by omega
   go_wp2;go_ret;exact⟨am HS.out.symm,HG.out⟩
def kk (nA hA:Option Addr)(nc hc:Nat)(c:Cc)(w:a6)(B:Nat)(hB:B<=w.heap.size)(hn:RI w B nA c.B3)(hh:Db w B hA c.B2)(F4:c.B3.length<=4611686018427387904)(hl2:c.B2.length<=4611686018427387904)
  (DN:∀h∈c.B2,h.off.length<=4611686018427387904) :
  bq B1 16 #[Cj nA hA c nc hc] w λe w'=>e=.returned (bc bh (Cn c))/\Gr w w':=by
 have HN:=yJ hn;have HH:=yJ hh;have Qd:=yJ DN;clear hn hh DN;unfold Cj;obtain⟨W0,hW0⟩:∃W0:a6,W0=w.alloc (.cells #[a7 nA c.B3.length nc,a7 hA c.B2.length hc] 25):=⟨_,rfl⟩;have Du:Hid (Gr w W0):=yJ (by rw[hW0];exact(Gr.refl w).alloc _);have HC:Hid (∀W,Gr W0 W->W.cell? ⟨w.heap.size,0,none⟩=bk (a7 nA c.B3.length nc)/\W.cell? ⟨w.heap.size,1,none⟩=bk (a7 hA c.B2.length hc)):=yJ λW hg=>by
  rw[hg.cell (by show w.heap.size<_;rw[hW0];simp),hg.cell (by show w.heap.size<_;rw[hW0];simp),hW0,yN _ _ _ _ rfl,yN _ _ _ _ rfl];exact⟨rfl,rfl⟩
 have hz0:W0.heap.size=w.heap.size+1:=by rw[hW0];simp
 by_cases Ox:CM c.B3.length 1 5=0
 .have HM:Hid (bq B1 41 #[bc bh c.B3.length,bc bh 1,bc bh 5] (w.alloc (.cells #[a7 nA c.B3.length nc,a7 hA c.B2.length hc] 25)) λe w'=>e=.returned (bc bh 0)/\(w.alloc (.cells #[a7 nA c.B3.length nc,a7 hA c.B2.length hc] 25))=w'):=yJ (by rw[<-Ox];exact iP _ _ _ _);have Yv:=yJ Ox;have HW:=yJ hW0;clear Ox hW0;go_enter Sq.func16,b5
  go_wp2_with (first|(go_at_call 41;refine HM.out.mono ?_;rintro e w' ⟨rfl,rfl⟩));rw[<-HW.out];clear HW HM;obtain⟨hc0,hc1⟩:=HC.out W0 (Gr.refl _);have HN0:=yJ ((HN.out.gr hB Du.out).more (B':=W0.heap.size) (by omega));go_loop [4] (λi=>∃k:Nat,k<=c.B3.length/\i=bc bh k/\∀j,j<k->Ez (c.B3[j]?.getD 0) 0 12=bo) (λi=>c.B3.length-(bl i).toNat)
  case atStart=>exact⟨0,by omega,rfl,λj hj=>absurd hj (zU _)⟩
  case round =>
   obtain⟨k,hk,rfl,hz⟩:=hrel;have HZ:=yJ hz;clear hz;by_cases hlt:k<c.B3.length
   .obtain⟨b,o,rfl,hb,hcell⟩:=HN0.out.at_ hlt;have hI:=gE (c.B3[k]?.getD 0) 0 12 W0;cases Ij:Ez (c.B3[k]?.getD 0) 0 12 with
    |true =>
     rw[Ij] at hI;have HI:=yJ hI;have UC:=yJ Ij;clear hI Ij;generalize c.B3[k]?.getD 0=x at hcell HI;go_wp2_with (go_at_call 42;refine HI.out.mono ?_;rintro e w' ⟨rfl,rfl⟩);go_round
     case rel=>exact⟨k+1,by omega,by go_num,λj hj=>by
      rcases zq (zG hj) with h|rfl
      .exact HZ.out j h
      .exact UC.out⟩
     case measure=>simp[Proofs.intOf];omega
    |false =>
     rw[Ij] at hI;have HI:=yJ hI
     have HS:=yJ (show Cn c=1 by
      have:(c.B3.all λx=>Ez x 0 12)=false:=by
       rw[List.all_eq_false];exact⟨_,EK _ _ hlt,by simp[Ij]⟩
      simp[Cn,Yv.out,this])
     clear hI Ij;generalize c.B3[k]?.getD 0=x at hcell HI;go_wp2_with (go_at_call 42;refine HI.out.mono ?_;rintro e w' ⟨rfl,rfl⟩);go_ret;exact⟨am HS.out.symm,Du.out⟩
   .have HA := Lib.hid (show (c.B3.all fun x => Ez x 0 12) = bo by
     rw[zE];intro x hx;obtain⟨j,hj,rfl⟩:=zZ.1 hx;have:=HZ.out j (by omega)
     rwa [yM hj] at this)
    have FA:k=c.B3.length:=by omega
    clear HZ;subst FA;have Vg:=iP c.B2.length 1 4 W0;by_cases NM:CM c.B2.length 1 4=0
    .rw[NM] at Vg;have HM:=yJ Vg;have HD:=yJ (jS Yv.out HA.out NM);clear Vg NM;go_wp2_with (first|(go_at_call 41;refine HM.out.mono ?_;rintro e w' ⟨rfl,rfl⟩));go_loopw [6] (λi wr=>∃k:Nat,k<=c.B2.length/\i=bc bh k/\(∀j,j<k->D6 c.B3.length (c.h j)=0)/\Gr W0 wr) (λi _=>c.B2.length-(bl i).toNat)
     case atStart=>exact⟨0,by omega,rfl,λj hj=>absurd hj (zU _),Gr.refl _⟩
     case round =>
      obtain⟨k,hk,rfl,hz,hgr⟩:=hrel;have HZ:=yJ hz;have DO:=yJ hgr;have Iu:=yJ (Du.out.trans hgr);obtain⟨P3,O3⟩:=HC.out wr hgr;have hsz:w.heap.size<wr.heap.size:=by have:=DO.out.size;omega
      clear hz hgr;by_cases hlt:k<c.B2.length
      .have WT:=yJ (HH.out.keep λb o hb=>Iu.out.cell (p:=⟨b,o,none⟩) (yO hb hB));obtain⟨b,o,rfl,hb,hat⟩:=WT.out.at_ (c:=c) hlt;obtain⟨g0,g1,g2,A,ac,g3,Em⟩:=hat;have KQ:=yJ (Em.more (B':=wr.heap.size) (by omega));have WO:=Qd.out _ (c.Gw hlt);have HF:=yJ (bP c c.B3.length hlt);have HIT:∀x lo hi v,Ez x lo hi=v->∀W:a6,bq B1 42 #[bc bh x,bc bh lo,bc bh hi] W λe w'=>e=.returned (.bool v)/\W=w':=λx lo hi v h W=>by rw[<-h];exact gE _ _ _ _
       have Jr:=yJ HIT;cases t1:Ez (c.h k).heads 1 40 with
       |false =>
        have HS:=yJ (show Cn c=1 by
         have e:D6 c.B3.length (c.h k)=1:=by simp[D6,t1]
         rw[HD.out,aX (k:=k) (by simpa using hlt) (λi hi=>by rw[bP c _ (by omega)];exact HZ.out i hi) (by rw[HF.out,e];decide),HF.out,e])
        have HA:=yJ (Jr.out _ _ _ _ t1);go_wp2_with (first|(go_at_call 42;refine(HA.out _).mono ?_;rintro e w' ⟨rfl,rfl⟩));go_ret;exact⟨am HS.out.symm,Iu.out.alloc _⟩
       |true =>
        have HA:=yJ (Jr.out _ _ _ _ t1);cases t2:Ez (c.h k).Dd 1 5 with
        |false =>
         have HS:=yJ (show Cn c=1 by
          have e:D6 c.B3.length (c.h k)=1:=by simp[D6,t2]
          rw[HD.out,aX (k:=k) (by simpa using hlt) (λi hi=>by rw[bP c _ (by omega)];exact HZ.out i hi) (by rw[HF.out,e];decide),HF.out,e])
         have I5:=yJ (Jr.out _ _ _ _ t2);go_wp2_with fail;refine(HA.out _).mono ?_;rintro e w' ⟨rfl,rfl⟩;go_wp2_with fail;refine(I5.out _).mono ?_;rintro e w' ⟨rfl,rfl⟩;go_wp2;go_ret;exact⟨am HS.out.symm,Iu.out.alloc _⟩
        |true =>
         have I5:=yJ (Jr.out _ _ _ _ t2);cases t3:Ez (c.h k).most 0 5 with
         |false =>
          have HS:=yJ (show Cn c=1 by
           have e:D6 c.B3.length (c.h k)=1:=by simp[D6,t3]
           rw[HD.out,aX (k:=k) (by simpa using hlt) (λi hi=>by rw[bP c _ (by omega)];exact HZ.out i hi) (by rw[HF.out,e];decide),HF.out,e])
          have QO:=yJ (Jr.out _ _ _ _ t3);go_wp2_with fail;refine(HA.out _).mono ?_;rintro e w' ⟨rfl,rfl⟩;go_wp2_with fail;refine(I5.out _).mono ?_;rintro e w' ⟨rfl,rfl⟩;go_wp2_with fail;refine(QO.out _).mono ?_;rintro e w' ⟨rfl,rfl⟩;go_wp2;go_ret;exact⟨am HS.out.symm,Iu.out.alloc _⟩
         |true =>
          have QO:=yJ (Jr.out _ _ _ _ t3);have HE:=yJ (show D6 c.B3.length (c.h k)=Dw (c.h k).off c.B3.length by simp[D6,t1,t2,t3]);have HAS:=yJ (λW (hg:Gr wr W)=>mW A ac (c.h k).off c.B3.length W wr.heap.size (KQ.out.gr (yL _) hg) hg.size WO (by omega) (by omega));have Oy:Hid (∀v,Gr wr (wr.alloc v)):=yJ λv=>(Gr.refl wr).alloc v;by_cases he:Dw (c.h k).off c.B3.length=0
          .rw[he] at HAS;have WU:=yJ (HE.out.trans he);go_wp2_with fail;refine(HA.out _).mono ?_;rintro e w' ⟨rfl,rfl⟩;go_wp2_with fail;refine(I5.out _).mono ?_;rintro e w' ⟨rfl,rfl⟩;go_wp2_with fail;refine(QO.out _).mono ?_;rintro e w' ⟨rfl,rfl⟩;go_wp2_with fail;refine(HAS.out _ (Oy.out _)).mono ?_;rintro e w5 ⟨rfl,Gg⟩;have Hk:=yJ ((DO.out.alloc _).trans Gg);have adL:=yJ ((Iu.out.alloc _).trans Gg)
           go_wp2;go_roundw
           case rel=>exact⟨k+1,by omega,by go_num,λj hj=>by
            rcases zq (zG hj) with h|rfl
            .exact HZ.out j h
            .exact WU.out,Hk.out⟩
           case measure=>simp[Proofs.intOf];omega
          .have HS := Lib.hid (show Cn c = Dw (c.h k).off c.B3.length by
            rw[HD.out,aX (k:=k) (by simpa using hlt) (λi hi=>by rw[bP c _ (by omega)];exact HZ.out i hi) (by rw[HF.out,HE.out];exact he),HF.out,HE.out])
           have hne:((Dw (c.h k).off c.B3.length) != 0)=true:=by simpa using he
           generalize Dw (c.h k).off c.B3.length=e0 at HAS HS hne;go_wp2_with fail;refine(HA.out _).mono ?_;rintro e w' ⟨rfl,rfl⟩;go_wp2_with fail;refine(I5.out _).mono ?_;rintro e w' ⟨rfl,rfl⟩;go_wp2_with fail;refine(QO.out _).mono ?_;rintro e w' ⟨rfl,rfl⟩;go_wp2_with fail;refine(HAS.out _ (Oy.out _)).mono ?_;rintro e w5 ⟨rfl,Gg⟩;have adL:=yJ ((Iu.out.alloc _).trans Gg);go_wp2;go_ret
           exact⟨am HS.out.symm,adL.out⟩
      .have HS := Lib.hid (show Cn c = 0 by
        rw[HD.out];exact cX λi hi=>by
         rw[zy] at hi
         rw[bP c _ hi];exact HZ.out i (by omega))
       have FA:k=c.B2.length:=by omega
       subst FA;go_wp2;go_ret;exact⟨am HS.out.symm,Iu.out⟩
    .have HS:=yJ (show Cn c=CM c.B2.length 1 4 by simp[Cn,Yv.out,HA.out,NM]);have HM:=yJ Vg;have hb:((CM c.B2.length 1 4) != 0)=true:=by simpa using NM
     generalize CM c.B2.length 1 4=e0 at HM hb HS;go_wp2_with (first|(go_at_call 41;refine HM.out.mono ?_;rintro e w' ⟨rfl,rfl⟩));go_ret;exact⟨am HS.out.symm,Du.out⟩
 .have HS:=yJ (show Cn c=CM c.B3.length 1 5 by simp[Cn,Ox]);have HM:=yJ (iP c.B3.length 1 5 W0);have hb:((CM c.B3.length 1 5) != 0)=true:=by simpa using Ox
  rw[hW0] at HM;generalize CM c.B3.length 1 5=e0 at HM hb HS;go_enter Sq.func16,b5;go_wp2_with (first|(go_at_call 41;refine HM.out.mono ?_;rintro e w' ⟨rfl,rfl⟩));go_ret;exact⟨am HS.out.symm,(Gr.refl w).alloc _⟩
def nV (nA hA gA:Option Addr)(nc hc gc:Nat)(c:Cc)(ls:List (List Int))(w:a6)(B:Nat)(hB:B<=w.heap.size)(hn:RI w B nA c.B3)(hh:Db w B hA c.B2)(hg:Da w B gA ls)
  (F4:c.B3.length<=4611686018427387904) (hl2:c.B2.length<=4611686018427387904) (DN:∀h∈c.B2,h.off.length<=4611686018427387904) (IP:ls.length<=4611686018427387904) (hl4:∀x∈ls,x.length<=4611686018427387904) :
  bq B1 36 #[Cj nA hA c nc hc,a7 gA ls.length gc] w λe w'=>e=.returned (bc bh (Cg c ls))/\Gr w w':=by
 have Nk:=yJ hg;have HL4:=yJ hl4;unfold Cj;obtain⟨W0,hW0⟩:∃W0:a6,W0=w.alloc (.cells #[a7 nA c.B3.length nc,a7 hA c.B2.length hc] 25):=⟨_,rfl⟩;have hg0:Gr w W0:=hW0▸(Gr.refl w).alloc _;have hz0:W0.heap.size=w.heap.size+1:=by rw[hW0];simp
 have Du:=yJ hg0;have HC:Hid (∀W,Gr W0 W->(W.cell? ⟨w.heap.size,0,none⟩=bk (a7 nA c.B3.length nc)/\W.cell? ⟨w.heap.size,1,none⟩=bk (a7 hA c.B2.length hc))/\w.heap.size<W.heap.size):=yJ λW hg=>by
  have:=hg.size;rw[hg.cell (by show w.heap.size<_;omega),hg.cell (by show w.heap.size<_;omega),hW0,yN _ _ _ _ rfl,yN _ _ _ _ rfl];exact⟨⟨rfl,rfl⟩,by omega⟩
 have M7:=kk nA hA nc hc c W0 B (by omega) (hn.gr hB hg0) (hh.keep λb o hb=>hg0.cell (yO hb hB)) F4 hl2 DN;unfold Cj at M7;have HCK:=yJ M7;have HW:=yJ hW0;clear hn hh hg hl4 DN hg0 M7 hW0;go_enter Sq.func36,Tryz.ntmps36;go_wp2_with fail;rw[<-HW.out];refine HCK.out.mono ?_;rintro e w1 ⟨rfl,hg1⟩;obtain⟨⟨c0,c1⟩,cl⟩:=HC.out w1 hg1;have DO:=yJ hg1;have Iu:=yJ (Du.out.trans hg1);have HMY:Hid (∀W,bq B1 41 #[bc bh ls.length,bc bh c.B3.length,bc bh c.B3.length] W λe w'=>e=.returned (bc bh (CM ls.length c.B3.length c.B3.length))/\W=w'):=yJ λW=>iP _ _ _ W
 clear HCK hg1;by_cases h0:Cn c=0
 .by_cases hm:CM ls.length c.B3.length c.B3.length=0
  .have Ll:Hid (Cg c ls=bG (ls.map λl=>Dw l c.B2.length)):=yJ (by simp[Cg,h0,hm]);rw[hm] at HMY;rw[h0];clear h0 hm;go_wp2_with fail;refine(HMY.out _).mono ?_;rintro e w' ⟨rfl,rfl⟩;go_wp2;go_loopw [7] (λi wr=>∃k:Nat,k<=ls.length/\i=bc bh k/\(∀j,j<k->Dw (ls[j]?.getD []) c.B2.length=0)/\Gr w1 wr) (λi _=>ls.length-(bl i).toNat)
   case atStart=>exact⟨0,by omega,rfl,λj hj=>absurd hj (zU _),.refl _⟩
   case round =>
    obtain⟨k,hk,rfl,hz,hgr⟩:=hrel;have HZ:=yJ hz;have E6:=yJ hgr;obtain⟨⟨d0,d1⟩,dl⟩:=HC.out wr (DO.out.trans hgr);have VV:Gr w wr:=Iu.out.trans hgr;have hgz:=VV.size;by_cases hlt:k<ls.length
    .have Oy:=(Nk.out.gr hB VV);obtain⟨b,o,rfl,hb,Jj⟩:=Oy (λe=>by rw[e] at hlt;simp at hlt);obtain⟨A',c',hcell,Em⟩:=Jj k _ (yM hlt);have hbl:b<wr.heap.size:=by omega
     have OD:=HL4.out _ (zx hlt);have HXE:Hid (ls[k]?.getD []=ls[k]):=yJ (by rw[yM hlt];rfl);have HFA:=yJ (ff ls (c.B2.length:Int) hlt);rw[HXE.out] at HFA;have SA:=yJ (λd=>mW A' c' ls[k] c.B2.length (wr.drewN d) B (Em.gr (by omega) ((Gr.refl wr).drewN d)) (by show B<=wr.heap.size;omega) OD (by omega) (by omega));rw[show(c.B2.length:Int)-1=IntKind.i64.wrap ((c.B2.length:Int)-1) by simp[IntKind.wrap,IntKind.bits,IntKind.signed];omega] at SA
     generalize ls[k]=x at hcell HXE HFA SA;by_cases he:Dw x c.B2.length=0
     .rw[he] at SA;have WU:=yJ (HXE.out▸he:Dw (ls[k]?.getD []) c.B2.length=0);go_wp2;go_region_with (go_at_call 43;refine(SA.out 1).mono ?_;rintro e w5 ⟨rfl,Gg⟩)
      all_goals
       have Hk:=yJ ((E6.out.drewN 1).trans Gg);go_wp2;go_roundw
       case rel=>exact⟨k+1,by omega,by go_num,λj hj=>(by
        rcases zq (zG hj) with h|rfl
        .exact HZ.out j h
        .exact WU.out),Hk.out⟩
       case measure=>simp[Proofs.intOf];omega
     .have HS := Lib.hid (show Cg c ls = Dw x c.B2.length by
       rw[Ll.out,aX (k:=k) (by simpa using hlt) (λi hi=>by rw[ff ls _ (by omega)];exact HZ.out i hi) (by rw[HFA.out];exact he),HFA.out])
      have hne:((Dw x c.B2.length) != 0)=true:=by simpa using he
      generalize Dw x c.B2.length=e0 at SA HS hne;go_wp2;go_region_with (go_at_call 43;refine(SA.out 1).mono ?_;rintro e w5 ⟨rfl,Gg⟩)
      all_goals
       have Hk:=yJ (Iu.out.trans ((E6.out.drewN 1).trans Gg));go_wp2;go_ret;exact⟨am HS.out.symm,Hk.out⟩
    .have HS := Lib.hid (show Cg c ls = 0 by
      rw[Ll.out];exact cX λi hi=>by
       rw[zy] at hi
       rw[ff ls _ hi];exact HZ.out i (by omega))
     have HGF:=yJ VV;go_wp2;go_ret;exact⟨am HS.out.symm,HGF.out⟩
  .have HS:=yJ (show Cg c ls=CM ls.length c.B3.length c.B3.length by simp[Cg,h0,hm]);have hne:((CM ls.length c.B3.length c.B3.length) != 0)=true:=by simpa using hm
   rw[h0];generalize CM ls.length c.B3.length c.B3.length=e0 at HMY HS hne;go_wp2_with fail;refine(HMY.out _).mono ?_;rintro e w' ⟨rfl,rfl⟩;go_wp2;go_ret;exact⟨am HS.out.symm,Iu.out⟩
 .have HS:=yJ (show Cg c ls=Cn c by simp[Cg,h0]);have hne:(Cn c != 0)=true:=by simpa using h0
  generalize Cn c=e0 at HS hne;go_wp2;go_ret;exact⟨am HS.out.symm,Iu.out⟩
def gF:∀ {l m:List Int},l.Pairwise (·<·)->m.Pairwise (·<·)->(∀x,x∈l↔x∈m)->l=m
 |[],[],_,_,_=>rfl
 |[],b::m,_,_,h=>absurd ((h b).2 (Ac ..)) (by simp)
 |a::l,[],_,_,h=>absurd ((h a).1 (Ac ..)) (by simp)
 |a::l,b::m,hl,hm,h=>by
  obtain⟨h1,h2⟩:=Bj.1 hl;obtain⟨h3,h4⟩:=Bj.1 hm;have e:a=b:=by
   rcases yT.1 ((h a).1 (Ac ..)) with e|e
   .exact e
   .rcases yT.1 ((h b).2 (Ac ..)) with e2|e2
    .exact e2.symm
    .have:=h3 a e;have:=h1 b e2;omega
  subst e;congr 1;refine gF h2 h4 λx=>⟨λhx=>?_,λhx=>?_⟩
  .rcases yT.1 ((h x).1 (Aj _ hx)) with e|e
   .have:=h1 x hx;omega
   .exact e
  .rcases yT.1 ((h x).2 (Aj _ hx)) with e|e
   .have:=h3 x hx;omega
   .exact e
def tT {l:List Int}(h:∀i,i+1<l.length->l[i]?.getD 0<l[i+1]?.getD 0):l.Pairwise (·<·):=by
 induction l with
 |nil=>exact .nil
 |cons a l ih =>
  have ih':=ih λi hi=>by have:=h (i+1) (by simpa using hi);simpa using this
  refine Bj.2 ⟨λb hb=>?_,ih'⟩;cases l with
  |nil=>cases hb
  |cons c l =>
   have h0:=h 0 (by simp);simp at h0;rcases yT.1 hb with rfl|hb
   .exact h0
   .have:=(Bj.1 ih').1 b hb;omega
def qd {l:List Int}{m:Nat}(h:Dw l m=0):∃p,l=Cr p m:=by
 obtain⟨h1,_,h2⟩:=I6 h;refine⟨λn=>decide ((n:Int)∈l),gF (tT h2) (ew _ _) λx=>?_⟩;rw[Ea];constructor
 .intro hx;have:=h1 x hx;refine⟨x.toNat,by omega,by omega,?_⟩;rw[show((x.toNat:Nat):Int)=x by omega];simpa using hx
 .rintro⟨n,rfl,_,hn⟩;simpa using hn
def ja {c:Cc}{ls:List (List Int)}(h:Cg c ls=0):ls.length=c.B3.length/\∀x∈ls,Dw x c.B2.length=0:=by
 unfold Cg at h;split at h
 .exact absurd h (by assumption)
 .split at h
  .exact absurd h (by assumption)
  .rename_i h1 h2;refine⟨?_,λx hx=>bB.1 h _ (zu.2 ⟨x,hx,rfl⟩)⟩;have h2:CM ls.length c.B3.length c.B3.length=0:=by simpa using h2
   unfold CM at h2;split at h2
   .omega
   .split at h2<;>omega
def fj {c:Cc}{ls:List (List Int)}(h:Cg c ls=0):Cn c=0:=by
 unfold Cg at h;split at h
 .exact absurd h (by assumption)
 .simpa using ‹¬Cn c≠0›
def jw (A:Option Addr)(c:Nat)(l:List Int)(n:Int)(w:a6)(B:Nat)(h:RI w B A l)(hl:l.length<=4611686018427387904) :
  bq B1 78 #[a7 A l.length c,bc bh n] w λe w'=>e=.returned (.bool (decide (n∈l)))/\w=w':=by
 have HR:=yJ h;go_enter Sq.func78,Tryz.ntmps78;go_wp2;go_loop [5] (λi=>∃k:Nat,k<=l.length/\i=bc bh k/\n ∉ l.take k) (λi=>l.length-(bl i).toNat)
 case atStart=>exact⟨0,by omega,rfl,by simp⟩
 case round =>
  obtain⟨k,hk,rfl,hz⟩:=hrel;by_cases hlt:k<l.length
  .obtain⟨b,o,rfl,hb,hc⟩:=HR.out.at_ hlt;have HM:=yJ (lS hlt n);have UC:Hid (l[k]?.getD 0∈l):=yJ (by rw[yM hlt];exact zx hlt);have HZ:=yJ hz;generalize l[k]?.getD 0=x at hc HM UC;by_cases he:x=n
   .subst he;have HS:=yJ (show decide (x∈l)=bo by simpa using UC.out);go_wp2;go_ret;exact⟨ap HS.out.symm,rfl⟩
   .have HN:Hid (n ∉ l.take (k+1)):=yJ λh=>(HM.out.1 h).elim HZ.out he;go_wp2;go_round
    case rel=>exact⟨k+1,by omega,by go_num,HN.out⟩
    case measure=>simp[Proofs.intOf];omega
  .have FA:k=l.length:=by omega
   have HS:=yJ (show decide (n∈l)=bD by
    rw[FA,AT] at hz
    simpa using hz)
   go_wp2;go_ret;exact⟨ap HS.out.symm,rfl⟩
def qe (A:Option Addr)(c:Nat)(ls:List (List Int))(h:Nat)(w:a6)(B:Nat)(hg:Da w B A ls)(hl:ls.length<=1048576)(hl2:∀x∈ls,x.length<=1048576) :
  bq B1 79 #[a7 A ls.length c,bc bh h] w λe w'=>e=.returned (bc bh (Fi ls ls.length h))/\w=w':=by
 have HG:=yJ hg;have HL:=yJ hl2;go_enter Sq.func79,Tryz.ntmps79;go_wp2;go_loop [5,6] (λv i=>∃k:Nat,k<=ls.length/\i=bc bh k/\v=bc bh (Fi ls k h)) (λ_ i=>ls.length-(bl i).toNat)
 case atStart=>exact⟨0,by omega,rfl,rfl⟩
 case round =>
  obtain⟨k,hk,rfl,rfl⟩:=hrel;by_cases hlt:k<ls.length
  .obtain⟨b,o,rfl,hb,Jj⟩:=HG.out (λe=>by rw[e] at hlt;simp at hlt);obtain⟨A',c',hcell,Em⟩:=Jj k _ (yM hlt);have HH:=yJ (jw A' c' ls[k] (h:Int) w B Em (yR (HL.out _ (zx hlt)) (by omega)))
   have HS:Hid (Fi ls (k+1) h=Fi ls k h+if(h:Int)∈ls[k] then 1 else 0):=yJ (by
    show Fi ls k h+(if _ then _ else _)=_
    rw[yM hlt];rfl)
   have hb:=rY ls k h;generalize ls[k]=x at hcell HH HS;generalize Fi ls k h=s at HS hb;by_cases Ij:(h:Int)∈x
   .rw[decide_eq_true Ij] at HH;rw[if_pos Ij] at HS;go_wp2_with fail;refine HH.out.mono ?_;rintro e w' ⟨rfl,rfl⟩;go_wp2;go_round
    case rel=>exact⟨k+1,by omega,by go_num,by rw[HS.out]⟩
    case measure=>simp[Proofs.intOf];omega
   .rw[decide_eq_false Ij] at HH;rw[if_neg Ij,Int.add_zero] at HS;go_wp2_with fail;refine HH.out.mono ?_;rintro e w' ⟨rfl,rfl⟩;go_wp2;go_round
    case rel=>exact⟨k+1,by omega,by go_num,by rw[HS.out]⟩
    case measure=>simp[Proofs.intOf];omega
  .have FA:k=ls.length:=by omega
   subst FA;go_wp2;go_ret;exact⟨rfl,rfl⟩
end Go.Sq
