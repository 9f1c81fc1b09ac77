/- Parts of the proof. -/
import Derived.Test.YteckikkkfpblhaaGreatP24
import Derived.Test.YteckikkkfpblhaaGreatP00
import Derived.Test.YteckikkkfpblhaaGreatP21
import Derived.Test.YteckikkkfpblhaaGreatP23
import Derived.Test.YteckikkkfpblhaaGreatP22
set_option linter.all false
set_option maxHeartbeats 6400000
set_option maxRecDepth 1000000
namespace Go.Sq
open Go.RowKit Go.AW Go.Proofs.Ao
variable {R:World->World->Prop} {ops:Array Oper} {Q:Exit->Act->World->Prop} {n m:Nat} {ds:List Deferred}
def GA (R:Nat->Prop):Nat->Prop
 |0=>True
 |m+1=>GA R m/\R m
def GA.at_ {R:Nat->Prop}:∀ {m:Nat},GA R m->∀i,i<m->R i
 |0,_,i,h=>absurd h (yr _)
 |m+1,h,i,hi=>by
  by_cases e:i=m
  .subst e;exact h.2
  .exact h.1.at_ i (by omega)
def GA.of {R:Nat->Prop}:∀ {m:Nat},(∀i,i<m->R i)->GA R m
 |0,_=>trivial
 |m+1,h=>⟨GA.of λi hi=>h i (by omega),h m (by omega)⟩
def Hb (R:World->World->Prop)(V:Value->World->Prop):Prop:=∀v w w',R w w'->V v w->V v w'
instance {J:World->Prop} {c i:Nat} [Rfl R]:Rfl (Till R J c i):=⟨λw=>⟨Rfl.refl w,λ_ h=>h⟩⟩
def aa (x:Value):Hb R λv _=>v=x:=λ_ _ _ _ h=>h
def Vl (l:List (Value->World->Prop))(i:Nat):Value->World->Prop:=l[i]?.getD λ_ _=>True
def Je (R:World->World->Prop):List (Value->World->Prop)->Prop
 |[]=>True
 |V::l=>Hb R V/\Je R l
def Je.at_:∀ {l:List (Value->World->Prop)},Je R l->∀i,Hb R (Vl l i)
 |[],_,i=>λ_ _ _ _ _=>by unfold Vl;simp
 |V::l,h,0=>h.1
 |V::l,h,i+1=>h.2.at_ i
def aT (L:List Int):Hb Gr (Ef L):=λv w w' hg ⟨A,k,e,h⟩=>⟨A,k,e,h.on' hg⟩
def cO (L:List Int)(E:Int):Hb Gr (Kr L E):=λv w w' hg ⟨x,e,h⟩=>⟨x,e,aT L _ _ _ hg h⟩
def Fr (ops:Array Oper)(u u0:Nat->Value):Prop:=∀t,Ko ops t=true->u t=u0 t
def Fr.at_ {u u0:Nat->Value}(h:Fr ops u u0)(t:Nat)(e:Ko ops t=true:=by kernel_rfl):u t=u0 t:=h t e
def Yh (ops:Array Oper)(V:Nat->Value->World->Prop)(i:Nat)(u:Nat->Value)(w:World):Prop:=∀j∈Jw .any ops i,∀o d,ops[j]?=some o->o.dst=some d->V j (u d) w
def Yh.at_ {V:Nat->Value->World->Prop}{i:Nat}{u:Nat->Value}{w:World}(h:Yh ops V i u w)(j d:Nat)(h1:(Jw .any ops i).contains j=true:=by kernel_rfl)(h2:(opAt ops j).bind (·.1)=some d:=by rfl):V j (u d) w:=by
 unfold opAt at h2;cases ho:ops[j]? with
 |none=>rw[ho] at h2;cases h2
 |some o=>rw[ho] at h2;exact h j (List.contains_iff_mem.1 h1) o d ho h2
def Late (ops:Array Oper)(i:Nat)(u u0:Nat->Value):Prop:=∀j o t,i∈Jw .any ops j->ops[j]?=some o->o.dst=some t->u t=u0 t
def Late.at_ {i:Nat}{u u0:Nat->Value}(h:Late ops i u u0)(j t:Nat)(h1:(Jw .any ops j).contains i=true:=by kernel_rfl)(h2:(opAt ops j).bind (·.1)=some t:=by rfl):u t=u0 t:=by
 unfold opAt at h2;cases ho:ops[j]? with
 |none=>rw[ho] at h2;cases h2
 |some o=>rw[ho] at h2;exact h j o t (List.contains_iff_mem.1 h1) ho h2
def Ends (ops:Array Oper)(V:Nat->Value->World->Prop)(m:Nat)(u:Nat->Value)(w:World):Prop:=∀i,i<m->∀o d,ops[i]?=some o->o.dst=some d->V i (u d) w
def Ends.at_ {V:Nat->Value->World->Prop}{u:Nat->Value}{w:World}(h:Ends ops V m u w)(j d:Nat)(h1:j<m:=by decide)(h2:(opAt ops j).bind (·.1)=some d:=by rfl):V j (u d) w:=by
 unfold opAt at h2;cases ho:ops[j]? with
 |none=>rw[ho] at h2;cases h2
 |some o=>rw[ho] at h2;exact h j h1 o d ho h2
def mixed:An.follows .mixedOrders=true:=by kernel_rfl
def Done.imp {i:Nat}{V V':Value->World->Prop}{u:Nat->Value}{w:World}(hV:∀v w',V v w'->V' v w')(h:Done R An ops Q n ds i V u w):Done R An ops Q n ds i V' u w :=
 wpOp_mono (λ_ _ ⟨v,h1,h2,h3⟩=>⟨v,h1,h2,hV _ _ h3⟩) h
def sOk (ops:Array Oper)(m s dS:Nat):Bool:=decide (m<=s)||(List.range ops.size).all λi=>(ops[i]?).bind (·.dst) != some dS||(Jw .any ops s).contains i
def sX [Goes R](c:Nat)(J:World->Prop)(s dS:Nat)(S:(Nat->Value)->World->Prop)(hS1:∀u w w',R w w'->S u w->S u w')(hS2:∀u w d v,d≠dS->S u w->S (IC u d v) w)(hS3:sOk ops m s dS=true){id:Nat}{u0:Nat->Value}{w0:World}(hJ0:J w0.drew)(X:JU .any ops m=true)(l:List (Value->World->Prop))(Ha:Je R l)
  (step:∀i,i<m->∀u w,R w0 w->Fr ops u u0->Late ops i u u0->Yh ops (Vl l) i u w->(i=c->J w)->Done (Till R J c i) An ops Q n ds i (λv w'=>Vl l i v w'/\(i=s->S (DV u ((ops[i]?).bind (·.dst)) v) w')) u w)
  (fin:∀u w,R w0 w->Fr ops u u0->Ends ops (Vl l) m u w->(s<m->S u w)->wpOps An ops Q (List.range' m (ops.size-m)) ⟨T n u,ds⟩ w):(Code.region id ops true).wp An Q ⟨T n u0,ds⟩ w0:=by
 refine wp_region_any mixed ?_;have ME:∀i,i<ops.size->(Array.replicate ops.size false).getD i true=false:=λi hi=>by
  rw[yu,yk,if_pos hi];rfl
 have hms:m<=ops.size:=by
  rcases(MD (m:=m) X).last with h|h
  .omega
  .have:=h.size;omega
 refine uF c J s dS S hS1 hS2 (MD X) (λhsm i hi hd=>?_) (Vl l) (λi v w w' hg h=>Ha.at_ i v w w' hg h) step fin ops.size _ u0 _ (by simp) ?_ (Goes.drew w0) (λ_ _=>rfl) (λi hi hl=>?_) (λi _ hi=>ME i hi) (λi hi hl=>?_) (λ_=>hJ0) λhsm hl=>?_
 .unfold sOk at hS3;rw[xO,xY] at hS3;rcases hS3 with h|h
  .have:=of_decide_eq_true h;omega
  .have:=h i (x9.2 hi);rw[hd] at this;simpa using this
 .rw[List.filter_eq_self.2 λi hi=>by rw[ME i (x9.1 hi)];rfl,List.length_range]
 .rw[ME i (by omega)] at hl;cases hl
 .rw[ME i (by omega)] at hl;cases hl
 .rw[ME s (by omega)] at hl;cases hl
def mz [Goes R](c:Nat)(J:World->Prop){id:Nat}{u0:Nat->Value}{w0:World}(hJ0:J w0.drew)(X:JU .any ops m=true)(l:List (Value->World->Prop))(Ha:Je R l)
  (step:GA (λi=>∀u w,R w0 w->Fr ops u u0->Late ops i u u0->Yh ops (Vl l) i u w->(i=c->J w)->Done (Till R J c i) An ops Q n ds i (Vl l i) u w) m)
  (fin:∀u w,R w0 w->Fr ops u u0->Ends ops (Vl l) m u w->wpOps An ops Q (List.range' m (ops.size-m)) ⟨T n u,ds⟩ w):(Code.region id ops true).wp An Q ⟨T n u0,ds⟩ w0 :=
 sX c J m 0 (λ_ _=>True) (λ_ _ _ _ h=>h) (λ_ _ _ _ _ h=>h) (by unfold sOk;simp) hJ0 X l Ha (λi hi u w h1 h2 h3 h4 h5=>(step.at_ i hi u w h1 h2 h3 h4 h5).imp λ_ _ h=>⟨h,λ_=>trivial⟩) λu w h1 h2 h3 _=>fin u w h1 h2 h3
def fL [Goes R]{id:Nat}{u0:Nat->Value}{w0:World}(X:JU .any ops m=true)(l:List (Value->World->Prop))(Ha:Je R l)
  (step:GA (λi=>∀u w,R w0 w->Fr ops u u0->Late ops i u u0->Yh ops (Vl l) i u w->Done R An ops Q n ds i (Vl l i) u w) m)
  (fin:∀u w,R w0 w->Fr ops u u0->Ends ops (Vl l) m u w->wpOps An ops Q (List.range' m (ops.size-m)) ⟨T n u,ds⟩ w):(Code.region id ops true).wp An Q ⟨T n u0,ds⟩ w0 :=
 mz 0 (λ_=>True) trivial X l Ha (GA.of λi hi u w h1 h2 h3 h4 _=>(step.at_ i hi u w h1 h2 h3 h4).weak λ_ h=>⟨h,λ_ _=>trivial⟩) fin
def pI {i:Nat}{md:Region.Mode}(X:Txt md ops m)(hi:i<ops.size){j d:Nat}{o:Oper}(hj:ops[j]?=some o)(hd:o.dst=some d)(hne:j≠i)(u:Nat->Value)(v:Value):DV u ((ops[i]?).bind (·.dst)) v d=u d:=by
 rw[xp hi];show DV u ops[i].dst v d=u d;cases RZ:ops[i].dst with
 |none=>rfl
 |some d' =>
  refine bB λe'=>?_;subst e';rcases Nat.lt_or_gt_of_ne hne with h|h
  .exact X.one j i _ _ _ h hj (xp hi) hd RZ
  .exact X.one i j _ _ _ h (xp hi) hj RZ hd
def cm [Goes R]{id:Nat}{u0:Nat->Value}{w0:World}(X:JU .any ops m=true)(l:List (Value->World->Prop))(Ha:Je R l)
  (step:GA (λi=>∀u w,R w0 w->Fr ops u u0->Late ops i u u0->Yh ops (Vl l) i u w->Done R An ops Q n ds i (Vl l i) u w) m)
  (fin:∀u w,R w0 w->Fr ops u u0->Ends ops (Vl l) m u w->wpOps An ops Q (List.range' m (ops.size-m)) ⟨T n u,ds⟩ w):(Code.region id ops false).wp An Q ⟨T n u0,ds⟩ w0:=by
 have hX:=MD (m:=m) X;have abA:m<=ops.size:=by
  rcases hX.last with h|h
  .omega
  .have:=h.size;omega
 have JV:∀ {t k:Nat},Ko ops t=true->∀j o,ops[j]?=some o->o.dst=some t->k<=j:=λ{t k} ht j o hj hd=>by
  unfold Ko at ht;rw[xM] at ht;have:=ht _ (xP hj);rw[hd] at this;simp at this
 have key:∀d k u w,k+d=m->R w0 w->(∀t,(∀j o,ops[j]?=some o->o.dst=some t->k<=j)->u t=u0 t)->Ends ops (Vl l) k u w->wpOps An ops Q (List.range' k d++List.range' m (ops.size-m)) ⟨T n u,ds⟩ w:=by
  intro d
  induction d with
  |zero =>
   intro k u w hk hg hf hv;obtain rfl:k=m:=by omega
   exact fin u w hg (λt ht=>hf t (JV ht)) hv
  |succ d ih =>
   intro k u w hk hg hf hv;rw[List.range'_succ,yt,wpOps_cons];refine wpOp_mono ?_ (step.at_ k (by omega) u w hg (λt ht=>hf t λj o hj hd=>JV ht j o hj hd) (λj o t hkj hj hd=>hf t λj' o' hj' Vj=>?_) λj hj o d ho hd=>hv j (hX.lt k (by omega) j hj) o d ho hd)
   rotate_left
   .have TR : j' = j := by
     rcases Nat.lt_trichotomy j' j with h|h|h
     .exact absurd hd (hX.one j' j _ _ _ h hj' hj Vj)
     .exact h
     .exact absurd Vj (hX.one j j' _ _ _ h hj hj' hd)
    subst TR;have:=hX.lt j' (xg.1 hj').1 k hkj;omega
   rintro a' w' ⟨v,rfl,hgr,hV⟩;refine ih (k+1) _ w' (by omega) (Goes.trans hg hgr) (λt ht=>?_) λj hj o d ho hd=>?_
   .have OD : (ops[k]'(by omega)).dst ≠ some t := fun e => by
     have:=ht k _ (xp (by omega)) e;omega
    have e:DV u ((ops[k]?).bind (·.dst)) v t=u t:=by
     rw[xp (show k<ops.size by omega)];show DV u (ops[k]'(by omega)).dst v t=u t;cases RZ:(ops[k]'(by omega)).dst with
     |none=>rfl
     |some d=>exact bB λe=>OD (by rw[RZ,e])
    rw[e];exact hf t λj o hj hd=>by have:=ht j o hj hd;omega
   by_cases e:j=k
   .subst e;rw[ho];show Vl l j (DV u o.dst v d) w';rw[hd];show Vl l j (IC u d v d) w';rw[bH];exact hV
   .rw[pI hX (by omega) ho hd e];exact Ha.at_ j _ _ _ hgr (hv j (by omega) o d ho hd)
 refine wp_region ?_;have e:List.range ops.size=List.range' 0 m++List.range' m (ops.size-m):=by
  have:=List.range'_append (s:=0) (m:=m) (n:=ops.size-m) (step:=1);rw[Nat.one_mul,xG] at this;rw[List.range_eq_range',this];congr 1;omega
 rw[e];exact key m 0 u0 w0 (by omega) (Rfl.refl _) (λ_ _=>rfl) λi hi=>absurd hi (yr _)
section
variable {ops:Array Oper} {Q:Exit->Act->World->Prop} {n m:Nat} {u:Nat->Value} {ds:List Deferred} {w w':World}
def pJ {i:Nat}{d:Option Tmp}{op:Op}{g:Option (Nat×Bool)}{t:TypeId}{K:Act->World->Prop}(h:opAt ops i=some (d,op,g,t))(hl:Lets ops n u g)
  (hw:∀o:Oper,o.dst=d->o.op=op->o.type=t->Oper.wp An o ⟨T n u,ds⟩ w K Q):wpOp An ops Q i K ⟨T n u,ds⟩ w:=by
 obtain⟨o,h1,h2,h3,h4,h5⟩:=Hv h;unfold wpOp;simp only[h1];rw[if_pos (kR (by rw[h4];exact hl))];exact .inl (hw o h2 h3 h5)
def ip {i:Nat}{d:Option Tmp}{op:Op}{g:Option (Nat×Bool)}{t:TypeId}{K:Act->World->Prop}(h:opAt ops i=some (d,op,g,t))(v:Value)(w':World)
  (hr:∀ev,Sz n u ev->(execOp ev (Kq op t)).run An w=.ok (.value v) w') (hK:K ⟨T n (DV u d v),ds⟩ w') (hl:Lets ops n u g:=by trivial):wpOp An ops Q i K ⟨T n u,ds⟩ w:=by
 refine pJ h hl λo h1 h2 h3=>?_;unfold Oper.wp;rw[fK,h2,h3,hr _ fJ,Oper.upon_value,h1,iF];exact hK
def ko {i:Nat}{d:Option Tmp}{op:Op}{g:Option (Nat×Bool)}{t:TypeId}{K:Act->World->Prop}(h:opAt ops i=some (d,op,g,t))(w':World)
  (hr:∀ev,Sz n u ev->(execOp ev (Kq op t)).run An w=.ok .skip w') (hK:K ⟨T n (DV u d undef),ds⟩ w') (hl:Lets ops n u g:=by trivial):wpOp An ops Q i K ⟨T n u,ds⟩ w:=by
 refine pJ h hl λo h1 h2 h3=>?_;unfold Oper.wp;rw[fK,h2,h3,hr _ fJ,Oper.upon_skip,h1,iF];exact hK
def rm {i:Nat}{d:Option Tmp}{t:Nat}{g:Option (Nat×Bool)}{ty:TypeId}{K:Act->World->Prop}(h:opAt ops i=some (d,.assign (.tmp t),g,ty))(hK:K ⟨T n (DV u d (u t)),ds⟩ w)(hl:Lets ops n u g:=by trivial)(ht:t<n:=by decide):wpOp An ops Q i K ⟨T n u,ds⟩ w :=
 ip h (u t) w (λev he=>by show(pure _:Sem Next).run _ _=_;rw[he.1 t ht];rfl) hK hl
def uG {i:Nat}{d:Option Tmp}{t:Nat}{g:Option (Nat×Bool)}{ty:TypeId}{K:Act->World->Prop}(h:opAt ops i=some (d,.move (.tmp t),g,ty))(hK:K ⟨T n (DV u d (u t)),ds⟩ w)(hl:Lets ops n u g:=by trivial)(ht:t<n:=by decide):wpOp An ops Q i K ⟨T n u,ds⟩ w :=
 ip h (u t) w (λev he=>by show(pure _:Sem Next).run _ _=_;rw[he.1 t ht];rfl) hK hl
def uH {i:Nat}{d:Option Tmp}{f:FuncId}{args:Array Operand}{ats:Array TypeId}{g:Option (Nat×Bool)}{t:TypeId}{K:Act->World->Prop}(h:opAt ops i=some (d,.call { callee:=.value (.func f),args:=args,argTypes:=ats },g,t)){fn:Func}(hf:An.funcs[f]?=some fn)(vals:Array Value)
  (ha:∀ev,Sz n u ev->args.map ev=vals) (hc:Calls An f vals w λe w'=>∃v,e=.returned v/\K ⟨T n (DV u d v),ds⟩ w') (hl:Lets ops n u g:=by trivial) (hn:(fn.name == "runtime.NumGoroutine")=false:=by kernel_rfl) (hb:fn.body.isNone=false:=by kernel_rfl):wpOp An ops Q i K ⟨T n u,ds⟩ w:=by
 refine pJ h hl λo h1 h2 h3=>?_;unfold Oper.wp;rw[fK,h2,kS hf ha hn hb,Oper.upon_enter];refine hc.mono ?_;rintro e w' ⟨v,rfl,h5⟩;have e5:K ((⟨T n u,ds⟩:Act).put o.dst v) w':=by
  rw[h1,iF];exact h5
 exact e5
end
end Go.Sq
namespace Go.Proofs.Ao
open Go.RowKit Go.Sq
def uI {W:World}{o:Oper}{a:Act}{K:Act->World->Prop}{Q:Exit->Act->World->Prop}(s x:Operand)(ho:o.op=.call { callee:=.builtin .append,args:=#[s,x],argTypes:=#[23,23] })(Um:o.type=23)
  (base e7:Nat) (hs:a.eval s=.slice (some ⟨e7,0,none⟩) 0 0) (he:W.heap[e7]?=some (.cells #[] 46 (0,0))) (hb7:base<=e7) (ad:Addr) (b oo c:Nat) (l:List Be) (had:l≠[]->ad=⟨b,oo,none⟩) (hx:a.eval x=.slice (some ad) l.length c) (hc:∀(i:Nat) (h:Be),l[i]?=some h->∃B,Kt W B b (oo+i*4) h) (hl:l.length<=20) (hbase:base<=W.heap.size)
  (h:∀v' w',w'.ownsRow base 46 4 v' l.length (EW W b oo l.length)->W.grownBy w' (some e7)->W.drawn<=w'.drawn->K (a.put o.dst v') w'):Oper.wp An o a W K Q:=by
 obtain⟨i0,hi,hz0,hz1,hz2⟩:=info_parts zR;have hcell:∀j,j<l.length*4->∃u,W.cell? ⟨b,oo+j,none⟩=some u/\u.oneCell'=true:=λj hj=>by
  obtain⟨B,h1,h2,h3,A,cc,h4,_⟩:=hc (j / 4) _ (xi (show j / 4<l.length by omega));have:j % 4=0\/j % 4=1\/j % 4=2\/j % 4=3:=by omega
  rcases this with e|e|e|e
  .rw[show oo+j=oo+j / 4*4 by omega];exact⟨_,h1,rfl⟩
  .rw[show oo+j=oo+j / 4*4+1 by omega];exact⟨_,h2,rfl⟩
  .rw[show oo+j=oo+j / 4*4+2 by omega];exact⟨_,h3,rfl⟩
  .rw[show oo+j=oo+j / 4*4+3 by omega];exact⟨_,h4,rfl⟩
 have hown:W.ownsRow base 46 4 (.slice (some ⟨e7,0,none⟩) 0 0) 0 []:=⟨rfl,.inr ⟨e7,0,#[],rfl,hb7,he,by omega,by unfold maxLen;omega,rfl,rfl⟩⟩
 obtain⟨v',w',hr,h2,h3,h4⟩:=run_append_own (P:=An) W base 23 23 46 i0 _ 4 48 Sq.underlying23 hi hz0 hz1 hz2 rfl (by decide) _ 0 [] hown ad l.length c (EW W b oo l.length) (Fp _ _ _ _) (λj u hj=>by
  have hlt:j<l.length*4:=by have:=(xL.1 hj).1;rwa [Fp] at this
  rw[fj hlt] at hj;obtain⟨v,hv,_⟩:=hcell j hlt;rw[hv] at hj;rw[had (λe=>by rw[e] at hlt;simp at hlt),Addr.add_lit,hv];exact hj) (λu hu=>by
  obtain⟨j,hj,rfl⟩:=xW.1 hu;obtain⟨v,hv,h1⟩:=hcell j (x9.1 hj)
  rw[hv];exact h1) (by unfold maxLen;omega) (by omega) hbase
 have hd:=Go.AW.Cr An (Builtin.append_ #[23,23] 23 #[.slice (some ⟨e7,0,none⟩) 0 0,.slice (some ad) l.length c]) W #[];rw[Sem.runT_fst,hr] at hd;unfold Oper.wp execOp;simp only[ho,resolve,invoke,builtin,Sem.run_bind,Sem.run_pure,Result.andThen_ok,zm,zc,zk,hs,hx,hr,Um];exact h v' w' (by simpa using h2) h3 hd
def II {w:World}{base size n:Nat}{e:TypeId}{v:Value}{xs:List Value}(h:w.ownsRow base e size v n xs):∃A c,v=.slice A n c:=by
 rcases h.2 with⟨rfl,rfl⟩|⟨g,c,_,rfl,_⟩
 .exact⟨_,_,rfl⟩
 .exact⟨_,_,rfl⟩
structure CC (w:World)(B q:Nat)(c:AD)(vN vH:Value)(xs:List Value)(k:Nat)(W:World):Prop where
 gr:Gr w W
 bd:w.heap.size=q/\q+2<=W.heap.size
 qo:W.heap[q]?=some (.cells #[vN,vH] 25 (0,0))
 ro:W.heap[q+1]?=some (.cells #[.slice none 0 0,.slice none 0 0] 25 (0,0))
 Aq:W.ownsRow (q+2) 3 1 vN c.Aq.length (c.Aq.map (Value.int .i64))
 own:W.ownsRow (q+2) 46 4 vH c.Ap.length xs
 Jc:∀i h,c.Ap[i]?=some h->∃y,(∀j,j<4->xs[i*4+j]?=(dH h y)[j]?)/\if i<k then W.ownsRow (q+2) 3 1 y h.off.length (h.off.map (Value.int .i64)) else ∃A cc,y=.slice A h.off.length cc/\RI W B A h.off
section
variable {w W W':World} {B q:Nat} {c:AD} {vN vH:Value} {xs:List Value} {k:Nat}
def CC.keep (h:CC w B q c vN vH xs k W)(hB:B<=w.heap.size)(hg:Gr W W'):CC w B q c vN vH xs k W':=by
 obtain⟨b1,b2⟩:=h.bd;have ok:∀ {e:TypeId} {sz n:Nat} {y:Value} {zs:List Value},W.ownsRow (q+2) e sz y n zs->W'.ownsRow (q+2) e sz y n zs:=λho=>ar ho λg _ hl=>hg.below.block g hl;refine⟨h.gr.trans hg,⟨b1,by have:=hg.size;omega⟩,(hg.below.block q (by omega)).trans h.qo,(hg.below.block (q+1) (by omega)).trans h.ro,ok h.Aq,ok h.own,λi x hx=>?_⟩;obtain⟨y,h1,h2⟩:=h.Jc i x hx;refine⟨y,h1,?_⟩;split
 .rename_i hi;rw[if_pos hi] at h2;exact ok h2
 .rename_i hi;rw[if_neg hi] at h2;obtain⟨A,cc,e,hr⟩:=h2;exact⟨A,cc,e,hr.gr (by omega) hg⟩
def CC.start {Wx:World}{b oo:Nat}{u0 u1:Value}(hg:Gr w W)(hB:B<=w.heap.size)(hq:w.heap.size=q)(hz:q+2<=W.heap.size)(h0:W.heap[q]?=some (.cells #[u0,u1] 25 (0,0)))(h1:W.heap[q+1]?=some (.cells #[.slice none 0 0,.slice none 0 0] 25 (0,0)))
  (hn:W.ownsRow (q+2) 3 1 vN c.Aq.length (c.Aq.map (Value.int .i64))) (ho:W.ownsRow (q+2) 46 4 vH c.Ap.length (EW Wx b oo c.Ap.length)) (hx:Gr w Wx) (hc:∀(i:Nat) (h:Be),c.Ap[i]?=some h->b<B/\Kt w B b (oo+i*4) h) :
  CC w B q c vN vH (EW Wx b oo c.Ap.length) 0 ((W.setCell ⟨q,0,none⟩ vN).setCell ⟨q,1,none⟩ vH):=by
 have hs:∀x,x≠q->((W.setCell ⟨q,0,none⟩ vN).setCell ⟨q,1,none⟩ vH).heap[x]?=W.heap[x]?:=λx Hh=>(xD _ _ _ _ Hh).trans (xD _ _ _ _ Hh);refine⟨(hg.setCell (by show _<=q;omega) _).setCell (by show _<=q;omega) _,⟨hq,by simpa [World.setCell] using hz⟩,?_,(hs _ (by omega)).trans h1,ar hn λg C1 _=>hs g (by have:=(hn.lt g C1).1;omega),ar ho λg C1 _=>hs g (by have:=(ho.lt g C1).1;omega),λi x hi=>?_⟩
 .rw[ax (ax h0)];rfl
 .obtain⟨hb,a1,a2,a3,A,cc,a4,hr⟩:=hc i x hi;have X2:i<c.Ap.length:=(xL.1 hi).1;have hw:∀o,Wx.cell? ⟨b,o,none⟩=w.cell? ⟨b,o,none⟩:=λo=>hx.cell (by show b<_;omega)
  refine⟨.slice A x.off.length cc,λj hj=>?_,by
   rw[if_neg (by omega)]
   exact⟨A,cc,rfl,hr.keep λb' o' hb'=>(xH (hs b' (by omega))).trans (hg.cell (by show b'<_;omega))⟩⟩
  rw[fj (by omega),hw];rcases(show j=0\/j=1\/j=2\/j=3 by omega) with rfl|rfl|rfl|rfl
  .rw[Nat.add_zero,a1];rfl
  .rw[<-zd,a2];rfl
  .rw[<-zd,a3];rfl
  .rw[<-zd,a4];rfl
def CC.bare (hg:Gr w W)(hq:w.heap.size=q)(hz:q+2<=W.heap.size)(h0:W.heap[q]?=some (.cells #[vN,vH] 25 (0,0)))(h1:W.heap[q+1]?=some (.cells #[.slice none 0 0,.slice none 0 0] 25 (0,0)))
  (hn:W.ownsRow (q+2) 3 1 vN c.Aq.length (c.Aq.map (Value.int .i64))) (he:c.Ap=[]) {e7:Nat} (hv:vH=.slice (some ⟨e7,0,none⟩) 0 0) (h7:q+2<=e7) (hc7:W.heap[e7]?=some (.cells #[] 46 (0,0))):CC w B q c vN vH [] 0 W:=by
 subst hv
 exact⟨hg,⟨hq,hz⟩,h0,h1,hn,by
  rw[he]
  exact⟨rfl,.inr ⟨e7,0,#[],rfl,h7,hc7,by simp,by unfold maxLen;simp,rfl,rfl⟩⟩,λi x hx=>by rw[he] at hx;simp at hx⟩
def Al {u0 u1 vN:Value}(hB:w.heap.size=q)(hg:Gr w W)(hz:q+2<=W.heap.size)(h0:W.heap[q]?=some (.cells #[u0,u1] 25 (0,0)))(h1:W.heap[q+1]?=some (.cells #[.slice none 0 0,.slice none 0 0] 25 (0,0)))(hn:W.ownsRow (q+2) 3 1 vN c.Aq.length (c.Aq.map (Value.int .i64)))(he:c.Ap=[]) :
  CC w B q c vN (.slice (some ⟨W.heap.size,0,none⟩) 0 0) [] 0 (((W.setCell ⟨q,0,none⟩ vN).setCell ⟨q,1,none⟩ (.slice (some ⟨W.heap.size,0,none⟩) 0 0)).alloc (.cells #[] 46 (0,0))):=by
 have hsz:∀v,((W.setCell ⟨q,0,none⟩ vN).setCell ⟨q,1,none⟩ v).heap.size=W.heap.size:=λv=>by simp[World.setCell]
 have hs:∀v x,x<W.heap.size->x≠q->(((W.setCell ⟨q,0,none⟩ vN).setCell ⟨q,1,none⟩ v).alloc (.cells #[] 46 (0,0))).heap[x]?=W.heap[x]?:=λv x hl Hh=>(heap_alloc_old _ _ (by rw[hsz];exact hl)).trans ((xD _ _ _ _ Hh).trans (xD _ _ _ _ Hh));refine CC.bare (((hg.setCell (by show _<=q;omega) _).setCell (by show _<=q;omega) _).alloc _) hB (by simp[World.setCell];omega) ?_ ((hs _ _ (by omega) (by omega)).trans h1) (ar hn λg C1 hl=>hs _ g hl (by have:=(hn.lt g C1).1;omega)) he (e7:=W.heap.size) rfl hz ?_
 .refine(heap_alloc_old _ _ (by rw[hsz];omega)).trans ?_;rw[ax (ax h0)];rfl
 .exact(congrArg (λi=>(((W.setCell ⟨q,0,none⟩ vN).setCell ⟨q,1,none⟩ (.slice (some ⟨W.heap.size,0,none⟩) 0 0)).alloc (.cells #[] 46 (0,0))).heap[i]?) (hsz _).symm).trans (heap_alloc_new _ _)
def Am {u0 u1 vN:Value}{e7:Nat}(hB:w.heap.size=q)(hg:Gr w W)(hz:q+2<=W.heap.size)(h0:W.heap[q]?=some (.cells #[u0,u1] 25 (0,0)))(h1:W.heap[q+1]?=some (.cells #[.slice none 0 0,.slice none 0 0] 25 (0,0)))(hn:W.ownsRow (q+2) 3 1 vN c.Aq.length (c.Aq.map (Value.int .i64)))(he:c.Ap=[])(h7:q+2<=e7)(hc7:W.heap[e7]?=some (.cells #[] 46 (0,0))) :
  CC w B q c vN (.slice (some ⟨e7,0,none⟩) 0 0) [] 0 ((W.setCell ⟨q,0,none⟩ vN).setCell ⟨q,1,none⟩ (.slice (some ⟨e7,0,none⟩) 0 0)):=by
 have hs:∀v x,x≠q->((W.setCell ⟨q,0,none⟩ vN).setCell ⟨q,1,none⟩ v).heap[x]?=W.heap[x]?:=λv x Hh=>(xD _ _ _ _ Hh).trans (xD _ _ _ _ Hh);refine CC.bare ((hg.setCell (by show _<=q;omega) _).setCell (by show _<=q;omega) _) hB (by simp[World.setCell];omega) ?_ ((hs _ _ (by omega)).trans h1) (ar hn λg C1 hl=>hs _ g (by have:=(hn.lt g C1).1;omega)) he (e7:=e7) rfl h7 ((hs _ _ (by omega)).trans hc7)
 rw[ax (ax h0)];rfl
def CC.put {g hc:Nat}{y':Value}(h:CC w B q c vN (.slice (some ⟨g,0,none⟩) c.Ap.length hc) xs k W)(hB:B<=w.heap.size)(hk:k<c.Ap.length)(hy:W.ownsRow (q+2) 3 1 y' (c.h k).off.length ((c.h k).off.map (Value.int .i64))) :
  CC w B q c vN (.slice (some ⟨g,0,none⟩) c.Ap.length hc) (xs.set (k*4+3) y') (k+1) (W.setCell ⟨g,k*4+3,none⟩ y'):=by
 obtain⟨b1,b2⟩:=h.bd;have hgb:=h.own.lt g rfl;have hlen:xs.length=c.Ap.length*4:=h.own.1;have hs:∀b,b≠g->(W.setCell ⟨g,k*4+3,none⟩ y').heap[b]?=W.heap[b]?:=λb hb=>xD _ _ _ _ hb;have ok:∀ {sz n:Nat} {y:Value} {zs:List Value},W.ownsRow (q+2) 3 sz y n zs->(W.setCell ⟨g,k*4+3,none⟩ y').ownsRow (q+2) 3 sz y n zs:=λho=>ar ho λb hb _=>hs b λe=>gY (by decide) ho h.own hb (by rw[e];rfl);refine⟨h.gr.setCell (by show _<=g;omega) _,⟨b1,by simpa [World.setCell] using b2⟩,(hs q (by omega)).trans h.qo,(hs (q+1) (by omega)).trans h.ro,ok h.Aq,(h.own.stored (k*4+3) y').1,λi x hx=>?_⟩
 obtain⟨y,h1,h2⟩:=h.Jc i x hx;by_cases e:i=k
 .subst e;have ex:x=c.h i:=by
   unfold AD.h;rw[hx];rfl
  refine⟨y',λj hj=>?_,by rw[if_pos (by omega),ex];exact ok hy⟩;by_cases e3:j=3
  .subst e3;rw[List.getElem?_set_self (by omega)];rfl
  .rw[List.getElem?_set_ne (by omega),h1 j hj];rcases(show j=0\/j=1\/j=2 by omega) with rfl|rfl|rfl<;>rfl
 .refine⟨y,λj hj=>by rw[List.getElem?_set_ne (by omega)];exact h1 j hj,?_⟩;by_cases hi:i<k
  .rw[if_pos hi] at h2;rw[if_pos (by omega)];exact ok h2
  .rw[if_neg hi] at h2;rw[if_neg (by omega)];obtain⟨A,cc,e4,hr⟩:=h2;exact⟨A,cc,e4,hr.keep λb o hb=>xH (hs b (by omega))⟩
end
noncomputable def mB:Code:=Tryz.f10.body.getD .skip
noncomputable def MF:Code:=Ik 2 mB
structure Hc (w:World)(base:Nat)(c:AD)(vN vH:Value)(xs:List Value):Prop where
 Aq:w.ownsRow base 3 1 vN c.Aq.length (c.Aq.map (Value.int .i64))
 own:w.ownsRow base 46 4 vH c.Ap.length xs
 Jc:∀(i:Nat) (h:Be),c.Ap[i]?=some h->∃y,(∀j,j<4->xs[i*4+j]?=(dH h y)[j]?)/\w.ownsRow base 3 1 y h.off.length (h.off.map (Value.int .i64))
def iG (c:AD)(w:World)(e:Ending)(w':World):Prop :=
 Gr w w'/\∃OT hA' SA hc' xs,e=.returned (AH OT hA' c SA hc')/\Hc w' w.heap.size c (.slice OT c.Aq.length SA) (.slice hA' c.Ap.length hc') xs
def mC (c:AD)(w:World)(e:Ending)(w':World):Prop :=
 Gr w w'/\∃OT hA' SA hc',e=.returned (AH OT hA' c SA hc')/\FC w' (λb=>w.heap.size<=b/\b<w'.heap.size) OT c.Aq/\Dj w' (λb=>w.heap.size<=b/\b<w'.heap.size) hA' c.Ap
def Hc.rik {w:World}{base nc:Nat}{c:AD}{nA:Option Addr}{vH:Value}{xs:List Value}(h:Hc w base c (.slice nA c.Aq.length nc) vH xs):FC w (λb=>base<=b/\b<w.heap.size) nA c.Aq:=by
 obtain⟨A,k,e,hr⟩:=DL h.Aq;injection e with e1 _ _
 subst e1;exact hr
def Hc.hsk {w:World}{base hc:Nat}{c:AD}{hA:Option Addr}{vN:Value}{xs:List Value}(h:Hc w base c vN (.slice hA c.Ap.length hc) xs):Dj w (λb=>base<=b/\b<w.heap.size) hA c.Ap:=λhn=>by
 obtain⟨g,cap,e,hgb,JD⟩:=h.own.form (List.length_pos_iff.2 hn);injection e with e1 _ _
 subst e1;refine⟨g,0,rfl,⟨hgb,JD⟩,λi x hx=>?_⟩;have X2:i<c.Ap.length:=(xL.1 hx).1;obtain⟨y,hy,Xf⟩:=h.Jc i x hx;obtain⟨A',c',rfl,hr⟩:=DL Xf;have Yx:xs.length=c.Ap.length*4:=h.own.1;have at_:∀j z,j<4->(dH x (.slice A' x.off.length c'))[j]?=some z->w.cell? ⟨g,0+i*4+j,none⟩=some z:=λj z hj4 hz=>by
  rw[show 0+i*4+j=i*4+j by omega,h.own.cellAt (i*4+j) (by omega),hy j hj4];exact hz
 exact⟨at_ 0 _ (by omega) rfl,at_ 1 _ (by omega) rfl,at_ 2 _ (by omega) rfl,A',c',at_ 3 _ (by omega) rfl,hr⟩
def rn {c:AD}{w w':World}{e:Ending}(h:iG c w e w'):mC c w e w':=by
 obtain⟨h1,nA,hA,nc,hc,xs,rfl,h2⟩:=h;exact⟨h1,nA,hA,nc,hc,rfl,h2.rik,h2.hsk⟩
def pK {w W:World}{B OU hc9:Nat}{c:AD}{OV R3:Option Addr}{xs:List Value}(h:CC w B w.heap.size c (.slice OV c.Aq.length OU) (.slice R3 c.Ap.length hc9) xs c.Ap.length W)(hB:B<=w.heap.size)(v0 v1:Value) :
  iG c w (.returned (AH OV R3 c OU hc9)) ((W.setCell ⟨w.heap.size+1,0,none⟩ v0).setCell ⟨w.heap.size+1,1,none⟩ v1):=by
 have hs:∀b,b≠w.heap.size+1->((W.setCell ⟨w.heap.size+1,0,none⟩ v0).setCell ⟨w.heap.size+1,1,none⟩ v1).heap[b]?=W.heap[b]?:=λb hb=>(xD _ _ _ _ hb).trans (xD _ _ _ _ hb);have ok:∀ {e:TypeId} {s n:Nat} {v:Value} {zs:List Value},W.ownsRow (w.heap.size+2) e s v n zs->((W.setCell ⟨w.heap.size+1,0,none⟩ v0).setCell ⟨w.heap.size+1,1,none⟩ v1).ownsRow w.heap.size e s v n zs:=λho=>Cj (ar ho λg hg _=>hs g (by have:=(ho.lt g hg).1;omega)) (by omega)
 refine⟨(h.gr.setCell (by show _<=w.heap.size+1;omega) _).setCell (by show _<=w.heap.size+1;omega) _,_,_,_,_,xs,rfl,ok h.Aq,ok h.own,λi x hx=>?_⟩;obtain⟨y,hy,Xf⟩:=h.Jc i x hx;rw[if_pos (xL.1 hx).1] at Xf;exact⟨y,hy,ok Xf⟩
noncomputable def R4:Array Oper:=match EA (match EA (Hu (match(match Hu (EA MF) with|.block _ b=>b|c=>c) with|.loop b=>b|c=>c)) with|.block _ b=>b|c=>c) with|.region _ o _=>o|_=>#[]
def abB (w0:World)(nq:Nat)(L:List Value)(v:Value)(w:World):Prop:=∃A k,v=.slice A nq k/\w.ownsRow w0.heap.size 3 1 v nq L
def rp (w0:World)(nq:Nat)(L:List Value):Hb Gr (abB w0 nq L):=λv w w' hg ⟨A,k,e,h⟩=>⟨A,k,e,ar h λb _ hb=>hg.below.block b hb⟩
def sY {A:Option Addr}{q g k n nq cc hc9:Nat}{L:List Value}{W:World}{u:Nat->Value}{Q:Exit->Act->World->Prop}(h1:u 1=.pointer (some ⟨q,0,none⟩))(h3:u 3=.int .i64 (k:Nat))(hk:k<n)
  (HC:Hid (∀V,Gr W V->(V.cell? ⟨q,1,none⟩=some (.slice (some ⟨g,0,none⟩) n hc9)/\V.cell? ⟨g,k*4+3,none⟩=some (.slice A nq cc)/\V.frozen? ⟨g,k*4+3,none⟩=false)/\q<V.heap.size/\g<V.heap.size))
  (HQ:Hid (∀V,Gr W V->Calls An 31 #[.slice A nq cc] V λe w'=>∃v,e=.returned v/\w'.ownsRow V.heap.size 3 1 v nq L/\Gr V w'))
  (hK:∀W5 u' A5 k5,Gr W W5->W5.ownsRow W.heap.size 3 1 (.slice A5 nq k5) nq L->(∀t,t≠30->t≠31->Ko R4 t=true->u' t=u t)->Q .normal ⟨T 33 u',[]⟩ (W5.setCell ⟨g,k*4+3,none⟩ (.slice A5 nq k5))):(Code.region 5 R4 true).wp An Q ⟨T 33 u,[]⟩ W:=by
 refine fL (R:=Gr) (m:=10) (by kernel_rfl) [λv _=>v=.pointer (some ⟨q,1,none⟩),λv _=>v=.slice (some ⟨g,0,none⟩) n hc9,λv _=>v=.int .i64 (k:Nat),λv _=>v=.pointer (some ⟨q,1,none⟩),λv _=>v=.slice (some ⟨g,0,none⟩) n hc9,λv _=>v=.int .i64 (k:Nat),λv _=>v=.pointer (some ⟨g,k*4,none⟩),λv _=>v=.pointer (some ⟨g,k*4+3,none⟩),λv _=>v=.slice A nq cc,abB W nq L] ⟨aa _,aa _,aa _,aa _,aa _,aa _,aa _,aa _,aa _,rp _ _ _,trivial⟩ ⟨⟨⟨⟨⟨⟨⟨⟨⟨⟨trivial,?_⟩,?_⟩,?_⟩,?_⟩,?_⟩,?_⟩,?_⟩,?_⟩,?_⟩,?_⟩ λu w hg hf hv=>?_
 .intro u w hg hf hl hd;refine am (op:=.fieldAddr 25 (.tmp 1) 1) (t:=0) rfl (λev he=>?_);have e1:=(he.t 1).trans ((hf.at_ 1).trans h1);clear hg hf hl hd he;go_simp
 .intro u w hg hf hl hd;refine am (op:=.load 23 (.tmp 20)) (t:=23) rfl (λev he=>?_);have e20:=(he.t 20).trans (hd.at_ 0 20);obtain⟨⟨c0,c1,f1⟩,cl,rl⟩:=HC.out w hg;clear hg hf hl hd he;go_simp
 .intro u w hg hf hl hd;exact ai rfl ((hf.at_ 3).trans h3)
 .intro u w hg hf hl hd;refine am (op:=.fieldAddr 25 (.tmp 1) 1) (t:=0) rfl (λev he=>?_);have e1:=(he.t 1).trans ((hf.at_ 1).trans h1);clear hg hf hl hd he;go_simp
 .intro u w hg hf hl hd;refine am (op:=.load 23 (.tmp 23)) (t:=23) rfl (λev he=>?_);have S4:=(he.t 23).trans (hd.at_ 3 23);obtain⟨⟨c0,c1,f1⟩,cl,rl⟩:=HC.out w hg;clear hg hf hl hd he;go_simp
 .intro u w hg hf hl hd;exact ai rfl ((hf.at_ 3).trans h3)
 .intro u w hg hf hl hd;refine am (op:=.indexAddr 23 (.tmp 24) (.tmp 25)) (t:=0) rfl (λev he=>?_);have e24:=(he.t 24).trans (hd.at_ 4 24);have Xc:=(he.t 25).trans (hd.at_ 5 25);clear hg hf hl hd he;go_simp
  all_goals (intro h9;omega)
 .intro u w hg hf hl hd;refine am (op:=.fieldAddr 46 (.tmp 26) 3) (t:=0) rfl (λev he=>?_);have e26:=(he.t 26).trans (hd.at_ 6 26);clear hg hf hl hd he;go_simp
 .intro u w hg hf hl hd;refine am (op:=.load 22 (.tmp 27)) (t:=22) rfl (λev he=>?_);have e27:=(he.t 27).trans (hd.at_ 7 27);obtain⟨⟨c0,c1,f1⟩,cl,rl⟩:=HC.out w hg;clear hg hf hl hd he;go_simp
 .intro u w hg hf hl hd;refine aL rfl Sq.func31 #[.slice A nq cc] (λev he=>by simp[((he.t 28).trans (hd.at_ 8 28))]) ((HQ.out w hg).mono λe w' h=>?_)
  .obtain⟨v,rfl,h1,h2⟩:=h;obtain⟨A5,k5,rfl⟩:=II h1;exact⟨_,rfl,h2,A5,k5,rfl,Cj h1 hg.size⟩
 .obtain⟨A5,k5,e29,ho⟩:=hv.at_ 9 29;have e21:=hv.at_ 1 21;have UW:=hv.at_ 2 22;have er:List.range' 10 (R4.size-10)=[10,11,12]:=by kernel_rfl
  obtain⟨⟨c0,c1,f1⟩,cl,rl⟩:=HC.out w hg;rw[er,wpOps_cons];refine ip (op:=.indexAddr 23 (.tmp 21) (.tmp 22)) (t:=0) rfl (.pointer (some ⟨g,k*4,none⟩)) w (λev he=>?_) ?_
  .have e1:=(he.t 21).trans e21;have e2:=(he.t 22).trans UW;clear hv hf hg he hK ho;go_simp
   all_goals (intro h9;omega)
  .rw[wpOps_cons];refine ip (op:=.fieldAddr 46 (.tmp 30) 3) (t:=0) rfl (.pointer (some ⟨g,k*4+3,none⟩)) w (λev he=>?_) ?_
   .have e1:=(he.t 30).trans (bH ..);clear hv hf hg he hK ho;go_simp
   .rw[wpOps_cons];refine ko (op:=.store 22 (.tmp 31) (.tmp 29)) (t:=0) rfl (w.setCell ⟨g,k*4+3,none⟩ (.slice A5 nq k5)) (λev he=>?_) ?_
    .have e1:=(he.t 31).trans (bH ..);have e2:=(he.t 29).trans ((bB (by decide)).trans ((bB (by decide)).trans e29));clear hv hf hg he hK ho;go_simp
    .show Q .normal _ _;exact hK _ _ A5 k5 hg (e29▸ho) λt h30 h31 ht=>(bB h31).trans ((bB h30).trans (hf t ht))
def gp {w W:World}{B OU hc9:Nat}{c:AD}{OV R3:Option Addr}{xs0:List Value}{u:Nat->Value}(h1:u 1=.pointer (some ⟨w.heap.size,0,none⟩))(h2:u 2=.pointer (some ⟨w.heap.size+1,0,none⟩))(hB:B<=w.heap.size)(hl2:c.Ap.length<=20)(BU:∀h∈c.Ap,h.off.length<=20)
  (h:CC w B w.heap.size c (.slice OV c.Aq.length OU) (.slice R3 c.Ap.length hc9) xs0 0 W):MF.wp An (bodyPost An Tryz.f10 (iG c w)) ⟨T 33 u,[]⟩ W:=by
 have HXS:=xf h;have Ms:=xf BU;clear h BU;have ez:MF=Ik 2 mB:=rfl;simp only[Ik,mB,Tryz.f10,Option.getD_some,Hu] at ez;rw[ez];clear ez;unfold T;simp only[List.range,List.range.loop,zc,zk,h1,h2];go_wp2;go_loopw [3] (λi wr=>∃k:Nat,k<=c.Ap.length/\i=.int .i64 k/\∃xs,CC w B w.heap.size c (.slice OV c.Aq.length OU) (.slice R3 c.Ap.length hc9) xs k wr) (λi _=>c.Ap.length-(intOf i).toNat)
 case atStart=>exact⟨0,by omega,rfl,_,HXS.out⟩
 case round =>
  obtain⟨k,hk,rfl,xs,hcc⟩:=hrel;have HCC:=xf hcc;obtain⟨s0,s1⟩:=cell_of_heap hcc.qo 1;obtain⟨s2,_⟩:=cell_of_heap hcc.qo 0;simp only[xT,List.getElem?_cons_succ,List.getElem?_cons_zero] at s0 s2;have hzz:=hcc.bd;have hql:w.heap.size<wr.heap.size:=by omega
  by_cases hlt:k<c.Ap.length
  .obtain⟨g,cap,hv,hgb,JD⟩:=hcc.own.form (by omega);injection hv with hv1 _ hv2
   subst hv1 hv2;have hce:c.Ap[k]?=some (c.h k):=by unfold AD.h;rw[xi hlt];rfl
   obtain⟨y,hy,Xf⟩:=hcc.Jc k _ hce;rw[if_neg (by omega)] at Xf;obtain⟨A,cc,rfl,Ct⟩:=Xf;have Yx:xs.length=c.Ap.length*4:=hcc.own.1;have t0:wr.cell? ⟨g,k*4+3,none⟩=some (.slice A (c.h k).off.length cc):=by
    rw[hcc.own.cellAt (k*4+3) (by omega)];exact hy 3 (by omega)
   have Un:=Ms.out _ (c.FH hlt);have Ij:=xf (λW (hg:Gr wr W)=>gm A cc (c.h k).off W B (Ct.gr (by omega) hg) (by have:=hg.size;omega) (by omega));have HKP:Hid (∀W,Gr wr W->CC w B w.heap.size c (.slice OV c.Aq.length OU) (.slice (some ⟨g,0,none⟩) c.Ap.length hc9) xs k W):=xf λW hg=>hcc.keep hB hg;have Sw:Hid (∀W,Gr wr W->((W.cell? ⟨w.heap.size,1,none⟩=some (.slice (some ⟨g,0,none⟩) c.Ap.length hc9)/\W.frozen? ⟨w.heap.size,1,none⟩=false)/\W.cell? ⟨g,k*4+3,none⟩=some (.slice A (c.h k).off.length cc)/\W.frozen? ⟨g,k*4+3,none⟩=false)/\w.heap.size<W.heap.size/\g<W.heap.size):=xf λW hg=>by
    have h:=HKP.out W hg;obtain⟨s0,s1⟩:=cell_of_heap h.qo 1;exact⟨⟨⟨s0,s1⟩,(hg.cell (p:=⟨g,k*4+3,none⟩) JD).trans t0,h.own.frozenAt (k*4+3)⟩,by have:=hg.size;omega,by have:=hg.size;omega⟩
   have f0:=hcc.own.frozenAt (k*4+3);have FB:=xf (Gr.refl wr);have hne1:¬g=w.heap.size:=by omega
   have hne2:¬w.heap.size=g:=by omega
   generalize hnq:(c.h k).off.length=nq at t0 Ij Sw Un;replace hnq:=xf hnq;clear hcc hy Ct Yx s2;go_wp2;rename_i hKK _;refine sV 33 rfl λu5 hu=>?_;refine sY (q:=w.heap.size) (g:=g) (k:=k) (n:=c.Ap.length) (hc9:=hc9) (hu 1) (hu 3) hlt (xf λV hV=>⟨⟨(Sw.out V hV).1.1.1,(Sw.out V hV).1.2⟩,(Sw.out V hV).2⟩) Ij λW5 u6 A5 k5 GJ ho5 Jn=>?_;have e0:=(Jn 0 (by decide) (by decide) (by kernel_rfl)).trans (hu 0)
   have e1:=(Jn 1 (by decide) (by decide) (by kernel_rfl)).trans (hu 1);have e2:=(Jn 2 (by decide) (by decide) (by kernel_rfl)).trans (hu 2);have e3:=(Jn 3 (by decide) (by decide) (by kernel_rfl)).trans (hu 3);have e4:=(Jn 4 (by decide) (by decide) (by kernel_rfl)).trans (hu 4);have e5:=(Jn 5 (by decide) (by decide) (by kernel_rfl)).trans (hu 5);have e6:=(Jn 6 (by decide) (by decide) (by kernel_rfl)).trans (hu 6)
   have e7:=(Jn 7 (by decide) (by decide) (by kernel_rfl)).trans (hu 7);have e8:=(Jn 8 (by decide) (by decide) (by kernel_rfl)).trans (hu 8);have e9:=(Jn 9 (by decide) (by decide) (by kernel_rfl)).trans (hu 9);have OH:=(Jn 10 (by decide) (by decide) (by kernel_rfl)).trans (hu 10);have e11:=(Jn 11 (by decide) (by decide) (by kernel_rfl)).trans (hu 11);have R5:=(Jn 12 (by decide) (by decide) (by kernel_rfl)).trans (hu 12)
   have e13:=(Jn 13 (by decide) (by decide) (by kernel_rfl)).trans (hu 13);have e14:=(Jn 14 (by decide) (by decide) (by kernel_rfl)).trans (hu 14);have UG:=(Jn 15 (by decide) (by decide) (by kernel_rfl)).trans (hu 15);have e16:=(Jn 16 (by decide) (by decide) (by kernel_rfl)).trans (hu 16);have Z4:=(Jn 17 (by decide) (by decide) (by kernel_rfl)).trans (hu 17);have e18:=(Jn 18 (by decide) (by decide) (by kernel_rfl)).trans (hu 18)
   have e19:=(Jn 19 (by decide) (by decide) (by kernel_rfl)).trans (hu 19);have e32:=(Jn 32 (by decide) (by decide) (by kernel_rfl)).trans (hu 32);clear hu Jn;dsimp only[List.getElem?_cons_succ,List.getElem?_cons_zero,Option.getD_some] at e0 e1 e2 e3 e4 e5 e6 e7 e8 e9 OH e11 R5 e13 e14 UG e16 Z4 e18 e19 e32;have agH:=xf ((HKP.out W5 GJ).put hB hlt (y':=.slice A5 nq k5) (by rw[hnq.out];exact Cj ho5 (by omega)))
   refine hKK _ _ ?_;unfold T;simp only[List.range,List.range.loop,zc,zk,e0,e1,e2,e3,e4,e5,e6,e7,e8,e9,OH,e11,R5,e13,e14,UG,e16,Z4,e18,e19,e32];clear Sw Ij HKP ho5 GJ e0 e1 e2 e3 e4 e5 e6 e7 e8 e9 OH e11 R5 e13 e14 UG e16 Z4 e18 e19 e32;go_wp2;go_roundw
   case rel=>exact⟨k+1,by omega,by go_num,_,agH.out⟩
   case measure=>simp[intOf];omega
  .have E4:k=c.Ap.length:=by omega
   subst E4;obtain⟨t0,t1⟩:=cell_of_heap hcc.ro 0;obtain⟨t2,_⟩:=cell_of_heap hcc.ro 1;simp only[xT,List.getElem?_cons_succ,List.getElem?_cons_zero] at t0 t2;obtain⟨_,t3⟩:=cell_of_heap hcc.ro 1;have hql2:w.heap.size+1<wr.heap.size:=by omega
   have agI:=xf (λv0 v1=>pK hcc hB v0 v1);clear hcc;go_wp2;have z0:((wr.setCell ⟨w.heap.size+1,0,none⟩ (.slice OV c.Aq.length OU)).setCell ⟨w.heap.size+1,1,none⟩ (.slice R3 c.Ap.length hc9)).cell? ⟨w.heap.size+1,0,none⟩=some (.slice OV c.Aq.length OU):=by
    rw[xq _ _ _ _ (by simp)];exact xE _ _ _ t0
   have z1:((wr.setCell ⟨w.heap.size+1,0,none⟩ (.slice OV c.Aq.length OU)).setCell ⟨w.heap.size+1,1,none⟩ (.slice R3 c.Ap.length hc9)).cell? ⟨w.heap.size+1,1,none⟩=some (.slice R3 c.Ap.length hc9) :=
    xE _ _ _ ((xq _ _ _ _ (by simp)).trans t2)
   have hend:=agI.out (.slice OV c.Aq.length OU) (.slice R3 c.Ap.length hc9);generalize (wr.setCell ⟨w.heap.size+1,0,none⟩ (.slice OV c.Aq.length OU)).setCell ⟨w.heap.size+1,1,none⟩ (.slice R3 c.Ap.length hc9)=W8 at z0 z1 hend;refine bodyPost_ret (v:=.agg #[.slice OV c.Aq.length OU,.slice R3 c.Ap.length hc9]) (by simp[results,Tryz.results10,go_sem,z0,z1]) rfl hend
def nu (nA hA:Option Addr)(nc hc:Nat)(c:AD)(w:World)(B:Nat)(hB:B<=w.heap.size)(hn:RI w B nA c.Aq)(hh:BG w B hA c.Ap)(DG:c.Aq.length<=20)(hl2:c.Ap.length<=20)(BU:∀h∈c.Ap,h.off.length<=20) :
  Calls An 10 #[AH nA hA c nc hc] w (iG c w):=by
 unfold AH;obtain⟨W0,hW0⟩:∃W0:World,W0=(w.alloc (.cells #[.slice nA c.Aq.length nc,.slice hA c.Ap.length hc] 25)).alloc (.cells #[.slice none 0 0,.slice none 0 0] 25):=⟨_,rfl⟩;have hg0:Gr w W0:=hW0▸((Gr.refl w).alloc _).alloc _;have hz0:W0.heap.size=w.heap.size+2:=by rw[hW0];simp
 have B4:=xf hg0;have HH:=xf hh;have HN:=xf hn;have Ms:=xf BU;have HC:Hid (∀W,Gr W0 W->(W.cell? ⟨w.heap.size,0,none⟩=some (.slice nA c.Aq.length nc)/\W.frozen? ⟨w.heap.size,0,none⟩=false/\W.cell? ⟨w.heap.size,1,none⟩=some (.slice hA c.Ap.length hc)/\W.frozen? ⟨w.heap.size,1,none⟩=false)/\w.heap.size<W.heap.size):=xf λW hg=>by
  have:=hg.size;have e1:∀i,i<2->W.cell? ⟨w.heap.size,i,none⟩=(#[Value.slice nA c.Aq.length nc,.slice hA c.Ap.length hc])[i]?:=λi hi=>by
   rw[hg.cell (by show w.heap.size<_;omega),hW0,xI _ _ _ (by simp),xj _ _ _ _ rfl]
  have e2:∀i,i<2->W.frozen? ⟨w.heap.size,i,none⟩=false:=λi hi=>by
   rw[hg.frozen (by show w.heap.size<_;omega),hW0,yF _ _ _ (by simp),xX _ _ _ _ rfl]
  exact⟨⟨e1 0 (by omega),e2 0 (by omega),e1 1 (by omega),e2 1 (by omega)⟩,by omega⟩
 have HW:=xf hW0;have Su:=xf (λW (hg:Gr W0 W)=>gm nA nc c.Aq W B (HN.out.gr hB (B4.out.trans hg)) (by have:=hg.size;omega) (by omega));clear hg0 hh hn BU hW0;go_enter Sq.func10,Tryz.ntmps10;go_wp2;rw[<-HW.out];obtain⟨⟨a0,a1,a2,a3⟩,a4⟩:=HC.out W0 (.refl _);have FB:=xf (Gr.refl W0)
 have U3:Hid (W0.heap[w.heap.size]?=some (.cells #[.slice nA c.Aq.length nc,.slice hA c.Ap.length hc] 25 (0,0))/\W0.heap[w.heap.size+1]?=some (.cells #[.slice none 0 0,.slice none 0 0] 25 (0,0))):=xf (by
  rw[HW.out]
  exact⟨(heap_alloc_old _ _ (by simp)).trans (heap_alloc_new _ _),aD _ _ (by simp)⟩)
 cases hA with
 |none =>
  have he:c.Ap=[]:=by
   cases hl:c.Ap with
   |nil=>rfl
   |cons x l=>obtain⟨_,_,e,_⟩:=HH.out (by rw[hl];simp);cases e
  have hel:c.Ap.length=0:=by rw[he];rfl
  have HEL:=xf hel;have HE:=xf he;rw[hel] at a2 HC ⊢;have Ex:=xf (λW (hg:Gr W0 W)=>B4.out.trans hg);clear he hel hl2;go_region_law (refine fm (by rfl) ?_;go_simp;go_at_call 31;refine(Su.out _ (by first|exact FB.out|exact FB.out.drew|exact FB.out.alloc _|exact FB.out.drew.alloc _)).mono ?_;rintro e w3 ⟨v3,rfl,E9,hg3⟩;obtain⟨A3,k3,rfl⟩:=II E9;have HGK:=xf hg3;have Ky:=xf E9;have D8:=xf ((show Gr W0 _ by first|exact FB.out|exact FB.out.drew|exact FB.out.alloc _|exact FB.out.drew.alloc _).trans hg3);clear a0 a1 a2 a3 a4 E9 hg3;obtain⟨⟨a0,a1,a2,a3⟩,a4⟩:=HC.out w3 D8.out;replace FB:=D8;clear D8;dsimp only)
  all_goals
   have Sm:Gr w w3:=B4.out.trans FB.out;have hs3:=FB.out.size;have hO3:w3.ownsRow (w.heap.size+2) 3 1 (.slice A3 c.Aq.length k3) c.Aq.length (c.Aq.map (Value.int .i64)):=Cj Ky.out (by first|(show _<=W0.heap.size;omega)|(show _<=(W0.alloc _).heap.size;simp;omega));have Y4:w3.heap[w.heap.size]?=_:=(FB.out.below.block _ (by omega)).trans U3.out.1;have UH:w3.heap[w.heap.size+1]?=_:=(FB.out.below.block _ (by omega)).trans U3.out.2
   refine(‹∀(a:Act) (w:World),Code.wp An _ _ a w->_›) _ _ ?_;refine sV 33 rfl λu hu=>?_
   first
    |exact gp (hu 1) (hu 2) hB (by rw[HEL.out];omega) Ms.out (hc9:=0) (by rw[HEL.out];exact Al rfl Sm (by omega) Y4 UH hO3 HE.out)
    |exact gp (hu 1) (hu 2) hB (by rw[HEL.out];omega) Ms.out (hc9:=0) (by rw[HEL.out];exact Am rfl Sm (by omega) Y4 UH hO3 HE.out (by omega) ((HGK.out.below.block _ (by simp[hz0])).trans (aD _ _ (by simp[hz0]))))
 |some ad =>
  obtain⟨b,oo,had,hat⟩:∃b oo,(c.Ap≠[]->ad=⟨b,oo,none⟩)/\∀(i:Nat) (h:Be),c.Ap[i]?=some h->b<B/\Kt w B b (oo+i*4) h:=by
   by_cases he:c.Ap=[]
   .exact⟨0,0,λh=>absurd he h,λi h hi=>by rw[he] at hi;simp at hi⟩
   .obtain⟨b,oo,e,hb,hc⟩:=HH.out he;exact⟨b,oo,λ_=>by injection e,λi h hi=>⟨hb,hc i h hi⟩⟩
  have HAD:=xf had;have Tu:=xf hat;have Ex:=xf (λW (hg:Gr W0 W)=>B4.out.trans hg);clear had hat
  go_region_law (first
   |(refine fm (by rfl) (uI _ _ (by rfl) (by rfl) (w.heap.size+2) _ (by rfl) (by first|exact heap_alloc_new _ _|exact aD _ _ (by simp[hz0])|exact(HGK.out.below.block _ (by simp[hz0])).trans (aD _ _ (by simp[hz0]))) (by have:=FB.out.size;first|omega|(simp;omega)) ad b oo hc c.Ap HAD.out (by rfl) (λi h hi=>⟨B,(Tu.out i h hi).2.keep (Tu.out i h hi).1 λb o hb=>(Ex.out _ (by first|exact FB.out|exact FB.out.drew|exact FB.out.alloc _|exact FB.out.drew.alloc _)).cell (xl hb hB)⟩) (by omega) (by have:=FB.out.size;first|omega|(simp;omega)) ?_);intro v9 w9 Jd Ks hd9;obtain⟨A9,k9,rfl⟩:=II Jd;have U1:∀x,x<w.heap.size+2->w9.heap[x]?=W0.heap[x]?:=(by intro x hx;refine(Ks.block x (by have:=FB.out.size;first|omega|(simp;omega)) (by have:=FB.out.size;intro e;injection e with e;first|omega|(simp at e;omega))).trans ((show Gr W0 _ by first|exact FB.out|exact FB.out.drew|exact FB.out.alloc _|exact FB.out.drew.alloc _).below.block x (by omega)));have WW:=xf U1;have hz9:w.heap.size+2<=w9.heap.size:=(by have h1:=FB.out.size;have h2:=Ks.size;first|omega|(simp at h2;omega));obtain⟨r0,r1⟩:=cell_of_heap ((U1 w.heap.size (by omega)).trans U3.out.1) 0;obtain⟨r2,r3⟩:=cell_of_heap ((U1 w.heap.size (by omega)).trans U3.out.1) 1;have r4:w.heap.size<w9.heap.size:=(by omega);have HO9:=xf Jd;have Ya:=xf Ks;have HD9:=xf hd9;clear Jd Ks hd9 U1)
   |(refine fm (by rfl) ?_;go_simp;go_at_call 31;refine(Su.out _ (by first|exact FB.out|exact FB.out.drew|exact FB.out.alloc _|exact FB.out.drew.alloc _)).mono ?_;rintro e w3 ⟨v3,rfl,E9,hg3⟩;obtain⟨A3,k3,rfl⟩:=II E9;have HGK:=xf hg3;have Ky:=xf E9;have D8:=xf ((show Gr W0 _ by first|exact FB.out|exact FB.out.drew|exact FB.out.alloc _|exact FB.out.drew.alloc _).trans hg3);clear a0 a1 a2 a3 a4 E9 hg3;obtain⟨⟨a0,a1,a2,a3⟩,a4⟩:=HC.out w3 D8.out;replace FB:=D8;clear D8;dsimp only))
  all_goals
   have Sm:Gr w w3:=B4.out.trans FB.out;have hs3:=FB.out.size;have hG9:Gr w w9:=by
    first
     |exact(Sm.alloc _).grown Ya.out HD9.out (λk hk=>by injection hk with hk;omega)
     |exact Sm.grown Ya.out HD9.out (λk hk=>by injection hk with hk;omega)
   have hbase:∀g,(Value.slice A3 c.Aq.length k3).ownBlock=some g->w.heap.size+2<=g/\g<w3.heap.size/\some g≠some w3.heap.size/\w9.heap[g]?=w3.heap[g]?:=λg hg=>by
    obtain⟨q1,q2⟩:=Ky.out.lt g hg;have T9:W0.heap.size<=g:=xx (by first|exact xh _|(show W0.heap.size<=(W0.alloc _).heap.size;simp)) q1;refine⟨by omega,q2,λe=>by injection e with e;omega,?_⟩
    first
     |exact(Ya.out.block g (by simp;omega) (λe=>by injection e with e;omega)).trans (heap_alloc_old _ _ q2)
     | exact Ya.out.block g q2 (fun e => by
       injection e with e
       have q3:(W0.alloc (.cells #[] 46)).heap.size<=g:=q1
       simp at q3;omega)
   have hO3:w9.ownsRow (w.heap.size+2) 3 1 (.slice A3 c.Aq.length k3) c.Aq.length (c.Aq.map (Value.int .i64)):=ar (Cj Ky.out (by first|(show _<=W0.heap.size;omega)|(show _<=(W0.alloc _).heap.size;simp;omega))) λg hg _=>(hbase g hg).2.2.2;have hCC:=xf (CC.start (B:=B) (q:=w.heap.size) hG9 hB rfl hz9 ((WW.out w.heap.size (by omega)).trans U3.out.1) ((WW.out (w.heap.size+1) (by omega)).trans U3.out.2) hO3 HO9.out (by first|exact Sm|exact Sm.alloc _) Tu.out)
   obtain⟨W9,hW9⟩:∃W9,W9=(w9.setCell ⟨w.heap.size,0,none⟩ (.slice A3 c.Aq.length k3)).setCell ⟨w.heap.size,1,none⟩ (.slice A9 c.Ap.length k9):=⟨_,rfl⟩;rw[<-hW9] at hCC ⊢;refine(‹∀(a:Act) (w:World),Code.wp An _ _ a w->_›) _ _ ?_;refine sV 33 rfl λu hu=>?_;exact gp (hu 1) (hu 2) hB hl2 Ms.out hCC.out
def pL (nA hA:Option Addr)(nc hc:Nat)(c:AD)(w:World)(B:Nat)(hB:B<=w.heap.size)(hn:RI w B nA c.Aq)(hh:BG w B hA c.Ap)(DG:c.Aq.length<=20)(hl2:c.Ap.length<=20)(BU:∀h∈c.Ap,h.off.length<=20) :
  Calls An 10 #[AH nA hA c nc hc] w (mC c w) :=
 (nu nA hA nc hc c w B hB hn hh DG hl2 BU).mono λ_ _ h=>rn h
def nv (nA hA OT hA':Option Addr)(nc hc SA hc':Nat)(c:AD)(w:World)(hn:RI w w.heap.size nA c.Aq)(hh:BG w w.heap.size hA c.Ap)(R9:RI w w.heap.size OT c.Aq)(Fh:BG w w.heap.size hA' c.Ap)(DG:c.Aq.length<=20)(hl2:c.Ap.length<=20)(BU:∀h∈c.Ap,h.off.length<=20) :
  Calls An 17 #[AH nA hA c nc hc,AH OT hA' c SA hc'] w λe w'=>e=.returned (.bool true)/\Gr w w':=by
 unfold AH;obtain⟨W0,hW0⟩:∃W0:World,W0=(w.alloc (.cells #[.slice nA c.Aq.length nc,.slice hA c.Ap.length hc] 25)).alloc (.cells #[.slice OT c.Aq.length SA,.slice hA' c.Ap.length hc'] 25):=⟨_,rfl⟩;have hg0:Gr w W0:=hW0▸((Gr.refl w).alloc _).alloc _;have hz0:W0.heap.size=w.heap.size+2:=by rw[hW0];simp
 have B4:=xf hg0;have HH:=xf (hh.keep λb o hb=>hg0.cell hb);have HH':=xf (Fh.keep λb o hb=>hg0.cell hb);have Ms:=xf BU;have HC:Hid (∀W,Gr W0 W->(W.cell? ⟨w.heap.size,0,none⟩=some (.slice nA c.Aq.length nc)/\W.cell? ⟨w.heap.size,1,none⟩=some (.slice hA c.Ap.length hc)/\W.cell? ⟨w.heap.size+1,0,none⟩=some (.slice OT c.Aq.length SA)/\W.cell? ⟨w.heap.size+1,1,none⟩=some (.slice hA' c.Ap.length hc'))/\w.heap.size+1<W.heap.size):=xf λW hg=>by
  have:=hg.size;have e1:∀i,i<2->W.cell? ⟨w.heap.size,i,none⟩=(#[Value.slice nA c.Aq.length nc,.slice hA c.Ap.length hc])[i]?:=λi hi=>by
   rw[hg.cell (by show w.heap.size<_;omega),hW0,xI _ _ _ (by simp),xj _ _ _ _ rfl]
  have e2:∀i,i<2->W.cell? ⟨w.heap.size+1,i,none⟩=(#[Value.slice OT c.Aq.length SA,.slice hA' c.Ap.length hc'])[i]?:=λi hi=>by
   rw[hg.cell (by show w.heap.size+1<_;omega),hW0,xj _ _ _ _ (by simp)]
  exact⟨⟨e1 0 (by omega),e1 1 (by omega),e2 0 (by omega),e2 1 (by omega)⟩,by omega⟩
 have HW:=xf hW0;have hsn:=bR nA OT nc SA c.Aq c.Aq W0 w.heap.size (by omega) (hn.gr (xh _) hg0) (R9.gr (xh _) hg0) (by omega) (by omega);have WU:=xf hsn;clear hg0 hh hn Fh R9 BU hsn hW0;go_enter Sq.func17,Tryz.ntmps17;go_wp2;rw[<-HW.out];obtain⟨⟨a0,a1,a2,a3⟩,a4⟩:=HC.out W0 (.refl _);have a5:w.heap.size<W0.heap.size:=by omega
 refine WU.out.mono ?_;rintro e w1 ⟨rfl,hg1⟩;have Ch:=xf hg1;clear hg1 a0 a1 a2 a3 a4 a5;obtain⟨⟨a0,a1,a2,a3⟩,a4⟩:=HC.out w1 Ch.out;have a5:w.heap.size<w1.heap.size:=by omega
 simp only[decide_true];go_wp2;go_loopw [5] (λi wr=>∃k:Nat,k<=c.Ap.length/\i=.int .i64 k/\Gr W0 wr) (λi _=>c.Ap.length-(intOf i).toNat)
 case atStart=>exact⟨0,by omega,rfl,Ch.out⟩
 case round =>
  obtain⟨k,hk,rfl,hg⟩:=hrel;have HG:=xf hg;clear hg a0 a1 a2 a3 a4 a5;obtain⟨⟨a0,a1,a2,a3⟩,a4⟩:=HC.out wr HG.out;have a5:w.heap.size<wr.heap.size:=by omega
  by_cases hlt:k<c.Ap.length
  .obtain⟨b,o,rfl,hb,b0,b1,b2,A,cc,b3,hr⟩:=(HH.out.keep λb o hb=>HG.out.cell (by show b<_;omega)).at_ hlt;obtain⟨b',o',rfl,hb',c0,c1,c2,A',cc',c3,KU⟩:=(HH'.out.keep λb o hb=>HG.out.cell (by show b<_;omega)).at_ hlt;have Un:=Ms.out _ (c.FH hlt);have HS:=xf (λW (hg:Gr wr W)=>bR A A' cc cc' (c.h k).off (c.h k).off W w.heap.size (by have:=hg.size;omega) (hr.gr (by omega) hg) (KU.gr (by omega) hg) (by omega) (by omega))
   clear hr KU;have hbl:b<wr.heap.size:=by omega
   have af6:b'<wr.heap.size:=by omega
   go_wp2;go_region
   all_goals
    go_wp2;refine(HS.out _ ((((Gr.refl wr).alloc _).alloc _).drew)).mono ?_;rintro e w5 ⟨rfl,GJ⟩;have Kh:=xf (HG.out.trans (((((Gr.refl wr).alloc _).alloc _).drew).trans GJ));clear GJ HS;simp only[decide_true];go_wp2;go_roundw
    case rel=>exact⟨k+1,by omega,by go_num,Kh.out⟩
    case measure=>simp[intOf];omega
  .have E4:k=c.Ap.length:=by omega
   subst E4;go_wp2;go_ret;exact⟨rfl,B4.out.trans HG.out⟩
end Go.Proofs.Ao
namespace Go.Sq
open Go.RowKit
structure Jf where
 nA:Option Addr
 hA:Option Addr
 gA:Option Addr
 nc:Nat
 hc:Nat
 gc:Nat
 c:AD
 ls:List (List Int)
structure Jf.Small (x:Jf):Prop where
 n:x.c.Aq.length<=20
 h:x.c.Ap.length<=20
 o:∀y∈x.c.Ap,y.off.length<=20
 l:x.ls.length<=20
 g:∀y∈x.ls,y.length<=20
structure Jf.At (x:Jf)(W:World):Prop where
 n:RI W W.heap.size x.nA x.c.Aq
 h:BG W W.heap.size x.hA x.c.Ap
 g:BD W W.heap.size x.gA x.ls
def _root_.Go.Sq.BD.on {w w':World}{A:Option Addr}{l:List (List Int)}(h:BD w w.heap.size A l)(hg:Gr w w'):BD w' w'.heap.size A l:=(h.gr (xh _) hg).more hg.size
def _root_.Go.Sq.BG.on {w w':World}{A:Option Addr}{l:List Be}(h:BG w w.heap.size A l)(hg:Gr w w'):BG w' w'.heap.size A l:=(h.keep λ_ _ hb=>hg.cell hb).more hg.size
def Jf.At.gr {x:Jf}{W W':World}(h:x.At W)(hg:Gr W W'):x.At W':=⟨(h.n.gr (xh _) hg).more hg.size,h.h.on hg,h.g.on hg⟩
structure Ow (W:World)(cb co rb ro k:Nat)(x:Jf):Prop where
 c0:W.cell? ⟨cb,co+k*2,none⟩=some (.slice x.nA x.c.Aq.length x.nc)
 c1:W.cell? ⟨cb,co+k*2+1,none⟩=some (.slice x.hA x.c.Ap.length x.hc)
 r0:W.cell? ⟨rb,ro+k,none⟩=some (.slice x.gA x.ls.length x.gc)
 lt:cb<W.heap.size/\rb<W.heap.size
 at_:x.At W
 small:x.Small
def Ow.gr {W W':World}{cb co rb ro k:Nat}{x:Jf}(h:Ow W cb co rb ro k x)(hg:Gr W W'):Ow W' cb co rb ro k x :=
 ⟨(hg.cell (p:=⟨cb,_,none⟩) h.lt.1).trans h.c0,(hg.cell (p:=⟨cb,_,none⟩) h.lt.1).trans h.c1,(hg.cell (p:=⟨rb,_,none⟩) h.lt.2).trans h.r0,⟨xl h.lt.1 hg.size,xl h.lt.2 hg.size⟩,h.at_.gr hg,h.small⟩
def jS (L:List Int)(E:Int)(w:World)(e:Ending)(w':World):Prop:=Gr w w'/\∃A k,e=.returned (.tuple #[.slice A L.length k,.int .i64 E])/\RI w' w'.heap.size A L
def Dc (x:Jf):List Int:=if Ay x.c x.ls=0 then C6 x.ls x.c.Ap.length else[]
def Dw (x:Jf):List Int:=if Ay x.c x.ls=0 then dU x.c (Av x.ls) else[]
def sZ {x:Jf}(h:x.Small):(Dc x).length<=20:=by
 unfold Dc;split
 .rw[ef];exact h.h
 .simp
def s6 {x:Jf}(h:x.Small):(Dw x).length<=20:=by
 unfold Dw;split
 .have:=cT (Ew x.c (Av x.ls)) x.c.Ap.length;have h2:=h.h;unfold dU;omega
 .simp
end Go.Sq
namespace Go.Proofs.Ao
open Go.RowKit Go.Sq
section
variable {x:Jf} {nA hA gA:Option Addr} {nc hc gc:Nat} {w:World}
def rq (hs:x.Small)(hn:RI w w.heap.size nA x.c.Aq)(hh:BG w w.heap.size hA x.c.Ap)(hg:BD w w.heap.size gA x.ls):Calls An 12 #[AH nA hA x.c nc hc,.slice gA x.ls.length gc] w (jS (Dc x) (Ay x.c x.ls) w):=by
 have b1:=hs.n;have b2:=hs.h;have b3:=hs.l;have b4:∀h∈x.c.Ap,h.off.length<=4611686018427387904:=λy hy=>xx (hs.o y hy) (by omega);have b5:∀y∈x.ls,y.length<=4611686018427387904:=λy hy=>xx (hs.g y hy) (by omega);by_cases hF:Ay x.c x.ls=0
 .refine(rf nA hA gA nc hc gc x.c x.ls w _ (xh _) hn hh hg (by omega) (by omega) b4 (by omega) b5 hF).mono ?_;rintro e w' ⟨h1,A,k,rfl,h2⟩;refine⟨h1,A,k,?_,?_⟩
  .rw[hF];unfold Dc;rw[if_pos hF,ef]
  .unfold Dc;rw[if_pos hF,<-il hF];exact h2
 .refine(mv nA hA gA nc hc gc x.c x.ls w _ (xh _) hn hh hg (by omega) (by omega) b4 (by omega) b5 hF).mono ?_;rintro e w' ⟨rfl,h1⟩;refine⟨h1,none,0,?_,?_⟩
  .unfold Dc;rw[if_neg hF];rfl
  .unfold Dc;rw[if_neg hF];exact .nil
def mD (hs:x.Small)(hn:RI w w.heap.size nA x.c.Aq)(hh:BG w w.heap.size hA x.c.Ap)(hg:BD w w.heap.size gA x.ls):Calls An 13 #[AH nA hA x.c nc hc,.slice gA x.ls.length gc] w (jS (Dc x) (Ay x.c x.ls) w):=by
 have b1:=hs.n;have b2:=hs.h;have b3:=hs.l;refine(mu nA hA gA nc hc gc x.c x.ls w _ (xh _) hn hh hg (by omega) (by omega) (λy hy=>xx (hs.o y hy) (by omega)) (by omega) (λy hy=>xx (hs.g y hy) (by omega))).mono ?_;rintro e w' ⟨h1,h2⟩;refine⟨h1,?_⟩;unfold Dc;by_cases hF:Ay x.c x.ls=0
 .rw[if_pos hF] at h2 ⊢;obtain⟨A,k,rfl,h3⟩:=h2;exact⟨A,k,by rw[ef,hF],h3⟩
 .rw[if_neg hF] at h2 ⊢;exact⟨none,0,h2,.nil⟩
def ru (hs:x.Small)(hn:RI w w.heap.size nA x.c.Aq)(hh:BG w w.heap.size hA x.c.Ap)(hg:BD w w.heap.size gA x.ls):Calls An 14 #[AH nA hA x.c nc hc,.slice gA x.ls.length gc] w (jS (Dw x) (Ay x.c x.ls) w):=by
 have b1:=hs.n;have b2:=hs.h;have b3:=hs.l;have b4:∀h∈x.c.Ap,h.off.length<=4611686018427387904:=λy hy=>xx (hs.o y hy) (by omega);have b5:∀y∈x.ls,y.length<=4611686018427387904:=λy hy=>xx (hs.g y hy) (by omega);by_cases hF:Ay x.c x.ls=0
 .refine(py nA hA gA nc hc gc x.c x.ls w _ (xh _) hn hh hg (by omega) (by omega) b4 (by omega) b5 hF).mono ?_;rintro e w' ⟨h1,A,k,rfl,h2⟩;refine⟨h1,A,k,?_,?_⟩
  .rw[hF];unfold Dw;rw[if_pos hF]
  .unfold Dw;rw[if_pos hF];exact h2
 .refine(pE nA hA gA nc hc gc x.c x.ls w _ (xh _) hn hh hg (by omega) (by omega) b4 (by omega) b5 hF).mono ?_;rintro e w' ⟨rfl,h1⟩;refine⟨h1,none,0,?_,?_⟩
  .unfold Dw;rw[if_neg hF];rfl
  .unfold Dw;rw[if_neg hF];exact .nil
def mE (hs:x.Small)(hn:RI w w.heap.size nA x.c.Aq)(hh:BG w w.heap.size hA x.c.Ap)(hg:BD w w.heap.size gA x.ls):Calls An 15 #[AH nA hA x.c nc hc,.slice gA x.ls.length gc] w (jS (Dw x) (Ay x.c x.ls) w):=by
 have b1:=hs.n;have b2:=hs.h;have b3:=hs.l;refine(pD nA hA gA nc hc gc x.c x.ls w _ (xh _) hn hh hg (by omega) (by omega) (λy hy=>xx (hs.o y hy) (by omega)) (by omega) (λy hy=>xx (hs.g y hy) (by omega))).mono ?_;rintro e w' ⟨h1,h2⟩;refine⟨h1,?_⟩;unfold Dw;by_cases hF:Ay x.c x.ls=0
 .rw[if_pos hF] at h2 ⊢;obtain⟨A,k,rfl,h3⟩:=h2;exact⟨A,k,by rw[hF],h3⟩
 .rw[if_neg hF] at h2 ⊢;exact⟨none,0,h2,.nil⟩
end
end Go.Proofs.Ao
