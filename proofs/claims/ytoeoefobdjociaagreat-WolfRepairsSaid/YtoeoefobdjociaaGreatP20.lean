/- Parts of the proof. -/
import Derived.Test.YtoeoefobdjociaaGreatP19
set_option linter.all false
set_option maxHeartbeats 3200000
set_option maxRecDepth 1000000
open Go renaming World->Z,Value->Y,Operand->r,TypeId->ak,Calls->bc,Oper->bn,execOp->bo,Deferred->bq,FuncId->b7,Addr->b8
open Option renaming some->U,none->bD
open Go.Value renaming slice->I,int->F,pointer->bk
open Go.IntKind renaming i64->N,signed->bA,wrap->b5,bits->b6
open List renaming range'->O,reverse_cons->bw
open Go.Code renaming region->M
open Go.Proofs renaming intOf->bb
open Bool renaming true->bh,false->bl
open Go.Proofs.Tryz renaming ntmps43->br,ntmps81->bs,ntmps51->bW
namespace Go.Sq
open Go.RowKit Go.Eu
variable {R:Z->Z->Prop} {ops:Array bn} {Q:Exit->Act->Z->Prop} {n m:Nat} {ds:List bq}
def Jb (R:Nat->Prop):Nat->Prop
 |0=>True
 |m+1=>Jb R m/\R m
def Jb.at_ {R:Nat->Prop}:∀ {m:Nat},Jb R m->∀i,i<m->R i
 |0,_,i,h=>AI h (BJ _)
 |m+1,h,i,hi=>by
  by_cases e:i=m
  .subst e;exact h.2
  .exact h.1.at_ i (by omega)
def Jb.of {R:Nat->Prop}:∀ {m:Nat},(∀i,i<m->R i)->Jb R m
 |0,_=>trivial
 |m+1,h=>⟨Jb.of λi hi=>h i (by omega),h m (by omega)⟩
def F3 (R:Z->Z->Prop)(V:Y->Z->Prop):Prop:=∀v w w',R w w'->V v w->V v w'
instance {J:Z->Prop} {c i:Nat} [Rfl R]:Rfl (Till R J c i):=⟨λw=>⟨Rfl.refl w,λ_ h=>h⟩⟩
def EU (x:Y):F3 R λv _=>v=x:=λ_ _ _ _ h=>h
def Vl (l:List (Y->Z->Prop))(i:Nat):Y->Z->Prop:=l[i]?.getD λ_ _=>True
def KU (R:Z->Z->Prop):List (Y->Z->Prop)->Prop
 |[]=>True
 |V::l=>F3 R V/\KU R l
def KU.at_:∀ {l:List (Y->Z->Prop)},KU R l->∀i,F3 R (Vl l i)
 |[],_,i=>λ_ _ _ _ _=>by unfold Vl;simp
 |V::l,h,0=>h.1
 |V::l,h,i+1=>h.2.at_ i
def Kz (L:List Int):F3 Gr (MF L):=λv w w' hg ⟨A,k,e,h⟩=>⟨A,k,e,h.OB hg⟩
def L9 (L:List Int)(E:Int):F3 Gr (NG L E):=λv w w' hg ⟨x,e,h⟩=>⟨x,e,Kz L _ _ _ hg h⟩
def Fr (ops:Array bn)(u u0:Nat->Y):Prop:=∀t,FL ops t=bh->u t=u0 t
def Fr.at_ {u u0:Nat->Y}(h:Fr ops u u0)(t:Nat)(e:FL ops t=true:=by kernel_rfl):u t=u0 t:=h t e
def NQ (ops:Array bn)(V:Nat->Y->Z->Prop)(i:Nat)(u:Nat->Y)(w:Z):Prop:=∀j∈JA .any ops i,∀o d,ops[j]?=U o->o.dst=U d->V j (u d) w
def NQ.at_ {V:Nat->Y->Z->Prop}{i:Nat}{u:Nat->Y}{w:Z}(h:NQ ops V i u w)(j d:Nat)(h1:(JA .any ops i).contains j=true:=by kernel_rfl)(h2:(opAt ops j).bind (·.1)=U d:=by rfl):V j (u d) w:=by
 unfold opAt at h2;cases ho:ops[j]? with
 |none=>rw[ho] at h2;cases h2
 |some o=>rw[ho] at h2;exact h j (C2.1 h1) o d ho h2
def Late (ops:Array bn)(i:Nat)(u u0:Nat->Y):Prop:=∀j o t,i∈JA .any ops j->ops[j]?=U o->o.dst=U t->u t=u0 t
def Late.at_ {i:Nat}{u u0:Nat->Y}(h:Late ops i u u0)(j t:Nat)(h1:(JA .any ops j).contains i=true:=by kernel_rfl)(h2:(opAt ops j).bind (·.1)=U t:=by rfl):u t=u0 t:=by
 unfold opAt at h2;cases ho:ops[j]? with
 |none=>rw[ho] at h2;cases h2
 |some o=>rw[ho] at h2;exact h j o t (C2.1 h1) ho h2
def Ends (ops:Array bn)(V:Nat->Y->Z->Prop)(m:Nat)(u:Nat->Y)(w:Z):Prop:=∀i,i<m->∀o d,ops[i]?=U o->o.dst=U d->V i (u d) w
def Ends.at_ {V:Nat->Y->Z->Prop}{u:Nat->Y}{w:Z}(h:Ends ops V m u w)(j d:Nat)(h1:j<m:=by decide)(h2:(opAt ops j).bind (·.1)=U d:=by rfl):V j (u d) w:=by
 unfold opAt at h2;cases ho:ops[j]? with
 |none=>rw[ho] at h2;cases h2
 |some o=>rw[ho] at h2;exact h j h1 o d ho h2
def mixed:DU.follows .mixedOrders=true:=by kernel_rfl
def Done.imp {i:Nat}{V V':Y->Z->Prop}{u:Nat->Y}{w:Z}(hV:∀v w',V v w'->V' v w')(h:Done R DU ops Q n ds i V u w):Done R DU ops Q n ds i V' u w :=
 wpOp_mono (λ_ _ ⟨v,h1,h2,h3⟩=>⟨v,h1,h2,hV _ _ h3⟩) h
instance {C:Nat->Z->Prop} {md:Region.Mode} {i:Nat} [Rfl R]:Rfl (L8 R C md ops i):=⟨λw=>⟨Rfl.refl w,λ_ _ _ h=>h⟩⟩
def uF [Goes R](C:Nat->Z->Prop){id:Nat}{u0:Nat->Y}{w0:Z}(hC0:∀k,C k w0.drew)(X:Qs .any ops m)(l:List (Y->Z->Prop))(a7:KU R l)
  (step:Jb (λi=>∀u w,R w0 w->Fr ops u u0->Late ops i u u0->NQ ops (Vl l) i u w->C i w->Done (L8 R C .any ops i) DU ops Q n ds i (Vl l i) u w) m)
  (fin:∀u w,R w0 w->Fr ops u u0->Ends ops (Vl l) m u w->wpOps DU ops Q (O m (ops.size-m)) ⟨T n u,ds⟩ w):(M id ops bh).wp DU Q ⟨T n u0,ds⟩ w0:=by
 refine wp_region_any mixed ?_;have a6:∀i,i<ops.size->(Array.replicate ops.size bl).getD i bh=false:=λi hi=>by
  rw[BY,BQ,AF hi];rfl
 have hms:m<=ops.size:=by
  obtain h|h:=X.last
  .omega
  .have:=h.size;omega
 refine xf C m 0 (λ_ _=>True) (λ_ _ _ _ h=>h) (λ_ _ _ _ _ h=>h) X (λhsm=>AI hsm (C7 _)) (Vl l) (λi v w w' hg h=>a7.at_ i v w w' hg h) (λi hi u w h1 h2 h3 h4 h5=>(step.at_ i hi u w h1 h2 h3 h4 h5).imp λ_ _ h=>⟨h,λ_=>trivial⟩) (λu w h1 h2 h3 _=>fin u w h1 h2 h3) ops.size _ u0 _ (by simp) ?_ (Goes.drew w0) (λ_ _=>rfl) (λi hi hl=>?_) (λi _ hi=>a6 i hi) (λi hi hl=>?_) (λk _=>hC0 k) λhsm _=>AI hsm (C7 _)
 .rw[List.filter_eq_self.2 λi hi=>by rw[a6 i (Bu.1 hi)];rfl,List.length_range]
 .rw[a6 i (by omega)] at hl;cases hl
 .rw[a6 i (by omega)] at hl;cases hl
def qE {i:Nat}{md:Region.Mode}(X:Qs md ops m)(hi:i<ops.size){j d:Nat}{o:bn}(hj:ops[j]?=U o)(hd:o.dst=U d)(zU:j≠i)(u:Nat->Y)(v:Y):GH u ((ops[i]?).bind (·.dst)) v d=u d:=by
 rw[AK hi];show GH u ops[i].dst v d=u d;cases a6:ops[i].dst with
 |none=>rfl
 |some d' =>
  refine Fh λe'=>?_;subst e';obtain h|h:=Nat.lt_or_gt_of_ne zU
  .exact X.one j i _ _ _ h hj (AK hi) hd a6
  .exact X.one i j _ _ _ h (AK hi) hj a6 hd
def sL [Goes R]{id:Nat}{u0:Nat->Y}{w0:Z}(hX:Qs .any ops m)(l:List (Y->Z->Prop))(a7:KU R l)
  (step:Jb (λi=>∀u w,R w0 w->Fr ops u u0->Late ops i u u0->NQ ops (Vl l) i u w->Done R DU ops Q n ds i (Vl l i) u w) m)
  (fin:∀u w,R w0 w->Fr ops u u0->Ends ops (Vl l) m u w->wpOps DU ops Q (O m (ops.size-m)) ⟨T n u,ds⟩ w):(M id ops bl).wp DU Q ⟨T n u0,ds⟩ w0:=by
 have aD:m<=ops.size:=by
  obtain h|h:=hX.last
  .omega
  .have:=h.size;omega
 have a6:∀ {t k:Nat},FL ops t=bh->∀j o,ops[j]?=U o->o.dst=U t->k<=j:=λ{t k} ht j o hj hd=>by
  unfold FL at ht;rw[Ba] at ht;have:=ht _ (Bi hj);rw[hd] at this;simp at this
 have key:∀d k u w,k+d=m->R w0 w->(∀t,(∀j o,ops[j]?=U o->o.dst=U t->k<=j)->u t=u0 t)->Ends ops (Vl l) k u w->wpOps DU ops Q (O k d++O m (ops.size-m)) ⟨T n u,ds⟩ w:=by
  intro d
  induction d with
  |zero =>
   intro k u w hk hg hf hv;obtain rfl:k=m:=by omega
   exact fin u w hg (λt ht=>hf t (a6 ht)) hv
  |succ d ih =>
   intro k u w hk hg hf hv;rw[List.range'_succ,BX,wpOps_cons];refine wpOp_mono ?_ (step.at_ k (by omega) u w hg (λt ht=>hf t λj o hj hd=>a6 ht j o hj hd) (λj o t hkj hj hd=>hf t λj' o' hj' a8=>?_) λj hj o d ho hd=>hv j (hX.lt k (by omega) j hj) o d ho hd)
   rotate_left
   .have aA : j' = j := by
     obtain h|h|h:=Nat.lt_trichotomy j' j
     .exact AI hd (hX.one j' j _ _ _ h hj' hj a8)
     .exact h
     .exact AI a8 (hX.one j j' _ _ _ h hj hj' hd)
    subst aA;have:=hX.lt j' (Az.1 hj').1 k hkj;omega
   rintro a' w' ⟨v,rfl,zV,hV⟩;refine ih (k+1) _ w' (by omega) (Goes.trans hg zV) (λt ht=>?_) λj hj o d ho hd=>?_
   .have aB : (ops[k]'(by omega)).dst ≠ U t := fun e => by
     have:=ht k _ (AK (by omega)) e;omega
    have e:GH u ((ops[k]?).bind (·.dst)) v t=u t:=by
     rw[AK (show k<ops.size by omega)];show GH u (ops[k]'(by omega)).dst v t=u t;cases aC:(ops[k]'(by omega)).dst with
     |none=>rfl
     |some d=>exact Fh λe=>aB (by rw[aC,e])
    rw[e];exact hf t λj o hj hd=>by have:=ht j o hj hd;omega
   by_cases e:j=k
   .subst e;rw[ho];show Vl l j (GH u o.dst v d) w';rw[hd];show Vl l j (Ky u d v d) w';rw[aV];exact hV
   .rw[qE hX (by omega) ho hd e];exact a7.at_ j _ _ _ zV (hv j (by omega) o d ho hd)
 refine wp_region ?_;have e:List.range ops.size=O 0 m++O m (ops.size-m):=by
  have:=List.range'_append (s:=0) (m:=m) (n:=ops.size-m) (step:=1);rw[Nat.one_mul,AO] at this;rw[List.range_eq_range',this];congr 1;omega
 rw[e];exact key m 0 u0 w0 (by omega) (Rfl.refl _) (λ_ _=>rfl) λi hi=>AI hi (BJ _)
section
variable {ops:Array bn} {Q:Exit->Act->Z->Prop} {n m:Nat} {u:Nat->Y} {ds:List bq} {w w':Z}
def lU {i:Nat}{d:Option Tmp}{op:Op}{g:Option (Nat×Bool)}{t:ak}{K:Act->Z->Prop}(h:opAt ops i=U (d,op,g,t))(hl:Lets ops n u g)
  (hw:∀o:bn,o.dst=d->o.op=op->o.type=t->Oper.wp DU o ⟨T n u,ds⟩ w K Q):wpOp DU ops Q i K ⟨T n u,ds⟩ w:=by
 obtain⟨o,h1,h2,h3,h4,h5⟩:=JI h;unfold wpOp;simp only[h1];rw[AF (lz (by rw[h4];exact hl))];exact .inl (hw o h2 h3 h5)
def ft {i:Nat}{d:Option Tmp}{op:Op}{g:Option (Nat×Bool)}{t:ak}{K:Act->Z->Prop}(h:opAt ops i=U (d,op,g,t))(v:Y)(w':Z)
  (hr:∀ev,OA n u ev->(bo ev (Ia op t)).run DU w=.ok (.value v) w') (hK:K ⟨T n (GH u d v),ds⟩ w') (hl:Lets ops n u g:=by trivial):wpOp DU ops Q i K ⟨T n u,ds⟩ w:=by
 refine lU h hl λo h1 h2 h3=>?_;unfold Oper.wp;rw[gh,h2,h3,hr _ gf,Oper.upon_value,h1,gJ];exact hK
def eP {i:Nat}{d:Option Tmp}{op:Op}{g:Option (Nat×Bool)}{t:ak}{K:Act->Z->Prop}(h:opAt ops i=U (d,op,g,t))(w':Z)
  (hr:∀ev,OA n u ev->(bo ev (Ia op t)).run DU w=.ok .skip w') (hK:K ⟨T n (GH u d undef),ds⟩ w') (hl:Lets ops n u g:=by trivial):wpOp DU ops Q i K ⟨T n u,ds⟩ w:=by
 refine lU h hl λo h1 h2 h3=>?_;unfold Oper.wp;rw[gh,h2,h3,hr _ gf,Oper.upon_skip,h1,gJ];exact hK
def lC {i:Nat}{d:Option Tmp}{t:Nat}{g:Option (Nat×Bool)}{ty:ak}{K:Act->Z->Prop}(h:opAt ops i=U (d,.assign (.tmp t),g,ty))(hK:K ⟨T n (GH u d (u t)),ds⟩ w)(hl:Lets ops n u g:=by trivial)(ht:t<n:=by decide):wpOp DU ops Q i K ⟨T n u,ds⟩ w :=
 ft h (u t) w (λev he=>by show(pure _:Sem Next).run _ _=_;rw[he.1 t ht];rfl) hK hl
def xg {i:Nat}{d:Option Tmp}{t:Nat}{g:Option (Nat×Bool)}{ty:ak}{K:Act->Z->Prop}(h:opAt ops i=U (d,.move (.tmp t),g,ty))(hK:K ⟨T n (GH u d (u t)),ds⟩ w)(hl:Lets ops n u g:=by trivial)(ht:t<n:=by decide):wpOp DU ops Q i K ⟨T n u,ds⟩ w :=
 ft h (u t) w (λev he=>by show(pure _:Sem Next).run _ _=_;rw[he.1 t ht];rfl) hK hl
def xh {i:Nat}{d:Option Tmp}{f:b7}{args:Array r}{ats:Array ak}{g:Option (Nat×Bool)}{t:ak}{K:Act->Z->Prop}(h:opAt ops i=U (d,.call { callee:=.value (.func f),args:=args,argTypes:=ats },g,t)){fn:Func}(hf:DU.funcs[f]?=U fn)(vals:Array Y)
  (ha:∀ev,OA n u ev->args.map ev=vals) (hc:bc DU f vals w λe w'=>∃v,e=.returned v/\K ⟨T n (GH u d v),ds⟩ w') (hl:Lets ops n u g:=by trivial) (hn:(fn.name == "runtime.NumGoroutine")=false:=by kernel_rfl) (hb:fn.body.isNone=false:=by kernel_rfl):wpOp DU ops Q i K ⟨T n u,ds⟩ w:=by
 refine lU h hl λo h1 h2 h3=>?_;unfold Oper.wp;rw[gh,h2,lB hf ha hn hb,Oper.upon_enter];refine hc.mono ?_;rintro e w' ⟨v,rfl,h5⟩;have e5:K ((⟨T n u,ds⟩:Act).put o.dst v) w':=by
  rw[h1,gJ];exact h5
 exact e5
end
def xi {ops:Array bn}{D:List Nat}(hD:ops.toList.filterMap (·.dst)=D){t:Nat}(h:D.contains t=bl):FL ops t=true:=by
 subst hD;unfold FL;rw[Ba];intro o ho;have hn:t ∉ ops.toList.filterMap (·.dst):=by simpa using h
 have:o.dst≠U t:=λe=>hn (List.mem_filterMap.2 ⟨o,by simpa using ho,e⟩);simpa using this
def sM {u:Nat->Y}(D:List Nat):∀(l:List Y) (t:Nat),(D.foldl (λa d=>a.set d (u d)) l)[t]?=if t∈D/\t<l.length then U (u t) else l[t]?:=by
 induction D with
 |nil=>intro l t;simp
 |cons d D ih =>
  intro l t;rw[B7,ih,Dd,List.getElem?_set];by_cases h1:t∈D/\t<l.length
  .rw[AF h1,AF ⟨Ci _ h1.1,h1.2⟩]
  .rw[AD h1];by_cases h2:d=t
   .subst h2;by_cases h3:d<l.length
    .rw[AF rfl,AF h3,AF ⟨B4,h3⟩]
    .rw[AF rfl,AD h3,AD λh=>h3 h.2,BD (by omega)]
   .rw[AD h2,AD λh=>(AJ.1 h.1).elim (λe=>h2 e.symm) λe=>h1 ⟨e,h.2⟩]
def fv {n:Nat}{u u':Nat->Y}{l:List Y}{ops:Array bn}(D:List Nat)(hD:ops.toList.filterMap (·.dst)=D)(hn:l.length=n)(hu:∀i,u i=l[i]?.getD undef)(hf:∀t,FL ops t=bh->u' t=u t):T n u'=(D.foldl (λa d=>a.set d (u' d)) l).toArray:=by
 unfold T;congr 1;refine List.ext_getElem? λt=>?_;rw[sM];by_cases ht:t<n
 .rw[BK,Cn ht];show U (u' t)=_;by_cases hm:t∈D
  .rw[AF ⟨hm,by omega⟩]
  .rw[AD λh=>hm h.1,hf t (xi hD (by simpa using hm)),hu,AB (by omega)];rfl
 .rw[BD (by simp;omega),AD λh=>by omega,BD (by omega)]
section
variable {u:Nat->Y} {w w':Z}
def uG [Rfl R]{i j:Nat}{b:Bool}{d:Option Tmp}{op:Op}{t:ak}{V:Y->Z->Prop}(h:opAt ops i=U (d,op,U (j,b),t)){d':Nat}(h3:u d'=.bool !b)(hV:V undef w)(h1:(opAt ops j).bind (·.1)=U d':=by rfl)(h2:d'<n:=by decide):Done R DU ops Q n ds i V u w:=by
 obtain⟨o,g1,g2,_,g4,_⟩:=JI h;have e:(ops[j]?).bind (·.dst)=U d':=by
  unfold opAt at h1;cases ho:ops[j]? with
  |none=>rw[ho] at h1;cases h1
  |some o=>rw[ho] at h1;exact h1
 have hw:Region.wanted o (yielded ops (T n u))=false:=by
  unfold Region.wanted;rw[g4];simp only[yielded,e,BF,gI h2,h3];cases b<;>rfl
 unfold Done wpOp;simp only[g1];rw[AD (by rw[hw];simp)];refine⟨undef,?_,Rfl.refl w,hV⟩;rw[gJ];rfl
end
open Go.Proofs
def dW (a b c:Int)(w:Z):bc DU 43 #[F N a,F N b,F N c] w λe w'=>e=.returned (.bool (FC a b c))/\w=w':=by
 by_cases h1:b<=a
 .by_cases h2:a<=c
  .have HS:=Ay (show FC a b c=bh by simp[FC,h1,h2]);go_enter Sq.func43,br;go_wp2;go_ret;exact⟨au HS.out.symm,rfl⟩
  .have HS:=Ay (show FC a b c=bl by simp[FC];omega);go_enter Sq.func43,br;go_wp2;go_ret;exact⟨au HS.out.symm,rfl⟩
 .have HS:=Ay (show FC a b c=bl by simp[FC];omega);go_enter Sq.func43,br;go_wp2;go_ret;exact⟨au HS.out.symm,rfl⟩
def iU (n lo hi:Int)(w:Z):bc DU 81 #[F N n,F N lo,F N hi] w λe w'=>e=.returned (F N (Ez n lo hi))/\w=w':=by
 by_cases h1:n<lo
 .have HS:=Ay (show Ez n lo hi=7 by simp[Ez,h1]);go_enter Sq.func81,bs;go_wp2;go_ret;exact⟨ap HS.out.symm,rfl⟩
 .by_cases h2:hi<n
  .have HS:=Ay (show Ez n lo hi=6 by simp[Ez,h1,h2]);go_enter Sq.func81,bs;go_wp2;go_ret;exact⟨ap HS.out.symm,rfl⟩
  .have HS:=Ay (show Ez n lo hi=0 by simp[Ez,h1,h2]);go_enter Sq.func81,bs;go_wp2;go_ret;exact⟨ap HS.out.symm,rfl⟩
def mV (A:Option b8)(c:Nat)(l:List Int)(n:Int)(w:Z)(B:Nat)(h:RI w B A l)(hB:B<=w.heap.size)(hl:l.length<=4611686018427387904)(a6:0<=n)(hn:n<=4611686018427387904) :
  bc DU 82 #[I A l.length c,F N (n-1)] w λe w'=>e=.returned (F N (Fi l n))/\Gr w w':=by
 have HR:=Ay h;go_enter Sq.func82,Tryz.ntmps82;go_wp2;go_loopw [5] (λi wr=>∃k:Nat,k<=l.length/\i=F N k/\(∀j,j<k->FY l n j=0)/\Gr w wr) (λi _=>l.length-(bb i).toNat)
 case atStart=>exact⟨0,by omega,rfl,λj hj=>AI hj (BJ _),.refl _⟩
 case round =>
  obtain⟨k,hk,rfl,hz,zV⟩:=hrel;have HZ:=Ay hz;have HG:=Ay zV;by_cases zY:k<l.length
  .obtain⟨b,o,rfl,hb,hc⟩:=(HR.out.gr hB zV).at_ zY;have HA:Hid (FY l n k=if 0<=l[k]?.getD 0/\l[k]?.getD 0<=n-1 then(if 0<k/\l[k]?.getD 0<=l[k-1]?.getD 0 then 5 else 0) else 3):=Ay rfl;by_cases hr:0<=l[k]?.getD 0/\l[k]?.getD 0<=n-1
   .have HI : Hid (∀ W, bc DU 43 #[F N (l[k]?.getD 0), F N 0, F N (n - 1)] W fun e w' => e = .returned (.bool bh) ∧ W = w') := Lib.hid fun W => by
     have:=dW (l[k]?.getD 0) 0 (n-1) W
     rwa [show FC (l[k]?.getD 0) 0 (n-1)=bh by simp[FC,hr.1,hr.2]] at this
    obtain h0|h0:=Bs k
    .subst h0;have HS:=Ay (show FY l n 0=0 by rw[HA.out,AF hr,AD (by omega)]);simp only[Nat.add_zero] at hc;generalize l[0]?.getD 0=x at hc HI;go_wp2_with (go_at_call 43;refine(HI.out _).mono ?_;rintro e w' ⟨rfl,rfl⟩);go_quiet (fail);go_wp2;go_roundw
     case rel=>exact⟨1,by omega,by go_num,λj hj=>(by
      have:j=0:=by omega
      subst this;exact HS.out),HG.out.drewN _⟩
     case measure=>simp[Proofs.intOf];omega
    .obtain⟨m,rfl⟩:∃m,k=m+1:=⟨k-1,by omega⟩;have hc':wr.cell? ⟨b,o+m,bD⟩=U (F N (l[m]?.getD 0)):=by
      obtain⟨b',o',e,_,h⟩:=(HR.out.gr hB zV).at_ (k:=m) (by omega);simp only[Option.some.injEq,Addr.mk.injEq] at e;obtain⟨rfl,rfl,_⟩:=e;exact h
     by_cases zX:l[m+1]?.getD 0<=l[m]?.getD 0
     .have HS := Lib.hid (show Fi l n = 5 by
       have e:FY l n (m+1)=5:=by rw[HA.out,AF hr,AF ⟨h0,zX⟩]
       rw[gm zY HZ.out (by rw[e];decide),e])
      generalize l[m+1]?.getD 0=x at hc HI zX;generalize l[m]?.getD 0=y at hc' zX;have a7:decide (x<=y)=true:=by simpa using zX
      go_wp2_with (go_at_call 43;refine(HI.out _).mono ?_;rintro e w' ⟨rfl,rfl⟩);go_quiet (fail);go_wp2;go_ret;exact⟨ap HS.out.symm,HG.out.drewN _⟩
     .have HS:=Ay (show FY l n (m+1)=0 by rw[HA.out,AF hr,AD (λh=>zX h.2)]);generalize l[m+1]?.getD 0=x at hc HI zX;generalize l[m]?.getD 0=y at hc' zX;go_wp2_with (go_at_call 43;refine(HI.out _).mono ?_;rintro e w' ⟨rfl,rfl⟩);go_quiet (fail);go_wp2;go_roundw
      case rel=>exact⟨m+1+1,by omega,by go_num,λj hj=>(by
       obtain h|rfl:=Bv (BM hj)
       .exact HZ.out j h
       .exact HS.out),HG.out.drewN _⟩
      case measure=>simp[Proofs.intOf];omega
   .have HI : Hid (∀ W, bc DU 43 #[F N (l[k]?.getD 0), F N 0, F N (n - 1)] W fun e w' => e = .returned (.bool bl) ∧ W = w') := Lib.hid fun W => by
     have:=dW (l[k]?.getD 0) 0 (n-1) W
     rwa [show FC (l[k]?.getD 0) 0 (n-1)=bl by simp[FC];omega] at this
    have HS:=Ay (show Fi l n=3 by
     have e:FY l n k=3:=by rw[HA.out,AD hr]
     rw[gm zY HZ.out (by rw[e];decide),e])
    generalize l[k]?.getD 0=x at hc HI;go_wp2_with (go_at_call 43;refine(HI.out _).mono ?_;rintro e w' ⟨rfl,rfl⟩);go_ret;exact⟨ap HS.out.symm,HG.out⟩
  .have HS:=Ay (show Fi l n=0 from kP λi hi=>HZ.out i (by omega));have:k=l.length:=by omega
   go_wp2;go_ret;exact⟨ap HS.out.symm,HG.out⟩
def ki (nA hA:Option b8)(nc hc:Nat)(c:D9)(w:Z)(B:Nat)(hB:B<=w.heap.size)(hn:RI w B nA c.DW)(hh:EN w B hA c.DV)(aY:c.DW.length<=4611686018427387904)(zC:c.DV.length<=4611686018427387904)
  (aM:∀h∈c.DV,h.off.length<=4611686018427387904) :
  bc DU 51 #[Ef nA hA c nc hc] w λe w'=>e=.returned (F N (Eg c))/\Gr w w':=by
 have HN:=Ay hn;have HH:=Ay hh;have aO:=Ay aM;clear hn hh aM;unfold Ef;obtain⟨W0,zM⟩:∃W0:Z,W0=w.alloc (.cells #[I nA c.DW.length nc,I hA c.DV.length hc] 25):=⟨_,rfl⟩;have aD:Hid (Gr w W0):=Ay (by rw[zM];exact(Gr.refl w).alloc _);have HC:Hid (∀W,Gr W0 W->W.cell? ⟨w.heap.size,0,bD⟩=U (I nA c.DW.length nc)/\W.cell? ⟨w.heap.size,1,bD⟩=U (I hA c.DV.length hc)):=Ay λW hg=>by
  rw[hg.cell (by show w.heap.size<_;rw[zM];simp),hg.cell (by show w.heap.size<_;rw[zM];simp),zM,AE _ _ _ _ rfl,AE _ _ _ _ rfl];exact⟨rfl,rfl⟩
 have zF:W0.heap.size=w.heap.size+1:=by rw[zM];simp
 by_cases aA:Ez c.DW.length 1 5=0
 .have HM:Hid (bc DU 81 #[F N c.DW.length,F N 1,F N 5] (w.alloc (.cells #[I nA c.DW.length nc,I hA c.DV.length hc] 25)) λe w'=>e=.returned (F N 0)/\(w.alloc (.cells #[I nA c.DW.length nc,I hA c.DV.length hc] 25))=w'):=Ay (by rw[<-aA];exact iU _ _ _ _);have aI:=Ay aA;have HW:=Ay zM;clear aA zM;go_enter Sq.func51,bW
  go_wp2_with (first|(go_at_call 81;refine HM.out.mono ?_;rintro e w' ⟨rfl,rfl⟩));rw[<-HW.out];clear HW HM;obtain⟨zp,zw⟩:=HC.out W0 (Gr.refl _);have aP:=Ay ((HN.out.gr hB aD.out).more (B':=W0.heap.size) (by omega));go_loop [4] (λi=>∃k:Nat,k<=c.DW.length/\i=F N k/\∀j,j<k->FC (c.DW[j]?.getD 0) 0 12=bh) (λi=>c.DW.length-(bb i).toNat)
  case atStart=>exact⟨0,by omega,rfl,λj hj=>AI hj (BJ _)⟩
  case round =>
   obtain⟨k,hk,rfl,hz⟩:=hrel;have HZ:=Ay hz;clear hz;by_cases zY:k<c.DW.length
   .obtain⟨b,o,rfl,hb,hcell⟩:=aP.out.at_ zY;have hI:=dW (c.DW[k]?.getD 0) 0 12 W0;cases a8:FC (c.DW[k]?.getD 0) 0 12 with
    |true =>
     rw[a8] at hI;have HI:=Ay hI;have aQ:=Ay a8;clear hI a8;generalize c.DW[k]?.getD 0=x at hcell HI;go_wp2_with (go_at_call 43;refine HI.out.mono ?_;rintro e w' ⟨rfl,rfl⟩);go_round
     case rel=>exact⟨k+1,by omega,by go_num,λj hj=>by
      obtain h|rfl:=Bv (BM hj)
      .exact HZ.out j h
      .exact aQ.out⟩
     case measure=>simp[Proofs.intOf];omega
    |false =>
     rw[a8] at hI;have HI:=Ay hI
     have HS:=Ay (show Eg c=1 by
      have:(c.DW.all λx=>FC x 0 12)=false:=by
       rw[List.all_eq_false];exact⟨_,Ge _ _ zY,by simp[a8]⟩
      simp[Eg,aI.out,this])
     clear hI a8;generalize c.DW[k]?.getD 0=x at hcell HI;go_wp2_with (go_at_call 43;refine HI.out.mono ?_;rintro e w' ⟨rfl,rfl⟩);go_ret;exact⟨ap HS.out.symm,aD.out⟩
   .have HA := Lib.hid (show (c.DW.all fun x => FC x 0 12) = bh by
     rw[Bz];intro x hx;obtain⟨j,hj,rfl⟩:=Cc.1 hx;have:=HZ.out j (by omega)
     rwa [AB hj] at this)
    have aJ:k=c.DW.length:=by omega
    clear HZ;subst aJ;have aF:=iU c.DV.length 1 4 W0;by_cases aB:Ez c.DV.length 1 4=0
    .rw[aB] at aF;have HM:=Ay aF;have HD:=Ay (jT aI.out HA.out aB);clear aF aB;go_wp2_with (first|(go_at_call 81;refine HM.out.mono ?_;rintro e w' ⟨rfl,rfl⟩));go_loopw [6] (λi wr=>∃k:Nat,k<=c.DV.length/\i=F N k/\(∀j,j<k->Fq c.DW.length (c.h j)=0)/\Gr W0 wr) (λi _=>c.DV.length-(bb i).toNat)
     case atStart=>exact⟨0,by omega,rfl,λj hj=>AI hj (BJ _),Gr.refl _⟩
     case round =>
      obtain⟨k,hk,rfl,hz,zV⟩:=hrel;have HZ:=Ay hz;have aN:=Ay zV;have a7:=Ay (aD.out.trans zV);obtain⟨KC,aZ⟩:=HC.out wr zV;have zx:w.heap.size<wr.heap.size:=by have:=aN.out.size;omega
      clear hz zV;by_cases zY:k<c.DV.length
      .have aR:=Ay (HH.out.keep λb o hb=>a7.out.cell (p:=⟨b,o,bD⟩) (AC hb hB));obtain⟨b,o,rfl,hb,hat⟩:=aR.out.at_ (c:=c) zY;obtain⟨g0,g1,g2,A,ac,g3,aS⟩:=hat;have aT:=Ay (aS.more (B':=wr.heap.size) (by omega));have aU:=aO.out _ (c.Gs zY);have HF:=Ay (bO c c.DW.length zY);have aV:∀x lo hi v,FC x lo hi=v->∀W:Z,bc DU 43 #[F N x,F N lo,F N hi] W λe w'=>e=.returned (.bool v)/\W=w':=λx lo hi v h W=>by rw[<-h];exact dW _ _ _ _
       have a6:=Ay aV;cases t1:FC (c.h k).heads 1 40 with
       |false =>
        have HS:=Ay (show Eg c=1 by
         have e:Fq c.DW.length (c.h k)=1:=by simp[Fq,t1]
         rw[HD.out,be (k:=k) (by simpa using zY) (λi hi=>by rw[bO c _ (by omega)];exact HZ.out i hi) (by rw[HF.out,e];decide),HF.out,e])
        have HA:=Ay (a6.out _ _ _ _ t1);go_wp2_with (first|(go_at_call 43;refine(HA.out _).mono ?_;rintro e w' ⟨rfl,rfl⟩));go_ret;exact⟨ap HS.out.symm,a7.out.alloc _⟩
       |true =>
        have HA:=Ay (a6.out _ _ _ _ t1);cases t2:FC (c.h k).E3 1 5 with
        |false =>
         have HS:=Ay (show Eg c=1 by
          have e:Fq c.DW.length (c.h k)=1:=by simp[Fq,t2]
          rw[HD.out,be (k:=k) (by simpa using zY) (λi hi=>by rw[bO c _ (by omega)];exact HZ.out i hi) (by rw[HF.out,e];decide),HF.out,e])
         have aC:=Ay (a6.out _ _ _ _ t2);go_wp2_with fail;refine(HA.out _).mono ?_;rintro e w' ⟨rfl,rfl⟩;go_wp2_with fail;refine(aC.out _).mono ?_;rintro e w' ⟨rfl,rfl⟩;go_wp2;go_ret;exact⟨ap HS.out.symm,a7.out.alloc _⟩
        |true =>
         have aC:=Ay (a6.out _ _ _ _ t2);cases t3:FC (c.h k).most 0 5 with
         |false =>
          have HS:=Ay (show Eg c=1 by
           have e:Fq c.DW.length (c.h k)=1:=by simp[Fq,t3]
           rw[HD.out,be (k:=k) (by simpa using zY) (λi hi=>by rw[bO c _ (by omega)];exact HZ.out i hi) (by rw[HF.out,e];decide),HF.out,e])
          have aG:=Ay (a6.out _ _ _ _ t3);go_wp2_with fail;refine(HA.out _).mono ?_;rintro e w' ⟨rfl,rfl⟩;go_wp2_with fail;refine(aC.out _).mono ?_;rintro e w' ⟨rfl,rfl⟩;go_wp2_with fail;refine(aG.out _).mono ?_;rintro e w' ⟨rfl,rfl⟩;go_wp2;go_ret;exact⟨ap HS.out.symm,a7.out.alloc _⟩
         |true =>
          have aG:=Ay (a6.out _ _ _ _ t3);have HE:=Ay (show Fq c.DW.length (c.h k)=Fi (c.h k).off c.DW.length by simp[Fq,t1,t2,t3]);have HAS:=Ay (λW (hg:Gr wr W)=>mV A ac (c.h k).off c.DW.length W wr.heap.size (aT.out.gr (AA _) hg) hg.size aU (by omega) (by omega));have aK:Hid (∀v,Gr wr (wr.alloc v)):=Ay λv=>(Gr.refl wr).alloc v;by_cases he:Fi (c.h k).off c.DW.length=0
          .rw[he] at HAS;have aW:=Ay (HE.out.trans he);go_wp2_with fail;refine(HA.out _).mono ?_;rintro e w' ⟨rfl,rfl⟩;go_wp2_with fail;refine(aC.out _).mono ?_;rintro e w' ⟨rfl,rfl⟩;go_wp2_with fail;refine(aG.out _).mono ?_;rintro e w' ⟨rfl,rfl⟩;go_wp2_with fail;refine(HAS.out _ (aK.out _)).mono ?_;rintro e w5 ⟨rfl,aH⟩;have aX:=Ay ((aN.out.alloc _).trans aH);have aL:=Ay ((a7.out.alloc _).trans aH)
           go_wp2;go_roundw
           case rel=>exact⟨k+1,by omega,by go_num,λj hj=>by
            obtain h|rfl:=Bv (BM hj)
            .exact HZ.out j h
            .exact aW.out,aX.out⟩
           case measure=>simp[Proofs.intOf];omega
          .have HS := Lib.hid (show Eg c = Fi (c.h k).off c.DW.length by
            rw[HD.out,be (k:=k) (by simpa using zY) (λi hi=>by rw[bO c _ (by omega)];exact HZ.out i hi) (by rw[HF.out,HE.out];exact he),HF.out,HE.out])
           have zU:((Fi (c.h k).off c.DW.length) != 0)=true:=by simpa using he
           generalize Fi (c.h k).off c.DW.length=e0 at HAS HS zU;go_wp2_with fail;refine(HA.out _).mono ?_;rintro e w' ⟨rfl,rfl⟩;go_wp2_with fail;refine(aC.out _).mono ?_;rintro e w' ⟨rfl,rfl⟩;go_wp2_with fail;refine(aG.out _).mono ?_;rintro e w' ⟨rfl,rfl⟩;go_wp2_with fail;refine(HAS.out _ (aK.out _)).mono ?_;rintro e w5 ⟨rfl,aH⟩;have aL:=Ay ((a7.out.alloc _).trans aH);go_wp2;go_ret;exact⟨ap HS.out.symm,aL.out⟩
      .have HS := Lib.hid (show Eg c = 0 by
        rw[HD.out];exact dc λi hi=>by
         rw[Bq] at hi
         rw[bO c _ hi];exact HZ.out i (by omega))
       have aJ:k=c.DV.length:=by omega
       subst aJ;go_wp2;go_ret;exact⟨ap HS.out.symm,a7.out⟩
    .have HS:=Ay (show Eg c=Ez c.DV.length 1 4 by simp[Eg,aI.out,HA.out,aB]);have HM:=Ay aF;have hb:((Ez c.DV.length 1 4) != 0)=true:=by simpa using aB
     generalize Ez c.DV.length 1 4=e0 at HM hb HS;go_wp2_with (first|(go_at_call 81;refine HM.out.mono ?_;rintro e w' ⟨rfl,rfl⟩));go_ret;exact⟨ap HS.out.symm,aD.out⟩
 .have HS:=Ay (show Eg c=Ez c.DW.length 1 5 by simp[Eg,aA]);have HM:=Ay (iU c.DW.length 1 5 W0);have hb:((Ez c.DW.length 1 5) != 0)=true:=by simpa using aA
  rw[zM] at HM;generalize Ez c.DW.length 1 5=e0 at HM hb HS;go_enter Sq.func51,bW;go_wp2_with (first|(go_at_call 81;refine HM.out.mono ?_;rintro e w' ⟨rfl,rfl⟩));go_ret;exact⟨ap HS.out.symm,(Gr.refl w).alloc _⟩
def n8 (nA hA gA:Option b8)(nc hc gc:Nat)(c:D9)(ls:List (List Int))(w:Z)(B:Nat)(hB:B<=w.heap.size)(hn:RI w B nA c.DW)(hh:EN w B hA c.DV)(hg:ER w B gA ls)
  (aM:c.DW.length<=4611686018427387904) (zC:c.DV.length<=4611686018427387904) (aH:∀h∈c.DV,h.off.length<=4611686018427387904) (aW:ls.length<=4611686018427387904) (zr:∀x∈ls,x.length<=4611686018427387904) :
  bc DU 42 #[Ef nA hA c nc hc,I gA ls.length gc] w λe w'=>e=.returned (F N (Ek c ls))/\Gr w w':=by
 have aN:=Ay hg;have aO:=Ay zr;unfold Ef;obtain⟨W0,zM⟩:∃W0:Z,W0=w.alloc (.cells #[I nA c.DW.length nc,I hA c.DV.length hc] 25):=⟨_,rfl⟩;have zL:Gr w W0:=zM▸(Gr.refl w).alloc _;have zF:W0.heap.size=w.heap.size+1:=by rw[zM];simp
 have aP:=Ay zL;have HC:Hid (∀W,Gr W0 W->(W.cell? ⟨w.heap.size,0,bD⟩=U (I nA c.DW.length nc)/\W.cell? ⟨w.heap.size,1,bD⟩=U (I hA c.DV.length hc))/\w.heap.size<W.heap.size):=Ay λW hg=>by
  have:=hg.size;rw[hg.cell (by show w.heap.size<_;omega),hg.cell (by show w.heap.size<_;omega),zM,AE _ _ _ _ rfl,AE _ _ _ _ rfl];exact⟨⟨rfl,rfl⟩,by omega⟩
 have aB:=ki nA hA nc hc c W0 B (by omega) (hn.gr hB zL) (hh.keep λb o hb=>zL.cell (AC hb hB)) aM zC aH;unfold Ef at aB;have aI:=Ay aB;have HW:=Ay zM;clear hn hh hg zr aH zL aB zM;go_enter Sq.func42,Tryz.ntmps42;go_wp2_with fail;rw[<-HW.out];refine aI.out.mono ?_;rintro e w1 ⟨rfl,zJ⟩;obtain⟨⟨c0,c1⟩,cl⟩:=HC.out w1 zJ;have aQ:=Ay zJ;have a7:=Ay (aP.out.trans zJ);have a8:Hid (∀W,bc DU 81 #[F N ls.length,F N c.DW.length,F N c.DW.length] W λe w'=>e=.returned (F N (Ez ls.length c.DW.length c.DW.length))/\W=w'):=Ay λW=>iU _ _ _ W
 clear aI zJ;by_cases h0:Eg c=0
 .by_cases hm:Ez ls.length c.DW.length c.DW.length=0
  .have aJ:Hid (Ek c ls=bF (ls.map λl=>Fi l c.DV.length)):=Ay (by simp[Ek,h0,hm]);rw[hm] at a8;rw[h0];clear h0 hm;go_wp2_with fail;refine(a8.out _).mono ?_;rintro e w' ⟨rfl,rfl⟩;go_wp2;go_loopw [7] (λi wr=>∃k:Nat,k<=ls.length/\i=F N k/\(∀j,j<k->Fi (ls[j]?.getD []) c.DV.length=0)/\Gr w1 wr) (λi _=>ls.length-(bb i).toNat)
   case atStart=>exact⟨0,by omega,rfl,λj hj=>AI hj (BJ _),.refl _⟩
   case round =>
    obtain⟨k,hk,rfl,hz,zV⟩:=hrel;have HZ:=Ay hz;have aK:=Ay zV;obtain⟨⟨d0,d1⟩,dl⟩:=HC.out wr (aQ.out.trans zV);have aC:Gr w wr:=a7.out.trans zV;have aX:=aC.size;by_cases zY:k<ls.length
    .have aL:=(aN.out.gr hB aC);obtain⟨b,o,rfl,hb,aR⟩:=aL (λe=>by rw[e] at zY;simp at zY);obtain⟨A',c',hcell,aS⟩:=aR k _ (AB zY);have hbl:b<wr.heap.size:=by omega
     have aT:=aO.out _ (Bh zY);have aD:Hid (ls[k]?.getD []=ls[k]):=Ay (by rw[AB zY];rfl);have aA:=Ay (fj ls (c.DV.length:Int) zY);rw[aD.out] at aA;have a6:=Ay (λd=>mV A' c' ls[k] c.DV.length (wr.drewN d) B (aS.gr (by omega) ((Gr.refl wr).drewN d)) (by show B<=wr.heap.size;omega) aT (by omega) (by omega));rw[show(c.DV.length:Int)-1=IntKind.i64.wrap ((c.DV.length:Int)-1) by simp[b5,b6,bA];omega] at a6
     generalize ls[k]=x at hcell aD aA a6;by_cases he:Fi x c.DV.length=0
     .rw[he] at a6;have aU:=Ay (aD.out▸he:Fi (ls[k]?.getD []) c.DV.length=0);go_wp2;go_region_with (go_at_call 82;refine(a6.out 1).mono ?_;rintro e w5 ⟨rfl,aF⟩)
      all_goals
       have aG:=Ay ((aK.out.drewN 1).trans aF);go_wp2;go_roundw
       case rel=>exact⟨k+1,by omega,by go_num,λj hj=>(by
        obtain h|rfl:=Bv (BM hj)
        .exact HZ.out j h
        .exact aU.out),aG.out⟩
       case measure=>simp[Proofs.intOf];omega
     .have HS := Lib.hid (show Ek c ls = Fi x c.DV.length by
       rw[aJ.out,be (k:=k) (by simpa using zY) (λi hi=>by rw[fj ls _ (by omega)];exact HZ.out i hi) (by rw[aA.out];exact he),aA.out])
      have zU:((Fi x c.DV.length) != 0)=true:=by simpa using he
      generalize Fi x c.DV.length=e0 at a6 HS zU;go_wp2;go_region_with (go_at_call 82;refine(a6.out 1).mono ?_;rintro e w5 ⟨rfl,aF⟩)
      all_goals
       have aG:=Ay (a7.out.trans ((aK.out.drewN 1).trans aF));go_wp2;go_ret;exact⟨ap HS.out.symm,aG.out⟩
    .have HS := Lib.hid (show Ek c ls = 0 by
      rw[aJ.out];exact dc λi hi=>by
       rw[Bq] at hi
       rw[fj ls _ hi];exact HZ.out i (by omega))
     have aV:=Ay aC;go_wp2;go_ret;exact⟨ap HS.out.symm,aV.out⟩
  .have HS:=Ay (show Ek c ls=Ez ls.length c.DW.length c.DW.length by simp[Ek,h0,hm]);have zU:((Ez ls.length c.DW.length c.DW.length) != 0)=true:=by simpa using hm
   rw[h0];generalize Ez ls.length c.DW.length c.DW.length=e0 at a8 HS zU;go_wp2_with fail;refine(a8.out _).mono ?_;rintro e w' ⟨rfl,rfl⟩;go_wp2;go_ret;exact⟨ap HS.out.symm,a7.out⟩
 .have HS:=Ay (show Ek c ls=Eg c by simp[Ek,h0]);have zU:(Eg c != 0)=true:=by simpa using h0
  generalize Eg c=e0 at HS zU;go_wp2;go_ret;exact⟨ap HS.out.symm,a7.out⟩
def dN:∀ {l m:List Int},l.Pairwise (·<·)->m.Pairwise (·<·)->(∀x,x∈l↔x∈m)->l=m
 |[],[],_,_,_=>rfl
 |[],b::m,_,_,h=>AI ((h b).2 (B4 ..)) (by simp)
 |a::l,[],_,_,h=>AI ((h a).1 (B4 ..)) (by simp)
 |a::l,b::m,hl,hm,h=>by
  obtain⟨h1,h2⟩:=CX.1 hl;obtain⟨h3,h4⟩:=CX.1 hm;have e:a=b:=by
   obtain e|e:=AJ.1 ((h a).1 (B4 ..))
   .exact e
   .obtain e2|e2:=AJ.1 ((h b).2 (B4 ..))
    .exact e2.symm
    .have:=h3 a e;have:=h1 b e2;omega
  subst e;congr 1;refine dN h2 h4 λx=>⟨λhx=>?_,λhx=>?_⟩
  .obtain e|e:=AJ.1 ((h x).1 (Ci _ hx))
   .have:=h1 x hx;omega
   .exact e
  .obtain e|e:=AJ.1 ((h x).2 (Ci _ hx))
   .have:=h3 x hx;omega
   .exact e
def mW {l:List Int}(h:∀i,i+1<l.length->l[i]?.getD 0<l[i+1]?.getD 0):l.Pairwise (·<·):=by
 induction l with
 |nil=>exact .nil
 |cons a l ih =>
  have ih':=ih λi hi=>by have:=h (i+1) (by simpa using hi);simpa using this
  refine CX.2 ⟨λb hb=>?_,ih'⟩;cases l with
  |nil=>cases hb
  |cons c l =>
   have h0:=h 0 (by simp);simp at h0;obtain rfl|hb:=AJ.1 hb
   .exact h0
   .have:=(CX.1 ih').1 b hb;omega
def qF {l:List Int}{m:Nat}(h:Fi l m=0):∃p,l=Eo p m:=by
 obtain⟨h1,_,h2⟩:=I0 h;refine⟨λn=>decide ((n:Int)∈l),dN (mW h2) (da _ _) λx=>?_⟩;rw[FB];constructor
 .intro hx;have:=h1 x hx;refine⟨x.toNat,by omega,by omega,?_⟩;rw[show((x.toNat:Nat):Int)=x by omega];simpa using hx
 .rintro⟨n,rfl,_,hn⟩;simpa using hn
def jd {c:D9}{ls:List (List Int)}(h:Ek c ls=0):ls.length=c.DW.length/\∀x∈ls,Fi x c.DV.length=0:=by
 unfold Ek at h;split at h
 .exact AI h (by assumption)
 .split at h
  .exact AI h (by assumption)
  .rename_i h1 h2;refine⟨?_,λx hx=>bg.1 h _ (Bf.2 ⟨x,hx,rfl⟩)⟩;have h2:Ez ls.length c.DW.length c.DW.length=0:=by simpa using h2
   unfold Ez at h2;split at h2
   .omega
   .split at h2<;>omega
def dO {c:D9}{ls:List (List Int)}(h:Ek c ls=0):Eg c=0:=by
 unfold Ek at h;split at h
 .exact AI h (by assumption)
 .simpa using ‹¬Eg c≠0›
def Io (A:Option b8)(c:Nat)(l:List Int)(n:Int)(w:Z)(B:Nat)(h:RI w B A l)(hl:l.length<=4611686018427387904) :
  bc DU 83 #[I A l.length c,F N n] w λe w'=>e=.returned (.bool (decide (n∈l)))/\w=w':=by
 have HR:=Ay h;go_enter Sq.func83,Tryz.ntmps83;go_wp2;go_loop [5] (λi=>∃k:Nat,k<=l.length/\i=F N k/\n ∉ l.take k) (λi=>l.length-(bb i).toNat)
 case atStart=>exact⟨0,by omega,rfl,by simp⟩
 case round =>
  obtain⟨k,hk,rfl,hz⟩:=hrel;by_cases zY:k<l.length
  .obtain⟨b,o,rfl,hb,hc⟩:=HR.out.at_ zY;have HM:=Ay (lQ zY n);have a6:Hid (l[k]?.getD 0∈l):=Ay (by rw[AB zY];exact Bh zY);have HZ:=Ay hz;generalize l[k]?.getD 0=x at hc HM a6;by_cases he:x=n
   .subst he;have HS:=Ay (show decide (x∈l)=bh by simpa using a6.out);go_wp2;go_ret;exact⟨au HS.out.symm,rfl⟩
   .have HN:Hid (n ∉ l.take (k+1)):=Ay λh=>(HM.out.1 h).elim HZ.out he;go_wp2;go_round
    case rel=>exact⟨k+1,by omega,by go_num,HN.out⟩
    case measure=>simp[Proofs.intOf];omega
  .have a7:k=l.length:=by omega
   have HS:=Ay (show decide (n∈l)=bl by
    rw[a7,Ct] at hz
    simpa using hz)
   go_wp2;go_ret;exact⟨au HS.out.symm,rfl⟩
def qG (A:Option b8)(c:Nat)(ls:List (List Int))(h:Nat)(w:Z)(B:Nat)(hg:ER w B A ls)(hl:ls.length<=1048576)(zC:∀x∈ls,x.length<=1048576) :
  bc DU 96 #[I A ls.length c,F N h] w λe w'=>e=.returned (F N (GQ ls ls.length h))/\w=w':=by
 have HG:=Ay hg;have HL:=Ay zC;go_enter Sq.func96,Tryz.ntmps96;go_wp2;go_loop [5,6] (λv i=>∃k:Nat,k<=ls.length/\i=F N k/\v=F N (GQ ls k h)) (λ_ i=>ls.length-(bb i).toNat)
 case atStart=>exact⟨0,by omega,rfl,rfl⟩
 case round =>
  obtain⟨k,hk,rfl,rfl⟩:=hrel;by_cases zY:k<ls.length
  .obtain⟨b,o,rfl,hb,a7⟩:=HG.out (λe=>by rw[e] at zY;simp at zY);obtain⟨A',c',hcell,a8⟩:=a7 k _ (AB zY);have HH:=Ay (Io A' c' ls[k] (h:Int) w B a8 (AH (HL.out _ (Bh zY)) (by omega)))
   have HS:Hid (GQ ls (k+1) h=GQ ls k h+if(h:Int)∈ls[k] then 1 else 0):=Ay (by
    show GQ ls k h+(if _ then _ else _)=_
    rw[AB zY];rfl)
   have hb:=sG ls k h;generalize ls[k]=x at hcell HH HS;generalize GQ ls k h=s at HS hb;by_cases a6:(h:Int)∈x
   .rw[BE a6] at HH;rw[AF a6] at HS;go_wp2_with fail;refine HH.out.mono ?_;rintro e w' ⟨rfl,rfl⟩;go_wp2;go_round
    case rel=>exact⟨k+1,by omega,by go_num,by rw[HS.out]⟩
    case measure=>simp[Proofs.intOf];omega
   .rw[Bx a6] at HH;rw[AD a6,Int.add_zero] at HS;go_wp2_with fail;refine HH.out.mono ?_;rintro e w' ⟨rfl,rfl⟩;go_wp2;go_round
    case rel=>exact⟨k+1,by omega,by go_num,by rw[HS.out]⟩
    case measure=>simp[Proofs.intOf];omega
  .have aA:k=ls.length:=by omega
   subst aA;go_wp2;go_ret;exact⟨rfl,rfl⟩
variable {R S:Z->Z->Prop} {H:Z->Prop} {C:Nat->Z->Prop} {ops:Array bn} {Q:Exit->Act->Z->Prop} {n m k:Nat} {ds:List bq} {u0:Nat->Y} {w0:Z} {l:List (Y->Z->Prop)} {d:Option Tmp} {g:Option (Nat×Bool)} {t ty:ak} {x:Y} {a b:Nat}
def Vr (l:List (Y->Z->Prop))(i:Nat):Y->Z->Prop:=Vl l.reverse i
def St (R S:Z->Z->Prop)(H:Z->Prop)(ops:Array bn)(Q:Exit->Act->Z->Prop)(n:Nat)(ds:List bq)(u0:Nat->Y)(w0:Z)(k:Nat)(l:List (Y->Z->Prop))(V:Y->Z->Prop):Prop :=
 (∀i,F3 R (Vr l i))->F3 R V/\∀u w,R w0 w->Fr ops u u0->Late ops k u u0->NQ ops (Vr l) k u w->H w->Done S DU ops Q n ds k V u w
structure Px (R:Z->Z->Prop)(C:Nat->Z->Prop)(ops:Array bn)(Q:Exit->Act->Z->Prop)(n:Nat)(ds:List bq)(m:Nat)(u0:Nat->Y)(w0:Z)(k:Nat)(l:List (Y->Z->Prop)):Prop where
 txt:Qs .any ops m
 c0:∀k,C k w0.drew
 len:l.length=k
 mono:∀i,F3 R (Vr l i)
 step:∀i,i<k->i<ops.size->∀l2 u w,R w0 w->Fr ops u u0->Late ops i u u0->NQ ops (Vl (l.reverse++l2)) i u w->C i w->Done (L8 R C .any ops i) DU ops Q n ds i (Vl (l.reverse++l2) i) u w
def sN {a b:List (Y->Z->Prop)}{i:Nat}(h:i<a.length):Vl (a++b) i=Vl a i:=by unfold Vl;rw[Bl h]
def vz {a b:List (Y->Z->Prop)}{V:Y->Z->Prop}{i:Nat}(h:a.length=i):Vl (a++V::b) i=V:=by subst h;unfold Vl;rw[Bo (AA _)];simp
def F8 {G:Prop}{V:Y->Z->Prop}(s:St R (L8 R C .any ops k) (C k) ops Q n ds u0 w0 k l V)(rest:Px R C ops Q n ds m u0 w0 (k+1) (V::l)->G)(h:Px R C ops Q n ds m u0 w0 k l):G:=by
 obtain⟨hm,hs⟩:=s h.mono;have hl:l.reverse.length=k:=by rw[List.length_reverse,h.len]
 refine rest ⟨h.txt,h.c0,by rw[AM,h.len],λi=>?_,λi hi his l2=>?_⟩
 .unfold Vr;rw[bw];obtain e|e|e:=Nat.lt_trichotomy i k
  .rw[sN (by omega)];exact h.mono i
  .rw[vz (by omega)];exact hm
  .unfold Vl;rw[BD (by simp;have:=h.len;omega)];exact λ_ _ _ _ h=>h
 .rw[bw,Ce];by_cases e:i<k
  .exact h.step i e his _
  .obtain rfl:i=k:=by omega
   intro u w hg hf zY hd hC;rw[show Vl (l.reverse++([V]++l2)) i=V from vz hl]
   exact hs u w hg hf zY (λj hj o d ho a6=>by
    have:=hd j hj o d ho a6
    rwa [sN (by have:=h.txt.lt _ his j hj;omega)] at this) hC
def Ea {G:Prop}{V:Y->Z->Prop}(s:St R R (λ_=>True) ops Q n ds u0 w0 k l V)(rest:Px R (λ_ _=>True) ops Q n ds m u0 w0 (k+1) (V::l)->G):Px R (λ_ _=>True) ops Q n ds m u0 w0 k l->G :=
 F8 (λhm=>⟨(s hm).1,λu w hg hf hl hd hC=>((s hm).2 u w hg hf hl hd hC).weak λ_ h=>⟨h,λ_ _ _ _=>trivial⟩⟩) rest
def RN [Goes R](C:Nat->Z->Prop)(m:Nat)(hC:∀k,C k w0.drew){id:Nat}{dr:Bool}(rest:Px R C ops Q n ds m u0 w0 0 []->(M id ops dr).wp DU Q ⟨T n u0,ds⟩ w0)(X:Nc .any ops m=true:=by kernel_rfl):(M id ops dr).wp DU Q ⟨T n u0,ds⟩ w0 :=
 rest ⟨yz X,hC,rfl,λi=>by unfold Vr Vl;simp[F3],λi hi=>AI hi (BJ _)⟩
def aW [Goes R](m:Nat){id:Nat}{dr:Bool}(rest:Px R (λ_ _=>True) ops Q n ds m u0 w0 0 []->(M id ops dr).wp DU Q ⟨T n u0,ds⟩ w0)(X:Nc .any ops m=true:=by kernel_rfl):(M id ops dr).wp DU Q ⟨T n u0,ds⟩ w0:=RN _ m (λ_=>trivial) rest X
def jv:∀ {l:List (Y->Z->Prop)},(∀i,F3 R (Vl l i))->KU R l
 |[],_=>trivial
 |_::_,h=>⟨h 0,jv λi=>h (i+1)⟩
def MG [Goes R]{id:Nat}(fin:∀u w,R w0 w->Fr ops u u0->Ends ops (Vr l) m u w->wpOps DU ops Q (O m (ops.size-m)) ⟨T n u,ds⟩ w)(hk:k=m:=by exact rfl)(h:Px R C ops Q n ds m u0 w0 k l):(M id ops bh).wp DU Q ⟨T n u0,ds⟩ w0:=by
 subst hk;have hX:=h.txt;refine uF C h.c0 hX l.reverse (jv h.mono) (Jb.of λi hi=>?_) fin
 have:=h.step i hi (by
  obtain h|h:=hX.last
  .omega
  .have:=h.size;omega) []
 rw[B6] at this;exact this
def Gc [Goes R]{id:Nat}{dr:Bool}(fin:∀u w,R w0 w->Fr ops u u0->Ends ops (Vr l) m u w->wpOps DU ops Q (O m (ops.size-m)) ⟨T n u,ds⟩ w)(hk:k=m:=by exact rfl)(h:Px R (λ_ _=>True) ops Q n ds m u0 w0 k l):(M id ops dr).wp DU Q ⟨T n u0,ds⟩ w0:=by
 cases dr with
 |true=>exact MG fin hk h
 |false =>
  subst hk;have hX:=h.txt;refine sL hX l.reverse (jv h.mono) (Jb.of λi hi u w h1 h2 h3 h4=>?_) fin
  have:=h.step i hi (by
   obtain h|h:=hX.last
   .omega
   .have:=h.size;omega) []
  rw[B6] at this;exact(this u w h1 h2 h3 h4 trivial).weak λ_ h=>h.1
def At (R:Z->Z->Prop)(ops:Array bn)(n:Nat)(u0:Nat->Y)(w0:Z)(k:Nat)(l:List (Y->Z->Prop))(t:Nat)(x:Y):Prop :=
 t<n/\∀u w,R w0 w->Fr ops u u0->Late ops k u u0->NQ ops (Vr l) k u w->u t=x
def G9 {t:Nat}(e:u0 t=x)(hf:FL ops t=true:=by kernel_rfl)(ht:t<n:=by decide):At R ops n u0 w0 k l t x:=⟨ht,λ_ _ _ f _ _=>(f t hf).trans e⟩
def El {t:Nat}(j:Nat)(h2:(opAt ops j).bind (·.1)=U t:=by exact rfl)(hx:Vr l j=λv _=>v=x:=by exact rfl)(h1:(JA .any ops k).contains j=true:=by kernel_rfl)(ht:t<n:=by decide):At R ops n u0 w0 k l t x :=
 ⟨ht,λu w _ _ _ d=>by have:=d.at_ j t h1 h2;rw[hx] at this;exact this⟩
def RO {t:Nat}(j:Nat)(e:u0 t=x)(h1:(JA .any ops j).contains k=true:=by kernel_rfl)(h2:(opAt ops j).bind (·.1)=U t:=by exact rfl)(ht:t<n:=by decide):At R ops n u0 w0 k l t x:=⟨ht,λ_ _ _ _ h _=>(h.at_ j t h1 h2).trans e⟩
def KV (ops:Array bn)(n k:Nat):Option (Nat×Bool)->Bool
 |none=>bh
 |some (j,_)=>(JA .any ops k).contains j&&match(opAt ops j).bind (·.1) with
  |some d=>decide (d<n)
  |none=>bl
def Gv (l:List (Y->Z->Prop)):Option (Nat×Bool)->Y->Z->Prop
 |none=>λv _=>v=.bool bh
 |some (j,_)=>Vr l j
def gb:Option (Nat×Bool)->Bool
 |none=>bh
 |some (_,b)=>b
def bL {u:Nat->Y}{w:Z}(hd:NQ ops (Vr l) k u w)(h1:KV ops n k g=bh)(h2:Gv l g=λv _=>v=.bool (gb g)):Lets ops n u g:=by
 cases g with
 |none=>trivial
 |some q =>
  obtain⟨j,b⟩:=q;unfold KV at h1;rw[AN] at h1;cases e:(opAt ops j).bind (·.1) with
  |none=>rw[e] at h1;cases h1.2
  |some d =>
   rw[e] at h1;have:=hd.at_ j d h1.1 e;rw[show Vr l j=_ from h2] at this;exact⟨d,e,B3 h1.2,this⟩
def NH:Option Tmp×Op×Option (Nat×Bool)×ak->Option (Nat×Option (Nat×Bool))
 |(_,.move (.tmp t),g,_)=>U (t,g)
 |(_,.assign (.tmp t),g,_)=>U (t,g)
 |_=>bD
def pm [Rfl R]{i t:Nat}{V:Y->Z->Prop}{u:Nat->Y}{w:Z}(h:(opAt ops i).bind NH=U (t,g))(hV:V (u t) w)(hl:Lets ops n u g)(ht:t<n):Done R DU ops Q n ds i V u w:=by
 cases e:opAt ops i with
 |none=>rw[e] at h;cases h
 |some q =>
  rw[e] at h;obtain⟨d,op,g',ty⟩:=q;change NH (d,op,g',ty)=_ at h;unfold NH at h;split at h
  .rename_i e';cases e';cases h;exact sJ e hV hl ht
  .rename_i e';cases e';cases h;exact n7 e hV hl ht
  .cases h
def Q0 [Rfl S]{t:Nat}(p:At R ops n u0 w0 k l t x)(h:(opAt ops k).bind NH=U (t,g):=by exact rfl)(h1:KV ops n k g=true:=by kernel_rfl)(h2:Gv l g=λv _=>v=.bool (gb g):=by exact rfl):St R S H ops Q n ds u0 w0 k l λv _=>v=x :=
 λ_=>⟨EU x,λu w hg hf hl hd _=>pm h (p.2 u w hg hf hl hd) (bL hd h1 h2) p.1⟩
def Es [Rfl S]{t:Nat}(e:u0 t=x)(h:(opAt ops k).bind NH=U (t,g):=by exact rfl)(hf:FL ops t=true:=by kernel_rfl)(ht:t<n:=by decide)(h1:KV ops n k g=true:=by kernel_rfl)(h2:Gv l g=λv _=>v=.bool (gb g):=by exact rfl):St R S H ops Q n ds u0 w0 k l λv _=>v=x :=
 Q0 (G9 e hf ht) h h1 h2
def GD [Rfl S]{t:Nat}(j:Nat)(h:(opAt ops k).bind NH=U (t,g):=by exact rfl)(h3:(opAt ops j).bind (·.1)=U t:=by exact rfl)(h4:(JA .any ops k).contains j=true:=by kernel_rfl)(ht:t<n:=by decide)(h1:KV ops n k g=true:=by kernel_rfl)(h2:Gv l g=λv _=>v=.bool (gb g):=by exact rfl):St R S H ops Q n ds u0 w0 k l (Vr l j) :=
 λhm=>⟨hm j,λu w hg hf hl hd _=>pm h (hd.at_ j t h4 h3) (bL hd h1 h2) ht⟩
def Q2 [Rfl S]{c:Y}(h:opAt ops k=U (d,.assign (.const c),g,ty):=by exact rfl)(h1:KV ops n k g=true:=by kernel_rfl)(h2:Gv l g=λv _=>v=.bool (gb g):=by exact rfl):St R S H ops Q n ds u0 w0 k l λv _=>v=c :=
 λ_=>⟨EU c,λ_ _ _ _ _ hd _=>mT h rfl (bL hd h1 h2)⟩
def P0 [Rfl S]{j t:Nat}{op:Op}{c:Bool}(h:opAt ops k=U (d,op,U (j,c),ty):=by exact rfl)(hx:Vr l j=λv _=>v=.bool (!c):=by exact rfl)(h3:(opAt ops j).bind (·.1)=U t:=by exact rfl)(h4:(JA .any ops k).contains j=true:=by kernel_rfl)(ht:t<n:=by decide):St R S H ops Q n ds u0 w0 k l λv _=>v=undef :=
 λ_=>⟨EU _,λu w _ _ _ hd _=>uG h (by have:=hd.at_ j t h4 h3;rw[hx] at this;exact this) rfl h3 ht⟩
def Gp [Rfl S]{p:b8}(pa:At R ops n u0 w0 k l a (.pointer (U p)))(hc:∀w,R w0 w->w.cell? p=U x)(h:opAt ops k=U (d,.load t (.tmp a),g,ty):=by exact rfl)(ht:kh t=true:=by kernel_rfl)(h1:KV ops n k g=true:=by kernel_rfl)(h2:Gv l g=λv _=>v=.bool (gb g):=by exact rfl):St R S H ops Q n ds u0 w0 k l λv _=>v=x :=
 λ_=>⟨EU _,λu w hg hf hl hd _=>sK h (pa.2 u w hg hf hl hd) (hc w hg) (bL hd h1 h2) pa.1 ht⟩
def I6 [Rfl S]{p:b8}(x:Y)(pa:At R ops n u0 w0 k l a (.pointer (U p)))(h:opAt ops k=U (d,.load t (.tmp a),g,ty))(hc:∀w,R w0 w->∀ev:r->Y,ev (.tmp a)=.pointer (U p)->(bo ev (Ia (.load t (.tmp a)) ty)).run DU w=.ok (.value x) w)(h1:KV ops n k g=true:=by kernel_rfl)(h2:Gv l g=λv _=>v=.bool (gb g):=by exact rfl):St R S H ops Q n ds u0 w0 k l λv _=>v=x :=
 λ_=>⟨EU _,λu w hg hf hl hd _=>bP h (λev he=>hc w hg ev ((he.1 a pa.1).trans (pa.2 u w hg hf hl hd))) (bL hd h1 h2)⟩
def JJ [Rfl S]{s f b o:Nat}(o':Nat)(pa:At R ops n u0 w0 k l a (.pointer (U ⟨b,o,bD⟩)))(h:opAt ops k=U (d,.fieldAddr s (.tmp a) f,g,ty):=by exact rfl)(ho:o+PZ s f=o':=by kernel_rfl)(hk:RH s f=true:=by kernel_rfl)(h1:KV ops n k g=true:=by kernel_rfl)(h2:Gv l g=λv _=>v=.bool (gb g):=by exact rfl):St R S H ops Q n ds u0 w0 k l λv _=>v=.pointer (U ⟨b,o',bD⟩) :=
 λ_=>⟨EU _,λu w hg hf hl hd _=>qC h (pa.2 u w hg hf hl hd) ho hk (bL hd h1 h2) pa.1⟩
def Ha [Rfl S]{q o len cap i:Nat}(o' s:Nat)(pa:At R ops n u0 w0 k l a (.slice (U ⟨q,o,bD⟩) len cap))(pb:At R ops n u0 w0 k l b (F N (i:Nat)))(h:opAt ops k=U (d,.indexAddr t (.tmp a) (.tmp b),g,ty):=by exact rfl)(hk:i<len:=by omega)(ho:o+i*s=o':=by omega)(hs:RJ t=s:=by kernel_rfl)(hz:s≠0:=by decide)
  (h1:KV ops n k g=true:=by kernel_rfl) (h2:Gv l g=λv _=>v=.bool (gb g):=by exact rfl):St R S H ops Q n ds u0 w0 k l λv _=>v=.pointer (U ⟨q,o',bD⟩) :=
 λ_=>⟨EU _,λu w hg hf hl hd _=>qD s h (pa.2 u w hg hf hl hd) (pb.2 u w hg hf hl hd) hk ho hs hz (bL hd h1 h2) pa.1 pb.1⟩
def MH [Rfl S]{c:Bool}(pa:At R ops n u0 w0 k l a (.bool c))(h:opAt ops k=U (d,.unOp .not t (.tmp a),g,ty):=by exact rfl)(h1:KV ops n k g=true:=by kernel_rfl)(h2:Gv l g=λv _=>v=.bool (gb g):=by exact rfl):St R S H ops Q n ds u0 w0 k l λv _=>v=.bool (!c) :=
 λ_=>⟨EU _,λu w hg hf hl hd _=>bP h (λev he=>by
  have e:=(he.1 a pa.1).trans (pa.2 u w hg hf hl hd)
  go_simp) (bL hd h1 h2)⟩
def MJ [Rfl S]{c:r}(pa:At R ops n u0 w0 k l a (.bool bl))(pb:At R ops n u0 w0 k l b x)(h:opAt ops k=U (d,.pick (.tmp a) c (.tmp b),g,ty):=by exact rfl)(h1:KV ops n k g=true:=by kernel_rfl)(h2:Gv l g=λv _=>v=.bool (gb g):=by exact rfl):St R S H ops Q n ds u0 w0 k l λv _=>v=x :=
 λ_=>⟨EU _,λu w hg hf hl hd _=>bP h (λev he=>by
  have e1:=(he.1 a pa.1).trans (pa.2 u w hg hf hl hd);have e2:=(he.1 b pb.1).trans (pb.2 u w hg hf hl hd);unfold bo Ia
  simp[e1,e2,asBool]) (bL hd h1 h2)⟩
def RP [Rfl S]{c:Y}{b:r}(pa:At R ops n u0 w0 k l a (.bool bh))(h:opAt ops k=U (d,.pick (.tmp a) (.const c) b,g,ty):=by exact rfl)(h1:KV ops n k g=true:=by kernel_rfl)(h2:Gv l g=λv _=>v=.bool (gb g):=by exact rfl):St R S H ops Q n ds u0 w0 k l λv _=>v=c :=
 λ_=>⟨EU _,λu w hg hf hl hd _=>bP h (λev he=>by
  have e1:=(he.1 a pa.1).trans (pa.2 u w hg hf hl hd);unfold bo Ia
  simp[e1,he.2.1,asBool]) (bL hd h1 h2)⟩
def P3 [Rfl S]{y:Int}{z:Y}{op:BinOp}{s t':ak}(x:Int)(pa:At R ops n u0 w0 k l a (F N y))(hx:-9223372036854775808<=x/\x<9223372036854775808:=by omega)(h:opAt ops k=U (d,.binOp op s (.tmp a) (.const z) t',g,ty):=by exact rfl)
  (hr:IntKind.i64.wrap x=x->∀w (ev:r->Y),ev (.tmp a)=F N y->(∀c,ev (.const c)=c)->(bo ev (Ia (.binOp op s (.tmp a) (.const z) t') ty)).run DU w=.ok (.value (F N x)) w:=by intro _ _ _ _ _;go_simp) (h1:KV ops n k g=true:=by kernel_rfl) (h2:Gv l g=λv _=>v=.bool (gb g):=by exact rfl):St R S H ops Q n ds u0 w0 k l λv _=>v=F N x :=
 λ_=>⟨EU _,λu w hg hf hl hd _=>bP h (λev he=>hr (by simp[b5,b6,bA];omega) w ev ((he.1 a pa.1).trans (pa.2 u w hg hf hl hd)) he.2.1) (bL hd h1 h2)⟩
def MK [Rfl S]{y z:Y}{op:BinOp}{s t':ak}(x:Y)(pa:At R ops n u0 w0 k l a y)(pb:At R ops n u0 w0 k l b z)(h:opAt ops k=U (d,.binOp op s (.tmp a) (.tmp b) t',g,ty):=by exact rfl)(hr:∀w (ev:r->Y),ev (.tmp a)=y->ev (.tmp b)=z->(bo ev (Ia (.binOp op s (.tmp a) (.tmp b) t') ty)).run DU w=.ok (.value x) w:=by intro _ _ _ _;go_simp)
  (h1:KV ops n k g=true:=by kernel_rfl) (h2:Gv l g=λv _=>v=.bool (gb g):=by exact rfl):St R S H ops Q n ds u0 w0 k l λv _=>v=x :=
 λ_=>⟨EU _,λu w hg hf hl hd _=>bP h (λev he=>hr w ev ((he.1 a pa.1).trans (pa.2 u w hg hf hl hd)) ((he.1 b pb.1).trans (pb.2 u w hg hf hl hd))) (bL hd h1 h2)⟩
def P4 [Rfl S]{p:Option b8}{j cap:Nat}{ats:Array ak}(pa:At R ops n u0 w0 k l a (.slice p j cap))(h:opAt ops k=U (d,.call { callee:=.builtin .len,args:=#[.tmp a],argTypes:=ats },g,ty):=by exact rfl)(hr:∀w (ev:r->Y),ev (.tmp a)=.slice p j cap->(bo ev (Ia (.call { callee:=.builtin .len,args:=#[.tmp a],argTypes:=ats }) ty)).run DU w=.ok (.value (F N (j:Nat))) w:=by intro _ _ _;go_simp)
  (h1:KV ops n k g=true:=by kernel_rfl) (h2:Gv l g=λv _=>v=.bool (gb g):=by exact rfl):St R S H ops Q n ds u0 w0 k l λv _=>v=F N (j:Nat) :=
 λ_=>⟨EU _,λu w hg hf hl hd _=>bP h (λev he=>hr w ev ((he.1 a pa.1).trans (pa.2 u w hg hf hl hd))) (bL hd h1 h2)⟩
def Ap (V:Y->Z->Prop)(hm:F3 R V)(s:∀u w,R w0 w->Fr ops u u0->Late ops k u u0->NQ ops (Vr l) k u w->H w->Done S DU ops Q n ds k V u w):St R S H ops Q n ds u0 w0 k l V:=λ_=>⟨hm,s⟩
def J7 (V:Y->Z->Prop)(hm:F3 R V)(s:∀u w,R w0 w->Fr ops u u0->Late ops k u u0->NQ ops (Vr l) k u w->Done S DU ops Q n ds k V u w):St R S H ops Q n ds u0 w0 k l V:=Ap V hm λu w a b c d _=>s u w a b c d
def Q3 (x:Y)(s:∀u w,R w0 w->Fr ops u u0->Late ops k u u0->NQ ops (Vr l) k u w->Done S DU ops Q n ds k (λv _=>v=x) u w):St R S H ops Q n ds u0 w0 k l λv _=>v=x:=J7 _ (EU x) s
def KF [Rfl S]{i:Nat}(h:opAt ops k=U (d,.extract (.tmp a) i,g,ty))(j:Nat)(V:Y->Z->Prop)(hm:F3 R V)(hV:∀v w,Vr l j v w->∃X x,v=.tuple X/\X[i]?=U x/\V x w)(h3:(opAt ops j).bind (·.1)=U a:=by exact rfl)(h4:(JA .any ops k).contains j=true:=by kernel_rfl)(ht:a<n:=by decide)(h1:KV ops n k g=true:=by kernel_rfl)(h2:Gv l g=λv _=>v=.bool (gb g):=by exact rfl):St R S H ops Q n ds u0 w0 k l V :=
 λ_=>⟨hm,λu w hg hf hl hd _=>by
  obtain⟨X,x,e,hx,hv⟩:=hV _ _ (hd.at_ j a h4 h3)
  exact mU h e hx hv (bL hd h1 h2) ht⟩
def NI (ops:Array bn)(n k:Nat):List Nat->List r->Bool
 |[],[]=>bh
 |j::js,.tmp a::os=>(JA .any ops k).contains j&&((opAt ops j).bind (·.1)==U a)&&decide (a<n)&&NI ops n k js os
 |_,_=>bl
def pn {u:Nat->Y}{w:Z}{ev:r->Y}(hd:NQ ops (Vr l) k u w)(he:OA n u ev):∀(js:List Nat) (os:List r) (xs:List Y),NI ops n k js os=bh->js.map (Vr l)=xs.map (λx v _=>v=x)->os.map ev=xs
 |[],[],xs,_,h2=>by
  cases xs with
  |nil=>rfl
  |cons x xs=>cases h2
 |j::js,.tmp a::os,xs,h1,h2=>by
  cases xs with
  |nil=>cases h2
  |cons x xs =>
   simp only[NI,AN,beq_iff_eq,decide_eq_true_eq] at h1;obtain⟨⟨⟨q1,q2⟩,q3⟩,q4⟩:=h1;rw[Cd,Cd] at h2;injection h2 with e1 e2
   have:=hd.at_ j a q1 q2;rw[e1] at this;rw[Cd,he.1 a q3,this,pn hd he js os xs q4 e2]
 |[],_::_,_,h1,_=>by cases h1
 |_::_,[],_,h1,_=>by cases h1
 |_::_,.const _::_,_,h1,_=>by cases h1
 |_::_,.func _::_,_,h1,_=>by cases h1
def Pg {f:b7}{fn:Func}{args:Array r}{ats:Array ak}{xs:List Y}(hf:DU.funcs[f]?=U fn)(js:List Nat)(V:Y->Z->Prop)(hm:F3 R V)(hc:∀w,R w0 w->H w->bc DU f xs.toArray w λe w'=>∃v,e=.returned v/\S w w'/\V v w')
  (h:opAt ops k=U (d,.call { callee:=.value (.func f),args:=args,argTypes:=ats },g,ty):=by exact rfl) (ha:NI ops n k js args.toList=true:=by kernel_rfl) (hx:js.map (Vr l)=xs.map (λx v _=>v=x):=by exact rfl)
  (h1:KV ops n k g=true:=by kernel_rfl) (h2:Gv l g=λv _=>v=.bool (gb g):=by exact rfl) (hn:(fn.name == "runtime.NumGoroutine")=false:=by kernel_rfl) (hb:fn.body.isNone=false:=by kernel_rfl):St R S H ops Q n ds u0 w0 k l V :=
 λ_=>⟨hm,λu w hg _ _ hd hC=>sI h hf xs.toArray (λev he=>by
  rw[<-Array.toList_inj,Array.toList_map]
  exact pn hd he js _ xs ha hx) (hc w hg hC) (bL hd h1 h2) hn hb⟩
def Jw {f:b7}{fn:Func}{args:Array r}{ats:Array ak}{xs:List Y}(hf:DU.funcs[f]?=U fn)(js:List Nat)(V:Y->Z->Prop)(hm:F3 R V)(hc:∀w,R w0 w->bc DU f xs.toArray w λe w'=>∃v,e=.returned v/\S w w'/\V v w')
  (h:opAt ops k=U (d,.call { callee:=.value (.func f),args:=args,argTypes:=ats },g,ty):=by exact rfl) (ha:NI ops n k js args.toList=true:=by kernel_rfl) (hx:js.map (Vr l)=xs.map (λx v _=>v=x):=by exact rfl)
  (h1:KV ops n k g=true:=by kernel_rfl) (h2:Gv l g=λv _=>v=.bool (gb g):=by exact rfl) (hn:(fn.name == "runtime.NumGoroutine")=false:=by kernel_rfl) (hb:fn.body.isNone=false:=by kernel_rfl):St R S H ops Q n ds u0 w0 k l V :=
 Pg hf js V hm (λw hg _=>hc w hg) h ha hx h1 h2 hn hb
def Lg {f:b7}{fn:Func}{args:Array r}{ats:Array ak}{xs:List Y}(hf:DU.funcs[f]?=U fn)(js:List Nat)(hc:∀w,R w0 w->bc DU f xs.toArray w λe w'=>e=.returned x/\S w w')
  (h:opAt ops k=U (d,.call { callee:=.value (.func f),args:=args,argTypes:=ats },g,ty):=by exact rfl) (ha:NI ops n k js args.toList=true:=by kernel_rfl) (hx:js.map (Vr l)=xs.map (λx v _=>v=x):=by exact rfl)
  (h1:KV ops n k g=true:=by kernel_rfl) (h2:Gv l g=λv _=>v=.bool (gb g):=by exact rfl) (hn:(fn.name == "runtime.NumGoroutine")=false:=by kernel_rfl) (hb:fn.body.isNone=false:=by kernel_rfl):St R S H ops Q n ds u0 w0 k l λv _=>v=x :=
 Jw hf js _ (EU x) (λw hg=>(hc w hg).mono λ_ _ h=>⟨_,h.1,h.2,rfl⟩) h ha hx h1 h2 hn hb
def eQ {a b:Nat}(h:(O a (b+1-a)).all (FL ops ·)=bh)(t:Nat)(h1:a<=t)(h2:t<=b):FL ops t=true:=Bz.1 h t (List.mem_range'_1.2 ⟨h1,by omega⟩)
end Go.Sq
