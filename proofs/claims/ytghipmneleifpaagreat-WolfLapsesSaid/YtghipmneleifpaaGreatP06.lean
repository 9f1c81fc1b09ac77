/- Parts of the proof. -/
import Derived.Test.YtghipmneleifpaaGreatP05
import Derived.Test.YtghipmneleifpaaGreatP00
import Derived.Test.YtghipmneleifpaaGreatP04
import Derived.Orders
import Derived.Deep.Quiet
import Derived.Conc.Walk
import Derived.Conc.Own4
import Derived.Conc.WgGenN3
import Derived.Conc.CrowdStepW
import Derived.Conc.Beside
set_option linter.all false
open Go renaming Goroutine->a6,World->a7,Frame->bq,FuncId->bw,Program->bD,step_lone_go->bW,Next->b6,Item->cq,HappensBefore->cF,Oper->cU,Event->df,TypeId->dn,deafBehind->dS,step_seq->ek,Trace->eo
open Go.MemOp renaming ofEvents->a8
open Go.MemAct renaming ofEvent->bb,touch?->bo,low->br
open Bool renaming false->bc,true->bh
open Option renaming some->bk,none->cf
open Go.Conc renaming getElem?_append_cases->bl,mem_ofEvents->bn,lt_size_of_getElem?->bA,touch_of->cK,g?_old->dy
open Go.ConcN renaming upd_same->bs,upd_ne->b9,WgLive->dr
open List renaming range->b5,range'->cu
open Go.stepG renaming apply->b7
open Go.Region renaming Mode->b8,wanted->ea,binds->eb,ready->ed
open Go.Frame renaming enter->cr,finish_at->c0,todo->er
open Ne renaming symm->cE
namespace Go.Ct
def aG (P:bD)(tgt:List cq)(C:Code)(N:Act->a7->Prop)(a:Act)(w:a7):Prop :=
 ∀(b:bq) (k:List cq) (cs:List bq),∃a' w',N a' w'/\Steps P (lone (b.at a (.code C::k)) cs w) (lone (b.at a' (tgt++k)) cs w')
def dt (P:bD)(tg:Act->List cq)(C:Code)(N:Act->a7->Prop)(a:Act)(w:a7):Prop :=
 ∀(b:bq) (k:List cq) (cs:List bq),∃a' w',N a' w'/\Steps P (lone (b.at a (.code C::k)) cs w) (lone (b.at a' (tg a'++k)) cs w')
section
variable {P:bD} {tgt:List cq} {C c r:Code} {N:Act->a7->Prop} {a:Act} {w:a7}
def nS (h:c.wp P (Exit.then (aG P tgt r N) λ_ _ _=>False) a w):aG P tgt (.seq c r) N a w:=λb k cs=>by
 obtain⟨e,a1,w1,hq,MC⟩:=h b (.code r::k) cs;cases e with
 |normal =>
  obtain⟨a2,w2,hn,hs⟩:=hq b k cs;exact⟨a2,w2,hn,.head ek (Steps.trans MC hs)⟩
 |_=>exact hq.elim
def aw (h:∀K:Act->a7->Prop,(∀a w,aG P tgt r N a w->K a w)->c.wp P (Exit.then K λ_ _ _=>False) a w):aG P tgt (.seq c r) N a w :=
 nS (h _ λ_ _ h=>h)
def lR {tg:Act->List cq}(h:∀K:Act->a7->Prop,(∀a w,dt P tg r N a w->K a w)->c.wp P (Exit.then K λ_ _ _=>False) a w):dt P tg (.seq c r) N a w:=λb k cs=>by
 obtain⟨e,a1,w1,hq,MC⟩:=h _ (λ_ _ h=>h) b (.code r::k) cs;cases e with
 |normal =>
  obtain⟨a2,w2,hn,hs⟩:=hq b k cs;exact⟨a2,w2,hn,.head ek (Steps.trans MC hs)⟩
 |_=>exact hq.elim
def nT {tg:Act->List cq}{N':Act->a7->Prop}(h:aG P tgt C N a w)(hN:∀a w,N a w->tg a=tgt/\N' a w):dt P tg C N' a w:=λb k cs=>by
 obtain⟨a',w',hn,hs⟩:=h b k cs;obtain⟨h1,h2⟩:=hN a' w' hn;exact⟨a',w',h2,by rw[h1];exact hs⟩
def dW (h:aG P tgt c N a w):aG P (tgt++[.code r]) (.seq c r) N a w:=λb k cs=>by
 obtain⟨a',w',hn,hs⟩:=h b (.code r::k) cs;exact⟨a',w',hn,.head ek (by simpa using hs)⟩
def cO {t:Operand}{x y:Code}{v:Bool}(hv:a.eval t=.bool v)(h:aG P tgt (if v then x else y) N a w):aG P tgt (.cond t x y) N a w:=λb k cs=>by
 obtain⟨a',w',hn,hs⟩:=h b k cs;exact⟨a',w',hn,.head (step_cond hv) hs⟩
def Ud {ops:Array cU}{N K:Act->a7->Prop}{i:Nat}{a:Act}{w:a7}(h:wpOp P ops (Exit.then N λ_ _ _=>False) i K a w)(b:bq)(l2:List Nat)(k:List cq)(cs:List bq) :
  ∃a' w',K a' w'/\Steps P (lone (b.at a (.inRegion ops (i::l2)::k)) cs w) (lone (b.at a' (.inRegion ops l2::k)) cs w'):=by
 simp only[wpOp] at h;cases ho:ops[i]? with
 |none =>
  simp only[ho] at h;have hst:=step_op_skip (P:=P) (b:=b) (a:=a) (k:=k) (cs:=cs) (w:=w) (ops:=ops) (i:=i) (rest:=l2) (by simp[ho]);simp only[ho,Option.bind_none,Act.put] at hst;exact⟨a,w,h,.head hst (.refl _ _)⟩
 |some o =>
  simp only[ho] at h;have Ie:∀v,(b.at a (.inRegion ops (i::l2)::k)).finish v=b.at (a.put o.dst v) (.inRegion ops l2::k):=λv=>by
   rw[c0,ho];rfl
  by_cases hw:ea o (yielded ops a.tmps)=bh
  .simp only[hw,if_true] at h;rcases h with h|⟨_,a0,w0,hq⟩
   case inr=>exact hq.elim
   have hg:=stepG_op (P:=P) (b:=b) (k:=k) (cs:=cs) (w:=w) (rest:=l2) ho hw;simp only[Oper.wp,Oper.upon] at h;split at h
   .rename_i v w' hr;exact⟨_,_,h,.head (bW (by rw[hg,<-Ie];simp[b7,hr])) (.refl _ _)⟩
   .rename_i w' hr;exact⟨_,_,h,.head (bW (by rw[hg,<-Ie];simp[b7,hr])) (.refl _ _)⟩
   .rename_i d w' hr;have hd:({ b.at a (.inRegion ops (i::l2)::k) with defers:=d::a.defers }:bq).finish undef=b.at ({ a with defers:=d::a.defers }.put o.dst undef) (.inRegion ops l2::k):=by
     have:=c0 b { a with defers:=d::a.defers } ops i l2 k undef;rw[ho] at this;exact this
    refine⟨_,_,h,.head (bW ?_) (.refl _ _)⟩;rw[hg];simp only[b7,Sem.runT_eq,hr,GStep.bare_after];exact congrArg (λfr=>GStep.go { frame:=fr,callers:=cs,status:=.running,dying:=cf } w') hd
   .rename_i f args w' hr;obtain⟨e,w2,fr,hR,hst,_,hlv⟩:=h (b.at a (.inRegion ops (i::l2)::k)::cs);have hen:step P (lone (b.at a (.inRegion ops (i::l2)::k)) cs w)=.next (lone (cr P f args .normal) (b.at a (.inRegion ops (i::l2)::k)::cs) w') :=
     bW (by rw[hg];simp[b7,hr,Frame.at])
    cases e with
    |returned v =>
     refine⟨_,_,hR,.head hen (hst.trans (.head ?_ (.refl _ _)))⟩;rw[<-Ie];exact step_leave_returned hlv
    |panicked chain=>exact hR.elim
    |outgrown =>
     obtain⟨a0,w0,hq⟩:=hR;exact hq.elim
   .rename_i row args w' hr;obtain⟨v,w2,hR,hst⟩:=h (b.at a (.inRegion ops (i::l2)::k)) cs;have hen:step P (lone (b.at a (.inRegion ops (i::l2)::k)) cs w)=.next (lone (Frame.ofRow P row args .normal) (b.at a (.inRegion ops (i::l2)::k)::cs) w') :=
     bW (by rw[hg];simp[b7,hr,Frame.at])
    refine⟨_,_,hR,.head hen (Steps.trans ?_ (.refl _ _))⟩;rw[<-Ie];exact hst
   .exact h.elim
   .exact h.elim
  .simp only[hw,if_false,zg] at h;have hst:=step_op_skip (P:=P) (b:=b) (a:=a) (k:=k) (cs:=cs) (w:=w) (ops:=ops) (i:=i) (rest:=l2) (by simp[ho];simpa using hw);simp only[ho,zK] at hst;exact⟨_,_,h,.head hst (.refl _ _)⟩
def Qs {ops:Array cU}{K:Act->a7->Prop}(l2:List Nat)(l:List Nat):∀(a:Act) (w:a7),wpOps P ops (Exit.then K λ_ _ _=>False) l a w->∀(b:bq) (k:List cq) (cs:List bq),
  ∃a' w',K a' w'/\Steps P (lone (b.at a (.inRegion ops (l++l2)::k)) cs w) (lone (b.at a' (.inRegion ops l2::k)) cs w'):=by
 induction l with
 |nil=>exact λa w h b k cs=>⟨a,w,h,.refl _ _⟩
 |cons i rest ih =>
  intro a w h b k cs;rw[wpOps_cons] at h;obtain⟨a1,w1,h1,h2⟩:=Ud h b (rest++l2) k cs;obtain⟨a2,w2,h3,h4⟩:=ih a1 w1 h1 b k cs;exact⟨a2,w2,h3,h2.trans h4⟩
def p6 {ops:Array cU}{Q:Exit->Act->a7->Prop}(l:List cU):∀k,(∀j,j<l.length->l[j]?=ops[k+j]?)->wpOps P ops Q (cu k l.length)=wpList P ops Q l:=by
 induction l with
 |nil=>intro k _;funext a w;simp[wpOps,wpList]
 |cons o l ih =>
  intro k h;have h0:ops[k]?=bk o:=by simpa using(h 0 (by simp)).symm
  have ih':=ih (k+1) λj hj=>by have:=h (j+1) (by simpa using hj);simpa [AJ,Nat.add_comm 1 j] using this
  funext a w;simp only[yV,List.range'_succ,wpOps,h0,wpList,ih']
def fV {id:Nat}{ops:Array cU}{l:List cU}{l2:List Nat}(hl:∀j,j<l.length->l[j]?=ops[j]?)(h2:b5 ops.size=cu 0 l.length++l2)(h:wpList P ops (Exit.then N λ_ _ _=>False) l a w):aG P [.inRegion ops l2] (.region id ops bc) N a w:=λb k cs=>by
 rw[<-p6 l 0 (λj hj=>by rw[yZ];exact hl j hj)] at h;obtain⟨a',w',hq,hs⟩:=Qs l2 _ a w h b k cs;exact⟨a',w',hq,.head step_region (by rw[h2];exact hs)⟩
end
section
variable {P:bD} {SB:bw->Bool} {H:Hid} {G:Nat}
def G3 (b:bq)(tg:Act->List cq)(cs:List bq)(N:Act->a7->Prop)(g:a6)(w:a7):Prop :=
 ∃a' w0,Cs w0 w/\N a' w0/\g=C6 (b.at a' (tg a')) cs
def G3.same {b:bq}{tgt:Act->List cq}{cs:List bq}{N:Act->a7->Prop}(g:a6)(w W:a7)(h:Cs w W)(q:G3 b tgt cs N g w):G3 b tgt cs N g W:=by
 obtain⟨a',w0,h1,h2⟩:=q;exact⟨a',w0,h1.trans h,h2⟩
def J8 (L:Lib (CL.of P) SB H bc SB G){b:bq}{a:Act}{tgt:Act->List cq}{C:Code}{k:List cq}{cs:List bq}{w:a7}{N:Act->a7->Prop}(hne:cs≠[])(hs:Self P SB H G (C6 (b.at a (.code C::k)) cs) w)
  (h:∀τ d,dt P tgt C N a (on w τ d)):Ch P (Self P SB H G) (G3 b (λa=>tgt a++k) cs N) (C6 (b.at a (.code C::k)) cs) w:=by
 refine eX L G3.same ⟨hs,λτ d=>?_⟩;obtain⟨a',w',hn,n,hr⟩:=h τ d b k cs;exact de L (hs.same Bm) hr hne ⟨a',w',⟨rfl,rfl,rfl⟩,hn,rfl⟩
end
section
variable {P:CL} {CI BC BB:bw->Bool} {H:Hid} {G:Nat} {Q:a6->a7->Prop}
def G7.Zc (B:G7 P CI BC BB H G){b:bq}{a:Act}{tgt:Act->List cq}{c:Code}{k:List cq}{C:bq}{cs:List bq}{K0:Nat->Prop}{w:a7}
  (J0:Cq P.a CI H bc (CX K0) (b.at a (.code c::k)) (b.at a (.code c::k)))
  (DN:∀b,K0 b->G<=b) (hroom:G<=w.heap.size) (Jk:∀b,K0 b->H b=bh->H.C8=bh/\w.heap[b]?=bk (.coro cf)) (hold:∀b,H b=bh->b<w.heap.size) (Er:∀b,K0 b->H b=bc->∃o,w.heap[b]?=bk o/\C5 (SP CI H) (CK P.a CI bc) (CX K0) o o)
  (hk:∀a c t,tgt a++k≠.code c::t) (hbl:BC b.fn=bh\/∃fn s,P.a.funcs[b.fn]?=bk fn/\fn.body=bk (.refuse s)) (hQ:∀g w W,Cs w W->Q g w->Q g W) {N:Act->a7->Prop}
  (hc:∀τ d,dt P.a tgt c N a (on w τ d))
  (h1:∀a' w',N a' w'->C1 P.b BB Q 0 (C6 (b.at a' (tgt a'++k)) (C::cs)) w') :
  C1 P.b BB Q 0 (C6 (b.at a (.code c::k)) (C::cs)) w:=by
 have h0:=B.run (Qa:=G3 b (λa=>tgt a++k) [bad] N) G3.same (λg w f' hl hf' hlk e=>by
  obtain⟨a',w0,_,_,rfl⟩:=hl;have e3:b.fn=f':=e;rcases hbl with h|⟨fn,s,r1,r2⟩
  .rw[e3,hf'] at h;cases h
  .obtain⟨x,y,fn2,r,o1,o2,s2,fn3,hp,_⟩:=hlk;have:=hp.func;rw[<-e3,r1] at this;cases this;have:=hp.text;rw[r2] at this
   cases this) (C:=C) (cs:=cs) (.on J0) (.on J0) DN hroom Jk hold Er λhs=>J8 (N:=N) (tgt:=tgt) B.la (by simp) hs hc
 refine h0.bind λg2 w' hq=>?_;obtain⟨g',w0,B8,q1,q2,q3,q4,q5⟩:=hq;have FD:Cq P.a CI H bc B8 g'.frame g2.frame:=by
  have DL:=q4.top;obtain⟨a',wl,l1,l2,l3⟩:=q1;generalize hf:g'.frame=fr at DL ⊢;generalize g2.frame=FR at DL ⊢;cases DL with
  |on h=>exact h
  |@stop f A A' kd s1 s2 s3 s4 =>
   exfalso;rcases B.ref f s1 s2 with⟨fn,s,r1,r2⟩|⟨x,y,fn,r,o1,o2,s,fn3,hp,_⟩
   .subst l3;have:=congrArg er hf;simp only[Go.Ct.C6,cr,r1,Frame.at] at this;exact hk _ _ _ this
   .subst l3;have:=congrArg er hf;simp only[Go.Ct.C6,cr,hp.func,Frame.at] at this;exact hk _ _ _ this
 have eF:g'.frame=g2.frame:=Cq.id (P:=CL.of P.a) q3 FD;have e2:g2=C6 g2.frame g2.callers:=by
  obtain⟨x1,x2,x3,x4,x5⟩:=g2;obtain⟨_,_,⟨_,s1⟩,⟨_,d1⟩,⟨_,o1⟩⟩:=q4;dsimp only at *;subst s1 d1 o1
  rfl
 obtain⟨a',wl,l1,l2,l3⟩:=q1;have Wu:g2.callers=C::cs:=by
  have:=q4.callers;rw[show g'.callers=[bad] by rw[l3];rfl] at this;generalize g2.callers=X at this;cases this with
  |base=>rfl
  |cons _ h=>exact absurd rfl h.ne
 rw[e2,Wu,<-eF,l3];exact(h1 a' wl l2).same hQ (l1.trans q2)
end
def K7 (md:b8)(ops:Array cU)(i:Nat):List Nat:=match ops[i]? with
 |some o=>(o.after.toList.filter (eb md)).map (·.on)
 |none=>[]
def GJ {md:b8}{ops:Array cU}{listed:Array Bool}{i:Nat}:i∈ed md ops listed↔i<ops.size/\listed.getD i bh=bc/\∀j∈K7 md ops i,listed.getD j bc=true:=by
 unfold ed K7;rw[AE,zB];refine and_congr_right λhi=>?_;rw[yS hi];simp only[zT,zc,yY,zY,zu,AE,Array.mem_toList_iff];refine and_congr_right λ_=>?_;rw[zh];constructor
 .rintro h j ⟨e,⟨he,hb⟩,rfl⟩;have:=h e he;simpa [hb] using this
 .intro h e he;cases hb:eb md e with
  |false=>rfl
  |true=>simpa using h e.on ⟨e,⟨he,hb⟩,rfl⟩
def mQ (md:b8)(ops:Array cU)(m:Nat):Bool :=
 (b5 m).all (λi=>(cu (i+1) (m-i)).any λj=>(K7 md ops j).contains i)&&(cu (m+1) (ops.size-m-1)).all (λi=>(K7 md ops i).contains (i-1))&&(b5 ops.size).all (λi=>(K7 md ops i).all λj=>decide (j<i)) &&
  (ops.toList.take m).all (λo=>match o.guard with|some (j,_)=>decide (j<m)|none=>bh)&&decide (m<ops.size)
section
variable {md:b8} {ops:Array cU} {m:Nat}
structure VU (md:b8)(ops:Array cU)(m:Nat):Prop where
 up:∀i,i<m->∃j,i<j/\j<=m/\i∈K7 md ops j
 next:∀i,m<i->i<ops.size->i-1∈K7 md ops i
 lt:∀i,i<ops.size->∀j∈K7 md ops i,j<i
 guard:∀i o j b,i<m->ops[i]?=bk o->o.guard=bk (j,b)->j<m
 size:m<ops.size
def vV (h:mQ md ops m=bh):VU md ops m:=by
 simp only[mQ,yY,zE,List.any_eq_true,zB,List.mem_range'_1,List.contains_iff_mem,decide_eq_true_eq] at h;obtain⟨⟨⟨⟨h1,h2⟩,h3⟩,h4⟩,h5⟩:=h;refine⟨λi hi=>?_,λi hi hn=>h2 i ⟨by omega,by omega⟩,h3,λi o j b hi ho hg=>?_,h5⟩
 .obtain⟨j,hj,hm⟩:=h1 i hi;exact⟨j,by omega,by omega,hm⟩
 .have:=h4 o (List.mem_iff_getElem?.2 ⟨i,by rw[AD,if_pos hi];simpa using ho⟩);rw[hg] at this;simpa using this
def filter_one {p:Nat->Bool}{n k:Nat}(hk:k<n)(h:∀i,i<n->(p i=bh↔i=k)):(b5 n).filter p=[k]:=by
 have e:(b5 n).filter p=(b5 n).filter λi=>i==k:=List.filter_congr λi hi=>by
  have:=h i (zB.1 hi);cases hp:p i with
  |true=>simpa using(this.1 hp)
  |false =>
   have:i≠k:=λe=>by rw[this.2 e] at hp;cases hp
   simpa using this
 rw[e,List.filter_beq,List.count_range];simp[hk]
def eJ {l:Array Bool}{i:Nat}(h:i<l.size):l.getD i bh=l.getD i false:=by
 simp[Array.getD,h]
end
end Go.Ct
namespace Go.Co
open Go.Ct Go.Conc
def bM (p:bD):List cq->Bool
 |.inRegion ops (i::_)::_=>match ops[i]? with
  |some o=>aL p o.op
  |none=>bh
 |_=>bh
section
variable {p:bD} {BB:bw->Bool} {Q:a6->a7->Prop} {b:bq} {a:Act} {todo:List cq} {cs:List bq} {w:a7}
def jo (h:bM p todo=bh):∀o,(b.at a todo).oper?=bk o->aL p o.op=true:=by
 intro o ho;unfold Frame.oper? Frame.at at ho;dsimp only at ho
 match todo,h,ho with
 |.inRegion ops (i::rest)::k,h,ho =>
  simp only[bM] at h;have Oh:ops[i]?=bk o:=ho;rw[Oh] at h;exact h
 |[],_,ho=>cases ho
 |.inRegion ops []::k,_,ho=>cases ho
 |.code c::k,_,ho=>cases ho
 |.inBlock i::k,_,ho=>cases ho
 |.inLoop c::k,_,ho=>cases ho
 |.inScope c::k,_,ho=>cases ho
 |.inRangeFunc l::k,_,ho=>cases ho
 |.endRangeFunc l::k,_,ho=>cases ho
 |.beginRound::k,_,ho=>cases ho
 |.call _ _ _ _::k,_,ho=>cases ho
def Ch.own (hQ:∀g w W,Cs w W->Q g w->Q g W)(hf:BB b.fn=bh)(hg:bM p todo=bh)(h:∀τ d,(stepG p bh (G (b.at a todo) cs) (on w τ d)).goes (λg' w' _=>g'.callers≠[]/\∃W,Cs W w'/\Ch p (Dk p BB) Q g' W)) :
  Ch p (Dk p BB) Q (G (b.at a todo) cs) w:=by
 refine Ch.step ⟨hf,jo hg⟩ λτ d=>?_;have:=h τ d;cases hs:stepG p bh (G (b.at a todo) cs) (on w τ d) with
 |go g' w' es =>
  rw[hs] at this;obtain⟨h1,W,h2,h3⟩:=this;exact⟨g',w',es,rfl,h1,h3.same (λ_ _ _ _ x=>x) hQ h2⟩
 |_=>rw[hs] at this;exact this.elim
end
section
variable {P:bD} {main:Bool} {b:bq} {a:Act} {k:List cq} {cs:List bq} {w:a7}
def aF {ops:Array cU}{i:Nat}{rest:List Nat}{o:cU}{K:a6->a7->Array df->Prop}{f:bw}{fn:Func}{args:Array Operand}{ats:Array dn}
  (ho:ops[i]?=bk o) (hw:ea o (yielded ops a.tmps)=bh) (hk:b.kind≠.early) (hop:o.op=.call { callee:=.value (.func f),args,argTypes:=ats })
  (hf:P.funcs[f]?=bk fn) (hname:(fn.name == "runtime.NumGoroutine")=bc) (hb:fn.body.isNone=bc)
  (h:K (G (cr P f (args.map a.eval) .normal) (b.at a (.inRegion ops (i::rest)::k)::cs)) w #[]) :
  (stepG P main (G (b.at a (.inRegion ops (i::rest)::k)) cs) w).goes K:=by
 rw[stepG_enter ho hw hk (run_call_body hop hf hname hb)];have:listed P b.fn a o w=#[]:=by unfold listed;rw[events_call_body hop hf hname hb];exact seen_none P _
 rw[this];exact h
end
open Go.ConcN Go.RowKit Go.Conc.Lib Go.ConcR.Gen Go.ConcN.Gen
open Go.ConcR (KK wgBlock WgAt stA smA rd wr mk Payload Aside2 DC0)
def RL (ty:dn)(Wg:Nat)(w w₁:a7):Prop:=dr ty Wg w->dr ty Wg w₁
def RL.refl {ty:dn}{Wg:Nat}(w:a7):RL ty Wg w w:=id
def RL.trans {ty:dn}{Wg:Nat}(a b c:a7)(h:RL ty Wg a b)(k:RL ty Wg b c):RL ty Wg a c:=k ∘ h
def rl {ty:dn}{Wg:Nat}{w w₁:a7}(h:dr ty Wg w)(r:RL ty Wg w w₁):dr ty Wg w₁:=r h
section
variable (P:bD) (ty:dn) (Wg:Nat)
abbrev GW (main:Bool)(Stop:a6->a7->Prop)(m:Nat)(g:a6)(w:a7):Prop:=Goes P main (RL ty Wg) DC0 Stop m g w
def D3 (g:a6)(w:a7):Prop :=
 g.status=.running/\(WgAt ty Wg w 1 0->∃g',stepG P bc g w=.go g' (w.setCell (stA Wg) (.int .u64 0)) #[wr (stA Wg)]/\∃m,GW P ty Wg bc (AtD4 P ty Wg) m g' (w.setCell (stA Wg) (.int .u64 0)))
def D2 (g:a6)(w:a7):Prop :=
 g.status=.running/\(WgAt ty Wg w 1 0->∃g',stepG P bc g w=.go g' w #[rd (stA Wg)]/\∃m,GW P ty Wg bc (D3 P ty Wg) m g' w)
def D1 (g:a6)(w:a7):Prop :=
 g.status=.running/\∀v wt:Nat,wt<=1->v<2147483647->WgAt ty Wg w ((v+1)*KK+wt) 0 ->
  ∃g',stepG P bc g w=.go g' (w.setCell (stA Wg) (.int .u64 (v*KK+wt))) #[rd (stA Wg),wr (stA Wg)] /\
   ((v=0/\wt=1)->∃m,GW P ty Wg bc (D2 P ty Wg) m g' (w.setCell (stA Wg) (.int .u64 (v*KK+wt))))/\(¬(v=0/\wt=1)->∃q,QuitsD P q 1 g')
def K1 (g:a6)(w:a7):Prop :=
 g.status=.running/\∃g',stepG P bc g w=.go g' w #[mk .disable]/\∃m,GW P ty Wg bc (D1 P ty Wg) m g' w
def R0 (g:a6)(w:a7):Prop :=
 g.status=.running/\∃g',stepG P bc g w=.go g' w #[mk (.releaseMerge (stA Wg))]/\∃m,GW P ty Wg bc (K1 P ty Wg) m g' w
def AKe (b6:a6->a7->Prop)(g:a6)(w:a7):Prop:=g.status=.running/\∃g',stepG P bh g w=.go g' w #[mk .enable]/\∃m,GW P ty Wg bh b6 m g' w
def ARr (b6:a6->a7->Prop)(g:a6)(w:a7):Prop:=g.status=.running/\∃g',stepG P bh g w=.go g' w #[mk (.read (smA Wg))]/\∃m,GW P ty Wg bh (AKe P ty Wg b6) m g' w
def AA1 (b6:a6->a7->Prop)(g:a6)(w:a7):Prop :=
 g.status=.running/\∀v:Nat,v<2147483647->WgAt ty Wg w (v*KK) 0->∃g',stepG P bh g w=.go g' (w.setCell (stA Wg) (.int .u64 ((v+1)*KK))) #[rd (stA Wg),wr (stA Wg)] /\
  (v=0->∃m,GW P ty Wg bh (ARr P ty Wg b6) m g' (w.setCell (stA Wg) (.int .u64 ((v+1)*KK))))/\(v≠0->∃m,GW P ty Wg bh (AKe P ty Wg b6) m g' (w.setCell (stA Wg) (.int .u64 ((v+1)*KK))))
def AKd (b6:a6->a7->Prop)(g:a6)(w:a7):Prop:=g.status=.running/\∃g',stepG P bh g w=.go g' w #[mk .disable]/\∃m,GW P ty Wg bh (AA1 P ty Wg b6) m g' w
def abe (b6:a6->a7->Prop)(g:a6)(w:a7):Prop:=g.status=.running/\∃g',stepG P bh g w=.go g' w #[mk (.acquire (stA Wg))]/\∃m,GW P ty Wg bh b6 m g' w
def WKe (b6:a6->a7->Prop)(g:a6)(w:a7):Prop:=g.status=.running/\∃g',stepG P bh g w=.go g' w #[mk .enable]/\∃m,GW P ty Wg bh (abe P ty Wg b6) m g' w
def W4 (b6:a6->a7->Prop)(g:a6)(w:a7):Prop:=g.status=.running/\(WgAt ty Wg w 0 0->∃g',stepG P bh g w=.go g' w #[rd (stA Wg)]/\∃m,GW P ty Wg bh (WKe P ty Wg b6) m g' w)
def W3 (b6:a6->a7->Prop)(g:a6)(w:a7):Prop :=
 g.status=.running/\g.offers=cf/\((∃st,WgAt ty Wg w st 0)->stepG P bh g w=.go { g with status:=.blocked } w #[]) /\
  (WgAt ty Wg w 0 1->∃g',stepG P bh g w=.go g' (w.setCell (smA Wg) (.int .u32 0)) (semEvents (smA Wg))/\∃m,GW P ty Wg bh (W4 P ty Wg b6) m g' (w.setCell (smA Wg) (.int .u32 0)))
def WRw (b6:a6->a7->Prop)(g:a6)(w:a7):Prop:=g.status=.running/\∃g',stepG P bh g w=.go g' w #[mk (.write (smA Wg))]/\∃m,GW P ty Wg bh (W3 P ty Wg b6) m g' w
def W2 (Fy b6:a6->a7->Prop)(vs:Nat)(g:a6)(w:a7):Prop :=
 g.status=.running/\∀v:Nat,v<2147483648->WgAt ty Wg w (v*KK) 0 ->
  (v=vs->∃g',stepG P bh g w=.go g' (w.setCell (stA Wg) (.int .u64 (v*KK+1))) #[rd (stA Wg),wr (stA Wg)]/\∃m,GW P ty Wg bh (WRw P ty Wg b6) m g' (w.setCell (stA Wg) (.int .u64 (v*KK+1)))) /\
  (v≠vs->∃g',stepG P bh g w=.go g' w #[rd (stA Wg)]/\∃m,GW P ty Wg bh Fy m g' w)
def W1 (Fy b6:a6->a7->Prop)(g:a6)(w:a7):Prop :=
 g.status=.running/\∀v:Nat,v<2147483648->WgAt ty Wg w (v*KK) 0->∃g',stepG P bh g w=.go g' w #[rd (stA Wg)] /\
  (v=0->∃m,GW P ty Wg bh (WKe P ty Wg b6) m g' w)/\(v≠0->∃m,GW P ty Wg bh (W2 P ty Wg Fy b6 v) m g' w)
def WKd (Fy:a6->a7->Prop)(g:a6)(w:a7):Prop:=g.status=.running/\∃g',stepG P bh g w=.go g' w #[mk .disable]/\∃m,GW P ty Wg bh Fy m g' w
end
structure Tr (Sh:Loc->Prop)(Wr Rd:Nat->Loc->Prop)(N:Nat)(Pd:Nat->Nat->Prop)(a:Addr)(t:eo):Prop where
 ti:TI Sh Wr Rd N t
 norel:NoRelease a t
 cov:∀i x,touchAt t i=bk x->x.loc.isMemory=bh->Knows t 0 i\/(Sh x.loc/\x.kind=.atomic)\/∃k,t.g? i=bk k/\k≠0/\Pd k i
 ho:∀i k,t.g? i=bk k->k≠0->t.counts i->(∃q,t.g? q=bk 0/\cF t i q)\/Pd k i
section
variable {Sh:Loc->Prop} {Wr Rd Wr' Rd':Nat->Loc->Prop} {N k:Nat} {Pd Pd':Nat->Nat->Prop} {a:Addr} {t u:eo}
def yg {i:Nat}{op:MemOp}(h:t[i]?=bk op):t.g? i=bk op.g:=by simp[Trace.g?,h]
def Tr.app (h:Tr Sh Wr Rd N Pd a t)(QM:TI Sh Wr' Rd' N (t++u))(hg:∀op∈u,op.g=k)(hnr:∀op∈u,op.act≠.mark (.release a))
  (Rw:∀i,t.size<=i->(t++u).g? i=bk k->k≠0->Pd k i\/((∀x,touchAt (t++u) i=bk x->x.loc.isMemory=bh->Sh x.loc/\x.kind=.atomic)/\¬(t++u).counts i)):Tr Sh Wr' Rd' N Pd a (t++u):=by
 refine⟨QM,h.norel.app hnr,λi x hx hm=>?_,λi j hj hne hc=>?_⟩
 .obtain⟨op,hop,Pb⟩:=cK hx;rcases bl hop with⟨hi,IA⟩|⟨hi,F2⟩
  .rcases h.cov i x (by rw[touchAt_of IA];exact Pb) hm with h1|h1|⟨j,h1,h2⟩
   .exact .inl (h1.app u)
   .exact .inr (.inl h1)
   .exact .inr (.inr ⟨j,by rw[dy hi];exact h1,h2⟩)
  .have hgk:(t++u).g? i=bk k:=by rw[yg hop,hg op F2]
   by_cases h0:k=0
   .subst h0;have:=knows_own hop;rw[hg op F2] at this;exact .inl this
   .rcases Rw i hi hgk h0 with h1|⟨h1,_⟩
    .exact .inr (.inr ⟨k,hgk,h0,h1⟩)
    .exact .inr (.inl (h1 x hx hm))
 .obtain⟨op,hop,Fg⟩:=zm.1 hj;rcases bl hop with⟨hi,IA⟩|⟨hi,F2⟩
  .rcases h.ho i j (by rw[dy hi] at hj;exact hj) hne ((counts_old hi).1 hc) with⟨q,hq,hb⟩|h1
   .have hql : q < t.size := by
     obtain⟨z,hz,_⟩:=zm.1 hq;exact bA hz
    exact .inl ⟨q,by rw[dy hql];exact hq,hb_app u hb⟩
   .exact .inr h1
  .have e:k=j:=(hg op F2).symm.trans Fg;subst e;rcases Rw i hi hj hne with h1|⟨_,h1⟩
   .exact .inr h1
   .exact absurd hc h1
def Tr.X3 (h:Tr Sh Wr Rd N Pd a t)(hp:∀k i,i<t.size->Pd k i->Pd' k i):Tr Sh Wr Rd N Pd' a t:=by
 refine⟨h.ti,h.norel,λi x hx hm=>?_,λi j hj hne hc=>?_⟩
 .rcases h.cov i x hx hm with h1|h1|⟨k,h1,h2,h3⟩
  .exact .inl h1
  .exact .inr (.inl h1)
  .obtain⟨z,hz,_⟩:=zm.1 h1;exact .inr (.inr ⟨k,h1,h2,hp k i (bA hz) h3⟩)
 .rcases h.ho i j hj hne hc with h1|h1
  .exact .inl h1
  .obtain⟨z,hz,_⟩:=zm.1 hj;exact .inr (hp j i (bA hz) h1)
def Tr.Oj (h:Tr Sh Wr Rd N Pd a t)(hw:∀k l,Wr' k l->Wr k l)(hr:∀k l,Rd' k l->Rd k l):Tr Sh Wr' Rd' N Pd a t:=⟨h.ti.mono hw hr,h.norel,h.cov,h.ho⟩
def Tr.fork (h:Tr Sh Wr Rd N Pd a t){x y:MemOp}(hN:0<N)(hx:x.g=0/\x.act=.go N)(hy:y.g=N/\y.act=.start)(h0:Deaf t 0=0)
  (others:∀j,j<N->∀l,(Wr' j l->Wr j l)/\(Rd' j l->Rd j l)) (child:∀l,(Wr' N l->Wr 0 l)/\(Rd' N l->Rd 0 l)):Tr Sh Wr' Rd' (N+1) Pd a (t++#[x,y]):=by
 have Mi:∀op∈#[x,y],op.act.touch?=none:=by
  intro op hop;simp only[z8,yT,yQ,or_false] at hop;rcases hop with rfl|rfl
  .rw[hx.2];rfl
  .rw[hy.2];rfl
 refine⟨h.ti.fork hN hx hy h0 others child,h.norel.app λop hop e=>?_,λi z hz hm=>?_,λi j hj hne hc=>?_⟩
 .simp only[z8,yT,yQ,or_false] at hop;rcases hop with rfl|rfl
  .rw[hx.2] at e;cases e
  .rw[hy.2] at e;cases e
 .obtain⟨op,hop,Pb⟩:=cK hz;rcases bl hop with⟨hi,IA⟩|⟨_,F2⟩
  .rcases h.cov i z (by rw[touchAt_of IA];exact Pb) hm with h1|h1|⟨j,h1,h2⟩
   .exact .inl (h1.app _)
   .exact .inr (.inl h1)
   .exact .inr (.inr ⟨j,by rw[dy hi];exact h1,h2⟩)
  .rw[Mi op F2] at Pb;cases Pb
 .obtain⟨op,hop,Fg⟩:=zm.1 hj;rcases bl hop with⟨hi,IA⟩|⟨_,F2⟩
  .rcases h.ho i j (by rw[dy hi] at hj;exact hj) hne ((counts_old hi).1 hc) with⟨q,hq,hb⟩|h1
   .have hql : q < t.size := by
     obtain⟨z,hz,_⟩:=zm.1 hq;exact bA hz
    exact .inl ⟨q,by rw[dy hql];exact hq,hb_app _ hb⟩
   .exact .inr h1
  .obtain⟨z,hz,_⟩:=hc;rw[act?_of hop] at hz;rw[zK,Mi op F2] at hz;cases hz
def Tr.past (h:Tr Sh Wr Rd N Pd a t){B q:Nat}(hq:t.act? q=bk (.mark (.acquire a)))(hg:t.g? q=bk 0)(hh:t.heard q)(hd:Deaf t 0=0)(hl:∀op∈t,op.act.low B)
  (hp:∀k i,t.g? i=bk k->k≠0->Pd k i->∃r,RelBy a t k r/\r<q/\i<=r):Past Sh B t:=by
 have abl:∀k i,t.g? i=bk k->k≠0->Pd k i->cF t i q:=by
  intro k i hk hne hpd;obtain⟨r,hr,hrq,hir⟩:=hp k i hk hne hpd;have e1:cF t r q:=.single (.inr ⟨.marked hrq (.inr hr.act) hq (λk _ _=>h.norel k),hr.heard,hh⟩);rcases zC i r with hlt|GK
  .exact .trans (.single (.inl ⟨hlt,k,hk,hr.g⟩)) e1
  .obtain rfl:i=r:=by omega
   exact e1
 obtain⟨z,hz,hzg⟩:=zm.1 hg;refine⟨h.ti.nr,λi x hx hm=>?_,λi k hk hne hc=>?_,hd,hl⟩
 .rcases h.cov i x hx hm with h1|h1|⟨k,h1,h2,h3⟩
  .exact .inl h1
  .exact .inr h1
  .exact .inl ⟨q,z,hz,hzg,.inr (abl k i h1 h2 h3)⟩
 .rcases h.ho i k hk hne hc with h1|h1
  .exact h1
  .exact⟨q,hg,abl k i hk hne h1⟩
def BZ {Shun:Loc->Prop}{B:Nat}(h:Past Shun B t)(Kn:∀l,Sh l->Shun l\/∃b:Addr,l=.cell b/\B<=b.block)(agi:∀l,Shun l->Sh l)(hq:Quiet Sh t)(ha:B<=a.block)(hN:∀(i:Nat) (op:MemOp),t[i]?=bk op->op.g<N)(hN0:0<N)
  (hw:∀k l,Wr k l->k=0/\l.isMemory=bh/\¬Shun l) (hr:∀k l,Rd k l->k=0/\l.isMemory=bh/\¬Shun l):Tr Sh Wr Rd N Pd a t:=by
 have kn:∀l,l.isMemory=bh->¬Shun l->Perm t 0 l:=λl hm hs i x hx e=>(h.known i x hx (e▸hm)).elim id λKY=>absurd (e▸KY.1) hs;refine⟨⟨hq,λk _ l hl=>?_,λk _ l hl=>?_,h.clean,hN⟩,λi e=>?_,λi x hx hm=>(h.known i x hx hm).imp id λKY=>.inl ⟨agi _ KY.1,KY.2⟩,λi k hk hne hc=>.inl (h.over i k hk hne hc)⟩
 .obtain⟨rfl,h1,h2⟩:=hw k l hl;exact kn l h1 h2
 .obtain⟨rfl,h1,h2⟩:=hr k l hl;exact .of (kn l h1 h2)
 .obtain⟨op,hop,WA⟩:=zm.1 e;have:=h.seen op (zl hop);rw[WA] at this;exact absurd this (Nat.not_lt.2 ha)
end
structure Lone where
 g:a6
 w:a7
 H:Hid
 β:Cm
 T:List bq
structure Gm where
 at_:Nat->Prop
 w:a7
 bd:Nat
def inBlock (B:Nat):Loc->Prop
 |.cell a=>a.block=B
 |.obj r=>r=B
 |_=>False
def U0 (x:Lone)(l:Loc):Prop:=∃b B,x.β b B/\x.H b=bc/\¬Ro x.w b/\inBlock B l
def U1 (x:Lone)(l:Loc):Prop:=∃b B,x.β b B/\x.H b=bc/\inBlock B l
def Pf (Dead:Nat->Prop)(Wg:Nat)(l:Loc):Prop:=∃a:Addr,l=.cell a/\(Dead a.block\/a.block=Wg)
section
variable (P:CL) (SB BB:bw->Bool) (lets:Bool) (Gn:Nat)
abbrev Dv (x:Lone)(g:a6):Prop:=El P SB x.H lets BB x.T x.β x.g g
abbrev E2 (x:Lone)(W:a7):Prop:=CV (SP SB x.H) (CK P.a SB lets) Gn x.β x.w W
abbrev F9 (x:Lone)(W:a7)(B8:Cm)(w' W':a7)(ES:List df):Prop:=Fin (SP SB x.H) (CK P.a SB lets) Gn x.β B8 (on x.w W.tape W.drawn) W w' W' ES
structure Cw (Wg:Nat)(Dead Toy:Nat->Prop)(Kp:Gm)(L:Nat->Option Lone)(own:Option Nat)(W:a7):Prop where
 like:∀i x,L i=bk x->E2 P SB lets Gn x W
 C8:∀i x,L i=bk x->x.H.C8=bc
 Pg:∀i x,L i=bk x->∀b,x.β b Wg->x.H b=bh
 dead:∀i x,L i=bk x->∀b B,x.β b B->¬Dead B
 Ig:∀i x,L i=bk x->own≠bk i->∀b B,x.β b B->Toy B->x.H b=bh
 sep:∀i j x y,i≠j->L i=bk x->L j=bk y->Sep (SP SB x.H) x.β x.w (SP SB y.H) y.β y.w
 low:Wg<W.heap.size/\(∀B,Dead B->B<W.heap.size)/\∀B,Toy B->B<W.heap.size
 Ih:∀B,Toy B->B≠Wg/\¬Dead B
 keep:∀B,Kp.at_ B->B<W.heap.size/\B≠Wg/\W.heap[B]?=Kp.w.heap[B]?
 D7:∀i x,L i=bk x->∀b B,x.β b B->Kp.at_ B->x.H b=bh\/Ro x.w b
 MH:∀B,Toy B->¬Kp.at_ B
 Rx:W.os=Kp.w.os/\W.output=Kp.w.output
def put (L:Nat->Option Lone)(i:Nat)(x:Option Lone):Nat->Option Lone:=λj=>if j=i then x else L j
end
def Cu (L:Nat->Option Lone)(i:Nat)(x:Option Lone):put L i x i=x:=by simp[put]
def CJ (L:Nat->Option Lone){i j:Nat}(x:Option Lone)(h:j≠i):put L i x j=L j:=by simp[put,h]
section
variable {P:CL} {SB BB:bw->Bool} {lets:Bool} {Gn:Nat} {Wg:Nat} {Dead Toy:Nat->Prop} {Kp:Gm} {L:Nat->Option Lone} {own:Option Nat} {W W':a7} {i:Nat} {x:Lone} {B8:Cm} {w':a7} {ES:List df}
def Cw.same (c:Cw P SB lets Gn Wg Dead Toy Kp L own W)(hi:L i=bk x)(f:F9 P SB lets Gn x W B8 w' W' ES){B:Nat}(hB:B<W.heap.size)(h:∀b,x.β b B->x.H b=bh):W'.heap[B]?=W.heap[B]?:=by
 by_cases hx:∃b,x.β b B
 .obtain⟨b,hb⟩:=hx;exact f.hk b B hb (h b hb)
 .exact f.KEPT B hB λb hb=>hx ⟨b,hb⟩
def Cw.step (c:Cw P SB lets Gn Wg Dead Toy Kp L own W)(hi:L i=bk x)(f:F9 P SB lets Gn x W B8 w' W' ES)(g':a6) :
  Cw P SB lets Gn Wg Dead Toy Kp (put L i (bk ⟨g',w',x.H,B8,x.T⟩)) own W':=by
 have hx:=c.like i x hi;have KY:CV (SP SB x.H) (CK P.a SB lets) Gn x.β (on x.w W.tape W.drawn) W:=hx.same rfl rfl hx.env;have old:∀b B,B8 b B->B<W.heap.size->x.β b B:=λb B hb hB=>(f.new b B hb).elim id λh=>absurd h.2 (Nat.not_le.2 hB);refine⟨λj y hj=>?_,λj y hj=>?_,λj y hj=>?_,λj y hj=>?_,λj y hj=>?_,λj k y z hjk hj hk=>?_,⟨yO c.low.1 f.SIZE,λB hB=>yO (c.low.2.1 B hB) f.SIZE,λB hB=>yO (c.low.2.2 B hB) f.SIZE⟩,c.Ih,λB hB=>?_,λj y hj=>?_,c.MH,f.OS.trans c.Rx.1,f.OUT.trans c.Rx.2⟩
 .by_cases e:j=i
  .subst e;rw[Cu] at hj;cases hj;exact f.rel
  .rw[CJ L _ e] at hj;exact(c.like j y hj).others (c.C8 j y hj) KY f (c.sep i j x y (cE e) hi hj)
 .by_cases e:j=i
  .subst e;rw[Cu] at hj;cases hj;exact c.C8 j x hi
  .rw[CJ L _ e] at hj;exact c.C8 j y hj
 .by_cases e:j=i
  .subst e;rw[Cu] at hj;cases hj;exact λb hb=>c.Pg j x hi b (old b Wg hb c.low.1)
  .rw[CJ L _ e] at hj;exact c.Pg j y hj
 .by_cases e:j=i
  .subst e;rw[Cu] at hj;cases hj;exact λb B hb hd=>c.dead j x hi b B (old b B hb (c.low.2.1 B hd)) hd
  .rw[CJ L _ e] at hj;exact c.dead j y hj
 .by_cases e:j=i
  .subst e;rw[Cu] at hj;cases hj;exact λho b B hb ht=>c.Ig j x hi ho b B (old b B hb (c.low.2.2 B ht)) ht
  .rw[CJ L _ e] at hj;exact c.Ig j y hj
 .by_cases e:j=i
  .subst e;rw[Cu] at hj;cases hj;rw[CJ L _ (cE hjk)] at hk;exact Sep.kept (c.like k z hk) f (c.sep j k x z hjk hi hk)
  .rw[CJ L _ e] at hj;by_cases e':k=i
   .subst e';rw[Cu] at hk;cases hk;exact(Sep.kept (c.like j y hj) f (c.sep k j x y (cE hjk) hi hj)).symm
   .rw[CJ L _ e'] at hk;exact c.sep j k y z hjk hj hk
 .obtain⟨k1,k2,k3⟩:=c.keep B hB;refine⟨yO k1 f.SIZE,k2,?_⟩;rw[<-k3];by_cases hx:∃b,x.β b B
  .obtain⟨b,hb⟩:=hx;rcases c.D7 i x hi b B hb hB with h|⟨cs,ty,z,q1,q2⟩
   .exact f.hk b B hb h
   .exact(f.ro b B cs ty z hb q1 q2).2
  .exact f.KEPT B k1 λb hb=>hx ⟨b,hb⟩
 .by_cases e:j=i
  .subst e;rw[Cu] at hj;cases hj;intro b B hb hB;have h0:=old b B hb (c.keep B hB).1;exact(c.D7 j x hi b B h0 hB).imp id λh=>h.kept f h0
  .rw[CJ L _ e] at hj;exact c.D7 j y hj
def Cw.group (c:Cw P SB lets Gn Wg Dead Toy Kp L own W)(h:Aside Wg W W')(hw:∃c t f,W'.heap[Wg]?=bk (.cells c t f)):Cw P SB lets Gn Wg Dead Toy Kp L own W':=by
 refine⟨λj y hj=>?_,c.C8,c.Pg,c.dead,c.Ig,c.sep,by rw[h.size];exact c.low,c.Ih,λB hB=>⟨by rw[h.size];exact(c.keep B hB).1,(c.keep B hB).2.1,(h.block B (c.keep B hB).2.1).trans (c.keep B hB).2.2⟩,c.D7,c.MH,h.os.trans c.Rx.1,h.output.trans c.Rx.2⟩;have k:=c.like j y hj;refine⟨k.DG,by rw[h.size];exact k.room,λb B hb hh=>?_,λb B hb hh=>?_,k.old,by rw[h.os];exact k.env⟩
 .have hne : B ≠ Wg := fun e => by
   have:=c.Pg j y hj b (e▸hb);have GQ:y.H b=false:=hh;rw[GQ] at this;cases this
  rw[h.block B hne];exact k.D8 b B hb hh
 .obtain⟨h1,h2,h3⟩:=k.Ej b B hb hh;refine⟨h1,λht=>?_,λht=>?_⟩
  .by_cases e:B=Wg
   .rw[e];exact hw
   .rw[h.block B e];exact h2 ht
  .have:=c.C8 j y hj;have KS:y.H.C8=true:=ht;rw[this] at KS;cases KS
def Cw.drop (c:Cw P SB lets Gn Wg Dead Toy Kp L own W)(i:Nat):Cw P SB lets Gn Wg Dead Toy Kp (put L i cf) own W:=by
 have get:∀ {j y},put L i cf j=bk y->L j=bk y:=λ{j y} h=>by
  by_cases e:j=i
  .subst e;rw[Cu] at h;cases h
  .rwa [CJ L _ e] at h
 exact⟨λj y hj=>c.like j y (get hj),λj y hj=>c.C8 j y (get hj),λj y hj=>c.Pg j y (get hj),λj y hj=>c.dead j y (get hj),λj y hj=>c.Ig j y (get hj),λj k y z hne hj hk=>c.sep j k y z hne (get hj) (get hk),c.low,c.Ih,c.keep,λj y hj=>c.D7 j y (get hj),c.MH,c.Rx⟩
def Cw.at (c:Cw P SB lets Gn Wg Dead Toy Kp L own W)(d:Nat):Cw P SB lets Gn Wg Dead Toy Kp L own (W.at d) :=
 ⟨λj y hj=>(c.like j y hj).same rfl rfl (c.like j y hj).env,c.C8,c.Pg,c.dead,c.Ig,c.sep,c.low,c.Ih,c.keep,c.D7,c.MH,c.Rx⟩
def QN (Toy:Nat->Prop)(L:Nat->Option Lone)(tp:Bool)(j:Nat)(l:Loc):Prop:=(∃x,L j=bk x/\U0 x l)\/(j=0/\tp=bh/\∃B,Toy B/\inBlock B l)
def Mj (Toy:Nat->Prop)(L:Nat->Option Lone)(tp:Bool)(j:Nat)(l:Loc):Prop:=(∃x,L j=bk x/\U1 x l)\/(j=0/\tp=bh/\∃B,Toy B/\inBlock B l)
def Ga {B:Nat}{l:Loc}(h:inBlock B l):l.isMemory=true:=by cases l<;>first|rfl|exact h.elim
def Hi {B B':Nat}{l:Loc}(h:inBlock B l)(h':inBlock B' l):B=B':=by
 cases l<;>first|exact h.symm.trans h'|exact h.elim
def gj {Toy:Nat->Prop}{L:Nat->Option Lone}{tp:Bool}{j:Nat}{l:Loc}(h:QN Toy L tp j l):Mj Toy L tp j l:=by
 rcases h with⟨x,h1,b,B,h2,h3,_,h4⟩|h
 .exact .inl ⟨x,h1,b,B,h2,h3,h4⟩
 .exact .inr h
def Cw.apart {tp:Bool}(c:Cw P SB lets Gn Wg Dead Toy Kp L own W)(ht:tp=bh->own=cf){j k:Nat}(hjk:j≠k)(l:Loc):QN Toy L tp j l->¬Mj Toy L tp k l:=by
 rintro(⟨x,hx,b,B,h1,h2,h3,h4⟩|⟨rfl,h0,B,h1,h4⟩) (⟨y,hy,b',B',k1,k2,k4⟩|⟨rfl,k0,B',k1,k4⟩)
 .obtain rfl:=Hi h4 k4;rcases c.sep j k x y hjk hx hy b b' B h1 k1 with h|h|⟨h,_⟩
  .have h':x.H b=true:=h;rw[h2] at h';cases h'
  .have h':y.H b'=true:=h;rw[k2] at h';cases h'
  .exact h3 h
 .obtain rfl:=Hi h4 k4;have:=c.Ig j x hx (by rw[ht k0];simp) b B h1 k1;rw[h2] at this;cases this
 .obtain rfl:=Hi h4 k4;have:=c.Ig k y hy (by rw[ht h0];simp) b' B k1 h1;rw[k2] at this;cases this
 .exact hjk rfl
def Cw.Lf {tp:Bool}(c:Cw P SB lets Gn Wg Dead Toy Kp L own W){j:Nat}{l:Loc}(h:Mj Toy L tp j l):¬Pf Dead Wg l:=by
 rintro⟨a,rfl,hs⟩;rcases h with⟨x,hx,b,B,h1,h2,h4⟩|⟨_,_,B,h1,h4⟩
 .have e:a.block=B:=h4;rcases hs with hs|hs
  .exact c.dead j x hx b B h1 (e▸hs)
  .have:=c.Pg j x hx b (by rw[<-hs,e];exact h1);rw[h2] at this;cases this
 .have e:a.block=B:=h4;obtain⟨t1,t2⟩:=c.Ih B h1;rcases hs with hs|hs
  .exact t2 (e▸hs)
  .exact t1 (e.symm.trans hs)
def Cw.abn {tp:Bool}{k:Nat}{x':Lone}(c:Cw P SB lets Gn Wg Dead Toy Kp L own W)(hk:L k=bk x')(he:∀E∈ES,ZB x'.β x'.w E){fn:bw}{pos:String} :
  ∀op∈a8 k fn pos ES.toArray,OkOp (Pf Dead Wg) (QN Toy L tp) (Mj Toy L tp) k op:=by
 intro op hop;obtain⟨e,Rs,rfl⟩:=bn hop;refine⟨rfl,λt ht=>?_⟩;have hE:=he e (by simpa using Rs);have Ry:∀b B,x'.β b B->(∃n,(x'.w.heap[b]?).map DK=bk n/\n≠1)->x'.H b=false:=by
  intro b B hb ⟨n,hn,h1⟩;cases hh:x'.H b with
  |false=>rfl
  |true =>
   rw[((c.like k x' hk).Ej b B hb hh).1] at hn;simp[DK] at hn;exact absurd hn.symm h1
 cases hE with
 |@cell a A wr sy hb ho hn hw =>
  have hh:=Ry _ _ hb (let ⟨n,h1,_⟩:=hn;⟨_,h1,by omega⟩);have hr:Mj Toy L tp k (.cell A):=.inl ⟨x',hk,a.block,A.block,hb,hh,rfl⟩;have hl:t.loc=.cell A/\t.write=wr:=by
   simp[bb,bo] at ht;subst ht;exact⟨rfl,rfl⟩
  rw[hl.1];refine .inr (.inr ⟨c.Lf hr,λhwr=>.inl ⟨x',hk,a.block,A.block,hb,hh,?_,rfl⟩,λ_=>hr⟩);rintro⟨cs,ty,f,hc,hf⟩;obtain⟨n,h1,h2⟩:=hn;rw[hc] at h1;simp[DK] at h1;have h0:=hw (by rw[<-hl.2];exact hwr);rw[ba,hc] at h0;obtain⟨p,q⟩:=hf a.off (by omega);simp[frz,p,q] at h0
 |@obj r R wr sy hb hn =>
  have hh:=Ry _ _ hb ⟨2,hn,by decide⟩;have hr:Mj Toy L tp k (.obj R):=.inl ⟨x',hk,r,R,hb,hh,rfl⟩;have hl:t.loc=.obj R:=by
   cases wr<;>cases sy<;>simp[bb,bo] at ht<;>subst ht<;>rfl
  rw[hl];refine .inr (.inr ⟨c.Lf hr,λ_=>.inl ⟨x',hk,r,R,hb,hh,?_,rfl⟩,λ_=>hr⟩);rintro⟨cs,ty,f,hc,_⟩;rw[hc] at hn;simp[DK] at hn
 |mark hm=>cases hm<;>simp[bb,bo] at ht
 |out=>simp[bb,bo] at ht;subst ht;exact .inl rfl
def Cw.Rz {tp:Bool}{N:Nat}{t:eo}(c:Cw P SB lets Gn Wg Dead Toy Kp L own W)(hi:L i=bk x)(f:F9 P SB lets Gn x W B8 w' W' ES)(g':a6)(ht:tp=bh->own=cf)(hN:i<N)
  (h:TI (Pf Dead Wg) (QN Toy L tp) (Mj Toy L tp) N t) (IB:∀op∈t,op.act.low W.heap.size) {fn:bw} {pos:String} :
  TI (Pf Dead Wg) (QN Toy (put L i (bk ⟨g',w',x.H,B8,x.T⟩)) tp) (Mj Toy (put L i (bk ⟨g',w',x.H,B8,x.T⟩)) tp) N (t++a8 i fn pos ES.toArray):=by
 have c':=c.step hi f g';have fresh:∀B l,W.heap.size<=B->inBlock B l->ib t l:=by
  intro B l hB hl j a ha e;obtain⟨op,hop,WA⟩:=cK ha;have DN:=IB op (zl hop);rw[<-e] at hl;have key:∀(act:MemAct) (a:Touch),act.touch?=bk a->act.low W.heap.size->inBlock B a.loc->False:=by
   intro act a ha DN hl;cases act with
   |access ev =>
    simp only[bo,Option.some.injEq] at ha;subst ha;obtain⟨loc,wr,sy⟩:=ev;cases loc<;>first|exact hl.elim|(simp only[inBlock] at hl;simp only[br,Loc.low] at DN;omega)
   |mark m =>
    cases m<;>simp[bo] at ha
    all_goals
     subst ha;simp only[inBlock] at hl;simp only[br] at DN;omega
   |_=>simp[bo] at ha
  exact key op.act a WA DN hl
 refine h.app hN (c'.abn (Cu L i _) (λE hE=>f.evs (c.C8 i x hi) E hE)) (λj hj l=>?_) (λl hl=>?_) (λl hl=>?_) (λj l hs=>?_) (λl hl=>?_) (λj hj _ l=>?_)
 .unfold QN Mj;rw[CJ L _ hj];exact⟨id,id⟩
 .rcases hl with⟨y,hy,b,B,h1,h2,h3,h4⟩|⟨h1,h2,h3⟩
  .rw[Cu] at hy;cases hy;rcases f.new b B h1 with h0|⟨_,h0⟩
   .exact .inl (.inl ⟨x,hi,b,B,h0,h2,λhr=>h3 (hr.kept f h0),h4⟩)
   .exact .inr (fresh B l h0 h4)
  .exact .inl (.inr ⟨h1,h2,h3⟩)
 .rcases hl with⟨y,hy,b,B,h1,h2,h4⟩|⟨h1,h2,h3⟩
  .rw[Cu] at hy;cases hy;rcases f.new b B h1 with h0|⟨_,h0⟩
   .exact .inl (.inl ⟨x,hi,b,B,h0,h2,h4⟩)
   .exact .inr (fresh B l h0 h4)
  .exact .inl (.inr ⟨h1,h2,h3⟩)
 .exact⟨λhw=>c'.Lf (gj hw) hs,λhr=>c'.Lf hr hs⟩
 .rcases hl with⟨a,rfl,_⟩|⟨j,hl⟩
  .rfl
  .have hr:Mj Toy (put L i (bk ⟨g',w',x.H,B8,x.T⟩)) tp j l:=hl.elim gj id;rcases hr with⟨y,_,b,B,_,_,h4⟩|⟨_,_,B,_,h4⟩<;>exact Ga h4
 .exact⟨λhw=>⟨c'.apart ht (cE hj) l hw,λhw'=>c'.apart ht (cE hj) l hw (gj hw')⟩,λhr hw'=>c'.apart ht hj l hw' hr⟩
def ep (f:F9 P SB lets Gn x W B8 w' W' ES)(ht:x.H.C8=bc){k:Nat}{fn:bw}{pos:String}:∀op∈a8 k fn pos ES.toArray,op.act.low W'.heap.size:=by
 intro op hop;obtain⟨e,Rs,rfl⟩:=bn hop;have hE:=f.evs ht e (by simpa using Rs);cases hE with
 |@cell a A wr sy hb _ _ _ =>
  have:=(f.rel.lt hb).2;show br _ (bb ⟨.cell A,wr,sy⟩);simpa [bb,br,Loc.low] using this
 |@obj r R wr sy hb _ =>
  have:=(f.rel.lt hb).2;show br _ (bb ⟨.obj R,wr,sy⟩);cases wr<;>cases sy<;>simpa [bb,br,Loc.low] using this
 |mark hm=>cases hm<;>simp[bb,br]
 |out=>simp[bb,br,Loc.low]
def cL (f:F9 P SB lets Gn x W B8 w' W' ES)(ht:x.H.C8=bc):∀e∈ES.toArray,e.loc≠.mark .disable/\e.loc≠.mark .enable/\∀a,e.loc≠.mark (.release a):=by
 intro e Rs;have hE:=f.evs ht e (by simpa using Rs);cases hE with
 |mark hm=>cases hm<;>simp
 |_=>simp
end
open Go.ConcR (KK WgAt stA smA rd wr mk DC0 Bk g_of_ofEvents bk_of_mute ofEvent_loc_mark ofEvent_cell ofEvent_mk)
inductive Wm where
 |born (Q:a6->a7->Prop) (y:a6×a7)
 |tree (Q:a6->a7->Prop) (y:a6×a7)
 |st (s m:Nat)
inductive MJ (p:bD):Wm->Wm->Prop
 |tree {Q:a6->a7->Prop} {x y:a6×a7}:¬Q y.1 y.2->After p x y->MJ p (.tree Q x) (.tree Q y)
 |off {s m:Nat} {Q:a6->a7->Prop} {y:a6×a7}:MJ p (.st s m) (.tree Q y)
 |un {Q:a6->a7->Prop} {y:a6×a7}:MJ p (.tree Q y) (.born Q y)
 |agj {s m:Nat} {Q:a6->a7->Prop} {y:a6×a7}:MJ p (.st s m) (.born Q y)
 |stage {s m s' m':Nat}:s<s'->MJ p (.st s m) (.st s' m')
 |fuel {s m m':Nat}:m<m'->MJ p (.st s m) (.st s m')
def Bw (p:bD):∀s m,Acc (MJ p) (.st s m):=by
 intro s
 induction s using Nat.strongRecOn with
 |_ s ihs =>
  intro m
  induction m using Nat.strongRecOn with
  |_ m ihm =>
   refine .intro _ λy h=>?_;cases h with
   |stage h=>exact ihs _ h _
   |fuel h=>exact ihm _ h
def Bu {p:bD}{BB:bw->Bool}{Q:a6->a7->Prop}{d:Nat}{g:a6}{w:a7}(h:C1 p BB Q d g w):Acc (MJ p) (.tree Q (g,w)):=by
 induction h with
 |fin h =>
  refine .intro _ λz hz=>?_;cases hz with
  |tree hn _=>exact absurd h hn
  |off=>exact Bw p _ _
 |next ng nw h1 h2 _ ih =>
  refine .intro _ λz hz=>?_;cases hz with
  |@tree _ x _ _ ha =>
   obtain⟨g',w'⟩:=x;obtain⟨τ,d,es,e,_⟩:=ha;obtain⟨⟨es',e'⟩,_⟩:=h2 τ d;rw[e] at e';cases e';exact ih τ d
  |off=>exact Bw p _ _
 |spec h1 h2 h3 h4 h5 h6 _ ih =>
  refine .intro _ λz hz=>?_;cases hz with
  |@tree _ x _ _ ha =>
   obtain⟨g',w'⟩:=x;obtain⟨τ,n,es,e,_⟩:=ha;dsimp only at e;rw[(h6.same Bm).step h3 h4 h5] at e;cases e;exact ih τ n
  |off=>exact Bw p _ _
def BP {p:bD}{BB:bw->Bool}{Q:a6->a7->Prop}{d:Nat}{g:a6}{w:a7}(h:C1 p BB Q d g w):Acc (MJ p) (.born Q (g,w)):=by
 refine .intro _ λz hz=>?_;cases hz with
 |un=>exact Bu h
 |agj=>exact Bw p _ _
section
variable (P:CL) (SB BB:bw->Bool) (lets:Bool) (Gn:Nat) (ty Wg:Nat) (Ψ2:a7->Prop)
def cM (Q:a6->a7->Prop)(H:Hid)(T:List bq)(wl:Cm)(o:Bool):Prop :=
 ∀(x:Lone) (g:a6) (W:a7),x.H=H->x.T=T->wl.le x.β->Q x.g x.w->Dv P SB BB lets x g->E2 P SB lets Gn x W->dr ty Wg W ->
  (∃m,GW P.b ty Wg bc (R0 P.b ty Wg) m g W)/\(o=bh->Ψ2 W)
def mq (x:Lone)(child:a6):Prop:=child.status=.running/\∃G1,(∀W,stepG P.b bc child W=.go G1 W #[])/\Dv P SB BB lets x G1
inductive E7:Nat->Nat->Wm->Option Lone->Bool->a6->a7->Prop
 | born {x : Lone} {wl : Cm} {Q : a6 -> a7 -> Prop} {o : Bool} {g : a6} {W : a7} : wl.le x.β -> cM P SB BB lets Gn ty Wg Ψ2 Q x.H x.T wl o -> (∀ g w, Q g w -> BB g.frame.fn = bc) -> C1 P.a BB Q 0 x.g x.w -> mq P SB BB lets x g ->
   E7 7 0 (.born Q (x.g,x.w)) (bk x) o g W
 | tree {x : Lone} {wl : Cm} {Q : a6 -> a7 -> Prop} {o : Bool} {d : Nat} {g : a6} {W : a7} : wl.le x.β -> cM P SB BB lets Gn ty Wg Ψ2 Q x.H x.T wl o -> (∀ g w, Q g w -> BB g.frame.fn = bc) -> C1 P.a BB Q d x.g x.w -> Dv P SB BB lets x g ->
   E7 7 d (.tree Q (x.g,x.w)) (bk x) o g W
 |r0 {m:Nat} {g:a6} {W:a7}:GW P.b ty Wg bc (R0 P.b ty Wg) m g W->E7 7 0 (.st 7 m) cf bc g W
 |k1 {m:Nat} {g:a6} {W:a7}:GW P.b ty Wg bc (K1 P.b ty Wg) m g W->E7 6 0 (.st 6 m) cf bc g W
 |d1 {m:Nat} {g:a6} {W:a7}:GW P.b ty Wg bc (D1 P.b ty Wg) m g W->E7 5 1 (.st 5 m) cf bc g W
 |d2 {m:Nat} {g:a6} {W:a7}:GW P.b ty Wg bc (D2 P.b ty Wg) m g W->E7 4 1 (.st 4 m) cf bc g W
 |d3 {m:Nat} {g:a6} {W:a7}:GW P.b ty Wg bc (D3 P.b ty Wg) m g W->E7 3 1 (.st 3 m) cf bc g W
 |d4 {m:Nat} {g:a6} {W:a7}:GW P.b ty Wg bc (AtD4 P.b ty Wg) m g W->E7 2 1 (.st 2 m) cf bc g W
 |quit {q d:Nat} {g:a6} {W:a7}:QuitsD P.b q d g->E7 1 d (.st 1 q) cf bc g W
end
section
variable {P:CL} {SB BB:bw->Bool} {lets:Bool} {Gn:Nat} {ty Wg:Nat} {Ψ2:a7->Prop} {s d:Nat} {m:Wm} {x:Option Lone} {o:Bool} {g:a6} {W W':a7}
def E7.rely (h:E7 P SB BB lets Gn ty Wg Ψ2 s d m x o g W)(r:RL ty Wg W W'):E7 P SB BB lets Gn ty Wg Ψ2 s d m x o g W':=by
 cases h with
 |born a b z c e=>exact .born a b z c e
 |tree a b z c e=>exact .tree a b z c e
 |r0 h=>exact .r0 (Goes.rely RL.trans h r)
 |k1 h=>exact .k1 (Goes.rely RL.trans h r)
 |d1 h=>exact .d1 (Goes.rely RL.trans h r)
 |d2 h=>exact .d2 (Goes.rely RL.trans h r)
 |d3 h=>exact .d3 (Goes.rely RL.trans h r)
 |d4 h=>exact .d4 (Goes.rely RL.trans h r)
 |quit h=>exact .quit h
def E7.status (h:E7 P SB BB lets Gn ty Wg Ψ2 s d m x o g W):g.status=.running\/(g.status=.finished/\s=1):=by
 cases h with
 |born _ _ _ _ e=>exact .inl e.1
 |tree _ _ _ _ e=>exact .inl e.status.2
 |r0 h=>exact .inl (Goes.running (λ_ _ x=>x.1) W (RL.refl W) h)
 |k1 h=>exact .inl (Goes.running (λ_ _ x=>x.1) W (RL.refl W) h)
 |d1 h=>exact .inl (Goes.running (λ_ _ x=>x.1) W (RL.refl W) h)
 |d2 h=>exact .inl (Goes.running (λ_ _ x=>x.1) W (RL.refl W) h)
 |d3 h=>exact .inl (Goes.running (λ_ _ x=>x.1) W (RL.refl W) h)
 |d4 h=>exact .inl (Goes.running (λ_ _ x=>x.1) W (RL.refl W) h)
 |quit h=>exact h.status.imp id λe=>⟨e,rfl⟩
def E7.acc (h:E7 P SB BB lets Gn ty Wg Ψ2 s d m x o g W):Acc (MJ P.a) m:=by
 cases h with
 |born _ _ _ h _=>exact BP h
 |tree _ _ _ h _=>exact Bu h
 |_=>exact Bw _ _ _
def E7.X4 (h:E7 P SB BB lets Gn ty Wg Ψ2 s d m x o g W):s<=6\/s=7:=by
 cases h<;>omega
def E7.woken (h:E7 P SB BB lets Gn ty Wg Ψ2 s d m x o g W)(a a':a6)(w':a7):woken P.b a a' w' g=g:=by
 unfold Go.Conc.woken;split
 .exact again_running _ (h.status.imp id (·.1))
 .rfl
end
inductive TS where
 |start|at_ (k:Nat)|done
def TS.own:TS->Option Nat
 |.at_ k=>bk k
 |_=>cf
def TS.tp:TS->Bool
 |.start=>bh
 |_=>bc
def BA {ts:TS}(h:ts.tp=bh):ts.own=none:=by cases ts<;>first|rfl|cases h
def X5 (j0 j:Nat)(D:Nat->WD)(rr:Nat->Nat)(k i:Nat):Prop:=∃a,k=a+1/\j0<=a/\a<j/\((D a).stage=7\/i<=rr a)
section
variable (P:CL) (SB BB:bw->Bool) (lets:Bool) (Gn:Nat) (ty Wg:Nat) (Dead Toy:Nat->Prop) (Kp:Gm) (Ψ0 Ψ2:a7->Prop)
structure WI (j0 j:Nat)(gs:Array a6)(W:a7)(t:eo)(D:Nat->WD)(M:Nat->Wm)(O:Nat->Bool)(L:Nat->Option Lone)(ts:TS)(rr:Nat->Nat)(st sm:Int):Prop where
 size:gs.size=j+1
 wk:∀i,i<j->∃g,gs[i+1]?=bk g/\E7 P SB BB lets Gn ty Wg Ψ2 (D i).stage (D i).deaf (M i) (L (i+1)) (O i) g W
 cw:Cw P SB lets Gn Wg Dead Toy Kp L ts.own W
 tr:Tr (Pf Dead Wg) (QN Toy L ts.tp) (Mj Toy L ts.tp) (j+1) (X5 j0 j D rr) (stA Wg) t
 low:∀op∈t,op.act.low W.heap.size
 deafW:∀i,i<j->Deaf t (i+1)=(D i).deaf
 rel:∀i,j0<=i->i<j->(D i).stage<=6->RelBy (stA Wg) t (i+1) (rr i)
 wg:WgAt ty Wg W st sm
 Ko:∀i,i<j->O i=bh->ts=.at_ (i+1)
 LS:∀k,ts=.at_ k->∃i,i<j/\k=i+1/\O i=bh
 FE:(ts=.start->Ψ0 W)/\(ts=.done->Ψ2 W)
 out:∀i,j<i->L i=cf
 old:∀i,i<j0->(D i).stage=1
 jj:j0<=j
def av (Toy:Nat->Prop)(Ψ:a7->Prop):Prop:=∀W W':a7,(∀B,Toy B->W'.heap[B]?=W.heap[B]?)->Ψ W->Ψ W'
end
section
variable {P:CL} {SB BB:bw->Bool} {lets:Bool} {Gn:Nat} {ty Wg:Nat} {Dead Toy:Nat->Prop} {Kp:Gm} {Ψ0 Ψ2:a7->Prop}
 {j0 j:Nat} {gs:Array a6} {W W':a7} {t:eo} {D:Nat->WD} {M:Nat->Wm} {O:Nat->Bool} {L:Nat->Option Lone} {ts ts':TS} {rr:Nat->Nat} {st sm Io Jl:Int}
def WI.live (h:WI P SB BB lets Gn ty Wg Dead Toy Kp Ψ0 Ψ2 j0 j gs W t D M O L ts rr st sm):dr ty Wg W:=⟨_,_,h.wg⟩
def WI.next (h:WI P SB BB lets Gn ty Wg Dead Toy Kp Ψ0 Ψ2 j0 j gs W t D M O L ts rr st sm){i:Nat}(hi:i<j){g g':a6}{fn:bw}{pos:String}{es:Array df}{s' dd':Nat}{m':Wm}{x':Option Lone}{o':Bool}{r':Nat}
  (hk:E7 P SB BB lets Gn ty Wg Ψ2 s' dd' m' x' o' g' W') (DX:WgAt ty Wg W' Io Jl) (hcw:Cw P SB lets Gn Wg Dead Toy Kp (put L (i+1) x') ts'.own W')
  (QM:TI (Pf Dead Wg) (QN Toy (put L (i+1) x') ts'.tp) (Mj Toy (put L (i+1) x') ts'.tp) (j+1) (t++a8 (i+1) fn pos es))
  (hnr:∀e∈es,∀a,e.loc≠.mark (.release a))
  (hst:s'<=(D i).stage) (hold:i<j0->s'=1)
  (Rw:s'=7\/(∀i',i'<t.size->(D i).stage=7->i'<=r')/\((D i).stage<=6->r'=rr i)/\∀i',t.size<=i'->(t++a8 (i+1) fn pos es).g? i'=bk (i+1)->i'<=r'/\j0<=i\/((∀x,touchAt (t++a8 (i+1) fn pos es) i'=bk x->x.loc.isMemory=bh->Pf Dead Wg x.loc/\x.kind=.atomic)/\¬(t++a8 (i+1) fn pos es).counts i'))
  (h7:s'=7->j0<=i/\(D i).stage=7)
  (IB:∀op∈a8 (i+1) fn pos es,op.act.low W'.heap.size) (hsz:W.heap.size<=W'.heap.size)
  (MK:dS (D i).deaf es=dd')
  (hrel:j0<=i->s'<=6->RelBy (stA Wg) (t++a8 (i+1) fn pos es) (i+1) r')
  (o1:o'=bh->ts'=.at_ (i+1)) (o2:ts'=ts/\o'=O i\/(ts=.at_ (i+1)/\ts'=.done/\o'=bc)) (ML:(ts'=.start->Ψ0 W')/\(ts'=.done->Ψ2 W')) :
  WI P SB BB lets Gn ty Wg Dead Toy Kp Ψ0 Ψ2 j0 j ((gs.map (woken P.b g g' W')).setIfInBounds (i+1) g') W' (t++a8 (i+1) fn pos es) (upd D i ⟨s',0,dd'⟩) (upd M i m') (upd O i o') (put L (i+1) x') ts' (upd rr i r') Io Jl:=by
 have GK:∀op∈a8 (i+1) fn pos es,op.g=i+1:=g_of_ofEvents;have pd0:∀k a,a<t.size->X5 j0 j D rr k a->X5 j0 j (upd D i ⟨s',0,dd'⟩) (upd rr i r') k a:=by
  rintro k a ha ⟨b,rfl,hb0,RA,hb⟩;refine⟨b,rfl,hb0,RA,?_⟩;by_cases e:b=i
  .subst e;rw[bs,bs];rcases Rw with h1|⟨h1,h2,_⟩
   .exact .inl h1
   .rcases hb with hb'|hb'
    .exact .inr (h1 a ha hb')
    .by_cases h6:(D b).stage<=6
     .rw[h2 h6];exact .inr hb'
     .have : (D b).stage = 7 := by
       obtain⟨_,_,hs⟩:=h.wk b RA;exact hs.X4.resolve_left h6
      exact .inr (h1 a ha this)
  .rw[b9 D _ e,b9 rr _ e];exact hb
 refine⟨by simp[h.size],λa ha=>?_,hcw,?_,λop hop=>?_,λa ha=>?_,λa h0 ha hs=>?_,DX,λa ha ho=>?_,λk E5=>?_,ML,λa ha=>?_,λa ha=>?_,h.jj⟩
 .by_cases e:a=i
  .subst e;exact⟨g',get_map_set_same _ _ _ (by rw[h.size];omega),by rw[bs,bs,bs,Cu];exact hk⟩
  .obtain⟨y,hy,hs⟩:=h.wk a ha;refine⟨y,by rw[get_map_set _ _ _ _ (by omega),hy,zT,hs.woken],?_⟩;rw[b9 D _ e,b9 M _ e,b9 O _ e,CJ L _ (by omega)];exact hs.rely λ_=>⟨_,_,DX⟩
 .refine(h.tr.X3 pd0).app QM GK (λop hop e=>?_) (λa ha PZ _=>?_)
  .obtain⟨x,hx,rfl⟩:=bn hop;exact hnr x hx _ (Go.ConcR.loc_of_ofEvent e)
  .rcases Rw with h1|⟨_,_,h3⟩
   .exact .inl ⟨i,rfl,(h7 h1).1,hi,.inl (by rw[bs];exact h1)⟩
   .rcases h3 a ha PZ with⟨hx,h0⟩|hx
    .exact .inl ⟨i,rfl,h0,hi,.inr (by rw[bs];exact hx)⟩
    .exact .inr hx
 .rcases Array.mem_append.1 hop with hop|hop
  .exact MemAct.low_mono hsz (h.low op hop)
  .exact IB op hop
 .by_cases e:a=i
  .subst e;rw[Deaf_own,h.deafW a ha,bs];exact MK
  .rw[Deaf_other t (by omega) _ GK,h.deafW a ha,b9 D _ e]
 .by_cases e:a=i
  .subst e;rw[bs] at hs ⊢;exact hrel h0 hs
  .rw[b9 D _ e] at hs;rw[b9 rr _ e];exact(h.rel a h0 ha hs).appOther GK (by omega)
 .by_cases e:a=i
  .subst e;rw[bs] at ho;exact o1 ho
  .rw[b9 O _ e] at ho;have:=h.Ko a ha ho;rcases o2 with⟨rfl,_⟩|⟨h1,_,_⟩
   .exact this
   .rw[h1] at this;have:=TS.at_.inj this;omega
 .rcases o2 with⟨rfl,h2⟩|⟨_,h1,_⟩
  .obtain⟨a,ha,e1,e2⟩:=h.LS k E5;refine⟨a,ha,e1,?_⟩;by_cases e:a=i
   .subst e;rw[bs,h2];exact e2
   .rw[b9 O _ e];exact e2
  .rw[h1] at E5;cases E5
 .rw[CJ L _ (by omega)];exact h.out a ha
 .by_cases e:a=i
  .subst e;rw[bs];exact hold ha
  .rw[b9 D _ e];exact h.old a ha
def WI.Jm (h:WI P SB BB lets Gn ty Wg Dead Toy Kp Ψ0 Ψ2 j0 j gs W t D M O L ts rr st sm){k:Nat}(hk:k<j+1){u:eo}(hu:∀op∈u,op.g=k/\∀x,op.act.touch?=bk x->Pf Dead Wg x.loc/\x.kind≠.plain/\(x.kind=.said->k=0)) :
  TI (Pf Dead Wg) (QN Toy L ts.tp) (Mj Toy L ts.tp) (j+1) (t++u):=by
 have ZU:ts.tp=bh->ts.own=none:=BA;refine h.tr.ti.app hk (λop hop=>⟨(hu op hop).1,λx hx=>.inr (.inl ((hu op hop).2 x hx))⟩) (λ_ _ _=>⟨id,id⟩) (λ_=>.inl) (λ_=>.inl) (λa l hs=>⟨λhw=>h.cw.Lf (gj hw) hs,λhr=>h.cw.Lf hr hs⟩) (λl hl=>?_)
  (λa ha _ l=>⟨λhw=>⟨h.cw.apart ZU (cE ha) l hw,λhw'=>h.cw.apart ZU (cE ha) l hw (gj hw')⟩,λhr hw'=>h.cw.apart ZU ha l hw' hr⟩)
 rcases hl with⟨a,rfl,_⟩|⟨a,hl⟩
 .rfl
 .have hr:Mj Toy L ts.tp a l:=hl.elim gj id;rcases hr with⟨y,_,b,B,_,_,h4⟩|⟨_,_,B,_,h4⟩<;>exact Ga h4
def FN {L:Nat->Option Lone}{k:Nat}(h:L k=cf):put L k cf=L:=by
 funext a;unfold put;split
 .rename_i e;rw[e,h]
 .rfl
def MM {Wg:Nat}{e:df}(h:Bk Wg e){x:Touch}(hx:(bb e).touch?=bk x):(∃a:Addr,x.loc=.cell a/\a.block=Wg)/\x.kind=.atomic:=by
 rcases h with h1|h1|⟨a,wr,rfl,ha⟩
 .rw[ofEvent_loc_mark h1] at hx;cases hx
 .rw[ofEvent_loc_mark h1] at hx;cases hx
 .cases wr<;>simp[bb,bo] at hx<;>subst hx<;>exact⟨⟨a,rfl,ha⟩,rfl⟩
def RD {Wg B:Nat}{e:df}(h:Bk Wg e)(hB:Wg<B):(bb e).low B:=by
 rcases h with h1|h1|⟨a,wr,rfl,ha⟩
 .rw[ofEvent_loc_mark h1];trivial
 .rw[ofEvent_loc_mark h1];trivial
 .have:a.block<B:=by omega
  cases wr<;>simpa [bb,br,Loc.low] using this
def mr {Wg:Nat}{e:df}(h:Bk Wg e)(a:Addr):e.loc≠.mark (.release a):=by
 rcases h with h1|h1|⟨a',wr,rfl,ha⟩
 .rw[h1];simp
 .rw[h1];simp
 .simp
def WI.book (h:WI P SB BB lets Gn ty Wg Dead Toy Kp Ψ0 Ψ2 j0 j gs W t D M O L ts rr st sm)(tz:av Toy Ψ0)(DZ:av Toy Ψ2){i:Nat}(hi:i<j){g g':a6}{fn:bw}{pos:String}{es:Array df}{s' dd':Nat}{m':Wm}
  (hk:E7 P SB BB lets Gn ty Wg Ψ2 s' dd' m' cf bc g' W') (h6:(D i).stage<=6) (hL:L (i+1)=cf) (hO:O i=bc) (hst:s'<=(D i).stage) (hold:i<j0->s'=1)
  (Og:Aside Wg W W') (DX:WgAt ty Wg W' Io Jl) (Iz:∀e∈es,Bk Wg e) (hd:∀a e,es[a]?=bk e->(bb e).touch?=cf\/0<dS (D i).deaf (es.extract 0 a)) (MK:dS (D i).deaf es=dd') :
  WI P SB BB lets Gn ty Wg Dead Toy Kp Ψ0 Ψ2 j0 j ((gs.map (woken P.b g g' W')).setIfInBounds (i+1) g') W' (t++a8 (i+1) fn pos es) (upd D i ⟨s',0,dd'⟩) (upd M i m') (upd O i bc) L ts (upd rr i (rr i)) Io Jl:=by
 have hrel:j0<=i->RelBy (stA Wg) (t++a8 (i+1) fn pos es) (i+1) (rr i):=λh0=>(h.rel i h0 hi h6).book (h.deafW i hi) fn pos Iz hd;have ZV:∀op∈a8 (i+1) fn pos es,op.g=i+1/\∀x,op.act.touch?=bk x->Pf Dead Wg x.loc/\x.kind=.atomic:=by
  intro op hop;obtain⟨e,he,rfl⟩:=bn hop;refine⟨rfl,λx hx=>?_⟩;obtain⟨⟨a,h1,h2⟩,h3⟩:=MM (Iz e he) hx;exact⟨⟨a,h1,.inr h2⟩,h3⟩
 have hbl:∀B,Toy B->W'.heap[B]?=W.heap[B]?:=λB hB=>Og.block B (h.cw.Ih B hB).1;have:=h.next hi (g:=g) (fn:=fn) (pos:=pos) (r':=rr i) (ts':=ts) hk DX (by rw[FN hL];exact h.cw.group Og ⟨_,_,_,DX⟩)
  (by rw[FN hL];exact h.Jm (by omega) (λop hop=>⟨(ZV op hop).1,λx hx=>⟨((ZV op hop).2 x hx).1,by rw[((ZV op hop).2 x hx).2];simp,λe=>by rw[((ZV op hop).2 x hx).2] at e;cases e⟩⟩))
  (λe he a=>mr (Iz e he) a) hst hold
  (.inr ⟨λ_ _ h7=>by omega,λ_=>rfl,λa ha PZ=>.inr ⟨λx hx _=>?_,λhc=>?_⟩⟩) (λh7=>by omega)
  (λop hop=>by obtain⟨e,he,rfl⟩:=bn hop;exact RD (Iz e he) (by rw[Og.size];exact h.cw.low.1)) (by rw[Og.size];exact yL _) MK (λh0 _=>hrel h0) (by simp) (.inl ⟨rfl,hO.symm⟩)
  ⟨λe=>tz W W' hbl (h.FE.1 e),λe=>DZ W W' hbl (h.FE.2 e)⟩
 .rwa [FN hL] at this
 .obtain⟨op,hop,Pb⟩:=cK hx;rcases bl hop with⟨hlt,_⟩|⟨_,F2⟩
  .omega
  .exact(ZV op F2).2 x Pb
 ·
  obtain⟨x,hx,_,PS⟩:=hc;have KY:touchAt (t++a8 (i+1) fn pos es) a=bk x:=hx;obtain⟨op,hop,Pb⟩:=cK KY;rcases bl hop with⟨hlt,_⟩|⟨_,F2⟩
  .omega
  .have hat:=((ZV op F2).2 x Pb).2;rcases PS with PS|⟨gg,KZ,hdf⟩
   .exact PS hat
   .have eg:gg=i+1:=by rw[PZ] at KZ;exact(Option.some.inj KZ).symm
    subst eg;have hj:(a8 (i+1) fn pos es)[a-t.size]?=bk op:=by
     rw[AP] at hop;simpa [Nat.not_lt.2 ha] using hop
    rw[ofEvents_eq,zI] at hj;obtain⟨e,he,rfl⟩:=zm.1 hj;have hjs:a-t.size<=es.size:=by
     rcases zC (a-t.size) es.size with h'|h'
     .omega
     .rw[Ao h'] at he;cases he
    rcases hd _ e he with h0|h0
    .simp only at Pb;rw[h0] at Pb;cases Pb
    .have:=deaf_inside t (i+1) fn pos es (a-t.size) hjs;rw[show t.size+(a-t.size)=a by omega,hdf,h.deafW i hi] at this;omega
end
end Go.Co
