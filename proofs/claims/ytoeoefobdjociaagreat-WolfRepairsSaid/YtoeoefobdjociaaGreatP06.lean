/- Parts of the proof. -/
import Derived.Test.YtoeoefobdjociaaGreatP05
import Derived.Conc.WgGenN3
import Derived.Conc.Beside
set_option linter.all false
open Go renaming Goroutine->Z,World->Y,Frame->bc,stepG->bl,FuncId->bn,Program->bq,step_lone_go->br,Next->bw,Item->b6,HappensBefore->cf,Oper->cq,Event->cu,TypeId->cE,deafBehind->cL,step_seq->dn,Trace->dr
open Go.MemOp renaming ofEvents->J
open Go.MemAct renaming ofEvent->U,touch?->bb,low->bh
open Bool renaming false->I,true->F
open Option renaming some->S,none->b5
open Go.Conc renaming getElem?_append_cases->V,mem_ofEvents->ak,lt_size_of_getElem?->bo,touch_of->ck,g?_old->cK
open Go.ConcN renaming upd_same->bk,upd_ne->bW,WgLive->cF
open List renaming range->bs,range'->b8
open Go.stepG renaming apply->bA
open Go.Region renaming Mode->bD,wanted->cU,binds->c0,ready->df
open Go.Frame renaming enter->b7,finish_at->cr,todo->dy
open Ne renaming symm->b9
namespace Go.Eu
def aZ (P:bq)(tgt:List b6)(C:Code)(N:Act->Y->Prop)(a:Act)(w:Y):Prop :=
 ∀(b:bc) (k:List b6) (cs:List bc),∃a' w',N a' w'/\Steps P (lone (b.at a (.code C::k)) cs w) (lone (b.at a' (tgt++k)) cs w')
def dA (P:bq)(tg:Act->List b6)(C:Code)(N:Act->Y->Prop)(a:Act)(w:Y):Prop :=
 ∀(b:bc) (k:List b6) (cs:List bc),∃a' w',N a' w'/\Steps P (lone (b.at a (.code C::k)) cs w) (lone (b.at a' (tg a'++k)) cs w')
section
variable {P:bq} {tgt:List b6} {C c r:Code} {N:Act->Y->Prop} {a:Act} {w:Y}
def nW (h:c.wp P (Exit.then (aZ P tgt r N) λ_ _ _=>False) a w):aZ P tgt (.seq c r) N a w:=λb k cs=>by
 obtain⟨e,a1,w1,hq,a6⟩:=h b (.code r::k) cs;cases e with
 |normal =>
  obtain⟨a2,w2,hn,hs⟩:=hq b k cs;exact⟨a2,w2,hn,.head dn (Steps.trans a6 hs)⟩
 |_=>exact hq.elim
def aS (h:∀K:Act->Y->Prop,(∀a w,aZ P tgt r N a w->K a w)->c.wp P (Exit.then K λ_ _ _=>False) a w):aZ P tgt (.seq c r) N a w :=
 nW (h _ λ_ _ h=>h)
def lP {tg:Act->List b6}(h:∀K:Act->Y->Prop,(∀a w,dA P tg r N a w->K a w)->c.wp P (Exit.then K λ_ _ _=>False) a w):dA P tg (.seq c r) N a w:=λb k cs=>by
 obtain⟨e,a1,w1,hq,a6⟩:=h _ (λ_ _ h=>h) b (.code r::k) cs;cases e with
 |normal =>
  obtain⟨a2,w2,hn,hs⟩:=hq b k cs;exact⟨a2,w2,hn,.head dn (Steps.trans a6 hs)⟩
 |_=>exact hq.elim
def nX {tg:Act->List b6}{N':Act->Y->Prop}(h:aZ P tgt C N a w)(hN:∀a w,N a w->tg a=tgt/\N' a w):dA P tg C N' a w:=λb k cs=>by
 obtain⟨a',w',hn,hs⟩:=h b k cs;obtain⟨h1,h2⟩:=hN a' w' hn;exact⟨a',w',h2,by rw[h1];exact hs⟩
def fQ (h:aZ P tgt c N a w):aZ P (tgt++[.code r]) (.seq c r) N a w:=λb k cs=>by
 obtain⟨a',w',hn,hs⟩:=h b (.code r::k) cs;exact⟨a',w',hn,.head dn (by simpa using hs)⟩
def fl {t:Operand}{x y:Code}{v:Bool}(hv:a.eval t=.bool v)(h:aZ P tgt (if v then x else y) N a w):aZ P tgt (.cond t x y) N a w:=λb k cs=>by
 obtain⟨a',w',hn,hs⟩:=h b k cs;exact⟨a',w',hn,.head (step_cond hv) hs⟩
def Oz {ops:Array cq}{N K:Act->Y->Prop}{i:Nat}{a:Act}{w:Y}(h:wpOp P ops (Exit.then N λ_ _ _=>False) i K a w)(b:bc)(l2:List Nat)(k:List b6)(cs:List bc) :
  ∃a' w',K a' w'/\Steps P (lone (b.at a (.inRegion ops (i::l2)::k)) cs w) (lone (b.at a' (.inRegion ops l2::k)) cs w'):=by
 simp only[wpOp] at h;cases ho:ops[i]? with
 |none =>
  simp only[ho] at h;have zG:=step_op_skip (P:=P) (b:=b) (a:=a) (k:=k) (cs:=cs) (w:=w) (ops:=ops) (i:=i) (rest:=l2) (by simp[ho]);simp only[ho,Option.bind_none,Act.put] at zG;exact⟨a,w,h,.head zG (.refl _ _)⟩
 |some o =>
  simp only[ho] at h;have a6:∀v,(b.at a (.inRegion ops (i::l2)::k)).finish v=b.at (a.put o.dst v) (.inRegion ops l2::k):=λv=>by
   rw[cr,ho];rfl
  by_cases hw:cU o (yielded ops a.tmps)=F
  .simp only[hw,if_true] at h;obtain h|⟨_,a0,w0,hq⟩:=h
   case inr=>exact hq.elim
   have hg:=stepG_op (P:=P) (b:=b) (k:=k) (cs:=cs) (w:=w) (rest:=l2) ho hw;simp only[Oper.wp,Oper.upon] at h;split at h
   .rename_i v w' hr;exact⟨_,_,h,.head (br (by rw[hg,<-a6];simp[bA,hr])) (.refl _ _)⟩
   .rename_i w' hr;exact⟨_,_,h,.head (br (by rw[hg,<-a6];simp[bA,hr])) (.refl _ _)⟩
   .rename_i d w' hr;have hd:({ b.at a (.inRegion ops (i::l2)::k) with defers:=d::a.defers }:bc).finish undef=b.at ({ a with defers:=d::a.defers }.put o.dst undef) (.inRegion ops l2::k):=by
     have:=cr b { a with defers:=d::a.defers } ops i l2 k undef;rw[ho] at this;exact this
    refine⟨_,_,h,.head (br ?_) (.refl _ _)⟩;rw[hg];simp only[bA,Sem.runT_eq,hr,GStep.bare_after];exact AX (λfr=>GStep.go { frame:=fr,callers:=cs,status:=.running,dying:=b5 } w') hd
   .rename_i f args w' hr;obtain⟨e,w2,fr,hR,zG,_,hlv⟩:=h (b.at a (.inRegion ops (i::l2)::k)::cs);have hen:step P (lone (b.at a (.inRegion ops (i::l2)::k)) cs w)=.next (lone (b7 P f args .normal) (b.at a (.inRegion ops (i::l2)::k)::cs) w') :=
     br (by rw[hg];simp[bA,hr,Frame.at])
    cases e with
    |returned v =>
     refine⟨_,_,hR,.head hen (zG.trans (.head ?_ (.refl _ _)))⟩;rw[<-a6];exact step_leave_returned hlv
    |panicked chain=>exact hR.elim
    |outgrown =>
     obtain⟨a0,w0,hq⟩:=hR;exact hq.elim
   .rename_i row args w' hr;obtain⟨v,w2,hR,zG⟩:=h (b.at a (.inRegion ops (i::l2)::k)) cs;have hen:step P (lone (b.at a (.inRegion ops (i::l2)::k)) cs w)=.next (lone (Frame.ofRow P row args .normal) (b.at a (.inRegion ops (i::l2)::k)::cs) w') :=
     br (by rw[hg];simp[bA,hr,Frame.at])
    refine⟨_,_,hR,.head hen (Steps.trans ?_ (.refl _ _))⟩;rw[<-a6];exact zG
   .exact h.elim
   .exact h.elim
  .simp only[hw,if_false,AZ] at h;have zG:=step_op_skip (P:=P) (b:=b) (a:=a) (k:=k) (cs:=cs) (w:=w) (ops:=ops) (i:=i) (rest:=l2) (by simp[ho];simpa using hw);simp only[ho,BF] at zG;exact⟨_,_,h,.head zG (.refl _ _)⟩
def Nz {ops:Array cq}{K:Act->Y->Prop}(l2:List Nat)(l:List Nat):∀(a:Act) (w:Y),wpOps P ops (Exit.then K λ_ _ _=>False) l a w->∀(b:bc) (k:List b6) (cs:List bc),
  ∃a' w',K a' w'/\Steps P (lone (b.at a (.inRegion ops (l++l2)::k)) cs w) (lone (b.at a' (.inRegion ops l2::k)) cs w'):=by
 induction l with
 |nil=>exact λa w h b k cs=>⟨a,w,h,.refl _ _⟩
 |cons i rest ih =>
  intro a w h b k cs;rw[wpOps_cons] at h;obtain⟨a1,w1,h1,h2⟩:=Oz h b (rest++l2) k cs;obtain⟨a2,w2,h3,h4⟩:=ih a1 w1 h1 b k cs;exact⟨a2,w2,h3,h2.trans h4⟩
def qv {ops:Array cq}{Q:Exit->Act->Y->Prop}(l:List cq):∀k,(∀j,j<l.length->l[j]?=ops[k+j]?)->wpOps P ops Q (b8 k l.length)=wpList P ops Q l:=by
 induction l with
 |nil=>intro k _;funext a w;simp[wpOps,wpList]
 |cons o l ih =>
  intro k h;have h0:ops[k]?=S o:=by simpa using(h 0 (by simp)).symm
  have ih':=ih (k+1) λj hj=>by have:=h (j+1) (by simpa using hj);simpa [CV,Nat.add_comm 1 j] using this
  funext a w;simp only[AM,List.range'_succ,wpOps,h0,wpList,ih']
def ge {id:Nat}{ops:Array cq}{l:List cq}{l2:List Nat}(hl:∀j,j<l.length->l[j]?=ops[j]?)(h2:bs ops.size=b8 0 l.length++l2)(h:wpList P ops (Exit.then N λ_ _ _=>False) l a w):aZ P [.inRegion ops l2] (.region id ops I) N a w:=λb k cs=>by
 rw[<-qv l 0 (λj hj=>by rw[AO];exact hl j hj)] at h;obtain⟨a',w',hq,hs⟩:=Nz l2 _ a w h b k cs;exact⟨a',w',hq,.head step_region (by rw[h2];exact hs)⟩
end
section
variable {P:bq} {SB:bn->Bool} {H:Hid} {G:Nat}
def IA (b:bc)(tg:Act->List b6)(cs:List bc)(N:Act->Y->Prop)(g:Z)(w:Y):Prop :=
 ∃a' w0,Et w0 w/\N a' w0/\g=EX (b.at a' (tg a')) cs
def IA.same {b:bc}{tgt:Act->List b6}{cs:List bc}{N:Act->Y->Prop}(g:Z)(w W:Y)(h:Et w W)(q:IA b tgt cs N g w):IA b tgt cs N g W:=by
 obtain⟨a',w0,h1,h2⟩:=q;exact⟨a',w0,h1.trans h,h2⟩
def J6 (L:Lib (ED.of P) SB H I SB G){b:bc}{a:Act}{tgt:Act->List b6}{C:Code}{k:List b6}{cs:List bc}{w:Y}{N:Act->Y->Prop}(zU:cs≠[])(hs:Self P SB H G (EX (b.at a (.code C::k)) cs) w)
  (h:∀τ d,dA P tgt C N a (on w τ d)):Ee P (Self P SB H G) (IA b (λa=>tgt a++k) cs N) (EX (b.at a (.code C::k)) cs) w:=by
 refine fe L IA.same ⟨hs,λτ d=>?_⟩;obtain⟨a',w',hn,n,hr⟩:=h τ d b k cs;exact dm L (hs.same Di) hr zU ⟨a',w',⟨rfl,rfl,rfl⟩,hn,rfl⟩
end
section
variable {P:ED} {EB BC BB:bn->Bool} {H:Hid} {G:Nat} {Q:Z->Y->Prop}
def ID.PX (B:ID P EB BC BB H G){b:bc}{a:Act}{tgt:Act->List b6}{c:Code}{k:List b6}{C:bc}{cs:List bc}{K0:Nat->Prop}{w:Y}
  (zR:Er P.a EB H I (EK K0) (b.at a (.code c::k)) (b.at a (.code c::k)))
  (aA:∀b,K0 b->G<=b) (hroom:G<=w.heap.size) (a7:∀b,K0 b->H b=F->H.EZ=F/\w.heap[b]?=S (.coro b5)) (hold:∀b,H b=F->b<w.heap.size) (a8:∀b,K0 b->H b=I->∃o,w.heap[b]?=S o/\EW (SP EB H) (CK P.a EB I) (EK K0) o o)
  (hk:∀a c t,tgt a++k≠.code c::t) (hbl:BC b.fn=F\/∃fn s,P.a.funcs[b.fn]?=S fn/\fn.body=S (.refuse s)) (hQ:∀g w W,Et w W->Q g w->Q g W) {N:Act->Y->Prop}
  (hc:∀τ d,dA P.a tgt c N a (on w τ d))
  (h1:∀a' w',N a' w'->EO P.b BB Q 0 (EX (b.at a' (tgt a'++k)) (C::cs)) w') :
  EO P.b BB Q 0 (EX (b.at a (.code c::k)) (C::cs)) w:=by
 have h0:=B.run (Qa:=IA b (λa=>tgt a++k) [bad] N) IA.same (λg w f' hl hf' hlk e=>by
  obtain⟨a',w0,_,_,rfl⟩:=hl;have e3:b.fn=f':=e;obtain h|⟨fn,s,r1,r2⟩:=hbl
  .rw[e3,hf'] at h;cases h
  .obtain⟨x,y,aF,r,o1,o2,s2,aB,hp,_⟩:=hlk;have:=hp.func;rw[<-e3,r1] at this;cases this;have:=hp.text;rw[r2] at this
   cases this) (C:=C) (cs:=cs) (.on zR) (.on zR) aA hroom a7 hold a8 λhs=>J6 (N:=N) (tgt:=tgt) B.la (by simp) hs hc
 refine h0.bind λg2 w' hq=>?_;obtain⟨g',w0,D6,q1,q2,q3,q4,q5⟩:=hq;have aC:Er P.a EB H I D6 g'.frame g2.frame:=by
  have a6:=q4.top;obtain⟨a',wl,l1,l2,l3⟩:=q1;generalize hf:g'.frame=fr at a6 ⊢;generalize g2.frame=FR at a6 ⊢;cases a6 with
  |on h=>exact h
  |@stop f A A' kd s1 s2 s3 s4 =>
   exfalso;obtain⟨fn,s,r1,r2⟩|⟨x,y,fn,r,o1,o2,s,aB,hp,_⟩:=B.ref f s1 s2
   .subst l3;have:=AX dy hf;simp only[Go.Eu.EX,b7,r1,Frame.at] at this;exact hk _ _ _ this
   .subst l3;have:=AX dy hf;simp only[Go.Eu.EX,b7,hp.func,Frame.at] at this;exact hk _ _ _ this
 have eF:g'.frame=g2.frame:=Er.id (P:=ED.of P.a) q3 aC;have e2:g2=EX g2.frame g2.callers:=by
  obtain⟨x1,x2,x3,x4,x5⟩:=g2;obtain⟨_,_,⟨_,s1⟩,⟨_,d1⟩,⟨_,o1⟩⟩:=q4;dsimp only at *;subst s1 d1 o1
  rfl
 obtain⟨a',wl,l1,l2,l3⟩:=q1;have aD:g2.callers=C::cs:=by
  have:=q4.callers;rw[show g'.callers=[bad] by rw[l3];rfl] at this;generalize g2.callers=X at this;cases this with
  |base=>rfl
  |cons _ h=>exact AI rfl h.ne
 rw[e2,aD,<-eF,l3];exact(h1 a' wl l2).same hQ (l1.trans q2)
end
def JA (md:bD)(ops:Array cq)(i:Nat):List Nat:=match ops[i]? with
 |some o=>(o.after.toList.filter (c0 md)).map (·.on)
 |none=>[]
def Im {md:bD}{ops:Array cq}{listed:Array Bool}{i:Nat}:i∈df md ops listed↔i<ops.size/\listed.getD i F=I/\∀j∈JA md ops i,listed.getD j I=true:=by
 unfold df JA;rw[Ca,Bu];refine and_congr_right λhi=>?_;rw[AK hi];simp only[BW,AY,AN,B2,Bf,Ca,Array.mem_toList_iff];refine and_congr_right λ_=>?_;rw[Ba];constructor
 .rintro h j ⟨e,⟨he,hb⟩,rfl⟩;have:=h e he;simpa [hb] using this
 .intro h e he;cases hb:c0 md e with
  |false=>rfl
  |true=>simpa using h e.on ⟨e,⟨he,hb⟩,rfl⟩
def mR (md:bD)(ops:Array cq)(m:Nat):Bool :=
 (bs m).all (λi=>(b8 (i+1) (m-i)).any λj=>(JA md ops j).contains i)&&(b8 (m+1) (ops.size-m-1)).all (λi=>(JA md ops i).contains (i-1))&&(bs ops.size).all (λi=>(JA md ops i).all λj=>decide (j<i)) &&
  (ops.toList.take m).all (λo=>match o.guard with|some (j,_)=>decide (j<m)|none=>F)&&decide (m<ops.size)
section
variable {md:bD} {ops:Array cq} {m:Nat}
structure Pf (md:bD)(ops:Array cq)(m:Nat):Prop where
 up:∀i,i<m->∃j,i<j/\j<=m/\i∈JA md ops j
 next:∀i,m<i->i<ops.size->i-1∈JA md ops i
 lt:∀i,i<ops.size->∀j∈JA md ops i,j<i
 guard:∀i o j b,i<m->ops[i]?=S o->o.guard=S (j,b)->j<m
 size:m<ops.size
def xe (h:mR md ops m=F):Pf md ops m:=by
 simp only[mR,AN,Bz,List.any_eq_true,Bu,List.mem_range'_1,C2,decide_eq_true_eq] at h;obtain⟨⟨⟨⟨h1,h2⟩,h3⟩,h4⟩,h5⟩:=h;refine⟨λi hi=>?_,λi hi hn=>h2 i ⟨by omega,by omega⟩,h3,λi o j b hi ho hg=>?_,h5⟩
 .obtain⟨j,hj,hm⟩:=h1 i hi;exact⟨j,by omega,by omega,hm⟩
 .have:=h4 o (List.mem_iff_getElem?.2 ⟨i,by rw[CL,AF hi];simpa using ho⟩);rw[hg] at this;simpa using this
def filter_one {p:Nat->Bool}{n k:Nat}(hk:k<n)(h:∀i,i<n->(p i=F↔i=k)):(bs n).filter p=[k]:=by
 have e:(bs n).filter p=(bs n).filter λi=>i==k:=List.filter_congr λi hi=>by
  have:=h i (Bu.1 hi);cases hp:p i with
  |true=>simpa using(this.1 hp)
  |false =>
   have:i≠k:=λe=>by rw[this.2 e] at hp;cases hp
   simpa using this
 rw[e,List.filter_beq,List.count_range];simp[hk]
def dV {l:Array Bool}{i:Nat}(h:i<l.size):l.getD i F=l.getD i false:=by
 simp[Array.getD,h]
end
end Go.Eu
namespace Go.Co
open Go.Eu Go.Conc
def bK (p:bq):List b6->Bool
 |.inRegion ops (i::_)::_=>match ops[i]? with
  |some o=>aN p o.op
  |none=>F
 |_=>F
section
variable {p:bq} {BB:bn->Bool} {Q:Z->Y->Prop} {b:bc} {a:Act} {todo:List b6} {cs:List bc} {w:Y}
def jp (h:bK p todo=F):∀o,(b.at a todo).oper?=S o->aN p o.op=true:=by
 intro o ho;unfold Frame.oper? Frame.at at ho;dsimp only at ho
 match todo,h,ho with
 |.inRegion ops (i::rest)::k,h,ho =>
  simp only[bK] at h;have a6:ops[i]?=S o:=ho;rw[a6] at h;exact h
 |[],_,ho=>cases ho
 |.inRegion ops []::k,_,ho=>cases ho
 |.code c::k,_,ho=>cases ho
 |.inBlock i::k,_,ho=>cases ho
 |.inLoop c::k,_,ho=>cases ho
 |.inScope c::k,_,ho=>cases ho
 |.inRangeFunc l::k,_,ho=>cases ho
 |.endRangeFunc l::k,_,ho=>cases ho
 |.beginRound::k,_,ho=>cases ho
 |.call _ _ _ _::k,_,ho=>cases ho
def Ee.own (hQ:∀g w W,Et w W->Q g w->Q g W)(hf:BB b.fn=F)(hg:bK p todo=F)(h:∀τ d,(bl p F (G (b.at a todo) cs) (on w τ d)).goes (λg' w' _=>g'.callers≠[]/\∃W,Et W w'/\Ee p (Fa p BB) Q g' W)) :
  Ee p (Fa p BB) Q (G (b.at a todo) cs) w:=by
 refine Ee.step ⟨hf,jp hg⟩ λτ d=>?_;have:=h τ d;cases hs:bl p F (G (b.at a todo) cs) (on w τ d) with
 |go g' w' es =>
  rw[hs] at this;obtain⟨h1,W,h2,h3⟩:=this;exact⟨g',w',es,rfl,h1,h3.same (λ_ _ _ _ x=>x) hQ h2⟩
 |_=>rw[hs] at this;exact this.elim
end
section
variable {P:bq} {main:Bool} {b:bc} {a:Act} {k:List b6} {cs:List bc} {w:Y}
def aJ {ops:Array cq}{i:Nat}{rest:List Nat}{o:cq}{K:Z->Y->Array cu->Prop}{f:bn}{fn:Func}{args:Array Operand}{ats:Array cE}
  (ho:ops[i]?=S o) (hw:cU o (yielded ops a.tmps)=F) (hk:b.kind≠.early) (hop:o.op=.call { callee:=.value (.func f),args,argTypes:=ats })
  (hf:P.funcs[f]?=S fn) (hname:(fn.name == "runtime.NumGoroutine")=I) (hb:fn.body.isNone=I)
  (h:K (G (b7 P f (args.map a.eval) .normal) (b.at a (.inRegion ops (i::rest)::k)::cs)) w #[]) :
  (bl P main (G (b.at a (.inRegion ops (i::rest)::k)) cs) w).goes K:=by
 rw[stepG_enter ho hw hk (run_call_body hop hf hname hb)];have:listed P b.fn a o w=#[]:=by unfold listed;rw[events_call_body hop hf hname hb];exact seen_none P _
 rw[this];exact h
end
open Go.ConcN Go.RowKit Go.Conc.Lib Go.ConcR.Gen Go.ConcN.Gen
open Go.ConcR (KK wgBlock WgAt stA smA rd wr mk Payload Aside2 DC0)
def RL (ty:cE)(Wg:Nat)(w w₁:Y):Prop:=cF ty Wg w->cF ty Wg w₁
def RL.refl {ty:cE}{Wg:Nat}(w:Y):RL ty Wg w w:=id
def RL.trans {ty:cE}{Wg:Nat}(a b c:Y)(h:RL ty Wg a b)(k:RL ty Wg b c):RL ty Wg a c:=k ∘ h
def rl {ty:cE}{Wg:Nat}{w w₁:Y}(h:cF ty Wg w)(r:RL ty Wg w w₁):cF ty Wg w₁:=r h
section
variable (P:bq) (ty:cE) (Wg:Nat)
abbrev GW (main:Bool)(Stop:Z->Y->Prop)(m:Nat)(g:Z)(w:Y):Prop:=Goes P main (RL ty Wg) DC0 Stop m g w
def D3 (g:Z)(w:Y):Prop :=
 g.status=.running/\(WgAt ty Wg w 1 0->∃g',bl P I g w=.go g' (w.setCell (stA Wg) (.int .u64 0)) #[wr (stA Wg)]/\∃m,GW P ty Wg I (AtD4 P ty Wg) m g' (w.setCell (stA Wg) (.int .u64 0)))
def D2 (g:Z)(w:Y):Prop :=
 g.status=.running/\(WgAt ty Wg w 1 0->∃g',bl P I g w=.go g' w #[rd (stA Wg)]/\∃m,GW P ty Wg I (D3 P ty Wg) m g' w)
def D1 (g:Z)(w:Y):Prop :=
 g.status=.running/\∀v wt:Nat,wt<=1->v<2147483647->WgAt ty Wg w ((v+1)*KK+wt) 0 ->
  ∃g',bl P I g w=.go g' (w.setCell (stA Wg) (.int .u64 (v*KK+wt))) #[rd (stA Wg),wr (stA Wg)] /\
   ((v=0/\wt=1)->∃m,GW P ty Wg I (D2 P ty Wg) m g' (w.setCell (stA Wg) (.int .u64 (v*KK+wt))))/\(¬(v=0/\wt=1)->∃q,QuitsD P q 1 g')
def K1 (g:Z)(w:Y):Prop :=
 g.status=.running/\∃g',bl P I g w=.go g' w #[mk .disable]/\∃m,GW P ty Wg I (D1 P ty Wg) m g' w
def R0 (g:Z)(w:Y):Prop :=
 g.status=.running/\∃g',bl P I g w=.go g' w #[mk (.releaseMerge (stA Wg))]/\∃m,GW P ty Wg I (K1 P ty Wg) m g' w
def Rj (bw:Z->Y->Prop)(g:Z)(w:Y):Prop:=g.status=.running/\∃g',bl P F g w=.go g' w #[mk .enable]/\∃m,GW P ty Wg F bw m g' w
def ARr (bw:Z->Y->Prop)(g:Z)(w:Y):Prop:=g.status=.running/\∃g',bl P F g w=.go g' w #[mk (.read (smA Wg))]/\∃m,GW P ty Wg F (Rj P ty Wg bw) m g' w
def AA1 (bw:Z->Y->Prop)(g:Z)(w:Y):Prop :=
 g.status=.running/\∀v:Nat,v<2147483647->WgAt ty Wg w (v*KK) 0->∃g',bl P F g w=.go g' (w.setCell (stA Wg) (.int .u64 ((v+1)*KK))) #[rd (stA Wg),wr (stA Wg)] /\
  (v=0->∃m,GW P ty Wg F (ARr P ty Wg bw) m g' (w.setCell (stA Wg) (.int .u64 ((v+1)*KK))))/\(v≠0->∃m,GW P ty Wg F (Rj P ty Wg bw) m g' (w.setCell (stA Wg) (.int .u64 ((v+1)*KK))))
def Rk (bw:Z->Y->Prop)(g:Z)(w:Y):Prop:=g.status=.running/\∃g',bl P F g w=.go g' w #[mk .disable]/\∃m,GW P ty Wg F (AA1 P ty Wg bw) m g' w
def QC (bw:Z->Y->Prop)(g:Z)(w:Y):Prop:=g.status=.running/\∃g',bl P F g w=.go g' w #[mk (.acquire (stA Wg))]/\∃m,GW P ty Wg F bw m g' w
def Rl (bw:Z->Y->Prop)(g:Z)(w:Y):Prop:=g.status=.running/\∃g',bl P F g w=.go g' w #[mk .enable]/\∃m,GW P ty Wg F (QC P ty Wg bw) m g' w
def W4 (bw:Z->Y->Prop)(g:Z)(w:Y):Prop:=g.status=.running/\(WgAt ty Wg w 0 0->∃g',bl P F g w=.go g' w #[rd (stA Wg)]/\∃m,GW P ty Wg F (Rl P ty Wg bw) m g' w)
def W3 (bw:Z->Y->Prop)(g:Z)(w:Y):Prop :=
 g.status=.running/\g.offers=b5/\((∃st,WgAt ty Wg w st 0)->bl P F g w=.go { g with status:=.blocked } w #[]) /\
  (WgAt ty Wg w 0 1->∃g',bl P F g w=.go g' (w.setCell (smA Wg) (.int .u32 0)) (semEvents (smA Wg))/\∃m,GW P ty Wg F (W4 P ty Wg bw) m g' (w.setCell (smA Wg) (.int .u32 0)))
def WRw (bw:Z->Y->Prop)(g:Z)(w:Y):Prop:=g.status=.running/\∃g',bl P F g w=.go g' w #[mk (.write (smA Wg))]/\∃m,GW P ty Wg F (W3 P ty Wg bw) m g' w
def W2 (G3 bw:Z->Y->Prop)(vs:Nat)(g:Z)(w:Y):Prop :=
 g.status=.running/\∀v:Nat,v<2147483648->WgAt ty Wg w (v*KK) 0 ->
  (v=vs->∃g',bl P F g w=.go g' (w.setCell (stA Wg) (.int .u64 (v*KK+1))) #[rd (stA Wg),wr (stA Wg)]/\∃m,GW P ty Wg F (WRw P ty Wg bw) m g' (w.setCell (stA Wg) (.int .u64 (v*KK+1)))) /\
  (v≠vs->∃g',bl P F g w=.go g' w #[rd (stA Wg)]/\∃m,GW P ty Wg F G3 m g' w)
def W1 (G3 bw:Z->Y->Prop)(g:Z)(w:Y):Prop :=
 g.status=.running/\∀v:Nat,v<2147483648->WgAt ty Wg w (v*KK) 0->∃g',bl P F g w=.go g' w #[rd (stA Wg)] /\
  (v=0->∃m,GW P ty Wg F (Rl P ty Wg bw) m g' w)/\(v≠0->∃m,GW P ty Wg F (W2 P ty Wg G3 bw v) m g' w)
def Rm (G3:Z->Y->Prop)(g:Z)(w:Y):Prop:=g.status=.running/\∃g',bl P F g w=.go g' w #[mk .disable]/\∃m,GW P ty Wg F G3 m g' w
end
structure Tr (Sh:Loc->Prop)(Wr Rd:Nat->Loc->Prop)(N:Nat)(Pd:Nat->Nat->Prop)(a:Addr)(t:dr):Prop where
 ti:TI Sh Wr Rd N t
 norel:NoRelease a t
 QD:∀i x,touchAt t i=S x->x.loc.isMemory=F->Knows t 0 i\/(Sh x.loc/\x.kind=.atomic)\/∃k,t.g? i=S k/\k≠0/\Pd k i
 ho:∀i k,t.g? i=S k->k≠0->t.counts i->(∃q,t.g? q=S 0/\cf t i q)\/Pd k i
section
variable {Sh:Loc->Prop} {Wr Rd Wr' Rd':Nat->Loc->Prop} {N k:Nat} {Pd Pd':Nat->Nat->Prop} {a:Addr} {t u:dr}
def yY {i:Nat}{op:MemOp}(h:t[i]?=S op):t.g? i=S op.g:=by simp[Trace.g?,h]
def Tr.app (h:Tr Sh Wr Rd N Pd a t)(aB:TI Sh Wr' Rd' N (t++u))(hg:∀op∈u,op.g=k)(aC:∀op∈u,op.act≠.mark (.release a))
  (a7:∀i,t.size<=i->(t++u).g? i=S k->k≠0->Pd k i\/((∀x,touchAt (t++u) i=S x->x.loc.isMemory=F->Sh x.loc/\x.kind=.atomic)/\¬(t++u).counts i)):Tr Sh Wr' Rd' N Pd a (t++u):=by
 refine⟨aB,h.norel.app aC,λi x hx hm=>?_,λi j hj zU hc=>?_⟩
 .obtain⟨op,hop,aD⟩:=ck hx;obtain⟨hi,a8⟩|⟨hi,a6⟩:=V hop
  .rcases h.QD i x (by rw[touchAt_of a8];exact aD) hm with h1|h1|⟨j,h1,h2⟩
   .exact .inl (h1.app u)
   .exact .inr (.inl h1)
   .exact .inr (.inr ⟨j,by rw[cK hi];exact h1,h2⟩)
  .have aA:(t++u).g? i=S k:=by rw[yY hop,hg op a6]
   by_cases h0:k=0
   .subst h0;have:=knows_own hop;rw[hg op a6] at this;exact .inl this
   .obtain h1|⟨h1,_⟩:=a7 i hi aA h0
    .exact .inr (.inr ⟨k,aA,h0,h1⟩)
    .exact .inr (.inl (h1 x hx hm))
 .obtain⟨op,hop,aF⟩:=Bj.1 hj;obtain⟨hi,a8⟩|⟨hi,a6⟩:=V hop
  .rcases h.ho i j (by rw[cK hi] at hj;exact hj) zU ((counts_old hi).1 hc) with⟨q,hq,hb⟩|h1
   .have aG : q < t.size := by
     obtain⟨z,hz,_⟩:=Bj.1 hq;exact bo hz
    exact .inl ⟨q,by rw[cK aG];exact hq,hb_app u hb⟩
   .exact .inr h1
  .have e:k=j:=(hg op a6).symm.trans aF;subst e;obtain h1|⟨_,h1⟩:=a7 i hi hj zU
   .exact .inr h1
   .exact AI hc h1
def Tr.PG (h:Tr Sh Wr Rd N Pd a t)(hp:∀k i,i<t.size->Pd k i->Pd' k i):Tr Sh Wr Rd N Pd' a t:=by
 refine⟨h.ti,h.norel,λi x hx hm=>?_,λi j hj zU hc=>?_⟩
 .obtain h1|h1|⟨k,h1,h2,h3⟩:=h.QD i x hx hm
  .exact .inl h1
  .exact .inr (.inl h1)
  .obtain⟨z,hz,_⟩:=Bj.1 h1;exact .inr (.inr ⟨k,h1,h2,hp k i (bo hz) h3⟩)
 .obtain h1|h1:=h.ho i j hj zU hc
  .exact .inl h1
  .obtain⟨z,hz,_⟩:=Bj.1 hj;exact .inr (hp j i (bo hz) h1)
def Tr.Mv (h:Tr Sh Wr Rd N Pd a t)(hw:∀k l,Wr' k l->Wr k l)(hr:∀k l,Rd' k l->Rd k l):Tr Sh Wr' Rd' N Pd a t:=⟨h.ti.mono hw hr,h.norel,h.QD,h.ho⟩
def Tr.fork (h:Tr Sh Wr Rd N Pd a t){x y:MemOp}(hN:0<N)(hx:x.g=0/\x.act=.go N)(hy:y.g=N/\y.act=.start)(h0:Deaf t 0=0)
  (others:∀j,j<N->∀l,(Wr' j l->Wr j l)/\(Rd' j l->Rd j l)) (child:∀l,(Wr' N l->Wr 0 l)/\(Rd' N l->Rd 0 l)):Tr Sh Wr' Rd' (N+1) Pd a (t++#[x,y]):=by
 have aA:∀op∈#[x,y],op.act.touch?=none:=by
  intro op hop;simp only[B8,AJ,AG,or_false] at hop;obtain rfl|rfl:=hop
  .rw[hx.2];rfl
  .rw[hy.2];rfl
 refine⟨h.ti.fork hN hx hy h0 others child,h.norel.app λop hop e=>?_,λi z hz hm=>?_,λi j hj zU hc=>?_⟩
 .simp only[B8,AJ,AG,or_false] at hop;obtain rfl|rfl:=hop
  .rw[hx.2] at e;cases e
  .rw[hy.2] at e;cases e
 .obtain⟨op,hop,a7⟩:=ck hz;obtain⟨hi,a8⟩|⟨_,a6⟩:=V hop
  .rcases h.QD i z (by rw[touchAt_of a8];exact a7) hm with h1|h1|⟨j,h1,h2⟩
   .exact .inl (h1.app _)
   .exact .inr (.inl h1)
   .exact .inr (.inr ⟨j,by rw[cK hi];exact h1,h2⟩)
  .rw[aA op a6] at a7;cases a7
 .obtain⟨op,hop,aC⟩:=Bj.1 hj;obtain⟨hi,a8⟩|⟨_,a6⟩:=V hop
  .rcases h.ho i j (by rw[cK hi] at hj;exact hj) zU ((counts_old hi).1 hc) with⟨q,hq,hb⟩|h1
   .have aB : q < t.size := by
     obtain⟨z,hz,_⟩:=Bj.1 hq;exact bo hz
    exact .inl ⟨q,by rw[cK aB];exact hq,hb_app _ hb⟩
   .exact .inr h1
  .obtain⟨z,hz,_⟩:=hc;rw[act?_of hop] at hz;rw[BF,aA op a6] at hz;cases hz
def Tr.past (h:Tr Sh Wr Rd N Pd a t){B q:Nat}(hq:t.act? q=S (.mark (.acquire a)))(hg:t.g? q=S 0)(hh:t.heard q)(hd:Deaf t 0=0)(hl:∀op∈t,op.act.low B)
  (hp:∀k i,t.g? i=S k->k≠0->Pd k i->∃r,RelBy a t k r/\r<q/\i<=r):Past Sh B t:=by
 have a6:∀k i,t.g? i=S k->k≠0->Pd k i->cf t i q:=by
  intro k i hk zU a7;obtain⟨r,hr,a8,hir⟩:=hp k i hk zU a7;have e1:cf t r q:=.single (.inr ⟨.marked a8 (.inr hr.act) hq (λk _ _=>h.norel k),hr.heard,hh⟩);obtain zY|aA:=Br i r
  .exact .trans (.single (.inl ⟨zY,k,hk,hr.g⟩)) e1
  .obtain rfl:i=r:=by omega
   exact e1
 obtain⟨z,hz,hzg⟩:=Bj.1 hg;refine⟨h.ti.nr,λi x hx hm=>?_,λi k hk zU hc=>?_,hd,hl⟩
 .obtain h1|h1|⟨k,h1,h2,h3⟩:=h.QD i x hx hm
  .exact .inl h1
  .exact .inr h1
  .exact .inl ⟨q,z,hz,hzg,.inr (a6 k i h1 h2 h3)⟩
 .obtain h1|h1:=h.ho i k hk zU hc
  .exact h1
  .exact⟨q,hg,a6 k i hk zU h1⟩
def DT {Shun:Loc->Prop}{B:Nat}(h:Past Shun B t)(aA:∀l,Sh l->Shun l\/∃b:Addr,l=.cell b/\B<=b.block)(a7:∀l,Shun l->Sh l)(hq:Quiet Sh t)(ha:B<=a.block)(hN:∀(i:Nat) (op:MemOp),t[i]?=S op->op.g<N)(hN0:0<N)
  (hw:∀k l,Wr k l->k=0/\l.isMemory=F/\¬Shun l) (hr:∀k l,Rd k l->k=0/\l.isMemory=F/\¬Shun l):Tr Sh Wr Rd N Pd a t:=by
 have kn:∀l,l.isMemory=F->¬Shun l->Perm t 0 l:=λl hm hs i x hx e=>(h.known i x hx (e▸hm)).elim id λa6=>AI (e▸a6.1) hs;refine⟨⟨hq,λk _ l hl=>?_,λk _ l hl=>?_,h.clean,hN⟩,λi e=>?_,λi x hx hm=>(h.known i x hx hm).imp id λa6=>.inl ⟨a7 _ a6.1,a6.2⟩,λi k hk zU hc=>.inl (h.over i k hk zU hc)⟩
 .obtain⟨rfl,h1,h2⟩:=hw k l hl;exact kn l h1 h2
 .obtain⟨rfl,h1,h2⟩:=hr k l hl;exact .of (kn l h1 h2)
 .obtain⟨op,hop,a8⟩:=Bj.1 e;have:=h.seen op (Bi hop);rw[a8] at this;exact AI this (Nat.not_lt.2 ha)
end
structure Lone where
 g:Z
 w:Y
 H:Hid
 β:Em
 T:List bc
structure H6 where
 at_:Nat->Prop
 w:Y
 bd:Nat
def inBlock (B:Nat):Loc->Prop
 |.cell a=>a.block=B
 |.obj r=>r=B
 |_=>False
def O1 (x:Lone)(l:Loc):Prop:=∃b B,x.β b B/\x.H b=I/\¬Ro x.w b/\inBlock B l
def O3 (x:Lone)(l:Loc):Prop:=∃b B,x.β b B/\x.H b=I/\inBlock B l
def MV (zO:Nat->Prop)(Wg:Nat)(l:Loc):Prop:=∃a:Addr,l=.cell a/\(zO a.block\/a.block=Wg)
section
variable (P:ED) (SB BB:bn->Bool) (zZ:Bool) (Gn:Nat)
abbrev Fp (x:Lone)(g:Z):Prop:=FX P SB x.H zZ BB x.T x.β x.g g
abbrev Gy (x:Lone)(W:Y):Prop:=EI (SP SB x.H) (CK P.a SB zZ) Gn x.β x.w W
abbrev Hu (x:Lone)(W:Y)(D6:Em)(w' W':Y)(ES:List cu):Prop:=Fin (SP SB x.H) (CK P.a SB zZ) Gn x.β D6 (on x.w W.tape W.drawn) W w' W' ES
structure Cw (Wg:Nat)(zO zN:Nat->Prop)(Kp:H6)(L:Nat->Option Lone)(own:Option Nat)(W:Y):Prop where
 like:∀i x,L i=S x->Gy P SB zZ Gn x W
 EZ:∀i x,L i=S x->x.H.EZ=I
 MW:∀i x,L i=S x->∀b,x.β b Wg->x.H b=F
 dead:∀i x,L i=S x->∀b B,x.β b B->¬zO B
 I3:∀i x,L i=S x->own≠S i->∀b B,x.β b B->zN B->x.H b=F
 sep:∀i j x y,i≠j->L i=S x->L j=S y->Sep (SP SB x.H) x.β x.w (SP SB y.H) y.β y.w
 low:Wg<W.heap.size/\(∀B,zO B->B<W.heap.size)/\∀B,zN B->B<W.heap.size
 I4:∀B,zN B->B≠Wg/\¬zO B
 keep:∀B,Kp.at_ B->B<W.heap.size/\B≠Wg/\W.heap[B]?=Kp.w.heap[B]?
 FI:∀i x,L i=S x->∀b B,x.β b B->Kp.at_ B->x.H b=F\/Ro x.w b
 Lz:∀B,zN B->¬Kp.at_ B
 N0:W.os=Kp.w.os/\W.output=Kp.w.output
def put (L:Nat->Option Lone)(i:Nat)(x:Option Lone):Nat->Option Lone:=λj=>if j=i then x else L j
end
def Ex (L:Nat->Option Lone)(i:Nat)(x:Option Lone):put L i x i=x:=by simp[put]
def EC (L:Nat->Option Lone){i j:Nat}(x:Option Lone)(h:j≠i):put L i x j=L j:=by simp[put,h]
section
variable {P:ED} {SB BB:bn->Bool} {zZ:Bool} {Gn:Nat} {Wg:Nat} {zO zN:Nat->Prop} {Kp:H6} {L:Nat->Option Lone} {own:Option Nat} {W W':Y} {i:Nat} {x:Lone} {D6:Em} {w':Y} {ES:List cu}
def Cw.same (c:Cw P SB zZ Gn Wg zO zN Kp L own W)(hi:L i=S x)(f:Hu P SB zZ Gn x W D6 w' W' ES){B:Nat}(hB:B<W.heap.size)(h:∀b,x.β b B->x.H b=F):W'.heap[B]?=W.heap[B]?:=by
 by_cases hx:∃b,x.β b B
 .obtain⟨b,hb⟩:=hx;exact f.hk b B hb (h b hb)
 .exact f.KEPT B hB λb hb=>hx ⟨b,hb⟩
def Cw.step (c:Cw P SB zZ Gn Wg zO zN Kp L own W)(hi:L i=S x)(f:Hu P SB zZ Gn x W D6 w' W' ES)(g':Z) :
  Cw P SB zZ Gn Wg zO zN Kp (put L i (S ⟨g',w',x.H,D6,x.T⟩)) own W':=by
 have hx:=c.like i x hi;have a6:EI (SP SB x.H) (CK P.a SB zZ) Gn x.β (on x.w W.tape W.drawn) W:=hx.same rfl rfl hx.env;have old:∀b B,D6 b B->B<W.heap.size->x.β b B:=λb B hb hB=>(f.new b B hb).elim id λh=>AI h.2 (Nat.not_le.2 hB);refine⟨λj y hj=>?_,λj y hj=>?_,λj y hj=>?_,λj y hj=>?_,λj y hj=>?_,λj k y z hjk hj hk=>?_,⟨AC c.low.1 f.SIZE,λB hB=>AC (c.low.2.1 B hB) f.SIZE,λB hB=>AC (c.low.2.2 B hB) f.SIZE⟩,c.I4,λB hB=>?_,λj y hj=>?_,c.Lz,f.OS.trans c.N0.1,f.OUT.trans c.N0.2⟩
 .by_cases e:j=i
  .subst e;rw[Ex] at hj;cases hj;exact f.rel
  .rw[EC L _ e] at hj;exact(c.like j y hj).others (c.EZ j y hj) a6 f (c.sep i j x y (b9 e) hi hj)
 .by_cases e:j=i
  .subst e;rw[Ex] at hj;cases hj;exact c.EZ j x hi
  .rw[EC L _ e] at hj;exact c.EZ j y hj
 .by_cases e:j=i
  .subst e;rw[Ex] at hj;cases hj;exact λb hb=>c.MW j x hi b (old b Wg hb c.low.1)
  .rw[EC L _ e] at hj;exact c.MW j y hj
 .by_cases e:j=i
  .subst e;rw[Ex] at hj;cases hj;exact λb B hb hd=>c.dead j x hi b B (old b B hb (c.low.2.1 B hd)) hd
  .rw[EC L _ e] at hj;exact c.dead j y hj
 .by_cases e:j=i
  .subst e;rw[Ex] at hj;cases hj;exact λho b B hb ht=>c.I3 j x hi ho b B (old b B hb (c.low.2.2 B ht)) ht
  .rw[EC L _ e] at hj;exact c.I3 j y hj
 .by_cases e:j=i
  .subst e;rw[Ex] at hj;cases hj;rw[EC L _ (b9 hjk)] at hk;exact Sep.kept (c.like k z hk) f (c.sep j k x z hjk hi hk)
  .rw[EC L _ e] at hj;by_cases e':k=i
   .subst e';rw[Ex] at hk;cases hk;exact(Sep.kept (c.like j y hj) f (c.sep k j x y (b9 hjk) hi hj)).symm
   .rw[EC L _ e'] at hk;exact c.sep j k y z hjk hj hk
 .obtain⟨k1,k2,k3⟩:=c.keep B hB;refine⟨AC k1 f.SIZE,k2,?_⟩;rw[<-k3];by_cases hx:∃b,x.β b B
  .obtain⟨b,hb⟩:=hx;obtain h|⟨cs,ty,z,q1,q2⟩:=c.FI i x hi b B hb hB
   .exact f.hk b B hb h
   .exact(f.ro b B cs ty z hb q1 q2).2
  .exact f.KEPT B k1 λb hb=>hx ⟨b,hb⟩
 .by_cases e:j=i
  .subst e;rw[Ex] at hj;cases hj;intro b B hb hB;have h0:=old b B hb (c.keep B hB).1;exact(c.FI j x hi b B h0 hB).imp id λh=>h.kept f h0
  .rw[EC L _ e] at hj;exact c.FI j y hj
def Cw.group (c:Cw P SB zZ Gn Wg zO zN Kp L own W)(h:Aside Wg W W')(hw:∃c t f,W'.heap[Wg]?=S (.cells c t f)):Cw P SB zZ Gn Wg zO zN Kp L own W':=by
 refine⟨λj y hj=>?_,c.EZ,c.MW,c.dead,c.I3,c.sep,by rw[h.size];exact c.low,c.I4,λB hB=>⟨by rw[h.size];exact(c.keep B hB).1,(c.keep B hB).2.1,(h.block B (c.keep B hB).2.1).trans (c.keep B hB).2.2⟩,c.FI,c.Lz,h.os.trans c.N0.1,h.output.trans c.N0.2⟩;have k:=c.like j y hj;refine⟨k.Fv,by rw[h.size];exact k.room,λb B hb hh=>?_,λb B hb hh=>?_,k.old,by rw[h.os];exact k.env⟩
 .have zU : B ≠ Wg := fun e => by
   have:=c.MW j y hj b (e▸hb);have a7:y.H b=false:=hh;rw[a7] at this;cases this
  rw[h.block B zU];exact k.FJ b B hb hh
 .obtain⟨h1,h2,h3⟩:=k.FV b B hb hh;refine⟨h1,λht=>?_,λht=>?_⟩
  .by_cases e:B=Wg
   .rw[e];exact hw
   .rw[h.block B e];exact h2 ht
  .have:=c.EZ j y hj;have a6:y.H.EZ=true:=ht;rw[this] at a6;cases a6
def Cw.drop (c:Cw P SB zZ Gn Wg zO zN Kp L own W)(i:Nat):Cw P SB zZ Gn Wg zO zN Kp (put L i b5) own W:=by
 have get:∀ {j y},put L i b5 j=S y->L j=S y:=λ{j y} h=>by
  by_cases e:j=i
  .subst e;rw[Ex] at h;cases h
  .rwa [EC L _ e] at h
 exact⟨λj y hj=>c.like j y (get hj),λj y hj=>c.EZ j y (get hj),λj y hj=>c.MW j y (get hj),λj y hj=>c.dead j y (get hj),λj y hj=>c.I3 j y (get hj),λj k y z zU hj hk=>c.sep j k y z zU (get hj) (get hk),c.low,c.I4,c.keep,λj y hj=>c.FI j y (get hj),c.Lz,c.N0⟩
def Cw.at (c:Cw P SB zZ Gn Wg zO zN Kp L own W)(d:Nat):Cw P SB zZ Gn Wg zO zN Kp L own (W.at d) :=
 ⟨λj y hj=>(c.like j y hj).same rfl rfl (c.like j y hj).env,c.EZ,c.MW,c.dead,c.I3,c.sep,c.low,c.I4,c.keep,c.FI,c.Lz,c.N0⟩
def NP (zN:Nat->Prop)(L:Nat->Option Lone)(tp:Bool)(j:Nat)(l:Loc):Prop:=(∃x,L j=S x/\O1 x l)\/(j=0/\tp=F/\∃B,zN B/\inBlock B l)
def Lm (zN:Nat->Prop)(L:Nat->Option Lone)(tp:Bool)(j:Nat)(l:Loc):Prop:=(∃x,L j=S x/\O3 x l)\/(j=0/\tp=F/\∃B,zN B/\inBlock B l)
def Hv {B:Nat}{l:Loc}(h:inBlock B l):l.isMemory=true:=by cases l<;>first|rfl|exact h.elim
def IQ {B B':Nat}{l:Loc}(h:inBlock B l)(h':inBlock B' l):B=B':=by
 cases l<;>first|exact h.symm.trans h'|exact h.elim
def gt {zN:Nat->Prop}{L:Nat->Option Lone}{tp:Bool}{j:Nat}{l:Loc}(h:NP zN L tp j l):Lm zN L tp j l:=by
 obtain⟨x,h1,b,B,h2,h3,_,h4⟩|h:=h
 .exact .inl ⟨x,h1,b,B,h2,h3,h4⟩
 .exact .inr h
def Cw.apart {tp:Bool}(c:Cw P SB zZ Gn Wg zO zN Kp L own W)(ht:tp=F->own=b5){j k:Nat}(hjk:j≠k)(l:Loc):NP zN L tp j l->¬Lm zN L tp k l:=by
 rintro(⟨x,hx,b,B,h1,h2,h3,h4⟩|⟨rfl,h0,B,h1,h4⟩) (⟨y,hy,b',B',k1,k2,k4⟩|⟨rfl,k0,B',k1,k4⟩)
 .obtain rfl:=IQ h4 k4;obtain h|h|⟨h,_⟩:=c.sep j k x y hjk hx hy b b' B h1 k1
  .have h':x.H b=true:=h;rw[h2] at h';cases h'
  .have h':y.H b'=true:=h;rw[k2] at h';cases h'
  .exact h3 h
 .obtain rfl:=IQ h4 k4;have:=c.I3 j x hx (by rw[ht k0];simp) b B h1 k1;rw[h2] at this;cases this
 .obtain rfl:=IQ h4 k4;have:=c.I3 k y hy (by rw[ht h0];simp) b' B k1 h1;rw[k2] at this;cases this
 .exact hjk rfl
def Cw.KI {tp:Bool}(c:Cw P SB zZ Gn Wg zO zN Kp L own W){j:Nat}{l:Loc}(h:Lm zN L tp j l):¬MV zO Wg l:=by
 rintro⟨a,rfl,hs⟩;obtain⟨x,hx,b,B,h1,h2,h4⟩|⟨_,_,B,h1,h4⟩:=h
 .have e:a.block=B:=h4;obtain hs|hs:=hs
  .exact c.dead j x hx b B h1 (e▸hs)
  .have:=c.MW j x hx b (by rw[<-hs,e];exact h1);rw[h2] at this;cases this
 .have e:a.block=B:=h4;obtain⟨t1,t2⟩:=c.I4 B h1;obtain hs|hs:=hs
  .exact t2 (e▸hs)
  .exact t1 (e.symm.trans hs)
def Cw.QE {tp:Bool}{k:Nat}{x':Lone}(c:Cw P SB zZ Gn Wg zO zN Kp L own W)(hk:L k=S x')(he:∀E∈ES,Qd x'.β x'.w E){fn:bn}{pos:String} :
  ∀op∈J k fn pos ES.toArray,OkOp (MV zO Wg) (NP zN L tp) (Lm zN L tp) k op:=by
 intro op hop;obtain⟨e,a7,rfl⟩:=ak hop;refine⟨rfl,λt ht=>?_⟩;have hE:=he e (by simpa using a7);have a6:∀b B,x'.β b B->(∃n,(x'.w.heap[b]?).map Fw=S n/\n≠1)->x'.H b=false:=by
  intro b B hb ⟨n,hn,h1⟩;cases hh:x'.H b with
  |false=>rfl
  |true =>
   rw[((c.like k x' hk).FV b B hb hh).1] at hn;simp[Fw] at hn;exact AI hn.symm h1
 cases hE with
 |@cell a A wr sy hb ho hn hw =>
  have hh:=a6 _ _ hb (let ⟨n,h1,_⟩:=hn;⟨_,h1,by omega⟩);have hr:Lm zN L tp k (.cell A):=.inl ⟨x',hk,a.block,A.block,hb,hh,rfl⟩;have hl:t.loc=.cell A/\t.write=wr:=by
   simp[U,bb] at ht;subst ht;exact⟨rfl,rfl⟩
  rw[hl.1];refine .inr (.inr ⟨c.KI hr,λhwr=>.inl ⟨x',hk,a.block,A.block,hb,hh,?_,rfl⟩,λ_=>hr⟩);rintro⟨cs,ty,f,hc,hf⟩;obtain⟨n,h1,h2⟩:=hn;rw[hc] at h1;simp[Fw] at h1;have h0:=hw (by rw[<-hl.2];exact hwr);rw[bi,hc] at h0;obtain⟨p,q⟩:=hf a.off (by omega);simp[Qw,p,q] at h0
 |@obj r R wr sy hb hn =>
  have hh:=a6 _ _ hb ⟨2,hn,by decide⟩;have hr:Lm zN L tp k (.obj R):=.inl ⟨x',hk,r,R,hb,hh,rfl⟩;have hl:t.loc=.obj R:=by
   cases wr<;>cases sy<;>simp[U,bb] at ht<;>subst ht<;>rfl
  rw[hl];refine .inr (.inr ⟨c.KI hr,λ_=>.inl ⟨x',hk,r,R,hb,hh,?_,rfl⟩,λ_=>hr⟩);rintro⟨cs,ty,f,hc,_⟩;rw[hc] at hn;simp[Fw] at hn
 |mark hm=>cases hm<;>simp[U,bb] at ht
 |out=>simp[U,bb] at ht;subst ht;exact .inl rfl
def Cw.N7 {tp:Bool}{N:Nat}{t:dr}(c:Cw P SB zZ Gn Wg zO zN Kp L own W)(hi:L i=S x)(f:Hu P SB zZ Gn x W D6 w' W' ES)(g':Z)(ht:tp=F->own=b5)(hN:i<N)
  (h:TI (MV zO Wg) (NP zN L tp) (Lm zN L tp) N t) (a7:∀op∈t,op.act.low W.heap.size) {fn:bn} {pos:String} :
  TI (MV zO Wg) (NP zN (put L i (S ⟨g',w',x.H,D6,x.T⟩)) tp) (Lm zN (put L i (S ⟨g',w',x.H,D6,x.T⟩)) tp) N (t++J i fn pos ES.toArray):=by
 have c':=c.step hi f g';have fresh:∀B l,W.heap.size<=B->inBlock B l->il t l:=by
  intro B l hB hl j a ha e;obtain⟨op,hop,a8⟩:=ck ha;have a6:=a7 op (Bi hop);rw[<-e] at hl;have key:∀(act:MemAct) (a:Touch),act.touch?=S a->act.low W.heap.size->inBlock B a.loc->False:=by
   intro act a ha a6 hl;cases act with
   |access ev =>
    simp only[bb,Option.some.injEq] at ha;subst ha;obtain⟨loc,wr,sy⟩:=ev;cases loc<;>first|exact hl.elim|(simp only[inBlock] at hl;simp only[bh,Loc.low] at a6;omega)
   |mark m =>
    cases m<;>simp[bb] at ha
    all_goals
     subst ha;simp only[inBlock] at hl;simp only[bh] at a6;omega
   |_=>simp[bb] at ha
  exact key op.act a a8 a6 hl
 refine h.app hN (c'.QE (Ex L i _) (λE hE=>f.evs (c.EZ i x hi) E hE)) (λj hj l=>?_) (λl hl=>?_) (λl hl=>?_) (λj l hs=>?_) (λl hl=>?_) (λj hj _ l=>?_)
 .unfold NP Lm;rw[EC L _ hj];exact⟨id,id⟩
 .obtain⟨y,hy,b,B,h1,h2,h3,h4⟩|⟨h1,h2,h3⟩:=hl
  .rw[Ex] at hy;cases hy;obtain h0|⟨_,h0⟩:=f.new b B h1
   .exact .inl (.inl ⟨x,hi,b,B,h0,h2,λhr=>h3 (hr.kept f h0),h4⟩)
   .exact .inr (fresh B l h0 h4)
  .exact .inl (.inr ⟨h1,h2,h3⟩)
 .obtain⟨y,hy,b,B,h1,h2,h4⟩|⟨h1,h2,h3⟩:=hl
  .rw[Ex] at hy;cases hy;obtain h0|⟨_,h0⟩:=f.new b B h1
   .exact .inl (.inl ⟨x,hi,b,B,h0,h2,h4⟩)
   .exact .inr (fresh B l h0 h4)
  .exact .inl (.inr ⟨h1,h2,h3⟩)
 .exact⟨λhw=>c'.KI (gt hw) hs,λhr=>c'.KI hr hs⟩
 .obtain⟨a,rfl,_⟩|⟨j,hl⟩:=hl
  .rfl
  .have hr:Lm zN (put L i (S ⟨g',w',x.H,D6,x.T⟩)) tp j l:=hl.elim gt id;rcases hr with⟨y,_,b,B,_,_,h4⟩|⟨_,_,B,_,h4⟩<;>exact Hv h4
 .exact⟨λhw=>⟨c'.apart ht (b9 hj) l hw,λhw'=>c'.apart ht (b9 hj) l hw (gt hw')⟩,λhr hw'=>c'.apart ht hj l hw' hr⟩
def eD (f:Hu P SB zZ Gn x W D6 w' W' ES)(ht:x.H.EZ=I){k:Nat}{fn:bn}{pos:String}:∀op∈J k fn pos ES.toArray,op.act.low W'.heap.size:=by
 intro op hop;obtain⟨e,a6,rfl⟩:=ak hop;have hE:=f.evs ht e (by simpa using a6);cases hE with
 |@cell a A wr sy hb _ _ _ =>
  have:=(f.rel.lt hb).2;show bh _ (U ⟨.cell A,wr,sy⟩);simpa [U,bh,Loc.low] using this
 |@obj r R wr sy hb _ =>
  have:=(f.rel.lt hb).2;show bh _ (U ⟨.obj R,wr,sy⟩);cases wr<;>cases sy<;>simpa [U,bh,Loc.low] using this
 |mark hm=>cases hm<;>simp[U,bh]
 |out=>simp[U,bh,Loc.low]
def cP (f:Hu P SB zZ Gn x W D6 w' W' ES)(ht:x.H.EZ=I):∀e∈ES.toArray,e.loc≠.mark .disable/\e.loc≠.mark .enable/\∀a,e.loc≠.mark (.release a):=by
 intro e a6;have hE:=f.evs ht e (by simpa using a6);cases hE with
 |mark hm=>cases hm<;>simp
 |_=>simp
end
open Go.ConcR (KK WgAt stA smA rd wr mk DC0 Bk g_of_ofEvents bk_of_mute ofEvent_loc_mark ofEvent_cell ofEvent_mk)
inductive Wm where
 |born (Q:Z->Y->Prop) (y:Z×Y)
 |tree (Q:Z->Y->Prop) (y:Z×Y)
 |st (s m:Nat)
inductive LB (p:bq):Wm->Wm->Prop
 |tree {Q:Z->Y->Prop} {x y:Z×Y}:¬Q y.1 y.2->After p x y->LB p (.tree Q x) (.tree Q y)
 |off {s m:Nat} {Q:Z->Y->Prop} {y:Z×Y}:LB p (.st s m) (.tree Q y)
 |un {Q:Z->Y->Prop} {y:Z×Y}:LB p (.tree Q y) (.born Q y)
 |Rn {s m:Nat} {Q:Z->Y->Prop} {y:Z×Y}:LB p (.st s m) (.born Q y)
 |stage {s m s' m':Nat}:s<s'->LB p (.st s m) (.st s' m')
 |fuel {s m m':Nat}:m<m'->LB p (.st s m) (.st s m')
def Dt (p:bq):∀s m,Acc (LB p) (.st s m):=by
 intro s
 induction s using Nat.strongRecOn with
 |_ s ihs =>
  intro m
  induction m using Nat.strongRecOn with
  |_ m ihm =>
   refine .intro _ λy h=>?_;cases h with
   |stage h=>exact ihs _ h _
   |fuel h=>exact ihm _ h
def Dr {p:bq}{BB:bn->Bool}{Q:Z->Y->Prop}{d:Nat}{g:Z}{w:Y}(h:EO p BB Q d g w):Acc (LB p) (.tree Q (g,w)):=by
 induction h with
 |fin h =>
  refine .intro _ λz hz=>?_;cases hz with
  |tree hn _=>exact AI h hn
  |off=>exact Dt p _ _
 |next ng nw h1 h2 _ ih =>
  refine .intro _ λz hz=>?_;cases hz with
  |@tree _ x _ _ ha =>
   obtain⟨g',w'⟩:=x;obtain⟨τ,d,es,e,_⟩:=ha;obtain⟨⟨es',e'⟩,_⟩:=h2 τ d;rw[e] at e';cases e';exact ih τ d
  |off=>exact Dt p _ _
 |spec h1 h2 h3 h4 h5 h6 _ ih =>
  refine .intro _ λz hz=>?_;cases hz with
  |@tree _ x _ _ ha =>
   obtain⟨g',w'⟩:=x;obtain⟨τ,n,es,e,_⟩:=ha;dsimp only at e;rw[(h6.same Di).step h3 h4 h5] at e;cases e;exact ih τ n
  |off=>exact Dt p _ _
def DJ {p:bq}{BB:bn->Bool}{Q:Z->Y->Prop}{d:Nat}{g:Z}{w:Y}(h:EO p BB Q d g w):Acc (LB p) (.born Q (g,w)):=by
 refine .intro _ λz hz=>?_;cases hz with
 |un=>exact Dr h
 |Rn=>exact Dt p _ _
section
variable (P:ED) (SB BB:bn->Bool) (zZ:Bool) (Gn:Nat) (ty Wg:Nat) (Ψ2:Y->Prop)
def cQ (Q:Z->Y->Prop)(H:Hid)(T:List bc)(wl:Em)(o:Bool):Prop :=
 ∀(x:Lone) (g:Z) (W:Y),x.H=H->x.T=T->wl.le x.β->Q x.g x.w->Fp P SB BB zZ x g->Gy P SB zZ Gn x W->cF ty Wg W ->
  (∃m,GW P.b ty Wg I (R0 P.b ty Wg) m g W)/\(o=F->Ψ2 W)
def mp (x:Lone)(child:Z):Prop:=child.status=.running/\∃G1,(∀W,bl P.b I child W=.go G1 W #[])/\Fp P SB BB zZ x G1
inductive GG:Nat->Nat->Wm->Option Lone->Bool->Z->Y->Prop
 | born {x : Lone} {wl : Em} {Q : Z -> Y -> Prop} {o : Bool} {g : Z} {W : Y} : wl.le x.β -> cQ P SB BB zZ Gn ty Wg Ψ2 Q x.H x.T wl o -> (∀ g w, Q g w -> BB g.frame.fn = I) -> EO P.a BB Q 0 x.g x.w -> mp P SB BB zZ x g ->
   GG 7 0 (.born Q (x.g,x.w)) (S x) o g W
 | tree {x : Lone} {wl : Em} {Q : Z -> Y -> Prop} {o : Bool} {d : Nat} {g : Z} {W : Y} : wl.le x.β -> cQ P SB BB zZ Gn ty Wg Ψ2 Q x.H x.T wl o -> (∀ g w, Q g w -> BB g.frame.fn = I) -> EO P.a BB Q d x.g x.w -> Fp P SB BB zZ x g ->
   GG 7 d (.tree Q (x.g,x.w)) (S x) o g W
 |r0 {m:Nat} {g:Z} {W:Y}:GW P.b ty Wg I (R0 P.b ty Wg) m g W->GG 7 0 (.st 7 m) b5 I g W
 |k1 {m:Nat} {g:Z} {W:Y}:GW P.b ty Wg I (K1 P.b ty Wg) m g W->GG 6 0 (.st 6 m) b5 I g W
 |d1 {m:Nat} {g:Z} {W:Y}:GW P.b ty Wg I (D1 P.b ty Wg) m g W->GG 5 1 (.st 5 m) b5 I g W
 |d2 {m:Nat} {g:Z} {W:Y}:GW P.b ty Wg I (D2 P.b ty Wg) m g W->GG 4 1 (.st 4 m) b5 I g W
 |d3 {m:Nat} {g:Z} {W:Y}:GW P.b ty Wg I (D3 P.b ty Wg) m g W->GG 3 1 (.st 3 m) b5 I g W
 |d4 {m:Nat} {g:Z} {W:Y}:GW P.b ty Wg I (AtD4 P.b ty Wg) m g W->GG 2 1 (.st 2 m) b5 I g W
 |quit {q d:Nat} {g:Z} {W:Y}:QuitsD P.b q d g->GG 1 d (.st 1 q) b5 I g W
end
section
variable {P:ED} {SB BB:bn->Bool} {zZ:Bool} {Gn:Nat} {ty Wg:Nat} {Ψ2:Y->Prop} {s d:Nat} {m:Wm} {x:Option Lone} {o:Bool} {g:Z} {W W':Y}
def GG.rely (h:GG P SB BB zZ Gn ty Wg Ψ2 s d m x o g W)(r:RL ty Wg W W'):GG P SB BB zZ Gn ty Wg Ψ2 s d m x o g W':=by
 cases h with
 |born a b z c e=>exact .born a b z c e
 |tree a b z c e=>exact .tree a b z c e
 |r0 h=>exact .r0 (Goes.rely RL.trans h r)
 |k1 h=>exact .k1 (Goes.rely RL.trans h r)
 |d1 h=>exact .d1 (Goes.rely RL.trans h r)
 |d2 h=>exact .d2 (Goes.rely RL.trans h r)
 |d3 h=>exact .d3 (Goes.rely RL.trans h r)
 |d4 h=>exact .d4 (Goes.rely RL.trans h r)
 |quit h=>exact .quit h
def GG.status (h:GG P SB BB zZ Gn ty Wg Ψ2 s d m x o g W):g.status=.running\/(g.status=.finished/\s=1):=by
 cases h with
 |born _ _ _ _ e=>exact .inl e.1
 |tree _ _ _ _ e=>exact .inl e.status.2
 |r0 h=>exact .inl (Goes.running (λ_ _ x=>x.1) W (RL.refl W) h)
 |k1 h=>exact .inl (Goes.running (λ_ _ x=>x.1) W (RL.refl W) h)
 |d1 h=>exact .inl (Goes.running (λ_ _ x=>x.1) W (RL.refl W) h)
 |d2 h=>exact .inl (Goes.running (λ_ _ x=>x.1) W (RL.refl W) h)
 |d3 h=>exact .inl (Goes.running (λ_ _ x=>x.1) W (RL.refl W) h)
 |d4 h=>exact .inl (Goes.running (λ_ _ x=>x.1) W (RL.refl W) h)
 |quit h=>exact h.status.imp id λe=>⟨e,rfl⟩
def GG.acc (h:GG P SB BB zZ Gn ty Wg Ψ2 s d m x o g W):Acc (LB P.a) m:=by
 cases h with
 |born _ _ _ h _=>exact DJ h
 |tree _ _ _ h _=>exact Dr h
 |_=>exact Dt _ _ _
def GG.PH (h:GG P SB BB zZ Gn ty Wg Ψ2 s d m x o g W):s<=6\/s=7:=by
 cases h<;>omega
def GG.woken (h:GG P SB BB zZ Gn ty Wg Ψ2 s d m x o g W)(a a':Z)(w':Y):woken P.b a a' w' g=g:=by
 unfold Go.Conc.woken;split
 .exact again_running _ (h.status.imp id (·.1))
 .rfl
end
inductive TS where
 |start|at_ (k:Nat)|done
def TS.own:TS->Option Nat
 |.at_ k=>S k
 |_=>b5
def TS.tp:TS->Bool
 |.start=>F
 |_=>I
def Dx {ts:TS}(h:ts.tp=F):ts.own=none:=by cases ts<;>first|rfl|cases h
def PI (j0 j:Nat)(D:Nat->WD)(rr:Nat->Nat)(k i:Nat):Prop:=∃a,k=a+1/\j0<=a/\a<j/\((D a).stage=7\/i<=rr a)
section
variable (P:ED) (SB BB:bn->Bool) (zZ:Bool) (Gn:Nat) (ty Wg:Nat) (zO zN:Nat->Prop) (Kp:H6) (Ψ0 Ψ2:Y->Prop)
structure WI (j0 j:Nat)(gs:Array Z)(W:Y)(t:dr)(D:Nat->WD)(M:Nat->Wm)(O:Nat->Bool)(L:Nat->Option Lone)(ts:TS)(rr:Nat->Nat)(st sm:Int):Prop where
 size:gs.size=j+1
 wk:∀i,i<j->∃g,gs[i+1]?=S g/\GG P SB BB zZ Gn ty Wg Ψ2 (D i).stage (D i).deaf (M i) (L (i+1)) (O i) g W
 cw:Cw P SB zZ Gn Wg zO zN Kp L ts.own W
 tr:Tr (MV zO Wg) (NP zN L ts.tp) (Lm zN L ts.tp) (j+1) (PI j0 j D rr) (stA Wg) t
 low:∀op∈t,op.act.low W.heap.size
 deafW:∀i,i<j->Deaf t (i+1)=(D i).deaf
 rel:∀i,j0<=i->i<j->(D i).stage<=6->RelBy (stA Wg) t (i+1) (rr i)
 wg:WgAt ty Wg W st sm
 Km:∀i,i<j->O i=F->ts=.at_ (i+1)
 K8:∀k,ts=.at_ k->∃i,i<j/\k=i+1/\O i=F
 G6:(ts=.start->Ψ0 W)/\(ts=.done->Ψ2 W)
 out:∀i,j<i->L i=b5
 old:∀i,i<j0->(D i).stage=1
 jj:j0<=j
def ax (zN:Nat->Prop)(Ψ:Y->Prop):Prop:=∀W W':Y,(∀B,zN B->W'.heap[B]?=W.heap[B]?)->Ψ W->Ψ W'
end
section
variable {P:ED} {SB BB:bn->Bool} {zZ:Bool} {Gn:Nat} {ty Wg:Nat} {zO zN:Nat->Prop} {Kp:H6} {Ψ0 Ψ2:Y->Prop}
 {j0 j:Nat} {gs:Array Z} {W W':Y} {t:dr} {D:Nat->WD} {M:Nat->Wm} {O:Nat->Bool} {L:Nat->Option Lone} {ts ts':TS} {rr:Nat->Nat} {st sm I8 JB:Int}
def WI.live (h:WI P SB BB zZ Gn ty Wg zO zN Kp Ψ0 Ψ2 j0 j gs W t D M O L ts rr st sm):cF ty Wg W:=⟨_,_,h.wg⟩
def WI.next (h:WI P SB BB zZ Gn ty Wg zO zN Kp Ψ0 Ψ2 j0 j gs W t D M O L ts rr st sm){i:Nat}(hi:i<j){g g':Z}{fn:bn}{pos:String}{es:Array cu}{s' dd':Nat}{m':Wm}{x':Option Lone}{o':Bool}{r':Nat}
  (hk:GG P SB BB zZ Gn ty Wg Ψ2 s' dd' m' x' o' g' W') (aC:WgAt ty Wg W' I8 JB) (zP:Cw P SB zZ Gn Wg zO zN Kp (put L (i+1) x') ts'.own W')
  (aG:TI (MV zO Wg) (NP zN (put L (i+1) x') ts'.tp) (Lm zN (put L (i+1) x') ts'.tp) (j+1) (t++J (i+1) fn pos es))
  (aH:∀e∈es,∀a,e.loc≠.mark (.release a))
  (zG:s'<=(D i).stage) (hold:i<j0->s'=1)
  (a6:s'=7\/(∀i',i'<t.size->(D i).stage=7->i'<=r')/\((D i).stage<=6->r'=rr i)/\∀i',t.size<=i'->(t++J (i+1) fn pos es).g? i'=S (i+1)->i'<=r'/\j0<=i\/((∀x,touchAt (t++J (i+1) fn pos es) i'=S x->x.loc.isMemory=F->MV zO Wg x.loc/\x.kind=.atomic)/\¬(t++J (i+1) fn pos es).counts i'))
  (h7:s'=7->j0<=i/\(D i).stage=7)
  (aF:∀op∈J (i+1) fn pos es,op.act.low W'.heap.size) (zx:W.heap.size<=W'.heap.size)
  (aA:cL (D i).deaf es=dd')
  (hrel:j0<=i->s'<=6->RelBy (stA Wg) (t++J (i+1) fn pos es) (i+1) r')
  (o1:o'=F->ts'=.at_ (i+1)) (o2:ts'=ts/\o'=O i\/(ts=.at_ (i+1)/\ts'=.done/\o'=I)) (aB:(ts'=.start->Ψ0 W')/\(ts'=.done->Ψ2 W')) :
  WI P SB BB zZ Gn ty Wg zO zN Kp Ψ0 Ψ2 j0 j ((gs.map (woken P.b g g' W')).setIfInBounds (i+1) g') W' (t++J (i+1) fn pos es) (upd D i ⟨s',0,dd'⟩) (upd M i m') (upd O i o') (put L (i+1) x') ts' (upd rr i r') I8 JB:=by
 have a7:∀op∈J (i+1) fn pos es,op.g=i+1:=g_of_ofEvents;have pd0:∀k a,a<t.size->PI j0 j D rr k a->PI j0 j (upd D i ⟨s',0,dd'⟩) (upd rr i r') k a:=by
  rintro k a ha ⟨b,rfl,hb0,aD,hb⟩;refine⟨b,rfl,hb0,aD,?_⟩;by_cases e:b=i
  .subst e;rw[bk,bk];obtain h1|⟨h1,h2,_⟩:=a6
   .exact .inl h1
   .obtain hb'|hb':=hb
    .exact .inr (h1 a ha hb')
    .by_cases h6:(D b).stage<=6
     .rw[h2 h6];exact .inr hb'
     .have : (D b).stage = 7 := by
       obtain⟨_,_,hs⟩:=h.wk b aD;exact hs.PH.resolve_left h6
      exact .inr (h1 a ha this)
  .rw[bW D _ e,bW rr _ e];exact hb
 refine⟨by simp[h.size],λa ha=>?_,zP,?_,λop hop=>?_,λa ha=>?_,λa h0 ha hs=>?_,aC,λa ha ho=>?_,λk a8=>?_,aB,λa ha=>?_,λa ha=>?_,h.jj⟩
 .by_cases e:a=i
  .subst e;exact⟨g',get_map_set_same _ _ _ (by rw[h.size];omega),by rw[bk,bk,bk,Ex];exact hk⟩
  .obtain⟨y,hy,hs⟩:=h.wk a ha;refine⟨y,by rw[get_map_set _ _ _ _ (by omega),hy,BW,hs.woken],?_⟩;rw[bW D _ e,bW M _ e,bW O _ e,EC L _ (by omega)];exact hs.rely λ_=>⟨_,_,aC⟩
 .refine(h.tr.PG pd0).app aG a7 (λop hop e=>?_) (λa ha aI _=>?_)
  .obtain⟨x,hx,rfl⟩:=ak hop;exact aH x hx _ (Go.ConcR.loc_of_ofEvent e)
  .obtain h1|⟨_,_,h3⟩:=a6
   .exact .inl ⟨i,rfl,(h7 h1).1,hi,.inl (by rw[bk];exact h1)⟩
   .obtain⟨hx,h0⟩|hx:=h3 a ha aI
    .exact .inl ⟨i,rfl,h0,hi,.inr (by rw[bk];exact hx)⟩
    .exact .inr hx
 .obtain hop|hop:=Array.mem_append.1 hop
  .exact MemAct.low_mono zx (h.low op hop)
  .exact aF op hop
 .by_cases e:a=i
  .subst e;rw[Deaf_own,h.deafW a ha,bk];exact aA
  .rw[Deaf_other t (by omega) _ a7,h.deafW a ha,bW D _ e]
 .by_cases e:a=i
  .subst e;rw[bk] at hs ⊢;exact hrel h0 hs
  .rw[bW D _ e] at hs;rw[bW rr _ e];exact(h.rel a h0 ha hs).appOther a7 (by omega)
 .by_cases e:a=i
  .subst e;rw[bk] at ho;exact o1 ho
  .rw[bW O _ e] at ho;have:=h.Km a ha ho;obtain⟨rfl,_⟩|⟨h1,_,_⟩:=o2
   .exact this
   .rw[h1] at this;have:=TS.at_.inj this;omega
 .obtain⟨rfl,h2⟩|⟨_,h1,_⟩:=o2
  .obtain⟨a,ha,e1,e2⟩:=h.K8 k a8;refine⟨a,ha,e1,?_⟩;by_cases e:a=i
   .subst e;rw[bk,h2];exact e2
   .rw[bW O _ e];exact e2
  .rw[h1] at a8;cases a8
 .rw[EC L _ (by omega)];exact h.out a ha
 .by_cases e:a=i
  .subst e;rw[bk];exact hold ha
  .rw[bW D _ e];exact h.old a ha
def WI.JC (h:WI P SB BB zZ Gn ty Wg zO zN Kp Ψ0 Ψ2 j0 j gs W t D M O L ts rr st sm){k:Nat}(hk:k<j+1){u:dr}(hu:∀op∈u,op.g=k/\∀x,op.act.touch?=S x->MV zO Wg x.loc/\x.kind≠.plain/\(x.kind=.said->k=0)) :
  TI (MV zO Wg) (NP zN L ts.tp) (Lm zN L ts.tp) (j+1) (t++u):=by
 have a6:ts.tp=F->ts.own=none:=Dx;refine h.tr.ti.app hk (λop hop=>⟨(hu op hop).1,λx hx=>.inr (.inl ((hu op hop).2 x hx))⟩) (λ_ _ _=>⟨id,id⟩) (λ_=>.inl) (λ_=>.inl) (λa l hs=>⟨λhw=>h.cw.KI (gt hw) hs,λhr=>h.cw.KI hr hs⟩) (λl hl=>?_)
  (λa ha _ l=>⟨λhw=>⟨h.cw.apart a6 (b9 ha) l hw,λhw'=>h.cw.apart a6 (b9 ha) l hw (gt hw')⟩,λhr hw'=>h.cw.apart a6 ha l hw' hr⟩)
 obtain⟨a,rfl,_⟩|⟨a,hl⟩:=hl
 .rfl
 .have hr:Lm zN L ts.tp a l:=hl.elim gt id;rcases hr with⟨y,_,b,B,_,_,h4⟩|⟨_,_,B,_,h4⟩<;>exact Hv h4
def Hg {L:Nat->Option Lone}{k:Nat}(h:L k=b5):put L k b5=L:=by
 funext a;unfold put;split
 .rename_i e;rw[e,h]
 .rfl
def LC {Wg:Nat}{e:cu}(h:Bk Wg e){x:Touch}(hx:(U e).touch?=S x):(∃a:Addr,x.loc=.cell a/\a.block=Wg)/\x.kind=.atomic:=by
 obtain h1|h1|⟨a,wr,rfl,ha⟩:=h
 .rw[ofEvent_loc_mark h1] at hx;cases hx
 .rw[ofEvent_loc_mark h1] at hx;cases hx
 .cases wr<;>simp[U,bb] at hx<;>subst hx<;>exact⟨⟨a,rfl,ha⟩,rfl⟩
def N8 {Wg B:Nat}{e:cu}(h:Bk Wg e)(hB:Wg<B):(U e).low B:=by
 obtain h1|h1|⟨a,wr,rfl,ha⟩:=h
 .rw[ofEvent_loc_mark h1];trivial
 .rw[ofEvent_loc_mark h1];trivial
 .have:a.block<B:=by omega
  cases wr<;>simpa [U,bh,Loc.low] using this
def mq {Wg:Nat}{e:cu}(h:Bk Wg e)(a:Addr):e.loc≠.mark (.release a):=by
 obtain h1|h1|⟨a',wr,rfl,ha⟩:=h
 .rw[h1];simp
 .rw[h1];simp
 .simp
def WI.book (h:WI P SB BB zZ Gn ty Wg zO zN Kp Ψ0 Ψ2 j0 j gs W t D M O L ts rr st sm)(tz:ax zN Ψ0)(aH:ax zN Ψ2){i:Nat}(hi:i<j){g g':Z}{fn:bn}{pos:String}{es:Array cu}{s' dd':Nat}{m':Wm}
  (hk:GG P SB BB zZ Gn ty Wg Ψ2 s' dd' m' b5 I g' W') (h6:(D i).stage<=6) (hL:L (i+1)=b5) (hO:O i=I) (zG:s'<=(D i).stage) (hold:i<j0->s'=1)
  (aA:Aside Wg W W') (aF:WgAt ty Wg W' I8 JB) (aB:∀e∈es,Bk Wg e) (hd:∀a e,es[a]?=S e->(U e).touch?=b5\/0<cL (D i).deaf (es.extract 0 a)) (aD:cL (D i).deaf es=dd') :
  WI P SB BB zZ Gn ty Wg zO zN Kp Ψ0 Ψ2 j0 j ((gs.map (woken P.b g g' W')).setIfInBounds (i+1) g') W' (t++J (i+1) fn pos es) (upd D i ⟨s',0,dd'⟩) (upd M i m') (upd O i I) L ts (upd rr i (rr i)) I8 JB:=by
 have hrel:j0<=i->RelBy (stA Wg) (t++J (i+1) fn pos es) (i+1) (rr i):=λh0=>(h.rel i h0 hi h6).book (h.deafW i hi) fn pos aB hd;have a6:∀op∈J (i+1) fn pos es,op.g=i+1/\∀x,op.act.touch?=S x->MV zO Wg x.loc/\x.kind=.atomic:=by
  intro op hop;obtain⟨e,he,rfl⟩:=ak hop;refine⟨rfl,λx hx=>?_⟩;obtain⟨⟨a,h1,h2⟩,h3⟩:=LC (aB e he) hx;exact⟨⟨a,h1,.inr h2⟩,h3⟩
 have hbl:∀B,zN B->W'.heap[B]?=W.heap[B]?:=λB hB=>aA.block B (h.cw.I4 B hB).1;have:=h.next hi (g:=g) (fn:=fn) (pos:=pos) (r':=rr i) (ts':=ts) hk aF (by rw[Hg hL];exact h.cw.group aA ⟨_,_,_,aF⟩)
  (by rw[Hg hL];exact h.JC (by omega) (λop hop=>⟨(a6 op hop).1,λx hx=>⟨((a6 op hop).2 x hx).1,by rw[((a6 op hop).2 x hx).2];simp,λe=>by rw[((a6 op hop).2 x hx).2] at e;cases e⟩⟩))
  (λe he a=>mq (aB e he) a) zG hold
  (.inr ⟨λ_ _ h7=>by omega,λ_=>rfl,λa ha aI=>.inr ⟨λx hx _=>?_,λhc=>?_⟩⟩) (λh7=>by omega)
  (λop hop=>by obtain⟨e,he,rfl⟩:=ak hop;exact N8 (aB e he) (by rw[aA.size];exact h.cw.low.1)) (by rw[aA.size];exact AA _) aD (λh0 _=>hrel h0) (by simp) (.inl ⟨rfl,hO.symm⟩)
  ⟨λe=>tz W W' hbl (h.G6.1 e),λe=>aH W W' hbl (h.G6.2 e)⟩
 .rwa [Hg hL] at this
 .obtain⟨op,hop,a7⟩:=ck hx;obtain⟨zY,_⟩|⟨_,a8⟩:=V hop
  .omega
  .exact(a6 op a8).2 x a7
 ·
  obtain⟨x,hx,_,aC⟩:=hc;have aJ:touchAt (t++J (i+1) fn pos es) a=S x:=hx;obtain⟨op,hop,a7⟩:=ck aJ;obtain⟨zY,_⟩|⟨_,a8⟩:=V hop
  .omega
  .have hat:=((a6 op a8).2 x a7).2;obtain aC|⟨gg,aG,aK⟩:=aC
   .exact aC hat
   .have eg:gg=i+1:=by rw[aI] at aG;exact(Option.some.inj aG).symm
    subst eg;have hj:(J (i+1) fn pos es)[a-t.size]?=S op:=by
     rw[C1] at hop;simpa [Nat.not_lt.2 ha] using hop
    rw[ofEvents_eq,BG] at hj;obtain⟨e,he,rfl⟩:=Bj.1 hj;have aL:a-t.size<=es.size:=by
     obtain h'|h':=Br (a-t.size) es.size
     .omega
     .rw[Cp h'] at he;cases he
    obtain h0|h0:=hd _ e he
    .simp only at a7;rw[h0] at a7;cases a7
    .have:=deaf_inside t (i+1) fn pos es (a-t.size) aL;rw[show t.size+(a-t.size)=a by omega,aK,h.deafW i hi] at this;omega
end
end Go.Co
