/- Parts of the proof. -/
import Derived.Test.YtoeoefobdjociaaGreatP03
import Derived.Conc.MarkLaws
import Derived.Conc.SmallLaws
set_option linter.all false
open Go renaming Goroutine->Z,World->J,Frame->bc,FuncId->bh,stepG->bk,Program->bn,Value->br,Event->bs,step_lone_ended->bD,deafBehind->b7,Tape->b8,Item->b9,doReturn->cq,TypeId->cr,Oper->cu
open Classical renaming choose_spec->Y,choose->M
open Bool renaming false->ak,true->bb
open Option renaming some->bo,none->b5
open Go.Frame renaming enter->bq,finish_at->b6,oper?->cf
open Go.Value renaming pointer->bw
open Go.Region renaming wanted->bA
open Go.GStep renaming after->bW,ended->ck
namespace Go.Eu
def on (w:J)(τ:b8)(d:Nat):World:={ w with tape:=τ,drawn:=d }
def Et (w W:J):Prop:=W.heap=w.heap/\W.os=w.os/\W.output=w.output
def Di {w:J}{τ:b8}{d:Nat}:Et w (on w τ d):=⟨rfl,rfl,rfl⟩
def Et.symm {w W:J}(h:Et w W):Et W w:=⟨h.1.symm,h.2.1.symm,h.2.2.symm⟩
def Et.trans {w W X:J}(h:Et w W)(k:Et W X):Et w X:=⟨k.1.trans h.1,k.2.1.trans h.2.1,k.2.2.trans h.2.2⟩
def Et.eq {w W:J}(h:Et w W):W=on w W.tape W.drawn:=by
 obtain⟨a,b,c,d,e⟩:=W;obtain⟨h1,h2,h3⟩:=h;dsimp only at *;subst h1 h2 h3
 rfl
def EI.same {S:Fy}{Ck:Code->Prop}{G:Nat}{β:Em}{w W w1 W1:J}(h:EI S Ck G β w W)(e:w1.heap=w.heap)(E:W1.heap=W.heap)(o:w1.os.env=W1.os.env):EI S Ck G β w1 W1 :=
 ⟨h.Fv,by rw[e,E];exact h.room,by rw[e,E];exact h.FJ,by rw[e,E];exact h.FV,by rw[e];exact h.old,o⟩
def Path (P:bn)(Q:Z->J->Prop):Nat->Z->J->Prop
 |0,g,w=>Q g w
 |n+1,g,w=>Q g w\/∃g' w' es,bk P bb g w=.go g' w' es/\g'.callers≠[]/\Path P Q n g' w'
inductive Ee (P:bn)(Ev:Z->J->Prop)(Q:Z->J->Prop):Z->J->Prop
 |fin {g:Z} {w:J}:Q g w->Ee P Ev Q g w
 |next {g:Z} {w:J} (ng:b8->Nat->Z) (nw:b8->Nat->J):Ev g w->(∀τ d,(∃es,bk P bb g (on w τ d)=.go (ng τ d) (nw τ d) es)/\(ng τ d).callers≠[])->(∀τ d,Ee P Ev Q (ng τ d) (nw τ d))->Ee P Ev Q g w
def Ee.step {P:bn}{Ev Q:Z->J->Prop}{g:Z}{w:J}(he:Ev g w)(h:∀τ d,∃g' w' es,bk P bb g (on w τ d)=.go g' w' es/\g'.callers≠[]/\Ee P Ev Q g' w'):Ee P Ev Q g w :=
 .next (λτ d=>M (h τ d)) (λτ d=>M (Y (h τ d))) he
  (λτ d=>by
   obtain⟨es,h1,h2,_⟩:=Y (Y (h τ d))
   exact⟨⟨es,h1⟩,h2⟩)
  (λτ d=>by
   obtain⟨es,_,_,h3⟩:=Y (Y (h τ d))
   exact h3)
section
variable {P:bn} {SB:bh->Bool} {H:Hid} {BB:bh->Bool} {T:List bc} {β:Em} {G:Nat}
def NW {f F:bc}(r:Er P SB H ak β f F):MT P SB f:=by
 intro o ho;have key:∀(t T:List b9),E5 (F5 P SB H ak f.roundOf.isNone β) t T->(match t with|.inRegion ops (i::_)::_=>ops[i]?|_=>b5)=bo o->Kj P SB o.op=false:=by
  intro t T h e;cases h with
  |nil=>cases e
  |cons hi _ =>
   cases hi with
   |@inRegion ops l a6 =>
    cases l with
    |nil=>cases e
    |cons i rest =>
     simp only[Ba] at a6;have:=a6 o (Bi e);unfold cy at this;simp only[B9,C6,AN] at this;exact vO this.1
   |_=>cases e
 refine key f.todo F.todo r.todo ?_;unfold cf at ho;exact ho
def me {p:bn}{f:bh}{fn:Func}{s:String}(h:p.funcs[f]?=bo fn)(hb:fn.body=bo (.refuse s))(a:Array br)(k:CallKind)(cs:List bc)(w:J)(main:Bool){g':Z}{w':J}{es:Array bs} :
  bk p main ⟨bq p f a k,cs,.running,b5,b5⟩ w≠.go g' w' es:=by
 intro e;simp[bk,bq,h,hb,stepG.exec] at e
def FX.Ri {T:List bc}(L:Lib (ED.of P) SB H ak SB G){g g2:Z}(hg:FX (ED.of P) SB H ak SB T β g g2){main:Bool}{w:J}{g':Z}{w':J}{es:Array bs}(e:bk P main g w=.go g' w' es):Er P SB H ak β g.frame g2.frame:=by
 have a6:=hg.top;obtain⟨fr,cs,st,dy,off⟩:=g;obtain⟨_,_,⟨z1,_⟩,⟨z2,_⟩,⟨z3,_⟩⟩:=hg;dsimp only at a6 z1 z2 z3 ⊢;subst z1 z2 z3;generalize g2.frame=FR at a6 ⊢;cases a6 with
 |on h=>exact h
 |@stop f a A k h1 h2 =>
  exfalso;obtain h1|h1:=h1
  .rw[h1] at h2;cases h2
  .obtain⟨fn,s,q1,q2⟩:=L.bars f h1;exact me (p:=P) q1 q2 _ _ _ _ _ e
structure Self (P:bn)(SB:bh->Bool)(H:Hid)(G:Nat)(g:Z)(w:J):Prop where
 bo:∃β:Em,KD H β/\FX (ED.of P) SB H ak SB [bad] β g g/\EI (SP SB H) (CK P SB ak) G β w w
def Hf (L:Lib (ED.of P) SB H ak SB G){g:Z}{w W:J}(hs:Self P SB H G g w)(hh:Et w W){n:Nat}(ht:JY n w W){g':Z}{w':J}{es:Array bs}
  (zG:bk P bb g w=.go g' w' es) (hb:w'.drawn<=w.drawn+n) (zU:g'.callers≠[]) :
  ∃W' ES,bk P bb g W=.go g' W' ES/\Et w' W'/\W'.tape=W.tape/\W'.drawn+w.drawn=W.drawn+w'.drawn/\w.drawn<=w'.drawn/\w'.tape=w.tape/\Self P SB H G g' w':=by
 obtain⟨β,hi,hg,hw⟩:=hs;have hw2:EI (SP SB H) (CK P SB ak) G β w W:=hw.same rfl hh.1 (by rw[hh.2.1]);have a6:=hg.Ri L zG;have hb':(aQ (bk P bb g w)).drawn<=w.drawn+n:=by rw[zG];exact hb
 have:FP (ED.of P) SB H ak SB [bad] G β w W (bk P bb g w) (bk P bb g W):=dR (main:=bb) (main2:=bb) L hg a6 (λ_=>NW a6) hw2 ht hb';rw[zG] at this;obtain⟨h0,_⟩|⟨D6,g2,W',ES,e,h1,h2⟩:=this
 .exact AI h0 zU
 obtain⟨i1,i2⟩:=h2.same hi hh.1.symm;have eg:=FX.id (P:=ED.of P) i1 h1;subst eg;exact⟨W',ES,e,⟨i2.symm,h2.OS.trans (hh.2.1.trans h2.os.symm),h2.OUT.trans (hh.2.2.trans h2.out.symm)⟩,h2.TAPE,h2.draws,h2.drawn,h2.tape,⟨D6,i1,h1,h2.rel.same rfl i2 rfl⟩⟩
variable {Q:Z->J->Prop}
def pT (L:Lib (ED.of P) SB H ak SB G)(hQ:∀g w W,Et w W->Q g w->Q g W){n:Nat}{g:Z}{w W:J}(hs:Self P SB H G g w)(hh:Et w W)(ht:∀m,JY m w W)(h:Path P Q n g w):Path P Q n g W:=by
 induction n generalizing g w W with
 |zero=>exact hQ _ _ _ hh h
 |succ n ih =>
  obtain h|⟨g',w',es,h1,h2,h3⟩:=h
  .exact .inl (hQ _ _ _ hh h)
  .obtain⟨W',ES,e1,e2,e3,e4,e5,e6,e7⟩:=Hf L hs hh (ht (w'.drawn-w.drawn)) h1 (by omega) h2;refine .inr ⟨g',W',ES,e1,h2,ih e7 e2 ?_ h3⟩;intro m i hi q;have:=ht ((w'.drawn-w.drawn)+i+1) ((w'.drawn-w.drawn)+i) (by omega) q;rw[e3,e6];rw[show w'.drawn+i=w.drawn+(w'.drawn-w.drawn+i) from by omega,show W'.drawn+i=W.drawn+(w'.drawn-w.drawn+i) from by omega];exact this
def Path.NX {n:Nat}{g:Z}{w:J}(h:Path P Q n g w)(hq:¬Q g w):∃m g' w' es,bk P bb g w=.go g' w' es/\g'.callers≠[]/\Path P Q m g' w':=by
 cases n with
 |zero=>exact AI h hq
 |succ n =>
  obtain h|⟨g',w',es,h⟩:=h
  .exact AI h hq
  .exact⟨n,g',w',es,h⟩
structure NY (P:bn)(SB:bh->Bool)(H:Hid)(G:Nat)(Q:Z->J->Prop)(g:Z)(w:J):Prop where
 self:Self P SB H G g w
 ends:∀τ d,∃n,Path P Q n g (on w τ d)
def Self.same {g:Z}{w W:J}(h:Self P SB H G g w)(e:Et w W):Self P SB H G g W:=by
 obtain⟨β,h1,h2,h3⟩:=h;exact⟨β,h1,h2,h3.same e.1 e.1 rfl⟩
def NY.next (L:Lib (ED.of P) SB H ak SB G)(hQ:∀g w W,Et w W->Q g w->Q g W){g:Z}{w:J}(h:NY P SB H G Q g w)(hq:¬Q g w){τ:b8}{d:Nat}{g':Z}{w':J}{es:Array bs}
  (zG:bk P bb g (on w τ d)=.go g' w' es) (zU:g'.callers≠[]):NY P SB H G Q g' w':=by
 have hs:=h.self.same (Di (τ:=τ) (d:=d));obtain⟨_,_,_,_,_,_,hd,a8,hs'⟩:=Hf L hs (W:=on w τ d) ⟨rfl,rfl,rfl⟩ (n:=w'.drawn-(on w τ d).drawn) (λ_ _ _=>rfl) zG (by omega) zU;refine⟨hs',λa6 d'=>?_⟩
 let a7:Tape:=λi=>if i<w'.drawn then τ i else a6 (i-w'.drawn+d')
 obtain⟨n,hp⟩:=h.ends a7 d;obtain⟨m,g2,w2,es2,k1,k2,k3⟩:=hp.NX (λhq'=>hq (hQ g (on w a7 d) w ⟨rfl,rfl,rfl⟩ hq'))
 obtain⟨W',ES,e1,e2,e3,e4,e5,_,_⟩:=Hf L hs (W:=on w a7 d) ⟨rfl,rfl,rfl⟩ (n:=w'.drawn-(on w τ d).drawn) (λi hi q=>by
  show τ (d+i) q=(if d+i<w'.drawn then τ (d+i) else a6 (d+i-w'.drawn+d')) q;have:d+i<w'.drawn:=by have:(on w τ d).drawn=d:=rfl;omega
  rw[AF this]) zG (by omega) zU
 rw[k1] at e1;cases e1;refine⟨m,pT L hQ (hs'.same e2) (W:=on w' a6 d') ⟨e2.1.symm,e2.2.1.symm,e2.2.2.symm⟩ ?_ k3⟩;intro m i _ q;have e4':w2.drawn=w'.drawn:=by have:(on w a7 d).drawn=d:=rfl;have:(on w τ d).drawn=d:=rfl;omega
 rw[e3,e4'];show(if w'.drawn+i<w'.drawn then τ (w'.drawn+i) else a6 (w'.drawn+i-w'.drawn+d')) q=a6 (d'+i) q;rw[AD (by omega),show w'.drawn+i-w'.drawn+d'=d'+i from by omega]
structure OY (P:bn)(Q:Z->J->Prop)(C:Z->J->Prop) where
 g:Z
 w:J
 bad:C g w
def fe (L:Lib (ED.of P) SB H ak SB G)(hQ:∀g w W,Et w W->Q g w->Q g W){g:Z}{w:J}(h:NY P SB H G Q g w):Ee P (Self P SB H G) Q g w:=by
 refine Classical.byContradiction λhno=>?_
 let C:Z->J->Prop:=λg w=>NY P SB H G Q g w/\¬Ee P (Self P SB H G) Q g w
 have nq:∀g w,C g w->¬Q g w:=λg w hc hq=>hc.2 (.fin hq);have next:∀x:OY P Q C,∃(τ:b8) (d:Nat) (y:OY P Q C),∃es,bk P bb x.g (on x.w τ d)=.go y.g y.w es/\y.g.callers≠[]:=by
  rintro⟨g,w,hc⟩;have:¬ ∀τ d,∃g' w' es,bk P bb g (on w τ d)=.go g' w' es/\g'.callers≠[]/\Ee P (Self P SB H G) Q g' w':=λhall=>hc.2 (.step hc.1.self hall);simp only[Classical.not_forall] at this;obtain⟨τ,d,hn⟩:=this;obtain⟨n,hp⟩:=hc.1.ends τ d;obtain⟨m,g',w',es,k1,k2,k3⟩:=hp.NX (λhq'=>nq g w hc (hQ g (on w τ d) w ⟨rfl,rfl,rfl⟩ hq'));refine⟨τ,d,⟨g',w',hc.1.next L hQ (nq g w hc) k1 k2,λhr=>hn ⟨g',w',es,k1,k2,hr⟩⟩,es,k1,k2⟩
 let τ:=λx=>M (next x)
 let d:=λx=>M (Y (next x))
 let nx:=λx=>M (Y (Y (next x)))
 have hnx:∀x:OY P Q C,∃es,bk P bb x.g (on x.w (τ x) (d x))=.go (nx x).g (nx x).w es/\(nx x).g.callers≠[]:=λx=>Y (Y (Y (next x)))
 let s:Nat->OY P Q C:=λk=>Nat.rec ⟨g,w,h,hno⟩ (λ_ x=>nx x) k
 have sS:∀k,s (k+1)=nx (s k):=λk=>rfl
 let n:Nat->Nat:=λk=>(s (k+1)).w.drawn-d (s k)
 let D:Nat->Nat:=λk=>Nat.rec 0 (λk x=>x+n k) k
 have DS:∀k,D (k+1)=D k+n k:=λk=>rfl;have Dm:∀k j,D k<=D (k+j):=by
  intro k j
  induction j with
  |zero=>exact AA _
  |succ j ih=>rw[show k+(j+1)=(k+j)+1 from rfl,DS];omega
 have uniq:∀i k j,D k<=i->i<D (k+1)->D j<=i->i<D (j+1)->k=j:=by
  intro i k j h1 h2 h3 h4;obtain zY|rfl|zY:=Nat.lt_trichotomy k j
  .have:=Dm (k+1) (j-(k+1));rw[show k+1+(j-(k+1))=j from by omega] at this;omega
  .rfl
  .have:=Dm (j+1) (k-(j+1));rw[show j+1+(k-(j+1))=k from by omega] at this;omega
 let T:Tape:=λi q=>@dite _ (∃k,D k<=i/\i<D (k+1)) (Classical.propDecidable _) (λhx=>τ (s (M hx)) (d (s (M hx))+(i-D (M hx))) q) (λ_=>0)
 have hT:∀k i q,i<n k->T (D k+i) q=τ (s k) (d (s k)+i) q:=by
  intro k i q hi;have hx:∃k',D k'<=D k+i/\D k+i<D (k'+1):=⟨k,by omega,by rw[DS];omega⟩;have hc:=Y hx;have e:M hx=k:=uniq (D k+i) _ _ hc.1 hc.2 (by omega) (by rw[DS];omega);have e1:T (D k+i) q=τ (s (M hx)) (d (s (M hx))+(D k+i-D (M hx))) q:=dif_pos hx;rw[e1,e,Nat.add_sub_cancel_left]
 have stepT:∀k,∃es,bk P bb (s k).g (on (s k).w T (D k))=.go (s (k+1)).g (on (s (k+1)).w T (D (k+1))) es:=by
  intro k;obtain⟨es,k1,k2⟩:=hnx (s k);have a6:=(s k).bad.1.self.same (Di (τ:=τ (s k)) (d:=d (s k)))
  obtain⟨_,_,_,_,_,_,hd,_,_⟩:=Hf L a6 (W:=on (s k).w (τ (s k)) (d (s k))) ⟨rfl,rfl,rfl⟩ (n:=n k) (λ_ _ _=>rfl) k1 (by
   show(nx (s k)).w.drawn<=d (s k)+((s (k+1)).w.drawn-d (s k))
   rw[sS];omega) k2
  obtain⟨W',ES,e1,e2,e3,e4,_,_,_⟩:=Hf L a6 (W:=on (s k).w T (D k)) ⟨rfl,rfl,rfl⟩ (n:=n k) (λi hi q=>(hT k i q hi).symm) k1 (by
   show(nx (s k)).w.drawn<=d (s k)+((s (k+1)).w.drawn-d (s k))
   rw[sS];omega) k2
  refine⟨ES,e1.trans ?_⟩;have e5:W'.drawn=D (k+1):=by
   have a1:(on (s k).w (τ (s k)) (d (s k))).drawn=d (s k):=rfl;have a2:(on (s k).w T (D k)).drawn=D k:=rfl;have a3:(nx (s k)).w.drawn=(s (k+1)).w.drawn:=rfl;rw[DS];show W'.drawn=D k+((s (k+1)).w.drawn-d (s k));omega
  rw[e2.eq,e3,e5]
  rfl
 have main:∀m k,¬Path P Q m (s k).g (on (s k).w T (D k)):=by
  intro m
  induction m with
  |zero=>exact λk hq=>nq _ _ (s k).bad (hQ _ (on (s k).w T (D k)) _ ⟨rfl,rfl,rfl⟩ hq)
  |succ m ih =>
   intro k hp;obtain hq|⟨g',w',es,k1,_,k3⟩:=hp
   .exact nq _ _ (s k).bad (hQ _ (on (s k).w T (D k)) _ ⟨rfl,rfl,rfl⟩ hq)
   .obtain⟨ES,e⟩:=stepT k;rw[e] at k1;cases k1;exact ih (k+1) k3
 obtain⟨m,hp⟩:=h.ends T 0;exact main m 0 hp
end
def EX (fr:bc)(cs:List bc):Goroutine:={ frame:=fr,callers:=cs,status:=.running,dying:=b5 }
section
variable {P:bn} {SB:bh->Bool} {H:Hid} {T:List bc} {β:Em} {G:Nat} {Q:Z->J->Prop}
def FX.EX {P:ED}{zZ:Bool}{BB:bh->Bool}{g g':Z}(r:FX P SB H zZ BB T β g g'):g=Go.Eu.EX g.frame g.callers:=by
 obtain⟨a1,a2,a3,a4,a5⟩:=g;obtain⟨_,_,⟨s1,_⟩,⟨d1,_⟩,⟨o1,_⟩⟩:=r;dsimp only at *;subst s1 d1 o1
 rfl
def Nj (L:Lib (ED.of P) SB H ak SB G){fr:bc}{cs:List bc}{w:J}(hs:Self P SB H G (EX fr cs) w) :
  (∃a6 cs' w' es,bk P bb (EX fr cs) w=.go (EX a6 cs') w' es/\cs'≠[]/\step P (lone fr cs w)=.next (lone a6 cs' w')/\Self P SB H G (EX a6 cs') w') \/
  (∃a6 w' o w'',step P (lone fr cs w)=.next (lone a6 [] w')/\step P (lone a6 [] w')=.ended o w'') \/
  (∃o w',step P (lone fr cs w)=.ended o w'):=by
 obtain⟨β,hi,hg,hw⟩:=hs;have a8:(∃s,(∃o w',s=ck o w' #[])/\bk P bb (EX fr cs) w=s)\/Er P SB H ak β fr fr:=by
  have a7:=hg.top;change F7 (ED.of P) SB H ak SB β fr fr at a7;generalize hF:fr=FR at a7;have key:∀ {f1 f2:bc},f1=fr->F7 (ED.of P) SB H ak SB β f1 f2->f2=fr->(∃s,(∃o w',s=ck o w' #[])/\bk P bb (EX fr cs) w=s)\/Er P SB H ak β fr fr:=by
   intro f1 f2 e1 h e2;cases h with
   |on h=>rw[e1,e2] at h;exact .inr h
   |@stop f a A k h1 h2 =>
    left
    obtain h1|h1:=h1
    .rw[h1] at h2;cases h2
    .obtain⟨fn,s,q1,q2⟩:=L.bars f h1;rw[<-e1];exact⟨_,⟨_,_,rfl⟩,by simp[bk,EX,bq,q1,q2,stepG.exec];exact⟨rfl,rfl⟩⟩
  exact hF▸key hF.symm a7 hF.symm
 obtain⟨s,⟨o,w',rfl⟩,he⟩|aA:=a8
 .exact .inr (.inr ⟨o, w', bD (by
   show(bk P bb (EX fr cs) w).bare=_
   rw[he];rfl)⟩)
 have:FP (ED.of P) SB H ak SB [bad] G β w w (bk P bb (EX fr cs) w) (bk P bb (EX fr cs) w):=dR (main:=bb) (main2:=bb) L hg aA (λ_=>NW aA) hw (n:=(aQ (bk P bb (EX fr cs) w)).drawn) (λ_ _ _=>rfl) (Db _ _);generalize he:bk P bb (EX fr cs) w=s at this;cases s with
 |go g' w' es =>
  obtain⟨h0,⟨a6,h1⟩,h2⟩|⟨D6,g2,W',ES,e,h1,h2⟩:=this
  .subst h1;obtain⟨o,w'',es',h3⟩:=h2 P w';refine .inr (.inl ⟨a6,w',o,w'',step_lone_go ?_,bD ?_⟩)
   .show(bk P bb (EX fr cs) w).bare=_;rw[he];rfl
   .rw[h3];rfl
  .refine .inl ⟨g'.frame,g'.callers,w',es,by rw[<-h1.EX],h1.callers.ne,step_lone_go ?_,?_⟩
   .show(bk P bb (EX fr cs) w).bare=_;rw[he];show GStep.go g' w'=_;rw[h1.EX]
    rfl
   .rw[<-h1.EX];obtain⟨i1,i2⟩:=h2.same hi rfl;have eg:=FX.id (P:=ED.of P) i1 h1;subst eg;exact⟨D6,i1,h1,h2.rel.same rfl i2 rfl⟩
 |ended o w' es =>
  refine .inr (.inr ⟨o,w',bD ?_⟩);show(bk P bb (EX fr cs) w).bare=_;rw[he];rfl
 |_=>exact this.elim
def dm (L:Lib (ED.of P) SB H ak SB G){n:Nat}{fr a6:bc}{cs cs':List bc}{w w':J}(hs:Self P SB H G (EX fr cs) w)(h:runN P n (lone fr cs w)=.next (lone a6 cs' w'))(zU:cs'≠[])(hq:Q (EX a6 cs') w') :
  ∃n,Path P Q n (EX fr cs) w:=by
 induction n generalizing fr cs w with
 |zero =>
  have h:lone fr cs w=lone a6 cs' w':=by simpa [runN] using h
  have e1:w=w':=AX Machine.world h;have e2:#[EX fr cs]=#[EX a6 cs']:=AX Machine.gs h;have e3:EX fr cs=EX a6 cs':=by simpa using e2
  exact⟨0,by rw[e1,e3];exact hq⟩
 |succ n ih =>
  simp only[runN] at h;obtain⟨a7,cs1,w1,es,h1,h2,h3,h4⟩|⟨a7,w1,o,w2,h1,h2⟩|⟨o,w1,h1⟩:=Nj L hs
  .rw[h3] at h;obtain⟨m,hm⟩:=ih h4 h;exact⟨m+1,.inr ⟨_,_,_,h1,h2,hm⟩⟩
  .rw[h1] at h;cases n with
   |zero =>
    have h:lone a7 [] w1=lone a6 cs' w':=by simpa [runN] using h
    have e2:#[EX a7 []]=#[EX a6 cs']:=AX Machine.gs h;have e3:EX a7 []=EX a6 cs':=by simpa using e2
    exact AI (AX Goroutine.callers e3).symm zU
   |succ n =>
    simp only[runN] at h;rw[h2] at h;cases h
  .rw[h1] at h;cases h
def Left (P:bn)(f:bh)(R:br->J->Prop)(g:Z)(w:J):Prop :=
 ∃w0 v fr,Et w0 w/\R v w0/\g=EX fr [bad]/\fr.fn=f/\fr.leaving P w0 (.returned v)
def Left.same {f:bh}{R:br->J->Prop}(g:Z)(w W:J)(h:Et w W)(k:Left P f R g w):Left P f R g W:=by
 obtain⟨w0,v,fr,h1,h2⟩:=k;exact⟨w0,v,fr,h1.trans h,h2⟩
def H5 (L:Lib (ED.of P) SB H ak SB G){f:bh}{args:Array br}{R:br->J->Prop}{w:J}(hs:Self P SB H G (EX (bq P f args .normal) [bad]) w)
  (hc:∀τ d,Calls P f args (on w τ d) (λe w'=>∃v,e=.returned v/\R v w')):Ee P (Self P SB H G) (Left P f R) (EX (bq P f args .normal) [bad]) w:=by
 refine fe L Left.same ⟨hs,λτ d=>?_⟩;obtain⟨e,w',fr,⟨v,rfl,hr⟩,⟨n,hn⟩,hf,hl⟩:=hc τ d [bad];exact dm L (hs.same Di) hn (by simp) ⟨w',v,fr,⟨rfl,rfl,rfl⟩,hr,rfl,hf,hl⟩
end
def Ro (w:J)(b:Nat):Prop:=∃c t f,w.heap[b]?=bo (.cells c t f)/\∀i,i<c.size->f.1<=i/\i<f.2
def Sep (S:Fy)(β:Em)(w:J)(S':Fy)(D6:Em)(w':J):Prop :=
 ∀b b' B,β b B->D6 b' B->S.hid b=bb\/S'.hid b'=bb\/(Ro w b/\Ro w' b')
def Sep.symm {S S':Fy}{β D6:Em}{w w':J}(h:Sep S β w S' D6 w'):Sep S' D6 w' S β w:=by
 intro b b' B h1 h2;obtain h|h|⟨h,k⟩:=h b' b B h2 h1
 .exact .inr (.inl h)
 .exact .inl h
 .exact .inr (.inr ⟨k,h⟩)
section
variable {S S':Fy} {Ck Qy:Code->Prop} {G G':Nat} {β D6 γ:Em} {w w' v W W':J} {ES:List bs}
def Ro.kept (f:Fin S Ck G β D6 w W w' W' ES){b B:Nat}(hb:β b B)(r:Ro w b):Ro w' b:=by
 obtain⟨c,t,z,h1,h2⟩:=r;have:=(f.ro b B c t z hb h1 h2).1;exact⟨c,t,z,this.trans h1,h2⟩
def EI.others (k:EI S' Qy G' γ v W)(tw:S'.hid.EZ=ak)(h:EI S Ck G β w W)(f:Fin S Ck G β D6 w W w' W' ES)(s:Sep S β w S' γ v):EI S' Qy G' γ v W' where
 Fv:=k.Fv
 room:=⟨k.room.1,AH k.room.2 f.SIZE⟩
 FJ:=λb B hb hh=>by
  obtain⟨o,O,h1,h2,h3⟩:=k.FJ b B hb hh;refine⟨o,O,h1,?_,h3⟩;rw[<-h2];by_cases hx:∃b',β b' B
  .obtain⟨b',hb'⟩:=hx;obtain x|x|⟨x,_⟩:=s b' b B hb' hb
   .exact f.hk b' B hb' x
   .rw[hh] at x;cases x
   .obtain⟨c,t,z,q1,q2⟩:=x;exact(f.ro b' B c t z hb' q1 q2).2
  .exact f.KEPT B (k.lt hb).2 (λb' hb'=>hx ⟨b',hb'⟩)
 FV:=λb B hb hh=>by
  obtain⟨h1,h2,_⟩:=k.FV b B hb hh;refine⟨h1,λ_=>?_,λe=>by rw[tw] at e;cases e⟩;obtain⟨c,t,z,h2⟩:=h2 tw;by_cases hx:∃b',β b' B
  .obtain⟨b',hb'⟩:=hx;cases a6:S.hid b' with
   |true=>exact⟨c,t,z,(f.hk b' B hb' a6).trans h2⟩
   |false =>
    obtain⟨o,O,q1,q2,q3⟩:=h.FJ b' B hb' a6;obtain⟨o',O',p1,p2,p3⟩:=f.rel.FJ b' B (f.le _ _ hb') a6;have a7:=f.kind b' (h.lt hb').1;rw[q1,p1] at a7;rw[h2] at q2;cases q2;cases q3 with
    |cells a z' =>
     cases p3 with
     |cells a2 z2=>exact⟨_,_,_,p2⟩
     |_=>simp[Fw] at a7
  .exact⟨c,t,z,(f.KEPT B (k.lt hb).2 (λb' hb'=>hx ⟨b',hb'⟩)).trans h2⟩
 old:=k.old
 env:=by rw[f.OS];exact k.env
def Sep.kept (k:EI S' Qy G' γ v W)(f:Fin S Ck G β D6 w W w' W' ES)(s:Sep S β w S' γ v):Sep S D6 w' S' γ v:=by
 intro b b' B h1 h2;obtain h0|⟨_,h0⟩:=f.new b B h1
 .obtain x|x|⟨x,y⟩:=s b b' B h0 h2
  .exact .inl x
  .exact .inr (.inl x)
  .exact .inr (.inr ⟨x.kept f h0,y⟩)
 .have:=(k.lt h2).2;omega
end
def Fa (p:bn)(BB:bh->Bool)(g:Z)(_:J):Prop:=BB g.frame.fn=bb/\∀o,g.frame.oper?=bo o->aN p o.op=bb
def Ee.mono {p:bn}{Ev Ev' Q Q':Z->J->Prop}(he:∀g w,Ev g w->Ev' g w)(hq:∀g w,Q g w->Q' g w){g:Z}{w:J}(h:Ee p Ev Q g w):Ee p Ev' Q' g w:=by
 induction h with
 |fin h=>exact .fin (hq _ _ h)
 |next ng nw h1 h2 _ ih=>exact .next ng nw (he _ _ h1) h2 ih
def Ee.bind {p:bn}{Ev Q Q':Z->J->Prop}{g:Z}{w:J}(h:Ee p Ev Q g w)(k:∀g w,Q g w->Ee p Ev Q' g w):Ee p Ev Q' g w:=by
 induction h with
 |fin h=>exact k _ _ h
 |next ng nw h1 h2 _ ih=>exact .next ng nw h1 h2 ih
section
variable {P:ED} {SB EB:bh->Bool} {H H0:Hid} {zZ:Bool} {BB:bh->Bool} {T:List bc} {β:Em} {G G0:Nat}
def F7.IP {f F:bc}(h:F7 P SB H zZ BB β f F)(hb:BB f.fn=bb):Er P.a SB H zZ β f F:=by
 cases h with
 |on h=>exact h
 |@stop f' _ _ _ _ h2 =>
  have hb':BB f'=true:=hb;rw[h2] at hb';cases hb'
def mf {g:Z}{w:J}(h:Fa P.a BB g w):Ready P.a SB g:=λ_ o ho=>pP (h.2 o ho)
def follow (L:Lib P SB H zZ BB G){main2:Bool}{Q:Z->J->Prop}{g g2:Z}{w W:J}(hr:Ee P.a (Fa P.a BB) Q g w)(hq:¬Q g w)
  (hg:FX P SB H zZ BB T β g g2) (hw:EI (SP SB H) (CK P.a SB zZ) G β w W) :
  ∃g' w' es D6 a6 W' ES,bk P.a bb g (on w W.tape W.drawn)=.go g' w' es/\Ee P.a (Fa P.a BB) Q g' w'/\bk P.b main2 g2 W=.go a6 W' ES/\FX P SB H zZ BB T D6 g' a6 /\
   Fin (SP SB H) (CK P.a SB zZ) G β D6 (on w W.tape W.drawn) W w' W' ES.toList:=by
 cases hr with
 |fin h=>exact AI h hq
 |next ng nw h1 h2 h3 =>
  obtain⟨⟨es,e⟩,zU⟩:=h2 W.tape W.drawn;have hw':EI (SP SB H) (CK P.a SB zZ) G β (on w W.tape W.drawn) W:=hw.same rfl rfl hw.env;have:=dR (main:=bb) (main2:=main2) L hg (hg.top.IP h1.1) (mf h1) hw' (n:=(nw W.tape W.drawn).drawn) (λ_ _ _=>rfl) (by rw[e];exact Db _ _);rw[e] at this;obtain⟨h0,_⟩|⟨D6,a6,W',ES,k1,k2,k3⟩:=this
  .exact AI h0 zU
  .exact⟨_,_,es,D6,a6,W',ES,e,h3 _ _,k1,k2,k3⟩
def JL (L:Lib P SB H zZ BB G){main2:Bool}{g g2:Z}{w W:J}{ng:b8->Nat->Z}{nw:b8->Nat->J}(h1:Fa P.a BB g w)(h2:∀τ d,(∃es,bk P.a bb g (on w τ d)=.go (ng τ d) (nw τ d) es)/\(ng τ d).callers≠[])
  (hg:FX P SB H zZ BB T β g g2) (hw:EI (SP SB H) (CK P.a SB zZ) G β w W) :
  ∃g' w' es D6 a6 W' ES,bk P.a bb g (on w W.tape W.drawn)=.go g' w' es/\(g'=ng W.tape W.drawn/\w'=nw W.tape W.drawn)/\bk P.b main2 g2 W=.go a6 W' ES/\FX P SB H zZ BB T D6 g' a6 /\
   Fin (SP SB H) (CK P.a SB zZ) G β D6 (on w W.tape W.drawn) W w' W' ES.toList:=by
 obtain⟨⟨es,e⟩,zU⟩:=h2 W.tape W.drawn;have hw':EI (SP SB H) (CK P.a SB zZ) G β (on w W.tape W.drawn) W:=hw.same rfl rfl hw.env;have:=dR (main:=bb) (main2:=main2) L hg (hg.top.IP h1.1) (mf h1) hw' (n:=(nw W.tape W.drawn).drawn) (λ_ _ _=>rfl) (by rw[e];exact Db _ _);rw[e] at this;obtain⟨h0,_⟩|⟨D6,a6,W',ES,k1,k2,k3⟩:=this
 .exact AI h0 zU
 .exact⟨_,_,es,D6,a6,W',ES,e,⟨rfl,rfl⟩,k1,k2,k3⟩
end
section
variable {P:ED} {SB:bh->Bool} {H:Hid} {zZ:Bool} {BB:bh->Bool} {T:List bc} {β:Em} {G:Nat}
def leave (L:Lib P SB H zZ BB G){main2:Bool}{f:bh}{R:br->J->Prop}{g g2:Z}{w W:J}{C:bc}{CS:List bc}(hl:Left P.a f R g w)(aI:BB f=bb)
  (hg:FX P SB H zZ BB (C::CS) β g g2) (hw:EI (SP SB H) (CK P.a SB zZ) G β w W) :
  ∃v w0 w1 V W' ES D6,Et w w0/\R v w0/\Et w w1/\bk P.b main2 g2 W=.go (EX (C.finish V) CS) W' ES/\DZ (SP SB H) D6 v V /\
   Fin (SP SB H) (CK P.a SB zZ) G β D6 (on w W.tape W.drawn) W w1 W' ES.toList:=by
 obtain⟨w0,v,fr,hs,hR,rfl,hf,hm,hd,hk,fn,hfn,hres⟩:=hl;have aH:=hg.top.IP (show BB fr.fn=bb by rw[hf];exact aI);have e0:=hg.status.2;have e1:=hg.dying.2;have e2:=hg.offers.2;have zW:=hg.callers;obtain⟨FR,aJ,st,dy,off⟩:=g2;dsimp only at e0 e1 e2 zW aH;subst e0 e1 e2;have aK:aJ=C::CS:=by
  cases zW with
  |base=>rfl
  |cons _ h=>exact AI rfl h.ne
 subst aK;obtain⟨aB,tmps,todo,defers,mode,kind,round⟩:=fr;obtain⟨aO,aA,aF,aC,aG,aN,aD⟩:=FR;obtain⟨a1,a2,a3,a4,a5,a6,a7,a8⟩:=aH;dsimp only[EX] at a1 a2 a3 a4 a5 a6 a7 a8 hm hd hk hfn hres hf;subst a1 a6 hm hd hk;have d2:aC=[]:=by cases a4;rfl
 have m2:aG=.returning:=by cases a5;rfl
 subst d2 m2;obtain⟨q,q',g1,g2,g3⟩:=L.like aB a7.2;rw[hfn] at g1;cases g1;have aL:P.b.funcs[aB]?=bo q':=g2;have g4:results q' aA=results fn aA:=by unfold results;rw[g3]
 have aM:EI (SP SB H) (CK P.a SB zZ) G β w0 W:=hw.same hs.1.symm rfl (by rw[<-hs.2.1];exact hw.env);have hm:=jK (P:=P) (Ck:=CK P.a SB zZ) (G:=G) (S:=SP SB H) fn a2;have zA:((results fn tmps).runT P.a w0 #[]).1=.ok v w0:=by rw[Sem.runT_fst];exact hres
 have hE:=hm w0 W 0 aM (λi hi=>AI hi (BJ _)) #[] #[];rcases hr:(results fn tmps).runT P.a w0 #[] with⟨r,es⟩
 rw[hr] at hE zA;dsimp only at zA;subst zA;obtain⟨D6,V,W',ES,k1,k2,k3⟩:=hE (AA _);refine⟨v,w0,on w0 W.tape W.drawn,V,W',seen P.b aB ES.toArray,D6,hs.symm,hR,(hs.symm).trans Di,?_,k2,?_⟩
 .unfold bk;dsimp only;unfold unwind;dsimp only;rw[aL];dsimp only;rw[g4,k1];simp only[Bt];show bW _ (cq P.b main2 ⟨aB,aA,aF,[],.returning,.normal,aD⟩ (C::CS) b5 V W')=_;unfold cq;simp[bW,EX]
 .have k4:=k3.seen (P:=P) (SB:=SB) (H:=H) (zZ:=zZ) aB;have hh:w.heap=w0.heap:=hs.1;have dr:=k4.draws;have W'd:W'.drawn=W.drawn:=by omega
  exact {
   le:=k4.le
   rel:=k4.rel.same rfl rfl k4.rel.env
   tape:=rfl
   TAPE:=k4.TAPE
   drawn:=AA _
   draws:=by show W'.drawn+W.drawn=W.drawn+W.drawn;omega
   os:=hs.2.1.symm
   OS:=k4.OS
   out:=hs.2.2.symm
   OUT:=k4.OUT
   size:=by show w.heap.size<=w0.heap.size;rw[hh];exact AA _
   SIZE:=k4.SIZE
   new:=λb B h=>by show β b B\/(w.heap.size<=b/\_);rw[hh];exact k4.new b B h
   NEW:=k4.NEW
   frozen:=λa _=>by show w0.frozen? a=w.frozen? a;rw[bi,bi,hh]
   KEPT:=k4.KEPT
   ro:=λb B c t z hb hc hz=>by
    have hc':w0.heap[b]?=bo (.cells c t z):=by rw[<-hh];exact hc
    exact⟨by show w0.heap[b]?=w.heap[b]?;rw[hh],(k4.ro b B c t z hb hc' hz).2⟩
   kind:=λb _=>by show(w0.heap[b]?).map Fw=(w.heap[b]?).map Fw;rw[hh]
   evs:=λht E hE=>by
    have:=k4.evs ht E hE;cases this with
    |cell h1 h2 h3 h4=>exact .cell h1 h2 h3 h4
    |obj h1 h2=>exact .obj h1 h2
    |mark h=>exact .mark h
    |out=>exact .out
   same:=λi e=>by
    have:=k4.same i (by rw[<-hh];exact e);exact this
   hk:=k4.hk }
end
def kid (n:Nat)(d:Deferred):Goroutine:={ frame:={ (default:bc) with fn:=n,defers:=[d],mode:=.panicking [goexitEntry] },callers:=[],status:=.running,dying:=b5 }
section
variable {p:bn} {Ev Q:Z->J->Prop}
def Ee.same (hE:∀g w W,Et w W->Ev g w->Ev g W)(hQ:∀g w W,Et w W->Q g w->Q g W){g:Z}{w W:J}(h:Ee p Ev Q g w)(hs:Et w W):Ee p Ev Q g W:=by
 cases h with
 |fin h=>exact .fin (hQ _ _ _ hs h)
 |next ng nw h1 h2 h3 =>
  refine .next ng nw (hE _ _ _ hs h1) (λτ d=>?_) h3;have e:on W τ d=on w τ d:=by
   obtain⟨a,b,c,d',e'⟩:=W;obtain⟨k1,k2,k3⟩:=hs;dsimp only at k1 k2 k3;subst k1 k2 k3
   rfl
  rw[e];exact h2 τ d
inductive Walk (p:bn)(C:Z->Prop):Z->J->Z->J->Prop
 |refl {g:Z} {w:J}:Walk p C g w g w
 |step {g g' g2:Z} {w w' w2:J} {es:Array bs}:C g->bk p bb g w=.go g' w' es->Walk p C g' w' g2 w2->Walk p C g w g2 w2
def Ee.descend {C:Z->Prop}(hE:∀g w W,Et w W->Ev g w->Ev g W)(hQ:∀g w W,Et w W->Q g w->Q g W)(hC:∀g w,C g->¬Q g w){g g2:Z}{w w1 w2:J}(h:Ee p Ev Q g w)(hs:Et w w1)(k:Walk p C g w1 g2 w2):Ee p Ev Q g2 w2:=by
 induction k generalizing w with
 |refl=>exact h.same hE hQ hs
 |step c e _ ih =>
  cases h with
  |fin h=>exact AI h (hC _ _ c)
  |next ng nw h1 h2 h3 =>
   rename_i w1 _ _ _ _;obtain⟨⟨es',e'⟩,_⟩:=h2 w1.tape w1.drawn;rw[<-hs.eq,e] at e';cases e';exact ih (h3 _ _) ⟨rfl,rfl,rfl⟩
def After (p:bn)(x y:Z×J):Prop:=∃τ d es,bk p bb y.1 (on y.2 τ d)=.go x.1 x.2 es/\x.1.callers≠[]
def Left.last {f:bh}{R:br->J->Prop}{g:Z}{w:J}(h:Left p f R g w)(x:Z×J):¬After p x (g,w):=by
 rintro⟨τ,d,es,e,zU⟩;obtain⟨w0,v,fr,hs,_,rfl,_,hm,hd,hk,fn,hfn,_⟩:=h;obtain⟨a6,tmps,todo,defers,mode,kind,round⟩:=fr;dsimp only at hm hd hk hfn;subst hm hd hk;unfold bk EX at e;dsimp only at e;unfold unwind at e;dsimp only at e;rw[hfn] at e;dsimp only at e;rcases hr:(results fn tmps).runT p (on w τ d) #[] with⟨r,es'⟩
 rw[hr] at e;cases r with
 |ok v w' =>
  simp[cq,bW] at e;exact zU (by rw[<-e.1])
 |halt x w'=>cases x<;>simp[bW] at e
end
open Go.Conc
inductive Fz (p:bn)(a:Act)(w:J)(o:cu):Array bs->br->Prop
 |Ht {f:bh} {Aw:Array Operand} {ats:Array cr} {fn:Func} (m:Mark):(m=.disable\/m=.enable)->o.op=.call { callee:=.value (.func f),args:=Aw,argTypes:=ats }->p.funcs[f]?=bo fn->(fn.name == "runtime.NumGoroutine")=ak->fn.body.isNone=bb->Extern.findNext fn=b5 ->
   Extern.find fn=bo (λ_=>do mark m;pure Extern.Race.none_)->Fz p a w o #[⟨.mark m,ak,bb⟩] (.tuple #[])
 |GZ {f:bh} {Aw:Array Operand} {ats:Array cr} {fn:Func} {ad:Addr} (mk:Addr->Mark):(mk=.acquire\/mk=.releaseMerge)->o.op=.call { callee:=.value (.func f),args:=Aw,argTypes:=ats }->p.funcs[f]?=bo fn->(fn.name == "runtime.NumGoroutine")=ak->fn.body.isNone=bb->Extern.findNext fn=b5 ->
   Extern.find fn=bo (Extern.Race.marked mk)->(Aw.map a.eval)[0]?=bo (.pointer (bo ad))->(∃u,w.cell? ad=bo u)->Fz p a w o #[⟨.mark (mk ad),ak,bb⟩] (.tuple #[])
 |conv {s d t:cr} {x:Operand} {ad:Addr}:o.op=.convert s d x->p.underlying s=bo (.pointer t)->p.underlying d=bo .unsafePointer->(p.info? t).map (λi=>decide (i.size=0))=bo ak->a.eval x=.pointer (bo ad)->(∃u,w.cell? ad=bo u)->Fz p a w o #[] (.pointer (bo ad))
section
variable {p:bn} {main:Bool} {b:bc} {a:Act} {k:List b9} {cs:List bc} {w W:J} {ops:Array cu} {i:Nat} {rest:List Nat} {o:cu} {es:Array bs} {v:br}
def Fz.step (h:Fz p a w o es v)(ho:ops[i]?=bo o)(hw:bA o (yielded ops a.tmps)=bb)(hk:b.kind≠.early) :
  bk p main (EX (b.at a (.inRegion ops (i::rest)::k)) cs) w=.go (EX (b.at (a.put o.dst v) (.inRegion ops rest::k)) cs) w es:=by
 cases h with
 |Ht m hm hop hf hn hb hx he=>exact stepG_mark0 m (by rcases hm with rfl|rfl<;>simp) ho hw hk hop hf hn hb hx he
 |GZ mk hm hop hf hn hb hx he hp=>exact stepG_markAt mk (by rcases hm with rfl|rfl<;>simp) ho hw hk hop hf hn hb hx he hp
 |@conv s d t x ad hop hs hd hz hx hc =>
  obtain⟨u,hc⟩:=hc;have a6:a.eval x=.pointer (bo ad):=hx;have e1:execOp a.eval o=(do let r<-convert s d (a.eval x);pure (.value r)):=by unfold execOp;rw[hop]
  have hr:=run_convert_to_unsafe hs hd hz hc;rw[show EX (b.at a (.inRegion ops (i::rest)::k)) cs=Go.Conc.G (b.at a (.inRegion ops (i::rest)::k)) cs from rfl,stepG_value (v:=.pointer (bo ad)) (w':=w) ho hw hk (by rw[e1,a6];simp[hr,Result.andThen])];have:listed p b.fn a o w=#[]:=by
   unfold listed;rw[e1,a6];have he:=events_convert_to_unsafe hs hd hz hc #[];simp[he,hr,Result.evThen,seen_none]
  rw[this];rfl
def Fz.same (h:Fz p a w o es v)(hs:Et w W):Fz p a W o es v:=by
 have hc:∀ad:Addr,W.cell? ad=w.cell? ad:=λad=>by unfold World.cell?;rw[hs.1]
 cases h with
 |Ht m hm hop hf hn hb hx he=>exact .Ht m hm hop hf hn hb hx he
 |GZ mk hm hop hf hn hb hx he hp hu=>exact .GZ mk hm hop hf hn hb hx he hp (hu.imp λu e=>(hc _).trans e)
 |conv hop hs hd hz hx hu=>exact .conv hop hs hd hz hx (hu.imp λu e=>(hc _).trans e)
end
inductive GM (β:Em):Array bs->Array bs->Prop
 |Ht (m:Mark):(m=.disable\/m=.enable)->GM β #[⟨.mark m,ak,bb⟩] #[⟨.mark m,ak,bb⟩]
 |GZ {b B:Nat} (o:Nat) (s:Option Nat) (mk:Addr->Mark):(mk=.acquire\/mk=.releaseMerge)->β b B->GM β #[⟨.mark (mk ⟨b,o,s⟩),ak,bb⟩] #[⟨.mark (mk ⟨B,o,s⟩),ak,bb⟩]
 |none:GM β #[] #[]
def GM.deaf {β:Em}{es ES:Array bs}(h:GM β es ES)(d:Nat):b7 d ES=b7 d es:=by
 cases h with
 |Ht m hm=>rfl
 |GZ o s mk hm hb=>rcases hm with rfl|rfl<;>rfl
 |none=>rfl
section
variable {P:ED} {SB:bh->Bool} {H:Hid} {zZ:Bool} {BB:bh->Bool} {T:List bc} {β:Em} {Gn:Nat}
def K6 {S:Fy}{ad:Addr}{V:br}(h:DZ S β (.pointer (bo ad)) V):∃B,β ad.block B/\V=.pointer (bo ⟨B,ad.off,ad.spot⟩):=by
 cases h with
 |ptr o s hb=>exact⟨_,hb,rfl⟩
def Lq (aF:∀(f:bh) (fn:Func),P.a.funcs[f]?=bo fn->fn.body.isNone=bb->P.fs[f]?=bo fn){main2:Bool}{b:bc}{a:Act}{ops:Array cu}{i:Nat}{rest:List Nat}{k:List b9}{cs:List bc}{g2:Z}{w W:J}{o:cu}{es:Array bs}{v:br}
  (hb:BB b.fn=bb) (hg:FX P SB H zZ BB T β (EX (b.at a (.inRegion ops (i::rest)::k)) cs) g2) (hw:EI (SP SB H) (CK P.a SB zZ) Gn β w W) (ho:ops[i]?=bo o) (hwt:bA o (yielded ops a.tmps)=bb) (hk:b.kind≠.early) (h:Fz P.a a w o es v) :
  ∃a8 ES,bk P.b main2 g2 W=.go a8 W ES/\FX P SB H zZ BB T β (EX (b.at (a.put o.dst v) (.inRegion ops rest::k)) cs) a8/\GM β es ES/\∀e∈ES,∀ad,e.loc=.mark (.acquire ad)\/e.loc=.mark (.releaseMerge ad)->ad.block<W.heap.size:=by
 have aC:Er P.a SB H zZ β (b.at a (.inRegion ops (i::rest)::k)) g2.frame:=hg.top.IP hb;obtain⟨FR,CS,st,dy,off⟩:=g2;obtain⟨_,hc,⟨_,h3⟩,⟨_,h4⟩,⟨_,h5⟩⟩:=hg;dsimp only at aC hc h3 h4 h5;subst h3 h4 h5;have aD:=aC;obtain⟨GY,A,Hs,aA,aH,aI,round'⟩:=FR;obtain⟨f1,f2,f3,f4,f5,f6,f7,f8⟩:=aC;dsimp only[Frame.at] at f1 f2 f3 f4 f5 f6 f7 f8;subst f1 f6;cases f5;cases f8;cases f3 with
 |@cons _ I _ K hi hK =>
 cases hi with
 |inRegion hall =>
 have hy:yielded ops A=yielded ops a.tmps:=(funext λj=>i4 f2 ops j).symm;have a7:cy P.a SB zZ (b5:Option Nat).isNone o=true:=by
  have:=(Ba.1 hall) o (Bi ho);exact this
 have ev:∀x,ai SB x=bb->DZ (SP SB H) β (a.eval x) (Act.eval ⟨A,aA⟩ x):=λx hx=>by
  have:=aD.eval hx;rw[Frame.eval_at] at this;exact this
 have inW:∀ad B,β ad.block B->(∃u,w.cell? ad=bo u)->∃u,W.cell? ⟨B,ad.off,ad.spot⟩=bo u:=by
  rintro ad B a6 ⟨u,hu⟩;cases hh:H ad.block with
  |true =>
   have:=(hw.FV _ _ a6 hh).1;unfold World.cell? at hu;rw[this] at hu;cases hu
  |false =>
   obtain⟨o',O',e1,e2,e3⟩:=hw.FJ _ _ a6 hh;unfold World.cell? at hu ⊢;rw[e1] at hu;rw[e2];cases e3 with
   |@cells c C t f F hc' hf' =>
    dsimp only at hu ⊢;split at hu
    .cases hu
    .rename_i hsp;rw[AD hsp];have:=(Az.1 hu).1;have hs:=hc'.size;exact⟨C[ad.off]'(by omega),AK _⟩
   |_=>cases hu
 have fin : ∀ (v V : br) (ES : Array bs) , DZ (SP SB H) β v V -> Fz P.b ⟨A, aA⟩ W o ES V -> GM β es ES -> (∀ e ∈ ES, ∀ ad, e.loc = .mark (.acquire ad) ∨ e.loc = .mark (.releaseMerge ad) -> ad.block < W.heap.size) ->
   ∃a8 ES,bk P.b main2 ⟨⟨b.fn,A,.inRegion ops (i::rest)::K,aA,.run,b.kind,b5⟩,CS,.running,b5,b5⟩ W=.go a8 W ES/\FX P SB H zZ BB T β (EX (b.at (a.put o.dst v) (.inRegion ops rest::k)) cs) a8/\GM β es ES/\∀e∈ES,∀ad,e.loc=.mark (.acquire ad)\/e.loc=.mark (.releaseMerge ad)->ad.block<W.heap.size:=by
  intro v V ES hv hs he hl;have zG:=hs.step (main:=main2) (b:=b) (k:=K) (cs:=CS) (rest:=rest) ho (by show bA o (yielded ops A)=bb;rw[hy];exact hwt) hk;refine⟨_,ES,zG,⟨.on ?_,hc,⟨rfl,rfl⟩,⟨rfl,rfl⟩,⟨rfl,rfl⟩⟩,he,hl⟩;have h2:=bp (P:=P) aD hv;rw[b6,ho] at h2;have e2:(⟨b.fn,A,.inRegion ops (i::rest)::K,aA,.run,b.kind,b5⟩:bc)=b.at ⟨A,aA⟩ (.inRegion ops (i::rest)::K):=rfl
  rw[e2,b6,ho] at h2;exact h2
 cases h with
 |@Ht f Aw ats fn m hm hop hf hn hb' hx he =>
  exact fin _ _ _ (.tuple rfl (by simp)) (.Ht m hm hop (aF f fn hf hb') hn hb' hx he) (.Ht m hm) (by
   intro e aB ad h;simp only[B8,AJ,AG,or_false] at aB;subst aB
   rcases hm with rfl|rfl<;>rcases h with h|h<;>cases h)
 |@GZ f Aw ats fn ad mk hm hop hf hn hb' hx he hp hu =>
  have has:Aw.all (ai SB)=true:=by
   unfold cy dH Nh Kj at a7;rw[hop] at a7;simp only[bJ,AN,Bm] at a7;obtain h|h:=a7
   .exact h.1.1.1
   .exact h.2.1.2
  obtain⟨x0,hx0,hx1⟩:∃x,Aw[0]?=bo x/\a.eval x=.pointer (bo ad):=by
   rw[BG] at hp;cases h0:Aw[0]? with
   |none=>rw[h0] at hp;cases hp
   |some x=>rw[h0] at hp;exact⟨x,rfl,Option.some.inj hp⟩
  have hv:=ev x0 ((Ba.1 has) x0 (Bi hx0));rw[hx1] at hv;obtain⟨B,a6,hV⟩:=K6 hv;obtain⟨b',o',s'⟩:=ad
  exact fin _ _ _ (.tuple rfl (by simp)) (.GZ (ad:=⟨B,o',s'⟩) mk hm hop (aF f fn hf hb') hn hb' hx he (by rw[BG,hx0];exact AX bo hV) (inW _ _ a6 hu)) (.GZ o' s' mk hm a6) (by
   intro e aB ad h;simp only[B8,AJ,AG,or_false] at aB;subst aB;have hBl:=(hw.lt a6).2
   rcases hm with rfl|rfl<;>rcases h with h|h<;>first|(cases h;exact hBl)|cases h)
 |@conv s d t x ad hop hs hd hz hx hu =>
  have aG:ai SB x=true:=by
   unfold cy dH Nh Kj at a7;rw[hop] at a7;simp only[AN,Bm] at a7;obtain h|h:=a7
   .exact h.1.1.2
   .exact h.2.2
  have hv:=ev x aG;rw[hx] at hv;obtain⟨B,a6,hV⟩:=K6 hv;obtain⟨b',o',s'⟩:=ad;exact fin _ _ _ (.ptr o' s' a6) (.conv hop hs hd hz hV (inW _ _ a6 hu)) .none (by simp)
end
inductive EO (p:bn)(BB:bh->Bool)(Q:Z->J->Prop):Nat->Z->J->Prop
 |fin {g:Z} {w:J}:Q g w->EO p BB Q 0 g w
 |next {d:Nat} {g:Z} {w:J} (ng:b8->Nat->Z) (nw:b8->Nat->J):Fa p BB g w->(∀τ d,(∃es,bk p bb g (on w τ d)=.go (ng τ d) (nw τ d) es)/\(ng τ d).callers≠[])->(∀τ n,EO p BB Q d (ng τ n) (nw τ n))->EO p BB Q d g w
 | spec {d : Nat} {b : bc} {a : Act} {ops : Array cu} {i : Nat} {rest : List Nat} {k : List b9} {cs : List bc} {w : J} {o : cu} {es : Array bs} {v : br} : BB b.fn = bb -> cs ≠ [] -> ops[i]? = bo o -> bA o (yielded ops a.tmps) = bb -> b.kind ≠ .early -> Fz p a w o es v ->
   (∀τ n,EO p BB Q (b7 d es) (EX (b.at (a.put o.dst v) (.inRegion ops rest::k)) cs) (on w τ n))->EO p BB Q d (EX (b.at a (.inRegion ops (i::rest)::k)) cs) w
section
variable {p:bn} {BB:bh->Bool} {Q Q':Z->J->Prop} {d:Nat} {g:Z} {w W:J}
def EO.of (h:Ee p (Fa p BB) Q g w):EO p BB Q 0 g w:=by
 induction h with
 |fin h=>exact .fin h
 |next ng nw h1 h2 _ ih=>exact .next ng nw h1 h2 ih
def EO.bind (h:EO p BB Q d g w)(k:∀g w,Q g w->EO p BB Q' 0 g w):EO p BB Q' d g w:=by
 induction h with
 |fin h=>exact k _ _ h
 |next ng nw h1 h2 _ ih=>exact .next ng nw h1 h2 ih
 |spec h1 h2 h3 h4 h5 h6 _ ih=>exact .spec h1 h2 h3 h4 h5 h6 ih
def EO.mono (h:EO p BB Q d g w)(hq:∀g w,Q g w->Q' g w):EO p BB Q' d g w:=h.bind λg w h=>.fin (hq g w h)
def EO.same (hQ:∀g w W,Et w W->Q g w->Q g W)(h:EO p BB Q d g w):∀ {W:J},Et w W->EO p BB Q d g W:=by
 induction h with
 |fin h=>exact λhs=>.fin (hQ _ _ _ hs h)
 |@next d g w ng nw h1 h2 h3 _ =>
  intro W hs;have e:∀τ n,on W τ n=on w τ n:=λτ n=>by rw[hs.eq];rfl
  exact .next ng nw h1 (λτ n=>by rw[e];exact h2 τ n) h3
 |@spec d b a ops i rest k cs w o es v h1 h2 h3 h4 h5 h6 h7 _ =>
  intro W hs;have e:∀τ n,on W τ n=on w τ n:=λτ n=>by rw[hs.eq];rfl
  exact .spec h1 h2 h3 h4 h5 (h6.same hs) (λτ n=>by rw[e];exact h7 τ n)
def EO.step (hf:Fa p BB g w)(h:∀τ n,∃g' w' es,bk p bb g (on w τ n)=.go g' w' es/\g'.callers≠[]/\EO p BB Q d g' w'):EO p BB Q d g w :=
 .next (λτ n=>M (h τ n)) (λτ n=>M (Y (h τ n))) hf
  (λτ n=>by
   obtain⟨es,h1,h2,_⟩:=Y (Y (h τ n))
   exact⟨⟨es,h1⟩,h2⟩)
  (λτ n=>by
   obtain⟨es,_,_,h3⟩:=Y (Y (h τ n))
   exact h3)
end
section
variable {p:bn} {EB:bh->Bool} {H:Hid} {G:Nat} {BB:bh->Bool} {T:List bc} {β:Em}
def cG {q:bn}{f F:bc}(h:Er p EB H ak β f F)(hn:∀f,EB f=bb->dI q f=ak)(hu:∀t,q.underlying t=p.underlying t):∀o,f.oper?=bo o->aN q o.op=true:=λo ho=>by
 have key:∀(t U:List b9),E5 (F5 p EB H ak f.roundOf.isNone β) t U->(match t with|.inRegion ops (i::_)::_=>ops[i]?|_=>b5)=bo o->aN q o.op=true:=by
  intro t U h e;cases h with
  |nil=>cases e
  |cons hi _ =>
   cases hi with
   |@inRegion ops l a6 =>
    cases l with
    |nil=>cases e
    |cons i rest =>
     simp only[Ba] at a6;have:=a6 o (Bi e);unfold cy at this;simp only[B9,C6,AN] at this;exact tN this.1 hn hu
   |_=>cases e
 refine key f.todo F.todo h.todo ?_;unfold cf at ho;exact ho
def lS {zZ:Bool}{c:bc}{cs l m:List bc}(h:Fu p EB H zZ (c::cs) β l m):m≠[]:=by
 cases h<;>simp
end
def i5 {p:bn}{f:bh}{fn:Func}{s:String}(h:p.funcs[f]?=bo fn)(hb:fn.body=bo (.refuse s))(a:Array br)(k:CallKind)(cs:List bc)(w:J)(main:Bool){g':Z}{w':J}{es:Array bs} :
  bk p main (EX (bq p f a k) cs) w≠.go g' w' es:=by
 intro e;simp[bk,EX,bq,h,hb,stepG.exec] at e
section
variable {P:ED} {EB BC BB:bh->Bool} {H:Hid} {G:Nat}
def kE (P:ED)(EB BC:bh->Bool):Prop:=∀f,EB f=bb\/aP EB f=bb->BC f=ak->∃fn s,P.a.funcs[f]?=bo fn/\fn.body=bo (.refuse s)
def tP (zG:kE P EB BC){T:List bc}{β:Em}{g g2:Z}{w:J}(hg:FX P EB H ak BC T β g g2){g':Z}{w':J}{es:Array bs}(e:bk P.a bb g w=.go g' w' es):Er P.a EB H ak β g.frame g2.frame:=by
 have eg:=hg.EX;have a6:=hg.top;generalize hf:g.frame=fr at a6 ⊢;generalize g2.frame=FR at a6 ⊢;cases a6 with
 |on h=>exact h
 |@stop f a A k h1 h2 h3 h4 =>
  exfalso;obtain⟨fn,s,q1,q2⟩:=zG f h1 h2;rw[eg,hf] at e;exact i5 q1 q2 _ _ _ _ _ e
def ry {P:ED}{fr F:bc}{β:Em}(h:Er P.a EB H ak β fr F):MT P.a EB fr:=NW (P:=P.a) (SB:=EB) (H:=H) h
def Ee.swap (Lc:Lib P EB H ak BC G)(zG:kE P EB BC)(hb:∀f,EB f=bb->BB f=bb){Qa:Z->J->Prop}{c:bc}{cs:List bc}{g:Z}{w:J}(h:Ee P.a (Self P.a EB H G) Qa g w) :
  ∀ {β:Em} {g2:Z},KD H β->FX P EB H ak BC (c::cs) β g g2->EI (SP EB H) (CK P.a EB ak) G β w w ->
  Ee P.b (Fa P.b BB) (λa7 w'=>∃g' w0 D6,Qa g' w0/\Et w0 w'/\KD H D6/\FX P EB H ak BC (c::cs) D6 g' a7/\EI (SP EB H) (CK P.a EB ak) G D6 w0 w0) g2 w:=by
 induction h with
 |@fin g w hq=>exact λhi hg hw=>.fin ⟨_,_,_,hq,⟨rfl,rfl,rfl⟩,hi,hg,hw⟩
 |@next g w ng nw h1 h2 _ ih =>
  intro β g2 hi hg hw;have a6:Er P.a EB H ak β g.frame g2.frame:=by
   obtain⟨⟨es,e⟩,_⟩:=h2 w.tape w.drawn;exact tP zG hg e
  have eF:g.frame=g2.frame:=Er.id (P:=ED.of P.a) hi a6;have a8:Fa P.b BB g2 w:=by
   have hf:BB g.frame.fn=bb/\∀o,g.frame.oper?=bo o->aN P.b o.op=true:=⟨hb _ a6.late.2,cG a6 (λf h=>(Lc.nm f h).2) λ_=>rfl⟩;unfold Fa;rw[<-eF];exact hf
  refine Ee.step a8 λτ d=>?_;obtain⟨⟨es,e⟩,hn⟩:=h2 τ d;have hw':EI (SP EB H) (CK P.a EB ak) G β (on w τ d) (on w τ d):=hw.same rfl rfl rfl;have:=dR (P:=P) (main:=bb) (main2:=bb) Lc hg a6 (λ_=>ry a6) hw' (n:=(nw τ d).drawn) (λ_ _ _=>rfl) (by rw[e];exact Db _ _);rw[e] at this;obtain⟨h0,_⟩|⟨D6,a7,W',ES,k1,k2,k3⟩:=this
  .exact AI h0 hn
  obtain⟨i1,i2⟩:=k3.same hi rfl;have hr:=ih τ d i1 k2 (k3.rel.same rfl i2 rfl);refine⟨a7,W',ES,k1,lS k2.callers,hr.same (λ_ _ _ _ x=>x) (λg w W s x=>?_) ⟨i2.symm,?_,?_⟩⟩
  .obtain⟨g1,w0,aA,x1,x2,x3⟩:=x;exact⟨g1,w0,aA,x1,x2.trans s,x3⟩
  .rw[k3.OS,k3.os]
  .rw[k3.OUT,k3.out]
end
def EK (K:Nat->Prop):Em:=λb B=>K b/\b=B
def cut (K:Nat->Prop)(β:Em):Em:=λb B=>K b/\β b B
section
variable {S S1:Fy} {K:Nat->Prop} {β:Em}
def Ip.cut {f F:Fn}(r:Ip S β f F)(k:Ip S1 (EK K) f f):Ip S1 (cut K β) f F:=by
 cases r with
 |func _=>cases k with|func h=>exact .func h
 |yield hl _=>cases k with|yield h1 h2=>exact .yield ⟨h1.1,hl⟩ h2
def DZ.cut {v V:br}(hb:S1.hid.bl=bb)(r:DZ S β v V)(k:DZ S1 (EK K) v v):DZ S1 (cut K β) v V:=by
 induction r with
 |bool b=>exact .bool b
 |int ik n=>exact .int ik n
 |string s=>exact .string s
 |Hc=>exact .Hc
 |ptr o s h1=>cases k with|ptr _ _ h=>exact .ptr o s ⟨h.1,h1⟩
 |GL l c=>exact .GL l c
 |slice o s l c h1=>cases k with|slice _ _ _ _ h=>exact .slice o s l c ⟨h.1,h1⟩|Fb _=>exact .Fb (.inr hb)
 |func hf h1 _ h2 _ i1 i2 =>
  cases k with
  |ET _=>cases hf
  |func kf _ k1 _ k2=>exact .func (hf.cut kf) h1 (λi v V hv hV=>i1 i v V hv hV (k1 i v v hv hv)) h2 (λi v V hv hV=>i2 i v V hv hV (k2 i v v hv hv))
 |nilFunc=>exact .nilFunc
 |GX=>exact .GX
 |Gq=>exact .Gq
 |nilIface=>exact .nilIface
 |iface t _ ih=>cases k with|iface _ k=>exact .iface t (ih k)
 |agg h1 _ i1=>cases k with|agg _ k1=>exact .agg h1 λi v V hv hV=>i1 i v V hv hV (k1 i v v hv hv)
 |tuple h1 _ i1=>cases k with|tuple _ k1=>exact .tuple h1 λi v V hv hV=>i1 i v V hv hV (k1 i v v hv hv)
 |blank _ h2=>exact .blank (.inr hb) h2
 |ET _=>exact .ET (.inr hb)
 |Fb _=>exact .Fb (.inr hb)
def D8.cut (hb:S1.hid.bl=bb){x X:Array br}(r:D8 S β x X)(k:D8 S1 (EK K) x x):D8 S1 (cut K β) x X:=⟨r.size,λi v V hv hV=>(r.at_ i v V hv hV).cut hb (k.at_ i v v hv hv)⟩
def E5.cut {α:Type}{R R1 R2:α->α->Prop}(h:∀a A,R a A->R1 a a->R2 a A){l L:List α}(r:E5 R l L)(k:E5 R1 l l):E5 R2 l L:=by
 induction r with
 |nil=>exact .nil
 |cons ha _ ih=>cases k with|cons k1 k2=>exact .cons (h _ _ ha k1) (ih k2)
def FH.cut (hb:S1.hid.bl=bb){d D:Deferred}(r:FH S β d D)(k:FH S1 (EK K) d d):FH S1 (cut K β) d D:=by
 cases r with
 |fn f c a=>cases k with
  |fn f' c' a'=>exact .fn (f.cut f') (c.cut hb c') (a.cut hb a')
  |ET a A h1 h2 h3=>cases h2;cases f
 |nil a=>cases k with
  |nil a'=>exact .nil (a.cut hb a')
  |ET a A h1 h2 h3=>cases h2
 |collected r _=>cases k with
  |collected h1 h2=>exact .collected ⟨h1.1,r⟩ h2
  |ET a A h1 h2 h3=>cases h2
 |ET a A h1 h2 h3 =>
  subst h2;cases k with
  |fn f c a'=>cases f
  |ET a' A' k1 k2 k3 =>
   have e:a'=a:=(Array.append_right_inj _ |>.1 (AX Deferred.args k2)).symm;subst e;have e:A'=a':=by
    obtain k3|⟨_,n,c,x,k3⟩:=k3
    .exact Array.append_right_inj _ |>.1 (AX Deferred.args k3).symm
    .exact(Array.append_inj_right' (AX Deferred.args k3) k1.size).symm
   subst e;exact .ET _ _ (h1.cut hb k1) rfl (h3.imp (λh=>h) λh=>⟨hb,h.2⟩)
def EW.cut (hb:S1.hid.bl=bb){Ck Ck1:Code->Prop}{o O:Obj}(r:EW S Ck β o O)(k:EW S1 Ck1 (EK K) o o):EW S1 Ck1 (cut K β) o O:=by
 cases r with
 |cells a f=>cases k with|cells a' _=>exact .cells (a.cut hb a') f
 |loop p a b x d h=>cases k with|loop p' a' b' x' d' h'=>exact .loop p' a' b' (x.cut hb x') ⟨d'.1,d⟩ h'
 |number o s l hb=>cases k with|number _ _ _ h=>exact .number o s l ⟨h.1,hb⟩
 |taken=>exact .taken
 |defs l=>cases k with|defs l'=>exact .defs (l.cut (λ_ _=>FH.cut hb) l')
def EW.Qz {Ck:Code->Prop}{c:Array br}{t:cr}{f f1:Nat×Nat}{O:Obj}(r:EW S Ck β (.cells c t f) O)(h:∀i,f.1<=i->i<f.2->f1.1<=i/\i<f1.2):EW S Ck β (.cells c t f1) O:=by
 cases r with
 |cells a z=>exact .cells a λi h1 h2=>let ⟨p,q⟩:=z i h1 h2;h i p q
end
section
variable {p:bn} {SB:bh->Bool} {H H1:Hid} {zZ:Bool} {K:Nat->Prop} {β:Em}
def F5.cut {ad:Bool}{i I:b9}(r:F5 p SB H zZ ad β i I)(k:F5 p SB H1 zZ ad (EK K) i i):F5 p SB H1 zZ ad (Go.Eu.cut K β) i I:=by
 cases r with
 |code c=>exact .code c
 |inBlock id=>exact .inBlock id
 |inLoop c=>exact .inLoop c
 |inScope c=>exact .inScope c
 |inRegion c=>exact .inRegion c
 |inRangeFunc a _=>cases k with|inRangeFunc h1 h2=>exact .inRangeFunc ⟨h1.1,a⟩ h2
 |endRangeFunc a _=>cases k with|endRangeFunc h1 h2=>exact .endRangeFunc ⟨h1.1,a⟩ h2
 |beginRound=>exact .beginRound
def Jd.cut (hb:H1.bl=bb){i I:PanicEntry}(r:Jd SB H β i I)(k:Jd SB H1 (EK K) i i):Jd SB H1 (Go.Eu.cut K β) i I:=by
 cases r with
 |mk a b v=>cases k with|mk _ _ k=>exact .mk a b (v.cut hb k)
def Jm.cut (hb:H1.bl=bb){i I:FrameMode}(r:Jm SB H β i I)(k:Jm SB H1 (EK K) i i):Jm SB H1 (Go.Eu.cut K β) i I:=by
 cases r with
 |run=>exact .run
 |returning=>exact .returning
 |panicking l=>cases k with|panicking l'=>exact .panicking (l.cut (λ_ _=>Jd.cut hb) l')
def Hr.cut {i I:Option Nat}(r:Hr H β i I)(k:Hr H1 (EK K) i i):Hr H1 (Go.Eu.cut K β) i I:=by
 cases r with
 |none=>exact .none
 |some a _=>cases k with|some h1 h2=>exact .some ⟨h1.1,a⟩ h2
def Er.cut (hb:H1.bl=bb){f F:bc}(r:Er p SB H zZ β f F)(k:Er p SB H1 zZ (EK K) f f):Er p SB H1 zZ (Go.Eu.cut K β) f F :=
 ⟨r.fn,r.tmps.cut hb k.tmps,r.todo.cut (λ_ _=>F5.cut) k.todo,r.defers.cut (λ_ _=>FH.cut hb) k.defers,r.mode.cut hb k.mode,r.kind,r.late,r.round.cut k.round⟩
def Fu.cut (hb:H1.bl=bb){T T1:List bc}{cs CS:List bc}(r:Fu p SB H zZ T β cs CS)(k:Fu p SB H1 zZ T1 (EK K) cs cs):Fu p SB H1 zZ T (Go.Eu.cut K β) cs CS:=by
 induction r with
 |base=>exact .base
 |cons a h ih =>
  cases k with
  |base=>exact AI rfl (Fu.ne (P:=ED.of p) h)
  |cons k1 k2=>exact .cons (a.cut hb k1) (ih k2)
end
section
variable {P:ED} {SB BB:bh->Bool} {H H1:Hid} {zZ:Bool} {T:List bc} {β:Em} {Gn:Nat} {K:Nat->Prop} {g G:Z} {w w1 W:J}
structure Lr (p:bn)(SB:bh->Bool)(zZ:Bool)(H H1:Hid)(K:Nat->Prop)(g:Z)(w w1:J):Prop where
 top:Er p SB H1 zZ (EK K) g.frame g.frame
 callers:∃T1,Fu p SB H1 zZ T1 (EK K) g.callers g.callers
 FJ:∀b,K b->H1 b=ak->H b=ak/\∃o,w1.heap[b]?=bo o/\EW (SP SB H1) (CK p SB zZ) (EK K) o o /\
  (w.heap[b]?=bo o\/∃c t f f1,w.heap[b]?=bo (.cells c t f)/\o=.cells c t f1/\∀i,f.1<=i->i<f.2->f1.1<=i/\i<f1.2)
 FV:∀b,K b->H1 b=bb->w1.heap[b]?=bo (.coro b5)/\(H b=bb\/∃c t f,w.heap[b]?=bo (.cells c t f))
 size:w.heap.size<=w1.heap.size
 old:∀b,H1 b=bb->b<w1.heap.size
 env:w1.os=w.os
 EZ:H1.EZ=ak/\H.EZ=ak
 bl:H1.bl=bb
def mg (hb:BB g.frame.fn=bb)(k:Lr P.a SB zZ H H1 K g w w1)(h:FX P SB H zZ BB T β g G):FX P SB H1 zZ BB T (cut K β) g G:=by
 obtain⟨T1,hc⟩:=k.callers;exact⟨.on ((h.top.IP hb).cut k.bl k.top),h.callers.cut k.bl hc,h.status,h.dying,h.offers⟩
def mh (k:Lr P.a SB zZ H H1 K g w w1)(h:EI (SP SB H) (CK P.a SB zZ) Gn β w W):EI (SP SB H1) (CK P.a SB zZ) Gn (cut K β) w1 W:=by
 refine⟨⟨λa b=>h.Fv.fn a.2 b.2,λa b=>h.Fv.inj a.2 b.2,λa=>h.Fv.lo a.2⟩,⟨AH h.room.1 k.size,h.room.2⟩,λb B hb hh=>?_,λb B hb hh=>?_,k.old,by rw[k.env];exact h.env⟩
 .obtain⟨h0,o,e1,e2,e3⟩:=k.FJ b hb.1 hh;obtain⟨o',O,q1,q2,q3⟩:=h.FJ b B hb.2 h0;refine⟨o,O,e1,q2,?_⟩;obtain e3|⟨c,t,f,f1,e3,rfl,e4⟩:=e3
  .rw[q1] at e3;cases e3;exact q3.cut k.bl e2
  .rw[q1] at e3;cases e3;exact(q3.Qz e4).cut k.bl e2
 .obtain⟨e1,e2⟩:=k.FV b hb.1 hh;refine⟨e1,λ_=>?_,λe=>?_⟩
  .obtain e2|⟨c,t,f,e2⟩:=e2
   .exact(h.FV b B hb.2 e2).2.1 k.EZ.2
   .cases h0:H b with
    |true=>exact(h.FV b B hb.2 h0).2.1 k.EZ.2
    |false =>
     obtain⟨o',O,q1,q2,q3⟩:=h.FJ b B hb.2 h0;rw[q1] at e2;cases e2;cases q3 with
     |cells _ _=>exact⟨_,_,_,q2⟩
  .have:=k.EZ.1;have e':H1.EZ=true:=e;rw[this] at e';cases e'
end
def Dj:Hid:=⟨λ_=>ak,ak,ak⟩
section
variable {P:bn} {SB:bh->Bool} {H:Hid} {G:Nat}
def Iu (b:bc)(k:List b9)(cs:List bc)(N:Exit->Act->J->Prop)(g:Z)(w:J):Prop :=
 ∃a' w0,Et w0 w/\((N .normal a' w0/\g=EX (b.at a' k) cs)\/(N .ret a' w0/\∃todo,g=EX { b.at a' todo with mode:=.returning } cs))
def Iu.same {b:bc}{k:List b9}{cs:List bc}{N:Exit->Act->J->Prop}(g:Z)(w W:J)(h:Et w W)(q:Iu b k cs N g w):Iu b k cs N g W:=by
 obtain⟨a',w0,h1,h2⟩:=q;exact⟨a',w0,h1.trans h,h2⟩
def Ms (L:Lib (ED.of P) SB H ak SB G){b:bc}{a:Act}{c:Code}{k:List b9}{cs:List bc}{w:J}{N:Exit->Act->J->Prop}(zU:cs≠[])(hs:Self P SB H G (EX (b.at a (.code c::k)) cs) w)
  (h:∀τ d,c.wp P (λe a' w'=>(e=.normal\/e=.ret)/\N e a' w') a (on w τ d)):Ee P (Self P SB H G) (Iu b k cs N) (EX (b.at a (.code c::k)) cs) w:=by
 refine fe L Iu.same ⟨hs,λτ d=>?_⟩;obtain⟨e,a',w',⟨he,hn⟩,a6⟩:=h τ d b k cs;obtain rfl|rfl:=he
 .obtain⟨n,hr⟩:=a6;exact dm L (hs.same Di) hr zU ⟨a',w',⟨rfl,rfl,rfl⟩,.inl ⟨hn,rfl⟩⟩
 .obtain⟨todo,n,hr⟩:=a6;exact dm L (hs.same Di) hr zU ⟨a',w',⟨rfl,rfl,rfl⟩,.inr ⟨hn,todo,rfl⟩⟩
end
section
variable {P:ED} {EB BC BB:bh->Bool} {G:Nat} {Q:Z->J->Prop}
structure Mt (P:ED)(EB BC BB:bh->Bool)(G:Nat):Prop where
 la:Lib (ED.of P.a) EB Dj ak EB G
 lc:Lib P EB Dj ak BC G
 ref:kE P EB BC
 sub:∀f,EB f=bb->BB f=bb
def vP {K0:Nat->Prop}{w:J}{Ck:Code->Prop}(a6:∀b,K0 b->G<=b)(hroom:G<=w.heap.size)(a7:∀b,K0 b->∃o,w.heap[b]?=bo o/\EW (SP EB Dj) Ck (EK K0) o o):EI (SP EB Dj) Ck G (EK K0) w w:=by
 refine⟨⟨λh1 h2=>h1.2.symm.trans h2.2,λh1 h2=>h1.2.trans h2.2.symm,λ{b B} h=>⟨a6 b h.1,h.2▸a6 b h.1⟩⟩,⟨hroom,hroom⟩,λb B hb _=>?_,λb B _ hh=>(by cases hh),λb hh=>(by cases hh),rfl⟩;obtain⟨hb,rfl⟩:=hb;obtain⟨o,h1,h2⟩:=a7 b hb;exact⟨o,o,h1,h1,h2⟩
def Mt.run (B:Mt P EB BC BB G){Qa:Z->J->Prop}{fr:bc}{C:bc}{cs:List bc}{K0:Nat->Prop}{w:J}{F:bc}(ha:F7 (ED.of P.a) EB Dj ak EB (EK K0) fr fr)(hc:F7 P EB Dj ak BC (EK K0) fr F)
  (a7:∀b,K0 b->G<=b) (hroom:G<=w.heap.size) (a6:∀b,K0 b->∃o,w.heap[b]?=bo o/\EW (SP EB Dj) (CK P.a EB ak) (EK K0) o o)
  (h:Self P.a EB Dj G (EX fr [bad]) w->Ee P.a (Self P.a EB Dj G) Qa (EX fr [bad]) w) :
  Ee P.b (Fa P.b BB) (λa8 w'=>∃g' w0 D6,Qa g' w0/\Et w0 w'/\KD Dj D6/\FX P EB Dj ak BC (C::cs) D6 g' a8/\EI (SP EB Dj) (CK P.a EB ak) G D6 w0 w0) (EX F (C::cs)) w:=by
 have hi:KD Dj (EK K0):=⟨rfl,λ_ _ h=>h.2⟩;have hw:=vP (Ck:=CK P.a EB ak) a7 hroom a6;have hs:Self P.a EB Dj G (EX fr [bad]) w:=⟨_,hi,⟨ha,.base,⟨rfl,rfl⟩,⟨rfl,rfl⟩,⟨rfl,rfl⟩⟩,hw⟩;exact(h hs).swap B.lc B.ref B.sub hi ⟨hc,.base,⟨rfl,rfl⟩,⟨rfl,rfl⟩,⟨rfl,rfl⟩⟩ hw
def Mt.fn (B:Mt P EB BC BB G){f:bh}(hf:EB f=bb)(a7:BC f=bb){K0:Nat->Prop}{w:J}{args:Array br}{C:bc}{cs:List bc}(zU:cs≠[])
  (aB:∀b,K0 b->G<=b) (hroom:G<=w.heap.size) (a6:D8 (SP EB Dj) (EK K0) args args)
  (aA:∀b,K0 b->∃o,w.heap[b]?=bo o/\EW (SP EB Dj) (CK P.a EB ak) (EK K0) o o)
  (hQ:∀g w W,Et w W->Q g w->Q g W) {R:br->J->Prop}
  (hc:∀τ d,Calls P.a f args (on w τ d) (λe w'=>∃v,e=.returned v/\R v w'))
  (h:∀v w',R v w'->Ee P.b (Fa P.b BB) Q (EX (C.finish v) cs) w') :
  Ee P.b (Fa P.b BB) Q (EX (bq P.b f args .normal) (C::cs)) w:=by
 have h1:=B.run (C:=C) (cs:=cs) (E6 B.la (.inl hf) a6 .normal (by decide)) (E6 B.lc (.inl hf) a6 .normal (by decide)) aB hroom aA λhs=>H5 B.la hs hc;refine h1.bind λg2 w' hq=>?_;obtain⟨g',w0,D6,q1,q2,q3,q4,q5⟩:=hq;have aC:=q1;obtain⟨wl,vl,fr,l1,l2,l3,l4,l5⟩:=aC;have aD:BB g'.frame.fn=true:=B.sub _ (by rw[l3];show EB fr.fn=bb;rw[l4];exact hf);have a8:=q4.top.IP (by rw[l3];show BC fr.fn=bb;rw[l4];exact a7)
 have eF:g'.frame=g2.frame:=Er.id (P:=ED.of P.a) q3 a8;refine Ee.step ⟨by rw[<-eF];exact aD,λo ho=>?_⟩ λτ d=>?_
 .rw[<-eF] at ho;exact cG a8 (λf h=>(B.lc.nm f h).2) (λ_=>rfl) o ho
 .have hw':EI (SP EB Dj) (CK P.a EB ak) G D6 w0 (on w' τ d):=q5.same rfl q2.1 (by rw[show(on w' τ d).os=w'.os from rfl,q2.2.1]);obtain⟨v,wa,wb,V,W',ES,aF,e1,e2,e3,e4,e5,e6⟩:=leave (P:=P) B.lc (main2:=bb) q1 a7 q4 hw';obtain⟨i1,i2⟩:=e6.same q3 q2.1.symm;have eV:=e5.id i1;subst eV;refine⟨_,W',ES,e4,zU,(h v wa e2).same (λ_ _ _ _ x=>x) hQ ⟨?_,?_,?_⟩⟩
  .rw[<-i2,e3.1,<-e1.1]
  .rw[e6.OS,show(on w' τ d).os=w'.os from rfl,q2.2.1,e1.2.1]
  .rw[e6.OUT,show(on w' τ d).output=w'.output from rfl,q2.2.2,e1.2.2]
end
end Go.Eu
