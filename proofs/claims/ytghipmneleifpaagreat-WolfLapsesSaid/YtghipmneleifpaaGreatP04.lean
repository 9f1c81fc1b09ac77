/- Parts of the proof. -/
import Derived.Test.YtghipmneleifpaaGreatP03
import Derived.Test.YtghipmneleifpaaGreatP00
import Derived.Calls
import Derived.Conc.MarkLaws
import Derived.Conc.SmallLaws
import Derived.Laws.LoneSync
set_option linter.all false
open Go renaming Goroutine->bb,World->bh,Frame->bq,FuncId->br,Program->bs,Value->bD,Event->bW,step_lone_ended->b7,deafBehind->cq,Tape->cr,Item->cu,doReturn->cF,TypeId->cK,Oper->cU
open Classical renaming choose_spec->bc,choose->bk
open Bool renaming false->bn,true->bo
open Option renaming some->bw,none->b9
open Go.Frame renaming enter->bA,finish_at->cf,oper?->cw
open Go.Value renaming pointer->b5
open Go.Region renaming wanted->b6
open Go.GStep renaming after->b8,ended->cE
namespace Go.Ct
def on (w:bh)(τ:cr)(d:Nat):World:={ w with tape:=τ,drawn:=d }
def Cs (w W:bh):Prop:=W.heap=w.heap/\W.os=w.os/\W.output=w.output
def Bm {w:bh}{τ:cr}{d:Nat}:Cs w (on w τ d):=⟨rfl,rfl,rfl⟩
def Cs.symm {w W:bh}(h:Cs w W):Cs W w:=⟨h.1.symm,h.2.1.symm,h.2.2.symm⟩
def Cs.trans {w W X:bh}(h:Cs w W)(k:Cs W X):Cs w X:=⟨k.1.trans h.1,k.2.1.trans h.2.1,k.2.2.trans h.2.2⟩
def Cs.eq {w W:bh}(h:Cs w W):W=on w W.tape W.drawn:=by
 obtain⟨a,b,c,d,e⟩:=W;obtain⟨h1,h2,h3⟩:=h;dsimp only at *;subst h1 h2 h3
 rfl
def CV.same {S:DT}{Ck:Code->Prop}{G:Nat}{β:Cm}{w W w1 W1:bh}(h:CV S Ck G β w W)(e:w1.heap=w.heap)(E:W1.heap=W.heap)(o:w1.os.env=W1.os.env):CV S Ck G β w1 W1 :=
 ⟨h.DG,by rw[e,E];exact h.room,by rw[e,E];exact h.D8,by rw[e,E];exact h.Ej,by rw[e];exact h.old,o⟩
def Path (P:bs)(Q:bb->bh->Prop):Nat->bb->bh->Prop
 |0,g,w=>Q g w
 |n+1,g,w=>Q g w\/∃g' w' es,stepG P bo g w=.go g' w' es/\g'.callers≠[]/\Path P Q n g' w'
inductive Ch (P:bs)(Ev:bb->bh->Prop)(Q:bb->bh->Prop):bb->bh->Prop
 |fin {g:bb} {w:bh}:Q g w->Ch P Ev Q g w
 |next {g:bb} {w:bh} (ng:cr->Nat->bb) (nw:cr->Nat->bh):Ev g w->(∀τ d,(∃es,stepG P bo g (on w τ d)=.go (ng τ d) (nw τ d) es)/\(ng τ d).callers≠[])->(∀τ d,Ch P Ev Q (ng τ d) (nw τ d))->Ch P Ev Q g w
def Ch.step {P:bs}{Ev Q:bb->bh->Prop}{g:bb}{w:bh}(he:Ev g w)(h:∀τ d,∃g' w' es,stepG P bo g (on w τ d)=.go g' w' es/\g'.callers≠[]/\Ch P Ev Q g' w'):Ch P Ev Q g w :=
 .next (λτ d=>bk (h τ d)) (λτ d=>bk (bc (h τ d))) he
  (λτ d=>by
   obtain⟨es,h1,h2,_⟩:=bc (bc (h τ d))
   exact⟨⟨es,h1⟩,h2⟩)
  (λτ d=>by
   obtain⟨es,_,_,h3⟩:=bc (bc (h τ d))
   exact h3)
section
variable {P:bs} {SB:br->Bool} {H:Hid} {BB:br->Bool} {T:List bq} {β:Cm} {G:Nat}
def Rj {f F:bq}(r:Cq P SB H bn β f F):O9 P SB f:=by
 intro o ho;have key:∀(t T:List cu),Df (Ey P SB H bn f.roundOf.isNone β) t T->(match t with|.inRegion ops (i::_)::_=>ops[i]?|_=>b9)=bw o->Kk P SB o.op=false:=by
  intro t T h e;cases h with
  |nil=>cases e
  |cons hi _ =>
   cases hi with
   |@inRegion ops l Rk =>
    cases l with
    |nil=>cases e
    |cons i rest =>
     simp only[zh] at Rk;have:=Rk o (zl e);unfold cv at this;simp only[Aa,AV,yY] at this;exact uI this.1
   |_=>cases e
 refine key f.todo F.todo r.todo ?_;unfold cw at ho;exact ho
def mf {p:bs}{f:br}{fn:Func}{s:String}(h:p.funcs[f]?=bw fn)(hb:fn.body=bw (.refuse s))(a:Array bD)(k:CallKind)(cs:List bq)(w:bh)(main:Bool){g':bb}{w':bh}{es:Array bW} :
  stepG p main ⟨bA p f a k,cs,.running,b9,b9⟩ w≠.go g' w' es:=by
 intro e;simp[stepG,bA,h,hb,stepG.exec] at e
def El.af1 {T:List bq}(L:Lib (CL.of P) SB H bn SB G){g g2:bb}(hg:El (CL.of P) SB H bn SB T β g g2){main:Bool}{w:bh}{g':bb}{w':bh}{es:Array bW}(e:stepG P main g w=.go g' w' es):Cq P SB H bn β g.frame g2.frame:=by
 have DL:=hg.top;obtain⟨fr,cs,st,dy,off⟩:=g;obtain⟨_,_,⟨z1,_⟩,⟨z2,_⟩,⟨z3,_⟩⟩:=hg;dsimp only at DL z1 z2 z3 ⊢;subst z1 z2 z3;generalize g2.frame=FR at DL ⊢;cases DL with
 |on h=>exact h
 |@stop f a A k h1 h2 =>
  exfalso;rcases h1 with h1|h1
  .rw[h1] at h2;cases h2
  .obtain⟨fn,s,q1,q2⟩:=L.bars f h1;exact mf (p:=P) q1 q2 _ _ _ _ _ e
structure Self (P:bs)(SB:br->Bool)(H:Hid)(G:Nat)(g:bb)(w:bh):Prop where
 bw:∃β:Cm,KU H β/\El (CL.of P) SB H bn SB [bad] β g g/\CV (SP SB H) (CK P SB bn) G β w w
def FM (L:Lib (CL.of P) SB H bn SB G){g:bb}{w W:bh}(hs:Self P SB H G g w)(hh:Cs w W){n:Nat}(ht:JV n w W){g':bb}{w':bh}{es:Array bW}
  (hst:stepG P bo g w=.go g' w' es) (hb:w'.drawn<=w.drawn+n) (hne:g'.callers≠[]) :
  ∃W' ES,stepG P bo g W=.go g' W' ES/\Cs w' W'/\W'.tape=W.tape/\W'.drawn+w.drawn=W.drawn+w'.drawn/\w.drawn<=w'.drawn/\w'.tape=w.tape/\Self P SB H G g' w':=by
 obtain⟨β,hi,hg,hw⟩:=hs;have hw2:CV (SP SB H) (CK P SB bn) G β w W:=hw.same rfl hh.1 (by rw[hh.2.1]);have FD:=hg.af1 L hst;have hb':(aP (stepG P bo g w)).drawn<=w.drawn+n:=by rw[hst];exact hb
 have:Ef (CL.of P) SB H bn SB [bad] G β w W (stepG P bo g w) (stepG P bo g W):=dM (main:=bo) (main2:=bo) L hg FD (λ_=>Rj FD) hw2 ht hb';rw[hst] at this;rcases this with⟨h0,_⟩|⟨B8,g2,W',ES,e,h1,h2⟩
 .exact absurd h0 hne
 obtain⟨i1,i2⟩:=h2.same hi hh.1.symm;have eg:=El.id (P:=CL.of P) i1 h1;subst eg;exact⟨W',ES,e,⟨i2.symm,h2.OS.trans (hh.2.1.trans h2.os.symm),h2.OUT.trans (hh.2.2.trans h2.out.symm)⟩,h2.TAPE,h2.draws,h2.drawn,h2.tape,⟨B8,i1,h1,h2.rel.same rfl i2 rfl⟩⟩
variable {Q:bb->bh->Prop}
def pB (L:Lib (CL.of P) SB H bn SB G)(hQ:∀g w W,Cs w W->Q g w->Q g W){n:Nat}{g:bb}{w W:bh}(hs:Self P SB H G g w)(hh:Cs w W)(ht:∀m,JV m w W)(h:Path P Q n g w):Path P Q n g W:=by
 induction n generalizing g w W with
 |zero=>exact hQ _ _ _ hh h
 |succ n ih =>
  rcases h with h|⟨g',w',es,h1,h2,h3⟩
  .exact .inl (hQ _ _ _ hh h)
  .obtain⟨W',ES,e1,e2,e3,e4,e5,e6,e7⟩:=FM L hs hh (ht (w'.drawn-w.drawn)) h1 (by omega) h2;refine .inr ⟨g',W',ES,e1,h2,ih e7 e2 ?_ h3⟩;intro m i hi q;have:=ht ((w'.drawn-w.drawn)+i+1) ((w'.drawn-w.drawn)+i) (by omega) q;rw[e3,e6];rw[show w'.drawn+i=w.drawn+(w'.drawn-w.drawn+i) from by omega,show W'.drawn+i=W.drawn+(w'.drawn-w.drawn+i) from by omega];exact this
def Path.Rl {n:Nat}{g:bb}{w:bh}(h:Path P Q n g w)(hq:¬Q g w):∃m g' w' es,stepG P bo g w=.go g' w' es/\g'.callers≠[]/\Path P Q m g' w':=by
 cases n with
 |zero=>exact absurd h hq
 |succ n =>
  rcases h with h|⟨g',w',es,h⟩
  .exact absurd h hq
  .exact⟨n,g',w',es,h⟩
structure Rm (P:bs)(SB:br->Bool)(H:Hid)(G:Nat)(Q:bb->bh->Prop)(g:bb)(w:bh):Prop where
 self:Self P SB H G g w
 ends:∀τ d,∃n,Path P Q n g (on w τ d)
def Self.same {g:bb}{w W:bh}(h:Self P SB H G g w)(e:Cs w W):Self P SB H G g W:=by
 obtain⟨β,h1,h2,h3⟩:=h;exact⟨β,h1,h2,h3.same e.1 e.1 rfl⟩
def Rm.next (L:Lib (CL.of P) SB H bn SB G)(hQ:∀g w W,Cs w W->Q g w->Q g W){g:bb}{w:bh}(h:Rm P SB H G Q g w)(hq:¬Q g w){τ:cr}{d:Nat}{g':bb}{w':bh}{es:Array bW}
  (hst:stepG P bo g (on w τ d)=.go g' w' es) (hne:g'.callers≠[]):Rm P SB H G Q g' w':=by
 have hs:=h.self.same (Bm (τ:=τ) (d:=d));obtain⟨_,_,_,_,_,_,hd,PT,hs'⟩:=FM L hs (W:=on w τ d) ⟨rfl,rfl,rfl⟩ (n:=w'.drawn-(on w τ d).drawn) (λ_ _ _=>rfl) hst (by omega) hne;refine⟨hs',λτ' d'=>?_⟩
 let τ2:Tape:=λi=>if i<w'.drawn then τ i else τ' (i-w'.drawn+d')
 obtain⟨n,hp⟩:=h.ends τ2 d;obtain⟨m,g2,w2,es2,k1,k2,k3⟩:=hp.Rl (λhq'=>hq (hQ g (on w τ2 d) w ⟨rfl,rfl,rfl⟩ hq'))
 obtain⟨W',ES,e1,e2,e3,e4,e5,_,_⟩:=FM L hs (W:=on w τ2 d) ⟨rfl,rfl,rfl⟩ (n:=w'.drawn-(on w τ d).drawn) (λi hi q=>by
  show τ (d+i) q=(if d+i<w'.drawn then τ (d+i) else τ' (d+i-w'.drawn+d')) q;have:d+i<w'.drawn:=by have:(on w τ d).drawn=d:=rfl;omega
  rw[if_pos this]) hst (by omega) hne
 rw[k1] at e1;cases e1;refine⟨m,pB L hQ (hs'.same e2) (W:=on w' τ' d') ⟨e2.1.symm,e2.2.1.symm,e2.2.2.symm⟩ ?_ k3⟩;intro m i _ q;have e4':w2.drawn=w'.drawn:=by have:(on w τ2 d).drawn=d:=rfl;have:(on w τ d).drawn=d:=rfl;omega
 rw[e3,e4'];show(if w'.drawn+i<w'.drawn then τ (w'.drawn+i) else τ' (w'.drawn+i-w'.drawn+d')) q=τ' (d'+i) q;rw[if_neg (by omega),show w'.drawn+i-w'.drawn+d'=d'+i from by omega]
structure UU (P:bs)(Q:bb->bh->Prop)(C:bb->bh->Prop) where
 g:bb
 w:bh
 bad:C g w
def eX (L:Lib (CL.of P) SB H bn SB G)(hQ:∀g w W,Cs w W->Q g w->Q g W){g:bb}{w:bh}(h:Rm P SB H G Q g w):Ch P (Self P SB H G) Q g w:=by
 refine Classical.byContradiction λhno=>?_
 let C:bb->bh->Prop:=λg w=>Rm P SB H G Q g w/\¬Ch P (Self P SB H G) Q g w
 have nq:∀g w,C g w->¬Q g w:=λg w hc hq=>hc.2 (.fin hq);have next:∀x:UU P Q C,∃(τ:cr) (d:Nat) (y:UU P Q C),∃es,stepG P bo x.g (on x.w τ d)=.go y.g y.w es/\y.g.callers≠[]:=by
  rintro⟨g,w,hc⟩;have:¬ ∀τ d,∃g' w' es,stepG P bo g (on w τ d)=.go g' w' es/\g'.callers≠[]/\Ch P (Self P SB H G) Q g' w':=λhall=>hc.2 (.step hc.1.self hall);simp only[Classical.not_forall] at this;obtain⟨τ,d,hn⟩:=this;obtain⟨n,hp⟩:=hc.1.ends τ d;obtain⟨m,g',w',es,k1,k2,k3⟩:=hp.Rl (λhq'=>nq g w hc (hQ g (on w τ d) w ⟨rfl,rfl,rfl⟩ hq'));refine⟨τ,d,⟨g',w',hc.1.next L hQ (nq g w hc) k1 k2,λhr=>hn ⟨g',w',es,k1,k2,hr⟩⟩,es,k1,k2⟩
 let τ:=λx=>bk (next x)
 let d:=λx=>bk (bc (next x))
 let nx:=λx=>bk (bc (bc (next x)))
 have hnx:∀x:UU P Q C,∃es,stepG P bo x.g (on x.w (τ x) (d x))=.go (nx x).g (nx x).w es/\(nx x).g.callers≠[]:=λx=>bc (bc (bc (next x)))
 let s:Nat->UU P Q C:=λk=>Nat.rec ⟨g,w,h,hno⟩ (λ_ x=>nx x) k
 have sS:∀k,s (k+1)=nx (s k):=λk=>rfl
 let n:Nat->Nat:=λk=>(s (k+1)).w.drawn-d (s k)
 let D:Nat->Nat:=λk=>Nat.rec 0 (λk x=>x+n k) k
 have DS:∀k,D (k+1)=D k+n k:=λk=>rfl;have Dm:∀k j,D k<=D (k+j):=by
  intro k j
  induction j with
  |zero=>exact yL _
  |succ j ih=>rw[show k+(j+1)=(k+j)+1 from rfl,DS];omega
 have uniq:∀i k j,D k<=i->i<D (k+1)->D j<=i->i<D (j+1)->k=j:=by
  intro i k j h1 h2 h3 h4;rcases Nat.lt_trichotomy k j with hlt|rfl|hlt
  .have:=Dm (k+1) (j-(k+1));rw[show k+1+(j-(k+1))=j from by omega] at this;omega
  .rfl
  .have:=Dm (j+1) (k-(j+1));rw[show j+1+(k-(j+1))=k from by omega] at this;omega
 let T:Tape:=λi q=>@dite _ (∃k,D k<=i/\i<D (k+1)) (Classical.propDecidable _) (λhx=>τ (s (bk hx)) (d (s (bk hx))+(i-D (bk hx))) q) (λ_=>0)
 have hT:∀k i q,i<n k->T (D k+i) q=τ (s k) (d (s k)+i) q:=by
  intro k i q hi;have hx:∃k',D k'<=D k+i/\D k+i<D (k'+1):=⟨k,by omega,by rw[DS];omega⟩;have hc:=bc hx;have e:bk hx=k:=uniq (D k+i) _ _ hc.1 hc.2 (by omega) (by rw[DS];omega);have e1:T (D k+i) q=τ (s (bk hx)) (d (s (bk hx))+(D k+i-D (bk hx))) q:=dif_pos hx;rw[e1,e,Nat.add_sub_cancel_left]
 have stepT:∀k,∃es,stepG P bo (s k).g (on (s k).w T (D k))=.go (s (k+1)).g (on (s (k+1)).w T (D (k+1))) es:=by
  intro k;obtain⟨es,k1,k2⟩:=hnx (s k);have Wt:=(s k).bad.1.self.same (Bm (τ:=τ (s k)) (d:=d (s k)))
  obtain⟨_,_,_,_,_,_,hd,_,_⟩:=FM L Wt (W:=on (s k).w (τ (s k)) (d (s k))) ⟨rfl,rfl,rfl⟩ (n:=n k) (λ_ _ _=>rfl) k1 (by
   show(nx (s k)).w.drawn<=d (s k)+((s (k+1)).w.drawn-d (s k))
   rw[sS];omega) k2
  obtain⟨W',ES,e1,e2,e3,e4,_,_,_⟩:=FM L Wt (W:=on (s k).w T (D k)) ⟨rfl,rfl,rfl⟩ (n:=n k) (λi hi q=>(hT k i q hi).symm) k1 (by
   show(nx (s k)).w.drawn<=d (s k)+((s (k+1)).w.drawn-d (s k))
   rw[sS];omega) k2
  refine⟨ES,e1.trans ?_⟩;have e5:W'.drawn=D (k+1):=by
   have a1:(on (s k).w (τ (s k)) (d (s k))).drawn=d (s k):=rfl;have a2:(on (s k).w T (D k)).drawn=D k:=rfl;have a3:(nx (s k)).w.drawn=(s (k+1)).w.drawn:=rfl;rw[DS];show W'.drawn=D k+((s (k+1)).w.drawn-d (s k));omega
  rw[e2.eq,e3,e5]
  rfl
 have main:∀m k,¬Path P Q m (s k).g (on (s k).w T (D k)):=by
  intro m
  induction m with
  |zero=>exact λk hq=>nq _ _ (s k).bad (hQ _ (on (s k).w T (D k)) _ ⟨rfl,rfl,rfl⟩ hq)
  |succ m ih =>
   intro k hp;rcases hp with hq|⟨g',w',es,k1,_,k3⟩
   .exact nq _ _ (s k).bad (hQ _ (on (s k).w T (D k)) _ ⟨rfl,rfl,rfl⟩ hq)
   .obtain⟨ES,e⟩:=stepT k;rw[e] at k1;cases k1;exact ih (k+1) k3
 obtain⟨m,hp⟩:=h.ends T 0;exact main m 0 hp
end
def C6 (fr:bq)(cs:List bq):Goroutine:={ frame:=fr,callers:=cs,status:=.running,dying:=b9 }
section
variable {P:bs} {SB:br->Bool} {H:Hid} {T:List bq} {β:Cm} {G:Nat} {Q:bb->bh->Prop}
def El.C6 {P:CL}{lets:Bool}{BB:br->Bool}{g g':bb}(r:El P SB H lets BB T β g g'):g=Go.Ct.C6 g.frame g.callers:=by
 obtain⟨a1,a2,a3,a4,a5⟩:=g;obtain⟨_,_,⟨s1,_⟩,⟨d1,_⟩,⟨o1,_⟩⟩:=r;dsimp only at *;subst s1 d1 o1
 rfl
def PU (L:Lib (CL.of P) SB H bn SB G){fr:bq}{cs:List bq}{w:bh}(hs:Self P SB H G (C6 fr cs) w) :
  (∃Mz cs' w' es,stepG P bo (C6 fr cs) w=.go (C6 Mz cs') w' es/\cs'≠[]/\step P (lone fr cs w)=.next (lone Mz cs' w')/\Self P SB H G (C6 Mz cs') w') \/
  (∃Mz w' o w'',step P (lone fr cs w)=.next (lone Mz [] w')/\step P (lone Mz [] w')=.ended o w'') \/
  (∃o w',step P (lone fr cs w)=.ended o w'):=by
 obtain⟨β,hi,hg,hw⟩:=hs;have Pa:(∃s,(∃o w',s=cE o w' #[])/\stepG P bo (C6 fr cs) w=s)\/Cq P SB H bn β fr fr:=by
  have DL:=hg.top;change ED (CL.of P) SB H bn SB β fr fr at DL;generalize hF:fr=FR at DL;have key:∀ {f1 f2:bq},f1=fr->ED (CL.of P) SB H bn SB β f1 f2->f2=fr->(∃s,(∃o w',s=cE o w' #[])/\stepG P bo (C6 fr cs) w=s)\/Cq P SB H bn β fr fr:=by
   intro f1 f2 e1 h e2;cases h with
   |on h=>rw[e1,e2] at h;exact .inr h
   |@stop f a A k h1 h2 =>
    left
    rcases h1 with h1|h1
    .rw[h1] at h2;cases h2
    .obtain⟨fn,s,q1,q2⟩:=L.bars f h1;rw[<-e1];exact⟨_,⟨_,_,rfl⟩,by simp[stepG,C6,bA,q1,q2,stepG.exec];exact⟨rfl,rfl⟩⟩
  exact hF▸key hF.symm DL hF.symm
 rcases Pa with⟨s,⟨o,w',rfl⟩,he⟩|FD
 .exact .inr (.inr ⟨o, w', b7 (by
   show(stepG P bo (C6 fr cs) w).bare=_
   rw[he];rfl)⟩)
 have:Ef (CL.of P) SB H bn SB [bad] G β w w (stepG P bo (C6 fr cs) w) (stepG P bo (C6 fr cs) w):=dM (main:=bo) (main2:=bo) L hg FD (λ_=>Rj FD) hw (n:=(aP (stepG P bo (C6 fr cs) w)).drawn) (λ_ _ _=>rfl) (Ba _ _);generalize he:stepG P bo (C6 fr cs) w=s at this;cases s with
 |go g' w' es =>
  rcases this with⟨h0,⟨Mz,h1⟩,h2⟩|⟨B8,g2,W',ES,e,h1,h2⟩
  .subst h1;obtain⟨o,w'',es',h3⟩:=h2 P w';refine .inr (.inl ⟨Mz,w',o,w'',step_lone_go ?_,b7 ?_⟩)
   .show(stepG P bo (C6 fr cs) w).bare=_;rw[he];rfl
   .rw[h3];rfl
  .refine .inl ⟨g'.frame,g'.callers,w',es,by rw[<-h1.C6],h1.callers.ne,step_lone_go ?_,?_⟩
   .show(stepG P bo (C6 fr cs) w).bare=_;rw[he];show GStep.go g' w'=_;rw[h1.C6]
    rfl
   .rw[<-h1.C6];obtain⟨i1,i2⟩:=h2.same hi rfl;have eg:=El.id (P:=CL.of P) i1 h1;subst eg;exact⟨B8,i1,h1,h2.rel.same rfl i2 rfl⟩
 |ended o w' es =>
  refine .inr (.inr ⟨o,w',b7 ?_⟩);show(stepG P bo (C6 fr cs) w).bare=_;rw[he];rfl
 |_=>exact this.elim
def de (L:Lib (CL.of P) SB H bn SB G){n:Nat}{fr Mz:bq}{cs cs':List bq}{w w':bh}(hs:Self P SB H G (C6 fr cs) w)(h:runN P n (lone fr cs w)=.next (lone Mz cs' w'))(hne:cs'≠[])(hq:Q (C6 Mz cs') w') :
  ∃n,Path P Q n (C6 fr cs) w:=by
 induction n generalizing fr cs w with
 |zero =>
  have h:lone fr cs w=lone Mz cs' w':=by simpa [runN] using h
  have e1:w=w':=congrArg Machine.world h;have e2:#[C6 fr cs]=#[C6 Mz cs']:=congrArg Machine.gs h;have e3:C6 fr cs=C6 Mz cs':=by simpa using e2
  exact⟨0,by rw[e1,e3];exact hq⟩
 |succ n ih =>
  simp only[runN] at h;rcases PU L hs with⟨fr1,cs1,w1,es,h1,h2,h3,h4⟩|⟨fr1,w1,o,w2,h1,h2⟩|⟨o,w1,h1⟩
  .rw[h3] at h;obtain⟨m,hm⟩:=ih h4 h;exact⟨m+1,.inr ⟨_,_,_,h1,h2,hm⟩⟩
  .rw[h1] at h;cases n with
   |zero =>
    have h:lone fr1 [] w1=lone Mz cs' w':=by simpa [runN] using h
    have e2:#[C6 fr1 []]=#[C6 Mz cs']:=congrArg Machine.gs h;have e3:C6 fr1 []=C6 Mz cs':=by simpa using e2
    exact absurd (congrArg Goroutine.callers e3).symm hne
   |succ n =>
    simp only[runN] at h;rw[h2] at h;cases h
  .rw[h1] at h;cases h
def Left (P:bs)(f:br)(R:bD->bh->Prop)(g:bb)(w:bh):Prop :=
 ∃w0 v fr,Cs w0 w/\R v w0/\g=C6 fr [bad]/\fr.fn=f/\fr.leaving P w0 (.returned v)
def Left.same {f:br}{R:bD->bh->Prop}(g:bb)(w W:bh)(h:Cs w W)(k:Left P f R g w):Left P f R g W:=by
 obtain⟨w0,v,fr,h1,h2⟩:=k;exact⟨w0,v,fr,h1.trans h,h2⟩
def Gl (L:Lib (CL.of P) SB H bn SB G){f:br}{args:Array bD}{R:bD->bh->Prop}{w:bh}(hs:Self P SB H G (C6 (bA P f args .normal) [bad]) w)
  (hc:∀τ d,Calls P f args (on w τ d) (λe w'=>∃v,e=.returned v/\R v w')):Ch P (Self P SB H G) (Left P f R) (C6 (bA P f args .normal) [bad]) w:=by
 refine eX L Left.same ⟨hs,λτ d=>?_⟩;obtain⟨e,w',fr,⟨v,rfl,hr⟩,⟨n,hn⟩,hf,hl⟩:=hc τ d [bad];exact de L (hs.same Bm) hn (by simp) ⟨w',v,fr,⟨rfl,rfl,rfl⟩,hr,rfl,hf,hl⟩
end
def Ro (w:bh)(b:Nat):Prop:=∃c t f,w.heap[b]?=bw (.cells c t f)/\∀i,i<c.size->f.1<=i/\i<f.2
def Sep (S:DT)(β:Cm)(w:bh)(S':DT)(B8:Cm)(w':bh):Prop :=
 ∀b b' B,β b B->B8 b' B->S.hid b=bo\/S'.hid b'=bo\/(Ro w b/\Ro w' b')
def Sep.symm {S S':DT}{β B8:Cm}{w w':bh}(h:Sep S β w S' B8 w'):Sep S' B8 w' S β w:=by
 intro b b' B h1 h2;rcases h b' b B h2 h1 with h|h|⟨h,k⟩
 .exact .inr (.inl h)
 .exact .inl h
 .exact .inr (.inr ⟨k,h⟩)
section
variable {S S':DT} {Ck Ck':Code->Prop} {G G':Nat} {β B8 γ:Cm} {w w' v W W':bh} {ES:List bW}
def Ro.kept (f:Fin S Ck G β B8 w W w' W' ES){b B:Nat}(hb:β b B)(r:Ro w b):Ro w' b:=by
 obtain⟨c,t,z,h1,h2⟩:=r;have:=(f.ro b B c t z hb h1 h2).1;exact⟨c,t,z,this.trans h1,h2⟩
def CV.others (k:CV S' Ck' G' γ v W)(tw:S'.hid.C8=bn)(h:CV S Ck G β w W)(f:Fin S Ck G β B8 w W w' W' ES)(s:Sep S β w S' γ v):CV S' Ck' G' γ v W' where
 DG:=k.DG
 room:=⟨k.room.1,yR k.room.2 f.SIZE⟩
 D8:=λb B hb hh=>by
  obtain⟨o,O,h1,h2,h3⟩:=k.D8 b B hb hh;refine⟨o,O,h1,?_,h3⟩;rw[<-h2];by_cases hx:∃b',β b' B
  .obtain⟨b',hb'⟩:=hx;rcases s b' b B hb' hb with x|x|⟨x,_⟩
   .exact f.hk b' B hb' x
   .rw[hh] at x;cases x
   .obtain⟨c,t,z,q1,q2⟩:=x;exact(f.ro b' B c t z hb' q1 q2).2
  .exact f.KEPT B (k.lt hb).2 (λb' hb'=>hx ⟨b',hb'⟩)
 Ej:=λb B hb hh=>by
  obtain⟨h1,h2,_⟩:=k.Ej b B hb hh;refine⟨h1,λ_=>?_,λe=>by rw[tw] at e;cases e⟩;obtain⟨c,t,z,h2⟩:=h2 tw;by_cases hx:∃b',β b' B
  .obtain⟨b',hb'⟩:=hx;cases GQ:S.hid b' with
   |true=>exact⟨c,t,z,(f.hk b' B hb' GQ).trans h2⟩
   |false =>
    obtain⟨o,O,q1,q2,q3⟩:=h.D8 b' B hb' GQ;obtain⟨o',O',p1,p2,p3⟩:=f.rel.D8 b' B (f.le _ _ hb') GQ;have PS:=f.kind b' (h.lt hb').1;rw[q1,p1] at PS;rw[h2] at q2;cases q2;cases q3 with
    |cells a z' =>
     cases p3 with
     |cells a2 z2=>exact⟨_,_,_,p2⟩
     |_=>simp[DK] at PS
  .exact⟨c,t,z,(f.KEPT B (k.lt hb).2 (λb' hb'=>hx ⟨b',hb'⟩)).trans h2⟩
 old:=k.old
 env:=by rw[f.OS];exact k.env
def Sep.kept (k:CV S' Ck' G' γ v W)(f:Fin S Ck G β B8 w W w' W' ES)(s:Sep S β w S' γ v):Sep S B8 w' S' γ v:=by
 intro b b' B h1 h2;rcases f.new b B h1 with h0|⟨_,h0⟩
 .rcases s b b' B h0 h2 with x|x|⟨x,y⟩
  .exact .inl x
  .exact .inr (.inl x)
  .exact .inr (.inr ⟨x.kept f h0,y⟩)
 .have:=(k.lt h2).2;omega
end
def Dk (p:bs)(BB:br->Bool)(g:bb)(_:bh):Prop:=BB g.frame.fn=bo/\∀o,g.frame.oper?=bw o->aL p o.op=bo
def Ch.mono {p:bs}{Ev Ev' Q Q':bb->bh->Prop}(he:∀g w,Ev g w->Ev' g w)(hq:∀g w,Q g w->Q' g w){g:bb}{w:bh}(h:Ch p Ev Q g w):Ch p Ev' Q' g w:=by
 induction h with
 |fin h=>exact .fin (hq _ _ h)
 |next ng nw h1 h2 _ ih=>exact .next ng nw (he _ _ h1) h2 ih
def Ch.bind {p:bs}{Ev Q Q':bb->bh->Prop}{g:bb}{w:bh}(h:Ch p Ev Q g w)(k:∀g w,Q g w->Ch p Ev Q' g w):Ch p Ev Q' g w:=by
 induction h with
 |fin h=>exact k _ _ h
 |next ng nw h1 h2 _ ih=>exact .next ng nw h1 h2 ih
section
variable {P:CL} {SB CI:br->Bool} {H H0:Hid} {lets:Bool} {BB:br->Bool} {T:List bq} {β:Cm} {G G0:Nat}
def ED.Hh {f F:bq}(h:ED P SB H lets BB β f F)(hb:BB f.fn=bo):Cq P.a SB H lets β f F:=by
 cases h with
 |on h=>exact h
 |@stop f' _ _ _ _ h2 =>
  have hb':BB f'=true:=hb;rw[h2] at hb';cases hb'
def mg {g:bb}{w:bh}(h:Dk P.a BB g w):Ready P.a SB g:=λ_ o ho=>pw (h.2 o ho)
def follow (L:Lib P SB H lets BB G){main2:Bool}{Q:bb->bh->Prop}{g g2:bb}{w W:bh}(hr:Ch P.a (Dk P.a BB) Q g w)(hq:¬Q g w)
  (hg:El P SB H lets BB T β g g2) (hw:CV (SP SB H) (CK P.a SB lets) G β w W) :
  ∃g' w' es B8 H5 W' ES,stepG P.a bo g (on w W.tape W.drawn)=.go g' w' es/\Ch P.a (Dk P.a BB) Q g' w'/\stepG P.b main2 g2 W=.go H5 W' ES/\El P SB H lets BB T B8 g' H5 /\
   Fin (SP SB H) (CK P.a SB lets) G β B8 (on w W.tape W.drawn) W w' W' ES.toList:=by
 cases hr with
 |fin h=>exact absurd h hq
 |next ng nw h1 h2 h3 =>
  obtain⟨⟨es,e⟩,hne⟩:=h2 W.tape W.drawn;have hw':CV (SP SB H) (CK P.a SB lets) G β (on w W.tape W.drawn) W:=hw.same rfl rfl hw.env;have:=dM (main:=bo) (main2:=main2) L hg (hg.top.Hh h1.1) (mg h1) hw' (n:=(nw W.tape W.drawn).drawn) (λ_ _ _=>rfl) (by rw[e];exact Ba _ _);rw[e] at this;rcases this with⟨h0,_⟩|⟨B8,H5,W',ES,k1,k2,k3⟩
  .exact absurd h0 hne
  .exact⟨_,_,es,B8,H5,W',ES,e,h3 _ _,k1,k2,k3⟩
def JA (L:Lib P SB H lets BB G){main2:Bool}{g g2:bb}{w W:bh}{ng:cr->Nat->bb}{nw:cr->Nat->bh}(h1:Dk P.a BB g w)(h2:∀τ d,(∃es,stepG P.a bo g (on w τ d)=.go (ng τ d) (nw τ d) es)/\(ng τ d).callers≠[])
  (hg:El P SB H lets BB T β g g2) (hw:CV (SP SB H) (CK P.a SB lets) G β w W) :
  ∃g' w' es B8 H5 W' ES,stepG P.a bo g (on w W.tape W.drawn)=.go g' w' es/\(g'=ng W.tape W.drawn/\w'=nw W.tape W.drawn)/\stepG P.b main2 g2 W=.go H5 W' ES/\El P SB H lets BB T B8 g' H5 /\
   Fin (SP SB H) (CK P.a SB lets) G β B8 (on w W.tape W.drawn) W w' W' ES.toList:=by
 obtain⟨⟨es,e⟩,hne⟩:=h2 W.tape W.drawn;have hw':CV (SP SB H) (CK P.a SB lets) G β (on w W.tape W.drawn) W:=hw.same rfl rfl hw.env;have:=dM (main:=bo) (main2:=main2) L hg (hg.top.Hh h1.1) (mg h1) hw' (n:=(nw W.tape W.drawn).drawn) (λ_ _ _=>rfl) (by rw[e];exact Ba _ _);rw[e] at this;rcases this with⟨h0,_⟩|⟨B8,H5,W',ES,k1,k2,k3⟩
 .exact absurd h0 hne
 .exact⟨_,_,es,B8,H5,W',ES,e,⟨rfl,rfl⟩,k1,k2,k3⟩
end
section
variable {P:CL} {SB:br->Bool} {H:Hid} {lets:Bool} {BB:br->Bool} {T:List bq} {β:Cm} {G:Nat}
def leave (L:Lib P SB H lets BB G){main2:Bool}{f:br}{R:bD->bh->Prop}{g g2:bb}{w W:bh}{C:bq}{CS:List bq}(hl:Left P.a f R g w)(O5:BB f=bo)
  (hg:El P SB H lets BB (C::CS) β g g2) (hw:CV (SP SB H) (CK P.a SB lets) G β w W) :
  ∃v w0 w1 V W' ES B8,Cs w w0/\R v w0/\Cs w w1/\stepG P.b main2 g2 W=.go (C6 (C.finish V) CS) W' ES/\B6 (SP SB H) B8 v V /\
   Fin (SP SB H) (CK P.a SB lets) G β B8 (on w W.tape W.drawn) W w1 W' ES.toList:=by
 obtain⟨w0,v,fr,hs,hR,rfl,hf,hm,hd,hk,fn,hfn,hres⟩:=hl;have FD:=hg.top.Hh (show BB fr.fn=bo by rw[hf];exact O5);have e0:=hg.status.2;have e1:=hg.dying.2;have e2:=hg.offers.2;have hcs:=hg.callers;obtain⟨FR,CS2,st,dy,off⟩:=g2;dsimp only at e0 e1 e2 hcs FD;subst e0 e1 e2;have Wu:CS2=C::CS:=by
  cases hcs with
  |base=>rfl
  |cons _ h=>exact absurd rfl h.ne
 subst Wu;obtain⟨Ux,tmps,todo,defers,mode,kind,round⟩:=fr;obtain⟨fn2,JB,Wv,LP,Rn,aa7,Rp⟩:=FR;obtain⟨a1,a2,a3,a4,a5,a6,a7,a8⟩:=FD;dsimp only[C6] at a1 a2 a3 a4 a5 a6 a7 a8 hm hd hk hfn hres hf;subst a1 a6 hm hd hk;have d2:LP=[]:=by cases a4;rfl
 have m2:Rn=.returning:=by cases a5;rfl
 subst d2 m2;obtain⟨q,q',g1,g2,g3⟩:=L.like Ux a7.2;rw[hfn] at g1;cases g1;have H5:P.b.funcs[Ux]?=bw q':=g2;have g4:results q' JB=results fn JB:=by unfold results;rw[g3]
 have F0:CV (SP SB H) (CK P.a SB lets) G β w0 W:=hw.same hs.1.symm rfl (by rw[<-hs.2.1];exact hw.env);have hm:=jJ (P:=P) (Ck:=CK P.a SB lets) (G:=G) (S:=SP SB H) fn a2;have hrun:((results fn tmps).runT P.a w0 #[]).1=.ok v w0:=by rw[Sem.runT_fst];exact hres
 have hE:=hm w0 W 0 F0 (λi hi=>absurd hi (zU _)) #[] #[];rcases hr:(results fn tmps).runT P.a w0 #[] with⟨r,es⟩
 rw[hr] at hE hrun;dsimp only at hrun;subst hrun;obtain⟨B8,V,W',ES,k1,k2,k3⟩:=hE (yL _);refine⟨v,w0,on w0 W.tape W.drawn,V,W',seen P.b Ux ES.toArray,B8,hs.symm,hR,(hs.symm).trans Bm,?_,k2,?_⟩
 .unfold stepG;dsimp only;unfold unwind;dsimp only;rw[H5];dsimp only;rw[g4,k1];simp only[zw];show b8 _ (cF P.b main2 ⟨Ux,JB,Wv,[],.returning,.normal,Rp⟩ (C::CS) b9 V W')=_;unfold cF;simp[b8,C6]
 .have k4:=k3.seen (P:=P) (SB:=SB) (H:=H) (lets:=lets) Ux;have hh:w.heap=w0.heap:=hs.1;have dr:=k4.draws;have W'd:W'.drawn=W.drawn:=by omega
  exact {
   le:=k4.le
   rel:=k4.rel.same rfl rfl k4.rel.env
   tape:=rfl
   TAPE:=k4.TAPE
   drawn:=yL _
   draws:=by show W'.drawn+W.drawn=W.drawn+W.drawn;omega
   os:=hs.2.1.symm
   OS:=k4.OS
   out:=hs.2.2.symm
   OUT:=k4.OUT
   size:=by show w.heap.size<=w0.heap.size;rw[hh];exact yL _
   SIZE:=k4.SIZE
   new:=λb B h=>by show β b B\/(w.heap.size<=b/\_);rw[hh];exact k4.new b B h
   NEW:=k4.NEW
   frozen:=λa _=>by show w0.frozen? a=w.frozen? a;rw[ba,ba,hh]
   KEPT:=k4.KEPT
   ro:=λb B c t z hb hc hz=>by
    have hc':w0.heap[b]?=bw (.cells c t z):=by rw[<-hh];exact hc
    exact⟨by show w0.heap[b]?=w.heap[b]?;rw[hh],(k4.ro b B c t z hb hc' hz).2⟩
   kind:=λb _=>by show(w0.heap[b]?).map DK=(w.heap[b]?).map DK;rw[hh]
   evs:=λht E hE=>by
    have:=k4.evs ht E hE;cases this with
    |cell h1 h2 h3 h4=>exact .cell h1 h2 h3 h4
    |obj h1 h2=>exact .obj h1 h2
    |mark h=>exact .mark h
    |out=>exact .out
   same:=λi e=>by
    have:=k4.same i (by rw[<-hh];exact e);exact this
   hk:=k4.hk }
end
def kid (n:Nat)(d:Deferred):Goroutine:={ frame:={ (default:bq) with fn:=n,defers:=[d],mode:=.panicking [goexitEntry] },callers:=[],status:=.running,dying:=b9 }
section
variable {p:bs} {Ev Q:bb->bh->Prop}
def Ch.same (hE:∀g w W,Cs w W->Ev g w->Ev g W)(hQ:∀g w W,Cs w W->Q g w->Q g W){g:bb}{w W:bh}(h:Ch p Ev Q g w)(hs:Cs w W):Ch p Ev Q g W:=by
 cases h with
 |fin h=>exact .fin (hQ _ _ _ hs h)
 |next ng nw h1 h2 h3 =>
  refine .next ng nw (hE _ _ _ hs h1) (λτ d=>?_) h3;have e:on W τ d=on w τ d:=by
   obtain⟨a,b,c,d',e'⟩:=W;obtain⟨k1,k2,k3⟩:=hs;dsimp only at k1 k2 k3;subst k1 k2 k3
   rfl
  rw[e];exact h2 τ d
inductive Walk (p:bs)(C:bb->Prop):bb->bh->bb->bh->Prop
 |refl {g:bb} {w:bh}:Walk p C g w g w
 |step {g g' g2:bb} {w w' w2:bh} {es:Array bW}:C g->stepG p bo g w=.go g' w' es->Walk p C g' w' g2 w2->Walk p C g w g2 w2
def Ch.descend {C:bb->Prop}(hE:∀g w W,Cs w W->Ev g w->Ev g W)(hQ:∀g w W,Cs w W->Q g w->Q g W)(hC:∀g w,C g->¬Q g w){g g2:bb}{w w1 w2:bh}(h:Ch p Ev Q g w)(hs:Cs w w1)(k:Walk p C g w1 g2 w2):Ch p Ev Q g2 w2:=by
 induction k generalizing w with
 |refl=>exact h.same hE hQ hs
 |step c e _ ih =>
  cases h with
  |fin h=>exact absurd h (hC _ _ c)
  |next ng nw h1 h2 h3 =>
   rename_i w1 _ _ _ _;obtain⟨⟨es',e'⟩,_⟩:=h2 w1.tape w1.drawn;rw[<-hs.eq,e] at e';cases e';exact ih (h3 _ _) ⟨rfl,rfl,rfl⟩
def After (p:bs)(x y:bb×bh):Prop:=∃τ d es,stepG p bo y.1 (on y.2 τ d)=.go x.1 x.2 es/\x.1.callers≠[]
def Left.last {f:br}{R:bD->bh->Prop}{g:bb}{w:bh}(h:Left p f R g w)(x:bb×bh):¬After p x (g,w):=by
 rintro⟨τ,d,es,e,hne⟩;obtain⟨w0,v,fr,hs,_,rfl,_,hm,hd,hk,fn,hfn,_⟩:=h;obtain⟨Ux,tmps,todo,defers,mode,kind,round⟩:=fr;dsimp only at hm hd hk hfn;subst hm hd hk;unfold stepG C6 at e;dsimp only at e;unfold unwind at e;dsimp only at e;rw[hfn] at e;dsimp only at e;rcases hr:(results fn tmps).runT p (on w τ d) #[] with⟨r,es'⟩
 rw[hr] at e;cases r with
 |ok v w' =>
  simp[cF,b8] at e;exact hne (by rw[<-e.1])
 |halt x w'=>cases x<;>simp[b8] at e
end
open Go.Conc
inductive DU (p:bs)(a:Act)(w:bh)(o:cU):Array bW->bD->Prop
 |F8 {f:br} {yH:Array Operand} {ats:Array cK} {fn:Func} (m:Mark):(m=.disable\/m=.enable)->o.op=.call { callee:=.value (.func f),args:=yH,argTypes:=ats }->p.funcs[f]?=bw fn->(fn.name == "runtime.NumGoroutine")=bn->fn.body.isNone=bo->Extern.findNext fn=b9 ->
   Extern.find fn=bw (λ_=>do mark m;pure Extern.Race.none_)->DU p a w o #[⟨.mark m,bn,bo⟩] (.tuple #[])
 |Fx {f:br} {yH:Array Operand} {ats:Array cK} {fn:Func} {ad:Addr} (mk:Addr->Mark):(mk=.acquire\/mk=.releaseMerge)->o.op=.call { callee:=.value (.func f),args:=yH,argTypes:=ats }->p.funcs[f]?=bw fn->(fn.name == "runtime.NumGoroutine")=bn->fn.body.isNone=bo->Extern.findNext fn=b9 ->
   Extern.find fn=bw (Extern.Race.marked mk)->(yH.map a.eval)[0]?=bw (.pointer (bw ad))->(∃u,w.cell? ad=bw u)->DU p a w o #[⟨.mark (mk ad),bn,bo⟩] (.tuple #[])
 |conv {s d t:cK} {x:Operand} {ad:Addr}:o.op=.convert s d x->p.underlying s=bw (.pointer t)->p.underlying d=bw .unsafePointer->(p.info? t).map (λi=>decide (i.size=0))=bw bn->a.eval x=.pointer (bw ad)->(∃u,w.cell? ad=bw u)->DU p a w o #[] (.pointer (bw ad))
section
variable {p:bs} {main:Bool} {b:bq} {a:Act} {k:List cu} {cs:List bq} {w W:bh} {ops:Array cU} {i:Nat} {rest:List Nat} {o:cU} {es:Array bW} {v:bD}
def DU.step (h:DU p a w o es v)(ho:ops[i]?=bw o)(hw:b6 o (yielded ops a.tmps)=bo)(hk:b.kind≠.early) :
  stepG p main (C6 (b.at a (.inRegion ops (i::rest)::k)) cs) w=.go (C6 (b.at (a.put o.dst v) (.inRegion ops rest::k)) cs) w es:=by
 cases h with
 |F8 m hm hop hf hn hb hx he=>exact stepG_mark0 m (by rcases hm with rfl|rfl<;>simp) ho hw hk hop hf hn hb hx he
 |Fx mk hm hop hf hn hb hx he hp=>exact stepG_markAt mk (by rcases hm with rfl|rfl<;>simp) ho hw hk hop hf hn hb hx he hp
 |@conv s d t x ad hop hs hd hz hx hc =>
  obtain⟨u,hc⟩:=hc;have ZO:a.eval x=.pointer (bw ad):=hx;have e1:execOp a.eval o=(do let r<-convert s d (a.eval x);pure (.value r)):=by unfold execOp;rw[hop]
  have hr:=run_convert_to_unsafe hs hd hz hc;rw[show C6 (b.at a (.inRegion ops (i::rest)::k)) cs=Go.Conc.G (b.at a (.inRegion ops (i::rest)::k)) cs from rfl,stepG_value (v:=.pointer (bw ad)) (w':=w) ho hw hk (by rw[e1,ZO];simp[hr,Result.andThen])];have:listed p b.fn a o w=#[]:=by
   unfold listed;rw[e1,ZO];have he:=events_convert_to_unsafe hs hd hz hc #[];simp[he,hr,Result.evThen,seen_none]
  rw[this];rfl
def DU.same (h:DU p a w o es v)(hs:Cs w W):DU p a W o es v:=by
 have hc:∀ad:Addr,W.cell? ad=w.cell? ad:=λad=>by unfold World.cell?;rw[hs.1]
 cases h with
 |F8 m hm hop hf hn hb hx he=>exact .F8 m hm hop hf hn hb hx he
 |Fx mk hm hop hf hn hb hx he hp hu=>exact .Fx mk hm hop hf hn hb hx he hp (hu.imp λu e=>(hc _).trans e)
 |conv hop hs hd hz hx hu=>exact .conv hop hs hd hz hx (hu.imp λu e=>(hc _).trans e)
end
inductive Fe (β:Cm):Array bW->Array bW->Prop
 |F8 (m:Mark):(m=.disable\/m=.enable)->Fe β #[⟨.mark m,bn,bo⟩] #[⟨.mark m,bn,bo⟩]
 |Fx {b B:Nat} (o:Nat) (s:Option Nat) (mk:Addr->Mark):(mk=.acquire\/mk=.releaseMerge)->β b B->Fe β #[⟨.mark (mk ⟨b,o,s⟩),bn,bo⟩] #[⟨.mark (mk ⟨B,o,s⟩),bn,bo⟩]
 |none:Fe β #[] #[]
def Fe.deaf {β:Cm}{es ES:Array bW}(h:Fe β es ES)(d:Nat):cq d ES=cq d es:=by
 cases h with
 |F8 m hm=>rfl
 |Fx o s mk hm hb=>rcases hm with rfl|rfl<;>rfl
 |none=>rfl
section
variable {P:CL} {SB:br->Bool} {H:Hid} {lets:Bool} {BB:br->Bool} {T:List bq} {β:Cm} {Gn:Nat}
def LQ {S:DT}{ad:Addr}{V:bD}(h:B6 S β (.pointer (bw ad)) V):∃B,β ad.block B/\V=.pointer (bw ⟨B,ad.off,ad.spot⟩):=by
 cases h with
 |ptr o s hb=>exact⟨_,hb,rfl⟩
def MA (NX:∀(f:br) (fn:Func),P.a.funcs[f]?=bw fn->fn.body.isNone=bo->P.fs[f]?=bw fn){main2:Bool}{b:bq}{a:Act}{ops:Array cU}{i:Nat}{rest:List Nat}{k:List cu}{cs:List bq}{g2:bb}{w W:bh}{o:cU}{es:Array bW}{v:bD}
  (hb:BB b.fn=bo) (hg:El P SB H lets BB T β (C6 (b.at a (.inRegion ops (i::rest)::k)) cs) g2) (hw:CV (SP SB H) (CK P.a SB lets) Gn β w W) (ho:ops[i]?=bw o) (hwt:b6 o (yielded ops a.tmps)=bo) (hk:b.kind≠.early) (h:DU P.a a w o es v) :
  ∃H5 ES,stepG P.b main2 g2 W=.go H5 W ES/\El P SB H lets BB T β (C6 (b.at (a.put o.dst v) (.inRegion ops rest::k)) cs) H5/\Fe β es ES/\∀e∈ES,∀ad,e.loc=.mark (.acquire ad)\/e.loc=.mark (.releaseMerge ad)->ad.block<W.heap.size:=by
 have FD:Cq P.a SB H lets β (b.at a (.inRegion ops (i::rest)::k)) g2.frame:=hg.top.Hh hb;obtain⟨FR,CS,st,dy,off⟩:=g2;obtain⟨_,hc,⟨_,h3⟩,⟨_,h4⟩,⟨_,h5⟩⟩:=hg;dsimp only at FD hc h3 h4 h5;subst h3 h4 h5;have aa8:=FD;obtain⟨Fw,A,F7,Rq,IY,My,round'⟩:=FR;obtain⟨f1,f2,f3,f4,f5,f6,f7,f8⟩:=FD;dsimp only[Frame.at] at f1 f2 f3 f4 f5 f6 f7 f8;subst f1 f6;cases f5;cases f8;cases f3 with
 |@cons _ I _ K hi hK =>
 cases hi with
 |inRegion hall =>
 have hy:yielded ops A=yielded ops a.tmps:=(funext λj=>iX f2 ops j).symm;have NI:cv P.a SB lets (b9:Option Nat).isNone o=true:=by
  have:=(zh.1 hall) o (zl ho);exact this
 have ev:∀x,ah SB x=bo->B6 (SP SB H) β (a.eval x) (Act.eval ⟨A,Rq⟩ x):=λx hx=>by
  have:=aa8.eval hx;rw[Frame.eval_at] at this;exact this
 have inW:∀ad B,β ad.block B->(∃u,w.cell? ad=bw u)->∃u,W.cell? ⟨B,ad.off,ad.spot⟩=bw u:=by
  rintro ad B KX ⟨u,hu⟩;cases hh:H ad.block with
  |true =>
   have:=(hw.Ej _ _ KX hh).1;unfold World.cell? at hu;rw[this] at hu;cases hu
  |false =>
   obtain⟨o',O',e1,e2,e3⟩:=hw.D8 _ _ KX hh;unfold World.cell? at hu ⊢;rw[e1] at hu;rw[e2];cases e3 with
   |@cells c C t f F hc' hf' =>
    dsimp only at hu ⊢;split at hu
    .cases hu
    .rename_i hsp;rw[if_neg hsp];have:=(yK.1 hu).1;have hs:=hc'.size;exact⟨C[ad.off]'(by omega),yS _⟩
   |_=>cases hu
 have fin : ∀ (v V : bD) (ES : Array bW) , B6 (SP SB H) β v V -> DU P.b ⟨A, Rq⟩ W o ES V -> Fe β es ES -> (∀ e ∈ ES, ∀ ad, e.loc = .mark (.acquire ad) ∨ e.loc = .mark (.releaseMerge ad) -> ad.block < W.heap.size) ->
   ∃H5 ES,stepG P.b main2 ⟨⟨b.fn,A,.inRegion ops (i::rest)::K,Rq,.run,b.kind,b9⟩,CS,.running,b9,b9⟩ W=.go H5 W ES/\El P SB H lets BB T β (C6 (b.at (a.put o.dst v) (.inRegion ops rest::k)) cs) H5/\Fe β es ES/\∀e∈ES,∀ad,e.loc=.mark (.acquire ad)\/e.loc=.mark (.releaseMerge ad)->ad.block<W.heap.size:=by
  intro v V ES hv hs he hl;have hst:=hs.step (main:=main2) (b:=b) (k:=K) (cs:=CS) (rest:=rest) ho (by show b6 o (yielded ops A)=bo;rw[hy];exact hwt) hk;refine⟨_,ES,hst,⟨.on ?_,hc,⟨rfl,rfl⟩,⟨rfl,rfl⟩,⟨rfl,rfl⟩⟩,he,hl⟩;have h2:=bj (P:=P) aa8 hv;rw[cf,ho] at h2;have e2:(⟨b.fn,A,.inRegion ops (i::rest)::K,Rq,.run,b.kind,b9⟩:bq)=b.at ⟨A,Rq⟩ (.inRegion ops (i::rest)::K):=rfl
  rw[e2,cf,ho] at h2;exact h2
 cases h with
 |@F8 f yH ats fn m hm hop hf hn hb' hx he =>
  exact fin _ _ _ (.tuple rfl (by simp)) (.F8 m hm hop (NX f fn hf hb') hn hb' hx he) (.F8 m hm) (by
   intro e Rs ad h;simp only[z8,yT,yQ,or_false] at Rs;subst Rs
   rcases hm with rfl|rfl<;>rcases h with h|h<;>cases h)
 |@Fx f yH ats fn ad mk hm hop hf hn hb' hx he hp hu =>
  have has:yH.all (ah SB)=true:=by
   unfold cv dD PO Kk at NI;rw[hop] at NI;simp only[bL,yY,zk] at NI;rcases NI with h|h
   .exact h.1.1.1
   .exact h.2.1.2
  obtain⟨x0,hx0,hx1⟩:∃x,yH[0]?=bw x/\a.eval x=.pointer (bw ad):=by
   rw[zI] at hp;cases h0:yH[0]? with
   |none=>rw[h0] at hp;cases hp
   |some x=>rw[h0] at hp;exact⟨x,rfl,Option.some.inj hp⟩
  have hv:=ev x0 ((zh.1 has) x0 (zl hx0));rw[hx1] at hv;obtain⟨B,KX,hV⟩:=LQ hv;obtain⟨b',o',s'⟩:=ad
  exact fin _ _ _ (.tuple rfl (by simp)) (.Fx (ad:=⟨B,o',s'⟩) mk hm hop (NX f fn hf hb') hn hb' hx he (by rw[zI,hx0];exact congrArg bw hV) (inW _ _ KX hu)) (.Fx o' s' mk hm KX) (by
   intro e Rs ad h;simp only[z8,yT,yQ,or_false] at Rs;subst Rs;have hBl:=(hw.lt KX).2
   rcases hm with rfl|rfl<;>rcases h with h|h<;>first|(cases h;exact hBl)|cases h)
 |@conv s d t x ad hop hs hd hz hx hu =>
  have Pb:ah SB x=true:=by
   unfold cv dD PO Kk at NI;rw[hop] at NI;simp only[yY,zk] at NI;rcases NI with h|h
   .exact h.1.1.2
   .exact h.2.2
  have hv:=ev x Pb;rw[hx] at hv;obtain⟨B,KX,hV⟩:=LQ hv;obtain⟨b',o',s'⟩:=ad;exact fin _ _ _ (.ptr o' s' KX) (.conv hop hs hd hz hV (inW _ _ KX hu)) .none (by simp)
end
inductive C1 (p:bs)(BB:br->Bool)(Q:bb->bh->Prop):Nat->bb->bh->Prop
 |fin {g:bb} {w:bh}:Q g w->C1 p BB Q 0 g w
 |next {d:Nat} {g:bb} {w:bh} (ng:cr->Nat->bb) (nw:cr->Nat->bh):Dk p BB g w->(∀τ d,(∃es,stepG p bo g (on w τ d)=.go (ng τ d) (nw τ d) es)/\(ng τ d).callers≠[])->(∀τ n,C1 p BB Q d (ng τ n) (nw τ n))->C1 p BB Q d g w
 | spec {d : Nat} {b : bq} {a : Act} {ops : Array cU} {i : Nat} {rest : List Nat} {k : List cu} {cs : List bq} {w : bh} {o : cU} {es : Array bW} {v : bD} : BB b.fn = bo -> cs ≠ [] -> ops[i]? = bw o -> b6 o (yielded ops a.tmps) = bo -> b.kind ≠ .early -> DU p a w o es v ->
   (∀τ n,C1 p BB Q (cq d es) (C6 (b.at (a.put o.dst v) (.inRegion ops rest::k)) cs) (on w τ n))->C1 p BB Q d (C6 (b.at a (.inRegion ops (i::rest)::k)) cs) w
section
variable {p:bs} {BB:br->Bool} {Q Q':bb->bh->Prop} {d:Nat} {g:bb} {w W:bh}
def C1.of (h:Ch p (Dk p BB) Q g w):C1 p BB Q 0 g w:=by
 induction h with
 |fin h=>exact .fin h
 |next ng nw h1 h2 _ ih=>exact .next ng nw h1 h2 ih
def C1.bind (h:C1 p BB Q d g w)(k:∀g w,Q g w->C1 p BB Q' 0 g w):C1 p BB Q' d g w:=by
 induction h with
 |fin h=>exact k _ _ h
 |next ng nw h1 h2 _ ih=>exact .next ng nw h1 h2 ih
 |spec h1 h2 h3 h4 h5 h6 _ ih=>exact .spec h1 h2 h3 h4 h5 h6 ih
def C1.mono (h:C1 p BB Q d g w)(hq:∀g w,Q g w->Q' g w):C1 p BB Q' d g w:=h.bind λg w h=>.fin (hq g w h)
def C1.same (hQ:∀g w W,Cs w W->Q g w->Q g W)(h:C1 p BB Q d g w):∀ {W:bh},Cs w W->C1 p BB Q d g W:=by
 induction h with
 |fin h=>exact λhs=>.fin (hQ _ _ _ hs h)
 |@next d g w ng nw h1 h2 h3 _ =>
  intro W hs;have e:∀τ n,on W τ n=on w τ n:=λτ n=>by rw[hs.eq];rfl
  exact .next ng nw h1 (λτ n=>by rw[e];exact h2 τ n) h3
 |@spec d b a ops i rest k cs w o es v h1 h2 h3 h4 h5 h6 h7 _ =>
  intro W hs;have e:∀τ n,on W τ n=on w τ n:=λτ n=>by rw[hs.eq];rfl
  exact .spec h1 h2 h3 h4 h5 (h6.same hs) (λτ n=>by rw[e];exact h7 τ n)
def C1.step (hf:Dk p BB g w)(h:∀τ n,∃g' w' es,stepG p bo g (on w τ n)=.go g' w' es/\g'.callers≠[]/\C1 p BB Q d g' w'):C1 p BB Q d g w :=
 .next (λτ n=>bk (h τ n)) (λτ n=>bk (bc (h τ n))) hf
  (λτ n=>by
   obtain⟨es,h1,h2,_⟩:=bc (bc (h τ n))
   exact⟨⟨es,h1⟩,h2⟩)
  (λτ n=>by
   obtain⟨es,_,_,h3⟩:=bc (bc (h τ n))
   exact h3)
end
section
variable {p:bs} {CI:br->Bool} {H:Hid} {G:Nat} {BB:br->Bool} {T:List bq} {β:Cm}
def cA {q:bs}{f F:bq}(h:Cq p CI H bn β f F)(hn:∀f,CI f=bo->dE q f=bn)(hu:∀t,q.underlying t=p.underlying t):∀o,f.oper?=bw o->aL q o.op=true:=λo ho=>by
 have key:∀(t U:List cu),Df (Ey p CI H bn f.roundOf.isNone β) t U->(match t with|.inRegion ops (i::_)::_=>ops[i]?|_=>b9)=bw o->aL q o.op=true:=by
  intro t U h e;cases h with
  |nil=>cases e
  |cons hi _ =>
   cases hi with
   |@inRegion ops l Rk =>
    cases l with
    |nil=>cases e
    |cons i rest =>
     simp only[zh] at Rk;have:=Rk o (zl e);unfold cv at this;simp only[Aa,AV,yY] at this;exact sR this.1 hn hu
   |_=>cases e
 refine key f.todo F.todo h.todo ?_;unfold cw at ho;exact ho
def lT {lets:Bool}{c:bq}{cs l m:List bq}(h:Dz p CI H lets (c::cs) β l m):m≠[]:=by
 cases h<;>simp
end
def iY {p:bs}{f:br}{fn:Func}{s:String}(h:p.funcs[f]?=bw fn)(hb:fn.body=bw (.refuse s))(a:Array bD)(k:CallKind)(cs:List bq)(w:bh)(main:Bool){g':bb}{w':bh}{es:Array bW} :
  stepG p main (C6 (bA p f a k) cs) w≠.go g' w' es:=by
 intro e;simp[stepG,C6,bA,h,hb,stepG.exec] at e
section
variable {P:CL} {CI BC BB:br->Bool} {H:Hid} {G:Nat}
def kE (P:CL)(CI BC:br->Bool):Prop:=∀f,CI f=bo\/aO CI f=bo->BC f=bn->∃fn s,P.a.funcs[f]?=bw fn/\fn.body=bw (.refuse s)
def sU (hst:kE P CI BC){T:List bq}{β:Cm}{g g2:bb}{w:bh}(hg:El P CI H bn BC T β g g2){g':bb}{w':bh}{es:Array bW}(e:stepG P.a bo g w=.go g' w' es):Cq P.a CI H bn β g.frame g2.frame:=by
 have eg:=hg.C6;have DL:=hg.top;generalize hf:g.frame=fr at DL ⊢;generalize g2.frame=FR at DL ⊢;cases DL with
 |on h=>exact h
 |@stop f a A k h1 h2 h3 h4 =>
  exfalso;obtain⟨fn,s,q1,q2⟩:=hst f h1 h2;rw[eg,hf] at e;exact iY q1 q2 _ _ _ _ _ e
def qQ {P:CL}{fr F:bq}{β:Cm}(h:Cq P.a CI H bn β fr F):O9 P.a CI fr:=Rj (P:=P.a) (SB:=CI) (H:=H) h
def Ch.swap (Lc:Lib P CI H bn BC G)(hst:kE P CI BC)(hb:∀f,CI f=bo->BB f=bo){Qa:bb->bh->Prop}{c:bq}{cs:List bq}{g:bb}{w:bh}(h:Ch P.a (Self P.a CI H G) Qa g w) :
  ∀ {β:Cm} {g2:bb},KU H β->El P CI H bn BC (c::cs) β g g2->CV (SP CI H) (CK P.a CI bn) G β w w ->
  Ch P.b (Dk P.b BB) (λH5 w'=>∃g' w0 B8,Qa g' w0/\Cs w0 w'/\KU H B8/\El P CI H bn BC (c::cs) B8 g' H5/\CV (SP CI H) (CK P.a CI bn) G B8 w0 w0) g2 w:=by
 induction h with
 |@fin g w hq=>exact λhi hg hw=>.fin ⟨_,_,_,hq,⟨rfl,rfl,rfl⟩,hi,hg,hw⟩
 |@next g w ng nw h1 h2 _ ih =>
  intro β g2 hi hg hw;have FD:Cq P.a CI H bn β g.frame g2.frame:=by
   obtain⟨⟨es,e⟩,_⟩:=h2 w.tape w.drawn;exact sU hst hg e
  have eF:g.frame=g2.frame:=Cq.id (P:=CL.of P.a) hi FD;have Rt:Dk P.b BB g2 w:=by
   have hf:BB g.frame.fn=bo/\∀o,g.frame.oper?=bw o->aL P.b o.op=true:=⟨hb _ FD.late.2,cA FD (λf h=>(Lc.nm f h).2) λ_=>rfl⟩;unfold Dk;rw[<-eF];exact hf
  refine Ch.step Rt λτ d=>?_;obtain⟨⟨es,e⟩,hn⟩:=h2 τ d;have hw':CV (SP CI H) (CK P.a CI bn) G β (on w τ d) (on w τ d):=hw.same rfl rfl rfl;have:=dM (P:=P) (main:=bo) (main2:=bo) Lc hg FD (λ_=>qQ FD) hw' (n:=(nw τ d).drawn) (λ_ _ _=>rfl) (by rw[e];exact Ba _ _);rw[e] at this;rcases this with⟨h0,_⟩|⟨B8,H5,W',ES,k1,k2,k3⟩
  .exact absurd h0 hn
  obtain⟨i1,i2⟩:=k3.same hi rfl;have hr:=ih τ d i1 k2 (k3.rel.same rfl i2 rfl);refine⟨H5,W',ES,k1,lT k2.callers,hr.same (λ_ _ _ _ x=>x) (λg w W s x=>?_) ⟨i2.symm,?_,?_⟩⟩
  .obtain⟨g1,w0,DJ,x1,x2,x3⟩:=x;exact⟨g1,w0,DJ,x1,x2.trans s,x3⟩
  .rw[k3.OS,k3.os]
  .rw[k3.OUT,k3.out]
end
def CX (K:Nat->Prop):Cm:=λb B=>K b/\b=B
def cut (K:Nat->Prop)(β:Cm):Cm:=λb B=>K b/\β b B
section
variable {S S1:DT} {K:Nat->Prop} {β:Cm}
def GL.cut {f F:Fn}(r:GL S β f F)(k:GL S1 (CX K) f f):GL S1 (cut K β) f F:=by
 cases r with
 |func _=>cases k with|func h=>exact .func h
 |yield hl _=>cases k with|yield h1 h2=>exact .yield ⟨h1.1,hl⟩ h2
def B6.cut {v V:bD}(hb:S1.hid.bl=bo)(r:B6 S β v V)(k:B6 S1 (CX K) v v):B6 S1 (cut K β) v V:=by
 induction r with
 |bool b=>exact .bool b
 |int ik n=>exact .int ik n
 |string s=>exact .string s
 |FJ=>exact .FJ
 |ptr o s h1=>cases k with|ptr _ _ h=>exact .ptr o s ⟨h.1,h1⟩
 |Fc l c=>exact .Fc l c
 |slice o s l c h1=>cases k with|slice _ _ _ _ h=>exact .slice o s l c ⟨h.1,h1⟩|Dl _=>exact .Dl (.inr hb)
 |func hf h1 _ h2 _ i1 i2 =>
  cases k with
  |C3 _=>cases hf
  |func kf _ k1 _ k2=>exact .func (hf.cut kf) h1 (λi v V hv hV=>i1 i v V hv hV (k1 i v v hv hv)) h2 (λi v V hv hV=>i2 i v V hv hV (k2 i v v hv hv))
 |nilFunc=>exact .nilFunc
 |Fu=>exact .Fu
 |EX=>exact .EX
 |nilIface=>exact .nilIface
 |iface t _ ih=>cases k with|iface _ k=>exact .iface t (ih k)
 |agg h1 _ i1=>cases k with|agg _ k1=>exact .agg h1 λi v V hv hV=>i1 i v V hv hV (k1 i v v hv hv)
 |tuple h1 _ i1=>cases k with|tuple _ k1=>exact .tuple h1 λi v V hv hV=>i1 i v V hv hV (k1 i v v hv hv)
 |blank _ h2=>exact .blank (.inr hb) h2
 |C3 _=>exact .C3 (.inr hb)
 |Dl _=>exact .Dl (.inr hb)
def Ca.cut (hb:S1.hid.bl=bo){x X:Array bD}(r:Ca S β x X)(k:Ca S1 (CX K) x x):Ca S1 (cut K β) x X:=⟨r.size,λi v V hv hV=>(r.at_ i v V hv hV).cut hb (k.at_ i v v hv hv)⟩
def Df.cut {α:Type}{R R1 R2:α->α->Prop}(h:∀a A,R a A->R1 a a->R2 a A){l L:List α}(r:Df R l L)(k:Df R1 l l):Df R2 l L:=by
 induction r with
 |nil=>exact .nil
 |cons ha _ ih=>cases k with|cons k1 k2=>exact .cons (h _ _ ha k1) (ih k2)
def D5.cut (hb:S1.hid.bl=bo){d D:Deferred}(r:D5 S β d D)(k:D5 S1 (CX K) d d):D5 S1 (cut K β) d D:=by
 cases r with
 |fn f c a=>cases k with
  |fn f' c' a'=>exact .fn (f.cut f') (c.cut hb c') (a.cut hb a')
  |C3 a A h1 h2 h3=>cases h2;cases f
 |nil a=>cases k with
  |nil a'=>exact .nil (a.cut hb a')
  |C3 a A h1 h2 h3=>cases h2
 |collected r _=>cases k with
  |collected h1 h2=>exact .collected ⟨h1.1,r⟩ h2
  |C3 a A h1 h2 h3=>cases h2
 |C3 a A h1 h2 h3 =>
  subst h2;cases k with
  |fn f c a'=>cases f
  |C3 a' A' k1 k2 k3 =>
   have e:a'=a:=(Array.append_right_inj _ |>.1 (congrArg Deferred.args k2)).symm;subst e;have e:A'=a':=by
    rcases k3 with k3|⟨_,n,c,x,k3⟩
    .exact Array.append_right_inj _ |>.1 (congrArg Deferred.args k3).symm
    .exact(Array.append_inj_right' (congrArg Deferred.args k3) k1.size).symm
   subst e;exact .C3 _ _ (h1.cut hb k1) rfl (h3.imp (λh=>h) λh=>⟨hb,h.2⟩)
def C5.cut (hb:S1.hid.bl=bo){Ck Ck1:Code->Prop}{o O:Obj}(r:C5 S Ck β o O)(k:C5 S1 Ck1 (CX K) o o):C5 S1 Ck1 (cut K β) o O:=by
 cases r with
 |cells a f=>cases k with|cells a' _=>exact .cells (a.cut hb a') f
 |loop p a b x d h=>cases k with|loop p' a' b' x' d' h'=>exact .loop p' a' b' (x.cut hb x') ⟨d'.1,d⟩ h'
 |number o s l hb=>cases k with|number _ _ _ h=>exact .number o s l ⟨h.1,hb⟩
 |taken=>exact .taken
 |defs l=>cases k with|defs l'=>exact .defs (l.cut (λ_ _=>D5.cut hb) l')
def C5.aa9 {Ck:Code->Prop}{c:Array bD}{t:cK}{f f1:Nat×Nat}{O:Obj}(r:C5 S Ck β (.cells c t f) O)(h:∀i,f.1<=i->i<f.2->f1.1<=i/\i<f1.2):C5 S Ck β (.cells c t f1) O:=by
 cases r with
 |cells a z=>exact .cells a λi h1 h2=>let ⟨p,q⟩:=z i h1 h2;h i p q
end
section
variable {p:bs} {SB:br->Bool} {H H1:Hid} {lets:Bool} {K:Nat->Prop} {β:Cm}
def Ey.cut {ad:Bool}{i I:cu}(r:Ey p SB H lets ad β i I)(k:Ey p SB H1 lets ad (CX K) i i):Ey p SB H1 lets ad (Go.Ct.cut K β) i I:=by
 cases r with
 |code c=>exact .code c
 |inBlock id=>exact .inBlock id
 |inLoop c=>exact .inLoop c
 |inScope c=>exact .inScope c
 |inRegion c=>exact .inRegion c
 |inRangeFunc a _=>cases k with|inRangeFunc h1 h2=>exact .inRangeFunc ⟨h1.1,a⟩ h2
 |endRangeFunc a _=>cases k with|endRangeFunc h1 h2=>exact .endRangeFunc ⟨h1.1,a⟩ h2
 |beginRound=>exact .beginRound
def Iy.cut (hb:H1.bl=bo){i I:PanicEntry}(r:Iy SB H β i I)(k:Iy SB H1 (CX K) i i):Iy SB H1 (Go.Ct.cut K β) i I:=by
 cases r with
 |mk a b v=>cases k with|mk _ _ k=>exact .mk a b (v.cut hb k)
def IX.cut (hb:H1.bl=bo){i I:FrameMode}(r:IX SB H β i I)(k:IX SB H1 (CX K) i i):IX SB H1 (Go.Ct.cut K β) i I:=by
 cases r with
 |run=>exact .run
 |returning=>exact .returning
 |panicking l=>cases k with|panicking l'=>exact .panicking (l.cut (λ_ _=>Iy.cut hb) l')
def F6.cut {i I:Option Nat}(r:F6 H β i I)(k:F6 H1 (CX K) i i):F6 H1 (Go.Ct.cut K β) i I:=by
 cases r with
 |none=>exact .none
 |some a _=>cases k with|some h1 h2=>exact .some ⟨h1.1,a⟩ h2
def Cq.cut (hb:H1.bl=bo){f F:bq}(r:Cq p SB H lets β f F)(k:Cq p SB H1 lets (CX K) f f):Cq p SB H1 lets (Go.Ct.cut K β) f F :=
 ⟨r.fn,r.tmps.cut hb k.tmps,r.todo.cut (λ_ _=>Ey.cut) k.todo,r.defers.cut (λ_ _=>D5.cut hb) k.defers,r.mode.cut hb k.mode,r.kind,r.late,r.round.cut k.round⟩
def Dz.cut (hb:H1.bl=bo){T T1:List bq}{cs CS:List bq}(r:Dz p SB H lets T β cs CS)(k:Dz p SB H1 lets T1 (CX K) cs cs):Dz p SB H1 lets T (Go.Ct.cut K β) cs CS:=by
 induction r with
 |base=>exact .base
 |cons a h ih =>
  cases k with
  |base=>exact absurd rfl (Dz.ne (P:=CL.of p) h)
  |cons k1 k2=>exact .cons (a.cut hb k1) (ih k2)
end
section
variable {P:CL} {SB BB:br->Bool} {H H1:Hid} {lets:Bool} {T:List bq} {β:Cm} {Gn:Nat} {K:Nat->Prop} {g G:bb} {w w1 W:bh}
structure MB (p:bs)(SB:br->Bool)(lets:Bool)(H H1:Hid)(K:Nat->Prop)(g:bb)(w w1:bh):Prop where
 top:Cq p SB H1 lets (CX K) g.frame g.frame
 callers:∃T1,Dz p SB H1 lets T1 (CX K) g.callers g.callers
 D8:∀b,K b->H1 b=bn->H b=bn/\∃o,w1.heap[b]?=bw o/\C5 (SP SB H1) (CK p SB lets) (CX K) o o /\
  (w.heap[b]?=bw o\/∃c t f f1,w.heap[b]?=bw (.cells c t f)/\o=.cells c t f1/\∀i,f.1<=i->i<f.2->f1.1<=i/\i<f1.2)
 Ej:∀b,K b->H1 b=bo->w1.heap[b]?=bw (.coro b9)/\(H b=bo\/∃c t f,w.heap[b]?=bw (.cells c t f))
 size:w.heap.size<=w1.heap.size
 old:∀b,H1 b=bo->b<w1.heap.size
 env:w1.os=w.os
 C8:H1.C8=bn/\H.C8=bn
 bl:H1.bl=bo
def mh (hb:BB g.frame.fn=bo)(k:MB P.a SB lets H H1 K g w w1)(h:El P SB H lets BB T β g G):El P SB H1 lets BB T (cut K β) g G:=by
 obtain⟨T1,hc⟩:=k.callers;exact⟨.on ((h.top.Hh hb).cut k.bl k.top),h.callers.cut k.bl hc,h.status,h.dying,h.offers⟩
def mi (k:MB P.a SB lets H H1 K g w w1)(h:CV (SP SB H) (CK P.a SB lets) Gn β w W):CV (SP SB H1) (CK P.a SB lets) Gn (cut K β) w1 W:=by
 refine⟨⟨λa b=>h.DG.fn a.2 b.2,λa b=>h.DG.inj a.2 b.2,λa=>h.DG.lo a.2⟩,⟨yR h.room.1 k.size,h.room.2⟩,λb B hb hh=>?_,λb B hb hh=>?_,k.old,by rw[k.env];exact h.env⟩
 .obtain⟨h0,o,e1,e2,e3⟩:=k.D8 b hb.1 hh;obtain⟨o',O,q1,q2,q3⟩:=h.D8 b B hb.2 h0;refine⟨o,O,e1,q2,?_⟩;rcases e3 with e3|⟨c,t,f,f1,e3,rfl,e4⟩
  .rw[q1] at e3;cases e3;exact q3.cut k.bl e2
  .rw[q1] at e3;cases e3;exact(q3.aa9 e4).cut k.bl e2
 .obtain⟨e1,e2⟩:=k.Ej b hb.1 hh;refine⟨e1,λ_=>?_,λe=>?_⟩
  .rcases e2 with e2|⟨c,t,f,e2⟩
   .exact(h.Ej b B hb.2 e2).2.1 k.C8.2
   .cases h0:H b with
    |true=>exact(h.Ej b B hb.2 h0).2.1 k.C8.2
    |false =>
     obtain⟨o',O,q1,q2,q3⟩:=h.D8 b B hb.2 h0;rw[q1] at e2;cases e2;cases q3 with
     |cells _ _=>exact⟨_,_,_,q2⟩
  .have:=k.C8.1;have e':H1.C8=true:=e;rw[this] at e';cases e'
end
def Bn:Hid:=⟨λ_=>bn,bn,bn⟩
section
variable {P:bs} {SB:br->Bool} {H:Hid} {G:Nat}
def GR (b:bq)(k:List cu)(cs:List bq)(N:Exit->Act->bh->Prop)(g:bb)(w:bh):Prop :=
 ∃a' w0,Cs w0 w/\((N .normal a' w0/\g=C6 (b.at a' k) cs)\/(N .ret a' w0/\∃todo,g=C6 { b.at a' todo with mode:=.returning } cs))
def GR.same {b:bq}{k:List cu}{cs:List bq}{N:Exit->Act->bh->Prop}(g:bb)(w W:bh)(h:Cs w W)(q:GR b k cs N g w):GR b k cs N g W:=by
 obtain⟨a',w0,h1,h2⟩:=q;exact⟨a',w0,h1.trans h,h2⟩
def Od (L:Lib (CL.of P) SB H bn SB G){b:bq}{a:Act}{c:Code}{k:List cu}{cs:List bq}{w:bh}{N:Exit->Act->bh->Prop}(hne:cs≠[])(hs:Self P SB H G (C6 (b.at a (.code c::k)) cs) w)
  (h:∀τ d,c.wp P (λe a' w'=>(e=.normal\/e=.ret)/\N e a' w') a (on w τ d)):Ch P (Self P SB H G) (GR b k cs N) (C6 (b.at a (.code c::k)) cs) w:=by
 refine eX L GR.same ⟨hs,λτ d=>?_⟩;obtain⟨e,a',w',⟨he,hn⟩,MC⟩:=h τ d b k cs;rcases he with rfl|rfl
 .obtain⟨n,hr⟩:=MC;exact de L (hs.same Bm) hr hne ⟨a',w',⟨rfl,rfl,rfl⟩,.inl ⟨hn,rfl⟩⟩
 .obtain⟨todo,n,hr⟩:=MC;exact de L (hs.same Bm) hr hne ⟨a',w',⟨rfl,rfl,rfl⟩,.inr ⟨hn,todo,rfl⟩⟩
end
section
variable {P:CL} {CI BC BB:br->Bool} {G:Nat} {Q:bb->bh->Prop}
structure Oe (P:CL)(CI BC BB:br->Bool)(G:Nat):Prop where
 la:Lib (CL.of P.a) CI Bn bn CI G
 lc:Lib P CI Bn bn BC G
 ref:kE P CI BC
 sub:∀f,CI f=bo->BB f=bo
def uJ {K0:Nat->Prop}{w:bh}{Ck:Code->Prop}(DN:∀b,K0 b->G<=b)(hroom:G<=w.heap.size)(Er:∀b,K0 b->∃o,w.heap[b]?=bw o/\C5 (SP CI Bn) Ck (CX K0) o o):CV (SP CI Bn) Ck G (CX K0) w w:=by
 refine⟨⟨λh1 h2=>h1.2.symm.trans h2.2,λh1 h2=>h1.2.trans h2.2.symm,λ{b B} h=>⟨DN b h.1,h.2▸DN b h.1⟩⟩,⟨hroom,hroom⟩,λb B hb _=>?_,λb B _ hh=>(by cases hh),λb hh=>(by cases hh),rfl⟩;obtain⟨hb,rfl⟩:=hb;obtain⟨o,h1,h2⟩:=Er b hb;exact⟨o,o,h1,h1,h2⟩
def Oe.run (B:Oe P CI BC BB G){Qa:bb->bh->Prop}{fr:bq}{C:bq}{cs:List bq}{K0:Nat->Prop}{w:bh}{F:bq}(ha:ED (CL.of P.a) CI Bn bn CI (CX K0) fr fr)(hc:ED P CI Bn bn BC (CX K0) fr F)
  (DN:∀b,K0 b->G<=b) (hroom:G<=w.heap.size) (Er:∀b,K0 b->∃o,w.heap[b]?=bw o/\C5 (SP CI Bn) (CK P.a CI bn) (CX K0) o o)
  (h:Self P.a CI Bn G (C6 fr [bad]) w->Ch P.a (Self P.a CI Bn G) Qa (C6 fr [bad]) w) :
  Ch P.b (Dk P.b BB) (λH5 w'=>∃g' w0 B8,Qa g' w0/\Cs w0 w'/\KU Bn B8/\El P CI Bn bn BC (C::cs) B8 g' H5/\CV (SP CI Bn) (CK P.a CI bn) G B8 w0 w0) (C6 F (C::cs)) w:=by
 have hi:KU Bn (CX K0):=⟨rfl,λ_ _ h=>h.2⟩;have hw:=uJ (Ck:=CK P.a CI bn) DN hroom Er;have hs:Self P.a CI Bn G (C6 fr [bad]) w:=⟨_,hi,⟨ha,.base,⟨rfl,rfl⟩,⟨rfl,rfl⟩,⟨rfl,rfl⟩⟩,hw⟩;exact(h hs).swap B.lc B.ref B.sub hi ⟨hc,.base,⟨rfl,rfl⟩,⟨rfl,rfl⟩,⟨rfl,rfl⟩⟩ hw
def Oe.fn (B:Oe P CI BC BB G){f:br}(hf:CI f=bo)(Uy:BC f=bo){K0:Nat->Prop}{w:bh}{args:Array bD}{C:bq}{cs:List bq}(hne:cs≠[])
  (DN:∀b,K0 b->G<=b) (hroom:G<=w.heap.size) (Es:Ca (SP CI Bn) (CX K0) args args)
  (Er:∀b,K0 b->∃o,w.heap[b]?=bw o/\C5 (SP CI Bn) (CK P.a CI bn) (CX K0) o o)
  (hQ:∀g w W,Cs w W->Q g w->Q g W) {R:bD->bh->Prop}
  (hc:∀τ d,Calls P.a f args (on w τ d) (λe w'=>∃v,e=.returned v/\R v w'))
  (h:∀v w',R v w'->Ch P.b (Dk P.b BB) Q (C6 (C.finish v) cs) w') :
  Ch P.b (Dk P.b BB) Q (C6 (bA P.b f args .normal) (C::cs)) w:=by
 have h1:=B.run (C:=C) (cs:=cs) (Dg B.la (.inl hf) Es .normal (by decide)) (Dg B.lc (.inl hf) Es .normal (by decide)) DN hroom Er λhs=>Gl B.la hs hc;refine h1.bind λg2 w' hq=>?_;obtain⟨g',w0,B8,q1,q2,q3,q4,q5⟩:=hq;have XY:=q1;obtain⟨wl,vl,fr,l1,l2,l3,l4,l5⟩:=XY;have O5:BB g'.frame.fn=true:=B.sub _ (by rw[l3];show CI fr.fn=bo;rw[l4];exact hf);have FD:=q4.top.Hh (by rw[l3];show BC fr.fn=bo;rw[l4];exact Uy)
 have eF:g'.frame=g2.frame:=Cq.id (P:=CL.of P.a) q3 FD;refine Ch.step ⟨by rw[<-eF];exact O5,λo ho=>?_⟩ λτ d=>?_
 .rw[<-eF] at ho;exact cA FD (λf h=>(B.lc.nm f h).2) (λ_=>rfl) o ho
 .have hw':CV (SP CI Bn) (CK P.a CI bn) G B8 w0 (on w' τ d):=q5.same rfl q2.1 (by rw[show(on w' τ d).os=w'.os from rfl,q2.2.1]);obtain⟨v,wa,wb,V,W',ES,Dq,e1,e2,e3,e4,e5,e6⟩:=leave (P:=P) B.lc (main2:=bo) q1 Uy q4 hw';obtain⟨i1,i2⟩:=e6.same q3 q2.1.symm;have eV:=e5.id i1;subst eV;refine⟨_,W',ES,e4,hne,(h v wa e2).same (λ_ _ _ _ x=>x) hQ ⟨?_,?_,?_⟩⟩
  .rw[<-i2,e3.1,<-e1.1]
  .rw[e6.OS,show(on w' τ d).os=w'.os from rfl,q2.2.1,e1.2.1]
  .rw[e6.OUT,show(on w' τ d).output=w'.output from rfl,q2.2.2,e1.2.2]
end
end Go.Ct
