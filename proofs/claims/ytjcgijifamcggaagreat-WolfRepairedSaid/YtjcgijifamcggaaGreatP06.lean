/- Parts of the proof. -/
import Derived.Test.YtjcgijifamcggaaGreatP05
import Derived.Test.YtjcgijifamcggaaGreatP00
import Derived.Calls
import Derived.Conc.MarkLaws
import Derived.Conc.SmallLaws
import Derived.Laws.LoneSync
set_option linter.all false
namespace Go.Bl
def Bw.of (p:Program):Bw:=⟨p,p.funcs⟩
abbrev Bw.self (P:Bw):Bw:=Bw.of P.a
section
variable {P:Bw} {SB:FuncId->Bool} {H:Hid} {lets:Bool} {BB:FuncId->Bool} {β:Bc} {G:Nat}
def Du.id {ad:Bool}(h:β.O3){i I:Item}(r:Du P.a SB H lets ad β i I):i=I:=by
 cases r with
 |inRangeFunc hl _=>rw[h _ _ hl]
 |endRangeFunc hl _=>rw[h _ _ hl]
 |_=>rfl
def Hd.id (h:JE H β){m M:FrameMode}(r:Hd SB H β m M):m=M:=by
 cases r with
 |panicking l=>rw[B4.id (λa A (r:GQ SB H β a A)=>by cases r with|mk x y v=>rw[v.id h]) l]
 |_=>rfl
def E2.id (h:β.O3){o O:Option Nat}(r:E2 H β o O):o=O:=by
 cases r with
 |none=>rfl
 |some hl _=>rw[h _ _ hl]
def Bf.id (h:JE H β){f F:Frame}(r:Bf P.a SB H lets β f F):f=F:=by
 have h1:=r.fn;have h2:=r.tmps.id h;have h3:=r.todo.id λ_ _=>Du.id h.2;have h4:=r.defers.id λ_ _=>CM.id h;have h5:=r.mode.id h;have h6:=r.kind;have h7:=r.round.id h.2;obtain⟨a1,a2,a3,a4,a5,a6,a7⟩:=f;obtain⟨b1,b2,b3,b4,b5,b6,b7⟩:=F;dsimp only at *;subst h1 h2 h3 h4 h5 h6 h7
 rfl
def Dy.id (h:JE H β){f F:Frame}(r:Dy P.self SB H lets BB β f F):f=F:=by
 cases r with
 |on r=>exact r.id h
 |stop _ _ _ a=>rw[a.id h];rfl
def Cl.id (h:JE H β){cs CS:List Frame}(r:Cl P.a SB H lets [bad] β cs CS):cs=CS:=by
 induction r with
 |base=>rfl
 |cons a _ ih=>rw[a.id h,ih]
def Dc.id (h:JE H β){g g':Goroutine}(r:Dc P.self SB H lets BB [bad] β g g'):g=g':=by
 have h1:=r.top.id h;have h2:=r.callers.id h;obtain⟨a1,a2,a3,a4,a5⟩:=g;obtain⟨b1,b2,b3,b4,b5⟩:=g';obtain⟨_,_,⟨s1,s2⟩,⟨d1,d2⟩,⟨o1,o2⟩⟩:=r;dsimp only at *;subst h1 h2 s1 s2 d1 d2 o1 o2
 rfl
end
def on (w:World)(τ:Tape)(d:Nat):World:={ w with tape:=τ,drawn:=d }
def Bh (w W:World):Prop:=W.heap=w.heap/\W.os=w.os/\W.output=w.output
def zU {w:World}{τ:Tape}{d:Nat}:Bh w (on w τ d):=⟨rfl,rfl,rfl⟩
def Bh.symm {w W:World}(h:Bh w W):Bh W w:=⟨h.1.symm,h.2.1.symm,h.2.2.symm⟩
def Bh.trans {w W X:World}(h:Bh w W)(k:Bh W X):Bh w X:=⟨k.1.trans h.1,k.2.1.trans h.2.1,k.2.2.trans h.2.2⟩
def Bh.eq {w W:World}(h:Bh w W):W=on w W.tape W.drawn:=by
 obtain⟨a,b,c,d,e⟩:=W;obtain⟨h1,h2,h3⟩:=h;dsimp only at *;subst h1 h2 h3
 rfl
def BF.same {S:CF}{Ck:Code->Prop}{G:Nat}{β:Bc}{w W w1 W1:World}(h:BF S Ck G β w W)(e:w1.heap=w.heap)(E:W1.heap=W.heap)(o:w1.os.env=W1.os.env):BF S Ck G β w1 W1 :=
 ⟨h.Cn,by rw[e,E];exact h.room,by rw[e,E];exact h.CQ,by rw[e,E];exact h.Db,by rw[e];exact h.old,o⟩
def Path (P:Program)(Q:Goroutine->World->Prop):Nat->Goroutine->World->Prop
 |0,g,w=>Q g w
 |n+1,g,w=>Q g w\/∃g' w' es,stepG P true g w=.go g' w' es/\g'.callers≠[]/\Path P Q n g' w'
inductive AZ (P:Program)(Ev:Goroutine->World->Prop)(Q:Goroutine->World->Prop):Goroutine->World->Prop
 |fin {g:Goroutine} {w:World}:Q g w->AZ P Ev Q g w
 |next {g:Goroutine} {w:World} (ng:Tape->Nat->Goroutine) (nw:Tape->Nat->World):Ev g w->(∀τ d,(∃es,stepG P true g (on w τ d)=.go (ng τ d) (nw τ d) es)/\(ng τ d).callers≠[])->(∀τ d,AZ P Ev Q (ng τ d) (nw τ d))->AZ P Ev Q g w
def AZ.step {P:Program}{Ev Q:Goroutine->World->Prop}{g:Goroutine}{w:World}(he:Ev g w)(h:∀τ d,∃g' w' es,stepG P true g (on w τ d)=.go g' w' es/\g'.callers≠[]/\AZ P Ev Q g' w'):AZ P Ev Q g w :=
 .next (λτ d=>Classical.choose (h τ d)) (λτ d=>Classical.choose (Classical.choose_spec (h τ d))) he
  (λτ d=>by
   obtain⟨es,h1,h2,_⟩:=Classical.choose_spec (Classical.choose_spec (h τ d))
   exact⟨⟨es,h1⟩,h2⟩)
  (λτ d=>by
   obtain⟨es,_,_,h3⟩:=Classical.choose_spec (Classical.choose_spec (h τ d))
   exact h3)
section
variable {P:Program} {SB:FuncId->Bool} {H:Hid} {BB:FuncId->Bool} {T:List Frame} {β:Bc} {G:Nat}
def Pn {f F:Frame}(r:Bf P SB H false β f F):M4 P SB f:=by
 intro o ho;have key:∀(t T:List Item),B4 (Du P SB H false f.roundOf.isNone β) t T->(match t with|.inRegion ops (i::_)::_=>ops[i]?|_=>none)=some o->Ja P SB o.op=false:=by
  intro t T h e;cases h with
  |nil=>cases e
  |cons hi _ =>
   cases hi with
   |@inRegion ops l Po =>
    cases l with
    |nil=>cases e
    |cons i rest =>
     simp only[xR] at Po;have:=Po o (xY e);unfold bX at this;simp only[yN,zF,xG] at this;exact tH this.1
   |_=>cases e
 refine key f.todo F.todo r.todo ?_;unfold Frame.oper? at ho;exact ho
def lm {p:Program}{f:FuncId}{fn:Func}{s:String}(h:p.funcs[f]?=some fn)(hb:fn.body=some (.refuse s))(a:Array Value)(k:CallKind)(cs:List Frame)(w:World)(main:Bool){g':Goroutine}{w':World}{es:Array Event} :
  stepG p main ⟨Frame.enter p f a k,cs,.running,none,none⟩ w≠.go g' w' es:=by
 intro e;simp[stepG,Frame.enter,h,hb,stepG.exec] at e
def Dc.aep {T:List Frame}(L:Lib (Bw.of P) SB H false SB G){g g2:Goroutine}(hg:Dc (Bw.of P) SB H false SB T β g g2){main:Bool}{w:World}{g':Goroutine}{w':World}{es:Array Event}(e:stepG P main g w=.go g' w' es):Bf P SB H false β g.frame g2.frame:=by
 have Cs:=hg.top;obtain⟨fr,cs,st,dy,off⟩:=g;obtain⟨_,_,⟨z1,_⟩,⟨z2,_⟩,⟨z3,_⟩⟩:=hg;dsimp only at Cs z1 z2 z3 ⊢;subst z1 z2 z3;generalize g2.frame=FR at Cs ⊢;cases Cs with
 |on h=>exact h
 |@stop f a A k h1 h2 =>
  exfalso;rcases h1 with h1|h1
  .rw[h1] at h2;cases h2
  .obtain⟨fn,s,q1,q2⟩:=L.bars f h1;exact lm (p:=P) q1 q2 _ _ _ _ _ e
structure Self (P:Program)(SB:FuncId->Bool)(H:Hid)(G:Nat)(g:Goroutine)(w:World):Prop where
 some:∃β:Bc,JE H β/\Dc (Bw.of P) SB H false SB [bad] β g g/\BF (SP SB H) (CK P SB false) G β w w
def EL (L:Lib (Bw.of P) SB H false SB G){g:Goroutine}{w W:World}(hs:Self P SB H G g w)(hh:Bh w W){n:Nat}(ht:ID n w W){g':Goroutine}{w':World}{es:Array Event}
  (hst:stepG P true g w=.go g' w' es) (hb:w'.drawn<=w.drawn+n) (hne:g'.callers≠[]) :
  ∃W' ES,stepG P true g W=.go g' W' ES/\Bh w' W'/\W'.tape=W.tape/\W'.drawn+w.drawn=W.drawn+w'.drawn/\w.drawn<=w'.drawn/\w'.tape=w.tape/\Self P SB H G g' w':=by
 obtain⟨β,hi,hg,hw⟩:=hs;have hw2:BF (SP SB H) (CK P SB false) G β w W:=hw.same rfl hh.1 (by rw[hh.2.1]);have ED:=hg.aep L hst;have hb':(aJ (stepG P true g w)).drawn<=w.drawn+n:=by rw[hst];exact hb
 have:C5 (Bw.of P) SB H false SB [bad] G β w W (stepG P true g w) (stepG P true g W):=dt (main:=true) (main2:=true) L hg ED (λ_=>Pn ED) hw2 ht hb';rw[hst] at this;rcases this with⟨h0,_⟩|⟨AQ,g2,W',ES,e,h1,h2⟩
 .exact absurd h0 hne
 obtain⟨i1,i2⟩:=h2.same hi hh.1.symm;have eg:=Dc.id (P:=Bw.of P) i1 h1;subst eg;exact⟨W',ES,e,⟨i2.symm,h2.OS.trans (hh.2.1.trans h2.os.symm),h2.OUT.trans (hh.2.2.trans h2.out.symm)⟩,h2.TAPE,h2.draws,h2.drawn,h2.tape,⟨AQ,i1,h1,h2.rel.same rfl i2 rfl⟩⟩
variable {Q:Goroutine->World->Prop}
def oh (L:Lib (Bw.of P) SB H false SB G)(hQ:∀g w W,Bh w W->Q g w->Q g W){n:Nat}{g:Goroutine}{w W:World}(hs:Self P SB H G g w)(hh:Bh w W)(ht:∀m,ID m w W)(h:Path P Q n g w):Path P Q n g W:=by
 induction n generalizing g w W with
 |zero=>exact hQ _ _ _ hh h
 |succ n ih =>
  rcases h with h|⟨g',w',es,h1,h2,h3⟩
  .exact .inl (hQ _ _ _ hh h)
  .obtain⟨W',ES,e1,e2,e3,e4,e5,e6,e7⟩:=EL L hs hh (ht (w'.drawn-w.drawn)) h1 (by omega) h2;refine .inr ⟨g',W',ES,e1,h2,ih e7 e2 ?_ h3⟩;intro m i hi q;have:=ht ((w'.drawn-w.drawn)+i+1) ((w'.drawn-w.drawn)+i) (by omega) q;rw[e3,e6];rw[show w'.drawn+i=w.drawn+(w'.drawn-w.drawn+i) from by omega,show W'.drawn+i=W.drawn+(w'.drawn-w.drawn+i) from by omega];exact this
def Path.Pp {n:Nat}{g:Goroutine}{w:World}(h:Path P Q n g w)(hq:¬Q g w):∃m g' w' es,stepG P true g w=.go g' w' es/\g'.callers≠[]/\Path P Q m g' w':=by
 cases n with
 |zero=>exact absurd h hq
 |succ n =>
  rcases h with h|⟨g',w',es,h⟩
  .exact absurd h hq
  .exact⟨n,g',w',es,h⟩
structure Pq (P:Program)(SB:FuncId->Bool)(H:Hid)(G:Nat)(Q:Goroutine->World->Prop)(g:Goroutine)(w:World):Prop where
 self:Self P SB H G g w
 ends:∀τ d,∃n,Path P Q n g (on w τ d)
def Self.same {g:Goroutine}{w W:World}(h:Self P SB H G g w)(e:Bh w W):Self P SB H G g W:=by
 obtain⟨β,h1,h2,h3⟩:=h;exact⟨β,h1,h2,h3.same e.1 e.1 rfl⟩
def Pq.next (L:Lib (Bw.of P) SB H false SB G)(hQ:∀g w W,Bh w W->Q g w->Q g W){g:Goroutine}{w:World}(h:Pq P SB H G Q g w)(hq:¬Q g w){τ:Tape}{d:Nat}{g':Goroutine}{w':World}{es:Array Event}
  (hst:stepG P true g (on w τ d)=.go g' w' es) (hne:g'.callers≠[]):Pq P SB H G Q g' w':=by
 have hs:=h.self.same (zU (τ:=τ) (d:=d));obtain⟨_,_,_,_,_,_,hd,NM,hs'⟩:=EL L hs (W:=on w τ d) ⟨rfl,rfl,rfl⟩ (n:=w'.drawn-(on w τ d).drawn) (λ_ _ _=>rfl) hst (by omega) hne;refine⟨hs',λZo d'=>?_⟩;have hd':d<=w'.drawn:=hd
 let τ2:Tape:=λi=>if i<w'.drawn then τ i else Zo (i-w'.drawn+d')
 obtain⟨n,hp⟩:=h.ends τ2 d;obtain⟨m,g2,w2,es2,k1,k2,k3⟩:=hp.Pp (λhq'=>hq (hQ g (on w τ2 d) w ⟨rfl,rfl,rfl⟩ hq'))
 obtain⟨W',ES,e1,e2,e3,e4,e5,_,_⟩:=EL L hs (W:=on w τ2 d) ⟨rfl,rfl,rfl⟩ (n:=w'.drawn-(on w τ d).drawn) (λi hi q=>by
  show τ (d+i) q=(if d+i<w'.drawn then τ (d+i) else Zo (d+i-w'.drawn+d')) q;have:d+i<w'.drawn:=by have:(on w τ d).drawn=d:=rfl;omega
  rw[if_pos this]) hst (by omega) hne
 rw[k1] at e1;cases e1;refine⟨m,oh L hQ (hs'.same e2) (W:=on w' Zo d') ⟨e2.1.symm,e2.2.1.symm,e2.2.2.symm⟩ ?_ k3⟩;intro m i _ q;have e4':w2.drawn=w'.drawn:=by have:(on w τ2 d).drawn=d:=rfl;have:(on w τ d).drawn=d:=rfl;omega
 rw[e3,e4'];show(if w'.drawn+i<w'.drawn then τ (w'.drawn+i) else Zo (w'.drawn+i-w'.drawn+d')) q=Zo (d'+i) q;rw[if_neg (by omega),show w'.drawn+i-w'.drawn+d'=d'+i from by omega]
structure Tb (P:Program)(Q:Goroutine->World->Prop)(C:Goroutine->World->Prop) where
 g:Goroutine
 w:World
 bad:C g w
def eu (L:Lib (Bw.of P) SB H false SB G)(hQ:∀g w W,Bh w W->Q g w->Q g W){g:Goroutine}{w:World}(h:Pq P SB H G Q g w):AZ P (Self P SB H G) Q g w:=by
 refine Classical.byContradiction λhno=>?_
 let C:Goroutine->World->Prop:=λg w=>Pq P SB H G Q g w/\¬AZ P (Self P SB H G) Q g w
 have nq:∀g w,C g w->¬Q g w:=λg w hc hq=>hc.2 (.fin hq);have next:∀x:Tb P Q C,∃(τ:Tape) (d:Nat) (y:Tb P Q C),∃es,stepG P true x.g (on x.w τ d)=.go y.g y.w es/\y.g.callers≠[]:=by
  rintro⟨g,w,hc⟩;have:¬ ∀τ d,∃g' w' es,stepG P true g (on w τ d)=.go g' w' es/\g'.callers≠[]/\AZ P (Self P SB H G) Q g' w':=λhall=>hc.2 (.step hc.1.self hall);simp only[Classical.not_forall] at this;obtain⟨τ,d,hn⟩:=this;obtain⟨n,hp⟩:=hc.1.ends τ d;obtain⟨m,g',w',es,k1,k2,k3⟩:=hp.Pp (λhq'=>nq g w hc (hQ g (on w τ d) w ⟨rfl,rfl,rfl⟩ hq'));refine⟨τ,d,⟨g',w',hc.1.next L hQ (nq g w hc) k1 k2,λhr=>hn ⟨g',w',es,k1,k2,hr⟩⟩,es,k1,k2⟩
 let τ:=λx=>Classical.choose (next x)
 let d:=λx=>Classical.choose (Classical.choose_spec (next x))
 let nx:=λx=>Classical.choose (Classical.choose_spec (Classical.choose_spec (next x)))
 have hnx:∀x:Tb P Q C,∃es,stepG P true x.g (on x.w (τ x) (d x))=.go (nx x).g (nx x).w es/\(nx x).g.callers≠[]:=λx=>Classical.choose_spec (Classical.choose_spec (Classical.choose_spec (next x)))
 let s:Nat->Tb P Q C:=λk=>Nat.rec ⟨g,w,h,hno⟩ (λ_ x=>nx x) k
 have s0:s 0=⟨g,w,h,hno⟩:=rfl;have sS:∀k,s (k+1)=nx (s k):=λk=>rfl
 let n:Nat->Nat:=λk=>(s (k+1)).w.drawn-d (s k)
 let D:Nat->Nat:=λk=>Nat.rec 0 (λk x=>x+n k) k
 have DS:∀k,D (k+1)=D k+n k:=λk=>rfl;have Dm:∀k j,D k<=D (k+j):=by
  intro k j
  induction j with
  |zero=>exact xp _
  |succ j ih=>rw[show k+(j+1)=(k+j)+1 from rfl,DS];omega
 have uniq:∀i k j,D k<=i->i<D (k+1)->D j<=i->i<D (j+1)->k=j:=by
  intro i k j h1 h2 h3 h4;rcases Nat.lt_trichotomy k j with hlt|rfl|hlt
  .have:=Dm (k+1) (j-(k+1));rw[show k+1+(j-(k+1))=j from by omega] at this;omega
  .rfl
  .have:=Dm (j+1) (k-(j+1));rw[show j+1+(k-(j+1))=k from by omega] at this;omega
 let T:Tape:=λi q=>@dite _ (∃k,D k<=i/\i<D (k+1)) (Classical.propDecidable _) (λhx=>τ (s (Classical.choose hx)) (d (s (Classical.choose hx))+(i-D (Classical.choose hx))) q) (λ_=>0)
 have hT:∀k i q,i<n k->T (D k+i) q=τ (s k) (d (s k)+i) q:=by
  intro k i q hi;have hx:∃k',D k'<=D k+i/\D k+i<D (k'+1):=⟨k,by omega,by rw[DS];omega⟩;have hc:=Classical.choose_spec hx;have e:Classical.choose hx=k:=uniq (D k+i) _ _ hc.1 hc.2 (by omega) (by rw[DS];omega);have e1:T (D k+i) q=τ (s (Classical.choose hx)) (d (s (Classical.choose hx))+(D k+i-D (Classical.choose hx))) q:=dif_pos hx;rw[e1,e,Nat.add_sub_cancel_left]
 have stepT:∀k,∃es,stepG P true (s k).g (on (s k).w T (D k))=.go (s (k+1)).g (on (s (k+1)).w T (D (k+1))) es:=by
  intro k;obtain⟨es,k1,k2⟩:=hnx (s k);have Uq:=(s k).bad.1.self.same (zU (τ:=τ (s k)) (d:=d (s k)))
  obtain⟨_,_,_,_,_,_,hd,_,_⟩:=EL L Uq (W:=on (s k).w (τ (s k)) (d (s k))) ⟨rfl,rfl,rfl⟩ (n:=n k) (λ_ _ _=>rfl) k1 (by
   show(nx (s k)).w.drawn<=d (s k)+((s (k+1)).w.drawn-d (s k))
   rw[sS];omega) k2
  have hd':d (s k)<=(s (k+1)).w.drawn:=by rw[sS];exact hd
  obtain⟨W',ES,e1,e2,e3,e4,_,_,_⟩:=EL L Uq (W:=on (s k).w T (D k)) ⟨rfl,rfl,rfl⟩ (n:=n k) (λi hi q=>(hT k i q hi).symm) k1 (by
   show(nx (s k)).w.drawn<=d (s k)+((s (k+1)).w.drawn-d (s k))
   rw[sS];omega) k2
  refine⟨ES,e1.trans ?_⟩;have e5:W'.drawn=D (k+1):=by
   have a1:(on (s k).w (τ (s k)) (d (s k))).drawn=d (s k):=rfl;have a2:(on (s k).w T (D k)).drawn=D k:=rfl;have a3:(nx (s k)).w.drawn=(s (k+1)).w.drawn:=rfl;rw[DS];show W'.drawn=D k+((s (k+1)).w.drawn-d (s k));omega
  rw[e2.eq,e3,e5]
  rfl
 have main:∀m k,¬Path P Q m (s k).g (on (s k).w T (D k)):=by
  intro m
  induction m with
  |zero=>exact λk hq=>nq _ _ (s k).bad (hQ _ (on (s k).w T (D k)) _ ⟨rfl,rfl,rfl⟩ hq)
  |succ m ih =>
   intro k hp;rcases hp with hq|⟨g',w',es,k1,_,k3⟩
   .exact nq _ _ (s k).bad (hQ _ (on (s k).w T (D k)) _ ⟨rfl,rfl,rfl⟩ hq)
   .obtain⟨ES,e⟩:=stepT k;rw[e] at k1;cases k1;exact ih (k+1) k3
 obtain⟨m,hp⟩:=h.ends T 0;exact main m 0 hp
end
def BU (fr:Frame)(cs:List Frame):Goroutine:={ frame:=fr,callers:=cs,status:=.running,dying:=none }
section
variable {P:Program} {SB:FuncId->Bool} {H:Hid} {T:List Frame} {β:Bc} {G:Nat} {Q:Goroutine->World->Prop}
def Dc.BU {P:Bw}{lets:Bool}{BB:FuncId->Bool}{g g':Goroutine}(r:Dc P SB H lets BB T β g g'):g=Go.Bl.BU g.frame g.callers:=by
 obtain⟨a1,a2,a3,a4,a5⟩:=g;obtain⟨_,_,⟨s1,_⟩,⟨d1,_⟩,⟨o1,_⟩⟩:=r;dsimp only at *;subst s1 d1 o1
 rfl
def NN (L:Lib (Bw.of P) SB H false SB G){fr:Frame}{cs:List Frame}{w:World}(hs:Self P SB H G (BU fr cs) w) :
  (∃K3 cs' w' es,stepG P true (BU fr cs) w=.go (BU K3 cs') w' es/\cs'≠[]/\step P (lone fr cs w)=.next (lone K3 cs' w')/\Self P SB H G (BU K3 cs') w') \/
  (∃K3 w' o w'',step P (lone fr cs w)=.next (lone K3 [] w')/\step P (lone K3 [] w')=.ended o w'') \/
  (∃o w',step P (lone fr cs w)=.ended o w'):=by
 obtain⟨β,hi,hg,hw⟩:=hs;have M5:(∃s,(∃o w',s=GStep.ended o w' #[])/\stepG P true (BU fr cs) w=s)\/Bf P SB H false β fr fr:=by
  have Cs:=hg.top;change Dy (Bw.of P) SB H false SB β fr fr at Cs;generalize hF:fr=FR at Cs;have key:∀ {f1 f2:Frame},f1=fr->Dy (Bw.of P) SB H false SB β f1 f2->f2=fr->(∃s,(∃o w',s=GStep.ended o w' #[])/\stepG P true (BU fr cs) w=s)\/Bf P SB H false β fr fr:=by
   intro f1 f2 e1 h e2;cases h with
   |on h=>rw[e1,e2] at h;exact .inr h
   |@stop f a A k h1 h2 =>
    left
    rcases h1 with h1|h1
    .rw[h1] at h2;cases h2
    .obtain⟨fn,s,q1,q2⟩:=L.bars f h1;rw[<-e1];exact⟨_,⟨_,_,rfl⟩,by simp[stepG,BU,Frame.enter,q1,q2,stepG.exec];exact⟨rfl,rfl⟩⟩
  exact hF▸key hF.symm Cs hF.symm
 rcases M5 with⟨s,⟨o,w',rfl⟩,he⟩|ED
 .exact .inr (.inr ⟨o, w', step_lone_ended (by
   show(stepG P true (BU fr cs) w).bare=_
   rw[he];rfl)⟩)
 have:C5 (Bw.of P) SB H false SB [bad] G β w w (stepG P true (BU fr cs) w) (stepG P true (BU fr cs) w):=dt (main:=true) (main2:=true) L hg ED (λ_=>Pn ED) hw (n:=(aJ (stepG P true (BU fr cs) w)).drawn) (λ_ _ _=>rfl) (zK _ _);generalize he:stepG P true (BU fr cs) w=s at this;cases s with
 |go g' w' es =>
  rcases this with⟨h0,⟨K3,h1⟩,h2⟩|⟨AQ,g2,W',ES,e,h1,h2⟩
  .subst h1;obtain⟨o,w'',es',h3⟩:=h2 P w';refine .inr (.inl ⟨K3,w',o,w'',step_lone_go ?_,step_lone_ended ?_⟩)
   .show(stepG P true (BU fr cs) w).bare=_;rw[he];rfl
   .rw[h3];rfl
  .refine .inl ⟨g'.frame,g'.callers,w',es,by rw[<-h1.BU],h1.callers.ne,step_lone_go ?_,?_⟩
   .show(stepG P true (BU fr cs) w).bare=_;rw[he];show GStep.go g' w'=_;rw[h1.BU]
    rfl
   .rw[<-h1.BU];obtain⟨i1,i2⟩:=h2.same hi rfl;have eg:=Dc.id (P:=Bw.of P) i1 h1;subst eg;exact⟨AQ,i1,h1,h2.rel.same rfl i2 rfl⟩
 |ended o w' es =>
  refine .inr (.inr ⟨o,w',step_lone_ended ?_⟩);show(stepG P true (BU fr cs) w).bare=_;rw[he];rfl
 |_=>exact this.elim
def cP (L:Lib (Bw.of P) SB H false SB G){n:Nat}{fr K3:Frame}{cs cs':List Frame}{w w':World}(hs:Self P SB H G (BU fr cs) w)(h:runN P n (lone fr cs w)=.next (lone K3 cs' w'))(hne:cs'≠[])(hq:Q (BU K3 cs') w') :
  ∃n,Path P Q n (BU fr cs) w:=by
 induction n generalizing fr cs w with
 |zero =>
  have h:lone fr cs w=lone K3 cs' w':=by simpa [runN] using h
  have e1:w=w':=congrArg Machine.world h;have e2:#[BU fr cs]=#[BU K3 cs']:=congrArg Machine.gs h;have e3:BU fr cs=BU K3 cs':=by simpa using e2
  exact⟨0,by rw[e1,e3];exact hq⟩
 |succ n ih =>
  simp only[runN] at h;rcases NN L hs with⟨fr1,cs1,w1,es,h1,h2,h3,h4⟩|⟨fr1,w1,o,w2,h1,h2⟩|⟨o,w1,h1⟩
  .rw[h3] at h;obtain⟨m,hm⟩:=ih h4 h;exact⟨m+1,.inr ⟨_,_,_,h1,h2,hm⟩⟩
  .rw[h1] at h;cases n with
   |zero =>
    have h:lone fr1 [] w1=lone K3 cs' w':=by simpa [runN] using h
    have e2:#[BU fr1 []]=#[BU K3 cs']:=congrArg Machine.gs h;have e3:BU fr1 []=BU K3 cs':=by simpa using e2
    exact absurd (congrArg Goroutine.callers e3).symm hne
   |succ n =>
    simp only[runN] at h;rw[h2] at h;cases h
  .rw[h1] at h;cases h
def Left (P:Program)(f:FuncId)(R:Value->World->Prop)(g:Goroutine)(w:World):Prop :=
 ∃w0 v fr,Bh w0 w/\R v w0/\g=BU fr [bad]/\fr.fn=f/\fr.leaving P w0 (.returned v)
def Left.same {f:FuncId}{R:Value->World->Prop}(g:Goroutine)(w W:World)(h:Bh w W)(k:Left P f R g w):Left P f R g W:=by
 obtain⟨w0,v,fr,h1,h2⟩:=k;exact⟨w0,v,fr,h1.trans h,h2⟩
def Ff (L:Lib (Bw.of P) SB H false SB G){f:FuncId}{args:Array Value}{R:Value->World->Prop}{w:World}(hs:Self P SB H G (BU (Frame.enter P f args .normal) [bad]) w)
  (hc:∀τ d,Calls P f args (on w τ d) (λe w'=>∃v,e=.returned v/\R v w')):AZ P (Self P SB H G) (Left P f R) (BU (Frame.enter P f args .normal) [bad]) w:=by
 refine eu L Left.same ⟨hs,λτ d=>?_⟩;obtain⟨e,w',fr,⟨v,rfl,hr⟩,⟨n,hn⟩,hf,hl⟩:=hc τ d [bad];exact cP L (hs.same zU) hn (by simp) ⟨w',v,fr,⟨rfl,rfl,rfl⟩,hr,rfl,hf,hl⟩
end
def Ro (w:World)(b:Nat):Prop:=∃c t f,w.heap[b]?=some (.cells c t f)/\∀i,i<c.size->f.1<=i/\i<f.2
def Sep (S:CF)(β:Bc)(w:World)(S':CF)(AQ:Bc)(w':World):Prop :=
 ∀b b' B,β b B->AQ b' B->S.hid b=true\/S'.hid b'=true\/(Ro w b/\Ro w' b')
def Sep.symm {S S':CF}{β AQ:Bc}{w w':World}(h:Sep S β w S' AQ w'):Sep S' AQ w' S β w:=by
 intro b b' B h1 h2;rcases h b' b B h2 h1 with h|h|⟨h,k⟩
 .exact .inr (.inl h)
 .exact .inl h
 .exact .inr (.inr ⟨k,h⟩)
section
variable {S S':CF} {Ck Zp:Code->Prop} {G G':Nat} {β AQ γ:Bc} {w w' v W W':World} {ES:List Event}
def Ro.kept (f:Fin S Ck G β AQ w W w' W' ES){b B:Nat}(hb:β b B)(r:Ro w b):Ro w' b:=by
 obtain⟨c,t,z,h1,h2⟩:=r;have:=(f.ro b B c t z hb h1 h2).1;exact⟨c,t,z,this.trans h1,h2⟩
def BF.others (k:BF S' Zp G' γ v W)(tw:S'.hid.BX=false)(h:BF S Ck G β w W)(f:Fin S Ck G β AQ w W w' W' ES)(s:Sep S β w S' γ v):BF S' Zp G' γ v W' where
 Cn:=k.Cn
 room:=⟨k.room.1,xI k.room.2 f.SIZE⟩
 CQ:=λb B hb hh=>by
  obtain⟨o,O,h1,h2,h3⟩:=k.CQ b B hb hh;refine⟨o,O,h1,?_,h3⟩;rw[<-h2];by_cases hx:∃b',β b' B
  .obtain⟨b',hb'⟩:=hx;rcases s b' b B hb' hb with x|x|⟨x,_⟩
   .exact f.hk b' B hb' x
   .rw[hh] at x;cases x
   .obtain⟨c,t,z,q1,q2⟩:=x;exact(f.ro b' B c t z hb' q1 q2).2
  .exact f.KEPT B (k.lt hb).2 (λb' hb'=>hx ⟨b',hb'⟩)
 Db:=λb B hb hh=>by
  obtain⟨h1,h2,_⟩:=k.Db b B hb hh;refine⟨h1,λ_=>?_,λe=>by rw[tw] at e;cases e⟩;obtain⟨c,t,z,h2⟩:=h2 tw;by_cases hx:∃b',β b' B
  .obtain⟨b',hb'⟩:=hx;cases F3:S.hid b' with
   |true=>exact⟨c,t,z,(f.hk b' B hb' F3).trans h2⟩
   |false =>
    obtain⟨o,O,q1,q2,q3⟩:=h.CQ b' B hb' F3;obtain⟨o',O',p1,p2,p3⟩:=f.rel.CQ b' B (f.le _ _ hb') F3;have NL:=f.kind b' (h.lt hb').1;rw[q1,p1] at NL;rw[h2] at q2;cases q2;cases q3 with
    |cells a z' =>
     cases p3 with
     |cells a2 z2=>exact⟨_,_,_,p2⟩
     |_=>simp[Cr] at NL
  .exact⟨c,t,z,(f.KEPT B (k.lt hb).2 (λb' hb'=>hx ⟨b',hb'⟩)).trans h2⟩
 old:=k.old
 env:=by rw[f.OS];exact k.env
def Sep.kept (k:BF S' Zp G' γ v W)(f:Fin S Ck G β AQ w W w' W' ES)(s:Sep S β w S' γ v):Sep S AQ w' S' γ v:=by
 intro b b' B h1 h2;rcases f.new b B h1 with h0|⟨_,h0⟩
 .rcases s b b' B h0 h2 with x|x|⟨x,y⟩
  .exact .inl x
  .exact .inr (.inl x)
  .exact .inr (.inr ⟨x.kept f h0,y⟩)
 .have:=(k.lt h2).2;omega
end
def B8 (p:Program)(BB:FuncId->Bool)(g:Goroutine)(_:World):Prop:=BB g.frame.fn=true/\∀o,g.frame.oper?=some o->aF p o.op=true
def AZ.mono {p:Program}{Ev Ev' Q Q':Goroutine->World->Prop}(he:∀g w,Ev g w->Ev' g w)(hq:∀g w,Q g w->Q' g w){g:Goroutine}{w:World}(h:AZ p Ev Q g w):AZ p Ev' Q' g w:=by
 induction h with
 |fin h=>exact .fin (hq _ _ h)
 |next ng nw h1 h2 _ ih=>exact .next ng nw (he _ _ h1) h2 ih
def AZ.bind {p:Program}{Ev Q Q':Goroutine->World->Prop}{g:Goroutine}{w:World}(h:AZ p Ev Q g w)(k:∀g w,Q g w->AZ p Ev Q' g w):AZ p Ev Q' g w:=by
 induction h with
 |fin h=>exact k _ _ h
 |next ng nw h1 h2 _ ih=>exact .next ng nw h1 h2 ih
section
variable {P:Bw} {SB Bu:FuncId->Bool} {H H0:Hid} {lets:Bool} {BB:FuncId->Bool} {T:List Frame} {β:Bc} {G G0:Nat}
def Dy.Gb {f F:Frame}(h:Dy P SB H lets BB β f F)(hb:BB f.fn=true):Bf P.a SB H lets β f F:=by
 cases h with
 |on h=>exact h
 |@stop f' _ _ _ _ h2 =>
  have hb':BB f'=true:=hb;rw[h2] at hb';cases hb'
def lq {g:Goroutine}{w:World}(h:B8 P.a BB g w):Ready P.a SB g:=λ_ o ho=>n8 (h.2 o ho)
def follow (L:Lib P SB H lets BB G){main2:Bool}{Q:Goroutine->World->Prop}{g g2:Goroutine}{w W:World}(hr:AZ P.a (B8 P.a BB) Q g w)(hq:¬Q g w)
  (hg:Dc P SB H lets BB T β g g2) (hw:BF (SP SB H) (CK P.a SB lets) G β w W) :
  ∃g' w' es AQ Gw W' ES,stepG P.a true g (on w W.tape W.drawn)=.go g' w' es/\AZ P.a (B8 P.a BB) Q g' w'/\stepG P.b main2 g2 W=.go Gw W' ES/\Dc P SB H lets BB T AQ g' Gw /\
   Fin (SP SB H) (CK P.a SB lets) G β AQ (on w W.tape W.drawn) W w' W' ES.toList:=by
 cases hr with
 |fin h=>exact absurd h hq
 |next ng nw h1 h2 h3 =>
  obtain⟨⟨es,e⟩,hne⟩:=h2 W.tape W.drawn;have hw':BF (SP SB H) (CK P.a SB lets) G β (on w W.tape W.drawn) W:=hw.same rfl rfl hw.env;have:=dt (main:=true) (main2:=main2) L hg (hg.top.Gb h1.1) (lq h1) hw' (n:=(nw W.tape W.drawn).drawn) (λ_ _ _=>rfl) (by rw[e];exact zK _ _);rw[e] at this;rcases this with⟨h0,_⟩|⟨AQ,Gw,W',ES,k1,k2,k3⟩
  .exact absurd h0 hne
  .exact⟨_,_,es,AQ,Gw,W',ES,e,h3 _ _,k1,k2,k3⟩
def Ic (L:Lib P SB H lets BB G){main2:Bool}{g g2:Goroutine}{w W:World}{ng:Tape->Nat->Goroutine}{nw:Tape->Nat->World}(h1:B8 P.a BB g w)(h2:∀τ d,(∃es,stepG P.a true g (on w τ d)=.go (ng τ d) (nw τ d) es)/\(ng τ d).callers≠[])
  (hg:Dc P SB H lets BB T β g g2) (hw:BF (SP SB H) (CK P.a SB lets) G β w W) :
  ∃g' w' es AQ Gw W' ES,stepG P.a true g (on w W.tape W.drawn)=.go g' w' es/\(g'=ng W.tape W.drawn/\w'=nw W.tape W.drawn)/\stepG P.b main2 g2 W=.go Gw W' ES/\Dc P SB H lets BB T AQ g' Gw /\
   Fin (SP SB H) (CK P.a SB lets) G β AQ (on w W.tape W.drawn) W w' W' ES.toList:=by
 obtain⟨⟨es,e⟩,hne⟩:=h2 W.tape W.drawn;have hw':BF (SP SB H) (CK P.a SB lets) G β (on w W.tape W.drawn) W:=hw.same rfl rfl hw.env;have:=dt (main:=true) (main2:=main2) L hg (hg.top.Gb h1.1) (lq h1) hw' (n:=(nw W.tape W.drawn).drawn) (λ_ _ _=>rfl) (by rw[e];exact zK _ _);rw[e] at this;rcases this with⟨h0,_⟩|⟨AQ,Gw,W',ES,k1,k2,k3⟩
 .exact absurd h0 hne
 .exact⟨_,_,es,AQ,Gw,W',ES,e,⟨rfl,rfl⟩,k1,k2,k3⟩
end
section
variable {P:Bw} {SB:FuncId->Bool} {H:Hid} {lets:Bool} {BB:FuncId->Bool} {T:List Frame} {β:Bc} {G:Nat}
def leave (L:Lib P SB H lets BB G){main2:Bool}{f:FuncId}{R:Value->World->Prop}{g g2:Goroutine}{w W:World}{C:Frame}{CS:List Frame}(hl:Left P.a f R g w)(OI:BB f=true)
  (hg:Dc P SB H lets BB (C::CS) β g g2) (hw:BF (SP SB H) (CK P.a SB lets) G β w W) :
  ∃v w0 w1 V W' ES AQ,Bh w w0/\R v w0/\Bh w w1/\stepG P.b main2 g2 W=.go (BU (C.finish V) CS) W' ES/\AO (SP SB H) AQ v V /\
   Fin (SP SB H) (CK P.a SB lets) G β AQ (on w W.tape W.drawn) W w1 W' ES.toList:=by
 obtain⟨w0,v,fr,hs,hR,rfl,hf,hm,hd,hk,fn,hfn,hres⟩:=hl;have ED:=hg.top.Gb (show BB fr.fn=true by rw[hf];exact OI);have e0:=hg.status.2;have e1:=hg.dying.2;have e2:=hg.offers.2;have hcs:=hg.callers;obtain⟨FR,CS2,st,dy,off⟩:=g2;dsimp only at e0 e1 e2 hcs ED;subst e0 e1 e2;have Ur:CS2=C::CS:=by
  cases hcs with
  |base=>rfl
  |cons _ h=>exact absurd rfl h.ne
 subst Ur;obtain⟨Sz,tmps,todo,defers,mode,kind,round⟩:=fr;obtain⟨fn2,Ie,Us,Kl,Ps,Zq,Pt⟩:=FR;obtain⟨a1,a2,a3,a4,a5,a6,a7,a8⟩:=ED;dsimp only[BU] at a1 a2 a3 a4 a5 a6 a7 a8 hm hd hk hfn hres hf;subst a1 a6 hm hd hk;have d2:Kl=[]:=by cases a4;rfl
 have m2:Ps=.returning:=by cases a5;rfl
 subst d2 m2;obtain⟨q,q',g1,g2,g3⟩:=L.like Sz a7.2;rw[hfn] at g1;cases g1;have Gw:P.b.funcs[Sz]?=some q':=g2;have g4:results q' Ie=results fn Ie:=by unfold results;rw[g3]
 have EH:BF (SP SB H) (CK P.a SB lets) G β w0 W:=hw.same hs.1.symm rfl (by rw[<-hs.2.1];exact hw.env);have hm:=jb (P:=P) (Ck:=CK P.a SB lets) (G:=G) (S:=SP SB H) fn a2;have hrun:((results fn tmps).runT P.a w0 #[]).1=.ok v w0:=by rw[Sem.runT_fst];exact hres
 have hE:=hm w0 W 0 EH (λi hi=>absurd hi (zg _)) #[] #[];rcases hr:(results fn tmps).runT P.a w0 #[] with⟨r,es⟩
 rw[hr] at hE hrun;dsimp only at hrun;subst hrun;obtain⟨AQ,V,W',ES,k1,k2,k3⟩:=hE (xp _);refine⟨v,w0,on w0 W.tape W.drawn,V,W',seen P.b Sz ES.toArray,AQ,hs.symm,hR,(hs.symm).trans zU,?_,k2,?_⟩
 .unfold stepG;dsimp only;unfold unwind;dsimp only;rw[Gw];dsimp only;rw[g4,k1];simp only[ya];show GStep.after _ (doReturn P.b main2 ⟨Sz,Ie,Us,[],.returning,.normal,Pt⟩ (C::CS) none V W')=_;unfold doReturn;simp[GStep.after,BU]
 .have k4:=k3.seen (P:=P) (SB:=SB) (H:=H) (lets:=lets) Sz;have hh:w.heap=w0.heap:=hs.1;have dr:=k4.draws;have W'd:W'.drawn=W.drawn:=by omega
  exact {
   le:=k4.le
   rel:=k4.rel.same rfl rfl k4.rel.env
   tape:=rfl
   TAPE:=k4.TAPE
   drawn:=xp _
   draws:=by show W'.drawn+W.drawn=W.drawn+W.drawn;omega
   os:=hs.2.1.symm
   OS:=k4.OS
   out:=hs.2.2.symm
   OUT:=k4.OUT
   size:=by show w.heap.size<=w0.heap.size;rw[hh];exact xp _
   SIZE:=k4.SIZE
   new:=λb B h=>by show β b B\/(w.heap.size<=b/\_);rw[hh];exact k4.new b B h
   NEW:=k4.NEW
   frozen:=λa _=>by show w0.frozen? a=w.frozen? a;rw[aT,aT,hh]
   KEPT:=k4.KEPT
   ro:=λb B c t z hb hc hz=>by
    have hc':w0.heap[b]?=some (.cells c t z):=by rw[<-hh];exact hc
    exact⟨by show w0.heap[b]?=w.heap[b]?;rw[hh],(k4.ro b B c t z hb hc' hz).2⟩
   kind:=λb _=>by show(w0.heap[b]?).map Cr=(w.heap[b]?).map Cr;rw[hh]
   evs:=λht E hE=>by
    have:=k4.evs ht E hE;cases this with
    |cell h1 h2 h3 h4=>exact .cell h1 h2 h3 h4
    |obj h1 h2=>exact .obj h1 h2
    |mark h=>exact .mark h
    |out=>exact .out
   same:=λi e=>by
    have:=k4.same i (by rw[<-hh];exact e);exact this
   hk:=k4.hk }
end
def kid (n:Nat)(d:Deferred):Goroutine:={ frame:={ (default:Frame) with fn:=n,defers:=[d],mode:=.panicking [goexitEntry] },callers:=[],status:=.running,dying:=none }
section
variable {p:Program} {Ev Q:Goroutine->World->Prop}
def AZ.same (hE:∀g w W,Bh w W->Ev g w->Ev g W)(hQ:∀g w W,Bh w W->Q g w->Q g W){g:Goroutine}{w W:World}(h:AZ p Ev Q g w)(hs:Bh w W):AZ p Ev Q g W:=by
 cases h with
 |fin h=>exact .fin (hQ _ _ _ hs h)
 |next ng nw h1 h2 h3 =>
  refine .next ng nw (hE _ _ _ hs h1) (λτ d=>?_) h3;have e:on W τ d=on w τ d:=by
   obtain⟨a,b,c,d',e'⟩:=W;obtain⟨k1,k2,k3⟩:=hs;dsimp only at k1 k2 k3;subst k1 k2 k3
   rfl
  rw[e];exact h2 τ d
inductive Walk (p:Program)(C:Goroutine->Prop):Goroutine->World->Goroutine->World->Prop
 |refl {g:Goroutine} {w:World}:Walk p C g w g w
 |step {g g' g2:Goroutine} {w w' w2:World} {es:Array Event}:C g->stepG p true g w=.go g' w' es->Walk p C g' w' g2 w2->Walk p C g w g2 w2
def AZ.descend {C:Goroutine->Prop}(hE:∀g w W,Bh w W->Ev g w->Ev g W)(hQ:∀g w W,Bh w W->Q g w->Q g W)(hC:∀g w,C g->¬Q g w){g g2:Goroutine}{w w1 w2:World}(h:AZ p Ev Q g w)(hs:Bh w w1)(k:Walk p C g w1 g2 w2):AZ p Ev Q g2 w2:=by
 induction k generalizing w with
 |refl=>exact h.same hE hQ hs
 |step c e _ ih =>
  cases h with
  |fin h=>exact absurd h (hC _ _ c)
  |next ng nw h1 h2 h3 =>
   rename_i w1 _ _ _ _;obtain⟨⟨es',e'⟩,_⟩:=h2 w1.tape w1.drawn;rw[<-hs.eq,e] at e';cases e';exact ih (h3 _ _) ⟨rfl,rfl,rfl⟩
def After (p:Program)(x y:Goroutine×World):Prop:=∃τ d es,stepG p true y.1 (on y.2 τ d)=.go x.1 x.2 es/\x.1.callers≠[]
def Left.last {f:FuncId}{R:Value->World->Prop}{g:Goroutine}{w:World}(h:Left p f R g w)(x:Goroutine×World):¬After p x (g,w):=by
 rintro⟨τ,d,es,e,hne⟩;obtain⟨w0,v,fr,hs,_,rfl,_,hm,hd,hk,fn,hfn,_⟩:=h;obtain⟨Sz,tmps,todo,defers,mode,kind,round⟩:=fr;dsimp only at hm hd hk hfn;subst hm hd hk;unfold stepG BU at e;dsimp only at e;unfold unwind at e;dsimp only at e;rw[hfn] at e;dsimp only at e;rcases hr:(results fn tmps).runT p (on w τ d) #[] with⟨r,es'⟩
 rw[hr] at e;cases r with
 |ok v w' =>
  simp[doReturn,GStep.after] at e;exact hne (by rw[<-e.1])
 |halt x w'=>cases x<;>simp[GStep.after] at e
end
open Go.Conc
inductive Cz (p:Program)(a:Act)(w:World)(o:Oper):Array Event->Value->Prop
 |E4 {f:FuncId} {xi:Array Operand} {ats:Array TypeId} {fn:Func} (m:Mark):(m=.disable\/m=.enable)->o.op=.call { callee:=.value (.func f),args:=xi,argTypes:=ats }->p.funcs[f]?=some fn->(fn.name == "runtime.NumGoroutine")=false->fn.body.isNone=true->Extern.findNext fn=none ->
   Extern.find fn=some (λ_=>do mark m;pure Extern.Race.none_)->Cz p a w o #[⟨.mark m,false,true⟩] (.tuple #[])
 |Ex {f:FuncId} {xi:Array Operand} {ats:Array TypeId} {fn:Func} {ad:Addr} (mk:Addr->Mark):(mk=.acquire\/mk=.releaseMerge)->o.op=.call { callee:=.value (.func f),args:=xi,argTypes:=ats }->p.funcs[f]?=some fn->(fn.name == "runtime.NumGoroutine")=false->fn.body.isNone=true->Extern.findNext fn=none ->
   Extern.find fn=some (Extern.Race.marked mk)->(xi.map a.eval)[0]?=some (.pointer (some ad))->(∃u,w.cell? ad=some u)->Cz p a w o #[⟨.mark (mk ad),false,true⟩] (.tuple #[])
 |conv {s d t:TypeId} {x:Operand} {ad:Addr}:o.op=.convert s d x->p.underlying s=some (.pointer t)->p.underlying d=some .unsafePointer->(p.info? t).map (λi=>decide (i.size=0))=some false->a.eval x=.pointer (some ad)->(∃u,w.cell? ad=some u)->Cz p a w o #[] (.pointer (some ad))
section
variable {p:Program} {main:Bool} {b:Frame} {a:Act} {k:List Item} {cs:List Frame} {w W:World} {ops:Array Oper} {i:Nat} {rest:List Nat} {o:Oper} {es:Array Event} {v:Value}
def Cz.step (h:Cz p a w o es v)(ho:ops[i]?=some o)(hw:Region.wanted o (yielded ops a.tmps)=true)(hk:b.kind≠.early) :
  stepG p main (BU (b.at a (.inRegion ops (i::rest)::k)) cs) w=.go (BU (b.at (a.put o.dst v) (.inRegion ops rest::k)) cs) w es:=by
 cases h with
 |E4 m hm hop hf hn hb hx he=>exact stepG_mark0 m (by rcases hm with rfl|rfl<;>simp) ho hw hk hop hf hn hb hx he
 |Ex mk hm hop hf hn hb hx he hp=>exact stepG_markAt mk (by rcases hm with rfl|rfl<;>simp) ho hw hk hop hf hn hb hx he hp
 |@conv s d t x ad hop hs hd hz hx hc =>
  obtain⟨u,hc⟩:=hc;have X1:a.eval x=.pointer (some ad):=hx;have e1:execOp a.eval o=(do let r<-convert s d (a.eval x);pure (.value r)):=by unfold execOp;rw[hop]
  have hr:=run_convert_to_unsafe hs hd hz hc;rw[show BU (b.at a (.inRegion ops (i::rest)::k)) cs=Go.Conc.G (b.at a (.inRegion ops (i::rest)::k)) cs from rfl,stepG_value (v:=.pointer (some ad)) (w':=w) ho hw hk (by rw[e1,X1];simp[hr,Result.andThen])];have:listed p b.fn a o w=#[]:=by
   unfold listed;rw[e1,X1];have he:=events_convert_to_unsafe hs hd hz hc #[];simp[he,hr,Result.evThen,seen_none]
  rw[this];rfl
def Cz.same (h:Cz p a w o es v)(hs:Bh w W):Cz p a W o es v:=by
 have hc:∀ad:Addr,W.cell? ad=w.cell? ad:=λad=>by unfold World.cell?;rw[hs.1]
 cases h with
 |E4 m hm hop hf hn hb hx he=>exact .E4 m hm hop hf hn hb hx he
 |Ex mk hm hop hf hn hb hx he hp hu=>exact .Ex mk hm hop hf hn hb hx he hp (hu.imp λu e=>(hc _).trans e)
 |conv hop hs hd hz hx hu=>exact .conv hop hs hd hz hx (hu.imp λu e=>(hc _).trans e)
end
inductive Ek (β:Bc):Array Event->Array Event->Prop
 |E4 (m:Mark):(m=.disable\/m=.enable)->Ek β #[⟨.mark m,false,true⟩] #[⟨.mark m,false,true⟩]
 |Ex {b B:Nat} (o:Nat) (s:Option Nat) (mk:Addr->Mark):(mk=.acquire\/mk=.releaseMerge)->β b B->Ek β #[⟨.mark (mk ⟨b,o,s⟩),false,true⟩] #[⟨.mark (mk ⟨B,o,s⟩),false,true⟩]
 |none:Ek β #[] #[]
def Ek.deaf {β:Bc}{es ES:Array Event}(h:Ek β es ES)(d:Nat):deafBehind d ES=deafBehind d es:=by
 cases h with
 |E4 m hm=>rfl
 |Ex o s mk hm hb=>rcases hm with rfl|rfl<;>rfl
 |none=>rfl
section
variable {P:Bw} {SB:FuncId->Bool} {H:Hid} {lets:Bool} {BB:FuncId->Bool} {T:List Frame} {β:Bc} {Gn:Nat}
def Km {S:CF}{ad:Addr}{V:Value}(h:AO S β (.pointer (some ad)) V):∃B,β ad.block B/\V=.pointer (some ⟨B,ad.off,ad.spot⟩):=by
 cases h with
 |ptr o s hb=>exact⟨_,hb,rfl⟩
def K4 (L6:∀(f:FuncId) (fn:Func),P.a.funcs[f]?=some fn->fn.body.isNone=true->P.fs[f]?=some fn){main2:Bool}{b:Frame}{a:Act}{ops:Array Oper}{i:Nat}{rest:List Nat}{k:List Item}{cs:List Frame}{g2:Goroutine}{w W:World}{o:Oper}{es:Array Event}{v:Value}
  (hb:BB b.fn=true) (hg:Dc P SB H lets BB T β (BU (b.at a (.inRegion ops (i::rest)::k)) cs) g2) (hw:BF (SP SB H) (CK P.a SB lets) Gn β w W) (ho:ops[i]?=some o) (hwt:Region.wanted o (yielded ops a.tmps)=true) (hk:b.kind≠.early) (h:Cz P.a a w o es v) :
  ∃Gw ES,stepG P.b main2 g2 W=.go Gw W ES/\Dc P SB H lets BB T β (BU (b.at (a.put o.dst v) (.inRegion ops rest::k)) cs) Gw/\Ek β es ES/\∀e∈ES,∀ad,e.loc=.mark (.acquire ad)\/e.loc=.mark (.releaseMerge ad)->ad.block<W.heap.size:=by
 have ED:Bf P.a SB H lets β (b.at a (.inRegion ops (i::rest)::k)) g2.frame:=hg.top.Gb hb;obtain⟨FR,CS,st,dy,off⟩:=g2;obtain⟨_,hc,⟨_,h3⟩,⟨_,h4⟩,⟨_,h5⟩⟩:=hg;dsimp only at ED hc h3 h4 h5;subst h3 h4 h5;have Zr:=ED;obtain⟨Ew,A,E3,Zs,He,KZ,round'⟩:=FR;obtain⟨f1,f2,f3,f4,f5,f6,f7,f8⟩:=ED;dsimp only[Frame.at] at f1 f2 f3 f4 f5 f6 f7 f8;subst f1 f6;cases f5;cases f8;cases f3 with
 |@cons _ I _ K hi hK =>
 cases hi with
 |inRegion hall =>
 have hy:yielded ops A=yielded ops a.tmps:=(funext λj=>iA f2 ops j).symm;have Ma:bX P.a SB lets (none:Option Nat).isNone o=true:=by
  have:=(xR.1 hall) o (xY ho);exact this
 have ev:∀x,ag SB x=true->AO (SP SB H) β (a.eval x) (Act.eval ⟨A,Zs⟩ x):=λx hx=>by
  have:=Zr.eval hx;rw[Frame.eval_at] at this;exact this
 have inW:∀ad B,β ad.block B->(∃u,w.cell? ad=some u)->∃u,W.cell? ⟨B,ad.off,ad.spot⟩=some u:=by
  rintro ad B JB ⟨u,hu⟩;cases hh:H ad.block with
  |true =>
   have:=(hw.Db _ _ JB hh).1;unfold World.cell? at hu;rw[this] at hu;cases hu
  |false =>
   obtain⟨o',O',e1,e2,e3⟩:=hw.CQ _ _ JB hh;unfold World.cell? at hu ⊢;rw[e1] at hu;rw[e2];cases e3 with
   |@cells c C t f F hc' hf' =>
    dsimp only at hu ⊢;split at hu
    .cases hu
    .rename_i hsp;rw[if_neg hsp];have:=(xm.1 hu).1;have hs:=hc'.size;exact⟨C[ad.off]'(by omega),xD _⟩
   |_=>cases hu
 have fin : ∀ (v V : Value) (ES : Array Event) , AO (SP SB H) β v V -> Cz P.b ⟨A, Zs⟩ W o ES V -> Ek β es ES -> (∀ e ∈ ES, ∀ ad, e.loc = .mark (.acquire ad) ∨ e.loc = .mark (.releaseMerge ad) -> ad.block < W.heap.size) ->
   ∃Gw ES,stepG P.b main2 ⟨⟨b.fn,A,.inRegion ops (i::rest)::K,Zs,.run,b.kind,none⟩,CS,.running,none,none⟩ W=.go Gw W ES/\Dc P SB H lets BB T β (BU (b.at (a.put o.dst v) (.inRegion ops rest::k)) cs) Gw/\Ek β es ES/\∀e∈ES,∀ad,e.loc=.mark (.acquire ad)\/e.loc=.mark (.releaseMerge ad)->ad.block<W.heap.size:=by
  intro v V ES hv hs he hl;have hst:=hs.step (main:=main2) (b:=b) (k:=K) (cs:=CS) (rest:=rest) ho (by show Region.wanted o (yielded ops A)=true;rw[hy];exact hwt) hk;refine⟨_,ES,hst,⟨.on ?_,hc,⟨rfl,rfl⟩,⟨rfl,rfl⟩,⟨rfl,rfl⟩⟩,he,hl⟩;have h2:=ba (P:=P) Zr hv;rw[Frame.finish_at,ho] at h2;have e2:(⟨b.fn,A,.inRegion ops (i::rest)::K,Zs,.run,b.kind,none⟩:Frame)=b.at ⟨A,Zs⟩ (.inRegion ops (i::rest)::K):=rfl
  rw[e2,Frame.finish_at,ho] at h2;exact h2
 cases h with
 |@E4 f xi ats fn m hm hop hf hn hb' hx he =>
  exact fin _ _ _ (.tuple rfl (by simp)) (.E4 m hm hop (L6 f fn hf hb') hn hb' hx he) (.E4 m hm) (by
   intro e Pu ad h;simp only[yJ,xC,xz,or_false] at Pu;subst Pu
   rcases hm with rfl|rfl<;>rcases h with h|h<;>cases h)
 |@Ex f xi ats fn ad mk hm hop hf hn hb' hx he hp hu =>
  have has:xi.all (ag SB)=true:=by
   unfold bX dg NJ Ja at Ma;rw[hop] at Ma;simp only[bB,xG,xV] at Ma;rcases Ma with h|h
   .exact h.1.1.1
   .exact h.2.1.2
  obtain⟨x0,hx0,hx1⟩:∃x,xi[0]?=some x/\a.eval x=.pointer (some ad):=by
   rw[yl] at hp;cases h0:xi[0]? with
   |none=>rw[h0] at hp;cases hp
   |some x=>rw[h0] at hp;exact⟨x,rfl,Option.some.inj hp⟩
  have hv:=ev x0 ((xR.1 has) x0 (xY hx0));rw[hx1] at hv;obtain⟨B,JB,hV⟩:=Km hv;obtain⟨b',o',s'⟩:=ad
  exact fin _ _ _ (.tuple rfl (by simp)) (.Ex (ad:=⟨B,o',s'⟩) mk hm hop (L6 f fn hf hb') hn hb' hx he (by rw[yl,hx0];exact congrArg some hV) (inW _ _ JB hu)) (.Ex o' s' mk hm JB) (by
   intro e Pu ad h;simp only[yJ,xC,xz,or_false] at Pu;subst Pu;have hBl:=(hw.lt JB).2
   rcases hm with rfl|rfl<;>rcases h with h|h<;>first|(cases h;exact hBl)|cases h)
 |@conv s d t x ad hop hs hd hz hx hu =>
  have M6:ag SB x=true:=by
   unfold bX dg NJ Ja at Ma;rw[hop] at Ma;simp only[xG,xV] at Ma;rcases Ma with h|h
   .exact h.1.1.2
   .exact h.2.2
  have hv:=ev x M6;rw[hx] at hv;obtain⟨B,JB,hV⟩:=Km hv;obtain⟨b',o',s'⟩:=ad;exact fin _ _ _ (.ptr o' s' JB) (.conv hop hs hd hz hV (inW _ _ JB hu)) .none (by simp)
end
inductive BN (p:Program)(BB:FuncId->Bool)(Q:Goroutine->World->Prop):Nat->Goroutine->World->Prop
 |fin {g:Goroutine} {w:World}:Q g w->BN p BB Q 0 g w
 |next {d:Nat} {g:Goroutine} {w:World} (ng:Tape->Nat->Goroutine) (nw:Tape->Nat->World):B8 p BB g w->(∀τ d,(∃es,stepG p true g (on w τ d)=.go (ng τ d) (nw τ d) es)/\(ng τ d).callers≠[])->(∀τ n,BN p BB Q d (ng τ n) (nw τ n))->BN p BB Q d g w
 | spec {d : Nat} {b : Frame} {a : Act} {ops : Array Oper} {i : Nat} {rest : List Nat} {k : List Item} {cs : List Frame} {w : World} {o : Oper} {es : Array Event} {v : Value} : BB b.fn = true -> cs ≠ [] -> ops[i]? = some o -> Region.wanted o (yielded ops a.tmps) = true -> b.kind ≠ .early -> Cz p a w o es v ->
   (∀τ n,BN p BB Q (deafBehind d es) (BU (b.at (a.put o.dst v) (.inRegion ops rest::k)) cs) (on w τ n))->BN p BB Q d (BU (b.at a (.inRegion ops (i::rest)::k)) cs) w
section
variable {p:Program} {BB:FuncId->Bool} {Q Q':Goroutine->World->Prop} {d:Nat} {g:Goroutine} {w W:World}
def BN.of (h:AZ p (B8 p BB) Q g w):BN p BB Q 0 g w:=by
 induction h with
 |fin h=>exact .fin h
 |next ng nw h1 h2 _ ih=>exact .next ng nw h1 h2 ih
def BN.bind (h:BN p BB Q d g w)(k:∀g w,Q g w->BN p BB Q' 0 g w):BN p BB Q' d g w:=by
 induction h with
 |fin h=>exact k _ _ h
 |next ng nw h1 h2 _ ih=>exact .next ng nw h1 h2 ih
 |spec h1 h2 h3 h4 h5 h6 _ ih=>exact .spec h1 h2 h3 h4 h5 h6 ih
def BN.mono (h:BN p BB Q d g w)(hq:∀g w,Q g w->Q' g w):BN p BB Q' d g w:=h.bind λg w h=>.fin (hq g w h)
def BN.same (hQ:∀g w W,Bh w W->Q g w->Q g W)(h:BN p BB Q d g w):∀ {W:World},Bh w W->BN p BB Q d g W:=by
 induction h with
 |fin h=>exact λhs=>.fin (hQ _ _ _ hs h)
 |@next d g w ng nw h1 h2 h3 _ =>
  intro W hs;have e:∀τ n,on W τ n=on w τ n:=λτ n=>by rw[hs.eq];rfl
  exact .next ng nw h1 (λτ n=>by rw[e];exact h2 τ n) h3
 |@spec d b a ops i rest k cs w o es v h1 h2 h3 h4 h5 h6 h7 _ =>
  intro W hs;have e:∀τ n,on W τ n=on w τ n:=λτ n=>by rw[hs.eq];rfl
  exact .spec h1 h2 h3 h4 h5 (h6.same hs) (λτ n=>by rw[e];exact h7 τ n)
def BN.step (hf:B8 p BB g w)(h:∀τ n,∃g' w' es,stepG p true g (on w τ n)=.go g' w' es/\g'.callers≠[]/\BN p BB Q d g' w'):BN p BB Q d g w :=
 .next (λτ n=>Classical.choose (h τ n)) (λτ n=>Classical.choose (Classical.choose_spec (h τ n))) hf
  (λτ n=>by
   obtain⟨es,h1,h2,_⟩:=Classical.choose_spec (Classical.choose_spec (h τ n))
   exact⟨⟨es,h1⟩,h2⟩)
  (λτ n=>by
   obtain⟨es,_,_,h3⟩:=Classical.choose_spec (Classical.choose_spec (h τ n))
   exact h3)
end
section
variable {p:Program} {Bu:FuncId->Bool} {H:Hid} {G:Nat} {BB:FuncId->Bool} {T:List Frame} {β:Bc}
def cg {q:Program}{f F:Frame}(h:Bf p Bu H false β f F)(hn:∀f,Bu f=true->dh q f=false)(hu:∀t,q.underlying t=p.underlying t):∀o,f.oper?=some o->aF q o.op=true:=λo ho=>by
 have key:∀(t U:List Item),B4 (Du p Bu H false f.roundOf.isNone β) t U->(match t with|.inRegion ops (i::_)::_=>ops[i]?|_=>none)=some o->aF q o.op=true:=by
  intro t U h e;cases h with
  |nil=>cases e
  |cons hi _ =>
   cases hi with
   |@inRegion ops l Po =>
    cases l with
    |nil=>cases e
    |cons i rest =>
     simp only[xR] at Po;have:=Po o (xY e);unfold bX at this;simp only[yN,zF,xG] at this;exact rL this.1 hn hu
   |_=>cases e
 refine key f.todo F.todo h.todo ?_;unfold Frame.oper? at ho;exact ho
def kV {lets:Bool}{c:Frame}{cs l m:List Frame}(h:Cl p Bu H lets (c::cs) β l m):m≠[]:=by
 cases h<;>simp
end
def iB {p:Program}{f:FuncId}{fn:Func}{s:String}(h:p.funcs[f]?=some fn)(hb:fn.body=some (.refuse s))(a:Array Value)(k:CallKind)(cs:List Frame)(w:World)(main:Bool){g':Goroutine}{w':World}{es:Array Event} :
  stepG p main (BU (Frame.enter p f a k) cs) w≠.go g' w' es:=by
 intro e;simp[stepG,BU,Frame.enter,h,hb,stepG.exec] at e
section
variable {P:Bw} {Bu BC BB:FuncId->Bool} {H:Hid} {G:Nat}
def jM (P:Bw)(Bu BC:FuncId->Bool):Prop:=∀f,Bu f=true\/aI Bu f=true->BC f=false->∃fn s,P.a.funcs[f]?=some fn/\fn.body=some (.refuse s)
def rN (hst:jM P Bu BC){T:List Frame}{β:Bc}{g g2:Goroutine}{w:World}(hg:Dc P Bu H false BC T β g g2){g':Goroutine}{w':World}{es:Array Event}(e:stepG P.a true g w=.go g' w' es):Bf P.a Bu H false β g.frame g2.frame:=by
 have eg:=hg.BU;have Cs:=hg.top;generalize hf:g.frame=fr at Cs ⊢;generalize g2.frame=FR at Cs ⊢;cases Cs with
 |on h=>exact h
 |@stop f a A k h1 h2 h3 h4 =>
  exfalso;obtain⟨fn,s,q1,q2⟩:=hst f h1 h2;rw[eg,hf] at e;exact iB q1 q2 _ _ _ _ _ e
def pO {P:Bw}{fr F:Frame}{β:Bc}(h:Bf P.a Bu H false β fr F):M4 P.a Bu fr:=Pn (P:=P.a) (SB:=Bu) (H:=H) h
def AZ.swap (Lc:Lib P Bu H false BC G)(hst:jM P Bu BC)(hb:∀f,Bu f=true->BB f=true){Qa:Goroutine->World->Prop}{c:Frame}{cs:List Frame}{g:Goroutine}{w:World}(h:AZ P.a (Self P.a Bu H G) Qa g w) :
  ∀ {β:Bc} {g2:Goroutine},JE H β->Dc P Bu H false BC (c::cs) β g g2->BF (SP Bu H) (CK P.a Bu false) G β w w ->
  AZ P.b (B8 P.b BB) (λGw w'=>∃g' w0 AQ,Qa g' w0/\Bh w0 w'/\JE H AQ/\Dc P Bu H false BC (c::cs) AQ g' Gw/\BF (SP Bu H) (CK P.a Bu false) G AQ w0 w0) g2 w:=by
 induction h with
 |@fin g w hq=>exact λhi hg hw=>.fin ⟨_,_,_,hq,⟨rfl,rfl,rfl⟩,hi,hg,hw⟩
 |@next g w ng nw h1 h2 _ ih =>
  intro β g2 hi hg hw;have ED:Bf P.a Bu H false β g.frame g2.frame:=by
   obtain⟨⟨es,e⟩,_⟩:=h2 w.tape w.drawn;exact rN hst hg e
  have eF:g.frame=g2.frame:=Bf.id (P:=Bw.of P.a) hi ED;obtain⟨_,_,gs,_⟩:=h1;have Pv:B8 P.b BB g2 w:=by
   have hf:BB g.frame.fn=true/\∀o,g.frame.oper?=some o->aF P.b o.op=true:=⟨hb _ ED.late.2,cg ED (λf h=>(Lc.nm f h).2) λ_=>rfl⟩;unfold B8;rw[<-eF];exact hf
  refine AZ.step Pv λτ d=>?_;obtain⟨⟨es,e⟩,hn⟩:=h2 τ d;have hw':BF (SP Bu H) (CK P.a Bu false) G β (on w τ d) (on w τ d):=hw.same rfl rfl rfl;have:=dt (P:=P) (main:=true) (main2:=true) Lc hg ED (λ_=>pO ED) hw' (n:=(nw τ d).drawn) (λ_ _ _=>rfl) (by rw[e];exact zK _ _);rw[e] at this;rcases this with⟨h0,_⟩|⟨AQ,Gw,W',ES,k1,k2,k3⟩
  .exact absurd h0 hn
  obtain⟨i1,i2⟩:=k3.same hi rfl;have hr:=ih τ d i1 k2 (k3.rel.same rfl i2 rfl);refine⟨Gw,W',ES,k1,kV k2.callers,hr.same (λ_ _ _ _ x=>x) (λg w W s x=>?_) ⟨i2.symm,?_,?_⟩⟩
  .obtain⟨g1,w0,Cp,x1,x2,x3⟩:=x;exact⟨g1,w0,Cp,x1,x2.trans s,x3⟩
  .rw[k3.OS,k3.os]
  .rw[k3.OUT,k3.out]
end
def BK (K:Nat->Prop):Bc:=λb B=>K b/\b=B
def cut (K:Nat->Prop)(β:Bc):Bc:=λb B=>K b/\β b B
section
variable {S S1:CF} {K:Nat->Prop} {β:Bc}
def FE.cut {f F:Fn}(r:FE S β f F)(k:FE S1 (BK K) f f):FE S1 (cut K β) f F:=by
 cases r with
 |func _=>cases k with|func h=>exact .func h
 |yield hl _=>cases k with|yield h1 h2=>exact .yield ⟨h1.1,hl⟩ h2
def AO.cut {v V:Value}(hb:S1.hid.bl=true)(r:AO S β v V)(k:AO S1 (BK K) v v):AO S1 (cut K β) v V:=by
 induction r with
 |bool b=>exact .bool b
 |int ik n=>exact .int ik n
 |string s=>exact .string s
 |EI=>exact .EI
 |ptr o s h1=>cases k with|ptr _ _ h=>exact .ptr o s ⟨h.1,h1⟩
 |Ei l c=>exact .Ei l c
 |slice o s l c h1=>cases k with|slice _ _ _ _ h=>exact .slice o s l c ⟨h.1,h1⟩|Cf _=>exact .Cf (.inr hb)
 |func hf h1 _ h2 _ i1 i2 =>
  cases k with
  |BP _=>cases hf
  |func kf _ k1 _ k2=>exact .func (hf.cut kf) h1 (λi v V hv hV=>i1 i v V hv hV (k1 i v v hv hv)) h2 (λi v V hv hV=>i2 i v V hv hV (k2 i v v hv hv))
 |nilFunc=>exact .nilFunc
 |Et=>exact .Et
 |DY=>exact .DY
 |nilIface=>exact .nilIface
 |iface t _ ih=>cases k with|iface _ k=>exact .iface t (ih k)
 |agg h1 _ i1=>cases k with|agg _ k1=>exact .agg h1 λi v V hv hV=>i1 i v V hv hV (k1 i v v hv hv)
 |tuple h1 _ i1=>cases k with|tuple _ k1=>exact .tuple h1 λi v V hv hV=>i1 i v V hv hV (k1 i v v hv hv)
 |blank _ h2=>exact .blank (.inr hb) h2
 |BP _=>exact .BP (.inr hb)
 |Cf _=>exact .Cf (.inr hb)
def AU.cut (hb:S1.hid.bl=true){x X:Array Value}(r:AU S β x X)(k:AU S1 (BK K) x x):AU S1 (cut K β) x X:=⟨r.size,λi v V hv hV=>(r.at_ i v V hv hV).cut hb (k.at_ i v v hv hv)⟩
def B4.cut {α:Type}{R R1 R2:α->α->Prop}(h:∀a A,R a A->R1 a a->R2 a A){l L:List α}(r:B4 R l L)(k:B4 R1 l l):B4 R2 l L:=by
 induction r with
 |nil=>exact .nil
 |cons ha _ ih=>cases k with|cons k1 k2=>exact .cons (h _ _ ha k1) (ih k2)
def CM.cut (hb:S1.hid.bl=true){d D:Deferred}(r:CM S β d D)(k:CM S1 (BK K) d d):CM S1 (cut K β) d D:=by
 cases r with
 |fn f c a=>cases k with
  |fn f' c' a'=>exact .fn (f.cut f') (c.cut hb c') (a.cut hb a')
  |BP a A h1 h2 h3=>cases h2;cases f
 |nil a=>cases k with
  |nil a'=>exact .nil (a.cut hb a')
  |BP a A h1 h2 h3=>cases h2
 |collected r _=>cases k with
  |collected h1 h2=>exact .collected ⟨h1.1,r⟩ h2
  |BP a A h1 h2 h3=>cases h2
 |BP a A h1 h2 h3 =>
  subst h2;cases k with
  |fn f c a'=>cases f
  |BP a' A' k1 k2 k3 =>
   have e:a'=a:=(Array.append_right_inj _ |>.1 (congrArg Deferred.args k2)).symm;subst e;have e:A'=a':=by
    rcases k3 with k3|⟨_,n,c,x,k3⟩
    .exact Array.append_right_inj _ |>.1 (congrArg Deferred.args k3).symm
    .exact(Array.append_inj_right' (congrArg Deferred.args k3) k1.size).symm
   subst e;exact .BP _ _ (h1.cut hb k1) rfl (h3.imp (λh=>h) λh=>⟨hb,h.2⟩)
def BS.cut (hb:S1.hid.bl=true){Ck Ck1:Code->Prop}{o O:Obj}(r:BS S Ck β o O)(k:BS S1 Ck1 (BK K) o o):BS S1 Ck1 (cut K β) o O:=by
 cases r with
 |cells a f=>cases k with|cells a' _=>exact .cells (a.cut hb a') f
 |loop p a b x d h=>cases k with|loop p' a' b' x' d' h'=>exact .loop p' a' b' (x.cut hb x') ⟨d'.1,d⟩ h'
 |number o s l hb=>cases k with|number _ _ _ h=>exact .number o s l ⟨h.1,hb⟩
 |taken=>exact .taken
 |defs l=>cases k with|defs l'=>exact .defs (l.cut (λ_ _=>CM.cut hb) l')
def BS.Zt {Ck:Code->Prop}{c:Array Value}{t:TypeId}{f f1:Nat×Nat}{O:Obj}(r:BS S Ck β (.cells c t f) O)(h:∀i,f.1<=i->i<f.2->f1.1<=i/\i<f1.2):BS S Ck β (.cells c t f1) O:=by
 cases r with
 |cells a z=>exact .cells a λi h1 h2=>let ⟨p,q⟩:=z i h1 h2;h i p q
end
section
variable {p:Program} {SB:FuncId->Bool} {H H1:Hid} {lets:Bool} {K:Nat->Prop} {β:Bc}
def Du.cut {ad:Bool}{i I:Item}(r:Du p SB H lets ad β i I)(k:Du p SB H1 lets ad (BK K) i i):Du p SB H1 lets ad (Go.Bl.cut K β) i I:=by
 cases r with
 |code c=>exact .code c
 |inBlock id=>exact .inBlock id
 |inLoop c=>exact .inLoop c
 |inScope c=>exact .inScope c
 |inRegion c=>exact .inRegion c
 |inRangeFunc a _=>cases k with|inRangeFunc h1 h2=>exact .inRangeFunc ⟨h1.1,a⟩ h2
 |endRangeFunc a _=>cases k with|endRangeFunc h1 h2=>exact .endRangeFunc ⟨h1.1,a⟩ h2
 |beginRound=>exact .beginRound
def GQ.cut (hb:H1.bl=true){i I:PanicEntry}(r:GQ SB H β i I)(k:GQ SB H1 (BK K) i i):GQ SB H1 (Go.Bl.cut K β) i I:=by
 cases r with
 |mk a b v=>cases k with|mk _ _ k=>exact .mk a b (v.cut hb k)
def Hd.cut (hb:H1.bl=true){i I:FrameMode}(r:Hd SB H β i I)(k:Hd SB H1 (BK K) i i):Hd SB H1 (Go.Bl.cut K β) i I:=by
 cases r with
 |run=>exact .run
 |returning=>exact .returning
 |panicking l=>cases k with|panicking l'=>exact .panicking (l.cut (λ_ _=>GQ.cut hb) l')
def E2.cut {i I:Option Nat}(r:E2 H β i I)(k:E2 H1 (BK K) i i):E2 H1 (Go.Bl.cut K β) i I:=by
 cases r with
 |none=>exact .none
 |some a _=>cases k with|some h1 h2=>exact .some ⟨h1.1,a⟩ h2
def Bf.cut (hb:H1.bl=true){f F:Frame}(r:Bf p SB H lets β f F)(k:Bf p SB H1 lets (BK K) f f):Bf p SB H1 lets (Go.Bl.cut K β) f F :=
 ⟨r.fn,r.tmps.cut hb k.tmps,r.todo.cut (λ_ _=>Du.cut) k.todo,r.defers.cut (λ_ _=>CM.cut hb) k.defers,r.mode.cut hb k.mode,r.kind,r.late,r.round.cut k.round⟩
def Cl.cut (hb:H1.bl=true){T T1:List Frame}{cs CS:List Frame}(r:Cl p SB H lets T β cs CS)(k:Cl p SB H1 lets T1 (BK K) cs cs):Cl p SB H1 lets T (Go.Bl.cut K β) cs CS:=by
 induction r with
 |base=>exact .base
 |cons a h ih =>
  cases k with
  |base=>exact absurd rfl (Cl.ne (P:=Bw.of p) h)
  |cons k1 k2=>exact .cons (a.cut hb k1) (ih k2)
end
section
variable {P:Bw} {SB BB:FuncId->Bool} {H H1:Hid} {lets:Bool} {T:List Frame} {β:Bc} {Gn:Nat} {K:Nat->Prop} {g G:Goroutine} {w w1 W:World}
structure K5 (p:Program)(SB:FuncId->Bool)(lets:Bool)(H H1:Hid)(K:Nat->Prop)(g:Goroutine)(w w1:World):Prop where
 top:Bf p SB H1 lets (BK K) g.frame g.frame
 callers:∃T1,Cl p SB H1 lets T1 (BK K) g.callers g.callers
 CQ:∀b,K b->H1 b=false->H b=false/\∃o,w1.heap[b]?=some o/\BS (SP SB H1) (CK p SB lets) (BK K) o o /\
  (w.heap[b]?=some o\/∃c t f f1,w.heap[b]?=some (.cells c t f)/\o=.cells c t f1/\∀i,f.1<=i->i<f.2->f1.1<=i/\i<f1.2)
 Db:∀b,K b->H1 b=true->w1.heap[b]?=some (.coro none)/\(H b=true\/∃c t f,w.heap[b]?=some (.cells c t f))
 size:w.heap.size<=w1.heap.size
 old:∀b,H1 b=true->b<w1.heap.size
 env:w1.os=w.os
 BX:H1.BX=false/\H.BX=false
 bl:H1.bl=true
def lr (hb:BB g.frame.fn=true)(k:K5 P.a SB lets H H1 K g w w1)(h:Dc P SB H lets BB T β g G):Dc P SB H1 lets BB T (cut K β) g G:=by
 obtain⟨T1,hc⟩:=k.callers;exact⟨.on ((h.top.Gb hb).cut k.bl k.top),h.callers.cut k.bl hc,h.status,h.dying,h.offers⟩
def lw (k:K5 P.a SB lets H H1 K g w w1)(h:BF (SP SB H) (CK P.a SB lets) Gn β w W):BF (SP SB H1) (CK P.a SB lets) Gn (cut K β) w1 W:=by
 refine⟨⟨λa b=>h.Cn.fn a.2 b.2,λa b=>h.Cn.inj a.2 b.2,λa=>h.Cn.lo a.2⟩,⟨xI h.room.1 k.size,h.room.2⟩,λb B hb hh=>?_,λb B hb hh=>?_,k.old,by rw[k.env];exact h.env⟩
 .obtain⟨h0,o,e1,e2,e3⟩:=k.CQ b hb.1 hh;obtain⟨o',O,q1,q2,q3⟩:=h.CQ b B hb.2 h0;refine⟨o,O,e1,q2,?_⟩;rcases e3 with e3|⟨c,t,f,f1,e3,rfl,e4⟩
  .rw[q1] at e3;cases e3;exact q3.cut k.bl e2
  .rw[q1] at e3;cases e3;exact(q3.Zt e4).cut k.bl e2
 .obtain⟨e1,e2⟩:=k.Db b hb.1 hh;refine⟨e1,λ_=>?_,λe=>?_⟩
  .rcases e2 with e2|⟨c,t,f,e2⟩
   .exact(h.Db b B hb.2 e2).2.1 k.BX.2
   .cases h0:H b with
    |true=>exact(h.Db b B hb.2 h0).2.1 k.BX.2
    |false =>
     obtain⟨o',O,q1,q2,q3⟩:=h.CQ b B hb.2 h0;rw[q1] at e2;cases e2;cases q3 with
     |cells _ _=>exact⟨_,_,_,q2⟩
  .have:=k.BX.1;have e':H1.BX=true:=e;rw[this] at e';cases e'
end
def zV:Hid:=⟨λ_=>false,false,false⟩
section
variable {P:Program} {SB:FuncId->Bool} {H:Hid} {G:Nat}
def FJ (b:Frame)(k:List Item)(cs:List Frame)(N:Exit->Act->World->Prop)(g:Goroutine)(w:World):Prop :=
 ∃a' w0,Bh w0 w/\((N .normal a' w0/\g=BU (b.at a' k) cs)\/(N .ret a' w0/\∃todo,g=BU { b.at a' todo with mode:=.returning } cs))
def FJ.same {b:Frame}{k:List Item}{cs:List Frame}{N:Exit->Act->World->Prop}(g:Goroutine)(w W:World)(h:Bh w W)(q:FJ b k cs N g w):FJ b k cs N g W:=by
 obtain⟨a',w0,h1,h2⟩:=q;exact⟨a',w0,h1.trans h,h2⟩
def Mv (L:Lib (Bw.of P) SB H false SB G){b:Frame}{a:Act}{c:Code}{k:List Item}{cs:List Frame}{w:World}{N:Exit->Act->World->Prop}(hne:cs≠[])(hs:Self P SB H G (BU (b.at a (.code c::k)) cs) w)
  (h:∀τ d,c.wp P (λe a' w'=>(e=.normal\/e=.ret)/\N e a' w') a (on w τ d)):AZ P (Self P SB H G) (FJ b k cs N) (BU (b.at a (.code c::k)) cs) w:=by
 refine eu L FJ.same ⟨hs,λτ d=>?_⟩;obtain⟨e,a',w',⟨he,hn⟩,K6⟩:=h τ d b k cs;rcases he with rfl|rfl
 .obtain⟨n,hr⟩:=K6;exact cP L (hs.same zU) hr hne ⟨a',w',⟨rfl,rfl,rfl⟩,.inl ⟨hn,rfl⟩⟩
 .obtain⟨todo,n,hr⟩:=K6;exact cP L (hs.same zU) hr hne ⟨a',w',⟨rfl,rfl,rfl⟩,.inr ⟨hn,todo,rfl⟩⟩
end
section
variable {P:Bw} {Bu BC BB:FuncId->Bool} {G:Nat} {Q:Goroutine->World->Prop}
structure Mw (P:Bw)(Bu BC BB:FuncId->Bool)(G:Nat):Prop where
 la:Lib (Bw.of P.a) Bu zV false Bu G
 lc:Lib P Bu zV false BC G
 ref:jM P Bu BC
 sub:∀f,Bu f=true->BB f=true
def tI {K0:Nat->Prop}{w:World}{Ck:Code->Prop}(C7:∀b,K0 b->G<=b)(hroom:G<=w.heap.size)(Dj:∀b,K0 b->∃o,w.heap[b]?=some o/\BS (SP Bu zV) Ck (BK K0) o o):BF (SP Bu zV) Ck G (BK K0) w w:=by
 refine⟨⟨λh1 h2=>h1.2.symm.trans h2.2,λh1 h2=>h1.2.trans h2.2.symm,λ{b B} h=>⟨C7 b h.1,h.2▸C7 b h.1⟩⟩,⟨hroom,hroom⟩,λb B hb _=>?_,λb B _ hh=>(by cases hh),λb hh=>(by cases hh),rfl⟩;obtain⟨hb,rfl⟩:=hb;obtain⟨o,h1,h2⟩:=Dj b hb;exact⟨o,o,h1,h1,h2⟩
def Mw.run (B:Mw P Bu BC BB G){Qa:Goroutine->World->Prop}{fr:Frame}{C:Frame}{cs:List Frame}{K0:Nat->Prop}{w:World}{F:Frame}(ha:Dy (Bw.of P.a) Bu zV false Bu (BK K0) fr fr)(hc:Dy P Bu zV false BC (BK K0) fr F)
  (C7:∀b,K0 b->G<=b) (hroom:G<=w.heap.size) (Dj:∀b,K0 b->∃o,w.heap[b]?=some o/\BS (SP Bu zV) (CK P.a Bu false) (BK K0) o o)
  (h:Self P.a Bu zV G (BU fr [bad]) w->AZ P.a (Self P.a Bu zV G) Qa (BU fr [bad]) w) :
  AZ P.b (B8 P.b BB) (λGw w'=>∃g' w0 AQ,Qa g' w0/\Bh w0 w'/\JE zV AQ/\Dc P Bu zV false BC (C::cs) AQ g' Gw/\BF (SP Bu zV) (CK P.a Bu false) G AQ w0 w0) (BU F (C::cs)) w:=by
 have hi:JE zV (BK K0):=⟨rfl,λ_ _ h=>h.2⟩;have hw:=tI (Ck:=CK P.a Bu false) C7 hroom Dj;have hs:Self P.a Bu zV G (BU fr [bad]) w:=⟨_,hi,⟨ha,.base,⟨rfl,rfl⟩,⟨rfl,rfl⟩,⟨rfl,rfl⟩⟩,hw⟩;exact(h hs).swap B.lc B.ref B.sub hi ⟨hc,.base,⟨rfl,rfl⟩,⟨rfl,rfl⟩,⟨rfl,rfl⟩⟩ hw
def Mw.fn (B:Mw P Bu BC BB G){f:FuncId}(hf:Bu f=true)(SA:BC f=true){K0:Nat->Prop}{w:World}{args:Array Value}{C:Frame}{cs:List Frame}(hne:cs≠[])
  (C7:∀b,K0 b->G<=b) (hroom:G<=w.heap.size) (DU:AU (SP Bu zV) (BK K0) args args)
  (Dj:∀b,K0 b->∃o,w.heap[b]?=some o/\BS (SP Bu zV) (CK P.a Bu false) (BK K0) o o)
  (hQ:∀g w W,Bh w W->Q g w->Q g W) {R:Value->World->Prop}
  (hc:∀τ d,Calls P.a f args (on w τ d) (λe w'=>∃v,e=.returned v/\R v w'))
  (h:∀v w',R v w'->AZ P.b (B8 P.b BB) Q (BU (C.finish v) cs) w') :
  AZ P.b (B8 P.b BB) Q (BU (Frame.enter P.b f args .normal) (C::cs)) w:=by
 have h1:=B.run (C:=C) (cs:=cs) (B5 B.la (.inl hf) DU .normal (by decide)) (B5 B.lc (.inl hf) DU .normal (by decide)) C7 hroom Dj λhs=>Ff B.la hs hc;refine h1.bind λg2 w' hq=>?_;obtain⟨g',w0,AQ,q1,q2,q3,q4,q5⟩:=hq;have Ut:=q1;obtain⟨wl,vl,fr,l1,l2,l3,l4,l5⟩:=Ut;have OI:BB g'.frame.fn=true:=B.sub _ (by rw[l3];show Bu fr.fn=true;rw[l4];exact hf);have ED:=q4.top.Gb (by rw[l3];show BC fr.fn=true;rw[l4];exact SA)
 have eF:g'.frame=g2.frame:=Bf.id (P:=Bw.of P.a) q3 ED;refine AZ.step ⟨by rw[<-eF];exact OI,λo ho=>?_⟩ λτ d=>?_
 .rw[<-eF] at ho;exact cg ED (λf h=>(B.lc.nm f h).2) (λ_=>rfl) o ho
 .have hw':BF (SP Bu zV) (CK P.a Bu false) G AQ w0 (on w' τ d):=q5.same rfl q2.1 (by rw[show(on w' τ d).os=w'.os from rfl,q2.2.1]);obtain⟨v,wa,wb,V,W',ES,Cb,e1,e2,e3,e4,e5,e6⟩:=leave (P:=P) B.lc (main2:=true) q1 SA q4 hw';obtain⟨i1,i2⟩:=e6.same q3 q2.1.symm;have eV:=e5.id i1;subst eV;refine⟨_,W',ES,e4,hne,(h v wa e2).same (λ_ _ _ _ x=>x) hQ ⟨?_,?_,?_⟩⟩
  .rw[<-i2,e3.1,<-e1.1]
  .rw[e6.OS,show(on w' τ d).os=w'.os from rfl,q2.2.1,e1.2.1]
  .rw[e6.OUT,show(on w' τ d).output=w'.output from rfl,q2.2.2,e1.2.2]
end
end Go.Bl
