/- Parts of the proof. -/
import Derived.Test.YtjmmlkobmhlikaaGreatP06
import Derived.Conc.MarkLaws
import Derived.Conc.SmallLaws
import Derived.Laws.LoneSync
set_option linter.all false
namespace Go.Iso
def gor (fr:Frame)(cs:List Frame):Goroutine:={ frame:=fr,callers:=cs,status:=.running,dying:=none }
section
variable {P:Program} {SB:FuncId->Bool} {H:Hid} {T:List Frame} {β:Bij} {G:Nat} {Q:Goroutine->World->Prop}
def GRel.gor {P:Two}{lets:Bool}{BB:FuncId->Bool}{g g':Goroutine}(r:GRel P SB H lets BB T β g g'):g=Go.Iso.gor g.frame g.callers:=by
 obtain⟨a1,a2,a3,a4,a5⟩:=g
 obtain⟨_,_,⟨s1,_⟩,⟨d1,_⟩,⟨o1,_⟩⟩:=r
 dsimp only at *
 subst s1 d1 o1
 rfl
def step_self (L:Lib (Two.of P) SB H false SB G){fr:Frame}{cs:List Frame}{w:World}(hs:Self P SB H G (gor fr cs) w) :
  (∃fr' cs' w' es,stepG P true (gor fr cs) w=.go (gor fr' cs') w' es/\cs'≠[]/\step P (lone fr cs w)=.next (lone fr' cs' w')/\Self P SB H G (gor fr' cs') w') \/
  (∃fr' w' o w'',step P (lone fr cs w)=.next (lone fr' [] w')/\step P (lone fr' [] w')=.ended o w'') \/
  (∃o w',step P (lone fr cs w)=.ended o w'):=by
 obtain⟨β,hi,hg,hw⟩:=hs
 have hcase:(∃s,(∃o w',s=GStep.ended o w' #[])/\stepG P true (gor fr cs) w=s)\/FrRel P SB H false β fr fr:=by
  have htop:=hg.top
  change TopRel (Two.of P) SB H false SB β fr fr at htop
  generalize hF:fr=FR at htop
  have key:∀ {f1 f2:Frame},f1=fr->TopRel (Two.of P) SB H false SB β f1 f2->f2=fr->(∃s,(∃o w',s=GStep.ended o w' #[])/\stepG P true (gor fr cs) w=s)\/FrRel P SB H false β fr fr:=by
   intro f1 f2 e1 h e2
   cases h with
   |on h=>rw[e1,e2] at h;exact .inr h
   |@stop f a A k h1 h2 =>
    left
    rcases h1 with h1|h1
    ·rw[h1] at h2;cases h2
    ·obtain⟨fn,s,q1,q2⟩:=L.bars f h1
     rw[<-e1]
     exact⟨_,⟨_,_,rfl⟩,by simp[stepG,gor,Frame.enter,q1,q2,stepG.exec];exact⟨rfl,rfl⟩⟩
  exact hF▸key hF.symm htop hF.symm
 rcases hcase with⟨s,⟨o,w',rfl⟩,he⟩|hon
 ·exact .inr (.inr ⟨o, w', step_lone_ended (by
   show(stepG P true (gor fr cs) w).bare=_
   rw[he];rfl)⟩)
 have:StepRel (Two.of P) SB H false SB [bad] G β w w (stepG P true (gor fr cs) w) (stepG P true (gor fr cs) w):=da (main:=true) (main2:=true) L hg hon (λ_=>notGo hon) hw (n:=(aF (stepG P true (gor fr cs) w)).drawn) (λ_ _ _=>rfl) (Nat.le_add_left _ _)
 generalize he:stepG P true (gor fr cs) w=s at this
 cases s with
 |go g' w' es =>
  rcases this with⟨h0,⟨fr',h1⟩,h2⟩|⟨β',g2,W',ES,e,h1,h2⟩
  ·subst h1
   obtain⟨o,w'',es',h3⟩:=h2 P w'
   refine .inr (.inl ⟨fr',w',o,w'',step_lone_go ?_,step_lone_ended ?_⟩)
   ·show(stepG P true (gor fr cs) w).bare=_
    rw[he];rfl
   ·rw[h3];rfl
  ·refine .inl ⟨g'.frame,g'.callers,w',es,by rw[<-h1.gor],h1.callers.ne,step_lone_go ?_,?_⟩
   ·show(stepG P true (gor fr cs) w).bare=_
    rw[he]
    show GStep.go g' w'=_
    rw[h1.gor]
    rfl
   ·rw[<-h1.gor]
    obtain⟨i1,i2⟩:=h2.same hi rfl
    have eg:=GRel.id (P:=Two.of P) i1 h1
    subst eg
    exact⟨β',i1,h1,h2.rel.same rfl i2 rfl⟩
 |ended o w' es =>
  refine .inr (.inr ⟨o,w',step_lone_ended ?_⟩)
  show(stepG P true (gor fr cs) w).bare=_
  rw[he];rfl
 |_=>exact this.elim
def cy (L:Lib (Two.of P) SB H false SB G){n:Nat}{fr fr':Frame}{cs cs':List Frame}{w w':World}(hs:Self P SB H G (gor fr cs) w)(h:runN P n (lone fr cs w)=.next (lone fr' cs' w'))(hne:cs'≠[])(hq:Q (gor fr' cs') w') :
  ∃n,Path P Q n (gor fr cs) w:=by
 induction n generalizing fr cs w with
 |zero =>
  have h:lone fr cs w=lone fr' cs' w':=by simpa [runN] using h
  have e1:w=w':=congrArg Machine.world h
  have e2:#[gor fr cs]=#[gor fr' cs']:=congrArg Machine.gs h
  have e3:gor fr cs=gor fr' cs':=by simpa using e2
  exact⟨0,by rw[e1,e3];exact hq⟩
 |succ n ih =>
  simp only[runN] at h
  rcases step_self L hs with⟨fr1,cs1,w1,es,h1,h2,h3,h4⟩|⟨fr1,w1,o,w2,h1,h2⟩|⟨o,w1,h1⟩
  ·rw[h3] at h
   obtain⟨m,hm⟩:=ih h4 h
   exact⟨m+1,.inr ⟨_,_,_,h1,h2,hm⟩⟩
  ·rw[h1] at h
   cases n with
   |zero =>
    have h:lone fr1 [] w1=lone fr' cs' w':=by simpa [runN] using h
    have e2:#[gor fr1 []]=#[gor fr' cs']:=congrArg Machine.gs h
    have e3:gor fr1 []=gor fr' cs':=by simpa using e2
    exact absurd (congrArg Goroutine.callers e3).symm hne
   |succ n =>
    simp only[runN] at h
    rw[h2] at h
    cases h
  ·rw[h1] at h
   cases h
def Left (P:Program)(f:FuncId)(R:Value->World->Prop)(g:Goroutine)(w:World):Prop :=
 ∃w0 v fr,Same w0 w/\R v w0/\g=gor fr [bad]/\fr.fn=f/\fr.leaving P w0 (.returned v)
def Left.same {f:FuncId}{R:Value->World->Prop}(g:Goroutine)(w W:World)(h:Same w W)(k:Left P f R g w):Left P f R g W:=by
 obtain⟨w0,v,fr,h1,h2⟩:=k
 exact⟨w0,v,fr,h1.trans h,h2⟩
def runs_of_calls (L:Lib (Two.of P) SB H false SB G){f:FuncId}{args:Array Value}{R:Value->World->Prop}{w:World}(hs:Self P SB H G (gor (Frame.enter P f args .normal) [bad]) w)
  (hc:∀τ d,Calls P f args (on w τ d) (λe w'=>∃v,e=.returned v/\R v w')):Runs P (Self P SB H G) (Left P f R) (gor (Frame.enter P f args .normal) [bad]) w:=by
 refine dT L Left.same ⟨hs,λτ d=>?_⟩
 obtain⟨e,w',fr,⟨v,rfl,hr⟩,⟨n,hn⟩,hf,hl⟩:=hc τ d [bad]
 exact cy L (hs.same uj) hn (by simp) ⟨w',v,fr,⟨rfl,rfl,rfl⟩,hr,rfl,hf,hl⟩
end
def Ro (w:World)(b:Nat):Prop:=∃c t f,w.heap[b]?=some (.cells c t f)/\∀i,i<c.size->f.1<=i/\i<f.2
def Sep (S:Par)(β:Bij)(w:World)(S':Par)(β':Bij)(w':World):Prop :=
 ∀b b' B,β b B->β' b' B->S.hid b=true\/S'.hid b'=true\/(Ro w b/\Ro w' b')
def Sep.symm {S S':Par}{β β':Bij}{w w':World}(h:Sep S β w S' β' w'):Sep S' β' w' S β w:=by
 intro b b' B h1 h2
 rcases h b' b B h2 h1 with h|h|⟨h,k⟩
 ·exact .inr (.inl h)
 ·exact .inl h
 ·exact .inr (.inr ⟨k,h⟩)
section
variable {S S':Par} {Ck Ck':Code->Prop} {G G':Nat} {β β' γ:Bij} {w w' v W W':World} {ES:List Event}
def Ro.kept (f:Fin S Ck G β β' w W w' W' ES){b B:Nat}(hb:β b B)(r:Ro w b):Ro w' b:=by
 obtain⟨c,t,z,h1,h2⟩:=r
 have:=(f.ro b B c t z hb h1 h2).1
 exact⟨c,t,z,this.trans h1,h2⟩
def WRel.others (k:WRel S' Ck' G' γ v W)(tw:S'.hid.twin=false)(h:WRel S Ck G β w W)(f:Fin S Ck G β β' w W w' W' ES)(s:Sep S β w S' γ v):WRel S' Ck' G' γ v W' where
 fine:=k.fine
 room:=⟨k.room.1,Nat.le_trans k.room.2 f.SIZE⟩
 objs:=λb B hb hh=>by
  obtain⟨o,O,h1,h2,h3⟩:=k.objs b B hb hh
  refine⟨o,O,h1,?_,h3⟩
  rw[<-h2]
  by_cases hx:∃b',β b' B
  ·obtain⟨b',hb'⟩:=hx
   rcases s b' b B hb' hb with x|x|⟨x,_⟩
   ·exact f.hk b' B hb' x
   ·rw[hh] at x;cases x
   ·obtain⟨c,t,z,q1,q2⟩:=x
    exact(f.ro b' B c t z hb' q1 q2).2
  ·exact f.KEPT B (k.lt hb).2 (λb' hb'=>hx ⟨b',hb'⟩)
 hids:=λb B hb hh=>by
  obtain⟨h1,h2,_⟩:=k.hids b B hb hh
  refine⟨h1,λ_=>?_,λe=>by rw[tw] at e;cases e⟩
  obtain⟨c,t,z,h2⟩:=h2 tw
  by_cases hx:∃b',β b' B
  ·obtain⟨b',hb'⟩:=hx
   cases hh':S.hid b' with
   |true=>exact⟨c,t,z,(f.hk b' B hb' hh').trans h2⟩
   |false =>
    obtain⟨o,O,q1,q2,q3⟩:=h.objs b' B hb' hh'
    obtain⟨o',O',p1,p2,p3⟩:=f.rel.objs b' B (f.le _ _ hb') hh'
    have hkd:=f.kind b' (h.lt hb').1
    rw[q1,p1] at hkd
    rw[h2] at q2;cases q2
    cases q3 with
    |cells a z' =>
     cases p3 with
     |cells a2 z2=>exact⟨_,_,_,p2⟩
     |_=>simp[kindOf] at hkd
  ·exact⟨c,t,z,(f.KEPT B (k.lt hb).2 (λb' hb'=>hx ⟨b',hb'⟩)).trans h2⟩
 old:=k.old
 env:=by rw[f.OS];exact k.env
def Sep.kept (k:WRel S' Ck' G' γ v W)(f:Fin S Ck G β β' w W w' W' ES)(s:Sep S β w S' γ v):Sep S β' w' S' γ v:=by
 intro b b' B h1 h2
 rcases f.new b B h1 with h0|⟨_,h0⟩
 ·rcases s b b' B h0 h2 with x|x|⟨x,y⟩
  ·exact .inl x
  ·exact .inr (.inl x)
  ·exact .inr (.inr ⟨x.kept f h0,y⟩)
 ·have:=(k.lt h2).2
  omega
end
def Fine (p:Program)(BB:FuncId->Bool)(g:Goroutine)(_:World):Prop:=BB g.frame.fn=true/\∀o,g.frame.oper?=some o->aB p o.op=true
def Runs.mono {p:Program}{Ev Ev' Q Q':Goroutine->World->Prop}(he:∀g w,Ev g w->Ev' g w)(hq:∀g w,Q g w->Q' g w){g:Goroutine}{w:World}(h:Runs p Ev Q g w):Runs p Ev' Q' g w:=by
 induction h with
 |fin h=>exact .fin (hq _ _ h)
 |next ng nw h1 h2 _ ih=>exact .next ng nw (he _ _ h1) h2 ih
def Runs.bind {p:Program}{Ev Q Q':Goroutine->World->Prop}{g:Goroutine}{w:World}(h:Runs p Ev Q g w)(k:∀g w,Q g w->Runs p Ev Q' g w):Runs p Ev Q' g w:=by
 induction h with
 |fin h=>exact k _ _ h
 |next ng nw h1 h2 _ ih=>exact .next ng nw h1 h2 ih
section
variable {P:Two} {SB SB0:FuncId->Bool} {H H0:Hid} {lets:Bool} {BB:FuncId->Bool} {T:List Frame} {β:Bij} {G G0:Nat}
def TopRel.on_of {f F:Frame}(h:TopRel P SB H lets BB β f F)(hb:BB f.fn=true):FrRel P.a SB H lets β f F:=by
 cases h with
 |on h=>exact h
 |@stop f' _ _ _ _ h2 =>
  have hb':BB f'=true:=hb
  rw[h2] at hb'
  cases hb'
def ku {g:Goroutine}{w:World}(h:Fine P.a BB g w):Ready P.a SB g:=λ_ o ho=>mP (h.2 o ho)
def follow (L:Lib P SB H lets BB G){main2:Bool}{Q:Goroutine->World->Prop}{g g2:Goroutine}{w W:World}(hr:Runs P.a (Fine P.a BB) Q g w)(hq:¬Q g w)
  (hg:GRel P SB H lets BB T β g g2) (hw:WRel (SP SB H) (CK P.a SB lets) G β w W) :
  ∃g' w' es β' g2' W' ES,stepG P.a true g (on w W.tape W.drawn)=.go g' w' es/\Runs P.a (Fine P.a BB) Q g' w'/\stepG P.b main2 g2 W=.go g2' W' ES/\GRel P SB H lets BB T β' g' g2' /\
   Fin (SP SB H) (CK P.a SB lets) G β β' (on w W.tape W.drawn) W w' W' ES.toList:=by
 cases hr with
 |fin h=>exact absurd h hq
 |next ng nw h1 h2 h3 =>
  obtain⟨⟨es,e⟩,hne⟩:=h2 W.tape W.drawn
  have hw':WRel (SP SB H) (CK P.a SB lets) G β (on w W.tape W.drawn) W:=hw.same rfl rfl hw.env
  have:=da (main:=true) (main2:=main2) L hg (hg.top.on_of h1.1) (ku h1) hw' (n:=(nw W.tape W.drawn).drawn) (λ_ _ _=>rfl) (by rw[e];exact Nat.le_add_left _ _)
  rw[e] at this
  rcases this with⟨h0,_⟩|⟨β',g2',W',ES,k1,k2,k3⟩
  ·exact absurd h0 hne
  ·exact⟨_,_,es,β',g2',W',ES,e,h3 _ _,k1,k2,k3⟩
def follow_next (L:Lib P SB H lets BB G){main2:Bool}{g g2:Goroutine}{w W:World}{ng:Tape->Nat->Goroutine}{nw:Tape->Nat->World}(h1:Fine P.a BB g w)(h2:∀τ d,(∃es,stepG P.a true g (on w τ d)=.go (ng τ d) (nw τ d) es)/\(ng τ d).callers≠[])
  (hg:GRel P SB H lets BB T β g g2) (hw:WRel (SP SB H) (CK P.a SB lets) G β w W) :
  ∃g' w' es β' g2' W' ES,stepG P.a true g (on w W.tape W.drawn)=.go g' w' es/\(g'=ng W.tape W.drawn/\w'=nw W.tape W.drawn)/\stepG P.b main2 g2 W=.go g2' W' ES/\GRel P SB H lets BB T β' g' g2' /\
   Fin (SP SB H) (CK P.a SB lets) G β β' (on w W.tape W.drawn) W w' W' ES.toList:=by
 obtain⟨⟨es,e⟩,hne⟩:=h2 W.tape W.drawn
 have hw':WRel (SP SB H) (CK P.a SB lets) G β (on w W.tape W.drawn) W:=hw.same rfl rfl hw.env
 have:=da (main:=true) (main2:=main2) L hg (hg.top.on_of h1.1) (ku h1) hw' (n:=(nw W.tape W.drawn).drawn) (λ_ _ _=>rfl) (by rw[e];exact Nat.le_add_left _ _)
 rw[e] at this
 rcases this with⟨h0,_⟩|⟨β',g2',W',ES,k1,k2,k3⟩
 ·exact absurd h0 hne
 ·exact⟨_,_,es,β',g2',W',ES,e,⟨rfl,rfl⟩,k1,k2,k3⟩
end
section
variable {P:Two} {SB:FuncId->Bool} {H:Hid} {lets:Bool} {BB:FuncId->Bool} {T:List Frame} {β:Bij} {G:Nat}
def leave (L:Lib P SB H lets BB G){main2:Bool}{f:FuncId}{R:Value->World->Prop}{g g2:Goroutine}{w W:World}{C:Frame}{CS:List Frame}(hl:Left P.a f R g w)(hbb:BB f=true)
  (hg:GRel P SB H lets BB (C::CS) β g g2) (hw:WRel (SP SB H) (CK P.a SB lets) G β w W) :
  ∃v w0 w1 V W' ES β',Same w w0/\R v w0/\Same w w1/\stepG P.b main2 g2 W=.go (gor (C.finish V) CS) W' ES/\VRel (SP SB H) β' v V /\
   Fin (SP SB H) (CK P.a SB lets) G β β' (on w W.tape W.drawn) W w1 W' ES.toList:=by
 obtain⟨w0,v,fr,hs,hR,rfl,hf,hm,hd,hk,fn,hfn,hres⟩:=hl
 have hon:=hg.top.on_of (show BB fr.fn=true by rw[hf];exact hbb)
 have e0:=hg.status.2
 have e1:=hg.dying.2
 have e2:=hg.offers.2
 have hcs:=hg.callers
 obtain⟨FR,CS2,st,dy,off⟩:=g2
 dsimp only at e0 e1 e2 hcs hon
 subst e0 e1 e2
 have ecs:CS2=C::CS:=by
  cases hcs with
  |base=>rfl
  |cons _ h=>exact absurd rfl h.ne
 subst ecs
 obtain⟨fn1,tmps,todo,defers,mode,kind,round⟩:=fr
 obtain⟨fn2,tmps2,todo2,defers2,mode2,kind2,round2⟩:=FR
 obtain⟨a1,a2,a3,a4,a5,a6,a7,a8⟩:=hon
 dsimp only[gor] at a1 a2 a3 a4 a5 a6 a7 a8 hm hd hk hfn hres hf
 subst a1 a6 hm hd hk
 have d2:defers2=[]:=by cases a4;rfl
 have m2:mode2=.returning:=by cases a5;rfl
 subst d2 m2
 obtain⟨q,q',g1,g2,g3⟩:=L.like fn1 a7.2
 rw[hfn] at g1;cases g1
 have g2':P.b.funcs[fn1]?=some q':=g2
 have g4:results q' tmps2=results fn tmps2:=by unfold results;rw[g3]
 have hw1:WRel (SP SB H) (CK P.a SB lets) G β w0 W:=hw.same hs.1.symm rfl (by rw[<-hs.2.1];exact hw.env)
 have hm:=iG (P:=P) (Ck:=CK P.a SB lets) (G:=G) (S:=SP SB H) fn a2
 have hrun:((results fn tmps).runT P.a w0 #[]).1=.ok v w0:=by rw[Sem.runT_fst];exact hres
 have hE:=hm w0 W 0 hw1 (λi hi=>absurd hi (Nat.not_lt_zero _)) #[] #[]
 rcases hr:(results fn tmps).runT P.a w0 #[] with⟨r,es⟩
 rw[hr] at hE hrun
 dsimp only at hrun
 subst hrun
 obtain⟨β',V,W',ES,k1,k2,k3⟩:=hE (Nat.le_refl _)
 refine⟨v,w0,on w0 W.tape W.drawn,V,W',seen P.b fn1 ES.toArray,β',hs.symm,hR,(hs.symm).trans uj,?_,k2,?_⟩
 ·unfold stepG
  dsimp only
  unfold unwind
  dsimp only
  rw[g2']
  dsimp only
  rw[g4,k1]
  simp only[Array.empty_append]
  show GStep.after _ (doReturn P.b main2 ⟨fn1,tmps2,todo2,[],.returning,.normal,round2⟩ (C::CS) none V W')=_
  unfold doReturn
  simp[GStep.after,gor]
 ·have k4:=k3.seen (P:=P) (SB:=SB) (H:=H) (lets:=lets) fn1
  have hh:w.heap=w0.heap:=hs.1
  have dr:=k4.draws
  have W'd:W'.drawn=W.drawn:=by omega
  exact {
   le:=k4.le
   rel:=k4.rel.same rfl rfl k4.rel.env
   tape:=rfl
   TAPE:=k4.TAPE
   drawn:=Nat.le_refl _
   draws:=by show W'.drawn+W.drawn=W.drawn+W.drawn;omega
   os:=hs.2.1.symm
   OS:=k4.OS
   out:=hs.2.2.symm
   OUT:=k4.OUT
   size:=by show w.heap.size<=w0.heap.size;rw[hh];exact Nat.le_refl _
   SIZE:=k4.SIZE
   new:=λb B h=>by show β b B\/(w.heap.size<=b/\_);rw[hh];exact k4.new b B h
   NEW:=k4.NEW
   frozen:=λa _=>by show w0.frozen? a=w.frozen? a;rw[aS,aS,hh]
   KEPT:=k4.KEPT
   ro:=λb B c t z hb hc hz=>by
    have hc':w0.heap[b]?=some (.cells c t z):=by rw[<-hh];exact hc
    exact⟨by show w0.heap[b]?=w.heap[b]?;rw[hh],(k4.ro b B c t z hb hc' hz).2⟩
   kind:=λb _=>by show(w0.heap[b]?).map kindOf=(w.heap[b]?).map kindOf;rw[hh]
   evs:=λht E hE=>by
    have:=k4.evs ht E hE
    cases this with
    |cell h1 h2 h3 h4=>exact .cell h1 h2 h3 h4
    |obj h1 h2=>exact .obj h1 h2
    |mark h=>exact .mark h
    |out=>exact .out
   same:=λi e=>by
    have:=k4.same i (by rw[<-hh];exact e)
    exact this
   hk:=k4.hk }
end
def kid (n:Nat)(d:Deferred):Goroutine:={ frame:={ (default:Frame) with fn:=n,defers:=[d],mode:=.panicking [goexitEntry] },callers:=[],status:=.running,dying:=none }
section
variable {p:Program} {Ev Q:Goroutine->World->Prop}
def Runs.same (hE:∀g w W,Same w W->Ev g w->Ev g W)(hQ:∀g w W,Same w W->Q g w->Q g W){g:Goroutine}{w W:World}(h:Runs p Ev Q g w)(hs:Same w W):Runs p Ev Q g W:=by
 cases h with
 |fin h=>exact .fin (hQ _ _ _ hs h)
 |next ng nw h1 h2 h3 =>
  refine .next ng nw (hE _ _ _ hs h1) (λτ d=>?_) h3
  have e:on W τ d=on w τ d:=by
   obtain⟨a,b,c,d',e'⟩:=W
   obtain⟨k1,k2,k3⟩:=hs
   dsimp only at k1 k2 k3
   subst k1 k2 k3
   rfl
  rw[e]
  exact h2 τ d
inductive Walk (p:Program)(C:Goroutine->Prop):Goroutine->World->Goroutine->World->Prop
 |refl {g:Goroutine} {w:World}:Walk p C g w g w
 |step {g g' g2:Goroutine} {w w' w2:World} {es:Array Event}:C g->stepG p true g w=.go g' w' es->Walk p C g' w' g2 w2->Walk p C g w g2 w2
def Runs.descend {C:Goroutine->Prop}(hE:∀g w W,Same w W->Ev g w->Ev g W)(hQ:∀g w W,Same w W->Q g w->Q g W)(hC:∀g w,C g->¬Q g w){g g2:Goroutine}{w w1 w2:World}(h:Runs p Ev Q g w)(hs:Same w w1)(k:Walk p C g w1 g2 w2):Runs p Ev Q g2 w2:=by
 induction k generalizing w with
 |refl=>exact h.same hE hQ hs
 |step c e _ ih =>
  cases h with
  |fin h=>exact absurd h (hC _ _ c)
  |next ng nw h1 h2 h3 =>
   rename_i w1 _ _ _ _
   obtain⟨⟨es',e'⟩,_⟩:=h2 w1.tape w1.drawn
   rw[<-hs.eq,e] at e'
   cases e'
   exact ih (h3 _ _) ⟨rfl,rfl,rfl⟩
def After (p:Program)(x y:Goroutine×World):Prop:=∃τ d es,stepG p true y.1 (on y.2 τ d)=.go x.1 x.2 es/\x.1.callers≠[]
def Left.last {f:FuncId}{R:Value->World->Prop}{g:Goroutine}{w:World}(h:Left p f R g w)(x:Goroutine×World):¬After p x (g,w):=by
 rintro⟨τ,d,es,e,hne⟩
 obtain⟨w0,v,fr,hs,_,rfl,_,hm,hd,hk,fn,hfn,_⟩:=h
 obtain⟨fn1,tmps,todo,defers,mode,kind,round⟩:=fr
 dsimp only at hm hd hk hfn
 subst hm hd hk
 unfold stepG gor at e
 dsimp only at e
 unfold unwind at e
 dsimp only at e
 rw[hfn] at e
 dsimp only at e
 rcases hr:(results fn tmps).runT p (on w τ d) #[] with⟨r,es'⟩
 rw[hr] at e
 cases r with
 |ok v w' =>
  simp[doReturn,GStep.after] at e
  exact hne (by rw[<-e.1])
 |halt x w'=>cases x<;>simp[GStep.after] at e
end
open Go.Conc
inductive SpecOp (p:Program)(a:Act)(w:World)(o:Oper):Array Event->Value->Prop
 |mark0 {f:FuncId} {ug:Array Operand} {ats:Array TypeId} {fn:Func} (m:Mark):(m=.disable\/m=.enable)->o.op=.call { callee:=.value (.func f),args:=ug,argTypes:=ats }->p.funcs[f]?=some fn->(fn.name == "runtime.NumGoroutine")=false->fn.body.isNone=true->Extern.findNext fn=none ->
   Extern.find fn=some (λ_=>do mark m;pure Extern.Race.none_)->SpecOp p a w o #[⟨.mark m,false,true⟩] (.tuple #[])
 |markAt {f:FuncId} {ug:Array Operand} {ats:Array TypeId} {fn:Func} {ad:Addr} (mk:Addr->Mark):(mk=.acquire\/mk=.releaseMerge)->o.op=.call { callee:=.value (.func f),args:=ug,argTypes:=ats }->p.funcs[f]?=some fn->(fn.name == "runtime.NumGoroutine")=false->fn.body.isNone=true->Extern.findNext fn=none ->
   Extern.find fn=some (Extern.Race.marked mk)->(ug.map a.eval)[0]?=some (.pointer (some ad))->(∃u,w.cell? ad=some u)->SpecOp p a w o #[⟨.mark (mk ad),false,true⟩] (.tuple #[])
 |conv {s d t:TypeId} {x:Operand} {ad:Addr}:o.op=.convert s d x->p.underlying s=some (.pointer t)->p.underlying d=some .unsafePointer->(p.info? t).map (λi=>decide (i.size=0))=some false->a.eval x=.pointer (some ad)->(∃u,w.cell? ad=some u)->SpecOp p a w o #[] (.pointer (some ad))
section
variable {p:Program} {main:Bool} {b:Frame} {a:Act} {k:List Item} {cs:List Frame} {w W:World} {ops:Array Oper} {i:Nat} {rest:List Nat} {o:Oper} {es:Array Event} {v:Value}
def SpecOp.step (h:SpecOp p a w o es v)(ho:ops[i]?=some o)(hw:Region.wanted o (yielded ops a.tmps)=true)(hk:b.kind≠.early) :
  stepG p main (gor (b.at a (.inRegion ops (i::rest)::k)) cs) w=.go (gor (b.at (a.put o.dst v) (.inRegion ops rest::k)) cs) w es:=by
 cases h with
 |mark0 m hm hop hf hn hb hx he=>exact stepG_mark0 m (by rcases hm with rfl|rfl<;>simp) ho hw hk hop hf hn hb hx he
 |markAt mk hm hop hf hn hb hx he hp=>exact stepG_markAt mk (by rcases hm with rfl|rfl<;>simp) ho hw hk hop hf hn hb hx he hp
 |@conv s d t x ad hop hs hd hz hx hc =>
  obtain⟨u,hc⟩:=hc
  have hev:a.eval x=.pointer (some ad):=hx
  have e1:execOp a.eval o=(do let r<-convert s d (a.eval x);pure (.value r)):=by unfold execOp;rw[hop]
  have hr:=run_convert_to_unsafe hs hd hz hc
  rw[show gor (b.at a (.inRegion ops (i::rest)::k)) cs=Go.Conc.G (b.at a (.inRegion ops (i::rest)::k)) cs from rfl,stepG_value (v:=.pointer (some ad)) (w':=w) ho hw hk (by rw[e1,hev];simp[hr,Result.andThen])]
  have:listed p b.fn a o w=#[]:=by
   unfold listed
   rw[e1,hev]
   have he:=events_convert_to_unsafe hs hd hz hc #[]
   simp[he,hr,Result.evThen,seen_none]
  rw[this];rfl
def SpecOp.same (h:SpecOp p a w o es v)(hs:Same w W):SpecOp p a W o es v:=by
 have hc:∀ad:Addr,W.cell? ad=w.cell? ad:=λad=>by unfold World.cell?;rw[hs.1]
 cases h with
 |mark0 m hm hop hf hn hb hx he=>exact .mark0 m hm hop hf hn hb hx he
 |markAt mk hm hop hf hn hb hx he hp hu=>exact .markAt mk hm hop hf hn hb hx he hp (hu.imp λu e=>(hc _).trans e)
 |conv hop hs hd hz hx hu=>exact .conv hop hs hd hz hx (hu.imp λu e=>(hc _).trans e)
end
inductive SpecEv (β:Bij):Array Event->Array Event->Prop
 |mark0 (m:Mark):(m=.disable\/m=.enable)->SpecEv β #[⟨.mark m,false,true⟩] #[⟨.mark m,false,true⟩]
 |markAt {b B:Nat} (o:Nat) (s:Option Nat) (mk:Addr->Mark):(mk=.acquire\/mk=.releaseMerge)->β b B->SpecEv β #[⟨.mark (mk ⟨b,o,s⟩),false,true⟩] #[⟨.mark (mk ⟨B,o,s⟩),false,true⟩]
 |none:SpecEv β #[] #[]
def SpecEv.deaf {β:Bij}{es ES:Array Event}(h:SpecEv β es ES)(d:Nat):deafBehind d ES=deafBehind d es:=by
 cases h with
 |mark0 m hm=>rfl
 |markAt o s mk hm hb=>rcases hm with rfl|rfl<;>rfl
 |none=>rfl
section
variable {P:Two} {SB:FuncId->Bool} {H:Hid} {lets:Bool} {BB:FuncId->Bool} {T:List Frame} {β:Bij} {Gn:Nat}
def ptr_inv {S:Par}{ad:Addr}{V:Value}(h:VRel S β (.pointer (some ad)) V):∃B,β ad.block B/\V=.pointer (some ⟨B,ad.off,ad.spot⟩):=by
 cases h with
 |ptr o s hb=>exact⟨_,hb,rfl⟩
def spec_rel (hmf:∀(f:FuncId) (fn:Func),P.a.funcs[f]?=some fn->fn.body.isNone=true->P.fs[f]?=some fn){main2:Bool}{b:Frame}{a:Act}{ops:Array Oper}{i:Nat}{rest:List Nat}{k:List Item}{cs:List Frame}{g2:Goroutine}{w W:World}{o:Oper}{es:Array Event}{v:Value}
  (hb:BB b.fn=true) (hg:GRel P SB H lets BB T β (gor (b.at a (.inRegion ops (i::rest)::k)) cs) g2) (hw:WRel (SP SB H) (CK P.a SB lets) Gn β w W) (ho:ops[i]?=some o) (hwt:Region.wanted o (yielded ops a.tmps)=true) (hk:b.kind≠.early) (h:SpecOp P.a a w o es v) :
  ∃g2' ES,stepG P.b main2 g2 W=.go g2' W ES/\GRel P SB H lets BB T β (gor (b.at (a.put o.dst v) (.inRegion ops rest::k)) cs) g2'/\SpecEv β es ES/\∀e∈ES,∀ad,e.loc=.mark (.acquire ad)\/e.loc=.mark (.releaseMerge ad)->ad.block<W.heap.size:=by
 have hon:FrRel P.a SB H lets β (b.at a (.inRegion ops (i::rest)::k)) g2.frame:=hg.top.on_of hb
 obtain⟨FR,CS,st,dy,off⟩:=g2
 obtain⟨_,hc,⟨_,h3⟩,⟨_,h4⟩,⟨_,h5⟩⟩:=hg
 dsimp only at hon hc h3 h4 h5
 subst h3 h4 h5
 have hon':=hon
 obtain⟨fn',A,todo',ds',mode',kind',round'⟩:=FR
 obtain⟨f1,f2,f3,f4,f5,f6,f7,f8⟩:=hon
 dsimp only[Frame.at] at f1 f2 f3 f4 f5 f6 f7 f8
 subst f1 f6
 cases f5
 cases f8
 cases f3 with
 |@cons _ I _ K hi hK =>
 cases hi with
 |inRegion hall =>
 have hy:yielded ops A=yielded ops a.tmps:=(funext λj=>gM f2 ops j).symm
 have hio:bP P.a SB lets (none:Option Nat).isNone o=true:=by
  have:=(Array.all_eq_true_iff_forall_mem.1 hall) o (Array.mem_of_getElem? ho)
  exact this
 have ev:∀x,ai SB x=true->VRel (SP SB H) β (a.eval x) (Act.eval ⟨A,ds'⟩ x):=λx hx=>by
  have:=hon'.eval hx
  rw[Frame.eval_at] at this
  exact this
 have inW:∀ad B,β ad.block B->(∃u,w.cell? ad=some u)->∃u,W.cell? ⟨B,ad.off,ad.spot⟩=some u:=by
  rintro ad B hbB ⟨u,hu⟩
  cases hh:H ad.block with
  |true =>
   have:=(hw.hids _ _ hbB hh).1
   unfold World.cell? at hu
   rw[this] at hu;cases hu
  |false =>
   obtain⟨o',O',e1,e2,e3⟩:=hw.objs _ _ hbB hh
   unfold World.cell? at hu ⊢
   rw[e1] at hu
   rw[e2]
   cases e3 with
   |@cells c C t f F hc' hf' =>
    dsimp only at hu ⊢
    split at hu
    ·cases hu
    ·rename_i hsp
     rw[if_neg hsp]
     have:=(Array.getElem?_eq_some_iff.1 hu).1
     have hs:=hc'.size
     exact⟨C[ad.off]'(by omega),Array.getElem?_eq_getElem _⟩
   |_=>cases hu
 have fin : ∀ (v V : Value) (ES : Array Event) , VRel (SP SB H) β v V -> SpecOp P.b ⟨A, ds'⟩ W o ES V -> SpecEv β es ES -> (∀ e ∈ ES, ∀ ad, e.loc = .mark (.acquire ad) ∨ e.loc = .mark (.releaseMerge ad) -> ad.block < W.heap.size) ->
   ∃g2' ES,stepG P.b main2 ⟨⟨b.fn,A,.inRegion ops (i::rest)::K,ds',.run,b.kind,none⟩,CS,.running,none,none⟩ W=.go g2' W ES/\GRel P SB H lets BB T β (gor (b.at (a.put o.dst v) (.inRegion ops rest::k)) cs) g2'/\SpecEv β es ES/\∀e∈ES,∀ad,e.loc=.mark (.acquire ad)\/e.loc=.mark (.releaseMerge ad)->ad.block<W.heap.size:=by
  intro v V ES hv hs he hl
  have hst:=hs.step (main:=main2) (b:=b) (k:=K) (cs:=CS) (rest:=rest) ho (by show Region.wanted o (yielded ops A)=true;rw[hy];exact hwt) hk
  refine⟨_,ES,hst,⟨.on ?_,hc,⟨rfl,rfl⟩,⟨rfl,rfl⟩,⟨rfl,rfl⟩⟩,he,hl⟩
  have h2:=aV (P:=P) hon' hv
  rw[Frame.finish_at,ho] at h2
  have e2:(⟨b.fn,A,.inRegion ops (i::rest)::K,ds',.run,b.kind,none⟩:Frame)=b.at ⟨A,ds'⟩ (.inRegion ops (i::rest)::K):=rfl
  rw[e2,Frame.finish_at,ho] at h2
  exact h2
 cases h with
 |@mark0 f ug ats fn m hm hop hf hn hb' hx he =>
  exact fin _ _ _ (.tuple rfl (by simp)) (.mark0 m hm hop (hmf f fn hf hb') hn hb' hx he) (.mark0 m hm) (by
   intro e hee ad h
   simp only[List.mem_toArray,List.mem_cons,List.not_mem_nil,or_false] at hee
   subst hee
   rcases hm with rfl|rfl<;>rcases h with h|h<;>cases h)
 |@markAt f ug ats fn ad mk hm hop hf hn hb' hx he hp hu =>
  have has:ug.all (ai SB)=true:=by
   unfold bP cS opOk goOk at hio
   rw[hop] at hio
   simp only[bm,Bool.and_eq_true,Bool.or_eq_true] at hio
   rcases hio with h|h
   ·exact h.1.1.1
   ·exact h.2.1.2
  obtain⟨x0,hx0,hx1⟩:∃x,ug[0]?=some x/\a.eval x=.pointer (some ad):=by
   rw[Array.getElem?_map] at hp
   cases h0:ug[0]? with
   |none=>rw[h0] at hp;cases hp
   |some x=>rw[h0] at hp;exact⟨x,rfl,Option.some.inj hp⟩
  have hv:=ev x0 ((Array.all_eq_true_iff_forall_mem.1 has) x0 (Array.mem_of_getElem? hx0))
  rw[hx1] at hv
  obtain⟨B,hbB,hV⟩:=ptr_inv hv
  obtain⟨b',o',s'⟩:=ad
  exact fin _ _ _ (.tuple rfl (by simp)) (.markAt (ad:=⟨B,o',s'⟩) mk hm hop (hmf f fn hf hb') hn hb' hx he (by rw[Array.getElem?_map,hx0];exact congrArg some hV) (inW _ _ hbB hu)) (.markAt o' s' mk hm hbB) (by
   intro e hee ad h
   simp only[List.mem_toArray,List.mem_cons,List.not_mem_nil,or_false] at hee
   subst hee
   have hBl:=(hw.lt hbB).2
   rcases hm with rfl|rfl<;>rcases h with h|h<;>first|(cases h;exact hBl)|cases h)
 |@conv s d t x ad hop hs hd hz hx hu =>
  have hox:ai SB x=true:=by
   unfold bP cS opOk goOk at hio
   rw[hop] at hio
   simp only[Bool.and_eq_true,Bool.or_eq_true] at hio
   rcases hio with h|h
   ·exact h.1.1.2
   ·exact h.2.2
  have hv:=ev x hox
  rw[hx] at hv
  obtain⟨B,hbB,hV⟩:=ptr_inv hv
  obtain⟨b',o',s'⟩:=ad
  exact fin _ _ _ (.ptr o' s' hbB) (.conv hop hs hd hz hV (inW _ _ hbB hu)) .none (by simp)
end
inductive KTr (p:Program)(BB:FuncId->Bool)(Q:Goroutine->World->Prop):Nat->Goroutine->World->Prop
 |fin {g:Goroutine} {w:World}:Q g w->KTr p BB Q 0 g w
 |next {d:Nat} {g:Goroutine} {w:World} (ng:Tape->Nat->Goroutine) (nw:Tape->Nat->World):Fine p BB g w->(∀τ d,(∃es,stepG p true g (on w τ d)=.go (ng τ d) (nw τ d) es)/\(ng τ d).callers≠[])->(∀τ n,KTr p BB Q d (ng τ n) (nw τ n))->KTr p BB Q d g w
 | spec {d : Nat} {b : Frame} {a : Act} {ops : Array Oper} {i : Nat} {rest : List Nat} {k : List Item} {cs : List Frame} {w : World} {o : Oper} {es : Array Event} {v : Value} : BB b.fn = true -> cs ≠ [] -> ops[i]? = some o -> Region.wanted o (yielded ops a.tmps) = true -> b.kind ≠ .early -> SpecOp p a w o es v ->
   (∀τ n,KTr p BB Q (deafBehind d es) (gor (b.at (a.put o.dst v) (.inRegion ops rest::k)) cs) (on w τ n))->KTr p BB Q d (gor (b.at a (.inRegion ops (i::rest)::k)) cs) w
section
variable {p:Program} {BB:FuncId->Bool} {Q Q':Goroutine->World->Prop} {d:Nat} {g:Goroutine} {w W:World}
def KTr.of (h:Runs p (Fine p BB) Q g w):KTr p BB Q 0 g w:=by
 induction h with
 |fin h=>exact .fin h
 |next ng nw h1 h2 _ ih=>exact .next ng nw h1 h2 ih
def KTr.bind (h:KTr p BB Q d g w)(k:∀g w,Q g w->KTr p BB Q' 0 g w):KTr p BB Q' d g w:=by
 induction h with
 |fin h=>exact k _ _ h
 |next ng nw h1 h2 _ ih=>exact .next ng nw h1 h2 ih
 |spec h1 h2 h3 h4 h5 h6 _ ih=>exact .spec h1 h2 h3 h4 h5 h6 ih
def KTr.mono (h:KTr p BB Q d g w)(hq:∀g w,Q g w->Q' g w):KTr p BB Q' d g w:=h.bind λg w h=>.fin (hq g w h)
def KTr.same (hQ:∀g w W,Same w W->Q g w->Q g W)(h:KTr p BB Q d g w):∀ {W:World},Same w W->KTr p BB Q d g W:=by
 induction h with
 |fin h=>exact λhs=>.fin (hQ _ _ _ hs h)
 |@next d g w ng nw h1 h2 h3 _ =>
  intro W hs
  have e:∀τ n,on W τ n=on w τ n:=λτ n=>by rw[hs.eq];rfl
  exact .next ng nw h1 (λτ n=>by rw[e];exact h2 τ n) h3
 |@spec d b a ops i rest k cs w o es v h1 h2 h3 h4 h5 h6 h7 _ =>
  intro W hs
  have e:∀τ n,on W τ n=on w τ n:=λτ n=>by rw[hs.eq];rfl
  exact .spec h1 h2 h3 h4 h5 (h6.same hs) (λτ n=>by rw[e];exact h7 τ n)
def KTr.step (hf:Fine p BB g w)(h:∀τ n,∃g' w' es,stepG p true g (on w τ n)=.go g' w' es/\g'.callers≠[]/\KTr p BB Q d g' w'):KTr p BB Q d g w :=
 .next (λτ n=>Classical.choose (h τ n)) (λτ n=>Classical.choose (Classical.choose_spec (h τ n))) hf
  (λτ n=>by
   obtain⟨es,h1,h2,_⟩:=Classical.choose_spec (Classical.choose_spec (h τ n))
   exact⟨⟨es,h1⟩,h2⟩)
  (λτ n=>by
   obtain⟨es,_,_,h3⟩:=Classical.choose_spec (Classical.choose_spec (h τ n))
   exact h3)
end
section
variable {p:Program} {SB0:FuncId->Bool} {H:Hid} {G:Nat} {BB:FuncId->Bool} {T:List Frame} {β:Bij}
def bT {q:Program}{f F:Frame}(h:FrRel p SB0 H false β f F)(hn:∀f,SB0 f=true->cT q f=false)(hu:∀t,q.underlying t=p.underlying t):∀o,f.oper?=some o->aB q o.op=true:=λo ho=>by
 have key:∀(t U:List Item),LRel (IRel p SB0 H false f.roundOf.isNone β) t U->(match t with|.inRegion ops (i::_)::_=>ops[i]?|_=>none)=some o->aB q o.op=true:=by
  intro t U h e
  cases h with
  |nil=>cases e
  |cons hi _ =>
   cases hi with
   |@inRegion ops l hops =>
    cases l with
    |nil=>cases e
    |cons i rest =>
     simp only[Array.all_eq_true_iff_forall_mem] at hops
     have:=hops o (Array.mem_of_getElem? e)
     unfold bP at this
     simp only[Bool.false_and,Bool.or_false,Bool.and_eq_true] at this
     exact pY this.1 hn hu
   |_=>cases e
 refine key f.todo F.todo h.todo ?_
 unfold Frame.oper? at ho
 exact ho
def j5 {lets:Bool}{c:Frame}{cs l m:List Frame}(h:CsRel p SB0 H lets (c::cs) β l m):m≠[]:=by
 cases h<;>simp
end
def gN {p:Program}{f:FuncId}{fn:Func}{s:String}(h:p.funcs[f]?=some fn)(hb:fn.body=some (.refuse s))(a:Array Value)(k:CallKind)(cs:List Frame)(w:World)(main:Bool){g':Goroutine}{w':World}{es:Array Event} :
  stepG p main (gor (Frame.enter p f a k) cs) w≠.go g' w' es:=by
 intro e
 simp[stepG,gor,Frame.enter,h,hb,stepG.exec] at e
section
variable {P:Two} {SB0 BC BB:FuncId->Bool} {H:Hid} {G:Nat}
def jb (P:Two)(SB0 BC:FuncId->Bool):Prop:=∀f,SB0 f=true\/aE SB0 f=true->BC f=false->∃fn s,P.a.funcs[f]?=some fn/\fn.body=some (.refuse s)
def p6 (hst:jb P SB0 BC){T:List Frame}{β:Bij}{g g2:Goroutine}{w:World}(hg:GRel P SB0 H false BC T β g g2){g':Goroutine}{w':World}{es:Array Event}(e:stepG P.a true g w=.go g' w' es):FrRel P.a SB0 H false β g.frame g2.frame:=by
 have eg:=hg.gor
 have htop:=hg.top
 generalize hf:g.frame=fr at htop ⊢
 generalize g2.frame=FR at htop ⊢
 cases htop with
 |on h=>exact h
 |@stop f a A k h1 h2 h3 h4 =>
  exfalso
  obtain⟨fn,s,q1,q2⟩:=hst f h1 h2
  rw[eg,hf] at e
  exact gN q1 q2 _ _ _ _ _ e
def ox {P:Two}{fr F:Frame}{β:Bij}(h:FrRel P.a SB0 H false β fr F):NotGo P.a SB0 fr:=notGo (P:=P.a) (SB:=SB0) (H:=H) h
def Runs.swap (Lc:Lib P SB0 H false BC G)(hst:jb P SB0 BC)(hb:∀f,SB0 f=true->BB f=true){Qa:Goroutine->World->Prop}{c:Frame}{cs:List Frame}{g:Goroutine}{w:World}(h:Runs P.a (Self P.a SB0 H G) Qa g w) :
  ∀ {β:Bij} {g2:Goroutine},IdB H β->GRel P SB0 H false BC (c::cs) β g g2->WRel (SP SB0 H) (CK P.a SB0 false) G β w w ->
  Runs P.b (Fine P.b BB) (λg2' w'=>∃g' w0 β',Qa g' w0/\Same w0 w'/\IdB H β'/\GRel P SB0 H false BC (c::cs) β' g' g2'/\WRel (SP SB0 H) (CK P.a SB0 false) G β' w0 w0) g2 w:=by
 induction h with
 |@fin g w hq=>exact λhi hg hw=>.fin ⟨_,_,_,hq,⟨rfl,rfl,rfl⟩,hi,hg,hw⟩
 |@next g w ng nw h1 h2 _ ih =>
  intro β g2 hi hg hw
  have hon:FrRel P.a SB0 H false β g.frame g2.frame:=by
   obtain⟨⟨es,e⟩,_⟩:=h2 w.tape w.drawn
   exact p6 hst hg e
  have eF:g.frame=g2.frame:=FrRel.id (P:=Two.of P.a) hi hon
  obtain⟨_,_,gs,_⟩:=h1
  have hfine:Fine P.b BB g2 w:=by
   have hf:BB g.frame.fn=true/\∀o,g.frame.oper?=some o->aB P.b o.op=true:=⟨hb _ hon.late.2,bT hon (λf h=>(Lc.nm f h).2) λ_=>rfl⟩
   unfold Fine
   rw[<-eF];exact hf
  refine Runs.step hfine λτ d=>?_
  obtain⟨⟨es,e⟩,hn⟩:=h2 τ d
  have hw':WRel (SP SB0 H) (CK P.a SB0 false) G β (on w τ d) (on w τ d):=hw.same rfl rfl rfl
  have:=da (P:=P) (main:=true) (main2:=true) Lc hg hon (λ_=>ox hon) hw' (n:=(nw τ d).drawn) (λ_ _ _=>rfl) (by rw[e];exact Nat.le_add_left _ _)
  rw[e] at this
  rcases this with⟨h0,_⟩|⟨β',g2',W',ES,k1,k2,k3⟩
  ·exact absurd h0 hn
  obtain⟨i1,i2⟩:=k3.same hi rfl
  have hr:=ih τ d i1 k2 (k3.rel.same rfl i2 rfl)
  refine⟨g2',W',ES,k1,j5 k2.callers,hr.same (λ_ _ _ _ x=>x) (λg w W s x=>?_) ⟨i2.symm,?_,?_⟩⟩
  ·obtain⟨g1,w0,β1,x1,x2,x3⟩:=x
   exact⟨g1,w0,β1,x1,x2.trans s,x3⟩
  ·rw[k3.OS,k3.os]
  ·rw[k3.OUT,k3.out]
end
def idOn (K:Nat->Prop):Bij:=λb B=>K b/\b=B
def cut (K:Nat->Prop)(β:Bij):Bij:=λb B=>K b/\β b B
section
variable {S S1:Par} {K:Nat->Prop} {β:Bij}
def FRel.cut {f F:Fn}(r:FRel S β f F)(k:FRel S1 (idOn K) f f):FRel S1 (cut K β) f F:=by
 cases r with
 |func _=>cases k with|func h=>exact .func h
 |yield hl _=>cases k with|yield h1 h2=>exact .yield ⟨h1.1,hl⟩ h2
def VRel.cut {v V:Value}(hb:S.hid.bl=true->S1.hid.bl=true)(r:VRel S β v V)(k:VRel S1 (idOn K) v v):VRel S1 (cut K β) v V:=by
 induction r with
 |bool b=>exact .bool b
 |int ik n=>exact .int ik n
 |string s=>exact .string s
 |nilp=>exact .nilp
 |ptr o s hb=>cases k with|ptr _ _ h=>exact .ptr o s ⟨h.1,hb⟩
 |nils l c=>exact .nils l c
 |slice o s l c hb=>cases k with|slice _ _ _ _ h=>exact .slice o s l c ⟨h.1,hb⟩
 |func hf h1 _ h2 _ i1 i2 =>
  cases k with
  |blankM _=>cases hf
  |func kf _ k1 _ k2=>exact .func (hf.cut kf) h1 (λi v V hv hV=>i1 i v V hv hV (k1 i v v hv hv)) h2 (λi v V hv hV=>i2 i v V hv hV (k2 i v v hv hv))
 |nilFunc=>exact .nilFunc
 |nilMap=>exact .nilMap
 |nilChan=>exact .nilChan
 |nilIface=>exact .nilIface
 |iface t _ ih=>cases k with|iface _ k=>exact .iface t (ih k)
 |agg h1 _ i1=>cases k with|agg _ k1=>exact .agg h1 λi v V hv hV=>i1 i v V hv hV (k1 i v v hv hv)
 |tuple h1 _ i1=>cases k with|tuple _ k1=>exact .tuple h1 λi v V hv hV=>i1 i v V hv hV (k1 i v v hv hv)
 |blank h1 h2=>exact .blank (h1.imp (λh=>h) hb) h2
 |blankM h1=>exact .blankM (h1.imp (λh=>h) hb)
def AsRel.cut (hb:S.hid.bl=true->S1.hid.bl=true){x X:Array Value}(r:AsRel S β x X)(k:AsRel S1 (idOn K) x x):AsRel S1 (cut K β) x X:=⟨r.size,λi v V hv hV=>(r.at_ i v V hv hV).cut hb (k.at_ i v v hv hv)⟩
def LRel.cut {α:Type}{R R1 R2:α->α->Prop}(h:∀a A,R a A->R1 a a->R2 a A){l L:List α}(r:LRel R l L)(k:LRel R1 l l):LRel R2 l L:=by
 induction r with
 |nil=>exact .nil
 |cons ha _ ih=>cases k with|cons k1 k2=>exact .cons (h _ _ ha k1) (ih k2)
def DRel.cut (hb:S.hid.bl=true->S1.hid.bl=true){d D:Deferred}(r:DRel S β d D)(k:DRel S1 (idOn K) d d):DRel S1 (cut K β) d D:=by
 cases r with
 |fn f c a=>cases k with
  |fn f' c' a'=>exact .fn (f.cut f') (c.cut hb c') (a.cut hb a')
  |blankM a A h1 h2 h3=>cases h2;cases f
 |nil a=>cases k with
  |nil a'=>exact .nil (a.cut hb a')
  |blankM a A h1 h2 h3=>cases h2
 |collected r _=>cases k with
  |collected h1 h2=>exact .collected ⟨h1.1,r⟩ h2
  |blankM a A h1 h2 h3=>cases h2
 |blankM a A h1 h2 h3 =>
  subst h2
  cases k with
  |fn f c a'=>cases f
  |blankM a' A' k1 k2 k3 =>
   have e:a'=a:=(Array.append_right_inj _ |>.1 (congrArg Deferred.args k2)).symm
   subst e
   have e:A'=a':=by
    rcases k3 with k3|⟨_,n,c,x,k3⟩
    ·exact Array.append_right_inj _ |>.1 (congrArg Deferred.args k3).symm
    ·exact(Array.append_inj_right' (congrArg Deferred.args k3) k1.size).symm
   subst e
   exact .blankM _ _ (h1.cut hb k1) rfl (h3.imp (λh=>h) λh=>⟨hb h.1,h.2⟩)
def ORel.cut (hb:S.hid.bl=true->S1.hid.bl=true){Ck Ck1:Code->Prop}{o O:Obj}(r:ORel S Ck β o O)(k:ORel S1 Ck1 (idOn K) o o):ORel S1 Ck1 (cut K β) o O:=by
 cases r with
 |cells a f=>cases k with|cells a' _=>exact .cells (a.cut hb a') f
 |loop p a b x d h=>cases k with|loop p' a' b' x' d' h'=>exact .loop p' a' b' (x.cut hb x') ⟨d'.1,d⟩ h'
 |number o s l hb=>cases k with|number _ _ _ h=>exact .number o s l ⟨h.1,hb⟩
 |taken=>exact .taken
 |defs l=>cases k with|defs l'=>exact .defs (l.cut (λ_ _=>DRel.cut hb) l')
def ORel.froz {Ck:Code->Prop}{c:Array Value}{t:TypeId}{f f1:Nat×Nat}{O:Obj}(r:ORel S Ck β (.cells c t f) O)(h:∀i,f.1<=i->i<f.2->f1.1<=i/\i<f1.2):ORel S Ck β (.cells c t f1) O:=by
 cases r with
 |cells a z=>exact .cells a λi h1 h2=>let ⟨p,q⟩:=z i h1 h2;h i p q
end
section
variable {p:Program} {SB:FuncId->Bool} {H H1:Hid} {lets:Bool} {K:Nat->Prop} {β:Bij}
def IRel.cut {ad:Bool}{i I:Item}(r:IRel p SB H lets ad β i I)(k:IRel p SB H1 lets ad (idOn K) i i):IRel p SB H1 lets ad (Go.Iso.cut K β) i I:=by
 cases r with
 |code c=>exact .code c
 |inBlock id=>exact .inBlock id
 |inLoop c=>exact .inLoop c
 |inScope c=>exact .inScope c
 |inRegion c=>exact .inRegion c
 |inRangeFunc a _=>cases k with|inRangeFunc h1 h2=>exact .inRangeFunc ⟨h1.1,a⟩ h2
 |endRangeFunc a _=>cases k with|endRangeFunc h1 h2=>exact .endRangeFunc ⟨h1.1,a⟩ h2
 |beginRound=>exact .beginRound
def PRel.cut (hb:H.bl=true->H1.bl=true){i I:PanicEntry}(r:PRel SB H β i I)(k:PRel SB H1 (idOn K) i i):PRel SB H1 (Go.Iso.cut K β) i I:=by
 cases r with
 |mk a b v=>cases k with|mk _ _ k=>exact .mk a b (v.cut hb k)
def MRel.cut (hb:H.bl=true->H1.bl=true){i I:FrameMode}(r:MRel SB H β i I)(k:MRel SB H1 (idOn K) i i):MRel SB H1 (Go.Iso.cut K β) i I:=by
 cases r with
 |run=>exact .run
 |returning=>exact .returning
 |panicking l=>cases k with|panicking l'=>exact .panicking (l.cut (λ_ _=>PRel.cut hb) l')
def ONRel.cut {i I:Option Nat}(r:ONRel H β i I)(k:ONRel H1 (idOn K) i i):ONRel H1 (Go.Iso.cut K β) i I:=by
 cases r with
 |none=>exact .none
 |some a _=>cases k with|some h1 h2=>exact .some ⟨h1.1,a⟩ h2
def FrRel.cut (hb:H.bl=true->H1.bl=true){f F:Frame}(r:FrRel p SB H lets β f F)(k:FrRel p SB H1 lets (idOn K) f f):FrRel p SB H1 lets (Go.Iso.cut K β) f F :=
 ⟨r.fn,r.tmps.cut hb k.tmps,r.todo.cut (λ_ _=>IRel.cut) k.todo,r.defers.cut (λ_ _=>DRel.cut hb) k.defers,r.mode.cut hb k.mode,r.kind,r.late,r.round.cut k.round⟩
def CsRel.cut (hb:H.bl=true->H1.bl=true){T T1:List Frame}{cs CS:List Frame}(r:CsRel p SB H lets T β cs CS)(k:CsRel p SB H1 lets T1 (idOn K) cs cs):CsRel p SB H1 lets T (Go.Iso.cut K β) cs CS:=by
 induction r with
 |base=>exact .base
 |cons a h ih =>
  cases k with
  |base=>exact absurd rfl (CsRel.ne (P:=Two.of p) h)
  |cons k1 k2=>exact .cons (a.cut hb k1) (ih k2)
end
section
variable {P:Two} {SB BB:FuncId->Bool} {H H1:Hid} {lets:Bool} {T:List Frame} {β:Bij} {Gn:Nat} {K:Nat->Prop} {g G:Goroutine} {w w1 W:World}
structure CutOk (p:Program)(SB:FuncId->Bool)(lets:Bool)(H H1:Hid)(K:Nat->Prop)(g:Goroutine)(w w1:World):Prop where
 top:FrRel p SB H1 lets (idOn K) g.frame g.frame
 callers:∃T1,CsRel p SB H1 lets T1 (idOn K) g.callers g.callers
 objs:∀b,K b->H1 b=false->H b=false/\∃o,w1.heap[b]?=some o/\ORel (SP SB H1) (CK p SB lets) (idOn K) o o /\
  (w.heap[b]?=some o\/∃c t f f1,w.heap[b]?=some (.cells c t f)/\o=.cells c t f1/\∀i,f.1<=i->i<f.2->f1.1<=i/\i<f1.2)
 hids:∀b,K b->H1 b=true->w1.heap[b]?=some (.coro none)/\(H b=true\/∃c t f,w.heap[b]?=some (.cells c t f))
 size:w.heap.size<=w1.heap.size
 old:∀b,H1 b=true->b<w1.heap.size
 env:w1.os=w.os
 twin:H1.twin=false/\H.twin=false
 bl:H.bl=true->H1.bl=true
def kv (hb:BB g.frame.fn=true)(k:CutOk P.a SB lets H H1 K g w w1)(h:GRel P SB H lets BB T β g G):GRel P SB H1 lets BB T (cut K β) g G:=by
 obtain⟨T1,hc⟩:=k.callers
 exact⟨.on ((h.top.on_of hb).cut k.bl k.top),h.callers.cut k.bl hc,h.status,h.dying,h.offers⟩
def kw (k:CutOk P.a SB lets H H1 K g w w1)(h:WRel (SP SB H) (CK P.a SB lets) Gn β w W):WRel (SP SB H1) (CK P.a SB lets) Gn (cut K β) w1 W:=by
 refine⟨⟨λa b=>h.fine.fn a.2 b.2,λa b=>h.fine.inj a.2 b.2,λa=>h.fine.lo a.2⟩,⟨Nat.le_trans h.room.1 k.size,h.room.2⟩,λb B hb hh=>?_,λb B hb hh=>?_,k.old,by rw[k.env];exact h.env⟩
 ·obtain⟨h0,o,e1,e2,e3⟩:=k.objs b hb.1 hh
  obtain⟨o',O,q1,q2,q3⟩:=h.objs b B hb.2 h0
  refine⟨o,O,e1,q2,?_⟩
  rcases e3 with e3|⟨c,t,f,f1,e3,rfl,e4⟩
  ·rw[q1] at e3;cases e3
   exact q3.cut k.bl e2
  ·rw[q1] at e3;cases e3
   exact(q3.froz e4).cut k.bl e2
 ·obtain⟨e1,e2⟩:=k.hids b hb.1 hh
  refine⟨e1,λ_=>?_,λe=>?_⟩
  ·rcases e2 with e2|⟨c,t,f,e2⟩
   ·exact(h.hids b B hb.2 e2).2.1 k.twin.2
   ·cases h0:H b with
    |true=>exact(h.hids b B hb.2 h0).2.1 k.twin.2
    |false =>
     obtain⟨o',O,q1,q2,q3⟩:=h.objs b B hb.2 h0
     rw[q1] at e2;cases e2
     cases q3 with
     |cells _ _=>exact⟨_,_,_,q2⟩
  ·have:=k.twin.1
   have e':H1.twin=true:=e
   rw[this] at e';cases e'
end
def uk:Hid:=⟨λ_=>false,false,false⟩
section
variable {P:Program} {SB:FuncId->Bool} {H:Hid} {G:Nat}
def SegEnds (b:Frame)(k:List Item)(cs:List Frame)(N:Exit->Act->World->Prop)(g:Goroutine)(w:World):Prop :=
 ∃a' w0,Same w0 w/\((N .normal a' w0/\g=gor (b.at a' k) cs)\/(N .ret a' w0/\∃todo,g=gor { b.at a' todo with mode:=.returning } cs))
def SegEnds.same {b:Frame}{k:List Item}{cs:List Frame}{N:Exit->Act->World->Prop}(g:Goroutine)(w W:World)(h:Same w W)(q:SegEnds b k cs N g w):SegEnds b k cs N g W:=by
 obtain⟨a',w0,h1,h2⟩:=q
 exact⟨a',w0,h1.trans h,h2⟩
def runs_of_wp (L:Lib (Two.of P) SB H false SB G){b:Frame}{a:Act}{c:Code}{k:List Item}{cs:List Frame}{w:World}{N:Exit->Act->World->Prop}(hne:cs≠[])(hs:Self P SB H G (gor (b.at a (.code c::k)) cs) w)
  (h:∀τ d,c.wp P (λe a' w'=>(e=.normal\/e=.ret)/\N e a' w') a (on w τ d)):Runs P (Self P SB H G) (SegEnds b k cs N) (gor (b.at a (.code c::k)) cs) w:=by
 refine dT L SegEnds.same ⟨hs,λτ d=>?_⟩
 obtain⟨e,a',w',⟨he,hn⟩,harr⟩:=h τ d b k cs
 rcases he with rfl|rfl
 ·obtain⟨n,hr⟩:=harr
  exact cy L (hs.same uj) hr hne ⟨a',w',⟨rfl,rfl,rfl⟩,.inl ⟨hn,rfl⟩⟩
 ·obtain⟨todo,n,hr⟩:=harr
  exact cy L (hs.same uj) hr hne ⟨a',w',⟨rfl,rfl,rfl⟩,.inr ⟨hn,todo,rfl⟩⟩
end
section
variable {P:Two} {SB0 BC BB:FuncId->Bool} {G:Nat} {Q:Goroutine->World->Prop}
structure Both (P:Two)(SB0 BC BB:FuncId->Bool)(G:Nat):Prop where
 la:Lib (Two.of P.a) SB0 uk false SB0 G
 lc:Lib P SB0 uk false BC G
 ref:jb P SB0 BC
 sub:∀f,SB0 f=true->BB f=true
def ru {K0:Nat->Prop}{w:World}{Ck:Code->Prop}(hlo:∀b,K0 b->G<=b)(hroom:G<=w.heap.size)(hobj:∀b,K0 b->∃o,w.heap[b]?=some o/\ORel (SP SB0 uk) Ck (idOn K0) o o):WRel (SP SB0 uk) Ck G (idOn K0) w w:=by
 refine⟨⟨λh1 h2=>h1.2.symm.trans h2.2,λh1 h2=>h1.2.trans h2.2.symm,λ{b B} h=>⟨hlo b h.1,h.2▸hlo b h.1⟩⟩,⟨hroom,hroom⟩,λb B hb _=>?_,λb B _ hh=>(by cases hh),λb hh=>(by cases hh),rfl⟩
 obtain⟨hb,rfl⟩:=hb
 obtain⟨o,h1,h2⟩:=hobj b hb
 exact⟨o,o,h1,h1,h2⟩
def Both.run (B:Both P SB0 BC BB G){Qa:Goroutine->World->Prop}{fr:Frame}{C:Frame}{cs:List Frame}{K0:Nat->Prop}{w:World}{F:Frame}(ha:TopRel (Two.of P.a) SB0 uk false SB0 (idOn K0) fr fr)(hc:TopRel P SB0 uk false BC (idOn K0) fr F)
  (hlo:∀b,K0 b->G<=b) (hroom:G<=w.heap.size) (hobj:∀b,K0 b->∃o,w.heap[b]?=some o/\ORel (SP SB0 uk) (CK P.a SB0 false) (idOn K0) o o)
  (h:Self P.a SB0 uk G (gor fr [bad]) w->Runs P.a (Self P.a SB0 uk G) Qa (gor fr [bad]) w) :
  Runs P.b (Fine P.b BB) (λg2' w'=>∃g' w0 β',Qa g' w0/\Same w0 w'/\IdB uk β'/\GRel P SB0 uk false BC (C::cs) β' g' g2'/\WRel (SP SB0 uk) (CK P.a SB0 false) G β' w0 w0) (gor F (C::cs)) w:=by
 have hi:IdB uk (idOn K0):=⟨rfl,λ_ _ h=>h.2⟩
 have hw:=ru (Ck:=CK P.a SB0 false) hlo hroom hobj
 have hs:Self P.a SB0 uk G (gor fr [bad]) w:=⟨_,hi,⟨ha,.base,⟨rfl,rfl⟩,⟨rfl,rfl⟩,⟨rfl,rfl⟩⟩,hw⟩
 exact(h hs).swap B.lc B.ref B.sub hi ⟨hc,.base,⟨rfl,rfl⟩,⟨rfl,rfl⟩,⟨rfl,rfl⟩⟩ hw
def Both.fn (B:Both P SB0 BC BB G){f:FuncId}(hf:SB0 f=true)(hfc:BC f=true){K0:Nat->Prop}{w:World}{args:Array Value}{C:Frame}{cs:List Frame}(hne:cs≠[])
  (hlo:∀b,K0 b->G<=b) (hroom:G<=w.heap.size) (hargs:AsRel (SP SB0 uk) (idOn K0) args args)
  (hobj:∀b,K0 b->∃o,w.heap[b]?=some o/\ORel (SP SB0 uk) (CK P.a SB0 false) (idOn K0) o o)
  (hQ:∀g w W,Same w W->Q g w->Q g W) {R:Value->World->Prop}
  (hc:∀τ d,Calls P.a f args (on w τ d) (λe w'=>∃v,e=.returned v/\R v w'))
  (h:∀v w',R v w'->Runs P.b (Fine P.b BB) Q (gor (C.finish v) cs) w') :
  Runs P.b (Fine P.b BB) Q (gor (Frame.enter P.b f args .normal) (C::cs)) w:=by
 have h1:=B.run (C:=C) (cs:=cs) (enter_rel B.la (.inl hf) hargs .normal (by decide)) (enter_rel B.lc (.inl hf) hargs .normal (by decide)) hlo hroom hobj λhs=>runs_of_calls B.la hs hc
 refine h1.bind λg2 w' hq=>?_
 obtain⟨g',w0,β',q1,q2,q3,q4,q5⟩:=hq
 have q1':=q1
 obtain⟨wl,vl,fr,l1,l2,l3,l4,l5⟩:=q1'
 have hbb:BB g'.frame.fn=true:=B.sub _ (by rw[l3];show SB0 fr.fn=true;rw[l4];exact hf)
 have hon:=q4.top.on_of (by rw[l3];show BC fr.fn=true;rw[l4];exact hfc)
 have eF:g'.frame=g2.frame:=FrRel.id (P:=Two.of P.a) q3 hon
 refine Runs.step ⟨by rw[<-eF];exact hbb,λo ho=>?_⟩ λτ d=>?_
 ·rw[<-eF] at ho
  exact bT hon (λf h=>(B.lc.nm f h).2) (λ_=>rfl) o ho
 ·have hw':WRel (SP SB0 uk) (CK P.a SB0 false) G β' w0 (on w' τ d):=q5.same rfl q2.1 (by rw[show(on w' τ d).os=w'.os from rfl,q2.2.1])
  obtain⟨v,wa,wb,V,W',ES,β2,e1,e2,e3,e4,e5,e6⟩:=leave (P:=P) B.lc (main2:=true) q1 hfc q4 hw'
  obtain⟨i1,i2⟩:=e6.same q3 q2.1.symm
  have eV:=e5.id i1
  subst eV
  refine⟨_,W',ES,e4,hne,(h v wa e2).same (λ_ _ _ _ x=>x) hQ ⟨?_,?_,?_⟩⟩
  ·rw[<-i2,e3.1,<-e1.1]
  ·rw[e6.OS,show(on w' τ d).os=w'.os from rfl,q2.2.1,e1.2.1]
  ·rw[e6.OUT,show(on w' τ d).output=w'.output from rfl,q2.2.2,e1.2.2]
end
end Go.Iso
