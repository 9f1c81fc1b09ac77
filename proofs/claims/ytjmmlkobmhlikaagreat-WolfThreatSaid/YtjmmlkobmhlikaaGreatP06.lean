/- Parts of the proof. -/
import Derived.Test.YtjmmlkobmhlikaaGreatP05
import Derived.Calls
set_option linter.all false
namespace Go.Iso
section
variable {P:Two} {S:Par} {Ck:Code->Prop} {G:Nat} {β:Bij}
def ko (fn:FuncId)(hfn:S.fr fn){x X:Array Value}(hx:AsRel S β x X)(ps:Array Tmp){ug bo:Code}(h1:Ck ug)(h2:Ck bo){o O:Option Nat}(ho:(o=none/\O=none)\/∃l L,o=some l/\O=some L/\β l L/\S.hid l=false) :
  SRel P S Ck G β (Instr.enterLoop fn x ps ug bo o) (Instr.enterLoop fn X ps ug bo O) (λβ' r R=>β' r.1 R.1/\S.hid r.1=false/\LRel (DRel S β') r.2 R.2):=by
 have fin : ∀ (β' : Bij) (d D : Nat) (m M : List Deferred), β.le β' -> β' d D -> S.hid d = false -> LRel (DRel S β') m M -> SRel P S Ck G β' (do
   pure (<-newObj (.loop { state:=.ready,pending:=none,fn,tmps:=x,params:=ps,assign:=ug,body:=bo,defers:=d }),m):Sem (Nat×List Deferred)) (do
   pure (<-newObj (.loop { state:=.ready,pending:=none,fn,tmps:=X,params:=ps,assign:=ug,body:=bo,defers:=D }),M):Sem (Nat×List Deferred)) (λβ' r R=>β' r.1 R.1/\S.hid r.1=false/\LRel (DRel S β') r.2 R.2):=by
  intro β' d D m M hle hd hk hm
  refine sr_bind (iB (.loop ⟨hfn,λc e=>by cases e⟩ h1 h2 (hx.mono hle) hd hk) (λi=>ORel.id (S:=S) (Ck:=Ck) i (.loop ⟨hfn,λc e=>by cases e⟩ h1 h2 (hx.mono hle) hd hk) (by simp))) ?_
  rintro β2 b B hle2 ⟨hb,hb'⟩
  exact sr_pure ⟨hb,hb',hm.mono λ_ _=>DRel.mono hle2⟩
 unfold Instr.enterLoop
 rcases ho with⟨rfl,rfl⟩|⟨l,L,rfl,rfl,hl,hk⟩
 ·refine sr_bind (iB (.defs .nil) (λ_=>rfl)) ?_
  rintro β2 b B hle2 ⟨hb,hb'⟩
  refine sr_bind (sr_pure (R:=λβ' (a A:Nat×List Deferred)=>β2.le β'/\a=(b,[{ target:=.collected b,args:=#[] }])/\A=(B,[{ target:=.collected B,args:=#[] }])) ⟨β2.le_refl,rfl,rfl⟩) ?_
  rintro β3 a A hle3 ⟨_,rfl,rfl⟩
  exact fin β3 _ _ _ _ (Bij.le_trans hle2 hle3) (hle3 _ _ hb) hb' (.cons (.collected (hle3 _ _ hb) hb') .nil)
 ·refine sr_bind (cQ hl hk) ?_
  rintro β2 r R hle2 ⟨_,_,_,_,_,_,_,_,_,_,hd,hdk⟩
  refine sr_bind (sr_pure (R:=λβ' (a A:Nat×List Deferred)=>β2.le β'/\a=(r.defers,[])/\A=(R.defers,[])) ⟨β2.le_refl,rfl,rfl⟩) ?_
  rintro β3 a A hle3 ⟨_,rfl,rfl⟩
  exact fin β3 _ _ _ _ (Bij.le_trans hle2 hle3) (hle3 _ _ hd) hdk .nil
def ja {β:Bij}{r R:Loop}(h:r.state=R.state/\r.pending=R.pending/\(S.fr r.fn/\∀c,r.pending=some c->Ck c)/\r.fn=R.fn/\AsRel S β r.tmps R.tmps/\r.params=R.params/\r.assign=R.assign/\r.body=R.body/\Ck r.assign/\Ck r.body/\β r.defers R.defers/\S.hid r.defers=false)
  (st:LoopState) (pe:Option Code) (hp:S.fr r.fn/\∀c,pe=some c->Ck c):ORel S Ck β (.loop { r with state:=st,pending:=pe }) (.loop { R with state:=st,pending:=pe }):=by
 obtain⟨h1,h2,h3,h4,h5,h6,h7,h8,h9,h10,h11,h12⟩:=h
 rw[<-h4,<-h6,<-h7,<-h8]
 exact .loop hp h9 h10 h5 h11 h12
def jR {l L:Nat}(hl:β l L)(hk:S.hid l=false):SRel P S Ck G β (Instr.beginRound l) (Instr.beginRound L) (λ_ _ _=>True):=by
 refine sr_bind (cQ hl hk) ?_
 intro β2 r R hle2 h
 have hst:=h.1
 have hpe:=h.2.1
 have ho:=ja h .busy r.pending h.2.2.1
 rw[show({ R with state:=LoopState.busy,pending:=r.pending }:Loop)={ R with state:=.busy } from by rw[hpe]] at ho
 refine sr_bind (ek (hle2 _ _ hl) hk ho rfl) ?_
 intro β3 _ _ _ _
 rw[hst]
 cases R.state with
 |ready=>exact sr_pure trivial
 |_=>exact au (.error _) trivial
def lz {l L:Nat}(hl:β l L)(hk:S.hid l=false)(j:Option Code)(hj:∀c,j=some c->Ck c):SRel P S Ck G β (Instr.endRound l j) (Instr.endRound L j) (λβ' v V=>VRel S β' v V):=by
 refine sr_bind (cQ hl hk) ?_
 intro β2 r R hle2 h
 refine sr_bind (ek (hle2 _ _ hl) hk (ja h _ j ⟨h.2.2.1.1,hj⟩) rfl) ?_
 intro β3 _ _ _ _
 exact sr_pure (.bool _)
def mR {l L:Nat}(hl:β l L)(hk:S.hid l=false):SRel P S Ck G β (Instr.endLoop l) (Instr.endLoop L) (λ_ a A=>a=A/\∀c,a=some c->Ck c):=by
 refine sr_bind (cQ hl hk) ?_
 intro β2 r R hle2 h
 have hst:=h.1
 have hpe:=h.2.1
 have ho:=ja h .exhausted r.pending h.2.2.1
 rw[show({ R with state:=LoopState.exhausted,pending:=r.pending }:Loop)={ R with state:=.exhausted } from by rw[hpe]] at ho
 have main : ∀ β3, β2.le β3 -> SRel P S Ck G β3 (do
   setObj l (.loop { r with state:=.exhausted })
   pure r.pending:Sem (Option Code)) (do
   setObj L (.loop { R with state:=.exhausted })
   pure R.pending:Sem (Option Code)) (λ_ a A=>a=A/\∀c,a=some c->Ck c):=by
  intro β3 hle3
  refine sr_bind (ek (hle3 _ _ (hle2 _ _ hl)) hk (ho.mono hle3) rfl) ?_
  intro β4 _ _ _ _
  exact sr_pure ⟨hpe,h.2.2.1.2⟩
 rw[hst]
 by_cases hb:(R.state==.busy)=true
 ·simp only[hb,if_true]
  exact sr_bind (R:=λ_ _ _=>False) (au (.error _) trivial) (λ_ _ _ _ h=>h.elim)
 ·simp only[hb,if_false,Bool.false_eq_true]
  exact main β2 β2.le_refl
def iF {b B:Nat}(hb:β b B)(hk:S.hid b=false):SRel P S Ck G β (Instr.takeDeferred b) (Instr.takeDeferred B) (λβ' l L=>LRel (DRel S β') l L):=by
 refine sr_bind (ej hb hk) ?_
 intro β3 o O hle3 ho
 cases ho with
 |defs hds =>
  refine sr_bind (ek (hle3 _ _ hb) hk .taken rfl) ?_
  intro β4 _ _ hle4 _
  exact sr_pure (hds.mono λ_ _=>DRel.mono hle4)
 |_=>exact λ_ _ _ _ _ _ _ _=>trivial
def gL {α γ:Type}{f F:α->Sem γ}{R:Bij->γ->γ->Prop}(hR:∀β β',β.le β'->∀a A,R β a A->R β' a A):∀(l:List α) (β:Bij),(∀x∈l,∀β',β.le β'->SRel P S Ck G β' (f x) (F x) R) ->
  SRel P S Ck G β (l.mapM f) (l.mapM F) (λβ' a A=>LRel (R β') a A)
 |[],β,_=>by simp only[List.mapM_nil];exact sr_pure .nil
 |x::l,β,h=>by
  simp only[List.mapM_cons]
  refine sr_bind (h x (by simp) β β.le_refl) ?_
  intro β1 a A hle1 ha
  refine sr_bind (gL hR l β1 λy hy β' hle=>h y (by simp[hy]) β' (Bij.le_trans hle1 hle)) ?_
  intro β2 b B hle2 hb
  exact sr_pure (.cons (hR _ _ hle2 _ _ ha) hb)
def iG (fn:Func){x X:Array Value}(hx:AsRel S β x X):SRel P S Ck G β (results fn x) (results fn X) (λβ' v V=>VRel S β' v V):=by
 unfold results
 rw[Array.mapM_eq_mapM_toList,Array.mapM_eq_mapM_toList]
 have hu:∀β,VRel S β undef undef:=λβ=>.tuple rfl (by simp)
 have h := gL (P := P) (S := S) (Ck := Ck) (G := G) (f := fun (r : ResultVar) => match r with
   |.tmp t=>pure (x.getD t undef)
   |.cell a t=>do loadVar t (<-asAddr (x.getD a undef))) (F:=λ(r:ResultVar)=>match r with
   |.tmp t=>pure (X.getD t undef)
   |.cell a t=>do loadVar t (<-asAddr (X.getD a undef))) (R:=λβ' v V=>VRel S β' v V) (λ_ _ h _ _ r=>r.mono h) fn.results.toList β (λr _ β' hle=>by
    cases r with
    |tmp t=>exact sr_pure ((hx.mono hle).getD t (hu _))
    |cell a t =>
     refine sr_bind (dp ((hx.mono hle).getD a (hu _))) ?_
     intro β2 p Q _ hp
     exact iC t hp)
 refine sr_bind (R:=λβ' a A=>AsRel S β' a A) ?_ ?_
 ·refine sr_bind h ?_
  intro β2 l L _ hl
  exact sr_pure hl.toArray
 ·intro β2 v V _ hv
  refine sr_pure ?_
  have hs:=hv.size
  by_cases h1:v.size=1
  ·have h2:V.size=1:=by omega
   rw[dif_pos h1,dif_pos h2]
   exact hv.at_ 0 _ _ (Array.getElem?_eq_getElem _) (Array.getElem?_eq_getElem _)
  ·have h2:¬V.size=1:=by omega
   rw[dif_neg h1,dif_neg h2]
   exact hv.tuple
end
section
variable {P:Two} {SB:FuncId->Bool} {H:Hid} {lets:Bool} {BB:FuncId->Bool} {T:List Frame} {β β':Bij} {Gn:Nat} {main main2:Bool}
def gM {x X:Array Value}(h:AsRel (SP SB H) β x X)(ops:Array Oper)(j:Nat):yielded ops x j=yielded ops X j:=by
 unfold yielded
 cases((ops[j]?).bind (·.dst)) with
 |none=>rfl
 |some d =>
  simp only[Option.bind_some]
  cases hx:x[d]? with
  |none=>rw[h.get_none hx]
  |some v =>
   obtain⟨V,hV,hr⟩:=h.get? hx
   rw[hV]
   cases hr with
   |blank _ hb=>cases V<;>first|rfl|(cases hb;done)
   |_=>rfl
def mS {l L:List PanicEntry}(h:LRel (PRel SB H β) l L):LRel (PRel SB H β) (l.dropWhile (!·.goexit)) (L.dropWhile (!·.goexit)):=by
 induction h with
 |nil=>exact .nil
 |@cons a A l L ha hl ih =>
  cases ha with
  |mk r g hv =>
   cases g with
   |false=>simpa using ih
   |true=>simpa using LRel.cons (.mk r true hv) hl
def dS {fr FR:Frame}{cs CS:List Frame}(hk:fr.kind=FR.kind)(hl:fr.kind≠.early)(hc:CsRel P.a SB H lets T β cs CS)(hne:cs≠[]){v V:Value}(hv:VRel (SP SB H) β v V){w W w' W':World}{β0:Bij}{ES:List Event}
  (hf:Fin (SP SB H) (CK P.a SB lets) Gn β0 β w W w' W' ES) (es:Array Event) :
  StepRel P SB H lets BB T Gn β0 w W (GStep.after es (doReturn P.a main fr cs none v w')) (GStep.after ES.toArray (doReturn P.b main2 FR CS none V W')):=by
 cases hc with
 |base =>
  unfold doReturn
  cases fr.kind<;>exact Or.inl ⟨rfl,dead_bad⟩
 |@cons c C cs CS h1 h2 =>
  unfold doReturn
  rw[<-hk]
  cases hkd:fr.kind with
  |normal=>exact Or.inr ⟨β,_,W',_,rfl,aG (aV h1 hv) h2,by simpa using hf⟩
  |wrapped=>exact Or.inr ⟨β,_,W',_,rfl,aG (aV h1 hv) h2,by simpa using hf⟩
  |early=>exact absurd hkd hl
  |_ =>
   refine Or.inr ⟨β,_,W',_,rfl,aG ?_ h2,by simpa using hf⟩
   obtain⟨fn,tmps,todo,defers,mode,kind,round⟩:=c
   obtain⟨fn',tmps',todo',defers',mode',kind',round'⟩:=C
   obtain⟨a1,a2,a3,a4,a5,a6,a7,a8⟩:=h1
   dsimp only at *
   cases a5 with
   |run=>exact⟨a1,a2,a3,a4,.run,a6,a7,a8⟩
   |returning=>exact⟨a1,a2,a3,a4,.returning,a6,a7,a8⟩
   |panicking hch =>
    cases hch with
    |nil=>exact⟨a1,a2,a3,a4,.panicking .nil,a6,a7,a8⟩
    |@cons p Q l L hp hl =>
     cases hp with
     |mk r g hv' =>
      cases r with
      |false=>exact⟨a1,a2,a3,a4,.panicking (.cons (.mk false g hv') hl),a6,a7,a8⟩
      |true =>
       have:=mS hl
       dsimp only
       revert this
       generalize l.dropWhile (!·.goexit)=d
       generalize L.dropWhile (!·.goexit)=D
       intro hd
       cases hd with
       |nil=>exact⟨a1,a2,a3,a4,.returning,a6,a7,a8⟩
       |cons x y=>exact⟨a1,a2,a3,a4,.panicking (.cons x y),a6,a7,a8⟩
def bL (L:Lib P SB H lets BB Gn){fr FR:Frame}{cs CS:List Frame}(hf:FrRel P.a SB H lets β fr FR)(hc:CsRel P.a SB H lets T β cs CS){d D:Deferred}(hd:DRel (SP SB H) β d D){w W:World}{n:Nat}(hw:WRel (SP SB H) (CK P.a SB lets) Gn β w W)(ht:TRel n w W)
  (hb:(aF (callDeferred P.a fr cs none d w)).drawn<=w.drawn+n) :
  StepRel P SB H lets BB T Gn β w W (callDeferred P.a fr cs none d w) (callDeferred P.b FR CS none D W):=by
 have hm:=fQ L.calls hd
 have hE:=hm w W n hw ht #[] #[]
 have hmild:=hm.mild hw #[]
 have hsome:=λ(a:Next) (w':World) (es:Array Event) (e:(invoke d.target d.args).runT P.a w #[]=(.ok a w',es))=>hm.some hw e
 unfold callDeferred at hb ⊢
 cases hd with
 |@fn fn1 fn2 cap1 cap2 ar1 ar2 a b c =>
  simp only[Bool.false_and,Bool.false_eq_true,if_false] at hb ⊢
  dsimp only at hE hsome
  rcases hr2:(invoke (Target.fn fn1 cap1) ar1).runT P.a w #[] with⟨r,es⟩
  simp only[hr2] at hb hE hmild ⊢
  cases r with
  |ok x w' =>
   obtain⟨_,_,hx⟩:=hsome x w' es hr2
   have hbw:w'.drawn<=w.drawn+n:=by cases hx<;>exact hb
   obtain⟨β',X,W',ES,e1,e2,e3⟩:=hE hbw
   simp only[e1,Array.empty_append]
   have hf':=hf.mono e3.le
   have hc':=hc.mono λ_ _ (r:FrRel P.a SB H lets β _ _)=>r.mono e3.le
   have e3':=e3.seen (P:=P) (SB:=SB) (H:=H) (lets:=lets) FR.fn
   cases e2 with
   |value hv=>exact Or.inr ⟨β',_,W',_,rfl,aG hf' hc',by simpa using e3'⟩
   |skip=>exact Or.inr ⟨β',_,W',_,rfl,aG hf' hc',by simpa using e3'⟩
   |enter hs ha=>exact Or.inr ⟨β',_,W',_,rfl,⟨enter_rel L hs ha .deferred (by simp),.cons hf' hc',⟨rfl,rfl⟩,⟨rfl,rfl⟩,⟨rfl,rfl⟩⟩,by simpa using e3'⟩
   |round hl hh hx h1 h2=>exact Or.inr ⟨β',_,W',_,rfl,aG (dq hl hh.1 _ hh.2 (by assumption) h1 h2 .deferred (by simp)) (.cons hf' hc'),by simpa using e3'⟩
   |defer hd=>exact Or.inr ⟨β',_,W',_,rfl,aG hf' hc',by simpa using e3'⟩
  |halt x w' =>
   cases x with
   |panic v =>
    obtain⟨β',X,W',ES,e1,e2,e3⟩:=hE hb
    simp only[e1,Array.empty_append]
    have hf':=hf.mono e3.le
    have hc':=hc.mono λ_ _ (r:FrRel P.a SB H lets β _ _)=>r.mono e3.le
    have e3':=e3.seen (P:=P) (SB:=SB) (H:=H) (lets:=lets) FR.fn
    exact Or.inr ⟨β',_,W',_,rfl,aG (bX hf' (.cons (.mk _ _ e2) .nil)) hc',by simpa using e3'⟩
   |stuck s=>trivial
   |unsupported u=>trivial
   |_=>exact hmild.elim
 |blankM a A h1 h2 h3 =>
  subst h2
  have hq:=gJ L.calls.big a w #[]
  unfold hd at hq ⊢
  simp only[Bool.false_and,Bool.false_eq_true,if_false] at hq ⊢
  rcases hq with⟨s,w',es',e⟩|⟨u,w',es',e,_⟩
  ·simp only[e];trivial
  ·simp only[e];trivial
 |@collected r1 r2 a b =>
  simp only[Bool.false_and,Bool.false_eq_true,if_false] at hb ⊢
  dsimp only at hE hsome
  rcases hr2:(invoke (Target.collected r1) #[]).runT P.a w #[] with⟨r,es⟩
  simp only[hr2] at hb hE hmild ⊢
  cases r with
  |ok x w' =>
   obtain⟨_,_,hx⟩:=hsome x w' es hr2
   have hbw:w'.drawn<=w.drawn+n:=by cases hx<;>exact hb
   obtain⟨β',X,W',ES,e1,e2,e3⟩:=hE hbw
   simp only[e1,Array.empty_append]
   have hf':=hf.mono e3.le
   have hc':=hc.mono λ_ _ (r:FrRel P.a SB H lets β _ _)=>r.mono e3.le
   have e3':=e3.seen (P:=P) (SB:=SB) (H:=H) (lets:=lets) FR.fn
   cases e2 with
   |value hv=>exact Or.inr ⟨β',_,W',_,rfl,aG hf' hc',by simpa using e3'⟩
   |skip=>exact Or.inr ⟨β',_,W',_,rfl,aG hf' hc',by simpa using e3'⟩
   |enter hs ha=>exact Or.inr ⟨β',_,W',_,rfl,⟨enter_rel L hs ha .deferred (by simp),.cons hf' hc',⟨rfl,rfl⟩,⟨rfl,rfl⟩,⟨rfl,rfl⟩⟩,by simpa using e3'⟩
   |round hl hh hx h1 h2=>exact Or.inr ⟨β',_,W',_,rfl,aG (dq hl hh.1 _ hh.2 (by assumption) h1 h2 .deferred (by simp)) (.cons hf' hc'),by simpa using e3'⟩
   |defer hd=>exact Or.inr ⟨β',_,W',_,rfl,aG hf' hc',by simpa using e3'⟩
  |halt x w' =>
   cases x with
   |panic v =>
    obtain⟨β',X,W',ES,e1,e2,e3⟩:=hE hb
    simp only[e1,Array.empty_append]
    have hf':=hf.mono e3.le
    have hc':=hc.mono λ_ _ (r:FrRel P.a SB H lets β _ _)=>r.mono e3.le
    have e3':=e3.seen (P:=P) (SB:=SB) (H:=H) (lets:=lets) FR.fn
    exact Or.inr ⟨β',_,W',_,rfl,aG (bX hf' (.cons (.mk _ _ e2) .nil)) hc',by simpa using e3'⟩
   |stuck s=>trivial
   |unsupported u=>trivial
   |_=>exact hmild.elim
 |@nil ar1 ar2 a =>
  have hmode:=hf.mode
  cases hm:fr.mode with
  |panicking l =>
   simp only[Bool.and_self,if_true]
   trivial
  |run =>
   have hM:FR.mode=.run:=by
    rw[hm] at hmode
    generalize FR.mode=q at hmode
    cases hmode;rfl
   simp only[hm,hM,Bool.and_false,Bool.false_eq_true,if_false] at hb ⊢
   dsimp only at hE hsome
   rcases hr2:(invoke Target.nil ar1).runT P.a w #[] with⟨r,es⟩
   simp only[hr2] at hb hE hmild ⊢
   cases r with
   |ok x w' =>
    obtain⟨_,_,hx⟩:=hsome x w' es hr2
    have hbw:w'.drawn<=w.drawn+n:=by cases hx<;>exact hb
    obtain⟨β',X,W',ES,e1,e2,e3⟩:=hE hbw
    simp only[e1,Array.empty_append]
    have hf':=hf.mono e3.le
    have hc':=hc.mono λ_ _ (r:FrRel P.a SB H lets β _ _)=>r.mono e3.le
    have e3':=e3.seen (P:=P) (SB:=SB) (H:=H) (lets:=lets) FR.fn
    cases e2 with
    |value hv=>exact Or.inr ⟨β',_,W',_,rfl,aG hf' hc',by simpa using e3'⟩
    |skip=>exact Or.inr ⟨β',_,W',_,rfl,aG hf' hc',by simpa using e3'⟩
    |enter hs ha=>exact Or.inr ⟨β',_,W',_,rfl,⟨enter_rel L hs ha .deferred (by simp),.cons hf' hc',⟨rfl,rfl⟩,⟨rfl,rfl⟩,⟨rfl,rfl⟩⟩,by simpa using e3'⟩
    |round hl hh hx h1 h2=>exact Or.inr ⟨β',_,W',_,rfl,aG (dq hl hh.1 _ hh.2 (by assumption) h1 h2 .deferred (by simp)) (.cons hf' hc'),by simpa using e3'⟩
    |defer hd=>exact Or.inr ⟨β',_,W',_,rfl,aG hf' hc',by simpa using e3'⟩
   |halt x w' =>
    cases x with
    |panic v =>
     obtain⟨β',X,W',ES,e1,e2,e3⟩:=hE hb
     simp only[e1,Array.empty_append]
     have hf':=hf.mono e3.le
     have hc':=hc.mono λ_ _ (r:FrRel P.a SB H lets β _ _)=>r.mono e3.le
     have e3':=e3.seen (P:=P) (SB:=SB) (H:=H) (lets:=lets) FR.fn
     exact Or.inr ⟨β',_,W',_,rfl,aG (bX hf' (.cons (.mk _ _ e2) .nil)) hc',by simpa using e3'⟩
    |stuck s=>trivial
     |unsupported u=>trivial
    |_=>exact hmild.elim
  |returning =>
   have hM:FR.mode=.returning:=by
    rw[hm] at hmode
    generalize FR.mode=q at hmode
    cases hmode;rfl
   simp only[hm,hM,Bool.and_false,Bool.false_eq_true,if_false] at hb ⊢
   dsimp only at hE hsome
   rcases hr2:(invoke Target.nil ar1).runT P.a w #[] with⟨r,es⟩
   simp only[hr2] at hb hE hmild ⊢
   cases r with
   |ok x w' =>
    obtain⟨_,_,hx⟩:=hsome x w' es hr2
    have hbw:w'.drawn<=w.drawn+n:=by cases hx<;>exact hb
    obtain⟨β',X,W',ES,e1,e2,e3⟩:=hE hbw
    simp only[e1,Array.empty_append]
    have hf':=hf.mono e3.le
    have hc':=hc.mono λ_ _ (r:FrRel P.a SB H lets β _ _)=>r.mono e3.le
    have e3':=e3.seen (P:=P) (SB:=SB) (H:=H) (lets:=lets) FR.fn
    cases e2 with
    |value hv=>exact Or.inr ⟨β',_,W',_,rfl,aG hf' hc',by simpa using e3'⟩
    |skip=>exact Or.inr ⟨β',_,W',_,rfl,aG hf' hc',by simpa using e3'⟩
    |enter hs ha=>exact Or.inr ⟨β',_,W',_,rfl,⟨enter_rel L hs ha .deferred (by simp),.cons hf' hc',⟨rfl,rfl⟩,⟨rfl,rfl⟩,⟨rfl,rfl⟩⟩,by simpa using e3'⟩
    |round hl hh hx h1 h2=>exact Or.inr ⟨β',_,W',_,rfl,aG (dq hl hh.1 _ hh.2 (by assumption) h1 h2 .deferred (by simp)) (.cons hf' hc'),by simpa using e3'⟩
    |defer hd=>exact Or.inr ⟨β',_,W',_,rfl,aG hf' hc',by simpa using e3'⟩
   |halt x w' =>
    cases x with
    |panic v =>
     obtain⟨β',X,W',ES,e1,e2,e3⟩:=hE hb
     simp only[e1,Array.empty_append]
     have hf':=hf.mono e3.le
     have hc':=hc.mono λ_ _ (r:FrRel P.a SB H lets β _ _)=>r.mono e3.le
     have e3':=e3.seen (P:=P) (SB:=SB) (H:=H) (lets:=lets) FR.fn
     exact Or.inr ⟨β',_,W',_,rfl,aG (bX hf' (.cons (.mk _ _ e2) .nil)) hc',by simpa using e3'⟩
    |stuck s=>trivial
     |unsupported u=>trivial
    |_=>exact hmild.elim
def iH (L:Lib P SB H lets BB Gn){fr FR:Frame}{cs CS:List Frame}(hf:FrRel P.a SB H lets β fr FR)(hc:CsRel P.a SB H lets T β cs CS){w W:World}{n:Nat}(hw:WRel (SP SB H) (CK P.a SB lets) Gn β w W)(ht:TRel n w W)
  (hb:(aF (unwind P.a main fr cs none w)).drawn<=w.drawn+n) :
  StepRel P SB H lets BB T Gn β w W (unwind P.a main fr cs none w) (unwind P.b main2 FR CS none W):=by
 obtain⟨fn,tmps,todo,defers,mode,kind,round⟩:=fr
 obtain⟨fn',tmps',todo',defers',mode',kind',round'⟩:=FR
 obtain⟨a1,a2,a3,a4,a5,a6,a7,a8⟩:=hf
 dsimp only at a1 a2 a3 a4 a5 a6 a7 a8
 subst a1 a6
 cases a4 with
 |@cons d D ds DS hd hds =>
  have hf':FrRel P.a SB H lets β ⟨fn,tmps,todo,ds,mode,kind,round⟩ ⟨fn,tmps',todo',DS,mode',kind,round'⟩:=⟨rfl,a2,a3,hds,a5,rfl,a7,a8⟩
  cases hd with
  |fn x y z=>exact bL L hf' hc (.fn x y z) hw ht hb
  |nil x=>exact bL L hf' hc (.nil x) hw ht hb
  |blankM a A h1 h2 h3 =>
   subst h2
   rcases h3 with rfl|⟨h3,n,c,x,rfl⟩
   ·exact bL L hf' hc (.blankM a A h1 rfl (.inl rfl)) hw ht hb
   ·exact bL L hf' hc (.blankM a A h1 rfl (.inr ⟨h3,n,c,x,rfl⟩)) hw ht hb
  |@collected r1 r2 x y =>
   have hm:=iF (P:=P) (Ck:=CK P.a SB lets) (G:=Gn) (S:=SP SB H) x y
   have hE:=hm w W n hw ht #[] #[]
   have hmild:=hm.mild hw #[]
   unfold unwind at hb ⊢
   dsimp only at hb ⊢
   rcases hr:(Instr.takeDeferred r1).runT P.a w #[] with⟨r,es⟩
   rw[hr] at hb hE hmild
   cases r with
   |ok l w' =>
    obtain⟨β',X,W',ES,e1,e2,e3⟩:=hE hb
    simp only[e1,Array.empty_append]
    have hf2:=hf'.mono e3.le
    have hc':=hc.mono λ_ _ (r:FrRel P.a SB H lets β _ _)=>r.mono e3.le
    have e3':=e3.seen (P:=P) (SB:=SB) (H:=H) (lets:=lets) fn
    exact Or.inr ⟨β',_,W',_,rfl,aG ⟨rfl,hf2.tmps,hf2.todo,e2.append hf2.defers,hf2.mode,rfl,a7,hf2.round⟩ hc',by simpa using e3'⟩
   |halt x w'=>trivial
 |nil =>
  cases a5 with
  |run=>trivial
  |@panicking ch CH hch =>
   unfold unwind
   dsimp only
   obtain⟨f,f',g1,g2,_⟩:=L.like fn a7.2
   have g2':P.b.funcs[fn]?=some f':=g2
   have q1:Frame.catches P.a ⟨fn,tmps,todo,[],.panicking ch,kind,round⟩=false:=by
    unfold Frame.catches
    dsimp only
    rw[g1]
   have q2:Frame.catches P.b ⟨fn,tmps',todo',[],.panicking CH,kind,round'⟩=false:=by
    unfold Frame.catches
    dsimp only
    rw[g2']
   simp only[q1,q2,Bool.false_eq_true,if_false]
   cases hc with
   |base=>exact Or.inl ⟨rfl,mQ _⟩
   |cons h1 h2=>exact Or.inr ⟨β,_,W,_,rfl,aG (bX h1 hch) h2,by simpa using Fin.refl hw⟩
  |returning =>
   have hne:cs≠[]:=hc.ne
   unfold unwind at hb ⊢
   dsimp only at hb ⊢
   obtain⟨f,f',g1,g2,g3⟩:=L.like fn a7.2
   have g2':P.b.funcs[fn]?=some f':=g2
   have g4:results f' tmps'=results f tmps':=by unfold results;rw[g3]
   have hm:=iG (P:=P) (Ck:=CK P.a SB lets) (G:=Gn) (S:=SP SB H) f a2
   have hE:=hm w W n hw ht #[] #[]
   have hmild:=hm.mild hw #[]
   rw[g1] at hb ⊢
   rw[g2']
   dsimp only at hb ⊢
   rw[g4]
   rcases hr:(results f tmps).runT P.a w #[] with⟨r,es⟩
   rw[hr] at hb hE hmild
   cases r with
   |ok v w' =>
    have hbw:w'.drawn<=w.drawn+n:=by
     have:∀cs,(aF (GStep.after (seen P.a fn es) (doReturn P.a main ⟨fn,tmps,todo,[],.returning,kind,round⟩ cs none v w')))=w'\/cs=[]:=by
      intro cs
      cases cs with
      |nil=>exact .inr rfl
      |cons c cs =>
       refine .inl ?_
       unfold doReturn
       cases kind<;>rfl
     rcases this cs with h|h
     ·rw[<-h];exact hb
     ·exact absurd h hne
    obtain⟨β',X,W',ES,e1,e2,e3⟩:=hE hbw
    simp only[e1,Array.empty_append]
    have hc':=hc.mono λ_ _ (r:FrRel P.a SB H lets β _ _)=>r.mono e3.le
    have e3':=e3.seen (P:=P) (SB:=SB) (H:=H) (lets:=lets) fn
    have:=dS (P:=P) (main:=main) (main2:=main2) (BB:=BB) (fr:=⟨fn,tmps,todo,[],.returning,kind,round⟩) (FR:=⟨fn,tmps',todo',[],.returning,kind,round'⟩) rfl a7.1 hc' hne e2 e3' (seen P.a fn es)
    simpa using this
   |halt x w'=>cases x<;>trivial
end
section
variable {P:Two} {SB:FuncId->Bool} {H:Hid} {lets:Bool} {BB:FuncId->Bool} {T:List Frame} {β β':Bij} {Gn:Nat} {main main2:Bool}
def bg {ad:Bool}:∀ {c:Code},codeOk P.a SB lets false c=true->codeOk P.a SB lets ad c=true
 |.skip,_|.exit _,_|.label _,_|.goto _,_|.ret,_|.refuse _,_=>rfl
 |.region _ ops _,h=>by
  cases ad with
  |false=>exact h
  |true =>
   simp only[codeOk,Bool.and_eq_true,Array.all_eq_true_iff_forall_mem] at h ⊢
   refine⟨?_,h.2⟩
   intro o ho
   have:=h.1 o ho
   unfold bP at this ⊢
   simp only[Bool.or_eq_true,Bool.and_eq_true] at this ⊢
   rcases this with h1|h1
   ·exact .inl ⟨h1.1,.inl trivial⟩
   ·exact .inr h1
 |.seq a b,h=>by
  simp only[codeOk,Bool.and_eq_true] at h ⊢
  exact⟨bg h.1,bg h.2⟩
 |.cond c a b,h=>by
  simp only[codeOk,Bool.and_eq_true] at h ⊢
  exact⟨⟨h.1.1,bg h.1.2⟩,bg h.2⟩
 |.block _ b,h=>by simp only[codeOk] at h ⊢;exact bg h
 |.loop b,h=>by simp only[codeOk] at h ⊢;exact bg h
 |.scope b,h=>by simp only[codeOk] at h ⊢;exact bg h
 |.rangeFunc f ps ug bo,h=>by simp only[codeOk] at h ⊢;exact h
def NotGo (p:Program)(SB:FuncId->Bool)(fr:Frame):Prop:=∀o,fr.oper?=some o->goOk p SB o.op=false
def ow {o O:Option Nat}(h:ONRel H β o O):o.isNone=O.isNone:=by cases h<;>rfl
section
variable {fn:FuncId} {tmps tmps':Array Value} {todo todo':List Item} {defers defers':List Deferred} {kind:CallKind} {round round':Option Nat} {cs CS:List Frame} {w W:World} {n:Nat}
def aY {mode mode':FrameMode}(a2:AsRel (SP SB H) β tmps tmps')(a3:LRel (IRel P.a SB H lets round.isNone β) todo todo')(a4:LRel (DRel (SP SB H) β) defers defers')(a5:MRel SB H β mode mode')(a7:kind≠.early/\SB fn=true)(a8:ONRel H β round round')
  (hc:CsRel P.a SB H lets T β cs CS) (hw:WRel (SP SB H) (CK P.a SB lets) Gn β w W) :
  StepRel P SB H lets BB T Gn β w W (.go { frame:=⟨fn,tmps,todo,defers,mode,kind,round⟩,callers:=cs,status:=.running,dying:=none } w #[]) (.go { frame:=⟨fn,tmps',todo',defers',mode',kind,round'⟩,callers:=CS,status:=.running,dying:=none } W #[]) :=
 Or.inr ⟨β,_,W,_,rfl,aG ⟨rfl,a2,a3,a4,a5,rfl,a7,a8⟩ hc,by simpa using Fin.refl hw⟩
def cV (j:Option Code)(hj:∀c,j=some c->codeOk P.a SB lets false c=true)(a7:kind≠.early/\SB fn=true){l L:Nat}(hl:β l L)(hh:H l=false)
  (hc:CsRel P.a SB H lets T β cs CS) (hne:cs≠[]) (hw:WRel (SP SB H) (CK P.a SB lets) Gn β w W) (ht:TRel n w W)
  (hb : (aF (GStep.after (seen P.a fn ((Instr.endRound l j).runT P.a w #[]).2) (match ((Instr.endRound l j).runT P.a w #[]).1 with
    |.ok v w=>doReturn P.a main ⟨fn,tmps,todo,defers,.run,kind,round⟩ cs none v w
    |.halt _ w=>.ended (.stuck "range over a function: no such loop" (Frame.pos P.a ⟨fn,tmps,todo,defers,.run,kind,round⟩)) w))).drawn<=w.drawn+n) :
  StepRel P SB H lets BB T Gn β w W (GStep.after (seen P.a fn ((Instr.endRound l j).runT P.a w #[]).2) (match ((Instr.endRound l j).runT P.a w #[]).1 with
    |.ok v w=>doReturn P.a main ⟨fn,tmps,todo,defers,.run,kind,round⟩ cs none v w
    |.halt _ w=>.ended (.stuck "range over a function: no such loop" (Frame.pos P.a ⟨fn,tmps,todo,defers,.run,kind,round⟩)) w))
   (GStep.after (seen P.b fn ((Instr.endRound L j).runT P.b W #[]).2) (match((Instr.endRound L j).runT P.b W #[]).1 with
    |.ok v w=>doReturn P.b main2 ⟨fn,tmps',todo',defers',.run,kind,round'⟩ CS none v w
    |.halt _ w=>.ended (.stuck "range over a function: no such loop" (Frame.pos P.b ⟨fn,tmps',todo',defers',.run,kind,round'⟩)) w)):=by
 have hm:=lz (P:=P) (Ck:=CK P.a SB lets) (G:=Gn) (S:=SP SB H) hl hh j hj
 have hE:=hm w W n hw ht #[] #[]
 rcases hr:(Instr.endRound l j).runT P.a w #[] with⟨r,es⟩
 rw[hr] at hb hE
 cases r with
 |ok v w' =>
  have hbw:w'.drawn<=w.drawn+n:=by
   have:∀cs,(aF (GStep.after (seen P.a fn es) (doReturn P.a main ⟨fn,tmps,todo,defers,.run,kind,round⟩ cs none v w')))=w'\/cs=[]:=by
    intro cs
    cases cs with
    |nil=>exact .inr rfl
    |cons c cs =>
     refine .inl ?_
     unfold doReturn
     cases kind<;>rfl
   rcases this cs with h|h
   ·rw[<-h];exact hb
   ·exact absurd h hne
  obtain⟨β',X,W',ES,e1,e2,e3⟩:=hE hbw
  simp only[e1,Array.empty_append]
  have hc':=hc.mono λ_ _ (r:FrRel P.a SB H lets β _ _)=>r.mono e3.le
  have e3':=e3.seen (P:=P) (SB:=SB) (H:=H) (lets:=lets) fn
  have:=dS (P:=P) (main:=main) (main2:=main2) (BB:=BB) (fr:=⟨fn,tmps,todo,defers,.run,kind,round⟩) (FR:=⟨fn,tmps',todo',defers',.run,kind,round'⟩) rfl a7.1 hc' hne e2 e3' (seen P.a fn es)
  simpa using this
 |halt x w'=>trivial
end
def _root_.Go.Iso.SRel.some2 {S:Par}{Ck:Code->Prop}{α α':Type}{m:Sem α}{M:Sem α'}{R:Bij->α->α'->Prop}(h:SRel P S Ck Gn β m M R){w W:World}(hw:WRel S Ck Gn β w W){es0 es:Array Event}{a:α}{w':World}(hr:m.runT P.a w es0=(.ok a w',es)):∃β' A W',R β' a A/\β.le β'/\WRel S Ck Gn β' w' W':=by
 have hw':WRel S Ck Gn β w { W with tape:=λi q=>w.tape (w.drawn+(i-W.drawn)) q }:=⟨hw.fine,hw.room,hw.objs,hw.hids,hw.old,hw.env⟩
 have hd:=drawn_mono P.a m w es0
 have:=h w { W with tape:=λi q=>w.tape (w.drawn+(i-W.drawn)) q } ((world (m.runT P.a w es0).1).drawn-w.drawn) hw' (λi _ q=>by
  show w.tape (w.drawn+i) q=w.tape (w.drawn+(W.drawn+i-W.drawn)) q
  rw[show W.drawn+i-W.drawn=i from by omega]) es0 #[] (by omega)
 rw[hr] at this
 obtain⟨β',A,W',_,_,h,hf⟩:=this
 exact⟨β',A,W',h,hf.le,hf.rel⟩
def lA {fr:Frame}{cs:List Frame}{m M:Sem Next}(hm:SRel P (SP SB H) (CK P.a SB lets) Gn β m M (NRel (SP SB H) (CK P.a SB lets))){w W:World}(hw:WRel (SP SB H) (CK P.a SB lets) Gn β w W) :
  w.drawn<=(aF (stepG.apply P.a true fr cs none m w)).drawn:=by
 have h0:=drawn_mono P.a m w #[]
 have hmild:=hm.mild hw #[]
 have hsome:=λ(a:Next) (w':World) (es:Array Event) (e:m.runT P.a w #[]=(.ok a w',es))=>hm.some hw e
 unfold stepG.apply
 simp only[if_true]
 rcases hr:m.runT P.a w #[] with⟨r,es⟩
 rw[hr] at hmild h0
 cases r with
 |ok x w' =>
  obtain⟨_,_,hx⟩:=hsome x w' es hr
  cases hx<;>exact h0
 |halt x w' =>
  cases x with
  |panic v=>exact h0
  |stuck s=>exact h0
  |unsupported u =>
   cases u with
   |initOrder g=>exact absurd rfl (hmild g)
   |_=>exact h0
  |_=>exact hmild.elim
def StepRel.after {w W w' W':World}{ES:List Event}(hf:Fin (SP SB H) (CK P.a SB lets) Gn β β' w W w' W' ES){s S:GStep}(h:StepRel P SB H lets BB T Gn β' w' W' s S)(es:Array Event):StepRel P SB H lets BB T Gn β w W (GStep.after es s) (GStep.after ES.toArray S):=by
 cases s with
 |go g w2 es2 =>
  rcases h with h|⟨β2,g2,W2,ES2,rfl,h2,h3⟩
  ·exact Or.inl h
  refine Or.inr ⟨β2,g2,W2,_,rfl,h2,?_⟩
  have:=hf.trans h3
  simpa using this
 |ended o w es=>trivial
 |_=>exact h.elim
def pZ (L:Lib P SB H lets BB Gn){fr FR:Frame}{cs CS:List Frame}(hf:FrRel P.a SB H lets β fr FR)(hm:fr.mode=.run)(hc:CsRel P.a SB H lets T β cs CS)(hgo:NotGo P.a SB fr){w W:World}{n:Nat}(hw:WRel (SP SB H) (CK P.a SB lets) Gn β w W)(ht:TRel n w W)
  (hb:(aF (stepG.exec P.a main true fr cs none w)).drawn<=w.drawn+n) :
  StepRel P SB H lets BB T Gn β w W (stepG.exec P.a main true fr cs none w) (stepG.exec P.b main2 true FR CS none W):=by
 obtain⟨fn,tmps,todo,defers,mode,kind,round⟩:=fr
 obtain⟨fn',tmps',todo',defers',mode',kind',round'⟩:=FR
 have hf0:=hf
 obtain⟨a1,a2,a3,a4,a5,a6,a7,a8⟩:=hf
 dsimp only at a1 a2 a3 a4 a5 a6 a7 a8 hm
 subst a1 a6 hm
 cases a5
 cases a3 with
 |nil =>
  cases a8 with
  |none =>
   simp only[stepG.exec] at hb ⊢
   exact aY a2 .nil a4 .returning a7 .none hc hw
  |@some l L' hl hh =>
   have hne:cs≠[]:=hc.ne
   simp only[stepG.exec] at hb ⊢
   exact cV none (λc e=>by cases e) a7 hl hh hc hne hw ht hb
 |@cons i I l L' hi hl =>
  cases hi with
  |@code c hco =>
   have leave : ∀ (j : Option Code), (∀ c, j = some c -> codeOk P.a SB lets false c = true) -> (∀ c, j = some c -> c ≠ .ret -> round ≠ none) ->
     stepG.exec P.a main true ⟨fn,tmps,.code c::l,defers,.run,kind,round⟩ cs none w=stepG.exec P.a main true ⟨fn,tmps,.code c::l,defers,.run,kind,round⟩ cs none w->True:=λ_ _ _ _=>trivial
   clear leave
   cases c with
   |skip=>exact aY a2 hl a4 .run a7 a8 hc hw
   |label l0=>exact aY a2 hl a4 .run a7 a8 hc hw
   |refuse s=>trivial
   |ret =>
    cases a8 with
    |none=>exact aY a2 (.cons (.code hco) hl) a4 .returning a7 .none hc hw
    |@some l0 L0 hl0 hh =>
     have hne:cs≠[]:=hc.ne
     exact cV (some .ret) (λc e=>by cases e;rfl) a7 hl0 hh hc hne hw ht hb
   |seq a b =>
    simp only[codeOk,Bool.and_eq_true] at hco
    exact aY a2 (.cons (.code hco.1) (.cons (.code hco.2) hl)) a4 .run a7 a8 hc hw
   |cond x a b =>
    simp only[codeOk,Bool.and_eq_true] at hco
    have hx:=hf0.eval hco.1.1
    simp only[stepG.exec] at hb ⊢
    revert hx
    generalize Frame.eval ⟨fn,tmps,.code (.cond x a b)::l,defers,.run,kind,round⟩ x=v
    generalize Frame.eval ⟨fn,tmps',.code (.cond x a b)::L',defers',.run,kind,round'⟩ x=V
    intro hx
    cases hx with
    |bool t =>
     cases t with
     |true=>exact aY a2 (.cons (.code hco.1.2) hl) a4 .run a7 a8 hc hw
     |false=>exact aY a2 (.cons (.code hco.2) hl) a4 .run a7 a8 hc hw
    |_=>trivial
   |block id b=>exact aY a2 (.cons (.code hco) (.cons (.inBlock id) hl)) a4 .run a7 a8 hc hw
   |loop b=>exact aY a2 (.cons (.code hco) (.cons (.inLoop hco) hl)) a4 .run a7 a8 hc hw
   |scope b=>exact aY a2 (.cons (.code hco) (.cons (.inScope hco) hl)) a4 .run a7 a8 hc hw
   |exit id =>
    rcases exitTo_rel id hl with⟨e1,e2⟩|⟨k,K,e1,e2,hk⟩
    ·cases a8 with
     |none=>simp only[stepG.exec,e1,Option.elim_none];trivial
     |@some l0 L0 hl0 hh =>
      have hne:cs≠[]:=hc.ne
      simp only[stepG.exec,e1,e2,Option.elim_none] at hb ⊢
      exact cV (some (.exit id)) (λc e=>by cases e;rfl) a7 hl0 hh hc hne hw ht hb
    ·simp only[stepG.exec,e1,e2,Option.elim_some]
     exact aY a2 hk a4 .run a7 a8 hc hw
   |goto l1 =>
    rcases gotoIn_rel l1 hl with⟨e1,e2⟩|⟨k,K,e1,e2,hk⟩
    ·cases a8 with
     |none=>simp only[stepG.exec,e1,Option.elim_none];trivial
     |@some l0 L0 hl0 hh =>
      have hne:cs≠[]:=hc.ne
      simp only[stepG.exec,e1,e2,Option.elim_none] at hb ⊢
      exact cV (some (.goto l1)) (λc e=>by cases e;rfl) a7 hl0 hh hc hne hw ht hb
    ·simp only[stepG.exec,e1,e2,Option.elim_some]
     exact aY a2 hk a4 .run a7 a8 hc hw
   |rangeFunc f ps ug bo =>
    simp only[codeOk,Bool.and_eq_true] at hco
    have ho:(round=none/\round'=none)\/∃l L,round=some l/\round'=some L/\β l L/\(SP SB H).hid l=false:=by
     cases a8 with
     |none=>exact .inl ⟨rfl,rfl⟩
     |some x y=>exact .inr ⟨_,_,rfl,rfl,x,y⟩
    have hm:=ko (P:=P) (Ck:=CK P.a SB lets) (G:=Gn) (S:=SP SB H) fn a7.2 a2 ps hco.1.2 hco.2 ho
    have hE:=hm w W n hw ht #[] #[]
    simp only[stepG.exec] at hb ⊢
    rcases hr:(Instr.enterLoop fn tmps ps ug bo round).runT P.a w #[] with⟨r,es⟩
    rw[hr] at hb hE
    cases r with
    |ok x w' =>
     obtain⟨l0,mark⟩:=x
     have next : ∀ (β' : Bij) (l0 L0 : Nat), β.le β' -> β' l0 L0 -> H l0 = false -> ∀ (m M : List Deferred),
       SRel P (SP SB H) (CK P.a SB lets) Gn β' (do
        let d<-resolve (Frame.eval ⟨fn,tmps,.inRangeFunc l0::l,m++defers,.run,kind,round⟩) { callee:=.value f,args:=#[.const (.func (.yield l0) #[] #[])],argTypes:=#[] } 0
        invoke d.target d.args) (do
        let d<-resolve (Frame.eval ⟨fn,tmps',.inRangeFunc L0::L',M++defers',.run,kind,round'⟩) { callee:=.value f,args:=#[.const (.func (.yield L0) #[] #[])],argTypes:=#[] } 0
        invoke d.target d.args) (NRel (SP SB H) (CK P.a SB lets)):=by
      intro β' l0 L0 hle hl0 hh0 m M
      unfold resolve
      dsimp only
      have hx:VRel (SP SB H) β' (Frame.eval ⟨fn,tmps,.inRangeFunc l0::l,m++defers,.run,kind,round⟩ f) (Frame.eval ⟨fn,tmps',.inRangeFunc L0::L',M++defers',.run,kind,round'⟩ f):=by
       have:=(hf0.eval hco.1.1).mono hle
       cases f with
       |tmp t=>exact this
       |const v=>exact this
       |global g=>exact this
       |func g=>exact this
      refine sr_bind (fe hx ?_) ?_
      ·simp only[List.map_toArray,List.map_cons,List.map_nil,Frame.eval]
       exact AsRel.one (.func (.yield hl0 hh0) rfl (by simp) rfl (by simp))
      ·intro β2 d D _ hd
       exact fQ L.calls hd
     obtain⟨β1,⟨L1,M1⟩,W1,hx1,le1,hw1⟩:=hm.some2 hw hr
     have hd:=lA (fr:=⟨fn,tmps,.inRangeFunc l0::l,mark++defers,.run,kind,round⟩) (cs:=cs) (next β1 l0 L1 le1 hx1.1 hx1.2.1 mark M1) hw1
     have hbw:w'.drawn<=w.drawn+n:=by
      have e:∀s,aF (GStep.after (seen P.a fn es) s)=aF s:=λs=>by cases s<;>rfl
      rw[e] at hb
      exact Nat.le_trans hd hb
     obtain⟨β',⟨L0,M0⟩,W',ES,e1,⟨e2,e2',e2''⟩,e3⟩:=hE hbw
     simp only[e1,Array.empty_append]
     have hc':=hc.mono λ_ _ (r:FrRel P.a SB H lets β _ _)=>r.mono e3.le
     have hfr:FrRel P.a SB H lets β' ⟨fn,tmps,.inRangeFunc l0::l,mark++defers,.run,kind,round⟩ ⟨fn,tmps',.inRangeFunc L0::L',M0++defers',.run,kind,round'⟩ :=
      ⟨rfl,a2.mono e3.le,.cons (.inRangeFunc e2 e2') (hl.mono λ_ _=>IRel.mono e3.le),e2''.append (a4.mono λ_ _=>DRel.mono e3.le),.run,rfl,a7,a8.mono e3.le⟩
     have h3:=e3.drawn
     have:=fS (BB:=BB) L hfr hc' (next β' l0 L0 e3.le e2 e2' mark M0) e3.rel (ht.rest e3) (by
      have e:∀s,aF (GStep.after (seen P.a fn es) s)=aF s:=λs=>by cases s<;>rfl
      rw[e] at hb
      refine Nat.le_trans hb ?_
      omega)
     have:=StepRel.after (e3.seen (P:=P) (SB:=SB) (H:=H) (lets:=lets) fn) this (seen P.a fn es)
     simpa using this
    |halt x w'=>trivial
   |region id ops draw =>
    have hco':ops.all (bP P.a SB lets round.isNone)=true:=by have h0:=hco;simp only[codeOk,Bool.and_eq_true] at h0;exact h0.1
    cases draw with
    |false=>exact aY a2 (.cons (.inRegion hco') hl) a4 .run a7 a8 hc hw
    |true =>
     have hm:=ei (P:=P) (Ck:=CK P.a SB lets) (G:=Gn) (S:=SP SB H) (β:=β) (.order fn id)
     have hE:=hm w W n hw ht #[] #[]
     simp only[stepG.exec,Bool.not_true,Bool.false_eq_true,if_false] at hb ⊢
     rw[<-Sem.runT_fst P.a (choose (.order fn id)) w #[]] at hb ⊢
     rw[<-Sem.runT_fst P.b (choose (.order fn id)) W #[]]
     rcases hr:(choose (.order fn id)).runT P.a w #[] with⟨r,es⟩
     rw[hr] at hb hE
     cases r with
     |ok t w' =>
      obtain⟨β',X,W',ES,e1,e2,e3⟩:=hE hb
      simp only[e1]
      subst e2
      have hc':=hc.mono λ_ _ (r:FrRel P.a SB H lets β _ _)=>r.mono e3.le
      exact Or.inr ⟨β',_,W',_,rfl,aG ⟨rfl,a2.mono e3.le,.cons (.inRegion hco') (hl.mono λ_ _=>IRel.mono e3.le),a4.mono λ_ _=>DRel.mono e3.le,.run,rfl,a7,a8.mono e3.le⟩ hc',{ e3 with evs:=by simp }⟩
     |halt x w'=>trivial
  |inBlock id=>exact aY a2 hl a4 .run a7 a8 hc hw
  |@inLoop c hco=>exact aY a2 (.cons (.code hco) (.cons (.inLoop hco) hl)) a4 .run a7 a8 hc hw
  |@inScope c hco=>exact aY a2 hl a4 .run a7 a8 hc hw
  |@inRegion ops todo ho =>
   cases todo with
   |nil=>exact aY a2 hl a4 .run a7 a8 hc hw
   |cons i rest =>
    have hy:yielded ops tmps'=yielded ops tmps:=(funext λj=>gM a2 ops j).symm
    simp only[stepG.exec,hy] at hb ⊢
    by_cases hwn:(Option.map (λx=>Region.wanted x (yielded ops tmps)) ops[i]?).getD false=true
    ·simp only[if_pos hwn] at hb ⊢
     cases hoi:ops[i]? with
     |none=>rw[hoi] at hwn;cases hwn
     |some o =>
      have hgo':=hgo o (by unfold Frame.oper?;exact hoi)
      have hio:bP P.a SB lets round.isNone o=true:=by
       simp only[Array.all_eq_true_iff_forall_mem] at ho
       exact ho o (Array.mem_of_getElem? hoi)
      unfold bP at hio
      rw[hgo'] at hio
      simp only[Bool.and_false,Bool.or_false,Bool.and_eq_true,Bool.or_eq_true,Bool.not_eq_true'] at hio
      have key:∀(p:Program) (t:Array Value) (k:List Item) (ds:List Deferred) (r:Option Nat),r.isNone=round.isNone->∀cs w,stepG.oper p true ⟨fn,t,.inRegion ops (i::rest)::k,ds,.run,kind,r⟩ cs none w=stepG.apply p true ⟨fn,t,.inRegion ops (i::rest)::k,ds,.run,kind,r⟩ cs none (execOp (Frame.eval ⟨fn,t,.inRegion ops (i::rest)::k,ds,.run,kind,r⟩) o) w:=by
       intro p t k ds r hr cs w
       unfold stepG.oper Frame.oper?
       simp only[hoi]
       cases r with
       |none=>rfl
       |some l0 =>
        rw[<-hr] at hio
        cases hop:o.op with
        |defer c=>rw[hop] at hio;simp[l7] at hio
        |_=>rfl
      rw[key _ _ _ _ _ rfl] at hb ⊢
      rw[key _ _ _ _ _ (ow a8).symm]
      exact fS L hf0 hc (ov L.glob L.calls (λx hx=>hf0.eval hx) hio.1) hw ht hb
    ·simp only[if_neg hwn] at hb ⊢
     exact Or.inr ⟨β,_,W,_,rfl,aG (aV hf0 (.tuple rfl (by simp))) hc,by simpa using Fin.refl hw⟩
  |inRangeFunc x y=>trivial
  |@endRangeFunc l0 L0 x y =>
   have hm:=mR (P:=P) (Ck:=CK P.a SB lets) (G:=Gn) (S:=SP SB H) x y
   have hE:=hm w W n hw ht #[] #[]
   have hmild:=hm.mild hw #[]
   simp only[stepG.exec] at hb ⊢
   rcases hr:(Instr.endLoop l0).runT P.a w #[] with⟨r,es⟩
   rw[hr] at hb hE hmild
   cases r with
   |ok j w' =>
    obtain⟨β',X,W',ES,e1,⟨e2,e2'⟩,e3⟩:=hE hb
    subst e2
    simp only[e1,Array.empty_append]
    have hc':=hc.mono λ_ _ (r:FrRel P.a SB H lets β _ _)=>r.mono e3.le
    have e3':=e3.seen (P:=P) (SB:=SB) (H:=H) (lets:=lets) fn
    have hl':=hl.mono λ_ _ (r:IRel P.a SB H lets round.isNone β _ _)=>r.mono e3.le
    refine Or.inr ⟨β',_,W',_,rfl,aG ⟨rfl,a2.mono e3.le,?_,a4.mono λ_ _=>DRel.mono e3.le,.run,rfl,a7,a8.mono e3.le⟩ hc',by simpa using e3'⟩
    cases j with
    |none=>exact hl'
    |some c=>exact .cons (.code (bg (e2' c rfl))) hl'
   |halt x w' =>
    cases x with
    |panic v =>
     obtain⟨β',X,W',ES,e1,e2,e3⟩:=hE hb
     simp only[e1,Array.empty_append]
     have hc':=hc.mono λ_ _ (r:FrRel P.a SB H lets β _ _)=>r.mono e3.le
     have e3':=e3.seen (P:=P) (SB:=SB) (H:=H) (lets:=lets) fn
     exact Or.inr ⟨β',_,W',_,rfl,aG (bX (hf0.mono e3.le) (.cons (.mk _ _ e2) .nil)) hc',by simpa using e3'⟩
    |_=>trivial
  |beginRound =>
   have hm:SRel P (SP SB H) (CK P.a SB lets) Gn β (do round.elim (stuck "beginRound: no round") Instr.beginRound;pure .skip:Sem Next) (do round'.elim (stuck "beginRound: no round") Instr.beginRound;pure .skip) (NRel (SP SB H) (CK P.a SB lets)):=by
    cases a8 with
    |none=>exact sr_bind (R:=λ_ _ _=>False) sr_stuck (λ_ _ _ _ h=>h.elim)
    |some x y =>
     refine sr_bind (jR x y) ?_
     intro β2 _ _ _ _
     exact sr_pure .skip
   simp only[stepG.exec] at hb ⊢
   exact fS L hf0 hc hm hw ht hb
def Ready (p:Program)(SB:FuncId->Bool)(g:Goroutine):Prop:=g.frame.mode=.run->NotGo p SB g.frame
def da (L:Lib P SB H lets BB Gn){g g2:Goroutine}(hg:GRel P SB H lets BB T β g g2)(hon:FrRel P.a SB H lets β g.frame g2.frame)(hr:Ready P.a SB g){w W:World}{n:Nat}(hw:WRel (SP SB H) (CK P.a SB lets) Gn β w W)(ht:TRel n w W)
  (hb:(aF (stepG P.a main g w)).drawn<=w.drawn+n) :
  StepRel P SB H lets BB T Gn β w W (stepG P.a main g w) (stepG P.b main2 g2 W):=by
 obtain⟨fr,cs,st,dy,off⟩:=g
 obtain⟨FR,CS,st',dy',off'⟩:=g2
 obtain⟨h1,h2,⟨h3,h3'⟩,⟨h4,h4'⟩,⟨h5,h5'⟩⟩:=hg
 dsimp only at *
 subst h4 h4'
 have hm:=hon.mode
 cases hmd:fr.mode with
 |run =>
  rw[hmd] at hm
  have e1:stepG P.a main ⟨fr,cs,st,none,off⟩ w=stepG.exec P.a main true fr cs none w:=by unfold stepG;simp only[hmd]
  have e2:stepG P.b main2 ⟨FR,CS,st',none,off'⟩ W=stepG.exec P.b main2 true FR CS none W:=by
   have:FR.mode=.run:=by generalize FR.mode=q at hm;cases hm;rfl
   unfold stepG;simp only[this]
  rw[e1] at hb ⊢
  rw[e2]
  exact pZ L hon hmd h2 (hr hmd) hw ht hb
 |returning =>
  rw[hmd] at hm
  have e1:stepG P.a main ⟨fr,cs,st,none,off⟩ w=unwind P.a main fr cs none w:=by unfold stepG;simp only[hmd]
  have e2:stepG P.b main2 ⟨FR,CS,st',none,off'⟩ W=unwind P.b main2 FR CS none W:=by
   have:FR.mode=.returning:=by generalize FR.mode=q at hm;cases hm;rfl
   unfold stepG;simp only[this]
  rw[e1] at hb ⊢
  rw[e2]
  exact iH L hon h2 hw ht hb
 |panicking l =>
  rw[hmd] at hm
  have e1:stepG P.a main ⟨fr,cs,st,none,off⟩ w=unwind P.a main fr cs none w:=by unfold stepG;simp only[hmd]
  have e2:stepG P.b main2 ⟨FR,CS,st',none,off'⟩ W=unwind P.b main2 FR CS none W:=by
   have:∃l,FR.mode=.panicking l:=by generalize FR.mode=q at hm;cases hm;exact⟨_,rfl⟩
   obtain⟨l,this⟩:=this
   unfold stepG;simp only[this]
  rw[e1] at hb ⊢
  rw[e2]
  exact iH L hon h2 hw ht hb
end
def Two.of (p:Program):Two:=⟨p,p.funcs⟩
abbrev Two.self (P:Two):Two:=Two.of P.a
section
variable {P:Two} {SB:FuncId->Bool} {H:Hid} {lets:Bool} {BB:FuncId->Bool} {β:Bij} {G:Nat}
def IRel.id {ad:Bool}(h:β.isId){i I:Item}(r:IRel P.a SB H lets ad β i I):i=I:=by
 cases r with
 |inRangeFunc hl _=>rw[h _ _ hl]
 |endRangeFunc hl _=>rw[h _ _ hl]
 |_=>rfl
def MRel.id (h:IdB H β){m M:FrameMode}(r:MRel SB H β m M):m=M:=by
 cases r with
 |panicking l=>rw[LRel.id (λa A (r:PRel SB H β a A)=>by cases r with|mk x y v=>rw[v.id h]) l]
 |_=>rfl
def ONRel.id (h:β.isId){o O:Option Nat}(r:ONRel H β o O):o=O:=by
 cases r with
 |none=>rfl
 |some hl _=>rw[h _ _ hl]
def FrRel.id (h:IdB H β){f F:Frame}(r:FrRel P.a SB H lets β f F):f=F:=by
 have h1:=r.fn
 have h2:=r.tmps.id h
 have h3:=r.todo.id λ_ _=>IRel.id h.2
 have h4:=r.defers.id λ_ _=>DRel.id h
 have h5:=r.mode.id h
 have h6:=r.kind
 have h7:=r.round.id h.2
 obtain⟨a1,a2,a3,a4,a5,a6,a7⟩:=f
 obtain⟨b1,b2,b3,b4,b5,b6,b7⟩:=F
 dsimp only at *
 subst h1 h2 h3 h4 h5 h6 h7
 rfl
def TopRel.id (h:IdB H β){f F:Frame}(r:TopRel P.self SB H lets BB β f F):f=F:=by
 cases r with
 |on r=>exact r.id h
 |stop _ _ _ a=>rw[a.id h];rfl
def CsRel.id (h:IdB H β){cs CS:List Frame}(r:CsRel P.a SB H lets [bad] β cs CS):cs=CS:=by
 induction r with
 |base=>rfl
 |cons a _ ih=>rw[a.id h,ih]
def GRel.id (h:IdB H β){g g':Goroutine}(r:GRel P.self SB H lets BB [bad] β g g'):g=g':=by
 have h1:=r.top.id h
 have h2:=r.callers.id h
 obtain⟨a1,a2,a3,a4,a5⟩:=g
 obtain⟨b1,b2,b3,b4,b5⟩:=g'
 obtain⟨_,_,⟨s1,s2⟩,⟨d1,d2⟩,⟨o1,o2⟩⟩:=r
 dsimp only at *
 subst h1 h2 s1 s2 d1 d2 o1 o2
 rfl
end
def on (w:World)(τ:Tape)(d:Nat):World:={ w with tape:=τ,drawn:=d }
def Same (w W:World):Prop:=W.heap=w.heap/\W.os=w.os/\W.output=w.output
def uj {w:World}{τ:Tape}{d:Nat}:Same w (on w τ d):=⟨rfl,rfl,rfl⟩
def Same.symm {w W:World}(h:Same w W):Same W w:=⟨h.1.symm,h.2.1.symm,h.2.2.symm⟩
def Same.trans {w W X:World}(h:Same w W)(k:Same W X):Same w X:=⟨k.1.trans h.1,k.2.1.trans h.2.1,k.2.2.trans h.2.2⟩
def Same.eq {w W:World}(h:Same w W):W=on w W.tape W.drawn:=by
 obtain⟨a,b,c,d,e⟩:=W
 obtain⟨h1,h2,h3⟩:=h
 dsimp only at *
 subst h1 h2 h3
 rfl
def WRel.same {S:Par}{Ck:Code->Prop}{G:Nat}{β:Bij}{w W w1 W1:World}(h:WRel S Ck G β w W)(e:w1.heap=w.heap)(E:W1.heap=W.heap)(o:w1.os.env=W1.os.env):WRel S Ck G β w1 W1 :=
 ⟨h.fine,by rw[e,E];exact h.room,by rw[e,E];exact h.objs,by rw[e,E];exact h.hids,by rw[e];exact h.old,o⟩
def Path (P:Program)(Q:Goroutine->World->Prop):Nat->Goroutine->World->Prop
 |0,g,w=>Q g w
 |n+1,g,w=>Q g w\/∃g' w' es,stepG P true g w=.go g' w' es/\g'.callers≠[]/\Path P Q n g' w'
inductive Runs (P:Program)(Ev:Goroutine->World->Prop)(Q:Goroutine->World->Prop):Goroutine->World->Prop
 |fin {g:Goroutine} {w:World}:Q g w->Runs P Ev Q g w
 |next {g:Goroutine} {w:World} (ng:Tape->Nat->Goroutine) (nw:Tape->Nat->World):Ev g w->(∀τ d,(∃es,stepG P true g (on w τ d)=.go (ng τ d) (nw τ d) es)/\(ng τ d).callers≠[])->(∀τ d,Runs P Ev Q (ng τ d) (nw τ d))->Runs P Ev Q g w
def Runs.step {P:Program}{Ev Q:Goroutine->World->Prop}{g:Goroutine}{w:World}(he:Ev g w)(h:∀τ d,∃g' w' es,stepG P true g (on w τ d)=.go g' w' es/\g'.callers≠[]/\Runs P Ev Q g' w'):Runs P Ev Q g w :=
 .next (λτ d=>Classical.choose (h τ d)) (λτ d=>Classical.choose (Classical.choose_spec (h τ d))) he
  (λτ d=>by
   obtain⟨es,h1,h2,_⟩:=Classical.choose_spec (Classical.choose_spec (h τ d))
   exact⟨⟨es,h1⟩,h2⟩)
  (λτ d=>by
   obtain⟨es,_,_,h3⟩:=Classical.choose_spec (Classical.choose_spec (h τ d))
   exact h3)
section
variable {P:Program} {SB:FuncId->Bool} {H:Hid} {BB:FuncId->Bool} {T:List Frame} {β:Bij} {G:Nat}
def notGo {f F:Frame}(r:FrRel P SB H false β f F):NotGo P SB f:=by
 intro o ho
 have key:∀(t T:List Item),LRel (IRel P SB H false f.roundOf.isNone β) t T->(match t with|.inRegion ops (i::_)::_=>ops[i]?|_=>none)=some o->goOk P SB o.op=false:=by
  intro t T h e
  cases h with
  |nil=>cases e
  |cons hi _ =>
   cases hi with
   |@inRegion ops l hops =>
    cases l with
    |nil=>cases e
    |cons i rest =>
     simp only[Array.all_eq_true_iff_forall_mem] at hops
     have:=hops o (Array.mem_of_getElem? e)
     unfold bP at this
     simp only[Bool.false_and,Bool.or_false,Bool.and_eq_true] at this
     exact rq this.1
   |_=>cases e
 refine key f.todo F.todo r.todo ?_
 unfold Frame.oper? at ho
 exact ho
def kr {p:Program}{f:FuncId}{fn:Func}{s:String}(h:p.funcs[f]?=some fn)(hb:fn.body=some (.refuse s))(a:Array Value)(k:CallKind)(cs:List Frame)(w:World)(main:Bool){g':Goroutine}{w':World}{es:Array Event} :
  stepG p main ⟨Frame.enter p f a k,cs,.running,none,none⟩ w≠.go g' w' es:=by
 intro e
 simp[stepG,Frame.enter,h,hb,stepG.exec] at e
def GRel.isOn {T:List Frame}(L:Lib (Two.of P) SB H false SB G){g g2:Goroutine}(hg:GRel (Two.of P) SB H false SB T β g g2){main:Bool}{w:World}{g':Goroutine}{w':World}{es:Array Event}(e:stepG P main g w=.go g' w' es):FrRel P SB H false β g.frame g2.frame:=by
 have htop:=hg.top
 obtain⟨fr,cs,st,dy,off⟩:=g
 obtain⟨_,_,⟨z1,_⟩,⟨z2,_⟩,⟨z3,_⟩⟩:=hg
 dsimp only at htop z1 z2 z3 ⊢
 subst z1 z2 z3
 generalize g2.frame=FR at htop ⊢
 cases htop with
 |on h=>exact h
 |@stop f a A k h1 h2 =>
  exfalso
  rcases h1 with h1|h1
  ·rw[h1] at h2;cases h2
  ·obtain⟨fn,s,q1,q2⟩:=L.bars f h1
   exact kr (p:=P) q1 q2 _ _ _ _ _ e
structure Self (P:Program)(SB:FuncId->Bool)(H:Hid)(G:Nat)(g:Goroutine)(w:World):Prop where
 some:∃β:Bij,IdB H β/\GRel (Two.of P) SB H false SB [bad] β g g/\WRel (SP SB H) (CK P SB false) G β w w
def step_local (L:Lib (Two.of P) SB H false SB G){g:Goroutine}{w W:World}(hs:Self P SB H G g w)(hh:Same w W){n:Nat}(ht:TRel n w W){g':Goroutine}{w':World}{es:Array Event}
  (hst:stepG P true g w=.go g' w' es) (hb:w'.drawn<=w.drawn+n) (hne:g'.callers≠[]) :
  ∃W' ES,stepG P true g W=.go g' W' ES/\Same w' W'/\W'.tape=W.tape/\W'.drawn+w.drawn=W.drawn+w'.drawn/\w.drawn<=w'.drawn/\w'.tape=w.tape/\Self P SB H G g' w':=by
 obtain⟨β,hi,hg,hw⟩:=hs
 have hw2:WRel (SP SB H) (CK P SB false) G β w W:=hw.same rfl hh.1 (by rw[hh.2.1])
 have hon:=hg.isOn L hst
 have hb':(aF (stepG P true g w)).drawn<=w.drawn+n:=by rw[hst];exact hb
 have:StepRel (Two.of P) SB H false SB [bad] G β w W (stepG P true g w) (stepG P true g W):=da (main:=true) (main2:=true) L hg hon (λ_=>notGo hon) hw2 ht hb'
 rw[hst] at this
 rcases this with⟨h0,_⟩|⟨β',g2,W',ES,e,h1,h2⟩
 ·exact absurd h0 hne
 obtain⟨i1,i2⟩:=h2.same hi hh.1.symm
 have eg:=GRel.id (P:=Two.of P) i1 h1
 subst eg
 exact⟨W',ES,e,⟨i2.symm,h2.OS.trans (hh.2.1.trans h2.os.symm),h2.OUT.trans (hh.2.2.trans h2.out.symm)⟩,h2.TAPE,h2.draws,h2.drawn,h2.tape,⟨β',i1,h1,h2.rel.same rfl i2 rfl⟩⟩
variable {Q:Goroutine->World->Prop}
def mT (L:Lib (Two.of P) SB H false SB G)(hQ:∀g w W,Same w W->Q g w->Q g W){n:Nat}{g:Goroutine}{w W:World}(hs:Self P SB H G g w)(hh:Same w W)(ht:∀m,TRel m w W)(h:Path P Q n g w):Path P Q n g W:=by
 induction n generalizing g w W with
 |zero=>exact hQ _ _ _ hh h
 |succ n ih =>
  rcases h with h|⟨g',w',es,h1,h2,h3⟩
  ·exact .inl (hQ _ _ _ hh h)
  ·obtain⟨W',ES,e1,e2,e3,e4,e5,e6,e7⟩:=step_local L hs hh (ht (w'.drawn-w.drawn)) h1 (by omega) h2
   refine .inr ⟨g',W',ES,e1,h2,ih e7 e2 ?_ h3⟩
   intro m i hi q
   have:=ht ((w'.drawn-w.drawn)+i+1) ((w'.drawn-w.drawn)+i) (by omega) q
   rw[e3,e6]
   rw[show w'.drawn+i=w.drawn+(w'.drawn-w.drawn+i) from by omega,show W'.drawn+i=W.drawn+(w'.drawn-w.drawn+i) from by omega]
   exact this
def Path.of_not {n:Nat}{g:Goroutine}{w:World}(h:Path P Q n g w)(hq:¬Q g w):∃m g' w' es,stepG P true g w=.go g' w' es/\g'.callers≠[]/\Path P Q m g' w':=by
 cases n with
 |zero=>exact absurd h hq
 |succ n =>
  rcases h with h|⟨g',w',es,h⟩
  ·exact absurd h hq
  ·exact⟨n,g',w',es,h⟩
structure Well (P:Program)(SB:FuncId->Bool)(H:Hid)(G:Nat)(Q:Goroutine->World->Prop)(g:Goroutine)(w:World):Prop where
 self:Self P SB H G g w
 ends:∀τ d,∃n,Path P Q n g (on w τ d)
def Self.same {g:Goroutine}{w W:World}(h:Self P SB H G g w)(e:Same w W):Self P SB H G g W:=by
 obtain⟨β,h1,h2,h3⟩:=h
 exact⟨β,h1,h2,h3.same e.1 e.1 rfl⟩
def Well.next (L:Lib (Two.of P) SB H false SB G)(hQ:∀g w W,Same w W->Q g w->Q g W){g:Goroutine}{w:World}(h:Well P SB H G Q g w)(hq:¬Q g w){τ:Tape}{d:Nat}{g':Goroutine}{w':World}{es:Array Event}
  (hst:stepG P true g (on w τ d)=.go g' w' es) (hne:g'.callers≠[]):Well P SB H G Q g' w':=by
 have hs:=h.self.same (uj (τ:=τ) (d:=d))
 obtain⟨_,_,_,_,_,_,hd,htp,hs'⟩:=step_local L hs (W:=on w τ d) ⟨rfl,rfl,rfl⟩ (n:=w'.drawn-(on w τ d).drawn) (λ_ _ _=>rfl) hst (by omega) hne
 refine⟨hs',λτ' d'=>?_⟩
 have hd':d<=w'.drawn:=hd
 let τ2:Tape:=λi=>if i<w'.drawn then τ i else τ' (i-w'.drawn+d')
 obtain⟨n,hp⟩:=h.ends τ2 d
 obtain⟨m,g2,w2,es2,k1,k2,k3⟩:=hp.of_not (λhq'=>hq (hQ g (on w τ2 d) w ⟨rfl,rfl,rfl⟩ hq'))
 obtain⟨W',ES,e1,e2,e3,e4,e5,_,_⟩:=step_local L hs (W:=on w τ2 d) ⟨rfl,rfl,rfl⟩ (n:=w'.drawn-(on w τ d).drawn) (λi hi q=>by
  show τ (d+i) q=(if d+i<w'.drawn then τ (d+i) else τ' (d+i-w'.drawn+d')) q
  have:d+i<w'.drawn:=by have:(on w τ d).drawn=d:=rfl;omega
  rw[if_pos this]) hst (by omega) hne
 rw[k1] at e1
 cases e1
 refine⟨m,mT L hQ (hs'.same e2) (W:=on w' τ' d') ⟨e2.1.symm,e2.2.1.symm,e2.2.2.symm⟩ ?_ k3⟩
 intro m i _ q
 have e4':w2.drawn=w'.drawn:=by have:(on w τ2 d).drawn=d:=rfl;have:(on w τ d).drawn=d:=rfl;omega
 rw[e3,e4']
 show(if w'.drawn+i<w'.drawn then τ (w'.drawn+i) else τ' (w'.drawn+i-w'.drawn+d')) q=τ' (d'+i) q
 rw[if_neg (by omega),show w'.drawn+i-w'.drawn+d'=d'+i from by omega]
structure Luck (P:Program)(Q:Goroutine->World->Prop)(C:Goroutine->World->Prop) where
 g:Goroutine
 w:World
 bad:C g w
def dT (L:Lib (Two.of P) SB H false SB G)(hQ:∀g w W,Same w W->Q g w->Q g W){g:Goroutine}{w:World}(h:Well P SB H G Q g w):Runs P (Self P SB H G) Q g w:=by
 refine Classical.byContradiction λhno=>?_
 let C:Goroutine->World->Prop:=λg w=>Well P SB H G Q g w/\¬Runs P (Self P SB H G) Q g w
 have nq:∀g w,C g w->¬Q g w:=λg w hc hq=>hc.2 (.fin hq)
 have next:∀x:Luck P Q C,∃(τ:Tape) (d:Nat) (y:Luck P Q C),∃es,stepG P true x.g (on x.w τ d)=.go y.g y.w es/\y.g.callers≠[]:=by
  rintro⟨g,w,hc⟩
  have:¬ ∀τ d,∃g' w' es,stepG P true g (on w τ d)=.go g' w' es/\g'.callers≠[]/\Runs P (Self P SB H G) Q g' w':=λhall=>hc.2 (.step hc.1.self hall)
  simp only[Classical.not_forall] at this
  obtain⟨τ,d,hn⟩:=this
  obtain⟨n,hp⟩:=hc.1.ends τ d
  obtain⟨m,g',w',es,k1,k2,k3⟩:=hp.of_not (λhq'=>nq g w hc (hQ g (on w τ d) w ⟨rfl,rfl,rfl⟩ hq'))
  refine⟨τ,d,⟨g',w',hc.1.next L hQ (nq g w hc) k1 k2,λhr=>hn ⟨g',w',es,k1,k2,hr⟩⟩,es,k1,k2⟩
 let τ:=λx=>Classical.choose (next x)
 let d:=λx=>Classical.choose (Classical.choose_spec (next x))
 let nx:=λx=>Classical.choose (Classical.choose_spec (Classical.choose_spec (next x)))
 have hnx:∀x:Luck P Q C,∃es,stepG P true x.g (on x.w (τ x) (d x))=.go (nx x).g (nx x).w es/\(nx x).g.callers≠[]:=λx=>Classical.choose_spec (Classical.choose_spec (Classical.choose_spec (next x)))
 let s:Nat->Luck P Q C:=λk=>Nat.rec ⟨g,w,h,hno⟩ (λ_ x=>nx x) k
 have s0:s 0=⟨g,w,h,hno⟩:=rfl
 have sS:∀k,s (k+1)=nx (s k):=λk=>rfl
 let n:Nat->Nat:=λk=>(s (k+1)).w.drawn-d (s k)
 let D:Nat->Nat:=λk=>Nat.rec 0 (λk x=>x+n k) k
 have DS:∀k,D (k+1)=D k+n k:=λk=>rfl
 have Dm:∀k j,D k<=D (k+j):=by
  intro k j
  induction j with
  |zero=>exact Nat.le_refl _
  |succ j ih=>rw[show k+(j+1)=(k+j)+1 from rfl,DS];omega
 have uniq:∀i k j,D k<=i->i<D (k+1)->D j<=i->i<D (j+1)->k=j:=by
  intro i k j h1 h2 h3 h4
  rcases Nat.lt_trichotomy k j with hlt|rfl|hlt
  ·have:=Dm (k+1) (j-(k+1));rw[show k+1+(j-(k+1))=j from by omega] at this;omega
  ·rfl
  ·have:=Dm (j+1) (k-(j+1));rw[show j+1+(k-(j+1))=k from by omega] at this;omega
 let T:Tape:=λi q=>@dite _ (∃k,D k<=i/\i<D (k+1)) (Classical.propDecidable _) (λhx=>τ (s (Classical.choose hx)) (d (s (Classical.choose hx))+(i-D (Classical.choose hx))) q) (λ_=>0)
 have hT:∀k i q,i<n k->T (D k+i) q=τ (s k) (d (s k)+i) q:=by
  intro k i q hi
  have hx:∃k',D k'<=D k+i/\D k+i<D (k'+1):=⟨k,by omega,by rw[DS];omega⟩
  have hc:=Classical.choose_spec hx
  have e:Classical.choose hx=k:=uniq (D k+i) _ _ hc.1 hc.2 (by omega) (by rw[DS];omega)
  have e1:T (D k+i) q=τ (s (Classical.choose hx)) (d (s (Classical.choose hx))+(D k+i-D (Classical.choose hx))) q:=dif_pos hx
  rw[e1,e,Nat.add_sub_cancel_left]
 have stepT:∀k,∃es,stepG P true (s k).g (on (s k).w T (D k))=.go (s (k+1)).g (on (s (k+1)).w T (D (k+1))) es:=by
  intro k
  obtain⟨es,k1,k2⟩:=hnx (s k)
  have hself:=(s k).bad.1.self.same (uj (τ:=τ (s k)) (d:=d (s k)))
  obtain⟨_,_,_,_,_,_,hd,_,_⟩:=step_local L hself (W:=on (s k).w (τ (s k)) (d (s k))) ⟨rfl,rfl,rfl⟩ (n:=n k) (λ_ _ _=>rfl) k1 (by
   show(nx (s k)).w.drawn<=d (s k)+((s (k+1)).w.drawn-d (s k))
   rw[sS];omega) k2
  have hd':d (s k)<=(s (k+1)).w.drawn:=by rw[sS];exact hd
  obtain⟨W',ES,e1,e2,e3,e4,_,_,_⟩:=step_local L hself (W:=on (s k).w T (D k)) ⟨rfl,rfl,rfl⟩ (n:=n k) (λi hi q=>(hT k i q hi).symm) k1 (by
   show(nx (s k)).w.drawn<=d (s k)+((s (k+1)).w.drawn-d (s k))
   rw[sS];omega) k2
  refine⟨ES,e1.trans ?_⟩
  have e5:W'.drawn=D (k+1):=by
   have a1:(on (s k).w (τ (s k)) (d (s k))).drawn=d (s k):=rfl
   have a2:(on (s k).w T (D k)).drawn=D k:=rfl
   have a3:(nx (s k)).w.drawn=(s (k+1)).w.drawn:=rfl
   rw[DS]
   show W'.drawn=D k+((s (k+1)).w.drawn-d (s k))
   omega
  rw[e2.eq,e3,e5]
  rfl
 have main:∀m k,¬Path P Q m (s k).g (on (s k).w T (D k)):=by
  intro m
  induction m with
  |zero=>exact λk hq=>nq _ _ (s k).bad (hQ _ (on (s k).w T (D k)) _ ⟨rfl,rfl,rfl⟩ hq)
  |succ m ih =>
   intro k hp
   rcases hp with hq|⟨g',w',es,k1,_,k3⟩
   ·exact nq _ _ (s k).bad (hQ _ (on (s k).w T (D k)) _ ⟨rfl,rfl,rfl⟩ hq)
   ·obtain⟨ES,e⟩:=stepT k
    rw[e] at k1
    cases k1
    exact ih (k+1) k3
 obtain⟨m,hp⟩:=h.ends T 0
 exact main m 0 hp
end
end Go.Iso
