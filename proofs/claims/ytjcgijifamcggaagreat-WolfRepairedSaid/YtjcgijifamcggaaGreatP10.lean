/- Parts of the proof. -/
import Derived.Test.YtjcgijifamcggaaGreatP09
import Derived.Test.YtjcgijifamcggaaGreatP00
set_option linter.all false
set_option maxHeartbeats 3200000
namespace Go.Co
open Go.Bl Go.Conc Go.ConcN
open Go.ConcR (KK WgAt stA smA rd wr mk DC0 Bk g_of_ofEvents bk_of_mute ofEvent_loc_mark ofEvent_cell ofEvent_mk)
section
variable {P:Bw} {SB BB:FuncId->Bool} {lets:Bool} {Gn:Nat} {ty Wg:Nat} {Dead Toy:Nat->Prop} {Kp:Fg} {Ψ0 Ψ2:World->Prop}
 {j0 j:Nat} {gs:Array Goroutine} {W W':World} {t:Trace} {D:Nat->WD} {M:Nat->Wm} {O:Nat->Bool} {L:Nat->Option Lone} {ts ts':TS} {rr:Nat->Nat} {st sm GK Hz:Int} {tag:CTag} {i:Nat} {g:Goroutine}
def oy (h:WI P SB BB lets Gn ty Wg Dead Toy Kp Ψ0 Ψ2 j0 j gs W t D M O L ts rr st sm)(tz:ao Toy Ψ0)(CJ:ao Toy Ψ2)(hi:i<j)(hL:L (i+1)=none)(hO:O i=false)(hs:(D i).stage=1){q d:Nat}(hd:(D i).deaf=d)(hM:M i=.st 1 q)(hrun:g.status=.running)(Bj:ConcN.Mode j D tag st sm)
  (hk:QuitsD P.b q d g):Ih P SB BB lets Gn ty Wg Dead Toy Kp Ψ0 Ψ2 j0 j gs W t D M L rr tag ts.tp i g:=by
 cases q with
 |zero=>rw[hk.1] at hrun;cases hrun
 |succ q =>
  rcases hk with⟨hf,_⟩|⟨_,g',es,PH,hstep,hq⟩
  .rw[hf] at hrun;cases hrun
  .have F4:∀e∈es,Bk Wg e:=λe he=>bk_of_mute (PH e he)
   have hno:∀a e,es[a]?=some e->(MemAct.ofEvent e).touch?=none\/0<deafBehind (D i).deaf (es.extract 0 a):=λa e he=>.inl (by
    rcases bk_of_mute (Wg:=Wg) (PH e (xY he)) with h1|h1|⟨b,wr,rfl,_⟩
    .rw[ofEvent_loc_mark h1];rfl
    .rw[ofEvent_loc_mark h1];rfl
    .have:=PH _ (xY he);simp[Event.mute] at this)
   exact bp h tz CJ hi hL hO hs (by omega) (hstep W) (.quit hq) (by omega) (λ_=>rfl) (.refl Wg W) h.wg F4 hno (by rw[hd])
    (λ_ ht _=>ConcN.Mode.retag (by have:=Bj.same (i:=i) 0 (deafBehind d es);rwa [hs] at this) ht) (by rw[hM];exact .fuel (by omega))
def moved (lib:∀H,Lib P SB H lets BB Gn)(L6:∀(f:FuncId) (fn:Func),P.a.funcs[f]?=some fn->fn.body.isNone=true->P.fs[f]?=some fn)(h:WI P SB BB lets Gn ty Wg Dead Toy Kp Ψ0 Ψ2 j0 j gs W t D M O L ts rr st sm)(tz:ao Toy Ψ0)(CJ:ao Toy Ψ2)(hi:i<j)(hg:gs[i+1]?=some g)(hrun:g.status=.running)(Bj:ConcN.Mode j D tag st sm)(hb:j+pend tag<2147483648) :
  Ih P SB BB lets Gn ty Wg Dead Toy Kp Ψ0 Ψ2 j0 j gs W t D M L rr tag ts.tp i g:=by
 obtain⟨g₁,Uz,hs⟩:=h.wk i hi;obtain rfl:g=g₁:=by rw[hg] at Uz;exact Option.some.inj Uz
 generalize hst:(D i).stage=s at hs;generalize JJ:(D i).deaf=dd at hs;generalize hM:M i=mm at hs;generalize hL:L (i+1)=lx at hs;generalize hO:O i=oo at hs;have hVj:=Vc_le j D;have idle:∀ {g':Goroutine} {m' m0:Nat},M i=.st s m0->lx=none->oo=false->stepG P.b false g W=.go g' W #[]->Eb P SB BB lets Gn ty Wg Ψ2 s dd (.st s m') none false g' W->m'<m0->s<=6->s≠1->Ih P SB BB lets Gn ty Wg Dead Toy Kp Ψ0 Ψ2 j0 j gs W t D M L rr tag ts.tp i g:=by
  intro g' m' m0 hM0 hl ho hgo hs' hm h6 h1;exact bp h tz CJ hi (by rw[hL,hl]) (by rw[hO,ho]) hst h6 hgo hs' (by omega) (λhlt=>by have:=h.old i hlt;omega) (.refl Wg W) h.wg (by simp) (by simp) (by rw[JJ];rfl)
   (λ_ ht _=>ConcN.Mode.retag (by have:=Bj.same (i:=i) 0 dd;rwa [hst] at this) ht) (by rw[hM0];exact .fuel hm)
 cases hs with
 |born EA hQ Li hr hbn=>exact ov h hi hst JJ hL hM Bj EA (by rw[hO];exact hQ) Li hr hbn
 |tree EA hQ Li hr IJ =>
  rename_i x wl Q;generalize MB:x.g=gx at hr;generalize Uk:x.w=wx at hr;cases hr with
  |fin hq =>
   subst MB Uk;obtain⟨⟨m,hm⟩,PG⟩:=hQ x g W rfl rfl EA hq IJ (h.cw.like _ x hL) h.live;obtain⟨ts',h',NM⟩:=h.turn hi hg hst JJ hm (by rw[hO];exact PG);obtain⟨g',W',es,D',M',O',L',ts2,Ya,GK,Hz,k1,k2,k3,k4,k5,k6,k7,k8,k9⟩:=Lh h' hi (Bg L _ _) (upd_same O _ _) hst JJ (upd_same M _ _) Bj hm;refine⟨g',W',es,D',M',O',L',ts2,Ya,GK,Hz,k1,k2,k3,?_,λk hk=>(k5 k hk).trans (upd_ne M _ hk),k6.trans (Bv L _ (by omega)),k7,k8,k9.trans NM⟩
   rw[upd_same] at k4;obtain⟨s',m',e⟩:=k4.VT;rw[e,hM];exact .off
  |next ng nw f1 f2 f3 =>
   subst MB Uk;exact ow lib h tz CJ hi hst JJ hL hM Bj EA (by rw[hO];exact hQ) Li f1 f2 f3 IJ
  |spec f1 f2 f3 f4 f5 f6 f7 =>
   subst Uk;exact ox lib L6 h hi hst JJ hL hM Bj EA (by rw[hO];exact hQ) Li MB f1 f2 f3 f4 f5 f6 f7 IJ
 |r0 hk=>exact Lh h hi hL hO hst JJ hM Bj hk
 |k1 hk =>
  rcases Goes.cases hk with BD|⟨m',rfl,hstep⟩
  .obtain⟨_,g',hgo,m₂,Eo⟩:=BD W (RL.refl W);exact bp h tz CJ hi hL hO hst (by omega) hgo (.d1 Eo) (by omega) (λhlt=>by have:=h.old i hlt;omega) (.refl Wg W) h.wg (by intro e he;simp at he;subst he;exact .inl rfl) (by intro a e he;exact .inl (by have:=xY he;simp at this;subst this;rfl)) (by rw[JJ];rfl)
    (λ_ ht _=>(Bj.counted hi (by omega) (.inr rfl) _ _).retag ht) (by rw[hM];exact .stage (by omega))
  .obtain⟨g',w',es,hgo,⟨rfl,rfl⟩,Dd⟩:=hstep W (RL.refl W);exact idle hM rfl rfl hgo (.k1 Dd) (by omega) (by omega) (by omega)
 |d1 hk =>
  rcases Goes.cases hk with BD|⟨m',rfl,hstep⟩
  .obtain⟨_,hall⟩:=BD W (RL.refl W);have hc1:cnt (D i)=1:=by simp[cnt,hst]
   have hV1:1<=Vc j D:=by have:=le_sumTo (f:=λx=>cnt (D x)) hi;simp only[Vc];omega
   have bk2:∀e∈#[rd (stA Wg),wr (stA Wg)],Bk Wg e:=by intro e he;simp at he;rcases he with rfl|rfl<;>exact bk_cell _ _ rfl
   have df2:∀jx e,(#[rd (stA Wg),wr (stA Wg)]:Array Event)[jx]?=some e->(MemAct.ofEvent e).touch?=none\/0<deafBehind (D i).deaf ((#[rd (stA Wg),wr (stA Wg)]:Array Event).extract 0 jx):=by
    intro jx e he;rw[JJ]
    match jx,he with
    |0,_=>exact .inr (by simp[deafBehind])
    |1,_=>exact .inr (by simp[deafBehind,rd])
    |jx+2,he=>simp at he
   have opq:OpenSt j D->OpenSt j (upd D i ⟨1,0,1⟩):=λh a ha=>by
    by_cases e:a=i
    .subst e;rw[upd_same];simp
    .rw[upd_ne D _ e];exact h a ha
   have ZH:cnt (⟨1,0,1⟩:WD)=0:=rfl;have hold:∀ {s':Nat},i<j0->s'=1:=λhlt=>by have:=h.old i hlt;omega
   have CG:=h.wg;cases Bj with
   |opn h1 h2 h3 =>
    obtain⟨v,hv⟩:∃v,Vc j D+pend tag=v+1:=⟨Vc j D+pend tag-1,by omega⟩;rw[hv] at CG;have EH:WgAt ty Wg W (((v:Nat)+1)*KK+((0:Nat):Int)) 0:=by simpa using CG
    obtain⟨g',hgo,_,hq⟩:=hall v 0 (by omega) (by omega) EH;obtain⟨q,hq⟩:=hq (by omega);have hv':Vc j (upd D i ⟨1,0,1⟩)+pend tag=v:=by have:=Vc_upd D (⟨1,0,1⟩:WD) hi;omega
    refine bp h tz CJ hi hL hO hst (by omega) hgo (.quit hq) (by omega) hold (aside_setCell W (stA Wg) _) (CG.setSt _) bk2 df2 (by rw[JJ];rfl) (λ_ ht _=>ConcN.Mode.retag ?_ ht) (by rw[hM];exact .stage (by omega));have e:((v:Nat):Int)*KK+((0:Nat):Int)=((Vc j (upd D i ⟨1,0,1⟩)+pend tag:Nat):Int)*KK:=by rw[hv'];simp
    rw[e];exact .opn h1 (opq h2) (λvs ev=>by have:=h3 vs ev;omega)
   |reg h1 h2 h3 =>
    obtain⟨v,hv⟩:∃v,Vc j D=v+1:=⟨Vc j D-1,by omega⟩;rw[hv] at CG;have hp:pend tag=0:=by cases tag<;>first|rfl|exact h1.elim
    have EH:WgAt ty Wg W (((v:Nat)+1)*KK+((1:Nat):Int)) 0:=by simpa using CG
    obtain⟨g',hgo,hl,hq⟩:=hall v 1 (by omega) (by omega) EH;by_cases hv0:v=0
    .subst hv0;obtain⟨m₂,Eo⟩:=hl ⟨rfl,rfl⟩;refine bp h tz CJ hi hL hO hst (by omega) hgo (.d2 Eo) (by omega) hold (aside_setCell W (stA Wg) _) (CG.setSt _) bk2 df2 (by rw[JJ];rfl) (λ_ ht _=>ConcN.Mode.retag ?_ ht) (by rw[hM];exact .stage (by omega));have MC:∀a,a<j->a≠i->(D a).stage=1:=λa ha e=>by
      have c0:=others_uncounted hi hv hc1 a ha e;have:=h2 a ha;simp only[cnt] at c0;split at c0<;>omega
     have:=ConcN.Mode.last (j:=j) (D:=upd D i ⟨4,0,1⟩) (tag:=tag) i h1 hi (by rw[upd_same];simp) (λa ha e=>by rw[upd_ne D _ e];exact MC a ha e);rw[upd_same] at this;simpa using this
    .obtain⟨q,hq⟩:=hq (by omega);have hv':Vc j (upd D i ⟨1,0,1⟩)=v:=by have:=Vc_upd D (⟨1,0,1⟩:WD) hi;omega
     refine bp h tz CJ hi hL hO hst (by omega) hgo (.quit hq) (by omega) hold (aside_setCell W (stA Wg) _) (CG.setSt _) bk2 df2 (by rw[JJ];rfl) (λ_ ht _=>ConcN.Mode.retag ?_ ht) (by rw[hM];exact .stage (by omega));have e:((v:Nat):Int)*KK+((1:Nat):Int)=((Vc j (upd D i ⟨1,0,1⟩):Nat):Int)*KK+1:=by rw[hv'];simp
     rw[e];exact .reg h1 (opq h2) (by omega)
   |last Lx _ h2 h3 h4 =>
    by_cases e:i=Lx
    .subst e;omega
    .have:=h4 i hi e;omega
   |sema h2=>have:=h2 i hi;omega
   |fin _ h2=>have:=h2 i hi;omega
  .obtain⟨g',w',es,hgo,⟨rfl,rfl⟩,Dd⟩:=hstep W (RL.refl W);exact idle hM rfl rfl hgo (.d1 Dd) (by omega) (by omega) (by omega)
 |d2 hk =>
  rcases Goes.cases hk with BD|⟨m',rfl,hstep⟩
  .obtain⟨_,hx⟩:=BD W (RL.refl W);obtain⟨hW3,MC,rfl,rfl⟩:=Bj.isLast hi (by omega);have CG:=h.wg;simp only[hst] at CG;obtain⟨g',hgo,m₂,Eo⟩:=hx (by simpa using CG);refine bp h tz CJ hi hL hO hst (by omega) hgo (.d3 Eo) (by omega) (λhlt=>by have:=h.old i hlt;omega) (.refl Wg W) CG (by intro e he;simp at he;subst he;exact bk_cell _ _ rfl) (by intro jx e he;rw[JJ];match jx,he with|0,_=>exact .inr (by simp[deafBehind])|jx+1,he=>simp at he) (by rw[JJ];rfl) (λ_ ht _=>ConcN.Mode.retag ?_ ht) (by rw[hM];exact .stage (by omega))
   have:=ConcN.Mode.last (j:=j) (D:=upd D i ⟨3,0,1⟩) (tag:=tag) i hW3 hi (by rw[upd_same];simp) (λa ha e=>by rw[upd_ne D _ e];exact MC a ha e);rw[upd_same] at this;simpa using this
  .obtain⟨g',w',es,hgo,⟨rfl,rfl⟩,Dd⟩:=hstep W (RL.refl W);exact idle hM rfl rfl hgo (.d2 Dd) (by omega) (by omega) (by omega)
 |d3 hk =>
  rcases Goes.cases hk with BD|⟨m',rfl,hstep⟩
  .obtain⟨_,hx⟩:=BD W (RL.refl W);obtain⟨hW3,MC,rfl,rfl⟩:=Bj.isLast hi (by omega);have CG:=h.wg;simp only[hst] at CG;obtain⟨g',hgo,m₂,Eo⟩:=hx (by simpa using CG);refine bp h tz CJ hi hL hO hst (by omega) hgo (.d4 Eo) (by omega) (λhlt=>by have:=h.old i hlt;omega) (aside_setCell W (stA Wg) _) (CG.setSt 0) (by intro e he;simp at he;subst he;exact bk_cell _ _ rfl) (by intro jx e he;rw[JJ];match jx,he with|0,_=>exact .inr (by simp[deafBehind])|jx+1,he=>simp at he) (by rw[JJ];rfl) (λ_ ht _=>ConcN.Mode.retag ?_ ht) (by rw[hM];exact .stage (by omega))
   have:=ConcN.Mode.last (j:=j) (D:=upd D i ⟨2,0,1⟩) (tag:=tag) i hW3 hi (by rw[upd_same];simp) (λa ha e=>by rw[upd_ne D _ e];exact MC a ha e);rw[upd_same] at this;simpa using this
  .obtain⟨g',w',es,hgo,⟨rfl,rfl⟩,Dd⟩:=hstep W (RL.refl W);exact idle hM rfl rfl hgo (.d3 Dd) (by omega) (by omega) (by omega)
 |d4 hk =>
  rcases Goes.cases hk with BD|⟨m',rfl,hstep⟩
  .obtain⟨_,hmw,hx⟩:=BD W (RL.refl W);obtain⟨hW3,MC,rfl,rfl⟩:=Bj.isLast hi (by omega);have CG:=h.wg;simp only[hst] at CG;obtain⟨g',hgo,q,hq⟩:=hx (by simpa using CG);have hrun':g'.status=.running:=by
    cases q with
    |zero=>exact absurd hq.2 (by decide)
    |succ q=>exact hq.elim (λx=>absurd x.2 (by decide)) (λx=>x.1)
   refine bp h tz CJ hi hL hO hst (by omega) hgo (es:=semEvents (smA Wg)) (dd':=1) (.quit hq) (by omega) (λhlt=>by have:=h.old i hlt;omega) (aside_setCell W (smA Wg) _) (CG.setSm 1) ?_ ?_ (by rw[JJ];simp[deafBehind,semEvents]) ?_ (by rw[hM];exact .stage (by omega))
   .intro e he;simp[semEvents] at he;rcases he with rfl|rfl|rfl|rfl
    .exact .inl rfl
    .exact bk_cell _ _ rfl
    .exact bk_cell _ _ rfl
    .exact .inr (.inl rfl)
   .intro jx e he;rw[JJ]
    match jx,he with
    |0,he=>simp[semEvents] at he;subst he;exact .inl rfl
    |1,_=>exact .inr (by simp[deafBehind,semEvents])
    |2,_=>exact .inr (by simp[deafBehind,semEvents])
    |3,he=>simp[semEvents] at he;subst he;exact .inl rfl
    |jx+4,he=>simp[semEvents] at he
   .intro tag' ht hw;have MV:=hw hmw hrun';have e3:tag'=.w3:=by
     rcases ht with rfl|⟨_,rfl⟩
     .cases tag'<;>first|rfl|exact hW3.elim|exact absurd rfl MV
     .rfl
    subst e3;simp only[if_true];exact .sema λa ha=>by
     by_cases e:a=i
     .subst e;rw[upd_same]
     .rw[upd_ne D _ e];exact MC a ha e
  .obtain⟨g',w',es,hgo,⟨rfl,rfl⟩,Dd⟩:=hstep W (RL.refl W);exact idle hM rfl rfl hgo (.d4 Dd) (by omega) (by omega) (by omega)
 |quit hk=>exact oy h tz CJ hi hL hO hst JJ hM hrun Bj hk
end
open Go.ConcR (KK WgAt stA smA rd wr mk DC0 Bk g_of_ofEvents bk_of_mute ofEvent_loc_mark ofEvent_cell ofEvent_mk)
section
variable (P:Bw) (SB BB:FuncId->Bool) (lets:Bool) (Gn:Nat) (ty Wg:Nat) (Toy:Nat->Prop) (Ψ0 Ψ2:World->Prop)
structure Split (x:Lone)(G' child:Goroutine)(W:World)(tp MD o:Bool)(x' xk:Lone)(SD:Bc):Prop where
 gl:Ch P SB BB lets x' G'
 wl:D6 P SB lets Gn x' W
 tw:x'.H.BX=false
 gk:lD P SB BB lets xk child
 wk:D6 P SB lets Gn xk W
 twk:xk.H.BX=false
 bk:SD.le xk.β
 sub:∀b B,x'.β b B->∃b0,x.β b0 B/\(x'.H b=false->x.H b0=false/\(Ro x.w b0->Ro x'.w b))
 PI:∀b B,xk.β b B->(∃b0,x.β b0 B/\(xk.H b=false->x.H b0=false/\(Ro x.w b0->Ro xk.w b)))\/(o=true/\Toy B)
 hid:∀b,x'.β b Wg->x'.H b=true
 aeJ:∀b,xk.β b Wg->xk.H b=true
 GA:∀b B,x'.β b B->Toy B->x'.H b=true
 aeK:o=false->∀b B,xk.β b B->Toy B->xk.H b=true
 sep:Sep (SP SB x'.H) x'.β x'.w (SP SB xk.H) xk.β xk.w
 tps:(o=true->tp=true/\MD=false)/\(o=false->MD=tp)
end
section
variable {P:Bw} {SB BB:FuncId->Bool} {lets:Bool} {Gn:Nat} {ty Wg:Nat} {Dead Toy:Nat->Prop} {Kp:Fg} {Ψ0 Ψ2:World->Prop}
 {j0 j:Nat} {gs:Array Goroutine} {W W':World} {t:Trace} {D:Nat->WD} {M:Nat->Wm} {O:Nat->Bool} {L:Nat->Option Lone} {ts ts':TS} {rr:Nat->Nat} {st sm GK Hz:Int} {a a':Goroutine}
def WI.main (h:WI P SB BB lets Gn ty Wg Dead Toy Kp Ψ0 Ψ2 j0 j gs W t D M O L ts rr st sm){fn:FuncId}{pos:String}{es:Array Event}{x':Option Lone}
  (CG:WgAt ty Wg W' GK Hz) (hcw:Cw P SB lets Gn Wg Dead Toy Kp (put L 0 x') ts.own W')
  (SC:TI (M9 Dead Wg) (OM Toy (put L 0 x') ts.tp) (KN Toy (put L 0 x') ts.tp) (j+1) (t++MemOp.ofEvents 0 fn pos es))
  (ZC:∀e∈es,∀a,e.loc≠.mark (.release a))
  (GU:∀op∈MemOp.ofEvents 0 fn pos es,op.act.low W'.heap.size) (hsz:W.heap.size<=W'.heap.size)
  (Lf:(ts=.start->Ψ0 W')/\(ts=.done->Ψ2 W')) :
  WI P SB BB lets Gn ty Wg Dead Toy Kp Ψ0 Ψ2 j0 j ((gs.map (woken P.b a a' W')).setIfInBounds 0 a') W' (t++MemOp.ofEvents 0 fn pos es) D M O (put L 0 x') ts rr GK Hz:=by
 have F5:∀op∈MemOp.ofEvents 0 fn pos es,op.g=0:=g_of_ofEvents;refine⟨by simp[h.size],λb hb=>?_,hcw,h.tr.app SC F5 (λop hop e=>?_) (λb hb hgb hne=>absurd rfl hne),λop hop=>?_,λb hb=>by rw[Deaf_other t (by omega) _ F5,h.deafW b hb],λb h0 hb hs=>(h.rel b h0 hb hs).appOther F5 (by omega),CG,h.Jd,h.Ko,Lf,λb hb=>?_,h.old,h.jj⟩
 .obtain⟨y,hy,hs⟩:=h.wk b hb;refine⟨y,by rw[get_map_set _ _ _ _ (by omega),hy,yC,hs.woken],?_⟩;rw[Bv L _ (by omega)];exact hs.rely λ_=>⟨_,_,CG⟩
 .obtain⟨x,hx,rfl⟩:=Go.Conc.mem_ofEvents hop;exact ZC x hx _ (Go.ConcR.loc_of_ofEvent e)
 .rcases Array.mem_append.1 hop with hop|hop
  .exact MemAct.low_mono hsz (h.low op hop)
  .exact GU op hop
 .rw[Bv L _ (by omega)];exact h.out b hb
def gb (Wg:Nat)(e:Event):Prop:=Bk Wg e\/∃b:Addr,b.block=Wg/\(e=mk (.read b)\/e=mk (.write b)\/e=mk (.acquire b))
def NS {e:Event}(h:gb Wg e){x:Touch}(hx:(MemAct.ofEvent e).touch?=some x):(∃a:Addr,x.loc=.cell a/\a.block=Wg)/\x.kind≠.plain:=by
 rcases h with h|⟨b,hb,rfl|rfl|rfl⟩
 .obtain⟨h1,h2⟩:=Lg h hx;exact⟨h1,by rw[h2];simp⟩
 .simp[mk,MemAct.ofEvent,MemAct.touch?] at hx;subst hx;exact⟨⟨b,rfl,hb⟩,by simp⟩
 .simp[mk,MemAct.ofEvent,MemAct.touch?] at hx;subst hx;exact⟨⟨b,rfl,hb⟩,by simp⟩
 .simp[mk,MemAct.ofEvent,MemAct.touch?] at hx
def WI.book0 (h:WI P SB BB lets Gn ty Wg Dead Toy Kp Ψ0 Ψ2 j0 j gs W t D M O L ts rr st sm)(tz:ao Toy Ψ0)(CJ:ao Toy Ψ2){fn:FuncId}{pos:String}{es:Array Event}
  (Mx:Aside Wg W W') (CG:WgAt ty Wg W' GK Hz) (F4:∀e∈es,gb Wg e) :
  WI P SB BB lets Gn ty Wg Dead Toy Kp Ψ0 Ψ2 j0 j ((gs.map (woken P.b a a' W')).setIfInBounds 0 a') W' (t++MemOp.ofEvents 0 fn pos es) D M O L ts rr GK Hz:=by
 have hbl:∀B,Toy B->W'.heap[B]?=W.heap[B]?:=λB hB=>Mx.block B (h.cw.GC B hB).1;have hp:put L 0 (L 0)=L:=by
  funext b;unfold put;split
  .rename_i e;rw[e]
  .rfl
 have:=h.main (a:=a) (a':=a') (fn:=fn) (pos:=pos) (es:=es) (x':=L 0) CG (by rw[hp];exact h.cw.group Mx ⟨_,_,_,CG⟩)
  (by
   rw[hp];refine h.H2 (k:=0) (by omega) λop hop=>?_;obtain⟨e,he,rfl⟩:=Go.Conc.mem_ofEvents hop;refine⟨rfl,λx hx=>?_⟩;obtain⟨⟨b,h1,h2⟩,h3⟩:=NS (F4 e he) hx
   exact⟨⟨b,h1,.inr h2⟩,h3,λ_=>rfl⟩)
  (λe he b=>by
   rcases F4 e he with h1|⟨b',_,rfl|rfl|rfl⟩
   .exact lE h1 b
   .simp[Go.ConcR.mk]
   .simp[Go.ConcR.mk]
   .simp[Go.ConcR.mk])
  (λop hop=>by
   obtain⟨e,he,rfl⟩:=Go.Conc.mem_ofEvents hop;rw[Mx.size];rcases F4 e he with h1|⟨b',h2,rfl|rfl|rfl⟩
   .exact PF h1 h.cw.low.1
   .show b'.block<_;rw[h2];exact h.cw.low.1
   .show b'.block<_;rw[h2];exact h.cw.low.1
   .show b'.block<_;rw[h2];exact h.cw.low.1)
  (by rw[Mx.size];exact xp _) ⟨λe=>tz W W' hbl (h.EE.1 e),λe=>CJ W W' hbl (h.EE.2 e)⟩
 rwa [hp] at this
def WI.ZI (h:WI P SB BB lets Gn ty Wg Dead Toy Kp Ψ0 Ψ2 j0 j gs W t D M O L ts rr st sm)(tz:ao Toy Ψ0)(CJ:ao Toy Ψ2){x:Lone}(hL:L 0=some x){AQ:Bc}{w':World}{ES:Array Event}(f:E5 P SB lets Gn x W AQ w' W' ES.toList)(g':Goroutine){fn:FuncId}{pos:String} :
  WI P SB BB lets Gn ty Wg Dead Toy Kp Ψ0 Ψ2 j0 j ((gs.map (woken P.b a a' W')).setIfInBounds 0 a') W' (t++MemOp.ofEvents 0 fn pos ES) D M O (put L 0 (some ⟨g',w',x.H,AQ,x.T⟩)) ts rr st sm:=by
 have Gu:=h.cw.BX _ x hL;have VU:W'.heap[Wg]?=W.heap[Wg]?:=h.cw.same hL f h.cw.low.1 (h.cw.Na _ x hL);have CG:WgAt ty Wg W' st sm:=by unfold WgAt;rw[VU];exact h.wg
 have hes:ES=ES.toList.toArray:=by simp
 have hown:ts.own≠some 0:=λe=>by
  cases ts with
  |at_ k =>
   obtain⟨i,_,e1,_⟩:=h.Ko k rfl;simp only[TS.own,Option.some.injEq] at e;omega
  |_=>cases e
 have MA:∀B,Toy B->W'.heap[B]?=W.heap[B]?:=λB hB=>h.cw.same hL f (h.cw.low.2.2 B hB) λb hb=>h.cw.GA _ x hL hown b B hb hB;have GL:=cn f Gu;rw[<-hes] at GL;exact h.main (a:=a) (a':=a') CG (h.cw.step hL f g') (by rw[hes];exact h.cw.PD hL f g' Ah (by omega) h.tr.ti h.low) (λe he a=>(GL e he).2.2 a) (by rw[hes];exact dO f Gu) f.SIZE
  ⟨λe=>tz W W' MA (h.EE.1 e),λe=>CJ W W' MA (h.EE.2 e)⟩
def TS.next (ts:TS)(o:Bool)(j:Nat):TS:=if o then .at_ (j+1) else ts
def WI.spawn (h:WI P SB BB lets Gn ty Wg Dead Toy Kp Ψ0 Ψ2 j0 j gs W t D M O L ts rr st sm){x x' xk:Lone}(hL:L 0=some x){child:Goroutine}{MD o:Bool}{SD:Bc}(s:Split P SB BB lets Gn Wg Toy x a' child W ts.tp MD o x' xk SD)
  {Q:Goroutine->World->Prop} (hQ:ct P SB BB lets Gn ty Wg Ψ2 Q xk.H xk.T SD o) (Li:(∀g w,Q g w->BB g.frame.fn=false)) (hr:BN P.a BB Q 0 xk.g xk.w) (OO:Deaf t 0=0) {p q:MemOp} (hp:p.g=0/\p.act=.go (j+1)) (hq:q.g=j+1/\q.act=.start) :
  WI P SB BB lets Gn ty Wg Dead Toy Kp Ψ0 Ψ2 j0 (j+1) ((gs.setIfInBounds 0 a').push child) W (t++#[p,q]) (upd D j ⟨7,0,0⟩) (upd M j (.born Q (xk.g,xk.w))) (upd O j o) (put (put L 0 (some x')) (j+1) (some xk)) (ts.next o j) rr st sm/\(ts.next o j).tp=MD:=by
 have NT:(o=true->ts=.start):=λho=>by
  have:=(s.tps.1 ho).1;cases ts<;>first|rfl|cases this
 have NM:(ts.next o j).tp=MD:=by
  cases o with
  |true=>exact((s.tps.1 rfl).2).symm
  |false=>exact(s.tps.2 rfl).symm
 refine⟨?_,NM⟩;have hgo:∀op∈#[p,q],op=p\/op=q:=by intro op hop;simpa using hop
 have VV:∀op∈#[p,q],op.act≠.mark .disable/\op.act≠.mark .enable:=by
  intro op hop;rcases hgo op hop with rfl|rfl
  .rw[hp.2];exact⟨by simp,by simp⟩
  .rw[hq.2];exact⟨by simp,by simp⟩
 have Fh:∀ {b y},put (put L 0 (some x')) (j+1) (some xk) b=some y->(b=j+1/\y=xk)\/(b=0/\y=x')\/(b≠0/\b≠j+1/\L b=some y):=by
  intro b y e;by_cases h1:b=j+1
  .subst h1;rw[Bg] at e;cases e;exact .inl ⟨rfl,rfl⟩
  .rw[Bv _ _ h1] at e;by_cases h2:b=0
   .subst h2;rw[Bg] at e;cases e;exact .inr (.inl ⟨rfl,rfl⟩)
   .rw[Bv _ _ h2] at e;exact .inr (.inr ⟨h2,h1,e⟩)
 have Kq:∀b y,b≠0->L b=some y->Sep (SP SB x'.H) x'.β x'.w (SP SB y.H) y.β y.w/\Sep (SP SB xk.H) xk.β xk.w (SP SB y.H) y.β y.w:=by
  intro b y hb hy;have sp:=h.cw.sep 0 b x y (Ne.symm hb) hL hy;refine⟨λc c' B h1 h2=>?_,λc c' B h1 h2=>?_⟩
  .obtain⟨b0,k1,k2⟩:=s.sub c B h1;cases hh:x'.H c with
   |true=>exact .inl rfl
   |false =>
    obtain⟨k3,k4⟩:=k2 hh;rcases sp b0 c' B k1 h2 with e|e|⟨e1,e2⟩
    .have e':x.H b0=true:=e;rw[k3] at e';cases e'
    .exact .inr (.inl e)
    .exact .inr (.inr ⟨k4 e1,e2⟩)
  .cases hh:xk.H c with
   |true=>exact .inl rfl
   |false =>
    rcases s.PI c B h1 with⟨b0,k1,k2⟩|⟨ho,hB⟩
    .obtain⟨k3,k4⟩:=k2 hh;rcases sp b0 c' B k1 h2 with e|e|⟨e1,e2⟩
     .have e':x.H b0=true:=e;rw[k3] at e';cases e'
     .exact .inr (.inl e)
     .exact .inr (.inr ⟨k4 e1,e2⟩)
    .exact .inr (.inl (h.cw.GA b y hy (by rw[NT ho];simp[TS.own]) c' B h2 hB))
 have ZJ:∀b B,x'.β b B->∃b0,x.β b0 B:=λb B hb=>let ⟨b0,k1,_⟩:=s.sub b B hb;⟨b0,k1⟩;have cw':Cw P SB lets Gn Wg Dead Toy Kp (put (put L 0 (some x')) (j+1) (some xk)) (ts.next o j).own W:=by
  refine⟨λb y hy=>?_,λb y hy=>?_,λb y hy=>?_,λb y hy c B hc=>?_,λb y hy ho c B hc hB=>?_,λb c y z hne hy hz=>?_,h.cw.low,h.cw.GC,h.cw.keep,λb y hy c B hc hB=>?_,h.cw.Lb,h.cw.Pz⟩
  .rcases Fh hy with⟨_,rfl⟩|⟨_,rfl⟩|⟨_,_,e⟩
   .exact s.wk
   .exact s.wl
   .exact h.cw.like b y e
  .rcases Fh hy with⟨_,rfl⟩|⟨_,rfl⟩|⟨_,_,e⟩
   .exact s.twk
   .exact s.tw
   .exact h.cw.BX b y e
  .rcases Fh hy with⟨_,rfl⟩|⟨_,rfl⟩|⟨_,_,e⟩
   .exact s.aeJ
   .exact s.hid
   .exact h.cw.Na b y e
  .rcases Fh hy with⟨_,rfl⟩|⟨_,rfl⟩|⟨_,_,e⟩
   .rcases s.PI c B hc with⟨b0,k1,_⟩|⟨_,hB⟩
    .exact h.cw.dead 0 x hL b0 B k1
    .exact(h.cw.GC B hB).2
   .obtain⟨b0,k1⟩:=ZJ c B hc;exact h.cw.dead 0 x hL b0 B k1
   .exact h.cw.dead b y e c B hc
  .rcases Fh hy with⟨rfl,rfl⟩|⟨rfl,rfl⟩|⟨h0,h1,e⟩
   .have : o = false := by
     cases o with
     |false=>rfl
     |true=>exact absurd rfl ho
    exact s.aeK this c B hc hB
   .exact s.GA c B hc hB
   .refine h.cw.GA b y e (λe'=>ho ?_) c B hc hB;cases o with
    |false=>exact e'
    |true=>rw[NT rfl] at e';cases e'
  .rcases Fh hy with⟨rfl,rfl⟩|⟨rfl,rfl⟩|⟨h0,h1,e⟩<;>rcases Fh hz with⟨rfl,rfl⟩|⟨rfl,rfl⟩|⟨k0,k1,e'⟩
   .exact absurd rfl hne
   .exact s.sep.symm
   .exact(Kq c z k0 e').2
   .exact s.sep
   .exact absurd rfl hne
   .exact(Kq c z k0 e').1
   .exact(Kq b y h0 e).2.symm
   .exact(Kq b y h0 e).1.symm
   .exact h.cw.sep b c y z hne e e'
  .rcases Fh hy with⟨_,rfl⟩|⟨_,rfl⟩|⟨_,_,e⟩
   .cases hh:y.H c with
    |true=>exact .inl rfl
    |false =>
     rcases s.PI c B hc with⟨b0,k1,k2⟩|⟨ho,hT⟩
     .obtain⟨k3,k4⟩:=k2 hh;rcases h.cw.CN 0 x hL b0 B k1 hB with e|e
      .rw[k3] at e;cases e
      .exact .inr (k4 e)
     .exact absurd hB (h.cw.Lb B hT)
   .cases hh:y.H c with
    |true=>exact .inl rfl
    |false =>
     obtain⟨b0,k1,k2⟩:=s.sub c B hc;obtain⟨k3,k4⟩:=k2 hh;rcases h.cw.CN 0 x hL b0 B k1 hB with e|e
     .rw[k3] at e;cases e
     .exact .inr (k4 e)
   .exact h.cw.CN b y e c B hc hB
 have wrx:∀l,Ti x' l->Ti x l:=by
  rintro l ⟨b,B,h1,h2,h3,h4⟩;obtain⟨b0,k1,k2⟩:=s.sub b B h1;obtain⟨k3,k4⟩:=k2 h2;exact⟨b0,B,k1,k3,λhr=>h3 (k4 hr),h4⟩
 have rdx:∀l,Tj x' l->Tj x l:=by
  rintro l ⟨b,B,h1,h2,h4⟩;obtain⟨b0,k1,k2⟩:=s.sub b B h1;exact⟨b0,B,k1,(k2 h2).1,h4⟩
 have tpx:(ts.next o j).tp=true->ts.tp=true:=λe=>by
  cases o with
  |true=>cases e
  |false=>exact e
 refine⟨by simp[h.size],λb hb=>?_,cw',?_,λop hop=>?_,λb hb=>?_,λb h0 hb hs=>?_,h.wg,λb hb ho=>?_,λk hk=>?_,⟨λe=>?_,λe=>?_⟩,λb hb=>?_,λb hb=>?_,zy h.jj⟩
 .rcases yf b j with hlt|F5
  .obtain⟨y,hy,hs⟩:=h.wk b hlt;refine⟨y,?_,?_⟩
   .rw[Array.getElem?_push_lt (by simp[h.size];omega),<-xD,xX (by omega)];exact hy
   .rw[upd_ne D _ (by omega),upd_ne M _ (by omega),upd_ne O _ (by omega),Bv _ _ (by omega),Bv _ _ (by omega)];exact hs
  .obtain rfl:b=j:=by omega
   refine⟨child,?_,?_⟩
   .rw[show b+1=(gs.setIfInBounds 0 a').size by simp[h.size],Array.getElem?_push_size]
   .rw[upd_same,upd_same,upd_same,Bg];exact .born s.bk hQ Li hr s.gk
 .have t1:=h.tr.fork (Wr':=OM Toy (put (put L 0 (some x')) (j+1) (some xk)) (ts.next o j).tp) (Rd':=KN Toy (put (put L 0 (some x')) (j+1) (some xk)) (ts.next o j).tp) (by omega) hp hq OO (λb hb l=>?_) (λl=>?_)
  .refine t1.VO λk i _ ZF=>?_;obtain⟨c,e1,e2,e3,e4⟩:=ZF;exact⟨c,e1,e2,by omega,by rw[upd_ne D _ (by omega)];exact e4⟩
  .constructor
   .rintro(⟨y,hy,hw⟩|⟨h1,h2,h3⟩)
    .rcases Fh hy with⟨e,_⟩|⟨rfl,rfl⟩|⟨_,_,e⟩
     .omega
     .exact .inl ⟨x,hL,wrx l hw⟩
     .exact .inl ⟨y,e,hw⟩
    .exact .inr ⟨h1,tpx h2,h3⟩
   .rintro(⟨y,hy,hw⟩|⟨h1,h2,h3⟩)
    .rcases Fh hy with⟨e,_⟩|⟨rfl,rfl⟩|⟨_,_,e⟩
     .omega
     .exact .inl ⟨x,hL,rdx l hw⟩
     .exact .inl ⟨y,e,hw⟩
    .exact .inr ⟨h1,tpx h2,h3⟩
  .constructor
   .rintro(⟨y,hy,b,B,h1,h2,h3,h4⟩|⟨h1,_⟩)
    .rw[Bg] at hy;cases hy;rcases s.PI b B h1 with⟨b0,k1,k2⟩|⟨ho,hB⟩
     .obtain⟨k3,k4⟩:=k2 h2;exact .inl ⟨x,hL,b0,B,k1,k3,λhr=>h3 (k4 hr),h4⟩
     .exact .inr ⟨rfl,by rw[NT ho];rfl,B,hB,h4⟩
    .omega
   .rintro(⟨y,hy,b,B,h1,h2,h4⟩|⟨h1,_⟩)
    .rw[Bg] at hy;cases hy;rcases s.PI b B h1 with⟨b0,k1,k2⟩|⟨ho,hB⟩
     .exact .inl ⟨x,hL,b0,B,k1,(k2 h2).1,h4⟩
     .exact .inr ⟨rfl,by rw[NT ho];rfl,B,hB,h4⟩
    .omega
 .rcases Array.mem_append.1 hop with hop|hop
  .exact h.low op hop
  .rcases hgo op hop with rfl|rfl
   .rw[hp.2];trivial
   .rw[hq.2];trivial
 .rw[Deaf_still t _ _ VV];rcases yf b j with hlt|F5
  .rw[h.deafW b hlt,upd_ne D _ (by omega)]
  .obtain rfl:b=j:=by omega
   rw[upd_same];exact Deaf_absent λc op hc e=>by have:=h.tr.ti.gs c op hc;omega
 .rcases yf b j with hlt|F5
  .rw[upd_ne D _ (by omega)] at hs;refine(h.rel b h0 hlt hs).appNot λop hop=>?_;rcases hgo op hop with rfl|rfl
   .rw[hp.1];omega
   .rw[hq.1];omega
  .obtain rfl:b=j:=by omega
   rw[upd_same] at hs;simp at hs
 .rcases yf b j with hlt|F5
  .rw[upd_ne O _ (by omega)] at ho;have e:=h.Jd b hlt ho;cases o with
   |false=>exact e
   |true=>rw[NT rfl] at e;cases e
  .obtain rfl:b=j:=by omega
   rw[upd_same] at ho;subst ho;rfl
 .cases o with
  |true =>
   cases hk
   exact⟨j,by omega,rfl,by rw[upd_same]⟩
  |false =>
   obtain⟨b,hb,e1,e2⟩:=h.Ko k hk;exact⟨b,by omega,e1,by rw[upd_ne O _ (by omega)];exact e2⟩
 .cases o with
  |true=>cases e
  |false=>exact h.EE.1 e
 .cases o with
  |true=>cases e
  |false=>exact h.EE.2 e
 .rw[Bv _ _ (by omega),Bv _ _ (by omega)];exact h.out b (by omega)
 .have:=h.jj;rw[upd_ne D _ (by omega)];exact h.old b hb
end
open Go.ConcR (KK WgAt stA smA rd wr mk DC0 Bk g_of_ofEvents bk_of_mute ofEvent_loc_mark ofEvent_cell ofEvent_mk)
section
variable (P:Bw) (SB BB:FuncId->Bool) (lets:Bool) (Gn:Nat) (ty Wg:Nat) (Toy:Nat->Prop) (Ψ0 Ψ2:World->Prop) (fA fW:FuncId) (wl:Nat) (Pr:Bc) (T:List Frame) (Fn:Bool->Hid->Goroutine->World->Prop)
def Hj (wl:Nat):Value:=.pointer (some ⟨wl,0,none⟩)
def bQ (f:FuncId)(args:Array Value)(fr:Frame)(cs:List Frame):Goroutine:=BU (Frame.enter P.a f args .normal) (fr::cs)
def back (fr:Frame)(cs:List Frame):Goroutine:=BU (fr.finish (.tuple #[])) cs
def ew (fr:Frame):Prop:=fr.mode=.run/\fr.roundOf=none/\∃ops i rest k,fr.todo=.inRegion ops (i::rest)::k
def gH (tp:Bool)(H:Hid)(g:Goroutine)(w:World):Prop:=∃fr cs,g=bQ P fW #[Hj wl] fr cs/\ew fr/\Fn tp H (back fr cs) w
def AtGo (S:Bool->Hid->Goroutine->World->Prop)(tp:Bool)(H:Hid)(g:Goroutine)(w:World):Prop :=
 ∀(x:Lone) (G:Goroutine) (W:World),x.g=g->Bh w x.w->x.H=H->x.T=T->Pr.le x.β->Ch P SB BB lets x G->D6 P SB lets Gn x W->(tp=true->Ψ0 W)->(∀b B,x.β b B->Toy B->x.H b=true)->(∀b,x.β b Wg->x.H b=true)->x.H.BX=false ->
  ∃(G' child:Goroutine) (x' xk:Lone) (MD o:Bool) (SD:Bc) (Q:Goroutine->World->Prop),stepG P.b true G W=.spawn G' child W #[]/\Split P SB BB lets Gn Wg Toy x G' child W tp MD o x' xk SD/\x'.T=T/\Pr.le x'.β /\
   S MD x'.H x'.g x'.w/\ct P SB BB lets Gn ty Wg Ψ2 Q xk.H xk.T SD o/\(∀g w,Q g w->BB g.frame.fn=false)/\BN P.a BB Q 0 xk.g xk.w
def IK:Nat->Bool->Hid->Goroutine->World->Prop
 |0,tp,H=>gH P fW wl Fn tp H
 | k + 1, tp, H => fun g w => gH P fW wl Fn tp H g w ∨ ∃ fr cs, g = bQ P fA #[Hj wl, .int .i64 1] fr cs ∧ ew fr ∧
   AZ P.a (B8 P.a BB) (AtGo P SB BB lets Gn ty Wg Toy Ψ0 Ψ2 Pr T (λtp H=>AZ P.a (B8 P.a BB) (IK k tp H)) tp H) (back fr cs) w
abbrev ZK (k:Nat):Bool->Hid->Goroutine->World->Prop:=AtGo P SB BB lets Gn ty Wg Toy Ψ0 Ψ2 Pr T (λtp H=>AZ P.a (B8 P.a BB) (IK P SB BB lets Gn ty Wg Toy Ψ0 Ψ2 fA fW wl Pr T Fn k tp H))
abbrev VW (k:Nat)(tp:Bool)(H:Hid):Goroutine->World->Prop:=AZ P.a (B8 P.a BB) (IK P SB BB lets Gn ty Wg Toy Ψ0 Ψ2 fA fW wl Pr T Fn k tp H)
structure Rest (k:Nat)(x:Lone)(tp:Bool)(gR:Goroutine):Prop where
 run:AZ P.a (B8 P.a BB) (ZK P SB BB lets Gn ty Wg Toy Ψ0 Ψ2 fA fW wl Pr T Fn k tp x.H) x.g x.w
 wl:Pr.le x.β
 t:x.T=T
 gl:Ch P SB BB lets x gR
structure H4 (x:Lone)(tp:Bool)(gR:Goroutine):Prop where
 fin:Fn tp x.H x.g x.w
 wl:Pr.le x.β
 t:x.T=T
 gl:Ch P SB BB lets x gR
def gI (Ey:Goroutine->World->Prop)(gR:Goroutine):Prop:=∀g w,Ey g w->g.status=.running/\∃m,GW P.b ty Wg true (W1 P.b ty Wg Ey (λg _=>g=gR)) m g w
abbrev Pre:=Nat×Nat×Wm
inductive DD:CTag->Nat->Pre->(Nat->Nat)->Nat->Lone->Bool->Goroutine->World->Prop
 | free {k : Nat} {x : Lone} {tp : Bool} {G : Goroutine} {W : World} : VW P SB BB lets Gn ty Wg Toy Ψ0 Ψ2 fA fW wl Pr T Fn k tp x.H x.g x.w -> Pr.le x.β -> x.T = T -> Ch P SB BB lets x G ->
   DD (.sp 0 5) 0 (k,9,.tree (IK P SB BB lets Gn ty Wg Toy Ψ0 Ψ2 fA fW wl Pr T Fn k tp x.H) (x.g,x.w)) (λ_=>0) 0 x tp G W
 |Yb {k m:Nat} {x:Lone} {tp:Bool} {gR G:Goroutine} {W:World}:GW P.b ty Wg true (AKd P.b ty Wg (λg _=>g=gR)) m G W->Rest P SB BB lets Gn ty Wg Toy Ψ0 Ψ2 fA fW wl Pr T Fn k x tp gR->DD (.sp 0 5) 0 (k+1,8,.st 0 m) (λ_=>0) 0 x tp G W
 |Yc {k m:Nat} {x:Lone} {tp:Bool} {gR G:Goroutine} {W:World}:GW P.b ty Wg true (AA1 P.b ty Wg (λg _=>g=gR)) m G W->Rest P SB BB lets Gn ty Wg Toy Ψ0 Ψ2 fA fW wl Pr T Fn k x tp gR->DD (.sp 0 4) 1 (k+1,7,.st 0 m) (λ_=>0) 0 x tp G W
 |arr {k m:Nat} {x:Lone} {tp:Bool} {gR G:Goroutine} {W:World}:GW P.b ty Wg true (ARr P.b ty Wg (λg _=>g=gR)) m G W->Rest P SB BB lets Gn ty Wg Toy Ψ0 Ψ2 fA fW wl Pr T Fn k x tp gR->DD (.sp 0 3) 1 (k+1,6,.st 0 m) (λ_=>0) 0 x tp G W
 |VX {k m:Nat} {x:Lone} {tp:Bool} {gR G:Goroutine} {W:World}:GW P.b ty Wg true (AKe P.b ty Wg (λg _=>g=gR)) m G W->Rest P SB BB lets Gn ty Wg Toy Ψ0 Ψ2 fA fW wl Pr T Fn k x tp gR->DD (.sp 0 3) 1 (k+1,5,.st 0 m) (λ_=>0) 0 x tp G W
 |Je {k m:Nat} {x:Lone} {tp:Bool} {gR G:Goroutine} {W:World}:GW P.b ty Wg true (λg _=>g=gR) m G W->Rest P SB BB lets Gn ty Wg Toy Ψ0 Ψ2 fA fW wl Pr T Fn k x tp gR->DD (.sp 0 2) 0 (k+1,4,.st 0 m) (λ_=>0) 0 x tp G W
 |mid {k:Nat} {x:Lone} {tp:Bool} {G:Goroutine} {W:World}:Rest P SB BB lets Gn ty Wg Toy Ψ0 Ψ2 fA fW wl Pr T Fn k x tp G->DD (.sp 0 2) 0 (k+1,3,.tree (ZK P SB BB lets Gn ty Wg Toy Ψ0 Ψ2 fA fW wl Pr T Fn k tp x.H) (x.g,x.w)) (λ_=>0) 0 x tp G W
 |Yd {k m:Nat} {x:Lone} {tp:Bool} {gR G:Goroutine} {Ey:Goroutine->World->Prop} {W:World}:GW P.b ty Wg true (WKd P.b ty Wg Ey) m G W->H4 P SB BB lets Pr T Fn x tp gR->gI P ty Wg Ey gR->DD .kd 0 (k,2,.st 0 0) (λv=>16*v+14) m x tp G W
 |anch {k m:Nat} {x:Lone} {tp:Bool} {gR G:Goroutine} {Ey:Goroutine->World->Prop} {W:World}:GW P.b ty Wg true Ey m G W->H4 P SB BB lets Pr T Fn x tp gR->gI P ty Wg Ey gR->DD .anch 1 (k,2,.st 0 0) (λv=>16*v+12) m x tp G W
 |w1 {k m:Nat} {x:Lone} {tp:Bool} {gR G:Goroutine} {Ey:Goroutine->World->Prop} {W:World}:GW P.b ty Wg true (W1 P.b ty Wg Ey (λg _=>g=gR)) m G W->H4 P SB BB lets Pr T Fn x tp gR->gI P ty Wg Ey gR->DD .w1 1 (k,2,.st 0 0) (λv=>16*v+10) m x tp G W
 |w2 {k vs m:Nat} {x:Lone} {tp:Bool} {gR G:Goroutine} {Ey:Goroutine->World->Prop} {W:World}:GW P.b ty Wg true (W2 P.b ty Wg Ey (λg _=>g=gR) vs) m G W->H4 P SB BB lets Pr T Fn x tp gR->gI P ty Wg Ey gR->DD (.w2 vs) 1 (k,2,.st 0 0) (λ_=>16*vs+8) m x tp G W
 |Ye {k m:Nat} {x:Lone} {tp:Bool} {gR G:Goroutine} {W:World}:GW P.b ty Wg true (WRw P.b ty Wg (λg _=>g=gR)) m G W->H4 P SB BB lets Pr T Fn x tp gR->DD .w3 1 (k,2,.st 0 0) (λ_=>7) m x tp G W
 |w3 {k m:Nat} {x:Lone} {tp:Bool} {gR G:Goroutine} {W:World}:GW P.b ty Wg true (W3 P.b ty Wg (λg _=>g=gR)) m G W->H4 P SB BB lets Pr T Fn x tp gR->DD .w3 1 (k,2,.st 0 0) (λ_=>6) (m+1) x tp G W
 |blk {k:Nat} {x:Lone} {tp:Bool} {gR G:Goroutine} {W:World}:(∀w₁,RL ty Wg W w₁->W3 P.b ty Wg (λg _=>g=gR) G w₁)->H4 P SB BB lets Pr T Fn x tp gR->DD .blk 1 (k,2,.st 0 0) (λ_=>6) 0 x tp { G with status:=.blocked } W
 |w4 {k m:Nat} {x:Lone} {tp:Bool} {gR G:Goroutine} {W:World}:GW P.b ty Wg true (W4 P.b ty Wg (λg _=>g=gR)) m G W->H4 P SB BB lets Pr T Fn x tp gR->DD .w4 1 (k,2,.st 0 0) (λ_=>5) m x tp G W
 |UA {k m:Nat} {x:Lone} {tp:Bool} {gR G:Goroutine} {W:World}:GW P.b ty Wg true (WKe P.b ty Wg (λg _=>g=gR)) m G W->H4 P SB BB lets Pr T Fn x tp gR->DD .ke 1 (k,2,.st 0 0) (λ_=>4) m x tp G W
 |NU {k m:Nat} {x:Lone} {tp:Bool} {gR G:Goroutine} {W:World}:GW P.b ty Wg true (Zx P.b ty Wg (λg _=>g=gR)) m G W->H4 P SB BB lets Pr T Fn x tp gR->DD .acq 0 (k,2,.st 0 0) (λ_=>3) m x tp G W
 |fin {k m:Nat} {x:Lone} {tp:Bool} {gR G:Goroutine} {W:World}:GW P.b ty Wg true (λg _=>g=gR) m G W->H4 P SB BB lets Pr T Fn x tp gR->DD .ret 0 (k,2,.st 0 0) (λ_=>2) m x tp G W
end
section
variable {P:Bw} {SB BB:FuncId->Bool} {lets:Bool} {Gn:Nat} {ty Wg:Nat} {Toy:Nat->Prop} {Ψ0 Ψ2:World->Prop} {fA fW:FuncId} {wl:Nat} {Pr:Bc} {T:List Frame} {Fn:Bool->Hid->Goroutine->World->Prop}
 {tag:CTag} {d0:Nat} {pre:Pre} {rk:Nat->Nat} {fu:Nat} {x:Lone} {tp:Bool} {G:Goroutine} {W W':World}
def DD.rely (h:DD P SB BB lets Gn ty Wg Toy Ψ0 Ψ2 fA fW wl Pr T Fn tag d0 pre rk fu x tp G W)(r:RL ty Wg W W'):DD P SB BB lets Gn ty Wg Toy Ψ0 Ψ2 fA fW wl Pr T Fn tag d0 pre rk fu x tp G W':=by
 cases h with
 |free a b c d=>exact .free a b c d
 |Yb a b=>exact .Yb (Goes.rely RL.trans a r) b
 |Yc a b=>exact .Yc (Goes.rely RL.trans a r) b
 |arr a b=>exact .arr (Goes.rely RL.trans a r) b
 |VX a b=>exact .VX (Goes.rely RL.trans a r) b
 |Je a b=>exact .Je (Goes.rely RL.trans a r) b
 |mid a=>exact .mid a
 |Yd a b c=>exact .Yd (Goes.rely RL.trans a r) b c
 |anch a b c=>exact .anch (Goes.rely RL.trans a r) b c
 |w1 a b c=>exact .w1 (Goes.rely RL.trans a r) b c
 |w2 a b c=>exact .w2 (Goes.rely RL.trans a r) b c
 |Ye a b=>exact .Ye (Goes.rely RL.trans a r) b
 |w3 a b=>exact .w3 (Goes.rely RL.trans a r) b
 |blk a b=>exact .blk (λw₂ h₂=>a w₂ (RL.trans _ _ _ r h₂)) b
 |w4 a b=>exact .w4 (Goes.rely RL.trans a r) b
 |UA a b=>exact .UA (Goes.rely RL.trans a r) b
 |NU a b=>exact .NU (Goes.rely RL.trans a r) b
 |fin a b=>exact .fin (Goes.rely RL.trans a r) b
def UB {gR:Goroutine}(h:gR.status=.running):∀(g:Goroutine) (_:World),g=gR->g.status=.running:=λg _ e=>e▸h
def DD.status (h:DD P SB BB lets Gn ty Wg Toy Ψ0 Ψ2 fA fW wl Pr T Fn tag d0 pre rk fu x tp G W):(G.status=.running/\tag≠.blk)\/(G.status=.blocked/\tag=.blk):=by
 cases h with
 |free _ _ _ d=>exact .inl ⟨d.status.2,by simp⟩
 |Yb a _=>exact .inl ⟨Goes.running (λ_ _ x=>x.1) W (RL.refl W) a,by simp⟩
 |Yc a _=>exact .inl ⟨Goes.running (λ_ _ x=>x.1) W (RL.refl W) a,by simp⟩
 |arr a _=>exact .inl ⟨Goes.running (λ_ _ x=>x.1) W (RL.refl W) a,by simp⟩
 |VX a _=>exact .inl ⟨Goes.running (λ_ _ x=>x.1) W (RL.refl W) a,by simp⟩
 |Je a b=>exact .inl ⟨Goes.running (UB b.gl.status.2) W (RL.refl W) a,by simp⟩
 |mid a=>exact .inl ⟨a.gl.status.2,by simp⟩
 |Yd a _ _=>exact .inl ⟨Goes.running (λ_ _ x=>x.1) W (RL.refl W) a,by simp⟩
 |anch a _ c=>exact .inl ⟨Goes.running (λg w x=>(c g w x).1) W (RL.refl W) a,by simp⟩
 |w1 a _ _=>exact .inl ⟨Goes.running (λ_ _ x=>x.1) W (RL.refl W) a,by simp⟩
 |w2 a _ _=>exact .inl ⟨Goes.running (λ_ _ x=>x.1) W (RL.refl W) a,by simp⟩
 |Ye a _=>exact .inl ⟨Goes.running (λ_ _ x=>x.1) W (RL.refl W) a,by simp⟩
 |w3 a _=>exact .inl ⟨Goes.running (λ_ _ x=>x.1) W (RL.refl W) a,by simp⟩
 |blk _ _=>exact .inr ⟨rfl,rfl⟩
 |w4 a _=>exact .inl ⟨Goes.running (λ_ _ x=>x.1) W (RL.refl W) a,by simp⟩
 |UA a _=>exact .inl ⟨Goes.running (λ_ _ x=>x.1) W (RL.refl W) a,by simp⟩
 |NU a _=>exact .inl ⟨Goes.running (λ_ _ x=>x.1) W (RL.refl W) a,by simp⟩
 |fin a b=>exact .inl ⟨Goes.running (UB b.gl.status.2) W (RL.refl W) a,by simp⟩
def DD.wokenBy (h:DD P SB BB lets Gn ty Wg Toy Ψ0 Ψ2 fA fW wl Pr T Fn tag d0 pre rk fu x tp G W)(r:RL ty Wg W W')(g g':Goroutine) :
  ∃tag' ME MF,DD P SB BB lets Gn ty Wg Toy Ψ0 Ψ2 fA fW wl Pr T Fn tag' d0 pre ME MF x tp (woken P.b g g' W' G) W'/\(tag'=tag\/(tag=.blk/\tag'=.w3))/\(mayWake P.b g=true->g'.status=.running->tag'≠.blk):=by
 have h':=h.rely r;unfold Go.Conc.woken;split
 .rcases h'.status with⟨hs,hne⟩|⟨_,rfl⟩
  .exact⟨tag,rk,fu,by rw[again_running _ (.inl hs)];exact h',.inl rfl,λ_ _=>hne⟩
  .cases h' with
   |blk hb hf =>
    have h3:=hb W' (RL.refl W');exact⟨.w3,λ_=>6,0+1,by rw[Go.ConcR.again_blocked h3.1 h3.2.1];exact .w3 (Goes.stop hb) hf,.inr ⟨rfl,rfl⟩,λ_ _=>by simp⟩
 .rename_i hc;exact⟨tag,rk,fu,h',.inl rfl,λh1 h2=>absurd (by simp[h1,h2]) hc⟩
end
end Go.Co
namespace Go.Bl
inductive One {α:Type}(R:α->α->Prop):List α->List α->Prop
 |head {x y:α} {l:List α}:R x y->One R (x::l) (y::l)
 |tail {a:α} {l l':List α}:One R l l'->One R (a::l) (a::l')
def One.cons {α:Type}{R:α->α->Prop}{a:α}(ha:Acc R a):∀ {l:List α},Acc (One R) l->Acc (One R) (a::l):=by
 induction ha with
 |intro a _ iha =>
  intro l hl
  induction hl with
  |intro l hl ihl =>
   refine .intro _ λm hm=>?_;cases hm with
   |head h=>exact iha _ h (.intro l hl)
   |tail h=>exact ihl _ h
def One.acc {α:Type}{R:α->α->Prop}:∀ {l:List α},(∀x∈l,Acc R x)->Acc (One R) l
 |[],_=>.intro _ λm hm=>by cases hm
 |a::l,h=>One.cons (h a (by simp)) (One.acc λx hx=>h x (by simp[hx]))
def One.set {α:Type}{R:α->α->Prop}:∀ {l:List α} {i:Nat} {x y:α},l[i]?=some y->R x y->One R (l.set i x) l
 |_::_,0,_,_,h,r=>by
  simp only[List.getElem?_cons_zero,Option.some.injEq] at h;subst h;exact .head r
 |_::l,i+1,_,_,h,r=>by
  simp only[List.getElem?_cons_succ] at h;exact .tail (One.set h r)
end Go.Bl
namespace Go.Co
open Go.Bl Go.Conc Go.ConcN
open Go.ConcR (KK WgAt stA smA rd wr mk DC0 Bk g_of_ofEvents bk_of_mute ofEvent_loc_mark ofEvent_cell ofEvent_mk)
def IL (p:Program)(a b:Wm):Prop:=Ld p a b/\Acc (Ld p) b
def IL.wf (p:Program):WellFounded (IL p):=⟨λy=>.intro _ λx h=>by
 have key:∀y,Acc (Ld p) y->Acc (IL p) y:=by
  intro y hy
  induction hy with
  |intro y _ ih=>exact .intro _ λz hz=>ih z hz.1
 exact key x (h.2.inv h.1)⟩
abbrev Mu:=Pre×(List Wm×(Nat×Nat))
def PK (p:Program):Pre->Pre->Prop:=Prod.Lex (·<·) (Prod.Lex (·<·) (IL p))
def ZL:Nat×Nat->Nat×Nat->Prop:=Prod.Lex (·<·) (·<·)
def UC (p:Program):Mu->Mu->Prop:=Prod.Lex (PK p) (Prod.Lex (One (IL p)) ZL)
def UC.wf (p:Program):WellFounded (UC p):=by
 have h1:WellFounded (PK p):=(Prod.lex Nat.lt_wfRel (Prod.lex Nat.lt_wfRel ⟨_,IL.wf p⟩)).wf;have h2:WellFounded ZL:=(Prod.lex Nat.lt_wfRel Nat.lt_wfRel).wf;have h3:WellFounded (One (IL p)):=⟨λl=>One.acc λx _=>(IL.wf p).apply x⟩;exact(Prod.lex ⟨_,h1⟩ (Prod.lex ⟨_,h3⟩ ⟨_,h2⟩)).wf
def Ap {p:Program}{k q:Nat}{q':Nat}{w1 w:Wm}{r1 r:List Wm×(Nat×Nat)}{JX:Mu}(hq:q<q')(h:UC p JX ((k,q,w1),r1)):UC p JX ((k,q',w),r):=by
 obtain⟨⟨k2,q2,w2⟩,r2⟩:=JX;refine Prod.Lex.left _ _ ?_;cases h with
 |left _ _ h =>
  cases h with
  |left _ _ h=>exact Prod.Lex.left _ _ h
  |right _ h =>
   refine Prod.Lex.right _ ?_;cases h with
   |left _ _ h=>exact Prod.Lex.left _ _ (Nat.lt_trans h hq)
   |right _ _=>exact Prod.Lex.left _ _ hq
 |right _ _=>exact Prod.Lex.right _ (Prod.Lex.left _ _ hq)
def jg {P:Program}{μ:Type}{r:μ->μ->Prop}(wf:WellFounded r)(Inv:μ->Machine->Trace->Prop)(Fin:Machine->Trace->Prop)
  (step:∀x m t,Inv x m t->Fin m t\/∃m' ops x',stepT P m=(.next m',ops)/\r x' x/\Inv x' m' (t++ops)):∀x m t,Inv x m t->∃N m' t',runNT P N m t=(.next m',t')/\Fin m' t':=by
 intro x
 induction x using wf.induction with
 |_ x ih =>
  intro m t h;rcases step x m t h with hf|⟨m',ops,x',h1,h2,h3⟩
  .exact⟨0,m,t,rfl,hf⟩
  .obtain⟨N,m2,t2,k1,k2⟩:=ih x' h2 m' _ h3;exact⟨N+1,m2,t2,by simp only[runNT,h1];exact k1,k2⟩
section
variable (P:Bw) (SB BB:FuncId->Bool) (lets:Bool) (Gn:Nat) (ty Wg:Nat) (Dead Toy:Nat->Prop) (Kp:Fg) (Ψ0 Ψ2:World->Prop) (fA fW:FuncId) (wl:Nat) (Pr:Bc) (T:List Frame) (Fn:Bool->Hid->Goroutine->World->Prop)
def Acq (j0 j:Nat)(rr:Nat->Nat)(t:Trace):Prop:=∃q,t.act? q=some (.mark (.acquire (stA Wg)))/\t.g? q=some 0/\t.heard q/\∀i,j0<=i->i<j->rr i<q
structure MI (j0:Nat)(pre:Pre)(j:Nat)(gs:Array Goroutine)(W:World)(t:Trace)(D:Nat->WD)(M:Nat->Wm)(O:Nat->Bool)(L:Nat->Option Lone)(ts:TS)(rr:Nat->Nat)(st sm:Int)(tag:CTag)(d0:Nat)(rk:Nat->Nat)(fu:Nat)(x:Lone)(a:Goroutine):Prop where
 wi:WI P SB BB lets Gn ty Wg Dead Toy Kp Ψ0 Ψ2 j0 j gs W t D M O L ts rr st sm
 Yf:DD P SB BB lets Gn ty Wg Toy Ψ0 Ψ2 fA fW wl Pr T Fn tag d0 pre rk fu x ts.tp a W
 L0:L 0=some x
 a0:gs[0]?=some a
 deaf:Deaf t 0=d0
 mode:ConcN.Mode j D tag st sm
 acq:tag=.ret->Acq Wg j0 j rr t
 bd:j+pre.1<Kp.bd/\Kp.bd<=2147483647
def NV (j0:Nat)(μ:Mu)(m:Machine)(t:Trace):Prop :=
 ∃j gs W sl D M O L ts rr st sm tag d0 rk fu x a,m=crowd gs W sl/\MI P SB BB lets Gn ty Wg Dead Toy Kp Ψ0 Ψ2 fA fW wl Pr T Fn j0 μ.1 j gs W t D M O L ts rr st sm tag d0 rk fu x a/\μ.2=((List.range j).map M,(rk (Vc j D),fu))
def Lj (j0:Nat)(m:Machine)(t:Trace):Prop :=
 ∃j gs W sl D M O L ts rr st sm x a,m=crowd gs W sl/\WI P SB BB lets Gn ty Wg Dead Toy Kp Ψ0 Ψ2 j0 j gs W t D M O L ts rr st sm/\H4 P SB BB lets Pr T Fn x ts.tp a/\L 0=some x/\gs[0]?=some a/\Deaf t 0=0/\AllQuit j D/\Acq Wg j0 j rr t/\j<Kp.bd
def Nb:Prop:=∀(x:Lone) (G:Goroutine) (W:World) (fr:Frame) (cs:List Frame),x.g=bQ P fA #[Hj wl,.int .i64 1] fr cs->ew fr->x.T=T->x.β wl Wg->Ch P SB BB lets x G->D6 P SB lets Gn x W->WgLive ty Wg W ->
 ∃gR m,GW P.b ty Wg true (AKd P.b ty Wg (λg _=>g=gR)) m G W/\Ch P SB BB lets { x with g:=back fr cs } gR
def jh:Prop:=∀(x:Lone) (G:Goroutine) (W:World) (fr:Frame) (cs:List Frame),x.g=bQ P fW #[Hj wl] fr cs->ew fr->x.T=T->x.β wl Wg->Ch P SB BB lets x G->D6 P SB lets Gn x W->WgLive ty Wg W ->
 ∃gR m Ey,GW P.b ty Wg true (WKd P.b ty Wg Ey) m G W/\gI P ty Wg Ey gR/\Ch P SB BB lets { x with g:=back fr cs } gR
end
section
variable {P:Bw} {SB BB:FuncId->Bool} {lets:Bool} {Gn:Nat} {ty Wg:Nat} {Dead Toy:Nat->Prop} {Kp:Fg} {Ψ0 Ψ2:World->Prop} {fA fW:FuncId} {wl:Nat} {Pr:Bc} {T:List Frame} {Fn:Bool->Hid->Goroutine->World->Prop}
 {j0 j:Nat} {gs:Array Goroutine} {W W':World} {t:Trace} {D:Nat->WD} {M:Nat->Wm} {O:Nat->Bool} {L:Nat->Option Lone} {ts ts':TS} {rr:Nat->Nat} {st sm GK Hz:Int} {a a':Goroutine}
 {tag tag':CTag} {d0:Nat} {pre pre':Pre} {rk ME:Nat->Nat} {fu MF:Nat} {x:Lone} {sl:Option (Nat×Nat)}
def Stepped (P:Bw)(SB BB:FuncId->Bool)(lets:Bool)(Gn:Nat)(ty Wg:Nat)(Dead Toy:Nat->Prop)(Kp:Fg)(Ψ0 Ψ2:World->Prop)(fA fW:FuncId)(wl:Nat)(Pr:Bc)(T:List Frame)(Fn:Bool->Hid->Goroutine->World->Prop)(j0:Nat)(μ:Mu)(gs:Array Goroutine)(W:World)(sl:Option (Nat×Nat))(t:Trace):Prop :=
 ∃m' ops JX,runT P.b (crowd gs W sl) 0=(.next m',ops)/\UC P.a JX μ/\NV P SB BB lets Gn ty Wg Dead Toy Kp Ψ0 Ψ2 fA fW wl Pr T Fn j0 JX m' (t++ops)
def Acq.app {u:Trace}(h:Acq Wg j0 j rr t):Acq Wg j0 j rr (t++u):=by
 obtain⟨q,h1,h2,h3,h4⟩:=h;have hq:=lt_of_act? h1;exact⟨q,by rw[act?_old hq];exact h1,by rw[g?_old hq];exact h2,(heard_old hq).2 h3,h4⟩
def MI.book (h:MI P SB BB lets Gn ty Wg Dead Toy Kp Ψ0 Ψ2 fA fW wl Pr T Fn j0 pre j gs W t D M O L ts rr st sm tag d0 rk fu x a)(tz:ao Toy Ψ0)(CJ:ao Toy Ψ2){es:Array Event}(hgo:stepG P.b true a W=.go a' W' es)(Mx:Aside Wg W W')(CG:WgAt ty Wg W' GK Hz)(F4:∀e∈es,gb Wg e)
  (hs:DD P SB BB lets Gn ty Wg Toy Ψ0 Ψ2 fA fW wl Pr T Fn tag' (deafBehind d0 es) pre' ME MF x ts.tp a' W') (Bj:ConcN.Mode j D tag' GK Hz) (VY:tag'=.ret->Acq Wg j0 j rr (t++MemOp.ofEvents 0 a.frame.fn a.frame.place es)) (hb:pre'.1<=pre.1)
  (hlt:PK P.a pre' pre\/(pre'=pre/\ZL (ME (Vc j D),MF) (rk (Vc j D),fu))):Stepped P SB BB lets Gn ty Wg Dead Toy Kp Ψ0 Ψ2 fA fW wl Pr T Fn j0 (pre,(List.range j).map M,(rk (Vc j D),fu)) gs W sl t:=by
 have JH:=h.bd;refine⟨_,_,(pre',(List.range j).map M,(ME (Vc j D),MF)),runT_crowd_go (P:=P.b) (sl:=sl) (i:=0) h.a0 (by simpa using hgo),?_,j,_,W',sl,D,M,O,L,ts,rr,GK,Hz,tag',deafBehind d0 es,ME,MF,x,a',rfl,⟨h.wi.book0 tz CJ Mx CG F4,hs,h.L0,get_map_set_same _ _ _ (by rw[h.wi.size];omega),by rw[Deaf_own,h.deaf],Bj,VY,(by show j+pre'.1<Kp.bd/\_;omega)⟩,rfl⟩;rcases hlt with h1|⟨rfl,h1⟩
 .exact Prod.Lex.left _ _ h1
 .exact Prod.Lex.right _ (Prod.Lex.right _ h1)
def Ef {Wg:Nat}:∀e∈(#[]:Array Event),gb Wg e:=by simp
def UD {Wg:Nat}:∀e∈#[mk .disable],gb Wg e:=by intro e he;simp at he;subst he;exact .inl (.inl rfl)
def ZM {Wg:Nat}:∀e∈#[mk .enable],gb Wg e:=by intro e he;simp at he;subst he;exact .inl (.inr (.inl rfl))
def NW {Wg:Nat}:∀e∈#[rd (stA Wg)],gb Wg e:=by intro e he;simp at he;subst he;exact .inl (bk_cell _ _ rfl)
def VZ {Wg:Nat}:∀e∈#[rd (stA Wg),wr (stA Wg)],gb Wg e:=by intro e he;simp at he;rcases he with rfl|rfl<;>exact .inl (bk_cell _ _ rfl)
def ZN {Wg:Nat}:∀e∈semEvents (smA Wg),gb Wg e:=by
 intro e he;simp[semEvents] at he;rcases he with rfl|rfl|rfl|rfl
 .exact .inl (.inl rfl)
 .exact .inl (bk_cell _ _ rfl)
 .exact .inl (bk_cell _ _ rfl)
 .exact .inl (.inr (.inl rfl))
def lF {Wg:Nat}:(∀e∈#[mk (.read (smA Wg))],gb Wg e)/\(∀e∈#[mk (.write (smA Wg))],gb Wg e)/\∀e∈#[mk (.acquire (stA Wg))],gb Wg e:=by
 refine⟨λe he=>?_,λe he=>?_,λe he=>?_⟩<;>simp at he<;>subst he
 .exact .inr ⟨_,rfl,.inl rfl⟩
 .exact .inr ⟨_,rfl,.inr (.inl rfl)⟩
 .exact .inr ⟨_,rfl,.inr (.inr rfl)⟩
def Lk {p:Program}{k q q':Nat}{w w':Wm}(h:q<q'):PK p (k,q,w) (k,q',w'):=Prod.Lex.right _ (Prod.Lex.left _ _ h)
def fw {p:Program}{k q m m':Nat}(h:m<m'):PK p (k,q,.st 0 m) (k,q,.st 0 m'):=Prod.Lex.right _ (Prod.Lex.right _ ⟨.fuel h,Ad p _ _⟩)
def Em {r r' f f':Nat}(h:r<r'):ZL (r,f) (r',f'):=Prod.Lex.left _ _ h
def bY {r f f':Nat}(h:f<f'):ZL (r,f) (r,f'):=Prod.Lex.right _ h
def Nc (tz:ao Toy Ψ0)(CJ:ao Toy Ψ2)(h:MI P SB BB lets Gn ty Wg Dead Toy Kp Ψ0 Ψ2 fA fW wl Pr T Fn j0 pre j gs W t D M O L ts rr st sm tag d0 rk fu x a)(hrun:a.status=.running)(hp:pre.2.1≠9/\pre.2.1≠3/\pre.2.1≠4) :
  Lj P SB BB lets Gn ty Wg Dead Toy Kp Ψ0 Ψ2 Pr T Fn j0 (crowd gs W sl) t\/Stepped P SB BB lets Gn ty Wg Dead Toy Kp Ψ0 Ψ2 fA fW wl Pr T Fn j0 (pre,(List.range j).map M,(rk (Vc j D),fu)) gs W sl t:=by
 have Bj:=h.mode;have CG:=h.wi.wg;have JH:=h.bd;have hV:=Vc_le j D;have Tl:=h.Yf;have nr:tag≠.ret->∀u:Trace,tag=.ret->Acq Wg j0 j rr (t++u):=λh _ e=>absurd e h;cases Tl with
 |free _ _ _ _=>exact absurd rfl hp.1
 |mid _=>exact absurd rfl hp.2.1
 |Je _ _=>exact absurd rfl hp.2.2
 |Yb hk hr =>
  rcases Goes.cases hk with BD|⟨m',rfl,hstep⟩
  .obtain⟨_,a',hgo,m₂,Eo⟩:=BD W (RL.refl W);exact .inr (h.book tz CJ hgo (.refl Wg W) CG UD (.Yc Eo hr) (Bj.reopen trivial trivial rfl (by simp)) (by simp) (xp _) (.inl (Lk (by omega))))
  .obtain⟨a',w',es,hgo,⟨rfl,rfl⟩,Dd⟩:=hstep W (RL.refl W);exact .inr (h.book tz CJ hgo (.refl Wg w') CG Ef (.Yb Dd hr) Bj (by simp) (xp _) (.inl (fw (by omega))))
 |Yc hk hr =>
  rcases Goes.cases hk with BD|⟨m',rfl,hstep⟩
  .obtain⟨_,hall⟩:=BD W (RL.refl W);obtain⟨ho,rfl,rfl,_⟩:=Bj.open_inv trivial;obtain⟨a',hgo,h0,h1⟩:=hall (Vc j D) (by omega) (by simpa [pend] using CG);have hm:ConcN.Mode j D (.sp 0 3) ((((Vc j D:Nat):Int)+1)*KK) 0:=by
    have e:(((Vc j D:Nat):Int)+1)*KK=((Vc j D+pend (.sp 0 3):Nat):Int)*KK:=by simp[pend]
    rw[e];exact .opn trivial ho (by simp)
   by_cases hv:Vc j D=0
   .obtain⟨m₂,Eo⟩:=h0 hv;exact .inr (h.book tz CJ hgo (aside_setCell W (stA Wg) _) (CG.setSt _) VZ (.arr Eo hr) hm (by simp) (xp _) (.inl (Lk (by omega))))
   .obtain⟨m₂,Eo⟩:=h1 hv;exact .inr (h.book tz CJ hgo (aside_setCell W (stA Wg) _) (CG.setSt _) VZ (.VX Eo hr) hm (by simp) (xp _) (.inl (Lk (by omega))))
  .obtain⟨a',w',es,hgo,⟨rfl,rfl⟩,Dd⟩:=hstep W (RL.refl W);exact .inr (h.book tz CJ hgo (.refl Wg w') CG Ef (.Yc Dd hr) Bj (by simp) (xp _) (.inl (fw (by omega))))
 |arr hk hr =>
  rcases Goes.cases hk with BD|⟨m',rfl,hstep⟩
  .obtain⟨_,a',hgo,m₂,Eo⟩:=BD W (RL.refl W);exact .inr (h.book tz CJ hgo (.refl Wg W) CG lF.1 (.VX Eo hr) (Bj.reopen trivial trivial rfl (by simp)) (by simp) (xp _) (.inl (Lk (by omega))))
  .obtain⟨a',w',es,hgo,⟨rfl,rfl⟩,Dd⟩:=hstep W (RL.refl W);exact .inr (h.book tz CJ hgo (.refl Wg w') CG Ef (.arr Dd hr) Bj (by simp) (xp _) (.inl (fw (by omega))))
 |VX hk hr =>
  rcases Goes.cases hk with BD|⟨m',rfl,hstep⟩
  .obtain⟨_,a',hgo,m₂,Eo⟩:=BD W (RL.refl W);exact .inr (h.book tz CJ hgo (.refl Wg W) CG ZM (.Je Eo hr) (Bj.reopen trivial trivial rfl (by simp)) (by simp) (xp _) (.inl (Lk (by omega))))
  .obtain⟨a',w',es,hgo,⟨rfl,rfl⟩,Dd⟩:=hstep W (RL.refl W);exact .inr (h.book tz CJ hgo (.refl Wg w') CG Ef (.VX Dd hr) Bj (by simp) (xp _) (.inl (fw (by omega))))
 |Yd hk hf hA =>
  rcases Goes.cases hk with BD|⟨m',rfl,hstep⟩
  .obtain⟨_,a',hgo,m₂,Eo⟩:=BD W (RL.refl W);exact .inr (h.book tz CJ hgo (.refl Wg W) CG UD (.anch Eo hf hA) (Bj.reopen trivial trivial rfl (by simp)) (by simp) (xp _) (.inr ⟨rfl,Em (by omega)⟩))
  .obtain⟨a',w',es,hgo,⟨rfl,rfl⟩,Dd⟩:=hstep W (RL.refl W);exact .inr (h.book tz CJ hgo (.refl Wg w') CG Ef (.Yd Dd hf hA) Bj (by simp) (xp _) (.inr ⟨rfl,bY (by omega)⟩))
 |anch hk hf hA =>
  rcases Goes.cases hk with BD|⟨m',rfl,hstep⟩
  .obtain⟨_,m₂,hk2⟩:=hA a W (BD W (RL.refl W));rcases Goes.cases hk2 with BD|⟨m',rfl,hstep⟩
   .obtain⟨_,hall⟩:=BD W (RL.refl W);obtain⟨ho,rfl,rfl,_⟩:=Bj.open_inv trivial;obtain⟨a',hgo,h0,h1⟩:=hall (Vc j D) (by omega) (by simpa [pend] using CG);by_cases hv:Vc j D=0
    .obtain⟨m₂,Eo⟩:=h0 hv;refine .inr (h.book tz CJ hgo (.refl Wg W) CG NW (tag':=.ke) (.UA Eo hf) ?_ (by simp) (xp _) (.inr ⟨rfl,Em (by omega)⟩));have e:((Vc j D+pend .anch:Nat):Int)*KK=0:=by rw[hv];simp[pend]
     rw[e];exact .fin trivial (allQuit_of ho hv)
    .obtain⟨m₂,Eo⟩:=h1 hv;exact .inr (h.book tz CJ hgo (.refl Wg W) CG NW (tag':=.w2 (Vc j D)) (.w2 Eo hf hA) (Bj.reopen trivial trivial rfl (λvs e=>by cases e;omega)) (by simp) (xp _) (.inr ⟨rfl,Em (by omega)⟩))
   .obtain⟨a',w',es,hgo,⟨rfl,rfl⟩,Dd⟩:=hstep W (RL.refl W);exact .inr (h.book tz CJ hgo (.refl Wg w') CG Ef (.w1 Dd hf hA) (Bj.reopen trivial trivial rfl (by simp)) (by simp) (xp _) (.inr ⟨rfl,Em (by omega)⟩))
  .obtain⟨a',w',es,hgo,⟨rfl,rfl⟩,Dd⟩:=hstep W (RL.refl W);exact .inr (h.book tz CJ hgo (.refl Wg w') CG Ef (.anch Dd hf hA) Bj (by simp) (xp _) (.inr ⟨rfl,bY (by omega)⟩))
 |w1 hk hf hA =>
  rcases Goes.cases hk with BD|⟨m',rfl,hstep⟩
  .obtain⟨_,hall⟩:=BD W (RL.refl W);obtain⟨ho,rfl,rfl,_⟩:=Bj.open_inv trivial;obtain⟨a',hgo,h0,h1⟩:=hall (Vc j D) (by omega) (by simpa [pend] using CG);by_cases hv:Vc j D=0
   .obtain⟨m₂,Eo⟩:=h0 hv;refine .inr (h.book tz CJ hgo (.refl Wg W) CG NW (tag':=.ke) (.UA Eo hf) ?_ (by simp) (xp _) (.inr ⟨rfl,Em (by omega)⟩));have e:((Vc j D+pend .w1:Nat):Int)*KK=0:=by rw[hv];simp[pend]
    rw[e];exact .fin trivial (allQuit_of ho hv)
   .obtain⟨m₂,Eo⟩:=h1 hv;exact .inr (h.book tz CJ hgo (.refl Wg W) CG NW (tag':=.w2 (Vc j D)) (.w2 Eo hf hA) (Bj.reopen trivial trivial rfl (λvs e=>by cases e;omega)) (by simp) (xp _) (.inr ⟨rfl,Em (by omega)⟩))
  .obtain⟨a',w',es,hgo,⟨rfl,rfl⟩,Dd⟩:=hstep W (RL.refl W);exact .inr (h.book tz CJ hgo (.refl Wg w') CG Ef (.w1 Dd hf hA) Bj (by simp) (xp _) (.inr ⟨rfl,bY (by omega)⟩))
 |w2 hk hf hA =>
  rename_i k vs gR Ey;rcases Goes.cases hk with BD|⟨m',rfl,hstep⟩
  .obtain⟨_,hall⟩:=BD W (RL.refl W);obtain⟨ho,rfl,rfl,hw2⟩:=Bj.open_inv trivial;obtain⟨hle,h1⟩:=hw2 vs rfl;obtain⟨aeM,ZO⟩:=hall (Vc j D) (by omega) (by simpa [pend] using CG);by_cases e:Vc j D=vs
   .obtain⟨a',hgo,m₂,Eo⟩:=aeM e;exact .inr (h.book tz CJ hgo (aside_setCell W (stA Wg) _) (CG.setSt _) VZ (.Ye Eo hf) (.reg trivial ho (by omega)) (by simp) (xp _) (.inr ⟨rfl,Em (by omega)⟩))
   .obtain⟨a',hgo,m₂,Eo⟩:=ZO e;exact .inr (h.book tz CJ hgo (.refl Wg W) CG NW (.anch Eo hf hA) (Bj.reopen trivial trivial rfl (by simp)) (by simp) (xp _) (.inr ⟨rfl,Em (by omega)⟩))
  .obtain⟨a',w',es,hgo,⟨rfl,rfl⟩,Dd⟩:=hstep W (RL.refl W);exact .inr (h.book tz CJ hgo (.refl Wg w') CG Ef (.w2 Dd hf hA) Bj (by simp) (xp _) (.inr ⟨rfl,bY (by omega)⟩))
 |Ye hk hf =>
  rcases Goes.cases hk with BD|⟨m',rfl,hstep⟩
  .obtain⟨_,a',hgo,m₂,Eo⟩:=BD W (RL.refl W);exact .inr (h.book tz CJ hgo (.refl Wg W) CG lF.2.1 (.w3 Eo hf) Bj (by simp) (xp _) (.inr ⟨rfl,Em (by omega)⟩))
  .obtain⟨a',w',es,hgo,⟨rfl,rfl⟩,Dd⟩:=hstep W (RL.refl W);exact .inr (h.book tz CJ hgo (.refl Wg w') CG Ef (.Ye Dd hf) Bj (by simp) (xp _) (.inr ⟨rfl,bY (by omega)⟩))
 |w3 hk hf =>
  rcases Goes.cases hk with BD|⟨m',rfl,hstep⟩
  .obtain⟨_,Fq,hblk,PL⟩:=BD W (RL.refl W);cases Bj with
   |opn h1 _ _=>exact h1.elim
   |reg h1 h2 h3=>exact .inr (h.book tz CJ (hblk ⟨_,CG⟩) (.refl Wg W) CG Ef (.blk BD hf) (.reg trivial h2 h3) (by simp) (xp _) (.inr ⟨rfl,bY (by omega)⟩))
   |last Lx h1 h2 h3 h4=>exact .inr (h.book tz CJ (hblk ⟨_,CG⟩) (.refl Wg W) CG Ef (.blk BD hf) (.last Lx trivial h2 h3 h4) (by simp) (xp _) (.inr ⟨rfl,bY (by omega)⟩))
   |sema h2 =>
    obtain⟨a',hgo,m₂,Eo⟩:=PL CG
    refine .inr (h.book tz CJ hgo (aside_setCell W (smA Wg) _) (CG.setSm 0) ZN (tag':=.w4) (by
     have:deafBehind 1 (semEvents (smA Wg))=1:=by simp[deafBehind,semEvents]
     rw[this];exact .w4 Eo hf) (.fin trivial h2) (by simp) (xp _) (.inr ⟨rfl,Em (by omega)⟩))
   |fin h1 _=>exact h1.elim
  .obtain⟨a',w',es,hgo,⟨rfl,rfl⟩,Dd⟩:=hstep W (RL.refl W);exact .inr (h.book tz CJ hgo (.refl Wg w') CG Ef (.w3 Dd hf) Bj (by simp) (xp _) (.inr ⟨rfl,bY (by omega)⟩))
 |blk _ _=>simp at hrun
 |w4 hk hf =>
  rcases Goes.cases hk with BD|⟨m',rfl,hstep⟩
  .obtain⟨_,hx⟩:=BD W (RL.refl W);obtain⟨hq,rfl,rfl⟩:=Bj.fin_inv trivial;obtain⟨a',hgo,m₂,Eo⟩:=hx CG;exact .inr (h.book tz CJ hgo (.refl Wg W) CG NW (.UA Eo hf) (.fin trivial hq) (by simp) (xp _) (.inr ⟨rfl,Em (by omega)⟩))
  .obtain⟨a',w',es,hgo,⟨rfl,rfl⟩,Dd⟩:=hstep W (RL.refl W);exact .inr (h.book tz CJ hgo (.refl Wg w') CG Ef (.w4 Dd hf) Bj (by simp) (xp _) (.inr ⟨rfl,bY (by omega)⟩))
 |UA hk hf =>
  rcases Goes.cases hk with BD|⟨m',rfl,hstep⟩
  .obtain⟨_,a',hgo,m₂,Eo⟩:=BD W (RL.refl W);obtain⟨hq,rfl,rfl⟩:=Bj.fin_inv trivial;exact .inr (h.book tz CJ hgo (.refl Wg W) CG ZM (.NU Eo hf) (.fin trivial hq) (by simp) (xp _) (.inr ⟨rfl,Em (by omega)⟩))
  .obtain⟨a',w',es,hgo,⟨rfl,rfl⟩,Dd⟩:=hstep W (RL.refl W);exact .inr (h.book tz CJ hgo (.refl Wg w') CG Ef (.UA Dd hf) Bj (by simp) (xp _) (.inr ⟨rfl,bY (by omega)⟩))
 |NU hk hf =>
  rcases Goes.cases hk with BD|⟨m',rfl,hstep⟩
  .obtain⟨_,a',hgo,m₂,Eo⟩:=BD W (RL.refl W);obtain⟨hq,rfl,rfl⟩:=Bj.fin_inv trivial;refine .inr (h.book tz CJ hgo (.refl Wg W) CG lF.2.2 (.fin Eo hf) (.fin trivial hq) (λ_=>?_) (xp _) (.inr ⟨rfl,Em (by omega)⟩));have e1:MemOp.ofEvents 0 a.frame.fn a.frame.place #[mk (.acquire (stA Wg))]=#[{ g:=0,fn:=a.frame.fn,pos:=a.frame.place,act:=.mark (.acquire (stA Wg)) }]:=by rw[ofEvents_eq];simp[ofEvent_mk]
   have hy:(t++#[({ g:=0,fn:=a.frame.fn,pos:=a.frame.place,act:=.mark (.acquire (stA Wg)) }:MemOp)])[t.size]?=some { g:=0,fn:=a.frame.fn,pos:=a.frame.place,act:=.mark (.acquire (stA Wg)) }:=by simp
   refine⟨t.size,by rw[e1,act?_of hy],by rw[e1];simp[Trace.g?],by rw[e1];exact⟨0,by simp[Trace.g?],by rw[deaf_old (xp _)];exact h.deaf⟩,λi h0 hi=>?_⟩;exact lt_of_act? (h.wi.rel i h0 hi (by rw[hq i hi];omega)).act
  .obtain⟨a',w',es,hgo,⟨rfl,rfl⟩,Dd⟩:=hstep W (RL.refl W);exact .inr (h.book tz CJ hgo (.refl Wg w') CG Ef (.NU Dd hf) Bj (by simp) (xp _) (.inr ⟨rfl,bY (by omega)⟩))
 |fin hk hf =>
  obtain⟨hq,rfl,rfl⟩:=Bj.fin_inv trivial;rcases Goes.cases hk with BD|⟨m',rfl,hstep⟩
  .have e:=BD W (RL.refl W);subst e;exact .inl ⟨j,gs,W,sl,D,M,O,L,ts,rr,0,0,x,a,rfl,h.wi,hf,h.L0,h.a0,h.deaf,hq,h.acq rfl,by have:=h.bd;omega⟩
  .obtain⟨a',w',es,hgo,⟨rfl,rfl⟩,Dd⟩:=hstep W (RL.refl W);exact .inr (h.book tz CJ hgo (.refl Wg w') CG Ef (.fin Dd hf) Bj (λ_=>(h.acq rfl).app) (xp _) (.inr ⟨rfl,bY (by omega)⟩))
end
end Go.Co
