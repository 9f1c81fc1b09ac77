/- Parts of the proof. -/
import Derived.Test.YtjcgijifamcggaaGreatP03
import Derived.Test.YtjcgijifamcggaaGreatP00
set_option linter.all false
set_option maxHeartbeats 4000000
namespace Go.Bl
section
variable {P:Bw} {S:CF} {Ck:Code->Prop} {G:Nat} {β:Bc}
def Fv {t:TypeId}(h:EK P.a t=true):(∃k,P.a.underlying t=some (.int k))\/P.a.underlying t=some .bool\/P.a.underlying t=some .string:=by
 unfold EK at h;cases hd:P.a.underlying t with
 |none=>rw[hd] at h;cases h
 |some d =>
  rw[hd] at h;cases d with
  |int k=>exact .inl ⟨k,rfl⟩
  |bool=>exact .inr (.inl rfl)
  |string=>exact .inr (.inr rfl)
  |_=>cases h
def kg (hG:P.a.globals.size<=G)(m:Nat){t:TypeId}(h:EK P.a t=true){v V x X:Value}(hv:AO S β v V)(hx:AO S β x X):AX P S Ck G β (Op.equalIn (m+1) t v x) (Op.equalIn (m+1) t V X) (λ_ a A=>a=A):=by
 unfold Op.equalIn;refine AJ (aj _) ?_;rintro Cp d _ hle ⟨rfl,hd⟩;replace hv:=hv.mono hle;replace hx:=hx.mono hle;rcases Fv h with⟨k,e⟩|e|e
 .rw[e] at hd;cases hd;cases hv with
  |int k a=>cases hx with
   |int k' b =>
    dsimp only;split
    .exact AL rfl
    .exact AR
   |ptr o s hb =>
    by_cases h0:a=0
    .subst h0;exact AL rfl
    .refine E1 λw es=>⟨.addressObserved,w,es,?_,by intro g e;cases e⟩;cases a with
     |ofNat n=>cases n with
      |zero=>exact absurd rfl h0
      |succ n=>rfl
     |negSucc n=>rfl
   |EI=>exact E1 λw es=>⟨.addressObserved,w,es,rfl,by intro g e;cases e⟩
   |_=>exact AR
  |ptr o s hb=>cases hx with
   |int k' b =>
    by_cases h0:b=0
    .subst h0;exact AL rfl
    .refine E1 λw es=>⟨.addressObserved,w,es,?_,by intro g e;cases e⟩;cases b with
     |ofNat n=>cases n with
      |zero=>exact absurd rfl h0
      |succ n=>rfl
     |negSucc n=>rfl
   |ptr o' s' hb' =>
    have h1:BZ Cp ⟨_,o,s⟩ ⟨_,o,s⟩:=BZ.mk hb rfl rfl;have h2:BZ Cp ⟨_,o',s'⟩ ⟨_,o',s'⟩:=BZ.mk hb' rfl rfl;refine AJ (cT h1) ?_;rintro Cb ⟨p,_⟩ ⟨p',_⟩ BM ⟨hp,_⟩;refine AJ (cT (h2.mono BM)) ?_;rintro Dh ⟨q,_⟩ ⟨q',_⟩ BR ⟨hq,_⟩;intro w W n hw ht Ce Cm JH;have hp:=hp.mono BR;have l1:G<=p.block/\G<=p'.block:=(hw.Cn.lo hp.block);have l2:G<=q.block/\G<=q'.block:=(hw.Cn.lo hq.block)
    clear BR;have e1:(p==q)=(p'==q'):=by
     obtain⟨b,o,s⟩:=p;obtain⟨B,O,t'⟩:=p';obtain⟨b',o',s'⟩:=q;obtain⟨B',O',t''⟩:=q';obtain⟨a1,a2,a3⟩:=hp;obtain⟨b1,b2,b3⟩:=hq;cases a2;cases a3;cases b2;cases b3;rw[Bool.eq_iff_iff];simp only[beq_iff_eq,Addr.mk.injEq];constructor
     .rintro⟨rfl,r⟩;exact⟨hw.Cn.fn a1 b1,r⟩
     .rintro⟨rfl,r⟩;exact⟨hw.Cn.inj a1 b1,r⟩
    refine(?_:AX P S Ck G Dh _ _ _) w W n hw ht Ce Cm JH;clear JH Ce Cm ht n;refine AJ aL ?_;rintro I0 pr pr' Fb ⟨hpr,hpr'⟩;subst pr pr';have n1:¬(p.block==q.block&&decide (p.block<P.a.globals.size))=true:=by simp only[xG,beq_iff_eq,decide_eq_true_eq];omega
    have n2:¬(p'.block==q'.block&&decide (p'.block<P.b.globals.size))=true:=by rw[show P.b.globals=P.a.globals from rfl];simp only[xG,beq_iff_eq,decide_eq_true_eq];omega
    simp only[if_neg n1,if_neg n2];refine AJ (aZ _) ?_;rintro JQ i _ Fc ⟨rfl,_⟩;split
    .rw[e1];split
     .exact AL rfl
     .exact AV (by intro g e;cases e)
    .exact AV (by intro g e;cases e)
   |_=>exact E1 λw es=>⟨.addressObserved,w,es,rfl,by intro g e;cases e⟩
  |EI=>cases hx<;>exact E1 λw es=>⟨.addressObserved,w,es,rfl,by intro g e;cases e⟩
  |_=>cases hx<;>first|exact AR|exact E1 λw es=>⟨.addressObserved,w,es,rfl,by intro g e;cases e⟩
 .rw[e] at hd;cases hd;cases hv with
  |bool a=>cases hx with
   |bool b=>exact AL rfl
   |_=>exact AR
  |_=>exact AR
 .rw[e] at hd;cases hd;cases hv with
  |string a=>cases hx with
   |string b=>exact AL rfl
   |_=>exact AR
  |_=>exact AR
def lk (hG:P.a.globals.size<=G){t:TypeId}(h:EK P.a t=true){v V x X:Value}(hv:AO S β v V)(hx:AO S β x X):AX P S Ck G β (Op.equal t v x) (Op.equal t V X) (λ_ a A=>a=A) :=
 kg hG 9999 h hv hx
def mY {m:Sem Value}(h:(∃v,(∀(S:CF) (β:Bc),AO S β v v)/\m=pure v)\/(∃s,m=stuck s)\/(∃u,m=unsupported u/\∀g,u≠.initOrder g)\/(∃s,m=runtimePanic (.error s))) :
  AX P S Ck G β m m (λAQ a A=>AO S AQ a A):=by
 rcases h with⟨v,h,rfl⟩|⟨s,rfl⟩|⟨u,rfl,h⟩|⟨s,rfl⟩
 .exact AL (h _ _)
 .exact AR
 .exact AV h
 .exact au _ trivial
def Gv (op:BinOp)(t:TypeId)(k k':IntKind)(a b:Int):AX P S Ck G β (binOp op t (.int k a) (.int k' b)) (binOp op t (.int k a) (.int k' b)) (λAQ a A=>AO S AQ a A):=by
  refine mY ?_;have iv:∀(k:IntKind) (n:Int),(∀(S:CF) (β:Bc),AO S β (.int k n) (.int k n)):=λk n _ _=>.int _ _;have bv:∀(b:Bool),(∀(S:CF) (β:Bc),AO S β (.bool b) (.bool b)):=λb _ _=>.bool _;cases op with
  | shl => unfold binOp Op.shift; dsimp only; split
           · exact .inr (.inr (.inr ⟨_, rfl⟩))
           · exact .inl ⟨_,iv _ _,rfl⟩
  | shr => unfold binOp Op.shift; dsimp only; split
           · exact .inr (.inr (.inr ⟨_, rfl⟩))
           · exact .inl ⟨_,iv _ _,rfl⟩
  | quo => unfold binOp Op.intDiv; dsimp only; split
           · exact .inr (.inl ⟨_, rfl⟩)
           · split
             · exact .inr (.inr (.inr ⟨_, rfl⟩))
             · exact .inl ⟨_,iv _ _,rfl⟩
  | rem => unfold binOp Op.intDiv; dsimp only; split
           · exact .inr (.inl ⟨_, rfl⟩)
           · split
             · exact .inr (.inr (.inr ⟨_, rfl⟩))
             · exact .inl ⟨_,iv _ _,rfl⟩
  |add|sub|mul|and|or|xor|andNot =>
    unfold binOp;dsimp only;split
    · exact .inr (.inl ⟨_,rfl⟩)
    · exact .inl ⟨_,iv _ _,rfl⟩
  |eql|neq|lss|leq|gtr|geq =>
    unfold binOp;dsimp only;split
    · exact .inr (.inl ⟨_,rfl⟩)
    · exact .inl ⟨_,bv _,rfl⟩
def eY (op:BinOp)(x y:ByteArray):AX P S Ck G β (Op.stringOp op x y) (Op.stringOp op x y) (λAQ a A=>AO S AQ a A):=by
  refine mY ?_;have bv:∀(b:Bool),(∀(S:CF) (β:Bc),AO S β (.bool b) (.bool b)):=λb _ _=>.bool _;cases op with
  | add => unfold Op.stringOp; dsimp only; split
           · exact .inr (.inr (.inl ⟨_, rfl, by intro g e; cases e⟩))
           · exact .inl ⟨_,λ_ _=>.string _,rfl⟩
  |eql|neq|lss|leq|gtr|geq=>exact .inl ⟨_,bv _,rfl⟩
  |_=>exact .inr (.inl ⟨_,rfl⟩)
def kh {t:TypeId}(h:EK P.a t=true){v V x X:Value}(hv:AO S β v V)(hx:AO S β x X):AX P S Ck G β (do if(<-underlying t) matches .unsafePointer then movedPointer t v x else movedNumber t v x) (do if(<-underlying t) matches .unsafePointer then movedPointer t V X else movedNumber t V X) (λAQ a A=>AO S AQ a A):=by
 refine AJ (aj _) ?_;rintro Cp d _ hle ⟨rfl,hd⟩;have:=bP (P:=P) (Ck:=Ck) (G:=G) t (hv.mono hle) (hx.mono hle);rcases Fv h with⟨k,e⟩|e|e<;>(rw[e] at hd;cases hd;exact this)
def gy (hG:P.a.globals.size<=G){a A b B:Addr}(ha:BZ β a A)(hb:BZ β b B)(f F:Nat×Nat->Sem Value):AX P S Ck G β (do let x<-behindNumber a;let y<-behindNumber b;(Op.twoPlaces x.1 y.1) >>= f) (do let x<-behindNumber A;let y<-behindNumber B;(Op.twoPlaces x.1 y.1) >>= F) (λAQ a A=>AO S AQ a A):=by
 refine AJ (cT ha) ?_;rintro Cb ⟨p,_⟩ ⟨p',_⟩ BM ⟨hp,_⟩;refine AJ (cT (hb.mono BM)) ?_;rintro Dh ⟨q,_⟩ ⟨q',_⟩ BR ⟨hq,_⟩;exact AJ (lj hG (hp.mono BR)) (λ_ _ _ _ h=>h.elim)
def Mr (k:IntKind){a A:Addr}(ha:BZ β a A)(n:Int):AX P S Ck G β (do Op.addrMod k (<-behindNumber a).1 n) (do Op.addrMod k (<-behindNumber A).1 n) (λAQ a A=>AO S AQ a A):=by
 refine AJ (cT ha) ?_;rintro Cb ⟨p,_⟩ ⟨p',_⟩ BM ⟨hp,_⟩;exact nT k hp n
def Dead (P:Bw){α:Type}(m:Sem α):Prop:=∀w es,(∃s w' es',m.runT P.a w es=(.halt (.stuck s) w',es'))\/∃u w' es',m.runT P.a w es=(.halt (.unsupported u) w',es')/\∀g,u≠.initOrder g
def DL {α EJ:Type}{m:Sem α}{M:Sem EJ}{R:Bc->α->EJ->Prop}(h:Dead P m):AX P S Ck G β m M R:=by
 intro w W n hw ht Ce Cm hb;rcases h w Ce with⟨s,w',es',e⟩|⟨u,w',es',e,hu⟩
 .rw[e];trivial
 .rw[e];exact hu
def Dead.bind {α γ:Type}{m:Sem α}(h:Dead P m)(k:α->Sem γ):Dead P (m >>= k):=by
 intro w es;rw[ah];rcases h w es with⟨s,w',es',e⟩|⟨u,w',es',e,hu⟩
 .rw[e];exact .inl ⟨s,w',es',rfl⟩
 .rw[e];exact .inr ⟨u,w',es',rfl,hu⟩
def i9 {t:TypeId}(h:EK P.a t=true){v V x X:Value}(hv:AO S β v V)(hx:AO S β x X)(hu:v=hole\/x=hole):Dead P (Op.equal t v x):=by
 intro w es;have hr:∀d,P.a.underlying t=some d->(underlying t).runT P.a w es=(.ok d w,es):=λd e=>by
  unfold underlying;rw[ah];show(match(P.a.underlying t) with|some d=>pure d|none=>stuck _:Sem TypeDesc).runT P.a w es=_;rw[e];rfl
 show(∃s w' es',(Op.equalIn (9999+1) t v x).runT P.a w es=_)\/∃u w' es',(Op.equalIn (9999+1) t v x).runT P.a w es=_/\_;unfold Op.equalIn;rw[ah];rcases Fv h with⟨k,e⟩|e|e<;>rw[hr _ e]<;>rcases hu with rfl|rfl
 .cases hx<;>first|exact .inl ⟨_,_,_,rfl⟩|exact .inr ⟨.addressObserved,_,_,rfl,by intro g e;cases e⟩
 .cases hv<;>first|exact .inl ⟨_,_,_,rfl⟩|exact .inr ⟨.addressObserved,_,_,rfl,by intro g e;cases e⟩
 .cases hx<;>first|exact .inl ⟨_,_,_,rfl⟩|exact .inr ⟨.addressObserved,_,_,rfl,by intro g e;cases e⟩
 .cases hv<;>first|exact .inl ⟨_,_,_,rfl⟩|exact .inr ⟨.addressObserved,_,_,rfl,by intro g e;cases e⟩
 .cases hx<;>first|exact .inl ⟨_,_,_,rfl⟩|exact .inr ⟨.addressObserved,_,_,rfl,by intro g e;cases e⟩
 .cases hv<;>first|exact .inl ⟨_,_,_,rfl⟩|exact .inr ⟨.addressObserved,_,_,rfl,by intro g e;cases e⟩
def binOp_eql {t:TypeId}{V X:Value}(h1:∀k a k' b,V=.int k a->X=.int k' b->False)(h2:∀k a k' b,V=.float k a->X=.float k' b->False)(h3:∀k a b k' c d,V=.complex k a b->X=.complex k' c d->False)(h4:∀a b,V=.string a->X=.string b->False) :
  binOp .eql t V X=(do pure (.bool (<-Op.equal t V X)))/\binOp .neq t V X=(do pure (.bool (!(<-Op.equal t V X)))):=by
 constructor
 all_goals
  rw[binOp.eq_def];split
  all_goals first|contradiction|rfl|(exfalso;first|exact h1 _ _ _ _ rfl rfl|exact h2 _ _ _ _ rfl rfl|exact h3 _ _ _ _ _ _ rfl rfl|exact h4 _ _ rfl rfl)
def rH (hG:P.a.globals.size<=G)(op:BinOp){t:TypeId}(h:EK P.a t=true){v V x X:Value}(hv:AO S β v V)(hx:AO S β x X):AX P S Ck G β (binOp op t v x) (binOp op t V X) (λAQ a A=>AO S AQ a A):=by
 have he:AX P S Ck G β (do pure (.bool (<-Op.equal t v x)):Sem Value) (do pure (.bool (<-Op.equal t V X))) (λAQ a A=>AO S AQ a A) :=
  AJ (lk hG h hv hx) (by rintro Cp b _ _ rfl;exact AL (.bool _))
 have hn:AX P S Ck G β (do pure (.bool (!(<-Op.equal t v x))):Sem Value) (do pure (.bool (!(<-Op.equal t V X)))) (λAQ a A=>AO S AQ a A) :=
  AJ (lk hG h hv hx) (by rintro Cp b _ _ rfl;exact AL (.bool _))
 have mk:∀ {b B:Nat} (o:Nat) (s:Option Nat),β b B->BZ β ⟨b,o,s⟩ ⟨B,o,s⟩:=λo s h=>⟨h,rfl,rfl⟩;rw[binOp.eq_def op t v x];split
 .cases hv;cases hx;exact Gv .shl t _ _ _ _
 .cases hv;cases hx;exact Gv .shr t _ _ _ _
 .rename_i k a k' b n1 n2;cases hv;cases hx;have:=Gv (P:=P) (S:=S) (Ck:=Ck) (G:=G) (β:=β) op t k k' a b;cases op with
  |shl=>exact(n1 rfl).elim
  |shr=>exact(n2 rfl).elim
  |_=>exact this
 .cases hv
 .cases hv
 .cases hv;cases hx
  have e:∀x y,binOp op t (.string x) (.string y)=Op.stringOp op x y:=λx y=>by cases op<;>rfl
  rw[e];exact eY _ _ _
 .rename_i n1 n2 n3 n4;by_cases hu:v=hole\/x=hole
  .exact DL ((i9 h hv hx hu).bind _)
  rw[(binOp_eql (t:=t) (V:=V) (X:=X) ?_ ?_ ?_ ?_).1]
  .exact he
  .rintro k a k' b rfl rfl;cases hv with
   |int=>cases hx with
    |int=>exact n1 _ _ _ _ rfl rfl
    |blank _ _=>exact hu (.inr rfl)
   |blank _ _=>exact hu (.inl rfl)
  .rintro k a k' b rfl rfl;cases hv;exact hu (.inl rfl)
  .rintro k a k' b c d rfl rfl;cases hv;exact hu (.inl rfl)
  .rintro a b rfl rfl;cases hv with
   |string=>cases hx with
    |string=>exact n4 _ _ rfl rfl
    |blank _ _=>exact hu (.inr rfl)
   |blank _ _=>exact hu (.inl rfl)
 .rename_i n1 n2 n3 n4;by_cases hu:v=hole\/x=hole
  .exact DL ((i9 h hv hx hu).bind _)
  rw[(binOp_eql (t:=t) (V:=V) (X:=X) ?_ ?_ ?_ ?_).2]
  .exact hn
  .rintro k a k' b rfl rfl;cases hv with
   |int=>cases hx with
    |int=>exact n1 _ _ _ _ rfl rfl
    |blank _ _=>exact hu (.inr rfl)
   |blank _ _=>exact hu (.inl rfl)
  .rintro k a k' b rfl rfl;cases hv;exact hu (.inl rfl)
  .rintro k a k' b c d rfl rfl;cases hv;exact hu (.inl rfl)
  .rintro a b rfl rfl;cases hv with
   |string=>cases hx with
    |string=>exact n4 _ _ rfl rfl
    |blank _ _=>exact hu (.inr rfl)
   |blank _ _=>exact hu (.inl rfl)
 .cases hx
  cases hv with
  |EI=>exact kh h .EI (.int _ _)
  |ptr o s hb=>exact kh h (.ptr o s hb) (.int _ _)
 .cases hv
  cases hx with
  |EI=>exact bP _ .EI (.int _ _)
  |ptr o s hb=>exact bP _ (.ptr o s hb) (.int _ _)
 .cases hx
  cases hv with
  |EI=>exact bP _ .EI (.int _ _)
  |ptr o s hb=>exact bP _ (.ptr o s hb) (.int _ _)
 .cases hv with
  |ptr o s hb=>cases hx with
   |ptr o' s' hb'=>exact gy hG (mk o s hb) (mk o' s' hb') _ _
 .cases hv with
  |ptr o s hb=>cases hx with
   |ptr o' s' hb'=>exact gy hG (mk o s hb) (mk o' s' hb') _ _
 .cases hv with
  |ptr o s hb=>cases hx with
   |ptr o' s' hb'=>exact gy hG (mk o s hb) (mk o' s' hb') _ _
 .cases hv with
  |ptr o s hb=>cases hx with
   |ptr o' s' hb'=>exact gy hG (mk o s hb) (mk o' s' hb') _ _
 .cases hv with
  |ptr o s hb=>cases hx with
   |ptr o' s' hb'=>exact gy hG (mk o s hb) (mk o' s' hb') _ _
 .cases hv with
  |ptr o s hb=>cases hx;exact Mr _ (mk o s hb) _
 .cases hv with
  |ptr o s hb=>cases hx;exact Mr _ (mk o s hb) _
 .cases hv
  cases hx with
  |ptr o s hb=>exact Mr _ (mk o s hb) _
 .exact AV (u:=.addressObserved) (by intro g e;cases e)
 .exact AV (u:=.addressObserved) (by intro g e;cases e)
 .exact AR
end
inductive Fe (S:CF)(Ck:Code->Prop)(β:Bc):Next->Next->Prop
 |value {v V:Value}:AO S β v V->Fe S Ck β (.value v) (.value V)
 |skip:Fe S Ck β .skip .skip
 |enter {f:FuncId} {a A:Array Value}:S.fn f->AU S β a A->Fe S Ck β (.enter f a) (.enter f A)
 |round {l L:Nat} {f:FuncId} {x X:Array Value} {xi bo:Code}:β l L->S.hid l=false/\S.fr f->AU S β x X->Ck xi->Ck bo->Fe S Ck β (.round l f x xi bo) (.round L f X xi bo)
 |defer {d D:Deferred}:CM S β d D->Fe S Ck β (.defer d) (.defer D)
section
variable {P:Bw} {S:CF} {Ck:Code->Prop} {G:Nat} {β:Bc}
def I9 {p:Program}{t:TypeId}{d:TypeDesc}(e:p.underlying t=some d)(w:World)(es:Array Event):(underlying t).runT p w es=(.ok d w,es):=by
 unfold underlying;rw[ah];have e2:program.runT p w es=(.ok p w,es):=rfl;rw[e2];dsimp only;rw[e]
 rfl
def cN {p:Program}(hp:∀t,p.underlying t=P.a.underlying t){t:TypeId}(h:EK P.a t=true)(n:Nat)(v x:Value)(w:World)(es:Array Event):(Op.eqGuardIn (n+1) t v x).runT p w es=(.ok false w,es):=by
 unfold Op.eqGuardIn;rw[ah];rcases Fv h with⟨k,e⟩|e|e<;>(rw[I9 ((hp t).trans e)];rfl)
def iw {p:Program}(hp:∀t,p.underlying t=P.a.underlying t)(op:BinOp){t:TypeId}(h:EK P.a t=true)(xo yo:Operand)(v x:Value)(w:World)(es:Array Event):(eqGuard op t xo yo v x).runT p w es=(.ok () w,es):=by
  unfold eqGuard;cases op<;>try rfl
  all_goals
    rw[if_neg (by simp)];split
    · cases xo <;> cases yo <;> first
        |rfl
        | (rw [if_neg (by simp), ah, show Op.maxDepth = 9999 + 1 from rfl, cN hp h]
           rfl)
    · rw[ah]
      have e2:program.runT p w es=(.ok p w,es):=rfl;rw[e2];dsimp only;rw[ah,e2];dsimp only;split
      · rfl
      · rw[ah,show Op.maxDepth=9999+1 from rfl,cN hp h]
        rfl
    · rfl
def nU (op:BinOp){t:TypeId}(h:EK P.a t=true)(xo yo:Operand)(v x V X:Value):AX P S Ck G β (eqGuard op t xo yo v x) (eqGuard op t xo yo V X) (λ_ _ _=>True):=by
 intro w W n hw ht Ce Cm hb;rw[iw (λ_=>rfl) op h,iw P.underlying op h];exact⟨β,(),W,[],by simp,trivial,Fin.refl hw⟩
def rI (op:UnOp){v V:Value}(hv:AO S β v V):AX P S Ck G β (Op.unary op v) (Op.unary op V) (λAQ a A=>AO S AQ a A):=by
 cases hv with
 |int k n=>cases op with
  |neg=>exact AL (.int _ _)
  |xor=>exact AL (.int _ _)
  |_=>exact AR
 |bool b=>cases op with
  |not=>exact AL (.bool _)
  |_=>exact AR
 |ptr o s hb=>cases op with
  |neg=>exact AV (u:=.addressObserved) (by intro g e;cases e)
  |xor=>exact AV (u:=.addressObserved) (by intro g e;cases e)
  |_=>exact AR
 |_=>cases op<;>exact AR
def gz (P:Program)(s d:TypeId):Bool:=match P.underlying s,P.underlying d with
 |some (.int _),some (.int _)=>true
 |_,_=>false
def nV {s d:TypeId}(h:gz P.a s d=true){v V:Value}(hv:AO S β v V):AX P S Ck G β (convert s d v) (convert s d V) (λAQ a A=>AO S AQ a A):=by
 refine AJ (aj _) ?_;rintro Cp a _ hle ⟨rfl,h1⟩;refine AJ (aj _) ?_;rintro Cb b _ BM ⟨rfl,h2⟩;unfold gz at h;rw[h1,h2] at h;cases a with
 |int k=>cases b with
  |int k'=>cases hv with
   |int k n=>exact AL (.int _ _)
   |ptr o s hb=>exact AV (u:=.addressObserved) (by intro g e;cases e)
   |_=>exact E1 λw es=>⟨_,w,es,rfl,by intro g e;cases e⟩
  |_=>cases h
 |_=>cases b<;>cases h
def tF {v V x X:Value}(hv:AO S β v V)(hx:AO S β x X):AX P S Ck G β (Builtin.min2 v x) (Builtin.min2 V X) (λAQ a A=>AO S AQ a A):=by
 cases hv with
 |int k n=>cases hx with
  |int k' m=>exact AL (.int _ _)
  |ptr o s hb=>exact AV (u:=.addressObserved) (by intro g e;cases e)
  |_=>exact AR
 |string a=>cases hx with
  |string b =>
   refine AJ (eY _ _ _) ?_;intro Cp c C _ hc;refine AJ (gi hc) ?_;rintro Cb c _ _ rfl;exact AL (.string _)
  |ptr o s hb=>exact AV (u:=.addressObserved) (by intro g e;cases e)
  |_=>exact AR
 |ptr o s hb=>exact AV (u:=.addressObserved) (by intro g e;cases e)
 |_=>cases hx<;>first|exact AR|exact AV (u:=.addressObserved) (by intro g e;cases e)
def tG {v V x X:Value}(hv:AO S β v V)(hx:AO S β x X):AX P S Ck G β (Builtin.max2 v x) (Builtin.max2 V X) (λAQ a A=>AO S AQ a A):=by
 cases hv with
 |int k n=>cases hx with
  |int k' m=>exact AL (.int _ _)
  |ptr o s hb=>exact AV (u:=.addressObserved) (by intro g e;cases e)
  |_=>exact AR
 |string a=>cases hx with
  |string b =>
   refine AJ (eY _ _ _) ?_;intro Cp c C _ hc;refine AJ (gi hc) ?_;rintro Cb c _ _ rfl;exact AL (.string _)
  |ptr o s hb=>exact AV (u:=.addressObserved) (by intro g e;cases e)
  |_=>exact AR
 |ptr o s hb=>exact AV (u:=.addressObserved) (by intro g e;cases e)
 |_=>cases hx<;>first|exact AR|exact AV (u:=.addressObserved) (by intro g e;cases e)
def gC {f:Value->Value->Sem Value}(hf:∀β v V x X,AO S β v V->AO S β x X->AX P S Ck G β (f v x) (f V X) (λAQ a A=>AO S AQ a A)) :
  ∀ {l L:List Value} {v V:Value} {β:Bc},B4 (AO S β) l L->AO S β v V->AX P S Ck G β (l.foldlM f v) (L.foldlM f V) (λAQ a A=>AO S AQ a A)
 |[],_,_,_,_,h,hv=>by cases h;exact AL hv
 |x::l,_,_,_,_,h,hv=>by
  cases h with
  |cons hx hl =>
   simp only[List.foldlM_cons];refine AJ (hf _ _ _ _ _ hv hx) ?_;intro Cp y Y hle hy;exact gC hf (hl.mono λ_ _=>AO.mono hle) hy
def uY (ts:Array TypeId)(t:TypeId){a A:Array Value}(h:AU S β a A):AX P S Ck G β (Builtin.min_ ts t a) (Builtin.min_ ts t A) (λAQ v V=>AO S AQ v V):=by
 unfold Builtin.min_;have:=h.toList;revert this;generalize a.toList=l;generalize A.toList=L;intro hl;cases hl with
 |nil=>exact AR
 |cons hx hl=>exact gC (λβ v V x X=>tF) hl hx
def uZ (ts:Array TypeId)(t:TypeId){a A:Array Value}(h:AU S β a A):AX P S Ck G β (Builtin.max_ ts t a) (Builtin.max_ ts t A) (λAQ v V=>AO S AQ v V):=by
 unfold Builtin.max_;have:=h.toList;revert this;generalize a.toList=l;generalize A.toList=L;intro hl;cases hl with
 |nil=>exact AR
 |cons hx hl=>exact gC (λβ v V x X=>tG) hl hx
end
def bV (P:Program):Nat->TypeId->Bool
 |0,_=>false
 |d+1,t=>EK P t||match P.underlying t with
  |some (.struct fs)=>fs.all λf=>bV P d f.type
  |some (.array _ e)=>bV P d e
  |some (.slice _)=>true
  |_=>false
def Bw.alikeButTags (P:Bw)(d:Nat):P.b.alikeButTags d=P.a.alikeButTags d:=by
 induction d with
 |zero=>rfl
 |succ d ih =>
  funext t u;unfold Program.alikeButTags;rw[ih]
  rfl
def Bw.stoodInHeld (P:Bw)(t:TypeId):P.b.stoodInHeld t=P.a.stoodInHeld t:=by
 unfold Program.stoodInHeld Program.stoodInAs;rw[Bw.alikeButTags,show P.b.depth=P.a.depth from rfl]
 rfl
def Bw.eqGuardType (P:Bw)(d:Nat):P.b.eqGuardType d=P.a.eqGuardType d:=by
 induction d with
 |zero=>rfl
 |succ d ih =>
  funext t;unfold Program.eqGuardType;rw[ih]
  rfl
section
variable {P:Bw} {S:CF} {Ck:Code->Prop} {G:Nat} {β:Bc}
def ei {γ σ:Type}{f F:γ->σ->Sem (ForInStep σ)}:∀(l:List γ) (s:σ) (β:Bc),(∀x∈l,∀s AQ,β.le AQ->AX P S Ck G AQ (f x s) (F x s) (λ_ a A=>a=A)) ->
  AX P S Ck G β (forIn l s f) (forIn l s F) (λ_ a A=>a=A)
 |[],s,β,_=>by
  simp only[List.forIn_nil];exact AL rfl
 |x::l,s,β,h=>by
  simp only[List.forIn_cons];refine AJ (h x (by simp) s β β.le_refl) ?_;rintro Cp a _ hle rfl;cases a with
  |done b=>exact AL rfl
  |yield b=>exact ei l b Cp λy hy s AQ Ph=>h y (by simp[hy]) s AQ (Bc.le_trans hle Ph)
def eZ (hG:P.a.globals.size<=G):∀(n k:Nat) {t:TypeId} (β:Bc),bV P.a k t=true->∀ {v V x X:Value},AO S β v V->AO S β x X->AX P S Ck G β (Op.equalIn n t v x) (Op.equalIn n t V X) (λ_ a A=>a=A)
 |0,_,_,_,_,_,_,_,_,_,_=>AV (by intro g e;cases e)
 |_+1,0,_,_,h,_,_,_,_,_,_=>by cases h
 |n+1,k+1,t,β,h,v,V,x,X,hv,hx=>by
  by_cases hc:EK P.a t=true
  .exact kg hG n hc hv hx
  .unfold bV at h;rw[Bool.eq_false_iff.2 hc,Bool.false_or] at h;unfold Op.equalIn;refine AJ (aj _) ?_;rintro Cp d _ hle ⟨rfl,hd⟩;replace hv:=hv.mono hle;replace hx:=hx.mono hle;rw[hd] at h;cases d with
   |struct fs =>
    simp only[xR] at h;cases hv with
    |agg h1 h2 =>
     cases hx with
     |agg h3 h4 =>
      rename_i a A b B;have ha:AU S Cp a A:=⟨h1,h2⟩;have hb:AU S Cp b B:=⟨h3,h4⟩;refine AJ aL ?_;rintro Cb p p' BM ⟨hp,Zk⟩;subst p p';rw[Bw.stoodInHeld];split
      .exact AJ (R:=λ_ _ _=>False) (AV (by intro g e;cases e)) (λ_ _ _ _ h=>h.elim)
      .refine AJ (R:=λ_ a A=>a=A) ?_ ?_
       .rw[<-zN,<-zN];refine ei _ _ _ λf hf s Dh BR=>?_;split
        .refine AJ (ce _ ((ha.mono BM).mono BR) _) ?_;intro I0 p1 P1 Fb FV;refine AJ (ce _ (((hb.mono BM).mono BR).mono Fb) _) ?_;intro JQ p2 P2 Fc JI;refine AJ (eZ hG n k JQ (h f (by simpa using hf)) (FV.mono Fc) JI) ?_;rintro Ta r _ _ rfl;cases r<;>exact AL rfl
        .exact AL rfl
       .rintro Dh ⟨a,_⟩ _ _ rfl;cases a<;>exact AL rfl
     |_=>exact AR
    |_=>first|exact AR|(cases hx<;>exact AR)
   |array len e =>
    cases hv with
    |agg h1 h2 =>
     cases hx with
     |agg h3 h4 =>
      rename_i a A b B;have ha:AU S Cp a A:=⟨h1,h2⟩;have hb:AU S Cp b B:=⟨h3,h4⟩;refine AJ (aD _) ?_;rintro Cb m _ BM rfl;refine AJ (R:=λ_ a A=>a=A) ?_ ?_
      .simp only[Std.Legacy.Range.forIn_eq_forIn_range'];refine ei _ _ _ λf hf s Dh BR=>?_;refine AJ (ce _ ((ha.mono BM).mono BR) _) ?_;intro I0 p1 P1 Fb FV;refine AJ (ce _ (((hb.mono BM).mono BR).mono Fb) _) ?_;intro JQ p2 P2 Fc JI;refine AJ (eZ hG n k JQ h (FV.mono Fc) JI) ?_;rintro Ta r _ _ rfl;cases r<;>exact AL rfl
      .rintro Dh ⟨a,_⟩ _ _ rfl;cases a<;>exact AL rfl
     |_=>exact AR
    |_=>first|exact AR|(cases hx<;>exact AR)
   |slice e =>
    cases hv with
    |Ei l c=>cases hx<;>first|exact AL rfl|exact AR
    |slice o s l c hb=>cases hx<;>first|exact AL rfl|exact AR
    |Cf _=>cases hx<;>first|exact AL rfl|exact AR
    |_=>first|exact AR|(cases hx<;>exact AR)
   |_=>cases h
def cO:∀(n k:Nat) {t:TypeId} (β:Bc),bV P.a k t=true->∀ {v V x X:Value},AO S β v V->AO S β x X->AX P S Ck G β (Op.eqGuardIn n t v x) (Op.eqGuardIn n t V X) (λ_ a A=>a=A)
 |0,_,_,_,_,_,_,_,_,_,_=>AV (by intro g e;cases e)
 |_+1,0,_,_,h,_,_,_,_,_,_=>by cases h
 |n+1,k+1,t,β,h,v,V,x,X,hv,hx=>by
  by_cases hc:EK P.a t=true
  .intro w W m hw ht Ce Cm hb;rw[cN (P:=P) (λ_=>rfl) hc,cN P.underlying hc];exact⟨β,false,W,[],by simp,rfl,Fin.refl hw⟩
  .unfold bV at h;rw[Bool.eq_false_iff.2 hc,Bool.false_or] at h;unfold Op.eqGuardIn;refine AJ (aj _) ?_;rintro Cp d _ hle ⟨rfl,hd⟩;replace hv:=hv.mono hle;replace hx:=hx.mono hle;rw[hd] at h;cases d with
   |struct fs =>
    simp only[xR] at h;cases hv with
    |agg h1 h2 =>
     cases hx with
     |agg h3 h4 =>
      rename_i a A b B;have ha:AU S Cp a A:=⟨h1,h2⟩;have hb:AU S Cp b B:=⟨h3,h4⟩;refine AJ (R:=λ_ a A=>a=A) ?_ ?_
      .rw[<-zN,<-zN];refine ei _ _ _ λf hf s Dh BR=>?_;split
       .refine AJ (ce _ (ha.mono BR) _) ?_;intro I0 p1 P1 Fb FV;refine AJ (ce _ ((hb.mono BR).mono Fb) _) ?_;intro JQ p2 P2 Fc JI;refine AJ (cO n k JQ (h f (by simpa using hf)) (FV.mono Fc) JI) ?_;rintro Ta r _ _ rfl;cases r<;>exact AL rfl
       .exact AL rfl
      .rintro Dh ⟨a,_⟩ _ _ rfl;cases a<;>exact AL rfl
     |blank _ hX=>cases X<;>first|exact AL rfl|(cases hX;done)
     |_=>exact AL rfl
    |blank _ hV=>cases V<;>first|exact AL rfl|(cases hV;done)|(cases hx<;>exact AL rfl)
    |_=>first|exact AL rfl|(cases hx<;>exact AL rfl)
   |array len e =>
    cases hv with
    |agg h1 h2 =>
     cases hx with
     |agg h3 h4 =>
      rename_i a A b B;have ha:AU S Cp a A:=⟨h1,h2⟩;have hb:AU S Cp b B:=⟨h3,h4⟩;refine AJ (aD _) ?_;rintro Cb m _ BM rfl;refine AJ (R:=λ_ a A=>a=A) ?_ ?_
      .simp only[Std.Legacy.Range.forIn_eq_forIn_range'];refine ei _ _ _ λf hf s Dh BR=>?_;refine AJ (ce _ ((ha.mono BM).mono BR) _) ?_;intro I0 p1 P1 Fb FV;refine AJ (ce _ (((hb.mono BM).mono BR).mono Fb) _) ?_;intro JQ p2 P2 Fc JI;refine AJ (cO n k JQ h (FV.mono Fc) JI) ?_;rintro Ta r _ _ rfl;cases r<;>exact AL rfl
      .rintro Dh ⟨a,_⟩ _ _ rfl;cases a<;>exact AL rfl
     |blank _ hX=>cases X<;>first|exact AL rfl|(cases hX;done)
     |_=>exact AL rfl
    |blank _ hV=>cases V<;>first|exact AL rfl|(cases hV;done)|(cases hx<;>exact AL rfl)
    |_=>first|exact AL rfl|(cases hx<;>exact AL rfl)
   |slice e=>exact AL rfl
   |_=>cases h
def mu (n k:Nat){t:TypeId}(h:bV P.a k t=true){v V x X:Value}(hv:AO S β v V)(hx:AO S β x X)(hu:v=hole\/x=hole):Dead P (Op.equalIn (n+1) t v x):=by
 intro w es;have hr:∀d,P.a.underlying t=some d->(underlying t).runT P.a w es=(.ok d w,es):=λd e=>by
  unfold underlying;rw[ah];show(match(P.a.underlying t) with|some d=>pure d|none=>stuck _:Sem TypeDesc).runT P.a w es=_;rw[e];rfl
 cases k with
 |zero=>cases h
 |succ k =>
  unfold Op.equalIn;rw[ah];unfold bV at h;by_cases hc:EK P.a t=true
  .rcases Fv hc with⟨k,e⟩|e|e<;>rw[hr _ e]<;>rcases hu with rfl|rfl
   .cases hx<;>first|exact .inl ⟨_,_,_,rfl⟩|exact .inr ⟨.addressObserved,_,_,rfl,by intro g e;cases e⟩
   .cases hv<;>first|exact .inl ⟨_,_,_,rfl⟩|exact .inr ⟨.addressObserved,_,_,rfl,by intro g e;cases e⟩
   .cases hx<;>first|exact .inl ⟨_,_,_,rfl⟩|exact .inr ⟨.addressObserved,_,_,rfl,by intro g e;cases e⟩
   .cases hv<;>first|exact .inl ⟨_,_,_,rfl⟩|exact .inr ⟨.addressObserved,_,_,rfl,by intro g e;cases e⟩
   .cases hx<;>first|exact .inl ⟨_,_,_,rfl⟩|exact .inr ⟨.addressObserved,_,_,rfl,by intro g e;cases e⟩
   .cases hv<;>first|exact .inl ⟨_,_,_,rfl⟩|exact .inr ⟨.addressObserved,_,_,rfl,by intro g e;cases e⟩
  .rw[Bool.eq_false_iff.2 hc,Bool.false_or] at h;cases hd:P.a.underlying t with
   |none=>rw[hd] at h;cases h
   |some d =>
    rw[hd] at h;rw[hr _ hd];cases d with
    |struct fs =>
     rcases hu with rfl|rfl
     .cases hx<;>exact .inl ⟨_,_,_,rfl⟩
     .cases hv<;>exact .inl ⟨_,_,_,rfl⟩
    |array l e =>
     rcases hu with rfl|rfl
     .cases hx<;>exact .inl ⟨_,_,_,rfl⟩
     .cases hv<;>exact .inl ⟨_,_,_,rfl⟩
    |slice e =>
     rcases hu with rfl|rfl
     .cases hx<;>exact .inl ⟨_,_,_,rfl⟩
     .cases hv<;>exact .inl ⟨_,_,_,rfl⟩
    |_=>cases h
def nW {op:BinOp}(ho:op=.eql\/op=.neq){k:Nat}{t:TypeId}(h:bV P.a k t=true){xo yo:Operand}{v V x X:Value}(hv:AO S β v V)(hx:AO S β x X)(hu:v=hole\/x=hole):Dead P (do eqGuard op t xo yo v x;binOp op t v x):=by
 have z1:eqGuard op t xo yo v x=pure ():=by
  unfold eqGuard;rcases ho with rfl|rfl<;>(rw[if_neg (by simp)];rcases hu with rfl|rfl<;>first|(cases x<;>rfl)|(cases v<;>rfl))
 have z2:(do eqGuard op t xo yo v x;binOp op t v x)=binOp op t v x:=by rw[z1];rfl
 rw[z2];have h1:=binOp_eql (t:=t) (V:=v) (X:=x) (λk a k' b e1 e2=>by subst e1 e2;rcases hu with h|h<;>cases h) (λk a k' b e1 e2=>by subst e1 e2;rcases hu with h|h<;>cases h) (λk a b k' c d e1 e2=>by subst e1 e2;rcases hu with h|h<;>cases h) (λa b e1 e2=>by subst e1 e2;rcases hu with h|h<;>cases h);have hd:Dead P (Op.equal t v x):=mu 9999 k h hv hx hu;rcases ho with rfl|rfl
 .rw[h1.1];exact hd.bind _
 .rw[h1.2];exact hd.bind _
def mv (op:BinOp){k:Nat}{t:TypeId}(h:bV P.a k t=true)(xo yo:Operand){v V x X:Value}(hv:AO S β v V)(hx:AO S β x X)(hu:¬(v=hole\/x=hole)):AX P S Ck G β (eqGuard op t xo yo v x) (eqGuard op t xo yo V X) (λ_ _ _=>True):=by
  have fin:∀(AQ:Bc),β.le AQ->AX P S Ck G AQ (do if<-Op.eqGuardIn Op.maxDepth t v x then unsupported (.noEntry "binop/eql: two nil values of an interface type with methods, in a part of a struct or an array"):Sem Unit) (do if<-Op.eqGuardIn Op.maxDepth t V X then unsupported (.noEntry "binop/eql: two nil values of an interface type with methods, in a part of a struct or an array")) (λ_ _ _=>True):=by
    intro AQ hle;refine AJ (cO _ k AQ h (hv.mono hle) (hx.mono hle)) ?_;rintro Cb a _ _ rfl;cases a with
    |true=>exact AV (by intro g e;cases e)
    |false=>exact AL trivial
  have aeg:AX P S Ck G β (do if<-Op.eqGuardIn Op.maxDepth t v x then unsupported (.noEntry "binop/eql: two nil values of an interface type with methods, neither of them the literal nil"):Sem Unit) (do if<-Op.eqGuardIn Op.maxDepth t V X then unsupported (.noEntry "binop/eql: two nil values of an interface type with methods, neither of them the literal nil")) (λ_ _ _=>True):=by
    refine AJ (cO _ k β h hv hx) ?_;rintro Cb a _ _ rfl;cases a with
    |true=>exact AV (by intro g e;cases e)
    |false=>exact AL trivial
  have key : AX P S Ck G β (match v, x with
      |.nilIface,.nilIface=>do
        if(xo matches .const _)||(yo matches .const _) then return
        if<-Op.eqGuardIn Op.maxDepth t v x then unsupported (.noEntry "binop/eql: two nil values of an interface type with methods, neither of them the literal nil")
      |.agg _,.agg _=>do
        if !(<-program).eqGuardType (<-program).depth t then return
        if<-Op.eqGuardIn Op.maxDepth t v x then unsupported (.noEntry "binop/eql: two nil values of an interface type with methods, in a part of a struct or an array")
      |_,_=>(pure ():Sem Unit)) (match V,X with
      |.nilIface,.nilIface=>do
        if(xo matches .const _)||(yo matches .const _) then return
        if<-Op.eqGuardIn Op.maxDepth t V X then unsupported (.noEntry "binop/eql: two nil values of an interface type with methods, neither of them the literal nil")
      |.agg _,.agg _=>do
        if !(<-program).eqGuardType (<-program).depth t then return
        if<-Op.eqGuardIn Op.maxDepth t V X then unsupported (.noEntry "binop/eql: two nil values of an interface type with methods, in a part of a struct or an array")
      |_,_=>(pure ():Sem Unit)) (λ_ _ _=>True):=by
    cases hv with
    |nilIface=>cases hx with
      |nilIface=>cases xo<;>cases yo<;>first|exact AL trivial|exact aeg
      |blank _ _=>exact absurd (.inr rfl) hu
      |_=>exact AL trivial
    |agg h1 h2=>cases hx with
      |agg h3 h4 =>
        dsimp only;refine AJ aL ?_;rintro Cb p p' BM ⟨hp,Zk⟩;subst p p';refine AJ aL ?_;rintro Dh p p' BR ⟨hp,Zk⟩;subst p p';rw[show P.b.depth=P.a.depth from rfl,Bw.eqGuardType];by_cases hb:(!P.a.eqGuardType P.a.depth t)=true
        · simp only[if_pos hb]
          exact AL trivial
        · simp only[if_neg hb]
          exact fin Dh (Bc.le_trans BM BR)
      |blank _ _=>exact absurd (.inr rfl) hu
      |_=>exact AL trivial
    |blank _ _=>exact absurd (.inl rfl) hu
    |_=>first|exact AL trivial|(cases hx<;>exact AL trivial)
  unfold eqGuard;cases op<;>first
    |exact AL trivial
    | (rw [if_neg (by simp)]
       exact key)
def pK (hG:P.a.globals.size<=G){op:BinOp}(ho:op=.eql\/op=.neq){k:Nat}{t:TypeId}(h:bV P.a k t=true){v V x X:Value}(hv:AO S β v V)(hx:AO S β x X)(hu:¬(v=hole\/x=hole)):AX P S Ck G β (binOp op t v x) (binOp op t V X) (λAQ a A=>AO S AQ a A):=by
 by_cases hi:∃k a k' b,v=.int k a/\x=.int k' b
 .obtain⟨k1,a,k2,b,rfl,rfl⟩:=hi;cases hv;cases hx;exact Gv op t _ _ _ _
 .by_cases hs:∃a b,v=.string a/\x=.string b
  .obtain⟨a,b,rfl,rfl⟩:=hs;cases hv;cases hx;have e:∀x y,binOp op t (.string x) (.string y)=Op.stringOp op x y:=λx y=>by cases op<;>rfl
   rw[e];exact eY _ _ _
  .have h1:=binOp_eql (t:=t) (V:=v) (X:=x) (λk a k' b e1 e2=>hi ⟨k,a,k',b,e1,e2⟩) (λk a k' b e1 e2=>by subst e1;cases hv) (λk a b k' c d e1 e2=>by subst e1;cases hv) (λa b e1 e2=>hs ⟨a,b,e1,e2⟩);have h2:=binOp_eql (t:=t) (V:=V) (X:=X) (λk a k' b e1 e2=>by subst e1 e2;cases hv<;>first|exact hu (.inl rfl)|(cases hx<;>first|exact hu (.inr rfl)|exact hi ⟨_,_,_,_,rfl,rfl⟩)) (λk a k' b e1 e2=>by subst e1;cases hv;exact hu (.inl rfl)) (λk a b k' c d e1 e2=>by subst e1;cases hv;exact hu (.inl rfl)) (λa b e1 e2=>by subst e1 e2;cases hv<;>first|exact hu (.inl rfl)|(cases hx<;>first|exact hu (.inr rfl)|exact hs ⟨_,_,rfl,rfl⟩))
   rcases ho with rfl|rfl
   .rw[h1.1,h2.1];exact AJ (eZ hG _ k β h hv hx) (by rintro Cp b _ _ rfl;exact AL (.bool _))
   .rw[h1.2,h2.2];exact AJ (eZ hG _ k β h hv hx) (by rintro Cp b _ _ rfl;exact AL (.bool _))
end
def mZ (w:World):w.sys .env=(.strings w.os.env,w):=by
 unfold World.sys;have:Kernel.perform .env w.os=.done (.strings w.os.env,w.os):=by
  unfold Kernel.perform
  rfl
 rw[this]
 rfl
section
variable {P:Bw} {S:CF} {Ck:Code->Prop} {G:Nat} {β:Bc}
def va:AX P S Ck G β (sys .env) (sys .env) (λ_ a A=>a=A/\∃l,a=.strings l):=by
 intro w W n hw ht Ce Cm _;have e1:(sys .env).runT P.a w Ce=(.ok (.strings w.os.env) w,Ce.push ⟨.output,true,false⟩):=by
  show(Sem.sys .env .pure).runT P.a w Ce=_;simp only[Sem.runT,mZ]
 have e2:(sys .env).runT P.b W Cm=(.ok (.strings W.os.env) W,Cm.push ⟨.output,true,false⟩):=by
  show(Sem.sys .env .pure).runT P.b W Cm=_;simp only[Sem.runT,mZ]
 rw[e1,e2];exact⟨β,.strings W.os.env,W,[⟨.output,true,false⟩],by simp,⟨by rw[hw.env],_,rfl⟩,{ Fin.refl hw with evs:=λ_ E hE=>by cases yT.1 hE;exact .out }⟩
def mw {α EJ:Type}{R:Bc->α->EJ->Prop}:AX P S Ck G β (runtimePanic .panicNil:Sem α) (runtimePanic .panicNil:Sem EJ) R:=by
 refine AJ aL ?_;rintro Cp p p' _ ⟨rfl,rfl⟩;dsimp only;refine AJ (R:=λ_ a A=>a=A) ?_ ?_
 .show AX P S Ck G Cp (elemOf P.a.rt.panicNilError) (elemOf P.a.rt.panicNilError) _;unfold elemOf;refine AJ (aj _) ?_;rintro Cb d _ _ ⟨rfl,_⟩;cases d with
  |pointer e=>exact AL rfl
  |_=>exact AR
 .rintro Cb e _ _ rfl;refine AJ (gp e (.agg rfl (by simp))) ?_;rintro Dh ⟨b,o,s⟩ ⟨B,o',s'⟩ _ ⟨h1,h2,h3⟩;cases h2;cases h3;exact cQ (.iface _ (.ptr _ _ h1))
def nX {v V:Value}(hv:AO S β v V):AX P S Ck G β (Instr.panic v) (Instr.panic V) (λAQ a A=>AO S AQ a A):=by
 cases hv with
 |iface t r=>exact cQ (.iface t r)
 |nilIface =>
  unfold Instr.panic Instr.panicnil;refine AJ (R:=λ_ a A=>a=A) ?_ ?_
  .refine AJ va ?_;rintro Cp a _ _ ⟨rfl,l,rfl⟩;dsimp only;refine AJ aL ?_;rintro Cb p p' _ ⟨rfl,rfl⟩;exact AL rfl
  .rintro Cp a _ _ rfl;split
   .exact cQ .nilIface
   .exact mw
 |_=>exact AR
end
structure I1 (P:Bw)(S:CF)(Ck:Code->Prop)(G:Nat):Prop where
 big:P.a.info? big=none
 call:∀f,S.fn f->∀(β:Bc) (a A:Array Value),AU S β a A->AX P S Ck G β (callFunc f a) (callFunc f A) (Fe S Ck)
section
variable {P:Bw} {S:CF} {Ck:Code->Prop} {G:Nat} {β:Bc}
def bJ {f:FuncId} {fn:Func} (hf:P.a.funcs[f]?=some fn) {Ew:Func} (hf':P.fs[f]?=some Ew) (hn:fn.name ≠ "runtime.NumGoroutine") (Vy:Ew.name ≠ "runtime.NumGoroutine") (hb:fn.body.isSome) (hb':Ew.body.isSome) (hS:S.fn f) {a A:Array Value} (h:AU S β a A) :
  AX P S Ck G β (callFunc f a) (callFunc f A) (Fe S Ck):=by
 refine AJ aL ?_;rintro Cp p p' hle ⟨hp,Zk⟩;subst p p';rw[hf,show P.b.funcs[f]?=some Ew from hf'];have h1:fn.body.isNone=false:=by cases hx:fn.body with
  |none=>rw[hx] at hb;cases hb
  |some _=>rfl
 have h2:Ew.body.isNone=false:=by cases hx:Ew.body with
  |none=>rw[hx] at hb';cases hb'
  |some _=>rfl
 simp only[beq_iff_eq,hn,Vy,if_false,h1,h2,xP];exact AL (.enter hS (h.mono hle))
def pL:∀ {l:List Tmp} {m M:List Value} {x X:Array Value},B4 (AO S β) m M->AU S β x X ->
  AU S β ((l.zip m).foldl (λtmps (p:Tmp×Value)=>tmps.setIfInBounds p.1 p.2) x) ((l.zip M).foldl (λtmps (p:Tmp×Value)=>tmps.setIfInBounds p.1 p.2) X)
 |[],_,_,_,_,_,hx=>by simpa using hx
 |t::l,_,_,_,_,h,hx=>by
  cases h with
  |nil=>simpa using hx
  |cons hv hr =>
   simp only[List.zip_cons_cons,zw];exact pL hr (hx.set _ hv)
def dc {l L:Nat}(h:β l L)(hh:S.hid l=false):AX P S Ck G β (Instr.getLoop l) (Instr.getLoop L) (λAQ r R=>r.state=R.state/\r.pending=R.pending/\(S.fr r.fn/\∀c,r.pending=some c->Ck c)/\r.fn=R.fn/\AU S AQ r.tmps R.tmps/\r.params=R.params/\r.assign=R.assign/\r.body=R.body/\Ck r.assign/\Ck r.body/\AQ r.defers R.defers/\S.hid r.defers=false):=by
 refine AJ (eU h hh) ?_;intro Cp o O _ ho;cases ho with
 |loop hp ha hb hx hd hk=>exact AL ⟨rfl,rfl,hp,rfl,hx,rfl,rfl,rfl,ha,hb,hd,hk⟩
 |_=>exact λ_ _ _ _ _ _ _ _=>trivial
def rJ {l L:Nat}(h:β l L)(hh:S.hid l=false){a A:Array Value}(ha:AU S β a A):AX P S Ck G β (Instr.yield l a) (Instr.yield L A) (Fe S Ck):=by
 refine AJ (dc h hh) ?_;rintro Cp ⟨st,pe,fn,x,ps,xi,bo,d⟩ ⟨GK,pe',Ew,X,ps',as',bo',D⟩ hle ⟨h1,h2,h3,h4,h5,h6,h7,h8,h9,h10,h11,MZ⟩;cases h1;cases h2;cases h4;cases h6;cases h7;cases h8;dsimp only at *;rw[ha.size];split
 .exact λ_ _ _ _ _ _ _ _=>trivial
 .refine AL (.round (hle _ _ h) ⟨hh,h3.1⟩ ?_ h9 h10);have:=pL (l:=ps.toList) (ha.mono hle).toList h5;rw[<-zM,<-zM];simpa using this
def ki (P:Program)(ts:Array TypeId)(b:Builtin):Prop:=match b with
 |.append=>(∀e s,ts[0]?=some s->P.underlying s=some (.slice e)->bN P e=true)/\(∀x k,ts[1]?=some x->P.underlying x≠some (.int k))
 |.len|.cap=>∀t e d,ts[0]?=some t->P.underlying t≠some (.chan e d)
 |.min|.max=>True
 |_=>False
def nY (b:Builtin)(ts:Array TypeId)(t:TypeId)(cs:Array Bool)
  (hb:ki P.a ts b) {a A:Array Value} (h:AU S β a A):AX P S Ck G β (builtin b ts t cs a) (builtin b ts t cs A) (Fe S Ck):=by
 have v:∀ {m M:Sem Value},AX P S Ck G β m M (λAQ a A=>AO S AQ a A)->AX P S Ck G β (do pure (.value (<-m)):Sem Next) (do pure (.value (<-M))) (Fe S Ck):=by
  intro m M hm;refine AJ hm ?_;intro Cp x X _ hx;exact AL (.value hx)
 cases b with
 |append=>exact v (pG ts t hb.1 hb.2 h)
 |len=>exact v (uV ts t hb h)
 |cap=>exact v (uW ts t hb h)
 |min=>exact v (uY ts t h)
 |max=>exact v (uZ ts t h)
 |_=>exact hb.elim
def kj (hb:P.a.info? big=none):Dead P (typeInfo big):=λw es=>by
 have e2:program.runT P.a w es=(.ok P.a w,es):=rfl;refine .inl ⟨?_,w,es,?_⟩
 rotate_left
 .unfold typeInfo;rw[ah,e2];dsimp only;rw[hb]
  rfl
def Dead.prog {γ:Type}{k:Program->Sem γ}(h:Dead P (k P.a)):Dead P (program >>= k):=λw es=>by
 rw[ah];exact h w es
def my (hb:P.a.info? big=none)(n:Nat)(v:Value)(s:String):Dead P (method n big v s):=by
 cases n with
 |zero=>exact λw es=>.inr ⟨_,_,_,rfl,by intro g e;cases e⟩
 |succ n=>exact(kj hb).bind _
def kN (hb:P.a.info? big=none)(n:Nat)(v:Value)(s:String){γ:Type}(k:Option Bool->Sem γ)(hk:∃u,k none=unsupported u/\∀g,u≠.initOrder g):Dead P (nilAhead n big v s >>= k):=by
 cases n with
 |zero =>
  obtain⟨u,h1,h2⟩:=hk;intro w es;rw[ah];have e:(nilAhead 0 big v s).runT P.a w es=(.ok none w,es):=rfl;rw[e];dsimp only;rw[h1];exact .inr ⟨u,w,es,rfl,h2⟩
 |succ n=>exact((kj hb).bind _).bind k
def ix (hb:P.a.info? big=none)(a:Array Value):Dead P (invoke (hd a).target (hd a).args):=by
 unfold hd invoke;have e:(#[Value.iface big undef]++a)[0]?=some (.iface big undef):=by rw[Array.getElem?_append_left (by decide)];rfl
 dsimp only;rw[e];unfold callMethod;dsimp only;exact Dead.prog ((my hb _ _ _).bind _)
def gD (hS:I1 P S Ck G){d D:Deferred}(h:CM S β d D):AX P S Ck G β (invoke d.target d.args) (invoke D.target D.args) (Fe S Ck):=by
 cases h with
 |fn hf hc ha=>cases hf with
  |func hs=>exact hS.call _ hs β _ _ (ha.append hc)
  |yield hl hk=>exact rJ hl hk ha
 |nil ha=>exact au .nilDeref trivial
 |collected h _=>exact AR
 |BP a A h1 h2 h3=>subst h2;exact DL (ix hS.big a)
def fI {f F:Value}(hf:AO S β f F){a A:Array Value}(ha:AU S β a A):AX P S Ck G β (Deferred.ofValue f a) (Deferred.ofValue F A) (λAQ d D=>CM S AQ d D):=by
 cases hf with
 |func hf h1 a1 h2 a2=>exact AL (.fn hf ⟨h2,a2⟩ (AU.append ⟨h1,a1⟩ ha))
 |nilFunc=>exact AL (.nil ha)
 |@BP n x c h=>exact AL (.BP a A ha rfl (h.imp (λh=>by cases h;rfl) λh=>⟨h,n,c,x,rfl⟩))
 |_=>exact AR
def ag (SB:FuncId->Bool):Operand->Bool
 |.tmp _=>true
 |.const v=>plain 8 v
 |.global _=>false
 |.func f=>SB f
def M3 (SB:FuncId->Bool):Option Operand->Bool
 |some x=>ag SB x
 |none=>true
def bB (P:Program)(SB:FuncId->Bool)(c:Call):Bool:=c.args.all (ag SB)&&match c.callee with
 |.value f=>ag SB f
 |.invoke ..=>false
 |.builtin .append =>
  (match c.argTypes[0]? with
   |some s=>match P.underlying s with
    |some (.slice e)=>bN P e
    |_=>true
   |none=>true) &&
  (match c.argTypes[1]? with
   |some x=>match P.underlying x with
    |some (.int _)=>false
    |_=>true
   |none=>true)
 |.builtin b=>b==.min||b==.max||((b==.len||b==.cap)&&match c.argTypes[0]? with
  |some t=>match P.underlying t with
   |some (.chan _ _)=>false
   |_=>true
  |none=>true)
def isEq:BinOp->Bool
 |.eql|.neq=>true
 |_=>false
def fd (P:Program)(t:TypeId):Bool:=match P.underlying t with
 |some (.slice e)=>bN P e
 |_=>true
def NJ (P:Program)(SB:FuncId->Bool)(o:Oper):Bool:=match o.op with
 |.move x|.assign x=>ag SB x
 |.pick c a b=>ag SB c&&ag SB a&&ag SB b
 |.alloc t=>bN P t
 |.box _ x=>ag SB x
 |.build t ps=>bN P t&&ps.all (λp=>ag SB p.2)
 |.buildSlice t _ ps=>fd P t&&ps.all (λp=>ag SB p.2)
 |.load _ a=>ag SB a
 |.store _ a v=>ag SB a&&ag SB v
 |.nilCheck x=>ag SB x&&(P.info? big).isNone
 |.binOp op t x y _=>(EK P t||(isEq op&&bV P 12 t))&&ag SB x&&ag SB y
 |.makeInterface _ x|.panic x=>ag SB x
 |.unOp _ _ x=>ag SB x
 |.convert s d x=>gz P s d&&ag SB x
 |.makeFunc fn fs cs=>(match fn with|.func f=>SB f|_=>false)&&fs.all (ag SB)&&cs.all (ag SB)
 |.makeSlice t l c=>fd P t&&ag SB l&&ag SB c
 |.slice _ x l h m=>ag SB x&&M3 SB l&&M3 SB h&&M3 SB m
 |.fieldAddr s x i=>jI P s i&&ag SB x
 |.field _ x _=>ag SB x
 |.indexAddr _ x i=>ag SB x&&ag SB i
 |.index _ x i=>ag SB x&&ag SB i
 |.extract x _=>ag SB x
 |.call c|.defer c=>bB P SB c
 |_=>false
end
section
variable {P:Bw} {SB:FuncId->Bool} {H:Hid} {Ck:Code->Prop} {G:Nat} {β:Bc}
def aI (SB:FuncId->Bool)(f:FuncId):Bool:=f==94&&(SB 93&&!SB 94)
abbrev SP (SB:FuncId->Bool)(H:Hid):CF:=⟨λf=>SB f=true\/aI SB f=true,H,λf=>SB f=true⟩
def de {ρ Ρ:Operand->Value}(Dp:∀x,ag SB x=true->AO (SP SB H) β (ρ x) (Ρ x)){l:Array Operand}(h:l.all (ag SB)=true):AU (SP SB H) β (l.map ρ) (l.map Ρ):=by
 simp only[xR] at h;exact AU.map l λx hx=>Dp x (h x hx)
def kk {ρ Ρ:Operand->Value}(Dp:∀x,ag SB x=true->AO (SP SB H) β (ρ x) (Ρ x)){ps:Array (Nat×Operand)}(h:ps.all (λp=>ag SB p.2)=true) :
  Di (SP SB H) β (ps.map λ(i,x)=>(i,ρ x)).toList (ps.map λ(i,x)=>(i,Ρ x)).toList:=by
 simp only[xR] at h;rw[Array.toList_map,Array.toList_map];have:∀l:List (Nat×Operand),(∀p∈l,ag SB p.2=true)->Di (SP SB H) β (l.map λ(i,x)=>(i,ρ x)) (l.map λ(i,x)=>(i,Ρ x)):=by
  intro l
  induction l with
  |nil=>intro _;exact .nil
  |cons p l ih=>intro hl;exact .cons (Dp _ (hl p (by simp))) (ih λq hq=>hl q (by simp[hq]))
 exact this _ λp hp=>h p (by simpa using hp)
def jK {ρ Ρ:Operand->Value}(Dp:∀x,ag SB x=true->AO (SP SB H) β (ρ x) (Ρ x)){o:Option Operand}(h:M3 SB o=true):Ee (SP SB H) β (o.map ρ) (o.map Ρ):=by
 cases o with
 |none=>exact .none
 |some x=>exact .some (Dp x h)
def gE {t:TypeId}(h:fd P.a t=true):∀e,P.a.underlying t=some (.slice e)->bN P.a e=true:=by
 intro e he;unfold fd at h;rw[he] at h;exact h
def nZ {c:Call}(h:bB P.a SB c=true){b:Builtin}(hc:c.callee=.builtin b):ki P.a c.argTypes b:=by
 unfold bB at h;rw[hc] at h;simp only[xG] at h;obtain⟨_,h⟩:=h;cases b with
 |append =>
  simp only[xG] at h;obtain⟨h1,h2⟩:=h;refine⟨λe s he hs=>?_,λx k hx hk=>?_⟩
  .rw[he] at h1;simp only[hs] at h1;exact h1
  .rw[hx] at h2;simp only[hk] at h2;exact absurd h2 (by decide)
 |len|cap =>
  intro t e d ht hd;rw[ht] at h;simp only[hd] at h;exact absurd h (by decide)
 |min|max=>trivial
 |_=>exfalso;revert h;cases c.argTypes[0]?<;>simp<;>intro h<;>revert h<;>decide
def iK (hS:I1 P (SP SB H) Ck G){ρ Ρ:Operand->Value}(Dp:∀x,ag SB x=true->AO (SP SB H) β (ρ x) (Ρ x)){c:Call}(t:TypeId)(h:bB P.a SB c=true) :
  AX P (SP SB H) Ck G β (do let d<-resolve ρ c t;invoke d.target d.args) (do let d<-resolve Ρ c t;invoke d.target d.args) (Fe (SP SB H) Ck):=by
 have ha:AU (SP SB H) β (c.args.map ρ) (c.args.map Ρ):=de Dp (by unfold bB at h;simp only[xG] at h;exact h.1);unfold resolve;cases hc:c.callee with
 |value f =>
  have hf:ag SB f=true:=by unfold bB at h;rw[hc] at h;simp only[xG] at h;exact h.2
  dsimp only;refine AJ (fI (Dp f hf) ha) ?_;intro Cp d D _ hd;exact gD hS hd
 |invoke r m=>unfold bB at h;rw[hc] at h;simp at h
 |builtin b =>
  have hb:=nZ h hc;dsimp only;refine AJ (R:=λAQ (d D:Deferred)=>β.le AQ/\d=⟨.builtin b c.argTypes t (c.args.map λ|.const _=>true|_=>false),c.args.map ρ⟩/\D=⟨.builtin b c.argTypes t (c.args.map λ|.const _=>true|_=>false),c.args.map Ρ⟩) (AL ⟨β.le_refl,rfl,rfl⟩) ?_;rintro Cp d D hle ⟨_,rfl,rfl⟩;exact nY b _ _ _ hb (ha.mono hle)
def n7 {ρ Ρ:Operand->Value}(Dp:∀x,ag SB x=true->AO (SP SB H) β (ρ x) (Ρ x)){c:Call}(t:TypeId)(h:bB P.a SB c=true)(hb:∀b,c.callee≠.builtin b) :
  AX P (SP SB H) Ck G β (resolve ρ c t) (resolve Ρ c t) (λAQ d D=>CM (SP SB H) AQ d D):=by
 have ha:AU (SP SB H) β (c.args.map ρ) (c.args.map Ρ):=de Dp (by unfold bB at h;simp only[xG] at h;exact h.1);unfold resolve;cases hc:c.callee with
 |value f =>
  have hf:ag SB f=true:=by unfold bB at h;rw[hc] at h;simp only[xG] at h;exact h.2
  exact fI (Dp f hf) ha
 |invoke r m=>unfold bB at h;rw[hc] at h;simp at h
 |builtin b=>exact absurd hc (hb b)
def dg (P:Program)(SB:FuncId->Bool)(o:Oper):Bool:=NJ P SB o&&match o.op with
 |.defer c=>match c.callee with
  |.builtin _=>false
  |_=>true
 |_=>true
def pM (hG:P.a.globals.size<=G)(hS:I1 P (SP SB H) Ck G){ρ Ρ:Operand->Value}(Dp:∀x,ag SB x=true->AO (SP SB H) β (ρ x) (Ρ x)){o:Oper}(h:dg P.a SB o=true) :
  AX P (SP SB H) Ck G β (execOp ρ o) (execOp Ρ o) (Fe (SP SB H) Ck):=by
 have v:∀ {m M:Sem Value},AX P (SP SB H) Ck G β m M (λAQ a A=>AO (SP SB H) AQ a A)->AX P (SP SB H) Ck G β (do pure (.value (<-m)):Sem Next) (do pure (.value (<-M))) (Fe (SP SB H) Ck):=by
  intro m M hm;refine AJ hm ?_;intro Cp x X _ hx;exact AL (.value hx)
 have u:∀ {m M:Sem Unit},AX P (SP SB H) Ck G β m M (λ_ _ _=>True)->AX P (SP SB H) Ck G β (do m;pure .skip:Sem Next) (do M;pure .skip) (Fe (SP SB H) Ck):=by
  intro m M hm;refine AJ hm ?_;intro Cp x X _ _;exact AL .skip
 unfold dg NJ at h;unfold execOp;cases ho:o.op with
 |move x=>rw[ho] at h;simp at h;exact AL (.value (Dp x h))
 |assign x=>rw[ho] at h;simp at h;exact AL (.value (Dp x h))
 |pick c a b =>
  rw[ho] at h;simp at h;refine AJ (gi (Dp c h.1.1)) ?_;rintro Cp t _ hle rfl;refine AL (.value ?_);split
  .exact(Dp a h.1.2).mono hle
  .exact(Dp b h.2).mono hle
 |alloc t=>rw[ho] at h;simp at h;exact v (rG t h)
 |box t x=>rw[ho] at h;simp at h;exact v (uX t (Dp x h))
 |build t ps=>rw[ho] at h;simp only[xG,and_true] at h;exact v (rE t h.1 (kk Dp h.2))
 |buildSlice t n ps=>rw[ho] at h;simp only[xG,and_true] at h;exact v (kM t n (gE h.1) (kk Dp h.2))
 |load t a=>rw[ho] at h;simp at h;exact v (pH t (Dp a h))
 |store t a x=>rw[ho] at h;simp at h;exact u (nS t (Dp a h.1) (Dp x h.2))
 |nilCheck x =>
  rw[ho] at h;simp at h;have hx:=Dp x h.1;dsimp only;revert hx;generalize ρ x=v;generalize Ρ x=V;intro hx;cases hx with
  |EI=>exact au .nilDeref trivial
  |nilIface=>exact au .nilDeref trivial
  |nilFunc=>exact au .nilDeref trivial
  |func hf h1 a1 h2 a2=>cases hf with
   |func hs=>exact AL (.value (.func (.func hs) h1 a1 h2 a2))
   |yield hl hk=>exact AL (.value (.func (.yield hl hk) h1 a1 h2 a2))
  |bool b=>exact AL (.value (.bool b))
  |int k n=>exact AL (.value (.int k n))
  |string s=>exact AL (.value (.string s))
  |ptr o s hb=>exact AL (.value (.ptr o s hb))
  |Ei l c=>exact AL (.value (.Ei l c))
  |slice o s l c hb=>exact AL (.value (.slice o s l c hb))
  |Cf h1=>exact AL (.value (.Cf h1))
  |Et=>exact AL (.value .Et)
  |DY=>exact AL (.value .DY)
  |iface t r=>exact AL (.value (.iface t r))
  |agg h1 a1=>exact AL (.value (.agg h1 a1))
  |tuple h1 a1=>exact AL (.value (.tuple h1 a1))
  |blank h1 h2 =>
   cases V with
   |pointer a=>cases a with
    |none=>cases h2
    |some a=>exact AL (.value (.blank h1 h2))
   |func f x c=>cases f with
    |method n=>cases h2
    |_=>exact AL (.value (.blank h1 h2))
   |nilIface=>cases h2
   |nilFunc=>cases h2
   |_=>exact AL (.value (.blank h1 h2))
  |BP h1 =>
   refine DL ?_;show Dead P (program >>= λp=>nilAhead (p.types.size+Made.depth) big undef "" >>= λr=>_);exact Dead.prog (kN h.2 _ _ _ _ ⟨_,rfl,by intro g e;cases e⟩)
 |binOp op t x y t' =>
  rw[ho] at h;simp at h;rcases h.1.1 with hc|⟨he,hf⟩
  .refine v (AJ (nU op hc x y _ _ _ _) ?_);intro Cp _ _ hle _;exact rH hG op hc ((Dp x h.1.2).mono hle) ((Dp y h.2).mono hle)
  .have hop:op=.eql\/op=.neq:=by cases op<;>first|exact .inl rfl|exact .inr rfl|cases he
   by_cases hu:ρ x=hole\/ρ y=hole
   .exact v (DL (nW hop hf (Dp x h.1.2) (Dp y h.2) hu))
   refine v (AJ (mv op hf x y (Dp x h.1.2) (Dp y h.2) hu) ?_);intro Cp _ _ hle _;exact pK hG hop hf ((Dp x h.1.2).mono hle) ((Dp y h.2).mono hle) hu
 |panic x=>rw[ho] at h;simp at h;exact v (nX (Dp x h))
 |makeInterface t x =>
  rw[ho] at h;simp at h;refine v (AJ (aj _) ?_);rintro Cp d _ hle ⟨rfl,_⟩;cases d with
  |interface _=>exact AR
  |_=>exact AL (.iface _ ((Dp x h).mono hle))
 |unOp op t x=>rw[ho] at h;simp at h;exact v (rI op (Dp x h))
 |convert s d x=>rw[ho] at h;simp at h;exact v (nV h.1 (Dp x h.2))
 |makeFunc fn fs cs =>
  rw[ho] at h;simp only[xG,and_true] at h;obtain⟨⟨h1,h2⟩,h3⟩:=h;cases fn with
  |func f =>
   have a1:=de (β:=β) Dp h2;have a2:=de (β:=β) Dp h3;exact v (AL (.func (.func (.inl h1)) a1.size a1.at_ a2.size a2.at_))
  |_=>simp at h1
 |makeSlice t l c=>rw[ho] at h;simp at h;exact v (li t (gE h.1.1) (Dp l h.1.2) (Dp c h.2))
 |slice t x l hi mx=>rw[ho] at h;simp at h;exact v (nQ t (Dp x h.1.1.1) (jK Dp h.1.1.2) (jK Dp h.1.2) (jK Dp h.2))
 |fieldAddr s x i=>rw[ho] at h;simp at h;exact v (nO s (Dp x h.2) i h.1)
 |field t x i=>rw[ho] at h;simp at h;exact v (rC t (Dp x h) i)
 |indexAddr t x i=>rw[ho] at h;simp at h;exact v (nP t (Dp x h.1) (Dp i h.2))
 |index t x i=>rw[ho] at h;simp at h;exact v (rD t (Dp x h.1) (Dp i h.2))
 |extract x i=>rw[ho] at h;simp at h;exact v (nR (Dp x h) i)
 |call c=>rw[ho] at h;simp at h;exact iK hS Dp _ h
 |defer c =>
  rw[ho] at h;simp only[xG] at h;refine AJ (n7 Dp _ h.1 (λb e=>by rw[e] at h;simp at h)) ?_;intro Cp d D _ hd;exact AL (.defer hd)
 |_=>rw[ho] at h;simp at h
end
end Go.Bl
