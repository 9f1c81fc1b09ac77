/- Parts of the proof. -/
import Derived.Test.YtghipmneleifpaaGreatP12
import Derived.Test.YtghipmneleifpaaGreatP09
import Derived.Test.YtghipmneleifpaaGreatP00
import Derived.Test.YtghipmneleifpaaGreatP10
import Derived.Test.YtghipmneleifpaaGreatP14
import Derived.Test.YtghipmneleifpaaGreatP11
import Derived.Conc.DeferLaws
set_option linter.all false
set_option maxRecDepth 100000
open Go.Proofs.Tryz renaming prog->a6,func82->b9,func45->cq,f45->cF,func83->cU
open Bool renaming true->a7,false->bh
open Go.Value renaming pointer->a8,int->c0
open Option renaming some->bb,none->bk
open Go renaming World->bc,Goroutine->bn,Value->br,FuncId->bw,Frame->cf,Program->cu,Code->df
open Go.Conc renaming G->bo,goes_go->cw
open Go.Frame renaming enter->bq,finish_at->cr
open Go.Obj renaming cells->bs
open Go.Instr renaming takeDeferred->b8
namespace Go.Co
open Go.Ct Go.Conc Go.ConcN
section
variable {SB:bw->Bool} {H H':Hid} {β:Cm}
def GL.less (h:∀b,H b=bh->H' b=bh){f F:Fn}(r:GL (SP SB H) β f F):GL (SP SB H') β f F:=by
 cases r with
 |func s=>exact .func s
 |yield l k=>exact .yield l (h _ k)
def B6.less (h:(∀b,H b=bh->H' b=bh)/\(H.bl=a7->H'.bl=a7)){v V:br}(r:B6 (SP SB H) β v V):B6 (SP SB H') β v V:=by
 induction r with
 |bool b=>exact .bool b
 |int k n=>exact .int k n
 |string s=>exact .string s
 |FJ=>exact .FJ
 |ptr o s hb=>exact .ptr o s hb
 |Fc l c=>exact .Fc l c
 |slice o s l c hb=>exact .slice o s l c hb
 |func hf h1 _ h2 _ i1 i2=>exact .func (GL.less h.1 hf) h1 i1 h2 i2
 |nilFunc=>exact .nilFunc
 |Fu=>exact .Fu
 |EX=>exact .EX
 |nilIface=>exact .nilIface
 |iface t _ ih=>exact .iface t ih
 |agg h1 _ i1=>exact .agg h1 i1
 |tuple h1 _ i1=>exact .tuple h1 i1
 |blank h1 h2=>exact .blank (h1.imp (λh=>h) h.2) h2
 |C3 h1=>exact .C3 (h1.imp (λh=>h) h.2)
 |Dl h1=>exact .Dl (h1.imp (λh=>h) h.2)
def Ca.less (h:(∀b,H b=bh->H' b=bh)/\(H.bl=a7->H'.bl=a7)){x X:Array br}(r:Ca (SP SB H) β x X):Ca (SP SB H') β x X:=⟨r.size,λi v V h1 h2=>B6.less h (r.at_ i v V h1 h2)⟩
def D5.less (h:(∀b,H b=bh->H' b=bh)/\(H.bl=a7->H'.bl=a7)){d D:Deferred}(r:D5 (SP SB H) β d D):D5 (SP SB H') β d D:=by
 cases r with
 |fn f c a=>exact .fn (GL.less h.1 f) (Ca.less h c) (Ca.less h a)
 |nil a=>exact .nil (Ca.less h a)
 |collected r k=>exact .collected r (h.1 _ k)
 |C3 a A h1 h2 h3=>exact .C3 a A (Ca.less h h1) h2 (h3.imp (λh=>h) λx=>⟨h.2 x.1,x.2⟩)
def Df.imp {α:Type}{R R':α->α->Prop}(h:∀a A,R a A->R' a A){l L:List α}(r:Df R l L):Df R' l L:=by
 induction r with
 |nil=>exact .nil
 |cons ha _ ih=>exact .cons (h _ _ ha) ih
def C5.less (h:(∀b,H b=bh->H' b=bh)/\(H.bl=a7->H'.bl=a7)){Ck:df->Prop}{o O:Obj}(r:C5 (SP SB H) Ck β o O):C5 (SP SB H') Ck β o O:=by
 cases r with
 |cells a f=>exact .cells (Ca.less h a) f
 |loop p a b x d k=>exact .loop p a b (Ca.less h x) d (h.1 _ k)
 |number o s l hb=>exact .number o s l hb
 |taken=>exact .taken
 |defs l=>exact .defs (Df.imp (λ_ _=>D5.less h) l)
end
def ID (p:cu)(b4:Nat)(Ψ:bc->Prop)(g:bn)(w:bc):Prop :=
 ∃c,g=C6 (bq p 83 #[I3 b4] .deferred) [c,bad]/\c.fn=82/\c.mode=.returning/\c.defers=[]/\c.kind=.deferred/\Ψ w
def q8 {p:cu}{b4:Nat}{Ψ:bc->Prop}{BB:bw->Bool}(NK:BB 83=bh){g:bn}{w:bc}(h:ID p b4 Ψ g w):BB g.frame.fn=false:=by
 obtain⟨c,rfl,_⟩:=h;exact NK
def wX {c:cf}(h:c.mode=.returning):c≠bad:=λe=>by rw[e] at h;cases h
section
variable {P:CL} {SB BB:bw->Bool} {lets:Bool} {Gn ty Wg:Nat} {Ψ2:bc->Prop}
def mu {L:Lib.WgLink}(Wl:Lib.WgLib P.b L)(NK:L.done=83)(Fp:Barred P SB lets L.done (Lib.doneFn L)){f92:Func}(hf:P.b.funcs[82]?=bb f92)(hr:f92.results=#[]){b4:Nat}{Ψ:bc->Prop}{H:Hid}{Pk:Cm}(hPk:Pk b4 Wg){o:Bool}
  (RF:o=a7->∀(x:Lone) (W:bc),x.H=H->Pk.le x.β->E2 P SB lets Gn x W->Ψ x.w->Ψ2 W) :
  cM P SB BB lets Gn L.tWg Wg Ψ2 (ID P.a b4 Ψ) H [cR P.b] Pk o:=by
 rintro x g W hH hT hle ⟨c,e,c1,c2,c3,c4,c5⟩ hg hw Kr;refine⟨?_,λho=>RF ho x W hH hle hw c5⟩;refine wW Wl Fp (x:=x) (c:=c) (cs:=[bad]) (wl:=b4) (by rw[e,NK]) (wX c2) (hle _ _ hPk) hg hw Kr λC CS r1 r2=>?_;have m:=r1.mode;rw[c2] at m;have hm:C.mode=.returning:=by
  generalize C.mode=M at m;cases m;rfl
 have d:=r1.defers;rw[c3] at d;have hd:C.defers=[]:=by
  generalize C.defers=M at d;cases d;rfl
 rw[hT] at r2;have hcs:CS=[cR P.b]:=by
  generalize O5:[bad]=BL at r2;cases r2 with
  |base=>rfl
  |cons h1 h2=>cases O5;exact absurd rfl h2.ne
 refine⟨hm,2,?_⟩;rw[hcs];exact qY (by rw[<-r1.fn,c1];exact hf) hr hm hd (by rw[<-r1.kind,c4])
end
end Go.Co
namespace Go.Sq
open Go.Proofs
open Go.RowKit Go.Ct Go.Co Go.Conc
section
variable {SB BB:bw->Bool} {H:Hid} {Gn Wg:Nat} {Toy:Nat->Prop} {Ψ0 Ψ2:bc->Prop} {Pr:Cm} {T:List cf} {Kb:Nat->Prop} {Ok:bc->Prop} {b2 b3 b4:Nat} {x1:Int} {tp:Bool} {K:Nat->Prop} {a:Act} {r:Nat} {x:Lone} {X:bn} {W:bc}
def pJ (x1:Int)(SB:bw->Bool)(H:Hid)(K:Nat->Prop):∀v∈[c0 .u8 x1,.int .u8 0,.int .u8 0,.int .u8 0,.int .u8 0],Di SB H K v:=λv hv=>by
 simp only[yT,yQ,or_false] at hv;rcases hv with rfl|rfl|rfl|rfl|rfl<;>exact B6.int _ _
def P9.Kz (ga:P9 SB BB H Gn Wg Toy Ψ0 Pr T Kb Ok b2 b3 b4 x1 tp K a r x X W)(hO:fd Kb Ok):Head SB H Gn Kb Ok (λb=>K b\/b=r) (froze x.w r) :=
 ga.head.more hO ga.rK.1 ga.rK.2.1 ga.rK.2.2 ga.rb λv hv=>pJ x1 SB H _ v hv
def jQ {H':Hid}(hk:K b2/\K b3/\K b4):Ca (SP SB H') (CX (λb=>K b\/b=r)) (bO b2 b3 b4 r) (bO b2 b3 b4 r):=Dn λv hv=>by
 simp only[yT,yQ,or_false] at hv;rcases hv with rfl|rfl|rfl|rfl
 .exact Di.ptr (.inl hk.2.2) _ _
 .exact Di.ptr (.inl hk.1) _ _
 .exact Di.ptr (.inr rfl) _ _
 .exact Di.ptr (.inl hk.2.1) _ _
def tj (lib:∀H,Lib PP SB H a7 BB Gn){L:Lib.WgLink}(Wl:Lib.WgLib a6 L)(NK:L.done=83)(hT:L.tWg=145)(Fp:Go.Co.Barred PP SB a7 L.done (Lib.doneFn L))(hO:fd Kb Ok)(hkb:Kb b2/\Kb b3/\Kb b4)(K3:Pr b4 Wg)(Z8:∀b B,Pr b B->Kb b)
  (ga:P9 SB BB H Gn Wg Toy Ψ0 Pr T Kb Ok b2 b3 b4 x1 tp K a r x X W)
  (Yj:BB 83=bh) (kid:C1 a6 BB (ID a6 b4 λ_=>True) 0 (bo (bq a6 82 (bO b2 b3 b4 r) .deferred) [bad]) (froze x.w r)) :
  ∃(X' child:bn) (xk:Lone) (o:Bool) (Pk:Cm) (Q:bn->bc->Prop),stepG a6 a7 X W=.spawn X' child W #[] /\
   Split PP SB BB a7 Gn Wg Toy x X' child W tp tp o ⟨bo ((base 45).at a (.inRegion o8 []::T8)) [bad],froze x.w r,H,cut (λb=>K b\/b=r) x.β,T⟩ xk Pk /\
   cM PP SB BB a7 Gn 145 Wg Ψ2 Q xk.H xk.T Pk o/\(∀g w,Q g w->BB g.frame.fn=bh)/\C1 a6 BB Q 0 xk.g xk.w:=by
 have hm:=ga.Kz hO;have hH:=ga.h;have ht:=ga.t;subst hH ht
 obtain⟨G',child,e1,e2⟩:=MV (Toy:=Toy) (tp:=tp) (wl:=Pr) lib ga.op ga.gl ga.wl ga.tw ga.wg ga.Ig (λb B h=>ga.pr b B h) ga.cut (λb hb=>by
  cases e:x.H b with
  |true=>exact .inl rfl
  |false=>exact .inr (hm.base b hb e).1) (jQ ⟨ga.head.sub _ hkb.1,ga.head.sub _ hkb.2.1,ga.head.sub _ hkb.2.2⟩) (λb B h=>.inl (ga.head.sub _ (Z8 b B h)))
 refine⟨G',child,_,bh,Pr,ID a6 b4 λ_=>True,e1,e2,?_,λg w h=>q8 Yj h,kid⟩;have:=mu (P:=PP) (Gn:=Gn) (Ψ2:=Ψ2) (BB:=BB) Wl NK Fp (f92:=Tryz.f82) b9 rfl (Ψ:=λ_=>True) (H:=x.H) (Pk:=Pr) K3 (o:=bh) (λe=>by cases e);rw[hT] at this;exact this
def FO (tl:Nat->Bool)(oK:Nat->Obj)(w:bc):World:={ w with heap:=w.heap.mapIdx λb o=>if tl b then oK b else o }
def bQ (tl:Nat->Bool)(oK:Nat->Obj)(w:bc):(FO tl oK w).heap.size=w.heap.size:=by simp[FO]
def bR (tl:Nat->Bool)(oK:Nat->Obj)(w:bc)(b:Nat)(hb:b<w.heap.size):(FO tl oK w).heap[b]?=if tl b then bb (oK b) else w.heap[b]?:=by
 simp only[FO,AO,yS hb,zT];split<;>rfl
def tk (lib:∀H,Lib PP SB H a7 BB Gn){L:Lib.WgLink}(Wl:Lib.WgLib a6 L)(NK:L.done=83)(hT:L.tWg=145)(Fp:Go.Co.Barred PP SB a7 L.done (Lib.doneFn L))(hO:fd Kb Ok)(hkb:Kb b2/\Kb b3/\Kb b4)(K3:Pr b4 Wg)(Z8:∀b B,Pr b B->Kb b)
  (ga:P9 SB BB H Gn Wg Toy Ψ0 Pr T Kb Ok b2 b3 b4 x1 a7 K a r x X W) {tl:Nat->Bool} {oK:Nat->Obj} (MX:∀b B,Pr b B->tl b=a7->Toy B) (Yk:∀b,tl b=a7->∃B,Pr b B) (Yi:∀b,tl b=a7->H b=a7) (tnw:¬Toy Wg)
  (agB:∀W,Ψ0 W->∀b B,Pr b B->tl b=a7->∃O,W.heap[B]?=bb O/\∀(S:DT) (Ck:df->Prop) (β:Cm),C5 S Ck β (oK b) O) {Ψk:bc->Prop}
  (agC:∀(x:Lone) (W:bc),x.H=Bq H tl->Pr.le x.β->E2 PP SB a7 Gn x W->Ψk x.w->Ψ2 W)
  (Yj:BB 83=bh) (kid:C1 a6 BB (ID a6 b4 Ψk) 0 (bo (bq a6 82 (bO b2 b3 b4 r) .deferred) [bad]) (FO tl oK (froze x.w r))) :
  ∃(X' child:bn) (xk:Lone) (o:Bool) (Pk:Cm) (Q:bn->bc->Prop),stepG a6 a7 X W=.spawn X' child W #[] /\
   Split PP SB BB a7 Gn Wg Toy x X' child W a7 bh o ⟨bo ((base 45).at a (.inRegion o8 []::T8)) [bad],froze x.w r,H,cut (λb=>K b\/b=r) x.β,T⟩ xk Pk /\
   cM PP SB BB a7 Gn 145 Wg Ψ2 Q xk.H xk.T Pk o/\(∀g w,Q g w->BB g.frame.fn=bh)/\C1 a6 BB Q 0 xk.g xk.w:=by
 have hm:=ga.Kz hO;have hH:=ga.h;have ht:=ga.t;subst hH ht;have lt:∀b,(K b\/b=r)->b<(froze x.w r).heap.size:=hm.lt;have pr:∀b B,x.β b B->tl b=a7->Pr b B:=λb B hb h=>by
  obtain⟨B',hB⟩:=Yk b h;rw[ga.wl.DG.fn hb (ga.pr _ _ hB)];exact hB
 have P8:∀b o,(K b\/b=r)->x.H b=bh->(froze x.w r).heap[b]?=bb o->C5 (SP SB (Bq x.H tl)) (CK a6 SB a7) (CX λb=>K b\/b=r) o o:=λb o hb hh ho=>by
  obtain⟨_,o',h1,h2⟩:=hm.base b hb hh;rw[ho] at h1;cases h1;exact C5.less ⟨λb hb=>by simp[Bq,hb],λ_=>rfl⟩ h2
 have Yl:∀b B,(K b\/b=r)->tl b=a7->x.β b B->∃o O,(FO tl oK (froze x.w r)).heap[b]?=bb o/\W.heap[B]?=bb O/\C5 (SP SB (Bq x.H tl)) (CK a6 SB a7) (cut (λb=>K b\/b=r) x.β) o O:=λb B hb h hB=>by
  obtain⟨O,h1,h2⟩:=agB W (ga.FE rfl) b B (pr b B hB h) h;exact⟨oK b,O,by rw[bR _ _ _ _ (lt b hb),if_pos h],h1,h2 _ _ _⟩
 obtain⟨G',child,e1,e2⟩:=MW (Toy:=Toy) (wl:=Pr) (wk:=FO tl oK (froze x.w r)) (tl:=tl) lib ga.op ga.gl ga.wl ga.tw ga.wg ga.Ig (λb B h=>ga.pr b B h) ga.cut (λb hb=>by
  cases e:x.H b with
  |true=>exact .inl rfl
  |false=>exact .inr (hm.base b hb e).1) (λb B h=>.inl (ga.head.sub _ (Z8 b B h))) (jQ ⟨ga.head.sub _ hkb.1,ga.head.sub _ hkb.2.1,ga.head.sub _ hkb.2.2⟩)
  (λb B hb h=>MX b B (pr b B hb h) h) Yi tnw ⟨by rw[bQ];exact yL _,rfl⟩ (λb hb h=>by rw[bR _ _ _ _ (lt b hb),if_neg (by simp[h])]) P8 Yl (λb hh=>by rw[bQ];exact hm.old b hh)
 refine⟨G',child,_,a7,Pr,ID a6 b4 Ψk,e1,e2,?_,λg w h=>q8 Yj h,kid⟩;have:=mu (P:=PP) (Gn:=Gn) (Ψ2:=Ψ2) (BB:=BB) Wl NK Fp (f92:=Tryz.f82) b9 rfl (Ψ:=Ψk) (H:=Bq x.H tl) (Pk:=Pr) K3 (o:=a7) (λ_=>agC);rw[hT] at this;exact this
end
def sink (kx tl:Nat->Bool)(w:bc):World:={ w with heap:=w.heap.mapIdx λb o=>if tl b then .coro bk else if kx b then(match o with|.cells c t _=>.cells c t (0,c.size)|o=>o) else o }
def dZ (kx tl:Nat->Bool)(w:bc):(sink kx tl w).heap.size=w.heap.size:=by simp[sink]
def kG {kx tl:Nat->Bool}{w:bc}{b:Nat}(hb:b<w.heap.size)(h:tl b=a7):(sink kx tl w).heap[b]?=bb (.coro bk):=by
 simp[sink,AO,yS hb,h]
def fQ {kx tl:Nat->Bool}{w:bc}{b:Nat}{c:Array br}{t:TypeId}{f:Nat×Nat}(hw:w.heap[b]?=bb (.cells c t f))(h:kx b=a7)(h':tl b=bh):(sink kx tl w).heap[b]?=bb (.cells c t (0,c.size)):=by
 simp[sink,AO,hw,h,h']
abbrev Jq (tl:Nat->Bool)(w:bc):Hid:=⟨λb=>tl b||b==w.heap.size,bh,a7⟩
abbrev NL (kx tl:Nat->Bool)(w:bc)(b:Nat):Prop:=kx b=a7\/tl b=a7\/b=w.heap.size\/b=w.heap.size+1\/b=w.heap.size+2
def E3 (kx tl:Nat->Bool)(w:bc)(cb:Nat)(p1:br):World:=froze (froze ((((sink kx tl w).alloc (.coro bk)).alloc (bs #[.pointer (bb ⟨cb,0,bk⟩)] 73)).alloc (bs #[p1] 96)) (w.heap.size+1)) (w.heap.size+2)
inductive RU:br->Prop
 |bool (b:Bool):RU (.bool b)
 |int (k:IntKind) (n:Int):RU (.int k n)
def RU.rel {v V:br}(h:RU v){S S':DT}{β B8:Cm}(r:B6 S β v V):B6 S' B8 v V:=by
 cases h with
 |bool b=>cases r;exact .bool b
 |int k n=>cases r;exact .int k n
def FH (o:Obj):Prop:=∃(l:List br) (t:TypeId) (f:Nat×Nat),o=.cells l.toArray t f/\∀v∈l,RU v
def FH.rel {o O:Obj}(h:FH o){S S':DT}{Ck Ck':df->Prop}{β B8:Cm}(r:C5 S Ck β o O):C5 S' Ck' B8 o O:=by
 obtain⟨l,t,f,rfl,hl⟩:=h;cases r with
 |cells a z=>exact .cells ⟨a.size,λi v V h1 h2=>(hl v (zS (by simpa using h1))).rel (a.at_ i v V h1 h2)⟩ z
def LY (β:Cm)(tl:Nat->Bool)(oK:Nat->Obj)(W:bc):Prop:=∀b B,β b B->tl b=a7->∃O,W.heap[B]?=bb O/\∀(S:DT) (Ck:df->Prop) (B8:Cm),C5 S Ck B8 (oK b) O
structure Hj (SB CI BB:bw->Bool)(w:bc)(kx tl:Nat->Bool)(Kc:Nat->Prop)(Ok:bc->Prop)(cb sb n c:Nat)(f:Fn)(fx fc:Array br)(sets kind:Nat->Int)(Ed:Nat->Bool)(oK oE:Nat->Obj):Prop where
 hB:BB 45=a7
 NK:BB 83=bh
 Z4:SB 45=a7
 Z5:SB 82=a7
 L0:Oe PQ CI CI BB 0
 b0:∀f,CI f=a7->BB f=a7
 Z6:CI 35=a7
 todo:∀H K,Df (Ey a6 SB H a7 a7 (CX K)) (.inRegion o8 []::T8) (.inRegion o8 []::T8)
 only:fd (NL kx tl w) Ok
 ok:Ok (E3 kx tl w cb (.func f fx fc))
 Qb:∀w',Ok w'->w'.cell? ⟨w.heap.size+1,0,bk⟩=bb (.pointer (bb ⟨cb,0,bk⟩))
 hold:∀w',Ok w'->w'.cell? ⟨cb,2,bk⟩=bb (.slice (bb ⟨sb,0,bk⟩) n c)/\∃v,w'.cell? ⟨cb,0,bk⟩=bb v
 Kw:∀w' i,Ok w'->i<n->w'.cell? ⟨sb,i,bk⟩=bb (.int .u8 (sets i))
 Ek:∀w' b,Ok w'->Kc b->kx b=a7/\∃o,w'.heap[b]?=bb o/\C5 (SP CI Bn) (CK B1 CI bh) (CX Kc) o o
 cK:Kc cb
 ks:kx cb=a7/\kx sb=a7
 Z9:∀b,kx b=a7->tl b=bh/\∃(l:List br) (t:TypeId) (g:Nat×Nat),w.heap[b]?=bb (.cells l.toArray t g)/\(∀i,g.1<=i->i<g.2->i<l.length)/\∀v∈l,∀H,Di SB H (λb=>kx b=a7\/tl b=a7) v
 tls:∀b,tl b=a7->w.heap[b]?=bb (oK b)/\FH (oK b)/\FH (oE b)
 GN:∀H,Di SB H (λb=>kx b=a7\/tl b=a7) (.func f fx fc)
 wrap:∀i,i<n->IntKind.i64.wrap ((i:Int)+1)=((i+1:Nat):Int)
 Ky:∀w' i,Ok w'->i<n->∀τ d,Calls B1 35 #[.pointer (bb ⟨cb,0,bk⟩),.pointer (bb ⟨w'.heap.size,0,bk⟩),c0 .i64 0] (on (w'.alloc (first (sets i))) τ d) (λe w2=>∃v,e=.returned v/\((∃y1 y2,v=.agg #[c0 .i64 (kind i),c0 .i64 y1,c0 .i64 y2])/\Ext (w'.alloc (first (sets i))) w2))
 tp0:Ed 0=a7
 tpk:∀i,i<n->kind i≠0->Ed (i+1)=Ed i
 which:∀i,i<n->kind i=0->Ed (i+1)=Ed i\/(Ed i=a7/\Ed (i+1)=bh)
 plain:∀i r w',i<n->kind i=0->Ed (i+1)=Ed i->Ok w'->¬NL kx tl w r->w'.heap[r]?=bb (bs #[.int .u8 (sets i),.int .u8 0,.int .u8 0,.int .u8 0,.int .u8 0] 76 (0,5)) ->
  C1 a6 BB (ID a6 w.heap.size λ_=>True) 0 (bo (bq a6 82 (bO (w.heap.size+1) (w.heap.size+2) w.heap.size r) .deferred) [bad]) w'
 owner:∀i r w',i<n->kind i=0->Ed i=a7->Ed (i+1)=bh->Ok w'->¬NL kx tl w r->w'.heap[r]?=bb (bs #[.int .u8 (sets i),.int .u8 0,.int .u8 0,.int .u8 0,.int .u8 0] 76 (0,5)) ->
  C1 a6 BB (ID a6 w.heap.size λw2=>∀b,tl b=a7->w2.heap[b]?=bb (oE b)) 0 (bo (bq a6 82 (bO (w.heap.size+1) (w.heap.size+2) w.heap.size r) .deferred) [bad]) (FO tl oK w')
section
variable {SB CI BB:bw->Bool} {w:bc} {kx tl:Nat->Bool} {Kc:Nat->Prop} {Ok:bc->Prop} {cb sb n c:Nat} {f:Fn} {fx fc:Array br} {sets kind:Nat->Int} {Ed:Nat->Bool} {oK oE:Nat->Obj}
def Hj.lt (I:Hj SB CI BB w kx tl Kc Ok cb sb n c f fx fc sets kind Ed oK oE){b:Nat}(h:kx b=a7\/tl b=a7):b<w.heap.size:=by
 rcases h with h|h
 .obtain⟨_,_,_,_,h1,_⟩:=I.Z9 b h;exact(yK.1 h1).1
 .exact(yK.1 (I.tls b h).1).1
def FnE (BB:bw->Bool)(tl:Nat->Bool)(w:bc)(tp:Bool)(Oq:Bool)(H:Hid)(g:bn)(w':bc):Prop:=Oq=tp/\H=Jq tl w/\Ch a6 (Dk a6 BB) (Ct.Left a6 45 λv _=>v=.tuple #[]) g w'
def uU {BB:bw->Bool}(hB:BB 45=a7){a:Act}{w':bc}(hd:a.defers=[]):Ch a6 (Dk a6 BB) (Ct.Left a6 45 λv _=>v=.tuple #[]) (bo (((base 45).at a [.inRegion J1 [0]]).finish (.tuple #[])) [bad]) w' :=
 wU hB Ct.Left.same hd (by simp) λa' ha'=>⟨w',.tuple #[],_,⟨rfl,rfl,rfl⟩,rfl,rfl,rfl,rfl,ha',rfl,cF,cq,results_none rfl _ _ _⟩
def Hj.ctx (I:Hj SB CI BB w kx tl Kc Ok cb sb n c f fx fc sets kind Ed oK oE)(lib:∀H,Lib PP SB H a7 BB 0){L:Lib.WgLink}(Wl:Lib.WgLib a6 L)(NK:L.done=83)(hT:L.tWg=145)(Fp:Go.Co.Barred PP SB a7 L.done (Lib.doneFn L))
    {Wg:Nat} {β:Cm} {Pr:Cm} {T:List cf} {Toy:Nat->Prop} (K4:∀b B,Pr b B->tl b=a7->Toy B) (Yk:∀b,tl b=a7->∃B,Pr b B) (Z8:∀b B,Pr b B->NL kx tl w b) (hPw:Pr w.heap.size Wg) (tnw:¬Toy Wg) (abG:∀b B,tl b=a7->(Pr b B↔β b B)) :
    Ctx SB CI BB (Jq tl w) 0 Wg Toy (LY β tl oK) (LY β tl oE) Pr T (FnE BB tl w (Ed n)) (NL kx tl w) Kc Ok (w.heap.size+1) (w.heap.size+2) w.heap.size cb sb n c (.func f fx fc) sets kind Ed:=by
  have hkb:NL kx tl w (w.heap.size+1)/\NL kx tl w (w.heap.size+2)/\NL kx tl w w.heap.size:=⟨.inr (.inr (.inr (.inl rfl))),.inr (.inr (.inr (.inr rfl))),.inr (.inr (.inl rfl))⟩
  refine { hB := I.hB, Z4 := I.Z4, Z5 := I.Z5, L0 := I.L0, b0 := I.b0, Z6 := I.Z6, todo := fun K => I.todo _ K, C8 := rfl, bl := rfl, only := I.only, Qb := I.Qb, Kw := I.Kw, Ek := fun w' b h1 h2 => ?_, cK := I.cK,
           kb := ⟨hkb.1, hkb.2.1, hkb.2.2, .inl I.ks.1, .inl I.ks.2⟩, GN := ((I.GN _).mono fun b hb => hb.elim .inl fun h => .inr (.inl h)), wrap := I.wrap, Ky := I.Ky, tpk := I.tpk, fin := fun a w' hd _ => ⟨rfl, rfl, uU I.hB hd⟩,
           MZ:=λtp H g w1 W1 hs h=>⟨h.1,h.2.1,h.2.2.same (λ_ _ _ _ x=>x) Ct.Left.same hs⟩,go:=λi hi hk K a r x X W ga=>?_ }
  · obtain⟨h3,h4⟩:=I.Ek w' b h1 h2
    exact⟨.inl h3,h4⟩
  · have hm:=ga.Kz I.only
    have Mk:¬NL kx tl w r:=λh=>ga.rK.1 (ga.head.sub _ h);rcases I.which i hi hk with e|⟨e1,e2⟩
    · rw[e]
      exact tj lib Wl NK hT Fp I.only hkb hPw Z8 ga I.NK (I.plain i r _ hi hk e hm.ok Mk (di ga.rb))
    · rw[e2]
      rw[e1] at ga ⊢;refine tk (tl:=tl) (oK:=oK) (Ψk:=λw2=>∀b,tl b=a7->w2.heap[b]?=bb (oE b)) lib Wl NK hT Fp I.only hkb hPw Z8 ga K4 Yk (λb h=>by simp[h]) tnw (λW hW b B hb h=>hW b B ((abG b B h).1 hb) h) (λx W hH hle hw hk b B hb h=>?_) I.NK (I.owner i r _ hi hk e1 e2 hm.ok Mk (di ga.rb));have hp:=hle b B ((abG b B h).2 hb);obtain⟨o,O,h1,h2,h3⟩:=hw.D8 b B hp (by rw[hH];simp[Bq,h])
      rw[hk b h] at h1;cases h1;exact⟨O,h2,λS Ck B8=>(I.tls b h).2.2.rel h3⟩
end
def step_collected {P:cu}{main:Bool}{b:cf}{a:Act}{todo:List Item}{cs:List cf}{w:bc}{D:Nat}{l ds:List Deferred}{x:Array br}(hd:a.defers={ target:=.collected D,args:=x }::ds)(hD:w.heap[D]?=bb (.deferred (bb l))) :
  ∃es,stepG P main (bo { b.at a todo with mode:=.returning } cs) w=.go (bo { b.at ⟨a.tmps,l++ds⟩ todo with mode:=.returning } cs) { w with heap:=w.heap.setIfInBounds D (.deferred bk) } es:=by
 have hr:(b8 D).run P w=.ok l { w with heap:=w.heap.setIfInBounds D (.deferred bk) }:=by
  simp[b8,getObj,setObj,Sem.run,hD,Result.andThen]
 exact⟨seen P b.fn ((b8 D).events P w #[]),by simp[bo,stepG,unwind,Frame.at,hd,hr,GStep.after]⟩
noncomputable abbrev iJ (b2 b3 b4 r:Nat):Array Value:=(dx b2 b3 b4 r).tmps
def wY:codeOk B1 JC bh a7 XR=true:=by kernel_rfl
def mv {BB:bw->Bool}(hL:Pe BB){T0 K0:Nat->Prop}{b2 b3 b4 r:Nat}{H:Hid}(hn:H.bl=bh){Ψ:bc->Prop}{w:bc}(hk:K0 b2/\K0 b3/\K0 b4/\K0 r)(hh:∀b,K0 b->H b=a7->H.C8=a7/\w.heap[b]?=bb (.coro bk))(WO:∀b,H b=a7->b<w.heap.size)
  (Er:∀b,K0 b->H b=bh->∃o,w.heap[b]?=bb o/\C5 (SP JC H) (CK B1 JC bh) (CX K0) o o)
  (hwp:∀τ d,XR.wp B1 (λe a' w'=>(e=.normal\/e=.ret)/\(e=.normal/\Ψ w'/\∃D,a'.defers=[{ target:=.collected D,args:=#[] },Mv b4]/\¬T0 D/\w'.heap[D]?=bb (.deferred (bb [])))) (dx b2 b3 b4 r) (on w τ d))
  (RF:∀W W',Ψ W->(∀b,T0 b->W'.heap[b]?=W.heap[b]?)->Ψ W') :
  C1 a6 BB (ID a6 b4 Ψ) 0 (bo (bq a6 82 (bO b2 b3 b4 r) .deferred) [bad]) w:=by
 have hB:BB (baseD 82).fn=true:=hL.sub 82 (by decide);have hQ:∀g w W,Cs w W->ID a6 b4 Ψ g w->ID a6 b4 Ψ g W:=by
  rintro g w W s ⟨c,e1,e2,e3,e4,e5,e6⟩;exact⟨c,e1,e2,e3,e4,e5,RF w W e6 λb _=>by rw[s.1]⟩
 rw[enter_atD _ b9 rfl];have e0:(bO b2 b3 b4 r++Array.replicate (Tryz.f82.ntmps-(bO b2 b3 b4 r).size) undef)=iJ b2 b3 b4 r:=by
  rw[Tryz.ntmps82];rfl
 rw[e0];refine au hQ hB (Cp _ _) ?_;refine aB hQ hB (Cp _ _) ?_;simp only[yX,yV,zb,Nat.reduceAdd,yZ,List.range,List.range.loop];refine ay hQ hB (by kernel_rfl) λτ d=>?_;rw[stepG_defer rfl rfl (by decide) rfl];simp only[cw];refine⟨Cp _ _,w,Bm,?_⟩;refine aA hQ hB (Cp _ _) ?_;have eA:∀o:Option Tmp,o=bk->(Act.put ⟨iJ b2 b3 b4 r,dcall 83 (#[Operand.tmp 0].map (Act.mk (iJ b2 b3 b4 r) []).eval)::[]⟩ o undef)=dx b2 b3 b4 r:=by
  rintro o rfl;simp[Act.put,iJ,dx,dcall,Mv,Act.eval]
 have hI:∀v∈[a8 (bb ⟨b4,0,bk⟩),.pointer (bb ⟨b2,0,bk⟩),.pointer (bb ⟨r,0,bk⟩),.pointer (bb ⟨b3,0,bk⟩),undef,undef,undef,undef,undef,undef,undef,undef],Di JC H K0 v:=λv hv=>by
  simp only[yT,yQ,or_false] at hv;rcases hv with rfl|rfl|rfl|rfl|rfl|rfl|rfl|rfl|rfl|rfl|rfl|rfl
  .exact Di.ptr hk.2.2.1 _ _
  .exact Di.ptr hk.1 _ _
  .exact Di.ptr hk.2.2.2 _ _
  .exact Di.ptr hk.2.1 _ _
  all_goals exact Di.undef
 have J0:Cq B1 JC H bh (CX K0) ((baseD 82).at (dx b2 b3 b4 r) [.code XR]) ((baseD 82).at (dx b2 b3 b4 r) [.code XR]):=by
  refine⟨rfl,Dn hI,.cons (.code wY) .nil,.cons ?_ .nil,.run,rfl,⟨(by show CallKind.deferred≠.early;decide),(by show JC 82=a7;decide)⟩,.none⟩;refine .fn (.func (.inr (by decide))) (Dn (l:=[]) (by simp)) (Dn (l:=[.pointer (bb ⟨b4,0,bk⟩)]) λv hv=>?_);simp only[yT,yQ,or_false] at hv;subst hv;exact Di.ptr hk.2.2.1 _ _
 have agE:=(wP (H:=H) hL hn).seg (b:=baseD 82) (a:=dx b2 b3 b4 r) (c:=XR) (k:=[]) (C:=bad) (cs:=[]) (Q:=ID a6 b4 Ψ) (w:=w) (K0:=K0) J0 (λ_ _=>zf _) (zf _) hh WO
  Er (λs h=>by cases h) (λ_ _ _ _ _ _ _ _ _ _ _ h=>by cases h) (.inr ⟨_,_,Sq.put b9 rfl,rfl⟩) hQ
  (N:=λe a' w'=>e=.normal/\Ψ w'/\∃D,a'.defers=[{ target:=.collected D,args:=#[] },Mv b4]/\¬T0 D/\w'.heap[D]?=bb (.deferred (bb []))) hwp ?_ (λa' w' todo h _=>by cases h.1)
 .have e9:=eA (#[({ dst:=bk,op:=Op.defer { callee:=Callee.value (Operand.func 83),args:=#[Operand.tmp 0],argTypes:=#[145] },type:=0,pos := "wolf.go:243",after:=#[],guard:=bk }:Oper)][0].dst) rfl;rw[e9];exact agE
 .rintro a' w' ⟨_,agF,D,hd,hD,hDw⟩;show C1 a6 BB (ID a6 b4 Ψ) 0 _ w';refine ay hQ hB (by kernel_rfl) λτ d=>?_;rw[stepG_end];simp only[cw];refine⟨Cp _ _,w',Bm,?_⟩;refine dN hQ hB (by kernel_rfl) λτ d=>?_;obtain⟨es,e1⟩:=step_collected (P:=a6) (main:=a7) (b:=baseD 82) (todo:=[]) (cs:=[bad]) (w:=on w' τ d) hd hDw;rw[e1];simp only[cw];refine⟨Cp _ _,{ w' with heap:=w'.heap.setIfInBounds D (.deferred bk) },⟨rfl,rfl,rfl⟩,?_⟩
  refine dN hQ hB (by kernel_rfl) λτ d=>?_;rw[stepG_unwind_enter (f:=83) (args:=#[.pointer (bb ⟨b4,0,bk⟩)]) (ds:=[]) rfl cU (by kernel_rfl) rfl];simp only[cw];refine⟨Cp _ _,{ w' with heap:=w'.heap.setIfInBounds D (.deferred bk) },⟨rfl,rfl,rfl⟩,.fin ?_⟩;rw[<-enter_atD _ cU rfl];exact⟨_,rfl,rfl,rfl,rfl,rfl,RF w' _ agF λb hb=>zn (λe:D=b=>hD (by rw[e];exact hb))⟩
open Go.ConcN
open Go.ConcR (WgAt wgBlock)
section
variable {SB CI BB SB' BB':bw->Bool} {M4:Bool} {kx tl:Nat->Bool} {Kc:Nat->Prop} {Ok:bc->Prop} {cb sb n c:Nat} {f:Fn} {fx fc:Array br} {sets kind:Nat->Int} {Ed:Nat->Bool} {oK oE:Nat->Obj}
 {Dead:Nat->Prop} {Kp:Gm} {x:Lone} {A:bn} {W:bc}
abbrev GD (cb:Nat)(f:Fn)(fx fc:Array br):Array Value:=#[.pointer (bb ⟨cb,0,bk⟩),.func f fx fc]
noncomputable def inner (kx tl:Nat->Bool)(cb:Nat)(f:Fn)(fx fc:Array br)(x:Lone)(A:bn):Lone :=
 ⟨Go.Ct.C6 (bq a6 45 (GD cb f fx fc) .normal) [bad],(sink kx tl x.w).alloc (.coro bk),Jq tl x.w,cut (λb=>kx b=a7\/tl b=a7) x.β,A.callers⟩
def jR:((sink kx tl x.w).alloc (.coro bk)).heap.size=x.w.heap.size+1:=by rw[aI,dZ]
def ij {b:Nat}(hb:b<x.w.heap.size):((sink kx tl x.w).alloc (.coro bk)).heap[b]?=(sink kx tl x.w).heap[b]?:=by
 rw[aE,dZ,if_neg (by omega)]
def M5 (I:Hj SB CI BB x.w kx tl Kc Ok cb sb n c f fx fc sets kind Ed oK oE)(lib:∀H,Lib PP SB H a7 BB 0){cE:df}(Vb:Tryz.f45.body=bb cE)(Fp:codeOk a6 SB' M4 a7 cE=bh)
  (ht:Tw PP SB' BB' M4 0 Dead Kp x A W) (hH:∀b,x.H b=bh) {fr:cf} {cs:List cf} (hg:x.g=ca PP 45 (GD cb f fx fc) fr cs) :
  Dv PP SB BB a7 (inner kx tl cb f fx fc x A) A/\E2 PP SB a7 0 (inner kx tl cb f fx fc x A) W/\(∀b,tl b=a7->Ro (inner kx tl cb f fx fc x A).w b\/(inner kx tl cb f fx fc x A).H b=a7)/\∀b,kx b=a7->Ro (inner kx tl cb f fx fc x A).w b:=by
 have DL:=ht.gl.top;rw[hg] at DL;obtain⟨ARGS,eA,Es⟩:=M3 (fa:=cF) (fb:=cF) cq cq Vb Fp rfl (by rw[Tryz.ntmps45];simp) DL;have Ij:Ca (SP SB (Jq tl x.w)) (CX λb=>kx b=a7\/tl b=a7) (GD cb f fx fc) (GD cb f fx fc):=Dn λv hv=>by
  simp only[yT,yQ,or_false] at hv;rcases hv with rfl|rfl
  .exact .ptr (.inl I.ks.1) _ _
  .exact I.GN _
 refine⟨⟨?_,.base,⟨rfl,ht.gl.status.2⟩,⟨rfl,ht.gl.dying.2⟩,⟨rfl,ht.gl.offers.2⟩⟩,⟨⟨λh1 h2=>ht.wl.DG.fn h1.2 h2.2,λh1 h2=>ht.wl.DG.inj h1.2 h2.2,λ_=>⟨zf _,zf _⟩⟩,⟨zf _,zf _⟩,?_,?_,?_,?_⟩,λb hb=>.inr (by simp[inner,hb]),λb hb=>?_⟩
 .rw[eA];exact Dg (P:=PP) (lib _) (.inl I.Z4) (Es.cut rfl Ij) .normal (by decide)
 .rintro b B ⟨hk,hb⟩ hh;have GQ:(tl b||b==x.w.heap.size)=false:=hh;simp only[Au] at GQ;have hkx:kx b=true:=hk.resolve_right (by simp[GQ.1]);obtain⟨e1,l,t,g,e2,e3,e4⟩:=I.Z9 b hkx;obtain⟨o,O,q1,q2,q3⟩:=ht.wl.D8 b B hb (hH b);rw[e2] at q1;cases q1;have hlt:=I.lt (.inl hkx);cases q3 with
  |cells a z =>
   refine⟨_,_,(ij hlt).trans (fQ e2 hkx e1),q2,.cells (a.cut rfl (Dn λv hv=>e4 v hv _)) λi h1 h2=>?_⟩;obtain⟨z1,z2⟩:=z i h1 h2;exact⟨zf _,by simpa using e3 i z1 z2⟩
 .rintro b B ⟨hk,hb⟩ hh;have hlt:=I.lt hk;have GQ:(tl b||b==x.w.heap.size)=true:=hh;have MX:tl b=true:=by
   simp only[zk,beq_iff_eq] at GQ;exact GQ.resolve_right (by omega)
  refine⟨(ij hlt).trans (kG hlt MX),λ_=>?_,λh=>by cases h⟩;obtain⟨e1,⟨l,t,g,e2,e3⟩,_⟩:=I.tls b MX;obtain⟨o,O,q1,q2,q3⟩:=ht.wl.D8 b B hb (hH b);rw[e1,e2] at q1;cases q1;cases q3 with
  |cells a z=>exact⟨_,_,_,q2⟩
 .intro b hb;have hb':(tl b||b==x.w.heap.size)=true:=hb;show b<((sink kx tl x.w).alloc (.coro bk)).heap.size;rw[jR];simp only[zk,beq_iff_eq] at hb';rcases hb' with h|h
  .have:=I.lt (.inr h);omega
  .omega
 .exact ht.wl.env
 .obtain⟨e1,l,t,g,e2,e3,e4⟩:=I.Z9 b hb;exact⟨_,_,_,(ij (I.lt (.inl hb))).trans (fQ e2 hb e1),λi hi=>⟨zf _,hi⟩⟩
def Ym {p:cu}{H:Hid}{lets:Bool}{β:Cm}{g:bw}{a:Act}{ops:Array Oper}{l:List Nat}{k:List Item}{F:cf}(h:Cq p SB H lets β ((base g).at a (.inRegion ops l::k)) F) :
  ∃(a':Act) (K:List Item),F=(base g).at a' (.inRegion ops l::K):=by
 obtain⟨h1,h2,h3,h4,h5,h6,h7,h8⟩:=h;obtain⟨f1,f2,f3,f4,f5,f6,f7⟩:=F;dsimp only[Frame.at,base] at h1 h2 h3 h4 h5 h6 h7 h8;subst h1 h6;cases h5;cases h8;cases h3 with
 |cons hi _ =>
  cases hi
  exact⟨⟨f2,f4⟩,_,rfl⟩
noncomputable abbrev gA (cb b2 b3:Nat)(p1:br):Act:=⟨#[.pointer (bb ⟨cb,0,bk⟩),p1,.pointer (bb ⟨b2,0,bk⟩),.pointer (bb ⟨b3,0,bk⟩),undef,undef,undef,undef,undef,undef,undef,undef,undef,undef,undef,undef,undef,undef,undef,undef,undef,undef,undef,undef,undef,undef,undef],[]⟩
noncomputable abbrev kA:List Item:=[.code (.seq (.seq (.region 2 o2 bh) (.block 0 (.loop eL))) (.region 10 J1 bh))]
def boxed (w:bc)(cb:Nat)(p1:br):World:=(w.alloc (bs #[.pointer (bb ⟨cb,0,bk⟩)] 73)).alloc (bs #[p1] 96)
def QA (cb:Nat)(p1:br)(w0:bc)(g:bn)(w:bc):Prop:=g=G ((base 45).at (gA cb w0.heap.size (w0.heap.size+1) p1) (.inRegion o1 [0]::kA)) [bad]/\Cs (boxed w0 cb p1) w
def Ow {P:CL}{lets:Bool}(hBB:BB 45=a7){x:Lone}{a:bn}{W:bc}{cb b2 b3 b4:Nat}{p1:br}(hg:x.g=G ((base 45).at (gA cb b2 b3 p1) (.inRegion o1 [0]::kA)) [bad])(Jn:Dv P SB BB lets x a)
  {β:Cm} (hle:x.β.le β) (hb4:β b4 W.heap.size) :
  ∃a',stepG a6 a7 a W=.go a' (W.alloc (bs #[.int .u64 0,.int .u32 0] 145)) #[]/\Dv P SB BB lets ⟨G ((base 45).at ((gA cb b2 b3 p1).put (bb 4) (.pointer (bb ⟨b4,0,bk⟩))) (.inRegion o1 []::kA)) [bad],x.w,x.H,β,x.T⟩ a':=by
 have DL:=Jn.top.Hh (by rw[hg];exact hBB);have hcs:=Jn.callers;have ea:=ii Jn;rw[hg] at DL hcs;obtain⟨A,K,eA⟩:=Ym DL;refine⟨_,by rw[ea,eA];exact pE,?_⟩;have hf:=bj (DL.mono hle) (v:=.pointer (bb ⟨b4,0,bk⟩)) (V:=.pointer (bb ⟨W.heap.size,0,bk⟩)) (.ptr 0 bk hb4);rw[eA] at hf;have e1:(o1[0]?).bind (·.dst)=bb 4:=rfl;change Cq _ _ _ _ _ (((base 45).at (gA cb b2 b3 p1) (.inRegion o1 [0]::kA)).finish _) _ at hf
 rw[cr,cr,e1] at hf;exact⟨.on hf,hcs.mono λc C h=>h.mono hle,⟨rfl,rfl⟩,⟨rfl,rfl⟩,⟨rfl,rfl⟩⟩
def uV {cb:Nat}{p1:br}{w0:bc}(g:bn)(w W:bc)(h:Cs w W)(q:QA cb p1 w0 g w):QA cb p1 w0 g W:=⟨q.1,q.2.trans h⟩
def pK (hB:BB 45=a7){w:bc}:Ch a6 (Dk a6 BB) (QA cb (.func f fx fc) w) (Go.Ct.C6 (bq a6 45 (GD cb f fx fc) .normal) [bad]) w :=
 uN hB uV (by simp) (.fin ⟨rfl,rfl,rfl,rfl⟩)
def bp (w:bc)(p1:br)(b:Nat):(E3 kx tl w cb p1).heap[b]?=if b=w.heap.size+2 then bb (bs #[p1] 96 (0,1)) else if b=w.heap.size+1 then bb (bs #[.pointer (bb ⟨cb,0,bk⟩)] 73 (0,1)) else if b=w.heap.size then bb (.coro bk) else(sink kx tl w).heap[b]?:=by
 have z:=dZ kx tl w;have g:∀b,((((sink kx tl w).alloc (.coro bk)).alloc (bs #[.pointer (bb ⟨cb,0,bk⟩)] 73)).alloc (bs #[p1] 96)).heap[b]?=if b=w.heap.size+2 then bb (bs #[p1] 96) else if b=w.heap.size+1 then bb (bs #[.pointer (bb ⟨cb,0,bk⟩)] 73) else if b=w.heap.size then bb (.coro bk) else(sink kx tl w).heap[b]?:=λb=>by
  rw[aE,aI,aI,aE,aI,aE,z]
 unfold E3;by_cases h2:b=w.heap.size+2
 .subst h2;rw[if_pos rfl];exact di (c:=#[p1]) (t:=96) (f:=(0,0)) (by rw[eZ _ (by omega),g,if_pos rfl])
 .rw[if_neg h2,eZ _ h2];by_cases h1:b=w.heap.size+1
  .subst h1;rw[if_pos rfl];exact di (c:=#[.pointer (bb ⟨cb,0,bk⟩)]) (t:=73) (f:=(0,0)) (by rw[g,if_neg (by omega),if_pos rfl])
  .rw[if_neg h1,eZ _ h1,g,if_neg h2,if_neg h1]
def dU (w:bc)(p1:br):(E3 kx tl w cb p1).heap.size=w.heap.size+3:=by
 unfold E3;rw[cS,cS,aI,aI,aI,dZ]
def rh (w:bc)(p1:br):(E3 kx tl w cb p1).os=w.os:=by
 unfold E3;rw[gm,gm];rfl
def pL (I:Hj SB CI BB x.w kx tl Kc Ok cb sb n c f fx fc sets kind Ed oK oE):Head SB (Jq tl x.w) 0 (NL kx tl x.w) Ok (NL kx tl x.w) (E3 kx tl x.w cb (.func f fx fc)):=by
 have hk:∀b,kx b=a7\/tl b=a7->b<x.w.heap.size:=λb h=>I.lt h;refine⟨λ_ h=>h,λb hb hh=>?_,λb hb hh=>?_,λ_ _=>zf _,λb hb=>?_,λb hb=>?_,zf _,I.ok⟩
 .have GQ:(tl b||b==x.w.heap.size)=false:=hh;simp only[Au,beq_eq_false_iff_ne] at GQ;rw[bp];unfold Ro;rw[bp];rcases hb with h|h|h|h|h
  .have hl:=hk b (.inl h);obtain⟨e1,l,t,g,e2,e3,e4⟩:=I.Z9 b h;rw[if_neg (by omega),if_neg (by omega),if_neg (by omega),fQ e2 h e1];exact⟨⟨_,_,_,rfl,λi hi=>⟨zf _,hi⟩⟩,_,rfl,.cells (Dn λv hv=>(e4 v hv _).mono λb hb=>hb.elim .inl λh=>.inr (.inl h)) λi h1 h2=>⟨h1,h2⟩⟩
  .rw[GQ.1] at h;cases h
  .exact absurd h GQ.2
  .subst h;rw[if_neg (by omega),if_pos rfl]
   exact⟨⟨_,_,_,rfl,λi hi=>⟨zf _,hi⟩⟩,_,rfl,.cells (Dn (l:=[_]) λv hv=>by
    simp only[yT,yQ,or_false] at hv;subst hv
    exact .ptr (.inl I.ks.1) _ _) λi h1 h2=>⟨h1,h2⟩⟩
  .subst h;rw[if_pos rfl]
   exact⟨⟨_,_,_,rfl,λi hi=>⟨zf _,hi⟩⟩,_,rfl,.cells (Dn (l:=[_]) λv hv=>by
    simp only[yT,yQ,or_false] at hv;subst hv
    exact(I.GN _).mono λb hb=>hb.elim .inl λh=>.inr (.inl h)) λi h1 h2=>⟨h1,h2⟩⟩
 .have GQ:(tl b||b==x.w.heap.size)=true:=hh;simp only[zk,beq_iff_eq] at GQ;rw[bp];rcases GQ with h|h
  .have hl:=hk b (.inr h);rw[if_neg (by omega),if_neg (by omega),if_neg (by omega),kG hl h]
  .subst h;rw[if_neg (by omega),if_neg (by omega),if_pos rfl]
 .rw[dU];rcases hb with h|h|h|h|h
  .have:=hk b (.inl h);omega
  .have:=hk b (.inr h);omega
  all_goals omega
 .have hb':(tl b||b==x.w.heap.size)=true:=hb;simp only[zk,beq_iff_eq] at hb';rw[dU];rcases hb' with h|h
  .have:=hk b (.inr h);omega
  .omega
def oF (tpn:Bool)(oK oE:Nat->Obj):Nat->Obj:=if tpn then oK else oE
def Li {sl:Option (Nat×Nat)}{gs:Array bn}{t:Trace}{q:Nat->Nat}(I:Hj SB CI BB x.w kx tl Kc Ok cb sb n c f fx fc sets kind Ed oK oE)(lib:∀H,Lib PP SB H a7 BB 0){cE:df}(Vb:Tryz.f45.body=bb cE)(Fp:codeOk a6 SB' M4 a7 cE=bh)
  {L:Lib.WgLink} (Wl:Lib.WgLib a6 L) (h91:L.add=81) (h94:L.wait=84) (NK:L.done=83) (hT:L.tWg=145) (bA:Go.Co.Barred PP SB a7 L.add (Lib.addFn L)) (bW:Go.Co.Barred PP SB a7 L.wait (Lib.waitFn L)) (bD:Go.Co.Barred PP SB a7 L.done (Lib.doneFn L))
  (hb:H7 a6 Dead gs W t q) (ht:Tw PP SB' BB' M4 0 Dead Kp x A W) (h0:gs[0]?=bb A) {fr:cf} {cs:List cf} (hg:x.g=ca PP 45 (GD cb f fx fc) fr cs) (hc:eY fr) (hH:∀b,x.H b=bh)
  (WR:∀b,kx b=a7\/tl b=a7->∃B,x.β b B) (hKp:∀b B,x.β b B->tl b=a7->¬Kp.at_ B) (Le:gs.size+n<=2147483647) :
  ∃N m' t',runNT a6 N (crowd gs W sl) t=(.next m',t')/\∃gs' W' sl' q' A' FP,m'=crowd gs' W' sl'/\gs'[0]?=bb A'/\gs'.size<=gs.size+n/\H7 a6 FP gs' W' t' q' /\
   Tw PP SB' BB' M4 0 FP Kp ⟨back fr cs,FO tl (oF (Ed n) oK oE) x.w,x.H,x.β,x.T⟩ A' W'/\(W'.os=W.os/\W'.output=W.output)/\W.heap.size<=W'.heap.size/\∀B,FP B->Dead B\/W.heap.size<=B:=by
 obtain⟨s1,s2,s3,s4⟩:=M5 I lib Vb Fp ht hH hg;have hcs:=ht.gl.callers;rw[hg] at hcs;obtain⟨FR,CS,Yd,r1,r2⟩:=IC hcs hc;have LZ:∀b B,x.β b B->¬Dead B:=λb B hb hd=>by have:=ht.dead b B hb hd;rw[hH] at this;cases this
 have Yn:∀b B,x.β b B->b<x.w.heap.size/\B<W.heap.size:=λb B h=>ht.wl.lt h;have Ex:∀b,kx b=a7\/tl b=a7->b<x.w.heap.size:=λb h=>I.lt h;have isz:((sink kx tl x.w).alloc (.coro bk)).heap.size=x.w.heap.size+1:=jR;have kx0:∀b B,(inner kx tl cb f fx fc x A).β b B->(inner kx tl cb f fx fc x A).H b=a7\/Ro (inner kx tl cb f fx fc x A).w b:=λb B hb=>hb.1.elim (λh=>.inr (s4 b h)) λh=>.inl (by simp[inner,h])
 obtain⟨N1,m1,t1,hr1,Lh,W1,Qc,q1,x1,a1,rfl,g1,z1,b1,tw1,Q1,eH1,eT1,QL,os1,sz1,sz1',abJ⟩:=JF (P:=PP) (SB:=SB) (BB:=BB) (lets:=a7) (Gn:=0) (Dead:=Dead) (Kp:=⟨λB=>B<W.heap.size,W,0⟩) lib
  (H:=Jq tl x.w) (T:=A.callers) (β:=cut (λb=>kx b=a7\/tl b=a7) x.β) (Q:=QA cb (.func f fx fc) ((sink kx tl x.w).alloc (.coro bk))) (os:=W.os) (ou:=W) (n:=gs.size) (b0:=x.w.heap.size+1) (B0:=W.heap.size) _ (crowd gs W sl) t
  ⟨gs,W,sl,q,inner kx tl cb f fx fc x A,A,rfl,h0,rfl,hb,⟨s1,s2,rfl,λb B hb hd=>absurd hd (LZ b B hb.2),λB hB=>⟨hB,rfl⟩,λb B hb _=>kx0 b B hb⟩,pK I.hB,rfl,rfl,Cm.le_refl _,⟨rfl,rfl⟩,⟨yL _,zP isz.symm,λb B h=>.inl h⟩,rfl⟩
 obtain⟨Q1g,Q1w⟩:=Q1;rw[isz] at Q1g;obtain⟨N2,m2,t2,hr2,Z2,d2,U6,q2,st2,g2,z2,b2⟩:=Lg (P:=PP) (sl:=Qc) b1 g1 tw1.gl.status.2;obtain⟨W2,hW2⟩:∃W2,W2=W1.at d2:=⟨_,rfl⟩;have tw2:=tw1.at d2;rw[<-hW2] at st2 b2 tw2;have W2h:W2.heap=W1.heap:=by rw[hW2];rfl
 have W2o:W2.os=W1.os/\W2.output=W1.output:=by rw[hW2];exact⟨rfl,rfl⟩
 have Yo:∀b B,tl b=a7->(x1.β b B↔x.β b B):=λb B h=>by
  obtain⟨B',hB'⟩:=WR b (.inr h);have h1:=QL b B' ⟨.inr h,hB'⟩;exact⟨λh2=>by rw[tw1.wl.DG.fn h2 h1];exact hB',λh2=>QL b B ⟨.inr h,h2⟩⟩
 have WS:∀B,¬x1.β x.w.heap.size B:=λB h=>by
  rcases abJ _ _ h with h|h
  .have:=Ex _ h.1;omega
  .omega
 have lt1:∀b B,x1.β b B->B<W2.heap.size:=λb B h=>by rw[W2h];exact(tw1.wl.lt h).2
 have abL:∀b B,x1.β b B->B<W.heap.size->x.β b B/\(kx b=a7\/tl b=a7):=λb B h hB=>by
  rcases abJ _ _ h with h|h
  .exact⟨h.2,h.1⟩
  .omega
 obtain⟨Eu,Vd⟩:∃Eu,Eu=more x1.β x.w.heap.size W2.heap.size:=⟨_,rfl⟩;have UY:x1.β.le Eu:=by rw[Vd];exact oz _ _ _
 have cs3:∀b B,Eu b B->x1.β b B\/(b=x.w.heap.size/\B=W2.heap.size):=λb B h=>by rw[Vd] at h;exact h
 have RX:Eu x.w.heap.size W2.heap.size:=by rw[Vd];exact .inr ⟨rfl,rfl⟩
 obtain⟨A3,st3,gl3⟩:=Ow I.hB Q1g tw2.gl UY RX;obtain⟨W3,hW3⟩:∃W3,W3=W2.alloc (bs #[.int .u64 0,.int .u32 0] 145):=⟨_,rfl⟩;rw[<-hW3] at st3;have abN:∀B,B<W2.heap.size->W3.heap[B]?=W2.heap[B]?:=λB h=>by rw[hW3,aE,if_neg (by omega)]
 have agK:W3.heap.size=W2.heap.size+1:=by rw[hW3,aI]
 have abO:W3.os=W2.os/\W3.output=W2.output:=by rw[hW3];exact⟨rfl,rfl⟩
 obtain⟨gs3,agL,z3,g3,lv3⟩:=b2.abE (P:=PP) (sl:=U6) g2 st3;have hr3:runNT a6 (N1+(N2+1)) (crowd gs W sl) t=(.next (crowd gs3 W3 U6),t2):=by
  have e1:runNT a6 N1 (crowd gs W sl) t=(.next (crowd Lh W1 Qc),t1):=hr1;have e2:runNT a6 N2 (crowd Lh W1 Qc) t1=(.next m2,t2):=hr2;have e3:stepT a6 m2=(.next (crowd gs3 W3 U6),#[]):=st2.trans agL;rw[cT e1,cT e2,oC e3,Array.append_empty]
 have wl3:CV (SP SB (Jq tl x.w)) (CK a6 SB a7) 0 Eu (E3 kx tl x.w cb (.func f fx fc)) W3:=by
  have e1:CV (SP SB (Jq tl x.w)) (CK a6 SB a7) 0 x1.β x1.w W2:=by have:=tw2.wl;rw[E2,eH1] at this;exact this
  have bx:∀b,x1.w.heap[b]?=if b=x.w.heap.size+2 then bb (bs #[.func f fx fc] 96) else if b=x.w.heap.size+1 then bb (bs #[.pointer (bb ⟨cb,0,bk⟩)] 73) else if b=x.w.heap.size then bb (.coro bk) else(sink kx tl x.w).heap[b]?:=λb=>by
   rw[Q1w.1,boxed,aE,aI,isz,aE,isz,aE,dZ]
  have e2:=ra (c:=#[.int .u64 0,.int .u32 0]) (ty:=145) (f:=(0,0)) e1 (b:=x.w.heap.size) WS (by simp) rfl (by rw[bx,if_neg (by omega),if_neg (by omega),if_pos rfl]) (zf _);rw[<-Vd] at e2;rw[hW3];refine rg e2 ?_ ?_ λb=>?_
  .rw[dU,Q1w.1,boxed,aI,aI,isz]
  .rw[rh,Q1w.2.1];rfl
  .rw[bp,bx];by_cases h2:b=x.w.heap.size+2
   .rw[if_pos h2,if_pos h2];exact .inr ⟨_,_,_,_,rfl,rfl,λi h1 h2=>by simp at h2⟩
   .rw[if_neg h2,if_neg h2];by_cases h1:b=x.w.heap.size+1
    .rw[if_pos h1,if_pos h1];exact .inr ⟨_,_,_,_,rfl,rfl,λi h1 h2=>by simp at h2⟩
    .rw[if_neg h1,if_neg h1];exact .inl rfl
 obtain⟨Toy,K4⟩:∃Toy:Nat->Prop,Toy=λB=>∃b,tl b=a7/\x.β b B:=⟨_,rfl⟩;obtain⟨Pr,K3⟩:∃Pr:Cm,Pr=cut (NL kx tl x.w) Eu:=⟨_,rfl⟩;have Pp:∀B,Toy B->B<W.heap.size:=λB h=>by rw[K4] at h;obtain⟨b,_,h⟩:=h;exact(Yn _ _ h).2
 have W23:W2.heap.size=W1.heap.size:=by rw[W2h]
 have n0:∀b,kx b=a7\/tl b=a7->b≠x.w.heap.size:=λb h e=>by have:=Ex b h;omega
 have Ve:∀b B,tl b=a7->(Eu b B↔x.β b B):=λb B h=>⟨λh3=>by
  rcases cs3 b B h3 with h4|h4
  .exact(Yo b B h).1 h4
  .exact absurd h4.1 (n0 b (.inr h)),λh3=>UY _ _ ((Yo b B h).2 h3)⟩
 have Yp:∀b B,Eu b B->Toy B->tl b=true:=λb B h hB=>by
  have hlt:=Pp B hB;rw[K4] at hB;obtain⟨b',h1,h2⟩:=hB;rcases cs3 b B h with h4|h4
  .have h5:=(abL b B h4 hlt).1;rw[ht.wl.DG.inj h5 h2];exact h1
  .omega
 have C:=I.ctx (β:=x.β) (Pr:=Pr) (T:=A.callers) (Toy:=Toy) (Wg:=W2.heap.size) lib Wl NK hT bD (λb B h1 h2=>by rw[K3] at h1;rw[K4];exact⟨b,h2,(Ve b B h2).1 h1.2⟩)
  (λb h=>by obtain⟨B,hB⟩:=WR b (.inr h);exact⟨B,by rw[K3];exact⟨.inr (.inl h),(Ve b B h).2 hB⟩⟩) (λb B h=>by rw[K3] at h;exact h.1) (by rw[K3];exact⟨.inr (.inr (.inl rfl)),RX⟩) (λh=>by have:=Pp _ h;omega)
  (λb B h=>by rw[K3];exact⟨λh1=>(Ve b B h).1 h1.2,λh1=>⟨.inr (.inl h),(Ve b B h).2 h1⟩⟩)
 have P3:=pL I;have sw:∀b,b<x.w.heap.size+3->(E3 kx tl x.w cb (.func f fx fc)).heap[b]?≠none:=λb hb=>by rw[Ne,Array.getElem?_eq_none_iff,dU];omega
 have scr : X9 PP SB BB a7 0 145 W2.heap.size Toy (LY x.β tl oK) (LY x.β tl oE) 81 84 x.w.heap.size Pr A.callers (FnE BB tl x.w (Ed n)) n a7 (Jq tl x.w)
   (G ((base 45).at ((gA cb (x.w.heap.size+1) (x.w.heap.size+1+1) (.func f fx fc)).put (bb 4) (.pointer (bb ⟨x.w.heap.size,0,bk⟩))) (.inRegion o1 []::kA)) [bad]) (E3 kx tl x.w cb (.func f fx fc)):=by
  obtain⟨e1,v,e2⟩:=I.hold _ I.ok;refine uO I.hB (dj C.MZ n) (by simp) (I.Qb _ I.ok) e1 e2 ?_
  have:=th C (λb B h=>by rw[K3] at h;exact h.1) n 0 (by omega) (NL kx tl x.w) _ P3 undef undef undef (.pointer (bb ⟨cb,0,bk⟩)) (.pointer (bb ⟨cb,0,bk⟩)) (.pointer (bb ⟨cb,2,bk⟩)) undef undef undef undef undef undef undef undef undef undef undef undef undef (λv hv=>by
   simp only[yT,yQ,or_false] at hv
   rcases hv with rfl|rfl|rfl|rfl|rfl|rfl|rfl|rfl|rfl|rfl|rfl<;>first|exact B6.undef _ _|exact .ptr (.inl I.ks.1) _ _)
  rw[I.tp0] at this;exact this
 have abQ:=tw2.keep;have abR:∀B,B<W.heap.size->W3.heap[B]?=W.heap[B]?:=λB hB=>by
  obtain⟨h1,h2⟩:=abQ B hB;rw[abN B h1];exact h2
 have abS:W3.os=W.os/\W3.output=W.output:=⟨abO.1.trans (W2o.1.trans os1.1),abO.2.trans (W2o.2.trans os1.2)⟩;obtain⟨x3,hx3⟩:∃x3:Lone,x3=⟨G ((base 45).at ((gA cb (x.w.heap.size+1) (x.w.heap.size+1+1) (.func f fx fc)).put (bb 4) (.pointer (bb ⟨x.w.heap.size,0,bk⟩))) (.inRegion o1 []::kA)) [bad],E3 kx tl x.w cb (.func f fx fc),Jq tl x.w,Eu,A.callers⟩:=⟨_,rfl⟩;have agM:Dv PP SB BB a7 x3 A3:=by rw[hx3];rw[eH1,eT1] at gl3;exact gl3
 have b3:x3.β=Eu:=by rw[hx3]
 have H3:x3.H=Jq tl x.w:=by rw[hx3]
 have wg3:∀b,Eu b W2.heap.size->(Jq tl x.w).at_ b=true:=λb hb=>by
  rcases cs3 _ _ hb with h|h
  .have:=lt1 _ _ h;omega
  .simp[h.1]
 have nd3:∀b B,Eu b B->¬Dead B:=λb B hb hd=>by
  rcases cs3 _ _ hb with h|h
  .have h1:=tw2.dead b B h hd;rw[eH1] at h1;simp only[zk,beq_iff_eq] at h1;rcases h1 with h1|rfl
   .exact LZ b B ((Yo b B h1).1 h) hd
   .exact WS _ h
  .have:=b2.low B hd;omega
 have Yq:∀b B,Eu b B->B<W.heap.size->(Jq tl x.w).at_ b=a7\/Ro (E3 kx tl x.w cb (.func f fx fc)) b:=λb B hb hB=>by
  rcases cs3 _ _ hb with h|h
  .rcases(abL b B h hB).2 with h|h
   .have hl:=Ex b (.inl h);obtain⟨q1,l,ty,g,q2,q3,q4⟩:=I.Z9 b h;refine .inr ?_;unfold Ro;rw[bp,if_neg (by omega),if_neg (by omega),if_neg (by omega),fQ q2 h q1];exact⟨_,_,_,rfl,λi hi=>⟨zf _,hi⟩⟩
   .exact .inl (by simp[h])
  .exact .inl (by simp[h.1])
 have abT:LY x.β tl oK W3:=λb B hb h=>by
  obtain⟨o,O,p1,p2,p3⟩:=ht.wl.D8 b B hb (hH b);obtain⟨q1,q2,_⟩:=I.tls b h;rw[q1] at p1;cases p1;exact⟨O,(abR B (Yn b B hb).2).trans p2,λS Ck B8=>q2.rel p3⟩
 obtain⟨μ,hinv⟩:=MU (P:=PP) (SB:=SB) (BB:=BB) (lets:=a7) (Gn:=0) (ty:=145) (Wg:=W2.heap.size) (Dead:=Dead) (Toy:=Toy) (Kp:=⟨λB=>B<W.heap.size/\¬Toy B,W,gs.size+n⟩) (Ψ0:=LY x.β tl oK) (Ψ2:=LY x.β tl oE) (fA:=81) (fW:=84) (wl:=x.w.heap.size) (Pr:=Pr) (T:=A.callers) (Fn:=FnE BB tl x.w (Ed n))
  (gs:=gs3) (W:=W3) (t:=t2) (q:=q2) (sl:=U6) (x:=x3) (a:=A3) (tp:=a7) (k:=n) lv3 b2.past b2.quiet (λi op h=>by rw[z3];exact b2.RP i op h) b2.low (by show W3.heap[W2.heap.size]?=_;rw[hW3,aE,if_pos rfl];rfl) g3
  agM (by rw[hx3];exact wl3) (by rw[H3]) (by rw[hx3]) (λb B h=>by rw[K3] at h;rw[b3];exact h.2) (λb hb=>by rw[b3] at hb;rw[H3];exact wg3 b hb) (λb B hb=>by rw[b3] at hb;exact nd3 b B hb) (λb B hb hB=>by rw[b3] at hb;rw[H3];simp[Yp b B hb hB])
  (λB hB=>⟨⟨by have:=Pp B hB;omega,λhd=>by rw[K4] at hB;obtain⟨b,_,h⟩:=hB;exact LZ _ _ h hd⟩,λh=>h.2 hB,by have:=Pp B hB;omega⟩)
  (λB hB=>⟨by have:=hB.1;omega,by have:=hB.1;omega,abR B hB.1⟩) (λb B hb hB=>by rw[b3] at hb;have:=Yq b B hb hB.1;rw[hx3];exact this) abS ⟨λ_=>abT,λh=>(by cases h)⟩ (by rw[hx3];exact scr) (by simp only;omega)
 have tzK:av Toy (LY x.β tl oK):=λW W' hW h b B h1 h2=>by
  obtain⟨O,h3,h4⟩:=h b B h1 h2;exact⟨O,(hW B (by rw[K4];exact⟨b,h2,h1⟩)).trans h3,h4⟩
 have tzE:av Toy (LY x.β tl oE):=λW W' hW h b B h1 h2=>by
  obtain⟨O,h3,h4⟩:=h b B h1 h2;exact⟨O,(hW B (by rw[K4];exact⟨b,h2,h1⟩)).trans h3,h4⟩
 have hA:=abz (P:=PP) (SB:=SB) (BB:=BB) (lets:=a7) (Gn:=0) (Wg:=W2.heap.size) (T:=A.callers) (L:=L) Wl bA x.w.heap.size;have hW:=wV (P:=PP) (SB:=SB) (BB:=BB) (lets:=a7) (Gn:=0) (Wg:=W2.heap.size) (T:=A.callers) (L:=L) Wl bW x.w.heap.size;rw[hT,h91] at hA;rw[hT,h94] at hW;obtain⟨N4,m4,t4,hr4,Ie⟩:=join (by rw[K3];exact⟨.inr (.inr (.inl rfl)),RX⟩) lib (λf fn h _=>h) tzK tzE hA hW hinv;obtain⟨UB,W4,Yr,x4,a4,tp4,q4,rfl,g4,lv4,abU,Ys,agN,RY,wl4,tw4,wg4,abV,agO,abW,agP,dl4,agQ,agR,os4,ou4,bd4,Yt⟩:=MR Ie
 obtain⟨e4,eH4,r4⟩:=RY.fin;have agS:∀B,B<W.heap.size->B<W4.heap.size:=λB h=>by omega
 have b4:H7 a6 (λB=>Dead B\/B=W2.heap.size) UB W4 t4 q4:=⟨lv4,abU,Ys,agN,λB hB=>hB.elim (dl4 B) λh=>h▸agP⟩
 have agT:Tw PP SB BB a7 0 (λB=>Dead B\/B=W2.heap.size) ⟨λB=>B<W.heap.size,W4,0⟩ x4 a4 W4:=⟨RY.gl,wl4,tw4,λb B hb hd=>hd.elim (λh=>absurd h (abV b B hb)) λh=>wg4 b (h▸hb),λB hB=>⟨agS B hB,rfl⟩,λb B hb hB=>by
  by_cases Yl:Toy B
  .exact .inl (agO b B hb Yl)
  .exact Yt b B hb ⟨hB,Yl⟩⟩
 obtain⟨N5,m5,t5,hr5,gs5,W5,sl5,q5,x5,a5,rfl,g5,z5,b5,tw5,Q5,eH5,eT5,le5,os5,sz5,sz5',new5⟩:=JF (P:=PP) (SB:=SB) (BB:=BB) (lets:=a7) (Gn:=0) (Kp:=⟨λB=>B<W.heap.size,W4,0⟩) lib
  (H:=x4.H) (T:=x4.T) (β:=x4.β) (Q:=Ct.Left a6 45 λv _=>v=.tuple #[]) (os:=W4.os) (ou:=W4) (n:=UB.size) (b0:=0) (B0:=W4.heap.size) _ (crowd UB W4 Yr) t4
  ⟨UB,W4,Yr,q4,x4,a4,rfl,g4,rfl,b4,agT,r4,rfl,rfl,Cm.le_refl _,⟨rfl,rfl⟩,⟨yL _,zf _,λb B h=>.inl h⟩,rfl⟩
 obtain⟨N6,m6,t6,hr6,gs6,d6,sl6,q6,st6,g6,z6,b6⟩:=Lg (P:=PP) (sl:=sl5) b5 g5 tw5.gl.status.2;have tw6:=tw5.at d6;have agU:El PP SB x5.H a7 BB (FR::CS) x5.β x5.g a5:=by
  have:=tw5.gl;rw[Dv,eT5,RY.t,Yd] at this;exact this
 obtain⟨v,w0,w1,V,W7,ES,β7,_,hv,_,st7,hV,RZ⟩:=leave (P:=PP) (lib x5.H) (main2:=a7) Q5 I.hB agU tw6.wl;subst hv;have eV:V=.tuple #[]:=by
  cases hV with
  |@tuple _ X h1 _ =>
   have:X=#[]:=by simpa using h1.symm
   rw[this]
 subst eV;obtain⟨gs7,abY,agW,z7,g7,b7⟩:=b6.fin (P:=PP) (SB:=SB) (lets:=a7) (Gn:=0) (x:=x5) tw5.tw tw6.dead g6 st7 RZ sl6;obtain⟨abZ,_⟩:=Kt (P:=PP) (SB:=SB) (lets:=a7) (Gn:=0) (x:=x5) RZ tw6.keep tw6.D7;have hrun:runNT a6 ((N1+(N2+1))+(N4+(N5+(N6+1)))) (crowd gs W sl) t=(.next (crowd gs7 W7 sl6),t6++abY):=by
  have e4:runNT a6 N4 (crowd gs3 W3 U6) t2=(.next (crowd UB W4 Yr),t4):=hr4;have e5:runNT a6 N5 (crowd UB W4 Yr) t4=(.next (crowd gs5 W5 sl5),t5):=hr5;have e6:runNT a6 N6 (crowd gs5 W5 sl5) t5=(.next m6,t6):=hr6;have e7:stepT a6 m6=(.next (crowd gs7 W7 sl6),abY):=st6.trans agW;rw[cT hr3,cT e4,cT e5,cT e6,oC e7]
 have R3:∀B,B<W.heap.size->B<W7.heap.size/\W7.heap[B]?=W4.heap[B]?:=λB hB=>abZ B hB;have Pq:∀B,B<W.heap.size->¬Toy B->W7.heap[B]?=W.heap[B]?:=λB hB hT=>(R3 B hB).2.trans (abW B ⟨hB,hT⟩);have W5s:W5.heap.size<=W7.heap.size:=RZ.SIZE;have agX:∀b B,x.β b B->tl b=a7->∃O,W7.heap[B]?=bb O/\∀(S:DT) (Ck:df->Prop) (B8:Cm),C5 S Ck B8 (oF (Ed n) oK oE b) O:=λb B hb h=>by
  have hE:=(R3 B (Yn b B hb).2).2;rw[hE];cases PT:Ed n with
  |true=>exact agQ (by rw[e4];exact PT) b B hb h
  |false=>exact agR (by rw[e4];exact PT) b B hb h
 have Yu:∀b B,x.β b B->tl b=bh->¬Toy B:=λb B hb h hT=>by
  rw[K4] at hT;obtain⟨b',h1,h2⟩:=hT;rw[ht.wl.DG.inj hb h2] at h;rw[h] at h1;cases h1
 have os7:W7.os=W.os/\W7.output=W.output:=⟨RZ.OS.trans (os5.1.trans os4),RZ.OUT.trans (os5.2.trans ou4)⟩;refine⟨_,_,_,hrun,gs7,W7,sl6,q6,_,_,rfl,g7,?_,b7,⟨jp (x:=⟨back fr cs,FO tl (oF (Ed n) oK oE) x.w,x.H,x.β,x.T⟩) r1 r2,⟨ht.wl.DG,⟨zf _,zf _⟩,λb B hb hh=>?_,λb B hb hh=>?_,λb hh=>?_,?_⟩,ht.tw,λb B hb hd=>?_,λB hB=>?_,λb B hb hB=>?_⟩,os7,by omega,λB hB=>hB.imp id λh=>by rw[h];omega⟩
 .rw[z7,z6,z5];exact bd4
 .have hl:=(Yn b B hb).1;rw[bR _ _ _ _ hl];cases h:tl b with
  |true =>
   obtain⟨O,h1,h2⟩:=agX b B hb h;exact⟨_,O,rfl,h1,h2 _ _ _⟩
  |false =>
   obtain⟨o,O,p1,p2,p3⟩:=ht.wl.D8 b B hb (hH b);exact⟨o,O,p1,(Pq B (Yn b B hb).2 (Yu b B hb h)).trans p2,p3⟩
 .have GQ:x.H b=true:=hh;rw[hH] at GQ;cases GQ
 .have GQ:x.H b=true:=hh;rw[hH] at GQ;cases GQ
 .show x.w.os.env=W7.os.env;rw[os7.1];exact ht.wl.env
 .rcases hd with hd|hd
  .exact absurd hd (LZ b B hb)
  .have:=(Yn b B hb).2;omega
 .obtain⟨k1,k2⟩:=ht.keep B hB;refine⟨(R3 B k1).1,(Pq B k1 λhT=>?_).trans k2⟩;rw[K4] at hT;obtain⟨b,h1,h2⟩:=hT;exact hKp b B h2 h1 hB
 .rcases ht.D7 b B hb hB with h|⟨c',t',f',h1,h2⟩
  .exact .inl h
  .refine .inr ⟨c',t',f',?_,h2⟩;show(FO tl _ x.w).heap[b]?=_;rw[bR _ _ _ _ (Yn b B hb).1];cases h:tl b with
   |true=>exact absurd hB (hKp b B hb h)
   |false=>exact h1
end
end Go.Sq
