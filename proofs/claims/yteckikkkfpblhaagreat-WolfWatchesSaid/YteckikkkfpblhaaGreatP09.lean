/- Parts of the proof. -/
import Derived.Test.YteckikkkfpblhaaGreatP00
import Derived.Test.YteckikkkfpblhaaGreatP06
import Derived.Test.YteckikkkfpblhaaGreatP08
import Derived.Conc.CrowdTrace
import Derived.Conc.CrowdStepW
import Derived.Conc.Beside
set_option linter.all false
namespace Go.AW
open Go.Conc Go.ConcN
structure TI (Sh:Loc->Prop)(Wr Rd:Nat->Loc->Prop)(N:Nat)(t:Trace):Prop where
 quiet:Quiet Sh t
 own:∀k,k<N->∀l,Wr k l->Perm t k l
 rd:∀k,k<N->∀l,Rd k l->PermW t k l
 nr:∀said,¬Race said t
 gs:∀(i:Nat) (op:MemOp),t[i]?=some op->op.g<N
def gN (t:Trace)(l:Loc):Prop:=∀i a,touchAt t i=some a->a.loc≠l
section
variable {Sh:Loc->Prop} {Wr Rd Wr' Rd':Nat->Loc->Prop} {N k:Nat} {t u:Trace}
def OkOp (Sh:Loc->Prop)(Wr Rd:Nat->Loc->Prop)(k:Nat)(op:MemOp):Prop :=
 op.g=k/\∀x,op.act.touch?=some x->x.loc.isMemory=false\/(Sh x.loc/\x.kind≠.plain/\(x.kind=.said->k=0))\/(¬Sh x.loc/\(x.write=true->Wr k x.loc)/\(x.write=false->Rd k x.loc))
def TI.app (h:TI Sh Wr Rd N t)(hk:k<N)(hu:∀op∈u,OkOp Sh Wr' Rd' k op)
  (others:∀j,j≠k->∀l,(Wr' j l->Wr j l)/\(Rd' j l->Rd j l)) (YV:∀l,Wr' k l->Wr k l\/gN t l) (YW:∀l,Rd' k l->Rd k l\/gN t l)
  (sh:∀j l,Sh l->¬Wr' j l/\¬Rd' j l) (mem:∀l,(Sh l\/∃j,Wr' j l\/Rd' j l)->l.isMemory=true) (apart:∀j,j≠k->j<N->∀l,(Wr' k l->¬Rd' j l/\¬Wr' j l)/\(Rd' k l->¬Wr' j l)):TI Sh Wr' Rd' N (t++u):=by
 have perm:∀l,Wr' k l->Perm t k l:=λl hl=>(YV l hl).elim (h.own k hk l) λhf i a ha e=>absurd e (hf i a ha);have Ud:∀l,Rd' k l->PermW t k l:=λl hl=>(YW l hl).elim (h.rd k hk l) λhf i a ha e=>absurd e (hf i a ha);refine⟨h.quiet.app λop hop x hx hs=>?_,λj hj l hl=>?_,λj hj l hl=>?_,λsaid=>?_,λi op hi=>?_⟩
 .rcases(hu op hop).2 x hx with hm|⟨_,h1,h2⟩|⟨hn,_⟩
  .rw[mem _ (.inl hs)] at hm;cases hm
  .exact⟨h1,λe=>(hu op hop).1.trans (h2 e)⟩
  .exact absurd hs hn
 .by_cases e:j=k
  .subst e;exact(perm l hl).app λop hop _ _ _=>(hu op hop).1
  .refine(h.own j hj l ((others j e l).1 hl)).app λop hop b hb e'=>?_;rcases(hu op hop).2 b hb with hm|⟨hs,_⟩|⟨_,h1,h2⟩
   .rw[e',mem _ (.inr ⟨j,.inl hl⟩)] at hm;cases hm
   .exact absurd hl (sh j l (e'▸hs)).1
   .cases hw:b.write with
    |true=>exact absurd hl ((apart j e hj l).1 (e'▸h1 hw)).2
    |false=>exact absurd hl ((apart j e hj l).2 (e'▸h2 hw))
 .by_cases e:j=k
  .subst e;exact(Ud l hl).app λop hop _ _ _ _=>(hu op hop).1
  .refine(h.rd j hj l ((others j e l).2 hl)).app λop hop b hb e' hw=>?_;rcases(hu op hop).2 b hb with hm|⟨hs,_⟩|⟨_,h1,_⟩
   .rw[e',mem _ (.inr ⟨j,.inr hl⟩)] at hm;cases hm
   .exact absurd hl (sh j l (e'▸hs)).2
   .exact absurd hl ((apart j e hj l).1 (e'▸h1 hw)).1
 .refine noRace_append (h.nr said) (λop hop=>(hu op hop).1) (λi a ha op hop b hb hc=>?_);rcases(hu op hop).2 b hb with hm|⟨hs,h1,h2⟩|⟨_,h1,h2⟩
  .have:=hc.2.1;rw[hc.1,hm] at this;cases this
  .exact h.quiet.known hs h1 h2 i a ha hc
  .cases Jp:b.write with
   |true=>exact perm b.loc (h1 Jp) i a ha hc.1
   |false=>exact Ud b.loc (h2 Jp) i a ha hc.1 (hc.2.2.1.resolve_right (by simp[Jp]))
 .rcases getElem?_append_cases hi with⟨_,hi'⟩|⟨_,hiu⟩
  .exact h.gs i op hi'
  .rw[(hu op hiu).1];exact hk
def TI.mono (h:TI Sh Wr Rd N t)(hw:∀k l,Wr' k l->Wr k l)(hr:∀k l,Rd' k l->Rd k l):TI Sh Wr' Rd' N t :=
 ⟨h.quiet,λk hk l hl=>h.own k hk l (hw k l hl),λk hk l hl=>h.rd k hk l (hr k l hl),h.nr,h.gs⟩
def TI.fork (h:TI Sh Wr Rd N t){x y:MemOp}(hN:0<N)(hx:x.g=0/\x.act=.go N)(hy:y.g=N/\y.act=.start)(h0:Deaf t 0=0)
  (others:∀j,j<N->∀l,(Wr' j l->Wr j l)/\(Rd' j l->Rd j l)) (child:∀l,(Wr' N l->Wr 0 l)/\(Rd' N l->Rd 0 l)):TI Sh Wr' Rd' (N+1) (t++#[x,y]):=by
 have hk:Deaf t N=0:=Deaf_absent λi op hi e=>by have:=h.gs i op hi;omega
 have Kv:∀op∈#[x,y],∀b,op.act.touch?=some b->False:=by
  intro op hop b hb;simp only[yy,xu,xm,or_false] at hop;rcases hop with rfl|rfl
  .rw[hx.2] at hb;cases hb
  .rw[hy.2] at hb;cases hb
 have old:∀ {i:Nat} {a:Touch},touchAt (t++#[x,y]) i=some a->touchAt t i=some a:=by
  intro i a ha;obtain⟨z,hz,hza⟩:=touch_of ha;rcases getElem?_append_cases hz with⟨_,hz'⟩|⟨_,YX⟩
  .rw[touchAt_of hz'];exact hza
  .exact(Kv z YX a hza).elim
 refine⟨h.quiet.app λop hop b hb _=>(Kv op hop b hb).elim,λk hkN l hl=>?_,λk hkN l hl=>?_,λsaid=>?_,λi op hi=>?_⟩
 .rcases yh k N with hlt|FM
  .exact(h.own k hlt l ((others k hlt l).1 hl)).app λop hop b hb _=>(Kv op hop b hb).elim
  .obtain rfl:k=N:=by omega
   exact λi a ha e=>fork_knows hx hy h0 hk (h.own 0 hN l ((child l).1 hl) i a (old ha) e)
 .rcases yh k N with hlt|FM
  .exact(h.rd k hlt l ((others k hlt l).2 hl)).app λop hop b hb _ _=>(Kv op hop b hb).elim
  .obtain rfl:k=N:=by omega
   exact λi a ha e hw=>fork_knows hx hy h0 hk (h.rd 0 hN l ((child l).2 hl) i a (old ha) e hw)
 .have e:t++#[x,y]=(t++#[x])++#[y]:=by apply Array.ext';simp
  rw[e];refine noRace_append (g:=N) (noRace_append (g:=0) (h.nr said) (λop hop=>by simp at hop;rw[hop];exact hx.1) (λi a _ op hop b hb _=>(Kv op (by simp at hop ⊢;exact .inl hop) b hb).elim))
   (λop hop=>by simp at hop;rw[hop];exact hy.1) (λi a _ op hop b hb _=>(Kv op (by simp at hop ⊢;exact .inr hop) b hb).elim)
 .rcases getElem?_append_cases hi with⟨_,hi'⟩|⟨_,hiu⟩
  .have:=h.gs i op hi';omega
  .simp only[yy,xu,xm,or_false] at hiu;rcases hiu with rfl|rfl
   .rw[hx.1];omega
   .rw[hy.1];omega
end
end Go.AW
namespace Go.Co
open Go.AW Go.Conc Go.ConcN
structure Tr (Sh:Loc->Prop)(Wr Rd:Nat->Loc->Prop)(N:Nat)(Pd:Nat->Nat->Prop)(a:Addr)(t:Trace):Prop where
 ti:TI Sh Wr Rd N t
 norel:NoRelease a t
 YY:∀i x,touchAt t i=some x->x.loc.isMemory=true->Knows t 0 i\/(Sh x.loc/\x.kind=.atomic)\/∃k,t.g? i=some k/\k≠0/\Pd k i
 ho:∀i k,t.g? i=some k->k≠0->t.counts i->(∃q,t.g? q=some 0/\HappensBefore t i q)\/Pd k i
section
variable {Sh:Loc->Prop} {Wr Rd Wr' Rd':Nat->Loc->Prop} {N k:Nat} {Pd Pd':Nat->Nat->Prop} {a:Addr} {t u:Trace}
def wC {i:Nat}{op:MemOp}(h:t[i]?=some op):t.g? i=some op.g:=by simp[Trace.g?,h]
def Tr.app (h:Tr Sh Wr Rd N Pd a t)(OD:TI Sh Wr' Rd' N (t++u))(hg:∀op∈u,op.g=k)(YZ:∀op∈u,op.act≠.mark (.release a))
  (Pu:∀i,t.size<=i->(t++u).g? i=some k->k≠0->Pd k i\/((∀x,touchAt (t++u) i=some x->x.loc.isMemory=true->Sh x.loc/\x.kind=.atomic)/\¬(t++u).counts i)):Tr Sh Wr' Rd' N Pd a (t++u):=by
 refine⟨OD,h.norel.app YZ,λi x hx hm=>?_,λi j hj hne hc=>?_⟩
 .obtain⟨op,hop,MV⟩:=touch_of hx;rcases getElem?_append_cases hop with⟨hi,GD⟩|⟨hi,Ey⟩
  .rcases h.YY i x (by rw[touchAt_of GD];exact MV) hm with h1|h1|⟨j,h1,h2⟩
   .exact .inl (h1.app u)
   .exact .inr (.inl h1)
   .exact .inr (.inr ⟨j,by rw[g?_old hi];exact h1,h2⟩)
  .have hgk:(t++u).g? i=some k:=by rw[wC hop,hg op Ey]
   by_cases h0:k=0
   .subst h0;have:=knows_own hop;rw[hg op Ey] at this;exact .inl this
   .rcases Pu i hi hgk h0 with h1|⟨h1,_⟩
    .exact .inr (.inr ⟨k,hgk,h0,h1⟩)
    .exact .inr (.inl (h1 x hx hm))
 .obtain⟨op,hop,Jj⟩:=xQ.1 hj;rcases getElem?_append_cases hop with⟨hi,GD⟩|⟨hi,Ey⟩
  .rcases h.ho i j (by rw[g?_old hi] at hj;exact hj) hne ((counts_old hi).1 hc) with⟨q,hq,hb⟩|h1
   .have hql : q < t.size := by
     obtain⟨z,hz,_⟩:=xQ.1 hq;exact lt_size_of_getElem? hz
    exact .inl ⟨q,by rw[g?_old hql];exact hq,hb_app u hb⟩
   .exact .inr h1
  .have e:k=j:=(hg op Ey).symm.trans Jj;subst e;rcases Pu i hi hj hne with h1|⟨_,h1⟩
   .exact .inr h1
   .exact absurd hc h1
def Tr.Vt (h:Tr Sh Wr Rd N Pd a t)(hp:∀k i,i<t.size->Pd k i->Pd' k i):Tr Sh Wr Rd N Pd' a t:=by
 refine⟨h.ti,h.norel,λi x hx hm=>?_,λi j hj hne hc=>?_⟩
 .rcases h.YY i x hx hm with h1|h1|⟨k,h1,h2,h3⟩
  .exact .inl h1
  .exact .inr (.inl h1)
  .obtain⟨z,hz,_⟩:=xQ.1 h1;exact .inr (.inr ⟨k,h1,h2,hp k i (lt_size_of_getElem? hz) h3⟩)
 .rcases h.ho i j hj hne hc with h1|h1
  .exact .inl h1
  .obtain⟨z,hz,_⟩:=xQ.1 hj;exact .inr (hp j i (lt_size_of_getElem? hz) h1)
def Tr.Mj (h:Tr Sh Wr Rd N Pd a t)(hw:∀k l,Wr' k l->Wr k l)(hr:∀k l,Rd' k l->Rd k l):Tr Sh Wr' Rd' N Pd a t:=⟨h.ti.mono hw hr,h.norel,h.YY,h.ho⟩
def Tr.fork (h:Tr Sh Wr Rd N Pd a t){x y:MemOp}(hN:0<N)(hx:x.g=0/\x.act=.go N)(hy:y.g=N/\y.act=.start)(h0:Deaf t 0=0)
  (others:∀j,j<N->∀l,(Wr' j l->Wr j l)/\(Rd' j l->Rd j l)) (child:∀l,(Wr' N l->Wr 0 l)/\(Rd' N l->Rd 0 l)):Tr Sh Wr' Rd' (N+1) Pd a (t++#[x,y]):=by
 have Kv:∀op∈#[x,y],op.act.touch?=none:=by
  intro op hop;simp only[yy,xu,xm,or_false] at hop;rcases hop with rfl|rfl
  .rw[hx.2];rfl
  .rw[hy.2];rfl
 refine⟨h.ti.fork hN hx hy h0 others child,h.norel.app λop hop e=>?_,λi z hz hm=>?_,λi j hj hne hc=>?_⟩
 .simp only[yy,xu,xm,or_false] at hop;rcases hop with rfl|rfl
  .rw[hx.2] at e;cases e
  .rw[hy.2] at e;cases e
 .obtain⟨op,hop,MV⟩:=touch_of hz;rcases getElem?_append_cases hop with⟨hi,GD⟩|⟨_,Ey⟩
  .rcases h.YY i z (by rw[touchAt_of GD];exact MV) hm with h1|h1|⟨j,h1,h2⟩
   .exact .inl (h1.app _)
   .exact .inr (.inl h1)
   .exact .inr (.inr ⟨j,by rw[g?_old hi];exact h1,h2⟩)
  .rw[Kv op Ey] at MV;cases MV
 .obtain⟨op,hop,Jj⟩:=xQ.1 hj;rcases getElem?_append_cases hop with⟨hi,GD⟩|⟨_,Ey⟩
  .rcases h.ho i j (by rw[g?_old hi] at hj;exact hj) hne ((counts_old hi).1 hc) with⟨q,hq,hb⟩|h1
   .have hql : q < t.size := by
     obtain⟨z,hz,_⟩:=xQ.1 hq;exact lt_size_of_getElem? hz
    exact .inl ⟨q,by rw[g?_old hql];exact hq,hb_app _ hb⟩
   .exact .inr h1
  .obtain⟨z,hz,_⟩:=hc;rw[act?_of hop] at hz;rw[yd,Kv op Ey] at hz;cases hz
def Tr.past (h:Tr Sh Wr Rd N Pd a t){B q:Nat}(hq:t.act? q=some (.mark (.acquire a)))(hg:t.g? q=some 0)(hh:t.heard q)(hd:Deaf t 0=0)(hl:∀op∈t,op.act.low B)
  (hp:∀k i,t.g? i=some k->k≠0->Pd k i->∃r,RelBy a t k r/\r<q/\i<=r):Past Sh B t:=by
 have Y0:∀k i,t.g? i=some k->k≠0->Pd k i->HappensBefore t i q:=by
  intro k i hk hne Y1;obtain⟨r,hr,Y2,hir⟩:=hp k i hk hne Y1;have e1:HappensBefore t r q:=.single (.inr ⟨.marked Y2 (.inr hr.act) hq (λk _ _=>h.norel k),hr.heard,hh⟩);rcases yh i r with hlt|FM
  .exact .trans (.single (.inl ⟨hlt,k,hk,hr.g⟩)) e1
  .obtain rfl:i=r:=by omega
   exact e1
 obtain⟨z,hz,hzg⟩:=xQ.1 hg;refine⟨h.ti.nr,λi x hx hm=>?_,λi k hk hne hc=>?_,hd,hl⟩
 .rcases h.YY i x hx hm with h1|h1|⟨k,h1,h2,h3⟩
  .exact .inl h1
  .exact .inr h1
  .exact .inl ⟨q,z,hz,hzg,.inr (Y0 k i h1 h2 h3)⟩
 .rcases h.ho i k hk hne hc with h1|h1
  .exact h1
  .exact⟨q,hg,Y0 k i hk hne h1⟩
def Ak {Shun:Loc->Prop}{B:Nat}(h:Past Shun B t)(OE:∀l,Sh l->Shun l\/∃b:Addr,l=.cell b/\B<=b.block)(adJ:∀l,Shun l->Sh l)(hq:Quiet Sh t)(ha:B<=a.block)(hN:∀(i:Nat) (op:MemOp),t[i]?=some op->op.g<N)(hN0:0<N)
  (hw:∀k l,Wr k l->k=0/\l.isMemory=true/\¬Shun l) (hr:∀k l,Rd k l->k=0/\l.isMemory=true/\¬Shun l):Tr Sh Wr Rd N Pd a t:=by
 have kn:∀l,l.isMemory=true->¬Shun l->Perm t 0 l:=λl hm hs i x hx e=>(h.known i x hx (e▸hm)).elim id λHh=>absurd (e▸Hh.1) hs;refine⟨⟨hq,λk _ l hl=>?_,λk _ l hl=>?_,h.clean,hN⟩,λi e=>?_,λi x hx hm=>(h.known i x hx hm).imp id λHh=>.inl ⟨adJ _ Hh.1,Hh.2⟩,λi k hk hne hc=>.inl (h.over i k hk hne hc)⟩
 .obtain⟨rfl,h1,h2⟩:=hw k l hl;exact kn l h1 h2
 .obtain⟨rfl,h1,h2⟩:=hr k l hl;exact .of (kn l h1 h2)
 .obtain⟨op,hop,Ue⟩:=xQ.1 e;have:=h.seen op (xP hop);rw[Ue] at this;exact absurd this (Nat.not_lt.2 ha)
end
structure Lone where
 g:Goroutine
 w:World
 H:Hid
 β:AO
 T:List Frame
structure EP where
 at_:Nat->Prop
 w:World
 bd:Nat
def inBlock (B:Nat):Loc->Prop
 |.cell a=>a.block=B
 |.obj r=>r=B
 |_=>False
def SU (x:Lone)(l:Loc):Prop:=∃b B,x.β b B/\x.H b=false/\¬Ro x.w b/\inBlock B l
def SV (x:Lone)(l:Loc):Prop:=∃b B,x.β b B/\x.H b=false/\inBlock B l
def MX (Dead:Nat->Prop)(Wg:Nat)(l:Loc):Prop:=∃a:Addr,l=.cell a/\(Dead a.block\/a.block=Wg)
section
variable (P:Ba) (SB BB:FuncId->Bool) (lets:Bool) (Gn:Nat)
abbrev BZ (x:Lone)(g:Goroutine):Prop:=CI P SB x.H lets BB x.T x.β x.g g
abbrev Dq (x:Lone)(W:World):Prop:=Bg (SP SB x.H) (CK P.a SB lets) Gn x.β x.w W
abbrev EF (x:Lone)(W:World)(Ax:AO)(w' W':World)(ES:List Event):Prop:=Fin (SP SB x.H) (CK P.a SB lets) Gn x.β Ax (on x.w W.tape W.drawn) W w' W' ES
structure Cw (Wg:Nat)(Dead Toy:Nat->Prop)(Kp:EP)(L:Nat->Option Lone)(own:Option Nat)(W:World):Prop where
 like:∀i x,L i=some x->Dq P SB lets Gn x W
 BA:∀i x,L i=some x->x.H.BA=false
 MZ:∀i x,L i=some x->∀b,x.β b Wg->x.H b=true
 dead:∀i x,L i=some x->∀b B,x.β b B->¬Dead B
 Gj:∀i x,L i=some x->own≠some i->∀b B,x.β b B->Toy B->x.H b=true
 sep:∀i j x y,i≠j->L i=some x->L j=some y->Sep (SP SB x.H) x.β x.w (SP SB y.H) y.β y.w
 low:Wg<W.heap.size/\(∀B,Dead B->B<W.heap.size)/\∀B,Toy B->B<W.heap.size
 Gk:∀B,Toy B->B≠Wg/\¬Dead B
 keep:∀B,Kp.at_ B->B<W.heap.size/\B≠Wg/\W.heap[B]?=Kp.w.heap[B]?
 Cp:∀i x,L i=some x->∀b B,x.β b B->Kp.at_ B->x.H b=true\/Ro x.w b
 KW:∀B,Toy B->¬Kp.at_ B
 Pv:W.os=Kp.w.os/\W.output=Kp.w.output
def put (L:Nat->Option Lone)(i:Nat)(x:Option Lone):Nat->Option Lone:=λj=>if j=i then x else L j
end
def AU (L:Nat->Option Lone)(i:Nat)(x:Option Lone):put L i x i=x:=by simp[put]
def A7 (L:Nat->Option Lone){i j:Nat}(x:Option Lone)(h:j≠i):put L i x j=L j:=by simp[put,h]
section
variable {P:Ba} {SB BB:FuncId->Bool} {lets:Bool} {Gn:Nat} {Wg:Nat} {Dead Toy:Nat->Prop} {Kp:EP} {L:Nat->Option Lone} {own:Option Nat} {W W':World} {i:Nat} {x:Lone} {Ax:AO} {w':World} {ES:List Event}
def Cw.same (c:Cw P SB lets Gn Wg Dead Toy Kp L own W)(hi:L i=some x)(f:EF P SB lets Gn x W Ax w' W' ES){B:Nat}(hB:B<W.heap.size)(h:∀b,x.β b B->x.H b=true):W'.heap[B]?=W.heap[B]?:=by
 by_cases hx:∃b,x.β b B
 .obtain⟨b,hb⟩:=hx;exact f.hk b B hb (h b hb)
 .exact f.KEPT B hB λb hb=>hx ⟨b,hb⟩
def Cw.step (c:Cw P SB lets Gn Wg Dead Toy Kp L own W)(hi:L i=some x)(f:EF P SB lets Gn x W Ax w' W' ES)(g':Goroutine) :
  Cw P SB lets Gn Wg Dead Toy Kp (put L i (some ⟨g',w',x.H,Ax,x.T⟩)) own W':=by
 have hx:=c.like i x hi;have Hh:Bg (SP SB x.H) (CK P.a SB lets) Gn x.β (on x.w W.tape W.drawn) W:=hx.same rfl rfl hx.env;have old:∀b B,Ax b B->B<W.heap.size->x.β b B:=λb B hb hB=>(f.new b B hb).elim id λh=>absurd h.2 (Nat.not_le.2 hB);refine⟨λj y hj=>?_,λj y hj=>?_,λj y hj=>?_,λj y hj=>?_,λj y hj=>?_,λj k y z hjk hj hk=>?_,⟨xl c.low.1 f.SIZE,λB hB=>xl (c.low.2.1 B hB) f.SIZE,λB hB=>xl (c.low.2.2 B hB) f.SIZE⟩,c.Gk,λB hB=>?_,λj y hj=>?_,c.KW,f.OS.trans c.Pv.1,f.OUT.trans c.Pv.2⟩
 .by_cases e:j=i
  .subst e;rw[AU] at hj;cases hj;exact f.rel
  .rw[A7 L _ e] at hj;exact(c.like j y hj).others (c.BA j y hj) Hh f (c.sep i j x y (Ne.symm e) hi hj)
 .by_cases e:j=i
  .subst e;rw[AU] at hj;cases hj;exact c.BA j x hi
  .rw[A7 L _ e] at hj;exact c.BA j y hj
 .by_cases e:j=i
  .subst e;rw[AU] at hj;cases hj;exact λb hb=>c.MZ j x hi b (old b Wg hb c.low.1)
  .rw[A7 L _ e] at hj;exact c.MZ j y hj
 .by_cases e:j=i
  .subst e;rw[AU] at hj;cases hj;exact λb B hb hd=>c.dead j x hi b B (old b B hb (c.low.2.1 B hd)) hd
  .rw[A7 L _ e] at hj;exact c.dead j y hj
 .by_cases e:j=i
  .subst e;rw[AU] at hj;cases hj;exact λho b B hb ht=>c.Gj j x hi ho b B (old b B hb (c.low.2.2 B ht)) ht
  .rw[A7 L _ e] at hj;exact c.Gj j y hj
 .by_cases e:j=i
  .subst e;rw[AU] at hj;cases hj;rw[A7 L _ (Ne.symm hjk)] at hk;exact Sep.kept (c.like k z hk) f (c.sep j k x z hjk hi hk)
  .rw[A7 L _ e] at hj;by_cases e':k=i
   .subst e';rw[AU] at hk;cases hk;exact(Sep.kept (c.like j y hj) f (c.sep k j x y (Ne.symm hjk) hi hj)).symm
   .rw[A7 L _ e'] at hk;exact c.sep j k y z hjk hj hk
 .obtain⟨k1,k2,k3⟩:=c.keep B hB;refine⟨xl k1 f.SIZE,k2,?_⟩;rw[<-k3];by_cases hx:∃b,x.β b B
  .obtain⟨b,hb⟩:=hx;rcases c.Cp i x hi b B hb hB with h|⟨cs,ty,z,q1,q2⟩
   .exact f.hk b B hb h
   .exact(f.ro b B cs ty z hb q1 q2).2
  .exact f.KEPT B k1 λb hb=>hx ⟨b,hb⟩
 .by_cases e:j=i
  .subst e;rw[AU] at hj;cases hj;intro b B hb hB;have h0:=old b B hb (c.keep B hB).1;exact(c.Cp j x hi b B h0 hB).imp id λh=>h.kept f h0
  .rw[A7 L _ e] at hj;exact c.Cp j y hj
def Cw.group (c:Cw P SB lets Gn Wg Dead Toy Kp L own W)(h:Aside Wg W W')(hw:∃c t f,W'.heap[Wg]?=some (.cells c t f)):Cw P SB lets Gn Wg Dead Toy Kp L own W':=by
 refine⟨λj y hj=>?_,c.BA,c.MZ,c.dead,c.Gj,c.sep,by rw[h.size];exact c.low,c.Gk,λB hB=>⟨by rw[h.size];exact(c.keep B hB).1,(c.keep B hB).2.1,(h.block B (c.keep B hB).2.1).trans (c.keep B hB).2.2⟩,c.Cp,c.KW,h.os.trans c.Pv.1,h.output.trans c.Pv.2⟩;have k:=c.like j y hj;refine⟨k.B6,by rw[h.size];exact k.room,λb B hb hh=>?_,λb B hb hh=>?_,k.old,by rw[h.os];exact k.env⟩
 .have hne : B ≠ Wg := fun e => by
   have:=c.MZ j y hj b (e▸hb);have Fh:y.H b=false:=hh;rw[Fh] at this;cases this
  rw[h.block B hne];exact k.Cq b B hb hh
 .obtain⟨h1,h2,h3⟩:=k.CG b B hb hh;refine⟨h1,λht=>?_,λht=>?_⟩
  .by_cases e:B=Wg
   .rw[e];exact hw
   .rw[h.block B e];exact h2 ht
  .have:=c.BA j y hj;have Jk:y.H.BA=true:=ht;rw[this] at Jk;cases Jk
def Cw.drop (c:Cw P SB lets Gn Wg Dead Toy Kp L own W)(i:Nat):Cw P SB lets Gn Wg Dead Toy Kp (put L i none) own W:=by
 have get:∀ {j y},put L i none j=some y->L j=some y:=λ{j y} h=>by
  by_cases e:j=i
  .subst e;rw[AU] at h;cases h
  .rwa [A7 L _ e] at h
 exact⟨λj y hj=>c.like j y (get hj),λj y hj=>c.BA j y (get hj),λj y hj=>c.MZ j y (get hj),λj y hj=>c.dead j y (get hj),λj y hj=>c.Gj j y (get hj),λj k y z hne hj hk=>c.sep j k y z hne (get hj) (get hk),c.low,c.Gk,c.keep,λj y hj=>c.Cp j y (get hj),c.KW,c.Pv⟩
def Cw.at (c:Cw P SB lets Gn Wg Dead Toy Kp L own W)(d:Nat):Cw P SB lets Gn Wg Dead Toy Kp L own (W.at d) :=
 ⟨λj y hj=>(c.like j y hj).same rfl rfl (c.like j y hj).env,c.BA,c.MZ,c.dead,c.Gj,c.sep,c.low,c.Gk,c.keep,c.Cp,c.KW,c.Pv⟩
def OG (Toy:Nat->Prop)(L:Nat->Option Lone)(tp:Bool)(j:Nat)(l:Loc):Prop:=(∃x,L j=some x/\SU x l)\/(j=0/\tp=true/\∃B,Toy B/\inBlock B l)
def Kw (Toy:Nat->Prop)(L:Nat->Option Lone)(tp:Bool)(j:Nat)(l:Loc):Prop:=(∃x,L j=some x/\SV x l)\/(j=0/\tp=true/\∃B,Toy B/\inBlock B l)
def EG {B:Nat}{l:Loc}(h:inBlock B l):l.isMemory=true:=by cases l<;>first|rfl|exact h.elim
def FN {B B':Nat}{l:Loc}(h:inBlock B l)(h':inBlock B' l):B=B':=by
 cases l<;>first|exact h.symm.trans h'|exact h.elim
def fR {Toy:Nat->Prop}{L:Nat->Option Lone}{tp:Bool}{j:Nat}{l:Loc}(h:OG Toy L tp j l):Kw Toy L tp j l:=by
 rcases h with⟨x,h1,b,B,h2,h3,_,h4⟩|h
 .exact .inl ⟨x,h1,b,B,h2,h3,h4⟩
 .exact .inr h
def Cw.apart {tp:Bool}(c:Cw P SB lets Gn Wg Dead Toy Kp L own W)(ht:tp=true->own=none){j k:Nat}(hjk:j≠k)(l:Loc):OG Toy L tp j l->¬Kw Toy L tp k l:=by
 rintro(⟨x,hx,b,B,h1,h2,h3,h4⟩|⟨rfl,h0,B,h1,h4⟩) (⟨y,hy,b',B',k1,k2,k4⟩|⟨rfl,k0,B',k1,k4⟩)
 .obtain rfl:=FN h4 k4;rcases c.sep j k x y hjk hx hy b b' B h1 k1 with h|h|⟨h,_⟩
  .have h':x.H b=true:=h;rw[h2] at h';cases h'
  .have h':y.H b'=true:=h;rw[k2] at h';cases h'
  .exact h3 h
 .obtain rfl:=FN h4 k4;have:=c.Gj j x hx (by rw[ht k0];simp) b B h1 k1;rw[h2] at this;cases this
 .obtain rfl:=FN h4 k4;have:=c.Gj k y hy (by rw[ht h0];simp) b' B k1 h1;rw[k2] at this;cases this
 .exact hjk rfl
def Cw.JC {tp:Bool}(c:Cw P SB lets Gn Wg Dead Toy Kp L own W){j:Nat}{l:Loc}(h:Kw Toy L tp j l):¬MX Dead Wg l:=by
 rintro⟨a,rfl,hs⟩;rcases h with⟨x,hx,b,B,h1,h2,h4⟩|⟨_,_,B,h1,h4⟩
 .have e:a.block=B:=h4;rcases hs with hs|hs
  .exact c.dead j x hx b B h1 (e▸hs)
  .have:=c.MZ j x hx b (by rw[<-hs,e];exact h1);rw[h2] at this;cases this
 .have e:a.block=B:=h4;obtain⟨t1,t2⟩:=c.Gk B h1;rcases hs with hs|hs
  .exact t2 (e▸hs)
  .exact t1 (e.symm.trans hs)
def Cw.Y3 {tp:Bool}{k:Nat}{x':Lone}(c:Cw P SB lets Gn Wg Dead Toy Kp L own W)(hk:L k=some x')(he:∀E∈ES,Xq x'.β x'.w E){fn:FuncId}{pos:String} :
  ∀op∈MemOp.ofEvents k fn pos ES.toArray,OkOp (MX Dead Wg) (OG Toy L tp) (Kw Toy L tp) k op:=by
 intro op hop;obtain⟨e,Pp,rfl⟩:=Go.Conc.mem_ofEvents hop;refine⟨rfl,λt ht=>?_⟩;have hE:=he e (by simpa using Pp);have Pw:∀b B,x'.β b B->(∃n,(x'.w.heap[b]?).map B8=some n/\n≠1)->x'.H b=false:=by
  intro b B hb ⟨n,hn,h1⟩;cases hh:x'.H b with
  |false=>rfl
  |true =>
   rw[((c.like k x' hk).CG b B hb hh).1] at hn;simp[B8] at hn;exact absurd hn.symm h1
 cases hE with
 |@cell a A wr sy hb ho hn hw =>
  have hh:=Pw _ _ hb (let ⟨n,h1,_⟩:=hn;⟨_,h1,by omega⟩);have hr:Kw Toy L tp k (.cell A):=.inl ⟨x',hk,a.block,A.block,hb,hh,rfl⟩;have hl:t.loc=.cell A/\t.write=wr:=by
   simp[MemAct.ofEvent,MemAct.touch?] at ht;subst ht;exact⟨rfl,rfl⟩
  rw[hl.1];refine .inr (.inr ⟨c.JC hr,λhwr=>.inl ⟨x',hk,a.block,A.block,hb,hh,?_,rfl⟩,λ_=>hr⟩);rintro⟨cs,ty,f,hc,hf⟩;obtain⟨n,h1,h2⟩:=hn;rw[hc] at h1;simp[B8] at h1;have h0:=hw (by rw[<-hl.2];exact hwr);rw[aZ,hc] at h0;obtain⟨p,q⟩:=hf a.off (by omega);simp[YB,p,q] at h0
 |@obj r R wr sy hb hn =>
  have hh:=Pw _ _ hb ⟨2,hn,by decide⟩;have hr:Kw Toy L tp k (.obj R):=.inl ⟨x',hk,r,R,hb,hh,rfl⟩;have hl:t.loc=.obj R:=by
   cases wr<;>cases sy<;>simp[MemAct.ofEvent,MemAct.touch?] at ht<;>subst ht<;>rfl
  rw[hl];refine .inr (.inr ⟨c.JC hr,λ_=>.inl ⟨x',hk,r,R,hb,hh,?_,rfl⟩,λ_=>hr⟩);rintro⟨cs,ty,f,hc,_⟩;rw[hc] at hn;simp[B8] at hn
 |mark hm=>cases hm<;>simp[MemAct.ofEvent,MemAct.touch?] at ht
 |out=>simp[MemAct.ofEvent,MemAct.touch?] at ht;subst ht;exact .inl rfl
def Cw.Px {tp:Bool}{N:Nat}{t:Trace}(c:Cw P SB lets Gn Wg Dead Toy Kp L own W)(hi:L i=some x)(f:EF P SB lets Gn x W Ax w' W' ES)(g':Goroutine)(ht:tp=true->own=none)(hN:i<N)
  (h:TI (MX Dead Wg) (OG Toy L tp) (Kw Toy L tp) N t) (GF:∀op∈t,op.act.low W.heap.size) {fn:FuncId} {pos:String} :
  TI (MX Dead Wg) (OG Toy (put L i (some ⟨g',w',x.H,Ax,x.T⟩)) tp) (Kw Toy (put L i (some ⟨g',w',x.H,Ax,x.T⟩)) tp) N (t++MemOp.ofEvents i fn pos ES.toArray):=by
 have c':=c.step hi f g';have fresh:∀B l,W.heap.size<=B->inBlock B l->gN t l:=by
  intro B l hB hl j a ha e;obtain⟨op,hop,Ue⟩:=touch_of ha;have BU:=GF op (xP hop);rw[<-e] at hl;have key:∀(act:MemAct) (a:Touch),act.touch?=some a->act.low W.heap.size->inBlock B a.loc->False:=by
   intro act a ha BU hl;cases act with
   |access ev =>
    simp only[MemAct.touch?,Option.some.injEq] at ha;subst ha;obtain⟨loc,wr,sy⟩:=ev;cases loc<;>first|exact hl.elim|(simp only[inBlock] at hl;simp only[MemAct.low,Loc.low] at BU;omega)
   |mark m =>
    cases m<;>simp[MemAct.touch?] at ha
    all_goals
     subst ha;simp only[inBlock] at hl;simp only[MemAct.low] at BU;omega
   |_=>simp[MemAct.touch?] at ha
  exact key op.act a Ue BU hl
 refine h.app hN (c'.Y3 (AU L i _) (λE hE=>f.evs (c.BA i x hi) E hE)) (λj hj l=>?_) (λl hl=>?_) (λl hl=>?_) (λj l hs=>?_) (λl hl=>?_) (λj hj _ l=>?_)
 .unfold OG Kw;rw[A7 L _ hj];exact⟨id,id⟩
 .rcases hl with⟨y,hy,b,B,h1,h2,h3,h4⟩|⟨h1,h2,h3⟩
  .rw[AU] at hy;cases hy;rcases f.new b B h1 with h0|⟨_,h0⟩
   .exact .inl (.inl ⟨x,hi,b,B,h0,h2,λhr=>h3 (hr.kept f h0),h4⟩)
   .exact .inr (fresh B l h0 h4)
  .exact .inl (.inr ⟨h1,h2,h3⟩)
 .rcases hl with⟨y,hy,b,B,h1,h2,h4⟩|⟨h1,h2,h3⟩
  .rw[AU] at hy;cases hy;rcases f.new b B h1 with h0|⟨_,h0⟩
   .exact .inl (.inl ⟨x,hi,b,B,h0,h2,h4⟩)
   .exact .inr (fresh B l h0 h4)
  .exact .inl (.inr ⟨h1,h2,h3⟩)
 .exact⟨λhw=>c'.JC (fR hw) hs,λhr=>c'.JC hr hs⟩
 .rcases hl with⟨a,rfl,_⟩|⟨j,hl⟩
  .rfl
  .have hr:Kw Toy (put L i (some ⟨g',w',x.H,Ax,x.T⟩)) tp j l:=hl.elim fR id;rcases hr with⟨y,_,b,B,_,_,h4⟩|⟨_,_,B,_,h4⟩<;>exact EG h4
 .exact⟨λhw=>⟨c'.apart ht (Ne.symm hj) l hw,λhw'=>c'.apart ht (Ne.symm hj) l hw (fR hw')⟩,λhr hw'=>c'.apart ht hj l hw' hr⟩
def dY (f:EF P SB lets Gn x W Ax w' W' ES)(ht:x.H.BA=false){k:Nat}{fn:FuncId}{pos:String}:∀op∈MemOp.ofEvents k fn pos ES.toArray,op.act.low W'.heap.size:=by
 intro op hop;obtain⟨e,Pp,rfl⟩:=Go.Conc.mem_ofEvents hop;have hE:=f.evs ht e (by simpa using Pp);cases hE with
 |@cell a A wr sy hb _ _ _ =>
  have:=(f.rel.lt hb).2;show MemAct.low _ (MemAct.ofEvent ⟨.cell A,wr,sy⟩);simpa [MemAct.ofEvent,MemAct.low,Loc.low] using this
 |@obj r R wr sy hb _ =>
  have:=(f.rel.lt hb).2;show MemAct.low _ (MemAct.ofEvent ⟨.obj R,wr,sy⟩);cases wr<;>cases sy<;>simpa [MemAct.ofEvent,MemAct.low,Loc.low] using this
 |mark hm=>cases hm<;>simp[MemAct.ofEvent,MemAct.low]
 |out=>simp[MemAct.ofEvent,MemAct.low,Loc.low]
def cL (f:EF P SB lets Gn x W Ax w' W' ES)(ht:x.H.BA=false):∀e∈ES.toArray,e.loc≠.mark .disable/\e.loc≠.mark .enable/\∀a,e.loc≠.mark (.release a):=by
 intro e Pp;have hE:=f.evs ht e (by simpa using Pp);cases hE with
 |mark hm=>cases hm<;>simp
 |_=>simp
end
open Go.ConcR (KK WgAt stA smA rd wr mk DC0 Bk g_of_ofEvents bk_of_mute ofEvent_loc_mark ofEvent_cell ofEvent_mk)
inductive Wm where
 |born (Q:Goroutine->World->Prop) (y:Goroutine×World)
 |tree (Q:Goroutine->World->Prop) (y:Goroutine×World)
 |st (s m:Nat)
inductive KX (p:Program):Wm->Wm->Prop
 |tree {Q:Goroutine->World->Prop} {x y:Goroutine×World}:¬Q y.1 y.2->After p x y->KX p (.tree Q x) (.tree Q y)
 |off {s m:Nat} {Q:Goroutine->World->Prop} {y:Goroutine×World}:KX p (.st s m) (.tree Q y)
 |un {Q:Goroutine->World->Prop} {y:Goroutine×World}:KX p (.tree Q y) (.born Q y)
 |adK {s m:Nat} {Q:Goroutine->World->Prop} {y:Goroutine×World}:KX p (.st s m) (.born Q y)
 |stage {s m s' m':Nat}:s<s'->KX p (.st s m) (.st s' m')
 |fuel {s m m':Nat}:m<m'->KX p (.st s m) (.st s m')
def zM (p:Program):∀s m,Acc (KX p) (.st s m):=by
 intro s
 induction s using Nat.strongRecOn with
 |_ s ihs =>
  intro m
  induction m using Nat.strongRecOn with
  |_ m ihm =>
   refine .intro _ λy h=>?_;cases h with
   |stage h=>exact ihs _ h _
   |fuel h=>exact ihm _ h
def zL {p:Program}{BB:FuncId->Bool}{Q:Goroutine->World->Prop}{d:Nat}{g:Goroutine}{w:World}(h:Br p BB Q d g w):Acc (KX p) (.tree Q (g,w)):=by
 induction h with
 |fin h =>
  refine .intro _ λz hz=>?_;cases hz with
  |tree hn _=>exact absurd h hn
  |off=>exact zM p _ _
 |next ng nw h1 h2 _ ih =>
  refine .intro _ λz hz=>?_;cases hz with
  |@tree _ x _ _ ha =>
   obtain⟨g',w'⟩:=x;obtain⟨τ,d,es,e,_⟩:=ha;obtain⟨⟨es',e'⟩,_⟩:=h2 τ d;rw[e] at e';cases e';exact ih τ d
  |off=>exact zM p _ _
 |spec h1 h2 h3 h4 h5 h6 _ ih =>
  refine .intro _ λz hz=>?_;cases hz with
  |@tree _ x _ _ ha =>
   obtain⟨g',w'⟩:=x;obtain⟨τ,n,es,e,_⟩:=ha;dsimp only at e;rw[(h6.same zC).step h3 h4 h5] at e;cases e;exact ih τ n
  |off=>exact zM p _ _
def Ac {p:Program}{BB:FuncId->Bool}{Q:Goroutine->World->Prop}{d:Nat}{g:Goroutine}{w:World}(h:Br p BB Q d g w):Acc (KX p) (.born Q (g,w)):=by
 refine .intro _ λz hz=>?_;cases hz with
 |un=>exact zL h
 |adK=>exact zM p _ _
section
variable (P:Ba) (SB BB:FuncId->Bool) (lets:Bool) (Gn:Nat) (ty Wg:Nat) (Ψ2:World->Prop)
def cM (Q:Goroutine->World->Prop)(H:Hid)(T:List Frame)(wl:AO)(o:Bool):Prop :=
 ∀(x:Lone) (g:Goroutine) (W:World),x.H=H->x.T=T->wl.le x.β->Q x.g x.w->BZ P SB BB lets x g->Dq P SB lets Gn x W->WgLive ty Wg W ->
  (∃m,GW P.b ty Wg false (R0 P.b ty Wg) m g W)/\(o=true->Ψ2 W)
def lS (x:Lone)(child:Goroutine):Prop:=child.status=.running/\∃G1,(∀W,stepG P.b false child W=.go G1 W #[])/\BZ P SB BB lets x G1
inductive Dv:Nat->Nat->Wm->Option Lone->Bool->Goroutine->World->Prop
 | born {x : Lone} {wl : AO} {Q : Goroutine -> World -> Prop} {o : Bool} {g : Goroutine} {W : World} : wl.le x.β -> cM P SB BB lets Gn ty Wg Ψ2 Q x.H x.T wl o -> (∀ g w, Q g w -> BB g.frame.fn = false) -> Br P.a BB Q 0 x.g x.w -> lS P SB BB lets x g ->
   Dv 7 0 (.born Q (x.g,x.w)) (some x) o g W
 | tree {x : Lone} {wl : AO} {Q : Goroutine -> World -> Prop} {o : Bool} {d : Nat} {g : Goroutine} {W : World} : wl.le x.β -> cM P SB BB lets Gn ty Wg Ψ2 Q x.H x.T wl o -> (∀ g w, Q g w -> BB g.frame.fn = false) -> Br P.a BB Q d x.g x.w -> BZ P SB BB lets x g ->
   Dv 7 d (.tree Q (x.g,x.w)) (some x) o g W
 |r0 {m:Nat} {g:Goroutine} {W:World}:GW P.b ty Wg false (R0 P.b ty Wg) m g W->Dv 7 0 (.st 7 m) none false g W
 |k1 {m:Nat} {g:Goroutine} {W:World}:GW P.b ty Wg false (K1 P.b ty Wg) m g W->Dv 6 0 (.st 6 m) none false g W
 |d1 {m:Nat} {g:Goroutine} {W:World}:GW P.b ty Wg false (D1 P.b ty Wg) m g W->Dv 5 1 (.st 5 m) none false g W
 |d2 {m:Nat} {g:Goroutine} {W:World}:GW P.b ty Wg false (D2 P.b ty Wg) m g W->Dv 4 1 (.st 4 m) none false g W
 |d3 {m:Nat} {g:Goroutine} {W:World}:GW P.b ty Wg false (D3 P.b ty Wg) m g W->Dv 3 1 (.st 3 m) none false g W
 |d4 {m:Nat} {g:Goroutine} {W:World}:GW P.b ty Wg false (AtD4 P.b ty Wg) m g W->Dv 2 1 (.st 2 m) none false g W
 |quit {q d:Nat} {g:Goroutine} {W:World}:QuitsD P.b q d g->Dv 1 d (.st 1 q) none false g W
end
section
variable {P:Ba} {SB BB:FuncId->Bool} {lets:Bool} {Gn:Nat} {ty Wg:Nat} {Ψ2:World->Prop} {s d:Nat} {m:Wm} {x:Option Lone} {o:Bool} {g:Goroutine} {W W':World}
def Dv.rely (h:Dv P SB BB lets Gn ty Wg Ψ2 s d m x o g W)(r:RL ty Wg W W'):Dv P SB BB lets Gn ty Wg Ψ2 s d m x o g W':=by
 cases h with
 |born a b z c e=>exact .born a b z c e
 |tree a b z c e=>exact .tree a b z c e
 |r0 h=>exact .r0 (Goes.rely RL.trans h r)
 |k1 h=>exact .k1 (Goes.rely RL.trans h r)
 |d1 h=>exact .d1 (Goes.rely RL.trans h r)
 |d2 h=>exact .d2 (Goes.rely RL.trans h r)
 |d3 h=>exact .d3 (Goes.rely RL.trans h r)
 |d4 h=>exact .d4 (Goes.rely RL.trans h r)
 |quit h=>exact .quit h
def Dv.status (h:Dv P SB BB lets Gn ty Wg Ψ2 s d m x o g W):g.status=.running\/(g.status=.finished/\s=1):=by
 cases h with
 |born _ _ _ _ e=>exact .inl e.1
 |tree _ _ _ _ e=>exact .inl e.status.2
 |r0 h=>exact .inl (Goes.running (λ_ _ x=>x.1) W (RL.refl W) h)
 |k1 h=>exact .inl (Goes.running (λ_ _ x=>x.1) W (RL.refl W) h)
 |d1 h=>exact .inl (Goes.running (λ_ _ x=>x.1) W (RL.refl W) h)
 |d2 h=>exact .inl (Goes.running (λ_ _ x=>x.1) W (RL.refl W) h)
 |d3 h=>exact .inl (Goes.running (λ_ _ x=>x.1) W (RL.refl W) h)
 |d4 h=>exact .inl (Goes.running (λ_ _ x=>x.1) W (RL.refl W) h)
 |quit h=>exact h.status.imp id λe=>⟨e,rfl⟩
def Dv.acc (h:Dv P SB BB lets Gn ty Wg Ψ2 s d m x o g W):Acc (KX P.a) m:=by
 cases h with
 |born _ _ _ h _=>exact Ac h
 |tree _ _ _ h _=>exact zL h
 |_=>exact zM _ _ _
def Dv.Vu (h:Dv P SB BB lets Gn ty Wg Ψ2 s d m x o g W):s<=6\/s=7:=by
 cases h<;>omega
def Dv.woken (h:Dv P SB BB lets Gn ty Wg Ψ2 s d m x o g W)(a a':Goroutine)(w':World):woken P.b a a' w' g=g:=by
 unfold Go.Conc.woken;split
 .exact again_running _ (h.status.imp id (·.1))
 .rfl
end
inductive TS where
 |start|at_ (k:Nat)|done
def TS.own:TS->Option Nat
 |.at_ k=>some k
 |_=>none
def TS.tp:TS->Bool
 |.start=>true
 |_=>false
def zQ {ts:TS}(h:ts.tp=true):ts.own=none:=by cases ts<;>first|rfl|cases h
def Vv (j0 j:Nat)(D:Nat->WD)(rr:Nat->Nat)(k i:Nat):Prop:=∃a,k=a+1/\j0<=a/\a<j/\((D a).stage=7\/i<=rr a)
section
variable (P:Ba) (SB BB:FuncId->Bool) (lets:Bool) (Gn:Nat) (ty Wg:Nat) (Dead Toy:Nat->Prop) (Kp:EP) (Ψ0 Ψ2:World->Prop)
structure WI (j0 j:Nat)(gs:Array Goroutine)(W:World)(t:Trace)(D:Nat->WD)(M:Nat->Wm)(O:Nat->Bool)(L:Nat->Option Lone)(ts:TS)(rr:Nat->Nat)(st sm:Int):Prop where
 size:gs.size=j+1
 wk:∀i,i<j->∃g,gs[i+1]?=some g/\Dv P SB BB lets Gn ty Wg Ψ2 (D i).stage (D i).deaf (M i) (L (i+1)) (O i) g W
 cw:Cw P SB lets Gn Wg Dead Toy Kp L ts.own W
 tr:Tr (MX Dead Wg) (OG Toy L ts.tp) (Kw Toy L ts.tp) (j+1) (Vv j0 j D rr) (stA Wg) t
 low:∀op∈t,op.act.low W.heap.size
 deafW:∀i,i<j->Deaf t (i+1)=(D i).deaf
 rel:∀i,j0<=i->i<j->(D i).stage<=6->RelBy (stA Wg) t (i+1) (rr i)
 wg:WgAt ty Wg W st sm
 IV:∀i,i<j->O i=true->ts=.at_ (i+1)
 J4:∀k,ts=.at_ k->∃i,i<j/\k=i+1/\O i=true
 Ed:(ts=.start->Ψ0 W)/\(ts=.done->Ψ2 W)
 out:∀i,j<i->L i=none
 old:∀i,i<j0->(D i).stage=1
 jj:j0<=j
def av (Toy:Nat->Prop)(Ψ:World->Prop):Prop:=∀W W':World,(∀B,Toy B->W'.heap[B]?=W.heap[B]?)->Ψ W->Ψ W'
end
section
variable {P:Ba} {SB BB:FuncId->Bool} {lets:Bool} {Gn:Nat} {ty Wg:Nat} {Dead Toy:Nat->Prop} {Kp:EP} {Ψ0 Ψ2:World->Prop}
 {j0 j:Nat} {gs:Array Goroutine} {W W':World} {t:Trace} {D:Nat->WD} {M:Nat->Wm} {O:Nat->Bool} {L:Nat->Option Lone} {ts ts':TS} {rr:Nat->Nat} {st sm Gv Hi:Int}
def WI.live (h:WI P SB BB lets Gn ty Wg Dead Toy Kp Ψ0 Ψ2 j0 j gs W t D M O L ts rr st sm):WgLive ty Wg W:=⟨_,_,h.wg⟩
def WI.next (h:WI P SB BB lets Gn ty Wg Dead Toy Kp Ψ0 Ψ2 j0 j gs W t D M O L ts rr st sm){i:Nat}(hi:i<j){g g':Goroutine}{fn:FuncId}{pos:String}{es:Array Event}{s' dd':Nat}{m':Wm}{x':Option Lone}{o':Bool}{r':Nat}
  (hk:Dv P SB BB lets Gn ty Wg Ψ2 s' dd' m' x' o' g' W') (Cf:WgAt ty Wg W' Gv Hi) (hcw:Cw P SB lets Gn Wg Dead Toy Kp (put L (i+1) x') ts'.own W')
  (OD:TI (MX Dead Wg) (OG Toy (put L (i+1) x') ts'.tp) (Kw Toy (put L (i+1) x') ts'.tp) (j+1) (t++MemOp.ofEvents (i+1) fn pos es))
  (YZ:∀e∈es,∀a,e.loc≠.mark (.release a))
  (hst:s'<=(D i).stage) (hold:i<j0->s'=1)
  (Pu:s'=7\/(∀i',i'<t.size->(D i).stage=7->i'<=r')/\((D i).stage<=6->r'=rr i)/\∀i',t.size<=i'->(t++MemOp.ofEvents (i+1) fn pos es).g? i'=some (i+1)->i'<=r'/\j0<=i\/((∀x,touchAt (t++MemOp.ofEvents (i+1) fn pos es) i'=some x->x.loc.isMemory=true->MX Dead Wg x.loc/\x.kind=.atomic)/\¬(t++MemOp.ofEvents (i+1) fn pos es).counts i'))
  (h7:s'=7->j0<=i/\(D i).stage=7)
  (GF:∀op∈MemOp.ofEvents (i+1) fn pos es,op.act.low W'.heap.size) (hsz:W.heap.size<=W'.heap.size)
  (KY:deafBehind (D i).deaf es=dd')
  (hrel:j0<=i->s'<=6->RelBy (stA Wg) (t++MemOp.ofEvents (i+1) fn pos es) (i+1) r')
  (o1:o'=true->ts'=.at_ (i+1)) (o2:ts'=ts/\o'=O i\/(ts=.at_ (i+1)/\ts'=.done/\o'=false)) (KZ:(ts'=.start->Ψ0 W')/\(ts'=.done->Ψ2 W')) :
  WI P SB BB lets Gn ty Wg Dead Toy Kp Ψ0 Ψ2 j0 j ((gs.map (woken P.b g g' W')).setIfInBounds (i+1) g') W' (t++MemOp.ofEvents (i+1) fn pos es) (upd D i ⟨s',0,dd'⟩) (upd M i m') (upd O i o') (put L (i+1) x') ts' (upd rr i r') Gv Hi:=by
 have FM:∀op∈MemOp.ofEvents (i+1) fn pos es,op.g=i+1:=g_of_ofEvents;have pd0:∀k a,a<t.size->Vv j0 j D rr k a->Vv j0 j (upd D i ⟨s',0,dd'⟩) (upd rr i r') k a:=by
  rintro k a ha ⟨b,rfl,hb0,Py,hb⟩;refine⟨b,rfl,hb0,Py,?_⟩;by_cases e:b=i
  .subst e;rw[upd_same,upd_same];rcases Pu with h1|⟨h1,h2,_⟩
   .exact .inl h1
   .rcases hb with hb'|hb'
    .exact .inr (h1 a ha hb')
    .by_cases h6:(D b).stage<=6
     .rw[h2 h6];exact .inr hb'
     .have : (D b).stage = 7 := by
       obtain⟨_,_,hs⟩:=h.wk b Py;exact hs.Vu.resolve_left h6
      exact .inr (h1 a ha this)
  .rw[upd_ne D _ e,upd_ne rr _ e];exact hb
 refine⟨by simp[h.size],λa ha=>?_,hcw,?_,λop hop=>?_,λa ha=>?_,λa h0 ha hs=>?_,Cf,λa ha ho=>?_,λk DO=>?_,KZ,λa ha=>?_,λa ha=>?_,h.jj⟩
 .by_cases e:a=i
  .subst e;exact⟨g',get_map_set_same _ _ _ (by rw[h.size];omega),by rw[upd_same,upd_same,upd_same,AU];exact hk⟩
  .obtain⟨y,hy,hs⟩:=h.wk a ha;refine⟨y,by rw[get_map_set _ _ _ _ (by omega),hy,yq,hs.woken],?_⟩;rw[upd_ne D _ e,upd_ne M _ e,upd_ne O _ e,A7 L _ (by omega)];exact hs.rely λ_=>⟨_,_,Cf⟩
 .refine(h.tr.Vt pd0).app OD FM (λop hop e=>?_) (λa ha Vw _=>?_)
  .obtain⟨x,hx,rfl⟩:=Go.Conc.mem_ofEvents hop;exact YZ x hx _ (Go.ConcR.loc_of_ofEvent e)
  .rcases Pu with h1|⟨_,_,h3⟩
   .exact .inl ⟨i,rfl,(h7 h1).1,hi,.inl (by rw[upd_same];exact h1)⟩
   .rcases h3 a ha Vw with⟨hx,h0⟩|hx
    .exact .inl ⟨i,rfl,h0,hi,.inr (by rw[upd_same];exact hx)⟩
    .exact .inr hx
 .rcases Array.mem_append.1 hop with hop|hop
  .exact MemAct.low_mono hsz (h.low op hop)
  .exact GF op hop
 .by_cases e:a=i
  .subst e;rw[Deaf_own,h.deafW a ha,upd_same];exact KY
  .rw[Deaf_other t (by omega) _ FM,h.deafW a ha,upd_ne D _ e]
 .by_cases e:a=i
  .subst e;rw[upd_same] at hs ⊢;exact hrel h0 hs
  .rw[upd_ne D _ e] at hs;rw[upd_ne rr _ e];exact(h.rel a h0 ha hs).appOther FM (by omega)
 .by_cases e:a=i
  .subst e;rw[upd_same] at ho;exact o1 ho
  .rw[upd_ne O _ e] at ho;have:=h.IV a ha ho;rcases o2 with⟨rfl,_⟩|⟨h1,_,_⟩
   .exact this
   .rw[h1] at this;have:=TS.at_.inj this;omega
 .rcases o2 with⟨rfl,h2⟩|⟨_,h1,_⟩
  .obtain⟨a,ha,e1,e2⟩:=h.J4 k DO;refine⟨a,ha,e1,?_⟩;by_cases e:a=i
   .subst e;rw[upd_same,h2];exact e2
   .rw[upd_ne O _ e];exact e2
  .rw[h1] at DO;cases DO
 .rw[A7 L _ (by omega)];exact h.out a ha
 .by_cases e:a=i
  .subst e;rw[upd_same];exact hold ha
  .rw[upd_ne D _ e];exact h.old a ha
def WI.Hj (h:WI P SB BB lets Gn ty Wg Dead Toy Kp Ψ0 Ψ2 j0 j gs W t D M O L ts rr st sm){k:Nat}(hk:k<j+1){u:Trace}(hu:∀op∈u,op.g=k/\∀x,op.act.touch?=some x->MX Dead Wg x.loc/\x.kind≠.plain/\(x.kind=.said->k=0)) :
  TI (MX Dead Wg) (OG Toy L ts.tp) (Kw Toy L ts.tp) (j+1) (t++u):=by
 have XE:ts.tp=true->ts.own=none:=zQ;refine h.tr.ti.app hk (λop hop=>⟨(hu op hop).1,λx hx=>.inr (.inl ((hu op hop).2 x hx))⟩) (λ_ _ _=>⟨id,id⟩) (λ_=>.inl) (λ_=>.inl) (λa l hs=>⟨λhw=>h.cw.JC (fR hw) hs,λhr=>h.cw.JC hr hs⟩) (λl hl=>?_)
  (λa ha _ l=>⟨λhw=>⟨h.cw.apart XE (Ne.symm ha) l hw,λhw'=>h.cw.apart XE (Ne.symm ha) l hw (fR hw')⟩,λhr hw'=>h.cw.apart XE ha l hw' hr⟩)
 rcases hl with⟨a,rfl,_⟩|⟨a,hl⟩
 .rfl
 .have hr:Kw Toy L ts.tp a l:=hl.elim fR id;rcases hr with⟨y,_,b,B,_,_,h4⟩|⟨_,_,B,_,h4⟩<;>exact EG h4
def Em {L:Nat->Option Lone}{k:Nat}(h:L k=none):put L k none=L:=by
 funext a;unfold put;split
 .rename_i e;rw[e,h]
 .rfl
def K3 {Wg:Nat}{e:Event}(h:Bk Wg e){x:Touch}(hx:(MemAct.ofEvent e).touch?=some x):(∃a:Addr,x.loc=.cell a/\a.block=Wg)/\x.kind=.atomic:=by
 rcases h with h1|h1|⟨a,wr,rfl,ha⟩
 .rw[ofEvent_loc_mark h1] at hx;cases hx
 .rw[ofEvent_loc_mark h1] at hx;cases hx
 .cases wr<;>simp[MemAct.ofEvent,MemAct.touch?] at hx<;>subst hx<;>exact⟨⟨a,rfl,ha⟩,rfl⟩
def Pz {Wg B:Nat}{e:Event}(h:Bk Wg e)(hB:Wg<B):(MemAct.ofEvent e).low B:=by
 rcases h with h1|h1|⟨a,wr,rfl,ha⟩
 .rw[ofEvent_loc_mark h1];trivial
 .rw[ofEvent_loc_mark h1];trivial
 .have:a.block<B:=by omega
  cases wr<;>simpa [MemAct.ofEvent,MemAct.low,Loc.low] using this
def lT {Wg:Nat}{e:Event}(h:Bk Wg e)(a:Addr):e.loc≠.mark (.release a):=by
 rcases h with h1|h1|⟨a',wr,rfl,ha⟩
 .rw[h1];simp
 .rw[h1];simp
 .simp
def WI.book (h:WI P SB BB lets Gn ty Wg Dead Toy Kp Ψ0 Ψ2 j0 j gs W t D M O L ts rr st sm)(tz:av Toy Ψ0)(Ci:av Toy Ψ2){i:Nat}(hi:i<j){g g':Goroutine}{fn:FuncId}{pos:String}{es:Array Event}{s' dd':Nat}{m':Wm}
  (hk:Dv P SB BB lets Gn ty Wg Ψ2 s' dd' m' none false g' W') (h6:(D i).stage<=6) (hL:L (i+1)=none) (hO:O i=false) (hst:s'<=(D i).stage) (hold:i<j0->s'=1)
  (Mh:Aside Wg W W') (Cf:WgAt ty Wg W' Gv Hi) (Gw:∀e∈es,Bk Wg e) (hd:∀a e,es[a]?=some e->(MemAct.ofEvent e).touch?=none\/0<deafBehind (D i).deaf (es.extract 0 a)) (KY:deafBehind (D i).deaf es=dd') :
  WI P SB BB lets Gn ty Wg Dead Toy Kp Ψ0 Ψ2 j0 j ((gs.map (woken P.b g g' W')).setIfInBounds (i+1) g') W' (t++MemOp.ofEvents (i+1) fn pos es) (upd D i ⟨s',0,dd'⟩) (upd M i m') (upd O i false) L ts (upd rr i (rr i)) Gv Hi:=by
 have hrel:j0<=i->RelBy (stA Wg) (t++MemOp.ofEvents (i+1) fn pos es) (i+1) (rr i):=λh0=>(h.rel i h0 hi h6).book (h.deafW i hi) fn pos Gw hd;have XF:∀op∈MemOp.ofEvents (i+1) fn pos es,op.g=i+1/\∀x,op.act.touch?=some x->MX Dead Wg x.loc/\x.kind=.atomic:=by
  intro op hop;obtain⟨e,he,rfl⟩:=Go.Conc.mem_ofEvents hop;refine⟨rfl,λx hx=>?_⟩;obtain⟨⟨a,h1,h2⟩,h3⟩:=K3 (Gw e he) hx;exact⟨⟨a,h1,.inr h2⟩,h3⟩
 have hbl:∀B,Toy B->W'.heap[B]?=W.heap[B]?:=λB hB=>Mh.block B (h.cw.Gk B hB).1;have:=h.next hi (g:=g) (fn:=fn) (pos:=pos) (r':=rr i) (ts':=ts) hk Cf (by rw[Em hL];exact h.cw.group Mh ⟨_,_,_,Cf⟩)
  (by rw[Em hL];exact h.Hj (by omega) (λop hop=>⟨(XF op hop).1,λx hx=>⟨((XF op hop).2 x hx).1,by rw[((XF op hop).2 x hx).2];simp,λe=>by rw[((XF op hop).2 x hx).2] at e;cases e⟩⟩))
  (λe he a=>lT (Gw e he) a) hst hold
  (.inr ⟨λ_ _ h7=>by omega,λ_=>rfl,λa ha Vw=>.inr ⟨λx hx _=>?_,λhc=>?_⟩⟩) (λh7=>by omega)
  (λop hop=>by obtain⟨e,he,rfl⟩:=Go.Conc.mem_ofEvents hop;exact Pz (Gw e he) (by rw[Mh.size];exact h.cw.low.1)) (by rw[Mh.size];exact xh _) KY (λh0 _=>hrel h0) (by simp) (.inl ⟨rfl,hO.symm⟩)
  ⟨λe=>tz W W' hbl (h.Ed.1 e),λe=>Ci W W' hbl (h.Ed.2 e)⟩
 .rwa [Em hL] at this
 .obtain⟨op,hop,MV⟩:=touch_of hx;rcases getElem?_append_cases hop with⟨hlt,_⟩|⟨_,Ey⟩
  .omega
  .exact(XF op Ey).2 x MV
 ·
  obtain⟨x,hx,_,ND⟩:=hc;have Hh:touchAt (t++MemOp.ofEvents (i+1) fn pos es) a=some x:=hx;obtain⟨op,hop,MV⟩:=touch_of Hh;rcases getElem?_append_cases hop with⟨hlt,_⟩|⟨_,Ey⟩
  .omega
  .have hat:=((XF op Ey).2 x MV).2;rcases ND with ND|⟨gg,hgg,hdf⟩
   .exact ND hat
   .have eg:gg=i+1:=by rw[Vw] at hgg;exact(Option.some.inj hgg).symm
    subst eg;have hj:(MemOp.ofEvents (i+1) fn pos es)[a-t.size]?=some op:=by
     rw[zi] at hop;simpa [Nat.not_lt.2 ha] using hop
    rw[ofEvents_eq,ye] at hj;obtain⟨e,he,rfl⟩:=xQ.1 hj;have hjs:a-t.size<=es.size:=by
     rcases yh (a-t.size) es.size with h'|h'
     .omega
     .rw[yM h'] at he;cases he
    rcases hd _ e he with h0|h0
    .simp only at MV;rw[h0] at MV;cases MV
    .have:=deaf_inside t (i+1) fn pos es (a-t.size) hjs;rw[show t.size+(a-t.size)=a by omega,hdf,h.deafW i hi] at this;omega
end
open Go.ConcR (KK WgAt stA smA rd wr mk DC0 Bk g_of_ofEvents bk_of_mute ofEvent_loc_mark ofEvent_cell ofEvent_mk)
def KX.Vy {p:Program}{a:Wm}{s m:Nat}(h:KX p a (.st s m)):∃s' m',a=.st s' m':=by
 cases h<;>exact⟨_,_,rfl⟩
section
variable (P:Ba) (SB BB:FuncId->Bool) (lets:Bool) (Gn:Nat) (ty Wg:Nat) (Dead Toy:Nat->Prop) (Kp:EP) (Ψ0 Ψ2:World->Prop)
def H4 (j0 j:Nat)(gs:Array Goroutine)(W:World)(t:Trace)(D:Nat->WD)(M:Nat->Wm)(L:Nat->Option Lone)(rr:Nat->Nat)(tag:CTag)(tp:Bool)(i:Nat)(g:Goroutine):Prop :=
 ∃(g':Goroutine) (W':World) (es:Array Event) (D':Nat->WD) (M':Nat->Wm) (O':Nat->Bool) (L':Nat->Option Lone) (ts':TS) (XG:Nat->Nat) (Gv Hi:Int),
  stepG P.b false g W=.go g' W' es /\
  WI P SB BB lets Gn ty Wg Dead Toy Kp Ψ0 Ψ2 j0 j ((gs.map (woken P.b g g' W')).setIfInBounds (i+1) g') W' (t++MemOp.ofEvents (i+1) g.frame.fn g.frame.place es) D' M' O' L' ts' XG Gv Hi /\
  (∀tag',(tag'=tag\/(tag=.blk/\tag'=.w3))->(mayWake P.b g=true->g'.status=.running->tag'≠.blk)->ConcN.Mode j D' tag' Gv Hi) /\
  KX P.a (M' i) (M i)/\(∀k,k≠i->M' k=M k)/\L' 0=L 0/\Vc j D'<=Vc j D/\(∀k,k<j->(D k).stage<=6->(D' k).stage<=6/\XG k=rr k)/\ts'.tp=tp
end
section
variable {P:Ba} {SB BB:FuncId->Bool} {lets:Bool} {Gn:Nat} {ty Wg:Nat} {Dead Toy:Nat->Prop} {Kp:EP} {Ψ0 Ψ2:World->Prop}
 {j0 j:Nat} {gs:Array Goroutine} {W W':World} {t:Trace} {D:Nat->WD} {M:Nat->Wm} {O:Nat->Bool} {L:Nat->Option Lone} {ts ts':TS} {rr:Nat->Nat} {st sm Gv Hi:Int} {tag:CTag} {i:Nat} {g:Goroutine}
def dh (hi:i<j){x:WD}(hx:cnt x<=cnt (D i)):Vc j (upd D i x)<=Vc j D:=by
 have:=Vc_upd D x hi;omega
def bF (h:WI P SB BB lets Gn ty Wg Dead Toy Kp Ψ0 Ψ2 j0 j gs W t D M O L ts rr st sm)(tz:av Toy Ψ0)(Ci:av Toy Ψ2)(hi:i<j)(hL:L (i+1)=none)(hO:O i=false){s:Nat}(hs:(D i).stage=s)(h6:s<=6)
  {g':Goroutine} {es:Array Event} {s' dd':Nat} {m':Wm} (hgo:stepG P.b false g W=.go g' W' es) (hk:Dv P SB BB lets Gn ty Wg Ψ2 s' dd' m' none false g' W') (hst:s'<=s) (hold:i<j0->s'=1)
  (Mh:Aside Wg W W') (Cf:WgAt ty Wg W' Gv Hi) (Gw:∀e∈es,Bk Wg e) (hd:∀a e,es[a]?=some e->(MemAct.ofEvent e).touch?=none\/0<deafBehind (D i).deaf (es.extract 0 a)) (KY:deafBehind (D i).deaf es=dd')
  (AV:∀tag',(tag'=tag\/(tag=.blk/\tag'=.w3))->(mayWake P.b g=true->g'.status=.running->tag'≠.blk)->ConcN.Mode j (upd D i ⟨s',0,dd'⟩) tag' Gv Hi)
  (hlt:KX P.a m' (M i)):H4 P SB BB lets Gn ty Wg Dead Toy Kp Ψ0 Ψ2 j0 j gs W t D M L rr tag ts.tp i g:=by
 refine⟨g',W',es,_,_,_,_,_,_,Gv,Hi,hgo,h.book tz Ci hi hk (by omega) hL hO (by omega) hold Mh Cf Gw hd KY,AV,by rw[upd_same];exact hlt,λk hk=>upd_ne M _ hk,rfl,dh hi ?_,λk hk h6'=>?_,rfl⟩
 .simp only[cnt];split<;>split<;>omega
 .by_cases e:k=i
  .subst e;rw[upd_same,upd_same];exact⟨by show s'<=6;omega,rfl⟩
  .rw[upd_ne D _ e,upd_ne rr _ e];exact⟨h6',rfl⟩
def eh {es:Array Event}{k:Nat}{fn:FuncId}{pos:String}(h:∀e∈es,(MemAct.ofEvent e).touch?=none):∀op∈MemOp.ofEvents k fn pos es,op.g=k/\∀x,op.act.touch?=some x->False:=by
 intro op hop;obtain⟨e,he,rfl⟩:=Go.Conc.mem_ofEvents hop;exact⟨rfl,λx hx=>by rw[h e he] at hx;cases hx⟩
def K4 (h:WI P SB BB lets Gn ty Wg Dead Toy Kp Ψ0 Ψ2 j0 j gs W t D M O L ts rr st sm)(hi:i<j)(hL:L (i+1)=none)(hO:O i=false)(hs:(D i).stage=7)(hd:(D i).deaf=0){m:Nat}(hM:M i=.st 7 m)(AV:ConcN.Mode j D tag st sm)
  (hk:GW P.b ty Wg false (R0 P.b ty Wg) m g W):H4 P SB BB lets Gn ty Wg Dead Toy Kp Ψ0 Ψ2 j0 j gs W t D M L rr tag ts.tp i g:=by
 have SX:j0<=i:=Nat.le_of_not_lt λhlt=>by have:=h.old i hlt;omega
 have hdk:Deaf t (i+1)=0:=by rw[h.deafW i hi,hd]
 rcases Goes.cases hk with Bf|⟨m',rfl,hstep⟩
 .obtain⟨_,g',hgo,m₂,DO⟩:=Bf W (RL.refl W);have Kv:∀e∈(#[mk (.releaseMerge (stA Wg))]:Array Event),(MemAct.ofEvent e).touch?=none:=by intro e he;simp at he;subst he;rfl
  have hw:=h.next hi (g:=g) (fn:=g.frame.fn) (pos:=g.frame.place) (r':=t.size) (ts':=ts) (.k1 DO) h.wg (by rw[Em hL];exact h.cw)
   (by rw[Em hL];exact h.Hj (by omega) (λop hop=>⟨(eh Kv op hop).1,λx hx=>((eh Kv op hop).2 x hx).elim⟩))
   (by intro e he a;simp at he;subst he;simp[mk]) (by omega) (λe=>by omega)
   (.inr ⟨λa ha _=>by omega,λh6=>by omega,λa ha Vw=>.inl ⟨by
    obtain⟨z,hz,_⟩:=xQ.1 Vw;have:=lt_size_of_getElem? hz;rw[ofEvents_eq] at this;simp at this
    omega,SX⟩⟩) (λe=>by omega)
   (λop hop=>by
    obtain⟨e,he,rfl⟩:=Go.Conc.mem_ofEvents hop;simp at he;subst he
    exact h.cw.low.1) (xh _) (by rw[hd];rfl) (λ_ _=>RelBy.new hdk _ _) (by simp) (.inl ⟨rfl,hO.symm⟩) h.Ed
  refine⟨g',W,_,_,_,_,_,_,_,st,sm,hgo,hw,λtag' ht _=>(AV.counted hi (by omega) (.inl rfl) _ _).retag ht,by rw[upd_same,hM];exact .stage (by omega),λk hk=>upd_ne M _ hk,A7 L _ (by omega),dh hi (by simp[cnt,hs]),λk hk h6=>?_,rfl⟩;have e:k≠i:=λe=>by subst e;omega
  rw[upd_ne D _ e,upd_ne rr _ e];exact⟨h6,rfl⟩
 .obtain⟨g',w',es,hgo,⟨rfl,rfl⟩,C1⟩:=hstep W (RL.refl W);have Kv:∀e∈(#[]:Array Event),(MemAct.ofEvent e).touch?=none:=by simp
  have hw:=h.next hi (g:=g) (fn:=g.frame.fn) (pos:=g.frame.place) (r':=rr i) (ts':=ts) (.r0 C1) h.wg (by rw[Em hL];exact h.cw)
   (by rw[Em hL];exact h.Hj (by omega) (λop hop=>⟨(eh Kv op hop).1,λx hx=>((eh Kv op hop).2 x hx).elim⟩))
   (by simp) (by omega) (λe=>by omega) (.inl rfl) (λ_=>⟨SX,hs⟩) (λop hop=>by obtain⟨e,he,rfl⟩:=Go.Conc.mem_ofEvents hop;simp at he) (xh _) (by rw[hd];rfl) (λ_ e=>by omega) (by simp) (.inl ⟨rfl,hO.symm⟩) h.Ed
  refine⟨g',w',_,_,_,_,_,_,_,st,sm,hgo,hw,λtag' ht _=>ConcN.Mode.retag (by have:=AV.same (i:=i) 0 0;rwa [hs] at this) ht,by rw[upd_same,hM];exact .fuel (by omega),λk hk=>upd_ne M _ hk,A7 L _ (by omega),dh hi (by simp[cnt,hs]),λk hk h6=>?_,rfl⟩;have e:k≠i:=λe=>by subst e;omega
  rw[upd_ne D _ e,upd_ne rr _ e];exact⟨h6,rfl⟩
def Cw.free (c:Cw P SB lets Gn Wg Dead Toy Kp L (some (i+1)) W):Cw P SB lets Gn Wg Dead Toy Kp (put L (i+1) none) none W:=by
 have d:=c.drop (i+1);refine⟨d.like,d.BA,d.MZ,d.dead,λa x ha _=>?_,d.sep,d.low,d.Gk,d.keep,d.Cp,d.KW,d.Pv⟩;have e:a≠i+1:=λe=>by subst e;rw[AU] at ha;cases ha
 exact d.Gj a x ha (λe'=>e (Option.some.inj e').symm)
def WI.turn (h:WI P SB BB lets Gn ty Wg Dead Toy Kp Ψ0 Ψ2 j0 j gs W t D M O L ts rr st sm)(hi:i<j)(hg:gs[i+1]?=some g)(hs:(D i).stage=7)(hd:(D i).deaf=0){m:Nat}(hk:GW P.b ty Wg false (R0 P.b ty Wg) m g W)(PC:O i=true->Ψ2 W) :
  ∃ts',WI P SB BB lets Gn ty Wg Dead Toy Kp Ψ0 Ψ2 j0 j gs W t D (upd M i (.st 7 m)) (upd O i false) (put L (i+1) none) ts' rr st sm/\ts'.tp=ts.tp:=by
 have GY:∀ {a y},put L (i+1) none a=some y->L a=some y:=λ{a y} e=>by
  by_cases e':a=i+1
  .subst e';rw[AU] at e;cases e
  .rwa [A7 L _ e'] at e
 have wk:∀a,a<j->∃g,gs[a+1]?=some g/\Dv P SB BB lets Gn ty Wg Ψ2 (D a).stage (D a).deaf (upd M i (.st 7 m) a) (put L (i+1) none (a+1)) (upd O i false a) g W:=λa ha=>by
  by_cases e:a=i
  .subst e;refine⟨g,hg,?_⟩;rw[upd_same,upd_same,AU,hs,hd];exact .r0 hk
  .obtain⟨y,hy,hs⟩:=h.wk a ha;refine⟨y,hy,?_⟩;rw[upd_ne M _ e,upd_ne O _ e,A7 L _ (by omega)];exact hs
 have out:∀a,j<a->put L (i+1) none a=none:=λa ha=>by rw[A7 L _ (by omega)];exact h.out a ha
 by_cases ho:O i=true
 .have e:=h.IV i hi ho;subst e;refine⟨.done,⟨h.size,wk,Cw.free h.cw,h.tr.Mj (λk l=>?_) (λk l=>?_),h.low,h.deafW,h.rel,h.wg,λa ha e=>?_,λk e=>(by cases e),⟨λe=>(by cases e),λ_=>PC ho⟩,out,h.old,h.jj⟩,rfl⟩
  .rintro(⟨x,hx,hw⟩|⟨_,h2,_⟩)
   .exact .inl ⟨x,GY hx,hw⟩
   .cases h2
  .rintro(⟨x,hx,hw⟩|⟨_,h2,_⟩)
   .exact .inl ⟨x,GY hx,hw⟩
   .cases h2
  .by_cases e':a=i
   .subst e';rw[upd_same] at e;cases e
   .rw[upd_ne O _ e'] at e;have:=TS.at_.inj (h.IV a ha e);omega
 .have LP:O i=false:=by simpa using ho
  refine⟨ts,⟨h.size,wk,h.cw.drop (i+1),h.tr.Mj (λk l=>?_) (λk l=>?_),h.low,h.deafW,h.rel,h.wg,λa ha e=>?_,λk e=>?_,h.Ed,out,h.old,h.jj⟩,rfl⟩
  .rintro(⟨x,hx,hw⟩|h2)
   .exact .inl ⟨x,GY hx,hw⟩
   .exact .inr h2
  .rintro(⟨x,hx,hw⟩|h2)
   .exact .inl ⟨x,GY hx,hw⟩
   .exact .inr h2
  .by_cases e':a=i
   .subst e';rw[upd_same] at e;cases e
   .rw[upd_ne O _ e'] at e;exact h.IV a ha e
  .obtain⟨a,ha,e1,e2⟩:=h.J4 k e;refine⟨a,ha,e1,?_⟩;rw[upd_ne O _ (λe'=>by subst e';rw[LP] at e2;cases e2)];exact e2
def oU (h:WI P SB BB lets Gn ty Wg Dead Toy Kp Ψ0 Ψ2 j0 j gs W t D M O L ts rr st sm)(hi:i<j)(hs:(D i).stage=7)(hd:(D i).deaf=0){x:Lone}(hL:L (i+1)=some x)
  {wl:AO} {Q:Goroutine->World->Prop} (hM:M i=.born Q (x.g,x.w)) (AV:ConcN.Mode j D tag st sm) (EZ:wl.le x.β) (hQ:cM P SB BB lets Gn ty Wg Ψ2 Q x.H x.T wl (O i)) (K5:∀g w,Q g w->BB g.frame.fn=false) (hr:Br P.a BB Q 0 x.g x.w) (hb:lS P SB BB lets x g) :
  H4 P SB BB lets Gn ty Wg Dead Toy Kp Ψ0 Ψ2 j0 j gs W t D M L rr tag ts.tp i g:=by
 have SX:j0<=i:=Nat.le_of_not_lt λhlt=>by have:=h.old i hlt;omega
 obtain⟨_,g',hgo,C1⟩:=hb;have Kv:∀e∈(#[]:Array Event),(MemAct.ofEvent e).touch?=none:=by simp
 have hp:put L (i+1) (some x)=L:=by
  funext a;unfold put;split
  .rename_i e;rw[e,hL]
  .rfl
 have hw:=h.next hi (g:=g) (fn:=g.frame.fn) (pos:=g.frame.place) (r':=rr i) (ts':=ts) (o':=O i) (.tree EZ hQ K5 hr C1) h.wg (by rw[hp];exact h.cw)
  (by rw[hp];exact h.Hj (by omega) (λop hop=>⟨(eh Kv op hop).1,λx hx=>((eh Kv op hop).2 x hx).elim⟩))
  (by simp) (by omega) (λe=>by omega) (.inl rfl) (λ_=>⟨SX,hs⟩) (λop hop=>by obtain⟨e,he,rfl⟩:=Go.Conc.mem_ofEvents hop;simp at he) (xh _) (by rw[hd];rfl) (λ_ e=>by omega) (λho=>h.IV i hi ho) (.inl ⟨rfl,rfl⟩) h.Ed
 refine⟨g',W,_,_,_,_,_,_,_,st,sm,hgo W,hw,λtag' ht _=>ConcN.Mode.retag (by have:=AV.same (i:=i) 0 0;rwa [hs] at this) ht,by rw[upd_same,hM];exact .un,λk hk=>upd_ne M _ hk,A7 L _ (by omega),dh hi (by simp[cnt,hs]),λk hk h6=>?_,rfl⟩;have e:k≠i:=λe=>by subst e;omega
 rw[upd_ne D _ e,upd_ne rr _ e];exact⟨h6,rfl⟩
def oV (lib:∀H,Lib P SB H lets BB Gn)(h:WI P SB BB lets Gn ty Wg Dead Toy Kp Ψ0 Ψ2 j0 j gs W t D M O L ts rr st sm)(tz:av Toy Ψ0)(Ci:av Toy Ψ2)(hi:i<j)(hs:(D i).stage=7){d:Nat}(hd:(D i).deaf=d){x:Lone}(hL:L (i+1)=some x)
  {wl:AO} {Q:Goroutine->World->Prop} (hM:M i=.tree Q (x.g,x.w)) (AV:ConcN.Mode j D tag st sm) (EZ:wl.le x.β) (hQ:cM P SB BB lets Gn ty Wg Ψ2 Q x.H x.T wl (O i)) (K5:∀g w,Q g w->BB g.frame.fn=false)
  {ng:Tape->Nat->Goroutine} {nw:Tape->Nat->World} (h1:BO P.a BB x.g x.w) (h2:∀τ d,(∃es,stepG P.a true x.g (on x.w τ d)=.go (ng τ d) (nw τ d) es)/\(ng τ d).callers≠[]) (h3:∀τ n,Br P.a BB Q d (ng τ n) (nw τ n)) (hg:BZ P SB BB lets x g) :
  H4 P SB BB lets Gn ty Wg Dead Toy Kp Ψ0 Ψ2 j0 j gs W t D M L rr tag ts.tp i g:=by
 have SX:j0<=i:=Nat.le_of_not_lt λhlt=>by have:=h.old i hlt;omega
 have hq:¬Q x.g x.w:=λhq=>by have:=h1.1;rw[K5 _ _ hq] at this;cases this
 obtain⟨g',w',es,Ax,g2,W',ES,e1,e2,e3,e4,e5⟩:=Hy (lib x.H) (main2:=false) h1 h2 hg (h.cw.like _ x hL);have KU:Br P.a BB Q d g' w':=by obtain⟨rfl,rfl⟩:=e2;exact h3 _ _
 have f:EF P SB lets Gn x W Ax w' W' ES.toList:=e5;have F9:=h.cw.BA _ x hL;have Vz:W'.heap[Wg]?=W.heap[Wg]?:=h.cw.same hL f h.cw.low.1 (h.cw.MZ _ x hL);have Cf:WgAt ty Wg W' st sm:=by unfold WgAt;rw[Vz];exact h.wg
 have hes:ES=ES.toList.toArray:=by simp
 have Mk:ts.own≠some (i+1)->∀B,Toy B->W'.heap[B]?=W.heap[B]?:=λho B hB=>h.cw.same hL f (h.cw.low.2.2 B hB) λb hb=>h.cw.Gj _ x hL ho b B hb hB;have Hk:=cL f F9;rw[<-hes] at Hk;have hw:=h.next hi (g:=g) (g':=g2) (fn:=g.frame.fn) (pos:=g.frame.place) (es:=ES) (r':=rr i) (ts':=ts) (x':=some ⟨g',w',x.H,Ax,x.T⟩) (o':=O i) (.tree (x:=⟨g',w',x.H,Ax,x.T⟩) (AO.le_trans EZ e5.le) hQ K5 KU e4) Cf (h.cw.step hL f g')
  (by rw[hes];exact h.cw.Px hL f g' zQ (by omega) h.tr.ti h.low) (λe he a=>(Hk e he).2.2 a) (by omega) (λe=>by omega) (.inl rfl) (λ_=>⟨SX,hs⟩)
  (by rw[hes];exact dY f F9) f.SIZE (by rw[hd];exact deafBehind_idle (λe he=>⟨(Hk e he).1,(Hk e he).2.1⟩) d) (λ_ e=>by omega) (λho=>h.IV i hi ho) (.inl ⟨rfl,rfl⟩)
  ⟨λe=>tz W W' (Mk (by rw[e];simp[TS.own])) (h.Ed.1 e),λe=>Ci W W' (Mk (by rw[e];simp[TS.own])) (h.Ed.2 e)⟩
 refine⟨g2,W',ES,_,_,_,_,_,_,st,sm,e3,hw,λtag' ht _=>ConcN.Mode.retag (by have:=AV.same (i:=i) 0 d;rwa [hs] at this) ht,?_,λk hk=>upd_ne M _ hk,A7 L _ (by omega),dh hi (by simp[cnt,hs]),λk hk h6=>?_,rfl⟩
 .rw[upd_same,hM];exact .tree hq ⟨W.tape,W.drawn,es,e1,e4.callers.ne⟩
 .have e:k≠i:=λe=>by subst e;omega
  rw[upd_ne D _ e,upd_ne rr _ e];exact⟨h6,rfl⟩
def _root_.Go.AW.DI.mem {β:AO}{es ES:Array Event}(h:DI β es ES):∀e∈ES,(MemAct.ofEvent e).touch?=none/\(∀a,e.loc≠.mark (.release a)):=by
 intro e he;cases h with
 |EE m hm=>simp only[yy,xu,xm,or_false] at he;subst he;rcases hm with rfl|rfl<;>exact⟨rfl,by simp⟩
 |D4 o s mk hm hb=>simp only[yy,xu,xm,or_false] at he;subst he;rcases hm with rfl|rfl<;>exact⟨rfl,by simp⟩
 |none=>simp at he
def _root_.Go.AW.DI.low {β:AO}{es ES:Array Event}(h:DI β es ES){B:Nat}(hl:∀e∈ES,∀ad,e.loc=.mark (.acquire ad)\/e.loc=.mark (.releaseMerge ad)->ad.block<B):∀e∈ES,(MemAct.ofEvent e).low B:=by
 intro e he;cases h with
 |EE m hm=>simp only[yy,xu,xm,or_false] at he;subst he;rcases hm with rfl|rfl<;>trivial
 |D4 o s mk hm hb =>
  have:=hl e he;simp only[yy,xu,xm,or_false] at he;subst he;rcases hm with rfl|rfl
  .exact this _ (.inl rfl)
  .exact this _ (.inr rfl)
 |none=>simp at he
def oW (lib:∀H,Lib P SB H lets BB Gn)(LN:∀(f:FuncId) (fn:Func),P.a.funcs[f]?=some fn->fn.body.isNone=true->P.fs[f]?=some fn)(h:WI P SB BB lets Gn ty Wg Dead Toy Kp Ψ0 Ψ2 j0 j gs W t D M O L ts rr st sm)(hi:i<j)(hs:(D i).stage=7){d:Nat}(hd:(D i).deaf=d){x:Lone}(hL:L (i+1)=some x)
  {wl:AO} {Q:Goroutine->World->Prop} (hM:M i=.tree Q (x.g,x.w)) (AV:ConcN.Mode j D tag st sm) (EZ:wl.le x.β) (hQ:cM P SB BB lets Gn ty Wg Ψ2 Q x.H x.T wl (O i)) (K5:∀g w,Q g w->BB g.frame.fn=false)
  {b:Frame} {a:Act} {ops:Array Oper} {i0:Nat} {rest:List Nat} {k:List Item} {cs:List Frame} {o:Oper} {es:Array Event} {v:Value} (Ml:x.g=Bx (b.at a (.inRegion ops (i0::rest)::k)) cs)
  (h1:BB b.fn=true) (h2:cs≠[]) (h3:ops[i0]?=some o) (h4:Region.wanted o (yielded ops a.tmps)=true) (h5:b.kind≠.early) (h6:Cc P.a a x.w o es v) (h7:∀τ n,Br P.a BB Q (deafBehind d es) (Bx (b.at (a.put o.dst v) (.inRegion ops rest::k)) cs) (on x.w τ n)) (hg:BZ P SB BB lets x g) :
  H4 P SB BB lets Gn ty Wg Dead Toy Kp Ψ0 Ψ2 j0 j gs W t D M L rr tag ts.tp i g:=by
 have SX:j0<=i:=Nat.le_of_not_lt λhlt=>by have:=h.old i hlt;omega
 have hq:¬Q x.g x.w:=λhq=>by have:=K5 _ _ hq;rw[Ml] at this;exact absurd h1 (by rw[show b.fn=(Bx (b.at a (.inRegion ops (i0::rest)::k)) cs).frame.fn from rfl,this];decide)
 have hw0:=h.cw.like _ x hL;have hg0:CI P SB x.H lets BB x.T x.β (Bx (b.at a (.inRegion ops (i0::rest)::k)) cs) g:=Ml▸hg;obtain⟨g2,ES,e3,e4,e5,e6⟩:=KN LN (main2:=false) h1 hg0 hw0 h3 h4 h5 h6;have Hh:Bg (SP SB x.H) (CK P.a SB lets) Gn x.β (on x.w W.tape W.drawn) W:=hw0.same rfl rfl hw0.env;have f0:EF P SB lets Gn x W x.β (on x.w W.tape W.drawn) W []:=Fin.refl Hh;have hcw:=h.cw.step hL f0 (Bx (b.at (a.put o.dst v) (.inRegion ops rest::k)) cs)
 have Gl:=e5.mem;have hw:=h.next hi (g:=g) (g':=g2) (fn:=g.frame.fn) (pos:=g.frame.place) (es:=ES) (r':=rr i) (ts':=ts) (x':=some ⟨Bx (b.at (a.put o.dst v) (.inRegion ops rest::k)) cs,on x.w W.tape W.drawn,x.H,x.β,x.T⟩) (o':=O i)
  (.tree (x:=⟨Bx (b.at (a.put o.dst v) (.inRegion ops rest::k)) cs,on x.w W.tape W.drawn,x.H,x.β,x.T⟩) EZ hQ K5 (h7 _ _) e4) h.wg hcw
  ((h.Hj (k:=i+1) (by omega) (u:=MemOp.ofEvents (i+1) g.frame.fn g.frame.place ES) (λop hop=>by
   obtain⟨e,he,rfl⟩:=Go.Conc.mem_ofEvents hop
   exact⟨rfl,λy hy=>by rw[(Gl e he).1] at hy;cases hy⟩)).mono (λj l hl=>?_) (λj l hl=>?_))
  (λe he a=>(Gl e he).2 a) (by omega) (λe=>by omega) (.inl rfl) (λ_=>⟨SX,hs⟩)
  (λop hop=>by obtain⟨e,he,rfl⟩:=Go.Conc.mem_ofEvents hop;exact e5.low e6 e he) (xh _) (by rw[hd];exact e5.deaf d) (λ_ e=>by omega) (λho=>h.IV i hi ho) (.inl ⟨rfl,rfl⟩) h.Ed
 .refine⟨g2,W,ES,_,_,_,_,_,_,st,sm,e3,hw,λtag' ht _=>ConcN.Mode.retag (by have:=AV.same (i:=i) 0 (deafBehind d es);rwa [hs] at this) ht,?_,λk hk=>upd_ne M _ hk,A7 L _ (by omega),dh hi (by simp[cnt,hs]),λk hk h6=>?_,rfl⟩
  .rw[upd_same,hM];refine .tree hq ⟨W.tape,W.drawn,es,?_,h2⟩;show stepG P.a true x.g (on x.w W.tape W.drawn)=_;rw[Ml];exact(h6.same zC).step h3 h4 h5
  .have e:k≠i:=λe=>by subst e;omega
   rw[upd_ne D _ e,upd_ne rr _ e];exact⟨h6,rfl⟩
 .rcases hl with⟨y,hy,hr⟩|hl
  .by_cases e:j=i+1
   .subst e;rw[AU] at hy;cases hy;exact .inl ⟨x,hL,hr⟩
   .rw[A7 L _ e] at hy;exact .inl ⟨y,hy,hr⟩
  .exact .inr hl
 .rcases hl with⟨y,hy,hr⟩|hl
  .by_cases e:j=i+1
   .subst e;rw[AU] at hy;cases hy;exact .inl ⟨x,hL,hr⟩
   .rw[A7 L _ e] at hy;exact .inl ⟨y,hy,hr⟩
  .exact .inr hl
end
end Go.Co
