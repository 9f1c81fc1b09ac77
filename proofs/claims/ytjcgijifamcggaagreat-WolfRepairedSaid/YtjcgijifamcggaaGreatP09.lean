/- Parts of the proof. -/
import Derived.Test.YtjcgijifamcggaaGreatP00
import Derived.Test.YtjcgijifamcggaaGreatP06
import Derived.Test.YtjcgijifamcggaaGreatP08
import Derived.Conc.CrowdTrace
import Derived.Conc.CrowdStepW
import Derived.Conc.Beside
set_option linter.all false
namespace Go.Bl
open Go.Conc Go.ConcN
structure TI (Sh:Loc->Prop)(Wr Rd:Nat->Loc->Prop)(N:Nat)(t:Trace):Prop where
 quiet:Quiet Sh t
 own:∀k,k<N->∀l,Wr k l->Perm t k l
 rd:∀k,k<N->∀l,Rd k l->PermW t k l
 nr:∀said,¬Race said t
 gs:∀(i:Nat) (op:MemOp),t[i]?=some op->op.g<N
def gG (t:Trace)(l:Loc):Prop:=∀i a,touchAt t i=some a->a.loc≠l
section
variable {Sh:Loc->Prop} {Wr Rd Wr' Rd':Nat->Loc->Prop} {N k:Nat} {t u:Trace}
def OkOp (Sh:Loc->Prop)(Wr Rd:Nat->Loc->Prop)(k:Nat)(op:MemOp):Prop :=
 op.g=k/\∀x,op.act.touch?=some x->x.loc.isMemory=false\/(Sh x.loc/\x.kind≠.plain/\(x.kind=.said->k=0))\/(¬Sh x.loc/\(x.write=true->Wr k x.loc)/\(x.write=false->Rd k x.loc))
def TI.app (h:TI Sh Wr Rd N t)(hk:k<N)(hu:∀op∈u,OkOp Sh Wr' Rd' k op)
  (others:∀j,j≠k->∀l,(Wr' j l->Wr j l)/\(Rd' j l->Rd j l)) (Zy:∀l,Wr' k l->Wr k l\/gG t l) (Zz:∀l,Rd' k l->Rd k l\/gG t l)
  (sh:∀j l,Sh l->¬Wr' j l/\¬Rd' j l) (mem:∀l,(Sh l\/∃j,Wr' j l\/Rd' j l)->l.isMemory=true) (apart:∀j,j≠k->j<N->∀l,(Wr' k l->¬Rd' j l/\¬Wr' j l)/\(Rd' k l->¬Wr' j l)):TI Sh Wr' Rd' N (t++u):=by
 have perm:∀l,Wr' k l->Perm t k l:=λl hl=>(Zy l hl).elim (h.own k hk l) λhf i a ha e=>absurd e (hf i a ha);have Ux:∀l,Rd' k l->PermW t k l:=λl hl=>(Zz l hl).elim (h.rd k hk l) λhf i a ha e=>absurd e (hf i a ha);refine⟨h.quiet.app λop hop x hx hs=>?_,λj hj l hl=>?_,λj hj l hl=>?_,λsaid=>?_,λi op hi=>?_⟩
 .rcases(hu op hop).2 x hx with hm|⟨_,h1,h2⟩|⟨hn,_⟩
  .rw[mem _ (.inl hs)] at hm;cases hm
  .exact⟨h1,λe=>(hu op hop).1.trans (h2 e)⟩
  .exact absurd hs hn
 .by_cases e:j=k
  .subst e;exact(perm l hl).app λop hop _ _ _=>(hu op hop).1
  .refine(h.own j hj l ((others j e l).1 hl)).app λop hop b hb e'=>?_;rcases(hu op hop).2 b hb with hm|⟨hs,_⟩|⟨_,h1,h2⟩
   .rw[e',mem _ (.inr ⟨j,.inl hl⟩)] at hm;cases hm
   .exact absurd hl (sh j l (e'▸hs)).1
   .cases hw:b.write with
    |true=>exact absurd hl ((apart j e hj l).1 (e'▸h1 hw)).2
    |false=>exact absurd hl ((apart j e hj l).2 (e'▸h2 hw))
 .by_cases e:j=k
  .subst e;exact(Ux l hl).app λop hop _ _ _ _=>(hu op hop).1
  .refine(h.rd j hj l ((others j e l).2 hl)).app λop hop b hb e' hw=>?_;rcases(hu op hop).2 b hb with hm|⟨hs,_⟩|⟨_,h1,_⟩
   .rw[e',mem _ (.inr ⟨j,.inr hl⟩)] at hm;cases hm
   .exact absurd hl (sh j l (e'▸hs)).2
   .exact absurd hl ((apart j e hj l).1 (e'▸h1 hw)).1
 .refine noRace_append (h.nr said) (λop hop=>(hu op hop).1) (λi a ha op hop b hb hc=>?_);rcases(hu op hop).2 b hb with hm|⟨hs,h1,h2⟩|⟨_,h1,h2⟩
  .have:=hc.2.1;rw[hc.1,hm] at this;cases this
  .exact h.quiet.known hs h1 h2 i a ha hc
  .cases JU:b.write with
   |true=>exact perm b.loc (h1 JU) i a ha hc.1
   |false=>exact Ux b.loc (h2 JU) i a ha hc.1 (hc.2.2.1.resolve_right (by simp[JU]))
 .rcases getElem?_append_cases hi with⟨_,hi'⟩|⟨_,hiu⟩
  .exact h.gs i op hi'
  .rw[(hu op hiu).1];exact hk
def TI.mono (h:TI Sh Wr Rd N t)(hw:∀k l,Wr' k l->Wr k l)(hr:∀k l,Rd' k l->Rd k l):TI Sh Wr' Rd' N t :=
 ⟨h.quiet,λk hk l hl=>h.own k hk l (hw k l hl),λk hk l hl=>h.rd k hk l (hr k l hl),h.nr,h.gs⟩
def TI.fork (h:TI Sh Wr Rd N t){x y:MemOp}(hN:0<N)(hx:x.g=0/\x.act=.go N)(hy:y.g=N/\y.act=.start)(h0:Deaf t 0=0)
  (others:∀j,j<N->∀l,(Wr' j l->Wr j l)/\(Rd' j l->Rd j l)) (child:∀l,(Wr' N l->Wr 0 l)/\(Rd' N l->Rd 0 l)):TI Sh Wr' Rd' (N+1) (t++#[x,y]):=by
 have hk:Deaf t N=0:=Deaf_absent λi op hi e=>by have:=h.gs i op hi;omega
 have KM:∀op∈#[x,y],∀b,op.act.touch?=some b->False:=by
  intro op hop b hb;simp only[yJ,xC,xz,or_false] at hop;rcases hop with rfl|rfl
  .rw[hx.2] at hb;cases hb
  .rw[hy.2] at hb;cases hb
 have old:∀ {i:Nat} {a:Touch},touchAt (t++#[x,y]) i=some a->touchAt t i=some a:=by
  intro i a ha;obtain⟨z,hz,hza⟩:=touch_of ha;rcases getElem?_append_cases hz with⟨_,hz'⟩|⟨_,ZA⟩
  .rw[touchAt_of hz'];exact hza
  .exact(KM z ZA a hza).elim
 refine⟨h.quiet.app λop hop b hb _=>(KM op hop b hb).elim,λk X7 l hl=>?_,λk X7 l hl=>?_,λsaid=>?_,λi op hi=>?_⟩
 .rcases yf k N with hlt|F5
  .exact(h.own k hlt l ((others k hlt l).1 hl)).app λop hop b hb _=>(KM op hop b hb).elim
  .obtain rfl:k=N:=by omega
   exact λi a ha e=>fork_knows hx hy h0 hk (h.own 0 hN l ((child l).1 hl) i a (old ha) e)
 .rcases yf k N with hlt|F5
  .exact(h.rd k hlt l ((others k hlt l).2 hl)).app λop hop b hb _ _=>(KM op hop b hb).elim
  .obtain rfl:k=N:=by omega
   exact λi a ha e hw=>fork_knows hx hy h0 hk (h.rd 0 hN l ((child l).2 hl) i a (old ha) e hw)
 .have e:t++#[x,y]=(t++#[x])++#[y]:=by apply Array.ext';simp
  rw[e];refine noRace_append (g:=N) (noRace_append (g:=0) (h.nr said) (λop hop=>by simp at hop;rw[hop];exact hx.1) (λi a _ op hop b hb _=>(KM op (by simp at hop ⊢;exact .inl hop) b hb).elim))
   (λop hop=>by simp at hop;rw[hop];exact hy.1) (λi a _ op hop b hb _=>(KM op (by simp at hop ⊢;exact .inr hop) b hb).elim)
 .rcases getElem?_append_cases hi with⟨_,hi'⟩|⟨_,hiu⟩
  .have:=h.gs i op hi';omega
  .simp only[yJ,xC,xz,or_false] at hiu;rcases hiu with rfl|rfl
   .rw[hx.1];omega
   .rw[hy.1];omega
end
end Go.Bl
namespace Go.Co
open Go.Bl Go.Conc Go.ConcN
structure Tr (Sh:Loc->Prop)(Wr Rd:Nat->Loc->Prop)(N:Nat)(Pd:Nat->Nat->Prop)(a:Addr)(t:Trace):Prop where
 ti:TI Sh Wr Rd N t
 norel:NoRelease a t
 ZB:∀i x,touchAt t i=some x->x.loc.isMemory=true->Knows t 0 i\/(Sh x.loc/\x.kind=.atomic)\/∃k,t.g? i=some k/\k≠0/\Pd k i
 ho:∀i k,t.g? i=some k->k≠0->t.counts i->(∃q,t.g? q=some 0/\HappensBefore t i q)\/Pd k i
section
variable {Sh:Loc->Prop} {Wr Rd Wr' Rd':Nat->Loc->Prop} {N k:Nat} {Pd Pd':Nat->Nat->Prop} {a:Addr} {t u:Trace}
def wI {i:Nat}{op:MemOp}(h:t[i]?=some op):t.g? i=some op.g:=by simp[Trace.g?,h]
def Tr.app (h:Tr Sh Wr Rd N Pd a t)(SC:TI Sh Wr' Rd' N (t++u))(hg:∀op∈u,op.g=k)(ZC:∀op∈u,op.act≠.mark (.release a))
  (Py:∀i,t.size<=i->(t++u).g? i=some k->k≠0->Pd k i\/((∀x,touchAt (t++u) i=some x->x.loc.isMemory=true->Sh x.loc/\x.kind=.atomic)/\¬(t++u).counts i)):Tr Sh Wr' Rd' N Pd a (t++u):=by
 refine⟨SC,h.norel.app ZC,λi x hx hm=>?_,λi j hj hne hc=>?_⟩
 .obtain⟨op,hop,M6⟩:=touch_of hx;rcases getElem?_append_cases hop with⟨hi,GR⟩|⟨hi,EY⟩
  .rcases h.ZB i x (by rw[touchAt_of GR];exact M6) hm with h1|h1|⟨j,h1,h2⟩
   .exact .inl (h1.app u)
   .exact .inr (.inl h1)
   .exact .inr (.inr ⟨j,by rw[g?_old hi];exact h1,h2⟩)
  .have Tg:(t++u).g? i=some k:=by rw[wI hop,hg op EY]
   by_cases h0:k=0
   .subst h0;have:=knows_own hop;rw[hg op EY] at this;exact .inl this
   .rcases Py i hi Tg h0 with h1|⟨h1,_⟩
    .exact .inr (.inr ⟨k,Tg,h0,h1⟩)
    .exact .inr (.inl (h1 x hx hm))
 .obtain⟨op,hop,Hx⟩:=xW.1 hj;rcases getElem?_append_cases hop with⟨hi,GR⟩|⟨hi,EY⟩
  .rcases h.ho i j (by rw[g?_old hi] at hj;exact hj) hne ((counts_old hi).1 hc) with⟨q,hq,hb⟩|h1
   .have hql : q < t.size := by
     obtain⟨z,hz,_⟩:=xW.1 hq;exact lt_size_of_getElem? hz
    exact .inl ⟨q,by rw[g?_old hql];exact hq,hb_app u hb⟩
   .exact .inr h1
  .have e:k=j:=(hg op EY).symm.trans Hx;subst e;rcases Py i hi hj hne with h1|⟨_,h1⟩
   .exact .inr h1
   .exact absurd hc h1
def Tr.VO (h:Tr Sh Wr Rd N Pd a t)(hp:∀k i,i<t.size->Pd k i->Pd' k i):Tr Sh Wr Rd N Pd' a t:=by
 refine⟨h.ti,h.norel,λi x hx hm=>?_,λi j hj hne hc=>?_⟩
 .rcases h.ZB i x hx hm with h1|h1|⟨k,h1,h2,h3⟩
  .exact .inl h1
  .exact .inr (.inl h1)
  .obtain⟨z,hz,_⟩:=xW.1 h1;exact .inr (.inr ⟨k,h1,h2,hp k i (lt_size_of_getElem? hz) h3⟩)
 .rcases h.ho i j hj hne hc with h1|h1
  .exact .inl h1
  .obtain⟨z,hz,_⟩:=xW.1 hj;exact .inr (hp j i (lt_size_of_getElem? hz) h1)
def Tr.Mz (h:Tr Sh Wr Rd N Pd a t)(hw:∀k l,Wr' k l->Wr k l)(hr:∀k l,Rd' k l->Rd k l):Tr Sh Wr' Rd' N Pd a t:=⟨h.ti.mono hw hr,h.norel,h.ZB,h.ho⟩
def Tr.fork (h:Tr Sh Wr Rd N Pd a t){x y:MemOp}(hN:0<N)(hx:x.g=0/\x.act=.go N)(hy:y.g=N/\y.act=.start)(h0:Deaf t 0=0)
  (others:∀j,j<N->∀l,(Wr' j l->Wr j l)/\(Rd' j l->Rd j l)) (child:∀l,(Wr' N l->Wr 0 l)/\(Rd' N l->Rd 0 l)):Tr Sh Wr' Rd' (N+1) Pd a (t++#[x,y]):=by
 have KM:∀op∈#[x,y],op.act.touch?=none:=by
  intro op hop;simp only[yJ,xC,xz,or_false] at hop;rcases hop with rfl|rfl
  .rw[hx.2];rfl
  .rw[hy.2];rfl
 refine⟨h.ti.fork hN hx hy h0 others child,h.norel.app λop hop e=>?_,λi z hz hm=>?_,λi j hj hne hc=>?_⟩
 .simp only[yJ,xC,xz,or_false] at hop;rcases hop with rfl|rfl
  .rw[hx.2] at e;cases e
  .rw[hy.2] at e;cases e
 .obtain⟨op,hop,M6⟩:=touch_of hz;rcases getElem?_append_cases hop with⟨hi,GR⟩|⟨_,EY⟩
  .rcases h.ZB i z (by rw[touchAt_of GR];exact M6) hm with h1|h1|⟨j,h1,h2⟩
   .exact .inl (h1.app _)
   .exact .inr (.inl h1)
   .exact .inr (.inr ⟨j,by rw[g?_old hi];exact h1,h2⟩)
  .rw[KM op EY] at M6;cases M6
 .obtain⟨op,hop,Hx⟩:=xW.1 hj;rcases getElem?_append_cases hop with⟨hi,GR⟩|⟨_,EY⟩
  .rcases h.ho i j (by rw[g?_old hi] at hj;exact hj) hne ((counts_old hi).1 hc) with⟨q,hq,hb⟩|h1
   .have hql : q < t.size := by
     obtain⟨z,hz,_⟩:=xW.1 hq;exact lt_size_of_getElem? hz
    exact .inl ⟨q,by rw[g?_old hql];exact hq,hb_app _ hb⟩
   .exact .inr h1
  .obtain⟨z,hz,_⟩:=hc;rw[act?_of hop] at hz;rw[yp,KM op EY] at hz;cases hz
def Tr.past (h:Tr Sh Wr Rd N Pd a t){B q:Nat}(hq:t.act? q=some (.mark (.acquire a)))(hg:t.g? q=some 0)(hh:t.heard q)(hd:Deaf t 0=0)(hl:∀op∈t,op.act.low B)
  (hp:∀k i,t.g? i=some k->k≠0->Pd k i->∃r,RelBy a t k r/\r<q/\i<=r):Past Sh B t:=by
 have ZE:∀k i,t.g? i=some k->k≠0->Pd k i->HappensBefore t i q:=by
  intro k i hk hne ZF;obtain⟨r,hr,VP,hir⟩:=hp k i hk hne ZF;have e1:HappensBefore t r q:=.single (.inr ⟨.marked VP (.inr hr.act) hq (λk _ _=>h.norel k),hr.heard,hh⟩);rcases yf i r with hlt|F5
  .exact .trans (.single (.inl ⟨hlt,k,hk,hr.g⟩)) e1
  .obtain rfl:i=r:=by omega
   exact e1
 obtain⟨z,hz,hzg⟩:=xW.1 hg;refine⟨h.ti.nr,λi x hx hm=>?_,λi k hk hne hc=>?_,hd,hl⟩
 .rcases h.ZB i x hx hm with h1|h1|⟨k,h1,h2,h3⟩
  .exact .inl h1
  .exact .inr h1
  .exact .inl ⟨q,z,hz,hzg,.inr (ZE k i h1 h2 h3)⟩
 .rcases h.ho i k hk hne hc with h1|h1
  .exact h1
  .exact⟨q,hg,ZE k i hk hne h1⟩
def AD {Shun:Loc->Prop}{B:Nat}(h:Past Shun B t)(JV:∀l,Sh l->Shun l\/∃b:Addr,l=.cell b/\B<=b.block)(aeD:∀l,Shun l->Sh l)(hq:Quiet Sh t)(ha:B<=a.block)(hN:∀(i:Nat) (op:MemOp),t[i]?=some op->op.g<N)(hN0:0<N)
  (hw:∀k l,Wr k l->k=0/\l.isMemory=true/\¬Shun l) (hr:∀k l,Rd k l->k=0/\l.isMemory=true/\¬Shun l):Tr Sh Wr Rd N Pd a t:=by
 have kn:∀l,l.isMemory=true->¬Shun l->Perm t 0 l:=λl hm hs i x hx e=>(h.known i x hx (e▸hm)).elim id λHy=>absurd (e▸Hy.1) hs;refine⟨⟨hq,λk _ l hl=>?_,λk _ l hl=>?_,h.clean,hN⟩,λi e=>?_,λi x hx hm=>(h.known i x hx hm).imp id λHy=>.inl ⟨aeD _ Hy.1,Hy.2⟩,λi k hk hne hc=>.inl (h.over i k hk hne hc)⟩
 .obtain⟨rfl,h1,h2⟩:=hw k l hl;exact kn l h1 h2
 .obtain⟨rfl,h1,h2⟩:=hr k l hl;exact .of (kn l h1 h2)
 .obtain⟨op,hop,Uy⟩:=xW.1 e;have:=h.seen op (xY hop);rw[Uy] at this;exact absurd this (Nat.not_lt.2 ha)
end
structure Lone where
 g:Goroutine
 w:World
 H:Hid
 β:Bc
 T:List Frame
structure Fg where
 at_:Nat->Prop
 w:World
 bd:Nat
def inBlock (B:Nat):Loc->Prop
 |.cell a=>a.block=B
 |.obj r=>r=B
 |_=>False
def Ti (x:Lone)(l:Loc):Prop:=∃b B,x.β b B/\x.H b=false/\¬Ro x.w b/\inBlock B l
def Tj (x:Lone)(l:Loc):Prop:=∃b B,x.β b B/\x.H b=false/\inBlock B l
def M9 (Dead:Nat->Prop)(Wg:Nat)(l:Loc):Prop:=∃a:Addr,l=.cell a/\(Dead a.block\/a.block=Wg)
section
variable (P:Bw) (SB BB:FuncId->Bool) (lets:Bool) (Gn:Nat)
abbrev Ch (x:Lone)(g:Goroutine):Prop:=Dc P SB x.H lets BB x.T x.β x.g g
abbrev D6 (x:Lone)(W:World):Prop:=BF (SP SB x.H) (CK P.a SB lets) Gn x.β x.w W
abbrev E5 (x:Lone)(W:World)(AQ:Bc)(w' W':World)(ES:List Event):Prop:=Fin (SP SB x.H) (CK P.a SB lets) Gn x.β AQ (on x.w W.tape W.drawn) W w' W' ES
structure Cw (Wg:Nat)(Dead Toy:Nat->Prop)(Kp:Fg)(L:Nat->Option Lone)(own:Option Nat)(W:World):Prop where
 like:∀i x,L i=some x->D6 P SB lets Gn x W
 BX:∀i x,L i=some x->x.H.BX=false
 Na:∀i x,L i=some x->∀b,x.β b Wg->x.H b=true
 dead:∀i x,L i=some x->∀b B,x.β b B->¬Dead B
 GA:∀i x,L i=some x->own≠some i->∀b B,x.β b B->Toy B->x.H b=true
 sep:∀i j x y,i≠j->L i=some x->L j=some y->Sep (SP SB x.H) x.β x.w (SP SB y.H) y.β y.w
 low:Wg<W.heap.size/\(∀B,Dead B->B<W.heap.size)/\∀B,Toy B->B<W.heap.size
 GC:∀B,Toy B->B≠Wg/\¬Dead B
 keep:∀B,Kp.at_ B->B<W.heap.size/\B≠Wg/\W.heap[B]?=Kp.w.heap[B]?
 CN:∀i x,L i=some x->∀b B,x.β b B->Kp.at_ B->x.H b=true\/Ro x.w b
 Lb:∀B,Toy B->¬Kp.at_ B
 Pz:W.os=Kp.w.os/\W.output=Kp.w.output
def put (L:Nat->Option Lone)(i:Nat)(x:Option Lone):Nat->Option Lone:=λj=>if j=i then x else L j
end
def Bg (L:Nat->Option Lone)(i:Nat)(x:Option Lone):put L i x i=x:=by simp[put]
def Bv (L:Nat->Option Lone){i j:Nat}(x:Option Lone)(h:j≠i):put L i x j=L j:=by simp[put,h]
section
variable {P:Bw} {SB BB:FuncId->Bool} {lets:Bool} {Gn:Nat} {Wg:Nat} {Dead Toy:Nat->Prop} {Kp:Fg} {L:Nat->Option Lone} {own:Option Nat} {W W':World} {i:Nat} {x:Lone} {AQ:Bc} {w':World} {ES:List Event}
def Cw.same (c:Cw P SB lets Gn Wg Dead Toy Kp L own W)(hi:L i=some x)(f:E5 P SB lets Gn x W AQ w' W' ES){B:Nat}(hB:B<W.heap.size)(h:∀b,x.β b B->x.H b=true):W'.heap[B]?=W.heap[B]?:=by
 by_cases hx:∃b,x.β b B
 .obtain⟨b,hb⟩:=hx;exact f.hk b B hb (h b hb)
 .exact f.KEPT B hB λb hb=>hx ⟨b,hb⟩
def Cw.step (c:Cw P SB lets Gn Wg Dead Toy Kp L own W)(hi:L i=some x)(f:E5 P SB lets Gn x W AQ w' W' ES)(g':Goroutine) :
  Cw P SB lets Gn Wg Dead Toy Kp (put L i (some ⟨g',w',x.H,AQ,x.T⟩)) own W':=by
 have hx:=c.like i x hi;have Hy:BF (SP SB x.H) (CK P.a SB lets) Gn x.β (on x.w W.tape W.drawn) W:=hx.same rfl rfl hx.env;have old:∀b B,AQ b B->B<W.heap.size->x.β b B:=λb B hb hB=>(f.new b B hb).elim id λh=>absurd h.2 (Nat.not_le.2 hB);refine⟨λj y hj=>?_,λj y hj=>?_,λj y hj=>?_,λj y hj=>?_,λj y hj=>?_,λj k y z hjk hj hk=>?_,⟨xx c.low.1 f.SIZE,λB hB=>xx (c.low.2.1 B hB) f.SIZE,λB hB=>xx (c.low.2.2 B hB) f.SIZE⟩,c.GC,λB hB=>?_,λj y hj=>?_,c.Lb,f.OS.trans c.Pz.1,f.OUT.trans c.Pz.2⟩
 .by_cases e:j=i
  .subst e;rw[Bg] at hj;cases hj;exact f.rel
  .rw[Bv L _ e] at hj;exact(c.like j y hj).others (c.BX j y hj) Hy f (c.sep i j x y (Ne.symm e) hi hj)
 .by_cases e:j=i
  .subst e;rw[Bg] at hj;cases hj;exact c.BX j x hi
  .rw[Bv L _ e] at hj;exact c.BX j y hj
 .by_cases e:j=i
  .subst e;rw[Bg] at hj;cases hj;exact λb hb=>c.Na j x hi b (old b Wg hb c.low.1)
  .rw[Bv L _ e] at hj;exact c.Na j y hj
 .by_cases e:j=i
  .subst e;rw[Bg] at hj;cases hj;exact λb B hb hd=>c.dead j x hi b B (old b B hb (c.low.2.1 B hd)) hd
  .rw[Bv L _ e] at hj;exact c.dead j y hj
 .by_cases e:j=i
  .subst e;rw[Bg] at hj;cases hj;exact λho b B hb ht=>c.GA j x hi ho b B (old b B hb (c.low.2.2 B ht)) ht
  .rw[Bv L _ e] at hj;exact c.GA j y hj
 .by_cases e:j=i
  .subst e;rw[Bg] at hj;cases hj;rw[Bv L _ (Ne.symm hjk)] at hk;exact Sep.kept (c.like k z hk) f (c.sep j k x z hjk hi hk)
  .rw[Bv L _ e] at hj;by_cases e':k=i
   .subst e';rw[Bg] at hk;cases hk;exact(Sep.kept (c.like j y hj) f (c.sep k j x y (Ne.symm hjk) hi hj)).symm
   .rw[Bv L _ e'] at hk;exact c.sep j k y z hjk hj hk
 .obtain⟨k1,k2,k3⟩:=c.keep B hB;refine⟨xx k1 f.SIZE,k2,?_⟩;rw[<-k3];by_cases hx:∃b,x.β b B
  .obtain⟨b,hb⟩:=hx;rcases c.CN i x hi b B hb hB with h|⟨cs,ty,z,q1,q2⟩
   .exact f.hk b B hb h
   .exact(f.ro b B cs ty z hb q1 q2).2
  .exact f.KEPT B k1 λb hb=>hx ⟨b,hb⟩
 .by_cases e:j=i
  .subst e;rw[Bg] at hj;cases hj;intro b B hb hB;have h0:=old b B hb (c.keep B hB).1;exact(c.CN j x hi b B h0 hB).imp id λh=>h.kept f h0
  .rw[Bv L _ e] at hj;exact c.CN j y hj
def Cw.group (c:Cw P SB lets Gn Wg Dead Toy Kp L own W)(h:Aside Wg W W')(hw:∃c t f,W'.heap[Wg]?=some (.cells c t f)):Cw P SB lets Gn Wg Dead Toy Kp L own W':=by
 refine⟨λj y hj=>?_,c.BX,c.Na,c.dead,c.GA,c.sep,by rw[h.size];exact c.low,c.GC,λB hB=>⟨by rw[h.size];exact(c.keep B hB).1,(c.keep B hB).2.1,(h.block B (c.keep B hB).2.1).trans (c.keep B hB).2.2⟩,c.CN,c.Lb,h.os.trans c.Pz.1,h.output.trans c.Pz.2⟩;have k:=c.like j y hj;refine⟨k.Cn,by rw[h.size];exact k.room,λb B hb hh=>?_,λb B hb hh=>?_,k.old,by rw[h.os];exact k.env⟩
 .have hne : B ≠ Wg := fun e => by
   have:=c.Na j y hj b (e▸hb);have F3:y.H b=false:=hh;rw[F3] at this;cases this
  rw[h.block B hne];exact k.CQ b B hb hh
 .obtain⟨h1,h2,h3⟩:=k.Db b B hb hh;refine⟨h1,λht=>?_,λht=>?_⟩
  .by_cases e:B=Wg
   .rw[e];exact hw
   .rw[h.block B e];exact h2 ht
  .have:=c.BX j y hj;have JC:y.H.BX=true:=ht;rw[this] at JC;cases JC
def Cw.drop (c:Cw P SB lets Gn Wg Dead Toy Kp L own W)(i:Nat):Cw P SB lets Gn Wg Dead Toy Kp (put L i none) own W:=by
 have get:∀ {j y},put L i none j=some y->L j=some y:=λ{j y} h=>by
  by_cases e:j=i
  .subst e;rw[Bg] at h;cases h
  .rwa [Bv L _ e] at h
 exact⟨λj y hj=>c.like j y (get hj),λj y hj=>c.BX j y (get hj),λj y hj=>c.Na j y (get hj),λj y hj=>c.dead j y (get hj),λj y hj=>c.GA j y (get hj),λj k y z hne hj hk=>c.sep j k y z hne (get hj) (get hk),c.low,c.GC,c.keep,λj y hj=>c.CN j y (get hj),c.Lb,c.Pz⟩
def Cw.at (c:Cw P SB lets Gn Wg Dead Toy Kp L own W)(d:Nat):Cw P SB lets Gn Wg Dead Toy Kp L own (W.at d) :=
 ⟨λj y hj=>(c.like j y hj).same rfl rfl (c.like j y hj).env,c.BX,c.Na,c.dead,c.GA,c.sep,c.low,c.GC,c.keep,c.CN,c.Lb,c.Pz⟩
def OM (Toy:Nat->Prop)(L:Nat->Option Lone)(tp:Bool)(j:Nat)(l:Loc):Prop:=(∃x,L j=some x/\Ti x l)\/(j=0/\tp=true/\∃B,Toy B/\inBlock B l)
def KN (Toy:Nat->Prop)(L:Nat->Option Lone)(tp:Bool)(j:Nat)(l:Loc):Prop:=(∃x,L j=some x/\Tj x l)\/(j=0/\tp=true/\∃B,Toy B/\inBlock B l)
def E6 {B:Nat}{l:Loc}(h:inBlock B l):l.isMemory=true:=by cases l<;>first|rfl|exact h.elim
def Gc {B B':Nat}{l:Loc}(h:inBlock B l)(h':inBlock B' l):B=B':=by
 cases l<;>first|exact h.symm.trans h'|exact h.elim
def fK {Toy:Nat->Prop}{L:Nat->Option Lone}{tp:Bool}{j:Nat}{l:Loc}(h:OM Toy L tp j l):KN Toy L tp j l:=by
 rcases h with⟨x,h1,b,B,h2,h3,_,h4⟩|h
 .exact .inl ⟨x,h1,b,B,h2,h3,h4⟩
 .exact .inr h
def Cw.apart {tp:Bool}(c:Cw P SB lets Gn Wg Dead Toy Kp L own W)(ht:tp=true->own=none){j k:Nat}(hjk:j≠k)(l:Loc):OM Toy L tp j l->¬KN Toy L tp k l:=by
 rintro(⟨x,hx,b,B,h1,h2,h3,h4⟩|⟨rfl,h0,B,h1,h4⟩) (⟨y,hy,b',B',k1,k2,k4⟩|⟨rfl,k0,B',k1,k4⟩)
 .obtain rfl:=Gc h4 k4;rcases c.sep j k x y hjk hx hy b b' B h1 k1 with h|h|⟨h,_⟩
  .have h':x.H b=true:=h;rw[h2] at h';cases h'
  .have h':y.H b'=true:=h;rw[k2] at h';cases h'
  .exact h3 h
 .obtain rfl:=Gc h4 k4;have:=c.GA j x hx (by rw[ht k0];simp) b B h1 k1;rw[h2] at this;cases this
 .obtain rfl:=Gc h4 k4;have:=c.GA k y hy (by rw[ht h0];simp) b' B k1 h1;rw[k2] at this;cases this
 .exact hjk rfl
def Cw.JW {tp:Bool}(c:Cw P SB lets Gn Wg Dead Toy Kp L own W){j:Nat}{l:Loc}(h:KN Toy L tp j l):¬M9 Dead Wg l:=by
 rintro⟨a,rfl,hs⟩;rcases h with⟨x,hx,b,B,h1,h2,h4⟩|⟨_,_,B,h1,h4⟩
 .have e:a.block=B:=h4;rcases hs with hs|hs
  .exact c.dead j x hx b B h1 (e▸hs)
  .have:=c.Na j x hx b (by rw[<-hs,e];exact h1);rw[h2] at this;cases this
 .have e:a.block=B:=h4;obtain⟨t1,t2⟩:=c.GC B h1;rcases hs with hs|hs
  .exact t2 (e▸hs)
  .exact t1 (e.symm.trans hs)
def Cw.ZG {tp:Bool}{k:Nat}{x':Lone}(c:Cw P SB lets Gn Wg Dead Toy Kp L own W)(hk:L k=some x')(he:∀E∈ES,XQ x'.β x'.w E){fn:FuncId}{pos:String} :
  ∀op∈MemOp.ofEvents k fn pos ES.toArray,OkOp (M9 Dead Wg) (OM Toy L tp) (KN Toy L tp) k op:=by
 intro op hop;obtain⟨e,Pu,rfl⟩:=Go.Conc.mem_ofEvents hop;refine⟨rfl,λt ht=>?_⟩;have hE:=he e (by simpa using Pu);have PC:∀b B,x'.β b B->(∃n,(x'.w.heap[b]?).map Cr=some n/\n≠1)->x'.H b=false:=by
  intro b B hb ⟨n,hn,h1⟩;cases hh:x'.H b with
  |false=>rfl
  |true =>
   rw[((c.like k x' hk).Db b B hb hh).1] at hn;simp[Cr] at hn;exact absurd hn.symm h1
 cases hE with
 |@cell a A wr sy hb ho hn hw =>
  have hh:=PC _ _ hb (let ⟨n,h1,_⟩:=hn;⟨_,h1,by omega⟩);have hr:KN Toy L tp k (.cell A):=.inl ⟨x',hk,a.block,A.block,hb,hh,rfl⟩;have hl:t.loc=.cell A/\t.write=wr:=by
   simp[MemAct.ofEvent,MemAct.touch?] at ht;subst ht;exact⟨rfl,rfl⟩
  rw[hl.1];refine .inr (.inr ⟨c.JW hr,λhwr=>.inl ⟨x',hk,a.block,A.block,hb,hh,?_,rfl⟩,λ_=>hr⟩);rintro⟨cs,ty,f,hc,hf⟩;obtain⟨n,h1,h2⟩:=hn;rw[hc] at h1;simp[Cr] at h1;have h0:=hw (by rw[<-hl.2];exact hwr);rw[aT,hc] at h0;obtain⟨p,q⟩:=hf a.off (by omega);simp[Zg,p,q] at h0
 |@obj r R wr sy hb hn =>
  have hh:=PC _ _ hb ⟨2,hn,by decide⟩;have hr:KN Toy L tp k (.obj R):=.inl ⟨x',hk,r,R,hb,hh,rfl⟩;have hl:t.loc=.obj R:=by
   cases wr<;>cases sy<;>simp[MemAct.ofEvent,MemAct.touch?] at ht<;>subst ht<;>rfl
  rw[hl];refine .inr (.inr ⟨c.JW hr,λ_=>.inl ⟨x',hk,r,R,hb,hh,?_,rfl⟩,λ_=>hr⟩);rintro⟨cs,ty,f,hc,_⟩;rw[hc] at hn;simp[Cr] at hn
 |mark hm=>cases hm<;>simp[MemAct.ofEvent,MemAct.touch?] at ht
 |out=>simp[MemAct.ofEvent,MemAct.touch?] at ht;subst ht;exact .inl rfl
def Cw.PD {tp:Bool}{N:Nat}{t:Trace}(c:Cw P SB lets Gn Wg Dead Toy Kp L own W)(hi:L i=some x)(f:E5 P SB lets Gn x W AQ w' W' ES)(g':Goroutine)(ht:tp=true->own=none)(hN:i<N)
  (h:TI (M9 Dead Wg) (OM Toy L tp) (KN Toy L tp) N t) (GU:∀op∈t,op.act.low W.heap.size) {fn:FuncId} {pos:String} :
  TI (M9 Dead Wg) (OM Toy (put L i (some ⟨g',w',x.H,AQ,x.T⟩)) tp) (KN Toy (put L i (some ⟨g',w',x.H,AQ,x.T⟩)) tp) N (t++MemOp.ofEvents i fn pos ES.toArray):=by
 have c':=c.step hi f g';have fresh:∀B l,W.heap.size<=B->inBlock B l->gG t l:=by
  intro B l hB hl j a ha e;obtain⟨op,hop,Uy⟩:=touch_of ha;have C7:=GU op (xY hop);rw[<-e] at hl;have key:∀(act:MemAct) (a:Touch),act.touch?=some a->act.low W.heap.size->inBlock B a.loc->False:=by
   intro act a ha C7 hl;cases act with
   |access ev =>
    simp only[MemAct.touch?,Option.some.injEq] at ha;subst ha;obtain⟨loc,wr,sy⟩:=ev;cases loc<;>first|exact hl.elim|(simp only[inBlock] at hl;simp only[MemAct.low,Loc.low] at C7;omega)
   |mark m =>
    cases m<;>simp[MemAct.touch?] at ha
    all_goals
     subst ha;simp only[inBlock] at hl;simp only[MemAct.low] at C7;omega
   |_=>simp[MemAct.touch?] at ha
  exact key op.act a Uy C7 hl
 refine h.app hN (c'.ZG (Bg L i _) (λE hE=>f.evs (c.BX i x hi) E hE)) (λj hj l=>?_) (λl hl=>?_) (λl hl=>?_) (λj l hs=>?_) (λl hl=>?_) (λj hj _ l=>?_)
 .unfold OM KN;rw[Bv L _ hj];exact⟨id,id⟩
 .rcases hl with⟨y,hy,b,B,h1,h2,h3,h4⟩|⟨h1,h2,h3⟩
  .rw[Bg] at hy;cases hy;rcases f.new b B h1 with h0|⟨_,h0⟩
   .exact .inl (.inl ⟨x,hi,b,B,h0,h2,λhr=>h3 (hr.kept f h0),h4⟩)
   .exact .inr (fresh B l h0 h4)
  .exact .inl (.inr ⟨h1,h2,h3⟩)
 .rcases hl with⟨y,hy,b,B,h1,h2,h4⟩|⟨h1,h2,h3⟩
  .rw[Bg] at hy;cases hy;rcases f.new b B h1 with h0|⟨_,h0⟩
   .exact .inl (.inl ⟨x,hi,b,B,h0,h2,h4⟩)
   .exact .inr (fresh B l h0 h4)
  .exact .inl (.inr ⟨h1,h2,h3⟩)
 .exact⟨λhw=>c'.JW (fK hw) hs,λhr=>c'.JW hr hs⟩
 .rcases hl with⟨a,rfl,_⟩|⟨j,hl⟩
  .rfl
  .have hr:KN Toy (put L i (some ⟨g',w',x.H,AQ,x.T⟩)) tp j l:=hl.elim fK id;rcases hr with⟨y,_,b,B,_,_,h4⟩|⟨_,_,B,_,h4⟩<;>exact E6 h4
 .exact⟨λhw=>⟨c'.apart ht (Ne.symm hj) l hw,λhw'=>c'.apart ht (Ne.symm hj) l hw (fK hw')⟩,λhr hw'=>c'.apart ht hj l hw' hr⟩
def dO (f:E5 P SB lets Gn x W AQ w' W' ES)(ht:x.H.BX=false){k:Nat}{fn:FuncId}{pos:String}:∀op∈MemOp.ofEvents k fn pos ES.toArray,op.act.low W'.heap.size:=by
 intro op hop;obtain⟨e,Pu,rfl⟩:=Go.Conc.mem_ofEvents hop;have hE:=f.evs ht e (by simpa using Pu);cases hE with
 |@cell a A wr sy hb _ _ _ =>
  have:=(f.rel.lt hb).2;show MemAct.low _ (MemAct.ofEvent ⟨.cell A,wr,sy⟩);simpa [MemAct.ofEvent,MemAct.low,Loc.low] using this
 |@obj r R wr sy hb _ =>
  have:=(f.rel.lt hb).2;show MemAct.low _ (MemAct.ofEvent ⟨.obj R,wr,sy⟩);cases wr<;>cases sy<;>simpa [MemAct.ofEvent,MemAct.low,Loc.low] using this
 |mark hm=>cases hm<;>simp[MemAct.ofEvent,MemAct.low]
 |out=>simp[MemAct.ofEvent,MemAct.low,Loc.low]
def cn (f:E5 P SB lets Gn x W AQ w' W' ES)(ht:x.H.BX=false):∀e∈ES.toArray,e.loc≠.mark .disable/\e.loc≠.mark .enable/\∀a,e.loc≠.mark (.release a):=by
 intro e Pu;have hE:=f.evs ht e (by simpa using Pu);cases hE with
 |mark hm=>cases hm<;>simp
 |_=>simp
end
open Go.ConcR (KK WgAt stA smA rd wr mk DC0 Bk g_of_ofEvents bk_of_mute ofEvent_loc_mark ofEvent_cell ofEvent_mk)
inductive Wm where
 |born (Q:Goroutine->World->Prop) (y:Goroutine×World)
 |tree (Q:Goroutine->World->Prop) (y:Goroutine×World)
 |st (s m:Nat)
inductive Ld (p:Program):Wm->Wm->Prop
 |tree {Q:Goroutine->World->Prop} {x y:Goroutine×World}:¬Q y.1 y.2->After p x y->Ld p (.tree Q x) (.tree Q y)
 |off {s m:Nat} {Q:Goroutine->World->Prop} {y:Goroutine×World}:Ld p (.st s m) (.tree Q y)
 |un {Q:Goroutine->World->Prop} {y:Goroutine×World}:Ld p (.tree Q y) (.born Q y)
 |aeE {s m:Nat} {Q:Goroutine->World->Prop} {y:Goroutine×World}:Ld p (.st s m) (.born Q y)
 |stage {s m s' m':Nat}:s<s'->Ld p (.st s m) (.st s' m')
 |fuel {s m m':Nat}:m<m'->Ld p (.st s m) (.st s m')
def Ad (p:Program):∀s m,Acc (Ld p) (.st s m):=by
 intro s
 induction s using Nat.strongRecOn with
 |_ s ihs =>
  intro m
  induction m using Nat.strongRecOn with
  |_ m ihm =>
   refine .intro _ λy h=>?_;cases h with
   |stage h=>exact ihs _ h _
   |fuel h=>exact ihm _ h
def Ab {p:Program}{BB:FuncId->Bool}{Q:Goroutine->World->Prop}{d:Nat}{g:Goroutine}{w:World}(h:BN p BB Q d g w):Acc (Ld p) (.tree Q (g,w)):=by
 induction h with
 |fin h =>
  refine .intro _ λz hz=>?_;cases hz with
  |tree hn _=>exact absurd h hn
  |off=>exact Ad p _ _
 |next ng nw h1 h2 _ ih =>
  refine .intro _ λz hz=>?_;cases hz with
  |@tree _ x _ _ ha =>
   obtain⟨g',w'⟩:=x;obtain⟨τ,d,es,e,_⟩:=ha;obtain⟨⟨es',e'⟩,_⟩:=h2 τ d;rw[e] at e';cases e';exact ih τ d
  |off=>exact Ad p _ _
 |spec h1 h2 h3 h4 h5 h6 _ ih =>
  refine .intro _ λz hz=>?_;cases hz with
  |@tree _ x _ _ ha =>
   obtain⟨g',w'⟩:=x;obtain⟨τ,n,es,e,_⟩:=ha;dsimp only at e;rw[(h6.same zU).step h3 h4 h5] at e;cases e;exact ih τ n
  |off=>exact Ad p _ _
def Av {p:Program}{BB:FuncId->Bool}{Q:Goroutine->World->Prop}{d:Nat}{g:Goroutine}{w:World}(h:BN p BB Q d g w):Acc (Ld p) (.born Q (g,w)):=by
 refine .intro _ λz hz=>?_;cases hz with
 |un=>exact Ab h
 |aeE=>exact Ad p _ _
section
variable (P:Bw) (SB BB:FuncId->Bool) (lets:Bool) (Gn:Nat) (ty Wg:Nat) (Ψ2:World->Prop)
def ct (Q:Goroutine->World->Prop)(H:Hid)(T:List Frame)(wl:Bc)(o:Bool):Prop :=
 ∀(x:Lone) (g:Goroutine) (W:World),x.H=H->x.T=T->wl.le x.β->Q x.g x.w->Ch P SB BB lets x g->D6 P SB lets Gn x W->WgLive ty Wg W ->
  (∃m,GW P.b ty Wg false (R0 P.b ty Wg) m g W)/\(o=true->Ψ2 W)
def lD (x:Lone)(child:Goroutine):Prop:=child.status=.running/\∃G1,(∀W,stepG P.b false child W=.go G1 W #[])/\Ch P SB BB lets x G1
inductive Eb:Nat->Nat->Wm->Option Lone->Bool->Goroutine->World->Prop
 | born {x : Lone} {wl : Bc} {Q : Goroutine -> World -> Prop} {o : Bool} {g : Goroutine} {W : World} : wl.le x.β -> ct P SB BB lets Gn ty Wg Ψ2 Q x.H x.T wl o -> (∀ g w, Q g w -> BB g.frame.fn = false) -> BN P.a BB Q 0 x.g x.w -> lD P SB BB lets x g ->
   Eb 7 0 (.born Q (x.g,x.w)) (some x) o g W
 | tree {x : Lone} {wl : Bc} {Q : Goroutine -> World -> Prop} {o : Bool} {d : Nat} {g : Goroutine} {W : World} : wl.le x.β -> ct P SB BB lets Gn ty Wg Ψ2 Q x.H x.T wl o -> (∀ g w, Q g w -> BB g.frame.fn = false) -> BN P.a BB Q d x.g x.w -> Ch P SB BB lets x g ->
   Eb 7 d (.tree Q (x.g,x.w)) (some x) o g W
 |r0 {m:Nat} {g:Goroutine} {W:World}:GW P.b ty Wg false (R0 P.b ty Wg) m g W->Eb 7 0 (.st 7 m) none false g W
 |k1 {m:Nat} {g:Goroutine} {W:World}:GW P.b ty Wg false (K1 P.b ty Wg) m g W->Eb 6 0 (.st 6 m) none false g W
 |d1 {m:Nat} {g:Goroutine} {W:World}:GW P.b ty Wg false (D1 P.b ty Wg) m g W->Eb 5 1 (.st 5 m) none false g W
 |d2 {m:Nat} {g:Goroutine} {W:World}:GW P.b ty Wg false (D2 P.b ty Wg) m g W->Eb 4 1 (.st 4 m) none false g W
 |d3 {m:Nat} {g:Goroutine} {W:World}:GW P.b ty Wg false (D3 P.b ty Wg) m g W->Eb 3 1 (.st 3 m) none false g W
 |d4 {m:Nat} {g:Goroutine} {W:World}:GW P.b ty Wg false (AtD4 P.b ty Wg) m g W->Eb 2 1 (.st 2 m) none false g W
 |quit {q d:Nat} {g:Goroutine} {W:World}:QuitsD P.b q d g->Eb 1 d (.st 1 q) none false g W
end
section
variable {P:Bw} {SB BB:FuncId->Bool} {lets:Bool} {Gn:Nat} {ty Wg:Nat} {Ψ2:World->Prop} {s d:Nat} {m:Wm} {x:Option Lone} {o:Bool} {g:Goroutine} {W W':World}
def Eb.rely (h:Eb P SB BB lets Gn ty Wg Ψ2 s d m x o g W)(r:RL ty Wg W W'):Eb P SB BB lets Gn ty Wg Ψ2 s d m x o g W':=by
 cases h with
 |born a b z c e=>exact .born a b z c e
 |tree a b z c e=>exact .tree a b z c e
 |r0 h=>exact .r0 (Goes.rely RL.trans h r)
 |k1 h=>exact .k1 (Goes.rely RL.trans h r)
 |d1 h=>exact .d1 (Goes.rely RL.trans h r)
 |d2 h=>exact .d2 (Goes.rely RL.trans h r)
 |d3 h=>exact .d3 (Goes.rely RL.trans h r)
 |d4 h=>exact .d4 (Goes.rely RL.trans h r)
 |quit h=>exact .quit h
def Eb.status (h:Eb P SB BB lets Gn ty Wg Ψ2 s d m x o g W):g.status=.running\/(g.status=.finished/\s=1):=by
 cases h with
 |born _ _ _ _ e=>exact .inl e.1
 |tree _ _ _ _ e=>exact .inl e.status.2
 |r0 h=>exact .inl (Goes.running (λ_ _ x=>x.1) W (RL.refl W) h)
 |k1 h=>exact .inl (Goes.running (λ_ _ x=>x.1) W (RL.refl W) h)
 |d1 h=>exact .inl (Goes.running (λ_ _ x=>x.1) W (RL.refl W) h)
 |d2 h=>exact .inl (Goes.running (λ_ _ x=>x.1) W (RL.refl W) h)
 |d3 h=>exact .inl (Goes.running (λ_ _ x=>x.1) W (RL.refl W) h)
 |d4 h=>exact .inl (Goes.running (λ_ _ x=>x.1) W (RL.refl W) h)
 |quit h=>exact h.status.imp id λe=>⟨e,rfl⟩
def Eb.acc (h:Eb P SB BB lets Gn ty Wg Ψ2 s d m x o g W):Acc (Ld P.a) m:=by
 cases h with
 |born _ _ _ h _=>exact Av h
 |tree _ _ _ h _=>exact Ab h
 |_=>exact Ad _ _ _
def Eb.VQ (h:Eb P SB BB lets Gn ty Wg Ψ2 s d m x o g W):s<=6\/s=7:=by
 cases h<;>omega
def Eb.woken (h:Eb P SB BB lets Gn ty Wg Ψ2 s d m x o g W)(a a':Goroutine)(w':World):woken P.b a a' w' g=g:=by
 unfold Go.Conc.woken;split
 .exact again_running _ (h.status.imp id (·.1))
 .rfl
end
inductive TS where
 |start|at_ (k:Nat)|done
def TS.own:TS->Option Nat
 |.at_ k=>some k
 |_=>none
def TS.tp:TS->Bool
 |.start=>true
 |_=>false
def Ah {ts:TS}(h:ts.tp=true):ts.own=none:=by cases ts<;>first|rfl|cases h
def VR (j0 j:Nat)(D:Nat->WD)(rr:Nat->Nat)(k i:Nat):Prop:=∃a,k=a+1/\j0<=a/\a<j/\((D a).stage=7\/i<=rr a)
section
variable (P:Bw) (SB BB:FuncId->Bool) (lets:Bool) (Gn:Nat) (ty Wg:Nat) (Dead Toy:Nat->Prop) (Kp:Fg) (Ψ0 Ψ2:World->Prop)
structure WI (j0 j:Nat)(gs:Array Goroutine)(W:World)(t:Trace)(D:Nat->WD)(M:Nat->Wm)(O:Nat->Bool)(L:Nat->Option Lone)(ts:TS)(rr:Nat->Nat)(st sm:Int):Prop where
 size:gs.size=j+1
 wk:∀i,i<j->∃g,gs[i+1]?=some g/\Eb P SB BB lets Gn ty Wg Ψ2 (D i).stage (D i).deaf (M i) (L (i+1)) (O i) g W
 cw:Cw P SB lets Gn Wg Dead Toy Kp L ts.own W
 tr:Tr (M9 Dead Wg) (OM Toy L ts.tp) (KN Toy L ts.tp) (j+1) (VR j0 j D rr) (stA Wg) t
 low:∀op∈t,op.act.low W.heap.size
 deafW:∀i,i<j->Deaf t (i+1)=(D i).deaf
 rel:∀i,j0<=i->i<j->(D i).stage<=6->RelBy (stA Wg) t (i+1) (rr i)
 wg:WgAt ty Wg W st sm
 Jd:∀i,i<j->O i=true->ts=.at_ (i+1)
 Ko:∀k,ts=.at_ k->∃i,i<j/\k=i+1/\O i=true
 EE:(ts=.start->Ψ0 W)/\(ts=.done->Ψ2 W)
 out:∀i,j<i->L i=none
 old:∀i,i<j0->(D i).stage=1
 jj:j0<=j
def ao (Toy:Nat->Prop)(Ψ:World->Prop):Prop:=∀W W':World,(∀B,Toy B->W'.heap[B]?=W.heap[B]?)->Ψ W->Ψ W'
end
section
variable {P:Bw} {SB BB:FuncId->Bool} {lets:Bool} {Gn:Nat} {ty Wg:Nat} {Dead Toy:Nat->Prop} {Kp:Fg} {Ψ0 Ψ2:World->Prop}
 {j0 j:Nat} {gs:Array Goroutine} {W W':World} {t:Trace} {D:Nat->WD} {M:Nat->Wm} {O:Nat->Bool} {L:Nat->Option Lone} {ts ts':TS} {rr:Nat->Nat} {st sm GK Hz:Int}
def WI.live (h:WI P SB BB lets Gn ty Wg Dead Toy Kp Ψ0 Ψ2 j0 j gs W t D M O L ts rr st sm):WgLive ty Wg W:=⟨_,_,h.wg⟩
def WI.next (h:WI P SB BB lets Gn ty Wg Dead Toy Kp Ψ0 Ψ2 j0 j gs W t D M O L ts rr st sm){i:Nat}(hi:i<j){g g':Goroutine}{fn:FuncId}{pos:String}{es:Array Event}{s' dd':Nat}{m':Wm}{x':Option Lone}{o':Bool}{r':Nat}
  (hk:Eb P SB BB lets Gn ty Wg Ψ2 s' dd' m' x' o' g' W') (CG:WgAt ty Wg W' GK Hz) (hcw:Cw P SB lets Gn Wg Dead Toy Kp (put L (i+1) x') ts'.own W')
  (SC:TI (M9 Dead Wg) (OM Toy (put L (i+1) x') ts'.tp) (KN Toy (put L (i+1) x') ts'.tp) (j+1) (t++MemOp.ofEvents (i+1) fn pos es))
  (ZC:∀e∈es,∀a,e.loc≠.mark (.release a))
  (hst:s'<=(D i).stage) (hold:i<j0->s'=1)
  (Py:s'=7\/(∀i',i'<t.size->(D i).stage=7->i'<=r')/\((D i).stage<=6->r'=rr i)/\∀i',t.size<=i'->(t++MemOp.ofEvents (i+1) fn pos es).g? i'=some (i+1)->i'<=r'/\j0<=i\/((∀x,touchAt (t++MemOp.ofEvents (i+1) fn pos es) i'=some x->x.loc.isMemory=true->M9 Dead Wg x.loc/\x.kind=.atomic)/\¬(t++MemOp.ofEvents (i+1) fn pos es).counts i'))
  (h7:s'=7->j0<=i/\(D i).stage=7)
  (GU:∀op∈MemOp.ofEvents (i+1) fn pos es,op.act.low W'.heap.size) (hsz:W.heap.size<=W'.heap.size)
  (Le:deafBehind (D i).deaf es=dd')
  (hrel:j0<=i->s'<=6->RelBy (stA Wg) (t++MemOp.ofEvents (i+1) fn pos es) (i+1) r')
  (o1:o'=true->ts'=.at_ (i+1)) (o2:ts'=ts/\o'=O i\/(ts=.at_ (i+1)/\ts'=.done/\o'=false)) (Lf:(ts'=.start->Ψ0 W')/\(ts'=.done->Ψ2 W')) :
  WI P SB BB lets Gn ty Wg Dead Toy Kp Ψ0 Ψ2 j0 j ((gs.map (woken P.b g g' W')).setIfInBounds (i+1) g') W' (t++MemOp.ofEvents (i+1) fn pos es) (upd D i ⟨s',0,dd'⟩) (upd M i m') (upd O i o') (put L (i+1) x') ts' (upd rr i r') GK Hz:=by
 have F5:∀op∈MemOp.ofEvents (i+1) fn pos es,op.g=i+1:=g_of_ofEvents;have pd0:∀k a,a<t.size->VR j0 j D rr k a->VR j0 j (upd D i ⟨s',0,dd'⟩) (upd rr i r') k a:=by
  rintro k a ha ⟨b,rfl,hb0,PE,hb⟩;refine⟨b,rfl,hb0,PE,?_⟩;by_cases e:b=i
  .subst e;rw[upd_same,upd_same];rcases Py with h1|⟨h1,h2,_⟩
   .exact .inl h1
   .rcases hb with hb'|hb'
    .exact .inr (h1 a ha hb')
    .by_cases h6:(D b).stage<=6
     .rw[h2 h6];exact .inr hb'
     .have : (D b).stage = 7 := by
       obtain⟨_,_,hs⟩:=h.wk b PE;exact hs.VQ.resolve_left h6
      exact .inr (h1 a ha this)
  .rw[upd_ne D _ e,upd_ne rr _ e];exact hb
 refine⟨by simp[h.size],λa ha=>?_,hcw,?_,λop hop=>?_,λa ha=>?_,λa h0 ha hs=>?_,CG,λa ha ho=>?_,λk Eo=>?_,Lf,λa ha=>?_,λa ha=>?_,h.jj⟩
 .by_cases e:a=i
  .subst e;exact⟨g',get_map_set_same _ _ _ (by rw[h.size];omega),by rw[upd_same,upd_same,upd_same,Bg];exact hk⟩
  .obtain⟨y,hy,hs⟩:=h.wk a ha;refine⟨y,by rw[get_map_set _ _ _ _ (by omega),hy,yC,hs.woken],?_⟩;rw[upd_ne D _ e,upd_ne M _ e,upd_ne O _ e,Bv L _ (by omega)];exact hs.rely λ_=>⟨_,_,CG⟩
 .refine(h.tr.VO pd0).app SC F5 (λop hop e=>?_) (λa ha Mc _=>?_)
  .obtain⟨x,hx,rfl⟩:=Go.Conc.mem_ofEvents hop;exact ZC x hx _ (Go.ConcR.loc_of_ofEvent e)
  .rcases Py with h1|⟨_,_,h3⟩
   .exact .inl ⟨i,rfl,(h7 h1).1,hi,.inl (by rw[upd_same];exact h1)⟩
   .rcases h3 a ha Mc with⟨hx,h0⟩|hx
    .exact .inl ⟨i,rfl,h0,hi,.inr (by rw[upd_same];exact hx)⟩
    .exact .inr hx
 .rcases Array.mem_append.1 hop with hop|hop
  .exact MemAct.low_mono hsz (h.low op hop)
  .exact GU op hop
 .by_cases e:a=i
  .subst e;rw[Deaf_own,h.deafW a ha,upd_same];exact Le
  .rw[Deaf_other t (by omega) _ F5,h.deafW a ha,upd_ne D _ e]
 .by_cases e:a=i
  .subst e;rw[upd_same] at hs ⊢;exact hrel h0 hs
  .rw[upd_ne D _ e] at hs;rw[upd_ne rr _ e];exact(h.rel a h0 ha hs).appOther F5 (by omega)
 .by_cases e:a=i
  .subst e;rw[upd_same] at ho;exact o1 ho
  .rw[upd_ne O _ e] at ho;have:=h.Jd a ha ho;rcases o2 with⟨rfl,_⟩|⟨h1,_,_⟩
   .exact this
   .rw[h1] at this;have:=TS.at_.inj this;omega
 .rcases o2 with⟨rfl,h2⟩|⟨_,h1,_⟩
  .obtain⟨a,ha,e1,e2⟩:=h.Ko k Eo;refine⟨a,ha,e1,?_⟩;by_cases e:a=i
   .subst e;rw[upd_same,h2];exact e2
   .rw[upd_ne O _ e];exact e2
  .rw[h1] at Eo;cases Eo
 .rw[Bv L _ (by omega)];exact h.out a ha
 .by_cases e:a=i
  .subst e;rw[upd_same];exact hold ha
  .rw[upd_ne D _ e];exact h.old a ha
def WI.H2 (h:WI P SB BB lets Gn ty Wg Dead Toy Kp Ψ0 Ψ2 j0 j gs W t D M O L ts rr st sm){k:Nat}(hk:k<j+1){u:Trace}(hu:∀op∈u,op.g=k/\∀x,op.act.touch?=some x->M9 Dead Wg x.loc/\x.kind≠.plain/\(x.kind=.said->k=0)) :
  TI (M9 Dead Wg) (OM Toy L ts.tp) (KN Toy L ts.tp) (j+1) (t++u):=by
 have X8:ts.tp=true->ts.own=none:=Ah;refine h.tr.ti.app hk (λop hop=>⟨(hu op hop).1,λx hx=>.inr (.inl ((hu op hop).2 x hx))⟩) (λ_ _ _=>⟨id,id⟩) (λ_=>.inl) (λ_=>.inl) (λa l hs=>⟨λhw=>h.cw.JW (fK hw) hs,λhr=>h.cw.JW hr hs⟩) (λl hl=>?_)
  (λa ha _ l=>⟨λhw=>⟨h.cw.apart X8 (Ne.symm ha) l hw,λhw'=>h.cw.apart X8 (Ne.symm ha) l hw (fK hw')⟩,λhr hw'=>h.cw.apart X8 ha l hw' hr⟩)
 rcases hl with⟨a,rfl,_⟩|⟨a,hl⟩
 .rfl
 .have hr:KN Toy L ts.tp a l:=hl.elim fK id;rcases hr with⟨y,_,b,B,_,_,h4⟩|⟨_,_,B,_,h4⟩<;>exact E6 h4
def EM {L:Nat->Option Lone}{k:Nat}(h:L k=none):put L k none=L:=by
 funext a;unfold put;split
 .rename_i e;rw[e,h]
 .rfl
def Lg {Wg:Nat}{e:Event}(h:Bk Wg e){x:Touch}(hx:(MemAct.ofEvent e).touch?=some x):(∃a:Addr,x.loc=.cell a/\a.block=Wg)/\x.kind=.atomic:=by
 rcases h with h1|h1|⟨a,wr,rfl,ha⟩
 .rw[ofEvent_loc_mark h1] at hx;cases hx
 .rw[ofEvent_loc_mark h1] at hx;cases hx
 .cases wr<;>simp[MemAct.ofEvent,MemAct.touch?] at hx<;>subst hx<;>exact⟨⟨a,rfl,ha⟩,rfl⟩
def PF {Wg B:Nat}{e:Event}(h:Bk Wg e)(hB:Wg<B):(MemAct.ofEvent e).low B:=by
 rcases h with h1|h1|⟨a,wr,rfl,ha⟩
 .rw[ofEvent_loc_mark h1];trivial
 .rw[ofEvent_loc_mark h1];trivial
 .have:a.block<B:=by omega
  cases wr<;>simpa [MemAct.ofEvent,MemAct.low,Loc.low] using this
def lE {Wg:Nat}{e:Event}(h:Bk Wg e)(a:Addr):e.loc≠.mark (.release a):=by
 rcases h with h1|h1|⟨a',wr,rfl,ha⟩
 .rw[h1];simp
 .rw[h1];simp
 .simp
def WI.book (h:WI P SB BB lets Gn ty Wg Dead Toy Kp Ψ0 Ψ2 j0 j gs W t D M O L ts rr st sm)(tz:ao Toy Ψ0)(CJ:ao Toy Ψ2){i:Nat}(hi:i<j){g g':Goroutine}{fn:FuncId}{pos:String}{es:Array Event}{s' dd':Nat}{m':Wm}
  (hk:Eb P SB BB lets Gn ty Wg Ψ2 s' dd' m' none false g' W') (h6:(D i).stage<=6) (hL:L (i+1)=none) (hO:O i=false) (hst:s'<=(D i).stage) (hold:i<j0->s'=1)
  (Mx:Aside Wg W W') (CG:WgAt ty Wg W' GK Hz) (F4:∀e∈es,Bk Wg e) (hd:∀a e,es[a]?=some e->(MemAct.ofEvent e).touch?=none\/0<deafBehind (D i).deaf (es.extract 0 a)) (Le:deafBehind (D i).deaf es=dd') :
  WI P SB BB lets Gn ty Wg Dead Toy Kp Ψ0 Ψ2 j0 j ((gs.map (woken P.b g g' W')).setIfInBounds (i+1) g') W' (t++MemOp.ofEvents (i+1) fn pos es) (upd D i ⟨s',0,dd'⟩) (upd M i m') (upd O i false) L ts (upd rr i (rr i)) GK Hz:=by
 have hrel:j0<=i->RelBy (stA Wg) (t++MemOp.ofEvents (i+1) fn pos es) (i+1) (rr i):=λh0=>(h.rel i h0 hi h6).book (h.deafW i hi) fn pos F4 hd;have X9:∀op∈MemOp.ofEvents (i+1) fn pos es,op.g=i+1/\∀x,op.act.touch?=some x->M9 Dead Wg x.loc/\x.kind=.atomic:=by
  intro op hop;obtain⟨e,he,rfl⟩:=Go.Conc.mem_ofEvents hop;refine⟨rfl,λx hx=>?_⟩;obtain⟨⟨a,h1,h2⟩,h3⟩:=Lg (F4 e he) hx;exact⟨⟨a,h1,.inr h2⟩,h3⟩
 have hbl:∀B,Toy B->W'.heap[B]?=W.heap[B]?:=λB hB=>Mx.block B (h.cw.GC B hB).1;have:=h.next hi (g:=g) (fn:=fn) (pos:=pos) (r':=rr i) (ts':=ts) hk CG (by rw[EM hL];exact h.cw.group Mx ⟨_,_,_,CG⟩)
  (by rw[EM hL];exact h.H2 (by omega) (λop hop=>⟨(X9 op hop).1,λx hx=>⟨((X9 op hop).2 x hx).1,by rw[((X9 op hop).2 x hx).2];simp,λe=>by rw[((X9 op hop).2 x hx).2] at e;cases e⟩⟩))
  (λe he a=>lE (F4 e he) a) hst hold
  (.inr ⟨λ_ _ h7=>by omega,λ_=>rfl,λa ha Mc=>.inr ⟨λx hx _=>?_,λhc=>?_⟩⟩) (λh7=>by omega)
  (λop hop=>by obtain⟨e,he,rfl⟩:=Go.Conc.mem_ofEvents hop;exact PF (F4 e he) (by rw[Mx.size];exact h.cw.low.1)) (by rw[Mx.size];exact xp _) Le (λh0 _=>hrel h0) (by simp) (.inl ⟨rfl,hO.symm⟩)
  ⟨λe=>tz W W' hbl (h.EE.1 e),λe=>CJ W W' hbl (h.EE.2 e)⟩
 .rwa [EM hL] at this
 .obtain⟨op,hop,M6⟩:=touch_of hx;rcases getElem?_append_cases hop with⟨hlt,_⟩|⟨_,EY⟩
  .omega
  .exact(X9 op EY).2 x M6
 ·
  obtain⟨x,hx,_,NL⟩:=hc;have Hy:touchAt (t++MemOp.ofEvents (i+1) fn pos es) a=some x:=hx;obtain⟨op,hop,M6⟩:=touch_of Hy;rcases getElem?_append_cases hop with⟨hlt,_⟩|⟨_,EY⟩
  .omega
  .have hat:=((X9 op EY).2 x M6).2;rcases NL with NL|⟨gg,VS,hdf⟩
   .exact NL hat
   .have eg:gg=i+1:=by rw[Mc] at VS;exact(Option.some.inj VS).symm
    subst eg;have hj:(MemOp.ofEvents (i+1) fn pos es)[a-t.size]?=some op:=by
     rw[zB] at hop;simpa [Nat.not_lt.2 ha] using hop
    rw[ofEvents_eq,yl] at hj;obtain⟨e,he,rfl⟩:=xW.1 hj;have hjs:a-t.size<=es.size:=by
     rcases yf (a-t.size) es.size with h'|h'
     .omega
     .rw[yZ h'] at he;cases he
    rcases hd _ e he with h0|h0
    .simp only at M6;rw[h0] at M6;cases M6
    .have:=deaf_inside t (i+1) fn pos es (a-t.size) hjs;rw[show t.size+(a-t.size)=a by omega,hdf,h.deafW i hi] at this;omega
end
open Go.ConcR (KK WgAt stA smA rd wr mk DC0 Bk g_of_ofEvents bk_of_mute ofEvent_loc_mark ofEvent_cell ofEvent_mk)
def Ld.VT {p:Program}{a:Wm}{s m:Nat}(h:Ld p a (.st s m)):∃s' m',a=.st s' m':=by
 cases h<;>exact⟨_,_,rfl⟩
section
variable (P:Bw) (SB BB:FuncId->Bool) (lets:Bool) (Gn:Nat) (ty Wg:Nat) (Dead Toy:Nat->Prop) (Kp:Fg) (Ψ0 Ψ2:World->Prop)
def Ih (j0 j:Nat)(gs:Array Goroutine)(W:World)(t:Trace)(D:Nat->WD)(M:Nat->Wm)(L:Nat->Option Lone)(rr:Nat->Nat)(tag:CTag)(tp:Bool)(i:Nat)(g:Goroutine):Prop :=
 ∃(g':Goroutine) (W':World) (es:Array Event) (D':Nat->WD) (M':Nat->Wm) (O':Nat->Bool) (L':Nat->Option Lone) (ts':TS) (Ya:Nat->Nat) (GK Hz:Int),
  stepG P.b false g W=.go g' W' es /\
  WI P SB BB lets Gn ty Wg Dead Toy Kp Ψ0 Ψ2 j0 j ((gs.map (woken P.b g g' W')).setIfInBounds (i+1) g') W' (t++MemOp.ofEvents (i+1) g.frame.fn g.frame.place es) D' M' O' L' ts' Ya GK Hz /\
  (∀tag',(tag'=tag\/(tag=.blk/\tag'=.w3))->(mayWake P.b g=true->g'.status=.running->tag'≠.blk)->ConcN.Mode j D' tag' GK Hz) /\
  Ld P.a (M' i) (M i)/\(∀k,k≠i->M' k=M k)/\L' 0=L 0/\Vc j D'<=Vc j D/\(∀k,k<j->(D k).stage<=6->(D' k).stage<=6/\Ya k=rr k)/\ts'.tp=tp
end
section
variable {P:Bw} {SB BB:FuncId->Bool} {lets:Bool} {Gn:Nat} {ty Wg:Nat} {Dead Toy:Nat->Prop} {Kp:Fg} {Ψ0 Ψ2:World->Prop}
 {j0 j:Nat} {gs:Array Goroutine} {W W':World} {t:Trace} {D:Nat->WD} {M:Nat->Wm} {O:Nat->Bool} {L:Nat->Option Lone} {ts ts':TS} {rr:Nat->Nat} {st sm GK Hz:Int} {tag:CTag} {i:Nat} {g:Goroutine}
def cV (hi:i<j){x:WD}(hx:cnt x<=cnt (D i)):Vc j (upd D i x)<=Vc j D:=by
 have:=Vc_upd D x hi;omega
def bp (h:WI P SB BB lets Gn ty Wg Dead Toy Kp Ψ0 Ψ2 j0 j gs W t D M O L ts rr st sm)(tz:ao Toy Ψ0)(CJ:ao Toy Ψ2)(hi:i<j)(hL:L (i+1)=none)(hO:O i=false){s:Nat}(hs:(D i).stage=s)(h6:s<=6)
  {g':Goroutine} {es:Array Event} {s' dd':Nat} {m':Wm} (hgo:stepG P.b false g W=.go g' W' es) (hk:Eb P SB BB lets Gn ty Wg Ψ2 s' dd' m' none false g' W') (hst:s'<=s) (hold:i<j0->s'=1)
  (Mx:Aside Wg W W') (CG:WgAt ty Wg W' GK Hz) (F4:∀e∈es,Bk Wg e) (hd:∀a e,es[a]?=some e->(MemAct.ofEvent e).touch?=none\/0<deafBehind (D i).deaf (es.extract 0 a)) (Le:deafBehind (D i).deaf es=dd')
  (Bj:∀tag',(tag'=tag\/(tag=.blk/\tag'=.w3))->(mayWake P.b g=true->g'.status=.running->tag'≠.blk)->ConcN.Mode j (upd D i ⟨s',0,dd'⟩) tag' GK Hz)
  (hlt:Ld P.a m' (M i)):Ih P SB BB lets Gn ty Wg Dead Toy Kp Ψ0 Ψ2 j0 j gs W t D M L rr tag ts.tp i g:=by
 refine⟨g',W',es,_,_,_,_,_,_,GK,Hz,hgo,h.book tz CJ hi hk (by omega) hL hO (by omega) hold Mx CG F4 hd Le,Bj,by rw[upd_same];exact hlt,λk hk=>upd_ne M _ hk,rfl,cV hi ?_,λk hk h6'=>?_,rfl⟩
 .simp only[cnt];split<;>split<;>omega
 .by_cases e:k=i
  .subst e;rw[upd_same,upd_same];exact⟨by show s'<=6;omega,rfl⟩
  .rw[upd_ne D _ e,upd_ne rr _ e];exact⟨h6',rfl⟩
def dU {es:Array Event}{k:Nat}{fn:FuncId}{pos:String}(h:∀e∈es,(MemAct.ofEvent e).touch?=none):∀op∈MemOp.ofEvents k fn pos es,op.g=k/\∀x,op.act.touch?=some x->False:=by
 intro op hop;obtain⟨e,he,rfl⟩:=Go.Conc.mem_ofEvents hop;exact⟨rfl,λx hx=>by rw[h e he] at hx;cases hx⟩
def Lh (h:WI P SB BB lets Gn ty Wg Dead Toy Kp Ψ0 Ψ2 j0 j gs W t D M O L ts rr st sm)(hi:i<j)(hL:L (i+1)=none)(hO:O i=false)(hs:(D i).stage=7)(hd:(D i).deaf=0){m:Nat}(hM:M i=.st 7 m)(Bj:ConcN.Mode j D tag st sm)
  (hk:GW P.b ty Wg false (R0 P.b ty Wg) m g W):Ih P SB BB lets Gn ty Wg Dead Toy Kp Ψ0 Ψ2 j0 j gs W t D M L rr tag ts.tp i g:=by
 have Tk:j0<=i:=Nat.le_of_not_lt λhlt=>by have:=h.old i hlt;omega
 have hdk:Deaf t (i+1)=0:=by rw[h.deafW i hi,hd]
 rcases Goes.cases hk with BD|⟨m',rfl,hstep⟩
 .obtain⟨_,g',hgo,m₂,Eo⟩:=BD W (RL.refl W);have KM:∀e∈(#[mk (.releaseMerge (stA Wg))]:Array Event),(MemAct.ofEvent e).touch?=none:=by intro e he;simp at he;subst he;rfl
  have hw:=h.next hi (g:=g) (fn:=g.frame.fn) (pos:=g.frame.place) (r':=t.size) (ts':=ts) (.k1 Eo) h.wg (by rw[EM hL];exact h.cw)
   (by rw[EM hL];exact h.H2 (by omega) (λop hop=>⟨(dU KM op hop).1,λx hx=>((dU KM op hop).2 x hx).elim⟩))
   (by intro e he a;simp at he;subst he;simp[mk]) (by omega) (λe=>by omega)
   (.inr ⟨λa ha _=>by omega,λh6=>by omega,λa ha Mc=>.inl ⟨by
    obtain⟨z,hz,_⟩:=xW.1 Mc;have:=lt_size_of_getElem? hz;rw[ofEvents_eq] at this;simp at this
    omega,Tk⟩⟩) (λe=>by omega)
   (λop hop=>by
    obtain⟨e,he,rfl⟩:=Go.Conc.mem_ofEvents hop;simp at he;subst he
    exact h.cw.low.1) (xp _) (by rw[hd];rfl) (λ_ _=>RelBy.new hdk _ _) (by simp) (.inl ⟨rfl,hO.symm⟩) h.EE
  refine⟨g',W,_,_,_,_,_,_,_,st,sm,hgo,hw,λtag' ht _=>(Bj.counted hi (by omega) (.inl rfl) _ _).retag ht,by rw[upd_same,hM];exact .stage (by omega),λk hk=>upd_ne M _ hk,Bv L _ (by omega),cV hi (by simp[cnt,hs]),λk hk h6=>?_,rfl⟩;have e:k≠i:=λe=>by subst e;omega
  rw[upd_ne D _ e,upd_ne rr _ e];exact⟨h6,rfl⟩
 .obtain⟨g',w',es,hgo,⟨rfl,rfl⟩,Dd⟩:=hstep W (RL.refl W);have KM:∀e∈(#[]:Array Event),(MemAct.ofEvent e).touch?=none:=by simp
  have hw:=h.next hi (g:=g) (fn:=g.frame.fn) (pos:=g.frame.place) (r':=rr i) (ts':=ts) (.r0 Dd) h.wg (by rw[EM hL];exact h.cw)
   (by rw[EM hL];exact h.H2 (by omega) (λop hop=>⟨(dU KM op hop).1,λx hx=>((dU KM op hop).2 x hx).elim⟩))
   (by simp) (by omega) (λe=>by omega) (.inl rfl) (λ_=>⟨Tk,hs⟩) (λop hop=>by obtain⟨e,he,rfl⟩:=Go.Conc.mem_ofEvents hop;simp at he) (xp _) (by rw[hd];rfl) (λ_ e=>by omega) (by simp) (.inl ⟨rfl,hO.symm⟩) h.EE
  refine⟨g',w',_,_,_,_,_,_,_,st,sm,hgo,hw,λtag' ht _=>ConcN.Mode.retag (by have:=Bj.same (i:=i) 0 0;rwa [hs] at this) ht,by rw[upd_same,hM];exact .fuel (by omega),λk hk=>upd_ne M _ hk,Bv L _ (by omega),cV hi (by simp[cnt,hs]),λk hk h6=>?_,rfl⟩;have e:k≠i:=λe=>by subst e;omega
  rw[upd_ne D _ e,upd_ne rr _ e];exact⟨h6,rfl⟩
def Cw.free (c:Cw P SB lets Gn Wg Dead Toy Kp L (some (i+1)) W):Cw P SB lets Gn Wg Dead Toy Kp (put L (i+1) none) none W:=by
 have d:=c.drop (i+1);refine⟨d.like,d.BX,d.Na,d.dead,λa x ha _=>?_,d.sep,d.low,d.GC,d.keep,d.CN,d.Lb,d.Pz⟩;have e:a≠i+1:=λe=>by subst e;rw[Bg] at ha;cases ha
 exact d.GA a x ha (λe'=>e (Option.some.inj e').symm)
def WI.turn (h:WI P SB BB lets Gn ty Wg Dead Toy Kp Ψ0 Ψ2 j0 j gs W t D M O L ts rr st sm)(hi:i<j)(hg:gs[i+1]?=some g)(hs:(D i).stage=7)(hd:(D i).deaf=0){m:Nat}(hk:GW P.b ty Wg false (R0 P.b ty Wg) m g W)(PG:O i=true->Ψ2 W) :
  ∃ts',WI P SB BB lets Gn ty Wg Dead Toy Kp Ψ0 Ψ2 j0 j gs W t D (upd M i (.st 7 m)) (upd O i false) (put L (i+1) none) ts' rr st sm/\ts'.tp=ts.tp:=by
 have Hi:∀ {a y},put L (i+1) none a=some y->L a=some y:=λ{a y} e=>by
  by_cases e':a=i+1
  .subst e';rw[Bg] at e;cases e
  .rwa [Bv L _ e'] at e
 have wk:∀a,a<j->∃g,gs[a+1]?=some g/\Eb P SB BB lets Gn ty Wg Ψ2 (D a).stage (D a).deaf (upd M i (.st 7 m) a) (put L (i+1) none (a+1)) (upd O i false a) g W:=λa ha=>by
  by_cases e:a=i
  .subst e;refine⟨g,hg,?_⟩;rw[upd_same,upd_same,Bg,hs,hd];exact .r0 hk
  .obtain⟨y,hy,hs⟩:=h.wk a ha;refine⟨y,hy,?_⟩;rw[upd_ne M _ e,upd_ne O _ e,Bv L _ (by omega)];exact hs
 have out:∀a,j<a->put L (i+1) none a=none:=λa ha=>by rw[Bv L _ (by omega)];exact h.out a ha
 by_cases ho:O i=true
 .have e:=h.Jd i hi ho;subst e;refine⟨.done,⟨h.size,wk,Cw.free h.cw,h.tr.Mz (λk l=>?_) (λk l=>?_),h.low,h.deafW,h.rel,h.wg,λa ha e=>?_,λk e=>(by cases e),⟨λe=>(by cases e),λ_=>PG ho⟩,out,h.old,h.jj⟩,rfl⟩
  .rintro(⟨x,hx,hw⟩|⟨_,h2,_⟩)
   .exact .inl ⟨x,Hi hx,hw⟩
   .cases h2
  .rintro(⟨x,hx,hw⟩|⟨_,h2,_⟩)
   .exact .inl ⟨x,Hi hx,hw⟩
   .cases h2
  .by_cases e':a=i
   .subst e';rw[upd_same] at e;cases e
   .rw[upd_ne O _ e'] at e;have:=TS.at_.inj (h.Jd a ha e);omega
 .have Mb:O i=false:=by simpa using ho
  refine⟨ts,⟨h.size,wk,h.cw.drop (i+1),h.tr.Mz (λk l=>?_) (λk l=>?_),h.low,h.deafW,h.rel,h.wg,λa ha e=>?_,λk e=>?_,h.EE,out,h.old,h.jj⟩,rfl⟩
  .rintro(⟨x,hx,hw⟩|h2)
   .exact .inl ⟨x,Hi hx,hw⟩
   .exact .inr h2
  .rintro(⟨x,hx,hw⟩|h2)
   .exact .inl ⟨x,Hi hx,hw⟩
   .exact .inr h2
  .by_cases e':a=i
   .subst e';rw[upd_same] at e;cases e
   .rw[upd_ne O _ e'] at e;exact h.Jd a ha e
  .obtain⟨a,ha,e1,e2⟩:=h.Ko k e;refine⟨a,ha,e1,?_⟩;rw[upd_ne O _ (λe'=>by subst e';rw[Mb] at e2;cases e2)];exact e2
def ov (h:WI P SB BB lets Gn ty Wg Dead Toy Kp Ψ0 Ψ2 j0 j gs W t D M O L ts rr st sm)(hi:i<j)(hs:(D i).stage=7)(hd:(D i).deaf=0){x:Lone}(hL:L (i+1)=some x)
  {wl:Bc} {Q:Goroutine->World->Prop} (hM:M i=.born Q (x.g,x.w)) (Bj:ConcN.Mode j D tag st sm) (EA:wl.le x.β) (hQ:ct P SB BB lets Gn ty Wg Ψ2 Q x.H x.T wl (O i)) (Li:∀g w,Q g w->BB g.frame.fn=false) (hr:BN P.a BB Q 0 x.g x.w) (hb:lD P SB BB lets x g) :
  Ih P SB BB lets Gn ty Wg Dead Toy Kp Ψ0 Ψ2 j0 j gs W t D M L rr tag ts.tp i g:=by
 have Tk:j0<=i:=Nat.le_of_not_lt λhlt=>by have:=h.old i hlt;omega
 obtain⟨_,g',hgo,Dd⟩:=hb;have KM:∀e∈(#[]:Array Event),(MemAct.ofEvent e).touch?=none:=by simp
 have hp:put L (i+1) (some x)=L:=by
  funext a;unfold put;split
  .rename_i e;rw[e,hL]
  .rfl
 have hw:=h.next hi (g:=g) (fn:=g.frame.fn) (pos:=g.frame.place) (r':=rr i) (ts':=ts) (o':=O i) (.tree EA hQ Li hr Dd) h.wg (by rw[hp];exact h.cw)
  (by rw[hp];exact h.H2 (by omega) (λop hop=>⟨(dU KM op hop).1,λx hx=>((dU KM op hop).2 x hx).elim⟩))
  (by simp) (by omega) (λe=>by omega) (.inl rfl) (λ_=>⟨Tk,hs⟩) (λop hop=>by obtain⟨e,he,rfl⟩:=Go.Conc.mem_ofEvents hop;simp at he) (xp _) (by rw[hd];rfl) (λ_ e=>by omega) (λho=>h.Jd i hi ho) (.inl ⟨rfl,rfl⟩) h.EE
 refine⟨g',W,_,_,_,_,_,_,_,st,sm,hgo W,hw,λtag' ht _=>ConcN.Mode.retag (by have:=Bj.same (i:=i) 0 0;rwa [hs] at this) ht,by rw[upd_same,hM];exact .un,λk hk=>upd_ne M _ hk,Bv L _ (by omega),cV hi (by simp[cnt,hs]),λk hk h6=>?_,rfl⟩;have e:k≠i:=λe=>by subst e;omega
 rw[upd_ne D _ e,upd_ne rr _ e];exact⟨h6,rfl⟩
def ow (lib:∀H,Lib P SB H lets BB Gn)(h:WI P SB BB lets Gn ty Wg Dead Toy Kp Ψ0 Ψ2 j0 j gs W t D M O L ts rr st sm)(tz:ao Toy Ψ0)(CJ:ao Toy Ψ2)(hi:i<j)(hs:(D i).stage=7){d:Nat}(hd:(D i).deaf=d){x:Lone}(hL:L (i+1)=some x)
  {wl:Bc} {Q:Goroutine->World->Prop} (hM:M i=.tree Q (x.g,x.w)) (Bj:ConcN.Mode j D tag st sm) (EA:wl.le x.β) (hQ:ct P SB BB lets Gn ty Wg Ψ2 Q x.H x.T wl (O i)) (Li:∀g w,Q g w->BB g.frame.fn=false)
  {ng:Tape->Nat->Goroutine} {nw:Tape->Nat->World} (h1:B8 P.a BB x.g x.w) (h2:∀τ d,(∃es,stepG P.a true x.g (on x.w τ d)=.go (ng τ d) (nw τ d) es)/\(ng τ d).callers≠[]) (h3:∀τ n,BN P.a BB Q d (ng τ n) (nw τ n)) (hg:Ch P SB BB lets x g) :
  Ih P SB BB lets Gn ty Wg Dead Toy Kp Ψ0 Ψ2 j0 j gs W t D M L rr tag ts.tp i g:=by
 have Tk:j0<=i:=Nat.le_of_not_lt λhlt=>by have:=h.old i hlt;omega
 have hq:¬Q x.g x.w:=λhq=>by have:=h1.1;rw[Li _ _ hq] at this;cases this
 obtain⟨g',w',es,AQ,g2,W',ES,e1,e2,e3,e4,e5⟩:=Ic (lib x.H) (main2:=false) h1 h2 hg (h.cw.like _ x hL);have M7:BN P.a BB Q d g' w':=by obtain⟨rfl,rfl⟩:=e2;exact h3 _ _
 have f:E5 P SB lets Gn x W AQ w' W' ES.toList:=e5;have Gu:=h.cw.BX _ x hL;have VU:W'.heap[Wg]?=W.heap[Wg]?:=h.cw.same hL f h.cw.low.1 (h.cw.Na _ x hL);have CG:WgAt ty Wg W' st sm:=by unfold WgAt;rw[VU];exact h.wg
 have hes:ES=ES.toList.toArray:=by simp
 have MA:ts.own≠some (i+1)->∀B,Toy B->W'.heap[B]?=W.heap[B]?:=λho B hB=>h.cw.same hL f (h.cw.low.2.2 B hB) λb hb=>h.cw.GA _ x hL ho b B hb hB;have GL:=cn f Gu;rw[<-hes] at GL;have hw:=h.next hi (g:=g) (g':=g2) (fn:=g.frame.fn) (pos:=g.frame.place) (es:=ES) (r':=rr i) (ts':=ts) (x':=some ⟨g',w',x.H,AQ,x.T⟩) (o':=O i) (.tree (x:=⟨g',w',x.H,AQ,x.T⟩) (Bc.le_trans EA e5.le) hQ Li M7 e4) CG (h.cw.step hL f g')
  (by rw[hes];exact h.cw.PD hL f g' Ah (by omega) h.tr.ti h.low) (λe he a=>(GL e he).2.2 a) (by omega) (λe=>by omega) (.inl rfl) (λ_=>⟨Tk,hs⟩)
  (by rw[hes];exact dO f Gu) f.SIZE (by rw[hd];exact deafBehind_idle (λe he=>⟨(GL e he).1,(GL e he).2.1⟩) d) (λ_ e=>by omega) (λho=>h.Jd i hi ho) (.inl ⟨rfl,rfl⟩)
  ⟨λe=>tz W W' (MA (by rw[e];simp[TS.own])) (h.EE.1 e),λe=>CJ W W' (MA (by rw[e];simp[TS.own])) (h.EE.2 e)⟩
 refine⟨g2,W',ES,_,_,_,_,_,_,st,sm,e3,hw,λtag' ht _=>ConcN.Mode.retag (by have:=Bj.same (i:=i) 0 d;rwa [hs] at this) ht,?_,λk hk=>upd_ne M _ hk,Bv L _ (by omega),cV hi (by simp[cnt,hs]),λk hk h6=>?_,rfl⟩
 .rw[upd_same,hM];exact .tree hq ⟨W.tape,W.drawn,es,e1,e4.callers.ne⟩
 .have e:k≠i:=λe=>by subst e;omega
  rw[upd_ne D _ e,upd_ne rr _ e];exact⟨h6,rfl⟩
def _root_.Go.Bl.Ek.mem {β:Bc}{es ES:Array Event}(h:Ek β es ES):∀e∈ES,(MemAct.ofEvent e).touch?=none/\(∀a,e.loc≠.mark (.release a)):=by
 intro e he;cases h with
 |E4 m hm=>simp only[yJ,xC,xz,or_false] at he;subst he;rcases hm with rfl|rfl<;>exact⟨rfl,by simp⟩
 |Ex o s mk hm hb=>simp only[yJ,xC,xz,or_false] at he;subst he;rcases hm with rfl|rfl<;>exact⟨rfl,by simp⟩
 |none=>simp at he
def _root_.Go.Bl.Ek.low {β:Bc}{es ES:Array Event}(h:Ek β es ES){B:Nat}(hl:∀e∈ES,∀ad,e.loc=.mark (.acquire ad)\/e.loc=.mark (.releaseMerge ad)->ad.block<B):∀e∈ES,(MemAct.ofEvent e).low B:=by
 intro e he;cases h with
 |E4 m hm=>simp only[yJ,xC,xz,or_false] at he;subst he;rcases hm with rfl|rfl<;>trivial
 |Ex o s mk hm hb =>
  have:=hl e he;simp only[yJ,xC,xz,or_false] at he;subst he;rcases hm with rfl|rfl
  .exact this _ (.inl rfl)
  .exact this _ (.inr rfl)
 |none=>simp at he
def ox (lib:∀H,Lib P SB H lets BB Gn)(L6:∀(f:FuncId) (fn:Func),P.a.funcs[f]?=some fn->fn.body.isNone=true->P.fs[f]?=some fn)(h:WI P SB BB lets Gn ty Wg Dead Toy Kp Ψ0 Ψ2 j0 j gs W t D M O L ts rr st sm)(hi:i<j)(hs:(D i).stage=7){d:Nat}(hd:(D i).deaf=d){x:Lone}(hL:L (i+1)=some x)
  {wl:Bc} {Q:Goroutine->World->Prop} (hM:M i=.tree Q (x.g,x.w)) (Bj:ConcN.Mode j D tag st sm) (EA:wl.le x.β) (hQ:ct P SB BB lets Gn ty Wg Ψ2 Q x.H x.T wl (O i)) (Li:∀g w,Q g w->BB g.frame.fn=false)
  {b:Frame} {a:Act} {ops:Array Oper} {i0:Nat} {rest:List Nat} {k:List Item} {cs:List Frame} {o:Oper} {es:Array Event} {v:Value} (MB:x.g=BU (b.at a (.inRegion ops (i0::rest)::k)) cs)
  (h1:BB b.fn=true) (h2:cs≠[]) (h3:ops[i0]?=some o) (h4:Region.wanted o (yielded ops a.tmps)=true) (h5:b.kind≠.early) (h6:Cz P.a a x.w o es v) (h7:∀τ n,BN P.a BB Q (deafBehind d es) (BU (b.at (a.put o.dst v) (.inRegion ops rest::k)) cs) (on x.w τ n)) (hg:Ch P SB BB lets x g) :
  Ih P SB BB lets Gn ty Wg Dead Toy Kp Ψ0 Ψ2 j0 j gs W t D M L rr tag ts.tp i g:=by
 have Tk:j0<=i:=Nat.le_of_not_lt λhlt=>by have:=h.old i hlt;omega
 have hq:¬Q x.g x.w:=λhq=>by have:=Li _ _ hq;rw[MB] at this;exact absurd h1 (by rw[show b.fn=(BU (b.at a (.inRegion ops (i0::rest)::k)) cs).frame.fn from rfl,this];decide)
 have hw0:=h.cw.like _ x hL;have hg0:Dc P SB x.H lets BB x.T x.β (BU (b.at a (.inRegion ops (i0::rest)::k)) cs) g:=MB▸hg;obtain⟨g2,ES,e3,e4,e5,e6⟩:=K4 L6 (main2:=false) h1 hg0 hw0 h3 h4 h5 h6;have Hy:BF (SP SB x.H) (CK P.a SB lets) Gn x.β (on x.w W.tape W.drawn) W:=hw0.same rfl rfl hw0.env;have f0:E5 P SB lets Gn x W x.β (on x.w W.tape W.drawn) W []:=Fin.refl Hy;have hcw:=h.cw.step hL f0 (BU (b.at (a.put o.dst v) (.inRegion ops rest::k)) cs)
 have FL:=e5.mem;have hw:=h.next hi (g:=g) (g':=g2) (fn:=g.frame.fn) (pos:=g.frame.place) (es:=ES) (r':=rr i) (ts':=ts) (x':=some ⟨BU (b.at (a.put o.dst v) (.inRegion ops rest::k)) cs,on x.w W.tape W.drawn,x.H,x.β,x.T⟩) (o':=O i)
  (.tree (x:=⟨BU (b.at (a.put o.dst v) (.inRegion ops rest::k)) cs,on x.w W.tape W.drawn,x.H,x.β,x.T⟩) EA hQ Li (h7 _ _) e4) h.wg hcw
  ((h.H2 (k:=i+1) (by omega) (u:=MemOp.ofEvents (i+1) g.frame.fn g.frame.place ES) (λop hop=>by
   obtain⟨e,he,rfl⟩:=Go.Conc.mem_ofEvents hop
   exact⟨rfl,λy hy=>by rw[(FL e he).1] at hy;cases hy⟩)).mono (λj l hl=>?_) (λj l hl=>?_))
  (λe he a=>(FL e he).2 a) (by omega) (λe=>by omega) (.inl rfl) (λ_=>⟨Tk,hs⟩)
  (λop hop=>by obtain⟨e,he,rfl⟩:=Go.Conc.mem_ofEvents hop;exact e5.low e6 e he) (xp _) (by rw[hd];exact e5.deaf d) (λ_ e=>by omega) (λho=>h.Jd i hi ho) (.inl ⟨rfl,rfl⟩) h.EE
 .refine⟨g2,W,ES,_,_,_,_,_,_,st,sm,e3,hw,λtag' ht _=>ConcN.Mode.retag (by have:=Bj.same (i:=i) 0 (deafBehind d es);rwa [hs] at this) ht,?_,λk hk=>upd_ne M _ hk,Bv L _ (by omega),cV hi (by simp[cnt,hs]),λk hk h6=>?_,rfl⟩
  .rw[upd_same,hM];refine .tree hq ⟨W.tape,W.drawn,es,?_,h2⟩;show stepG P.a true x.g (on x.w W.tape W.drawn)=_;rw[MB];exact(h6.same zU).step h3 h4 h5
  .have e:k≠i:=λe=>by subst e;omega
   rw[upd_ne D _ e,upd_ne rr _ e];exact⟨h6,rfl⟩
 .rcases hl with⟨y,hy,hr⟩|hl
  .by_cases e:j=i+1
   .subst e;rw[Bg] at hy;cases hy;exact .inl ⟨x,hL,hr⟩
   .rw[Bv L _ e] at hy;exact .inl ⟨y,hy,hr⟩
  .exact .inr hl
 .rcases hl with⟨y,hy,hr⟩|hl
  .by_cases e:j=i+1
   .subst e;rw[Bg] at hy;cases hy;exact .inl ⟨x,hL,hr⟩
   .rw[Bv L _ e] at hy;exact .inl ⟨y,hy,hr⟩
  .exact .inr hl
end
end Go.Co
