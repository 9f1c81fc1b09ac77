/- Parts of the proof. -/
import Derived.Test.YtjmmlkobmhlikaaGreatP02
import Derived.Laws.Sem
set_option linter.all false
namespace Go.Iso
structure ARel (β:Bij)(a A:Addr):Prop where
 block:β a.block A.block
 off:a.off=A.off
 spot:a.spot=A.spot
def ARel.mono {β β':Bij}(h:β.le β'){a A:Addr}(r:ARel β a A):ARel β' a A:=⟨h _ _ r.block,r.off,r.spot⟩
def ARel.add {β:Bij}{a A:Addr}(r:ARel β a A)(n:Nat):ARel β (a.add n) (A.add n):=by
 unfold Addr.add
 split
 ·exact r
 ·exact⟨r.block,by simp[r.off],rfl⟩
def ARel.ptr {S:Par}{β:Bij}{a A:Addr}(r:ARel β a A):VRel S β (.pointer (some a)) (.pointer (some A)):=by
 obtain⟨b,o,s⟩:=a
 obtain⟨B,O,s'⟩:=A
 obtain⟨h1,h2,h3⟩:=r
 cases h2;cases h3
 exact .ptr _ _ h1
def ARel.sl {S:Par}{β:Bij}{a A:Addr}(r:ARel β a A)(l c:Nat):VRel S β (.slice (some a) l c) (.slice (some A) l c):=by
 obtain⟨b,o,s⟩:=a
 obtain⟨B,O,s'⟩:=A
 obtain⟨h1,h2,h3⟩:=r
 cases h2;cases h3
 exact .slice _ _ _ _ h1
def cellPut (a:Addr)(v:Value):Obj->Obj
 |.cells c elem frozen=>.cells (if a.spot.isSome then c else c.setIfInBounds a.off v) elem frozen
 |o=>o
def setCell_get (w:World)(a:Addr)(v:Value)(b:Nat):(w.setCell a v).heap[b]?=if b=a.block then(w.heap[b]?).map (cellPut a v) else w.heap[b]?:=by
 have e:w.setCell a v={ w with heap:=w.heap.modify a.block (cellPut a v) }:=by
  unfold World.setCell
  congr 2
 rw[e]
 simp only
 rw[Array.getElem?_modify]
 by_cases h:b=a.block
 ·subst h;simp
 ·rw[if_neg (λe=>h e.symm),if_neg h]
def aX (w:World)(a:Addr)(v:Value):(w.setCell a v).heap.size=w.heap.size:=by simp[World.setCell]
def frz (i:Nat):Obj->Bool
 |.cells _ _ r=>decide (r.1<=i)&&decide (i<r.2)
 |_=>false
def aS (w:World)(x:Addr):w.frozen? x=((w.heap[x.block]?).map (frz x.off)).getD false:=by
 unfold World.frozen?
 cases w.heap[x.block]? with
 |none=>rfl
 |some o=>cases o<;>rfl
def rj (a:Addr)(v:Value)(i:Nat)(o:Obj):frz i (cellPut a v o)=frz i o:=by cases o<;>rfl
def eM (w:World)(a:Addr)(v:Value)(x:Addr):(w.setCell a v).frozen? x=w.frozen? x:=by
 rw[aS,aS,setCell_get]
 split
 ·cases w.heap[x.block]? with
  |none=>rfl
  |some o=>simp[rj]
 ·rfl
section
variable {P:Two} {S:Par} {Ck:Code->Prop} {G:Nat} {β:Bij}
def WRel.cell {w W:World}(hw:WRel S Ck G β w W){a A:Addr}(h:ARel β a A){v:Value}(hc:w.cell? a=some v) :
  ∃c C t f F,w.heap[a.block]?=some (.cells c t f)/\W.heap[A.block]?=some (.cells C t F)/\AsRel S β c C/\(∀i,F.1<=i->i<F.2->f.1<=i/\i<f.2) /\
   a.spot=none/\a.off<c.size/\c[a.off]?=some v/\∃V,W.cell? A=some V/\VRel S β v V:=by
 unfold World.cell? at hc
 cases hh:S.hid a.block with
 |true=>rw[(hw.hids _ _ h.block hh).1] at hc;cases hc
 |false =>
  obtain⟨o,O,h1,h2,h3⟩:=hw.objs _ _ h.block hh
  rw[h1] at hc
  cases h3 with
  |cells ha hf =>
   rename_i c C t f F
   simp only at hc
   have hs:a.spot=none:=by
    cases hs:a.spot with
    |none=>rfl
    |some s=>rw[hs] at hc;simp at hc
   rw[hs] at hc
   simp at hc
   obtain⟨V,hV,hr⟩:=ha.get? hc
   refine⟨c,C,t,f,F,h1,h2,ha,hf,hs,(Array.getElem?_eq_some_iff.1 hc).1,hc,V,?_,hr⟩
   unfold World.cell?
   rw[h2]
   simp only[<-h.spot,hs,<-h.off]
   simpa using hV
  |_=>simp at hc
def noFar {w W:World}(hw:WRel S Ck G β w W){a A:Addr}(h:ARel β a A):(∀b,∃s,w.farLoad P.a a b=.error (.stuck s))/\(∀v b,∃s,w.farStore P.a a v b=.error (.stuck s)):=by
 unfold World.farLoad World.farStore World.noCell
 cases hh:S.hid a.block with
 |true =>
  rw[(hw.hids _ _ h.block hh).1]
  exact⟨λ_=>⟨_,rfl⟩,λ_ _=>⟨_,rfl⟩⟩
 |false =>
  obtain⟨o,O,h1,h2,h3⟩:=hw.objs _ _ h.block hh
  rw[h1]
  cases h3<;>exact⟨λ_=>⟨_,rfl⟩,λ_ _=>⟨_,rfl⟩⟩
def gy {a A:Addr}(h:ARel β a A)(m:Mode):SRel P S Ck G β (Go.load a m) (Go.load A m) (λβ' v V=>VRel S β' v V):=by
 intro w W n hw ht es0 ES0 _
 cases hc:w.cell? a with
 |none =>
  obtain⟨s,hs⟩:=(noFar (P:=P) hw h).1 (m==.atomic)
  have:(Go.load a m).runT P.a w es0=(.halt (.stuck s) w,es0):=by simp only[Go.load,Sem.runT,hc,hs]
  rw[this];trivial
 |some v =>
  obtain⟨c,C,t,f,F,h1,h2,h3,h4,h5,h6,h7,V,h8,h9⟩:=hw.cell h hc
  have e1:(Go.load a m).runT P.a w es0=(.ok v w,es0.push ⟨.cell a,false,m==.atomic⟩):=by simp only[Go.load,Sem.runT,hc]
  have e2:(Go.load A m).runT P.b W ES0=(.ok V W,ES0.push ⟨.cell A,false,m==.atomic⟩):=by simp only[Go.load,Sem.runT,h8]
  rw[e1,e2]
  refine⟨β,V,W,[⟨.cell A,false,m==.atomic⟩],by simp,h9,{ Fin.refl hw with evs:=?_ }⟩
  intro _ E hE
  cases List.mem_singleton.1 hE
  exact .cell h.block h.off ⟨c.size,by rw[h1];rfl,h6⟩ (λe=>by cases e)
def gZ {a A:Addr}(h:ARel β a A)(m:Mode){v V:Value}(hv:VRel S β v V):SRel P S Ck G β (Go.store a v m) (Go.store A V m) (λ_ _ _=>True):=by
 intro w W n hw ht es0 ES0 _
 by_cases h1:∃x,v=.agg x
 ·obtain⟨x,rfl⟩:=h1;trivial
 by_cases h2:∃x,v=.tuple x
 ·obtain⟨x,rfl⟩:=h2;trivial
 have h1':∀x,V≠.agg x:=λx e=>by subst e;cases hv with
  |agg=>exact h1 ⟨_,rfl⟩
  |blank _ h=>cases h
 have h2':∀x,V≠.tuple x:=λx e=>by subst e;cases hv with
  |tuple=>exact h2 ⟨_,rfl⟩
  |blank _ h=>cases h
 have r1:=cN P.a m a v (.pure ()) w es0 (λx e=>h1 ⟨x,e⟩) (λx e=>h2 ⟨x,e⟩)
 have r2:=cN P.b m A V (.pure ()) W ES0 h1' h2'
 unfold Go.store
 rw[r1,r2]
 cases hc:w.cell? a with
 |none =>
  obtain⟨s,hs⟩:=(noFar (P:=P) hw h).2 v (m==.atomic)
  simp only[hs];trivial
 |some x =>
  obtain⟨c,C,t,f,F,g1,g2,g3,g4,g5,g6,g7,X,g8,g9⟩:=hw.cell h hc
  simp only[g8]
  by_cases hz:w.frozen? a=true
  ·rw[if_pos hz];exact λg e=>by cases e
  ·rw[if_neg hz]
   have hZ:¬W.frozen? A=true:=by
    unfold World.frozen? at hz ⊢
    rw[g1] at hz
    rw[g2]
    simp only[Bool.and_eq_true,decide_eq_true_eq] at hz ⊢
    rw[<-h.off]
    exact λ⟨p,q⟩=>hz (g4 _ p q)
   rw[if_neg hZ]
   refine⟨β,(),W.setCell A V,[⟨.cell A,true,m==.atomic⟩],by show(Result.ok () _,ES0.push _)=_;simp,trivial,?_⟩
   have ww:∀b B,β b B->(b=a.block↔B=A.block):=λb B hb=>⟨λe=>hw.fine.fn (e▸hb) h.block,λe=>hw.fine.inj hb (e▸h.block)⟩
   have nh:S.hid a.block=false:=by
    cases hh:S.hid a.block with
    |false=>rfl
    |true=>rw[(hw.hids _ _ h.block hh).1] at g1;cases g1
   have hrel:WRel S Ck G β (w.setCell a v) (W.setCell A V):=by
    refine⟨hw.fine,by rw[aX,aX];exact hw.room,λb B hb hh=>?_,λb B hb hh=>?_,λb hb=>by rw[aX];exact hw.old b hb,hw.env⟩
    ·obtain⟨o,O,k1,k2,k3⟩:=hw.objs b B hb hh
     rw[setCell_get,setCell_get]
     by_cases e:b=a.block
     ·have E:=(ww b B hb).1 e
      subst e;subst E
      rw[g1] at k1;cases k1
      rw[g2] at k2;cases k2
      rw[g1,g2]
      have hs:A.spot=none:=by rw[<-h.spot];exact g5
      refine⟨_,_,by rw[if_pos rfl];rfl,by rw[if_pos rfl];rfl,?_⟩
      simp only[cellPut,g5,hs,h.off]
      exact .cells (g3.set _ hv) g4
     ·have E:¬B=A.block:=λE=>e ((ww b B hb).2 E)
      exact⟨o,O,by rw[if_neg e];exact k1,by rw[if_neg E];exact k2,k3⟩
    ·have e:¬b=a.block:=λe=>by subst e;rw[nh] at hh;cases hh
     have E:¬B=A.block:=λE=>e ((ww b B hb).2 E)
     rw[setCell_get,setCell_get,if_neg e,if_neg E]
     exact hw.hids b B hb hh
   have hnf:¬(∀i,i<c.size->f.1<=i/\i<f.2):=λhf=>by
    obtain⟨p,q⟩:=hf _ g6
    unfold World.frozen? at hz
    rw[g1] at hz
    exact hz (by simp[p,q])
   have hkind:∀b,((w.setCell a v).heap[b]?).map kindOf=(w.heap[b]?).map kindOf:=λb=>by
    rw[setCell_get]
    split
    ·cases w.heap[b]? with
     |none=>rfl
     |some o=>cases o<;>first|rfl|(simp only[cellPut,kindOf,Option.map_some];split<;>simp)
    ·rfl
   exact {
    le:=β.le_refl
    rel:=hrel
    tape:=rfl
    TAPE:=rfl
    drawn:=Nat.le_refl _
    draws:=rfl
    os:=rfl
    OS:=rfl
    out:=rfl
    OUT:=rfl
    size:=by rw[aX];exact Nat.le_refl _
    SIZE:=by rw[aX];exact Nat.le_refl _
    new:=λ_ _ h=>.inl h
    NEW:=λB h1 h2=>absurd h2 (by rw[aX];omega)
    frozen:=λx _=>eM w a v x
    KEPT:=λB _ hn=>by rw[setCell_get,if_neg (λe=>hn _ (e▸h.block))]
    ro:=λb B c' t' f' hb hc' hf'=>by
     by_cases e:b=a.block
     ·subst e;rw[g1] at hc';cases hc';exact absurd hf' hnf
     ·have E:¬B=A.block:=λE=>e ((ww b B hb).2 E)
      exact⟨by rw[setCell_get,if_neg e],by rw[setCell_get,if_neg E]⟩
    kind:=λb _=>hkind b
    evs:=λ_ E hE=>by
     cases List.mem_singleton.1 hE
     exact .cell h.block h.off ⟨c.size,by rw[hkind,g1];rfl,g6⟩ (λ_=>by rw[eM];simpa using hz)
    same:=λi e=>by
     have ea:a=A:=by
      obtain⟨b1,o1,s1⟩:=a
      obtain⟨b2,o2,s2⟩:=A
      obtain⟨q1,q2,q3⟩:=h
      cases q2;cases q3
      have q4:b1=b2:=i.2 _ _ q1
      rw[q4]
     have ev:v=V:=hv.id i
     subst ea ev
     exact⟨i,by simp only[World.setCell,e]⟩
    hk:=λb B hb hh=>by
     have e:¬b=a.block:=λe=>by subst e;rw[nh] at hh;cases hh
     have E:¬B=A.block:=λE=>e ((ww b B hb).2 E)
     rw[setCell_get,if_neg E] }
def bp (w:World)(o:Obj)(b:Nat):({ w with heap:=w.heap.push o }:World).heap[b]?=if b=w.heap.size then some o else w.heap[b]?:=by
 simp only[Array.getElem?_push]
def iB {o O:Obj}(h:ORel S Ck β o O)(hid:IdB S.hid β->o=O):SRel P S Ck G β (newObj o) (newObj O) (λβ' b B=>β' b B/\S.hid b=false):=by
 intro w W n hw ht es0 ES0 _
 have e1:(newObj o).runT P.a w es0=(.ok w.heap.size { w with heap:=w.heap.push o },es0):=rfl
 have e2:(newObj O).runT P.b W ES0=(.ok W.heap.size { W with heap:=W.heap.push O },ES0):=rfl
 rw[e1,e2]
 have hG:=hw.room
 have nh:S.hid w.heap.size=false:=by
  cases hh:S.hid w.heap.size with
  |false=>rfl
  |true=>have:=hw.old _ hh;omega
 let β':Bij:=λb B=>β b B\/(b=w.heap.size/\B=W.heap.size)
 have le:β.le β':=λb B h=>.inl h
 have fine:β'.Fine G:=by
  refine⟨?_,?_,?_⟩
  ·rintro b B B' (h1|⟨rfl,rfl⟩) (h2|⟨h2,rfl⟩)
   ·exact hw.fine.fn h1 h2
   ·exact absurd (hw.lt h1).1 (by omega)
   ·exact absurd (hw.lt h2).1 (by omega)
   ·rfl
  ·rintro b b' B (h1|⟨rfl,rfl⟩) (h2|⟨rfl,h2⟩)
   ·exact hw.fine.inj h1 h2
   ·exact absurd (hw.lt h1).2 (by omega)
   ·exact absurd (hw.lt h2).2 (by omega)
   ·rfl
  ·rintro b B (h1|⟨rfl,rfl⟩)
   ·exact hw.fine.lo h1
   ·exact hG
 have rel:WRel S Ck G β' { w with heap:=w.heap.push o } { W with heap:=W.heap.push O }:=by
  refine⟨fine,by simp;omega,?_,?_,λb hb=>by have:=hw.old b hb;simp;omega,hw.env⟩
  ·rintro b B (hb|⟨rfl,rfl⟩) hh
   ·obtain⟨x,X,k1,k2,k3⟩:=hw.objs b B hb hh
    have:=hw.lt hb
    exact⟨x,X,by rw[bp,if_neg (by omega)];exact k1,by rw[bp,if_neg (by omega)];exact k2,k3.mono le⟩
   ·exact⟨o,O,by rw[bp,if_pos rfl],by rw[bp,if_pos rfl],h.mono le⟩
  ·rintro b B (hb|⟨rfl,rfl⟩) hh
   ·have:=hw.lt hb
    rw[bp,bp,if_neg (by omega),if_neg (by omega)]
    exact hw.hids b B hb hh
   ·rw[nh] at hh;cases hh
 refine⟨β',W.heap.size,_,[],by simp,⟨.inr ⟨rfl,rfl⟩,nh⟩,{
  le:=le
  rel:=rel
  tape:=rfl
  TAPE:=rfl
  drawn:=Nat.le_refl _
  draws:=rfl
  os:=rfl
  OS:=rfl
  out:=rfl
  OUT:=rfl
  size:=by simp
  SIZE:=by simp
  new:=?_
  NEW:=λB h1 h2=>⟨w.heap.size,.inr ⟨rfl,by simp at h2;omega⟩⟩
  frozen:=λx hx=>by rw[aS,aS,bp,if_neg (by omega)]
  KEPT:=λB hB _=>by rw[bp,if_neg (by omega)]
  ro:=λb B c t f hb _ _=>by have:=hw.lt hb;rw[bp,bp,if_neg (by omega),if_neg (by omega)];exact⟨rfl,rfl⟩
  kind:=λb hb=>by rw[bp,if_neg (by omega)]
  evs:=by simp
  same:=λi e=>⟨⟨i.1,by
   rintro b B (hb|⟨rfl,rfl⟩)
   ·exact i.2 b B hb
   ·rw[e]⟩,by rw[e,hid i]⟩
  hk:=λb B hb _=>by have:=(hw.lt hb).2;rw[bp,if_neg (by omega)] }⟩
 rintro b B (hb|⟨rfl,rfl⟩)
 ·exact .inl hb
 ·exact .inr ⟨Nat.le_refl _,Nat.le_refl _⟩
def hP {b B:Nat}(h:β b B):SRel P S Ck G β (Go.shape b) (Go.shape B) (λ_ x X=>x=X\/x=none):=by
 intro w W n hw ht es0 ES0 _
 have e1:(Go.shape b).runT P.a w es0=(.ok (w.shape? b) w,es0):=rfl
 have e2:(Go.shape B).runT P.b W ES0=(.ok (W.shape? B) W,ES0):=rfl
 rw[e1,e2]
 refine⟨β,W.shape? B,W,[],by simp,?_,Fin.refl hw⟩
 unfold World.shape?
 cases hh:S.hid b with
 |true=>rw[(hw.hids _ _ h hh).1];exact .inr rfl
 |false =>
  obtain⟨o,O,k1,k2,k3⟩:=hw.objs b B h hh
  rw[k1,k2]
  cases k3 with
  |cells ha _=>exact .inl (by simp[ha.size])
  |_=>exact .inl rfl
def jr {b B:Nat}(h:β b B)(hh:S.hid b=false):SRel P S Ck G β (Go.shape b) (Go.shape B) (λ_ x X=>x=X):=by
 intro w W n hw ht es0 ES0 _
 have e1:(Go.shape b).runT P.a w es0=(.ok (w.shape? b) w,es0):=rfl
 have e2:(Go.shape B).runT P.b W ES0=(.ok (W.shape? B) W,ES0):=rfl
 rw[e1,e2]
 refine⟨β,W.shape? B,W,[],by simp,?_,Fin.refl hw⟩
 unfold World.shape?
 obtain⟨o,O,k1,k2,k3⟩:=hw.objs b B h hh
 rw[k1,k2]
 cases k3 with
 |cells ha _=>simp[ha.size]
 |_=>rfl
def ei (q:Question):SRel P S Ck G β (Go.choose q) (Go.choose q) (λ_ x X=>x=X):=by
 intro w W n hw ht es0 ES0 hb
 by_cases hq:q.forced=true
 ·have e1:(Go.choose q).runT P.a w es0=(.ok 0 w,es0):=by simp only[Go.choose,Sem.runT,hq,if_true]
  have e2:(Go.choose q).runT P.b W ES0=(.ok 0 W,ES0):=by simp only[Go.choose,Sem.runT,hq,if_true]
  rw[e1,e2]
  exact⟨β,0,W,[],by simp,rfl,Fin.refl hw⟩
 ·have e1:(Go.choose q).runT P.a w es0=(.ok (q.cut (w.tape w.drawn q)) { w with drawn:=w.drawn+1 },es0):=by simp only[Go.choose,Sem.runT,if_neg hq]
  have e2:(Go.choose q).runT P.b W ES0=(.ok (q.cut (W.tape W.drawn q)) { W with drawn:=W.drawn+1 },ES0):=by simp only[Go.choose,Sem.runT,if_neg hq]
  rw[e1] at hb
  rw[e1,e2]
  have:w.tape w.drawn q=W.tape W.drawn q:=by
   have:=ht 0 (by simp only[world] at hb;omega) q
   simpa using this
  refine⟨β,q.cut (W.tape W.drawn q),{ W with drawn:=W.drawn+1 },[],by simp,by rw[this],{ Fin.refl hw with evs:=by simp,rel:=⟨hw.fine,hw.room,hw.objs,hw.hids,hw.old,hw.env⟩,drawn:=Nat.le_succ _,draws:=?_,same:=λi e=>⟨i,e⟩,hk:=λ_ _ _ _=>rfl,.. }⟩
  ·show W.drawn+1+w.drawn=W.drawn+(w.drawn+1);omega
def og:SRel P S Ck G β (mark .noRoom) (mark .noRoom) (λ_ _ _=>True):=by
 intro w W n hw ht es0 ES0 _
 have e1:(mark .noRoom).runT P.a w es0=(.ok () w,es0.push ⟨.mark .noRoom,false,true⟩):=rfl
 have e2:(mark .noRoom).runT P.b W ES0=(.ok () W,ES0.push ⟨.mark .noRoom,false,true⟩):=rfl
 rw[e1,e2]
 exact⟨β,(),W,[⟨.mark .noRoom,false,true⟩],by simp,trivial,{ Fin.refl hw with evs:=λ_ E hE=>by cases List.mem_singleton.1 hE;exact .mark .noRoom }⟩
def ej {r R:Nat}(h:β r R)(hh:S.hid r=false):SRel P S Ck G β (Go.getObj r) (Go.getObj R) (λβ' o O=>ORel S Ck β' o O):=by
 intro w W n hw ht es0 ES0 _
 obtain⟨o,O,k1,k2,k3⟩:=hw.objs r R h hh
 have key:∀(hk:kindOf o=2),(∀c t f,o≠.cells c t f)->(∀c t f,O≠.cells c t f)->Ends S Ck G β w W ES0 (λβ' o O=>ORel S Ck β' o O) ((Go.getObj r).runT P.a w es0) ((Go.getObj R).runT P.b W ES0):=by
  intro hk h1 h2
  have e1:(Go.getObj r).runT P.a w es0=(.ok o w,es0.push ⟨.obj r,false,o.isChan⟩):=by
   simp only[Go.getObj,Sem.runT,k1]
  have e2:(Go.getObj R).runT P.b W ES0=(.ok O W,ES0.push ⟨.obj R,false,O.isChan⟩):=by
   simp only[Go.getObj,Sem.runT,k2]
  rw[e1,e2]
  exact⟨β,O,W,[⟨.obj R,false,O.isChan⟩],by simp,k3,{ Fin.refl hw with evs:=λ_ E hE=>by cases List.mem_singleton.1 hE;exact .obj h (by rw[k1];simp[hk]) }⟩
 cases k3 with
 |cells a f =>
  have:(Go.getObj r).runT P.a w es0=(.halt (.stuck "getObj: a row of cells") w,es0):=by simp only[Go.getObj,Sem.runT,k1]
  rw[this];trivial
 |loop=>exact key rfl (by simp) (by simp)
 |number=>exact key rfl (by simp) (by simp)
 |taken=>exact key rfl (by simp) (by simp)
 |defs=>exact key rfl (by simp) (by simp)
def aK (w:World)(r:Nat)(o:Obj)(b:Nat)(h:r<w.heap.size):({ w with heap:=w.heap.setIfInBounds r o }:World).heap[b]?=if b=r then some o else w.heap[b]?:=by
 simp only
 rw[Array.getElem?_setIfInBounds]
 by_cases e:r=b
 ·subst e;simp[h]
 ·rw[if_neg e,if_neg (λx=>e x.symm)]
def ek {r R:Nat}(h:β r R)(hh:S.hid r=false){o O:Obj}(ho:ORel S Ck β o O)(hk:kindOf o=2):SRel P S Ck G β (Go.setObj r o) (Go.setObj R O) (λ_ _ _=>True):=by
 intro w W n hw ht es0 ES0 _
 obtain⟨x,X,k1,k2,k3⟩:=hw.objs r R h hh
 have lt:=hw.lt h
 have hn:∀c t f,o≠.cells c t f:=λc t f e=>by subst e;simp[kindOf] at hk
 have key:kindOf x=2->(∀c t f,x≠.cells c t f)->(∀c t f,X≠.cells c t f)->Ends S Ck G β w W ES0 (λ_ _ _=>True) ((Go.setObj r o).runT P.a w es0) ((Go.setObj R O).runT P.b W ES0):=by
  intro hx h1 h2
  have e1:(Go.setObj r o).runT P.a w es0=(.ok () { w with heap:=w.heap.setIfInBounds r o },es0.push ⟨.obj r,true,o.isChan⟩):=by
   simp only[Go.setObj,Sem.runT,k1]
  have e2:(Go.setObj R O).runT P.b W ES0=(.ok () { W with heap:=W.heap.setIfInBounds R O },ES0.push ⟨.obj R,true,O.isChan⟩):=by
   simp only[Go.setObj,Sem.runT,k2]
  rw[e1,e2]
  have ww:∀b B,β b B->(b=r↔B=R):=λb B hb=>⟨λe=>hw.fine.fn (e▸hb) h,λe=>hw.fine.inj hb (e▸h)⟩
  have hkind:∀b,(({ w with heap:=w.heap.setIfInBounds r o }:World).heap[b]?).map kindOf=(w.heap[b]?).map kindOf:=λb=>by
   rw[aK _ _ _ _ lt.1]
   split
   ·rename_i e;rw[e,k1];simp[hx,hk]
   ·rfl
  refine⟨β,(),{ W with heap:=W.heap.setIfInBounds R O },[⟨.obj R,true,O.isChan⟩],by simp,trivial,{
   le:=β.le_refl
   rel:=⟨hw.fine,by simpa using hw.room,λb B hb hh'=>?_,λb B hb hh'=>?_,λb hb=>by have:=hw.old b hb;simpa using this,hw.env⟩
   tape:=rfl
   TAPE:=rfl
   drawn:=Nat.le_refl _
   draws:=rfl
   os:=rfl
   OS:=rfl
   out:=rfl
   OUT:=rfl
   size:=by simp
   SIZE:=by simp
   new:=λ_ _ h=>.inl h
   NEW:=λB h1 h2=>absurd h2 (by simp;omega)
   frozen:=λa _=>?_
   KEPT:=λB hB hn=>by rw[aK _ _ _ _ lt.2,if_neg (λe=>hn _ (e▸h))]
   ro:=λb B c t f hb hc _=>?_
   kind:=λb _=>hkind b
   evs:=λ_ E hE=>by cases List.mem_singleton.1 hE;exact .obj h (by rw[hkind,k1];simp[hx])
   same:=λi e=>⟨i,by rw[e,i.2 _ _ h,ho.id i hn]⟩
   hk:=λb B hb hh'=>by
    have e:¬b=r:=λe=>by subst e;rw[hh] at hh';cases hh'
    have E:¬B=R:=λE=>e ((ww b B hb).2 E)
    rw[aK _ _ _ _ lt.2,if_neg E] }⟩
  ·obtain⟨y,Y,j1,j2,j3⟩:=hw.objs b B hb hh'
   by_cases e:b=r
   ·have E:=(ww b B hb).1 e
    exact⟨o,O,by rw[aK _ _ _ _ lt.1,if_pos e],by rw[aK _ _ _ _ lt.2,if_pos E],ho⟩
   ·have E:¬B=R:=λE=>e ((ww b B hb).2 E)
    exact⟨y,Y,by rw[aK _ _ _ _ lt.1,if_neg e];exact j1,by rw[aK _ _ _ _ lt.2,if_neg E];exact j2,j3⟩
  ·have e:¬b=r:=λe=>by subst e;rw[hh] at hh';cases hh'
   have E:¬B=R:=λE=>e ((ww b B hb).2 E)
   rw[aK _ _ _ _ lt.1,aK _ _ _ _ lt.2,if_neg e,if_neg E]
   exact hw.hids b B hb hh'
  ·rw[aS,aS,aK _ _ _ _ lt.1]
   split
   ·rename_i e
    rw[e,k1]
    cases x<;>cases o<;>first|exact absurd rfl (h1 _ _ _)|exact absurd rfl (hn _ _ _)|rfl
   ·rfl
  ·have e:¬b=r:=λe=>by subst e;rw[k1] at hc;cases hc;exact h1 _ _ _ rfl
   have E:¬B=R:=λE=>e ((ww b B hb).2 E)
   exact⟨by rw[aK _ _ _ _ lt.1,if_neg e],by rw[aK _ _ _ _ lt.2,if_neg E]⟩
 cases k3 with
 |cells a f =>
  have:(Go.setObj r o).runT P.a w es0=(.halt (.stuck "setObj: a row of cells") w,es0):=by simp only[Go.setObj,Sem.runT,k1]
  rw[this];trivial
 |loop=>exact key rfl (by simp) (by simp)
 |number=>exact key rfl (by simp) (by simp)
 |taken=>exact key rfl (by simp) (by simp)
 |defs=>exact key rfl (by simp) (by simp)
end
def plain:Nat->Value->Bool
 |0,_=>false
 |_+1,.bool _|_+1,.int _ _|_+1,.string _|_+1,.pointer none|_+1,.slice none _ _|_+1,.nilFunc|_+1,.nilIface|_+1,.map none|_+1,.chan none=>true
 |n+1,.agg cs=>cs.all (plain n)
 |n+1,.tuple cs=>cs.all (plain n)
 |_,_=>false
def fG {S:Par}{β:Bij}:∀ {n:Nat} {v:Value},plain n v=true->VRel S β v v:=by
 intro n
 induction n with
 |zero=>intro v h;simp[plain] at h
 |succ n ih =>
  intro v h
  cases v with
  |bool b=>exact .bool b
  |int k n=>exact .int k n
  |string s=>exact .string s
  |pointer a=>cases a with
   |none=>exact .nilp
   |some a=>simp[plain] at h
  |slice a l c=>cases a with
   |none=>exact .nils l c
   |some a=>simp[plain] at h
  |nilFunc=>exact .nilFunc
  |nilIface=>exact .nilIface
  |map r=>cases r with
   |none=>exact .nilMap
   |some a=>simp[plain] at h
  |chan r=>cases r with
   |none=>exact .nilChan
   |some a=>simp[plain] at h
  |agg cs =>
   simp only[plain,Array.all_eq_true_iff_forall_mem] at h
   exact .agg rfl λi v V h1 h2=>by rw[h1] at h2;cases h2;exact ih (h v (Array.mem_of_getElem? h1))
  |tuple cs =>
   simp only[plain,Array.all_eq_true_iff_forall_mem] at h
   exact .tuple rfl λi v V h1 h2=>by rw[h1] at h2;cases h2;exact ih (h v (Array.mem_of_getElem? h1))
  |_=>simp[plain] at h
def bF (P:Program)(t:TypeId):Bool:=match P.info? t with
 |some i=>match i.zero with
  |some z=>plain 8 z
  |none=>true
 |none=>true
section
variable {P:Two} {S:Par} {Ck:Code->Prop} {G:Nat} {β:Bij}
def bV {t:TypeId}(h:bF P.a t=true):SRel P S Ck G β (zeroValue t) (zeroValue t) (λβ' v V=>v=V/\VRel S β' v V):=by
 refine sr_bind (aU t) ?_
 rintro β' a A _ ⟨rfl,hi⟩
 unfold bF at h
 rw[hi] at h
 simp only at h
 cases hz:a.zero with
 |none=>exact sr_unsupported (by simp)
 |some z=>rw[hz] at h;exact sr_pure ⟨rfl,fG h⟩
def ia {a A:Addr}(h:ARel β a A)(i n:Nat){acc ACC:Array Value}(hacc:AsRel S β acc ACC) :
  SRel P S Ck G β (loadCellsFrom a i n acc) (loadCellsFrom A i n ACC) (λβ' x X=>AsRel S β' x X):=by
 induction n generalizing β i acc ACC with
 |zero=>exact sr_pure hacc
 |succ n ih =>
  refine sr_bind (gy (h.add i) .plain) ?_
  intro β' v V hle hv
  exact ih (h.mono hle) _ ((hacc.mono hle).push hv)
def fH {a A:Addr}(h:ARel β a A)(n:Nat):SRel P S Ck G β (loadCells a n) (loadCells A n) (λβ' x X=>AsRel S β' x X):=ia h 0 n uw
def fw {a A:Addr}(h:ARel β a A){l L:List Value}(hl:LRel (VRel S β) l L)(i:Nat):SRel P S Ck G β (storeCells a l i) (storeCells A L i) (λ_ _ _=>True):=by
 induction l generalizing β i L with
 |nil=>cases hl;exact sr_pure trivial
 |cons v l ih =>
  cases hl with
  |cons hv hr =>
   refine sr_bind (gZ (h.add i) .plain hv) ?_
   intro β' _ _ hle _
   exact ih (h.mono hle) (hr.mono λ_ _=>VRel.mono hle) _
def uD {α:Type}{R:α->α->Prop}:∀ {l L:List α},l.length=L.length->(∀(i:Nat) (v V:α),l[i]?=some v->L[i]?=some V->R v V)->LRel R l L
 |[],[],_,_=>.nil
 |a::l,A::L,h,k=>.cons (k 0 a A rfl rfl) (uD (by simpa using h) λi v V h1 h2=>k (i+1) v V (by simpa using h1) (by simpa using h2))
 |[],_::_,h,_=>by simp at h
 |_::_,[],h,_=>by simp at h
def AsRel.toList {x X:Array Value}(r:AsRel S β x X):LRel (VRel S β) x.toList X.toList :=
 uD (by simpa using r.size) λi v V h1 h2=>r.at_ i v V (by simpa using h1) (by simpa using h2)
def LRel.get {α:Type}{R:α->α->Prop}{l L:List α}(h:LRel R l L):l.length=L.length/\∀(i:Nat) (v V:α),l[i]?=some v->L[i]?=some V->R v V:=by
 induction h with
 |nil=>exact⟨rfl,by simp⟩
 |cons ha _ ih =>
  refine⟨by simp[ih.1],λi v V h1 h2=>?_⟩
  cases i with
  |zero=>simp at h1 h2;subst h1;subst h2;exact ha
  |succ i=>exact ih.2 i v V (by simpa using h1) (by simpa using h2)
def LRel.toArray {l L:List Value}(h:LRel (VRel S β) l L):AsRel S β l.toArray L.toArray :=
 ⟨by simpa using h.get.1,λi v V h1 h2=>h.get.2 i v V (by simpa using h1) (by simpa using h2)⟩
def iC (t:TypeId){a A:Addr}(h:ARel β a A):SRel P S Ck G β (loadVar t a) (loadVar t A) (λβ' v V=>VRel S β' v V):=by
 refine sr_bind (ki t) ?_
 rintro β' b _ hle rfl
 split
 ·refine sr_bind (aC t) ?_
  rintro β2 n _ hle2 rfl
  refine sr_bind (fH ((h.mono hle).mono hle2) n) ?_
  intro β3 x X _ hx
  exact sr_pure hx.agg
 ·exact gy (h.mono hle) _
def lj (t:TypeId){a A:Addr}(h:ARel β a A){v V:Value}(hv:VRel S β v V):SRel P S Ck G β (storeVar t a v) (storeVar t A V) (λ_ _ _=>True):=by
 refine sr_bind (aC t) ?_
 rintro β' n _ hle rfl
 rw[hv.cells.size]
 split
 ·exact λ_ _ _ _ _ _ _ _=>trivial
 ·exact fw (h.mono hle) (hv.mono hle).cells.toList 0
def en (t:TypeId){c C:Array Value}(h:AsRel S β c C):SRel P S Ck G β (newRow t c) (newRow t C) (λβ' a A=>ARel β' a A):=by
 refine sr_bind (iB (.cells h (λi h1 h2=>absurd h2 (by simp))) (λi=>by rw[h.id i])) ?_
 rintro β' b B _ ⟨hb,_⟩
 exact sr_pure ⟨hb,rfl,rfl⟩
def fI (t:TypeId){v V:Value}(h:VRel S β v V):SRel P S Ck G β (newVar t v) (newVar t V) (λβ' a A=>ARel β' a A):=en t h.cells
def bS (t:TypeId){c C:Array Value}(h:AsRel S β c C)(o:Nat):SRel P S Ck G β (part t c o) (part t C o) (λβ' v V=>VRel S β' v V):=by
 refine sr_bind (ki t) ?_
 rintro β' b _ hle rfl
 split
 ·refine sr_bind (aC t) ?_
  rintro β2 n _ hle2 rfl
  exact sr_pure (((h.mono hle).mono hle2).extract _ _).agg
 ·cases hc:c[o]? with
  |none=>exact sr_stuck
  |some v=>obtain⟨V,hV,hr⟩:=(h.mono hle).get? hc;rw[hV];exact sr_pure hr
def cn {v V:Value}(h:VRel S β v V):SRel P S Ck G β (Instr.sureAddr v) (Instr.sureAddr V) (λβ' a A=>ARel β' a A):=by
 cases h with
 |ptr o s hb=>exact sr_pure ⟨hb,rfl,rfl⟩
 |_=>exact sr_stuck
def au {α α':Type}{R:Bij->α->α'->Prop}(e:RuntimeError)(h:match e with|.bounds ..|.error _|.plain _|.nilDeref=>True|_=>False) :
  SRel P S Ck G β (runtimePanic e:Sem α) (runtimePanic e:Sem α') R:=by
 refine sr_bind aJ ?_
 rintro β' a A _ ⟨rfl,rfl⟩
 cases e with
 |bounds x y s c =>
  refine cz (.iface _ (fG (n:=2) ?_))
  simp[plain]
 |error m=>exact cz (.iface _ (.string _))
 |plain m=>exact cz (.iface _ (.string _))
 |nilDeref=>exact cz (.iface _ (.string _))
 |typeAssertion i c a m=>exact h.elim
 |panicNil=>exact h.elim
 |unhashable t=>exact h.elim
def sr_boundsPanic {α α':Type}{R:Bij->α->α'->Prop}(k:IntKind)(x y:Int)(c:BoundsCode):SRel P S Ck G β (boundsPanic k x y c:Sem α) (boundsPanic k x y c:Sem α') R:=by
 unfold Go.boundsPanic
 split
 ·refine sr_bind (R:=λ_ a A=>a=A) ?_ ?_
  ·refine sr_bind (ei _) ?_
   rintro β' a A _ rfl
   exact sr_pure rfl
  ·rintro β' a A _ rfl
   exact au (.bounds _ _ _ _) trivial
 ·refine sr_bind (sr_pure (R:=λ_ a A=>a=A) rfl) ?_
  rintro β' a A _ rfl
  exact au (.bounds _ _ _ _) trivial
end
def i8 (P:Program)(s:TypeId)(i:Nat):Bool:=match P.underlying s with
 |some (.struct fs)=>match fs[i]? with
  |some f=>match P.info? f.type with
   |some x=>x.size != 0
   |none=>true
  |none=>true
 |_=>true
section
variable {P:Two} {S:Par} {Ck:Code->Prop} {G:Nat} {β:Bij}
def mB (t:TypeId):SRel P S Ck G β (sizeOf t) (sizeOf t) (λ_ a A=>a=A/\∃x,P.a.info? t=some x/\x.size=a):=by
 refine sr_bind (aU t) ?_
 rintro β' a A _ ⟨rfl,h⟩
 exact sr_pure ⟨rfl,_,h,rfl⟩
def jO {a A:Addr}(h:ARel β a A)(f:Field)(hf:∀x,P.a.info? f.type=some x->x.size≠0):SRel P S Ck G β (fieldPlace a f) (fieldPlace A f) (λβ' x X=>ARel β' x X):=by
 refine sr_bind (mB _) ?_
 rintro β' n _ hle ⟨rfl,x,h1,h2⟩
 split
 ·rename_i h0;exact absurd (h2.trans h0) (hf x h1)
 ·exact sr_pure ((h.mono hle).add _)
def mC (s:TypeId){v V:Value}(h:VRel S β v V)(i:Nat)(hf:i8 P.a s i=true):SRel P S Ck G β (Instr.fieldAt s v i) (Instr.fieldAt s V i) (λβ' x X=>VRel S β' x X):=by
 refine sr_bind (al _) ?_
 rintro β' d _ hle ⟨rfl,hd⟩
 split
 ·rename_i fs
  split
  ·rename_i f he
   refine sr_bind (cn (h.mono hle)) ?_
   intro β2 a A _ ha
   refine sr_bind (jO ha _ ?_) ?_
   ·intro x hx
    simp only[i8,hd,he,hx] at hf
    simpa using hf
   ·intro β3 x X _ hx
    exact sr_pure hx.ptr
  ·exact sr_stuck
 ·exact sr_stuck
def lY (t:TypeId)(k:IntKind)(i:Int)(base:Option Addr)(len:Nat)(elem:TypeId):Sem Value:=do
 let tiny:=len<=1&&(match<-underlying t with|.array ..=>true|_=>false)
 match base with
 |some a =>
  if 0<=i/\i<len then pure (.pointer (some (a.add (i.toNat*(<-sizeOf elem)))))
  else if tiny then unsupported (.noEntry "op/indexAddr.an index out of range at an array of length 0 or 1 (ledger 616)")
  else boundsPanic k i len .index
 |none=>boundsPanic k i 0 .index
inductive OARel (β:Bij):Option Addr->Option Addr->Prop
 |none:OARel β none none
 |some {a A:Addr}:ARel β a A->OARel β (some a) (some A)
def fd (t:TypeId)(k:IntKind)(i:Int){b B:Option Addr}(hb:OARel β b B)(len:Nat)(elem:TypeId):SRel P S Ck G β (lY t k i b len elem) (lY t k i B len elem) (λβ' y Y=>VRel S β' y Y):=by
 refine sr_bind (al _) ?_
 rintro β' d _ hle ⟨rfl,_⟩
 dsimp only
 cases hb with
 |none=>exact sr_boundsPanic _ _ _ _
 |some ha =>
  dsimp only
  split
  ·refine sr_bind (aC _) ?_
   rintro β2 n _ hle2 rfl
   exact sr_pure (((ha.mono hle).mono hle2).add _).ptr
  ·cases d<;>dsimp only<;>split<;>first|exact sr_boundsPanic _ _ _ _|exact sr_unsupported (λg e=>by cases e)
def mD (t:TypeId){v V x X:Value}(h:VRel S β v V)(hx:VRel S β x X):SRel P S Ck G β (Instr.indexAt t v x) (Instr.indexAt t V X) (λβ' y Y=>VRel S β' y Y):=by
 refine sr_bind (dC hx) ?_
 rintro β1 ⟨k,i⟩ _ hle1 rfl
 refine sr_bind (al _) ?_
 rintro β2 d _ hle2 ⟨rfl,_⟩
 have h2:=(h.mono hle1).mono hle2
 clear h
 cases d with
 |array len elem =>
  refine sr_bind (cn h2) ?_
  intro β3 a A _ ha
  exact fd t k i (.some ha) len elem
 |slice elem =>
  cases h2 with
  |nils l c=>exact fd t k i .none l elem
  |slice o s l c hb=>exact fd t k i (.some (ARel.mk (a:=⟨_,o,s⟩) (A:=⟨_,o,s⟩) hb rfl rfl)) l elem
  |_=>exact λ_ _ _ _ _ _ _ _=>trivial
 |_=>exact λ_ _ _ _ _ _ _ _=>trivial
def ct {x X:Value}(hx:VRel S β x X)(y:Nat)(c:BoundsCode):SRel P S Ck G β (Instr.sliceBound x y c) (Instr.sliceBound X y c) (λ_ a A=>a=A):=by
 refine sr_bind (dC hx) ?_
 rintro β1 ⟨k,i⟩ _ hle1 rfl
 dsimp only
 split
 ·exact sr_pure rfl
 ·exact sr_boundsPanic _ _ _ _
inductive OVRel (S:Par)(β:Bij):Option Value->Option Value->Prop
 |none:OVRel S β none none
 |some {a A:Value}:VRel S β a A->OVRel S β (some a) (some A)
def OVRel.mono {β':Bij}(h:β.le β'){a A:Option Value}(r:OVRel S β a A):OVRel S β' a A:=by
 cases r with
 |none=>exact .none
 |some r=>exact .some (r.mono h)
def bG (sl:Bool)(len cap:Nat){l L h H m M:Option Value}(hl:OVRel S β l L)(hh:OVRel S β h H)(hm:OVRel S β m M) :
  SRel P S Ck G β (Instr.sliceBounds sl len cap l h m) (Instr.sliceBounds sl len cap L H M) (λ_ a A=>a=A):=by
 unfold Instr.sliceBounds
 have e1:m.isSome=M.isSome:=by cases hm<;>rfl
 have low : ∀ (β' : Bij) (m' h' : Nat), β.le β' -> SRel P S Ck G β' (do
   let l<-match l with
    |some v=>Instr.sliceBound v h' (if m.isSome then .slice3C else .sliceB)
    |none=>pure 0
   pure (l,h',m')) (do
   let l<-match L with
    |some v=>Instr.sliceBound v h' (if M.isSome then .slice3C else .sliceB)
    |none=>pure 0
   pure (l,h',m')) (λ_ a A=>a=A):=by
  intro β' m' h' hle
  rw[e1]
  cases hl with
  |none=>exact sr_bind (sr_pure (R:=λ_ a A=>a=A) rfl) (by rintro β2 a _ _ rfl;exact sr_pure rfl)
  |some hv=>exact sr_bind (ct (hv.mono hle) _ _) (by rintro β2 a _ _ rfl;exact sr_pure rfl)
 have hpart : ∀ (β' : Bij) (m' : Nat), β.le β' -> SRel P S Ck G β' (do
   let h'<-match h,m with
    |some v,some _=>Instr.sliceBound v m' .slice3B
    |some v,none=>Instr.sliceBound v m' (if sl then .sliceAcap else .sliceAlen)
    |none,none=>pure len
    |none,some _=>stuck "Slice: max without high"
   let l<-match l with
    |some v=>Instr.sliceBound v h' (if m.isSome then .slice3C else .sliceB)
    |none=>pure 0
   pure (l,h',m')) (do
   let h'<-match H,M with
    |some v,some _=>Instr.sliceBound v m' .slice3B
    |some v,none=>Instr.sliceBound v m' (if sl then .sliceAcap else .sliceAlen)
    |none,none=>pure len
    |none,some _=>stuck "Slice: max without high"
   let l<-match L with
    |some v=>Instr.sliceBound v h' (if M.isSome then .slice3C else .sliceB)
    |none=>pure 0
   pure (l,h',m')) (λ_ a A=>a=A):=by
  intro β' m' hle
  cases hm with
  |none =>
   cases hh with
   |none=>exact sr_bind (sr_pure (R:=λ_ a A=>a=A) rfl) (by rintro β2 a _ h2 rfl;exact low β2 _ _ (Bij.le_trans hle h2))
   |some hv=>exact sr_bind (ct (hv.mono hle) _ _) (by rintro β2 a _ h2 rfl;exact low β2 _ _ (Bij.le_trans hle h2))
  |some hw =>
   cases hh with
   |none=>exact λ_ _ _ _ _ _ _ _=>trivial
   |some hv=>exact sr_bind (ct (hv.mono hle) _ _) (by rintro β2 a _ h2 rfl;exact low β2 _ _ (Bij.le_trans hle h2))
 cases hm with
 |none=>exact sr_bind (sr_pure (R:=λ_ a A=>a=A) rfl) (by rintro β2 a _ h2 rfl;exact hpart β2 _ h2)
 |some hv=>exact sr_bind (ct hv _ _) (by rintro β2 a _ h2 rfl;exact hpart β2 _ h2)
def dp {v V:Value}(h:VRel S β v V):SRel P S Ck G β (asAddr v) (asAddr V) (λβ' a A=>ARel β' a A):=by
 cases h with
 |ptr o s hb=>exact sr_pure ⟨hb,rfl,rfl⟩
 |nilp=>exact au .nilDeref trivial
 |_=>exact sr_stuck
def pP (t:TypeId){x X:Value}(hx:VRel S β x X){l L h H m M:Option Value}(hl:OVRel S β l L)(hh:OVRel S β h H)(hm:OVRel S β m M) :
  SRel P S Ck G β (Instr.slice t x l h m) (Instr.slice t X L H M) (λβ' a A=>VRel S β' a A):=by
 refine sr_bind (al _) ?_
 rintro β1 d _ hle ⟨rfl,_⟩
 have e1:m.isSome=M.isSome:=by cases hm<;>rfl
 replace hx:=hx.mono hle
 cases d with
 |string =>
  cases hx with
  |string s =>
   dsimp only
   rw[e1]
   split
   ·exact λ_ _ _ _ _ _ _ _=>trivial
   ·refine sr_bind (bG _ _ _ (hl.mono hle) (hh.mono hle) .none) ?_
    rintro β2 ⟨a,b,c⟩ _ _ rfl
    exact sr_pure (.string _)
  |_=>exact sr_stuck
 |slice e =>
  cases hx with
  |nils len cap =>
   refine sr_bind (bG _ _ _ (hl.mono hle) (hh.mono hle) (hm.mono hle)) ?_
   rintro β2 ⟨a,b,c⟩ _ _ rfl
   refine sr_bind (aC _) ?_
   rintro β3 n _ _ rfl
   refine sr_pure ?_
   split
   ·exact .nils _ _
   ·exact .nils _ _
  |slice o s len cap hb =>
   refine sr_bind (bG _ _ _ (hl.mono hle) (hh.mono hle) (hm.mono hle)) ?_
   rintro β2 ⟨a,b,c⟩ _ hle2 rfl
   refine sr_bind (aC _) ?_
   rintro β3 n _ hle3 rfl
   refine sr_pure ?_
   split
   ·exact .slice _ _ _ _ (hle3 _ _ (hle2 _ _ hb))
   ·exact ARel.sl (ARel.add (ARel.mk (a:=⟨_,o,s⟩) (A:=⟨_,o,s⟩) (hle3 _ _ (hle2 _ _ hb)) rfl rfl) _) _ _
  |_=>exact sr_stuck
 |pointer arr =>
  refine sr_bind (dp hx) ?_
  intro β2 a A hle2 ha
  refine sr_bind (al _) ?_
  rintro β3 d _ hle3 ⟨rfl,_⟩
  cases d with
  |array n elem =>
   refine sr_bind (bG _ _ _ ((((hl.mono hle).mono hle2)).mono hle3) ((((hh.mono hle).mono hle2)).mono hle3) ((((hm.mono hle).mono hle2)).mono hle3)) ?_
   rintro β4 ⟨a,b,c⟩ _ hle4 rfl
   refine sr_bind (aC _) ?_
   rintro β5 n _ hle5 rfl
   have ha':=((ha.mono hle3).mono hle4).mono hle5
   refine sr_pure ?_
   split
   ·exact ha'.sl _ _
   ·exact(ha'.add _).sl _ _
  |_=>exact λ_ _ _ _ _ _ _ _=>trivial
 |_=>exact λ_ _ _ _ _ _ _ _=>trivial
def mE (t:TypeId){x X:Value}(hx:VRel S β x X){l L h H m M:Option Value}(hl:OVRel S β l L)(hh:OVRel S β h H)(hm:OVRel S β m M) :
  SRel P S Ck G β (Instr.sliceAt t x l h m) (Instr.sliceAt t X L H M) (λβ' a A=>VRel S β' a A):=by
 refine sr_bind (al _) ?_
 rintro β1 d _ hle ⟨rfl,_⟩
 cases d with
 |array n elem =>
  refine sr_bind (cn (hx.mono hle)) ?_
  intro β3 a A hle3 ha
  refine sr_bind (bG _ _ _ ((hl.mono hle).mono hle3) ((hh.mono hle).mono hle3) ((hm.mono hle).mono hle3)) ?_
  rintro β4 ⟨a,b,c⟩ _ hle4 rfl
  refine sr_bind (aC _) ?_
  rintro β5 n _ hle5 rfl
  have ha':=(ha.mono hle4).mono hle5
  refine sr_pure ?_
  split
  ·exact ha'.sl _ _
  ·exact(ha'.add _).sl _ _
 |_=>exact pP t (hx.mono hle) (hl.mono hle) (hh.mono hle) (hm.mono hle)
def pQ (t:TypeId){x X:Value}(hx:VRel S β x X)(i:Nat):SRel P S Ck G β (Instr.field t x i) (Instr.field t X i) (λβ' a A=>VRel S β' a A):=by
 refine sr_bind (al _) ?_
 rintro β1 d _ hle ⟨rfl,_⟩
 cases d with
 |struct fs =>
  dsimp only
  split
  ·refine sr_bind (pO (hx.mono hle)) ?_
   intro β2 c C _ hc
   exact bS _ hc _
  ·exact sr_stuck
 |_=>exact λ_ _ _ _ _ _ _ _=>trivial
def pR (t:TypeId){v V x X:Value}(h:VRel S β v V)(hx:VRel S β x X):SRel P S Ck G β (Instr.index t v x) (Instr.index t V X) (λβ' y Y=>VRel S β' y Y):=by
 refine sr_bind (dC hx) ?_
 rintro β1 ⟨k,i⟩ _ hle1 rfl
 refine sr_bind (al _) ?_
 rintro β2 d _ hle2 ⟨rfl,_⟩
 have h2:=(h.mono hle1).mono hle2
 clear h
 cases d with
 |array len elem =>
  cases h2 with
  |agg h1 h2 =>
   dsimp only
   split
   ·refine sr_bind (aC _) ?_
    rintro β3 n _ hle3 rfl
    exact bS _ (AsRel.mono hle3 ⟨h1,h2⟩) _
   ·exact sr_boundsPanic _ _ _ _
  |_=>exact sr_stuck
 |string =>
  cases h2 with
  |string s =>
   dsimp only
   split
   ·exact sr_pure (.int _ _)
   ·exact sr_boundsPanic _ _ _ _
  |_=>exact sr_stuck
 |_=>exact λ_ _ _ _ _ _ _ _=>trivial
def fJ {α γ:Type}{f:α->Sem γ}(h:∀x β,SRel P S Ck G β (f x) (f x) (λ_ a A=>a=A)):∀(l:List α) (β:Bij),SRel P S Ck G β (l.mapM f) (l.mapM f) (λ_ a A=>a=A)
 |[],β=>by simp only[List.mapM_nil];exact sr_pure rfl
 |x::l,β=>by
  simp only[List.mapM_cons]
  refine sr_bind (h x β) ?_
  rintro β1 a _ _ rfl
  refine sr_bind (fJ h l β1) ?_
  rintro β2 b _ _ rfl
  exact sr_pure rfl
end
end Go.Iso
