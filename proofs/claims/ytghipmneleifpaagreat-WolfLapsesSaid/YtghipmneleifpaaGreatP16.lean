/- Parts of the proof. -/
import Derived.Test.YtghipmneleifpaaGreatP15
import Derived.Test.YtghipmneleifpaaGreatP00
import Derived.Test.YtghipmneleifpaaGreatP14
import Derived.Test.YtghipmneleifpaaGreatP12
import Derived.Shelf.Slices.Clone
set_option linter.all false
set_option maxHeartbeats 3200000
set_option maxRecDepth 1000000
open Option renaming none->a6,some->a8
open Go.Value renaming slice->a7,int->bb,pointer->bs,ownBlock->b6
open Go.IntKind renaming i64->bc
open Go renaming World->bh,Value->bo,Addr->br,info_parts->bD,Calls->bW
open List renaming range->bk
open Go.World renaming setCell->bn,frozen?->bA
open Go.Proofs renaming intOf->bq
open Go.Addr renaming add_lit->bw
open Bool renaming false->b5,true->b7
namespace Go.Sq
def Lp (n:Nat)(rs:List (Int×Int))(k:Nat):Int :=
 if Ez (rs[k]?.getD (0,0)).1 0 (n-1)=b5 then 3 else if Ez (rs[k]?.getD (0,0)).2 0 60=b5 then 1 else if(rs.take k).any (·.1==(rs[k]?.getD (0,0)).1)=b7 then 4 else 0
def ip (n:Nat)(rs:List (Int×Int)):Int:=bG ((bk rs.length).map (Lp n rs))
def bC (rs:List (Int×Int)):Nat->Nat->Int
 |0,_=>0
 |k+1,j=>if(rs[k]?.getD (0,0)).1=j then(rs[k]?.getD (0,0)).2 else bC rs k j
def Dj (n:Nat)(rs:List (Int×Int))(k:Nat):List Int:=(bk n).map (bC rs k)
def dV (n:Nat)(rs:List (Int×Int))(k:Nat):(Dj n rs k).length=n:=by simp[Dj]
def pQ {n:Nat}{rs:List (Int×Int)}{k j:Nat}(hj:j<n):(Dj n rs k)[j]?=a8 (bC rs k j):=by simp[Dj,hj]
def nK {n:Nat}{rs:List (Int×Int)}(h:∀k,k<rs.length->Lp n rs k=0)(k j:Nat)(hk:k<=rs.length):0<=bC rs k j/\bC rs k j<=60:=by
 induction k with
 |zero=>simp[bC]
 |succ k ih =>
  have:=h k (by omega);unfold bC;split
  .unfold Lp at this;split at this
   .omega
   .split at this
    .omega
    .rename_i h1 h2;simp[Ez] at h2;omega
  .exact ih (by omega)
def dP (n:Int)(s:List Int×List (Int×Int)):List Int×List (Int×Int) :=
 if C2 s.1 s.1.length<0 then s else(s.1.set (C2 s.1 s.1.length).toNat (s.1[(C2 s.1 s.1.length).toNat]?.getD 0-1),s.2++[(n,C2 s.1 s.1.length)])
def Ds (n:Int)(s:List Int×List (Int×Int)):Nat->List Int×List (Int×Int)
 |0=>s
 |m+1=>dP n (Ds n s m)
def Kf (c:Cc)(r:CR)(ws:List Int)(k:Nat):Nat:=(ws[k]?.getD 0-c.Dd (r k)).toNat
def CB (c:Cc)(r:CR)(ws:List Int):Nat->List Int×List (Int×Int)
 |0=>(c.B2.map (·.heads),[])
 |k+1=>Ds k (CB c r ws k) (Kf c r ws k)
def Ei (c:Cc)(r:CR)(ws:List Int):List (Int×Int):=(CB c r ws ws.length).2
def iq {n:Int}{s:List Int×List (Int×Int)}(h:C2 s.1 s.1.length<0):dP n s=s:=if_pos h
def pR {n:Int}{s:List Int×List (Int×Int)}(h:C2 s.1 s.1.length<0)(m:Nat):Ds n s m=s:=by
 induction m with
 |zero=>rfl
 |succ m ih=>rw[Ds,ih];exact iq h
def nL {n:Int}{s:List Int×List (Int×Int)}{k m:Nat}(h:C2 (Ds n s k).1 (Ds n s k).1.length<0)(hm:k<=m):Ds n s m=Ds n s k:=by
  induction m with
  | zero => obtain rfl : k = 0 := by omega
            rfl
  |succ m ih =>
    rcases zC m k with h1|h1
    · obtain rfl:k=m+1:=by omega
      rfl
    · rw[Ds,ih h1];exact iq h
def mG {c:Cc}{r:CR}{ws:List Int}{k m:Nat}(h:C2 (CB c r ws k).1 (CB c r ws k).1.length<0)(hm:k<=m):CB c r ws m=CB c r ws k:=by
  induction m with
  | zero => obtain rfl : k = 0 := by omega
            rfl
  |succ m ih =>
    rcases zC m k with h1|h1
    · obtain rfl:k=m+1:=by omega
      rfl
    · rw[CB,ih h1];exact pR h _
def nM {c:Cc}{r:CR}{ws:List Int}{k m:Nat}(hk:k<ws.length)(hm:m<=Kf c r ws k)(h:C2 (Ds k (CB c r ws k) m).1 (Ds k (CB c r ws k) m).1.length<0):Ei c r ws=(Ds k (CB c r ws k) m).2:=by
 have e:CB c r ws (k+1)=Ds k (CB c r ws k) m:=by rw[CB];exact nL h hm
 unfold Ei;rw[mG (k:=k+1) (by rw[e];exact h) (by omega),e]
structure FU (c:Cc)(n:Nat)(s:List Int×List (Int×Int)):Prop where
 len:s.1.length=c.B2.length
 low:∀x∈s.1,0<=x/\x<=40
 count:s.1.sum+s.2.length<=160
 night:∀p∈s.2,0<=p.1/\p.1<n/\0<=p.2/\p.2<c.B2.length
def rH (l:List Int)(k:Nat)(h:0<=C2 l k):0<l[(C2 l k).toNat]?.getD 0:=by
 induction k with
 |zero=>simp[C2] at h
 |succ k ih =>
  unfold C2 at h ⊢;by_cases hc:0<l[k]?.getD 0/\(C2 l k<0\/l[(C2 l k).toNat]?.getD 0<l[k]?.getD 0)
  .rw[if_pos hc];simpa using hc.1
  .rw[if_neg hc] at h ⊢;exact ih h
def vC (l:List Int)(k:Nat)(x:Int)(h:k<l.length):(l.set k x).sum=l.sum-l[k]?.getD 0+x:=by
 induction l generalizing k with
 |nil=>simp at h
 |cons a l ih =>
  cases k with
  |zero=>simp;omega
  |succ k =>
   simp only[AC,List.sum_cons,zz];rw[ih k (by simpa using h)];omega
def FU.step {c:Cc}{n:Nat}{s:List Int×List (Int×Int)}{d:Nat}(hd:d<n)(h:FU c n s):FU c n (dP d s):=by
 unfold dP;split
 .exact h
 .rename_i hm;have h1:=jt s.1 s.1.length;have h2:=rH s.1 s.1.length (by omega);have hl:(C2 s.1 s.1.length).toNat<s.1.length:=by omega
  have h3:=h.low _ (EK s.1 _ hl);refine⟨by simp[h.len],λx hx=>?_,?_,λp hp=>?_⟩
  .rcases Bb hx with h4|rfl
   .exact h.low x h4
   .omega
  .have h4:=h.count;show(s.1.set _ _).sum+((s.2++[((d:Int),C2 s.1 s.1.length)]).length:Nat)<=160;rw[vC _ _ _ hl,Ad];simp only[yV,zb,Int.natCast_add];omega
  .rcases zJ.1 hp with h4|h4
   .exact h.night p h4
   .simp only[yT,yQ,or_false] at h4;subst h4;have:=h.len;show(0:Int)<=d/\(d:Int)<n/\_/\_;omega
def FU.it {c:Cc}{n:Nat}{s:List Int×List (Int×Int)}{d:Nat}(hd:d<n)(h:FU c n s)(m:Nat):FU c n (Ds d s m):=by
 induction m with
 |zero=>exact h
 |succ m ih=>exact ih.step hd
def FU.all {c:Cc}(hc:c.Ok){r:CR}{ws:List Int}{n:Nat}(hn:ws.length<=n)(k:Nat)(hk:k<=ws.length):FU c n (CB c r ws k):=by
 induction k with
 |zero =>
  refine⟨by simp[CB],λx hx=>?_,?_,λp hp=>by simp[CB] at hp⟩
  .simp only[CB,zu] at hx;obtain⟨h,hh,rfl⟩:=hx;have:=hc.heads h hh;omega
  .have := FI 1 40 (c.B2.map (·.heads)) fun x hx => by
    simp only[zu] at hx;obtain⟨h,hh,rfl⟩:=hx;exact hc.heads h hh
   have h4:=hc.h4;simp only[CB,zb,zy] at *;omega
 |succ k ih=>exact(ih (by omega)).it (by omega) _
def lm {c:Cc}(hc:c.Ok)(r:CR)(ws:List Int):FU c ws.length (CB c r ws ws.length):=FU.all hc (yL _) _ (yL _)
def j7 {c:Cc}(hc:c.Ok)(r:CR)(ws:List Int):(Ei c r ws).length<=160:=by
 have h:=lm hc r ws;have h1:=FI 0 40 _ h.low;have h2:=h.count;unfold Ei;omega
def JN (p:Int)(on:List Int)(h:Int):Nat->Int
 |0=>0
 |k+1=>JN p on h k+if on[k]?.getD 0=h then p / on.length+(if(k:Int)<p % on.length then 1 else 0) else 0
def mH {p:Int}(hp:0<=p/\p<=99)(on:List Int)(h:Int)(k:Nat):0<=JN p on h k/\JN p on h k<=100*k:=by
 induction k with
 |zero=>simp[JN]
 |succ k ih =>
  have h1:0<=p / (on.length:Int):=Int.ediv_nonneg hp.1 (by omega);have h2:p / (on.length:Int)<=p:=Int.ediv_le_self _ hp.1;unfold JN;split
  .split<;>omega
  .omega
def FV (p:Int)(r:CR)(ls:List (Int×Int))(h t:Nat):Nat->Int
 |0=>0
 |k+1=>FV p r ls h t k+if(ls[k]?.getD (0,0)).2=t/\h≠t then JN p (wl (r (ls[k]?.getD (0,0)).1.toNat)) h (wl (r (ls[k]?.getD (0,0)).1.toNat)).length else 0
def mI {p:Int}(hp:0<=p/\p<=99)(r:CR)(ls:List (Int×Int))(h t:Nat)(k:Nat):0<=FV p r ls h t k/\FV p r ls h t k<=400*k:=by
 induction k with
 |zero=>simp[FV]
 |succ k ih =>
  have h1:=mH hp (wl (r (ls[k]?.getD (0,0)).1.toNat)) h (wl (r (ls[k]?.getD (0,0)).1.toNat)).length;have h2:=bF (r (ls[k]?.getD (0,0)).1.toNat);unfold FV;split<;>omega
def Nh (n:Nat)(M:Nat->Nat->Int):List (List Int):=(bk n).map λh=>(bk n).map (M h)
def gv (n:Nat)(M:Nat->Nat->Int):(Nh n M).length=n:=by simp[Nh]
def vD {n:Nat}{M:Nat->Nat->Int}{h:Nat}(hh:h<n):(Nh n M)[h]?=a8 ((bk n).map (M h)):=by simp[Nh,hh]
def Jd (c:Cc)(r:CR)(p:Int)(ws:List Int):List (List Int):=Nh c.B2.length λh t=>FV p r (Ei c r ws) h t (Ei c r ws).length
def Gs (M:List (List Int)):Nat->Nat->Int
 |0,_=>0
 |k+1,j=>Gs M k j-(if j=k then(M[k]?.getD []).sum else 0)+(M[k]?.getD [])[j]?.getD 0
def Sx (M:List (List Int)):List Int:=(bk M.length).map (Gs M M.length)
open Go.RowKit
def vE (l:List Int)(n:Nat)(h:∀x∈l,0<=x/\x<n):IU l<2 ^ n:=by
 have key:∀(l:List Int) (x:Nat),(∀y∈l,0<=y/\y<n)->x<2 ^ n->l.foldl (λx h=>x ||| 2 ^ h.toNat) x<2 ^ n:=by
  intro l
  induction l with
  |nil=>intro x _ hx;exact hx
  |cons a l ih =>
   intro x h hx;have ha:=h a Ac;exact ih _ (λy hy=>h y (Aj _ hy)) (Nat.or_lt_two_pow hx (Nat.pow_lt_pow_right (by omega) (by omega)))
 exact key l 0 h (Nat.two_pow_pos n)
def eh {c:Cc}{ls:List (List Int)}(hE:Cg c ls=0)(i:Nat):c.has (B7 ls i):=by
 unfold Cg at hE;split at hE
 .rename_i h;exact absurd hE h
 .split at hE
  .rename_i h;exact absurd hE h
  .unfold B7 Cc.has;cases hl:ls[i]? with
   |none=>exact Nat.two_pow_pos _
   |some l =>
    have:=bB.1 hE (Dw l c.B2.length) (zu.2 ⟨l,zS hl,rfl⟩);exact vE l _ (I6 this).1
structure IQ (w:bh)(base:Nat)(v:bo)(n m:Nat)(M:Nat->Nat->Int)(bl:Nat->Nat):Prop where
 row:∃xs,w.ownsRow base 22 1 v m xs/\∀h,h<m->xs[h]?=a8 (.slice (a8 ⟨bl h,0,a6⟩) n n)
 cells:∀h,h<m->base<=bl h/\∃l:Array bo,w.heap[bl h]?=a8 (.cells l 3 (0,0))/\∀t,t<n->l[t]?=a8 (bb bc (M h t))
 inj:∀h h',h<m->h'<m->bl h=bl h'->h=h'
def cell_of_heap {w:bh}{b:Nat}{l:Array bo}{ty:TypeId}(h:w.heap[b]?=a8 (.cells l ty (0,0)))(o:Nat):w.cell? ⟨b,o,a6⟩=l[o]?/\w.frozen? ⟨b,o,a6⟩=false:=by
 unfold World.cell? bA;rw[h];simp
def rI {w:bh}{base size n:Nat}{e e':TypeId}{v:bo}{xs:List bo}(h:w.ownsRow base e size v n xs)(hne:e≠e'){b:Nat}{l:Array bo}(hb:w.heap[b]?=a8 (.cells l e' (0,0))):a8 b≠v.ownBlock:=λhh=>by
 rcases h.2 with⟨rfl,_⟩|⟨g,cap,cur,rfl,_,k,_⟩
 .cases hh
 .have e1:b=g:=by injection hh
  subst e1;rw[hb] at k;injection k with k
  injection k with _ k _
  exact hne k.symm
section
variable {w w':bh} {base n m:Nat} {v:bo} {M M':Nat->Nat->Int} {bl:Nat->Nat}
def IQ.nil (w:bh)(base n:Nat)(M:Nat->Nat->Int)(bl:Nat->Nat):IQ w base (.slice a6 0 0) n 0 M bl:=⟨⟨[],zF _ _ _ _,λh hh=>absurd hh (by omega)⟩,λh hh=>absurd hh (by omega),λh h' hh=>absurd hh (by omega)⟩
def IQ.keep (h:IQ w base v n m M bl)(hk:∀b,base<=b->b<w.heap.size->w'.heap[b]?=w.heap[b]?):IQ w' base v n m M bl:=by
 obtain⟨xs,h1,h2⟩:=h.row;refine⟨⟨xs,al h1 λg hg hl=>hk g (h1.lt g hg).1 hl,h2⟩,λa ha=>?_,h.inj⟩;obtain⟨c1,l,c2,c3⟩:=h.cells a ha;exact⟨c1,l,(hk _ c1 (yK.1 c2).1).trans c2,c3⟩
def IQ.gr (h:IQ w base v n m M bl)(hg:Gr w w'):IQ w' base v n m M bl:=h.keep λb _ hb=>hg.below.block b hb
def IQ.drew (h:IQ w base v n m M bl):IQ w.drew base v n m M bl:=h.keep λ_ _ _=>rfl
def IQ.congr (h:IQ w base v n m M bl)(e:∀a t,a<m->t<n->M a t=M' a t):IQ w base v n m M' bl:=by
 refine⟨h.row,λa ha=>?_,h.inj⟩;obtain⟨c1,l,c2,c3⟩:=h.cells a ha;exact⟨c1,l,c2,λt ht=>by rw[<-e a t ha ht];exact c3 t ht⟩
def IQ.at_ (h:IQ w base v n m M bl){a t:Nat}(ha:a<m)(ht:t<n):base<=bl a/\bl a<w.heap.size/\w.cell? ⟨bl a,t,a6⟩=a8 (bb bc (M a t))/\w.frozen? ⟨bl a,t,a6⟩=false:=by
 obtain⟨c1,l,c2,c3⟩:=h.cells a ha;exact⟨c1,(yK.1 c2).1,(cell_of_heap c2 t).1.trans (c3 t ht),(cell_of_heap c2 t).2⟩
def IQ.OA {A:Option br}{k c:Nat}(h:IQ w base (a7 A k c) n m M bl){a:Nat}(ha:a<m):∃g,A=a8 ⟨g,0,a6⟩/\g<w.heap.size/\w.cell? ⟨g,a,a6⟩=a8 (.slice (a8 ⟨bl a,0,a6⟩) n n):=by
 obtain⟨xs,h1,h2⟩:=h.row;rcases h1.2 with⟨_,h0⟩|⟨g,cap,cur,hv,k1,k2,k3⟩
 .omega
 .have hA:A=a8 ⟨g,0,a6⟩:=by injection hv
  subst hA;have:=h1.cells (g:=g) rfl a _ (h2 a ha);have e:(⟨g,0,a6⟩:br).add a=⟨g,0+a,a6⟩:=by unfold Addr.add;split<;>simp_all
  rw[e,yZ] at this;exact⟨g,rfl,(yK.1 k2).1,this⟩
def IQ.push {w1:bh}{v':bo}{q:Nat}{xs:List bo}{z:Array bo}(h:IQ w base v n m (λ_ _=>0) bl)(hr:w.ownsRow base 22 1 v m xs)(hx:∀h,h<m->xs[h]?=a8 (.slice (a8 ⟨bl h,0,a6⟩) n n))
  (hq:base<=q) (hqw:w.heap.size<=q) (h1:∀b,b<w.heap.size->w1.heap[b]?=w.heap[b]?) (hz:w1.heap[q]?=a8 (.cells z 3 (0,0))) (hzz:∀t,t<n->z[t]?=a8 (bb bc 0)) (hs:w.heap.size<=w1.heap.size)
  (hg:w1.grownBy w' v.ownBlock) (NJ:w'.ownsRow base 22 1 v' (m+1) (xs++[.slice (a8 ⟨q,0,a6⟩) n n])):IQ w' base v' n (m+1) (λ_ _=>0) (λa=>if a=m then q else bl a):=by
 have hlen:xs.length=m:=by have:=hr.1;omega
 have hqv:a8 q≠v.ownBlock:=λe=>by have:=(hr.lt q e.symm).2;omega
 refine⟨⟨_,NJ,λa ha=>?_⟩,λa ha=>?_,λa a' ha ha' e=>?_⟩
 .try dsimp only
  by_cases e:a=m
  .subst e;rw[if_pos rfl,zv (by omega),hlen];simp
  .rw[if_neg e,zo (by omega)];exact hx a (by omega)
 .try dsimp only
  by_cases e:a=m
  .subst e;rw[if_pos rfl];exact⟨hq,z,(hg.block q (yK.1 hz).1 hqv).trans hz,hzz⟩
  .rw[if_neg e];obtain⟨c1,l,c2,c3⟩:=h.cells a (by omega);have hlt:=(yK.1 c2).1;exact⟨c1,l,(hg.block (bl a) (by omega) (rI hr (by decide) c2)).trans ((h1 _ hlt).trans c2),c3⟩
 .try dsimp only at e
  have key:∀a,a<m->bl a<w.heap.size:=λa ha=>by
   obtain⟨_,l,c2,_⟩:=h.cells a ha;exact(yK.1 c2).1
  by_cases e1:a=m
  .by_cases e2:a'=m
   .omega
   .rw[if_pos e1,if_neg e2] at e;have:=key a' (by omega);omega
  .by_cases e2:a'=m
   .rw[if_neg e1,if_pos e2] at e;have:=key a (by omega);omega
   .rw[if_neg e1,if_neg e2] at e;exact h.inj a a' (by omega) (by omega) e
def IQ.set (h:IQ w base v n m M bl){a t:Nat}(ha:a<m)(ht:t<n)(y:Int)(hM:∀a' t',a'<m->t'<n->M' a' t'=if a'=a/\t'=t then y else M a' t'):IQ (w.setCell ⟨bl a,t,a6⟩ (bb bc y)) base v n m M' bl:=by
 obtain⟨xs,h1,h2⟩:=h.row;obtain⟨c1,l,c2,c3⟩:=h.cells a ha;have hblk:∀g,g≠bl a->(w.setCell ⟨bl a,t,a6⟩ (bb bc y)).heap[g]?=w.heap[g]?:=λg hg=>by
  rw[Go.Ct.CW];exact if_neg hg
 refine⟨⟨xs,al h1 λg hg _=>hblk g λe=>rI h1 (by decide) c2 (by rw[<-e];exact hg.symm),h2⟩,λa' ha'=>?_,h.inj⟩;obtain⟨d1,l',d2,d3⟩:=h.cells a' ha';by_cases e:a'=a
 .subst e;refine⟨d1,l.setIfInBounds t (bb bc y),?_,λt' KS=>?_⟩
  .rw[Go.Ct.CW,if_pos rfl,c2];simp[Go.Ct.GP]
  .rw[hM a' t' ha' KS,Ai];by_cases e2:t=t'
   .subst e2;have hl:=(yK.1 (c3 t ht)).1;simp[hl]
   .rw[if_neg e2,if_neg (λh=>e2 h.2.symm)];exact c3 t' KS
 .refine⟨d1,l',(hblk _ λe2=>e (h.inj a' a ha' ha e2)).trans d2,λt' KS=>?_⟩;rw[hM a' t' ha' KS,if_neg (λh=>e h.1)];exact d3 t' KS
def IQ.K5 {A:Option br}{c:Nat}(h:IQ w base (a7 A m c) m m M bl):Da w w.heap.size A (Nh m M):=λhn=>by
 have hm:0<m:=by
  rcases zp m with e|e
  .exact absurd (zj ((gv m M).trans e)) hn
  .exact e
 obtain⟨g,rfl,hg,_⟩:=h.OA hm;refine⟨g,0,rfl,hg,λi l hl=>?_⟩;have hi:i<m:=by have:=(ze.1 hl).1;rwa [gv] at this
 rw[vD hi] at hl;cases hl;obtain⟨g',e,_,hc⟩:=h.OA hi;have e':g'=g:=by injection e with e;injection e with e;exact e.symm
 subst e';refine⟨a8 ⟨bl i,0,a6⟩,m,by simpa using hc,λ_=>⟨_,0,rfl,?_,λj x hx=>?_⟩⟩
 .obtain⟨_,l,c2,_⟩:=h.cells i hi;exact(yK.1 c2).1
 .have hj:j<m:=by have:=(ze.1 hx).1;simpa using this
  have KY:x=M i j:=by
   rw[zL,Am hj] at hx;exact(Option.some.inj hx).symm
  rw[yZ,KY];exact(h.at_ hi hj).2.2.1
end
def GI (w:bh)(B:Nat)(A:Option br)(l:List (Int×Int)):Prop :=
 l≠[]->∃b o,A=a8 ⟨b,o,a6⟩/\b<B/\∀(i:Nat) (x:Int×Int),l[i]?=a8 x->w.cell? ⟨b,o+i*2,a6⟩=a8 (bb bc x.1)/\w.cell? ⟨b,o+i*2+1,a6⟩=a8 (bb bc x.2)
def GI.keep {w w':bh}{B:Nat}{A:Option br}{l:List (Int×Int)}(h:GI w B A l)(hk:∀b o,b<B->w'.cell? ⟨b,o,a6⟩=w.cell? ⟨b,o,a6⟩):GI w' B A l:=λhn=>by
 obtain⟨b,o,e,hb,hc⟩:=h hn;exact⟨b,o,e,hb,λi x hx=>⟨(hk _ _ hb).trans (hc i x hx).1,(hk _ _ hb).trans (hc i x hx).2⟩⟩
def GI.gr {w w':bh}{B:Nat}{A:Option br}{l:List (Int×Int)}(h:GI w B A l)(hB:B<=w.heap.size)(hg:Gr w w'):GI w' B A l:=h.keep λ_ _ hb=>hg.cell (yO hb hB)
def GI.at_ {w:bh}{B:Nat}{A:Option br}{l:List (Int×Int)}(h:GI w B A l){k:Nat}(hk:k<l.length):∃b o,A=a8 ⟨b,o,a6⟩/\b<B/\w.cell? ⟨b,o+k*2,a6⟩=a8 (bb bc (l[k]?.getD (0,0)).1)/\w.cell? ⟨b,o+k*2+1,a6⟩=a8 (bb bc (l[k]?.getD (0,0)).2):=by
 obtain⟨b,o,e,hb,hc⟩:=h (λe=>by rw[e] at hk;simp at hk);obtain⟨h1,h2⟩:=hc k _ (yM hk);exact⟨b,o,e,hb,by rw[yM hk];exact h1,by rw[yM hk];exact h2⟩
open Go.Proofs
def vF (a b q:Int)(pb:Nat)(w:bh)(hp:pb<w.heap.size)(hc:w.cell? ⟨pb,0,a6⟩=a8 (bb bc q)) :
  bW B1 135 #[.agg #[bb bc a,bb bc b],.pointer (a8 ⟨pb,0,a6⟩)] w λe w'=>e=.returned (.bool (a==q))/\Gr w w':=by
 go_enter Sq.func135,Tryz.ntmps135;go_wp2;go_ret;exact⟨rfl,(Gr.refl w).alloc _⟩
def nN (A:Option br)(c pb:Nat)(q:Int)(l:List (Int×Int))(w:bh)(B:Nat)(hB:B<=w.heap.size)(h:GI w B A l)(hl:l.length<=4611686018427387904)(hp:pb<w.heap.size)(hc:w.cell? ⟨pb,0,a6⟩=a8 (bb bc q)) :
  bW B1 160 #[a7 A l.length c,.func (.func 135) #[] #[.pointer (a8 ⟨pb,0,a6⟩)]] w λe w'=>(∃n:Int,e=.returned (bb bc n)/\(0<=n↔l.any (·.1==q)=b7))/\Gr w w':=by
 have HR:=yJ h;go_enter Sq.func160,Tryz.ntmps160;go_wp2;go_loopw [8] (λi wr=>∃k:Nat,k<=l.length/\i=bb bc k/\(l.take k).any (·.1==q)=b5/\Gr w wr) (λi _=>l.length-(bq i).toNat)
 case atStart=>exact⟨0,by omega,rfl,by simp,.refl _⟩
 case round =>
  obtain⟨k,hk,rfl,ha,hg⟩:=hrel;have HA:=yJ ha;have HG:=yJ hg;by_cases hlt:k<l.length
  .obtain⟨b,o,rfl,hb,h1,h2⟩:=(HR.out.gr hB HG.out).at_ hlt;have HT:=yJ (bt (0,0) l k hlt);have HM:Hid (l[k]?.getD (0,0)∈l):=yJ (by rw[yM hlt];exact zx hlt);generalize l[k]?.getD (0,0)=x at h1 h2 HT HM;have hz:=HG.out.size;have HC:=yJ (vF x.1 x.2 q pb wr (by omega) ((HG.out.cell hp).trans hc));obtain⟨v,hv⟩:∃v,v=(x.1==q):=⟨_,rfl⟩;rw[<-hv] at HC;have HV:=yJ hv;clear hv;cases v with
   |true =>
    go_wp2_with (go_at_call 135;refine HC.out.mono ?_;rintro e w2 ⟨rfl,hg2⟩;have Gt:=yJ hg2;clear hg2);go_ret;refine⟨⟨k,rfl,⟨λ_=>List.any_eq_true.2 ⟨x,HM.out,HV.out.symm⟩,λ_=>by omega⟩⟩,HG.out.trans Gt.out⟩
   |false =>
    go_wp2_with (go_at_call 135;refine HC.out.mono ?_;rintro e w2 ⟨rfl,hg2⟩;have Gt:=yJ hg2;clear hg2);go_roundw
    case rel=>exact⟨k+1,by omega,by go_num,by rw[HT.out,List.any_append,HA.out];simp[<-HV.out],HG.out.trans Gt.out⟩
    case measure=>simp[Proofs.intOf];omega
  .have FA:k=l.length:=by omega
   have HZ:=yJ (show l.any (·.1==q)=b5 by have:=HA.out;rwa [FA,zi (by omega)] at this);clear FA;go_wp2;go_ret;exact⟨⟨-1,rfl,by rw[HZ.out];simp⟩,HG.out⟩
def rJ (A:Option br)(c pb:Nat)(q:Int)(l:List (Int×Int))(w:bh)(B:Nat)(hB:B<=w.heap.size)(h:GI w B A l)(hl:l.length<=4611686018427387904)(hp:pb<w.heap.size)(hc:w.cell? ⟨pb,0,a6⟩=a8 (bb bc q)) :
  bW B1 134 #[a7 A l.length c,.func (.func 135) #[] #[.pointer (a8 ⟨pb,0,a6⟩)]] w λe w'=>e=.returned (.bool (l.any (·.1==q)))/\Gr w w':=by
 have HC:=yJ (nN A c pb q l w B hB h hl hp hc);clear h;go_enter Sq.func134,Tryz.ntmps134;go_wp2_with fail;refine HC.out.mono ?_;rintro e w2 ⟨⟨n,rfl,hn⟩,hg⟩;have HG:=yJ hg
 have HN:=yJ (show decide (0<=n)=l.any (·.1==q) by
  cases hv:l.any (·.1==q) with
  |true=>simp[hn.2 hv]
  |false=>simp;have:=λh=>hn.1 h;rw[hv] at this;exact Int.not_le.1 λh=>by cases this h)
 clear hn hg;go_wp2;go_ret;exact⟨ap HN.out,HG.out⟩
def lr {n:Nat}{rs:List (Int×Int)}(h:ip n rs=0):∀k,k<rs.length->Lp n rs k=0:=by
 have key:∀l:List Int,bG l=0->∀x∈l,x=0:=λl h x hx=>by
  unfold bG at h;cases hf:l.find? (λx=>x != 0) with
  |none=>simpa using Bd.1 hf x hx
  |some y =>
   rw[hf] at h;have:=List.find?_some hf;simp at this;exact absurd h this
 intro k hk;exact key _ h _ (zu.2 ⟨k,by simpa using hk,rfl⟩)
def tD {n:Nat}{rs:List (Int×Int)}{k:Nat}(h:Lp n rs k=0) :
  Ez (rs[k]?.getD (0,0)).1 0 (n-1)=b7/\Ez (rs[k]?.getD (0,0)).2 0 60=b7/\(rs.take k).any (·.1==(rs[k]?.getD (0,0)).1)=false:=by
 unfold Lp at h;cases h1:Ez (rs[k]?.getD (0,0)).1 0 (n-1) with
 |false=>rw[h1,if_pos rfl] at h;cases h
 |true =>
  cases h2:Ez (rs[k]?.getD (0,0)).2 0 60 with
  |false=>rw[h1,h2,if_neg (by simp),if_pos rfl] at h;cases h
  |true =>
   cases h3:(rs.take k).any (·.1==(rs[k]?.getD (0,0)).1) with
   |true=>rw[h1,h2,h3,if_neg (by simp),if_neg (by simp),if_pos rfl] at h;cases h
   |false=>exact⟨rfl,rfl,rfl⟩
def _root_.Go.Sq.GI.take {w:bh}{B:Nat}{A:Option br}{l:List (Int×Int)}(h:GI w B A l)(k:Nat):GI w B A (l.take k):=λhn=>by
 obtain⟨b,o,e,hb,hc⟩:=h (λe=>hn (by rw[e];simp))
 exact⟨b,o,e,hb,λi x hx=>hc i x (by
  rw[AD] at hx;split at hx
  .exact hx
  .cases hx)⟩
def pS {W:bh}{cb:Nat}{c:Cc}{nA hA:Option br}{nc hc:Nat}(h:DW W W.heap.size cb c nA hA nc hc):DW W.drew W.drew.heap.size cb c nA hA nc hc:=(h.keep (w':=W.drew) λ_ _ _=>rfl:DW W.drew W.heap.size cb c nA hA nc hc)
def vG {W:bh}{A:Option br}{l:List Int}(h:RI W W.heap.size A l):RI W.drew W.drew.heap.size A l:=h
def tE (nA hA gA rA:Option br)(nc hc gc rc:Nat)(c:Cc)(ls:List (List Int))(rs:List (Int×Int))(w:bh)(B:Nat)(hB:B<=w.heap.size)(hn:RI w B nA c.B3)(hh:Db w B hA c.B2)(hg:Da w B gA ls)(hr:GI w B rA rs)
  (F4:c.B3.length<=4611686018427387904) (hl2:c.B2.length<=4611686018427387904) (DN:∀h∈c.B2,h.off.length<=4611686018427387904) (IP:ls.length<=4611686018427387904) (hl4:∀x∈ls,x.length<=4611686018427387904) (Qf:rs.length<=4611686018427387904) (UE:rs.length<=rc)
  (hF:Cg c ls=0) (hR:ip c.B3.length rs=0) :
  bW B1 98 #[Cj nA hA c nc hc,a7 gA ls.length gc,a7 rA rs.length rc] w λe w'=>Gr w w'/\∃cb A k,e=.returned (.tuple #[.pointer (a8 ⟨cb,0,a6⟩),Dr (B7 ls),a7 A c.B3.length k,bb bc 0]) /\
   DW w' w'.heap.size cb c nA hA nc hc/\RI w' w'.heap.size A (Dj c.B3.length rs rs.length):=by
 have HR:=yJ hr;have HRE:=yJ (lr hR);unfold Cj;obtain⟨W0,hW0⟩:∃W0:bh,W0=(w.alloc (.cells #[a7 nA c.B3.length nc,a7 hA c.B2.length hc] 25)).alloc (.cells #[.int .u8 0,.int .u8 0,.int .u8 0,.int .u8 0,.int .u8 0] 75):=⟨_,rfl⟩;have hg0:Gr w W0:=hW0▸((Gr.refl w).alloc _).alloc _;have hz0:W0.heap.size=w.heap.size+2:=by rw[hW0];simp
 have HW:=yJ hW0;have Iq:=yJ (jr nA hA gA nc hc gc c ls W0 B (by omega) (hn.gr hB hg0) (hh.keep λb o hb=>hg0.cell (yO hb hB)) (hg.gr hB hg0) F4 hl2 DN IP hl4);have Du:=yJ hg0;have hcm:W0.cell? ⟨w.heap.size,0,a6⟩=a8 (a7 nA c.B3.length nc)/\W0.cell? ⟨w.heap.size,1,a6⟩=a8 (a7 hA c.B2.length hc):=by
  rw[hW0];constructor
  all_goals rw[za _ _ _ (by simp),yN _ _ _ _ rfl];rfl
 have M8:=yJ hcm;have NN:∀i,i<5->W0.cell? ⟨w.heap.size+1,i,a6⟩=a8 (.int .u8 ((λ_=>0:CR) i:Nat))/\W0.frozen? ⟨w.heap.size+1,i,a6⟩=false:=λi hi=>by
  rw[hW0,yN _ _ _ _ (by simp),zD _ _ _ _ (by simp)]
  match i,hi with
  |0,_=>exact⟨rfl,rfl⟩
  |1,_=>exact⟨rfl,rfl⟩
  |2,_=>exact⟨rfl,rfl⟩
  |3,_=>exact⟨rfl,rfl⟩
  |4,_=>exact⟨rfl,rfl⟩
 have HZ5:=yJ NN;have Ll:=yJ hF;go_enter Sq.func98,Tryz.ntmps98;unfold Cj at Iq;go_wp2_with fail;rw[<-HW.out];refine Iq.out.mono ?_;rintro e w1 ⟨hg1,Hu⟩;rw[if_pos Ll.out] at Hu;obtain⟨cb,g,cap,rfl,hcb,Yz,hK⟩:=Hu
 have FQ:=yJ (Cc.Ok.of (show Cn c=0 by
  have:=Ll.out;unfold Cg at this;split at this
  .exact absurd this (by assumption)
  .simpa using ‹¬Cn c≠0›))
 have Mr:=FQ.out.n5;have G6:=FQ.out.n1;obtain⟨W1,hW1⟩:∃W1:bh,W1=w1.alloc (.cells #[.int .u8 (B7 ls 0),.int .u8 (B7 ls 1),.int .u8 (B7 ls 2),.int .u8 (B7 ls 3),.int .u8 (B7 ls 4)] 76):=⟨_,rfl⟩;have Ju:Gr w1 W1:=hW1▸(Gr.refl w1).alloc _;have hz1:W1.heap.size=w1.heap.size+1:=by rw[hW1];simp
 have hzz:=hg1.size;have hG1:Gr W0 W1:=hg1.trans Ju;have DO:=yJ hG1;have HK:=yJ hK;have Sy:=yJ Ju;have UF:Hid (∀i,i<5->W1.cell? ⟨w1.heap.size,i,a6⟩=a8 (.int .u8 (B7 ls i:Nat))):=yJ λi hi=>by
  rw[hW1,yN _ _ _ _ (by simp)]
  match i,hi with
  |0,_=>rfl
  |1,_=>rfl
  |2,_=>rfl
  |3,_=>rfl
  |4,_=>rfl
 have Uw:Hid (∀i,i<5->W1.cell? ⟨w.heap.size+1,i,a6⟩=a8 (.int .u8 ((λ_=>0:CR) i:Nat))/\W1.frozen? ⟨w.heap.size+1,i,a6⟩=b5):=yJ λi hi=>by
  obtain⟨a,b⟩:=HZ5.out i hi;exact⟨(hG1.cell (by show w.heap.size+1<_;omega)).trans a,(hG1.frozen (by show w.heap.size+1<_;omega)).trans b⟩
 have Sz:Hid (W1.cell? ⟨w.heap.size,0,a6⟩=a8 (a7 nA c.B3.length nc)/\W1.cell? ⟨w.heap.size,1,a6⟩=a8 (a7 hA c.B2.length hc)):=yJ
  ⟨(hG1.cell (by show w.heap.size<_;omega)).trans M8.out.1,(hG1.cell (by show w.heap.size<_;omega)).trans M8.out.2⟩
 have Qk:=yJ hW1;have hc0:w1.cell? ⟨w.heap.size,0,a6⟩=a8 (a7 nA c.B3.length nc):=(hg1.cell (by show w.heap.size<_;omega)).trans M8.out.1;have Gb:w.heap.size<w1.heap.size:=by omega
 have JE:=λw=>jY c.B3.length w (by omega);unfold Dr;go_wp2;rw[<-Qk.out];go_loopw [33] (λi wr=>∃k:Nat,k<=rs.length/\i=bb bc k/\Gr W1 wr/\W1.heap.size<wr.heap.size/\∀j,j<c.B3.length->wr.cell? ⟨W1.heap.size,j,a6⟩=a8 (bb bc (bC rs k j))/\wr.frozen? ⟨W1.heap.size,j,a6⟩=b5) (λi _=>rs.length-(bq i).toNat)
 case atStart =>
  refine⟨0,by omega,rfl,(Gr.refl W1).alloc _,by simp,λj hj=>⟨?_,?_⟩⟩
  .rw[yN _ _ _ _ (by simp),fC _ _ hj];rfl
  .rw[zD _ _ _ _ (by simp)]
 case round =>
  obtain⟨k,hk,rfl,hgr,YA,hcs⟩:=hrel;have E6:=yJ hgr;have LN:=yJ hcs;have hc0:=(hgr.cell (by show w.heap.size<_;omega)).trans Sz.out.1;have hgz:=hgr.size;by_cases hlt:k<rs.length
  .have SA:=yJ (HR.out.gr hB (Du.out.trans (DO.out.trans E6.out)));obtain⟨b,o,rfl,hb,h1,h2⟩:=SA.out.at_ hlt;have hro:=tD (HRE.out k hlt);have HWA:Hid (∀j:Nat,bC rs (k+1) j=if(rs[k]?.getD (0,0)).1=(j:Int) then(rs[k]?.getD (0,0)).2 else bC rs k j):=yJ λj=>rfl;generalize rs[k]?.getD (0,0)=x at h1 h2 hro HWA;obtain⟨xn,xv⟩:=x;obtain⟨r1,r2,r3⟩:=hro;dsimp only at h1 h2 r1 r2 r3 HWA;have HB1:Hid (∀W,bW B1 39 #[bb bc xn,bb bc 0,bb bc (c.B3.length-1)] W λe w'=>e=.returned (.bool b7)/\W=w'):=yJ λW=>by rw[<-r1];exact bS _ _ _ W
   have I5:Hid (∀W,bW B1 39 #[bb bc xv,bb bc 0,bb bc 60] W λe w'=>e=.returned (.bool b7)/\W=w'):=yJ λW=>by rw[<-r2];exact bS _ _ _ W
   obtain⟨j,rfl⟩:∃j:Nat,xn=j:=⟨xn.toNat,by simp[Ez] at r1;omega⟩;have Oz:j<c.B3.length:=by simp[Ez] at r1;omega
   obtain⟨W2,hW2⟩:∃W2:bh,W2=wr.alloc (.cells #[bb bc (j:Int),bb bc xv] 62):=⟨_,rfl⟩;have hg2:Gr wr W2:=hW2▸(Gr.refl wr).alloc _;have hz2:W2.heap.size=wr.heap.size+1:=by rw[hW2];simp
   have SC:W2.cell? ⟨wr.heap.size,0,a6⟩=a8 (bb bc j)/\W2.cell? ⟨wr.heap.size,1,a6⟩=a8 (bb bc xv):=by
    rw[hW2,yN _ _ _ _ rfl,yN _ _ _ _ rfl];exact⟨rfl,rfl⟩
   have acK:=rJ (a8 ⟨b,o,a6⟩) rc wr.heap.size j (rs.take k) W2 B (by omega) ((SA.out.take k).gr (by omega) hg2) (by simp;omega) (by omega) SC.1;have MX:(rs.take k).length=k:=by simp;omega
   rw[MX,r3] at acK;have YO:=yJ acK;have Vv:=yJ SC;have Gt:=yJ hg2;have Rc:=yJ hW2;have hwr:w.heap.size<wr.heap.size:=by omega
   have hkc:((k:Nat):Int)<=(rc:Int):=by omega
   go_wp2_with fail;refine(HB1.out _).mono ?_;rintro e w' ⟨rfl,rfl⟩;go_wp2_with fail;refine(I5.out _).mono ?_;rintro e w' ⟨rfl,rfl⟩;go_wp2_with fail;rw[<-Rc.out];refine YO.out.mono ?_;rintro e w3 ⟨rfl,hg3⟩;have Vw:=Gt.out.trans hg3;have Gu:=yJ Vw;have hz3:=hg3.size;have d0:w3.cell? ⟨wr.heap.size,0,a6⟩=a8 (bb bc j):=(hg3.cell (by show wr.heap.size<_;omega)).trans Vv.out.1;have d1:w3.cell? ⟨wr.heap.size,1,a6⟩=a8 (bb bc xv):=(hg3.cell (by show wr.heap.size<_;omega)).trans Vv.out.2
   have acL:∀i,i<c.B3.length->w3.cell? ⟨W1.heap.size,i,a6⟩=a8 (bb bc (bC rs k i))/\w3.frozen? ⟨W1.heap.size,i,a6⟩=false:=λi hi=>⟨(Vw.cell (by show W1.heap.size<_;omega)).trans (LN.out i hi).1,(Vw.frozen (by show W1.heap.size<_;omega)).trans (LN.out i hi).2⟩;have QO:=yJ acL;obtain⟨e1,e2⟩:=acL j Oz;rw[hz1] at e1 e2;have Vy:Hid (∀i,i<c.B3.length->(w3.setCell ⟨w1.heap.size+1,j,a6⟩ (bb bc xv)).cell? ⟨W1.heap.size,i,a6⟩=a8 (bb bc (bC rs (k+1) i))/\(w3.setCell ⟨w1.heap.size+1,j,a6⟩ (bb bc xv)).frozen? ⟨W1.heap.size,i,a6⟩=b5):=yJ λi hi=>by
    rw[zQ,HWA.out];refine⟨?_,(QO.out i hi).2⟩;rw[hz1];by_cases e:i=j
    .subst e;rw[yW _ _ _ e1,if_pos rfl]
    .rw[yP _ _ _ _ (by simp[Ne.symm e]),if_neg (by omega)];have:=(QO.out i hi).1
     rwa [hz1] at this
   have HGF:Hid (Gr W1 (w3.setCell ⟨w1.heap.size+1,j,a6⟩ (bb bc xv))):=yJ ((E6.out.trans Vw).setCell (p:=⟨w1.heap.size+1,j,a6⟩) (by show _<=w1.heap.size+1;omega) _);go_wp2;go_roundw
   case rel=>exact⟨k+1,by omega,by go_num,HGF.out,by simp[World.setCell];omega,Vy.out⟩
   case measure=>simp[Proofs.intOf];omega
  .have IE:k=rs.length:=by omega
   subst IE
   have Em:∀W:bh,wr.heap.size<=W.heap.size->(∀o,W.cell? ⟨w1.heap.size+1,o,a6⟩=wr.cell? ⟨w1.heap.size+1,o,a6⟩)->RI W W.heap.size (a8 ⟨w1.heap.size+1,0,a6⟩) (Dj c.B3.length rs rs.length):=λW hW hk _=>⟨_,0,rfl,by omega,λi x hx=>by
    have hi:i<c.B3.length:=by have:=(ze.1 hx).1;rwa [dV] at this
    rw[pQ hi] at hx;cases hx;rw[yZ,hk,<-hz1]
    exact(LN.out i hi).1⟩
   have KQ:=yJ Em;have M7:∀W:bh,wr.heap.size<=W.heap.size->(∀b o,b≠w.heap.size+1->W.cell? ⟨b,o,a6⟩=wr.cell? ⟨b,o,a6⟩)->DW W W.heap.size cb c nA hA nc hc:=λW hW hk =>
    (HK.out.keep (w':=W) (by omega) λb o hb=>(hk b o λe=>by rcases hb with h|h|h<;>omega).trans ((Sy.out.trans E6.out).cell (p:=⟨b,o,a6⟩) (HK.out.lt b hb))).O4
   have HCK:=yJ M7;have HPB:=yJ (λ(b o:Nat) (hb:b≠w.heap.size+1)=>zd (a:=⟨b,o,a6⟩) (jZ wr (w.heap.size+1) (.int .u8 (B7 ls 0:Nat)) (.int .u8 (B7 ls 1:Nat)) (.int .u8 (B7 ls 2:Nat)) (.int .u8 (B7 ls 3:Nat)) (.int .u8 (B7 ls 4:Nat)) hb));have HPZ:=yJ (lj wr (w.heap.size+1) (.int .u8 (B7 ls 0:Nat)) (.int .u8 (B7 ls 1:Nat)) (.int .u8 (B7 ls 2:Nat)) (.int .u8 (B7 ls 3:Nat)) (.int .u8 (B7 ls 4:Nat)))
   obtain⟨a0,a1,a2,a3,a4⟩:=JG (w:=wr) (b:=w1.heap.size) (r:=B7 ls) λi hi=>(E6.out.cell (by show w1.heap.size<_;omega)).trans (UF.out i hi);have NN:∀i,i<5->wr.cell? ⟨w.heap.size+1,i,a6⟩=a8 (.int .u8 ((λ_=>0:CR) i:Nat))/\wr.frozen? ⟨w.heap.size+1,i,a6⟩=false:=λi hi=>by
    obtain⟨a,b⟩:=Uw.out i hi;exact⟨(E6.out.cell (by show w.heap.size+1<_;omega)).trans a,(E6.out.frozen (by show w.heap.size+1<_;omega)).trans b⟩
   obtain⟨b0,c0⟩:=NN 0 (by omega);obtain⟨b1,c1⟩:=NN 1 (by omega);obtain⟨b2,c2⟩:=NN 2 (by omega);obtain⟨b3,c3⟩:=NN 3 (by omega);obtain⟨b4,c4⟩:=NN 4 (by omega);have Vo:=yJ (et (λi hi=>(NN i hi).1) (.int .u8 (B7 ls 0:Nat)) (.int .u8 (B7 ls 1:Nat)) (.int .u8 (B7 ls 2:Nat)) (.int .u8 (B7 ls 3:Nat)) (.int .u8 (B7 ls 4:Nat)));have Hk:=yJ (fS (Du.out.trans (DO.out.trans E6.out)) (b:=w.heap.size+1) (by omega) (.int .u8 (B7 ls 0:Nat)) (.int .u8 (B7 ls 1:Nat)) (.int .u8 (B7 ls 2:Nat)) (.int .u8 (B7 ls 3:Nat)) (.int .u8 (B7 ls 4:Nat)))
   obtain⟨Wf,hWf⟩:∃Wf:bh,Wf=F3 wr (w.heap.size+1) (.int .u8 (B7 ls 0:Nat)) (.int .u8 (B7 ls 1:Nat)) (.int .u8 (B7 ls 2:Nat)) (.int .u8 (B7 ls 3:Nat)) (.int .u8 (B7 ls 4:Nat)):=⟨_,rfl⟩;rw[<-hWf] at HPB HPZ Hk;have OB:=yJ (pS (HCK.out Wf (zP HPZ.out.symm) HPB.out));have Qg:=yJ (vG (KQ.out Wf (zP HPZ.out.symm) λo=>HPB.out _ o (by omega)));have HF0:=yJ Hk.out.drew;rw[hWf] at HF0 OB Qg
   unfold F3 at HF0 OB Qg;go_wp2;go_region
   all_goals
    go_wp2;obtain⟨s0,s1,s2,s3,s4⟩:=Vo.out;unfold F3 at s0 s1 s2 s3 s4;refine bodyPost_ret (v:=.tuple #[.pointer (a8 ⟨cb,0,a6⟩),Dr (B7 ls),.slice (a8 ⟨w1.heap.size+1,0,a6⟩) c.B3.length c.B3.length,bb bc 0]) (by simp[results,Tryz.results98,go_sem,Dr,s0,s1,s2,s3,s4]) rfl ⟨?_,cb,_,_,rfl,?_,?_⟩
    .exact HF0.out
    .exact OB.out
    .exact Qg.out
def vI (A:Option br)(c:Nat)(l:List Int)(w:bh)(B:Nat)(h:RI w B A l)(hB:B<=w.heap.size)(hl:l.length<=1048576) :
  bW B1 59 #[a7 A l.length c] w λe w'=>∃v,e=.returned v/\w'.ownsRow w.heap.size 3 1 v l.length (l.map (bb bc))/\Gr w w':=by
 obtain⟨i0,hi,hz0,hz1,hz2⟩:=bD Bv;have HR:=yJ h;have q22:∀(w:bh) (a:Option br) (n c n' c':Nat),(binOp .eql 22 (.slice a n c) (.slice a6 n' c')).run B1 w=.ok (.bool a.isNone) w:=λw a n c n' c'=>Lib.run_eql_slice_nil w _ _ a n c n' c' Sq.underlying22;cases A with
 |none =>
  have hl0:l=[]:=by
   cases l with
   |nil=>rfl
   |cons x l=>obtain⟨_,_,e,_⟩:=HR.out (by simp);cases e
  subst hl0;go_enter Sq.func59,Tryz.ntmps59;go_wp2;go_ret;exact⟨_,rfl,zF _ _ _ _,.refl _⟩
 |some ad =>
  have hcell:∀j u,(l.map (bb bc))[j]?=a8 u->w.cell? (ad.add j)=a8 u/\(ad.add j).block<w.heap.size:=λj u hj=>by
   rw[zL] at hj;cases hx:l[j]? with
   |none=>rw[hx] at hj;cases hj
   |some x =>
    rw[hx] at hj;obtain⟨b,o,e,hb,hc⟩:=HR.out (λe=>by rw[e] at hx;simp at hx);obtain rfl:ad=⟨b,o,a6⟩:=by injection e
    have e2:(⟨b,o,a6⟩:br).add j=⟨b,o+j,a6⟩:=bw _ _ _;rw[e2];exact⟨by rw[hc j x hx];exact hj,by show b<_;omega⟩
  have HC:=yJ hcell;go_enter Sq.func59,Tryz.ntmps59;go_wp2_with (at_builtin;refine CE rfl _ _ 22 rfl w.heap.size 3 i0 (bb bc 0) 1 8 Sq.underlying22 hi hz0 hz1 hz2 rfl (by decide) _ _ _ rfl (Bh w #[] 0 (yL _) (zf _) rfl) ad l.length c (l.map (bb bc)) rfl ?qc1 ?qc2 ?qc3 ?qc4 ?qc5 ?qc6 ?_)
  case qc1=>simp
  case qc2=>intro j u hj;exact(zd (Ar _ _ _ (HC.out j u hj).2)).trans (HC.out j u hj).1
  case qc3=>intro u hu;obtain⟨x,_,rfl⟩:=zu.1 hu;rfl
  case qc4=>unfold maxLen;omega
  case qc5=>omega
  case qc6=>simp
  intro v' w1 hown hgrow hd;have hG:=yJ (((Gr.refl w).alloc _).grown hgrow hd (by intro k hk;simp[b6] at hk;omega));have hO:=yJ hown;go_wp2;go_ret;exact⟨v',rfl,by simpa using hO.out,hG.out⟩
def BD:(B1.info? 28).map (λi=>(i.zero,i.size,i.bytes))=a8 (a8 (.agg #[bb bc 0,bb bc 0,bb bc 0,.slice a6 0 0]),4,48):=by
 rw[Br];kernel_rfl
def GZ (w:bh)(b o n:Nat):List Value:=(bk (n*4)).map λj=>(w.cell? ⟨b,o+j,a6⟩).getD (bb bc 0)
def fD {w:bh}{b o n j:Nat}(hj:j<n*4):(GZ w b o n)[j]?=a8 ((w.cell? ⟨b,o+j,a6⟩).getD (bb bc 0)):=by simp[GZ,hj]
def FX (w:bh)(b o n:Nat):(GZ w b o n).length=n*4:=by simp[GZ]
def hcell {w:bh}{B b o:Nat}{l:List CF}(hc:∀(i:Nat) (h:CF),l[i]?=a8 h->NU w B b (o+i*4) h){j:Nat}(hj:j<l.length*4):∃u,w.cell? ⟨b,o+j,a6⟩=a8 u/\u.oneCell'=true:=by
 obtain⟨h1,h2,h3,A,c,h4,_⟩:=hc (j / 4) _ (yM (show j / 4<l.length by omega));have:j % 4=0\/j % 4=1\/j % 4=2\/j % 4=3:=by omega
 rcases this with e|e|e|e
 .rw[show o+j=o+j / 4*4 by omega];exact⟨_,h1,rfl⟩
 .rw[show o+j=o+j / 4*4+1 by omega];exact⟨_,h2,rfl⟩
 .rw[show o+j=o+j / 4*4+2 by omega];exact⟨_,h3,rfl⟩
 .rw[show o+j=o+j / 4*4+3 by omega];exact⟨_,h4,rfl⟩
def tF (b o c:Nat)(l:List CF)(w:bh)(B:Nat)(hb:b<B)(hB:B<=w.heap.size)(hc:∀(i:Nat) (h:CF),l[i]?=a8 h->NU w B b (o+i*4) h)(hn:0<l.length)(hl:l.length<=1048576) :
  bW B1 57 #[.slice (a8 ⟨b,o,a6⟩) l.length c] w λe w'=>∃g cap,e=.returned (.slice (a8 ⟨g,0,a6⟩) l.length cap)/\Gr w w'/\w.heap.size<=g/\g<w'.heap.size/\(∀i,w'.frozen? ⟨g,i,a6⟩=b5) /\
   ∀(i:Nat) (h:CF),l[i]?=a8 h->NU w' B g (i*4) h:=by
 obtain⟨i0,hi,hz0,hz1,hz2⟩:=bD BD;have HC:=yJ hc;have q22:∀(w:bh) (a:Option br) (n c n' c':Nat),(binOp .eql 23 (.slice a n c) (.slice a6 n' c')).run B1 w=.ok (.bool a.isNone) w:=λw a n c n' c'=>Lib.run_eql_slice_nil w _ _ a n c n' c' Sq.underlying23;go_enter Sq.func57,Tryz.ntmps57;go_wp2_with (at_builtin;refine CE rfl _ _ 23 rfl w.heap.size 28 i0 _ 4 48 Sq.underlying23 hi hz0 hz1 hz2 rfl (by decide) _ _ _ rfl (Bh w #[] 0 (yL _) (zf _) rfl) ⟨b,o,a6⟩ l.length c (GZ w b o l.length) rfl ?qc1 ?qc2 ?qc3 ?qc4 ?qc5 ?qc6 ?_)
 case qc1=>exact FX _ _ _ _
 case qc2 =>
  intro j u hj;have hlt:j<l.length*4:=by have:=(ze.1 hj).1;rwa [FX] at this
  rw[fD hlt] at hj;obtain⟨v,hv,_⟩:=hcell HC.out hlt;rw[hv] at hj;rw[bw,zd (Ar _ _ _ (show b<w.heap.size by omega)),hv];exact hj
 case qc3 =>
  intro u hu;obtain⟨j,hj,rfl⟩:=zu.1 hu;obtain⟨v,hv,h1⟩:=hcell HC.out (zB.1 hj);rw[hv];exact h1
 case qc4=>unfold maxLen;omega
 case qc5=>omega
 case qc6=>simp
 intro v' w1 hown hgrow hd;have hG:=yJ (((Gr.refl w).alloc _).grown hgrow hd (by intro k hk;simp[b6] at hk;omega));have hown:w1.ownsRow w.heap.size 28 4 v' l.length (GZ w b o l.length):=by simpa using hown
 obtain⟨g,cap,rfl,_,_⟩:=hown.form hn;have hO:=yJ hown;go_wp2;go_ret;refine⟨g,cap,rfl,hG.out,(hO.out.lt g rfl).1,(hO.out.lt g rfl).2,λi=>?_,λi h hi=>?_⟩
 .rcases hO.out.2 with⟨h,_⟩|⟨g',c',cur,h,_,hb,_⟩
  .cases h
  .obtain⟨rfl⟩:g=g':=by injection h with h1;injection h1 with h2;injection h2
   simp[bA,hb]
 .have YP:i<l.length:=(ze.1 hi).1;have key:∀k u,k<4->w.cell? ⟨b,o+i*4+k,a6⟩=a8 u->w1.cell? ⟨g,i*4+k,a6⟩=a8 u:=λk u hk hu=>by
   have hlt:i*4+k<l.length*4:=by omega
   have:=hO.out.cells (g:=g) rfl (i*4+k) u (by rw[fD hlt,<-AJ,hu];rfl)
   rwa [bw,yZ] at this
  obtain⟨h1,h2,h3,A,c',h4,h5⟩:=HC.out i h hi;exact⟨key 0 _ (by omega) h1,key 1 _ (by omega) h2,key 2 _ (by omega) h3,A,c',key 3 _ (by omega) h4,h5.gr hB hG.out⟩
def Gf (h:CF)(A:Option br)(c:Nat):List Value:=[bb bc h.heads,bb bc h.Dd,bb bc h.most,a7 A h.off.length c,bb bc h.heads]
def BS:(B1.info? 198).map (λi=>(i.zero,i.size,i.bytes))=a8 (a8 (.agg #[bb bc 0,bb bc 0,bb bc 0,.slice a6 0 0,bb bc 0]),5,56):=by
 rw[Br];kernel_rfl
def xl {w:bh}{ops:Array Oper}{rest:List Oper}{o:Oper}{a:Act}{Q:Exit->Act->bh->Prop}(hgd:o.guard=a6)(s x:Operand)(ho:o.op=.call { callee:=.builtin .append,args:=#[s,x],argTypes:=#[194,194] })
  (base:Nat) (v:bo) (n:Nat) (xs:List bo) (hs:a.eval s=v) (hown:w.ownsRow base 198 5 v n xs) (ad:br) (c:Nat) (news:List bo) (hx:a.eval x=.slice (a8 ad) 1 c) (h5:news.length=5) (hc:∀(j:Nat) (u:bo),news[j]?=a8 u->w.cell? (ad.add j)=a8 u) (h1:∀u∈news,u.oneCell'=b7)
  (hn:n<=1048576) (hbase:base<=w.heap.size) (h:∀v' w',w'.ownsRow base 198 5 v' (n+1) (xs++news)->w.grownBy w' v.ownBlock->w.drawn<=w'.drawn->wpList B1 ops Q rest (a.put o.dst v') w'):wpList B1 ops Q (o::rest) a w:=by
 obtain⟨i0,hi,hz0,hz1,hz2⟩:=bD BS;exact CE hgd s x 194 ho base 198 i0 _ 5 56 ((Sq.underlying 194).trans Tryz.underlying194) hi hz0 hz1 hz2 rfl (by decide) v n xs hs hown ad 1 c news hx (by omega) hc h1 (by unfold maxLen;omega) (by omega) hbase h
def tG (cb:Nat)(nA hA:Option br)(nc hc:Nat)(c:Cc)(w:bh)(B:Nat)(hB:B<=w.heap.size)(h:DW w B cb c nA hA nc hc)(hl:c.B2.length<=1048576) :
  bW B1 136 #[.pointer (a8 ⟨cb,0,a6⟩)] w λe w'=>∃v xs,e=.returned v/\w'.ownsRow w.heap.size 198 5 v c.B2.length xs/\Gr w w'/\∀i,i<c.B2.length->∃A m,∀j,j<5->xs[i*5+j]?=(Gf (c.h i) A m)[j]?:=by
 have hc1:=h.c1;have hlt:=h.lt;have HH:=yJ h.DI;go_enter Sq.func136,Tryz.ntmps136;go_wp2;go_loopw [3,13] (λv i wr=>∃k:Nat,k<=c.B2.length/\i=bb bc k/\Gr w wr/\∃xs,wr.ownsRow w.heap.size 198 5 v k xs/\∀i,i<k->∃A m,∀j,j<5->xs[i*5+j]?=(Gf (c.h i) A m)[j]?) (λ_ i _=>c.B2.length-(bq i).toNat)
 case atStart=>exact⟨0,by omega,rfl,.refl _,[],zF _ _ _ _,λi hi=>absurd hi (by omega)⟩
 case round =>
  obtain⟨k,hk,rfl,hg,xs,hown,Vh⟩:=hrel;have HG:=yJ hg;have HX:=yJ Vh;by_cases ahx:k<c.B2.length
  .obtain⟨b,o,rfl,hb,h0,h1,h2,A_,m,h3,_⟩:=(HH.out.keep (w':=wr) λb o hb=>HG.out.cell (yO hb hB)).at_ ahx;have hz:=HG.out.size;go_wp2_with (at_builtin;refine xl rfl _ _ rfl w.heap.size _ _ _ rfl ((hown.alloc _).alloc _ |>.alloc _) ⟨wr.heap.size+1+1,0,a6⟩ 1 (Gf (c.h k) A_ m) rfl rfl ?c1 ?c2 ?c3 ?c4 ?_)
   case c1 =>
    intro j u hj;rw[bw,yZ,yN _ _ _ _ (by simp)]
    match j,hj with
    |0,hj=>exact hj
    |1,hj=>exact hj
    |2,hj=>exact hj
    |3,hj=>exact hj
    |4,hj=>exact hj
    |j+5,hj=>simp[Gf] at hj
   case c2=>intro u hu;simp[Gf] at hu;rcases hu with rfl|rfl|rfl|rfl|rfl<;>rfl
   case c3=>omega
   case c4=>simp;omega
   intro v' w3 hown' hgrow hd;have Gu:=yJ ((((HG.out.alloc _).alloc _).alloc _).grown hgrow hd λq hq=>(hown.lt q hq).1);have hlen:xs.length=k*5:=hown.1;have HX3:Hid (∀i,i<k+1->∃A m',∀j,j<5->(xs++Gf (c.h k) A_ m)[i*5+j]?=(Gf (c.h i) A m')[j]?):=yJ λi hi=>by
    rcases zC i k with h|h
    .obtain⟨A',m',hh⟩:=HX.out i h;exact⟨A',m',λj hj=>by rw[zo (by omega)];exact hh j hj⟩
    .obtain rfl:i=k:=by omega
     exact⟨A_,m,λj hj=>by rw[zv (by omega),hlen];congr 1;omega⟩
   have Qe:=yJ hown';go_wp2;go_roundw
   case rel=>exact⟨k+1,by omega,by go_num,Gu.out,_,Qe.out,HX3.out⟩
   case measure=>simp[Proofs.intOf];omega
  .have FA:k=c.B2.length:=by omega
   subst FA;have HO:=yJ hown;go_wp2;go_ret;exact⟨_,xs,rfl,HO.out,HG.out,HX.out⟩
structure Ql (w:bh)(g:Nat)(l:List Int):Prop where
 lt:g<w.heap.size
 left:∀(i:Nat) (x:Int),l[i]?=a8 x->w.cell? ⟨g,i*5+4,a6⟩=a8 (bb bc x)
 free:∀o,w.frozen? ⟨g,o,a6⟩=b5
 rest:∀(i:Nat) (x:Int),l[i]?=a8 x->∃(n0 n1 n2:Int) (A:Option br) (m c:Nat),w.cell? ⟨g,i*5,a6⟩=a8 (bb bc n0)/\w.cell? ⟨g,i*5+1,a6⟩=a8 (bb bc n1)/\w.cell? ⟨g,i*5+2,a6⟩=a8 (bb bc n2)/\w.cell? ⟨g,i*5+3,a6⟩=a8 (a7 A m c)
def Ql.ahy {w:bh}{g:Nat}{l:List Int}(h:Ql w g l):Su w w.heap.size (a8 ⟨g,0,a6⟩) l:=λ_=>⟨g,0,rfl,h.lt,λi x hx=>by
 simp only[yZ]
 exact⟨h.left i x hx,h.rest i x hx⟩⟩
def Ql.keep {w w':bh}{g:Nat}{l:List Int}(h:Ql w g l)(hz:w.heap.size<=w'.heap.size)(hk:w'.heap[g]?=w.heap[g]?):Ql w' g l:=by
 have e:∀o,w'.cell? ⟨g,o,a6⟩=w.cell? ⟨g,o,a6⟩:=λo=>zd hk;refine⟨yO h.lt hz,λi x hx=>(e _).trans (h.left i x hx),λo=>(An hk).trans (h.free o),λi x hx=>?_⟩;obtain⟨n0,n1,n2,A,m,c,h0,h1,h2,h3⟩:=h.rest i x hx;exact⟨n0,n1,n2,A,m,c,(e _).trans h0,(e _).trans h1,(e _).trans h2,(e _).trans h3⟩
def Ql.set {w:bh}{g:Nat}{l:List Int}(h:Ql w g l){k:Nat}(hk:k<l.length)(y:Int):Ql (w.setCell ⟨g,k*5+4,a6⟩ (bb bc y)) g (l.set k y):=by
 have hz:(w.setCell ⟨g,k*5+4,a6⟩ (bb bc y)).heap.size=w.heap.size:=by simp[bn]
 have old:∀i x,(l.set k y)[i]?=a8 x->∃x',l[i]?=a8 x':=λi x hx=>by
  have:=(ze.1 hx).1;rw[Bc] at this;exact⟨_,yM this⟩
 refine⟨by rw[hz];exact h.lt,λi x hx=>?_,λo=>(zQ _ _ _ _).trans (h.free o),λi x hx=>?_⟩
 .by_cases e:i=k
  .subst e;rw[List.getElem?_set_self hk] at hx;cases hx;exact yW _ _ _ (h.left i _ (yM hk))
  .rw[AS (Ne.symm e)] at hx;rw[yP _ _ _ _ (by simp<;>omega)];exact h.left i x hx
 .obtain⟨x',KY⟩:=old i x hx;obtain⟨n0,n1,n2,A,m,c,h0,h1,h2,h3⟩:=h.rest i x' KY;refine⟨n0,n1,n2,A,m,c,?_,?_,?_,?_⟩
  all_goals rw[yP _ _ _ _ (by simp<;>omega)]
  .exact h0
  .exact h1
  .exact h2
  .exact h3
def aM:List (Int×Int)->List bo
 |[]=>[]
 |p::l=>bb bc p.1::bb bc p.2::aM l
def lN (l m:List (Int×Int)):aM (l++m)=aM l++aM m:=by
 induction l with
 |nil=>rfl
 |cons p l ih=>simp[aM,ih]
def ir {l:List (Int×Int)}{i:Nat}(h:i<l.length):(aM l)[i*2]?=a8 (bb bc (l[i]?.getD (0,0)).1)/\(aM l)[i*2+1]?=a8 (bb bc (l[i]?.getD (0,0)).2):=by
 induction l generalizing i with
 |nil=>simp at h
 |cons p l ih =>
  cases i with
  |zero=>exact⟨rfl,rfl⟩
  |succ i =>
   have:=ih (i:=i) (by simpa using h);rw[Nat.succ_mul];simpa [aM] using this
def BT:(B1.info? 165).map (λi=>(i.zero,i.size,i.bytes))=a8 (a8 (.agg #[bb bc 0,bb bc 0]),2,16):=by
 rw[Br];kernel_rfl
def xm {w:bh}{ops:Array Oper}{rest:List Oper}{o:Oper}{a:Act}{Q:Exit->Act->bh->Prop}(hgd:o.guard=a6)(s x:Operand)(ho:o.op=.call { callee:=.builtin .append,args:=#[s,x],argTypes:=#[162,162] })
  (base:Nat) (v:bo) (n:Nat) (xs:List bo) (hs:a.eval s=v) (hown:w.ownsRow base 165 2 v n xs) (ad:br) (c:Nat) (u1 u2:bo) (hx:a.eval x=.slice (a8 ad) 1 c) (hc1:w.cell? (ad.add 0)=a8 u1) (hc2:w.cell? (ad.add 1)=a8 u2) (h1:u1.oneCell'=b7) (h2:u2.oneCell'=b7)
  (hn:n<=1048576) (hbase:base<=w.heap.size) (h:∀v' w',w'.ownsRow base 165 2 v' (n+1) (xs++[u1,u2])->w.grownBy w' v.ownBlock->w.drawn<=w'.drawn->wpList B1 ops Q rest (a.put o.dst v') w'):wpList B1 ops Q (o::rest) a w:=by
 obtain⟨i0,hi,hz0,hz1,hz2⟩:=bD BT;refine CE hgd s x 162 ho base 165 i0 _ 2 16 ((Sq.underlying 162).trans Tryz.underlying162) hi hz0 hz1 hz2 rfl (by decide) v n xs hs hown ad 1 c [u1,u2] hx rfl (λj u hj=>?_) (λu hu=>?_) (by unfold maxLen;omega) (by omega) hbase h
 .match j,hj with
  |0,hj=>cases hj;exact hc1
  |1,hj=>cases hj;exact hc2
 .simp only[yT,yQ,or_false] at hu;rcases hu with rfl|rfl
  .exact h1
  .exact h2
def tH (cb:Nat)(nA hA A:Option br)(nc hc wc:Nat)(c:Cc)(r:CR)(ws:List Int)(w:bh)(h:DW w w.heap.size cb c nA hA nc hc)(Dx:c.Ok)(hr:∀i,c.has (r i))(hws:∀x∈ws,0<=x/\x<=60)(hw5:ws.length<=5)(hw:RI w w.heap.size A ws) :
  bW B1 99 #[.pointer (a8 ⟨cb,0,a6⟩),Dr r,a7 A ws.length wc] w λe w'=>∃v,e=.returned v/\w'.ownsRow (w.heap.size+1) 165 2 v (Ei c r ws).length (aM (Ei c r ws))/\Gr w w':=by
 obtain⟨W0,hW0⟩:∃W0:bh,W0=w.alloc (.cells #[.int .u8 (r 0),.int .u8 (r 1),.int .u8 (r 2),.int .u8 (r 3),.int .u8 (r 4)] 76):=⟨_,rfl⟩;have hg0:Gr w W0:=hW0▸(Gr.refl w).alloc _;have hz0:W0.heap.size=w.heap.size+1:=by rw[hW0];simp
 have Vz:DW W0 W0.heap.size cb c nA hA nc hc:=h.on hg0;have acO:=yJ (tG cb nA hA nc hc c W0 W0.heap.size (yL _) Vz (by have:=Dx.h4;omega));have SD:=yJ Vz;have UF:Hid (∀i,i<5->W0.cell? ⟨w.heap.size,i,a6⟩=a8 (.int .u8 (r i:Nat))):=yJ λi hi=>by
  rw[hW0,yN _ _ _ _ (by simp)]
  match i,hi with
  |0,_=>rfl
  |1,_=>rfl
  |2,_=>rfl
  |3,_=>rfl
  |4,_=>rfl
 have KQ:=yJ (hw.gr (yL _) hg0);have HW:=yJ hW0;have Du:=yJ hg0;have FQ:=yJ Dx;have HR:=yJ hr;have HWS:=yJ hws;clear hW0 hg0 Vz h Dx hr hws hw;unfold Dr;go_enter Sq.func99,Tryz.ntmps99;go_wp2_with fail;rw[<-HW.out];refine acO.out.mono ?_;rintro e w1 ⟨v1,xs,rfl,hown,hg1,Vh⟩;have h1:=FQ.out.h1;obtain⟨g,cap,rfl,Jn⟩:∃g cap,v1=.slice (a8 ⟨g,0,a6⟩) c.B2.length cap/\W0.heap.size<=g:=by
  rcases hown.2 with⟨_,h0⟩|⟨g,cap,cur,rfl,h2,_⟩
  .omega
  .exact⟨g,cap,rfl,h2⟩
 have hoW:Ql w1 g (CB c r ws 0).1:=by
  have hl0:(CB c r ws 0).1=c.B2.map (·.heads):=rfl;have hcell:=hown.cells (g:=g) rfl;have e5:∀i x,(CB c r ws 0).1[i]?=a8 x->∃A m,x=(c.h i).heads/\∀j,j<5->∀u,(Gf (c.h i) A m)[j]?=a8 u->w1.cell? ⟨g,i*5+j,a6⟩=a8 u:=λi x hx=>by
   rw[hl0] at hx;have YP:i<c.B2.length:=by have:=(ze.1 hx).1;simpa using this
   obtain⟨A',m,hh⟩:=Vh i YP;refine⟨A',m,?_,λj hj u hu=>?_⟩
   .rw[zL,yM YP] at hx;cases hx;unfold Cc.h;rw[yM YP];rfl
   .have:=hcell (i*5+j) u ((hh j hj).trans hu);have e:(⟨g,0,a6⟩:br).add (i*5+j)=⟨g,0+(i*5+j),a6⟩:=by unfold Addr.add;split<;>simp_all
    rw[e,yZ] at this;exact this
  refine⟨(hown.lt g rfl).2,λi x hx=>?_,λo=>?_,λi x hx=>?_⟩
  .obtain⟨A',m,rfl,hc⟩:=e5 i x hx;exact hc 4 (by omega) _ rfl
  .rcases hown.2 with⟨hb,_⟩|⟨g2,Oc,cur,e2,_,hb,_⟩
   .cases hb
   .have e3:g=g2:=by injection e2 with a;injection a with a;injection a
    subst e3;unfold bA;rw[hb];simp
  .obtain⟨A',m,rfl,hc⟩:=e5 i x hx;exact⟨_,_,_,_,_,_,hc 0 (by omega) _ rfl,hc 1 (by omega) _ rfl,hc 2 (by omega) _ rfl,hc 3 (by omega) _ rfl⟩
 have HOW:=yJ hoW;have DO:=yJ hg1;have ahz:=(hown.lt g rfl).2;have hz1:=hg1.size;clear hown hg1 Vh hoW acO;go_wp2;go_loopw [7,16] (λv i wr=>∃k:Nat,k<=ws.length/\i=bb bc k/\Gr W0 wr/\Ql wr g (CB c r ws k).1/\wr.ownsRow w1.heap.size 165 2 v (CB c r ws k).2.length (aM (CB c r ws k).2)/\w1.heap.size<=wr.heap.size) (λ_ i _=>ws.length-(bq i).toNat)
 case atStart=>exact⟨0,by omega,rfl,DO.out,HOW.out,zF _ _ _ _,yL _⟩
 case round =>
  obtain⟨wq,rfl⟩:∃wq,wq=wr:=⟨_,rfl⟩;obtain⟨k,hk,rfl,hgr,hoq,hown,hzq⟩:=hrel;have E6:=yJ hgr;have HOQ:=yJ hoq;have HON:=yJ hown;by_cases hlt:k<ws.length
  .obtain⟨b,o,rfl,hb,hcw⟩:=(KQ.out.gr (by omega) hgr).at_ hlt;have UE:wq.cell? ⟨w.heap.size,k,a6⟩=a8 (.int .u8 (r k:Nat)):=(hgr.cell (by show w.heap.size<_;omega)).trans (UF.out k (by omega));have HD:=yJ (qB cb c (r k) wq (SD.out.on hgr) FQ.out.h4 FQ.out.Dd (HR.out k));have hdb:=O1 c (HR.out k) FQ.out.Dd (c.JW (r k)).length;rw[AT,<-BM] at hdb;have hx:=HWS.out _ (EK ws k hlt)
   have HTM:=yJ (show Kf c r ws k=(ws[k]?.getD 0-c.Dd (r k)).toNat from rfl);obtain⟨T,hT⟩:∃T,T=Kf c r ws k:=⟨_,rfl⟩;rw[<-hT] at HTM;have HTT:=yJ hT;have acP:=FU.all FQ.out (r:=r) (ws:=ws) (yL _) k hk;have Qd:=yJ acP;generalize c.Dd (r k)=D at HD hdb HTM;generalize ws[k]?.getD 0=x at hcw hx HTM;have hmax:(max 0 (x-D):Int)=(T:Int):=by rw[HTM.out];omega
   have hmax':(if(x-D)<0 then(0:Int) else x-D)=(T:Int):=by rw[HTM.out];split<;>omega
   have hT60:T<=60:=by rw[HTM.out];omega
   clear hgr hoq hown hT acP;go_wp2_with fail;refine HD.out.mono ?_;rintro e w2 ⟨rfl,hg2⟩;have Gt:=yJ (E6.out.trans hg2);have ahA:=hg2;have hz2:=hg2.size;have ahB:=yJ (HOQ.out.keep hg2.size (hg2.below.block g HOQ.out.lt));have ahC:=yJ (al HON.out λq _ hl=>hg2.below.block q hl);have hgT:(T:Int)<=60:=by omega
   clear hg2 ahA HD;go_wp2;go_loopw [7,29] (λv i wr=>∃m:Nat,m<=T/\i=bb bc m/\Gr W0 wr/\Ql wr g (Ds k (CB c r ws k) m).1/\wr.ownsRow w1.heap.size 165 2 v (Ds k (CB c r ws k) m).2.length (aM (Ds k (CB c r ws k) m).2)/\w1.heap.size<=wr.heap.size) (λ_ i _=>T-(bq i).toNat)
   case atStart=>exact⟨0,by omega,rfl,Gt.out,ahB.out,ahC.out,by omega⟩
   case round =>
    obtain⟨m,hm,rfl,Ml,hoi,acQ,YB⟩:=hrel;have JY:=yJ Ml;have SE:=yJ hoi;have SF:=yJ acQ;clear Ml hoi acQ;by_cases hlm:m<T
    .have DN:=Qd.out.it (d:=k) hlt m;have HLI:=yJ DN;obtain⟨S,hS⟩:∃S,S=Ds k (CB c r ws k) m:=⟨_,rfl⟩;have LL:Hid (Ds k (CB c r ws k) (m+1)=dP k S):=yJ (by rw[hS];rfl);rw[<-hS] at SE SF HLI;have HST:=yJ (λh:C2 S.1 S.1.length<0=>(nM (c:=c) (r:=r) (ws:=ws) (k:=k) (m:=m) hlt (by rw[<-HTT.out];omega) (by rw[<-hS];exact h)).trans (by rw[<-hS]));have Lq:=yJ (xj (a8 ⟨g,0,a6⟩) cap S.1 wr wr.heap.size (yL _) SE.out.ahy (by rw[HLI.out.len];have:=FQ.out.h4;omega))
     have hlen:=HLI.out.len
     have ahD:=yJ (show S.2.length<=160 by
      have h1:=FI 0 40 _ HLI.out.low;have h2:=HLI.out.count
      omega)
     have hml:=jt S.1 S.1.length;have Ni:Hid (dP k S=if C2 S.1 S.1.length<0 then S else(S.1.set (C2 S.1 S.1.length).toNat (S.1[(C2 S.1 S.1.length).toNat]?.getD 0-1),S.2++[((k:Int),C2 S.1 S.1.length)])):=yJ rfl;rw[hlen] at Lq HST Ni hml;have hS':=yJ hS;clear hS DN;generalize C2 S.1 c.B2.length=q at Lq HST Ni hml;by_cases hq:q<0
     .have HLL:=yJ (HST.out hq);have hqd:decide (q<0)=true:=by simpa using hq
      clear HST Ni;go_wp2_with fail;refine Lq.out.mono ?_;rintro e w3 ⟨rfl,hg3⟩;have Gu:=yJ hg3;have SG:=yJ (al SF.out λq _ hl=>hg3.below.block q hl);clear hg3 Lq;go_wp2;go_ret;refine⟨_,rfl,?_,Du.out.trans (JY.out.trans Gu.out)⟩;rw[HLL.out];exact Dp SG.out (by omega)
     .obtain⟨j,rfl⟩:∃j:Nat,q=j:=⟨q.toNat,by omega⟩;have HSS:=yJ (LL.out.trans (Ni.out.trans (if_neg hq)));rw[AM] at HSS;have Xj:j<S.1.length:=by omega
      have IB:=HLI.out.low _ (EK S.1 j Xj);have HLF:=yJ (SE.out.left j _ (yM Xj));have hqd:decide ((j:Int)<0)=false:=by simp
      clear HST Ni LL hq;go_wp2_with fail;refine Lq.out.mono ?_;rintro e w3 ⟨rfl,hg3⟩;have Gu:=yJ hg3;have hb3:=hg3.below.block g SE.out.lt;have SG:=yJ (al SF.out λq _ hl=>hg3.below.block q hl);have VA:=yJ (SE.out.keep hg3.size hb3);have hz3:=hg3.size;have hcell:w3.cell? ⟨g,j*5+4,a6⟩=a8 (bb bc (S.1[j]?.getD 0)):=by
       rw[yM Xj];exact VA.out.left j _ (yM Xj)
      have hfz:=VA.out.free (j*5+4);have HX:Hid (Ql (w3.setCell ⟨g,j*5+4,a6⟩ (bb bc (S.1[j]?.getD 0-1))) g (S.1.set j (S.1[j]?.getD 0-1))):=yJ (VA.out.set Xj _);generalize S.1[j]?.getD 0=y at IB hcell HX HSS;have hjh:j<c.B2.length:=by omega
      have hglt:g<w3.heap.size:=VA.out.lt;have hgz:g<w1.heap.size:=ahz;clear hg3 Lq;go_wp2_with (at_builtin;refine xm rfl _ _ rfl w1.heap.size _ _ _ rfl ((ownsRow_setCell_below SG.out (by show g<_;omega) _).alloc _) ⟨w3.heap.size,0,a6⟩ 1 (bb bc k) (bb bc j) rfl ?c1 ?c2 rfl rfl ?c3 ?c4 ?_)
      case c1=>rw[Addr.add_lit,yN _ _ _ _ (by simp)];rfl
      case c2=>rw[Addr.add_lit,yN _ _ _ _ (by simp)];rfl
      case c3=>have:=ahD.out;omega
      case c4=>simp;omega
      intro v' w4 hown' hgrow hd;have YQ:=hgrow.size;simp only[AR] at YQ;have ahE:Gr W0 w4:=(((JY.out.trans Gu.out).setCell (p:=⟨g,j*5+4,a6⟩) (by show _<=g;omega) (bb bc (y-1))).alloc _).grown hgrow hd λq hq=>by have:=(SG.out.lt q hq).1;omega
      have hne:a8 g≠_:=ef SG.out hgz;have Iz:=(hgrow.block g (by simp[bn];omega) hne).trans (heap_alloc_old _ _ (by simp[bn];omega));have ahF:=yJ (HX.out.keep (w':=w4) (by simp[bn] at YQ ⊢;omega) Iz);have ahG:=yJ ahE;have Xk:Hid ((Ds k (CB c r ws k) (m+1)).2.length=S.2.length+1/\aM (Ds k (CB c r ws k) (m+1)).2=aM S.2++[bb bc k,bb bc j]):=yJ (by rw[HSS.out,lN];exact⟨by simp,rfl⟩)
      have HO4:Hid (w4.ownsRow w1.heap.size 165 2 v' (Ds k (CB c r ws k) (m+1)).2.length (aM (Ds k (CB c r ws k) (m+1)).2)):=yJ (by rw[Xk.out.1,Xk.out.2];exact hown');have HX4:Hid (Ql w4 g (Ds k (CB c r ws k) (m+1)).1):=yJ (by rw[HSS.out];exact ahF.out);have hz4:w1.heap.size<=w4.heap.size:=by simp[bn] at YQ;omega
      go_wp2;go_roundw
      case rel=>exact⟨m+1,by omega,by go_num,ahG.out,HX4.out,HO4.out,hz4⟩
      case measure=>simp[Proofs.intOf];omega
    .have hmt:m=T:=by omega
     have HE:Hid (CB c r ws (k+1)=Ds k (CB c r ws k) m):=yJ (by rw[hmt,HTT.out];rfl);rw[<-HE.out] at SE SF;subst hmt;go_wp2;go_roundw
     case rel=>exact⟨k+1,by omega,by go_num,JY.out,SE.out,SF.out,YB⟩
     case measure=>simp[Proofs.intOf];omega
  .have IE:k=ws.length:=by omega
   subst IE;go_wp2;go_ret;exact⟨_,rfl,Dp HON.out (by omega),Du.out.trans E6.out⟩
end Go.Sq
