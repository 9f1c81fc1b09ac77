/- Parts of the proof. -/
import Derived.Test.YtoeoefobdjociaaGreatP15
import Derived.Shelf.Slices.Clone
set_option linter.all false
set_option maxHeartbeats 3200000
set_option maxRecDepth 1000000
open Option renaming none->Z,some->J
open Go.Value renaming slice->Y,int->U,pointer->R,ownBlock->ak
open Go.IntKind renaming i64->I
open Go renaming World->X,Value->C,Addr->O,info_parts->V,Calls->L
open List renaming range->F
open Go.World renaming setCell->N,frozen?->H
open Go.Proofs renaming intOf->E
open Go.Addr renaming add_lit->G
open Bool renaming false->f,true->bb
namespace Go.Sq
def KO (n:Nat)(rs:List (Int×Int))(k:Nat):Int :=
 if FC (rs[k]?.getD (0,0)).1 0 (n-1)=f then 3 else if FC (rs[k]?.getD (0,0)).2 0 60=f then 1 else if(rs.take k).any (·.1==(rs[k]?.getD (0,0)).1)=bb then 4 else 0
def iz (n:Nat)(rs:List (Int×Int)):Int:=bF ((F rs.length).map (KO n rs))
def bE (rs:List (Int×Int)):Nat->Nat->Int
 |0,_=>0
 |k+1,j=>if(rs[k]?.getD (0,0)).1=j then(rs[k]?.getD (0,0)).2 else bE rs k j
def E8 (n:Nat)(rs:List (Int×Int))(k:Nat):List Int:=(F n).map (bE rs k)
def ee (n:Nat)(rs:List (Int×Int))(k:Nat):(E8 n rs k).length=n:=by simp[E8]
def qh {n:Nat}{rs:List (Int×Int)}{k j:Nat}(hj:j<n):(E8 n rs k)[j]?=J (bE rs k j):=by simp[E8,hj]
def nO {n:Nat}{rs:List (Int×Int)}(h:∀k,k<rs.length->KO n rs k=0)(k j:Nat)(hk:k<=rs.length):0<=bE rs k j/\bE rs k j<=60:=by
 induction k with
 |zero=>simp[bE]
 |succ k ih =>
  have:=h k (by omega);unfold bE;split
  .unfold KO at this;split at this
   .omega
   .split at this
    .omega
    .rename_i h1 h2;simp[FC] at h2;omega
  .exact ih (by omega)
def dU (n:Int)(s:List Int×List (Int×Int)):List Int×List (Int×Int) :=
 if EP s.1 s.1.length<0 then s else(s.1.set (EP s.1 s.1.length).toNat (s.1[(EP s.1 s.1.length).toNat]?.getD 0-1),s.2++[(n,EP s.1 s.1.length)])
def Fj (n:Int)(s:List Int×List (Int×Int)):Nat->List Int×List (Int×Int)
 |0=>s
 |m+1=>dU n (Fj n s m)
def Ke (c:D9)(r:EH)(ws:List Int)(k:Nat):Nat:=(ws[k]?.getD 0-c.E3 (r k)).toNat
def Ey (c:D9)(r:EH)(ws:List Int):Nat->List Int×List (Int×Int)
 |0=>(c.DV.map (·.heads),[])
 |k+1=>Fj k (Ey c r ws k) (Ke c r ws k)
def FU (c:D9)(r:EH)(ws:List Int):List (Int×Int):=(Ey c r ws ws.length).2
def iA {n:Int}{s:List Int×List (Int×Int)}(h:EP s.1 s.1.length<0):dU n s=s:=AF h
def qi {n:Int}{s:List Int×List (Int×Int)}(h:EP s.1 s.1.length<0)(m:Nat):Fj n s m=s:=by
 induction m with
 |zero=>rfl
 |succ m ih=>rw[Fj,ih];exact iA h
def nP {n:Int}{s:List Int×List (Int×Int)}{k m:Nat}(h:EP (Fj n s k).1 (Fj n s k).1.length<0)(hm:k<=m):Fj n s m=Fj n s k:=by
  induction m with
  | zero => obtain rfl : k = 0 := by omega
            rfl
  |succ m ih =>
    obtain h1|h1:=Br m k
    · obtain rfl:k=m+1:=by omega
      rfl
    · rw[Fj,ih h1];exact iA h
def mG {c:D9}{r:EH}{ws:List Int}{k m:Nat}(h:EP (Ey c r ws k).1 (Ey c r ws k).1.length<0)(hm:k<=m):Ey c r ws m=Ey c r ws k:=by
  induction m with
  | zero => obtain rfl : k = 0 := by omega
            rfl
  |succ m ih =>
    obtain h1|h1:=Br m k
    · obtain rfl:k=m+1:=by omega
      rfl
    · rw[Ey,ih h1];exact qi h _
def nQ {c:D9}{r:EH}{ws:List Int}{k m:Nat}(hk:k<ws.length)(hm:m<=Ke c r ws k)(h:EP (Fj k (Ey c r ws k) m).1 (Fj k (Ey c r ws k) m).1.length<0):FU c r ws=(Fj k (Ey c r ws k) m).2:=by
 have e:Ey c r ws (k+1)=Fj k (Ey c r ws k) m:=by rw[Ey];exact nP h hm
 unfold FU;rw[mG (k:=k+1) (by rw[e];exact h) (by omega),e]
structure Hj (c:D9)(n:Nat)(s:List Int×List (Int×Int)):Prop where
 len:s.1.length=c.DV.length
 low:∀x∈s.1,0<=x/\x<=40
 count:s.1.sum+s.2.length<=160
 night:∀p∈s.2,0<=p.1/\p.1<n/\0<=p.2/\p.2<c.DV.length
def se (l:List Int)(k:Nat)(h:0<=EP l k):0<l[(EP l k).toNat]?.getD 0:=by
 induction k with
 |zero=>simp[EP] at h
 |succ k ih =>
  unfold EP at h ⊢;by_cases hc:0<l[k]?.getD 0/\(EP l k<0\/l[(EP l k).toNat]?.getD 0<l[k]?.getD 0)
  .rw[AF hc];simpa using hc.1
  .rw[AD hc] at h ⊢;exact ih h
def wN (l:List Int)(k:Nat)(x:Int)(h:k<l.length):(l.set k x).sum=l.sum-l[k]?.getD 0+x:=by
 induction l generalizing k with
 |nil=>simp at h
 |cons a l ih =>
  cases k with
  |zero=>simp;omega
  |succ k =>
   simp only[Cf,List.sum_cons,Be];rw[ih k (by simpa using h)];omega
def Hj.step {c:D9}{n:Nat}{s:List Int×List (Int×Int)}{d:Nat}(hd:d<n)(h:Hj c n s):Hj c n (dU d s):=by
 unfold dU;split
 .exact h
 .rename_i hm;have h1:=jt s.1 s.1.length;have h2:=se s.1 s.1.length (by omega);have hl:(EP s.1 s.1.length).toNat<s.1.length:=by omega
  have h3:=h.low _ (Ge s.1 _ hl);refine⟨by simp[h.len],λx hx=>?_,?_,λp hp=>?_⟩
  .obtain h4|rfl:=Dc hx
   .exact h.low x h4
   .omega
  .have h4:=h.count;show(s.1.set _ _).sum+((s.2++[((d:Int),EP s.1 s.1.length)]).length:Nat)<=160;rw[wN _ _ _ hl,BH];simp only[AM,AS,C9];omega
  .obtain h4|h4:=Bp.1 hp
   .exact h.night p h4
   .simp only[AJ,AG,or_false] at h4;subst h4;have:=h.len;show(0:Int)<=d/\(d:Int)<n/\_/\_;omega
def Hj.it {c:D9}{n:Nat}{s:List Int×List (Int×Int)}{d:Nat}(hd:d<n)(h:Hj c n s)(m:Nat):Hj c n (Fj d s m):=by
 induction m with
 |zero=>exact h
 |succ m ih=>exact ih.step hd
def Hj.all {c:D9}(hc:c.Ok){r:EH}{ws:List Int}{n:Nat}(hn:ws.length<=n)(k:Nat)(hk:k<=ws.length):Hj c n (Ey c r ws k):=by
 induction k with
 |zero =>
  refine⟨by simp[Ey],λx hx=>?_,?_,λp hp=>by simp[Ey] at hp⟩
  .simp only[Ey,Bf] at hx;obtain⟨h,hh,rfl⟩:=hx;have:=hc.heads h hh;omega
  .have := Hb 1 40 (c.DV.map (·.heads)) fun x hx => by
    simp only[Bf] at hx;obtain⟨h,hh,rfl⟩:=hx;exact hc.heads h hh
   have h4:=hc.h4;simp only[Ey,AS,Bq] at *;omega
 |succ k ih=>exact(ih (by omega)).it (by omega) _
def lj {c:D9}(hc:c.Ok)(r:EH)(ws:List Int):Hj c ws.length (Ey c r ws ws.length):=Hj.all hc (AA _) _ (AA _)
def j4 {c:D9}(hc:c.Ok)(r:EH)(ws:List Int):(FU c r ws).length<=160:=by
 have h:=lj hc r ws;have h1:=Hb 0 40 _ h.low;have h2:=h.count;unfold FU;omega
def JQ (p:Int)(on:List Int)(h:Int):Nat->Int
 |0=>0
 |k+1=>JQ p on h k+if on[k]?.getD 0=h then p / on.length+(if(k:Int)<p % on.length then 1 else 0) else 0
def mH {p:Int}(hp:0<=p/\p<=99)(on:List Int)(h:Int)(k:Nat):0<=JQ p on h k/\JQ p on h k<=100*k:=by
 induction k with
 |zero=>simp[JQ]
 |succ k ih =>
  have h1:0<=p / (on.length:Int):=Int.ediv_nonneg hp.1 (by omega);have h2:p / (on.length:Int)<=p:=Int.ediv_le_self _ hp.1;unfold JQ;split
  .split<;>omega
  .omega
def Hk (p:Int)(r:EH)(ls:List (Int×Int))(h t:Nat):Nat->Int
 |0=>0
 |k+1=>Hk p r ls h t k+if(ls[k]?.getD (0,0)).2=t/\h≠t then JQ p (wl (r (ls[k]?.getD (0,0)).1.toNat)) h (wl (r (ls[k]?.getD (0,0)).1.toNat)).length else 0
def mI {p:Int}(hp:0<=p/\p<=99)(r:EH)(ls:List (Int×Int))(h t:Nat)(k:Nat):0<=Hk p r ls h t k/\Hk p r ls h t k<=400*k:=by
 induction k with
 |zero=>simp[Hk]
 |succ k ih =>
  have h1:=mH hp (wl (r (ls[k]?.getD (0,0)).1.toNat)) h (wl (r (ls[k]?.getD (0,0)).1.toNat)).length;have h2:=aY (r (ls[k]?.getD (0,0)).1.toNat);unfold Hk;split<;>omega
def LX (n:Nat)(M:Nat->Nat->Int):List (List Int):=(F n).map λh=>(F n).map (M h)
def gE (n:Nat)(M:Nat->Nat->Int):(LX n M).length=n:=by simp[LX]
def wO {n:Nat}{M:Nat->Nat->Int}{h:Nat}(hh:h<n):(LX n M)[h]?=J ((F n).map (M h)):=by simp[LX,hh]
def Ju (c:D9)(r:EH)(p:Int)(ws:List Int):List (List Int):=LX c.DV.length λh t=>Hk p r (FU c r ws) h t (FU c r ws).length
def H9 (M:List (List Int)):Nat->Nat->Int
 |0,_=>0
 |k+1,j=>H9 M k j-(if j=k then(M[k]?.getD []).sum else 0)+(M[k]?.getD [])[j]?.getD 0
def Ox (M:List (List Int)):List Int:=(F M.length).map (H9 M M.length)
open Go.RowKit
def wP (l:List Int)(n:Nat)(h:∀x∈l,0<=x/\x<n):GF l<2 ^ n:=by
 have key:∀(l:List Int) (x:Nat),(∀y∈l,0<=y/\y<n)->x<2 ^ n->l.foldl (λx h=>x ||| 2 ^ h.toNat) x<2 ^ n:=by
  intro l
  induction l with
  |nil=>intro x _ hx;exact hx
  |cons a l ih =>
   intro x h hx;have ha:=h a B4;exact ih _ (λy hy=>h y (Ci _ hy)) (Nat.or_lt_two_pow hx (Nat.pow_lt_pow_right (by omega) (by omega)))
 exact key l 0 h (Nat.two_pow_pos n)
def fH {c:D9}{ls:List (List Int)}(hE:Ek c ls=0)(i:Nat):c.has (D4 ls i):=by
 unfold Ek at hE;split at hE
 .rename_i h;exact AI hE h
 .split at hE
  .rename_i h;exact AI hE h
  .unfold D4 D9.has;cases hl:ls[i]? with
   |none=>exact Nat.two_pow_pos _
   |some l =>
    have:=bg.1 hE (Fi l c.DV.length) (Bf.2 ⟨l,B5 hl,rfl⟩);exact wP l _ (I0 this).1
structure Jl (w:X)(base:Nat)(v:C)(n m:Nat)(M:Nat->Nat->Int)(bl:Nat->Nat):Prop where
 row:∃xs,w.ownsRow base 22 1 v m xs/\∀h,h<m->xs[h]?=J (.slice (J ⟨bl h,0,Z⟩) n n)
 cells:∀h,h<m->base<=bl h/\∃l:Array C,w.heap[bl h]?=J (.cells l 3 (0,0))/\∀t,t<n->l[t]?=J (U I (M h t))
 inj:∀h h',h<m->h'<m->bl h=bl h'->h=h'
def D5 {w:X}{b:Nat}{l:Array C}{ty:TypeId}(h:w.heap[b]?=J (.cells l ty (0,0)))(o:Nat):w.cell? ⟨b,o,Z⟩=l[o]?/\w.frozen? ⟨b,o,Z⟩=false:=by
 unfold World.cell? H;rw[h];simp
def sf {w:X}{base size n:Nat}{e e':TypeId}{v:C}{xs:List C}(h:w.ownsRow base e size v n xs)(zU:e≠e'){b:Nat}{l:Array C}(hb:w.heap[b]?=J (.cells l e' (0,0))):J b≠v.ownBlock:=λhh=>by
 obtain⟨rfl,_⟩|⟨g,cap,cur,rfl,_,k,_⟩:=h.2
 .cases hh
 .have e1:b=g:=by injection hh
  subst e1;rw[hb] at k;injection k with k
  injection k with _ k _
  exact zU k.symm
section
variable {w w':X} {base n m:Nat} {v:C} {M M':Nat->Nat->Int} {bl:Nat->Nat}
def Jl.nil (w:X)(base n:Nat)(M:Nat->Nat->Int)(bl:Nat->Nat):Jl w base (.slice Z 0 0) n 0 M bl:=⟨⟨[],Bw _ _ _ _,λh hh=>AI hh (by omega)⟩,λh hh=>AI hh (by omega),λh h' hh=>AI hh (by omega)⟩
def Jl.keep (h:Jl w base v n m M bl)(hk:∀b,base<=b->b<w.heap.size->w'.heap[b]?=w.heap[b]?):Jl w' base v n m M bl:=by
 obtain⟨xs,h1,h2⟩:=h.row;refine⟨⟨xs,ar h1 λg hg hl=>hk g (h1.lt g hg).1 hl,h2⟩,λa ha=>?_,h.inj⟩;obtain⟨c1,l,c2,c3⟩:=h.cells a ha;exact⟨c1,l,(hk _ c1 (Az.1 c2).1).trans c2,c3⟩
def Jl.gr (h:Jl w base v n m M bl)(hg:Gr w w'):Jl w' base v n m M bl:=h.keep λb _ hb=>hg.below.block b hb
def Jl.drew (h:Jl w base v n m M bl):Jl w.drew base v n m M bl:=h.keep λ_ _ _=>rfl
def Jl.congr (h:Jl w base v n m M bl)(e:∀a t,a<m->t<n->M a t=M' a t):Jl w base v n m M' bl:=by
 refine⟨h.row,λa ha=>?_,h.inj⟩;obtain⟨c1,l,c2,c3⟩:=h.cells a ha;exact⟨c1,l,c2,λt ht=>by rw[<-e a t ha ht];exact c3 t ht⟩
def Jl.at_ (h:Jl w base v n m M bl){a t:Nat}(ha:a<m)(ht:t<n):base<=bl a/\bl a<w.heap.size/\w.cell? ⟨bl a,t,Z⟩=J (U I (M a t))/\w.frozen? ⟨bl a,t,Z⟩=false:=by
 obtain⟨c1,l,c2,c3⟩:=h.cells a ha;exact⟨c1,(Az.1 c2).1,(D5 c2 t).1.trans (c3 t ht),(D5 c2 t).2⟩
def Jl.MB {A:Option O}{k c:Nat}(h:Jl w base (Y A k c) n m M bl){a:Nat}(ha:a<m):∃g,A=J ⟨g,0,Z⟩/\g<w.heap.size/\w.cell? ⟨g,a,Z⟩=J (.slice (J ⟨bl a,0,Z⟩) n n):=by
 obtain⟨xs,h1,h2⟩:=h.row;obtain⟨_,h0⟩|⟨g,cap,cur,hv,k1,k2,k3⟩:=h1.2
 .omega
 .have hA:A=J ⟨g,0,Z⟩:=by injection hv
  subst hA;have:=h1.cells (g:=g) rfl a _ (h2 a ha);have e:(⟨g,0,Z⟩:O).add a=⟨g,0+a,Z⟩:=by unfold Addr.add;split<;>simp_all
  rw[e,AO] at this;exact⟨g,rfl,(Az.1 k2).1,this⟩
def Jl.push {w1:X}{v':C}{q:Nat}{xs:List C}{z:Array C}(h:Jl w base v n m (λ_ _=>0) bl)(hr:w.ownsRow base 22 1 v m xs)(hx:∀h,h<m->xs[h]?=J (.slice (J ⟨bl h,0,Z⟩) n n))
  (hq:base<=q) (hqw:w.heap.size<=q) (h1:∀b,b<w.heap.size->w1.heap[b]?=w.heap[b]?) (hz:w1.heap[q]?=J (.cells z 3 (0,0))) (hzz:∀t,t<n->z[t]?=J (U I 0)) (hs:w.heap.size<=w1.heap.size)
  (hg:w1.grownBy w' v.ownBlock) (a6:w'.ownsRow base 22 1 v' (m+1) (xs++[.slice (J ⟨q,0,Z⟩) n n])):Jl w' base v' n (m+1) (λ_ _=>0) (λa=>if a=m then q else bl a):=by
 have zl:xs.length=m:=by have:=hr.1;omega
 have hqv:J q≠v.ownBlock:=λe=>by have:=(hr.lt q e.symm).2;omega
 refine⟨⟨_,a6,λa ha=>?_⟩,λa ha=>?_,λa a' ha ha' e=>?_⟩
 .try dsimp only
  by_cases e:a=m
  .subst e;rw[AF rfl,Bo (by omega),zl];simp
  .rw[AD e,Bl (by omega)];exact hx a (by omega)
 .try dsimp only
  by_cases e:a=m
  .subst e;rw[AF rfl];exact⟨hq,z,(hg.block q (Az.1 hz).1 hqv).trans hz,hzz⟩
  .rw[AD e];obtain⟨c1,l,c2,c3⟩:=h.cells a (by omega);have zY:=(Az.1 c2).1;exact⟨c1,l,(hg.block (bl a) (by omega) (sf hr (by decide) c2)).trans ((h1 _ zY).trans c2),c3⟩
 .try dsimp only at e
  have key:∀a,a<m->bl a<w.heap.size:=λa ha=>by
   obtain⟨_,l,c2,_⟩:=h.cells a ha;exact(Az.1 c2).1
  by_cases e1:a=m
  .by_cases e2:a'=m
   .omega
   .rw[AF e1,AD e2] at e;have:=key a' (by omega);omega
  .by_cases e2:a'=m
   .rw[AD e1,AF e2] at e;have:=key a (by omega);omega
   .rw[AD e1,AD e2] at e;exact h.inj a a' (by omega) (by omega) e
def Jl.set (h:Jl w base v n m M bl){a t:Nat}(ha:a<m)(ht:t<n)(y:Int)(hM:∀a' t',a'<m->t'<n->M' a' t'=if a'=a/\t'=t then y else M a' t'):Jl (w.setCell ⟨bl a,t,Z⟩ (U I y)) base v n m M' bl:=by
 obtain⟨xs,h1,h2⟩:=h.row;obtain⟨c1,l,c2,c3⟩:=h.cells a ha;have hblk:∀g,g≠bl a->(w.setCell ⟨bl a,t,Z⟩ (U I y)).heap[g]?=w.heap[g]?:=λg hg=>by
  rw[Go.Eu.EJ];exact AD hg
 refine⟨⟨xs,ar h1 λg hg _=>hblk g λe=>sf h1 (by decide) c2 (by rw[<-e];exact hg.symm),h2⟩,λa' ha'=>?_,h.inj⟩;obtain⟨d1,l',d2,d3⟩:=h.cells a' ha';by_cases e:a'=a
 .subst e;refine⟨d1,l.setIfInBounds t (U I y),?_,λt' a6=>?_⟩
  .rw[Go.Eu.EJ,AF rfl,c2];simp[Go.Eu.Ir]
  .rw[hM a' t' ha' a6,Ch];by_cases e2:t=t'
   .subst e2;have hl:=(Az.1 (c3 t ht)).1;simp[hl]
   .rw[AD e2,AD (λh=>e2 h.2.symm)];exact c3 t' a6
 .refine⟨d1,l',(hblk _ λe2=>e (h.inj a' a ha' ha e2)).trans d2,λt' a6=>?_⟩;rw[hM a' t' ha' a6,AD (λh=>e h.1)];exact d3 t' a6
def Jl.J4 {A:Option O}{c:Nat}(h:Jl w base (Y A m c) m m M bl):ER w w.heap.size A (LX m M):=λhn=>by
 have hm:0<m:=by
  obtain e|e:=Bs m
  .exact AI (Bc ((gE m M).trans e)) hn
  .exact e
 obtain⟨g,rfl,hg,_⟩:=h.MB hm;refine⟨g,0,rfl,hg,λi l hl=>?_⟩;have hi:i<m:=by have:=(AV.1 hl).1;rwa [gE] at this
 rw[wO hi] at hl;cases hl;obtain⟨g',e,_,hc⟩:=h.MB hi;have e':g'=g:=by injection e with e;injection e with e;exact e.symm
 subst e';refine⟨J ⟨bl i,0,Z⟩,m,by simpa using hc,λ_=>⟨_,0,rfl,?_,λj x hx=>?_⟩⟩
 .obtain⟨_,l,c2,_⟩:=h.cells i hi;exact(Az.1 c2).1
 .have hj:j<m:=by have:=(AV.1 hx).1;simpa using this
  have a6:x=M i j:=by
   rw[BK,Cn hj] at hx;exact(Option.some.inj hx).symm
  rw[AO,a6];exact(h.at_ hi hj).2.2.1
end
def Ik (w:X)(B:Nat)(A:Option O)(l:List (Int×Int)):Prop :=
 l≠[]->∃b o,A=J ⟨b,o,Z⟩/\b<B/\∀(i:Nat) (x:Int×Int),l[i]?=J x->w.cell? ⟨b,o+i*2,Z⟩=J (U I x.1)/\w.cell? ⟨b,o+i*2+1,Z⟩=J (U I x.2)
def Ik.keep {w w':X}{B:Nat}{A:Option O}{l:List (Int×Int)}(h:Ik w B A l)(hk:∀b o,b<B->w'.cell? ⟨b,o,Z⟩=w.cell? ⟨b,o,Z⟩):Ik w' B A l:=λhn=>by
 obtain⟨b,o,e,hb,hc⟩:=h hn;exact⟨b,o,e,hb,λi x hx=>⟨(hk _ _ hb).trans (hc i x hx).1,(hk _ _ hb).trans (hc i x hx).2⟩⟩
def Ik.gr {w w':X}{B:Nat}{A:Option O}{l:List (Int×Int)}(h:Ik w B A l)(hB:B<=w.heap.size)(hg:Gr w w'):Ik w' B A l:=h.keep λ_ _ hb=>hg.cell (AC hb hB)
def Ik.at_ {w:X}{B:Nat}{A:Option O}{l:List (Int×Int)}(h:Ik w B A l){k:Nat}(hk:k<l.length):∃b o,A=J ⟨b,o,Z⟩/\b<B/\w.cell? ⟨b,o+k*2,Z⟩=J (U I (l[k]?.getD (0,0)).1)/\w.cell? ⟨b,o+k*2+1,Z⟩=J (U I (l[k]?.getD (0,0)).2):=by
 obtain⟨b,o,e,hb,hc⟩:=h (λe=>by rw[e] at hk;simp at hk);obtain⟨h1,h2⟩:=hc k _ (AB hk);exact⟨b,o,e,hb,by rw[AB hk];exact h1,by rw[AB hk];exact h2⟩
open Go.Proofs
def wQ (a b q:Int)(pb:Nat)(w:X)(hp:pb<w.heap.size)(hc:w.cell? ⟨pb,0,Z⟩=J (U I q)) :
  L DU 137 #[.agg #[U I a,U I b],.pointer (J ⟨pb,0,Z⟩)] w λe w'=>e=.returned (.bool (a==q))/\Gr w w':=by
 go_enter Sq.func137,Tryz.ntmps137;go_wp2;go_ret;exact⟨rfl,(Gr.refl w).alloc _⟩
def nR (A:Option O)(c pb:Nat)(q:Int)(l:List (Int×Int))(w:X)(B:Nat)(hB:B<=w.heap.size)(h:Ik w B A l)(hl:l.length<=4611686018427387904)(hp:pb<w.heap.size)(hc:w.cell? ⟨pb,0,Z⟩=J (U I q)) :
  L DU 162 #[Y A l.length c,.func (.func 137) #[] #[.pointer (J ⟨pb,0,Z⟩)]] w λe w'=>(∃n:Int,e=.returned (U I n)/\(0<=n↔l.any (·.1==q)=bb))/\Gr w w':=by
 have HR:=Ay h;go_enter Sq.func162,Tryz.ntmps162;go_wp2;go_loopw [8] (λi wr=>∃k:Nat,k<=l.length/\i=U I k/\(l.take k).any (·.1==q)=f/\Gr w wr) (λi _=>l.length-(E i).toNat)
 case atStart=>exact⟨0,by omega,rfl,by simp,.refl _⟩
 case round =>
  obtain⟨k,hk,rfl,ha,hg⟩:=hrel;have HA:=Ay ha;have HG:=Ay hg;by_cases zY:k<l.length
  .obtain⟨b,o,rfl,hb,h1,h2⟩:=(HR.out.gr hB HG.out).at_ zY;have HT:=Ay (bz (0,0) l k zY);have HM:Hid (l[k]?.getD (0,0)∈l):=Ay (by rw[AB zY];exact Bh zY);generalize l[k]?.getD (0,0)=x at h1 h2 HT HM;have hz:=HG.out.size;have HC:=Ay (wQ x.1 x.2 q pb wr (by omega) ((HG.out.cell hp).trans hc));obtain⟨v,hv⟩:∃v,v=(x.1==q):=⟨_,rfl⟩;rw[<-hv] at HC;have HV:=Ay hv;clear hv;cases v with
   |true =>
    go_wp2_with (go_at_call 137;refine HC.out.mono ?_;rintro e w2 ⟨rfl,zI⟩;have a6:=Ay zI;clear zI);go_ret;refine⟨⟨k,rfl,⟨λ_=>List.any_eq_true.2 ⟨x,HM.out,HV.out.symm⟩,λ_=>by omega⟩⟩,HG.out.trans a6.out⟩
   |false =>
    go_wp2_with (go_at_call 137;refine HC.out.mono ?_;rintro e w2 ⟨rfl,zI⟩;have a6:=Ay zI;clear zI);go_roundw
    case rel=>exact⟨k+1,by omega,by go_num,by rw[HT.out,List.any_append,HA.out];simp[<-HV.out],HG.out.trans a6.out⟩
    case measure=>simp[Proofs.intOf];omega
  .have a7:k=l.length:=by omega
   have HZ:=Ay (show l.any (·.1==q)=f by have:=HA.out;rwa [a7,Bb (by omega)] at this);clear a7;go_wp2;go_ret;exact⟨⟨-1,rfl,by rw[HZ.out];simp⟩,HG.out⟩
def si (A:Option O)(c pb:Nat)(q:Int)(l:List (Int×Int))(w:X)(B:Nat)(hB:B<=w.heap.size)(h:Ik w B A l)(hl:l.length<=4611686018427387904)(hp:pb<w.heap.size)(hc:w.cell? ⟨pb,0,Z⟩=J (U I q)) :
  L DU 136 #[Y A l.length c,.func (.func 137) #[] #[.pointer (J ⟨pb,0,Z⟩)]] w λe w'=>e=.returned (.bool (l.any (·.1==q)))/\Gr w w':=by
 have HC:=Ay (nR A c pb q l w B hB h hl hp hc);clear h;go_enter Sq.func136,Tryz.ntmps136;go_wp2_with fail;refine HC.out.mono ?_;rintro e w2 ⟨⟨n,rfl,hn⟩,hg⟩;have HG:=Ay hg
 have HN:=Ay (show decide (0<=n)=l.any (·.1==q) by
  cases hv:l.any (·.1==q) with
  |true=>simp[hn.2 hv]
  |false=>simp;have:=λh=>hn.1 h;rw[hv] at this;exact Int.not_le.1 λh=>by cases this h)
 clear hn hg;go_wp2;go_ret;exact⟨au HN.out,HG.out⟩
def lm {n:Nat}{rs:List (Int×Int)}(h:iz n rs=0):∀k,k<rs.length->KO n rs k=0:=by
 have key:∀l:List Int,bF l=0->∀x∈l,x=0:=λl h x hx=>by
  unfold bF at h;cases hf:l.find? (λx=>x != 0) with
  |none=>simpa using Cu.1 hf x hx
  |some y =>
   rw[hf] at h;have:=List.find?_some hf;simp at this;exact AI h this
 intro k hk;exact key _ h _ (Bf.2 ⟨k,by simpa using hk,rfl⟩)
def uq {n:Nat}{rs:List (Int×Int)}{k:Nat}(h:KO n rs k=0) :
  FC (rs[k]?.getD (0,0)).1 0 (n-1)=bb/\FC (rs[k]?.getD (0,0)).2 0 60=bb/\(rs.take k).any (·.1==(rs[k]?.getD (0,0)).1)=false:=by
 unfold KO at h;cases h1:FC (rs[k]?.getD (0,0)).1 0 (n-1) with
 |false=>rw[h1,AF rfl] at h;cases h
 |true =>
  cases h2:FC (rs[k]?.getD (0,0)).2 0 60 with
  |false=>rw[h1,h2,AD (by simp),AF rfl] at h;cases h
  |true =>
   cases h3:(rs.take k).any (·.1==(rs[k]?.getD (0,0)).1) with
   |true=>rw[h1,h2,h3,AD (by simp),AD (by simp),AF rfl] at h;cases h
   |false=>exact⟨rfl,rfl,rfl⟩
def _root_.Go.Sq.Ik.take {w:X}{B:Nat}{A:Option O}{l:List (Int×Int)}(h:Ik w B A l)(k:Nat):Ik w B A (l.take k):=λhn=>by
 obtain⟨b,o,e,hb,hc⟩:=h (λe=>hn (by rw[e];simp))
 exact⟨b,o,e,hb,λi x hx=>hc i x (by
  rw[CL] at hx;split at hx
  .exact hx
  .cases hx)⟩
def qj {W:X}{cb:Nat}{c:D9}{nA hA:Option O}{nc hc:Nat}(h:FE W W.heap.size cb c nA hA nc hc):FE W.drew W.drew.heap.size cb c nA hA nc hc:=(h.keep (w':=W.drew) λ_ _ _=>rfl:FE W.drew W.heap.size cb c nA hA nc hc)
def wR {W:X}{A:Option O}{l:List Int}(h:RI W W.heap.size A l):RI W.drew W.drew.heap.size A l:=h
def ur (nA hA gA rA:Option O)(nc hc gc rc:Nat)(c:D9)(ls:List (List Int))(rs:List (Int×Int))(w:X)(B:Nat)(hB:B<=w.heap.size)(hn:RI w B nA c.DW)(hh:EN w B hA c.DV)(hg:ER w B gA ls)(hr:Ik w B rA rs)
  (b6:c.DW.length<=4611686018427387904) (zC:c.DV.length<=4611686018427387904) (b7:∀h∈c.DV,h.off.length<=4611686018427387904) (b8:ls.length<=4611686018427387904) (zr:∀x∈ls,x.length<=4611686018427387904) (bT:rs.length<=4611686018427387904) (bU:rs.length<=rc)
  (hF:Ek c ls=0) (hR:iz c.DW.length rs=0) :
  L DU 94 #[Ef nA hA c nc hc,Y gA ls.length gc,Y rA rs.length rc] w λe w'=>Gr w w'/\∃cb A k,e=.returned (.tuple #[.pointer (J ⟨cb,0,Z⟩),Fl (D4 ls),Y A c.DW.length k,U I 0]) /\
   FE w' w'.heap.size cb c nA hA nc hc/\RI w' w'.heap.size A (E8 c.DW.length rs rs.length):=by
 have HR:=Ay hr;have HRE:=Ay (lm hR);unfold Ef;obtain⟨W0,zM⟩:∃W0:X,W0=(w.alloc (.cells #[Y nA c.DW.length nc,Y hA c.DV.length hc] 25)).alloc (.cells #[.int .u8 0,.int .u8 0,.int .u8 0,.int .u8 0,.int .u8 0] 71):=⟨_,rfl⟩;have zL:Gr w W0:=zM▸((Gr.refl w).alloc _).alloc _;have zF:W0.heap.size=w.heap.size+2:=by rw[zM];simp
 have HW:=Ay zM;have aB:=Ay (mD nA hA gA nc hc gc c ls W0 B (by omega) (hn.gr hB zL) (hh.keep λb o hb=>zL.cell (AC hb hB)) (hg.gr hB zL) b6 zC b7 b8 zr);have aP:=Ay zL;have hcm:W0.cell? ⟨w.heap.size,0,Z⟩=J (Y nA c.DW.length nc)/\W0.cell? ⟨w.heap.size,1,Z⟩=J (Y hA c.DV.length hc):=by
  rw[zM];constructor
  all_goals rw[AW _ _ _ (by simp),AE _ _ _ _ rfl];rfl
 have aD:=Ay hcm;have a6:∀i,i<5->W0.cell? ⟨w.heap.size+1,i,Z⟩=J (.int .u8 ((λ_=>0:EH) i:Nat))/\W0.frozen? ⟨w.heap.size+1,i,Z⟩=false:=λi hi=>by
  rw[zM,AE _ _ _ _ (by simp),By _ _ _ _ (by simp)]
  match i,hi with
  |0,_=>exact⟨rfl,rfl⟩
  |1,_=>exact⟨rfl,rfl⟩
  |2,_=>exact⟨rfl,rfl⟩
  |3,_=>exact⟨rfl,rfl⟩
  |4,_=>exact⟨rfl,rfl⟩
 have b9:=Ay a6;have aQ:=Ay hF;go_enter Sq.func94,Tryz.ntmps94;unfold Ef at aB;go_wp2_with fail;rw[<-HW.out];refine aB.out.mono ?_;rintro e w1 ⟨zJ,aC⟩;rw[AF aQ.out] at aC;obtain⟨cb,g,cap,rfl,hcb,bV,hK⟩:=aC
 have aR:=Ay (D9.Ok.of (show Eg c=0 by
  have:=aQ.out;unfold Ek at this;split at this
  .exact AI this (by assumption)
  .simpa using ‹¬Eg c≠0›))
 have bW:=aR.out.n5;have bX:=aR.out.n1;obtain⟨W1,zu⟩:∃W1:X,W1=w1.alloc (.cells #[.int .u8 (D4 ls 0),.int .u8 (D4 ls 1),.int .u8 (D4 ls 2),.int .u8 (D4 ls 3),.int .u8 (D4 ls 4)] 72):=⟨_,rfl⟩;have aF:Gr w1 W1:=zu▸(Gr.refl w1).alloc _;have zE:W1.heap.size=w1.heap.size+1:=by rw[zu];simp
 have hzz:=zJ.size;have aA:Gr W0 W1:=zJ.trans aF;have aS:=Ay aA;have HK:=Ay hK;have aY:=Ay aF;have bA:Hid (∀i,i<5->W1.cell? ⟨w1.heap.size,i,Z⟩=J (.int .u8 (D4 ls i:Nat))):=Ay λi hi=>by
  rw[zu,AE _ _ _ _ (by simp)]
  match i,hi with
  |0,_=>rfl
  |1,_=>rfl
  |2,_=>rfl
  |3,_=>rfl
  |4,_=>rfl
 have bB:Hid (∀i,i<5->W1.cell? ⟨w.heap.size+1,i,Z⟩=J (.int .u8 ((λ_=>0:EH) i:Nat))/\W1.frozen? ⟨w.heap.size+1,i,Z⟩=f):=Ay λi hi=>by
  obtain⟨a,b⟩:=b9.out i hi;exact⟨(aA.cell (by show w.heap.size+1<_;omega)).trans a,(aA.frozen (by show w.heap.size+1<_;omega)).trans b⟩
 have bC:Hid (W1.cell? ⟨w.heap.size,0,Z⟩=J (Y nA c.DW.length nc)/\W1.cell? ⟨w.heap.size,1,Z⟩=J (Y hA c.DV.length hc)):=Ay
  ⟨(aA.cell (by show w.heap.size<_;omega)).trans aD.out.1,(aA.cell (by show w.heap.size<_;omega)).trans aD.out.2⟩
 have bD:=Ay zu;have zp:w1.cell? ⟨w.heap.size,0,Z⟩=J (Y nA c.DW.length nc):=(zJ.cell (by show w.heap.size<_;omega)).trans aD.out.1;have bY:w.heap.size<w1.heap.size:=by omega
 have bZ:=λw=>iy c.DW.length w (by omega);unfold Fl;go_wp2;rw[<-bD.out];go_loopw [33] (λi wr=>∃k:Nat,k<=rs.length/\i=U I k/\Gr W1 wr/\W1.heap.size<wr.heap.size/\∀j,j<c.DW.length->wr.cell? ⟨W1.heap.size,j,Z⟩=J (U I (bE rs k j))/\wr.frozen? ⟨W1.heap.size,j,Z⟩=f) (λi _=>rs.length-(E i).toNat)
 case atStart =>
  refine⟨0,by omega,rfl,(Gr.refl W1).alloc _,by simp,λj hj=>⟨?_,?_⟩⟩
  .rw[AE _ _ _ _ (by simp),ep _ _ hj];rfl
  .rw[By _ _ _ _ (by simp)]
 case round =>
  obtain⟨k,hk,rfl,zV,c5,zW⟩:=hrel;have a7:=Ay zV;have aG:=Ay zW;have zp:=(zV.cell (by show w.heap.size<_;omega)).trans bC.out.1;have cA:=zV.size;by_cases zY:k<rs.length
  .have aT:=Ay (HR.out.gr hB (aP.out.trans (aS.out.trans a7.out)));obtain⟨b,o,rfl,hb,h1,h2⟩:=aT.out.at_ zY;have hro:=uq (HRE.out k zY);have aH:Hid (∀j:Nat,bE rs (k+1) j=if(rs[k]?.getD (0,0)).1=(j:Int) then(rs[k]?.getD (0,0)).2 else bE rs k j):=Ay λj=>rfl;generalize rs[k]?.getD (0,0)=x at h1 h2 hro aH;obtain⟨xn,xv⟩:=x;obtain⟨r1,r2,r3⟩:=hro;dsimp only at h1 h2 r1 r2 r3 aH;have bF:Hid (∀W,L DU 33 #[U I xn,U I 0,U I (c.DW.length-1)] W λe w'=>e=.returned (.bool bb)/\W=w'):=Ay λW=>by rw[<-r1];exact bS _ _ _ W
   have bG:Hid (∀W,L DU 33 #[U I xv,U I 0,U I 60] W λe w'=>e=.returned (.bool bb)/\W=w'):=Ay λW=>by rw[<-r2];exact bS _ _ _ W
   obtain⟨j,rfl⟩:∃j:Nat,xn=j:=⟨xn.toNat,by simp[FC] at r1;omega⟩;have bH:j<c.DW.length:=by simp[FC] at r1;omega
   obtain⟨W2,zn⟩:∃W2:X,W2=wr.alloc (.cells #[U I (j:Int),U I xv] 58):=⟨_,rfl⟩;have zI:Gr wr W2:=zn▸(Gr.refl wr).alloc _;have zD:W2.heap.size=wr.heap.size+1:=by rw[zn];simp
   have aU:W2.cell? ⟨wr.heap.size,0,Z⟩=J (U I j)/\W2.cell? ⟨wr.heap.size,1,Z⟩=J (U I xv):=by
    rw[zn,AE _ _ _ _ rfl,AE _ _ _ _ rfl];exact⟨rfl,rfl⟩
   have aI:=si (J ⟨b,o,Z⟩) rc wr.heap.size j (rs.take k) W2 B (by omega) ((aT.out.take k).gr (by omega) zI) (by simp;omega) (by omega) aU.1;have bI:(rs.take k).length=k:=by simp;omega
   rw[bI,r3] at aI;have aZ:=Ay aI;have aV:=Ay aU;have bJ:=Ay zI;have bK:=Ay zn;have hwr:w.heap.size<wr.heap.size:=by omega
   have hkc:((k:Nat):Int)<=(rc:Int):=by omega
   go_wp2_with fail;refine(bF.out _).mono ?_;rintro e w' ⟨rfl,rfl⟩;go_wp2_with fail;refine(bG.out _).mono ?_;rintro e w' ⟨rfl,rfl⟩;go_wp2_with fail;rw[<-bK.out];refine aZ.out.mono ?_;rintro e w3 ⟨rfl,zH⟩;have a8:=bJ.out.trans zH;have cB:=Ay a8;have hz3:=zH.size;have d0:w3.cell? ⟨wr.heap.size,0,Z⟩=J (U I j):=(zH.cell (by show wr.heap.size<_;omega)).trans aV.out.1;have d1:w3.cell? ⟨wr.heap.size,1,Z⟩=J (U I xv):=(zH.cell (by show wr.heap.size<_;omega)).trans aV.out.2
   have aJ:∀i,i<c.DW.length->w3.cell? ⟨W1.heap.size,i,Z⟩=J (U I (bE rs k i))/\w3.frozen? ⟨W1.heap.size,i,Z⟩=false:=λi hi=>⟨(a8.cell (by show W1.heap.size<_;omega)).trans (aG.out i hi).1,(a8.frozen (by show W1.heap.size<_;omega)).trans (aG.out i hi).2⟩;have aW:=Ay aJ;obtain⟨e1,e2⟩:=aJ j bH;rw[zE] at e1 e2;have b5:Hid (∀i,i<c.DW.length->(w3.setCell ⟨w1.heap.size+1,j,Z⟩ (U I xv)).cell? ⟨W1.heap.size,i,Z⟩=J (U I (bE rs (k+1) i))/\(w3.setCell ⟨w1.heap.size+1,j,Z⟩ (U I xv)).frozen? ⟨W1.heap.size,i,Z⟩=f):=Ay λi hi=>by
    rw[BI,aH.out];refine⟨?_,(aW.out i hi).2⟩;rw[zE];by_cases e:i=j
    .subst e;rw[AQ _ _ _ e1,AF rfl]
    .rw[AL _ _ _ _ (by simp[Ne.symm e]),AD (by omega)];have:=(aW.out i hi).1
     rwa [zE] at this
   have bL:Hid (Gr W1 (w3.setCell ⟨w1.heap.size+1,j,Z⟩ (U I xv))):=Ay ((a7.out.trans a8).setCell (p:=⟨w1.heap.size+1,j,Z⟩) (by show _<=w1.heap.size+1;omega) _);go_wp2;go_roundw
   case rel=>exact⟨k+1,by omega,by go_num,bL.out,by simp[World.setCell];omega,b5.out⟩
   case measure=>simp[Proofs.intOf];omega
  .have bM:k=rs.length:=by omega
   subst bM
   have bN:∀W:X,wr.heap.size<=W.heap.size->(∀o,W.cell? ⟨w1.heap.size+1,o,Z⟩=wr.cell? ⟨w1.heap.size+1,o,Z⟩)->RI W W.heap.size (J ⟨w1.heap.size+1,0,Z⟩) (E8 c.DW.length rs rs.length):=λW hW hk _=>⟨_,0,rfl,by omega,λi x hx=>by
    have hi:i<c.DW.length:=by have:=(AV.1 hx).1;rwa [ee] at this
    rw[qh hi] at hx;cases hx;rw[AO,hk,<-zE]
    exact(aG.out i hi).1⟩
   have bO:=Ay bN;have bP:∀W:X,wr.heap.size<=W.heap.size->(∀b o,b≠w.heap.size+1->W.cell? ⟨b,o,Z⟩=wr.cell? ⟨b,o,Z⟩)->FE W W.heap.size cb c nA hA nc hc:=λW hW hk =>
    (HK.out.keep (w':=W) (by omega) λb o hb=>(hk b o λe=>by rcases hb with h|h|h<;>omega).trans ((aY.out.trans a7.out).cell (p:=⟨b,o,Z⟩) (HK.out.lt b hb))).NT
   have bQ:=Ay bP;have aK:=Ay (λ(b o:Nat) (hb:b≠w.heap.size+1)=>AT (a:=⟨b,o,Z⟩) (jW wr (w.heap.size+1) (.int .u8 (D4 ls 0:Nat)) (.int .u8 (D4 ls 1:Nat)) (.int .u8 (D4 ls 2:Nat)) (.int .u8 (D4 ls 3:Nat)) (.int .u8 (D4 ls 4:Nat)) hb));have aL:=Ay (lg wr (w.heap.size+1) (.int .u8 (D4 ls 0:Nat)) (.int .u8 (D4 ls 1:Nat)) (.int .u8 (D4 ls 2:Nat)) (.int .u8 (D4 ls 3:Nat)) (.int .u8 (D4 ls 4:Nat)))
   obtain⟨a0,a1,a2,a3,a4⟩:=JP (w:=wr) (b:=w1.heap.size) (r:=D4 ls) λi hi=>(a7.out.cell (by show w1.heap.size<_;omega)).trans (bA.out i hi);have a6:∀i,i<5->wr.cell? ⟨w.heap.size+1,i,Z⟩=J (.int .u8 ((λ_=>0:EH) i:Nat))/\wr.frozen? ⟨w.heap.size+1,i,Z⟩=false:=λi hi=>by
    obtain⟨a,b⟩:=bB.out i hi;exact⟨(a7.out.cell (by show w.heap.size+1<_;omega)).trans a,(a7.out.frozen (by show w.heap.size+1<_;omega)).trans b⟩
   obtain⟨b0,c0⟩:=a6 0 (by omega);obtain⟨b1,c1⟩:=a6 1 (by omega);obtain⟨b2,c2⟩:=a6 2 (by omega);obtain⟨b3,c3⟩:=a6 3 (by omega);obtain⟨b4,c4⟩:=a6 4 (by omega);have bR:=Ay (eE (λi hi=>(a6 i hi).1) (.int .u8 (D4 ls 0:Nat)) (.int .u8 (D4 ls 1:Nat)) (.int .u8 (D4 ls 2:Nat)) (.int .u8 (D4 ls 3:Nat)) (.int .u8 (D4 ls 4:Nat)));have aX:=Ay (fY (aP.out.trans (aS.out.trans a7.out)) (b:=w.heap.size+1) (by omega) (.int .u8 (D4 ls 0:Nat)) (.int .u8 (D4 ls 1:Nat)) (.int .u8 (D4 ls 2:Nat)) (.int .u8 (D4 ls 3:Nat)) (.int .u8 (D4 ls 4:Nat)))
   obtain⟨Wf,hWf⟩:∃Wf:X,Wf=Hp wr (w.heap.size+1) (.int .u8 (D4 ls 0:Nat)) (.int .u8 (D4 ls 1:Nat)) (.int .u8 (D4 ls 2:Nat)) (.int .u8 (D4 ls 3:Nat)) (.int .u8 (D4 ls 4:Nat)):=⟨_,rfl⟩;rw[<-hWf] at aK aL aX;have aM:=Ay (qj (bQ.out Wf (BR aL.out.symm) aK.out));have aN:=Ay (wR (bO.out Wf (BR aL.out.symm) λo=>aK.out _ o (by omega)));have aO:=Ay aX.out.drew;rw[hWf] at aO aM aN
   unfold Hp at aO aM aN;go_wp2;go_region
   all_goals
    go_wp2;obtain⟨s0,s1,s2,s3,s4⟩:=bR.out;unfold Hp at s0 s1 s2 s3 s4;refine bodyPost_ret (v:=.tuple #[.pointer (J ⟨cb,0,Z⟩),Fl (D4 ls),.slice (J ⟨w1.heap.size+1,0,Z⟩) c.DW.length c.DW.length,U I 0]) (by simp[results,Tryz.results94,go_sem,Fl,s0,s1,s2,s3,s4]) rfl ⟨?_,cb,_,_,rfl,?_,?_⟩
    .exact aO.out
    .exact aM.out
    .exact aN.out
def wS (A:Option O)(c:Nat)(l:List Int)(w:X)(B:Nat)(h:RI w B A l)(hB:B<=w.heap.size)(hl:l.length<=1048576) :
  L DU 36 #[Y A l.length c] w λe w'=>∃v,e=.returned v/\w'.ownsRow w.heap.size 3 1 v l.length (l.map (U I))/\Gr w w':=by
 obtain⟨i0,hi,zF,zE,zD⟩:=V Ds;have HR:=Ay h;have q22:∀(w:X) (a:Option O) (n c n' c':Nat),(binOp .eql 22 (.slice a n c) (.slice Z n' c')).run DU w=.ok (.bool a.isNone) w:=λw a n c n' c'=>Lib.run_eql_slice_nil w _ _ a n c n' c' Sq.underlying22;cases A with
 |none =>
  have hl0:l=[]:=by
   cases l with
   |nil=>rfl
   |cons x l=>obtain⟨_,_,e,_⟩:=HR.out (by simp);cases e
  subst hl0;go_enter Sq.func36,Tryz.ntmps36;go_wp2;go_ret;exact⟨_,rfl,Bw _ _ _ _,.refl _⟩
 |some ad =>
  have hcell:∀j u,(l.map (U I))[j]?=J u->w.cell? (ad.add j)=J u/\(ad.add j).block<w.heap.size:=λj u hj=>by
   rw[BK] at hj;cases hx:l[j]? with
   |none=>rw[hx] at hj;cases hj
   |some x =>
    rw[hx] at hj;obtain⟨b,o,e,hb,hc⟩:=HR.out (λe=>by rw[e] at hx;simp at hx);obtain rfl:ad=⟨b,o,Z⟩:=by injection e
    have e2:(⟨b,o,Z⟩:O).add j=⟨b,o+j,Z⟩:=G _ _ _;rw[e2];exact⟨by rw[hc j x hx];exact hj,by show b<_;omega⟩
  have HC:=Ay hcell;go_enter Sq.func36,Tryz.ntmps36;go_wp2_with (at_builtin;refine EA rfl _ _ 22 rfl w.heap.size 3 i0 (U I 0) 1 8 Sq.underlying22 hi zF zE zD rfl (by decide) _ _ _ rfl (CW w #[] 0 (AA _) (AU _) rfl) ad l.length c (l.map (U I)) rfl ?qc1 ?qc2 ?qc3 ?qc4 ?qc5 ?qc6 ?_)
  case qc1=>simp
  case qc2=>intro j u hj;exact(AT (Cs _ _ _ (HC.out j u hj).2)).trans (HC.out j u hj).1
  case qc3=>intro u hu;obtain⟨x,_,rfl⟩:=Bf.1 hu;rfl
  case qc4=>unfold maxLen;omega
  case qc5=>omega
  case qc6=>simp
  intro v' w1 zm hgrow hd;have hG:=Ay (((Gr.refl w).alloc _).grown hgrow hd (by intro k hk;simp[ak] at hk;omega));have hO:=Ay zm;go_wp2;go_ret;exact⟨v',rfl,by simpa using hO.out,hG.out⟩
def Dy:(DU.info? 49).map (λi=>(i.zero,i.size,i.bytes))=J (J (.agg #[U I 0,U I 0,U I 0,.slice Z 0 0]),4,48):=by
 rw[Do];kernel_rfl
def Iz (w:X)(b o n:Nat):List Value:=(F (n*4)).map λj=>(w.cell? ⟨b,o+j,Z⟩).getD (U I 0)
def fI {w:X}{b o n j:Nat}(hj:j<n*4):(Iz w b o n)[j]?=J ((w.cell? ⟨b,o+j,Z⟩).getD (U I 0)):=by simp[Iz,hj]
def Hl (w:X)(b o n:Nat):(Iz w b o n).length=n*4:=by simp[Iz]
def hcell {w:X}{B b o:Nat}{l:List EG}(hc:∀(i:Nat) (h:EG),l[i]?=J h->Ml w B b (o+i*4) h){j:Nat}(hj:j<l.length*4):∃u,w.cell? ⟨b,o+j,Z⟩=J u/\u.oneCell'=true:=by
 obtain⟨h1,h2,h3,A,c,h4,_⟩:=hc (j / 4) _ (AB (show j / 4<l.length by omega));have:j % 4=0\/j % 4=1\/j % 4=2\/j % 4=3:=by omega
 obtain e|e|e|e:=this
 .rw[show o+j=o+j / 4*4 by omega];exact⟨_,h1,rfl⟩
 .rw[show o+j=o+j / 4*4+1 by omega];exact⟨_,h2,rfl⟩
 .rw[show o+j=o+j / 4*4+2 by omega];exact⟨_,h3,rfl⟩
 .rw[show o+j=o+j / 4*4+3 by omega];exact⟨_,h4,rfl⟩
def us (b o c:Nat)(l:List EG)(w:X)(B:Nat)(hb:b<B)(hB:B<=w.heap.size)(hc:∀(i:Nat) (h:EG),l[i]?=J h->Ml w B b (o+i*4) h)(hn:0<l.length)(hl:l.length<=1048576) :
  L DU 34 #[.slice (J ⟨b,o,Z⟩) l.length c] w λe w'=>∃g cap,e=.returned (.slice (J ⟨g,0,Z⟩) l.length cap)/\Gr w w'/\w.heap.size<=g/\g<w'.heap.size/\(∀i,w'.frozen? ⟨g,i,Z⟩=f) /\
   ∀(i:Nat) (h:EG),l[i]?=J h->Ml w' B g (i*4) h:=by
 obtain⟨i0,hi,zF,zE,zD⟩:=V Dy;have HC:=Ay hc;have q22:∀(w:X) (a:Option O) (n c n' c':Nat),(binOp .eql 23 (.slice a n c) (.slice Z n' c')).run DU w=.ok (.bool a.isNone) w:=λw a n c n' c'=>Lib.run_eql_slice_nil w _ _ a n c n' c' Sq.underlying23;go_enter Sq.func34,Tryz.ntmps34;go_wp2_with (at_builtin;refine EA rfl _ _ 23 rfl w.heap.size 49 i0 _ 4 48 Sq.underlying23 hi zF zE zD rfl (by decide) _ _ _ rfl (CW w #[] 0 (AA _) (AU _) rfl) ⟨b,o,Z⟩ l.length c (Iz w b o l.length) rfl ?qc1 ?qc2 ?qc3 ?qc4 ?qc5 ?qc6 ?_)
 case qc1=>exact Hl _ _ _ _
 case qc2 =>
  intro j u hj;have zY:j<l.length*4:=by have:=(AV.1 hj).1;rwa [Hl] at this
  rw[fI zY] at hj;obtain⟨v,hv,_⟩:=hcell HC.out zY;rw[hv] at hj;rw[G,AT (Cs _ _ _ (show b<w.heap.size by omega)),hv];exact hj
 case qc3 =>
  intro u hu;obtain⟨j,hj,rfl⟩:=Bf.1 hu;obtain⟨v,hv,h1⟩:=hcell HC.out (Bu.1 hj);rw[hv];exact h1
 case qc4=>unfold maxLen;omega
 case qc5=>omega
 case qc6=>simp
 intro v' w1 zm hgrow hd;have hG:=Ay (((Gr.refl w).alloc _).grown hgrow hd (by intro k hk;simp[ak] at hk;omega));have zm:w1.ownsRow w.heap.size 49 4 v' l.length (Iz w b o l.length):=by simpa using zm
 obtain⟨g,cap,rfl,_,_⟩:=zm.form hn;have hO:=Ay zm;go_wp2;go_ret;refine⟨g,cap,rfl,hG.out,(hO.out.lt g rfl).1,(hO.out.lt g rfl).2,λi=>?_,λi h hi=>?_⟩
 .obtain⟨h,_⟩|⟨g',c',cur,h,_,hb,_⟩:=hO.out.2
  .cases h
  .obtain⟨rfl⟩:g=g':=by injection h with h1;injection h1 with h2;injection h2
   simp[H,hb]
 .have a6:i<l.length:=(AV.1 hi).1;have key:∀k u,k<4->w.cell? ⟨b,o+i*4+k,Z⟩=J u->w1.cell? ⟨g,i*4+k,Z⟩=J u:=λk u hk hu=>by
   have zY:i*4+k<l.length*4:=by omega
   have:=hO.out.cells (g:=g) rfl (i*4+k) u (by rw[fI zY,<-CV,hu];rfl)
   rwa [G,AO] at this
  obtain⟨h1,h2,h3,A,c',h4,h5⟩:=HC.out i h hi;exact⟨key 0 _ (by omega) h1,key 1 _ (by omega) h2,key 2 _ (by omega) h3,A,c',key 3 _ (by omega) h4,h5.gr hB hG.out⟩
def Hz (h:EG)(A:Option O)(c:Nat):List Value:=[U I h.heads,U I h.E3,U I h.most,Y A h.off.length c,U I h.heads]
def DM:(DU.info? 199).map (λi=>(i.zero,i.size,i.bytes))=J (J (.agg #[U I 0,U I 0,U I 0,.slice Z 0 0,U I 0]),5,56):=by
 rw[Do];kernel_rfl
def ym {w:X}{ops:Array Oper}{rest:List Oper}{o:Oper}{a:Act}{Q:Exit->Act->X->Prop}(hgd:o.guard=Z)(s x:Operand)(ho:o.op=.call { callee:=.builtin .append,args:=#[s,x],argTypes:=#[195,195] })
  (base:Nat) (v:C) (n:Nat) (xs:List C) (hs:a.eval s=v) (zm:w.ownsRow base 199 5 v n xs) (ad:O) (c:Nat) (news:List C) (hx:a.eval x=.slice (J ad) 1 c) (h5:news.length=5) (hc:∀(j:Nat) (u:C),news[j]?=J u->w.cell? (ad.add j)=J u) (h1:∀u∈news,u.oneCell'=bb)
  (hn:n<=1048576) (hbase:base<=w.heap.size) (h:∀v' w',w'.ownsRow base 199 5 v' (n+1) (xs++news)->w.grownBy w' v.ownBlock->w.drawn<=w'.drawn->wpList DU ops Q rest (a.put o.dst v') w'):wpList DU ops Q (o::rest) a w:=by
 obtain⟨i0,hi,zF,zE,zD⟩:=V DM;exact EA hgd s x 195 ho base 199 i0 _ 5 56 ((Sq.underlying 195).trans Tryz.underlying195) hi zF zE zD rfl (by decide) v n xs hs zm ad 1 c news hx (by omega) hc h1 (by unfold maxLen;omega) (by omega) hbase h
def ut (cb:Nat)(nA hA:Option O)(nc hc:Nat)(c:D9)(w:X)(B:Nat)(hB:B<=w.heap.size)(h:FE w B cb c nA hA nc hc)(hl:c.DV.length<=1048576) :
  L DU 138 #[.pointer (J ⟨cb,0,Z⟩)] w λe w'=>∃v xs,e=.returned v/\w'.ownsRow w.heap.size 199 5 v c.DV.length xs/\Gr w w'/\∀i,i<c.DV.length->∃A m,∀j,j<5->xs[i*5+j]?=(Hz (c.h i) A m)[j]?:=by
 have zw:=h.c1;have zY:=h.lt;have HH:=Ay h.Fx;go_enter Sq.func138,Tryz.ntmps138;go_wp2;go_loopw [3,13] (λv i wr=>∃k:Nat,k<=c.DV.length/\i=U I k/\Gr w wr/\∃xs,wr.ownsRow w.heap.size 199 5 v k xs/\∀i,i<k->∃A m,∀j,j<5->xs[i*5+j]?=(Hz (c.h i) A m)[j]?) (λ_ i _=>c.DV.length-(E i).toNat)
 case atStart=>exact⟨0,by omega,rfl,.refl _,[],Bw _ _ _ _,λi hi=>AI hi (by omega)⟩
 case round =>
  obtain⟨k,hk,rfl,hg,xs,zm,a7⟩:=hrel;have HG:=Ay hg;have HX:=Ay a7;by_cases a6:k<c.DV.length
  .obtain⟨b,o,rfl,hb,h0,h1,h2,A_,m,h3,_⟩:=(HH.out.keep (w':=wr) λb o hb=>HG.out.cell (AC hb hB)).at_ a6;have hz:=HG.out.size;go_wp2_with (at_builtin;refine ym rfl _ _ rfl w.heap.size _ _ _ rfl ((zm.alloc _).alloc _ |>.alloc _) ⟨wr.heap.size+1+1,0,Z⟩ 1 (Hz (c.h k) A_ m) rfl rfl ?c1 ?c2 ?c3 ?c4 ?_)
   case c1 =>
    intro j u hj;rw[G,AO,AE _ _ _ _ (by simp)]
    match j,hj with
    |0,hj=>exact hj
    |1,hj=>exact hj
    |2,hj=>exact hj
    |3,hj=>exact hj
    |4,hj=>exact hj
    |j+5,hj=>simp[Hz] at hj
   case c2=>intro u hu;simp[Hz] at hu;rcases hu with rfl|rfl|rfl|rfl|rfl<;>rfl
   case c3=>omega
   case c4=>simp;omega
   intro v' w3 hown' hgrow hd;have a8:=Ay ((((HG.out.alloc _).alloc _).alloc _).grown hgrow hd λq hq=>(zm.lt q hq).1);have zl:xs.length=k*5:=zm.1;have aA:Hid (∀i,i<k+1->∃A m',∀j,j<5->(xs++Hz (c.h k) A_ m)[i*5+j]?=(Hz (c.h i) A m')[j]?):=Ay λi hi=>by
    obtain h|h:=Br i k
    .obtain⟨A',m',hh⟩:=HX.out i h;exact⟨A',m',λj hj=>by rw[Bl (by omega)];exact hh j hj⟩
    .obtain rfl:i=k:=by omega
     exact⟨A_,m,λj hj=>by rw[Bo (by omega),zl];congr 1;omega⟩
   have aB:=Ay hown';go_wp2;go_roundw
   case rel=>exact⟨k+1,by omega,by go_num,a8.out,_,aB.out,aA.out⟩
   case measure=>simp[Proofs.intOf];omega
  .have aC:k=c.DV.length:=by omega
   subst aC;have HO:=Ay zm;go_wp2;go_ret;exact⟨_,xs,rfl,HO.out,HG.out,HX.out⟩
structure Nx (w:X)(g:Nat)(l:List Int):Prop where
 lt:g<w.heap.size
 left:∀(i:Nat) (x:Int),l[i]?=J x->w.cell? ⟨g,i*5+4,Z⟩=J (U I x)
 free:∀o,w.frozen? ⟨g,o,Z⟩=f
 rest:∀(i:Nat) (x:Int),l[i]?=J x->∃(n0 n1 n2:Int) (A:Option O) (m c:Nat),w.cell? ⟨g,i*5,Z⟩=J (U I n0)/\w.cell? ⟨g,i*5+1,Z⟩=J (U I n1)/\w.cell? ⟨g,i*5+2,Z⟩=J (U I n2)/\w.cell? ⟨g,i*5+3,Z⟩=J (Y A m c)
def Nx.RD {w:X}{g:Nat}{l:List Int}(h:Nx w g l):Ow w w.heap.size (J ⟨g,0,Z⟩) l:=λ_=>⟨g,0,rfl,h.lt,λi x hx=>by
 simp only[AO]
 exact⟨h.left i x hx,h.rest i x hx⟩⟩
def Nx.keep {w w':X}{g:Nat}{l:List Int}(h:Nx w g l)(hz:w.heap.size<=w'.heap.size)(hk:w'.heap[g]?=w.heap[g]?):Nx w' g l:=by
 have e:∀o,w'.cell? ⟨g,o,Z⟩=w.cell? ⟨g,o,Z⟩:=λo=>AT hk;refine⟨AC h.lt hz,λi x hx=>(e _).trans (h.left i x hx),λo=>(CE hk).trans (h.free o),λi x hx=>?_⟩;obtain⟨n0,n1,n2,A,m,c,h0,h1,h2,h3⟩:=h.rest i x hx;exact⟨n0,n1,n2,A,m,c,(e _).trans h0,(e _).trans h1,(e _).trans h2,(e _).trans h3⟩
def Nx.set {w:X}{g:Nat}{l:List Int}(h:Nx w g l){k:Nat}(hk:k<l.length)(y:Int):Nx (w.setCell ⟨g,k*5+4,Z⟩ (U I y)) g (l.set k y):=by
 have hz:(w.setCell ⟨g,k*5+4,Z⟩ (U I y)).heap.size=w.heap.size:=by simp[N]
 have old:∀i x,(l.set k y)[i]?=J x->∃x',l[i]?=J x':=λi x hx=>by
  have:=(AV.1 hx).1;rw[Dd] at this;exact⟨_,AB this⟩
 refine⟨by rw[hz];exact h.lt,λi x hx=>?_,λo=>(BI _ _ _ _).trans (h.free o),λi x hx=>?_⟩
 .by_cases e:i=k
  .subst e;rw[CF hk] at hx;cases hx;exact AQ _ _ _ (h.left i _ (AB hk))
  .rw[Cl (Ne.symm e)] at hx;rw[AL _ _ _ _ (by simp<;>omega)];exact h.left i x hx
 .obtain⟨x',a6⟩:=old i x hx;obtain⟨n0,n1,n2,A,m,c,h0,h1,h2,h3⟩:=h.rest i x' a6;refine⟨n0,n1,n2,A,m,c,?_,?_,?_,?_⟩
  all_goals rw[AL _ _ _ _ (by simp<;>omega)]
  .exact h0
  .exact h1
  .exact h2
  .exact h3
def aO:List (Int×Int)->List C
 |[]=>[]
 |p::l=>U I p.1::U I p.2::aO l
def lL (l m:List (Int×Int)):aO (l++m)=aO l++aO m:=by
 induction l with
 |nil=>rfl
 |cons p l ih=>simp[aO,ih]
def iB {l:List (Int×Int)}{i:Nat}(h:i<l.length):(aO l)[i*2]?=J (U I (l[i]?.getD (0,0)).1)/\(aO l)[i*2+1]?=J (U I (l[i]?.getD (0,0)).2):=by
 induction l generalizing i with
 |nil=>simp at h
 |cons p l ih =>
  cases i with
  |zero=>exact⟨rfl,rfl⟩
  |succ i =>
   have:=ih (i:=i) (by simpa using h);rw[Nat.succ_mul];simpa [aO] using this
def DN:(DU.info? 160).map (λi=>(i.zero,i.size,i.bytes))=J (J (.agg #[U I 0,U I 0]),2,16):=by
 rw[Do];kernel_rfl
def yn {w:X}{ops:Array Oper}{rest:List Oper}{o:Oper}{a:Act}{Q:Exit->Act->X->Prop}(hgd:o.guard=Z)(s x:Operand)(ho:o.op=.call { callee:=.builtin .append,args:=#[s,x],argTypes:=#[157,157] })
  (base:Nat) (v:C) (n:Nat) (xs:List C) (hs:a.eval s=v) (zm:w.ownsRow base 160 2 v n xs) (ad:O) (c:Nat) (u1 u2:C) (hx:a.eval x=.slice (J ad) 1 c) (zw:w.cell? (ad.add 0)=J u1) (zt:w.cell? (ad.add 1)=J u2) (h1:u1.oneCell'=bb) (h2:u2.oneCell'=bb)
  (hn:n<=1048576) (hbase:base<=w.heap.size) (h:∀v' w',w'.ownsRow base 160 2 v' (n+1) (xs++[u1,u2])->w.grownBy w' v.ownBlock->w.drawn<=w'.drawn->wpList DU ops Q rest (a.put o.dst v') w'):wpList DU ops Q (o::rest) a w:=by
 obtain⟨i0,hi,zF,zE,zD⟩:=V DN;refine EA hgd s x 157 ho base 160 i0 _ 2 16 ((Sq.underlying 157).trans Tryz.underlying157) hi zF zE zD rfl (by decide) v n xs hs zm ad 1 c [u1,u2] hx rfl (λj u hj=>?_) (λu hu=>?_) (by unfold maxLen;omega) (by omega) hbase h
 .match j,hj with
  |0,hj=>cases hj;exact zw
  |1,hj=>cases hj;exact zt
 .simp only[AJ,AG,or_false] at hu;obtain rfl|rfl:=hu
  .exact h1
  .exact h2
def uu (cb:Nat)(nA hA A:Option O)(nc hc wc:Nat)(c:D9)(r:EH)(ws:List Int)(w:X)(h:FE w w.heap.size cb c nA hA nc hc)(aL:c.Ok)(hr:∀i,c.has (r i))(aU:∀x∈ws,0<=x/\x<=60)(bU:ws.length<=5)(hw:RI w w.heap.size A ws) :
  L DU 95 #[.pointer (J ⟨cb,0,Z⟩),Fl r,Y A ws.length wc] w λe w'=>∃v,e=.returned v/\w'.ownsRow (w.heap.size+1) 160 2 v (FU c r ws).length (aO (FU c r ws))/\Gr w w':=by
 obtain⟨W0,zM⟩:∃W0:X,W0=w.alloc (.cells #[.int .u8 (r 0),.int .u8 (r 1),.int .u8 (r 2),.int .u8 (r 3),.int .u8 (r 4)] 72):=⟨_,rfl⟩;have zL:Gr w W0:=zM▸(Gr.refl w).alloc _;have zF:W0.heap.size=w.heap.size+1:=by rw[zM];simp
 have aM:FE W0 W0.heap.size cb c nA hA nc hc:=h.on zL;have aN:=Ay (ut cb nA hA nc hc c W0 W0.heap.size (AA _) aM (by have:=aL.h4;omega));have bI:=Ay aM;have bJ:Hid (∀i,i<5->W0.cell? ⟨w.heap.size,i,Z⟩=J (.int .u8 (r i:Nat))):=Ay λi hi=>by
  rw[zM,AE _ _ _ _ (by simp)]
  match i,hi with
  |0,_=>rfl
  |1,_=>rfl
  |2,_=>rfl
  |3,_=>rfl
  |4,_=>rfl
 have bK:=Ay (hw.gr (AA _) zL);have HW:=Ay zM;have aV:=Ay zL;have aC:=Ay aL;have HR:=Ay hr;have HWS:=Ay aU;clear zM zL aM h aL hr aU hw;unfold Fl;go_enter Sq.func95,Tryz.ntmps95;go_wp2_with fail;rw[<-HW.out];refine aN.out.mono ?_;rintro e w1 ⟨v1,xs,rfl,zm,zJ,aW⟩;have h1:=aC.out.h1;obtain⟨g,cap,rfl,zQ⟩:∃g cap,v1=.slice (J ⟨g,0,Z⟩) c.DV.length cap/\W0.heap.size<=g:=by
  obtain⟨_,h0⟩|⟨g,cap,cur,rfl,h2,_⟩:=zm.2
  .omega
  .exact⟨g,cap,rfl,h2⟩
 have hoW:Nx w1 g (Ey c r ws 0).1:=by
  have hl0:(Ey c r ws 0).1=c.DV.map (·.heads):=rfl;have hcell:=zm.cells (g:=g) rfl;have e5:∀i x,(Ey c r ws 0).1[i]?=J x->∃A m,x=(c.h i).heads/\∀j,j<5->∀u,(Hz (c.h i) A m)[j]?=J u->w1.cell? ⟨g,i*5+j,Z⟩=J u:=λi x hx=>by
   rw[hl0] at hx;have aP:i<c.DV.length:=by have:=(AV.1 hx).1;simpa using this
   obtain⟨A',m,hh⟩:=aW i aP;refine⟨A',m,?_,λj hj u hu=>?_⟩
   .rw[BK,AB aP] at hx;cases hx;unfold D9.h;rw[AB aP];rfl
   .have:=hcell (i*5+j) u ((hh j hj).trans hu);have e:(⟨g,0,Z⟩:O).add (i*5+j)=⟨g,0+(i*5+j),Z⟩:=by unfold Addr.add;split<;>simp_all
    rw[e,AO] at this;exact this
  refine⟨(zm.lt g rfl).2,λi x hx=>?_,λo=>?_,λi x hx=>?_⟩
  .obtain⟨A',m,rfl,hc⟩:=e5 i x hx;exact hc 4 (by omega) _ rfl
  .obtain⟨hb,_⟩|⟨g2,bT,cur,e2,_,hb,_⟩:=zm.2
   .cases hb
   .have e3:g=g2:=by injection e2 with a;injection a with a;injection a
    subst e3;unfold H;rw[hb];simp
  .obtain⟨A',m,rfl,hc⟩:=e5 i x hx;exact⟨_,_,_,_,_,_,hc 0 (by omega) _ rfl,hc 1 (by omega) _ rfl,hc 2 (by omega) _ rfl,hc 3 (by omega) _ rfl⟩
 have HOW:=Ay hoW;have bL:=Ay zJ;have b9:=(zm.lt g rfl).2;have zE:=zJ.size;clear zm zJ aW hoW aN;go_wp2;go_loopw [7,16] (λv i wr=>∃k:Nat,k<=ws.length/\i=U I k/\Gr W0 wr/\Nx wr g (Ey c r ws k).1/\wr.ownsRow w1.heap.size 160 2 v (Ey c r ws k).2.length (aO (Ey c r ws k).2)/\w1.heap.size<=wr.heap.size) (λ_ i _=>ws.length-(E i).toNat)
 case atStart=>exact⟨0,by omega,rfl,bL.out,HOW.out,Bw _ _ _ _,AA _⟩
 case round =>
  obtain⟨wq,rfl⟩:∃wq,wq=wr:=⟨_,rfl⟩;obtain⟨k,hk,rfl,zV,hoq,zm,hzq⟩:=hrel;have aX:=Ay zV;have HOQ:=Ay hoq;have aY:=Ay zm;by_cases zY:k<ws.length
  .obtain⟨b,o,rfl,hb,zP⟩:=(bK.out.gr (by omega) zV).at_ zY;have bV:wq.cell? ⟨w.heap.size,k,Z⟩=J (.int .u8 (r k:Nat)):=(zV.cell (by show w.heap.size<_;omega)).trans (bJ.out k (by omega));have HD:=Ay (q8 cb c (r k) wq (bI.out.on zV) aC.out.h4 aC.out.E3 (HR.out k));have aZ:=MQ c (HR.out k) aC.out.E3 (c.JZ (r k)).length;rw[Ct,<-DG] at aZ;have hx:=HWS.out _ (Ge ws k zY);have aD:=Ay (show Ke c r ws k=(ws[k]?.getD 0-c.E3 (r k)).toNat from rfl)
   obtain⟨T,hT⟩:∃T,T=Ke c r ws k:=⟨_,rfl⟩;rw[<-hT] at aD;have HTT:=Ay hT;have aQ:=Hj.all aC.out (r:=r) (ws:=ws) (AA _) k hk;have bM:=Ay aQ;generalize c.E3 (r k)=D at HD aZ aD;generalize ws[k]?.getD 0=x at zP hx aD;have hmax:(max 0 (x-D):Int)=(T:Int):=by rw[aD.out];omega
   have hmax':(if(x-D)<0 then(0:Int) else x-D)=(T:Int):=by rw[aD.out];split<;>omega
   have hT60:T<=60:=by rw[aD.out];omega
   clear zV hoq zm hT aQ;go_wp2_with fail;refine HD.out.mono ?_;rintro e w2 ⟨rfl,zI⟩;have bN:=Ay (aX.out.trans zI);have bA:=zI;have zD:=zI.size;have bB:=Ay (HOQ.out.keep zI.size (zI.below.block g HOQ.out.lt));have bC:=Ay (ar aY.out λq _ hl=>zI.below.block q hl);have hgT:(T:Int)<=60:=by omega
   clear zI bA HD;go_wp2;go_loopw [7,29] (λv i wr=>∃m:Nat,m<=T/\i=U I m/\Gr W0 wr/\Nx wr g (Fj k (Ey c r ws k) m).1/\wr.ownsRow w1.heap.size 160 2 v (Fj k (Ey c r ws k) m).2.length (aO (Fj k (Ey c r ws k) m).2)/\w1.heap.size<=wr.heap.size) (λ_ i _=>T-(E i).toNat)
   case atStart=>exact⟨0,by omega,rfl,bN.out,bB.out,bC.out,by omega⟩
   case round =>
    obtain⟨m,hm,rfl,b5,hoi,aR,bO⟩:=hrel;have aS:=Ay b5;have a8:=Ay hoi;have aA:=Ay aR;clear b5 hoi aR;by_cases hlm:m<T
    .have b6:=bM.out.it (d:=k) zY m;have aF:=Ay b6;obtain⟨S,hS⟩:∃S,S=Fj k (Ey c r ws k) m:=⟨_,rfl⟩;have b7:Hid (Fj k (Ey c r ws k) (m+1)=dU k S):=Ay (by rw[hS];rfl);rw[<-hS] at a8 aA aF;have HST:=Ay (λh:EP S.1 S.1.length<0=>(nQ (c:=c) (r:=r) (ws:=ws) (k:=k) (m:=m) zY (by rw[<-HTT.out];omega) (by rw[<-hS];exact h)).trans (by rw[<-hS]));have a6:=Ay (yl (J ⟨g,0,Z⟩) cap S.1 wr wr.heap.size (AA _) a8.out.RD (by rw[aF.out.len];have:=aC.out.h4;omega))
     have zl:=aF.out.len
     have bD:=Ay (show S.2.length<=160 by
      have h1:=Hb 0 40 _ aF.out.low;have h2:=aF.out.count
      omega)
     have b8:=jt S.1 S.1.length;have a7:Hid (dU k S=if EP S.1 S.1.length<0 then S else(S.1.set (EP S.1 S.1.length).toNat (S.1[(EP S.1 S.1.length).toNat]?.getD 0-1),S.2++[((k:Int),EP S.1 S.1.length)])):=Ay rfl;rw[zl] at a6 HST a7 b8;have hS':=Ay hS;clear hS b6;generalize EP S.1 c.DV.length=q at a6 HST a7 b8;by_cases hq:q<0
     .have HLL:=Ay (HST.out hq);have hqd:decide (q<0)=true:=by simpa using hq
      clear HST a7;go_wp2_with fail;refine a6.out.mono ?_;rintro e w3 ⟨rfl,zH⟩;have aT:=Ay zH;have aB:=Ay (ar aA.out λq _ hl=>zH.below.block q hl);clear zH a6;go_wp2;go_ret;refine⟨_,rfl,?_,aV.out.trans (aS.out.trans aT.out)⟩;rw[HLL.out];exact Fe aB.out (by omega)
     .obtain⟨j,rfl⟩:∃j:Nat,q=j:=⟨q.toNat,by omega⟩;have aJ:=Ay (b7.out.trans (a7.out.trans (AD hq)));rw[CY] at aJ;have aH:j<S.1.length:=by omega
      have bE:=aF.out.low _ (Ge S.1 j aH);have HLF:=Ay (a8.out.left j _ (AB aH));have hqd:decide ((j:Int)<0)=false:=by simp
      clear HST a7 b7 hq;go_wp2_with fail;refine a6.out.mono ?_;rintro e w3 ⟨rfl,zH⟩;have aT:=Ay zH;have hb3:=zH.below.block g a8.out.lt;have aB:=Ay (ar aA.out λq _ hl=>zH.below.block q hl);have aG:=Ay (a8.out.keep zH.size hb3);have hz3:=zH.size;have hcell:w3.cell? ⟨g,j*5+4,Z⟩=J (U I (S.1[j]?.getD 0)):=by
       rw[AB aH];exact aG.out.left j _ (AB aH)
      have bW:=aG.out.free (j*5+4);have HX:Hid (Nx (w3.setCell ⟨g,j*5+4,Z⟩ (U I (S.1[j]?.getD 0-1))) g (S.1.set j (S.1[j]?.getD 0-1))):=Ay (aG.out.set aH _);generalize S.1[j]?.getD 0=y at bE hcell HX aJ;have hjh:j<c.DV.length:=by omega
      have hglt:g<w3.heap.size:=aG.out.lt;have bP:g<w1.heap.size:=b9;clear zH a6;go_wp2_with (at_builtin;refine yn rfl _ _ rfl w1.heap.size _ _ _ rfl ((ownsRow_setCell_below aB.out (by show g<_;omega) _).alloc _) ⟨w3.heap.size,0,Z⟩ 1 (U I k) (U I j) rfl ?c1 ?c2 rfl rfl ?c3 ?c4 ?_)
      case c1=>rw[Addr.add_lit,AE _ _ _ _ (by simp)];rfl
      case c2=>rw[Addr.add_lit,AE _ _ _ _ (by simp)];rfl
      case c3=>have:=bD.out;omega
      case c4=>simp;omega
      intro v' w4 hown' hgrow hd;have aI:=hgrow.size;simp only[C3] at aI;have bF:Gr W0 w4:=(((aS.out.trans aT.out).setCell (p:=⟨g,j*5+4,Z⟩) (by show _<=g;omega) (U I (y-1))).alloc _).grown hgrow hd λq hq=>by have:=(aB.out.lt q hq).1;omega
      have zU:J g≠_:=dz aB.out bP;have bQ:=(hgrow.block g (by simp[N];omega) zU).trans (heap_alloc_old _ _ (by simp[N];omega));have bG:=Ay (HX.out.keep (w':=w4) (by simp[N] at aI ⊢;omega) bQ);have bH:=Ay bF;have aK:Hid ((Fj k (Ey c r ws k) (m+1)).2.length=S.2.length+1/\aO (Fj k (Ey c r ws k) (m+1)).2=aO S.2++[U I k,U I j]):=Ay (by rw[aJ.out,lL];exact⟨by simp,rfl⟩)
      have HO4:Hid (w4.ownsRow w1.heap.size 160 2 v' (Fj k (Ey c r ws k) (m+1)).2.length (aO (Fj k (Ey c r ws k) (m+1)).2)):=Ay (by rw[aK.out.1,aK.out.2];exact hown');have HX4:Hid (Nx w4 g (Fj k (Ey c r ws k) (m+1)).1):=Ay (by rw[aJ.out];exact bG.out);have bR:w1.heap.size<=w4.heap.size:=by simp[N] at aI;omega
      go_wp2;go_roundw
      case rel=>exact⟨m+1,by omega,by go_num,bH.out,HX4.out,HO4.out,bR⟩
      case measure=>simp[Proofs.intOf];omega
    .have hmt:m=T:=by omega
     have HE:Hid (Ey c r ws (k+1)=Fj k (Ey c r ws k) m):=Ay (by rw[hmt,HTT.out];rfl);rw[<-HE.out] at a8 aA;subst hmt;go_wp2;go_roundw
     case rel=>exact⟨k+1,by omega,by go_num,aS.out,a8.out,aA.out,bO⟩
     case measure=>simp[Proofs.intOf];omega
  .have bS:k=ws.length:=by omega
   subst bS;go_wp2;go_ret;exact⟨_,rfl,Fe aY.out (by omega),aV.out.trans aX.out⟩
end Go.Sq
