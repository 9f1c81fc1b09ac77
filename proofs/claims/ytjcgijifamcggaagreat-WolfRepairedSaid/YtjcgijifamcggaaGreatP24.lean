/- Parts of the proof. -/
import Derived.Test.YtjcgijifamcggaaGreatP22
import Derived.Test.YtjcgijifamcggaaGreatP15
import Derived.Test.YtjcgijifamcggaaGreatP00
import Derived.Test.YtjcgijifamcggaaGreatP23
import Derived.Laws.AppendOwnNone
set_option linter.all false
set_option maxHeartbeats 3200000
set_option maxRecDepth 1000000
namespace Go.Sq
open Go.Proofs.YtjcgijifamcggaaGreat
def subs (n:Nat):Nat->List (List Int)
 |0=>[[]]
 |k+1=>[]::((subs n k).map (((n-(k+1):Nat):Int)::·)++(subs n k).tail)
def CW (n:Nat):Nat->List (List Int)
 |0=>[[]]
 |m+1=>(List.range n).flatMap λi:Nat=>(CW n m).map ((i:Int)::·)
def aY (S:List (List Int))(w:List Int):List (List Int):=w.map λi=>S[i.toNat]?.getD []
def Dl (N m:Nat):List (List (List Int)):=(CW (subs m m).length N).map (aY (subs m m))
def pow {α:Type}(S:List α):Nat->List (List α)
 |0=>[[]]
 |k+1=>S.flatMap λs=>(pow S k).map (s::·)
def pf {α:Type}(d:α)(S:List α):(List.range S.length).map (λi=>S[i]?.getD d)=S:=by
 refine zE (by simp) λi h1 h2=>?_;simp[h2]
def pg {α β:Type}(d:α)(S:List α)(g:α->List β):S.flatMap g=(List.range S.length).flatMap λi=>g (S[i]?.getD d):=by
 have h:S.flatMap g=((List.range S.length).map (λi=>S[i]?.getD d)).flatMap g:=by rw[pf]
 rw[h,List.flatMap_map]
def qM (S:List (List Int))(N:Nat):(CW S.length N).map (aY S)=pow S N:=by
 induction N with
 |zero=>rfl
 |succ N ih =>
  simp only[CW,pow];rw[List.map_flatMap,pg [] S];congr 1;funext i;rw[zT,<-ih,zT];congr 1
def fp (N m:Nat):Dl N m=pow (subs m m) N:=qM _ _
def nF {α β:Type}(f:α->β)(S:List α)(k:Nat):pow (S.map f) k=(pow S k).map (List.map f):=by
 induction k with
 |zero=>rfl
 |succ k ih =>
  simp only[pow];rw[List.flatMap_map,List.map_flatMap,ih];congr 1;funext s;rw[zT,zT]
  rfl
def KJ {α:Type}{S:List α}:∀ {k:Nat} {x:List α},x∈pow S k->x.length=k/\∀y∈x,y∈S:=by
 intro k
 induction k with
 |zero=>intro x hx;simp[pow] at hx;subst hx;exact⟨rfl,by simp⟩
 |succ k ih =>
  intro x hx;simp only[pow,List.mem_flatMap,xU] at hx;obtain⟨s,hs,y,hy,rfl⟩:=hx;obtain⟨h1,h2⟩:=ih hy;exact⟨by simp[h1],λz hz=>(xC.1 hz).elim (λe=>e▸hs) (h2 z)⟩
def jC {α:Type}(S:List α)(k:Nat):(pow S k).length<=S.length ^ k:=by
 induction k with
 |zero=>exact xp _
 |succ k ih =>
  simp only[pow,List.length_flatMap,ye];rw[List.map_const',List.sum_replicate_nat,Nat.pow_succ,Nat.mul_comm];exact Nat.mul_le_mul_right _ ih
def kF:∀m,m<=4->subs m m=(Bo m).map wl:=five ⟨by decide,by decide,by decide,by decide,by decide⟩
def Jw:Bt->Nat->List Nat->Bt
 |r,_,[]=>r
 |r,n,x::xs=>Jw (upd r n x) (n+1) xs
def Ez (c:AW):Bt->Nat->List Nat->Bool
 |_,_,[]=>true
 |r,n,x::xs=>decide ((Bq c (upd r n x) n).1=0)&&Ez c (upd r n x) (n+1) xs
def iW (c:AW)(S:List Nat)(k:Nat):∀(r:Bt) (n:Nat),Bz c S k r n=((pow S k).filter (Ez c r n)).map (Jw r n):=by
 induction k with
 |zero=>intro r n;rfl
 |succ k ih =>
  intro r n;simp only[Bz,pow];rw[List.filter_flatMap,List.map_flatMap];congr 1;funext x;rw[List.filter_map];by_cases h:(Bq c (upd r n x) n).1=0
  .rw[if_pos h,ih,zT];have e:(Ez c r n ∘ λy=>x::y)=Ez c (upd r n x) (n+1):=by
    funext y;simp[Ez,h]
   rw[e]
   rfl
  .rw[if_neg h];have e:(Ez c r n ∘ λy=>x::y)=λ_=>false:=by
    funext y;simp[Ez,h]
   rw[e];simp
def iu (xs:List Nat):∀(r:Bt) (n i:Nat),Jw r n xs i=if n<=i/\i<n+xs.length then xs[i-n]?.getD 0 else r i:=by
 induction xs with
 |nil=>intro r n i;simp[Jw];omega
 |cons x xs ih =>
  intro r n i;simp only[Jw];rw[ih];by_cases h1:n+1<=i/\i<n+1+xs.length
  .rw[if_pos h1,if_pos (by simp;omega),show i-n=i-(n+1)+1 by omega,List.getElem?_cons_succ]
  .rw[if_neg h1];unfold upd;by_cases h2:i=n
   .subst h2;rw[if_pos rfl,if_pos (by simp)];simp
   .rw[if_neg h2,if_neg (by simp;omega)]
def mf {r r':Nat->Nat}(n:Nat):∀k,(∀i,i<k->r i=r' i)->DZ r n k=DZ r' n k:=by
 intro k
 induction k with
 |zero=>intro _;rfl
 |succ k ih =>
  intro h;simp only[DZ];rw[ih λi hi=>h i (by omega),h k (by omega)]
def mR {c:AW}{r r':Nat->Nat}{n:Nat}(h:∀i,i<=n->r i=r' i):Bq c r n=Bq c r' n:=by
 have hb:∀i,breaks c r n i=breaks c r' n i:=λi=>by
  unfold breaks;rw[h n (xp _)];congr 1;funext z
  match i with
  |0=>rfl
  |1 =>
   show cZ r n _=cZ r' n _;unfold cZ;rw[h (n-1) (by omega)]
  |k+2 =>
   show ge c r n _=ge c r' n _;unfold ge;rw[mf _ _ λi hi=>h i (by omega)]
 unfold Bq;rw[hb,hb,hb,h n (xp _)]
def ph (c:AW)(xs:List Nat):∀(r:Bt) (n:Nat),Ez c r n xs=true↔∀i,i<xs.length->(Bq c (Jw r n xs) (n+i)).1=0:=by
 induction xs with
 |nil=>intro r n;simp[Ez]
 |cons x xs ih =>
  intro r n;simp only[Ez,xG,decide_eq_true_eq];rw[ih];have e0:Bq c (upd r n x) n=Bq c (Jw r n (x::xs)) n:=mR λi hi=>by
   show _=Jw (upd r n x) (n+1) xs i;rw[iu,if_neg (by omega)]
  rw[e0];constructor
  .rintro⟨h1,h2⟩ i hi;cases i with
   |zero=>exact h1
   |succ i =>
    have:=h2 i (by simpa using hi)
    rwa [show n+1+i=n+(i+1) by omega] at this
  .intro h;refine⟨h 0 (by simp),λi hi=>?_⟩;have:=h (i+1) (by simpa using hi)
   rwa [show n+(i+1)=n+1+i by omega] at this
def CL (c:AW)(ls:List (List Int)):Bool:=(List.range c.AK.length).all λi=>decide ((Bq c (AP ls) i).1=0)
def wm:∀x:Fin 16,G4 (wl x.val)=x.val:=by decide +kernel
def uI {xs:List Nat}(h:∀x∈xs,x<16):AP (xs.map wl)=Jw Cv 0 xs:=by
 funext i;rw[iu];unfold AP;rw[yw];by_cases hi:i<xs.length
 .rw[if_pos (by omega),Nat.sub_zero,xq hi];exact wm ⟨_,h _ (yn hi)⟩
 .rw[if_neg (by omega),yO (by omega)]
  rfl
def sM {c:AW}{xs:List Nat}(h:∀x∈xs,x<16)(hl:xs.length=c.AK.length):CL c (xs.map wl)=Ez c Cv 0 xs:=by
 rw[Bool.eq_iff_iff,ph];unfold CL;rw[yu];simp only[yb,decide_eq_true_eq,uI h,hl,xM]
def qN {xs:List Nat}:BJ (Jw Cv 0 xs) xs.length=xs.map wl:=by
 refine zE (by simp[BJ]) λi h1 h2=>?_;have hi:i<xs.length:=by simpa using h2
 simp only[BJ,zt,zO];rw[iu,if_pos (by omega),Nat.sub_zero,xq hi]
 rfl
def ie (c:AW):List (List (List Int)):=(Dl c.AK.length c.AH.length).filter (CL c)
def pi {c:AW}(hc:c.AH.length<=4):ie c=(Bz c (Bo c.AH.length) c.AK.length Cv 0).map λr=>BJ r c.AK.length:=by
 have hlt:∀ {x:List Nat},x∈pow (Bo c.AH.length) c.AK.length->x.length=c.AK.length/\∀y∈x,y<16:=λhx=>by
  obtain⟨h1,h2⟩:=KJ hx;exact⟨h1,λy hy=>xx (fN _ hc y (h2 y hy)) (yy (by omega) hc)⟩
 unfold ie;rw[fp,kF _ hc,nF,iW,List.filter_map,zT];have e:(pow (Bo c.AH.length) c.AK.length).filter (CL c ∘ List.map wl)=(pow (Bo c.AH.length) c.AK.length).filter (Ez c Cv 0):=zz λx hx=>by
  obtain⟨h1,h2⟩:=hlt hx;exact sM h2 h1
 rw[e];refine List.map_congr_left λx hx=>?_;obtain⟨h1,_⟩:=hlt (yX.1 hx).1;show _=BJ (Jw Cv 0 x) c.AK.length;rw[<-h1,qN]
def j5 {c:AW}(Ij:Bi c=0){ls:List (List Int)}(h:ls∈Dl c.AK.length c.AH.length):Ba c ls=0:=by
 have hc:=(AW.Ok.of Ij).h4;rw[fp,kF _ hc,nF] at h;obtain⟨x,hx,rfl⟩:=xU.1 h;obtain⟨h1,h2⟩:=KJ hx;refine kD Ij (by simp[h1]) λl hl=>?_;obtain⟨y,hy,rfl⟩:=xU.1 hl;have hlt:=fN _ hc y (h2 y hy);refine⟨y.testBit,dp (cH _ 4) (cH _ _) λz=>?_⟩;show z∈Bd y.testBit 4↔_;rw[CE,CE];constructor
 .rintro⟨n,e,_,hb⟩;exact⟨n,e,iY hlt hb,hb⟩
 .rintro⟨n,e,hn,hb⟩;exact⟨n,e,by omega,hb⟩
def LW (N:Nat)(l:List Int)(d:Int):List Int:=Bd (λi=>decide ((i:Int)=d\/(i:Int)∈l)) N
def qO {l:List Int}{N:Nat}{d:Int}(hl:De l N=0)(hd:0<=d/\d<N):dj l d=LW N l d:=by
 obtain⟨h1,_,h2⟩:=FM hl;have hp:=l7 h2;have FL:∀z,z∈LW N l d↔z=d\/z∈l:=λz=>by
  unfold LW;rw[CE];constructor
  .rintro⟨n,rfl,_,h⟩;simpa using h
  .intro h;have hz:0<=z/\z<N:=by
    rcases h with rfl|h
    .exact hd
    .exact h1 z h
   exact⟨z.toNat,by omega,by omega,by
    rw[show((z.toNat:Nat):Int)=z by omega]
    simpa using h⟩
 unfold dj;by_cases I3:d∈l
 .rw[if_pos I3];refine dp hp (cH _ _) λz=>?_;show z∈l↔z∈LW N l d;rw[FL];exact⟨.inr,λh=>h.elim (λe=>e▸I3) id⟩
 .rw[if_neg I3];have Vo:=List.mergeSort_perm (l++[d]) (λx y:Int=>decide (x<=y));have hs:=List.pairwise_mergeSort (le:=λx y:Int=>decide (x<=y)) (by intro a b c h1 h2;simp at *;omega) (by intro a b;simp;omega) (l++[d]);have UG:(l++[d]).Nodup:=by
   refine List.nodup_append.2 ⟨hp.imp λh=>by omega,by simp,λa ha b hb=>?_⟩;simp at hb;subst hb;exact λe=>I3 (e▸ha)
  have ag0:=Vo.nodup_iff.2 UG;refine dp ?_ (cH _ _) λz=>?_
  .exact(hs.and ag0).imp λ⟨a,b⟩=>by simp at a;omega
  .show _↔z∈LW N l d;rw[Vo.mem_iff,FL];simp[or_comm]
def sN (N:Nat)(l:List Int)(d:Int):De (LW N l d) N=0:=hP _ _
def FO (c:AW)(k:Nat)(d:Int):AW:={ c with AH:=c.AH.set k { c.h k with off:=LW c.AK.length (c.h k).off d } }
def IB {c:AW}(h:Bi c=0):BV c.AK.length 1 5=0/\(c.AK.all λx=>Ej x 0 12)=true/\BV c.AH.length 1 4=0/\∀x∈c.AH,Dv c.AK.length x=0:=by
 unfold Bi at h;by_cases h1:BV c.AK.length 1 5≠0
 .rw[if_pos h1] at h;exact absurd h h1
 rw[if_neg h1] at h;by_cases h2:(c.AK.all λx=>Ej x 0 12)=false
 .rw[if_pos h2] at h;cases h
 rw[if_neg h2] at h;by_cases h3:BV c.AH.length 1 4≠0
 .rw[if_pos h3] at h;exact absurd h h3
 rw[if_neg h3,aQ] at h;exact⟨Decidable.not_not.1 h1,by simpa using h2,Decidable.not_not.1 h3,λx hx=>h _ (List.mem_map_of_mem hx)⟩
def pj {c:AW}(h1:BV c.AK.length 1 5=0)(h2:(c.AK.all λx=>Ej x 0 12)=true)(h3:BV c.AH.length 1 4=0)(h4:∀x∈c.AH,Dv c.AK.length x=0):Bi c=0:=by
 unfold Bi;rw[if_neg (by simpa using h1),if_neg (by rw[h2];simp),if_neg (by simpa using h3)];exact dx λx hx=>by
  obtain⟨y,hy,rfl⟩:=xU.1 hx;exact h4 y hy
def sO {n:Int}{h:BH}(hh:Dv n h=0):De h.off n=0:=by
 unfold Dv at hh;split at hh
 .exact hh
 .cases hh
def uJ {c:AW}(hc:Bi c=0){k:Nat}(hk:k<c.AH.length){d:Int}(hd:0<=d/\d<c.AK.length):GY c k d=FO c k d:=by
 unfold GY FO;rw[qO (sO ((IB hc).2.2.2 _ (c.GI hk))) hd]
def qP {c:AW}(hc:Bi c=0){k:Nat}(hk:k<c.AH.length)(d:Int):Bi (FO c k d)=0:=by
 obtain⟨h1,h2,h3,h4⟩:=IB hc;refine pj h1 h2 (by simpa [FO] using h3) λx hx=>?_;rcases List.mem_or_eq_of_mem_set hx with hx|rfl
 .exact h4 x hx
 .have:=h4 _ (c.GI hk);unfold Dv at this ⊢;dsimp only[FO] at *;split at this
  .rename_i hb;rw[if_pos hb];exact sN _ _ _
  .cases this
def sP (a b:Bt)(N:Nat)(ha:∀i,N<=i->a i=b i):∀k,N<=k->C2 a b k=C2 a b N:=by
  intro k hk
  induction k with
  | zero => obtain rfl : N = 0 := by omega
            rfl
  |succ k ih =>
    rcases yf k N with h|h
    · obtain rfl:N=k+1:=by omega
      rfl
    · simp only[C2]
      rw[ih h,ha k h,Nat.xor_self];simp[wl,below]
def DI (a b:Nat):Nat->Nat
 |0=>0
 |v+1=>DI a b v+if a.testBit v=b.testBit v then 0 else 1
def pk (a b v:Nat):(below (a ^^^ b) v).length=DI a b v:=by
 induction v with
 |zero=>rfl
 |succ v ih =>
  simp only[DI];rw[<-ih];unfold below;rw[zn,yR,zf,zd];congr 1;cases h:a.testBit v<;>cases h':b.testBit v<;>simp[List.filter_cons,Nat.testBit_xor,h,h']
def uK {a b m:Nat}(ha:a<2 ^ m)(hb:b<2 ^ m)(hm:m<=4):(wl (a ^^^ b)).length=DI a b m:=by
  unfold wl;rw[pk];have key:∀v,m<=v->DI a b v=DI a b m:=λv hv=>by
    induction v with
    | zero => obtain rfl : m = 0 := by omega
              rfl
    |succ v ih =>
      rcases yf v m with h|h
      · obtain rfl:m=v+1:=by omega
        rfl
      · simp only[DI]
        have hz:∀ {x},x<2 ^ m->x.testBit v=false:=λhx=>Nat.testBit_lt_two_pow (xx hx (yy (by omega) h));rw[ih h,hz ha,hz hb];simp
  exact key 4 hm
def sQ (a b v:Nat):DI a b v<=v:=by
 induction v with
 |zero=>exact xp _
 |succ v ih=>simp only[DI];split<;>omega
open Go.RowKit
def AY.grow {w w':World}{b1 b2 n:Nat}{u v:Value}{ls:List (List Int)}{rs xs:List Value}(h:AY w b1 u ls rs)(hv:w.ownsRow b2 22 1 v n xs)(ha:∀g,u.ownBlock=some g->some g≠v.ownBlock)(hg:w.grownBy w' v.ownBlock):AY w' b1 u ls rs :=
 ⟨Bb h.row λg hu hl=>hg.block g hl (ha g hu),λi l hi=>by
  obtain⟨y,h1,h2⟩:=h.cells i l hi
  exact⟨y,h1,Bb h2 λg hu hl=>hg.block g hl (cx (by decide) h2 hv hu)⟩⟩
def AY.gr {w w':World}{base:Nat}{v:Value}{ls:List (List Int)}{xs:List Value}(h:AY w base v ls xs)(hg:Gr w w'):AY w' base v ls xs:=h.keep λb hb=>hg.below.block b hb
def mg {w':World}{base g:Nat}(hb:base<=g)(hg:w'.heap[g]?=some (.cells #[.slice none 0 0] 22 (0,0))):AY w' base (.slice (some ⟨g,0,none⟩) 1 1) [[]] [.slice none 0 0]:=by
 refine⟨⟨rfl,.inr ⟨g,1,_,rfl,hb,hg,xp _,by unfold maxLen;simp,rfl,rfl⟩⟩,λi l hi=>?_⟩;cases i with
 |zero =>
  simp at hi;subst hi;exact⟨_,rfl,x9 _ _ _ _⟩
 |succ i=>simp at hi
end Go.Sq
namespace Go.Proofs.YtjcgijifamcggaaGreat
open Go.RowKit Go.Sq
section
variable {w:World} {ops:Array Oper} {rest:List Oper} {o:Oper} {a:Act} {Q:Exit->Act->World->Prop}
def mh (hgd:o.guard=none)(s x:Operand)(ho:o.op=.call { callee:=.builtin .append,args:=#[s,x],argTypes:=#[22,22] })
  (base B:Nat) (v u:Value) (n m:Nat) (xs ys:List Value) (hs:a.eval s=v) (hown:w.ownsRow base 3 1 v n xs) (hx:a.eval x=u) (hu:w.ownsRow B 3 1 u m ys) (hy:∀y∈ys,y.oneCell'=true)
  (hn:n+m<=1048576) (hbase:base<=w.heap.size) (h:∀v' w',w'.ownsRow base 3 1 v' (n+m) (xs++ys)->w.grownBy w' v.ownBlock->w.drawn<=w'.drawn->wpList AG ops Q rest (a.put o.dst v') w'):wpList AG ops Q (o::rest) a w:=by
 obtain⟨i0,hi,hz0,hz1,hz2⟩:=info_parts Ac;have hl:=hu.1;rcases hu.2 with⟨rfl,h0⟩|⟨g,c,cur,rfl,h1,h2,h3⟩
 .subst h0;have e:ys=[]:=xT (by omega);subst e;refine wpList_append_own_none hgd s x 22 ho base 3 i0 1 Sq.underlying22 hi v n xs hs hown hx ?_;exact h v w (by simpa using hown) (World.grownBy.refl w _) (xp _)
 .exact Bx hgd s x 22 ho base 3 i0 (.int .i64 0) 1 8 Sq.underlying22 hi hz0 hz1 hz2 rfl (by decide) v n xs hs hown ⟨g,0,none⟩ m c ys hx (by omega) (λj u hj=>hu.cells (g:=g) rfl j u hj) hy (by unfold maxLen;omega) (by omega) hbase h
def fF {t e:TypeId}(ht:AG.underlying t=some (.slice e))(he:(AG.info? e).map (λi=>(i.zero,i.size,i.bytes))=some (some (.slice none 0 0),1,24))(hgd:o.guard=none)(s x:Operand)(ho:o.op=.call { callee:=.builtin .append,args:=#[s,x],argTypes:=#[t,t] })
  (base:Nat) (v:Value) (n:Nat) (xs:List Value) (hs:a.eval s=v) (hown:w.ownsRow base e 1 v n xs) (ad:Addr) (c:Nat) (u:Value) (hx:a.eval x=.slice (some ad) 1 c) (hc:w.cell? (ad.add 0)=some u) (h1:u.oneCell'=true)
  (hn:n<=1048576) (hbase:base<=w.heap.size) (h:∀v' w',w'.ownsRow base e 1 v' (n+1) (xs++[u])->w.grownBy w' v.ownBlock->w.drawn<=w'.drawn->(v'.ownBlock=v.ownBlock\/v'.ownBlock=some w.heap.size)->wpList AG ops Q rest (a.put o.dst v') w'):wpList AG ops Q (o::rest) a w:=by
 obtain⟨i0,hi,hz0,hz1,hz2⟩:=info_parts he;refine wpList_plain hgd λK hK=>?_
 obtain⟨v',w',hr,h2,h3,_,h5⟩:=run_append_own_at (P:=AG) w base t o.type e i0 _ 1 24 ht hi hz0 hz1 hz2 rfl (by decide) v n xs hown ad 1 c [u] rfl (λj y hj=>by
  match j,hj with
  |0,hj=>cases hj;exact hc) (λy hy=>by
  simp only[xC,xz,or_false] at hy
  subst hy;exact h1) (by unfold maxLen;omega) (by omega) hbase
 have hd:=Go.Bl.Cy AG (Builtin.append_ #[t,t] o.type #[v,.slice (some ad) 1 c]) w #[];rw[Sem.runT_fst,hr] at hd;unfold Oper.wp execOp;simp only[ho,resolve,invoke,builtin,Sem.run_bind,Sem.run_pure,Result.andThen_ok,zr,yE,yH,hs,hx,hr];exact hK _ _ (h v' w' h2 h3 hd h5)
end
def cells_one {w:World}{v:Value}{t:TypeId}:(w.alloc (.cells #[v] t)).cell? ((⟨w.heap.size,0,none⟩:Addr).add 0)=some v:=by
 rw[Addr.add_lit,xu _ _ _ _ (by simp)];rfl
def nG (w:World){base:Nat}(hb:base<=w.heap.size)(x:Int):(w.alloc (.cells #[.int .i64 x] 3)).ownsRow base 3 1 (.slice (some ⟨w.heap.size,0,none⟩) 1 1) 1 [.int .i64 x] :=
 ⟨rfl,.inr ⟨w.heap.size,1,_,rfl,hb,heap_alloc_new _ _,xp _,by unfold maxLen;simp,rfl,rfl⟩⟩
def nH (l:List Int):∀y∈l.map (Value.int .i64),y.oneCell'=true:=λy hy=>by
 obtain⟨x,_,rfl⟩:=xU.1 hy;rfl
def Kf {wr w2 w3:World}{b1 b2:Nat}{v vr v' u:Value}{L R:List (List Int)}{xs rs:List Value}{l:List Int}(ho:AY wr b1 v L xs)(hr:AY wr b2 vr R rs)(hap:∀g,vr.ownBlock=some g->some g≠v.ownBlock)
  (g2:Gr wr w2) (hu:w2.ownsRow wr.heap.size 3 1 u l.length (l.map (Value.int .i64))) (hb1:b1<=wr.heap.size) (hg:(w2.alloc (.cells #[u] 22)).grownBy w3 v.ownBlock) (hown:w3.ownsRow b1 22 1 v' (L.length+1) (xs++[u])) (hd:(w2.alloc (.cells #[u] 22)).drawn<=w3.drawn) (hv:v'.ownBlock=v.ownBlock\/v'.ownBlock=some (w2.heap.size+1)) :
  AY w3 b1 v' (L++[l]) (xs++[u])/\AY w3 b2 vr R rs/\(∀g,vr.ownBlock=some g->some g≠v'.ownBlock):=by
 have ho2:=ho.gr g2;have hr2:=hr.gr g2;refine⟨ho2.push (B1 hu hb1) (λb hb=>heap_alloc_old _ _ hb) (by simp) hg rfl hown,(hr2.gr ((Gr.refl _).alloc _)).grow (Bb ho2.row λg _ hl=>heap_alloc_old _ _ hl) hap hg,λg Dd e=>?_⟩;rcases hv with hv|hv
 .exact hap g Dd (e.trans hv)
 .have h1:=(hr2.row.lt g Dd).2;rw[hv] at e;have e2:g=w2.heap.size+1:=by injection e
  omega
def qQ (n k:Nat):[[]]++(subs n k).tail=subs n k:=by cases k<;>rfl
def qR {n j:Nat}(hj:j<n):(subs n (n-j)).tail=(subs n (n-j-1)).map ((j:Int)::·)++(subs n (n-j-1)).tail:=by
 obtain⟨k,hk⟩:∃k,n-j=k+1:=⟨n-j-1,by omega⟩;rw[hk];show(subs n k).map (((n-(k+1):Nat):Int)::·)++_=_;rw[show n-(k+1)=j by omega]
 rfl
def fV:∀n,n<=4->∀k,k<=n->(subs n k).length<=16:=by decide
def kG (n m:Nat):(CW n m).length=n ^ m:=by
 induction m with
 |zero=>rfl
 |succ m ih =>
  simp only[CW,List.length_flatMap,ye,ih];rw[List.map_const',List.length_range,List.sum_replicate_nat,Nat.pow_succ,Nat.mul_comm]
def mi (n k:Nat):∀x∈subs n k,x.length<=k:=by
 induction k with
 |zero=>intro x hx;simp[subs] at hx;simp[hx]
 |succ k ih =>
  intro x hx;simp only[subs,xC,yD,xU] at hx;rcases hx with rfl|⟨y,hy,rfl⟩|hx
  .simp
  .have:=ih y hy;simp;omega
  .have:=ih x (List.mem_of_mem_tail hx);omega
def qS (n m:Nat):∀x∈CW n m,x.length<=m:=by
 induction m with
 |zero=>intro x hx;simp[CW] at hx;simp[hx]
 |succ m ih =>
  intro x hx;simp only[CW,List.mem_flatMap,xU] at hx;obtain⟨i,_,y,hy,rfl⟩:=hx;have:=ih y hy;simp;omega
def _root_.Go.Sq.AY.at_ {w:World}{base g m c:Nat}{R:List (List Int)}{rs:List Value}(h:AY w base (.slice (some ⟨g,0,none⟩) m c) R rs){q:Nat}(hq:q<R.length):∃A k,w.cell? ⟨g,q,none⟩=some (.slice A R[q].length k)/\w.ownsRow base 3 1 (.slice A R[q].length k) R[q].length (R[q].map (Value.int .i64)):=by
 obtain⟨y,h1,h2⟩:=h.cells q _ (xq hq);obtain⟨A,k,rfl⟩:=CV h2;have:=h.row.cells (g:=g) rfl q _ h1;rw[Addr.add_lit,xM] at this;exact⟨A,k,this,h2⟩
def _root_.Go.Sq.AY.form {w:World}{base:Nat}{v:Value}{R:List (List Int)}{rs:List Value}(h:AY w base v R rs)(hn:0<R.length):∃g c,v=.slice (some ⟨g,0,none⟩) R.length c/\base<=g/\g<w.heap.size:=by
 rcases h.row.2 with⟨_,h0⟩|⟨g,cap,cur,hv,hb,hg,_⟩
 .omega
 .exact⟨g,cap,hv,hb,(xm.1 hg).1⟩
def wn (n:Nat)(hn:n<=4):∀(k f:Nat),f+k=n->∀w:World,Calls AG 55 #[.int .i64 f,.int .i64 n] w λe w'=>∃v xs,e=.returned v/\Gr w w'/\AY w' w.heap.size v (subs n k) xs:=by
 intro k
 induction k using Nat.strongRecOn with
 |ind k ih =>
  intro f hf w;have HIH:=xl ih;clear ih;go_enter Sq.func55,Tryz.ntmps55;go_wp2;go_loopw [5,6] (λv i wr=>∃(j:Nat) (L:List (List Int)) (xs:List Value),f<=j/\j<=n/\i=.int .i64 j/\Gr w wr/\AY wr w.heap.size v L xs/\L++(subs n (n-j)).tail=subs n k) (λ_ i _=>n-(intOf i).toNat)
  case atStart =>
   exact⟨f,[[]],_,xp _,by omega,rfl,(Gr.refl w).alloc _,mg (xp _) (heap_alloc_new _ _),by rw[show n-f=k by omega];exact qQ n k⟩
  case round =>
   obtain⟨wq,rfl⟩:∃wq,wq=wr:=⟨_,rfl⟩;obtain⟨j,L,xs,hfj,hj,rfl,hgr,Hx,MP⟩:=hrel;have HG:=xl hgr;have HO:=xl Hx;by_cases hlt:j<n
   .have HC:=xl (HIH.out (n-j-1) (by omega) (j+1) (by omega) wq);rw[Int.natCast_add,Int.natCast_one] at HC;rw[qR hlt] at MP;have L5:=fV n hn (n-j-1) (by omega);have hLl:L.length<=16:=by
     have:=congrArg List.length MP;have h2:=fV n hn k (by omega);rw[zd] at this;omega
    have ab7:=xl MP;have XE:=xl (λx hx=>xI (mi n (n-j-1) x hx) (show n-j-1<=1000 by omega));generalize hR:subs n (n-j-1)=R at HC ab7 L5 XE;replace hR:=xl hR;clear hgr Hx MP;go_wp2_with fail;refine HC.out.mono ?_;rintro e w1 ⟨vr,rs,rfl,hg1,hgr⟩;obtain⟨vA,vc,rfl⟩:=CV hgr.row;have Kh:=xl hgr;have Df:=xl hg1;have hz1:=hg1.size;have HO1:=xl (HO.out.gr hg1);have HAP:Hid (∀g,(Value.slice vA R.length vc).ownBlock=some g->some g≠u5.ownBlock):=xl λg h1 h2=>by
     have a1:=(hgr.row.lt g h1).1;have a2:=(HO.out.row.lt g h2.symm).2;omega
    have hz0:=HG.out.size;clear hg1 hgr HC;go_wp2;go_loopw [5,8] (λv i wr=>∃(q:Nat) (ys:List Value),q<=R.length/\i=.int .i64 q/\Gr w wr/\AY wr w.heap.size v (L++(R.take q).map ((j:Int)::·)) ys/\AY wr wq.heap.size (.slice vA R.length vc) R rs/\∀g,(Value.slice vA R.length vc).ownBlock=some g->some g≠v.ownBlock) (λ_ i _=>R.length-(intOf i).toNat)
    case atStart=>exact⟨0,xs,by omega,rfl,HG.out.trans Df.out,by simpa using HO1.out,Kh.out,HAP.out⟩
    case round =>
     obtain⟨q,ys,hq,rfl,F6,hoi,Ea,hai⟩:=hrel;have G5:=xl F6;have KR:=xl hoi;have IG:=xl Ea;have HAI:=xl hai;have TA:=F6.size;by_cases Vp:q<R.length
     .obtain⟨g,cr,hv,IJ,Tz⟩:=Ea.form (by omega);obtain⟨rfl,rfl⟩:vA=some ⟨g,0,none⟩/\vc=cr:=by injection hv with a b c;exact⟨a,c⟩
      clear hv;obtain⟨A,c,hcell,hrow⟩:=Ea.at_ Vp;have O0:Hid (R.take (q+1)=R.take q++[R[q]]):=xl (by rw[zh,xq Vp];rfl);have OW:(L++(R.take q).map ((j:Int)::·)).length<=32:=by simp;omega
      have Pb:=XE.out _ (yn Vp);generalize R[q]=x at hcell hrow O0 Pb;have Js:=xl hrow;clear F6 hoi Ea hai hrow;go_wp2_with (at_builtin;refine mh rfl _ _ rfl wr.heap.size wq.heap.size _ _ 1 x.length [.int .i64 j] (x.map (Value.int .i64)) rfl (nG wr (xp _) j) rfl (Bb Js.out λb _ hb=>heap_alloc_old _ _ hb) (nH x) ?c1 ?c2 ?_)
      case c1=>omega
      case c2=>simp
      intro u w2 hown2 hgrow2 KL
      have G2:Hid (Gr wr w2):=xl (((Gr.refl wr).alloc _).grown hgrow2 KL λk hk=>by
       have:wr.heap.size=k:=by injection hk
       omega)
      have hU:w2.ownsRow wr.heap.size 3 1 u (x.length+1) (((j:Int)::x).map (Value.int .i64)):=by
       rw[Nat.add_comm];exact hown2
      obtain⟨uA,uc,rfl⟩:=CV hU;have HU:Hid (w2.ownsRow wr.heap.size 3 1 (.slice uA (x.length+1) uc) ((j:Int)::x).length (((j:Int)::x).map (Value.int .i64))):=xl hU;have hz2:=G2.out.size;have SJ:=xl ((KR.out.gr G2.out).gr ((Gr.refl w2).alloc (.cells #[.slice uA (x.length+1) uc] 22)));clear hown2 hgrow2 KL hU;go_wp2_with (at_builtin;refine fF ((Sq.underlying 29).trans Tryz.underlying29) Af rfl _ _ rfl w.heap.size _ _ _ rfl SJ.out.row ⟨w2.heap.size,0,none⟩ 1 (.slice uA (x.length+1) uc) rfl cells_one rfl ?c1 ?c2 ?_)
      case c1=>omega
      case c2=>simp;omega
      intro v' w3 Ci CX GJ hv3;have XF:(L++(R.take q).map ((j:Int)::·)).length=L.length+q:=by rw[zd,ye,yQ];omega
      obtain⟨FV,JI,Wy⟩:=Kf (l:=(j:Int)::x) KR.out IG.out HAI.out G2.out HU.out (by omega) CX (by rw[XF];first|exact Ci|(rw[Nat.min_eq_left (by omega)] at Ci;exact Ci)) GJ hv3
      have Hv:Hid (AY w3 w.heap.size v' (L++(R.take (q+1)).map ((j:Int)::·)) (ys++[.slice uA (x.length+1) uc])):=xl (by
       rw[O0.out,zf,<-zi];exact FV)
      have JO:=xl JI;have YQ:=xl Wy;have DW:=xl (((G5.out.trans G2.out).alloc _).grown CX GJ λb hb=>(KR.out.row.lt b hb).1);clear Ci CX GJ hv3 FV JI Wy;go_wp2;go_roundw
      case rel=>exact⟨q+1,_,by omega,by go_num,DW.out,Hv.out,JO.out,YQ.out⟩
      case measure=>simp[intOf];omega
     .have Xb:q=R.length:=by omega
      subst Xb;rw[zk] at hoi;have OA:=xl hoi
      have HSE:Hid ((L++R.map ((j:Int)::·))++(subs n (n-(j+1))).tail=subs n k):=xl (by
       rw[show n-(j+1)=n-j-1 by omega,hR.out,zi];exact ab7.out)
      clear F6 hoi Ea hai;go_wp2;go_roundw
      case rel=>exact⟨j+1,_,_,by omega,by omega,by go_num,G5.out,OA.out,HSE.out⟩
      case measure=>simp[intOf];omega
   .have I4:j=n:=by omega
    subst I4
    have OA:Hid (AY wq w.heap.size u5 (subs j k) xs):=xl (by
     rw[Nat.sub_self] at MP;have e:L=subs j k:=by simpa [subs] using MP
     rw[<-e];exact Hx)
    clear hgr Hx MP HO;go_wp2;go_ret;exact⟨_,_,rfl,HG.out,OA.out⟩
def uL (n:Nat)(hn:n<=16):∀(m:Nat),m<=3->∀w:World,Calls AG 56 #[.int .i64 n,.int .i64 m] w λe w'=>∃v xs,e=.returned v/\Gr w w'/\AY w' w.heap.size v (CW n m) xs:=by
 intro m
 induction m with
 |zero =>
  intro _ w;go_enter Sq.func56,Tryz.ntmps56;go_wp2;go_ret;exact⟨_,_,rfl,(Gr.refl w).alloc _,mg (xp _) (heap_alloc_new _ _)⟩
 |succ m ih =>
  intro hm w;have HC:=xl (ih (by omega) w);have hmz:((((m+1:Nat):Int))==0)=false:=by simp;omega
  have N0:(((m+1:Nat):Int))-1=(m:Int):=by omega
  clear ih;go_enter Sq.func56,Tryz.ntmps56;go_wp2_with fail;refine HC.out.mono ?_;rintro e w1 ⟨vr,rs,rfl,hg1,hgr⟩;obtain⟨vA,vc,rfl⟩:=CV hgr.row;have Kh:=xl hgr;have Df:=xl hg1;have hz1:=hg1.size;have hWL:Hid (CW n (m+1)=(List.range n).flatMap λi:Nat=>(CW n m).map ((i:Int)::·)):=xl rfl;have EA:=kG n m;have hwb:n ^ m<=256:=xI (zH hn m) (xI (yy (by omega) (show m<=2 by omega)) (by decide))
  have XE:=xl (qS n m);generalize CW n m=R at Kh hWL EA hgr XE;have hRL:R.length<=256:=by omega
  clear hg1 hgr HC N0 hmz EA;go_wp2;go_loopw [5,7] (λv i wr=>∃(j:Nat) (xs:List Value),j<=n/\i=.int .i64 j/\Gr w wr/\AY wr w.heap.size v ((List.range j).flatMap λi:Nat=>R.map ((i:Int)::·)) xs/\AY wr w.heap.size (.slice vA R.length vc) R rs/\∀g,(Value.slice vA R.length vc).ownBlock=some g->some g≠v.ownBlock) (λ_ i _=>n-(intOf i).toNat)
  case atStart =>
   exact⟨0,[],by omega,rfl,Df.out,AY.nil _ _,Kh.out,λg _ h=>by cases h⟩
  case round =>
   obtain⟨wq,rfl⟩:∃wq,wq=wr:=⟨_,rfl⟩;obtain⟨j,xs,hj,rfl,hgr,Hx,hrr,haa⟩:=hrel;have HG:=xl hgr;have HO:=xl Hx;have HR:=xl hrr;have HA:=xl haa;by_cases hlt:j<n
   .have HL2 : Hid (∀ q, ((List.range j).flatMap fun i : Nat => R.map ((i : Int) :: ·)).length + q <= 16 * R.length + q) := Lib.hid fun q => by
     rw[List.length_flatMap];simp only[ye];rw[List.map_const',List.length_range,List.sum_replicate_nat];have:=Nat.mul_le_mul_right R.length (show j<=16 by omega);omega
    have HSU:Hid ((List.range (j+1)).flatMap (λi:Nat=>R.map ((i:Int)::·))=((List.range j).flatMap λi:Nat=>R.map ((i:Int)::·))++R.map ((j:Int)::·)):=xl (by
     rw[zn,List.flatMap_append];simp)
    generalize ((List.range j).flatMap λi:Nat=>R.map ((i:Int)::·))=L at HO HL2 HSU Hx;clear hgr Hx hrr haa;go_wp2;go_loopw [5,8] (λv i wr=>∃(q:Nat) (ys:List Value),q<=R.length/\i=.int .i64 q/\Gr w wr/\AY wr w.heap.size v (L++(R.take q).map ((j:Int)::·)) ys/\AY wr w.heap.size (.slice vA R.length vc) R rs/\∀g,(Value.slice vA R.length vc).ownBlock=some g->some g≠v.ownBlock) (λ_ i _=>R.length-(intOf i).toNat)
    case atStart=>exact⟨0,xs,by omega,rfl,HG.out,by simpa using HO.out,HR.out,HA.out⟩
    case round =>
     obtain⟨q,ys,hq,rfl,F6,hoi,Ea,hai⟩:=hrel;have G5:=xl F6;have KR:=xl hoi;have IG:=xl Ea;have HAI:=xl hai;have TA:=F6.size;by_cases Vp:q<R.length
     .obtain⟨g,cr,hv,IJ,Tz⟩:=Ea.form (by omega);obtain⟨rfl,rfl⟩:vA=some ⟨g,0,none⟩/\vc=cr:=by injection hv with a b c;exact⟨a,c⟩
      clear hv;obtain⟨A,c,hcell,hrow⟩:=Ea.at_ Vp;have O0:Hid (R.take (q+1)=R.take q++[R[q]]):=xl (by rw[zh,xq Vp];rfl);have OW:(L++(R.take q).map ((j:Int)::·)).length<=8192:=by have:=HL2.out q;simp at *;omega
      have Pb:=XE.out _ (yn Vp);generalize R[q]=x at hcell hrow O0 Pb;have Js:=xl hrow;clear F6 hoi Ea hai hrow;go_wp2_with (at_builtin;refine mh rfl _ _ rfl wr.heap.size w.heap.size _ _ 1 x.length [.int .i64 j] (x.map (Value.int .i64)) rfl (nG wr (xp _) j) rfl (Bb Js.out λb _ hb=>heap_alloc_old _ _ hb) (nH x) ?c1 ?c2 ?_)
      case c1=>omega
      case c2=>simp
      intro u w2 hown2 hgrow2 KL
      have G2:Hid (Gr wr w2):=xl (((Gr.refl wr).alloc _).grown hgrow2 KL λk hk=>by
       have:wr.heap.size=k:=by injection hk
       omega)
      have hU:w2.ownsRow wr.heap.size 3 1 u (x.length+1) (((j:Int)::x).map (Value.int .i64)):=by
       rw[Nat.add_comm];exact hown2
      obtain⟨uA,uc,rfl⟩:=CV hU;have HU:Hid (w2.ownsRow wr.heap.size 3 1 (.slice uA (x.length+1) uc) ((j:Int)::x).length (((j:Int)::x).map (Value.int .i64))):=xl hU;have hz2:=G2.out.size;have SJ:=xl ((KR.out.gr G2.out).gr ((Gr.refl w2).alloc (.cells #[.slice uA (x.length+1) uc] 22)));clear hown2 hgrow2 KL hU;go_wp2_with (at_builtin;refine fF ((Sq.underlying 29).trans Tryz.underlying29) Af rfl _ _ rfl w.heap.size _ _ _ rfl SJ.out.row ⟨w2.heap.size,0,none⟩ 1 (.slice uA (x.length+1) uc) rfl cells_one rfl ?c1 ?c2 ?_)
      case c1=>omega
      case c2=>simp;omega
      intro v' w3 Ci CX GJ hv3;have XF:(L++(R.take q).map ((j:Int)::·)).length=L.length+q:=by rw[zd,ye,yQ];omega
      obtain⟨FV,JI,Wy⟩:=Kf (l:=(j:Int)::x) KR.out IG.out HAI.out G2.out HU.out (by omega) CX (by rw[XF];first|exact Ci|(rw[Nat.min_eq_left (by omega)] at Ci;exact Ci)) GJ hv3
      have Hv:Hid (AY w3 w.heap.size v' (L++(R.take (q+1)).map ((j:Int)::·)) (ys++[.slice uA (x.length+1) uc])):=xl (by
       rw[O0.out,zf,<-zi];exact FV)
      have JO:=xl JI;have YQ:=xl Wy;have DW:=xl (((G5.out.trans G2.out).alloc _).grown CX GJ λb hb=>(KR.out.row.lt b hb).1);clear Ci CX GJ hv3 FV JI Wy;go_wp2;go_roundw
      case rel=>exact⟨q+1,_,by omega,by go_num,DW.out,Hv.out,JO.out,YQ.out⟩
      case measure=>simp[intOf];omega
     .have Xb:q=R.length:=by omega
      subst Xb;rw[zk,<-HSU.out] at hoi;have OA:=xl hoi;have IG:=xl Ea;have HAI:=xl hai;clear F6 hoi Ea hai;go_wp2;go_roundw
      case rel=>exact⟨j+1,_,by omega,by go_num,G5.out,OA.out,IG.out,HAI.out⟩
      case measure=>simp[intOf];omega
   .have I4:j=n:=by omega
    subst I4;have OA:Hid (AY wq w.heap.size u5 (CW j (m+1)) xs):=xl (by rw[hWL.out];exact Hx);clear hgr Hx hrr haa HO;go_wp2;go_ret;exact⟨_,_,rfl,HG.out,OA.out⟩
end Go.Proofs.YtjcgijifamcggaaGreat
namespace Go.Sq
open Go.RowKit
structure BQ (w:World)(base:Nat)(v:Value)(L:List (List (List Int)))(xs:List Value):Prop where
 row:w.ownsRow base 29 1 v L.length xs
 cells:∀(i:Nat) (ls:List (List Int)),L[i]?=some ls->∃u ys,xs[i]?=some u/\AY w base u ls ys
def BQ.nil (w:World)(base:Nat):BQ w base (.slice none 0 0) [] []:=⟨x9 _ _ _ _,λi l h=>by simp at h⟩
def BQ.gr {w w':World}{base:Nat}{v:Value}{L:List (List (List Int))}{xs:List Value}(h:BQ w base v L xs)(hg:Gr w w'):BQ w' base v L xs :=
 ⟨Bb h.row λg _ hl=>hg.below.block g hl,λi l hi=>by
  obtain⟨u,ys,h1,h2⟩:=h.cells i l hi
  exact⟨u,ys,h1,h2.gr hg⟩⟩
def AY.past {w w':World}{b1 b2 n s:Nat}{e:TypeId}{u v:Value}{ls:List (List Int)}{rs xs:List Value}(h22:(22:TypeId)≠e)(h3:(3:TypeId)≠e)(h:AY w b1 u ls rs)(hv:w.ownsRow b2 e s v n xs)(hg:w.grownBy w' v.ownBlock):AY w' b1 u ls rs :=
 ⟨Bb h.row λg hu hl=>hg.block g hl (cx h22 h.row hv hu),λi l hi=>by
  obtain⟨y,h1,h2⟩:=h.cells i l hi
  exact⟨y,h1,Bb h2 λg hu hl=>hg.block g hl (cx h3 h2 hv hu)⟩⟩
def BQ.push {w w':World}{base b2:Nat}{o:Obj}{v v' u:Value}{L:List (List (List Int))}{ls:List (List Int)}{xs ys:List Value}(h:BQ w base v L xs)(hu:AY w base u ls ys)(hv:w.ownsRow b2 29 1 v L.length xs)(hg:(w.alloc o).grownBy w' v.ownBlock)(hr:w'.ownsRow base 29 1 v' (L.length+1) (xs++[u])):BQ w' base v' (L++[ls]) (xs++[u]):=by
 have hlen:xs.length=L.length:=by have:=h.row.1;omega
 have hv':(w.alloc o).ownsRow b2 29 1 v L.length xs:=Bb hv λg _ hl=>heap_alloc_old _ _ hl;have key:∀ {y:Value} {l:List (List Int)} {zs:List Value},AY w base y l zs->AY w' base y l zs:=λhy=>(hy.keep λb hb=>heap_alloc_old _ _ hb).past (by decide) (by decide) hv' hg;refine⟨by simpa using hr,λi l hi=>?_⟩;rcases yf i L.length with hlt|F5
 .rw[yz hlt] at hi;obtain⟨z,zs,h1,h2⟩:=h.cells i l hi;exact⟨z,zs,by rw[yz (by omega)];exact h1,key h2⟩
 .have Sx : i = L.length := by
   have:=(xS.1 hi).1;simp at this;omega
  subst Sx;rw[yv (xp _)] at hi;simp at hi;subst hi;exact⟨u,ys,by rw[yv (by omega),hlen];simp,key hu⟩
def BQ.form {w:World}{base:Nat}{v:Value}{L:List (List (List Int))}{xs:List Value}(h:BQ w base v L xs)(hn:0<L.length):∃g c,v=.slice (some ⟨g,0,none⟩) L.length c/\base<=g/\g<w.heap.size:=by
 rcases h.row.2 with⟨_,h0⟩|⟨g,cap,cur,hv,hb,hg,_⟩
 .omega
 .exact⟨g,cap,hv,hb,(xm.1 hg).1⟩
def qT (n m:Nat):∀x∈CW n m,x.length=m/\∀y∈x,0<=y/\y<n:=by
 induction m with
 |zero=>intro x hx;simp[CW] at hx;simp[hx]
 |succ m ih =>
  intro x hx;simp only[CW,List.mem_flatMap,xU,yb] at hx;obtain⟨i,hi,y,hy,rfl⟩:=hx;obtain⟨h1,h2⟩:=ih y hy;refine⟨by simp[h1],λz hz=>?_⟩;rcases xC.1 hz with rfl|hz
  .omega
  .exact h2 z hz
end Go.Sq
namespace Go.Proofs.YtjcgijifamcggaaGreat
open Go.RowKit Go.Sq
def _root_.Go.Sq.BQ.at_ {w:World}{base g m c:Nat}{R:List (List (List Int))}{rs:List Value}(h:BQ w base (.slice (some ⟨g,0,none⟩) m c) R rs){q:Nat}(hq:q<R.length):∃A k ys,w.cell? ⟨g,q,none⟩=some (.slice A R[q].length k)/\AY w base (.slice A R[q].length k) R[q] ys:=by
 obtain⟨y,ys,h1,h2⟩:=h.cells q _ (xq hq);obtain⟨A,k,rfl⟩:=CV h2.row;have:=h.row.cells (g:=g) rfl q _ h1;rw[Addr.add_lit,xM] at this;exact⟨A,k,ys,this,h2⟩
def Aq:(AG.info? 29).map (λi=>(i.zero,i.size,i.bytes))=some (some (.slice none 0 0),1,24):=by
 rw[zZ];kernel_rfl
def Uf {w:World}{base n:Nat}{A:Option Addr}{k:Nat}{l:List Int}(h:w.ownsRow base 3 1 (.slice A n k) l.length (l.map (Value.int .i64))){q:Nat}(hq:q<l.length):∃g,A=some ⟨g,0,none⟩/\w.cell? ⟨g,q,none⟩=some (.int .i64 (l[q]?.getD 0)):=by
 rcases h.2 with⟨_,h0⟩|⟨g,cap,cur,hv,hb,hg,_⟩
 .omega
 .injection hv with a _ _
  subst a;refine⟨g,rfl,?_⟩;have:=h.cells (g:=g) rfl q (.int .i64 (l[q]?.getD 0)) (by rw[yw,xq hq];rfl)
  rwa [Addr.add_lit,xM] at this
def qU (N m:Nat)(hN:N<=3)(hm:m<=4)(w:World):Calls AG 27 #[.int .i64 N,.int .i64 m] w λe w'=>∃v xs,e=.returned v/\Gr w w'/\BQ w' w.heap.size v (Dl N m) xs:=by
 have HC:Hid (Calls AG 55 #[.int .i64 0,.int .i64 m] w _):=xl (wn m hm m 0 (by omega) w);have L5:=fV m hm m (xp _);have U5:Hid (Dl N m=(CW (subs m m).length N).map (aY (subs m m))):=xl rfl;have XE:=xl (mi m m);go_enter Sq.func27,Tryz.ntmps27;go_wp2_with fail;refine HC.out.mono ?_;rintro e w1 ⟨vs,ss,rfl,hg1,UF⟩;generalize subs m m=S at UF L5 U5 XE;obtain⟨sA,sc,rfl⟩:=CV UF.row
 have Kj:=xl UF;have Df:=xl hg1;have HWD:=xl (uL S.length L5 N hN w1);have EA:=kG S.length N;have hwb:S.length ^ N<=4096:=xI (zH L5 N) (xI (yy (by omega) hN) (by decide));have HWM:=xl (qT S.length N);clear hg1 UF HC;go_wp2_with fail;refine HWD.out.mono ?_;rintro e W1 ⟨vw,ws,rfl,hg2,hgw⟩;generalize CW S.length N=WL at hgw EA U5 HWM;have hWL:WL.length<=4096:=by omega
 obtain⟨wA,wc,rfl⟩:=CV hgw.row;have Mj:=xl hgw;have EX:=xl (Df.out.trans hg2);have JA:=xl (Kj.out.gr hg2);have hz2:=EX.out.size;clear hg2 hgw HWD Kj EA hwb;go_wp2;go_loopw [7,8] (λv i wr=>∃(j:Nat) (xs:List Value),j<=WL.length/\i=.int .i64 j/\Gr W1 wr/\BQ wr w.heap.size v ((WL.take j).map (aY S)) xs/\wr.ownsRow W1.heap.size 29 1 v j xs) (λ_ i _=>WL.length-(intOf i).toNat)
 case atStart=>exact⟨0,[],by omega,rfl,.refl _,BQ.nil _ _,x9 _ _ _ _⟩
 case round =>
  obtain⟨wq,rfl⟩:∃wq,wq=wr:=⟨_,rfl⟩;obtain⟨j,xs,hj,rfl,hgr,G9,how⟩:=hrel;have HG:=xl hgr;have Vr:=xl G9;have HOW:=xl how;have hzq:=hgr.size;by_cases hlt:j<WL.length
  .obtain⟨gw,cw,hv,IJ,Tz⟩:=(Mj.out.gr hgr).form (by omega);obtain⟨rfl,rfl⟩:wA=some ⟨gw,0,none⟩/\wc=cw:=by injection hv with a b c;exact⟨a,c⟩
   obtain⟨A,c,hcell,hrow⟩:=(Mj.out.gr hgr).at_ hlt;obtain⟨Pb,hxr⟩:=HWM.out _ (yn hlt);have O0:Hid (WL.take (j+1)=WL.take j++[WL[j]]):=xl (by rw[zh,xq hlt];rfl);have HSQ:=xl (JA.out.gr hgr);generalize WL[j]=x at hcell hrow Pb hxr O0;have HXR:=xl hxr;have Js:=xl hrow;have Sk:=xl hcell;clear hv hgr G9 how hrow hxr hcell;go_wp2;go_loopw [9,10] (λv i wr=>∃(q:Nat) (ys:List Value),q<=N/\i=.int .i64 q/\Gr wq wr/\AY wr w.heap.size v (aY S (x.take q)) ys/\wr.ownsRow wq.heap.size 22 1 v q ys) (λ_ i _=>N-(intOf i).toNat)
   case atStart=>exact⟨0,[],by omega,rfl,.refl _,AY.nil _ _,x9 _ _ _ _⟩
   case round =>
    obtain⟨q,ys,hq,rfl,F6,hoi,hro⟩:=hrel;have G5:=xl F6;have KR:=xl hoi;have Oz:=xl hro;have TA:=F6.size;by_cases Vp:q<N
    .have hqx:q<x.length:=by omega
     have hc1:=(F6.cell (p:=⟨gw,j,none⟩) (by show gw<_;omega)).trans Sk.out;obtain⟨gx,rfl,hc2⟩:=Uf (Bb Js.out λb _ hb=>F6.below.block b hb) hqx;have hgx:=(Js.out.lt gx rfl).2;obtain⟨JS,Hu⟩:=HXR.out _ (Dq x q hqx);have HTQ:Hid (x.take (q+1)=x.take q++[x[q]?.getD 0]):=xl (aS 0 x q hqx);generalize x[q]?.getD 0=y at hc2 JS Hu HTQ;obtain⟨n,rfl⟩:∃n:Nat,y=n:=⟨y.toNat,by omega⟩
     have hnS:n<S.length:=by omega
     obtain⟨gs,cs,hv,_,UF⟩:=(HSQ.out.gr F6).form (by omega);obtain⟨rfl,rfl⟩:sA=some ⟨gs,0,none⟩/\sc=cs:=by injection hv with a b c;exact⟨a,c⟩
     obtain⟨A3,c3,hc3,hr3⟩:=(HSQ.out.gr F6).at_ hnS
     have HRW:Hid (aY S (x.take (q+1))=aY S (x.take q)++[S[n]]):=xl (by
      rw[HTQ.out];unfold aY
      rw[zf,yE,yH,zo,xq hnS];rfl)
     have SU:(aY S (x.take q)).length=q:=by unfold aY;rw[ye,yQ];omega
     generalize S[n]=z at hc3 hr3 HRW;have Sj:=xl hr3;clear hv F6 hoi hro hr3;go_wp2_with (at_builtin;refine fF ((Sq.underlying 29).trans Tryz.underlying29) Af rfl _ _ rfl wq.heap.size _ _ _ rfl (Bb Oz.out λb _ hb=>heap_alloc_old _ _ hb) ⟨wr.heap.size,0,none⟩ 1 (.slice A3 z.length c3) rfl cells_one rfl ?c1 ?c2 ?_)
     case c1=>omega
     case c2=>simp;omega
     intro v' w3 Ci CX GJ _;have DW:=xl ((G5.out.alloc _).grown CX GJ λb hb=>(Oz.out.lt b hb).1)
     have G6:Hid (AY w3 w.heap.size v' (aY S (x.take (q+1))) (ys++[.slice A3 z.length c3])):=xl (by
      rw[HRW.out]
      exact KR.out.push Sj.out (λb hb=>heap_alloc_old _ _ hb) (by simp) CX SU.symm (B1 Ci (by omega)))
     have XG:=xl Ci;clear Ci CX GJ;go_wp2;go_roundw
     case rel=>exact⟨q+1,_,by omega,by go_num,DW.out,G6.out,XG.out⟩
     case measure=>simp[intOf];omega
    .have Xb:q=N:=by omega
     subst Xb;rw[show x.take q=x from xZ (by omega)] at hoi;obtain⟨oA,oc,rfl⟩:=CV hro;have SU:(aY S x).length=q:=by unfold aY;rw[ye];omega
     have ag6:=xl hoi;have ag7:=xl (Vr.out.gr F6);have XH:=xl (Bb (w':=wr) HOW.out λb _ hb=>F6.below.block b hb);have HGQ:=xl (HG.out.trans F6);have Qy:((WL.take j).map (aY S)).length=j:=by rw[ye,yQ];omega
     clear F6 hoi hro KR Oz;go_wp2_with (at_builtin;refine fF ((Sq.underlying 35).trans Tryz.underlying35) Aq rfl _ _ rfl W1.heap.size _ _ _ rfl (Bb XH.out λb _ hb=>heap_alloc_old _ _ hb) ⟨wr.heap.size,0,none⟩ 1 (.slice oA q oc) rfl cells_one rfl ?c1 ?c2 ?_)
     case c1=>omega
     case c2=>simp;omega
     intro v' w3 Ci CX GJ _;have DW:=xl ((HGQ.out.alloc _).grown CX GJ λb hb=>(XH.out.lt b hb).1)
     have G6:Hid (BQ w3 w.heap.size v' ((WL.take (j+1)).map (aY S)) (xs++[.slice oA q oc])):=xl (by
      rw[O0.out,zf]
      exact ag7.out.push ag6.out (by rw[Qy];exact XH.out) CX (by rw[Qy];exact B1 Ci (by omega)))
     have XG:=xl Ci;clear Ci CX GJ;go_wp2;go_roundw
     case rel=>exact⟨j+1,_,by omega,by go_num,DW.out,G6.out,XG.out⟩
     case measure=>simp[intOf];omega
  .have I4:j=WL.length:=by omega
   subst I4;have OA:Hid (BQ wq w.heap.size u7 (Dl N m) xs):=xl (by rw[U5.out];rw[zk] at G9;exact G9);clear hgr G9 how HOW;go_wp2;go_ret;exact⟨_,_,rfl,EX.out.trans HG.out,OA.out⟩
end Go.Proofs.YtjcgijifamcggaaGreat
namespace Go.Sq
open Go.RowKit Go.Bl Go.Proofs.YtjcgijifamcggaaGreat
variable {R:World->World->Prop} {ops:Array Oper} {Q:Exit->Act->World->Prop} {n m:Nat} {u:Nat->Value} {ds:List Deferred} {w w':World}
def qV {w:World}{B B':Nat}{v:Value}{ls:List (List Int)}{xs:List Value}(h:AY w B v ls xs)(hb:B'<=B):AY w B' v ls xs :=
 ⟨B1 h.row hb,λi l hi=>by obtain⟨u,h1,h2⟩:=h.cells i l hi;exact⟨u,h1,B1 h2 hb⟩⟩
end Go.Sq
namespace Go.Proofs.YtjcgijifamcggaaGreat
def Jy:Code->Array Oper
 |.region _ o _=>o
 |_=>#[]
def inBody:Code->Code
 |.block _ b=>b
 |.loop b=>b
 |c=>c
def Sl:Code->Code
 |.seq _ (.cond _ x _)=>x
 |c=>c
end Go.Proofs.YtjcgijifamcggaaGreat
namespace Go.Sq
open Go.RowKit Go.Bl Go.Proofs.YtjcgijifamcggaaGreat
def qW {R:World->World->Prop}{ops:Array Oper}{Q:Exit->Act->World->Prop}{n:Nat}{u:Nat->Value}{ds:List Deferred}{w:World}{i:Nat}{d:Option Tmp}{op:Op}{g:Option (Nat×Bool)}{t:TypeId}{V:Value->World->Prop}(h:opAt ops i=some (d,op,g,t))(w':World)
  (hr:∀ev,SY n u ev->(execOp ev (JN op t)).run AG w=.ok .skip w') (hg:R w w') (hV:V undef w') (hl:Lets ops n u g:=by trivial):Done R AG ops Q n ds i V u w:=by
 refine jZ h hl λo h1 h2 h3=>?_;unfold Oper.wp;rw[fE,h2,h3,hr _ dZ,Oper.upon_skip];exact⟨undef,by rw[h1];exact jB,hg,hV⟩
structure RB (W:World)(o x:Obj)(w w':World):Prop where
 os:w'.os=w.os
 tape:w'.tape=w.tape
 output:w'.output=w.output
 drawn:w.drawn<=w'.drawn
 size:w.heap.size<=w'.heap.size
 block:∀b,b<w.heap.size->w'.heap[b]?=w.heap[b]?\/(W.heap.size<=b/\w.heap[b]?=some o/\w'.heap[b]?=some x)
section
variable {W w w' w2:World} {o x:Obj}
def RB.Cu (h:Gr w w'):RB W o x w w':=⟨h.below.os,h.below.tape,h.below.output,h.drawn,h.size,λb hb=>.inl (h.below.block b hb)⟩
def RB.gr (h:RB W o x W w):Gr W w:=⟨⟨h.os,h.tape,h.output,h.size,λb hb=>(h.block b hb).elim id λe=>absurd hb (by omega)⟩,h.drawn⟩
def RB.trans (h:RB W o x w w')(k:RB W o x w' w2):RB W o x w w2:=by
 refine⟨k.os.trans h.os,k.tape.trans h.tape,k.output.trans h.output,xI h.drawn k.drawn,xI h.size k.size,λb hb=>?_⟩;rcases h.block b hb with h1|⟨h1,h2,h3⟩
 .rcases k.block b (xx hb h.size) with k1|⟨k1,k2,k3⟩
  .exact .inl (k1.trans h1)
  .exact .inr ⟨k1,h1▸k2,k3⟩
 .rcases k.block b (xx hb h.size) with k1|⟨k1,k2,k3⟩
  .exact .inr ⟨h1,h2,k1.trans h3⟩
  .exact .inr ⟨h1,h2,k3⟩
instance:Goes (RB W o x):={ refl:=λw=>.Cu (.refl w),trans:=RB.trans,drew:=λw=>.Cu (Gr.refl w).drew }
def aca (W:World)(o x:Obj)(v:Value)(w:World):Prop:=∃b,v=.pointer (some ⟨b,0,none⟩)/\W.heap.size<=b/\(w.heap[b]?=some o\/w.heap[b]?=some x)
def qX:Oy (RB W o x) (aca W o x):=λv w w' hg ⟨b,e,h1,h2⟩=>by
 have hb:b<w.heap.size:=by rcases h2 with h2|h2<;>exact(xm.1 h2).1
 refine⟨b,e,h1,?_⟩;rcases hg.block b hb with h|⟨_,_,h⟩
 .rw[h];exact h2
 .exact .inr h
def Sm (W:World)(x:Obj)(d:Nat)(u:Nat->Value)(w:World):Prop:=∃b,u d=.pointer (some ⟨b,0,none⟩)/\W.heap.size<=b/\w.heap[b]?=some x
def sR {d:Nat}:∀u w w',RB W o x w w'->Sm W x d u w->Sm W x d u w':=λu w w' hg ⟨b,e,h1,h2⟩=>by
 refine⟨b,e,h1,?_⟩;rcases hg.block b (xm.1 h2).1 with h|⟨_,_,h⟩
 .exact h.trans h2
 .exact h
def uM {d:Nat}:∀u w d' v,d'≠d->Sm W x d u w->Sm W x d (IW u d' v) w:=λu w d' v hd ⟨b,e,h⟩=>⟨b,(cX (Ne.symm hd)).trans e,h⟩
end
def uN {ops:Array Oper}{D:List Nat}(hD:ops.toList.filterMap (·.dst)=D){t:Nat}(h:D.contains t=false):IX ops t=true:=by
 subst hD;unfold IX;rw[xR];intro o ho;have hn:t ∉ ops.toList.filterMap (·.dst):=by simpa using h
 have:o.dst≠some t:=λe=>hn (List.mem_filterMap.2 ⟨o,by simpa using ho,e⟩);simpa using this
def qY {u:Nat->Value}(D:List Nat):∀(l:List Value) (t:Nat),(D.foldl (λa d=>a.set d (u d)) l)[t]?=if t∈D/\t<l.length then some (u t) else l[t]?:=by
 induction D with
 |nil=>intro l t;simp
 |cons d D ih =>
  intro l t;rw[zw,ih,List.length_set,List.getElem?_set];by_cases h1:t∈D/\t<l.length
  .rw[if_pos h1,if_pos ⟨yU _ h1.1,h1.2⟩]
  .rw[if_neg h1];by_cases h2:d=t
   .subst h2;by_cases h3:d<l.length
    .rw[if_pos rfl,if_pos h3,if_pos ⟨yL,h3⟩]
    .rw[if_pos rfl,if_neg h3,if_neg λh=>h3 h.2,yO (by omega)]
   .rw[if_neg h2,if_neg λh=>(xC.1 h.1).elim (λe=>h2 e.symm) λe=>h1 ⟨e,h.2⟩]
def wv {n:Nat}{u u':Nat->Value}{l:List Value}{ops:Array Oper}(D:List Nat)(hD:ops.toList.filterMap (·.dst)=D)(hn:l.length=n)(hu:∀i,u i=l[i]?.getD undef)(hf:∀t,IX ops t=true->u' t=u t):T n u'=(D.foldl (λa d=>a.set d (u' d)) l).toArray:=by
 unfold T;congr 1;refine List.ext_getElem? λt=>?_;rw[qY];by_cases ht:t<n
 .rw[yw,List.getElem?_range ht];show some (u' t)=_;by_cases hm:t∈D
  .rw[if_pos ⟨hm,by omega⟩]
  .rw[if_neg λh=>hm h.1,hf t (uN hD (by simpa using hm)),hu,xq (by omega)];rfl
 .rw[yO (by simp;omega),if_neg λh=>by omega,yO (by omega)]
end Go.Sq
