/- Parts of the proof. -/
import Derived.Test.YteckikkkfpblhaaGreatP14
import Derived.Test.YteckikkkfpblhaaGreatP01
import Derived.Test.YteckikkkfpblhaaGreatP00
import Derived.Test.YteckikkkfpblhaaGreatP02
import Derived.BigQuiet
import Derived.WalkKit
set_option linter.all false
set_option maxHeartbeats 3200000
set_option maxRecDepth 1000000
namespace Go.Sq
open Go.RowKit Go.Sort Go.Proofs Go.Lib
abbrev vA:=Fin 16
def Kf (x:vA):Value:=.int .u8 (x.val:Int)
def VY (a b:vA):Int:=FE (wl a.val) (wl b.val)
def aew:OneCell Kf:=λ_=>rfl
def aex:SWO (ltOf VY):=by
 constructor
 all_goals decide +kernel
def Iy (m:Nat):Array vA:=((List.range (2 ^ m)).map (Fin.ofNat 16)).toArray
def Bc:Nat->List Nat
 |0=>[0]
 |1=>[0,1]
 |2=>[0,1,3,2]
 |3=>[0,1,3,7,5,2,6,4]
 |_=>[0,1,3,7,15,11,5,13,9,2,6,14,10,4,12,8]
def five {p:Nat->Prop}(h:p 0/\p 1/\p 2/\p 3/\p 4):∀m,m<=4->p m:=λm hm=>by
 have:m=0\/m=1\/m=2\/m=3\/m=4:=by omega
 obtain⟨h0,h1,h2,h3,h4⟩:=h;rcases this with rfl|rfl|rfl|rfl|rfl<;>assumption
def aey:∀m,m<=4->(pdq (ltOf VY) (Iy m) 0 (Iy m).size (Go.Lib.bitLen (Iy m).size) true true).toList.map Fin.val=Bc m :=
 five ⟨by decide +kernel,by decide +kernel,by decide +kernel,by decide +kernel,by decide +kernel⟩
def aez:∀m,m<=4->(Iy m).size=2 ^ m/\∀j,j<2 ^ m->((Iy m)[j]!).val=j :=
 five ⟨by decide +kernel,by decide +kernel,by decide +kernel,by decide +kernel,by decide +kernel⟩
def di:∀m,m<=4->(Bc m).length=2 ^ m:=five ⟨rfl,rfl,rfl,rfl,rfl⟩
def lY:∀m,m<=4->∀x∈Bc m,x<2 ^ m:=five ⟨by decide,by decide,by decide,by decide,by decide⟩
def Gr.grow {w w':World}(h:Gr w w'):∃q os',w'=grow (w.drewN q) os':=by
 refine⟨w'.drawn-w.drawn,w'.heap.extract w.heap.size w'.heap.size,?_⟩;have hd:=h.drawn;have e:w'.heap=w.heap++w'.heap.extract w.heap.size w'.heap.size:=by
  apply Array.ext_getElem?;intro k;by_cases hk:k<w.heap.size
  .rw[zo hk];exact h.below.block k hk
  .rw[Array.getElem?_append_right (by omega),Array.getElem?_extract];have hs:=h.size;by_cases hk2:k<w'.heap.size
   .rw[if_pos (by omega)];congr 1;omega
   .rw[if_neg (by omega),yM (by omega)]
 cases w with
 |mk wh wt wd wo wu =>
  cases w' with
  |mk vh vt vd vo vu =>
   have e1:=h.below.os;have e2:=h.below.tape;have e3:=h.below.output;simp only at e1 e2 e3 e hd;subst e1 e2 e3;unfold Sort.grow World.drewN;simp only[World.mk.injEq,and_true,true_and];exact⟨e,by omega⟩
def SortedIn (sets:List Nat)(g:Nat)(W W':World):Prop :=
 KT (·=g) W W'/\(∀(i x:Nat),sets[i]?=some x->W'.cell? ⟨g,i,none⟩=some (.int .u8 (x:Int)))/\∀n c,Dz W (.slice (some ⟨g,0,none⟩) n c)->Dz W' (.slice (some ⟨g,0,none⟩) n c)
end Go.Sq
namespace Go.Proofs.Ao
open Go.RowKit Go.Sq Go.Sort
def sk (a b:Nat)(w:World)(ha:a<16)(hb:b<16) :
  Calls An 85 #[.int .u8 a,.int .u8 b] w λe w'=>e=.returned (.int .i64 (FE (wl a) (wl b)))/\Gr w w':=by
 have hla:=cG a;have hlb:=cG b;have HL:=xf hla;have HL':=xf hlb;clear hla hlb;go_enter Sq.func85,Tryz.ntmps85;go_wp2_with fail;refine(fy a w ha).mono ?_;rintro e w1 ⟨v,rfl,ho,hg⟩;have hO:=xf ho;have hG:=xf hg;clear ho hg;go_wp2_with fail;refine(fy b w1 hb).mono ?_;rintro e w2 ⟨v',rfl,LP,C1⟩;obtain⟨A,c,rfl,hr⟩:=zG hO.out;obtain⟨A',c',rfl,KU⟩:=zG LP;have hG2:=xf (hG.out.trans C1);have HC:=xf (kv A A' c c' (wl a) (wl b) w2 w2.heap.size ((hr.gr (xh _) C1).more C1.size) KU (by have:=HL.out;omega) (by have:=HL'.out;omega))
 clear hO hG LP C1 hr KU;go_wp2_with fail;refine HC.out.mono ?_;rintro e w3 ⟨rfl,rfl⟩;go_wp2;go_ret;exact⟨rfl,hG2.out⟩
def qB (m:Nat)(hm:m<=4):qA (2 ^ m) (λv W W'=>∃g cap,v=.slice (some ⟨g,0,none⟩) (2 ^ m) cap/\SortedIn (Bc m) g W W'):=by
 intro W g cap B ho;obtain⟨hsz,Ta⟩:=aez m hm;have hpq:=aey m hm;have hlen:=di m hm;have Gm:1<=2 ^ m:=Nat.one_le_two_pow;have TN:2 ^ m<=16:=(five (p:=λm=>2 ^ m<=16) ⟨by decide,by decide,by decide,by decide,by decide⟩) m hm;have hlt:g<W.heap.size:=(ho.lt g rfl).2;have hH:Holds Kf W g 0 (Iy m):=by
  intro j hj;rw[hsz] at hj;refine⟨?_,?_⟩
  .have:=ho.cells (g:=g) rfl j (.int .u8 j) (by unfold Lk;simp[hj]);rw[show(⟨g,0,none⟩:Addr).add j=⟨g,0+j,none⟩ by unfold Addr.add;split<;>simp_all] at this;rw[this,Kf,Ta j hj]
  .rcases ho.2 with⟨h,_⟩|⟨g',c',cur,h,_,hb,_⟩
   .cases h
   .obtain⟨rfl⟩:g=g':=by injection h with h1;injection h1 with h2;injection h2
    simp[World.frozen?,hb]
 have hC:CmpLays1 An 85 #[] Kf VY g 0 (Iy m).size W:=by
  intro k os dk _ x y;refine(sk x.val y.val _ x.isLt y.isLt).mono ?_;rintro e w' ⟨he,hg⟩;exact⟨he,hg.grow⟩
 have h:=Any.slices_SortFunc_eq Aa Kf aew VY aex 85 #[] g 0 cap (Iy m) W Ah hC hH hlt (by rw[hsz];omega);rw[hsz] at h;refine h.mono ?_;rintro e W' ⟨he,n,os,hW⟩;refine⟨he,g,cap,rfl,?_,?_,?_⟩
 rotate_left 2
 .intro n1 c1 OL a n2 c2 e2;obtain⟨cur,t,q1,q2⟩:=OL a n2 c2 e2;have ea:a.block=g:=by injection e2 with z _ _;injection z with z;rw[<-z]
  rw[ea] at q1 ⊢;subst hW;refine⟨putCells Kf 0 (pdq (ltOf VY) (Iy m) 0 (2 ^ m) (Go.Lib.bitLen (2 ^ m)) true true) cur,t,?_,λu hu=>?_⟩
  .unfold sortWorld;rw[heap_grow_old _ _ (by rw[size_putRow];exact hlt)];unfold putRow mapBlock;have T9:(Sort.ahead W n).heap[g]?=some (.cells cur t (0,0)):=q1;simp only[ya,if_true,T9]
   rfl
  .unfold putCells at hu;rw[Array.toList_mapIdx,List.mem_mapIdx] at hu;obtain⟨i,hi,rfl⟩:=hu;split
   .exact⟨_,rfl⟩
   .exact q2 _ (yb hi)
 .subst hW;refine⟨rfl,rfl,rfl,?_,?_,?_⟩
  .show W.drawn<=W.drawn+n;omega
  .have : W.heap.size <= (sortWorld Kf W g 0 n (pdq (ltOf VY) (Iy m) 0 (2 ^ m) (Go.Lib.bitLen (2 ^ m)) true true) os).heap.size := by
    unfold sortWorld;rw[size_grow,size_putRow];exact Nat.le_add_right _ _
   exact this
  .intro b hb hne;unfold sortWorld;rw[heap_grow_old _ _ (by rw[size_putRow];exact hb)];unfold putRow mapBlock;rw[ya,if_neg (λh=>hne h.symm)]
   rfl
 .intro i x hx;rw[hsz] at hpq;have hi:i<2 ^ m:=by rw[<-hlen];exact(xL.1 hx).1
  generalize hd:pdq (ltOf VY) (Iy m) 0 (2 ^ m) (Go.Lib.bitLen (2 ^ m)) true true=d at hW hpq;have Me:d.size=2 ^ m:=by have:=congrArg List.length hpq;simpa [hlen] using this
  have hS:=(holds_sortWorld Kf W g 0 n (Iy m) d os hlt hH (by rw[Me,hsz])) i (by omega);subst hW;rw[xG] at hS;rw[hS.1,Kf];rw[<-hpq,yp,Array.getElem?_toList] at hx;rw[getElem!_pos d i (by omega)];rw[xp (by omega)] at hx;simp at hx;rw[hx]
end Go.Proofs.Ao
namespace Go.Sq
def bz {l:List Int}:bE l=0↔∀x∈l,x=0:=by
 refine⟨λh x hx=>?_,iH⟩;unfold bE at h;cases hf:l.find? (· != 0) with
 |none=>have:=zv.1 hf x hx;simpa using this
 |some y =>
  rw[hf] at h;have:=List.find?_some hf;simp only[Option.getD_some] at h;subst h;simp at this
def dx {n lo hi:Int}:Bb n lo hi=0↔lo<=n/\n<=hi:=by
 unfold Bb;split
 .simp;omega
 .split<;>simp<;>omega
def lZ {x lo hi:Int}:C2 x lo hi=true↔lo<=x/\x<=hi:=by simp[C2]
def kI {l:List Int}{n:Int}:B1 l n=0↔∀i,i<l.length->CL l n i=0:=by
 unfold B1;rw[bz];simp
def Ge {l:List Int}{n:Int}(h:B1 l n=0):(∀x∈l,0<=x/\x<n)/\(l.length:Int)<=max n 0/\∀i,i+1<l.length->l[i]?.getD 0<l[i+1]?.getD 0:=by
 rw[kI] at h;have h1:∀i,i<l.length->0<=l[i]?.getD 0/\l[i]?.getD 0<=n-1:=λi hi=>by
  have:=h i hi;unfold CL at this;split at this
  .assumption
  .cases this
 have h2:∀i,i+1<l.length->l[i]?.getD 0<l[i+1]?.getD 0:=λi hi=>by
  have:=h (i+1) hi;unfold CL at this;rw[if_pos (h1 _ hi)] at this;by_cases hc:0<i+1/\l[i+1]?.getD 0<=l[i+1-1]?.getD 0
  .rw[if_pos hc] at this;cases this
  .simp only[Nat.add_sub_cancel] at hc;omega
 have h3:∀i,i<l.length->(i:Int)<=l[i]?.getD 0:=λi=>by
  induction i with
  |zero=>intro hi;exact(h1 0 hi).1
  |succ k ih=>intro hi;have:=ih (by omega);have:=h2 k hi;omega
 refine⟨λx hx=>?_,?_,h2⟩
 .obtain⟨i,hi,rfl⟩:=List.getElem_of_mem hx;have:=h1 i hi;rw[xi hi] at this;simp only[Option.getD_some] at this;omega
 .by_cases hz:l.length=0
  .omega
  .have a:=h3 (l.length-1) (by omega);have b:=(h1 (l.length-1) (by omega)).2;omega
def AD.Ok.of {c:AD}(h:AK c=0):c.Ok:=by
 unfold AK at h;by_cases h1:Bb c.Aq.length 1 5≠0
 .rw[if_pos h1] at h;exact absurd h h1
 rw[if_neg h1] at h;have YC:=dx.1 (Decidable.not_not.1 h1);by_cases h2:(c.Aq.all λx=>C2 x 0 12)=false
 .rw[if_pos h2] at h;cases h
 rw[if_neg h2] at h;by_cases h3:Bb c.Ap.length 1 4≠0
 .rw[if_pos h3] at h;exact absurd h h3
 rw[if_neg h3] at h;have MR:=dx.1 (Decidable.not_not.1 h3);rw[bz] at h;have hh:∀x∈c.Ap,(1<=x.heads/\x.heads<=40)/\(1<=x.CJ/\x.CJ<=5)/\(0<=x.most/\x.most<=5)/\B1 x.off c.Aq.length=0:=λx hx=>by
  have:=h _ (List.mem_map_of_mem hx);unfold Cm at this;split at this
  .rename_i hc;simp only[xC,lZ] at hc;exact⟨hc.1.1,hc.1.2,hc.2,this⟩
  .cases this
 have MQ:∀x∈c.Aq,0<=x/\x<=12:=λx hx=>by
  have:=xY.1 (Bool.not_eq_false _▸h2) x hx;exact lZ.1 this
 exact⟨by omega,by omega,MQ,by omega,by omega,λx hx=>(hh x hx).1,λx hx=>(hh x hx).2.1,λx hx=>(hh x hx).2.2.1,λx hx=>by
  obtain⟨a,b,_⟩:=Ge (hh x hx).2.2.2
  exact⟨by omega,a⟩⟩
def t7 (l m:List Int)(k:Nat)(h1:k<l.length)(h2:k<m.length) :
  (l.take k=m.take k->l[k]?.getD 0=m[k]?.getD 0->l.take (k+1)=m.take (k+1))/\(l[k]?.getD 0≠m[k]?.getD 0->l≠m):=by
 refine⟨λh e=>?_,λh e=>h (by rw[e])⟩;rw[bm 0 l k h1,bm 0 m k h2,h,e]
def sn (l m:List (List Int))(k:Nat)(h1:k<l.length)(h2:k<m.length) :
  (l.take k=m.take k->l[k]?.getD []=m[k]?.getD []->l.take (k+1)=m.take (k+1))/\(l[k]?.getD []≠m[k]?.getD []->l≠m):=by
 refine⟨λh e=>?_,λh e=>h (by rw[e])⟩;rw[bm [] l k h1,bm [] m k h2,h,e]
def BD (w:World)(B:Nat)(A:Option Addr)(ls:List (List Int)):Prop :=
 ls≠[]->∃b o,A=some ⟨b,o,none⟩/\b<B/\∀i l,ls[i]?=some l->∃A' c,w.cell? ⟨b,o+i,none⟩=some (.slice A' l.length c)/\RI w B A' l
def BD.keep {w w':World}{B:Nat}{A:Option Addr}{ls:List (List Int)}(h:BD w B A ls)(hk:∀b o,b<B->w'.cell? ⟨b,o,none⟩=w.cell? ⟨b,o,none⟩):BD w' B A ls:=λhn=>by
 obtain⟨b,o,e,hb,hc⟩:=h hn;refine⟨b,o,e,hb,λi l hl=>?_⟩;obtain⟨A',c,h1,h2⟩:=hc i l hl;exact⟨A',c,(hk _ _ hb).trans h1,h2.keep hk⟩
def BD.gr {w w':World}{B:Nat}{A:Option Addr}{ls:List (List Int)}(h:BD w B A ls)(hB:B<=w.heap.size)(hg:Gr w w'):BD w' B A ls:=h.keep λ_ _ hb=>hg.cell (xl hb hB)
def BD.more {w:World}{B B':Nat}{A:Option Addr}{ls:List (List Int)}(h:BD w B A ls)(hB:B<=B'):BD w B' A ls:=λhn=>by
 obtain⟨b,o,e,hb,hc⟩:=h hn;refine⟨b,o,e,by omega,λi l hl=>?_⟩;obtain⟨A',c,h1,h2⟩:=hc i l hl;exact⟨A',c,h1,h2.more hB⟩
def BD.nil {w:World}{B:Nat}{A:Option Addr}:BD w B A []:=λh=>absurd rfl h
def BD.at_ {w:World}{B:Nat}{A:Option Addr}{ls:List (List Int)}(h:BD w B A ls){k:Nat}(hk:k<ls.length):∃b o A' c,A=some ⟨b,o,none⟩/\b<B/\w.cell? ⟨b,o+k,none⟩=some (.slice A' (ls[k]?.getD []).length c)/\RI w B A' (ls[k]?.getD []):=by
 obtain⟨b,o,e,hb,hc⟩:=h (λe=>by rw[e] at hk;simp at hk);obtain⟨A',c,h1,h2⟩:=hc k _ (xi hk);refine⟨b,o,A',c,e,hb,?_⟩;rw[xi hk];exact⟨h1,h2⟩
def fU (l:List (List Int))(k:Nat)(h:k<l.length):l[k]?.getD []∈l:=by
 rw[xi h];exact yb h
def cN {w:World}{B b:Nat}{l:List Int}{t:TypeId}{f:Nat×Nat}(h:w.heap[b]?=some (.cells (l.map (Value.int .i64)).toArray t f))(hB:b<B):RI w B (some ⟨b,0,none⟩) l:=λ_ =>
 ⟨b,0,rfl,hB,λi x hx=>by
  unfold World.cell?;rw[h];show(l.map (Value.int .i64)).toArray[0+i]?=_
  rw[xG,xT,yp,hx];rfl⟩
def heap_alloc_new (w:World)(o:Obj):(w.alloc o).heap[w.heap.size]?=some o:=by
 show(w.heap.push o)[w.heap.size]?=_;simp
def heap_alloc_old (w:World)(o:Obj){b:Nat}(h:b<w.heap.size):(w.alloc o).heap[b]?=w.heap[b]?:=by
 show(w.heap.push o)[b]?=_;simp[yL,zz h]
def aD (w:World)(o:Obj){b:Nat}(h:b=w.heap.size):(w.alloc o).heap[b]?=some o:=by subst h;exact heap_alloc_new w o
end Go.Sq
namespace Go.Proofs.Ao
open Go.RowKit Go.Sq
def BH:List (List Int):=[[0],[1],[0,2]]
def kg (w:World):Calls An 25 #[] w λe w'=>∃A,e=.returned (.slice A BH.length 3)/\BD w' w'.heap.size A BH/\Gr w w':=by
 go_enter Sq.func25,Tryz.ntmps25;go_wp2;go_ret;refine⟨_,rfl,λ_=>⟨_,0,rfl,by simp,λi l hl=>?_⟩,((((Gr.refl w).alloc _).alloc _).alloc _).alloc _⟩
 match i,hl with
 |0,hl =>
  simp[BH] at hl;subst hl;refine⟨some ⟨w.heap.size,0,none⟩,1,?_,cN (l:=[0]) (t:=3) (f:=(0,0)) ?_ (by simp;omega)⟩
  .rw[xj _ _ _ _ (by simp)];rfl
  .rw[heap_alloc_old _ _ (by simp;omega),heap_alloc_old _ _ (by simp;omega),heap_alloc_old _ _ (by simp),aD _ _ rfl];rfl
 |1,hl =>
  simp[BH] at hl;subst hl;refine⟨some ⟨w.heap.size+1,0,none⟩,1,?_,cN (l:=[1]) (t:=3) (f:=(0,0)) ?_ (by simp)⟩
  .rw[xj _ _ _ _ (by simp)];rfl
  .rw[heap_alloc_old _ _ (by simp),heap_alloc_old _ _ (by simp),aD _ _ (by simp)];rfl
 |2,hl =>
  simp[BH] at hl;subst hl;refine⟨some ⟨w.heap.size+2,0,none⟩,2,?_,cN (l:=[0,2]) (t:=3) (f:=(0,0)) ?_ (by simp)⟩
  .rw[xj _ _ _ _ (by simp)];rfl
  .rw[heap_alloc_old _ _ (by simp),aD _ _ (by simp)];rfl
 |k+3,hl=>simp[BH] at hl
def Bj (l:List Int):AD:=⟨l,[⟨12,3,2,[]⟩,⟨6,2,2,[0]⟩,⟨6,1,1,[]⟩]⟩
def qC (A:Option Addr)(c:Nat)(l:List Int)(w:World):Calls An 20 #[.slice A l.length c] w λe w'=>∃hA,e=.returned (AH A hA (Bj l) c 3)/\BG w' w'.heap.size hA (Bj l).Ap/\Gr w w'/\hA=some ⟨w.heap.size+2,0,none⟩/\w'.heap[w.heap.size+1]?=some (.cells #[.int .i64 0] 3 (0,0)) /\
      w'.heap[w.heap.size+2]?=some (.cells #[.int .i64 12,.int .i64 3,.int .i64 2,.slice none 0 0,.int .i64 6,.int .i64 2,.int .i64 2,.slice (some ⟨w.heap.size+1,0,none⟩) 1 1,.int .i64 6,.int .i64 1,.int .i64 1,.slice none 0 0] 46 (0,0)):=by
  go_enter Sq.func20,Tryz.ntmps20;go_wp2;obtain⟨W,hW⟩:∃W:World,W=((w.alloc (.cells #[.slice A l.length c,.slice (some ⟨w.heap.size+1+1,0,none⟩) 3 3] 25)).alloc (.cells #[.int .i64 0] 3)).alloc (.cells #[.int .i64 12,.int .i64 3,.int .i64 2,.slice none 0 0,.int .i64 6,.int .i64 2,.int .i64 2,.slice (some ⟨w.heap.size+1,0,none⟩) 1 1,.int .i64 6,.int .i64 1,.int .i64 1,.slice none 0 0] 46):=⟨_,rfl⟩;rw[<-hW]
  have s0:W.cell? ⟨w.heap.size,0,none⟩=some (.slice A l.length c):=by
    rw[hW,xI _ _ _ (by simp;omega),xI _ _ _ (by simp),xj _ _ _ _ rfl];rfl
  have s1:W.cell? ⟨w.heap.size,1,none⟩=some (.slice (some ⟨w.heap.size+1+1,0,none⟩) 3 3):=by
    rw[hW,xI _ _ _ (by simp;omega),xI _ _ _ (by simp),xj _ _ _ _ rfl];rfl
  refine bodyPost_ret (v:=AH A (some ⟨w.heap.size+1+1,0,none⟩) (Bj l) c 3) (by simp[results,Tryz.results20,go_sem,s0,s1,AH,Bj]) rfl ⟨_,rfl,?_,?_,rfl,?_,?_⟩
  · have hz:w.heap.size+1+1<W.heap.size:=by rw[hW];simp
    have hc:∀o,W.cell? ⟨w.heap.size+1+1,o,none⟩=(#[.int .i64 12,.int .i64 3,.int .i64 2,.slice none 0 0,.int .i64 6,.int .i64 2,.int .i64 2,.slice (some ⟨w.heap.size+1,0,none⟩) 1 1,.int .i64 6,.int .i64 1,.int .i64 1,.slice none 0 0]:Array Value)[o]?:=λo=>by
      rw[hW,xj _ _ _ _ (by simp)]
    have Ct:RI W W.heap.size (some ⟨w.heap.size+1,0,none⟩) [0]:=cN (l:=[0]) (t:=3) (f:=(0,0)) (by
      rw[hW,heap_alloc_old _ _ (by simp),aD _ _ (by simp)];rfl) (by omega)
    refine λ_=>⟨_,0,rfl,hz,λi h hh=>?_⟩
    match i,hh with
    |0,hh=>simp[Bj] at hh;subst hh;exact⟨hc _,hc _,hc _,none,0,hc _,.nil⟩
    |1,hh=>simp[Bj] at hh;subst hh;exact⟨hc _,hc _,hc _,_,1,hc _,Ct⟩
    |2,hh=>simp[Bj] at hh;subst hh;exact⟨hc _,hc _,hc _,none,0,hc _,.nil⟩
    |k+3,hh=>simp[Bj] at hh
  · rw[hW];exact(((Gr.refl w).alloc _).alloc _).alloc _
  · rw[hW,heap_alloc_old _ _ (by simp),aD _ _ (by simp)]
  · rw[hW,aD _ _ (by simp)]
def l6 (A:Option Addr)(c:Nat)(l:List Int)(w:World):Calls An 20 #[.slice A l.length c] w λe w'=>∃hA,e=.returned (AH A hA (Bj l) c 3)/\BG w' w'.heap.size hA (Bj l).Ap/\Gr w w' :=
 (qC A c l w).mono λe w' ⟨hA,h1,h2,h3,_⟩=>⟨hA,h1,h2,h3⟩
end Go.Proofs.Ao
namespace Go.Sq
def eO (l:List Int)(d:Int):List Int:=if d∈l then l else(l++[d]).mergeSort λx y=>decide (x<=y)
def Hq (c:AD)(k:Nat)(d:Int):AD:={ c with Ap:=c.Ap.set k { c.h k with off:=eO (c.h k).off d } }
def G3 (a b:Bl):Nat->Nat
 |0=>0
 |n+1=>G3 a b n+(wl (a n ^^^ b n)).length
def DU (r:Bl):List Bl->Option (Bl×Nat)
 |[]=>none
 |l@(_::_)=>l.foldl (λo ρ=>match o with
  |none=>some (ρ,G3 ρ r 5)
  |some b=>if G3 ρ r 5<b.2 then some (ρ,G3 ρ r 5) else some b) none
def jE (r:Bl)(l:List Bl)(ρ:Bl):DU r (l++[ρ])=(match DU r l with
  |none=>some (ρ,G3 ρ r 5)
  |some b=>if G3 ρ r 5<b.2 then some (ρ,G3 ρ r 5) else some b):=by
 cases l with
 |nil=>rfl
 |cons a l =>
  show((a::l)++[ρ]).foldl _ none=_;rw[List.foldl_append]
  rfl
def qD {r:Bl}:∀(n:Nat) (l:List Bl) (p:Bl×Nat),l.length=n->DU r l=some p->p.1∈l:=by
 intro n
 induction n with
 |zero =>
  intro l p hl h;rw[xU hl] at h;cases h
 |succ n ih =>
  intro l p hl h;rcases List.eq_nil_or_concat l with rfl|⟨l',b,rfl⟩
  .simp at hl
  .rw[List.concat_eq_append] at h hl ⊢;rw[jE] at h;have hl':l'.length=n:=by simpa using hl
   cases ho:DU r l' with
   |none=>rw[ho] at h;cases h;simp
   |some q =>
    rw[ho] at h;simp only at h;split at h
    .cases h;simp
    .have e:=Option.some.inj h;rw[<-e];exact List.mem_append_left _ (ih l' q hl' ho)
end Go.Sq
namespace Go.Proofs.Ao
open Go.RowKit Go.Sq
def fE {w:World}{B:Nat}{A:Option Addr}{l:List Int}{K:Nat->Prop}(h:RI w B A l)(hK:∀b,b<B->K b):FC w K A l:=λhn=>by
 obtain⟨b,o,e,hb,hc⟩:=h hn;exact⟨b,o,e,hK b hb,hc⟩
def vB {w:World}{B:Nat}{A:Option Addr}{l:List Be}{K:Nat->Prop}(h:BG w B A l)(hK:∀b,b<B->K b):Dj w K A l:=λhn=>by
 obtain⟨b,o,e,hb,hc⟩:=h hn;refine⟨b,o,e,hK b hb,λi x hx=>?_⟩;obtain⟨h1,h2,h3,A',c,h4,h5⟩:=hc i x hx;exact⟨h1,h2,h3,A',c,h4,fE h5 hK⟩
def PT (B cb g:Nat):Nat->Prop:=λb=>b<B\/b=cb\/b=g
def Us (w:World)(cb g:Nat)(c:AD)(sets:List Nat)(nA hA:Option Addr)(nc hc cap:Nat):Prop :=
 Dz w (.slice (some ⟨g,0,none⟩) sets.length cap)/\w.heap[cb]?=some (.cells #[.slice nA c.Aq.length nc,.slice hA c.Ap.length hc,.slice (some ⟨g,0,none⟩) sets.length cap] 127 (0,0))
def jF (nA hA:Option Addr)(nc hc:Nat)(c:AD)(w:World)(B:Nat)(hB:B<=w.heap.size)(hn:RI w B nA c.Aq)(hh:BG w B hA c.Ap)(hm:c.Ap.length<=4) :
  Calls An 54 #[AH nA hA c nc hc] w λe w'=>e=.returned (.pointer (some ⟨w.heap.size+1,0,none⟩))/\Gr w w'/\∃g cap,w.heap.size+2<=g /\
   CN w' (PT B (w.heap.size+1) g) (w.heap.size+1) c (Bc c.Ap.length) nA hA nc hc g cap/\Us w' (w.heap.size+1) g c (Bc c.Ap.length) nA hA nc hc cap:=by
 refine(nP nA hA nc hc c.Aq.length c.Ap.length w hm (qB c.Ap.length hm)).mono ?_;rintro e w' ⟨rfl,g,cap,W,⟨g',cap',hv,hk,hs,hsf⟩,hg,hgr,hz,h0,h1,h2,ho,OL,M7⟩;obtain⟨rfl,rfl⟩:g=g'/\cap=cap':=by injection hv with a b c;injection a with a;injection a with a;exact⟨a,c⟩
 have hgW:=(ho.lt g rfl).2;have Sl:Gr w w':=⟨⟨hk.os.trans hgr.below.os,hk.tape.trans hgr.below.tape,hk.output.trans hgr.below.output,xx hgr.size hk.size,λb hb=>(hk.block b (xl hb hgr.size) (by show b≠g;omega)).trans (hgr.below.block b hb)⟩,xx hgr.drawn hk.drawn⟩;refine⟨rfl,Sl,g,cap,hg,?_,?_,?_⟩
 rotate_left
 .rw[di _ hm];exact hsf _ _ OL
 .rw[di _ hm];exact(hk.block _ hz (by show ¬w.heap.size+1=g;omega)).trans M7
 have hc1:∀o,w'.cell? ⟨w.heap.size+1,o,none⟩=W.cell? ⟨w.heap.size+1,o,none⟩:=λo=>hk.cell (p:=⟨w.heap.size+1,o,none⟩) hz (by show w.heap.size+1≠g;omega);refine⟨?_,Or.inr (Or.inl rfl),(hc1 0).trans h0,(hc1 1).trans h1,?_,Or.inr (Or.inr rfl),hs,fE (hn.gr hB Sl) λb hb=>Or.inl hb,vB (hh.keep λb o hb=>Sl.cell (xl hb hB)) λb hb=>Or.inl hb⟩
 .rintro b (h|h|h)
  .have:=Sl.size;omega
  .have:=hk.size;omega
  .have:=hk.size;omega
 .rw[di _ hm];exact(hc1 2).trans h2
def ZN (nA hA:Option Addr)(nc hc:Nat)(c:AD)(B:Nat)(w:World)(e:Ending)(w':World):Prop :=
 Gr w w' ∧ if AK c = 0 then ∃ cb g cap, e = .returned (.tuple #[.pointer (some ⟨cb, 0, none⟩), .int .i64 0]) ∧ w.heap.size <= cb ∧ cb < g ∧ CN w' (PT B cb g) cb c (Bc c.Ap.length) nA hA nc hc g cap ∧ Us w' cb g c (Bc c.Ap.length) nA hA nc hc cap
   else e=.returned (.tuple #[.pointer none,.int .i64 (AK c)])
def kh (nA hA:Option Addr)(nc hc:Nat)(c:AD)(w:World)(B:Nat)(hB:B<=w.heap.size)(hn:RI w B nA c.Aq)(hh:BG w B hA c.Ap)(DG:c.Aq.length<=4611686018427387904)(hl2:c.Ap.length<=4611686018427387904)
  (BU:∀h∈c.Ap,h.off.length<=4611686018427387904) :
  Calls An 38 #[AH nA hA c nc hc] w (ZN nA hA nc hc c B w):=by
 have HN:=xf hn;have HH:=xf hh;have Ms:=xf BU;clear hn hh BU;unfold AH;obtain⟨W0,hW0⟩:∃W0:World,W0=w.alloc (.cells #[.slice nA c.Aq.length nc,.slice hA c.Ap.length hc] 25):=⟨_,rfl⟩;have hg0:Gr w W0:=hW0▸(Gr.refl w).alloc _;have Ku:RI W0 B nA c.Aq:=HN.out.gr hB hg0;have YJ:BG W0 B hA c.Ap:=HH.out.keep λb o hb=>hg0.cell (xl hb hB);have hz0:W0.heap.size=w.heap.size+1:=by rw[hW0];simp
 have HW:=xf hW0;clear hW0;have HC:=xf (tX nA hA nc hc c W0 B (by omega) Ku YJ DG hl2 Ms.out);have B4:=xf hg0;have VW:=xf Ku;have HH0:=xf YJ;clear hg0 Ku YJ;unfold AH at HC;go_enter Sq.func38,Tryz.ntmps38;go_wp2_with fail;rw[<-HW.out];refine HC.out.mono ?_;rintro e w1 ⟨rfl,hg1⟩;have Ch:=xf hg1;clear hg1 HC;by_cases hE:AK c=0
 .rw[hE];have hm:=AD.Ok.of hE;have OI:Gr W0 w1:=Ch.out;have HS:=xf (jF nA hA nc hc c w1 B (by have:=OI.size;omega) (VW.out.gr (by omega) OI) (HH0.out.keep λb o hb=>OI.cell (xl hb (by omega))) hm.h4);have hc0:w1.cell? ⟨w.heap.size,0,none⟩=some (.slice nA c.Aq.length nc):=(OI.cell (by show w.heap.size<_;omega)).trans (by rw[HW.out];simp);have hc1:w1.cell? ⟨w.heap.size,1,none⟩=some (.slice hA c.Ap.length hc):=(OI.cell (by show w.heap.size<_;omega)).trans (by rw[HW.out];simp)
  have hz1:=OI.size;unfold AH at HS;clear OI hm;have HE:=xf hE;clear hE;go_wp2_with fail;refine HS.out.mono ?_;rintro e w2 ⟨rfl,hg2,g,cap,hg,hK,hKF⟩;have HRF:=xf hKF;clear hKF;have HR:=xf hK;have Ea:=xf hg2;clear hg2 hK;go_wp2;go_ret2;refine⟨B4.out.trans (Ch.out.trans Ea.out),?_⟩;rw[if_pos HE.out];exact⟨_,g,cap,rfl,by omega,by omega,HR.out,HRF.out⟩
 .have HE:=xf hE;obtain⟨k,hk⟩:∃k,k=AK c:=⟨_,rfl⟩;rw[<-hk] at hE ⊢;have HK:=xf hk;clear hk;go_wp2;go_ret2;refine⟨B4.out.trans Ch.out,?_⟩;rw[if_neg HE.out];show Ending.returned (.tuple #[.pointer none,.int .i64 k])=_;rw[HK.out]
open Go.Shelf
attribute [local go_sem] Oper.semAt_some
def DC:Bl:=λ_=>0
def fV {c:AD}:∀i,c.has (DC i):=λ_=>Nat.pos_of_ne_zero (by simp)
def l7 {c:AD}(Du:c.Ok):∀x∈Bc c.Ap.length,c.has x:=lY _ Du.h4
def nQ {c:AD}(Du:c.Ok):(Bc c.Ap.length).length<=16:=by
 rw[di _ Du.h4];exact xx (zl (by omega) Du.h4) (by decide)
def isSome (c:AD):Bool:=!(Bo c (Bc c.Ap.length) c.Aq.length DC 0).isEmpty
def qE {K:Nat->Prop}{cb:Nat}{c:AD}{nA hA:Option Addr}{nc hc sb sc:Nat}(w:World)(Du:c.Ok)(hK:CN w K cb c (Bc c.Ap.length) nA hA nc hc sb sc) :
  Calls An 57 #[.pointer (some ⟨cb,0,none⟩)] w λe w'=>e=.returned (.bool (isSome c))/\Gr w w':=by
 rw[<-callsIn_wide (n:=0)];have HK:=xf hK;have D6:=hK.lt;have Ut:=xf D6;clear hK D6;refine callsIn_of_wp_marks Sq.func57 rfl trivial ?_ rfl;simp only[Tryz.ntmps57,xB,xz,xF,Nat.reduceAdd,Nat.reduceSub,yi,yj,yv,yn,yD,yt]
 gi_wp2_with fail
 have E1:=lD cb 0 DC (w.alloc (.cells #[.bool false] 4));rw[<-callsIn_wide (n:=0)] at E1;refine⟨trivial,rfl,E1.mono ?_⟩;rintro e w1 ⟨rfl,Eb⟩;have HS:=xf (jW (T0:=(·=w.heap.size)) (K:=K) (n:=0) (r:=DC) (HK.out.keep (w':=w.alloc (.cells #[.bool false] 4)) (by simp) λb o hb=>xI _ _ _ (Ut.out b hb)) (λb hb=>by subst hb;simp) (λb hb h=>by have:=Ut.out b hb;omega) fV);rw[<-Eb] at HS;have HW:=xf Eb
 clear Eb E1;have hres:w1.heap[w.heap.size]?=some (.cells #[.bool false] 4 (0,0)):=by
  rw[HW.out,yP _ _ _ (by simp;omega),yP _ _ _ (by simp;omega),yP _ _ _ (by simp)];exact World.alloc_heap_new w _
 have KD:=xf hres;have hz:w1.heap.size=w.heap.size+4:=by rw[HW.out];simp
 have HZ:=xf hz;have hg1:Gr w w1:=by rw[HW.out];exact((((Gr.refl w).alloc _).alloc _).alloc _).alloc _
 have HG:=xf hg1;clear hres hz hg1
 gi_wp2_with fail
 refine ot (T0:=(·=w.heap.size)) (K:=K) (cb:=cb) (c:=c) (sets:=Bc c.Ap.length) (nA:=nA) (hA:=hA) (nc:=nc) (hc:=hc) (sb:=sb) (sc:=sc) (bc:=w.heap.size+1) (br:=w.heap.size+1+1) (bn:=w.heap.size+1+2) (k:=c.Aq.length) (n:=0) (r:=DC)
  Du (l7 Du) (nQ Du) rfl (by omega) (λ_ _=>rfl) (by simpa using HS.out) (by rintro b rfl;have:=HZ.out;omega)
  (λpre W=>pre=[]/\W.heap[w.heap.size]?=some (.cells #[.bool false] 4 (0,0)))
  (λj pre W=>j=.ret/\pre≠[]/\W.heap[w.heap.size]?=some (.cells #[.bool true] 4 (0,0)))
  (λpre W W' h hk=>⟨h.1,(hk _ rfl).trans h.2⟩) (λj pre W W' h hk=>⟨h.1,h.2.1,(hk _ rfl).trans h.2.2⟩) ⟨rfl,KD.out⟩
  ?_ ?_ ?_
 .intro l pre ρ W Jz C4;obtain⟨rfl,hb⟩:=C4;obtain⟨h1,h2,h3⟩:=one_cell hb;have HB:=xf (one_set (u:=.bool true) hb);clear Jz hb
  gi_wp2
  exact⟨KT.setCell (T:=(·=w.heap.size)) W (p:=⟨w.heap.size,0,none⟩) rfl _,rfl,by simp,HB.out⟩
 .rintro D W hD Jz ⟨hL,hb⟩ hd;obtain⟨h1,h2,h3⟩:=one_cell hb;have HB:=xf (one_set (u:=.bool false) hb);have SH:=xf (Jz.gr HG.out (by rintro b (rfl|rfl)<;>omega));have HL:=xf (show isSome c=false by unfold isSome;rw[hL];rfl);have SK:D≠w.heap.size:=λe=>by subst e;rw[hb] at hd;cases hd
  have HD:=xf (show(W.setCell ⟨w.heap.size,0,none⟩ (.bool false)).heap[D]?=some (.deferred (some [])) from(xD _ _ _ _ SK).trans hd);have hz:=HZ.out;clear Jz hb hd hL
  gi_wp2
  refine dI HD.out (v:=.bool false) ?_ ⟨by rw[HL.out],(SH.out.setCell (xh _) _).putObj (by omega) _⟩;have:=(one_cell HB.out).1;rw[<-cx (D:=D) (o:=.deferred none) (p:=⟨w.heap.size,0,none⟩) (Ne.symm SK)] at this;simp[results,Tryz.results57,go_sem,this]
 .rintro D j q W hD Jz hq ⟨rfl,hne,hb⟩ hd;have SK:D≠w.heap.size:=λe=>by subst e;rw[hb] at hd;cases hd
  refine wpIn_ret ?_;refine dI hd (v:=.bool true) ?_ ⟨?_,(Jz.gr HG.out (by have:=HZ.out;rintro b (rfl|rfl)<;>omega)).putObj (by have:=HZ.out;omega) _⟩
  .have:=(one_cell hb).1;rw[<-cx (D:=D) (o:=.deferred none) (p:=⟨w.heap.size,0,none⟩) (Ne.symm SK)] at this;simp[results,Tryz.results57,go_sem,this]
  .refine ap ?_;unfold isSome;obtain⟨t,ht⟩:=hq;cases hw:Bo c (Bc c.Ap.length) c.Aq.length DC 0 with
   |nil=>rw[hw] at ht;exact absurd (List.append_eq_nil_iff.1 ht).1 hne
   |cons a l=>rfl
end Go.Proofs.Ao
namespace Go.Sq
def G4 (l m:List Int):Bool:=decide (l.length<m.length)||(decide (l.length=m.length)&&decide (FE l m<0))
def G5 (w:World)(kb:Nat):Option (List Int)->Prop
 |none=>w.heap[kb]?=some (.cells #[.int .i32 0,.int .u32 0,.slice none 0 0,.bool false] 116 (0,0))
 |some l=>∃A c,w.heap[kb]?=some (.cells #[.int .i32 0,.int .u32 0,.slice A l.length c,.bool true] 116 (0,0))/\l.length<=4611686018427387904/\FC w (λb=>b≠kb/\b<w.heap.size) A l
def I5:Option (List Int)->List Int->List Int
 |none,x=>x
 |some b,x=>if G4 x b then x else b
def Dh {W:World}{b:Nat}{v0 v1 v2 v3:Value}{t:TypeId}(h:W.heap[b]?=some (.cells #[v0,v1,v2,v3] t (0,0))) :
  W.cell? ⟨b,0,none⟩=some v0/\W.cell? ⟨b,1,none⟩=some v1/\W.cell? ⟨b,2,none⟩=some v2/\W.cell? ⟨b,3,none⟩=some v3/\(∀i,W.frozen? ⟨b,i,none⟩=false)/\b<W.heap.size:=by
 refine⟨?_,?_,?_,?_,λi=>?_,(xg.1 h).1⟩
 .unfold World.cell?;simp only[h];rfl
 .unfold World.cell?;simp only[h];rfl
 .unfold World.cell?;simp only[h];rfl
 .unfold World.cell?;simp only[h];rfl
 .unfold World.frozen?;simp[h]
def ax {W:World}{b i:Nat}{a:Array Value}{u:Value}{t:TypeId}{f:Nat×Nat}(h:W.heap[b]?=some (.cells a t f)):(W.setCell ⟨b,i,none⟩ u).heap[b]?=some (.cells (a.setIfInBounds i u) t f):=by
 unfold World.setCell;simp only[ya,if_true,h]
 rfl
def FC.keep' {w w':World}{kb:Nat}{A:Option Addr}{l:List Int}(h:FC w (λb=>b≠kb/\b<w.heap.size) A l)(hz:w.heap.size<=w'.heap.size)(hk:∀b o,b≠kb->w'.cell? ⟨b,o,none⟩=w.cell? ⟨b,o,none⟩):FC w' (λb=>b≠kb/\b<w'.heap.size) A l:=λhn=>by
 obtain⟨b,o,e,hb,hc⟩:=h hn;exact⟨b,o,e,⟨hb.1,xl hb.2 hz⟩,λi x hx=>(hk _ _ hb.1).trans (hc i x hx)⟩
end Go.Sq
namespace Go.Proofs.Ao
open Go.RowKit Go.Sq
def so (A A':Option Addr)(c c':Nat)(l m:List Int)(w:World)(B:Nat)(h:RI w B A l)(h':RI w B A' m)(hl:l.length<=4611686018427387904)(hm:m.length<=4611686018427387904) :
  Calls An 59 #[.slice A l.length c,.slice A' m.length c'] w λe w'=>e=.returned (.bool (G4 l m))/\w=w':=by
 have HC:=xf (kv A A' c c' l m w B h h' hl hm);clear h h';go_enter Sq.func59,Tryz.ntmps59;by_cases h1:l.length<m.length
 .have HL:=xf (show G4 l m=true by simp[G4,h1]);go_wp2;go_ret;exact⟨ap HL.out.symm,rfl⟩
 .by_cases h2:l.length=m.length
  .have HL:=xf (show G4 l m=decide (FE l m<0) by simp[G4,h2]);rw[h2] at HC ⊢;clear h1 h2;generalize FE l m=q at HC HL;go_wp2_with (go_at_call 60;refine HC.out.mono ?_;rintro e w' ⟨rfl,rfl⟩);go_ret;exact⟨ap HL.out.symm,rfl⟩
  .have HL:=xf (show G4 l m=false by simp[G4,h1,h2]);clear HC;generalize l.length=a at h1 h2 hl ⊢;generalize m.length=b at h1 h2 hm ⊢;go_wp2;go_ret;exact⟨ap HL.out.symm,rfl⟩
def t8 (kb:Nat)(xA:Option Addr)(xc:Nat)(x:List Int)(o:Option (List Int))(w:World)(hk:G5 w kb o)(hx:FC w (λb=>b≠kb/\b<w.heap.size) xA x)(hl:x.length<=4611686018427387904) :
  Calls An 58 #[.pointer (some ⟨kb,0,none⟩),.slice xA x.length xc,.func (.func 59) #[] #[]] w λe w'=>e=.returned (.tuple #[])/\KT (·=kb) w w'/\G5 w' kb (some (I5 o x)):=by
 have HX:=xf hx;clear hx;cases o with
 |none =>
  obtain⟨h0,h1,h2,h3,hf,hlt⟩:=Dh hk;have f0:=hf 0;have f2:=hf 2;have f3:=hf 3;have HK:=xf hk;clear hf hk;go_enter_defers Sq.func58,Tryz.ntmps58;go_wp2_with (go_at_call 79;refine(zP ⟨kb,0,none⟩ _ h0 f0).mono ?_;rintro e w' ⟨rfl,rfl⟩);have HS:=xf (ax (i:=3) (u:=.bool true) (ax (i:=2) (u:=.slice xA x.length xc) (ax (i:=0) (u:=.int .i32 1) HK.out)));refine leaves_cons (f:=80) (args:=#[.pointer (some ⟨kb,0,none⟩)]) (by simp) (by simp[go_sem]) ?_
  obtain⟨c0,_,_,_,cf,_⟩:=Dh HS.out;refine(zO ⟨kb,0,none⟩ .returning _ c0 (cf 0)).mono ?_;rintro e u' w'' ⟨rfl,rfl,rfl⟩;have Jy:=ax (i:=0) (u:=.int .i32 0) HS.out;refine⟨.tuple #[],results_none rfl _ _ _,rfl,(((KT.setCell (T:=(·=kb)) w (p:=⟨kb,0,none⟩) rfl _).trans (KT.setCell (T:=(·=kb)) _ (p:=⟨kb,2,none⟩) rfl _)).trans (KT.setCell (T:=(·=kb)) _ (p:=⟨kb,3,none⟩) rfl _)).trans (KT.setCell (T:=(·=kb)) _ (p:=⟨kb,0,none⟩) rfl _),?_⟩
  refine⟨xA,xc,Jy,hl,HX.out.keep' (by simp[World.setCell]) λb i hb=>?_⟩;rw[xq _ _ _ _ (by simp[Ne.symm hb]),xq _ _ _ _ (by simp[Ne.symm hb]),xq _ _ _ _ (by simp[Ne.symm hb]),xq _ _ _ _ (by simp[Ne.symm hb])]
 |some b =>
  obtain⟨bA,bc,hk,hbl,hb⟩:=hk;obtain⟨h0,h1,h2,h3,hf,hlt⟩:=Dh hk;have f0:=hf 0;have f2:=hf 2;have f3:=hf 3;have HK:=xf hk;have HB:=xf hb;have hc2:(w.setCell ⟨kb,0,none⟩ (.int .i32 1)).cell? ⟨kb,2,none⟩=some (.slice bA b.length bc):=(xq _ _ _ _ (by simp)).trans h2;have hc3:(w.setCell ⟨kb,0,none⟩ (.int .i32 1)).cell? ⟨kb,3,none⟩=some (.bool true):=(xq _ _ _ _ (by simp)).trans h3;have kp:∀ {A:Option Addr} {l:List Int},FC w (λb=>b≠kb/\b<w.heap.size) A l->RI (w.setCell ⟨kb,0,none⟩ (.int .i32 1)) w.heap.size A l:=λh=>FC.ri (K:=λb=>b≠kb/\b<w.heap.size) (h.keep λb o hb=>xq _ _ _ _ (by simp[Ne.symm hb.1])) λb hb=>hb.2
  have HC:=xf (so xA bA xc bc x b (w.setCell ⟨kb,0,none⟩ (.int .i32 1)) w.heap.size (kp HX.out) (kp hb) hl hbl);clear hf hk hb kp hc2 hc3;obtain⟨v,hv⟩:∃v,v=G4 x b:=⟨_,rfl⟩;rw[<-hv] at HC;have HV:=xf hv;clear hv;cases v with
  |true =>
   go_enter_defers Sq.func58,Tryz.ntmps58;go_wp2_with (first|(go_at_call 79;refine(zP ⟨kb,0,none⟩ _ h0 f0).mono ?_;rintro e w' ⟨rfl,rfl⟩)|(go_at_call 59;refine HC.out.mono ?_;rintro e w' ⟨rfl,rfl⟩));have HS:=xf (ax (i:=3) (u:=.bool true) (ax (i:=2) (u:=.slice xA x.length xc) (ax (i:=0) (u:=.int .i32 1) HK.out)));refine leaves_cons (f:=80) (args:=#[.pointer (some ⟨kb,0,none⟩)]) (by simp) (by simp[go_sem]) ?_
   obtain⟨c0,_,_,_,cf,_⟩:=Dh HS.out;refine(zO ⟨kb,0,none⟩ .returning _ c0 (cf 0)).mono ?_;rintro e u' w'' ⟨rfl,rfl,rfl⟩;have Jy:=ax (i:=0) (u:=.int .i32 0) HS.out;refine⟨.tuple #[],results_none rfl _ _ _,rfl,(((KT.setCell (T:=(·=kb)) w (p:=⟨kb,0,none⟩) rfl _).trans (KT.setCell (T:=(·=kb)) _ (p:=⟨kb,2,none⟩) rfl _)).trans (KT.setCell (T:=(·=kb)) _ (p:=⟨kb,3,none⟩) rfl _)).trans (KT.setCell (T:=(·=kb)) _ (p:=⟨kb,0,none⟩) rfl _),?_⟩
   have VZ:I5 (some b) x=x:=by simp[I5,<-HV.out]
   rw[VZ];refine⟨xA,xc,Jy,hl,HX.out.keep' (by simp[World.setCell]) λb i hb=>?_⟩;rw[xq _ _ _ _ (by simp[Ne.symm hb]),xq _ _ _ _ (by simp[Ne.symm hb]),xq _ _ _ _ (by simp[Ne.symm hb]),xq _ _ _ _ (by simp[Ne.symm hb])]
  |false =>
   go_enter_defers Sq.func58,Tryz.ntmps58;go_wp2_with (first|(go_at_call 79;refine(zP ⟨kb,0,none⟩ _ h0 f0).mono ?_;rintro e w' ⟨rfl,rfl⟩)|(go_at_call 59;refine HC.out.mono ?_;rintro e w' ⟨rfl,rfl⟩));have HS:=xf (ax (i:=0) (u:=.int .i32 1) HK.out);refine leaves_cons (f:=80) (args:=#[.pointer (some ⟨kb,0,none⟩)]) (by simp) (by simp[go_sem]) ?_;obtain⟨c0,_,_,_,cf,_⟩:=Dh HS.out;refine(zO ⟨kb,0,none⟩ .returning _ c0 (cf 0)).mono ?_
   rintro e u' w'' ⟨rfl,rfl,rfl⟩;have Jy:=ax (i:=0) (u:=.int .i32 0) HS.out;refine⟨.tuple #[],results_none rfl _ _ _,rfl,(KT.setCell (T:=(·=kb)) w (p:=⟨kb,0,none⟩) rfl _).trans (KT.setCell (T:=(·=kb)) _ (p:=⟨kb,0,none⟩) rfl _),?_⟩;have VZ:I5 (some b) x=b:=by simp[I5,<-HV.out]
   rw[VZ];refine⟨bA,bc,Jy,hbl,HB.out.keep' (by simp[World.setCell]) λb i hb=>?_⟩;rw[xq _ _ _ _ (by simp[Ne.symm hb]),xq _ _ _ _ (by simp[Ne.symm hb])]
end Go.Proofs.Ao
namespace Go.Sq
open Go.RowKit
def ar {w w':World}{base size n:Nat}{e:TypeId}{v:Value}{xs:List Value}(h:w.ownsRow base e size v n xs)(hk:∀g,v.ownBlock=some g->g<w.heap.size->w'.heap[g]?=w.heap[g]?):w'.ownsRow base e size v n xs:=by
 have hlt:=h.lt;refine⟨h.1,?_⟩;rcases h.2 with h0|⟨g,cap,cur,rfl,h1,h2,h3⟩
 .exact .inl h0
 .exact .inr ⟨g,cap,cur,rfl,h1,(hk g rfl (hlt g rfl).2).trans h2,h3⟩
def gY {w:World}{b1 b2 s1 s2 n1 n2:Nat}{e1 e2:TypeId}{v1 v2:Value}{x1 x2:List Value}(he:e1≠e2)(h1:w.ownsRow b1 e1 s1 v1 n1 x1)(h2:w.ownsRow b2 e2 s2 v2 n2 x2){g:Nat}(hg:v1.ownBlock=some g):some g≠v2.ownBlock:=by
 rcases h1.2 with⟨rfl,_⟩|⟨g1,c1,u1,rfl,_,a1,_⟩
 .cases hg
 .rcases h2.2 with⟨rfl,_⟩|⟨g2,c2,u2,rfl,_,a2,_⟩
  .intro h;cases h
  .intro h;obtain rfl:g1=g:=by injection hg
   obtain rfl:g1=g2:=by injection h
   rw[a1] at a2;injection a2 with a2
   injection a2 with _ h _
   exact he h
def dQ {w:World}{B:Nat}{e:TypeId}{size n:Nat}{v:Value}{xs:List Value}(h:w.ownsRow B e size v n xs){b:Nat}(hb:b<B):some b≠v.ownBlock:=λhh=>by
 have:=(h.lt b hh.symm).1;omega
def Cj {w:World}{B B':Nat}{e:TypeId}{size n:Nat}{v:Value}{xs:List Value}(h:w.ownsRow B e size v n xs)(hb:B'<=B):w.ownsRow B' e size v n xs:=by
 refine⟨h.1,?_⟩;rcases h.2 with h0|⟨g,cap,cur,h1,h2,h3⟩
 .exact .inl h0
 .exact .inr ⟨g,cap,cur,h1,by omega,h3⟩
structure AY (w:World)(base:Nat)(v:Value)(ls:List (List Int))(xs:List Value):Prop where
 row:w.ownsRow base 22 1 v ls.length xs
 cells:∀(i:Nat) (l:List Int),ls[i]?=some l->∃u,xs[i]?=some u/\w.ownsRow base 3 1 u l.length (l.map (Value.int .i64))
def AY.nil (w:World)(base:Nat):AY w base (.slice none 0 0) [] []:=⟨xZ _ _ _ _,λi l h=>by simp at h⟩
def AY.keep {w w':World}{base:Nat}{v:Value}{ls:List (List Int)}{xs:List Value}(h:AY w base v ls xs)(hk:∀b,b<w.heap.size->w'.heap[b]?=w.heap[b]?):AY w' base v ls xs :=
 ⟨ar h.row λg _ hl=>hk g hl,λi l hi=>by
  obtain⟨u,h1,h2⟩:=h.cells i l hi
  exact⟨u,h1,ar h2 λg _ hl=>hk g hl⟩⟩
def AY.keep' {w w':World}{base:Nat}{v:Value}{ls:List (List Int)}{xs:List Value}(h:AY w base v ls xs)(hk:∀b,base<=b->b<w.heap.size->w'.heap[b]?=w.heap[b]?):AY w' base v ls xs :=
 ⟨ar h.row λg hg hl=>hk g (h.row.lt g hg).1 hl,λi l hi=>by
  obtain⟨u,h1,h2⟩:=h.cells i l hi
  exact⟨u,h1,ar h2 λg hg hl=>hk g (h2.lt g hg).1 hl⟩⟩
def AY.push {w1 w w':World}{base n:Nat}{v v' u:Value}{ls:List (List Int)}{xs:List Value}{l:List Int}(h:AY w base v ls xs)(hu:w.ownsRow base 3 1 u l.length (l.map (Value.int .i64)))
  (h1:∀b,b<w.heap.size->w1.heap[b]?=w.heap[b]?) (hs:w.heap.size<=w1.heap.size) (hg:w1.grownBy w' v.ownBlock) (hn:n=ls.length) (hr:w'.ownsRow base 22 1 v' (n+1) (xs++[u])):AY w' base v' (ls++[l]) (xs++[u]):=by
 subst hn;have key:∀ {y:Value} {m:Nat} {zs:List Value},w.ownsRow base 3 1 y m zs->w'.ownsRow base 3 1 y m zs:=λhy=>ar hy λg C1 hl =>
  (hg.block g (xl hl hs) (gY (by decide) hy h.row C1)).trans (h1 g hl)
 have hlen:xs.length=ls.length:=by have:=h.row.1;omega
 refine⟨by simpa using hr,λi y hi=>?_⟩;rcases yh i ls.length with hlt|FM
 .rw[yz hlt] at hi;obtain⟨z,hz,hzo⟩:=h.cells i y hi;exact⟨z,by rw[yz (by omega)];exact hz,key hzo⟩
 .have hi2 : i = ls.length := by
   have:=(xL.1 hi).1;simp at this;omega
  subst hi2;rw[yx (xh _)] at hi;simp at hi;subst hi;exact⟨u,by rw[yx (by omega),hlen];simp,key hu⟩
def AY.Ll {w:World}{base:Nat}{v:Value}{ls:List (List Int)}{xs:List Value}(h:AY w base v ls xs):∃A c,v=.slice A ls.length c/\BD w w.heap.size A ls:=by
 rcases h.row.2 with⟨rfl,h0⟩|⟨g,cap,cur,rfl,h1,h2,h3⟩
 .have:ls=[]:=xU h0;subst this;exact⟨none,0,rfl,.nil⟩
 .refine⟨_,cap,rfl,λ_=>⟨g,0,rfl,(xg.1 h2).1,λi l hi=>?_⟩⟩;obtain⟨u,hu,ho⟩:=h.cells i l hi;obtain⟨A,c,rfl,hr⟩:=zG ho;refine⟨A,c,?_,hr⟩;have:=h.row.cells (g:=g) rfl i _ hu;have e:(⟨g,0,none⟩:Addr).add i=⟨g,0+i,none⟩:=by unfold Addr.add;split<;>simp_all
  rwa [e] at this
end Go.Sq
namespace Go.Proofs.Ao
open Go.RowKit Go.Sq
def zY:(An.info? 22).map (λi=>(i.zero,i.size,i.bytes))=some (some (.slice none 0 0),1,24):=by
 rw[zJ];kernel_rfl
def aX (r:Bl)(k:Nat):List (List Int):=(List.range k).map λi=>wl (r i)
def mY (r:Bl)(k:Nat):aX r (k+1)=aX r k++[wl (r k)]:=by simp[aX,yZ]
def dZ (r:Bl)(k:Nat):(aX r k).length=k:=by simp[aX]
def nR (cb:Nat)(nA:Option Addr)(n nc:Nat)(r:Bl)(w:World)(hcb:cb<w.heap.size)(hc0:w.cell? ⟨cb,0,none⟩=some (.slice nA n nc))(hn:n<=5)(hr:∀i,i<5->r i<16) :
  Calls An 48 #[.pointer (some ⟨cb,0,none⟩),BI r] w λe w'=>∃A c xs,e=.returned (.slice A n c)/\AY w' (w.heap.size+1) (.slice A n c) (aX r n) xs/\Gr w w':=by
 obtain⟨i0,hi,hz0,hz1,hz2⟩:=info_parts zY;have HR:=xf hr;clear hr;unfold BI;go_enter Sq.func48,Tryz.ntmps48;have hc0':(w.alloc (.cells #[.int .u8 (r 0),.int .u8 (r 1),.int .u8 (r 2),.int .u8 (r 3),.int .u8 (r 4)] 72)).cell? ⟨cb,0,none⟩=some (.slice nA n nc):=(xI _ _ _ hcb).trans hc0;clear hc0;go_wp2;go_loopw [5,13] (λv i wr=>∃k:Nat,k<=n/\i=.int .i64 k/\∃xs,AY wr (w.heap.size+1) v (aX r k) xs/\(∀j,j<5->wr.cell? ⟨w.heap.size,j,none⟩=some (.int .u8 (r j)))/\Gr w wr/\w.heap.size+1<=wr.heap.size) (λ_ i _=>n-(intOf i).toNat)
 case atStart =>
  refine⟨0,by omega,rfl,[],AY.nil _ _,λj hj=>?_,(Gr.refl w).alloc _,by simp⟩;rw[xj _ _ _ _ rfl]
  match j,hj with
  |0,_=>rfl
  |1,_=>rfl
  |2,_=>rfl
  |3,_=>rfl
  |4,_=>rfl
 case round =>
  obtain⟨k,hk,rfl,xs,Jj,PU,hgr,hsz⟩:=hrel;have HG:=xf hgr;have HO:=xf Jj;have Nd:=xf PU;clear hgr Jj PU;by_cases hlt:k<n
  .have hx:=HR.out k (by omega);have JJ:=Nd.out k (by omega);have HS:=xf (mY r k);have HL:=xf (fy (r k) wr hx);generalize J7:r k=x at hx JJ HS HL;clear J7;go_wp2_with fail;refine HL.out.mono ?_;rintro e w1 ⟨u,rfl,hou,hg1⟩;obtain⟨uA,uc,rfl,_⟩:=zG hou;have HU:=xf hou;have Ch:=xf hg1;have hs1:=hg1.size;clear hou hg1 HL;have V5:AY w1 (w.heap.size+1) _ (aX r k) xs:=HO.out.keep λb hb=>Ch.out.below.block b hb
   have HO1:=xf V5;have hrow:=V5.row;have hlen:=dZ r k;rw[hlen] at hrow;clear V5 hlen;go_wp2_with (at_builtin;refine Bh rfl _ _ 26 rfl (w.heap.size+1) 22 i0 (.slice none 0 0) 1 24 Sq.underlying26 hi hz0 hz1 hz2 rfl (by decide) _ _ _ rfl (hrow.alloc _) ⟨w1.heap.size,0,none⟩ 1 1 [.slice uA (wl x).length uc] rfl rfl ?c1 ?c2 ?c3 ?c4 ?c5 ?_)
   case c1 =>
    intro j u hj
    match j,hj with
    |0,hj=>simp at hj;subst hj;simp[Addr.add]
   case c2 =>
    intro u' hu;simp at hu;subst hu;rfl
   case c3=>unfold maxLen;omega
   case c4=>omega
   case c5=>simp;omega
   intro v' w2 hown' hgrow hd;have Ea:=xf (((HG.out.trans Ch.out).alloc (.cells #[.slice uA (wl x).length uc] 22)).grown hgrow hd λj hj=>by have:=(hrow.lt j hj).1;omega);have hz2':w1.heap.size+1<=w2.heap.size:=by have:=hgrow.size;simpa using this
   have Tb:Hid (AY w2 (w.heap.size+1) v' (aX r (k+1)) (xs++[.slice uA (wl x).length uc])):=xf (by
    rw[HS.out]
    refine AY.push (HO1.out) (Cj HU.out (by omega)) (λb hb=>heap_alloc_old w1 _ hb) (by simp) hgrow (dZ r k).symm hown')
   have ZO:Hid (∀j,j<5->w2.cell? ⟨w.heap.size,j,none⟩=some (.int .u8 (r j))):=xf λj hj =>
    hgrow.cell ((xI _ _ _ (by show w.heap.size<w1.heap.size;omega)).trans ((Ch.out.cell (by show w.heap.size<wr.heap.size;omega)).trans (Nd.out j hj))) (dQ hrow (by show w.heap.size<_;omega))
   have hz3:w.heap.size+1<=w2.heap.size:=by omega
   clear hown' hgrow hd HG Ch HO HO1 HU HS Nd JJ hrow hs1;go_wp2;go_roundw
   case rel=>exact⟨k+1,by omega,by go_num,_,Tb.out,ZO.out,Ea.out,by omega⟩
   case measure=>simp[intOf];omega
  .have E4:k=n:=by omega
   subst E4;obtain⟨A,c,rfl,_⟩:=HO.out.Ll;have hl:=dZ r k;rw[hl] at HO ⊢;clear hl;go_wp2;go_ret;exact⟨_,_,_,rfl,HO.out,HG.out⟩
end Go.Proofs.Ao
namespace Go.Sq
def Hr (l:List Int)(i k:Nat):List Int:=(List.range l.length).map λj=>if j<k/\i.testBit j=true then l[j]?.getD 0 else 0
def aY (i k:Nat):List Int:=((List.range k).filter i.testBit).map λn:Nat=>(n:Int)
def I6 (c:AD)(i:Nat):AD:={ c with Aq:=Hr c.Aq i c.Aq.length }
def Cx (c:AD):Nat->Option (List Int)
 |0=>none
 |i+1=>if Go.Proofs.Ao.isSome (I6 c i) then Cx c i else some (I5 (Cx c i) (aY i c.Aq.length))
def ja (l:List Int)(i k:Nat):(Hr l i k).length=l.length:=by simp[Hr]
def ei (l:List Int)(i k j:Nat)(hj:j<l.length):(Hr l i k)[j]?=some (if j<k/\i.testBit j=true then l[j]?.getD 0 else 0):=by simp[Hr,hj]
def ua {c:AD}(h:c.Ok)(i:Nat):(I6 c i).Ok:=by
 have hl:(I6 c i).Aq.length=c.Aq.length:=ja _ _ _;refine⟨by rw[hl];exact h.n1,by rw[hl];exact h.n5,λx hx=>?_,h.h1,h.h4,h.heads,h.CJ,h.most,by rw[hl];exact h.off⟩;obtain⟨j,hj,rfl⟩:=List.getElem_of_mem hx;have hj':j<c.Aq.length:=by rw[hl] at hj;exact hj
 have:=ei c.Aq i c.Aq.length j hj';have e:(I6 c i).Aq[j]=if j<c.Aq.length/\i.testBit j=true then c.Aq[j]?.getD 0 else 0:=by
  rw[xi (by rw[ja];exact hj')] at this;exact Option.some.inj this
 rw[e];split
 .exact h.need _ (Dd c.Aq j hj')
 .omega
def ma (i k:Nat):aY i (k+1)=aY i k++if i.testBit k then[(k:Int)] else[]:=by
 unfold aY;rw[yZ,zw,zr];cases h:i.testBit k<;>simp[h]
def jG (i k:Nat):(aY i k).length<=k:=by
 unfold aY;rw[yK];exact xx (zj _ _) (by simp)
def G5.gr {w w':World}{kb:Nat}{o:Option (List Int)}(h:G5 w kb o)(hg:Gr w w'):G5 w' kb o:=by
 cases o with
 |none=>exact(hg.below.block kb (xg.1 h).1).trans h
 |some l =>
  obtain⟨A,c,h1,h2,h3⟩:=h;refine⟨A,c,(hg.below.block kb (xg.1 h1).1).trans h1,h2,λhn=>?_⟩;obtain⟨b,o,e,hb,hc⟩:=h3 hn;exact⟨b,o,e,⟨hb.1,xl hb.2 hg.size⟩,λi x hx=>(hg.cell (p:=⟨b,o+i,none⟩) hb.2).trans (hc i x hx)⟩
end Go.Sq
namespace Go.Proofs.Ao
open Go.RowKit Go.Sq
def fX {w:World}{ops:Array Oper}{rest:List Oper}{o:Oper}{a:Act}{Q:Exit->Act->World->Prop}(hgd:o.guard=none)(s x:Operand)(ho:o.op=.call { callee:=.builtin .append,args:=#[s,x],argTypes:=#[22,22] })
  (base:Nat) (v:Value) (n:Nat) (xs:List Value) (hs:a.eval s=v) (hown:w.ownsRow base 3 1 v n xs) (ad:Addr) (c:Nat) (u:Value) (hx:a.eval x=.slice (some ad) 1 c) (hc:w.cell? ad=some u) (h1:u.oneCell'=true)
  (hn:n<=1048576) (hbase:base<=w.heap.size) (h:∀v' w',w'.ownsRow base 3 1 v' (n+1) (xs++[u])->w.grownBy w' v.ownBlock->w.drawn<=w'.drawn->wpList An ops Q rest (a.put o.dst v') w'):wpList An ops Q (o::rest) a w:=by
 obtain⟨i0,hi,hz0,hz1,hz2⟩:=info_parts zN;refine Bh hgd s x 22 ho base 3 i0 (.int .i64 0) 1 8 Sq.underlying22 hi hz0 hz1 hz2 rfl (by decide) v n xs hs hown ad 1 c [u] hx rfl (λj u' hj=>?_) (λu' hu=>?_) (by unfold maxLen;omega) (by omega) hbase h
 .match j,hj with
  |0,hj =>
   simp at hj;subst hj;have:ad.add 0=ad:=by unfold Addr.add;split<;>simp_all
   rw[this];exact hc
 .simp at hu;subst hu;exact h1
def ub:∀k:Fin 32,∀j:Fin 5,(bits BinOp.and IntKind.i64 ((k.val:Int) / 2 ^ j.val) 1==1)=k.val.testBit j.val:=by decide +kernel
def mb {l:List Int}{i k m:Nat}(hm:m<l.length)(hne:m≠k):(Hr l i (k+1))[m]?.getD 0=(Hr l i k)[m]?.getD 0:=by
 rw[ei _ _ _ _ hm,ei _ _ _ _ hm];have:(m<k+1↔m<k):=by omega
 simp[this]
def me {l:List Int}{i k:Nat}(hm:k<l.length):(Hr l i (k+1))[k]?.getD 0=if i.testBit k=true then l[k]?.getD 0 else 0:=by
 rw[ei _ _ _ _ hm];simp
def sr {l:List Int}{i k:Nat}(hm:k<l.length):(Hr l i k)[k]?.getD 0=0:=by
 rw[ei _ _ _ _ hm];simp
def fF (n:Nat):Array Value:=madeCells (Value.int .i64 0).cells (n*1)
def gZ (n:Nat)(w:World)(hn:n<=1048576):(Instr.makeSlice 22 (.int .i64 (n:Int)) (.int .i64 (n:Int))).run An w=.ok (.slice (some ⟨w.heap.size,0,none⟩) n n) (w.alloc (.cells (fF n) 3)):=by
 obtain⟨i0,hi,hz0,hz1,hz2⟩:=info_parts zN;have:=run_makeSlice (P:=An) w 22 3 i0 (.int .i64 0) Sq.underlying22 hi hz0 .i64 .i64 (n:Int) (n:Int) (by omega) (by omega) (by rw[hz1];simp;omega) (by rw[hz2];omega) (by omega);rw[hz1] at this;simpa [fF] using this
def dR (n j:Nat)(hj:j<n):(fF n)[j]?=some (.int .i64 0):=by
 simp[fF,madeCells,Value.cells,hj,Nat.mod_one]
def ud (c:AD)(w:World)(e:Ending)(w':World):Prop :=
 Gr w w'/\if AK c≠0 then e=.returned (.tuple #[.slice none 0 0,.int .i64 (AK c)]) else if isSome c then e=.returned (.tuple #[.slice none 0 0,.int .i64 11])
  else ∃A k,e=.returned (.tuple #[.slice A ((Cx c (2 ^ c.Aq.length)).getD []).length k,.int .i64 0])/\RI w' w'.heap.size A ((Cx c (2 ^ c.Aq.length)).getD [])
def ue (nA hA:Option Addr)(nc hc:Nat)(c:AD)(w:World)(B:Nat)(hB:B<=w.heap.size)(hn:RI w B nA c.Aq)(hh:BG w B hA c.Ap)
  (DG:c.Aq.length<=4611686018427387904) (hl2:c.Ap.length<=4611686018427387904) (BU:∀h∈c.Ap,h.off.length<=4611686018427387904) :
  Calls An 23 #[AH nA hA c nc hc] w (ud c w):=by
 unfold AH;obtain⟨W0,hW0⟩:∃W0:World,W0=w.alloc (.cells #[.slice nA c.Aq.length nc,.slice hA c.Ap.length hc] 25):=⟨_,rfl⟩;have hg0:Gr w W0:=hW0▸(Gr.refl w).alloc _;have hz0:W0.heap.size=w.heap.size+1:=by rw[hW0];simp
 have HW:=xf hW0;have Kg:=xf (kh nA hA nc hc c W0 B (by omega) (hn.gr hB hg0) (hh.keep λb o hb=>hg0.cell (xl hb hB)) DG hl2 BU);have B4:=xf hg0;have hcm:W0.cell? ⟨w.heap.size,0,none⟩=some (.slice nA c.Aq.length nc)/\W0.cell? ⟨w.heap.size,1,none⟩=some (.slice hA c.Ap.length hc):=by
  rw[hW0];constructor
  all_goals rw[xj _ _ _ _ rfl];rfl
 have NW:=xf hcm;have HN:=xf hn;have HH:=xf hh;clear hW0 hg0 hn hh BU hcm;go_enter Sq.func23,Tryz.ntmps23;unfold AH at Kg;go_wp2_with fail;rw[<-HW.out];refine Kg.out.mono ?_;rintro e w1 ⟨hg1,Iz⟩;have Ch:=xf hg1;by_cases hE:AK c=0
 .rw[if_pos hE] at Iz;obtain⟨cb,g,cap,rfl,hcb,Uu,hK,_⟩:=Iz;have HK:=xf hK;have HE:=xf hE;have DX:=xf (AD.Ok.of hE);have PV:=xf (qE w1 DX.out hK);clear hg1 hK Kg hE;obtain⟨v,hv⟩:∃v,v=isSome c:=⟨_,rfl⟩;rw[<-hv] at PV;have HV:=xf hv;clear hv;cases v with
  |true =>
   go_wp2_with (go_at_call 57;refine PV.out.mono ?_;rintro e w2 ⟨rfl,hg2⟩;have Ea:=xf hg2;clear hg2);go_ret2;refine⟨B4.out.trans (Ch.out.trans Ea.out),?_⟩;rw[if_neg (by simp[HE.out]),if_pos HV.out.symm]
   rfl
  |false =>
   go_wp2_with fail;refine PV.out.mono ?_;rintro e w2 ⟨rfl,hg2⟩;have Ea:=xf (B4.out.trans (Ch.out.trans hg2));have hc0:w2.cell? ⟨w.heap.size,0,none⟩=some (.slice nA c.Aq.length nc):=((Ch.out.trans hg2).cell (by show w.heap.size<_;omega)).trans NW.out.1;have hc1:w2.cell? ⟨w.heap.size,1,none⟩=some (.slice hA c.Ap.length hc):=((Ch.out.trans hg2).cell (by show w.heap.size<_;omega)).trans NW.out.2
   have hz2:w.heap.size<w2.heap.size:=by have:=hg2.size;have:=Ch.out.size;omega
   have MK:=DX.out.n5;have VX:((2:Int) ^ c.Aq.length)=((2 ^ c.Aq.length:Nat):Int)/\2 ^ c.Aq.length<=32:=by
    have:c.Aq.length=0\/c.Aq.length=1\/c.Aq.length=2\/c.Aq.length=3\/c.Aq.length=4\/c.Aq.length=5:=by omega
    rcases this with e|e|e|e|e|e<;>rw[e]<;>decide
   obtain⟨Gu,Mb⟩:=VX;have hw:∀N:Nat,N<=32->IntKind.i64.wrap (N:Int)=N:=λN h=>by simp[IntKind.wrap,IntKind.bits,IntKind.signed];omega
   obtain⟨N,hN⟩:∃N,N=2 ^ c.Aq.length:=⟨_,rfl⟩;rw[<-hN] at Gu Mb;have hwp:wrap64 ((2:Int) ^ c.Aq.length)=(N:Int):=by
    rw[Gu];unfold wrap64;omega
   have Hk:=λw=>gZ c.Aq.length w (by omega);have HNN:=xf hN;clear Gu hw hN;have Nf:G5 (w2.alloc (.cells #[.int .i32 0,.int .u32 0,.slice none 0 0,.bool false] 116)) w2.heap.size (Cx c 0):=World.alloc_heap_new w2 _;have HK0:=xf Nf;clear Nf;go_wp2;rw[hwp];clear hwp;have V9:=Ea.out.size;go_loopw [26] (λi wr=>∃k:Nat,k<=N/\i=.int .i64 k/\G5 wr w2.heap.size (Cx c k)/\Gr w wr/\wr.cell? ⟨w.heap.size,0,none⟩=some (.slice nA c.Aq.length nc)/\wr.cell? ⟨w.heap.size,1,none⟩=some (.slice hA c.Ap.length hc)/\w2.heap.size<wr.heap.size) (λi _=>N-(intOf i).toNat)
   case atStart =>
    exact⟨0,by omega,rfl,HK0.out,Ea.out.alloc _,(xI _ _ _ hz2).trans hc0,(xI _ _ _ hz2).trans hc1,by simp⟩
   case round =>
    obtain⟨wq,rfl⟩:∃wq,wq=wr:=⟨_,rfl⟩;obtain⟨k,hk,rfl,D6,hgr,hc0,hc1,hzr⟩:=hrel;have Ut:=xf D6;have D7:=xf hgr;clear D6 hgr;have JX:w.heap.size<wq.heap.size:=by omega
    by_cases hlt:k<N
    .go_wp2
     go_loopw [9,38] (λv i wr=>∃j:Nat,j<=c.Aq.length/\i=.int .i64 j/\wr.ownsRow (wq.heap.size+2) 3 1 v (aY k j).length ((aY k j).map (Value.int .i64)) /\
      (∀m,m<c.Aq.length->wr.cell? ⟨wq.heap.size+1,m,none⟩=some (.int .i64 ((Hr c.Aq k j)[m]?.getD 0))/\wr.frozen? ⟨wq.heap.size+1,m,none⟩=false) /\
      wr.cell? ⟨wq.heap.size,0,none⟩=some (.slice (some ⟨wq.heap.size+1,0,none⟩) c.Aq.length c.Aq.length)/\wr.cell? ⟨wq.heap.size,1,none⟩=some (.slice hA c.Ap.length hc)/\Gr wq wr/\wq.heap.size+2<=wr.heap.size) (λ_ i _=>c.Aq.length-(intOf i).toNat)
     case atStart =>
      refine⟨0,by omega,rfl,xZ _ _ _ _,λm hm=>⟨?_,?_⟩,?_,?_,((Gr.refl wq).alloc _).alloc _,by simp⟩
      .rw[xj _ _ _ _ (by simp),dR _ _ hm,ei _ _ _ _ hm];simp
      .rw[xX _ _ _ _ (by simp)]
      .rw[xI _ _ _ (by simp),xj _ _ _ _ rfl];rfl
      .rw[xI _ _ _ (by simp),xj _ _ _ _ rfl];rfl
     case round =>
      obtain⟨j,hj,rfl,hown,hcs,hx0,hx1,FP,Wa⟩:=hrel;have Gt:=xf FP;have Hd:=xf hcs;clear FP hcs;have hlt3:w.heap.size<wr.heap.size:=by omega
      have hc0i:wr.cell? ⟨w.heap.size,0,none⟩=some (.slice nA c.Aq.length nc):=(Gt.out.cell (by show w.heap.size<_;omega)).trans hc0;by_cases Ng:j<c.Aq.length
      .obtain⟨nb,no,rfl,ML,Vo⟩:=(HN.out.gr hB (D7.out.trans Gt.out)).at_ Ng;have HS:=xf (ma k j);have hle:=jG k j;obtain⟨XV,hfj⟩:=Hd.out j Ng;have Tc:Hid ((bits BinOp.and IntKind.i64 ((k:Int) / 2 ^ j) 1==1)=k.testBit j):=xf (ub ⟨k,by omega⟩ ⟨j,by omega⟩);obtain⟨x,hx⟩:∃x,x=c.Aq[j]?.getD 0:=⟨_,rfl⟩;rw[<-hx] at Vo;have HX:=xf hx;clear hx;cases hb:k.testBit j with
       |true =>
        rw[hb] at HS Tc;have ZP:=Tc.out;have HB:=xf hb;clear hb;have EZ:=hown.lt;go_wp2_with (at_builtin;refine fX rfl _ _ rfl (wq.heap.size+2) _ _ _ rfl ((ownsRow_setCell_below hown (by show wq.heap.size+1<_;omega) _).alloc _) ⟨wr.heap.size,0,none⟩ 1 (.int .i64 j) rfl ?c1 rfl ?c2 ?c3 ?_)
        case c2=>omega
        case c3=>(try simp);omega
        intro v' w3 hown' hgrow hd;have Sm:Gr wq w3:=((Gt.out.setCell (p:=⟨wq.heap.size+1,j,none⟩) (by show _<=wq.heap.size+1;omega) _).alloc _).grown hgrow hd λq hq=>by have:=(EZ q hq).1;omega
        have GU:∀b o,b<wq.heap.size+2->w3.cell? ⟨b,o,none⟩=(wr.setCell ⟨wq.heap.size+1,j,none⟩ (.int .i64 x)).cell? ⟨b,o,none⟩/\w3.frozen? ⟨b,o,none⟩=(wr.setCell ⟨wq.heap.size+1,j,none⟩ (.int .i64 x)).frozen? ⟨b,o,none⟩:=λb o hb=>by
         have hne:some b≠_:=dQ hown (show b<wq.heap.size+2 from hb);have Gw:=hgrow.block b (by simp[World.setCell];omega) hne;have ZQ:=Gw.trans (heap_alloc_old _ _ (by simp[World.setCell];omega));exact⟨xH ZQ,yV ZQ⟩
        have Wc:Hid (∀m,m<c.Aq.length->w3.cell? ⟨wq.heap.size+1,m,none⟩=some (.int .i64 ((Hr c.Aq k (j+1))[m]?.getD 0))/\w3.frozen? ⟨wq.heap.size+1,m,none⟩=false):=xf λm hm=>by
         obtain⟨e1,e2⟩:=GU (wq.heap.size+1) m (by omega);refine⟨e1.trans ?_,e2.trans ((yg _ _ _ _).trans (Hd.out m hm).2)⟩;by_cases XW:m=j
         .subst XW;rw[xE _ _ _ XV,me hm,if_pos HB.out,HX.out]
         .rw[xq _ _ _ _ (by simp[XW]),(Hd.out m hm).1,mb hm XW]
        have H0:Hid (w3.cell? ⟨wq.heap.size,0,none⟩=some (.slice (some ⟨wq.heap.size+1,0,none⟩) c.Aq.length c.Aq.length)/\w3.cell? ⟨wq.heap.size,1,none⟩=some (.slice hA c.Ap.length hc)):=xf
         ⟨(GU _ _ (by omega)).1.trans ((xq _ _ _ _ (by simp)).trans hx0),(GU _ _ (by omega)).1.trans ((xq _ _ _ _ (by simp)).trans hx1)⟩
        have Ky:Hid (w3.ownsRow (wq.heap.size+2) 3 1 v' (aY k (j+1)).length ((aY k (j+1)).map (Value.int .i64))):=xf (by rw[HS.out];simpa using hown');have D8:=xf Sm;have hz3:wq.heap.size+2<=w3.heap.size:=by have:=hgrow.size;simp[World.setCell] at this;omega
        clear hown' hgrow hd Sm GU XV hfj hown hx0 hx1 ZP;go_wp2;go_roundw
        case rel=>exact⟨j+1,by omega,by go_num,Ky.out,Wc.out,H0.out.1,H0.out.2,D8.out,hz3⟩
        case measure=>simp[intOf];omega
       |false =>
        rw[hb] at HS Tc;have ZP:=Tc.out;have HB:=xf hb;clear hb;have Wc:Hid (∀m,m<c.Aq.length->wr.cell? ⟨wq.heap.size+1,m,none⟩=some (.int .i64 ((Hr c.Aq k (j+1))[m]?.getD 0))/\wr.frozen? ⟨wq.heap.size+1,m,none⟩=false):=xf λm hm=>by
         refine⟨?_,(Hd.out m hm).2⟩;by_cases XW:m=j
         .subst XW;rw[XV,me hm,sr hm,if_neg (by rw[HB.out];simp)]
         .rw[(Hd.out m hm).1,mb hm XW]
        have Ky:Hid (wr.ownsRow (wq.heap.size+2) 3 1 _ (aY k (j+1)).length ((aY k (j+1)).map (Value.int .i64))):=xf (by rw[HS.out];simpa using hown);have HH0:=xf hx0;have ZJ:=xf hx1;clear hown XV hfj hx0 hx1;go_wp2;go_roundw
        case rel=>exact⟨j+1,by omega,by go_num,Ky.out,Wc.out,HH0.out,ZJ.out,Gt.out,Wa⟩
        case measure=>simp[intOf];omega
      .have ZR:j=c.Aq.length:=by omega
       clear Ng hj;have hlen:(I6 c k).Aq.length=c.Aq.length:=ja _ _ _
       have Ct:RI wr wr.heap.size (some ⟨wq.heap.size+1,0,none⟩) (I6 c k).Aq:=λ_=>⟨_,0,rfl,by omega,λm y hm=>by
        have hml:m<c.Aq.length:=by rw[<-hlen];exact(xL.1 hm).1
        rw[xG,(Hd.out m hml).1,ZR];have:(I6 c k).Aq=Hr c.Aq k c.Aq.length:=rfl
        rw[<-this,hm];rfl⟩
       have HST : Hid (Calls An 54 #[.agg #[.slice (some ⟨wq.heap.size + 1, 0, none⟩) c.Aq.length c.Aq.length, .slice hA c.Ap.length hc]] wr fun e w' => e = .returned (.pointer (some ⟨wr.heap.size + 1, 0, none⟩)) ∧ Gr wr w' ∧ ∃ g cap, wr.heap.size + 2 <= g ∧
         CN w' (PT wr.heap.size (wr.heap.size+1) g) (wr.heap.size+1) (I6 c k) (Bc c.Ap.length) (some ⟨wq.heap.size+1,0,none⟩) hA c.Aq.length hc g cap):=xf (by
        have:=jF (some ⟨wq.heap.size+1,0,none⟩) hA c.Aq.length hc (I6 c k) wr wr.heap.size (xh _) Ct (((HH.out.keep λb o hb=>(D7.out.trans Gt.out).cell (xl hb hB))).more (by have:=(D7.out.trans Gt.out).size;omega)) DX.out.h4;unfold AH at this;rw[hlen] at this
        exact this.mono λe w' ⟨h1,h2,g,cap,h3,h4,_⟩=>⟨h1,h2,g,cap,h3,h4⟩)
       have hown2:=hown;rw[ZR] at hown2;have hrow:∃A c',u9=Value.slice A (aY k c.Aq.length).length c'/\FC wr (λb=>b≠w2.heap.size/\b<wr.heap.size) A (aY k c.Aq.length):=by
        obtain⟨A,c',e,h⟩:=zG hown2;refine⟨A,c',e,λhne=>?_⟩;obtain⟨b,o,e2,hb,hc2⟩:=h hne;refine⟨b,o,e2,⟨?_,hb⟩,hc2⟩;have:=(hown2.lt b (by rw[e,e2];rfl)).1;omega
       obtain⟨A,c',rfl,ZT⟩:=hrow;have aeF:=xf ZT;clear Ct hown2 hown ZT;go_wp2_with fail;refine HST.out.mono ?_;rintro e w3 ⟨rfl,hg3,g3,cap3,hg3l,hK3⟩;have D8:=xf hg3;have TU:=xf (qE (c:=I6 c k) w3 (ua DX.out k) hK3);clear hg3 hK3 HST;obtain⟨v,hv⟩:∃v,v=isSome (I6 c k):=⟨_,rfl⟩;rw[<-hv] at TU;have HV:=xf hv;clear hv;cases v with
       |true =>
        go_wp2_with fail;refine TU.out.mono ?_;rintro e w4 ⟨rfl,hg4⟩;have Ju:=xf (Gt.out.trans (D8.out.trans hg4))
        have Ys:Hid (G5 w4 w2.heap.size (Cx c (k+1))):=xf (by
         have:Cx c (k+1)=Cx c k:=by show(if _ then _ else _)=_;rw[if_pos HV.out.symm]
         rw[this];exact Ut.out.gr Ju.out)
        clear hg4;go_wp2;go_roundw
        case rel=>exact⟨k+1,by omega,by go_num,Ys.out,D7.out.trans Ju.out,(Ju.out.cell JX).trans hc0,(Ju.out.cell JX).trans hc1,by have:=Ju.out.size;omega⟩
        case measure=>simp[intOf];omega
       |false =>
        go_wp2_with fail;refine TU.out.mono ?_;rintro e w4 ⟨rfl,hg4⟩;have Ju:=xf (Gt.out.trans (D8.out.trans hg4));have Wd:=D8.out.trans hg4
        have Td:=xf (t8 w2.heap.size A c' (aY k c.Aq.length) (Cx c k) w4 (Ut.out.gr Ju.out) (λhne=>by
         obtain⟨b,o,e2,hb,hc2⟩:=aeF.out hne
         exact⟨b,o,e2,⟨hb.1,xl hb.2 Wd.size⟩,λi y hy=>(Wd.cell (p:=⟨b,o+i,none⟩) hb.2).trans (hc2 i y hy)⟩) (by have:=jG k c.Aq.length;omega))
        clear hg4 Wd;go_wp2_with fail;refine Td.out.mono ?_;rintro e w5 ⟨rfl,TZ,ZU⟩
        have HK5:Hid (G5 w5 w2.heap.size (Cx c (k+1))):=xf (by
         have:Cx c (k+1)=some (I5 (Cx c k) (aY k c.Aq.length)):=by show(if _ then _ else _)=_;rw[if_neg (by rw[<-HV.out];simp)]
         rw[this];exact ZU)
        have Kh:=xf (KT.gr (D7.out.trans Ju.out) TZ (by rintro b rfl;omega));have ZV:=Ju.out.size;have NM:w5.cell? ⟨w.heap.size,0,none⟩=some (.slice nA c.Aq.length nc):=(TZ.cell (p:=⟨w.heap.size,0,none⟩) (by show w.heap.size<_;omega) (by show w.heap.size≠_;omega)).trans ((Ju.out.cell JX).trans hc0);have JY:w5.cell? ⟨w.heap.size,1,none⟩=some (.slice hA c.Ap.length hc):=(TZ.cell (p:=⟨w.heap.size,1,none⟩) (by show w.heap.size<_;omega) (by show w.heap.size≠_;omega)).trans ((Ju.out.cell JX).trans hc1)
        have LS:=TZ.size;clear TZ ZU Td;go_wp2;go_roundw
        case rel=>exact⟨k+1,by omega,by go_num,HK5.out,Kh.out,NM,JY,by omega⟩
        case measure=>simp[intOf];omega
    .have E4:k=N:=by omega
     subst E4;have HEQ:Hid (Cx c (2 ^ c.Aq.length)=Cx c k):=xf (by rw[<-HNN.out]);obtain⟨o,ho⟩:∃o,o=Cx c k:=⟨_,rfl⟩;rw[<-ho] at Ut HEQ;clear ho hlt;cases o with
     |none =>
      obtain⟨d0,d1,d2,d3,df,dl⟩:=Dh Ut.out;go_wp2;go_ret2;refine⟨D7.out,?_⟩;rw[if_neg (by simp[HE.out]),if_neg (by rw[<-HV.out];simp),HEQ.out];exact⟨none,0,rfl,.nil⟩
     |some b =>
      obtain⟨bA,bc,hkb,hbl,J7⟩:=Ut.out;obtain⟨d0,d1,d2,d3,df,dl⟩:=Dh hkb;have HRK:=xf J7;clear hkb J7;go_wp2;go_ret2;refine⟨D7.out,?_⟩;rw[if_neg (by simp[HE.out]),if_neg (by rw[<-HV.out];simp),HEQ.out];exact⟨bA,bc,rfl,FC.ri HRK.out λb hb=>hb.2⟩
 .rw[if_neg hE] at Iz;subst Iz;have HE:=xf hE;obtain⟨k,hk⟩:∃k,k=AK c:=⟨_,rfl⟩;rw[<-hk] at hE ⊢;have HK:=xf hk;clear hk hg1 Kg;go_wp2;go_ret2;refine⟨B4.out.trans Ch.out,?_⟩;rw[if_pos HE.out];show Ending.returned (.tuple #[.slice none 0 0,.int .i64 k])=_;rw[HK.out]
end Go.Proofs.Ao
