/- Parts of the proof. -/
import Derived.Test.YtjcgijifamcggaaGreatP14
import Derived.Test.YtjcgijifamcggaaGreatP01
import Derived.Test.YtjcgijifamcggaaGreatP00
import Derived.Test.YtjcgijifamcggaaGreatP02
import Derived.BigQuiet
import Derived.WalkKit
set_option linter.all false
set_option maxHeartbeats 3200000
set_option maxRecDepth 1000000
namespace Go.Sq
open Go.RowKit Go.Sort Go.Proofs Go.Lib
abbrev vF:=Fin 16
def Kw (x:vF):Value:=.int .u8 (x.val:Int)
def Wz (a b:vF):Int:=F7 (wl a.val) (wl b.val)
def afr:OneCell Kw:=λ_=>rfl
def afs:SWO (ltOf Wz):=by
 constructor
 all_goals decide +kernel
def IM (m:Nat):Array vF:=((List.range (2 ^ m)).map (Fin.ofNat 16)).toArray
def Bo:Nat->List Nat
 |0=>[0]
 |1=>[0,1]
 |2=>[0,1,3,2]
 |3=>[0,1,3,7,5,2,6,4]
 |_=>[0,1,3,7,15,11,5,13,9,2,6,14,10,4,12,8]
def five {p:Nat->Prop}(h:p 0/\p 1/\p 2/\p 3/\p 4):∀m,m<=4->p m:=λm hm=>by
 have:m=0\/m=1\/m=2\/m=3\/m=4:=by omega
 obtain⟨h0,h1,h2,h3,h4⟩:=h;rcases this with rfl|rfl|rfl|rfl|rfl<;>assumption
def afu:∀m,m<=4->(pdq (ltOf Wz) (IM m) 0 (IM m).size (Go.Lib.bitLen (IM m).size) true true).toList.map Fin.val=Bo m :=
 five ⟨by decide +kernel,by decide +kernel,by decide +kernel,by decide +kernel,by decide +kernel⟩
def afv:∀m,m<=4->(IM m).size=2 ^ m/\∀j,j<2 ^ m->((IM m)[j]!).val=j :=
 five ⟨by decide +kernel,by decide +kernel,by decide +kernel,by decide +kernel,by decide +kernel⟩
def cW:∀m,m<=4->(Bo m).length=2 ^ m:=five ⟨rfl,rfl,rfl,rfl,rfl⟩
def fN:∀m,m<=4->∀x∈Bo m,x<2 ^ m:=five ⟨by decide,by decide,by decide,by decide,by decide⟩
def Gr.grow {w w':World}(h:Gr w w'):∃q os',w'=grow (w.drewN q) os':=by
 refine⟨w'.drawn-w.drawn,w'.heap.extract w.heap.size w'.heap.size,?_⟩;have hd:=h.drawn;have e:w'.heap=w.heap++w'.heap.extract w.heap.size w'.heap.size:=by
  apply Array.ext_getElem?;intro k;by_cases hk:k<w.heap.size
  .rw[Array.getElem?_append_left hk];exact h.below.block k hk
  .rw[Array.getElem?_append_right (by omega),Array.getElem?_extract];have hs:=h.size;by_cases hk2:k<w'.heap.size
   .rw[if_pos (by omega)];congr 1;omega
   .rw[if_neg (by omega),yZ (by omega)]
 cases w with
 |mk wh wt wd wo wu =>
  cases w' with
  |mk vh vt vd vo vu =>
   have e1:=h.below.os;have e2:=h.below.tape;have e3:=h.below.output;simp only at e1 e2 e3 e hd;subst e1 e2 e3;unfold Sort.grow World.drewN;simp only[World.mk.injEq,and_true,true_and];exact⟨e,by omega⟩
def SortedIn (sets:List Nat)(g:Nat)(W W':World):Prop :=
 KT (·=g) W W'/\(∀(i x:Nat),sets[i]?=some x->W'.cell? ⟨g,i,none⟩=some (.int .u8 (x:Int)))/\∀n c,Eg W (.slice (some ⟨g,0,none⟩) n c)->Eg W' (.slice (some ⟨g,0,none⟩) n c)
end Go.Sq
namespace Go.Proofs.YtjcgijifamcggaaGreat
open Go.RowKit Go.Sq Go.Sort
def sa (a b:Nat)(w:World)(ha:a<16)(hb:b<16) :
  Calls AG 48 #[.int .u8 a,.int .u8 b] w λe w'=>e=.returned (.int .i64 (F7 (wl a) (wl b)))/\Gr w w':=by
 have hla:=bM a;have hlb:=bM b;have HL:=xl hla;have HL':=xl hlb;clear hla hlb;go_enter Sq.func48,Tryz.ntmps48;go_wp2_with fail;refine(gh a w ha).mono ?_;rintro e w1 ⟨v,rfl,ho,hg⟩;have hO:=xl ho;have hG:=xl hg;clear ho hg;go_wp2_with fail;refine(gh b w1 hb).mono ?_;rintro e w2 ⟨v',rfl,Mb,Dd⟩;obtain⟨A,c,rfl,hr⟩:=zY hO.out;obtain⟨A',c',rfl,M7⟩:=zY Mb;have hG2:=xl (hG.out.trans Dd);have HC:=xl (j7 A A' c c' (wl a) (wl b) w2 w2.heap.size ((hr.gr (xp _) Dd).more Dd.size) M7 (by have:=HL.out;omega) (by have:=HL'.out;omega))
 clear hO hG Mb Dd hr M7;go_wp2_with fail;refine HC.out.mono ?_;rintro e w3 ⟨rfl,rfl⟩;go_wp2;go_ret;exact⟨rfl,hG2.out⟩
def qc (m:Nat)(hm:m<=4):qa (2 ^ m) (λv W W'=>∃g cap,v=.slice (some ⟨g,0,none⟩) (2 ^ m) cap/\SortedIn (Bo m) g W W'):=by
 intro W g cap B ho;obtain⟨hsz,Ty⟩:=afv m hm;have hpq:=afu m hm;have hlen:=cW m hm;have GD:1<=2 ^ m:=Nat.one_le_two_pow;have XR:2 ^ m<=16:=(five (p:=λm=>2 ^ m<=16) ⟨by decide,by decide,by decide,by decide,by decide⟩) m hm;have hlt:g<W.heap.size:=(ho.lt g rfl).2;have hH:Holds Kw W g 0 (IM m):=by
  intro j hj;rw[hsz] at hj;refine⟨?_,?_⟩
  .have:=ho.cells (g:=g) rfl j (.int .u8 j) (by unfold Lz;simp[hj]);rw[show(⟨g,0,none⟩:Addr).add j=⟨g,0+j,none⟩ by unfold Addr.add;split<;>simp_all] at this;rw[this,Kw,Ty j hj]
  .rcases ho.2 with⟨h,_⟩|⟨g',c',cur,h,_,hb,_⟩
   .cases h
   .obtain⟨rfl⟩:g=g':=by injection h with h1;injection h1 with h2;injection h2
    simp[World.frozen?,hb]
 have hC:CmpLays1 AG 48 #[] Kw Wz g 0 (IM m).size W:=by
  intro k os dk _ x y;refine(sa x.val y.val _ x.isLt y.isLt).mono ?_;rintro e w' ⟨he,hg⟩;exact⟨he,hg.grow⟩
 have h:=Any.slices_SortFunc_eq At Kw afr Wz afs 48 #[] g 0 cap (IM m) W AA hC hH hlt (by rw[hsz];omega);rw[hsz] at h;refine h.mono ?_;rintro e W' ⟨he,n,os,hW⟩;refine⟨he,g,cap,rfl,?_,?_,?_⟩
 rotate_left 2
 .intro n1 c1 N8 a n2 c2 e2;obtain⟨cur,t,q1,q2⟩:=N8 a n2 c2 e2;have ea:a.block=g:=by injection e2 with z _ _;injection z with z;rw[<-z]
  rw[ea] at q1 ⊢;subst hW;refine⟨putCells Kw 0 (pdq (ltOf Wz) (IM m) 0 (2 ^ m) (Go.Lib.bitLen (2 ^ m)) true true) cur,t,?_,λu hu=>?_⟩
  .unfold sortWorld;rw[heap_grow_old _ _ (by rw[size_putRow];exact hlt)];unfold putRow mapBlock;have Ut:(Sort.ahead W n).heap[g]?=some (.cells cur t (0,0)):=q1;simp only[yh,if_true,Ut]
   rfl
  .unfold putCells at hu;rw[Array.toList_mapIdx,List.mem_mapIdx] at hu;obtain⟨i,hi,rfl⟩:=hu;split
   .exact⟨_,rfl⟩
   .exact q2 _ (yn hi)
 .subst hW;refine⟨rfl,rfl,rfl,?_,?_,?_⟩
  .show W.drawn<=W.drawn+n;omega
  .have : W.heap.size <= (sortWorld Kw W g 0 n (pdq (ltOf Wz) (IM m) 0 (2 ^ m) (Go.Lib.bitLen (2 ^ m)) true true) os).heap.size := by
    unfold sortWorld;rw[size_grow,size_putRow];exact Nat.le_add_right _ _
   exact this
  .intro b hb hne;unfold sortWorld;rw[heap_grow_old _ _ (by rw[size_putRow];exact hb)];unfold putRow mapBlock;rw[yh,if_neg (λh=>hne h.symm)]
   rfl
 .intro i x hx;rw[hsz] at hpq;have hi:i<2 ^ m:=by rw[<-hlen];exact(xS.1 hx).1
  generalize hd:pdq (ltOf Wz) (IM m) 0 (2 ^ m) (Go.Lib.bitLen (2 ^ m)) true true=d at hW hpq;have VG:d.size=2 ^ m:=by have:=congrArg List.length hpq;simpa [hlen] using this
  have hS:=(holds_sortWorld Kw W g 0 n (IM m) d os hlt hH (by rw[VG,hsz])) i (by omega);subst hW;rw[xM] at hS;rw[hS.1,Kw];rw[<-hpq,yw,Array.getElem?_toList] at hx;rw[getElem!_pos d i (by omega)];rw[xD (by omega)] at hx;simp at hx;rw[hx]
end Go.Proofs.YtjcgijifamcggaaGreat
namespace Go.Sq
def aQ {l:List Int}:bz l=0↔∀x∈l,x=0:=by
 refine⟨λh x hx=>?_,dx⟩;unfold bz at h;cases hf:l.find? (· != 0) with
 |none=>have:=zL.1 hf x hx;simpa using this
 |some y =>
  rw[hf] at h;have:=List.find?_some hf;simp only[Option.getD_some] at h;subst h;simp at this
def cG {n lo hi:Int}:BV n lo hi=0↔lo<=n/\n<=hi:=by
 unfold BV;split
 .simp;omega
 .split<;>simp<;>omega
def lJ {x lo hi:Int}:Ej x lo hi=true↔lo<=x/\x<=hi:=by simp[Ej]
def kv {l:List Int}{n:Int}:De l n=0↔∀i,i<l.length->Ep l n i=0:=by
 unfold De;rw[aQ];simp
def FM {l:List Int}{n:Int}(h:De l n=0):(∀x∈l,0<=x/\x<n)/\(l.length:Int)<=max n 0/\∀i,i+1<l.length->l[i]?.getD 0<l[i+1]?.getD 0:=by
 rw[kv] at h;have h1:∀i,i<l.length->0<=l[i]?.getD 0/\l[i]?.getD 0<=n-1:=λi hi=>by
  have:=h i hi;unfold Ep at this;split at this
  .assumption
  .cases this
 have h2:∀i,i+1<l.length->l[i]?.getD 0<l[i+1]?.getD 0:=λi hi=>by
  have:=h (i+1) hi;unfold Ep at this;rw[if_pos (h1 _ hi)] at this;by_cases hc:0<i+1/\l[i+1]?.getD 0<=l[i+1-1]?.getD 0
  .rw[if_pos hc] at this;cases this
  .simp only[Nat.add_sub_cancel] at hc;omega
 have h3:∀i,i<l.length->(i:Int)<=l[i]?.getD 0:=λi=>by
  induction i with
  |zero=>intro hi;exact(h1 0 hi).1
  |succ k ih=>intro hi;have:=ih (by omega);have:=h2 k hi;omega
 refine⟨λx hx=>?_,?_,h2⟩
 .obtain⟨i,hi,rfl⟩:=List.getElem_of_mem hx;have:=h1 i hi;rw[xq hi] at this;simp only[Option.getD_some] at this;omega
 .by_cases hz:l.length=0
  .omega
  .have a:=h3 (l.length-1) (by omega);have b:=(h1 (l.length-1) (by omega)).2;omega
def AW.Ok.of {c:AW}(h:Bi c=0):c.Ok:=by
 unfold Bi at h;by_cases h1:BV c.AK.length 1 5≠0
 .rw[if_pos h1] at h;exact absurd h h1
 rw[if_neg h1] at h;have h1':=cG.1 (Decidable.not_not.1 h1);by_cases h2:(c.AK.all λx=>Ej x 0 12)=false
 .rw[if_pos h2] at h;cases h
 rw[if_neg h2] at h;by_cases h3:BV c.AH.length 1 4≠0
 .rw[if_pos h3] at h;exact absurd h h3
 rw[if_neg h3] at h;have OJ:=cG.1 (Decidable.not_not.1 h3);rw[aQ] at h;have hh:∀x∈c.AH,(1<=x.heads/\x.heads<=40)/\(1<=x.DC/\x.DC<=5)/\(0<=x.most/\x.most<=5)/\De x.off c.AK.length=0:=λx hx=>by
  have:=h _ (List.mem_map_of_mem hx);unfold Dv at this;split at this
  .rename_i hc;simp only[xG,lJ] at hc;exact⟨hc.1.1,hc.1.2,hc.2,this⟩
  .cases this
 have Pf:∀x∈c.AK,0<=x/\x<=12:=λx hx=>by
  have:=yu.1 (Bool.not_eq_false _▸h2) x hx;exact lJ.1 this
 exact⟨by omega,by omega,Pf,by omega,by omega,λx hx=>(hh x hx).1,λx hx=>(hh x hx).2.1,λx hx=>(hh x hx).2.2.1,λx hx=>by
  obtain⟨a,b,_⟩:=FM (hh x hx).2.2.2
  exact⟨by omega,a⟩⟩
def tY (l m:List Int)(k:Nat)(h1:k<l.length)(h2:k<m.length) :
  (l.take k=m.take k->l[k]?.getD 0=m[k]?.getD 0->l.take (k+1)=m.take (k+1))/\(l[k]?.getD 0≠m[k]?.getD 0->l≠m):=by
 refine⟨λh e=>?_,λh e=>h (by rw[e])⟩;rw[aS 0 l k h1,aS 0 m k h2,h,e]
def sd (l m:List (List Int))(k:Nat)(h1:k<l.length)(h2:k<m.length) :
  (l.take k=m.take k->l[k]?.getD []=m[k]?.getD []->l.take (k+1)=m.take (k+1))/\(l[k]?.getD []≠m[k]?.getD []->l≠m):=by
 refine⟨λh e=>?_,λh e=>h (by rw[e])⟩;rw[aS [] l k h1,aS [] m k h2,h,e]
def CR (w:World)(B:Nat)(A:Option Addr)(ls:List (List Int)):Prop :=
 ls≠[]->∃b o,A=some ⟨b,o,none⟩/\b<B/\∀i l,ls[i]?=some l->∃A' c,w.cell? ⟨b,o+i,none⟩=some (.slice A' l.length c)/\RI w B A' l
def CR.keep {w w':World}{B:Nat}{A:Option Addr}{ls:List (List Int)}(h:CR w B A ls)(hk:∀b o,b<B->w'.cell? ⟨b,o,none⟩=w.cell? ⟨b,o,none⟩):CR w' B A ls:=λhn=>by
 obtain⟨b,o,e,hb,hc⟩:=h hn;refine⟨b,o,e,hb,λi l hl=>?_⟩;obtain⟨A',c,h1,h2⟩:=hc i l hl;exact⟨A',c,(hk _ _ hb).trans h1,h2.keep hk⟩
def CR.gr {w w':World}{B:Nat}{A:Option Addr}{ls:List (List Int)}(h:CR w B A ls)(hB:B<=w.heap.size)(hg:Gr w w'):CR w' B A ls:=h.keep λ_ _ hb=>hg.cell (xx hb hB)
def CR.more {w:World}{B B':Nat}{A:Option Addr}{ls:List (List Int)}(h:CR w B A ls)(hB:B<=B'):CR w B' A ls:=λhn=>by
 obtain⟨b,o,e,hb,hc⟩:=h hn;refine⟨b,o,e,by omega,λi l hl=>?_⟩;obtain⟨A',c,h1,h2⟩:=hc i l hl;exact⟨A',c,h1,h2.more hB⟩
def CR.nil {w:World}{B:Nat}{A:Option Addr}:CR w B A []:=λh=>absurd rfl h
def CR.at_ {w:World}{B:Nat}{A:Option Addr}{ls:List (List Int)}(h:CR w B A ls){k:Nat}(hk:k<ls.length):∃b o A' c,A=some ⟨b,o,none⟩/\b<B/\w.cell? ⟨b,o+k,none⟩=some (.slice A' (ls[k]?.getD []).length c)/\RI w B A' (ls[k]?.getD []):=by
 obtain⟨b,o,e,hb,hc⟩:=h (λe=>by rw[e] at hk;simp at hk);obtain⟨A',c,h1,h2⟩:=hc k _ (xq hk);refine⟨b,o,A',c,e,hb,?_⟩;rw[xq hk];exact⟨h1,h2⟩
def fO (l:List (List Int))(k:Nat)(h:k<l.length):l[k]?.getD []∈l:=by
 rw[xq h];exact yn h
def cv {w:World}{B b:Nat}{l:List Int}{t:TypeId}{f:Nat×Nat}(h:w.heap[b]?=some (.cells (l.map (Value.int .i64)).toArray t f))(hB:b<B):RI w B (some ⟨b,0,none⟩) l:=λ_ =>
 ⟨b,0,rfl,hB,λi x hx=>by
  unfold World.cell?;rw[h];show(l.map (Value.int .i64)).toArray[0+i]?=_
  rw[xM,yd,yw,hx];rfl⟩
def heap_alloc_new (w:World)(o:Obj):(w.alloc o).heap[w.heap.size]?=some o:=by
 show(w.heap.push o)[w.heap.size]?=_;simp
def heap_alloc_old (w:World)(o:Obj){b:Nat}(h:b<w.heap.size):(w.alloc o).heap[b]?=w.heap[b]?:=by
 show(w.heap.push o)[b]?=_;simp[yY,zP h]
def ap (w:World)(o:Obj){b:Nat}(h:b=w.heap.size):(w.alloc o).heap[b]?=some o:=by subst h;exact heap_alloc_new w o
end Go.Sq
namespace Go.Proofs.YtjcgijifamcggaaGreat
open Go.RowKit Go.Sq
def B3:List (List Int):=[[0],[1],[0,2]]
def jR (w:World):Calls AG 35 #[] w λe w'=>∃A,e=.returned (.slice A B3.length 3)/\CR w' w'.heap.size A B3/\Gr w w':=by
 go_enter Sq.func35,Tryz.ntmps35;go_wp2;go_ret;refine⟨_,rfl,λ_=>⟨_,0,rfl,by simp,λi l hl=>?_⟩,((((Gr.refl w).alloc _).alloc _).alloc _).alloc _⟩
 match i,hl with
 |0,hl =>
  simp[B3] at hl;subst hl;refine⟨some ⟨w.heap.size,0,none⟩,1,?_,cv (l:=[0]) (t:=3) (f:=(0,0)) ?_ (by simp;omega)⟩
  .rw[xu _ _ _ _ (by simp)];rfl
  .rw[heap_alloc_old _ _ (by simp;omega),heap_alloc_old _ _ (by simp;omega),heap_alloc_old _ _ (by simp),ap _ _ rfl];rfl
 |1,hl =>
  simp[B3] at hl;subst hl;refine⟨some ⟨w.heap.size+1,0,none⟩,1,?_,cv (l:=[1]) (t:=3) (f:=(0,0)) ?_ (by simp)⟩
  .rw[xu _ _ _ _ (by simp)];rfl
  .rw[heap_alloc_old _ _ (by simp),heap_alloc_old _ _ (by simp),ap _ _ (by simp)];rfl
 |2,hl =>
  simp[B3] at hl;subst hl;refine⟨some ⟨w.heap.size+2,0,none⟩,2,?_,cv (l:=[0,2]) (t:=3) (f:=(0,0)) ?_ (by simp)⟩
  .rw[xu _ _ _ _ (by simp)];rfl
  .rw[heap_alloc_old _ _ (by simp),ap _ _ (by simp)];rfl
 |k+3,hl=>simp[B3] at hl
def BI (l:List Int):AW:=⟨l,[⟨12,3,2,[]⟩,⟨6,2,2,[0]⟩,⟨6,1,1,[]⟩]⟩
def qd (A:Option Addr)(c:Nat)(l:List Int)(w:World):Calls AG 31 #[.slice A l.length c] w λe w'=>∃hA,e=.returned (Bp A hA (BI l) c 3)/\Dr w' w'.heap.size hA (BI l).AH/\Gr w w'/\hA=some ⟨w.heap.size+2,0,none⟩/\w'.heap[w.heap.size+1]?=some (.cells #[.int .i64 0] 3 (0,0)) /\
      w'.heap[w.heap.size+2]?=some (.cells #[.int .i64 12,.int .i64 3,.int .i64 2,.slice none 0 0,.int .i64 6,.int .i64 2,.int .i64 2,.slice (some ⟨w.heap.size+1,0,none⟩) 1 1,.int .i64 6,.int .i64 1,.int .i64 1,.slice none 0 0] 58 (0,0)):=by
  go_enter Sq.func31,Tryz.ntmps31;go_wp2;obtain⟨W,hW⟩:∃W:World,W=((w.alloc (.cells #[.slice A l.length c,.slice (some ⟨w.heap.size+1+1,0,none⟩) 3 3] 27)).alloc (.cells #[.int .i64 0] 3)).alloc (.cells #[.int .i64 12,.int .i64 3,.int .i64 2,.slice none 0 0,.int .i64 6,.int .i64 2,.int .i64 2,.slice (some ⟨w.heap.size+1,0,none⟩) 1 1,.int .i64 6,.int .i64 1,.int .i64 1,.slice none 0 0] 58):=⟨_,rfl⟩;rw[<-hW]
  have s0:W.cell? ⟨w.heap.size,0,none⟩=some (.slice A l.length c):=by
    rw[hW,xO _ _ _ (by simp;omega),xO _ _ _ (by simp),xu _ _ _ _ rfl];rfl
  have s1:W.cell? ⟨w.heap.size,1,none⟩=some (.slice (some ⟨w.heap.size+1+1,0,none⟩) 3 3):=by
    rw[hW,xO _ _ _ (by simp;omega),xO _ _ _ (by simp),xu _ _ _ _ rfl];rfl
  refine bodyPost_ret (v:=Bp A (some ⟨w.heap.size+1+1,0,none⟩) (BI l) c 3) (by simp[results,Tryz.results31,go_sem,s0,s1,Bp,BI]) rfl ⟨_,rfl,?_,?_,rfl,?_,?_⟩
  · have hz:w.heap.size+1+1<W.heap.size:=by rw[hW];simp
    have hc:∀o,W.cell? ⟨w.heap.size+1+1,o,none⟩=(#[.int .i64 12,.int .i64 3,.int .i64 2,.slice none 0 0,.int .i64 6,.int .i64 2,.int .i64 2,.slice (some ⟨w.heap.size+1,0,none⟩) 1 1,.int .i64 6,.int .i64 1,.int .i64 1,.slice none 0 0]:Array Value)[o]?:=λo=>by
      rw[hW,xu _ _ _ _ (by simp)]
    have Ea:RI W W.heap.size (some ⟨w.heap.size+1,0,none⟩) [0]:=cv (l:=[0]) (t:=3) (f:=(0,0)) (by
      rw[hW,heap_alloc_old _ _ (by simp),ap _ _ (by simp)];rfl) (by omega)
    refine λ_=>⟨_,0,rfl,hz,λi h hh=>?_⟩
    match i,hh with
    |0,hh=>simp[BI] at hh;subst hh;exact⟨hc _,hc _,hc _,none,0,hc _,.nil⟩
    |1,hh=>simp[BI] at hh;subst hh;exact⟨hc _,hc _,hc _,_,1,hc _,Ea⟩
    |2,hh=>simp[BI] at hh;subst hh;exact⟨hc _,hc _,hc _,none,0,hc _,.nil⟩
    |k+3,hh=>simp[BI] at hh
  · rw[hW];exact(((Gr.refl w).alloc _).alloc _).alloc _
  · rw[hW,heap_alloc_old _ _ (by simp),ap _ _ (by simp)]
  · rw[hW,ap _ _ (by simp)]
def lK (A:Option Addr)(c:Nat)(l:List Int)(w:World):Calls AG 31 #[.slice A l.length c] w λe w'=>∃hA,e=.returned (Bp A hA (BI l) c 3)/\Dr w' w'.heap.size hA (BI l).AH/\Gr w w' :=
 (qd A c l w).mono λe w' ⟨hA,h1,h2,h3,_⟩=>⟨hA,h1,h2,h3⟩
end Go.Proofs.YtjcgijifamcggaaGreat
namespace Go.Sq
def dj (l:List Int)(d:Int):List Int:=if d∈l then l else(l++[d]).mergeSort λx y=>decide (x<=y)
def GY (c:AW)(k:Nat)(d:Int):AW:={ c with AH:=c.AH.set k { c.h k with off:=dj (c.h k).off d } }
def C2 (a b:Bt):Nat->Nat
 |0=>0
 |n+1=>C2 a b n+(wl (a n ^^^ b n)).length
def Cq (r:Bt):List Bt->Option (Bt×Nat)
 |[]=>none
 |l@(_::_)=>l.foldl (λo ρ=>match o with
  |none=>some (ρ,C2 ρ r 5)
  |some b=>if C2 ρ r 5<b.2 then some (ρ,C2 ρ r 5) else some b) none
def dP (r:Bt)(l:List Bt)(ρ:Bt):Cq r (l++[ρ])=(match Cq r l with
  |none=>some (ρ,C2 ρ r 5)
  |some b=>if C2 ρ r 5<b.2 then some (ρ,C2 ρ r 5) else some b):=by
 cases l with
 |nil=>rfl
 |cons a l =>
  show((a::l)++[ρ]).foldl _ none=_;rw[List.foldl_append]
  rfl
def qe {r:Bt}:∀(n:Nat) (l:List Bt) (p:Bt×Nat),l.length=n->Cq r l=some p->p.1∈l:=by
 intro n
 induction n with
 |zero =>
  intro l p hl h;rw[xT hl] at h;cases h
 |succ n ih =>
  intro l p hl h;rcases List.eq_nil_or_concat l with rfl|⟨l',b,rfl⟩
  .simp at hl
  .rw[List.concat_eq_append] at h hl ⊢;rw[dP] at h;have hl':l'.length=n:=by simpa using hl
   cases ho:Cq r l' with
   |none=>rw[ho] at h;cases h;simp
   |some q =>
    rw[ho] at h;simp only at h;split at h
    .cases h;simp
    .have e:=Option.some.inj h;rw[<-e];exact List.mem_append_left _ (ih l' q hl' ho)
end Go.Sq
namespace Go.Proofs.YtjcgijifamcggaaGreat
open Go.RowKit Go.Sq
def fz {w:World}{B:Nat}{A:Option Addr}{l:List Int}{K:Nat->Prop}(h:RI w B A l)(hK:∀b,b<B->K b):F8 w K A l:=λhn=>by
 obtain⟨b,o,e,hb,hc⟩:=h hn;exact⟨b,o,e,hK b hb,hc⟩
def vG {w:World}{B:Nat}{A:Option Addr}{l:List BH}{K:Nat->Prop}(h:Dr w B A l)(hK:∀b,b<B->K b):Ed w K A l:=λhn=>by
 obtain⟨b,o,e,hb,hc⟩:=h hn;refine⟨b,o,e,hK b hb,λi x hx=>?_⟩;obtain⟨h1,h2,h3,A',c,h4,h5⟩:=hc i x hx;exact⟨h1,h2,h3,A',c,h4,fz h5 hK⟩
def P4 (B cb g:Nat):Nat->Prop:=λb=>b<B\/b=cb\/b=g
def UN (w:World)(cb g:Nat)(c:AW)(sets:List Nat)(nA hA:Option Addr)(nc hc cap:Nat):Prop :=
 Eg w (.slice (some ⟨g,0,none⟩) sets.length cap)/\w.heap[cb]?=some (.cells #[.slice nA c.AK.length nc,.slice hA c.AH.length hc,.slice (some ⟨g,0,none⟩) sets.length cap] 101 (0,0))
def jm (nA hA:Option Addr)(nc hc:Nat)(c:AW)(w:World)(B:Nat)(hB:B<=w.heap.size)(hn:RI w B nA c.AK)(hh:Dr w B hA c.AH)(hm:c.AH.length<=4) :
  Calls AG 23 #[Bp nA hA c nc hc] w λe w'=>e=.returned (.pointer (some ⟨w.heap.size+1,0,none⟩))/\Gr w w'/\∃g cap,w.heap.size+2<=g /\
   Dg w' (P4 B (w.heap.size+1) g) (w.heap.size+1) c (Bo c.AH.length) nA hA nc hc g cap/\UN w' (w.heap.size+1) g c (Bo c.AH.length) nA hA nc hc cap:=by
 refine(nj nA hA nc hc c.AK.length c.AH.length w hm (qc c.AH.length hm)).mono ?_;rintro e w' ⟨rfl,g,cap,W,⟨g',cap',hv,hk,hs,hsf⟩,hg,hgr,hz,h0,h1,h2,ho,N8,Nh⟩;obtain⟨rfl,rfl⟩:g=g'/\cap=cap':=by injection hv with a b c;injection a with a;injection a with a;exact⟨a,c⟩
 have UO:=(ho.lt g rfl).2;have SI:Gr w w':=⟨⟨hk.os.trans hgr.below.os,hk.tape.trans hgr.below.tape,hk.output.trans hgr.below.output,xI hgr.size hk.size,λb hb=>(hk.block b (xx hb hgr.size) (by show b≠g;omega)).trans (hgr.below.block b hb)⟩,xI hgr.drawn hk.drawn⟩;refine⟨rfl,SI,g,cap,hg,?_,?_,?_⟩
 rotate_left
 .rw[cW _ hm];exact hsf _ _ N8
 .rw[cW _ hm];exact(hk.block _ hz (by show ¬w.heap.size+1=g;omega)).trans Nh
 have hc1:∀o,w'.cell? ⟨w.heap.size+1,o,none⟩=W.cell? ⟨w.heap.size+1,o,none⟩:=λo=>hk.cell (p:=⟨w.heap.size+1,o,none⟩) hz (by show w.heap.size+1≠g;omega);refine⟨?_,Or.inr (Or.inl rfl),(hc1 0).trans h0,(hc1 1).trans h1,?_,Or.inr (Or.inr rfl),hs,fz (hn.gr hB SI) λb hb=>Or.inl hb,vG (hh.keep λb o hb=>SI.cell (xx hb hB)) λb hb=>Or.inl hb⟩
 .rintro b (h|h|h)
  .have:=SI.size;omega
  .have:=hk.size;omega
  .have:=hk.size;omega
 .rw[cW _ hm];exact(hc1 2).trans h2
def aao (nA hA:Option Addr)(nc hc:Nat)(c:AW)(B:Nat)(w:World)(e:Ending)(w':World):Prop :=
 Gr w w' ∧ if Bi c = 0 then ∃ cb g cap, e = .returned (.tuple #[.pointer (some ⟨cb, 0, none⟩), .int .i64 0]) ∧ w.heap.size <= cb ∧ cb < g ∧ Dg w' (P4 B cb g) cb c (Bo c.AH.length) nA hA nc hc g cap ∧ UN w' cb g c (Bo c.AH.length) nA hA nc hc cap
   else e=.returned (.tuple #[.pointer none,.int .i64 (Bi c)])
def jS (nA hA:Option Addr)(nc hc:Nat)(c:AW)(w:World)(B:Nat)(hB:B<=w.heap.size)(hn:RI w B nA c.AK)(hh:Dr w B hA c.AH)(IZ:c.AK.length<=4611686018427387904)(hl2:c.AH.length<=4611686018427387904)
  (C7:∀h∈c.AH,h.off.length<=4611686018427387904) :
  Calls AG 40 #[Bp nA hA c nc hc] w (aao nA hA nc hc c B w):=by
 have HN:=xl hn;have HH:=xl hh;have P3:=xl C7;clear hn hh C7;unfold Bp;obtain⟨W0,hW0⟩:∃W0:World,W0=w.alloc (.cells #[.slice nA c.AK.length nc,.slice hA c.AH.length hc] 27):=⟨_,rfl⟩;have hg0:Gr w W0:=hW0▸(Gr.refl w).alloc _;have JS:RI W0 B nA c.AK:=HN.out.gr hB hg0;have Zm:Dr W0 B hA c.AH:=HH.out.keep λb o hb=>hg0.cell (xx hb hB);have hz0:W0.heap.size=w.heap.size+1:=by rw[hW0];simp
 have HW:=xl hW0;clear hW0;have HC:=xl (tV nA hA nc hc c W0 B (by omega) JS Zm IZ hl2 P3.out);have Ds:=xl hg0;have HN0:=xl JS;have HH0:=xl Zm;clear hg0 JS Zm;unfold Bp at HC;go_enter Sq.func40,Tryz.ntmps40;go_wp2_with fail;rw[<-HW.out];refine HC.out.mono ?_;rintro e w1 ⟨rfl,hg1⟩;have Df:=xl hg1;clear hg1 HC;by_cases hE:Bi c=0
 .rw[hE];have hm:=AW.Ok.of hE;have OP:Gr W0 w1:=Df.out;have HS:=xl (jm nA hA nc hc c w1 B (by have:=OP.size;omega) (HN0.out.gr (by omega) OP) (HH0.out.keep λb o hb=>OP.cell (xx hb (by omega))) hm.h4);have hc0:w1.cell? ⟨w.heap.size,0,none⟩=some (.slice nA c.AK.length nc):=(OP.cell (by show w.heap.size<_;omega)).trans (by rw[HW.out];simp);have hc1:w1.cell? ⟨w.heap.size,1,none⟩=some (.slice hA c.AH.length hc):=(OP.cell (by show w.heap.size<_;omega)).trans (by rw[HW.out];simp)
  have hz1:=OP.size;unfold Bp at HS;clear OP hm;have HE:=xl hE;clear hE;go_wp2_with fail;refine HS.out.mono ?_;rintro e w2 ⟨rfl,hg2,g,cap,hg,hK,hKF⟩;have HRF:=xl hKF;clear hKF;have HR:=xl hK;have EX:=xl hg2;clear hg2 hK;go_wp2;go_ret2;refine⟨Ds.out.trans (Df.out.trans EX.out),?_⟩;rw[if_pos HE.out];exact⟨_,g,cap,rfl,by omega,by omega,HR.out,HRF.out⟩
 .have HE:=xl hE;obtain⟨k,hk⟩:∃k,k=Bi c:=⟨_,rfl⟩;rw[<-hk] at hE ⊢;have HK:=xl hk;clear hk;go_wp2;go_ret2;refine⟨Ds.out.trans Df.out,?_⟩;rw[if_neg HE.out];show Ending.returned (.tuple #[.pointer none,.int .i64 k])=_;rw[HK.out]
open Go.Shelf
attribute [local go_sem] Oper.semAt_some
def Cv:Bt:=λ_=>0
def eE {c:AW}:∀i,c.has (Cv i):=λ_=>Nat.pos_of_ne_zero (by simp)
def iO {c:AW}(DV:c.Ok):∀x∈Bo c.AH.length,c.has x:=fN _ DV.h4
def jT {c:AW}(DV:c.Ok):(Bo c.AH.length).length<=16:=by
 rw[cW _ DV.h4];exact xI (yy (by omega) DV.h4) (by decide)
def isSome (c:AW):Bool:=!(Bz c (Bo c.AH.length) c.AK.length Cv 0).isEmpty
def qg {K:Nat->Prop}{cb:Nat}{c:AW}{nA hA:Option Addr}{nc hc sb sc:Nat}(w:World)(DV:c.Ok)(hK:Dg w K cb c (Bo c.AH.length) nA hA nc hc sb sc) :
  Calls AG 69 #[.pointer (some ⟨cb,0,none⟩)] w λe w'=>e=.returned (.bool (isSome c))/\Gr w w':=by
 rw[<-callsIn_wide (n:=0)];have HK:=xl hK;have FD:=hK.lt;have UQ:=xl FD;clear hK FD;refine callsIn_of_wp_marks Sq.func69 rfl trivial ?_ rfl;simp only[Tryz.ntmps69,xF,xH,xK,Nat.reduceAdd,Nat.reduceSub,yj,yk,yx,ym,yI,yF]
 gi_wp2_with fail
 have Fu:=lf cb 0 Cv (w.alloc (.cells #[.bool false] 4));rw[<-callsIn_wide (n:=0)] at Fu;refine⟨trivial,rfl,Fu.mono ?_⟩;rintro e w1 ⟨rfl,EH⟩;have HS:=xl (jH (T0:=(·=w.heap.size)) (K:=K) (n:=0) (r:=Cv) (HK.out.keep (w':=w.alloc (.cells #[.bool false] 4)) (by simp) λb o hb=>xO _ _ _ (UQ.out b hb)) (λb hb=>by subst hb;simp) (λb hb h=>by have:=UQ.out b hb;omega) eE);rw[<-EH] at HS;have HW:=xl EH
 clear EH Fu;have hres:w1.heap[w.heap.size]?=some (.cells #[.bool false] 4 (0,0)):=by
  rw[HW.out,za _ _ _ (by simp;omega),za _ _ _ (by simp;omega),za _ _ _ (by simp)];exact World.alloc_heap_new w _
 have KV:=xl hres;have hz:w1.heap.size=w.heap.size+4:=by rw[HW.out];simp
 have HZ:=xl hz;have hg1:Gr w w1:=by rw[HW.out];exact((((Gr.refl w).alloc _).alloc _).alloc _).alloc _
 have HG:=xl hg1;clear hres hz hg1
 gi_wp2_with fail
 refine nM (T0:=(·=w.heap.size)) (K:=K) (cb:=cb) (c:=c) (sets:=Bo c.AH.length) (nA:=nA) (hA:=hA) (nc:=nc) (hc:=hc) (sb:=sb) (sc:=sc) (bc:=w.heap.size+1) (br:=w.heap.size+1+1) (bn:=w.heap.size+1+2) (k:=c.AK.length) (n:=0) (r:=Cv)
  DV (iO DV) (jT DV) rfl (by omega) (λ_ _=>rfl) (by simpa using HS.out) (by rintro b rfl;have:=HZ.out;omega)
  (λpre W=>pre=[]/\W.heap[w.heap.size]?=some (.cells #[.bool false] 4 (0,0)))
  (λj pre W=>j=.ret/\pre≠[]/\W.heap[w.heap.size]?=some (.cells #[.bool true] 4 (0,0)))
  (λpre W W' h hk=>⟨h.1,(hk _ rfl).trans h.2⟩) (λj pre W W' h hk=>⟨h.1,h.2.1,(hk _ rfl).trans h.2.2⟩) ⟨rfl,KV.out⟩
  ?_ ?_ ?_
 .intro l pre ρ W JP Dx;obtain⟨rfl,hb⟩:=Dx;obtain⟨h1,h2,h3⟩:=one_cell hb;have HB:=xl (one_set (u:=.bool true) hb);clear JP hb
  gi_wp2
  exact⟨KT.setCell (T:=(·=w.heap.size)) W (p:=⟨w.heap.size,0,none⟩) rfl _,rfl,by simp,HB.out⟩
 .rintro D W hD JP ⟨hL,hb⟩ hd;obtain⟨h1,h2,h3⟩:=one_cell hb;have HB:=xl (one_set (u:=.bool false) hb);have S7:=xl (JP.gr HG.out (by rintro b (rfl|rfl)<;>omega));have HL:=xl (show isSome c=false by unfold isSome;rw[hL];rfl);have S9:D≠w.heap.size:=λe=>by subst e;rw[hb] at hd;cases hd
  have HD:=xl (show(W.setCell ⟨w.heap.size,0,none⟩ (.bool false)).heap[D]?=some (.deferred (some [])) from(xE _ _ _ _ S9).trans hd);have hz:=HZ.out;clear JP hb hd hL
  gi_wp2
  refine dz HD.out (v:=.bool false) ?_ ⟨by rw[HL.out],(S7.out.setCell (xp _) _).putObj (by omega) _⟩;have:=(one_cell HB.out).1;rw[<-cd (D:=D) (o:=.deferred none) (p:=⟨w.heap.size,0,none⟩) (Ne.symm S9)] at this;simp[results,Tryz.results69,go_sem,this]
 .rintro D j q W hD JP hq ⟨rfl,hne,hb⟩ hd;have S9:D≠w.heap.size:=λe=>by subst e;rw[hb] at hd;cases hd
  refine wpIn_ret ?_;refine dz hd (v:=.bool true) ?_ ⟨?_,(JP.gr HG.out (by have:=HZ.out;rintro b (rfl|rfl)<;>omega)).putObj (by have:=HZ.out;omega) _⟩
  .have:=(one_cell hb).1;rw[<-cd (D:=D) (o:=.deferred none) (p:=⟨w.heap.size,0,none⟩) (Ne.symm S9)] at this;simp[results,Tryz.results69,go_sem,this]
  .refine aH ?_;unfold isSome;obtain⟨t,ht⟩:=hq;cases hw:Bz c (Bo c.AH.length) c.AK.length Cv 0 with
   |nil=>rw[hw] at ht;exact absurd (List.append_eq_nil_iff.1 ht).1 hne
   |cons a l=>rfl
end Go.Proofs.YtjcgijifamcggaaGreat
namespace Go.Sq
def Hl (l m:List Int):Bool:=decide (l.length<m.length)||(decide (l.length=m.length)&&decide (F7 l m<0))
def Hm (w:World)(kb:Nat):Option (List Int)->Prop
 |none=>w.heap[kb]?=some (.cells #[.int .i32 0,.int .u32 0,.slice none 0 0,.bool false] 136 (0,0))
 |some l=>∃A c,w.heap[kb]?=some (.cells #[.int .i32 0,.int .u32 0,.slice A l.length c,.bool true] 136 (0,0))/\l.length<=4611686018427387904/\F8 w (λb=>b≠kb/\b<w.heap.size) A l
def Jo:Option (List Int)->List Int->List Int
 |none,x=>x
 |some b,x=>if Hl x b then x else b
def DO {W:World}{b:Nat}{v0 v1 v2 v3:Value}{t:TypeId}(h:W.heap[b]?=some (.cells #[v0,v1,v2,v3] t (0,0))) :
  W.cell? ⟨b,0,none⟩=some v0/\W.cell? ⟨b,1,none⟩=some v1/\W.cell? ⟨b,2,none⟩=some v2/\W.cell? ⟨b,3,none⟩=some v3/\(∀i,W.frozen? ⟨b,i,none⟩=false)/\b<W.heap.size:=by
 refine⟨?_,?_,?_,?_,λi=>?_,(xm.1 h).1⟩
 .unfold World.cell?;simp only[h];rfl
 .unfold World.cell?;simp only[h];rfl
 .unfold World.cell?;simp only[h];rfl
 .unfold World.cell?;simp only[h];rfl
 .unfold World.frozen?;simp[h]
def Bn {W:World}{b i:Nat}{a:Array Value}{u:Value}{t:TypeId}{f:Nat×Nat}(h:W.heap[b]?=some (.cells a t f)):(W.setCell ⟨b,i,none⟩ u).heap[b]?=some (.cells (a.setIfInBounds i u) t f):=by
 unfold World.setCell;simp only[yh,if_true,h]
 rfl
def F8.keep' {w w':World}{kb:Nat}{A:Option Addr}{l:List Int}(h:F8 w (λb=>b≠kb/\b<w.heap.size) A l)(hz:w.heap.size<=w'.heap.size)(hk:∀b o,b≠kb->w'.cell? ⟨b,o,none⟩=w.cell? ⟨b,o,none⟩):F8 w' (λb=>b≠kb/\b<w'.heap.size) A l:=λhn=>by
 obtain⟨b,o,e,hb,hc⟩:=h hn;exact⟨b,o,e,⟨hb.1,xx hb.2 hz⟩,λi x hx=>(hk _ _ hb.1).trans (hc i x hx)⟩
end Go.Sq
namespace Go.Proofs.YtjcgijifamcggaaGreat
open Go.RowKit Go.Sq
def se (A A':Option Addr)(c c':Nat)(l m:List Int)(w:World)(B:Nat)(h:RI w B A l)(h':RI w B A' m)(hl:l.length<=4611686018427387904)(hm:m.length<=4611686018427387904) :
  Calls AG 71 #[.slice A l.length c,.slice A' m.length c'] w λe w'=>e=.returned (.bool (Hl l m))/\w=w':=by
 have HC:=xl (j7 A A' c c' l m w B h h' hl hm);clear h h';go_enter Sq.func71,Tryz.ntmps71;by_cases h1:l.length<m.length
 .have HL:=xl (show Hl l m=true by simp[Hl,h1]);go_wp2;go_ret;exact⟨aH HL.out.symm,rfl⟩
 .by_cases h2:l.length=m.length
  .have HL:=xl (show Hl l m=decide (F7 l m<0) by simp[Hl,h2]);rw[h2] at HC ⊢;clear h1 h2;generalize F7 l m=q at HC HL;go_wp2_with (go_at_call 49;refine HC.out.mono ?_;rintro e w' ⟨rfl,rfl⟩);go_ret;exact⟨aH HL.out.symm,rfl⟩
  .have HL:=xl (show Hl l m=false by simp[Hl,h1,h2]);clear HC;generalize l.length=a at h1 h2 hl ⊢;generalize m.length=b at h1 h2 hm ⊢;go_wp2;go_ret;exact⟨aH HL.out.symm,rfl⟩
def tZ (kb:Nat)(xA:Option Addr)(xc:Nat)(x:List Int)(o:Option (List Int))(w:World)(hk:Hm w kb o)(hx:F8 w (λb=>b≠kb/\b<w.heap.size) xA x)(hl:x.length<=4611686018427387904) :
  Calls AG 70 #[.pointer (some ⟨kb,0,none⟩),.slice xA x.length xc,.func (.func 71) #[] #[]] w λe w'=>e=.returned (.tuple #[])/\KT (·=kb) w w'/\Hm w' kb (some (Jo o x)):=by
 have HX:=xl hx;clear hx;cases o with
 |none =>
  obtain⟨h0,h1,h2,h3,hf,hlt⟩:=DO hk;have f0:=hf 0;have f2:=hf 2;have f3:=hf 3;have HK:=xl hk;clear hf hk;go_enter_defers Sq.func70,Tryz.ntmps70;go_wp2_with (go_at_call 98;refine(Ag ⟨kb,0,none⟩ _ h0 f0).mono ?_;rintro e w' ⟨rfl,rfl⟩);have HS:=xl (Bn (i:=3) (u:=.bool true) (Bn (i:=2) (u:=.slice xA x.length xc) (Bn (i:=0) (u:=.int .i32 1) HK.out)));refine leaves_cons (f:=99) (args:=#[.pointer (some ⟨kb,0,none⟩)]) (by simp) (by simp[go_sem]) ?_
  obtain⟨c0,_,_,_,cf,_⟩:=DO HS.out;refine(Ae ⟨kb,0,none⟩ .returning _ c0 (cf 0)).mono ?_;rintro e u' w'' ⟨rfl,rfl,rfl⟩;have JA:=Bn (i:=0) (u:=.int .i32 0) HS.out;refine⟨.tuple #[],results_none rfl _ _ _,rfl,(((KT.setCell (T:=(·=kb)) w (p:=⟨kb,0,none⟩) rfl _).trans (KT.setCell (T:=(·=kb)) _ (p:=⟨kb,2,none⟩) rfl _)).trans (KT.setCell (T:=(·=kb)) _ (p:=⟨kb,3,none⟩) rfl _)).trans (KT.setCell (T:=(·=kb)) _ (p:=⟨kb,0,none⟩) rfl _),?_⟩
  refine⟨xA,xc,JA,hl,HX.out.keep' (by simp[World.setCell]) λb i hb=>?_⟩;rw[xB _ _ _ _ (by simp[Ne.symm hb]),xB _ _ _ _ (by simp[Ne.symm hb]),xB _ _ _ _ (by simp[Ne.symm hb]),xB _ _ _ _ (by simp[Ne.symm hb])]
 |some b =>
  obtain⟨bA,bc,hk,hbl,hb⟩:=hk;obtain⟨h0,h1,h2,h3,hf,hlt⟩:=DO hk;have f0:=hf 0;have f2:=hf 2;have f3:=hf 3;have HK:=xl hk;have HB:=xl hb;have hc2:(w.setCell ⟨kb,0,none⟩ (.int .i32 1)).cell? ⟨kb,2,none⟩=some (.slice bA b.length bc):=(xB _ _ _ _ (by simp)).trans h2;have hc3:(w.setCell ⟨kb,0,none⟩ (.int .i32 1)).cell? ⟨kb,3,none⟩=some (.bool true):=(xB _ _ _ _ (by simp)).trans h3;have kp:∀ {A:Option Addr} {l:List Int},F8 w (λb=>b≠kb/\b<w.heap.size) A l->RI (w.setCell ⟨kb,0,none⟩ (.int .i32 1)) w.heap.size A l:=λh=>F8.ri (K:=λb=>b≠kb/\b<w.heap.size) (h.keep λb o hb=>xB _ _ _ _ (by simp[Ne.symm hb.1])) λb hb=>hb.2
  have HC:=xl (se xA bA xc bc x b (w.setCell ⟨kb,0,none⟩ (.int .i32 1)) w.heap.size (kp HX.out) (kp hb) hl hbl);clear hf hk hb kp hc2 hc3;obtain⟨v,hv⟩:∃v,v=Hl x b:=⟨_,rfl⟩;rw[<-hv] at HC;have HV:=xl hv;clear hv;cases v with
  |true =>
   go_enter_defers Sq.func70,Tryz.ntmps70;go_wp2_with (first|(go_at_call 98;refine(Ag ⟨kb,0,none⟩ _ h0 f0).mono ?_;rintro e w' ⟨rfl,rfl⟩)|(go_at_call 71;refine HC.out.mono ?_;rintro e w' ⟨rfl,rfl⟩));have HS:=xl (Bn (i:=3) (u:=.bool true) (Bn (i:=2) (u:=.slice xA x.length xc) (Bn (i:=0) (u:=.int .i32 1) HK.out)));refine leaves_cons (f:=99) (args:=#[.pointer (some ⟨kb,0,none⟩)]) (by simp) (by simp[go_sem]) ?_
   obtain⟨c0,_,_,_,cf,_⟩:=DO HS.out;refine(Ae ⟨kb,0,none⟩ .returning _ c0 (cf 0)).mono ?_;rintro e u' w'' ⟨rfl,rfl,rfl⟩;have JA:=Bn (i:=0) (u:=.int .i32 0) HS.out;refine⟨.tuple #[],results_none rfl _ _ _,rfl,(((KT.setCell (T:=(·=kb)) w (p:=⟨kb,0,none⟩) rfl _).trans (KT.setCell (T:=(·=kb)) _ (p:=⟨kb,2,none⟩) rfl _)).trans (KT.setCell (T:=(·=kb)) _ (p:=⟨kb,3,none⟩) rfl _)).trans (KT.setCell (T:=(·=kb)) _ (p:=⟨kb,0,none⟩) rfl _),?_⟩
   have WA:Jo (some b) x=x:=by simp[Jo,<-HV.out]
   rw[WA];refine⟨xA,xc,JA,hl,HX.out.keep' (by simp[World.setCell]) λb i hb=>?_⟩;rw[xB _ _ _ _ (by simp[Ne.symm hb]),xB _ _ _ _ (by simp[Ne.symm hb]),xB _ _ _ _ (by simp[Ne.symm hb]),xB _ _ _ _ (by simp[Ne.symm hb])]
  |false =>
   go_enter_defers Sq.func70,Tryz.ntmps70;go_wp2_with (first|(go_at_call 98;refine(Ag ⟨kb,0,none⟩ _ h0 f0).mono ?_;rintro e w' ⟨rfl,rfl⟩)|(go_at_call 71;refine HC.out.mono ?_;rintro e w' ⟨rfl,rfl⟩));have HS:=xl (Bn (i:=0) (u:=.int .i32 1) HK.out);refine leaves_cons (f:=99) (args:=#[.pointer (some ⟨kb,0,none⟩)]) (by simp) (by simp[go_sem]) ?_;obtain⟨c0,_,_,_,cf,_⟩:=DO HS.out;refine(Ae ⟨kb,0,none⟩ .returning _ c0 (cf 0)).mono ?_
   rintro e u' w'' ⟨rfl,rfl,rfl⟩;have JA:=Bn (i:=0) (u:=.int .i32 0) HS.out;refine⟨.tuple #[],results_none rfl _ _ _,rfl,(KT.setCell (T:=(·=kb)) w (p:=⟨kb,0,none⟩) rfl _).trans (KT.setCell (T:=(·=kb)) _ (p:=⟨kb,0,none⟩) rfl _),?_⟩;have WA:Jo (some b) x=b:=by simp[Jo,<-HV.out]
   rw[WA];refine⟨bA,bc,JA,hbl,HB.out.keep' (by simp[World.setCell]) λb i hb=>?_⟩;rw[xB _ _ _ _ (by simp[Ne.symm hb]),xB _ _ _ _ (by simp[Ne.symm hb])]
end Go.Proofs.YtjcgijifamcggaaGreat
namespace Go.Sq
open Go.RowKit
def Bb {w w':World}{base size n:Nat}{e:TypeId}{v:Value}{xs:List Value}(h:w.ownsRow base e size v n xs)(hk:∀g,v.ownBlock=some g->g<w.heap.size->w'.heap[g]?=w.heap[g]?):w'.ownsRow base e size v n xs:=by
 have hlt:=h.lt;refine⟨h.1,?_⟩;rcases h.2 with h0|⟨g,cap,cur,rfl,h1,h2,h3⟩
 .exact .inl h0
 .exact .inr ⟨g,cap,cur,rfl,h1,(hk g rfl (hlt g rfl).2).trans h2,h3⟩
def cx {w:World}{b1 b2 s1 s2 n1 n2:Nat}{e1 e2:TypeId}{v1 v2:Value}{x1 x2:List Value}(he:e1≠e2)(h1:w.ownsRow b1 e1 s1 v1 n1 x1)(h2:w.ownsRow b2 e2 s2 v2 n2 x2){g:Nat}(hg:v1.ownBlock=some g):some g≠v2.ownBlock:=by
 rcases h1.2 with⟨rfl,_⟩|⟨g1,c1,u1,rfl,_,a1,_⟩
 .cases hg
 .rcases h2.2 with⟨rfl,_⟩|⟨g2,c2,u2,rfl,_,a2,_⟩
  .intro h;cases h
  .intro h;obtain rfl:g1=g:=by injection hg
   obtain rfl:g1=g2:=by injection h
   rw[a1] at a2;injection a2 with a2
   injection a2 with _ h _
   exact he h
def dI {w:World}{B:Nat}{e:TypeId}{size n:Nat}{v:Value}{xs:List Value}(h:w.ownsRow B e size v n xs){b:Nat}(hb:b<B):some b≠v.ownBlock:=λhh=>by
 have:=(h.lt b hh.symm).1;omega
def B1 {w:World}{B B':Nat}{e:TypeId}{size n:Nat}{v:Value}{xs:List Value}(h:w.ownsRow B e size v n xs)(hb:B'<=B):w.ownsRow B' e size v n xs:=by
 refine⟨h.1,?_⟩;rcases h.2 with h0|⟨g,cap,cur,h1,h2,h3⟩
 .exact .inl h0
 .exact .inr ⟨g,cap,cur,h1,by omega,h3⟩
structure AY (w:World)(base:Nat)(v:Value)(ls:List (List Int))(xs:List Value):Prop where
 row:w.ownsRow base 22 1 v ls.length xs
 cells:∀(i:Nat) (l:List Int),ls[i]?=some l->∃u,xs[i]?=some u/\w.ownsRow base 3 1 u l.length (l.map (Value.int .i64))
def AY.nil (w:World)(base:Nat):AY w base (.slice none 0 0) [] []:=⟨x9 _ _ _ _,λi l h=>by simp at h⟩
def AY.keep {w w':World}{base:Nat}{v:Value}{ls:List (List Int)}{xs:List Value}(h:AY w base v ls xs)(hk:∀b,b<w.heap.size->w'.heap[b]?=w.heap[b]?):AY w' base v ls xs :=
 ⟨Bb h.row λg _ hl=>hk g hl,λi l hi=>by
  obtain⟨u,h1,h2⟩:=h.cells i l hi
  exact⟨u,h1,Bb h2 λg _ hl=>hk g hl⟩⟩
def AY.keep' {w w':World}{base:Nat}{v:Value}{ls:List (List Int)}{xs:List Value}(h:AY w base v ls xs)(hk:∀b,base<=b->b<w.heap.size->w'.heap[b]?=w.heap[b]?):AY w' base v ls xs :=
 ⟨Bb h.row λg hg hl=>hk g (h.row.lt g hg).1 hl,λi l hi=>by
  obtain⟨u,h1,h2⟩:=h.cells i l hi
  exact⟨u,h1,Bb h2 λg hg hl=>hk g (h2.lt g hg).1 hl⟩⟩
def AY.push {w1 w w':World}{base n:Nat}{v v' u:Value}{ls:List (List Int)}{xs:List Value}{l:List Int}(h:AY w base v ls xs)(hu:w.ownsRow base 3 1 u l.length (l.map (Value.int .i64)))
  (h1:∀b,b<w.heap.size->w1.heap[b]?=w.heap[b]?) (hs:w.heap.size<=w1.heap.size) (hg:w1.grownBy w' v.ownBlock) (hn:n=ls.length) (hr:w'.ownsRow base 22 1 v' (n+1) (xs++[u])):AY w' base v' (ls++[l]) (xs++[u]):=by
 subst hn;have key:∀ {y:Value} {m:Nat} {zs:List Value},w.ownsRow base 3 1 y m zs->w'.ownsRow base 3 1 y m zs:=λhy=>Bb hy λg Dd hl =>
  (hg.block g (xx hl hs) (cx (by decide) hy h.row Dd)).trans (h1 g hl)
 have hlen:xs.length=ls.length:=by have:=h.row.1;omega
 refine⟨by simpa using hr,λi y hi=>?_⟩;rcases yf i ls.length with hlt|F5
 .rw[yz hlt] at hi;obtain⟨z,hz,hzo⟩:=h.cells i y hi;exact⟨z,by rw[yz (by omega)];exact hz,key hzo⟩
 .have Sx : i = ls.length := by
   have:=(xS.1 hi).1;simp at this;omega
  subst Sx;rw[yv (xp _)] at hi;simp at hi;subst hi;exact⟨u,by rw[yv (by omega),hlen];simp,key hu⟩
def AY.Ky {w:World}{base:Nat}{v:Value}{ls:List (List Int)}{xs:List Value}(h:AY w base v ls xs):∃A c,v=.slice A ls.length c/\CR w w.heap.size A ls:=by
 rcases h.row.2 with⟨rfl,h0⟩|⟨g,cap,cur,rfl,h1,h2,h3⟩
 .have:ls=[]:=xT h0;subst this;exact⟨none,0,rfl,.nil⟩
 .refine⟨_,cap,rfl,λ_=>⟨g,0,rfl,(xm.1 h2).1,λi l hi=>?_⟩⟩;obtain⟨u,hu,ho⟩:=h.cells i l hi;obtain⟨A,c,rfl,hr⟩:=zY ho;refine⟨A,c,?_,hr⟩;have:=h.row.cells (g:=g) rfl i _ hu;have e:(⟨g,0,none⟩:Addr).add i=⟨g,0+i,none⟩:=by unfold Addr.add;split<;>simp_all
  rwa [e] at this
end Go.Sq
namespace Go.Proofs.YtjcgijifamcggaaGreat
open Go.RowKit Go.Sq
def Af:(AG.info? 22).map (λi=>(i.zero,i.size,i.bytes))=some (some (.slice none 0 0),1,24):=by
 rw[zZ];kernel_rfl
def BJ (r:Bt)(k:Nat):List (List Int):=(List.range k).map λi=>wl (r i)
def mE (r:Bt)(k:Nat):BJ r (k+1)=BJ r k++[wl (r k)]:=by simp[BJ,zn]
def B2 (r:Bt)(k:Nat):(BJ r k).length=k:=by simp[BJ]
def nk (cb:Nat)(nA:Option Addr)(n nc:Nat)(r:Bt)(w:World)(hcb:cb<w.heap.size)(hc0:w.cell? ⟨cb,0,none⟩=some (.slice nA n nc))(hn:n<=5)(hr:∀i,i<5->r i<16) :
  Calls AG 26 #[.pointer (some ⟨cb,0,none⟩),Cc r] w λe w'=>∃A c xs,e=.returned (.slice A n c)/\AY w' (w.heap.size+1) (.slice A n c) (BJ r n) xs/\Gr w w':=by
 obtain⟨i0,hi,hz0,hz1,hz2⟩:=info_parts Af;have HR:=xl hr;clear hr;unfold Cc;go_enter Sq.func26,Tryz.ntmps26;have hc0':(w.alloc (.cells #[.int .u8 (r 0),.int .u8 (r 1),.int .u8 (r 2),.int .u8 (r 3),.int .u8 (r 4)] 52)).cell? ⟨cb,0,none⟩=some (.slice nA n nc):=(xO _ _ _ hcb).trans hc0;clear hc0;go_wp2;go_loopw [5,13] (λv i wr=>∃k:Nat,k<=n/\i=.int .i64 k/\∃xs,AY wr (w.heap.size+1) v (BJ r k) xs/\(∀j,j<5->wr.cell? ⟨w.heap.size,j,none⟩=some (.int .u8 (r j)))/\Gr w wr/\w.heap.size+1<=wr.heap.size) (λ_ i _=>n-(intOf i).toNat)
 case atStart =>
  refine⟨0,by omega,rfl,[],AY.nil _ _,λj hj=>?_,(Gr.refl w).alloc _,by simp⟩;rw[xu _ _ _ _ rfl]
  match j,hj with
  |0,_=>rfl
  |1,_=>rfl
  |2,_=>rfl
  |3,_=>rfl
  |4,_=>rfl
 case round =>
  obtain⟨k,hk,rfl,xs,Hx,P5,hgr,hsz⟩:=hrel;have HG:=xl hgr;have HO:=xl Hx;have P6:=xl P5;clear hgr Hx P5;by_cases hlt:k<n
  .have hx:=HR.out k (by omega);have Ij:=P6.out k (by omega);have HS:=xl (mE r k);have HL:=xl (gh (r k) wr hx);generalize Kr:r k=x at hx Ij HS HL;clear Kr;go_wp2_with fail;refine HL.out.mono ?_;rintro e w1 ⟨u,rfl,hou,hg1⟩;obtain⟨uA,uc,rfl,_⟩:=zY hou;have HU:=xl hou;have Df:=xl hg1;have hs1:=hg1.size;clear hou hg1 HL;have WC:AY w1 (w.heap.size+1) _ (BJ r k) xs:=HO.out.keep λb hb=>Df.out.below.block b hb
   have HO1:=xl WC;have hrow:=WC.row;have hlen:=B2 r k;rw[hlen] at hrow;clear WC hlen;go_wp2_with (at_builtin;refine Bx rfl _ _ 29 rfl (w.heap.size+1) 22 i0 (.slice none 0 0) 1 24 Sq.underlying29 hi hz0 hz1 hz2 rfl (by decide) _ _ _ rfl (hrow.alloc _) ⟨w1.heap.size,0,none⟩ 1 1 [.slice uA (wl x).length uc] rfl rfl ?c1 ?c2 ?c3 ?c4 ?c5 ?_)
   case c1 =>
    intro j u hj
    match j,hj with
    |0,hj=>simp at hj;subst hj;simp[Addr.add]
   case c2 =>
    intro u' hu;simp at hu;subst hu;rfl
   case c3=>unfold maxLen;omega
   case c4=>omega
   case c5=>simp;omega
   intro v' w2 hown' hgrow hd;have EX:=xl (((HG.out.trans Df.out).alloc (.cells #[.slice uA (wl x).length uc] 22)).grown hgrow hd λj hj=>by have:=(hrow.lt j hj).1;omega);have hz2':w1.heap.size+1<=w2.heap.size:=by have:=hgrow.size;simpa using this
   have SJ:Hid (AY w2 (w.heap.size+1) v' (BJ r (k+1)) (xs++[.slice uA (wl x).length uc])):=xl (by
    rw[HS.out]
    refine AY.push (HO1.out) (B1 HU.out (by omega)) (λb hb=>heap_alloc_old w1 _ hb) (by simp) hgrow (B2 r k).symm hown')
   have aaq:Hid (∀j,j<5->w2.cell? ⟨w.heap.size,j,none⟩=some (.int .u8 (r j))):=xl λj hj =>
    hgrow.cell ((xO _ _ _ (by show w.heap.size<w1.heap.size;omega)).trans ((Df.out.cell (by show w.heap.size<wr.heap.size;omega)).trans (P6.out j hj))) (dI hrow (by show w.heap.size<_;omega))
   have hz3:w.heap.size+1<=w2.heap.size:=by omega
   clear hown' hgrow hd HG Df HO HO1 HU HS P6 Ij hrow hs1;go_wp2;go_roundw
   case rel=>exact⟨k+1,by omega,by go_num,_,SJ.out,aaq.out,EX.out,by omega⟩
   case measure=>simp[intOf];omega
  .have Ik:k=n:=by omega
   subst Ik;obtain⟨A,c,rfl,_⟩:=HO.out.Ky;have hl:=B2 r k;rw[hl] at HO ⊢;clear hl;go_wp2;go_ret;exact⟨_,_,_,rfl,HO.out,HG.out⟩
end Go.Proofs.YtjcgijifamcggaaGreat
namespace Go.Sq
def H7 (l:List Int)(i k:Nat):List Int:=(List.range l.length).map λj=>if j<k/\i.testBit j=true then l[j]?.getD 0 else 0
def aR (i k:Nat):List Int:=((List.range k).filter i.testBit).map λn:Nat=>(n:Int)
def Jp (c:AW)(i:Nat):AW:={ c with AK:=H7 c.AK i c.AK.length }
def C3 (c:AW):Nat->Option (List Int)
 |0=>none
 |i+1=>if Go.Proofs.YtjcgijifamcggaaGreat.isSome (Jp c i) then C3 c i else some (Jo (C3 c i) (aR i c.AK.length))
def iP (l:List Int)(i k:Nat):(H7 l i k).length=l.length:=by simp[H7]
def dW (l:List Int)(i k j:Nat)(hj:j<l.length):(H7 l i k)[j]?=some (if j<k/\i.testBit j=true then l[j]?.getD 0 else 0):=by simp[H7,hj]
def t7 {c:AW}(h:c.Ok)(i:Nat):(Jp c i).Ok:=by
 have hl:(Jp c i).AK.length=c.AK.length:=iP _ _ _;refine⟨by rw[hl];exact h.n1,by rw[hl];exact h.n5,λx hx=>?_,h.h1,h.h4,h.heads,h.DC,h.most,by rw[hl];exact h.off⟩;obtain⟨j,hj,rfl⟩:=List.getElem_of_mem hx;have hj':j<c.AK.length:=by rw[hl] at hj;exact hj
 have:=dW c.AK i c.AK.length j hj';have e:(Jp c i).AK[j]=if j<c.AK.length/\i.testBit j=true then c.AK[j]?.getD 0 else 0:=by
  rw[xq (by rw[iP];exact hj')] at this;exact Option.some.inj this
 rw[e];split
 .exact h.need _ (Dq c.AK j hj')
 .omega
def lL (i k:Nat):aR i (k+1)=aR i k++if i.testBit k then[(k:Int)] else[]:=by
 unfold aR;rw[zn,yR,zf];cases h:i.testBit k<;>simp[h]
def jn (i k:Nat):(aR i k).length<=k:=by
 unfold aR;rw[ye];exact xI (zb _ _) (by simp)
def Hm.gr {w w':World}{kb:Nat}{o:Option (List Int)}(h:Hm w kb o)(hg:Gr w w'):Hm w' kb o:=by
 cases o with
 |none=>exact(hg.below.block kb (xm.1 h).1).trans h
 |some l =>
  obtain⟨A,c,h1,h2,h3⟩:=h;refine⟨A,c,(hg.below.block kb (xm.1 h1).1).trans h1,h2,λhn=>?_⟩;obtain⟨b,o,e,hb,hc⟩:=h3 hn;exact⟨b,o,e,⟨hb.1,xx hb.2 hg.size⟩,λi x hx=>(hg.cell (p:=⟨b,o+i,none⟩) hb.2).trans (hc i x hx)⟩
end Go.Sq
namespace Go.Proofs.YtjcgijifamcggaaGreat
open Go.RowKit Go.Sq
def ip {w:World}{ops:Array Oper}{rest:List Oper}{o:Oper}{a:Act}{Q:Exit->Act->World->Prop}(hgd:o.guard=none)(s x:Operand)(ho:o.op=.call { callee:=.builtin .append,args:=#[s,x],argTypes:=#[22,22] })
  (base:Nat) (v:Value) (n:Nat) (xs:List Value) (hs:a.eval s=v) (hown:w.ownsRow base 3 1 v n xs) (ad:Addr) (c:Nat) (u:Value) (hx:a.eval x=.slice (some ad) 1 c) (hc:w.cell? ad=some u) (h1:u.oneCell'=true)
  (hn:n<=1048576) (hbase:base<=w.heap.size) (h:∀v' w',w'.ownsRow base 3 1 v' (n+1) (xs++[u])->w.grownBy w' v.ownBlock->w.drawn<=w'.drawn->wpList AG ops Q rest (a.put o.dst v') w'):wpList AG ops Q (o::rest) a w:=by
 obtain⟨i0,hi,hz0,hz1,hz2⟩:=info_parts Ac;refine Bx hgd s x 22 ho base 3 i0 (.int .i64 0) 1 8 Sq.underlying22 hi hz0 hz1 hz2 rfl (by decide) v n xs hs hown ad 1 c [u] hx rfl (λj u' hj=>?_) (λu' hu=>?_) (by unfold maxLen;omega) (by omega) hbase h
 .match j,hj with
  |0,hj =>
   simp at hj;subst hj;have:ad.add 0=ad:=by unfold Addr.add;split<;>simp_all
   rw[this];exact hc
 .simp at hu;subst hu;exact h1
def t8:∀k:Fin 32,∀j:Fin 5,(bits BinOp.and IntKind.i64 ((k.val:Int) / 2 ^ j.val) 1==1)=k.val.testBit j.val:=by decide +kernel
def lM {l:List Int}{i k m:Nat}(hm:m<l.length)(hne:m≠k):(H7 l i (k+1))[m]?.getD 0=(H7 l i k)[m]?.getD 0:=by
 rw[dW _ _ _ _ hm,dW _ _ _ _ hm];have:(m<k+1↔m<k):=by omega
 simp[this]
def lN {l:List Int}{i k:Nat}(hm:k<l.length):(H7 l i (k+1))[k]?.getD 0=if i.testBit k=true then l[k]?.getD 0 else 0:=by
 rw[dW _ _ _ _ hm];simp
def sf {l:List Int}{i k:Nat}(hm:k<l.length):(H7 l i k)[k]?.getD 0=0:=by
 rw[dW _ _ _ _ hm];simp
def jo (n:Nat):Array Value:=madeCells (Value.int .i64 0).cells (n*1)
def jp (n:Nat)(w:World)(hn:n<=1048576):(Instr.makeSlice 22 (.int .i64 (n:Int)) (.int .i64 (n:Int))).run AG w=.ok (.slice (some ⟨w.heap.size,0,none⟩) n n) (w.alloc (.cells (jo n) 3)):=by
 obtain⟨i0,hi,hz0,hz1,hz2⟩:=info_parts Ac;have:=run_makeSlice (P:=AG) w 22 3 i0 (.int .i64 0) Sq.underlying22 hi hz0 .i64 .i64 (n:Int) (n:Int) (by omega) (by omega) (by rw[hz1];simp;omega) (by rw[hz2];omega) (by omega);rw[hz1] at this;simpa [jo] using this
def fe (n j:Nat)(hj:j<n):(jo n)[j]?=some (.int .i64 0):=by
 simp[jo,madeCells,Value.cells,hj,Nat.mod_one]
def ua (c:AW)(w:World)(e:Ending)(w':World):Prop :=
 Gr w w'/\if Bi c≠0 then e=.returned (.tuple #[.slice none 0 0,.int .i64 (Bi c)]) else if isSome c then e=.returned (.tuple #[.slice none 0 0,.int .i64 11])
  else ∃A k,e=.returned (.tuple #[.slice A ((C3 c (2 ^ c.AK.length)).getD []).length k,.int .i64 0])/\RI w' w'.heap.size A ((C3 c (2 ^ c.AK.length)).getD [])
def ub (nA hA:Option Addr)(nc hc:Nat)(c:AW)(w:World)(B:Nat)(hB:B<=w.heap.size)(hn:RI w B nA c.AK)(hh:Dr w B hA c.AH)
  (IZ:c.AK.length<=4611686018427387904) (hl2:c.AH.length<=4611686018427387904) (C7:∀h∈c.AH,h.off.length<=4611686018427387904) :
  Calls AG 33 #[Bp nA hA c nc hc] w (ua c w):=by
 unfold Bp;obtain⟨W0,hW0⟩:∃W0:World,W0=w.alloc (.cells #[.slice nA c.AK.length nc,.slice hA c.AH.length hc] 27):=⟨_,rfl⟩;have hg0:Gr w W0:=hW0▸(Gr.refl w).alloc _;have hz0:W0.heap.size=w.heap.size+1:=by rw[hW0];simp
 have HW:=xl hW0;have Kz:=xl (jS nA hA nc hc c W0 B (by omega) (hn.gr hB hg0) (hh.keep λb o hb=>hg0.cell (xx hb hB)) IZ hl2 C7);have Ds:=xl hg0;have hcm:W0.cell? ⟨w.heap.size,0,none⟩=some (.slice nA c.AK.length nc)/\W0.cell? ⟨w.heap.size,1,none⟩=some (.slice hA c.AH.length hc):=by
  rw[hW0];constructor
  all_goals rw[xu _ _ _ _ rfl];rfl
 have N9:=xl hcm;have HN:=xl hn;have HH:=xl hh;clear hW0 hg0 hn hh C7 hcm;go_enter Sq.func33,Tryz.ntmps33;unfold Bp at Kz;go_wp2_with fail;rw[<-HW.out];refine Kz.out.mono ?_;rintro e w1 ⟨hg1,IP⟩;have Df:=xl hg1;by_cases hE:Bi c=0
 .rw[if_pos hE] at IP;obtain⟨cb,g,cap,rfl,hcb,SK,hK,_⟩:=IP;have HK:=xl hK;have HE:=xl hE;have EZ:=xl (AW.Ok.of hE);have P7:=xl (qg w1 EZ.out hK);clear hg1 hK Kz hE;obtain⟨v,hv⟩:∃v,v=isSome c:=⟨_,rfl⟩;rw[<-hv] at P7;have HV:=xl hv;clear hv;cases v with
  |true =>
   go_wp2_with (go_at_call 69;refine P7.out.mono ?_;rintro e w2 ⟨rfl,hg2⟩;have EX:=xl hg2;clear hg2);go_ret2;refine⟨Ds.out.trans (Df.out.trans EX.out),?_⟩;rw[if_neg (by simp[HE.out]),if_pos HV.out.symm]
   rfl
  |false =>
   go_wp2_with fail;refine P7.out.mono ?_;rintro e w2 ⟨rfl,hg2⟩;have EX:=xl (Ds.out.trans (Df.out.trans hg2));have hc0:w2.cell? ⟨w.heap.size,0,none⟩=some (.slice nA c.AK.length nc):=((Df.out.trans hg2).cell (by show w.heap.size<_;omega)).trans N9.out.1;have hc1:w2.cell? ⟨w.heap.size,1,none⟩=some (.slice hA c.AH.length hc):=((Df.out.trans hg2).cell (by show w.heap.size<_;omega)).trans N9.out.2
   have hz2:w.heap.size<w2.heap.size:=by have:=hg2.size;have:=Df.out.size;omega
   have Su:=EZ.out.n5;have Ww:((2:Int) ^ c.AK.length)=((2 ^ c.AK.length:Nat):Int)/\2 ^ c.AK.length<=32:=by
    have:c.AK.length=0\/c.AK.length=1\/c.AK.length=2\/c.AK.length=3\/c.AK.length=4\/c.AK.length=5:=by omega
    rcases this with e|e|e|e|e|e<;>rw[e]<;>decide
   obtain⟨FV,JI⟩:=Ww;have hw:∀N:Nat,N<=32->IntKind.i64.wrap (N:Int)=N:=λN h=>by simp[IntKind.wrap,IntKind.bits,IntKind.signed];omega
   obtain⟨N,hN⟩:∃N,N=2 ^ c.AK.length:=⟨_,rfl⟩;rw[<-hN] at FV JI;have hwp:wrap64 ((2:Int) ^ c.AK.length)=(N:Int):=by
    rw[FV];unfold wrap64;omega
   have GL:=λw=>jp c.AK.length w (by omega);have HNN:=xl hN;clear FV hw hN;have Oa:Hm (w2.alloc (.cells #[.int .i32 0,.int .u32 0,.slice none 0 0,.bool false] 136)) w2.heap.size (C3 c 0):=World.alloc_heap_new w2 _;have HK0:=xl Oa;clear Oa;go_wp2;rw[hwp];clear hwp;have Tz:=EX.out.size;go_loopw [26] (λi wr=>∃k:Nat,k<=N/\i=.int .i64 k/\Hm wr w2.heap.size (C3 c k)/\Gr w wr/\wr.cell? ⟨w.heap.size,0,none⟩=some (.slice nA c.AK.length nc)/\wr.cell? ⟨w.heap.size,1,none⟩=some (.slice hA c.AH.length hc)/\w2.heap.size<wr.heap.size) (λi _=>N-(intOf i).toNat)
   case atStart =>
    exact⟨0,by omega,rfl,HK0.out,EX.out.alloc _,(xO _ _ _ hz2).trans hc0,(xO _ _ _ hz2).trans hc1,by simp⟩
   case round =>
    obtain⟨wq,rfl⟩:∃wq,wq=wr:=⟨_,rfl⟩;obtain⟨k,hk,rfl,FD,hgr,hc0,hc1,Yq⟩:=hrel;have UQ:=xl FD;have Fp:=xl hgr;clear FD hgr;have JG:w.heap.size<wq.heap.size:=by omega
    by_cases hlt:k<N
    .go_wp2
     go_loopw [9,38] (λv i wr=>∃j:Nat,j<=c.AK.length/\i=.int .i64 j/\wr.ownsRow (wq.heap.size+2) 3 1 v (aR k j).length ((aR k j).map (Value.int .i64)) /\
      (∀m,m<c.AK.length->wr.cell? ⟨wq.heap.size+1,m,none⟩=some (.int .i64 ((H7 c.AK k j)[m]?.getD 0))/\wr.frozen? ⟨wq.heap.size+1,m,none⟩=false) /\
      wr.cell? ⟨wq.heap.size,0,none⟩=some (.slice (some ⟨wq.heap.size+1,0,none⟩) c.AK.length c.AK.length)/\wr.cell? ⟨wq.heap.size,1,none⟩=some (.slice hA c.AH.length hc)/\Gr wq wr/\wq.heap.size+2<=wr.heap.size) (λ_ i _=>c.AK.length-(intOf i).toNat)
     case atStart =>
      refine⟨0,by omega,rfl,x9 _ _ _ _,λm hm=>⟨?_,?_⟩,?_,?_,((Gr.refl wq).alloc _).alloc _,by simp⟩
      .rw[xu _ _ _ _ (by simp),fe _ _ hm,dW _ _ _ _ hm];simp
      .rw[yi _ _ _ _ (by simp)]
      .rw[xO _ _ _ (by simp),xu _ _ _ _ rfl];rfl
      .rw[xO _ _ _ (by simp),xu _ _ _ _ rfl];rfl
     case round =>
      obtain⟨j,hj,rfl,hown,hcs,hx0,hx1,F6,TA⟩:=hrel;have G5:=xl F6;have Hc:=xl hcs;clear F6 hcs;have TB:w.heap.size<wr.heap.size:=by omega
      have hc0i:wr.cell? ⟨w.heap.size,0,none⟩=some (.slice nA c.AK.length nc):=(G5.out.cell (by show w.heap.size<_;omega)).trans hc0;by_cases I4:j<c.AK.length
      .obtain⟨nb,no,rfl,MV,VK⟩:=(HN.out.gr hB (Fp.out.trans G5.out)).at_ I4;have HS:=xl (lL k j);have hle:=jn k j;obtain⟨Yr,hfj⟩:=Hc.out j I4;have TC:Hid ((bits BinOp.and IntKind.i64 ((k:Int) / 2 ^ j) 1==1)=k.testBit j):=xl (t8 ⟨k,by omega⟩ ⟨j,by omega⟩);obtain⟨x,hx⟩:∃x,x=c.AK[j]?.getD 0:=⟨_,rfl⟩;rw[<-hx] at VK;have HX:=xl hx;clear hx;cases hb:k.testBit j with
       |true =>
        rw[hb] at HS TC;have aar:=TC.out;have HB:=xl hb;clear hb;have EA:=hown.lt;go_wp2_with (at_builtin;refine ip rfl _ _ rfl (wq.heap.size+2) _ _ _ rfl ((ownsRow_setCell_below hown (by show wq.heap.size+1<_;omega) _).alloc _) ⟨wr.heap.size,0,none⟩ 1 (.int .i64 j) rfl ?c1 rfl ?c2 ?c3 ?_)
        case c2=>omega
        case c3=>(try simp);omega
        intro v' w3 hown' hgrow hd;have SL:Gr wq w3:=((G5.out.setCell (p:=⟨wq.heap.size+1,j,none⟩) (by show _<=wq.heap.size+1;omega) _).alloc _).grown hgrow hd λq hq=>by have:=(EA q hq).1;omega
        have Hf:∀b o,b<wq.heap.size+2->w3.cell? ⟨b,o,none⟩=(wr.setCell ⟨wq.heap.size+1,j,none⟩ (.int .i64 x)).cell? ⟨b,o,none⟩/\w3.frozen? ⟨b,o,none⟩=(wr.setCell ⟨wq.heap.size+1,j,none⟩ (.int .i64 x)).frozen? ⟨b,o,none⟩:=λb o hb=>by
         have hne:some b≠_:=dI hown (show b<wq.heap.size+2 from hb);have F4:=hgrow.block b (by simp[World.setCell];omega) hne;have aas:=F4.trans (heap_alloc_old _ _ (by simp[World.setCell];omega));exact⟨xN aas,zl aas⟩
        have WE:Hid (∀m,m<c.AK.length->w3.cell? ⟨wq.heap.size+1,m,none⟩=some (.int .i64 ((H7 c.AK k (j+1))[m]?.getD 0))/\w3.frozen? ⟨wq.heap.size+1,m,none⟩=false):=xl λm hm=>by
         obtain⟨e1,e2⟩:=Hf (wq.heap.size+1) m (by omega);refine⟨e1.trans ?_,e2.trans ((yt _ _ _ _).trans (Hc.out m hm).2)⟩;by_cases Ys:m=j
         .subst Ys;rw[xJ _ _ _ Yr,lN hm,if_pos HB.out,HX.out]
         .rw[xB _ _ _ _ (by simp[Ys]),(Hc.out m hm).1,lM hm Ys]
        have H0:Hid (w3.cell? ⟨wq.heap.size,0,none⟩=some (.slice (some ⟨wq.heap.size+1,0,none⟩) c.AK.length c.AK.length)/\w3.cell? ⟨wq.heap.size,1,none⟩=some (.slice hA c.AH.length hc)):=xl
         ⟨(Hf _ _ (by omega)).1.trans ((xB _ _ _ _ (by simp)).trans hx0),(Hf _ _ (by omega)).1.trans ((xB _ _ _ _ (by simp)).trans hx1)⟩
        have G6:Hid (w3.ownsRow (wq.heap.size+2) 3 1 v' (aR k (j+1)).length ((aR k (j+1)).map (Value.int .i64))):=xl (by rw[HS.out];simpa using hown');have DW:=xl SL;have hz3:wq.heap.size+2<=w3.heap.size:=by have:=hgrow.size;simp[World.setCell] at this;omega
        clear hown' hgrow hd SL Hf Yr hfj hown hx0 hx1 aar;go_wp2;go_roundw
        case rel=>exact⟨j+1,by omega,by go_num,G6.out,WE.out,H0.out.1,H0.out.2,DW.out,hz3⟩
        case measure=>simp[intOf];omega
       |false =>
        rw[hb] at HS TC;have aar:=TC.out;have HB:=xl hb;clear hb;have WE:Hid (∀m,m<c.AK.length->wr.cell? ⟨wq.heap.size+1,m,none⟩=some (.int .i64 ((H7 c.AK k (j+1))[m]?.getD 0))/\wr.frozen? ⟨wq.heap.size+1,m,none⟩=false):=xl λm hm=>by
         refine⟨?_,(Hc.out m hm).2⟩;by_cases Ys:m=j
         .subst Ys;rw[Yr,lN hm,sf hm,if_neg (by rw[HB.out];simp)]
         .rw[(Hc.out m hm).1,lM hm Ys]
        have G6:Hid (wr.ownsRow (wq.heap.size+2) 3 1 _ (aR k (j+1)).length ((aR k (j+1)).map (Value.int .i64))):=xl (by rw[HS.out];simpa using hown);have HH0:=xl hx0;have HH1:=xl hx1;clear hown Yr hfj hx0 hx1;go_wp2;go_roundw
        case rel=>exact⟨j+1,by omega,by go_num,G6.out,WE.out,HH0.out,HH1.out,G5.out,TA⟩
        case measure=>simp[intOf];omega
      .have aat:j=c.AK.length:=by omega
       clear I4 hj;have hlen:(Jp c k).AK.length=c.AK.length:=iP _ _ _
       have Ea:RI wr wr.heap.size (some ⟨wq.heap.size+1,0,none⟩) (Jp c k).AK:=λ_=>⟨_,0,rfl,by omega,λm y hm=>by
        have hml:m<c.AK.length:=by rw[<-hlen];exact(xS.1 hm).1
        rw[xM,(Hc.out m hml).1,aat];have:(Jp c k).AK=H7 c.AK k c.AK.length:=rfl
        rw[<-this,hm];rfl⟩
       have HST : Hid (Calls AG 23 #[.agg #[.slice (some ⟨wq.heap.size + 1, 0, none⟩) c.AK.length c.AK.length, .slice hA c.AH.length hc]] wr fun e w' => e = .returned (.pointer (some ⟨wr.heap.size + 1, 0, none⟩)) ∧ Gr wr w' ∧ ∃ g cap, wr.heap.size + 2 <= g ∧
         Dg w' (P4 wr.heap.size (wr.heap.size+1) g) (wr.heap.size+1) (Jp c k) (Bo c.AH.length) (some ⟨wq.heap.size+1,0,none⟩) hA c.AK.length hc g cap):=xl (by
        have:=jm (some ⟨wq.heap.size+1,0,none⟩) hA c.AK.length hc (Jp c k) wr wr.heap.size (xp _) Ea (((HH.out.keep λb o hb=>(Fp.out.trans G5.out).cell (xx hb hB))).more (by have:=(Fp.out.trans G5.out).size;omega)) EZ.out.h4;unfold Bp at this;rw[hlen] at this
        exact this.mono λe w' ⟨h1,h2,g,cap,h3,h4,_⟩=>⟨h1,h2,g,cap,h3,h4⟩)
       have hown2:=hown;rw[aat] at hown2;have hrow:∃A c',u9=Value.slice A (aR k c.AK.length).length c'/\F8 wr (λb=>b≠w2.heap.size/\b<wr.heap.size) A (aR k c.AK.length):=by
        obtain⟨A,c',e,h⟩:=zY hown2;refine⟨A,c',e,λhne=>?_⟩;obtain⟨b,o,e2,hb,hc2⟩:=h hne;refine⟨b,o,e2,⟨?_,hb⟩,hc2⟩;have:=(hown2.lt b (by rw[e,e2];rfl)).1;omega
       obtain⟨A,c',rfl,aau⟩:=hrow;have afA:=xl aau;clear Ea hown2 hown aau;go_wp2_with fail;refine HST.out.mono ?_;rintro e w3 ⟨rfl,hg3,g3,cap3,hg3l,hK3⟩;have DW:=xl hg3;have Uj:=xl (qg (c:=Jp c k) w3 (t7 EZ.out k) hK3);clear hg3 hK3 HST;obtain⟨v,hv⟩:∃v,v=isSome (Jp c k):=⟨_,rfl⟩;rw[<-hv] at Uj;have HV:=xl hv;clear hv;cases v with
       |true =>
        go_wp2_with fail;refine Uj.out.mono ?_;rintro e w4 ⟨rfl,hg4⟩;have LB:=xl (G5.out.trans (DW.out.trans hg4))
        have Y8:Hid (Hm w4 w2.heap.size (C3 c (k+1))):=xl (by
         have:C3 c (k+1)=C3 c k:=by show(if _ then _ else _)=_;rw[if_pos HV.out.symm]
         rw[this];exact UQ.out.gr LB.out)
        clear hg4;go_wp2;go_roundw
        case rel=>exact⟨k+1,by omega,by go_num,Y8.out,Fp.out.trans LB.out,(LB.out.cell JG).trans hc0,(LB.out.cell JG).trans hc1,by have:=LB.out.size;omega⟩
        case measure=>simp[intOf];omega
       |false =>
        go_wp2_with fail;refine Uj.out.mono ?_;rintro e w4 ⟨rfl,hg4⟩;have LB:=xl (G5.out.trans (DW.out.trans hg4));have WG:=DW.out.trans hg4
        have MJ:=xl (tZ w2.heap.size A c' (aR k c.AK.length) (C3 c k) w4 (UQ.out.gr LB.out) (λhne=>by
         obtain⟨b,o,e2,hb,hc2⟩:=afA.out hne
         exact⟨b,o,e2,⟨hb.1,xx hb.2 WG.size⟩,λi y hy=>(WG.cell (p:=⟨b,o+i,none⟩) hb.2).trans (hc2 i y hy)⟩) (by have:=jn k c.AK.length;omega))
        clear hg4 WG;go_wp2_with fail;refine MJ.out.mono ?_;rintro e w5 ⟨rfl,Un,aav⟩
        have HK5:Hid (Hm w5 w2.heap.size (C3 c (k+1))):=xl (by
         have:C3 c (k+1)=some (Jo (C3 c k) (aR k c.AK.length)):=by show(if _ then _ else _)=_;rw[if_neg (by rw[<-HV.out];simp)]
         rw[this];exact aav)
        have Mf:=xl (KT.gr (Fp.out.trans LB.out) Un (by rintro b rfl;omega));have hz4:=LB.out.size;have OO:w5.cell? ⟨w.heap.size,0,none⟩=some (.slice nA c.AK.length nc):=(Un.cell (p:=⟨w.heap.size,0,none⟩) (by show w.heap.size<_;omega) (by show w.heap.size≠_;omega)).trans ((LB.out.cell JG).trans hc0);have O5:w5.cell? ⟨w.heap.size,1,none⟩=some (.slice hA c.AH.length hc):=(Un.cell (p:=⟨w.heap.size,1,none⟩) (by show w.heap.size<_;omega) (by show w.heap.size≠_;omega)).trans ((LB.out.cell JG).trans hc1)
        have LC:=Un.size;clear Un aav MJ;go_wp2;go_roundw
        case rel=>exact⟨k+1,by omega,by go_num,HK5.out,Mf.out,OO,O5,by omega⟩
        case measure=>simp[intOf];omega
    .have Ik:k=N:=by omega
     subst Ik;have HEQ:Hid (C3 c (2 ^ c.AK.length)=C3 c k):=xl (by rw[<-HNN.out]);obtain⟨o,ho⟩:∃o,o=C3 c k:=⟨_,rfl⟩;rw[<-ho] at UQ HEQ;clear ho hlt;cases o with
     |none =>
      obtain⟨d0,d1,d2,d3,df,dl⟩:=DO UQ.out;go_wp2;go_ret2;refine⟨Fp.out,?_⟩;rw[if_neg (by simp[HE.out]),if_neg (by rw[<-HV.out];simp),HEQ.out];exact⟨none,0,rfl,.nil⟩
     |some b =>
      obtain⟨bA,bc,hkb,hbl,Kr⟩:=UQ.out;obtain⟨d0,d1,d2,d3,df,dl⟩:=DO hkb;have HRK:=xl Kr;clear hkb Kr;go_wp2;go_ret2;refine⟨Fp.out,?_⟩;rw[if_neg (by simp[HE.out]),if_neg (by rw[<-HV.out];simp),HEQ.out];exact⟨bA,bc,rfl,F8.ri HRK.out λb hb=>hb.2⟩
 .rw[if_neg hE] at IP;subst IP;have HE:=xl hE;obtain⟨k,hk⟩:∃k,k=Bi c:=⟨_,rfl⟩;rw[<-hk] at hE ⊢;have HK:=xl hk;clear hk hg1 Kz;go_wp2;go_ret2;refine⟨Ds.out.trans Df.out,?_⟩;rw[if_pos HE.out];show Ending.returned (.tuple #[.slice none 0 0,.int .i64 k])=_;rw[HK.out]
end Go.Proofs.YtjcgijifamcggaaGreat
