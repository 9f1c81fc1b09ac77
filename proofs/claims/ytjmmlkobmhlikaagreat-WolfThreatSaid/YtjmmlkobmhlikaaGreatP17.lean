/- Parts of the proof. -/
import Derived.Test.YtjmmlkobmhlikaaGreatP00
import Derived.Test.YtjmmlkobmhlikaaGreatP16
import Derived.Test.YtjmmlkobmhlikaaGreatP01
import Derived.Test.YtjmmlkobmhlikaaGreatP02
import Derived.Shelf.SlSortCmp.Whole1
import Derived.BigQuiet
import Derived.WalkKit
set_option linter.all false
set_option maxHeartbeats 3200000
set_option maxRecDepth 1000000
namespace Go.Proofs.YtjmmlkobmhlikaaGreat
open Go.Shelf
def aP {P:Program} {i:Nat} {f B:Func} (h:P.funcs[i]?=some f) (hn:(f.name == "runtime.NumGoroutine")=false) (hf:f={ B with name:=f.name }):Bears P i B:=⟨f.name,hn,h.trans (congrArg some hf)⟩
def uP:Ren:=⟨λ|6=>78|15=>77|14=>119|28=>117|29=>118|20=>135|21=>136|22=>137|23=>138|24=>139|25=>140|26=>141|27=>142|46=>151|47=>131|48=>132|49=>152|50=>153|57=>154|n=>n,λ|22=>136|24=>58|25=>158|3=>3|39=>83|0=>0|53=>109|55=>49|4=>4|46=>182|45=>181|50=>186|5=>5|9=>9|66=>202|70=>205|76=>212|77=>213|n=>n,λn=>n⟩
def uM:SlLaysF.n6 uZ uP where
 mixed:=(congrArg (λt:Tables=>t.follows .mixedOrders) ur).trans (by kernel_rfl)
 f6:=aP Sq.func78 (by decide +kernel) (by kernel_rfl)
 f14:=aP Sq.func119 (by decide +kernel) (by kernel_rfl)
 f15:=Sq.func77.trans (congrArg some (by kernel_rfl))
 f20:=aP Sq.func135 (by decide +kernel) (by kernel_rfl)
 f21:=aP Sq.func136 (by decide +kernel) (by kernel_rfl)
 f22:=aP Sq.func137 (by decide +kernel) (by kernel_rfl)
 f23:=aP Sq.func138 (by decide +kernel) (by kernel_rfl)
 f24:=aP Sq.func139 (by decide +kernel) (by kernel_rfl)
 f25:=aP Sq.func140 (by decide +kernel) (by kernel_rfl)
 f26:=aP Sq.func141 (by decide +kernel) (by kernel_rfl)
 f27:=aP Sq.func142 (by decide +kernel) (by kernel_rfl)
 f28:=Sq.func117.trans (congrArg some (by kernel_rfl))
 f29:=Sq.func118.trans (congrArg some (by kernel_rfl))
 f46:=aP Sq.func151 (by decide +kernel) (by kernel_rfl)
 f47:=Sq.func131.trans (congrArg some (by kernel_rfl))
 f48:=Sq.func132.trans (congrArg some (by kernel_rfl))
 f49:=aP Sq.func152 (by decide +kernel) (by kernel_rfl)
 f50:=aP Sq.func153 (by decide +kernel) (by kernel_rfl)
 f57:=aP Sq.func154 (by decide +kernel) (by kernel_rfl)
 t0:=(Sq.underlying 0).trans Tryz.underlying0
 a0:=λw=>(ul 0 w).trans (Tryz.isAgg0 w)
 z0:=λw=>(Sq.sizeOf 0 w).trans (Tryz.sizeOf0 w)
 v0:=λw=>(Sq.zeroValue 0 w).trans (Tryz.zeroValue0 w)
 t3:=(Sq.underlying 3).trans Tryz.underlying3
 a3:=λw=>(ul 3 w).trans (Tryz.isAgg3 w)
 z3:=λw=>(Sq.sizeOf 3 w).trans (Tryz.sizeOf3 w)
 v3:=λw=>(Sq.zeroValue 3 w).trans (Tryz.zeroValue3 w)
 t4:=(Sq.underlying 4).trans Tryz.underlying4
 a4:=λw=>(ul 4 w).trans (Tryz.isAgg4 w)
 z4:=λw=>(Sq.sizeOf 4 w).trans (Tryz.sizeOf4 w)
 v4:=λw=>(Sq.zeroValue 4 w).trans (Tryz.zeroValue4 w)
 t5:=(Sq.underlying 5).trans Tryz.underlying5
 a5:=λw=>(ul 5 w).trans (Tryz.isAgg5 w)
 z5:=λw=>(Sq.sizeOf 5 w).trans (Tryz.sizeOf5 w)
 v5:=λw=>(Sq.zeroValue 5 w).trans (Tryz.zeroValue5 w)
 t9:=(Sq.underlying 9).trans Tryz.underlying9
 a9:=λw=>(ul 9 w).trans (Tryz.isAgg9 w)
 z9:=λw=>(Sq.sizeOf 9 w).trans (Tryz.sizeOf9 w)
 v9:=λw=>(Sq.zeroValue 9 w).trans (Tryz.zeroValue9 w)
 t22:=(Sq.underlying 136).trans Tryz.underlying136
 a22:=λw=>(ul 136 w).trans (Tryz.isAgg136 w)
 z22:=λw=>(Sq.sizeOf 136 w).trans (Tryz.sizeOf136 w)
 v22:=λw=>(Sq.zeroValue 136 w).trans (Tryz.zeroValue136 w)
 a24:=λw=>(ul 58 w).trans (Tryz.isAgg58 w)
 z24:=λw=>(Sq.sizeOf 58 w).trans (Tryz.sizeOf58 w)
 t25:=(Sq.underlying 158).trans Tryz.underlying158
 a25:=λw=>(ul 158 w).trans (Tryz.isAgg158 w)
 z25:=λw=>(Sq.sizeOf 158 w).trans (Tryz.sizeOf158 w)
 v25:=λw=>(Sq.zeroValue 158 w).trans (Tryz.zeroValue158 w)
 t39:=(Sq.underlying 83).trans Tryz.underlying83
 a39:=λw=>(ul 83 w).trans (Tryz.isAgg83 w)
 z39:=λw=>(Sq.sizeOf 83 w).trans (Tryz.sizeOf83 w)
 v39:=λw=>(Sq.zeroValue 83 w).trans (Tryz.zeroValue83 w)
 t45:=(Sq.underlying 181).trans Tryz.underlying181
 a45:=λw=>(ul 181 w).trans (Tryz.isAgg181 w)
 z45:=λw=>(Sq.sizeOf 181 w).trans (Tryz.sizeOf181 w)
 v45:=λw=>(Sq.zeroValue 181 w).trans (Tryz.zeroValue181 w)
 t46:=(Sq.underlying 182).trans Tryz.underlying182
 a46:=λw=>(ul 182 w).trans (Tryz.isAgg182 w)
 z46:=λw=>(Sq.sizeOf 182 w).trans (Tryz.sizeOf182 w)
 v46:=λw=>(Sq.zeroValue 182 w).trans (Tryz.zeroValue182 w)
 t50:=(Sq.underlying 186).trans Tryz.underlying186
 a50:=λw=>(ul 186 w).trans (Tryz.isAgg186 w)
 z50:=λw=>(Sq.sizeOf 186 w).trans (Tryz.sizeOf186 w)
 v50:=λw=>(Sq.zeroValue 186 w).trans (Tryz.zeroValue186 w)
 t53:=(Sq.underlying 109).trans Tryz.underlying109
 a53:=λw=>(ul 109 w).trans (Tryz.isAgg109 w)
 z53:=λw=>(Sq.sizeOf 109 w).trans (Tryz.sizeOf109 w)
 v53:=λw=>(Sq.zeroValue 109 w).trans (Tryz.zeroValue109 w)
 t55:=(Sq.underlying 49).trans Tryz.underlying49
 a55:=λw=>(ul 49 w).trans (Tryz.isAgg49 w)
 z55:=λw=>(Sq.sizeOf 49 w).trans (Tryz.sizeOf49 w)
 v55:=λw=>(Sq.zeroValue 49 w).trans (Tryz.zeroValue49 w)
 t66:=(Sq.underlying 202).trans Tryz.underlying202
 a66:=λw=>(ul 202 w).trans (Tryz.isAgg202 w)
 z66:=λw=>(Sq.sizeOf 202 w).trans (Tryz.sizeOf202 w)
 v66:=λw=>(Sq.zeroValue 202 w).trans (Tryz.zeroValue202 w)
 t70:=(Sq.underlying 205).trans Tryz.underlying205
 a70:=λw=>(ul 205 w).trans (Tryz.isAgg205 w)
 z70:=λw=>(Sq.sizeOf 205 w).trans (Tryz.sizeOf205 w)
 v70:=λw=>(Sq.zeroValue 205 w).trans (Tryz.zeroValue205 w)
 t76:=(Sq.underlying 212).trans Tryz.underlying212
 a76:=λw=>(ul 212 w).trans (Tryz.isAgg212 w)
 z76:=λw=>(Sq.sizeOf 212 w).trans (Tryz.sizeOf212 w)
 v76:=λw=>(Sq.zeroValue 212 w).trans (Tryz.zeroValue212 w)
 t77:=(Sq.underlying 213).trans Tryz.underlying213
 a77:=λw=>(ul 213 w).trans (Tryz.isAgg213 w)
 z77:=λw=>(Sq.sizeOf 213 w).trans (Tryz.sizeOf213 w)
 v77:=λw=>(Sq.zeroValue 213 w).trans (Tryz.zeroValue213 w)
end Go.Proofs.YtjmmlkobmhlikaaGreat
namespace Go.Sq
open Go.RowKit Go.Sort Go.Proofs Go.Lib
abbrev sZ:=Fin 16
def encW (x:sZ):Value:=.int .u8 (x.val:Int)
def cfW (a b:sZ):Int:=cmpL (wl a.val) (wl b.val)
def oneW:OneCell encW:=λ_=>rfl
def swoW:SWO (ltOf cfW):=by
 constructor
 all_goals decide +kernel
def rawA (m:Nat):Array sZ:=((List.range (2 ^ m)).map (Fin.ofNat 16)).toArray
def setsL:Nat->List Nat
 |0=>[0]
 |1=>[0,1]
 |2=>[0,1,3,2]
 |3=>[0,1,3,7,5,2,6,4]
 |_=>[0,1,3,7,15,11,5,13,9,2,6,14,10,4,12,8]
def five {p:Nat->Prop}(h:p 0/\p 1/\p 2/\p 3/\p 4):∀m,m<=4->p m:=λm hm=>by
 have:m=0\/m=1\/m=2\/m=3\/m=4:=by omega
 obtain⟨h0,h1,h2,h3,h4⟩:=h
 rcases this with rfl|rfl|rfl|rfl|rfl<;>assumption
def pdqW:∀m,m<=4->(pdq (ltOf cfW) (rawA m) 0 (rawA m).size (Go.Lib.bitLen (rawA m).size) true true).toList.map Fin.val=setsL m :=
 five ⟨by decide +kernel,by decide +kernel,by decide +kernel,by decide +kernel,by decide +kernel⟩
def rawW:∀m,m<=4->(rawA m).size=2 ^ m/\∀j,j<2 ^ m->((rawA m)[j]!).val=j :=
 five ⟨by decide +kernel,by decide +kernel,by decide +kernel,by decide +kernel,by decide +kernel⟩
def cI:∀m,m<=4->(setsL m).length=2 ^ m:=five ⟨rfl,rfl,rfl,rfl,rfl⟩
def kJ:∀m,m<=4->∀x∈setsL m,x<2 ^ m:=five ⟨by decide,by decide,by decide,by decide,by decide⟩
def Gr.grow {w w':World}(h:Gr w w'):∃q os',w'=grow (w.drewN q) os':=by
 refine⟨w'.drawn-w.drawn,w'.heap.extract w.heap.size w'.heap.size,?_⟩
 have hd:=h.drawn
 have e:w'.heap=w.heap++w'.heap.extract w.heap.size w'.heap.size:=by
  apply Array.ext_getElem?
  intro k
  by_cases hk:k<w.heap.size
  ·rw[Array.getElem?_append_left hk];exact h.below.block k hk
  ·rw[Array.getElem?_append_right (by omega),Array.getElem?_extract]
   have hs:=h.size
   by_cases hk2:k<w'.heap.size
   ·rw[if_pos (by omega)];congr 1;omega
   ·rw[if_neg (by omega),Array.getElem?_eq_none (by omega)]
 cases w with
 |mk wh wt wd wo wu =>
  cases w' with
  |mk vh vt vd vo vu =>
   have e1:=h.below.os
   have e2:=h.below.tape
   have e3:=h.below.output
   simp only at e1 e2 e3 e hd
   subst e1 e2 e3
   unfold Sort.grow World.drewN
   simp only[World.mk.injEq,and_true,true_and]
   exact⟨e,by omega⟩
def SortedIn (sets:List Nat)(g:Nat)(W W':World):Prop :=
 KT (·=g) W W'/\(∀(i x:Nat),sets[i]?=some x->W'.cell? ⟨g,i,none⟩=some (.int .u8 (x:Int)))/\∀n c,FlatS W (.slice (some ⟨g,0,none⟩) n c)->FlatS W' (.slice (some ⟨g,0,none⟩) n c)
end Go.Sq
namespace Go.Proofs.YtjmmlkobmhlikaaGreat
open Go.RowKit Go.Sq Go.Sort
def qs (a b:Nat)(w:World)(ha:a<16)(hb:b<16) :
  Calls uZ 79 #[.int .u8 a,.int .u8 b] w λe w'=>e=.returned (.int .i64 (cmpL (wl a) (wl b)))/\Gr w w':=by
 have hla:=cO a
 have hlb:=cO b
 have HL:=ui hla
 have HL':=ui hlb
 clear hla hlb
 go_enter Sq.func79,Tryz.ntmps79
 go_wp2_with fail
 refine(fE a w ha).mono ?_
 rintro e w1 ⟨v,rfl,ho,hg⟩
 have hO:=ui ho
 have hG:=ui hg
 clear ho hg
 go_wp2_with fail
 refine(fE b w1 hb).mono ?_
 rintro e w2 ⟨v',rfl,ho',hg'⟩
 obtain⟨A,c,rfl,hr⟩:=uq hO.out
 obtain⟨A',c',rfl,hr'⟩:=uq ho'
 have hG2:=ui (hG.out.trans hg')
 have HC:=ui (jp A A' c c' (wl a) (wl b) w2 w2.heap.size ((hr.gr (Nat.le_refl _) hg').more hg'.size) hr' (by have:=HL.out;omega) (by have:=HL'.out;omega))
 clear hO hG ho' hg' hr hr'
 go_wp2_with fail
 refine HC.out.mono ?_
 rintro e w3 ⟨rfl,rfl⟩
 go_wp2
 go_ret
 exact⟨rfl,hG2.out⟩
def oS (m:Nat)(hm:m<=4):oR (2 ^ m) (λv W W'=>∃g cap,v=.slice (some ⟨g,0,none⟩) (2 ^ m) cap/\SortedIn (setsL m) g W W'):=by
 intro W g cap B ho
 obtain⟨hsz,hget⟩:=rawW m hm
 have hpq:=pdqW m hm
 have hlen:=cI m hm
 have hpos:1<=2 ^ m:=Nat.one_le_two_pow
 have h16:2 ^ m<=16:=(five (p:=λm=>2 ^ m<=16) ⟨by decide,by decide,by decide,by decide,by decide⟩) m hm
 have hlt:g<W.heap.size:=(ho.lt g rfl).2
 have hH:Holds encW W g 0 (rawA m):=by
  intro j hj
  rw[hsz] at hj
  refine⟨?_,?_⟩
  ·have:=ho.cells (g:=g) rfl j (.int .u8 j) (by unfold rawL;simp[hj])
   rw[show(⟨g,0,none⟩:Addr).add j=⟨g,0+j,none⟩ by unfold Addr.add;split<;>simp_all] at this
   rw[this,encW,hget j hj]
  ·rcases ho.2 with⟨h,_⟩|⟨g',c',cur,h,_,hb,_⟩
   ·cases h
   ·obtain⟨rfl⟩:g=g':=by injection h with h1;injection h1 with h2;injection h2
    simp[World.frozen?,hb]
 have hC:CmpLays1 uZ 79 #[] encW cfW g 0 (rawA m).size W:=by
  intro k os dk _ x y
  refine(qs x.val y.val _ x.isLt y.isLt).mono ?_
  rintro e w' ⟨he,hg⟩
  exact⟨he,hg.grow⟩
 have h:=Any.slices_SortFunc_eq uM encW oneW cfW swoW 79 #[] g 0 cap (rawA m) W uR hC hH hlt (by rw[hsz];omega)
 rw[hsz] at h
 refine h.mono ?_
 rintro e W' ⟨he,n,os,hW⟩
 refine⟨he,g,cap,rfl,?_,?_,?_⟩
 rotate_left 2
 ·intro n1 c1 hfl a n2 c2 e2
  obtain⟨cur,t,q1,q2⟩:=hfl a n2 c2 e2
  have ea:a.block=g:=by injection e2 with z _ _;injection z with z;rw[<-z]
  rw[ea] at q1 ⊢
  subst hW
  refine⟨putCells encW 0 (pdq (ltOf cfW) (rawA m) 0 (2 ^ m) (Go.Lib.bitLen (2 ^ m)) true true) cur,t,?_,λu hu=>?_⟩
  ·unfold sortWorld
   rw[heap_grow_old _ _ (by rw[size_putRow];exact hlt)]
   unfold putRow mapBlock
   have q1':(Sort.ahead W n).heap[g]?=some (.cells cur t (0,0)):=q1
   simp only[Array.getElem?_modify,if_true,q1']
   rfl
  ·unfold putCells at hu
   rw[Array.toList_mapIdx,List.mem_mapIdx] at hu
   obtain⟨i,hi,rfl⟩:=hu
   split
   ·exact⟨_,rfl⟩
   ·exact q2 _ (List.getElem_mem hi)
 ·subst hW
  refine⟨rfl,rfl,rfl,?_,?_,?_⟩
  ·show W.drawn<=W.drawn+n;omega
  ·have : W.heap.size <= (sortWorld encW W g 0 n (pdq (ltOf cfW) (rawA m) 0 (2 ^ m) (Go.Lib.bitLen (2 ^ m)) true true) os).heap.size := by
    unfold sortWorld;rw[size_grow,size_putRow];exact Nat.le_add_right _ _
   exact this
  ·intro b hb hne
   unfold sortWorld
   rw[heap_grow_old _ _ (by rw[size_putRow];exact hb)]
   unfold putRow mapBlock
   rw[Array.getElem?_modify,if_neg (λh=>hne h.symm)]
   rfl
 ·intro i x hx
  rw[hsz] at hpq
  have hi:i<2 ^ m:=by rw[<-hlen];exact(List.getElem?_eq_some_iff.1 hx).1
  generalize hd:pdq (ltOf cfW) (rawA m) 0 (2 ^ m) (Go.Lib.bitLen (2 ^ m)) true true=d at hW hpq
  have hds:d.size=2 ^ m:=by have:=congrArg List.length hpq;simpa [hlen] using this
  have hS:=(holds_sortWorld encW W g 0 n (rawA m) d os hlt hH (by rw[hds,hsz])) i (by omega)
  subst hW
  rw[Nat.zero_add] at hS
  rw[hS.1,encW]
  rw[<-hpq,List.getElem?_map,Array.getElem?_toList] at hx
  rw[getElem!_pos d i (by omega)]
  rw[Array.getElem?_eq_getElem (by omega)] at hx
  simp at hx
  rw[hx]
end Go.Proofs.YtjmmlkobmhlikaaGreat
namespace Go.Sq
def bB {l:List Int}:bj l=0↔∀x∈l,x=0:=by
 refine⟨λh x hx=>?_,dg⟩
 unfold bj at h
 cases hf:l.find? (· != 0) with
 |none=>have:=List.find?_eq_none.1 hf x hx;simpa using this
 |some y =>
  rw[hf] at h
  have:=List.find?_some hf
  simp only[Option.getD_some] at h
  subst h
  simp at this
def cm {n lo hi:Int}:manyE n lo hi=0↔lo<=n/\n<=hi:=by
 unfold manyE;split
 ·simp;omega
 ·split<;>simp<;>omega
def kK {x lo hi:Int}:inR x lo hi=true↔lo<=x/\x<=hi:=by simp[inR]
def jB {l:List Int}{n:Int}:ascE l n=0↔∀i,i<l.length->ascAt l n i=0:=by
 unfold ascE
 rw[bB]
 simp
def ascE_ok {l:List Int}{n:Int}(h:ascE l n=0):(∀x∈l,0<=x/\x<n)/\(l.length:Int)<=max n 0/\∀i,i+1<l.length->l[i]?.getD 0<l[i+1]?.getD 0:=by
 rw[jB] at h
 have h1:∀i,i<l.length->0<=l[i]?.getD 0/\l[i]?.getD 0<=n-1:=λi hi=>by
  have:=h i hi
  unfold ascAt at this
  split at this
  ·assumption
  ·cases this
 have h2:∀i,i+1<l.length->l[i]?.getD 0<l[i+1]?.getD 0:=λi hi=>by
  have:=h (i+1) hi
  unfold ascAt at this
  rw[if_pos (h1 _ hi)] at this
  by_cases hc:0<i+1/\l[i+1]?.getD 0<=l[i+1-1]?.getD 0
  ·rw[if_pos hc] at this;cases this
  ·simp only[Nat.add_sub_cancel] at hc;omega
 have h3:∀i,i<l.length->(i:Int)<=l[i]?.getD 0:=λi=>by
  induction i with
  |zero=>intro hi;exact(h1 0 hi).1
  |succ k ih=>intro hi;have:=ih (by omega);have:=h2 k hi;omega
 refine⟨λx hx=>?_,?_,h2⟩
 ·obtain⟨i,hi,rfl⟩:=List.getElem_of_mem hx
  have:=h1 i hi
  rw[List.getElem?_eq_getElem hi] at this
  simp only[Option.getD_some] at this
  omega
 ·by_cases hz:l.length=0
  ·omega
  ·have a:=h3 (l.length-1) (by omega)
   have b:=(h1 (l.length-1) (by omega)).2
   omega
def Camp.Ok.of {c:Camp}(h:checkE c=0):c.Ok:=by
 unfold checkE at h
 by_cases h1:manyE c.needs.length 1 5≠0
 ·rw[if_pos h1] at h;exact absurd h h1
 rw[if_neg h1] at h
 have h1':=cm.1 (Decidable.not_not.1 h1)
 by_cases h2:(c.needs.all λx=>inR x 0 12)=false
 ·rw[if_pos h2] at h;cases h
 rw[if_neg h2] at h
 by_cases h3:manyE c.herders.length 1 4≠0
 ·rw[if_pos h3] at h;exact absurd h h3
 rw[if_neg h3] at h
 have h3':=cm.1 (Decidable.not_not.1 h3)
 rw[bB] at h
 have hh:∀x∈c.herders,(1<=x.heads/\x.heads<=40)/\(1<=x.dogs/\x.dogs<=5)/\(0<=x.most/\x.most<=5)/\ascE x.off c.needs.length=0:=λx hx=>by
  have:=h _ (List.mem_map_of_mem hx)
  unfold herdE at this
  split at this
  ·rename_i hc
   simp only[Bool.and_eq_true,kK] at hc
   exact⟨hc.1.1,hc.1.2,hc.2,this⟩
  ·cases this
 have h2':∀x∈c.needs,0<=x/\x<=12:=λx hx=>by
  have:=List.all_eq_true.1 (Bool.not_eq_false _▸h2) x hx
  exact kK.1 this
 exact⟨by omega,by omega,h2',by omega,by omega,λx hx=>(hh x hx).1,λx hx=>(hh x hx).2.1,λx hx=>(hh x hx).2.2.1,λx hx=>by
  obtain⟨a,b,_⟩:=ascE_ok (hh x hx).2.2.2
  exact⟨by omega,a⟩⟩
def rN (l m:List Int)(k:Nat)(h1:k<l.length)(h2:k<m.length) :
  (l.take k=m.take k->l[k]?.getD 0=m[k]?.getD 0->l.take (k+1)=m.take (k+1))/\(l[k]?.getD 0≠m[k]?.getD 0->l≠m):=by
 refine⟨λh e=>?_,λh e=>h (by rw[e])⟩
 rw[bf 0 l k h1,bf 0 m k h2,h,e]
def qu (l m:List (List Int))(k:Nat)(h1:k<l.length)(h2:k<m.length) :
  (l.take k=m.take k->l[k]?.getD []=m[k]?.getD []->l.take (k+1)=m.take (k+1))/\(l[k]?.getD []≠m[k]?.getD []->l≠m):=by
 refine⟨λh e=>?_,λh e=>h (by rw[e])⟩
 rw[bf [] l k h1,bf [] m k h2,h,e]
def GrAt (w:World)(B:Nat)(A:Option Addr)(ls:List (List Int)):Prop :=
 ls≠[]->∃b o,A=some ⟨b,o,none⟩/\b<B/\∀i l,ls[i]?=some l->∃A' c,w.cell? ⟨b,o+i,none⟩=some (.slice A' l.length c)/\RI w B A' l
def GrAt.keep {w w':World}{B:Nat}{A:Option Addr}{ls:List (List Int)}(h:GrAt w B A ls)(hk:∀b o,b<B->w'.cell? ⟨b,o,none⟩=w.cell? ⟨b,o,none⟩):GrAt w' B A ls:=λhn=>by
 obtain⟨b,o,e,hb,hc⟩:=h hn
 refine⟨b,o,e,hb,λi l hl=>?_⟩
 obtain⟨A',c,h1,h2⟩:=hc i l hl
 exact⟨A',c,(hk _ _ hb).trans h1,h2.keep hk⟩
def GrAt.gr {w w':World}{B:Nat}{A:Option Addr}{ls:List (List Int)}(h:GrAt w B A ls)(hB:B<=w.heap.size)(hg:Gr w w'):GrAt w' B A ls:=h.keep λ_ _ hb=>hg.cell (Nat.lt_of_lt_of_le hb hB)
def GrAt.more {w:World}{B B':Nat}{A:Option Addr}{ls:List (List Int)}(h:GrAt w B A ls)(hB:B<=B'):GrAt w B' A ls:=λhn=>by
 obtain⟨b,o,e,hb,hc⟩:=h hn
 refine⟨b,o,e,by omega,λi l hl=>?_⟩
 obtain⟨A',c,h1,h2⟩:=hc i l hl
 exact⟨A',c,h1,h2.more hB⟩
def GrAt.nil {w:World}{B:Nat}{A:Option Addr}:GrAt w B A []:=λh=>absurd rfl h
def GrAt.at_ {w:World}{B:Nat}{A:Option Addr}{ls:List (List Int)}(h:GrAt w B A ls){k:Nat}(hk:k<ls.length):∃b o A' c,A=some ⟨b,o,none⟩/\b<B/\w.cell? ⟨b,o+k,none⟩=some (.slice A' (ls[k]?.getD []).length c)/\RI w B A' (ls[k]?.getD []):=by
 obtain⟨b,o,e,hb,hc⟩:=h (λe=>by rw[e] at hk;simp at hk)
 obtain⟨A',c,h1,h2⟩:=hc k _ (List.getElem?_eq_getElem hk)
 refine⟨b,o,A',c,e,hb,?_⟩
 rw[List.getElem?_eq_getElem hk]
 exact⟨h1,h2⟩
def fi (l:List (List Int))(k:Nat)(h:k<l.length):l[k]?.getD []∈l:=by
 rw[List.getElem?_eq_getElem h];exact List.getElem_mem h
def cd {w:World}{B b:Nat}{l:List Int}{t:TypeId}{f:Nat×Nat}(h:w.heap[b]?=some (.cells (l.map (Value.int .i64)).toArray t f))(hB:b<B):RI w B (some ⟨b,0,none⟩) l:=λ_ =>
 ⟨b,0,rfl,hB,λi x hx=>by
  unfold World.cell?
  rw[h]
  show(l.map (Value.int .i64)).toArray[0+i]?=_
  rw[Nat.zero_add,List.getElem?_toArray,List.getElem?_map,hx];rfl⟩
def heap_alloc_new (w:World)(o:Obj):(w.alloc o).heap[w.heap.size]?=some o:=by
 show(w.heap.push o)[w.heap.size]?=_
 simp
def heap_alloc_old (w:World)(o:Obj){b:Nat}(h:b<w.heap.size):(w.alloc o).heap[b]?=w.heap[b]?:=by
 show(w.heap.push o)[b]?=_
 simp[Array.getElem?_push,Nat.ne_of_lt h]
def aL (w:World)(o:Obj){b:Nat}(h:b=w.heap.size):(w.alloc o).heap[b]?=some o:=by subst h;exact heap_alloc_new w o
end Go.Sq
namespace Go.Proofs.YtjmmlkobmhlikaaGreat
open Go.RowKit Go.Sq
def guardG:List (List Int):=[[0],[1],[0,2]]
def jg (w:World):Calls uZ 28 #[] w λe w'=>∃A,e=.returned (.slice A guardG.length 3)/\GrAt w' w'.heap.size A guardG/\Gr w w':=by
 go_enter Sq.func28,Tryz.ntmps28
 go_wp2
 go_ret
 refine⟨_,rfl,λ_=>⟨_,0,rfl,by simp,λi l hl=>?_⟩,((((Gr.refl w).alloc _).alloc _).alloc _).alloc _⟩
 match i,hl with
 |0,hl =>
  simp[guardG] at hl;subst hl
  refine⟨some ⟨w.heap.size,0,none⟩,1,?_,cd (l:=[0]) (t:=3) (f:=(0,0)) ?_ (by simp;omega)⟩
  ·rw[World.cell?_alloc_at _ _ _ _ (by simp)];rfl
  ·rw[heap_alloc_old _ _ (by simp;omega),heap_alloc_old _ _ (by simp;omega),heap_alloc_old _ _ (by simp),aL _ _ rfl];rfl
 |1,hl =>
  simp[guardG] at hl;subst hl
  refine⟨some ⟨w.heap.size+1,0,none⟩,1,?_,cd (l:=[1]) (t:=3) (f:=(0,0)) ?_ (by simp)⟩
  ·rw[World.cell?_alloc_at _ _ _ _ (by simp)];rfl
  ·rw[heap_alloc_old _ _ (by simp),heap_alloc_old _ _ (by simp),aL _ _ (by simp)];rfl
 |2,hl =>
  simp[guardG] at hl;subst hl
  refine⟨some ⟨w.heap.size+2,0,none⟩,2,?_,cd (l:=[0,2]) (t:=3) (f:=(0,0)) ?_ (by simp)⟩
  ·rw[World.cell?_alloc_at _ _ _ _ (by simp)];rfl
  ·rw[heap_alloc_old _ _ (by simp),aL _ _ (by simp)];rfl
 |k+3,hl=>simp[guardG] at hl
def wakeC (l:List Int):Camp:=⟨l,[⟨12,3,2,[]⟩,⟨6,2,2,[0]⟩,⟨6,1,1,[]⟩]⟩
def oT (A:Option Addr)(c:Nat)(l:List Int)(w:World):Calls uZ 23 #[.slice A l.length c] w λe w'=>∃hA,e=.returned (campV A hA (wakeC l) c 3)/\HsAt w' w'.heap.size hA (wakeC l).herders/\Gr w w'/\hA=some ⟨w.heap.size+2,0,none⟩/\w'.heap[w.heap.size+1]?=some (.cells #[.int .i64 0] 3 (0,0)) /\
      w'.heap[w.heap.size+2]?=some (.cells #[.int .i64 12,.int .i64 3,.int .i64 2,.slice none 0 0,.int .i64 6,.int .i64 2,.int .i64 2,.slice (some ⟨w.heap.size+1,0,none⟩) 1 1,.int .i64 6,.int .i64 1,.int .i64 1,.slice none 0 0] 53 (0,0)):=by
  go_enter Sq.func23,Tryz.ntmps23
  go_wp2
  obtain⟨W,hW⟩:∃W:World,W=((w.alloc (.cells #[.slice A l.length c,.slice (some ⟨w.heap.size+1+1,0,none⟩) 3 3] 27)).alloc (.cells #[.int .i64 0] 3)).alloc (.cells #[.int .i64 12,.int .i64 3,.int .i64 2,.slice none 0 0,.int .i64 6,.int .i64 2,.int .i64 2,.slice (some ⟨w.heap.size+1,0,none⟩) 1 1,.int .i64 6,.int .i64 1,.int .i64 1,.slice none 0 0] 53):=⟨_,rfl⟩
  rw[<-hW]
  have s0:W.cell? ⟨w.heap.size,0,none⟩=some (.slice A l.length c):=by
    rw[hW,World.cell?_alloc_past _ _ _ (by simp;omega),World.cell?_alloc_past _ _ _ (by simp),World.cell?_alloc_at _ _ _ _ rfl];rfl
  have s1:W.cell? ⟨w.heap.size,1,none⟩=some (.slice (some ⟨w.heap.size+1+1,0,none⟩) 3 3):=by
    rw[hW,World.cell?_alloc_past _ _ _ (by simp;omega),World.cell?_alloc_past _ _ _ (by simp),World.cell?_alloc_at _ _ _ _ rfl];rfl
  refine bodyPost_ret (v:=campV A (some ⟨w.heap.size+1+1,0,none⟩) (wakeC l) c 3) (by simp[results,Tryz.results23,go_sem,s0,s1,campV,wakeC]) rfl ⟨_,rfl,?_,?_,rfl,?_,?_⟩
  · have hz:w.heap.size+1+1<W.heap.size:=by rw[hW];simp
    have hc:∀o,W.cell? ⟨w.heap.size+1+1,o,none⟩=(#[.int .i64 12,.int .i64 3,.int .i64 2,.slice none 0 0,.int .i64 6,.int .i64 2,.int .i64 2,.slice (some ⟨w.heap.size+1,0,none⟩) 1 1,.int .i64 6,.int .i64 1,.int .i64 1,.slice none 0 0]:Array Value)[o]?:=λo=>by
      rw[hW,World.cell?_alloc_at _ _ _ _ (by simp)]
    have hri:RI W W.heap.size (some ⟨w.heap.size+1,0,none⟩) [0]:=cd (l:=[0]) (t:=3) (f:=(0,0)) (by
      rw[hW,heap_alloc_old _ _ (by simp),aL _ _ (by simp)];rfl) (by omega)
    refine λ_=>⟨_,0,rfl,hz,λi h hh=>?_⟩
    match i,hh with
    |0,hh=>simp[wakeC] at hh;subst hh;exact⟨hc _,hc _,hc _,none,0,hc _,.nil⟩
    |1,hh=>simp[wakeC] at hh;subst hh;exact⟨hc _,hc _,hc _,_,1,hc _,hri⟩
    |2,hh=>simp[wakeC] at hh;subst hh;exact⟨hc _,hc _,hc _,none,0,hc _,.nil⟩
    |k+3,hh=>simp[wakeC] at hh
  · rw[hW];exact(((Gr.refl w).alloc _).alloc _).alloc _
  · rw[hW,heap_alloc_old _ _ (by simp),aL _ _ (by simp)]
  · rw[hW,aL _ _ (by simp)]
def kL (A:Option Addr)(c:Nat)(l:List Int)(w:World):Calls uZ 23 #[.slice A l.length c] w λe w'=>∃hA,e=.returned (campV A hA (wakeC l) c 3)/\HsAt w' w'.heap.size hA (wakeC l).herders/\Gr w w' :=
 (oT A c l w).mono λe w' ⟨hA,h1,h2,h3,_⟩=>⟨hA,h1,h2,h3⟩
end Go.Proofs.YtjmmlkobmhlikaaGreat
namespace Go.Sq
def dY (l:List Int)(d:Int):List Int:=if d∈l then l else(l++[d]).mergeSort λx y=>decide (x<=y)
def repC (c:Camp)(k:Nat)(d:Int):Camp:={ c with herders:=c.herders.set k { c.h k with off:=dY (c.h k).off d } }
def farR (a b:Ros):Nat->Nat
 |0=>0
 |n+1=>farR a b n+(wl (a n ^^^ b n)).length
def nearR (r:Ros):List Ros->Option (Ros×Nat)
 |[]=>none
 |l@(_::_)=>l.foldl (λo ρ=>match o with
  |none=>some (ρ,farR ρ r 5)
  |some b=>if farR ρ r 5<b.2 then some (ρ,farR ρ r 5) else some b) none
def iO (r:Ros)(l:List Ros)(ρ:Ros):nearR r (l++[ρ])=(match nearR r l with
  |none=>some (ρ,farR ρ r 5)
  |some b=>if farR ρ r 5<b.2 then some (ρ,farR ρ r 5) else some b):=by
 cases l with
 |nil=>rfl
 |cons a l =>
  show((a::l)++[ρ]).foldl _ none=_
  rw[List.foldl_append]
  rfl
def oU {r:Ros}:∀(n:Nat) (l:List Ros) (p:Ros×Nat),l.length=n->nearR r l=some p->p.1∈l:=by
 intro n
 induction n with
 |zero =>
  intro l p hl h
  rw[List.eq_nil_of_length_eq_zero hl] at h
  cases h
 |succ n ih =>
  intro l p hl h
  rcases List.eq_nil_or_concat l with rfl|⟨l',b,rfl⟩
  ·simp at hl
  ·rw[List.concat_eq_append] at h hl ⊢
   rw[iO] at h
   have hl':l'.length=n:=by simpa using hl
   cases ho:nearR r l' with
   |none=>rw[ho] at h;cases h;simp
   |some q =>
    rw[ho] at h
    simp only at h
    split at h
    ·cases h;simp
    ·have e:=Option.some.inj h
     rw[<-e]
     exact List.mem_append_left _ (ih l' q hl' ho)
end Go.Sq
namespace Go.Proofs.YtjmmlkobmhlikaaGreat
open Go.RowKit Go.Sq
def eQ {w:World}{B:Nat}{A:Option Addr}{l:List Int}{K:Nat->Prop}(h:RI w B A l)(hK:∀b,b<B->K b):RIK w K A l:=λhn=>by
 obtain⟨b,o,e,hb,hc⟩:=h hn
 exact⟨b,o,e,hK b hb,hc⟩
def s5 {w:World}{B:Nat}{A:Option Addr}{l:List Herder}{K:Nat->Prop}(h:HsAt w B A l)(hK:∀b,b<B->K b):HsAtK w K A l:=λhn=>by
 obtain⟨b,o,e,hb,hc⟩:=h hn
 refine⟨b,o,e,hK b hb,λi x hx=>?_⟩
 obtain⟨h1,h2,h3,A',c,h4,h5⟩:=hc i x hx
 exact⟨h1,h2,h3,A',c,h4,eQ h5 hK⟩
def kOf (B cb g:Nat):Nat->Prop:=λb=>b<B\/b=cb\/b=g
def CampF (w:World)(cb g:Nat)(c:Camp)(sets:List Nat)(nA hA:Option Addr)(nc hc cap:Nat):Prop :=
 FlatS w (.slice (some ⟨g,0,none⟩) sets.length cap)/\w.heap[cb]?=some (.cells #[.slice nA c.needs.length nc,.slice hA c.herders.length hc,.slice (some ⟨g,0,none⟩) sets.length cap] 138 (0,0))
def iP (nA hA:Option Addr)(nc hc:Nat)(c:Camp)(w:World)(B:Nat)(hB:B<=w.heap.size)(hn:RI w B nA c.needs)(hh:HsAt w B hA c.herders)(hm:c.herders.length<=4) :
  Calls uZ 55 #[campV nA hA c nc hc] w λe w'=>e=.returned (.pointer (some ⟨w.heap.size+1,0,none⟩))/\Gr w w'/\∃g cap,w.heap.size+2<=g /\
   CampK w' (kOf B (w.heap.size+1) g) (w.heap.size+1) c (setsL c.herders.length) nA hA nc hc g cap/\CampF w' (w.heap.size+1) g c (setsL c.herders.length) nA hA nc hc cap:=by
 refine(mh nA hA nc hc c.needs.length c.herders.length w hm (oS c.herders.length hm)).mono ?_
 rintro e w' ⟨rfl,g,cap,W,⟨g',cap',hv,hk,hs,hsf⟩,hg,hgr,hz,h0,h1,h2,ho,hfl,hob⟩
 obtain⟨rfl,rfl⟩:g=g'/\cap=cap':=by injection hv with a b c;injection a with a;injection a with a;exact⟨a,c⟩
 have hgW:=(ho.lt g rfl).2
 have hGr:Gr w w':=⟨⟨hk.os.trans hgr.below.os,hk.tape.trans hgr.below.tape,hk.output.trans hgr.below.output,Nat.le_trans hgr.size hk.size,λb hb=>(hk.block b (Nat.lt_of_lt_of_le hb hgr.size) (by show b≠g;omega)).trans (hgr.below.block b hb)⟩,Nat.le_trans hgr.drawn hk.drawn⟩
 refine⟨rfl,hGr,g,cap,hg,?_,?_,?_⟩
 rotate_left
 ·rw[cI _ hm];exact hsf _ _ hfl
 ·rw[cI _ hm];exact(hk.block _ hz (by show ¬w.heap.size+1=g;omega)).trans hob
 have hc1:∀o,w'.cell? ⟨w.heap.size+1,o,none⟩=W.cell? ⟨w.heap.size+1,o,none⟩:=λo=>hk.cell (p:=⟨w.heap.size+1,o,none⟩) hz (by show w.heap.size+1≠g;omega)
 refine⟨?_,Or.inr (Or.inl rfl),(hc1 0).trans h0,(hc1 1).trans h1,?_,Or.inr (Or.inr rfl),hs,eQ (hn.gr hB hGr) λb hb=>Or.inl hb,s5 (hh.keep λb o hb=>hGr.cell (Nat.lt_of_lt_of_le hb hB)) λb hb=>Or.inl hb⟩
 ·rintro b (h|h|h)
  ·have:=hGr.size;omega
  ·have:=hk.size;omega
  ·have:=hk.size;omega
 ·rw[cI _ hm];exact(hc1 2).trans h2
def Begun (nA hA:Option Addr)(nc hc:Nat)(c:Camp)(B:Nat)(w:World)(e:Ending)(w':World):Prop :=
 Gr w w' ∧ if checkE c = 0 then ∃ cb g cap, e = .returned (.tuple #[.pointer (some ⟨cb, 0, none⟩), .int .i64 0]) ∧ w.heap.size <= cb ∧ cb < g ∧ CampK w' (kOf B cb g) cb c (setsL c.herders.length) nA hA nc hc g cap ∧ CampF w' cb g c (setsL c.herders.length) nA hA nc hc cap
   else e=.returned (.tuple #[.pointer none,.int .i64 (checkE c)])
def jh (nA hA:Option Addr)(nc hc:Nat)(c:Camp)(w:World)(B:Nat)(hB:B<=w.heap.size)(hn:RI w B nA c.needs)(hh:HsAt w B hA c.herders)(hl1:c.needs.length<=4611686018427387904)(hl2:c.herders.length<=4611686018427387904)
  (hlo:∀h∈c.herders,h.off.length<=4611686018427387904) :
  Calls uZ 31 #[campV nA hA c nc hc] w (Begun nA hA nc hc c B w):=by
 have HN:=ui hn
 have HH:=ui hh
 have HLO:=ui hlo
 clear hn hh hlo
 unfold campV
 obtain⟨W0,hW0⟩:∃W0:World,W0=w.alloc (.cells #[.slice nA c.needs.length nc,.slice hA c.herders.length hc] 27):=⟨_,rfl⟩
 have hg0:Gr w W0:=hW0▸(Gr.refl w).alloc _
 have hn0:RI W0 B nA c.needs:=HN.out.gr hB hg0
 have hh0:HsAt W0 B hA c.herders:=HH.out.keep λb o hb=>hg0.cell (Nat.lt_of_lt_of_le hb hB)
 have hz0:W0.heap.size=w.heap.size+1:=by rw[hW0];simp
 have HW:=ui hW0
 clear hW0
 have HC:=ui (rJ nA hA nc hc c W0 B (by omega) hn0 hh0 hl1 hl2 HLO.out)
 have HG0:=ui hg0
 have HN0:=ui hn0
 have HH0:=ui hh0
 clear hg0 hn0 hh0
 unfold campV at HC
 go_enter Sq.func31,Tryz.ntmps31
 go_wp2_with fail
 rw[<-HW.out]
 refine HC.out.mono ?_
 rintro e w1 ⟨rfl,hg1⟩
 have HG1:=ui hg1
 clear hg1 HC
 by_cases hE:checkE c=0
 ·rw[hE]
  have hm:=Camp.Ok.of hE
  have h01:Gr W0 w1:=HG1.out
  have HS:=ui (iP nA hA nc hc c w1 B (by have:=h01.size;omega) (HN0.out.gr (by omega) h01) (HH0.out.keep λb o hb=>h01.cell (Nat.lt_of_lt_of_le hb (by omega))) hm.h4)
  have hc0:w1.cell? ⟨w.heap.size,0,none⟩=some (.slice nA c.needs.length nc):=(h01.cell (by show w.heap.size<_;omega)).trans (by rw[HW.out];simp)
  have hc1:w1.cell? ⟨w.heap.size,1,none⟩=some (.slice hA c.herders.length hc):=(h01.cell (by show w.heap.size<_;omega)).trans (by rw[HW.out];simp)
  have hz1:=h01.size
  unfold campV at HS
  clear h01 hm
  have HE:=ui hE
  clear hE
  go_wp2_with fail
  refine HS.out.mono ?_
  rintro e w2 ⟨rfl,hg2,g,cap,hg,hK,hKF⟩
  have HRF:=ui hKF
  clear hKF
  have HR:=ui hK
  have HG2:=ui hg2
  clear hg2 hK
  go_wp2
  go_ret2
  refine⟨HG0.out.trans (HG1.out.trans HG2.out),?_⟩
  rw[if_pos HE.out]
  exact⟨_,g,cap,rfl,by omega,by omega,HR.out,HRF.out⟩
 ·have HE:=ui hE
  obtain⟨k,hk⟩:∃k,k=checkE c:=⟨_,rfl⟩
  rw[<-hk] at hE ⊢
  have HK:=ui hk
  clear hk
  go_wp2
  go_ret2
  refine⟨HG0.out.trans HG1.out,?_⟩
  rw[if_neg HE.out]
  show Ending.returned (.tuple #[.pointer none,.int .i64 k])=_
  rw[HK.out]
open Go.RowKit Go.Sq Go.Shelf
attribute [local go_sem] Oper.semAt_some
def zeroR:Ros:=λ_=>0
def fj {c:Camp}:∀i,c.has (zeroR i):=λ_=>Nat.pos_of_ne_zero (by simp)
def kM {c:Camp}(hok:c.Ok):∀x∈setsL c.herders.length,c.has x:=kJ _ hok.h4
def mi {c:Camp}(hok:c.Ok):(setsL c.herders.length).length<=16:=by
 rw[cI _ hok.h4]
 exact Nat.le_trans (Nat.pow_le_pow_right (by omega) hok.h4) (by decide)
def isSome (c:Camp):Bool:=!(walkL c (setsL c.herders.length) c.needs.length zeroR 0).isEmpty
def oV {K:Nat->Prop}{cb:Nat}{c:Camp}{nA hA:Option Addr}{nc hc sb sc:Nat}(w:World)(hok:c.Ok)(hK:CampK w K cb c (setsL c.herders.length) nA hA nc hc sb sc) :
  Calls uZ 58 #[.pointer (some ⟨cb,0,none⟩)] w λe w'=>e=.returned (.bool (isSome c))/\Gr w w':=by
 rw[<-callsIn_wide (n:=0)]
 have HK:=ui hK
 have hkl:=hK.lt
 have HKL:=ui hkl
 clear hK hkl
 refine callsIn_of_wp_marks Sq.func58 rfl trivial ?_ rfl
 simp only[Tryz.ntmps58,List.size_toArray,List.length_cons,List.length_nil,Nat.reduceAdd,Nat.reduceSub,Array.replicate_succ,Array.replicate_zero,List.push_toArray,List.append_toArray,List.nil_append,List.cons_append]
 gi_wp2_with fail
 have hfrom:=kh cb 0 zeroR (w.alloc (.cells #[.bool false] 4))
 rw[<-callsIn_wide (n:=0)] at hfrom
 refine⟨trivial,rfl,hfrom.mono ?_⟩
 rintro e w1 ⟨rfl,hw1⟩
 have HS:=ui (i7 (T0:=(·=w.heap.size)) (K:=K) (n:=0) (r:=zeroR) (HK.out.keep (w':=w.alloc (.cells #[.bool false] 4)) (by simp) λb o hb=>World.cell?_alloc_past _ _ _ (HKL.out b hb)) (λb hb=>by subst hb;simp) (λb hb h=>by have:=HKL.out b hb;omega) fj)
 rw[<-hw1] at HS
 have HW:=ui hw1
 clear hw1 hfrom
 have hres:w1.heap[w.heap.size]?=some (.cells #[.bool false] 4 (0,0)):=by
  rw[HW.out,Below.heap_alloc _ _ _ (by simp;omega),Below.heap_alloc _ _ _ (by simp;omega),Below.heap_alloc _ _ _ (by simp)]
  exact World.alloc_heap_new w _
 have HRES:=ui hres
 have hz:w1.heap.size=w.heap.size+4:=by rw[HW.out];simp
 have HZ:=ui hz
 have hg1:Gr w w1:=by rw[HW.out];exact((((Gr.refl w).alloc _).alloc _).alloc _).alloc _
 have HG:=ui hg1
 clear hres hz hg1
 gi_wp2_with fail
 refine mA (T0:=(·=w.heap.size)) (K:=K) (cb:=cb) (c:=c) (sets:=setsL c.herders.length) (nA:=nA) (hA:=hA) (nc:=nc) (hc:=hc) (sb:=sb) (sc:=sc) (bc:=w.heap.size+1) (br:=w.heap.size+1+1) (bn:=w.heap.size+1+2) (k:=c.needs.length) (n:=0) (r:=zeroR)
  hok (kM hok) (mi hok) rfl (by omega) (λ_ _=>rfl) (by simpa using HS.out) (by rintro b rfl;have:=HZ.out;omega)
  (λpre W=>pre=[]/\W.heap[w.heap.size]?=some (.cells #[.bool false] 4 (0,0)))
  (λj pre W=>j=.ret/\pre≠[]/\W.heap[w.heap.size]?=some (.cells #[.bool true] 4 (0,0)))
  (λpre W W' h hk=>⟨h.1,(hk _ rfl).trans h.2⟩) (λj pre W W' h hk=>⟨h.1,h.2.1,(hk _ rfl).trans h.2.2⟩) ⟨rfl,HRES.out⟩
  ?_ ?_ ?_
 ·intro l pre ρ W hkw hpre
  obtain⟨rfl,hb⟩:=hpre
  obtain⟨h1,h2,h3⟩:=one_cell hb
  have HB:=ui (one_set (u:=.bool true) hb)
  clear hkw hb
  gi_wp2
  exact⟨KT.setCell (T:=(·=w.heap.size)) W (p:=⟨w.heap.size,0,none⟩) rfl _,rfl,by simp,HB.out⟩
 ·rintro D W hD hkw ⟨hL,hb⟩ hd
  obtain⟨h1,h2,h3⟩:=one_cell hb
  have HB:=ui (one_set (u:=.bool false) hb)
  have HK2:=ui (hkw.gr HG.out (by rintro b (rfl|rfl)<;>omega))
  have HL:=ui (show isSome c=false by unfold isSome;rw[hL];rfl)
  have hD2:D≠w.heap.size:=λe=>by subst e;rw[hb] at hd;cases hd
  have HD:=ui (show(W.setCell ⟨w.heap.size,0,none⟩ (.bool false)).heap[D]?=some (.deferred (some [])) from(Below.heap_setCell _ _ _ _ hD2).trans hd)
  have hz:=HZ.out
  clear hkw hb hd hL
  gi_wp2
  refine dh HD.out (v:=.bool false) ?_ ⟨by rw[HL.out],(HK2.out.setCell (Nat.le_refl _) _).putObj (by omega) _⟩
  have:=(one_cell HB.out).1
  rw[<-bR (D:=D) (o:=.deferred none) (p:=⟨w.heap.size,0,none⟩) (Ne.symm hD2)] at this
  simp[results,Tryz.results58,go_sem,this]
 ·rintro D j q W hD hkw hq ⟨rfl,hne,hb⟩ hd
  have hD2:D≠w.heap.size:=λe=>by subst e;rw[hb] at hd;cases hd
  refine wpIn_ret ?_
  refine dh hd (v:=.bool true) ?_ ⟨?_,(hkw.gr HG.out (by have:=HZ.out;rintro b (rfl|rfl)<;>omega)).putObj (by have:=HZ.out;omega) _⟩
  ·have:=(one_cell hb).1
   rw[<-bR (D:=D) (o:=.deferred none) (p:=⟨w.heap.size,0,none⟩) (Ne.symm hD2)] at this
   simp[results,Tryz.results58,go_sem,this]
  ·refine aD ?_
   unfold isSome
   obtain⟨t,ht⟩:=hq
   cases hw:walkL c (setsL c.herders.length) c.needs.length zeroR 0 with
   |nil=>rw[hw] at ht;exact absurd (List.append_eq_nil_iff.1 ht).1 hne
   |cons a l=>rfl
end Go.Proofs.YtjmmlkobmhlikaaGreat
namespace Go.Sq
def lessL (l m:List Int):Bool:=decide (l.length<m.length)||(decide (l.length=m.length)&&decide (cmpL l m<0))
def KeepL (w:World)(kb:Nat):Option (List Int)->Prop
 |none=>w.heap[kb]?=some (.cells #[.int .i32 0,.int .u32 0,.slice none 0 0,.bool false] 130 (0,0))
 |some l=>∃A c,w.heap[kb]?=some (.cells #[.int .i32 0,.int .u32 0,.slice A l.length c,.bool true] 130 (0,0))/\l.length<=4611686018427387904/\RIK w (λb=>b≠kb/\b<w.heap.size) A l
def bestL:Option (List Int)->List Int->List Int
 |none,x=>x
 |some b,x=>if lessL x b then x else b
def four_cells {W:World}{b:Nat}{v0 v1 v2 v3:Value}{t:TypeId}(h:W.heap[b]?=some (.cells #[v0,v1,v2,v3] t (0,0))) :
  W.cell? ⟨b,0,none⟩=some v0/\W.cell? ⟨b,1,none⟩=some v1/\W.cell? ⟨b,2,none⟩=some v2/\W.cell? ⟨b,3,none⟩=some v3/\(∀i,W.frozen? ⟨b,i,none⟩=false)/\b<W.heap.size:=by
 refine⟨?_,?_,?_,?_,λi=>?_,(Array.getElem?_eq_some_iff.1 h).1⟩
 ·unfold World.cell?;simp only[h];rfl
 ·unfold World.cell?;simp only[h];rfl
 ·unfold World.cell?;simp only[h];rfl
 ·unfold World.cell?;simp only[h];rfl
 ·unfold World.frozen?;simp[h]
def aH {W:World}{b i:Nat}{a:Array Value}{u:Value}{t:TypeId}{f:Nat×Nat}(h:W.heap[b]?=some (.cells a t f)):(W.setCell ⟨b,i,none⟩ u).heap[b]?=some (.cells (a.setIfInBounds i u) t f):=by
 unfold World.setCell
 simp only[Array.getElem?_modify,if_true,h]
 rfl
def RIK.keep' {w w':World}{kb:Nat}{A:Option Addr}{l:List Int}(h:RIK w (λb=>b≠kb/\b<w.heap.size) A l)(hz:w.heap.size<=w'.heap.size)(hk:∀b o,b≠kb->w'.cell? ⟨b,o,none⟩=w.cell? ⟨b,o,none⟩):RIK w' (λb=>b≠kb/\b<w'.heap.size) A l:=λhn=>by
 obtain⟨b,o,e,hb,hc⟩:=h hn
 exact⟨b,o,e,⟨hb.1,Nat.lt_of_lt_of_le hb.2 hz⟩,λi x hx=>(hk _ _ hb.1).trans (hc i x hx)⟩
end Go.Sq
namespace Go.Proofs.YtjmmlkobmhlikaaGreat
open Go.RowKit Go.Sq
def qv (A A':Option Addr)(c c':Nat)(l m:List Int)(w:World)(B:Nat)(h:RI w B A l)(h':RI w B A' m)(hl:l.length<=4611686018427387904)(hm:m.length<=4611686018427387904) :
  Calls uZ 60 #[.slice A l.length c,.slice A' m.length c'] w λe w'=>e=.returned (.bool (lessL l m))/\w=w':=by
 have HC:=ui (jp A A' c c' l m w B h h' hl hm)
 clear h h'
 go_enter Sq.func60,Tryz.ntmps60
 by_cases h1:l.length<m.length
 ·have HL:=ui (show lessL l m=true by simp[lessL,h1])
  go_wp2
  go_ret
  exact⟨aD HL.out.symm,rfl⟩
 ·by_cases h2:l.length=m.length
  ·have HL:=ui (show lessL l m=decide (cmpL l m<0) by simp[lessL,h2])
   rw[h2] at HC ⊢
   clear h1 h2
   generalize cmpL l m=q at HC HL
   go_wp2_with (go_at_call 61;refine HC.out.mono ?_;rintro e w' ⟨rfl,rfl⟩)
   go_ret
   exact⟨aD HL.out.symm,rfl⟩
  ·have HL:=ui (show lessL l m=false by simp[lessL,h1,h2])
   clear HC
   generalize l.length=a at h1 h2 hl ⊢
   generalize m.length=b at h1 h2 hm ⊢
   go_wp2
   go_ret
   exact⟨aD HL.out.symm,rfl⟩
def rO (kb:Nat)(xA:Option Addr)(xc:Nat)(x:List Int)(o:Option (List Int))(w:World)(hk:KeepL w kb o)(hx:RIK w (λb=>b≠kb/\b<w.heap.size) xA x)(hl:x.length<=4611686018427387904) :
  Calls uZ 59 #[.pointer (some ⟨kb,0,none⟩),.slice xA x.length xc,.func (.func 60) #[] #[]] w λe w'=>e=.returned (.tuple #[])/\KT (·=kb) w w'/\KeepL w' kb (some (bestL o x)):=by
 have HX:=ui hx
 clear hx
 cases o with
 |none =>
  obtain⟨h0,h1,h2,h3,hf,hlt⟩:=four_cells hk
  have f0:=hf 0
  have f2:=hf 2
  have f3:=hf 3
  have HK:=ui hk
  clear hf hk
  go_enter_defers Sq.func59,Tryz.ntmps59
  go_wp2_with (go_at_call 73;refine(uy ⟨kb,0,none⟩ _ h0 f0).mono ?_;rintro e w' ⟨rfl,rfl⟩)
  have HS:=ui (aH (i:=3) (u:=.bool true) (aH (i:=2) (u:=.slice xA x.length xc) (aH (i:=0) (u:=.int .i32 1) HK.out)))
  refine leaves_cons (f:=74) (args:=#[.pointer (some ⟨kb,0,none⟩)]) (by simp) (by simp[go_sem]) ?_
  obtain⟨c0,_,_,_,cf,_⟩:=four_cells HS.out
  refine(ux ⟨kb,0,none⟩ .returning _ c0 (cf 0)).mono ?_
  rintro e u' w'' ⟨rfl,rfl,rfl⟩
  have HS2:=aH (i:=0) (u:=.int .i32 0) HS.out
  refine⟨.tuple #[],results_none rfl _ _ _,rfl,(((KT.setCell (T:=(·=kb)) w (p:=⟨kb,0,none⟩) rfl _).trans (KT.setCell (T:=(·=kb)) _ (p:=⟨kb,2,none⟩) rfl _)).trans (KT.setCell (T:=(·=kb)) _ (p:=⟨kb,3,none⟩) rfl _)).trans (KT.setCell (T:=(·=kb)) _ (p:=⟨kb,0,none⟩) rfl _),?_⟩
  refine⟨xA,xc,HS2,hl,HX.out.keep' (by simp[World.setCell]) λb i hb=>?_⟩
  rw[World.cell?_setCell_other _ _ _ _ (by simp[Ne.symm hb]),World.cell?_setCell_other _ _ _ _ (by simp[Ne.symm hb]),World.cell?_setCell_other _ _ _ _ (by simp[Ne.symm hb]),World.cell?_setCell_other _ _ _ _ (by simp[Ne.symm hb])]
 |some b =>
  obtain⟨bA,bc,hk,hbl,hb⟩:=hk
  obtain⟨h0,h1,h2,h3,hf,hlt⟩:=four_cells hk
  have f0:=hf 0
  have f2:=hf 2
  have f3:=hf 3
  have HK:=ui hk
  have HB:=ui hb
  have hc2:(w.setCell ⟨kb,0,none⟩ (.int .i32 1)).cell? ⟨kb,2,none⟩=some (.slice bA b.length bc):=(World.cell?_setCell_other _ _ _ _ (by simp)).trans h2
  have hc3:(w.setCell ⟨kb,0,none⟩ (.int .i32 1)).cell? ⟨kb,3,none⟩=some (.bool true):=(World.cell?_setCell_other _ _ _ _ (by simp)).trans h3
  have kp:∀ {A:Option Addr} {l:List Int},RIK w (λb=>b≠kb/\b<w.heap.size) A l->RI (w.setCell ⟨kb,0,none⟩ (.int .i32 1)) w.heap.size A l:=λh=>RIK.ri (K:=λb=>b≠kb/\b<w.heap.size) (h.keep λb o hb=>World.cell?_setCell_other _ _ _ _ (by simp[Ne.symm hb.1])) λb hb=>hb.2
  have HC:=ui (qv xA bA xc bc x b (w.setCell ⟨kb,0,none⟩ (.int .i32 1)) w.heap.size (kp HX.out) (kp hb) hl hbl)
  clear hf hk hb kp hc2 hc3
  obtain⟨v,hv⟩:∃v,v=lessL x b:=⟨_,rfl⟩
  rw[<-hv] at HC
  have HV:=ui hv
  clear hv
  cases v with
  |true =>
   go_enter_defers Sq.func59,Tryz.ntmps59
   go_wp2_with (first|(go_at_call 73;refine(uy ⟨kb,0,none⟩ _ h0 f0).mono ?_;rintro e w' ⟨rfl,rfl⟩)|(go_at_call 60;refine HC.out.mono ?_;rintro e w' ⟨rfl,rfl⟩))
   have HS:=ui (aH (i:=3) (u:=.bool true) (aH (i:=2) (u:=.slice xA x.length xc) (aH (i:=0) (u:=.int .i32 1) HK.out)))
   refine leaves_cons (f:=74) (args:=#[.pointer (some ⟨kb,0,none⟩)]) (by simp) (by simp[go_sem]) ?_
   obtain⟨c0,_,_,_,cf,_⟩:=four_cells HS.out
   refine(ux ⟨kb,0,none⟩ .returning _ c0 (cf 0)).mono ?_
   rintro e u' w'' ⟨rfl,rfl,rfl⟩
   have HS2:=aH (i:=0) (u:=.int .i32 0) HS.out
   refine⟨.tuple #[],results_none rfl _ _ _,rfl,(((KT.setCell (T:=(·=kb)) w (p:=⟨kb,0,none⟩) rfl _).trans (KT.setCell (T:=(·=kb)) _ (p:=⟨kb,2,none⟩) rfl _)).trans (KT.setCell (T:=(·=kb)) _ (p:=⟨kb,3,none⟩) rfl _)).trans (KT.setCell (T:=(·=kb)) _ (p:=⟨kb,0,none⟩) rfl _),?_⟩
   have hbl2:bestL (some b) x=x:=by simp[bestL,<-HV.out]
   rw[hbl2]
   refine⟨xA,xc,HS2,hl,HX.out.keep' (by simp[World.setCell]) λb i hb=>?_⟩
   rw[World.cell?_setCell_other _ _ _ _ (by simp[Ne.symm hb]),World.cell?_setCell_other _ _ _ _ (by simp[Ne.symm hb]),World.cell?_setCell_other _ _ _ _ (by simp[Ne.symm hb]),World.cell?_setCell_other _ _ _ _ (by simp[Ne.symm hb])]
  |false =>
   go_enter_defers Sq.func59,Tryz.ntmps59
   go_wp2_with (first|(go_at_call 73;refine(uy ⟨kb,0,none⟩ _ h0 f0).mono ?_;rintro e w' ⟨rfl,rfl⟩)|(go_at_call 60;refine HC.out.mono ?_;rintro e w' ⟨rfl,rfl⟩))
   have HS:=ui (aH (i:=0) (u:=.int .i32 1) HK.out)
   refine leaves_cons (f:=74) (args:=#[.pointer (some ⟨kb,0,none⟩)]) (by simp) (by simp[go_sem]) ?_
   obtain⟨c0,_,_,_,cf,_⟩:=four_cells HS.out
   refine(ux ⟨kb,0,none⟩ .returning _ c0 (cf 0)).mono ?_
   rintro e u' w'' ⟨rfl,rfl,rfl⟩
   have HS2:=aH (i:=0) (u:=.int .i32 0) HS.out
   refine⟨.tuple #[],results_none rfl _ _ _,rfl,(KT.setCell (T:=(·=kb)) w (p:=⟨kb,0,none⟩) rfl _).trans (KT.setCell (T:=(·=kb)) _ (p:=⟨kb,0,none⟩) rfl _),?_⟩
   have hbl2:bestL (some b) x=b:=by simp[bestL,<-HV.out]
   rw[hbl2]
   refine⟨bA,bc,HS2,hbl,HB.out.keep' (by simp[World.setCell]) λb i hb=>?_⟩
   rw[World.cell?_setCell_other _ _ _ _ (by simp[Ne.symm hb]),World.cell?_setCell_other _ _ _ _ (by simp[Ne.symm hb])]
end Go.Proofs.YtjmmlkobmhlikaaGreat
namespace Go.Sq
open Go.RowKit
def own_keep {w w':World}{base size n:Nat}{e:TypeId}{v:Value}{xs:List Value}(h:w.ownsRow base e size v n xs)(hk:∀g,v.ownBlock=some g->g<w.heap.size->w'.heap[g]?=w.heap[g]?):w'.ownsRow base e size v n xs:=by
 have hlt:=h.lt
 refine⟨h.1,?_⟩
 rcases h.2 with h0|⟨g,cap,cur,rfl,h1,h2,h3⟩
 ·exact .inl h0
 ·exact .inr ⟨g,cap,cur,rfl,h1,(hk g rfl (hlt g rfl).2).trans h2,h3⟩
def eu {w:World}{b1 b2 s1 s2 n1 n2:Nat}{e1 e2:TypeId}{v1 v2:Value}{x1 x2:List Value}(he:e1≠e2)(h1:w.ownsRow b1 e1 s1 v1 n1 x1)(h2:w.ownsRow b2 e2 s2 v2 n2 x2){g:Nat}(hg:v1.ownBlock=some g):some g≠v2.ownBlock:=by
 rcases h1.2 with⟨rfl,_⟩|⟨g1,c1,u1,rfl,_,a1,_⟩
 ·cases hg
 ·rcases h2.2 with⟨rfl,_⟩|⟨g2,c2,u2,rfl,_,a2,_⟩
  ·intro h;cases h
  ·intro h
   obtain rfl:g1=g:=by injection hg
   obtain rfl:g1=g2:=by injection h
   rw[a1] at a2
   injection a2 with a2
   injection a2 with _ h _
   exact he h
def dv {w:World}{B:Nat}{e:TypeId}{size n:Nat}{v:Value}{xs:List Value}(h:w.ownsRow B e size v n xs){b:Nat}(hb:b<B):some b≠v.ownBlock:=λhh=>by
 have:=(h.lt b hh.symm).1;omega
def cD {w:World}{B B':Nat}{e:TypeId}{size n:Nat}{v:Value}{xs:List Value}(h:w.ownsRow B e size v n xs)(hb:B'<=B):w.ownsRow B' e size v n xs:=by
 refine⟨h.1,?_⟩
 rcases h.2 with h0|⟨g,cap,cur,h1,h2,h3⟩
 ·exact .inl h0
 ·exact .inr ⟨g,cap,cur,h1,by omega,h3⟩
structure OwnGrid (w:World)(base:Nat)(v:Value)(ls:List (List Int))(xs:List Value):Prop where
 row:w.ownsRow base 22 1 v ls.length xs
 cells:∀(i:Nat) (l:List Int),ls[i]?=some l->∃u,xs[i]?=some u/\w.ownsRow base 3 1 u l.length (l.map (Value.int .i64))
def OwnGrid.nil (w:World)(base:Nat):OwnGrid w base (.slice none 0 0) [] []:=⟨World.ownsRow_nil _ _ _ _,λi l h=>by simp at h⟩
def OwnGrid.keep {w w':World}{base:Nat}{v:Value}{ls:List (List Int)}{xs:List Value}(h:OwnGrid w base v ls xs)(hk:∀b,b<w.heap.size->w'.heap[b]?=w.heap[b]?):OwnGrid w' base v ls xs :=
 ⟨own_keep h.row λg _ hl=>hk g hl,λi l hi=>by
  obtain⟨u,h1,h2⟩:=h.cells i l hi
  exact⟨u,h1,own_keep h2 λg _ hl=>hk g hl⟩⟩
def OwnGrid.keep' {w w':World}{base:Nat}{v:Value}{ls:List (List Int)}{xs:List Value}(h:OwnGrid w base v ls xs)(hk:∀b,base<=b->b<w.heap.size->w'.heap[b]?=w.heap[b]?):OwnGrid w' base v ls xs :=
 ⟨own_keep h.row λg hg hl=>hk g (h.row.lt g hg).1 hl,λi l hi=>by
  obtain⟨u,h1,h2⟩:=h.cells i l hi
  exact⟨u,h1,own_keep h2 λg hg hl=>hk g (h2.lt g hg).1 hl⟩⟩
def OwnGrid.push {w1 w w':World}{base n:Nat}{v v' u:Value}{ls:List (List Int)}{xs:List Value}{l:List Int}(h:OwnGrid w base v ls xs)(hu:w.ownsRow base 3 1 u l.length (l.map (Value.int .i64)))
  (h1:∀b,b<w.heap.size->w1.heap[b]?=w.heap[b]?) (hs:w.heap.size<=w1.heap.size) (hg:w1.grownBy w' v.ownBlock) (hn:n=ls.length) (hr:w'.ownsRow base 22 1 v' (n+1) (xs++[u])):OwnGrid w' base v' (ls++[l]) (xs++[u]):=by
 subst hn
 have key:∀ {y:Value} {m:Nat} {zs:List Value},w.ownsRow base 3 1 y m zs->w'.ownsRow base 3 1 y m zs:=λhy=>own_keep hy λg hg' hl =>
  (hg.block g (Nat.lt_of_lt_of_le hl hs) (eu (by decide) hy h.row hg')).trans (h1 g hl)
 have hlen:xs.length=ls.length:=by have:=h.row.1;omega
 refine⟨by simpa using hr,λi y hi=>?_⟩
 rcases Nat.lt_or_ge i ls.length with hlt|hge
 ·rw[List.getElem?_append_left hlt] at hi
  obtain⟨z,hz,hzo⟩:=h.cells i y hi
  exact⟨z,by rw[List.getElem?_append_left (by omega)];exact hz,key hzo⟩
 ·have hi2 : i = ls.length := by
   have:=(List.getElem?_eq_some_iff.1 hi).1
   simp at this;omega
  subst hi2
  rw[List.getElem?_append_right (Nat.le_refl _)] at hi
  simp at hi;subst hi
  exact⟨u,by rw[List.getElem?_append_right (by omega),hlen];simp,key hu⟩
def OwnGrid.grAt {w:World}{base:Nat}{v:Value}{ls:List (List Int)}{xs:List Value}(h:OwnGrid w base v ls xs):∃A c,v=.slice A ls.length c/\GrAt w w.heap.size A ls:=by
 rcases h.row.2 with⟨rfl,h0⟩|⟨g,cap,cur,rfl,h1,h2,h3⟩
 ·have:ls=[]:=List.eq_nil_of_length_eq_zero h0
  subst this
  exact⟨none,0,rfl,.nil⟩
 ·refine⟨_,cap,rfl,λ_=>⟨g,0,rfl,(Array.getElem?_eq_some_iff.1 h2).1,λi l hi=>?_⟩⟩
  obtain⟨u,hu,ho⟩:=h.cells i l hi
  obtain⟨A,c,rfl,hr⟩:=uq ho
  refine⟨A,c,?_,hr⟩
  have:=h.row.cells (g:=g) rfl i _ hu
  have e:(⟨g,0,none⟩:Addr).add i=⟨g,0+i,none⟩:=by unfold Addr.add;split<;>simp_all
  rwa [e] at this
end Go.Sq
namespace Go.Proofs.YtjmmlkobmhlikaaGreat
open Go.RowKit Go.Sq
def uI:(uZ.info? 22).map (λi=>(i.zero,i.size,i.bytes))=some (some (.slice none 0 0),1,24):=by
 rw[ur];kernel_rfl
def aQ (r:Ros)(k:Nat):List (List Int):=(List.range k).map λi=>wl (r i)
def lE (r:Ros)(k:Nat):aQ r (k+1)=aQ r k++[wl (r k)]:=by simp[aQ,List.range_succ]
def dF (r:Ros)(k:Nat):(aQ r k).length=k:=by simp[aQ]
def mj (cb:Nat)(nA:Option Addr)(n nc:Nat)(r:Ros)(w:World)(hcb:cb<w.heap.size)(hc0:w.cell? ⟨cb,0,none⟩=some (.slice nA n nc))(hn:n<=5)(hr:∀i,i<5->r i<16) :
  Calls uZ 50 #[.pointer (some ⟨cb,0,none⟩),rosV r] w λe w'=>∃A c xs,e=.returned (.slice A n c)/\OwnGrid w' (w.heap.size+1) (.slice A n c) (aQ r n) xs/\Gr w w':=by
 obtain⟨i0,hi,hz0,hz1,hz2⟩:=info_parts uI
 have HR:=ui hr
 clear hr
 unfold rosV
 go_enter Sq.func50,Tryz.ntmps50
 have hc0':(w.alloc (.cells #[.int .u8 (r 0),.int .u8 (r 1),.int .u8 (r 2),.int .u8 (r 3),.int .u8 (r 4)] 60)).cell? ⟨cb,0,none⟩=some (.slice nA n nc):=(World.cell?_alloc_past _ _ _ hcb).trans hc0
 clear hc0
 go_wp2
 go_loopw [5,13] (λv i wr=>∃k:Nat,k<=n/\i=.int .i64 k/\∃xs,OwnGrid wr (w.heap.size+1) v (aQ r k) xs/\(∀j,j<5->wr.cell? ⟨w.heap.size,j,none⟩=some (.int .u8 (r j)))/\Gr w wr/\w.heap.size+1<=wr.heap.size) (λ_ i _=>n-(intOf i).toNat)
 case atStart =>
  refine⟨0,by omega,rfl,[],OwnGrid.nil _ _,λj hj=>?_,(Gr.refl w).alloc _,by simp⟩
  rw[World.cell?_alloc_at _ _ _ _ rfl]
  match j,hj with
  |0,_=>rfl
  |1,_=>rfl
  |2,_=>rfl
  |3,_=>rfl
  |4,_=>rfl
 case round =>
  obtain⟨k,hk,rfl,xs,hog,hrc,hgr,hsz⟩:=hrel
  have HG:=ui hgr
  have HO:=ui hog
  have HRC:=ui hrc
  clear hgr hog hrc
  by_cases hlt:k<n
  ·have hx:=HR.out k (by omega)
   have hck:=HRC.out k (by omega)
   have HS:=ui (lE r k)
   have HL:=ui (fE (r k) wr hx)
   generalize hrk:r k=x at hx hck HS HL
   clear hrk
   go_wp2_with fail
   refine HL.out.mono ?_
   rintro e w1 ⟨u,rfl,hou,hg1⟩
   obtain⟨uA,uc,rfl,_⟩:=uq hou
   have HU:=ui hou
   have HG1:=ui hg1
   have hs1:=hg1.size
   clear hou hg1 HL
   have hog1:OwnGrid w1 (w.heap.size+1) _ (aQ r k) xs:=HO.out.keep λb hb=>HG1.out.below.block b hb
   have HO1:=ui hog1
   have hrow:=hog1.row
   have hlen:=dF r k
   rw[hlen] at hrow
   clear hog1 hlen
   go_wp2_with (at_builtin;refine wpList_append_gr rfl _ _ 29 rfl (w.heap.size+1) 22 i0 (.slice none 0 0) 1 24 Sq.underlying29 hi hz0 hz1 hz2 rfl (by decide) _ _ _ rfl (hrow.alloc _) ⟨w1.heap.size,0,none⟩ 1 1 [.slice uA (wl x).length uc] rfl rfl ?c1 ?c2 ?c3 ?c4 ?c5 ?_)
   case c1 =>
    intro j u hj
    match j,hj with
    |0,hj=>simp at hj;subst hj;simp[Addr.add]
   case c2 =>
    intro u' hu;simp at hu;subst hu;rfl
   case c3=>unfold maxLen;omega
   case c4=>omega
   case c5=>simp;omega
   intro v' w2 hown' hgrow hd
   have HG2:=ui (((HG.out.trans HG1.out).alloc (.cells #[.slice uA (wl x).length uc] 22)).grown hgrow hd λj hj=>by have:=(hrow.lt j hj).1;omega)
   have hz2':w1.heap.size+1<=w2.heap.size:=by have:=hgrow.size;simpa using this
   have HO2:Hid (OwnGrid w2 (w.heap.size+1) v' (aQ r (k+1)) (xs++[.slice uA (wl x).length uc])):=ui (by
    rw[HS.out]
    refine OwnGrid.push (HO1.out) (cD HU.out (by omega)) (λb hb=>heap_alloc_old w1 _ hb) (by simp) hgrow (dF r k).symm hown')
   have HRC2:Hid (∀j,j<5->w2.cell? ⟨w.heap.size,j,none⟩=some (.int .u8 (r j))):=ui λj hj =>
    hgrow.cell ((World.cell?_alloc_past _ _ _ (by show w.heap.size<w1.heap.size;omega)).trans ((HG1.out.cell (by show w.heap.size<wr.heap.size;omega)).trans (HRC.out j hj))) (dv hrow (by show w.heap.size<_;omega))
   have hz3:w.heap.size+1<=w2.heap.size:=by omega
   clear hown' hgrow hd HG HG1 HO HO1 HU HS HRC hck hrow hs1
   go_wp2
   go_roundw
   case rel=>exact⟨k+1,by omega,by go_num,_,HO2.out,HRC2.out,HG2.out,by omega⟩
   case measure=>simp[intOf];omega
  ·have hkn:k=n:=by omega
   subst hkn
   obtain⟨A,c,rfl,_⟩:=HO.out.grAt
   have hl:=dF r k
   rw[hl] at HO ⊢
   clear hl
   go_wp2
   go_ret
   exact⟨_,_,_,rfl,HO.out,HG.out⟩
end Go.Proofs.YtjmmlkobmhlikaaGreat
