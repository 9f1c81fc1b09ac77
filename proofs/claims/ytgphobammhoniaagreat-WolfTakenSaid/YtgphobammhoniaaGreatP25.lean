/- Parts of the proof. -/
import Derived.Test.YtgphobammhoniaaGreatP17
import Derived.Test.YtgphobammhoniaaGreatP16
import Derived.Test.YtgphobammhoniaaGreatP22
import Derived.Test.YtgphobammhoniaaGreatP24
import Derived.Test.YtgphobammhoniaaGreatP23
import Derived.Deep.RegionLaw
set_option linter.all false
set_option maxHeartbeats 6400000
set_option maxRecDepth 1000000
namespace Go.Sq
open Go.RowKit
structure Hand (w:World)(hb B:Nat)(A:Option Addr)(cap:Nat)(l:List Int)(N:Nat):Prop where
 obj:∃n:Nat,∃s:Int,w.heap[hb]?=some (.cells #[.slice A l.length cap,.int .i64 n,.int .u64 s] 49 (0,0))/\n<=N
 nums:RI w B A l
 apart:B<=hb
def Hand.lt {w:World}{hb B:Nat}{A:Option Addr}{cap:Nat}{l:List Int}{N:Nat}(h:Hand w hb B A cap l N):hb<w.heap.size:=by
 obtain⟨n,s,h1,_⟩:=h.obj
 exact(Array.getElem?_eq_some_iff.1 h1).1
def Hand.more {w:World}{hb B:Nat}{A:Option Addr}{cap:Nat}{l:List Int}{N M:Nat}(h:Hand w hb B A cap l N)(hm:N<=M):Hand w hb B A cap l M:=by
 obtain⟨n,s,h1,h2⟩:=h.obj
 exact⟨⟨n,s,h1,by omega⟩,h.nums,h.apart⟩
def Hand.gr {w w':World}{hb B:Nat}{A:Option Addr}{cap:Nat}{l:List Int}{N:Nat}(h:Hand w hb B A cap l N)(hg:Gr w w'):Hand w' hb B A cap l N:=by
 have hl:=h.lt
 obtain⟨n,s,h1,h2⟩:=h.obj
 exact⟨⟨n,s,(hg.below.block hb hl).trans h1,h2⟩,h.nums.gr (by have:=h.apart;omega) hg,h.apart⟩
abbrev KH (hb:Nat)(w w':World):Prop:=KT (·=hb) w w'
end Go.Sq
namespace Go.Proofs.YtgphobammhoniaaGreat
open Go.RowKit Go.Sq
def iY (x y:Int):0<=bits BinOp.xor IntKind.u64 x y:=by
 unfold bits IntKind.wrap
 have h:IntKind.u64.signed=false:=rfl
 simp only[h,Bool.false_and,Bool.false_eq_true,if_false]
 exact Int.emod_nonneg _ (by decide)
def tH (hb B:Nat)(A:Option Addr)(cap:Nat)(l:List Int)(N:Nat)(w:World)(h:Hand w hb B A cap l N)(hN:N<=1048576) :
  Calls ve 23 #[.pointer (some ⟨hb,0,none⟩)] w λe w'=>(∃v:Int,e=.returned (.int .u64 v)/\0<=v)/\Hand w' hb B A cap l (N+1)/\KH hb w w':=by
 obtain⟨n,s,hobj,hn⟩:=h.obj
 have HH:=uq h
 have c0:w.cell? ⟨hb,0,none⟩=some (.slice A l.length cap):=by unfold World.cell?;rw[hobj];rfl
 have c1:w.cell? ⟨hb,1,none⟩=some (.int .i64 n):=by unfold World.cell?;rw[hobj];rfl
 have c2:w.cell? ⟨hb,2,none⟩=some (.int .u64 s):=by unfold World.cell?;rw[hobj];rfl
 have f1:w.frozen? ⟨hb,1,none⟩=false:=by unfold World.frozen?;rw[hobj];rfl
 have f2:w.frozen? ⟨hb,2,none⟩=false:=by unfold World.frozen?;rw[hobj];rfl
 have HO:=uq hobj
 clear h hobj
 have key : ∀ (v x y : Int) (W : World), W.heap = ((w.setCell ⟨hb, 1, none⟩ (.int .i64 (n + 1 : Nat))).setCell ⟨hb, 2, none⟩ (.int .u64 y)).heap -> W.os = w.os -> W.tape = w.tape -> W.output = w.output -> w.drawn <= W.drawn -> 0 <= v ->
   (∃v':Int,Ending.returned (.int .u64 v)=.returned (.int .u64 v')/\0<=v')/\Hand W hb B A cap l (N+1)/\KH hb w W:=λv x y W hW e1 e2 e3 e4 hv=>by
  have hB:=HH.out.apart
  have hlt:=HH.out.lt
  have hbk:∀b,b≠hb->W.heap[b]?=w.heap[b]?:=λb hne=>by
   rw[hW,Below.heap_setCell _ _ _ _ hne,Below.heap_setCell _ _ _ _ hne]
  refine⟨⟨v,rfl,hv⟩,⟨⟨n+1,y,?_,by omega⟩,HH.out.nums.keep λb o hb'=>World.cell?_of_block (hbk b (by omega)),hB⟩,⟨e1,e2,e3,e4,?_,λb _ hne=>hbk b hne⟩⟩
  ·rw[hW]
   exact aM (aM HO.out)
  ·rw[hW];simp[World.setCell]
 have HKEY:=uq key
 clear key
 go_enter Sq.func23,Tryz.ntmps23
 by_cases hlt:n<l.length
 ·obtain⟨b,o,rfl,hb',hcl⟩:=HH.out.nums.at_ hlt
  generalize l[n]?.getD 0=x at hcl
  go_wp2
  go_region
  all_goals
   go_wp2
   go_region
   all_goals
    go_wp2
    go_ret
    refine HKEY.out _ 0 _ _ rfl rfl rfl rfl (by simp[World.drew,World.setCell]<;>omega) ?_
    exact Int.ediv_nonneg (iY _ _) (by omega)
 ·go_wp2
  go_region
  all_goals
   go_wp2
   go_ret
   refine HKEY.out _ 0 _ _ rfl rfl rfl rfl (by simp[World.drew,World.setCell]<;>omega) ?_
   exact Int.ediv_nonneg (iY _ _) (by omega)
def dE (hb B:Nat)(A:Option Addr)(cap:Nat)(l:List Int)(N:Nat)(m:Int)(w:World)(h:Hand w hb B A cap l N)(hN:N<=1048576)(hm:m<=1048576) :
  Calls ve 14 #[.pointer (some ⟨hb,0,none⟩),.int .i64 m] w λe w'=>(∃k:Nat,e=.returned (.int .i64 k)/\((k:Int)<=m\/k=0))/\Hand w' hb B A cap l (N+1)/\KH hb w w':=by
 have HP:=uq (tH hb B A cap l N w h hN)
 have HH:=uq h
 clear h
 go_enter Sq.func14,Tryz.ntmps14
 by_cases hm0:m<=0
 ·go_wp2
  go_ret
  exact⟨⟨0,rfl,.inr rfl⟩,HH.out.more (by omega),KT.refl _ _⟩
 ·go_wp2_with fail
  refine HP.out.mono ?_
  rintro e w' ⟨⟨v,rfl,hv⟩,hh,hk⟩
  have HH2:=uq hh
  have HK:=uq hk
  clear hh hk HP
  have h1:IntKind.u64.wrap (m+1)=m+1:=by simp[IntKind.wrap,IntKind.bits,IntKind.signed];omega
  have h2:v % (m+1)<m+1:=Int.emod_lt_of_pos _ (by omega)
  have h3:0<=v % (m+1):=Int.emod_nonneg _ (by omega)
  go_wp2
  go_ret
  obtain⟨k,hk⟩:∃k:Nat,v % (m+1)=k:=⟨(v % (m+1)).toNat,by omega⟩
  exact⟨⟨k,by show Ending.returned (Value.int .i64 (v % (m+1)))=_;rw[hk],.inl (by omega)⟩,HH2.out,HK.out⟩
def dg (hb B:Nat)(A:Option Addr)(cap:Nat)(l:List Int)(N:Nat)(lo hi:Int)(w:World)(h:Hand w hb B A cap l N)(hN:N<=1048576)(h1:0<=lo/\lo<=1048576)(h2:lo<=hi/\hi<=1048576) :
  Calls ve 13 #[.pointer (some ⟨hb,0,none⟩),.int .i64 lo,.int .i64 hi] w λe w'=>(∃k:Nat,e=.returned (.int .i64 k)/\lo<=k/\(k:Int)<=hi)/\Hand w' hb B A cap l (N+1)/\KH hb w w':=by
 have HP:=uq (dE hb B A cap l N (hi-lo) w h hN (by omega))
 clear h
 go_enter Sq.func13,Tryz.ntmps13
 go_wp2_with fail
 refine HP.out.mono ?_
 rintro e w' ⟨⟨k,rfl,hk⟩,hh,hkt⟩
 have HH2:=uq hh
 have HK:=uq hkt
 clear hh hkt HP
 go_wp2
 go_ret
 obtain⟨q,hq⟩:∃q:Nat,lo+k=q:=⟨(lo+k).toNat,by omega⟩
 exact⟨⟨q,by show Ending.returned (Value.int .i64 (lo+k))=_;rw[hq],by omega,by omega⟩,HH2.out,HK.out⟩
def iq (hb B:Nat)(A A2:Option Addr)(cap c2:Nat)(l m:List Int)(N:Nat)(x:Int)(w:World)(h:Hand w hb B A cap l N)(hN:N<=1048576)(hm:m.length<=1048576)(hri:RIK w (λb=>b≠hb/\b<w.heap.size) A2 m) :
  Calls ve 16 #[.pointer (some ⟨hb,0,none⟩),.int .i64 x,.slice A2 m.length c2] w λe w'=>(∃k:Int,e=.returned (.int .i64 k)/\k∈x::m)/\Hand w' hb B A cap l (N+1)/\KH hb w w':=by
 have HP:=uq (dE hb B A cap l N m.length w h hN (by omega))
 have HR:=uq hri
 clear h hri
 go_enter Sq.func16,Tryz.ntmps16
 go_wp2_with fail
 refine HP.out.mono ?_
 rintro e w' ⟨⟨k,rfl,hk⟩,hh,hkt⟩
 have HH2:=uq hh
 have HK:=uq hkt
 by_cases hk0:k=0
 ·subst hk0
  clear hh hkt HP
  go_wp2
  go_ret
  exact⟨⟨x,rfl,List.mem_cons_self⟩,HH2.out,HK.out⟩
 ·have hkm:k-1<m.length:=by omega
  obtain⟨b,o,rfl,hb2,hcl⟩:=HR.out (λe=>by rw[e] at hkm;simp at hkm)
  have hc:=hcl (k-1) _ (List.getElem?_eq_getElem hkm)
  have hc2:w'.cell? ⟨b,o+(k-1),none⟩=some (.int .i64 m[k-1]):=(World.cell?_of_block (hkt.block b hb2.2 hb2.1)).trans hc
  have HMEM:Hid (m[k-1]∈x::m):=uq (List.mem_cons_of_mem _ (List.getElem_mem hkm))
  generalize m[k-1]=y at hc2 HMEM
  have e1:((k:Int)-1)=((k-1:Nat):Int):=by omega
  obtain⟨q,hq⟩:∃q,q=k-1:=⟨_,rfl⟩
  rw[<-hq] at hc2 e1 hkm
  obtain rfl:k=q+1:=by omega
  clear hh hkt HP hcl hc hk0 hq e1
  have e2:((q+1:Nat):Int)-1=(q:Int):=by omega
  go_wp2
  go_ret
  exact⟨⟨y,rfl,HMEM.out⟩,HH2.out,HK.out⟩
def pH (hb B:Nat)(A:Option Addr)(cap:Nat)(l:List Int)(N:Nat)(a b:Int)(w:World)(h:Hand w hb B A cap l N)(hN:N<=1048576)(hb1:0<=b/\b<=1048576) :
  Calls ve 17 #[.pointer (some ⟨hb,0,none⟩),.int .i64 a,.int .i64 b] w λe w'=>(∃v:Bool,e=.returned (.bool v))/\Hand w' hb B A cap l (N+1)/\KH hb w w':=by
 have HP:=uq (dE hb B A cap l N (b-1) w h hN (by omega))
 clear h
 go_enter Sq.func17,Tryz.ntmps17
 go_wp2_with fail
 refine HP.out.mono ?_
 rintro e w' ⟨⟨k,rfl,hk⟩,hh,hkt⟩
 have HH2:=uq hh
 have HK:=uq hkt
 clear hh hkt HP
 go_wp2
 go_ret
 exact⟨⟨_,rfl⟩,HH2.out,HK.out⟩
def pI (A:Option Addr)(cap:Nat)(l:List Int)(w:World)(h:RI w w.heap.size A l) :
  Calls ve 4 #[.slice A l.length cap] w λe w'=>e=.returned (.pointer (some ⟨w.heap.size,0,none⟩))/\Hand w' w.heap.size w.heap.size A cap l 0/\Gr w w':=by
 have HR:=uq h
 clear h
 go_enter Sq.func4,Tryz.ntmps4
 go_wp2
 go_ret
 exact⟨rfl,⟨⟨0,88172645463325252,World.alloc_heap_new _ _,Nat.le_refl _⟩,HR.out.gr (Nat.le_refl _) ((Gr.refl w).alloc _),Nat.le_refl _⟩,(Gr.refl w).alloc _⟩
end Go.Proofs.YtgphobammhoniaaGreat
namespace Go.Sq
open Go.RowKit
def chosen (p:Nat->Bool)(k:Nat):List Int:=((List.range k).filter p).map λn:Nat=>(n:Int)
def el {p q:Nat->Bool}{k:Nat}(h:∀i,i<k->p i=q i):chosen p k=chosen q k:=by
 unfold chosen
 congr 1
 exact List.filter_congr λi hi=>h i (List.mem_range.1 hi)
def cy (p:Nat->Bool)(k:Nat):chosen p (k+1)=chosen p k++if p k=true then[(k:Int)] else[]:=by
 unfold chosen
 rw[List.range_succ,List.filter_append,List.map_append]
 cases h:p k<;>simp[h]
def chosen_mem {p:Nat->Bool}{k:Nat}{x:Int}:x∈chosen p k↔∃n:Nat,x=n/\n<k/\p n=true:=by
 unfold chosen
 simp only[List.mem_map,List.mem_filter,List.mem_range]
 constructor
 ·rintro⟨n,⟨h1,h2⟩,rfl⟩;exact⟨n,rfl,h1,h2⟩
 ·rintro⟨n,rfl,h1,h2⟩;exact⟨n,⟨h1,h2⟩,rfl⟩
def dN (p:Nat->Bool)(k:Nat):(chosen p k).length<=k:=by
 unfold chosen
 rw[List.length_map]
 exact Nat.le_trans (List.length_filter_le _ _) (by simp)
def nJ (p:Nat->Bool)(k:Nat):(chosen p k).Pairwise (·<·):=by
 unfold chosen
 rw[List.pairwise_map]
 exact(List.Pairwise.filter _ List.pairwise_lt_range).imp λh=>by omega
def jG (p:Nat->Bool)(k:Nat):ascE (chosen p k) k=0:=by
 rw[jA]
 intro i hi
 have h1:=chosen_mem.1 (mem_get (chosen p k) i hi)
 obtain⟨n,e,hn,_⟩:=h1
 unfold ascAt
 rw[if_pos (by rw[e];omega),if_neg]
 rintro⟨h0,hle⟩
 have:=List.pairwise_iff_getElem.1 (nJ p k) (i-1) i (by omega) hi (by omega)
 rw[List.getElem?_eq_getElem hi,List.getElem?_eq_getElem (by omega)] at hle
 simp only[Option.getD_some] at hle
 omega
def grown_old {w2 w3:World}{base size n:Nat}{e:TypeId}{v:Value}{xs:List Value}{o:Obj}(hown:w2.ownsRow base e size v n xs)(hg:(w2.alloc o).grownBy w3 v.ownBlock)(b:Nat)(hb:b<base)(hl:b<w2.heap.size):w3.heap[b]?=w2.heap[b]?:=by
 rw[hg.block b (by simp;omega) (dz hown hb),heap_alloc_old _ _ hl]
def dO {w2 w3:World}{v:Value}{o:Obj}(hg:(w2.alloc o).grownBy w3 v.ownBlock):w2.heap.size+1<=w3.heap.size:=by have:=hg.size;simpa using this
def dh {w0 w2 w3:World}{hb base size n:Nat}{e:TypeId}{v:Value}{xs:List Value}{o:Obj}(hK:KT (·=hb) w0 w2)(hown:w2.ownsRow base e size v n xs)(hbase:w0.heap.size<=base)(hg:(w2.alloc o).grownBy w3 v.ownBlock)(hd:(w2.alloc o).drawn<=w3.drawn):KT (·=hb) w0 w3 :=
 ⟨hg.os.trans hK.os,hg.tape.trans hK.tape,hg.output.trans hK.output,Nat.le_trans hK.drawn hd,by have:=dO hg;have:=hK.size;omega,λb hb' hne=>(grown_old hown hg b (by omega) (by have:=hK.size;omega)).trans (hK.block b hb' hne)⟩
def cv {w2 w3:World}{hb B cap N base size n:Nat}{A:Option Addr}{l:List Int}{e:TypeId}{v:Value}{xs:List Value}{o:Obj}(h:Hand w2 hb B A cap l N)(hown:w2.ownsRow base e size v n xs)(hbase:hb<base)(hg:(w2.alloc o).grownBy w3 v.ownBlock):Hand w3 hb B A cap l N:=by
 have hl:=h.lt
 obtain⟨m,s,ho,hm⟩:=h.obj
 exact⟨⟨m,s,(grown_old hown hg hb hbase hl).trans ho,hm⟩,h.nums.keep λb o hb'=>World.cell?_of_block (grown_old hown hg b (by have:=h.apart;omega) (by have:=h.apart;omega)),h.apart⟩
def cY {w w':World}{base size n hb:Nat}{v:Value}{e:TypeId}{xs:List Value}(h:w.ownsRow base e size v n xs)(hb':hb<base)(k:KT (·=hb) w w'):w'.ownsRow base e size v n xs :=
 aE h λg hg hl=>k.block g hl λe=>by have:=(h.lt g hg).1;omega
end Go.Sq
namespace Go.Proofs.YtgphobammhoniaaGreat
open Go.RowKit Go.Sq
def tI (hb B:Nat)(A:Option Addr)(cap:Nat)(l:List Int)(N n:Nat)(w:World)(h:Hand w hb B A cap l N)(hN:N<=1000000)(hn:n<=64) :
  Calls ve 18 #[.pointer (some ⟨hb,0,none⟩),.int .i64 n] w λe w'=>∃v p,e=.returned v/\w'.ownsRow w.heap.size 3 1 v (chosen p n).length ((chosen p n).map (Value.int .i64))/\Hand w' hb B A cap l (N+n)/\KH hb w w':=by
 have HH:=uq h
 have hlt:=h.lt
 clear h
 go_enter Sq.func18,Tryz.ntmps18
 go_wp2
 go_loopw [5,6] (λv i wr=>∃k:Nat,k<=n/\i=.int .i64 k/\∃p,wr.ownsRow w.heap.size 3 1 v (chosen p k).length ((chosen p k).map (Value.int .i64))/\Hand wr hb B A cap l (N+k)/\KH hb w wr) (λ_ i _=>n-(intOf i).toNat)
 case atStart=>exact⟨0,by omega,rfl,λ_=>false,World.ownsRow_nil _ _ _ _,HH.out,KT.refl _ _⟩
 case round =>
  obtain⟨k,hk,rfl,p,hown,hh,hkt⟩:=hrel
  have hz:=hkt.size
  have HK:=uq hkt
  have HO:=uq hown
  clear hown hkt
  by_cases hlk:k<n
  ·have HC:=uq (pH hb B A cap l (N+k) 1 2 wr hh (by omega) (by omega))
   clear hh
   go_wp2_with fail
   refine HC.out.mono ?_
   rintro e w2 ⟨⟨v,rfl⟩,hh,hkt⟩
   have HK2:=uq (HK.out.trans hkt)
   have hown2:=cY HO.out hlt hkt
   have HH2:=uq hh
   have hz2:=hkt.size
   have HO2:=uq hown2
   have HP:=uq (cy (λj=>if j=k then v else p j) k)
   have HP0:=uq (el (p:=λj=>if j=k then v else p j) (q:=p) (k:=k) λi hi=>if_neg (by omega))
   have hcl:=dN p k
   clear hkt hh HC
   cases v with
   |true =>
    go_wp2_with (at_builtin;refine gE rfl _ _ rfl w.heap.size _ _ _ rfl (hown2.alloc _) ⟨w2.heap.size,0,none⟩ 1 (.int .i64 k) rfl ?c1 rfl ?c2 ?c3 ?_)
    case c1=>rw[World.cell?_alloc_at _ _ _ _ (by simp)];rfl
    case c2=>omega
    case c3=>simp;omega
    intro v' w3 hown' hgrow hd
    have HK3:=uq (dh HK2.out hown2 (Nat.le_refl _) hgrow hd)
    have HO3:Hid (w3.ownsRow w.heap.size 3 1 v' (chosen (λj=>if j=k then true else p j) (k+1)).length ((chosen (λj=>if j=k then true else p j) (k+1)).map (Value.int .i64))):=uq (by
     rw[HP.out,HP0.out,if_pos (by simp)];simpa using hown')
    have HH3:=uq ((cv HH2.out hown2 hlt hgrow).more (M:=N+(k+1)) (by omega))
    clear hown' hgrow hd hown2
    go_wp2
    go_roundw
    case rel=>exact⟨k+1,by omega,by go_num,_,HO3.out,HH3.out,HK3.out⟩
    case measure=>simp[intOf];omega
   |false =>
    have HO3:Hid (w2.ownsRow w.heap.size 3 1 _ (chosen (λj=>if j=k then false else p j) (k+1)).length ((chosen (λj=>if j=k then false else p j) (k+1)).map (Value.int .i64))):=uq (by
     rw[HP.out,HP0.out,if_neg (by simp)];simpa using HO2.out)
    clear hown2
    go_wp2
    go_roundw
    case rel=>exact⟨k+1,by omega,by go_num,_,HO3.out,HH2.out,HK2.out⟩
    case measure=>simp[intOf];omega
  ·have hkn:k=n:=by omega
   subst hkn
   have HH2:=uq hh
   clear hh
   go_wp2
   go_ret
   exact⟨_,p,rfl,HO.out,HH2.out,HK.out⟩
open Go.RowKit Go.Sq
def nK (hb B:Nat)(A nA hA:Option Addr)(cap nc hc:Nat)(l:List Int)(N n m:Nat)(w:World)(h:Hand w hb B A cap l N)(hN:N<=100000)(hn:n<=64)(hm:m<=64) :
  Calls ve 6 #[.pointer (some ⟨hb,0,none⟩),.agg #[.slice nA n nc,.slice hA m hc]] w λe w'=>∃v ls xs,e=.returned v/\OwnGrid w' (w.heap.size+1) v ls xs/\ls.length=n/\(∀x∈ls,∃p,x=chosen p m)/\Hand w' hb B A cap l (N+n*m)/\KH hb w w':=by
 obtain⟨W0,hW0⟩:∃W0:World,W0=w.alloc (.cells #[.slice nA n nc,.slice hA m hc] 27):=⟨_,rfl⟩
 have hg0:Gr w W0:=hW0▸(Gr.refl w).alloc _
 have HZ0:Hid (W0.heap.size=w.heap.size+1):=uq (by rw[hW0];simp)
 have HH:=uq (h.gr hg0)
 have hlt:=h.lt
 have HW:=uq hW0
 have HG0:=uq hg0
 have HC:Hid (W0.cell? ⟨w.heap.size,0,none⟩=some (.slice nA n nc)/\W0.cell? ⟨w.heap.size,1,none⟩=some (.slice hA m hc)):=uq (by
  rw[hW0,World.cell?_alloc_at _ _ _ _ rfl,World.cell?_alloc_at _ _ _ _ rfl];exact⟨rfl,rfl⟩)
 have HK0:Hid (∀W,KT (·=hb) W0 W->KT (·=hb) w W):=uq λW hk=>⟨hk.os.trans hg0.below.os,hk.tape.trans hg0.below.tape,hk.output.trans hg0.below.output,Nat.le_trans hg0.drawn hk.drawn,Nat.le_trans hg0.size hk.size,λb hb' hne=>(hk.block b (Nat.lt_of_lt_of_le hb' hg0.size) hne).trans (hg0.below.block b hb')⟩
 clear hW0 hg0 h
 go_enter Sq.func6,Tryz.ntmps6
 go_wp2
 rw[<-HW.out]
 go_loopw [5,6] (λv i wr=>∃k:Nat,k<=n/\i=.int .i64 k/\∃ls xs,OwnGrid wr (w.heap.size+1) v ls xs/\ls.length=k/\(∀x∈ls,∃p,x=chosen p m)/\Hand wr hb B A cap l (N+k*m)/\KH hb W0 wr) (λ_ i _=>n-(intOf i).toNat)
 case atStart=>exact⟨0,by omega,rfl,[],[],OwnGrid.nil _ _,rfl,λx hx=>by simp at hx,HH.out.more (by omega),KT.refl _ _⟩
 case round =>
  obtain⟨k,hk,rfl,ls,xs,hog,hll,hall,hh,hkt⟩:=hrel
  have hne:w.heap.size≠hb:=by omega
  have hW0s:=HZ0.out
  have hc0:wr.cell? ⟨w.heap.size,0,none⟩=some (.slice nA n nc):=(World.cell?_of_block (hkt.block w.heap.size (by omega) hne)).trans HC.out.1
  have hc1:wr.cell? ⟨w.heap.size,1,none⟩=some (.slice hA m hc):=(World.cell?_of_block (hkt.block w.heap.size (by omega) hne)).trans HC.out.2
  have hz:w.heap.size<wr.heap.size:=by have:=hkt.size;omega
  have HK:=uq hkt
  have HO:=uq hog
  have HALL:=uq hall
  clear hkt hog hall hW0s
  by_cases hlk:k<n
  ·have HCALL:=uq (tI hb B A cap l (N+k*m) m wr hh (by have:k*m<=64*64:=Nat.mul_le_mul (by omega) hm;omega) hm)
   have HHR:=uq hh
   clear hh
   go_wp2_with fail
   refine HCALL.out.mono ?_
   rintro e w2 ⟨v2,p,rfl,hown,hh,hkt⟩
   obtain⟨A2,c2,rfl,_⟩:=uv hown
   have HK2:=uq (HK.out.trans hkt)
   have HO2:=uq (HO.out.keep' (w':=w2) λb hb1 hb2=>hkt.block b hb2 (by omega))
   have HOW:=uq (own_base hown (show w.heap.size+1<=wr.heap.size by omega))
   have HH2:=uq hh
   have hz2:=hkt.size
   have hrow:=HO2.out.row
   clear hkt hh hown HCALL
   rw[hll] at hrow
   have HROW:=uq hrow
   go_wp2_with (at_builtin;refine nC rfl _ _ rfl (w.heap.size+1) _ _ _ rfl (hrow.alloc _) ⟨w2.heap.size,0,none⟩ 1 (.slice A2 (chosen p m).length c2) rfl ?c1 rfl ?c2 ?c3 ?_)
   case c1=>rw[Addr.add_lit,World.cell?_alloc_at _ _ _ _ (by simp)];rfl
   case c2=>omega
   case c3=>simp;omega
   intro v' w3 hown' hgrow hd
   have HK3:=uq (dh HK2.out HROW.out (by rw[HZ0.out];exact Nat.le_refl _) hgrow hd)
   have HH3:=uq ((cv HH2.out HROW.out (by omega) hgrow).more (M:=N+(k+1)*m) (by rw[Nat.succ_mul];omega))
   have HO3:=uq (HO2.out.push (l:=chosen p m) HOW.out (λb hb'=>heap_alloc_old _ _ hb') (by simp) hgrow hll.symm hown')
   have HALL3:Hid (∀x∈ls++[chosen p m],∃p,x=chosen p m):=uq λx hx=>by
    rcases List.mem_append.1 hx with hx|hx
    ·exact HALL.out x hx
    ·simp at hx;exact⟨p,hx⟩
   clear hown' hgrow hd hrow
   go_wp2
   go_roundw
   case rel=>exact⟨k+1,by omega,by go_num,_,_,HO3.out,by simp[hll],HALL3.out,HH3.out,HK3.out⟩
   case measure=>simp[intOf];omega
  ·have hkn:k=n:=by omega
   subst hkn
   have HH2:=uq hh
   clear hh
   go_wp2
   go_ret
   exact⟨_,ls,xs,rfl,HO.out,hll,HALL.out,HH2.out,HK0.out _ HK.out⟩
end Go.Proofs.YtgphobammhoniaaGreat
namespace Go.Sq
open Go.RowKit
end Go.Sq
namespace Go.Proofs.YtgphobammhoniaaGreat
open Go.RowKit Go.Sq
end Go.Proofs.YtgphobammhoniaaGreat
namespace Go.Sq
open Go.RowKit
end Go.Sq
namespace Go.Proofs.YtgphobammhoniaaGreat
open Go.RowKit Go.Sq
def fi (A:Option Addr)(c:Nat)(l:List Int)(w:World)(B:Nat)(h:RI w B A l)(hl:l.length<=1048576)(hx:∀x∈l,0<=x/\x<=1048576) :
  Calls ve 10 #[.slice A l.length c] w λe w'=>e=.returned (.int .i64 l.sum)/\w=w':=by
 have HR:=uq h
 have HX:=uq hx
 clear h hx
 go_enter Sq.func10,Tryz.ntmps10
 go_wp2
 go_loop [3,4] (λs i=>∃k:Nat,k<=l.length/\i=.int .i64 k/\s=.int .i64 (l.take k).sum) (λ_ i=>l.length-(intOf i).toNat)
 case atStart=>exact⟨0,by omega,rfl,by simp⟩
 case round =>
  obtain⟨k,hk,rfl,rfl⟩:=hrel
  by_cases hlt:k<l.length
  ·obtain⟨b,o,rfl,hb,hc⟩:=HR.out.at_ hlt
   have HS:=uq (gX l k hlt)
   have hy:=HX.out _ (mem_get l k hlt)
   obtain⟨hs1,hs2⟩:=sum_bound 0 1048576 (l.take k) λy hy=>HX.out y (List.mem_of_mem_take hy)
   have hs3:((l.take k).length:Int)*1048576<=1048576*1048576:=by
    have:(l.take k).length<=1048576:=by rw[List.length_take];omega
    omega
   have hs4:0<=(l.take k).sum:=by omega
   have hs5:(l.take k).sum<=1099511627776:=by omega
   clear hs1 hs2 hs3
   generalize l[k]?.getD 0=y at hc HS hy
   obtain⟨hy1,hy2⟩:=hy
   go_wp2
   go_round
   case rel=>exact⟨k+1,by omega,by go_num,by rw[HS.out]⟩
   case measure=>simp[intOf];omega
  ·have:k=l.length:=by omega
   have HS:=uq (show(l.take k).sum=l.sum by rw[List.take_of_length_le (by omega)])
   clear this
   go_wp2
   go_ret
   exact⟨av HS.out,rfl⟩
end Go.Proofs.YtgphobammhoniaaGreat
namespace Go.Sq
open Go.RowKit
def nL (l:List Int)(h:∀x∈l,0<=x)(x i:Nat):(l.foldl (λx h=>x ||| 2 ^ h.toNat) x).testBit i=(x.testBit i||decide ((i:Int)∈l)):=by
 induction l generalizing x with
 |nil=>simp
 |cons a l ih =>
  rw[List.foldl_cons,ih (λy hy=>h y (by simp[hy])),Nat.testBit_or,Nat.testBit_two_pow,Bool.or_assoc]
  congr 1
  have h0:=h a (by simp)
  by_cases e:a.toNat=i
  ·have:(i:Int)=a:=by omega
   simp[e,this]
  ·have:¬(i:Int)=a:=by omega
   simp[e,this]
def sH {l:List Int}(h:∀x∈l,0<=x)(i:Nat):(ofL l).testBit i=decide ((i:Int)∈l):=by
 unfold ofL
 rw[nL l h];simp
def jH {c:Camp}{ls:List (List Int)}(hc:checkE c=0)(hn:ls.length=c.needs.length)(hl:∀x∈ls,∃p,x=chosen p c.herders.length):formedE c ls=0:=by
 have hm:manyE ls.length c.needs.length c.needs.length=0:=cr.2 (by omega)
 unfold formedE
 rw[if_neg (by simp[hc]),if_neg (by simp[hm])]
 refine dj λx hx=>?_
 obtain⟨l,h1,rfl⟩:=List.mem_map.1 hx
 obtain⟨p,rfl⟩:=hl l h1
 exact jG _ _
def sumTo (f:Nat->Int):Nat->Int
 |0=>0
 |k+1=>sumTo f k+f k
open Go.RowKit
structure CO (w0:World)(hb B:Nat)(A:Option Addr)(cap:Nat)(l:List Int)(M base:Nat)(v:Value)(ns:List Int)(W:World):Prop where
 hand:Hand W hb B A cap l M
 qobj:W.heap[w0.heap.size+1]?=some (.cells #[v,.slice none 0 0] 27 (0,0))
 robj:W.heap[w0.heap.size]?=some (.cells #[.slice none 0 0,.slice none 0 0] 27 (0,0))
 own:W.ownsRow base 3 1 v ns.length (ns.map (Value.int .i64))
 kt:KT (·=hb) w0 W
 lt:hb<w0.heap.size
 bs:w0.heap.size+2<=base/\base<=W.heap.size
section
variable {w0 W W':World} {hb B:Nat} {A:Option Addr} {cap:Nat} {l:List Int} {M base:Nat} {v:Value} {ns:List Int}
def CO.drew (h:CO w0 hb B A cap l M base v ns W):CO w0 hb B A cap l M base v ns W.drew :=
 ⟨h.hand.gr (Gr.refl W).drew,h.qobj,h.robj,aE h.own λ_ _ _=>rfl,⟨h.kt.os,h.kt.tape,h.kt.output,Nat.le_succ_of_le h.kt.drawn,h.kt.size,h.kt.block⟩,h.lt,h.bs⟩
def CO.alloc (h:CO w0 hb B A cap l M base v ns W)(o:Obj):CO w0 hb B A cap l M base v ns (W.alloc o) :=
 ⟨h.hand.gr ((Gr.refl W).alloc o),(heap_alloc_old _ _ (Array.getElem?_eq_some_iff.1 h.qobj).1).trans h.qobj,(heap_alloc_old _ _ (Array.getElem?_eq_some_iff.1 h.robj).1).trans h.robj,h.own.alloc o,h.kt.trans (uu ((Gr.refl W).alloc o)),h.lt,by have:=h.bs;simp;omega⟩
def CO.deal (h:CO w0 hb B A cap l M base v ns W){M':Nat}(hh:Hand W' hb B A cap l M')(k:KT (·=hb) W W'):CO w0 hb B A cap l M' base v ns W' :=
 ⟨hh,(k.block _ (Array.getElem?_eq_some_iff.1 h.qobj).1 (by have:=h.lt;omega)).trans h.qobj,(k.block _ (Array.getElem?_eq_some_iff.1 h.robj).1 (by have:=h.lt;omega)).trans h.robj,cY h.own (by have:=h.lt;have:=h.bs;omega) k,h.kt.trans k,h.lt,by have:=h.bs;have:=k.size;omega⟩
def Hand.set {W:World}{hb B cap N:Nat}{A:Option Addr}{l:List Int}(h:Hand W hb B A cap l N){p:Addr}(hp:hb<p.block)(x:Value):Hand (W.setCell p x) hb B A cap l N:=by
 obtain⟨n,s,h1,h2⟩:=h.obj
 have hB:=h.apart
 exact⟨⟨n,s,(Below.heap_setCell _ _ _ _ (by omega)).trans h1,h2⟩,h.nums.keep λb o hb'=>World.cell?_of_block (Below.heap_setCell _ _ _ _ (by show b≠p.block;omega)),hB⟩
def KT.set {w0 W:World}{hb:Nat}(h:KT (·=hb) w0 W){p:Addr}(hp:w0.heap.size<=p.block)(x:Value):KT (·=hb) w0 (W.setCell p x) :=
 ⟨h.os,h.tape,h.output,h.drawn,by have:=h.size;simpa [World.setCell] using this,λb hb' hne=>(Below.heap_setCell _ _ _ _ (by omega)).trans (h.block b hb' hne)⟩
def CO.more (h:CO w0 hb B A cap l M base v ns W){M':Nat}(hm:M<=M'):CO w0 hb B A cap l M' base v ns W:=⟨h.hand.more hm,h.qobj,h.robj,h.own,h.kt,h.lt,h.bs⟩
def CO.push (h:CO w0 hb B A cap l M base v ns W){w6:World}{o:Obj}{v':Value}{z:Int}(hown:w6.ownsRow base 3 1 v' (ns++[z]).length ((ns++[z]).map (Value.int .i64)))(hg:(W.alloc o).grownBy w6 v.ownBlock)(hd:(W.alloc o).drawn<=w6.drawn) :
  CO w0 hb B A cap l M base v' (ns++[z]) (w6.setCell ⟨w0.heap.size+1,0,none⟩ v'):=by
 have hlt:=h.lt
 have hbs:=h.bs
 have hq:=(grown_old h.own hg (w0.heap.size+1) (by omega) (Array.getElem?_eq_some_iff.1 h.qobj).1).trans h.qobj
 have hr:=(grown_old h.own hg w0.heap.size (by omega) (Array.getElem?_eq_some_iff.1 h.robj).1).trans h.robj
 refine⟨(cv h.hand h.own (by omega) hg).set (by show hb<w0.heap.size+1;omega) _,?_,(Below.heap_setCell _ _ _ _ (by simp)).trans hr,ownsRow_setCell_below hown (by show w0.heap.size+1<base;omega) _,(dh h.kt h.own (by omega) hg hd).set (by show _<=w0.heap.size+1;omega) _,hlt,hbs.1,by have:=dO hg;simp[World.setCell];omega⟩
 exact aM hq
def uj {W:World}{K:Nat->Prop}{a b:Int}(hK:K W.heap.size):RIK (W.alloc (.cells #[.int .i64 a,.int .i64 b] 3)) K (some ⟨W.heap.size,0,none⟩) [a,b]:=λ_=>⟨_,0,rfl,hK,λi x hx=>by
 rw[World.cell?_alloc_at _ _ _ _ rfl]
 match i,hx with
 |0,hx=>cases hx;rfl
 |1,hx=>cases hx;rfl⟩
def tJ {W:World}{K:Nat->Prop}{a:Int}(hK:K W.heap.size):RIK (W.alloc (.cells #[.int .i64 a] 3)) K (some ⟨W.heap.size,0,none⟩) [a]:=λ_=>⟨_,0,rfl,hK,λi x hx=>by
 rw[World.cell?_alloc_at _ _ _ _ rfl]
 match i,hx with
 |0,hx=>cases hx;rfl⟩
def CO.room (h:CO w0 hb B A cap l M base v ns W)(o:Obj):W.heap.size≠hb/\W.heap.size<(W.alloc o).heap.size:=by
 have:=h.hand.lt
 simp;omega
def CO.cell (h:CO w0 hb B A cap l M base v ns W):W.cell? ⟨w0.heap.size+1,0,none⟩=some v/\W.frozen? ⟨w0.heap.size+1,0,none⟩=false/\w0.heap.size+1<W.heap.size:=⟨(cell_of_heap h.qobj 0).1,(cell_of_heap h.qobj 0).2,(Array.getElem?_eq_some_iff.1 h.qobj).1⟩
def bI {W W':World}{K K':Nat->Prop}{A:Option Addr}{q:List Int}(h:RIK W K A q)(hk:∀b,K b->K' b)(hc:∀b o,K b->W'.cell? ⟨b,o,none⟩=W.cell? ⟨b,o,none⟩):RIK W' K' A q:=λhn=>by
 obtain⟨b,o,e,h1,h2⟩:=h hn
 exact⟨b,o,e,hk b h1,λi x hx=>(hc _ _ h1).trans (h2 i x hx)⟩
def ir {W W':World}{K K':Nat->Prop}{A:Option Addr}{q:List Herder}(h:HsAtK W K A q)(hk:∀b,K b->K' b)(hc:∀b o,K b->W'.cell? ⟨b,o,none⟩=W.cell? ⟨b,o,none⟩):HsAtK W' K' A q:=λhn=>by
 obtain⟨b,o,e,h1,h2⟩:=h hn
 refine⟨b,o,e,hk b h1,λi x hx=>?_⟩
 obtain⟨k0,k1,k2,A',c,k3,k4⟩:=h2 i x hx
 exact⟨(hc _ _ h1).trans k0,(hc _ _ h1).trans k1,(hc _ _ h1).trans k2,A',c,(hc _ _ h1).trans k3,bI k4 hk hc⟩
def gH (h:Herder)(y:Value):List Value:=[.int .i64 h.heads,.int .i64 h.dogs,.int .i64 h.most,y]
structure CP (w0:World)(hb B:Nat)(A:Option Addr)(cap:Nat)(l:List Int)(M base:Nat)(v:Value)(ns:List Int)(u:Value)(hs:List Herder)(xs:List Value)(W:World):Prop where
 hand:Hand W hb B A cap l M
 qobj:W.heap[w0.heap.size+1]?=some (.cells #[v,u] 27 (0,0))
 robj:W.heap[w0.heap.size]?=some (.cells #[.slice none 0 0,.slice none 0 0] 27 (0,0))
 own:W.ownsRow base 3 1 v ns.length (ns.map (Value.int .i64))
 herds:W.ownsRow base 38 4 u hs.length xs
 offs:∀i h,hs[i]?=some h->∃y,(∀j,j<4->xs[i*4+j]?=(gH h y)[j]?)/\W.ownsRow base 3 1 y h.off.length (h.off.map (Value.int .i64))
 kt:KT (·=hb) w0 W
 lt:hb<w0.heap.size
 bs:w0.heap.size+2<=base/\base<=W.heap.size
variable {u:Value} {hs:List Herder} {xs:List Value}
def CO.cp (h:CO w0 hb B A cap l M base v ns W):CP w0 hb B A cap l M base v ns (.slice none 0 0) [] [] W :=
 ⟨h.hand,h.qobj,h.robj,h.own,World.ownsRow_nil _ _ _ _,λi h hi=>by simp at hi,h.kt,h.lt,h.bs⟩
def CP.keep (h:CP w0 hb B A cap l M base v ns u hs xs W){M':Nat}(hh:Hand W' hb B A cap l M')(hk:∀b,b<W.heap.size->b≠hb->W'.heap[b]?=W.heap[b]?)(kt:KT (·=hb) w0 W')(hz:W.heap.size<=W'.heap.size):CP w0 hb B A cap l M' base v ns u hs xs W':=by
 have hlt:=h.lt
 have hbs:=h.bs
 have ok:∀ {e:TypeId} {sz n:Nat} {y:Value} {zs:List Value},W.ownsRow base e sz y n zs->W'.ownsRow base e sz y n zs:=λho=>aE ho λg hg hl=>hk g hl (by have:=(ho.lt g hg).1;omega)
 refine⟨hh,(hk _ (Array.getElem?_eq_some_iff.1 h.qobj).1 (by omega)).trans h.qobj,(hk _ (Array.getElem?_eq_some_iff.1 h.robj).1 (by omega)).trans h.robj,ok h.own,ok h.herds,λi x hi=>?_,kt,hlt,by omega⟩
 obtain⟨y,h1,h2⟩:=h.offs i x hi
 exact⟨y,h1,ok h2⟩
def CP.deal (h:CP w0 hb B A cap l M base v ns u hs xs W){M':Nat}(hh:Hand W' hb B A cap l M')(k:KT (·=hb) W W'):CP w0 hb B A cap l M' base v ns u hs xs W' :=
 h.keep hh (λb hb' hne=>k.block b hb' hne) (h.kt.trans k) k.size
def CP.alloc (h:CP w0 hb B A cap l M base v ns u hs xs W)(o:Obj):CP w0 hb B A cap l M base v ns u hs xs (W.alloc o) :=
 h.keep (h.hand.gr ((Gr.refl W).alloc o)) (λb hb' _=>heap_alloc_old _ _ hb') (h.kt.trans (uu ((Gr.refl W).alloc o))) (by simp)
def CP.more (h:CP w0 hb B A cap l M base v ns u hs xs W){M':Nat}(hm:M<=M'):CP w0 hb B A cap l M' base v ns u hs xs W:=⟨h.hand.more hm,h.qobj,h.robj,h.own,h.herds,h.offs,h.kt,h.lt,h.bs⟩
def CP.cell (h:CP w0 hb B A cap l M base v ns u hs xs W):W.cell? ⟨w0.heap.size+1,1,none⟩=some u/\W.frozen? ⟨w0.heap.size+1,1,none⟩=false/\w0.heap.size+1<W.heap.size:=⟨(cell_of_heap h.qobj 1).1,(cell_of_heap h.qobj 1).2,(Array.getElem?_eq_some_iff.1 h.qobj).1⟩
def CP.push (h:CP w0 hb B A cap l M base v ns u hs xs W){w6:World}{o:Obj}{u' y:Value}{x:Herder}(hy:W.ownsRow base 3 1 y x.off.length (x.off.map (Value.int .i64)))(hown:w6.ownsRow base 38 4 u' (hs.length+1) (xs++gH x y))(hg:(W.alloc o).grownBy w6 u.ownBlock)(hd:(W.alloc o).drawn<=w6.drawn) :
  CP w0 hb B A cap l M base v ns u' (hs++[x]) (xs++gH x y) (w6.setCell ⟨w0.heap.size+1,1,none⟩ u'):=by
 have hlt:=h.lt
 have hbs:=h.bs
 have hxl:xs.length=hs.length*4:=h.herds.1
 have hq:=(grown_old h.herds hg (w0.heap.size+1) (by omega) (Array.getElem?_eq_some_iff.1 h.qobj).1).trans h.qobj
 have hr:=(grown_old h.herds hg w0.heap.size (by omega) (Array.getElem?_eq_some_iff.1 h.robj).1).trans h.robj
 have ok:∀ {n:Nat} {z:Value} {zs:List Value},W.ownsRow base 3 1 z n zs->(w6.setCell ⟨w0.heap.size+1,1,none⟩ u').ownsRow base 3 1 z n zs:=λho=>aE ho λg hg' hl =>
  (Below.heap_setCell _ _ _ _ (by have:=(ho.lt g hg').1;show g≠w0.heap.size+1;omega)).trans ((hg.block g (by simp;omega) (dx (by decide) ho h.herds hg')).trans (heap_alloc_old _ _ hl))
 refine⟨(cv h.hand h.herds (by omega) hg).set (by show hb<w0.heap.size+1;omega) _,?_,(Below.heap_setCell _ _ _ _ (by simp)).trans hr,ok h.own,?_,λi z hi=>?_,(dh h.kt h.herds (by omega) hg hd).set (by show _<=w0.heap.size+1;omega) _,hlt,hbs.1,by have:=dO hg;simp[World.setCell];omega⟩
 ·exact aM hq
 ·rw[List.length_append]
  exact ownsRow_setCell_below hown (by show w0.heap.size+1<base;omega) _
 ·rcases Nat.lt_or_ge i hs.length with hi'|hi'
  ·rw[List.getElem?_append_left hi'] at hi
   obtain⟨y',h1,h2⟩:=h.offs i z hi
   exact⟨y',λj hj=>by rw[List.getElem?_append_left (by omega)];exact h1 j hj,ok h2⟩
  ·have e : i = hs.length := by
    have:=(List.getElem?_eq_some_iff.1 hi).1
    simp at this;omega
   subst e
   rw[List.getElem?_append_right (Nat.le_refl _)] at hi
   simp at hi
   subst hi
   exact⟨y,λj hj=>by rw[List.getElem?_append_right (by omega),hxl];congr 1;omega,ok hy⟩
def CP.camp (h:CP w0 hb B A cap l M base v ns u hs xs W):∃nA nc hA hc,v=.slice nA ns.length nc/\u=.slice hA hs.length hc/\RIK W (λb=>base<=b/\b<W.heap.size) nA ns/\HsAtK W (λb=>base<=b/\b<W.heap.size) hA hs:=by
 obtain⟨nA,nc,e1,h1⟩:=RIK_of_own h.own
 rcases h.herds.2 with⟨rfl,h0⟩|⟨g,hc,cur,rfl,hgb,hgo,_⟩
 ·have:hs=[]:=List.eq_nil_of_length_eq_zero h0
  subst this
  exact⟨nA,nc,none,0,e1,rfl,h1,λhn=>absurd rfl hn⟩
 ·refine⟨nA,nc,some ⟨g,0,none⟩,hc,e1,rfl,h1,λ_=>⟨g,0,rfl,⟨hgb,(Array.getElem?_eq_some_iff.1 hgo).1⟩,λi x hi=>?_⟩⟩
  obtain⟨y,hj,ho⟩:=h.offs i x hi
  obtain⟨A',c',rfl,hr⟩:=RIK_of_own ho
  have hcell:=h.herds.cells (g:=g) rfl
  have at_:∀j z,j<4->(gH x (.slice A' x.off.length c'))[j]?=some z->W.cell? ⟨g,0+i*4+j,none⟩=some z:=λj z hj4 hz=>by
   have:=hcell (i*4+j) z ((hj j hj4).trans hz)
   have e:(⟨g,0,none⟩:Addr).add (i*4+j)=⟨g,0+(i*4+j),none⟩:=by unfold Addr.add;split<;>simp_all
   rw[e,<-Nat.add_assoc] at this
   exact this
  exact⟨at_ 0 _ (by omega) rfl,at_ 1 _ (by omega) rfl,at_ 2 _ (by omega) rfl,A',c',at_ 3 _ (by omega) rfl,hr⟩
end
end Go.Sq
namespace Go.Proofs.YtgphobammhoniaaGreat
open Go.RowKit Go.Sq
def jI {w:World}{ops:Array Oper}{o:Oper}{a:Act}{K:Act->World->Prop}{Q:Exit->Act->World->Prop}{E:Prop}(hgd:o.guard=none)(h:Oper.wp ve o a w K Q):if Region.wanted o (yielded ops a.tmps)=true then Oper.wp ve o a w K Q else E:=by
 have hw:Region.wanted o (yielded ops a.tmps)=true:=by simp[Region.wanted,hgd]
 rw[if_pos hw];exact h
def nM {w:World}{ops:Array Oper}{o:Oper}{a:Act}{K:Act->World->Prop}{Q:Exit->Act->World->Prop}{E:Prop}(hgd:o.guard=none)(s x:Operand)(ho:o.op=.call { callee:=.builtin .append,args:=#[s,x],argTypes:=#[22,22] })(hty:o.type=22)
  (base:Nat) (v:Value) (n:Nat) (xs:List Value) (hs:a.eval s=v) (hown:w.ownsRow base 3 1 v n xs) (y:Value) (h1:y.oneCell'=true) (hx:a.eval x=.slice (some ⟨w.heap.size,0,none⟩) 1 1) (hn:n<=1048576) (hbase:base<=w.heap.size)
  (h:∀v' w',w'.ownsRow base 3 1 v' (n+1) (xs++[y])->(w.alloc (.cells #[y] 3)).grownBy w' v.ownBlock->(w.alloc (.cells #[y] 3)).drawn<=w'.drawn->K (a.put o.dst v') w') :
  if Region.wanted o (yielded ops a.tmps)=true then Oper.wp ve o a (w.alloc (.cells #[y] 3)) K Q else E:=by
 have hw:Region.wanted o (yielded ops a.tmps)=true:=by simp[Region.wanted,hgd]
 rw[if_pos hw]
 obtain⟨i0,hi,hz0,hz1,hz2⟩:=info_parts uC
 obtain⟨v',w',hr,h2,h3,h4⟩:=run_append_own (P:=ve) (w.alloc (.cells #[y] 3)) base 22 22 3 i0 _ 1 8 ((Sq.underlying 22).trans Tryz.underlying22) hi hz0 hz1 hz2 rfl (by decide) v n xs (hown.alloc _) ⟨w.heap.size,0,none⟩ 1 1 [y] rfl (λj u hj=>by
  match j,hj with
  |0,hj=>cases hj;rw[Addr.add_lit,World.cell?_alloc_at _ _ _ _ (by simp)];rfl) (λu hu=>by simp at hu;subst hu;exact h1) (by unfold maxLen;omega) (by omega) (by simp;omega)
 have hd:=Go.Iso.drawn_mono ve (Builtin.append_ #[22,22] 22 #[v,.slice (some ⟨w.heap.size,0,none⟩) 1 1]) (w.alloc (.cells #[y] 3)) #[]
 rw[Sem.runT_fst,hr] at hd
 unfold Oper.wp execOp
 simp only[ho,resolve,invoke,builtin,Sem.run_bind,Sem.run_pure,Result.andThen_ok,List.map_toArray,List.map_cons,List.map_nil,hs,hx,hr,hty]
 exact h v' w' h2 h3 hd
def ub {w:World}{ops:Array Oper}{rest:List Oper}{o:Oper}{a:Act}{Q:Exit->Act->World->Prop}(hgd:o.guard=none)(s x:Operand)(ho:o.op=.call { callee:=.builtin .append,args:=#[s,x],argTypes:=#[25,25] })
  (base:Nat) (v:Value) (n:Nat) (xs:List Value) (hs:a.eval s=v) (hown:w.ownsRow base 38 4 v n xs) (ad:Addr) (c:Nat) (news:List Value) (hx:a.eval x=.slice (some ad) 1 c) (h4:news.length=4) (hc:∀(j:Nat) (u:Value),news[j]?=some u->w.cell? (ad.add j)=some u) (h1:∀u∈news,u.oneCell'=true)
  (hn:n<=1048576) (hbase:base<=w.heap.size) (h:∀v' w',w'.ownsRow base 38 4 v' (n+1) (xs++news)->w.grownBy w' v.ownBlock->w.drawn<=w'.drawn->wpList ve ops Q rest (a.put o.dst v') w'):wpList ve ops Q (o::rest) a w:=by
 obtain⟨i0,hi,hz0,hz1,hz2⟩:=info_parts uO
 exact wpList_append_gr hgd s x 25 ho base 38 i0 _ 4 48 Sq.underlying25 hi hz0 hz1 hz2 rfl (by decide) v n xs hs hown ad 1 c news hx (by omega) hc h1 (by unfold maxLen;omega) (by omega) hbase h
def qU (hb B:Nat)(A:Option Addr)(cap:Nat)(l:List Int)(N:Nat)(w:World)(h:Hand w hb B A cap l N)(hN:N<=10000) :
  Calls ve 5 #[.pointer (some ⟨hb,0,none⟩),.int .i64 5,.int .i64 4] w λe w'=>∃c nA hA nc hc,e=.returned (campV nA hA c nc hc)/\c.Ok/\checkE c=0/\RIK w' (λb=>w.heap.size<=b/\b<w'.heap.size) nA c.needs/\HsAtK w' (λb=>w.heap.size<=b/\b<w'.heap.size) hA c.herders/\Hand w' hb B A cap l (N+1000)/\KH hb w w':=by
 obtain⟨W0,hW0⟩:∃W0:World,W0=(w.alloc (.cells #[.slice none 0 0,.slice none 0 0] 27)).alloc (.cells #[.slice none 0 0,.slice none 0 0] 27):=⟨_,rfl⟩
 have hg0:Gr w W0:=hW0▸((Gr.refl w).alloc _).alloc _
 have HZ0:Hid (W0.heap.size=w.heap.size+2):=uq (by rw[hW0];simp)
 have HH:=uq (h.gr hg0)
 have hlt:=h.lt
 have HW:=uq hW0
 have HG0:=uq hg0
 have HAM:=uq (dg hb B A cap l N 1 5 W0 (h.gr hg0) (by omega) (by omega) (by omega))
 have HCO0:Hid (CO w hb B A cap l N (w.heap.size+2) (.slice none 0 0) [] W0):=uq ⟨h.gr hg0,by rw[hW0];exact aP _ _ (by simp),by rw[hW0,heap_alloc_old _ _ (by simp)];exact heap_alloc_new _ _,World.ownsRow_nil _ _ _ _,⟨hg0.below.os,hg0.below.tape,hg0.below.output,hg0.drawn,hg0.size,λb hb' _=>hg0.below.block b hb'⟩,hlt,by rw[hW0];simp⟩
 clear hW0 hg0 h
 go_enter Sq.func5,Tryz.ntmps5
 go_wp2_with fail
 rw[<-HW.out]
 refine HAM.out.mono ?_
 rintro e w1 ⟨⟨n,rfl,hn1,hn5⟩,hh,hkt⟩
 have HCO1:=uq (HCO0.out.deal hh hkt)
 clear hh hkt HAM
 go_wp2
 go_loopw [9] (λi wr=>∃k:Nat,k<=n/\i=.int .i64 k/\∃v ns,CO w hb B A cap l (N+1+4*k) (w.heap.size+2) v ns wr/\ns.length=k/\∀x∈ns,0<=x/\x<=12) (λi _=>n-(intOf i).toNat)
 case atStart=>exact⟨0,by omega,rfl,_,[],HCO1.out,rfl,λx hx=>by simp at hx⟩
 case round =>
  obtain⟨k,hk,rfl,v,ns,HCO,hnl,hns⟩:=hrel
  have HNS:=uq hns
  clear hns
  by_cases hlk:k<n
  ·obtain⟨c0,f0,l0⟩:=HCO.drew.cell
   obtain⟨c9,f9,l9⟩:=HCO.cell
   replace HCO:=uq HCO.drew
   go_wp2
   clear c9 f9 l9
   go_region_law (first
    |(refine nM (by rfl) _ _ (by rfl) (by rfl) (w.heap.size+2) _ _ _ (by rfl) HCO.out.own (.int .i64 z) rfl (by rfl) (by omega) HCO.out.bs.2 ?_;intro v' w6 hown6 hgrow6 hd6;clear c0 f0 l0;have hq6:=(grown_old HCO.out.own hgrow6 (w.heap.size+1) (by omega) (Array.getElem?_eq_some_iff.1 HCO.out.qobj).1).trans HCO.out.qobj;have c6:=(cell_of_heap hq6 0).1;have f6:=(cell_of_heap hq6 0).2;have hown7:w6.ownsRow (w.heap.size+2) 3 1 v' (ns++[z]).length ((ns++[z]).map (Value.int .i64)):=(by simpa using hown6);obtain⟨A6,k6,hv6,_⟩:=uv hown7;subst hv6)
    |(refine jI (by rfl) ?_;go_simp;first
     |(go_at_call 14;refine(dE hb B A cap l _ _ _ HCO.out.hand (by omega) (by omega)).mono ?_;rintro e w' ⟨⟨q,rfl,hq⟩,hh,hkt⟩;replace HCO:=uq (HCO.out.deal hh hkt);clear c0 f0 l0 hh hkt;obtain⟨c0,f0,l0⟩:=HCO.out.cell;dsimp only)
     |(go_at_call 16;refine(iq hb B A _ cap 2 l [_,_] _ _ _ (HCO.out.alloc _).hand (by omega) (by simp) (uj (HCO.out.room _))).mono ?_;rintro e w' ⟨⟨z,rfl,hz⟩,hh,hkt⟩;have hz12:0<=z/\z<=12:=(by simp only[List.mem_cons,List.not_mem_nil,or_false] at hz;omega);replace HCO:=uq ((HCO.out.alloc _).deal hh hkt);clear c0 f0 l0 hh hkt;have HZ:=uq hz12;obtain⟨c0,f0,l0⟩:=HCO.out.cell;dsimp only)))
   all_goals
    have HCO9:=uq ((HCO.out.push hown7 hgrow6 hd6).more (M':=N+1+4*(k+1)) (by omega))
    have hl9:(ns++[z]).length=k+1:=by simp[hnl]
    rw[hl9] at HCO9
    have HNS9:Hid (∀x∈ns++[z],0<=x/\x<=12):=uq λx hx=>by
     rcases List.mem_append.1 hx with hx|hx
     ·exact HNS.out x hx
     ·simp only[List.mem_cons,List.not_mem_nil,or_false] at hx
      subst hx;exact HZ.out
    clear hown7 hgrow6 hd6 hown6 HCO c6 f6 hq6
    go_wp2
    go_roundw
    case rel=>exact⟨k+1,by omega,by go_num,_,_,HCO9.out,hl9,HNS9.out⟩
    case measure=>simp[intOf];omega
  ·have hkn:k=n:=by omega
   subst hkn
   have HCP:=uq (HCO.cp.more (M':=N+30) (by omega))
   have HAM2:=uq (dg hb B A cap l (N+30) 1 4 wr HCP.out.hand (by omega) (by omega) (by omega))
   clear HCO
   go_wp2_with fail
   refine HAM2.out.mono ?_
   rintro e w2 ⟨⟨m,rfl,hm1,hm4⟩,hh,hkt⟩
   have HCP2:=uq (HCP.out.deal hh hkt)
   clear hh hkt HAM2 HCP
   go_wp2
   go_loopw [10] (λi wr=>∃j:Nat,j<=m/\i=.int .i64 j/\∃u hs xs,CP w hb B A cap l (N+31+20*(m-j)) (w.heap.size+2) v ns u hs xs wr/\hs.length=m-j/\∀h∈hs,herdE ns.length h=0) (λi _=>(intOf i).toNat)
   case atStart=>exact⟨m,by omega,rfl,_,[],[],HCP2.out.more (by omega),by simp,λh hh=>by simp at hh⟩
   case round =>
    obtain⟨wq,rfl⟩:∃wq,wq=wr:=⟨_,rfl⟩
    obtain⟨j,hj,rfl,u,hs,xs,hcp,hhl,hhs⟩:=hrel
    have HP:=uq hcp
    have HHS:=uq hhs
    clear hcp hhs
    by_cases hj0:0<j
    ·have HA1:=uq (dg hb B A cap l _ 1 6 wq HP.out.hand (by omega) (by omega) (by omega))
     go_wp2_with fail
     refine HA1.out.mono ?_
     rintro e v1 ⟨⟨a1,rfl,ha1,hb1⟩,hh,hkt⟩
     have HP1:=uq (HP.out.deal hh hkt)
     have HA2:=uq (dg hb B A cap l _ 1 40 v1 hh (by omega) (by omega) (by omega))
     clear hh hkt HA1
     go_wp2_with fail
     refine HA2.out.mono ?_
     rintro e v2 ⟨⟨a2,rfl,ha2,hb2⟩,hh,hkt⟩
     have HP2:=uq (HP1.out.deal hh hkt)
     have hhl2:=hh.lt
     have HA3:=uq (iq hb B A (some ⟨v2.heap.size,0,none⟩) cap 1 l [(a2:Int)] _ a1 (v2.alloc (.cells #[.int .i64 a2] 3)) (HP2.out.alloc _).hand (by omega) (by simp) (tJ (by simp;omega)))
     clear hh hkt HA2
     go_wp2_with fail
     refine HA3.out.mono ?_
     rintro e v3 ⟨⟨a3,rfl,ha3⟩,hh,hkt⟩
     have h340:1<=a3/\a3<=40:=by simp only[List.mem_cons,List.not_mem_nil,or_false] at ha3;omega
     have HP3:=uq ((HP2.out.alloc _).deal hh hkt)
     have HA4:=uq (dg hb B A cap l _ 1 5 v3 hh (by omega) (by omega) (by omega))
     clear hh hkt HA3
     go_wp2_with fail
     refine HA4.out.mono ?_
     rintro e v4 ⟨⟨a4,rfl,ha4,hb4⟩,hh,hkt⟩
     have HP4:=uq (HP3.out.deal hh hkt)
     have HA5:=uq (dg hb B A cap l _ 0 3 v4 hh (by omega) (by omega) (by omega))
     clear hh hkt HA4
     go_wp2_with fail
     refine HA5.out.mono ?_
     rintro e v5 ⟨⟨a5,rfl,ha5,hb5⟩,hh,hkt⟩
     have HP5:=uq ((HP4.out.deal hh hkt).more (M':=N+31+20*(m-j)+5) (by omega))
     have hlt5:=hh.lt
     clear hh hkt HA5 HP HP1 HP2 HP3 HP4
     obtain⟨vX,hvX⟩:∃vX:World,vX=v5.alloc (.cells #[.int .i64 a3,.int .i64 a4,.int .i64 a5,.slice none 0 0] 38):=⟨_,rfl⟩
     have HX0:Hid (vX.heap[v5.heap.size]?=some (.cells #[.int .i64 a3,.int .i64 a4,.int .i64 a5,.slice none 0 0] 38 (0,0))):=uq (by rw[hvX];exact heap_alloc_new _ _)
     have HPX:=uq (hvX▸HP5.out.alloc (.cells #[.int .i64 a3,.int .i64 a4,.int .i64 a5,.slice none 0 0] 38))
     have HZX:Hid (vX.heap.size=v5.heap.size+1):=uq (by rw[hvX];simp)
     have HKX:Hid (KT (·=hb) v5 vX):=uq (hvX▸uu ((Gr.refl v5).alloc _))
     have HVX:=uq hvX
     clear hvX
     go_wp2
     rw[<-HVX.out]
     go_loopw [12] (λi wr=>∃t:Nat,t<=k/\i=.int .i64 t/\∃y p,KT (·=hb) v5 wr/\Hand wr hb B A cap l (N+31+20*(m-j)+5+t)/\wr.heap[v5.heap.size]?=some (.cells #[.int .i64 a3,.int .i64 a4,.int .i64 a5,y] 38 (0,0))/\wr.ownsRow (v5.heap.size+1) 3 1 y (chosen p t).length ((chosen p t).map (Value.int .i64))) (λi _=>k-(intOf i).toNat)
     case atStart=>exact⟨0,by omega,rfl,_,λ_=>false,HKX.out,HPX.out.hand,HX0.out,World.ownsRow_nil _ _ _ _⟩
     case round =>
      obtain⟨t,ht,rfl,y,p,hkt,hh,hxo,hown⟩:=hrel
      have HK:=uq hkt
      have HO:=uq hown
      have HXO:=uq hxo
      have hzw:=hkt.size
      have hXl:=(Array.getElem?_eq_some_iff.1 hxo).1
      by_cases htk:t<k
      ·have HOD:=uq (pH hb B A cap l _ 1 6 wr hh (by omega) (by omega))
       clear hh hkt hown hxo
       go_wp2_with fail
       refine HOD.out.mono ?_
       rintro e w8 ⟨⟨bo,rfl⟩,hh,hkt⟩
       have hXne:v5.heap.size≠hb:=by omega
       have HK8:=uq (HK.out.trans hkt)
       have hown8:=cY HO.out (show hb<v5.heap.size+1 by omega) hkt
       have hx8:=(hkt.block _ hXl hXne).trans HXO.out
       have HX8:=uq hx8
       have c8:=(cell_of_heap hx8 3).1
       have f8:=(cell_of_heap hx8 3).2
       have hXl8:=(Array.getElem?_eq_some_iff.1 hx8).1
       have HH8:=uq hh
       have HO8:=uq hown8
       obtain⟨p2,hp2⟩:∃p2:Nat->Bool,p2=λq=>if q=t then bo else p q:=⟨_,rfl⟩
       have HP:=uq (cy p2 t)
       have HPT:Hid (p2 t=bo):=uq (by rw[hp2];simp)
       have HP0:=uq (el (p:=p2) (q:=p) (k:=t) λi hi=>by rw[hp2];exact if_neg (by omega))
       clear hp2
       have hcl:=dN p t
       have hz8:=HK8.out.size
       have hZX:=HZX.out
       clear hkt hh HOD hx8
       obtain⟨yA,yc,hyv,_⟩:=uv hown8
       subst hyv
       cases bo with
       |true =>
        clear hZX
        go_wp2_with (at_builtin;refine gE rfl _ _ rfl (v5.heap.size+1) _ _ _ rfl (hown8.alloc _) ⟨w8.heap.size,0,none⟩ 1 (.int .i64 t) rfl ?c1 rfl ?c2 ?c3 ?_)
        case c1=>first|(rw[Addr.add_lit,World.cell?_alloc_at _ _ _ _ (by simp)];rfl)|(rw[World.cell?_alloc_at _ _ _ _ (by simp)];rfl)
        case c2=>omega
        case c3=>simp;omega
        intro v' w9 hown' hgrow hd
        have hown9:w9.ownsRow (v5.heap.size+1) 3 1 v' (chosen p2 (t+1)).length ((chosen p2 (t+1)).map (Value.int .i64)):=by
         rw[HP.out,HP0.out,if_pos HPT.out];simpa using hown'
        obtain⟨A9,c9,hv9,_⟩:=uv hown9
        subst hv9
        have hx9:=(grown_old HO8.out hgrow v5.heap.size (by omega) hXl8).trans HX8.out
        have d9:=(cell_of_heap hx9 3).1
        have g9:=(cell_of_heap hx9 3).2
        have hl9:(chosen p t).length+1=(chosen p2 (t+1)).length:=by rw[HP.out,HP0.out,if_pos HPT.out];simp
        have HK9:=uq ((dh HK8.out HO8.out (by omega) hgrow hd).set (p:=⟨v5.heap.size,3,none⟩) (Nat.le_refl _) (.slice A9 (chosen p2 (t+1)).length c9))
        have HH9:=uq (((cv HH8.out HO8.out (by omega) hgrow).set (p:=⟨v5.heap.size,3,none⟩) hlt5 (.slice A9 (chosen p2 (t+1)).length c9)).more (M:=N+31+20*(m-j)+5+(t+1)) (by omega))
        have HX9:=uq (aM (i:=3) (u:=.slice A9 (chosen p2 (t+1)).length c9) hx9)
        have HO9:=uq (ownsRow_setCell_below hown9 (show(⟨v5.heap.size,3,none⟩:Addr).block<v5.heap.size+1 from Nat.lt_succ_self _) (.slice A9 (chosen p2 (t+1)).length c9))
        clear hown' hgrow hd hown9 hown8 hx9
        go_wp2
        go_roundw
        case rel=>exact⟨t+1,by omega,by go_num,_,_,HK9.out,HH9.out,HX9.out,HO9.out⟩
        case measure=>simp[intOf];omega
       |false =>
        have HO9:Hid (w8.ownsRow (v5.heap.size+1) 3 1 (.slice yA (chosen p t).length yc) (chosen p2 (t+1)).length ((chosen p2 (t+1)).map (Value.int .i64))):=uq (by
         rw[HP.out,HP0.out,if_neg (by rw[HPT.out];simp)];simpa using HO8.out)
        clear hown8
        go_wp2
        go_roundw
        case rel=>exact⟨t+1,by omega,by go_num,_,_,HK8.out,HH8.out,HX8.out,HO9.out⟩
        case measure=>simp[intOf];omega
      ·have htk2:t=k:=by omega
       subst htk2
       have HH9:=uq hh
       obtain⟨yA,yc,hyv,_⟩:=uv hown
       subst hyv
       have HPE:=uq (HP5.out.deal hh hkt)
       obtain⟨cu,fu,lu⟩:=HPE.out.cell
       have x0:=(cell_of_heap hxo 0).1
       have x1:=(cell_of_heap hxo 1).1
       have x2:=(cell_of_heap hxo 2).1
       have x3:=(cell_of_heap hxo 3).1
       have hh54:=HPE.out.herds
       have HOE:=uq (own_base hown (show w.heap.size+2<=v5.heap.size+1 by have:=HP5.out.bs;omega))
       clear hh hkt hown hxo
       go_wp2_with (at_builtin;refine ub rfl _ _ rfl (w.heap.size+2) _ _ _ rfl (hh54.alloc _) ⟨wr.heap.size,0,none⟩ 1 [.int .i64 a3,.int .i64 a4,.int .i64 a5,.slice yA (chosen p t).length yc] rfl rfl ?c1 ?c2 ?c3 ?c4 ?_)
       case c1 =>
        intro q z hq
        rw[Addr.add_lit,Nat.zero_add,World.cell?_alloc_at _ _ _ _ (by simp)]
        match q,hq with
        |0,hq=>exact hq
        |1,hq=>exact hq
        |2,hq=>exact hq
        |3,hq=>exact hq
        |q+4,hq=>simp at hq
       case c2=>intro z hz;simp at hz;rcases hz with rfl|rfl|rfl|rfl<;>rfl
       case c3=>omega
       case c4=>have:=HPE.out.bs.2;simp;omega
       intro u' w9 hown' hgrow hd
       obtain⟨gU,cU,rfl,_,_⟩:=hown'.form (by omega)
       have HPN:=uq (HPE.out.push (x:=⟨a3,a4,a5,chosen p t⟩) HOE.out (by rw[hhl];exact hown') hgrow hd)
       have hq9:=(grown_old HPE.out.herds hgrow (w.heap.size+1) (by omega) (Array.getElem?_eq_some_iff.1 HPE.out.qobj).1).trans HPE.out.qobj
       have cq:=(cell_of_heap hq9 1).1
       have fq:=(cell_of_heap hq9 1).2
       have HHN:Hid (∀h∈hs++[(⟨a3,a4,a5,chosen p t⟩:Herder)],herdE ns.length h=0):=uq λh hh=>by
        rcases List.mem_append.1 hh with hh|hh
        ·exact HHS.out h hh
        ·simp only[List.mem_cons,List.not_mem_nil,or_false] at hh
         subst hh
         unfold herdE
         rw[if_pos (by simp[inR];omega),hnl]
         exact jG p t
       clear hown' hgrow hd hh54 hq9
       go_wp2
       go_roundw
       case rel=>exact⟨j-1,by omega,by go_num,_,_,_,HPN.out.more (by omega),by simp[hhl];omega,HHN.out⟩
       case measure=>simp[intOf];omega
    ·have hj00:j=0:=by omega
     subst hj00
     obtain⟨nA,nc,hA,hc,rfl,rfl,hN1,hH1⟩:=HP.out.camp
     have HR1:=uq hN1
     have HR2:=uq hH1
     have q0:=(cell_of_heap HP.out.qobj 0).1
     have q1:=(cell_of_heap HP.out.qobj 1).1
     have r0:=(cell_of_heap HP.out.robj 0).1
     have r1:=(cell_of_heap HP.out.robj 1).1
     have g0:=(cell_of_heap HP.out.robj 0).2
     have g1:=(cell_of_heap HP.out.robj 1).2
     have HCE:Hid (checkE ⟨ns,hs⟩=0):=uq (by
      unfold checkE
      have e1:manyE (ns.length:Int) 1 5=0:=cr.2 (by omega)
      have e2:manyE (hs.length:Int) 1 4=0:=cr.2 (by omega)
      rw[if_neg (by simp[e1]),if_neg,if_neg (by simp[e2])]
      ·exact bF.2 fun x hx => by
        obtain⟨h,hh,rfl⟩:=List.mem_map.1 hx
        exact HHS.out h hh
      ·have : (ns.all fun x => inR x 0 12) = true := List.all_eq_true.2 fun x hx => by
        have:=HNS.out x hx
        simp[inR];omega
       rw[this];simp)
     have hhm:hs.length=m:=by omega
     have HKF:Hid (KT (·=hb) w ((wq.setCell ⟨w.heap.size,0,none⟩ (.slice nA k nc)).setCell ⟨w.heap.size,1,none⟩ (.slice hA m hc))):=uq ((HP.out.kt.set (p:=⟨w.heap.size,0,none⟩) (Nat.le_refl _) _).set (p:=⟨w.heap.size,1,none⟩) (Nat.le_refl _) _)
     have HHF:Hid (Hand ((wq.setCell ⟨w.heap.size,0,none⟩ (.slice nA k nc)).setCell ⟨w.heap.size,1,none⟩ (.slice hA m hc)) hb B A cap l (N+1000)):=uq (((HP.out.hand.set (p:=⟨w.heap.size,0,none⟩) hlt _).set (p:=⟨w.heap.size,1,none⟩) hlt _).more (by omega))
     have HRF:Hid (RIK ((wq.setCell ⟨w.heap.size,0,none⟩ (.slice nA k nc)).setCell ⟨w.heap.size,1,none⟩ (.slice hA m hc)) (λb=>w.heap.size<=b/\b<((wq.setCell ⟨w.heap.size,0,none⟩ (.slice nA k nc)).setCell ⟨w.heap.size,1,none⟩ (.slice hA m hc)).heap.size) nA ns):=uq (bI hN1 (λb hb'=>⟨by omega,by have:=hb'.2;simpa [World.setCell] using this⟩) λb o hb'=>(World.cell?_of_block (Below.heap_setCell _ _ _ _ (by show b≠w.heap.size;omega))).trans (World.cell?_of_block (Below.heap_setCell _ _ _ _ (by show b≠w.heap.size;omega))))
     have HRG:Hid (HsAtK ((wq.setCell ⟨w.heap.size,0,none⟩ (.slice nA k nc)).setCell ⟨w.heap.size,1,none⟩ (.slice hA m hc)) (λb=>w.heap.size<=b/\b<((wq.setCell ⟨w.heap.size,0,none⟩ (.slice nA k nc)).setCell ⟨w.heap.size,1,none⟩ (.slice hA m hc)).heap.size) hA hs):=uq (ir hH1 (λb hb'=>⟨by omega,by have:=hb'.2;simpa [World.setCell] using this⟩) λb o hb'=>(World.cell?_of_block (Below.heap_setCell _ _ _ _ (by show b≠w.heap.size;omega))).trans (World.cell?_of_block (Below.heap_setCell _ _ _ _ (by show b≠w.heap.size;omega))))
     clear hN1 hH1
     go_wp2
     have s1:=World.cell?_setCell_same (wq.setCell ⟨w.heap.size,0,none⟩ (.slice nA k nc)) ⟨w.heap.size,1,none⟩ (.slice hA m hc) ((World.cell?_setCell_other wq ⟨w.heap.size,0,none⟩ ⟨w.heap.size,1,none⟩ (.slice nA k nc) (by simp)).trans r1)
     have s0:=(World.cell?_setCell_other (wq.setCell ⟨w.heap.size,0,none⟩ (.slice nA k nc)) ⟨w.heap.size,1,none⟩ ⟨w.heap.size,0,none⟩ (.slice hA m hc) (by simp)).trans (World.cell?_setCell_same wq ⟨w.heap.size,0,none⟩ (.slice nA k nc) r0)
     refine bodyPost_ret (v:=.agg #[.slice nA k nc,.slice hA m hc]) (by simp[results,Tryz.results5,go_sem,s0,s1]) rfl ⟨⟨ns,hs⟩,nA,hA,nc,hc,by rw[<-hnl,<-hhm];rfl,Camp.Ok.of HCE.out,HCE.out,HRF.out,HRG.out,HHF.out,HKF.out⟩
open Go.RowKit Go.Sq
open Go.Iso (gq iW gS)
def cSnd:Code->Code
 |.seq _ c=>c
 |c=>c
def cFst:Code->Code
 |.seq c _=>c
 |c=>c
def cDrop:Nat->Code->Code
 |0,c=>c
 |n+1,c=>cDrop n (cSnd c)
def _root_.Go.Sq.RI.on {w w':World}{A:Option Addr}{l:List Int}(h:RI w w.heap.size A l)(hg:Gr w w'):RI w' w'.heap.size A l:=(h.gr (Nat.le_refl _) hg).more hg.size
structure Made (c:Camp)(nA hA gA:Option Addr)(cb:Nat)(nc hc:Nat)(ls:List (List Int))(W:World):Prop where
 lt:cb<W.heap.size
 c0:W.cell? ⟨cb,0,none⟩=some (.slice nA c.needs.length nc)
 c1:W.cell? ⟨cb,1,none⟩=some (.slice hA c.herders.length hc)
 needs:RI W W.heap.size nA c.needs
 herds:HsAt W W.heap.size hA c.herders
 grid:GrAt W W.heap.size gA ls
def Made.gr {c:Camp}{nA hA gA:Option Addr}{cb nc hc:Nat}{ls:List (List Int)}{W W':World}(h:Made c nA hA gA cb nc hc ls W)(hg:Gr W W'):Made c nA hA gA cb nc hc ls W' :=
 ⟨Nat.lt_of_lt_of_le h.lt hg.size,(hg.cell (p:=⟨cb,0,none⟩) h.lt).trans h.c0,(hg.cell (p:=⟨cb,1,none⟩) h.lt).trans h.c1,(h.needs.gr (Nat.le_refl _) hg).more hg.size,(h.herds.keep λ_ _ hb=>hg.cell hb).more hg.size,(h.grid.gr (Nat.le_refl _) hg).more hg.size⟩
structure MadeK (c:Camp)(nA hA:Option Addr)(v:Value)(cb nc hc lo:Nat)(ls:List (List Int))(xs:List Value)(W:World):Prop where
 bd:lo<=cb/\cb<W.heap.size
 c0:W.cell? ⟨cb,0,none⟩=some (.slice nA c.needs.length nc)
 c1:W.cell? ⟨cb,1,none⟩=some (.slice hA c.herders.length hc)
 needs:RIK W (λb=>lo<=b/\b<W.heap.size) nA c.needs
 herds:HsAtK W (λb=>lo<=b/\b<W.heap.size) hA c.herders
 grid:OwnGrid W lo v ls xs
section
variable {c:Camp} {nA hA:Option Addr} {v:Value} {cb nc hc lo:Nat} {ls:List (List Int)} {xs:List Value} {W W':World}
def MadeK.keep (h:MadeK c nA hA v cb nc hc lo ls xs W)(hz:W.heap.size<=W'.heap.size)(hk:∀b,lo<=b->b<W.heap.size->W'.heap[b]?=W.heap[b]?):MadeK c nA hA v cb nc hc lo ls xs W':=by
 obtain⟨h1,h2⟩:=h.bd
 have hc':∀b o,lo<=b/\b<W.heap.size->W'.cell? ⟨b,o,none⟩=W.cell? ⟨b,o,none⟩:=λb o hb=>World.cell?_of_block (hk b hb.1 hb.2)
 exact⟨⟨h1,by omega⟩,(hc' _ _ ⟨h1,h2⟩).trans h.c0,(hc' _ _ ⟨h1,h2⟩).trans h.c1,bI h.needs (λb hb=>⟨hb.1,by omega⟩) hc',ir h.herds (λb hb=>⟨hb.1,by omega⟩) hc',h.grid.keep' hk⟩
def MadeK.deal {hb:Nat}(h:MadeK c nA hA v cb nc hc lo ls xs W)(hb':hb<lo)(k:KT (·=hb) W W'):MadeK c nA hA v cb nc hc lo ls xs W':=h.keep k.size λb h1 h2=>k.block b h2 (by omega)
def MadeK.made {gA:Option Addr}{gc:Nat}(h:MadeK c nA hA (.slice gA ls.length gc) cb nc hc lo ls xs W):Made c nA hA gA cb nc hc ls W:=by
 obtain⟨A,k,e,hg⟩:=h.grid.grAt
 injection e with e1 e2 e3
 subst e1
 exact⟨h.bd.2,h.c0,h.c1,h.needs.ri λb hb=>hb.2,h.herds.hs λb hb=>hb.2,hg⟩
end
def _root_.Go.Sq.RsAt.more {w:World}{B B':Nat}{A:Option Addr}{l:List (Int×Int)}(h:RsAt w B A l)(hB:B<=B'):RsAt w B' A l:=λhn=>by
 obtain⟨b,o,e,hb,hc⟩:=h hn
 exact⟨b,o,e,Nat.lt_of_lt_of_le hb hB,hc⟩
end Go.Proofs.YtgphobammhoniaaGreat
