/- Parts of the proof. -/
import Derived.Test.YtefcpflbnmldcaaGreatP24
import Derived.Test.YtefcpflbnmldcaaGreatP22
import Derived.Test.YtefcpflbnmldcaaGreatP23
import Derived.Test.YtefcpflbnmldcaaGreatP21
import Derived.Deep.RegionLaw
set_option linter.all false
set_option maxHeartbeats 6400000
set_option maxRecDepth 1000000
namespace Go.Sq
open Go.RowKit
def chosen (p:Nat->Bool)(k:Nat):List Int:=((List.range k).filter p).map λn:Nat=>(n:Int)
def fU {p q:Nat->Bool}{k:Nat}(h:∀i,i<k->p i=q i):chosen p k=chosen q k:=by
 unfold chosen
 congr 1
 exact List.filter_congr λi hi=>h i (List.mem_range.1 hi)
def gD (p:Nat->Bool)(k:Nat):chosen p (k+1)=chosen p k++if p k=true then[(k:Int)] else[]:=by
 unfold chosen
 rw[List.range_succ,List.filter_append,List.map_append]
 cases h:p k<;>simp[h]
def chosen_mem {p:Nat->Bool}{k:Nat}{x:Int}:x∈chosen p k↔∃n:Nat,x=n/\n<k/\p n=true:=by
 unfold chosen
 simp only[List.mem_map,List.mem_filter,List.mem_range]
 constructor
 ·rintro⟨n,⟨h1,h2⟩,rfl⟩;exact⟨n,rfl,h1,h2⟩
 ·rintro⟨n,rfl,h1,h2⟩;exact⟨n,⟨h1,h2⟩,rfl⟩
def dA (p:Nat->Bool)(k:Nat):(chosen p k).length<=k:=by
 unfold chosen
 rw[List.length_map]
 exact Nat.le_trans (List.length_filter_le _ _) (by simp)
def chosen_asc (p:Nat->Bool)(k:Nat):(chosen p k).Pairwise (·<·):=by
 unfold chosen
 rw[List.pairwise_map]
 exact(List.Pairwise.filter _ List.pairwise_lt_range).imp λh=>by omega
def jq (p:Nat->Bool)(k:Nat):ascE (chosen p k) k=0:=by
 rw[ji]
 intro i hi
 have h1:=chosen_mem.1 (mem_get (chosen p k) i hi)
 obtain⟨n,e,hn,_⟩:=h1
 unfold ascAt
 rw[if_pos (by rw[e];omega),if_neg]
 rintro⟨h0,hle⟩
 have:=List.pairwise_iff_getElem.1 (chosen_asc p k) (i-1) i (by omega) hi (by omega)
 rw[List.getElem?_eq_getElem hi,List.getElem?_eq_getElem (by omega)] at hle
 simp only[Option.getD_some] at hle
 omega
def grown_old {w2 w3:World}{base size n:Nat}{e:TypeId}{v:Value}{xs:List Value}{o:Obj}(hown:w2.ownsRow base e size v n xs)(hg:(w2.alloc o).grownBy w3 v.ownBlock)(b:Nat)(hb:b<base)(hl:b<w2.heap.size):w3.heap[b]?=w2.heap[b]?:=by
 rw[hg.block b (by simp;omega) (dg hown hb),heap_alloc_old _ _ hl]
def dC {w2 w3:World}{v:Value}{o:Obj}(hg:(w2.alloc o).grownBy w3 v.ownBlock):w2.heap.size+1<=w3.heap.size:=by have:=hg.size;simpa using this
def cT {w0 w2 w3:World}{hb base size n:Nat}{e:TypeId}{v:Value}{xs:List Value}{o:Obj}(hK:KT (·=hb) w0 w2)(hown:w2.ownsRow base e size v n xs)(hbase:w0.heap.size<=base)(hg:(w2.alloc o).grownBy w3 v.ownBlock)(hd:(w2.alloc o).drawn<=w3.drawn):KT (·=hb) w0 w3 :=
 ⟨hg.os.trans hK.os,hg.tape.trans hK.tape,hg.output.trans hK.output,Nat.le_trans hK.drawn hd,by have:=dC hg;have:=hK.size;omega,λb hb' hne=>(grown_old hown hg b (by omega) (by have:=hK.size;omega)).trans (hK.block b hb' hne)⟩
def cj {w2 w3:World}{hb B cap N base size n:Nat}{A:Option Addr}{l:List Int}{e:TypeId}{v:Value}{xs:List Value}{o:Obj}(h:Hand w2 hb B A cap l N)(hown:w2.ownsRow base e size v n xs)(hbase:hb<base)(hg:(w2.alloc o).grownBy w3 v.ownBlock):Hand w3 hb B A cap l N:=by
 have hl:=h.lt
 obtain⟨m,s,ho,hm⟩:=h.obj
 exact⟨⟨m,s,(grown_old hown hg hb hbase hl).trans ho,hm⟩,h.nums.keep λb o hb'=>World.cell?_of_block (grown_old hown hg b (by have:=h.apart;omega) (by have:=h.apart;omega)),h.apart⟩
def dT {w w':World}{base size n hb:Nat}{v:Value}{e:TypeId}{xs:List Value}(h:w.ownsRow base e size v n xs)(hb':hb<base)(k:KT (·=hb) w w'):w'.ownsRow base e size v n xs :=
 aG h λg hg hl=>k.block g hl λe=>by have:=(h.lt g hg).1;omega
end Go.Sq
namespace Go.Proofs.YtefcpflbnmldcaaGreat
open Go.RowKit Go.Sq
def tc (hb B:Nat)(A:Option Addr)(cap:Nat)(l:List Int)(N n:Nat)(w:World)(h:Hand w hb B A cap l N)(hN:N<=1000000)(hn:n<=64) :
  Calls uG 112 #[.pointer (some ⟨hb,0,none⟩),.int .i64 n] w λe w'=>∃v p,e=.returned v/\w'.ownsRow w.heap.size 3 1 v (chosen p n).length ((chosen p n).map (Value.int .i64))/\Hand w' hb B A cap l (N+n)/\KH hb w w':=by
 have HH:=tT h
 have hlt:=h.lt
 clear h
 go_enter Sq.func112,Tryz.ntmps112
 go_wp2
 go_loopw [5,6] (λv i wr=>∃k:Nat,k<=n/\i=.int .i64 k/\∃p,wr.ownsRow w.heap.size 3 1 v (chosen p k).length ((chosen p k).map (Value.int .i64))/\Hand wr hb B A cap l (N+k)/\KH hb w wr) (λ_ i _=>n-(intOf i).toNat)
 case atStart=>exact⟨0,by omega,rfl,λ_=>false,World.ownsRow_nil _ _ _ _,HH.out,KT.refl _ _⟩
 case round =>
  obtain⟨k,hk,rfl,p,hown,hh,hkt⟩:=hrel
  have hz:=hkt.size
  have HK:=tT hkt
  have HO:=tT hown
  clear hown hkt
  by_cases hlk:k<n
  ·have HC:=tT (pa hb B A cap l (N+k) 1 2 wr hh (by omega) (by omega))
   clear hh
   go_wp2_with fail
   refine HC.out.mono ?_
   rintro e w2 ⟨⟨v,rfl⟩,hh,hkt⟩
   have HK2:=tT (HK.out.trans hkt)
   have hown2:=dT HO.out hlt hkt
   have HH2:=tT hh
   have hz2:=hkt.size
   have HO2:=tT hown2
   have HP:=tT (gD (λj=>if j=k then v else p j) k)
   have HP0:=tT (fU (p:=λj=>if j=k then v else p j) (q:=p) (k:=k) λi hi=>if_neg (by omega))
   have hcl:=dA p k
   clear hkt hh HC
   cases v with
   |true =>
    go_wp2_with (at_builtin;refine iB rfl _ _ rfl w.heap.size _ _ _ rfl (hown2.alloc _) ⟨w2.heap.size,0,none⟩ 1 (.int .i64 k) rfl ?c1 rfl ?c2 ?c3 ?_)
    case c1=>rw[World.cell?_alloc_at _ _ _ _ (by simp)];rfl
    case c2=>omega
    case c3=>simp;omega
    intro v' w3 hown' hgrow hd
    have HK3:=tT (cT HK2.out hown2 (Nat.le_refl _) hgrow hd)
    have HO3:Hid (w3.ownsRow w.heap.size 3 1 v' (chosen (λj=>if j=k then true else p j) (k+1)).length ((chosen (λj=>if j=k then true else p j) (k+1)).map (Value.int .i64))):=tT (by
     rw[HP.out,HP0.out,if_pos (by simp)];simpa using hown')
    have HH3:=tT ((cj HH2.out hown2 hlt hgrow).more (M:=N+(k+1)) (by omega))
    clear hown' hgrow hd hown2
    go_wp2
    go_roundw
    case rel=>exact⟨k+1,by omega,by go_num,_,HO3.out,HH3.out,HK3.out⟩
    case measure=>simp[intOf];omega
   |false =>
    have HO3:Hid (w2.ownsRow w.heap.size 3 1 _ (chosen (λj=>if j=k then false else p j) (k+1)).length ((chosen (λj=>if j=k then false else p j) (k+1)).map (Value.int .i64))):=tT (by
     rw[HP.out,HP0.out,if_neg (by simp)];simpa using HO2.out)
    clear hown2
    go_wp2
    go_roundw
    case rel=>exact⟨k+1,by omega,by go_num,_,HO3.out,HH2.out,HK2.out⟩
    case measure=>simp[intOf];omega
  ·have hkn:k=n:=by omega
   subst hkn
   have HH2:=tT hh
   clear hh
   go_wp2
   go_ret
   exact⟨_,p,rfl,HO.out,HH2.out,HK.out⟩
open Go.RowKit Go.Sq
def mZ (hb B:Nat)(A nA hA:Option Addr)(cap nc hc:Nat)(l:List Int)(N n m:Nat)(w:World)(h:Hand w hb B A cap l N)(hN:N<=100000)(hn:n<=64)(hm:m<=64) :
  Calls uG 47 #[.pointer (some ⟨hb,0,none⟩),.agg #[.slice nA n nc,.slice hA m hc]] w λe w'=>∃v ls xs,e=.returned v/\OwnGrid w' (w.heap.size+1) v ls xs/\ls.length=n/\(∀x∈ls,∃p,x=chosen p m)/\Hand w' hb B A cap l (N+n*m)/\KH hb w w':=by
 obtain⟨W0,hW0⟩:∃W0:World,W0=w.alloc (.cells #[.slice nA n nc,.slice hA m hc] 25):=⟨_,rfl⟩
 have hg0:Gr w W0:=hW0▸(Gr.refl w).alloc _
 have HZ0:Hid (W0.heap.size=w.heap.size+1):=tT (by rw[hW0];simp)
 have HH:=tT (h.gr hg0)
 have hlt:=h.lt
 have HW:=tT hW0
 have HG0:=tT hg0
 have HC:Hid (W0.cell? ⟨w.heap.size,0,none⟩=some (.slice nA n nc)/\W0.cell? ⟨w.heap.size,1,none⟩=some (.slice hA m hc)):=tT (by
  rw[hW0,World.cell?_alloc_at _ _ _ _ rfl,World.cell?_alloc_at _ _ _ _ rfl];exact⟨rfl,rfl⟩)
 have HK0:Hid (∀W,KT (·=hb) W0 W->KT (·=hb) w W):=tT λW hk=>⟨hk.os.trans hg0.below.os,hk.tape.trans hg0.below.tape,hk.output.trans hg0.below.output,Nat.le_trans hg0.drawn hk.drawn,Nat.le_trans hg0.size hk.size,λb hb' hne=>(hk.block b (Nat.lt_of_lt_of_le hb' hg0.size) hne).trans (hg0.below.block b hb')⟩
 clear hW0 hg0 h
 go_enter Sq.func47,Tryz.ntmps47
 go_wp2
 rw[<-HW.out]
 go_loopw [5,6] (λv i wr=>∃k:Nat,k<=n/\i=.int .i64 k/\∃ls xs,OwnGrid wr (w.heap.size+1) v ls xs/\ls.length=k/\(∀x∈ls,∃p,x=chosen p m)/\Hand wr hb B A cap l (N+k*m)/\KH hb W0 wr) (λ_ i _=>n-(intOf i).toNat)
 case atStart=>exact⟨0,by omega,rfl,[],[],OwnGrid.nil _ _,rfl,λx hx=>by simp at hx,HH.out.more (by omega),KT.refl _ _⟩
 case round =>
  obtain⟨k,hk,rfl,ls,xs,hog,hll,hall,hh,hkt⟩:=hrel
  have hne:w.heap.size≠hb:=by omega
  have hW0s:=HZ0.out
  have hc0:wr.cell? ⟨w.heap.size,0,none⟩=some (.slice nA n nc):=(World.cell?_of_block (hkt.block w.heap.size (by omega) hne)).trans HC.out.1
  have hc1:wr.cell? ⟨w.heap.size,1,none⟩=some (.slice hA m hc):=(World.cell?_of_block (hkt.block w.heap.size (by omega) hne)).trans HC.out.2
  have hz:w.heap.size<wr.heap.size:=by have:=hkt.size;omega
  have HK:=tT hkt
  have HO:=tT hog
  have HALL:=tT hall
  clear hkt hog hall hW0s
  by_cases hlk:k<n
  ·have HCALL:=tT (tc hb B A cap l (N+k*m) m wr hh (by have:k*m<=64*64:=Nat.mul_le_mul (by omega) hm;omega) hm)
   have HHR:=tT hh
   clear hh
   go_wp2_with fail
   refine HCALL.out.mono ?_
   rintro e w2 ⟨v2,p,rfl,hown,hh,hkt⟩
   obtain⟨A2,c2,rfl,_⟩:=tZ hown
   have HK2:=tT (HK.out.trans hkt)
   have HO2:=tT (HO.out.keep' (w':=w2) λb hb1 hb2=>hkt.block b hb2 (by omega))
   have HOW:=tT (cy hown (show w.heap.size+1<=wr.heap.size by omega))
   have HH2:=tT hh
   have hz2:=hkt.size
   have hrow:=HO2.out.row
   clear hkt hh hown HCALL
   rw[hll] at hrow
   have HROW:=tT hrow
   go_wp2_with (at_builtin;refine qM rfl _ _ rfl (w.heap.size+1) _ _ _ rfl (hrow.alloc _) ⟨w2.heap.size,0,none⟩ 1 (.slice A2 (chosen p m).length c2) rfl ?c1 rfl ?c2 ?c3 ?_)
   case c1=>rw[Addr.add_lit,World.cell?_alloc_at _ _ _ _ (by simp)];rfl
   case c2=>omega
   case c3=>simp;omega
   intro v' w3 hown' hgrow hd
   have HK3:=tT (cT HK2.out HROW.out (by rw[HZ0.out];exact Nat.le_refl _) hgrow hd)
   have HH3:=tT ((cj HH2.out HROW.out (by omega) hgrow).more (M:=N+(k+1)*m) (by rw[Nat.succ_mul];omega))
   have HO3:=tT (HO2.out.push (l:=chosen p m) HOW.out (λb hb'=>heap_alloc_old _ _ hb') (by simp) hgrow hll.symm hown')
   have HALL3:Hid (∀x∈ls++[chosen p m],∃p,x=chosen p m):=tT λx hx=>by
    rcases List.mem_append.1 hx with hx|hx
    ·exact HALL.out x hx
    ·simp at hx;exact⟨p,hx⟩
   clear hown' hgrow hd hrow
   go_wp2
   go_roundw
   case rel=>exact⟨k+1,by omega,by go_num,_,_,HO3.out,by simp[hll],HALL3.out,HH3.out,HK3.out⟩
   case measure=>simp[intOf];omega
  ·have hkn:k=n:=by omega
   subst hkn
   have HH2:=tT hh
   clear hh
   go_wp2
   go_ret
   exact⟨_,ls,xs,rfl,HO.out,hll,HALL.out,HH2.out,HK0.out _ HK.out⟩
end Go.Proofs.YtefcpflbnmldcaaGreat
namespace Go.Sq
open Go.RowKit
end Go.Sq
namespace Go.Proofs.YtefcpflbnmldcaaGreat
open Go.RowKit Go.Sq
end Go.Proofs.YtefcpflbnmldcaaGreat
namespace Go.Sq
open Go.RowKit
def jG {l:List Int}{k:Nat}(hk:k<l.length)(n:Int):n∈l.take (k+1)↔n∈l.take k\/l[k]?.getD 0=n:=by
 rw[aV 0 l k hk,List.mem_append,List.mem_singleton]
 constructor
 ·rintro(h|h);exact .inl h;exact .inr h.symm
 ·rintro(h|h);exact .inl h;exact .inr h.symm
end Go.Sq
namespace Go.Proofs.YtefcpflbnmldcaaGreat
open Go.RowKit Go.Sq
end Go.Proofs.YtefcpflbnmldcaaGreat
namespace Go.Sq
open Go.RowKit
def m7 (l:List Int)(h:∀x∈l,0<=x)(x i:Nat):(l.foldl (λx h=>x ||| 2 ^ h.toNat) x).testBit i=(x.testBit i||decide ((i:Int)∈l)):=by
 induction l generalizing x with
 |nil=>simp
 |cons a l ih =>
  rw[List.foldl_cons,ih (λy hy=>h y (by simp[hy])),Nat.testBit_or,Nat.testBit_two_pow,Bool.or_assoc]
  congr 1
  have h0:=h a (by simp)
  by_cases e:a.toNat=i
  ·have:(i:Int)=a:=by omega
   simp[e,this]
  ·have:¬(i:Int)=a:=by omega
   simp[e,this]
def sa {l:List Int}(h:∀x∈l,0<=x)(i:Nat):(ofL l).testBit i=decide ((i:Int)∈l):=by
 unfold ofL
 rw[m7 l h];simp
def pd {c:Camp}{ls:List (List Int)}(hc:checkE c=0)(hn:ls.length=c.needs.length)(hl:∀x∈ls,∃p,x=chosen p c.herders.length):formedE c ls=0:=by
 have hm:manyE ls.length c.needs.length c.needs.length=0:=ci.2 (by omega)
 unfold formedE
 rw[if_neg (by simp[hc]),if_neg (by simp[hm])]
 refine cV λx hx=>?_
 obtain⟨l,h1,rfl⟩:=List.mem_map.1 hx
 obtain⟨p,rfl⟩:=hl l h1
 exact jq _ _
def sumTo (f:Nat->Int):Nat->Int
 |0=>0
 |k+1=>sumTo f k+f k
def pf (f:Nat->Int)(y:Int)(k:Nat):sumTo (λi=>f i*y) k=sumTo f k*y:=by
 induction k with
 |zero=>simp[sumTo]
 |succ k ih=>unfold sumTo;rw[ih,Int.add_mul]
def jr (f:Nat->Int)(k:Nat):((List.range k).map f).sum=sumTo f k:=by
 induction k with
 |zero=>rfl
 |succ k ih=>rw[List.range_succ,List.map_append,List.sum_append,ih];simp[sumTo]
open Go.RowKit
structure CO (w0:World)(hb B:Nat)(A:Option Addr)(cap:Nat)(l:List Int)(M base:Nat)(v:Value)(ns:List Int)(W:World):Prop where
 hand:Hand W hb B A cap l M
 qobj:W.heap[w0.heap.size+1]?=some (.cells #[v,.slice none 0 0] 25 (0,0))
 robj:W.heap[w0.heap.size]?=some (.cells #[.slice none 0 0,.slice none 0 0] 25 (0,0))
 own:W.ownsRow base 3 1 v ns.length (ns.map (Value.int .i64))
 kt:KT (·=hb) w0 W
 lt:hb<w0.heap.size
 bs:w0.heap.size+2<=base/\base<=W.heap.size
section
variable {w0 W W':World} {hb B:Nat} {A:Option Addr} {cap:Nat} {l:List Int} {M base:Nat} {v:Value} {ns:List Int}
def CO.drew (h:CO w0 hb B A cap l M base v ns W):CO w0 hb B A cap l M base v ns W.drew :=
 ⟨h.hand.gr (Gr.refl W).drew,h.qobj,h.robj,aG h.own λ_ _ _=>rfl,⟨h.kt.os,h.kt.tape,h.kt.output,Nat.le_succ_of_le h.kt.drawn,h.kt.size,h.kt.block⟩,h.lt,h.bs⟩
def CO.alloc (h:CO w0 hb B A cap l M base v ns W)(o:Obj):CO w0 hb B A cap l M base v ns (W.alloc o) :=
 ⟨h.hand.gr ((Gr.refl W).alloc o),(heap_alloc_old _ _ (Array.getElem?_eq_some_iff.1 h.qobj).1).trans h.qobj,(heap_alloc_old _ _ (Array.getElem?_eq_some_iff.1 h.robj).1).trans h.robj,h.own.alloc o,h.kt.trans (tX ((Gr.refl W).alloc o)),h.lt,by have:=h.bs;simp;omega⟩
def CO.deal (h:CO w0 hb B A cap l M base v ns W){M':Nat}(hh:Hand W' hb B A cap l M')(k:KT (·=hb) W W'):CO w0 hb B A cap l M' base v ns W' :=
 ⟨hh,(k.block _ (Array.getElem?_eq_some_iff.1 h.qobj).1 (by have:=h.lt;omega)).trans h.qobj,(k.block _ (Array.getElem?_eq_some_iff.1 h.robj).1 (by have:=h.lt;omega)).trans h.robj,dT h.own (by have:=h.lt;have:=h.bs;omega) k,h.kt.trans k,h.lt,by have:=h.bs;have:=k.size;omega⟩
def Hand.set {W:World}{hb B cap N:Nat}{A:Option Addr}{l:List Int}(h:Hand W hb B A cap l N){p:Addr}(hp:hb<p.block)(x:Value):Hand (W.setCell p x) hb B A cap l N:=by
 obtain⟨n,s,h1,h2⟩:=h.obj
 have hB:=h.apart
 exact⟨⟨n,s,(Below.heap_setCell _ _ _ _ (by omega)).trans h1,h2⟩,h.nums.keep λb o hb'=>World.cell?_of_block (Below.heap_setCell _ _ _ _ (by show b≠p.block;omega)),hB⟩
def KT.set {w0 W:World}{hb:Nat}(h:KT (·=hb) w0 W){p:Addr}(hp:w0.heap.size<=p.block)(x:Value):KT (·=hb) w0 (W.setCell p x) :=
 ⟨h.os,h.tape,h.output,h.drawn,by have:=h.size;simpa [World.setCell] using this,λb hb' hne=>(Below.heap_setCell _ _ _ _ (by omega)).trans (h.block b hb' hne)⟩
def CO.more (h:CO w0 hb B A cap l M base v ns W){M':Nat}(hm:M<=M'):CO w0 hb B A cap l M' base v ns W:=⟨h.hand.more hm,h.qobj,h.robj,h.own,h.kt,h.lt,h.bs⟩
def CO.push (h:CO w0 hb B A cap l M base v ns W){w6:World}{o:Obj}{v':Value}{z:Int}(hown:w6.ownsRow base 3 1 v' (ns++[z]).length ((ns++[z]).map (Value.int .i64)))(hg:(W.alloc o).grownBy w6 v.ownBlock)(hd:(W.alloc o).drawn<=w6.drawn) :
  CO w0 hb B A cap l M base v' (ns++[z]) (w6.setCell ⟨w0.heap.size+1,0,none⟩ v'):=by
 have hlt:=h.lt
 have hbs:=h.bs
 have hq:=(grown_old h.own hg (w0.heap.size+1) (by omega) (Array.getElem?_eq_some_iff.1 h.qobj).1).trans h.qobj
 have hr:=(grown_old h.own hg w0.heap.size (by omega) (Array.getElem?_eq_some_iff.1 h.robj).1).trans h.robj
 refine⟨(cj h.hand h.own (by omega) hg).set (by show hb<w0.heap.size+1;omega) _,?_,(Below.heap_setCell _ _ _ _ (by simp)).trans hr,ownsRow_setCell_below hown (by show w0.heap.size+1<base;omega) _,(cT h.kt h.own (by omega) hg hd).set (by show _<=w0.heap.size+1;omega) _,hlt,hbs.1,by have:=dC hg;simp[World.setCell];omega⟩
 exact aF hq
def tN {W:World}{K:Nat->Prop}{a b:Int}(hK:K W.heap.size):RIK (W.alloc (.cells #[.int .i64 a,.int .i64 b] 3)) K (some ⟨W.heap.size,0,none⟩) [a,b]:=λ_=>⟨_,0,rfl,hK,λi x hx=>by
 rw[World.cell?_alloc_at _ _ _ _ rfl]
 match i,hx with
 |0,hx=>cases hx;rfl
 |1,hx=>cases hx;rfl⟩
def td {W:World}{K:Nat->Prop}{a:Int}(hK:K W.heap.size):RIK (W.alloc (.cells #[.int .i64 a] 3)) K (some ⟨W.heap.size,0,none⟩) [a]:=λ_=>⟨_,0,rfl,hK,λi x hx=>by
 rw[World.cell?_alloc_at _ _ _ _ rfl]
 match i,hx with
 |0,hx=>cases hx;rfl⟩
def CO.room (h:CO w0 hb B A cap l M base v ns W)(o:Obj):W.heap.size≠hb/\W.heap.size<(W.alloc o).heap.size:=by
 have:=h.hand.lt
 simp;omega
def CO.cell (h:CO w0 hb B A cap l M base v ns W):W.cell? ⟨w0.heap.size+1,0,none⟩=some v/\W.frozen? ⟨w0.heap.size+1,0,none⟩=false/\w0.heap.size+1<W.heap.size:=⟨(cell_of_heap h.qobj 0).1,(cell_of_heap h.qobj 0).2,(Array.getElem?_eq_some_iff.1 h.qobj).1⟩
def eX {W W':World}{K K':Nat->Prop}{A:Option Addr}{q:List Int}(h:RIK W K A q)(hk:∀b,K b->K' b)(hc:∀b o,K b->W'.cell? ⟨b,o,none⟩=W.cell? ⟨b,o,none⟩):RIK W' K' A q:=λhn=>by
 obtain⟨b,o,e,h1,h2⟩:=h hn
 exact⟨b,o,e,hk b h1,λi x hx=>(hc _ _ h1).trans (h2 i x hx)⟩
def gY {W W':World}{K K':Nat->Prop}{A:Option Addr}{q:List Herder}(h:HsAtK W K A q)(hk:∀b,K b->K' b)(hc:∀b o,K b->W'.cell? ⟨b,o,none⟩=W.cell? ⟨b,o,none⟩):HsAtK W' K' A q:=λhn=>by
 obtain⟨b,o,e,h1,h2⟩:=h hn
 refine⟨b,o,e,hk b h1,λi x hx=>?_⟩
 obtain⟨k0,k1,k2,A',c,k3,k4⟩:=h2 i x hx
 exact⟨(hc _ _ h1).trans k0,(hc _ _ h1).trans k1,(hc _ _ h1).trans k2,A',c,(hc _ _ h1).trans k3,eX k4 hk hc⟩
def gj (h:Herder)(y:Value):List Value:=[.int .i64 h.heads,.int .i64 h.dogs,.int .i64 h.most,y]
structure CP (w0:World)(hb B:Nat)(A:Option Addr)(cap:Nat)(l:List Int)(M base:Nat)(v:Value)(ns:List Int)(u:Value)(hs:List Herder)(xs:List Value)(W:World):Prop where
 hand:Hand W hb B A cap l M
 qobj:W.heap[w0.heap.size+1]?=some (.cells #[v,u] 25 (0,0))
 robj:W.heap[w0.heap.size]?=some (.cells #[.slice none 0 0,.slice none 0 0] 25 (0,0))
 own:W.ownsRow base 3 1 v ns.length (ns.map (Value.int .i64))
 herds:W.ownsRow base 59 4 u hs.length xs
 offs:∀i h,hs[i]?=some h->∃y,(∀j,j<4->xs[i*4+j]?=(gj h y)[j]?)/\W.ownsRow base 3 1 y h.off.length (h.off.map (Value.int .i64))
 kt:KT (·=hb) w0 W
 lt:hb<w0.heap.size
 bs:w0.heap.size+2<=base/\base<=W.heap.size
variable {u:Value} {hs:List Herder} {xs:List Value}
def CO.cp (h:CO w0 hb B A cap l M base v ns W):CP w0 hb B A cap l M base v ns (.slice none 0 0) [] [] W :=
 ⟨h.hand,h.qobj,h.robj,h.own,World.ownsRow_nil _ _ _ _,λi h hi=>by simp at hi,h.kt,h.lt,h.bs⟩
def CP.keep (h:CP w0 hb B A cap l M base v ns u hs xs W){M':Nat}(hh:Hand W' hb B A cap l M')(hk:∀b,b<W.heap.size->b≠hb->W'.heap[b]?=W.heap[b]?)(kt:KT (·=hb) w0 W')(hz:W.heap.size<=W'.heap.size):CP w0 hb B A cap l M' base v ns u hs xs W':=by
 have hlt:=h.lt
 have hbs:=h.bs
 have ok:∀ {e:TypeId} {sz n:Nat} {y:Value} {zs:List Value},W.ownsRow base e sz y n zs->W'.ownsRow base e sz y n zs:=λho=>aG ho λg hg hl=>hk g hl (by have:=(ho.lt g hg).1;omega)
 refine⟨hh,(hk _ (Array.getElem?_eq_some_iff.1 h.qobj).1 (by omega)).trans h.qobj,(hk _ (Array.getElem?_eq_some_iff.1 h.robj).1 (by omega)).trans h.robj,ok h.own,ok h.herds,λi x hi=>?_,kt,hlt,by omega⟩
 obtain⟨y,h1,h2⟩:=h.offs i x hi
 exact⟨y,h1,ok h2⟩
def CP.deal (h:CP w0 hb B A cap l M base v ns u hs xs W){M':Nat}(hh:Hand W' hb B A cap l M')(k:KT (·=hb) W W'):CP w0 hb B A cap l M' base v ns u hs xs W' :=
 h.keep hh (λb hb' hne=>k.block b hb' hne) (h.kt.trans k) k.size
def CP.alloc (h:CP w0 hb B A cap l M base v ns u hs xs W)(o:Obj):CP w0 hb B A cap l M base v ns u hs xs (W.alloc o) :=
 h.keep (h.hand.gr ((Gr.refl W).alloc o)) (λb hb' _=>heap_alloc_old _ _ hb') (h.kt.trans (tX ((Gr.refl W).alloc o))) (by simp)
def CP.more (h:CP w0 hb B A cap l M base v ns u hs xs W){M':Nat}(hm:M<=M'):CP w0 hb B A cap l M' base v ns u hs xs W:=⟨h.hand.more hm,h.qobj,h.robj,h.own,h.herds,h.offs,h.kt,h.lt,h.bs⟩
def CP.cell (h:CP w0 hb B A cap l M base v ns u hs xs W):W.cell? ⟨w0.heap.size+1,1,none⟩=some u/\W.frozen? ⟨w0.heap.size+1,1,none⟩=false/\w0.heap.size+1<W.heap.size:=⟨(cell_of_heap h.qobj 1).1,(cell_of_heap h.qobj 1).2,(Array.getElem?_eq_some_iff.1 h.qobj).1⟩
def CP.push (h:CP w0 hb B A cap l M base v ns u hs xs W){w6:World}{o:Obj}{u' y:Value}{x:Herder}(hy:W.ownsRow base 3 1 y x.off.length (x.off.map (Value.int .i64)))(hown:w6.ownsRow base 59 4 u' (hs.length+1) (xs++gj x y))(hg:(W.alloc o).grownBy w6 u.ownBlock)(hd:(W.alloc o).drawn<=w6.drawn) :
  CP w0 hb B A cap l M base v ns u' (hs++[x]) (xs++gj x y) (w6.setCell ⟨w0.heap.size+1,1,none⟩ u'):=by
 have hlt:=h.lt
 have hbs:=h.bs
 have hxl:xs.length=hs.length*4:=h.herds.1
 have hq:=(grown_old h.herds hg (w0.heap.size+1) (by omega) (Array.getElem?_eq_some_iff.1 h.qobj).1).trans h.qobj
 have hr:=(grown_old h.herds hg w0.heap.size (by omega) (Array.getElem?_eq_some_iff.1 h.robj).1).trans h.robj
 have ok:∀ {n:Nat} {z:Value} {zs:List Value},W.ownsRow base 3 1 z n zs->(w6.setCell ⟨w0.heap.size+1,1,none⟩ u').ownsRow base 3 1 z n zs:=λho=>aG ho λg hg' hl =>
  (Below.heap_setCell _ _ _ _ (by have:=(ho.lt g hg').1;show g≠w0.heap.size+1;omega)).trans ((hg.block g (by simp;omega) (fO (by decide) ho h.herds hg')).trans (heap_alloc_old _ _ hl))
 refine⟨(cj h.hand h.herds (by omega) hg).set (by show hb<w0.heap.size+1;omega) _,?_,(Below.heap_setCell _ _ _ _ (by simp)).trans hr,ok h.own,?_,λi z hi=>?_,(cT h.kt h.herds (by omega) hg hd).set (by show _<=w0.heap.size+1;omega) _,hlt,hbs.1,by have:=dC hg;simp[World.setCell];omega⟩
 ·exact aF hq
 ·rw[List.length_append]
  exact ownsRow_setCell_below hown (by show w0.heap.size+1<base;omega) _
 ·rcases Nat.lt_or_ge i hs.length with hi'|hi'
  ·rw[List.getElem?_append_left hi'] at hi
   obtain⟨y',h1,h2⟩:=h.offs i z hi
   exact⟨y',λj hj=>by rw[List.getElem?_append_left (by omega)];exact h1 j hj,ok h2⟩
  ·have e : i = hs.length := by
    have:=(List.getElem?_eq_some_iff.1 hi).1
    simp at this;omega
   subst e
   rw[List.getElem?_append_right (Nat.le_refl _)] at hi
   simp at hi
   subst hi
   exact⟨y,λj hj=>by rw[List.getElem?_append_right (by omega),hxl];congr 1;omega,ok hy⟩
def CP.camp (h:CP w0 hb B A cap l M base v ns u hs xs W):∃nA nc hA hc,v=.slice nA ns.length nc/\u=.slice hA hs.length hc/\RIK W (λb=>base<=b/\b<W.heap.size) nA ns/\HsAtK W (λb=>base<=b/\b<W.heap.size) hA hs:=by
 obtain⟨nA,nc,e1,h1⟩:=RIK_of_own h.own
 rcases h.herds.2 with⟨rfl,h0⟩|⟨g,hc,cur,rfl,hgb,hgo,_⟩
 ·have:hs=[]:=List.eq_nil_of_length_eq_zero h0
  subst this
  exact⟨nA,nc,none,0,e1,rfl,h1,λhn=>absurd rfl hn⟩
 ·refine⟨nA,nc,some ⟨g,0,none⟩,hc,e1,rfl,h1,λ_=>⟨g,0,rfl,⟨hgb,(Array.getElem?_eq_some_iff.1 hgo).1⟩,λi x hi=>?_⟩⟩
  obtain⟨y,hj,ho⟩:=h.offs i x hi
  obtain⟨A',c',rfl,hr⟩:=RIK_of_own ho
  have hcell:=h.herds.cells (g:=g) rfl
  have at_:∀j z,j<4->(gj x (.slice A' x.off.length c'))[j]?=some z->W.cell? ⟨g,0+i*4+j,none⟩=some z:=λj z hj4 hz=>by
   have:=hcell (i*4+j) z ((hj j hj4).trans hz)
   have e:(⟨g,0,none⟩:Addr).add (i*4+j)=⟨g,0+(i*4+j),none⟩:=by unfold Addr.add;split<;>simp_all
   rw[e,<-Nat.add_assoc] at this
   exact this
  exact⟨at_ 0 _ (by omega) rfl,at_ 1 _ (by omega) rfl,at_ 2 _ (by omega) rfl,A',c',at_ 3 _ (by omega) rfl,hr⟩
end
end Go.Sq
namespace Go.Proofs.YtefcpflbnmldcaaGreat
open Go.RowKit Go.Sq
def js {w:World}{ops:Array Oper}{o:Oper}{a:Act}{K:Act->World->Prop}{Q:Exit->Act->World->Prop}{E:Prop}(hgd:o.guard=none)(h:Oper.wp uG o a w K Q):if Region.wanted o (yielded ops a.tmps)=true then Oper.wp uG o a w K Q else E:=by
 have hw:Region.wanted o (yielded ops a.tmps)=true:=by simp[Region.wanted,hgd]
 rw[if_pos hw];exact h
def m8 {w:World}{ops:Array Oper}{o:Oper}{a:Act}{K:Act->World->Prop}{Q:Exit->Act->World->Prop}{E:Prop}(hgd:o.guard=none)(s x:Operand)(ho:o.op=.call { callee:=.builtin .append,args:=#[s,x],argTypes:=#[22,22] })(hty:o.type=22)
  (base:Nat) (v:Value) (n:Nat) (xs:List Value) (hs:a.eval s=v) (hown:w.ownsRow base 3 1 v n xs) (y:Value) (h1:y.oneCell'=true) (hx:a.eval x=.slice (some ⟨w.heap.size,0,none⟩) 1 1) (hn:n<=1048576) (hbase:base<=w.heap.size)
  (h:∀v' w',w'.ownsRow base 3 1 v' (n+1) (xs++[y])->(w.alloc (.cells #[y] 3)).grownBy w' v.ownBlock->(w.alloc (.cells #[y] 3)).drawn<=w'.drawn->K (a.put o.dst v') w') :
  if Region.wanted o (yielded ops a.tmps)=true then Oper.wp uG o a (w.alloc (.cells #[y] 3)) K Q else E:=by
 have hw:Region.wanted o (yielded ops a.tmps)=true:=by simp[Region.wanted,hgd]
 rw[if_pos hw]
 obtain⟨i0,hi,hz0,hz1,hz2⟩:=info_parts uf
 obtain⟨v',w',hr,h2,h3,h4⟩:=run_append_own (P:=uG) (w.alloc (.cells #[y] 3)) base 22 22 3 i0 _ 1 8 ((Sq.underlying 22).trans Tryz.underlying22) hi hz0 hz1 hz2 rfl (by decide) v n xs (hown.alloc _) ⟨w.heap.size,0,none⟩ 1 1 [y] rfl (λj u hj=>by
  match j,hj with
  |0,hj=>cases hj;rw[Addr.add_lit,World.cell?_alloc_at _ _ _ _ (by simp)];rfl) (λu hu=>by simp at hu;subst hu;exact h1) (by unfold maxLen;omega) (by omega) (by simp;omega)
 have hd:=Go.Iso.drawn_mono uG (Builtin.append_ #[22,22] 22 #[v,.slice (some ⟨w.heap.size,0,none⟩) 1 1]) (w.alloc (.cells #[y] 3)) #[]
 rw[Sem.runT_fst,hr] at hd
 unfold Oper.wp execOp
 simp only[ho,resolve,invoke,builtin,Sem.run_bind,Sem.run_pure,Result.andThen_ok,List.map_toArray,List.map_cons,List.map_nil,hs,hx,hr,hty]
 exact h v' w' h2 h3 hd
def tH {w:World}{ops:Array Oper}{rest:List Oper}{o:Oper}{a:Act}{Q:Exit->Act->World->Prop}(hgd:o.guard=none)(s x:Operand)(ho:o.op=.call { callee:=.builtin .append,args:=#[s,x],argTypes:=#[23,23] })
  (base:Nat) (v:Value) (n:Nat) (xs:List Value) (hs:a.eval s=v) (hown:w.ownsRow base 59 4 v n xs) (ad:Addr) (c:Nat) (news:List Value) (hx:a.eval x=.slice (some ad) 1 c) (h4:news.length=4) (hc:∀(j:Nat) (u:Value),news[j]?=some u->w.cell? (ad.add j)=some u) (h1:∀u∈news,u.oneCell'=true)
  (hn:n<=1048576) (hbase:base<=w.heap.size) (h:∀v' w',w'.ownsRow base 59 4 v' (n+1) (xs++news)->w.grownBy w' v.ownBlock->w.drawn<=w'.drawn->wpList uG ops Q rest (a.put o.dst v') w'):wpList uG ops Q (o::rest) a w:=by
 obtain⟨i0,hi,hz0,hz1,hz2⟩:=info_parts uq
 exact wpList_append_gr hgd s x 23 ho base 59 i0 _ 4 48 Sq.underlying23 hi hz0 hz1 hz2 rfl (by decide) v n xs hs hown ad 1 c news hx (by omega) hc h1 (by unfold maxLen;omega) (by omega) hbase h
def qs (hb B:Nat)(A:Option Addr)(cap:Nat)(l:List Int)(N:Nat)(w:World)(h:Hand w hb B A cap l N)(hN:N<=10000) :
  Calls uG 21 #[.pointer (some ⟨hb,0,none⟩),.int .i64 5,.int .i64 4] w λe w'=>∃c nA hA nc hc,e=.returned (campV nA hA c nc hc)/\c.Ok/\checkE c=0/\RIK w' (λb=>w.heap.size<=b/\b<w'.heap.size) nA c.needs/\HsAtK w' (λb=>w.heap.size<=b/\b<w'.heap.size) hA c.herders/\Hand w' hb B A cap l (N+1000)/\KH hb w w':=by
 obtain⟨W0,hW0⟩:∃W0:World,W0=(w.alloc (.cells #[.slice none 0 0,.slice none 0 0] 25)).alloc (.cells #[.slice none 0 0,.slice none 0 0] 25):=⟨_,rfl⟩
 have hg0:Gr w W0:=hW0▸((Gr.refl w).alloc _).alloc _
 have HZ0:Hid (W0.heap.size=w.heap.size+2):=tT (by rw[hW0];simp)
 have HH:=tT (h.gr hg0)
 have hlt:=h.lt
 have HW:=tT hW0
 have HG0:=tT hg0
 have HAM:=tT (dG hb B A cap l N 1 5 W0 (h.gr hg0) (by omega) (by omega) (by omega))
 have HCO0:Hid (CO w hb B A cap l N (w.heap.size+2) (.slice none 0 0) [] W0):=tT ⟨h.gr hg0,by rw[hW0];exact aK _ _ (by simp),by rw[hW0,heap_alloc_old _ _ (by simp)];exact heap_alloc_new _ _,World.ownsRow_nil _ _ _ _,⟨hg0.below.os,hg0.below.tape,hg0.below.output,hg0.drawn,hg0.size,λb hb' _=>hg0.below.block b hb'⟩,hlt,by rw[hW0];simp⟩
 clear hW0 hg0 h
 go_enter Sq.func21,Tryz.ntmps21
 go_wp2_with fail
 rw[<-HW.out]
 refine HAM.out.mono ?_
 rintro e w1 ⟨⟨n,rfl,hn1,hn5⟩,hh,hkt⟩
 have HCO1:=tT (HCO0.out.deal hh hkt)
 clear hh hkt HAM
 go_wp2
 go_loopw [9] (λi wr=>∃k:Nat,k<=n/\i=.int .i64 k/\∃v ns,CO w hb B A cap l (N+1+4*k) (w.heap.size+2) v ns wr/\ns.length=k/\∀x∈ns,0<=x/\x<=12) (λi _=>n-(intOf i).toNat)
 case atStart=>exact⟨0,by omega,rfl,_,[],HCO1.out,rfl,λx hx=>by simp at hx⟩
 case round =>
  obtain⟨k,hk,rfl,v,ns,HCO,hnl,hns⟩:=hrel
  have HNS:=tT hns
  clear hns
  by_cases hlk:k<n
  ·obtain⟨c0,f0,l0⟩:=HCO.drew.cell
   obtain⟨c9,f9,l9⟩:=HCO.cell
   replace HCO:=tT HCO.drew
   go_wp2
   clear c9 f9 l9
   go_region_law (first
    |(refine m8 (by rfl) _ _ (by rfl) (by rfl) (w.heap.size+2) _ _ _ (by rfl) HCO.out.own (.int .i64 z) rfl (by rfl) (by omega) HCO.out.bs.2 ?_;intro v' w6 hown6 hgrow6 hd6;clear c0 f0 l0;have hq6:=(grown_old HCO.out.own hgrow6 (w.heap.size+1) (by omega) (Array.getElem?_eq_some_iff.1 HCO.out.qobj).1).trans HCO.out.qobj;have c6:=(cell_of_heap hq6 0).1;have f6:=(cell_of_heap hq6 0).2;have hown7:w6.ownsRow (w.heap.size+2) 3 1 v' (ns++[z]).length ((ns++[z]).map (Value.int .i64)):=(by simpa using hown6);obtain⟨A6,k6,hv6,_⟩:=tZ hown7;subst hv6)
    |(refine js (by rfl) ?_;go_simp;first
     |(go_at_call 32;refine(dj hb B A cap l _ _ _ HCO.out.hand (by omega) (by omega)).mono ?_;rintro e w' ⟨⟨q,rfl,hq⟩,hh,hkt⟩;replace HCO:=tT (HCO.out.deal hh hkt);clear c0 f0 l0 hh hkt;obtain⟨c0,f0,l0⟩:=HCO.out.cell;dsimp only)
     |(go_at_call 73;refine(gX hb B A _ cap 2 l [_,_] _ _ _ (HCO.out.alloc _).hand (by omega) (by simp) (tN (HCO.out.room _))).mono ?_;rintro e w' ⟨⟨z,rfl,hz⟩,hh,hkt⟩;have hz12:0<=z/\z<=12:=(by simp only[List.mem_cons,List.not_mem_nil,or_false] at hz;omega);replace HCO:=tT ((HCO.out.alloc _).deal hh hkt);clear c0 f0 l0 hh hkt;have HZ:=tT hz12;obtain⟨c0,f0,l0⟩:=HCO.out.cell;dsimp only)))
   all_goals
    have HCO9:=tT ((HCO.out.push hown7 hgrow6 hd6).more (M':=N+1+4*(k+1)) (by omega))
    have hl9:(ns++[z]).length=k+1:=by simp[hnl]
    rw[hl9] at HCO9
    have HNS9:Hid (∀x∈ns++[z],0<=x/\x<=12):=tT λx hx=>by
     rcases List.mem_append.1 hx with hx|hx
     ·exact HNS.out x hx
     ·simp only[List.mem_cons,List.not_mem_nil,or_false] at hx
      subst hx;exact HZ.out
    clear hown7 hgrow6 hd6 hown6 HCO c6 f6 hq6
    go_wp2
    go_roundw
    case rel=>exact⟨k+1,by omega,by go_num,_,_,HCO9.out,hl9,HNS9.out⟩
    case measure=>simp[intOf];omega
  ·have hkn:k=n:=by omega
   subst hkn
   have HCP:=tT (HCO.cp.more (M':=N+30) (by omega))
   have HAM2:=tT (dG hb B A cap l (N+30) 1 4 wr HCP.out.hand (by omega) (by omega) (by omega))
   clear HCO
   go_wp2_with fail
   refine HAM2.out.mono ?_
   rintro e w2 ⟨⟨m,rfl,hm1,hm4⟩,hh,hkt⟩
   have HCP2:=tT (HCP.out.deal hh hkt)
   clear hh hkt HAM2 HCP
   go_wp2
   go_loopw [10] (λi wr=>∃j:Nat,j<=m/\i=.int .i64 j/\∃u hs xs,CP w hb B A cap l (N+31+20*(m-j)) (w.heap.size+2) v ns u hs xs wr/\hs.length=m-j/\∀h∈hs,herdE ns.length h=0) (λi _=>(intOf i).toNat)
   case atStart=>exact⟨m,by omega,rfl,_,[],[],HCP2.out.more (by omega),by simp,λh hh=>by simp at hh⟩
   case round =>
    obtain⟨wq,rfl⟩:∃wq,wq=wr:=⟨_,rfl⟩
    obtain⟨j,hj,rfl,u,hs,xs,hcp,hhl,hhs⟩:=hrel
    have HP:=tT hcp
    have HHS:=tT hhs
    clear hcp hhs
    by_cases hj0:0<j
    ·have HA1:=tT (dG hb B A cap l _ 1 6 wq HP.out.hand (by omega) (by omega) (by omega))
     go_wp2_with fail
     refine HA1.out.mono ?_
     rintro e v1 ⟨⟨a1,rfl,ha1,hb1⟩,hh,hkt⟩
     have HP1:=tT (HP.out.deal hh hkt)
     have HA2:=tT (dG hb B A cap l _ 1 40 v1 hh (by omega) (by omega) (by omega))
     clear hh hkt HA1
     go_wp2_with fail
     refine HA2.out.mono ?_
     rintro e v2 ⟨⟨a2,rfl,ha2,hb2⟩,hh,hkt⟩
     have HP2:=tT (HP1.out.deal hh hkt)
     have hhl2:=hh.lt
     have HA3:=tT (gX hb B A (some ⟨v2.heap.size,0,none⟩) cap 1 l [(a2:Int)] _ a1 (v2.alloc (.cells #[.int .i64 a2] 3)) (HP2.out.alloc _).hand (by omega) (by simp) (td (by simp;omega)))
     clear hh hkt HA2
     go_wp2_with fail
     refine HA3.out.mono ?_
     rintro e v3 ⟨⟨a3,rfl,ha3⟩,hh,hkt⟩
     have h340:1<=a3/\a3<=40:=by simp only[List.mem_cons,List.not_mem_nil,or_false] at ha3;omega
     have HP3:=tT ((HP2.out.alloc _).deal hh hkt)
     have HA4:=tT (dG hb B A cap l _ 1 5 v3 hh (by omega) (by omega) (by omega))
     clear hh hkt HA3
     go_wp2_with fail
     refine HA4.out.mono ?_
     rintro e v4 ⟨⟨a4,rfl,ha4,hb4⟩,hh,hkt⟩
     have HP4:=tT (HP3.out.deal hh hkt)
     have HA5:=tT (dG hb B A cap l _ 0 3 v4 hh (by omega) (by omega) (by omega))
     clear hh hkt HA4
     go_wp2_with fail
     refine HA5.out.mono ?_
     rintro e v5 ⟨⟨a5,rfl,ha5,hb5⟩,hh,hkt⟩
     have HP5:=tT ((HP4.out.deal hh hkt).more (M':=N+31+20*(m-j)+5) (by omega))
     have hlt5:=hh.lt
     clear hh hkt HA5 HP HP1 HP2 HP3 HP4
     obtain⟨vX,hvX⟩:∃vX:World,vX=v5.alloc (.cells #[.int .i64 a3,.int .i64 a4,.int .i64 a5,.slice none 0 0] 59):=⟨_,rfl⟩
     have HX0:Hid (vX.heap[v5.heap.size]?=some (.cells #[.int .i64 a3,.int .i64 a4,.int .i64 a5,.slice none 0 0] 59 (0,0))):=tT (by rw[hvX];exact heap_alloc_new _ _)
     have HPX:=tT (hvX▸HP5.out.alloc (.cells #[.int .i64 a3,.int .i64 a4,.int .i64 a5,.slice none 0 0] 59))
     have HZX:Hid (vX.heap.size=v5.heap.size+1):=tT (by rw[hvX];simp)
     have HKX:Hid (KT (·=hb) v5 vX):=tT (hvX▸tX ((Gr.refl v5).alloc _))
     have HVX:=tT hvX
     clear hvX
     go_wp2
     rw[<-HVX.out]
     go_loopw [12] (λi wr=>∃t:Nat,t<=k/\i=.int .i64 t/\∃y p,KT (·=hb) v5 wr/\Hand wr hb B A cap l (N+31+20*(m-j)+5+t)/\wr.heap[v5.heap.size]?=some (.cells #[.int .i64 a3,.int .i64 a4,.int .i64 a5,y] 59 (0,0))/\wr.ownsRow (v5.heap.size+1) 3 1 y (chosen p t).length ((chosen p t).map (Value.int .i64))) (λi _=>k-(intOf i).toNat)
     case atStart=>exact⟨0,by omega,rfl,_,λ_=>false,HKX.out,HPX.out.hand,HX0.out,World.ownsRow_nil _ _ _ _⟩
     case round =>
      obtain⟨t,ht,rfl,y,p,hkt,hh,hxo,hown⟩:=hrel
      have HK:=tT hkt
      have HO:=tT hown
      have HXO:=tT hxo
      have hzw:=hkt.size
      have hXl:=(Array.getElem?_eq_some_iff.1 hxo).1
      by_cases htk:t<k
      ·have HOD:=tT (pa hb B A cap l _ 1 6 wr hh (by omega) (by omega))
       clear hh hkt hown hxo
       go_wp2_with fail
       refine HOD.out.mono ?_
       rintro e w8 ⟨⟨bo,rfl⟩,hh,hkt⟩
       have hXne:v5.heap.size≠hb:=by omega
       have HK8:=tT (HK.out.trans hkt)
       have hown8:=dT HO.out (show hb<v5.heap.size+1 by omega) hkt
       have hx8:=(hkt.block _ hXl hXne).trans HXO.out
       have HX8:=tT hx8
       have c8:=(cell_of_heap hx8 3).1
       have f8:=(cell_of_heap hx8 3).2
       have hXl8:=(Array.getElem?_eq_some_iff.1 hx8).1
       have HH8:=tT hh
       have HO8:=tT hown8
       obtain⟨p2,hp2⟩:∃p2:Nat->Bool,p2=λq=>if q=t then bo else p q:=⟨_,rfl⟩
       have HP:=tT (gD p2 t)
       have HPT:Hid (p2 t=bo):=tT (by rw[hp2];simp)
       have HP0:=tT (fU (p:=p2) (q:=p) (k:=t) λi hi=>by rw[hp2];exact if_neg (by omega))
       clear hp2
       have hcl:=dA p t
       have hz8:=HK8.out.size
       have hZX:=HZX.out
       clear hkt hh HOD hx8
       obtain⟨yA,yc,hyv,_⟩:=tZ hown8
       subst hyv
       cases bo with
       |true =>
        clear hZX
        go_wp2_with (at_builtin;refine iB rfl _ _ rfl (v5.heap.size+1) _ _ _ rfl (hown8.alloc _) ⟨w8.heap.size,0,none⟩ 1 (.int .i64 t) rfl ?c1 rfl ?c2 ?c3 ?_)
        case c1=>first|(rw[Addr.add_lit,World.cell?_alloc_at _ _ _ _ (by simp)];rfl)|(rw[World.cell?_alloc_at _ _ _ _ (by simp)];rfl)
        case c2=>omega
        case c3=>simp;omega
        intro v' w9 hown' hgrow hd
        have hown9:w9.ownsRow (v5.heap.size+1) 3 1 v' (chosen p2 (t+1)).length ((chosen p2 (t+1)).map (Value.int .i64)):=by
         rw[HP.out,HP0.out,if_pos HPT.out];simpa using hown'
        obtain⟨A9,c9,hv9,_⟩:=tZ hown9
        subst hv9
        have hx9:=(grown_old HO8.out hgrow v5.heap.size (by omega) hXl8).trans HX8.out
        have d9:=(cell_of_heap hx9 3).1
        have g9:=(cell_of_heap hx9 3).2
        have hl9:(chosen p t).length+1=(chosen p2 (t+1)).length:=by rw[HP.out,HP0.out,if_pos HPT.out];simp
        have HK9:=tT ((cT HK8.out HO8.out (by omega) hgrow hd).set (p:=⟨v5.heap.size,3,none⟩) (Nat.le_refl _) (.slice A9 (chosen p2 (t+1)).length c9))
        have HH9:=tT (((cj HH8.out HO8.out (by omega) hgrow).set (p:=⟨v5.heap.size,3,none⟩) hlt5 (.slice A9 (chosen p2 (t+1)).length c9)).more (M:=N+31+20*(m-j)+5+(t+1)) (by omega))
        have HX9:=tT (aF (i:=3) (u:=.slice A9 (chosen p2 (t+1)).length c9) hx9)
        have HO9:=tT (ownsRow_setCell_below hown9 (show(⟨v5.heap.size,3,none⟩:Addr).block<v5.heap.size+1 from Nat.lt_succ_self _) (.slice A9 (chosen p2 (t+1)).length c9))
        clear hown' hgrow hd hown9 hown8 hx9
        go_wp2
        go_roundw
        case rel=>exact⟨t+1,by omega,by go_num,_,_,HK9.out,HH9.out,HX9.out,HO9.out⟩
        case measure=>simp[intOf];omega
       |false =>
        have HO9:Hid (w8.ownsRow (v5.heap.size+1) 3 1 (.slice yA (chosen p t).length yc) (chosen p2 (t+1)).length ((chosen p2 (t+1)).map (Value.int .i64))):=tT (by
         rw[HP.out,HP0.out,if_neg (by rw[HPT.out];simp)];simpa using HO8.out)
        clear hown8
        go_wp2
        go_roundw
        case rel=>exact⟨t+1,by omega,by go_num,_,_,HK8.out,HH8.out,HX8.out,HO9.out⟩
        case measure=>simp[intOf];omega
      ·have htk2:t=k:=by omega
       subst htk2
       have HH9:=tT hh
       obtain⟨yA,yc,hyv,_⟩:=tZ hown
       subst hyv
       have HPE:=tT (HP5.out.deal hh hkt)
       obtain⟨cu,fu,lu⟩:=HPE.out.cell
       have x0:=(cell_of_heap hxo 0).1
       have x1:=(cell_of_heap hxo 1).1
       have x2:=(cell_of_heap hxo 2).1
       have x3:=(cell_of_heap hxo 3).1
       have hh54:=HPE.out.herds
       have HOE:=tT (cy hown (show w.heap.size+2<=v5.heap.size+1 by have:=HP5.out.bs;omega))
       clear hh hkt hown hxo
       go_wp2_with (at_builtin;refine tH rfl _ _ rfl (w.heap.size+2) _ _ _ rfl (hh54.alloc _) ⟨wr.heap.size,0,none⟩ 1 [.int .i64 a3,.int .i64 a4,.int .i64 a5,.slice yA (chosen p t).length yc] rfl rfl ?c1 ?c2 ?c3 ?c4 ?_)
       case c1 =>
        intro q z hq
        rw[Addr.add_lit,Nat.zero_add,World.cell?_alloc_at _ _ _ _ (by simp)]
        match q,hq with
        |0,hq=>exact hq
        |1,hq=>exact hq
        |2,hq=>exact hq
        |3,hq=>exact hq
        |q+4,hq=>simp at hq
       case c2=>intro z hz;simp at hz;rcases hz with rfl|rfl|rfl|rfl<;>rfl
       case c3=>omega
       case c4=>have:=HPE.out.bs.2;simp;omega
       intro u' w9 hown' hgrow hd
       obtain⟨gU,cU,rfl,_,_⟩:=hown'.form (by omega)
       have HPN:=tT (HPE.out.push (x:=⟨a3,a4,a5,chosen p t⟩) HOE.out (by rw[hhl];exact hown') hgrow hd)
       have hq9:=(grown_old HPE.out.herds hgrow (w.heap.size+1) (by omega) (Array.getElem?_eq_some_iff.1 HPE.out.qobj).1).trans HPE.out.qobj
       have cq:=(cell_of_heap hq9 1).1
       have fq:=(cell_of_heap hq9 1).2
       have HHN:Hid (∀h∈hs++[(⟨a3,a4,a5,chosen p t⟩:Herder)],herdE ns.length h=0):=tT λh hh=>by
        rcases List.mem_append.1 hh with hh|hh
        ·exact HHS.out h hh
        ·simp only[List.mem_cons,List.not_mem_nil,or_false] at hh
         subst hh
         unfold herdE
         rw[if_pos (by simp[inR];omega),hnl]
         exact jq p t
       clear hown' hgrow hd hh54 hq9
       go_wp2
       go_roundw
       case rel=>exact⟨j-1,by omega,by go_num,_,_,_,HPN.out.more (by omega),by simp[hhl];omega,HHN.out⟩
       case measure=>simp[intOf];omega
    ·have hj00:j=0:=by omega
     subst hj00
     obtain⟨nA,nc,hA,hc,rfl,rfl,hN1,hH1⟩:=HP.out.camp
     have HR1:=tT hN1
     have HR2:=tT hH1
     have q0:=(cell_of_heap HP.out.qobj 0).1
     have q1:=(cell_of_heap HP.out.qobj 1).1
     have r0:=(cell_of_heap HP.out.robj 0).1
     have r1:=(cell_of_heap HP.out.robj 1).1
     have g0:=(cell_of_heap HP.out.robj 0).2
     have g1:=(cell_of_heap HP.out.robj 1).2
     have HCE:Hid (checkE ⟨ns,hs⟩=0):=tT (by
      unfold checkE
      have e1:manyE (ns.length:Int) 1 5=0:=ci.2 (by omega)
      have e2:manyE (hs.length:Int) 1 4=0:=ci.2 (by omega)
      rw[if_neg (by simp[e1]),if_neg,if_neg (by simp[e2])]
      ·exact bu.2 fun x hx => by
        obtain⟨h,hh,rfl⟩:=List.mem_map.1 hx
        exact HHS.out h hh
      ·have : (ns.all fun x => inR x 0 12) = true := List.all_eq_true.2 fun x hx => by
        have:=HNS.out x hx
        simp[inR];omega
       rw[this];simp)
     have hhm:hs.length=m:=by omega
     have HKF:Hid (KT (·=hb) w ((wq.setCell ⟨w.heap.size,0,none⟩ (.slice nA k nc)).setCell ⟨w.heap.size,1,none⟩ (.slice hA m hc))):=tT ((HP.out.kt.set (p:=⟨w.heap.size,0,none⟩) (Nat.le_refl _) _).set (p:=⟨w.heap.size,1,none⟩) (Nat.le_refl _) _)
     have HHF:Hid (Hand ((wq.setCell ⟨w.heap.size,0,none⟩ (.slice nA k nc)).setCell ⟨w.heap.size,1,none⟩ (.slice hA m hc)) hb B A cap l (N+1000)):=tT (((HP.out.hand.set (p:=⟨w.heap.size,0,none⟩) hlt _).set (p:=⟨w.heap.size,1,none⟩) hlt _).more (by omega))
     have HRF:Hid (RIK ((wq.setCell ⟨w.heap.size,0,none⟩ (.slice nA k nc)).setCell ⟨w.heap.size,1,none⟩ (.slice hA m hc)) (λb=>w.heap.size<=b/\b<((wq.setCell ⟨w.heap.size,0,none⟩ (.slice nA k nc)).setCell ⟨w.heap.size,1,none⟩ (.slice hA m hc)).heap.size) nA ns):=tT (eX hN1 (λb hb'=>⟨by omega,by have:=hb'.2;simpa [World.setCell] using this⟩) λb o hb'=>(World.cell?_of_block (Below.heap_setCell _ _ _ _ (by show b≠w.heap.size;omega))).trans (World.cell?_of_block (Below.heap_setCell _ _ _ _ (by show b≠w.heap.size;omega))))
     have HRG:Hid (HsAtK ((wq.setCell ⟨w.heap.size,0,none⟩ (.slice nA k nc)).setCell ⟨w.heap.size,1,none⟩ (.slice hA m hc)) (λb=>w.heap.size<=b/\b<((wq.setCell ⟨w.heap.size,0,none⟩ (.slice nA k nc)).setCell ⟨w.heap.size,1,none⟩ (.slice hA m hc)).heap.size) hA hs):=tT (gY hH1 (λb hb'=>⟨by omega,by have:=hb'.2;simpa [World.setCell] using this⟩) λb o hb'=>(World.cell?_of_block (Below.heap_setCell _ _ _ _ (by show b≠w.heap.size;omega))).trans (World.cell?_of_block (Below.heap_setCell _ _ _ _ (by show b≠w.heap.size;omega))))
     clear hN1 hH1
     go_wp2
     have s1:=World.cell?_setCell_same (wq.setCell ⟨w.heap.size,0,none⟩ (.slice nA k nc)) ⟨w.heap.size,1,none⟩ (.slice hA m hc) ((World.cell?_setCell_other wq ⟨w.heap.size,0,none⟩ ⟨w.heap.size,1,none⟩ (.slice nA k nc) (by simp)).trans r1)
     have s0:=(World.cell?_setCell_other (wq.setCell ⟨w.heap.size,0,none⟩ (.slice nA k nc)) ⟨w.heap.size,1,none⟩ ⟨w.heap.size,0,none⟩ (.slice hA m hc) (by simp)).trans (World.cell?_setCell_same wq ⟨w.heap.size,0,none⟩ (.slice nA k nc) r0)
     refine bodyPost_ret (v:=.agg #[.slice nA k nc,.slice hA m hc]) (by simp[results,Tryz.results21,go_sem,s0,s1]) rfl ⟨⟨ns,hs⟩,nA,hA,nc,hc,by rw[<-hnl,<-hhm];rfl,Camp.Ok.of HCE.out,HCE.out,HRF.out,HRG.out,HHF.out,HKF.out⟩
open Go.RowKit Go.Sq
open Go.Iso (bH dz cZ)
def _root_.Go.Iso.goesTo_seq_k {P:Program}{l c r:Code}{N:Act->World->Prop}{a:Act}{w:World}(h:∀K:Act->World->Prop,(∀a w,bH P l r N a w->K a w)->c.wp P (Exit.then K λ_ _ _=>False) a w):bH P l (.seq c r) N a w :=
 dz (h _ λ_ _ h=>h)
def cSnd:Code->Code
 |.seq _ c=>c
 |c=>c
def cFst:Code->Code
 |.seq c _=>c
 |c=>c
def cDrop:Nat->Code->Code
 |0,c=>c
 |n+1,c=>cDrop n (cSnd c)
def _root_.Go.Sq.RI.on {w w':World}{A:Option Addr}{l:List Int}(h:RI w w.heap.size A l)(hg:Gr w w'):RI w' w'.heap.size A l:=(h.gr (Nat.le_refl _) hg).more hg.size
structure Made (c:Camp)(nA hA gA:Option Addr)(cb:Nat)(nc hc:Nat)(ls:List (List Int))(W:World):Prop where
 lt:cb<W.heap.size
 c0:W.cell? ⟨cb,0,none⟩=some (.slice nA c.needs.length nc)
 c1:W.cell? ⟨cb,1,none⟩=some (.slice hA c.herders.length hc)
 needs:RI W W.heap.size nA c.needs
 herds:HsAt W W.heap.size hA c.herders
 grid:GrAt W W.heap.size gA ls
def Made.gr {c:Camp}{nA hA gA:Option Addr}{cb nc hc:Nat}{ls:List (List Int)}{W W':World}(h:Made c nA hA gA cb nc hc ls W)(hg:Gr W W'):Made c nA hA gA cb nc hc ls W' :=
 ⟨Nat.lt_of_lt_of_le h.lt hg.size,(hg.cell (p:=⟨cb,0,none⟩) h.lt).trans h.c0,(hg.cell (p:=⟨cb,1,none⟩) h.lt).trans h.c1,(h.needs.gr (Nat.le_refl _) hg).more hg.size,(h.herds.keep λ_ _ hb=>hg.cell hb).more hg.size,(h.grid.gr (Nat.le_refl _) hg).more hg.size⟩
structure MadeK (c:Camp)(nA hA:Option Addr)(v:Value)(cb nc hc lo:Nat)(ls:List (List Int))(xs:List Value)(W:World):Prop where
 bd:lo<=cb/\cb<W.heap.size
 c0:W.cell? ⟨cb,0,none⟩=some (.slice nA c.needs.length nc)
 c1:W.cell? ⟨cb,1,none⟩=some (.slice hA c.herders.length hc)
 needs:RIK W (λb=>lo<=b/\b<W.heap.size) nA c.needs
 herds:HsAtK W (λb=>lo<=b/\b<W.heap.size) hA c.herders
 grid:OwnGrid W lo v ls xs
section
variable {c:Camp} {nA hA:Option Addr} {v:Value} {cb nc hc lo:Nat} {ls:List (List Int)} {xs:List Value} {W W':World}
def MadeK.keep (h:MadeK c nA hA v cb nc hc lo ls xs W)(hz:W.heap.size<=W'.heap.size)(hk:∀b,lo<=b->b<W.heap.size->W'.heap[b]?=W.heap[b]?):MadeK c nA hA v cb nc hc lo ls xs W':=by
 obtain⟨h1,h2⟩:=h.bd
 have hc':∀b o,lo<=b/\b<W.heap.size->W'.cell? ⟨b,o,none⟩=W.cell? ⟨b,o,none⟩:=λb o hb=>World.cell?_of_block (hk b hb.1 hb.2)
 exact⟨⟨h1,by omega⟩,(hc' _ _ ⟨h1,h2⟩).trans h.c0,(hc' _ _ ⟨h1,h2⟩).trans h.c1,eX h.needs (λb hb=>⟨hb.1,by omega⟩) hc',gY h.herds (λb hb=>⟨hb.1,by omega⟩) hc',h.grid.keep' hk⟩
def MadeK.deal {hb:Nat}(h:MadeK c nA hA v cb nc hc lo ls xs W)(hb':hb<lo)(k:KT (·=hb) W W'):MadeK c nA hA v cb nc hc lo ls xs W':=h.keep k.size λb h1 h2=>k.block b h2 (by omega)
def MadeK.made {gA:Option Addr}{gc:Nat}(h:MadeK c nA hA (.slice gA ls.length gc) cb nc hc lo ls xs W):Made c nA hA gA cb nc hc ls W:=by
 obtain⟨A,k,e,hg⟩:=h.grid.grAt
 injection e with e1 e2 e3
 subst e1
 exact⟨h.bd.2,h.c0,h.c1,h.needs.ri λb hb=>hb.2,h.herds.hs λb hb=>hb.2,hg⟩
end
def _root_.Go.Sq.RsAt.more {w:World}{B B':Nat}{A:Option Addr}{l:List (Int×Int)}(h:RsAt w B A l)(hB:B<=B'):RsAt w B' A l:=λhn=>by
 obtain⟨b,o,e,hb,hc⟩:=h hn
 exact⟨b,o,e,Nat.lt_of_lt_of_le hb hB,hc⟩
end Go.Proofs.YtefcpflbnmldcaaGreat
namespace Go.Sq
def m9 (l:List Int)(h0:∀x∈l,0<=x):0<=l.sum:=by
 induction l with
 |nil=>simp
 |cons a l ih =>
  have h2:=h0 a (by simp)
  have:=ih (λx hx=>h0 x (by simp[hx]))
  simp only[List.sum_cons];omega
def cntBy (f:Int×Int->Int)(ls:List (Int×Int))(t:Int):Nat:=ls.countP λp=>f p==t
def fV (f:Int×Int->Int)(a b:List (Int×Int))(t:Int):cntBy f (a++b) t=cntBy f a t+cntBy f b t:=by simp[cntBy]
def cntBy_on (f:Int×Int->Int)(ks:List Int)(hn:ks.Nodup)(ls:List (Int×Int))(h:∀p∈ls,f p∈ks):(ks.map λt=>(cntBy f ls t:Int)).sum=ls.length:=by
 induction ls with
 |nil =>
  have:∀l:List Int,(l.map λt=>((cntBy f [] t:Nat):Int)).sum=0:=λl=>by
   induction l with
   |nil=>rfl
   |cons a l ih=>simp only[List.map_cons,List.sum_cons,ih];simp[cntBy]
  simpa using this ks
 |cons p ls ih =>
  have h1:=ih λq hq=>h q (by simp[hq])
  have h2:=h p (by simp)
  have one:∀l:List Int,l.Nodup->(l.map λt=>(cntBy f (p::ls) t:Int)).sum=(l.map λt=>(cntBy f ls t:Int)).sum+if f p∈l then 1 else 0:=λl=>by
   induction l with
   |nil=>intro _;simp
   |cons a l ihl =>
    intro hl
    obtain⟨hl1,hl2⟩:=List.nodup_cons.1 hl
    have e:(cntBy f (p::ls) a:Int)=(cntBy f ls a:Int)+if f p=a then 1 else 0:=by
     unfold cntBy
     rw[List.countP_cons]
     by_cases hm:f p=a<;>simp[hm]
    simp only[List.map_cons,List.sum_cons,ihl hl2,e,List.mem_cons]
    by_cases hm:f p=a
    ·have:¬f p∈l:=hm▸hl1
     rw[if_pos hm,if_neg this,if_pos (.inl hm)];omega
    ·by_cases hq:f p∈l
     ·rw[if_neg hm,if_pos hq,if_pos (.inr hq)];omega
     ·rw[if_neg hm,if_neg hq,if_neg (λh=>h.elim hm hq)];omega
  rw[one ks hn,h1,if_pos h2]
  simp
def lossIt_night (d:Nat)(s:List Int×List (Int×Int))(m:Nat):∃l:List (Int×Int),(lossIt d s m).2=s.2++l/\l.length<=m/\∀p∈l,p.1=d:=by
 induction m with
 |zero=>exact⟨[],by simp[lossIt],by simp,λp hp=>by simp at hp⟩
 |succ m ih =>
  obtain⟨l,h1,h2,h3⟩:=ih
  show ∃l,(bZ d (lossIt d s m)).2=_/\_
  unfold bZ
  split
  ·exact⟨l,h1,by omega,h3⟩
  ·refine⟨l++[((d:Int),mostN (lossIt d s m).1 (lossIt d s m).1.length)],by simp only[h1,List.append_assoc],by simp;omega,λp hp=>?_⟩
   rcases List.mem_append.1 hp with hp|hp
   ·exact h3 p hp
   ·simp only[List.mem_cons,List.not_mem_nil,or_false] at hp
    rw[hp]
def dU (f:Int×Int->Int)(l:List (Int×Int))(t:Int):cntBy f l t<=l.length:=List.countP_le_length
def jH (c:Camp)(r:Ros)(ws:List Int)(k:Nat):(∀p∈(lossAll c r ws k).2,∃j:Nat,j<k/\p.1=j/\0<tooMany c r ws j)/\∀j:Nat,j<k->cntBy (·.1) (lossAll c r ws k).2 j<=tooMany c r ws j:=by
 induction k with
 |zero=>exact⟨λp hp=>by simp[lossAll] at hp,λj hj=>by omega⟩
 |succ k ih =>
  obtain⟨l,h1,h2,h3⟩:=lossIt_night k (lossAll c r ws k) (tooMany c r ws k)
  have e:(lossAll c r ws (k+1)).2=(lossAll c r ws k).2++l:=h1
  refine⟨λp hp=>?_,λj hj=>?_⟩
  ·rw[e] at hp
   rcases List.mem_append.1 hp with hp|hp
   ·obtain⟨j,a1,a2,a3⟩:=ih.1 p hp
    exact⟨j,by omega,a2,a3⟩
   ·have:=List.length_pos_of_mem hp
    exact⟨k,by omega,h3 p hp,by omega⟩
  ·rw[e,fV]
   by_cases hk:j=k
   ·subst hk
    have z:cntBy (·.1) (lossAll c r ws j).2 j=0:=by
     unfold cntBy
     rw[List.countP_eq_zero]
     intro p hp hq
     obtain⟨i,a1,a2,a3⟩:=ih.1 p hp
     have:p.1=(j:Int):=by simpa using hq
     omega
    have:=dU (·.1) l j
    omega
   ·have z : cntBy (·.1) l j = 0 := by
     unfold cntBy
     rw[List.countP_eq_zero]
     intro p hp hq
     have:=h3 p hp
     have:p.1=(j:Int):=by simpa using hq
     omega
    have:=ih.2 j (by omega)
    omega
def losses_night {c:Camp}{r:Ros}{ws:List Int}{p:Int×Int}(h:p∈lossesL c r ws):∃j:Nat,j<ws.length/\p.1=j/\0<tooMany c r ws j:=(jH c r ws ws.length).1 p h
def lostL (c:Camp)(r:Ros)(n:Nat)(rs:List (Int×Int)):List Int:=(List.range c.herders.length).map λh:Nat=>(cntBy (·.2) (lossesL c r (wolvesL n rs rs.length)) h:Int)
def sumTo_congr {f g:Nat->Int}{n:Nat}(h:∀i,i<n->f i=g i):sumTo f n=sumTo g n:=by
 induction n with
 |zero=>rfl
 |succ n ih=>unfold sumTo;rw[ih λi hi=>h i (by omega),h n (by omega)]
def jt (f g:Nat->Int)(n:Nat):sumTo (λi=>f i+g i) n=sumTo f n+sumTo g n:=by
 induction n with
 |zero=>rfl
 |succ n ih=>unfold sumTo;rw[ih];omega
def dm (f g:Nat->Int)(n:Nat):sumTo (λi=>f i-g i) n=sumTo f n-sumTo g n:=by
 induction n with
 |zero=>rfl
 |succ n ih=>unfold sumTo;rw[ih];omega
def eY (n:Nat):sumTo (λ_=>0) n=0:=by
 induction n with
 |zero=>rfl
 |succ n ih=>unfold sumTo;rw[ih];rfl
def na (f:Nat->Nat->Int)(n m:Nat):sumTo (λi=>sumTo (f i) m) n=sumTo (λj=>sumTo (λi=>f i j) n) m:=by
 induction n with
 |zero=>exact(eY m).symm
 |succ n ih =>
  have e:(λj=>sumTo (λi=>f i j) (n+1))=λj=>sumTo (λi=>f i j) n+f n j:=rfl
  rw[e,jt]
  show sumTo (λi=>sumTo (f i) m) n+sumTo (f n) m=_
  rw[ih]
def ju {f:Nat->Int}{n t:Nat}(ht:t<n):sumTo (λi=>if i=t then f i else 0) n=f t:=by
 induction n with
 |zero=>omega
 |succ n ih =>
  show sumTo _ n+(if n=t then f n else 0)=f t
  rcases Nat.lt_or_ge t n with h|h
  ·rw[ih h,if_neg (by omega)];omega
  ·obtain rfl:t=n:=by omega
   rw[if_pos rfl,sumTo_congr (g:=λ_=>0) λi hi=>if_neg (by omega),eY];omega
def pg {f:Nat->Int}{n t:Nat}(ht:t<n):sumTo (λi=>if i≠t then f i else 0) n=sumTo f n-f t:=by
 have h:=ju (f:=f) ht
 rw[<-h,<-dm]
 refine sumTo_congr λi _=>?_
 by_cases e:i=t
 ·subst e;simp
 ·simp[e]
def kK (F:Nat->Nat->Int)(n:Nat)(k:Nat)(hk:k<=n)(j:Nat)(hj:j<n):balK (tabL n F) k j=sumTo (λa=>F a j) k-if j<k then sumTo (F j) n else 0:=by
 induction k with
 |zero=>simp[balK,sumTo]
 |succ k ih =>
  unfold balK
  rw[ih (by omega),gh (by omega),Option.getD_some,jr]
  have e:((List.range n).map (F k))[j]?.getD 0=F k j:=by simp[hj]
  rw[e]
  show _=sumTo (λa=>F a j) k+F k j-_
  by_cases h:j=k
  ·subst h;rw[if_neg (by omega),if_pos rfl,if_pos (by omega)];omega
  ·rw[if_neg h]
   by_cases h2:j<k
   ·rw[if_pos h2,if_pos (by omega)];omega
   ·rw[if_neg h2,if_neg (by omega)];omega
def debtK (F:Nat->Nat->Int)(i k:Nat):Int:=sumTo (λa=>F a i-F i a) k
def ma (F:Nat->Nat->Int)(n i:Nat)(hi:i<n):(balL (tabL n F))[i]?=some (debtK F i n):=by
 unfold balL debtK
 rw[tabL_len,List.getElem?_map,List.getElem?_range hi,Option.map_some,kK F n n (Nat.le_refl _) i hi,if_pos hi,dm]
def balL_len (F:Nat->Nat->Int)(n:Nat):(balL (tabL n F)).length=n:=by simp[balL,tabL_len]
def qu (F:Nat->Nat->Int)(n:Nat):(balL (tabL n F)).sum=0:=by
 have e:balL (tabL n F)=(List.range n).map λi=>debtK F i n:=by
  unfold balL
  rw[tabL_len]
  refine List.map_congr_left λi hi=>?_
  have hi:=List.mem_range.1 hi
  rw[kK F n n (Nat.le_refl _) i hi,if_pos hi]
  unfold debtK
  rw[dm]
 rw[e,jr]
 unfold debtK
 have e2:(λi=>sumTo (λa=>F a i-F i a) n)=λi=>sumTo (λa=>F a i) n-sumTo (λa=>F i a) n:=funext λi=>dm _ _ _
 rw[e2,dm,na (λi a=>F a i)]
 exact Int.sub_self _
def iL {p:Int}{r:Ros}{j:Nat}{ls:List (Int×Int)}(h:∀q∈ls,q.1=j)(a t:Nat)(k:Nat)(hk:k<=ls.length) :
  owesK p r ls a t k=(cntBy (·.2) (ls.take k) t:Int)*if a≠t then partK p (wl (r j)) a (wl (r j)).length else 0:=by
 induction k with
 |zero=>simp[owesK,cntBy]
 |succ k ih =>
  have hl:k<ls.length:=by omega
  have hm:=h _ (List.getElem_mem hl)
  unfold owesK
  rw[ih (by omega),List.getElem?_eq_getElem hl,Option.getD_some,hm,Int.toNat_natCast,List.take_add_one,List.getElem?_eq_getElem hl,Option.toList_some,fV]
  have e:cntBy (·.2) [ls[k]] t=if ls[k].2=t then 1 else 0:=by
   unfold cntBy
   rw[List.countP_singleton]
   by_cases e:ls[k].2=(t:Int)<;>simp[e]
  rw[e]
  by_cases h1:ls[k].2=(t:Int)
  ·by_cases h2:a=t
   ·subst h2;simp
   ·simp only[h1,h2,ne_eq,not_false_eq_true,and_self,if_true,Int.natCast_add,Int.add_mul]
    omega
  ·simp only[h1,ne_eq,false_and,if_false,Nat.add_zero,Int.add_zero]
def qv {p:Int}(on:List Int)(n:Nat)(hon:∀x∈on,0<=x/\x<n)(k:Nat)(hk:k<=on.length) :
  sumTo (λa=>partK p on a k) n=sumTo (λi=>p / on.length+if(i:Int)<p % on.length then 1 else 0) k:=by
 induction k with
 |zero=>exact eY n
 |succ k ih =>
  have hl:k<on.length:=by omega
  have hm:=hon _ (List.getElem_mem hl)
  obtain⟨x,hx⟩:∃x:Nat,on[k]=x:=⟨on[k].toNat,by omega⟩
  have e:(λa:Nat=>partK p on a (k+1))=λa:Nat=>partK p on a k+if a=x then p / on.length+(if(k:Int)<p % on.length then 1 else 0) else 0:=by
   funext a
   show partK p on (a:Nat) k+(if on[k]?.getD 0=((a:Nat):Int) then _ else 0)=_
   rw[List.getElem?_eq_getElem hl,Option.getD_some,hx]
   congr 1
   by_cases e:a=x
   ·subst e;simp
   ·rw[if_neg e,if_neg (by omega)]
  rw[e,jt,ih (by omega),ju (f:=λ_=>p / on.length+(if(k:Int)<p % on.length then 1 else 0)) (by omega)]
  rfl
def qw {q m:Int}(hm:0<=m)(k:Nat):sumTo (λi=>q+if(i:Int)<m then 1 else 0) k=q*k+min (k:Int) m:=by
 induction k with
 |zero=>simp[sumTo];omega
 |succ k ih =>
  show sumTo _ k+(q+if(k:Int)<m then 1 else 0)=_
  rw[ih,Int.natCast_add,Int.mul_add]
  split<;>omega
def qx {p:Int}(on:List Int)(n:Nat)(hon:∀x∈on,0<=x/\x<n):sumTo (λa=>partK p on a on.length) n=if on=[] then 0 else p:=by
 rw[qv on n hon _ (Nat.le_refl _)]
 by_cases e:on=[]
 ·subst e;rfl
 ·rw[if_neg e]
  have hl:0<on.length:=List.length_pos_iff.2 e
  have h1:=Int.emod_nonneg p (show(on.length:Int)≠0 by omega)
  have h2:=Int.emod_lt_of_pos p (show(0:Int)<on.length by omega)
  rw[qw h1]
  have h3:=Int.mul_ediv_add_emod p on.length
  rw[Int.mul_comm] at h3
  omega
def kL {p:Int}{on:List Int}{h:Int}(hn:h ∉ on)(k:Nat)(hk:k<=on.length):partK p on h k=0:=by
 induction k with
 |zero=>rfl
 |succ k ih =>
  have hl:k<on.length:=by omega
  unfold partK
  rw[ih (by omega),List.getElem?_eq_getElem hl,Option.getD_some,if_neg λ(e:on[k]=h)=>hn (e▸List.getElem_mem hl)];rfl
def sd {p:Int}{on:List Int}{h:Int}{i:Nat}(hi:on[i]?=some h)(hu:on.Pairwise (·<·))(k:Nat)(hk:k<=on.length):partK p on h k=if i<k then p / on.length+(if(i:Int)<p % on.length then 1 else 0) else 0:=by
 induction k with
 |zero=>rfl
 |succ k ih =>
  have hl:k<on.length:=by omega
  obtain⟨hil,hih⟩:=List.getElem?_eq_some_iff.1 hi
  unfold partK
  rw[ih (by omega),List.getElem?_eq_getElem hl,Option.getD_some]
  rcases Nat.lt_trichotomy i k with h1|h1|h1
  ·have:=List.pairwise_iff_getElem.1 hu i k hil hl h1
   rw[if_pos h1,if_neg (show ¬on[k]=h by omega),if_pos (show i<k+1 by omega)];omega
  ·subst h1
   rw[if_neg (show ¬i<i by omega),if_pos hih,if_pos (show i<i+1 by omega)];omega
  ·have:=List.pairwise_iff_getElem.1 hu k i hl hil h1
   rw[if_neg (show ¬i<k by omega),if_neg (show ¬on[k]=h by omega),if_neg (show ¬i<k+1 by omega)];rfl
def dueOf (p:Int)(on:List Int)(k:Int):Int:=if on=[] then 0 else p-partK p on k on.length
def ph {p:Int}{r:Ros}{j n t:Nat}{ls:List (Int×Int)}(h:∀q∈ls,q.1=j)(ht:t<n)(hon:∀x∈wl (r j),0<=x/\x<n) :
  sumTo (λa=>owesK p r ls a t ls.length) n=dueOf p (wl (r j)) t*(cntBy (·.2) ls t:Int):=by
 have e:(λa:Nat=>owesK p r ls a t ls.length)=λa:Nat=>(if a≠t then partK p (wl (r j)) a (wl (r j)).length else 0)*(cntBy (·.2) ls t:Int):=by
  funext a
  rw[iL h a t _ (Nat.le_refl _),List.take_length,Int.mul_comm]
 rw[e,pf,pg (f:=λa:Nat=>partK p (wl (r j)) a (wl (r j)).length) ht,qx _ n hon]
 congr 1
 unfold dueOf
 by_cases e:wl (r j)=[]
 ·rw[if_pos e,if_pos e,e];rfl
 ·rw[if_neg e,if_neg e]
def te {l:List Int}{m:Nat}(hl:∃p,l=chosen p m)(hm:m<=4):wl (ofL l)=l:=by
 obtain⟨p,rfl⟩:=hl
 have hn:∀x∈chosen p m,0<=x:=λx hx=>by obtain⟨n,rfl,_⟩:=chosen_mem.1 hx;omega
 have e:wl (ofL (chosen p m))=chosen (ofL (chosen p m)).testBit 4:=rfl
 rw[e]
 unfold chosen
 have h1:(List.range 4).filter (ofL (((List.range m).filter p).map λn:Nat=>(n:Int))).testBit=(List.range m).filter p:=by
  have h2:(List.range 4)=List.range m++(List.range (4-m)).map (m+·):=by
   rw[<-List.range_add];congr 1;omega
  have hb:∀i:Nat,(ofL (((List.range m).filter p).map λn:Nat=>(n:Int))).testBit i=decide ((i:Int)∈chosen p m):=λi=>sa hn i
  rw[h2,List.filter_append]
  have h3:(List.range m).filter (ofL (((List.range m).filter p).map λn:Nat=>(n:Int))).testBit=(List.range m).filter p:=by
   refine List.filter_congr λi hi=>?_
   rw[hb]
   have hi:=List.mem_range.1 hi
   cases hp:p i with
   |true=>exact decide_eq_true (chosen_mem.2 ⟨i,rfl,hi,hp⟩)
   |false =>
    refine decide_eq_false λh=>?_
    obtain⟨n,e,_,h⟩:=chosen_mem.1 h
    obtain rfl:i=n:=by omega
    rw[hp] at h;cases h
  rw[h3]
  have h4:((List.range (4-m)).map (m+·)).filter (ofL (((List.range m).filter p).map λn:Nat=>(n:Int))).testBit=[]:=by
   refine List.filter_eq_nil_iff.2 λi hi=>?_
   obtain⟨k,_,rfl⟩:=List.mem_map.1 hi
   rw[hb]
   intro h
   obtain⟨n,e,h1,_⟩:=chosen_mem.1 (of_decide_eq_true h)
   omega
  rw[h4,List.append_nil]
 rw[h1]
def gE {n:Nat}{rs:List (Int×Int)}(h:∀q∈rs,(0<=q.1/\q.1<n)/\0<=q.2/\q.2<=60)(hn:(rs.map (·.1)).Nodup):di n rs=0:=by
 unfold di
 refine cV λx hx=>?_
 obtain⟨k,hk,rfl⟩:=List.mem_map.1 hx
 have hk:=List.mem_range.1 hk
 obtain⟨⟨h1,h2⟩,h3,h4⟩:=h _ (List.getElem_mem hk)
 unfold raidE
 rw[List.getElem?_eq_getElem hk,Option.getD_some,if_neg (by simp[inR];omega),if_neg (by simp[inR];omega),if_neg]
 intro ha
 obtain⟨q,hq,he⟩:=List.any_eq_true.1 ha
 obtain⟨i,hi,rfl⟩:=List.getElem_of_mem hq
 rw[List.length_take] at hi
 rw[List.getElem_take] at he
 have hp:=List.pairwise_iff_getElem.1 hn i k (by simp;omega) (by simpa using hk) (by omega)
 simp only[List.getElem_map] at hp
 exact hp (by simpa using he)
def tf {c:Camp}(hc:c.Ok)(h:Nat):0<=(c.h h).dogs:=by
 by_cases hh:h<c.herders.length
 ·have:=hc.dogs _ (c.h_mem hh);omega
 ·unfold Camp.h;rw[List.getElem?_eq_none (by omega)];decide
end Go.Sq
