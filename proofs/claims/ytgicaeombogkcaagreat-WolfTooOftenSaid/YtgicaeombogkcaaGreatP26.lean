/- Parts of the proof. -/
import Derived.Test.YtgicaeombogkcaaGreatP17
import Derived.Test.YtgicaeombogkcaaGreatP16
import Derived.Test.YtgicaeombogkcaaGreatP23
import Derived.Test.YtgicaeombogkcaaGreatP25
set_option linter.all false
set_option maxHeartbeats 3200000
set_option maxRecDepth 1000000
namespace Go.Sq
open Go.RowKit
structure Hand (w:World) (hb B:Nat) (A:Option Addr) (cap:Nat) (l:List Int) (N:Nat):Prop where
 obj:∃ n:Nat,∃ s:Int,w.heap[hb]?=some (.cells #[.slice A l.length cap,.int .i64 n,.int .u64 s] 78 (0,0))∧n<=N
 nums:RI w B A l
 apart:B<=hb
theorem Hand.lt {w:World} {hb B:Nat} {A:Option Addr} {cap:Nat} {l:List Int} {N:Nat} (h:Hand w hb B A cap l N):hb<w.heap.size:=by
 obtain ⟨n,s,h1,_⟩:=h.obj
 exact (Array.getElem?_eq_some_iff.1 h1).1
theorem Hand.more {w:World} {hb B:Nat} {A:Option Addr} {cap:Nat} {l:List Int} {N M:Nat} (h:Hand w hb B A cap l N) (hm:N<=M):Hand w hb B A cap l M:=by
 obtain ⟨n,s,h1,h2⟩:=h.obj
 exact ⟨⟨n,s,h1,by omega⟩,h.nums,h.apart⟩
theorem Hand.gr {w w':World} {hb B:Nat} {A:Option Addr} {cap:Nat} {l:List Int} {N:Nat} (h:Hand w hb B A cap l N) (hg:Gr w w'):Hand w' hb B A cap l N:=by
 have hl:=h.lt
 obtain ⟨n,s,h1,h2⟩:=h.obj
 exact ⟨⟨n,s,(hg.below.block hb hl).trans h1,h2⟩,h.nums.gr (by have:=h.apart;omega) hg,h.apart⟩
abbrev KH (hb:Nat) (w w':World):Prop:=KT (·=hb) w w'
end Go.Sq
namespace Go.Proofs.YtgicaeombogkcaaGreat
open Go.RowKit Go.Sq
theorem iy (x y:Int):0<=bits BinOp.xor IntKind.u64 x y:=by
 unfold bits IntKind.wrap
 have h:IntKind.u64.signed=false:=rfl
 simp only [h,Bool.false_and,Bool.false_eq_true,if_false]
 exact Int.emod_nonneg _ (by decide)
theorem sx (hb B:Nat) (A:Option Addr) (cap:Nat) (l:List Int) (N:Nat) (w:World) (h:Hand w hb B A cap l N) (hN:N<=1048576) :
  Calls Sq.prog 63 #[.pointer (some ⟨hb,0,none⟩)] w fun e w'=>(∃ v:Int,e=.returned (.int .u64 v)∧0<=v)∧Hand w' hb B A cap l (N+1)∧KH hb w w':=by
 obtain ⟨n,s,hobj,hn⟩:=h.obj
 have HH:=Lib.hid h
 have c0:w.cell? ⟨hb,0,none⟩=some (.slice A l.length cap):=by unfold World.cell?;rw [hobj];rfl
 have c1:w.cell? ⟨hb,1,none⟩=some (.int .i64 n):=by unfold World.cell?;rw [hobj];rfl
 have c2:w.cell? ⟨hb,2,none⟩=some (.int .u64 s):=by unfold World.cell?;rw [hobj];rfl
 have f1:w.frozen? ⟨hb,1,none⟩=false:=by unfold World.frozen?;rw [hobj];rfl
 have f2:w.frozen? ⟨hb,2,none⟩=false:=by unfold World.frozen?;rw [hobj];rfl
 have HO:=Lib.hid hobj
 clear h hobj
 have key : ∀ (v x y : Int) (W : World), W.heap = ((w.setCell ⟨hb, 1, none⟩ (.int .i64 (n + 1 : Nat))).setCell ⟨hb, 2, none⟩ (.int .u64 y)).heap -> W.os = w.os -> W.tape = w.tape -> W.output = w.output -> w.drawn <= W.drawn -> 0 <= v ->
   (∃ v':Int,Ending.returned (.int .u64 v)=.returned (.int .u64 v')∧0<=v')∧Hand W hb B A cap l (N+1)∧KH hb w W:=fun v x y W hW e1 e2 e3 e4 hv=>by
  have hB:=HH.out.apart
  have hlt:=HH.out.lt
  have hbk:∀ b,b≠hb->W.heap[b]?=w.heap[b]?:=fun b hne=>by
   rw [hW,Below.heap_setCell _ _ _ _ hne,Below.heap_setCell _ _ _ _ hne]
  refine ⟨⟨v,rfl,hv⟩,⟨⟨n+1,y,?_,by omega⟩,HH.out.nums.keep fun b o hb'=>World.cell?_of_block (hbk b (by omega)),hB⟩,⟨e1,e2,e3,e4,?_,fun b _ hne=>hbk b hne⟩⟩
  ·rw [hW]
   exact aE (aE HO.out)
  ·rw [hW];simp [World.setCell]
 have HKEY:=Lib.hid key
 clear key
 go_enter Sq.func63,Tryz.ntmps63
 by_cases hlt:n<l.length
 ·obtain ⟨b,o,rfl,hb',hcl⟩:=HH.out.nums.at_ hlt
  generalize l[n]?.getD 0=x at hcl
  go_wp2
  go_region
  all_goals
   go_wp2
   go_region
   all_goals
    go_wp2
    go_ret
    refine HKEY.out _ 0 _ _ rfl rfl rfl rfl (by simp [World.drew,World.setCell]<;>omega) ?_
    exact Int.ediv_nonneg (iy _ _) (by omega)
 ·go_wp2
  go_region
  all_goals
   go_wp2
   go_ret
   refine HKEY.out _ 0 _ _ rfl rfl rfl rfl (by simp [World.drew,World.setCell]<;>omega) ?_
   exact Int.ediv_nonneg (iy _ _) (by omega)
theorem iz (hb B:Nat) (A:Option Addr) (cap:Nat) (l:List Int) (N:Nat) (m:Int) (w:World) (h:Hand w hb B A cap l N) (hN:N<=1048576) (hm:m<=1048576) :
  Calls Sq.prog 21 #[.pointer (some ⟨hb,0,none⟩),.int .i64 m] w fun e w'=>(∃ k:Nat,e=.returned (.int .i64 k)∧((k:Int)<=m∨k=0))∧Hand w' hb B A cap l (N+1)∧KH hb w w':=by
 have HP:=Lib.hid (sx hb B A cap l N w h hN)
 have HH:=Lib.hid h
 clear h
 go_enter Sq.func21,Tryz.ntmps21
 by_cases hm0:m<=0
 ·go_wp2
  go_ret
  exact ⟨⟨0,rfl,.inr rfl⟩,HH.out.more (by omega),KT.refl _ _⟩
 ·go_wp2_with fail
  refine HP.out.mono ?_
  rintro e w' ⟨⟨v,rfl,hv⟩,hh,hk⟩
  have HH2:=Lib.hid hh
  have HK:=Lib.hid hk
  clear hh hk HP
  have h1:IntKind.u64.wrap (m+1)=m+1:=by simp [IntKind.wrap,IntKind.bits,IntKind.signed];omega
  have h2:v % (m+1)<m+1:=Int.emod_lt_of_pos _ (by omega)
  have h3:0<=v % (m+1):=Int.emod_nonneg _ (by omega)
  go_wp2
  go_ret
  obtain ⟨k,hk⟩:∃ k:Nat,v % (m+1)=k:=⟨(v % (m+1)).toNat,by omega⟩
  exact ⟨⟨k,by show Ending.returned (Value.int .i64 (v % (m+1)))=_;rw [hk],.inl (by omega)⟩,HH2.out,HK.out⟩
theorem dw (hb B:Nat) (A:Option Addr) (cap:Nat) (l:List Int) (N:Nat) (lo hi:Int) (w:World) (h:Hand w hb B A cap l N) (hN:N<=1048576) (h1:0<=lo∧lo<=1048576) (h2:lo<=hi∧hi<=1048576) :
  Calls Sq.prog 44 #[.pointer (some ⟨hb,0,none⟩),.int .i64 lo,.int .i64 hi] w fun e w'=>(∃ k:Nat,e=.returned (.int .i64 k)∧lo<=k∧(k:Int)<=hi)∧Hand w' hb B A cap l (N+1)∧KH hb w w':=by
 have HP:=Lib.hid (iz hb B A cap l N (hi - lo) w h hN (by omega))
 clear h
 go_enter Sq.func44,Tryz.ntmps44
 go_wp2_with fail
 refine HP.out.mono ?_
 rintro e w' ⟨⟨k,rfl,hk⟩,hh,hkt⟩
 have HH2:=Lib.hid hh
 have HK:=Lib.hid hkt
 clear hh hkt HP
 go_wp2
 go_ret
 obtain ⟨q,hq⟩:∃ q:Nat,lo+k=q:=⟨(lo+k).toNat,by omega⟩
 exact ⟨⟨q,by show Ending.returned (Value.int .i64 (lo+k))=_;rw [hq],by omega,by omega⟩,HH2.out,HK.out⟩
theorem kB (hb B:Nat) (A A2:Option Addr) (cap c2:Nat) (l m:List Int) (N:Nat) (x:Int) (w:World) (h:Hand w hb B A cap l N) (hN:N<=1048576) (hm:m.length<=1048576) (hri:RIK w (fun b=>b≠hb∧b<w.heap.size) A2 m) :
  Calls Sq.prog 45 #[.pointer (some ⟨hb,0,none⟩),.int .i64 x,.slice A2 m.length c2] w fun e w'=>(∃ k:Int,e=.returned (.int .i64 k)∧k∈x :: m)∧Hand w' hb B A cap l (N+1)∧KH hb w w':=by
 have HP:=Lib.hid (iz hb B A cap l N m.length w h hN (by omega))
 have HR:=Lib.hid hri
 clear h hri
 go_enter Sq.func45,Tryz.ntmps45
 go_wp2_with fail
 refine HP.out.mono ?_
 rintro e w' ⟨⟨k,rfl,hk⟩,hh,hkt⟩
 have HH2:=Lib.hid hh
 have HK:=Lib.hid hkt
 by_cases hk0:k=0
 ·subst hk0
  clear hh hkt HP
  go_wp2
  go_ret
  exact ⟨⟨x,rfl,List.mem_cons_self⟩,HH2.out,HK.out⟩
 ·have hkm:k - 1<m.length:=by omega
  obtain ⟨b,o,rfl,hb2,hcl⟩:=HR.out (fun e=>by rw [e] at hkm;simp at hkm)
  have hc:=hcl (k - 1) _ (List.getElem?_eq_getElem hkm)
  have hc2:w'.cell? ⟨b,o+(k - 1),none⟩=some (.int .i64 m[k - 1]):=(World.cell?_of_block (hkt.block b hb2.2 hb2.1)).trans hc
  have HMEM:Hid (m[k - 1]∈x :: m):=Lib.hid (List.mem_cons_of_mem _ (List.getElem_mem hkm))
  generalize m[k - 1]=y at hc2 HMEM
  have e1:((k:Int) - 1)=((k - 1:Nat):Int):=by omega
  obtain ⟨q,hq⟩:∃ q,q=k - 1:=⟨_,rfl⟩
  rw [<- hq] at hc2 e1 hkm
  obtain rfl:k=q+1:=by omega
  clear hh hkt HP hcl hc hk0 hq e1
  have e2:((q+1:Nat):Int) - 1=(q:Int):=by omega
  go_wp2
  go_ret
  exact ⟨⟨y,rfl,HMEM.out⟩,HH2.out,HK.out⟩
theorem oL (hb B:Nat) (A:Option Addr) (cap:Nat) (l:List Int) (N:Nat) (a b:Int) (w:World) (h:Hand w hb B A cap l N) (hN:N<=1048576) (hb1:0<=b∧b<=1048576) :
  Calls Sq.prog 46 #[.pointer (some ⟨hb,0,none⟩),.int .i64 a,.int .i64 b] w fun e w'=>(∃ v:Bool,e=.returned (.bool v))∧Hand w' hb B A cap l (N+1)∧KH hb w w':=by
 have HP:=Lib.hid (iz hb B A cap l N (b - 1) w h hN (by omega))
 clear h
 go_enter Sq.func46,Tryz.ntmps46
 go_wp2_with fail
 refine HP.out.mono ?_
 rintro e w' ⟨⟨k,rfl,hk⟩,hh,hkt⟩
 have HH2:=Lib.hid hh
 have HK:=Lib.hid hkt
 clear hh hkt HP
 go_wp2
 go_ret
 exact ⟨⟨_,rfl⟩,HH2.out,HK.out⟩
theorem oM (A:Option Addr) (cap:Nat) (l:List Int) (w:World) (h:RI w w.heap.size A l) :
  Calls Sq.prog 11 #[.slice A l.length cap] w fun e w'=>e=.returned (.pointer (some ⟨w.heap.size,0,none⟩))∧Hand w' w.heap.size w.heap.size A cap l 0∧Gr w w':=by
 have HR:=Lib.hid h
 clear h
 go_enter Sq.func11,Tryz.ntmps11
 go_wp2
 go_ret
 exact ⟨rfl,⟨⟨0,88172645463325252,World.alloc_heap_new _ _,Nat.le_refl _⟩,HR.out.gr (Nat.le_refl _) ((Gr.refl w).alloc _),Nat.le_refl _⟩,(Gr.refl w).alloc _⟩
end Go.Proofs.YtgicaeombogkcaaGreat
namespace Go.Sq
open Go.RowKit
def chosen (p:Nat->Bool) (k:Nat):List Int:=((List.range k).filter p).map fun n:Nat=>(n:Int)
theorem fP {p q:Nat->Bool} {k:Nat} (h:∀ i,i<k->p i=q i):chosen p k=chosen q k:=by
 unfold chosen
 congr 1
 exact List.filter_congr fun i hi=>h i (List.mem_range.1 hi)
theorem cW (p:Nat->Bool) (k:Nat):chosen p (k+1)=chosen p k++if p k=true then [(k:Int)] else []:=by
 unfold chosen
 rw [List.range_succ,List.filter_append,List.map_append]
 cases h:p k<;>simp [h]
theorem chosen_mem {p:Nat->Bool} {k:Nat} {x:Int}:x∈chosen p k↔∃ n:Nat,x=n∧n<k∧p n=true:=by
 unfold chosen
 simp only [List.mem_map,List.mem_filter,List.mem_range]
 constructor
 ·rintro ⟨n,⟨h1,h2⟩,rfl⟩;exact ⟨n,rfl,h1,h2⟩
 ·rintro ⟨n,rfl,h1,h2⟩;exact ⟨n,⟨h1,h2⟩,rfl⟩
theorem cL (p:Nat->Bool) (k:Nat):(chosen p k).length<=k:=by
 unfold chosen
 rw [List.length_map]
 exact Nat.le_trans (List.length_filter_le _ _) (by simp)
theorem iA (p:Nat->Bool) (k:Nat):(chosen p k).Pairwise (·<·):=by
 unfold chosen
 rw [List.pairwise_map]
 exact (List.Pairwise.filter _ List.pairwise_lt_range).imp fun h=>by omega
theorem ji (p:Nat->Bool) (k:Nat):ascE (chosen p k) k=0:=by
 rw [i8]
 intro i hi
 have h1:=chosen_mem.1 (mem_get (chosen p k) i hi)
 obtain ⟨n,e,hn,_⟩:=h1
 unfold ascAt
 rw [if_pos (by rw [e];omega),if_neg]
 rintro ⟨h0,hle⟩
 have:=List.pairwise_iff_getElem.1 (iA p k) (i - 1) i (by omega) hi (by omega)
 rw [List.getElem?_eq_getElem hi,List.getElem?_eq_getElem (by omega)] at hle
 simp only [Option.getD_some] at hle
 omega
theorem grown_old {w2 w3:World} {base size n:Nat} {e:TypeId} {v:Value} {xs:List Value} {o:Obj} (hown:w2.ownsRow base e size v n xs) (hg:(w2.alloc o).grownBy w3 v.ownBlock) (b:Nat) (hb:b<base) (hl:b<w2.heap.size):w3.heap[b]?=w2.heap[b]?:=by
 rw [hg.block b (by simp;omega) (db hown hb),heap_alloc_old _ _ hl]
theorem eW {w2 w3:World} {v:Value} {o:Obj} (hg:(w2.alloc o).grownBy w3 v.ownBlock):w2.heap.size+1<=w3.heap.size:=by have:=hg.size;simpa using this
theorem dN {w0 w2 w3:World} {hb base size n:Nat} {e:TypeId} {v:Value} {xs:List Value} {o:Obj} (hK:KT (·=hb) w0 w2) (hown:w2.ownsRow base e size v n xs) (hbase:w0.heap.size<=base) (hg:(w2.alloc o).grownBy w3 v.ownBlock) (hd:(w2.alloc o).drawn<=w3.drawn):KT (·=hb) w0 w3 :=
 ⟨hg.os.trans hK.os,hg.tape.trans hK.tape,hg.output.trans hK.output,Nat.le_trans hK.drawn hd,by have:=eW hg;have:=hK.size;omega,fun b hb' hne=>(grown_old hown hg b (by omega) (by have:=hK.size;omega)).trans (hK.block b hb' hne)⟩
theorem cM {w2 w3:World} {hb B cap N base size n:Nat} {A:Option Addr} {l:List Int} {e:TypeId} {v:Value} {xs:List Value} {o:Obj} (h:Hand w2 hb B A cap l N) (hown:w2.ownsRow base e size v n xs) (hbase:hb<base) (hg:(w2.alloc o).grownBy w3 v.ownBlock):Hand w3 hb B A cap l N:=by
 have hl:=h.lt
 obtain ⟨m,s,ho,hm⟩:=h.obj
 exact ⟨⟨m,s,(grown_old hown hg hb hbase hl).trans ho,hm⟩,h.nums.keep fun b o hb'=>World.cell?_of_block (grown_old hown hg b (by have:=h.apart;omega) (by have:=h.apart;omega)),h.apart⟩
theorem kC {w w':World} {base size n hb:Nat} {v:Value} {e:TypeId} {xs:List Value} (h:w.ownsRow base e size v n xs) (hb':hb<base) (k:KT (·=hb) w w'):w'.ownsRow base e size v n xs :=
 aH h fun g hg hl=>k.block g hl fun e=>by have:=(h.lt g hg).1;omega
end Go.Sq
namespace Go.Proofs.YtgicaeombogkcaaGreat
open Go.RowKit Go.Sq
theorem sA (hb B:Nat) (A:Option Addr) (cap:Nat) (l:List Int) (N n:Nat) (w:World) (h:Hand w hb B A cap l N) (hN:N<=1000000) (hn:n<=64) :
  Calls Sq.prog 88 #[.pointer (some ⟨hb,0,none⟩),.int .i64 n] w fun e w'=>∃ v p,e=.returned v∧w'.ownsRow w.heap.size 3 1 v (chosen p n).length ((chosen p n).map (Value.int .i64))∧Hand w' hb B A cap l (N+n)∧KH hb w w':=by
 have HH:=Lib.hid h
 have hlt:=h.lt
 clear h
 go_enter Sq.func88,Tryz.ntmps88
 go_wp2
 go_loopw [5,6] (fun v i wr=>∃ k:Nat,k<=n∧i=.int .i64 k∧∃ p,wr.ownsRow w.heap.size 3 1 v (chosen p k).length ((chosen p k).map (Value.int .i64))∧Hand wr hb B A cap l (N+k)∧KH hb w wr) (fun _ i _=>n - (intOf i).toNat)
 case atStart=>exact ⟨0,by omega,rfl,fun _=>false,World.ownsRow_nil _ _ _ _,HH.out,KT.refl _ _⟩
 case round =>
  obtain ⟨k,hk,rfl,p,hown,hh,hkt⟩:=hrel
  have hz:=hkt.size
  have HK:=Lib.hid hkt
  have HO:=Lib.hid hown
  clear hown hkt
  by_cases hlk:k<n
  ·have HC:=Lib.hid (oL hb B A cap l (N+k) 1 2 wr hh (by omega) (by omega))
   clear hh
   go_wp2_with fail
   refine HC.out.mono ?_
   rintro e w2 ⟨⟨v,rfl⟩,hh,hkt⟩
   have HK2:=Lib.hid (HK.out.trans hkt)
   have hown2:=kC HO.out hlt hkt
   have HH2:=Lib.hid hh
   have hz2:=hkt.size
   have HO2:=Lib.hid hown2
   have HP:=Lib.hid (cW (fun j=>if j=k then v else p j) k)
   have HP0:=Lib.hid (fP (p:=fun j=>if j=k then v else p j) (q:=p) (k:=k) fun i hi=>if_neg (by omega))
   have hcl:=cL p k
   clear hkt hh HC
   cases v with
   | true =>
    go_wp2_with (at_builtin;refine ij rfl _ _ rfl w.heap.size _ _ _ rfl (hown2.alloc _) ⟨w2.heap.size,0,none⟩ 1 (.int .i64 k) rfl ?c1 rfl ?c2 ?c3 ?_)
    case c1=>rw [World.cell?_alloc_at _ _ _ _ (by simp)];rfl
    case c2=>omega
    case c3=>simp;omega
    intro v' w3 hown' hgrow hd
    have HK3:=Lib.hid (dN HK2.out hown2 (Nat.le_refl _) hgrow hd)
    have HO3:Hid (w3.ownsRow w.heap.size 3 1 v' (chosen (fun j=>if j=k then true else p j) (k+1)).length ((chosen (fun j=>if j=k then true else p j) (k+1)).map (Value.int .i64))):=Lib.hid (by
     rw [HP.out,HP0.out,if_pos (by simp)];simpa using hown')
    have HH3:=Lib.hid ((cM HH2.out hown2 hlt hgrow).more (M:=N+(k+1)) (by omega))
    clear hown' hgrow hd hown2
    go_wp2
    go_roundw
    case rel=>exact ⟨k+1,by omega,by go_num,_,HO3.out,HH3.out,HK3.out⟩
    case measure=>simp [intOf];omega
   | false =>
    have HO3:Hid (w2.ownsRow w.heap.size 3 1 _ (chosen (fun j=>if j=k then false else p j) (k+1)).length ((chosen (fun j=>if j=k then false else p j) (k+1)).map (Value.int .i64))):=Lib.hid (by
     rw [HP.out,HP0.out,if_neg (by simp)];simpa using HO2.out)
    clear hown2
    go_wp2
    go_roundw
    case rel=>exact ⟨k+1,by omega,by go_num,_,HO3.out,HH2.out,HK2.out⟩
    case measure=>simp [intOf];omega
  ·have hkn:k=n:=by omega
   subst hkn
   have HH2:=Lib.hid hh
   clear hh
   go_wp2
   go_ret
   exact ⟨_,p,rfl,HO.out,HH2.out,HK.out⟩
open Go.RowKit Go.Sq
theorem mQ (hb B:Nat) (A nA hA:Option Addr) (cap nc hc:Nat) (l:List Int) (N n m:Nat) (w:World) (h:Hand w hb B A cap l N) (hN:N<=100000) (hn:n<=64) (hm:m<=64) :
  Calls Sq.prog 33 #[.pointer (some ⟨hb,0,none⟩),.agg #[.slice nA n nc,.slice hA m hc]] w fun e w'=>∃ v ls xs,e=.returned v∧OwnGrid w' (w.heap.size+1) v ls xs∧ls.length=n∧(∀ x∈ls,∃ p,x=chosen p m)∧Hand w' hb B A cap l (N+n*m)∧KH hb w w':=by
 obtain ⟨W0,hW0⟩:∃ W0:World,W0=w.alloc (.cells #[.slice nA n nc,.slice hA m hc] 25):=⟨_,rfl⟩
 have hg0:Gr w W0:=hW0▸(Gr.refl w).alloc _
 have HZ0:Hid (W0.heap.size=w.heap.size+1):=Lib.hid (by rw [hW0];simp)
 have HH:=Lib.hid (h.gr hg0)
 have hlt:=h.lt
 have HW:=Lib.hid hW0
 have HG0:=Lib.hid hg0
 have HC:Hid (W0.cell? ⟨w.heap.size,0,none⟩=some (.slice nA n nc)∧W0.cell? ⟨w.heap.size,1,none⟩=some (.slice hA m hc)):=Lib.hid (by
  rw [hW0,World.cell?_alloc_at _ _ _ _ rfl,World.cell?_alloc_at _ _ _ _ rfl];exact ⟨rfl,rfl⟩)
 have HK0:Hid (∀ W,KT (·=hb) W0 W->KT (·=hb) w W):=Lib.hid fun W hk=>⟨hk.os.trans hg0.below.os,hk.tape.trans hg0.below.tape,hk.output.trans hg0.below.output,Nat.le_trans hg0.drawn hk.drawn,Nat.le_trans hg0.size hk.size,fun b hb' hne=>(hk.block b (Nat.lt_of_lt_of_le hb' hg0.size) hne).trans (hg0.below.block b hb')⟩
 clear hW0 hg0 h
 go_enter Sq.func33,Tryz.ntmps33
 go_wp2
 rw [<- HW.out]
 go_loopw [5,6] (fun v i wr=>∃ k:Nat,k<=n∧i=.int .i64 k∧∃ ls xs,OwnGrid wr (w.heap.size+1) v ls xs∧ls.length=k∧(∀ x∈ls,∃ p,x=chosen p m)∧Hand wr hb B A cap l (N+k*m)∧KH hb W0 wr) (fun _ i _=>n - (intOf i).toNat)
 case atStart=>exact ⟨0,by omega,rfl,[],[],OwnGrid.nil _ _,rfl,fun x hx=>by simp at hx,HH.out.more (by omega),KT.refl _ _⟩
 case round =>
  obtain ⟨k,hk,rfl,ls,xs,hog,hll,hall,hh,hkt⟩:=hrel
  have hne:w.heap.size≠hb:=by omega
  have hW0s:=HZ0.out
  have hc0:wr.cell? ⟨w.heap.size,0,none⟩=some (.slice nA n nc):=(World.cell?_of_block (hkt.block w.heap.size (by omega) hne)).trans HC.out.1
  have hc1:wr.cell? ⟨w.heap.size,1,none⟩=some (.slice hA m hc):=(World.cell?_of_block (hkt.block w.heap.size (by omega) hne)).trans HC.out.2
  have hz:w.heap.size<wr.heap.size:=by have:=hkt.size;omega
  have HK:=Lib.hid hkt
  have HO:=Lib.hid hog
  have HALL:=Lib.hid hall
  clear hkt hog hall hW0s
  by_cases hlk:k<n
  ·have HCALL:=Lib.hid (sA hb B A cap l (N+k*m) m wr hh (by have:k*m<=64*64:=Nat.mul_le_mul (by omega) hm;omega) hm)
   have HHR:=Lib.hid hh
   clear hh
   go_wp2_with fail
   refine HCALL.out.mono ?_
   rintro e w2 ⟨v2,p,rfl,hown,hh,hkt⟩
   obtain ⟨A2,c2,rfl,_⟩:=RI.of_own hown
   have HK2:=Lib.hid (HK.out.trans hkt)
   have HO2:=Lib.hid (HO.out.keep' (w':=w2) fun b hb1 hb2=>hkt.block b hb2 (by omega))
   have HOW:=Lib.hid (dK hown (show w.heap.size+1<=wr.heap.size by omega))
   have HH2:=Lib.hid hh
   have hz2:=hkt.size
   have hrow:=HO2.out.row
   clear hkt hh hown HCALL
   rw [hll] at hrow
   have HROW:=Lib.hid hrow
   go_wp2_with (at_builtin;refine qq rfl _ _ rfl (w.heap.size+1) _ _ _ rfl (hrow.alloc _) ⟨w2.heap.size,0,none⟩ 1 (.slice A2 (chosen p m).length c2) rfl ?c1 rfl ?c2 ?c3 ?_)
   case c1=>rw [Addr.add_lit,World.cell?_alloc_at _ _ _ _ (by simp)];rfl
   case c2=>omega
   case c3=>simp;omega
   intro v' w3 hown' hgrow hd
   have HK3:=Lib.hid (dN HK2.out HROW.out (by rw [HZ0.out];exact Nat.le_refl _) hgrow hd)
   have HH3:=Lib.hid ((cM HH2.out HROW.out (by omega) hgrow).more (M:=N+(k+1)*m) (by rw [Nat.succ_mul];omega))
   have HO3:=Lib.hid (HO2.out.push (l:=chosen p m) HOW.out (fun b hb'=>heap_alloc_old _ _ hb') (by simp) hgrow hll.symm hown')
   have HALL3:Hid (∀ x∈ls++[chosen p m],∃ p,x=chosen p m):=Lib.hid fun x hx=>by
    rcases List.mem_append.1 hx with hx | hx
    ·exact HALL.out x hx
    ·simp at hx;exact ⟨p,hx⟩
   clear hown' hgrow hd hrow
   go_wp2
   go_roundw
   case rel=>exact ⟨k+1,by omega,by go_num,_,_,HO3.out,by simp [hll],HALL3.out,HH3.out,HK3.out⟩
   case measure=>simp [intOf];omega
  ·have hkn:k=n:=by omega
   subst hkn
   have HH2:=Lib.hid hh
   clear hh
   go_wp2
   go_ret
   exact ⟨_,ls,xs,rfl,HO.out,hll,HALL.out,HH2.out,HK0.out _ HK.out⟩
end Go.Proofs.YtgicaeombogkcaaGreat
namespace Go.Sq
open Go.RowKit
def headsTo (c:Camp):Nat->Int
 | 0=>0
 | k+1=>headsTo c k+(c.h k).heads
def oftenP (c:Camp) (r:Ros) (h:Nat):Bool:=decide ((c.h h).heads*(watchesL r c.needs.length c.herders.length).sum<wAt r c.needs.length h*headsTo c c.herders.length)
def oftenL (c:Camp) (r:Ros):List Int:=chosen (oftenP c r) c.herders.length
theorem Camp.Ok.head {c:Camp} (h:c.Ok) {k:Nat} (hk:k<c.herders.length):1<=(c.h k).heads∧(c.h k).heads<=40:=h.heads _ (c.h_mem hk)
theorem dq {c:Camp} (h:c.Ok) {k:Nat} (hk:k<=c.herders.length):(k:Int)<=headsTo c k∧headsTo c k<=40*k:=by
 induction k with
 | zero=>simp [headsTo]
 | succ k ih =>
  have:=ih (by omega)
  have:=h.head (show k<_ by omega)
  unfold headsTo
  omega
theorem oN {l:List Int} {b:Nat} (h:∀ x∈l,0<=x∧x<=b):0<=l.sum∧l.sum<=b*l.length:=by
 induction l with
 | nil=>simp
 | cons x l ih =>
  have h1:=h x (by simp)
  have h2:=ih fun y hy=>h y (by simp [hy])
  rw [List.sum_cons,List.length_cons,Int.natCast_add,Int.mul_add]
  omega
theorem ee {r:Ros} {n m:Nat}:∀ x∈watchesL r n m,0<=x∧x<=(4*n:Nat):=fun x hx=>by
 obtain ⟨h,_,rfl⟩:=List.mem_map.1 hx
 have:=ix r n h
 omega
end Go.Sq
namespace Go.Proofs.YtgicaeombogkcaaGreat
open Go.RowKit Go.Sq
theorem mR (nA hA gA:Option Addr) (nc hc gc:Nat) (c:Camp) (ls:List (List Int)) (w:World) (B:Nat) (hB:B<=w.heap.size) (hn:RI w B nA c.needs) (hh:HsAt w B hA c.herders) (hg:GrAt w B gA ls)
  (hl1:c.needs.length<=4611686018427387904) (hl2:c.herders.length<=4611686018427387904) (hlo:∀ h∈c.herders,h.off.length<=4611686018427387904) (hl3:ls.length<=4611686018427387904) (hl4:∀ x∈ls,x.length<=4611686018427387904)
  (hF:formedE c ls=0) :
  Calls Sq.prog 36 #[campV nA hA c nc hc,.slice gA ls.length gc] w fun e w'=>Gr w w'∧∃ A k,e=.returned (.tuple #[.slice A (oftenL c (rosOf ls)).length k,.int .i64 0])∧RI w' w'.heap.size A (oftenL c (rosOf ls)):=by
 unfold campV
 have HH:=Lib.hid hh
 obtain ⟨W0,hW0⟩:∃ W0:World,W0=w.alloc (.cells #[.slice nA c.needs.length nc,.slice hA c.herders.length hc] 25):=⟨_,rfl⟩
 have hg0:Gr w W0:=hW0▸(Gr.refl w).alloc _
 have hz0:W0.heap.size=w.heap.size+1:=by rw [hW0];simp
 have HW:=Lib.hid hW0
 have HFORM:=Lib.hid (eP nA hA gA nc hc gc c ls W0 B (by omega) (hn.gr hB hg0) (hh.keep fun b o hb=>hg0.cell (Nat.lt_of_lt_of_le hb hB)) (hg.gr hB hg0) hl1 hl2 hlo hl3 hl4)
 have HG0:=Lib.hid hg0
 have HC1:Hid (W0.cell? ⟨w.heap.size,1,none⟩=some (.slice hA c.herders.length hc)):=Lib.hid (by rw [hW0,World.cell?_alloc_at _ _ _ _ rfl];rfl)
 have HFE:=Lib.hid hF
 have HOK:=Lib.hid (Camp.Ok.of (show checkE c=0 by
  have:=hF
  unfold formedE at this
  split at this
  ·exact absurd this (by assumption)
  ·simpa using ‹¬ checkE c≠0›))
 clear hW0 hg0 hn hh hg hl4 hlo hF
 go_enter Sq.func36,Tryz.ntmps36
 unfold campV at HFORM
 go_wp2_with fail
 rw [<- HW.out]
 refine HFORM.out.mono ?_
 rintro e w1 ⟨hg1,hform⟩
 rw [if_pos HFE.out] at hform
 obtain ⟨cb,g,cap,rfl,hcb,hcg,hK⟩:=hform
 obtain ⟨W1,hW1⟩:∃ W1:World,W1=w1.alloc (.cells #[.int .u8 (rosOf ls 0),.int .u8 (rosOf ls 1),.int .u8 (rosOf ls 2),.int .u8 (rosOf ls 3),.int .u8 (rosOf ls 4)] 91):=⟨_,rfl⟩
 have hg1':Gr w1 W1:=hW1▸(Gr.refl w1).alloc _
 have HZ1:Hid (W1.heap.size=w1.heap.size+1):=Lib.hid (by rw [hW1];simp)
 have HG1:=Lib.hid (hg1.trans hg1')
 have HCP:=Lib.hid (hK.campP.on hg1')
 have hz1:=hg1.size
 have HWT:=Lib.hid (jh cb nA hA nc hc c (rosOf ls) W1 HCP.out HOK.out (de HFE.out))
 have HW1:=Lib.hid hW1
 clear hg1 hg1' HFORM hW1 hK
 unfold rosV at *
 go_wp2_with fail
 rw [<- HW1.out]
 refine HWT.out.mono ?_
 rintro e w2 ⟨A,ka,rfl,hri,hg2⟩
 have hz2:=hg2.size
 have hwl:w.heap.size<w2.heap.size:=by have:=HZ1.out;omega
 have HC2:=Lib.hid ((hg2.cell (p:=⟨w.heap.size,1,none⟩) (by show w.heap.size<_;have:=HZ1.out;omega)).trans ((HG1.out.cell (p:=⟨w.heap.size,1,none⟩) (by show w.heap.size<_;omega)).trans HC1.out))
 have HG2:=Lib.hid (HG0.out.trans (HG1.out.trans hg2))
 have hh4:=HOK.out.h4
 have hn5:=HOK.out.n5
 have hc1:=HC2.out
 have HSUM:=Lib.hid (fun W (hgr:Gr w2 W)=>qh A ka (watchesL (rosOf ls) c.needs.length c.herders.length) W w2.heap.size (hri.gr (Nat.le_refl _) hgr) (by rw [watchesL_len];omega) fun x hx=>by have:=ee x hx;omega)
 have hsm:=oN (ee (r:=rosOf ls) (n:=c.needs.length) (m:=c.herders.length))
 rw [watchesL_len] at HSUM hsm
 have hsb:0<=(watchesL (rosOf ls) c.needs.length c.herders.length).sum∧(watchesL (rosOf ls) c.needs.length c.herders.length).sum<=80:=⟨hsm.1,Int.le_trans hsm.2 (by
  have:(4*c.needs.length)*c.herders.length<=20*4:=Nat.mul_le_mul (by omega) hh4
  omega)⟩
 have HRI:=Lib.hid hri
 have HP:Hid (∀ h,oftenP c (rosOf ls) h=decide ((c.h h).heads*(watchesL (rosOf ls) c.needs.length c.herders.length).sum<wAt (rosOf ls) c.needs.length h*headsTo c c.herders.length)):=Lib.hid fun h=>rfl
 generalize (watchesL (rosOf ls) c.needs.length c.herders.length).sum=all at HSUM HP hsb
 clear hg2 HWT hri hsm hz1 hz2
 go_wp2
 go_loopw [10,33] (fun v i wr=>∃ k:Nat,k<=c.herders.length∧i=.int .i64 k∧v=.int .i64 (headsTo c k)∧Gr w2 wr) (fun _ i _=>c.herders.length - (intOf i).toNat)
 case atStart=>exact ⟨0,by omega,rfl,rfl,.refl _⟩
 case round =>
  obtain ⟨k,hk,rfl,rfl,hgr⟩:=hrel
  have HGR:=Lib.hid hgr
  have hgz:=hgr.size
  by_cases hltk:k<c.herders.length
  ·obtain ⟨b,o,rfl,hb,h0,h1,h2,A_,m,h3,_⟩:=(HH.out.keep (w':=wr) fun b o hb=>(HG2.out.trans hgr).cell (Nat.lt_of_lt_of_le hb hB)).at_ hltk
   have HHT:Hid (headsTo c (k+1)=headsTo c k+(c.h k).heads):=Lib.hid rfl
   have hhk:=HOK.out.head hltk
   have hht:=dq HOK.out (show k<=_ by omega)
   generalize headsTo c k=y at HHT hht
   generalize (c.h k).heads=z at h0 HHT hhk
   clear hgr
   go_wp2
   go_roundw
   case rel=>exact ⟨k+1,by omega,by go_num,congrArg (Value.int .i64) HHT.out.symm,HGR.out.alloc _⟩
   case measure=>simp [intOf];omega
  ·have hkn:k=c.herders.length:=by omega
   subst hkn
   have hsum:=Lib.hid (HSUM.out wr hgr)
   have hc1:=(hgr.cell (p:=⟨w.heap.size,1,none⟩) hwl).trans HC2.out
   have hht:=dq HOK.out (Nat.le_refl _)
   generalize headsTo c c.herders.length=hds at HP hht ⊢
   clear hgr
   go_wp2_with fail
   refine hsum.out.mono ?_
   rintro e w' ⟨rfl,rfl⟩
   clear hsum
   go_wp2
   obtain ⟨w3,rfl⟩:∃ w3:World,w3=wr:=⟨_,rfl⟩
   go_loopw [14,47] (fun v i wr=>∃ k:Nat,k<=c.herders.length∧i=.int .i64 k∧Gr w3 wr∧wr.ownsRow w3.heap.size 3 1 v (chosen (oftenP c (rosOf ls)) k).length ((chosen (oftenP c (rosOf ls)) k).map (Value.int .i64))) (fun _ i _=>c.herders.length - (intOf i).toNat)
   case atStart=>exact ⟨0,by omega,rfl,.refl _,World.ownsRow_nil _ _ _ _⟩
   case round =>
    obtain ⟨k,hk,rfl,hgi,hown⟩:=hrel
    have HGI:=Lib.hid hgi
    have hgz2:=hgi.size
    by_cases hltk:k<c.herders.length
    ·obtain ⟨b,o,rfl,hb,h0,h1,h2,A_,m,h3,_⟩:=(HH.out.keep (w':=wr) fun b o hb=>(HG2.out.trans (HGR.out.trans hgi)).cell (Nat.lt_of_lt_of_le hb hB)).at_ hltk
     obtain ⟨b',o',rfl,hb',hw'⟩:=(HRI.out.gr (Nat.le_refl _) (HGR.out.trans hgi)) (by rw [<- List.length_pos_iff,watchesL_len];omega)
     have hwk:=hw' k _ (gp hltk)
     have hwi:=ix (rosOf ls) c.needs.length k
     have HPK:=Lib.hid (HP.out k)
     have HCS:=Lib.hid (cW (oftenP c (rosOf ls)) k)
     have hlen:=cL (oftenP c (rosOf ls)) k
     have hhk:=HOK.out.head hltk
     generalize wAt (rosOf ls) c.needs.length k=y at hwk hwi HPK
     generalize (c.h k).heads=z at h0 HPK hhk
     have hm1:0<=y*hds∧y*hds<=20*160:=⟨Int.mul_nonneg hwi.1 (by omega),Int.mul_le_mul (by omega) (by omega) (by omega) (by omega)⟩
     have hm2:0<=z*all∧z*all<=40*80:=⟨Int.mul_nonneg (by omega) hsb.1,Int.mul_le_mul (by omega) (by omega) (by omega) (by omega)⟩
     have hbl':b'<wr.heap.size:=by omega
     clear hgi hw' hwi hsb hht
     generalize hM1:y*hds=M1 at HPK hm1
     generalize hM2:z*all=M2 at HPK hm2
     have HO:=Lib.hid hown
     generalize chosen (oftenP c (rosOf ls)) k=L at HO HCS hlen
     by_cases hgt:M2<M1
     ·have hd1:decide (M1 > M2)=true:=by simp;omega
      have HL:Hid (chosen (oftenP c (rosOf ls)) (k+1)=L++[(k:Int)]):=Lib.hid (by rw [HCS.out,HPK.out];simp [hgt])
      clear hown
      go_wp2
      go_region
      all_goals
       have HOD:=Lib.hid (aH (w':=((wr.alloc (.cells #[.int .i64 z,.int .i64 (c.h k).dogs,.int .i64 (c.h k).most,.slice A_ (c.h k).off.length m] 54)).alloc (.cells #[.int .i64 (k:Nat)] 3)).drew) ((HO.out.alloc _).alloc _) fun _ _ _=>rfl)
       go_wp2_with (at_builtin;refine ij rfl _ _ rfl w3.heap.size _ _ _ rfl HOD.out ⟨wr.heap.size+1,0,none⟩ 1 (.int .i64 k) rfl ?c1 rfl ?c2 ?c3 ?_)
       case c1 =>
        refine Eq.trans (b:=((wr.alloc (.cells #[.int .i64 z,.int .i64 (c.h k).dogs,.int .i64 (c.h k).most,.slice A_ (c.h k).off.length m] 54)).alloc (.cells #[.int .i64 (k:Nat)] 3)).cell? ⟨wr.heap.size+1,0,none⟩) rfl ?_
        rw [World.cell?_alloc_at _ _ _ _ (by simp)];rfl
       case c2=>omega
       case c3=>simp;omega
       intro v' w4 hown' hgrow hd
       have HG4:=Lib.hid (((HGI.out.alloc _).alloc _).drew.grown hgrow hd fun q hq=>(HO.out.lt q hq).1)
       have HO4:Hid (w4.ownsRow w3.heap.size 3 1 v' (L++[(k:Int)]).length ((L++[(k:Int)]).map (Value.int .i64))):=Lib.hid (by simpa using hown')
       clear hown' hgrow hd
       go_wp2
       go_roundw
       case rel=>exact ⟨k+1,by omega,by go_num,HG4.out,by rw [HL.out];exact HO4.out⟩
       case measure=>simp [intOf];omega
     ·have hd1:decide (M1 > M2)=false:=by simp;omega
      have HL:Hid (chosen (oftenP c (rosOf ls)) (k+1)=L):=Lib.hid (by rw [HCS.out,HPK.out];simp [hgt])
      clear hown
      go_wp2
      go_region
      all_goals
       go_wp2
       go_roundw
       case rel=>exact ⟨k+1,by omega,by go_num,(HGI.out.alloc _).drew,by rw [HL.out];exact aH (HO.out.alloc _) fun _ _ _=>rfl⟩
       case measure=>simp [intOf];omega
    ·have hkn:k=c.herders.length:=by omega
     subst hkn
     have HF:=Lib.hid (RI.of_own hown)
     have HGF:=Lib.hid (HG2.out.trans (HGR.out.trans hgi))
     obtain ⟨A2,k2,rfl,hri⟩:=HF.out
     have HR2:=Lib.hid hri
     clear hgi hown HF hri
     go_wp2
     go_ret2
     exact ⟨HGF.out,_,_,rfl,HR2.out⟩
end Go.Proofs.YtgicaeombogkcaaGreat
namespace Go.Sq
open Go.RowKit
def sizeAt (ls:List (List Int)):Nat->Nat->Int
 | 0,_=>0
 | k+1,h=>sizeAt ls k h+if (h:Int)∈ls[k]?.getD [] then 1 else 0
def ew (ls:List (List Int)) (m:Nat):List Int:=(List.range m).map (sizeAt ls ls.length)
theorem iB (ls:List (List Int)) (m:Nat):(ew ls m).length=m:=by simp [ew]
theorem oO (ls:List (List Int)) (k h:Nat):0<=sizeAt ls k h∧sizeAt ls k h<=k:=by
 induction k with
 | zero=>simp [sizeAt]
 | succ k ih=>unfold sizeAt;split<;>omega
theorem ifs {P Q:Prop} [Decidable P] [Decidable Q] (h:P↔Q) {a b:Int}:(if P then a else b)=if Q then a else b:=by
 by_cases hp:P
 ·rw [if_pos hp,if_pos (h.1 hp)]
 ·rw [if_neg hp,if_neg fun q=>hp (h.2 q)]
theorem jz {l:List Int} {k:Nat} (hk:k<l.length) (n:Int):n∈l.take (k+1)↔n∈l.take k∨l[k]?.getD 0=n:=by
 rw [aU 0 l k hk,List.mem_append,List.mem_singleton]
 constructor
 ·rintro (h | h);exact .inl h;exact .inr h.symm
 ·rintro (h | h);exact .inl h;exact .inr h.symm
end Go.Sq
namespace Go.Proofs.YtgicaeombogkcaaGreat
open Go.RowKit Go.Sq
theorem lQ (A:Option Addr) (c:Nat) (l:List Int) (n:Int) (w:World) (B:Nat) (h:RI w B A l) (hl:l.length<=1048576) :
  Calls Sq.prog 40 #[.slice A l.length c,.int .i64 n] w fun e w'=>(∃ r:Int,e=.returned (.int .i64 r)∧(0<=r↔n∈l))∧w=w':=by
 have HR:=Lib.hid h
 clear h
 go_enter Sq.func40,Tryz.ntmps40
 go_wp2
 go_loop [5] (fun i=>∃ k:Nat,k<=l.length∧i=.int .i64 k∧n ∉ l.take k) (fun i=>l.length - (intOf i).toNat)
 case atStart=>exact ⟨0,by omega,rfl,by simp⟩
 case round =>
  obtain ⟨k,hk,rfl,hno⟩:=hrel
  have HNO:=Lib.hid hno
  clear hno
  by_cases hlt:k<l.length
  ·obtain ⟨b,o,rfl,hb,hc⟩:=HR.out.at_ hlt
   have HS:=Lib.hid (jz hlt n)
   have HM:=Lib.hid (mem_get l k hlt)
   generalize l[k]?.getD 0=y at hc HS HM
   by_cases hyn:y=n
   ·have HF:Hid (0<=(k:Int)↔n∈l):=Lib.hid (by have:=HM.out;rw [hyn] at this;simp [this])
    clear HS HM
    go_wp2
    go_ret
    exact ⟨⟨_,rfl,HF.out⟩,rfl⟩
   ·have HN:Hid (n ∉ l.take (k+1)):=Lib.hid (by rw [HS.out];exact not_or.2 ⟨HNO.out,hyn⟩)
    clear HS HM
    go_wp2
    go_round
    case rel=>exact ⟨k+1,by omega,by go_num,HN.out⟩
    case measure=>simp [intOf];omega
  ·have:k=l.length:=by omega
   have HF:Hid ((0:Int)<=-1↔n∈l):=Lib.hid (by have:=HNO.out;rw [List.take_of_length_le (by omega)] at this;simp [this])
   clear this
   go_wp2
   go_ret
   exact ⟨⟨_,rfl,HF.out⟩,rfl⟩
theorem rG (A:Option Addr) (c:Nat) (l:List Int) (w:World) (B:Nat) (h:RI w B A l) (hl:l.length<=1048576) (hx:∀ x∈l,0<=x∧x<=1048576) :
  Calls Sq.prog 39 #[.slice A l.length c] w fun e w'=>e=.returned (.int .i64 l.sum)∧w=w':=by
 have HR:=Lib.hid h
 have HX:=Lib.hid hx
 clear h hx
 go_enter Sq.func39,Tryz.ntmps39
 go_wp2
 go_loop [3,4] (fun s i=>∃ k:Nat,k<=l.length∧i=.int .i64 k∧s=.int .i64 (l.take k).sum) (fun _ i=>l.length - (intOf i).toNat)
 case atStart=>exact ⟨0,by omega,rfl,by simp⟩
 case round =>
  obtain ⟨k,hk,rfl,rfl⟩:=hrel
  by_cases hlt:k<l.length
  ·obtain ⟨b,o,rfl,hb,hc⟩:=HR.out.at_ hlt
   have HS:=Lib.hid (gt l k hlt)
   have hy:=HX.out _ (mem_get l k hlt)
   obtain ⟨hs1,hs2⟩:=sum_bound 0 1048576 (l.take k) fun y hy=>HX.out y (List.mem_of_mem_take hy)
   have hs3:((l.take k).length:Int)*1048576<=1048576*1048576:=by
    have:(l.take k).length<=1048576:=by rw [List.length_take];omega
    omega
   have hs4:0<=(l.take k).sum:=by omega
   have hs5:(l.take k).sum<=1099511627776:=by omega
   clear hs1 hs2 hs3
   generalize l[k]?.getD 0=y at hc HS hy
   obtain ⟨hy1,hy2⟩:=hy
   go_wp2
   go_round
   case rel=>exact ⟨k+1,by omega,by go_num,by rw [HS.out]⟩
   case measure=>simp [intOf];omega
  ·have:k=l.length:=by omega
   have HS:=Lib.hid (show (l.take k).sum=l.sum by rw [List.take_of_length_le (by omega)])
   clear this
   go_wp2
   go_ret
   exact ⟨ap HS.out,rfl⟩
theorem rH (nA hA gA:Option Addr) (nc hc gc n m:Nat) (ls:List (List Int)) (w:World) (B:Nat) (hB:B<=w.heap.size) (hg:GrAt w B gA ls) (hm:m<=4) (hl3:ls.length<=1048576) (hl4:∀ x∈ls,x.length<=1048576) :
  Calls Sq.prog 38 #[.agg #[.slice nA n nc,.slice hA m hc],.slice gA ls.length gc] w fun e w'=>Gr w w'∧∃ A k,e=.returned (.slice A m k)∧RI w' w'.heap.size A (ew ls m):=by
 obtain ⟨W0,hW0⟩:∃ W0:World,W0=w.alloc (.cells #[.slice nA n nc,.slice hA m hc] 25):=⟨_,rfl⟩
 have hg0:Gr w W0:=hW0▸(Gr.refl w).alloc _
 have HZ1:Hid (W0.heap.size=w.heap.size+1):=Lib.hid (by rw [hW0];simp)
 have HG:=Lib.hid hg
 have HL4:=Lib.hid hl4
 have HW:=Lib.hid hW0
 have HG0:=Lib.hid hg0
 have hmk:=fun w=>en m w (by omega)
 have HN0:Hid (Nums (W0.alloc (.cells (dL m) 3)) (w.heap.size+1) m fun _=>0):=Lib.hid (HZ1.out▸kz W0 m)
 clear hW0 hg0 hg hl4
 go_enter Sq.func38,Tryz.ntmps38
 go_wp2
 rw [<- HW.out]
 go_loopw [6] (fun i wr=>∃ k:Nat,k<=ls.length∧i=.int .i64 k∧Gr W0 wr∧Nums wr (w.heap.size+1) m (sizeAt ls k)) (fun i _=>ls.length - (intOf i).toNat)
 case atStart=>exact ⟨0,by omega,rfl,(Gr.refl W0).alloc _,HN0.out⟩
 case round =>
  obtain ⟨wq,rfl⟩:∃ wq,wq=wr:=⟨_,rfl⟩
  obtain ⟨k,hk,rfl,hgr,hnm⟩:=hrel
  have HGR:=Lib.hid hgr
  have HNM:=Lib.hid hnm
  by_cases hlk:k<ls.length
  ·obtain ⟨b,o,rfl,hb,hrow⟩:=HG.out (by intro e;rw [e] at hlk;simp at hlk)
   obtain ⟨A1,c1,hc1,hr1⟩:=hrow k _ (List.getElem?_eq_getElem hlk)
   have hll:=HL4.out _ (List.getElem_mem hlk)
   have HSZ:Hid (∀ h:Nat,sizeAt ls (k+1) h=sizeAt ls k h+if (h:Int)∈ls[k] then 1 else 0):=Lib.hid fun h=>by
    show sizeAt ls k h+(if (h:Int)∈ls[k]?.getD [] then 1 else 0)=_
    rw [List.getElem?_eq_getElem hlk];rfl
   have HSI:=Lib.hid (fun h=>oO ls k h)
   generalize ls[k]=L at hc1 hr1 hll HSZ
   have HR1:=Lib.hid hr1
   have HC1:=Lib.hid hc1
   have HNQ:Hid (Nums wq (w.heap.size+1) m (fun h=>sizeAt ls k h+if h<0∧(h:Int)∈L then 1 else 0)):=Lib.hid (hnm.congr fun q _=>by rw [if_neg (by omega)];omega)
   clear hgr hnm hrow hc1 hr1
   go_wp2
   go_loopw [7] (fun i wr=>∃ j:Nat,j<=m∧i=.int .i64 j∧Gr W0 wr∧Nums wr (w.heap.size+1) m (fun h=>sizeAt ls k h+if h<j∧(h:Int)∈L then 1 else 0)) (fun i _=>m - (intOf i).toNat)
   case atStart=>exact ⟨0,by omega,rfl,HGR.out,HNQ.out⟩
   case round =>
    obtain ⟨j,hj,rfl,hgi,hni⟩:=hrel
    have HGI:=Lib.hid hgi
    have HNI:=Lib.hid hni
    by_cases hlj:j<m
    ·have hgw:=HG0.out.trans hgi
     have hcc:=(hgw.cell (p:=⟨b,o+k,none⟩) (Nat.lt_of_lt_of_le hb hB)).trans HC1.out
     have hbl:b<wr.heap.size:=by have:=hgw.size;omega
     have HPL:=Lib.hid (lQ A1 c1 L (j:Int) wr B (HR1.out.gr hB hgw) hll)
     obtain ⟨e1,e2⟩:=hni.at_ j hlj
     rw [if_neg (by omega),Int.add_zero] at e1
     have hb1:=HSI.out j
     have hlt9:=hni.lt
     have HSET:=Lib.hid (fun y (hy:y=sizeAt ls k j+if (j:Int)∈L then 1 else 0)=>hni.set hlj y (V':=fun h=>sizeAt ls k h+if h<j+1∧(h:Int)∈L then 1 else 0) fun q _=>by
      by_cases e:q=j
      ·subst e;rw [if_pos rfl,hy];simp
      ·rw [if_neg e]
       rw [ifs (show q<j+1∧(q:Int)∈L↔q<j∧(q:Int)∈L from and_congr_left fun _=>by omega)])
     have HSAME:Hid ((j:Int) ∉ L->Nums wr (w.heap.size+1) m (fun h=>sizeAt ls k h+if h<j+1∧(h:Int)∈L then 1 else 0)):=Lib.hid fun hno=>hni.congr fun q _=>by
      by_cases e:q=j
      ·subst e;rw [if_neg (by omega),if_neg (fun h=>hno h.2)]
      ·rw [ifs (show q<j+1∧(q:Int)∈L↔q<j∧(q:Int)∈L from and_congr_left fun _=>by omega)]
     have HGS:=Lib.hid (fun y=>hgi.setCell (p:=⟨w.heap.size+1,j,none⟩) (Nat.le_of_eq HZ1.out) y)
     clear hgi hni hgw
     generalize sizeAt ls k j=y0 at e1 HSET hb1
     by_cases hin:(j:Int)∈L
     ·have HS9:=Lib.hid (HSET.out (y0+1) (by rw [if_pos hin]))
      have HIN:=Lib.hid hin
      clear hin HSET HSAME
      go_wp2_with fail
      refine HPL.out.mono ?_
      rintro e w' ⟨⟨r,rfl,hr⟩,rfl⟩
      have hr2:decide (r ≥ 0)=true:=decide_eq_true (hr.2 HIN.out)
      clear hr
      go_wp2
      go_roundw
      case rel=>exact ⟨j+1,by omega,by go_num,HGS.out _,HS9.out⟩
      case measure=>simp [intOf];omega
     ·have HS9:=Lib.hid (HSAME.out hin)
      have HIN:=Lib.hid hin
      clear hin HSET HSAME
      go_wp2_with fail
      refine HPL.out.mono ?_
      rintro e w' ⟨⟨r,rfl,hr⟩,rfl⟩
      have hr2:decide (r ≥ 0)=false:=decide_eq_false fun h=>HIN.out (hr.1 h)
      clear hr
      go_wp2
      go_roundw
      case rel=>exact ⟨j+1,by omega,by go_num,HGI.out,HS9.out⟩
      case measure=>simp [intOf];omega
    ·have hjn:j=m:=by omega
     subst hjn
     have HNE:Hid (Nums wr (w.heap.size+1) j (sizeAt ls (k+1))):=Lib.hid (hni.congr fun q hq=>by
      rw [HSZ.out]
      rw [ifs (show q<j∧(q:Int)∈L↔(q:Int)∈L from and_iff_right hq)])
     clear hgi hni
     go_wp2
     go_roundw
     case rel=>exact ⟨k+1,by omega,by go_num,HGI.out,HNE.out⟩
     case measure=>simp [intOf];omega
  ·have hkn:k=ls.length:=by omega
   subst hkn
   have HF:=Lib.hid hnm.ri
   clear hgr hnm
   go_wp2
   go_ret
   exact ⟨HG0.out.trans HGR.out,_,_,rfl,HF.out⟩
end Go.Proofs.YtgicaeombogkcaaGreat
namespace Go.Sq
open Go.RowKit
theorem mS (l:List Int) (h:∀ x∈l,0<=x) (x i:Nat):(l.foldl (fun x h=>x ||| 2 ^ h.toNat) x).testBit i=(x.testBit i||decide ((i:Int)∈l)):=by
 induction l generalizing x with
 | nil=>simp
 | cons a l ih =>
  rw [List.foldl_cons,ih (fun y hy=>h y (by simp [hy])),Nat.testBit_or,Nat.testBit_two_pow,Bool.or_assoc]
  congr 1
  have h0:=h a (by simp)
  by_cases e:a.toNat=i
  ·have:(i:Int)=a:=by omega
   simp [e,this]
  ·have:¬ (i:Int)=a:=by omega
   simp [e,this]
theorem lR {l:List Int} (h:∀ x∈l,0<=x) (i:Nat):(ofL l).testBit i=decide ((i:Int)∈l):=by
 unfold ofL
 rw [mS l h];simp
theorem oP {l:List Int} (h:l.Pairwise (·<·)) (x:Int):l.count x=if x∈l then 1 else 0:=by
 induction l with
 | nil=>rfl
 | cons a l ih =>
  rw [List.pairwise_cons] at h
  rw [List.count_cons,ih h.2]
  by_cases e:a=x
  ·subst e
   have:a ∉ l:=fun hm=>by have:=h.1 a hm;omega
   simp [this]
  ·have e':¬ x=a:=fun h=>e h.symm
   simp [e,e']
theorem p8 {l:List Int} {m h:Nat} (hl:∃ p,l=chosen p m) (hm:m<=4) (hh:h<m):(wl (ofL l)).count (h:Int)=if (h:Int)∈l then 1 else 0:=by
 obtain ⟨p,rfl⟩:=hl
 have hn:∀ x∈chosen p m,0<=x:=fun x hx=>by obtain ⟨n,rfl,_⟩:=chosen_mem.1 hx;omega
 have e:wl (ofL (chosen p m))=chosen (ofL (chosen p m)).testBit 4:=rfl
 rw [e,oP (iA _ _)]
 congr 1
 refine propext ⟨fun hx=>?_,fun hx=>chosen_mem.2 ⟨h,rfl,by omega,by rw [lR hn];simp [hx]⟩⟩
 obtain ⟨n,hnn,_,hb⟩:=chosen_mem.1 hx
 obtain rfl:h=n:=by omega
 rw [lR hn] at hb
 simpa using hb
theorem mT {ls:List (List Int)} {m h:Nat} (hl:∀ x∈ls,∃ p,x=chosen p m) (hm:m<=4) (hh:h<m) (k:Nat) (hk:k<=ls.length):wAt (rosOf ls) k h=sizeAt ls k h:=by
 induction k with
 | zero=>rfl
 | succ k ih =>
  unfold wAt sizeAt
  rw [ih (by omega)]
  congr 1
  have hlt:k<ls.length:=hk
  have e:rosOf ls k=ofL ls[k]:=by unfold rosOf;rw [List.getElem?_eq_getElem hlt];rfl
  rw [e,p8 (hl _ (List.getElem_mem hlt)) hm hh,List.getElem?_eq_getElem hlt,Option.getD_some]
  split<;>rfl
theorem jA {ls:List (List Int)} {m:Nat} (hl:∀ x∈ls,∃ p,x=chosen p m) (hm:m<=4):watchesL (rosOf ls) ls.length m=ew ls m:=by
 unfold watchesL ew
 refine List.map_congr_left fun h hh=>mT hl hm (List.mem_range.1 hh) _ (Nat.le_refl _)
theorem oQ {c:Camp} {ls:List (List Int)} (hc:checkE c=0) (hn:ls.length=c.needs.length) (hl:∀ x∈ls,∃ p,x=chosen p c.herders.length):formedE c ls=0:=by
 have hm:manyE ls.length c.needs.length c.needs.length=0:=cg.2 (by omega)
 unfold formedE
 rw [if_neg (by simp [hc]),if_neg (by simp [hm])]
 refine dX fun x hx=>?_
 obtain ⟨l,h1,rfl⟩:=List.mem_map.1 hx
 obtain ⟨p,rfl⟩:=hl l h1
 exact ji _ _
def sumTo (f:Nat->Int):Nat->Int
 | 0=>0
 | k+1=>sumTo f k+f k
theorem jl (f:Nat->Int) (y:Int) (k:Nat):sumTo (fun i=>f i*y) k=sumTo f k*y:=by
 induction k with
 | zero=>simp [sumTo]
 | succ k ih=>unfold sumTo;rw [ih,Int.add_mul]
theorem p9 {f g:Nat->Int} {k:Nat} (h:∀ i,i<k->f i<g i) (hk:0<k):sumTo f k<sumTo g k:=by
 induction k with
 | zero=>omega
 | succ k ih =>
  have h1:=h k (by omega)
  unfold sumTo
  rcases Nat.eq_zero_or_pos k with e | e
  ·subst e;simp only [sumTo];omega
  ·have:=ih (fun i hi=>h i (by omega)) e
   omega
theorem sumTo_le {f g:Nat->Int} {k:Nat} (h:∀ i,i<k->f i<=g i):sumTo f k<=sumTo g k:=by
 induction k with
 | zero=>simp [sumTo]
 | succ k ih =>
  have h1:=h k (by omega)
  have:=ih fun i hi=>h i (by omega)
  unfold sumTo;omega
theorem qa {f g:Nat->Int} {k:Nat} (h:∀ i,i<k->f i<=g i) (he:sumTo f k=sumTo g k):∀ i,i<k->f i=g i:=by
 induction k with
 | zero=>intro i hi;omega
 | succ k ih =>
  have h1:=h k (by omega)
  have h2:=sumTo_le (k:=k) fun i hi=>h i (by omega)
  unfold sumTo at he
  intro i hi
  rcases Nat.lt_or_ge i k with h3 | h3
  ·exact ih (fun i hi=>h i (by omega)) (by omega) i h3
  ·obtain rfl:i=k:=by omega
   omega
theorem oR (f:Nat->Int) (k:Nat):((List.range k).map f).sum=sumTo f k:=by
 induction k with
 | zero=>rfl
 | succ k ih=>rw [List.range_succ,List.map_append,List.sum_append,ih];simp [sumTo]
theorem ld (c:Camp) (k:Nat):headsTo c k=sumTo (fun i=>(c.h i).heads) k:=by
 induction k with
 | zero=>rfl
 | succ k ih=>unfold headsTo sumTo;rw [ih]
theorem lS (c:Camp) (r:Ros) (n m:Nat):sumTo (fun i=>wAt r n i*headsTo c m) m=sumTo (fun i=>(c.h i).heads*(watchesL r n m).sum) m:=by
 rw [jl,jl,<- ld,Int.mul_comm]
 congr 1
 unfold watchesL
 exact (oR _ _).symm
theorem jB {c:Camp} (hc:c.Ok) (r:Ros):(oftenL c r).length<c.herders.length:=by
 have hlt:∀ k,(∃ i,i<k∧oftenP c r i=false)->(chosen (oftenP c r) k).length<k:=by
  intro k
  induction k with
  | zero=>rintro ⟨i,hi,_⟩;omega
  | succ k ih =>
   rintro ⟨i,hi,hf⟩
   rw [cW,List.length_append]
   rcases Nat.lt_or_ge i k with h | h
   ·have:=ih ⟨i,h,hf⟩
    split<;>simp<;>omega
   ·obtain rfl:i=k:=by omega
    have:=cL (oftenP c r) i
    rw [hf];simp;omega
 refine hlt _ (Classical.byContradiction fun hno=>?_)
 have hall:∀ i,i<c.herders.length->(c.h i).heads*(watchesL r c.needs.length c.herders.length).sum<wAt r c.needs.length i*headsTo c c.herders.length:=fun i hi=>by
  have:oftenP c r i≠false:=fun h=>hno ⟨i,hi,h⟩
  simpa [oftenP] using this
 have h1:=p9 hall hc.h1
 rw [lS] at h1
 omega
theorem jm {c:Camp} {r:Ros} {i:Nat} (hi:i<c.herders.length):(i:Int)∈oftenL c r↔(c.h i).heads*(watchesL r c.needs.length c.herders.length).sum<wAt r c.needs.length i*headsTo c c.herders.length:=by
 unfold oftenL
 rw [chosen_mem]
 constructor
 ·rintro ⟨n,h1,_,h2⟩
  obtain rfl:i=n:=by omega
  simpa [oftenP] using h2
 ·intro h;exact ⟨i,rfl,hi,by simpa [oftenP] using h⟩
theorem mU {c:Camp} {r:Ros} (h0:oftenL c r=[]) {i:Nat} (hi:i<c.herders.length):wAt r c.needs.length i*headsTo c c.herders.length=(c.h i).heads*(watchesL r c.needs.length c.herders.length).sum :=
 qa (f:=fun i=>wAt r c.needs.length i*headsTo c c.herders.length) (g:=fun i=>(c.h i).heads*(watchesL r c.needs.length c.herders.length).sum) (fun j hj=>by
  exact Int.not_lt.1 fun hh=>by have:=(jm (c:=c) (r:=r) hj).2 hh;rw [h0] at this;simp at this) (lS _ _ _ _) i hi
end Go.Sq
