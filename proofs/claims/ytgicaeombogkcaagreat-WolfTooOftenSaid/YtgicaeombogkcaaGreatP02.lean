/- Parts of the proof. -/
import Derived.Test.YtgicaeombogkcaaGreatP01
import Derived.Test.YtgicaeombogkcaaGreatP00
import Derived.Outline
import Derived.RangeFuncOwn
import Derived.RangeFuncLeaves
import Derived.Defers
import Derived.Laws.LoneSync
import Derived.BigQuiet
set_option linter.all false
set_option maxHeartbeats 6400000
set_option maxRecDepth 1000000
namespace Go.Proofs.YtgicaeombogkcaaGreat
open Go.RowKit Go.Sq Go.Shelf
attribute [local go_sem] Oper.semAt_some
def Said (T:Nat->Prop) (J Jx:List Ros->World->Prop) (pre:List Ros) (ρ:Ros) (W:World) (e:Ending) (W':World):Prop :=
 (e=.returned (.bool true)∧J (pre++[ρ]) W'∧KT T W W')∨(e=.returned (.bool false)∧Jx (pre++[ρ]) W'∧KT T W W')
def nj (T':Nat->Prop) (St:World->Prop) (J Jx:List Ros->World->Prop) (pre L:List Ros) (W:World) (e:Ending) (W':World):Prop :=
 (e=.returned (.bool true)∧J (pre++L) W'∧St W'∧KT T' W W')∨(e=.returned (.bool false)∧(∃ q,q <+: L∧Jx (pre++q) W')∧KT T' W W')
section
variable {T K:Nat->Prop} {cb:Nat} {c:Camp} {sets:List Nat} {nA hA:Option Addr} {nc hc sb sc bc by_ br bw l:Nat} {J Jx:List Ros->World->Prop} {W0:World} {Lt:List Ros}
theorem nk (hok:c.Ok) {r:Ros} {pre:List Ros} {W:World} (hs:WkS T K cb c sets nA hA nc hc sb sc bc by_ br bw l r W) (hk:KT (fun b=>T b∨b=br) W0 W) (hj:J pre W) (hpl:pre++[r] <+: Lt)
  (hY:∀ pre ρ W,pre++[ρ] <+: Lt->KT (fun b=>T b∨b=br) W0 W->J pre W->YieldAt Fence.wide 0 Sq.prog l #[rosV ρ] W (Said T J Jx pre ρ W)) :
  CallsIn Fence.wide 0 Sq.prog 108 #[.int .i64 c.needs.length,.pointer (some ⟨bc,0,none⟩),.pointer (some ⟨by_,0,none⟩),.pointer (some ⟨br,0,none⟩),.pointer (some ⟨bw,0,none⟩)] W
   (nj (fun b=>T b∨b=br) (WkS T K cb c sets nA hA nc hc sb sc bc by_ br bw l r) J Jx pre [r] W):=by
 have HS:=Lib.hid hs
 have hn5:=hok.n5
 obtain ⟨fn,tmps,assign,body,hy,hR⟩:=hY pre r W hpl hk hj
 have HR:=Lib.hid hR
 have hxc:=hs.xc.1
 have hxy:=hs.xy.1
 have hc0:=hs.camp.c0
 have hr0:=(hs.xr.1 0 (by omega)).1
 have hr1:=(hs.xr.1 1 (by omega)).1
 have hr2:=(hs.xr.1 2 (by omega)).1
 have hr3:=(hs.xr.1 3 (by omega)).1
 have hr4:=(hs.xr.1 4 (by omega)).1
 unfold rosV at hy
 clear hs hk hj hY hR hpl
 refine callsIn_of_wp Sq.func108 rfl trivial ?_ rfl
 simp only [Tryz.ntmps108,List.size_toArray,List.length_cons,List.length_nil,Nat.reduceAdd,Nat.reduceSub,Array.replicate_succ,Array.replicate_zero,List.push_toArray,List.append_toArray,List.nil_append,List.cons_append]
 gi_wp2
 refine ⟨rfl,HR.out.mono ?_⟩
 rintro e W' (⟨rfl,hj,hk⟩ | ⟨rfl,hj,hk⟩)
 ·have HJ:=Lib.hid hj
  have HK:=Lib.hid hk
  clear hj hk
  gi_wp2
  go_ret
  exact .inl ⟨rfl,HJ.out,HS.out.on HK.out,HK.out.mono fun b hb=>.inl hb⟩
 ·have HJ:=Lib.hid hj
  have HK:=Lib.hid hk
  clear hj hk
  gi_wp2
  go_ret
  exact .inr ⟨rfl,⟨[r],List.prefix_refl _,HJ.out⟩,HK.out.mono fun b hb=>.inl hb⟩
theorem qv (k1 k2 k3:Int) (w:World):Sem.run Sq.prog (Instr.field 57 (.agg #[.int .i64 k1,.int .i64 k2,.int .i64 k3]) 0) w=.ok (.int .i64 k1) w:=by kernel_rfl
def gives (c:Camp) (sets:List Nat) (k:Nat) (r:Ros) (n x:Nat):List Ros:=if (lapseOf c (upd r n x) n).1=0 then walkL c sets k (upd r n x) (n+1) else []
theorem gO (c:Camp) (sets:List Nat) (k:Nat) (r:Ros) (n j:Nat) (hj:j<sets.length):(sets.take (j+1)).flatMap (gives c sets k r n)=(sets.take j).flatMap (gives c sets k r n)++gives c sets k r n (sets[j]?.getD 0):=by
 rw [aU 0 sets j hj,List.flatMap_append];simp
theorem nl (c:Camp) (sets:List Nat) (k:Nat) (r:Ros) (n j:Nat) (hj:j<sets.length) {q:List Ros} (h:q <+: gives c sets k r n (sets[j]?.getD 0)):(sets.take j).flatMap (gives c sets k r n)++q <+: sets.flatMap (gives c sets k r n):=by
 have e:sets.flatMap (gives c sets k r n)=(sets.take (j+1)).flatMap (gives c sets k r n)++(sets.drop (j+1)).flatMap (gives c sets k r n):=by
  rw [<- List.flatMap_append,List.take_append_drop]
 rw [e,gO _ _ _ _ _ _ hj]
 obtain ⟨s,hs⟩:=h
 exact ⟨s++(sets.drop (j+1)).flatMap (gives c sets k r n),by rw [<- hs];simp [List.append_assoc]⟩
theorem ll (r:Ros) (n x y:Nat):upd (upd r n x) n y=upd r n y:=by
 funext i;unfold upd;split<;>rfl
theorem jG (r:Ros) (n:Nat):upd r n (r n)=r:=by
 funext i;unfold upd;split
 ·rename_i h;rw [h]
 ·rfl
theorem rI (hok:c.Ok) (hsets:∀ x∈sets,c.has x) (hsl:sets.length<=16) (hJT:∀ pre w w',J pre w->(∀ b,T b->w'.heap[b]?=w.heap[b]?)->J pre w')
  (hTlt:∀ pre w,J pre w->∀ b,T b->b<w.heap.size) (hTbr:¬ T br)
  (hY:∀ pre ρ W,pre++[ρ] <+: Lt->KT (fun b=>T b∨b=br) W0 W->J pre W->YieldAt Fence.wide 0 Sq.prog l #[rosV ρ] W (Said T J Jx pre ρ W)) :
  ∀ (k n:Nat) (r:Ros) (pre:List Ros) (W:World),n+k=c.needs.length->WkS T K cb c sets nA hA nc hc sb sc bc by_ br bw l r W->KT (fun b=>T b∨b=br) W0 W->J pre W->(∀ i,n<=i->r i=0)->pre++walkL c sets k r n <+: Lt ->
  CallsIn Fence.wide 0 Sq.prog 108 #[.int .i64 n,.pointer (some ⟨bc,0,none⟩),.pointer (some ⟨by_,0,none⟩),.pointer (some ⟨br,0,none⟩),.pointer (some ⟨bw,0,none⟩)] W
   (nj (fun b=>T b∨b=br) (WkS T K cb c sets nA hA nc hc sb sc bc by_ br bw l r) J Jx pre (walkL c sets k r n) W):=by
 intro k
 induction k with
 | zero =>
  intro n r pre W hn hs hk hj hz hpl
  obtain rfl:n=c.needs.length:=by omega
  exact nk hok hs hk hj hpl hY
 | succ k ih =>
  intro n r pre W hn hs hk hj hz hpl
  have HPL:=Lib.hid hpl
  have HS:=Lib.hid hs
  have HK:=Lib.hid hk
  have HJ:=Lib.hid hj
  have HZ:=Lib.hid hz
  have HIH:=Lib.hid ih
  have HY:=Lib.hid hY
  have HJT:=Lib.hid hJT
  have HTL:=Lib.hid hTlt
  have HST:=Lib.hid hsets
  have hn5:=hok.n5
  have hnl:n<c.needs.length:=by omega
  have hxc:=hs.xc.1
  have hc0:=hs.camp.c0
  have hc2:=hs.camp.c2
  have hneq:((n:Int)==(c.needs.length:Int))=false:=by simpa using (by omega:¬ (n:Int)=(c.needs.length:Int))
  have HW:Hid (walkL c sets (k+1) r n=sets.flatMap (gives c sets k r n)):=Lib.hid rfl
  clear hs hk hj hz ih hY hJT hTlt hsets hpl
  refine callsIn_of_wp Sq.func108 rfl trivial ?_ rfl
  simp only [Tryz.ntmps108,List.size_toArray,List.length_cons,List.length_nil,Nat.reduceAdd,Nat.reduceSub,Array.replicate_succ,Array.replicate_zero,List.push_toArray,List.append_toArray,List.nil_append,List.cons_append]
  gi_wp2
  gi_loopw [25] (fun i wr=>∃ (j x:Nat),j<=sets.length∧i=.int .i64 j∧c.has x∧WkS T K cb c sets nA hA nc hc sb sc bc by_ br bw l (upd r n x) wr∧J (pre++(sets.take j).flatMap (gives c sets k r n)) wr∧KT (fun b=>T b∨b=br) W wr) (fun i _=>sets.length - (intOf i).toNat)
  case atStart =>
   exact ⟨0,r n,by omega,rfl,HS.out.rs n,by rw [jG];exact HS.out,by simpa using HJ.out,KT.refl _ _⟩
  case round =>
   obtain ⟨j,x,hj,rfl,hx,hs,hjj,hk⟩:=hrel
   have HS1:=Lib.hid hs
   have HJ1:=Lib.hid hjj
   have HK1:=Lib.hid hk
   have hxx:=Lib.hid hx
   clear hs hjj hk hx
   by_cases hlt:j<sets.length
   ·obtain ⟨y,hy⟩:∃ y,sets[j]?=some y:=⟨sets[j],List.getElem?_eq_getElem hlt⟩
    have hyc:c.has y:=HST.out y (List.mem_of_getElem? hy)
    have hcell:=HS1.out.camp.sets j y hy
    obtain ⟨hrn,hfn⟩:=HS1.out.xr.1 n (by omega)
    have hxc1:=HS1.out.xc.1
    have HS2:Hid (WkS T K cb c sets nA hA nc hc sb sc bc by_ br bw l (upd r n y) (wr.setCell ⟨br,n,none⟩ (.int .u8 y))):=Lib.hid (by have:=HS1.out.set (n:=n) (x:=y) (by omega) hyc;rwa [ll] at this)
    have hxc2:=HS2.out.xc.1
    have HGV:=Lib.hid (gO c sets k r n j hlt)
    have HGP:=Lib.hid (fun q=>nl c sets k r n j hlt (q:=q))
    have hyD:sets[j]?.getD 0=y:=by rw [hy];rfl
    have HD:=Lib.hid hyD
    have HKS:Hid (KT (fun b=>T b∨b=br) W (wr.setCell ⟨br,n,none⟩ (.int .u8 y))):=Lib.hid (HK1.out.trans (KT.setCell wr (p:=⟨br,n,none⟩) (.inr rfl) _))
    have HJ2:Hid (J (pre++(sets.take j).flatMap (gives c sets k r n)) (wr.setCell ⟨br,n,none⟩ (.int .u8 y))):=Lib.hid (HJT.out _ _ _ HJ1.out fun b hb=>Below.heap_setCell _ _ _ _ fun e=>hTbr (by have e':b=br:=e;rw [<- e'];exact hb))
    have hlap:=lk cb br n c (upd r n y) (wr.setCell ⟨br,n,none⟩ (.int .u8 y)) HS2.out.camp.campP HS2.out.ros hok hnl HS2.out.rs
    unfold lapV at hlap
    have HGI:Hid (gives c sets k r n y=if (lapseOf c (upd r n y) n).1=0 then walkL c sets k (upd r n y) (n+1) else []):=Lib.hid rfl
    generalize lapseOf c (upd r n y) n=lp at hlap HGI
    obtain ⟨k1,k2,k3⟩:=lp
    have HL:=Lib.hid (callsIn_wide (n:=0).2 hlap)
    have hfd:=qv k1 k2 k3
    clear hlap hy hyD
    by_cases h0:k1=0
    ·have HG0:=Lib.hid (show gives c sets k r n y=walkL c sets k (upd r n y) (n+1) by rw [HGI.out,if_pos h0])
     subst h0
     gi_wp2_with fail
     refine ⟨trivial,rfl,HL.out.mono ?_⟩
     rintro e w2 ⟨rfl,hg2⟩
     have HKT:=Lib.hid (KT.of_gr (T:=fun b=>T b∨b=br) hg2)
     have HS3:=Lib.hid (HS2.out.on (KT.of_gr (T:=T) hg2))
     have HJ3:=Lib.hid (HJT.out _ _ w2 HJ2.out fun b hb=>hg2.below.block b (HTL.out _ _ HJ2.out b hb))
     have hxw:=HS3.out.xw.1
     have HC:=Lib.hid (HIH.out (n+1) (upd r n y) _ w2 (by omega) HS3.out (HK.out.trans (HKS.out.trans HKT.out)) HJ3.out (fun i hi=>by unfold upd;rw [if_neg (by omega)];exact HZ.out i (by omega)) (by
      have h1:=HGP.out (walkL c sets k (upd r n y) (n+1)) (by rw [HD.out,HG0.out];exact List.prefix_refl _)
      rw [<- HW.out] at h1
      rw [List.append_assoc]
      exact ((List.prefix_append_right_inj pre).2 h1).trans HPL.out))
     have hn1:IntKind.i64.wrap ((n:Int)+1)=(n:Int)+1:=by simp [IntKind.wrap,IntKind.min,IntKind.max,IntKind.signed,IntKind.bits];omega
     clear hg2
     gi_wp2_with fail
     refine ⟨trivial,rfl,HC.out.mono ?_⟩
     rintro e w3 (⟨rfl,hj3,hs3,hk3⟩ | ⟨rfl,hq3,hk3⟩)
     ·have HJ4:=Lib.hid hj3
      have HS4:=Lib.hid hs3
      have HK4:=Lib.hid (HKS.out.trans (HKT.out.trans hk3))
      clear hj3 hs3 hk3
      gi_wp2
      go_roundw
      case rel =>
       exact ⟨j+1,y,by omega,by go_num,hyc,HS4.out,by rw [HGV.out,HD.out,HG0.out,<- List.append_assoc];exact HJ4.out,HK4.out⟩
      case measure=>simp [intOf];omega
     ·have HQ:=Lib.hid hq3
      have HK4:=Lib.hid (HKS.out.trans (HKT.out.trans hk3))
      clear hq3 hk3
      gi_wp2
      go_ret
      refine .inr ⟨rfl,?_,HK4.out⟩
      obtain ⟨q,q1,q2⟩:=HQ.out
      refine ⟨(sets.take j).flatMap (gives c sets k r n)++q,?_,by rw [<- List.append_assoc];exact q2⟩
      rw [HW.out]
      exact HGP.out q (by rw [HD.out,HG0.out];exact q1)
    ·have HG0:=Lib.hid (show gives c sets k r n y=[] by rw [HGI.out,if_neg h0])
     have hb0:(k1==0)=false:=by simpa using h0
     gi_wp2_with fail
     refine ⟨trivial,rfl,HL.out.mono ?_⟩
     rintro e w2 ⟨rfl,hg2⟩
     have HKT:=Lib.hid (KT.of_gr (T:=fun b=>T b∨b=br) hg2)
     have HS3:=Lib.hid (HS2.out.on (KT.of_gr (T:=T) hg2))
     have HJ3:=Lib.hid (HJT.out _ _ w2 HJ2.out fun b hb=>hg2.below.block b (HTL.out _ _ HJ2.out b hb))
     clear hg2
     gi_wp2
     refine ⟨fun _ h=>(by cases h),?_⟩
     gi_wp2
     go_roundw
     case rel=>exact ⟨j+1,y,by omega,by go_num,hyc,HS3.out,by rw [HGV.out,HD.out,HG0.out,List.append_nil];exact HJ3.out,HKS.out.trans HKT.out⟩
     case measure=>simp [intOf];omega
   ·obtain ⟨hrn,hfn⟩:=HS1.out.xr.1 n (by omega)
    have h0:c.has 0:=Nat.two_pow_pos _
    have HS2:Hid (WkS T K cb c sets nA hA nc hc sb sc bc by_ br bw l r (wr.setCell ⟨br,n,none⟩ (.int .u8 0))):=Lib.hid (by
     have:=HS1.out.set (n:=n) (x:=0) (by omega) h0
     rw [ll] at this
     have e:upd r n 0=r:=by have:=jG r n;rwa [HZ.out n (Nat.le_refl _)] at this
     rwa [e] at this)
    have HKS:Hid (KT (fun b=>T b∨b=br) W (wr.setCell ⟨br,n,none⟩ (.int .u8 0))):=Lib.hid (HK1.out.trans (KT.setCell wr (p:=⟨br,n,none⟩) (.inr rfl) _))
    have HJ2:Hid (J (pre++walkL c sets (k+1) r n) (wr.setCell ⟨br,n,none⟩ (.int .u8 0))):=Lib.hid (HJT.out _ _ _ (by have:=HJ1.out;rwa [List.take_of_length_le (by omega),<- HW.out] at this) fun b hb=>Below.heap_setCell _ _ _ _ fun e=>hTbr (by have e':b=br:=e;rw [<- e'];exact hb))
    gi_wp2
    go_ret
    exact .inl ⟨rfl,HJ2.out,HS2.out,HKS.out⟩
end
open Go.RowKit Go.Sq Go.Shelf
attribute [local go_sem] Oper.semAt_some
theorem jH (cb n:Nat) (r:Ros) (w:World):Calls Sq.prog 71 #[.pointer (some ⟨cb,0,none⟩),rosV r,.int .i64 n] w fun e w' =>
  e=.returned (.func (.func 107) #[] #[.pointer (some ⟨w.heap.size,0,none⟩),.pointer (some ⟨w.heap.size+1,0,none⟩),.pointer (some ⟨w.heap.size+2,0,none⟩)]) ∧
   w'=((w.alloc (.cells #[.pointer (some ⟨cb,0,none⟩)] 80)).alloc (.cells #[.int .u8 (r 0),.int .u8 (r 1),.int .u8 (r 2),.int .u8 (r 3),.int .u8 (r 4)] 91)).alloc (.cells #[.int .i64 n] 3):=by
 unfold rosV
 have hmf:∀ (fn:Fn) (first cap:Array Value) (w:World),(Instr.makeFunc fn first cap).run Sq.prog w=.ok (.func fn first cap) w:=fun _ _ _ _=>rfl
 go_enter Sq.func71,Tryz.ntmps71
 go_wp2
 go_ret
 exact ⟨rfl,rfl⟩
section
variable {T K:Nat->Prop} {cb:Nat} {c:Camp} {sets:List Nat} {nA hA:Option Addr} {nc hc sb sc bc br bn l:Nat} {J Jx:List Ros->World->Prop} {W0:World}
structure Seq0 (T K:Nat->Prop) (cb:Nat) (c:Camp) (sets:List Nat) (nA hA:Option Addr) (nc hc sb sc bc br bn:Nat) (r:Ros) (n:Nat) (w:World):Prop where
 camp:CampK w K cb c sets nA hA nc hc sb sc
 kt:∀ b,K b->¬ T b
 xc:w.cell? ⟨bc,0,none⟩=some (.pointer (some ⟨cb,0,none⟩))∧¬ T bc∧bc<w.heap.size
 xr:(∀ i,i<5->w.cell? ⟨br,i,none⟩=some (.int .u8 (r i))∧w.frozen? ⟨br,i,none⟩=false)∧¬ T br∧br<w.heap.size
 xn:w.cell? ⟨bn,0,none⟩=some (.int .i64 n)∧bn<w.heap.size
 ne:bc≠br∧∀ b,K b->b≠br
 rs:∀ i,c.has (r i)
theorem qj (hok:c.Ok) (hsets:∀ x∈sets,c.has x) (hsl:sets.length<=16) (hJT:∀ pre w w',J pre w->(∀ b,T b->w'.heap[b]?=w.heap[b]?)->J pre w')
  (hTlt:∀ pre w,J pre w->∀ b,T b->b<w.heap.size)
  {k n:Nat} {r:Ros} {W:World} (hY:∀ pre ρ W,pre++[ρ] <+: walkL c sets k r n->KT (fun b=>T b∨b=br) W0 W->J pre W->YieldAt Fence.wide 0 Sq.prog l #[rosV ρ] W (Said T J Jx pre ρ W))
  (hn:n+k=c.needs.length) (hs:Seq0 T K cb c sets nA hA nc hc sb sc bc br bn r n W) (hk:KT (fun b=>T b∨b=br) W0 W) (hj:J [] W) (hz:∀ i,n<=i->r i=0) :
  CallsIn Fence.wide 0 Sq.prog 107 #[.func (.yield l) #[] #[],.pointer (some ⟨bc,0,none⟩),.pointer (some ⟨br,0,none⟩),.pointer (some ⟨bn,0,none⟩)] W
   fun e W'=>e=.returned (.tuple #[])∧KT (fun b=>T b∨b=br) W W'∧(J (walkL c sets k r n) W'∨∃ q,q <+: walkL c sets k r n∧Jx q W'):=by
 obtain ⟨W1,hW1⟩:∃ W1:World,W1=(W.alloc (.cells #[.func (.yield l) #[] #[]] 163)).alloc (.cells #[.func (.func 108) #[] #[.pointer (some ⟨bc,0,none⟩),.pointer (some ⟨W.heap.size,0,none⟩),.pointer (some ⟨br,0,none⟩),.pointer (some ⟨W.heap.size+1,0,none⟩)]] 164):=⟨_,rfl⟩
 have g1:Gr W W1:=by rw [hW1];exact ((Gr.refl W).alloc _).alloc _
 have hTW:=hTlt _ _ hj
 have hz1:W1.heap.size=W.heap.size+2:=by rw [hW1];simp
 have HS1:Hid (WkS T K cb c sets nA hA nc hc sb sc bc W.heap.size br (W.heap.size+1) l r W1):=Lib.hid (by
  have k1:KT T W W1:=KT.of_gr g1
  refine ⟨hs.camp.keep k1.size fun b o hb=>k1.cell (p:=⟨b,o,none⟩) (hs.camp.lt b hb) (hs.kt b hb),hs.kt,⟨(k1.cell hs.xc.2.2 hs.xc.2.1).trans hs.xc.1,hs.xc.2.1,by have:=hs.xc.2.2;omega⟩,⟨?_,fun h=>by have:=hTW _ h;omega,by omega⟩,⟨?_,fun h=>by have:=hTW _ h;omega,by omega⟩,
   ⟨fun i hi=>⟨(k1.cell (p:=⟨br,i,none⟩) hs.xr.2.2 hs.xr.2.1).trans (hs.xr.1 i hi).1,(k1.frozen (p:=⟨br,i,none⟩) hs.xr.2.2 hs.xr.2.1).trans (hs.xr.1 i hi).2⟩,hs.xr.2.1,by have:=hs.xr.2.2;omega⟩,⟨hs.ne.1,?_,?_,hs.ne.2⟩,hs.rs⟩
  ·rw [hW1,World.cell?_alloc_past _ _ _ (by simp),World.cell?_alloc_at _ _ _ _ rfl];rfl
  ·rw [hW1,World.cell?_alloc_at _ _ _ _ (by simp)];rfl
  ·have:=hs.xr.2.2;omega
  ·have:=hs.xr.2.2;omega)
 have HJ1:Hid (J [] W1):=Lib.hid (hJT _ _ _ hj fun b hb=>g1.below.block b (hTW b hb))
 have HWT:=Lib.hid (rI (by_:=W.heap.size) (bw:=W.heap.size+1) hok hsets hsl hJT hTlt hs.xr.2.1 hY k n r [] W1 hn HS1.out (hk.trans (KT.of_gr g1)) HJ1.out hz (by simp))
 have hxn:=hs.xn.1
 have hbn:=hs.xn.2
 have HG1:=Lib.hid g1
 have hmf:∀ (fn:Fn) (first cap:Array Value) (w:World),(Instr.makeFunc fn first cap).run Sq.prog w=.ok (.func fn first cap) w:=fun _ _ _ _=>rfl
 clear hs hk hj hz hJT hTlt hY g1 hTW hz1
 rw [hW1] at HWT
 clear HS1 HJ1
 refine callsIn_of_wp Sq.func107 rfl trivial ?_ rfl
 simp only [Tryz.ntmps107,List.size_toArray,List.length_cons,List.length_nil,Nat.reduceAdd,Nat.reduceSub,Array.replicate_succ,Array.replicate_zero,List.push_toArray,List.append_toArray,List.nil_append,List.cons_append]
 gi_wp2_with fail
 refine ⟨trivial,rfl,HWT.out.mono ?_⟩
 rw [<- hW1]
 rintro e w3 (⟨rfl,hj3,_,hk3⟩ | ⟨rfl,hq3,hk3⟩)
 ·have HJ3:=Lib.hid hj3
  have HK3:=Lib.hid ((KT.of_gr HG1.out).trans hk3)
  clear hj3 hk3 hW1
  gi_wp2
  go_end0
  exact ⟨rfl,HK3.out,.inl (by simpa using HJ3.out)⟩
 ·have HQ3:=Lib.hid hq3
  have HK3:=Lib.hid ((KT.of_gr HG1.out).trans hk3)
  clear hq3 hk3 hW1
  gi_wp2
  go_end0
  refine ⟨rfl,HK3.out,.inr ?_⟩
  obtain ⟨q,h1,h2⟩:=HQ3.out
  exact ⟨q,h1,by simpa using h2⟩
end
open Go.RowKit Go.Sq Go.Shelf
def rPost (T0:Nat->Prop) (I:List Ros->World->Prop) (Ix:Code->List Ros->World->Prop) (xs:List Ros) (W:World):Exit->Act->World->Prop
 | .normal,_,W'=>KT T0 W W'∧I xs W'
 | .ret,_,W'=>KT T0 W W'∧Ix .ret xs W'
 | .exit id,_,W'=>KT T0 W W'∧Ix (.exit id) xs W'
 | .goto t,_,W'=>KT T0 W W'∧Ix (.goto t) xs W'
 | .panic _,_,_=>False
 | .outgrown,_,_=>False
theorem _root_.Go.Sq.KT.low {T T':Nat->Prop} {w w':World} (h:KT T w w') (hT:∀ b,b<w.heap.size->T b->T' b):KT T' w w':=⟨h.os,h.tape,h.output,h.drawn,h.size,fun b hb hn=>h.block b hb fun t=>hn (hT b hb t)⟩
theorem cR {fn:Func} {tmps:Array Value} {R:Ending->World->Prop} {D:Nat} {W:World} {v:Value} (hd:W.heap[D]?=some (.deferred (some []))) (hr:(results fn tmps).run Sq.prog (W.putObj D (.deferred none))=.ok v (W.putObj D (.deferred none))) (hR:R (.returned v) (W.putObj D (.deferred none))) :
  LeavesInM Fence.wide 0 Sq.prog fn tmps R [{ target:=.collected D,args:=#[] }] .returning W:=⟨by simp,.inl ⟨D,_,rfl,run_takeDeferred hd,v,hr,hR⟩⟩
theorem bM {W:World} {D:Nat} {o:Obj} {p:Addr} (h:p.block≠D):(W.putObj D o).cell? p=W.cell? p:=World.cell?_of_block (World.putObj_heap_other h)
theorem one_cell {W:World} {b:Nat} {v:Value} {t:TypeId} (h:W.heap[b]?=some (.cells #[v] t (0,0))):W.cell? ⟨b,0,none⟩=some v∧W.frozen? ⟨b,0,none⟩=false∧b<W.heap.size:=by
 refine ⟨?_,?_,(Array.getElem?_eq_some_iff.1 h).1⟩
 ·unfold World.cell?;simp only [h];rfl
 ·unfold World.frozen?;simp only [h];rfl
theorem one_set {W:World} {b:Nat} {v u:Value} {t:TypeId} (h:W.heap[b]?=some (.cells #[v] t (0,0))):(W.setCell ⟨b,0,none⟩ u).heap[b]?=some (.cells #[u] t (0,0)):=by
 unfold World.setCell
 simp only [Array.getElem?_modify,if_true,h]
 rfl
theorem _root_.Go.Sq.KT.gr {T:Nat->Prop} {w w1 W:World} (h:Gr w w1) (hk:KT T w1 W) (hT:∀ b,T b->w.heap.size<=b):Gr w W :=
 ⟨⟨hk.os.trans h.below.os,hk.tape.trans h.below.tape,hk.output.trans h.below.output,Nat.le_trans h.size hk.size,fun b hb=>(hk.block b (Nat.lt_of_lt_of_le hb h.size) fun t=>by have:=hT b t;omega).trans (h.below.block b hb)⟩,Nat.le_trans h.drawn hk.drawn⟩
theorem _root_.Go.Sq.Gr.putObj {w W:World} (h:Gr w W) {D:Nat} (hD:w.heap.size<=D) (o:Obj):Gr w (W.putObj D o) :=
 ⟨⟨h.below.os,h.below.tape,h.below.output,by simpa [World.putObj] using h.size,fun b hb=>(World.putObj_heap_other (by omega)).trans (h.below.block b hb)⟩,h.drawn⟩
theorem nu {T0 K:Nat->Prop} {cb:Nat} {c:Camp} {sets:List Nat} {nA hA:Option Addr} {nc hc sb sc bc br bn k n:Nat} {r:Ros} {g:Operand} {ps:Array Tmp} {assign body:Code} {Q:Exit->Act->World->Prop} {a:Act} {w:World}
  (hok:c.Ok) (hsets:∀ x∈sets,c.has x) (hsl:sets.length<=16) (hg:a.eval g=.func (.func 107) #[] #[.pointer (some ⟨bc,0,none⟩),.pointer (some ⟨br,0,none⟩),.pointer (some ⟨bn,0,none⟩)])
  (hn:n+k=c.needs.length) (hz:∀ i,n<=i->r i=0) (hs:Seq0 T0 K cb c sets nA hA nc hc sb sc bc br bn r n w) (hT0:∀ b,T0 b->b<w.heap.size) (hps:ps.size=1)
  (I:List Ros->World->Prop) (Ix:Code->List Ros->World->Prop) (hI:∀ pre W W',I pre W->(∀ b,T0 b->W'.heap[b]?=W.heap[b]?)->I pre W') (hIx:∀ c pre W W',Ix c pre W->(∀ b,T0 b->W'.heap[b]?=W.heap[b]?)->Ix c pre W') (h0:I [] w)
  (a₁:Ros->Act)
  (hassign:∀ (l:Nat) (ρ:Ros) (W:World) (K:Act->World->Prop),K (a₁ ρ) W->assign.wpIn (Fence.wide.inRound l) 0 Sq.prog (Exit.then K (fun _ _ _=>False)) { tmps:=(ps.zip #[rosV ρ]).foldl (fun t (p,v)=>t.setIfInBounds p v) a.tmps,defers:=[] } W)
  (hbody:∀ (l:Nat) (pre:List Ros) (ρ:Ros) (W:World),pre++[ρ] <+: walkL c sets k r n->KT (fun b=>T0 b∨b=br) w W->I pre W->body.wpIn (Fence.wide.inRound l) 0 Sq.prog (rPost T0 I Ix (pre++[ρ]) W) (a₁ ρ) W)
  (hdone:∀ (D:Nat) (W:World),w.heap.size<=D->KT (fun b=>T0 b∨b=br) w W->I (walkL c sets k r n) W->W.heap[D]?=some (.deferred (some []))->Q .normal { a with defers:={ target:=.collected D,args:=#[] } :: a.defers } W)
  (hstop:∀ (D:Nat) (j:Code) (q:List Ros) (W:World),w.heap.size<=D->KT (fun b=>T0 b∨b=br) w W->q <+: walkL c sets k r n->Ix j q W->W.heap[D]?=some (.deferred (some []))->j.wpIn Fence.wide 0 Sq.prog Q { a with defers:={ target:=.collected D,args:=#[] } :: a.defers } W) :
  (Code.rangeFunc g ps assign body).wpIn Fence.wide 0 Sq.prog Q a w:=by
 refine wpIn_rangeFunc ?_
 intro fn hfn
 have hlt0:∀ b,K b->b<w.heap.size:=hs.camp.lt
 obtain ⟨rec,hrec⟩:∃ rec:LoopState->Option Code->Loop,rec=fun st pe=>{ state:=st,pending:=pe,fn,tmps:=a.tmps,params:=ps,assign,body,defers:=w.heap.size }:=⟨_,rfl⟩
 obtain ⟨W1,hW1⟩:∃ W1,(w.alloc (.deferred (some []))).alloc (.loop (rec .ready none))=W1:=⟨_,rfl⟩
 have hL1:W1.heap[w.heap.size+1]?=some (.loop (rec .ready none)):=by
  rw [<- hW1];have:=World.alloc_heap_new (w.alloc (.deferred (some []))) (.loop (rec .ready none));rwa [World.size_alloc] at this
 have hK1:W1.heap[w.heap.size]?=some (.deferred (some [])):=by
  rw [<- hW1];exact (Below.heap_alloc _ _ _ (by simp)).trans (World.alloc_heap_new w _)
 have hg1:Gr w W1:=by rw [<- hW1];exact ((Gr.refl w).alloc _).alloc _
 have hI1:I [] W1:=hI _ _ _ h0 fun b hb=>hg1.below.block b (hT0 b hb)
 have hz1:W1.heap.size=w.heap.size+2:=by rw [<- hW1];simp
 refine ⟨w.heap.size+1,[{ target:=.collected w.heap.size,args:=#[] }],W1,{ target:=.fn (.func 107) #[.pointer (some ⟨bc,0,none⟩),.pointer (some ⟨br,0,none⟩),.pointer (some ⟨bn,0,none⟩)],args:=#[.func (.yield (w.heap.size+1)) #[] #[]] },W1,107,
  #[.func (.yield (w.heap.size+1)) #[] #[]]++#[.pointer (some ⟨bc,0,none⟩),.pointer (some ⟨br,0,none⟩),.pointer (some ⟨bn,0,none⟩)],W1,?_,?_,?_,?_,fun h=>(by cases h),?_⟩
 ·rw [<- hW1,hrec];exact run_enterLoop_outer _ _ _ _ _
 ·simp only [resolve,hg]
  simp [go_sem]
 ·intro f' _;trivial
 ·simp [invoke,go_sem]
 ·obtain ⟨T,hT⟩:∃ T:Nat->Prop,T=fun b=>T0 b∨b=w.heap.size∨b=w.heap.size+1:=⟨_,rfl⟩
  have hTin:∀ b,T0 b->T b:=fun b hb=>by rw [hT];exact .inl hb
  have hTD:T w.heap.size:=by rw [hT];exact .inr (.inl rfl)
  have hTl:T (w.heap.size+1):=by rw [hT];exact .inr (.inr rfl)
  have hTold:∀ b,b<w.heap.size->T b->T0 b:=fun b hb h=>by
   rw [hT] at h
   rcases h with h | h | h
   ·exact h
   ·omega
   ·omega
  have k1:KT T0 w W1:=KT.of_gr hg1
  have hs1:Seq0 T K cb c sets nA hA nc hc sb sc bc br bn r n W1:=by
   refine ⟨hs.camp.keep hg1.size fun b o hb=>hg1.cell (hlt0 b hb),fun b hb h=>hs.kt b hb (hTold b (hlt0 b hb) h),⟨(hg1.cell hs.xc.2.2).trans hs.xc.1,fun h=>hs.xc.2.1 (hTold _ hs.xc.2.2 h),by have:=hs.xc.2.2;omega⟩,⟨fun i hi=>⟨(hg1.cell (p:=⟨br,i,none⟩) hs.xr.2.2).trans (hs.xr.1 i hi).1,(hg1.frozen (p:=⟨br,i,none⟩) hs.xr.2.2).trans (hs.xr.1 i hi).2⟩,fun h=>hs.xr.2.1 (hTold _ hs.xr.2.2 h),by have:=hs.xr.2.2;omega⟩,
    ⟨(hg1.cell hs.xn.2).trans hs.xn.1,by have:=hs.xn.2;omega⟩,hs.ne,hs.rs⟩
  have lowT:∀ {W:World},KT (fun b=>T b∨b=br) W1 W->KT (fun b=>T0 b∨b=br) w W:=fun hk =>
   KT.low (T:=fun b=>T b∨b=br) ((KT.of_gr hg1).trans hk) fun b hb h=>h.elim (fun h=>.inl (hTold b hb h)) .inr
  have hbrlt:=hs.xr.2.2
  have hput:∀ (W:World) (o:Obj),KT T W (W.putObj (w.heap.size+1) o):=fun W o=>KT.putObj W hTl o
  have hq:=qj (T:=T) (l:=w.heap.size+1) (W0:=W1)
   (J:=fun pre W=>I pre W∧W.heap[w.heap.size+1]?=some (.loop (rec .ready none))∧W.heap[w.heap.size]?=some (.deferred (some [])))
   (Jx:=fun pre W=>∃ j,Ix j pre W∧W.heap[w.heap.size+1]?=some (.loop (rec .done (some j)))∧W.heap[w.heap.size]?=some (.deferred (some [])))
   hok hsets hsl (fun pre W W' h hk=>⟨hI _ _ _ h.1 fun b hb=>hk b (hTin b hb),(hk _ hTl).trans h.2.1,(hk _ hTD).trans h.2.2⟩)
   (fun pre W h b hb=>by
    have h1:=(Array.getElem?_eq_some_iff.1 h.2.1).1
    rw [hT] at hb
    rcases hb with hb | hb | hb
    ·have:=hT0 b hb;omega
    ·omega
    ·omega)
   ?_ hn hs1 (KT.refl _ _) ⟨hI1,hL1,hK1⟩ hz
  ·refine hq.mono ?_
   rintro e W2 ⟨rfl,hk2,(⟨hi,hl,hd⟩ | ⟨q,hpre,j,hi,hl,hd⟩)⟩
   ·refine ⟨none,_,by have:=run_endLoop (P:=Sq.prog) hl (by rw [hrec];simp);rw [hrec] at this;exact this,hdone _ _ (Nat.le_refl _) (lowT (hk2.trans ((hput _ _).mono fun b h=>.inl h))) (hI _ _ _ hi fun b hb=>World.putObj_heap_other (by have:=hT0 b hb;omega)) ((World.putObj_heap_other (by omega)).trans hd)⟩
   ·exact ⟨some j,_,by have:=run_endLoop (P:=Sq.prog) hl (by rw [hrec];simp);rw [hrec] at this;exact this,hstop _ j q _ (Nat.le_refl _) (lowT (hk2.trans ((hput _ _).mono fun b h=>.inl h))) hpre (hIx _ _ _ _ hi fun b hb=>World.putObj_heap_other (by have:=hT0 b hb;omega)) ((World.putObj_heap_other (by omega)).trans hd)⟩
  ·rintro pre ρ W hpl hkW ⟨hi,hl,hd⟩
   have hlt:w.heap.size+1<W.heap.size:=(Array.getElem?_eq_some_iff.1 hl).1
   have hy:=run_yield (P:=Sq.prog) (args:=#[rosV ρ]) hl (by rw [hrec];simp [hps])
   rw [hrec] at hy
   refine ⟨fn,_,assign,body,hy,roundIn_of_wpIn hfn (hassign _ ρ W _ ⟨_,run_beginRound hl (by rw [hrec]),?_⟩)⟩
   obtain ⟨Wb,hWb⟩:∃ Wb,Wb=W.putObj (w.heap.size+1) (.loop { rec .ready none with state:=.busy }):=⟨_,rfl⟩
   rw [<- hWb]
   have kb:KT T W Wb:=by rw [hWb];exact hput _ _
   have hl2:Wb.heap[w.heap.size+1]?=some (.loop { rec .ready none with state:=.busy }):=by rw [hWb];exact World.putObj_heap_same hlt
   have hd2:Wb.heap[w.heap.size]?=some (.deferred (some [])):=by rw [hWb];exact (World.putObj_heap_other (by omega)).trans hd
   have hi2:I pre Wb:=hI _ _ _ hi fun b hb=>by rw [hWb];exact World.putObj_heap_other (by have:=hT0 b hb;omega)
   have hzb:Wb.heap.size=W.heap.size:=by rw [hWb];simp [World.putObj]
   refine wpIn_mono (hbody _ pre ρ Wb hpl (lowT (hkW.trans (kb.mono fun b h=>.inl h))) hi2) ?_
   have fin : ∀ (jump : Option Code) (W3 : World), KT T0 Wb W3 ->
     (Instr.endRound (w.heap.size+1) jump).run Sq.prog W3=.ok (.bool jump.isNone) (W3.putObj (w.heap.size+1) (.loop (rec (if jump.isNone then .ready else .done) jump))) ∧
     (W3.putObj (w.heap.size+1) (.loop (rec (if jump.isNone then .ready else .done) jump))).heap[w.heap.size+1]?=some (.loop (rec (if jump.isNone then .ready else .done) jump)) ∧
     (W3.putObj (w.heap.size+1) (.loop (rec (if jump.isNone then .ready else .done) jump))).heap[w.heap.size]?=some (.deferred (some []))∧KT T W (W3.putObj (w.heap.size+1) (.loop (rec (if jump.isNone then .ready else .done) jump))) ∧
     ∀ b,T0 b->(W3.putObj (w.heap.size+1) (.loop (rec (if jump.isNone then .ready else .done) jump))).heap[b]?=W3.heap[b]?:=fun jump W3 hk3=>by
    have hl3:W3.heap[w.heap.size+1]?=some (.loop { rec .ready none with state:=.busy }):=(hk3.block _ (by omega) fun h=>by have:=hT0 _ h;omega).trans hl2
    have hd3:W3.heap[w.heap.size]?=some (.deferred (some [])):=(hk3.block _ (by omega) fun h=>by have:=hT0 _ h;omega).trans hd2
    have:=run_endRound (P:=Sq.prog) jump hl3
    rw [hrec] at this ⊢
    exact ⟨this,World.putObj_heap_same (Array.getElem?_eq_some_iff.1 hl3).1,(World.putObj_heap_other (by omega)).trans hd3,(kb.trans (hk3.mono hTin)).trans (KT.putObj W3 hTl _),fun b hb=>World.putObj_heap_other (by have:=hT0 b hb;omega)⟩
   rintro e a3 W3 hp
   cases e with
   | normal =>
    obtain ⟨hk3,hi3⟩:=hp
    obtain ⟨hr,hl4,hd4,hk4,hb4⟩:=fin none W3 hk3
    exact ⟨_,_,hr,.inl ⟨rfl,⟨hI _ _ _ hi3 hb4,hl4,hd4⟩,hk4⟩⟩
   | ret =>
    obtain ⟨hk3,hi3⟩:=hp
    obtain ⟨hr,hl4,hd4,hk4,hb4⟩:=fin (some .ret) W3 hk3
    exact ⟨_,_,hr,.inr ⟨rfl,⟨.ret,hIx _ _ _ _ hi3 hb4,hl4,hd4⟩,hk4⟩⟩
   | exit id =>
    obtain ⟨hk3,hi3⟩:=hp
    obtain ⟨hr,hl4,hd4,hk4,hb4⟩:=fin (some (.exit id)) W3 hk3
    exact ⟨_,_,hr,.inr ⟨rfl,⟨.exit id,hIx _ _ _ _ hi3 hb4,hl4,hd4⟩,hk4⟩⟩
   | goto t =>
    obtain ⟨hk3,hi3⟩:=hp
    obtain ⟨hr,hl4,hd4,hk4,hb4⟩:=fin (some (.goto t)) W3 hk3
    exact ⟨_,_,hr,.inr ⟨rfl,⟨.goto t,hIx _ _ _ _ hi3 hb4,hl4,hd4⟩,hk4⟩⟩
   | panic ch=>exact hp.elim
   | outgrown=>exact hp.elim
theorem lW {T0 K:Nat->Prop} {cb:Nat} {c:Camp} {sets:List Nat} {nA hA:Option Addr} {nc hc sb sc bc br bn k n:Nat} {r:Ros} {g:Operand} {p:Tmp} {body:Code} {Q:Exit->Act->World->Prop} {a:Act} {w:World}
  (hok:c.Ok) (hsets:∀ x∈sets,c.has x) (hsl:sets.length<=16) (hg:a.eval g=.func (.func 107) #[] #[.pointer (some ⟨bc,0,none⟩),.pointer (some ⟨br,0,none⟩),.pointer (some ⟨bn,0,none⟩)])
  (hn:n+k=c.needs.length) (hz:∀ i,n<=i->r i=0) (hs:Seq0 T0 K cb c sets nA hA nc hc sb sc bc br bn r n w) (hT0:∀ b,T0 b->b<w.heap.size)
  (I:List Ros->World->Prop) (Ix:Code->List Ros->World->Prop) (hI:∀ pre W W',I pre W->(∀ b,T0 b->W'.heap[b]?=W.heap[b]?)->I pre W') (hIx:∀ c pre W W',Ix c pre W->(∀ b,T0 b->W'.heap[b]?=W.heap[b]?)->Ix c pre W') (h0:I [] w)
  (hbody:∀ (l:Nat) (pre:List Ros) (ρ:Ros) (W:World),KT (fun b=>T0 b∨b=br) w W->I pre W->body.wpIn (Fence.wide.inRound l) 0 Sq.prog (rPost T0 I Ix (pre++[ρ]) W) { tmps:=a.tmps.setIfInBounds p (rosV ρ),defers:=[] } W)
  (hdone:∀ (D:Nat) (W:World),w.heap.size<=D->KT (fun b=>T0 b∨b=br) w W->I (walkL c sets k r n) W->W.heap[D]?=some (.deferred (some []))->Q .normal { a with defers:={ target:=.collected D,args:=#[] } :: a.defers } W)
  (hstop:∀ (D:Nat) (j:Code) (q:List Ros) (W:World),w.heap.size<=D->KT (fun b=>T0 b∨b=br) w W->q <+: walkL c sets k r n->Ix j q W->W.heap[D]?=some (.deferred (some []))->j.wpIn Fence.wide 0 Sq.prog Q { a with defers:={ target:=.collected D,args:=#[] } :: a.defers } W) :
  (Code.rangeFunc g #[p] .skip body).wpIn Fence.wide 0 Sq.prog Q a w:=by
 exact nu (ps:=#[p]) (assign:=.skip) hok hsets hsl hg hn hz hs hT0 rfl I Ix hI hIx h0 (fun ρ=>{ tmps:=a.tmps.setIfInBounds p (rosV ρ),defers:=[] }) (fun l ρ W K hK=>wpIn_skip (by show K _ W;simpa using hK)) (fun l pre ρ W _=>hbody l pre ρ W) hdone hstop
open Go.RowKit Go.Sq Go.Shelf
theorem iV {T0 K:Nat->Prop} {cb:Nat} {c:Camp} {sets:List Nat} {nA hA:Option Addr} {nc hc sb sc bc br bn k n:Nat} {r:Ros} {g:Operand} {ps:Array Tmp} {assign body:Code} {Q:Exit->Act->World->Prop} {a:Act} {w:World}
  (hok:c.Ok) (hsets:∀ x∈sets,c.has x) (hsl:sets.length<=16) (hg:a.eval g=.func (.func 107) #[] #[.pointer (some ⟨bc,0,none⟩),.pointer (some ⟨br,0,none⟩),.pointer (some ⟨bn,0,none⟩)])
  (hn:n+k=c.needs.length) (hz:∀ i,n<=i->r i=0) (hs:Seq0 T0 K cb c sets nA hA nc hc sb sc bc br bn r n w) (hT0:∀ b,T0 b->b<w.heap.size) (hps:ps.size=1)
  (I:List Ros->World->Prop) (Ix:Code->List Ros->World->Prop) (hI:∀ pre W W',I pre W->(∀ b,T0 b->W'.heap[b]?=W.heap[b]?)->I pre W') (hIx:∀ c pre W W',Ix c pre W->(∀ b,T0 b->W'.heap[b]?=W.heap[b]?)->Ix c pre W') (h0:I [] w)
  (hround:∀ (l:Nat) (pre:List Ros) (ρ:Ros) (W:World),pre++[ρ] <+: walkL c sets k r n->KT (fun b=>T0 b∨b=br) w W->I pre W->w.heap.size<l->l<W.heap.size ->
   assign.wpIn (Fence.wide.inRound l) 0 Sq.prog (Exit.then (fun a₁ w₁=>KT T0 W w₁∧∀ o,body.wpIn (Fence.wide.inRound l) 0 Sq.prog (rPost T0 I Ix (pre++[ρ]) (w₁.putObj l o)) a₁ (w₁.putObj l o)) (fun _ _ _=>False)) { tmps:=(ps.zip #[rosV ρ]).foldl (fun t (p,v)=>t.setIfInBounds p v) a.tmps,defers:=[] } W)
  (hdone:∀ (D:Nat) (W:World),w.heap.size<=D->KT (fun b=>T0 b∨b=br) w W->I (walkL c sets k r n) W->W.heap[D]?=some (.deferred (some []))->Q .normal { a with defers:={ target:=.collected D,args:=#[] } :: a.defers } W)
  (hstop:∀ (D:Nat) (j:Code) (q:List Ros) (W:World),w.heap.size<=D->KT (fun b=>T0 b∨b=br) w W->q <+: walkL c sets k r n->Ix j q W->W.heap[D]?=some (.deferred (some []))->j.wpIn Fence.wide 0 Sq.prog Q { a with defers:={ target:=.collected D,args:=#[] } :: a.defers } W) :
  (Code.rangeFunc g ps assign body).wpIn Fence.wide 0 Sq.prog Q a w:=by
 refine wpIn_rangeFunc ?_
 intro fn hfn
 have hlt0:∀ b,K b->b<w.heap.size:=hs.camp.lt
 obtain ⟨rec,hrec⟩:∃ rec:LoopState->Option Code->Loop,rec=fun st pe=>{ state:=st,pending:=pe,fn,tmps:=a.tmps,params:=ps,assign,body,defers:=w.heap.size }:=⟨_,rfl⟩
 obtain ⟨W1,hW1⟩:∃ W1,(w.alloc (.deferred (some []))).alloc (.loop (rec .ready none))=W1:=⟨_,rfl⟩
 have hL1:W1.heap[w.heap.size+1]?=some (.loop (rec .ready none)):=by
  rw [<- hW1];have:=World.alloc_heap_new (w.alloc (.deferred (some []))) (.loop (rec .ready none));rwa [World.size_alloc] at this
 have hK1:W1.heap[w.heap.size]?=some (.deferred (some [])):=by
  rw [<- hW1];exact (Below.heap_alloc _ _ _ (by simp)).trans (World.alloc_heap_new w _)
 have hg1:Gr w W1:=by rw [<- hW1];exact ((Gr.refl w).alloc _).alloc _
 have hI1:I [] W1:=hI _ _ _ h0 fun b hb=>hg1.below.block b (hT0 b hb)
 have hz1:W1.heap.size=w.heap.size+2:=by rw [<- hW1];simp
 refine ⟨w.heap.size+1,[{ target:=.collected w.heap.size,args:=#[] }],W1,{ target:=.fn (.func 107) #[.pointer (some ⟨bc,0,none⟩),.pointer (some ⟨br,0,none⟩),.pointer (some ⟨bn,0,none⟩)],args:=#[.func (.yield (w.heap.size+1)) #[] #[]] },W1,107,
  #[.func (.yield (w.heap.size+1)) #[] #[]]++#[.pointer (some ⟨bc,0,none⟩),.pointer (some ⟨br,0,none⟩),.pointer (some ⟨bn,0,none⟩)],W1,?_,?_,?_,?_,fun h=>(by cases h),?_⟩
 ·rw [<- hW1,hrec];exact run_enterLoop_outer _ _ _ _ _
 ·simp only [resolve,hg]
  simp [go_sem]
 ·intro f' _;trivial
 ·simp [invoke,go_sem]
 ·obtain ⟨T,hT⟩:∃ T:Nat->Prop,T=fun b=>T0 b∨b=w.heap.size∨b=w.heap.size+1:=⟨_,rfl⟩
  have hTin:∀ b,T0 b->T b:=fun b hb=>by rw [hT];exact .inl hb
  have hTD:T w.heap.size:=by rw [hT];exact .inr (.inl rfl)
  have hTl:T (w.heap.size+1):=by rw [hT];exact .inr (.inr rfl)
  have hTold:∀ b,b<w.heap.size->T b->T0 b:=fun b hb h=>by
   rw [hT] at h
   rcases h with h | h | h
   ·exact h
   ·omega
   ·omega
  have k1:KT T0 w W1:=KT.of_gr hg1
  have hs1:Seq0 T K cb c sets nA hA nc hc sb sc bc br bn r n W1:=by
   refine ⟨hs.camp.keep hg1.size fun b o hb=>hg1.cell (hlt0 b hb),fun b hb h=>hs.kt b hb (hTold b (hlt0 b hb) h),⟨(hg1.cell hs.xc.2.2).trans hs.xc.1,fun h=>hs.xc.2.1 (hTold _ hs.xc.2.2 h),by have:=hs.xc.2.2;omega⟩,⟨fun i hi=>⟨(hg1.cell (p:=⟨br,i,none⟩) hs.xr.2.2).trans (hs.xr.1 i hi).1,(hg1.frozen (p:=⟨br,i,none⟩) hs.xr.2.2).trans (hs.xr.1 i hi).2⟩,fun h=>hs.xr.2.1 (hTold _ hs.xr.2.2 h),by have:=hs.xr.2.2;omega⟩,
    ⟨(hg1.cell hs.xn.2).trans hs.xn.1,by have:=hs.xn.2;omega⟩,hs.ne,hs.rs⟩
  have lowT:∀ {W:World},KT (fun b=>T b∨b=br) W1 W->KT (fun b=>T0 b∨b=br) w W:=fun hk =>
   KT.low (T:=fun b=>T b∨b=br) ((KT.of_gr hg1).trans hk) fun b hb h=>h.elim (fun h=>.inl (hTold b hb h)) .inr
  have hbrlt:=hs.xr.2.2
  have hput:∀ (W:World) (o:Obj),KT T W (W.putObj (w.heap.size+1) o):=fun W o=>KT.putObj W hTl o
  have hq:=qj (T:=T) (l:=w.heap.size+1) (W0:=W1)
   (J:=fun pre W=>I pre W∧W.heap[w.heap.size+1]?=some (.loop (rec .ready none))∧W.heap[w.heap.size]?=some (.deferred (some [])))
   (Jx:=fun pre W=>∃ j,Ix j pre W∧W.heap[w.heap.size+1]?=some (.loop (rec .done (some j)))∧W.heap[w.heap.size]?=some (.deferred (some [])))
   hok hsets hsl (fun pre W W' h hk=>⟨hI _ _ _ h.1 fun b hb=>hk b (hTin b hb),(hk _ hTl).trans h.2.1,(hk _ hTD).trans h.2.2⟩)
   (fun pre W h b hb=>by
    have h1:=(Array.getElem?_eq_some_iff.1 h.2.1).1
    rw [hT] at hb
    rcases hb with hb | hb | hb
    ·have:=hT0 b hb;omega
    ·omega
    ·omega)
   ?_ hn hs1 (KT.refl _ _) ⟨hI1,hL1,hK1⟩ hz
  ·refine hq.mono ?_
   rintro e W2 ⟨rfl,hk2,(⟨hi,hl,hd⟩ | ⟨q,hpre,j,hi,hl,hd⟩)⟩
   ·refine ⟨none,_,by have:=run_endLoop (P:=Sq.prog) hl (by rw [hrec];simp);rw [hrec] at this;exact this,hdone _ _ (Nat.le_refl _) (lowT (hk2.trans ((hput _ _).mono fun b h=>.inl h))) (hI _ _ _ hi fun b hb=>World.putObj_heap_other (by have:=hT0 b hb;omega)) ((World.putObj_heap_other (by omega)).trans hd)⟩
   ·exact ⟨some j,_,by have:=run_endLoop (P:=Sq.prog) hl (by rw [hrec];simp);rw [hrec] at this;exact this,hstop _ j q _ (Nat.le_refl _) (lowT (hk2.trans ((hput _ _).mono fun b h=>.inl h))) hpre (hIx _ _ _ _ hi fun b hb=>World.putObj_heap_other (by have:=hT0 b hb;omega)) ((World.putObj_heap_other (by omega)).trans hd)⟩
  ·rintro pre ρ W hpl hkW ⟨hi,hl,hd⟩
   have hlt:w.heap.size+1<W.heap.size:=(Array.getElem?_eq_some_iff.1 hl).1
   have hy:=run_yield (P:=Sq.prog) (args:=#[rosV ρ]) hl (by rw [hrec];simp [hps])
   rw [hrec] at hy
   refine ⟨fn,_,assign,body,hy,roundIn_of_wpIn hfn (wpIn_mono (hround (w.heap.size+1) pre ρ W hpl (lowT hkW) hi (by omega) hlt) ?_)⟩
   rintro e1 a1 w1 hp1
   cases e1 with
   | panic ch=>exact hp1.elim
   | outgrown=>exact hp1.elim
   | ret=>exact hp1.elim
   | exit id=>exact hp1.elim
   | goto t=>exact hp1.elim
   | normal =>
   obtain ⟨kw1,hb1⟩:=hp1
   have hl1:w1.heap[w.heap.size+1]?=some (.loop (rec .ready none)):=(kw1.block _ hlt fun h=>by have:=hT0 _ h;omega).trans hl
   have hd1:w1.heap[w.heap.size]?=some (.deferred (some [])):=(kw1.block _ (by omega) fun h=>by have:=hT0 _ h;omega).trans hd
   have hlt1:w.heap.size+1<w1.heap.size:=(Array.getElem?_eq_some_iff.1 hl1).1
   refine ⟨_,run_beginRound hl1 (by rw [hrec]),?_⟩
   obtain ⟨Wb,hWb⟩:∃ Wb,Wb=w1.putObj (w.heap.size+1) (.loop { rec .ready none with state:=.busy }):=⟨_,rfl⟩
   have hbb:=hb1 (.loop { rec .ready none with state:=.busy })
   rw [<- hWb] at hbb ⊢
   have kb:KT T W Wb:=(kw1.mono hTin).trans (by rw [hWb];exact hput _ _)
   have hl2:Wb.heap[w.heap.size+1]?=some (.loop { rec .ready none with state:=.busy }):=by rw [hWb];exact World.putObj_heap_same hlt1
   have hd2:Wb.heap[w.heap.size]?=some (.deferred (some [])):=by rw [hWb];exact (World.putObj_heap_other (by omega)).trans hd1
   have hzb:Wb.heap.size=w1.heap.size:=by rw [hWb];simp [World.putObj]
   refine wpIn_mono hbb ?_
   have fin : ∀ (jump : Option Code) (W3 : World), KT T0 Wb W3 ->
     (Instr.endRound (w.heap.size+1) jump).run Sq.prog W3=.ok (.bool jump.isNone) (W3.putObj (w.heap.size+1) (.loop (rec (if jump.isNone then .ready else .done) jump))) ∧
     (W3.putObj (w.heap.size+1) (.loop (rec (if jump.isNone then .ready else .done) jump))).heap[w.heap.size+1]?=some (.loop (rec (if jump.isNone then .ready else .done) jump)) ∧
     (W3.putObj (w.heap.size+1) (.loop (rec (if jump.isNone then .ready else .done) jump))).heap[w.heap.size]?=some (.deferred (some []))∧KT T W (W3.putObj (w.heap.size+1) (.loop (rec (if jump.isNone then .ready else .done) jump))) ∧
     ∀ b,T0 b->(W3.putObj (w.heap.size+1) (.loop (rec (if jump.isNone then .ready else .done) jump))).heap[b]?=W3.heap[b]?:=fun jump W3 hk3=>by
    have hl3:W3.heap[w.heap.size+1]?=some (.loop { rec .ready none with state:=.busy }):=(hk3.block _ (by omega) fun h=>by have:=hT0 _ h;omega).trans hl2
    have hd3:W3.heap[w.heap.size]?=some (.deferred (some [])):=(hk3.block _ (by omega) fun h=>by have:=hT0 _ h;omega).trans hd2
    have:=run_endRound (P:=Sq.prog) jump hl3
    rw [hrec] at this ⊢
    exact ⟨this,World.putObj_heap_same (Array.getElem?_eq_some_iff.1 hl3).1,(World.putObj_heap_other (by omega)).trans hd3,(kb.trans (hk3.mono hTin)).trans (KT.putObj W3 hTl _),fun b hb=>World.putObj_heap_other (by have:=hT0 b hb;omega)⟩
   rintro e a3 W3 hp
   cases e with
   | normal =>
    obtain ⟨hk3,hi3⟩:=hp
    obtain ⟨hr,hl4,hd4,hk4,hb4⟩:=fin none W3 hk3
    exact ⟨_,_,hr,.inl ⟨rfl,⟨hI _ _ _ hi3 hb4,hl4,hd4⟩,hk4⟩⟩
   | ret =>
    obtain ⟨hk3,hi3⟩:=hp
    obtain ⟨hr,hl4,hd4,hk4,hb4⟩:=fin (some .ret) W3 hk3
    exact ⟨_,_,hr,.inr ⟨rfl,⟨.ret,hIx _ _ _ _ hi3 hb4,hl4,hd4⟩,hk4⟩⟩
   | exit id =>
    obtain ⟨hk3,hi3⟩:=hp
    obtain ⟨hr,hl4,hd4,hk4,hb4⟩:=fin (some (.exit id)) W3 hk3
    exact ⟨_,_,hr,.inr ⟨rfl,⟨.exit id,hIx _ _ _ _ hi3 hb4,hl4,hd4⟩,hk4⟩⟩
   | goto t =>
    obtain ⟨hk3,hi3⟩:=hp
    obtain ⟨hr,hl4,hd4,hk4,hb4⟩:=fin (some (.goto t)) W3 hk3
    exact ⟨_,_,hr,.inr ⟨rfl,⟨.goto t,hIx _ _ _ _ hi3 hb4,hl4,hd4⟩,hk4⟩⟩
   | panic ch=>exact hp.elim
   | outgrown=>exact hp.elim
open Go.RowKit
theorem Sq.lock_t (a:Addr) (w:World) (hc:w.cell? a=some (.int .i32 0)) (hz:w.frozen? a=false) :
  Calls Sq.prog 99 #[.pointer (some a)] w fun e w'=>e=.returned (.tuple #[])∧w'=w.setCell a (.int .i32 1):=by
 have hcas:=run_call_cas_hit (P:=Sq.prog) Sq.func162 (by kernel_rfl) (by kernel_rfl) (by kernel_rfl) .i32 (by kernel_rfl) (x:=0) (y:=1) hc hz
 go_enter Sq.func99,Sq.nt99
 simp only [casBody]
 go_wp2
 refine bodyPost_ret (results_none rfl _ _ _) rfl ?_
 exact ⟨rfl,rfl⟩
theorem Sq.unlock_d (a:Addr) (u:FrameMode) (w:World) (hc:w.cell? a=some (.int .i32 1)) (hz:w.frozen? a=false) :
  CallsD Sq.prog 100 #[.pointer (some a)] u w fun e u' w'=>u'=u∧(e=.returned (.tuple #[])∧w'=w.setCell a (.int .i32 0)):=by
 have hcas:=run_call_cas_hit (P:=Sq.prog) Sq.func162 (by kernel_rfl) (by kernel_rfl) (by kernel_rfl) .i32 (by kernel_rfl) (x:=1) (y:=0) hc hz
 go_enter_d Sq.func100,Sq.nt100
 simp only [casBody]
 go_wp2
 refine bodyPost_ret (results_none rfl _ _ _) rfl ?_
 exact ⟨rfl,rfl⟩
open Go.RowKit Go.Sq Go.Shelf
theorem qw (nb:Nat) (x y s:Int) (w:World) (hc:w.heap[nb]?=some (.cells #[.int .i64 x] 87 (0,0))) (hs:IntKind.i64.wrap (x+y)=s) :
  Calls Sq.prog 51 #[.pointer (some ⟨nb,0,none⟩),.int .i64 y] w fun e w'=>e=.returned (.int .i64 s)∧w'=w.setCell ⟨nb,0,none⟩ (.int .i64 s):=by
 obtain ⟨h1,h2,h3⟩:=one_cell hc
 have hadd:=run_call_add (P:=Sq.prog) Sq.func95 (by kernel_rfl) (by kernel_rfl) (by kernel_rfl) .i64 (by kernel_rfl) (y:=y) (s:=s) h1 h2 (by simp [go_sem];exact hs)
 go_enter Sq.func51,Tryz.ntmps51
 go_wp2
 go_ret
 exact ⟨rfl,rfl⟩
theorem oW (nb:Nat) (x:Int) (w:World) (hc:w.heap[nb]?=some (.cells #[.int .i64 x] 87 (0,0))) :
  Calls Sq.prog 52 #[.pointer (some ⟨nb,0,none⟩)] w fun e w'=>e=.returned (.int .i64 x)∧w'=w:=by
 obtain ⟨h1,h2,h3⟩:=one_cell hc
 have hload:=run_call_load (P:=Sq.prog) Sq.func96 (by kernel_rfl) (by kernel_rfl) (by kernel_rfl) .i64 (by kernel_rfl) h1
 go_enter Sq.func52,Tryz.ntmps52
 go_wp2
 go_ret
 exact ⟨rfl,rfl⟩
theorem oX (nb:Nat) (x s:Int) (ρ:Ros) (w:World) (hc:w.heap[nb]?=some (.cells #[.int .i64 x] 87 (0,0))) (hs:IntKind.i64.wrap (x+1)=s) :
  Calls Sq.prog 50 #[rosV ρ,.pointer (some ⟨nb,0,none⟩)] w fun e w'=>e=.returned (.tuple #[])∧KT (·=nb) w w'∧w'.heap[nb]?=some (.cells #[.int .i64 s] 87 (0,0)):=by
 have hlt:=(one_cell hc).2.2
 obtain ⟨W,hW⟩:∃ W,W=w.alloc (.cells #[.int .u8 (ρ 0),.int .u8 (ρ 1),.int .u8 (ρ 2),.int .u8 (ρ 3),.int .u8 (ρ 4)] 91):=⟨_,rfl⟩
 have hc2:W.heap[nb]?=some (.cells #[.int .i64 x] 87 (0,0)):=by rw [hW,heap_alloc_old _ _ hlt];exact hc
 have HK:=Lib.hid (show KT (·=nb) w W by rw [hW];exact KT.of_gr ((Gr.refl w).alloc _))
 have HADD:=Lib.hid (qw nb x 1 s W hc2 hs)
 have HW:=Lib.hid hW
 have HC2:=Lib.hid hc2
 clear hW hc hc2
 unfold rosV
 go_enter Sq.func50,Tryz.ntmps50
 go_wp2_with fail
 rw [<- HW.out]
 refine HADD.out.mono ?_
 rintro e w' ⟨rfl,hw'⟩
 have HW':=Lib.hid hw'
 clear hw'
 go_wp2
 go_end0
 refine ⟨rfl,HK.out.trans (by rw [HW'.out];exact KT.setCell (T:=(·=nb)) W (p:=⟨nb,0,none⟩) rfl _),?_⟩
 rw [HW'.out]
 exact one_set HC2.out
theorem bG {W:World} {b i:Nat} {a:Array Value} {u:Value} {t:TypeId} {f:Nat×Nat} (h:W.heap[b]?=some (.cells a t f)):(W.setCell ⟨b,i,none⟩ u).heap[b]?=some (.cells (a.setIfInBounds i u) t f):=by
 unfold World.setCell
 simp only [Array.getElem?_modify,if_true,h]
 rfl
theorem cells_at {W:World} {b:Nat} {a:Array Value} {t:TypeId} (h:W.heap[b]?=some (.cells a t (0,0))):(∀ i:Nat,W.cell? ⟨b,i,none⟩=a[i]?)∧(∀ i,W.frozen? ⟨b,i,none⟩=false)∧b<W.heap.size:=by
 refine ⟨fun i=>?_,fun i=>?_,(Array.getElem?_eq_some_iff.1 h).1⟩
 ·unfold World.cell?;simp only [h];rfl
 ·unfold World.frozen?;simp [h]
def keepO (m:Int) (r:Ros) (b:Bool):Array Value:=#[.int .i32 m,.int .u32 0,.int .u8 (r 0),.int .u8 (r 1),.int .u8 (r 2),.int .u8 (r 3),.int .u8 (r 4),.bool b]
theorem oY (kb:Nat) (ρ:Ros) (f:Value) (w:World) (hk:w.heap[kb]?=some (.cells (keepO 0 (fun _=>0) false) 106 (0,0))) :
  Calls Sq.prog 60 #[.pointer (some ⟨kb,0,none⟩),rosV ρ,f] w fun e w'=>e=.returned (.tuple #[])∧KT (·=kb) w w'∧w'.heap[kb]?=some (.cells (keepO 0 ρ true) 106 (0,0)):=by
 obtain ⟨W,hW⟩:∃ W,W=w.alloc (.cells #[.int .u8 (ρ 0),.int .u8 (ρ 1),.int .u8 (ρ 2),.int .u8 (ρ 3),.int .u8 (ρ 4)] 91):=⟨_,rfl⟩
 have hlt:=(Array.getElem?_eq_some_iff.1 hk).1
 have hk2:W.heap[kb]?=some (.cells (keepO 0 (fun _=>0) false) 106 (0,0)):=by rw [hW,heap_alloc_old _ _ hlt];exact hk
 obtain ⟨hc,hf,_⟩:=cells_at hk2
 have h0:=hc 0
 have f0:=hf 0
 have hk3:=bG (i:=0) (u:=.int .i32 1) hk2
 have HK:=Lib.hid (show KT (·=kb) w W by rw [hW];exact KT.of_gr ((Gr.refl w).alloc _))
 obtain ⟨hc3,hf3,_⟩:=cells_at hk3
 have g0:=hc3 0
 have g2:=hc3 2
 have g3:=hc3 3
 have g4:=hc3 4
 have g5:=hc3 5
 have g6:=hc3 6
 have g7:=hc3 7
 have e0:=hf3 0
 have e2:=hf3 2
 have e3:=hf3 3
 have e4:=hf3 4
 have e5:=hf3 5
 have e6:=hf3 6
 have e7:=hf3 7
 simp [keepO] at h0 g0 g2 g3 g4 g5 g6 g7
 have hb:∀ i,i<5->(W.setCell ⟨kb,0,none⟩ (.int .i32 1)).cell? ⟨w.heap.size,i,none⟩=some (.int .u8 (ρ i)):=fun i hi=>by
  rw [World.cell?_setCell_other _ _ _ _ (fun e=>by have:kb=w.heap.size:=congrArg Addr.block e;omega),hW,World.cell?_alloc_at _ _ _ _ rfl]
  match i,hi with
  | 0,_=>rfl
  | 1,_=>rfl
  | 2,_=>rfl
  | 3,_=>rfl
  | 4,_=>rfl
 have b0:=hb 0 (by omega)
 have b1:=hb 1 (by omega)
 have b2:=hb 2 (by omega)
 have b3:=hb 3 (by omega)
 have b4:=hb 4 (by omega)
 have HW:=Lib.hid hW
 have HK2:=Lib.hid hk2
 have HK3:=Lib.hid hk3
 clear hc hf hc3 hf3 hk3 hk2 hk hW hb
 unfold rosV
 go_enter_defers Sq.func60,Tryz.ntmps60
 go_wp2_with (go_at_call 99;rw [<- HW.out];refine (Sq.lock_t ⟨kb,0,none⟩ _ h0 f0).mono ?_;rintro e w' ⟨rfl,rfl⟩)
 go_quiet (fail)
 go_wp2
 have HS:=Lib.hid (bG (i:=7) (u:=.bool true) (bG (i:=6) (u:=.int .u8 (ρ 4)) (bG (i:=5) (u:=.int .u8 (ρ 3)) (bG (i:=4) (u:=.int .u8 (ρ 2)) (bG (i:=3) (u:=.int .u8 (ρ 1)) (bG (i:=2) (u:=.int .u8 (ρ 0)) (show ((W.setCell ⟨kb,0,none⟩ (.int .i32 1)).drewN nq).heap[kb]?=_ from HK3.out)))))))
 refine leaves_cons (f:=100) (args:=#[.pointer (some ⟨kb,0,none⟩)]) (by simp) (by simp [go_sem]) ?_
 obtain ⟨hc4,hf4,_⟩:=cells_at HS.out
 refine (Sq.unlock_d ⟨kb,0,none⟩ .returning _ (by rw [hc4 0];rfl) (hf4 0)).mono ?_
 rintro e u' w'' ⟨rfl,rfl,rfl⟩
 have k:∀ (w:World) (i:Nat) (v:Value),KT (·=kb) w (w.setCell ⟨kb,i,none⟩ v):=fun w i v=>KT.setCell (T:=(·=kb)) w (p:=⟨kb,i,none⟩) rfl v
 refine ⟨.tuple #[],results_none rfl _ _ _,rfl,HK.out.trans ((k _ 0 _).trans ((KT.of_gr ((Gr.refl _).drewN nq)).trans ((k _ 2 _).trans ((k _ 3 _).trans ((k _ 4 _).trans ((k _ 5 _).trans ((k _ 6 _).trans ((k _ 7 _).trans (k _ 0 _))))))))),?_⟩
 exact bG (i:=0) (u:=.int .i32 0) HS.out
theorem qx (kb xb:Nat) (ρ:Ros) (f:Value) (w:World) (hx:w.cell? ⟨xb,0,none⟩=some f) (hxl:xb<w.heap.size) (hk:w.heap[kb]?=some (.cells (keepO 0 (fun _=>0) false) 106 (0,0))) :
  Calls Sq.prog 59 #[rosV ρ,.pointer (some ⟨kb,0,none⟩),.pointer (some ⟨xb,0,none⟩)] w fun e w'=>e=.returned (.tuple #[])∧KT (·=kb) w w'∧w'.heap[kb]?=some (.cells (keepO 0 ρ true) 106 (0,0)):=by
 obtain ⟨W,hW⟩:∃ W,W=w.alloc (.cells #[.int .u8 (ρ 0),.int .u8 (ρ 1),.int .u8 (ρ 2),.int .u8 (ρ 3),.int .u8 (ρ 4)] 91):=⟨_,rfl⟩
 have hlt:=(Array.getElem?_eq_some_iff.1 hk).1
 have HO:=Lib.hid (oY kb ρ f W (by rw [hW,heap_alloc_old _ _ hlt];exact hk))
 have HK:=Lib.hid (show KT (·=kb) w W by rw [hW];exact KT.of_gr ((Gr.refl w).alloc _))
 have HW:=Lib.hid hW
 clear hk hW
 unfold rosV at HO ⊢
 go_enter Sq.func59,Tryz.ntmps59
 go_wp2_with fail
 rw [<- HW.out]
 refine HO.out.mono ?_
 rintro e w' ⟨rfl,hk1,hk2⟩
 have HK1:=Lib.hid (HK.out.trans hk1)
 have HK2:=Lib.hid hk2
 clear hk1 hk2 HO
 go_wp2
 go_end0
 exact ⟨rfl,HK1.out,HK2.out⟩
open Go.RowKit Go.Sq Go.Shelf
theorem iF {T0 K:Nat->Prop} {cb:Nat} {c:Camp} {sets:List Nat} {nA hA:Option Addr} {nc hc sb sc n:Nat} {r:Ros} {w:World} (hC:CampK w K cb c sets nA hA nc hc sb sc) (hT:∀ b,T0 b->b<w.heap.size) (hK:∀ b,K b->¬ T0 b) (hr:∀ i,c.has (r i)) :
  Seq0 T0 K cb c sets nA hA nc hc sb sc w.heap.size (w.heap.size+1) (w.heap.size+2) r n
   (((w.alloc (.cells #[.pointer (some ⟨cb,0,none⟩)] 80)).alloc (.cells #[.int .u8 (r 0),.int .u8 (r 1),.int .u8 (r 2),.int .u8 (r 3),.int .u8 (r 4)] 91)).alloc (.cells #[.int .i64 n] 3)):=by
 have hg:Gr w (((w.alloc (.cells #[.pointer (some ⟨cb,0,none⟩)] 80)).alloc (.cells #[.int .u8 (r 0),.int .u8 (r 1),.int .u8 (r 2),.int .u8 (r 3),.int .u8 (r 4)] 91)).alloc (.cells #[.int .i64 n] 3)):=(((Gr.refl w).alloc _).alloc _).alloc _
 refine ⟨hC.keep hg.size fun b o hb=>hg.cell (hC.lt b hb),hK,⟨?_,fun h=>by have:=hT _ h;omega,by simp;omega⟩,⟨fun i hi=>?_,fun h=>by have:=hT _ h;omega,by simp⟩,⟨?_,by simp⟩,⟨by omega,fun b hb=>by have:=hC.lt b hb;omega⟩,hr⟩
 ·rw [World.cell?_alloc_past _ _ _ (by simp;omega),World.cell?_alloc_past _ _ _ (by simp),World.cell?_alloc_at _ _ _ _ rfl];rfl
 ·rw [World.cell?_alloc_past _ _ _ (by simp),World.cell?_alloc_at _ _ _ _ (by simp),World.frozen?_alloc_past _ _ _ (by simp),World.frozen?_alloc_at _ _ _ _ (by simp)]
  match i,hi with
  | 0,_=>exact ⟨rfl,rfl⟩
  | 1,_=>exact ⟨rfl,rfl⟩
  | 2,_=>exact ⟨rfl,rfl⟩
  | 3,_=>exact ⟨rfl,rfl⟩
  | 4,_=>exact ⟨rfl,rfl⟩
 ·rw [World.cell?_alloc_at _ _ _ _ (by simp)];rfl
open Go.RowKit Go.Sq Go.Shelf
attribute [local go_sem] Oper.semAt_some
def seqR:Code->Code
 | .seq _ b=>b
 | c=>c
noncomputable abbrev k92:Code:=seqR (Tryz.f92.body.getD .skip)
def dDone (b4:Nat):Deferred:={ target:=.fn (.func 93) #[],args:=#[.pointer (some ⟨b4,0,none⟩)] }
def cA (b2 b3 b4 r:Nat):Act:=⟨#[.pointer (some ⟨b4,0,none⟩),.pointer (some ⟨b2,0,none⟩),.pointer (some ⟨r,0,none⟩),.pointer (some ⟨b3,0,none⟩),undef,undef,undef,undef,undef,undef,undef,undef],[dDone b4]⟩
theorem lm {T0 K:Nat->Prop} {cb:Nat} {c:Camp} {sets:List Nat} {nA hA:Option Addr} {nc hc sb sc b2 b3 b4 rb F k:Nat} {fc:Array Value} {r:Ros} {w:World}
  (hok:c.Ok) (hsets:∀ x∈sets,c.has x) (hsl:sets.length<=16) (hC:CampK w K cb c sets nA hA nc hc sb sc) (hT:∀ b,T0 b->b<w.heap.size) (hK:∀ b,K b->¬ T0 b) (hr:∀ i,c.has (r i)) (hz:∀ i,1<=i->r i=0) (hk:1+k=c.needs.length)
  (h2:w.cell? ⟨b2,0,none⟩=some (.pointer (some ⟨cb,0,none⟩))) (hrb:∀ i,i<5->w.cell? ⟨rb,i,none⟩=some (.int .u8 (r i))) (h3:w.cell? ⟨b3,0,none⟩=some (.func (.func F) #[] fc)) (h3t:b3<w.heap.size∧¬ T0 b3)
  (I:List Ros->World->Prop) (hI:∀ pre W W',I pre W->(∀ b,T0 b->W'.heap[b]?=W.heap[b]?)->I pre W') (h0:I [] w)
  (hcf:∀ (x:Array Value) (w:World),(callFunc F x).run Sq.prog w=.ok (.enter F x) w)
  (hdo:∀ (pre:List Ros) (ρ:Ros) (W:World),pre++[ρ] <+: walkL c sets k r 1->KT (fun b=>T0 b∨w.heap.size<=b) w W->I pre W->Calls Sq.prog F (#[rosV ρ]++fc) W fun e W'=>e=.returned (.tuple #[])∧KT T0 W W'∧I (pre++[ρ]) W') :
  k92.wp Sq.prog (fun e a' w'=>(e=.normal∨e=.ret)∧(e=.normal∧I (walkL c sets k r 1) w'∧∃ D,a'.defers=[{ target:=.collected D,args:=#[] },dDone b4]∧¬ T0 D∧w'.heap[D]?=some (.deferred (some [])))) (cA b2 b3 b4 rb) w:=by
 have HC:=Lib.hid hC
 have HDO:=Lib.hid hdo
 have HT:=Lib.hid hT
 have HK:=Lib.hid hK
 have HI:=Lib.hid hI
 have H0:=Lib.hid h0
 have HR:=Lib.hid hr
 have HZ:=Lib.hid hz
 have HST:=Lib.hid hsets
 have r0:=hrb 0 (by omega)
 have r1:=hrb 1 (by omega)
 have r2:=hrb 2 (by omega)
 have r3:=hrb 3 (by omega)
 have r4:=hrb 4 (by omega)
 have hfrom:=jH cb 1 r w
 rw [<- callsIn_wide (n:=0)] at hfrom
 unfold rosV at hfrom
 rw [show (((1:Nat):Int))=1 from rfl] at hfrom
 have HF:=Lib.hid hfrom
 have HH3:=Lib.hid h3
 clear hC hdo hT hK hI h0 hr hz hsets hrb hfrom h3
 unfold cA k92 Tryz.f92
 simp only [Option.getD_some,seqR]
 rw [<- wpIn_wide (n:=0)]
 gi_wp2_with fail
 refine ⟨trivial,rfl,HF.out.mono ?_⟩
 rintro e w1 ⟨rfl,hw1⟩
 have hs:=iF (T0:=T0) (K:=K) (n:=1) (r:=r) HC.out HT.out HK.out HR.out
 rw [show (((1:Nat):Int))=1 from rfl,<- hw1] at hs
 have HS:=Lib.hid hs
 have hg1:Gr w w1:=by rw [hw1];exact (((Gr.refl w).alloc _).alloc _).alloc _
 have hz1:w1.heap.size=w.heap.size+3:=by rw [hw1];simp
 have HG1:=Lib.hid hg1
 have HZ1:=Lib.hid hz1
 clear hs hg1 hw1 HF hz1
 gi_wp2_with fail
 refine iV (T0:=T0) (K:=K) (cb:=cb) (c:=c) (sets:=sets) (nA:=nA) (hA:=hA) (nc:=nc) (hc:=hc) (sb:=sb) (sc:=sc) (bc:=w.heap.size) (br:=w.heap.size+1) (bn:=w.heap.size+2) (k:=k) (n:=1) (r:=r)
  hok HST.out hsl rfl hk HZ.out HS.out (fun b hb=>Nat.lt_of_lt_of_le (HT.out b hb) HG1.out.size) rfl
  I (fun _ _ _=>False) HI.out (fun c pre W W' h _=>h) (HI.out _ _ _ H0.out fun b hb=>HG1.out.below.block b (HT.out b hb)) ?_ ?_ (fun D j q W _ _ _ h _=>h.elim)
 ·intro l pre ρ W hpl hkw hpre hl1 hl2
  have hkw2:KT (fun b=>T0 b∨w.heap.size<=b) w W:=KT.low (T:=fun b=>T0 b∨b=w.heap.size+1) ((KT.of_gr HG1.out).trans hkw) fun b hb h=>h.elim .inl fun h=>by omega
  have HKW:=Lib.hid hkw2
  have HPL:=Lib.hid hpl
  have HPRE:=Lib.hid hpre
  have hb3:W.cell? ⟨b3,0,none⟩=some (.func (.func F) #[] fc):=(hkw2.cell (p:=⟨b3,0,none⟩) h3t.1 (by rintro (h | h);exact h3t.2 h;have:=h3t.1;exact absurd h (by show ¬ w.heap.size<=b3;omega))).trans HH3.out
  have hzw:=hkw2.size
  have hzl:w.heap.size+3<=W.heap.size:=by have:=hkw.size;have:=HZ1.out;omega
  obtain ⟨W2,hW2⟩:∃ W2,W2=W.alloc (.cells #[.int .u8 (ρ 0),.int .u8 (ρ 1),.int .u8 (ρ 2),.int .u8 (ρ 3),.int .u8 (ρ 4)] 91):=⟨_,rfl⟩
  have HKA:Hid (KT T0 W W2):=Lib.hid (by rw [hW2];exact KT.of_gr ((Gr.refl W).alloc _))
  have HCS:Hid (W2.heap[W.heap.size]?=some (.cells #[.int .u8 (ρ 0),.int .u8 (ρ 1),.int .u8 (ρ 2),.int .u8 (ρ 3),.int .u8 (ρ 4)] 91 (0,0))):=Lib.hid (by rw [hW2];exact World.alloc_heap_new W _)
  have HOLD:Hid (∀ b,b<W.heap.size->W2.heap[b]?=W.heap[b]?):=Lib.hid fun b hb=>by rw [hW2];exact heap_alloc_old _ _ hb
  have hz2:W2.heap.size=W.heap.size+1:=by rw [hW2];simp
  have HZ2:=Lib.hid hz2
  have HW2:=Lib.hid hW2
  clear hkw hkw2 hpl hpre hW2 hz2
  unfold rosV
  gi_wp2
  rw [<- HW2.out]
  refine ⟨HKA.out,fun o=>?_⟩
  clear HW2
  have hlD:∀ b,b<w.heap.size->b≠l:=fun b hb=>by have:=HZ1.out;omega
  have HB3:(W2.putObj l o).cell? ⟨b3,0,none⟩=some (.func (.func F) #[] fc):=(bM (hlD b3 h3t.1)).trans ((HKA.out.cell (p:=⟨b3,0,none⟩) (by show b3<_;have:=h3t.1;omega) h3t.2).trans hb3)
  obtain ⟨hc5,_,_⟩:=cells_at (W:=W2.putObj l o) ((World.putObj_heap_other (by omega)).trans HCS.out)
  have c0:=hc5 0
  have c1:=hc5 1
  have c2:=hc5 2
  have c3:=hc5 3
  have c4:=hc5 4
  simp at c0 c1 c2 c3 c4
  have HI2:=Lib.hid (HI.out pre W (W2.putObj l o) HPRE.out fun b hb=>(World.putObj_heap_other (hlD b (HT.out b hb))).trans (HOLD.out b (by have:=HT.out b hb;omega)))
  have hD2:=HDO.out pre ρ (W2.putObj l o) HPL.out ((HKW.out.trans (HKA.out.mono fun b h=>.inl h)).trans (KT.putObj (T:=fun b=>T0 b∨w.heap.size<=b) W2 (.inr (by have:=HZ1.out;omega)) o)) HI2.out
  rw [<- callsIn_wide (n:=0)] at hD2
  unfold rosV at hD2
  have HD2:=Lib.hid hD2
  clear hc5 HCS hD2
  gi_wp2_with fail
  refine ⟨trivial,rfl,HD2.out.mono ?_⟩
  rintro e w5 ⟨rfl,hk5,hi5⟩
  have HK5:=Lib.hid hk5
  have HI5:=Lib.hid hi5
  clear hk5 hi5 HD2
  gi_wp2
  exact ⟨HK5.out,HI5.out⟩
 ·intro D W hD hkw hi hd
  have HND:=Lib.hid (show ¬ T0 D from fun h=>by have:=HT.out D h;have:=HG1.out.size;omega)
  gi_wp2
  exact ⟨hi,HND.out⟩
end Go.Proofs.YtgicaeombogkcaaGreat
