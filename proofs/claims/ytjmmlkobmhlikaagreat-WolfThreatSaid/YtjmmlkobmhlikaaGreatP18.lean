/- Parts of the proof. -/
import Derived.Test.YtjmmlkobmhlikaaGreatP17
import Derived.Test.YtjmmlkobmhlikaaGreatP15
import Derived.Test.YtjmmlkobmhlikaaGreatP16
import Derived.Test.YtjmmlkobmhlikaaGreatP01
set_option linter.all false
set_option maxHeartbeats 3200000
set_option maxRecDepth 1000000
namespace Go.Sq
def subN (l:List Int)(i k:Nat):List Int:=(List.range l.length).map λj=>if j<k/\i.testBit j=true then l[j]?.getD 0 else 0
def aR (i k:Nat):List Int:=((List.range k).filter i.testBit).map λn:Nat=>(n:Int)
def subC (c:Camp)(i:Nat):Camp:={ c with needs:=subN c.needs i c.needs.length }
def clashN (c:Camp):Nat->Option (List Int)
 |0=>none
 |i+1=>if Go.Proofs.YtjmmlkobmhlikaaGreat.isSome (subC c i) then clashN c i else some (bestL (clashN c i) (aR i c.needs.length))
def ij (l:List Int)(i k:Nat):(subN l i k).length=l.length:=by simp[subN]
def dL (l:List Int)(i k j:Nat)(hj:j<l.length):(subN l i k)[j]?=some (if j<k/\i.testBit j=true then l[j]?.getD 0 else 0):=by simp[subN,hj]
def rP {c:Camp}(h:c.Ok)(i:Nat):(subC c i).Ok:=by
 have hl:(subC c i).needs.length=c.needs.length:=ij _ _ _
 refine⟨by rw[hl];exact h.n1,by rw[hl];exact h.n5,λx hx=>?_,h.h1,h.h4,h.heads,h.dogs,h.most,by rw[hl];exact h.off⟩
 obtain⟨j,hj,rfl⟩:=List.getElem_of_mem hx
 have hj':j<c.needs.length:=by rw[hl] at hj;exact hj
 have:=dL c.needs i c.needs.length j hj'
 have e:(subC c i).needs[j]=if j<c.needs.length/\i.testBit j=true then c.needs[j]?.getD 0 else 0:=by
  rw[List.getElem?_eq_getElem (by rw[ij];exact hj')] at this
  exact Option.some.inj this
 rw[e]
 split
 ·exact h.need _ (mem_get c.needs j hj')
 ·omega
def kN (i k:Nat):aR i (k+1)=aR i k++if i.testBit k then[(k:Int)] else[]:=by
 unfold aR
 rw[List.range_succ,List.filter_append,List.map_append]
 cases h:i.testBit k<;>simp[h]
def iQ (i k:Nat):(aR i k).length<=k:=by
 unfold aR
 rw[List.length_map]
 exact Nat.le_trans (List.length_filter_le _ _) (by simp)
def KeepL.gr {w w':World}{kb:Nat}{o:Option (List Int)}(h:KeepL w kb o)(hg:Gr w w'):KeepL w' kb o:=by
 cases o with
 |none=>exact(hg.below.block kb (Array.getElem?_eq_some_iff.1 h).1).trans h
 |some l =>
  obtain⟨A,c,h1,h2,h3⟩:=h
  refine⟨A,c,(hg.below.block kb (Array.getElem?_eq_some_iff.1 h1).1).trans h1,h2,λhn=>?_⟩
  obtain⟨b,o,e,hb,hc⟩:=h3 hn
  exact⟨b,o,e,⟨hb.1,Nat.lt_of_lt_of_le hb.2 hg.size⟩,λi x hx=>(hg.cell (p:=⟨b,o+i,none⟩) hb.2).trans (hc i x hx)⟩
end Go.Sq
namespace Go.Proofs.YtjmmlkobmhlikaaGreat
open Go.RowKit Go.Sq
def gD {w:World}{ops:Array Oper}{rest:List Oper}{o:Oper}{a:Act}{Q:Exit->Act->World->Prop}(hgd:o.guard=none)(s x:Operand)(ho:o.op=.call { callee:=.builtin .append,args:=#[s,x],argTypes:=#[22,22] })
  (base:Nat) (v:Value) (n:Nat) (xs:List Value) (hs:a.eval s=v) (hown:w.ownsRow base 3 1 v n xs) (ad:Addr) (c:Nat) (u:Value) (hx:a.eval x=.slice (some ad) 1 c) (hc:w.cell? ad=some u) (h1:u.oneCell'=true)
  (hn:n<=1048576) (hbase:base<=w.heap.size) (h:∀v' w',w'.ownsRow base 3 1 v' (n+1) (xs++[u])->w.grownBy w' v.ownBlock->w.drawn<=w'.drawn->wpList uZ ops Q rest (a.put o.dst v') w'):wpList uZ ops Q (o::rest) a w:=by
 obtain⟨i0,hi,hz0,hz1,hz2⟩:=info_parts uv
 refine wpList_append_gr hgd s x 22 ho base 3 i0 (.int .i64 0) 1 8 Sq.underlying22 hi hz0 hz1 hz2 rfl (by decide) v n xs hs hown ad 1 c [u] hx rfl (λj u' hj=>?_) (λu' hu=>?_) (by unfold maxLen;omega) (by omega) hbase h
 ·match j,hj with
  |0,hj =>
   simp at hj;subst hj
   have:ad.add 0=ad:=by unfold Addr.add;split<;>simp_all
   rw[this];exact hc
 ·simp at hu;subst hu;exact h1
def rQ:∀k:Fin 32,∀j:Fin 5,(bits BinOp.and IntKind.i64 ((k.val:Int) / 2 ^ j.val) 1==1)=k.val.testBit j.val:=by decide +kernel
def kO {l:List Int}{i k m:Nat}(hm:m<l.length)(hne:m≠k):(subN l i (k+1))[m]?.getD 0=(subN l i k)[m]?.getD 0:=by
 rw[dL _ _ _ _ hm,dL _ _ _ _ hm]
 have:(m<k+1↔m<k):=by omega
 simp[this]
def kP {l:List Int}{i k:Nat}(hm:k<l.length):(subN l i (k+1))[k]?.getD 0=if i.testBit k=true then l[k]?.getD 0 else 0:=by
 rw[dL _ _ _ _ hm]
 simp
def qw {l:List Int}{i k:Nat}(hm:k<l.length):(subN l i k)[k]?.getD 0=0:=by
 rw[dL _ _ _ _ hm]
 simp
def zerosA (n:Nat):Array Value:=madeCells (Value.int .i64 0).cells (n*1)
def ge (n:Nat)(w:World)(hn:n<=1048576):(Instr.makeSlice 22 (.int .i64 (n:Int)) (.int .i64 (n:Int))).run uZ w=.ok (.slice (some ⟨w.heap.size,0,none⟩) n n) (w.alloc (.cells (zerosA n) 3)):=by
 obtain⟨i0,hi,hz0,hz1,hz2⟩:=info_parts uv
 have:=run_makeSlice (P:=uZ) w 22 3 i0 (.int .i64 0) Sq.underlying22 hi hz0 .i64 .i64 (n:Int) (n:Int) (by omega) (by omega) (by rw[hz1];simp;omega) (by rw[hz2];omega) (by omega)
 rw[hz1] at this
 simpa [zerosA] using this
def dw (n j:Nat)(hj:j<n):(zerosA n)[j]?=some (.int .i64 0):=by
 simp[zerosA,madeCells,Value.cells,hj,Nat.mod_one]
def rR (c:Camp)(w:World)(e:Ending)(w':World):Prop :=
 Gr w w'/\if checkE c≠0 then e=.returned (.tuple #[.slice none 0 0,.int .i64 (checkE c)]) else if isSome c then e=.returned (.tuple #[.slice none 0 0,.int .i64 11])
  else ∃A k,e=.returned (.tuple #[.slice A ((clashN c (2 ^ c.needs.length)).getD []).length k,.int .i64 0])/\RI w' w'.heap.size A ((clashN c (2 ^ c.needs.length)).getD [])
def rS (nA hA:Option Addr)(nc hc:Nat)(c:Camp)(w:World)(B:Nat)(hB:B<=w.heap.size)(hn:RI w B nA c.needs)(hh:HsAt w B hA c.herders)
  (hl1:c.needs.length<=4611686018427387904) (hl2:c.herders.length<=4611686018427387904) (hlo:∀h∈c.herders,h.off.length<=4611686018427387904) :
  Calls uZ 26 #[campV nA hA c nc hc] w (rR c w):=by
 unfold campV
 obtain⟨W0,hW0⟩:∃W0:World,W0=w.alloc (.cells #[.slice nA c.needs.length nc,.slice hA c.herders.length hc] 27):=⟨_,rfl⟩
 have hg0:Gr w W0:=hW0▸(Gr.refl w).alloc _
 have hz0:W0.heap.size=w.heap.size+1:=by rw[hW0];simp
 have HW:=ui hW0
 have HBEG:=ui (jh nA hA nc hc c W0 B (by omega) (hn.gr hB hg0) (hh.keep λb o hb=>hg0.cell (Nat.lt_of_lt_of_le hb hB)) hl1 hl2 hlo)
 have HG0:=ui hg0
 have hcm:W0.cell? ⟨w.heap.size,0,none⟩=some (.slice nA c.needs.length nc)/\W0.cell? ⟨w.heap.size,1,none⟩=some (.slice hA c.herders.length hc):=by
  rw[hW0]
  constructor
  all_goals rw[World.cell?_alloc_at _ _ _ _ rfl];rfl
 have HCM:=ui hcm
 have HN:=ui hn
 have HH:=ui hh
 clear hW0 hg0 hn hh hlo hcm
 go_enter Sq.func26,Tryz.ntmps26
 unfold campV at HBEG
 go_wp2_with fail
 rw[<-HW.out]
 refine HBEG.out.mono ?_
 rintro e w1 ⟨hg1,hbeg⟩
 have HG1:=ui hg1
 by_cases hE:checkE c=0
 ·rw[if_pos hE] at hbeg
  obtain⟨cb,g,cap,rfl,hcb,hcg,hK,_⟩:=hbeg
  have HK:=ui hK
  have HE:=ui hE
  have HOK:=ui (Camp.Ok.of hE)
  have HSOME:=ui (oV w1 HOK.out hK)
  clear hg1 hK HBEG hE
  obtain⟨v,hv⟩:∃v,v=isSome c:=⟨_,rfl⟩
  rw[<-hv] at HSOME
  have HV:=ui hv
  clear hv
  cases v with
  |true =>
   go_wp2_with (go_at_call 58;refine HSOME.out.mono ?_;rintro e w2 ⟨rfl,hg2⟩;have HG2:=ui hg2;clear hg2)
   go_ret2
   refine⟨HG0.out.trans (HG1.out.trans HG2.out),?_⟩
   rw[if_neg (by simp[HE.out]),if_pos HV.out.symm]
   rfl
  |false =>
   go_wp2_with fail
   refine HSOME.out.mono ?_
   rintro e w2 ⟨rfl,hg2⟩
   have HG2:=ui (HG0.out.trans (HG1.out.trans hg2))
   have hc0:w2.cell? ⟨w.heap.size,0,none⟩=some (.slice nA c.needs.length nc):=((HG1.out.trans hg2).cell (by show w.heap.size<_;omega)).trans HCM.out.1
   have hc1:w2.cell? ⟨w.heap.size,1,none⟩=some (.slice hA c.herders.length hc):=((HG1.out.trans hg2).cell (by show w.heap.size<_;omega)).trans HCM.out.2
   have hz2:w.heap.size<w2.heap.size:=by have:=hg2.size;have:=HG1.out.size;omega
   have hn5:=HOK.out.n5
   have hpow:((2:Int) ^ c.needs.length)=((2 ^ c.needs.length:Nat):Int)/\2 ^ c.needs.length<=32:=by
    have:c.needs.length=0\/c.needs.length=1\/c.needs.length=2\/c.needs.length=3\/c.needs.length=4\/c.needs.length=5:=by omega
    rcases this with e|e|e|e|e|e<;>rw[e]<;>decide
   obtain⟨hp1,hp2⟩:=hpow
   have hw:∀N:Nat,N<=32->IntKind.i64.wrap (N:Int)=N:=λN h=>by simp[IntKind.wrap,IntKind.bits,IntKind.signed];omega
   obtain⟨N,hN⟩:∃N,N=2 ^ c.needs.length:=⟨_,rfl⟩
   rw[<-hN] at hp1 hp2
   have hwp:wrap64 ((2:Int) ^ c.needs.length)=(N:Int):=by
    rw[hp1];unfold wrap64;omega
   have hmk:=λw=>ge c.needs.length w (by omega)
   have HNN:=ui hN
   clear hp1 hw hN
   have hk0:KeepL (w2.alloc (.cells #[.int .i32 0,.int .u32 0,.slice none 0 0,.bool false] 130)) w2.heap.size (clashN c 0):=World.alloc_heap_new w2 _
   have HK0:=ui hk0
   clear hk0
   go_wp2
   rw[hwp]
   clear hwp
   have hgz:=HG2.out.size
   go_loopw [26] (λi wr=>∃k:Nat,k<=N/\i=.int .i64 k/\KeepL wr w2.heap.size (clashN c k)/\Gr w wr/\wr.cell? ⟨w.heap.size,0,none⟩=some (.slice nA c.needs.length nc)/\wr.cell? ⟨w.heap.size,1,none⟩=some (.slice hA c.herders.length hc)/\w2.heap.size<wr.heap.size) (λi _=>N-(intOf i).toNat)
   case atStart =>
    exact⟨0,by omega,rfl,HK0.out,HG2.out.alloc _,(World.cell?_alloc_past _ _ _ hz2).trans hc0,(World.cell?_alloc_past _ _ _ hz2).trans hc1,by simp⟩
   case round =>
    obtain⟨wq,rfl⟩:∃wq,wq=wr:=⟨_,rfl⟩
    obtain⟨k,hk,rfl,hkl,hgr,hc0,hc1,hzr⟩:=hrel
    have HKL:=ui hkl
    have HGR:=ui hgr
    clear hkl hgr
    have hlt2:w.heap.size<wq.heap.size:=by omega
    by_cases hlt:k<N
    ·go_wp2
     go_loopw [9,38] (λv i wr=>∃j:Nat,j<=c.needs.length/\i=.int .i64 j/\wr.ownsRow (wq.heap.size+2) 3 1 v (aR k j).length ((aR k j).map (Value.int .i64)) /\
      (∀m,m<c.needs.length->wr.cell? ⟨wq.heap.size+1,m,none⟩=some (.int .i64 ((subN c.needs k j)[m]?.getD 0))/\wr.frozen? ⟨wq.heap.size+1,m,none⟩=false) /\
      wr.cell? ⟨wq.heap.size,0,none⟩=some (.slice (some ⟨wq.heap.size+1,0,none⟩) c.needs.length c.needs.length)/\wr.cell? ⟨wq.heap.size,1,none⟩=some (.slice hA c.herders.length hc)/\Gr wq wr/\wq.heap.size+2<=wr.heap.size) (λ_ i _=>c.needs.length-(intOf i).toNat)
     case atStart =>
      refine⟨0,by omega,rfl,World.ownsRow_nil _ _ _ _,λm hm=>⟨?_,?_⟩,?_,?_,((Gr.refl wq).alloc _).alloc _,by simp⟩
      ·rw[World.cell?_alloc_at _ _ _ _ (by simp),dw _ _ hm,dL _ _ _ _ hm];simp
      ·rw[World.frozen?_alloc_at _ _ _ _ (by simp)]
      ·rw[World.cell?_alloc_past _ _ _ (by simp),World.cell?_alloc_at _ _ _ _ rfl];rfl
      ·rw[World.cell?_alloc_past _ _ _ (by simp),World.cell?_alloc_at _ _ _ _ rfl];rfl
     case round =>
      obtain⟨j,hj,rfl,hown,hcs,hx0,hx1,hgi,hzi⟩:=hrel
      have HGI:=ui hgi
      have HCS:=ui hcs
      clear hgi hcs
      have hlt3:w.heap.size<wr.heap.size:=by omega
      have hc0i:wr.cell? ⟨w.heap.size,0,none⟩=some (.slice nA c.needs.length nc):=(HGI.out.cell (by show w.heap.size<_;omega)).trans hc0
      by_cases hjn:j<c.needs.length
      ·obtain⟨nb,no,rfl,hnb,hnc⟩:=(HN.out.gr hB (HGR.out.trans HGI.out)).at_ hjn
       have HS:=ui (kN k j)
       have hle:=iQ k j
       obtain⟨hcj,hfj⟩:=HCS.out j hjn
       have HBIT:Hid ((bits BinOp.and IntKind.i64 ((k:Int) / 2 ^ j) 1==1)=k.testBit j):=ui (rQ ⟨k,by omega⟩ ⟨j,by omega⟩)
       obtain⟨x,hx⟩:∃x,x=c.needs[j]?.getD 0:=⟨_,rfl⟩
       rw[<-hx] at hnc
       have HX:=ui hx
       clear hx
       cases hb:k.testBit j with
       |true =>
        rw[hb] at HS HBIT
        have hbit:=HBIT.out
        have HB:=ui hb
        clear hb
        have hwl:=hown.lt
        go_wp2_with (at_builtin;refine gD rfl _ _ rfl (wq.heap.size+2) _ _ _ rfl ((ownsRow_setCell_below hown (by show wq.heap.size+1<_;omega) _).alloc _) ⟨wr.heap.size,0,none⟩ 1 (.int .i64 j) rfl ?c1 rfl ?c2 ?c3 ?_)
        case c2=>omega
        case c3=>(try simp);omega
        intro v' w3 hown' hgrow hd
        have hG3:Gr wq w3:=((HGI.out.setCell (p:=⟨wq.heap.size+1,j,none⟩) (by show _<=wq.heap.size+1;omega) _).alloc _).grown hgrow hd λq hq=>by have:=(hwl q hq).1;omega
        have hfar:∀b o,b<wq.heap.size+2->w3.cell? ⟨b,o,none⟩=(wr.setCell ⟨wq.heap.size+1,j,none⟩ (.int .i64 x)).cell? ⟨b,o,none⟩/\w3.frozen? ⟨b,o,none⟩=(wr.setCell ⟨wq.heap.size+1,j,none⟩ (.int .i64 x)).frozen? ⟨b,o,none⟩:=λb o hb=>by
         have hne:some b≠_:=dv hown (show b<wq.heap.size+2 from hb)
         have hbk:=hgrow.block b (by simp[World.setCell];omega) hne
         have hbk2:=hbk.trans (heap_alloc_old _ _ (by simp[World.setCell];omega))
         exact⟨World.cell?_of_block hbk2,World.frozen?_of_block hbk2⟩
        have HCS3:Hid (∀m,m<c.needs.length->w3.cell? ⟨wq.heap.size+1,m,none⟩=some (.int .i64 ((subN c.needs k (j+1))[m]?.getD 0))/\w3.frozen? ⟨wq.heap.size+1,m,none⟩=false):=ui λm hm=>by
         obtain⟨e1,e2⟩:=hfar (wq.heap.size+1) m (by omega)
         refine⟨e1.trans ?_,e2.trans ((World.frozen?_setCell _ _ _ _).trans (HCS.out m hm).2)⟩
         by_cases hmj:m=j
         ·subst hmj
          rw[World.cell?_setCell_same _ _ _ hcj,kP hm,if_pos HB.out,HX.out]
         ·rw[World.cell?_setCell_other _ _ _ _ (by simp[hmj]),(HCS.out m hm).1,kO hm hmj]
        have H0:Hid (w3.cell? ⟨wq.heap.size,0,none⟩=some (.slice (some ⟨wq.heap.size+1,0,none⟩) c.needs.length c.needs.length)/\w3.cell? ⟨wq.heap.size,1,none⟩=some (.slice hA c.herders.length hc)):=ui
         ⟨(hfar _ _ (by omega)).1.trans ((World.cell?_setCell_other _ _ _ _ (by simp)).trans hx0),(hfar _ _ (by omega)).1.trans ((World.cell?_setCell_other _ _ _ _ (by simp)).trans hx1)⟩
        have HO3:Hid (w3.ownsRow (wq.heap.size+2) 3 1 v' (aR k (j+1)).length ((aR k (j+1)).map (Value.int .i64))):=ui (by rw[HS.out];simpa using hown')
        have HG3:=ui hG3
        have hz3:wq.heap.size+2<=w3.heap.size:=by have:=hgrow.size;simp[World.setCell] at this;omega
        clear hown' hgrow hd hG3 hfar hcj hfj hown hx0 hx1 hbit
        go_wp2
        go_roundw
        case rel=>exact⟨j+1,by omega,by go_num,HO3.out,HCS3.out,H0.out.1,H0.out.2,HG3.out,hz3⟩
        case measure=>simp[intOf];omega
       |false =>
        rw[hb] at HS HBIT
        have hbit:=HBIT.out
        have HB:=ui hb
        clear hb
        have HCS3:Hid (∀m,m<c.needs.length->wr.cell? ⟨wq.heap.size+1,m,none⟩=some (.int .i64 ((subN c.needs k (j+1))[m]?.getD 0))/\wr.frozen? ⟨wq.heap.size+1,m,none⟩=false):=ui λm hm=>by
         refine⟨?_,(HCS.out m hm).2⟩
         by_cases hmj:m=j
         ·subst hmj
          rw[hcj,kP hm,qw hm,if_neg (by rw[HB.out];simp)]
         ·rw[(HCS.out m hm).1,kO hm hmj]
        have HO3:Hid (wr.ownsRow (wq.heap.size+2) 3 1 _ (aR k (j+1)).length ((aR k (j+1)).map (Value.int .i64))):=ui (by rw[HS.out];simpa using hown)
        have HH0:=ui hx0
        have HH1:=ui hx1
        clear hown hcj hfj hx0 hx1
        go_wp2
        go_roundw
        case rel=>exact⟨j+1,by omega,by go_num,HO3.out,HCS3.out,HH0.out,HH1.out,HGI.out,hzi⟩
        case measure=>simp[intOf];omega
      ·have hjn2:j=c.needs.length:=by omega
       clear hjn hj
       have hlen:(subC c k).needs.length=c.needs.length:=ij _ _ _
       have hri:RI wr wr.heap.size (some ⟨wq.heap.size+1,0,none⟩) (subC c k).needs:=λ_=>⟨_,0,rfl,by omega,λm y hm=>by
        have hml:m<c.needs.length:=by rw[<-hlen];exact(List.getElem?_eq_some_iff.1 hm).1
        rw[Nat.zero_add,(HCS.out m hml).1,hjn2]
        have:(subC c k).needs=subN c.needs k c.needs.length:=rfl
        rw[<-this,hm];rfl⟩
       have HST : Hid (Calls uZ 55 #[.agg #[.slice (some ⟨wq.heap.size + 1, 0, none⟩) c.needs.length c.needs.length, .slice hA c.herders.length hc]] wr fun e w' => e = .returned (.pointer (some ⟨wr.heap.size + 1, 0, none⟩)) ∧ Gr wr w' ∧ ∃ g cap, wr.heap.size + 2 <= g ∧
         CampK w' (kOf wr.heap.size (wr.heap.size+1) g) (wr.heap.size+1) (subC c k) (setsL c.herders.length) (some ⟨wq.heap.size+1,0,none⟩) hA c.needs.length hc g cap):=ui (by
        have:=iP (some ⟨wq.heap.size+1,0,none⟩) hA c.needs.length hc (subC c k) wr wr.heap.size (Nat.le_refl _) hri (((HH.out.keep λb o hb=>(HGR.out.trans HGI.out).cell (Nat.lt_of_lt_of_le hb hB))).more (by have:=(HGR.out.trans HGI.out).size;omega)) HOK.out.h4
        unfold campV at this
        rw[hlen] at this
        exact this.mono λe w' ⟨h1,h2,g,cap,h3,h4,_⟩=>⟨h1,h2,g,cap,h3,h4⟩)
       have hown2:=hown
       rw[hjn2] at hown2
       have hrow:∃A c',u9=Value.slice A (aR k c.needs.length).length c'/\RIK wr (λb=>b≠w2.heap.size/\b<wr.heap.size) A (aR k c.needs.length):=by
        obtain⟨A,c',e,h⟩:=uq hown2
        refine⟨A,c',e,λhne=>?_⟩
        obtain⟨b,o,e2,hb,hc2⟩:=h hne
        refine⟨b,o,e2,⟨?_,hb⟩,hc2⟩
        have:=(hown2.lt b (by rw[e,e2];rfl)).1
        omega
       obtain⟨A,c',rfl,hrik⟩:=hrow
       have HRIK:=ui hrik
       clear hri hown2 hown hrik
       go_wp2_with fail
       refine HST.out.mono ?_
       rintro e w3 ⟨rfl,hg3,g3,cap3,hg3l,hK3⟩
       have HG3:=ui hg3
       have HS3:=ui (oV (c:=subC c k) w3 (rP HOK.out k) hK3)
       clear hg3 hK3 HST
       obtain⟨v,hv⟩:∃v,v=isSome (subC c k):=⟨_,rfl⟩
       rw[<-hv] at HS3
       have HV:=ui hv
       clear hv
       cases v with
       |true =>
        go_wp2_with fail
        refine HS3.out.mono ?_
        rintro e w4 ⟨rfl,hg4⟩
        have HG4:=ui (HGI.out.trans (HG3.out.trans hg4))
        have HK4:Hid (KeepL w4 w2.heap.size (clashN c (k+1))):=ui (by
         have:clashN c (k+1)=clashN c k:=by show(if _ then _ else _)=_;rw[if_pos HV.out.symm]
         rw[this];exact HKL.out.gr HG4.out)
        clear hg4
        go_wp2
        go_roundw
        case rel=>exact⟨k+1,by omega,by go_num,HK4.out,HGR.out.trans HG4.out,(HG4.out.cell hlt2).trans hc0,(HG4.out.cell hlt2).trans hc1,by have:=HG4.out.size;omega⟩
        case measure=>simp[intOf];omega
       |false =>
        go_wp2_with fail
        refine HS3.out.mono ?_
        rintro e w4 ⟨rfl,hg4⟩
        have HG4:=ui (HGI.out.trans (HG3.out.trans hg4))
        have hg4w:=HG3.out.trans hg4
        have HOFF:=ui (rO w2.heap.size A c' (aR k c.needs.length) (clashN c k) w4 (HKL.out.gr HG4.out) (λhne=>by
         obtain⟨b,o,e2,hb,hc2⟩:=HRIK.out hne
         exact⟨b,o,e2,⟨hb.1,Nat.lt_of_lt_of_le hb.2 hg4w.size⟩,λi y hy=>(hg4w.cell (p:=⟨b,o+i,none⟩) hb.2).trans (hc2 i y hy)⟩) (by have:=iQ k c.needs.length;omega))
        clear hg4 hg4w
        go_wp2_with fail
        refine HOFF.out.mono ?_
        rintro e w5 ⟨rfl,hk5,hkl5⟩
        have HK5:Hid (KeepL w5 w2.heap.size (clashN c (k+1))):=ui (by
         have:clashN c (k+1)=some (bestL (clashN c k) (aR k c.needs.length)):=by show(if _ then _ else _)=_;rw[if_neg (by rw[<-HV.out];simp)]
         rw[this];exact hkl5)
        have HG5:=ui (KT.gr (HGR.out.trans HG4.out) hk5 (by rintro b rfl;omega))
        have hz4:=HG4.out.size
        have hd0:w5.cell? ⟨w.heap.size,0,none⟩=some (.slice nA c.needs.length nc):=(hk5.cell (p:=⟨w.heap.size,0,none⟩) (by show w.heap.size<_;omega) (by show w.heap.size≠_;omega)).trans ((HG4.out.cell hlt2).trans hc0)
        have hd1:w5.cell? ⟨w.heap.size,1,none⟩=some (.slice hA c.herders.length hc):=(hk5.cell (p:=⟨w.heap.size,1,none⟩) (by show w.heap.size<_;omega) (by show w.heap.size≠_;omega)).trans ((HG4.out.cell hlt2).trans hc1)
        have hz5:=hk5.size
        clear hk5 hkl5 HOFF
        go_wp2
        go_roundw
        case rel=>exact⟨k+1,by omega,by go_num,HK5.out,HG5.out,hd0,hd1,by omega⟩
        case measure=>simp[intOf];omega
    ·have hkn:k=N:=by omega
     subst hkn
     have HEQ:Hid (clashN c (2 ^ c.needs.length)=clashN c k):=ui (by rw[<-HNN.out])
     obtain⟨o,ho⟩:∃o,o=clashN c k:=⟨_,rfl⟩
     rw[<-ho] at HKL HEQ
     clear ho hlt
     cases o with
     |none =>
      obtain⟨d0,d1,d2,d3,df,dl⟩:=four_cells HKL.out
      go_wp2
      go_ret2
      refine⟨HGR.out,?_⟩
      rw[if_neg (by simp[HE.out]),if_neg (by rw[<-HV.out];simp),HEQ.out]
      exact⟨none,0,rfl,.nil⟩
     |some b =>
      obtain⟨bA,bc,hkb,hbl,hrk⟩:=HKL.out
      obtain⟨d0,d1,d2,d3,df,dl⟩:=four_cells hkb
      have HRK:=ui hrk
      clear hkb hrk
      go_wp2
      go_ret2
      refine⟨HGR.out,?_⟩
      rw[if_neg (by simp[HE.out]),if_neg (by rw[<-HV.out];simp),HEQ.out]
      exact⟨bA,bc,rfl,RIK.ri HRK.out λb hb=>hb.2⟩
 ·rw[if_neg hE] at hbeg
  subst hbeg
  have HE:=ui hE
  obtain⟨k,hk⟩:∃k,k=checkE c:=⟨_,rfl⟩
  rw[<-hk] at hE ⊢
  have HK:=ui hk
  clear hk hg1 HBEG
  go_wp2
  go_ret2
  refine⟨HG0.out.trans HG1.out,?_⟩
  rw[if_pos HE.out]
  show Ending.returned (.tuple #[.slice none 0 0,.int .i64 k])=_
  rw[HK.out]
end Go.Proofs.YtjmmlkobmhlikaaGreat
namespace Go.Sq
open Go.RowKit
def formedE (c:Camp)(ls:List (List Int)):Int :=
 if checkE c≠0 then checkE c else if manyE ls.length c.needs.length c.needs.length≠0 then manyE ls.length c.needs.length c.needs.length else bj (ls.map λl=>ascE l c.herders.length)
def rosOf (ls:List (List Int)):Ros:=λi=>ofL (ls[i]?.getD [])
def RosC5 {w:World}{b:Nat}{r:Ros}(h:∀i,i<5->w.cell? ⟨b,i,none⟩=some (.int .u8 (r i))) :
  w.cell? ⟨b,0,none⟩=some (.int .u8 (r 0))/\w.cell? ⟨b,1,none⟩=some (.int .u8 (r 1))/\w.cell? ⟨b,2,none⟩=some (.int .u8 (r 2))/\w.cell? ⟨b,3,none⟩=some (.int .u8 (r 3))/\w.cell? ⟨b,4,none⟩=some (.int .u8 (r 4)) :=
 ⟨h 0 (by omega),h 1 (by omega),h 2 (by omega),h 3 (by omega),h 4 (by omega)⟩
def put5 (w:World)(b:Nat)(v0 v1 v2 v3 v4:Value):World:=((((w.setCell ⟨b,0,none⟩ v0).setCell ⟨b,1,none⟩ v1).setCell ⟨b,2,none⟩ v2).setCell ⟨b,3,none⟩ v3).setCell ⟨b,4,none⟩ v4
def dG {w:World}{b:Nat}{r:Ros}(h:∀i,i<5->w.cell? ⟨b,i,none⟩=some (.int .u8 (r i)))(v0 v1 v2 v3 v4:Value) :
  (put5 w b v0 v1 v2 v3 v4).cell? ⟨b,0,none⟩=some v0/\(put5 w b v0 v1 v2 v3 v4).cell? ⟨b,1,none⟩=some v1/\(put5 w b v0 v1 v2 v3 v4).cell? ⟨b,2,none⟩=some v2/\(put5 w b v0 v1 v2 v3 v4).cell? ⟨b,3,none⟩=some v3/\(put5 w b v0 v1 v2 v3 v4).cell? ⟨b,4,none⟩=some v4:=by
 have ne:∀(W:World) (i j:Nat) (v:Value),i≠j->(W.setCell ⟨b,i,none⟩ v).cell? ⟨b,j,none⟩=W.cell? ⟨b,j,none⟩:=λW i j v hij=>World.cell?_setCell_other _ _ _ _ (by simp[Ne.symm hij])
 obtain⟨h0,h1,h2,h3,h4⟩:=RosC5 h
 unfold put5
 refine⟨?_,?_,?_,?_,?_⟩
 ·rw[ne _ _ _ _ (by decide),ne _ _ _ _ (by decide),ne _ _ _ _ (by decide),ne _ _ _ _ (by decide)];exact World.cell?_setCell_same _ _ _ h0
 ·rw[ne _ _ _ _ (by decide),ne _ _ _ _ (by decide),ne _ _ _ _ (by decide)];exact World.cell?_setCell_same _ _ _ (by rw[ne _ _ _ _ (by decide)];exact h1)
 ·rw[ne _ _ _ _ (by decide),ne _ _ _ _ (by decide)];exact World.cell?_setCell_same _ _ _ (by rw[ne _ _ _ _ (by decide),ne _ _ _ _ (by decide)];exact h2)
 ·rw[ne _ _ _ _ (by decide)];exact World.cell?_setCell_same _ _ _ (by rw[ne _ _ _ _ (by decide),ne _ _ _ _ (by decide),ne _ _ _ _ (by decide)];exact h3)
 ·exact World.cell?_setCell_same _ _ _ (by rw[ne _ _ _ _ (by decide),ne _ _ _ _ (by decide),ne _ _ _ _ (by decide),ne _ _ _ _ (by decide)];exact h4)
def iR (w:World)(b:Nat)(v0 v1 v2 v3 v4:Value){k:Nat}(hk:k≠b):(put5 w b v0 v1 v2 v3 v4).heap[k]?=w.heap[k]?:=by
 unfold put5
 rw[Below.heap_setCell _ _ _ _ (by exact hk),Below.heap_setCell _ _ _ _ (by exact hk),Below.heap_setCell _ _ _ _ (by exact hk),Below.heap_setCell _ _ _ _ (by exact hk),Below.heap_setCell _ _ _ _ (by exact hk)]
def eR {w0 w:World}{b:Nat}(h:Gr w0 w)(hb:w0.heap.size<=b)(v0 v1 v2 v3 v4:Value):Gr w0 (put5 w b v0 v1 v2 v3 v4):=((((h.setCell (p:=⟨b,0,none⟩) hb v0).setCell (p:=⟨b,1,none⟩) hb v1).setCell (p:=⟨b,2,none⟩) hb v2).setCell (p:=⟨b,3,none⟩) hb v3).setCell (p:=⟨b,4,none⟩) hb v4
def jC (w:World)(b:Nat)(v0 v1 v2 v3 v4:Value):(put5 w b v0 v1 v2 v3 v4).heap.size=w.heap.size:=by simp[put5,World.setCell]
end Go.Sq
namespace Go.Proofs.YtjmmlkobmhlikaaGreat
open Go.RowKit Go.Sq
def ta (nA hA:Option Addr)(nc hc:Nat)(c:Camp)(ls:List (List Int))(B:Nat)(w:World)(e:Ending)(w':World):Prop :=
 Gr w w' ∧ if formedE c ls = 0 then ∃ cb g cap, e = .returned (.tuple #[.pointer (some ⟨cb, 0, none⟩), rosV (rosOf ls), .int .i64 0]) ∧ w.heap.size <= cb ∧ cb < g ∧ CampK w' (kOf B cb g) cb c (setsL c.herders.length) nA hA nc hc g cap
   else ∃(p:Value) (r:Ros),e=.returned (.tuple #[p,rosV r,.int .i64 (formedE c ls)])
structure FW (nA hA:Option Addr)(nc hc:Nat)(c:Camp)(K:Nat->Prop)(cb g cap:Nat)(w:World)(r:Ros)(wr:World):Prop where
 x5:∀i,i<5->wr.cell? ⟨w.heap.size+1,i,none⟩=some (.int .u8 ((λ_=>0:Ros) i:Nat))
 f5:∀i,i<5->wr.frozen? ⟨w.heap.size+1,i,none⟩=false
 x7:∀i,i<5->wr.cell? ⟨w.heap.size+2,i,none⟩=some (.int .u8 (r i:Nat))
 f7:∀i,i<5->wr.frozen? ⟨w.heap.size+2,i,none⟩=false
 c0:wr.cell? ⟨w.heap.size,0,none⟩=some (.slice nA c.needs.length nc)
 c1:wr.cell? ⟨w.heap.size,1,none⟩=some (.slice hA c.herders.length hc)
 K:CampK wr K cb c (setsL c.herders.length) nA hA nc hc g cap
 gr:Gr w wr
def FW.set {nA hA:Option Addr}{nc hc:Nat}{c:Camp}{K:Nat->Prop}{cb g cap:Nat}{w wr:World}{r:Ros}(h:FW nA hA nc hc c K cb g cap w r wr)(hK:¬K (w.heap.size+2)){k x:Nat}(hk:k<5) :
  FW nA hA nc hc c K cb g cap w (upd r k x) (wr.setCell ⟨w.heap.size+2,k,none⟩ (.int .u8 (x:Int))):=by
 have ho:∀b o,b≠w.heap.size+2->(wr.setCell ⟨w.heap.size+2,k,none⟩ (.int .u8 (x:Int))).cell? ⟨b,o,none⟩=wr.cell? ⟨b,o,none⟩:=λb o hb=>World.cell?_setCell_other _ _ _ _ (λe=>hb (congrArg Addr.block e).symm)
 refine⟨λi hi=>(ho _ _ (by omega)).trans (h.x5 i hi),λi hi=>(World.frozen?_setCell _ _ _ _).trans (h.f5 i hi),λi hi=>?_,λi hi=>(World.frozen?_setCell _ _ _ _).trans (h.f7 i hi),(ho _ _ (by omega)).trans h.c0,(ho _ _ (by omega)).trans h.c1,h.K.keep (by simp[World.setCell]) λb o hb=>ho b o λe=>hK (e▸hb),h.gr.setCell (by show _<=w.heap.size+2;omega) _⟩
 unfold upd
 by_cases e:i=k
 ·subst e;rw[if_pos rfl];exact World.cell?_setCell_same _ _ _ (h.x7 i hi)
 ·rw[if_neg e];exact(World.cell?_setCell_other _ _ _ _ (by simp[e])).trans (h.x7 i hi)
def FW.fin {nA hA:Option Addr}{nc hc:Nat}{c:Camp}{K:Nat->Prop}{cb g cap:Nat}{w wr:World}{r:Ros}(h:FW nA hA nc hc c K cb g cap w r wr)(hK:¬K (w.heap.size+1))(v0 v1 v2 v3 v4:Value) :
  CampK (put5 wr (w.heap.size+1) v0 v1 v2 v3 v4) K cb c (setsL c.herders.length) nA hA nc hc g cap/\Gr w (put5 wr (w.heap.size+1) v0 v1 v2 v3 v4) :=
 ⟨h.K.keep (by rw[jC];exact Nat.le_refl _) λb o hb=>World.cell?_of_block (iR _ _ _ _ _ _ _ λe=>hK (e▸hb)),eR h.gr (by omega) _ _ _ _ _⟩
def _root_.Go.Sq.CampK.drew {w:World}{K:Nat->Prop}{cb:Nat}{c:Camp}{sets:List Nat}{nA hA:Option Addr}{nc hc sb sc:Nat}(h:CampK w K cb c sets nA hA nc hc sb sc):CampK w.drew K cb c sets nA hA nc hc sb sc :=
 h.keep (Nat.le_refl _) λ_ _ _=>rfl
def rosN (ls:List (List Int))(k:Nat):Ros:=λi=>if i<k then ofL (ls[i]?.getD []) else 0
def qx (ls:List (List Int))(k:Nat):upd (rosN ls k) k (ofL (ls[k]?.getD []))=rosN ls (k+1):=by
 funext i
 unfold upd rosN
 by_cases e:i=k
 ·subst e;rw[if_pos rfl,if_pos (by omega)]
 ·rw[if_neg e]
  by_cases h:i<k
  ·rw[if_pos h,if_pos (by omega)]
  ·rw[if_neg h,if_neg (by omega)]
def qy (ls:List (List Int)):rosN ls ls.length=rosOf ls:=by
 funext i
 unfold rosN rosOf
 by_cases h:i<ls.length
 ·rw[if_pos h]
 ·rw[if_neg h,List.getElem?_eq_none (by omega)];rfl
def iS (ls:List (List Int))(n:Int){i:Nat}(hi:i<ls.length):(ls.map λl=>ascE l n)[i]?.getD 0=ascE (ls[i]?.getD []) n:=by simp[hi]
def il (nA hA gA:Option Addr)(nc hc gc:Nat)(c:Camp)(ls:List (List Int))(w:World)(B:Nat)(hB:B<=w.heap.size)(hn:RI w B nA c.needs)(hh:HsAt w B hA c.herders)(hg:GrAt w B gA ls)
  (hl1:c.needs.length<=4611686018427387904) (hl2:c.herders.length<=4611686018427387904) (hlo:∀h∈c.herders,h.off.length<=4611686018427387904) (hl3:ls.length<=4611686018427387904) (hl4:∀x∈ls,x.length<=4611686018427387904) :
  Calls uZ 17 #[campV nA hA c nc hc,.slice gA ls.length gc] w (ta nA hA nc hc c ls B w):=by
 have HG:=ui hg
 have HL4:=ui hl4
 unfold campV
 obtain⟨W0,hW0⟩:∃W0:World,W0=((w.alloc (.cells #[.slice nA c.needs.length nc,.slice hA c.herders.length hc] 27)).alloc (.cells #[.int .u8 0,.int .u8 0,.int .u8 0,.int .u8 0,.int .u8 0] 60)).alloc (.cells #[.int .u8 0,.int .u8 0,.int .u8 0,.int .u8 0,.int .u8 0] 60):=⟨_,rfl⟩
 have hg0:Gr w W0:=hW0▸(((Gr.refl w).alloc _).alloc _).alloc _
 have hz0:W0.heap.size=w.heap.size+3:=by rw[hW0];simp
 have HW:=ui hW0
 have HBEG:=ui (jh nA hA nc hc c W0 B (by omega) (hn.gr hB hg0) (hh.keep λb o hb=>hg0.cell (Nat.lt_of_lt_of_le hb hB)) hl1 hl2 hlo)
 have HG0:=ui hg0
 have hcm:W0.cell? ⟨w.heap.size,0,none⟩=some (.slice nA c.needs.length nc)/\W0.cell? ⟨w.heap.size,1,none⟩=some (.slice hA c.herders.length hc):=by
  rw[hW0]
  constructor
  all_goals rw[World.cell?_alloc_past _ _ _ (by simp;omega),World.cell?_alloc_past _ _ _ (by simp),World.cell?_alloc_at _ _ _ _ rfl];rfl
 have HCM:=ui hcm
 have hz5:∀i,i<5->W0.cell? ⟨w.heap.size+1,i,none⟩=some (.int .u8 ((λ_=>0:Ros) i:Nat))/\W0.cell? ⟨w.heap.size+2,i,none⟩=some (.int .u8 ((λ_=>0:Ros) i:Nat))/\W0.frozen? ⟨w.heap.size+1,i,none⟩=false/\W0.frozen? ⟨w.heap.size+2,i,none⟩=false:=λi hi=>by
  rw[hW0,World.cell?_alloc_past _ _ _ (by simp),World.frozen?_alloc_past _ _ _ (by simp),World.cell?_alloc_at _ _ _ _ (by simp),World.cell?_alloc_at _ _ _ _ (by simp),World.frozen?_alloc_at _ _ _ _ (by simp),World.frozen?_alloc_at _ _ _ _ (by simp)]
  match i,hi with
  |0,_=>exact⟨rfl,rfl,rfl,rfl⟩
  |1,_=>exact⟨rfl,rfl,rfl,rfl⟩
  |2,_=>exact⟨rfl,rfl,rfl,rfl⟩
  |3,_=>exact⟨rfl,rfl,rfl,rfl⟩
  |4,_=>exact⟨rfl,rfl,rfl,rfl⟩
 have HZ5:=ui hz5
 clear hW0 hg0 hn hh hg hl4 hlo hcm hz5
 go_enter Sq.func17,Tryz.ntmps17
 unfold campV at HBEG
 go_wp2_with fail
 rw[<-HW.out]
 refine HBEG.out.mono ?_
 rintro e w1 ⟨hg1,hbeg⟩
 have HG1:=ui hg1
 by_cases hE:checkE c=0
 ·rw[if_pos hE] at hbeg
  obtain⟨cb,g,cap,rfl,hcb,hcg,hK,_⟩:=hbeg
  have HK:=ui hK
  have HE:=ui hE
  have HOK:=ui (Camp.Ok.of hE)
  have hnk2:¬kOf B cb g (w.heap.size+2)/\¬kOf B cb g (w.heap.size+1):=by unfold kOf;omega
  have HNK:=ui hnk2
  have hn5:=HOK.out.n5
  have hh4:=HOK.out.h4
  have hfw:FW nA hA nc hc c (kOf B cb g) cb g cap w (rosN ls 0) w1:=by
   have h5:∀i,i<5->w1.cell? ⟨w.heap.size+1,i,none⟩=some (.int .u8 ((λ_=>0:Ros) i:Nat))/\w1.cell? ⟨w.heap.size+2,i,none⟩=some (.int .u8 ((λ_=>0:Ros) i:Nat))/\w1.frozen? ⟨w.heap.size+1,i,none⟩=false/\w1.frozen? ⟨w.heap.size+2,i,none⟩=false:=λi hi=>by
    obtain⟨a,b,c,d⟩:=HZ5.out i hi
    exact⟨(HG1.out.cell (by show w.heap.size+1<_;omega)).trans a,(HG1.out.cell (by show w.heap.size+2<_;omega)).trans b,(HG1.out.frozen (by show w.heap.size+1<_;omega)).trans c,(HG1.out.frozen (by show w.heap.size+2<_;omega)).trans d⟩
   exact⟨λi hi=>(h5 i hi).1,λi hi=>(h5 i hi).2.2.1,λi hi=>by rw[(h5 i hi).2.1];simp[rosN],λi hi=>(h5 i hi).2.2.2,(HG1.out.cell (by show w.heap.size<_;omega)).trans HCM.out.1,(HG1.out.cell (by show w.heap.size<_;omega)).trans HCM.out.2,hK,HG0.out.trans hg1⟩
  clear hg1 hK HBEG hE hnk2
  have HFW:=ui hfw
  have hc0:=hfw.c0
  have hc1:=hfw.c1
  clear hfw
  by_cases hM:manyE ls.length c.needs.length c.needs.length=0
  ·have hlen:c.needs.length=ls.length:=by have:=cm.1 hM;omega
   have HM:=ui hM
   have HF:=ui (show formedE c ls=bj (ls.map λl=>ascE l c.herders.length) by unfold formedE;rw[if_neg (by simp[HE.out]),if_neg (by simp[hM])])
   have hcall:Calls uZ 18 #[.int .i64 ls.length,.int .i64 c.needs.length,.int .i64 c.needs.length] w1 λe w'=>e=.returned (.int .i64 0)/\w1=w':=by rw[<-hM];exact eP _ _ _ _
   have HCALL:=ui hcall
   have HLEN:=ui hlen
   have hl5:ls.length<=5:=by omega
   clear hM hcall hlen
   go_wp2_with (go_at_call 18;refine HCALL.out.mono ?_;rintro e w' ⟨rfl,rfl⟩)
   go_loopw [38] (λi wr=>∃k:Nat,k<=ls.length/\i=.int .i64 k/\FW nA hA nc hc c (kOf B cb g) cb g cap w (rosN ls k) wr/\∀j,j<k->ascE (ls[j]?.getD []) c.herders.length=0) (λi _=>ls.length-(intOf i).toNat)
   case atStart=>exact⟨0,by omega,rfl,HFW.out,λj hj=>absurd hj (by omega)⟩
   case round =>
    obtain⟨k,hk,rfl,hfw,hz⟩:=hrel
    have HF2:=ui hfw
    have HZ:=ui hz
    have hc0:=hfw.c0
    have hc1:=hfw.c1
    obtain⟨a0,a1,a2,a3,a4⟩:=RosC5 hfw.x5
    obtain⟨b0,b1,b2,b3,b4⟩:=RosC5 hfw.x7
    have c0:=hfw.f5 0 (by omega)
    have c1:=hfw.f5 1 (by omega)
    have c2:=hfw.f5 2 (by omega)
    have c3:=hfw.f5 3 (by omega)
    have c4:=hfw.f5 4 (by omega)
    have HS5:=ui (dG hfw.x5)
    clear hfw hz
    by_cases hlt:k<ls.length
    ·obtain⟨b,o,A',c',rfl,hb,hcl,hri⟩:=(HG.out.gr hB HF2.out.gr).at_ hlt
     have hx:=HL4.out _ (fi ls k hlt)
     have HA:=ui (iS ls c.herders.length hlt)
     have HU:=ui (qx ls k)
     generalize ls[k]?.getD []=l at hcl hri hx HA HU
     have HASC:=ui (gP A' c' l c.herders.length wr B hri hx (by omega) (by omega))
     have HRI:=ui hri
     clear hri
     by_cases hE:ascE l c.herders.length=0
     ·rw[hE] at HASC
      have hok:=ascE_ok hE
      have HOF:=ui (of_t A' c' l wr B HRI.out hx λx hx=>by have:=hok.1 x hx;omega)
      have HZ2:Hid (∀j,j<k+1->ascE (ls[j]?.getD []) c.herders.length=0):=ui λj hj=>by
       rcases Nat.lt_or_ge j k with h|h
       ·exact HZ.out j h
       ·have:j=k:=by omega
        subst this
        have:=HA.out
        rw[hE] at this
        rw[<-iS ls _ hlt];exact this
      have HF3:Hid (FW nA hA nc hc c (kOf B cb g) cb g cap w (rosN ls (k+1)) (wr.setCell ⟨w.heap.size+2,k,none⟩ (.int .u8 (ofL l:Int)))):=ui (by rw[<-HU.out];exact HF2.out.set HNK.out.1 (by omega))
      have hfz:=HF2.out.f7 k (by omega)
      have hck:=HF2.out.x7 k (by omega)
      clear hok hE HU HA HRI HZ
      generalize ofL l=x at HOF HF3
      clear HF2 a0 a1 a2 a3 a4 b0 b1 b2 b3 b4 c0 c1 c2 c3 c4 HS5
      go_wp2_with (first|(go_at_call 32;refine HASC.out.mono ?_;rintro e w' ⟨rfl,rfl⟩)|(go_at_call 33;refine HOF.out.mono ?_;rintro e w' ⟨rfl,rfl⟩))
      go_roundw
      case rel=>exact⟨k+1,by omega,by go_num,HF3.out,HZ2.out⟩
      case measure=>simp[intOf];omega
     ·have HFE := Lib.hid (show formedE c ls = ascE l c.herders.length by
       rw[HF.out,cg (k:=k) (by simpa using hlt) (λi hi=>by rw[iS ls _ (by omega)];exact HZ.out i hi) (by rw[HA.out];exact hE),HA.out])
      have HEE:=ui hE
      clear hE HU HA HRI HZ
      generalize ascE l c.herders.length=q at HASC HFE HEE
      have hqe:(q != 0)=true:=by simp[HEE.out]
      go_wp2_with (go_at_call 32;refine HASC.out.mono ?_;rintro e w' ⟨rfl,rfl⟩)
      have HFG:=ui (HF2.out.fin HNK.out.2 (.int .u8 (rosN ls k 0:Nat)) (.int .u8 (rosN ls k 1:Nat)) (.int .u8 (rosN ls k 2:Nat)) (.int .u8 (rosN ls k 3:Nat)) (.int .u8 (rosN ls k 4:Nat))).2
      go_region
      all_goals
       go_wp2
       obtain⟨s0,s1,s2,s3,s4⟩:=HS5.out (.int .u8 (rosN ls k 0:Nat)) (.int .u8 (rosN ls k 1:Nat)) (.int .u8 (rosN ls k 2:Nat)) (.int .u8 (rosN ls k 3:Nat)) (.int .u8 (rosN ls k 4:Nat))
       unfold put5 at s0 s1 s2 s3 s4
       refine bodyPost_ret (v:=.tuple #[.pointer none,rosV (rosN ls k),.int .i64 q]) (by simp[results,Tryz.results17,go_sem,rosV,s0,s1,s2,s3,s4]) rfl ⟨?_,?_⟩
       ·first|exact HFG.out|exact HFG.out.drew
       ·rw[if_neg (HFE.out▸HEE.out),HFE.out];exact⟨_,_,rfl⟩
    ·have hkn:k=ls.length:=by omega
     subst hkn
     clear hlt
     rw[qy] at HF2 b0 b1 b2 b3 b4
     obtain⟨HFK,HFG⟩:Hid (CampK (put5 wr (w.heap.size+1) (.int .u8 (rosOf ls 0:Nat)) (.int .u8 (rosOf ls 1:Nat)) (.int .u8 (rosOf ls 2:Nat)) (.int .u8 (rosOf ls 3:Nat)) (.int .u8 (rosOf ls 4:Nat))) (kOf B cb g) cb c (setsL c.herders.length) nA hA nc hc g cap)/\Hid (Gr w (put5 wr (w.heap.size+1) (.int .u8 (rosOf ls 0:Nat)) (.int .u8 (rosOf ls 1:Nat)) (.int .u8 (rosOf ls 2:Nat)) (.int .u8 (rosOf ls 3:Nat)) (.int .u8 (rosOf ls 4:Nat)))):=⟨ui (HF2.out.fin HNK.out.2 _ _ _ _ _).1,ui (HF2.out.fin HNK.out.2 _ _ _ _ _).2⟩
     have HZZ:=ui (show formedE c ls=0 by
      rw[HF.out]
      exact eD λi hi=>by
       have hi':i<ls.length:=by simpa using hi
       rw[iS ls _ hi'];exact HZ.out i hi')
     go_wp2
     go_region
     all_goals
      go_wp2
      obtain⟨s0,s1,s2,s3,s4⟩:=HS5.out (.int .u8 (rosOf ls 0:Nat)) (.int .u8 (rosOf ls 1:Nat)) (.int .u8 (rosOf ls 2:Nat)) (.int .u8 (rosOf ls 3:Nat)) (.int .u8 (rosOf ls 4:Nat))
      unfold put5 at s0 s1 s2 s3 s4
      refine bodyPost_ret (v:=.tuple #[.pointer (some ⟨cb,0,none⟩),rosV (rosOf ls),.int .i64 0]) (by simp[results,Tryz.results17,go_sem,rosV,s0,s1,s2,s3,s4]) rfl ⟨?_,?_⟩
      ·first|exact HFG.out|exact HFG.out.drew
      ·rw[if_pos HZZ.out];exact⟨cb,g,cap,rfl,by omega,hcg,by first|exact HFK.out|exact HFK.out.drew⟩
  ·have HFE:=ui (show formedE c ls=manyE ls.length c.needs.length c.needs.length by unfold formedE;rw[if_neg (by simp[HE.out]),if_pos hM])
   have HEE:=ui hM
   have HCALL:=ui (eP ls.length c.needs.length c.needs.length w1)
   clear hM
   generalize manyE ls.length c.needs.length c.needs.length=q at HFE HEE HCALL
   have hqe:(q != 0)=true:=by simp[HEE.out]
   obtain⟨a0,a1,a2,a3,a4⟩:=RosC5 HFW.out.x5
   obtain⟨b0,b1,b2,b3,b4⟩:=RosC5 HFW.out.x7
   have c0:=HFW.out.f5 0 (by omega)
   have c1:=HFW.out.f5 1 (by omega)
   have c2:=HFW.out.f5 2 (by omega)
   have c3:=HFW.out.f5 3 (by omega)
   have c4:=HFW.out.f5 4 (by omega)
   have hk0:=HFW.out.c0
   have hk1:=HFW.out.c1
   have HS5:=ui (dG HFW.out.x5)
   have HFG:=ui (HFW.out.fin HNK.out.2 (.int .u8 (rosN ls 0 0:Nat)) (.int .u8 (rosN ls 0 1:Nat)) (.int .u8 (rosN ls 0 2:Nat)) (.int .u8 (rosN ls 0 3:Nat)) (.int .u8 (rosN ls 0 4:Nat))).2
   go_wp2_with (go_at_call 18;refine HCALL.out.mono ?_;rintro e w' ⟨rfl,rfl⟩)
   go_region
   all_goals
    go_wp2
    obtain⟨s0,s1,s2,s3,s4⟩:=HS5.out (.int .u8 (rosN ls 0 0:Nat)) (.int .u8 (rosN ls 0 1:Nat)) (.int .u8 (rosN ls 0 2:Nat)) (.int .u8 (rosN ls 0 3:Nat)) (.int .u8 (rosN ls 0 4:Nat))
    unfold put5 at s0 s1 s2 s3 s4
    refine bodyPost_ret (v:=.tuple #[.pointer none,rosV (rosN ls 0),.int .i64 q]) (by simp[results,Tryz.results17,go_sem,rosV,s0,s1,s2,s3,s4]) rfl ⟨?_,?_⟩
    ·first|exact HFG.out|exact HFG.out.drew
    ·rw[if_neg (HFE.out▸HEE.out),HFE.out];exact⟨_,_,rfl⟩
 ·rw[if_neg hE] at hbeg
  subst hbeg
  have HF:=ui (show formedE c ls=checkE c by unfold formedE;rw[if_pos hE])
  have h5:∀i,i<5->w1.cell? ⟨w.heap.size+1,i,none⟩=some (.int .u8 ((λ_=>0:Ros) i:Nat))/\w1.cell? ⟨w.heap.size+2,i,none⟩=some (.int .u8 ((λ_=>0:Ros) i:Nat))/\w1.frozen? ⟨w.heap.size+1,i,none⟩=false/\w1.frozen? ⟨w.heap.size+2,i,none⟩=false:=λi hi=>by
   obtain⟨a,b,c,d⟩:=HZ5.out i hi
   exact⟨(HG1.out.cell (by show w.heap.size+1<_;omega)).trans a,(HG1.out.cell (by show w.heap.size+2<_;omega)).trans b,(HG1.out.frozen (by show w.heap.size+1<_;omega)).trans c,(HG1.out.frozen (by show w.heap.size+2<_;omega)).trans d⟩
  obtain⟨a0,b0,c0,d0⟩:=h5 0 (by omega)
  obtain⟨a1,b1,c1,d1⟩:=h5 1 (by omega)
  obtain⟨a2,b2,c2,d2⟩:=h5 2 (by omega)
  obtain⟨a3,b3,c3,d3⟩:=h5 3 (by omega)
  obtain⟨a4,b4,c4,d4⟩:=h5 4 (by omega)
  have HS5:=ui (dG (w:=w1) (b:=w.heap.size+1) (r:=λ_=>0) (λi hi=>(h5 i hi).1) (.int .u8 0) (.int .u8 0) (.int .u8 0) (.int .u8 0) (.int .u8 0))
  have HE:=ui hE
  clear h5 HBEG hg1
  obtain⟨k,hk⟩:∃k,k=checkE c:=⟨_,rfl⟩
  rw[<-hk] at hE ⊢
  have HK:=ui hk
  clear hk
  go_wp2
  go_region
  all_goals
   go_wp2
   obtain⟨s0,s1,s2,s3,s4⟩:=HS5.out
   unfold put5 at s0 s1 s2 s3 s4
   refine bodyPost_ret (v:=.tuple #[.pointer none,.agg #[.int .u8 0,.int .u8 0,.int .u8 0,.int .u8 0,.int .u8 0],.int .i64 k]) (by simp[results,Tryz.results17,go_sem,s0,s1,s2,s3,s4]) rfl ⟨?_,?_⟩
   ·first|exact(eR (HG0.out.trans HG1.out) (by omega) _ _ _ _ _)|exact(eR (HG0.out.trans HG1.out) (by omega) _ _ _ _ _).drew|exact(eR (HG0.out.trans HG1.out).drew (by omega) _ _ _ _ _)
   ·rw[HF.out,HK.out,if_neg HE.out];exact⟨_,λ_=>0,rfl⟩
end Go.Proofs.YtjmmlkobmhlikaaGreat
namespace Go.Sq
open Go.Proofs.YtjmmlkobmhlikaaGreat
def gE:checkE (wakeC [3,2,4])=0:=by decide +kernel
def qz:(nearR (rosOf [[0,1],[1],[]]) (walkL (repC (wakeC [3,2,4]) 2 0) (setsL 3) 3 zeroR 0)).map (λp=>((List.range 3).map λi=>wl (p.1 i),p.2))=some (guardG,3):=by decide +kernel
def jS:checkE (wakeC [3,2,5])=0:=by decide +kernel
def iT:isSome (wakeC [3,2,5])=false:=by decide +kernel
def nf:clashN (wakeC [3,2,5]) 8=some [1,2]:=by decide +kernel
end Go.Sq
namespace Go.Proofs.YtjmmlkobmhlikaaGreat
open Go.RowKit Go.Sq
abbrev wakeCamp:Camp:=wakeC [3,2,4]
def setW (i:Nat):Nat:=(setsL 3)[i]?.getD 0
def firstR (x:Nat):Ros:=λj=>if j=0 then x else 0
def kindW (i:Nat):Int:=(lapseOf wakeCamp (firstR (setW i)) 0).1
def wake_kind0:∀i,i<8->(kindW i=0↔i=1\/i=4):=by decide +kernel
def ni:walkL wakeCamp (setsL 3) 2 (firstR (setW 4)) 1=[]:=by
 have:(walkL wakeCamp (setsL 3) 2 (firstR (setW 4)) 1).length=0:=by decide +kernel
 exact List.eq_nil_of_length_eq_zero this
def nj:(walkL wakeCamp (setsL 3) 2 (firstR (setW 1)) 1).length=1:=by decide +kernel
def im:∀x∈setsL 3,wakeCamp.has x:=λx hx=>kJ 3 (by decide) x hx
def fk (i:Nat)(hi:i<8):∀j,wakeCamp.has (firstR (setW i) j):=by
 intro j
 unfold firstR
 split
 ·refine im _ ?_
  have:∀i,i<8->setW i∈setsL 3:=by decide
  exact this i hi
 ·show 0<2 ^ 3;decide
open Go.RowKit Go.Iso Go.Co Go.Conc Go.Sq
abbrev Objs:=List (Nat×List Value×TypeId)
def hasB (o:Objs)(b:Nat):Bool:=o.any λp=>p.1==b
def hasB_of {o:Objs}{b:Nat}(h:hasB o b=true):∃p∈o,p.1=b:=by
 obtain⟨p,h1,h2⟩:=List.any_eq_true.1 h
 exact⟨p,h1,by simpa using h2⟩
def iU {o:Objs}{p:Nat×List Value×TypeId}(h:p∈o):hasB o p.1=true:=List.any_eq_true.2 ⟨p,h,by simp⟩
def aT {o e:Objs}{b:Nat}:hasB (o++e) b=(hasB o b||hasB e b):=List.any_append ..
def scl:List FuncId:=sbl++[67,69,70,106,107,127,128,129]
def SBc (f:FuncId):Bool:=scl.contains f
def BBc (f:FuncId):Bool:=SBc f&&!(f==67||f==69||f==70||f==127||f==129)
def ml:Looks BBc:=by
 refine⟨λf hf=>?_,by decide,by decide⟩
 have:sbl.all BBc=true:=by decide
 exact kB this f hf
def mn:∀f,SBl f=true->BBc f=true:=λf hf=>by
 have:sll.all BBc=true:=by decide
 exact jf this f hf
def SeesO (W:World)(o:Objs):Prop:=∀p∈o,∃f,W.heap[p.1]?=some (.cells p.2.1.toArray p.2.2 f)
structure Setting (w:World)(co ex:Objs)(tb cb sb cap:Nat)(nA hA:Option Addr)(nc F:Nat)(fc:List Value)(oK oE:Obj):Prop where
 obj:∀p∈co++ex,w.heap[p.1]?=some (.cells p.2.1.toArray p.2.2 (0,0))
 toy:w.heap[tb]?=some oK
 toyS:ScalObj oK/\ScalObj oE
 nt:hasB (co++ex) tb=false
 vco:∀p∈co,∀v∈p.2.1,∀(SB:FuncId->Bool) (H:Hid),InK SB H (λb=>hasB co b=true) v
 vex:∀p∈ex,∀v∈p.2.1,∀(SB:FuncId->Bool) (H:Hid),SB 43=true->InK SB H (λb=>hasB (co++ex) b=true) v
 vfc:∀v∈fc,∀(SB:FuncId->Bool) (H:Hid),InK SB H (λb=>hasB (co++ex) b=true\/b=tb) v
 sF:SBx F=true/\SBc F=true
 cF:∀(x:Array Value) (w:World),(callFunc F x).run uZ w=.ok (.enter F x) w
 kcb:hasB co cb=true
 ksb:hasB co sb=true
 camp:∀W:World,SeesO W co->CampK W (λb=>hasB co b=true) cb wakeCamp (setsL 3) nA hA nc 3 sb cap
abbrev kxS (co ex:Objs):Nat->Bool:=hasB (co++ex)
abbrev tlS (tb:Nat):Nat->Bool:=λb=>b==tb
def OkS (kx tl:Nat->Bool)(w:World)(cb:Nat)(p1:Value)(w':World):Prop:=∀b,kbE kx tl w b->w'.heap[b]?=(startW kx tl w cb p1).heap[b]?
section
variable {w:World} {co ex:Objs} {tb cb sb cap:Nat} {nA hA:Option Addr} {nc F:Nat} {fc:List Value} {oK oE:Obj}
def Setting.lt (S:Setting w co ex tb cb sb cap nA hA nc F fc oK oE){b:Nat}(h:kxS co ex b=true\/tlS tb b=true):b<w.heap.size:=by
 rcases h with h|h
 ·obtain⟨p,h1,rfl⟩:=hasB_of h
  exact(Array.getElem?_eq_some_iff.1 (S.obj p h1)).1
 ·have:b=tb:=by simpa using h
  subst this
  exact(Array.getElem?_eq_some_iff.1 S.toy).1
def Setting.at_ (S:Setting w co ex tb cb sb cap nA hA nc F fc oK oE){p1:Value}{w':World}(h:OkS (kxS co ex) (tlS tb) w cb p1 w') :
  (∀p∈co++ex,w'.heap[p.1]?=some (.cells p.2.1.toArray p.2.2 (0,p.2.1.toArray.size)))/\w'.heap[tb]?=some (.coro none)/\w'.heap[w.heap.size]?=some (.coro none) /\
   w'.heap[w.heap.size+1]?=some (.cells #[.pointer (some ⟨cb,0,none⟩)] 57 (0,1))/\w'.heap[w.heap.size+2]?=some (.cells #[p1] 103 (0,1)):=by
 refine⟨λp hp=>?_,?_,?_,?_,?_⟩
 ·have hk:kxS co ex p.1=true:=iU hp
  have hl:=S.lt (.inl hk)
  have ht:tlS tb p.1=false:=by
   cases hc:tlS tb p.1 with
   |false=>rfl
   |true =>
    have:p.1=tb:=by simpa using hc
    have h2:=S.nt
    rw[<-this] at h2
    rw[show hasB (co++ex) p.1=true from hk] at h2
    cases h2
  rw[h _ (.inl hk),aW,if_neg (by omega),if_neg (by omega),if_neg (by omega),eO (S.obj p hp) hk ht]
 ·have hl:=S.lt (b:=tb) (.inr (by simp))
  rw[h _ (.inr (.inl (by simp))),aW,if_neg (by omega),if_neg (by omega),if_neg (by omega),jd hl (by simp)]
 ·rw[h _ (.inr (.inr (.inl rfl))),aW,if_neg (by omega),if_neg (by omega),if_pos rfl]
 ·rw[h _ (.inr (.inr (.inr (.inl rfl)))),aW,if_neg (by omega),if_pos rfl]
 ·rw[h _ (.inr (.inr (.inr (.inr rfl)))),aW,if_pos rfl]
def cell_of {W:World}{b:Nat}{l:Array Value}{t:TypeId}{f:Nat×Nat}(h:W.heap[b]?=some (.cells l t f))(i:Nat):W.cell? ⟨b,i,none⟩=l[i]?:=by
 unfold World.cell?
 simp only[h]
 rfl
def Setting.sees (S:Setting w co ex tb cb sb cap nA hA nc F fc oK oE){p1:Value}{w':World}(h:OkS (kxS co ex) (tlS tb) w cb p1 w'):SeesO w' (co++ex):=λp hp=>⟨_,(S.at_ h).1 p hp⟩
def SeesO.left {W:World}{o e:Objs}(h:SeesO W (o++e)):SeesO W o:=λp hp=>h p (List.mem_append_left _ hp)
def tN:∀i:Nat,i<8->IntKind.i64.wrap ((i:Int)+1)=((i+1:Nat):Int):=by decide
def tO (i:Nat)(hi:i<8):(setsL 3)[i]?=some (setW i):=by
 have:∀i,i<8->(setsL 3)[i]?=some (setW i):=by decide
 exact this i hi
def ji (x:Nat)(j:Nat)(hj:j<5):(#[.int .u8 (x:Int),.int .u8 0,.int .u8 0,.int .u8 0,.int .u8 0]:Array Value)[j]?=some (.int .u8 (firstR x j:Nat)):=by
 match j,hj with
 |0,_=>rfl
 |1,_=>rfl
 |2,_=>rfl
 |3,_=>rfl
 |4,_=>rfl
def Setting.lapse (S:Setting w co ex tb cb sb cap nA hA nc F fc oK oE){p1:Value}{w':World}(h:OkS (kxS co ex) (tlS tb) w cb p1 w')(i:Nat)(hi:i<8)(τ:Tape)(d:Nat) :
  Calls uZ 66 #[.pointer (some ⟨cb,0,none⟩),.pointer (some ⟨w'.heap.size,0,none⟩),.int .i64 0] (on (w'.alloc (first (setW i))) τ d) (λe w2=>∃v,e=.returned v/\((∃y1 y2,v=.agg #[.int .i64 (kindW i),.int .i64 y1,.int .i64 y2])/\Ext (w'.alloc (first (setW i))) w2)):=by
 have hold:∀b,b<w'.heap.size->(on (w'.alloc (first (setW i))) τ d).heap[b]?=w'.heap[b]?:=λb hb=>heap_alloc_old w' _ hb
 have hs:SeesO (on (w'.alloc (first (setW i))) τ d) co:=λp hp=>by
  obtain⟨f,hf⟩:=(S.sees h).left p hp
  exact⟨f,(hold _ (Array.getElem?_eq_some_iff.1 hf).1).trans hf⟩
 have hr:RosAt (on (w'.alloc (first (setW i))) τ d) (on (w'.alloc (first (setW i))) τ d).heap.size w'.heap.size (firstR (setW i)):=by
  refine⟨by show _<(w'.alloc _).heap.size;rw[aA];omega,λj hj=>?_⟩
  exact(cell_of (W:=w'.alloc (first (setW i))) (l:=#[.int .u8 (setW i:Int),.int .u8 0,.int .u8 0,.int .u8 0,.int .u8 0]) (t:=60) (f:=(0,0)) (fh w' (setW i)) j).trans (ji _ j hj)
 refine(lV cb w'.heap.size 0 wakeCamp (firstR (setW i)) _ (S.camp _ hs).campP hr (Camp.Ok.of gE) (by decide) (fk i hi)).mono ?_
 rintro e w2 ⟨rfl,hg⟩
 exact⟨_,rfl,⟨_,_,rfl⟩,hg.size,λb hb=>hg.below.block b hb,hg.below.os⟩
def jl {o:Obj}(h:ScalObj o){S:Par}{Ck:Code->Prop}{β:Bij}:ORel S Ck β o o:=by
 obtain⟨l,t,f,rfl,hl⟩:=h
 refine .cells ⟨rfl,λi v V h1 h2=>?_⟩ λi h1 h2=>⟨h1,h2⟩
 rw[h1] at h2
 cases h2
 cases hl v (List.mem_of_getElem? (by simpa using h1)) with
 |bool b=>exact .bool b
 |int k n=>exact .int k n
def kidK (co ex:Objs)(tb n r:Nat)(b:Nat):Prop:=hasB (co++ex) b=true\/b=tb\/b=n\/b=n+1\/b=n+2\/b=r
def kQ (S:Setting w co ex tb cb sb cap nA hA nc F fc oK oE){p1:Value}{w' W:World}(h:OkS (kxS co ex) (tlS tb) w cb p1 w')(hp1:∀(H:Hid),InK SBx H (λb=>hasB (co++ex) b=true\/b=tb) p1){x:Nat}{r:Nat}(hr:w'.heap[r]?=some (.cells #[.int .u8 (x:Int),.int .u8 0,.int .u8 0,.int .u8 0,.int .u8 0] 60 (0,5)))
  (hW:∀b,b≠tb->W.heap[b]?=w'.heap[b]?) {H:Hid} (hH:∀b,H b=false->b≠w.heap.size/\(b=tb->W.heap[tb]?=some oK)) :
  ∀b,kidK co ex tb w.heap.size r b->H b=false->∃o,W.heap[b]?=some o/\ORel (SP SBx H) (CK uZ SBx false) (idOn (kidK co ex tb w.heap.size r)) o o:=by
 obtain⟨a1,a2,a3,a4,a5⟩:=S.at_ h
 have nt:∀b,hasB (co++ex) b=true->b≠tb:=λb hb e=>by
  have:=S.nt
  rw[<-e,hb] at this
  cases this
 have htl:tb<w.heap.size:=S.lt (.inr (by simp))
 intro b hb hHb
 obtain⟨h1,h2⟩:=hH b hHb
 by_cases hbt:b=tb
 ·subst hbt
  exact⟨oK,h2 rfl,jl S.toyS.1⟩
 rcases hb with hb|hb|hb|hb|hb|hb
 ·obtain⟨p,hp,rfl⟩:=hasB_of hb
  refine⟨_,(hW _ hbt).trans (a1 p hp),.cells (allIn λv hv=>?_) λi z1 z2=>⟨z1,z2⟩⟩
  rcases List.mem_append.1 hp with hp|hp
  ·exact(S.vco p hp v hv SBx H).mono λc hc=>.inl (by rw[aT];simp[hc])
  ·exact(S.vex p hp v hv SBx H (by decide)).mono λc hc=>.inl hc
 ·exact absurd hb hbt
 ·exact absurd hb h1
 ·subst hb
  refine⟨_,(hW _ hbt).trans a4,.cells (allIn (l:=[.pointer (some ⟨cb,0,none⟩)]) λv hv=>?_) λi z1 z2=>⟨z1,z2⟩⟩
  simp only[List.mem_cons,List.not_mem_nil,or_false] at hv
  subst hv
  exact InK.ptr (.inl (by rw[aT];simp[S.kcb])) _ _
 ·subst hb
  refine⟨_,(hW _ hbt).trans a5,.cells (allIn (l:=[p1]) λv hv=>?_) λi z1 z2=>⟨z1,z2⟩⟩
  simp only[List.mem_cons,List.not_mem_nil,or_false] at hv
  subst hv
  exact(hp1 H).mono λc hc=>hc.elim .inl λh=>.inr (.inl h)
 ·subst hb
  refine⟨_,(hW _ hbt).trans hr,.cells (allIn (l:=[.int .u8 (x:Int),.int .u8 0,.int .u8 0,.int .u8 0,.int .u8 0]) λv hv=>?_) λi z1 z2=>⟨z1,z2⟩⟩
  simp only[List.mem_cons,List.not_mem_nil,or_false] at hv
  rcases hv with rfl|rfl|rfl|rfl|rfl<;>exact VRel.int _ _
def qW (S:Setting w co ex tb cb sb cap nA hA nc F fc oK oE)(H:Hid):InK SBx H (λb=>hasB (co++ex) b=true\/b=tb) (.func (.func F) #[] fc.toArray):=InK.func S.sF.1 λv hv=>S.vfc v hv SBx H
def oW (S:Setting w co ex tb cb sb cap nA hA nc F fc oK oE){w':World}(h:OkS (kxS co ex) (tlS tb) w cb (.func (.func F) #[] fc.toArray) w'){i:Nat}(hi:i<8)(hnone:walkL wakeCamp (setsL 3) 2 (firstR (setW i)) 1=[]){r:Nat}(hrk:¬kbE (kxS co ex) (tlS tb) w r)
  (hr:w'.heap[r]?=some (.cells #[.int .u8 (setW i:Int),.int .u8 0,.int .u8 0,.int .u8 0,.int .u8 0] 60 (0,5))) :
  KTr Tryz.prog BBc (KidQ Tryz.prog w.heap.size λ_=>True) 0 (Go.Conc.G (Frame.enter Tryz.prog 68 (bt (w.heap.size+1) (w.heap.size+2) w.heap.size r) .deferred) [bad]) w':=by
 obtain⟨a1,a2,a3,a4,a5⟩:=S.at_ h
 have l2:w.heap.size+2<w'.heap.size:=(Array.getElem?_eq_some_iff.1 a5).1
 have ltb:tb<w.heap.size:=S.lt (.inr (by simp))
 have hid:∀b,(⟨λb=>b==w.heap.size||b==tb,true,false⟩:Hid) b=true->b=w.heap.size\/b=tb:=λb hb=>by simpa using hb
 refine kI (H:=⟨λb=>b==w.heap.size||b==tb,true,false⟩) (T0:=λ_=>False) ml (hn:=rfl) (K0:=kidK co ex tb w.heap.size r) ⟨.inr (.inr (.inr (.inl rfl))),.inr (.inr (.inr (.inr (.inl rfl)))),.inr (.inr (.inl rfl)),.inr (.inr (.inr (.inr (.inr rfl))))⟩
  (λb _ hb=>⟨rfl,by rcases hid b hb with rfl|rfl;exact a3;exact a2⟩) (λb hb=>by rcases hid b hb with rfl|rfl<;>omega)
  (kQ S h (qW S) hr (λ_ _=>rfl) λb hb=>?_) (λτ d=>?_) (λ_ _ _ _=>trivial)
 ·have hb':(b==w.heap.size||b==tb)=false:=hb
  simp only[Bool.or_eq_false_iff,beq_eq_false_iff_ne] at hb'
  exact⟨hb'.1,λe=>absurd e hb'.2⟩
 ·have := lX (T0 := fun _ => False) (K := fun b => hasB co b = true) (cb := cb) (c := wakeCamp) (sets := setsL 3) (b2 := w.heap.size + 1) (b3 := w.heap.size + 2) (b4 := w.heap.size) (rb := r) (F := F) (k := 2) (fc := fc.toArray) (r := firstR (setW i)) (w := on w' τ d)
   (Camp.Ok.of gE) im (by decide) (S.camp (on w' τ d) (S.sees h).left) (λ_ hb=>hb.elim) (λ_ _ hb=>hb) (fk i hi) (λj hj=>by unfold firstR;rw[if_neg (by omega)]) rfl
   (cell_of (W:=on w' τ d) a4 0) (λj hj=>(cell_of (W:=on w' τ d) hr j).trans (ji _ j hj)) (cell_of (W:=on w' τ d) a5 0) ⟨l2,λhb=>hb⟩
   (λpre _=>pre=[]) (λ_ _ _ hp _=>hp) rfl S.cF (λpre ρ W hpre _ _=>by
    rw[hnone] at hpre
    have:=hpre.length_le
    simp at this)
  refine Go.wp_mono this ?_
  rintro e a' w2 ⟨he,h1,_,D,h2,h3,h4⟩
  exact⟨he,h1,trivial,D,h2,h3,h4⟩
def oX (S:Setting w co ex tb cb sb cap nA hA nc F fc oK oE){w':World}(h:OkS (kxS co ex) (tlS tb) w cb (.func (.func F) #[] fc.toArray) w'){i:Nat}(hi:i<8){ρ0:Ros}(hone:walkL wakeCamp (setsL 3) 2 (firstR (setW i)) 1=[ρ0]){r:Nat}(hrk:¬kbE (kxS co ex) (tlS tb) w r)
  (hr:w'.heap[r]?=some (.cells #[.int .u8 (setW i:Int),.int .u8 0,.int .u8 0,.int .u8 0,.int .u8 0] 60 (0,5)))
  (hdo:∀W:World,W.heap[tb]?=some oK->SeesO W ex->Calls uZ F (#[rosV ρ0]++fc.toArray) W λe W'=>e=.returned (.tuple #[])/\KT (λb=>b=tb) W W'/\W'.heap[tb]?=some oE) :
  KTr Tryz.prog BBc (KidQ Tryz.prog w.heap.size λw2=>∀b,tlS tb b=true->w2.heap[b]?=some oE) 0 (Go.Conc.G (Frame.enter Tryz.prog 68 (bt (w.heap.size+1) (w.heap.size+2) w.heap.size r) .deferred) [bad]) (relay (tlS tb) (λ_=>oK) w'):=by
 obtain⟨a1,a2,a3,a4,a5⟩:=S.at_ h
 have l2:w.heap.size+2<w'.heap.size:=(Array.getElem?_eq_some_iff.1 a5).1
 have ltb:tb<w.heap.size:=S.lt (.inr (by simp))
 obtain⟨W0,hW0⟩:∃W0,W0=relay (tlS tb) (λ_=>oK) w':=⟨_,rfl⟩
 have g0:∀b,b<w'.heap.size->W0.heap[b]?=if tlS tb b then some oK else w'.heap[b]?:=λb hb=>by rw[hW0];exact bz _ _ _ _ hb
 have gne:∀b,b≠tb->W0.heap[b]?=w'.heap[b]?:=λb hb=>by
  by_cases hl:b<w'.heap.size
  ·rw[g0 b hl,if_neg (by simpa using hb)]
  ·rw[Array.getElem?_eq_none (show W0.heap.size<=b by rw[hW0,bu];omega),Array.getElem?_eq_none (by omega)]
 have gtb:W0.heap[tb]?=some oK:=by rw[g0 tb (by omega),if_pos (by simp)]
 have gsz:W0.heap.size=w'.heap.size:=by rw[hW0,bu]
 rw[<-hW0]
 have nt:∀b,hasB (co++ex) b=true->b≠tb:=λb hb e=>by
  have:=S.nt
  rw[<-e,hb] at this
  cases this
 have rne:r≠tb:=λe=>hrk (.inr (.inl (by simp[e])))
 have seesW:SeesO W0 (co++ex):=λp hp=>⟨_,(gne _ (nt _ (iU hp))).trans (a1 p hp)⟩
 have hcoro:∀b,kidK co ex tb w.heap.size r b->(⟨λb=>b==w.heap.size,true,false⟩:Hid) b=true->(⟨λb=>b==w.heap.size,true,false⟩:Hid).twin=true/\W0.heap[b]?=some (.coro none):=λb _ hb=>by
  have e:b=w.heap.size:=by simpa using hb
  refine⟨rfl,?_⟩
  rw[e,gne _ (by omega)]
  exact a3
 have hlow:∀b,(⟨λb=>b==w.heap.size,true,false⟩:Hid) b=true->b<W0.heap.size:=λb hb=>by
  have e:b=w.heap.size:=by simpa using hb
  omega
 refine kI (H:=⟨λb=>b==w.heap.size,true,false⟩) (T0:=λb=>b=tb) ml (hn:=rfl) (K0:=kidK co ex tb w.heap.size r) ⟨.inr (.inr (.inr (.inl rfl))),.inr (.inr (.inr (.inr (.inl rfl)))),.inr (.inr (.inl rfl)),.inr (.inr (.inr (.inr (.inr rfl))))⟩
  hcoro hlow
  (kQ S h (qW S) hr gne λb hb=>⟨by simpa using hb,λ_=>gtb⟩) (λτ d=>?_) (λW W' hW hk b hb=>?_)
 ·have := lX (T0 := fun b => b = tb) (K := fun b => hasB co b = true) (cb := cb) (c := wakeCamp) (sets := setsL 3) (b2 := w.heap.size + 1) (b3 := w.heap.size + 2) (b4 := w.heap.size) (rb := r) (F := F) (k := 2) (fc := fc.toArray) (r := firstR (setW i)) (w := on W0 τ d)
   (Camp.Ok.of gE) im (by decide) (S.camp (on W0 τ d) seesW.left) (λb hb=>by show b<W0.heap.size;omega) (λb hb=>nt b (by rw[aT];simp[hb])) (fk i hi) (λj hj=>by unfold firstR;rw[if_neg (by omega)]) rfl
   (cell_of (W:=on W0 τ d) ((gne _ (by omega)).trans a4) 0) (λj hj=>(cell_of (W:=on W0 τ d) ((gne _ rne).trans hr) j).trans (ji _ j hj)) (cell_of (W:=on W0 τ d) ((gne _ (by omega)).trans a5) 0) ⟨by show _<W0.heap.size;omega,by omega⟩
   (λpre W=>W.heap[tb]?=some (if pre=[] then oK else oE)) (λpre W W' hp hk=>(hk tb rfl).trans hp) gtb S.cF (λpre ρ W hpre hkt hI=>by
    rw[hone] at hpre
    have hl:=hpre.length_le
    have hp:pre=[]:=by cases pre with
     |nil=>rfl
     |cons a l=>simp at hl
    subst hp
    have hρ:ρ=ρ0:=by
     obtain⟨t,ht⟩:=hpre
     simp at ht
     exact ht.1
    subst hρ
    have hex:SeesO W ex:=λp hp=>by
     obtain⟨f,hf⟩:=seesW p (List.mem_append_right _ hp)
     have hl2:=(Array.getElem?_eq_some_iff.1 hf).1
     exact⟨f,(hkt.block p.1 hl2 (by
      rintro(e|e)
      ·exact nt _ (iU (List.mem_append_right co hp)) e
      ·have e':W0.heap.size<=p.1:=e
       omega)).trans hf⟩
    refine(hdo W hI hex).mono ?_
    rintro e W' ⟨h1,h2,h3⟩
    exact⟨h1,h2,h3⟩)
  refine Go.wp_mono this ?_
  rintro e a' w2 ⟨he,h1,hI,D,h2,h3,h4⟩
  rw[hone] at hI
  exact⟨he,h1,λb hb=>by
   have e:b=tb:=by simpa using hb
   rw[e];exact hI,D,h2,h3,h4⟩
 ·have e:b=tb:=by simpa using hb
  rw[e,hk tb rfl]
  exact hW tb (by simp)
end
open Go.RowKit Go.Iso Go.Co Go.Conc Go.Sq
def rT {p:Nat->Bool}(h:scl.all p=true):∀f,SBc f=true->p f=true:=λf hf=>(List.all_eq_true.1 h) f (by simpa [SBc] using hf)
def extC (f:FuncId):Bool:=f==71||f==72||f==126||f==128
def offC (f:FuncId):Bool:=f==67||f==69||f==70||f==127||f==129
def tc:scl.all (λf=>fnOk Tryz.prog SBc true f||extC f||offC f)=true:=by kernel_rfl
def qX {f:FuncId}(h:extC f=true):ExtOk PP f:=by
 unfold extC at h
 simp only[Bool.or_eq_true,beq_iff_eq] at h
 rcases h with((rfl|rfl)|rfl)|rfl
 ·exact⟨Tryz.f71,_,Tryz.func71,Tryz.func71,by kernel_rfl,by kernel_rfl,by kernel_rfl,by kernel_rfl,.add .i64,by kernel_rfl⟩
 ·exact⟨Tryz.f72,_,Tryz.func72,Tryz.func72,by kernel_rfl,by kernel_rfl,by kernel_rfl,by kernel_rfl,.load .i64,by kernel_rfl⟩
 ·exact⟨Tryz.f126,_,Tryz.func126,Tryz.func126,by kernel_rfl,by kernel_rfl,by kernel_rfl,by kernel_rfl,.cas .i32 (by decide),by kernel_rfl⟩
 ·exact⟨Tryz.f128,_,Tryz.func128,Tryz.func128,by kernel_rfl,by kernel_rfl,by kernel_rfl,by kernel_rfl,.add .i32,by kernel_rfl⟩
def tP {P:Two}(f:FuncId)(hf:aE SBc f=true):BarOk P f:=by
 unfold aE at hf
 have h:SBc 69=true:=by decide
 rw[h,Bool.not_true,Bool.and_false,Bool.and_false] at hf
 cases hf
def lib_c (H:Hid):Lib PP SBc H true BBc 0:=by
 refine gz (λf hf=>?_) (λf hf hb=>?_) (λf hf=>?_) tP ⟨Nat.le_of_eq Tryz.globals_size,Tryz.bigF⟩
 ·simp only[BBc,Bool.and_eq_true,Bool.not_eq_true'] at hf
  have:=rT tc f hf.1
  have hoff:offC f=false:=hf.2
  simp only[hoff,Bool.or_false,Bool.or_eq_true] at this
  rcases this with h|h
  ·exact .inl ⟨h,rfl⟩
  ·exact .inr (qX h)
 ·simp only[BBc,hf,Bool.true_and,Bool.not_eq_false',Bool.or_eq_true,beq_iff_eq] at hb
  rcases hb with(((rfl|rfl)|rfl)|rfl)|rfl
  ·exact⟨_,_,Tryz.func67,Tryz.func67,rfl,by decide,by decide,rfl,rfl⟩
  ·exact⟨_,_,Tryz.func69,Tryz.func69,rfl,by decide,by decide,rfl,rfl⟩
  ·exact⟨_,_,Tryz.func70,Tryz.func70,rfl,by decide,by decide,rfl,rfl⟩
  ·exact⟨_,_,Tryz.func127,Tryz.func127,rfl,by decide,by decide,rfl,rfl⟩
  ·exact⟨_,_,Tryz.func129,Tryz.func129,rfl,by decide,by decide,rfl,rfl⟩
 ·simp only[BBc,Bool.and_eq_true] at hf
  exact hf.1
end Go.Proofs.YtjmmlkobmhlikaaGreat
