/- Parts of the proof. -/
import Derived.Test.YtjmmlkobmhlikaaGreatP21
import Derived.Test.YtjmmlkobmhlikaaGreatP01
import Derived.Test.YtjmmlkobmhlikaaGreatP00
import Derived.Shelf.Sort.Plain
set_option linter.all false
set_option maxHeartbeats 3200000
set_option maxRecDepth 1000000
namespace Go.Sq
open Go.RowKit
structure OwW (w:World)(g:Nat)(l:List Int):Prop where
 lt:g<w.heap.size
 left:∀(i:Nat) (x:Int),l[i]?=some x->w.cell? ⟨g,i*5+4,none⟩=some (.int .i64 x)
 free:∀o,w.frozen? ⟨g,o,none⟩=false
 rest:∀(i:Nat) (x:Int),l[i]?=some x->∃(n0 n1 n2:Int) (A:Option Addr) (m c:Nat),w.cell? ⟨g,i*5,none⟩=some (.int .i64 n0)/\w.cell? ⟨g,i*5+1,none⟩=some (.int .i64 n1)/\w.cell? ⟨g,i*5+2,none⟩=some (.int .i64 n2)/\w.cell? ⟨g,i*5+3,none⟩=some (.slice A m c)
def OwW.owAt {w:World}{g:Nat}{l:List Int}(h:OwW w g l):OwAt w w.heap.size (some ⟨g,0,none⟩) l:=λ_=>⟨g,0,rfl,h.lt,λi x hx=>by
 simp only[Nat.zero_add]
 exact⟨h.left i x hx,h.rest i x hx⟩⟩
def OwW.keep {w w':World}{g:Nat}{l:List Int}(h:OwW w g l)(hz:w.heap.size<=w'.heap.size)(hk:w'.heap[g]?=w.heap[g]?):OwW w' g l:=by
 have e:∀o,w'.cell? ⟨g,o,none⟩=w.cell? ⟨g,o,none⟩:=λo=>World.cell?_of_block hk
 refine⟨Nat.lt_of_lt_of_le h.lt hz,λi x hx=>(e _).trans (h.left i x hx),λo=>(World.frozen?_of_block hk).trans (h.free o),λi x hx=>?_⟩
 obtain⟨n0,n1,n2,A,m,c,h0,h1,h2,h3⟩:=h.rest i x hx
 exact⟨n0,n1,n2,A,m,c,(e _).trans h0,(e _).trans h1,(e _).trans h2,(e _).trans h3⟩
def OwW.set {w:World}{g:Nat}{l:List Int}(h:OwW w g l){k:Nat}(hk:k<l.length)(y:Int):OwW (w.setCell ⟨g,k*5+4,none⟩ (.int .i64 y)) g (l.set k y):=by
 have hz:(w.setCell ⟨g,k*5+4,none⟩ (.int .i64 y)).heap.size=w.heap.size:=by simp[World.setCell]
 have old:∀i x,(l.set k y)[i]?=some x->∃x',l[i]?=some x':=λi x hx=>by
  have:=(List.getElem?_eq_some_iff.1 hx).1
  rw[List.length_set] at this
  exact⟨_,List.getElem?_eq_getElem this⟩
 refine⟨by rw[hz];exact h.lt,λi x hx=>?_,λo=>(World.frozen?_setCell _ _ _ _).trans (h.free o),λi x hx=>?_⟩
 ·by_cases e:i=k
  ·subst e
   rw[List.getElem?_set_self hk] at hx
   cases hx
   exact World.cell?_setCell_same _ _ _ (h.left i _ (List.getElem?_eq_getElem hk))
  ·rw[List.getElem?_set_ne (Ne.symm e)] at hx
   rw[World.cell?_setCell_other _ _ _ _ (by simp<;>omega)]
   exact h.left i x hx
 ·obtain⟨x',hx'⟩:=old i x hx
  obtain⟨n0,n1,n2,A,m,c,h0,h1,h2,h3⟩:=h.rest i x' hx'
  refine⟨n0,n1,n2,A,m,c,?_,?_,?_,?_⟩
  all_goals rw[World.cell?_setCell_other _ _ _ _ (by simp<;>omega)]
  ·exact h0
  ·exact h1
  ·exact h2
  ·exact h3
def ao:List (Int×Int)->List Value
 |[]=>[]
 |p::l=>.int .i64 p.1::.int .i64 p.2::ao l
def dA (l m:List (Int×Int)):ao (l++m)=ao l++ao m:=by
 induction l with
 |nil=>rfl
 |cons p l ih=>simp[ao,ih]
def cW {l:List (Int×Int)}{i:Nat}(h:i<l.length):(ao l)[i*2]?=some (.int .i64 (l[i]?.getD (0,0)).1)/\(ao l)[i*2+1]?=some (.int .i64 (l[i]?.getD (0,0)).2):=by
 induction l generalizing i with
 |nil=>simp at h
 |cons p l ih =>
  cases i with
  |zero=>exact⟨rfl,rfl⟩
  |succ i =>
   have:=ih (i:=i) (by simpa using h)
   rw[Nat.succ_mul]
   simpa [ao] using this
end Go.Sq
namespace Go.Proofs.YtjmmlkobmhlikaaGreat
open Go.RowKit Go.Sq
def uU:(uZ.info? 70).map (λi=>(i.zero,i.size,i.bytes))=some (some (.agg #[.int .i64 0,.int .i64 0]),2,16):=by
 rw[ur];kernel_rfl
def th {w:World}{ops:Array Oper}{rest:List Oper}{o:Oper}{a:Act}{Q:Exit->Act->World->Prop}(hgd:o.guard=none)(s x:Operand)(ho:o.op=.call { callee:=.builtin .append,args:=#[s,x],argTypes:=#[65,65] })
  (base:Nat) (v:Value) (n:Nat) (xs:List Value) (hs:a.eval s=v) (hown:w.ownsRow base 70 2 v n xs) (ad:Addr) (c:Nat) (u1 u2:Value) (hx:a.eval x=.slice (some ad) 1 c) (hc1:w.cell? (ad.add 0)=some u1) (hc2:w.cell? (ad.add 1)=some u2) (h1:u1.oneCell'=true) (h2:u2.oneCell'=true)
  (hn:n<=1048576) (hbase:base<=w.heap.size) (h:∀v' w',w'.ownsRow base 70 2 v' (n+1) (xs++[u1,u2])->w.grownBy w' v.ownBlock->w.drawn<=w'.drawn->wpList uZ ops Q rest (a.put o.dst v') w'):wpList uZ ops Q (o::rest) a w:=by
 obtain⟨i0,hi,hz0,hz1,hz2⟩:=info_parts uU
 refine wpList_append_gr hgd s x 65 ho base 70 i0 _ 2 16 ((Sq.underlying 65).trans Tryz.underlying65) hi hz0 hz1 hz2 rfl (by decide) v n xs hs hown ad 1 c [u1,u2] hx rfl (λj u hj=>?_) (λu hu=>?_) (by unfold maxLen;omega) (by omega) hbase h
 ·match j,hj with
  |0,hj=>cases hj;exact hc1
  |1,hj=>cases hj;exact hc2
 ·simp only[List.mem_cons,List.not_mem_nil,or_false] at hu
  rcases hu with rfl|rfl
  ·exact h1
  ·exact h2
def fp (cb:Nat)(nA hA A:Option Addr)(nc hc wc:Nat)(c:Camp)(r:Ros)(ws:List Int)(w:World)(h:CampP w w.heap.size cb c nA hA nc hc)(hok:c.Ok)(hr:∀i,c.has (r i))(hws:∀x∈ws,0<=x/\x<=60)(hw5:ws.length<=5)(hw:RI w w.heap.size A ws) :
  Calls uZ 20 #[.pointer (some ⟨cb,0,none⟩),rosV r,.slice A ws.length wc] w λe w'=>∃v,e=.returned v/\w'.ownsRow (w.heap.size+1) 70 2 v (lossesL c r ws).length (ao (lossesL c r ws))/\Gr w w':=by
 obtain⟨W0,hW0⟩:∃W0:World,W0=w.alloc (.cells #[.int .u8 (r 0),.int .u8 (r 1),.int .u8 (r 2),.int .u8 (r 3),.int .u8 (r 4)] 60):=⟨_,rfl⟩
 have hg0:Gr w W0:=hW0▸(Gr.refl w).alloc _
 have hz0:W0.heap.size=w.heap.size+1:=by rw[hW0];simp
 have hcp:CampP W0 W0.heap.size cb c nA hA nc hc:=h.on hg0
 have HOWN:=ui (qC cb nA hA nc hc c W0 W0.heap.size (Nat.le_refl _) hcp (by have:=hok.h4;omega))
 have HCP:=ui hcp
 have HRC:Hid (∀i,i<5->W0.cell? ⟨w.heap.size,i,none⟩=some (.int .u8 (r i:Nat))):=ui λi hi=>by
  rw[hW0,World.cell?_alloc_at _ _ _ _ (by simp)]
  match i,hi with
  |0,_=>rfl
  |1,_=>rfl
  |2,_=>rfl
  |3,_=>rfl
  |4,_=>rfl
 have HRI:=ui (hw.gr (Nat.le_refl _) hg0)
 have HW:=ui hW0
 have HG0:=ui hg0
 have HOK:=ui hok
 have HR:=ui hr
 have HWS:=ui hws
 clear hW0 hg0 hcp h hok hr hws hw
 unfold rosV
 go_enter Sq.func20,Tryz.ntmps20
 go_wp2_with fail
 rw[<-HW.out]
 refine HOWN.out.mono ?_
 rintro e w1 ⟨v1,xs,rfl,hown,hg1,hxs⟩
 have h1:=HOK.out.h1
 obtain⟨g,cap,rfl,hgl⟩:∃g cap,v1=.slice (some ⟨g,0,none⟩) c.herders.length cap/\W0.heap.size<=g:=by
  rcases hown.2 with⟨_,h0⟩|⟨g,cap,cur,rfl,h2,_⟩
  ·omega
  ·exact⟨g,cap,rfl,h2⟩
 have hoW:OwW w1 g (lossAll c r ws 0).1:=by
  have hl0:(lossAll c r ws 0).1=c.herders.map (·.heads):=rfl
  have hcell:=hown.cells (g:=g) rfl
  have e5:∀i x,(lossAll c r ws 0).1[i]?=some x->∃A m,x=(c.h i).heads/\∀j,j<5->∀u,(owCells (c.h i) A m)[j]?=some u->w1.cell? ⟨g,i*5+j,none⟩=some u:=λi x hx=>by
   rw[hl0] at hx
   have hil:i<c.herders.length:=by have:=(List.getElem?_eq_some_iff.1 hx).1;simpa using this
   obtain⟨A',m,hh⟩:=hxs i hil
   refine⟨A',m,?_,λj hj u hu=>?_⟩
   ·rw[List.getElem?_map,List.getElem?_eq_getElem hil] at hx
    cases hx
    unfold Camp.h;rw[List.getElem?_eq_getElem hil];rfl
   ·have:=hcell (i*5+j) u ((hh j hj).trans hu)
    have e:(⟨g,0,none⟩:Addr).add (i*5+j)=⟨g,0+(i*5+j),none⟩:=by unfold Addr.add;split<;>simp_all
    rw[e,Nat.zero_add] at this
    exact this
  refine⟨(hown.lt g rfl).2,λi x hx=>?_,λo=>?_,λi x hx=>?_⟩
  ·obtain⟨A',m,rfl,hc⟩:=e5 i x hx
   exact hc 4 (by omega) _ rfl
  ·rcases hown.2 with⟨hb,_⟩|⟨g2,cap2,cur,e2,_,hb,_⟩
   ·cases hb
   ·have e3:g=g2:=by injection e2 with a;injection a with a;injection a
    subst e3
    unfold World.frozen?
    rw[hb]
    simp
  ·obtain⟨A',m,rfl,hc⟩:=e5 i x hx
   exact⟨_,_,_,_,_,_,hc 0 (by omega) _ rfl,hc 1 (by omega) _ rfl,hc 2 (by omega) _ rfl,hc 3 (by omega) _ rfl⟩
 have HOW:=ui hoW
 have HG1:=ui hg1
 have hg1s:=(hown.lt g rfl).2
 have hz1:=hg1.size
 clear hown hg1 hxs hoW HOWN
 go_wp2
 go_loopw [7,16] (λv i wr=>∃k:Nat,k<=ws.length/\i=.int .i64 k/\Gr W0 wr/\OwW wr g (lossAll c r ws k).1/\wr.ownsRow w1.heap.size 70 2 v (lossAll c r ws k).2.length (ao (lossAll c r ws k).2)/\w1.heap.size<=wr.heap.size) (λ_ i _=>ws.length-(intOf i).toNat)
 case atStart=>exact⟨0,by omega,rfl,HG1.out,HOW.out,World.ownsRow_nil _ _ _ _,Nat.le_refl _⟩
 case round =>
  obtain⟨wq,rfl⟩:∃wq,wq=wr:=⟨_,rfl⟩
  obtain⟨k,hk,rfl,hgr,hoq,hown,hzq⟩:=hrel
  have HGR:=ui hgr
  have HOQ:=ui hoq
  have HON:=ui hown
  by_cases hlt:k<ws.length
  ·obtain⟨b,o,rfl,hb,hcw⟩:=(HRI.out.gr (by omega) hgr).at_ hlt
   have hrc:wq.cell? ⟨w.heap.size,k,none⟩=some (.int .u8 (r k:Nat)):=(hgr.cell (by show w.heap.size<_;omega)).trans (HRC.out k (by omega))
   have HD:=ui (n7 cb c (r k) wq (HCP.out.on hgr) HOK.out.h4 HOK.out.dogs (HR.out k))
   have hdb:=dogs_bd c (HR.out k) HOK.out.dogs (c.dogL (r k)).length
   rw[List.take_length,<-uL] at hdb
   have hx:=HWS.out _ (mem_get ws k hlt)
   have HTM:=ui (show tooMany c r ws k=(ws[k]?.getD 0-c.dogs (r k)).toNat from rfl)
   obtain⟨T,hT⟩:∃T,T=tooMany c r ws k:=⟨_,rfl⟩
   rw[<-hT] at HTM
   have HTT:=ui hT
   have hok2:=LossOk.all HOK.out (r:=r) (ws:=ws) (Nat.le_refl _) k hk
   have HLO:=ui hok2
   generalize c.dogs (r k)=D at HD hdb HTM
   generalize ws[k]?.getD 0=x at hcw hx HTM
   have hmax:(max 0 (x-D):Int)=(T:Int):=by rw[HTM.out];omega
   have hmax':(if(x-D)<0 then(0:Int) else x-D)=(T:Int):=by rw[HTM.out];split<;>omega
   have hT60:T<=60:=by rw[HTM.out];omega
   clear hgr hoq hown hT hok2
   go_wp2_with fail
   refine HD.out.mono ?_
   rintro e w2 ⟨rfl,hg2⟩
   have HG2:=ui (HGR.out.trans hg2)
   have hg2':=hg2
   have hz2:=hg2.size
   have HOQ2:=ui (HOQ.out.keep hg2.size (hg2.below.block g HOQ.out.lt))
   have HON2:=ui (own_keep HON.out λq _ hl=>hg2.below.block q hl)
   have hgT:(T:Int)<=60:=by omega
   clear hg2 hg2' HD
   go_wp2
   go_loopw [7,29] (λv i wr=>∃m:Nat,m<=T/\i=.int .i64 m/\Gr W0 wr/\OwW wr g (lossIt k (lossAll c r ws k) m).1/\wr.ownsRow w1.heap.size 70 2 v (lossIt k (lossAll c r ws k) m).2.length (ao (lossIt k (lossAll c r ws k) m).2)/\w1.heap.size<=wr.heap.size) (λ_ i _=>T-(intOf i).toNat)
   case atStart=>exact⟨0,by omega,rfl,HG2.out,HOQ2.out,HON2.out,by omega⟩
   case round =>
    obtain⟨m,hm,rfl,hgi,hoi,honi,hzi⟩:=hrel
    have HGI:=ui hgi
    have HOI:=ui hoi
    have HONI:=ui honi
    clear hgi hoi honi
    by_cases hlm:m<T
    ·have hlo:=HLO.out.it (d:=k) hlt m
     have HLI:=ui hlo
     obtain⟨S,hS⟩:∃S,S=lossIt k (lossAll c r ws k) m:=⟨_,rfl⟩
     have HS1:Hid (lossIt k (lossAll c r ws k) (m+1)=lossStep k S):=ui (by rw[hS];rfl)
     rw[<-hS] at HOI HONI HLI
     have HST:=ui (λh:mostN S.1 S.1.length<0=>(lG (c:=c) (r:=r) (ws:=ws) (k:=k) (m:=m) hlt (by rw[<-HTT.out];omega) (by rw[<-hS];exact h)).trans (by rw[<-hS]))
     have HMOST:=ui (tf (some ⟨g,0,none⟩) cap S.1 wr wr.heap.size (Nat.le_refl _) HOI.out.owAt (by rw[HLI.out.len];have:=HOK.out.h4;omega))
     have hlen:=HLI.out.len
     have HCNT:=ui (show S.2.length<=160 by
      have h1:=sum_bound 0 40 _ HLI.out.low
      have h2:=HLI.out.count
      omega)
     have hml:=fm S.1 S.1.length
     have HSTEP:Hid (lossStep k S=if mostN S.1 S.1.length<0 then S else(S.1.set (mostN S.1 S.1.length).toNat (S.1[(mostN S.1 S.1.length).toNat]?.getD 0-1),S.2++[((k:Int),mostN S.1 S.1.length)])):=ui rfl
     rw[hlen] at HMOST HST HSTEP hml
     have hS':=ui hS
     clear hS hlo
     generalize mostN S.1 c.herders.length=q at HMOST HST HSTEP hml
     by_cases hq:q<0
     ·have HLL:=ui (HST.out hq)
      have hqd:decide (q<0)=true:=by simpa using hq
      clear HST HSTEP
      go_wp2_with fail
      refine HMOST.out.mono ?_
      rintro e w3 ⟨rfl,hg3⟩
      have HG3:=ui hg3
      have HON3:=ui (own_keep HONI.out λq _ hl=>hg3.below.block q hl)
      clear hg3 HMOST
      go_wp2
      go_ret
      refine⟨_,rfl,?_,HG0.out.trans (HGI.out.trans HG3.out)⟩
      rw[HLL.out]
      exact cD HON3.out (by omega)
     ·obtain⟨j,rfl⟩:∃j:Nat,q=j:=⟨q.toNat,by omega⟩
      have HSS:=ui (HS1.out.trans (HSTEP.out.trans (if_neg hq)))
      rw[Int.toNat_natCast] at HSS
      have hjl:j<S.1.length:=by omega
      have hlow:=HLI.out.low _ (mem_get S.1 j hjl)
      have HLF:=ui (HOI.out.left j _ (List.getElem?_eq_getElem hjl))
      have hqd:decide ((j:Int)<0)=false:=by simp
      clear HST HSTEP HS1 hq
      go_wp2_with fail
      refine HMOST.out.mono ?_
      rintro e w3 ⟨rfl,hg3⟩
      have HG3:=ui hg3
      have hb3:=hg3.below.block g HOI.out.lt
      have HON3:=ui (own_keep HONI.out λq _ hl=>hg3.below.block q hl)
      have HOW3:=ui (HOI.out.keep hg3.size hb3)
      have hz3:=hg3.size
      have hcell:w3.cell? ⟨g,j*5+4,none⟩=some (.int .i64 (S.1[j]?.getD 0)):=by
       rw[List.getElem?_eq_getElem hjl];exact HOW3.out.left j _ (List.getElem?_eq_getElem hjl)
      have hfz:=HOW3.out.free (j*5+4)
      have HX:Hid (OwW (w3.setCell ⟨g,j*5+4,none⟩ (.int .i64 (S.1[j]?.getD 0-1))) g (S.1.set j (S.1[j]?.getD 0-1))):=ui (HOW3.out.set hjl _)
      generalize S.1[j]?.getD 0=y at hlow hcell HX HSS
      have hjh:j<c.herders.length:=by omega
      have hglt:g<w3.heap.size:=HOW3.out.lt
      have hgz:g<w1.heap.size:=hg1s
      clear hg3 HMOST
      go_wp2_with (at_builtin;refine th rfl _ _ rfl w1.heap.size _ _ _ rfl ((ownsRow_setCell_below HON3.out (by show g<_;omega) _).alloc _) ⟨w3.heap.size,0,none⟩ 1 (.int .i64 k) (.int .i64 j) rfl ?c1 ?c2 rfl rfl ?c3 ?c4 ?_)
      case c1=>rw[Addr.add_lit,World.cell?_alloc_at _ _ _ _ (by simp)];rfl
      case c2=>rw[Addr.add_lit,World.cell?_alloc_at _ _ _ _ (by simp)];rfl
      case c3=>have:=HCNT.out;omega
      case c4=>simp;omega
      intro v' w4 hown' hgrow hd
      have hsz4:=hgrow.size
      simp only[World.size_alloc] at hsz4
      have hGr4:Gr W0 w4:=(((HGI.out.trans HG3.out).setCell (p:=⟨g,j*5+4,none⟩) (by show _<=g;omega) (.int .i64 (y-1))).alloc _).grown hgrow hd λq hq=>by have:=(HON3.out.lt q hq).1;omega
      have hne:some g≠_:=dv HON3.out hgz
      have hbk:=(hgrow.block g (by simp[World.setCell];omega) hne).trans (heap_alloc_old _ _ (by simp[World.setCell];omega))
      have HOW4:=ui (HX.out.keep (w':=w4) (by simp[World.setCell] at hsz4 ⊢;omega) hbk)
      have HGR4:=ui hGr4
      have HLEN4:Hid ((lossIt k (lossAll c r ws k) (m+1)).2.length=S.2.length+1/\ao (lossIt k (lossAll c r ws k) (m+1)).2=ao S.2++[.int .i64 k,.int .i64 j]):=ui (by rw[HSS.out,dA];exact⟨by simp,rfl⟩)
      have HO4:Hid (w4.ownsRow w1.heap.size 70 2 v' (lossIt k (lossAll c r ws k) (m+1)).2.length (ao (lossIt k (lossAll c r ws k) (m+1)).2)):=ui (by rw[HLEN4.out.1,HLEN4.out.2];exact hown')
      have HX4:Hid (OwW w4 g (lossIt k (lossAll c r ws k) (m+1)).1):=ui (by rw[HSS.out];exact HOW4.out)
      have hz4:w1.heap.size<=w4.heap.size:=by simp[World.setCell] at hsz4;omega
      clear hown' hgrow hd hGr4 hbk hne hsz4
      go_wp2
      go_roundw
      case rel=>exact⟨m+1,by omega,by go_num,HGR4.out,HX4.out,HO4.out,hz4⟩
      case measure=>simp[intOf];omega
    ·have hmt:m=T:=by omega
     have HE:Hid (lossAll c r ws (k+1)=lossIt k (lossAll c r ws k) m):=ui (by rw[hmt,HTT.out];rfl)
     rw[<-HE.out] at HOI HONI
     subst hmt
     go_wp2
     go_roundw
     case rel=>exact⟨k+1,by omega,by go_num,HGI.out,HOI.out,HONI.out,hzi⟩
     case measure=>simp[intOf];omega
  ·have hkn:k=ws.length:=by omega
   subst hkn
   go_wp2
   go_ret
   exact⟨_,rfl,cD HON.out (by omega),HG0.out.trans HGR.out⟩
end Go.Proofs.YtjmmlkobmhlikaaGreat
namespace Go.Sq
def RsAt_of_own {w:World}{base:Nat}{v:Value}{l:List (Int×Int)}(h:w.ownsRow base 70 2 v l.length (ao l)):∃A c,v=.slice A l.length c/\RsAt w w.heap.size A l:=by
 rcases h.2 with⟨rfl,h0⟩|⟨g,cap,cur,rfl,_,hg,_⟩
 ·have:l=[]:=List.eq_nil_of_length_eq_zero h0
  subst this
  exact⟨none,0,rfl,λh=>absurd rfl h⟩
 ·refine⟨_,cap,rfl,λ_=>⟨g,0,rfl,(Array.getElem?_eq_some_iff.1 hg).1,λi x hx=>?_⟩⟩
  have hi:=(List.getElem?_eq_some_iff.1 hx).1
  have hx':l[i]?.getD (0,0)=x:=by rw[hx];rfl
  have e:∀j,(⟨g,0,none⟩:Addr).add j=⟨g,0+j,none⟩:=λj=>by unfold Addr.add;split<;>simp_all
  have h1:=h.cells (g:=g) rfl _ _ (cW hi).1
  have h2:=h.cells (g:=g) rfl _ _ (cW hi).2
  rw[e,hx'] at h1 h2
  exact⟨h1,by rw[Nat.add_assoc];exact h2⟩
def RsK (w:World)(K:Nat->Prop)(A:Option Addr)(l:List (Int×Int)):Prop :=
 l≠[]->∃b o,A=some ⟨b,o,none⟩/\K b/\∀(i:Nat) (x:Int×Int),l[i]?=some x->w.cell? ⟨b,o+i*2,none⟩=some (.int .i64 x.1)/\w.cell? ⟨b,o+i*2+1,none⟩=some (.int .i64 x.2)
def RsK_of_own {w:World}{base:Nat}{v:Value}{l:List (Int×Int)}(h:w.ownsRow base 70 2 v l.length (ao l)):∃A c,v=.slice A l.length c/\RsK w (λb=>base<=b/\b<w.heap.size) A l:=by
 obtain⟨A,c,rfl,h2⟩:=RsAt_of_own h
 refine⟨A,c,rfl,λhn=>?_⟩
 obtain⟨b,o,rfl,hb,hc⟩:=h2 hn
 exact⟨b,o,rfl,⟨(h.lt b rfl).1,hb⟩,hc⟩
def RIK_of_own {w:World}{base:Nat}{v:Value}{l:List Int}(h:w.ownsRow base 3 1 v l.length (l.map (Value.int .i64))):∃A c,v=.slice A l.length c/\RIK w (λb=>base<=b/\b<w.heap.size) A l:=by
 obtain⟨A,c,rfl,h2⟩:=uq h
 refine⟨A,c,rfl,λhn=>?_⟩
 obtain⟨b,o,rfl,hb,hc⟩:=h2 hn
 exact⟨b,o,rfl,⟨(h.lt b rfl).1,hb⟩,hc⟩
def KP (n:Nat)(bl:Nat->Nat)(w w':World):Prop:=w.heap.size<=w'.heap.size/\∀b,b<w.heap.size->(∀h,h<n->bl h≠b)->w'.heap[b]?=w.heap[b]?
section
variable {n:Nat} {bl:Nat->Nat} {w w' w2:World}
def KP.refl (n:Nat)(bl:Nat->Nat)(w:World):KP n bl w w:=⟨Nat.le_refl _,λ_ _ _=>rfl⟩
def KP.trans (h:KP n bl w w')(k:KP n bl w' w2):KP n bl w w2:=⟨Nat.le_trans h.1 k.1,λb hb hk=>(k.2 b (Nat.lt_of_lt_of_le hb h.1) hk).trans (h.2 b hb hk)⟩
def KP.gr (h:Gr w w'):KP n bl w w':=⟨h.size,λb hb _=>h.below.block b hb⟩
def KP.set {a:Nat}(ha:a<n)(t:Nat)(v:Value):KP n bl w (w.setCell ⟨bl a,t,none⟩ v):=⟨by simp[World.setCell],λb _ hk=>by rw[Go.Iso.setCell_get];exact if_neg (λe=>hk a ha e.symm)⟩
def KP.drew (h:KP n bl w w'):KP n bl w w'.drew:=h
def KP.cell (h:KP n bl w w'){b:Nat}(hb:b<w.heap.size)(hk:∀h,h<n->bl h≠b)(o:Nat):w'.cell? ⟨b,o,none⟩=w.cell? ⟨b,o,none⟩:=World.cell?_of_block (h.2 b hb hk)
end
def owesM (p:Int)(r:Ros)(ls:List (Int×Int))(k i h t:Nat):Int :=
 owesK p r ls h t k+if(ls[k]?.getD (0,0)).2=t/\h≠t then partK p (wl (r (ls[k]?.getD (0,0)).1.toNat)) h i else 0
def nv (p:Int)(r:Ros)(ls:List (Int×Int))(k h t:Nat):owesM p r ls k 0 h t=owesK p r ls h t k:=by unfold owesM partK;split<;>simp
def pk (p:Int)(r:Ros)(ls:List (Int×Int))(k h t:Nat):owesM p r ls k (wl (r (ls[k]?.getD (0,0)).1.toNat)).length h t=owesK p r ls h t (k+1):=rfl
def partI (p:Int)(n i:Nat):Int:=p / n+(if(i:Int)<p % n then 1 else 0)
def ny (p:Int)(r:Ros)(ls:List (Int×Int))(k i h t:Nat):owesM p r ls k (i+1) h t =
  owesM p r ls k i h t+if(ls[k]?.getD (0,0)).2=t/\h≠t/\(wl (r (ls[k]?.getD (0,0)).1.toNat))[i]?.getD 0=h then partI p (wl (r (ls[k]?.getD (0,0)).1.toNat)).length i else 0:=by
 unfold owesM partI
 by_cases h1:(ls[k]?.getD (0,0)).2=t/\h≠t
 ·rw[if_pos h1,if_pos h1]
  by_cases h2:(wl (r (ls[k]?.getD (0,0)).1.toNat))[i]?.getD 0=h
  ·rw[if_pos ⟨h1.1,h1.2,h2⟩]
   show _+(_+if _ then _ else _)=_
   rw[if_pos h2];omega
  ·rw[if_neg (λh=>h2 h.2.2)]
   show _+(_+if _ then _ else _)=_
   rw[if_neg h2];omega
 ·rw[if_neg h1,if_neg h1,if_neg (λh=>h1 ⟨h.1,h.2.1⟩)];omega
def qD {p:Int}(hp:0<=p/\p<=99)(r:Ros)(ls:List (Int×Int))(k i h t:Nat):0<=owesM p r ls k i h t/\owesM p r ls k i h t<=400*k+100*i:=by
 have h1:=kU hp r ls h t k
 have h2:=kT hp (wl (r (ls[k]?.getD (0,0)).1.toNat)) h i
 unfold owesM
 split<;>omega
end Go.Sq
namespace Go.Proofs.YtjmmlkobmhlikaaGreat
open Go.RowKit Go.Sq
def qZ {w:World}{ops:Array Oper}{rest:List Oper}{o:Oper}{a:Act}{Q:Exit->Act->World->Prop}(hgd:o.guard=none)(s x:Operand)(ho:o.op=.call { callee:=.builtin .append,args:=#[s,x],argTypes:=#[29,29] })
  (base:Nat) (v:Value) (n:Nat) (xs:List Value) (hs:a.eval s=v) (hown:w.ownsRow base 22 1 v n xs) (ad:Addr) (c:Nat) (u:Value) (hx:a.eval x=.slice (some ad) 1 c) (hc:w.cell? (ad.add 0)=some u) (h1:u.oneCell'=true)
  (hn:n<=1048576) (hbase:base<=w.heap.size) (h:∀v' w',w'.ownsRow base 22 1 v' (n+1) (xs++[u])->w.grownBy w' v.ownBlock->w.drawn<=w'.drawn->wpList uZ ops Q rest (a.put o.dst v') w'):wpList uZ ops Q (o::rest) a w:=by
 obtain⟨i0,hi,hz0,hz1,hz2⟩:=info_parts uI
 refine wpList_append_gr hgd s x 29 ho base 22 i0 _ 1 24 ((Sq.underlying 29).trans Tryz.underlying29) hi hz0 hz1 hz2 rfl (by decide) v n xs hs hown ad 1 c [u] hx rfl (λj u hj=>?_) (λu' hu=>?_) (by unfold maxLen;omega) (by omega) hbase h
 ·match j,hj with
  |0,hj=>cases hj;exact hc
 ·simp only[List.mem_cons,List.not_mem_nil,or_false] at hu
  subst hu;exact h1
def tj (nA hA gA rA:Option Addr)(nc hc gc rc:Nat)(c:Camp)(ls:List (List Int))(rs:List (Int×Int))(p:Int)(w:World)(B:Nat)(hB:B<=w.heap.size)(hn:RI w B nA c.needs)(hh:HsAt w B hA c.herders)(hg:GrAt w B gA ls)(hr:RsAt w B rA rs)
  (hl1:c.needs.length<=4611686018427387904) (hl2:c.herders.length<=4611686018427387904) (hlo:∀h∈c.herders,h.off.length<=4611686018427387904) (hl3:ls.length<=4611686018427387904) (hl4:∀x∈ls,x.length<=4611686018427387904) (hl5:rs.length<=4611686018427387904) (hrc:rs.length<=rc)
  (hF:formedE c ls=0) (hR:dx c.needs.length rs=0) (hp:0<=p/\p<=99) :
  Calls uZ 62 #[campV nA hA c nc hc,.slice gA ls.length gc,.slice rA rs.length rc,.int .i64 p] w λe w'=>Gr w w'/\∃A k,e=.returned (.tuple #[.slice A c.herders.length k,.int .i64 0]) /\
   GrAt w' w'.heap.size A (owesL c (rosOf ls) p (wolvesL c.needs.length rs rs.length)):=by
 unfold campV
 obtain⟨W0,hW0⟩:∃W0:World,W0=w.alloc (.cells #[.slice nA c.needs.length nc,.slice hA c.herders.length hc] 27):=⟨_,rfl⟩
 have hg0:Gr w W0:=hW0▸(Gr.refl w).alloc _
 have hz0:W0.heap.size=w.heap.size+1:=by rw[hW0];simp
 have HW:=ui hW0
 have hrd:=kW nA hA gA rA nc hc gc rc c ls rs W0 B (by omega) (hn.gr hB hg0) (hh.keep λb o hb=>hg0.cell (Nat.lt_of_lt_of_le hb hB)) (hg.gr hB hg0) (hr.gr hB hg0) hl1 hl2 hlo hl3 hl4 hl5 hrc hF hR
 unfold campV at hrd
 have HRD:=ui hrd
 have HG0:=ui hg0
 have HC1:Hid (W0.cell? ⟨w.heap.size,1,none⟩=some (.slice hA c.herders.length hc)):=ui (by rw[hW0,World.cell?_alloc_at _ _ _ _ rfl];rfl)
 have HFE:=ui hF
 have HOK:=ui (Camp.Ok.of (show checkE c=0 by
  have:=hF
  unfold formedE at this
  split at this
  ·exact absurd this (by assumption)
  ·simpa using ‹¬checkE c≠0›))
 have HRZ:=ui (gi hR)
 have HBT:Hid (∀W,Calls uZ 19 #[.int .i64 p,.int .i64 0,.int .i64 99] W λe w'=>e=.returned (.bool true)/\W=w'):=ui λW=>by
  have:inR p 0 99=true:=by simp[inR];omega
  rw[<-this];exact aZ _ _ _ W
 clear hW0 hg0 hrd hn hh hg hr hl4 hlo hF hR
 go_enter Sq.func62,Tryz.ntmps62
 go_wp2_with fail
 rw[<-HW.out]
 refine HRD.out.mono ?_
 rintro e w1 ⟨hg1,cb,A,ka,rfl,hcp,hri⟩
 obtain⟨W1,hW1⟩:∃W1:World,W1=w1.alloc (.cells #[.int .u8 (rosOf ls 0),.int .u8 (rosOf ls 1),.int .u8 (rosOf ls 2),.int .u8 (rosOf ls 3),.int .u8 (rosOf ls 4)] 59):=⟨_,rfl⟩
 have hg1':Gr w1 W1:=hW1▸(Gr.refl w1).alloc _
 have hz1:W1.heap.size=w1.heap.size+1:=by rw[hW1];simp
 have hzz:=hg1.size
 have HG1:=ui (hg1.trans hg1')
 have HCP:=ui (hcp.on hg1')
 have HRI:=ui (hri.gr (Nat.le_refl _) hg1')
 have HRC:Hid (∀i,i<5->W1.cell? ⟨w1.heap.size,i,none⟩=some (.int .u8 (rosOf ls i:Nat))):=ui λi hi=>by
  rw[hW1,World.cell?_alloc_at _ _ _ _ (by simp)]
  match i,hi with
  |0,_=>rfl
  |1,_=>rfl
  |2,_=>rfl
  |3,_=>rfl
  |4,_=>rfl
 have hc1:w1.cell? ⟨w.heap.size,1,none⟩=some (.slice hA c.herders.length hc):=(hg1.cell (by show w.heap.size<_;omega)).trans HC1.out
 have hwl:w.heap.size<w1.heap.size:=by omega
 have hh4:=HOK.out.h4
 have hh1:=HOK.out.h1
 have hmk:=λw=>ge c.herders.length w (by omega)
 have HW1:=ui hW1
 clear hg1 hcp hri hg1' HRD hW1
 unfold rosV
 go_wp2_with fail
 rw[<-HW1.out]
 refine(HBT.out _).mono ?_
 rintro e w' ⟨rfl,rfl⟩
 rw[HW1.out]
 go_wp2
 rw[<-HW1.out]
 have hwl2:w.heap.size<W1.heap.size/\w1.heap.size<W1.heap.size:=by omega
 have HZ1:=ui hz1
 clear hc1 hz1
 have hc1:=ui ((HG1.out.cell (p:=⟨w.heap.size,1,none⟩) (by show w.heap.size<_;omega)).trans HC1.out)
 go_loopw [14,39] (λv i wr=>∃k:Nat,k<=c.herders.length/\i=.int .i64 k/\Gr W1 wr/\∃bl,Tab wr W1.heap.size v c.herders.length k (λ_ _=>0) bl) (λ_ i _=>c.herders.length-(intOf i).toNat)
 case atStart=>exact⟨0,by omega,rfl,.refl _,λ_=>0,.nil _ _ _ _ _⟩
 case round =>
  obtain⟨k,hk,rfl,hgr,bl,htab⟩:=hrel
  have HGR:=ui hgr
  have HT:=ui htab
  have hc1:=(hgr.cell (p:=⟨w.heap.size,1,none⟩) (by show w.heap.size<_;omega)).trans hc1.out
  have hgz:=hgr.size
  clear hgr htab
  by_cases hlt:k<c.herders.length
  ·obtain⟨xs,hrow,hxs⟩:=HT.out.row
   have HXS:=ui hxs
   have HROW:=ui hrow
   clear hxs
   have hlt1:w.heap.size<wr.heap.size:=by omega
   go_wp2_with (at_builtin;refine qZ rfl _ _ rfl W1.heap.size _ _ _ rfl ((hrow.alloc _).alloc _) ⟨wr.heap.size+1,0,none⟩ 1 (.slice (some ⟨wr.heap.size,0,none⟩) c.herders.length c.herders.length) rfl ?c1 rfl ?c2 ?c3 ?_)
   case c1=>rw[Addr.add_lit,World.cell?_alloc_at _ _ _ _ (by simp)];rfl
   case c2=>omega
   case c3=>simp;omega
   intro v' w3 hown' hgrow hd
   have HG3:=ui (((HGR.out.alloc _).alloc _).grown hgrow hd λq hq=>(hrow.lt q hq).1)
   have HT3:=ui (HT.out.push (q:=wr.heap.size) HROW.out HXS.out (by omega) (Nat.le_refl _) (λb hb=>(heap_alloc_old _ _ (by simp;omega)).trans (heap_alloc_old _ _ hb)) ((heap_alloc_old _ _ (by simp)).trans (heap_alloc_new _ _)) (λt ht=>dw _ _ ht) (by simp;omega) hgrow hown')
   clear hown' hgrow hd hrow
   go_wp2
   go_roundw
   case rel=>exact⟨k+1,by omega,by go_num,HG3.out,_,HT3.out⟩
   case measure=>simp[intOf];omega
  ·have hkn:k=c.herders.length:=by omega
   subst hkn
   obtain⟨g,hv,hgl,_⟩:∃g,(∃cap,u14=.slice (some ⟨g,0,none⟩) c.herders.length cap)/\g<wr.heap.size/\True:=by
    obtain⟨xs,h1,h2⟩:=HT.out.row
    rcases h1.2 with⟨_,h0⟩|⟨g,cap,cur,hv,_,k2,_⟩
    ·omega
    ·exact⟨g,⟨cap,hv⟩,(Array.getElem?_eq_some_iff.1 k2).1,trivial⟩
   obtain⟨cap,rfl⟩:=hv
   have hws:∀x∈wolvesL c.needs.length rs rs.length,0<=x/\x<=60:=λx hx=>by
    obtain⟨j,_,rfl⟩:=List.mem_map.1 hx
    exact gQ HRZ.out _ _ (Nat.le_refl _)
   have hlos:=fp cb nA hA A nc hc ka c (rosOf ls) (wolvesL c.needs.length rs rs.length) wr (HCP.out.on HGR.out) HOK.out (cJ HFE.out) hws (by rw[bi];exact HOK.out.n5) ((HRI.out.gr (by omega) HGR.out).more (by omega))
   rw[bi] at hlos
   have hll:=bM HOK.out (rosOf ls) (wolvesL c.needs.length rs rs.length)
   have HLN:Hid (∀q∈lossesL c (rosOf ls) (wolvesL c.needs.length rs rs.length),0<=q.1/\q.1<c.needs.length/\0<=q.2/\q.2<c.herders.length):=ui λq hq=>by
    have:=(gh HOK.out (rosOf ls) (wolvesL c.needs.length rs rs.length)).night q hq
    rwa [bi] at this
   have HOL:Hid (owesL c (rosOf ls) p (wolvesL c.needs.length rs rs.length)=tabL c.herders.length λh t=>owesK p (rosOf ls) (lossesL c (rosOf ls) (wolvesL c.needs.length rs rs.length)) h t (lossesL c (rosOf ls) (wolvesL c.needs.length rs rs.length)).length):=ui rfl
   obtain⟨L,hL⟩:∃L,L=lossesL c (rosOf ls) (wolvesL c.needs.length rs rs.length):=⟨_,rfl⟩
   rw[<-hL] at hlos hll HLN HOL
   clear hL
   have HLOS:=ui hlos
   have hrc:∀i,i<5->wr.cell? ⟨w1.heap.size,i,none⟩=some (.int .u8 (rosOf ls i:Nat)):=λi hi=>(HGR.out.cell (by show w1.heap.size<_;omega)).trans (HRC.out i hi)
   obtain⟨a0,a1,a2,a3,a4⟩:=RosC5 hrc
   clear hlos hrc hws
   unfold rosV at HLOS
   go_wp2_with fail
   refine HLOS.out.mono ?_
   rintro e w2 ⟨v,rfl,hown2,hg2⟩
   obtain⟨A2,k2,rfl,hrs⟩:=RsK_of_own hown2
   have HRS:=ui hrs
   have HG2:=ui (HGR.out.trans hg2)
   have HT2:=ui ((HT.out.gr hg2).congr (M':=λh t=>owesK p (rosOf ls) L h t 0) λa t _ _=>rfl)
   have HBL:Hid (∀h,h<c.herders.length->bl h<wr.heap.size):=ui λh hh=>(HT.out.at_ hh hh).2.1
   have hz2:=hg2.size
   have HRC2:=ui (λi hi=>(hg2.cell (p:=⟨w1.heap.size,i,none⟩) (by show w1.heap.size<_;omega)).trans (((HGR.out.cell (p:=⟨w1.heap.size,i,none⟩) (by show w1.heap.size<_;omega)).trans (HRC.out i hi))))
   clear hown2 hg2 hrs a0 a1 a2 a3 a4 HLOS
   go_wp2
   go_loopw [54] (λi wr=>∃k:Nat,k<=L.length/\i=.int .i64 k/\KP c.herders.length bl w2 wr/\Gr W1 wr/\Tab wr W1.heap.size (.slice (some ⟨g,0,none⟩) c.herders.length cap) c.herders.length c.herders.length (λh t=>owesK p (rosOf ls) L h t k) bl) (λi _=>L.length-(intOf i).toNat)
   case atStart=>exact⟨0,by omega,rfl,.refl _ _ _,HG2.out,HT2.out⟩
   case round =>
    obtain⟨wq,rfl⟩:∃wq,wq=wr:=⟨_,rfl⟩
    obtain⟨k,hk,rfl,hkp,hgr,htab⟩:=hrel
    have HKP:=ui hkp
    have HGQ:=ui hgr
    have HTQ:=ui htab
    have hzq:=hkp.1
    by_cases hlk:k<L.length
    ·have hln:=HLN.out _ (List.getElem_mem hlk)
     have hget:L[k]?.getD (0,0)=L[k]:=by rw[List.getElem?_eq_getElem hlk];rfl
     obtain⟨b,o,rfl,hbK,hcl⟩:=HRS.out (λe=>by rw[e] at hlk;simp at hlk)
     obtain⟨h1,h2⟩:=hcl k _ (List.getElem?_eq_getElem hlk)
     have hne:∀h,h<c.herders.length->bl h≠b:=λh hh e=>by have:=HBL.out h hh;omega
     have d1:=(hkp.cell hbK.2 hne (o+k*2)).trans h1
     have d2:=(hkp.cell hbK.2 hne (o+k*2+1)).trans h2
     rw[<-hget] at hln d1 d2
     have HM0:Hid (∀a t,owesM p (rosOf ls) L k 0 a t=owesK p (rosOf ls) L a t k):=ui λa t=>nv p (rosOf ls) L k a t
     have HME:Hid (∀a t,owesM p (rosOf ls) L k (wl (rosOf ls (L[k]?.getD (0,0)).1.toNat)).length a t=owesK p (rosOf ls) L a t (k+1)):=ui λa t=>pk p (rosOf ls) L k a t
     have HMS:Hid (∀i a t,owesM p (rosOf ls) L k (i+1) a t=owesM p (rosOf ls) L k i a t+if(L[k]?.getD (0,0)).2=(t:Int)/\a≠t/\(wl (rosOf ls (L[k]?.getD (0,0)).1.toNat))[i]?.getD 0=(a:Int) then partI p (wl (rosOf ls (L[k]?.getD (0,0)).1.toNat)).length i else 0):=ui λi a t=>ny p (rosOf ls) L k i a t
     generalize L[k]?.getD (0,0)=q at hln d1 d2 HME HMS
     obtain⟨q1,q2⟩:=q
     obtain⟨qn,rfl⟩:∃j:Nat,q1=j:=⟨q1.toNat,by omega⟩
     obtain⟨qf,rfl⟩:∃j:Nat,q2=j:=⟨q2.toNat,by omega⟩
     dsimp only at hln d1 d2 HME HMS
     rw[Int.toNat_natCast] at HME HMS
     have hn5:=HOK.out.n5
     have hqn:qn<5:=by omega
     have hqf:qf<c.herders.length:=by omega
     have hrq:wq.cell? ⟨w1.heap.size,qn,none⟩=some (.int .u8 (rosOf ls qn:Nat)):=(hgr.cell (by show w1.heap.size<_;omega)).trans (HRC.out qn hqn)
     have hx16:rosOf ls qn<16:=us HOK.out.h4 (cJ HFE.out qn)
     have hxh:rosOf ls qn<2 ^ c.herders.length:=cJ HFE.out qn
     generalize rosOf ls qn=x at hrq hx16 hxh HME HMS
     obtain⟨W2,hW2⟩:∃W2:World,W2=wq.alloc (.cells #[.int .i64 (qn:Int),.int .i64 (qf:Int)] 70):=⟨_,rfl⟩
     have HLIST:=ui (fE x W2 hx16)
     have hwq1:w1.heap.size<wq.heap.size:=by omega
     have HBX:Hid (W2.cell? ⟨wq.heap.size,1,none⟩=some (.int .i64 (qf:Int))):=ui (by rw[hW2,World.cell?_alloc_at _ _ _ _ rfl];rfl)
     have HG2':Hid (Gr wq W2):=ui (hW2▸(Gr.refl wq).alloc _)
     have HZ2:Hid (W2.heap.size=wq.heap.size+1):=ui (by rw[hW2];simp)
     have HW2:=ui hW2
     clear hkp hgr htab hcl h1 h2 hget hW2
     go_wp2_with fail
     rw[<-HW2.out]
     refine HLIST.out.mono ?_
     rintro e w3 ⟨v3,rfl,hown3,hg3⟩
     obtain⟨A3,k3,rfl,hon⟩:=RIK_of_own hown3
     have HON:=ui hon
     have HG3:=ui (HG2'.out.trans hg3)
     have HT3:=ui ((HTQ.out.gr HG3.out).congr (M':=λa t=>owesM p (rosOf ls) L k 0 a t) λa t _ _=>(HM0.out a t).symm)
     have HBX3:=ui ((hg3.cell (p:=⟨wq.heap.size,1,none⟩) (by show wq.heap.size<_;have:=HZ2.out;omega)).trans HBX.out)
     have hz3:=HG3.out.size
     have hzw2:wq.heap.size<W2.heap.size:=by have:=HZ2.out;omega
     have hz32:=hg3.size
     clear hown3 hg3 hon HLIST d1 d2
     go_wp2
     go_loopw [65] (λi wr=>∃j:Nat,j<=(wl x).length/\i=.int .i64 j/\KP c.herders.length bl w3 wr/\Gr W1 wr/\Tab wr W1.heap.size (.slice (some ⟨g,0,none⟩) c.herders.length cap) c.herders.length c.herders.length (λa t=>owesM p (rosOf ls) L k j a t) bl) (λi _=>(wl x).length-(intOf i).toNat)
     case atStart=>exact⟨0,by omega,rfl,.refl _ _ _,HGQ.out.trans HG3.out,HT3.out⟩
     case round =>
      obtain⟨j,hj,rfl,hkp,hgi,hti⟩:=hrel
      have HKI:=ui hkp
      have HGI:=ui hgi
      have HTI:=ui hti
      have hzi:=hkp.1
      by_cases hlj:j<(wl x).length
      ·obtain⟨b3,o3,rfl,hb3K,hc3⟩:=HON.out (λe=>by rw[e] at hlj;simp at hlj)
       obtain⟨a,ha,ha4,hab⟩:=wl_mem (List.getElem_mem hlj)
       have hah:a<c.herders.length:=j8 hxh hab
       have hd3:=(hkp.cell hb3K.2 (λh hh e=>by have:=HBL.out h hh;omega) (o3+j)).trans (hc3 j _ (List.getElem?_eq_getElem hlj))
       rw[ha] at hd3
       have HGA:Hid ((wl x)[j]?.getD 0=(a:Int)):=ui (by rw[List.getElem?_eq_getElem hlj];exact ha)
       have hbx:=(hkp.cell (b:=wq.heap.size) (by omega) (λh hh e=>by have:=HBL.out h hh;omega) 1).trans HBX3.out
       have HMJ:Hid (∀a' t,owesM p (rosOf ls) L k (j+1) a' t=owesM p (rosOf ls) L k j a' t+if(qf:Int)=(t:Int)/\a'≠t/\(a:Int)=(a':Int) then partI p (wl x).length j else 0):=ui λa' t=>by rw[HMS.out,HGA.out]
       have hwl4:=cO x
       have HPI:Hid (partI p (wl x).length j=p / ((wl x).length:Int)+if(j:Int)<p % ((wl x).length:Int) then 1 else 0):=ui rfl
       clear ha
       generalize (wl x).length=N at hlj hwl4 HPI HMJ HME hj ⊢
       clear hkp hgi hti
       have hq1:0<=p / (N:Int):=Int.ediv_nonneg hp.1 (by omega)
       have hq2:p / (N:Int)<=99:=Int.le_trans (Int.ediv_le_self _ hp.1) hp.2
       obtain⟨g',eg,_,hrow⟩:=HTI.out.row_at hah
       have eg':g'=g:=by injection eg with e;injection e with e;exact e.symm
       subst eg'
       obtain⟨hta,htb,htc,htf⟩:=HTI.out.at_ hah hqf
       have hmb:=qD hp (rosOf ls) L k j a qf
       by_cases haf:a=qf
       ·have hne:((a:Int) != (qf:Int))=false:=by simp[haf]
        have HT5:=ui (HTI.out.congr (M':=λa t=>owesM p (rosOf ls) L k (j+1) a t) λa' t _ _=>by rw[HMJ.out,if_neg (by omega)];simp)
        clear hrow htc htf
        by_cases hrem:(j:Int)<p % (N:Int)
        all_goals
         go_wp2
         go_roundw
         case rel=>exact⟨j+1,by omega,by go_num,HKI.out,HGI.out,HT5.out⟩
         case measure=>simp[intOf];omega
       ·have hne:((a:Int) != (qf:Int))=true:=by simp;omega
        have HSETG:Hid (∀y:Int,y=partI p N j->Tab (wr.setCell ⟨bl a,qf,none⟩ (.int .i64 (owesM p (rosOf ls) L k j a qf+y))) W1.heap.size (.slice (some ⟨g',0,none⟩) c.herders.length cap) c.herders.length c.herders.length (λa t=>owesM p (rosOf ls) L k (j+1) a t) bl):=ui λy hy=>HTI.out.set hah hqf _ λa' t' _ _=>by
         rw[HMJ.out]
         by_cases e:a'=a/\t'=qf
         ·obtain⟨rfl,rfl⟩:=e
          rw[if_pos ⟨rfl,haf,rfl⟩,if_pos ⟨rfl,rfl⟩,hy]
         ·rw[if_neg (λh=>e (by omega)),if_neg e];omega
        have HKP2:=ui (λv=>HKI.out.trans (KP.set (w:=wr) hah qf v))
        have HGR2:=ui (λv=>HGI.out.setCell (p:=⟨bl a,qf,none⟩) hta v)
        have hblw:=htb
        generalize owesM p (rosOf ls) L k j a qf=M0 at htc hmb HSETG
        by_cases hrem:(j:Int)<p % (N:Int)
        ·have HY:=ui (HSETG.out (p / (N:Int)+1) (by rw[HPI.out,if_pos hrem]))
         go_wp2
         go_region
         all_goals
          go_wp2
          go_roundw
          case rel=>exact⟨j+1,by omega,by go_num,(HKP2.out _).drew,(HGR2.out _).drew,HY.out.drew⟩
          case measure=>simp[intOf];omega
        ·have HY:=ui (HSETG.out (p / (N:Int)) (by rw[HPI.out,if_neg hrem];omega))
         go_wp2
         go_region
         all_goals
          go_wp2
          go_roundw
          case rel=>exact⟨j+1,by omega,by go_num,(HKP2.out _).drew,(HGR2.out _).drew,HY.out.drew⟩
          case measure=>simp[intOf];omega
      ·have hjn:j=(wl x).length:=by omega
       subst hjn
       have HT6:=ui (HTI.out.congr (M':=λa t=>owesK p (rosOf ls) L a t (k+1)) λa' t _ _=>HME.out a' t)
       go_wp2
       go_roundw
       case rel=>exact⟨k+1,by omega,by go_num,HKP.out.trans ((KP.gr HG3.out).trans HKI.out),HGI.out,HT6.out⟩
       case measure=>simp[intOf];omega
    ·have hkn:k=L.length:=by omega
     subst hkn
     have HTF:=ui (HTQ.out.grAt)
     clear hkp hgr htab
     go_wp2
     go_ret2
     exact⟨HG0.out.trans (HG1.out.trans HGQ.out),_,_,rfl,by rw[HOL.out];exact HTF.out⟩
end Go.Proofs.YtjmmlkobmhlikaaGreat
namespace Go.Sq
def balM (M:List (List Int))(k i j:Nat):Int:=balK M k j-(if j=k then(M[k]?.getD []).sum else 0)+if j<i then(M[k]?.getD [])[j]?.getD 0 else 0
def qE (M:List (List Int))(k i j:Nat)(h:j<i):balM M k i j=balK M (k+1) j:=by
 show _+(if _ then _ else _)=_
 rw[if_pos h];rfl
def pm (M:List (List Int))(k j:Nat):balM M k 0 j=balK M k j-if j=k then(M[k]?.getD []).sum else 0:=by
 unfold balM
 generalize balK M k j-(if j=k then(M[k]?.getD []).sum else 0)=a
 rw[if_neg (Nat.not_lt_zero j)];omega
def pn (M:List (List Int))(k j t:Nat):balM M k (j+1) t=balM M k j t+if t=j then(M[k]?.getD [])[j]?.getD 0 else 0:=by
 unfold balM
 generalize balK M k t-(if t=k then(M[k]?.getD []).sum else 0)=a
 by_cases e:t=j
 ·subst e
  rw[if_pos (by omega),if_neg (by omega),if_pos rfl];omega
 ·by_cases e2:t<j
  ·rw[if_pos (by omega),if_pos e2,if_neg e];omega
  ·rw[if_neg (by omega),if_neg e2,if_neg e];omega
def po (M:List (List Int))(k j:Nat):balM M k j j=balK M k j-if j=k then(M[k]?.getD []).sum else 0:=by
 unfold balM
 generalize balK M k j-(if j=k then(M[k]?.getD []).sum else 0)=a
 rw[if_neg (by omega)];omega
structure TabOk (M:List (List Int)):Prop where
 size:M.length<=4
 rows:∀l∈M,l.length=M.length/\∀x∈l,0<=x/\x<=65536
def TabOk.row {M:List (List Int)}(h:TabOk M){k:Nat}(hk:k<M.length):(M[k]?.getD []).length=M.length/\∀x∈M[k]?.getD [],0<=x/\x<=65536:=h.rows _ (fi M k hk)
def TabOk.at_ {M:List (List Int)}(h:TabOk M){k:Nat}(hk:k<M.length)(j:Nat):0<=(M[k]?.getD [])[j]?.getD 0/\(M[k]?.getD [])[j]?.getD 0<=65536:=by
 rcases Nat.lt_or_ge j (M[k]?.getD []).length with hj|hj
 ·exact(h.row hk).2 _ (mem_get _ j hj)
 ·rw[List.getElem?_eq_none hj];simp
def TabOk.sum {M:List (List Int)}(h:TabOk M){k:Nat}(hk:k<M.length):0<=(M[k]?.getD []).sum/\(M[k]?.getD []).sum<=262144:=by
 have h1:=sum_bound 0 65536 _ (h.row hk).2
 have h2:=(h.row hk).1
 have h3:=h.size
 omega
def mr {M:List (List Int)}(h:TabOk M)(k j:Nat)(hk:k<=M.length):-(262144*k)<=balK M k j/\balK M k j<=65536*k:=by
 induction k with
 |zero=>simp[balK]
 |succ k ih =>
  have h1:=ih (by omega)
  have h2:=h.at_ (show k<M.length by omega) j
  have h3:=h.sum (show k<M.length by omega)
  unfold balK
  split<;>omega
def nz {c:Camp}(hc:c.Ok)(r:Ros){p:Int}(hp:0<=p/\p<=99)(ws:List Int):TabOk (owesL c r p ws):=by
 have hl:(owesL c r p ws).length=c.herders.length:=fo _ _
 refine⟨by rw[hl];exact hc.h4,λl hm=>?_⟩
 rw[hl]
 simp only[owesL,tabL,List.mem_map,List.mem_range] at hm
 obtain⟨a,ha,rfl⟩:=hm
 refine⟨by simp,λx hx=>?_⟩
 simp only[List.mem_map,List.mem_range] at hx
 obtain⟨t,_,rfl⟩:=hx
 have h1:=kU hp r (lossesL c r ws) a t (lossesL c r ws).length
 have h2:=bM hc r ws
 omega
end Go.Sq
namespace Go.Proofs.YtjmmlkobmhlikaaGreat
open Go.RowKit Go.Sq
def nB (nA hA gA rA:Option Addr)(nc hc gc rc:Nat)(c:Camp)(ls:List (List Int))(rs:List (Int×Int))(p:Int)(w:World)(B:Nat)(hB:B<=w.heap.size)(hn:RI w B nA c.needs)(hh:HsAt w B hA c.herders)(hg:GrAt w B gA ls)(hr:RsAt w B rA rs)
  (hl1:c.needs.length<=4611686018427387904) (hl2:c.herders.length<=4611686018427387904) (hlo:∀h∈c.herders,h.off.length<=4611686018427387904) (hl3:ls.length<=4611686018427387904) (hl4:∀x∈ls,x.length<=4611686018427387904) (hl5:rs.length<=4611686018427387904) (hrc:rs.length<=rc)
  (hF:formedE c ls=0) (hR:dx c.needs.length rs=0) (hp:0<=p/\p<=99) :
  Calls uZ 27 #[campV nA hA c nc hc,.slice gA ls.length gc,.slice rA rs.length rc,.int .i64 p] w λe w'=>Gr w w'/\∃A k,e=.returned (.tuple #[.slice A c.herders.length k,.int .i64 0]) /\
   RI w' w'.heap.size A (balL (owesL c (rosOf ls) p (wolvesL c.needs.length rs rs.length))):=by
 unfold campV
 obtain⟨W0,hW0⟩:∃W0:World,W0=w.alloc (.cells #[.slice nA c.needs.length nc,.slice hA c.herders.length hc] 27):=⟨_,rfl⟩
 have hg0:Gr w W0:=hW0▸(Gr.refl w).alloc _
 have hz0:W0.heap.size=w.heap.size+1:=by rw[hW0];simp
 have HW:=ui hW0
 have how:=tj nA hA gA rA nc hc gc rc c ls rs p W0 B (by omega) (hn.gr hB hg0) (hh.keep λb o hb=>hg0.cell (Nat.lt_of_lt_of_le hb hB)) (hg.gr hB hg0) (hr.gr hB hg0) hl1 hl2 hlo hl3 hl4 hl5 hrc hF hR hp
 unfold campV at how
 have HG0:=ui hg0
 have hok:=Camp.Ok.of (show checkE c=0 by
  have:=hF
  unfold formedE at this
  split at this
  ·exact absurd this (by assumption)
  ·simpa using ‹¬checkE c≠0›)
 have htok:=nz hok (rosOf ls) hp (wolvesL c.needs.length rs rs.length)
 have hln:(owesL c (rosOf ls) p (wolvesL c.needs.length rs rs.length)).length=c.herders.length:=fo _ _
 have h4:=hok.h4
 generalize owesL c (rosOf ls) p (wolvesL c.needs.length rs rs.length)=M at how htok hln
 rw[<-hln] at h4
 have HLN:=ui hln
 have HOW:=ui (how.mono (R':=λe w'=>Gr W0 w'/\∃A k,e=.returned (.tuple #[.slice A M.length k,.int .i64 0])/\GrAt w' w'.heap.size A M) λe w' h=>by rw[hln];exact h)
 have HTO:=ui htok
 have hmk:=λw=>ge M.length w (by omega)
 clear hW0 hg0 how hn hh hg hr hl4 hlo hF hR hok htok hln
 go_enter Sq.func27,Tryz.ntmps27
 go_wp2_with fail
 rw[<-HW.out]
 refine HOW.out.mono ?_
 rintro e w1 ⟨hg1,A,ka,rfl,hgr1⟩
 have HG1:=ui hg1
 have HGA:=ui hgr1
 have hz1:=hg1.size
 clear hg1 hgr1 HOW
 go_wp2
 go_loopw [33] (λi wr=>∃k:Nat,k<=M.length/\i=.int .i64 k/\Gr w1 wr/\w1.heap.size<wr.heap.size/\∀j,j<M.length->wr.cell? ⟨w1.heap.size,j,none⟩=some (.int .i64 (balK M k j))/\wr.frozen? ⟨w1.heap.size,j,none⟩=false) (λi _=>M.length-(intOf i).toNat)
 case atStart =>
  refine⟨0,by omega,rfl,(Gr.refl w1).alloc _,by simp,λj hj=>⟨?_,?_⟩⟩
  ·rw[World.cell?_alloc_at _ _ _ _ (by simp),dw _ _ hj];rfl
  ·rw[World.frozen?_alloc_at _ _ _ _ (by simp)]
 case round =>
  obtain⟨wq,rfl⟩:∃wq,wq=wr:=⟨_,rfl⟩
  obtain⟨k,hk,rfl,hgr,hzr,hcs⟩:=hrel
  have HGR:=ui hgr
  have HCS:=ui hcs
  by_cases hlt:k<M.length
  ·obtain⟨b,o,A',c',rfl,hb,hcl1,hri1⟩:=HGA.out.at_ hlt
   have hcl:=(hgr.cell (p:=⟨b,o+k,none⟩) hb).trans hcl1
   have hri:=hri1.gr (Nat.le_refl _) hgr
   have HR1:=ui hri1
   clear hcl1 hri1
   obtain⟨hrl,hrx⟩:=HTO.out.row hlt
   have hsm:=HTO.out.sum hlt
   obtain⟨e1,e2⟩:=hcs k hlt
   have hbk:=mr HTO.out k k hk
   have hsum:∀q,q=wq\/q=wq.drew->Calls uZ 46 #[.slice A' (M[k]?.getD []).length c'] q λe w'=>e=.returned (.int .i64 (M[k]?.getD []).sum)/\q=w':=λq hq=>tH A' c' (M[k]?.getD []) q w1.heap.size (by rcases hq with rfl|rfl<;>exact hri) (by omega) (λx hx=>by have:=hrx x hx;omega)
   have HM0:Hid (∀j,j<M.length->balM M k 0 j=balK M k j-if j=k then(M[k]?.getD []).sum else 0):=ui λj _=>pm M k j
   have HRI:=ui hri
   have HRX:=ui hrx
   rw[hrl] at hcl hsum
   have HSUM:=ui hsum
   obtain⟨S,hS⟩:∃S,S=(M[k]?.getD []).sum:=⟨_,rfl⟩
   rw[<-hS] at HSUM hsm HM0
   have HSET:Hid (∀j,j<M.length->(wq.setCell ⟨w1.heap.size,k,none⟩ (.int .i64 (balK M k k-S))).cell? ⟨w1.heap.size,j,none⟩=some (.int .i64 (balM M k 0 j))/\(wq.setCell ⟨w1.heap.size,k,none⟩ (.int .i64 (balK M k k-S))).frozen? ⟨w1.heap.size,j,none⟩=false):=ui λj hj=>by
    rw[World.frozen?_setCell,HM0.out j hj]
    refine⟨?_,(HCS.out j hj).2⟩
    by_cases e:j=k
    ·subst e
     rw[World.cell?_setCell_same _ _ _ e1,if_pos rfl]
    ·rw[World.cell?_setCell_other _ _ _ _ (by simp[Ne.symm e]),if_neg e,(HCS.out j hj).1];simp
   have HGS:Hid (Gr w1 (wq.setCell ⟨w1.heap.size,k,none⟩ (.int .i64 (balK M k k-S)))):=ui (hgr.setCell (p:=⟨w1.heap.size,k,none⟩) (Nat.le_refl _) _)
   clear hgr hcs hri hrx hsum hS HCS
   generalize balK M k k=bk at e1 hbk HSET HGS
   have hwr:IntKind.i64.wrap (bk-S)=bk-S:=by simp[IntKind.wrap,IntKind.bits,IntKind.signed];omega
   go_wp2
   go_region_with (go_at_call 46;refine(HSUM.out _ (by first|exact Or.inl rfl|exact Or.inr rfl)).mono ?_;rintro e w3 ⟨rfl,rfl⟩)
   all_goals
    clear e1 e2 hwr
    go_wp2
    go_loopw [48] (λi wr=>∃j:Nat,j<=M.length/\i=.int .i64 j/\Gr w1 wr/\w1.heap.size<wr.heap.size/\∀t,t<M.length->wr.cell? ⟨w1.heap.size,t,none⟩=some (.int .i64 (balM M k j t))/\wr.frozen? ⟨w1.heap.size,t,none⟩=false) (λi _=>M.length-(intOf i).toNat)
    case atStart=>exact⟨0,by omega,rfl,HGS.out.drew,by simp[World.setCell,World.drew];omega,HSET.out⟩
    case round =>
     obtain⟨j,hj,rfl,hgi,hzi,hci⟩:=hrel
     have HGI:=ui hgi
     have HCI:=ui hci
     by_cases hlj:j<M.length
     ·obtain⟨b2,o2,rfl,hb2,hcj⟩:=(HR1.out.gr (Nat.le_refl _) hgi).at_ (k:=j) (by omega)
      have hx:=HTO.out.at_ hlt j
      obtain⟨e1,e2⟩:=hci j hlj
      have hbj:=mr HTO.out k j hk
      have HMS:Hid (∀t,balM M k (j+1) t=balM M k j t+if t=j then(M[k]?.getD [])[j]?.getD 0 else 0):=ui λt=>pn M k j t
      have hbm:-(262144*5)<=balM M k j j/\balM M k j j<=65536*5:=by
       have hsm2:=HTO.out.sum hlt
       rw[po]
       split<;>omega
      generalize balM M k j j=y at e1 hbm
      generalize (M[k]?.getD [])[j]?.getD 0=z at hcj hx HMS
      have HST:Hid (y=y->∀t,t<M.length->(wr.setCell ⟨w1.heap.size,j,none⟩ (.int .i64 (y+z))).cell? ⟨w1.heap.size,t,none⟩=some (.int .i64 (balM M k (j+1) t))/\(wr.setCell ⟨w1.heap.size,j,none⟩ (.int .i64 (y+z))).frozen? ⟨w1.heap.size,t,none⟩=false):=ui λ_ t ht=>by
       rw[World.frozen?_setCell,HMS.out]
       refine⟨?_,(HCI.out t ht).2⟩
       by_cases e:t=j
       ·subst e
        rw[World.cell?_setCell_same _ _ _ e1,if_pos rfl]
        have:=(HCI.out t ht).1
        rw[e1] at this
        cases this
        rfl
       ·rw[World.cell?_setCell_other _ _ _ _ (by simp[Ne.symm e]),if_neg e,(HCI.out t ht).1];simp
      have HGT:=ui (hgi.setCell (p:=⟨w1.heap.size,j,none⟩) (Nat.le_refl _) (.int .i64 (y+z)))
      clear hgi hci
      go_wp2
      go_roundw
      case rel=>exact⟨j+1,by omega,by go_num,HGT.out,by simp[World.setCell];omega,HST.out rfl⟩
      case measure=>simp[intOf];omega
     ·have hjn:j=M.length:=by omega
      subst hjn
      clear hgi hci
      have HCE:Hid (∀t,t<M.length->wr.cell? ⟨w1.heap.size,t,none⟩=some (.int .i64 (balK M (k+1) t))/\wr.frozen? ⟨w1.heap.size,t,none⟩=false):=ui λt ht=>by
       rw[<-qE M k M.length t ht];exact HCI.out t ht
      go_wp2
      go_roundw
      case rel=>exact⟨k+1,by omega,by go_num,HGI.out,hzi,HCE.out⟩
      case measure=>simp[intOf];omega
  ·have hkn:k=M.length:=by omega
   subst hkn
   have HF:Hid (RI wq wq.heap.size (some ⟨w1.heap.size,0,none⟩) (balL M)):=ui λ_=>⟨_,0,rfl,hzr,λi x hx=>by
    have hi:i<M.length:=by have:=(List.getElem?_eq_some_iff.1 hx).1;simpa [balL] using this
    have hx':x=balK M M.length i:=by
     unfold balL at hx
     rw[List.getElem?_map,List.getElem?_range hi] at hx
     exact(Option.some.inj hx).symm
    rw[Nat.zero_add,hx']
    exact(hcs i hi).1⟩
   clear hgr hcs
   go_wp2
   go_ret2
   refine⟨HG0.out.trans (HG1.out.trans HGR.out),some ⟨w1.heap.size,0,none⟩,M.length,?_,HF.out⟩
   rw[<-HLN.out];rfl
open Go.Shelf
def uN:Ren:=⟨λ|189=>54|125=>77|257=>76|128=>117|129=>118|294=>108|295=>109|296=>110|297=>111|298=>112|299=>113|216=>114|300=>115|301=>116|328=>130|329=>131|330=>132|331=>133|332=>134|215=>120|343=>150|n=>n,λ|28=>22|3=>3|46=>83|0=>0|51=>109|53=>49|4=>4|183=>182|182=>181|131=>186|5=>5|9=>9|218=>202|222=>205|228=>212|229=>213|n=>n,λn=>n⟩
def uK:Lays.n189 uZ uN where
 mixed:=(congrArg (λt:Tables=>t.follows .mixedOrders) ur).trans (by kernel_rfl)
 f125:=Sq.func77.trans (congrArg some (by kernel_rfl))
 f128:=Sq.func117.trans (congrArg some (by kernel_rfl))
 f129:=Sq.func118.trans (congrArg some (by kernel_rfl))
 f189:=Sq.func54.trans (congrArg some (by kernel_rfl))
 f215:=Sq.func120.trans (congrArg some (by kernel_rfl))
 f216:=Sq.func114.trans (congrArg some (by kernel_rfl))
 f257:=Sq.func76.trans (congrArg some (by kernel_rfl))
 f294:=Sq.func108.trans (congrArg some (by kernel_rfl))
 f295:=Sq.func109.trans (congrArg some (by kernel_rfl))
 f296:=Sq.func110.trans (congrArg some (by kernel_rfl))
 f297:=Sq.func111.trans (congrArg some (by kernel_rfl))
 f298:=Sq.func112.trans (congrArg some (by kernel_rfl))
 f299:=Sq.func113.trans (congrArg some (by kernel_rfl))
 f300:=Sq.func115.trans (congrArg some (by kernel_rfl))
 f301:=Sq.func116.trans (congrArg some (by kernel_rfl))
 f328:=Sq.func130.trans (congrArg some (by kernel_rfl))
 f329:=Sq.func131.trans (congrArg some (by kernel_rfl))
 f330:=Sq.func132.trans (congrArg some (by kernel_rfl))
 f331:=Sq.func133.trans (congrArg some (by kernel_rfl))
 f332:=Sq.func134.trans (congrArg some (by kernel_rfl))
 f343:=Sq.func150.trans (congrArg some (by kernel_rfl))
 t0:=(Sq.underlying 0).trans Tryz.underlying0
 a0:=λw=>(ul 0 w).trans (Tryz.isAgg0 w)
 z0:=λw=>(Sq.sizeOf 0 w).trans (Tryz.sizeOf0 w)
 v0:=λw=>(Sq.zeroValue 0 w).trans (Tryz.zeroValue0 w)
 t3:=(Sq.underlying 3).trans Tryz.underlying3
 a3:=λw=>(ul 3 w).trans (Tryz.isAgg3 w)
 z3:=λw=>(Sq.sizeOf 3 w).trans (Tryz.sizeOf3 w)
 v3:=λw=>(Sq.zeroValue 3 w).trans (Tryz.zeroValue3 w)
 t4:=(Sq.underlying 4).trans Tryz.underlying4
 a4:=λw=>(ul 4 w).trans (Tryz.isAgg4 w)
 z4:=λw=>(Sq.sizeOf 4 w).trans (Tryz.sizeOf4 w)
 v4:=λw=>(Sq.zeroValue 4 w).trans (Tryz.zeroValue4 w)
 t5:=(Sq.underlying 5).trans Tryz.underlying5
 a5:=λw=>(ul 5 w).trans (Tryz.isAgg5 w)
 z5:=λw=>(Sq.sizeOf 5 w).trans (Tryz.sizeOf5 w)
 v5:=λw=>(Sq.zeroValue 5 w).trans (Tryz.zeroValue5 w)
 t9:=(Sq.underlying 9).trans Tryz.underlying9
 a9:=λw=>(ul 9 w).trans (Tryz.isAgg9 w)
 z9:=λw=>(Sq.sizeOf 9 w).trans (Tryz.sizeOf9 w)
 v9:=λw=>(Sq.zeroValue 9 w).trans (Tryz.zeroValue9 w)
 t28:=(Sq.underlying 22).trans Tryz.underlying22
 a28:=λw=>(ul 22 w).trans (Tryz.isAgg22 w)
 z28:=λw=>(Sq.sizeOf 22 w).trans (Tryz.sizeOf22 w)
 v28:=λw=>(Sq.zeroValue 22 w).trans (Tryz.zeroValue22 w)
 t46:=(Sq.underlying 83).trans Tryz.underlying83
 a46:=λw=>(ul 83 w).trans (Tryz.isAgg83 w)
 z46:=λw=>(Sq.sizeOf 83 w).trans (Tryz.sizeOf83 w)
 v46:=λw=>(Sq.zeroValue 83 w).trans (Tryz.zeroValue83 w)
 t51:=(Sq.underlying 109).trans Tryz.underlying109
 a51:=λw=>(ul 109 w).trans (Tryz.isAgg109 w)
 z51:=λw=>(Sq.sizeOf 109 w).trans (Tryz.sizeOf109 w)
 v51:=λw=>(Sq.zeroValue 109 w).trans (Tryz.zeroValue109 w)
 t53:=(Sq.underlying 49).trans Tryz.underlying49
 a53:=λw=>(ul 49 w).trans (Tryz.isAgg49 w)
 z53:=λw=>(Sq.sizeOf 49 w).trans (Tryz.sizeOf49 w)
 v53:=λw=>(Sq.zeroValue 49 w).trans (Tryz.zeroValue49 w)
 t131:=(Sq.underlying 186).trans Tryz.underlying186
 a131:=λw=>(ul 186 w).trans (Tryz.isAgg186 w)
 z131:=λw=>(Sq.sizeOf 186 w).trans (Tryz.sizeOf186 w)
 v131:=λw=>(Sq.zeroValue 186 w).trans (Tryz.zeroValue186 w)
 t182:=(Sq.underlying 181).trans Tryz.underlying181
 a182:=λw=>(ul 181 w).trans (Tryz.isAgg181 w)
 z182:=λw=>(Sq.sizeOf 181 w).trans (Tryz.sizeOf181 w)
 v182:=λw=>(Sq.zeroValue 181 w).trans (Tryz.zeroValue181 w)
 t183:=(Sq.underlying 182).trans Tryz.underlying182
 a183:=λw=>(ul 182 w).trans (Tryz.isAgg182 w)
 z183:=λw=>(Sq.sizeOf 182 w).trans (Tryz.sizeOf182 w)
 v183:=λw=>(Sq.zeroValue 182 w).trans (Tryz.zeroValue182 w)
 t218:=(Sq.underlying 202).trans Tryz.underlying202
 a218:=λw=>(ul 202 w).trans (Tryz.isAgg202 w)
 z218:=λw=>(Sq.sizeOf 202 w).trans (Tryz.sizeOf202 w)
 v218:=λw=>(Sq.zeroValue 202 w).trans (Tryz.zeroValue202 w)
 t222:=(Sq.underlying 205).trans Tryz.underlying205
 a222:=λw=>(ul 205 w).trans (Tryz.isAgg205 w)
 z222:=λw=>(Sq.sizeOf 205 w).trans (Tryz.sizeOf205 w)
 v222:=λw=>(Sq.zeroValue 205 w).trans (Tryz.zeroValue205 w)
 t228:=(Sq.underlying 212).trans Tryz.underlying212
 a228:=λw=>(ul 212 w).trans (Tryz.isAgg212 w)
 z228:=λw=>(Sq.sizeOf 212 w).trans (Tryz.sizeOf212 w)
 v228:=λw=>(Sq.zeroValue 212 w).trans (Tryz.zeroValue212 w)
 t229:=(Sq.underlying 213).trans Tryz.underlying213
 a229:=λw=>(ul 213 w).trans (Tryz.isAgg213 w)
 z229:=λw=>(Sq.sizeOf 213 w).trans (Tryz.sizeOf213 w)
 v229:=λw=>(Sq.zeroValue 213 w).trans (Tryz.zeroValue213 w)
open Go.RowKit Go.Sq Go.Sort
def kX:Lib.pop8tab.size=256:=by decide +kernel
def sg:∀x:Fin 16,wrap64 ((Lib.pop8tab[x.val]'(by have:=kX;omega)).toNat:Int)=((wl x.val).length:Int):=by decide +kernel
def tn (x:Nat)(w:World)(hx:x<16):Calls uZ 82 #[.int .u8 (x:Int)] w λe w'=>e=.returned (.int .i64 (wl x).length)/\w=w':=by
 have HP:=ui (sg ⟨x,hx⟩)
 have hps:x<Lib.pop8tab.size:=by have:=kX;omega
 go_enter Sq.func82,Tryz.ntmps82
 go_wp2
 go_ret
 exact⟨aq HP.out,rfl⟩
def tq (x:Nat)(w:World)(hx:x<16):Calls uZ 57 #[.int .u8 x] w λe w'=>e=.returned (.int .i64 (wl x).length)/\w=w':=by
 have HC:=ui (tn x w hx)
 go_enter Sq.func57,Tryz.ntmps57
 go_wp2_with fail
 refine HC.out.mono ?_
 rintro e w' ⟨rfl,rfl⟩
 go_wp2
 go_ret
 exact⟨rfl,rfl⟩
def sortL (l:List Int):List Int:=l.mergeSort λx y=>decide (x<=y)
def jG (l:List Int):(sortL l).length=l.length:=List.length_mergeSort l
def si (g cap:Nat)(l:List Int)(w:World){base:Nat}(h:w.ownsRow base 3 1 (.slice (some ⟨g,0,none⟩) l.length cap) l.length (l.map (Value.int .i64)))(hl:l.length<=1048576) :
  Calls uZ 54 #[.slice (some ⟨g,0,none⟩) l.length cap] w λe w'=>e=.returned (.tuple #[])/\KT (·=g) w w'/\∀(i:Nat) (x:Int),(sortL l)[i]?=some x->w'.cell? ⟨g,i,none⟩=some (.int .i64 x):=by
 have hlt:g<w.heap.size:=(h.lt g rfl).2
 have hH:Holds (Value.int .i64) w g 0 l.toArray:=by
  intro j hj
  have hj':j<l.length:=by simpa using hj
  refine⟨?_,?_⟩
  ·have:=h.cells (g:=g) rfl j (.int .i64 l[j]) (by simp[hj'])
   rw[Addr.add_lit] at this
   rw[this,getElem!_pos l.toArray j (by simpa using hj')]
   simp
  ·rcases h.2 with⟨h,_⟩|⟨g',c',cur,h,_,hb,_⟩
   ·cases h
   ·obtain⟨rfl⟩:g=g':=by injection h with h1;injection h1 with h2;injection h2
    simp[World.frozen?,hb]
 refine(Any.slices_Sort_int uK g 0 cap l w hH hlt (by omega)).mono ?_
 rintro e w' ⟨he,n,os,hW⟩
 have hsz:(sortL l).toArray.size=l.toArray.size:=by simp[jG]
 refine⟨he,?_,λi x hx=>?_⟩
 ·subst hW
  refine⟨rfl,rfl,rfl,?_,?_,λb hb hne=>?_⟩
  ·show w.drawn<=w.drawn+n;omega
  ·rw[size_grow,size_putRow];exact Nat.le_add_right _ _
  ·rw[heap_grow_old _ _ (by rw[size_putRow];exact hb)]
   unfold putRow mapBlock
   rw[Array.getElem?_modify,if_neg (λh=>hne h.symm)]
   rfl
 ·have hi:i<(sortL l).length:=(List.getElem?_eq_some_iff.1 hx).1
  subst hW
  rw[cell?_grow _ _ _ (by rw[size_putRow];exact hlt)]
  have:=cell?_putRow (Value.int .i64) (Sort.ahead w n) g 0 l.toArray (sortL l).toArray hH hsz i (by simpa using hi)
  rw[Nat.zero_add] at this
  refine this.trans ?_
  rw[getElem!_pos _ i (by simpa using hi)]
  rw[List.getElem?_eq_getElem hi] at hx
  simp at hx
  simp[hx]
end Go.Proofs.YtjmmlkobmhlikaaGreat
