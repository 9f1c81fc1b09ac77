/- What is proved: whatever the input, the law WolfThreat answers true. Conditions: none beyond the statement's own. -/
import Derived.Test.YtjmmlkobmhlikaaGreatP27
import Derived.Test.YtjmmlkobmhlikaaGreatP24
import Derived.Test.YtjmmlkobmhlikaaGreatRows
import Derived.Test.YtjmmlkobmhlikaaGreatChecked
import Derived.Conc.HoldsTime
import Derived.ProofKit
import Derived.ClosedOfChecked
import Derived.Conc.LeavingOf
set_option linter.all false
set_option maxHeartbeats 6400000
set_option maxRecDepth 1000000
namespace Go.Proofs.YtjmmlkobmhlikaaGreat
open Go.RowKit Go.Sq
open Go.Iso (aM av dm fB)
noncomputable def ops18:Array Oper:=match cFst gv with|.region _ ops _=>ops|_=>#[]
def pH:gv=.seq (.region 24 ops18 true) .ret:=by kernel_rfl
def tW (a:Act):Prop:=a.tmps.size=146/\a.defers=[]/\a.tmps.getD 142 undef=.bool true/\a.tmps.getD 143 undef=.bool true
def uW:(uZ.info? 38).map (λi=>(i.zero,i.size,i.bytes))=some (some (.slice none 0 0),1,24):=by
 rw[ur];kernel_rfl
def tF (w:World):(Instr.makeSlice 32 (.int .i64 3) (.int .i64 3)).run uZ w=.ok (.slice (some ⟨w.heap.size,0,none⟩) 3 3) (w.alloc (.cells #[.slice none 0 0,.slice none 0 0,.slice none 0 0] 38)):=by
 obtain⟨i0,hi,hz0,hz1,hz2⟩:=info_parts uW
 have:=run_makeSlice (P:=uZ) w 32 38 i0 (.slice none 0 0) ((Sq.underlying 32).trans Tryz.underlying32) hi hz0 .i64 .i64 3 3 (by omega) (by omega) (by rw[hz1];simp) (by rw[hz2];decide) (by omega)
 rw[hz1] at this
 have e:madeCells (Value.slice none 0 0).cells ((3:Int).toNat*1)=#[.slice none 0 0,.slice none 0 0,.slice none 0 0]:=by
  refine Array.ext (by simp[madeCells]) λi h1 h2=>?_
  match i,h2 with
  |0,_=>simp[madeCells,Value.cells]
  |1,_=>simp[madeCells,Value.cells]
  |2,_=>simp[madeCells,Value.cells]
 rw[e] at this
 exact this
def tG {w:World}{hb B cap M:Nat}{A:Option Addr}{l:List Int}(h:Hand w hb B A cap l M) :
  WR w hb B A cap l M (w.heap.size+1) w.heap.size (.slice none 0 0) [] (λ_=>.slice none 0 0) (λ_=>[]) (w.alloc (.cells #[.slice none 0 0,.slice none 0 0,.slice none 0 0] 38)):=by
 refine⟨h.gr ((Gr.refl w).alloc _),um ((Gr.refl w).alloc _),World.ownsRow_nil _ _ _ _,λi hi=>⟨World.ownsRow_nil _ _ _ _,?_⟩,λi j g _ _ _ hg=>(by cases hg),h.lt,by simp⟩
 rw[World.cell?_alloc_at _ _ _ _ rfl,World.frozen?_alloc_at _ _ _ _ rfl]
 match i,hi with
 |0,_=>exact⟨rfl,rfl⟩
 |1,_=>exact⟨rfl,rfl⟩
 |2,_=>exact⟨rfl,rfl⟩
def nQ (A:Option Addr)(cap:Nat)(l:List Int)(w:World)(h:RI w w.heap.size A l)(tmps:Array Value)(ht:tmps=#[Value.slice A l.length cap]++Array.replicate 145 undef) :
  aM uZ [.inRegion ops18 [35,36,37],.code .ret] az (λa _=>tW a) ⟨tmps,[]⟩ w:=by
 have HNH:=ui (py A cap l w h)
 clear h
 rw[pE]
 subst ht
 simp only[Array.replicate_succ,Array.replicate_zero,List.push_toArray,List.append_toArray,List.nil_append,List.cons_append]
 refine av λK hK=>?_
 have ez:cr 0=cFst (cDrop 0 az):=rfl
 simp only[cDrop,az,Tryz.f3,Option.getD_some,cSnd,cFst] at ez
 rw[ez]
 clear ez
 go_wp2
 refine av λK hK=>?_
 have ez:cr 1=cFst (cDrop 1 az):=rfl
 simp only[cDrop,az,Tryz.f3,Option.getD_some,cSnd,cFst] at ez
 rw[ez]
 clear ez
 go_wp2_with fail
 refine HNH.out.mono ?_
 rintro e w1 ⟨rfl,hh1,hg1⟩
 have HCO:=ui (qN _ _ A cap l 0 w1 hh1 (by omega))
 have hlt1:=hh1.lt
 clear hh1 hg1 HNH
 go_wp2
 refine av λK hK=>?_
 have ez:cr 2=cFst (cDrop 2 az):=rfl
 simp only[cDrop,az,Tryz.f3,Option.getD_some,cSnd,cFst] at ez
 rw[ez]
 clear ez
 go_wp2_with fail
 refine HCO.out.mono ?_
 rintro e w2 ⟨c,nA,hA,nc,hc,rfl,hok,hck,hneed,hherd,hh2,hkh2⟩
 have HOK:=ui hok
 have HCK:=ui hck
 obtain⟨W2,hW2⟩:∃W2:World,W2=w2.alloc (.cells #[.slice nA c.needs.length nc,.slice hA c.herders.length hc] 27):=⟨_,rfl⟩
 have hz2:=hkh2.size
 have HN2:=ui hneed
 have HH2:=ui hherd
 have HZ2:Hid (W2.heap.size=w2.heap.size+1):=ui (by rw[hW2];simp)
 have HCB:Hid (W2.cell? ⟨w2.heap.size,0,none⟩=some (.slice nA c.needs.length nc)/\W2.cell? ⟨w2.heap.size,1,none⟩=some (.slice hA c.herders.length hc)):=ui (by
  rw[hW2,World.cell?_alloc_at _ _ _ _ rfl,World.cell?_alloc_at _ _ _ _ rfl];exact⟨rfl,rfl⟩)
 have hgw2:Gr w2 W2:=hW2▸(Gr.refl w2).alloc _
 have HGW2:=ui hgw2
 have HRO:=ui (nK _ _ A nA hA cap nc hc l 1000 c.needs.length c.herders.length W2 ((hh2.gr hgw2).more (by omega)) (by omega) (by have:=HOK.out.n5;omega) (by have:=HOK.out.h4;omega))
 have HW2:=ui hW2
 unfold campV
 clear HCO hneed hherd hh2 hkh2 hok hck hW2 hgw2
 go_wp2
 rw[<-HW2.out]
 obtain⟨hcb0,hcb1⟩:=HCB.out
 refine av λK hK=>?_
 have ez:cr 3=cFst (cDrop 3 az):=rfl
 simp only[cDrop,az,Tryz.f3,Option.getD_some,cSnd,cFst] at ez
 rw[ez]
 clear ez
 have hbl:w2.heap.size<W2.heap.size:=by have:=HZ2.out;omega
 go_wp2_with fail
 refine HRO.out.mono ?_
 rintro e w4 ⟨v,ls,xs,rfl,hog,hll,hall,hh4,hkh4⟩
 have hmk:MadeK c nA hA v w2.heap.size nc hc w1.heap.size ls xs w4:=by
  have hsz:=hkh4.size
  have hz:=HZ2.out
  have hk:∀b o,w1.heap.size<=b/\b<w2.heap.size->w4.cell? ⟨b,o,none⟩=w2.cell? ⟨b,o,none⟩:=λb o hb=>(World.cell?_of_block (a:=⟨b,o,none⟩) (hkh4.block b (by omega) (by omega))).trans (HGW2.out.cell (p:=⟨b,o,none⟩) hb.2)
  exact⟨⟨hz2,by omega⟩,(World.cell?_of_block (hkh4.block w2.heap.size hbl (by omega))).trans hcb0,(World.cell?_of_block (hkh4.block w2.heap.size hbl (by omega))).trans hcb1,de HN2.out (λb hb=>⟨hb.1,by omega⟩) hk,ir HH2.out (λb hb=>⟨hb.1,by omega⟩) hk,⟨cD hog.row (by omega),λi x hi=>by
   obtain⟨u,h1,h2⟩:=hog.cells i x hi
   exact⟨u,h1,cD h2 (by omega)⟩⟩⟩
 have HMK:=ui hmk
 have HLL:=ui hll
 have HALL:=ui hall
 have HFO:=ui (pz HCK.out hll hall)
 have HLX:Hid (∀x∈ls,x.length<=4):=ui λx hx=>by
  obtain⟨p,rfl⟩:=hall x hx
  exact Nat.le_trans (ft _ _) HOK.out.h4
 have hn5:=HOK.out.n5
 have hn1:=HOK.out.n1
 have hm4:=HOK.out.h4
 have hm1:=HOK.out.h1
 have HOFF:Hid (∀h∈c.herders,h.off.length<=4611686018427387904):=ui λh hh=>Nat.le_trans (HOK.out.off h hh).1 (by omega)
 have hl5:ls.length<=5:=by omega
 have hlt4:w.heap.size<w1.heap.size:=hlt1
 obtain⟨gA,gc,hv,_⟩:=hog.grAt
 subst hv
 have HH4:=ui hh4
 have HOG:=ui hog
 have hb5:=hmk.bd.2
 have h50:=hmk.c0
 have h51:=hmk.c1
 clear HRO hog hall hh4 hkh4 hmk hcb0 hcb1 hbl hll
 go_wp2
 refine av λK hK=>?_
 have ez:cr 4=cFst (cDrop 4 az):=rfl
 simp only[cDrop,az,Tryz.f3,Option.getD_some,cSnd,cFst] at ez
 rw[ez]
 clear ez
 go_wp2
 refine av λK hK=>?_
 have ez:cr 5=cFst (cDrop 5 az):=rfl
 simp only[cDrop,az,Tryz.f3,Option.getD_some,cSnd,cFst] at ez
 rw[ez]
 clear ez
 have hmk86:=tF
 go_wp2
 clear hmk86
 refine av λK hK=>?_
 refine ua 146 rfl λu hu=>?_
 refine qP (hu 3) (hu 4) (hu 6) (hu 7) (tG (HH4.out.more (M:=2000) (by have:c.needs.length*c.herders.length<=5*4:=Nat.mul_le_mul hn5 hm4;omega))) hb5 (by omega) h50 hn5 (by omega) λw6 u6 v r f hwr hbd e3 e4 e5 e6 e7=>?_
 replace e3:=e3.trans (hu 3)
 replace e4:=e4.trans (hu 4)
 replace e5:=e5.trans (hu 5)
 replace e7:=e7.trans (hu 7)
 clear hu
 dsimp only[List.getElem?_cons_succ,List.getElem?_cons_zero,Option.getD_some] at e3 e4 e5 e7
 have HBD:=ui hbd
 obtain⟨wA,wc,rfl,hwra,_⟩:=RsK_own hwr.own
 have HMK6:=ui (HMK.out.deal hlt4 hwr.kt)
 have HM6:=ui HMK6.out.made
 have HWR:=ui hwr
 have HTH:=ui (qO nA hA gA wA nc hc gc wc c ls ((List.range c.needs.length).map λj=>(f 0 j,f 2 j)) w6 w6.heap.size (Nat.le_refl _) HM6.out.needs HM6.out.herds HM6.out.grid (hwra.rs λb hb=>hb.2) (by omega) (by omega) HOFF.out (by omega) (λx hx=>Nat.le_trans (HLX.out x hx) (by omega)) (by simp) HFO.out (λq hq=>by
  obtain⟨j,hj,rfl⟩:=List.mem_map.1 hq
  have:=HBD.out j (List.mem_range.1 hj)
  dsimp only;omega))
 have hb6:=HM6.out.lt
 have h60:=HM6.out.c0
 have h61:=HM6.out.c1
 unfold campV at HTH
 clear hwr hbd hwra h50 h51 hb5
 rw[List.length_map,List.length_range] at HTH e6
 apply hK
 clear hK
 unfold T
 simp only[List.range,List.range.loop,List.map_cons,List.map_nil,e3,e4,e5,e6,e7]
 refine av λK hK=>?_
 have ez:cr 7=cFst (cDrop 7 az):=rfl
 simp only[cDrop,az,Tryz.f3,Option.getD_some,cSnd,cFst] at ez
 rw[ez]
 clear ez
 go_wp2_with fail
 refine HTH.out.mono ?_
 rintro e w7 ⟨hg7,rfl⟩
 have eS0:(((List.range c.needs.length).map λj=>(f 0 j,f 2 j)).map (·.1))=(List.range c.needs.length).map (f 0):=by rw[List.map_map];rfl
 have eS2:(((List.range c.needs.length).map λj=>(f 0 j,f 2 j)).map (·.2))=(List.range c.needs.length).map (f 2):=by rw[List.map_map];rfl
 rw[eS0,eS2]
 clear eS0 eS2
 have HS:Hid (∀i,i<3->(takenL c (rosOf ls) c.needs.length (nightly c.needs.length (f i))).sum=(lossesL c (rosOf ls) ((List.range c.needs.length).map (f i))).length):=ui λi _=>j4 HOK.out _ _ _
 have HSL:Hid (∀i,i<3->∀x∈takenL c (rosOf ls) c.needs.length (nightly c.needs.length (f i)),0<=x/\x<=1048576):=ui λi _=>pB HOK.out _ _ _
 have hm1:(lossesL c (rosOf ls) ((List.range c.needs.length).map (f 0))).length<=(lossesL c (rosOf ls) ((List.range c.needs.length).map (f 1))).length:=gu HOK.out _ λj hj=>(HBD.out j hj).2.1
 have hm2:(lossesL c (rosOf ls) ((List.range c.needs.length).map (f 1))).length<=(lossesL c (rosOf ls) ((List.range c.needs.length).map (f 2))).length:=gu HOK.out _ λj hj=>(HBD.out j hj).2.2.1
 have hmx:=bM HOK.out (rosOf ls) ((List.range c.needs.length).map (f 2))
 obtain⟨S,hS⟩:∃S:Nat->Nat,S=λi=>(lossesL c (rosOf ls) ((List.range c.needs.length).map (f i))).length:=⟨_,rfl⟩
 have HSS:Hid (∀i,i<3->(takenL c (rosOf ls) c.needs.length (nightly c.needs.length (f i))).sum=(S i:Int)):=ui λi hi=>by rw[hS];exact HS.out i hi
 have e0:(lossesL c (rosOf ls) ((List.range c.needs.length).map (f 0))).length=S 0:=by rw[hS]
 have e1:(lossesL c (rosOf ls) ((List.range c.needs.length).map (f 1))).length=S 1:=by rw[hS]
 have e2:(lossesL c (rosOf ls) ((List.range c.needs.length).map (f 2))).length=S 2:=by rw[hS]
 rw[e0,e1] at hm1
 rw[e1,e2] at hm2
 rw[e2] at hmx
 rw[e0,e2]
 clear hS e0 e1 e2 HS
 have HMK7:=ui (HMK6.out.keep hg7.size λb _ hb=>hg7.below.block b hb)
 have HROW:Hid (∀W,Gr w7 W->∀i,i<3->∃rA rc,W.cell? ⟨w4.heap.size,i,none⟩=some (.slice rA c.needs.length rc)/\w4.heap.size<W.heap.size/\RsAt W W.heap.size rA (nightly c.needs.length (f i))/\c.needs.length<=rc):=ui λW hW i hi=>by
  obtain⟨a1,a2,_⟩:=HWR.out.row i hi
  have hg:=hg7.trans hW
  have hbb:=HWR.out.bs
  obtain⟨rA,rc,h1,h2,h3⟩:=RsAt_own (own_keep (w':=W) a1 λb _ hb=>hg.below.block b hb)
  rw[aO] at h1 h3
  rw[h1] at a2
  exact⟨rA,rc,(hg.cell (p:=⟨w4.heap.size,i,none⟩) (by show w4.heap.size<_;omega)).trans a2,by have:=hg.size;omega,h2,h3⟩
 have hz7:w2.heap.size<w7.heap.size:=by have:=hg7.size;omega
 clear HTH hg7 HM6 HMK6 HWR h60 h61 hb6
 go_wp2
 refine av λK hK=>?_
 have ez:cr 8=cFst (cDrop 8 az):=rfl
 simp only[cDrop,az,Tryz.f3,Option.getD_some,cSnd,cFst] at ez
 rw[ez]
 clear ez
 go_wp2
 refine av λK hK=>?_
 have ez:cr 9=cFst (cDrop 9 az):=rfl
 simp only[cDrop,az,Tryz.f3,Option.getD_some,cSnd,cFst] at ez
 rw[ez]
 clear ez
 go_wp2
 obtain⟨W8,hW8⟩:∃W8,W8=w7.alloc (.cells #[.int .i64 (S 0),.int .i64 (S 2)] 37):=⟨_,rfl⟩
 have hg8:Gr w7 W8:=hW8▸(Gr.refl w7).alloc _
 have HG8:=ui hg8
 have HMK8:=ui (HMK7.out.keep hg8.size λb _ hb=>hg8.below.block b hb)
 have HC11:Hid (W8.cell? ⟨w7.heap.size,0,none⟩=some (.int .i64 (S 0))/\W8.cell? ⟨w7.heap.size,1,none⟩=some (.int .i64 (S 2))/\w7.heap.size<W8.heap.size):=ui (by rw[hW8];exact⟨(dM _ _ _ _).1,(dM _ _ _ _).2,by simp⟩)
 rw[<-hW8]
 clear hW8 hg8 HMK7
 go_loopw [13,14] (λv i wr=>∃k:Nat,k<=3/\i=.int .i64 k/\Gr W8 wr/\wr.ownsRow W8.heap.size 3 1 v ((List.range k).map λi=>(S i:Int)).length (((List.range k).map λi=>(S i:Int)).map (Value.int .i64))) (λ_ i _=>3-(intOf i).toNat)
 case atStart=>exact⟨0,by omega,rfl,.refl _,World.ownsRow_nil _ _ _ _⟩
 case round =>
  obtain⟨k,hk,rfl,hgr,hown⟩:=hrel
  have HGR:=ui hgr
  have HO:=ui hown
  by_cases hlt:k<3
  ·obtain⟨rA,rc,d1,d2,hra,hrc⟩:=HROW.out wr (HG8.out.trans hgr) k hlt
   have HMR:=ui (HMK8.out.keep hgr.size λb _ hb=>hgr.below.block b hb)
   have HMM:=ui HMR.out.made
   have HTA:=ui (λd=>sv nA hA gA rA nc hc gc rc c ls (nightly c.needs.length (f k)) (wr.drewN d) wr.heap.size (Nat.le_refl _) (HMM.out.needs.gr (Nat.le_refl _) ((Gr.refl wr).drewN d)) (HMM.out.herds.keep λb o _=>rfl) (HMM.out.grid.gr (Nat.le_refl _) ((Gr.refl wr).drewN d)) (hra.gr (Nat.le_refl _) ((Gr.refl wr).drewN d)) (by omega) (by omega) HOFF.out (by omega) (λx hx=>Nat.le_trans (HLX.out x hx) (by omega)) (by rw[aO];omega) (by rw[aO];exact hrc) HFO.out (lQ (nP λj hj=>by
    have:=HBD.out j hj
    match k,hlt with
    |0,_=>omega
    |1,_=>omega
    |2,_=>omega) (fz _ _)))
   rw[aO] at HTA
   have hb6:=HMM.out.lt
   have h60:=HMM.out.c0
   have h61:=HMM.out.c1
   have hz4:w4.heap.size<wr.heap.size:=d2
   unfold campV at HTA
   clear hgr hown hra
   go_wp2
   go_region_with (go_at_call 11;refine(HTA.out 1).mono ?_;rintro e w9 ⟨hg9,tA,tk,rfl,ht9⟩)
   all_goals
    have hg10:Gr wr w9:=((Gr.refl wr).drewN 1).trans hg9
    have HTT:=ui (λW (hW:Gr w9 W)=>su tA tk (takenL c (rosOf ls) c.needs.length (nightly c.needs.length (f k))) W w9.heap.size ((ht9.ri λb hb=>hb.2).gr (Nat.le_refl _) hW) (by simp[takenL,nightly];omega) (HSL.out k hlt))
    rw[HSS.out k hlt,show(takenL c (rosOf ls) c.needs.length (nightly c.needs.length (f k))).length=c.needs.length by simp[takenL,nightly]] at HTT
    have HG10:=ui (HGR.out.trans hg10)
    have HO9:=ui (own_keep HO.out λb _ hb=>hg10.below.block b hb)
    have hz10:=hg10.size
    have hln:((List.range k).map λi=>(S i:Int)).length<=3:=by simp;omega
    have HTS:Hid ((List.range (k+1)).map (λi=>(S i:Int))=(List.range k).map (λi=>(S i:Int))++[(S k:Int)]):=ui (by rw[List.range_succ,List.map_append];rfl)
    generalize (List.range k).map (λi=>(S i:Int))=L at HO9 hln HTS HO
    clear HTA hg9 ht9 hg10 HMR HMM h60 h61 hb6 d1 d2 HO
    go_wp2_with fail
    refine(HTT.out _ (.refl _)).mono ?_
    rintro e w' ⟨rfl,rfl⟩
    have hz11:=HG10.out.size
    go_wp2_with (at_builtin;refine gD rfl _ _ rfl W8.heap.size _ _ _ rfl (HO9.out.alloc _) ⟨w9.heap.size,0,none⟩ 1 (.int .i64 (S k)) rfl ?c1 rfl ?c2 ?c3 ?_)
    case c1=>rw[World.cell?_alloc_at _ _ _ _ rfl];rfl
    case c2=>omega
    case c3=>simp;omega
    intro v' w11 hown' hgrow hd
    have HG11:=ui ((HG10.out.alloc _).grown hgrow hd λq hq=>(HO9.out.lt q hq).1)
    have HO11:Hid (w11.ownsRow W8.heap.size 3 1 v' ((List.range (k+1)).map λi=>(S i:Int)).length (((List.range (k+1)).map λi=>(S i:Int)).map (Value.int .i64))):=ui (by rw[HTS.out];simpa using hown')
    clear hown' hgrow hd HTT HO9
    go_wp2
    go_roundw
    case rel=>exact⟨k+1,by omega,by go_num,HG11.out,HO11.out⟩
    case measure=>simp[intOf];omega
  ·have hk3:k=3:=by omega
   subst hk3
   obtain⟨A9,k9,rfl,hri⟩:=RIK_of_own hown
   have HRI:=ui hri
   have hlen3:((List.range 3).map λi=>(S i:Int)).length=3:=rfl
   rw[hlen3]
   obtain⟨b9,o9,rfl,hb9,hc9⟩:=hri (λe=>by cases e)
   have hb9:=hb9.2
   have s0:wr.cell? ⟨b9,o9,none⟩=some (.int .i64 (S 0)):=hc9 0 (S 0) rfl
   have s1:=hc9 1 (S 1) rfl
   have s2:=hc9 2 (S 2) rfl
   have t0:=(hgr.cell (p:=⟨w7.heap.size,0,none⟩) HC11.out.2.2).trans HC11.out.1
   have t1:=(hgr.cell (p:=⟨w7.heap.size,1,none⟩) HC11.out.2.2).trans HC11.out.2.1
   have t2:w7.heap.size<wr.heap.size:=Nat.lt_of_lt_of_le HC11.out.2.2 hgr.size
   have hd1:decide ((S 0:Int)<=S 1)=true:=by simp;omega
   have hd2:decide ((S 1:Int)<=S 2)=true:=by simp;omega
   clear hri hc9 hown HO
   go_wp2
   rw[pH]
   refine dm (tgt:=[.inRegion ops18 [35,36,37]]) ?_
   have el:∃l1,l1=ops18.toList.take 35:=⟨_,rfl⟩
   obtain⟨l1,el⟩:=el
   refine fB 35 (by kernel_rfl) (by kernel_rfl) (by kernel_rfl) el (by rw[el];kernel_rfl) ?_
   have ez:ops18=match cFst gv with|.region _ ops _=>ops|_=>#[]:=rfl
   simp only[gv,cDrop,az,Tryz.f3,Option.getD_some,cSnd,cFst] at ez
   rw[ez] at el
   simp only[List.take_succ_cons,List.take_zero] at el
   subst el
   clear ez
   repeat (go_big_quiet_step (fail))
   refine wpQuiet_nil ?_
   intro _ hw'
   exact⟨rfl,rfl,rfl,rfl⟩
open Go.RowKit Go.Iso Go.Co Go.Conc Go.ConcN Go.Sq
def sB {a:Act}{i:Nat}{v x:Value}{d:Nat}(h:a.tmps.getD i undef=x)(hne:d≠i):(a.put (some d) v).tmps.getD i undef=x:=by
 rw[<-h]
 show(a.tmps.setIfInBounds d v).getD i undef=a.tmps.getD i undef
 simp[Array.getD_eq_getD_getElem?,Array.getElem?_setIfInBounds,hne]
def put_same {a:Act}{v:Value}{d:Nat}(h:d<a.tmps.size):(a.put (some d) v).tmps.getD d undef=v:=by
 show(a.tmps.setIfInBounds d v).getD d undef=v
 simp[Array.getD,h]
def lg {a:Act}{v:Value}{d:Nat}:(a.put (some d) v).tmps.size=a.tmps.size:=Array.size_setIfInBounds
def qQ {ops:Array Oper}{a:Act}{j d:Nat}{b:Bool}(ho:(ops[j]?).bind (·.dst)=some d)(hd:d<a.tmps.size)(h:a.tmps.getD d undef=.bool b):yielded ops a.tmps j=some b:=by
 unfold yielded
 rw[ho]
 have:a.tmps[d]?=some (.bool b):=by
  rw[Array.getD_eq_getD_getElem?,Array.getElem?_eq_getElem hd] at h
  rw[Array.getElem?_eq_getElem hd]
  exact congrArg some h
 simp[this]
noncomputable def in18:LawIn 3 ops18 35 [36,37] [] where
 fn:=Tryz.f3
 o:=ops18.getD 35 default
 d:=144
 t:=2
 n:=146
 N:=tW
 hf:=Tryz.func3
 ho:=by kernel_rfl
 hdst:=by kernel_rfl
 hop:=⟨#[],by kernel_rfl⟩
 plain:=by kernel_rfl
 hres:=by kernel_rfl
 looked:=by decide
 hn:=Tryz.ntmps3
 want a h:=by
  obtain⟨h1,h2,h3,h4⟩:=h
  have hg:(ops18.getD 35 default).guard=some (34,true):=by kernel_rfl
  unfold Region.wanted
  rw[hg]
  dsimp only
  rw[qQ (d:=143) (by kernel_rfl) (by rw[h1];decide) h4];rfl
 hd0 a h:=h.2.1
 pure a h:=by
  obtain⟨h1,h2,h3,h4⟩:=h
  have g1:(ops18.getD 36 default).guard=none:=by kernel_rfl
  have g2:(ops18.getD 37 default).guard=none:=by kernel_rfl
  have o1:(ops18.getD 36 default).op=.pick (.tmp 143) (.tmp 144) (.const (.bool false)):=by kernel_rfl
  have o2:(ops18.getD 37 default).op=.assign (.tmp 145):=by kernel_rfl
  have d1:(ops18.getD 36 default).dst=some 145:=by kernel_rfl
  have d2:(ops18.getD 37 default).dst=some 2:=by kernel_rfl
  have s1:(a.put (some 144) (.bool true)).tmps.size=146:=by rw[lg];exact h1
  refine⟨((a.put (some 144) (.bool true)).put (some 145) (.bool true)).put (some 2) (.bool true),.cons (o:=ops18.getD 36 default) (v:=.bool true) (by kernel_rfl) (bE g1) (by kernel_rfl) (λw=>?_) (.cons (o:=ops18.getD 37 default) (v:=.bool true) (by kernel_rfl) (bE g2) (by kernel_rfl) (λw=>?_) ?_),h2,put_same (by rw[lg,s1];decide)⟩
  ·unfold execOp
   rw[o1]
   have e1:(a.put (some 144) (.bool true)).eval (.tmp 143)=.bool true:=sB h4 (by decide)
   have e2:(a.put (some 144) (.bool true)).eval (.tmp 144)=.bool true:=put_same (by rw[h1];decide)
   simp[e1,e2,asBool]
  ·unfold execOp
   rw[o2,d1]
   have e1:((a.put (some 144) (.bool true)).put (some 145) (.bool true)).eval (.tmp 145)=.bool true:=put_same (by rw[s1];decide)
   simp[e1]
  ·rw[d1,d2];exact .nil _
def pI:codeOk uZ SBy false true az=true:=by kernel_rfl
def numsK (A:Option Addr)(b:Nat):Bool:=match A with|some a=>b==a.block|none=>false
def numsC (A:Option Addr)(n:Nat)(_ i:Nat):Bool:=match A with|some a=>decide (a.off<=i)&&decide (i<a.off+n)|none=>false
def li (b o n:Nat):(⟨b,o,none⟩:Addr).add n=⟨b,o+n,none⟩:=by
 unfold Addr.add
 split
 ·rename_i h
  first
   |(have h0:n=0:=h;subst h0;rfl)
   |(simp at h)
   |(simp at h;subst h;rfl)
 ·rfl
def law18_run {A:Option Addr}{len cap:Nat}{zs:List Int}{W:World}(hz:len<=zs.length)(hA:∀a,A=some a->a.spot=none/\∃C t f,W.heap[a.block]?=some (.cells C t f))(hnil:A=none->len=0)
  (hcell:∀a i,A=some a->i<zs.length->W.cell? (a.add i)=some (.int .i64 (zs.getD i 0))) :
  ∃M last o w' t',runNT Tryz.prog (M+1) (solo (Go.Conc.G (Frame.enter Tryz.prog 3 #[.slice A len cap] .normal) []) W) #[]=(.ended o w',t')/\runN Tryz.prog M (solo (Go.Conc.G (Frame.enter Tryz.prog 3 #[.slice A len cap] .normal) []) W)=.next last/\step Tryz.prog last=.ended o w' /\
   Go.Conc.Good Tryz.prog (λv w'=>v=.bool true/\(w'.os=W.os/\w'.output=W.output)/\W.heap.size<=w'.heap.size/\∀B,B<W.heap.size->w'.heap[B]?=W.heap[B]?) last o w' t':=by
 refine lN (K:=numsK A) (k:=numsC A zs.length) in18 (C:=az) (by kernel_rfl) (by decide) (by decide) (by decide) pI (λS b hb=>?_) (λS=>?_) λτ d=>?_
 ·cases A with
  |none=>cases hb
  |some a =>
   have e:b=a.block:=by simpa [numsK] using hb
   subst e
   obtain⟨hs,C,t,f,h1⟩:=hA a rfl
   refine⟨C,t,f,h1,λi v hk hv=>?_⟩
   simp only[numsC,Bool.and_eq_true,decide_eq_true_eq] at hk
   have:=hcell a (i-a.off) rfl (by omega)
   obtain⟨b,o,s⟩:=a
   dsimp only at hs h1 hk
   subst hs
   rw[li] at this
   simp only[Option.isSome_none,Bool.false_eq_true,if_false,World.cell?,h1] at this
   rw[show o+(i-o)=i by omega,hv] at this
   cases this
   exact .int _ _
 ·cases A with
  |none=>exact .one (.nils _ _)
  |some a =>
   obtain⟨b,o,s⟩:=a
   exact .one (.slice _ _ _ _ ⟨by simp[numsK],rfl⟩)
 ·have hlen:(zs.take len).length=len:=by simp[Nat.min_eq_left hz]
  have:=nQ A cap (zs.take len) (on (ba (numsK A) (numsC A zs.length) W) τ d) (λhne=>?_) _ rfl
  ·rw[hlen] at this
   have e1:in18.n=146:=rfl
   have e2:in18.n-(#[Value.slice A len cap]:Array Value).size=145:=rfl
   rw[e2]
   exact this
  ·cases A with
   |none =>
    have:=hnil rfl
    subst this
    exact absurd rfl hne
   |some a =>
    obtain⟨hs,C,t,f,h1⟩:=hA a rfl
    obtain⟨b,o,s⟩:=a
    dsimp only at hs h1
    subst hs
    refine⟨b,o,rfl,?_,λi x hx=>?_⟩
    ·show b<(ba _ _ W).heap.size
     rw[lJ]
     exact(Array.getElem?_eq_some_iff.1 h1).1
    ·have hi : i < len := by
      have:=(List.getElem?_eq_some_iff.1 hx).1
      omega
     have hi2:i<zs.length:=by omega
     show(ba _ _ W).cell? ⟨b,o+i,none⟩=_
     rw[lK (λ_=>by simp[numsC];omega)]
     have:=hcell ⟨b,o,none⟩ i rfl hi2
     rw[li] at this
     rw[this]
     rw[List.getElem?_take,if_pos hi,List.getElem?_eq_getElem hi2] at hx
     cases hx
     simp[List.getD_eq_getElem?_getD,List.getElem?_eq_getElem hi2]
open Go.RowKit
def typed3:laidOutB Tryz.checked.prog=true/\mapsRowed Tryz.checked.prog=true/\Tryz.checked.prog.plainKeys=true:=Go.ClosedOfChecked.closed_of_checked Tryz.checked (by kernel_rfl) (by kernel_rfl) (by kernel_rfl)
def qR:joinedFacts Tryz.pinned.checked.prog 3 Tryz.f3 Rows.wolfThreatSpec Rows.wolfThreatRow=true:=by
 show joinedFacts Tryz.checked.prog 3 Tryz.f3 Rows.wolfThreatSpec Rows.wolfThreatRow=true
 obtain⟨h1,h2,h3⟩:=typed3
 unfold joinedFacts
 rw[h1,h2,h3]
 kernel_rfl
def sC:Tryz.pinned.checked.prog.funcNamed Rows.wolfThreatRow.func=some 3:=by kernel_rfl
open Go.ChangeShapes Go.WideShapes Go.ChangeAt Go.RowKit Go.Conc
def Tryz.own:ownKnob Tryz.prog.godebug=none:=by kernel_rfl
def Tryz.laidOut:laidOutB Tryz.prog=true:=by kernel_rfl
def Tryz.cells3:Tryz.prog.cellsOf 3=1:=by kernel_rfl
def has_cells {P:Program}{w:World}{r:Reach}{base:Nat}{t e:TypeId}{a:Addr}{len cap:Nat}(ht:P.underlying t=some (.slice e))(h:Value.okWide P w r base t (.slice (some a) len cap)):a.spot=none/\∃C ty f,w.heap[a.block]?=some (.cells C ty f):=by
 unfold Value.okWide at h
 rw[ht] at h
 dsimp only at h
 unfold Cell.okWide at h
 rw[ht] at h
 dsimp only at h
 unfold Cell.ok at h
 rw[ht] at h
 dsimp only at h
 obtain⟨_,_,_,hs,row,cells,hsh,_⟩:=h
 refine⟨hs,?_⟩
 unfold World.shape? at hsh
 cases ho:w.heap[a.block]? with
 |none=>rw[ho] at hsh;cases hsh
 |some o =>
  rw[ho] at hsh
  cases o with
  |cells C ty f=>exact⟨C,ty,f,rfl⟩
  |_=>cases hsh
def gH (os:Os)(started:os.Started)(H:Type)(enc:TypeId×Value->H)(F:Stop.Interp) :
  ReturnsInLeavingWide { calm:=true } Tryz.checked os 3 .any (Rows.wolfThreatSpec.pre6 enc Tryz.prog Tryz.f3 [] false) ((OpenSpec.ofChange Rows.wolfThreatSpec).postWith enc Tryz.prog Tryz.f3 F (outsideKept [.timePasses]) false true false):=by
 refine returnsInLeavingWide_of_change_time (C:=Tryz.checked) Tryz.own started Tryz.func3
  (ChangeSpec.witness6c (enc:=enc) (C:=Tryz.checked) ⟨#[],#[.slice none 0 0],[]⟩ 8 (by kernel_rfl) (by kernel_rfl) (by kernel_rfl) (by kernel_rfl)) ?_
 intro W base args ds gs before hval0 hW _ _ _
 have hval:∀(j:Nat) t v,Tryz.f3.params[j]?=some t->args[j]?=some v->Value.okWide Tryz.prog W .any base t v:=hval0
 have hW':=hW
 obtain⟨p,q,hA0,hV,rfl,_,_⟩:=hW
 have hA:DataW.TrodAll enc Tryz.prog W 0 (λ_=>true) true Tryz.f3.params.toList args.toList ds p:=hA0
 rw[Tryz.params3] at hA hval
 obtain⟨v0,d0,rfl,rfl,h0⟩:=trodAll_one hA
 obtain⟨rfl,rfl⟩:=trodVars_none hV
 have hv0:=hval 0 _ v0 rfl rfl
 obtain⟨a0,len,cap,rfl⟩:=okWide_slice Tryz.underlying22 hv0
 have h0k:=h0
 obtain⟨fuel,hf⟩:=h0
 clear hA0 hval0
 simp only[List.append_nil] at hW'
 have hlt:∀x∈p,x.block<W.heap.size:=λx hx=>by simpa using hW'.lt x hx
 have close : ∀ (zs : List Int), len <= zs.length -> (a0 = none -> len = 0) -> (∀ a i, a0 = some a -> i < zs.length -> W.cell? (a.add i) = some (.int .i64 (zs.getD i 0))) ->
   ∃M last o w' t',runNT Tryz.checked.prog (M+1) (solo (G (Frame.enter Tryz.checked.prog 3 #[.slice a0 len cap] .normal) []) W) #[]=(.ended o w',t') /\
    runN Tryz.checked.prog M (solo (G (Frame.enter Tryz.checked.prog 3 #[.slice a0 len cap] .normal) []) W)=.next last/\step Tryz.checked.prog last=.ended o w' /\
    Conc.Good Tryz.checked.prog (λv W'=>Rows.wolfThreatSpec.post enc Tryz.checked.prog Tryz.f3 false true false false W #[.slice a0 len cap] v { W' with os:=W.os }/\Go.ConcM.OsLater W.os W'.os) last o w' t':=by
  intro zs hz hnil hel
  obtain⟨M,last,o,w',t',h1,h2,h3,h4⟩:=law18_run (cap:=cap) hz (λa e=>by subst e;exact has_cells Tryz.underlying22 hv0) hnil hel
  refine⟨M,last,o,w',t',h1,h2,h3,h4.mono λv hF=>?_⟩
  obtain⟨rfl,⟨e1,e2⟩,e3,e4⟩:=hF
  refine⟨?_,by rw[e1];exact Go.ConcM.OsLater.refl _⟩
  have hbel:Below W.heap.size W { w' with os:=W.os,tape:=W.tape }:=⟨rfl,rfl,e2,e3,λk hk=>e4 k hk⟩
  have hfr:=hbel.frame (λx=>x∈p/\(x∈([]:List MemPlace)\/x∈p\/x∈([]:List MemPlace)))
  have harg:=Below.trod Tryz.laidOut (by kernel_rfl) (of_decide_eq_true (by kernel_rfl)) h0k hbel hlt
  refine⟨_,_,_,[],p,[],hW',?_,?_,rfl,hfr,λh=>by cases h⟩
  ·exact trodAll_mk1 (shut_bool (by first|exact Tryz.underlying1|kernel_rfl) true)
  ·have h2:DataW.Trod enc Tryz.prog { w' with os:=W.os } 0 (λb=>decide (b<W.heap.size)) true 22 (.slice a0 len cap) d0 p:=harg.of_heap (by rfl)
   exact trodAll_mk1 h2
 rcases open_ints Tryz.underlying22 Tryz.underlying3 Tryz.cells3 hf with⟨hcs,hx⟩|⟨a,len',cap',zs,hcs,_,hl,hm,hz,hx,hcell,hwz⟩
 ·simp[Value.cells] at hcs
  obtain⟨rfl,rfl,rfl⟩:=hcs
  exact close [] (by simp) (λ_=>rfl) (λa i e=>by cases e)
 ·simp[Value.cells] at hcs
  obtain⟨rfl,rfl,rfl⟩:=hcs
  simp only[if_true] at hz
  exact close zs (by omega) (λe=>by cases e) (λa' i e hi=>by cases e;exact hcell i hi)
theorem wolfThreat_holds:Rows.WolfThreatSaid :=
 OpenClaim.holds_of_wide_leaving_time 3 Tryz.f3 rfl rfl rfl rfl rfl rfl rfl ⟨rfl,rfl,rfl,rfl,rfl⟩ rfl rfl rfl rfl rfl sC Tryz.func3 qR
  (of_decide_eq_true (by kernel_rfl)) (by unfold Func.isWrapper;first|(rw[if_pos (by decide +kernel)];kernel_rfl)|(rw[if_neg (by decide +kernel)];exact⟨rfl,rfl⟩))
  (λos started H enc _ F=>gH os started H enc F)
end Go.Proofs.YtjmmlkobmhlikaaGreat
