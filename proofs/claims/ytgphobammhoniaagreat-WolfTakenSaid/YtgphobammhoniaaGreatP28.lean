/- What is proved: whatever the input, the law WolfTaken answers true. Conditions: none beyond the statement's own. -/
import Derived.Test.YtgphobammhoniaaGreatP27
import Derived.Test.YtgphobammhoniaaGreatP24
import Derived.Test.YtgphobammhoniaaGreatRows
import Derived.Test.YtgphobammhoniaaGreatChecked
import Derived.Conc.HoldsTime
import Derived.ProofKit
import Derived.ClosedOfChecked
import Derived.Conc.LeavingOf
set_option linter.all false
set_option maxHeartbeats 6400000
set_option maxRecDepth 1000000
namespace Go.Proofs.YtgphobammhoniaaGreat
open Go.RowKit Go.Sq
open Go.Iso (aW au eQ de)
def tO {w0 w1 w2:World}{hb:Nat}{mA:Option Addr}(h:KT (λb=>b=hb\/mA=some ⟨b,0,none⟩) w1 w2)(k:KT (·=hb) w0 w1)(hm:∀b,mA=some ⟨b,0,none⟩->w0.heap.size<=b):KT (·=hb) w0 w2 :=
 ⟨h.os.trans k.os,h.tape.trans k.tape,h.output.trans k.output,Nat.le_trans k.drawn h.drawn,Nat.le_trans k.size h.size,λb hb' hne=>(h.block b (Nat.lt_of_lt_of_le hb' k.size) (by
  rintro(e|e)
  ·exact hne e
  ·exact absurd (hm b e) (by omega))).trans (k.block b hb' hne)⟩
def n8 (A:Option Addr)(cap:Nat)(l:List Int)(w:World)(h:RI w w.heap.size A l)(tmps:Array Value)(ht:tmps=#[Value.slice A l.length cap]++Array.replicate 187 undef) :
  aW ve [.inRegion ops17 [21,22,23],.code .ret] aq (λa _=>tN a) ⟨tmps,[]⟩ w:=by
 have HNH:=uq (pI A cap l w h)
 clear h
 rw[pP]
 subst ht
 simp only[Array.replicate_succ,Array.replicate_zero,List.push_toArray,List.append_toArray,List.nil_append,List.cons_append]
 refine au λK hK=>?_
 have ez:aX 0=cFst (cDrop 0 aq):=rfl
 simp only[cDrop,aq,Tryz.f3,Option.getD_some,cSnd,cFst] at ez
 rw[ez]
 clear ez
 go_wp2
 refine au λK hK=>?_
 have ez:aX 1=cFst (cDrop 1 aq):=rfl
 simp only[cDrop,aq,Tryz.f3,Option.getD_some,cSnd,cFst] at ez
 rw[ez]
 clear ez
 go_wp2_with fail
 refine HNH.out.mono ?_
 rintro e w1 ⟨rfl,hh1,hg1⟩
 have HCO:=uq (qU _ _ A cap l 0 w1 hh1 (by omega))
 have hlt1:=hh1.lt
 clear hh1 hg1 HNH
 go_wp2
 refine au λK hK=>?_
 have ez:aX 2=cFst (cDrop 2 aq):=rfl
 simp only[cDrop,aq,Tryz.f3,Option.getD_some,cSnd,cFst] at ez
 rw[ez]
 clear ez
 go_wp2_with fail
 refine HCO.out.mono ?_
 rintro e w2 ⟨c,nA,hA,nc,hc,rfl,hok,hck,hneed,hherd,hh2,hkh2⟩
 have HOK:=uq hok
 have HCK:=uq hck
 obtain⟨W2,hW2⟩:∃W2:World,W2=w2.alloc (.cells #[.slice nA c.needs.length nc,.slice hA c.herders.length hc] 27):=⟨_,rfl⟩
 have hz2:=hkh2.size
 have HN2:=uq hneed
 have HH2:=uq hherd
 have HZ2:Hid (W2.heap.size=w2.heap.size+1):=uq (by rw[hW2];simp)
 have HCB:Hid (W2.cell? ⟨w2.heap.size,0,none⟩=some (.slice nA c.needs.length nc)/\W2.cell? ⟨w2.heap.size,1,none⟩=some (.slice hA c.herders.length hc)):=uq (by
  rw[hW2,World.cell?_alloc_at _ _ _ _ rfl,World.cell?_alloc_at _ _ _ _ rfl];exact⟨rfl,rfl⟩)
 have hgw2:Gr w2 W2:=hW2▸(Gr.refl w2).alloc _
 have HGW2:=uq hgw2
 have HRO:=uq (nK _ _ A nA hA cap nc hc l 1000 c.needs.length c.herders.length W2 ((hh2.gr hgw2).more (by omega)) (by omega) (by have:=HOK.out.n5;omega) (by have:=HOK.out.h4;omega))
 have HW2:=uq hW2
 unfold campV
 clear HCO hneed hherd hh2 hkh2 hok hck hW2 hgw2
 go_wp2
 rw[<-HW2.out]
 obtain⟨hcb0,hcb1⟩:=HCB.out
 refine au λK hK=>?_
 have ez:aX 3=cFst (cDrop 3 aq):=rfl
 simp only[cDrop,aq,Tryz.f3,Option.getD_some,cSnd,cFst] at ez
 rw[ez]
 clear ez
 have hbl:w2.heap.size<W2.heap.size:=by have:=HZ2.out;omega
 go_wp2_with fail
 refine HRO.out.mono ?_
 rintro e w4 ⟨v,ls,xs,rfl,hog,hll,hall,hh4,hkh4⟩
 have hmk:MadeK c nA hA v w2.heap.size nc hc w1.heap.size ls xs w4:=by
  have hsz:=hkh4.size
  have hz:=HZ2.out
  have hk:∀b o,w1.heap.size<=b/\b<w2.heap.size->w4.cell? ⟨b,o,none⟩=w2.cell? ⟨b,o,none⟩:=λb o hb=>(World.cell?_of_block (a:=⟨b,o,none⟩) (hkh4.block b (by omega) (by omega))).trans (HGW2.out.cell (p:=⟨b,o,none⟩) hb.2)
  exact⟨⟨hz2,by omega⟩,(World.cell?_of_block (hkh4.block w2.heap.size hbl (by omega))).trans hcb0,(World.cell?_of_block (hkh4.block w2.heap.size hbl (by omega))).trans hcb1,bI HN2.out (λb hb=>⟨hb.1,by omega⟩) hk,ir HH2.out (λb hb=>⟨hb.1,by omega⟩) hk,⟨own_base hog.row (by omega),λi x hi=>by
   obtain⟨u,h1,h2⟩:=hog.cells i x hi
   exact⟨u,h1,own_base h2 (by omega)⟩⟩⟩
 have HMK:=uq hmk
 have HLL:=uq hll
 have HALL:=uq hall
 have HFO:=uq (jH HCK.out hll hall)
 have HLX:Hid (∀x∈ls,x.length<=4):=uq λx hx=>by
  obtain⟨p,rfl⟩:=hall x hx
  exact Nat.le_trans (dN _ _) HOK.out.h4
 have hn5:=HOK.out.n5
 have hn1:=HOK.out.n1
 have hm4:=HOK.out.h4
 have hm1:=HOK.out.h1
 have HOFF:Hid (∀h∈c.herders,h.off.length<=4611686018427387904):=uq λh hh=>Nat.le_trans (HOK.out.off h hh).1 (by omega)
 have hl5:ls.length<=5:=by omega
 have hlt4:w.heap.size<w1.heap.size:=hlt1
 obtain⟨gA,gc,hv,_⟩:=hog.grAt
 subst hv
 have HH4:=uq hh4
 have HRD:=uq (pO _ _ A nA hA cap nc hc l 2000 c.needs.length c.herders.length w4 (hh4.more (by have:c.needs.length*c.herders.length<=5*4:=Nat.mul_le_mul hn5 hm4;omega)) (by omega) (by omega))
 have hb5:=hmk.bd.2
 have h50:=hmk.c0
 have h51:=hmk.c1
 clear HRO hog hall hh4 hkh4 hmk hcb0 hcb1 hbl hll
 go_wp2
 refine au λK hK=>?_
 have ez:aX 4=cFst (cDrop 4 aq):=rfl
 simp only[cDrop,aq,Tryz.f3,Option.getD_some,cSnd,cFst] at ez
 rw[ez]
 clear ez
 go_wp2_with fail
 refine HRD.out.mono ?_
 rintro e w6 ⟨rv,rs,rfl,hrow,hrl,hrn,hri,hh6,hk6⟩
 have HH6:=uq hh6
 have hsz4:w1.heap.size<=w4.heap.size:=by have:=HMK.out.bd;omega
 obtain⟨rA,rc,rfl,hra,hrc⟩:=RsK_own (own_base hrow (show w1.heap.size<=w4.heap.size+1 by omega))
 have HMK6:=uq (HMK.out.deal hlt4 hk6)
 have HM6:=uq HMK6.out.made
 have HRA:=uq hra
 have HRI:=uq hri
 have HRN:=uq hrn
 have HRE:=uq (gV hri hrn)
 have hb6:=HM6.out.lt
 have h60:=HM6.out.c0
 have h61:=HM6.out.c1
 have hr5:rs.length<=5:=by omega
 have hz16:w1.heap.size<=w6.heap.size:=by have:=hk6.size;omega
 have HTA:=uq (jm nA hA gA rA nc hc gc rc c ls rs w6 w6.heap.size (Nat.le_refl _) HM6.out.needs HM6.out.herds HM6.out.grid (hra.rs λb hb=>hb.2) (by omega) (by omega) HOFF.out (by omega) (λx hx=>Nat.le_trans (HLX.out x hx) (by omega)) (by omega) hrc HFO.out HRE.out)
 unfold campV at HTA
 clear HRD hrow hrn hri hk6 hra h50 h51 hb5 HMK HH4 hh6 hsz4
 go_wp2
 refine au λK hK=>?_
 have ez:aX 5=cFst (cDrop 5 aq):=rfl
 simp only[cDrop,aq,Tryz.f3,Option.getD_some,cSnd,cFst] at ez
 rw[ez]
 clear ez
 go_wp2_with fail
 refine HTA.out.mono ?_
 rintro e w7 ⟨hg7,aA,ak,rfl,ht7⟩
 have HT7:=uq (bI ht7 (K':=λb=>w1.heap.size<=b/\b<w7.heap.size) (λb hb=>⟨by omega,hb.2⟩) λ_ _ _=>rfl)
 have HTIN:=uq (gw HOK.out (rosOf ls) c.needs.length rs)
 have HTBD:=uq (pR HOK.out (rosOf ls) HRI.out HRN.out)
 have HTSU:=uq (n7 HOK.out (rosOf ls) (n:=c.needs.length) HRN.out)
 have HTLE:Hid ((takenL c (rosOf ls) c.needs.length rs).length=rs.length):=uq (by simp[takenL])
 have HTMO:=uq (λrs' hl hm hn'=>nZ HOK.out (r:=rosOf ls) (n:=c.needs.length) (rs:=rs) (rs':=rs') hl hm HRN.out hn')
 have HTFE:=uq (λk hk=>lP HOK.out (n:=c.needs.length) (k:=k) (rs:=rs) HALL.out hk HRN.out)
 obtain⟨T,hT⟩:∃T,T=takenL c (rosOf ls) c.needs.length rs:=⟨_,rfl⟩
 rw[<-hT] at HT7 HTIN HTBD HTSU HTLE HTMO HTFE
 clear hT
 have HMK7:=uq (HMK6.out.keep hg7.size λb _ hb=>hg7.below.block b hb)
 have HM7:=uq HMK7.out.made
 have HRA7:=uq (en HRA.out (W':=w7) (K':=λb=>w1.heap.size<=b/\b<w7.heap.size) (λb hb=>⟨hb.1,Nat.lt_of_lt_of_le hb.2 hg7.size⟩) λb o hb=>hg7.cell hb.2)
 have HH7:=uq (HH6.out.gr hg7)
 have HLO:=uq (tM nA hA gA rA nc hc gc rc c ls rs w7 w7.heap.size (Nat.le_refl _) HM7.out.needs HM7.out.herds HM7.out.grid (HRA7.out.rs λb hb=>hb.2) (by omega) (by omega) HOFF.out (by omega) (λx hx=>Nat.le_trans (HLX.out x hx) (by omega)) (by omega) hrc HFO.out HRE.out)
 have hb7:=HM7.out.lt
 have h70:=HM7.out.c0
 have h71:=HM7.out.c1
 unfold campV at HLO
 clear HTA hg7 ht7 h60 h61 hb6 HM6 HMK6 HRA HH6
 go_wp2
 refine au λK hK=>?_
 have ez:aX 6=cFst (cDrop 6 aq):=rfl
 simp only[cDrop,aq,Tryz.f3,Option.getD_some,cSnd,cFst] at ez
 rw[ez]
 clear ez
 go_wp2_with fail
 refine HLO.out.mono ?_
 rintro e w8 ⟨hg8,lA,lk,rfl,hl8⟩
 have HLIN:=uq (qZ HOK.out (rosOf ls) c.needs.length rs)
 have HLBD:=uq (q8 HOK.out (rosOf ls) c.needs.length rs)
 have HLLE:Hid ((lostL c (rosOf ls) c.needs.length rs).length=c.herders.length):=uq (by simp[lostL])
 obtain⟨LL,hLL⟩:∃LL,LL=lostL c (rosOf ls) c.needs.length rs:=⟨_,rfl⟩
 rw[<-hLL] at hl8 HLIN HLBD HLLE HTSU
 clear hLL
 have HL8:=uq hl8
 have HMK8:=uq (HMK7.out.keep hg8.size λb _ hb=>hg8.below.block b hb)
 have HM8:=uq HMK8.out.made
 have HRA8:=uq (en HRA7.out (W':=w8) (K':=λb=>w1.heap.size<=b/\b<w8.heap.size) (λb hb=>⟨hb.1,Nat.lt_of_lt_of_le hb.2 hg8.size⟩) λb o hb=>hg8.cell hb.2)
 have HT8:=uq (bI HT7.out (W':=w8) (K':=λb=>w1.heap.size<=b/\b<w8.heap.size) (λb hb=>⟨hb.1,Nat.lt_of_lt_of_le hb.2 hg8.size⟩) λb o hb=>hg8.cell hb.2)
 have HH8:=uq (HH7.out.gr hg8)
 have HSA:=uq (λW (h:RIK W (λb=>w1.heap.size<=b/\b<W.heap.size) aA T)=>fi aA ak T W W.heap.size (h.ri λb hb=>hb.2) (by rw[HTLE.out];omega) HTIN.out)
 have HSL:=uq (fi lA lk LL w8 w8.heap.size hl8 (by rw[HLLE.out];omega) HLIN.out)
 rw[HTLE.out] at HSA
 rw[HLLE.out] at HSL
 have hsum:=HTSU.out
 have hb8:=HM8.out.lt
 have h81:=HM8.out.c1
 clear HLO hg8 hl8 h70 h71 hb7 HM7 HMK7 HRA7 HT7 HH7
 generalize hs2:LL.sum=s2 at HSL hsum
 clear hs2
 go_wp2
 refine au λK hK=>?_
 have ez:aX 7=cFst (cDrop 7 aq):=rfl
 simp only[cDrop,aq,Tryz.f3,Option.getD_some,cSnd,cFst] at ez
 rw[ez]
 clear ez
 go_wp2_with fail
 refine(HSA.out w8 HT8.out).mono ?_
 rintro e w' ⟨rfl,rfl⟩
 go_wp2_with fail
 refine HSL.out.mono ?_
 rintro e w' ⟨rfl,rfl⟩
 clear HSL
 go_wp2
 refine au λK hK=>?_
 have ez:aX 8=cFst (cDrop 8 aq):=rfl
 simp only[cDrop,aq,Tryz.f3,Option.getD_some,cSnd,cFst] at ez
 rw[ez]
 clear ez
 refine qW HM8.out HL8.out HLLE.out hm4 HLBD.out λw9 hg9=>?_
 intros
 have HMK9:=uq (HMK8.out.keep hg9.size λb _ hb=>hg9.below.block b hb)
 have HRA9:=uq (en HRA8.out (W':=w9) (K':=λb=>w1.heap.size<=b/\b<w9.heap.size) (λb hb=>⟨hb.1,Nat.lt_of_lt_of_le hb.2 hg9.size⟩) λb o hb=>hg9.cell hb.2)
 have HT9:=uq (bI HT8.out (W':=w9) (K':=λb=>w1.heap.size<=b/\b<w9.heap.size) (λb hb=>⟨hb.1,Nat.lt_of_lt_of_le hb.2 hg9.size⟩) λb o hb=>hg9.cell hb.2)
 have HH9:=uq (HH8.out.gr hg9)
 have hz19:w1.heap.size<=w9.heap.size:=by have:=HMK9.out.bd;omega
 have HCR:=uq (lO rA rc rs w9 w9.heap.size (HRA9.out.rs λb hb=>hb.2) (Nat.le_refl _) (by omega))
 clear hg9 HMK8 HM8 HRA8 HT8 HL8 HH8 HLIN HLBD HLLE HTSU hb8 h81 hsum
 apply hK
 clear hK
 refine au λK hK=>?_
 have ez:aX 9=cFst (cDrop 9 aq):=rfl
 simp only[cDrop,aq,Tryz.f3,Option.getD_some,cSnd,cFst] at ez
 rw[ez]
 clear ez
 go_wp2_with fail
 refine HCR.out.mono ?_
 rintro e w10 ⟨mv,rfl,hmo,hg10⟩
 obtain⟨mA,mc,rfl,_,hmc⟩:=RsK_own hmo
 have HMO:=uq hmo
 have HMB:=uq (λb (e:mA=some ⟨b,0,none⟩)=>hmo.lt b (by rw[e];rfl))
 have hm10:=(HMK9.out.keep hg10.size λb _ hb=>hg10.below.block b hb).made
 have HCG:=uq (nW gA gc ls w10 hm10.grid (by omega) λx hx=>Nat.le_trans (HLX.out x hx) (by omega))
 have HG10:=uq hg10
 have hz10:=hg10.size
 clear HCR hmo hg10 hm10
 go_wp2_with fail
 refine HCG.out.mono ?_
 rintro e w11 ⟨fv,fxs,rfl,hfg,hg11⟩
 obtain⟨fA,fc,rfl,_⟩:=hfg.grAt
 have HFG:=uq hfg
 have hgg:=HG10.out.trans hg11
 have HKT:=uq (uu (T:=(·=w.heap.size)) hgg)
 have HMO11:=uq (aE HMO.out λb _ hb=>hg11.below.block b hb)
 have HH11:=uq (HH9.out.gr hgg)
 have HRA11:=uq (en HRA9.out (W':=w11) (K':=λb=>b≠w.heap.size/\b<w9.heap.size) (λb hb=>⟨by omega,hb.2⟩) λb o hb=>hgg.cell hb.2)
 have HT11:=uq (bI HT9.out (W':=w11) (K':=λb=>b≠w.heap.size/\b<w9.heap.size) (λb hb=>⟨by omega,hb.2⟩) λb o hb=>hgg.cell hb.2)
 have hz11:=hg11.size
 clear HCG hfg hgg hg11 HMO
 go_wp2
 refine au λK hK=>?_
 have ez:aX 10=cFst (cDrop 10 aq):=rfl
 simp only[cDrop,aq,Tryz.f3,Option.getD_some,cSnd,cFst] at ez
 rw[ez]
 clear ez
 refine pQ HH11.out (by omega) HMO11.out (by omega) HRA11.out HT11.out (by omega) HTLE.out hr5 (λq hq=>(HRI.out q hq).2) HTBD.out λw12 hw12=>?_
 intros
 obtain⟨hh12,hkt12,rs',hl',hm',hown12⟩:=hw12
 have HK12:=uq (tO hkt12 HKT.out λb e=>(HMB.out b e).1)
 have HIN':=uq (sM hl' hm' HRI.out HRN.out)
 have HRE':=uq (gV HIN'.out.1 HIN'.out.2)
 have HSM:=uq (HTMO.out rs' hl' hm' HIN'.out.2)
 have HL':=uq hl'
 have HMO12:=uq hown12
 have HFG12:=uq (HFG.out.keep' (w':=w12) λb hb hl=>hkt12.block b hl (by
  rintro(e|e)
  ·omega
  ·have:=(HMB.out b e).2;omega))
 have hz12:=hkt12.size
 have HUP:=uq (dE _ _ A cap l _ (ls.length-1) w12 hh12 (by omega) (by omega))
 have hlp:1<=ls.length:=by have:=HLL.out;omega
 clear hh12 hkt12 hl' hm' hown12 HH11 HRA11 HT11 HMO11 HFG
 apply hK
 clear hK
 refine au λK hK=>?_
 have ez:aX 11=cFst (cDrop 11 aq):=rfl
 simp only[cDrop,aq,Tryz.f3,Option.getD_some,cSnd,cFst] at ez
 rw[ez]
 clear ez
 go_wp2_with fail
 refine HUP.out.mono ?_
 rintro e w13 ⟨⟨k,rfl,hk⟩,hh13,hkt13⟩
 have hkl:k<ls.length:=by omega
 have HK13:=uq (HK12.out.trans hkt13)
 have HFG13:=uq (HFG12.out.keep' (w':=w13) λb hb hl=>hkt13.block b hl (by omega))
 have HMO13:=uq (cY HMO12.out (by omega) hkt13)
 have hz13:=hkt13.size
 obtain⟨fg,hfa,hfb⟩:∃fg,fA=some ⟨fg,0,none⟩/\w10.heap.size<=fg/\fg<w13.heap.size:=by
  rcases HFG13.out.row.2 with⟨_,h0⟩|⟨g,cap,cur,hv,hb,hg,_⟩
  ·omega
  ·exact⟨g,by injection hv,hb,(Array.getElem?_eq_some_iff.1 hg).1⟩
 subst hfa
 obtain⟨u,hu,ho⟩:=HFG13.out.cells k _ (List.getElem?_eq_getElem hkl)
 have hcell:=HFG13.out.row.cellAt k (by omega)
 have hfz:=HFG13.out.row.frozenAt k
 rw[hu] at hcell
 have HTF:=uq (HTFE.out k hkl)
 have HCH:=uq (lb HALL.out hkl)
 have HFO':=uq (jH (ls:=ls.set k (ls[k].drop 1)) HCK.out (by rw[List.length_set];exact HLL.out) HCH.out)
 have HLX':Hid (∀x∈ls.set k (ls[k].drop 1),x.length<=4):=uq λx hx=>by
  obtain⟨p,rfl⟩:=HCH.out x hx
  exact Nat.le_trans (dN _ _) hm4
 have hmr13:RsAt w13 w13.heap.size mA rs':=by
  have:=HMO13.out
  rw[<-HL'.out] at this
  obtain⟨A2,c2,e2,h2,_⟩:=RsAt_own this
  injection e2 with e2
  subst e2
  exact h2
 have HMR13:=uq hmr13
 have hmc':rs'.length<=mc:=by rw[HL'.out];exact hmc
 have HEND : Hid (∀ W : World, KT (· = w.heap.size) w9 W -> GrAt W W.heap.size (some ⟨fg, 0, none⟩) (ls.set k (ls[k].drop 1)) -> RsAt W W.heap.size mA rs' ->
   MadeK c nA hA (.slice gA ls.length gc) w2.heap.size nc hc w1.heap.size ls xs W/\RsAt W W.heap.size rA rs/\RI W W.heap.size aA T):=uq λW hW _ _ =>
  ⟨HMK9.out.deal hlt4 hW,(en HRA9.out (W':=W) (K':=λb=>b<W.heap.size) (λb hb=>Nat.lt_of_lt_of_le hb.2 hW.size) λb o hb=>World.cell?_of_block (hW.block b hb.2 (by omega))).rs λb hb=>hb,(bI HT9.out (W':=W) (K':=λb=>b<W.heap.size) (λb hb=>Nat.lt_of_lt_of_le hb.2 hW.size) λb o hb=>World.cell?_of_block (hW.block b hb.2 (by omega))).ri λb hb=>hb⟩
 clear HUP hh13 hkt13 hu hmr13
 by_cases hrow:ls[k].length=0
 ·have hr0:ls[k]=[]:=List.eq_nil_of_length_eq_zero hrow
  rw[hr0] at ho
  have hset:ls.set k (ls[k].drop 1)=ls:=by
   rw[hr0]
   refine List.ext_getElem? λi=>?_
   by_cases e:i=k
   ·subst e;rw[List.getElem?_set_self hkl,List.getElem?_eq_getElem hkl,hr0];rfl
   ·rw[List.getElem?_set_ne (Ne.symm e)]
  obtain⟨uA,uc,rfl,_⟩:=uv ho
  have hgr13:GrAt w13 w13.heap.size (some ⟨fg,0,none⟩) (ls.set k (ls[k].drop 1)):=by
   rw[hset]
   obtain⟨A2,c2,e2,h2⟩:=HFG13.out.grAt
   injection e2 with e2
   subst e2
   exact h2
  obtain⟨e1,e2,e3⟩:=HEND.out w13 HK13.out hgr13 HMR13.out
  have HE1:=uq e1
  have HE2:=uq e2
  have HE3:=uq e3
  have HGF:=uq hgr13
  clear hset hr0 hgr13 e1 e2 e3 ho hrow
  go_wp2
  exact l17_end HE1.out HE2.out HE3.out HGF.out HMR13.out hrc hmc' HL'.out (List.length_set ..) HOK.out HFO.out HFO'.out HRE.out HRE'.out HOFF.out HLX.out HLX'.out hl5 hr5 HTLE.out HTIN.out HSM.out HTF.out
 ·obtain⟨ug,uc,rfl,hub,hul⟩:=own_slice ho (by omega)
  have hcap:ls[k].length<=uc:=by
   rcases ho.2 with⟨h,_⟩|⟨g2,cap2,cur2,h,_,_,hc2,_⟩
   ·cases h
   ·injection h with _ _ h;subst h;exact hc2
  have hug:ug≠fg:=λe=>by
   have:=dx (by decide) ho HFG13.out.row (g:=ug) rfl
   exact this (by rw[e];rfl)
  have hrd:RIK w13 (λb=>b≠fg/\b<w13.heap.size) (some ⟨ug,0+1,none⟩) (ls[k].drop 1):=sL (λi x hx=>by
   obtain⟨A2,c2,e2,h2⟩:=uv ho
   obtain⟨b,o,e3,_,h3⟩:=h2 (λe=>by rw[e] at hx;simp at hx)
   injection e2 with e2
   subst e2
   injection e3 with e3
   injection e3 with e3 e4
   subst e3 e4
   exact h3 i x hx) ⟨hug,hul⟩
  have hdl:(ls[k].drop 1).length=ls[k].length-1:=by rw[List.length_drop]
  have hgp:∀(a:Option Addr) (c':Nat),(a=some ⟨ug,1,none⟩\/ls[k].length=1)->GrAt (w13.setCell ⟨fg,k,none⟩ (.slice a (ls[k].drop 1).length c')) w13.heap.size (some ⟨fg,0,none⟩) (ls.set k (ls[k].drop 1)):=λa c' ha=>qY (c':=c') HFG13.out hkl (by
   rcases ha with rfl|ha
   ·exact hrd
   ·intro hn
    exact absurd (List.eq_nil_of_length_eq_zero (by rw[hdl];omega)) hn)
  rw[hdl] at hgp
  have HGP:=uq hgp
  have hn4:ls[k].length<=4:=HLX.out _ (List.getElem_mem hkl)
  generalize hN:ls[k].length=N at hcell hrow hcap HGP hn4 ho
  obtain⟨N',rfl⟩:∃N',N=N'+1:=⟨N-1,by omega⟩
  have HFIN : Hid (∀ (a : Option Addr) (c' : Nat), (a = some ⟨ug, 1, none⟩ ∨ N' = 0) -> GrAt (w13.setCell ⟨fg, k, none⟩ (.slice a N' c')) (w13.setCell ⟨fg, k, none⟩ (.slice a N' c')).heap.size (some ⟨fg, 0, none⟩) (ls.set k (ls[k].drop 1)) ∧
    RsAt (w13.setCell ⟨fg,k,none⟩ (.slice a N' c')) (w13.setCell ⟨fg,k,none⟩ (.slice a N' c')).heap.size mA rs'/\KT (·=w.heap.size) w9 (w13.setCell ⟨fg,k,none⟩ (.slice a N' c'))):=uq λa c' ha=>by
   have hsz:(w13.setCell ⟨fg,k,none⟩ (.slice a N' c')).heap.size=w13.heap.size:=by simp[World.setCell]
   refine⟨by rw[hsz];exact HGP.out a c' (ha.imp_right λh=>by omega),?_,HK13.out.set (p:=⟨fg,k,none⟩) (by show _<=fg;omega) _⟩
   have hm:∀g,(Value.slice mA rs.length mc).ownBlock=some g->g<w10.heap.size:=λg hg=>by
    have e:∃b,mA=some ⟨b,0,none⟩/\b=g:=by
     rcases HMO13.out.2 with⟨h,_⟩|⟨g2,c2,_,h,_⟩
     ·injection h with h;subst h;cases hg
     ·injection h with h;subst h;exact⟨g2,rfl,by injection hg⟩
    obtain⟨b,e1,rfl⟩:=e
    exact(HMB.out b e1).2
   have:=aE (w':=w13.setCell ⟨fg,k,none⟩ (.slice a N' c')) HMO13.out λg hg _=>Below.heap_setCell _ _ _ _ (by have:=hm g hg;show g≠fg;omega)
   rw[<-HL'.out] at this
   obtain⟨A2,c2,e2,h2,_⟩:=RsAt_own this
   injection e2 with e2
   subst e2
   exact h2
  clear hgp hrd hN hdl ho
  go_wp2
  all_goals first
   |(obtain⟨f1,f2,f3⟩:=HFIN.out (some ⟨ug,1,none⟩) _ (.inl rfl);obtain⟨e1,e2,e3⟩:=HEND.out _ f3 f1 f2;exact l17_end e1 e2 e3 f1 f2 hrc hmc' HL'.out (List.length_set ..) HOK.out HFO.out HFO'.out HRE.out HRE'.out HOFF.out HLX.out HLX'.out hl5 hr5 HTLE.out HTIN.out HSM.out HTF.out)
   |(obtain⟨f1,f2,f3⟩:=HFIN.out (some ⟨ug,0,none⟩) _ (.inr (by omega));obtain⟨e1,e2,e3⟩:=HEND.out _ f3 f1 f2;exact l17_end e1 e2 e3 f1 f2 hrc hmc' HL'.out (List.length_set ..) HOK.out HFO.out HFO'.out HRE.out HRE'.out HOFF.out HLX.out HLX'.out hl5 hr5 HTLE.out HTIN.out HSM.out HTF.out)
open Go.RowKit Go.Iso Go.Co Go.Conc Go.ConcN Go.Sq
def sN {a:Act}{i:Nat}{v x:Value}{d:Nat}(h:a.tmps.getD i undef=x)(hne:d≠i):(a.put (some d) v).tmps.getD i undef=x:=by
 rw[<-h]
 show(a.tmps.setIfInBounds d v).getD i undef=a.tmps.getD i undef
 simp[Array.getD_eq_getD_getElem?,Array.getElem?_setIfInBounds,hne]
def put_same {a:Act}{v:Value}{d:Nat}(h:d<a.tmps.size):(a.put (some d) v).tmps.getD d undef=v:=by
 show(a.tmps.setIfInBounds d v).getD d undef=v
 simp[Array.getD,h]
def ld {a:Act}{v:Value}{d:Nat}:(a.put (some d) v).tmps.size=a.tmps.size:=Array.size_setIfInBounds
def q9 {ops:Array Oper}{a:Act}{j d:Nat}{b:Bool}(ho:(ops[j]?).bind (·.dst)=some d)(hd:d<a.tmps.size)(h:a.tmps.getD d undef=.bool b):yielded ops a.tmps j=some b:=by
 unfold yielded
 rw[ho]
 have:a.tmps[d]?=some (.bool b):=by
  rw[Array.getD_eq_getD_getElem?,Array.getElem?_eq_getElem hd] at h
  rw[Array.getElem?_eq_getElem hd]
  exact congrArg some h
 simp[this]
noncomputable def in17:LawIn 3 ops17 21 [22,23] [] where
 fn:=Tryz.f3
 o:=ops17.getD 21 default
 d:=186
 t:=2
 n:=188
 N:=tN
 hf:=Tryz.func3
 ho:=by kernel_rfl
 hdst:=by kernel_rfl
 hop:=⟨#[],by kernel_rfl⟩
 plain:=by kernel_rfl
 hres:=by kernel_rfl
 looked:=by decide
 hn:=Tryz.ntmps3
 want a h:=by
  obtain⟨h1,h2,h3,h4⟩:=h
  have hg:(ops17.getD 21 default).guard=some (20,true):=by kernel_rfl
  unfold Region.wanted
  rw[hg]
  dsimp only
  rw[q9 (d:=185) (by kernel_rfl) (by rw[h1];decide) h4];rfl
 hd0 a h:=h.2.1
 pure a h:=by
  obtain⟨h1,h2,h3,h4⟩:=h
  have g1:(ops17.getD 22 default).guard=none:=by kernel_rfl
  have g2:(ops17.getD 23 default).guard=none:=by kernel_rfl
  have o1:(ops17.getD 22 default).op=.pick (.tmp 185) (.tmp 186) (.const (.bool false)):=by kernel_rfl
  have o2:(ops17.getD 23 default).op=.assign (.tmp 187):=by kernel_rfl
  have d1:(ops17.getD 22 default).dst=some 187:=by kernel_rfl
  have d2:(ops17.getD 23 default).dst=some 2:=by kernel_rfl
  have s1:(a.put (some 186) (.bool true)).tmps.size=188:=by rw[ld];exact h1
  refine⟨((a.put (some 186) (.bool true)).put (some 187) (.bool true)).put (some 2) (.bool true),.cons (o:=ops17.getD 22 default) (v:=.bool true) (by kernel_rfl) (bH g1) (by kernel_rfl) (λw=>?_) (.cons (o:=ops17.getD 23 default) (v:=.bool true) (by kernel_rfl) (bH g2) (by kernel_rfl) (λw=>?_) ?_),h2,put_same (by rw[ld,s1];decide)⟩
  ·unfold execOp
   rw[o1]
   have e1:(a.put (some 186) (.bool true)).eval (.tmp 185)=.bool true:=sN h4 (by decide)
   have e2:(a.put (some 186) (.bool true)).eval (.tmp 186)=.bool true:=put_same (by rw[h1];decide)
   simp[e1,e2,asBool]
  ·unfold execOp
   rw[o2,d1]
   have e1:((a.put (some 186) (.bool true)).put (some 187) (.bool true)).eval (.tmp 187)=.bool true:=put_same (by rw[s1];decide)
   simp[e1]
  ·rw[d1,d2];exact .nil _
def pU:codeOk ve SBy false true aq=true:=by kernel_rfl
def numsK (A:Option Addr)(b:Nat):Bool:=match A with|some a=>b==a.block|none=>false
def numsC (A:Option Addr)(n:Nat)(_ i:Nat):Bool:=match A with|some a=>decide (a.off<=i)&&decide (i<a.off+n)|none=>false
def lf (b o n:Nat):(⟨b,o,none⟩:Addr).add n=⟨b,o+n,none⟩:=by
 unfold Addr.add
 split
 ·rename_i h
  first
   |(have h0:n=0:=h;subst h0;rfl)
   |(simp at h)
   |(simp at h;subst h;rfl)
 ·rfl
def law17_run {A:Option Addr}{len cap:Nat}{zs:List Int}{W:World}(hz:len<=zs.length)(hA:∀a,A=some a->a.spot=none/\∃C t f,W.heap[a.block]?=some (.cells C t f))(hnil:A=none->len=0)
  (hcell:∀a i,A=some a->i<zs.length->W.cell? (a.add i)=some (.int .i64 (zs.getD i 0))) :
  ∃M last o w' t',runNT Tryz.prog (M+1) (solo (Go.Conc.G (Frame.enter Tryz.prog 3 #[.slice A len cap] .normal) []) W) #[]=(.ended o w',t')/\runN Tryz.prog M (solo (Go.Conc.G (Frame.enter Tryz.prog 3 #[.slice A len cap] .normal) []) W)=.next last/\step Tryz.prog last=.ended o w' /\
   Go.Conc.Good Tryz.prog (λv w'=>v=.bool true/\(w'.os=W.os/\w'.output=W.output)/\W.heap.size<=w'.heap.size/\∀B,B<W.heap.size->w'.heap[B]?=W.heap[B]?) last o w' t':=by
 refine lN (K:=numsK A) (k:=numsC A zs.length) in17 (C:=aq) (by kernel_rfl) (by decide) (by decide) (by decide) pU (λS b hb=>?_) (λS=>?_) λτ d=>?_
 ·cases A with
  |none=>cases hb
  |some a =>
   have e:b=a.block:=by simpa [numsK] using hb
   subst e
   obtain⟨hs,C,t,f,h1⟩:=hA a rfl
   refine⟨C,t,f,h1,λi v hk hv=>?_⟩
   simp only[numsC,Bool.and_eq_true,decide_eq_true_eq] at hk
   have:=hcell a (i-a.off) rfl (by omega)
   obtain⟨b,o,s⟩:=a
   dsimp only at hs h1 hk
   subst hs
   rw[lf] at this
   simp only[Option.isSome_none,Bool.false_eq_true,if_false,World.cell?,h1] at this
   rw[show o+(i-o)=i by omega,hv] at this
   cases this
   exact .int _ _
 ·cases A with
  |none=>exact .one (.nils _ _)
  |some a =>
   obtain⟨b,o,s⟩:=a
   exact .one (.slice _ _ _ _ ⟨by simp[numsK],rfl⟩)
 ·have hlen:(zs.take len).length=len:=by simp[Nat.min_eq_left hz]
  have:=n8 A cap (zs.take len) (on (bg (numsK A) (numsC A zs.length) W) τ d) (λhne=>?_) _ rfl
  ·rw[hlen] at this
   have e1:in17.n=188:=rfl
   have e2:in17.n-(#[Value.slice A len cap]:Array Value).size=187:=rfl
   rw[e2]
   exact this
  ·cases A with
   |none =>
    have:=hnil rfl
    subst this
    exact absurd rfl hne
   |some a =>
    obtain⟨hs,C,t,f,h1⟩:=hA a rfl
    obtain⟨b,o,s⟩:=a
    dsimp only at hs h1
    subst hs
    refine⟨b,o,rfl,?_,λi x hx=>?_⟩
    ·show b<(bg _ _ W).heap.size
     rw[lJ]
     exact(Array.getElem?_eq_some_iff.1 h1).1
    ·have hi : i < len := by
      have:=(List.getElem?_eq_some_iff.1 hx).1
      omega
     have hi2:i<zs.length:=by omega
     show(bg _ _ W).cell? ⟨b,o+i,none⟩=_
     rw[lK (λ_=>by simp[numsC];omega)]
     have:=hcell ⟨b,o,none⟩ i rfl hi2
     rw[lf] at this
     rw[this]
     rw[List.getElem?_take,if_pos hi,List.getElem?_eq_getElem hi2] at hx
     cases hx
     simp[List.getD_eq_getElem?_getD,List.getElem?_eq_getElem hi2]
open Go.RowKit
def typed3:laidOutB Tryz.checked.prog=true/\mapsRowed Tryz.checked.prog=true/\Tryz.checked.prog.plainKeys=true:=Go.ClosedOfChecked.closed_of_checked Tryz.checked (by kernel_rfl) (by kernel_rfl) (by kernel_rfl)
def ra:joinedFacts Tryz.pinned.checked.prog 3 Tryz.f3 Rows.wolfTakenSpec Rows.wolfTakenRow=true:=by
 show joinedFacts Tryz.checked.prog 3 Tryz.f3 Rows.wolfTakenSpec Rows.wolfTakenRow=true
 obtain⟨h1,h2,h3⟩:=typed3
 unfold joinedFacts
 rw[h1,h2,h3]
 kernel_rfl
def sO:Tryz.pinned.checked.prog.funcNamed Rows.wolfTakenRow.func=some 3:=by kernel_rfl
open Go.ChangeShapes Go.WideShapes Go.ChangeAt Go.RowKit Go.Conc
def Tryz.own:ownKnob Tryz.prog.godebug=none:=by kernel_rfl
def Tryz.laidOut:laidOutB Tryz.prog=true:=by kernel_rfl
def Tryz.cells3:Tryz.prog.cellsOf 3=1:=by kernel_rfl
def has_cells {P:Program}{w:World}{r:Reach}{base:Nat}{t e:TypeId}{a:Addr}{len cap:Nat}(ht:P.underlying t=some (.slice e))(h:Value.okWide P w r base t (.slice (some a) len cap)):a.spot=none/\∃C ty f,w.heap[a.block]?=some (.cells C ty f):=by
 unfold Value.okWide at h
 rw[ht] at h
 dsimp only at h
 unfold Cell.okWide at h
 rw[ht] at h
 dsimp only at h
 unfold Cell.ok at h
 rw[ht] at h
 dsimp only at h
 obtain⟨_,_,_,hs,row,cells,hsh,_⟩:=h
 refine⟨hs,?_⟩
 unfold World.shape? at hsh
 cases ho:w.heap[a.block]? with
 |none=>rw[ho] at hsh;cases hsh
 |some o =>
  rw[ho] at hsh
  cases o with
  |cells C ty f=>exact⟨C,ty,f,rfl⟩
  |_=>cases hsh
def iu (os:Os)(started:os.Started)(H:Type)(enc:TypeId×Value->H)(F:Stop.Interp) :
  ReturnsInLeavingWide { calm:=true } Tryz.checked os 3 .any (Rows.wolfTakenSpec.pre6 enc Tryz.prog Tryz.f3 [] false) ((OpenSpec.ofChange Rows.wolfTakenSpec).postWith enc Tryz.prog Tryz.f3 F (outsideKept [.timePasses]) false true false):=by
 refine returnsInLeavingWide_of_change_time (C:=Tryz.checked) Tryz.own started Tryz.func3
  (ChangeSpec.witness6c (enc:=enc) (C:=Tryz.checked) ⟨#[],#[.slice none 0 0],[]⟩ 8 (by kernel_rfl) (by kernel_rfl) (by kernel_rfl) (by kernel_rfl)) ?_
 intro W base args ds gs before hval0 hW _ _ _
 have hval:∀(j:Nat) t v,Tryz.f3.params[j]?=some t->args[j]?=some v->Value.okWide Tryz.prog W .any base t v:=hval0
 have hW':=hW
 obtain⟨p,q,hA0,hV,rfl,_,_⟩:=hW
 have hA:DataW.TrodAll enc Tryz.prog W 0 (λ_=>true) true Tryz.f3.params.toList args.toList ds p:=hA0
 rw[Tryz.params3] at hA hval
 obtain⟨v0,d0,rfl,rfl,h0⟩:=trodAll_one hA
 obtain⟨rfl,rfl⟩:=trodVars_none hV
 have hv0:=hval 0 _ v0 rfl rfl
 obtain⟨a0,len,cap,rfl⟩:=okWide_slice Tryz.underlying22 hv0
 have h0k:=h0
 obtain⟨fuel,hf⟩:=h0
 clear hA0 hval0
 simp only[List.append_nil] at hW'
 have hlt:∀x∈p,x.block<W.heap.size:=λx hx=>by simpa using hW'.lt x hx
 have close : ∀ (zs : List Int), len <= zs.length -> (a0 = none -> len = 0) -> (∀ a i, a0 = some a -> i < zs.length -> W.cell? (a.add i) = some (.int .i64 (zs.getD i 0))) ->
   ∃M last o w' t',runNT Tryz.checked.prog (M+1) (solo (G (Frame.enter Tryz.checked.prog 3 #[.slice a0 len cap] .normal) []) W) #[]=(.ended o w',t') /\
    runN Tryz.checked.prog M (solo (G (Frame.enter Tryz.checked.prog 3 #[.slice a0 len cap] .normal) []) W)=.next last/\step Tryz.checked.prog last=.ended o w' /\
    Conc.Good Tryz.checked.prog (λv W'=>Rows.wolfTakenSpec.post enc Tryz.checked.prog Tryz.f3 false true false false W #[.slice a0 len cap] v { W' with os:=W.os }/\Go.ConcM.OsLater W.os W'.os) last o w' t':=by
  intro zs hz hnil hel
  obtain⟨M,last,o,w',t',h1,h2,h3,h4⟩:=law17_run (cap:=cap) hz (λa e=>by subst e;exact has_cells Tryz.underlying22 hv0) hnil hel
  refine⟨M,last,o,w',t',h1,h2,h3,h4.mono λv hF=>?_⟩
  obtain⟨rfl,⟨e1,e2⟩,e3,e4⟩:=hF
  refine⟨?_,by rw[e1];exact Go.ConcM.OsLater.refl _⟩
  have hbel:Below W.heap.size W { w' with os:=W.os,tape:=W.tape }:=⟨rfl,rfl,e2,e3,λk hk=>e4 k hk⟩
  have hfr:=hbel.frame (λx=>x∈p/\(x∈([]:List MemPlace)\/x∈p\/x∈([]:List MemPlace)))
  have harg:=Below.trod Tryz.laidOut (by kernel_rfl) (of_decide_eq_true (by kernel_rfl)) h0k hbel hlt
  refine⟨_,_,_,[],p,[],hW',?_,?_,rfl,hfr,λh=>by cases h⟩
  ·exact trodAll_mk1 (shut_bool (by first|exact Tryz.underlying1|kernel_rfl) true)
  ·have h2:DataW.Trod enc Tryz.prog { w' with os:=W.os } 0 (λb=>decide (b<W.heap.size)) true 22 (.slice a0 len cap) d0 p:=harg.of_heap (by rfl)
   exact trodAll_mk1 h2
 rcases open_ints Tryz.underlying22 Tryz.underlying3 Tryz.cells3 hf with⟨hcs,hx⟩|⟨a,len',cap',zs,hcs,_,hl,hm,hz,hx,hcell,hwz⟩
 ·simp[Value.cells] at hcs
  obtain⟨rfl,rfl,rfl⟩:=hcs
  exact close [] (by simp) (λ_=>rfl) (λa i e=>by cases e)
 ·simp[Value.cells] at hcs
  obtain⟨rfl,rfl,rfl⟩:=hcs
  simp only[if_true] at hz
  exact close zs (by omega) (λe=>by cases e) (λa' i e hi=>by cases e;exact hcell i hi)
theorem wolfTaken_holds:Rows.WolfTakenSaid :=
 OpenClaim.holds_of_wide_leaving_time 3 Tryz.f3 rfl rfl rfl rfl rfl rfl rfl ⟨rfl,rfl,rfl,rfl,rfl⟩ rfl rfl rfl rfl rfl sO Tryz.func3 ra
  (of_decide_eq_true (by kernel_rfl)) (by unfold Func.isWrapper;first|(rw[if_pos (by decide +kernel)];kernel_rfl)|(rw[if_neg (by decide +kernel)];exact⟨rfl,rfl⟩))
  (λos started H enc _ F=>iu os started H enc F)
end Go.Proofs.YtgphobammhoniaaGreat
