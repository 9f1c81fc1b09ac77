/- Parts of the proof. -/
import Derived.Test.YtgicaeombogkcaaGreatP21
import Derived.Test.YtgicaeombogkcaaGreatP23
import Derived.Test.YtgicaeombogkcaaGreatP24
import Derived.Test.YtgicaeombogkcaaGreatP18
import Derived.Test.YtgicaeombogkcaaGreatP08
set_option linter.all false
set_option maxHeartbeats 3200000
set_option maxRecDepth 1000000
namespace Go.Proofs.YtgicaeombogkcaaGreat
open Go.RowKit Go.Iso Go.Co Go.Conc Go.Sq
theorem mO:formedE (wakeC [3,2,4]) [[0,1],[1],[]]=0:=by decide +kernel
theorem mP:formedE (wakeC [3,2,4]) guardG=0:=by decide +kernel
theorem pY:fL 3 [(2,6)]=0:=by decide +kernel
theorem rC:balL (owesL (wakeC [3,2,4]) (rosOf guardG) 9 (wolvesL 3 [(2,6)] 1))=[8,0,-8]:=by decide +kernel
theorem pZ:(walkL wakeCamp (setsL 3) 2 (firstR (setW 1)) 1).map (fun r=>aN r 3)=[guardG]:=by decide +kernel
theorem gJ {l:List Int}:(∀ h∈(wakeC l).herders,h.off.length<=4611686018427387904):=by
 intro h hh
 simp only [wakeC,List.mem_cons,List.not_mem_nil,or_false] at hh
 rcases hh with rfl | rfl | rfl<;>simp
theorem oD (nA hA gA:Option Addr) (w:World) (B:Nat) (hB:B<=w.heap.size) (hn:RI w B nA [3,2,4]) (hh:HsAt w B hA (wakeC [3,2,4]).herders) (hg:GrAt w B gA [[0,1],[1],[]]) :
  Calls Sq.prog 23 #[.agg #[.slice nA 3 3,.slice hA 3 3],.slice gA 3 3,.int .i64 2,.int .i64 0] w fun e w'=>Gr w w'∧∃ A k,e=.returned (.tuple #[.slice A 3 k,.int .i64 3,.int .i64 0])∧GrAt w' w'.heap.size A guardG:=by
 refine (pX nA hA gA 3 3 3 (wakeC [3,2,4]) [[0,1],[1],[]] 2 0 w B hB hn hh hg (by decide) (by decide) gJ (by decide) (by decide) (fun k _ hk _ _=>?_)).mono ?_
 ·obtain rfl:k=2:=by omega
  exact Camp.Ok.of (by decide +kernel)
 ·rintro e w' ⟨hg,h⟩
  refine ⟨hg,?_⟩
  rw [if_neg (by simp [mO]),if_neg (by decide)] at h
  have hr:=pM
  have h2:walkL (repC (wakeC [3,2,4]) (Int.toNat 2) 0) (setsL (wakeC [3,2,4]).herders.length) (wakeC [3,2,4]).needs.length zeroR 0=walkL (repC (wakeC [3,2,4]) 2 0) (setsL 3) 3 zeroR 0:=rfl
  rw [h2] at h
  cases hn:nearR (rosOf [[0,1],[1],[]]) (walkL (repC (wakeC [3,2,4]) 2 0) (setsL 3) 3 zeroR 0) with
  | none=>rw [hn] at hr;cases hr
  | some p =>
   rw [hn] at hr h
   obtain ⟨A,k,he,hgr⟩:=h
   have hr2:(aN p.1 3,p.2)=(guardG,3):=Option.some.inj hr
   injection hr2 with e1 e2
   refine ⟨A,k,?_,?_⟩
   ·rw [he,e2];rfl
   ·rw [<- e1];exact hgr
theorem p5 (nA hA:Option Addr) (w:World) (B:Nat) (hB:B<=w.heap.size) (hn:RI w B nA [3,2,5]) (hh:HsAt w B hA (wakeC [3,2,5]).herders) :
  Calls Sq.prog 25 #[.agg #[.slice nA 3 3,.slice hA 3 3]] w fun e w'=>Gr w w'∧∃ A k,e=.returned (.tuple #[.slice A 2 k,.int .i64 0])∧RI w' w'.heap.size A [1,2]:=by
 refine (qZ nA hA 3 3 (wakeC [3,2,5]) w B hB hn hh (by decide) (by decide) gJ).mono ?_
 rintro e w' ⟨hg,h⟩
 refine ⟨hg,?_⟩
 rw [if_neg (by simp [jt]),if_neg (by simp [io])] at h
 have h2:clashN (wakeC [3,2,5]) (2 ^ (wakeC [3,2,5]).needs.length)=some [1,2]:=mD
 rw [h2] at h
 exact h
theorem su (nA hA gA rA:Option Addr) (w:World) (B:Nat) (hB:B<=w.heap.size) (hn:RI w B nA [3,2,4]) (hh:HsAt w B hA (wakeC [3,2,4]).herders) (hg:GrAt w B gA guardG) (hr:RsAt w B rA [(2,6)]) :
  Calls Sq.prog 42 #[.agg #[.slice nA 3 3,.slice hA 3 3],.slice gA 3 3,.slice rA 1 1,.int .i64 9] w fun e w'=>Gr w w'∧∃ A k,e=.returned (.tuple #[.slice A 3 k,.int .i64 0])∧RI w' w'.heap.size A [8,0,-8]:=by
 refine (mN nA hA gA rA 3 3 3 1 (wakeC [3,2,4]) guardG [(2,6)] 9 w B hB hn hh hg hr (by decide) (by decide) gJ (by decide) (by decide) (by decide) (by decide) mP pY (by omega)).mono ?_
 rintro e w' ⟨hg,A,k,he,h⟩
 refine ⟨hg,A,k,he,?_⟩
 rw [<- rC]
 exact h
theorem sY {w:World} {B b:Nat} {A0 A1 A2:Option Addr} {c0 c1 c2:Nat} {l0 l1 l2:List Int} {t:TypeId} {f:Nat×Nat} (h:w.heap[b]?=some (.cells #[.slice A0 l0.length c0,.slice A1 l1.length c1,.slice A2 l2.length c2] t f)) (hb:b<B) (h0:RI w B A0 l0) (h1:RI w B A1 l1) (h2:RI w B A2 l2):GrAt w B (some ⟨b,0,none⟩) [l0,l1,l2]:=fun _=>by
 have e:∀ o,w.cell? ⟨b,o,none⟩=(#[.slice A0 l0.length c0,.slice A1 l1.length c1,.slice A2 l2.length c2]:Array Value)[o]?:=fun o=>by unfold World.cell?;rw [h];simp
 refine ⟨b,0,rfl,hb,fun i l hl=>?_⟩
 match i,hl with
 | 0,hl=>cases hl;exact ⟨A0,c0,e _,h0⟩
 | 1,hl=>cases hl;exact ⟨A1,c1,e _,h1⟩
 | 2,hl=>cases hl;exact ⟨A2,c2,e _,h2⟩
theorem sZ {w:World} {B b:Nat} {x y:Int} {t:TypeId} {f:Nat×Nat} (h:w.heap[b]?=some (.cells #[.int .i64 x,.int .i64 y] t f)) (hb:b<B):RsAt w B (some ⟨b,0,none⟩) [(x,y)]:=fun _=>by
 have e:∀ o,w.cell? ⟨b,o,none⟩=(#[.int .i64 x,.int .i64 y]:Array Value)[o]?:=fun o=>by unfold World.cell?;rw [h];simp
 refine ⟨b,0,rfl,hb,fun i q hq=>?_⟩
 match i,hq with
 | 0,hq=>cases hq;exact ⟨e _,e _⟩
theorem chk19 (n:Nat) (l:List Value) (h:l.length=n+19):∃ (y0 y1 y2 y3 y4 y5 y6 y7 y8 y9 y10 y11 y12 y13 y14 y15 y16 y17 y18:Value) (tl:List Value),l=y0 :: y1 :: y2 :: y3 :: y4 :: y5 :: y6 :: y7 :: y8 :: y9 :: y10 :: y11 :: y12 :: y13 :: y14 :: y15 :: y16 :: y17 :: y18 :: tl∧tl.length=n:=by
 match l,h with
 | y0 :: y1 :: y2 :: y3 :: y4 :: y5 :: y6 :: y7 :: y8 :: y9 :: y10 :: y11 :: y12 :: y13 :: y14 :: y15 :: y16 :: y17 :: y18 :: tl,h=>exact ⟨y0,y1,y2,y3,y4,y5,y6,y7,y8,y9,y10,y11,y12,y13,y14,y15,y16,y17,y18,tl,rfl,by simpa using h⟩
theorem sO {T:Array Value} (h:T.size=95):∃ (y0 y1 y2 y3 y4 y5 y6 y7 y8 y9 y10 y11 y12 y13 y14 y15 y16 y17 y18 y19 y20 y21 y22 y23 y24 y25 y26 y27 y28 y29 y30 y31 y32 y33 y34 y35 y36 y37 y38 y39 y40 y41 y42 y43 y44 y45 y46 y47 y48 y49 y50 y51 y52 y53 y54 y55 y56 y57 y58 y59 y60 y61 y62 y63 y64 y65 y66 y67 y68 y69 y70 y71 y72 y73 y74 y75 y76 y77 y78 y79 y80 y81 y82 y83 y84 y85 y86 y87 y88 y89 y90 y91 y92 y93 y94:Value),T=#[y0,y1,y2,y3,y4,y5,y6,y7,y8,y9,y10,y11,y12,y13,y14,y15,y16,y17,y18,y19,y20,y21,y22,y23,y24,y25,y26,y27,y28,y29,y30,y31,y32,y33,y34,y35,y36,y37,y38,y39,y40,y41,y42,y43,y44,y45,y46,y47,y48,y49,y50,y51,y52,y53,y54,y55,y56,y57,y58,y59,y60,y61,y62,y63,y64,y65,y66,y67,y68,y69,y70,y71,y72,y73,y74,y75,y76,y77,y78,y79,y80,y81,y82,y83,y84,y85,y86,y87,y88,y89,y90,y91,y92,y93,y94]:=by
 obtain ⟨l⟩:=T
 have h:l.length=76+19:=h
 obtain ⟨y0,y1,y2,y3,y4,y5,y6,y7,y8,y9,y10,y11,y12,y13,y14,y15,y16,y17,y18,l0,rfl,h0⟩:=chk19 76 l h
 obtain ⟨y19,y20,y21,y22,y23,y24,y25,y26,y27,y28,y29,y30,y31,y32,y33,y34,y35,y36,y37,l1,rfl,h1⟩:=chk19 57 l0 h0
 obtain ⟨y38,y39,y40,y41,y42,y43,y44,y45,y46,y47,y48,y49,y50,y51,y52,y53,y54,y55,y56,l2,rfl,h2⟩:=chk19 38 l1 h1
 obtain ⟨y57,y58,y59,y60,y61,y62,y63,y64,y65,y66,y67,y68,y69,y70,y71,y72,y73,y74,y75,l3,rfl,h3⟩:=chk19 19 l2 h2
 obtain ⟨y76,y77,y78,y79,y80,y81,y82,y83,y84,y85,y86,y87,y88,y89,y90,y91,y92,y93,y94,l4,rfl,h4⟩:=chk19 0 l3 h3
 obtain rfl:l4=[]:=List.eq_nil_of_length_eq_zero h4
 exact ⟨y0,y1,y2,y3,y4,y5,y6,y7,y8,y9,y10,y11,y12,y13,y14,y15,y16,y17,y18,y19,y20,y21,y22,y23,y24,y25,y26,y27,y28,y29,y30,y31,y32,y33,y34,y35,y36,y37,y38,y39,y40,y41,y42,y43,y44,y45,y46,y47,y48,y49,y50,y51,y52,y53,y54,y55,y56,y57,y58,y59,y60,y61,y62,y63,y64,y65,y66,y67,y68,y69,y70,y71,y72,y73,y74,y75,y76,y77,y78,y79,y80,y81,y82,y83,y84,y85,y86,y87,y88,y89,y90,y91,y92,y93,y94,rfl⟩
theorem rD (A:Option Addr) (c:Nat) (y0 y5 y6 y7 y8 y9 y10 y11 y12 y13 y14 y15 y16 y17 y18 y19 y20 y21 y22 y23 y24 y25 y26 y27 y28 y29 y30 y31 y32 y33 y34 y35 y36 y37 y38 y39 y40 y41 y42 y43 y44 y45 y46 y47 y48 y49 y50 y51 y52 y53 y54 y55 y56 y57 y58 y59 y60 y61 y62 y63 y64 y65 y66 y67 y68 y69 y70 y71 y72 y73 y74 y75 y76 y77 y78 y79 y80 y81 y82 y83 y84 y85 y86 y87 y88 y89 y90 y91 y92 y93 y94:Value) (w:World) (hbest:GrAt w w.heap.size A guardG) :
  zw3.wp Sq.prog (fun e a' _=>(e=.normal∨e=.ret)∧e=.ret∧a'.tmps.getD 0 undef=.bool true∧a'.defers=[]) ⟨#[y0,.int .i64 1,.int .i64 0,.slice A 3 c,.int .i64 0,y5,y6,y7,y8,y9,y10,y11,y12,y13,y14,y15,y16,y17,y18,y19,y20,y21,y22,y23,y24,y25,y26,y27,y28,y29,y30,y31,y32,y33,y34,y35,y36,y37,y38,y39,y40,y41,y42,y43,y44,y45,y46,y47,y48,y49,y50,y51,y52,y53,y54,y55,y56,y57,y58,y59,y60,y61,y62,y63,y64,y65,y66,y67,y68,y69,y70,y71,y72,y73,y74,y75,y76,y77,y78,y79,y80,y81,y82,y83,y84,y85,y86,y87,y88,y89,y90,y91,y92,y93,y94],[]⟩ w:=by
 have HB:=Lib.hid hbest
 clear hbest
 have ez:zw3=ah (ah (ah wB)):=rfl
 simp only [wB,Tryz.f9,Option.getD_some,ah] at ez
 rw [ez]
 clear ez
 obtain ⟨W1,hW1⟩:∃ W1:World,W1=w.alloc (.cells #[.int .i64 3,.int .i64 2,.int .i64 4] 3):=⟨_,rfl⟩
 have hg1:Gr w W1:=hW1▸(Gr.refl w).alloc _
 have HN1:RowKit.Hid (RI W1 W1.heap.size (some ⟨w.heap.size,0,none⟩) [3,2,4]):=Lib.hid (bX (t:=3) (f:=(0,0)) (by rw [hW1];exact heap_alloc_new w _) (by rw [hW1];simp))
 have HB1:=Lib.hid (HB.out.gr (Nat.le_refl _) hg1)
 have HC1:=Lib.hid (j7 (some ⟨w.heap.size,0,none⟩) 3 [3,2,4] W1)
 have HW1:=Lib.hid hW1
 have hz1:=hg1.size
 clear hg1 hW1
 go_wp2_with fail
 rw [<- HW1.out]
 refine HC1.out.mono ?_
 rintro e w2 ⟨hA,rfl,hhs,hg2⟩
 obtain ⟨W2,hW2⟩:∃ W2:World,W2=((w2.alloc (.cells #[.int .i64 0,.int .i64 1] 3)).alloc (.cells #[.int .i64 1] 3)).alloc (.cells #[.slice (some ⟨w2.heap.size,0,none⟩) 2 2,.slice (some ⟨w2.heap.size+1,0,none⟩) 1 1,.slice none 0 0] 22):=⟨_,rfl⟩
 have hg3:Gr w2 W2:=hW2▸(((Gr.refl w2).alloc _).alloc _).alloc _
 have hz2:W2.heap.size=w2.heap.size+3:=by rw [hW2];simp
 have b0:W2.heap[w2.heap.size]?=some (.cells ([0,1].map (Value.int .i64)).toArray 3 (0,0)):=by
  rw [hW2,heap_alloc_old _ _ (by simp;omega),heap_alloc_old _ _ (by simp)];exact heap_alloc_new _ _
 have b1:W2.heap[w2.heap.size+1]?=some (.cells ([1].map (Value.int .i64)).toArray 3 (0,0)):=by
  rw [hW2,heap_alloc_old _ _ (by simp)];exact aK _ _ (by simp)
 have b2:W2.heap[w2.heap.size+2]?=some (.cells #[.slice (some ⟨w2.heap.size,0,none⟩) 2 2,.slice (some ⟨w2.heap.size+1,0,none⟩) 1 1,.slice none 0 0] 22 (0,0)):=by
  rw [hW2];exact aK _ _ (by simp)
 have hgrid:GrAt W2 W2.heap.size (some ⟨w2.heap.size+2,0,none⟩) [[0,1],[1],[]]:=sY (l0:=[0,1]) (l1:=[1]) (l2:=[]) b2 (by omega) (bX b0 (by omega)) (bX b1 (by omega)) .nil
 have HR:=Lib.hid (oD (some ⟨w.heap.size,0,none⟩) hA (some ⟨w2.heap.size+2,0,none⟩) W2 W2.heap.size (Nat.le_refl _) (((HN1.out.gr (Nat.le_refl _) hg2).gr hg2.size hg3).more (by have:=hg2.size;have:=hg3.size;omega)) ((hhs.keep fun b o hb=>hg3.cell (p:=⟨b,o,none⟩) hb).more hg3.size) hgrid)
 have HB2:=Lib.hid ((HB1.out.gr (by omega) hg2).gr (by have:=hg2.size;omega) hg3)
 have HW2:=Lib.hid hW2
 have hzz2:=hg2.size
 clear hhs hg2 hW2 b0 b1 b2 hgrid HC1 hz2
 have ec:campV (some ⟨w.heap.size,0,none⟩) hA (wakeC [3,2,4]) 3 3=.agg #[.slice (some ⟨w.heap.size,0,none⟩) 3 3,.slice hA 3 3]:=rfl
 rw [ec]
 clear ec
 have hz3:=hg3.size
 clear hg3
 go_wp2_with fail
 rw [<- HW2.out]
 refine HR.out.mono ?_
 rintro e w3 ⟨hg3,A5,k5,rfl,hgr5⟩
 have HB3:=Lib.hid (HB2.out.gr (by omega) hg3)
 have HG5:=Lib.hid hgr5
 have hz4:=hg3.size
 clear hg3 hgr5 HR HN1
 obtain ⟨V6,hV6⟩:∃ V:World,V=w3.alloc (.cells #[.int .i64 3,.int .i64 2,.int .i64 5] 3):=⟨_,rfl⟩
 have hg6:Gr w3 V6:=hV6▸(Gr.refl w3).alloc _
 have HN6:RowKit.Hid (RI V6 V6.heap.size (some ⟨w3.heap.size,0,none⟩) [3,2,5]):=Lib.hid (bX (t:=3) (f:=(0,0)) (by rw [hV6];exact heap_alloc_new w3 _) (by rw [hV6];simp))
 have HC6:=Lib.hid (j7 (some ⟨w3.heap.size,0,none⟩) 3 [3,2,5] V6)
 have HGR6:=Lib.hid hg6
 have HV6:=Lib.hid hV6
 have hzV6:=hg6.size
 clear hg6 hV6
 go_wp2_with fail
 rw [<- HV6.out]
 refine HC6.out.mono ?_
 rintro e x6 ⟨hA6,rfl,hhs6,hgx6⟩
 have HX6:=Lib.hid (HGR6.out.trans hgx6)
 have HNX6:=Lib.hid ((HN6.out.gr (Nat.le_refl _) hgx6).more hgx6.size)
 have HHS6:=Lib.hid hhs6
 have hzx6:=hgx6.size
 clear hhs6 hgx6
 have ec:campV (some ⟨w3.heap.size,0,none⟩) hA6 (wakeC [3,2,5]) 3 3=.agg #[.slice (some ⟨w3.heap.size,0,none⟩) 3 3,.slice hA6 3 3]:=rfl
 have HCL:=Lib.hid (p5 (some ⟨w3.heap.size,0,none⟩) hA6 x6 x6.heap.size (Nat.le_refl _) HNX6.out HHS6.out)
 rw [ec]
 clear ec
 go_wp2_with fail
 refine HCL.out.mono ?_
 rintro e w5 ⟨hg5,A8,k8,rfl,hri8⟩
 have HB5:=Lib.hid (HB3.out.gr (by omega) (HX6.out.trans hg5))
 have HG55:=Lib.hid (HG5.out.gr (Nat.le_refl _) (HX6.out.trans hg5))
 have HI8:=Lib.hid hri8
 have hz5:=(HX6.out.trans hg5).size
 clear hg5 hri8 HCL HN6 HC6 HHS6 HNX6
 obtain ⟨V7,hV7⟩:∃ V:World,V=w5.alloc (.cells #[.int .i64 3,.int .i64 2,.int .i64 4] 3):=⟨_,rfl⟩
 have hg7:Gr w5 V7:=hV7▸(Gr.refl w5).alloc _
 have HN7:RowKit.Hid (RI V7 V7.heap.size (some ⟨w5.heap.size,0,none⟩) [3,2,4]):=Lib.hid (bX (t:=3) (f:=(0,0)) (by rw [hV7];exact heap_alloc_new w5 _) (by rw [hV7];simp))
 have HC7:=Lib.hid (j7 (some ⟨w5.heap.size,0,none⟩) 3 [3,2,4] V7)
 have HGR7:=Lib.hid hg7
 have HV7:=Lib.hid hV7
 have hzV7:=hg7.size
 clear hg7 hV7
 go_wp2_with fail
 rw [<- HV7.out]
 refine HC7.out.mono ?_
 rintro e x7 ⟨hA7,rfl,hhs7,hgx7⟩
 have HX7:=Lib.hid (HGR7.out.trans hgx7)
 have HNX7:=Lib.hid ((HN7.out.gr (Nat.le_refl _) hgx7).more hgx7.size)
 have HHS7:=Lib.hid hhs7
 have hzx7:=hgx7.size
 clear hhs7 hgx7
 have ec:campV (some ⟨w5.heap.size,0,none⟩) hA7 (wakeC [3,2,4]) 3 3=.agg #[.slice (some ⟨w5.heap.size,0,none⟩) 3 3,.slice hA7 3 3]:=rfl
 rw [ec]
 clear ec
 have HGU:=Lib.hid (iO x7)
 go_wp2_with fail
 refine HGU.out.mono ?_
 rintro e x8 ⟨gA,rfl,hgu,hg8⟩
 obtain ⟨V8,hV8⟩:∃ V:World,V=x8.alloc (.cells #[.int .i64 2,.int .i64 6] 72):=⟨_,rfl⟩
 have hgv8:Gr x8 V8:=hV8▸(Gr.refl x8).alloc _
 have hrs8:RsAt V8 V8.heap.size (some ⟨x8.heap.size,0,none⟩) [(2,6)]:=sZ (t:=72) (f:=(0,0)) (by rw [hV8];exact heap_alloc_new _ _) (by rw [hV8];simp)
 have HBAL:=Lib.hid (su (some ⟨w5.heap.size,0,none⟩) hA7 gA (some ⟨x8.heap.size,0,none⟩) V8 V8.heap.size (Nat.le_refl _) ((HNX7.out.gr (Nat.le_refl _) (hg8.trans hgv8)).more (hg8.trans hgv8).size)
  ((HHS7.out.keep fun b o hb=>(hg8.trans hgv8).cell (p:=⟨b,o,none⟩) hb).more (hg8.trans hgv8).size) ((hgu.gr (Nat.le_refl _) hgv8).more hgv8.size) hrs8)
 have HX8:=Lib.hid (HX7.out.trans (hg8.trans hgv8))
 have HV8:=Lib.hid hV8
 have egl:(guardG.length:Nat)=3:=rfl
 clear hgu hg8 hV8 hgv8 hrs8 HGU
 rw [egl]
 go_wp2_with fail
 rw [<- HV8.out]
 refine HBAL.out.mono ?_
 rintro e w9 ⟨hg9,A10,k10,rfl,hri10⟩
 have hzz9:=(HX8.out.trans hg9).size
 have HB9:=Lib.hid (HB5.out.gr (by omega) (HX8.out.trans hg9))
 have HG59:=Lib.hid (HG55.out.gr (by omega) (HX8.out.trans hg9))
 have HI89:=Lib.hid (HI8.out.gr (Nat.le_refl _) (HX8.out.trans hg9))
 have HI10:=Lib.hid hri10
 clear hg9 hri10 HBAL HN7 HC7 HHS7 HNX7
 have HGU11:=Lib.hid (iO w9)
 go_wp2_with fail
 refine HGU11.out.mono ?_
 rintro e g11 ⟨gA11,rfl,hgu,hg⟩
 have HS11:=Lib.hid (gj A gA11 c 3 guardG guardG g11 g11.heap.size (Nat.le_refl _) ((HB9.out.gr (by omega) hg).more (by have:=hg.size;omega)) hgu (by decide) (by decide) (by decide) (by decide))
 rw [decide_eq_true (rfl:guardG=guardG)] at HS11
 have HQ11:=Lib.hid hg
 have hzq11:=hg.size
 clear hgu hg HGU11
 have egl:(guardG.length:Nat)=3:=rfl
 rw [egl]
 rw [egl] at HS11
 clear egl
 go_wp2_with fail
 refine HS11.out.mono ?_
 rintro e s11 ⟨rfl,hg⟩
 have HT11:=Lib.hid (HQ11.out.trans hg)
 have hzs11:=(HQ11.out.trans hg).size
 clear hg HS11
 have HGM:=Lib.hid (HG59.out.gr (by omega) HT11.out)
 have HIM:=Lib.hid (HI89.out.gr (by omega) HT11.out)
 have HIN:=Lib.hid (HI10.out.gr (by omega) HT11.out)
 have HGU12:=Lib.hid (iO s11)
 go_wp2_with fail
 refine HGU12.out.mono ?_
 rintro e g12 ⟨gA12,rfl,hgu,hg⟩
 have HS12:=Lib.hid (gj A5 gA12 k5 3 guardG guardG g12 g12.heap.size (Nat.le_refl _) ((HGM.out.gr (by omega) hg).more (by have:=hg.size;omega)) hgu (by decide) (by decide) (by decide) (by decide))
 rw [decide_eq_true (rfl:guardG=guardG)] at HS12
 have HQ12:=Lib.hid hg
 have hzq12:=hg.size
 clear hgu hg HGU12
 have egl:(guardG.length:Nat)=3:=rfl
 rw [egl]
 rw [egl] at HS12
 clear egl
 go_wp2_with fail
 refine HS12.out.mono ?_
 rintro e s12 ⟨rfl,hg⟩
 have HT12:=Lib.hid (HQ12.out.trans hg)
 have hzs12:=(HQ12.out.trans hg).size
 clear hg HS12
 obtain ⟨V13,hV13⟩:∃ V:World,V=s12.alloc (.cells #[.int .i64 1,.int .i64 2] 3):=⟨_,rfl⟩
 have hgv:Gr s12 V13:=hV13▸(Gr.refl s12).alloc _
 have HS13:=Lib.hid (cJ A8 (some ⟨s12.heap.size,0,none⟩) k8 2 [1,2] [1,2] V13 V13.heap.size (Nat.le_refl _) (((HIM.out.gr (by omega) HT12.out).gr (by omega) hgv).more (by have:=hgv.size;omega)) (bX (t:=3) (f:=(0,0)) (by rw [hV13];exact heap_alloc_new _ _) (by rw [hV13];simp)) (by decide) (by decide))
 rw [decide_eq_true (rfl:([1,2]:List Int)=[1,2])] at HS13
 have HV13:=Lib.hid hV13
 have HQ13:=Lib.hid hgv
 have hzq13:=hgv.size
 clear hgv hV13
 go_wp2_with fail
 rw [<- HV13.out]
 refine HS13.out.mono ?_
 rintro e s13 ⟨rfl,hg⟩
 have HT13:=Lib.hid (HQ13.out.trans hg)
 have hzs13:=(HQ13.out.trans hg).size
 clear hg HS13
 obtain ⟨V14,hV14⟩:∃ V:World,V=s13.alloc (.cells #[.int .i64 8,.int .i64 0,.int .i64 (-8)] 3):=⟨_,rfl⟩
 have hgv:Gr s13 V14:=hV14▸(Gr.refl s13).alloc _
 have HS14:=Lib.hid (cJ A10 (some ⟨s13.heap.size,0,none⟩) k10 3 [8,0,-8] [8,0,-8] V14 V14.heap.size (Nat.le_refl _) ((((HIN.out.gr (by omega) HT12.out).gr (by omega) HT13.out).gr (by omega) hgv).more (by have:=hgv.size;omega)) (bX (t:=3) (f:=(0,0)) (by rw [hV14];exact heap_alloc_new _ _) (by rw [hV14];simp)) (by decide) (by decide))
 rw [decide_eq_true (rfl:([8,0,-8]:List Int)=[8,0,-8])] at HS14
 have HV14:=Lib.hid hV14
 have HQ14:=Lib.hid hgv
 have hzq14:=hgv.size
 clear hgv hV14
 go_wp2_with fail
 rw [<- HV14.out]
 refine HS14.out.mono ?_
 rintro e s14 ⟨rfl,hg⟩
 have HT14:=Lib.hid (HQ14.out.trans hg)
 have hzs14:=(HQ14.out.trans hg).size
 clear hg HS14
 go_wp2
end Go.Proofs.YtgicaeombogkcaaGreat
namespace Go.Iso
def bY (P:Program) (l C:Code) (N:Act->World->Prop) (a:Act) (w:World):Prop :=
 ∀ (b:Frame) (k:List Item) (cs:List Frame),∃ a' w',N a' w'∧Steps P (lone (b.at a (.code C :: k)) cs w) (lone (b.at a' (.code l :: k)) cs w')
theorem gm {P:Program} {l:Code} {N:Act->World->Prop} {a:Act} {w:World} (h:N a w):bY P l l N a w:=fun _ _ _=>⟨a,w,h,.refl _ _⟩
theorem iu {P:Program} {l c r:Code} {N:Act->World->Prop} {a:Act} {w:World} (h:c.wp P (Exit.then (bY P l r N) fun _ _ _=>False) a w):bY P l (.seq c r) N a w:=fun b k cs=>by
 obtain ⟨e,a1,w1,hq,harr⟩:=h b (.code r :: k) cs
 cases e with
 | normal =>
  obtain ⟨a2,w2,hn,hs⟩:=hq b k cs
  exact ⟨a2,w2,hn,.head step_seq (Steps.trans harr hs)⟩
 | _=>exact hq.elim
section
variable {P:Program} {SB:FuncId->Bool} {H:Hid} {G:Nat}
def AtCode (b:Frame) (l:Code) (k:List Item) (cs:List Frame) (N:Act->World->Prop) (g:Goroutine) (w:World):Prop :=
 ∃ a' w0,Same w0 w∧N a' w0∧g=gor (b.at a' (.code l :: k)) cs
theorem AtCode.same {b:Frame} {l:Code} {k:List Item} {cs:List Frame} {N:Act->World->Prop} (g:Goroutine) (w W:World) (h:Same w W) (q:AtCode b l k cs N g w):AtCode b l k cs N g W:=by
 obtain ⟨a',w0,h1,h2⟩:=q
 exact ⟨a',w0,h1.trans h,h2⟩
theorem runs_of_goesTo (L:Lib (Two.of P) SB H false SB G) {b:Frame} {a:Act} {l C:Code} {k:List Item} {cs:List Frame} {w:World} {N:Act->World->Prop} (hne:cs≠[]) (hs:Self P SB H G (gor (b.at a (.code C :: k)) cs) w)
  (h:∀ τ d,bY P l C N a (on w τ d)):Runs P (Self P SB H G) (AtCode b l k cs N) (gor (b.at a (.code C :: k)) cs) w:=by
 refine dF L AtCode.same ⟨hs,fun τ d=>?_⟩
 obtain ⟨a',w',hn,n,hr⟩:=h τ d b k cs
 exact cm L (hs.same Same.on_) hr hne ⟨a',w',⟨rfl,rfl,rfl⟩,hn,rfl⟩
end
section
variable {P:Two} {SB0 BC BB:FuncId->Bool} {H:Hid} {G:Nat} {Q:Goroutine->World->Prop}
theorem BothK.segTo (B:BothK P SB0 BC BB H G) {b:Frame} {a:Act} {l c:Code} {k:List Item} {C:Frame} {cs:List Frame} {K0:Nat->Prop} {w:World}
  (hfr:FrRel P.a SB0 H false (idOn K0) (b.at a (.code c :: k)) (b.at a (.code c :: k)))
  (hlo:∀ b,K0 b->G<=b) (hroom:G<=w.heap.size) (hhid:∀ b,K0 b->H b=true->H.twin=true∧w.heap[b]?=some (.coro none)) (hold:∀ b,H b=true->b<w.heap.size) (hobj:∀ b,K0 b->H b=false->∃ o,w.heap[b]?=some o∧ORel (SP SB0 H) (CK P.a SB0 false) (idOn K0) o o)
  (hk:∀ s,l≠.refuse s) (hkl:∀ f x y fn r o1 o2 s,Patch P.a f x y fn r o1 o2 s->∀ c,fn.body=some c->l≠c) (hbl:BC b.fn=true∨∃ fn s,P.a.funcs[b.fn]?=some fn∧fn.body=some (.refuse s)) (hQ:∀ g w W,Same w W->Q g w->Q g W) {N:Act->World->Prop}
  (hc:∀ τ d,bY P.a l c N a (on w τ d))
  (h1:∀ a' w',N a' w'->KTr P.b BB Q 0 (gor (b.at a' (.code l :: k)) (C :: cs)) w') :
  KTr P.b BB Q 0 (gor (b.at a (.code c :: k)) (C :: cs)) w:=by
 have h0:=B.run (Qa:=AtCode b l k [bad] N) AtCode.same (fun g w f' hl hf' hlk e=>by
  obtain ⟨a',w0,_,_,rfl⟩:=hl
  have e3:b.fn=f':=e
  rcases hbl with h | ⟨fn,s,r1,r2⟩
  ·rw [e3,hf'] at h;cases h
  ·obtain ⟨x,y,fn2,r,o1,o2,s2,fn3,hp,_⟩:=hlk
   have:=hp.func
   rw [<- e3,r1] at this
   cases this
   have:=hp.text
   rw [r2] at this
   cases this) (C:=C) (cs:=cs) (.on hfr) (.on hfr) hlo hroom hhid hold hobj fun hs=>runs_of_goesTo (N:=N) (l:=l) B.la (by simp) hs hc
 refine h0.bind fun g2 w' hq=>?_
 obtain ⟨g',w0,β',q1,q2,q3,q4,q5⟩:=hq
 have hon:FrRel P.a SB0 H false β' g'.frame g2.frame:=by
  have htop:=q4.top
  obtain ⟨a',wl,l1,l2,l3⟩:=q1
  generalize hf:g'.frame=fr at htop ⊢
  generalize g2.frame=FR at htop ⊢
  cases htop with
  | on h=>exact h
  | @stop f A A' kd s1 s2 s3 s4 =>
   exfalso
   rcases B.ref f s1 s2 with ⟨fn,s,r1,r2⟩ | ⟨x,y,fn,r,o1,o2,s,fn3,hp,_⟩
   ·subst l3
    have:=congrArg Frame.todo hf
    simp only [Go.Iso.gor,Frame.enter,r1,Frame.at] at this
    exact hk s (by simpa [r2] using (List.cons.inj this).1)
   ·subst l3
    have:=congrArg Frame.todo hf
    simp only [Go.Iso.gor,Frame.enter,hp.func,Frame.at] at this
    exact hkl f x y fn r o1 o2 s hp _ hp.text (by simpa [hp.text] using (List.cons.inj this).1)
 have eF:g'.frame=g2.frame:=FrRel.id (P:=Two.of P.a) q3 hon
 have e2:g2=gor g2.frame g2.callers:=by
  obtain ⟨x1,x2,x3,x4,x5⟩:=g2
  obtain ⟨_,_,⟨_,s1⟩,⟨_,d1⟩,⟨_,o1⟩⟩:=q4
  dsimp only at *
  subst s1 d1 o1
  rfl
 obtain ⟨a',wl,l1,l2,l3⟩:=q1
 have ecs:g2.callers=C :: cs:=by
  have:=q4.callers
  rw [show g'.callers=[bad] by rw [l3];rfl] at this
  generalize g2.callers=X at this
  cases this with
  | base=>rfl
  | cons _ h=>exact absurd rfl h.ne
 rw [e2,ecs,<- eF,l3]
 exact (h1 a' wl l2).same hQ (l1.trans q2)
end
end Go.Iso
namespace Go.Proofs.YtgicaeombogkcaaGreat
open Go.RowKit Go.Iso Go.Co Go.Conc Go.ConcN Go.Sq
section
variable {Q:Goroutine->World->Prop} {b:Frame} {a:Act} {todo:List Item} {cs:List Frame} {w:World} {BB:FuncId->Bool}
theorem oG (hQ:∀ g w W,Same w W->Q g w->Q g W) (hf:BB b.fn=true) (hg:∀ o,({ b.at a todo with mode:=.returning }:Frame).oper?=some o->aG Tryz.prog o.op=true) (h:∀ τ d,(stepG Tryz.prog true (Go.Conc.G { b.at a todo with mode:=.returning } cs) (on w τ d)).goes (fun g' w' _=>g'.callers≠[]∧∃ W,Same W w'∧KTr Tryz.prog BB Q 0 g' W)) :
  KTr Tryz.prog BB Q 0 (Go.Conc.G { b.at a todo with mode:=.returning } cs) w:=by
 refine KTr.step ⟨hf,hg⟩ fun τ d=>?_
 have:=h τ d
 cases hs:stepG Tryz.prog true (Go.Conc.G { b.at a todo with mode:=.returning } cs) (on w τ d) with
 | go g' w' es =>
  rw [hs] at this
  obtain ⟨h1,W,h2,h3⟩:=this
  exact ⟨g',w',es,rfl,h1,h3.same hQ h2⟩
 | _=>rw [hs] at this;exact this.elim
end
theorem sv:codeOk Sq.prog SBy false true zw3=true:=by kernel_rfl
theorem rE {QT:Goroutine->World->Prop} {C:Frame} {cs:List Frame} (hQT:∀ g w W,Same w W->QT g w->QT g W)
  (h:∀ (a':Act) (todo:List Item) (w':World),a'.tmps.getD 0 undef=.bool true->a'.defers=[]->(∀ o,({ (base 9).at a' todo with mode:=.returning }:Frame).oper?=some o->aG Tryz.prog o.op=true)->KTr Tryz.prog BBm QT 0 (Go.Conc.G { (base 9).at a' todo with mode:=.returning } (C :: cs)) w'):kk QT (C :: cs):=by
 intro K A c B xs w' U ρ hone ho hU u1 u2 u3 u4 hUK hobj
 obtain ⟨y0,y1,y2,y3,y4,y5,y6,y7,y8,y9,y10,y11,y12,y13,y14,y15,y16,y17,y18,y19,y20,y21,y22,y23,y24,y25,y26,y27,y28,y29,y30,y31,y32,y33,y34,y35,y36,y37,y38,y39,y40,y41,y42,y43,y44,y45,y46,y47,y48,y49,y50,y51,y52,y53,y54,y55,y56,y57,y58,y59,y60,y61,y62,y63,y64,y65,y66,y67,y68,y69,y70,y71,y72,y73,y74,y75,y76,y77,y78,y79,y80,y81,y82,y83,y84,y85,y86,y87,y88,y89,y90,y91,y92,y93,y94,rfl⟩:=sO hU
 have u1:y1=.int .i64 1:=u1
 have u2:y2=.int .i64 0:=u2
 have u3:y3=.slice A 3 c:=u3
 have u4:y4=.int .i64 0:=u4
 subst u1 u2 u3 u4
 have hbest:GrAt w' w'.heap.size A guardG:=by
  obtain ⟨A',c',hv,hg⟩:=ho.grAt
  have hA:A=A':=by injection hv
  subst hA
  have hl:=pZ
  rw [hone] at hl
  have:aN ρ 3=guardG:=by simpa using hl
  rw [<- this];exact hg
 have hfr:FrRel Sq.prog SBy Hid.no false (idOn K) ((base 9).at ⟨#[y0,.int .i64 1,.int .i64 0,.slice A 3 c,.int .i64 0,y5,y6,y7,y8,y9,y10,y11,y12,y13,y14,y15,y16,y17,y18,y19,y20,y21,y22,y23,y24,y25,y26,y27,y28,y29,y30,y31,y32,y33,y34,y35,y36,y37,y38,y39,y40,y41,y42,y43,y44,y45,y46,y47,y48,y49,y50,y51,y52,y53,y54,y55,y56,y57,y58,y59,y60,y61,y62,y63,y64,y65,y66,y67,y68,y69,y70,y71,y72,y73,y74,y75,y76,y77,y78,y79,y80,y81,y82,y83,y84,y85,y86,y87,y88,y89,y90,y91,y92,y93,y94],[]⟩ [.code zw3]) ((base 9).at ⟨#[y0,.int .i64 1,.int .i64 0,.slice A 3 c,.int .i64 0,y5,y6,y7,y8,y9,y10,y11,y12,y13,y14,y15,y16,y17,y18,y19,y20,y21,y22,y23,y24,y25,y26,y27,y28,y29,y30,y31,y32,y33,y34,y35,y36,y37,y38,y39,y40,y41,y42,y43,y44,y45,y46,y47,y48,y49,y50,y51,y52,y53,y54,y55,y56,y57,y58,y59,y60,y61,y62,y63,y64,y65,y66,y67,y68,y69,y70,y71,y72,y73,y74,y75,y76,y77,y78,y79,y80,y81,y82,y83,y84,y85,y86,y87,y88,y89,y90,y91,y92,y93,y94],[]⟩ [.code zw3]):=by
  refine ⟨rfl,?_,.cons (.code sv) .nil,.nil,.run,rfl,⟨(by show CallKind.normal≠.early;decide),(by show SBy 9=true;decide)⟩,.none⟩
  exact allIn (l:=[y0,.int .i64 1,.int .i64 0,.slice A 3 c,.int .i64 0,y5,y6,y7,y8,y9,y10,y11,y12,y13,y14,y15,y16,y17,y18,y19,y20,y21,y22,y23,y24,y25,y26,y27,y28,y29,y30,y31,y32,y33,y34,y35,y36,y37,y38,y39,y40,y41,y42,y43,y44,y45,y46,y47,y48,y49,y50,y51,y52,y53,y54,y55,y56,y57,y58,y59,y60,y61,y62,y63,y64,y65,y66,y67,y68,y69,y70,y71,y72,y73,y74,y75,y76,y77,y78,y79,y80,y81,y82,y83,y84,y85,y86,y87,y88,y89,y90,y91,y92,y93,y94]) hUK
 have hs:=(da (H:=Hid.no) er).seg (b:=base 9) (a:=⟨#[y0,.int .i64 1,.int .i64 0,.slice A 3 c,.int .i64 0,y5,y6,y7,y8,y9,y10,y11,y12,y13,y14,y15,y16,y17,y18,y19,y20,y21,y22,y23,y24,y25,y26,y27,y28,y29,y30,y31,y32,y33,y34,y35,y36,y37,y38,y39,y40,y41,y42,y43,y44,y45,y46,y47,y48,y49,y50,y51,y52,y53,y54,y55,y56,y57,y58,y59,y60,y61,y62,y63,y64,y65,y66,y67,y68,y69,y70,y71,y72,y73,y74,y75,y76,y77,y78,y79,y80,y81,y82,y83,y84,y85,y86,y87,y88,y89,y90,y91,y92,y93,y94],[]⟩) (c:=zw3) (k:=[]) (C:=C) (cs:=cs) (Q:=QT) (w:=w') (K0:=K) hfr (fun _ _=>Nat.zero_le _) (Nat.zero_le _) (fun b _ hb=>by cases hb) (fun b hb=>by cases hb) (fun b hb _=>hobj b hb)
  (fun s h=>by cases h) (fun _ _ _ _ _ _ _ _ _ _ _ h=>by cases h) (.inr ⟨_,_,Sq.w9,rfl⟩) hQT
  (N:=fun e a' _=>e=.ret∧a'.tmps.getD 0 undef=.bool true∧a'.defers=[]) (fun τ d=>rD A c y0 y5 y6 y7 y8 y9 y10 y11 y12 y13 y14 y15 y16 y17 y18 y19 y20 y21 y22 y23 y24 y25 y26 y27 y28 y29 y30 y31 y32 y33 y34 y35 y36 y37 y38 y39 y40 y41 y42 y43 y44 y45 y46 y47 y48 y49 y50 y51 y52 y53 y54 y55 y56 y57 y58 y59 y60 y61 y62 y63 y64 y65 y66 y67 y68 y69 y70 y71 y72 y73 y74 y75 y76 y77 y78 y79 y80 y81 y82 y83 y84 y85 y86 y87 y88 y89 y90 y91 y92 y93 y94 (on w' τ d) hbest)
  (fun a' w' h=>by cases h.1) (fun a' w' todo hn hpl=>h a' todo w' hn.2.1 hn.2.2 hpl)
 exact hs
structure LawEnd (f:FuncId) (l:Code) where
 fn:Func
 r:Nat
 o1:Oper
 o2:Oper
 d:Nat
 t:Nat
 n:Nat
 hf:Tryz.prog.funcs[f]?=some fn
 hl:l=.seq (.region r #[o1,o2] false) .ret
 h1:o1.guard=none∧o1.dst=some d∧∃ ts,o1.op=.call { callee:=.value (.func 9),args:=#[],argTypes:=ts }
 h2:o2.guard=none∧o2.dst=some t∧o2.op=.assign (.tmp d)
 hres:fn.results=#[.tmp t]
 hd:d<n
 ht:t<n
 plain:aG Tryz.prog o1.op=true∧aG Tryz.prog o2.op=true
 looked:BBm f=true
 hn:fn.ntmps=n
section
variable {f:FuncId} {l:Code}
def LawEnd.fr (E:LawEnd f l) (a:Act):Frame:=(base f).at a [.inRegion #[E.o1,E.o2] [0,1],.code .ret]
theorem LawEnd.go (E:LawEnd f l) {a:Act} {cs:List Frame} (hcs:cs≠[]) {w:World}:KTr Tryz.prog BBm (QW1 (E.fr a :: cs)) 0 (Go.Conc.G ((base f).at a [.code l]) cs) w:=by
 have hQ:∀ g w W,Same w W->QW1 (E.fr a :: cs) g w->QW1 (E.fr a :: cs) g W:=QW1.same
 have hB:BBm (base f).fn=true:=E.looked
 obtain ⟨g1,g2,ts,g3⟩:=E.h1
 rw [show ([Item.code l]:List Item)=[.code (.seq (.region E.r #[E.o1,E.o2] false) .ret)] from congrArg (fun c=>[Item.code c]) E.hl]
 refine aa hQ hB rfl fun τ d=>?_
 rw [stepG_seq]
 simp only [goes_go]
 refine ⟨hcs,w,Same.on_,?_⟩
 refine aa hQ hB rfl fun τ d=>?_
 rw [stepG_region]
 simp only [goes_go,List.size_toArray,List.length_cons,List.length_nil,Nat.reduceAdd,Nat.zero_add,List.range,List.range.loop]
 refine ⟨hcs,w,Same.on_,?_⟩
 refine aa hQ hB E.plain.1 fun τ d=>?_
 refine aw (o:=E.o1) rfl (bz g1) (by show CallKind.normal≠.early;decide) g3 Tryz.func9 (by kernel_rfl) (by kernel_rfl) ⟨hcsM _ _,w,Same.on_,?_⟩
 have em:(#[]:Array Operand).map a.eval=#[]:=by simp
 rw [em]
 exact rg (cs:=E.fr a :: cs) (hcsM _ _) w
theorem LawEnd.back (E:LawEnd f l) {a:Act} (ha:a.tmps.size=E.n) (hd:a.defers=[]):kk (Iso.Left Tryz.prog f fun v _=>v=.bool true) (E.fr a :: [bad]):=by
 have hQ:∀ g w W,Same w W->Iso.Left Tryz.prog f (fun v _=>v=.bool true) g w->Iso.Left Tryz.prog f (fun v _=>v=.bool true) g W:=Iso.Left.same
 have hB:BBm (base f).fn=true:=E.looked
 obtain ⟨g1,g2,g3⟩:=E.h1
 obtain ⟨k1,k2,k3⟩:=E.h2
 refine rE hQ fun a' todo w' hv hds hpl=>?_
 refine oG hQ (by show BBm 9=true;decide) hpl fun τ dd=>?_
 refine goes_leave1 (b:=base 9) (b₀:=base f) (a₀:=a) (ops:=#[E.o1,E.o2]) (i:=0) (rest:=[1]) (k:=[.code .ret]) rfl hds Tryz.func9 rfl ⟨hcsM _ _,w',Same.on_,?_⟩
 rw [hv]
 have e1:((#[E.o1,E.o2]:Array Oper)[0]?.bind (·.dst))=some E.d:=g2
 rw [e1]
 obtain ⟨a1,ha1⟩:∃ a1,a1=a.put (some E.d) (.bool true):=⟨_,rfl⟩
 rw [<- ha1]
 have hs1:a1.tmps.size=E.n:=by rw [ha1,<- ha];exact Array.size_setIfInBounds
 have hd1:a1.defers=[]:=by rw [ha1];exact hd
 have hev:a1.eval (.tmp E.d)=.bool true:=by
  rw [ha1]
  show (a.tmps.setIfInBounds E.d _).getD E.d undef=_
  have:E.d<a.tmps.size:=by rw [ha];exact E.hd
  simp [Array.getD,this]
 refine aa hQ hB E.plain.2 fun τ dd=>?_
 have hst:stepG Tryz.prog true (Go.Conc.G ((base f).at a1 (.inRegion #[E.o1,E.o2] (1 :: []) :: [.code .ret])) [bad]) (on w' τ dd)=.go (Go.Conc.G ((base f).at (a1.put E.o2.dst (.bool true)) (.inRegion #[E.o1,E.o2] [] :: [.code .ret])) [bad]) (on w' τ dd) (listed Tryz.prog (base f).fn a1 E.o2 (on w' τ dd)) :=
  stepG_value (o:=E.o2) rfl (bz k1) (by show CallKind.normal≠.early;decide) (by unfold execOp;rw [k3];show Sem.run _ (pure (Next.value (a1.eval (.tmp E.d)))) _=_;rw [hev];rfl)
 rw [hst]
 simp only [goes_go]
 refine ⟨hcsM _ _,w',Same.on_,?_⟩
 rw [k2]
 obtain ⟨a2,ha2⟩:∃ a2,a2=a1.put (some E.t) (.bool true):=⟨_,rfl⟩
 rw [<- ha2]
 have hd2:a2.defers=[]:=by rw [ha2];exact hd1
 have hev2:a2.tmps.getD E.t undef=.bool true:=by
  rw [ha2]
  show (a1.tmps.setIfInBounds E.t _).getD E.t undef=_
  have:E.t<a1.tmps.size:=by rw [hs1];exact E.ht
  simp [Array.getD,this]
 refine aa hQ hB rfl fun τ dd=>?_
 rw [stepG_region_end]
 simp only [goes_go]
 refine ⟨hcsM _ _,w',Same.on_,?_⟩
 refine aa hQ hB rfl fun τ dd=>?_
 rw [stepG_ret']
 simp only [goes_go]
 refine ⟨hcsM _ _,w',Same.on_,.fin ?_⟩
 refine ⟨w',.bool true,_,⟨rfl,rfl,rfl⟩,rfl,rfl,rfl,rfl,hd2,rfl,E.fn,E.hf,?_⟩
 have:=results_tmp E.hres a2.tmps Tryz.prog w'
 rw [hev2] at this
 exact this
end
open Go.RowKit Go.Iso Go.Co Go.Conc Go.ConcN Go.Sq
theorem dW {P:Program} {N K:Nat} {m m1 m2:Machine} {t t1 t2:Trace} (h:runNT P N m t=(.next m1,t1)) (k:runNT P K m1 t1=(.next m2,t2)):runNT P (N+K) m t=(.next m2,t2):=by
 rw [ce h];exact k
theorem end_step {f:FuncId} {fn:Func} {t:Nat} (hf:Tryz.prog.funcs[f]?=some fn) (hres:fn.results=#[.tmp t]) (hb:BBm f=true) {H:Hid} {β:Bij} {g A:Goroutine} {w:World} (hg:GRel PP SBm H true BBm [] β g A) (hl:Iso.Left Tryz.prog f (fun v _=>v=.bool true) g w) (W:World) :
  A.status=.running∧stepG Tryz.prog true A W=.ended (.done (.bool true)) W #[]:=by
 obtain ⟨w0,v,fr,hs,rfl,rfl,hfr,hm,hd,hk,fn',hfn,hr⟩:=hl
 have hon:=hg.top.on_of (show BBm fr.fn=true by rw [hfr];exact hb)
 have e0:=hg.status.2
 have e1:=hg.dying.2
 have e2:=hg.offers.2
 have hcs:=hg.callers
 obtain ⟨FR,CS2,st,dy,off⟩:=A
 dsimp only at e0 e1 e2 hcs hon
 subst e0 e1 e2
 have ecs:CS2=[]:=by
  cases hcs with
  | base=>rfl
  | cons _ h=>exact absurd rfl h.ne
 subst ecs
 refine ⟨rfl,?_⟩
 obtain ⟨fn1,tmps,todo,defers,mode,kind,round⟩:=fr
 obtain ⟨fn2,tmps2,todo2,defers2,mode2,kind2,round2⟩:=FR
 obtain ⟨a1,a2,a3,a4,a5,a6,a7,a8⟩:=hon
 dsimp only [gor] at a1 a2 a3 a4 a5 a6 a7 a8 hm hd hk hfn hr hfr
 subst a1 a6 hm hd hk hfr
 have d2:defers2=[]:=by cases a4;rfl
 have m2:mode2=.returning:=by cases a5;rfl
 subst d2 m2
 rw [hf] at hfn
 cases hfn
 have hv:tmps.getD t undef=.bool true:=by
  have:=results_tmp hres tmps Tryz.prog w0
  rw [hr] at this
  injection this with h1 _
  exact h1.symm
 have hV:=a2.getD t (VRel.undef (SP SBm H) β)
 rw [hv] at hV
 have hV2:tmps2.getD t undef=.bool true:=by
  generalize tmps2.getD t undef=V at hV
  cases hV;rfl
 have hr2:=results_tmp hres tmps2 Tryz.prog W
 rw [hV2] at hr2
 have he2:=events_results_tmp (P:=Tryz.prog) (w:=W) hres tmps2 #[]
 have hne:¬ 2=fn1:=fun e=>by subst e;revert hb;decide
 simp [stepG,unwind,doReturn,hf,hr2,he2,seen,GStep.after,hne]
section
variable {f:FuncId} {l:Code}
def AtWoken (E:LawEnd f l) (g:Goroutine) (w:World):Prop:=∃ a:Act,a.tmps.size=E.n∧a.defers=[]∧QW1 (E.fr a :: [bad]) g w
theorem rF (E:LawEnd f l) {A:Goroutine} {W:World} {x:Lone} (ht:Tw PP SBm BBm true 0 (fun _=>False) ⟨fun B=>B<W.heap.size,W,0⟩ x A W) (hx:KTr Tryz.prog BBm (AtWoken E) 0 x.g x.w) (hT:x.T=[]) (hH:∀ b,x.H b=false) :
  ∃ N last o w' t',runNT Tryz.prog (N+1) (crowd #[A] W none) #[]=(.ended o w',t')∧runN Tryz.prog N (crowd #[A] W none)=.next last∧step Tryz.prog last=.ended o w' ∧
   Go.Conc.Good Tryz.prog (fun v w'=>v=.bool true∧(w'.os=W.os∧w'.output=W.output)∧W.heap.size<=w'.heap.size∧∀ B,B<W.heap.size->w'.heap[B]?=W.heap[B]?) last o w' t':=by
 have hb:Btw Tryz.prog (fun _=>False) #[A] W #[] (fun _=>0):=by
  refine ⟨⟨fun i g hi hg=>?_,fun j _=>rfl⟩,⟨past_nil.clean,fun i a ha=>?_,past_nil.over,past_nil.hears,fun op hop=>by simp at hop⟩,fun i op x h=>by simp at h,fun i op h=>by simp at h,fun B h=>h.elim⟩
  ·have:=(Array.getElem?_eq_some_iff.1 hg).1
   simp at this;omega
  ·simp [touchAt,Trace.act?] at ha
 obtain ⟨N1,m1,t1,r1,gs1,W1,sl1,q1,x1,A1,rfl,a1,a2,a3,a4,a5,a6,a7,a8,a9,a10⟩:=ktree_beside (P:=PP) (SB:=SBm) (BB:=BBm) (lets:=true) (Gn:=0) (Dead:=fun _=>False) (Kp:=⟨fun B=>B<W.heap.size,W,0⟩) lib_m hmf_m (H:=x.H) (T:=x.T) (β:=x.β) (Q:=AtWoken E) (fun g w h=>by obtain ⟨a,_,_,h⟩:=h;exact .inl (QW1.fn g w h)) (os:=W.os) (ou:=W) (n:=1) (b0:=x.w.heap.size) (B0:=W.heap.size) _ (crowd #[A] W none) #[]
  ⟨#[A],W,none,fun _=>0,x,A,0,rfl,rfl,rfl,.of hb,ht,hx,rfl,rfl,Bij.le_refl _,⟨rfl,rfl⟩,⟨Nat.le_refl _,Nat.le_refl _,fun b B h=>.inl h⟩,rfl⟩
 obtain ⟨a,ha,had,hq1⟩:=a5
 have hH1:∀ b,x1.H b=false:=fun b=>by rw [a6];exact hH b
 obtain ⟨N2,m2,t2,r2,gs2,W2,sl2,q2,A2,Dead2,g2,w2,rfl,b1,b2,b3,b4,b5,b6,b7,b8,b9⟩:=run_count (sl:=sl1) a3.btw a4 a1 hq1 (hcsM _ _) hH1 (by omega)
 obtain ⟨N3,m3,t3,r3,gs3,W3,sl3,q3,x3,A3,rfl,c1,c2,c3,c4,c5,c6,c7,c8,c9,c10⟩:=ktree_beside (P:=PP) (SB:=SBm) (BB:=BBm) (lets:=true) (Gn:=0) (Dead:=Dead2) (Kp:=⟨fun B=>B<W.heap.size,W,0⟩) lib_m hmf_m (H:=x1.H) (T:=x1.T) (β:=x1.β) (Q:=QW2 (E.fr a :: [bad])) (fun g w h=>.inl (QW2.fn g w h)) (os:=W2.os) (ou:=W2) (n:=gs2.size) (b0:=w2.heap.size) (B0:=W2.heap.size) _ (crowd gs2 W2 sl2) t2
  ⟨gs2,W2,sl2,q2,⟨g2,w2,x1.H,x1.β,x1.T⟩,A2,0,rfl,b1,rfl,.of b3,b4,b5,rfl,rfl,Bij.le_refl _,⟨rfl,rfl⟩,⟨Nat.le_refl _,Nat.le_refl _,fun b B h=>.inl h⟩,rfl⟩
 obtain ⟨N4,m4,t4,r4,gs4,W4,sl4,q4,A4,Dead4,g4,w4,rfl,d1,d2,d3,d4,d5,d6,d7,d8,d9⟩:=run_best (sl:=sl3) Iso.Left.same (E.back ha had) c3.btw c4 c1 c5 (hcsM _ _) (fun b=>by rw [c6];exact hH1 b) (by omega)
 obtain ⟨N5,m5,t5,r5,gs5,W5,sl5,q5,x5,A5,rfl,f1,f2,f3,f4,f5,f6,f7,f8,f9,f10⟩:=ktree_beside (P:=PP) (SB:=SBm) (BB:=BBm) (lets:=true) (Gn:=0) (Dead:=Dead4) (Kp:=⟨fun B=>B<W.heap.size,W,0⟩) lib_m hmf_m (H:=x3.H) (T:=x3.T) (β:=x3.β) (Q:=Iso.Left Tryz.prog f fun v _=>v=.bool true) (fun g w h=>.inr ⟨f,_,h⟩) (os:=W4.os) (ou:=W4) (n:=gs4.size) (b0:=w4.heap.size) (B0:=W4.heap.size) _ (crowd gs4 W4 sl4) t4
  ⟨gs4,W4,sl4,q4,⟨g4,w4,x3.H,x3.β,x3.T⟩,A4,0,rfl,d1,rfl,.of d3,d4,d5,rfl,rfl,Bij.le_refl _,⟨rfl,rfl⟩,⟨Nat.le_refl _,Nat.le_refl _,fun b B h=>.inl h⟩,rfl⟩
 have eT:x5.T=[]:=f7.trans (c7.trans (a7.trans hT))
 have hrun:=dW r1 (dW r2 (dW r3 (dW r4 r5)))
 have hgl:=f4.gl
 unfold GLike at hgl
 rw [eT] at hgl
 have hos:W5.os=W.os∧W5.output=W.output:=⟨f9.1.trans (d7.1.trans (c9.1.trans (b7.1.trans a9.1))),f9.2.trans (d7.2.trans (c9.2.trans (b7.2.trans a9.2)))⟩
 have hsz:W.heap.size<=W5.heap.size:=by have:=f10.1;have:=c10.1;have:=a10.1;omega
 obtain ⟨M,last,o,w',t',e1,e2,e3,e4⟩:=beside_ends (P:=Tryz.prog) (Shun:=DeadL Dead4) (B:=W5.heap.size) (D:=fun _ _ _=>False) (Post:=fun v w'=>v=.bool true∧(w'.os=W.os∧w'.output=W.output)∧W.heap.size<=w'.heap.size∧∀ B,B<W.heap.size->w'.heap[B]?=W.heap[B]?) (fun _ _ _ h=>h.elim) (gs:=gs5) (a:=A5) (w:=W5) (sl:=sl5) (t:=t5) (q:=q5) (n:=0) f1 f3.btw.lv f3.btw.past (fun w1 hw1=>by
  obtain ⟨d,rfl⟩:=hw1
  obtain ⟨s1,s2⟩:=end_step E.hf E.hres E.looked hgl f5 (W5.at d)
  exact ⟨s1,.bool true,#[],s2,fun e he=>by simp at he,rfl,hos,hsz,fun B hB=>(f4.keep B hB).2⟩)
 refine ⟨N1+(N2+(N3+(N4+N5)))+M,last,o,w',t',?_,?_,e3,e4⟩
 ·exact (ce hrun).trans e1
 ·have h1:=congrArg Prod.fst (ce (K:=M) hrun)
  rw [runNT_fst,runNT_fst] at h1
  exact h1.trans e2
end
end Go.Proofs.YtgicaeombogkcaaGreat
namespace Go.Iso
theorem kw:∀ (n:Nat) (V:Value),SizeOf.sizeOf V<=n->∃ v,(∀ (S:Par) (β:Bij),S.hid.bl=true->VRel S β v V)∧∀ (S:Par) (β:Bij),VRel S β v v:=by
 intro n
 induction n with
 | zero=>intro V h;cases V<;>simp at h
 | succ n ih =>
  intro V h
  have un:lg V=true->∃ v,(∀ (S:Par) (β:Bij),S.hid.bl=true->VRel S β v V)∧∀ (S:Par) (β:Bij),VRel S β v v:=fun hb=>⟨hole,fun S β h=>.blank (.inr h) hb,fun S β=>.blank (.inl rfl) rfl⟩
  cases V with
  | agg X =>
   have hx:∀ i:_root_.Fin X.size,∃ v,(∀ (S:Par) (β:Bij),S.hid.bl=true->VRel S β v X[i])∧∀ (S:Par) (β:Bij),VRel S β v v:=fun i=>ih _ (by
    have:=Array.sizeOf_getElem X i.1 i.2
    simp at h
    simp only [Fin.getElem_fin]
    omega)
   refine ⟨.agg (Array.ofFn fun i=>Classical.choose (hx i)),fun S β hb=>.agg (by simp) fun i v V h1 h2=>?_,fun S β=>.agg rfl fun i v V h1 h2=>?_⟩
   ·obtain ⟨hi,rfl⟩:=Array.getElem?_eq_some_iff.1 h2
    obtain ⟨_,rfl⟩:=Array.getElem?_eq_some_iff.1 h1
    rw [Array.getElem_ofFn]
    exact (Classical.choose_spec (hx ⟨i,hi⟩)).1 S β hb
   ·rw [h1] at h2;cases h2
    obtain ⟨hi,rfl⟩:=Array.getElem?_eq_some_iff.1 h1
    rw [Array.getElem_ofFn]
    exact (Classical.choose_spec (hx _)).2 S β
  | tuple X =>
   have hx:∀ i:_root_.Fin X.size,∃ v,(∀ (S:Par) (β:Bij),S.hid.bl=true->VRel S β v X[i])∧∀ (S:Par) (β:Bij),VRel S β v v:=fun i=>ih _ (by
    have:=Array.sizeOf_getElem X i.1 i.2
    simp at h
    simp only [Fin.getElem_fin]
    omega)
   refine ⟨.tuple (Array.ofFn fun i=>Classical.choose (hx i)),fun S β hb=>.tuple (by simp) fun i v V h1 h2=>?_,fun S β=>.tuple rfl fun i v V h1 h2=>?_⟩
   ·obtain ⟨hi,rfl⟩:=Array.getElem?_eq_some_iff.1 h2
    obtain ⟨_,rfl⟩:=Array.getElem?_eq_some_iff.1 h1
    rw [Array.getElem_ofFn]
    exact (Classical.choose_spec (hx ⟨i,hi⟩)).1 S β hb
   ·rw [h1] at h2;cases h2
    obtain ⟨hi,rfl⟩:=Array.getElem?_eq_some_iff.1 h1
    rw [Array.getElem_ofFn]
    exact (Classical.choose_spec (hx _)).2 S β
  | pointer a=>cases a with
   | none=>exact ⟨.pointer none,fun _ _ _=>.nilp,fun _ _=>.nilp⟩
   | some a=>exact un rfl
  | bool b=>exact ⟨.bool b,fun _ _ _=>.bool b,fun _ _=>.bool b⟩
  | int k n=>exact ⟨.int k n,fun _ _ _=>.int k n,fun _ _=>.int k n⟩
  | string s=>exact ⟨.string s,fun _ _ _=>.string s,fun _ _=>.string s⟩
  | nilIface=>exact ⟨.nilIface,fun _ _ _=>.nilIface,fun _ _=>.nilIface⟩
  | nilFunc=>exact ⟨.nilFunc,fun _ _ _=>.nilFunc,fun _ _=>.nilFunc⟩
  | func f x c=>cases f with
   | method n=>exact ⟨hm,fun _ _ h=>.blankM (.inr h),fun _ _=>.blankM (.inl rfl)⟩
   | _=>exact un rfl
  | _=>exact un rfl
noncomputable def eu (V:Value):Value:=Classical.choose (kw (SizeOf.sizeOf V) V (Nat.le_refl _))
theorem gn (V:Value):(∀ (S:Par) (β:Bij),S.hid.bl=true->VRel S β (eu V) V)∧∀ (S:Par) (β:Bij),VRel S β (eu V) (eu V):=Classical.choose_spec (kw (SizeOf.sizeOf V) V (Nat.le_refl _))
noncomputable def bP (k:Nat->Bool) (C:Array Value):Array Value:=C.mapIdx fun i V=>if k i then V else eu V
theorem fO (k:Nat->Bool) (C:Array Value):(bP k C).size=C.size:=by simp [bP]
theorem ed (k:Nat->Bool) (C:Array Value) (i:Nat):(bP k C)[i]?=(C[i]?).map fun V=>if k i then V else eu V:=by simp [bP]
theorem jy {k:Nat->Bool} {C:Array Value} {i:Nat} (h:k i=true):(bP k C)[i]?=C[i]?:=by
 rw [ed];simp [h]
theorem kX {S:Par} {β:Bij} {k:Nat->Bool} {C:Array Value} (hb:S.hid.bl=true) (h:∀ i v,k i=true->C[i]?=some v->VRel S β v v):AsRel S β (bP k C) C:=by
 refine ⟨fO _ _,fun i v V h1 h2=>?_⟩
 rw [ed,h2] at h1
 simp only [Option.map_some,Option.some.injEq] at h1
 subst h1
 split
 ·exact h i V ‹_› h2
 ·exact (gn V).1 S β hb
theorem ky {S:Par} {β:Bij} {k:Nat->Bool} {C:Array Value} (h:∀ i v,k i=true->C[i]?=some v->VRel S β v v):AsRel S β (bP k C) (bP k C):=by
 refine ⟨rfl,fun i v V h1 h2=>?_⟩
 rw [h1] at h2;cases h2
 rw [ed] at h1
 cases hC:C[i]? with
 | none=>rw [hC] at h1;cases h1
 | some V =>
  rw [hC] at h1
  simp only [Option.map_some,Option.some.injEq] at h1
  subst h1
  split
  ·exact h i V ‹_› hC
  ·exact (gn V).2 S β
noncomputable def fV (k:Nat->Bool):Obj->Obj
 | .cells C t f=>.cells (bP k C) t (0,max C.size f.2)
 | o=>o
noncomputable def aX (K:Nat->Bool) (k:Nat->Nat->Bool) (W:World):World:={ W with heap:=W.heap.mapIdx fun b o=>if K b then fV (k b) o else o }
section
variable {K:Nat->Bool} {k:Nat->Nat->Bool} {W:World}
theorem kY:(aX K k W).heap.size=W.heap.size:=by simp [aX]
theorem iw (b:Nat):(aX K k W).heap[b]?=(W.heap[b]?).map fun o=>if K b then fV (k b) o else o:=by simp [aX]
theorem dM {b:Nat} (hb:K b=true) {C:Array Value} {t:TypeId} {f:Nat×Nat} (h:W.heap[b]?=some (.cells C t f)):(aX K k W).heap[b]?=some (.cells (bP (k b) C) t (0,max C.size f.2)):=by
 rw [iw,h];simp [hb,fV]
theorem kZ {b o:Nat} (h:K b=true->k b o=true):(aX K k W).cell? ⟨b,o,none⟩=W.cell? ⟨b,o,none⟩:=by
 unfold World.cell?
 dsimp only
 rw [iw]
 cases hb:K b with
 | false=>cases W.heap[b]?<;>simp
 | true =>
  cases hW:W.heap[b]? with
  | none=>rfl
  | some o' =>
   cases o' with
   | cells C t f=>simp [fV,jy (h hb)]
   | _=>rfl
theorem oH {b:Nat} (hb:K b=true) {C:Array Value} {t:TypeId} {f:Nat×Nat} (h:W.heap[b]?=some (.cells C t f)):Ro (aX K k W) b :=
 ⟨_,_,_,dM hb h,fun i hi=>by
  rw [fO] at hi
  exact ⟨Nat.zero_le _,Nat.lt_of_lt_of_le hi (Nat.le_max_left _ _)⟩⟩
def Shuts (S:Par) (K:Nat->Bool) (k:Nat->Nat->Bool) (W:World):Prop:=∀ b,K b=true->∃ C t f,W.heap[b]?=some (.cells C t f)∧∀ i v,k b i=true->C[i]?=some v->VRel S (idOn fun b=>K b=true) v v
theorem lb {S:Par} {Ck:Code->Prop} (hb:S.hid.bl=true) (hh:∀ b,S.hid b=false) (h:Shuts S K k W):WRel S Ck 0 (idOn fun b=>K b=true) (aX K k W) W:=by
 refine ⟨⟨fun h1 h2=>h1.2.symm.trans h2.2,fun h1 h2=>h1.2.trans h2.2.symm,fun _=>⟨Nat.zero_le _,Nat.zero_le _⟩⟩,⟨Nat.zero_le _,Nat.zero_le _⟩,fun b B hB _=>?_,fun b B _ h=>?_,fun b h=>?_,rfl⟩
 ·obtain ⟨hk,rfl⟩:=hB
  obtain ⟨C,t,f,h1,h2⟩:=h b hk
  exact ⟨_,_,dM hk h1,h1,.cells (kX hb h2) fun i _ hi=>⟨Nat.zero_le _,Nat.lt_of_lt_of_le hi (Nat.le_max_right _ _)⟩⟩
 ·rw [hh] at h;cases h
 ·rw [hh] at h;cases h
theorem shadow_objs {S:Par} {Ck:Code->Prop} (h:Shuts S K k W):∀ b,K b=true->∃ o,(aX K k W).heap[b]?=some o∧ORel S Ck (idOn fun b=>K b=true) o o:=fun b hk=>by
 obtain ⟨C,t,f,h1,h2⟩:=h b hk
 exact ⟨_,dM hk h1,.cells (ky h2) fun i h1 h2=>⟨h1,h2⟩⟩
end
def Hid.nb:Hid:=⟨fun _=>false,false,true⟩
end Go.Iso
namespace Go.Proofs.YtgicaeombogkcaaGreat
open Go.RowKit Go.Iso Go.Co Go.Conc Go.ConcN Go.Sq
section
variable {f:FuncId} {l:Code} {K:Nat->Bool} {k:Nat->Nat->Bool} {W:World} {args:Array Value}
theorem p6 (E:LawEnd f l) {C:Code} (hbody:E.fn.body=some C) (hput:(f != 9&&sqPut f)=true) (hsb:SBy f=true) (hcode:codeOk Sq.prog SBy false true C=true) (hsh:∀ S,Shuts S K k W) (hargs:∀ S,AsRel S (idOn fun b=>K b=true) args args)
  (hgo:∀ τ d,bY Sq.prog l C (fun a _=>a.tmps.size=E.n∧a.defers=[]) ⟨args++Array.replicate (E.n - args.size) undef,[]⟩ (on (aX K k W) τ d)) :
  KTr Tryz.prog BBm (AtWoken E) 0 (Go.Conc.G (Frame.enter Tryz.prog f args .normal) [bad]) (aX K k W):=by
 have hQ:∀ g w W,Same w W->AtWoken E g w->AtWoken E g W:=fun g w W s ⟨a,h1,h2,h3⟩=>⟨a,h1,h2,QW1.same g w W s h3⟩
 rw [enter_at _ E.hf hbody,E.hn]
 have hfr:FrRel Sq.prog SBy Hid.no false (idOn fun b=>K b=true) ((base f).at ⟨args++Array.replicate (E.n - args.size) undef,[]⟩ [.code C]) ((base f).at ⟨args++Array.replicate (E.n - args.size) undef,[]⟩ [.code C]) :=
  ⟨rfl,(hargs _).append (.replicate (.undef _ _) _),.cons (.code hcode) .nil,.nil,.run,rfl,⟨(by show CallKind.normal≠.early;decide),hsb⟩,.none⟩
 refine (da (H:=Hid.no) er).segTo (b:=base f) (a:=⟨args++Array.replicate (E.n - args.size) undef,[]⟩) (l:=l) (c:=C) (k:=[]) (C:=bad) (cs:=[]) (Q:=AtWoken E) (w:=aX K k W) (K0:=fun b=>K b=true) hfr (fun _ _=>Nat.zero_le _) (Nat.zero_le _) (fun b _ hb=>by cases hb) (fun b hb=>by cases hb) (fun b hb _=>shadow_objs (hsh _) b hb)
  (fun s h=>?_) (fun f' x y fn r o1 o2 s hp c hc h=>?_) (.inr ⟨_,_,Sq.put E.hf hput,rfl⟩) hQ (N:=fun a _=>a.tmps.size=E.n∧a.defers=[]) hgo (fun a' w' hn=>?_)
 ·rw [E.hl] at h;cases h
 ·rw [hp.text] at hc;cases hc
  rw [E.hl] at h;cases h
 ·exact (E.go (hcsM _ _)).mono fun g w h=>⟨a',hn.1,hn.2,h⟩
theorem oI (E:LawEnd f l) {C:Code} (hbody:E.fn.body=some C) (hput:(f != 9&&sqPut f)=true) (hsb:SBy f=true) (hsm:SBm f=true) (hcode:codeOk Sq.prog SBy false true C=true) (hsh:∀ S,Shuts S K k W) (hargs:∀ S,AsRel S (idOn fun b=>K b=true) args args)
  (hgo:∀ τ d,bY Sq.prog l C (fun a _=>a.tmps.size=E.n∧a.defers=[]) ⟨args++Array.replicate (E.n - args.size) undef,[]⟩ (on (aX K k W) τ d)) :
  ∃ M last o w' t',runNT Tryz.prog (M+1) (solo (Go.Conc.G (Frame.enter Tryz.prog f args .normal) []) W) #[]=(.ended o w',t')∧runN Tryz.prog M (solo (Go.Conc.G (Frame.enter Tryz.prog f args .normal) []) W)=.next last∧step Tryz.prog last=.ended o w' ∧
   Go.Conc.Good Tryz.prog (fun v w'=>v=.bool true∧(w'.os=W.os∧w'.output=W.output)∧W.heap.size<=w'.heap.size∧∀ B,B<W.heap.size->w'.heap[B]?=W.heap[B]?) last o w' t' :=
 rF E (A:=Go.Conc.G (Frame.enter Tryz.prog f args .normal) []) (W:=W) (x:=⟨Go.Conc.G (Frame.enter Tryz.prog f args .normal) [bad],aX K k W,Hid.nb,idOn fun b=>K b=true,[]⟩)
  ⟨⟨enter_rel (P:=PP) (lib_m _) (.inl hsm) (hargs _) .normal (by decide),.base,⟨rfl,rfl⟩,⟨rfl,rfl⟩,⟨rfl,rfl⟩⟩,lb rfl (fun _=>rfl) (hsh _),rfl,fun _ _ _ h=>h.elim,fun B hB=>⟨hB,rfl⟩,fun b B hb _=>by
   obtain ⟨hk,rfl⟩:=hb
   obtain ⟨C,t,f,h1,_⟩:=hsh (SP SBm Hid.nb) b hk
   exact .inr (oH hk h1)⟩ (p6 E hbody hput hsb hcode hsh hargs hgo) rfl fun _=>rfl
end
end Go.Proofs.YtgicaeombogkcaaGreat
namespace Go.Sq
open Go.RowKit
def wAt (r:Ros):Nat->Nat->Int
 | 0,_=>0
 | k+1,h=>wAt r k h+((wl (r k)).count (h:Int):Nat)
def watchesL (r:Ros) (n m:Nat):List Int:=(List.range m).map (wAt r n)
theorem watchesL_len (r:Ros) (n m:Nat):(watchesL r n m).length=m:=by simp [watchesL]
theorem gp {r:Ros} {n m h:Nat} (hh:h<m):(watchesL r n m)[h]?=some (wAt r n h):=by simp [watchesL,hh]
theorem p7 {l:List Int} {i:Nat} {x:Int}:(l.take i).count x<=l.count x:=by
 conv=>rhs;rw [<- List.take_append_drop i l,List.count_append]
 omega
theorem gq (x h:Nat):(wl x).count (h:Int)<=4:=Nat.le_trans List.count_le_length (bQ x)
theorem ix (r:Ros) (k h:Nat):0<=wAt r k h∧wAt r k h<=4*k:=by
 induction k with
 | zero=>simp [wAt]
 | succ k ih =>
  have:=gq (r k) h
  unfold wAt
  omega
structure Nums (w:World) (g n:Nat) (V:Nat->Int):Prop where
 lt:g<w.heap.size
 at_:∀ h,h<n->w.cell? ⟨g,h,none⟩=some (.int .i64 (V h))∧w.frozen? ⟨g,h,none⟩=false
theorem Nums.gr {w w':World} {g n:Nat} {V:Nat->Int} (h:Nums w g n V) (hg:Gr w w'):Nums w' g n V:=⟨Nat.lt_of_lt_of_le h.lt hg.size,fun q hq=>⟨(hg.cell (p:=⟨g,q,none⟩) h.lt).trans (h.at_ q hq).1,(hg.frozen (p:=⟨g,q,none⟩) h.lt).trans (h.at_ q hq).2⟩⟩
theorem Nums.set {w:World} {g n:Nat} {V V':Nat->Int} (h:Nums w g n V) {a:Nat} (ha:a<n) (y:Int) (hV:∀ q,q<n->V' q=if q=a then y else V q):Nums (w.setCell ⟨g,a,none⟩ (.int .i64 y)) g n V':=by
 refine ⟨by have:=h.lt;simpa [World.setCell] using this,fun q hq=>⟨?_,(World.frozen?_setCell _ _ _ _).trans (h.at_ q hq).2⟩⟩
 rw [hV q hq]
 by_cases e:q=a
 ·subst e;rw [if_pos rfl];exact World.cell?_setCell_same _ _ _ (h.at_ q hq).1
 ·rw [if_neg e];exact (World.cell?_setCell_other _ _ _ _ (by simp [Ne.symm e])).trans (h.at_ q hq).1
theorem Nums.congr {w:World} {g n:Nat} {V V':Nat->Int} (h:Nums w g n V) (e:∀ q,q<n->V q=V' q):Nums w g n V':=⟨h.lt,fun q hq=>by rw [<- e q hq];exact h.at_ q hq⟩
theorem Nums.ri {w:World} {g n:Nat} {V:Nat->Int} (h:Nums w g n V):RI w w.heap.size (some ⟨g,0,none⟩) ((List.range n).map V):=fun _=>⟨g,0,rfl,h.lt,fun i x hx=>by
 have hi:i<n:=by have:=(List.getElem?_eq_some_iff.1 hx).1;simpa using this
 rw [List.getElem?_map,List.getElem?_range hi] at hx
 have:x=V i:=(Option.some.inj hx).symm
 rw [Nat.zero_add,this]
 exact (h.at_ i hi).1⟩
end Go.Sq
namespace Go.Proofs.YtgicaeombogkcaaGreat
open Go.RowKit Go.Sq
theorem kz (w:World) (n:Nat):Nums (w.alloc (.cells (dL n) 3)) w.heap.size n fun _=>0:=⟨by simp,fun h hh=>by
 rw [World.cell?_alloc_at _ _ _ _ (by simp),World.frozen?_alloc_at _ _ _ _ (by simp),dc _ _ hh];exact ⟨rfl,rfl⟩⟩
theorem jh (cb:Nat) (nA hA:Option Addr) (nc hc:Nat) (c:Camp) (r:Ros) (w:World) (h:CampP w w.heap.size cb c nA hA nc hc) (hok:c.Ok) (hr:∀ i,c.has (r i)) :
  Calls Sq.prog 55 #[.pointer (some ⟨cb,0,none⟩),rosV r] w fun e w'=>∃ A k,e=.returned (.slice A c.herders.length k)∧RI w' w'.heap.size A (watchesL r c.needs.length c.herders.length)∧Gr w w':=by
 obtain ⟨W0,hW0⟩:∃ W0:World,W0=w.alloc (.cells #[.int .u8 (r 0),.int .u8 (r 1),.int .u8 (r 2),.int .u8 (r 3),.int .u8 (r 4)] 91):=⟨_,rfl⟩
 have hg0:Gr w W0:=hW0▸(Gr.refl w).alloc _
 have hcp:=h.on hg0
 have q1:=hcp.c1
 have HRC:Hid (∀ i,i<5->W0.cell? ⟨w.heap.size,i,none⟩=some (.int .u8 (r i:Nat))):=Lib.hid fun i hi=>by
  rw [hW0,World.cell?_alloc_at _ _ _ _ (by simp)]
  match i,hi with
  | 0,_=>rfl
  | 1,_=>rfl
  | 2,_=>rfl
  | 3,_=>rfl
  | 4,_=>rfl
 have h1:=h.c1
 have h0:=h.c0
 have hlt:=h.lt
 have HCP:=Lib.hid hcp
 have HZ1:Hid (W0.heap.size=w.heap.size+1):=Lib.hid (by rw [hW0];simp)
 have hh4:=hok.h4
 have hn5:=hok.n5
 have hmk:=fun w=>en c.herders.length w (by omega)
 have HW:=Lib.hid hW0
 have HG0:=Lib.hid hg0
 have HR:=Lib.hid hr
 have HOK:=Lib.hid hok
 have HN0:Hid (Nums (W0.alloc (.cells (dL c.herders.length) 3)) (w.heap.size+1) c.herders.length fun _=>0):=Lib.hid (HZ1.out▸kz W0 c.herders.length)
 clear hW0 hg0 h hcp hr hok q1
 unfold rosV
 go_enter Sq.func55,Tryz.ntmps55
 go_wp2
 rw [<- HW.out]
 go_loopw [22] (fun i wr=>∃ k:Nat,k<=c.needs.length∧i=.int .i64 k∧Gr W0 wr∧Nums wr (w.heap.size+1) c.herders.length (wAt r k)) (fun i _=>c.needs.length - (intOf i).toNat)
 case atStart=>exact ⟨0,by omega,rfl,(Gr.refl W0).alloc _,HN0.out⟩
 case round =>
  obtain ⟨wq,rfl⟩:∃ wq,wq=wr:=⟨_,rfl⟩
  obtain ⟨k,hk,rfl,hgr,hnm⟩:=hrel
  have HGR:=Lib.hid hgr
  have HNM:=Lib.hid hnm
  by_cases hlk:k<c.needs.length
  ·have hrq:wq.cell? ⟨w.heap.size,k,none⟩=some (.int .u8 (r k:Nat)):=(hgr.cell (p:=⟨w.heap.size,k,none⟩) (HZ1.out▸Nat.lt_succ_self _)).trans (HRC.out k (by omega))
   have hx16:r k<16:=Camp.lt16 HOK.out.h4 (HR.out k)
   have hxh:r k<2 ^ c.herders.length:=HR.out k
   have HWK:Hid (∀ h,wAt r (k+1) h=wAt r k h+((wl (r k)).count (h:Int):Nat)):=Lib.hid fun h=>rfl
   have HWB:=Lib.hid (fun h=>ix r k h)
   generalize r k=x at hrq hx16 hxh HWK
   have HLIST:=Lib.hid (eh x wq hx16)
   clear hgr hnm
   go_wp2_with fail
   refine HLIST.out.mono ?_
   rintro e w3 ⟨v3,rfl,hown3,hg3⟩
   obtain ⟨A3,k3,rfl,hon⟩:=RIK_of_own hown3
   have HON:=Lib.hid hon
   have HG3:=Lib.hid (HGR.out.trans hg3)
   have HN3:=Lib.hid ((HNM.out.gr hg3).congr (V':=fun h=>wAt r k h+(((wl x).take 0).count (h:Int):Nat)) fun q _=>by simp)
   have hgq:=HNM.out.lt
   have hz3:=hg3.size
   clear hown3 hg3 hon HLIST
   go_wp2
   go_loopw [30] (fun i wr=>∃ j:Nat,j<=(wl x).length∧i=.int .i64 j∧Gr W0 wr∧Nums wr (w.heap.size+1) c.herders.length (fun h=>wAt r k h+(((wl x).take j).count (h:Int):Nat))∧w3.heap.size<=wr.heap.size∧∀ b,b<w3.heap.size->b≠w.heap.size+1->wr.heap[b]?=w3.heap[b]?) (fun i _=>(wl x).length - (intOf i).toNat)
   case atStart=>exact ⟨0,by omega,rfl,HG3.out,HN3.out,Nat.le_refl _,fun _ _ _=>rfl⟩
   case round =>
    obtain ⟨j,hj,rfl,hgi,hni,hzi,hki⟩:=hrel
    have HGI:=Lib.hid hgi
    have HNI:=Lib.hid hni
    have HKI:=Lib.hid hki
    by_cases hlj:j<(wl x).length
    ·obtain ⟨b3,o3,rfl,hb3K,hc3⟩:=HON.out (fun e=>by rw [e] at hlj;simp at hlj)
     obtain ⟨a,ha,ha4,hab⟩:=wl_mem (List.getElem_mem hlj)
     have hah:a<c.herders.length:=gL hxh hab
     have hd3:=(World.cell?_of_block (a:=⟨b3,o3+j,none⟩) (hki b3 hb3K.2 (by omega))).trans (hc3 j _ (List.getElem?_eq_getElem hlj))
     rw [ha] at hd3
     have HT:Hid (∀ h:Nat,((wl x).take (j+1)).count (h:Int)=((wl x).take j).count (h:Int)+if h=a then 1 else 0):=Lib.hid fun h=>by
      rw [List.take_add_one,List.getElem?_eq_getElem hlj,List.count_append,ha]
      by_cases e:h=a
      ·subst e;simp
      ·rw [if_neg e]
       have:¬ (a:Int)=(h:Int):=by omega
       simp [this]
     obtain ⟨e1,e2⟩:=hni.at_ a hah
     have hb:=HWB.out a
     have hcl:((wl x).take j).count (a:Int)<=4:=Nat.le_trans p7 (gq x a)
     have HSET:=Lib.hid (fun y (hy:y=wAt r k a+(((wl x).take j).count (a:Int):Nat)+1)=>hni.set hah y (V':=fun h=>wAt r k h+(((wl x).take (j+1)).count (h:Int):Nat)) fun q _=>by
      show wAt r k q+(((wl x).take (j+1)).count (q:Int):Nat)=_
      rw [HT.out]
      by_cases e:q=a
      ·subst e;rw [if_pos rfl,if_pos rfl,hy];omega
      ·rw [if_neg e,if_neg e];omega)
     have HGS:=Lib.hid (fun y=>hgi.setCell (p:=⟨w.heap.size+1,a,none⟩) (Nat.le_of_eq HZ1.out) y)
     have HKS:=Lib.hid (fun (y:Value) b (hb:b<w3.heap.size) (hne:b≠w.heap.size+1)=>(Below.heap_setCell wr ⟨w.heap.size+1,a,none⟩ y b hne).trans (hki b hb hne))
     have hy1:0<=wAt r k a+(((wl x).take j).count (a:Int):Nat)∧wAt r k a+(((wl x).take j).count (a:Int):Nat)<=1000:=by omega
     generalize wAt r k a+(((wl x).take j).count (a:Int):Nat)=y0 at e1 HSET hy1
     have hsl:((wl x).length:Int)<=4:=by have:=bQ x;omega
     have hjl:j<(wl x).length:=hlj
     clear hgi hni hki hc3 ha
     have HS9:=Lib.hid (HSET.out (y0+1) rfl)
     go_wp2
     go_roundw
     case rel=>exact ⟨j+1,by omega,by go_num,HGS.out _,HS9.out,by simp [World.setCell];omega,HKS.out _⟩
     case measure=>simp [intOf];omega
    ·have hjn:j=(wl x).length:=by omega
     have HNE:Hid (Nums wr (w.heap.size+1) c.herders.length (wAt r (k+1))):=Lib.hid (hni.congr fun q _=>by
      show wAt r k q+(((wl x).take j).count (q:Int):Nat)=_
      rw [hjn,List.take_length,HWK.out])
     subst hjn
     clear hgi hni hki
     go_wp2
     go_roundw
     case rel=>exact ⟨k+1,by omega,by go_num,HGI.out,HNE.out⟩
     case measure=>simp [intOf];omega
  ·have hkn:k=c.needs.length:=by omega
   subst hkn
   have HF:=Lib.hid hnm.ri
   clear hgr hnm
   go_wp2
   go_ret
   exact ⟨_,_,rfl,HF.out,HG0.out.trans HGR.out⟩
open Go.RowKit Go.Sq
theorem oJ (nA hA gA:Option Addr) (nc hc gc:Nat) (c:Camp) (ls:List (List Int)) (w:World) (B:Nat) (hB:B<=w.heap.size) (hn:RI w B nA c.needs) (hh:HsAt w B hA c.herders) (hg:GrAt w B gA ls)
  (hl1:c.needs.length<=4611686018427387904) (hl2:c.herders.length<=4611686018427387904) (hlo:∀ h∈c.herders,h.off.length<=4611686018427387904) (hl3:ls.length<=4611686018427387904) (hl4:∀ x∈ls,x.length<=4611686018427387904)
  (hF:formedE c ls=0) :
  Calls Sq.prog 34 #[campV nA hA c nc hc,.slice gA ls.length gc] w fun e w'=>Gr w w'∧∃ A k,e=.returned (.tuple #[.slice A c.herders.length k,.int .i64 0])∧RI w' w'.heap.size A (watchesL (rosOf ls) c.needs.length c.herders.length):=by
 unfold campV
 obtain ⟨W0,hW0⟩:∃ W0:World,W0=w.alloc (.cells #[.slice nA c.needs.length nc,.slice hA c.herders.length hc] 25):=⟨_,rfl⟩
 have hg0:Gr w W0:=hW0▸(Gr.refl w).alloc _
 have hz0:W0.heap.size=w.heap.size+1:=by rw [hW0];simp
 have HW:=Lib.hid hW0
 have HFORM:=Lib.hid (eP nA hA gA nc hc gc c ls W0 B (by omega) (hn.gr hB hg0) (hh.keep fun b o hb=>hg0.cell (Nat.lt_of_lt_of_le hb hB)) (hg.gr hB hg0) hl1 hl2 hlo hl3 hl4)
 have HG0:=Lib.hid hg0
 have HFE:=Lib.hid hF
 have HOK:=Lib.hid (Camp.Ok.of (show checkE c=0 by
  have:=hF
  unfold formedE at this
  split at this
  ·exact absurd this (by assumption)
  ·simpa using ‹¬ checkE c≠0›))
 clear hW0 hg0 hn hh hg hl4 hlo hF
 go_enter Sq.func34,Tryz.ntmps34
 unfold campV at HFORM
 go_wp2_with fail
 rw [<- HW.out]
 refine HFORM.out.mono ?_
 rintro e w1 ⟨hg1,hform⟩
 rw [if_pos HFE.out] at hform
 obtain ⟨cb,g,cap,rfl,hcb,hcg,hK⟩:=hform
 obtain ⟨W1,hW1⟩:∃ W1:World,W1=w1.alloc (.cells #[.int .u8 (rosOf ls 0),.int .u8 (rosOf ls 1),.int .u8 (rosOf ls 2),.int .u8 (rosOf ls 3),.int .u8 (rosOf ls 4)] 91):=⟨_,rfl⟩
 have hg1':Gr w1 W1:=hW1▸(Gr.refl w1).alloc _
 have HZ1:Hid (W1.heap.size=w1.heap.size+1):=Lib.hid (by rw [hW1];simp)
 have HG1:=Lib.hid (hg1.trans hg1')
 have HCP:=Lib.hid (hK.campP.on hg1')
 have HRC:Hid (∀ i,i<5->W1.cell? ⟨w1.heap.size,i,none⟩=some (.int .u8 (rosOf ls i:Nat))):=Lib.hid fun i hi=>by
  rw [hW1,World.cell?_alloc_at _ _ _ _ (by simp)]
  match i,hi with
  | 0,_=>rfl
  | 1,_=>rfl
  | 2,_=>rfl
  | 3,_=>rfl
  | 4,_=>rfl
 have HWT:=Lib.hid (jh cb nA hA nc hc c (rosOf ls) W1 HCP.out HOK.out (de HFE.out))
 have HW1:=Lib.hid hW1
 clear hg1 hg1' HFORM hW1 hK
 unfold rosV at *
 go_wp2_with fail
 rw [<- HW1.out]
 refine HWT.out.mono ?_
 rintro e w2 ⟨A,k,rfl,hri,hg2⟩
 have HRI:=Lib.hid hri
 have HG2:=Lib.hid (HG0.out.trans (HG1.out.trans hg2))
 clear hri hg2 HWT
 go_wp2
 go_ret2
 exact ⟨HG2.out,_,_,rfl,HRI.out⟩
end Go.Proofs.YtgicaeombogkcaaGreat
