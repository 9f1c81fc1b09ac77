/- Parts of the proof. -/
import Derived.Test.YtefcpflbnmldcaaGreatP21
import Derived.Test.YtefcpflbnmldcaaGreatP22
import Derived.Test.YtefcpflbnmldcaaGreatP23
import Derived.Test.YtefcpflbnmldcaaGreatP18
import Derived.Test.YtefcpflbnmldcaaGreatP08
import Derived.Test.YtefcpflbnmldcaaGreatP17
import Derived.Test.YtefcpflbnmldcaaGreatP16
set_option linter.all false
set_option maxHeartbeats 3200000
set_option maxRecDepth 1000000
namespace Go.Proofs.YtefcpflbnmldcaaGreat
open Go.RowKit Go.Iso Go.Co Go.Conc Go.Sq
def mX:formedE (wakeC [3,2,4]) [[0,1],[1],[]]=0:=by decide +kernel
def mY:formedE (wakeC [3,2,4]) guardG=0:=by decide +kernel
def qm:di 3 [(2,6)]=0:=by decide +kernel
def r6:balL (owesL (wakeC [3,2,4]) (rosOf guardG) 9 (wolvesL 3 [(2,6)] 1))=[8,0,-8]:=by decide +kernel
def qo:(walkL wakeCamp (setsL 3) 2 (firstR (setW 1)) 1).map (λr=>aN r 3)=[guardG]:=by decide +kernel
def gW {l:List Int}:(∀h∈(wakeC l).herders,h.off.length<=4611686018427387904):=by
 intro h hh
 simp only[wakeC,List.mem_cons,List.not_mem_nil,or_false] at hh
 rcases hh with rfl|rfl|rfl<;>simp
def oW (nA hA gA:Option Addr)(w:World)(B:Nat)(hB:B<=w.heap.size)(hn:RI w B nA [3,2,4])(hh:HsAt w B hA (wakeC [3,2,4]).herders)(hg:GrAt w B gA [[0,1],[1],[]]) :
  Calls uG 34 #[.agg #[.slice nA 3 3,.slice hA 3 3],.slice gA 3 3,.int .i64 2,.int .i64 0] w λe w'=>Gr w w'/\∃A k,e=.returned (.tuple #[.slice A 3 k,.int .i64 3,.int .i64 0])/\GrAt w' w'.heap.size A guardG:=by
 refine(ql nA hA gA 3 3 3 (wakeC [3,2,4]) [[0,1],[1],[]] 2 0 w B hB hn hh hg (by decide) (by decide) gW (by decide) (by decide) (λk _ hk _ _=>?_)).mono ?_
 ·obtain rfl:k=2:=by omega
  exact Camp.Ok.of (by decide +kernel)
 ·rintro e w' ⟨hg,h⟩
  refine⟨hg,?_⟩
  rw[if_neg (by simp[mX]),if_neg (by decide)] at h
  have hr:=qa
  have h2:walkL (repC (wakeC [3,2,4]) (Int.toNat 2) 0) (setsL (wakeC [3,2,4]).herders.length) (wakeC [3,2,4]).needs.length zeroR 0=walkL (repC (wakeC [3,2,4]) 2 0) (setsL 3) 3 zeroR 0:=rfl
  rw[h2] at h
  cases hn:nearR (rosOf [[0,1],[1],[]]) (walkL (repC (wakeC [3,2,4]) 2 0) (setsL 3) 3 zeroR 0) with
  |none=>rw[hn] at hr;cases hr
  |some p =>
   rw[hn] at hr h
   obtain⟨A,k,he,hgr⟩:=h
   have hr2:(aN p.1 3,p.2)=(guardG,3):=Option.some.inj hr
   injection hr2 with e1 e2
   refine⟨A,k,?_,?_⟩
   ·rw[he,e2];rfl
   ·rw[<-e1];exact hgr
def qp (nA hA:Option Addr)(w:World)(B:Nat)(hB:B<=w.heap.size)(hn:RI w B nA [3,2,5])(hh:HsAt w B hA (wakeC [3,2,5]).herders) :
  Calls uG 36 #[.agg #[.slice nA 3 3,.slice hA 3 3]] w λe w'=>Gr w w'/\∃A k,e=.returned (.tuple #[.slice A 2 k,.int .i64 0])/\RI w' w'.heap.size A [1,2]:=by
 refine(rH nA hA 3 3 (wakeC [3,2,5]) w B hB hn hh (by decide) (by decide) gW).mono ?_
 rintro e w' ⟨hg,h⟩
 refine⟨hg,?_⟩
 rw[if_neg (by simp[jC]),if_neg (by simp[iE])] at h
 have h2:clashN (wakeC [3,2,5]) (2 ^ (wakeC [3,2,5]).needs.length)=some [1,2]:=mO
 rw[h2] at h
 exact h
def s5 (nA hA gA rA:Option Addr)(w:World)(B:Nat)(hB:B<=w.heap.size)(hn:RI w B nA [3,2,4])(hh:HsAt w B hA (wakeC [3,2,4]).herders)(hg:GrAt w B gA guardG)(hr:RsAt w B rA [(2,6)]) :
  Calls uG 50 #[.agg #[.slice nA 3 3,.slice hA 3 3],.slice gA 3 3,.slice rA 1 1,.int .i64 9] w λe w'=>Gr w w'/\∃A k,e=.returned (.tuple #[.slice A 3 k,.int .i64 0])/\RI w' w'.heap.size A [8,0,-8]:=by
 refine(iI nA hA gA rA 3 3 3 1 (wakeC [3,2,4]) guardG [(2,6)] 9 w B hB hn hh hg hr (by decide) (by decide) gW (by decide) (by decide) (by decide) (by decide) mY qm (by omega)).mono ?_
 rintro e w' ⟨hg,A,k,he,h⟩
 refine⟨hg,A,k,he,?_⟩
 rw[<-r6]
 exact h
def tP {w:World}{B b:Nat}{A0 A1 A2:Option Addr}{c0 c1 c2:Nat}{l0 l1 l2:List Int}{t:TypeId}{f:Nat×Nat}(h:w.heap[b]?=some (.cells #[.slice A0 l0.length c0,.slice A1 l1.length c1,.slice A2 l2.length c2] t f))(hb:b<B)(h0:RI w B A0 l0)(h1:RI w B A1 l1)(h2:RI w B A2 l2):GrAt w B (some ⟨b,0,none⟩) [l0,l1,l2]:=λ_=>by
 have e:∀o,w.cell? ⟨b,o,none⟩=(#[.slice A0 l0.length c0,.slice A1 l1.length c1,.slice A2 l2.length c2]:Array Value)[o]?:=λo=>by unfold World.cell?;rw[h];simp
 refine⟨b,0,rfl,hb,λi l hl=>?_⟩
 match i,hl with
 |0,hl=>cases hl;exact⟨A0,c0,e _,h0⟩
 |1,hl=>cases hl;exact⟨A1,c1,e _,h1⟩
 |2,hl=>cases hl;exact⟨A2,c2,e _,h2⟩
def tQ {w:World}{B b:Nat}{x y:Int}{t:TypeId}{f:Nat×Nat}(h:w.heap[b]?=some (.cells #[.int .i64 x,.int .i64 y] t f))(hb:b<B):RsAt w B (some ⟨b,0,none⟩) [(x,y)]:=λ_=>by
 have e:∀o,w.cell? ⟨b,o,none⟩=(#[.int .i64 x,.int .i64 y]:Array Value)[o]?:=λo=>by unfold World.cell?;rw[h];simp
 refine⟨b,0,rfl,hb,λi q hq=>?_⟩
 match i,hq with
 |0,hq=>cases hq;exact⟨e _,e _⟩
def chk19 (n:Nat)(l:List Value)(h:l.length=n+19):∃(y0 y1 y2 y3 y4 y5 y6 y7 y8 y9 y10 y11 y12 y13 y14 y15 y16 y17 y18:Value) (tl:List Value),l=y0::y1::y2::y3::y4::y5::y6::y7::y8::y9::y10::y11::y12::y13::y14::y15::y16::y17::y18::tl/\tl.length=n:=by
 match l,h with
 |y0::y1::y2::y3::y4::y5::y6::y7::y8::y9::y10::y11::y12::y13::y14::y15::y16::y17::y18::tl,h=>exact⟨y0,y1,y2,y3,y4,y5,y6,y7,y8,y9,y10,y11,y12,y13,y14,y15,y16,y17,y18,tl,rfl,by simpa using h⟩
def tG {T:Array Value}(h:T.size=95):∃(y0 y1 y2 y3 y4 y5 y6 y7 y8 y9 y10 y11 y12 y13 y14 y15 y16 y17 y18 y19 y20 y21 y22 y23 y24 y25 y26 y27 y28 y29 y30 y31 y32 y33 y34 y35 y36 y37 y38 y39 y40 y41 y42 y43 y44 y45 y46 y47 y48 y49 y50 y51 y52 y53 y54 y55 y56 y57 y58 y59 y60 y61 y62 y63 y64 y65 y66 y67 y68 y69 y70 y71 y72 y73 y74 y75 y76 y77 y78 y79 y80 y81 y82 y83 y84 y85 y86 y87 y88 y89 y90 y91 y92 y93 y94:Value),T=#[y0,y1,y2,y3,y4,y5,y6,y7,y8,y9,y10,y11,y12,y13,y14,y15,y16,y17,y18,y19,y20,y21,y22,y23,y24,y25,y26,y27,y28,y29,y30,y31,y32,y33,y34,y35,y36,y37,y38,y39,y40,y41,y42,y43,y44,y45,y46,y47,y48,y49,y50,y51,y52,y53,y54,y55,y56,y57,y58,y59,y60,y61,y62,y63,y64,y65,y66,y67,y68,y69,y70,y71,y72,y73,y74,y75,y76,y77,y78,y79,y80,y81,y82,y83,y84,y85,y86,y87,y88,y89,y90,y91,y92,y93,y94]:=by
 obtain⟨l⟩:=T
 have h:l.length=76+19:=h
 obtain⟨y0,y1,y2,y3,y4,y5,y6,y7,y8,y9,y10,y11,y12,y13,y14,y15,y16,y17,y18,l0,rfl,h0⟩:=chk19 76 l h
 obtain⟨y19,y20,y21,y22,y23,y24,y25,y26,y27,y28,y29,y30,y31,y32,y33,y34,y35,y36,y37,l1,rfl,h1⟩:=chk19 57 l0 h0
 obtain⟨y38,y39,y40,y41,y42,y43,y44,y45,y46,y47,y48,y49,y50,y51,y52,y53,y54,y55,y56,l2,rfl,h2⟩:=chk19 38 l1 h1
 obtain⟨y57,y58,y59,y60,y61,y62,y63,y64,y65,y66,y67,y68,y69,y70,y71,y72,y73,y74,y75,l3,rfl,h3⟩:=chk19 19 l2 h2
 obtain⟨y76,y77,y78,y79,y80,y81,y82,y83,y84,y85,y86,y87,y88,y89,y90,y91,y92,y93,y94,l4,rfl,h4⟩:=chk19 0 l3 h3
 obtain rfl:l4=[]:=List.eq_nil_of_length_eq_zero h4
 exact⟨y0,y1,y2,y3,y4,y5,y6,y7,y8,y9,y10,y11,y12,y13,y14,y15,y16,y17,y18,y19,y20,y21,y22,y23,y24,y25,y26,y27,y28,y29,y30,y31,y32,y33,y34,y35,y36,y37,y38,y39,y40,y41,y42,y43,y44,y45,y46,y47,y48,y49,y50,y51,y52,y53,y54,y55,y56,y57,y58,y59,y60,y61,y62,y63,y64,y65,y66,y67,y68,y69,y70,y71,y72,y73,y74,y75,y76,y77,y78,y79,y80,y81,y82,y83,y84,y85,y86,y87,y88,y89,y90,y91,y92,y93,y94,rfl⟩
def r7 (A:Option Addr)(c:Nat)(y0 y5 y6 y7 y8 y9 y10 y11 y12 y13 y14 y15 y16 y17 y18 y19 y20 y21 y22 y23 y24 y25 y26 y27 y28 y29 y30 y31 y32 y33 y34 y35 y36 y37 y38 y39 y40 y41 y42 y43 y44 y45 y46 y47 y48 y49 y50 y51 y52 y53 y54 y55 y56 y57 y58 y59 y60 y61 y62 y63 y64 y65 y66 y67 y68 y69 y70 y71 y72 y73 y74 y75 y76 y77 y78 y79 y80 y81 y82 y83 y84 y85 y86 y87 y88 y89 y90 y91 y92 y93 y94:Value)(w:World)(hbest:GrAt w w.heap.size A guardG) :
  zw3.wp uG (λe a' _=>(e=.normal\/e=.ret)/\e=.ret/\a'.tmps.getD 0 undef=.bool true/\a'.defers=[]) ⟨#[y0,.int .i64 1,.int .i64 0,.slice A 3 c,.int .i64 0,y5,y6,y7,y8,y9,y10,y11,y12,y13,y14,y15,y16,y17,y18,y19,y20,y21,y22,y23,y24,y25,y26,y27,y28,y29,y30,y31,y32,y33,y34,y35,y36,y37,y38,y39,y40,y41,y42,y43,y44,y45,y46,y47,y48,y49,y50,y51,y52,y53,y54,y55,y56,y57,y58,y59,y60,y61,y62,y63,y64,y65,y66,y67,y68,y69,y70,y71,y72,y73,y74,y75,y76,y77,y78,y79,y80,y81,y82,y83,y84,y85,y86,y87,y88,y89,y90,y91,y92,y93,y94],[]⟩ w:=by
 have HB:=tT hbest
 clear hbest
 have ez:zw3=ah (ah (ah wB)):=rfl
 simp only[wB,Tryz.f20,Option.getD_some,ah] at ez
 rw[ez]
 clear ez
 obtain⟨W1,hW1⟩:∃W1:World,W1=w.alloc (.cells #[.int .i64 3,.int .i64 2,.int .i64 4] 3):=⟨_,rfl⟩
 have hg1:Gr w W1:=hW1▸(Gr.refl w).alloc _
 have HN1:RowKit.Hid (RI W1 W1.heap.size (some ⟨w.heap.size,0,none⟩) [3,2,4]):=tT (bY (t:=3) (f:=(0,0)) (by rw[hW1];exact heap_alloc_new w _) (by rw[hW1];simp))
 have HB1:=tT (HB.out.gr (Nat.le_refl _) hg1)
 have HC1:=tT (kk (some ⟨w.heap.size,0,none⟩) 3 [3,2,4] W1)
 have HW1:=tT hW1
 have hz1:=hg1.size
 clear hg1 hW1
 go_wp2_with fail
 rw[<-HW1.out]
 refine HC1.out.mono ?_
 rintro e w2 ⟨hA,rfl,hhs,hg2⟩
 obtain⟨W2,hW2⟩:∃W2:World,W2=((w2.alloc (.cells #[.int .i64 0,.int .i64 1] 3)).alloc (.cells #[.int .i64 1] 3)).alloc (.cells #[.slice (some ⟨w2.heap.size,0,none⟩) 2 2,.slice (some ⟨w2.heap.size+1,0,none⟩) 1 1,.slice none 0 0] 22):=⟨_,rfl⟩
 have hg3:Gr w2 W2:=hW2▸(((Gr.refl w2).alloc _).alloc _).alloc _
 have hz2:W2.heap.size=w2.heap.size+3:=by rw[hW2];simp
 have b0:W2.heap[w2.heap.size]?=some (.cells ([0,1].map (Value.int .i64)).toArray 3 (0,0)):=by
  rw[hW2,heap_alloc_old _ _ (by simp;omega),heap_alloc_old _ _ (by simp)];exact heap_alloc_new _ _
 have b1:W2.heap[w2.heap.size+1]?=some (.cells ([1].map (Value.int .i64)).toArray 3 (0,0)):=by
  rw[hW2,heap_alloc_old _ _ (by simp)];exact aK _ _ (by simp)
 have b2:W2.heap[w2.heap.size+2]?=some (.cells #[.slice (some ⟨w2.heap.size,0,none⟩) 2 2,.slice (some ⟨w2.heap.size+1,0,none⟩) 1 1,.slice none 0 0] 22 (0,0)):=by
  rw[hW2];exact aK _ _ (by simp)
 have hgrid:GrAt W2 W2.heap.size (some ⟨w2.heap.size+2,0,none⟩) [[0,1],[1],[]]:=tP (l0:=[0,1]) (l1:=[1]) (l2:=[]) b2 (by omega) (bY b0 (by omega)) (bY b1 (by omega)) .nil
 have HR:=tT (oW (some ⟨w.heap.size,0,none⟩) hA (some ⟨w2.heap.size+2,0,none⟩) W2 W2.heap.size (Nat.le_refl _) (((HN1.out.gr (Nat.le_refl _) hg2).gr hg2.size hg3).more (by have:=hg2.size;have:=hg3.size;omega)) ((hhs.keep λb o hb=>hg3.cell (p:=⟨b,o,none⟩) hb).more hg3.size) hgrid)
 have HB2:=tT ((HB1.out.gr (by omega) hg2).gr (by have:=hg2.size;omega) hg3)
 have HW2:=tT hW2
 have hzz2:=hg2.size
 clear hhs hg2 hW2 b0 b1 b2 hgrid HC1 hz2
 have ec:campV (some ⟨w.heap.size,0,none⟩) hA (wakeC [3,2,4]) 3 3=.agg #[.slice (some ⟨w.heap.size,0,none⟩) 3 3,.slice hA 3 3]:=rfl
 rw[ec]
 clear ec
 have hz3:=hg3.size
 clear hg3
 go_wp2_with fail
 rw[<-HW2.out]
 refine HR.out.mono ?_
 rintro e w3 ⟨hg3,A5,k5,rfl,hgr5⟩
 have HB3:=tT (HB2.out.gr (by omega) hg3)
 have HG5:=tT hgr5
 have hz4:=hg3.size
 clear hg3 hgr5 HR HN1
 obtain⟨V6,hV6⟩:∃V:World,V=w3.alloc (.cells #[.int .i64 3,.int .i64 2,.int .i64 5] 3):=⟨_,rfl⟩
 have hg6:Gr w3 V6:=hV6▸(Gr.refl w3).alloc _
 have HN6:RowKit.Hid (RI V6 V6.heap.size (some ⟨w3.heap.size,0,none⟩) [3,2,5]):=tT (bY (t:=3) (f:=(0,0)) (by rw[hV6];exact heap_alloc_new w3 _) (by rw[hV6];simp))
 have HC6:=tT (kk (some ⟨w3.heap.size,0,none⟩) 3 [3,2,5] V6)
 have HGR6:=tT hg6
 have HV6:=tT hV6
 have hzV6:=hg6.size
 clear hg6 hV6
 go_wp2_with fail
 rw[<-HV6.out]
 refine HC6.out.mono ?_
 rintro e x6 ⟨hA6,rfl,hhs6,hgx6⟩
 have HX6:=tT (HGR6.out.trans hgx6)
 have HNX6:=tT ((HN6.out.gr (Nat.le_refl _) hgx6).more hgx6.size)
 have HHS6:=tT hhs6
 have hzx6:=hgx6.size
 clear hhs6 hgx6
 have ec:campV (some ⟨w3.heap.size,0,none⟩) hA6 (wakeC [3,2,5]) 3 3=.agg #[.slice (some ⟨w3.heap.size,0,none⟩) 3 3,.slice hA6 3 3]:=rfl
 have HCL:=tT (qp (some ⟨w3.heap.size,0,none⟩) hA6 x6 x6.heap.size (Nat.le_refl _) HNX6.out HHS6.out)
 rw[ec]
 clear ec
 go_wp2_with fail
 refine HCL.out.mono ?_
 rintro e w5 ⟨hg5,A8,k8,rfl,hri8⟩
 have HB5:=tT (HB3.out.gr (by omega) (HX6.out.trans hg5))
 have HG55:=tT (HG5.out.gr (Nat.le_refl _) (HX6.out.trans hg5))
 have HI8:=tT hri8
 have hz5:=(HX6.out.trans hg5).size
 clear hg5 hri8 HCL HN6 HC6 HHS6 HNX6
 obtain⟨V7,hV7⟩:∃V:World,V=w5.alloc (.cells #[.int .i64 3,.int .i64 2,.int .i64 4] 3):=⟨_,rfl⟩
 have hg7:Gr w5 V7:=hV7▸(Gr.refl w5).alloc _
 have HN7:RowKit.Hid (RI V7 V7.heap.size (some ⟨w5.heap.size,0,none⟩) [3,2,4]):=tT (bY (t:=3) (f:=(0,0)) (by rw[hV7];exact heap_alloc_new w5 _) (by rw[hV7];simp))
 have HC7:=tT (kk (some ⟨w5.heap.size,0,none⟩) 3 [3,2,4] V7)
 have HGR7:=tT hg7
 have HV7:=tT hV7
 have hzV7:=hg7.size
 clear hg7 hV7
 go_wp2_with fail
 rw[<-HV7.out]
 refine HC7.out.mono ?_
 rintro e x7 ⟨hA7,rfl,hhs7,hgx7⟩
 have HX7:=tT (HGR7.out.trans hgx7)
 have HNX7:=tT ((HN7.out.gr (Nat.le_refl _) hgx7).more hgx7.size)
 have HHS7:=tT hhs7
 have hzx7:=hgx7.size
 clear hhs7 hgx7
 have ec:campV (some ⟨w5.heap.size,0,none⟩) hA7 (wakeC [3,2,4]) 3 3=.agg #[.slice (some ⟨w5.heap.size,0,none⟩) 3 3,.slice hA7 3 3]:=rfl
 rw[ec]
 clear ec
 have HGU:=tT (iY x7)
 go_wp2_with fail
 refine HGU.out.mono ?_
 rintro e x8 ⟨gA,rfl,hgu,hg8⟩
 obtain⟨V8,hV8⟩:∃V:World,V=x8.alloc (.cells #[.int .i64 2,.int .i64 6] 69):=⟨_,rfl⟩
 have hgv8:Gr x8 V8:=hV8▸(Gr.refl x8).alloc _
 have hrs8:RsAt V8 V8.heap.size (some ⟨x8.heap.size,0,none⟩) [(2,6)]:=tQ (t:=69) (f:=(0,0)) (by rw[hV8];exact heap_alloc_new _ _) (by rw[hV8];simp)
 have HBAL:=tT (s5 (some ⟨w5.heap.size,0,none⟩) hA7 gA (some ⟨x8.heap.size,0,none⟩) V8 V8.heap.size (Nat.le_refl _) ((HNX7.out.gr (Nat.le_refl _) (hg8.trans hgv8)).more (hg8.trans hgv8).size)
  ((HHS7.out.keep λb o hb=>(hg8.trans hgv8).cell (p:=⟨b,o,none⟩) hb).more (hg8.trans hgv8).size) ((hgu.gr (Nat.le_refl _) hgv8).more hgv8.size) hrs8)
 have HX8:=tT (HX7.out.trans (hg8.trans hgv8))
 have HV8:=tT hV8
 have egl:(guardG.length:Nat)=3:=rfl
 clear hgu hg8 hV8 hgv8 hrs8 HGU
 rw[egl]
 go_wp2_with fail
 rw[<-HV8.out]
 refine HBAL.out.mono ?_
 rintro e w9 ⟨hg9,A10,k10,rfl,hri10⟩
 have hzz9:=(HX8.out.trans hg9).size
 have HB9:=tT (HB5.out.gr (by omega) (HX8.out.trans hg9))
 have HG59:=tT (HG55.out.gr (by omega) (HX8.out.trans hg9))
 have HI89:=tT (HI8.out.gr (Nat.le_refl _) (HX8.out.trans hg9))
 have HI10:=tT hri10
 clear hg9 hri10 HBAL HN7 HC7 HHS7 HNX7
 have HGU11:=tT (iY w9)
 go_wp2_with fail
 refine HGU11.out.mono ?_
 rintro e g11 ⟨gA11,rfl,hgu,hg⟩
 have HS11:=tT (gz A gA11 c 3 guardG guardG g11 g11.heap.size (Nat.le_refl _) ((HB9.out.gr (by omega) hg).more (by have:=hg.size;omega)) hgu (by decide) (by decide) (by decide) (by decide))
 rw[decide_eq_true (rfl:guardG=guardG)] at HS11
 have HQ11:=tT hg
 have hzq11:=hg.size
 clear hgu hg HGU11
 have egl:(guardG.length:Nat)=3:=rfl
 rw[egl]
 rw[egl] at HS11
 clear egl
 go_wp2_with fail
 refine HS11.out.mono ?_
 rintro e s11 ⟨rfl,hg⟩
 have HT11:=tT (HQ11.out.trans hg)
 have hzs11:=(HQ11.out.trans hg).size
 clear hg HS11
 have HGM:=tT (HG59.out.gr (by omega) HT11.out)
 have HIM:=tT (HI89.out.gr (by omega) HT11.out)
 have HIN:=tT (HI10.out.gr (by omega) HT11.out)
 have HGU12:=tT (iY s11)
 go_wp2_with fail
 refine HGU12.out.mono ?_
 rintro e g12 ⟨gA12,rfl,hgu,hg⟩
 have HS12:=tT (gz A5 gA12 k5 3 guardG guardG g12 g12.heap.size (Nat.le_refl _) ((HGM.out.gr (by omega) hg).more (by have:=hg.size;omega)) hgu (by decide) (by decide) (by decide) (by decide))
 rw[decide_eq_true (rfl:guardG=guardG)] at HS12
 have HQ12:=tT hg
 have hzq12:=hg.size
 clear hgu hg HGU12
 have egl:(guardG.length:Nat)=3:=rfl
 rw[egl]
 rw[egl] at HS12
 clear egl
 go_wp2_with fail
 refine HS12.out.mono ?_
 rintro e s12 ⟨rfl,hg⟩
 have HT12:=tT (HQ12.out.trans hg)
 have hzs12:=(HQ12.out.trans hg).size
 clear hg HS12
 obtain⟨V13,hV13⟩:∃V:World,V=s12.alloc (.cells #[.int .i64 1,.int .i64 2] 3):=⟨_,rfl⟩
 have hgv:Gr s12 V13:=hV13▸(Gr.refl s12).alloc _
 have HS13:=tT (dx A8 (some ⟨s12.heap.size,0,none⟩) k8 2 [1,2] [1,2] V13 V13.heap.size (Nat.le_refl _) (((HIM.out.gr (by omega) HT12.out).gr (by omega) hgv).more (by have:=hgv.size;omega)) (bY (t:=3) (f:=(0,0)) (by rw[hV13];exact heap_alloc_new _ _) (by rw[hV13];simp)) (by decide) (by decide))
 rw[decide_eq_true (rfl:([1,2]:List Int)=[1,2])] at HS13
 have HV13:=tT hV13
 have HQ13:=tT hgv
 have hzq13:=hgv.size
 clear hgv hV13
 go_wp2_with fail
 rw[<-HV13.out]
 refine HS13.out.mono ?_
 rintro e s13 ⟨rfl,hg⟩
 have HT13:=tT (HQ13.out.trans hg)
 have hzs13:=(HQ13.out.trans hg).size
 clear hg HS13
 obtain⟨V14,hV14⟩:∃V:World,V=s13.alloc (.cells #[.int .i64 8,.int .i64 0,.int .i64 (-8)] 3):=⟨_,rfl⟩
 have hgv:Gr s13 V14:=hV14▸(Gr.refl s13).alloc _
 have HS14:=tT (dx A10 (some ⟨s13.heap.size,0,none⟩) k10 3 [8,0,-8] [8,0,-8] V14 V14.heap.size (Nat.le_refl _) ((((HIN.out.gr (by omega) HT12.out).gr (by omega) HT13.out).gr (by omega) hgv).more (by have:=hgv.size;omega)) (bY (t:=3) (f:=(0,0)) (by rw[hV14];exact heap_alloc_new _ _) (by rw[hV14];simp)) (by decide) (by decide))
 rw[decide_eq_true (rfl:([8,0,-8]:List Int)=[8,0,-8])] at HS14
 have HV14:=tT hV14
 have HQ14:=tT hgv
 have hzq14:=hgv.size
 clear hgv hV14
 go_wp2_with fail
 rw[<-HV14.out]
 refine HS14.out.mono ?_
 rintro e s14 ⟨rfl,hg⟩
 have HT14:=tT (HQ14.out.trans hg)
 have hzs14:=(HQ14.out.trans hg).size
 clear hg HS14
 go_wp2
end Go.Proofs.YtefcpflbnmldcaaGreat
namespace Go.Iso
def bH (P:Program)(l C:Code)(N:Act->World->Prop)(a:Act)(w:World):Prop :=
 ∀(b:Frame) (k:List Item) (cs:List Frame),∃a' w',N a' w'/\Steps P (lone (b.at a (.code C::k)) cs w) (lone (b.at a' (.code l::k)) cs w')
def cZ {P:Program}{l:Code}{N:Act->World->Prop}{a:Act}{w:World}(h:N a w):bH P l l N a w:=λ_ _ _=>⟨a,w,h,.refl _ _⟩
def dz {P:Program}{l c r:Code}{N:Act->World->Prop}{a:Act}{w:World}(h:c.wp P (Exit.then (bH P l r N) λ_ _ _=>False) a w):bH P l (.seq c r) N a w:=λb k cs=>by
 obtain⟨e,a1,w1,hq,harr⟩:=h b (.code r::k) cs
 cases e with
 |normal =>
  obtain⟨a2,w2,hn,hs⟩:=hq b k cs
  exact⟨a2,w2,hn,.head step_seq (Steps.trans harr hs)⟩
 |_=>exact hq.elim
section
variable {P:Program} {SB:FuncId->Bool} {H:Hid} {G:Nat}
def AtCode (b:Frame)(l:Code)(k:List Item)(cs:List Frame)(N:Act->World->Prop)(g:Goroutine)(w:World):Prop :=
 ∃a' w0,Same w0 w/\N a' w0/\g=gor (b.at a' (.code l::k)) cs
def AtCode.same {b:Frame}{l:Code}{k:List Item}{cs:List Frame}{N:Act->World->Prop}(g:Goroutine)(w W:World)(h:Same w W)(q:AtCode b l k cs N g w):AtCode b l k cs N g W:=by
 obtain⟨a',w0,h1,h2⟩:=q
 exact⟨a',w0,h1.trans h,h2⟩
def runs_of_goesTo (L:Lib (Two.of P) SB H false SB G){b:Frame}{a:Act}{l C:Code}{k:List Item}{cs:List Frame}{w:World}{N:Act->World->Prop}(hne:cs≠[])(hs:Self P SB H G (gor (b.at a (.code C::k)) cs) w)
  (h:∀τ d,bH P l C N a (on w τ d)):Runs P (Self P SB H G) (AtCode b l k cs N) (gor (b.at a (.code C::k)) cs) w:=by
 refine dN L AtCode.same ⟨hs,λτ d=>?_⟩
 obtain⟨a',w',hn,n,hr⟩:=h τ d b k cs
 exact cr L (hs.same tU) hr hne ⟨a',w',⟨rfl,rfl,rfl⟩,hn,rfl⟩
end
section
variable {P:Two} {SB0 BC BB:FuncId->Bool} {H:Hid} {G:Nat} {Q:Goroutine->World->Prop}
def BothK.segTo (B:BothK P SB0 BC BB H G){b:Frame}{a:Act}{l c:Code}{k:List Item}{C:Frame}{cs:List Frame}{K0:Nat->Prop}{w:World}
  (hfr:FrRel P.a SB0 H false (idOn K0) (b.at a (.code c::k)) (b.at a (.code c::k)))
  (hlo:∀b,K0 b->G<=b) (hroom:G<=w.heap.size) (hhid:∀b,K0 b->H b=true->H.twin=true/\w.heap[b]?=some (.coro none)) (hold:∀b,H b=true->b<w.heap.size) (hobj:∀b,K0 b->H b=false->∃o,w.heap[b]?=some o/\ORel (SP SB0 H) (CK P.a SB0 false) (idOn K0) o o)
  (hk:∀s,l≠.refuse s) (hkl:∀f x y fn r o1 o2 s,Patch P.a f x y fn r o1 o2 s->∀c,fn.body=some c->l≠c) (hbl:BC b.fn=true\/∃fn s,P.a.funcs[b.fn]?=some fn/\fn.body=some (.refuse s)) (hQ:∀g w W,Same w W->Q g w->Q g W) {N:Act->World->Prop}
  (hc:∀τ d,bH P.a l c N a (on w τ d))
  (h1:∀a' w',N a' w'->KTr P.b BB Q 0 (gor (b.at a' (.code l::k)) (C::cs)) w') :
  KTr P.b BB Q 0 (gor (b.at a (.code c::k)) (C::cs)) w:=by
 have h0:=B.run (Qa:=AtCode b l k [bad] N) AtCode.same (λg w f' hl hf' hlk e=>by
  obtain⟨a',w0,_,_,rfl⟩:=hl
  have e3:b.fn=f':=e
  rcases hbl with h|⟨fn,s,r1,r2⟩
  ·rw[e3,hf'] at h;cases h
  ·obtain⟨x,y,fn2,r,o1,o2,s2,fn3,hp,_⟩:=hlk
   have:=hp.func
   rw[<-e3,r1] at this
   cases this
   have:=hp.text
   rw[r2] at this
   cases this) (C:=C) (cs:=cs) (.on hfr) (.on hfr) hlo hroom hhid hold hobj λhs=>runs_of_goesTo (N:=N) (l:=l) B.la (by simp) hs hc
 refine h0.bind λg2 w' hq=>?_
 obtain⟨g',w0,β',q1,q2,q3,q4,q5⟩:=hq
 have hon:FrRel P.a SB0 H false β' g'.frame g2.frame:=by
  have htop:=q4.top
  obtain⟨a',wl,l1,l2,l3⟩:=q1
  generalize hf:g'.frame=fr at htop ⊢
  generalize g2.frame=FR at htop ⊢
  cases htop with
  |on h=>exact h
  |@stop f A A' kd s1 s2 s3 s4 =>
   exfalso
   rcases B.ref f s1 s2 with⟨fn,s,r1,r2⟩|⟨x,y,fn,r,o1,o2,s,fn3,hp,_⟩
   ·subst l3
    have:=congrArg Frame.todo hf
    simp only[Go.Iso.gor,Frame.enter,r1,Frame.at] at this
    exact hk s (by simpa [r2] using(List.cons.inj this).1)
   ·subst l3
    have:=congrArg Frame.todo hf
    simp only[Go.Iso.gor,Frame.enter,hp.func,Frame.at] at this
    exact hkl f x y fn r o1 o2 s hp _ hp.text (by simpa [hp.text] using(List.cons.inj this).1)
 have eF:g'.frame=g2.frame:=FrRel.id (P:=Two.of P.a) q3 hon
 have e2:g2=gor g2.frame g2.callers:=by
  obtain⟨x1,x2,x3,x4,x5⟩:=g2
  obtain⟨_,_,⟨_,s1⟩,⟨_,d1⟩,⟨_,o1⟩⟩:=q4
  dsimp only at *
  subst s1 d1 o1
  rfl
 obtain⟨a',wl,l1,l2,l3⟩:=q1
 have ecs:g2.callers=C::cs:=by
  have:=q4.callers
  rw[show g'.callers=[bad] by rw[l3];rfl] at this
  generalize g2.callers=X at this
  cases this with
  |base=>rfl
  |cons _ h=>exact absurd rfl h.ne
 rw[e2,ecs,<-eF,l3]
 exact(h1 a' wl l2).same hQ (l1.trans q2)
end
end Go.Iso
namespace Go.Proofs.YtefcpflbnmldcaaGreat
open Go.RowKit Go.Iso Go.Co Go.Conc Go.ConcN Go.Sq
section
variable {Q:Goroutine->World->Prop} {b:Frame} {a:Act} {todo:List Item} {cs:List Frame} {w:World} {BB:FuncId->Bool}
def oX (hQ:∀g w W,Same w W->Q g w->Q g W)(hf:BB b.fn=true)(hg:∀o,({ b.at a todo with mode:=.returning }:Frame).oper?=some o->aI Tryz.prog o.op=true)(h:∀τ d,(stepG Tryz.prog true (Go.Conc.G { b.at a todo with mode:=.returning } cs) (on w τ d)).goes (λg' w' _=>g'.callers≠[]/\∃W,Same W w'/\KTr Tryz.prog BB Q 0 g' W)) :
  KTr Tryz.prog BB Q 0 (Go.Conc.G { b.at a todo with mode:=.returning } cs) w:=by
 refine KTr.step ⟨hf,hg⟩ λτ d=>?_
 have:=h τ d
 cases hs:stepG Tryz.prog true (Go.Conc.G { b.at a todo with mode:=.returning } cs) (on w τ d) with
 |go g' w' es =>
  rw[hs] at this
  obtain⟨h1,W,h2,h3⟩:=this
  exact⟨g',w',es,rfl,h1,h3.same hQ h2⟩
 |_=>rw[hs] at this;exact this.elim
end
def s6:codeOk uG SBy false true zw3=true:=by kernel_rfl
def r8 {QT:Goroutine->World->Prop}{C:Frame}{cs:List Frame}(hQT:∀g w W,Same w W->QT g w->QT g W)
  (h:∀(a':Act) (todo:List Item) (w':World),a'.tmps.getD 0 undef=.bool true->a'.defers=[]->(∀o,({ (base 20).at a' todo with mode:=.returning }:Frame).oper?=some o->aI Tryz.prog o.op=true)->KTr Tryz.prog BBm QT 0 (Go.Conc.G { (base 20).at a' todo with mode:=.returning } (C::cs)) w'):kz QT (C::cs):=by
 intro K A c B xs w' U ρ hone ho hU u1 u2 u3 u4 hUK hobj
 obtain⟨y0,y1,y2,y3,y4,y5,y6,y7,y8,y9,y10,y11,y12,y13,y14,y15,y16,y17,y18,y19,y20,y21,y22,y23,y24,y25,y26,y27,y28,y29,y30,y31,y32,y33,y34,y35,y36,y37,y38,y39,y40,y41,y42,y43,y44,y45,y46,y47,y48,y49,y50,y51,y52,y53,y54,y55,y56,y57,y58,y59,y60,y61,y62,y63,y64,y65,y66,y67,y68,y69,y70,y71,y72,y73,y74,y75,y76,y77,y78,y79,y80,y81,y82,y83,y84,y85,y86,y87,y88,y89,y90,y91,y92,y93,y94,rfl⟩:=tG hU
 have u1:y1=.int .i64 1:=u1
 have u2:y2=.int .i64 0:=u2
 have u3:y3=.slice A 3 c:=u3
 have u4:y4=.int .i64 0:=u4
 subst u1 u2 u3 u4
 have hbest:GrAt w' w'.heap.size A guardG:=by
  obtain⟨A',c',hv,hg⟩:=ho.grAt
  have hA:A=A':=by injection hv
  subst hA
  have hl:=qo
  rw[hone] at hl
  have:aN ρ 3=guardG:=by simpa using hl
  rw[<-this];exact hg
 have hfr:FrRel uG SBy tV false (idOn K) ((base 20).at ⟨#[y0,.int .i64 1,.int .i64 0,.slice A 3 c,.int .i64 0,y5,y6,y7,y8,y9,y10,y11,y12,y13,y14,y15,y16,y17,y18,y19,y20,y21,y22,y23,y24,y25,y26,y27,y28,y29,y30,y31,y32,y33,y34,y35,y36,y37,y38,y39,y40,y41,y42,y43,y44,y45,y46,y47,y48,y49,y50,y51,y52,y53,y54,y55,y56,y57,y58,y59,y60,y61,y62,y63,y64,y65,y66,y67,y68,y69,y70,y71,y72,y73,y74,y75,y76,y77,y78,y79,y80,y81,y82,y83,y84,y85,y86,y87,y88,y89,y90,y91,y92,y93,y94],[]⟩ [.code zw3]) ((base 20).at ⟨#[y0,.int .i64 1,.int .i64 0,.slice A 3 c,.int .i64 0,y5,y6,y7,y8,y9,y10,y11,y12,y13,y14,y15,y16,y17,y18,y19,y20,y21,y22,y23,y24,y25,y26,y27,y28,y29,y30,y31,y32,y33,y34,y35,y36,y37,y38,y39,y40,y41,y42,y43,y44,y45,y46,y47,y48,y49,y50,y51,y52,y53,y54,y55,y56,y57,y58,y59,y60,y61,y62,y63,y64,y65,y66,y67,y68,y69,y70,y71,y72,y73,y74,y75,y76,y77,y78,y79,y80,y81,y82,y83,y84,y85,y86,y87,y88,y89,y90,y91,y92,y93,y94],[]⟩ [.code zw3]):=by
  refine⟨rfl,?_,.cons (.code s6) .nil,.nil,.run,rfl,⟨(by show CallKind.normal≠.early;decide),(by show SBy 20=true;decide)⟩,.none⟩
  exact allIn (l:=[y0,.int .i64 1,.int .i64 0,.slice A 3 c,.int .i64 0,y5,y6,y7,y8,y9,y10,y11,y12,y13,y14,y15,y16,y17,y18,y19,y20,y21,y22,y23,y24,y25,y26,y27,y28,y29,y30,y31,y32,y33,y34,y35,y36,y37,y38,y39,y40,y41,y42,y43,y44,y45,y46,y47,y48,y49,y50,y51,y52,y53,y54,y55,y56,y57,y58,y59,y60,y61,y62,y63,y64,y65,y66,y67,y68,y69,y70,y71,y72,y73,y74,y75,y76,y77,y78,y79,y80,y81,y82,y83,y84,y85,y86,y87,y88,y89,y90,y91,y92,y93,y94]) hUK
 have hs:=(de (H:=tV) ey).seg (b:=base 20) (a:=⟨#[y0,.int .i64 1,.int .i64 0,.slice A 3 c,.int .i64 0,y5,y6,y7,y8,y9,y10,y11,y12,y13,y14,y15,y16,y17,y18,y19,y20,y21,y22,y23,y24,y25,y26,y27,y28,y29,y30,y31,y32,y33,y34,y35,y36,y37,y38,y39,y40,y41,y42,y43,y44,y45,y46,y47,y48,y49,y50,y51,y52,y53,y54,y55,y56,y57,y58,y59,y60,y61,y62,y63,y64,y65,y66,y67,y68,y69,y70,y71,y72,y73,y74,y75,y76,y77,y78,y79,y80,y81,y82,y83,y84,y85,y86,y87,y88,y89,y90,y91,y92,y93,y94],[]⟩) (c:=zw3) (k:=[]) (C:=C) (cs:=cs) (Q:=QT) (w:=w') (K0:=K) hfr (λ_ _=>Nat.zero_le _) (Nat.zero_le _) (λb _ hb=>by cases hb) (λb hb=>by cases hb) (λb hb _=>hobj b hb)
  (λs h=>by cases h) (λ_ _ _ _ _ _ _ _ _ _ _ h=>by cases h) (.inr ⟨_,_,ux,rfl⟩) hQT
  (N:=λe a' _=>e=.ret/\a'.tmps.getD 0 undef=.bool true/\a'.defers=[]) (λτ d=>r7 A c y0 y5 y6 y7 y8 y9 y10 y11 y12 y13 y14 y15 y16 y17 y18 y19 y20 y21 y22 y23 y24 y25 y26 y27 y28 y29 y30 y31 y32 y33 y34 y35 y36 y37 y38 y39 y40 y41 y42 y43 y44 y45 y46 y47 y48 y49 y50 y51 y52 y53 y54 y55 y56 y57 y58 y59 y60 y61 y62 y63 y64 y65 y66 y67 y68 y69 y70 y71 y72 y73 y74 y75 y76 y77 y78 y79 y80 y81 y82 y83 y84 y85 y86 y87 y88 y89 y90 y91 y92 y93 y94 (on w' τ d) hbest)
  (λa' w' h=>by cases h.1) (λa' w' todo hn hpl=>h a' todo w' hn.2.1 hn.2.2 hpl)
 exact hs
structure LawEnd (f:FuncId)(l:Code) where
 fn:Func
 r:Nat
 o1:Oper
 o2:Oper
 d:Nat
 t:Nat
 n:Nat
 hf:Tryz.prog.funcs[f]?=some fn
 hl:l=.seq (.region r #[o1,o2] false) .ret
 h1:o1.guard=none/\o1.dst=some d/\∃ts,o1.op=.call { callee:=.value (.func 20),args:=#[],argTypes:=ts }
 h2:o2.guard=none/\o2.dst=some t/\o2.op=.assign (.tmp d)
 hres:fn.results=#[.tmp t]
 hd:d<n
 ht:t<n
 plain:aI Tryz.prog o1.op=true/\aI Tryz.prog o2.op=true
 looked:BBm f=true
 hn:fn.ntmps=n
section
variable {f:FuncId} {l:Code}
def LawEnd.fr (E:LawEnd f l)(a:Act):Frame:=(base f).at a [.inRegion #[E.o1,E.o2] [0,1],.code .ret]
def LawEnd.go (E:LawEnd f l){a:Act}{cs:List Frame}(hcs:cs≠[]){w:World}:KTr Tryz.prog BBm (QW1 (E.fr a::cs)) 0 (Go.Conc.G ((base f).at a [.code l]) cs) w:=by
 have hQ:∀g w W,Same w W->QW1 (E.fr a::cs) g w->QW1 (E.fr a::cs) g W:=QW1.same
 have hB:BBm (base f).fn=true:=E.looked
 obtain⟨g1,g2,ts,g3⟩:=E.h1
 rw[show([Item.code l]:List Item)=[.code (.seq (.region E.r #[E.o1,E.o2] false) .ret)] from congrArg (λc=>[Item.code c]) E.hl]
 refine aa hQ hB rfl λτ d=>?_
 rw[stepG_seq]
 simp only[goes_go]
 refine⟨hcs,w,tU,?_⟩
 refine aa hQ hB rfl λτ d=>?_
 rw[stepG_region]
 simp only[goes_go,List.size_toArray,List.length_cons,List.length_nil,Nat.reduceAdd,Nat.zero_add,List.range,List.range.loop]
 refine⟨hcs,w,tU,?_⟩
 refine aa hQ hB E.plain.1 λτ d=>?_
 refine ax (o:=E.o1) rfl (bB g1) (by show CallKind.normal≠.early;decide) g3 Tryz.func20 (by kernel_rfl) (by kernel_rfl) ⟨hcsM _ _,w,tU,?_⟩
 have em:(#[]:Array Operand).map a.eval=#[]:=by simp
 rw[em]
 exact rO (cs:=E.fr a::cs) (hcsM _ _) w
def LawEnd.back (E:LawEnd f l){a:Act}(ha:a.tmps.size=E.n)(hd:a.defers=[]):kz (Iso.Left Tryz.prog f λv _=>v=.bool true) (E.fr a::[bad]):=by
 have hQ:∀g w W,Same w W->Iso.Left Tryz.prog f (λv _=>v=.bool true) g w->Iso.Left Tryz.prog f (λv _=>v=.bool true) g W:=Iso.Left.same
 have hB:BBm (base f).fn=true:=E.looked
 obtain⟨g1,g2,g3⟩:=E.h1
 obtain⟨k1,k2,k3⟩:=E.h2
 refine r8 hQ λa' todo w' hv hds hpl=>?_
 refine oX hQ (by show BBm 20=true;decide) hpl λτ dd=>?_
 refine goes_leave1 (b:=base 20) (b₀:=base f) (a₀:=a) (ops:=#[E.o1,E.o2]) (i:=0) (rest:=[1]) (k:=[.code .ret]) rfl hds Tryz.func20 rfl ⟨hcsM _ _,w',tU,?_⟩
 rw[hv]
 have e1:((#[E.o1,E.o2]:Array Oper)[0]?.bind (·.dst))=some E.d:=g2
 rw[e1]
 obtain⟨a1,ha1⟩:∃a1,a1=a.put (some E.d) (.bool true):=⟨_,rfl⟩
 rw[<-ha1]
 have hs1:a1.tmps.size=E.n:=by rw[ha1,<-ha];exact Array.size_setIfInBounds
 have hd1:a1.defers=[]:=by rw[ha1];exact hd
 have hev:a1.eval (.tmp E.d)=.bool true:=by
  rw[ha1]
  show(a.tmps.setIfInBounds E.d _).getD E.d undef=_
  have:E.d<a.tmps.size:=by rw[ha];exact E.hd
  simp[Array.getD,this]
 refine aa hQ hB E.plain.2 λτ dd=>?_
 have hst:stepG Tryz.prog true (Go.Conc.G ((base f).at a1 (.inRegion #[E.o1,E.o2] (1::[])::[.code .ret])) [bad]) (on w' τ dd)=.go (Go.Conc.G ((base f).at (a1.put E.o2.dst (.bool true)) (.inRegion #[E.o1,E.o2] []::[.code .ret])) [bad]) (on w' τ dd) (listed Tryz.prog (base f).fn a1 E.o2 (on w' τ dd)) :=
  stepG_value (o:=E.o2) rfl (bB k1) (by show CallKind.normal≠.early;decide) (by unfold execOp;rw[k3];show Sem.run _ (pure (Next.value (a1.eval (.tmp E.d)))) _=_;rw[hev];rfl)
 rw[hst]
 simp only[goes_go]
 refine⟨hcsM _ _,w',tU,?_⟩
 rw[k2]
 obtain⟨a2,ha2⟩:∃a2,a2=a1.put (some E.t) (.bool true):=⟨_,rfl⟩
 rw[<-ha2]
 have hd2:a2.defers=[]:=by rw[ha2];exact hd1
 have hev2:a2.tmps.getD E.t undef=.bool true:=by
  rw[ha2]
  show(a1.tmps.setIfInBounds E.t _).getD E.t undef=_
  have:E.t<a1.tmps.size:=by rw[hs1];exact E.ht
  simp[Array.getD,this]
 refine aa hQ hB rfl λτ dd=>?_
 rw[stepG_region_end]
 simp only[goes_go]
 refine⟨hcsM _ _,w',tU,?_⟩
 refine aa hQ hB rfl λτ dd=>?_
 rw[stepG_ret']
 simp only[goes_go]
 refine⟨hcsM _ _,w',tU,.fin ?_⟩
 refine⟨w',.bool true,_,⟨rfl,rfl,rfl⟩,rfl,rfl,rfl,rfl,hd2,rfl,E.fn,E.hf,?_⟩
 have:=results_tmp E.hres a2.tmps Tryz.prog w'
 rw[hev2] at this
 exact this
end
open Go.RowKit Go.Iso Go.Co Go.Conc Go.ConcN Go.Sq
def ei {P:Program}{N K:Nat}{m m1 m2:Machine}{t t1 t2:Trace}(h:runNT P N m t=(.next m1,t1))(k:runNT P K m1 t1=(.next m2,t2)):runNT P (N+K) m t=(.next m2,t2):=by
 rw[cg h];exact k
def end_step {f:FuncId}{fn:Func}{t:Nat}(hf:Tryz.prog.funcs[f]?=some fn)(hres:fn.results=#[.tmp t])(hb:BBm f=true){H:Hid}{β:Bij}{g A:Goroutine}{w:World}(hg:GRel PP SBm H true BBm [] β g A)(hl:Iso.Left Tryz.prog f (λv _=>v=.bool true) g w)(W:World) :
  A.status=.running/\stepG Tryz.prog true A W=.ended (.done (.bool true)) W #[]:=by
 obtain⟨w0,v,fr,hs,rfl,rfl,hfr,hm,hd,hk,fn',hfn,hr⟩:=hl
 have hon:=hg.top.on_of (show BBm fr.fn=true by rw[hfr];exact hb)
 have e0:=hg.status.2
 have e1:=hg.dying.2
 have e2:=hg.offers.2
 have hcs:=hg.callers
 obtain⟨FR,CS2,st,dy,off⟩:=A
 dsimp only at e0 e1 e2 hcs hon
 subst e0 e1 e2
 have ecs:CS2=[]:=by
  cases hcs with
  |base=>rfl
  |cons _ h=>exact absurd rfl h.ne
 subst ecs
 refine⟨rfl,?_⟩
 obtain⟨fn1,tmps,todo,defers,mode,kind,round⟩:=fr
 obtain⟨fn2,tmps2,todo2,defers2,mode2,kind2,round2⟩:=FR
 obtain⟨a1,a2,a3,a4,a5,a6,a7,a8⟩:=hon
 dsimp only[gor] at a1 a2 a3 a4 a5 a6 a7 a8 hm hd hk hfn hr hfr
 subst a1 a6 hm hd hk hfr
 have d2:defers2=[]:=by cases a4;rfl
 have m2:mode2=.returning:=by cases a5;rfl
 subst d2 m2
 rw[hf] at hfn
 cases hfn
 have hv:tmps.getD t undef=.bool true:=by
  have:=results_tmp hres tmps Tryz.prog w0
  rw[hr] at this
  injection this with h1 _
  exact h1.symm
 have hV:=a2.getD t (VRel.undef (SP SBm H) β)
 rw[hv] at hV
 have hV2:tmps2.getD t undef=.bool true:=by
  generalize tmps2.getD t undef=V at hV
  cases hV;rfl
 have hr2:=results_tmp hres tmps2 Tryz.prog W
 rw[hV2] at hr2
 have he2:=events_results_tmp (P:=Tryz.prog) (w:=W) hres tmps2 #[]
 have hne:¬2=fn1:=λe=>by subst e;revert hb;decide
 simp[stepG,unwind,doReturn,hf,hr2,he2,seen,GStep.after,hne]
section
variable {f:FuncId} {l:Code}
def AtWoken (E:LawEnd f l)(g:Goroutine)(w:World):Prop:=∃a:Act,a.tmps.size=E.n/\a.defers=[]/\QW1 (E.fr a::[bad]) g w
def r9 (E:LawEnd f l){A:Goroutine}{W:World}{x:Lone}(ht:Tw PP SBm BBm true 0 (λ_=>False) ⟨λB=>B<W.heap.size,W,0⟩ x A W)(hx:KTr Tryz.prog BBm (AtWoken E) 0 x.g x.w)(hT:x.T=[])(hH:∀b,x.H b=false) :
  ∃N last o w' t',runNT Tryz.prog (N+1) (crowd #[A] W none) #[]=(.ended o w',t')/\runN Tryz.prog N (crowd #[A] W none)=.next last/\step Tryz.prog last=.ended o w' /\
   Go.Conc.Good Tryz.prog (λv w'=>v=.bool true/\(w'.os=W.os/\w'.output=W.output)/\W.heap.size<=w'.heap.size/\∀B,B<W.heap.size->w'.heap[B]?=W.heap[B]?) last o w' t':=by
 have hb:Btw Tryz.prog (λ_=>False) #[A] W #[] (λ_=>0):=by
  refine⟨⟨λi g hi hg=>?_,λj _=>rfl⟩,⟨past_nil.clean,λi a ha=>?_,past_nil.over,past_nil.hears,λop hop=>by simp at hop⟩,λi op x h=>by simp at h,λi op h=>by simp at h,λB h=>h.elim⟩
  ·have:=(Array.getElem?_eq_some_iff.1 hg).1
   simp at this;omega
  ·simp[touchAt,Trace.act?] at ha
 obtain⟨N1,m1,t1,r1,gs1,W1,sl1,q1,x1,A1,rfl,a1,a2,a3,a4,a5,a6,a7,a8,a9,a10⟩:=ktree_beside (P:=PP) (SB:=SBm) (BB:=BBm) (lets:=true) (Gn:=0) (Dead:=λ_=>False) (Kp:=⟨λB=>B<W.heap.size,W,0⟩) lib_m hmf_m (H:=x.H) (T:=x.T) (β:=x.β) (Q:=AtWoken E) (λg w h=>by obtain⟨a,_,_,h⟩:=h;exact .inl (QW1.fn g w h)) (os:=W.os) (ou:=W) (n:=1) (b0:=x.w.heap.size) (B0:=W.heap.size) _ (crowd #[A] W none) #[]
  ⟨#[A],W,none,λ_=>0,x,A,0,rfl,rfl,rfl,.of hb,ht,hx,rfl,rfl,Bij.le_refl _,⟨rfl,rfl⟩,⟨Nat.le_refl _,Nat.le_refl _,λb B h=>.inl h⟩,rfl⟩
 obtain⟨a,ha,had,hq1⟩:=a5
 have hH1:∀b,x1.H b=false:=λb=>by rw[a6];exact hH b
 obtain⟨N2,m2,t2,r2,gs2,W2,sl2,q2,A2,Dead2,g2,w2,rfl,b1,b2,b3,b4,b5,b6,b7,b8,b9⟩:=run_count (sl:=sl1) a3.btw a4 a1 hq1 (hcsM _ _) hH1 (by omega)
 obtain⟨N3,m3,t3,r3,gs3,W3,sl3,q3,x3,A3,rfl,c1,c2,c3,c4,c5,c6,c7,c8,c9,c10⟩:=ktree_beside (P:=PP) (SB:=SBm) (BB:=BBm) (lets:=true) (Gn:=0) (Dead:=Dead2) (Kp:=⟨λB=>B<W.heap.size,W,0⟩) lib_m hmf_m (H:=x1.H) (T:=x1.T) (β:=x1.β) (Q:=QW2 (E.fr a::[bad])) (λg w h=>.inl (QW2.fn g w h)) (os:=W2.os) (ou:=W2) (n:=gs2.size) (b0:=w2.heap.size) (B0:=W2.heap.size) _ (crowd gs2 W2 sl2) t2
  ⟨gs2,W2,sl2,q2,⟨g2,w2,x1.H,x1.β,x1.T⟩,A2,0,rfl,b1,rfl,.of b3,b4,b5,rfl,rfl,Bij.le_refl _,⟨rfl,rfl⟩,⟨Nat.le_refl _,Nat.le_refl _,λb B h=>.inl h⟩,rfl⟩
 obtain⟨N4,m4,t4,r4,gs4,W4,sl4,q4,A4,Dead4,g4,w4,rfl,d1,d2,d3,d4,d5,d6,d7,d8,d9⟩:=run_best (sl:=sl3) Iso.Left.same (E.back ha had) c3.btw c4 c1 c5 (hcsM _ _) (λb=>by rw[c6];exact hH1 b) (by omega)
 obtain⟨N5,m5,t5,r5,gs5,W5,sl5,q5,x5,A5,rfl,f1,f2,f3,f4,f5,f6,f7,f8,f9,f10⟩:=ktree_beside (P:=PP) (SB:=SBm) (BB:=BBm) (lets:=true) (Gn:=0) (Dead:=Dead4) (Kp:=⟨λB=>B<W.heap.size,W,0⟩) lib_m hmf_m (H:=x3.H) (T:=x3.T) (β:=x3.β) (Q:=Iso.Left Tryz.prog f λv _=>v=.bool true) (λg w h=>.inr ⟨f,_,h⟩) (os:=W4.os) (ou:=W4) (n:=gs4.size) (b0:=w4.heap.size) (B0:=W4.heap.size) _ (crowd gs4 W4 sl4) t4
  ⟨gs4,W4,sl4,q4,⟨g4,w4,x3.H,x3.β,x3.T⟩,A4,0,rfl,d1,rfl,.of d3,d4,d5,rfl,rfl,Bij.le_refl _,⟨rfl,rfl⟩,⟨Nat.le_refl _,Nat.le_refl _,λb B h=>.inl h⟩,rfl⟩
 have eT:x5.T=[]:=f7.trans (c7.trans (a7.trans hT))
 have hrun:=ei r1 (ei r2 (ei r3 (ei r4 r5)))
 have hgl:=f4.gl
 unfold GLike at hgl
 rw[eT] at hgl
 have hos:W5.os=W.os/\W5.output=W.output:=⟨f9.1.trans (d7.1.trans (c9.1.trans (b7.1.trans a9.1))),f9.2.trans (d7.2.trans (c9.2.trans (b7.2.trans a9.2)))⟩
 have hsz:W.heap.size<=W5.heap.size:=by have:=f10.1;have:=c10.1;have:=a10.1;omega
 obtain⟨M,last,o,w',t',e1,e2,e3,e4⟩:=beside_ends (P:=Tryz.prog) (Shun:=DeadL Dead4) (B:=W5.heap.size) (D:=λ_ _ _=>False) (Post:=λv w'=>v=.bool true/\(w'.os=W.os/\w'.output=W.output)/\W.heap.size<=w'.heap.size/\∀B,B<W.heap.size->w'.heap[B]?=W.heap[B]?) (λ_ _ _ h=>h.elim) (gs:=gs5) (a:=A5) (w:=W5) (sl:=sl5) (t:=t5) (q:=q5) (n:=0) f1 f3.btw.lv f3.btw.past (λw1 hw1=>by
  obtain⟨d,rfl⟩:=hw1
  obtain⟨s1,s2⟩:=end_step E.hf E.hres E.looked hgl f5 (W5.at d)
  exact⟨s1,.bool true,#[],s2,λe he=>by simp at he,rfl,hos,hsz,λB hB=>(f4.keep B hB).2⟩)
 refine⟨N1+(N2+(N3+(N4+N5)))+M,last,o,w',t',?_,?_,e3,e4⟩
 ·exact(cg hrun).trans e1
 ·have h1:=congrArg Prod.fst (cg (K:=M) hrun)
  rw[runNT_fst,runNT_fst] at h1
  exact h1.trans e2
end
end Go.Proofs.YtefcpflbnmldcaaGreat
namespace Go.Iso
def kI:∀(n:Nat) (V:Value),SizeOf.sizeOf V<=n->∃v,(∀(S:Par) (β:Bij),S.hid.bl=true->VRel S β v V)/\∀(S:Par) (β:Bij),VRel S β v v:=by
 intro n
 induction n with
 |zero=>intro V h;cases V<;>simp at h
 |succ n ih =>
  intro V h
  have un:lB V=true->∃v,(∀(S:Par) (β:Bij),S.hid.bl=true->VRel S β v V)/\∀(S:Par) (β:Bij),VRel S β v v:=λhb=>⟨hole,λS β h=>.blank (.inr h) hb,λS β=>.blank (.inl rfl) rfl⟩
  cases V with
  |agg X =>
   have hx:∀i:_root_.Fin X.size,∃v,(∀(S:Par) (β:Bij),S.hid.bl=true->VRel S β v X[i])/\∀(S:Par) (β:Bij),VRel S β v v:=λi=>ih _ (by
    have:=Array.sizeOf_getElem X i.1 i.2
    simp at h
    simp only[Fin.getElem_fin]
    omega)
   refine⟨.agg (Array.ofFn λi=>Classical.choose (hx i)),λS β hb=>.agg (by simp) λi v V h1 h2=>?_,λS β=>.agg rfl λi v V h1 h2=>?_⟩
   ·obtain⟨hi,rfl⟩:=Array.getElem?_eq_some_iff.1 h2
    obtain⟨_,rfl⟩:=Array.getElem?_eq_some_iff.1 h1
    rw[Array.getElem_ofFn]
    exact(Classical.choose_spec (hx ⟨i,hi⟩)).1 S β hb
   ·rw[h1] at h2;cases h2
    obtain⟨hi,rfl⟩:=Array.getElem?_eq_some_iff.1 h1
    rw[Array.getElem_ofFn]
    exact(Classical.choose_spec (hx _)).2 S β
  |tuple X =>
   have hx:∀i:_root_.Fin X.size,∃v,(∀(S:Par) (β:Bij),S.hid.bl=true->VRel S β v X[i])/\∀(S:Par) (β:Bij),VRel S β v v:=λi=>ih _ (by
    have:=Array.sizeOf_getElem X i.1 i.2
    simp at h
    simp only[Fin.getElem_fin]
    omega)
   refine⟨.tuple (Array.ofFn λi=>Classical.choose (hx i)),λS β hb=>.tuple (by simp) λi v V h1 h2=>?_,λS β=>.tuple rfl λi v V h1 h2=>?_⟩
   ·obtain⟨hi,rfl⟩:=Array.getElem?_eq_some_iff.1 h2
    obtain⟨_,rfl⟩:=Array.getElem?_eq_some_iff.1 h1
    rw[Array.getElem_ofFn]
    exact(Classical.choose_spec (hx ⟨i,hi⟩)).1 S β hb
   ·rw[h1] at h2;cases h2
    obtain⟨hi,rfl⟩:=Array.getElem?_eq_some_iff.1 h1
    rw[Array.getElem_ofFn]
    exact(Classical.choose_spec (hx _)).2 S β
  |pointer a=>cases a with
   |none=>exact⟨.pointer none,λ_ _ _=>.nilp,λ_ _=>.nilp⟩
   |some a=>exact un rfl
  |bool b=>exact⟨.bool b,λ_ _ _=>.bool b,λ_ _=>.bool b⟩
  |int k n=>exact⟨.int k n,λ_ _ _=>.int k n,λ_ _=>.int k n⟩
  |string s=>exact⟨.string s,λ_ _ _=>.string s,λ_ _=>.string s⟩
  |nilIface=>exact⟨.nilIface,λ_ _ _=>.nilIface,λ_ _=>.nilIface⟩
  |nilFunc=>exact⟨.nilFunc,λ_ _ _=>.nilFunc,λ_ _=>.nilFunc⟩
  |func f x c=>cases f with
   |method n=>exact⟨hm,λ_ _ h=>.blankM (.inr h),λ_ _=>.blankM (.inl rfl)⟩
   |_=>exact un rfl
  |_=>exact un rfl
noncomputable def eE (V:Value):Value:=Classical.choose (kI (SizeOf.sizeOf V) V (Nat.le_refl _))
def gC (V:Value):(∀(S:Par) (β:Bij),S.hid.bl=true->VRel S β (eE V) V)/\∀(S:Par) (β:Bij),VRel S β (eE V) (eE V):=Classical.choose_spec (kI (SizeOf.sizeOf V) V (Nat.le_refl _))
noncomputable def bR (k:Nat->Bool)(C:Array Value):Array Value:=C.mapIdx λi V=>if k i then V else eE V
def fT (k:Nat->Bool)(C:Array Value):(bR k C).size=C.size:=by simp[bR]
def el (k:Nat->Bool)(C:Array Value)(i:Nat):(bR k C)[i]?=(C[i]?).map λV=>if k i then V else eE V:=by simp[bR]
def jF {k:Nat->Bool}{C:Array Value}{i:Nat}(h:k i=true):(bR k C)[i]?=C[i]?:=by
 rw[el];simp[h]
def lq {S:Par}{β:Bij}{k:Nat->Bool}{C:Array Value}(hb:S.hid.bl=true)(h:∀i v,k i=true->C[i]?=some v->VRel S β v v):AsRel S β (bR k C) C:=by
 refine⟨fT _ _,λi v V h1 h2=>?_⟩
 rw[el,h2] at h1
 simp only[Option.map_some,Option.some.injEq] at h1
 subst h1
 split
 ·exact h i V ‹_› h2
 ·exact(gC V).1 S β hb
def kJ {S:Par}{β:Bij}{k:Nat->Bool}{C:Array Value}(h:∀i v,k i=true->C[i]?=some v->VRel S β v v):AsRel S β (bR k C) (bR k C):=by
 refine⟨rfl,λi v V h1 h2=>?_⟩
 rw[h1] at h2;cases h2
 rw[el] at h1
 cases hC:C[i]? with
 |none=>rw[hC] at h1;cases h1
 |some V =>
  rw[hC] at h1
  simp only[Option.map_some,Option.some.injEq] at h1
  subst h1
  split
  ·exact h i V ‹_› hC
  ·exact(gC V).2 S β
noncomputable def gi (k:Nat->Bool):Obj->Obj
 |.cells C t f=>.cells (bR k C) t (0,max C.size f.2)
 |o=>o
noncomputable def aY (K:Nat->Bool)(k:Nat->Nat->Bool)(W:World):World:={ W with heap:=W.heap.mapIdx λb o=>if K b then gi (k b) o else o }
section
variable {K:Nat->Bool} {k:Nat->Nat->Bool} {W:World}
def lr:(aY K k W).heap.size=W.heap.size:=by simp[aY]
def iJ (b:Nat):(aY K k W).heap[b]?=(W.heap[b]?).map λo=>if K b then gi (k b) o else o:=by simp[aY]
def dS {b:Nat}(hb:K b=true){C:Array Value}{t:TypeId}{f:Nat×Nat}(h:W.heap[b]?=some (.cells C t f)):(aY K k W).heap[b]?=some (.cells (bR (k b) C) t (0,max C.size f.2)):=by
 rw[iJ,h];simp[hb,gi]
def lw {b o:Nat}(h:K b=true->k b o=true):(aY K k W).cell? ⟨b,o,none⟩=W.cell? ⟨b,o,none⟩:=by
 unfold World.cell?
 dsimp only
 rw[iJ]
 cases hb:K b with
 |false=>cases W.heap[b]?<;>simp
 |true =>
  cases hW:W.heap[b]? with
  |none=>rfl
  |some o' =>
   cases o' with
   |cells C t f=>simp[gi,jF (h hb)]
   |_=>rfl
def oY {b:Nat}(hb:K b=true){C:Array Value}{t:TypeId}{f:Nat×Nat}(h:W.heap[b]?=some (.cells C t f)):Ro (aY K k W) b :=
 ⟨_,_,_,dS hb h,λi hi=>by
  rw[fT] at hi
  exact⟨Nat.zero_le _,Nat.lt_of_lt_of_le hi (Nat.le_max_left _ _)⟩⟩
def Shuts (S:Par)(K:Nat->Bool)(k:Nat->Nat->Bool)(W:World):Prop:=∀b,K b=true->∃C t f,W.heap[b]?=some (.cells C t f)/\∀i v,k b i=true->C[i]?=some v->VRel S (idOn λb=>K b=true) v v
def ly {S:Par}{Ck:Code->Prop}(hb:S.hid.bl=true)(hh:∀b,S.hid b=false)(h:Shuts S K k W):WRel S Ck 0 (idOn λb=>K b=true) (aY K k W) W:=by
 refine⟨⟨λh1 h2=>h1.2.symm.trans h2.2,λh1 h2=>h1.2.trans h2.2.symm,λ_=>⟨Nat.zero_le _,Nat.zero_le _⟩⟩,⟨Nat.zero_le _,Nat.zero_le _⟩,λb B hB _=>?_,λb B _ h=>?_,λb h=>?_,rfl⟩
 ·obtain⟨hk,rfl⟩:=hB
  obtain⟨C,t,f,h1,h2⟩:=h b hk
  exact⟨_,_,dS hk h1,h1,.cells (lq hb h2) λi _ hi=>⟨Nat.zero_le _,Nat.lt_of_lt_of_le hi (Nat.le_max_right _ _)⟩⟩
 ·rw[hh] at h;cases h
 ·rw[hh] at h;cases h
def shadow_objs {S:Par}{Ck:Code->Prop}(h:Shuts S K k W):∀b,K b=true->∃o,(aY K k W).heap[b]?=some o/\ORel S Ck (idOn λb=>K b=true) o o:=λb hk=>by
 obtain⟨C,t,f,h1,h2⟩:=h b hk
 exact⟨_,dS hk h1,.cells (kJ h2) λi h1 h2=>⟨h1,h2⟩⟩
end
def Hid.nb:Hid:=⟨λ_=>false,false,true⟩
end Go.Iso
namespace Go.Proofs.YtefcpflbnmldcaaGreat
open Go.RowKit Go.Iso Go.Co Go.Conc Go.ConcN Go.Sq
section
variable {f:FuncId} {l:Code} {K:Nat->Bool} {k:Nat->Nat->Bool} {W:World} {args:Array Value}
def qq (E:LawEnd f l){C:Code}(hbody:E.fn.body=some C)(hput:(f != 20&&sqPut f)=true)(hsb:SBy f=true)(hcode:codeOk uG SBy false true C=true)(hsh:∀S,Shuts S K k W)(hargs:∀S,AsRel S (idOn λb=>K b=true) args args)
  (hgo:∀τ d,bH uG l C (λa _=>a.tmps.size=E.n/\a.defers=[]) ⟨args++Array.replicate (E.n-args.size) undef,[]⟩ (on (aY K k W) τ d)) :
  KTr Tryz.prog BBm (AtWoken E) 0 (Go.Conc.G (Frame.enter Tryz.prog f args .normal) [bad]) (aY K k W):=by
 have hQ:∀g w W,Same w W->AtWoken E g w->AtWoken E g W:=λg w W s ⟨a,h1,h2,h3⟩=>⟨a,h1,h2,QW1.same g w W s h3⟩
 rw[enter_at _ E.hf hbody,E.hn]
 have hfr:FrRel uG SBy tV false (idOn λb=>K b=true) ((base f).at ⟨args++Array.replicate (E.n-args.size) undef,[]⟩ [.code C]) ((base f).at ⟨args++Array.replicate (E.n-args.size) undef,[]⟩ [.code C]) :=
  ⟨rfl,(hargs _).append (.replicate (.undef _ _) _),.cons (.code hcode) .nil,.nil,.run,rfl,⟨(by show CallKind.normal≠.early;decide),hsb⟩,.none⟩
 refine(de (H:=tV) ey).segTo (b:=base f) (a:=⟨args++Array.replicate (E.n-args.size) undef,[]⟩) (l:=l) (c:=C) (k:=[]) (C:=bad) (cs:=[]) (Q:=AtWoken E) (w:=aY K k W) (K0:=λb=>K b=true) hfr (λ_ _=>Nat.zero_le _) (Nat.zero_le _) (λb _ hb=>by cases hb) (λb hb=>by cases hb) (λb hb _=>shadow_objs (hsh _) b hb)
  (λs h=>?_) (λf' x y fn r o1 o2 s hp c hc h=>?_) (.inr ⟨_,_,Sq.put E.hf hput,rfl⟩) hQ (N:=λa _=>a.tmps.size=E.n/\a.defers=[]) hgo (λa' w' hn=>?_)
 ·rw[E.hl] at h;cases h
 ·rw[hp.text] at hc;cases hc
  rw[E.hl] at h;cases h
 ·exact(E.go (hcsM _ _)).mono λg w h=>⟨a',hn.1,hn.2,h⟩
def oZ (E:LawEnd f l){C:Code}(hbody:E.fn.body=some C)(hput:(f != 20&&sqPut f)=true)(hsb:SBy f=true)(hsm:SBm f=true)(hcode:codeOk uG SBy false true C=true)(hsh:∀S,Shuts S K k W)(hargs:∀S,AsRel S (idOn λb=>K b=true) args args)
  (hgo:∀τ d,bH uG l C (λa _=>a.tmps.size=E.n/\a.defers=[]) ⟨args++Array.replicate (E.n-args.size) undef,[]⟩ (on (aY K k W) τ d)) :
  ∃M last o w' t',runNT Tryz.prog (M+1) (solo (Go.Conc.G (Frame.enter Tryz.prog f args .normal) []) W) #[]=(.ended o w',t')/\runN Tryz.prog M (solo (Go.Conc.G (Frame.enter Tryz.prog f args .normal) []) W)=.next last/\step Tryz.prog last=.ended o w' /\
   Go.Conc.Good Tryz.prog (λv w'=>v=.bool true/\(w'.os=W.os/\w'.output=W.output)/\W.heap.size<=w'.heap.size/\∀B,B<W.heap.size->w'.heap[B]?=W.heap[B]?) last o w' t' :=
 r9 E (A:=Go.Conc.G (Frame.enter Tryz.prog f args .normal) []) (W:=W) (x:=⟨Go.Conc.G (Frame.enter Tryz.prog f args .normal) [bad],aY K k W,Hid.nb,idOn λb=>K b=true,[]⟩)
  ⟨⟨enter_rel (P:=PP) (lib_m _) (.inl hsm) (hargs _) .normal (by decide),.base,⟨rfl,rfl⟩,⟨rfl,rfl⟩,⟨rfl,rfl⟩⟩,ly rfl (λ_=>rfl) (hsh _),rfl,λ_ _ _ h=>h.elim,λB hB=>⟨hB,rfl⟩,λb B hb _=>by
   obtain⟨hk,rfl⟩:=hb
   obtain⟨C,t,f,h1,_⟩:=hsh (SP SBm Hid.nb) b hk
   exact .inr (oY hk h1)⟩ (qq E hbody hput hsb hcode hsh hargs hgo) rfl λ_=>rfl
end
end Go.Proofs.YtefcpflbnmldcaaGreat
namespace Go.Sq
open Go.RowKit
structure Nums (w:World)(g n:Nat)(V:Nat->Int):Prop where
 lt:g<w.heap.size
 at_:∀h,h<n->w.cell? ⟨g,h,none⟩=some (.int .i64 (V h))/\w.frozen? ⟨g,h,none⟩=false
def Nums.gr {w w':World}{g n:Nat}{V:Nat->Int}(h:Nums w g n V)(hg:Gr w w'):Nums w' g n V:=⟨Nat.lt_of_lt_of_le h.lt hg.size,λq hq=>⟨(hg.cell (p:=⟨g,q,none⟩) h.lt).trans (h.at_ q hq).1,(hg.frozen (p:=⟨g,q,none⟩) h.lt).trans (h.at_ q hq).2⟩⟩
def Nums.set {w:World}{g n:Nat}{V V':Nat->Int}(h:Nums w g n V){a:Nat}(ha:a<n)(y:Int)(hV:∀q,q<n->V' q=if q=a then y else V q):Nums (w.setCell ⟨g,a,none⟩ (.int .i64 y)) g n V':=by
 refine⟨by have:=h.lt;simpa [World.setCell] using this,λq hq=>⟨?_,(World.frozen?_setCell _ _ _ _).trans (h.at_ q hq).2⟩⟩
 rw[hV q hq]
 by_cases e:q=a
 ·subst e;rw[if_pos rfl];exact World.cell?_setCell_same _ _ _ (h.at_ q hq).1
 ·rw[if_neg e];exact(World.cell?_setCell_other _ _ _ _ (by simp[Ne.symm e])).trans (h.at_ q hq).1
def Nums.congr {w:World}{g n:Nat}{V V':Nat->Int}(h:Nums w g n V)(e:∀q,q<n->V q=V' q):Nums w g n V':=⟨h.lt,λq hq=>by rw[<-e q hq];exact h.at_ q hq⟩
def Nums.ri {w:World}{g n:Nat}{V:Nat->Int}(h:Nums w g n V):RI w w.heap.size (some ⟨g,0,none⟩) ((List.range n).map V):=λ_=>⟨g,0,rfl,h.lt,λi x hx=>by
 have hi:i<n:=by have:=(List.getElem?_eq_some_iff.1 hx).1;simpa using this
 rw[List.getElem?_map,List.getElem?_range hi] at hx
 have:x=V i:=(Option.some.inj hx).symm
 rw[Nat.zero_add,this]
 exact(h.at_ i hi).1⟩
end Go.Sq
namespace Go.Proofs.YtefcpflbnmldcaaGreat
open Go.RowKit Go.Sq
def qr (w:World)(n:Nat):Nums (w.alloc (.cells (zerosA n) 3)) w.heap.size n λ_=>0:=⟨by simp,λh hh=>by
 rw[World.cell?_alloc_at _ _ _ _ (by simp),World.frozen?_alloc_at _ _ _ _ (by simp),dh _ _ hh];exact⟨rfl,rfl⟩⟩
open Go.RowKit Go.Sq
end Go.Proofs.YtefcpflbnmldcaaGreat
namespace Go.Sq
open Go.RowKit
structure Hand (w:World)(hb B:Nat)(A:Option Addr)(cap:Nat)(l:List Int)(N:Nat):Prop where
 obj:∃n:Nat,∃s:Int,w.heap[hb]?=some (.cells #[.slice A l.length cap,.int .i64 n,.int .u64 s] 100 (0,0))/\n<=N
 nums:RI w B A l
 apart:B<=hb
def Hand.lt {w:World}{hb B:Nat}{A:Option Addr}{cap:Nat}{l:List Int}{N:Nat}(h:Hand w hb B A cap l N):hb<w.heap.size:=by
 obtain⟨n,s,h1,_⟩:=h.obj
 exact(Array.getElem?_eq_some_iff.1 h1).1
def Hand.more {w:World}{hb B:Nat}{A:Option Addr}{cap:Nat}{l:List Int}{N M:Nat}(h:Hand w hb B A cap l N)(hm:N<=M):Hand w hb B A cap l M:=by
 obtain⟨n,s,h1,h2⟩:=h.obj
 exact⟨⟨n,s,h1,by omega⟩,h.nums,h.apart⟩
def Hand.gr {w w':World}{hb B:Nat}{A:Option Addr}{cap:Nat}{l:List Int}{N:Nat}(h:Hand w hb B A cap l N)(hg:Gr w w'):Hand w' hb B A cap l N:=by
 have hl:=h.lt
 obtain⟨n,s,h1,h2⟩:=h.obj
 exact⟨⟨n,s,(hg.below.block hb hl).trans h1,h2⟩,h.nums.gr (by have:=h.apart;omega) hg,h.apart⟩
abbrev KH (hb:Nat)(w w':World):Prop:=KT (·=hb) w w'
end Go.Sq
namespace Go.Proofs.YtefcpflbnmldcaaGreat
open Go.RowKit Go.Sq
def iK (x y:Int):0<=bits BinOp.xor IntKind.u64 x y:=by
 unfold bits IntKind.wrap
 have h:IntKind.u64.signed=false:=rfl
 simp only[h,Bool.false_and,Bool.false_eq_true,if_false]
 exact Int.emod_nonneg _ (by decide)
def ta (hb B:Nat)(A:Option Addr)(cap:Nat)(l:List Int)(N:Nat)(w:World)(h:Hand w hb B A cap l N)(hN:N<=1048576) :
  Calls uG 93 #[.pointer (some ⟨hb,0,none⟩)] w λe w'=>(∃v:Int,e=.returned (.int .u64 v)/\0<=v)/\Hand w' hb B A cap l (N+1)/\KH hb w w':=by
 obtain⟨n,s,hobj,hn⟩:=h.obj
 have HH:=tT h
 have c0:w.cell? ⟨hb,0,none⟩=some (.slice A l.length cap):=by unfold World.cell?;rw[hobj];rfl
 have c1:w.cell? ⟨hb,1,none⟩=some (.int .i64 n):=by unfold World.cell?;rw[hobj];rfl
 have c2:w.cell? ⟨hb,2,none⟩=some (.int .u64 s):=by unfold World.cell?;rw[hobj];rfl
 have f1:w.frozen? ⟨hb,1,none⟩=false:=by unfold World.frozen?;rw[hobj];rfl
 have f2:w.frozen? ⟨hb,2,none⟩=false:=by unfold World.frozen?;rw[hobj];rfl
 have HO:=tT hobj
 clear h hobj
 have key : ∀ (v x y : Int) (W : World), W.heap = ((w.setCell ⟨hb, 1, none⟩ (.int .i64 (n + 1 : Nat))).setCell ⟨hb, 2, none⟩ (.int .u64 y)).heap -> W.os = w.os -> W.tape = w.tape -> W.output = w.output -> w.drawn <= W.drawn -> 0 <= v ->
   (∃v':Int,Ending.returned (.int .u64 v)=.returned (.int .u64 v')/\0<=v')/\Hand W hb B A cap l (N+1)/\KH hb w W:=λv x y W hW e1 e2 e3 e4 hv=>by
  have hB:=HH.out.apart
  have hlt:=HH.out.lt
  have hbk:∀b,b≠hb->W.heap[b]?=w.heap[b]?:=λb hne=>by
   rw[hW,Below.heap_setCell _ _ _ _ hne,Below.heap_setCell _ _ _ _ hne]
  refine⟨⟨v,rfl,hv⟩,⟨⟨n+1,y,?_,by omega⟩,HH.out.nums.keep λb o hb'=>World.cell?_of_block (hbk b (by omega)),hB⟩,⟨e1,e2,e3,e4,?_,λb _ hne=>hbk b hne⟩⟩
  ·rw[hW]
   exact aF (aF HO.out)
  ·rw[hW];simp[World.setCell]
 have HKEY:=tT key
 clear key
 go_enter Sq.func93,Tryz.ntmps93
 by_cases hlt:n<l.length
 ·obtain⟨b,o,rfl,hb',hcl⟩:=HH.out.nums.at_ hlt
  generalize l[n]?.getD 0=x at hcl
  go_wp2
  go_region
  all_goals
   go_wp2
   go_region
   all_goals
    go_wp2
    go_ret
    refine HKEY.out _ 0 _ _ rfl rfl rfl rfl (by simp[World.drew,World.setCell]<;>omega) ?_
    exact Int.ediv_nonneg (iK _ _) (by omega)
 ·go_wp2
  go_region
  all_goals
   go_wp2
   go_ret
   refine HKEY.out _ 0 _ _ rfl rfl rfl rfl (by simp[World.drew,World.setCell]<;>omega) ?_
   exact Int.ediv_nonneg (iK _ _) (by omega)
def dj (hb B:Nat)(A:Option Addr)(cap:Nat)(l:List Int)(N:Nat)(m:Int)(w:World)(h:Hand w hb B A cap l N)(hN:N<=1048576)(hm:m<=1048576) :
  Calls uG 32 #[.pointer (some ⟨hb,0,none⟩),.int .i64 m] w λe w'=>(∃k:Nat,e=.returned (.int .i64 k)/\((k:Int)<=m\/k=0))/\Hand w' hb B A cap l (N+1)/\KH hb w w':=by
 have HP:=tT (ta hb B A cap l N w h hN)
 have HH:=tT h
 clear h
 go_enter Sq.func32,Tryz.ntmps32
 by_cases hm0:m<=0
 ·go_wp2
  go_ret
  exact⟨⟨0,rfl,.inr rfl⟩,HH.out.more (by omega),KT.refl _ _⟩
 ·go_wp2_with fail
  refine HP.out.mono ?_
  rintro e w' ⟨⟨v,rfl,hv⟩,hh,hk⟩
  have HH2:=tT hh
  have HK:=tT hk
  clear hh hk HP
  have h1:IntKind.u64.wrap (m+1)=m+1:=by simp[IntKind.wrap,IntKind.bits,IntKind.signed];omega
  have h2:v % (m+1)<m+1:=Int.emod_lt_of_pos _ (by omega)
  have h3:0<=v % (m+1):=Int.emod_nonneg _ (by omega)
  go_wp2
  go_ret
  obtain⟨k,hk⟩:∃k:Nat,v % (m+1)=k:=⟨(v % (m+1)).toNat,by omega⟩
  exact⟨⟨k,by show Ending.returned (Value.int .i64 (v % (m+1)))=_;rw[hk],.inl (by omega)⟩,HH2.out,HK.out⟩
def dG (hb B:Nat)(A:Option Addr)(cap:Nat)(l:List Int)(N:Nat)(lo hi:Int)(w:World)(h:Hand w hb B A cap l N)(hN:N<=1048576)(h1:0<=lo/\lo<=1048576)(h2:lo<=hi/\hi<=1048576) :
  Calls uG 72 #[.pointer (some ⟨hb,0,none⟩),.int .i64 lo,.int .i64 hi] w λe w'=>(∃k:Nat,e=.returned (.int .i64 k)/\lo<=k/\(k:Int)<=hi)/\Hand w' hb B A cap l (N+1)/\KH hb w w':=by
 have HP:=tT (dj hb B A cap l N (hi-lo) w h hN (by omega))
 clear h
 go_enter Sq.func72,Tryz.ntmps72
 go_wp2_with fail
 refine HP.out.mono ?_
 rintro e w' ⟨⟨k,rfl,hk⟩,hh,hkt⟩
 have HH2:=tT hh
 have HK:=tT hkt
 clear hh hkt HP
 go_wp2
 go_ret
 obtain⟨q,hq⟩:∃q:Nat,lo+k=q:=⟨(lo+k).toNat,by omega⟩
 exact⟨⟨q,by show Ending.returned (Value.int .i64 (lo+k))=_;rw[hq],by omega,by omega⟩,HH2.out,HK.out⟩
def gX (hb B:Nat)(A A2:Option Addr)(cap c2:Nat)(l m:List Int)(N:Nat)(x:Int)(w:World)(h:Hand w hb B A cap l N)(hN:N<=1048576)(hm:m.length<=1048576)(hri:RIK w (λb=>b≠hb/\b<w.heap.size) A2 m) :
  Calls uG 73 #[.pointer (some ⟨hb,0,none⟩),.int .i64 x,.slice A2 m.length c2] w λe w'=>(∃k:Int,e=.returned (.int .i64 k)/\k∈x::m)/\Hand w' hb B A cap l (N+1)/\KH hb w w':=by
 have HP:=tT (dj hb B A cap l N m.length w h hN (by omega))
 have HR:=tT hri
 clear h hri
 go_enter Sq.func73,Tryz.ntmps73
 go_wp2_with fail
 refine HP.out.mono ?_
 rintro e w' ⟨⟨k,rfl,hk⟩,hh,hkt⟩
 have HH2:=tT hh
 have HK:=tT hkt
 by_cases hk0:k=0
 ·subst hk0
  clear hh hkt HP
  go_wp2
  go_ret
  exact⟨⟨x,rfl,List.mem_cons_self⟩,HH2.out,HK.out⟩
 ·have hkm:k-1<m.length:=by omega
  obtain⟨b,o,rfl,hb2,hcl⟩:=HR.out (λe=>by rw[e] at hkm;simp at hkm)
  have hc:=hcl (k-1) _ (List.getElem?_eq_getElem hkm)
  have hc2:w'.cell? ⟨b,o+(k-1),none⟩=some (.int .i64 m[k-1]):=(World.cell?_of_block (hkt.block b hb2.2 hb2.1)).trans hc
  have HMEM:Hid (m[k-1]∈x::m):=tT (List.mem_cons_of_mem _ (List.getElem_mem hkm))
  generalize m[k-1]=y at hc2 HMEM
  have e1:((k:Int)-1)=((k-1:Nat):Int):=by omega
  obtain⟨q,hq⟩:∃q,q=k-1:=⟨_,rfl⟩
  rw[<-hq] at hc2 e1 hkm
  obtain rfl:k=q+1:=by omega
  clear hh hkt HP hcl hc hk0 hq e1
  have e2:((q+1:Nat):Int)-1=(q:Int):=by omega
  go_wp2
  go_ret
  exact⟨⟨y,rfl,HMEM.out⟩,HH2.out,HK.out⟩
def pa (hb B:Nat)(A:Option Addr)(cap:Nat)(l:List Int)(N:Nat)(a b:Int)(w:World)(h:Hand w hb B A cap l N)(hN:N<=1048576)(hb1:0<=b/\b<=1048576) :
  Calls uG 77 #[.pointer (some ⟨hb,0,none⟩),.int .i64 a,.int .i64 b] w λe w'=>(∃v:Bool,e=.returned (.bool v))/\Hand w' hb B A cap l (N+1)/\KH hb w w':=by
 have HP:=tT (dj hb B A cap l N (b-1) w h hN (by omega))
 clear h
 go_enter Sq.func77,Tryz.ntmps77
 go_wp2_with fail
 refine HP.out.mono ?_
 rintro e w' ⟨⟨k,rfl,hk⟩,hh,hkt⟩
 have HH2:=tT hh
 have HK:=tT hkt
 clear hh hkt HP
 go_wp2
 go_ret
 exact⟨⟨_,rfl⟩,HH2.out,HK.out⟩
def pc (A:Option Addr)(cap:Nat)(l:List Int)(w:World)(h:RI w w.heap.size A l) :
  Calls uG 22 #[.slice A l.length cap] w λe w'=>e=.returned (.pointer (some ⟨w.heap.size,0,none⟩))/\Hand w' w.heap.size w.heap.size A cap l 0/\Gr w w':=by
 have HR:=tT h
 clear h
 go_enter Sq.func22,Tryz.ntmps22
 go_wp2
 go_ret
 exact⟨rfl,⟨⟨0,88172645463325252,World.alloc_heap_new _ _,Nat.le_refl _⟩,HR.out.gr (Nat.le_refl _) ((Gr.refl w).alloc _),Nat.le_refl _⟩,(Gr.refl w).alloc _⟩
end Go.Proofs.YtefcpflbnmldcaaGreat
