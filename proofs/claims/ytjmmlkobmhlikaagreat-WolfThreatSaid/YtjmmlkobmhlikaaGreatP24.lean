/- Parts of the proof. -/
import Derived.Test.YtjmmlkobmhlikaaGreatP21
import Derived.Test.YtjmmlkobmhlikaaGreatP22
import Derived.Test.YtjmmlkobmhlikaaGreatP23
import Derived.Test.YtjmmlkobmhlikaaGreatP18
import Derived.Test.YtjmmlkobmhlikaaGreatP08
import Derived.Orders
set_option linter.all false
set_option maxHeartbeats 3200000
set_option maxRecDepth 1000000
namespace Go.Proofs.YtjmmlkobmhlikaaGreat
open Go.RowKit Go.Iso Go.Co Go.Conc Go.Sq
def nC:formedE (wakeC [3,2,4]) [[0,1],[1],[]]=0:=by decide +kernel
def nD:formedE (wakeC [3,2,4]) guardG=0:=by decide +kernel
def qI:dx 3 [(2,6)]=0:=by decide +kernel
def sn:balL (owesL (wakeC [3,2,4]) (rosOf guardG) 9 (wolvesL 3 [(2,6)] 1))=[8,0,-8]:=by decide +kernel
def qJ:(walkL wakeCamp (setsL 3) 2 (firstR (setW 1)) 1).map (λr=>aQ r 3)=[guardG]:=by decide +kernel
def ip {l:List Int}:(∀h∈(wakeC l).herders,h.off.length<=4611686018427387904):=by
 intro h hh
 simp only[wakeC,List.mem_cons,List.not_mem_nil,or_false] at hh
 rcases hh with rfl|rfl|rfl<;>simp
def pq (nA hA gA:Option Addr)(w:World)(B:Nat)(hB:B<=w.heap.size)(hn:RI w B nA [3,2,4])(hh:HsAt w B hA (wakeC [3,2,4]).herders)(hg:GrAt w B gA [[0,1],[1],[]]) :
  Calls uZ 25 #[.agg #[.slice nA 3 3,.slice hA 3 3],.slice gA 3 3,.int .i64 2,.int .i64 0] w λe w'=>Gr w w'/\∃A k,e=.returned (.tuple #[.slice A 3 k,.int .i64 3,.int .i64 0])/\GrAt w' w'.heap.size A guardG:=by
 refine(qH nA hA gA 3 3 3 (wakeC [3,2,4]) [[0,1],[1],[]] 2 0 w B hB hn hh hg (by decide) (by decide) ip (by decide) (by decide) (λk _ hk _ _=>?_)).mono ?_
 ·obtain rfl:k=2:=by omega
  exact Camp.Ok.of (by decide +kernel)
 ·rintro e w' ⟨hg,h⟩
  refine⟨hg,?_⟩
  rw[if_neg (by simp[nC]),if_neg (by decide)] at h
  have hr:=qz
  have h2:walkL (repC (wakeC [3,2,4]) (Int.toNat 2) 0) (setsL (wakeC [3,2,4]).herders.length) (wakeC [3,2,4]).needs.length zeroR 0=walkL (repC (wakeC [3,2,4]) 2 0) (setsL 3) 3 zeroR 0:=rfl
  rw[h2] at h
  cases hn:nearR (rosOf [[0,1],[1],[]]) (walkL (repC (wakeC [3,2,4]) 2 0) (setsL 3) 3 zeroR 0) with
  |none=>rw[hn] at hr;cases hr
  |some p =>
   rw[hn] at hr h
   obtain⟨A,k,he,hgr⟩:=h
   have hr2:(aQ p.1 3,p.2)=(guardG,3):=Option.some.inj hr
   injection hr2 with e1 e2
   refine⟨A,k,?_,?_⟩
   ·rw[he,e2];rfl
   ·rw[<-e1];exact hgr
def qK (nA hA:Option Addr)(w:World)(B:Nat)(hB:B<=w.heap.size)(hn:RI w B nA [3,2,5])(hh:HsAt w B hA (wakeC [3,2,5]).herders) :
  Calls uZ 26 #[.agg #[.slice nA 3 3,.slice hA 3 3]] w λe w'=>Gr w w'/\∃A k,e=.returned (.tuple #[.slice A 2 k,.int .i64 0])/\RI w' w'.heap.size A [1,2]:=by
 refine(rS nA hA 3 3 (wakeC [3,2,5]) w B hB hn hh (by decide) (by decide) ip).mono ?_
 rintro e w' ⟨hg,h⟩
 refine⟨hg,?_⟩
 rw[if_neg (by simp[jS]),if_neg (by simp[iT])] at h
 have h2:clashN (wakeC [3,2,5]) (2 ^ (wakeC [3,2,5]).needs.length)=some [1,2]:=nf
 rw[h2] at h
 exact h
def tt (nA hA gA rA:Option Addr)(w:World)(B:Nat)(hB:B<=w.heap.size)(hn:RI w B nA [3,2,4])(hh:HsAt w B hA (wakeC [3,2,4]).herders)(hg:GrAt w B gA guardG)(hr:RsAt w B rA [(2,6)]) :
  Calls uZ 27 #[.agg #[.slice nA 3 3,.slice hA 3 3],.slice gA 3 3,.slice rA 1 1,.int .i64 9] w λe w'=>Gr w w'/\∃A k,e=.returned (.tuple #[.slice A 3 k,.int .i64 0])/\RI w' w'.heap.size A [8,0,-8]:=by
 refine(nB nA hA gA rA 3 3 3 1 (wakeC [3,2,4]) guardG [(2,6)] 9 w B hB hn hh hg hr (by decide) (by decide) ip (by decide) (by decide) (by decide) (by decide) nD qI (by omega)).mono ?_
 rintro e w' ⟨hg,A,k,he,h⟩
 refine⟨hg,A,k,he,?_⟩
 rw[<-sn]
 exact h
def ud {w:World}{B b:Nat}{A0 A1 A2:Option Addr}{c0 c1 c2:Nat}{l0 l1 l2:List Int}{t:TypeId}{f:Nat×Nat}(h:w.heap[b]?=some (.cells #[.slice A0 l0.length c0,.slice A1 l1.length c1,.slice A2 l2.length c2] t f))(hb:b<B)(h0:RI w B A0 l0)(h1:RI w B A1 l1)(h2:RI w B A2 l2):GrAt w B (some ⟨b,0,none⟩) [l0,l1,l2]:=λ_=>by
 have e:∀o,w.cell? ⟨b,o,none⟩=(#[.slice A0 l0.length c0,.slice A1 l1.length c1,.slice A2 l2.length c2]:Array Value)[o]?:=λo=>by unfold World.cell?;rw[h];simp
 refine⟨b,0,rfl,hb,λi l hl=>?_⟩
 match i,hl with
 |0,hl=>cases hl;exact⟨A0,c0,e _,h0⟩
 |1,hl=>cases hl;exact⟨A1,c1,e _,h1⟩
 |2,hl=>cases hl;exact⟨A2,c2,e _,h2⟩
def ue {w:World}{B b:Nat}{x y:Int}{t:TypeId}{f:Nat×Nat}(h:w.heap[b]?=some (.cells #[.int .i64 x,.int .i64 y] t f))(hb:b<B):RsAt w B (some ⟨b,0,none⟩) [(x,y)]:=λ_=>by
 have e:∀o,w.cell? ⟨b,o,none⟩=(#[.int .i64 x,.int .i64 y]:Array Value)[o]?:=λo=>by unfold World.cell?;rw[h];simp
 refine⟨b,0,rfl,hb,λi q hq=>?_⟩
 match i,hq with
 |0,hq=>cases hq;exact⟨e _,e _⟩
def chk19 (n:Nat)(l:List Value)(h:l.length=n+19):∃(y0 y1 y2 y3 y4 y5 y6 y7 y8 y9 y10 y11 y12 y13 y14 y15 y16 y17 y18:Value) (tl:List Value),l=y0::y1::y2::y3::y4::y5::y6::y7::y8::y9::y10::y11::y12::y13::y14::y15::y16::y17::y18::tl/\tl.length=n:=by
 match l,h with
 |y0::y1::y2::y3::y4::y5::y6::y7::y8::y9::y10::y11::y12::y13::y14::y15::y16::y17::y18::tl,h=>exact⟨y0,y1,y2,y3,y4,y5,y6,y7,y8,y9,y10,y11,y12,y13,y14,y15,y16,y17,y18,tl,rfl,by simpa using h⟩
def tU {T:Array Value}(h:T.size=95):∃(y0 y1 y2 y3 y4 y5 y6 y7 y8 y9 y10 y11 y12 y13 y14 y15 y16 y17 y18 y19 y20 y21 y22 y23 y24 y25 y26 y27 y28 y29 y30 y31 y32 y33 y34 y35 y36 y37 y38 y39 y40 y41 y42 y43 y44 y45 y46 y47 y48 y49 y50 y51 y52 y53 y54 y55 y56 y57 y58 y59 y60 y61 y62 y63 y64 y65 y66 y67 y68 y69 y70 y71 y72 y73 y74 y75 y76 y77 y78 y79 y80 y81 y82 y83 y84 y85 y86 y87 y88 y89 y90 y91 y92 y93 y94:Value),T=#[y0,y1,y2,y3,y4,y5,y6,y7,y8,y9,y10,y11,y12,y13,y14,y15,y16,y17,y18,y19,y20,y21,y22,y23,y24,y25,y26,y27,y28,y29,y30,y31,y32,y33,y34,y35,y36,y37,y38,y39,y40,y41,y42,y43,y44,y45,y46,y47,y48,y49,y50,y51,y52,y53,y54,y55,y56,y57,y58,y59,y60,y61,y62,y63,y64,y65,y66,y67,y68,y69,y70,y71,y72,y73,y74,y75,y76,y77,y78,y79,y80,y81,y82,y83,y84,y85,y86,y87,y88,y89,y90,y91,y92,y93,y94]:=by
 obtain⟨l⟩:=T
 have h:l.length=76+19:=h
 obtain⟨y0,y1,y2,y3,y4,y5,y6,y7,y8,y9,y10,y11,y12,y13,y14,y15,y16,y17,y18,l0,rfl,h0⟩:=chk19 76 l h
 obtain⟨y19,y20,y21,y22,y23,y24,y25,y26,y27,y28,y29,y30,y31,y32,y33,y34,y35,y36,y37,l1,rfl,h1⟩:=chk19 57 l0 h0
 obtain⟨y38,y39,y40,y41,y42,y43,y44,y45,y46,y47,y48,y49,y50,y51,y52,y53,y54,y55,y56,l2,rfl,h2⟩:=chk19 38 l1 h1
 obtain⟨y57,y58,y59,y60,y61,y62,y63,y64,y65,y66,y67,y68,y69,y70,y71,y72,y73,y74,y75,l3,rfl,h3⟩:=chk19 19 l2 h2
 obtain⟨y76,y77,y78,y79,y80,y81,y82,y83,y84,y85,y86,y87,y88,y89,y90,y91,y92,y93,y94,l4,rfl,h4⟩:=chk19 0 l3 h3
 obtain rfl:l4=[]:=List.eq_nil_of_length_eq_zero h4
 exact⟨y0,y1,y2,y3,y4,y5,y6,y7,y8,y9,y10,y11,y12,y13,y14,y15,y16,y17,y18,y19,y20,y21,y22,y23,y24,y25,y26,y27,y28,y29,y30,y31,y32,y33,y34,y35,y36,y37,y38,y39,y40,y41,y42,y43,y44,y45,y46,y47,y48,y49,y50,y51,y52,y53,y54,y55,y56,y57,y58,y59,y60,y61,y62,y63,y64,y65,y66,y67,y68,y69,y70,y71,y72,y73,y74,y75,y76,y77,y78,y79,y80,y81,y82,y83,y84,y85,y86,y87,y88,y89,y90,y91,y92,y93,y94,rfl⟩
def so (A:Option Addr)(c:Nat)(y0 y5 y6 y7 y8 y9 y10 y11 y12 y13 y14 y15 y16 y17 y18 y19 y20 y21 y22 y23 y24 y25 y26 y27 y28 y29 y30 y31 y32 y33 y34 y35 y36 y37 y38 y39 y40 y41 y42 y43 y44 y45 y46 y47 y48 y49 y50 y51 y52 y53 y54 y55 y56 y57 y58 y59 y60 y61 y62 y63 y64 y65 y66 y67 y68 y69 y70 y71 y72 y73 y74 y75 y76 y77 y78 y79 y80 y81 y82 y83 y84 y85 y86 y87 y88 y89 y90 y91 y92 y93 y94:Value)(w:World)(hbest:GrAt w w.heap.size A guardG) :
  zw3.wp uZ (λe a' _=>(e=.normal\/e=.ret)/\e=.ret/\a'.tmps.getD 0 undef=.bool true/\a'.defers=[]) ⟨#[y0,.int .i64 1,.int .i64 0,.slice A 3 c,.int .i64 0,y5,y6,y7,y8,y9,y10,y11,y12,y13,y14,y15,y16,y17,y18,y19,y20,y21,y22,y23,y24,y25,y26,y27,y28,y29,y30,y31,y32,y33,y34,y35,y36,y37,y38,y39,y40,y41,y42,y43,y44,y45,y46,y47,y48,y49,y50,y51,y52,y53,y54,y55,y56,y57,y58,y59,y60,y61,y62,y63,y64,y65,y66,y67,y68,y69,y70,y71,y72,y73,y74,y75,y76,y77,y78,y79,y80,y81,y82,y83,y84,y85,y86,y87,y88,y89,y90,y91,y92,y93,y94],[]⟩ w:=by
 have HB:=ui hbest
 clear hbest
 have ez:zw3=ag (ag (ag wB)):=rfl
 simp only[wB,Tryz.f13,Option.getD_some,ag] at ez
 rw[ez]
 clear ez
 obtain⟨W1,hW1⟩:∃W1:World,W1=w.alloc (.cells #[.int .i64 3,.int .i64 2,.int .i64 4] 3):=⟨_,rfl⟩
 have hg1:Gr w W1:=hW1▸(Gr.refl w).alloc _
 have HN1:RowKit.Hid (RI W1 W1.heap.size (some ⟨w.heap.size,0,none⟩) [3,2,4]):=ui (cd (t:=3) (f:=(0,0)) (by rw[hW1];exact heap_alloc_new w _) (by rw[hW1];simp))
 have HB1:=ui (HB.out.gr (Nat.le_refl _) hg1)
 have HC1:=ui (kL (some ⟨w.heap.size,0,none⟩) 3 [3,2,4] W1)
 have HW1:=ui hW1
 have hz1:=hg1.size
 clear hg1 hW1
 go_wp2_with fail
 rw[<-HW1.out]
 refine HC1.out.mono ?_
 rintro e w2 ⟨hA,rfl,hhs,hg2⟩
 obtain⟨W2,hW2⟩:∃W2:World,W2=((w2.alloc (.cells #[.int .i64 0,.int .i64 1] 3)).alloc (.cells #[.int .i64 1] 3)).alloc (.cells #[.slice (some ⟨w2.heap.size,0,none⟩) 2 2,.slice (some ⟨w2.heap.size+1,0,none⟩) 1 1,.slice none 0 0] 22):=⟨_,rfl⟩
 have hg3:Gr w2 W2:=hW2▸(((Gr.refl w2).alloc _).alloc _).alloc _
 have hz2:W2.heap.size=w2.heap.size+3:=by rw[hW2];simp
 have b0:W2.heap[w2.heap.size]?=some (.cells ([0,1].map (Value.int .i64)).toArray 3 (0,0)):=by
  rw[hW2,heap_alloc_old _ _ (by simp;omega),heap_alloc_old _ _ (by simp)];exact heap_alloc_new _ _
 have b1:W2.heap[w2.heap.size+1]?=some (.cells ([1].map (Value.int .i64)).toArray 3 (0,0)):=by
  rw[hW2,heap_alloc_old _ _ (by simp)];exact aL _ _ (by simp)
 have b2:W2.heap[w2.heap.size+2]?=some (.cells #[.slice (some ⟨w2.heap.size,0,none⟩) 2 2,.slice (some ⟨w2.heap.size+1,0,none⟩) 1 1,.slice none 0 0] 22 (0,0)):=by
  rw[hW2];exact aL _ _ (by simp)
 have hgrid:GrAt W2 W2.heap.size (some ⟨w2.heap.size+2,0,none⟩) [[0,1],[1],[]]:=ud (l0:=[0,1]) (l1:=[1]) (l2:=[]) b2 (by omega) (cd b0 (by omega)) (cd b1 (by omega)) .nil
 have HR:=ui (pq (some ⟨w.heap.size,0,none⟩) hA (some ⟨w2.heap.size+2,0,none⟩) W2 W2.heap.size (Nat.le_refl _) (((HN1.out.gr (Nat.le_refl _) hg2).gr hg2.size hg3).more (by have:=hg2.size;have:=hg3.size;omega)) ((hhs.keep λb o hb=>hg3.cell (p:=⟨b,o,none⟩) hb).more hg3.size) hgrid)
 have HB2:=ui ((HB1.out.gr (by omega) hg2).gr (by have:=hg2.size;omega) hg3)
 have HW2:=ui hW2
 have hzz2:=hg2.size
 clear hhs hg2 hW2 b0 b1 b2 hgrid HC1 hz2
 have ec:campV (some ⟨w.heap.size,0,none⟩) hA (wakeC [3,2,4]) 3 3=.agg #[.slice (some ⟨w.heap.size,0,none⟩) 3 3,.slice hA 3 3]:=rfl
 rw[ec]
 clear ec
 have hz3:=hg3.size
 clear hg3
 go_wp2_with fail
 rw[<-HW2.out]
 refine HR.out.mono ?_
 rintro e w3 ⟨hg3,A5,k5,rfl,hgr5⟩
 have HB3:=ui (HB2.out.gr (by omega) hg3)
 have HG5:=ui hgr5
 have hz4:=hg3.size
 clear hg3 hgr5 HR HN1
 obtain⟨V6,hV6⟩:∃V:World,V=w3.alloc (.cells #[.int .i64 3,.int .i64 2,.int .i64 5] 3):=⟨_,rfl⟩
 have hg6:Gr w3 V6:=hV6▸(Gr.refl w3).alloc _
 have HN6:RowKit.Hid (RI V6 V6.heap.size (some ⟨w3.heap.size,0,none⟩) [3,2,5]):=ui (cd (t:=3) (f:=(0,0)) (by rw[hV6];exact heap_alloc_new w3 _) (by rw[hV6];simp))
 have HC6:=ui (kL (some ⟨w3.heap.size,0,none⟩) 3 [3,2,5] V6)
 have HGR6:=ui hg6
 have HV6:=ui hV6
 have hzV6:=hg6.size
 clear hg6 hV6
 go_wp2_with fail
 rw[<-HV6.out]
 refine HC6.out.mono ?_
 rintro e x6 ⟨hA6,rfl,hhs6,hgx6⟩
 have HX6:=ui (HGR6.out.trans hgx6)
 have HNX6:=ui ((HN6.out.gr (Nat.le_refl _) hgx6).more hgx6.size)
 have HHS6:=ui hhs6
 have hzx6:=hgx6.size
 clear hhs6 hgx6
 have ec:campV (some ⟨w3.heap.size,0,none⟩) hA6 (wakeC [3,2,5]) 3 3=.agg #[.slice (some ⟨w3.heap.size,0,none⟩) 3 3,.slice hA6 3 3]:=rfl
 have HCL:=ui (qK (some ⟨w3.heap.size,0,none⟩) hA6 x6 x6.heap.size (Nat.le_refl _) HNX6.out HHS6.out)
 rw[ec]
 clear ec
 go_wp2_with fail
 refine HCL.out.mono ?_
 rintro e w5 ⟨hg5,A8,k8,rfl,hri8⟩
 have HB5:=ui (HB3.out.gr (by omega) (HX6.out.trans hg5))
 have HG55:=ui (HG5.out.gr (Nat.le_refl _) (HX6.out.trans hg5))
 have HI8:=ui hri8
 have hz5:=(HX6.out.trans hg5).size
 clear hg5 hri8 HCL HN6 HC6 HHS6 HNX6
 obtain⟨V7,hV7⟩:∃V:World,V=w5.alloc (.cells #[.int .i64 3,.int .i64 2,.int .i64 4] 3):=⟨_,rfl⟩
 have hg7:Gr w5 V7:=hV7▸(Gr.refl w5).alloc _
 have HN7:RowKit.Hid (RI V7 V7.heap.size (some ⟨w5.heap.size,0,none⟩) [3,2,4]):=ui (cd (t:=3) (f:=(0,0)) (by rw[hV7];exact heap_alloc_new w5 _) (by rw[hV7];simp))
 have HC7:=ui (kL (some ⟨w5.heap.size,0,none⟩) 3 [3,2,4] V7)
 have HGR7:=ui hg7
 have HV7:=ui hV7
 have hzV7:=hg7.size
 clear hg7 hV7
 go_wp2_with fail
 rw[<-HV7.out]
 refine HC7.out.mono ?_
 rintro e x7 ⟨hA7,rfl,hhs7,hgx7⟩
 have HX7:=ui (HGR7.out.trans hgx7)
 have HNX7:=ui ((HN7.out.gr (Nat.le_refl _) hgx7).more hgx7.size)
 have HHS7:=ui hhs7
 have hzx7:=hgx7.size
 clear hhs7 hgx7
 have ec:campV (some ⟨w5.heap.size,0,none⟩) hA7 (wakeC [3,2,4]) 3 3=.agg #[.slice (some ⟨w5.heap.size,0,none⟩) 3 3,.slice hA7 3 3]:=rfl
 rw[ec]
 clear ec
 have HGU:=ui (jg x7)
 go_wp2_with fail
 refine HGU.out.mono ?_
 rintro e x8 ⟨gA,rfl,hgu,hg8⟩
 obtain⟨V8,hV8⟩:∃V:World,V=x8.alloc (.cells #[.int .i64 2,.int .i64 6] 40):=⟨_,rfl⟩
 have hgv8:Gr x8 V8:=hV8▸(Gr.refl x8).alloc _
 have hrs8:RsAt V8 V8.heap.size (some ⟨x8.heap.size,0,none⟩) [(2,6)]:=ue (t:=40) (f:=(0,0)) (by rw[hV8];exact heap_alloc_new _ _) (by rw[hV8];simp)
 have HBAL:=ui (tt (some ⟨w5.heap.size,0,none⟩) hA7 gA (some ⟨x8.heap.size,0,none⟩) V8 V8.heap.size (Nat.le_refl _) ((HNX7.out.gr (Nat.le_refl _) (hg8.trans hgv8)).more (hg8.trans hgv8).size)
  ((HHS7.out.keep λb o hb=>(hg8.trans hgv8).cell (p:=⟨b,o,none⟩) hb).more (hg8.trans hgv8).size) ((hgu.gr (Nat.le_refl _) hgv8).more hgv8.size) hrs8)
 have HX8:=ui (HX7.out.trans (hg8.trans hgv8))
 have HV8:=ui hV8
 have egl:(guardG.length:Nat)=3:=rfl
 clear hgu hg8 hV8 hgv8 hrs8 HGU
 rw[egl]
 go_wp2_with fail
 rw[<-HV8.out]
 refine HBAL.out.mono ?_
 rintro e w9 ⟨hg9,A10,k10,rfl,hri10⟩
 have hzz9:=(HX8.out.trans hg9).size
 have HB9:=ui (HB5.out.gr (by omega) (HX8.out.trans hg9))
 have HG59:=ui (HG55.out.gr (by omega) (HX8.out.trans hg9))
 have HI89:=ui (HI8.out.gr (Nat.le_refl _) (HX8.out.trans hg9))
 have HI10:=ui hri10
 clear hg9 hri10 HBAL HN7 HC7 HHS7 HNX7
 have HGU11:=ui (jg w9)
 go_wp2_with fail
 refine HGU11.out.mono ?_
 rintro e g11 ⟨gA11,rfl,hgu,hg⟩
 have HS11:=ui (gS A gA11 c 3 guardG guardG g11 g11.heap.size (Nat.le_refl _) ((HB9.out.gr (by omega) hg).more (by have:=hg.size;omega)) hgu (by decide) (by decide) (by decide) (by decide))
 rw[decide_eq_true (rfl:guardG=guardG)] at HS11
 have HQ11:=ui hg
 have hzq11:=hg.size
 clear hgu hg HGU11
 have egl:(guardG.length:Nat)=3:=rfl
 rw[egl]
 rw[egl] at HS11
 clear egl
 go_wp2_with fail
 refine HS11.out.mono ?_
 rintro e s11 ⟨rfl,hg⟩
 have HT11:=ui (HQ11.out.trans hg)
 have hzs11:=(HQ11.out.trans hg).size
 clear hg HS11
 have HGM:=ui (HG59.out.gr (by omega) HT11.out)
 have HIM:=ui (HI89.out.gr (by omega) HT11.out)
 have HIN:=ui (HI10.out.gr (by omega) HT11.out)
 have HGU12:=ui (jg s11)
 go_wp2_with fail
 refine HGU12.out.mono ?_
 rintro e g12 ⟨gA12,rfl,hgu,hg⟩
 have HS12:=ui (gS A5 gA12 k5 3 guardG guardG g12 g12.heap.size (Nat.le_refl _) ((HGM.out.gr (by omega) hg).more (by have:=hg.size;omega)) hgu (by decide) (by decide) (by decide) (by decide))
 rw[decide_eq_true (rfl:guardG=guardG)] at HS12
 have HQ12:=ui hg
 have hzq12:=hg.size
 clear hgu hg HGU12
 have egl:(guardG.length:Nat)=3:=rfl
 rw[egl]
 rw[egl] at HS12
 clear egl
 go_wp2_with fail
 refine HS12.out.mono ?_
 rintro e s12 ⟨rfl,hg⟩
 have HT12:=ui (HQ12.out.trans hg)
 have hzs12:=(HQ12.out.trans hg).size
 clear hg HS12
 obtain⟨V13,hV13⟩:∃V:World,V=s12.alloc (.cells #[.int .i64 1,.int .i64 2] 3):=⟨_,rfl⟩
 have hgv:Gr s12 V13:=hV13▸(Gr.refl s12).alloc _
 have HS13:=ui (dH A8 (some ⟨s12.heap.size,0,none⟩) k8 2 [1,2] [1,2] V13 V13.heap.size (Nat.le_refl _) (((HIM.out.gr (by omega) HT12.out).gr (by omega) hgv).more (by have:=hgv.size;omega)) (cd (t:=3) (f:=(0,0)) (by rw[hV13];exact heap_alloc_new _ _) (by rw[hV13];simp)) (by decide) (by decide))
 rw[decide_eq_true (rfl:([1,2]:List Int)=[1,2])] at HS13
 have HV13:=ui hV13
 have HQ13:=ui hgv
 have hzq13:=hgv.size
 clear hgv hV13
 go_wp2_with fail
 rw[<-HV13.out]
 refine HS13.out.mono ?_
 rintro e s13 ⟨rfl,hg⟩
 have HT13:=ui (HQ13.out.trans hg)
 have hzs13:=(HQ13.out.trans hg).size
 clear hg HS13
 obtain⟨V14,hV14⟩:∃V:World,V=s13.alloc (.cells #[.int .i64 8,.int .i64 0,.int .i64 (-8)] 3):=⟨_,rfl⟩
 have hgv:Gr s13 V14:=hV14▸(Gr.refl s13).alloc _
 have HS14:=ui (dH A10 (some ⟨s13.heap.size,0,none⟩) k10 3 [8,0,-8] [8,0,-8] V14 V14.heap.size (Nat.le_refl _) ((((HIN.out.gr (by omega) HT12.out).gr (by omega) HT13.out).gr (by omega) hgv).more (by have:=hgv.size;omega)) (cd (t:=3) (f:=(0,0)) (by rw[hV14];exact heap_alloc_new _ _) (by rw[hV14];simp)) (by decide) (by decide))
 rw[decide_eq_true (rfl:([8,0,-8]:List Int)=[8,0,-8])] at HS14
 have HV14:=ui hV14
 have HQ14:=ui hgv
 have hzq14:=hgv.size
 clear hgv hV14
 go_wp2_with fail
 rw[<-HV14.out]
 refine HS14.out.mono ?_
 rintro e s14 ⟨rfl,hg⟩
 have HT14:=ui (HQ14.out.trans hg)
 have hzs14:=(HQ14.out.trans hg).size
 clear hg HS14
 go_wp2
end Go.Proofs.YtjmmlkobmhlikaaGreat
namespace Go.Iso
def gj (P:Program)(l C:Code)(N:Act->World->Prop)(a:Act)(w:World):Prop :=
 ∀(b:Frame) (k:List Item) (cs:List Frame),∃a' w',N a' w'/\Steps P (lone (b.at a (.code C::k)) cs w) (lone (b.at a' (.code l::k)) cs w')
def gT {P:Program}{l:Code}{N:Act->World->Prop}{a:Act}{w:World}(h:N a w):gj P l l N a w:=λ_ _ _=>⟨a,w,h,.refl _ _⟩
def iY {P:Program}{l c r:Code}{N:Act->World->Prop}{a:Act}{w:World}(h:c.wp P (Exit.then (gj P l r N) λ_ _ _=>False) a w):gj P l (.seq c r) N a w:=λb k cs=>by
 obtain⟨e,a1,w1,hq,harr⟩:=h b (.code r::k) cs
 cases e with
 |normal =>
  obtain⟨a2,w2,hn,hs⟩:=hq b k cs
  exact⟨a2,w2,hn,.head step_seq (Steps.trans harr hs)⟩
 |_=>exact hq.elim
end Go.Iso
namespace Go.Proofs.YtjmmlkobmhlikaaGreat
open Go.RowKit Go.Iso Go.Co Go.Conc Go.ConcN Go.Sq
section
variable {Q:Goroutine->World->Prop} {b:Frame} {a:Act} {todo:List Item} {cs:List Frame} {w:World} {BB:FuncId->Bool}
def pt (hQ:∀g w W,Same w W->Q g w->Q g W)(hf:BB b.fn=true)(hg:∀o,({ b.at a todo with mode:=.returning }:Frame).oper?=some o->aB Tryz.prog o.op=true)(h:∀τ d,(stepG Tryz.prog true (Go.Conc.G { b.at a todo with mode:=.returning } cs) (on w τ d)).goes (λg' w' _=>g'.callers≠[]/\∃W,Same W w'/\KTr Tryz.prog BB Q 0 g' W)) :
  KTr Tryz.prog BB Q 0 (Go.Conc.G { b.at a todo with mode:=.returning } cs) w:=by
 refine KTr.step ⟨hf,hg⟩ λτ d=>?_
 have:=h τ d
 cases hs:stepG Tryz.prog true (Go.Conc.G { b.at a todo with mode:=.returning } cs) (on w τ d) with
 |go g' w' es =>
  rw[hs] at this
  obtain⟨h1,W,h2,h3⟩:=this
  exact⟨g',w',es,rfl,h1,h3.same hQ h2⟩
 |_=>rw[hs] at this;exact this.elim
end
def tu:codeOk uZ SBy false true zw3=true:=by kernel_rfl
def sr {QT:Goroutine->World->Prop}{C:Frame}{cs:List Frame}(hQT:∀g w W,Same w W->QT g w->QT g W)
  (h:∀(a':Act) (todo:List Item) (w':World),a'.tmps.getD 0 undef=.bool true->a'.defers=[]->(∀o,({ (base 13).at a' todo with mode:=.returning }:Frame).oper?=some o->aB Tryz.prog o.op=true)->KTr Tryz.prog BBm QT 0 (Go.Conc.G { (base 13).at a' todo with mode:=.returning } (C::cs)) w'):iV QT (C::cs):=by
 intro K A c B xs w' U ρ hone ho hU u1 u2 u3 u4 hUK hobj
 obtain⟨y0,y1,y2,y3,y4,y5,y6,y7,y8,y9,y10,y11,y12,y13,y14,y15,y16,y17,y18,y19,y20,y21,y22,y23,y24,y25,y26,y27,y28,y29,y30,y31,y32,y33,y34,y35,y36,y37,y38,y39,y40,y41,y42,y43,y44,y45,y46,y47,y48,y49,y50,y51,y52,y53,y54,y55,y56,y57,y58,y59,y60,y61,y62,y63,y64,y65,y66,y67,y68,y69,y70,y71,y72,y73,y74,y75,y76,y77,y78,y79,y80,y81,y82,y83,y84,y85,y86,y87,y88,y89,y90,y91,y92,y93,y94,rfl⟩:=tU hU
 have u1:y1=.int .i64 1:=u1
 have u2:y2=.int .i64 0:=u2
 have u3:y3=.slice A 3 c:=u3
 have u4:y4=.int .i64 0:=u4
 subst u1 u2 u3 u4
 have hbest:GrAt w' w'.heap.size A guardG:=by
  obtain⟨A',c',hv,hg⟩:=ho.grAt
  have hA:A=A':=by injection hv
  subst hA
  have hl:=qJ
  rw[hone] at hl
  have:aQ ρ 3=guardG:=by simpa using hl
  rw[<-this];exact hg
 have hfr:FrRel uZ SBy uk false (idOn K) ((base 13).at ⟨#[y0,.int .i64 1,.int .i64 0,.slice A 3 c,.int .i64 0,y5,y6,y7,y8,y9,y10,y11,y12,y13,y14,y15,y16,y17,y18,y19,y20,y21,y22,y23,y24,y25,y26,y27,y28,y29,y30,y31,y32,y33,y34,y35,y36,y37,y38,y39,y40,y41,y42,y43,y44,y45,y46,y47,y48,y49,y50,y51,y52,y53,y54,y55,y56,y57,y58,y59,y60,y61,y62,y63,y64,y65,y66,y67,y68,y69,y70,y71,y72,y73,y74,y75,y76,y77,y78,y79,y80,y81,y82,y83,y84,y85,y86,y87,y88,y89,y90,y91,y92,y93,y94],[]⟩ [.code zw3]) ((base 13).at ⟨#[y0,.int .i64 1,.int .i64 0,.slice A 3 c,.int .i64 0,y5,y6,y7,y8,y9,y10,y11,y12,y13,y14,y15,y16,y17,y18,y19,y20,y21,y22,y23,y24,y25,y26,y27,y28,y29,y30,y31,y32,y33,y34,y35,y36,y37,y38,y39,y40,y41,y42,y43,y44,y45,y46,y47,y48,y49,y50,y51,y52,y53,y54,y55,y56,y57,y58,y59,y60,y61,y62,y63,y64,y65,y66,y67,y68,y69,y70,y71,y72,y73,y74,y75,y76,y77,y78,y79,y80,y81,y82,y83,y84,y85,y86,y87,y88,y89,y90,y91,y92,y93,y94],[]⟩ [.code zw3]):=by
  refine⟨rfl,?_,.cons (.code tu) .nil,.nil,.run,rfl,⟨(by show CallKind.normal≠.early;decide),(by show SBy 13=true;decide)⟩,.none⟩
  exact allIn (l:=[y0,.int .i64 1,.int .i64 0,.slice A 3 c,.int .i64 0,y5,y6,y7,y8,y9,y10,y11,y12,y13,y14,y15,y16,y17,y18,y19,y20,y21,y22,y23,y24,y25,y26,y27,y28,y29,y30,y31,y32,y33,y34,y35,y36,y37,y38,y39,y40,y41,y42,y43,y44,y45,y46,y47,y48,y49,y50,y51,y52,y53,y54,y55,y56,y57,y58,y59,y60,y61,y62,y63,y64,y65,y66,y67,y68,y69,y70,y71,y72,y73,y74,y75,y76,y77,y78,y79,y80,y81,y82,y83,y84,y85,y86,y87,y88,y89,y90,y91,y92,y93,y94]) hUK
 have hs:=(du (H:=uk) eU).seg (b:=base 13) (a:=⟨#[y0,.int .i64 1,.int .i64 0,.slice A 3 c,.int .i64 0,y5,y6,y7,y8,y9,y10,y11,y12,y13,y14,y15,y16,y17,y18,y19,y20,y21,y22,y23,y24,y25,y26,y27,y28,y29,y30,y31,y32,y33,y34,y35,y36,y37,y38,y39,y40,y41,y42,y43,y44,y45,y46,y47,y48,y49,y50,y51,y52,y53,y54,y55,y56,y57,y58,y59,y60,y61,y62,y63,y64,y65,y66,y67,y68,y69,y70,y71,y72,y73,y74,y75,y76,y77,y78,y79,y80,y81,y82,y83,y84,y85,y86,y87,y88,y89,y90,y91,y92,y93,y94],[]⟩) (c:=zw3) (k:=[]) (C:=C) (cs:=cs) (Q:=QT) (w:=w') (K0:=K) hfr (λ_ _=>Nat.zero_le _) (Nat.zero_le _) (λb _ hb=>by cases hb) (λb hb=>by cases hb) (λb hb _=>hobj b hb)
  (λs h=>by cases h) (λ_ _ _ _ _ _ _ _ _ _ _ h=>by cases h) (.inr ⟨_,_,uQ,rfl⟩) hQT
  (N:=λe a' _=>e=.ret/\a'.tmps.getD 0 undef=.bool true/\a'.defers=[]) (λτ d=>so A c y0 y5 y6 y7 y8 y9 y10 y11 y12 y13 y14 y15 y16 y17 y18 y19 y20 y21 y22 y23 y24 y25 y26 y27 y28 y29 y30 y31 y32 y33 y34 y35 y36 y37 y38 y39 y40 y41 y42 y43 y44 y45 y46 y47 y48 y49 y50 y51 y52 y53 y54 y55 y56 y57 y58 y59 y60 y61 y62 y63 y64 y65 y66 y67 y68 y69 y70 y71 y72 y73 y74 y75 y76 y77 y78 y79 y80 y81 y82 y83 y84 y85 y86 y87 y88 y89 y90 y91 y92 y93 y94 (on w' τ d) hbest)
  (λa' w' h=>by cases h.1) (λa' w' todo hn hpl=>h a' todo w' hn.2.1 hn.2.2 hpl)
 exact hs
structure LawFr (f:FuncId) where
 fn:Func
 t:Nat
 hf:Tryz.prog.funcs[f]?=some fn
 hres:fn.results=#[.tmp t]
 looked:BBm f=true
 fr:Act->Frame
 N:Act->Prop
 back:∀a,N a->iV (Iso.Left Tryz.prog f λv _=>v=.bool true) (fr a::[bad])
open Go.RowKit Go.Iso Go.Co Go.Conc Go.ConcN Go.Sq
def ew {P:Program}{N K:Nat}{m m1 m2:Machine}{t t1 t2:Trace}(h:runNT P N m t=(.next m1,t1))(k:runNT P K m1 t1=(.next m2,t2)):runNT P (N+K) m t=(.next m2,t2):=by
 rw[ck h];exact k
def end_step {f:FuncId}{fn:Func}{t:Nat}(hf:Tryz.prog.funcs[f]?=some fn)(hres:fn.results=#[.tmp t])(hb:BBm f=true){H:Hid}{β:Bij}{g A:Goroutine}{w:World}(hg:GRel PP SBm H true BBm [] β g A)(hl:Iso.Left Tryz.prog f (λv _=>v=.bool true) g w)(W:World) :
  A.status=.running/\stepG Tryz.prog true A W=.ended (.done (.bool true)) W #[]:=by
 obtain⟨w0,v,fr,hs,rfl,rfl,hfr,hm,hd,hk,fn',hfn,hr⟩:=hl
 have hon:=hg.top.on_of (show BBm fr.fn=true by rw[hfr];exact hb)
 have e0:=hg.status.2
 have e1:=hg.dying.2
 have e2:=hg.offers.2
 have hcs:=hg.callers
 obtain⟨FR,CS2,st,dy,off⟩:=A
 dsimp only at e0 e1 e2 hcs hon
 subst e0 e1 e2
 have ecs:CS2=[]:=by
  cases hcs with
  |base=>rfl
  |cons _ h=>exact absurd rfl h.ne
 subst ecs
 refine⟨rfl,?_⟩
 obtain⟨fn1,tmps,todo,defers,mode,kind,round⟩:=fr
 obtain⟨fn2,tmps2,todo2,defers2,mode2,kind2,round2⟩:=FR
 obtain⟨a1,a2,a3,a4,a5,a6,a7,a8⟩:=hon
 dsimp only[gor] at a1 a2 a3 a4 a5 a6 a7 a8 hm hd hk hfn hr hfr
 subst a1 a6 hm hd hk hfr
 have d2:defers2=[]:=by cases a4;rfl
 have m2:mode2=.returning:=by cases a5;rfl
 subst d2 m2
 rw[hf] at hfn
 cases hfn
 have hv:tmps.getD t undef=.bool true:=by
  have:=results_tmp hres tmps Tryz.prog w0
  rw[hr] at this
  injection this with h1 _
  exact h1.symm
 have hV:=a2.getD t (VRel.undef (SP SBm H) β)
 rw[hv] at hV
 have hV2:tmps2.getD t undef=.bool true:=by
  generalize tmps2.getD t undef=V at hV
  cases hV;rfl
 have hr2:=results_tmp hres tmps2 Tryz.prog W
 rw[hV2] at hr2
 have he2:=events_results_tmp (P:=Tryz.prog) (w:=W) hres tmps2 #[]
 have hne:¬2=fn1:=λe=>by subst e;revert hb;decide
 simp[stepG,unwind,doReturn,hf,hr2,he2,seen,GStep.after,hne]
section
variable {f:FuncId}
def AtWoken (E:LawFr f)(g:Goroutine)(w:World):Prop:=∃a:Act,E.N a/\QW1 (E.fr a::[bad]) g w
def ss (E:LawFr f){A:Goroutine}{W:World}{x:Lone}(ht:Tw PP SBm BBm true 0 (λ_=>False) ⟨λB=>B<W.heap.size,W,0⟩ x A W)(hx:KTr Tryz.prog BBm (AtWoken E) 0 x.g x.w)(hT:x.T=[])(hH:∀b,x.H b=false) :
  ∃N last o w' t',runNT Tryz.prog (N+1) (crowd #[A] W none) #[]=(.ended o w',t')/\runN Tryz.prog N (crowd #[A] W none)=.next last/\step Tryz.prog last=.ended o w' /\
   Go.Conc.Good Tryz.prog (λv w'=>v=.bool true/\(w'.os=W.os/\w'.output=W.output)/\W.heap.size<=w'.heap.size/\∀B,B<W.heap.size->w'.heap[B]?=W.heap[B]?) last o w' t':=by
 have hb:Btw Tryz.prog (λ_=>False) #[A] W #[] (λ_=>0):=by
  refine⟨⟨λi g hi hg=>?_,λj _=>rfl⟩,⟨past_nil.clean,λi a ha=>?_,past_nil.over,past_nil.hears,λop hop=>by simp at hop⟩,λi op x h=>by simp at h,λi op h=>by simp at h,λB h=>h.elim⟩
  ·have:=(Array.getElem?_eq_some_iff.1 hg).1
   simp at this;omega
  ·simp[touchAt,Trace.act?] at ha
 obtain⟨N1,m1,t1,r1,gs1,W1,sl1,q1,x1,A1,rfl,a1,a2,a3,a4,a5,a6,a7,a8,a9,a10⟩:=ktree_beside (P:=PP) (SB:=SBm) (BB:=BBm) (lets:=true) (Gn:=0) (Dead:=λ_=>False) (Kp:=⟨λB=>B<W.heap.size,W,0⟩) lib_m hmf_m (H:=x.H) (T:=x.T) (β:=x.β) (Q:=AtWoken E) (λg w h=>by obtain⟨a,_,h⟩:=h;exact .inl (QW1.fn g w h)) (os:=W.os) (ou:=W) (n:=1) (b0:=x.w.heap.size) (B0:=W.heap.size) _ (crowd #[A] W none) #[]
  ⟨#[A],W,none,λ_=>0,x,A,0,rfl,rfl,rfl,.of hb,ht,hx,rfl,rfl,Bij.le_refl _,⟨rfl,rfl⟩,⟨Nat.le_refl _,Nat.le_refl _,λb B h=>.inl h⟩,rfl⟩
 obtain⟨a,ha,hq1⟩:=a5
 have hH1:∀b,x1.H b=false:=λb=>by rw[a6];exact hH b
 obtain⟨N2,m2,t2,r2,gs2,W2,sl2,q2,A2,Dead2,g2,w2,rfl,b1,b2,b3,b4,b5,b6,b7,b8,b9⟩:=run_count (sl:=sl1) a3.btw a4 a1 hq1 (hcsM _ _) hH1 (by omega)
 obtain⟨N3,m3,t3,r3,gs3,W3,sl3,q3,x3,A3,rfl,c1,c2,c3,c4,c5,c6,c7,c8,c9,c10⟩:=ktree_beside (P:=PP) (SB:=SBm) (BB:=BBm) (lets:=true) (Gn:=0) (Dead:=Dead2) (Kp:=⟨λB=>B<W.heap.size,W,0⟩) lib_m hmf_m (H:=x1.H) (T:=x1.T) (β:=x1.β) (Q:=QW2 (E.fr a::[bad])) (λg w h=>.inl (QW2.fn g w h)) (os:=W2.os) (ou:=W2) (n:=gs2.size) (b0:=w2.heap.size) (B0:=W2.heap.size) _ (crowd gs2 W2 sl2) t2
  ⟨gs2,W2,sl2,q2,⟨g2,w2,x1.H,x1.β,x1.T⟩,A2,0,rfl,b1,rfl,.of b3,b4,b5,rfl,rfl,Bij.le_refl _,⟨rfl,rfl⟩,⟨Nat.le_refl _,Nat.le_refl _,λb B h=>.inl h⟩,rfl⟩
 obtain⟨N4,m4,t4,r4,gs4,W4,sl4,q4,A4,Dead4,g4,w4,rfl,d1,d2,d3,d4,d5,d6,d7,d8,d9⟩:=run_best (sl:=sl3) Iso.Left.same (E.back a ha) c3.btw c4 c1 c5 (hcsM _ _) (λb=>by rw[c6];exact hH1 b) (by omega)
 obtain⟨N5,m5,t5,r5,gs5,W5,sl5,q5,x5,A5,rfl,f1,f2,f3,f4,f5,f6,f7,f8,f9,f10⟩:=ktree_beside (P:=PP) (SB:=SBm) (BB:=BBm) (lets:=true) (Gn:=0) (Dead:=Dead4) (Kp:=⟨λB=>B<W.heap.size,W,0⟩) lib_m hmf_m (H:=x3.H) (T:=x3.T) (β:=x3.β) (Q:=Iso.Left Tryz.prog f λv _=>v=.bool true) (λg w h=>.inr ⟨f,_,h⟩) (os:=W4.os) (ou:=W4) (n:=gs4.size) (b0:=w4.heap.size) (B0:=W4.heap.size) _ (crowd gs4 W4 sl4) t4
  ⟨gs4,W4,sl4,q4,⟨g4,w4,x3.H,x3.β,x3.T⟩,A4,0,rfl,d1,rfl,.of d3,d4,d5,rfl,rfl,Bij.le_refl _,⟨rfl,rfl⟩,⟨Nat.le_refl _,Nat.le_refl _,λb B h=>.inl h⟩,rfl⟩
 have eT:x5.T=[]:=f7.trans (c7.trans (a7.trans hT))
 have hrun:=ew r1 (ew r2 (ew r3 (ew r4 r5)))
 have hgl:=f4.gl
 unfold GLike at hgl
 rw[eT] at hgl
 have hos:W5.os=W.os/\W5.output=W.output:=⟨f9.1.trans (d7.1.trans (c9.1.trans (b7.1.trans a9.1))),f9.2.trans (d7.2.trans (c9.2.trans (b7.2.trans a9.2)))⟩
 have hsz:W.heap.size<=W5.heap.size:=by have:=f10.1;have:=c10.1;have:=a10.1;omega
 obtain⟨M,last,o,w',t',e1,e2,e3,e4⟩:=beside_ends (P:=Tryz.prog) (Shun:=DeadL Dead4) (B:=W5.heap.size) (D:=λ_ _ _=>False) (Post:=λv w'=>v=.bool true/\(w'.os=W.os/\w'.output=W.output)/\W.heap.size<=w'.heap.size/\∀B,B<W.heap.size->w'.heap[B]?=W.heap[B]?) (λ_ _ _ h=>h.elim) (gs:=gs5) (a:=A5) (w:=W5) (sl:=sl5) (t:=t5) (q:=q5) (n:=0) f1 f3.btw.lv f3.btw.past (λw1 hw1=>by
  obtain⟨d,rfl⟩:=hw1
  obtain⟨s1,s2⟩:=end_step E.hf E.hres E.looked hgl f5 (W5.at d)
  exact⟨s1,.bool true,#[],s2,λe he=>by simp at he,rfl,hos,hsz,λB hB=>(f4.keep B hB).2⟩)
 refine⟨N1+(N2+(N3+(N4+N5)))+M,last,o,w',t',?_,?_,e3,e4⟩
 ·exact(ck hrun).trans e1
 ·have h1:=congrArg Prod.fst (ck (K:=M) hrun)
  rw[runNT_fst,runNT_fst] at h1
  exact h1.trans e2
end
end Go.Proofs.YtjmmlkobmhlikaaGreat
namespace Go.Iso
def kZ:∀(n:Nat) (V:Value),SizeOf.sizeOf V<=n->∃v,(∀(S:Par) (β:Bij),S.hid.bl=true->VRel S β v V)/\∀(S:Par) (β:Bij),VRel S β v v:=by
 intro n
 induction n with
 |zero=>intro V h;cases V<;>simp at h
 |succ n ih =>
  intro V h
  have un:lS V=true->∃v,(∀(S:Par) (β:Bij),S.hid.bl=true->VRel S β v V)/\∀(S:Par) (β:Bij),VRel S β v v:=λhb=>⟨hole,λS β h=>.blank (.inr h) hb,λS β=>.blank (.inl rfl) rfl⟩
  cases V with
  |agg X =>
   have hx:∀i:_root_.Fin X.size,∃v,(∀(S:Par) (β:Bij),S.hid.bl=true->VRel S β v X[i])/\∀(S:Par) (β:Bij),VRel S β v v:=λi=>ih _ (by
    have:=Array.sizeOf_getElem X i.1 i.2
    simp at h
    simp only[Fin.getElem_fin]
    omega)
   refine⟨.agg (Array.ofFn λi=>Classical.choose (hx i)),λS β hb=>.agg (by simp) λi v V h1 h2=>?_,λS β=>.agg rfl λi v V h1 h2=>?_⟩
   ·obtain⟨hi,rfl⟩:=Array.getElem?_eq_some_iff.1 h2
    obtain⟨_,rfl⟩:=Array.getElem?_eq_some_iff.1 h1
    rw[Array.getElem_ofFn]
    exact(Classical.choose_spec (hx ⟨i,hi⟩)).1 S β hb
   ·rw[h1] at h2;cases h2
    obtain⟨hi,rfl⟩:=Array.getElem?_eq_some_iff.1 h1
    rw[Array.getElem_ofFn]
    exact(Classical.choose_spec (hx _)).2 S β
  |tuple X =>
   have hx:∀i:_root_.Fin X.size,∃v,(∀(S:Par) (β:Bij),S.hid.bl=true->VRel S β v X[i])/\∀(S:Par) (β:Bij),VRel S β v v:=λi=>ih _ (by
    have:=Array.sizeOf_getElem X i.1 i.2
    simp at h
    simp only[Fin.getElem_fin]
    omega)
   refine⟨.tuple (Array.ofFn λi=>Classical.choose (hx i)),λS β hb=>.tuple (by simp) λi v V h1 h2=>?_,λS β=>.tuple rfl λi v V h1 h2=>?_⟩
   ·obtain⟨hi,rfl⟩:=Array.getElem?_eq_some_iff.1 h2
    obtain⟨_,rfl⟩:=Array.getElem?_eq_some_iff.1 h1
    rw[Array.getElem_ofFn]
    exact(Classical.choose_spec (hx ⟨i,hi⟩)).1 S β hb
   ·rw[h1] at h2;cases h2
    obtain⟨hi,rfl⟩:=Array.getElem?_eq_some_iff.1 h1
    rw[Array.getElem_ofFn]
    exact(Classical.choose_spec (hx _)).2 S β
  |pointer a=>cases a with
   |none=>exact⟨.pointer none,λ_ _ _=>.nilp,λ_ _=>.nilp⟩
   |some a=>exact un rfl
  |bool b=>exact⟨.bool b,λ_ _ _=>.bool b,λ_ _=>.bool b⟩
  |int k n=>exact⟨.int k n,λ_ _ _=>.int k n,λ_ _=>.int k n⟩
  |string s=>exact⟨.string s,λ_ _ _=>.string s,λ_ _=>.string s⟩
  |nilIface=>exact⟨.nilIface,λ_ _ _=>.nilIface,λ_ _=>.nilIface⟩
  |nilFunc=>exact⟨.nilFunc,λ_ _ _=>.nilFunc,λ_ _=>.nilFunc⟩
  |func f x c=>cases f with
   |method n=>exact⟨hm,λ_ _ h=>.blankM (.inr h),λ_ _=>.blankM (.inl rfl)⟩
   |_=>exact un rfl
  |_=>exact un rfl
noncomputable def eX (V:Value):Value:=Classical.choose (kZ (SizeOf.sizeOf V) V (Nat.le_refl _))
def gV (V:Value):(∀(S:Par) (β:Bij),S.hid.bl=true->VRel S β (eX V) V)/\∀(S:Par) (β:Bij),VRel S β (eX V) (eX V):=Classical.choose_spec (kZ (SizeOf.sizeOf V) V (Nat.le_refl _))
noncomputable def bU (k:Nat->Bool)(C:Array Value):Array Value:=C.mapIdx λi V=>if k i then V else eX V
def gm (k:Nat->Bool)(C:Array Value):(bU k C).size=C.size:=by simp[bU]
def eJ (k:Nat->Bool)(C:Array Value)(i:Nat):(bU k C)[i]?=(C[i]?).map λV=>if k i then V else eX V:=by simp[bU]
def jV {k:Nat->Bool}{C:Array Value}{i:Nat}(h:k i=true):(bU k C)[i]?=C[i]?:=by
 rw[eJ];simp[h]
def lI {S:Par}{β:Bij}{k:Nat->Bool}{C:Array Value}(hb:S.hid.bl=true)(h:∀i v,k i=true->C[i]?=some v->VRel S β v v):AsRel S β (bU k C) C:=by
 refine⟨gm _ _,λi v V h1 h2=>?_⟩
 rw[eJ,h2] at h1
 simp only[Option.map_some,Option.some.injEq] at h1
 subst h1
 split
 ·exact h i V ‹_› h2
 ·exact(gV V).1 S β hb
def lb {S:Par}{β:Bij}{k:Nat->Bool}{C:Array Value}(h:∀i v,k i=true->C[i]?=some v->VRel S β v v):AsRel S β (bU k C) (bU k C):=by
 refine⟨rfl,λi v V h1 h2=>?_⟩
 rw[h1] at h2;cases h2
 rw[eJ] at h1
 cases hC:C[i]? with
 |none=>rw[hC] at h1;cases h1
 |some V =>
  rw[hC] at h1
  simp only[Option.map_some,Option.some.injEq] at h1
  subst h1
  split
  ·exact h i V ‹_› hC
  ·exact(gV V).2 S β
noncomputable def gF (k:Nat->Bool):Obj->Obj
 |.cells C t f=>.cells (bU k C) t (0,max C.size f.2)
 |o=>o
noncomputable def ba (K:Nat->Bool)(k:Nat->Nat->Bool)(W:World):World:={ W with heap:=W.heap.mapIdx λb o=>if K b then gF (k b) o else o }
section
variable {K:Nat->Bool} {k:Nat->Nat->Bool} {W:World}
def lJ:(ba K k W).heap.size=W.heap.size:=by simp[ba]
def iZ (b:Nat):(ba K k W).heap[b]?=(W.heap[b]?).map λo=>if K b then gF (k b) o else o:=by simp[ba]
def dZ {b:Nat}(hb:K b=true){C:Array Value}{t:TypeId}{f:Nat×Nat}(h:W.heap[b]?=some (.cells C t f)):(ba K k W).heap[b]?=some (.cells (bU (k b) C) t (0,max C.size f.2)):=by
 rw[iZ,h];simp[hb,gF]
def lK {b o:Nat}(h:K b=true->k b o=true):(ba K k W).cell? ⟨b,o,none⟩=W.cell? ⟨b,o,none⟩:=by
 unfold World.cell?
 dsimp only
 rw[iZ]
 cases hb:K b with
 |false=>cases W.heap[b]?<;>simp
 |true =>
  cases hW:W.heap[b]? with
  |none=>rfl
  |some o' =>
   cases o' with
   |cells C t f=>simp[gF,jV (h hb)]
   |_=>rfl
def pu {b:Nat}(hb:K b=true){C:Array Value}{t:TypeId}{f:Nat×Nat}(h:W.heap[b]?=some (.cells C t f)):Ro (ba K k W) b :=
 ⟨_,_,_,dZ hb h,λi hi=>by
  rw[gm] at hi
  exact⟨Nat.zero_le _,Nat.lt_of_lt_of_le hi (Nat.le_max_left _ _)⟩⟩
def Shuts (S:Par)(K:Nat->Bool)(k:Nat->Nat->Bool)(W:World):Prop:=∀b,K b=true->∃C t f,W.heap[b]?=some (.cells C t f)/\∀i v,k b i=true->C[i]?=some v->VRel S (idOn λb=>K b=true) v v
def lL {S:Par}{Ck:Code->Prop}(hb:S.hid.bl=true)(hh:∀b,S.hid b=false)(h:Shuts S K k W):WRel S Ck 0 (idOn λb=>K b=true) (ba K k W) W:=by
 refine⟨⟨λh1 h2=>h1.2.symm.trans h2.2,λh1 h2=>h1.2.trans h2.2.symm,λ_=>⟨Nat.zero_le _,Nat.zero_le _⟩⟩,⟨Nat.zero_le _,Nat.zero_le _⟩,λb B hB _=>?_,λb B _ h=>?_,λb h=>?_,rfl⟩
 ·obtain⟨hk,rfl⟩:=hB
  obtain⟨C,t,f,h1,h2⟩:=h b hk
  exact⟨_,_,dZ hk h1,h1,.cells (lI hb h2) λi _ hi=>⟨Nat.zero_le _,Nat.lt_of_lt_of_le hi (Nat.le_max_right _ _)⟩⟩
 ·rw[hh] at h;cases h
 ·rw[hh] at h;cases h
def shadow_objs {S:Par}{Ck:Code->Prop}(h:Shuts S K k W):∀b,K b=true->∃o,(ba K k W).heap[b]?=some o/\ORel S Ck (idOn λb=>K b=true) o o:=λb hk=>by
 obtain⟨C,t,f,h1,h2⟩:=h b hk
 exact⟨_,dZ hk h1,.cells (lb h2) λi h1 h2=>⟨h1,h2⟩⟩
end
def Hid.nb:Hid:=⟨λ_=>false,false,true⟩
end Go.Iso
namespace Go.Proofs.YtjmmlkobmhlikaaGreat
open Go.RowKit Go.Iso Go.Co Go.Conc Go.ConcN Go.Sq
end Go.Proofs.YtjmmlkobmhlikaaGreat
namespace Go.Iso
def aM (P:Program)(tgt:List Item)(C:Code)(N:Act->World->Prop)(a:Act)(w:World):Prop :=
 ∀(b:Frame) (k:List Item) (cs:List Frame),∃a' w',N a' w'/\Steps P (lone (b.at a (.code C::k)) cs w) (lone (b.at a' (tgt++k)) cs w')
section
variable {P:Program} {tgt:List Item} {C c r:Code} {N:Act->World->Prop} {a:Act} {w:World}
def lM (h:c.wp P (Exit.then (aM P tgt r N) λ_ _ _=>False) a w):aM P tgt (.seq c r) N a w:=λb k cs=>by
 obtain⟨e,a1,w1,hq,harr⟩:=h b (.code r::k) cs
 cases e with
 |normal =>
  obtain⟨a2,w2,hn,hs⟩:=hq b k cs
  exact⟨a2,w2,hn,.head step_seq (Steps.trans harr hs)⟩
 |_=>exact hq.elim
def av (h:∀K:Act->World->Prop,(∀a w,aM P tgt r N a w->K a w)->c.wp P (Exit.then K λ_ _ _=>False) a w):aM P tgt (.seq c r) N a w :=
 lM (h _ λ_ _ h=>h)
def dm (h:aM P tgt c N a w):aM P (tgt++[.code r]) (.seq c r) N a w:=λb k cs=>by
 obtain⟨a',w',hn,hs⟩:=h b (.code r::k) cs
 exact⟨a',w',hn,.head step_seq (by simpa using hs)⟩
def steps_op {ops:Array Oper}{N K:Act->World->Prop}{i:Nat}{a:Act}{w:World}(h:wpOp P ops (Exit.then N λ_ _ _=>False) i K a w)(b:Frame)(l2:List Nat)(k:List Item)(cs:List Frame) :
  ∃a' w',K a' w'/\Steps P (lone (b.at a (.inRegion ops (i::l2)::k)) cs w) (lone (b.at a' (.inRegion ops l2::k)) cs w'):=by
 simp only[wpOp] at h
 cases ho:ops[i]? with
 |none =>
  simp only[ho] at h
  have hst:=step_op_skip (P:=P) (b:=b) (a:=a) (k:=k) (cs:=cs) (w:=w) (ops:=ops) (i:=i) (rest:=l2) (by simp[ho])
  simp only[ho,Option.bind_none,Act.put] at hst
  exact⟨a,w,h,.head hst (.refl _ _)⟩
 |some o =>
  simp only[ho] at h
  have hfin:∀v,(b.at a (.inRegion ops (i::l2)::k)).finish v=b.at (a.put o.dst v) (.inRegion ops l2::k):=λv=>by
   rw[Frame.finish_at,ho];rfl
  by_cases hw:Region.wanted o (yielded ops a.tmps)=true
  ·simp only[hw,if_true] at h
   rcases h with h|⟨_,a0,w0,hq⟩
   case inr=>exact hq.elim
   have hg:=stepG_op (P:=P) (b:=b) (k:=k) (cs:=cs) (w:=w) (rest:=l2) ho hw
   simp only[Oper.wp,Oper.upon] at h
   split at h
   ·rename_i v w' hr
    exact⟨_,_,h,.head (step_lone_go (by rw[hg,<-hfin];simp[stepG.apply,hr])) (.refl _ _)⟩
   ·rename_i w' hr
    exact⟨_,_,h,.head (step_lone_go (by rw[hg,<-hfin];simp[stepG.apply,hr])) (.refl _ _)⟩
   ·rename_i d w' hr
    have hd:({ b.at a (.inRegion ops (i::l2)::k) with defers:=d::a.defers }:Frame).finish undef=b.at ({ a with defers:=d::a.defers }.put o.dst undef) (.inRegion ops l2::k):=by
     have:=Frame.finish_at b { a with defers:=d::a.defers } ops i l2 k undef
     rw[ho] at this;exact this
    refine⟨_,_,h,.head (step_lone_go ?_) (.refl _ _)⟩
    rw[hg]
    simp only[stepG.apply,Sem.runT_eq,hr,GStep.bare_after]
    exact congrArg (λfr=>GStep.go { frame:=fr,callers:=cs,status:=.running,dying:=none } w') hd
   ·rename_i f args w' hr
    obtain⟨e,w2,fr,hR,hst,_,hlv⟩:=h (b.at a (.inRegion ops (i::l2)::k)::cs)
    have hen:step P (lone (b.at a (.inRegion ops (i::l2)::k)) cs w)=.next (lone (Frame.enter P f args .normal) (b.at a (.inRegion ops (i::l2)::k)::cs) w') :=
     step_lone_go (by rw[hg];simp[stepG.apply,hr,Frame.at])
    cases e with
    |returned v =>
     refine⟨_,_,hR,.head hen (hst.trans (.head ?_ (.refl _ _)))⟩
     rw[<-hfin];exact step_leave_returned hlv
    |panicked chain=>exact hR.elim
    |outgrown =>
     obtain⟨a0,w0,hq⟩:=hR
     exact hq.elim
   ·rename_i row args w' hr
    obtain⟨v,w2,hR,hst⟩:=h (b.at a (.inRegion ops (i::l2)::k)) cs
    have hen:step P (lone (b.at a (.inRegion ops (i::l2)::k)) cs w)=.next (lone (Frame.ofRow P row args .normal) (b.at a (.inRegion ops (i::l2)::k)::cs) w') :=
     step_lone_go (by rw[hg];simp[stepG.apply,hr,Frame.at])
    refine⟨_,_,hR,.head hen (Steps.trans ?_ (.refl _ _))⟩
    rw[<-hfin];exact hst
   ·exact h.elim
   ·exact h.elim
  ·simp only[hw,if_false,Bool.false_eq_true] at h
   have hst:=step_op_skip (P:=P) (b:=b) (a:=a) (k:=k) (cs:=cs) (w:=w) (ops:=ops) (i:=i) (rest:=l2) (by simp[ho];simpa using hw)
   simp only[ho,Option.bind_some] at hst
   exact⟨_,_,h,.head hst (.refl _ _)⟩
def steps_ops {ops:Array Oper}{K:Act->World->Prop}(l2:List Nat)(l:List Nat):∀(a:Act) (w:World),wpOps P ops (Exit.then K λ_ _ _=>False) l a w->∀(b:Frame) (k:List Item) (cs:List Frame),
  ∃a' w',K a' w'/\Steps P (lone (b.at a (.inRegion ops (l++l2)::k)) cs w) (lone (b.at a' (.inRegion ops l2::k)) cs w'):=by
 induction l with
 |nil=>exact λa w h b k cs=>⟨a,w,h,.refl _ _⟩
 |cons i rest ih =>
  intro a w h b k cs
  rw[wpOps_cons] at h
  obtain⟨a1,w1,h1,h2⟩:=steps_op h b (rest++l2) k cs
  obtain⟨a2,w2,h3,h4⟩:=ih a1 w1 h1 b k cs
  exact⟨a2,w2,h3,h2.trans h4⟩
def nE {ops:Array Oper}{Q:Exit->Act->World->Prop}(l:List Oper):∀k,(∀j,j<l.length->l[j]?=ops[k+j]?)->wpOps P ops Q (List.range' k l.length)=wpList P ops Q l:=by
 induction l with
 |nil=>intro k _;funext a w;simp[wpOps,wpList]
 |cons o l ih =>
  intro k h
  have h0:ops[k]?=some o:=by simpa using(h 0 (by simp)).symm
  have ih':=ih (k+1) λj hj=>by have:=h (j+1) (by simpa using hj);simpa [Nat.add_assoc,Nat.add_comm 1 j] using this
  funext a w
  simp only[List.length_cons,List.range'_succ,wpOps,h0,wpList,ih']
def eY {id:Nat}{ops:Array Oper}{l:List Oper}{l2:List Nat}(hl:∀j,j<l.length->l[j]?=ops[j]?)(h2:List.range ops.size=List.range' 0 l.length++l2)(h:wpList P ops (Exit.then N λ_ _ _=>False) l a w):aM P [.inRegion ops l2] (.region id ops false) N a w:=λb k cs=>by
 rw[<-nE l 0 (λj hj=>by rw[Nat.zero_add];exact hl j hj)] at h
 obtain⟨a',w',hq,hs⟩:=steps_ops l2 _ a w h b k cs
 exact⟨a',w',hq,.head step_region (by rw[h2];exact hs)⟩
end
section
variable {P:Program} {SB:FuncId->Bool} {H:Hid} {G:Nat}
def AtItems (b:Frame)(tgt:List Item)(cs:List Frame)(N:Act->World->Prop)(g:Goroutine)(w:World):Prop :=
 ∃a' w0,Same w0 w/\N a' w0/\g=gor (b.at a' tgt) cs
def AtItems.same {b:Frame}{tgt:List Item}{cs:List Frame}{N:Act->World->Prop}(g:Goroutine)(w W:World)(h:Same w W)(q:AtItems b tgt cs N g w):AtItems b tgt cs N g W:=by
 obtain⟨a',w0,h1,h2⟩:=q
 exact⟨a',w0,h1.trans h,h2⟩
def runs_of_goesToI (L:Lib (Two.of P) SB H false SB G){b:Frame}{a:Act}{tgt:List Item}{C:Code}{k:List Item}{cs:List Frame}{w:World}{N:Act->World->Prop}(hne:cs≠[])(hs:Self P SB H G (gor (b.at a (.code C::k)) cs) w)
  (h:∀τ d,aM P tgt C N a (on w τ d)):Runs P (Self P SB H G) (AtItems b (tgt++k) cs N) (gor (b.at a (.code C::k)) cs) w:=by
 refine dT L AtItems.same ⟨hs,λτ d=>?_⟩
 obtain⟨a',w',hn,n,hr⟩:=h τ d b k cs
 exact cy L (hs.same uj) hr hne ⟨a',w',⟨rfl,rfl,rfl⟩,hn,rfl⟩
end
section
variable {P:Two} {SB0 BC BB:FuncId->Bool} {H:Hid} {G:Nat} {Q:Goroutine->World->Prop}
def BothK.segToI (B:BothK P SB0 BC BB H G){b:Frame}{a:Act}{tgt:List Item}{c:Code}{k:List Item}{C:Frame}{cs:List Frame}{K0:Nat->Prop}{w:World}
  (hfr:FrRel P.a SB0 H false (idOn K0) (b.at a (.code c::k)) (b.at a (.code c::k)))
  (hlo:∀b,K0 b->G<=b) (hroom:G<=w.heap.size) (hhid:∀b,K0 b->H b=true->H.twin=true/\w.heap[b]?=some (.coro none)) (hold:∀b,H b=true->b<w.heap.size) (hobj:∀b,K0 b->H b=false->∃o,w.heap[b]?=some o/\ORel (SP SB0 H) (CK P.a SB0 false) (idOn K0) o o)
  (hk:∀c t,tgt++k≠.code c::t) (hbl:BC b.fn=true\/∃fn s,P.a.funcs[b.fn]?=some fn/\fn.body=some (.refuse s)) (hQ:∀g w W,Same w W->Q g w->Q g W) {N:Act->World->Prop}
  (hc:∀τ d,aM P.a tgt c N a (on w τ d))
  (h1:∀a' w',N a' w'->KTr P.b BB Q 0 (gor (b.at a' (tgt++k)) (C::cs)) w') :
  KTr P.b BB Q 0 (gor (b.at a (.code c::k)) (C::cs)) w:=by
 have h0:=B.run (Qa:=AtItems b (tgt++k) [bad] N) AtItems.same (λg w f' hl hf' hlk e=>by
  obtain⟨a',w0,_,_,rfl⟩:=hl
  have e3:b.fn=f':=e
  rcases hbl with h|⟨fn,s,r1,r2⟩
  ·rw[e3,hf'] at h;cases h
  ·obtain⟨x,y,fn2,r,o1,o2,s2,fn3,hp,_⟩:=hlk
   have:=hp.func
   rw[<-e3,r1] at this
   cases this
   have:=hp.text
   rw[r2] at this
   cases this) (C:=C) (cs:=cs) (.on hfr) (.on hfr) hlo hroom hhid hold hobj λhs=>runs_of_goesToI (N:=N) (tgt:=tgt) B.la (by simp) hs hc
 refine h0.bind λg2 w' hq=>?_
 obtain⟨g',w0,β',q1,q2,q3,q4,q5⟩:=hq
 have hon:FrRel P.a SB0 H false β' g'.frame g2.frame:=by
  have htop:=q4.top
  obtain⟨a',wl,l1,l2,l3⟩:=q1
  generalize hf:g'.frame=fr at htop ⊢
  generalize g2.frame=FR at htop ⊢
  cases htop with
  |on h=>exact h
  |@stop f A A' kd s1 s2 s3 s4 =>
   exfalso
   rcases B.ref f s1 s2 with⟨fn,s,r1,r2⟩|⟨x,y,fn,r,o1,o2,s,fn3,hp,_⟩
   ·subst l3
    have:=congrArg Frame.todo hf
    simp only[Go.Iso.gor,Frame.enter,r1,Frame.at] at this
    exact hk _ _ this
   ·subst l3
    have:=congrArg Frame.todo hf
    simp only[Go.Iso.gor,Frame.enter,hp.func,Frame.at] at this
    exact hk _ _ this
 have eF:g'.frame=g2.frame:=FrRel.id (P:=Two.of P.a) q3 hon
 have e2:g2=gor g2.frame g2.callers:=by
  obtain⟨x1,x2,x3,x4,x5⟩:=g2
  obtain⟨_,_,⟨_,s1⟩,⟨_,d1⟩,⟨_,o1⟩⟩:=q4
  dsimp only at *
  subst s1 d1 o1
  rfl
 obtain⟨a',wl,l1,l2,l3⟩:=q1
 have ecs:g2.callers=C::cs:=by
  have:=q4.callers
  rw[show g'.callers=[bad] by rw[l3];rfl] at this
  generalize g2.callers=X at this
  cases this with
  |base=>rfl
  |cons _ h=>exact absurd rfl h.ne
 rw[e2,ecs,<-eF,l3]
 exact(h1 a' wl l2).same hQ (l1.trans q2)
end
end Go.Iso
namespace Go.Proofs.YtjmmlkobmhlikaaGreat
open Go.RowKit Go.Iso Go.Co Go.Conc Go.ConcN Go.Sq
inductive Pures (ops:Array Oper):List Nat->Act->Act->Prop
 |nil (a:Act):Pures ops [] a a
 |cons {i:Nat} {rest:List Nat} {a a':Act} {o:Oper} {v:Value}:ops[i]?=some o->Region.wanted o (yielded ops a.tmps)=true->aB Tryz.prog o.op=true->(∀w,(execOp a.eval o).run Tryz.prog w=.ok (.value v) w)->Pures ops rest (a.put o.dst v) a'->Pures ops (i::rest) a a'
def pv {Q:Goroutine->World->Prop}(hQ:∀g w W,Same w W->Q g w->Q g W){b:Frame}(hB:BBm b.fn=true)(hk:b.kind≠.early){ops:Array Oper}{k:List Item}{C:Frame}{cs:List Frame}{w:World}{rest:List Nat}{a a':Act}(h:Pures ops rest a a')
  (he:KTr Tryz.prog BBm Q 0 (Go.Conc.G (b.at a' (.inRegion ops []::k)) (C::cs)) w):KTr Tryz.prog BBm Q 0 (Go.Conc.G (b.at a (.inRegion ops rest::k)) (C::cs)) w:=by
 induction h with
 |nil a=>exact he
 |@cons i rest a a' o v ho hw pl hv _ ih =>
  have hn:dU Tryz.prog (.inRegion ops (i::rest)::k)=true:=by
   show(match ops[i]? with|some o=>aB Tryz.prog o.op|none=>true)=true
   rw[ho];exact pl
  refine aa hQ hB hn λτ d=>?_
  rw[stepG_value ho hw hk (hv _)]
  simp only[goes_go]
  exact⟨hcsM _ _,w,uj,ih he⟩
structure LawIn (f:FuncId)(ops:Array Oper)(i:Nat)(rest:List Nat)(more:List Item) where
 fn:Func
 o:Oper
 d:Nat
 t:Nat
 n:Nat
 N:Act->Prop
 hf:Tryz.prog.funcs[f]?=some fn
 ho:ops[i]?=some o
 hdst:o.dst=some d
 hop:∃ts,o.op=.call { callee:=.value (.func 13),args:=#[],argTypes:=ts }
 plain:aB Tryz.prog o.op=true
 hres:fn.results=#[.tmp t]
 looked:BBm f=true
 hn:fn.ntmps=n
 want:∀a,N a->Region.wanted o (yielded ops a.tmps)=true
 hd0:∀a,N a->a.defers=[]
 pure:∀a,N a->∃a',Pures ops rest (a.put (some d) (.bool true)) a'/\a'.defers=[]/\a'.tmps.getD t undef=.bool true
section
variable {f:FuncId} {ops:Array Oper} {i:Nat} {rest:List Nat} {more:List Item}
def LawIn.tgt (_:LawIn f ops i rest more):List Item:=.inRegion ops (i::rest)::.code .ret::more
def LawIn.fr (E:LawIn f ops i rest more)(a:Act):Frame:=(base f).at a E.tgt
def LawIn.go (E:LawIn f ops i rest more){a:Act}(ha:E.N a){cs:List Frame}(hcs:cs≠[]){w:World}:KTr Tryz.prog BBm (QW1 (E.fr a::cs)) 0 (Go.Conc.G ((base f).at a E.tgt) cs) w:=by
 have hQ:∀g w W,Same w W->QW1 (E.fr a::cs) g w->QW1 (E.fr a::cs) g W:=QW1.same
 have hB:BBm (base f).fn=true:=E.looked
 obtain⟨ts,g3⟩:=E.hop
 have hn:dU Tryz.prog E.tgt=true:=by
  show(match ops[i]? with|some o=>aB Tryz.prog o.op|none=>true)=true
  rw[E.ho];exact E.plain
 refine aa hQ hB hn λτ d=>?_
 refine ay (o:=E.o) E.ho (E.want a ha) (by show CallKind.normal≠.early;decide) g3 Tryz.func13 (by kernel_rfl) (by kernel_rfl) ⟨hcsM _ _,w,uj,?_⟩
 have em:(#[]:Array Operand).map a.eval=#[]:=by simp
 rw[em]
 exact rY (cs:=E.fr a::cs) (hcsM _ _) w
def LawIn.back (E:LawIn f ops i rest more){a:Act}(ha:E.N a):iV (Iso.Left Tryz.prog f λv _=>v=.bool true) (E.fr a::[bad]):=by
 have hQ:∀g w W,Same w W->Iso.Left Tryz.prog f (λv _=>v=.bool true) g w->Iso.Left Tryz.prog f (λv _=>v=.bool true) g W:=Iso.Left.same
 have hB:BBm (base f).fn=true:=E.looked
 refine sr hQ λa' todo w' hv hds hpl=>?_
 refine pt hQ (by show BBm 13=true;decide) hpl λτ dd=>?_
 refine goes_leave1 (b:=base 13) (b₀:=base f) (a₀:=a) (ops:=ops) (i:=i) (rest:=rest) (k:=.code .ret::more) rfl hds Tryz.func13 rfl ⟨hcsM _ _,w',uj,?_⟩
 rw[hv]
 have e1:(ops[i]?.bind (·.dst))=some E.d:=by rw[E.ho];exact E.hdst
 rw[e1]
 obtain⟨a2,hp,hd2,hev2⟩:=E.pure a ha
 refine pv hQ hB (by show CallKind.normal≠.early;decide) hp ?_
 refine aa hQ hB rfl λτ dd=>?_
 rw[stepG_region_end]
 simp only[goes_go]
 refine⟨hcsM _ _,w',uj,?_⟩
 refine aa hQ hB rfl λτ dd=>?_
 rw[stepG_ret']
 simp only[goes_go]
 refine⟨hcsM _ _,w',uj,.fin ?_⟩
 refine⟨w',.bool true,_,⟨rfl,rfl,rfl⟩,rfl,rfl,rfl,rfl,hd2,rfl,E.fn,E.hf,?_⟩
 have:=results_tmp E.hres a2.tmps Tryz.prog w'
 rw[hev2] at this
 exact this
noncomputable def LawIn.toFr (E:LawIn f ops i rest more):LawFr f where
 fn:=E.fn
 t:=E.t
 hf:=E.hf
 hres:=E.hres
 looked:=E.looked
 fr:=E.fr
 N:=E.N
 back _ h:=E.back h
variable {K:Nat->Bool} {k:Nat->Nat->Bool} {W:World} {args:Array Value}
def nF (E:LawIn f ops i rest more){C:Code}(hbody:E.fn.body=some C)(hput:(f != 13&&sqPut f)=true)(hsb:SBy f=true)(hcode:codeOk uZ SBy false true C=true)(hsh:∀S,Shuts S K k W)(hargs:∀S,AsRel S (idOn λb=>K b=true) args args)
  (hgo:∀τ d,aM uZ E.tgt C (λa _=>E.N a) ⟨args++Array.replicate (E.n-args.size) undef,[]⟩ (on (ba K k W) τ d)) :
  KTr Tryz.prog BBm (AtWoken E.toFr) 0 (Go.Conc.G (Frame.enter Tryz.prog f args .normal) [bad]) (ba K k W):=by
 have hQ:∀g w W,Same w W->AtWoken E.toFr g w->AtWoken E.toFr g W:=λg w W s ⟨a,h1,h3⟩=>⟨a,h1,QW1.same g w W s h3⟩
 rw[enter_at _ E.hf hbody,E.hn]
 have hfr:FrRel uZ SBy uk false (idOn λb=>K b=true) ((base f).at ⟨args++Array.replicate (E.n-args.size) undef,[]⟩ [.code C]) ((base f).at ⟨args++Array.replicate (E.n-args.size) undef,[]⟩ [.code C]) :=
  ⟨rfl,(hargs _).append (.replicate (.undef _ _) _),.cons (.code hcode) .nil,.nil,.run,rfl,⟨(by show CallKind.normal≠.early;decide),hsb⟩,.none⟩
 refine(du (H:=uk) eU).segToI (b:=base f) (a:=⟨args++Array.replicate (E.n-args.size) undef,[]⟩) (tgt:=E.tgt) (c:=C) (k:=[]) (C:=bad) (cs:=[]) (Q:=AtWoken E.toFr) (w:=ba K k W) (K0:=λb=>K b=true) hfr (λ_ _=>Nat.zero_le _) (Nat.zero_le _) (λb _ hb=>by cases hb) (λb hb=>by cases hb) (λb hb _=>shadow_objs (hsh _) b hb)
  (λc t h=>by simp[LawIn.tgt] at h) (.inr ⟨_,_,Sq.put E.hf hput,rfl⟩) hQ (N:=λa _=>E.N a) hgo (λa' w' hn=>?_)
 rw[List.append_nil]
 exact(E.go hn (hcsM _ _)).mono λg w h=>⟨a',hn,h⟩
def lN (E:LawIn f ops i rest more){C:Code}(hbody:E.fn.body=some C)(hput:(f != 13&&sqPut f)=true)(hsb:SBy f=true)(hsm:SBm f=true)(hcode:codeOk uZ SBy false true C=true)(hsh:∀S,Shuts S K k W)(hargs:∀S,AsRel S (idOn λb=>K b=true) args args)
  (hgo:∀τ d,aM uZ E.tgt C (λa _=>E.N a) ⟨args++Array.replicate (E.n-args.size) undef,[]⟩ (on (ba K k W) τ d)) :
  ∃M last o w' t',runNT Tryz.prog (M+1) (solo (Go.Conc.G (Frame.enter Tryz.prog f args .normal) []) W) #[]=(.ended o w',t')/\runN Tryz.prog M (solo (Go.Conc.G (Frame.enter Tryz.prog f args .normal) []) W)=.next last/\step Tryz.prog last=.ended o w' /\
   Go.Conc.Good Tryz.prog (λv w'=>v=.bool true/\(w'.os=W.os/\w'.output=W.output)/\W.heap.size<=w'.heap.size/\∀B,B<W.heap.size->w'.heap[B]?=W.heap[B]?) last o w' t' :=
 ss E.toFr (A:=Go.Conc.G (Frame.enter Tryz.prog f args .normal) []) (W:=W) (x:=⟨Go.Conc.G (Frame.enter Tryz.prog f args .normal) [bad],ba K k W,Hid.nb,idOn λb=>K b=true,[]⟩)
  ⟨⟨enter_rel (P:=PP) (lib_m _) (.inl hsm) (hargs _) .normal (by decide),.base,⟨rfl,rfl⟩,⟨rfl,rfl⟩,⟨rfl,rfl⟩⟩,lL rfl (λ_=>rfl) (hsh _),rfl,λ_ _ _ h=>h.elim,λB hB=>⟨hB,rfl⟩,λb B hb _=>by
   obtain⟨hk,rfl⟩:=hb
   obtain⟨C,t,f,h1,_⟩:=hsh (SP SBm Hid.nb) b hk
   exact .inr (pu hk h1)⟩ (nF E hbody hput hsb hcode hsh hargs hgo) rfl λ_=>rfl
end
end Go.Proofs.YtjmmlkobmhlikaaGreat
