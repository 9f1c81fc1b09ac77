/- Parts of the proof. -/
import Derived.Test.YtgphobammhoniaaGreatP26
import Derived.Test.YtgphobammhoniaaGreatP21
import Derived.Test.YtgphobammhoniaaGreatP25
import Derived.Test.YtgphobammhoniaaGreatP24
set_option linter.all false
set_option maxHeartbeats 6400000
set_option maxRecDepth 1000000
namespace Go.Sq
open Go.RowKit
def RI.cell' {w:World}{B:Nat}{ad:Addr}{l:List Int}(h:RI w B (some ad) l)(hB:B<=w.heap.size):∀j u,(l.map (Value.int .i64))[j]?=some u->w.cell? (ad.add j)=some u/\(ad.add j).block<w.heap.size:=λj u hj=>by
 rw[List.getElem?_map] at hj
 cases hx:l[j]? with
 |none=>rw[hx] at hj;cases hj
 |some x =>
  rw[hx] at hj
  obtain⟨b,o,e,hb,hc⟩:=h (λe=>by rw[e] at hx;simp at hx)
  obtain rfl:ad=⟨b,o,none⟩:=by injection e
  have e2:(⟨b,o,none⟩:Addr).add j=⟨b,o+j,none⟩:=Addr.add_lit _ _ _
  rw[e2]
  exact⟨by rw[hc j x hx];exact hj,by show b<_;omega⟩
def fH (l:List (Int×Int)):(ao l).length=l.length*2:=by
 induction l with
 |nil=>rfl
 |cons p l ih=>simp only[ao,List.length_cons,ih];omega
def lossCells_get {l:List (Int×Int)}{j:Nat}{u:Value}(h:(ao l)[j]?=some u):∃i x,l[i]?=some x/\((j=i*2/\u=.int .i64 x.1)\/(j=i*2+1/\u=.int .i64 x.2)):=by
 have hj:j<l.length*2:=by rw[<-fH];exact(List.getElem?_eq_some_iff.1 h).1
 have hi:j / 2<l.length:=by omega
 obtain⟨h1,h2⟩:=lossCells_at hi
 rw[List.getElem?_eq_getElem hi,Option.getD_some] at h1 h2
 refine⟨j / 2,l[j / 2],List.getElem?_eq_getElem hi,?_⟩
 rcases Nat.mod_two_eq_zero_or_one j with e|e
 ·have e2:j / 2*2=j:=by omega
  rw[e2,h] at h1
  exact .inl ⟨e2.symm,Option.some.inj h1⟩
 ·have e2:j / 2*2+1=j:=by omega
  rw[e2,h] at h2
  exact .inr ⟨e2.symm,Option.some.inj h2⟩
def RsAt.cell' {w:World}{B:Nat}{ad:Addr}{l:List (Int×Int)}(h:RsAt w B (some ad) l)(hB:B<=w.heap.size):∀j u,(ao l)[j]?=some u->w.cell? (ad.add j)=some u/\(ad.add j).block<w.heap.size:=λj u hj=>by
 obtain⟨i,x,hx,hu⟩:=lossCells_get hj
 obtain⟨b,o,e,hb,hc⟩:=h (λe=>by rw[e] at hx;simp at hx)
 obtain rfl:ad=⟨b,o,none⟩:=by injection e
 have e2:(⟨b,o,none⟩:Addr).add j=⟨b,o+j,none⟩:=Addr.add_lit _ _ _
 obtain⟨h1,h2⟩:=hc i x hx
 rw[e2]
 rcases hu with⟨rfl,rfl⟩|⟨rfl,rfl⟩
 ·exact⟨h1,by show b<_;omega⟩
 ·exact⟨by rw[<-Nat.add_assoc];exact h2,by show b<_;omega⟩
end Go.Sq
namespace Go.Proofs.YtgphobammhoniaaGreat
open Go.RowKit Go.Sq
def nV (A:Option Addr)(c:Nat)(l:List Int)(w:World)(B:Nat)(h:RI w B A l)(hB:B<=w.heap.size)(hl:l.length<=1048576) :
  Calls ve 22 #[.slice A l.length c] w λe w'=>∃v,e=.returned v/\w'.ownsRow w.heap.size 3 1 v l.length (l.map (Value.int .i64))/\Gr w w':=by
 obtain⟨i0,hi,hz0,hz1,hz2⟩:=info_parts uC
 have HR:=uq h
 clear h
 cases A with
 |none =>
  have hl0:l=[]:=by
   cases l with
   |nil=>rfl
   |cons x l=>obtain⟨_,_,e,_⟩:=HR.out (by simp);cases e
  subst hl0
  go_enter Sq.func22,Tryz.ntmps22
  go_wp2
  go_ret
  exact⟨_,rfl,World.ownsRow_made w #[] 0 (Nat.le_refl _) (Nat.zero_le _) rfl,(Gr.refl w).alloc _⟩
 |some ad =>
  have HC:=uq (HR.out.cell' hB)
  go_enter Sq.func22,Tryz.ntmps22
  go_wp2_with (at_builtin;refine wpList_append_gr rfl _ _ 22 rfl w.heap.size 3 i0 (.int .i64 0) 1 8 Sq.underlying22 hi hz0 hz1 hz2 rfl (by decide) _ _ _ rfl (World.ownsRow_made w #[] 0 (Nat.le_refl _) (Nat.zero_le _) rfl) ad l.length c (l.map (Value.int .i64)) rfl ?qc1 ?qc2 ?qc3 ?qc4 ?qc5 ?qc6 ?_)
  case qc1=>simp
  case qc2=>intro j u hj;exact(World.cell?_of_block (Below.heap_alloc _ _ _ (HC.out j u hj).2)).trans (HC.out j u hj).1
  case qc3=>intro u hu;obtain⟨x,_,rfl⟩:=List.mem_map.1 hu;rfl
  case qc4=>unfold maxLen;omega
  case qc5=>omega
  case qc6=>simp
  intro v' w1 hown hgrow hd
  have hG:=uq (((Gr.refl w).alloc _).grown hgrow hd (by intro k hk;simp[Value.ownBlock] at hk;omega))
  have hO:=uq hown
  clear hown hgrow hd
  go_wp2
  go_ret
  exact⟨v',rfl,by simpa using hO.out,hG.out⟩
def lO (A:Option Addr)(c:Nat)(l:List (Int×Int))(w:World)(B:Nat)(h:RsAt w B A l)(hB:B<=w.heap.size)(hl:l.length<=1048576) :
  Calls ve 11 #[.slice A l.length c] w λe w'=>∃v,e=.returned v/\w'.ownsRow w.heap.size 43 2 v l.length (ao l)/\Gr w w':=by
 obtain⟨i0,hi,hz0,hz1,hz2⟩:=info_parts uP
 have HR:=uq h
 clear h
 cases A with
 |none =>
  have hl0:l=[]:=by
   cases l with
   |nil=>rfl
   |cons x l=>obtain⟨_,_,e,_⟩:=HR.out (by simp);cases e
  subst hl0
  go_enter Sq.func11,Tryz.ntmps11
  go_wp2
  go_ret
  exact⟨_,rfl,World.ownsRow_made w #[] 0 (Nat.le_refl _) (Nat.zero_le _) rfl,(Gr.refl w).alloc _⟩
 |some ad =>
  have HC:=uq (HR.out.cell' hB)
  go_enter Sq.func11,Tryz.ntmps11
  go_wp2_with (at_builtin;refine wpList_append_gr rfl _ _ 31 rfl w.heap.size 43 i0 _ 2 16 ((Sq.underlying 31).trans Tryz.underlying31) hi hz0 hz1 hz2 rfl (by decide) _ _ _ rfl (World.ownsRow_made w #[] 0 (Nat.le_refl _) (Nat.zero_le _) rfl) ad l.length c (ao l) rfl ?qc1 ?qc2 ?qc3 ?qc4 ?qc5 ?qc6 ?_)
  case qc1=>exact fH _
  case qc2=>intro j u hj;exact(World.cell?_of_block (Below.heap_alloc _ _ _ (HC.out j u hj).2)).trans (HC.out j u hj).1
  case qc3=>intro u hu;obtain⟨j,hj,rfl⟩:=List.getElem_of_mem hu;obtain⟨_,_,_,h|h⟩:=lossCells_get (List.getElem?_eq_getElem hj)<;>rw[h.2]<;>rfl
  case qc4=>unfold maxLen;omega
  case qc5=>omega
  case qc6=>simp
  intro v' w1 hown hgrow hd
  have hG:=uq (((Gr.refl w).alloc _).grown hgrow hd (by intro k hk;simp[Value.ownBlock] at hk;omega))
  have hO:=uq hown
  clear hown hgrow hd
  go_wp2
  go_ret
  exact⟨v',rfl,by simpa using hO.out,hG.out⟩
def nW (A:Option Addr)(c:Nat)(ls:List (List Int))(w:World)(h:GrAt w w.heap.size A ls)(hl:ls.length<=1048576)(hl2:∀x∈ls,x.length<=1048576) :
  Calls ve 12 #[.slice A ls.length c] w λe w'=>∃v xs,e=.returned v/\OwnGrid w' w.heap.size v ls xs/\Gr w w':=by
 have HG:=uq h
 have HL2:=uq hl2
 clear h hl2
 go_enter Sq.func12,Tryz.ntmps12
 go_wp2
 go_loopw [3,4] (λv i wr=>∃k:Nat,k<=ls.length/\i=.int .i64 k/\∃xs,OwnGrid wr w.heap.size v (ls.take k) xs/\Gr w wr) (λ_ i _=>ls.length-(intOf i).toNat)
 case atStart=>exact⟨0,by omega,rfl,[],OwnGrid.nil _ _,.refl _⟩
 case round =>
  obtain⟨k,hk,rfl,xs,hog,hgr⟩:=hrel
  have HO:=uq hog
  have HGR:=uq hgr
  by_cases hlt:k<ls.length
  ·obtain⟨b,o,A',c',rfl,hb,hc,hri⟩:=(HG.out.gr (Nat.le_refl _) hgr).at_ hlt
   have hrl:=HL2.out _ (show ls[k]?.getD []∈ls by rw[List.getElem?_eq_getElem hlt];exact List.getElem_mem hlt)
   have HTK:Hid (ls.take (k+1)=ls.take k++[ls[k]?.getD []]):=uq (by rw[List.take_add_one,List.getElem?_eq_getElem hlt];rfl)
   have hTL:(ls.take k).length=k:=by rw[List.length_take];omega
   generalize ls[k]?.getD []=row at hc hri hrl HTK
   have HCI:=uq (nV A' c' row wr w.heap.size hri (by have:=hgr.size;omega) hrl)
   have hz:=hgr.size
   clear hog hgr hri
   go_wp2_with fail
   refine HCI.out.mono ?_
   rintro e w2 ⟨v2,rfl,hown2,hg2⟩
   obtain⟨A2,c2,rfl,_⟩:=uv hown2
   have HO2:=uq (HO.out.keep' (w':=w2) λb _ hb=>hg2.below.block b hb)
   have HOW:=uq (own_base hown2 hz)
   have HG2:=uq (HGR.out.trans hg2)
   have hrow:=HO2.out.row
   rw[hTL] at hrow
   have HROW:=uq hrow
   clear hown2 hg2 HCI
   go_wp2_with (at_builtin;refine nC rfl _ _ rfl w.heap.size _ _ _ rfl (hrow.alloc _) ⟨w2.heap.size,0,none⟩ 1 (.slice A2 row.length c2) rfl ?c1 rfl ?c2 ?c3 ?_)
   case c1=>rw[Addr.add_lit,World.cell?_alloc_at _ _ _ _ (by simp)];rfl
   case c2=>omega
   case c3=>have:=HG2.out.size;simp;omega
   intro v' w3 hown' hgrow hd
   have HG3:=uq ((HG2.out.alloc _).grown hgrow hd λq hq=>(HROW.out.lt q hq).1)
   have HO3:=uq (HO2.out.push (l:=row) HOW.out (λb hb'=>heap_alloc_old _ _ hb') (by simp) hgrow hTL.symm hown')
   clear hown' hgrow hd hrow
   go_wp2
   go_roundw
   case rel=>exact⟨k+1,by omega,by go_num,_,by rw[HTK.out];exact HO3.out,HG3.out⟩
   case measure=>simp[intOf];omega
  ·have hkn:k=ls.length:=by omega
   subst hkn
   rw[List.take_length] at hog
   have HF:=uq hog
   clear hog hgr HO
   go_wp2
   go_ret
   exact⟨_,xs,rfl,HF.out,HGR.out⟩
open Go.RowKit Go.Sq
open Go.Iso (gq iW gS)
noncomputable def aq:Code:=Tryz.f3.body.getD .skip
noncomputable def aX (n:Nat):Code:=cFst (cDrop n aq)
noncomputable def fj:Code:=cDrop 14 aq
def pP:aq=.seq (aX 0) (.seq (aX 1) (.seq (aX 2) (.seq (aX 3) (.seq (aX 4) (.seq (aX 5) (.seq (aX 6) (.seq (aX 7) (.seq (aX 8) (.seq (aX 9) (.seq (aX 10) (.seq (aX 11) (.seq (aX 12) (.seq (aX 13) (fj)))))))))))))):=rfl
def qW {nA hA gA lA:Option Addr}{cb nc hc lk:Nat}{c:Camp}{ls:List (List Int)}{LL:List Int}{w:World}{K:Act->World->Prop}{u1 u3 u5 u6 u7 u8 u10 u11 u12 u13 u14 u15 u16 u17 u18 u19 u20 u21 u22 u23 u24 u25 u26 u27 u28 u29 u30 u31 u32 u33 u34 u35 u36 u37 u38 u39 u40 u41 u42 u43 u44 u45 u46 u47 u48 u49 u50 u51 u52 u53 u54 u55 u56 u57 u58 u59 u60 u61 u62 u63 u64 u65 u66 u67 u68 u69 u70 u71 u72 u73 u74 u75 u76 u77 u78 u79 u80 u81 u82 u83 u84 u85 u86 u87 u88 u89 u90 u91 u92 u93 u94 u95 u96 u97 u98 u99 u100 u101 u102 u103 u104 u105 u106 u107 u108 u109 u110 u111 u112 u113 u114 u115 u116 u117 u118 u119 u120 u121 u122 u123 u124 u125 u126 u127 u128 u129 u130 u131 u132 u133 u134 u135 u136 u137 u138 u139 u140 u141 u142 u143 u144 u145 u146 u147 u148 u149 u150 u151 u152 u153 u154 u155 u156 u157 u158 u159 u160 u161 u162 u163 u164 u165 u166 u167 u168 u169 u170 u171 u172 u173 u174 u175 u176 u177 u178 u179 u180 u181 u182 u183 u184 u185 u186 u187 x0 x2:Value}(HM:Made c nA hA gA cb nc hc ls w)(HL:RI w w.heap.size lA LL)(HLL:LL.length=c.herders.length)(hm4:c.herders.length<=4)
  (HB:∀i,i<c.herders.length->0<=LL[i]?.getD 0/\LL[i]?.getD 0<=(c.h i).heads)
  (hK:∀w',Gr w w'->∀y2 y11 y70 y71 y72 y73 y74 y75 y76 y77 y78 y79 y80 y81 y82 y83 y84 y85 y86 y87 y88 y89 y90 y91 y92 y93:Value,K ⟨#[x0,u1,y2,u3,.pointer (some ⟨cb,0,none⟩),u5,u6,u7,u8,.slice lA c.herders.length lk,u10,y11,u12,u13,u14,u15,u16,u17,u18,u19,u20,u21,u22,u23,u24,u25,u26,u27,u28,u29,u30,u31,u32,u33,u34,u35,u36,u37,u38,u39,u40,u41,u42,u43,u44,u45,u46,u47,u48,u49,u50,u51,u52,u53,u54,u55,u56,u57,u58,u59,u60,u61,u62,u63,u64,u65,u66,u67,u68,u69,y70,y71,y72,y73,y74,y75,y76,y77,y78,y79,y80,y81,y82,y83,y84,y85,y86,y87,y88,y89,y90,y91,y92,y93,u94,u95,u96,u97,u98,u99,u100,u101,u102,u103,u104,u105,u106,u107,u108,u109,u110,u111,u112,u113,u114,u115,u116,u117,u118,u119,u120,u121,u122,u123,u124,u125,u126,u127,u128,u129,u130,u131,u132,u133,u134,u135,u136,u137,u138,u139,u140,u141,u142,u143,u144,u145,u146,u147,u148,u149,u150,u151,u152,u153,u154,u155,u156,u157,u158,u159,u160,u161,u162,u163,u164,u165,u166,u167,u168,u169,u170,u171,u172,u173,u174,u175,u176,u177,u178,u179,u180,u181,u182,u183,u184,u185,u186,u187],[]⟩ w') :
  (aX 8).wp ve (Exit.then K λ_ _ _=>False) ⟨#[x0,u1,x2,u3,.pointer (some ⟨cb,0,none⟩),u5,u6,u7,u8,.slice lA c.herders.length lk,u10,u11,u12,u13,u14,u15,u16,u17,u18,u19,u20,u21,u22,u23,u24,u25,u26,u27,u28,u29,u30,u31,u32,u33,u34,u35,u36,u37,u38,u39,u40,u41,u42,u43,u44,u45,u46,u47,u48,u49,u50,u51,u52,u53,u54,u55,u56,u57,u58,u59,u60,u61,u62,u63,u64,u65,u66,u67,u68,u69,u70,u71,u72,u73,u74,u75,u76,u77,u78,u79,u80,u81,u82,u83,u84,u85,u86,u87,u88,u89,u90,u91,u92,u93,u94,u95,u96,u97,u98,u99,u100,u101,u102,u103,u104,u105,u106,u107,u108,u109,u110,u111,u112,u113,u114,u115,u116,u117,u118,u119,u120,u121,u122,u123,u124,u125,u126,u127,u128,u129,u130,u131,u132,u133,u134,u135,u136,u137,u138,u139,u140,u141,u142,u143,u144,u145,u146,u147,u148,u149,u150,u151,u152,u153,u154,u155,u156,u157,u158,u159,u160,u161,u162,u163,u164,u165,u166,u167,u168,u169,u170,u171,u172,u173,u174,u175,u176,u177,u178,u179,u180,u181,u182,u183,u184,u185,u186,u187],[]⟩ w:=by
 replace HM:=uq HM
 replace HL:=uq HL
 replace HLL:=uq HLL
 replace HB:=uq HB
 have ez:aX 8=cFst (cDrop 8 aq):=rfl
 simp only[cDrop,aq,Tryz.f3,Option.getD_some,cSnd,cFst] at ez
 rw[ez]
 clear ez
 go_wp2
 go_loopw [11] (λi wr=>∃k:Nat,k<=c.herders.length/\i=.int .i64 k/\Gr w wr) (λi _=>c.herders.length-(intOf i).toNat)
 case atStart=>exact⟨0,by omega,rfl,.refl _⟩
 case round =>
  obtain⟨k,hk,rfl,hgr⟩:=hrel
  have HGR:=uq hgr
  by_cases hlt:k<c.herders.length
  ·have hmr:=HM.out.gr hgr
   obtain⟨b,o,rfl,hb,h0,_⟩:=hmr.herds.at_ hlt
   obtain⟨b2,o2,rfl,hb2,h2⟩:=((HL.out.gr (Nat.le_refl _) hgr).more hgr.size).at_ (k:=k) (by rw[HLL.out];exact hlt)
   have hbd:=HB.out k hlt
   have hcb:=hmr.lt
   have hc1:=hmr.c1
   generalize LL[k]?.getD 0=x at h2 hbd
   generalize (c.h k).heads=z at h0 hbd
   have hd1:decide (x<0)=false:=by simp;omega
   have hd2:decide (x > z)=false:=by simp;omega
   clear hgr hmr
   go_wp2
   go_quiet (fail)
   go_wp2
   go_roundw
   case rel=>exact⟨k+1,by omega,by go_num,HGR.out.drewN _⟩
   case measure=>simp[intOf];omega
  ·have hkn:k=c.herders.length:=by omega
   go_wp2
   exact HGR.out
structure MoreW (w0:World)(hb B:Nat)(A:Option Addr)(cap:Nat)(l:List Int)(M base g gc:Nat)(rs:List (Int×Int))(w:World):Prop where
 hand:Hand w hb B A cap l M
 kt:KT (λb=>b=hb\/b=g) w0 w
 more:∃rs':List (Int×Int),rs'.length=rs.length/\(∀i:Nat,(rs[i]?.getD (0,0)).1=(rs'[i]?.getD (0,0)).1/\(rs[i]?.getD (0,0)).2<=(rs'[i]?.getD (0,0)).2/\(rs'[i]?.getD (0,0)).2<=60)/\w.ownsRow base 43 2 (.slice (some ⟨g,0,none⟩) rs.length gc) rs.length (ao rs')
def jX {l:List (Int×Int)}{k:Nat}(hk:k<l.length)(y:Int):(ao l).set (k*2+1) (.int .i64 y)=ao (l.set k ((l[k]?.getD (0,0)).1,y)):=by
 induction l generalizing k with
 |nil=>simp at hk
 |cons p l ih =>
  cases k with
  |zero=>rfl
  |succ k =>
   have:=ih (k:=k) (by simpa using hk)
   rw[Nat.succ_mul]
   simp only[ao,List.set_cons_succ,List.getElem?_cons_succ]
   rw[this]
def nX {w0:World}{hb B:Nat}{A:Option Addr}{cap:Nat}{l:List Int}{M base g gc:Nat}{rs:List (Int×Int)}{w:World}(h:MoreW w0 hb B A cap l M base g gc rs w)(n:Nat):MoreW w0 hb B A cap l M base g gc rs (w.drewN n):=by
 obtain⟨rs',h1,h2,h3⟩:=h.more
 exact⟨h.hand.gr ((Gr.refl w).drewN n),⟨h.kt.os,h.kt.tape,h.kt.output,Nat.le_trans h.kt.drawn (Nat.le_add_right _ _),h.kt.size,h.kt.block⟩,rs',h1,h2,aE h3 λ_ _ _=>rfl⟩
def nY {w0:World}{hb B:Nat}{A:Option Addr}{cap:Nat}{l:List Int}{M M' base g gc:Nat}{rs:List (Int×Int)}{w:World}(h:MoreW w0 hb B A cap l M base g gc rs w)(hm:M<=M'):MoreW w0 hb B A cap l M' base g gc rs w:=⟨h.hand.more hm,h.kt,h.more⟩
def qX {A rA aA:Option Addr}{hb B cap rc ak g gc M base:Nat}{l:List Int}{rs:List (Int×Int)}{T:List Int}{w:World}{K:Act->World->Prop}{u1 u4 u5 u8 u9 u10 u11 u13 u14 u15 u16 u17 u18 u19 u20 u21 u22 u23 u24 u25 u26 u27 u28 u29 u30 u31 u32 u33 u34 u35 u36 u37 u38 u39 u40 u41 u42 u43 u44 u45 u46 u47 u48 u49 u50 u51 u52 u53 u54 u55 u56 u57 u58 u59 u60 u61 u62 u63 u64 u65 u66 u67 u68 u69 u70 u71 u72 u73 u74 u75 u76 u77 u78 u79 u80 u81 u82 u83 u84 u85 u86 u87 u88 u89 u90 u91 u92 u93 u94 u95 u96 u97 u98 u99 u100 u101 u102 u103 u104 u105 u106 u107 u108 u109 u110 u111 u112 u113 u114 u115 u116 u117 u118 u119 u120 u121 u122 u123 u124 u125 u126 u127 u128 u129 u130 u131 u132 u133 u134 u135 u136 u137 u138 u139 u140 u141 u142 u143 u144 u145 u146 u147 u148 u149 u150 u151 u152 u153 u154 u155 u156 u157 u158 u159 u160 u161 u162 u163 u164 u165 u166 u167 u168 u169 u170 u171 u172 u173 u174 u175 u176 u177 u178 u179 u180 u181 u182 u183 u184 u185 u186 u187 x0 x2:Value}(HH:Hand w hb B A cap l M)(hM:M<=100000)(HO:w.ownsRow base 43 2 (.slice (some ⟨g,0,none⟩) rs.length gc) rs.length (ao rs))(hbg:hb<base)
  (HR:RsK w (λb=>b≠hb/\b≠g/\b<w.heap.size) rA rs) (HT:RIK w (λb=>b≠hb/\b≠g/\b<w.heap.size) aA T) (HTL:T.length=rs.length) (hr5:rs.length<=5) (HRI:∀q∈rs,0<=q.2/\q.2<=60) (HTB:∀i,i<rs.length->0<=T[i]?.getD 0/\T[i]?.getD 0<=(rs[i]?.getD (0,0)).2)
  (hK:∀w',MoreW w hb B A cap l (M+5) base g gc rs w'->∀y2 y14 y98 y99 y100 y101 y102 y103 y104 y105 y106 y107 y108 y109 y110 y111 y112 y113 y114 y115 y116 y117 y118 y119 y120 y121 y122 y123 y124 y125 y126 y127 y128 y129 y130 y131:Value,K ⟨#[x0,u1,y2,.pointer (some ⟨hb,0,none⟩),u4,u5,.slice rA rs.length rc,.slice aA rs.length ak,u8,u9,u10,u11,.slice (some ⟨g,0,none⟩) rs.length gc,u13,y14,u15,u16,u17,u18,u19,u20,u21,u22,u23,u24,u25,u26,u27,u28,u29,u30,u31,u32,u33,u34,u35,u36,u37,u38,u39,u40,u41,u42,u43,u44,u45,u46,u47,u48,u49,u50,u51,u52,u53,u54,u55,u56,u57,u58,u59,u60,u61,u62,u63,u64,u65,u66,u67,u68,u69,u70,u71,u72,u73,u74,u75,u76,u77,u78,u79,u80,u81,u82,u83,u84,u85,u86,u87,u88,u89,u90,u91,u92,u93,u94,u95,u96,u97,y98,y99,y100,y101,y102,y103,y104,y105,y106,y107,y108,y109,y110,y111,y112,y113,y114,y115,y116,y117,y118,y119,y120,y121,y122,y123,y124,y125,y126,y127,y128,y129,y130,y131,u132,u133,u134,u135,u136,u137,u138,u139,u140,u141,u142,u143,u144,u145,u146,u147,u148,u149,u150,u151,u152,u153,u154,u155,u156,u157,u158,u159,u160,u161,u162,u163,u164,u165,u166,u167,u168,u169,u170,u171,u172,u173,u174,u175,u176,u177,u178,u179,u180,u181,u182,u183,u184,u185,u186,u187],[]⟩ w') :
  (aX 10).wp ve (Exit.then K λ_ _ _=>False) ⟨#[x0,u1,x2,.pointer (some ⟨hb,0,none⟩),u4,u5,.slice rA rs.length rc,.slice aA rs.length ak,u8,u9,u10,u11,.slice (some ⟨g,0,none⟩) rs.length gc,u13,u14,u15,u16,u17,u18,u19,u20,u21,u22,u23,u24,u25,u26,u27,u28,u29,u30,u31,u32,u33,u34,u35,u36,u37,u38,u39,u40,u41,u42,u43,u44,u45,u46,u47,u48,u49,u50,u51,u52,u53,u54,u55,u56,u57,u58,u59,u60,u61,u62,u63,u64,u65,u66,u67,u68,u69,u70,u71,u72,u73,u74,u75,u76,u77,u78,u79,u80,u81,u82,u83,u84,u85,u86,u87,u88,u89,u90,u91,u92,u93,u94,u95,u96,u97,u98,u99,u100,u101,u102,u103,u104,u105,u106,u107,u108,u109,u110,u111,u112,u113,u114,u115,u116,u117,u118,u119,u120,u121,u122,u123,u124,u125,u126,u127,u128,u129,u130,u131,u132,u133,u134,u135,u136,u137,u138,u139,u140,u141,u142,u143,u144,u145,u146,u147,u148,u149,u150,u151,u152,u153,u154,u155,u156,u157,u158,u159,u160,u161,u162,u163,u164,u165,u166,u167,u168,u169,u170,u171,u172,u173,u174,u175,u176,u177,u178,u179,u180,u181,u182,u183,u184,u185,u186,u187],[]⟩ w:=by
 have hgb:base<=g/\g<w.heap.size:=HO.lt g rfl
 have hlt:=HH.lt
 replace HH:=uq HH
 replace HO:=uq HO
 replace HR:=uq HR
 replace HT:=uq HT
 replace HTL:=uq HTL
 replace HRI:=uq HRI
 replace HTB:=uq HTB
 have ez:aX 10=cFst (cDrop 10 aq):=rfl
 simp only[cDrop,aq,Tryz.f3,Option.getD_some,cSnd,cFst] at ez
 rw[ez]
 clear ez
 go_wp2
 go_loopw [14] (λi wr=>∃k:Nat,k<=rs.length/\i=.int .i64 k/\MoreW w hb B A cap l (M+k) base g gc rs wr) (λi _=>rs.length-(intOf i).toNat)
 case atStart=>exact⟨0,by omega,rfl,HH.out,KT.refl _ _,rs,rfl,λi=>⟨rfl,Int.le_refl _,by
  by_cases h:i<rs.length
  ·have:=HRI.out _ (List.getElem_mem h)
   rw[List.getElem?_eq_getElem h];exact this.2
  ·rw[List.getElem?_eq_none (by omega)];decide⟩,HO.out⟩
 case round =>
  obtain⟨k,hk,rfl,hmw⟩:=hrel
  have HMW:=uq hmw
  clear hmw
  by_cases hlk:k<rs.length
  ·obtain⟨b,o,rfl,hbK,hcl⟩:=HR.out (λe=>by rw[e] at hlk;simp at hlk)
   obtain⟨_,h2⟩:=hcl k _ (List.getElem?_eq_getElem hlk)
   obtain⟨b2,o2,rfl,hb2K,hcl2⟩:=HT.out (λe=>by have:=HTL.out;rw[e] at this;simp at this;omega)
   have h3:=hcl2 k _ (List.getElem?_eq_getElem (by rw[HTL.out];exact hlk))
   have hx:=HRI.out _ (List.getElem_mem hlk)
   have htb:=HTB.out k hlk
   rw[List.getElem?_eq_getElem hlk,List.getElem?_eq_getElem (by rw[HTL.out];exact hlk),Option.getD_some,Option.getD_some] at htb
   have HXE:Hid (rs[k]?.getD (0,0)=rs[k]):=uq (by rw[List.getElem?_eq_getElem hlk];rfl)
   obtain⟨rs',hl',hm',hown⟩:=HMW.out.more
   have HKT:=uq HMW.out.kt
   have HL':=uq hl'
   have HM':=uq hm'
   have HOWN:=uq hown
   have hzw:=HKT.out.size
   have d2:∀W:World,KT (λb=>b=hb\/b=g) w W->W.cell? ⟨b,o+k*2+1,none⟩=some (.int .i64 rs[k].2)/\W.cell? ⟨b2,o2+k,none⟩=some (.int .i64 (T[k]'(by rw[HTL.out];exact hlk))):=λW hW=>⟨(World.cell?_of_block (hW.block b hbK.2.2 (by rintro(h|h);exact hbK.1 h;exact hbK.2.1 h))).trans h2,(World.cell?_of_block (hW.block b2 hb2K.2.2 (by rintro(h|h);exact hb2K.1 h;exact hb2K.2.1 h))).trans h3⟩
   have HD2:=uq d2
   obtain⟨e2,_⟩:=d2 wr HKT.out
   have HAM:=uq (dg hb B A cap l (M+k) rs[k].2 60 wr HMW.out.hand (by omega) (by omega) (by omega))
   clear h2 h3 hcl hcl2 hl' hm' hown d2
   generalize hT:T[k]'(by rw[HTL.out];exact hlk)=t at htb HD2
   generalize hX:rs[k]=x at htb HD2 HXE HAM e2 hx
   clear hT hX
   obtain⟨x1,xw⟩:=x
   dsimp only at htb HD2 HXE HAM e2 hx
   go_wp2_with fail
   refine HAM.out.mono ?_
   rintro e w2 ⟨⟨y,rfl,hy1,hy2⟩,hh2,hkt2⟩
   have hy60:(y:Int)<=60:=hy2
   have HOW2:=uq (cY HOWN.out hbg hkt2)
   have hk2:k<rs'.length:=by rw[HL'.out];exact hlk
   have hown2:=HOW2.out
   have c2:w2.cell? ⟨g,k*2+1,none⟩=some (.int .i64 (rs'[k]?.getD (0,0)).2):=by
    rw[hown2.cellAt (k*2+1) (by omega)];exact(lossCells_at hk2).2
   have f2:=hown2.frozenAt (k*2+1)
   have hst:=(hown2.stored (k*2+1) (.int .i64 (y:Int))).1
   rw[jX hk2] at hst
   have HST:=uq hst
   have HK2:Hid (KT (λb=>b=hb\/b=g) w (w2.setCell ⟨g,k*2+1,none⟩ (.int .i64 (y:Int)))):=uq (by
    have h1:KT (λb=>b=hb\/b=g) wr w2:=⟨hkt2.os,hkt2.tape,hkt2.output,hkt2.drawn,hkt2.size,λb hb' hne=>hkt2.block b hb' λh=>hne (.inl h)⟩
    have h2:=HKT.out.trans h1
    exact⟨h2.os,h2.tape,h2.output,h2.drawn,by have:=h2.size;simpa [World.setCell] using this,λb hb' hne=>(Below.heap_setCell _ _ _ _ (λh=>hne (.inr h))).trans (h2.block b hb' hne)⟩)
   have HH2:=uq (hh2.set (p:=⟨g,k*2+1,none⟩) (by show hb<g;omega) (.int .i64 (y:Int)))
   have HMW2:Hid (MoreW w hb B A cap l (M+(k+1)) base g gc rs (w2.setCell ⟨g,k*2+1,none⟩ (.int .i64 (y:Int)))):=uq ⟨HH2.out,HK2.out,_,by rw[List.length_set];exact HL'.out,λi=>by
    obtain⟨m1,m2,m3⟩:=HM'.out i
    by_cases e:i=k
    ·subst e
     rw[List.getElem?_set_self hk2,Option.getD_some]
     refine⟨m1,?_,hy60⟩
     rw[HXE.out];exact hy1
    ·rw[List.getElem?_set_ne (Ne.symm e)];exact⟨m1,m2,m3⟩,HST.out⟩
   obtain⟨e3,e4⟩:=HD2.out _ HK2.out
   have hgl2:g<w2.heap.size:=by have:=hkt2.size;omega
   have hzz:=hkt2.size
   have hd1:decide (t<0)=false:=by simp;omega
   have hd2:decide (t > xw)=false:=by simp;omega
   obtain⟨W3,hW3⟩:∃W3,W3=w2.setCell ⟨g,k*2+1,none⟩ (.int .i64 (y:Int)):=⟨_,rfl⟩
   rw[<-hW3] at e3 e4 HMW2
   have HW3:=uq hW3
   clear hh2 hkt2 hown2 hst HAM hW3 e2
   generalize (rs'[k]?.getD (0,0)).2=v2 at c2
   go_wp2_with fail
   rw[<-HW3.out]
   clear c2 f2
   have hb3:b<W3.heap.size:=by rw[HW3.out];simp[World.setCell];omega
   have hb4:b2<W3.heap.size:=by rw[HW3.out];simp[World.setCell];omega
   go_wp2
   go_quiet (fail)
   go_wp2
   go_roundw
   case rel=>exact⟨k+1,by omega,by go_num,nX HMW2.out _⟩
   case measure=>simp[intOf];omega
  ·have hkn:k=rs.length:=by omega
   have HF:=uq (nY HMW.out (show M+k<=M+5 by omega))
   go_wp2
   exact HF.out
structure MoreV (w0:World)(hb B:Nat)(A:Option Addr)(cap:Nat)(l:List Int)(M base:Nat)(mA:Option Addr)(gc:Nat)(rs:List (Int×Int))(w:World):Prop where
 hand:Hand w hb B A cap l M
 kt:KT (λb=>b=hb\/mA=some ⟨b,0,none⟩) w0 w
 more:∃rs':List (Int×Int),rs'.length=rs.length/\(∀i:Nat,(rs[i]?.getD (0,0)).1=(rs'[i]?.getD (0,0)).1/\(rs[i]?.getD (0,0)).2<=(rs'[i]?.getD (0,0)).2/\(rs'[i]?.getD (0,0)).2<=60)/\w.ownsRow base 43 2 (.slice mA rs.length gc) rs.length (ao rs')
def pQ {A rA aA mA:Option Addr}{hb B cap rc ak gc M base:Nat}{l:List Int}{rs:List (Int×Int)}{T:List Int}{w:World}{K:Act->World->Prop}{u1 u4 u5 u8 u9 u10 u11 u13 u14 u15 u16 u17 u18 u19 u20 u21 u22 u23 u24 u25 u26 u27 u28 u29 u30 u31 u32 u33 u34 u35 u36 u37 u38 u39 u40 u41 u42 u43 u44 u45 u46 u47 u48 u49 u50 u51 u52 u53 u54 u55 u56 u57 u58 u59 u60 u61 u62 u63 u64 u65 u66 u67 u68 u69 u70 u71 u72 u73 u74 u75 u76 u77 u78 u79 u80 u81 u82 u83 u84 u85 u86 u87 u88 u89 u90 u91 u92 u93 u94 u95 u96 u97 u98 u99 u100 u101 u102 u103 u104 u105 u106 u107 u108 u109 u110 u111 u112 u113 u114 u115 u116 u117 u118 u119 u120 u121 u122 u123 u124 u125 u126 u127 u128 u129 u130 u131 u132 u133 u134 u135 u136 u137 u138 u139 u140 u141 u142 u143 u144 u145 u146 u147 u148 u149 u150 u151 u152 u153 u154 u155 u156 u157 u158 u159 u160 u161 u162 u163 u164 u165 u166 u167 u168 u169 u170 u171 u172 u173 u174 u175 u176 u177 u178 u179 u180 u181 u182 u183 u184 u185 u186 u187 x0 x2:Value}(HH:Hand w hb B A cap l M)(hM:M<=100000)(HO:w.ownsRow base 43 2 (.slice mA rs.length gc) rs.length (ao rs))(hbg:hb<base)
  (HR:RsK w (λb=>b≠hb/\b<base) rA rs) (HT:RIK w (λb=>b≠hb/\b<base) aA T) (hbw:base<=w.heap.size) (HTL:T.length=rs.length) (hr5:rs.length<=5) (HRI:∀q∈rs,0<=q.2/\q.2<=60) (HTB:∀i,i<rs.length->0<=T[i]?.getD 0/\T[i]?.getD 0<=(rs[i]?.getD (0,0)).2)
  (hK:∀w',MoreV w hb B A cap l (M+5) base mA gc rs w'->∀y2 y14 y98 y99 y100 y101 y102 y103 y104 y105 y106 y107 y108 y109 y110 y111 y112 y113 y114 y115 y116 y117 y118 y119 y120 y121 y122 y123 y124 y125 y126 y127 y128 y129 y130 y131:Value,K ⟨#[x0,u1,y2,.pointer (some ⟨hb,0,none⟩),u4,u5,.slice rA rs.length rc,.slice aA rs.length ak,u8,u9,u10,u11,.slice mA rs.length gc,u13,y14,u15,u16,u17,u18,u19,u20,u21,u22,u23,u24,u25,u26,u27,u28,u29,u30,u31,u32,u33,u34,u35,u36,u37,u38,u39,u40,u41,u42,u43,u44,u45,u46,u47,u48,u49,u50,u51,u52,u53,u54,u55,u56,u57,u58,u59,u60,u61,u62,u63,u64,u65,u66,u67,u68,u69,u70,u71,u72,u73,u74,u75,u76,u77,u78,u79,u80,u81,u82,u83,u84,u85,u86,u87,u88,u89,u90,u91,u92,u93,u94,u95,u96,u97,y98,y99,y100,y101,y102,y103,y104,y105,y106,y107,y108,y109,y110,y111,y112,y113,y114,y115,y116,y117,y118,y119,y120,y121,y122,y123,y124,y125,y126,y127,y128,y129,y130,y131,u132,u133,u134,u135,u136,u137,u138,u139,u140,u141,u142,u143,u144,u145,u146,u147,u148,u149,u150,u151,u152,u153,u154,u155,u156,u157,u158,u159,u160,u161,u162,u163,u164,u165,u166,u167,u168,u169,u170,u171,u172,u173,u174,u175,u176,u177,u178,u179,u180,u181,u182,u183,u184,u185,u186,u187],[]⟩ w') :
  (aX 10).wp ve (Exit.then K λ_ _ _=>False) ⟨#[x0,u1,x2,.pointer (some ⟨hb,0,none⟩),u4,u5,.slice rA rs.length rc,.slice aA rs.length ak,u8,u9,u10,u11,.slice mA rs.length gc,u13,u14,u15,u16,u17,u18,u19,u20,u21,u22,u23,u24,u25,u26,u27,u28,u29,u30,u31,u32,u33,u34,u35,u36,u37,u38,u39,u40,u41,u42,u43,u44,u45,u46,u47,u48,u49,u50,u51,u52,u53,u54,u55,u56,u57,u58,u59,u60,u61,u62,u63,u64,u65,u66,u67,u68,u69,u70,u71,u72,u73,u74,u75,u76,u77,u78,u79,u80,u81,u82,u83,u84,u85,u86,u87,u88,u89,u90,u91,u92,u93,u94,u95,u96,u97,u98,u99,u100,u101,u102,u103,u104,u105,u106,u107,u108,u109,u110,u111,u112,u113,u114,u115,u116,u117,u118,u119,u120,u121,u122,u123,u124,u125,u126,u127,u128,u129,u130,u131,u132,u133,u134,u135,u136,u137,u138,u139,u140,u141,u142,u143,u144,u145,u146,u147,u148,u149,u150,u151,u152,u153,u154,u155,u156,u157,u158,u159,u160,u161,u162,u163,u164,u165,u166,u167,u168,u169,u170,u171,u172,u173,u174,u175,u176,u177,u178,u179,u180,u181,u182,u183,u184,u185,u186,u187],[]⟩ w:=by
 by_cases h0:rs.length=0
 ·have hn:rs=[]:=List.eq_nil_of_length_eq_zero h0
  subst hn
  have HMV:Hid (MoreV w hb B A cap l (M+5) base mA gc [] w):=uq ⟨HH.more (by omega),KT.refl _ _,[],rfl,λi=>⟨rfl,Int.le_refl _,by simp⟩,HO⟩
  clear HH HO HR HT HRI HTB
  have ez:aX 10=cFst (cDrop 10 aq):=rfl
  simp only[cDrop,aq,Tryz.f3,Option.getD_some,cSnd,cFst] at ez
  rw[ez]
  clear ez
  go_wp2
  go_loopw [14] (λi wr=>i=.int .i64 0/\wr=w) (λ_ _=>0)
  case atStart=>exact⟨rfl,rfl⟩
  case round =>
   obtain⟨rfl,rfl⟩:=hrel
   go_wp2
   exact HMV.out
 ·obtain ⟨g, rfl, hg⟩ : ∃ g, mA = some ⟨g, 0, none⟩ ∧ base <= g := by
   rcases HO.2 with⟨_,h⟩|⟨g,cap,cur,hv,hb,_⟩
   ·omega
   ·exact⟨g,by injection hv,hb⟩
  refine qX HH hM HO hbg (λhn=>?_) (λhn=>?_) HTL hr5 HRI HTB λw' hw=>?_
  ·obtain⟨b,o,e,hb,hc⟩:=HR hn
   exact⟨b,o,e,⟨hb.1,by omega,by omega⟩,hc⟩
  ·obtain⟨b,o,e,hb,hc⟩:=HT hn
   exact⟨b,o,e,⟨hb.1,by omega,by omega⟩,hc⟩
  ·obtain⟨h1,h2,h3⟩:=hw
   exact hK w' ⟨h1,⟨h2.os,h2.tape,h2.output,h2.drawn,h2.size,λb hb hne=>h2.block b hb (by rintro(h|h);exact hne (.inl h);exact hne (.inr (by rw[h])))⟩,h3⟩
end Go.Proofs.YtgphobammhoniaaGreat
namespace Go.Sq
open Go.RowKit
def RsK_own {w:World}{base:Nat}{e:TypeId}{v:Value}{l:List (Int×Int)}(h:w.ownsRow base e 2 v l.length (ao l)):∃A c,v=.slice A l.length c/\RsK w (λb=>base<=b/\b<w.heap.size) A l/\l.length<=c:=by
 obtain⟨A,c,rfl,h2,h3⟩:=RsAt_own h
 refine⟨A,c,rfl,λhn=>?_,h3⟩
 obtain⟨b,o,rfl,hb,hc⟩:=h2 hn
 exact⟨b,o,rfl,⟨(h.lt b rfl).1,hb⟩,hc⟩
def en {W W':World}{K K':Nat->Prop}{A:Option Addr}{q:List (Int×Int)}(h:RsK W K A q)(hk:∀b,K b->K' b)(hc:∀b o,K b->W'.cell? ⟨b,o,none⟩=W.cell? ⟨b,o,none⟩):RsK W' K' A q:=λhn=>by
 obtain⟨b,o,e,h1,h2⟩:=h hn
 exact⟨b,o,e,hk b h1,λi x hx=>⟨(hc _ _ h1).trans (h2 i x hx).1,(hc _ _ h1).trans (h2 i x hx).2⟩⟩
def RsK.rs {W:World}{K:Nat->Prop}{B:Nat}{A:Option Addr}{q:List (Int×Int)}(h:RsK W K A q)(hK:∀b,K b->b<B):RsAt W B A q:=λhn=>by
 obtain⟨b,o,e,h1,h2⟩:=h hn
 exact⟨b,o,e,hK b h1,h2⟩
def qY {w:World}{base fg fc k c':Nat}{ls:List (List Int)}{xs:List Value}{A':Option Addr}{l':List Int}(h:OwnGrid w base (.slice (some ⟨fg,0,none⟩) ls.length fc) ls xs)(hk:k<ls.length)(hri:RIK w (λb=>b≠fg/\b<w.heap.size) A' l') :
  GrAt (w.setCell ⟨fg,k,none⟩ (.slice A' l'.length c')) w.heap.size (some ⟨fg,0,none⟩) (ls.set k l'):=λ_=>by
 have hlt:=(h.row.lt fg rfl).2
 refine⟨fg,0,rfl,hlt,λi l hi=>?_⟩
 have hil:i<ls.length:=by have:=(List.getElem?_eq_some_iff.1 hi).1;simpa using this
 have keep:∀b o,b≠fg->(w.setCell ⟨fg,k,none⟩ (.slice A' l'.length c')).cell? ⟨b,o,none⟩=w.cell? ⟨b,o,none⟩:=λb o hb=>World.cell?_of_block (Below.heap_setCell _ _ _ _ hb)
 rw[Nat.zero_add]
 obtain⟨u,hu,ho⟩:=h.cells i _ (List.getElem?_eq_getElem hil)
 have hcell:=h.row.cellAt i (by omega)
 rw[hu] at hcell
 by_cases e:i=k
 ·subst e
  rw[List.getElem?_set_self hil] at hi
  have:=Option.some.inj hi
  subst this
  refine⟨A',c',World.cell?_setCell_same _ _ _ hcell,λhn=>?_⟩
  obtain⟨b,o,e,hb,hc⟩:=hri hn
  exact⟨b,o,e,hb.2,λj x hx=>(keep _ _ hb.1).trans (hc j x hx)⟩
 ·rw[List.getElem?_set_ne (Ne.symm e),List.getElem?_eq_getElem hil] at hi
  have:=Option.some.inj hi
  subst this
  obtain⟨A2,c2,rfl,hr⟩:=RIK_of_own ho
  refine⟨A2,c2,(World.cell?_setCell_other _ _ _ _ (by simp[Ne.symm e])).trans hcell,λhn=>?_⟩
  obtain⟨b,o,e2,hb,hc⟩:=hr hn
  have hne:b≠fg:=λe3=>by
   subst e2
   have:=dx (by decide) ho h.row (g:=b) rfl
   exact this (by rw[e3];rfl)
  exact⟨b,o,e2,hb.2,λj x hx=>(keep _ _ hne).trans (hc j x hx)⟩
def sL {w:World}{K:Nat->Prop}{b o:Nat}{l:List Int}(h:∀i x,l[i]?=some x->w.cell? ⟨b,o+i,none⟩=some (.int .i64 x))(hK:K b):RIK w K (some ⟨b,o+1,none⟩) (l.drop 1):=λ_=>⟨b,o+1,rfl,hK,λi x hx=>by
 rw[List.getElem?_drop] at hx
 rw[Nat.add_assoc]
 exact h (1+i) x hx⟩
def gw {c:Camp}(hc:c.Ok)(r:Ros)(n:Nat)(rs:List (Int×Int)):∀x∈takenL c r n rs,0<=x/\x<=1048576:=λx hx=>by
 obtain⟨q,_,rfl⟩:=List.mem_map.1 hx
 have h1:=cj (·.1) (lossesL c r (wolvesL n rs rs.length)) q.1
 have h2:=ct hc r (wolvesL n rs rs.length)
 omega
def qZ {c:Camp}(hc:c.Ok)(r:Ros)(n:Nat)(rs:List (Int×Int)):∀x∈lostL c r n rs,0<=x/\x<=1048576:=λx hx=>by
 obtain⟨q,_,rfl⟩:=List.mem_map.1 hx
 have h1:=cj (·.2) (lossesL c r (wolvesL n rs rs.length)) q
 have h2:=ct hc r (wolvesL n rs rs.length)
 omega
def q8 {c:Camp}(hc:c.Ok)(r:Ros)(n:Nat)(rs:List (Int×Int)):∀i,i<c.herders.length->0<=(lostL c r n rs)[i]?.getD 0/\(lostL c r n rs)[i]?.getD 0<=(c.h i).heads:=λi hi=>by
 rw[sJ hi,Option.getD_some]
 exact⟨by omega,nQ hc r _ hi⟩
def pR {c:Camp}(hc:c.Ok)(r:Ros){n:Nat}{rs:List (Int×Int)}(hri:∀q∈rs,(0<=q.1/\q.1<n)/\0<=q.2/\q.2<=60)(hn:(rs.map (·.1)).Nodup):∀i,i<rs.length->0<=(takenL c r n rs)[i]?.getD 0/\(takenL c r n rs)[i]?.getD 0<=(rs[i]?.getD (0,0)).2:=λi hi=>by
 have hq:=hri _ (List.getElem_mem hi)
 have e:(takenL c r n rs)[i]?.getD 0=(cntBy (·.1) (lossesL c r (wolvesL n rs rs.length)) rs[i].1:Int):=by
  unfold takenL
  rw[List.getElem?_map,List.getElem?_eq_getElem hi];rfl
 rw[e,List.getElem?_eq_getElem hi,Option.getD_some]
 obtain⟨j,hj⟩:∃j:Nat,rs[i].1=j:=⟨rs[i].1.toNat,by omega⟩
 have hjn:j<n:=by omega
 have h1:=nP (c:=c) (r:=r) (ws:=wolvesL n rs rs.length) (j:=j) (by rw[aC];exact hjn)
 have h2:tooMany c r (wolvesL n rs rs.length) j<=(aB rs rs.length j).toNat:=by
  unfold tooMany
  rw[cX hjn,Option.getD_some]
  have:0<=c.dogs (r j):=by
   unfold Camp.dogs
   refine cZ _ λy hy=>?_
   obtain⟨h,_,rfl⟩:=List.mem_map.1 hy
   exact kZ hc _
  omega
 have h3:∀k,k<=rs.length->i<k->aB rs k j=rs[i].2:=by
  intro k
  induction k with
  |zero=>intro _ h;omega
  |succ k ih =>
   intro hk hik
   unfold aB
   rw[List.getElem?_eq_getElem (show k<rs.length by omega),Option.getD_some]
   rcases Nat.lt_or_ge i k with h4|h4
   ·rw[if_neg,ih (by omega) h4]
    intro h5
    have:=List.pairwise_iff_getElem.1 hn i k (by simpa using hi) (by simp;omega) h4
    simp only[List.getElem_map] at this
    exact this (by rw[hj,h5])
   ·obtain rfl:i=k:=by omega
    rw[if_pos hj]
 rw[h3 _ (Nat.le_refl _) hi] at h2
 rw[hj]
 omega
def sM {rs rs':List (Int×Int)}{n:Nat}(hl:rs'.length=rs.length)(hm:∀i:Nat,(rs[i]?.getD (0,0)).1=(rs'[i]?.getD (0,0)).1/\(rs[i]?.getD (0,0)).2<=(rs'[i]?.getD (0,0)).2/\(rs'[i]?.getD (0,0)).2<=60)(hri:∀q∈rs,(0<=q.1/\q.1<n)/\0<=q.2/\q.2<=60)(hn:(rs.map (·.1)).Nodup) :
  (∀q∈rs',(0<=q.1/\q.1<n)/\0<=q.2/\q.2<=60)/\(rs'.map (·.1)).Nodup:=by
 have e:rs'.map (·.1)=rs.map (·.1):=List.ext_getElem? λi=>by
  rw[List.getElem?_map,List.getElem?_map]
  have:=(hm i).1
  by_cases h:i<rs.length
  ·rw[List.getElem?_eq_getElem h,List.getElem?_eq_getElem (by omega),Option.getD_some,Option.getD_some] at this
   rw[List.getElem?_eq_getElem h,List.getElem?_eq_getElem (by omega)]
   simp[this]
  ·rw[List.getElem?_eq_none (by omega),List.getElem?_eq_none (by omega)]
 refine⟨λq hq=>?_,by rw[e];exact hn⟩
 obtain⟨i,hi,rfl⟩:=List.getElem_of_mem hq
 obtain⟨m1,m2,m3⟩:=hm i
 have:=hri _ (List.getElem_mem (show i<rs.length by omega))
 rw[List.getElem?_eq_getElem (show i<rs.length by omega),List.getElem?_eq_getElem hi,Option.getD_some,Option.getD_some] at m1 m2
 rw[List.getElem?_eq_getElem hi,Option.getD_some] at m3
 exact⟨by rw[<-m1];exact this.1,by omega,m3⟩
def dF {c:Camp}(hc:c.Ok)(x:Nat):0<=c.dogs x:=by
 unfold Camp.dogs
 refine cZ _ λy hy=>?_
 obtain⟨h,_,rfl⟩:=List.mem_map.1 hy
 exact kZ hc _
def pS {rs rs':List (Int×Int)}(hl:rs'.length=rs.length)(hm:∀i:Nat,(rs[i]?.getD (0,0)).1=(rs'[i]?.getD (0,0)).1/\(rs[i]?.getD (0,0)).2<=(rs'[i]?.getD (0,0)).2/\(rs'[i]?.getD (0,0)).2<=60)(n:Nat):∀j,j<(wolvesL n rs rs.length).length->(wolvesL n rs rs.length)[j]?.getD 0<=(wolvesL n rs' rs'.length)[j]?.getD 0:=λj hj=>by
 rw[aC] at hj
 rw[cX hj,cX hj,hl]
 exact jW (λi=>⟨(hm i).1,(hm i).2.1⟩) _ _
def nZ {c:Camp}(hc:c.Ok){r:Ros}{n:Nat}{rs rs':List (Int×Int)}(hl:rs'.length=rs.length)(hm:∀i:Nat,(rs[i]?.getD (0,0)).1=(rs'[i]?.getD (0,0)).1/\(rs[i]?.getD (0,0)).2<=(rs'[i]?.getD (0,0)).2/\(rs'[i]?.getD (0,0)).2<=60)(hn:(rs.map (·.1)).Nodup)(hn':(rs'.map (·.1)).Nodup) :
  (takenL c r n rs).sum<=(takenL c r n rs').sum:=by
 rw[cz hc (λx=>dF hc x) hn,cz hc (λx=>dF hc x) hn']
 exact Int.ofNat_le.2 (gW hc (by rw[aC,aC]) (pS hl hm n) λj _=>Int.le_refl _)
def lP {c:Camp}(hc:c.Ok){ls:List (List Int)}{n k:Nat}{rs:List (Int×Int)}(hl:∀x∈ls,∃p,x=chosen p c.herders.length)(hk:k<ls.length)(hn:(rs.map (·.1)).Nodup) :
  (takenL c (rosOf ls) n rs).sum<=(takenL c (rosOf (ls.set k (ls[k].drop 1))) n rs).sum:=by
 rw[cz hc (λx=>dF hc x) hn,cz hc (λx=>dF hc x) hn]
 exact Int.ofNat_le.2 (gW hc rfl (λ_ _=>Int.le_refl _) λj _=>nS hc hl hk j)
def n7 {c:Camp}(hc:c.Ok)(r:Ros){n:Nat}{rs:List (Int×Int)}(hn:(rs.map (·.1)).Nodup):(takenL c r n rs).sum=(lostL c r n rs).sum:=by
 rw[cz hc (λx=>dF hc x) hn,nR hc]
end Go.Sq
namespace Go.Proofs.YtgphobammhoniaaGreat
open Go.RowKit Go.Sq
open Go.Iso (aW au eQ de)
noncomputable def ops17:Array Oper:=match cFst fj with|.region _ ops _=>ops|_=>#[]
def pT:fj=.seq (.region 26 ops17 false) .ret:=rfl
def tN (a:Act):Prop:=a.tmps.size=188/\a.defers=[]/\a.tmps.getD 184 undef=.bool true/\a.tmps.getD 185 undef=.bool true
def l17_end {nA hA gA rA aA mA fA:Option Addr}{cb nc hc gc rc ak mc fc lo:Nat}{c:Camp}{ls ls':List (List Int)}{xs:List Value}{rs rs':List (Int×Int)}{T:List Int}{w:World}{u0 u1 u2 u3 u8 u9 u10 u11 u14 u15 u16 u17 u18 u19 u20 u21 u22 u23 u24 u25 u26 u27 u28 u29 u30 u31 u32 u33 u34 u35 u36 u37 u38 u39 u40 u41 u42 u43 u44 u45 u46 u47 u48 u49 u50 u51 u52 u53 u54 u55 u56 u57 u58 u59 u60 u61 u62 u63 u64 u65 u66 u67 u68 u69 u70 u71 u72 u73 u74 u75 u76 u77 u78 u79 u80 u81 u82 u83 u84 u85 u86 u87 u88 u89 u90 u91 u92 u93 u94 u95 u96 u97 u98 u99 u100 u101 u102 u103 u104 u105 u106 u107 u108 u109 u110 u111 u112 u113 u114 u115 u116 u117 u118 u119 u120 u121 u122 u123 u124 u125 u126 u127 u128 u129 u130 u131 u132 u133 u134 u135 u136 u137 u138 u139 u140 u141 u142 u143 u144 u145 u146 u147 u148 u149 u150 u151 u152 u153 u154 u155 u156 u157 u158 u159 u160 u161 u162 u163 u164 u165 u166 u167 u168 u169 u170 u171 u172 u173 u174 u175 u176 u177 u178 u179 u180 u181 u182 u183 u184 u185 u186 u187:Value}(HMK:MadeK c nA hA (.slice gA ls.length gc) cb nc hc lo ls xs w)(HRA:RsAt w w.heap.size rA rs)(HT:RI w w.heap.size aA T)(HFG:GrAt w w.heap.size fA ls')(HMA:RsAt w w.heap.size mA rs')(hrc:rs.length<=rc)(hmc:rs'.length<=mc)(hl':rs'.length=rs.length)(hls:ls'.length=ls.length)
  (HOK:c.Ok) (HFO:formedE c ls=0) (HFO':formedE c ls'=0) (HRE:ci c.needs.length rs=0) (HRE':ci c.needs.length rs'=0) (HOFF:∀h∈c.herders,h.off.length<=4611686018427387904) (HLX:∀x∈ls,x.length<=4) (HLX':∀x∈ls',x.length<=4) (hl5:ls.length<=5) (hr5:rs.length<=5)
  (HTL:T.length=rs.length) (HTI:∀x∈T,0<=x/\x<=1048576) (hs1:T.sum<=(takenL c (rosOf ls) c.needs.length rs').sum) (hs2:T.sum<=(takenL c (rosOf ls') c.needs.length rs).sum) :
  aW ve [.inRegion ops17 [21,22,23],.code .ret] (.seq (aX 12) (.seq (aX 13) fj)) (λa _=>tN a) ⟨#[u0,u1,u2,u3,.pointer (some ⟨cb,0,none⟩),.slice gA ls.length gc,.slice rA rs.length rc,.slice aA rs.length ak,u8,u9,u10,u11,.slice mA rs.length mc,.slice fA ls.length fc,u14,u15,u16,u17,u18,u19,u20,u21,u22,u23,u24,u25,u26,u27,u28,u29,u30,u31,u32,u33,u34,u35,u36,u37,u38,u39,u40,u41,u42,u43,u44,u45,u46,u47,u48,u49,u50,u51,u52,u53,u54,u55,u56,u57,u58,u59,u60,u61,u62,u63,u64,u65,u66,u67,u68,u69,u70,u71,u72,u73,u74,u75,u76,u77,u78,u79,u80,u81,u82,u83,u84,u85,u86,u87,u88,u89,u90,u91,u92,u93,u94,u95,u96,u97,u98,u99,u100,u101,u102,u103,u104,u105,u106,u107,u108,u109,u110,u111,u112,u113,u114,u115,u116,u117,u118,u119,u120,u121,u122,u123,u124,u125,u126,u127,u128,u129,u130,u131,u132,u133,u134,u135,u136,u137,u138,u139,u140,u141,u142,u143,u144,u145,u146,u147,u148,u149,u150,u151,u152,u153,u154,u155,u156,u157,u158,u159,u160,u161,u162,u163,u164,u165,u166,u167,u168,u169,u170,u171,u172,u173,u174,u175,u176,u177,u178,u179,u180,u181,u182,u183,u184,u185,u186,u187],[]⟩ w:=by
 have HM:=uq HMK.made
 have hn5:=HOK.n5
 have hm4:=HOK.h4
 replace HMK:=uq HMK
 replace HRA:=uq HRA
 replace HT:=uq HT
 replace HFG:=uq HFG
 replace HMA:=uq HMA
 replace HFO:=uq HFO
 replace HFO':=uq HFO'
 replace HRE:=uq HRE
 replace HRE':=uq HRE'
 replace HOFF:=uq HOFF
 replace HLX:=uq HLX
 replace HLX':=uq HLX'
 replace HTL:=uq HTL
 replace HTI:=uq HTI
 have HL':=uq hl'
 have HLS:=uq hls
 have hmc':rs.length<=mc:=by omega
 have h1:=jm nA hA gA mA nc hc gc mc c ls rs' w w.heap.size (Nat.le_refl _) HM.out.needs HM.out.herds HM.out.grid HMA.out (by omega) (by omega) HOFF.out (by omega) (λx hx=>Nat.le_trans (HLX.out x hx) (by omega)) (by omega) hmc HFO.out HRE'.out
 rw[hl'] at h1
 unfold campV at h1
 have H1:=uq h1
 have hb1:=HM.out.lt
 have h10:=HM.out.c0
 have h11:=HM.out.c1
 replace HOK:=uq HOK
 clear h1 hmc hls
 refine au λK hK=>?_
 have ez:aX 12=cFst (cDrop 12 aq):=rfl
 simp only[cDrop,aq,Tryz.f3,Option.getD_some,cSnd,cFst] at ez
 rw[ez]
 clear ez
 go_wp2_with fail
 refine H1.out.mono ?_
 rintro e w1 ⟨hg1,xA,xk,rfl,hx1⟩
 have HX1:=uq (hx1.ri (B:=w1.heap.size) λb hb=>hb.2)
 have HM1:=uq (HM.out.gr hg1)
 have HRA1:=uq ((HRA.out.gr (Nat.le_refl _) hg1).more hg1.size)
 have HFG1:=uq ((HFG.out.gr (Nat.le_refl _) hg1).more hg1.size)
 have HT1:=uq (HT.out.on hg1)
 have hl5':ls'.length<=5:=by rw[HLS.out];exact hl5
 have h2:=jm nA hA fA rA nc hc fc rc c ls' rs w1 w1.heap.size (Nat.le_refl _) HM1.out.needs HM1.out.herds HFG1.out HRA1.out (by omega) (by omega) HOFF.out (by omega) (λx hx=>Nat.le_trans (HLX'.out x hx) (by omega)) (by omega) hrc HFO'.out HRE.out
 rw[HLS.out] at h2
 unfold campV at h2
 have H2:=uq h2
 have hb2:=HM1.out.lt
 have h20:=HM1.out.c0
 have h21:=HM1.out.c1
 clear h2 H1 hg1 hx1 hb1 h10 h11
 go_wp2
 refine au λK hK=>?_
 have ez:aX 13=cFst (cDrop 13 aq):=rfl
 simp only[cDrop,aq,Tryz.f3,Option.getD_some,cSnd,cFst] at ez
 rw[ez]
 clear ez
 go_wp2_with fail
 refine H2.out.mono ?_
 rintro e w2 ⟨hg2,yA,yk,rfl,hy2⟩
 have HX2:=uq (HX1.out.on hg2)
 have HY2:=uq (hy2.ri (B:=w2.heap.size) λb hb=>hb.2)
 have HT2:=uq (HT1.out.on hg2)
 have HXI:=uq (gw HOK.out (rosOf ls) c.needs.length rs')
 have HYI:=uq (gw HOK.out (rosOf ls') c.needs.length rs)
 have HXL:Hid ((takenL c (rosOf ls) c.needs.length rs').length=rs.length):=uq (by rw[<-HL'.out];simp[takenL])
 have HYL:Hid ((takenL c (rosOf ls') c.needs.length rs).length=rs.length):=uq (by simp[takenL])
 generalize takenL c (rosOf ls) c.needs.length rs'=X at hs1 HX2 HXI HXL
 generalize takenL c (rosOf ls') c.needs.length rs=Y at hs2 HY2 HYI HYL
 have HTT:=uq (fi aA ak T w2 w2.heap.size HT2.out (by rw[HTL.out];omega) HTI.out)
 have HTX:=uq (fi xA xk X w2 w2.heap.size HX2.out (by rw[HXL.out];omega) HXI.out)
 have HTY:=uq (fi yA yk Y w2 w2.heap.size HY2.out (by rw[HYL.out];omega) HYI.out)
 rw[HTL.out] at HTT
 rw[HXL.out] at HTX
 rw[HYL.out] at HTY
 generalize T.sum=s0 at HTT hs1 hs2
 generalize X.sum=s1 at HTX hs1
 generalize Y.sum=s2 at HTY hs2
 have hd1:decide (s1 ≥ s0)=true:=by simp;omega
 have hd2:decide (s2 ≥ s0)=true:=by simp;omega
 clear H2 hg2 hy2 hb2 h20 h21 HX1 HM1 HRA1 HFG1 HT1 HM
 go_wp2
 rw[pT]
 refine eQ (tgt:=[.inRegion ops17 [21,22,23]]) ?_
 refine de (l:=ops17.toList.take 21) (λj hj=>?_) (by kernel_rfl) ?_
 ·rw[List.length_take] at hj
  rw[List.getElem?_take,if_pos (by omega),Array.getElem?_toList]
 have ez:ops17=match cFst fj with|.region _ ops _=>ops|_=>#[]:=rfl
 simp only[fj,cDrop,aq,Tryz.f3,Option.getD_some,cSnd,cFst] at ez
 rw[ez]
 clear ez
 simp only[List.take_succ_cons,List.take_zero]
 go_wp2_with fail
 refine HTX.out.mono ?_
 rintro e w' ⟨rfl,rfl⟩
 go_wp2_with fail
 refine HTT.out.mono ?_
 rintro e w' ⟨rfl,rfl⟩
 go_wp2_with fail
 refine HTY.out.mono ?_
 rintro e w' ⟨rfl,rfl⟩
 go_wp2_with fail
 refine HTT.out.mono ?_
 rintro e w' ⟨rfl,rfl⟩
 go_wp2
 exact⟨rfl,rfl,rfl,rfl⟩
end Go.Proofs.YtgphobammhoniaaGreat
