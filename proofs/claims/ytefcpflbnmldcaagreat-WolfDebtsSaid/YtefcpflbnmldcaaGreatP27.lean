/- What is proved: whatever the numbers, the law WolfDebts answers true. Conditions: none beyond the statement's own. -/
import Derived.Test.YtefcpflbnmldcaaGreatP26
import Derived.Test.YtefcpflbnmldcaaGreatP24
import Derived.Test.YtefcpflbnmldcaaGreatRows
import Derived.Conc.HoldsTime
import Derived.Conc.LeavingOf
import Derived.ProofKit
import Derived.ClosedOfChecked
set_option linter.all false
set_option maxHeartbeats 6400000
set_option maxRecDepth 1000000
namespace Go.Proofs.YtefcpflbnmldcaaGreat
open Go.RowKit Go.Sq
def qC {w:World}{j:Nat}{y:Int}(W:World)(hW:W=(w.alloc (.cells #[.int .i64 j,.int .i64 y] 69)).drew):RsAt W W.heap.size (some ⟨w.heap.size,0,none⟩) [((j:Int),y)]:=λ_=>⟨_,0,rfl,by rw[hW];show w.heap.size<(w.alloc _).heap.size;simp,λi x hx=>by
 have:i=0:=by have:=(List.getElem?_eq_some_iff.1 hx).1;simpa using this
 subst this
 simp only[List.getElem?_cons_zero,Option.some.injEq] at hx
 subst hx
 rw[hW]
 show(w.alloc _).cell? _=_/\(w.alloc _).cell? _=_
 rw[World.cell?_alloc_at _ _ _ _ rfl,World.cell?_alloc_at _ _ _ _ rfl];exact⟨rfl,rfl⟩⟩
def upto_ch {p:Nat->Bool}{m:Nat}{x:Int}(h:x∈chosen p m):0<=x/\x<m:=by
 obtain⟨n,rfl,hn,_⟩:=chosen_mem.1 h
 omega
def tj {N i:Nat}{p:Int}(h0:0<N)(h4:N<=4)(hp:0<=p/\p<=99)(h:(i:Int)<p % (N:Int)):0<=p-p / (N:Int)-1/\p-p / (N:Int)-1<=99:=by
 have:N=1\/N=2\/N=3\/N=4:=by omega
 rcases this with rfl|rfl|rfl|rfl<;>omega
def qD {nA hA gA rA:Option Addr}{cb nc hc gc rc:Nat}{p:Int}{c:Camp}{ls:List (List Int)}{rs:List (Int×Int)}{w:World}{K:Act->World->Prop}{u1 u3 u9 u10 u11 u12 u13 u14 u15 u16 u17 u18 u19 u20 u21 u22 u23 u24 u25 u26 u27 u28 u29 u30 u31 u32 u33 u34 u35 u36 u37 u38 u39 u40 u41 u42 u43 u44 u45 u46 u47 u48 u49 u50 u51 u52 u53 u54 u55 u56 u57 u58 u59 u60 u61 u62 u63 u64 u65 u66 u67 u68 u69 u70 u71 u72 u73 u74 u75 u76 u77 u78 u79 u80 u81 u82 u83 u84 u85 u86 u87 u88 u89 u90 u91 u92 u93 u94 u95 u96 u97 u98 u99 u100 u101 u102 u103 u104 u105 u106 u107 u108 u109 u110 u111 u112 u113 u114 u115 u116 u117 u118 u119 u120 u121 u122 u123 u124 u125 u126 u127 u128 u129 u130 u131 u132 u133 u134 u135 u136 u137 u138 u139 u140 u141 u142 u143 u144 u145 u146 u147 u148 u149 u150 u151 u152 u153 u154 u155 u156 u157 u158 u159 u160 u161 u162 u163 u164 u165 u166 u167 u168 u169 u170 u171 u172 u173 u174 u175 u176 u177 u178 u179 u180 u181 u182 u183 u184 u185 u186 u187 u188 u189 u190 u191 u192 u193 u194 u195 u196 u197 u198 u199 u200 u201 u202 u203 u204 u205 u206 u207 u208 u209 u210 u211 u212 u213 u214 u215 u216 u217 u218 u219 u220 u221 u222 u223 u224 u225 u226 u227 u228 u229 u230 u231 u232 u233 u234 u235 u236 u237 u238 u239 u240 u241 x0 x2:Value}(HM:Made c nA hA gA cb nc hc ls w)(HR:RsAt w w.heap.size rA rs)(HOK:c.Ok)(HFO:formedE c ls=0)
  (HALL:∀x∈ls,∃p,x=chosen p c.herders.length) (HOFF:∀h∈c.herders,h.off.length<=4611686018427387904) (HLL:ls.length=c.needs.length) (HRI:∀q∈rs,(0<=q.1/\q.1<c.needs.length)/\0<=q.2/\q.2<=60) (hr5:rs.length<=5) (hp:0<=p/\p<=99)
  (hK:∀w',Gr w w'->∀y2 y16 y17 y18 y19 y20 y21 y22 y23 y24 y25 y26 y27 y125 y126 y127 y128 y129 y130 y131 y132 y133 y134 y135 y136 y137 y138 y139 y140 y141 y142 y143 y144 y145 y146 y147 y148 y149 y150 y151 y152 y153 y154 y155 y156 y157 y158 y159 y160 y161 y162 y163 y164 y165 y166 y167 y168 y169 y170 y171 y172 y173 y174 y175 y176 y177 y178 y179 y180 y181 y182 y183 y184 y185 y186 y187 y188 y189 y190 y191 y192 y193 y194 y195 y196 y197 y198 y199 y200 y201 y202 y203 y204 y205 y206 y207 y208 y209 y210 y211 y212 y213 y214 y215 y216 y217 y218 y219 y220 y221 y222 y223 y224 y225 y226 y227 y228 y229 y230 y231 y232 y233 y234 y235 y236 y237 y238 y239 y240:Value,K ⟨#[x0,u1,y2,u3,.pointer (some ⟨cb,0,none⟩),.slice gA ls.length gc,.int .i64 p,.slice rA rs.length rc,.int .i64 c.herders.length,u9,u10,u11,u12,u13,u14,u15,y16,y17,y18,y19,y20,y21,y22,y23,y24,y25,y26,y27,u28,u29,u30,u31,u32,u33,u34,u35,u36,u37,u38,u39,u40,u41,u42,u43,u44,u45,u46,u47,u48,u49,u50,u51,u52,u53,u54,u55,u56,u57,u58,u59,u60,u61,u62,u63,u64,u65,u66,u67,u68,u69,u70,u71,u72,u73,u74,u75,u76,u77,u78,u79,u80,u81,u82,u83,u84,u85,u86,u87,u88,u89,u90,u91,u92,u93,u94,u95,u96,u97,u98,u99,u100,u101,u102,u103,u104,u105,u106,u107,u108,u109,u110,u111,u112,u113,u114,u115,u116,u117,u118,u119,u120,u121,u122,u123,u124,y125,y126,y127,y128,y129,y130,y131,y132,y133,y134,y135,y136,y137,y138,y139,y140,y141,y142,y143,y144,y145,y146,y147,y148,y149,y150,y151,y152,y153,y154,y155,y156,y157,y158,y159,y160,y161,y162,y163,y164,y165,y166,y167,y168,y169,y170,y171,y172,y173,y174,y175,y176,y177,y178,y179,y180,y181,y182,y183,y184,y185,y186,y187,y188,y189,y190,y191,y192,y193,y194,y195,y196,y197,y198,y199,y200,y201,y202,y203,y204,y205,y206,y207,y208,y209,y210,y211,y212,y213,y214,y215,y216,y217,y218,y219,y220,y221,y222,y223,y224,y225,y226,y227,y228,y229,y230,y231,y232,y233,y234,y235,y236,y237,y238,y239,y240,u241],[]⟩ w') :
  (q8 10).wp uG (Exit.then K λ_ _ _=>False) ⟨#[x0,u1,x2,u3,.pointer (some ⟨cb,0,none⟩),.slice gA ls.length gc,.int .i64 p,.slice rA rs.length rc,.int .i64 c.herders.length,u9,u10,u11,u12,u13,u14,u15,u16,u17,u18,u19,u20,u21,u22,u23,u24,u25,u26,u27,u28,u29,u30,u31,u32,u33,u34,u35,u36,u37,u38,u39,u40,u41,u42,u43,u44,u45,u46,u47,u48,u49,u50,u51,u52,u53,u54,u55,u56,u57,u58,u59,u60,u61,u62,u63,u64,u65,u66,u67,u68,u69,u70,u71,u72,u73,u74,u75,u76,u77,u78,u79,u80,u81,u82,u83,u84,u85,u86,u87,u88,u89,u90,u91,u92,u93,u94,u95,u96,u97,u98,u99,u100,u101,u102,u103,u104,u105,u106,u107,u108,u109,u110,u111,u112,u113,u114,u115,u116,u117,u118,u119,u120,u121,u122,u123,u124,u125,u126,u127,u128,u129,u130,u131,u132,u133,u134,u135,u136,u137,u138,u139,u140,u141,u142,u143,u144,u145,u146,u147,u148,u149,u150,u151,u152,u153,u154,u155,u156,u157,u158,u159,u160,u161,u162,u163,u164,u165,u166,u167,u168,u169,u170,u171,u172,u173,u174,u175,u176,u177,u178,u179,u180,u181,u182,u183,u184,u185,u186,u187,u188,u189,u190,u191,u192,u193,u194,u195,u196,u197,u198,u199,u200,u201,u202,u203,u204,u205,u206,u207,u208,u209,u210,u211,u212,u213,u214,u215,u216,u217,u218,u219,u220,u221,u222,u223,u224,u225,u226,u227,u228,u229,u230,u231,u232,u233,u234,u235,u236,u237,u238,u239,u240,u241],[]⟩ w:=by
 replace HM:=tT HM
 replace HR:=tT HR
 replace HFO:=tT HFO
 replace HALL:=tT HALL
 replace HOFF:=tT HOFF
 replace HLL:=tT HLL
 replace HRI:=tT HRI
 have hn5:=HOK.n5
 have hn1:=HOK.n1
 have hm4:=HOK.h4
 have hm1:=HOK.h1
 replace HOK:=tT HOK
 have hl5:ls.length<=5:=by have:=HLL.out;omega
 have HLX:Hid (∀x∈ls,x.length<=4):=tT λx hx=>by
  obtain⟨p,rfl⟩:=HALL.out x hx
  exact Nat.le_trans (dA _ _) HOK.out.h4
 have ez:q8 10=cFst (cDrop 10 ay):=rfl
 simp only[cDrop,ay,Tryz.f8,Option.getD_some,cSnd,cFst] at ez
 rw[ez]
 clear ez
 go_wp2
 go_loopw [16] (λi wr=>∃k:Nat,k<=rs.length/\i=.int .i64 k/\Gr w wr) (λi _=>rs.length-(intOf i).toNat)
 case atStart=>exact⟨0,by omega,rfl,.refl _⟩
 case round =>
  obtain⟨k,hk,rfl,hgr⟩:=hrel
  have HGR:=tT hgr
  obtain⟨w0,rfl⟩:∃w0,w0=wr:=⟨_,rfl⟩
  by_cases hlt:k<rs.length
  ·have hmr:=HM.out.gr hgr
   have HMR:=tT hmr
   obtain⟨b,o,rfl,hb,h1,h2⟩:=((HR.out.gr (Nat.le_refl _) hgr).more hgr.size).at_ hlt
   have hx:=HRI.out _ (show rs[k]?.getD (0,0)∈rs by rw[List.getElem?_eq_getElem hlt];exact List.getElem_mem hlt)
   generalize rs[k]?.getD (0,0)=x at h1 h2 hx
   obtain⟨x1,y⟩:=x
   dsimp only at h1 h2 hx
   obtain⟨j,rfl⟩:∃j:Nat,x1=j:=⟨x1.toNat,by omega⟩
   have hjn:j<ls.length:=by have:=HLL.out;omega
   have hxy:=hx.2
   obtain⟨gb,go,oA,oc,rfl,hgb,hgc,hri⟩:=hmr.grid.at_ hjn
   have hon:=HALL.out _ (show ls[j]?.getD []∈ls by rw[List.getElem?_eq_getElem hjn];exact List.getElem_mem hjn)
   have HROS:Hid (rosOf ls j=ofL (ls[j]?.getD [])):=tT rfl
   have HWL:=tT (te hon hm4)
   have HON:=tT hon
   have hlon:=HLX.out _ (show ls[j]?.getD []∈ls by rw[List.getElem?_eq_getElem hjn];exact List.getElem_mem hjn)
   generalize ls[j]?.getD []=on at hgc hri hlon HROS HWL HON
   have HRON:=tT hri
   obtain⟨W1,hW1⟩:∃W1:World,W1=(w0.alloc (.cells #[.int .i64 (j:Int),.int .i64 y] 69)).drew:=⟨_,rfl⟩
   have hg1:Gr w0 W1:=hW1▸((Gr.refl w0).alloc _).drew
   have HG1:=tT hg1
   have HM1:=tT (hmr.gr hg1)
   have hrsa:=qC (w:=w0) W1 hW1
   have HRSA:=tT hrsa
   have HRE:=tT (gE (n:=c.needs.length) (rs:=[((j:Int),y)]) (λq hq=>by simp only[List.mem_cons,List.not_mem_nil,or_false] at hq;subst hq;exact hx) (by simp))
   have how:=kF nA hA (some ⟨gb,go,none⟩) (some ⟨w0.heap.size,0,none⟩) nc hc gc 1 c ls [((j:Int),y)] p W1 W1.heap.size (Nat.le_refl _) HM1.out.needs HM1.out.herds HM1.out.grid hrsa (by omega) (by omega) HOFF.out (by omega) (λx hx=>Nat.le_trans (HLX.out x hx) (by omega)) (by simp) (by simp) HFO.out HRE.out (by omega)
   unfold campV at how
   have HOW:Hid (Calls uG 49 #[.agg #[.slice nA c.needs.length nc,.slice hA c.herders.length hc],.slice (some ⟨gb,go,none⟩) ls.length gc,.slice (some ⟨w0.heap.size,0,none⟩) 1 1,.int .i64 p] W1 _):=tT how
   have HW1:=tT hW1
   have hcb:=HM1.out.lt
   have h10:=HM1.out.c0
   have h11:=HM1.out.c1
   clear hgr hmr how hrsa hW1 hg1 hri hx
   go_wp2
   go_region
   all_goals
    rw[<-HW1.out]
    go_wp2_with fail
    refine HOW.out.mono ?_
    rintro e w3 ⟨hg3,fA,fk,rfl,hog3⟩
    rw[fX] at hog3
    simp only[List.length_singleton] at hog3
    have HFB:=tT (λh t=>qN HOK.out (rosOf ls) (p:=p) (by omega) (wolvesL c.needs.length [((j:Int),y)] 1) h t)
    have HDUE:=tT (λ(t:Nat) (ht:t<c.herders.length)=>pi (r:=rosOf ls) (n:=c.needs.length) (y:=y) (p:=p) (j:=j) HOK.out ht (by rw[HROS.out,HWL.out];intro x hx;obtain⟨p,hp⟩:=HON.out;rw[hp] at hx;have:=upto_ch hx;exact this))
    have HOUT:=tT (λ(t a:Nat) (ha:(a:Int) ∉ on)=>pj (n:=c.needs.length) (y:=y) (p:=p) (j:=j) (t:=t) (a:=a) (r:=rosOf ls) HOK.out (by rw[HROS.out,HWL.out];exact ha))
    have HCB:=tT (λt:Nat=>sj HOK.out (rosOf ls) (wolvesL c.needs.length [((j:Int),y)] 1) (t:Int))
    have HLA:=tT (λ(t:Nat) (ht:t<c.herders.length)=>si (r:=rosOf ls) (n:=c.needs.length) (rs:=[((j:Int),y)]) ht)
    simp only[List.length_singleton] at HLA
    rw[HROS.out,HWL.out] at HDUE
    have HM3:=tT (HM1.out.gr hg3)
    have HRS3:=tT ((HRSA.out.gr (Nat.le_refl _) hg3).more hg3.size)
    have hlo:=tg nA hA (some ⟨gb,go,none⟩) (some ⟨w0.heap.size,0,none⟩) nc hc gc 1 c ls [((j:Int),y)] w3 w3.heap.size (Nat.le_refl _) HM3.out.needs HM3.out.herds HM3.out.grid HRS3.out (by omega) (by omega) HOFF.out (by omega) (λx hx=>Nat.le_trans (HLX.out x hx) (by omega)) (by simp) (by simp) HFO.out HRE.out
    unfold campV at hlo
    have HLO:Hid (Calls uG 52 #[.agg #[.slice nA c.needs.length nc,.slice hA c.herders.length hc],.slice (some ⟨gb,go,none⟩) ls.length gc,.slice (some ⟨w0.heap.size,0,none⟩) 1 1] w3 _):=tT hlo
    have hc3:=HM3.out.lt
    have h30:=HM3.out.c0
    have h31:=HM3.out.c1
    have HO3:=tT hog3
    have HG3:=tT ((HGR.out.trans HG1.out).trans hg3)
    have HRO3:=tT ((HRON.out.on HG1.out).on hg3)
    clear HOW hog3 hg3 hlo
    go_wp2_with fail
    refine HLO.out.mono ?_
    rintro e w4 ⟨hg4,lA,lk,rfl,hri4⟩
    have HG4:=tT (HG3.out.trans hg4)
    have HRO4:=tT (HRO3.out.on hg4)
    have HO4:=tT ((HO3.out.gr (Nat.le_refl _) hg4).more hg4.size)
    obtain⟨F,hF⟩:∃F,F=FO c (rosOf ls) p (wolvesL c.needs.length [((j:Int),y)] 1):=⟨_,rfl⟩
    rw[<-hF] at HFB HDUE HOUT HO4
    obtain⟨LL,hLL⟩:∃LL,LL=lostL c (rosOf ls) c.needs.length [((j:Int),y)]:=⟨_,rfl⟩
    rw[<-hLL] at HLA hri4
    obtain⟨V,hV⟩:∃V:Nat->Nat,∀t:Nat,(cntBy (·.2) (lossesL c (rosOf ls) (wolvesL c.needs.length [((j:Int),y)] 1)) (t:Int))=V t:=⟨_,λ_=>rfl⟩
    simp only[hV] at HCB HLA HDUE
    clear hF hLL hV
    have HRL:=tT hri4
    have HSQ:=tT (kP fA fk c.herders.length (tabL c.herders.length F) w4 w4.heap.size HO4.out (tabL_len _ _) (by omega) (kN HFB.out _))
    clear HLO hg4 hri4 h30 h31 hc3 HO3 HM3
    go_wp2_with fail
    refine HSQ.out.mono ?_
    rintro e w' ⟨rfl,rfl⟩
    clear HSQ
    go_wp2
    clear HR HRI HALL HRON HRO3 HRSA HRS3 HM1 HMR HM HRE HG1 HW1 HFO HROS HWL
    clear h1 h2 hgc hcb h10 h11
    go_loopw [23] (λi wr=>∃q:Nat,q<=c.herders.length/\i=.int .i64 q/\wr=w4) (λi _=>c.herders.length-(intOf i).toNat)
    case atStart=>exact⟨0,by omega,rfl,rfl⟩
    case round =>
     obtain⟨q,hq,rfl,rfl⟩:=hrel
     by_cases hlq:q<c.herders.length
     ·go_wp2
      go_loopw [24,26] (λs i wr'=>∃a:Nat,a<=c.herders.length/\i=.int .i64 a/\s=.int .i64 (sumTo (λa=>F a q) a)/\wr'=wr) (λ_ i _=>c.herders.length-(intOf i).toNat)
      case atStart=>exact⟨0,by omega,rfl,rfl,rfl⟩
      case round =>
       obtain⟨a,ha,rfl,rfl,rfl⟩:=hrel
       by_cases hla:a<c.herders.length
       ·obtain⟨b1,o1,A1,c1,rfl,hb1,hc1,b2,o2,rfl,hb2,hd2⟩:=tab_cells HO4.out hla
        have q2:=hd2 q hlq
        have f2:=HFB.out a q
        have f3:=qy (f:=λa=>F a q) (b:=64000) (λa=>HFB.out a q) a
        have HS:Hid (sumTo (λa=>F a q) (a+1)=sumTo (λa=>F a q) a+F a q):=tT rfl
        have hou:=HOUT.out q a
        have HPL:=tT (kO oA oc on (a:Int) wr wr.heap.size HRO4.out (by omega))
        generalize sumTo (λa=>F a q) a=s at f3 HS
        generalize F a q=z at q2 f2 HS hou
        have HOU:=tT hou
        clear hd2 hou
        go_wp2_with fail
        refine HPL.out.mono ?_
        rintro e w' ⟨⟨r,rfl,hr⟩,rfl⟩
        clear HPL
        rcases hr with⟨rfl,hno⟩|⟨i,rfl,hi⟩
        ·have hz:=HOU.out hno
         subst hz
         clear hno
         go_wp2
         go_roundw
         case rel=>exact⟨a+1,by omega,by go_num,by rw[HS.out,Int.add_zero],trivial⟩
         case measure=>simp[intOf];omega
        ·have hd:decide ((i:Int)<0)=false:=by simp
         clear hi
         go_wp2
         go_roundw
         case rel=>exact⟨a+1,by omega,by go_num,by rw[HS.out],trivial⟩
         case measure=>simp[intOf];omega
       ·have han:a=c.herders.length:=by omega
        subst han
        have hdue:=HDUE.out q hlq
        have hvb:=HCB.out q
        obtain⟨b1,o1,rfl,hb1,hc1⟩:=HRL.out (λe=>by have:=HLA.out q hlq;rw[e] at this;simp at this)
        have hv:=hc1 q _ (HLA.out q hlq)
        have HDD:Hid (dueOf p on (q:Int)=if on=[] then 0 else p-partK p on q on.length):=tT rfl
        generalize sumTo (λa=>F a q) c.herders.length=s at hdue
        generalize dueOf p on (q:Int)=D at hdue HDD
        generalize V q=v at hdue hvb hv
        clear hc1
        by_cases hon0:on=[]
        ·have hl0:on.length=0:=by rw[hon0];rfl
         have hD:D=0:=HDD.out.trans (if_pos hon0)
         have hs:s=0:=by rw[hdue,hD];simp
         subst hs
         clear hdue hD hon0
         go_wp2
         go_roundw
         case rel=>exact⟨q+1,by omega,by go_num,trivial⟩
         case measure=>simp[intOf];omega
        ·have hlp:0<on.length:=List.length_pos_iff.2 hon0
         have hgt:decide ((on.length:Int) > 0)=true:=by simp;omega
         have HD2:=tT (HDD.out.trans (if_neg hon0))
         have HPL:=tT (kO oA oc on (q:Int) wr wr.heap.size HRO4.out (by omega))
         have HPI:=tT (λ(i:Nat) (hi:on[i]?=some (q:Int))=>sd (p:=p) hi (by obtain⟨p,hp⟩:=HON.out;rw[hp];exact chosen_asc _ _) on.length (Nat.le_refl _))
         have HPO:=tT (λ(hi:(q:Int) ∉ on)=>kL (p:=p) hi on.length (Nat.le_refl _))
         have HDU:=tT hdue
         clear hdue hon0
         go_wp2_with fail
         refine HPL.out.mono ?_
         rintro e w' ⟨⟨r,rfl,hr⟩,rfl⟩
         clear HPL
         rcases hr with⟨rfl,hno⟩|⟨i,rfl,hi⟩
         ·have hpo:=HPO.out hno
          have hD:D=p:=by have:=HD2.out;omega
          have hm:p*(v:Int)=s:=by rw[HDU.out,hD]
          have hmb:0<=s/\s<=99*160:=by rw[<-hm];exact⟨Int.mul_nonneg hp.1 (by omega),Int.mul_le_mul hp.2 (by omega) (by omega) (by omega)⟩
          clear hno hpo hD
          go_wp2
          go_roundw
          case rel=>exact⟨q+1,by omega,by go_num,trivial⟩
          case measure=>simp[intOf];omega
         ·have hpi:=HPI.out i hi
          have hil:i<on.length:=by obtain⟨h,_⟩:=List.getElem?_eq_some_iff.1 hi;exact h
          rw[if_pos hil] at hpi
          have hd1:decide ((i:Int) ≥ 0)=true:=by simp
          have hq1:0<=p / (on.length:Int):=Int.ediv_nonneg hp.1 (by omega)
          have hq2:p / (on.length:Int)<=p:=Int.ediv_le_self _ hp.1
          clear hi
          by_cases hrem:(i:Int)<p % (on.length:Int)
          ·rw[if_pos hrem] at hpi
           have hD:D=p-p / (on.length:Int)-1:=by have:=HD2.out;omega
           have hD0:0<=p-p / (on.length:Int)-1/\p-p / (on.length:Int)-1<=99:=tj hlp hlon hp hrem
           have hm:(p-p / (on.length:Int)-1)*(v:Int)=s:=by rw[HDU.out,hD]
           have hmb:0<=s/\s<=99*160:=by rw[<-hm];exact⟨Int.mul_nonneg hD0.1 (by omega),Int.mul_le_mul hD0.2 (by omega) (by omega) (by omega)⟩
           clear hD hpi
           go_wp2
           go_roundw
           case rel=>exact⟨q+1,by omega,by go_num,trivial⟩
           case measure=>simp[intOf];omega
          ·rw[if_neg hrem] at hpi
           have hD:D=p-p / (on.length:Int):=by have:=HD2.out;omega
           have hm:(p-p / (on.length:Int))*(v:Int)=s:=by rw[HDU.out,hD]
           have hmb:0<=s/\s<=99*160:=by rw[<-hm];exact⟨Int.mul_nonneg (by omega) (by omega),Int.mul_le_mul (by omega) (by omega) (by omega) (by omega)⟩
           clear hD hpi
           go_wp2
           go_roundw
           case rel=>exact⟨q+1,by omega,by go_num,trivial⟩
           case measure=>simp[intOf];omega
     ·have hqn:q=c.herders.length:=by omega
      subst hqn
      go_wp2
      go_roundw
      case rel=>exact⟨k+1,by omega,by go_num,HG4.out⟩
      case measure=>simp[intOf];omega
  ·have hkn:k=rs.length:=by omega
   subst hkn
   go_wp2
   exact HGR.out
open Go.RowKit Go.Sq
open Go.Iso (bH dz cZ)
def pn (A:Option Addr)(cap:Nat)(l:List Int)(w:World)(h:RI w w.heap.size A l)(tmps:Array Value)(ht:tmps=#[Value.slice A l.length cap]++Array.replicate 241 undef) :
  bH uG iM ay (λa _=>a.tmps.size=242/\a.defers=[]) ⟨tmps,[]⟩ w:=by
 have HNH:=tT (pc A cap l w h)
 clear h
 rw[qB]
 subst ht
 simp only[Array.replicate_succ,Array.replicate_zero,List.push_toArray,List.append_toArray,List.nil_append,List.cons_append]
 refine Go.Iso.goesTo_seq_k λK hK=>?_
 have ez:q8 0=cFst (cDrop 0 ay):=rfl
 simp only[cDrop,ay,Tryz.f8,Option.getD_some,cSnd,cFst] at ez
 rw[ez]
 clear ez
 go_wp2
 refine Go.Iso.goesTo_seq_k λK hK=>?_
 have ez:q8 1=cFst (cDrop 1 ay):=rfl
 simp only[cDrop,ay,Tryz.f8,Option.getD_some,cSnd,cFst] at ez
 rw[ez]
 clear ez
 go_wp2_with fail
 refine HNH.out.mono ?_
 rintro e w1 ⟨rfl,hh1,hg1⟩
 have HCO:=tT (qs _ _ A cap l 0 w1 hh1 (by omega))
 have hlt1:=hh1.lt
 clear hh1 hg1 HNH
 go_wp2
 refine Go.Iso.goesTo_seq_k λK hK=>?_
 have ez:q8 2=cFst (cDrop 2 ay):=rfl
 simp only[cDrop,ay,Tryz.f8,Option.getD_some,cSnd,cFst] at ez
 rw[ez]
 clear ez
 go_wp2_with fail
 refine HCO.out.mono ?_
 rintro e w2 ⟨c,nA,hA,nc,hc,rfl,hok,hck,hneed,hherd,hh2,hkh2⟩
 have HOK:=tT hok
 have HCK:=tT hck
 obtain⟨W2,hW2⟩:∃W2:World,W2=w2.alloc (.cells #[.slice nA c.needs.length nc,.slice hA c.herders.length hc] 25):=⟨_,rfl⟩
 have hz2:=hkh2.size
 have HN2:=tT hneed
 have HH2:=tT hherd
 have HZ2:Hid (W2.heap.size=w2.heap.size+1):=tT (by rw[hW2];simp)
 have HCB:Hid (W2.cell? ⟨w2.heap.size,0,none⟩=some (.slice nA c.needs.length nc)/\W2.cell? ⟨w2.heap.size,1,none⟩=some (.slice hA c.herders.length hc)):=tT (by
  rw[hW2,World.cell?_alloc_at _ _ _ _ rfl,World.cell?_alloc_at _ _ _ _ rfl];exact⟨rfl,rfl⟩)
 have hgw2:Gr w2 W2:=hW2▸(Gr.refl w2).alloc _
 have HGW2:=tT hgw2
 have HRO:=tT (mZ _ _ A nA hA cap nc hc l 1000 c.needs.length c.herders.length W2 ((hh2.gr hgw2).more (by omega)) (by omega) (by have:=HOK.out.n5;omega) (by have:=HOK.out.h4;omega))
 have HW2:=tT hW2
 unfold campV
 clear HCO hneed hherd hh2 hkh2 hok hck hW2 hgw2
 go_wp2
 rw[<-HW2.out]
 obtain⟨hcb0,hcb1⟩:=HCB.out
 refine Go.Iso.goesTo_seq_k λK hK=>?_
 have ez:q8 3=cFst (cDrop 3 ay):=rfl
 simp only[cDrop,ay,Tryz.f8,Option.getD_some,cSnd,cFst] at ez
 rw[ez]
 clear ez
 have hbl:w2.heap.size<W2.heap.size:=by have:=HZ2.out;omega
 go_wp2_with fail
 refine HRO.out.mono ?_
 rintro e w4 ⟨v,ls,xs,rfl,hog,hll,hall,hh4,hkh4⟩
 have hmk:MadeK c nA hA v w2.heap.size nc hc w1.heap.size ls xs w4:=by
  have hsz:=hkh4.size
  have hz:=HZ2.out
  have hk:∀b o,w1.heap.size<=b/\b<w2.heap.size->w4.cell? ⟨b,o,none⟩=w2.cell? ⟨b,o,none⟩:=λb o hb=>(World.cell?_of_block (a:=⟨b,o,none⟩) (hkh4.block b (by omega) (by omega))).trans (HGW2.out.cell (p:=⟨b,o,none⟩) hb.2)
  exact⟨⟨hz2,by omega⟩,(World.cell?_of_block (hkh4.block w2.heap.size hbl (by omega))).trans hcb0,(World.cell?_of_block (hkh4.block w2.heap.size hbl (by omega))).trans hcb1,eX HN2.out (λb hb=>⟨hb.1,by omega⟩) hk,gY HH2.out (λb hb=>⟨hb.1,by omega⟩) hk,⟨cy hog.row (by omega),λi x hi=>by
   obtain⟨u,h1,h2⟩:=hog.cells i x hi
   exact⟨u,h1,cy h2 (by omega)⟩⟩⟩
 have HMK:=tT hmk
 have HLL:=tT hll
 have HALL:=tT hall
 have HFO:=tT (pd HCK.out hll hall)
 have HLX:Hid (∀x∈ls,x.length<=4):=tT λx hx=>by
  obtain⟨p,rfl⟩:=hall x hx
  exact Nat.le_trans (dA _ _) HOK.out.h4
 have hn5:=HOK.out.n5
 have hn1:=HOK.out.n1
 have hm4:=HOK.out.h4
 have hm1:=HOK.out.h1
 have HOFF:Hid (∀h∈c.herders,h.off.length<=4611686018427387904):=tT λh hh=>Nat.le_trans (HOK.out.off h hh).1 (by omega)
 have hl5:ls.length<=5:=by omega
 have hlt4:w.heap.size<w1.heap.size:=hlt1
 obtain⟨gA,gc,hv,_⟩:=hog.grAt
 subst hv
 have HH4:=tT hh4
 have HUP:=tT (dj _ _ A cap l _ 99 w4 hh4 (by have:c.needs.length*c.herders.length<=5*4:=Nat.mul_le_mul hn5 hm4;omega) (by omega))
 clear HRO hog hall hh4 hkh4 hmk hcb0 hcb1 hbl hll
 go_wp2_with fail
 refine HUP.out.mono ?_
 rintro e w5 ⟨⟨pz,rfl,hpz⟩,hh5,hk5⟩
 have hp99:pz<=99:=by omega
 have HMK5:=tT (HMK.out.deal hlt4 hk5)
 have HRD:=tT (pm _ _ A nA hA cap nc hc l 2000 c.needs.length c.herders.length w5 (hh5.more (by have:c.needs.length*c.herders.length<=5*4:=Nat.mul_le_mul hn5 hm4;omega)) (by omega) (by omega))
 have hb5:=HMK5.out.bd.2
 have h50:=HMK5.out.c0
 have h51:=HMK5.out.c1
 clear hh5 hk5 HUP hpz
 go_wp2
 refine Go.Iso.goesTo_seq_k λK hK=>?_
 have ez:q8 4=cFst (cDrop 4 ay):=rfl
 simp only[cDrop,ay,Tryz.f8,Option.getD_some,cSnd,cFst] at ez
 rw[ez]
 clear ez
 go_wp2_with fail
 refine HRD.out.mono ?_
 rintro e w6 ⟨rv,rs,rfl,hrow,hrl,hrn,hri,_,hk6⟩
 obtain⟨rA,rc,rfl,hra,hrc⟩:=RsAt_own hrow
 have HM6:=tT (HMK5.out.deal hlt4 hk6).made
 have HRA:=tT hra
 have HRI:=tT hri
 have HRE:=tT (gE hri hrn)
 have hb6:=HM6.out.lt
 have h60:=HM6.out.c0
 have h61:=HM6.out.c1
 have hr5:rs.length<=5:=by omega
 have HOW:=tT (kF nA hA gA rA nc hc gc rc c ls rs pz w6 w6.heap.size (Nat.le_refl _) HM6.out.needs HM6.out.herds HM6.out.grid hra (by omega) (by omega) HOFF.out (by omega) (λx hx=>Nat.le_trans (HLX.out x hx) (by omega)) (by omega) hrc HFO.out HRE.out (by omega))
 unfold campV at HOW
 clear HRD hrow hrn hri hk6 hra h50 h51 hb5 HMK5 HMK HH4
 go_wp2
 refine Go.Iso.goesTo_seq_k λK hK=>?_
 have ez:q8 5=cFst (cDrop 5 ay):=rfl
 simp only[cDrop,ay,Tryz.f8,Option.getD_some,cSnd,cFst] at ez
 rw[ez]
 clear ez
 go_wp2
 refine Go.Iso.goesTo_seq_k λK hK=>?_
 have ez:q8 6=cFst (cDrop 6 ay):=rfl
 simp only[cDrop,ay,Tryz.f8,Option.getD_some,cSnd,cFst] at ez
 rw[ez]
 clear ez
 go_wp2_with fail
 refine HOW.out.mono ?_
 rintro e w7 ⟨hg7,oA,ok,rfl,hog7⟩
 rw[fX] at hog7
 have HFB:=tT (λh t=>qN HOK.out (rosOf ls) (p:=pz) (by omega) (wolvesL c.needs.length rs rs.length) h t)
 have HFS:=tT (λh=>se c (rosOf ls) pz (wolvesL c.needs.length rs rs.length) h)
 have HM7:=tT (HM6.out.gr hg7)
 have HRA7:=tT ((HRA.out.gr (Nat.le_refl _) hg7).more hg7.size)
 have HBA:=tT (iI nA hA gA rA nc hc gc rc c ls rs pz w7 w7.heap.size (Nat.le_refl _) HM7.out.needs HM7.out.herds HM7.out.grid HRA7.out (by omega) (by omega) HOFF.out (by omega) (λx hx=>Nat.le_trans (HLX.out x hx) (by omega)) (by omega) hrc HFO.out HRE.out (by omega))
 rw[fX] at HBA
 obtain⟨F,hF⟩:∃F,F=FO c (rosOf ls) pz (wolvesL c.needs.length rs rs.length):=⟨_,rfl⟩
 rw[<-hF] at hog7 HFB HFS HBA
 clear hF
 have HO7:=tT hog7
 have hb7:=HM7.out.lt
 have h70:=HM7.out.c0
 have h71:=HM7.out.c1
 unfold campV at HBA
 clear HOW hg7 hog7 h60 h61 hb6 HM6 HRA
 go_wp2
 refine Go.Iso.goesTo_seq_k λK hK=>?_
 have ez:q8 7=cFst (cDrop 7 ay):=rfl
 simp only[cDrop,ay,Tryz.f8,Option.getD_some,cSnd,cFst] at ez
 rw[ez]
 clear ez
 go_wp2_with fail
 refine HBA.out.mono ?_
 rintro e w8 ⟨hg8,bA,bk,rfl,hb8⟩
 have HM8:=tT (HM7.out.gr hg8)
 have HRA8:=tT ((HRA7.out.gr (Nat.le_refl _) hg8).more hg8.size)
 have HO8:=tT ((HO7.out.gr (Nat.le_refl _) hg8).more hg8.size)
 have HB8:=tT hb8
 have HSQ:=tT (kP oA ok c.herders.length (tabL c.herders.length F) w8 w8.heap.size HO8.out (tabL_len _ _) (by omega) (kN HFB.out _))
 have HTT:=tT (qA bA bk (balL (tabL c.herders.length F)) w8 w8.heap.size hb8 (by rw[balL_len];omega) (sf HFB.out hm4))
 rw[balL_len,qu] at HTT
 clear HBA hg8 hb8 h70 h71 hb7 HM7 HO7 HRA7
 go_wp2
 refine Go.Iso.goesTo_seq_k λK hK=>?_
 have ez:q8 8=cFst (cDrop 8 ay):=rfl
 simp only[cDrop,ay,Tryz.f8,Option.getD_some,cSnd,cFst] at ez
 rw[ez]
 clear ez
 go_wp2_with fail
 refine HSQ.out.mono ?_
 rintro e w' ⟨rfl,rfl⟩
 go_wp2_with fail
 refine HTT.out.mono ?_
 rintro e w' ⟨rfl,rfl⟩
 clear HSQ HTT
 go_wp2
 refine Go.Iso.goesTo_seq_k λK hK=>?_
 have ez:q8 9=cFst (cDrop 9 ay):=rfl
 simp only[cDrop,ay,Tryz.f8,Option.getD_some,cSnd,cFst] at ez
 rw[ez]
 clear ez
 refine th HO8.out HB8.out HFB.out HFS.out hm4 λw9 hg9=>?_
 intros
 have HM9:=tT (HM8.out.gr hg9)
 have HRA9:=tT ((HRA8.out.gr (Nat.le_refl _) hg9).more hg9.size)
 apply hK
 refine Go.Iso.goesTo_seq_k λK hK=>?_
 have ez:q8 10=cFst (cDrop 10 ay):=rfl
 simp only[cDrop,ay,Tryz.f8,Option.getD_some,cSnd,cFst] at ez
 rw[ez]
 clear ez
 refine qD (p:=(pz:Int)) HM9.out HRA9.out HOK.out HFO.out HALL.out HOFF.out HLL.out HRI.out hr5 (by omega) λw10 _=>?_
 intros
 apply hK
 exact cZ ⟨rfl,rfl⟩
open Go.RowKit Go.Iso Go.Co Go.Conc Go.ConcN Go.Sq
noncomputable def end8:LawEnd 8 iM where
 fn:=Tryz.f8
 r:=47
 o1:=(cOps (av iM)).getD 0 default
 o2:=(cOps (av iM)).getD 1 default
 d:=241
 t:=2
 n:=242
 hf:=Tryz.func8
 hl:=by kernel_rfl
 h1:=⟨by kernel_rfl,by kernel_rfl,#[],by kernel_rfl⟩
 h2:=⟨by kernel_rfl,by kernel_rfl,by kernel_rfl⟩
 hres:=by kernel_rfl
 hd:=by decide
 ht:=by decide
 plain:=⟨by kernel_rfl,by kernel_rfl⟩
 looked:=by decide
 hn:=Tryz.ntmps8
def qE:codeOk uG SBy false true ay=true:=by kernel_rfl
def numsK (A:Option Addr)(b:Nat):Bool:=match A with|some a=>b==a.block|none=>false
def numsC (A:Option Addr)(n:Nat)(_ i:Nat):Bool:=match A with|some a=>decide (a.off<=i)&&decide (i<a.off+n)|none=>false
def kQ (b o n:Nat):(⟨b,o,none⟩:Addr).add n=⟨b,o+n,none⟩:=by
 unfold Addr.add
 split
 ·rename_i h
  first
   |(have h0:n=0:=h;subst h0;rfl)
   |(simp at h)
   |(simp at h;subst h;rfl)
 ·rfl
def law8_run {A:Option Addr}{len cap:Nat}{zs:List Int}{W:World}(hz:len<=zs.length)(hA:∀a,A=some a->a.spot=none/\∃C t f,W.heap[a.block]?=some (.cells C t f))(hnil:A=none->len=0)
  (hcell:∀a i,A=some a->i<zs.length->W.cell? (a.add i)=some (.int .i64 (zs.getD i 0))) :
  ∃M last o w' t',runNT Tryz.prog (M+1) (solo (Go.Conc.G (Frame.enter Tryz.prog 8 #[.slice A len cap] .normal) []) W) #[]=(.ended o w',t')/\runN Tryz.prog M (solo (Go.Conc.G (Frame.enter Tryz.prog 8 #[.slice A len cap] .normal) []) W)=.next last/\step Tryz.prog last=.ended o w' /\
   Go.Conc.Good Tryz.prog (λv w'=>v=.bool true/\(w'.os=W.os/\w'.output=W.output)/\W.heap.size<=w'.heap.size/\∀B,B<W.heap.size->w'.heap[B]?=W.heap[B]?) last o w' t':=by
 refine oZ (K:=numsK A) (k:=numsC A zs.length) end8 (C:=ay) (by kernel_rfl) (by decide) (by decide) (by decide) qE (λS b hb=>?_) (λS=>?_) λτ d=>?_
 ·cases A with
  |none=>cases hb
  |some a =>
   have e:b=a.block:=by simpa [numsK] using hb
   subst e
   obtain⟨hs,C,t,f,h1⟩:=hA a rfl
   refine⟨C,t,f,h1,λi v hk hv=>?_⟩
   simp only[numsC,Bool.and_eq_true,decide_eq_true_eq] at hk
   have:=hcell a (i-a.off) rfl (by omega)
   obtain⟨b,o,s⟩:=a
   dsimp only at hs h1 hk
   subst hs
   rw[kQ] at this
   simp only[Option.isSome_none,Bool.false_eq_true,if_false,World.cell?,h1] at this
   rw[show o+(i-o)=i by omega,hv] at this
   cases this
   exact .int _ _
 ·cases A with
  |none=>exact .one (.nils _ _)
  |some a =>
   obtain⟨b,o,s⟩:=a
   exact .one (.slice _ _ _ _ ⟨by simp[numsK],rfl⟩)
 ·have hlen:(zs.take len).length=len:=by simp[Nat.min_eq_left hz]
  have:=pn A cap (zs.take len) (on (aY (numsK A) (numsC A zs.length) W) τ d) (λhne=>?_) _ rfl
  ·rw[hlen] at this
   have e1:end8.n=242:=rfl
   have e2:end8.n-(#[Value.slice A len cap]:Array Value).size=241:=rfl
   rw[e2,e1]
   exact this
  ·cases A with
   |none =>
    have:=hnil rfl
    subst this
    exact absurd rfl hne
   |some a =>
    obtain⟨hs,C,t,f,h1⟩:=hA a rfl
    obtain⟨b,o,s⟩:=a
    dsimp only at hs h1
    subst hs
    refine⟨b,o,rfl,?_,λi x hx=>?_⟩
    ·show b<(aY _ _ W).heap.size
     rw[lr]
     exact(Array.getElem?_eq_some_iff.1 h1).1
    ·have hi : i < len := by
      have:=(List.getElem?_eq_some_iff.1 hx).1
      omega
     have hi2:i<zs.length:=by omega
     show(aY _ _ W).cell? ⟨b,o+i,none⟩=_
     rw[lw (λ_=>by simp[numsC];omega)]
     have:=hcell ⟨b,o,none⟩ i rfl hi2
     rw[kQ] at this
     rw[this]
     rw[List.getElem?_take,if_pos hi,List.getElem?_eq_getElem hi2] at hx
     cases hx
     simp[List.getD_eq_getElem?_getD,List.getElem?_eq_getElem hi2]
open Go.ChangeShapes Go.WideShapes Go.ChangeAt Go.RowKit Go.Conc
def Tryz.own:ownKnob Tryz.prog.godebug=none:=by kernel_rfl
def Tryz.laidOut:laidOutB Tryz.prog=true:=by kernel_rfl
def Tryz.cells3:Tryz.prog.cellsOf 3=1:=by kernel_rfl
def has_cells {P:Program}{w:World}{r:Reach}{base:Nat}{t e:TypeId}{a:Addr}{len cap:Nat}(ht:P.underlying t=some (.slice e))(h:Value.okWide P w r base t (.slice (some a) len cap)):a.spot=none/\∃C ty f,w.heap[a.block]?=some (.cells C ty f):=by
 unfold Value.okWide at h
 rw[ht] at h
 dsimp only at h
 unfold Cell.okWide at h
 rw[ht] at h
 dsimp only at h
 unfold Cell.ok at h
 rw[ht] at h
 dsimp only at h
 obtain⟨_,_,_,hs,row,cells,hsh,_⟩:=h
 refine⟨hs,?_⟩
 unfold World.shape? at hsh
 cases ho:w.heap[a.block]? with
 |none=>rw[ho] at hsh;cases hsh
 |some o =>
  rw[ho] at hsh
  cases o with
  |cells C ty f=>exact⟨C,ty,f,rfl⟩
  |_=>cases hsh
def gZ (os:Os)(started:os.Started)(H:Type)(enc:TypeId×Value->H)(F:Stop.Interp) :
  ReturnsInLeavingWide { calm:=true } Tryz.checked os 8 .any (Rows.wolfDebtsSpec.pre6 enc Tryz.prog Tryz.f8 [] false) ((OpenSpec.ofChange Rows.wolfDebtsSpec).postWith enc Tryz.prog Tryz.f8 F (outsideKept [.timePasses]) false true false):=by
 refine returnsInLeavingWide_of_change_time (C:=Tryz.checked) Tryz.own started Tryz.func8
  (ChangeSpec.witness6c (enc:=enc) (C:=Tryz.checked) ⟨#[],#[.slice none 0 0],[]⟩ 8 (by kernel_rfl) (by kernel_rfl) (by kernel_rfl) (by kernel_rfl)) ?_
 intro W base args ds gs before hval0 hW _ _ _
 have hval:∀(j:Nat) t v,Tryz.f8.params[j]?=some t->args[j]?=some v->Value.okWide Tryz.prog W .any base t v:=hval0
 have hW':=hW
 obtain⟨p,q,hA0,hV,rfl,_,_⟩:=hW
 have hA:DataW.TrodAll enc Tryz.prog W 0 (λ_=>true) true Tryz.f8.params.toList args.toList ds p:=hA0
 rw[Tryz.params8] at hA hval
 obtain⟨v0,d0,rfl,rfl,h0⟩:=trodAll_one hA
 obtain⟨rfl,rfl⟩:=trodVars_none hV
 have hv0:=hval 0 _ v0 rfl rfl
 obtain⟨a0,len,cap,rfl⟩:=okWide_slice Tryz.underlying22 hv0
 have h0k:=h0
 obtain⟨fuel,hf⟩:=h0
 clear hA0 hval0
 simp only[List.append_nil] at hW'
 have hlt:∀x∈p,x.block<W.heap.size:=λx hx=>by simpa using hW'.lt x hx
 have close : ∀ (zs : List Int), len <= zs.length -> (a0 = none -> len = 0) -> (∀ a i, a0 = some a -> i < zs.length -> W.cell? (a.add i) = some (.int .i64 (zs.getD i 0))) ->
   ∃M last o w' t',runNT Tryz.checked.prog (M+1) (solo (G (Frame.enter Tryz.checked.prog 8 #[.slice a0 len cap] .normal) []) W) #[]=(.ended o w',t') /\
    runN Tryz.checked.prog M (solo (G (Frame.enter Tryz.checked.prog 8 #[.slice a0 len cap] .normal) []) W)=.next last/\step Tryz.checked.prog last=.ended o w' /\
    Conc.Good Tryz.checked.prog (λv W'=>Rows.wolfDebtsSpec.post enc Tryz.checked.prog Tryz.f8 false true false false W #[.slice a0 len cap] v { W' with os:=W.os }/\Go.ConcM.OsLater W.os W'.os) last o w' t':=by
  intro zs hz hnil hel
  obtain⟨M,last,o,w',t',h1,h2,h3,h4⟩:=law8_run (cap:=cap) hz (λa e=>by subst e;exact has_cells Tryz.underlying22 hv0) hnil hel
  refine⟨M,last,o,w',t',h1,h2,h3,h4.mono λv hF=>?_⟩
  obtain⟨rfl,⟨e1,e2⟩,e3,e4⟩:=hF
  refine⟨?_,by rw[e1];exact Go.ConcM.OsLater.refl _⟩
  have hbel:Below W.heap.size W { w' with os:=W.os,tape:=W.tape }:=⟨rfl,rfl,e2,e3,λk hk=>e4 k hk⟩
  have hfr:=hbel.frame (λx=>x∈p/\(x∈([]:List MemPlace)\/x∈p\/x∈([]:List MemPlace)))
  have harg:=Below.trod Tryz.laidOut (by kernel_rfl) (of_decide_eq_true (by kernel_rfl)) h0k hbel hlt
  refine⟨_,_,_,[],p,[],hW',?_,?_,rfl,hfr,λh=>by cases h⟩
  ·exact trodAll_mk1 (shut_bool (by first|exact Tryz.underlying1|kernel_rfl) true)
  ·have h2:DataW.Trod enc Tryz.prog { w' with os:=W.os } 0 (λb=>decide (b<W.heap.size)) true 22 (.slice a0 len cap) d0 p:=harg.of_heap (by rfl)
   exact trodAll_mk1 h2
 rcases open_ints Tryz.underlying22 Tryz.underlying3 Tryz.cells3 hf with⟨hcs,hx⟩|⟨a,len',cap',zs,hcs,_,hl,hm,hz,hx,hcell,hwz⟩
 ·simp[Value.cells] at hcs
  obtain⟨rfl,rfl,rfl⟩:=hcs
  exact close [] (by simp) (λ_=>rfl) (λa i e=>by cases e)
 ·simp[Value.cells] at hcs
  obtain⟨rfl,rfl,rfl⟩:=hcs
  simp only[if_true] at hz
  exact close zs (by omega) (λe=>by cases e) (λa' i e hi=>by cases e;exact hcell i hi)
def typed3:laidOutB Tryz.checked.prog=true/\mapsRowed Tryz.checked.prog=true/\Tryz.checked.prog.plainKeys=true:=Go.ClosedOfChecked.closed_of_checked Tryz.checked (by kernel_rfl) (by kernel_rfl) (by kernel_rfl)
def closed8:joinedFacts Tryz.pinned.checked.prog 8 Tryz.f8 Rows.wolfDebtsSpec Rows.wolfDebtsRow=true:=by
 show joinedFacts Tryz.checked.prog 8 Tryz.f8 Rows.wolfDebtsSpec Rows.wolfDebtsRow=true
 obtain⟨h1,h2,h3⟩:=typed3
 unfold joinedFacts
 rw[h1,h2,h3]
 kernel_rfl
def named8:Tryz.pinned.checked.prog.funcNamed Rows.wolfDebtsRow.func=some 8:=by kernel_rfl
theorem wolfDebts_holds:Rows.WolfDebtsSaid :=
 OpenClaim.holds_of_wide_leaving_time 8 Tryz.f8 rfl rfl rfl rfl rfl rfl rfl ⟨rfl,rfl,rfl,rfl,rfl⟩ rfl rfl rfl rfl rfl named8 Tryz.func8 closed8
  (of_decide_eq_true (by kernel_rfl)) (by unfold Func.isWrapper;first|(rw[if_pos (by decide +kernel)];kernel_rfl)|(rw[if_neg (by decide +kernel)];exact⟨rfl,rfl⟩))
  (λos started H enc _ F=>gZ os started H enc F)
end Go.Proofs.YtefcpflbnmldcaaGreat
