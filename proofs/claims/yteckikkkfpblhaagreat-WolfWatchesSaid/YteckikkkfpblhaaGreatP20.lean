/- Parts of the proof. -/
import Derived.Test.YteckikkkfpblhaaGreatP19
import Derived.Test.YteckikkkfpblhaaGreatP00
import Derived.Test.YteckikkkfpblhaaGreatP01
import Derived.Test.YteckikkkfpblhaaGreatP15
import Derived.Test.YteckikkkfpblhaaGreatP16
import Derived.Test.YteckikkkfpblhaaGreatP02
import Derived.Test.YteckikkkfpblhaaGreatP14
import Derived.Shelf.Sort.Plain
import Derived.Sort.BigQuietIn
set_option linter.all false
set_option maxHeartbeats 6400000
set_option maxRecDepth 1000000
namespace Go.Sq
def F3 (M:List (List Int))(k i j:Nat):Int:=EU M k j-(if j=k then(M[k]?.getD []).sum else 0)+if j<i then(M[k]?.getD [])[j]?.getD 0 else 0
def sH (M:List (List Int))(k i j:Nat)(h:j<i):F3 M k i j=EU M (k+1) j:=by
 show _+(if _ then _ else _)=_;rw[if_pos h];rfl
def qT (M:List (List Int))(k j:Nat):F3 M k 0 j=EU M k j-if j=k then(M[k]?.getD []).sum else 0:=by
 unfold F3;generalize EU M k j-(if j=k then(M[k]?.getD []).sum else 0)=a;rw[if_neg (yr j)];omega
def qU (M:List (List Int))(k j t:Nat):F3 M k (j+1) t=F3 M k j t+if t=j then(M[k]?.getD [])[j]?.getD 0 else 0:=by
 unfold F3;generalize EU M k t-(if t=k then(M[k]?.getD []).sum else 0)=a;by_cases e:t=j
 .subst e;rw[if_pos (by omega),if_neg (by omega),if_pos rfl];omega
 .by_cases e2:t<j
  .rw[if_pos (by omega),if_pos e2,if_neg e];omega
  .rw[if_neg (by omega),if_neg e2,if_neg e];omega
def qV (M:List (List Int))(k j:Nat):F3 M k j j=EU M k j-if j=k then(M[k]?.getD []).sum else 0:=by
 unfold F3;generalize EU M k j-(if j=k then(M[k]?.getD []).sum else 0)=a;rw[if_neg (by omega)];omega
structure Ig (M:List (List Int)):Prop where
 size:M.length<=4
 rows:∀l∈M,l.length=M.length/\∀x∈l,0<=x/\x<=65536
def Ig.row {M:List (List Int)}(h:Ig M){k:Nat}(hk:k<M.length):(M[k]?.getD []).length=M.length/\∀x∈M[k]?.getD [],0<=x/\x<=65536:=h.rows _ (fU M k hk)
def Ig.at_ {M:List (List Int)}(h:Ig M){k:Nat}(hk:k<M.length)(j:Nat):0<=(M[k]?.getD [])[j]?.getD 0/\(M[k]?.getD [])[j]?.getD 0<=65536:=by
 rcases yh j (M[k]?.getD []).length with hj|hj
 .exact(h.row hk).2 _ (Dd _ j hj)
 .rw[List.getElem?_eq_none hj];simp
def Ig.sum {M:List (List Int)}(h:Ig M){k:Nat}(hk:k<M.length):0<=(M[k]?.getD []).sum/\(M[k]?.getD []).sum<=262144:=by
 have h1:=Eg 0 65536 _ (h.row hk).2;have h2:=(h.row hk).1;have h3:=h.size;omega
def nW {M:List (List Int)}(h:Ig M)(k j:Nat)(hk:k<=M.length):-(262144*k)<=EU M k j/\EU M k j<=65536*k:=by
 induction k with
 |zero=>simp[EU]
 |succ k ih =>
  have h1:=ih (by omega);have h2:=h.at_ (show k<M.length by omega) j;have h3:=h.sum (show k<M.length by omega);unfold EU;split<;>omega
def po {c:AD}(hc:c.Ok)(r:Bl){p:Int}(hp:0<=p/\p<=99)(ws:List Int):Ig (G9 c r p ws):=by
 have hl:(G9 c r p ws).length=c.Ap.length:=gb _ _;refine⟨by rw[hl];exact hc.h4,λl hm=>?_⟩;rw[hl];simp only[G9,Lu,xW,x9] at hm;obtain⟨a,ha,rfl⟩:=hm;refine⟨by simp,λx hx=>?_⟩;simp only[xW,x9] at hx;obtain⟨t,_,rfl⟩:=hx;have h1:=mj hp r (CF c r ws) a t (CF c r ws).length;have h2:=jL hc r ws;omega
end Go.Sq
namespace Go.Proofs.Ao
open Go.RowKit Go.Sq
def pp (nA hA gA rA:Option Addr)(nc hc gc rc:Nat)(c:AD)(ls:List (List Int))(rs:List (Int×Int))(p:Int)(w:World)(B:Nat)(hB:B<=w.heap.size)(hn:RI w B nA c.Aq)(hh:BG w B hA c.Ap)(hg:BD w B gA ls)(hr:E8 w B rA rs)
  (DG:c.Aq.length<=4611686018427387904) (hl2:c.Ap.length<=4611686018427387904) (BU:∀h∈c.Ap,h.off.length<=4611686018427387904) (EY:ls.length<=4611686018427387904) (hl4:∀x∈ls,x.length<=4611686018427387904) (Nh:rs.length<=4611686018427387904) (PU:rs.length<=rc)
  (hF:Ay c ls=0) (hR:hP c.Aq.length rs=0) (hp:0<=p/\p<=99) :
  Calls An 24 #[AH nA hA c nc hc,.slice gA ls.length gc,.slice rA rs.length rc,.int .i64 p] w λe w'=>Gr w w'/\∃A k,e=.returned (.tuple #[.slice A c.Ap.length k,.int .i64 0]) /\
   RI w' w'.heap.size A (Qi (G9 c (Av ls) p (BN c.Aq.length rs rs.length))):=by
 unfold AH;obtain⟨W0,hW0⟩:∃W0:World,W0=w.alloc (.cells #[.slice nA c.Aq.length nc,.slice hA c.Ap.length hc] 25):=⟨_,rfl⟩;have hg0:Gr w W0:=hW0▸(Gr.refl w).alloc _;have hz0:W0.heap.size=w.heap.size+1:=by rw[hW0];simp
 have HW:=xf hW0;have how:=vK nA hA gA rA nc hc gc rc c ls rs p W0 B (by omega) (hn.gr hB hg0) (hh.keep λb o hb=>hg0.cell (xl hb hB)) (hg.gr hB hg0) (hr.gr hB hg0) DG hl2 BU EY hl4 Nh PU hF hR hp;unfold AH at how;have B4:=xf hg0
 have Du:=AD.Ok.of (show AK c=0 by
  have:=hF;unfold Ay at this;split at this
  .exact absurd this (by assumption)
  .simpa using ‹¬AK c≠0›)
 have WG:=po Du (Av ls) hp (BN c.Aq.length rs rs.length);have Kz:(G9 c (Av ls) p (BN c.Aq.length rs rs.length)).length=c.Ap.length:=gb _ _;have h4:=Du.h4;generalize G9 c (Av ls) p (BN c.Aq.length rs rs.length)=M at how WG Kz;rw[<-Kz] at h4;have HLN:=xf Kz;have HOW:=xf (how.mono (R':=λe w'=>Gr W0 w'/\∃A k,e=.returned (.tuple #[.slice A M.length k,.int .i64 0])/\BD w' w'.heap.size A M) λe w' h=>by rw[Kz];exact h)
 have X8:=xf WG;have Hk:=λw=>gZ M.length w (by omega);clear hW0 hg0 how hn hh hg hr hl4 BU hF hR Du WG Kz;go_enter Sq.func24,Tryz.ntmps24;go_wp2_with fail;rw[<-HW.out];refine HOW.out.mono ?_;rintro e w1 ⟨hg1,A,ka,rfl,aaD⟩;have Ch:=xf hg1;have Nb:=xf aaD;have hz1:=hg1.size;clear hg1 aaD HOW;go_wp2;go_loopw [33] (λi wr=>∃k:Nat,k<=M.length/\i=.int .i64 k/\Gr w1 wr/\w1.heap.size<wr.heap.size/\∀j,j<M.length->wr.cell? ⟨w1.heap.size,j,none⟩=some (.int .i64 (EU M k j))/\wr.frozen? ⟨w1.heap.size,j,none⟩=false) (λi _=>M.length-(intOf i).toNat)
 case atStart =>
  refine⟨0,by omega,rfl,(Gr.refl w1).alloc _,by simp,λj hj=>⟨?_,?_⟩⟩
  .rw[xj _ _ _ _ (by simp),dR _ _ hj];rfl
  .rw[xX _ _ _ _ (by simp)]
 case round =>
  obtain⟨wq,rfl⟩:∃wq,wq=wr:=⟨_,rfl⟩;obtain⟨k,hk,rfl,hgr,hzr,hcs⟩:=hrel;have D7:=xf hgr;have Hd:=xf hcs;by_cases hlt:k<M.length
  .obtain⟨b,o,A',c',rfl,hb,aaE,WH⟩:=Nb.out.at_ hlt;have Hm:=(hgr.cell (p:=⟨b,o+k,none⟩) hb).trans aaE;have Ct:=WH.gr (xh _) hgr;have TP:=xf WH;clear aaE WH;obtain⟨Tp,hrx⟩:=X8.out.row hlt;have hsm:=X8.out.sum hlt;obtain⟨e1,e2⟩:=hcs k hlt;have Gw:=nW X8.out k k hk;have Js:∀q,q=wq\/q=wq.drew->Calls An 36 #[.slice A' (M[k]?.getD []).length c'] q λe w'=>e=.returned (.int .i64 (M[k]?.getD []).sum)/\q=w':=λq hq=>tg A' c' (M[k]?.getD []) q w1.heap.size (by rcases hq with rfl|rfl<;>exact Ct) (by omega) (λx hx=>by have:=hrx x hx;omega)
   have HM0:Hid (∀j,j<M.length->F3 M k 0 j=EU M k j-if j=k then(M[k]?.getD []).sum else 0):=xf λj _=>qT M k j;have Hf:=xf Ct;have HRX:=xf hrx;rw[Tp] at Hm Js;have Od:=xf Js;obtain⟨S,hS⟩:∃S,S=(M[k]?.getD []).sum:=⟨_,rfl⟩;rw[<-hS] at Od hsm HM0;have Mx:Hid (∀j,j<M.length->(wq.setCell ⟨w1.heap.size,k,none⟩ (.int .i64 (EU M k k-S))).cell? ⟨w1.heap.size,j,none⟩=some (.int .i64 (F3 M k 0 j))/\(wq.setCell ⟨w1.heap.size,k,none⟩ (.int .i64 (EU M k k-S))).frozen? ⟨w1.heap.size,j,none⟩=false):=xf λj hj=>by
    rw[yg,HM0.out j hj];refine⟨?_,(Hd.out j hj).2⟩;by_cases e:j=k
    .subst e;rw[xE _ _ _ e1,if_pos rfl]
    .rw[xq _ _ _ _ (by simp[Ne.symm e]),if_neg e,(Hd.out j hj).1];simp
   have HGS:Hid (Gr w1 (wq.setCell ⟨w1.heap.size,k,none⟩ (.int .i64 (EU M k k-S)))):=xf (hgr.setCell (p:=⟨w1.heap.size,k,none⟩) (xh _) _);clear hgr hcs Ct hrx Js hS Hd;generalize EU M k k=bk at e1 Gw Mx HGS;have hwr:IntKind.i64.wrap (bk-S)=bk-S:=by simp[IntKind.wrap,IntKind.bits,IntKind.signed];omega
   go_wp2;go_region_with (go_at_call 36;refine(Od.out _ (by first|exact Or.inl rfl|exact Or.inr rfl)).mono ?_;rintro e w3 ⟨rfl,rfl⟩)
   all_goals
    clear e1 e2 hwr;go_wp2;go_loopw [48] (λi wr=>∃j:Nat,j<=M.length/\i=.int .i64 j/\Gr w1 wr/\w1.heap.size<wr.heap.size/\∀t,t<M.length->wr.cell? ⟨w1.heap.size,t,none⟩=some (.int .i64 (F3 M k j t))/\wr.frozen? ⟨w1.heap.size,t,none⟩=false) (λi _=>M.length-(intOf i).toNat)
    case atStart=>exact⟨0,by omega,rfl,HGS.out.drew,by simp[World.setCell,World.drew];omega,Mx.out⟩
    case round =>
     obtain⟨j,hj,rfl,FP,Wa,hci⟩:=hrel;have Gt:=xf FP;have Su:=xf hci;by_cases Mz:j<M.length
     .obtain⟨b2,o2,rfl,hb2,XV⟩:=(TP.out.gr (xh _) FP).at_ (k:=j) (by omega);have hx:=X8.out.at_ hlt j;obtain⟨e1,e2⟩:=hci j Mz;have Py:=nW X8.out k j hk;have UJ:Hid (∀t,F3 M k (j+1) t=F3 M k j t+if t=j then(M[k]?.getD [])[j]?.getD 0 else 0):=xf λt=>qU M k j t;have hbm:-(262144*5)<=F3 M k j j/\F3 M k j j<=65536*5:=by
       have hsm2:=X8.out.sum hlt;rw[qV];split<;>omega
      generalize F3 M k j j=y at e1 hbm;generalize (M[k]?.getD [])[j]?.getD 0=z at XV hx UJ;have HST:Hid (y=y->∀t,t<M.length->(wr.setCell ⟨w1.heap.size,j,none⟩ (.int .i64 (y+z))).cell? ⟨w1.heap.size,t,none⟩=some (.int .i64 (F3 M k (j+1) t))/\(wr.setCell ⟨w1.heap.size,j,none⟩ (.int .i64 (y+z))).frozen? ⟨w1.heap.size,t,none⟩=false):=xf λ_ t ht=>by
       rw[yg,UJ.out];refine⟨?_,(Su.out t ht).2⟩;by_cases e:t=j
       .subst e;rw[xE _ _ _ e1,if_pos rfl];have:=(Su.out t ht).1;rw[e1] at this;cases this
        rfl
       .rw[xq _ _ _ _ (by simp[Ne.symm e]),if_neg e,(Su.out t ht).1];simp
      have HGT:=xf (FP.setCell (p:=⟨w1.heap.size,j,none⟩) (xh _) (.int .i64 (y+z)));clear FP hci;go_wp2;go_roundw
      case rel=>exact⟨j+1,by omega,by go_num,HGT.out,by simp[World.setCell];omega,HST.out rfl⟩
      case measure=>simp[intOf];omega
     .have Ng:j=M.length:=by omega
      subst Ng;clear FP hci;have Sw:Hid (∀t,t<M.length->wr.cell? ⟨w1.heap.size,t,none⟩=some (.int .i64 (EU M (k+1) t))/\wr.frozen? ⟨w1.heap.size,t,none⟩=false):=xf λt ht=>by
       rw[<-sH M k M.length t ht];exact Su.out t ht
      go_wp2;go_roundw
      case rel=>exact⟨k+1,by omega,by go_num,Gt.out,Wa,Sw.out⟩
      case measure=>simp[intOf];omega
  .have E4:k=M.length:=by omega
   subst E4
   have HF:Hid (RI wq wq.heap.size (some ⟨w1.heap.size,0,none⟩) (Qi M)):=xf λ_=>⟨_,0,rfl,hzr,λi x hx=>by
    have hi:i<M.length:=by have:=(xL.1 hx).1;simpa [Qi] using this
    have Hh:x=EU M M.length i:=by
     unfold Qi at hx;rw[yp,zb hi] at hx;exact(Option.some.inj hx).symm
    rw[xG,Hh]
    exact(hcs i hi).1⟩
   clear hgr hcs;go_wp2;go_ret2;refine⟨B4.out.trans (Ch.out.trans D7.out),some ⟨w1.heap.size,0,none⟩,M.length,?_,HF.out⟩;rw[<-HLN.out];rfl
open Go.Shelf
def Ab:Ren:=⟨λ|189=>53|125=>83|257=>82|128=>127|129=>128|294=>118|295=>119|296=>120|297=>121|298=>122|299=>123|216=>124|300=>125|301=>126|328=>144|329=>145|330=>146|331=>147|332=>148|215=>130|343=>165|n=>n,λ|28=>22|3=>3|46=>146|0=>0|51=>95|53=>60|4=>4|183=>179|182=>178|131=>183|5=>5|9=>9|218=>206|222=>209|228=>217|229=>79|n=>n,λn=>n⟩
def zZ:Lays.n189 An Ab where
 mixed:=(congrArg (λt:Tables=>t.follows .mixedOrders) zJ).trans (by kernel_rfl)
 f125:=Sq.func83.trans (congrArg some (by kernel_rfl))
 f128:=Sq.func127.trans (congrArg some (by kernel_rfl))
 f129:=Sq.func128.trans (congrArg some (by kernel_rfl))
 f189:=Sq.func53.trans (congrArg some (by kernel_rfl))
 f215:=Sq.func130.trans (congrArg some (by kernel_rfl))
 f216:=Sq.func124.trans (congrArg some (by kernel_rfl))
 f257:=Sq.func82.trans (congrArg some (by kernel_rfl))
 f294:=Sq.func118.trans (congrArg some (by kernel_rfl))
 f295:=Sq.func119.trans (congrArg some (by kernel_rfl))
 f296:=Sq.func120.trans (congrArg some (by kernel_rfl))
 f297:=Sq.func121.trans (congrArg some (by kernel_rfl))
 f298:=Sq.func122.trans (congrArg some (by kernel_rfl))
 f299:=Sq.func123.trans (congrArg some (by kernel_rfl))
 f300:=Sq.func125.trans (congrArg some (by kernel_rfl))
 f301:=Sq.func126.trans (congrArg some (by kernel_rfl))
 f328:=Sq.func144.trans (congrArg some (by kernel_rfl))
 f329:=Sq.func145.trans (congrArg some (by kernel_rfl))
 f330:=Sq.func146.trans (congrArg some (by kernel_rfl))
 f331:=Sq.func147.trans (congrArg some (by kernel_rfl))
 f332:=Sq.func148.trans (congrArg some (by kernel_rfl))
 f343:=Sq.func165.trans (congrArg some (by kernel_rfl))
 t0:=(Sq.underlying 0).trans Tryz.underlying0
 a0:=λw=>(zE 0 w).trans (Tryz.isAgg0 w)
 z0:=λw=>(Sq.sizeOf 0 w).trans (Tryz.sizeOf0 w)
 v0:=λw=>(Sq.zeroValue 0 w).trans (Tryz.zeroValue0 w)
 t3:=(Sq.underlying 3).trans Tryz.underlying3
 a3:=λw=>(zE 3 w).trans (Tryz.isAgg3 w)
 z3:=λw=>(Sq.sizeOf 3 w).trans (Tryz.sizeOf3 w)
 v3:=λw=>(Sq.zeroValue 3 w).trans (Tryz.zeroValue3 w)
 t4:=(Sq.underlying 4).trans Tryz.underlying4
 a4:=λw=>(zE 4 w).trans (Tryz.isAgg4 w)
 z4:=λw=>(Sq.sizeOf 4 w).trans (Tryz.sizeOf4 w)
 v4:=λw=>(Sq.zeroValue 4 w).trans (Tryz.zeroValue4 w)
 t5:=(Sq.underlying 5).trans Tryz.underlying5
 a5:=λw=>(zE 5 w).trans (Tryz.isAgg5 w)
 z5:=λw=>(Sq.sizeOf 5 w).trans (Tryz.sizeOf5 w)
 v5:=λw=>(Sq.zeroValue 5 w).trans (Tryz.zeroValue5 w)
 t9:=(Sq.underlying 9).trans Tryz.underlying9
 a9:=λw=>(zE 9 w).trans (Tryz.isAgg9 w)
 z9:=λw=>(Sq.sizeOf 9 w).trans (Tryz.sizeOf9 w)
 v9:=λw=>(Sq.zeroValue 9 w).trans (Tryz.zeroValue9 w)
 t28:=(Sq.underlying 22).trans Tryz.underlying22
 a28:=λw=>(zE 22 w).trans (Tryz.isAgg22 w)
 z28:=λw=>(Sq.sizeOf 22 w).trans (Tryz.sizeOf22 w)
 v28:=λw=>(Sq.zeroValue 22 w).trans (Tryz.zeroValue22 w)
 t46:=(Sq.underlying 146).trans Tryz.underlying146
 a46:=λw=>(zE 146 w).trans (Tryz.isAgg146 w)
 z46:=λw=>(Sq.sizeOf 146 w).trans (Tryz.sizeOf146 w)
 v46:=λw=>(Sq.zeroValue 146 w).trans (Tryz.zeroValue146 w)
 t51:=(Sq.underlying 95).trans Tryz.underlying95
 a51:=λw=>(zE 95 w).trans (Tryz.isAgg95 w)
 z51:=λw=>(Sq.sizeOf 95 w).trans (Tryz.sizeOf95 w)
 v51:=λw=>(Sq.zeroValue 95 w).trans (Tryz.zeroValue95 w)
 t53:=(Sq.underlying 60).trans Tryz.underlying60
 a53:=λw=>(zE 60 w).trans (Tryz.isAgg60 w)
 z53:=λw=>(Sq.sizeOf 60 w).trans (Tryz.sizeOf60 w)
 v53:=λw=>(Sq.zeroValue 60 w).trans (Tryz.zeroValue60 w)
 t131:=(Sq.underlying 183).trans Tryz.underlying183
 a131:=λw=>(zE 183 w).trans (Tryz.isAgg183 w)
 z131:=λw=>(Sq.sizeOf 183 w).trans (Tryz.sizeOf183 w)
 v131:=λw=>(Sq.zeroValue 183 w).trans (Tryz.zeroValue183 w)
 t182:=(Sq.underlying 178).trans Tryz.underlying178
 a182:=λw=>(zE 178 w).trans (Tryz.isAgg178 w)
 z182:=λw=>(Sq.sizeOf 178 w).trans (Tryz.sizeOf178 w)
 v182:=λw=>(Sq.zeroValue 178 w).trans (Tryz.zeroValue178 w)
 t183:=(Sq.underlying 179).trans Tryz.underlying179
 a183:=λw=>(zE 179 w).trans (Tryz.isAgg179 w)
 z183:=λw=>(Sq.sizeOf 179 w).trans (Tryz.sizeOf179 w)
 v183:=λw=>(Sq.zeroValue 179 w).trans (Tryz.zeroValue179 w)
 t218:=(Sq.underlying 206).trans Tryz.underlying206
 a218:=λw=>(zE 206 w).trans (Tryz.isAgg206 w)
 z218:=λw=>(Sq.sizeOf 206 w).trans (Tryz.sizeOf206 w)
 v218:=λw=>(Sq.zeroValue 206 w).trans (Tryz.zeroValue206 w)
 t222:=(Sq.underlying 209).trans Tryz.underlying209
 a222:=λw=>(zE 209 w).trans (Tryz.isAgg209 w)
 z222:=λw=>(Sq.sizeOf 209 w).trans (Tryz.sizeOf209 w)
 v222:=λw=>(Sq.zeroValue 209 w).trans (Tryz.zeroValue209 w)
 t228:=(Sq.underlying 217).trans Tryz.underlying217
 a228:=λw=>(zE 217 w).trans (Tryz.isAgg217 w)
 z228:=λw=>(Sq.sizeOf 217 w).trans (Tryz.sizeOf217 w)
 v228:=λw=>(Sq.zeroValue 217 w).trans (Tryz.zeroValue217 w)
 t229:=(Sq.underlying 79).trans Tryz.underlying79
 a229:=λw=>(zE 79 w).trans (Tryz.isAgg79 w)
 z229:=λw=>(Sq.sizeOf 79 w).trans (Tryz.sizeOf79 w)
 v229:=λw=>(Sq.zeroValue 79 w).trans (Tryz.zeroValue79 w)
open Go.Sort
def ml:Lib.pop8tab.size=256:=by decide +kernel
def uv:∀x:Fin 16,wrap64 ((Lib.pop8tab[x.val]'(by have:=ml;omega)).toNat:Int)=((wl x.val).length:Int):=by decide +kernel
def vL (x:Nat)(w:World)(hx:x<16):Calls An 88 #[.int .u8 (x:Int)] w λe w'=>e=.returned (.int .i64 (wl x).length)/\w=w':=by
 have HP:=xf (uv ⟨x,hx⟩);have hps:x<Lib.pop8tab.size:=by have:=ml;omega
 go_enter Sq.func88,Tryz.ntmps88;go_wp2;go_ret;exact⟨ao HP.out,rfl⟩
def vM (x:Nat)(w:World)(hx:x<16):Calls An 56 #[.int .u8 x] w λe w'=>e=.returned (.int .i64 (wl x).length)/\w=w':=by
 have HC:=xf (vL x w hx);go_enter Sq.func56,Tryz.ntmps56;go_wp2_with fail;refine HC.out.mono ?_;rintro e w' ⟨rfl,rfl⟩;go_wp2;go_ret;exact⟨rfl,rfl⟩
def I9 (l:List Int):List Int:=l.mergeSort λx y=>decide (x<=y)
def kN (l:List Int):(I9 l).length=l.length:=List.length_mergeSort l
def uw (g cap:Nat)(l:List Int)(w:World){base:Nat}(h:w.ownsRow base 3 1 (.slice (some ⟨g,0,none⟩) l.length cap) l.length (l.map (Value.int .i64)))(hl:l.length<=1048576) :
  Calls An 53 #[.slice (some ⟨g,0,none⟩) l.length cap] w λe w'=>e=.returned (.tuple #[])/\KT (·=g) w w'/\∀(i:Nat) (x:Int),(I9 l)[i]?=some x->w'.cell? ⟨g,i,none⟩=some (.int .i64 x):=by
 have hlt:g<w.heap.size:=(h.lt g rfl).2;have hH:Holds (Value.int .i64) w g 0 l.toArray:=by
  intro j hj;have hj':j<l.length:=by simpa using hj
  refine⟨?_,?_⟩
  .have:=h.cells (g:=g) rfl j (.int .i64 l[j]) (by simp[hj']);rw[Addr.add_lit] at this;rw[this,getElem!_pos l.toArray j (by simpa using hj')];simp
  .rcases h.2 with⟨h,_⟩|⟨g',c',cur,h,_,hb,_⟩
   .cases h
   .obtain⟨rfl⟩:g=g':=by injection h with h1;injection h1 with h2;injection h2
    simp[World.frozen?,hb]
 refine(Any.slices_Sort_int zZ g 0 cap l w hH hlt (by omega)).mono ?_;rintro e w' ⟨he,n,os,hW⟩;have hsz:(I9 l).toArray.size=l.toArray.size:=by simp[kN]
 refine⟨he,?_,λi x hx=>?_⟩
 .subst hW;refine⟨rfl,rfl,rfl,?_,?_,λb hb hne=>?_⟩
  .show w.drawn<=w.drawn+n;omega
  .rw[size_grow,size_putRow];exact Nat.le_add_right _ _
  .rw[heap_grow_old _ _ (by rw[size_putRow];exact hb)];unfold putRow mapBlock;rw[ya,if_neg (λh=>hne h.symm)]
   rfl
 .have hi:i<(I9 l).length:=(xL.1 hx).1;subst hW;rw[cell?_grow _ _ _ (by rw[size_putRow];exact hlt)];have:=cell?_putRow (Value.int .i64) (Sort.ahead w n) g 0 l.toArray (I9 l).toArray hH hsz i (by simpa using hi);rw[xG] at this;refine this.trans ?_;rw[getElem!_pos _ i (by simpa using hi)];rw[xi hi] at hx;simp at hx;simp[hx]
def ux (nA hA:Option Addr)(nc hc:Nat)(c:AD)(w:World)(K0:Nat->Prop)(hlt:∀b,K0 b->b<w.heap.size)(hn:FC w K0 nA c.Aq)(hh:Dj w K0 hA c.Ap)(hm:c.Ap.length<=4) :
  Calls An 54 #[AH nA hA c nc hc] w λe w'=>e=.returned (.pointer (some ⟨w.heap.size+1,0,none⟩))/\Gr w w'/\∃g cap,w.heap.size+2<=g /\
   CN w' (λb=>K0 b\/b=w.heap.size+1\/b=g) (w.heap.size+1) c (Bc c.Ap.length) nA hA nc hc g cap:=by
 refine(nP nA hA nc hc c.Aq.length c.Ap.length w hm (qB c.Ap.length hm)).mono ?_;rintro e w' ⟨rfl,g,cap,W,⟨g',cap',hv,hk,hs,_⟩,hg,hgr,hz,h0,h1,h2,ho,_⟩;obtain⟨rfl,rfl⟩:g=g'/\cap=cap':=by injection hv with a b c;injection a with a;injection a with a;exact⟨a,c⟩
 have hgW:=(ho.lt g rfl).2;have Sl:Gr w w':=⟨⟨hk.os.trans hgr.below.os,hk.tape.trans hgr.below.tape,hk.output.trans hgr.below.output,xx hgr.size hk.size,λb hb=>(hk.block b (xl hb hgr.size) (by show b≠g;omega)).trans (hgr.below.block b hb)⟩,xx hgr.drawn hk.drawn⟩;refine⟨rfl,Sl,g,cap,hg,?_⟩;have hc1:∀o,w'.cell? ⟨w.heap.size+1,o,none⟩=W.cell? ⟨w.heap.size+1,o,none⟩:=λo=>hk.cell (p:=⟨w.heap.size+1,o,none⟩) hz (by show w.heap.size+1≠g;omega)
 refine⟨?_,Or.inr (Or.inl rfl),(hc1 0).trans h0,(hc1 1).trans h1,?_,Or.inr (Or.inr rfl),hs,?_,?_⟩
 .rintro b (h|h|h)
  .have:=hlt b h;have:=Sl.size;omega
  .have:=hk.size;omega
  .have:=hk.size;omega
 .rw[di _ hm];exact(hc1 2).trans h2
 .intro hne;obtain⟨b,o,e,hb,hc⟩:=hn hne;exact⟨b,o,e,.inl hb,λi x hx=>(Sl.cell (p:=⟨b,o+i,none⟩) (hlt b hb)).trans (hc i x hx)⟩
 .intro hne;obtain⟨b,o,e,hb,hc⟩:=hh hne;refine⟨b,o,e,.inl hb,λi x hx=>?_⟩;obtain⟨q1,q2,q3,A,m,q4,q5⟩:=hc i x hx;have k:∀o,w'.cell? ⟨b,o,none⟩=w.cell? ⟨b,o,none⟩:=λo=>Sl.cell (p:=⟨b,o,none⟩) (hlt b hb);refine⟨(k _).trans q1,(k _).trans q2,(k _).trans q3,A,m,(k _).trans q4,λR9=>?_⟩;obtain⟨b',o',e',hb',hc'⟩:=q5 R9;exact⟨b',o',e',.inl hb',λi x hx=>(Sl.cell (p:=⟨b',o'+i,none⟩) (hlt b' hb')).trans (hc' i x hx)⟩
structure aaF (nA:Option Addr)(nc:Nat)(c:AD)(ls:List (List Int))(k:Nat)(d:Int)(w:World)(b12 g cap:Nat)(w2:World):Prop where
 gr:Gr w w2
 c0:w2.cell? ⟨w.heap.size,0,none⟩=some (.slice nA c.Aq.length nc)
 c1:w2.cell? ⟨w.heap.size,1,none⟩=some (.slice (some ⟨g,0,none⟩) c.Ap.length cap)
 nb:w2.heap[w.heap.size+1]?=some (.cells #[.int .i64 0] 3 (0,0))
 lt:w.heap.size+1<b12/\b12<w2.heap.size/\b12<g
 given:∀i,i<5->w2.cell? ⟨b12,i,none⟩=some (.int .u8 (Av ls i:Nat))
 Aq:FC w2 (λb=>b<w2.heap.size/\b≠w.heap.size+1) nA c.Aq
 afe:Dj w2 (λb=>b<w2.heap.size/\b≠w.heap.size+1) (some ⟨g,0,none⟩) (Hq c k d).Ap
def sI (c:AD)(k:Nat)(d:Int):(Hq c k d).Ap.length=c.Ap.length:=by simp[Hq]
def Ns {c:AD}{k i:Nat}{d:Int}{h:Be}(hi:(Hq c k d).Ap[i]?=some h)(hk:k<c.Ap.length) :
  (i=k/\h={ c.h k with off:=eO (c.h k).off d })\/(i≠k/\c.Ap[i]?=some h):=by
 unfold Hq at hi;dsimp only at hi;rw[List.getElem?_set] at hi;by_cases e:k=i
 .subst e;rw[if_pos rfl,if_pos hk] at hi;cases hi;exact .inl ⟨rfl,rfl⟩
 .rw[if_neg e] at hi;exact .inr ⟨λh=>e h.symm,hi⟩
def kO {c:AD}{sets:List Nat}(hs:∀x∈sets,c.has x):∀(k:Nat) (r:Bl) (n:Nat),(∀i,c.has (r i))->∀ρ∈Bo c sets k r n,∀i,c.has (ρ i):=by
 intro k
 induction k with
 |zero=>intro r n hr ρ CX;simp[Bo] at CX;subst CX;exact hr
 |succ k ih =>
  intro r n hr ρ CX;simp only[Bo,List.mem_flatMap] at CX;obtain⟨x,hx,h⟩:=CX;split at h
  .refine ih _ _ (λi=>?_) ρ h;unfold upd;split
   .exact hs x hx
   .exact hr i
  .simp at h
def qW {c:AD}(h:c.Ap.length<=4){x:Nat}(hx:c.has x):x<16:=by
 unfold AD.has at hx;exact xl hx (zl (by omega) h)
def sJ {c:AD}{ls:List (List Int)}(hE:Ay c ls=0)(h4:c.Ap.length<=4)(i:Nat):Av ls i<16:=by
 unfold Ay at hE;split at hE
 .rename_i h;exact absurd hE h
 .split at hE
  .rename_i h;exact absurd hE h
  .unfold Av;cases hl:ls[i]? with
   |none=>decide
   |some l =>
    have:=bz.1 hE (B1 l c.Ap.length) (xW.2 ⟨l,yI hl,rfl⟩);exact pV l λx hx=>by have:=(Ge this).1 x hx;omega
def mn:∀a b:Fin 16,bits BinOp.xor IntKind.u8 (a.val:Int) (b.val:Int)=((a.val ^^^ b.val:Nat):Int)/\a.val ^^^ b.val<16:=by decide +kernel
def nX:∀x:Fin 16,(wl x.val).length<=4:=by decide +kernel
def nY {a b:Bl}(h:∀i,i<5->a i ^^^ b i<16):∀k,k<=5->G3 a b k<=4*k:=by
 intro k
 induction k with
 |zero=>intro _;exact xh _
 |succ k ih =>
  intro hk;have h1:=ih (by omega);have h2:=nX ⟨a k ^^^ b k,h k (by omega)⟩;show G3 a b k+(wl (a k ^^^ b k)).length<=_;simp only at h2;omega
def Oe (r:Bl):Array Value:=#[.int .u8 (r 0),.int .u8 (r 1),.int .u8 (r 2),.int .u8 (r 3),.int .u8 (r 4)]
def uy (r:Bl){i:Nat}(hi:i<5):(Oe r)[i]?=some (.int .u8 (r i)):=by
 match i,hi with
 |0,_=>rfl
 |1,_=>rfl
 |2,_=>rfl
 |3,_=>rfl
 |4,_=>rfl
def aaG (r:Bl):Option (Bl×Nat)->Bl
 |none=>r
 |some p=>p.1
def Tq:Option (Bl×Nat)->Nat
 |none=>0
 |some p=>p.2
structure IA (r:Bl)(Ih KA b9:Nat)(o:Option (Bl×Nat))(W:World):Prop where
 MA:W.heap[Ih]?=some (.cells (Oe (aaG r o)) 72 (0,0))
 is:W.heap[KA]?=some (.cells #[.bool o.isSome] 4 (0,0))
 cost:W.heap[b9]?=some (.cells #[.int .i64 (Tq o)] 3 (0,0))
def cj {W:World}{b i:Nat}{a:Array Value}{u:Value}{t:TypeId}{f:Nat×Nat}(h:W.heap[b]?=some (.cells a t f)):(W.setCell ⟨b,i,none⟩ u).heap[b]?=some (.cells (a.setIfInBounds i u) t f):=by
 unfold World.setCell;simp only[ya,if_true,h]
 rfl
def IA.put {r:Bl}{Ih KA b9:Nat}{o:Option (Bl×Nat)}{W:World}(h:IA r Ih KA b9 o W)(n1:Ih≠KA)(n2:Ih≠b9)(n3:KA≠b9)(ρ:Bl)(n:Nat)(T0:Nat->Prop)(h1:T0 Ih)(h2:T0 KA)(h3:T0 b9) :
  IA r Ih KA b9 (some (ρ,n)) (((((((W.setCell ⟨Ih,0,none⟩ (.int .u8 (ρ 0))).setCell ⟨Ih,1,none⟩ (.int .u8 (ρ 1))).setCell ⟨Ih,2,none⟩ (.int .u8 (ρ 2))).setCell ⟨Ih,3,none⟩ (.int .u8 (ρ 3))).setCell ⟨Ih,4,none⟩ (.int .u8 (ρ 4))).setCell ⟨b9,0,none⟩ (.int .i64 n)).setCell ⟨KA,0,none⟩ (.bool true)) /\
  KT T0 W (((((((W.setCell ⟨Ih,0,none⟩ (.int .u8 (ρ 0))).setCell ⟨Ih,1,none⟩ (.int .u8 (ρ 1))).setCell ⟨Ih,2,none⟩ (.int .u8 (ρ 2))).setCell ⟨Ih,3,none⟩ (.int .u8 (ρ 3))).setCell ⟨Ih,4,none⟩ (.int .u8 (ρ 4))).setCell ⟨b9,0,none⟩ (.int .i64 n)).setCell ⟨KA,0,none⟩ (.bool true)):=by
 have k:∀(W:World) (p:Addr) (v:Value),T0 p.block->KT T0 W (W.setCell p v):=λW p v hp=>KT.setCell W hp v;refine⟨⟨?_,?_,?_⟩,(k _ _ _ h1).trans ((k _ _ _ h1).trans ((k _ _ _ h1).trans ((k _ _ _ h1).trans ((k _ _ _ h1).trans ((k _ _ _ h3).trans (k _ _ _ h2))))))⟩
 .rw[xD _ _ _ _ (by show Ih≠KA;exact n1),xD _ _ _ _ (by show Ih≠b9;exact n2)];exact cj (i:=4) (cj (i:=3) (cj (i:=2) (cj (i:=1) (cj (i:=0) h.MA))))
 .refine cj (i:=0) (a:=#[.bool o.isSome]) ?_;have e:∀(W:World) (i:Nat) (v:Value),(W.setCell ⟨Ih,i,none⟩ v).heap[KA]?=W.heap[KA]?:=λW i v=>xD _ _ _ _ (by show KA≠Ih;exact Ne.symm n1);rw[xD _ _ _ _ (by show KA≠b9;exact n3),e,e,e,e,e];exact h.is
 .rw[xD _ _ _ _ (by show b9≠KA;exact Ne.symm n3)];refine cj (i:=0) (a:=#[.int .i64 (Tq o)]) ?_;have e:∀(W:World) (i:Nat) (v:Value),(W.setCell ⟨Ih,i,none⟩ v).heap[b9]?=W.heap[b9]?:=λW i v=>xD _ _ _ _ (by show b9≠Ih;exact Ne.symm n2);rw[e,e,e,e,e];exact h.cost
def IA.drewN {r:Bl}{Ih KA b9:Nat}{o:Option (Bl×Nat)}{W:World}(h:IA r Ih KA b9 o W)(m:Nat):IA r Ih KA b9 o (W.drewN m):=⟨h.MA,h.is,h.cost⟩
end Go.Proofs.Ao
namespace Go
section
variable {F:Fence} {n:Nat} {P:Program} {ops:Array Oper} {C:World->Prop}
def kk (o:Oper):Bool:=match o.op with
 |.defer _=>false
 |_=>true
def lk {Q:Exit->Act->World->Prop}{r:Nat}(hro:F.round=none)(XN:ops.all kk=true):∀(l:List Nat) (a:Act) (w:World),wpOpsIn F n P ops Q l a w->wpOpsIn (F.inRound r) n P ops Q l a w:=by
 intro l
 induction l with
 |nil=>exact λa w h=>h
 |cons i rest ih =>
  intro a w h;simp only[wpOpsIn] at h ⊢;cases ho:ops[i]? with
  |none=>simp only[ho] at h ⊢;exact ih a w h
  |some o =>
   simp only[ho] at h ⊢;have hm:o∈ops:=xP ho;have hd:∀c,o.op≠.defer c:=λc e=>by
    have:=(xM.1 XN) o hm;simp[kk,e] at this
   split
   .rename_i hw;rw[if_pos hw] at h;have h2:=Oper.wpIn_mono (K':=wpOpsIn (F.inRound r) n P ops Q rest) (λa w=>ih a w) h;unfold Oper.wpIn at h2 ⊢;rw[Oper.semAt_eq _ _ _ hd] at h2 ⊢;refine⟨h2.1,?_⟩;have h3:=h2.2;generalize (execOp a.eval o).run P w=res at h3 ⊢;cases res with
    |ok x w'=>cases x<;>exact h3
    |halt x w'=>cases x<;>exact h3
   .rename_i hw;rw[if_neg hw] at h;exact⟨h.1,ih _ _ h.2⟩
def eY {id r:Nat}{Q:Exit->Act->World->Prop}{a:Act}{w:World}{l:List Oper}(hro:F.round=none)(XN:l.toArray.all kk=true)(hm:P.follows .mixedOrders=true)(hB:Region.lexB .any l.toArray=true)
  (h:wpQuietIn F n P l.toArray (λw'=>∃n,w'=w.drewN n) (λa'=>∀w',(∃n,w'=w.drewN n)->Q .normal a' w') l a):(Code.region id l.toArray true).wpIn (F.inRound r) n P Q a w:=by
 simp only[Region.lexB,xC] at hB;refine wpIn_region_draw λt=>lk hro XN _ _ _ ?_;simp only[Region.schedule,hm,Bool.true_or,if_true];refine wpAnyIn_sound l.toArray.size t _ a _ ?_;refine wpAnyIn_of_quiet (C:=λw'=>∃n,w'=w.drewN n) (Q:=λa'=>∀w',(∃n,w'=w.drewN n)->Q .normal a' w') hro (λ_ w' hw' h=>h w' hw') _ _ _ _ ⟨1,rfl⟩ ?_;have:=wpAnyQIn_lex (F:=F) (n:=n) (C:=λw'=>∃n,w'=w.drewN n) (md:=.any) hB.1 l 0 (Array.replicate l.length false) a (by simp) (by simpa using hB.2) (by simpa using h)
 simpa using this
end
end Go
namespace Go.Proofs.Ao
open Go.RowKit Go.Sq Go.Shelf
attribute [local go_sem] Oper.semAt_some
def nZ (f:FuncId):Fence.wide.fn f=True:=eq_true trivial
attribute [local go_sem] nZ
attribute [local simp] nZ
def fp {fn:Func}{tmps:Array Value}{R:Ending->World->Prop}{W:World}{v:Value}(hr:(results fn tmps).run An W=.ok v W)(hR:R (.returned v) W) :
  LeavesInM Fence.wide 0 An fn tmps R [] .returning W:=⟨v,hr,hR⟩
def lm {c:Code}{P:Program}{K:Act->World->Prop}{Q:Exit->Act->World->Prop}{a:Act}{w:World}(h:c.wp P (Exit.then K λ_ _ _=>False) a w):c.wp P (Exit.then K Q) a w:=by
 rw[<-wpIn_wide (n:=0)] at h ⊢;refine wpIn_mono h λe a w h=>?_;cases e with
 |normal=>exact h
 |_=>exact h.elim
def jd (c:AD)(ls:List (List Int))(h d:Int)(w:World)(e:Ending)(w':World):Prop :=
 Gr w w'/\if Ay c ls≠0 then e=.returned (.tuple #[.slice none 0 0,.int .i64 0,.int .i64 (Ay c ls)])
  else if(C2 h 0 (c.Ap.length-1)&&C2 d 0 (c.Aq.length-1))=false then e=.returned (.tuple #[.slice none 0 0,.int .i64 0,.int .i64 3])
  else match DU (Av ls) (Bo (Hq c h.toNat d) (Bc c.Ap.length) c.Aq.length DC 0) with
   |none=>e=.returned (.tuple #[.slice none 0 0,.int .i64 0,.int .i64 11])
   |some p=>∃A k,e=.returned (.tuple #[.slice A c.Aq.length k,.int .i64 p.2,.int .i64 0])/\BD w' w'.heap.size A (aX p.1 c.Aq.length)
def sK (nA hA gA:Option Addr)(nc hc gc:Nat)(c:AD)(ls:List (List Int))(h d:Int)(w:World)(B:Nat)(hB:B<=w.heap.size)(hn:RI w B nA c.Aq)(hh:BG w B hA c.Ap)(hg:BD w B gA ls)
  (DG:c.Aq.length<=4611686018427387904) (hl2:c.Ap.length<=4611686018427387904) (BU:∀h∈c.Ap,h.off.length<=4611686018427387904) (EY:ls.length<=4611686018427387904) (hl4:∀x∈ls,x.length<=4611686018427387904)
  (Og:∀k:Nat,Ay c ls=0->h=k->k<c.Ap.length->C2 d 0 (c.Aq.length-1)=true->(Hq c k d).Ok) :
  Calls An 22 #[AH nA hA c nc hc,.slice gA ls.length gc,.int .i64 h,.int .i64 d] w (jd c ls h d w):=by
 rw[<-callsIn_wide (n:=0)];obtain⟨W0,hW0⟩:∃W0:World,W0=(w.alloc (.cells #[.slice nA c.Aq.length nc,.slice hA c.Ap.length hc] 25)).alloc (.cells #[.int .i64 0] 3):=⟨_,rfl⟩;have hg0:Gr w W0:=hW0▸((Gr.refl w).alloc _).alloc _;have hz0:W0.heap.size=w.heap.size+2:=by rw[hW0];simp
 have hk:∀b o,b<B->W0.cell? ⟨b,o,none⟩=w.cell? ⟨b,o,none⟩:=λb o hb=>hg0.cell (xl hb hB);have DD:=dF nA hA gA nc hc gc c ls W0 B (by omega) (hn.gr hB hg0) (hh.keep hk) (hg.gr hB hg0) DG hl2 BU EY hl4;unfold AH at DD ⊢;have CW:=xf DD;have hcm:W0.cell? ⟨w.heap.size,0,none⟩=some (.slice nA c.Aq.length nc)/\W0.cell? ⟨w.heap.size,1,none⟩=some (.slice hA c.Ap.length hc):=by
  rw[hW0];constructor
  all_goals rw[xI _ _ _ (by simp),xj _ _ _ _ rfl];rfl
 have NW:=xf hcm;have hcf:∀i,W0.frozen? ⟨w.heap.size,i,none⟩=false:=λi=>by
  rw[hW0,yF _ _ _ (by simp),xX _ _ _ _ rfl]
 have HCF:=xf hcf;clear hcf;have ML:W0.heap[w.heap.size+1]?=some (.cells #[.int .i64 0] 3 (0,0)):=by
  rw[hW0];have:=World.alloc_heap_new (w.alloc (.cells #[.slice nA c.Aq.length nc,.slice hA c.Ap.length hc] 25)) (.cells #[.int .i64 0] 3);rwa [zn] at this
 have HNB:=xf ML;have HW:=xf hW0;have B4:=xf hg0;have HN:=xf hn;have HH:=xf hh;have aaH:=xf Og;clear DD hcm ML hW0 hg0 hn hh hk hg Og BU hl4;refine callsIn_of_wp_marks Sq.func22 rfl trivial ?_ rfl;simp only[Tryz.ntmps22,xB,xz,xF,Nat.reduceAdd,Nat.reduceSub,yi,yj,yv,yn,yD,yt];rw[wpIn_wide];go_wp2_with fail;rw[<-HW.out];refine CW.out.mono ?_;rintro e w1 ⟨hg1,hf⟩;have Ch:=xf hg1;have hz1:=hg1.size
 have aaI:w1.heap[w.heap.size+1]?=some (.cells #[.int .i64 0] 3 (0,0)):=(hg1.below.block _ (by omega)).trans HNB.out;have Ts:=xf aaI;have Ea:=xf (B4.out.trans hg1);have hlen:(w1.alloc (.cells #[.int .u8 0,.int .u8 0,.int .u8 0,.int .u8 0,.int .u8 0] 72)).heap.size=w1.heap.size+1:=by simp
 clear aaI;by_cases hE:Ay c ls=0
 .rw[if_pos hE] at hf;obtain⟨cb,g0,cap0,rfl,hcb,Uu,hK⟩:=hf;have HE:=xf hE;have HK:=xf hK;clear hg1 hE CW hK;obtain⟨Ku,Ip,LY⟩:=one_cell Ts.out;have hce:AK c=0:=by
   have:=HE.out;unfold Ay at this;split at this
   .exact this
   .rename_i h;simpa using h
  have DX:=xf (AD.Ok.of hce);have MK:=DX.out.n5;have Sn:=DX.out.h4;have hn1':=DX.out.n1;have Tk:=DX.out.h1;obtain⟨W1,hW1⟩:∃W1,W1=w1.alloc (.cells #[.int .u8 (Av ls 0),.int .u8 (Av ls 1),.int .u8 (Av ls 2),.int .u8 (Av ls 3),.int .u8 (Av ls 4)] 72):=⟨_,rfl⟩;have Mw:=xf hW1;have D8:Hid (Gr w W1):=xf (by rw[hW1];exact Ea.out.alloc _);have hsz1:W1.heap.size=w1.heap.size+1:=by rw[hW1];simp
  have k0:w1.cell? ⟨w.heap.size,0,none⟩=some (.slice nA c.Aq.length nc):=(Ch.out.cell (by show w.heap.size<_;omega)).trans NW.out.1;have k1:w1.cell? ⟨w.heap.size,1,none⟩=some (.slice hA c.Ap.length hc):=(Ch.out.cell (by show w.heap.size<_;omega)).trans NW.out.2;have EZ:w.heap.size<w1.heap.size:=by omega
  have HC0:Hid (W1.cell? ⟨w.heap.size,0,none⟩=some (.slice nA c.Aq.length nc)):=xf (by rw[hW1,xI _ _ _ (by show w.heap.size<_;omega)];exact k0);have N8:Hid (W1.cell? ⟨w.heap.size,1,none⟩=some (.slice hA c.Ap.length hc)):=xf (by rw[hW1,xI _ _ _ (by show w.heap.size<_;omega)];exact k1);have aaJ:W1.heap[w.heap.size+1]?=some (.cells #[.int .i64 0] 3 (0,0)):=by rw[hW1,heap_alloc_old _ _ LY];exact Ts.out
  have WJ:=xf aaJ;have KB:W1.heap[w1.heap.size]?=some (.cells #[.int .u8 (Av ls 0),.int .u8 (Av ls 1),.int .u8 (Av ls 2),.int .u8 (Av ls 3),.int .u8 (Av ls 4)] 72 (0,0)):=by rw[hW1];exact World.alloc_heap_new w1 _
  have Yp:=xf KB;have hb1:=bQ h 0 (c.Ap.length-1) W1;have hb2:=bQ d 0 (c.Aq.length-1) W1;obtain⟨x1,hx1⟩:∃x,x=C2 h 0 (c.Ap.length-1):=⟨_,rfl⟩;obtain⟨x2,hx2⟩:∃x,x=C2 d 0 (c.Aq.length-1):=⟨_,rfl⟩;rw[<-hx1] at hb1;rw[<-hx2] at hb2;have X1:=xf hb1;have Ke:=xf hb2;have HX1:=xf hx1;have HX2:=xf hx2;clear hb1 hb2 hx1 hx2 hW1 KB aaJ hce Ku Ip;unfold BI;go_wp2_with fail;rw[<-Mw.out]
  refine X1.out.mono ?_;rintro e w' ⟨rfl,rfl⟩;have Y4:=HC0.out;have UH:=N8.out;obtain⟨Ku,Ip,afi⟩:=one_cell WJ.out;clear k0 k1;have aaK:∀w',Gr w w'->w'.cell? ⟨w.heap.size+1,0,none⟩=some (.int .i64 0)->(x1&&x2)=false->jd c ls h d w (.returned (.tuple #[.slice none 0 0,.int .i64 0,.int .i64 3])) w':=λw' hg _ hx=>by
   refine⟨hg,?_⟩;rw[if_neg (by simp[HE.out]),if_pos (by rw[<-HX1.out,<-HX2.out];exact hx)]
  have WK:=xf aaK;clear aaK;cases x1 with
  |false =>
   go_wp2;refine fp (v:=.tuple #[.slice none 0 0,.int .i64 0,.int .i64 3]) (by simp[results,Tryz.results22,go_sem,xE _ _ _ Ku]) (WK.out _ (D8.out.setCell (by show _<=w.heap.size+1;omega) _) (xE _ _ _ Ku) rfl)
  |true =>
   cases x2 with
   |false =>
    go_wp2_with (go_at_call 49;refine Ke.out.mono ?_;rintro e w' ⟨rfl,rfl⟩);refine fp (v:=.tuple #[.slice none 0 0,.int .i64 0,.int .i64 3]) (by simp[results,Tryz.results22,go_sem,xE _ _ _ Ku]) (WK.out _ (D8.out.setCell (by show _<=w.heap.size+1;omega) _) (xE _ _ _ Ku) rfl)
   |true =>
    clear WK;obtain⟨k,hk,D6⟩:∃k:Nat,h=k/\k<c.Ap.length:=by
     have:=HX1.out;simp only[C2] at this;have:=this.symm;simp at this;exact⟨h.toNat,by omega,by omega⟩
    subst hk;obtain⟨hb,ho,rfl,Jq,hcs⟩:=HH.out (λe=>by rw[e] at Tk;simp at Tk);have hW:∀b o,b<B->W1.cell? ⟨b,o,none⟩=w.cell? ⟨b,o,none⟩:=λb o hb=>D8.out.cell (xl hb hB);have HCL:=xf (sC hb ho hc c.Ap W1 B Jq (by have:=D8.out.size;omega) (λi x hi=>(hcs i x hi).keep Jq hW) (by omega) (by omega));clear hcs hW;go_wp2_with (first|(go_at_call 49;refine Ke.out.mono ?_;rintro e w' ⟨rfl,rfl⟩)|fail)
    refine HCL.out.mono ?_;rintro e w3 ⟨g,cap,rfl,hg3,JD,hgs,hgf,hat⟩;have afj:=hg3.size;have hf3:w3.frozen? ⟨w.heap.size,1,none⟩=false:=((Ch.out.trans (((Gr.refl w1).alloc _).trans (Mw.out▸hg3))).frozen (p:=⟨w.heap.size,1,none⟩) (by show w.heap.size<_;omega)).trans (HCF.out 1);have NM:w3.cell? ⟨w.heap.size,0,none⟩=some (.slice nA c.Aq.length nc):=(hg3.cell (p:=⟨w.heap.size,0,none⟩) (by show w.heap.size<_;omega)).trans HC0.out
    have JY:w3.cell? ⟨w.heap.size,1,none⟩=some (.slice (some ⟨hb,ho,none⟩) c.Ap.length hc):=(hg3.cell (p:=⟨w.heap.size,1,none⟩) (by show w.heap.size<_;omega)).trans N8.out;have JJ:c.Ap[k]?=some (c.h k):=by unfold AD.h;rw[xi D6];rfl
    obtain⟨Nf,SI,hk2,A,m,hk3,Gh⟩:=hat k (c.h k) JJ;have Tt:g≠w.heap.size:=by omega
    obtain⟨w4,hw4⟩:∃w4,w4=w3.setCell ⟨w.heap.size,1,none⟩ (.slice (some ⟨g,0,none⟩) c.Ap.length cap):=⟨_,rfl⟩;have ZV:w4.heap.size=w3.heap.size:=by rw[hw4];simp[World.setCell]
    have X9:∀b o,b≠w.heap.size->w4.cell? ⟨b,o,none⟩=w3.cell? ⟨b,o,none⟩:=λb o hb=>by rw[hw4];exact xq _ _ _ _ (λe=>hb (congrArg Addr.block e).symm)
    have hB4:∀b o,b<B->w4.cell? ⟨b,o,none⟩=w3.cell? ⟨b,o,none⟩:=λb o hb=>X9 b o (by omega);have Ju:Hid (Gr w w4):=xf (by rw[hw4];exact(D8.out.trans hg3).setCell (xh _) _);have Gl:=(DX.out.off _ (c.FH D6)).1;have hcon:=jl A m (c.h k).off d w4 B (Gh.keep hB4) (by omega);obtain⟨x3,hx3⟩:∃x,x=decide (d∈(c.h k).off):=⟨_,rfl⟩;rw[<-hx3] at hcon;have aaM:=xf hcon;have HX3:=xf hx3;have HW4:=xf hw4
    have Tu:Hid (∀(i:Nat) (x:Be),c.Ap[i]?=some x->Kt w4 B g (i*4) x):=xf λi x hi=>by
     obtain⟨q0,q1,q2,A',m',q3,q4⟩:=hat i x hi;exact⟨(X9 _ _ Tt).trans q0,(X9 _ _ Tt).trans q1,(X9 _ _ Tt).trans q2,A',m',(X9 _ _ Tt).trans q3,q4.keep hB4⟩
    have HN4:Hid (RI w4 B nA c.Aq):=xf (HN.out.gr hB Ju.out);have WL:Hid (w4.heap[w.heap.size+1]?=some (.cells #[.int .i64 0] 3 (0,0))):=xf (by rw[hw4,xD _ _ _ _ (by show w.heap.size+1≠w.heap.size;omega),hg3.below.block _ afi];exact WJ.out);have WM:Hid (w4.heap[w1.heap.size]?=some (.cells #[.int .u8 (Av ls 0),.int .u8 (Av ls 1),.int .u8 (Av ls 2),.int .u8 (Av ls 3),.int .u8 (Av ls 4)] 72 (0,0))):=xf (by rw[hw4,xD _ _ _ _ (by show w1.heap.size≠w.heap.size;omega),hg3.below.block _ (by omega)];exact Yp.out)
    have HE4:Hid (w4.cell? ⟨w.heap.size,0,none⟩=some (.slice nA c.Aq.length nc)/\w4.cell? ⟨w.heap.size,1,none⟩=some (.slice (some ⟨g,0,none⟩) c.Ap.length cap)):=xf (by
     rw[hw4];exact⟨(xq _ _ _ _ (by simp)).trans NM,xE _ _ _ JY⟩)
    have OO:Hid (∀i,w4.frozen? ⟨g,i,none⟩=false):=xf λi=>by rw[hw4,yg];exact hgf i
    have afm:w3.cell? ⟨g,k*4+3,none⟩=some (.slice A (c.h k).off.length m):=hk3;have Td:=xf Gh;clear hcon hx3 hw4 hat Gh Nf SI hk2 hk3 X9 hB4 hgf JJ Ku Ip Y4;go_wp2_with fail;rw[<-HW4.out];refine aaM.out.mono ?_;rintro e w' ⟨rfl,rfl⟩;clear NM JY afm hf3 aaM;have Qp:W1.heap.size<=w4.heap.size/\g<w4.heap.size:=by omega
    obtain⟨he0,he1⟩:=HE4.out;have JJ:c.Ap[k]?=some (c.h k):=by unfold AD.h;rw[xi D6];rfl
    obtain⟨Nf,SI,hk2,A',m',hk3,Gh⟩:=Tu.out k (c.h k) JJ;have aaN:=xf Gh;have hgk:=OO.out (k*4+3);clear Gh Nf SI hk2 Td ZV hg3 afj;cases x3
    case' true =>
     have Km:Hid (aaF nA nc c ls k d w w1.heap.size g cap w4):=xf (by
      have Ue:eO (c.h k).off d=(c.h k).off:=by unfold eO;rw[if_pos (by simpa using HX3.out.symm)]
      refine⟨Ju.out,he0,he1,WL.out,⟨by omega,by omega,by omega⟩,λi hi=>?_,?_,λhne=>⟨g,0,rfl,⟨Qp.2,by omega⟩,λi x hi=>?_⟩⟩
      .rw[(Dn WM.out).1 i]
       match i,hi with
       |0,_=>rfl
       |1,_=>rfl
       |2,_=>rfl
       |3,_=>rfl
       |4,_=>rfl
      .exact fE HN4.out λb hb=>⟨by omega,by omega⟩
      .rw[xG];have key:∀y,c.Ap[i]?=some y->L3 w4 (λb=>b<w4.heap.size/\b≠w.heap.size+1) g (i*4) y:=λy hy=>by
        obtain⟨q0,q1,q2,A',m',q3,q4⟩:=Tu.out i y hy;exact⟨q0,q1,q2,A',m',q3,fE q4 λb hb=>⟨by omega,by omega⟩⟩
       rcases Ns hi D6 with⟨rfl,rfl⟩|⟨_,h⟩
       .rw[Ue];exact key _ JJ
       .exact key _ h)
     go_wp2_with fail;obtain⟨wz,rfl⟩:∃wz,wz=w4:=⟨_,rfl⟩
    case' false =>
     have WN:=xf (uu A' m' (c.h k).off w4 B aaN.out (by omega) (by omega));have Ue:eO (c.h k).off d=I9 ((c.h k).off++[d]):=by unfold eO;rw[if_neg (by simpa using HX3.out.symm)];rfl
     have HOA:=xf Ue;obtain⟨off,Gh⟩:∃off,off=(c.h k).off:=⟨_,rfl⟩;rw[<-Gh] at WN HOA Gl;have afp:w4.cell? ⟨g,k*4+3,none⟩=some (.slice A' off.length m'):=by rw[Gh];exact hk3
     have HEO:=xf Gh;rw[<-Gh];clear Ue hk3 Gh aaN;go_wp2_with fail;refine WN.out.mono ?_;rintro e w5 ⟨v,rfl,hown,GJ⟩;have LS:=GJ.size;have Tv:=hown.lt;have Kh:=xf GJ;clear GJ WN;go_wp2_with (at_builtin;refine fX rfl _ _ rfl w4.heap.size _ _ _ rfl (hown.alloc _) ⟨w5.heap.size,0,none⟩ 1 (.int .i64 d) rfl ?c1 rfl ?c2 ?c3 ?_)
     case c1=>rw[xj _ _ _ _ rfl];rfl
     case c2=>omega
     case c3=>(try simp);omega
     intro v' w6 hown' hgrow hd;have GU:∀b,b<w4.heap.size->w6.heap[b]?=w4.heap[b]?:=λb hb=>by
      have hne:some b≠v.ownBlock:=dQ hown hb;exact(hgrow.block b (by simp;omega) hne).trans ((heap_alloc_old _ _ (by omega)).trans (Kh.out.below.block b hb))
     have hG6:Gr w w6:=((Ju.out.trans Kh.out).alloc _).grown hgrow hd λq hq=>by have:=(Tv q hq).1;have:=Ju.out.size;omega
     have hc6:w6.cell? ⟨g,k*4+3,none⟩=some (.slice A' off.length m'):=(xH (GU g Qp.2)).trans afp;have hf6:w6.frozen? ⟨g,k*4+3,none⟩=false:=(yV (a:=⟨g,k*4+3,none⟩) (GU g Qp.2)).trans hgk;obtain⟨g',cap',hv',hg'l,hg's⟩:=hown'.form (by omega);subst hv';have hsz6:w4.heap.size<=w6.heap.size:=by have:=hgrow.size;simp at this;omega
     obtain⟨w7,Sp⟩:∃w7,w7=w6.setCell ⟨g,k*4+3,none⟩ (.slice (some ⟨g',0,none⟩) (off.length+1) cap'):=⟨_,rfl⟩;have hz7:w7.heap.size=w6.heap.size:=by rw[Sp];simp[World.setCell]
     have JP:w7.ownsRow w4.heap.size 3 1 (.slice (some ⟨g',0,none⟩) (off++[d]).length cap') (off++[d]).length ((off++[d]).map (Value.int .i64)):=by
      rw[Sp];have:=ownsRow_setCell_below (a:=⟨g,k*4+3,none⟩) hown' Qp.2 (.slice (some ⟨g',0,none⟩) (off.length+1) cap');simpa using this
     have Qq:=uw g' cap' (off++[d]) w7 JP (by simp;omega);have DG:(off++[d]).length=off.length+1:=by simp
     rw[DG] at Qq;have Nc:=xf Qq;have HW7:=xf Sp;have aaP:=xf GU;have HG6:=xf hG6;clear GU hG6 hown' hgrow hd hown JP Qq Sp Tv;go_wp2_with fail;rw[<-HW7.out];refine Nc.out.mono ?_;rintro e w8 ⟨rfl,hk8,hs8⟩;have hz8:=hk8.size;have hgg:g≠g':=by omega
     have JQ:∀b,b<w4.heap.size->b≠g->w8.heap[b]?=w4.heap[b]?:=λb hb hne=>by
      rw[hk8.block b (by omega) (by show b≠g';omega),HW7.out,xD _ _ _ _ (by show b≠g;exact hne)];exact aaP.out b hb
     have Sx:∀o,w8.cell? ⟨g,o,none⟩=w7.cell? ⟨g,o,none⟩:=λo=>hk8.cell (p:=⟨g,o,none⟩) (by show g<_;omega) hgg;have hgo:∀o,o≠k*4+3->w8.cell? ⟨g,o,none⟩=w4.cell? ⟨g,o,none⟩:=λo ho=>by
      rw[Sx,HW7.out,xq _ _ _ _ (λe=>ho (congrArg Addr.off e).symm)];exact xH (aaP.out g Qp.2)
     have aaR:w8.cell? ⟨g,k*4+3,none⟩=some (.slice (some ⟨g',0,none⟩) (off.length+1) cap'):=by
      rw[Sx,HW7.out];exact xE _ _ _ hc6
     have hB8:∀b o,b<B->w8.cell? ⟨b,o,none⟩=w4.cell? ⟨b,o,none⟩:=λb o hb=>xH (JQ b (by omega) (by omega))
     have Km:Hid (aaF nA nc c ls k d w w1.heap.size g cap w8):=xf (by
      have aaS:eO (c.h k).off d=I9 (off++[d]):=by rw[<-HEO.out];exact HOA.out
      refine⟨KT.gr (T:=(·=g')) (HG6.out.setCell (p:=⟨g,k*4+3,none⟩) (by show _<=g;omega) _) (HW7.out▸hk8) (by rintro b rfl;omega),(xH (JQ w.heap.size (by omega) (by omega))).trans he0,(xH (JQ w.heap.size (by omega) (by omega))).trans he1,(JQ _ (by omega) (by omega)).trans WL.out,⟨by omega,by omega,by omega⟩,λi hi=>?_,?_,λhne=>⟨g,0,rfl,⟨by omega,by omega⟩,λi x hi=>?_⟩⟩
      .rw[xH (a:=⟨w1.heap.size,i,none⟩) (JQ w1.heap.size (by omega) (by omega)),(Dn WM.out).1 i]
       match i,hi with
       |0,_=>rfl
       |1,_=>rfl
       |2,_=>rfl
       |3,_=>rfl
       |4,_=>rfl
      .exact fE (HN4.out.keep hB8) λb hb=>⟨by omega,by omega⟩
      .rw[xG];rcases Ns hi D6 with⟨rfl,rfl⟩|⟨hik,h⟩
       .obtain⟨q0,q1,q2,_⟩:=Tu.out i _ JJ;refine⟨(hgo _ (by omega)).trans q0,(hgo _ (by omega)).trans q1,(hgo _ (by omega)).trans q2,some ⟨g',0,none⟩,cap',?_,?_⟩
        .rw[aaR,aaS,kN];simp
        .rw[aaS];exact λ_=>⟨g',0,rfl,⟨by omega,by omega⟩,λj y hj=>by rw[xG];exact hs8 j y hj⟩
       .obtain⟨q0,q1,q2,A2,m2,q3,q4⟩:=Tu.out i x h
        exact⟨(hgo _ (by omega)).trans q0,(hgo _ (by omega)).trans q1,(hgo _ (by omega)).trans q2,A2,m2,(hgo _ (by omega)).trans q3,fE (q4.keep hB8) λb hb=>⟨by omega,by omega⟩⟩)
     have KE:=Km.out.c0;have hr1:=Km.out.c1;clear hk8 hs8 JQ Sx hgo aaR hB8 hc6 hf6;go_wp2_with fail;obtain⟨wz,rfl⟩:∃wz,wz=w8:=⟨_,rfl⟩
    all_goals
     have Og:=aaH.out k HE.out rfl D6 HX2.out.symm;have Tp:=sI c k d;obtain⟨c',hc'⟩:∃c',c'=Hq c k d:=⟨_,rfl⟩;have hcn:c'.Aq=c.Aq:=by rw[hc'];rfl
     have LZ:=Km.out.afe;rw[<-hc'] at LZ Og Tp;have hst:=ux nA (some ⟨g,0,none⟩) nc cap c' wz _ (λb hb=>hb.1) (by rw[hcn];exact Km.out.Aq) LZ (by omega);unfold AH at hst;rw[hcn,Tp] at hst;have HST:=xf hst;have HC':=xf hc';have Qr:=xf Og;have WO:=xf (sJ HE.out Sn);have aaT:=Km.out.lt;clear hst hc' Og LZ HC0 N8 B4 Ch Ea D8 Ju HNB Ts WJ WL Yp WM Mw HN HN4 HH HCL X1 Ke HX1 HX3 Tu OO HE4 HCF NW HW HW4 aaH he0 he1
     refine HST.out.mono ?_;rintro e w9 ⟨rfl,Qs,g9,cap9,hg9l,hK9⟩;have hz9:=Qs.size;have KB:∀i,i<5->w9.cell? ⟨w1.heap.size,i,none⟩=some (.int .u8 (Av ls i:Nat)):=λi hi=>(Qs.cell (p:=⟨w1.heap.size,i,none⟩) aaT.2.1).trans (Km.out.given i hi);obtain⟨v0,v1,v2,v3,v4⟩:=H6 KB;have afr:=xf KB;have hn9:w9.heap[w.heap.size+1]?=some (.cells #[.int .i64 0] 3 (0,0)):=(Qs.below.block _ (by omega)).trans Km.out.nb
     have HN9:=xf hn9;have HK9:=xf hK9;have Ya:=xf Qs;have hb12:w1.heap.size<w9.heap.size:=by omega
     clear KB hn9 hK9 Qs HST
     try clear KE hr1
     obtain⟨JR,Oh⟩:∃JR:World,JR=(w9.alloc (.cells #[.int .u8 (Av ls 0),.int .u8 (Av ls 1),.int .u8 (Av ls 2),.int .u8 (Av ls 3),.int .u8 (Av ls 4)] 72)).alloc (.cells #[.bool false] 4):=⟨_,rfl⟩;have Oi:Gr w9 JR:=by rw[Oh];exact((Gr.refl w9).alloc _).alloc _
     have WQ:JR.heap.size=w9.heap.size+2:=by rw[Oh];simp
     have Ja:JR.heap[w9.heap.size]?=some (.cells (Oe (Av ls)) 72 (0,0)):=by
      rw[Oh,heap_alloc_old _ _ (by simp)];exact World.alloc_heap_new w9 _
     have hsome:JR.heap[w9.heap.size+1]?=some (.cells #[.bool false] 4 (0,0)):=by
      rw[Oh];have:=World.alloc_heap_new (w9.alloc (.cells #[.int .u8 (Av ls 0),.int .u8 (Av ls 1),.int .u8 (Av ls 2),.int .u8 (Av ls 3),.int .u8 (Av ls 4)] 72)) (.cells #[.bool false] 4)
      rwa [zn] at this
     have WR:Hid (IA (Av ls) w9.heap.size (w9.heap.size+1) (w.heap.size+1) none JR):=xf ⟨Ja,hsome,(Oi.below.block _ (by omega)).trans HN9.out⟩;obtain⟨T0,Hx⟩:∃T0:Nat->Prop,T0=λb=>b=w9.heap.size\/b=w9.heap.size+1\/b=w.heap.size+1:=⟨_,rfl⟩;have HT0:=xf Hx;have O6:∀b,T0 b->b<JR.heap.size:=λb hb=>by rw[Hx] at hb;omega
     have hKT:∀b,(b<wz.heap.size/\b≠w.heap.size+1\/b=wz.heap.size+1\/b=g9)->¬T0 b:=λb hb h=>by
      rw[Hx] at h;have:=HK9.out.lt b hb;omega
     have aaW:¬T0 w1.heap.size:=λh=>by rw[Hx] at h;omega
     have E1:=lD (wz.heap.size+1) 0 DC JR;have hs:=jW (T0:=T0) (n:=0) (r:=DC) (HK9.out.keep (w':=JR) Oi.size λb o hb=>Oi.cell (p:=⟨b,o,none⟩) (HK9.out.lt b hb)) O6 hKT fV;unfold BI at E1;have UK:=xf E1;have HS:=xf hs;have HTL:=xf O6;have Va:=xf hKT;have Tx:=xf aaW;have afu:=xf (Ya.out.trans Oi);have afv:Hid (∀i,i<5->JR.cell? ⟨w1.heap.size,i,none⟩=some (.int .u8 (Av ls i:Nat))):=xf λi hi=>(Oi.cell (p:=⟨w1.heap.size,i,none⟩) (by show w1.heap.size<_;omega)).trans (afr.out i hi)
     have aaX:=xf Oh;have afw:=xf WQ;clear Oh E1 hs O6 hKT aaW Hx Oi Ja hsome WQ;go_wp2_with fail;rw[<-aaX.out];refine UK.out.mono ?_;rintro e Yb ⟨rfl,Ty⟩;have hs:=HS.out;rw[<-Ty] at hs;have Jy:=xf hs;have aaY:Gr JR Yb:=by rw[Ty];exact(((Gr.refl JR).alloc _).alloc _).alloc _
     have WS:Yb.heap.size=JR.heap.size+3:=by rw[Ty];simp
     have Oj:=xf aaY;have afx:=xf WS;clear hs HS WS aaY Ty UK aaX v0 v1 v2 v3 v4;go_wp2_with fail;have WQ:=afw.out;have WS:=afx.out;rw[<-wpIn_wide (n:=0)];have HNL:Hid (0+c.Aq.length=c'.Aq.length):=xf (by rw[hcn];omega);have Tz:Hid ((∀x∈Bc c.Ap.length,c'.has x)/\(Bc c.Ap.length).length<=16):=xf ⟨by rw[<-Tp];exact l7 Qr.out,by rw[<-Tp];exact nQ Qr.out⟩
     refine kw (T0:=T0) (cb:=wz.heap.size+1) (c:=c') (sets:=Bc c.Ap.length) (bc:=JR.heap.size) (br:=JR.heap.size+1) (bn:=JR.heap.size+2) (k:=c.Aq.length) (n:=0) (r:=DC)
      Qr.out Tz.out.1 Tz.out.2 rfl HNL.out (λ_ _=>rfl) Jy.out (λb hb=>xl (HTL.out b hb) Oj.out.size) rfl
      (λpre W=>IA (Av ls) w9.heap.size (w9.heap.size+1) (w.heap.size+1) (DU (Av ls) pre) W) (λ_ _ _=>False)
      (λpre W W' h hk=>by
       have UG:=hk w9.heap.size (by rw[HT0.out];exact .inl rfl);have e16:=hk (w9.heap.size+1) (by rw[HT0.out];exact .inr (.inl rfl));have e9:=hk (w.heap.size+1) (by rw[HT0.out];exact .inr (.inr rfl))
       exact⟨UG.trans h.MA,e16.trans h.is,e9.trans h.cost⟩) (λc pre W W' h _=>h)
      (by
       have h:=WR.out;have hb:=Oj.out.below.block
       exact⟨(hb _ (by omega)).trans h.MA,(hb _ (by omega)).trans h.is,(hb _ (by omega)).trans h.cost⟩) ?_ ?_ (λD j q W _ _ _ h _=>h.elim)
     .intro l pre ρ W hpl Jz C4 hl1' hl2';have CX:∀i,c'.has (ρ i):=kO Tz.out.1 _ _ _ fV ρ (hpl.subset (by simp));have WT:Hid (∀i,ρ i<16):=xf λi=>qW (by omega) (CX i);have aa0:∀i,i<5->W.cell? ⟨w1.heap.size,i,none⟩=some (.int .u8 (Av ls i:Nat)):=λi hi=>by
       rw[Jz.cell (p:=⟨w1.heap.size,i,none⟩) (by show w1.heap.size<_;omega) (by rintro(h|h);exact Tx.out h;have h':w1.heap.size=JR.heap.size+1:=h;omega),Oj.out.cell (p:=⟨w1.heap.size,i,none⟩) (by show w1.heap.size<_;omega)];exact afv.out i hi
      have hzW:=Jz.size;have HI:=xf C4;obtain⟨W2,hW2⟩:∃W2,W2=W.alloc (.cells #[.int .u8 (ρ 0),.int .u8 (ρ 1),.int .u8 (ρ 2),.int .u8 (ρ 3),.int .u8 (ρ 4)] 72):=⟨_,rfl⟩;have YA:Hid (KT T0 W W2):=xf (by rw[hW2];exact zF ((Gr.refl W).alloc _));have Hd:Hid (W2.heap[W.heap.size]?=some (.cells (Oe ρ) 72 (0,0))):=xf (by rw[hW2];exact World.alloc_heap_new W _);have HOLD:Hid (∀b,b<W.heap.size->W2.heap[b]?=W.heap[b]?):=xf λb hb=>by rw[hW2];exact heap_alloc_old _ _ hb
      have hz2:W2.heap.size=W.heap.size+1:=by rw[hW2];simp
      have Ve:=xf hz2;have O7:=xf hW2;have aa2:=xf aa0;clear hpl Jz C4 CX aa0 hW2 hz2;unfold BI
      gi_wp2
      rw[<-O7.out];refine⟨YA.out,λo=>?_⟩;clear O7;have hlD:∀b,b<Yb.heap.size->b≠l:=λb hb=>by omega
      have hIc:IA (Av ls) w9.heap.size (w9.heap.size+1) (w.heap.size+1) (DU (Av ls) pre) (W2.putObj l o):=by
       have h:=HI.out;have e:∀b,b<Yb.heap.size->(W2.putObj l o).heap[b]?=W.heap[b]?:=λb hb=>(World.putObj_heap_other (hlD b hb)).trans (HOLD.out b (by omega));exact⟨(e _ (by omega)).trans h.MA,(e _ (by omega)).trans h.is,(e _ (by omega)).trans h.cost⟩
      have Qt:∀i,i<5->(W2.putObj l o).cell? ⟨W.heap.size,i,none⟩=some (.int .u8 (ρ i:Nat)):=λi hi=>by
       rw[(Dn (W:=W2.putObj l o) ((World.putObj_heap_other (by omega)).trans Hd.out)).1 i];exact uy ρ hi
      have Xz:∀i,i<5->(W2.putObj l o).cell? ⟨w1.heap.size,i,none⟩=some (.int .u8 (Av ls i:Nat)):=λi hi=>by
       rw[cx (by show w1.heap.size≠l;omega),xH (a:=⟨w1.heap.size,i,none⟩) (HOLD.out w1.heap.size (by omega))];exact aa2.out i hi
      have hz3:(W2.putObj l o).heap.size=W.heap.size+1:=by simp[World.putObj];exact Ve.out
      obtain⟨W3,hW3⟩:∃W3,W3=W2.putObj l o:=⟨_,rfl⟩;rw[<-hW3] at hIc Qt Xz hz3 ⊢;have HI3:=xf hIc;have Yc:=xf Qt;have H12:=xf Xz;have HZ3:=xf hz3;clear hW3 hIc Qt Xz HI Hd HOLD aa2 hz3
      gi_wp2
      gi_loopw [18,84] (λv i wr=>∃(j m:Nat),j<=5/\i=.int .i64 j/\v=.int .i64 (G3 ρ (Av ls) j:Nat)/\wr=W3.drewN m) (λ_ i _=>5-(intOf i).toNat)
      case atStart=>exact⟨0,0,by omega,rfl,rfl,rfl⟩
      case round =>
       obtain⟨j,m,hj,rfl,rfl,rfl⟩:=hrel;by_cases hj5:j<5
       .have c17:W3.cell? ⟨W.heap.size,j,none⟩=some (.int .u8 (ρ j:Nat)):=Yc.out j hj5;have c12:W3.cell? ⟨w1.heap.size,j,none⟩=some (.int .u8 (Av ls j:Nat)):=H12.out j hj5;have hx:=mn ⟨ρ j,WT.out j⟩ ⟨Av ls j,WO.out j⟩;have OL:=nY (a:=ρ) (b:=Av ls) (λi hi=>(mn ⟨ρ i,WT.out i⟩ ⟨Av ls i,WO.out i⟩).2) j hj;have HFS:Hid (G3 ρ (Av ls) (j+1)=G3 ρ (Av ls) j+(wl (ρ j ^^^ Av ls j)).length):=xf rfl
        have Qn:=nX ⟨ρ j ^^^ Av ls j,hx.2⟩;have HSZ:=xf (λw=>vM (ρ j ^^^ Av ls j) w hx.2);simp only at hx Qn;obtain⟨hx1,hx2⟩:=hx;generalize ρ j ^^^ Av ls j=X at hx1 hx2 Qn HSZ HFS;generalize ρ j=x at c17 hx1;generalize Av ls j=y at c12 hx1;generalize G3 ρ (Av ls) j=q at OL HFS;generalize (wl X).length=L at HFS Qn HSZ
        gi_wp2
        refine eY (F:=Fence.wide) rfl (by kernel_rfl) (by kernel_rfl) (by kernel_rfl) ?_
        repeat (gi_big_quiet_step (fail))
        refine wpQuietIn_step (λw _ f _=>trivial) (λK hK=>?_);go_simp;apply Exists.intro;refine⟨λ_=>?_,hK _ ?_⟩
        .exact⟨rfl,(callsIn_wide.2 (HSZ.out _)).mono λe w' h=>⟨h.1,_,h.2.symm⟩⟩
        clear hK K
        repeat (gi_big_quiet_step (fail))
        refine wpQuietIn_nil ?_;intro _ hw';obtain⟨nq,hw''⟩:=hw';subst hw''
        gi_wp2
        go_roundw
        case rel=>exact⟨j+1,m+nq,by omega,by go_num,by rw[HFS.out];first|rfl|(congr 1;omega),rfl⟩
        case measure=>simp[intOf];omega
       .have afA:j=5:=by omega
        subst afA;have HI4:=HI3.out;have HF5:=nY (a:=ρ) (b:=Av ls) (λi hi=>(mn ⟨ρ i,WT.out i⟩ ⟨Av ls i,WO.out i⟩).2) 5 (xh _);have WU:=xf (jE (Av ls) pre ρ);obtain⟨nb0,nb1,nb2⟩:=one_cell HI4.is;obtain⟨Yd,nc1,nc2⟩:=one_cell HI4.cost;obtain⟨Ol,UL,nd2⟩:=Dn HI4.MA;have p0:=Yc.out 0 (by omega);have p1:=Yc.out 1 (by omega);have p2:=Yc.out 2 (by omega);have p3:=Yc.out 3 (by omega)
        have p4:=Yc.out 4 (by omega);have d0:=Ol 0;have d1:=Ol 1;have d2:=Ol 2;have d3:=Ol 3;have d4:=Ol 4;have f0:=UL 0;have f1:=UL 1;have f2:=UL 2;have f3:=UL 3;have f4:=UL 4;generalize DU (Av ls) pre=o' at nb0 Yd d0 d1 d2 d3 d4 WU HI3;simp only[Oe,xT,List.getElem?_cons_zero,List.getElem?_cons_succ] at d0 d1 d2 d3 d4;clear HI4 Ol UL;have Wy:Hid (T0 w9.heap.size/\T0 (w9.heap.size+1)/\T0 (w.heap.size+1)):=xf (by rw[HT0.out];exact⟨.inl rfl,.inr (.inl rfl),.inr (.inr rfl)⟩)
        have ND:KT T0 W3 (W3.drewN m):=zF ((Gr.refl W3).drewN m);have HKD:=xf ND;have hw9:w.heap.size+1<w9.heap.size:=by omega
        clear ND;obtain⟨q5,hq5⟩:∃q,q=G3 ρ (Av ls) 5:=⟨_,rfl⟩;rw[<-hq5] at HF5 WU ⊢;clear hq5;have HP:=xf ((HI3.out.drewN m).put (by omega) (by omega) (by omega) ρ q5 T0 Wy.out.1 Wy.out.2.1 Wy.out.2.2);cases o' with
        |none =>
         gi_wp2
         refine⟨HKD.out.trans HP.out.2,?_⟩;show IA _ _ _ _ (DU _ (pre++[ρ])) _;rw[WU.out];exact HP.out.1
        |some p =>
         obtain⟨p1,n0⟩:=p;simp only[Option.isSome,Tq] at nb0 Yd;by_cases hlt:q5<n0
         .have O0:(q5:Int)<(n0:Int):=by omega
          gi_wp2
          refine⟨HKD.out.trans HP.out.2,?_⟩;show IA _ _ _ _ (DU _ (pre++[ρ])) _;rw[WU.out];simp only[if_pos hlt];exact HP.out.1
         .have O0:¬(q5:Int)<(n0:Int):=by omega
          gi_wp2
          refine⟨HKD.out,?_⟩;show IA _ _ _ _ (DU _ (pre++[ρ])) _;rw[WU.out];simp only[if_neg hlt];exact HI3.out.drewN m
     .intro D W hD Jz hi hd;have hw9:w.heap.size+1<w9.heap.size:=by omega
      have hGW:Gr w W:=KT.gr (T:=λb=>T0 b\/b=JR.heap.size+1) (Km.out.gr.trans (afu.out.trans Oj.out)) Jz (by
       rintro b (h|h)
       .rw[HT0.out] at h;omega
       .omega)
      have hzW:=Jz.size;have HNR:Hid (DU (Av ls) (Bo (Hq c k d) (Bc c.Ap.length) c.Aq.length DC 0)=DU (Av ls) (Bo c' (Bc c.Ap.length) c.Aq.length DC 0)):=xf (by rw[HC'.out]);have Gl:∀p,DU (Av ls) (Bo c' (Bc c.Ap.length) c.Aq.length DC 0)=some p->∀i,i<5->p.1 i<16:=λp hp i _ =>
       qW (by omega) (kO Tz.out.1 _ _ _ fV p.1 (qD _ _ p rfl hp) i)
      obtain⟨o',LP⟩:∃o',o'=DU (Av ls) (Bo c' (Bc c.Ap.length) c.Aq.length DC 0):=⟨_,rfl⟩;rw[<-LP] at Gl HNR hi;have HNR2:=xf LP
      have UM:Hid (∀e w',Gr w w'->(match o' with
       |none=>e=.returned (.tuple #[.slice none 0 0,.int .i64 0,.int .i64 11])
       |some p=>∃A k,e=.returned (.tuple #[.slice A c.Aq.length k,.int .i64 p.2,.int .i64 0])/\BD w' w'.heap.size A (aX p.1 c.Aq.length))->jd c ls k d w e w'):=xf λe w' hg h=>by
        refine⟨hg,?_⟩;rw[if_neg (by simp[HE.out]),if_neg (by rw[show C2 (k:Int) 0 (c.Ap.length-1)=true by unfold C2;simp;omega,<-HX2.out];simp),show((k:Int)).toNat=k from rfl,HNR.out];exact h
      have hcc:W.cell? ⟨wz.heap.size+1,0,none⟩=some (.slice nA c.Aq.length nc):=by
       rw[Jz.cell (p:=⟨wz.heap.size+1,0,none⟩) (by show wz.heap.size+1<_;omega) (by rintro(h|h);exact Va.out _ (.inr (.inl rfl)) h;have h':wz.heap.size+1=JR.heap.size+1:=h;omega)];have:=Jy.out.CZ.c0
       rwa [hcn] at this
      obtain⟨nb0,nb1,nb2⟩:=one_cell hi.is;obtain⟨Yd,nc1,nc2⟩:=one_cell hi.cost;obtain⟨Ol,UL,nd2⟩:=Dn hi.MA;have Ex:=xf hGW;have HDD:=xf hd;have hD9:D≠w.heap.size+1:=by omega
      have afC:wz.heap.size+1<W.heap.size:=by omega
      have TA:=xf Gl;clear Jz hi hGW hd LP Gl;cases o' with
      |none =>
       have HDS:Hid ((W.setCell ⟨w.heap.size+1,0,none⟩ (.int .i64 0)).heap[D]?=some (.deferred (some []))):=xf ((xD _ _ _ _ hD9).trans HDD.out);go_wp2;refine dI HDS.out (v:=.tuple #[.slice none 0 0,.int .i64 0,.int .i64 11]) ?_ (UM.out _ _ ((Ex.out.setCell (by show _<=w.heap.size+1;omega) _).putObj (by omega) _) rfl);have:=cx (W:=W.setCell ⟨w.heap.size+1,0,none⟩ (.int .i64 0)) (D:=D) (o:=.deferred none) (p:=⟨w.heap.size+1,0,none⟩) (Ne.symm hD9)
       rw[xE _ _ _ Yd] at this;simp[results,Tryz.results22,go_sem,this]
      |some p =>
       obtain⟨p1,n0⟩:=p;have HL:=xf (nR (wz.heap.size+1) nA c.Aq.length nc p1 W.drew afC hcc MK (TA.out _ rfl));have d0:=Ol 0;have d1:=Ol 1;have d2:=Ol 2;have d3:=Ol 3;have d4:=Ol 4;simp only[Oe,aaG,xT,List.getElem?_cons_zero,List.getElem?_cons_succ] at d0 d1 d2 d3 d4;simp only[Option.isSome,Tq] at nb0 Yd;unfold BI at HL;clear Ol UL;go_wp2;refine lm ?_;go_region_with (first|(go_at_call 48;refine HL.out.mono ?_;rintro e w3 ⟨A3,c3,xs3,rfl,Jj,hg3⟩;have q0:=(hg3.cell (p:=⟨w.heap.size+1,0,none⟩) (by show w.heap.size+1<W.heap.size;omega)).trans Yd;have q1:=(hg3.frozen (p:=⟨w.heap.size+1,0,none⟩) (by show w.heap.size+1<W.heap.size;omega)).trans nc1;have D8:=xf hg3;have HOG:=xf Jj;clear hg3 Jj))
       all_goals
        go_wp2;have hz3:=D8.out.size;have hz3':W.heap.size<=w3.heap.size:=hz3;have hD3:(w3.setCell ⟨w.heap.size+1,0,none⟩ (.int .i64 (n0:Nat))).heap[D]?=some (.deferred (some [])):=(xD _ _ _ _ hD9).trans ((D8.out.below.block D (xg.1 HDD.out).1).trans HDD.out);have afD:AY ((w3.setCell ⟨w.heap.size+1,0,none⟩ (.int .i64 (n0:Nat))).putObj D (.deferred none)) (W.drew.heap.size+1) (.slice A3 c.Aq.length c3) (aX p1 c.Aq.length) xs3:=HOG.out.keep' λb hb hl=>by
         have hDl:=(xg.1 HDD.out).1;have hb':W.heap.size+1<=b:=hb;rw[World.putObj_heap_other (by omega),xD _ _ _ _ (by show b≠w.heap.size+1;omega)]
        obtain⟨A4,c4,e4,afE⟩:=afD.Ll;rw[dZ] at e4;refine dI hD3 (v:=.tuple #[.slice A3 c.Aq.length c3,.int .i64 (n0:Nat),.int .i64 0]) ?_ (UM.out _ _ (((Ex.out.drew.trans D8.out).setCell (by show _<=w.heap.size+1;omega) _).putObj (by omega) _) ⟨A4,c4,by rw[e4],afE⟩);have:=cx (W:=w3.setCell ⟨w.heap.size+1,0,none⟩ (.int .i64 (n0:Nat))) (D:=D) (o:=.deferred none) (p:=⟨w.heap.size+1,0,none⟩) (Ne.symm hD9)
        rw[xE _ _ _ q0] at this;simp[results,Tryz.results22,go_sem,this]
 .rw[if_neg hE] at hf;obtain⟨p,r,rfl⟩:=hf;have HE:=xf hE;obtain⟨q,hq⟩:∃q,q=Ay c ls:=⟨_,rfl⟩;rw[<-hq] at hE ⊢;have HQ:=xf hq;have hqe:(q != 0)=true:=by simp[hE]
  obtain⟨Ku,Ip,LY⟩:=one_cell Ts.out;have HX:=xf (show Gr w (w1.alloc (.cells #[.int .u8 (r 0),.int .u8 (r 1),.int .u8 (r 2),.int .u8 (r 3),.int .u8 (r 4)] 72)) from Ea.out.alloc _);clear hE hq hg1 CW;unfold BI;go_wp2;have hres:((w1.setCell ⟨w.heap.size+1,0,none⟩ (.int .i64 0)).alloc (.cells #[.int .u8 (r 0),.int .u8 (r 1),.int .u8 (r 2),.int .u8 (r 3),.int .u8 (r 4)] 72)).cell? ⟨w.heap.size+1,0,none⟩=some (.int .i64 0):=by
   rw[xI _ _ _ (by simp[World.setCell];exact LY)];exact xE _ _ _ Ku
  refine fp (v:=.tuple #[.slice none 0 0,.int .i64 0,.int .i64 q]) (by simp[results,Tryz.results22,go_sem,hres]) ⟨(Ea.out.setCell (by show _<=w.heap.size+1;omega) _).alloc _,?_⟩;rw[if_pos HE.out,HQ.out]
end Go.Proofs.Ao
