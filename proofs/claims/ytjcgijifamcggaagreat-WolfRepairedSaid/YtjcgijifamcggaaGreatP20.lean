/- Parts of the proof. -/
import Derived.Test.YtjcgijifamcggaaGreatP19
import Derived.Test.YtjcgijifamcggaaGreatP00
import Derived.Test.YtjcgijifamcggaaGreatP01
import Derived.Test.YtjcgijifamcggaaGreatP15
import Derived.Test.YtjcgijifamcggaaGreatP16
import Derived.Test.YtjcgijifamcggaaGreatP02
import Derived.Test.YtjcgijifamcggaaGreatP14
import Derived.Shelf.Sort.Plain
import Derived.Sort.BigQuietIn
set_option linter.all false
set_option maxHeartbeats 6400000
set_option maxRecDepth 1000000
namespace Go.Sq
def Gs (M:List (List Int))(k i j:Nat):Int:=Fl M k j-(if j=k then(M[k]?.getD []).sum else 0)+if j<i then(M[k]?.getD [])[j]?.getD 0 else 0
def sB (M:List (List Int))(k i j:Nat)(h:j<i):Gs M k i j=Fl M (k+1) j:=by
 show _+(if _ then _ else _)=_;rw[if_pos h];rfl
def qy (M:List (List Int))(k j:Nat):Gs M k 0 j=Fl M k j-if j=k then(M[k]?.getD []).sum else 0:=by
 unfold Gs;generalize Fl M k j-(if j=k then(M[k]?.getD []).sum else 0)=a;rw[if_neg (zg j)];omega
def qz (M:List (List Int))(k j t:Nat):Gs M k (j+1) t=Gs M k j t+if t=j then(M[k]?.getD [])[j]?.getD 0 else 0:=by
 unfold Gs;generalize Fl M k t-(if t=k then(M[k]?.getD []).sum else 0)=a;by_cases e:t=j
 .subst e;rw[if_pos (by omega),if_neg (by omega),if_pos rfl];omega
 .by_cases e2:t<j
  .rw[if_pos (by omega),if_pos e2,if_neg e];omega
  .rw[if_neg (by omega),if_neg e2,if_neg e];omega
def qA (M:List (List Int))(k j:Nat):Gs M k j j=Fl M k j-if j=k then(M[k]?.getD []).sum else 0:=by
 unfold Gs;generalize Fl M k j-(if j=k then(M[k]?.getD []).sum else 0)=a;rw[if_neg (by omega)];omega
structure Iy (M:List (List Int)):Prop where
 size:M.length<=4
 rows:∀l∈M,l.length=M.length/\∀x∈l,0<=x/\x<=65536
def Iy.row {M:List (List Int)}(h:Iy M){k:Nat}(hk:k<M.length):(M[k]?.getD []).length=M.length/\∀x∈M[k]?.getD [],0<=x/\x<=65536:=h.rows _ (fO M k hk)
def Iy.at_ {M:List (List Int)}(h:Iy M){k:Nat}(hk:k<M.length)(j:Nat):0<=(M[k]?.getD [])[j]?.getD 0/\(M[k]?.getD [])[j]?.getD 0<=65536:=by
 rcases yf j (M[k]?.getD []).length with hj|hj
 .exact(h.row hk).2 _ (Dq _ j hj)
 .rw[yO hj];simp
def Iy.sum {M:List (List Int)}(h:Iy M){k:Nat}(hk:k<M.length):0<=(M[k]?.getD []).sum/\(M[k]?.getD []).sum<=262144:=by
 have h1:=EG 0 65536 _ (h.row hk).2;have h2:=(h.row hk).1;have h3:=h.size;omega
def nz {M:List (List Int)}(h:Iy M)(k j:Nat)(hk:k<=M.length):-(262144*k)<=Fl M k j/\Fl M k j<=65536*k:=by
 induction k with
 |zero=>simp[Fl]
 |succ k ih =>
  have h1:=ih (by omega);have h2:=h.at_ (show k<M.length by omega) j;have h3:=h.sum (show k<M.length by omega);unfold Fl;split<;>omega
def oQ {c:AW}(hc:c.Ok)(r:Bt){p:Int}(hp:0<=p/\p<=99)(ws:List Int):Iy (Hq c r p ws):=by
 have hl:(Hq c r p ws).length=c.AH.length:=fR _ _;refine⟨by rw[hl];exact hc.h4,λl hm=>?_⟩;rw[hl];simp only[Hq,LK,xU,yb] at hm;obtain⟨a,ha,rfl⟩:=hm;refine⟨by simp,λx hx=>?_⟩;simp only[xU,yb] at hx;obtain⟨t,_,rfl⟩:=hx;have h1:=lS hp r (C9 c r ws) a t (C9 c r ws).length;have h2:=jv hc r ws;omega
end Go.Sq
namespace Go.Proofs.YtjcgijifamcggaaGreat
open Go.RowKit Go.Sq
def oR (nA hA gA rA:Option Addr)(nc hc gc rc:Nat)(c:AW)(ls:List (List Int))(rs:List (Int×Int))(p:Int)(w:World)(B:Nat)(hB:B<=w.heap.size)(hn:RI w B nA c.AK)(hh:Dr w B hA c.AH)(hg:CR w B gA ls)(hr:FB w B rA rs)
  (IZ:c.AK.length<=4611686018427387904) (hl2:c.AH.length<=4611686018427387904) (C7:∀h∈c.AH,h.off.length<=4611686018427387904) (L8:ls.length<=4611686018427387904) (hl4:∀x∈ls,x.length<=4611686018427387904) (hl5:rs.length<=4611686018427387904) (P5:rs.length<=rc)
  (hF:Ba c ls=0) (hR:gQ c.AK.length rs=0) (hp:0<=p/\p<=99) :
  Calls AG 34 #[Bp nA hA c nc hc,.slice gA ls.length gc,.slice rA rs.length rc,.int .i64 p] w λe w'=>Gr w w'/\∃A k,e=.returned (.tuple #[.slice A c.AH.length k,.int .i64 0]) /\
   RI w' w'.heap.size A (Qs (Hq c (AP ls) p (B7 c.AK.length rs rs.length))):=by
 unfold Bp;obtain⟨W0,hW0⟩:∃W0:World,W0=w.alloc (.cells #[.slice nA c.AK.length nc,.slice hA c.AH.length hc] 27):=⟨_,rfl⟩;have hg0:Gr w W0:=hW0▸(Gr.refl w).alloc _;have hz0:W0.heap.size=w.heap.size+1:=by rw[hW0];simp
 have HW:=xl hW0;have how:=vR nA hA gA rA nc hc gc rc c ls rs p W0 B (by omega) (hn.gr hB hg0) (hh.keep λb o hb=>hg0.cell (xx hb hB)) (hg.gr hB hg0) (hr.gr hB hg0) IZ hl2 C7 L8 hl4 hl5 P5 hF hR hp;unfold Bp at how;have Ds:=xl hg0
 have DV:=AW.Ok.of (show Bi c=0 by
  have:=hF;unfold Ba at this;split at this
  .exact absurd this (by assumption)
  .simpa using ‹¬Bi c≠0›)
 have Xd:=oQ DV (AP ls) hp (B7 c.AK.length rs rs.length);have OW:(Hq c (AP ls) p (B7 c.AK.length rs rs.length)).length=c.AH.length:=fR _ _;have h4:=DV.h4;generalize Hq c (AP ls) p (B7 c.AK.length rs rs.length)=M at how Xd OW;rw[<-OW] at h4;have W6:=xl OW;have HOW:=xl (how.mono (R':=λe w'=>Gr W0 w'/\∃A k,e=.returned (.tuple #[.slice A M.length k,.int .i64 0])/\CR w' w'.heap.size A M) λe w' h=>by rw[OW];exact h)
 have YF:=xl Xd;have GL:=λw=>jp M.length w (by omega);clear hW0 hg0 how hn hh hg hr hl4 C7 hF hR DV Xd OW;go_enter Sq.func34,Tryz.ntmps34;go_wp2_with fail;rw[<-HW.out];refine HOW.out.mono ?_;rintro e w1 ⟨hg1,A,ka,rfl,aba⟩;have Df:=xl hg1;have Wv:=xl aba;have hz1:=hg1.size;clear hg1 aba HOW;go_wp2;go_loopw [33] (λi wr=>∃k:Nat,k<=M.length/\i=.int .i64 k/\Gr w1 wr/\w1.heap.size<wr.heap.size/\∀j,j<M.length->wr.cell? ⟨w1.heap.size,j,none⟩=some (.int .i64 (Fl M k j))/\wr.frozen? ⟨w1.heap.size,j,none⟩=false) (λi _=>M.length-(intOf i).toNat)
 case atStart =>
  refine⟨0,by omega,rfl,(Gr.refl w1).alloc _,by simp,λj hj=>⟨?_,?_⟩⟩
  .rw[xu _ _ _ _ (by simp),fe _ _ hj];rfl
  .rw[yi _ _ _ _ (by simp)]
 case round =>
  obtain⟨wq,rfl⟩:∃wq,wq=wr:=⟨_,rfl⟩;obtain⟨k,hk,rfl,hgr,Yq,hcs⟩:=hrel;have Fp:=xl hgr;have Hc:=xl hcs;by_cases hlt:k<M.length
  .obtain⟨b,o,A',c',rfl,hb,abb,Xe⟩:=Wv.out.at_ hlt;have JY:=(hgr.cell (p:=⟨b,o+k,none⟩) hb).trans abb;have Ea:=Xe.gr (xp _) hgr;have Kh:=xl Xe;clear abb Xe;obtain⟨SU,hrx⟩:=YF.out.row hlt;have hsm:=YF.out.sum hlt;obtain⟨e1,e2⟩:=hcs k hlt;have F4:=nz YF.out k k hk;have PR:∀q,q=wq\/q=wq.drew->Calls AG 65 #[.slice A' (M[k]?.getD []).length c'] q λe w'=>e=.returned (.int .i64 (M[k]?.getD []).sum)/\q=w':=λq hq=>wD A' c' (M[k]?.getD []) q w1.heap.size (by rcases hq with rfl|rfl<;>exact Ea) (by omega) (λx hx=>by have:=hrx x hx;omega)
   have HM0:Hid (∀j,j<M.length->Gs M k 0 j=Fl M k j-if j=k then(M[k]?.getD []).sum else 0):=xl λj _=>qy M k j;have IG:=xl Ea;have HRX:=xl hrx;rw[SU] at JY PR;have abc:=xl PR;obtain⟨S,hS⟩:∃S,S=(M[k]?.getD []).sum:=⟨_,rfl⟩;rw[<-hS] at abc hsm HM0;have TL:Hid (∀j,j<M.length->(wq.setCell ⟨w1.heap.size,k,none⟩ (.int .i64 (Fl M k k-S))).cell? ⟨w1.heap.size,j,none⟩=some (.int .i64 (Gs M k 0 j))/\(wq.setCell ⟨w1.heap.size,k,none⟩ (.int .i64 (Fl M k k-S))).frozen? ⟨w1.heap.size,j,none⟩=false):=xl λj hj=>by
    rw[yt,HM0.out j hj];refine⟨?_,(Hc.out j hj).2⟩;by_cases e:j=k
    .subst e;rw[xJ _ _ _ e1,if_pos rfl]
    .rw[xB _ _ _ _ (by simp[Ne.symm e]),if_neg e,(Hc.out j hj).1];simp
   have HGS:Hid (Gr w1 (wq.setCell ⟨w1.heap.size,k,none⟩ (.int .i64 (Fl M k k-S)))):=xl (hgr.setCell (p:=⟨w1.heap.size,k,none⟩) (xp _) _);clear hgr hcs Ea hrx PR hS Hc;generalize Fl M k k=bk at e1 F4 TL HGS;have hwr:IntKind.i64.wrap (bk-S)=bk-S:=by simp[IntKind.wrap,IntKind.bits,IntKind.signed];omega
   go_wp2;go_region_with (go_at_call 65;refine(abc.out _ (by first|exact Or.inl rfl|exact Or.inr rfl)).mono ?_;rintro e w3 ⟨rfl,rfl⟩)
   all_goals
    clear e1 e2 hwr;go_wp2;go_loopw [48] (λi wr=>∃j:Nat,j<=M.length/\i=.int .i64 j/\Gr w1 wr/\w1.heap.size<wr.heap.size/\∀t,t<M.length->wr.cell? ⟨w1.heap.size,t,none⟩=some (.int .i64 (Gs M k j t))/\wr.frozen? ⟨w1.heap.size,t,none⟩=false) (λi _=>M.length-(intOf i).toNat)
    case atStart=>exact⟨0,by omega,rfl,HGS.out.drew,by simp[World.setCell,World.drew];omega,TL.out⟩
    case round =>
     obtain⟨j,hj,rfl,F6,TA,hci⟩:=hrel;have G5:=xl F6;have Xf:=xl hci;by_cases Qy:j<M.length
     .obtain⟨b2,o2,rfl,hb2,Yr⟩:=(Kh.out.gr (xp _) F6).at_ (k:=j) (by omega);have hx:=YF.out.at_ hlt j;obtain⟨e1,e2⟩:=hci j Qy;have PE:=nz YF.out k j hk;have U8:Hid (∀t,Gs M k (j+1) t=Gs M k j t+if t=j then(M[k]?.getD [])[j]?.getD 0 else 0):=xl λt=>qz M k j t;have hbm:-(262144*5)<=Gs M k j j/\Gs M k j j<=65536*5:=by
       have hsm2:=YF.out.sum hlt;rw[qA];split<;>omega
      generalize Gs M k j j=y at e1 hbm;generalize (M[k]?.getD [])[j]?.getD 0=z at Yr hx U8;have HST:Hid (y=y->∀t,t<M.length->(wr.setCell ⟨w1.heap.size,j,none⟩ (.int .i64 (y+z))).cell? ⟨w1.heap.size,t,none⟩=some (.int .i64 (Gs M k (j+1) t))/\(wr.setCell ⟨w1.heap.size,j,none⟩ (.int .i64 (y+z))).frozen? ⟨w1.heap.size,t,none⟩=false):=xl λ_ t ht=>by
       rw[yt,U8.out];refine⟨?_,(Xf.out t ht).2⟩;by_cases e:t=j
       .subst e;rw[xJ _ _ _ e1,if_pos rfl];have:=(Xf.out t ht).1;rw[e1] at this;cases this
        rfl
       .rw[xB _ _ _ _ (by simp[Ne.symm e]),if_neg e,(Xf.out t ht).1];simp
      have HGT:=xl (F6.setCell (p:=⟨w1.heap.size,j,none⟩) (xp _) (.int .i64 (y+z)));clear F6 hci;go_wp2;go_roundw
      case rel=>exact⟨j+1,by omega,by go_num,HGT.out,by simp[World.setCell];omega,HST.out rfl⟩
      case measure=>simp[intOf];omega
     .have I4:j=M.length:=by omega
      subst I4;clear F6 hci;have SV:Hid (∀t,t<M.length->wr.cell? ⟨w1.heap.size,t,none⟩=some (.int .i64 (Fl M (k+1) t))/\wr.frozen? ⟨w1.heap.size,t,none⟩=false):=xl λt ht=>by
       rw[<-sB M k M.length t ht];exact Xf.out t ht
      go_wp2;go_roundw
      case rel=>exact⟨k+1,by omega,by go_num,G5.out,TA,SV.out⟩
      case measure=>simp[intOf];omega
  .have Ik:k=M.length:=by omega
   subst Ik
   have HF:Hid (RI wq wq.heap.size (some ⟨w1.heap.size,0,none⟩) (Qs M)):=xl λ_=>⟨_,0,rfl,Yq,λi x hx=>by
    have hi:i<M.length:=by have:=(xS.1 hx).1;simpa [Qs] using this
    have Hy:x=Fl M M.length i:=by
     unfold Qs at hx;rw[yw,List.getElem?_range hi] at hx;exact(Option.some.inj hx).symm
    rw[xM,Hy]
    exact(hcs i hi).1⟩
   clear hgr hcs;go_wp2;go_ret2;refine⟨Ds.out.trans (Df.out.trans Fp.out),some ⟨w1.heap.size,0,none⟩,M.length,?_,HF.out⟩;rw[<-W6.out];rfl
open Go.Shelf
def Au:Ren:=⟨λ|189=>22|125=>46|257=>45|128=>83|129=>84|294=>74|295=>75|296=>76|297=>77|298=>78|299=>79|216=>80|300=>81|301=>82|328=>102|329=>103|330=>104|331=>105|332=>106|215=>107|343=>140|n=>n,λ|28=>22|3=>3|46=>91|0=>0|51=>126|53=>43|4=>4|183=>143|182=>142|131=>147|5=>5|9=>9|218=>171|222=>174|228=>203|229=>204|n=>n,λn=>n⟩
def Ar:Lays.n189 AG Au where
 mixed:=(congrArg (λt:Tables=>t.follows .mixedOrders) zZ).trans (by kernel_rfl)
 f125:=Sq.func46.trans (congrArg some (by kernel_rfl))
 f128:=Sq.func83.trans (congrArg some (by kernel_rfl))
 f129:=Sq.func84.trans (congrArg some (by kernel_rfl))
 f189:=Sq.func22.trans (congrArg some (by kernel_rfl))
 f215:=Sq.func107.trans (congrArg some (by kernel_rfl))
 f216:=Sq.func80.trans (congrArg some (by kernel_rfl))
 f257:=Sq.func45.trans (congrArg some (by kernel_rfl))
 f294:=Sq.func74.trans (congrArg some (by kernel_rfl))
 f295:=Sq.func75.trans (congrArg some (by kernel_rfl))
 f296:=Sq.func76.trans (congrArg some (by kernel_rfl))
 f297:=Sq.func77.trans (congrArg some (by kernel_rfl))
 f298:=Sq.func78.trans (congrArg some (by kernel_rfl))
 f299:=Sq.func79.trans (congrArg some (by kernel_rfl))
 f300:=Sq.func81.trans (congrArg some (by kernel_rfl))
 f301:=Sq.func82.trans (congrArg some (by kernel_rfl))
 f328:=Sq.func102.trans (congrArg some (by kernel_rfl))
 f329:=Sq.func103.trans (congrArg some (by kernel_rfl))
 f330:=Sq.func104.trans (congrArg some (by kernel_rfl))
 f331:=Sq.func105.trans (congrArg some (by kernel_rfl))
 f332:=Sq.func106.trans (congrArg some (by kernel_rfl))
 f343:=Sq.func140.trans (congrArg some (by kernel_rfl))
 t0:=(Sq.underlying 0).trans Tryz.underlying0
 a0:=λw=>(zW 0 w).trans (Tryz.isAgg0 w)
 z0:=λw=>(Sq.sizeOf 0 w).trans (Tryz.sizeOf0 w)
 v0:=λw=>(Sq.zeroValue 0 w).trans (Tryz.zeroValue0 w)
 t3:=(Sq.underlying 3).trans Tryz.underlying3
 a3:=λw=>(zW 3 w).trans (Tryz.isAgg3 w)
 z3:=λw=>(Sq.sizeOf 3 w).trans (Tryz.sizeOf3 w)
 v3:=λw=>(Sq.zeroValue 3 w).trans (Tryz.zeroValue3 w)
 t4:=(Sq.underlying 4).trans Tryz.underlying4
 a4:=λw=>(zW 4 w).trans (Tryz.isAgg4 w)
 z4:=λw=>(Sq.sizeOf 4 w).trans (Tryz.sizeOf4 w)
 v4:=λw=>(Sq.zeroValue 4 w).trans (Tryz.zeroValue4 w)
 t5:=(Sq.underlying 5).trans Tryz.underlying5
 a5:=λw=>(zW 5 w).trans (Tryz.isAgg5 w)
 z5:=λw=>(Sq.sizeOf 5 w).trans (Tryz.sizeOf5 w)
 v5:=λw=>(Sq.zeroValue 5 w).trans (Tryz.zeroValue5 w)
 t9:=(Sq.underlying 9).trans Tryz.underlying9
 a9:=λw=>(zW 9 w).trans (Tryz.isAgg9 w)
 z9:=λw=>(Sq.sizeOf 9 w).trans (Tryz.sizeOf9 w)
 v9:=λw=>(Sq.zeroValue 9 w).trans (Tryz.zeroValue9 w)
 t28:=(Sq.underlying 22).trans Tryz.underlying22
 a28:=λw=>(zW 22 w).trans (Tryz.isAgg22 w)
 z28:=λw=>(Sq.sizeOf 22 w).trans (Tryz.sizeOf22 w)
 v28:=λw=>(Sq.zeroValue 22 w).trans (Tryz.zeroValue22 w)
 t46:=(Sq.underlying 91).trans Tryz.underlying91
 a46:=λw=>(zW 91 w).trans (Tryz.isAgg91 w)
 z46:=λw=>(Sq.sizeOf 91 w).trans (Tryz.sizeOf91 w)
 v46:=λw=>(Sq.zeroValue 91 w).trans (Tryz.zeroValue91 w)
 t51:=(Sq.underlying 126).trans Tryz.underlying126
 a51:=λw=>(zW 126 w).trans (Tryz.isAgg126 w)
 z51:=λw=>(Sq.sizeOf 126 w).trans (Tryz.sizeOf126 w)
 v51:=λw=>(Sq.zeroValue 126 w).trans (Tryz.zeroValue126 w)
 t53:=(Sq.underlying 43).trans Tryz.underlying43
 a53:=λw=>(zW 43 w).trans (Tryz.isAgg43 w)
 z53:=λw=>(Sq.sizeOf 43 w).trans (Tryz.sizeOf43 w)
 v53:=λw=>(Sq.zeroValue 43 w).trans (Tryz.zeroValue43 w)
 t131:=(Sq.underlying 147).trans Tryz.underlying147
 a131:=λw=>(zW 147 w).trans (Tryz.isAgg147 w)
 z131:=λw=>(Sq.sizeOf 147 w).trans (Tryz.sizeOf147 w)
 v131:=λw=>(Sq.zeroValue 147 w).trans (Tryz.zeroValue147 w)
 t182:=(Sq.underlying 142).trans Tryz.underlying142
 a182:=λw=>(zW 142 w).trans (Tryz.isAgg142 w)
 z182:=λw=>(Sq.sizeOf 142 w).trans (Tryz.sizeOf142 w)
 v182:=λw=>(Sq.zeroValue 142 w).trans (Tryz.zeroValue142 w)
 t183:=(Sq.underlying 143).trans Tryz.underlying143
 a183:=λw=>(zW 143 w).trans (Tryz.isAgg143 w)
 z183:=λw=>(Sq.sizeOf 143 w).trans (Tryz.sizeOf143 w)
 v183:=λw=>(Sq.zeroValue 143 w).trans (Tryz.zeroValue143 w)
 t218:=(Sq.underlying 171).trans Tryz.underlying171
 a218:=λw=>(zW 171 w).trans (Tryz.isAgg171 w)
 z218:=λw=>(Sq.sizeOf 171 w).trans (Tryz.sizeOf171 w)
 v218:=λw=>(Sq.zeroValue 171 w).trans (Tryz.zeroValue171 w)
 t222:=(Sq.underlying 174).trans Tryz.underlying174
 a222:=λw=>(zW 174 w).trans (Tryz.isAgg174 w)
 z222:=λw=>(Sq.sizeOf 174 w).trans (Tryz.sizeOf174 w)
 v222:=λw=>(Sq.zeroValue 174 w).trans (Tryz.zeroValue174 w)
 t228:=(Sq.underlying 203).trans Tryz.underlying203
 a228:=λw=>(zW 203 w).trans (Tryz.isAgg203 w)
 z228:=λw=>(Sq.sizeOf 203 w).trans (Tryz.sizeOf203 w)
 v228:=λw=>(Sq.zeroValue 203 w).trans (Tryz.zeroValue203 w)
 t229:=(Sq.underlying 204).trans Tryz.underlying204
 a229:=λw=>(zW 204 w).trans (Tryz.isAgg204 w)
 z229:=λw=>(Sq.sizeOf 204 w).trans (Tryz.sizeOf204 w)
 v229:=λw=>(Sq.zeroValue 204 w).trans (Tryz.zeroValue204 w)
open Go.Sort
def lT:Lib.pop8tab.size=256:=by decide +kernel
def ut:∀x:Fin 16,wrap64 ((Lib.pop8tab[x.val]'(by have:=lT;omega)).toNat:Int)=((wl x.val).length:Int):=by decide +kernel
def vS (x:Nat)(w:World)(hx:x<16):Calls AG 54 #[.int .u8 (x:Int)] w λe w'=>e=.returned (.int .i64 (wl x).length)/\w=w':=by
 have HP:=xl (ut ⟨x,hx⟩);have hps:x<Lib.pop8tab.size:=by have:=lT;omega
 go_enter Sq.func54,Tryz.ntmps54;go_wp2;go_ret;exact⟨av HP.out,rfl⟩
def vT (x:Nat)(w:World)(hx:x<16):Calls AG 25 #[.int .u8 x] w λe w'=>e=.returned (.int .i64 (wl x).length)/\w=w':=by
 have HC:=xl (vS x w hx);go_enter Sq.func25,Tryz.ntmps25;go_wp2_with fail;refine HC.out.mono ?_;rintro e w' ⟨rfl,rfl⟩;go_wp2;go_ret;exact⟨rfl,rfl⟩
def Jt (l:List Int):List Int:=l.mergeSort λx y=>decide (x<=y)
def kC (l:List Int):(Jt l).length=l.length:=List.length_mergeSort l
def uu (g cap:Nat)(l:List Int)(w:World){base:Nat}(h:w.ownsRow base 3 1 (.slice (some ⟨g,0,none⟩) l.length cap) l.length (l.map (Value.int .i64)))(hl:l.length<=1048576) :
  Calls AG 22 #[.slice (some ⟨g,0,none⟩) l.length cap] w λe w'=>e=.returned (.tuple #[])/\KT (·=g) w w'/\∀(i:Nat) (x:Int),(Jt l)[i]?=some x->w'.cell? ⟨g,i,none⟩=some (.int .i64 x):=by
 have hlt:g<w.heap.size:=(h.lt g rfl).2;have hH:Holds (Value.int .i64) w g 0 l.toArray:=by
  intro j hj;have hj':j<l.length:=by simpa using hj
  refine⟨?_,?_⟩
  .have:=h.cells (g:=g) rfl j (.int .i64 l[j]) (by simp[hj']);rw[Addr.add_lit] at this;rw[this,getElem!_pos l.toArray j (by simpa using hj')];simp
  .rcases h.2 with⟨h,_⟩|⟨g',c',cur,h,_,hb,_⟩
   .cases h
   .obtain⟨rfl⟩:g=g':=by injection h with h1;injection h1 with h2;injection h2
    simp[World.frozen?,hb]
 refine(Any.slices_Sort_int Ar g 0 cap l w hH hlt (by omega)).mono ?_;rintro e w' ⟨he,n,os,hW⟩;have hsz:(Jt l).toArray.size=l.toArray.size:=by simp[kC]
 refine⟨he,?_,λi x hx=>?_⟩
 .subst hW;refine⟨rfl,rfl,rfl,?_,?_,λb hb hne=>?_⟩
  .show w.drawn<=w.drawn+n;omega
  .rw[size_grow,size_putRow];exact Nat.le_add_right _ _
  .rw[heap_grow_old _ _ (by rw[size_putRow];exact hb)];unfold putRow mapBlock;rw[yh,if_neg (λh=>hne h.symm)]
   rfl
 .have hi:i<(Jt l).length:=(xS.1 hx).1;subst hW;rw[cell?_grow _ _ _ (by rw[size_putRow];exact hlt)];have:=cell?_putRow (Value.int .i64) (Sort.ahead w n) g 0 l.toArray (Jt l).toArray hH hsz i (by simpa using hi);rw[xM] at this;refine this.trans ?_;rw[getElem!_pos _ i (by simpa using hi)];rw[xq hi] at hx;simp at hx;simp[hx]
def uv (nA hA:Option Addr)(nc hc:Nat)(c:AW)(w:World)(K0:Nat->Prop)(hlt:∀b,K0 b->b<w.heap.size)(hn:F8 w K0 nA c.AK)(hh:Ed w K0 hA c.AH)(hm:c.AH.length<=4) :
  Calls AG 23 #[Bp nA hA c nc hc] w λe w'=>e=.returned (.pointer (some ⟨w.heap.size+1,0,none⟩))/\Gr w w'/\∃g cap,w.heap.size+2<=g /\
   Dg w' (λb=>K0 b\/b=w.heap.size+1\/b=g) (w.heap.size+1) c (Bo c.AH.length) nA hA nc hc g cap:=by
 refine(nj nA hA nc hc c.AK.length c.AH.length w hm (qc c.AH.length hm)).mono ?_;rintro e w' ⟨rfl,g,cap,W,⟨g',cap',hv,hk,hs,_⟩,hg,hgr,hz,h0,h1,h2,ho,_⟩;obtain⟨rfl,rfl⟩:g=g'/\cap=cap':=by injection hv with a b c;injection a with a;injection a with a;exact⟨a,c⟩
 have UO:=(ho.lt g rfl).2;have SI:Gr w w':=⟨⟨hk.os.trans hgr.below.os,hk.tape.trans hgr.below.tape,hk.output.trans hgr.below.output,xI hgr.size hk.size,λb hb=>(hk.block b (xx hb hgr.size) (by show b≠g;omega)).trans (hgr.below.block b hb)⟩,xI hgr.drawn hk.drawn⟩;refine⟨rfl,SI,g,cap,hg,?_⟩;have hc1:∀o,w'.cell? ⟨w.heap.size+1,o,none⟩=W.cell? ⟨w.heap.size+1,o,none⟩:=λo=>hk.cell (p:=⟨w.heap.size+1,o,none⟩) hz (by show w.heap.size+1≠g;omega)
 refine⟨?_,Or.inr (Or.inl rfl),(hc1 0).trans h0,(hc1 1).trans h1,?_,Or.inr (Or.inr rfl),hs,?_,?_⟩
 .rintro b (h|h|h)
  .have:=hlt b h;have:=SI.size;omega
  .have:=hk.size;omega
  .have:=hk.size;omega
 .rw[cW _ hm];exact(hc1 2).trans h2
 .intro hne;obtain⟨b,o,e,hb,hc⟩:=hn hne;exact⟨b,o,e,.inl hb,λi x hx=>(SI.cell (p:=⟨b,o+i,none⟩) (hlt b hb)).trans (hc i x hx)⟩
 .intro hne;obtain⟨b,o,e,hb,hc⟩:=hh hne;refine⟨b,o,e,.inl hb,λi x hx=>?_⟩;obtain⟨q1,q2,q3,A,m,q4,q5⟩:=hc i x hx;have k:∀o,w'.cell? ⟨b,o,none⟩=w.cell? ⟨b,o,none⟩:=λo=>SI.cell (p:=⟨b,o,none⟩) (hlt b hb);refine⟨(k _).trans q1,(k _).trans q2,(k _).trans q3,A,m,(k _).trans q4,λVy=>?_⟩;obtain⟨b',o',e',hb',hc'⟩:=q5 Vy;exact⟨b',o',e',.inl hb',λi x hx=>(SI.cell (p:=⟨b',o'+i,none⟩) (hlt b' hb')).trans (hc' i x hx)⟩
structure abd (nA:Option Addr)(nc:Nat)(c:AW)(ls:List (List Int))(k:Nat)(d:Int)(w:World)(b12 g cap:Nat)(w2:World):Prop where
 gr:Gr w w2
 c0:w2.cell? ⟨w.heap.size,0,none⟩=some (.slice nA c.AK.length nc)
 c1:w2.cell? ⟨w.heap.size,1,none⟩=some (.slice (some ⟨g,0,none⟩) c.AH.length cap)
 nb:w2.heap[w.heap.size+1]?=some (.cells #[.int .i64 0] 3 (0,0))
 lt:w.heap.size+1<b12/\b12<w2.heap.size/\b12<g
 given:∀i,i<5->w2.cell? ⟨b12,i,none⟩=some (.int .u8 (AP ls i:Nat))
 AK:F8 w2 (λb=>b<w2.heap.size/\b≠w.heap.size+1) nA c.AK
 aga:Ed w2 (λb=>b<w2.heap.size/\b≠w.heap.size+1) (some ⟨g,0,none⟩) (GY c k d).AH
def sC (c:AW)(k:Nat)(d:Int):(GY c k d).AH.length=c.AH.length:=by simp[GY]
def Ny {c:AW}{k i:Nat}{d:Int}{h:BH}(hi:(GY c k d).AH[i]?=some h)(hk:k<c.AH.length) :
  (i=k/\h={ c.h k with off:=dj (c.h k).off d })\/(i≠k/\c.AH[i]?=some h):=by
 unfold GY at hi;dsimp only at hi;rw[List.getElem?_set] at hi;by_cases e:k=i
 .subst e;rw[if_pos rfl,if_pos hk] at hi;cases hi;exact .inl ⟨rfl,rfl⟩
 .rw[if_neg e] at hi;exact .inr ⟨λh=>e h.symm,hi⟩
def gV {c:AW}{sets:List Nat}(hs:∀x∈sets,c.has x):∀(k:Nat) (r:Bt) (n:Nat),(∀i,c.has (r i))->∀ρ∈Bz c sets k r n,∀i,c.has (ρ i):=by
 intro k
 induction k with
 |zero=>intro r n hr ρ Dp;simp[Bz] at Dp;subst Dp;exact hr
 |succ k ih =>
  intro r n hr ρ Dp;simp only[Bz,List.mem_flatMap] at Dp;obtain⟨x,hx,h⟩:=Dp;split at h
  .refine ih _ _ (λi=>?_) ρ h;unfold upd;split
   .exact hs x hx
   .exact hr i
  .simp at h
def qB {c:AW}(h:c.AH.length<=4){x:Nat}(hx:c.has x):x<16:=by
 unfold AW.has at hx;exact xx hx (yy (by omega) h)
def sD {c:AW}{ls:List (List Int)}(hE:Ba c ls=0)(h4:c.AH.length<=4)(i:Nat):AP ls i<16:=by
 unfold Ba at hE;split at hE
 .rename_i h;exact absurd hE h
 .split at hE
  .rename_i h;exact absurd hE h
  .unfold AP;cases hl:ls[i]? with
   |none=>decide
   |some l =>
    have:=aQ.1 hE (De l c.AH.length) (xU.2 ⟨l,yM hl,rfl⟩);exact pA l λx hx=>by have:=(FM this).1 x hx;omega
def lU:∀a b:Fin 16,bits BinOp.xor IntKind.u8 (a.val:Int) (b.val:Int)=((a.val ^^^ b.val:Nat):Int)/\a.val ^^^ b.val<16:=by decide +kernel
def nB:∀x:Fin 16,(wl x.val).length<=4:=by decide +kernel
def nC {a b:Bt}(h:∀i,i<5->a i ^^^ b i<16):∀k,k<=5->C2 a b k<=4*k:=by
 intro k
 induction k with
 |zero=>intro _;exact xp _
 |succ k ih =>
  intro hk;have h1:=ih (by omega);have h2:=nB ⟨a k ^^^ b k,h k (by omega)⟩;show C2 a b k+(wl (a k ^^^ b k)).length<=_;simp only at h2;omega
def Om (r:Bt):Array Value:=#[.int .u8 (r 0),.int .u8 (r 1),.int .u8 (r 2),.int .u8 (r 3),.int .u8 (r 4)]
def uw (r:Bt){i:Nat}(hi:i<5):(Om r)[i]?=some (.int .u8 (r i)):=by
 match i,hi with
 |0,_=>rfl
 |1,_=>rfl
 |2,_=>rfl
 |3,_=>rfl
 |4,_=>rfl
def abe (r:Bt):Option (Bt×Nat)->Bt
 |none=>r
 |some p=>p.1
def TQ:Option (Bt×Nat)->Nat
 |none=>0
 |some p=>p.2
structure IQ (r:Bt)(Iz KS b9:Nat)(o:Option (Bt×Nat))(W:World):Prop where
 MM:W.heap[Iz]?=some (.cells (Om (abe r o)) 52 (0,0))
 is:W.heap[KS]?=some (.cells #[.bool o.isSome] 4 (0,0))
 cost:W.heap[b9]?=some (.cells #[.int .i64 (TQ o)] 3 (0,0))
def bU {W:World}{b i:Nat}{a:Array Value}{u:Value}{t:TypeId}{f:Nat×Nat}(h:W.heap[b]?=some (.cells a t f)):(W.setCell ⟨b,i,none⟩ u).heap[b]?=some (.cells (a.setIfInBounds i u) t f):=by
 unfold World.setCell;simp only[yh,if_true,h]
 rfl
def IQ.put {r:Bt}{Iz KS b9:Nat}{o:Option (Bt×Nat)}{W:World}(h:IQ r Iz KS b9 o W)(n1:Iz≠KS)(n2:Iz≠b9)(n3:KS≠b9)(ρ:Bt)(n:Nat)(T0:Nat->Prop)(h1:T0 Iz)(h2:T0 KS)(h3:T0 b9) :
  IQ r Iz KS b9 (some (ρ,n)) (((((((W.setCell ⟨Iz,0,none⟩ (.int .u8 (ρ 0))).setCell ⟨Iz,1,none⟩ (.int .u8 (ρ 1))).setCell ⟨Iz,2,none⟩ (.int .u8 (ρ 2))).setCell ⟨Iz,3,none⟩ (.int .u8 (ρ 3))).setCell ⟨Iz,4,none⟩ (.int .u8 (ρ 4))).setCell ⟨b9,0,none⟩ (.int .i64 n)).setCell ⟨KS,0,none⟩ (.bool true)) /\
  KT T0 W (((((((W.setCell ⟨Iz,0,none⟩ (.int .u8 (ρ 0))).setCell ⟨Iz,1,none⟩ (.int .u8 (ρ 1))).setCell ⟨Iz,2,none⟩ (.int .u8 (ρ 2))).setCell ⟨Iz,3,none⟩ (.int .u8 (ρ 3))).setCell ⟨Iz,4,none⟩ (.int .u8 (ρ 4))).setCell ⟨b9,0,none⟩ (.int .i64 n)).setCell ⟨KS,0,none⟩ (.bool true)):=by
 have k:∀(W:World) (p:Addr) (v:Value),T0 p.block->KT T0 W (W.setCell p v):=λW p v hp=>KT.setCell W hp v;refine⟨⟨?_,?_,?_⟩,(k _ _ _ h1).trans ((k _ _ _ h1).trans ((k _ _ _ h1).trans ((k _ _ _ h1).trans ((k _ _ _ h1).trans ((k _ _ _ h3).trans (k _ _ _ h2))))))⟩
 .rw[xE _ _ _ _ (by show Iz≠KS;exact n1),xE _ _ _ _ (by show Iz≠b9;exact n2)];exact bU (i:=4) (bU (i:=3) (bU (i:=2) (bU (i:=1) (bU (i:=0) h.MM))))
 .refine bU (i:=0) (a:=#[.bool o.isSome]) ?_;have e:∀(W:World) (i:Nat) (v:Value),(W.setCell ⟨Iz,i,none⟩ v).heap[KS]?=W.heap[KS]?:=λW i v=>xE _ _ _ _ (by show KS≠Iz;exact Ne.symm n1);rw[xE _ _ _ _ (by show KS≠b9;exact n3),e,e,e,e,e];exact h.is
 .rw[xE _ _ _ _ (by show b9≠KS;exact Ne.symm n3)];refine bU (i:=0) (a:=#[.int .i64 (TQ o)]) ?_;have e:∀(W:World) (i:Nat) (v:Value),(W.setCell ⟨Iz,i,none⟩ v).heap[b9]?=W.heap[b9]?:=λW i v=>xE _ _ _ _ (by show b9≠Iz;exact Ne.symm n2);rw[e,e,e,e,e];exact h.cost
def IQ.drewN {r:Bt}{Iz KS b9:Nat}{o:Option (Bt×Nat)}{W:World}(h:IQ r Iz KS b9 o W)(m:Nat):IQ r Iz KS b9 o (W.drewN m):=⟨h.MM,h.is,h.cost⟩
end Go.Proofs.YtjcgijifamcggaaGreat
namespace Go
section
variable {F:Fence} {n:Nat} {P:Program} {ops:Array Oper} {C:World->Prop}
def jW (o:Oper):Bool:=match o.op with
 |.defer _=>false
 |_=>true
def kR {Q:Exit->Act->World->Prop}{r:Nat}(hro:F.round=none)(UG:ops.all jW=true):∀(l:List Nat) (a:Act) (w:World),wpOpsIn F n P ops Q l a w->wpOpsIn (F.inRound r) n P ops Q l a w:=by
 intro l
 induction l with
 |nil=>exact λa w h=>h
 |cons i rest ih =>
  intro a w h;simp only[wpOpsIn] at h ⊢;cases ho:ops[i]? with
  |none=>simp only[ho] at h ⊢;exact ih a w h
  |some o =>
   simp only[ho] at h ⊢;have hm:o∈ops:=xY ho;have hd:∀c,o.op≠.defer c:=λc e=>by
    have:=(xR.1 UG) o hm;simp[jW,e] at this
   split
   .rename_i hw;rw[if_pos hw] at h;have h2:=Oper.wpIn_mono (K':=wpOpsIn (F.inRound r) n P ops Q rest) (λa w=>ih a w) h;unfold Oper.wpIn at h2 ⊢;rw[Oper.semAt_eq _ _ _ hd] at h2 ⊢;refine⟨h2.1,?_⟩;have h3:=h2.2;generalize (execOp a.eval o).run P w=res at h3 ⊢;cases res with
    |ok x w'=>cases x<;>exact h3
    |halt x w'=>cases x<;>exact h3
   .rename_i hw;rw[if_neg hw] at h;exact⟨h.1,ih _ _ h.2⟩
def eQ {id r:Nat}{Q:Exit->Act->World->Prop}{a:Act}{w:World}{l:List Oper}(hro:F.round=none)(UG:l.toArray.all jW=true)(hm:P.follows .mixedOrders=true)(hB:Region.lexB .any l.toArray=true)
  (h:wpQuietIn F n P l.toArray (λw'=>∃n,w'=w.drewN n) (λa'=>∀w',(∃n,w'=w.drewN n)->Q .normal a' w') l a):(Code.region id l.toArray true).wpIn (F.inRound r) n P Q a w:=by
 simp only[Region.lexB,xG] at hB;refine wpIn_region_draw λt=>kR hro UG _ _ _ ?_;simp only[Region.schedule,hm,Bool.true_or,if_true];refine wpAnyIn_sound l.toArray.size t _ a _ ?_;refine wpAnyIn_of_quiet (C:=λw'=>∃n,w'=w.drewN n) (Q:=λa'=>∀w',(∃n,w'=w.drewN n)->Q .normal a' w') hro (λ_ w' hw' h=>h w' hw') _ _ _ _ ⟨1,rfl⟩ ?_;have:=wpAnyQIn_lex (F:=F) (n:=n) (C:=λw'=>∃n,w'=w.drewN n) (md:=.any) hB.1 l 0 (Array.replicate l.length false) a (by simp) (by simpa using hB.2) (by simpa using h)
 simpa using this
end
end Go
namespace Go.Proofs.YtjcgijifamcggaaGreat
open Go.RowKit Go.Sq Go.Shelf
attribute [local go_sem] Oper.semAt_some
def nD (f:FuncId):Fence.wide.fn f=True:=eq_true trivial
attribute [local go_sem] nD
attribute [local simp] nD
def fk {fn:Func}{tmps:Array Value}{R:Ending->World->Prop}{W:World}{v:Value}(hr:(results fn tmps).run AG W=.ok v W)(hR:R (.returned v) W) :
  LeavesInM Fence.wide 0 AG fn tmps R [] .returning W:=⟨v,hr,hR⟩
def kS {c:Code}{P:Program}{K:Act->World->Prop}{Q:Exit->Act->World->Prop}{a:Act}{w:World}(h:c.wp P (Exit.then K λ_ _ _=>False) a w):c.wp P (Exit.then K Q) a w:=by
 rw[<-wpIn_wide (n:=0)] at h ⊢;refine wpIn_mono h λe a w h=>?_;cases e with
 |normal=>exact h
 |_=>exact h.elim
def iT (c:AW)(ls:List (List Int))(h d:Int)(w:World)(e:Ending)(w':World):Prop :=
 Gr w w'/\if Ba c ls≠0 then e=.returned (.tuple #[.slice none 0 0,.int .i64 0,.int .i64 (Ba c ls)])
  else if(Ej h 0 (c.AH.length-1)&&Ej d 0 (c.AK.length-1))=false then e=.returned (.tuple #[.slice none 0 0,.int .i64 0,.int .i64 3])
  else match Cq (AP ls) (Bz (GY c h.toNat d) (Bo c.AH.length) c.AK.length Cv 0) with
   |none=>e=.returned (.tuple #[.slice none 0 0,.int .i64 0,.int .i64 11])
   |some p=>∃A k,e=.returned (.tuple #[.slice A c.AK.length k,.int .i64 p.2,.int .i64 0])/\CR w' w'.heap.size A (BJ p.1 c.AK.length)
def lV (nA hA gA:Option Addr)(nc hc gc:Nat)(c:AW)(ls:List (List Int))(h d:Int)(w:World)(B:Nat)(hB:B<=w.heap.size)(hn:RI w B nA c.AK)(hh:Dr w B hA c.AH)(hg:CR w B gA ls)
  (IZ:c.AK.length<=4611686018427387904) (hl2:c.AH.length<=4611686018427387904) (C7:∀h∈c.AH,h.off.length<=4611686018427387904) (L8:ls.length<=4611686018427387904) (hl4:∀x∈ls,x.length<=4611686018427387904)
  (Oo:∀k:Nat,Ba c ls=0->h=k->k<c.AH.length->Ej d 0 (c.AK.length-1)=true->(GY c k d).Ok) :
  Calls AG 8 #[Bp nA hA c nc hc,.slice gA ls.length gc,.int .i64 h,.int .i64 d] w (iT c ls h d w):=by
 rw[<-callsIn_wide (n:=0)];obtain⟨W0,hW0⟩:∃W0:World,W0=(w.alloc (.cells #[.slice nA c.AK.length nc,.slice hA c.AH.length hc] 27)).alloc (.cells #[.int .i64 0] 3):=⟨_,rfl⟩;have hg0:Gr w W0:=hW0▸((Gr.refl w).alloc _).alloc _;have hz0:W0.heap.size=w.heap.size+2:=by rw[hW0];simp
 have hk:∀b o,b<B->W0.cell? ⟨b,o,none⟩=w.cell? ⟨b,o,none⟩:=λb o hb=>hg0.cell (xx hb hB);have Gq:=iQ nA hA gA nc hc gc c ls W0 B (by omega) (hn.gr hB hg0) (hh.keep hk) (hg.gr hB hg0) IZ hl2 C7 L8 hl4;unfold Bp at Gq ⊢;have Gp:=xl Gq;have hcm:W0.cell? ⟨w.heap.size,0,none⟩=some (.slice nA c.AK.length nc)/\W0.cell? ⟨w.heap.size,1,none⟩=some (.slice hA c.AH.length hc):=by
  rw[hW0];constructor
  all_goals rw[xO _ _ _ (by simp),xu _ _ _ _ rfl];rfl
 have N9:=xl hcm;have hcf:∀i,W0.frozen? ⟨w.heap.size,i,none⟩=false:=λi=>by
  rw[hW0,yS _ _ _ (by simp),yi _ _ _ _ rfl]
 have HCF:=xl hcf;clear hcf;have MV:W0.heap[w.heap.size+1]?=some (.cells #[.int .i64 0] 3 (0,0)):=by
  rw[hW0];have:=World.alloc_heap_new (w.alloc (.cells #[.slice nA c.AK.length nc,.slice hA c.AH.length hc] 27)) (.cells #[.int .i64 0] 3);rwa [zD] at this
 have HNB:=xl MV;have HW:=xl hW0;have Ds:=xl hg0;have HN:=xl hn;have HH:=xl hh;have abf:=xl Oo;clear Gq hcm MV hW0 hg0 hn hh hk hg Oo C7 hl4;refine callsIn_of_wp_marks Sq.func8 rfl trivial ?_ rfl;simp only[Tryz.ntmps8,xF,xH,xK,Nat.reduceAdd,Nat.reduceSub,yj,yk,yx,ym,yI,yF];rw[wpIn_wide];go_wp2_with fail;rw[<-HW.out];refine Gp.out.mono ?_;rintro e w1 ⟨hg1,hf⟩;have Df:=xl hg1;have hz1:=hg1.size
 have abg:w1.heap[w.heap.size+1]?=some (.cells #[.int .i64 0] 3 (0,0)):=(hg1.below.block _ (by omega)).trans HNB.out;have TR:=xl abg;have EX:=xl (Ds.out.trans hg1);have hlen:(w1.alloc (.cells #[.int .u8 0,.int .u8 0,.int .u8 0,.int .u8 0,.int .u8 0] 52)).heap.size=w1.heap.size+1:=by simp
 clear abg;by_cases hE:Ba c ls=0
 .rw[if_pos hE] at hf;obtain⟨cb,g0,cap0,rfl,hcb,SK,hK⟩:=hf;have HE:=xl hE;have HK:=xl hK;clear hg1 hE Gp hK;obtain⟨JS,Hu,ND⟩:=one_cell TR.out;have hce:Bi c=0:=by
   have:=HE.out;unfold Ba at this;split at this
   .exact this
   .rename_i h;simpa using h
  have EZ:=xl (AW.Ok.of hce);have Su:=EZ.out.n5;have TD:=EZ.out.h4;have hn1':=EZ.out.n1;have Oe:=EZ.out.h1;obtain⟨W1,hW1⟩:∃W1,W1=w1.alloc (.cells #[.int .u8 (AP ls 0),.int .u8 (AP ls 1),.int .u8 (AP ls 2),.int .u8 (AP ls 3),.int .u8 (AP ls 4)] 52):=⟨_,rfl⟩;have Mj:=xl hW1;have DW:Hid (Gr w W1):=xl (by rw[hW1];exact EX.out.alloc _);have hsz1:W1.heap.size=w1.heap.size+1:=by rw[hW1];simp
  have k0:w1.cell? ⟨w.heap.size,0,none⟩=some (.slice nA c.AK.length nc):=(Df.out.cell (by show w.heap.size<_;omega)).trans N9.out.1;have k1:w1.cell? ⟨w.heap.size,1,none⟩=some (.slice hA c.AH.length hc):=(Df.out.cell (by show w.heap.size<_;omega)).trans N9.out.2;have EA:w.heap.size<w1.heap.size:=by omega
  have OX:Hid (W1.cell? ⟨w.heap.size,0,none⟩=some (.slice nA c.AK.length nc)):=xl (by rw[hW1,xO _ _ _ (by show w.heap.size<_;omega)];exact k0);have Qu:Hid (W1.cell? ⟨w.heap.size,1,none⟩=some (.slice hA c.AH.length hc)):=xl (by rw[hW1,xO _ _ _ (by show w.heap.size<_;omega)];exact k1);have abh:W1.heap[w.heap.size+1]?=some (.cells #[.int .i64 0] 3 (0,0)):=by rw[hW1,heap_alloc_old _ _ ND];exact TR.out
  have Xg:=xl abh;have IU:W1.heap[w1.heap.size]?=some (.cells #[.int .u8 (AP ls 0),.int .u8 (AP ls 1),.int .u8 (AP ls 2),.int .u8 (AP ls 3),.int .u8 (AP ls 4)] 52 (0,0)):=by rw[hW1];exact World.alloc_heap_new w1 _
  have VB:=xl IU;have hb1:=bI h 0 (c.AH.length-1) W1;have hb2:=bI d 0 (c.AK.length-1) W1;obtain⟨x1,hx1⟩:∃x,x=Ej h 0 (c.AH.length-1):=⟨_,rfl⟩;obtain⟨x2,hx2⟩:∃x,x=Ej d 0 (c.AK.length-1):=⟨_,rfl⟩;rw[<-hx1] at hb1;rw[<-hx2] at hb2;have U6:=xl hb1;have Jn:=xl hb2;have HX1:=xl hx1;have HX2:=xl hx2;clear hb1 hb2 hx1 hx2 hW1 IU abh hce JS Hu;unfold Cc;go_wp2_with fail;rw[<-Mj.out]
  refine U6.out.mono ?_;rintro e w' ⟨rfl,rfl⟩;have ZH:=OX.out;have TK:=Qu.out;obtain⟨JS,Hu,agd⟩:=one_cell Xg.out;clear k0 k1;have abi:∀w',Gr w w'->w'.cell? ⟨w.heap.size+1,0,none⟩=some (.int .i64 0)->(x1&&x2)=false->iT c ls h d w (.returned (.tuple #[.slice none 0 0,.int .i64 0,.int .i64 3])) w':=λw' hg _ hx=>by
   refine⟨hg,?_⟩;rw[if_neg (by simp[HE.out]),if_pos (by rw[<-HX1.out,<-HX2.out];exact hx)]
  have Xh:=xl abi;clear abi;cases x1 with
  |false =>
   go_wp2;refine fk (v:=.tuple #[.slice none 0 0,.int .i64 0,.int .i64 3]) (by simp[results,Tryz.results8,go_sem,xJ _ _ _ JS]) (Xh.out _ (DW.out.setCell (by show _<=w.heap.size+1;omega) _) (xJ _ _ _ JS) rfl)
  |true =>
   cases x2 with
   |false =>
    go_wp2_with (go_at_call 18;refine Jn.out.mono ?_;rintro e w' ⟨rfl,rfl⟩);refine fk (v:=.tuple #[.slice none 0 0,.int .i64 0,.int .i64 3]) (by simp[results,Tryz.results8,go_sem,xJ _ _ _ JS]) (Xh.out _ (DW.out.setCell (by show _<=w.heap.size+1;omega) _) (xJ _ _ _ JS) rfl)
   |true =>
    clear Xh;obtain⟨k,hk,FD⟩:∃k:Nat,h=k/\k<c.AH.length:=by
     have:=HX1.out;simp only[Ej] at this;have:=this.symm;simp at this;exact⟨h.toNat,by omega,by omega⟩
    subst hk;obtain⟨hb,ho,rfl,JB,hcs⟩:=HH.out (λe=>by rw[e] at Oe;simp at Oe);have hW:∀b o,b<B->W1.cell? ⟨b,o,none⟩=w.cell? ⟨b,o,none⟩:=λb o hb=>DW.out.cell (xx hb hB);have HCL:=xl (sr hb ho hc c.AH W1 B JB (by have:=DW.out.size;omega) (λi x hi=>(hcs i x hi).keep JB hW) (by omega) (by omega));clear hcs hW;go_wp2_with (first|(go_at_call 18;refine Jn.out.mono ?_;rintro e w' ⟨rfl,rfl⟩)|fail)
    refine HCL.out.mono ?_;rintro e w3 ⟨g,cap,rfl,hg3,IJ,UF,hgf,hat⟩;have age:=hg3.size;have hf3:w3.frozen? ⟨w.heap.size,1,none⟩=false:=((Df.out.trans (((Gr.refl w1).alloc _).trans (Mj.out▸hg3))).frozen (p:=⟨w.heap.size,1,none⟩) (by show w.heap.size<_;omega)).trans (HCF.out 1);have OO:w3.cell? ⟨w.heap.size,0,none⟩=some (.slice nA c.AK.length nc):=(hg3.cell (p:=⟨w.heap.size,0,none⟩) (by show w.heap.size<_;omega)).trans OX.out
    have O5:w3.cell? ⟨w.heap.size,1,none⟩=some (.slice (some ⟨hb,ho,none⟩) c.AH.length hc):=(hg3.cell (p:=⟨w.heap.size,1,none⟩) (by show w.heap.size<_;omega)).trans Qu.out;have Ij:c.AH[k]?=some (c.h k):=by unfold AW.h;rw[xq FD];rfl
    obtain⟨Oa,VE,hk2,A,m,hk3,Fq⟩:=hat k (c.h k) Ij;have TT:g≠w.heap.size:=by omega
    obtain⟨w4,hw4⟩:∃w4,w4=w3.setCell ⟨w.heap.size,1,none⟩ (.slice (some ⟨g,0,none⟩) c.AH.length cap):=⟨_,rfl⟩;have hz4:w4.heap.size=w3.heap.size:=by rw[hw4];simp[World.setCell]
    have YG:∀b o,b≠w.heap.size->w4.cell? ⟨b,o,none⟩=w3.cell? ⟨b,o,none⟩:=λb o hb=>by rw[hw4];exact xB _ _ _ _ (λe=>hb (congrArg Addr.block e).symm)
    have hB4:∀b o,b<B->w4.cell? ⟨b,o,none⟩=w3.cell? ⟨b,o,none⟩:=λb o hb=>YG b o (by omega);have LB:Hid (Gr w w4):=xl (by rw[hw4];exact(DW.out.trans hg3).setCell (xp _) _);have FL:=(EZ.out.off _ (c.GI FD)).1;have hcon:=i3 A m (c.h k).off d w4 B (Fq.keep hB4) (by omega);obtain⟨x3,hx3⟩:∃x,x=decide (d∈(c.h k).off):=⟨_,rfl⟩;rw[<-hx3] at hcon;have abk:=xl hcon;have HX3:=xl hx3;have HW4:=xl hw4
    have TU:Hid (∀(i:Nat) (x:BH),c.AH[i]?=some x->L3 w4 B g (i*4) x):=xl λi x hi=>by
     obtain⟨q0,q1,q2,A',m',q3,q4⟩:=hat i x hi;exact⟨(YG _ _ TT).trans q0,(YG _ _ TT).trans q1,(YG _ _ TT).trans q2,A',m',(YG _ _ TT).trans q3,q4.keep hB4⟩
    have HN4:Hid (RI w4 B nA c.AK):=xl (HN.out.gr hB LB.out);have Xi:Hid (w4.heap[w.heap.size+1]?=some (.cells #[.int .i64 0] 3 (0,0))):=xl (by rw[hw4,xE _ _ _ _ (by show w.heap.size+1≠w.heap.size;omega),hg3.below.block _ agd];exact Xg.out);have Xj:Hid (w4.heap[w1.heap.size]?=some (.cells #[.int .u8 (AP ls 0),.int .u8 (AP ls 1),.int .u8 (AP ls 2),.int .u8 (AP ls 3),.int .u8 (AP ls 4)] 52 (0,0))):=xl (by rw[hw4,xE _ _ _ _ (by show w1.heap.size≠w.heap.size;omega),hg3.below.block _ (by omega)];exact VB.out)
    have HE4:Hid (w4.cell? ⟨w.heap.size,0,none⟩=some (.slice nA c.AK.length nc)/\w4.cell? ⟨w.heap.size,1,none⟩=some (.slice (some ⟨g,0,none⟩) c.AH.length cap)):=xl (by
     rw[hw4];exact⟨(xB _ _ _ _ (by simp)).trans OO,xJ _ _ _ O5⟩)
    have Yz:Hid (∀i,w4.frozen? ⟨g,i,none⟩=false):=xl λi=>by rw[hw4,yt];exact hgf i
    have agi:w3.cell? ⟨g,k*4+3,none⟩=some (.slice A (c.h k).off.length m):=hk3;have MJ:=xl Fq;clear hcon hx3 hw4 hat Fq Oa VE hk2 hk3 YG hB4 hgf Ij JS Hu ZH;go_wp2_with fail;rw[<-HW4.out];refine abk.out.mono ?_;rintro e w' ⟨rfl,rfl⟩;clear OO O5 agi hf3 abk;have QC:W1.heap.size<=w4.heap.size/\g<w4.heap.size:=by omega
    obtain⟨he0,he1⟩:=HE4.out;have Ij:c.AH[k]?=some (c.h k):=by unfold AW.h;rw[xq FD];rfl
    obtain⟨Oa,VE,hk2,A',m',hk3,Fq⟩:=TU.out k (c.h k) Ij;have abl:=xl Fq;have Tg:=Yz.out (k*4+3);clear Fq Oa VE hk2 MJ hz4 hg3 age;cases x3
    case' true =>
     have KE:Hid (abd nA nc c ls k d w w1.heap.size g cap w4):=xl (by
      have Uy:dj (c.h k).off d=(c.h k).off:=by unfold dj;rw[if_pos (by simpa using HX3.out.symm)]
      refine⟨LB.out,he0,he1,Xi.out,⟨by omega,by omega,by omega⟩,λi hi=>?_,?_,λhne=>⟨g,0,rfl,⟨QC.2,by omega⟩,λi x hi=>?_⟩⟩
      .rw[(D4 Xj.out).1 i]
       match i,hi with
       |0,_=>rfl
       |1,_=>rfl
       |2,_=>rfl
       |3,_=>rfl
       |4,_=>rfl
      .exact fz HN4.out λb hb=>⟨by omega,by omega⟩
      .rw[xM];have key:∀y,c.AH[i]?=some y->Mk w4 (λb=>b<w4.heap.size/\b≠w.heap.size+1) g (i*4) y:=λy hy=>by
        obtain⟨q0,q1,q2,A',m',q3,q4⟩:=TU.out i y hy;exact⟨q0,q1,q2,A',m',q3,fz q4 λb hb=>⟨by omega,by omega⟩⟩
       rcases Ny hi FD with⟨rfl,rfl⟩|⟨_,h⟩
       .rw[Uy];exact key _ Ij
       .exact key _ h)
     go_wp2_with fail;obtain⟨wz,rfl⟩:∃wz,wz=w4:=⟨_,rfl⟩
    case' false =>
     have Xk:=xl (us A' m' (c.h k).off w4 B abl.out (by omega) (by omega));have Uy:dj (c.h k).off d=Jt ((c.h k).off++[d]):=by unfold dj;rw[if_neg (by simpa using HX3.out.symm)];rfl
     have HOA:=xl Uy;obtain⟨off,Fq⟩:∃off,off=(c.h k).off:=⟨_,rfl⟩;rw[<-Fq] at Xk HOA FL;have agl:w4.cell? ⟨g,k*4+3,none⟩=some (.slice A' off.length m'):=by rw[Fq];exact hk3
     have HEO:=xl Fq;rw[<-Fq];clear Uy hk3 Fq abl;go_wp2_with fail;refine Xk.out.mono ?_;rintro e w5 ⟨v,rfl,hown,G8⟩;have LC:=G8.size;have TV:=hown.lt;have Mf:=xl G8;clear G8 Xk;go_wp2_with (at_builtin;refine ip rfl _ _ rfl w4.heap.size _ _ _ rfl (hown.alloc _) ⟨w5.heap.size,0,none⟩ 1 (.int .i64 d) rfl ?c1 rfl ?c2 ?c3 ?_)
     case c1=>rw[xu _ _ _ _ rfl];rfl
     case c2=>omega
     case c3=>(try simp);omega
     intro v' w6 hown' hgrow hd;have Hf:∀b,b<w4.heap.size->w6.heap[b]?=w4.heap[b]?:=λb hb=>by
      have hne:some b≠v.ownBlock:=dI hown hb;exact(hgrow.block b (by simp;omega) hne).trans ((heap_alloc_old _ _ (by omega)).trans (Mf.out.below.block b hb))
     have hG6:Gr w w6:=((LB.out.trans Mf.out).alloc _).grown hgrow hd λq hq=>by have:=(TV q hq).1;have:=LB.out.size;omega
     have hc6:w6.cell? ⟨g,k*4+3,none⟩=some (.slice A' off.length m'):=(xN (Hf g QC.2)).trans agl;have hf6:w6.frozen? ⟨g,k*4+3,none⟩=false:=(zl (a:=⟨g,k*4+3,none⟩) (Hf g QC.2)).trans Tg;obtain⟨g',cap',hv',hg'l,hg's⟩:=hown'.form (by omega);subst hv';have hsz6:w4.heap.size<=w6.heap.size:=by have:=hgrow.size;simp at this;omega
     obtain⟨w7,SM⟩:∃w7,w7=w6.setCell ⟨g,k*4+3,none⟩ (.slice (some ⟨g',0,none⟩) (off.length+1) cap'):=⟨_,rfl⟩;have hz7:w7.heap.size=w6.heap.size:=by rw[SM];simp[World.setCell]
     have J7:w7.ownsRow w4.heap.size 3 1 (.slice (some ⟨g',0,none⟩) (off++[d]).length cap') (off++[d]).length ((off++[d]).map (Value.int .i64)):=by
      rw[SM];have:=ownsRow_setCell_below (a:=⟨g,k*4+3,none⟩) hown' QC.2 (.slice (some ⟨g',0,none⟩) (off.length+1) cap');simpa using this
     have QD:=uu g' cap' (off++[d]) w7 J7 (by simp;omega);have IZ:(off++[d]).length=off.length+1:=by simp
     rw[IZ] at QD;have Nl:=xl QD;have HW7:=xl SM;have abo:=xl Hf;have HG6:=xl hG6;clear Hf hG6 hown' hgrow hd hown J7 QD SM TV;go_wp2_with fail;rw[<-HW7.out];refine Nl.out.mono ?_;rintro e w8 ⟨rfl,hk8,hs8⟩;have hz8:=hk8.size;have VS:g≠g':=by omega
     have J8:∀b,b<w4.heap.size->b≠g->w8.heap[b]?=w4.heap[b]?:=λb hb hne=>by
      rw[hk8.block b (by omega) (by show b≠g';omega),HW7.out,xE _ _ _ _ (by show b≠g;exact hne)];exact abo.out b hb
     have SX:∀o,w8.cell? ⟨g,o,none⟩=w7.cell? ⟨g,o,none⟩:=λo=>hk8.cell (p:=⟨g,o,none⟩) (by show g<_;omega) VS;have hgo:∀o,o≠k*4+3->w8.cell? ⟨g,o,none⟩=w4.cell? ⟨g,o,none⟩:=λo ho=>by
      rw[SX,HW7.out,xB _ _ _ _ (λe=>ho (congrArg Addr.off e).symm)];exact xN (abo.out g QC.2)
     have abq:w8.cell? ⟨g,k*4+3,none⟩=some (.slice (some ⟨g',0,none⟩) (off.length+1) cap'):=by
      rw[SX,HW7.out];exact xJ _ _ _ hc6
     have hB8:∀b o,b<B->w8.cell? ⟨b,o,none⟩=w4.cell? ⟨b,o,none⟩:=λb o hb=>xN (J8 b (by omega) (by omega))
     have KE:Hid (abd nA nc c ls k d w w1.heap.size g cap w8):=xl (by
      have abr:dj (c.h k).off d=Jt (off++[d]):=by rw[<-HEO.out];exact HOA.out
      refine⟨KT.gr (T:=(·=g')) (HG6.out.setCell (p:=⟨g,k*4+3,none⟩) (by show _<=g;omega) _) (HW7.out▸hk8) (by rintro b rfl;omega),(xN (J8 w.heap.size (by omega) (by omega))).trans he0,(xN (J8 w.heap.size (by omega) (by omega))).trans he1,(J8 _ (by omega) (by omega)).trans Xi.out,⟨by omega,by omega,by omega⟩,λi hi=>?_,?_,λhne=>⟨g,0,rfl,⟨by omega,by omega⟩,λi x hi=>?_⟩⟩
      .rw[xN (a:=⟨w1.heap.size,i,none⟩) (J8 w1.heap.size (by omega) (by omega)),(D4 Xj.out).1 i]
       match i,hi with
       |0,_=>rfl
       |1,_=>rfl
       |2,_=>rfl
       |3,_=>rfl
       |4,_=>rfl
      .exact fz (HN4.out.keep hB8) λb hb=>⟨by omega,by omega⟩
      .rw[xM];rcases Ny hi FD with⟨rfl,rfl⟩|⟨hik,h⟩
       .obtain⟨q0,q1,q2,_⟩:=TU.out i _ Ij;refine⟨(hgo _ (by omega)).trans q0,(hgo _ (by omega)).trans q1,(hgo _ (by omega)).trans q2,some ⟨g',0,none⟩,cap',?_,?_⟩
        .rw[abq,abr,kC];simp
        .rw[abr];exact λ_=>⟨g',0,rfl,⟨by omega,by omega⟩,λj y hj=>by rw[xM];exact hs8 j y hj⟩
       .obtain⟨q0,q1,q2,A2,m2,q3,q4⟩:=TU.out i x h
        exact⟨(hgo _ (by omega)).trans q0,(hgo _ (by omega)).trans q1,(hgo _ (by omega)).trans q2,A2,m2,(hgo _ (by omega)).trans q3,fz (q4.keep hB8) λb hb=>⟨by omega,by omega⟩⟩)
     have Ki:=KE.out.c0;have hr1:=KE.out.c1;clear hk8 hs8 J8 SX hgo abq hB8 hc6 hf6;go_wp2_with fail;obtain⟨wz,rfl⟩:∃wz,wz=w8:=⟨_,rfl⟩
    all_goals
     have Oo:=abf.out k HE.out rfl FD HX2.out.symm;have SU:=sC c k d;obtain⟨c',hc'⟩:∃c',c'=GY c k d:=⟨_,rfl⟩;have hcn:c'.AK=c.AK:=by rw[hc'];rfl
     have O6:=KE.out.aga;rw[<-hc'] at O6 Oo SU;have hst:=uv nA (some ⟨g,0,none⟩) nc cap c' wz _ (λb hb=>hb.1) (by rw[hcn];exact KE.out.AK) O6 (by omega);unfold Bp at hst;rw[hcn,SU] at hst;have HST:=xl hst;have HC':=xl hc';have QE:=xl Oo;have Xl:=xl (sD HE.out TD);have abt:=KE.out.lt;clear hst hc' Oo O6 OX Qu Ds Df EX DW LB HNB TR Xg Xi VB Xj Mj HN HN4 HH HCL U6 Jn HX1 HX3 TU Yz HE4 HCF N9 HW HW4 abf he0 he1
     refine HST.out.mono ?_;rintro e w9 ⟨rfl,QF,g9,cap9,hg9l,hK9⟩;have hz9:=QF.size;have IU:∀i,i<5->w9.cell? ⟨w1.heap.size,i,none⟩=some (.int .u8 (AP ls i:Nat)):=λi hi=>(QF.cell (p:=⟨w1.heap.size,i,none⟩) abt.2.1).trans (KE.out.given i hi);obtain⟨v0,v1,v2,v3,v4⟩:=Il IU;have agn:=xl IU;have hn9:w9.heap[w.heap.size+1]?=some (.cells #[.int .i64 0] 3 (0,0)):=(QF.below.block _ (by omega)).trans KE.out.nb
     have HN9:=xl hn9;have HK9:=xl hK9;have YH:=xl QF;have hb12:w1.heap.size<w9.heap.size:=by omega
     clear IU hn9 hK9 QF HST
     try clear Ki hr1
     obtain⟨J9,Oq⟩:∃J9:World,J9=(w9.alloc (.cells #[.int .u8 (AP ls 0),.int .u8 (AP ls 1),.int .u8 (AP ls 2),.int .u8 (AP ls 3),.int .u8 (AP ls 4)] 52)).alloc (.cells #[.bool false] 4):=⟨_,rfl⟩;have Ot:Gr w9 J9:=by rw[Oq];exact((Gr.refl w9).alloc _).alloc _
     have Xm:J9.heap.size=w9.heap.size+2:=by rw[Oq];simp
     have EW:J9.heap[w9.heap.size]?=some (.cells (Om (AP ls)) 52 (0,0)):=by
      rw[Oq,heap_alloc_old _ _ (by simp)];exact World.alloc_heap_new w9 _
     have hsome:J9.heap[w9.heap.size+1]?=some (.cells #[.bool false] 4 (0,0)):=by
      rw[Oq];have:=World.alloc_heap_new (w9.alloc (.cells #[.int .u8 (AP ls 0),.int .u8 (AP ls 1),.int .u8 (AP ls 2),.int .u8 (AP ls 3),.int .u8 (AP ls 4)] 52)) (.cells #[.bool false] 4)
      rwa [zD] at this
     have Xn:Hid (IQ (AP ls) w9.heap.size (w9.heap.size+1) (w.heap.size+1) none J9):=xl ⟨EW,hsome,(Ot.below.block _ (by omega)).trans HN9.out⟩;obtain⟨T0,Ia⟩:∃T0:Nat->Prop,T0=λb=>b=w9.heap.size\/b=w9.heap.size+1\/b=w.heap.size+1:=⟨_,rfl⟩;have HT0:=xl Ia;have Pa:∀b,T0 b->b<J9.heap.size:=λb hb=>by rw[Ia] at hb;omega
     have hKT:∀b,(b<wz.heap.size/\b≠w.heap.size+1\/b=wz.heap.size+1\/b=g9)->¬T0 b:=λb hb h=>by
      rw[Ia] at h;have:=HK9.out.lt b hb;omega
     have abw:¬T0 w1.heap.size:=λh=>by rw[Ia] at h;omega
     have Fu:=lf (wz.heap.size+1) 0 Cv J9;have hs:=jH (T0:=T0) (n:=0) (r:=Cv) (HK9.out.keep (w':=J9) Ot.size λb o hb=>Ot.cell (p:=⟨b,o,none⟩) (HK9.out.lt b hb)) Pa hKT eE;unfold Cc at Fu;have Va:=xl Fu;have HS:=xl hs;have HTL:=xl Pa;have VC:=xl hKT;have TW:=xl abw;have agp:=xl (YH.out.trans Ot);have agq:Hid (∀i,i<5->J9.cell? ⟨w1.heap.size,i,none⟩=some (.int .u8 (AP ls i:Nat))):=xl λi hi=>(Ot.cell (p:=⟨w1.heap.size,i,none⟩) (by show w1.heap.size<_;omega)).trans (agn.out i hi)
     have abx:=xl Oq;have agr:=xl Xm;clear Oq Fu hs Pa hKT abw Ia Ot EW hsome Xm;go_wp2_with fail;rw[<-abx.out];refine Va.out.mono ?_;rintro e w11 ⟨rfl,TX⟩;have hs:=HS.out;rw[<-TX] at hs;have JA:=xl hs;have aby:Gr J9 w11:=by rw[TX];exact(((Gr.refl J9).alloc _).alloc _).alloc _
     have Xo:w11.heap.size=J9.heap.size+3:=by rw[TX];simp
     have TY:=xl aby;have ags:=xl Xo;clear hs HS Xo aby TX Va abx v0 v1 v2 v3 v4;go_wp2_with fail;have Xm:=agr.out;have Xo:=ags.out;rw[<-wpIn_wide (n:=0)];have HNL:Hid (0+c.AK.length=c'.AK.length):=xl (by rw[hcn];omega);have TZ:Hid ((∀x∈Bo c.AH.length,c'.has x)/\(Bo c.AH.length).length<=16):=xl ⟨by rw[<-SU];exact iO QE.out,by rw[<-SU];exact jT QE.out⟩
     refine j8 (T0:=T0) (cb:=wz.heap.size+1) (c:=c') (sets:=Bo c.AH.length) (bc:=J9.heap.size) (br:=J9.heap.size+1) (bn:=J9.heap.size+2) (k:=c.AK.length) (n:=0) (r:=Cv)
      QE.out TZ.out.1 TZ.out.2 rfl HNL.out (λ_ _=>rfl) JA.out (λb hb=>xx (HTL.out b hb) TY.out.size) rfl
      (λpre W=>IQ (AP ls) w9.heap.size (w9.heap.size+1) (w.heap.size+1) (Cq (AP ls) pre) W) (λ_ _ _=>False)
      (λpre W W' h hk=>by
       have Nu:=hk w9.heap.size (by rw[HT0.out];exact .inl rfl);have QG:=hk (w9.heap.size+1) (by rw[HT0.out];exact .inr (.inl rfl));have e9:=hk (w.heap.size+1) (by rw[HT0.out];exact .inr (.inr rfl))
       exact⟨Nu.trans h.MM,QG.trans h.is,e9.trans h.cost⟩) (λc pre W W' h _=>h)
      (by
       have h:=Xn.out;have hb:=TY.out.below.block
       exact⟨(hb _ (by omega)).trans h.MM,(hb _ (by omega)).trans h.is,(hb _ (by omega)).trans h.cost⟩) ?_ ?_ (λD j q W _ _ _ h _=>h.elim)
     .intro l pre ρ W hpl JP Dx hl1' hl2';have Dp:∀i,c'.has (ρ i):=gV TZ.out.1 _ _ _ eE ρ (hpl.subset (by simp));have Xp:Hid (∀i,ρ i<16):=xl λi=>qB (by omega) (Dp i);have abz:∀i,i<5->W.cell? ⟨w1.heap.size,i,none⟩=some (.int .u8 (AP ls i:Nat)):=λi hi=>by
       rw[JP.cell (p:=⟨w1.heap.size,i,none⟩) (by show w1.heap.size<_;omega) (by rintro(h|h);exact TW.out h;have h':w1.heap.size=J9.heap.size+1:=h;omega),TY.out.cell (p:=⟨w1.heap.size,i,none⟩) (by show w1.heap.size<_;omega)];exact agq.out i hi
      have hzW:=JP.size;have HI:=xl Dx;obtain⟨W2,hW2⟩:∃W2,W2=W.alloc (.cells #[.int .u8 (ρ 0),.int .u8 (ρ 1),.int .u8 (ρ 2),.int .u8 (ρ 3),.int .u8 (ρ 4)] 52):=⟨_,rfl⟩;have Zf:Hid (KT T0 W W2):=xl (by rw[hW2];exact KT.Cu ((Gr.refl W).alloc _));have Hc:Hid (W2.heap[W.heap.size]?=some (.cells (Om ρ) 52 (0,0))):=xl (by rw[hW2];exact World.alloc_heap_new W _);have HOLD:Hid (∀b,b<W.heap.size->W2.heap[b]?=W.heap[b]?):=xl λb hb=>by rw[hW2];exact heap_alloc_old _ _ hb
      have hz2:W2.heap.size=W.heap.size+1:=by rw[hW2];simp
      have Sy:=xl hz2;have Mp:=xl hW2;have abA:=xl abz;clear hpl JP Dx Dp abz hW2 hz2;unfold Cc
      gi_wp2
      rw[<-Mp.out];refine⟨Zf.out,λo=>?_⟩;clear Mp;have hlD:∀b,b<w11.heap.size->b≠l:=λb hb=>by omega
      have hIc:IQ (AP ls) w9.heap.size (w9.heap.size+1) (w.heap.size+1) (Cq (AP ls) pre) (W2.putObj l o):=by
       have h:=HI.out;have e:∀b,b<w11.heap.size->(W2.putObj l o).heap[b]?=W.heap[b]?:=λb hb=>(World.putObj_heap_other (hlD b hb)).trans (HOLD.out b (by omega));exact⟨(e _ (by omega)).trans h.MM,(e _ (by omega)).trans h.is,(e _ (by omega)).trans h.cost⟩
      have YI:∀i,i<5->(W2.putObj l o).cell? ⟨W.heap.size,i,none⟩=some (.int .u8 (ρ i:Nat)):=λi hi=>by
       rw[(D4 (W:=W2.putObj l o) ((World.putObj_heap_other (by omega)).trans Hc.out)).1 i];exact uw ρ hi
      have MZ:∀i,i<5->(W2.putObj l o).cell? ⟨w1.heap.size,i,none⟩=some (.int .u8 (AP ls i:Nat)):=λi hi=>by
       rw[cd (by show w1.heap.size≠l;omega),xN (a:=⟨w1.heap.size,i,none⟩) (HOLD.out w1.heap.size (by omega))];exact abA.out i hi
      have hz3:(W2.putObj l o).heap.size=W.heap.size+1:=by simp[World.putObj];exact Sy.out
      obtain⟨W3,hW3⟩:∃W3,W3=W2.putObj l o:=⟨_,rfl⟩;rw[<-hW3] at hIc YI MZ hz3 ⊢;have HI3:=xl hIc;have YJ:=xl YI;have H12:=xl MZ;have HZ3:=xl hz3;clear hW3 hIc YI MZ HI Hc HOLD abA hz3
      gi_wp2
      gi_loopw [18,84] (λv i wr=>∃(j m:Nat),j<=5/\i=.int .i64 j/\v=.int .i64 (C2 ρ (AP ls) j:Nat)/\wr=W3.drewN m) (λ_ i _=>5-(intOf i).toNat)
      case atStart=>exact⟨0,0,by omega,rfl,rfl,rfl⟩
      case round =>
       obtain⟨j,m,hj,rfl,rfl,rfl⟩:=hrel;by_cases hj5:j<5
       .have c17:W3.cell? ⟨W.heap.size,j,none⟩=some (.int .u8 (ρ j:Nat)):=YJ.out j hj5;have c12:W3.cell? ⟨w1.heap.size,j,none⟩=some (.int .u8 (AP ls j:Nat)):=H12.out j hj5;have hx:=lU ⟨ρ j,Xp.out j⟩ ⟨AP ls j,Xl.out j⟩;have N8:=nC (a:=ρ) (b:=AP ls) (λi hi=>(lU ⟨ρ i,Xp.out i⟩ ⟨AP ls i,Xl.out i⟩).2) j hj;have Xq:Hid (C2 ρ (AP ls) (j+1)=C2 ρ (AP ls) j+(wl (ρ j ^^^ AP ls j)).length):=xl rfl
        have Qz:=nB ⟨ρ j ^^^ AP ls j,hx.2⟩;have HSZ:=xl (λw=>vT (ρ j ^^^ AP ls j) w hx.2);simp only at hx Qz;obtain⟨hx1,hx2⟩:=hx;generalize ρ j ^^^ AP ls j=X at hx1 hx2 Qz HSZ Xq;generalize ρ j=x at c17 hx1;generalize AP ls j=y at c12 hx1;generalize C2 ρ (AP ls) j=q at N8 Xq;generalize (wl X).length=L at Xq Qz HSZ
        gi_wp2
        refine eQ (F:=Fence.wide) rfl (by kernel_rfl) (by kernel_rfl) (by kernel_rfl) ?_
        repeat (gi_big_quiet_step (fail))
        refine wpQuietIn_step (λw _ f _=>trivial) (λK hK=>?_);go_simp;apply Exists.intro;refine⟨λ_=>?_,hK _ ?_⟩
        .exact⟨rfl,(callsIn_wide.2 (HSZ.out _)).mono λe w' h=>⟨h.1,_,h.2.symm⟩⟩
        clear hK K
        repeat (gi_big_quiet_step (fail))
        refine wpQuietIn_nil ?_;intro _ hw';obtain⟨nq,hw''⟩:=hw';subst hw''
        gi_wp2
        go_roundw
        case rel=>exact⟨j+1,m+nq,by omega,by go_num,by rw[Xq.out];first|rfl|(congr 1;omega),rfl⟩
        case measure=>simp[intOf];omega
       .have agv:j=5:=by omega
        subst agv;have HI4:=HI3.out;have T2:=nC (a:=ρ) (b:=AP ls) (λi hi=>(lU ⟨ρ i,Xp.out i⟩ ⟨AP ls i,Xl.out i⟩).2) 5 (xp _);have HSN:=xl (dP (AP ls) pre ρ);obtain⟨nb0,nb1,nb2⟩:=one_cell HI4.is;obtain⟨YK,nc1,nc2⟩:=one_cell HI4.cost;obtain⟨Ou,Vb,nd2⟩:=D4 HI4.MM;have p0:=YJ.out 0 (by omega);have p1:=YJ.out 1 (by omega);have p2:=YJ.out 2 (by omega);have p3:=YJ.out 3 (by omega)
        have p4:=YJ.out 4 (by omega);have d0:=Ou 0;have d1:=Ou 1;have d2:=Ou 2;have d3:=Ou 3;have d4:=Ou 4;have f0:=Vb 0;have f1:=Vb 1;have f2:=Vb 2;have f3:=Vb 3;have f4:=Vb 4;generalize Cq (AP ls) pre=o' at nb0 YK d0 d1 d2 d3 d4 HSN HI3;simp only[Om,yd,List.getElem?_cons_zero,List.getElem?_cons_succ] at d0 d1 d2 d3 d4;clear HI4 Ou Vb;have WZ:Hid (T0 w9.heap.size/\T0 (w9.heap.size+1)/\T0 (w.heap.size+1)):=xl (by rw[HT0.out];exact⟨.inl rfl,.inr (.inl rfl),.inr (.inr rfl)⟩)
        have NL:KT T0 W3 (W3.drewN m):=KT.Cu ((Gr.refl W3).drewN m);have HKD:=xl NL;have hw9:w.heap.size+1<w9.heap.size:=by omega
        clear NL;obtain⟨q5,hq5⟩:∃q,q=C2 ρ (AP ls) 5:=⟨_,rfl⟩;rw[<-hq5] at T2 HSN ⊢;clear hq5;have HP:=xl ((HI3.out.drewN m).put (by omega) (by omega) (by omega) ρ q5 T0 WZ.out.1 WZ.out.2.1 WZ.out.2.2);cases o' with
        |none =>
         gi_wp2
         refine⟨HKD.out.trans HP.out.2,?_⟩;show IQ _ _ _ _ (Cq _ (pre++[ρ])) _;rw[HSN.out];exact HP.out.1
        |some p =>
         obtain⟨p1,n0⟩:=p;simp only[Option.isSome,TQ] at nb0 YK;by_cases hlt:q5<n0
         .have NC:(q5:Int)<(n0:Int):=by omega
          gi_wp2
          refine⟨HKD.out.trans HP.out.2,?_⟩;show IQ _ _ _ _ (Cq _ (pre++[ρ])) _;rw[HSN.out];simp only[if_pos hlt];exact HP.out.1
         .have NC:¬(q5:Int)<(n0:Int):=by omega
          gi_wp2
          refine⟨HKD.out,?_⟩;show IQ _ _ _ _ (Cq _ (pre++[ρ])) _;rw[HSN.out];simp only[if_neg hlt];exact HI3.out.drewN m
     .intro D W hD JP hi hd;have hw9:w.heap.size+1<w9.heap.size:=by omega
      have hGW:Gr w W:=KT.gr (T:=λb=>T0 b\/b=J9.heap.size+1) (KE.out.gr.trans (agp.out.trans TY.out)) JP (by
       rintro b (h|h)
       .rw[HT0.out] at h;omega
       .omega)
      have hzW:=JP.size;have HNR:Hid (Cq (AP ls) (Bz (GY c k d) (Bo c.AH.length) c.AK.length Cv 0)=Cq (AP ls) (Bz c' (Bo c.AH.length) c.AK.length Cv 0)):=xl (by rw[HC'.out]);have FL:∀p,Cq (AP ls) (Bz c' (Bo c.AH.length) c.AK.length Cv 0)=some p->∀i,i<5->p.1 i<16:=λp hp i _ =>
       qB (by omega) (gV TZ.out.1 _ _ _ eE p.1 (qe _ _ p rfl hp) i)
      obtain⟨o',Mb⟩:∃o',o'=Cq (AP ls) (Bz c' (Bo c.AH.length) c.AK.length Cv 0):=⟨_,rfl⟩;rw[<-Mb] at FL HNR hi;have HNR2:=xl Mb
      have Vd:Hid (∀e w',Gr w w'->(match o' with
       |none=>e=.returned (.tuple #[.slice none 0 0,.int .i64 0,.int .i64 11])
       |some p=>∃A k,e=.returned (.tuple #[.slice A c.AK.length k,.int .i64 p.2,.int .i64 0])/\CR w' w'.heap.size A (BJ p.1 c.AK.length))->iT c ls k d w e w'):=xl λe w' hg h=>by
        refine⟨hg,?_⟩;rw[if_neg (by simp[HE.out]),if_neg (by rw[show Ej (k:Int) 0 (c.AH.length-1)=true by unfold Ej;simp;omega,<-HX2.out];simp),show((k:Int)).toNat=k from rfl,HNR.out];exact h
      have hcc:W.cell? ⟨wz.heap.size+1,0,none⟩=some (.slice nA c.AK.length nc):=by
       rw[JP.cell (p:=⟨wz.heap.size+1,0,none⟩) (by show wz.heap.size+1<_;omega) (by rintro(h|h);exact VC.out _ (.inr (.inl rfl)) h;have h':wz.heap.size+1=J9.heap.size+1:=h;omega)];have:=JA.out.Dt.c0
       rwa [hcn] at this
      obtain⟨nb0,nb1,nb2⟩:=one_cell hi.is;obtain⟨YK,nc1,nc2⟩:=one_cell hi.cost;obtain⟨Ou,Vb,nd2⟩:=D4 hi.MM;have IY:=xl hGW;have HDD:=xl hd;have hD9:D≠w.heap.size+1:=by omega
      have agx:wz.heap.size+1<W.heap.size:=by omega
      have T3:=xl FL;clear JP hi hGW hd Mb FL;cases o' with
      |none =>
       have HDS:Hid ((W.setCell ⟨w.heap.size+1,0,none⟩ (.int .i64 0)).heap[D]?=some (.deferred (some []))):=xl ((xE _ _ _ _ hD9).trans HDD.out);go_wp2;refine dz HDS.out (v:=.tuple #[.slice none 0 0,.int .i64 0,.int .i64 11]) ?_ (Vd.out _ _ ((IY.out.setCell (by show _<=w.heap.size+1;omega) _).putObj (by omega) _) rfl);have:=cd (W:=W.setCell ⟨w.heap.size+1,0,none⟩ (.int .i64 0)) (D:=D) (o:=.deferred none) (p:=⟨w.heap.size+1,0,none⟩) (Ne.symm hD9)
       rw[xJ _ _ _ YK] at this;simp[results,Tryz.results8,go_sem,this]
      |some p =>
       obtain⟨p1,n0⟩:=p;have HL:=xl (nk (wz.heap.size+1) nA c.AK.length nc p1 W.drew agx hcc Su (T3.out _ rfl));have d0:=Ou 0;have d1:=Ou 1;have d2:=Ou 2;have d3:=Ou 3;have d4:=Ou 4;simp only[Om,abe,yd,List.getElem?_cons_zero,List.getElem?_cons_succ] at d0 d1 d2 d3 d4;simp only[Option.isSome,TQ] at nb0 YK;unfold Cc at HL;clear Ou Vb;go_wp2;refine kS ?_;go_region_with (first|(go_at_call 26;refine HL.out.mono ?_;rintro e w3 ⟨A3,c3,xs3,rfl,Hx,hg3⟩;have q0:=(hg3.cell (p:=⟨w.heap.size+1,0,none⟩) (by show w.heap.size+1<W.heap.size;omega)).trans YK;have q1:=(hg3.frozen (p:=⟨w.heap.size+1,0,none⟩) (by show w.heap.size+1<W.heap.size;omega)).trans nc1;have DW:=xl hg3;have HOG:=xl Hx;clear hg3 Hx))
       all_goals
        go_wp2;have hz3:=DW.out.size;have hz3':W.heap.size<=w3.heap.size:=hz3;have hD3:(w3.setCell ⟨w.heap.size+1,0,none⟩ (.int .i64 (n0:Nat))).heap[D]?=some (.deferred (some [])):=(xE _ _ _ _ hD9).trans ((DW.out.below.block D (xm.1 HDD.out).1).trans HDD.out);have agy:AY ((w3.setCell ⟨w.heap.size+1,0,none⟩ (.int .i64 (n0:Nat))).putObj D (.deferred none)) (W.drew.heap.size+1) (.slice A3 c.AK.length c3) (BJ p1 c.AK.length) xs3:=HOG.out.keep' λb hb hl=>by
         have hDl:=(xm.1 HDD.out).1;have hb':W.heap.size+1<=b:=hb;rw[World.putObj_heap_other (by omega),xE _ _ _ _ (by show b≠w.heap.size+1;omega)]
        obtain⟨A4,c4,e4,agz⟩:=agy.Ky;rw[B2] at e4;refine dz hD3 (v:=.tuple #[.slice A3 c.AK.length c3,.int .i64 (n0:Nat),.int .i64 0]) ?_ (Vd.out _ _ (((IY.out.drew.trans DW.out).setCell (by show _<=w.heap.size+1;omega) _).putObj (by omega) _) ⟨A4,c4,by rw[e4],agz⟩);have:=cd (W:=w3.setCell ⟨w.heap.size+1,0,none⟩ (.int .i64 (n0:Nat))) (D:=D) (o:=.deferred none) (p:=⟨w.heap.size+1,0,none⟩) (Ne.symm hD9)
        rw[xJ _ _ _ q0] at this;simp[results,Tryz.results8,go_sem,this]
 .rw[if_neg hE] at hf;obtain⟨p,r,rfl⟩:=hf;have HE:=xl hE;obtain⟨q,hq⟩:∃q,q=Ba c ls:=⟨_,rfl⟩;rw[<-hq] at hE ⊢;have HQ:=xl hq;have hqe:(q != 0)=true:=by simp[hE]
  obtain⟨JS,Hu,ND⟩:=one_cell TR.out;have HX:=xl (show Gr w (w1.alloc (.cells #[.int .u8 (r 0),.int .u8 (r 1),.int .u8 (r 2),.int .u8 (r 3),.int .u8 (r 4)] 52)) from EX.out.alloc _);clear hE hq hg1 Gp;unfold Cc;go_wp2;have hres:((w1.setCell ⟨w.heap.size+1,0,none⟩ (.int .i64 0)).alloc (.cells #[.int .u8 (r 0),.int .u8 (r 1),.int .u8 (r 2),.int .u8 (r 3),.int .u8 (r 4)] 52)).cell? ⟨w.heap.size+1,0,none⟩=some (.int .i64 0):=by
   rw[xO _ _ _ (by simp[World.setCell];exact ND)];exact xJ _ _ _ JS
  refine fk (v:=.tuple #[.slice none 0 0,.int .i64 0,.int .i64 q]) (by simp[results,Tryz.results8,go_sem,hres]) ⟨(EX.out.setCell (by show _<=w.heap.size+1;omega) _).alloc _,?_⟩;rw[if_pos HE.out,HQ.out]
end Go.Proofs.YtjcgijifamcggaaGreat
