/- Parts of the proof. -/
import Derived.Test.YteckikkkfpblhaaGreatP22
import Derived.Test.YteckikkkfpblhaaGreatP00
set_option linter.all false
set_option maxHeartbeats 6400000
set_option maxRecDepth 1000000
namespace Go.Sq
open Go.RowKit
def BX (c:AD):Nat->Int
 |0=>0
 |k+1=>BX c k+(c.h k).heads
def Ew (c:AD)(r:Bl)(h:Nat):Bool:=decide ((c.h h).heads*(BR r c.Aq.length c.Ap.length).sum<Ht r c.Aq.length h*BX c c.Ap.length)
def dU (c:AD)(r:Bl):List Int:=AJ (Ew c r) c.Ap.length
def AD.Ok.head {c:AD}(h:c.Ok){k:Nat}(hk:k<c.Ap.length):1<=(c.h k).heads/\(c.h k).heads<=40:=h.heads _ (c.FH hk)
def gh {c:AD}(h:c.Ok){k:Nat}(hk:k<=c.Ap.length):(k:Int)<=BX c k/\BX c k<=40*k:=by
 induction k with
 |zero=>simp[BX]
 |succ k ih =>
  have:=ih (by omega);have:=h.head (show k<_ by omega);unfold BX;omega
def rg {l:List Int}{b:Nat}(h:∀x∈l,0<=x/\x<=b):0<=l.sum/\l.sum<=b*l.length:=by
 induction l with
 |nil=>simp
 |cons x l ih =>
  have h1:=h x (by simp);have h2:=ih λy hy=>h y (by simp[hy]);rw[List.sum_cons,xz,Int.natCast_add,Int.mul_add];omega
def iX {r:Bl}{n m:Nat}:∀x∈BR r n m,0<=x/\x<=(4*n:Nat):=λx hx=>by
 obtain⟨h,_,rfl⟩:=xW.1 hx;have:=mt r n h;omega
end Go.Sq
namespace Go.Proofs.Ao
open Go.RowKit Go.Sq
def py (nA hA gA:Option Addr)(nc hc gc:Nat)(c:AD)(ls:List (List Int))(w:World)(B:Nat)(hB:B<=w.heap.size)(hn:RI w B nA c.Aq)(hh:BG w B hA c.Ap)(hg:BD w B gA ls)
  (DG:c.Aq.length<=4611686018427387904) (hl2:c.Ap.length<=4611686018427387904) (BU:∀h∈c.Ap,h.off.length<=4611686018427387904) (EY:ls.length<=4611686018427387904) (hl4:∀x∈ls,x.length<=4611686018427387904)
  (hF:Ay c ls=0) :
  Calls An 14 #[AH nA hA c nc hc,.slice gA ls.length gc] w λe w'=>Gr w w'/\∃A k,e=.returned (.tuple #[.slice A (dU c (Av ls)).length k,.int .i64 0])/\RI w' w'.heap.size A (dU c (Av ls)):=by
 unfold AH;have HH:=xf hh;obtain⟨W0,hW0⟩:∃W0:World,W0=w.alloc (.cells #[.slice nA c.Aq.length nc,.slice hA c.Ap.length hc] 25):=⟨_,rfl⟩;have hg0:Gr w W0:=hW0▸(Gr.refl w).alloc _;have hz0:W0.heap.size=w.heap.size+1:=by rw[hW0];simp
 have HW:=xf hW0;have CW:=xf (dF nA hA gA nc hc gc c ls W0 B (by omega) (hn.gr hB hg0) (hh.keep λb o hb=>hg0.cell (xl hb hB)) (hg.gr hB hg0) DG hl2 BU EY hl4);have B4:=xf hg0;have N8:Hid (W0.cell? ⟨w.heap.size,1,none⟩=some (.slice hA c.Ap.length hc)):=xf (by rw[hW0,xj _ _ _ _ rfl];rfl);have FD:=xf hF
 have DX:=xf (AD.Ok.of (show AK c=0 by
  have:=hF;unfold Ay at this;split at this
  .exact absurd this (by assumption)
  .simpa using ‹¬AK c≠0›))
 clear hW0 hg0 hn hh hg hl4 BU hF;go_enter Sq.func14,Tryz.ntmps14;unfold AH at CW;go_wp2_with fail;rw[<-HW.out];refine CW.out.mono ?_;rintro e w1 ⟨hg1,DD⟩;rw[if_pos FD.out] at DD;obtain⟨cb,g,cap,rfl,hcb,Uu,hK⟩:=DD;obtain⟨W1,hW1⟩:∃W1:World,W1=w1.alloc (.cells #[.int .u8 (Av ls 0),.int .u8 (Av ls 1),.int .u8 (Av ls 2),.int .u8 (Av ls 3),.int .u8 (Av ls 4)] 72):=⟨_,rfl⟩
 have Gq:Gr w1 W1:=hW1▸(Gr.refl w1).alloc _;have MO:Hid (W1.heap.size=w1.heap.size+1):=xf (by rw[hW1];simp);have Ch:=xf (hg1.trans Gq);have OP:=xf (hK.KF.on Gq);have hz1:=hg1.size;have TX:=xf (kQ cb nA hA nc hc c (Av ls) W1 OP.out DX.out (dT FD.out));have Mw:=xf hW1;clear hg1 Gq CW hW1 hK;unfold BI at *;go_wp2_with fail;rw[<-Mw.out];refine TX.out.mono ?_;rintro e w2 ⟨A,ka,rfl,Ct,hg2⟩
 have hz2:=hg2.size;have EZ:w.heap.size<w2.heap.size:=by have:=MO.out;omega
 have TY:=xf ((hg2.cell (p:=⟨w.heap.size,1,none⟩) (by show w.heap.size<_;have:=MO.out;omega)).trans ((Ch.out.cell (p:=⟨w.heap.size,1,none⟩) (by show w.heap.size<_;omega)).trans N8.out));have Ea:=xf (B4.out.trans (Ch.out.trans hg2));have Sn:=DX.out.h4;have MK:=DX.out.n5;have hc1:=TY.out;have Od:=xf (λW (hgr:Gr w2 W)=>tg A ka (BR (Av ls) c.Aq.length c.Ap.length) W w2.heap.size (Ct.gr (xh _) hgr) (by rw[Fs];omega) λx hx=>by have:=iX x hx;omega)
 have hsm:=rg (iX (r:=Av ls) (n:=c.Aq.length) (m:=c.Ap.length));rw[Fs] at Od hsm
 have LV:0<=(BR (Av ls) c.Aq.length c.Ap.length).sum/\(BR (Av ls) c.Aq.length c.Ap.length).sum<=80:=⟨hsm.1,Int.le_trans hsm.2 (by
  have:(4*c.Aq.length)*c.Ap.length<=20*4:=Nat.mul_le_mul (by omega) Sn
  omega)⟩
 have Hf:=xf Ct;have HP:Hid (∀h,Ew c (Av ls) h=decide ((c.h h).heads*(BR (Av ls) c.Aq.length c.Ap.length).sum<Ht (Av ls) c.Aq.length h*BX c c.Ap.length)):=xf λh=>rfl;generalize (BR (Av ls) c.Aq.length c.Ap.length).sum=all at Od HP LV;clear hg2 TX Ct hsm hz1 hz2;go_wp2;go_loopw [10,33] (λv i wr=>∃k:Nat,k<=c.Ap.length/\i=.int .i64 k/\v=.int .i64 (BX c k)/\Gr w2 wr) (λ_ i _=>c.Ap.length-(intOf i).toNat)
 case atStart=>exact⟨0,by omega,rfl,rfl,.refl _⟩
 case round =>
  obtain⟨k,hk,rfl,rfl,hgr⟩:=hrel;have D7:=xf hgr;have V9:=hgr.size;by_cases I8:k<c.Ap.length
  .obtain⟨b,o,rfl,hb,h0,h1,h2,A_,m,h3,_⟩:=(HH.out.keep (w':=wr) λb o hb=>(Ea.out.trans hgr).cell (xl hb hB)).at_ I8;have Xd:Hid (BX c (k+1)=BX c k+(c.h k).heads):=xf rfl;have UX:=DX.out.head I8;have UY:=gh DX.out (show k<=_ by omega);generalize BX c k=y at Xd UY;generalize (c.h k).heads=z at h0 Xd UX;clear hgr;go_wp2;go_roundw
   case rel=>exact⟨k+1,by omega,by go_num,congrArg (Value.int .i64) Xd.out.symm,D7.out.alloc _⟩
   case measure=>simp[intOf];omega
  .have E4:k=c.Ap.length:=by omega
   subst E4;have Js:=xf (Od.out wr hgr);have hc1:=(hgr.cell (p:=⟨w.heap.size,1,none⟩) EZ).trans TY.out;have UY:=gh DX.out (xh _);generalize BX c c.Ap.length=Me at HP UY ⊢;clear hgr;go_wp2_with fail;refine Js.out.mono ?_;rintro e w' ⟨rfl,rfl⟩;clear Js;go_wp2;obtain⟨w3,rfl⟩:∃w3:World,w3=wr:=⟨_,rfl⟩;go_loopw [14,47] (λv i wr=>∃k:Nat,k<=c.Ap.length/\i=.int .i64 k/\Gr w3 wr/\wr.ownsRow w3.heap.size 3 1 v (AJ (Ew c (Av ls)) k).length ((AJ (Ew c (Av ls)) k).map (Value.int .i64))) (λ_ i _=>c.Ap.length-(intOf i).toNat)
   case atStart=>exact⟨0,by omega,rfl,.refl _,xZ _ _ _ _⟩
   case round =>
    obtain⟨k,hk,rfl,FP,hown⟩:=hrel;have Gt:=xf FP;have af4:=FP.size;by_cases I8:k<c.Ap.length
    .obtain⟨b,o,rfl,hb,h0,h1,h2,A_,m,h3,_⟩:=(HH.out.keep (w':=wr) λb o hb=>(Ea.out.trans (D7.out.trans FP)).cell (xl hb hB)).at_ I8;obtain⟨b',o',rfl,hb',hw'⟩:=(Hf.out.gr (xh _) (D7.out.trans FP)) (by rw[<-List.length_pos_iff,Fs];omega);have hwk:=hw' k _ (iV I8);have hwi:=mt (Av ls) c.Aq.length k;have Ov:=xf (HP.out k);have Hd:=xf (cC (Ew c (Av ls)) k);have hlen:=cT (Ew c (Av ls)) k
     have UX:=DX.out.head I8;generalize Ht (Av ls) c.Aq.length k=y at hwk hwi Ov;generalize (c.h k).heads=z at h0 Ov UX;have JI:0<=y*Me/\y*Me<=20*160:=⟨Int.mul_nonneg hwi.1 (by omega),Int.mul_le_mul (by omega) (by omega) (by omega) (by omega)⟩;have Jl:0<=z*all/\z*all<=40*80:=⟨Int.mul_nonneg (by omega) LV.1,Int.mul_le_mul (by omega) (by omega) (by omega) (by omega)⟩;have af6:b'<wr.heap.size:=by omega
     clear FP hw' hwi LV UY;generalize hM1:y*Me=M1 at Ov JI;generalize NV:z*all=M2 at Ov Jl;have HO:=xf hown;generalize AJ (Ew c (Av ls)) k=L at HO Hd hlen;by_cases hgt:M2<M1
     .have JY:decide (M1 > M2)=true:=by simp;omega
      have HL:Hid (AJ (Ew c (Av ls)) (k+1)=L++[(k:Int)]):=xf (by rw[Hd.out,Ov.out];simp[hgt]);clear hown;go_wp2;go_region
      all_goals
       have UZ:=xf (ar (w':=((wr.alloc (.cells #[.int .i64 z,.int .i64 (c.h k).CJ,.int .i64 (c.h k).most,.slice A_ (c.h k).off.length m] 46)).alloc (.cells #[.int .i64 (k:Nat)] 3)).drew) ((HO.out.alloc _).alloc _) λ_ _ _=>rfl);go_wp2_with (at_builtin;refine fX rfl _ _ rfl w3.heap.size _ _ _ rfl UZ.out ⟨wr.heap.size+1,0,none⟩ 1 (.int .i64 k) rfl ?c1 rfl ?c2 ?c3 ?_)
       case c1 =>
        refine Eq.trans (b:=((wr.alloc (.cells #[.int .i64 z,.int .i64 (c.h k).CJ,.int .i64 (c.h k).most,.slice A_ (c.h k).off.length m] 46)).alloc (.cells #[.int .i64 (k:Nat)] 3)).cell? ⟨wr.heap.size+1,0,none⟩) rfl ?_;rw[xj _ _ _ _ (by simp)];rfl
       case c2=>omega
       case c3=>simp;omega
       intro v' w4 hown' hgrow hd;have Ju:=xf (((Gt.out.alloc _).alloc _).drew.grown hgrow hd λq hq=>(HO.out.lt q hq).1);have HO4:Hid (w4.ownsRow w3.heap.size 3 1 v' (L++[(k:Int)]).length ((L++[(k:Int)]).map (Value.int .i64))):=xf (by simpa using hown');clear hown' hgrow hd;go_wp2;go_roundw
       case rel=>exact⟨k+1,by omega,by go_num,Ju.out,by rw[HL.out];exact HO4.out⟩
       case measure=>simp[intOf];omega
     .have JY:decide (M1 > M2)=false:=by simp;omega
      have HL:Hid (AJ (Ew c (Av ls)) (k+1)=L):=xf (by rw[Hd.out,Ov.out];simp[hgt]);clear hown;go_wp2;go_region
      all_goals
       go_wp2;go_roundw
       case rel=>exact⟨k+1,by omega,by go_num,(Gt.out.alloc _).drew,by rw[HL.out];exact ar (HO.out.alloc _) λ_ _ _=>rfl⟩
       case measure=>simp[intOf];omega
    .have E4:k=c.Ap.length:=by omega
     subst E4;have HF:=xf (zG hown);have OO:=xf (Ea.out.trans (D7.out.trans FP));obtain⟨A2,k2,rfl,Ct⟩:=HF.out;have LZ:=xf Ct;clear FP hown HF Ct;go_wp2;go_ret2;exact⟨OO.out,_,_,rfl,LZ.out⟩
end Go.Proofs.Ao
namespace Go.Sq
open Go.RowKit
def Bu (ls:List (List Int)):Nat->Nat->Int
 |0,_=>0
 |k+1,h=>Bu ls k h+if(h:Int)∈ls[k]?.getD [] then 1 else 0
def C6 (ls:List (List Int))(m:Nat):List Int:=(List.range m).map (Bu ls ls.length)
def ef (ls:List (List Int))(m:Nat):(C6 ls m).length=m:=by simp[C6]
def dV (ls:List (List Int))(k h:Nat):0<=Bu ls k h/\Bu ls k h<=k:=by
 induction k with
 |zero=>simp[Bu]
 |succ k ih=>unfold Bu;split<;>omega
def lr {l:List Int}{k:Nat}(hk:k<l.length)(n:Int):n∈l.take (k+1)↔n∈l.take k\/l[k]?.getD 0=n:=by
 rw[bm 0 l k hk,ym,yG];constructor
 .rintro(h|h);exact .inl h;exact .inr h.symm
 .rintro(h|h);exact .inl h;exact .inr h.symm
end Go.Sq
namespace Go.Proofs.Ao
open Go.RowKit Go.Sq
end Go.Proofs.Ao
namespace Go.Sq
open Go.RowKit
def pz (l:List Int)(h:∀x∈l,0<=x)(x i:Nat):(l.foldl (λx h=>x ||| 2 ^ h.toNat) x).testBit i=(x.testBit i||decide ((i:Int)∈l)):=by
 induction l generalizing x with
 |nil=>simp
 |cons a l ih =>
  rw[List.foldl_cons,ih (λy hy=>h y (by simp[hy])),Nat.testBit_or,Nat.testBit_two_pow,Bool.or_assoc];congr 1;have h0:=h a (by simp);by_cases e:a.toNat=i
  .have:(i:Int)=a:=by omega
   simp[e,this]
  .have:¬(i:Int)=a:=by omega
   simp[e,this]
def n8 {l:List Int}(h:∀x∈l,0<=x)(i:Nat):(Hw l).testBit i=decide ((i:Int)∈l):=by
 unfold Hw;rw[pz l h];simp
def rh {l:List Int}(h:l.Pairwise (·<·))(x:Int):l.count x=if x∈l then 1 else 0:=by
 induction l with
 |nil=>rfl
 |cons a l ih =>
  rw[ze] at h;rw[List.count_cons,ih h.2];by_cases e:a=x
  .subst e;have:a ∉ l:=λhm=>by have:=h.1 a hm;omega
   simp[this]
  .have e':¬x=a:=λh=>e h.symm;simp[e,e']
def sQ {l:List Int}{m h:Nat}(hl:∃p,l=AJ p m)(hm:m<=4)(hh:h<m):(wl (Hw l)).count (h:Int)=if(h:Int)∈l then 1 else 0:=by
 obtain⟨p,rfl⟩:=hl;have hn:∀x∈AJ p m,0<=x:=λx hx=>by obtain⟨n,rfl,_⟩:=Eu.1 hx;omega
 have e:wl (Hw (AJ p m))=AJ (Hw (AJ p m)).testBit 4:=rfl;rw[e,rh (gd _ _)];congr 1;refine propext ⟨λhx=>?_,λhx=>Eu.2 ⟨h,rfl,by omega,by rw[n8 hn];simp[hx]⟩⟩;obtain⟨n,hnn,_,hb⟩:=Eu.1 hx;obtain rfl:h=n:=by omega
 rw[n8 hn] at hb;simpa using hb
def pA {ls:List (List Int)}{m h:Nat}(hl:∀x∈ls,∃p,x=AJ p m)(hm:m<=4)(hh:h<m)(k:Nat)(hk:k<=ls.length):Ht (Av ls) k h=Bu ls k h:=by
 induction k with
 |zero=>rfl
 |succ k ih =>
  unfold Ht Bu;rw[ih (by omega)];congr 1;have hlt:k<ls.length:=hk;have e:Av ls k=Hw ls[k]:=by unfold Av;rw[xi hlt];rfl
  rw[e,sQ (hl _ (yb hlt)) hm hh,xi hlt,Option.getD_some];split<;>rfl
def lw {ls:List (List Int)}{m:Nat}(hl:∀x∈ls,∃p,x=AJ p m)(hm:m<=4):BR (Av ls) ls.length m=C6 ls m:=by
 unfold BR C6;refine List.map_congr_left λh hh=>pA hl hm (x9.1 hh) _ (xh _)
def sumTo (f:Nat->Int):Nat->Int
 |0=>0
 |k+1=>sumTo f k+f k
def jR:∀ {l m:List Int},l.Pairwise (·<·)->m.Pairwise (·<·)->(∀x,x∈l↔x∈m)->l=m
 |[],[],_,_,_=>rfl
 |[],b::m,_,_,h=>absurd ((h b).2 (yE ..)) (by simp)
 |a::l,[],_,_,h=>absurd ((h a).1 (yE ..)) (by simp)
 |a::l,b::m,hl,hm,h=>by
  obtain⟨h1,h2⟩:=ze.1 hl;obtain⟨h3,h4⟩:=ze.1 hm;have e:a=b:=by
   rcases xu.1 ((h a).1 (yE ..)) with e|e
   .exact e
   .rcases xu.1 ((h b).2 (yE ..)) with e2|e2
    .exact e2.symm
    .have:=h3 a e;have:=h1 b e2;omega
  subst e;congr 1;refine jR h2 h4 λx=>⟨λhx=>?_,λhx=>?_⟩
  .rcases xu.1 ((h x).1 (yS _ hx)) with e|e
   .have:=h1 x hx;omega
   .exact e
  .rcases xu.1 ((h x).2 (yS _ hx)) with e|e
   .have:=h3 x hx;omega
   .exact e
def sR {l:List Int}(h:∀i,i+1<l.length->l[i]?.getD 0<l[i+1]?.getD 0):l.Pairwise (·<·):=by
 induction l with
 |nil=>exact .nil
 |cons a l ih =>
  have ih':=ih λi hi=>by have:=h (i+1) (by simpa using hi);simpa using this
  refine ze.2 ⟨λb hb=>?_,ih'⟩;cases l with
  |nil=>cases hb
  |cons c l =>
   have h0:=h 0 (by simp);simp at h0;rcases xu.1 hb with rfl|hb
   .exact h0
   .have:=(ze.1 ih').1 b hb;omega
def pB {l:List Int}{m:Nat}(h:B1 l m=0):∃p,l=AJ p m:=by
 obtain⟨h1,_,h2⟩:=Ge h;refine⟨λn=>decide ((n:Int)∈l),jR (sR h2) (gd _ _) λx=>?_⟩;rw[Eu];constructor
 .intro hx;have:=h1 x hx;refine⟨x.toNat,by omega,by omega,?_⟩;rw[show((x.toNat:Nat):Int)=x by omega];simpa using hx
 .rintro⟨n,rfl,_,hn⟩;simpa using hn
def F5 {c:AD}{ls:List (List Int)}(h:Ay c ls=0):ls.length=c.Aq.length/\∀x∈ls,B1 x c.Ap.length=0:=by
 unfold Ay at h;split at h
 .exact absurd h (by assumption)
 .split at h
  .exact absurd h (by assumption)
  .rename_i h1 h2;refine⟨?_,λx hx=>bz.1 h _ (xW.2 ⟨x,hx,rfl⟩)⟩;have h2:Bb ls.length c.Aq.length c.Aq.length=0:=by simpa using h2
   unfold Bb at h2;split at h2
   .omega
   .split at h2<;>omega
def eU {c:AD}{ls:List (List Int)}(h:Ay c ls=0):AK c=0:=by
 unfold Ay at h;split at h
 .exact absurd h (by assumption)
 .simpa using ‹¬AK c≠0›
def ij {c:AD}{ls:List (List Int)}(h:Ay c ls=0):ls.length<=1048576/\∀x∈ls,x.length<=1048576:=by
 have Du:=AD.Ok.of (eU h);obtain⟨h1,h2⟩:=F5 h;have:=Du.n5;have:=Du.h4;refine⟨by omega,λx hx=>?_⟩;have:=(Ge (h2 x hx)).2.1;omega
def il {c:AD}{ls:List (List Int)}(h:Ay c ls=0):BR (Av ls) c.Aq.length c.Ap.length=C6 ls c.Ap.length:=by
 obtain⟨h1,h2⟩:=F5 h;rw[<-h1];exact lw (λx hx=>pB (h2 x hx)) (AD.Ok.of (eU h)).h4
end Go.Sq
namespace Go.Proofs.Ao
open Go.RowKit Go.Sq
def sT (A:Option Addr)(c:Nat)(l:List Int)(n:Int)(w:World)(B:Nat)(h:RI w B A l)(hl:l.length<=4611686018427387904) :
  Calls An 70 #[.slice A l.length c,.int .i64 n] w λe w'=>e=.returned (.bool (decide (n∈l)))/\w=w':=by
 have HR:=xf h;clear h;go_enter Sq.func70,Tryz.ntmps70;go_wp2;go_loop [5] (λi=>∃k:Nat,k<=l.length/\i=.int .i64 k/\n ∉ l.take k) (λi=>l.length-(intOf i).toNat)
 case atStart=>exact⟨0,by omega,rfl,by simp⟩
 case round =>
  obtain⟨k,hk,rfl,hz⟩:=hrel;by_cases hlt:k<l.length
  .obtain⟨b,o,rfl,hb,hc⟩:=HR.out.at_ hlt;have HM:=xf (lr hlt n);have Ur:Hid (l[k]?.getD 0∈l):=xf (by rw[xi hlt];exact yb hlt);have HZ:=xf hz;clear hz;generalize l[k]?.getD 0=x at hc HM Ur;by_cases he:x=n
   .subst he;have HS:=xf (show decide (x∈l)=true by simpa using Ur.out);go_wp2;go_ret;exact⟨ap HS.out.symm,rfl⟩
   .have HN:Hid (n ∉ l.take (k+1)):=xf λh=>(HM.out.1 h).elim HZ.out he;have hd:(x==n)=false:=by simpa using he
    go_wp2;go_round
    case rel=>exact⟨k+1,by omega,by go_num,HN.out⟩
    case measure=>simp[intOf];omega
  .have D6:k=l.length:=by omega
   have HS:=xf (show decide (n∈l)=false by
    rw[D6,List.take_length] at hz
    simpa using hz)
   clear hz;go_wp2;go_ret;exact⟨ap HS.out.symm,rfl⟩
def gi (A:Option Addr)(c:Nat)(ls:List (List Int))(h:Nat)(w:World)(B:Nat)(hg:BD w B A ls)(hl:ls.length<=1048576)(hl2:∀x∈ls,x.length<=1048576) :
  Calls An 35 #[.slice A ls.length c,.int .i64 h] w λe w'=>e=.returned (.int .i64 (Bu ls ls.length h))/\w=w':=by
 have HG:=xf hg;have HL:=xf hl2;clear hg hl2;go_enter Sq.func35,Tryz.ntmps35;go_wp2;go_loop [5,6] (λv i=>∃k:Nat,k<=ls.length/\i=.int .i64 k/\v=.int .i64 (Bu ls k h)) (λ_ i=>ls.length-(intOf i).toNat)
 case atStart=>exact⟨0,by omega,rfl,rfl⟩
 case round =>
  obtain⟨k,hk,rfl,rfl⟩:=hrel;by_cases hlt:k<ls.length
  .obtain⟨b,o,rfl,hb,Hm⟩:=HG.out (λe=>by rw[e] at hlt;simp at hlt);obtain⟨A',c',hcell,Ct⟩:=Hm k _ (xi hlt);have HH:=xf (sT A' c' ls[k] (h:Int) w B Ct (xx (HL.out _ (yb hlt)) (by omega)))
   have HS:Hid (Bu ls (k+1) h=Bu ls k h+if(h:Int)∈ls[k] then 1 else 0):=xf (by
    show Bu ls k h+(if _ then _ else _)=_
    rw[xi hlt];rfl)
   have hb:=dV ls k h;clear Hm Ct;generalize ls[k]=x at hcell HH HS;generalize Bu ls k h=s at HS hb;by_cases Gz:(h:Int)∈x
   .rw[decide_eq_true Gz] at HH;rw[if_pos Gz] at HS;clear Gz;go_wp2_with fail;refine HH.out.mono ?_;rintro e w' ⟨rfl,rfl⟩;go_wp2;go_round
    case rel=>exact⟨k+1,by omega,by go_num,by rw[HS.out]⟩
    case measure=>simp[intOf];omega
   .rw[decide_eq_false Gz] at HH;rw[if_neg Gz,Int.add_zero] at HS;clear Gz;go_wp2_with fail;refine HH.out.mono ?_;rintro e w' ⟨rfl,rfl⟩;go_wp2;go_round
    case rel=>exact⟨k+1,by omega,by go_num,by rw[HS.out]⟩
    case measure=>simp[intOf];omega
  .have D6:k=ls.length:=by omega
   subst D6;go_wp2;go_ret;exact⟨rfl,rfl⟩
def af7 (c:AD)(ls:List (List Int))(w:World)(e:Ending)(w':World):Prop :=
 Gr w w'/\if Ay c ls=0 then ∃A k,e=.returned (.tuple #[.slice A c.Ap.length k,.int .i64 0])/\RI w' w'.heap.size A (C6 ls c.Ap.length)
  else e=.returned (.tuple #[.slice none 0 0,.int .i64 (Ay c ls)])
def mu (nA hA gA:Option Addr)(nc hc gc:Nat)(c:AD)(ls:List (List Int))(w:World)(B:Nat)(hB:B<=w.heap.size)(hn:RI w B nA c.Aq)(hh:BG w B hA c.Ap)(hg:BD w B gA ls)
  (DG:c.Aq.length<=4611686018427387904) (hl2:c.Ap.length<=4611686018427387904) (BU:∀h∈c.Ap,h.off.length<=4611686018427387904) (EY:ls.length<=4611686018427387904) (hl4:∀x∈ls,x.length<=4611686018427387904) :
  Calls An 13 #[AH nA hA c nc hc,.slice gA ls.length gc] w (af7 c ls w):=by
 unfold AH;obtain⟨W0,hW0⟩:∃W0:World,W0=w.alloc (.cells #[.slice nA c.Aq.length nc,.slice hA c.Ap.length hc] 25):=⟨_,rfl⟩;have hg0:Gr w W0:=hW0▸(Gr.refl w).alloc _;have hz0:W0.heap.size=w.heap.size+1:=by rw[hW0];simp
 have HW:=xf hW0;have hf:=iU nA hA gA nc hc gc c ls W0 B (by omega) (hn.gr hB hg0) (hh.keep λb o hb=>hg0.cell (xl hb hB)) (hg.gr hB hg0) DG hl2 BU EY hl4;unfold AH at hf;have HF:=xf hf;have B4:=xf hg0;have Nb:=xf hg;have HC:Hid (∀W,Gr W0 W->W.cell? ⟨w.heap.size,1,none⟩=some (.slice hA c.Ap.length hc)/\w.heap.size<W.heap.size):=xf λW hg=>by
  have:=hg.size;rw[hg.cell (by show w.heap.size<_;omega),hW0,xj _ _ _ _ rfl];exact⟨rfl,by omega⟩
 clear hW0 hg0 hf hn hh hg;go_enter Sq.func13,Tryz.ntmps13;go_wp2_with fail;rw[<-HW.out];refine HF.out.mono ?_;rintro e w1 ⟨rfl,hg1⟩;have Ch:=xf hg1;have Ex:=xf (B4.out.trans hg1);have hsz:=hg1.size;clear hg1 HF;by_cases h0:Ay c ls=0
 .have FD:=xf h0
  have DX:=xf (AD.Ok.of (show AK c=0 by
   have:=h0;unfold Ay at this;split at this
   .exact absurd this (by assumption)
   .simpa using ‹¬AK c≠0›))
  have U0:=xf (ij h0);have Sn:=DX.out.h4;rw[h0];clear h0 BU hl4;go_wp2;go_loopw [7,8] (λv i wr=>∃k:Nat,k<=c.Ap.length/\i=.int .i64 k/\Gr w1 wr/\wr.ownsRow w1.heap.size 3 1 v ((List.range k).map (Bu ls ls.length)).length (((List.range k).map (Bu ls ls.length)).map (Value.int .i64))) (λ_ i _=>c.Ap.length-(intOf i).toNat)
  case atStart=>exact⟨0,by omega,rfl,.refl _,xZ _ _ _ _⟩
  case round =>
   obtain⟨k,hk,rfl,hgr,hown⟩:=hrel;have D7:=xf hgr;have HO:=xf hown;obtain⟨c1,cl⟩:=HC.out wr (Ch.out.trans hgr);have hz2:=hgr.size;by_cases hlt:k<c.Ap.length
   .have Sy:=xf (gi gA gc ls k wr B (Nb.out.gr hB (Ex.out.trans hgr)) U0.out.1 U0.out.2);have Kz:((List.range k).map (Bu ls ls.length)).length<=4:=by simp;omega
    have HTS:Hid ((List.range (k+1)).map (Bu ls ls.length)=(List.range k).map (Bu ls ls.length)++[Bu ls ls.length k]):=xf (by rw[yZ,zr];rfl);generalize (List.range k).map (Bu ls ls.length)=L at HO Kz HTS hown;generalize Bu ls ls.length k=x at Sy HTS;clear hgr hown;go_wp2_with fail;refine Sy.out.mono ?_;rintro e w' ⟨rfl,rfl⟩;go_wp2_with (at_builtin;refine fX rfl _ _ rfl w1.heap.size _ _ _ rfl (HO.out.alloc _) ⟨wr.heap.size,0,none⟩ 1 (.int .i64 x) rfl ?c1 rfl ?c2 ?c3 ?_)
    case c1=>rw[xj _ _ _ _ rfl];rfl
    case c2=>omega
    case c3=>simp;omega
    intro v' Yb hown' hgrow hd;have Oj:=xf ((D7.out.alloc _).grown hgrow hd λq hq=>(HO.out.lt q hq).1);have af9:Hid (Yb.ownsRow w1.heap.size 3 1 v' ((List.range (k+1)).map (Bu ls ls.length)).length (((List.range (k+1)).map (Bu ls ls.length)).map (Value.int .i64))):=xf (by rw[HTS.out];simpa using hown');clear hown' hgrow hd Sy HO;go_wp2;go_roundw
    case rel=>exact⟨k+1,by omega,by go_num,Oj.out,af9.out⟩
    case measure=>simp[intOf];omega
   .have E4:k=c.Ap.length:=by omega
    subst E4;obtain⟨A9,k9,rfl,Ct⟩:=zG hown;have Hf:=xf Ct;have OO:=xf (Ex.out.trans hgr);have Kz:((List.range c.Ap.length).map (Bu ls ls.length)).length=c.Ap.length:=by simp
    rw[Kz];clear hgr hown Ct HO;go_wp2;go_ret2;refine⟨OO.out,?_⟩;rw[if_pos FD.out];exact⟨_,_,rfl,Hf.out⟩
 .have FD:=xf h0;have hne:(Ay c ls != 0)=true:=by simpa using h0
  generalize hq:Ay c ls=e0 at hne;replace hq:=xf hq;clear h0;go_wp2;go_ret2;refine⟨Ex.out,?_⟩;rw[if_neg FD.out,hq.out]
  rfl
end Go.Proofs.Ao
namespace Go.Sq
open Go.RowKit
def F6 (ls:List (List Int))(k:Nat):Int:=((List.range k).map (Bu ls ls.length)).sum
def iY (ls:List (List Int))(k:Nat):F6 ls (k+1)=F6 ls k+Bu ls ls.length k:=by
 unfold F6;rw[yZ,zr,List.sum_append];simp
def im {ls:List (List Int)}(hl:ls.length<=1048576):∀k,0<=F6 ls k/\F6 ls k<=k*1048576
 |0=>by simp[F6]
 |k+1=>by
  have:=im hl k;have:=dV ls ls.length k;rw[iY];omega
end Go.Sq
namespace Go.Proofs.Ao
open Go.RowKit Go.Sq
def nl (nA hA gA:Option Addr)(nc hc gc:Nat)(c:AD)(ls:List (List Int))(w:World)(hg:BD w w.heap.size gA ls)(hl2:c.Ap.length<=20)(EY:ls.length<=1048576)(hl4:∀x∈ls,x.length<=1048576) :
  Calls An 37 #[AH nA hA c nc hc,.slice gA ls.length gc] w λe w'=>(∃m:Int,e=.returned (.tuple #[.int .i64 m,.int .i64 (C6 ls c.Ap.length).sum]))/\Gr w w':=by
 unfold AH;obtain⟨W0,hW0⟩:∃W0:World,W0=w.alloc (.cells #[.slice nA c.Aq.length nc,.slice hA c.Ap.length hc] 25):=⟨_,rfl⟩;have hg0:Gr w W0:=hW0▸(Gr.refl w).alloc _;have hz0:W0.heap.size=w.heap.size+1:=by rw[hW0];simp
 have HW:=xf hW0;have B4:=xf hg0;have Nb:=xf (hg.gr (xh _) hg0);have ZW:=xf hl4;have c1:W0.cell? ⟨w.heap.size,1,none⟩=some (.slice hA c.Ap.length hc):=by rw[hW0,xj _ _ _ _ rfl];rfl
 have cl:w.heap.size<W0.heap.size:=by omega
 clear hW0 hg0 hg hl4;go_enter Sq.func37,Tryz.ntmps37;go_wp2;rw[<-HW.out];go_loop [6,7,8] (λm s i=>∃k:Nat,k<=c.Ap.length/\i=.int .i64 k/\(∃x:Int,m=.int .i64 x/\0<=x/\x<=1048576)/\s=.int .i64 (F6 ls k)) (λ_ _ i=>c.Ap.length-(intOf i).toNat)
 case atStart=>exact⟨0,by omega,rfl,⟨0,rfl,by omega,by omega⟩,rfl⟩
 case round =>
  obtain⟨k,hk,rfl,⟨x,rfl,hx0,hx1⟩,rfl⟩:=hrel;have hS:=im EY k;by_cases hlt:k<c.Ap.length
  .have Sy:=xf (gi gA gc ls k W0 w.heap.size Nb.out EY ZW.out);have HSU:=xf (iY ls k);have hy:=dV ls ls.length k;generalize Bu ls ls.length k=y at Sy HSU hy;generalize F6 ls k=s at HSU hS;go_wp2;refine Sy.out.mono ?_;rintro e w' ⟨rfl,rfl⟩;have hm0:0<=max x y/\max x y<=1048576:=by omega
   generalize max x y=m at hm0;go_wp2;go_round
   case rel=>exact⟨k+1,by omega,by go_num,⟨_,rfl,by omega,by omega⟩,by rw[HSU.out]⟩
   case measure=>simp[intOf];omega
  .have E4:k=c.Ap.length:=by omega
   subst E4;go_wp2;go_ret2;exact⟨⟨x,rfl⟩,B4.out⟩
end Go.Proofs.Ao
namespace Go.Sq
open Go.RowKit
def EX (c:AD)(ls:List (List Int))(h:Nat):Bool:=decide ((c.h h).heads*(C6 ls c.Ap.length).sum<Bu ls ls.length h*BX c c.Ap.length)
def pC {p q:Nat->Bool}{m:Nat}(h:∀k,k<m->p k=q k):AJ p m=AJ q m:=by
 induction m with
 |zero=>simp[AJ]
 |succ m ih =>
  rw[cC,cC,ih λk hk=>h k (by omega),h m (by omega)]
def rj {c:AD}{ls:List (List Int)}(h:Ay c ls=0):AJ (EX c ls) c.Ap.length=dU c (Av ls):=by
 unfold dU;refine pC λk hk=>?_;have e:=il h;have h1:(BR (Av ls) c.Aq.length c.Ap.length)[k]?=some (Ht (Av ls) c.Aq.length k):=iV hk;have h2:(C6 ls c.Ap.length)[k]?=some (Bu ls ls.length k):=by unfold C6;rw[yp,zb hk];rfl
 have h3:Ht (Av ls) c.Aq.length k=Bu ls ls.length k:=by rw[e,h2] at h1;injection h1 with h1;exact h1.symm
 unfold EX Ew;rw[e,h3]
end Go.Sq
namespace Go.Proofs.Ao
open Go.RowKit Go.Sq
def agb (c:AD)(ls:List (List Int))(w:World)(e:Ending)(w':World):Prop :=
 Gr w w'/\if Ay c ls=0 then ∃A k,e=.returned (.tuple #[.slice A (dU c (Av ls)).length k,.int .i64 0])/\RI w' w'.heap.size A (dU c (Av ls))
  else e=.returned (.tuple #[.slice none 0 0,.int .i64 (Ay c ls)])
def pD (nA hA gA:Option Addr)(nc hc gc:Nat)(c:AD)(ls:List (List Int))(w:World)(B:Nat)(hB:B<=w.heap.size)(hn:RI w B nA c.Aq)(hh:BG w B hA c.Ap)(hg:BD w B gA ls)
  (DG:c.Aq.length<=4611686018427387904) (hl2:c.Ap.length<=4611686018427387904) (BU:∀h∈c.Ap,h.off.length<=4611686018427387904) (EY:ls.length<=4611686018427387904) (hl4:∀x∈ls,x.length<=4611686018427387904) :
  Calls An 15 #[AH nA hA c nc hc,.slice gA ls.length gc] w (agb c ls w):=by
 unfold AH;obtain⟨W0,hW0⟩:∃W0:World,W0=w.alloc (.cells #[.slice nA c.Aq.length nc,.slice hA c.Ap.length hc] 25):=⟨_,rfl⟩;have hg0:Gr w W0:=hW0▸(Gr.refl w).alloc _;have hz0:W0.heap.size=w.heap.size+1:=by rw[hW0];simp
 have HW:=xf hW0;have hf:=iU nA hA gA nc hc gc c ls W0 B (by omega) (hn.gr hB hg0) (hh.keep λb o hb=>hg0.cell (xl hb hB)) (hg.gr hB hg0) DG hl2 BU EY hl4;unfold AH at hf;have HF:=xf hf;have B4:=xf hg0;have Nb:=xf hg;have HH:=xf hh;have HC:Hid (∀W,Gr W0 W->(W.cell? ⟨w.heap.size,0,none⟩=some (.slice nA c.Aq.length nc)/\W.cell? ⟨w.heap.size,1,none⟩=some (.slice hA c.Ap.length hc))/\w.heap.size<W.heap.size):=xf λW hg=>by
  have:=hg.size;rw[hg.cell (by show w.heap.size<_;omega),hg.cell (by show w.heap.size<_;omega),hW0,xj _ _ _ _ rfl,xj _ _ _ _ rfl];exact⟨⟨rfl,rfl⟩,by omega⟩
 clear hW0 hg0 hf hn hh hg;go_enter Sq.func15,Tryz.ntmps15;go_wp2_with fail;rw[<-HW.out];refine HF.out.mono ?_;rintro e w1 ⟨rfl,hg1⟩;have Ch:=xf hg1;have Ex:=xf (B4.out.trans hg1);have hsz:=hg1.size;clear hg1 HF;by_cases h0:Ay c ls=0
 .have FD:=xf h0;have DX:=xf (AD.Ok.of (show AK c=0 from eU h0));have U0:=xf (ij h0);have Nh:ls.length<=5:=by rw[(F5 h0).1];exact DX.out.n5
  have Sn:=DX.out.h4;rw[h0];clear h0 BU hl4;obtain⟨⟨c0,c1⟩,cl⟩:=HC.out w1 Ch.out;go_wp2;go_loop [7,8] (λv i=>∃k:Nat,k<=c.Ap.length/\i=.int .i64 k/\v=.int .i64 (BX c k)) (λ_ i=>c.Ap.length-(intOf i).toNat)
  case atStart=>exact⟨0,by omega,rfl,rfl⟩
  case round =>
   obtain⟨k,hk,rfl,rfl⟩:=hrel;have UY:=gh DX.out (show k<=_ by omega);by_cases hlt:k<c.Ap.length
   .obtain⟨b,o,rfl,hb,b0,_⟩:=(HH.out.keep (w':=w1) λb o hb=>Ex.out.cell (xl hb hB)).at_ hlt;have UX:=DX.out.head hlt;have Xd:Hid (BX c (k+1)=BX c k+(c.h k).heads):=xf rfl;generalize BX c k=y at Xd UY;generalize (c.h k).heads=z at b0 UX Xd;go_wp2;go_round
    case rel=>exact⟨k+1,by omega,by go_num,by rw[Xd.out]⟩
    case measure=>simp[intOf];omega
   .have E4:k=c.Ap.length:=by omega
    subst E4;have U1:=nl nA hA gA nc hc gc c ls w1 ((Nb.out.gr hB Ex.out).more (by have:=Ex.out.size;omega)) (by omega) U0.out.1 U0.out.2;unfold AH at U1;have WW:=xf U1;clear U1;go_wp2_with fail;refine WW.out.mono ?_;rintro e w2 ⟨⟨m,rfl⟩,hg2⟩;have Ea:=xf (Ch.out.trans hg2);have hsz2:=Ea.out.size;have Js:=im U0.out.1 c.Ap.length;have RY:0<=(C6 ls c.Ap.length).sum/\(C6 ls c.Ap.length).sum<=20:=by
     have:=rg (b:=5) (l:=C6 ls c.Ap.length) (λx hx=>by
      obtain⟨h,_,rfl⟩:=xW.1 hx;have:=dV ls ls.length h
      omega)
     rw[ef] at this;omega
    have HP:Hid (∀k,EX c ls k=decide ((c.h k).heads*(C6 ls c.Ap.length).sum<Bu ls ls.length k*BX c c.Ap.length)):=xf λk=>rfl;have U3:=xf (rj FD.out);generalize (C6 ls c.Ap.length).sum=all at RY HP;generalize BX c c.Ap.length=Me at UY HP;clear hg2 Js WW c0 c1 cl;obtain⟨⟨c0,c1⟩,cl⟩:=HC.out w2 Ea.out;go_wp2;obtain⟨w3,rfl⟩:∃w3:World,w3=w2:=⟨_,rfl⟩
    go_loopw [11,12] (λv i wr=>∃k:Nat,k<=c.Ap.length/\i=.int .i64 k/\Gr w3 wr/\wr.ownsRow w3.heap.size 3 1 v (AJ (EX c ls) k).length ((AJ (EX c ls) k).map (Value.int .i64))) (λ_ i _=>c.Ap.length-(intOf i).toNat)
    case atStart=>exact⟨0,by omega,rfl,.refl _,xZ _ _ _ _⟩
    case round =>
     obtain⟨k,hk,rfl,FP,hown⟩:=hrel;have Gt:=xf FP;have af4:=FP.size;have HO:=xf hown;clear c0 c1 cl;by_cases I8:k<c.Ap.length
     .obtain⟨⟨c0,c1⟩,cl⟩:=HC.out wr (Ea.out.trans FP);obtain⟨b,o,rfl,hb,b0,_⟩:=(HH.out.keep (w':=wr) λb o hb=>(B4.out.trans (Ea.out.trans FP)).cell (xl hb hB)).at_ I8;have hbl:b<wr.heap.size:=by have:=B4.out.size;omega
      have Sy:=xf (λW (hW:Gr wr W)=>gi gA gc ls k W B (Nb.out.gr hB ((B4.out.trans (Ea.out.trans Gt.out)).trans hW)) U0.out.1 U0.out.2);have hy:=dV ls ls.length k;have Ov:=xf (HP.out k);have Hd:=xf (cC (EX c ls) k);have abt:=cT (EX c ls) k;have UX:=DX.out.head I8;generalize Bu ls ls.length k=y at Sy hy Ov;generalize (c.h k).heads=z at b0 Ov UX;have JI:0<=y*Me/\y*Me<=20*160:=⟨Int.mul_nonneg hy.1 (by omega),Int.mul_le_mul (by omega) (by omega) (by omega) (by omega)⟩
      have Jl:0<=z*all/\z*all<=40*80:=⟨Int.mul_nonneg (by omega) RY.1,Int.mul_le_mul (by omega) (by omega) (by omega) (by omega)⟩;generalize hM1:y*Me=M1 at Ov JI;generalize NV:z*all=M2 at Ov Jl;have Eb:IntKind.i64.wrap M1=M1:=by simp[IntKind.wrap,IntKind.bits,IntKind.signed];omega
      have hw2:IntKind.i64.wrap M2=M2:=by simp[IntKind.wrap,IntKind.bits,IntKind.signed];omega
      clear FP hy UX RY UY;generalize AJ (EX c ls) k=L at HO Hd abt hown;by_cases hgt:M2<M1
      .have JY:decide (M1 > M2)=true:=by simp;omega
       have HL:Hid (AJ (EX c ls) (k+1)=L++[(k:Int)]):=xf (by rw[Hd.out,Ov.out];simp[hgt]);have UZ:=xf (ar (w':=wr.drew) HO.out λ_ _ _=>rfl);clear hown;go_wp2;go_region_with (go_at_call 35;refine(Sy.out _ (by first|exact .refl _|exact(Gr.refl _).drew)).mono ?_;rintro e w5 ⟨rfl,rfl⟩)
       all_goals
        go_wp2_with (at_builtin;refine fX rfl _ _ rfl w3.heap.size _ _ _ rfl (UZ.out.alloc _) ⟨wr.heap.size,0,none⟩ 1 (.int .i64 k) rfl ?c1 rfl ?c2 ?c3 ?_)
        case c1=>exact xj _ _ _ _ rfl
        case c2=>omega
        case c3=>simp;omega
        intro v' w4 hown' hgrow hd;have Ju:=xf ((Gt.out.drew.alloc _).grown hgrow hd λq hq=>(HO.out.lt q hq).1);have HO4:Hid (w4.ownsRow w3.heap.size 3 1 v' (L++[(k:Int)]).length ((L++[(k:Int)]).map (Value.int .i64))):=xf (by simpa using hown');clear hown' hgrow hd;go_wp2;go_roundw
        case rel=>exact⟨k+1,by omega,by go_num,Ju.out,by rw[HL.out];exact HO4.out⟩
        case measure=>simp[intOf];omega
      .have JY:decide (M1 > M2)=false:=by simp;omega
       have HL:Hid (AJ (EX c ls) (k+1)=L):=xf (by rw[Hd.out,Ov.out];simp[hgt]);have UZ:=xf (ar (w':=wr.drew) HO.out λ_ _ _=>rfl);clear hown;go_wp2;go_region_with (go_at_call 35;refine(Sy.out _ (by first|exact .refl _|exact(Gr.refl _).drew)).mono ?_;rintro e w5 ⟨rfl,rfl⟩)
       all_goals
        go_wp2;go_roundw
        case rel=>exact⟨k+1,by omega,by go_num,Gt.out.drew,by rw[HL.out];exact UZ.out⟩
        case measure=>simp[intOf];omega
     .have E4:k=c.Ap.length:=by omega
      subst E4;have HF:=xf (zG hown);have OO:=xf (B4.out.trans (Ea.out.trans FP));rw[U3.out] at HF;obtain⟨A2,k2,rfl,Ct⟩:=HF.out;have LZ:=xf Ct;clear FP hown HF Ct;obtain⟨⟨c0,c1⟩,cl⟩:=HC.out wr (Ea.out.trans Gt.out);go_wp2;go_ret2;refine⟨OO.out,?_⟩;rw[if_pos FD.out];exact⟨_,_,rfl,LZ.out⟩
 .have FD:=xf h0;have hne:(Ay c ls != 0)=true:=by simpa using h0
  generalize hq:Ay c ls=e0 at hne;replace hq:=xf hq;clear h0;go_wp2;go_ret2;refine⟨Ex.out,?_⟩;rw[if_neg FD.out,hq.out]
  rfl
def mv (nA hA gA:Option Addr)(nc hc gc:Nat)(c:AD)(ls:List (List Int))(w:World)(B:Nat)(hB:B<=w.heap.size)(hn:RI w B nA c.Aq)(hh:BG w B hA c.Ap)(hg:BD w B gA ls)
  (DG:c.Aq.length<=4611686018427387904) (hl2:c.Ap.length<=4611686018427387904) (BU:∀h∈c.Ap,h.off.length<=4611686018427387904) (EY:ls.length<=4611686018427387904) (hl4:∀x∈ls,x.length<=4611686018427387904)
  (hF:Ay c ls≠0) :
  Calls An 12 #[AH nA hA c nc hc,.slice gA ls.length gc] w λe w'=>e=.returned (.tuple #[.slice none 0 0,.int .i64 (Ay c ls)])/\Gr w w':=by
 unfold AH;obtain⟨W0,hW0⟩:∃W0:World,W0=w.alloc (.cells #[.slice nA c.Aq.length nc,.slice hA c.Ap.length hc] 25):=⟨_,rfl⟩;have hg0:Gr w W0:=hW0▸(Gr.refl w).alloc _;have hz0:W0.heap.size=w.heap.size+1:=by rw[hW0];simp
 have HW:=xf hW0;have CW:=xf (dF nA hA gA nc hc gc c ls W0 B (by omega) (hn.gr hB hg0) (hh.keep λb o hb=>hg0.cell (xl hb hB)) (hg.gr hB hg0) DG hl2 BU EY hl4);have B4:=xf hg0;have FD:=xf hF;have hne:(Ay c ls != 0)=true:=by simpa using hF
 clear hW0 hg0 hn hh hg hl4 BU hF;go_enter Sq.func12,Tryz.ntmps12;unfold AH at CW;go_wp2_with fail;rw[<-HW.out];refine CW.out.mono ?_;rintro e w1 ⟨hg1,DD⟩;rw[if_neg FD.out] at DD;obtain⟨p,r,rfl⟩:=DD;have Ch:=xf (B4.out.trans hg1);clear hg1 CW;unfold BI;generalize hq:Ay c ls=e0 at hne;replace hq:=xf hq;go_wp2;go_ret2;exact⟨by rw[hq.out];rfl,Ch.out.alloc _⟩
def pE (nA hA gA:Option Addr)(nc hc gc:Nat)(c:AD)(ls:List (List Int))(w:World)(B:Nat)(hB:B<=w.heap.size)(hn:RI w B nA c.Aq)(hh:BG w B hA c.Ap)(hg:BD w B gA ls)
  (DG:c.Aq.length<=4611686018427387904) (hl2:c.Ap.length<=4611686018427387904) (BU:∀h∈c.Ap,h.off.length<=4611686018427387904) (EY:ls.length<=4611686018427387904) (hl4:∀x∈ls,x.length<=4611686018427387904)
  (hF:Ay c ls≠0) :
  Calls An 14 #[AH nA hA c nc hc,.slice gA ls.length gc] w λe w'=>e=.returned (.tuple #[.slice none 0 0,.int .i64 (Ay c ls)])/\Gr w w':=by
 unfold AH;obtain⟨W0,hW0⟩:∃W0:World,W0=w.alloc (.cells #[.slice nA c.Aq.length nc,.slice hA c.Ap.length hc] 25):=⟨_,rfl⟩;have hg0:Gr w W0:=hW0▸(Gr.refl w).alloc _;have hz0:W0.heap.size=w.heap.size+1:=by rw[hW0];simp
 have HW:=xf hW0;have CW:=xf (dF nA hA gA nc hc gc c ls W0 B (by omega) (hn.gr hB hg0) (hh.keep λb o hb=>hg0.cell (xl hb hB)) (hg.gr hB hg0) DG hl2 BU EY hl4);have B4:=xf hg0;have FD:=xf hF;have hne:(Ay c ls != 0)=true:=by simpa using hF
 clear hW0 hg0 hn hh hg hl4 BU hF;go_enter Sq.func14,Tryz.ntmps14;unfold AH at CW;go_wp2_with fail;rw[<-HW.out];refine CW.out.mono ?_;rintro e w1 ⟨hg1,DD⟩;rw[if_neg FD.out] at DD;obtain⟨p,r,rfl⟩:=DD;have Ch:=xf (B4.out.trans hg1);clear hg1 CW;unfold BI;generalize hq:Ay c ls=e0 at hne;replace hq:=xf hq;go_wp2;go_ret2;exact⟨by rw[hq.out];rfl,Ch.out.alloc _⟩
end Go.Proofs.Ao
