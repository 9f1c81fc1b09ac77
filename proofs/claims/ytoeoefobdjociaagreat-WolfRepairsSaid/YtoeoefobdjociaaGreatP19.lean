/- Parts of the proof. -/
import Derived.Test.YtoeoefobdjociaaGreatP18
import Derived.Deep.RegionHeld3
set_option linter.all false
set_option maxHeartbeats 3200000
set_option maxRecDepth 1000000
open Go renaming World->Z,Value->U,TypeId->G,execOp->bk,Oper->bo,Addr->bq,run_underlying->bD,Operand->b5,info_parts->cr,Deferred->cu,wpOp_mono->cw,Calls->cF,Exit->cK,Code->cL
open Go.Value renaming slice->Y,int->ak,pointer->ck
open Option renaming some->I,none->D
open List renaming range->F,range'->bb,eq_nil_iff_forall_not_mem->bh,filter_eq_nil_iff->br,nodup_cons->bw,filterMap_cons->b6,filter_eq_self->b7,filter_congr->b8,mem_range'_1->cf
open Bool renaming true->O,false->bn
open Go.Region renaming wanted->H,Mode->bc,ready->b9
open Go.Obj renaming cells->bl
open Go.IntKind renaming i64->bA
open Go.Oper renaming wp->bW
open Nat renaming strongRecOn->cq,sub_self->cE
namespace Go.Sq
open Go.Proofs
open Go.RowKit
def j9 (hb B:Nat)(A nA hA:Option bq)(cap nc hc:Nat)(l:List Int)(N n m:Nat)(w:Z)(h:Hand w hb B A cap l N)(hN:N<=100000)(hn:n<=64)(hm:m<=64) :
  cF DU 29 #[.pointer (I ⟨hb,0,D⟩),.agg #[Y nA n nc,Y hA m hc]] w λe w'=>∃v ls xs,e=.returned v/\Ec w' (w.heap.size+1) v ls xs/\ls.length=n/\(∀x∈ls,∃p,x=Eo p m)/\Hand w' hb B A cap l (N+n*m)/\KH hb w w':=by
 obtain⟨W0,zM⟩:∃W0:Z,W0=w.alloc (bl #[Y nA n nc,Y hA m hc] 25):=⟨_,rfl⟩;have zL:Gr w W0:=zM▸(Gr.refl w).alloc _;have aF:Hid (W0.heap.size=w.heap.size+1):=Ay (by rw[zM];simp);have HH:=Ay (h.gr zL);have zY:=h.lt;have HW:=Ay zM;have aP:=Ay zL
 have HC:Hid (W0.cell? ⟨w.heap.size,0,D⟩=I (Y nA n nc)/\W0.cell? ⟨w.heap.size,1,D⟩=I (Y hA m hc)):=Ay (by
  rw[zM,AE _ _ _ _ rfl,AE _ _ _ _ rfl];exact⟨rfl,rfl⟩)
 have aJ:Hid (∀W,KT (·=hb) W0 W->KT (·=hb) w W):=Ay λW hk=>⟨hk.os.trans zL.below.os,hk.tape.trans zL.below.tape,hk.output.trans zL.below.output,AH zL.drawn hk.drawn,AH zL.size hk.size,λb hb' zU=>(hk.block b (AC hb' zL.size) zU).trans (zL.below.block b hb')⟩;go_enter Sq.func29,Tryz.ntmps29;go_wp2;rw[<-HW.out];go_loopw [5,6] (λv i wr=>∃k:Nat,k<=n/\i=ak bA k/\∃ls xs,Ec wr (w.heap.size+1) v ls xs/\ls.length=k/\(∀x∈ls,∃p,x=Eo p m)/\Hand wr hb B A cap l (N+k*m)/\KH hb W0 wr) (λ_ i _=>n-(Proofs.intOf i).toNat)
 case atStart=>exact⟨0,by omega,rfl,[],[],Ec.nil _ _,rfl,λx hx=>by simp at hx,HH.out.more (by omega),KT.refl _ _⟩
 case round =>
  obtain⟨k,hk,rfl,ls,xs,aG,a7,hall,hh,a6⟩:=hrel;have zU:w.heap.size≠hb:=by omega
  have aI:=aF.out;have zp:wr.cell? ⟨w.heap.size,0,D⟩=I (Y nA n nc):=(AT (a6.block w.heap.size (by omega) zU)).trans HC.out.1;have zw:wr.cell? ⟨w.heap.size,1,D⟩=I (Y hA m hc):=(AT (a6.block w.heap.size (by omega) zU)).trans HC.out.2;have hz:w.heap.size<wr.heap.size:=by have:=a6.size;omega
  have HK:=Ay a6;have HO:=Ay aG;have aA:=Ay hall;clear a6 aG hall aI;by_cases hlk:k<n
  .have a8:=Ay (yw hb B A cap l (N+k*m) m wr hh (by have:k*m<=64*64:=Nat.mul_le_mul (by omega) hm;omega) hm);have HHR:=Ay hh;clear hh;go_wp2_with fail;refine a8.out.mono ?_;rintro e w2 ⟨v2,p,rfl,zm,hh,a6⟩;obtain⟨A2,c2,rfl,_⟩:=Dn zm;have aK:=Ay (HK.out.trans a6);have aH:=Ay (HO.out.keep' (w':=w2) λb hb1 zq=>a6.block b zq (by omega));have HOW:=Ay (Fe zm (show w.heap.size+1<=wr.heap.size by omega))
   have aB:=Ay hh;have zD:=a6.size;have hrow:=aH.out.row;clear a6 hh zm a8;rw[a7] at hrow;have aC:=Ay hrow;go_wp2_with (at_builtin;refine qp rfl _ _ rfl (w.heap.size+1) _ _ _ rfl (hrow.alloc _) ⟨w2.heap.size,0,D⟩ 1 (Y A2 (Eo p m).length c2) rfl ?c1 rfl ?c2 ?c3 ?_)
   case c1=>rw[Addr.add_lit,AE _ _ _ _ (by simp)];rfl
   case c2=>omega
   case c3=>simp;omega
   intro v' w3 hown' hgrow hd;have aL:=Ay (fo aK.out aC.out (by rw[aF.out];exact AA _) hgrow hd);have aM:=Ay ((dL aB.out aC.out (by omega) hgrow).more (M:=N+(k+1)*m) (by rw[Nat.succ_mul];omega));have aN:=Ay (aH.out.push (l:=Eo p m) HOW.out (λb hb'=>ae _ _ hb') (by simp) hgrow a7.symm hown');have aD:Hid (∀x∈ls++[Eo p m],∃p,x=Eo p m):=Ay λx hx=>by
    obtain hx|hx:=Bp.1 hx
    .exact aA.out x hx
    .simp at hx;exact⟨p,hx⟩
   go_wp2;go_roundw
   case rel=>exact⟨k+1,by omega,by go_num,_,_,aN.out,by simp[a7],aD.out,aM.out,aL.out⟩
   case measure=>simp[Proofs.intOf];omega
  .have aO:k=n:=by omega
   subst aO;have aB:=Ay hh;go_wp2;go_ret;exact⟨_,ls,xs,rfl,HO.out,a7,aA.out,aB.out,aJ.out _ HK.out⟩
def yx {l:List Int}{b:Nat}(h:∀x∈l,0<=x/\x<=b):0<=l.sum/\l.sum<=b*l.length:=by
 induction l with
 |nil=>simp
 |cons x l ih =>
  have h1:=h x (by simp);have h2:=ih λy hy=>h y (by simp[hy]);rw[List.sum_cons,AM,C9,Int.mul_add];omega
def GQ (ls:List (List Int)):Nat->Nat->Int
 |0,_=>0
 |k+1,h=>GQ ls k h+if(h:Int)∈ls[k]?.getD [] then 1 else 0
def sG (ls:List (List Int))(k h:Nat):0<=GQ ls k h/\GQ ls k h<=k:=by
 induction k with
 |zero=>simp[GQ]
 |succ k ih=>unfold GQ;split<;>omega
def lQ {l:List Int}{k:Nat}(hk:k<l.length)(n:Int):n∈l.take (k+1)↔n∈l.take k\/l[k]?.getD 0=n:=by
 rw[bz 0 l k hk,Bp,BS];constructor
 .rintro(h|h);exact .inl h;exact .inr h.symm
 .rintro(h|h);exact .inl h;exact .inr h.symm
def qy (l:List Int)(h:∀x∈l,0<=x)(x i:Nat):(l.foldl (λx h=>x ||| 2 ^ h.toNat) x).testBit i=(x.testBit i||decide ((i:Int)∈l)):=by
 induction l generalizing x with
 |nil=>simp
 |cons a l ih =>
  rw[B7,ih (λy hy=>h y (by simp[hy])),Nat.testBit_or,Nat.testBit_two_pow,Bool.or_assoc];congr 1;have h0:=h a (by simp);by_cases e:a.toNat=i
  .have:(i:Int)=a:=by omega
   simp[e,this]
  .have:¬(i:Int)=a:=by omega
   simp[e,this]
def xd {l:List Int}(h:∀x∈l,0<=x)(i:Nat):(GF l).testBit i=decide ((i:Int)∈l):=by
 unfold GF;rw[qy l h];simp
def sumTo (f:Nat->Int):Nat->Int
 |0=>0
 |k+1=>sumTo f k+f k
def yy {l:List Int}{m:Nat}(hl:∃p,l=Eo p m)(hm:m<=4):wl (GF l)=l:=by
 obtain⟨p,rfl⟩:=hl;have hn:∀x∈Eo p m,0<=x:=λx hx=>by obtain⟨n,rfl,_⟩:=FB.1 hx;omega
 have e:wl (GF (Eo p m))=Eo (GF (Eo p m)).testBit 4:=rfl;rw[e];unfold Eo;have h1:(F 4).filter (GF (((F m).filter p).map λn:Nat=>(n:Int))).testBit=(F m).filter p:=by
  have h2:(F 4)=F m++(F (4-m)).map (m+·):=by
   rw[<-List.range_add];congr 1;omega
  have hb:∀i:Nat,(GF (((F m).filter p).map λn:Nat=>(n:Int))).testBit i=decide ((i:Int)∈Eo p m):=λi=>xd hn i;rw[h2,CI];have h3:(F m).filter (GF (((F m).filter p).map λn:Nat=>(n:Int))).testBit=(F m).filter p:=by
   refine b8 λi hi=>?_;rw[hb];have hi:=Bu.1 hi;cases hp:p i with
   |true=>exact BE (FB.2 ⟨i,rfl,hi,hp⟩)
   |false =>
    refine Bx λh=>?_;obtain⟨n,e,_,h⟩:=FB.1 h;obtain rfl:i=n:=by omega
    rw[hp] at h;cases h
  rw[h3];have h4:((F (4-m)).map (m+·)).filter (GF (((F m).filter p).map λn:Nat=>(n:Int))).testBit=[]:=by
   refine br.2 λi hi=>?_;obtain⟨k,_,rfl⟩:=Bf.1 hi;rw[hb];intro h;obtain⟨n,e,h1,_⟩:=FB.1 (B3 h);omega
  rw[h4,B6]
 rw[h1]
structure CO (w0:Z)(hb B:Nat)(A:Option bq)(cap:Nat)(l:List Int)(M base:Nat)(v:U)(ns:List Int)(W:Z):Prop where
 hand:Hand W hb B A cap l M
 GR:W.heap[w0.heap.size+1]?=I (bl #[v,.slice D 0 0] 25 (0,0))
 IB:W.heap[w0.heap.size]?=I (bl #[.slice D 0 0,.slice D 0 0] 25 (0,0))
 own:W.ownsRow base 3 1 v ns.length (ns.map (ak bA))
 kt:KT (·=hb) w0 W
 lt:hb<w0.heap.size
 bs:w0.heap.size+2<=base/\base<=W.heap.size
section
variable {w0 W W':Z} {hb B:Nat} {A:Option bq} {cap:Nat} {l:List Int} {M base:Nat} {v:U} {ns:List Int}
def CO.drew (h:CO w0 hb B A cap l M base v ns W):CO w0 hb B A cap l M base v ns W.drew :=
 ⟨h.hand.gr (Gr.refl W).drew,h.GR,h.IB,ar h.own λ_ _ _=>rfl,⟨h.kt.os,h.kt.tape,h.kt.output,CZ h.kt.drawn,h.kt.size,h.kt.block⟩,h.lt,h.bs⟩
def CO.alloc (h:CO w0 hb B A cap l M base v ns W)(o:Obj):CO w0 hb B A cap l M base v ns (W.alloc o) :=
 ⟨h.hand.gr ((Gr.refl W).alloc o),(ae _ _ (Az.1 h.GR).1).trans h.GR,(ae _ _ (Az.1 h.IB).1).trans h.IB,h.own.alloc o,h.kt.trans (KT.E4 ((Gr.refl W).alloc o)),h.lt,by have:=h.bs;simp;omega⟩
def CO.Kw (h:CO w0 hb B A cap l M base v ns W){M':Nat}(hh:Hand W' hb B A cap l M')(k:KT (·=hb) W W'):CO w0 hb B A cap l M' base v ns W' :=
 ⟨hh,(k.block _ (Az.1 h.GR).1 (by have:=h.lt;omega)).trans h.GR,(k.block _ (Az.1 h.IB).1 (by have:=h.lt;omega)).trans h.IB,mQ h.own (by have:=h.lt;have:=h.bs;omega) k,h.kt.trans k,h.lt,by have:=h.bs;have:=k.size;omega⟩
def Hand.set {W:Z}{hb B cap N:Nat}{A:Option bq}{l:List Int}(h:Hand W hb B A cap l N){p:bq}(hp:hb<p.block)(x:U):Hand (W.setCell p x) hb B A cap l N:=by
 obtain⟨n,s,h1,h2⟩:=h.obj;have hB:=h.apart;exact⟨⟨n,s,(AR _ _ _ _ (by omega)).trans h1,h2⟩,h.NB.keep λb o hb'=>AT (AR _ _ _ _ (by show b≠p.block;omega)),hB⟩
def KT.set {w0 W:Z}{hb:Nat}(h:KT (·=hb) w0 W){p:bq}(hp:w0.heap.size<=p.block)(x:U):KT (·=hb) w0 (W.setCell p x) :=
 ⟨h.os,h.tape,h.output,h.drawn,by have:=h.size;simpa [World.setCell] using this,λb hb' zU=>(AR _ _ _ _ (by omega)).trans (h.block b hb' zU)⟩
def CO.more (h:CO w0 hb B A cap l M base v ns W){M':Nat}(hm:M<=M'):CO w0 hb B A cap l M' base v ns W:=⟨h.hand.more hm,h.GR,h.IB,h.own,h.kt,h.lt,h.bs⟩
def CO.push (h:CO w0 hb B A cap l M base v ns W){w6:Z}{o:Obj}{v':U}{z:Int}(zm:w6.ownsRow base 3 1 v' (ns++[z]).length ((ns++[z]).map (ak bA)))(hg:(W.alloc o).grownBy w6 v.ownBlock)(hd:(W.alloc o).drawn<=w6.drawn) :
  CO w0 hb B A cap l M base v' (ns++[z]) (w6.setCell ⟨w0.heap.size+1,0,D⟩ v'):=by
 have zY:=h.lt;have a6:=h.bs;have hq:=(FN h.own hg (w0.heap.size+1) (by omega) (Az.1 h.GR).1).trans h.GR;have hr:=(FN h.own hg w0.heap.size (by omega) (Az.1 h.IB).1).trans h.IB;refine⟨(dL h.hand h.own (by omega) hg).set (by show hb<w0.heap.size+1;omega) _,?_,(AR _ _ _ _ (by simp)).trans hr,ownsRow_setCell_below zm (by show w0.heap.size+1<base;omega) _,(fo h.kt h.own (by omega) hg hd).set (by show _<=w0.heap.size+1;omega) _,zY,a6.1,by have:=gF hg;simp[World.setCell];omega⟩
 exact aI hq
def Am {W:Z}{K:Nat->Prop}{a b:Int}(hK:K W.heap.size):IH (W.alloc (bl #[ak bA a,ak bA b] 3)) K (I ⟨W.heap.size,0,D⟩) [a,b]:=λ_=>⟨_,0,rfl,hK,λi x hx=>by
 rw[AE _ _ _ _ rfl]
 match i,hx with
 |0,hx=>cases hx;rfl
 |1,hx=>cases hx;rfl⟩
def An {W:Z}{K:Nat->Prop}{a:Int}(hK:K W.heap.size):IH (W.alloc (bl #[ak bA a] 3)) K (I ⟨W.heap.size,0,D⟩) [a]:=λ_=>⟨_,0,rfl,hK,λi x hx=>by
 rw[AE _ _ _ _ rfl]
 match i,hx with
 |0,hx=>cases hx;rfl⟩
def CO.room (h:CO w0 hb B A cap l M base v ns W)(o:Obj):W.heap.size≠hb/\W.heap.size<(W.alloc o).heap.size:=by
 have:=h.hand.lt;simp;omega
def CO.cell (h:CO w0 hb B A cap l M base v ns W):W.cell? ⟨w0.heap.size+1,0,D⟩=I v/\W.frozen? ⟨w0.heap.size+1,0,D⟩=bn/\w0.heap.size+1<W.heap.size:=⟨(D5 h.GR 0).1,(D5 h.GR 0).2,(Az.1 h.GR).1⟩
def fp {W W':Z}{K K':Nat->Prop}{A:Option bq}{q:List Int}(h:IH W K A q)(hk:∀b,K b->K' b)(hc:∀b o,K b->W'.cell? ⟨b,o,D⟩=W.cell? ⟨b,o,D⟩):IH W' K' A q:=λhn=>by
 obtain⟨b,o,e,h1,h2⟩:=h hn;exact⟨b,o,e,hk b h1,λi x hx=>(hc _ _ h1).trans (h2 i x hx)⟩
def gG {W W':Z}{K K':Nat->Prop}{A:Option bq}{q:List EG}(h:Gl W K A q)(hk:∀b,K b->K' b)(hc:∀b o,K b->W'.cell? ⟨b,o,D⟩=W.cell? ⟨b,o,D⟩):Gl W' K' A q:=λhn=>by
 obtain⟨b,o,e,h1,h2⟩:=h hn;refine⟨b,o,e,hk b h1,λi x hx=>?_⟩;obtain⟨k0,k1,k2,A',c,k3,k4⟩:=h2 i x hx;exact⟨(hc _ _ h1).trans k0,(hc _ _ h1).trans k1,(hc _ _ h1).trans k2,A',c,(hc _ _ h1).trans k3,fp k4 hk hc⟩
def cg (h:EG)(y:U):List Value:=[ak bA h.heads,ak bA h.E3,ak bA h.most,y]
structure CP (w0:Z)(hb B:Nat)(A:Option bq)(cap:Nat)(l:List Int)(M base:Nat)(v:U)(ns:List Int)(u:U)(hs:List EG)(xs:List U)(W:Z):Prop where
 hand:Hand W hb B A cap l M
 GR:W.heap[w0.heap.size+1]?=I (bl #[v,u] 25 (0,0))
 IB:W.heap[w0.heap.size]?=I (bl #[.slice D 0 0,.slice D 0 0] 25 (0,0))
 own:W.ownsRow base 3 1 v ns.length (ns.map (ak bA))
 Fx:W.ownsRow base 49 4 u hs.length xs
 I5:∀i h,hs[i]?=I h->∃y,(∀j,j<4->xs[i*4+j]?=(cg h y)[j]?)/\W.ownsRow base 3 1 y h.off.length (h.off.map (ak bA))
 kt:KT (·=hb) w0 W
 lt:hb<w0.heap.size
 bs:w0.heap.size+2<=base/\base<=W.heap.size
variable {u:U} {hs:List EG} {xs:List U}
def CO.cp (h:CO w0 hb B A cap l M base v ns W):CP w0 hb B A cap l M base v ns (.slice D 0 0) [] [] W :=
 ⟨h.hand,h.GR,h.IB,h.own,Bw _ _ _ _,λi h hi=>by simp at hi,h.kt,h.lt,h.bs⟩
def CP.keep (h:CP w0 hb B A cap l M base v ns u hs xs W){M':Nat}(hh:Hand W' hb B A cap l M')(hk:∀b,b<W.heap.size->b≠hb->W'.heap[b]?=W.heap[b]?)(kt:KT (·=hb) w0 W')(hz:W.heap.size<=W'.heap.size):CP w0 hb B A cap l M' base v ns u hs xs W':=by
 have zY:=h.lt;have a6:=h.bs;have ok:∀ {e:G} {sz n:Nat} {y:U} {zs:List U},W.ownsRow base e sz y n zs->W'.ownsRow base e sz y n zs:=λho=>ar ho λg hg hl=>hk g hl (by have:=(ho.lt g hg).1;omega);refine⟨hh,(hk _ (Az.1 h.GR).1 (by omega)).trans h.GR,(hk _ (Az.1 h.IB).1 (by omega)).trans h.IB,ok h.own,ok h.Fx,λi x hi=>?_,kt,zY,by omega⟩;obtain⟨y,h1,h2⟩:=h.I5 i x hi;exact⟨y,h1,ok h2⟩
def CP.Kw (h:CP w0 hb B A cap l M base v ns u hs xs W){M':Nat}(hh:Hand W' hb B A cap l M')(k:KT (·=hb) W W'):CP w0 hb B A cap l M' base v ns u hs xs W' :=
 h.keep hh (λb hb' zU=>k.block b hb' zU) (h.kt.trans k) k.size
def CP.alloc (h:CP w0 hb B A cap l M base v ns u hs xs W)(o:Obj):CP w0 hb B A cap l M base v ns u hs xs (W.alloc o) :=
 h.keep (h.hand.gr ((Gr.refl W).alloc o)) (λb hb' _=>ae _ _ hb') (h.kt.trans (KT.E4 ((Gr.refl W).alloc o))) (by simp)
def CP.more (h:CP w0 hb B A cap l M base v ns u hs xs W){M':Nat}(hm:M<=M'):CP w0 hb B A cap l M' base v ns u hs xs W:=⟨h.hand.more hm,h.GR,h.IB,h.own,h.Fx,h.I5,h.kt,h.lt,h.bs⟩
def CP.cell (h:CP w0 hb B A cap l M base v ns u hs xs W):W.cell? ⟨w0.heap.size+1,1,D⟩=I u/\W.frozen? ⟨w0.heap.size+1,1,D⟩=bn/\w0.heap.size+1<W.heap.size:=⟨(D5 h.GR 1).1,(D5 h.GR 1).2,(Az.1 h.GR).1⟩
def CP.push (h:CP w0 hb B A cap l M base v ns u hs xs W){w6:Z}{o:Obj}{u' y:U}{x:EG}(hy:W.ownsRow base 3 1 y x.off.length (x.off.map (ak bA)))(zm:w6.ownsRow base 49 4 u' (hs.length+1) (xs++cg x y))(hg:(W.alloc o).grownBy w6 u.ownBlock)(hd:(W.alloc o).drawn<=w6.drawn) :
  CP w0 hb B A cap l M base v ns u' (hs++[x]) (xs++cg x y) (w6.setCell ⟨w0.heap.size+1,1,D⟩ u'):=by
 have zY:=h.lt;have a7:=h.bs;have a8:xs.length=hs.length*4:=h.Fx.1;have hq:=(FN h.Fx hg (w0.heap.size+1) (by omega) (Az.1 h.GR).1).trans h.GR;have hr:=(FN h.Fx hg w0.heap.size (by omega) (Az.1 h.IB).1).trans h.IB;have ok:∀ {n:Nat} {z:U} {zs:List U},W.ownsRow base 3 1 z n zs->(w6.setCell ⟨w0.heap.size+1,1,D⟩ u').ownsRow base 3 1 z n zs:=λho=>ar ho λg a6 hl =>
  (AR _ _ _ _ (by have:=(ho.lt g a6).1;show g≠w0.heap.size+1;omega)).trans ((hg.block g (by simp;omega) (cj (by decide) ho h.Fx a6)).trans (ae _ _ hl))
 refine⟨(dL h.hand h.Fx (by omega) hg).set (by show hb<w0.heap.size+1;omega) _,?_,(AR _ _ _ _ (by simp)).trans hr,ok h.own,?_,λi z hi=>?_,(fo h.kt h.Fx (by omega) hg hd).set (by show _<=w0.heap.size+1;omega) _,zY,a7.1,by have:=gF hg;simp[World.setCell];omega⟩
 .exact aI hq
 .rw[BH];exact ownsRow_setCell_below zm (by show w0.heap.size+1<base;omega) _
 .obtain hi'|hi':=Br i hs.length
  .rw[Bl hi'] at hi;obtain⟨y',h1,h2⟩:=h.I5 i z hi;exact⟨y',λj hj=>by rw[Bl (by omega)];exact h1 j hj,ok h2⟩
  .have e : i = hs.length := by
    have:=(AV.1 hi).1;simp at this;omega
   subst e;rw[Bo (AA _)] at hi;simp at hi;subst hi;exact⟨y,λj hj=>by rw[Bo (by omega),a8];congr 1;omega,ok hy⟩
def CP.F4 (h:CP w0 hb B A cap l M base v ns u hs xs W):∃nA nc hA hc,v=Y nA ns.length nc/\u=Y hA hs.length hc/\IH W (λb=>base<=b/\b<W.heap.size) nA ns/\Gl W (λb=>base<=b/\b<W.heap.size) hA hs:=by
 obtain⟨nA,nc,e1,h1⟩:=Hm h.own;obtain⟨rfl,h0⟩|⟨g,hc,cur,rfl,hgb,zK,_⟩:=h.Fx.2
 .have:hs=[]:=Bc h0;subst this;exact⟨nA,nc,D,0,e1,rfl,h1,λhn=>AI rfl hn⟩
 .refine⟨nA,nc,I ⟨g,0,D⟩,hc,e1,rfl,h1,λ_=>⟨g,0,rfl,⟨hgb,(Az.1 zK).1⟩,λi x hi=>?_⟩⟩;obtain⟨y,hj,ho⟩:=h.I5 i x hi;obtain⟨A',c',rfl,hr⟩:=Hm ho;have hcell:=h.Fx.cells (g:=g) rfl;have at_:∀j z,j<4->(cg x (Y A' x.off.length c'))[j]?=I z->W.cell? ⟨g,0+i*4+j,D⟩=I z:=λj z a6 hz=>by
   have:=hcell (i*4+j) z ((hj j a6).trans hz);have e:(⟨g,0,D⟩:bq).add (i*4+j)=⟨g,0+(i*4+j),D⟩:=by unfold Addr.add;split<;>simp_all
   rw[e,<-CV] at this;exact this
  exact⟨at_ 0 _ (by omega) rfl,at_ 1 _ (by omega) rfl,at_ 2 _ (by omega) rfl,A',c',at_ 3 _ (by omega) rfl,hr⟩
end
def sH {w:Z}{ops:Array bo}{o:bo}{a:Act}{K:Act->Z->Prop}{Q:cK->Act->Z->Prop}{E:Prop}(hgd:o.guard=D)(h:bW DU o a w K Q):if H o (yielded ops a.tmps)=O then bW DU o a w K Q else E:=by
 have hw:H o (yielded ops a.tmps)=true:=by simp[H,hgd]
 rw[AF hw];exact h
def qz {w:Z}{ops:Array bo}{o:bo}{a:Act}{K:Act->Z->Prop}{Q:cK->Act->Z->Prop}{E:Prop}(hgd:o.guard=D)(s x:b5)(ho:o.op=.call { callee:=.builtin .append,args:=#[s,x],argTypes:=#[22,22] })(a6:o.type=22)
  (base:Nat) (v:U) (n:Nat) (xs:List U) (hs:a.eval s=v) (zm:w.ownsRow base 3 1 v n xs) (y:U) (h1:y.oneCell'=O) (hx:a.eval x=.slice (I ⟨w.heap.size,0,D⟩) 1 1) (hn:n<=1048576) (hbase:base<=w.heap.size)
  (h:∀v' w',w'.ownsRow base 3 1 v' (n+1) (xs++[y])->(w.alloc (bl #[y] 3)).grownBy w' v.ownBlock->(w.alloc (bl #[y] 3)).drawn<=w'.drawn->K (a.put o.dst v') w') :
  if H o (yielded ops a.tmps)=O then bW DU o a (w.alloc (bl #[y] 3)) K Q else E:=by
 have hw:H o (yielded ops a.tmps)=true:=by simp[H,hgd]
 rw[AF hw];obtain⟨i0,hi,zF,zE,zD⟩:=cr Ds
 obtain⟨v',w',hr,h2,h3,h4⟩:=run_append_own (P:=DU) (w.alloc (bl #[y] 3)) base 22 22 3 i0 _ 1 8 ((Sq.underlying 22).trans Tryz.underlying22) hi zF zE zD rfl (by decide) v n xs (zm.alloc _) ⟨w.heap.size,0,D⟩ 1 1 [y] rfl (λj u hj=>by
  match j,hj with
  |0,hj=>cases hj;rw[Addr.add_lit,AE _ _ _ _ (by simp)];rfl) (λu hu=>by simp at hu;subst hu;exact h1) (by unfold maxLen;omega) (by omega) (by simp;omega)
 have hd:=Go.Eu.Gf DU (Builtin.append_ #[22,22] 22 #[v,.slice (I ⟨w.heap.size,0,D⟩) 1 1]) (w.alloc (bl #[y] 3)) #[];rw[Sem.runT_fst,hr] at hd;unfold bW bk;simp only[ho,resolve,invoke,builtin,Sem.run_bind,Sem.run_pure,Result.andThen_ok,Cr,Cd,CG,hs,hx,hr,a6];exact h v' w' h2 h3 hd
def zi {w:Z}{ops:Array bo}{rest:List bo}{o:bo}{a:Act}{Q:cK->Act->Z->Prop}(hgd:o.guard=D)(s x:b5)(ho:o.op=.call { callee:=.builtin .append,args:=#[s,x],argTypes:=#[23,23] })
  (base:Nat) (v:U) (n:Nat) (xs:List U) (hs:a.eval s=v) (zm:w.ownsRow base 49 4 v n xs) (ad:bq) (c:Nat) (news:List U) (hx:a.eval x=.slice (I ad) 1 c) (h4:news.length=4) (hc:∀(j:Nat) (u:U),news[j]?=I u->w.cell? (ad.add j)=I u) (h1:∀u∈news,u.oneCell'=O)
  (hn:n<=1048576) (hbase:base<=w.heap.size) (h:∀v' w',w'.ownsRow base 49 4 v' (n+1) (xs++news)->w.grownBy w' v.ownBlock->w.drawn<=w'.drawn->wpList DU ops Q rest (a.put o.dst v') w'):wpList DU ops Q (o::rest) a w:=by
 obtain⟨i0,hi,zF,zE,zD⟩:=cr Dy;exact EA hgd s x 23 ho base 49 i0 _ 4 48 Sq.underlying23 hi zF zE zD rfl (by decide) v n xs hs zm ad 1 c news hx (by omega) hc h1 (by unfold maxLen;omega) (by omega) hbase h
open Go.Eu (iC j5 i9)
def NF:cL->cL
 |.seq _ c=>c
 |c=>c
def L6:cL->cL
 |.seq c _=>c
 |c=>c
def Jv:Nat->cL->cL
 |0,c=>c
 |n+1,c=>Jv n (NF c)
def _root_.Go.Sq.RI.on {w w':Z}{A:Option bq}{l:List Int}(h:RI w w.heap.size A l)(hg:Gr w w'):RI w' w'.heap.size A l:=(h.gr (AA _) hg).more hg.size
structure Made (c:D9)(nA hA gA:Option bq)(cb:Nat)(nc hc:Nat)(ls:List (List Int))(W:Z):Prop where
 lt:cb<W.heap.size
 c0:W.cell? ⟨cb,0,D⟩=I (Y nA c.DW.length nc)
 c1:W.cell? ⟨cb,1,D⟩=I (Y hA c.DV.length hc)
 DW:RI W W.heap.size nA c.DW
 Fx:EN W W.heap.size hA c.DV
 grid:ER W W.heap.size gA ls
def RI.cell' {w:Z}{B:Nat}{ad:bq}{l:List Int}(h:RI w B (I ad) l)(hB:B<=w.heap.size):∀j u,(l.map (ak bA))[j]?=I u->w.cell? (ad.add j)=I u/\(ad.add j).block<w.heap.size:=λj u hj=>by
 rw[BK] at hj;cases hx:l[j]? with
 |none=>rw[hx] at hj;cases hj
 |some x =>
  rw[hx] at hj;obtain⟨b,o,e,hb,hc⟩:=h (λe=>by rw[e] at hx;simp at hx);obtain rfl:ad=⟨b,o,D⟩:=by injection e
  have e2:(⟨b,o,D⟩:bq).add j=⟨b,o+j,D⟩:=Addr.add_lit _ _ _;rw[e2];exact⟨by rw[hc j x hx];exact hj,by show b<_;omega⟩
def gH (A:Option bq)(c:Nat)(l:List Int)(w:Z)(B:Nat)(h:RI w B A l)(hB:B<=w.heap.size)(hl:l.length<=1048576) :
  cF DU 31 #[Y A l.length c] w λe w'=>∃v,e=.returned v/\w'.ownsRow w.heap.size 3 1 v l.length (l.map (ak bA))/\Gr w w':=by
 obtain⟨i0,hi,zF,zE,zD⟩:=cr Ds;have HR:=Ay h;cases A with
 |none =>
  have hl0:l=[]:=by
   cases l with
   |nil=>rfl
   |cons x l=>obtain⟨_,_,e,_⟩:=HR.out (by simp);cases e
  subst hl0;go_enter Sq.func31,Tryz.ntmps31;go_wp2;go_ret;exact⟨_,rfl,CW w #[] 0 (AA _) (AU _) rfl,(Gr.refl w).alloc _⟩
 |some ad =>
  have HC:=Ay (HR.out.cell' hB);go_enter Sq.func31,Tryz.ntmps31;go_wp2_with (at_builtin;refine EA rfl _ _ 22 rfl w.heap.size 3 i0 (ak bA 0) 1 8 Sq.underlying22 hi zF zE zD rfl (by decide) _ _ _ rfl (CW w #[] 0 (AA _) (AU _) rfl) ad l.length c (l.map (ak bA)) rfl ?qc1 ?qc2 ?qc3 ?qc4 ?qc5 ?qc6 ?_)
  case qc1=>simp
  case qc2=>intro j u hj;exact(AT (Cs _ _ _ (HC.out j u hj).2)).trans (HC.out j u hj).1
  case qc3=>intro u hu;obtain⟨x,_,rfl⟩:=Bf.1 hu;rfl
  case qc4=>unfold maxLen;omega
  case qc5=>omega
  case qc6=>simp
  intro v' w1 zm hgrow hd;have hG:=Ay (((Gr.refl w).alloc _).grown hgrow hd (by intro k hk;simp[Value.ownBlock] at hk;omega));have hO:=Ay zm;go_wp2;go_ret;exact⟨v',rfl,by simpa using hO.out,hG.out⟩
def _root_.Go.Sq.Apart (xs:List U):Prop:=∀(i j:Nat) (u v:U) (g:Nat),i<j->xs[i]?=I u->xs[j]?=I v->v.ownBlock=I g->u.ownBlock≠I g
def _root_.Go.Sq.Apart.push {xs:List U}{v:U}{B:Nat}(h:Apart xs)(hb:∀u∈xs,∀g,u.ownBlock=I g->g<B)(hv:∀g,v.ownBlock=I g->B<=g):Apart (xs++[v]):=λi j u v' g a6 hi hj hg hu=>by
 have a7:=(AV.1 hj).1;rw[BH,List.length_singleton] at a7;rw[Bl (by omega)] at hi;by_cases hjx:j<xs.length
 .rw[Bl hjx] at hj;exact h i j u v' g a6 hi hj hg hu
 .obtain rfl:j=xs.length:=by omega
  rw[Bo (AA _),cE] at hj;cases hj;have h1:=hb u (B5 hi) g hu;have h2:=hv g hg;omega
def _root_.Go.Sq.Ec.lts {w:Z}{base:Nat}{v:U}{ls:List (List Int)}{xs:List U}(h:Ec w base v ls xs):∀u∈xs,∀g,u.ownBlock=I g->g<w.heap.size:=λu hu g hg=>by
 obtain⟨i,hi,rfl⟩:=Cc.1 hu;have hl:xs.length=ls.length:=by have:=h.row.1;omega
 obtain⟨z,h1,h2⟩:=h.cells i ls[i] (AB (by omega));rw[AB hi] at h1;injection h1 with h1
 subst h1;exact(h2.lt g hg).2
def nZ (A:Option bq)(c:Nat)(ls:List (List Int))(w:Z)(h:ER w w.heap.size A ls)(hl:ls.length<=1048576)(zC:∀x∈ls,x.length<=1048576) :
  cF DU 12 #[Y A ls.length c] w λe w'=>∃v xs,e=.returned v/\Ec w' w.heap.size v ls xs/\Gr w w'/\Apart xs:=by
 have HG:=Ay h;have aI:=Ay zC;go_enter Sq.func12,Tryz.ntmps12;go_wp2;go_loopw [3,4] (λv i wr=>∃k:Nat,k<=ls.length/\i=ak bA k/\∃xs,Ec wr w.heap.size v (ls.take k) xs/\Gr w wr/\Apart xs) (λ_ i _=>ls.length-(Proofs.intOf i).toNat)
 case atStart=>exact⟨0,by omega,rfl,[],Ec.nil _ _,.refl _,λi j u v g _ h=>by simp at h⟩
 case round =>
  obtain⟨k,hk,rfl,xs,a6,zV,hap⟩:=hrel;have a7:=Ay hap;have aJ:=Ay (a6.lts);have HO:=Ay a6;have a8:=Ay zV;by_cases zY:k<ls.length
  .obtain⟨b,o,A',c',rfl,hb,hc,aA⟩:=(HG.out.gr (AA _) zV).at_ zY;have aB:=aI.out _ (show ls[k]?.getD []∈ls by rw[AB zY];exact Bh zY);have aC:Hid (ls.take (k+1)=ls.take k++[ls[k]?.getD []]):=Ay (by rw[BZ,AB zY];rfl);have hTL:(ls.take k).length=k:=by rw[CT];omega
   generalize ls[k]?.getD []=row at hc aA aB aC;have aK:=Ay (gH A' c' row wr w.heap.size aA (by have:=zV.size;omega) aB);have hz:=zV.size;go_wp2_with fail;refine aK.out.mono ?_;rintro e w2 ⟨v2,rfl,hown2,zI⟩;obtain⟨A2,c2,rfl,_⟩:=Dn hown2;have aG:=Ay (a7.out.push (v:=Y A2 row.length c2) aJ.out λg hg=>(hown2.lt g hg).1);have aD:=Ay (HO.out.keep' (w':=w2) λb _ hb=>zI.below.block b hb)
   have HOW:=Ay (Fe hown2 hz);have aF:=Ay (a8.out.trans zI);have hrow:=aD.out.row;rw[hTL] at hrow;have aH:=Ay hrow;go_wp2_with (at_builtin;refine qp rfl _ _ rfl w.heap.size _ _ _ rfl (hrow.alloc _) ⟨w2.heap.size,0,D⟩ 1 (Y A2 row.length c2) rfl ?c1 rfl ?c2 ?c3 ?_)
   case c1=>rw[Addr.add_lit,AE _ _ _ _ (by simp)];rfl
   case c2=>omega
   case c3=>have:=aF.out.size;simp;omega
   intro v' w3 hown' hgrow hd;have aL:=Ay ((aF.out.alloc _).grown hgrow hd λq hq=>(aH.out.lt q hq).1);have aM:=Ay (aD.out.push (l:=row) HOW.out (λb hb'=>ae _ _ hb') (by simp) hgrow hTL.symm hown');go_wp2;go_roundw
   case rel=>exact⟨k+1,by omega,by go_num,_,by rw[aC.out];exact aM.out,aL.out,aG.out⟩
   case measure=>simp[Proofs.intOf];omega
  .have aN:k=ls.length:=by omega
   subst aN;rw[Ct] at a6;have HF:=Ay a6;go_wp2;go_ret;exact⟨_,xs,rfl,HF.out,a8.out,a7.out⟩
def kg (A:Option bq)(c:Nat)(ls:List (List Int))(w:Z)(h:ER w w.heap.size A ls)(hl:ls.length<=1048576)(zC:∀x∈ls,x.length<=1048576) :
  cF DU 12 #[Y A ls.length c] w λe w'=>∃v xs,e=.returned v/\Ec w' w.heap.size v ls xs/\Gr w w' :=
 (nZ A c ls w h hl zC).mono λe w' ⟨v,xs,h1,h2,h3,_⟩=>⟨v,xs,h1,h2,h3⟩
open Go.Eu (iC j5 i9)
def Ky {α:Type}(r:Nat->α)(i:Nat)(v:α):Nat->α:=λj=>if j=i then v else r j
def aV {α:Type}(r:Nat->α)(i:Nat)(v:α):Ky r i v i=v:=AF rfl
def Fh {α:Type}{r:Nat->α}{i j:Nat}{v:α}(h:j≠i):Ky r i v j=r j:=AD h
def T (n:Nat)(u:Nat->U):Array Value:=((F n).map u).toArray
def Ao {l:List U}:l.toArray=T l.length λi=>l[i]?.getD undef:=by
 unfold T;congr 1;refine List.ext_getElem (by simp) λi h1 h2=>?_;simp[h1]
def iF {P:Program}{c:cL}{Q:cK->Act->Z->Prop}{l:List U}{ds:List cu}{w:Z}(n:Nat)(hn:l.length=n)(h:∀u:Nat->U,(∀i,u i=l[i]?.getD undef)->c.wp P Q ⟨T n u,ds⟩ w):c.wp P Q ⟨l.toArray,ds⟩ w:=by
 rw[Ao,hn];exact h _ λ_=>rfl
open Go.Eu
variable {P:Program} {ops:Array bo} {Q:cK->Act->Z->Prop} {n m:Nat} {u:Nat->U} {ds:List cu} {w:Z}
def gI {t:Nat}(h:t<n):(T n u)[t]?=I (u t):=by simp[T,h]
def Jj:(T n u).size=n:=by simp[T]
def dM {t:Nat}(h:t<n):(⟨T n u,ds⟩:Act).eval (.tmp t)=u t:=by
 show(T n u).getD t undef=u t;rw[BY,gI h];rfl
def z8 {d:Nat}{v:U}:(T n u).setIfInBounds d v=T n (Ky u d v):=by
 refine Array.ext (by rw[Array.size_setIfInBounds,Jj,Jj]) λi h1 h2=>?_;rw[Jj] at h2;have e1:(T n (Ky u d v))[i]?=I (Ky u d v i):=gI h2;have e2:((T n u).setIfInBounds d v)[i]?=I (Ky u d v i):=by
  rw[Ch];split
  .rename_i e;subst e;rw[AF (by rw[Jj];exact h2),aV]
  .rename_i e;rw[gI h2,Fh (Ne.symm e)]
 rw[AK h1] at e2;rw[AK (by rw[Jj];exact h2)] at e1;injection e1 with e1
 injection e2 with e2
 rw[e1,e2]
def GH (u:Nat->U):Option Nat->U->Nat->U
 |some d,v=>Ky u d v
 |none,_=>u
def gJ {d:Option Nat}{v:U}:(⟨T n u,ds⟩:Act).put d v=⟨T n (GH u d v),ds⟩:=by
 cases d with
 |none=>rfl
 |some d=>show Act.mk _ _=_;rw[z8];rfl
class Rfl (R:Z->Z->Prop):Prop where
 refl:∀w,R w w
class Goes (R:Z->Z->Prop):Prop extends Rfl R where
 trans:∀ {a b c},R a b->R b c->R a c
 drew:∀w,R w w.drew
instance:Goes Gr:={ refl:=Gr.refl,trans:=Gr.trans,drew:=λw=>(Gr.refl w).drew }
variable {R:Z->Z->Prop}
def Done (R:Z->Z->Prop)(P:Program)(ops:Array bo)(Q:cK->Act->Z->Prop)(n:Nat)(ds:List cu)(i:Nat)(V:U->Z->Prop)(u:Nat->U)(w:Z):Prop :=
 wpOp P ops Q i (λa' w'=>∃v,a'=⟨T n (GH u ((ops[i]?).bind (·.dst)) v),ds⟩/\R w w'/\V v w') ⟨T n u,ds⟩ w
def Done.weak {R R':Z->Z->Prop}{i:Nat}{V:U->Z->Prop}(hR:∀w',R w w'->R' w w')(h:Done R P ops Q n ds i V u w):Done R' P ops Q n ds i V u w :=
 cw (λ_ _ ⟨v,h1,h2,h3⟩=>⟨v,h1,hR _ h2,h3⟩) h
def Till (R:Z->Z->Prop)(J:Z->Prop)(c i:Nat)(w w':Z):Prop:=R w w'/\(i≠c->J w->J w')
def FL (ops:Array bo)(t:Nat):Bool:=ops.all λo=>o.dst != I t
structure Qs (md:bc)(ops:Array bo)(m:Nat):Prop where
 lt:∀i,i<ops.size->∀j∈JA md ops i,j<i
 one:∀(i j:Nat) (oi oj:bo) (d:Nat),i<j->ops[i]?=I oi->ops[j]?=I oj->oi.dst=I d->oj.dst≠I d
 last:m=ops.size\/Pf md ops m
def Nc (md:bc)(ops:Array bo)(m:Nat):Bool :=
 (F ops.size).all (λi=>(JA md ops i).all λj=>decide (j<i))&&decide ((ops.toList.filterMap (·.dst)).Nodup)&&(decide (m=ops.size)||mR md ops m)
def yz {md:bc}(h:Nc md ops m=O):Qs md ops m:=by
 simp only[Nc,AN,Bm,Bz,Bu,decide_eq_true_eq] at h;obtain⟨⟨h1,h2⟩,h3⟩:=h;refine⟨h1,λi j oi oj d a6 hi hj hd hdj=>?_,h3.imp id xe⟩;obtain⟨l⟩:=ops;simp only[Bg] at hi hj;dsimp only at h2;clear h1 h3
 induction l generalizing i j with
 |nil=>simp at hi
 |cons o l ih =>
  cases i with
  |zero =>
   simp only[Bd,Option.some.injEq] at hi;subst hi;rw[b6,hd] at h2;have:=(bw.1 h2).1;refine this (List.mem_filterMap.2 ⟨oj,?_,hdj⟩);cases j with
   |zero=>omega
   |succ j=>exact B5 (by simpa using hj)
  |succ i =>
   cases j with
   |zero=>omega
   |succ j =>
    refine ih i j (by omega) ?_ (by simpa using hi) (by simpa using hj);rw[b6] at h2;cases ho:o.dst with
    |none=>rw[ho] at h2;exact h2
    |some x=>rw[ho] at h2;exact(bw.1 h2).2
def bV {l:Array Bool}{i j:Nat}(hs:i<l.size){b:Bool}:(l.setIfInBounds i O).getD j b=if j=i then O else l.getD j b:=by
 rw[BY,Ch,BY];by_cases e:i=j
 .subst e;simp[hs]
 .rw[AD e,AD (Ne.symm e)]
def qB {md:bc}(L:Pf md ops m){k:Nat}{listed:Array Bool}(hk:k<ops.size)(hm:m<=k)(hs:listed.size=ops.size)(hl:∀i,i<ops.size->listed.getD i O=decide (i<k)):b9 md ops listed=[k]:=by
 have hd:∀j,j<ops.size->(listed.getD j bn=O↔j<k):=λj hj=>by
  rw[<-dV (by omega),hl j hj];simp
 refine filter_one hk λi hi=>?_;have a6:=Im (md:=md) (ops:=ops) (listed:=listed) (i:=i);unfold b9 at a6;rw[Ca,Bu] at a6;have:_↔_:=⟨λh=>(a6.1 ⟨hi,h⟩).2,λh=>(a6.2 ⟨hi,h⟩).2⟩;rw[this,hl i hi];constructor
 .rintro⟨h1,h2⟩;have h1:¬i<k:=by simpa using h1
  by_cases e:i=k
  .exact e
  .have:=(hd (i-1) (by omega)).1 (h2 _ (L.next i (by omega) hi));omega
 .rintro rfl;exact⟨by simp,λj hj=>(hd j (Nat.lt_trans (L.lt i hi j hj) hi)).2 (L.lt i hi j hj)⟩
def mS {l:List Nat}(h:l.Nodup)(i:Nat):l.erase i=l.filter (· != i):=by
 induction l with
 |nil=>rfl
 |cons a l ih =>
  obtain⟨h1,h2⟩:=bw.1 h;rw[List.erase_cons,List.filter_cons];by_cases e:a=i
  .subst e;simp only[beq_self_eq_true,if_true,bne_self_eq_false,AZ,if_false]
   exact(b7.2 λb hb=>by
    have:b≠a:=λe=>h1 (e▸hb)
    simpa using this).symm
  .have e1:(a==i)=false:=by simpa using e
   have e2:(a != i)=true:=by simpa using e
   rw[e1,e2];simp only[AZ,if_false,if_true];rw[ih h2]
def uD {md:bc}(L:Pf md ops m):∀(d k:Nat) (listed:Array Bool) (a:Act) (w:Z),k+d=ops.size->m<=k->listed.size=ops.size->(∀i,i<ops.size->listed.getD i O=decide (i<k))->wpOps P ops Q (bb k d) a w->wpAny P md ops Q d listed a w:=by
 intro d
 induction d with
 |zero =>
  intro k listed a w hk hm hs hl h;refine⟨bh.2 λi hi=>?_,h⟩;obtain⟨h1,h2,_⟩:=Im.1 hi;rw[hl i h1] at h2;simp at h2;omega
 |succ d ih =>
  intro k listed a w hk hm hs hl h;have hr:=qB L (by omega) hm hs hl;refine⟨λe=>(by rw[hr] at e;cases e),λi hi=>?_⟩;rw[hr] at hi;obtain rfl:i=k:=by simpa using hi
  rw[List.range'_succ,wpOps_cons] at h;refine cw (λa w h=>ih (i+1) _ a w (by omega) (by omega) (by simpa using hs) (λj hj=>?_) h) h;rw[bV (by omega),hl j hj];by_cases e:j=i
  .subst e;simp
  .rw[AD e];exact decide_eq_decide.2 (by omega)
def L8 (R:Z->Z->Prop)(C:Nat->Z->Prop)(md:bc)(ops:Array bo)(i:Nat)(w w':Z):Prop:=R w w'/\∀k,k≠i->k ∉ JA md ops i->C k w->C k w'
def xf [Goes R](C:Nat->Z->Prop)(s dS:Nat)(S:(Nat->U)->Z->Prop)(hS1:∀u w w',R w w'->S u w->S u w')(hS2:∀u w d v,d≠dS->S u w->S (Ky u d v) w){md:bc}(X:Qs md ops m)(hS3:s<m->∀i,i<ops.size->(ops[i]?).bind (·.dst)=I dS->i∈JA md ops s)(V:Nat->U->Z->Prop)(aH:∀i v w w',R w w'->V i v w->V i v w'){w0:Z}{u0:Nat->U}
  (step:∀i,i<m->∀u w,R w0 w->(∀t,FL ops t=O->u t=u0 t)->(∀j o t,i∈JA md ops j->ops[j]?=I o->o.dst=I t->u t=u0 t)->(∀j∈JA md ops i,∀o d,ops[j]?=I o->o.dst=I d->V j (u d) w)->C i w->Done (L8 R C md ops i) P ops Q n ds i (λv w'=>V i v w'/\(i=s->S (GH u ((ops[i]?).bind (·.dst)) v) w')) u w)
  (fin:∀u w,R w0 w->(∀t,FL ops t=O->u t=u0 t)->(∀i,i<m->∀o d,ops[i]?=I o->o.dst=I d->V i (u d) w)->(s<m->S u w)->wpOps P ops Q (bb m (ops.size-m)) ⟨T n u,ds⟩ w) :
  ∀(fuel:Nat) (listed:Array Bool) (u:Nat->U) (w:Z),listed.size=ops.size->((F ops.size).filter λi=>!listed.getD i O).length=fuel->R w0 w->(∀t,(∀j o,ops[j]?=I o->o.dst=I t->listed.getD j O=bn)->u t=u0 t)->(∀i,i<m->listed.getD i O=O->∀o d,ops[i]?=I o->o.dst=I d->V i (u d) w)->(∀i,m<=i->i<ops.size->listed.getD i O=bn) ->
   (∀i,i<m->listed.getD i O=O->∀j∈JA md ops i,listed.getD j O=O)->(∀k,listed.getD k O=bn->C k w)->(s<m->listed.getD s O=O->S u w)->wpAny P md ops Q fuel listed ⟨T n u,ds⟩ w:=by
 have aK:m<=ops.size:=by
  obtain h|h:=X.last
  .omega
  .have:=h.size;omega
 have a8:∀ {t:Nat} {listed:Array Bool},FL ops t=O->∀j o,ops[j]?=I o->o.dst=I t->listed.getD j O=false:=λ{t} {listed} ht j o hj hd=>by
  unfold FL at ht;rw[Ba] at ht;have:=ht _ (Bi hj);rw[hd] at this;simp at this
 intro fuel
 induction fuel with
 |zero =>
  intro listed u w hs hc hg hf hv a6 aA hj aC;have hall:∀i,i<ops.size->listed.getD i O=true:=λi hi=>by
   cases hb:listed.getD i O with
   |true=>rfl
   |false =>
    have:i∈(F ops.size).filter λi=>!listed.getD i true:=Ca.2 ⟨Bu.2 hi,by rw[hb];rfl⟩;rw[Bc hc] at this;cases this
  have hm:m=ops.size:=by
   obtain h|h:=Bv aK
   .have:=a6 m (AA _) h;rw[hall m h] at this;cases this
   .exact h
  refine⟨bh.2 λi hi=>?_,?_⟩
  .obtain⟨h1,h2,_⟩:=Im.1 hi;rw[hall i h1] at h2;cases h2
  .have:=fin u w hg (λt ht=>hf t (a8 ht)) (λi hi=>hv i hi (hall i (by omega))) (λhsm=>aC hsm (hall s (by omega)));rw[hm,cE] at this;exact this
 |succ fuel ih =>
  intro listed u w hs hc hg hf hv a6 aA hj aC;by_cases hex:∃i,i<m/\listed.getD i O=bn
  .refine⟨λhr=>?_,λi hi=>?_⟩
   .exfalso;have hno:∀k i,i<=k->i<m->listed.getD i O=true:=by
     intro k
     induction k using cq with
     |ind k ihk =>
      intro i hik hi;cases hb:listed.getD i O with
      |true=>rfl
      |false =>
       have:i∈b9 md ops listed:=Im.2 ⟨by omega,hb,λj hj=>by
        have:=X.lt i (by omega) j hj;rw[<-dV (by omega)]
        exact ihk j (by omega) j (AA _) (by omega)⟩
       rw[hr] at this;cases this
    obtain⟨i,h1,h2⟩:=hex;rw[hno i i (AA _) h1] at h2;cases h2
   .obtain⟨h1,h2,h3⟩:=Im.1 hi;have him:i<m:=by
     obtain h|L:=X.last
     .omega
     .refine Nat.not_le.1 λzX=>?_;have hup:∀d i0,i0+d=m->i0<m->listed.getD i0 O=bn->listed.getD m O=O\/(∀j∈JA md ops m,listed.getD j O=O)->False:=by
       intro d
       induction d using cq with
       |ind d ihd =>
        intro i0 hd aD aB hor;obtain⟨j,hj1,hj2,aI⟩:=L.up i0 aD;obtain hj|hj:=Bv hj2
        .cases hb:listed.getD j O with
         |false=>exact ihd (m-j) (by omega) j (by omega) hj hb hor
         |true =>
          have:=aA j hj hb i0 aI;rw[aB] at this;cases this
        .subst hj;obtain h|h:=hor
         .rw[a6 j (AA _) L.size] at h;cases h
         .rw[h i0 aI] at aB;cases aB
      obtain⟨i0,aD,aB⟩:=hex;obtain zY|he:=Bv zX
      .have:=h3 (i-1) (L.next i zY h1);rw[<-dV (by omega),a6 (i-1) (by omega) (by omega)] at this;cases this
      .subst he
       exact hup (m-i0) i0 (by omega) aD aB (.inr λj hj=>by
        have:=h3 j hj;have:=L.lt m h1 j hj
        rw[dV (by omega)];exact h3 j hj)
    have aL:∀j∈JA md ops i,∀o d,ops[j]?=I o->o.dst=I d->V j (u d) w:=λj hj o d ho hd=>by
     have:=X.lt i h1 j hj;exact hv j (by omega) (by rw[dV (by omega)];exact h3 j hj) o d ho hd
    refine cw ?_ (step i him u w hg (λt ht=>hf t (a8 ht)) (λj o t aN hj hd=>hf t λj' o' hj' aJ=>?_) aL (hj i h2))
    rotate_left
    .have aF : j' = j := by
      obtain h|h|h:=Nat.lt_trichotomy j' j
      .exact AI hd (X.one j' j _ _ _ h hj' hj aJ)
      .exact h
      .exact AI aJ (X.one j j' _ _ _ h hj hj' hd)
     subst aF;have aO:j'<ops.size:=(Az.1 hj').1;by_cases hjm:j'<m
     .cases hb:listed.getD j' O with
      |false=>rfl
      |true =>
       have:=aA j' hjm hb i aN;rw[h2] at this;cases this
     .exact a6 j' (by omega) aO
    rintro a' w' ⟨v,rfl,⟨zV,aF⟩,hV,hVS⟩;refine ih _ _ w' (by simpa using hs) ?_ (Goes.trans hg zV) (λt ht=>?_) (λj hj hl o d ho hd=>?_) (λj hj aP=>?_) (λj hj hl k hk=>?_) (λk hl=>?_) λhsm hl=>?_
    .have e : ((F ops.size).filter fun j => !(listed.setIfInBounds i O).getD j O) = ((F ops.size).filter fun j => !listed.getD j O).erase i := by
      rw[mS (List.nodup_range.filter _),List.filter_filter];refine b8 λj hj=>?_;rw[bV (by omega)];by_cases e:j=i
      .simp[e]
      .simp[e]
     rw[e,List.length_erase_of_mem (Ca.2 ⟨Bu.2 h1,by rw[h2];rfl⟩),hc];rfl
    .have aQ : ops[i].dst ≠ I t := fun e => by
      have:=ht i ops[i] (AK h1) e;rw[bV (by omega),AF rfl] at this;cases this
     have:GH u ((ops[i]?).bind (·.dst)) v t=u t:=by
      rw[AK h1];show GH u ops[i].dst v t=u t;cases a7:ops[i].dst with
      |none=>rfl
      |some d=>exact Fh λe=>aQ (by rw[a7,e])
     rw[this];refine hf t λj o hj hd=>?_;have:=ht j o hj hd;rw[bV (by omega)] at this;by_cases e:j=i
     .rw[AF e] at this;cases this
     .rwa [AD e] at this
    .rw[bV (by omega)] at hl;by_cases e:j=i
     .subst e;rw[ho];show V j (GH u o.dst v d) w';rw[hd];show V j (Ky u d v d) w';rw[aV];exact hV
     .rw[AD e] at hl;have:GH u ((ops[i]?).bind (·.dst)) v d=u d:=by
       rw[AK h1];show GH u ops[i].dst v d=u d;cases a7:ops[i].dst with
       |none=>rfl
       |some d' =>
        refine Fh λe'=>?_;subst e';obtain h|h:=Nat.lt_or_gt_of_ne e
        .exact X.one j i _ _ _ h ho (AK h1) hd a7
        .exact X.one i j _ _ _ h (AK h1) ho a7 hd
      rw[this];exact aH _ _ _ _ zV (hv j hj hl o d ho hd)
    .rw[bV (by omega),AD (by omega)];exact a6 j hj aP
    .rw[bV (by omega)] at hl;rw[bV (by omega)];by_cases ek:k=i
     .rw[AF ek]
     .rw[AD ek];by_cases e:j=i
      .subst e;have:=X.lt j h1 k hk;rw[dV (by omega)];exact h3 k hk
      .rw[AD e] at hl;exact aA j hj hl k hk
    .rw[bV (by omega)] at hl;by_cases e:k=i
     .rw[AF e] at hl;cases hl
     .rw[AD e] at hl;refine aF k e (λhk=>?_) (hj k hl);have:=X.lt i h1 k hk;have h5:listed.getD k O=true:=by rw[dV (by omega)];exact h3 k hk
      rw[hl] at h5;cases h5
    .rw[bV (by omega)] at hl;by_cases e:s=i
     .exact hVS e.symm
     .rw[AD e] at hl;have hS:=hS1 _ _ _ zV (aC hsm hl);rw[AK h1];show S (GH u ops[i].dst v) w';cases a7:ops[i].dst with
      |none=>exact hS
      |some d =>
       refine hS2 _ _ _ _ (λed=>?_) hS;subst ed;have:=aA s hsm hl i (hS3 hsm i h1 (by rw[AK h1];exact a7));rw[h2] at this;cases this
  .have hall : ∀ i, i < m -> listed.getD i O = true := fun i hi => by
    cases hb:listed.getD i O with
    |true=>rfl
    |false=>exact AI ⟨i,hi,hb⟩ hex
   have aG:=fin u w hg (λt ht=>hf t (a8 ht)) (λi hi=>hv i hi (hall i hi)) λhsm=>aC hsm (hall s hsm);have hl:∀i,i<ops.size->listed.getD i O=decide (i<m):=λi hi=>by
    by_cases h:i<m
    .rw[hall i h];simp[h]
    .rw[a6 i (by omega) hi];simp[h]
   have aM:ops.size-m=fuel+1:=by
    rw[<-hc];have e:((F ops.size).filter λi=>!listed.getD i O)=bb m (ops.size-m):=by
     have h1:F ops.size=bb 0 m++bb m (ops.size-m):=by
      have:=List.range'_append (s:=0) (m:=m) (n:=ops.size-m) (step:=1);rw[Nat.one_mul,AO] at this;rw[List.range_eq_range',this];congr 1;omega
     rw[h1,CI];have h2:(bb 0 m).filter (λi=>!listed.getD i O)=[]:=br.2 λi hi=>by
      have:=cf.1 hi;rw[hall i (by omega)];simp
     have h3:(bb m (ops.size-m)).filter (λi=>!listed.getD i O)=bb m (ops.size-m):=b7.2 λi hi=>by
      have:=cf.1 hi;rw[a6 i (by omega) (by omega)];rfl
     rw[h2,h3];rfl
    rw[e,List.length_range']
   obtain h|L:=X.last
   .omega
   .rw[aM] at aG;exact uD L (fuel+1) m listed _ w (by omega) (AA _) hs hl aG
variable {R:Z->Z->Prop} {ops:Array bo} {Q:cK->Act->Z->Prop} {n m:Nat} {u:Nat->U} {ds:List cu} {w w':Z}
def opAt (ops:Array bo)(i:Nat):Option (Option Tmp×Op×Option (Nat×Bool)×G):=(ops[i]?).map λo=>(o.dst,o.op,o.guard,o.type)
def JI {i:Nat}{d:Option Tmp}{op:Op}{g:Option (Nat×Bool)}{t:G}(h:opAt ops i=I (d,op,g,t)):∃o,ops[i]?=I o/\o.dst=d/\o.op=op/\o.guard=g/\o.type=t:=by
 unfold opAt at h;cases ho:ops[i]? with
 |none=>rw[ho] at h;cases h
 |some o=>rw[ho] at h;cases h;exact⟨o,rfl,rfl,rfl,rfl,rfl⟩
def Lets (ops:Array bo)(n:Nat)(u:Nat->U):Option (Nat×Bool)->Prop
 |none=>True
 |some (j,b)=>∃d,(opAt ops j).bind (·.1)=I d/\d<n/\u d=.bool b
def lz {o:bo}(h:Lets ops n u o.guard):H o (yielded ops (T n u))=true:=by
 unfold H;cases hg:o.guard with
 |none=>rfl
 |some q =>
  obtain⟨j,b⟩:=q;rw[hg] at h;obtain⟨d,h1,h2,h3⟩:=h;have e:(ops[j]?).bind (·.dst)=I d:=by
   unfold opAt at h1;cases ho:ops[j]? with
   |none=>rw[ho] at h1;cases h1
   |some o=>rw[ho] at h1;exact h1
  simp only[yielded,e,BF,gI h2,h3];simp
def pk {i:Nat}{d:Option Tmp}{op:Op}{g:Option (Nat×Bool)}{t:G}{V:U->Z->Prop}(h:opAt ops i=I (d,op,g,t))(hl:Lets ops n u g)
  (hw:∀o:bo,o.dst=d->o.op=op->o.type=t->bW DU o ⟨T n u,ds⟩ w (λa' w'=>∃v,a'=⟨T n (GH u d v),ds⟩/\R w w'/\V v w') Q):Done R DU ops Q n ds i V u w:=by
 obtain⟨o,h1,h2,h3,h4,h5⟩:=JI h;unfold Done wpOp;simp only[h1];rw[AF (lz (by rw[h4];exact hl))];refine .inl ?_;have e:((I o:Option bo).bind (·.dst))=d:=h2;rw[e];exact hw o h2 h3 h5
def OA (n:Nat)(u:Nat->U)(ev:b5->U):Prop:=(∀t,t<n->ev (.tmp t)=u t)/\(∀c,ev (.const c)=c)/\∀f,ev (.func f)=.func (.func f) #[] #[]
def gf:OA n u (Act.eval ⟨T n u,ds⟩):=⟨λ_ h=>dM h,λ_=>rfl,λ_=>rfl⟩
@[go_sem] def Ia (op:Op)(t:TypeId):Oper:={ dst:=none,op:=op,type:=t,pos := "",after:=#[],guard:=none }
def gh {ev:b5->U}{o:bo}:bk ev o=bk ev (Ia o.op o.type):=by
 unfold bk Ia
 rfl
def OA.t {ev:b5->U}(h:OA n u ev)(t:Nat)(ht:t<n:=by decide):ev (.tmp t)=u t:=h.1 t ht
def aU {i:Nat}{d:Option Tmp}{op:Op}{g:Option (Nat×Bool)}{t:G}{V:U->Z->Prop}(h:opAt ops i=I (d,op,g,t))(v:U)(w':Z)
  (hr:∀ev,OA n u ev->(bk ev (Ia op t)).run DU w=.ok (.value v) w') (hg:R w w') (hV:V v w') (hl:Lets ops n u g:=by trivial):Done R DU ops Q n ds i V u w:=by
 refine pk h hl λo h1 h2 h3=>?_;unfold bW;rw[gh,h2,h3,hr _ gf];rw[Oper.upon_value];refine⟨v,?_,hg,hV⟩;rw[h1];exact gJ
def lB {f:FuncId} {args:Array b5} {ats:Array G} {t:G} {fn:Func} (hf:DU.funcs[f]?=I fn) {vals:Array U} (ha:∀ev,OA n u ev->args.map ev=vals) (hn:(fn.name == "runtime.NumGoroutine")=bn) (hb:fn.body.isNone=bn) :
  (bk (Act.eval ⟨T n u,ds⟩) (Ia (.call { callee:=.value (.func f),args:=args,argTypes:=ats }) t)).run DU w=.ok (.enter f vals) w:=by
 unfold bk Ia;have e1:=ha _ (gf (ds:=ds));have e2:=(gf (n:=n) (u:=u) (ds:=ds)).2.2 f;have a6:fn.name ≠ "runtime.NumGoroutine":=by simpa using hn
 have hb':fn.body≠none:=λe=>by rw[e] at hb;cases hb
 simp[resolve,e1,e2,Deferred.ofValue,invoke,callFunc,hf,a6,hb']
def sI {i:Nat}{d:Option Tmp}{f:FuncId}{args:Array b5}{ats:Array G}{g:Option (Nat×Bool)}{t:G}{V:U->Z->Prop}(h:opAt ops i=I (d,.call { callee:=.value (.func f),args:=args,argTypes:=ats },g,t)){fn:Func}(hf:DU.funcs[f]?=I fn)(vals:Array U)
  (ha:∀ev,OA n u ev->args.map ev=vals) (hc:cF DU f vals w λe w'=>∃v,e=.returned v/\R w w'/\V v w') (hl:Lets ops n u g:=by trivial) (hn:(fn.name == "runtime.NumGoroutine")=false:=by kernel_rfl) (hb:fn.body.isNone=false:=by kernel_rfl):Done R DU ops Q n ds i V u w:=by
 refine pk h hl λo h1 h2 h3=>?_;unfold bW;rw[gh,h2,lB hf ha hn hb,Oper.upon_enter];refine hc.mono ?_;rintro e w' ⟨v,rfl,h5,h6⟩;refine⟨v,?_,h5,h6⟩;rw[h1];exact gJ
def bP [Rfl R]{i:Nat}{d:Option Tmp}{op:Op}{g:Option (Nat×Bool)}{t:G}{x:U}(h:opAt ops i=I (d,op,g,t))(hr:∀ev,OA n u ev->(bk ev (Ia op t)).run DU w=.ok (.value x) w)(hl:Lets ops n u g:=by trivial):Done R DU ops Q n ds i (λv _=>v=x) u w :=
 aU h x w hr (Rfl.refl _) rfl hl
def sJ [Rfl R]{i:Nat}{d:Option Tmp}{t:Nat}{g:Option (Nat×Bool)}{ty:G}{V:U->Z->Prop}(h:opAt ops i=I (d,.move (.tmp t),g,ty))(hV:V (u t) w)(hl:Lets ops n u g:=by trivial)(ht:t<n:=by decide):Done R DU ops Q n ds i V u w :=
 aU h (u t) w (λev he=>by show(pure _:Sem Next).run _ _=_;rw[he.1 t ht];rfl) (Rfl.refl _) hV hl
def n7 [Rfl R]{i:Nat}{d:Option Tmp}{t:Nat}{g:Option (Nat×Bool)}{ty:G}{V:U->Z->Prop}(h:opAt ops i=I (d,.assign (.tmp t),g,ty))(hV:V (u t) w)(hl:Lets ops n u g:=by trivial)(ht:t<n:=by decide):Done R DU ops Q n ds i V u w :=
 aU h (u t) w (λev he=>by show(pure _:Sem Next).run _ _=_;rw[he.1 t ht];rfl) (Rfl.refl _) hV hl
def mT [Rfl R]{i:Nat}{d:Option Tmp}{c:U}{g:Option (Nat×Bool)}{ty:G}{V:U->Z->Prop}(h:opAt ops i=I (d,.assign (.const c),g,ty))(hV:V c w)(hl:Lets ops n u g:=by trivial):Done R DU ops Q n ds i V u w :=
 aU h c w (λev he=>by show(pure _:Sem Next).run _ _=_;rw[he.2.1 c];rfl) (Rfl.refl _) hV hl
def mU [Rfl R]{i j:Nat}{d:Option Tmp}{t:Nat}{g:Option (Nat×Bool)}{ty:G}{V:U->Z->Prop}(h:opAt ops i=I (d,.extract (.tmp t) j,g,ty)){X:Array U}(e:u t=.tuple X){x:U}(hx:X[j]?=I x)(hV:V x w)(hl:Lets ops n u g:=by trivial)(ht:t<n:=by decide):Done R DU ops Q n ds i V u w :=
 aU h x w (λev he=>by
  have e1:=(he.1 t ht).trans e;unfold bk Ia
  simp[e1,Instr.extract,hx]) (Rfl.refl _) hV hl
def MF (L:List Int)(v:U)(w:Z):Prop:=∃A k,v=Y A L.length k/\RI w w.heap.size A L
def NG (L:List Int)(E:Int)(v:U)(w:Z):Prop:=∃x,v=.tuple #[x,ak bA E]/\MF L x w
def _root_.Go.Sq.RI.OB {w w':Z}{A:Option bq}{l:List Int}(h:RI w w.heap.size A l)(hg:Gr w w'):RI w' w'.heap.size A l:=(h.gr (AA _) hg).more hg.size
noncomputable def kh (t:G):Bool:=match DU.underlying t with
 |none=>bn
 |some d=>match d with
  |.struct _|.array _ _=>bn
  |_=>O
def uE {t:G}(h:kh t=O)(w:Z):(isAgg t).run DU w=.ok bn w:=by
 unfold kh at h;cases hd:DU.underlying t with
 |none=>rw[hd] at h;cases h
 |some d =>
  rw[hd] at h;cases d<;>first|(cases h;done)|simp[isAgg,bD hd]
def sK [Rfl R]{i:Nat}{d:Option Tmp}{a:Nat}{g:Option (Nat×Bool)}{t ty:G}{p:bq}{x:U}(h:opAt ops i=I (d,.load t (.tmp a),g,ty))(e:u a=.pointer (I p))(hc:w.cell? p=I x)(hl:Lets ops n u g:=by trivial)(ha:a<n:=by decide)(ht:kh t=true:=by kernel_rfl):Done R DU ops Q n ds i (λv _=>v=x) u w :=
 bP h (λev he=>by
  have e1:=(he.1 a ha).trans e;unfold bk Ia
  simp[e1,Instr.loadAt,Instr.sureAddr,loadVar,uE ht,hc]) hl
noncomputable def PZ (s:G)(k:Nat):Nat:=match DU.underlying s with
 |some (.struct fs)=>(fs[k]?).elim 0 (·.offset)
 |_=>0
noncomputable def RH (s:G)(k:Nat):Bool:=match DU.underlying s with
 |some (.struct fs)=>match fs[k]? with
  |some f=>(DU.info? f.type).any λi=>i.size != 0
  |none=>bn
 |_=>bn
def qC [Rfl R]{i:Nat}{d:Option Tmp}{a s k:Nat}{g:Option (Nat×Bool)}{ty:G}{b o o':Nat}(h:opAt ops i=I (d,.fieldAddr s (.tmp a) k,g,ty))(e:u a=.pointer (I ⟨b,o,D⟩))(ho:o+PZ s k=o':=by kernel_rfl)(hk:RH s k=true:=by kernel_rfl)(hl:Lets ops n u g:=by trivial)(ha:a<n:=by decide):Done R DU ops Q n ds i (λv _=>v=.pointer (I ⟨b,o',D⟩)) u w :=
 bP h (λev he=>by
  have e1:=(he.1 a ha).trans e;subst ho;unfold RH at hk;unfold PZ;split at hk
  .rename_i fs hs;split at hk
   .rename_i f hf;obtain⟨i0,hi,hz⟩:=(Option.any_eq_true _ _).1 hk;have hz:i0.size≠0:=by simpa using hz
    unfold bk Ia;simp[e1,Instr.fieldAt,Instr.sureAddr,bD hs,hf,fieldPlace,sizeOf,typeInfo,hi,hz,Addr.add]
   .cases hk
  .cases hk) hl
noncomputable def RJ (t:G):Nat:=match DU.underlying t with
 |some (.slice e)=>(DU.info? e).elim 0 (·.size)
 |_=>0
def qD [Rfl R](s:Nat){i:Nat}{d:Option Tmp}{a b t:Nat}{g:Option (Nat×Bool)}{ty:G}{q o o' len cap k:Nat}(h:opAt ops i=I (d,.indexAddr t (.tmp a) (.tmp b),g,ty))(e1:u a=.slice (I ⟨q,o,D⟩) len cap)(e2:u b=ak bA (k:Nat))(hk:k<len:=by omega)(ho:o+k*s=o':=by omega)(hs:RJ t=s:=by kernel_rfl)(hz:s≠0:=by decide)(hl:Lets ops n u g:=by trivial)(ha:a<n:=by decide)(hb:b<n:=by decide):Done R DU ops Q n ds i (λv _=>v=.pointer (I ⟨q,o',D⟩)) u w :=
 bP h (λev he=>by
  have e1:=(he.1 a ha).trans e1;have e2:=(he.1 b hb).trans e2;subst ho hs;unfold RJ at hz ⊢;split at hz
  .rename_i e hs;cases hi:DU.info? e with
   |none=>rw[hi] at hz;exact AI rfl hz
   |some i0 =>
    unfold bk Ia;by_cases h0:k*i0.size=0<;>simp[e1,e2,Instr.indexAt,bD hs,asIntOf,sizeOf,typeInfo,hi,Addr.add,hk,h0]
  .exact AI rfl hz) hl
end Go.Sq
