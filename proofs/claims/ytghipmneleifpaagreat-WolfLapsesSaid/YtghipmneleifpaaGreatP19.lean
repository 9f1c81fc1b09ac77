/- Parts of the proof. -/
import Derived.Test.YtghipmneleifpaaGreatP18
import Derived.Test.YtghipmneleifpaaGreatP00
import Derived.Test.YtghipmneleifpaaGreatP17
import Derived.Test.YtghipmneleifpaaGreatP05
import Derived.Test.YtghipmneleifpaaGreatP14
import Derived.Test.YtghipmneleifpaaGreatP16
import Derived.Test.YtghipmneleifpaaGreatP06
import Derived.Deep.RegionLaw
import Derived.Deep.RegionHeld3
set_option linter.all false
set_option maxHeartbeats 3200000
set_option maxRecDepth 1000000
open Go renaming World->a6,Value->a8,TypeId->bl,Addr->bW,Oper->b6,run_underlying->b8,Operand->cq,info_parts->df,Deferred->dn,wpOp_mono->dr,Calls->ea,Exit->eb,Code->eo
open Go.Value renaming slice->a7,int->bo,pointer->cK
open Option renaming some->bb,none->bk
open List renaming range->bc,range'->bq,eq_nil_iff_forall_not_mem->br,filter_eq_nil_iff->b5,nodup_cons->b7,filterMap_cons->cr,filter_eq_self->cu,filter_congr->cw,mem_range'_1->cF
open Bool renaming true->bh,false->bD
open Go.Region renaming wanted->bn,Mode->bw,ready->cE
open Go.Obj renaming cells->bA
open Go.IntKind renaming i64->b9
open Go.Oper renaming wp->cf
open Nat renaming strongRecOn->cU,sub_self->dy
namespace Go.Sq
open Go.Proofs
open Go.RowKit
def ki (hb B:Nat)(A nA hA:Option bW)(cap nc hc:Nat)(l:List Int)(N n m:Nat)(w:a6)(h:Hand w hb B A cap l N)(hN:N<=100000)(hn:n<=64)(hm:m<=64) :
  ea B1 32 #[.pointer (bb ⟨hb,0,bk⟩),.agg #[a7 nA n nc,a7 hA m hc]] w λe w'=>∃v ls xs,e=.returned v/\Ce w' (w.heap.size+1) v ls xs/\ls.length=n/\(∀x∈ls,∃p,x=Cr p m)/\Hand w' hb B A cap l (N+n*m)/\KH hb w w':=by
 obtain⟨W0,hW0⟩:∃W0:a6,W0=w.alloc (bA #[a7 nA n nc,a7 hA m hc] 25):=⟨_,rfl⟩;have hg0:Gr w W0:=hW0▸(Gr.refl w).alloc _;have HZ0:Hid (W0.heap.size=w.heap.size+1):=yJ (by rw[hW0];simp);have HH:=yJ (h.gr hg0);have hlt:=h.lt;have HW:=yJ hW0;have Du:=yJ hg0
 have HC:Hid (W0.cell? ⟨w.heap.size,0,bk⟩=bb (a7 nA n nc)/\W0.cell? ⟨w.heap.size,1,bk⟩=bb (a7 hA m hc)):=yJ (by
  rw[hW0,yN _ _ _ _ rfl,yN _ _ _ _ rfl];exact⟨rfl,rfl⟩)
 have HK0:Hid (∀W,KT (·=hb) W0 W->KT (·=hb) w W):=yJ λW hk=>⟨hk.os.trans hg0.below.os,hk.tape.trans hg0.below.tape,hk.output.trans hg0.below.output,yR hg0.drawn hk.drawn,yR hg0.size hk.size,λb hb' hne=>(hk.block b (yO hb' hg0.size) hne).trans (hg0.below.block b hb')⟩;go_enter Sq.func32,Tryz.ntmps32;go_wp2;rw[<-HW.out];go_loopw [5,6] (λv i wr=>∃k:Nat,k<=n/\i=bo b9 k/\∃ls xs,Ce wr (w.heap.size+1) v ls xs/\ls.length=k/\(∀x∈ls,∃p,x=Cr p m)/\Hand wr hb B A cap l (N+k*m)/\KH hb W0 wr) (λ_ i _=>n-(Proofs.intOf i).toNat)
 case atStart=>exact⟨0,by omega,rfl,[],[],Ce.nil _ _,rfl,λx hx=>by simp at hx,HH.out.more (by omega),KT.refl _ _⟩
 case round =>
  obtain⟨k,hk,rfl,ls,xs,Fg,J6,hall,hh,Ex⟩:=hrel;have hne:w.heap.size≠hb:=by omega
  have aiI:=HZ0.out;have hc0:wr.cell? ⟨w.heap.size,0,bk⟩=bb (a7 nA n nc):=(zd (Ex.block w.heap.size (by omega) hne)).trans HC.out.1;have hc1:wr.cell? ⟨w.heap.size,1,bk⟩=bb (a7 hA m hc):=(zd (Ex.block w.heap.size (by omega) hne)).trans HC.out.2;have hz:w.heap.size<wr.heap.size:=by have:=Ex.size;omega
  have HK:=yJ Ex;have HO:=yJ Fg;have Nu:=yJ hall;clear Ex Fg hall aiI;by_cases hlk:k<n
  .have Ha:=yJ (xC hb B A cap l (N+k*m) m wr hh (by have:k*m<=64*64:=Nat.mul_le_mul (by omega) hm;omega) hm);have HHR:=yJ hh;clear hh;go_wp2_with fail;refine Ha.out.mono ?_;rintro e w2 ⟨v2,p,rfl,hown,hh,Ex⟩;obtain⟨A2,c2,rfl,_⟩:=Bp hown;have QJ:=yJ (HK.out.trans Ex);have R5:=yJ (HO.out.keep' (w':=w2) λb hb1 hb2=>Ex.block b hb2 (by omega));have HOW:=yJ (Dp hown (show w.heap.size+1<=wr.heap.size by omega))
   have LF:=yJ hh;have hz2:=Ex.size;have hrow:=R5.out.row;clear Ex hh hown Ha;rw[J6] at hrow;have Je:=yJ hrow;go_wp2_with (at_builtin;refine pV rfl _ _ rfl (w.heap.size+1) _ _ _ rfl (hrow.alloc _) ⟨w2.heap.size,0,bk⟩ 1 (a7 A2 (Cr p m).length c2) rfl ?c1 rfl ?c2 ?c3 ?_)
   case c1=>rw[Addr.add_lit,yN _ _ _ _ (by simp)];rfl
   case c2=>omega
   case c3=>simp;omega
   intro v' w3 hown' hgrow hd;have Mt:=yJ (fh QJ.out Je.out (by rw[HZ0.out];exact yL _) hgrow hd);have Rb:=yJ ((dH LF.out Je.out (by omega) hgrow).more (M:=N+(k+1)*m) (by rw[Nat.succ_mul];omega));have Qe:=yJ (R5.out.push (l:=Cr p m) HOW.out (λb hb'=>heap_alloc_old _ _ hb') (by simp) hgrow J6.symm hown');have adF:Hid (∀x∈ls++[Cr p m],∃p,x=Cr p m):=yJ λx hx=>by
    rcases zJ.1 hx with hx|hx
    .exact Nu.out x hx
    .simp at hx;exact⟨p,hx⟩
   go_wp2;go_roundw
   case rel=>exact⟨k+1,by omega,by go_num,_,_,Qe.out,by simp[J6],adF.out,Rb.out,Mt.out⟩
   case measure=>simp[Proofs.intOf];omega
  .have IE:k=n:=by omega
   subst IE;have LF:=yJ hh;go_wp2;go_ret;exact⟨_,ls,xs,rfl,HO.out,J6,Nu.out,LF.out,HK0.out _ HK.out⟩
def xD {l:List Int}{b:Nat}(h:∀x∈l,0<=x/\x<=b):0<=l.sum/\l.sum<=b*l.length:=by
 induction l with
 |nil=>simp
 |cons x l ih =>
  have h1:=h x (by simp);have h2:=ih λy hy=>h y (by simp[hy]);rw[List.sum_cons,yV,Int.natCast_add,Int.mul_add];omega
def Fi (ls:List (List Int)):Nat->Nat->Int
 |0,_=>0
 |k+1,h=>Fi ls k h+if(h:Int)∈ls[k]?.getD [] then 1 else 0
def rY (ls:List (List Int))(k h:Nat):0<=Fi ls k h/\Fi ls k h<=k:=by
 induction k with
 |zero=>simp[Fi]
 |succ k ih=>unfold Fi;split<;>omega
def lS {l:List Int}{k:Nat}(hk:k<l.length)(n:Int):n∈l.take (k+1)↔n∈l.take k\/l[k]?.getD 0=n:=by
 rw[bt 0 l k hk,zJ,Ah];constructor
 .rintro(h|h);exact .inl h;exact .inr h.symm
 .rintro(h|h);exact .inl h;exact .inr h.symm
def p8 (l:List Int)(h:∀x∈l,0<=x)(x i:Nat):(l.foldl (λx h=>x ||| 2 ^ h.toNat) x).testBit i=(x.testBit i||decide ((i:Int)∈l)):=by
 induction l generalizing x with
 |nil=>simp
 |cons a l ih =>
  rw[Af,ih (λy hy=>h y (by simp[hy])),Nat.testBit_or,Nat.testBit_two_pow,Bool.or_assoc];congr 1;have h0:=h a (by simp);by_cases e:a.toNat=i
  .have:(i:Int)=a:=by omega
   simp[e,this]
  .have:¬(i:Int)=a:=by omega
   simp[e,this]
def vU {l:List Int}(h:∀x∈l,0<=x)(i:Nat):(IU l).testBit i=decide ((i:Int)∈l):=by
 unfold IU;rw[p8 l h];simp
def sumTo (f:Nat->Int):Nat->Int
 |0=>0
 |k+1=>sumTo f k+f k
def xE {l:List Int}{m:Nat}(hl:∃p,l=Cr p m)(hm:m<=4):wl (IU l)=l:=by
 obtain⟨p,rfl⟩:=hl;have hn:∀x∈Cr p m,0<=x:=λx hx=>by obtain⟨n,rfl,_⟩:=Ea.1 hx;omega
 have e:wl (IU (Cr p m))=Cr (IU (Cr p m)).testBit 4:=rfl;rw[e];unfold Cr;have h1:(bc 4).filter (IU (((bc m).filter p).map λn:Nat=>(n:Int))).testBit=(bc m).filter p:=by
  have h2:(bc 4)=bc m++(bc (4-m)).map (m+·):=by
   rw[<-List.range_add];congr 1;omega
  have hb:∀i:Nat,(IU (((bc m).filter p).map λn:Nat=>(n:Int))).testBit i=decide ((i:Int)∈Cr p m):=λi=>vU hn i;rw[h2,AK];have h3:(bc m).filter (IU (((bc m).filter p).map λn:Nat=>(n:Int))).testBit=(bc m).filter p:=by
   refine cw λi hi=>?_;rw[hb];have hi:=zB.1 hi;cases hp:p i with
   |true=>exact decide_eq_true (Ea.2 ⟨i,rfl,hi,hp⟩)
   |false =>
    refine decide_eq_false λh=>?_;obtain⟨n,e,_,h⟩:=Ea.1 h;obtain rfl:i=n:=by omega
    rw[hp] at h;cases h
  rw[h3];have h4:((bc (4-m)).map (m+·)).filter (IU (((bc m).filter p).map λn:Nat=>(n:Int))).testBit=[]:=by
   refine b5.2 λi hi=>?_;obtain⟨k,_,rfl⟩:=zu.1 hi;rw[hb];intro h;obtain⟨n,e,h1,_⟩:=Ea.1 (of_decide_eq_true h);omega
  rw[h4,Ay]
 rw[h1]
structure CO (w0:a6)(hb B:Nat)(A:Option bW)(cap:Nat)(l:List Int)(M base:Nat)(v:a8)(ns:List Int)(W:a6):Prop where
 hand:Hand W hb B A cap l M
 Fj:W.heap[w0.heap.size+1]?=bb (bA #[v,.slice bk 0 0] 25 (0,0))
 G4:W.heap[w0.heap.size]?=bb (bA #[.slice bk 0 0,.slice bk 0 0] 25 (0,0))
 own:W.ownsRow base 3 1 v ns.length (ns.map (bo b9))
 kt:KT (·=hb) w0 W
 lt:hb<w0.heap.size
 bs:w0.heap.size+2<=base/\base<=W.heap.size
section
variable {w0 W W':a6} {hb B:Nat} {A:Option bW} {cap:Nat} {l:List Int} {M base:Nat} {v:a8} {ns:List Int}
def CO.drew (h:CO w0 hb B A cap l M base v ns W):CO w0 hb B A cap l M base v ns W.drew :=
 ⟨h.hand.gr (Gr.refl W).drew,h.Fj,h.G4,al h.own λ_ _ _=>rfl,⟨h.kt.os,h.kt.tape,h.kt.output,AN h.kt.drawn,h.kt.size,h.kt.block⟩,h.lt,h.bs⟩
def CO.alloc (h:CO w0 hb B A cap l M base v ns W)(o:Obj):CO w0 hb B A cap l M base v ns (W.alloc o) :=
 ⟨h.hand.gr ((Gr.refl W).alloc o),(heap_alloc_old _ _ (yK.1 h.Fj).1).trans h.Fj,(heap_alloc_old _ _ (yK.1 h.G4).1).trans h.G4,h.own.alloc o,h.kt.trans (KT.Dh ((Gr.refl W).alloc o)),h.lt,by have:=h.bs;simp;omega⟩
def CO.KJ (h:CO w0 hb B A cap l M base v ns W){M':Nat}(hh:Hand W' hb B A cap l M')(k:KT (·=hb) W W'):CO w0 hb B A cap l M' base v ns W' :=
 ⟨hh,(k.block _ (yK.1 h.Fj).1 (by have:=h.lt;omega)).trans h.Fj,(k.block _ (yK.1 h.G4).1 (by have:=h.lt;omega)).trans h.G4,mP h.own (by have:=h.lt;have:=h.bs;omega) k,h.kt.trans k,h.lt,by have:=h.bs;have:=k.size;omega⟩
def Hand.set {W:a6}{hb B cap N:Nat}{A:Option bW}{l:List Int}(h:Hand W hb B A cap l N){p:bW}(hp:hb<p.block)(x:a8):Hand (W.setCell p x) hb B A cap l N:=by
 obtain⟨n,s,h1,h2⟩:=h.obj;have hB:=h.apart;exact⟨⟨n,s,(yU _ _ _ _ (by omega)).trans h1,h2⟩,h.Qu.keep λb o hb'=>zd (yU _ _ _ _ (by show b≠p.block;omega)),hB⟩
def KT.set {w0 W:a6}{hb:Nat}(h:KT (·=hb) w0 W){p:bW}(hp:w0.heap.size<=p.block)(x:a8):KT (·=hb) w0 (W.setCell p x) :=
 ⟨h.os,h.tape,h.output,h.drawn,by have:=h.size;simpa [World.setCell] using this,λb hb' hne=>(yU _ _ _ _ (by omega)).trans (h.block b hb' hne)⟩
def CO.more (h:CO w0 hb B A cap l M base v ns W){M':Nat}(hm:M<=M'):CO w0 hb B A cap l M' base v ns W:=⟨h.hand.more hm,h.Fj,h.G4,h.own,h.kt,h.lt,h.bs⟩
def CO.push (h:CO w0 hb B A cap l M base v ns W){w6:a6}{o:Obj}{v':a8}{z:Int}(hown:w6.ownsRow base 3 1 v' (ns++[z]).length ((ns++[z]).map (bo b9)))(hg:(W.alloc o).grownBy w6 v.ownBlock)(hd:(W.alloc o).drawn<=w6.drawn) :
  CO w0 hb B A cap l M base v' (ns++[z]) (w6.setCell ⟨w0.heap.size+1,0,bk⟩ v'):=by
 have hlt:=h.lt;have hbs:=h.bs;have hq:=(Ec h.own hg (w0.heap.size+1) (by omega) (yK.1 h.Fj).1).trans h.Fj;have hr:=(Ec h.own hg w0.heap.size (by omega) (yK.1 h.G4).1).trans h.G4;refine⟨(dH h.hand h.own (by omega) hg).set (by show hb<w0.heap.size+1;omega) _,?_,(yU _ _ _ _ (by simp)).trans hr,ownsRow_setCell_below hown (by show w0.heap.size+1<base;omega) _,(fh h.kt h.own (by omega) hg hd).set (by show _<=w0.heap.size+1;omega) _,hlt,hbs.1,by have:=gw hg;simp[World.setCell];omega⟩
 exact Cz hq
def yz {W:a6}{K:Nat->Prop}{a b:Int}(hK:K W.heap.size):Hb (W.alloc (bA #[bo b9 a,bo b9 b] 3)) K (bb ⟨W.heap.size,0,bk⟩) [a,b]:=λ_=>⟨_,0,rfl,hK,λi x hx=>by
 rw[yN _ _ _ _ rfl]
 match i,hx with
 |0,hx=>cases hx;rfl
 |1,hx=>cases hx;rfl⟩
def yB {W:a6}{K:Nat->Prop}{a:Int}(hK:K W.heap.size):Hb (W.alloc (bA #[bo b9 a] 3)) K (bb ⟨W.heap.size,0,bk⟩) [a]:=λ_=>⟨_,0,rfl,hK,λi x hx=>by
 rw[yN _ _ _ _ rfl]
 match i,hx with
 |0,hx=>cases hx;rfl⟩
def CO.room (h:CO w0 hb B A cap l M base v ns W)(o:Obj):W.heap.size≠hb/\W.heap.size<(W.alloc o).heap.size:=by
 have:=h.hand.lt;simp;omega
def CO.cell (h:CO w0 hb B A cap l M base v ns W):W.cell? ⟨w0.heap.size+1,0,bk⟩=bb v/\W.frozen? ⟨w0.heap.size+1,0,bk⟩=bD/\w0.heap.size+1<W.heap.size:=⟨(cell_of_heap h.Fj 0).1,(cell_of_heap h.Fj 0).2,(yK.1 h.Fj).1⟩
def fi {W W':a6}{K K':Nat->Prop}{A:Option bW}{q:List Int}(h:Hb W K A q)(hk:∀b,K b->K' b)(hc:∀b o,K b->W'.cell? ⟨b,o,bk⟩=W.cell? ⟨b,o,bk⟩):Hb W' K' A q:=λhn=>by
 obtain⟨b,o,e,h1,h2⟩:=h hn;exact⟨b,o,e,hk b h1,λi x hx=>(hc _ _ h1).trans (h2 i x hx)⟩
def gy {W W':a6}{K K':Nat->Prop}{A:Option bW}{q:List CF}(h:EZ W K A q)(hk:∀b,K b->K' b)(hc:∀b o,K b->W'.cell? ⟨b,o,bk⟩=W.cell? ⟨b,o,bk⟩):EZ W' K' A q:=λhn=>by
 obtain⟨b,o,e,h1,h2⟩:=h hn;refine⟨b,o,e,hk b h1,λi x hx=>?_⟩;obtain⟨k0,k1,k2,A',c,k3,k4⟩:=h2 i x hx;exact⟨(hc _ _ h1).trans k0,(hc _ _ h1).trans k1,(hc _ _ h1).trans k2,A',c,(hc _ _ h1).trans k3,fi k4 hk hc⟩
def cW (h:CF)(y:a8):List Value:=[bo b9 h.heads,bo b9 h.Dd,bo b9 h.most,y]
structure CP (w0:a6)(hb B:Nat)(A:Option bW)(cap:Nat)(l:List Int)(M base:Nat)(v:a8)(ns:List Int)(u:a8)(hs:List CF)(xs:List a8)(W:a6):Prop where
 hand:Hand W hb B A cap l M
 Fj:W.heap[w0.heap.size+1]?=bb (bA #[v,u] 25 (0,0))
 G4:W.heap[w0.heap.size]?=bb (bA #[.slice bk 0 0,.slice bk 0 0] 25 (0,0))
 own:W.ownsRow base 3 1 v ns.length (ns.map (bo b9))
 DI:W.ownsRow base 28 4 u hs.length xs
 Jf:∀i h,hs[i]?=bb h->∃y,(∀j,j<4->xs[i*4+j]?=(cW h y)[j]?)/\W.ownsRow base 3 1 y h.off.length (h.off.map (bo b9))
 kt:KT (·=hb) w0 W
 lt:hb<w0.heap.size
 bs:w0.heap.size+2<=base/\base<=W.heap.size
variable {u:a8} {hs:List CF} {xs:List a8}
def CO.cp (h:CO w0 hb B A cap l M base v ns W):CP w0 hb B A cap l M base v ns (.slice bk 0 0) [] [] W :=
 ⟨h.hand,h.Fj,h.G4,h.own,zF _ _ _ _,λi h hi=>by simp at hi,h.kt,h.lt,h.bs⟩
def CP.keep (h:CP w0 hb B A cap l M base v ns u hs xs W){M':Nat}(hh:Hand W' hb B A cap l M')(hk:∀b,b<W.heap.size->b≠hb->W'.heap[b]?=W.heap[b]?)(kt:KT (·=hb) w0 W')(hz:W.heap.size<=W'.heap.size):CP w0 hb B A cap l M' base v ns u hs xs W':=by
 have hlt:=h.lt;have hbs:=h.bs;have ok:∀ {e:bl} {sz n:Nat} {y:a8} {zs:List a8},W.ownsRow base e sz y n zs->W'.ownsRow base e sz y n zs:=λho=>al ho λg hg hl=>hk g hl (by have:=(ho.lt g hg).1;omega);refine⟨hh,(hk _ (yK.1 h.Fj).1 (by omega)).trans h.Fj,(hk _ (yK.1 h.G4).1 (by omega)).trans h.G4,ok h.own,ok h.DI,λi x hi=>?_,kt,hlt,by omega⟩;obtain⟨y,h1,h2⟩:=h.Jf i x hi;exact⟨y,h1,ok h2⟩
def CP.KJ (h:CP w0 hb B A cap l M base v ns u hs xs W){M':Nat}(hh:Hand W' hb B A cap l M')(k:KT (·=hb) W W'):CP w0 hb B A cap l M' base v ns u hs xs W' :=
 h.keep hh (λb hb' hne=>k.block b hb' hne) (h.kt.trans k) k.size
def CP.alloc (h:CP w0 hb B A cap l M base v ns u hs xs W)(o:Obj):CP w0 hb B A cap l M base v ns u hs xs (W.alloc o) :=
 h.keep (h.hand.gr ((Gr.refl W).alloc o)) (λb hb' _=>heap_alloc_old _ _ hb') (h.kt.trans (KT.Dh ((Gr.refl W).alloc o))) (by simp)
def CP.more (h:CP w0 hb B A cap l M base v ns u hs xs W){M':Nat}(hm:M<=M'):CP w0 hb B A cap l M' base v ns u hs xs W:=⟨h.hand.more hm,h.Fj,h.G4,h.own,h.DI,h.Jf,h.kt,h.lt,h.bs⟩
def CP.cell (h:CP w0 hb B A cap l M base v ns u hs xs W):W.cell? ⟨w0.heap.size+1,1,bk⟩=bb u/\W.frozen? ⟨w0.heap.size+1,1,bk⟩=bD/\w0.heap.size+1<W.heap.size:=⟨(cell_of_heap h.Fj 1).1,(cell_of_heap h.Fj 1).2,(yK.1 h.Fj).1⟩
def CP.push (h:CP w0 hb B A cap l M base v ns u hs xs W){w6:a6}{o:Obj}{u' y:a8}{x:CF}(hy:W.ownsRow base 3 1 y x.off.length (x.off.map (bo b9)))(hown:w6.ownsRow base 28 4 u' (hs.length+1) (xs++cW x y))(hg:(W.alloc o).grownBy w6 u.ownBlock)(hd:(W.alloc o).drawn<=w6.drawn) :
  CP w0 hb B A cap l M base v ns u' (hs++[x]) (xs++cW x y) (w6.setCell ⟨w0.heap.size+1,1,bk⟩ u'):=by
 have hlt:=h.lt;have hbs:=h.bs;have UO:xs.length=hs.length*4:=h.DI.1;have hq:=(Ec h.DI hg (w0.heap.size+1) (by omega) (yK.1 h.Fj).1).trans h.Fj;have hr:=(Ec h.DI hg w0.heap.size (by omega) (yK.1 h.G4).1).trans h.G4;have ok:∀ {n:Nat} {z:a8} {zs:List a8},W.ownsRow base 3 1 z n zs->(w6.setCell ⟨w0.heap.size+1,1,bk⟩ u').ownsRow base 3 1 z n zs:=λho=>al ho λg EE hl =>
  (yU _ _ _ _ (by have:=(ho.lt g EE).1;show g≠w0.heap.size+1;omega)).trans ((hg.block g (by simp;omega) (be (by decide) ho h.DI EE)).trans (heap_alloc_old _ _ hl))
 refine⟨(dH h.hand h.DI (by omega) hg).set (by show hb<w0.heap.size+1;omega) _,?_,(yU _ _ _ _ (by simp)).trans hr,ok h.own,?_,λi z hi=>?_,(fh h.kt h.DI (by omega) hg hd).set (by show _<=w0.heap.size+1;omega) _,hlt,hbs.1,by have:=gw hg;simp[World.setCell];omega⟩
 .exact Cz hq
 .rw[Ad];exact ownsRow_setCell_below hown (by show w0.heap.size+1<base;omega) _
 .rcases zC i hs.length with hi'|hi'
  .rw[zo hi'] at hi;obtain⟨y',h1,h2⟩:=h.Jf i z hi;exact⟨y',λj hj=>by rw[zo (by omega)];exact h1 j hj,ok h2⟩
  .have e : i = hs.length := by
    have:=(ze.1 hi).1;simp at this;omega
   subst e;rw[zv (yL _)] at hi;simp at hi;subst hi;exact⟨y,λj hj=>by rw[zv (by omega),UO];congr 1;omega,ok hy⟩
def CP.Ek (h:CP w0 hb B A cap l M base v ns u hs xs W):∃nA nc hA hc,v=a7 nA ns.length nc/\u=a7 hA hs.length hc/\Hb W (λb=>base<=b/\b<W.heap.size) nA ns/\EZ W (λb=>base<=b/\b<W.heap.size) hA hs:=by
 obtain⟨nA,nc,e1,h1⟩:=FY h.own;rcases h.DI.2 with⟨rfl,h0⟩|⟨g,hc,cur,rfl,hgb,hgo,_⟩
 .have:hs=[]:=zj h0;subst this;exact⟨nA,nc,bk,0,e1,rfl,h1,λhn=>absurd rfl hn⟩
 .refine⟨nA,nc,bb ⟨g,0,bk⟩,hc,e1,rfl,h1,λ_=>⟨g,0,rfl,⟨hgb,(yK.1 hgo).1⟩,λi x hi=>?_⟩⟩;obtain⟨y,hj,ho⟩:=h.Jf i x hi;obtain⟨A',c',rfl,hr⟩:=FY ho;have hcell:=h.DI.cells (g:=g) rfl;have at_:∀j z,j<4->(cW x (a7 A' x.off.length c'))[j]?=bb z->W.cell? ⟨g,0+i*4+j,bk⟩=bb z:=λj z hj4 hz=>by
   have:=hcell (i*4+j) z ((hj j hj4).trans hz);have e:(⟨g,0,bk⟩:bW).add (i*4+j)=⟨g,0+(i*4+j),bk⟩:=by unfold Addr.add;split<;>simp_all
   rw[e,<-AJ] at this;exact this
  exact⟨at_ 0 _ (by omega) rfl,at_ 1 _ (by omega) rfl,at_ 2 _ (by omega) rfl,A',c',at_ 3 _ (by omega) rfl,hr⟩
end
def iA {w:a6}{ops:Array b6}{o:b6}{a:Act}{K:Act->a6->Prop}{Q:eb->Act->a6->Prop}{E:Prop}(hgd:o.guard=bk)(h:cf B1 o a w K Q):if bn o (yielded ops a.tmps)=bh then cf B1 o a w K Q else E:=by
 have hw:bn o (yielded ops a.tmps)=true:=by simp[bn,hgd]
 rw[if_pos hw];exact h
def p9 {w:a6}{ops:Array b6}{o:b6}{a:Act}{K:Act->a6->Prop}{Q:eb->Act->a6->Prop}{E:Prop}(hgd:o.guard=bk)(s x:cq)(ho:o.op=.call { callee:=.builtin .append,args:=#[s,x],argTypes:=#[22,22] })(Yl:o.type=22)
  (base:Nat) (v:a8) (n:Nat) (xs:List a8) (hs:a.eval s=v) (hown:w.ownsRow base 3 1 v n xs) (y:a8) (h1:y.oneCell'=bh) (hx:a.eval x=.slice (bb ⟨w.heap.size,0,bk⟩) 1 1) (hn:n<=1048576) (hbase:base<=w.heap.size)
  (h:∀v' w',w'.ownsRow base 3 1 v' (n+1) (xs++[y])->(w.alloc (bA #[y] 3)).grownBy w' v.ownBlock->(w.alloc (bA #[y] 3)).drawn<=w'.drawn->K (a.put o.dst v') w') :
  if bn o (yielded ops a.tmps)=bh then cf B1 o a (w.alloc (bA #[y] 3)) K Q else E:=by
 have hw:bn o (yielded ops a.tmps)=true:=by simp[bn,hgd]
 rw[if_pos hw];obtain⟨i0,hi,hz0,hz1,hz2⟩:=df Bv
 obtain⟨v',w',hr,h2,h3,h4⟩:=run_append_own (P:=B1) (w.alloc (bA #[y] 3)) base 22 22 3 i0 _ 1 8 ((Sq.underlying 22).trans Tryz.underlying22) hi hz0 hz1 hz2 rfl (by decide) v n xs (hown.alloc _) ⟨w.heap.size,0,bk⟩ 1 1 [y] rfl (λj u hj=>by
  match j,hj with
  |0,hj=>cases hj;rw[Addr.add_lit,yN _ _ _ _ (by simp)];rfl) (λu hu=>by simp at hu;subst hu;exact h1) (by unfold maxLen;omega) (by omega) (by simp;omega)
 have hd:=Go.Ct.EM B1 (Builtin.append_ #[22,22] 22 #[v,.slice (bb ⟨w.heap.size,0,bk⟩) 1 1]) (w.alloc (bA #[y] 3)) #[];rw[Sem.runT_fst,hr] at hd;unfold cf execOp;simp only[ho,resolve,invoke,builtin,Sem.run_bind,Sem.run_pure,Result.andThen_ok,AA,Ae,Ag,hs,hx,hr,Yl];exact h v' w' h2 h3 hd
def yq {w:a6}{ops:Array b6}{rest:List b6}{o:b6}{a:Act}{Q:eb->Act->a6->Prop}(hgd:o.guard=bk)(s x:cq)(ho:o.op=.call { callee:=.builtin .append,args:=#[s,x],argTypes:=#[23,23] })
  (base:Nat) (v:a8) (n:Nat) (xs:List a8) (hs:a.eval s=v) (hown:w.ownsRow base 28 4 v n xs) (ad:bW) (c:Nat) (news:List a8) (hx:a.eval x=.slice (bb ad) 1 c) (h4:news.length=4) (hc:∀(j:Nat) (u:a8),news[j]?=bb u->w.cell? (ad.add j)=bb u) (h1:∀u∈news,u.oneCell'=bh)
  (hn:n<=1048576) (hbase:base<=w.heap.size) (h:∀v' w',w'.ownsRow base 28 4 v' (n+1) (xs++news)->w.grownBy w' v.ownBlock->w.drawn<=w'.drawn->wpList B1 ops Q rest (a.put o.dst v') w'):wpList B1 ops Q (o::rest) a w:=by
 obtain⟨i0,hi,hz0,hz1,hz2⟩:=df BD;exact CE hgd s x 23 ho base 28 i0 _ 4 48 Sq.underlying23 hi hz0 hz1 hz2 rfl (by decide) v n xs hs hown ad 1 c news hx (by omega) hc h1 (by unfold maxLen;omega) (by omega) hbase h
open Go.Ct (iw j8 i5)
def Hx:eo->eo
 |.seq _ c=>c
 |c=>c
def EF:eo->eo
 |.seq c _=>c
 |c=>c
def DC:Nat->eo->eo
 |0,c=>c
 |n+1,c=>DC n (Hx c)
def _root_.Go.Sq.RI.on {w w':a6}{A:Option bW}{l:List Int}(h:RI w w.heap.size A l)(hg:Gr w w'):RI w' w'.heap.size A l:=(h.gr (yL _) hg).more hg.size
structure Made (c:Cc)(nA hA gA:Option bW)(cb:Nat)(nc hc:Nat)(ls:List (List Int))(W:a6):Prop where
 lt:cb<W.heap.size
 c0:W.cell? ⟨cb,0,bk⟩=bb (a7 nA c.B3.length nc)
 c1:W.cell? ⟨cb,1,bk⟩=bb (a7 hA c.B2.length hc)
 B3:RI W W.heap.size nA c.B3
 DI:Db W W.heap.size hA c.B2
 Mc:Da W W.heap.size gA ls
def RI.cell' {w:a6}{B:Nat}{ad:bW}{l:List Int}(h:RI w B (bb ad) l)(hB:B<=w.heap.size):∀j u,(l.map (bo b9))[j]?=bb u->w.cell? (ad.add j)=bb u/\(ad.add j).block<w.heap.size:=λj u hj=>by
 rw[zL] at hj;cases hx:l[j]? with
 |none=>rw[hx] at hj;cases hj
 |some x =>
  rw[hx] at hj;obtain⟨b,o,e,hb,hc⟩:=h (λe=>by rw[e] at hx;simp at hx);obtain rfl:ad=⟨b,o,bk⟩:=by injection e
  have e2:(⟨b,o,bk⟩:bW).add j=⟨b,o+j,bk⟩:=Addr.add_lit _ _ _;rw[e2];exact⟨by rw[hc j x hx];exact hj,by show b<_;omega⟩
def gz (A:Option bW)(c:Nat)(l:List Int)(w:a6)(B:Nat)(h:RI w B A l)(hB:B<=w.heap.size)(hl:l.length<=1048576) :
  ea B1 33 #[a7 A l.length c] w λe w'=>∃v,e=.returned v/\w'.ownsRow w.heap.size 3 1 v l.length (l.map (bo b9))/\Gr w w':=by
 obtain⟨i0,hi,hz0,hz1,hz2⟩:=df Bv;have HR:=yJ h;cases A with
 |none =>
  have hl0:l=[]:=by
   cases l with
   |nil=>rfl
   |cons x l=>obtain⟨_,_,e,_⟩:=HR.out (by simp);cases e
  subst hl0;go_enter Sq.func33,Tryz.ntmps33;go_wp2;go_ret;exact⟨_,rfl,Bh w #[] 0 (yL _) (zf _) rfl,(Gr.refl w).alloc _⟩
 |some ad =>
  have HC:=yJ (HR.out.cell' hB);go_enter Sq.func33,Tryz.ntmps33;go_wp2_with (at_builtin;refine CE rfl _ _ 22 rfl w.heap.size 3 i0 (bo b9 0) 1 8 Sq.underlying22 hi hz0 hz1 hz2 rfl (by decide) _ _ _ rfl (Bh w #[] 0 (yL _) (zf _) rfl) ad l.length c (l.map (bo b9)) rfl ?qc1 ?qc2 ?qc3 ?qc4 ?qc5 ?qc6 ?_)
  case qc1=>simp
  case qc2=>intro j u hj;exact(zd (Ar _ _ _ (HC.out j u hj).2)).trans (HC.out j u hj).1
  case qc3=>intro u hu;obtain⟨x,_,rfl⟩:=zu.1 hu;rfl
  case qc4=>unfold maxLen;omega
  case qc5=>omega
  case qc6=>simp
  intro v' w1 hown hgrow hd;have hG:=yJ (((Gr.refl w).alloc _).grown hgrow hd (by intro k hk;simp[Value.ownBlock] at hk;omega));have hO:=yJ hown;go_wp2;go_ret;exact⟨v',rfl,by simpa using hO.out,hG.out⟩
def _root_.Go.Sq.Apart (xs:List a8):Prop:=∀(i j:Nat) (u v:a8) (g:Nat),i<j->xs[i]?=bb u->xs[j]?=bb v->v.ownBlock=bb g->u.ownBlock≠bb g
def _root_.Go.Sq.Apart.push {xs:List a8}{v:a8}{B:Nat}(h:Apart xs)(hb:∀u∈xs,∀g,u.ownBlock=bb g->g<B)(hv:∀g,v.ownBlock=bb g->B<=g):Apart (xs++[v]):=λi j u v' g hij hi hj hg hu=>by
 have Xj:=(ze.1 hj).1;rw[Ad,List.length_singleton] at Xj;rw[zo (by omega)] at hi;by_cases hjx:j<xs.length
 .rw[zo hjx] at hj;exact h i j u v' g hij hi hj hg hu
 .obtain rfl:j=xs.length:=by omega
  rw[zv (yL _),dy] at hj;cases hj;have h1:=hb u (zS hi) g hu;have h2:=hv g hg;omega
def _root_.Go.Sq.Ce.lts {w:a6}{base:Nat}{v:a8}{ls:List (List Int)}{xs:List a8}(h:Ce w base v ls xs):∀u∈xs,∀g,u.ownBlock=bb g->g<w.heap.size:=λu hu g hg=>by
 obtain⟨i,hi,rfl⟩:=zZ.1 hu;have hl:xs.length=ls.length:=by have:=h.row.1;omega
 obtain⟨z,h1,h2⟩:=h.cells i ls[i] (yM (by omega));rw[yM hi] at h1;injection h1 with h1
 subst h1;exact(h2.lt g hg).2
def i9 (A:Option bW)(c:Nat)(ls:List (List Int))(w:a6)(h:Da w w.heap.size A ls)(hl:ls.length<=1048576)(hl2:∀x∈ls,x.length<=1048576) :
  ea B1 10 #[a7 A ls.length c] w λe w'=>∃v xs,e=.returned v/\Ce w' w.heap.size v ls xs/\Gr w w'/\Apart xs:=by
 have HG:=yJ h;have HL2:=yJ hl2;go_enter Sq.func10,Tryz.ntmps10;go_wp2;go_loopw [3,4] (λv i wr=>∃k:Nat,k<=ls.length/\i=bo b9 k/\∃xs,Ce wr w.heap.size v (ls.take k) xs/\Gr w wr/\Apart xs) (λ_ i _=>ls.length-(Proofs.intOf i).toNat)
 case atStart=>exact⟨0,by omega,rfl,[],Ce.nil _ _,.refl _,λi j u v g _ h=>by simp at h⟩
 case round =>
  obtain⟨k,hk,rfl,xs,Fg,hgr,hap⟩:=hrel;have Xy:=yJ hap;have QG:=yJ (Fg.lts);have HO:=yJ Fg;have E6:=yJ hgr;by_cases hlt:k<ls.length
  .obtain⟨b,o,A',c',rfl,hb,hc,Em⟩:=(HG.out.gr (yL _) hgr).at_ hlt;have VD:=HL2.out _ (show ls[k]?.getD []∈ls by rw[yM hlt];exact zx hlt);have VT:Hid (ls.take (k+1)=ls.take k++[ls[k]?.getD []]):=yJ (by rw[AH,yM hlt];rfl);have hTL:(ls.take k).length=k:=by rw[AQ];omega
   generalize ls[k]?.getD []=row at hc Em VD VT;have Xo:=yJ (gz A' c' row wr w.heap.size Em (by have:=hgr.size;omega) VD);have hz:=hgr.size;go_wp2_with fail;refine Xo.out.mono ?_;rintro e w2 ⟨v2,rfl,hown2,hg2⟩;obtain⟨A2,c2,rfl,_⟩:=Bp hown2;have aiK:=yJ (Xy.out.push (v:=a7 A2 row.length c2) QG.out λg hg=>(hown2.lt g hg).1);have R5:=yJ (HO.out.keep' (w':=w2) λb _ hb=>hg2.below.block b hb)
   have HOW:=yJ (Dp hown2 hz);have Gt:=yJ (E6.out.trans hg2);have hrow:=R5.out.row;rw[hTL] at hrow;have Je:=yJ hrow;go_wp2_with (at_builtin;refine pV rfl _ _ rfl w.heap.size _ _ _ rfl (hrow.alloc _) ⟨w2.heap.size,0,bk⟩ 1 (a7 A2 row.length c2) rfl ?c1 rfl ?c2 ?c3 ?_)
   case c1=>rw[Addr.add_lit,yN _ _ _ _ (by simp)];rfl
   case c2=>omega
   case c3=>have:=Gt.out.size;simp;omega
   intro v' w3 hown' hgrow hd;have Gu:=yJ ((Gt.out.alloc _).grown hgrow hd λq hq=>(Je.out.lt q hq).1);have Qe:=yJ (R5.out.push (l:=row) HOW.out (λb hb'=>heap_alloc_old _ _ hb') (by simp) hgrow hTL.symm hown');go_wp2;go_roundw
   case rel=>exact⟨k+1,by omega,by go_num,_,by rw[VT.out];exact Qe.out,Gu.out,aiK.out⟩
   case measure=>simp[Proofs.intOf];omega
  .have IE:k=ls.length:=by omega
   subst IE;rw[AT] at Fg;have HF:=yJ Fg;go_wp2;go_ret;exact⟨_,xs,rfl,HF.out,E6.out,Xy.out⟩
def kj (A:Option bW)(c:Nat)(ls:List (List Int))(w:a6)(h:Da w w.heap.size A ls)(hl:ls.length<=1048576)(hl2:∀x∈ls,x.length<=1048576) :
  ea B1 10 #[a7 A ls.length c] w λe w'=>∃v xs,e=.returned v/\Ce w' w.heap.size v ls xs/\Gr w w' :=
 (i9 A c ls w h hl hl2).mono λe w' ⟨v,xs,h1,h2,h3,_⟩=>⟨v,xs,h1,h2,h3⟩
open Go.Ct (iw j8 i5)
def Jg {α:Type}(r:Nat->α)(i:Nat)(v:α):Nat->α:=λj=>if j=i then v else r j
def az {α:Type}(r:Nat->α)(i:Nat)(v:α):Jg r i v i=v:=if_pos rfl
def CU {α:Type}{r:Nat->α}{i j:Nat}{v:α}(h:j≠i):Jg r i v j=r j:=if_neg h
def T (n:Nat)(u:Nat->a8):Array Value:=((bc n).map u).toArray
def xF {l:List a8}:l.toArray=T l.length λi=>l[i]?.getD undef:=by
 unfold T;congr 1;refine List.ext_getElem (by simp) λi h1 h2=>?_;simp[h1]
def kO {P:Program}{c:eo}{Q:eb->Act->a6->Prop}{l:List a8}{ds:List dn}{w:a6}(n:Nat)(hn:l.length=n)(h:∀u:Nat->a8,(∀i,u i=l[i]?.getD undef)->c.wp P Q ⟨T n u,ds⟩ w):c.wp P Q ⟨l.toArray,ds⟩ w:=by
 rw[xF,hn];exact h _ λ_=>rfl
open Go.Ct
variable {P:Program} {ops:Array b6} {Q:eb->Act->a6->Prop} {n m:Nat} {u:Nat->a8} {ds:List dn} {w:a6}
def iO {t:Nat}(h:t<n):(T n u)[t]?=bb (u t):=by simp[T,h]
def II:(T n u).size=n:=by simp[T]
def fX {t:Nat}(h:t<n):(⟨T n u,ds⟩:Act).eval (.tmp t)=u t:=by
 show(T n u).getD t undef=u t;rw[zW,iO h];rfl
def yr {d:Nat}{v:a8}:(T n u).setIfInBounds d v=T n (Jg u d v):=by
 refine Array.ext (by rw[Array.size_setIfInBounds,II,II]) λi h1 h2=>?_;rw[II] at h2;have e1:(T n (Jg u d v))[i]?=bb (Jg u d v i):=iO h2;have e2:((T n u).setIfInBounds d v)[i]?=bb (Jg u d v i):=by
  rw[Ai];split
  .rename_i e;subst e;rw[if_pos (by rw[II];exact h2),az]
  .rename_i e;rw[iO h2,CU (Ne.symm e)]
 rw[yS h1] at e2;rw[yS (by rw[II];exact h2)] at e1;injection e1 with e1
 injection e2 with e2
 rw[e1,e2]
def EU (u:Nat->a8):Option Nat->a8->Nat->a8
 |some d,v=>Jg u d v
 |none,_=>u
def gC {d:Option Nat}{v:a8}:(⟨T n u,ds⟩:Act).put d v=⟨T n (EU u d v),ds⟩:=by
 cases d with
 |none=>rfl
 |some d=>show Act.mk _ _=_;rw[yr];rfl
class Rfl (R:a6->a6->Prop):Prop where
 refl:∀w,R w w
class Goes (R:a6->a6->Prop):Prop extends Rfl R where
 trans:∀ {a b c},R a b->R b c->R a c
 drew:∀w,R w w.drew
instance:Goes Gr:={ refl:=Gr.refl,trans:=Gr.trans,drew:=λw=>(Gr.refl w).drew }
variable {R:a6->a6->Prop}
def Done (R:a6->a6->Prop)(P:Program)(ops:Array b6)(Q:eb->Act->a6->Prop)(n:Nat)(ds:List dn)(i:Nat)(V:a8->a6->Prop)(u:Nat->a8)(w:a6):Prop :=
 wpOp P ops Q i (λa' w'=>∃v,a'=⟨T n (EU u ((ops[i]?).bind (·.dst)) v),ds⟩/\R w w'/\V v w') ⟨T n u,ds⟩ w
def Done.weak {R R':a6->a6->Prop}{i:Nat}{V:a8->a6->Prop}(hR:∀w',R w w'->R' w w')(h:Done R P ops Q n ds i V u w):Done R' P ops Q n ds i V u w :=
 dr (λ_ _ ⟨v,h1,h2,h3⟩=>⟨v,h1,hR _ h2,h3⟩) h
def Till (R:a6->a6->Prop)(J:a6->Prop)(c i:Nat)(w w':a6):Prop:=R w w'/\(i≠c->J w->J w')
def Fl (ops:Array b6)(t:Nat):Bool:=ops.all λo=>o.dst != bb t
structure Txt (md:bw)(ops:Array b6)(m:Nat):Prop where
 lt:∀i,i<ops.size->∀j∈K7 md ops i,j<i
 one:∀(i j:Nat) (oi oj:b6) (d:Nat),i<j->ops[i]?=bb oi->ops[j]?=bb oj->oi.dst=bb d->oj.dst≠bb d
 last:m=ops.size\/VU md ops m
def KL (md:bw)(ops:Array b6)(m:Nat):Bool :=
 (bc ops.size).all (λi=>(K7 md ops i).all λj=>decide (j<i))&&decide ((ops.toList.filterMap (·.dst)).Nodup)&&(decide (m=ops.size)||mQ md ops m)
def OL {md:bw}(h:KL md ops m=bh):Txt md ops m:=by
 simp only[KL,yY,zk,zE,zB,decide_eq_true_eq] at h;obtain⟨⟨h1,h2⟩,h3⟩:=h;refine⟨h1,λi j oi oj d hij hi hj hd hdj=>?_,h3.imp id vV⟩;obtain⟨l⟩:=ops;simp only[zA] at hi hj;dsimp only at h2;clear h1 h3
 induction l generalizing i j with
 |nil=>simp at hi
 |cons o l ih =>
  cases i with
  |zero =>
   simp only[zr,Option.some.injEq] at hi;subst hi;rw[cr,hd] at h2;have:=(b7.1 h2).1;refine this (List.mem_filterMap.2 ⟨oj,?_,hdj⟩);cases j with
   |zero=>omega
   |succ j=>exact zS (by simpa using hj)
  |succ i =>
   cases j with
   |zero=>omega
   |succ j =>
    refine ih i j (by omega) ?_ (by simpa using hi) (by simpa using hj);rw[cr] at h2;cases ho:o.dst with
    |none=>rw[ho] at h2;exact h2
    |some x=>rw[ho] at h2;exact(b7.1 h2).2
def bV {l:Array Bool}{i j:Nat}(hs:i<l.size){b:Bool}:(l.setIfInBounds i bh).getD j b=if j=i then bh else l.getD j b:=by
 rw[zW,Ai,zW];by_cases e:i=j
 .subst e;simp[hs]
 .rw[if_neg e,if_neg (Ne.symm e)]
def qa {md:bw}(L:VU md ops m){k:Nat}{listed:Array Bool}(hk:k<ops.size)(hm:m<=k)(hs:listed.size=ops.size)(hl:∀i,i<ops.size->listed.getD i bh=decide (i<k)):cE md ops listed=[k]:=by
 have hd:∀j,j<ops.size->(listed.getD j bD=bh↔j<k):=λj hj=>by
  rw[<-eJ (by omega),hl j hj];simp
 refine filter_one hk λi hi=>?_;have GV:=GJ (md:=md) (ops:=ops) (listed:=listed) (i:=i);unfold cE at GV;rw[AE,zB] at GV;have:_↔_:=⟨λh=>(GV.1 ⟨hi,h⟩).2,λh=>(GV.2 ⟨hi,h⟩).2⟩;rw[this,hl i hi];constructor
 .rintro⟨h1,h2⟩;have h1:¬i<k:=by simpa using h1
  by_cases e:i=k
  .exact e
  .have:=(hd (i-1) (by omega)).1 (h2 _ (L.next i (by omega) hi));omega
 .rintro rfl;exact⟨by simp,λj hj=>(hd j (Nat.lt_trans (L.lt i hi j hj) hi)).2 (L.lt i hi j hj)⟩
def mR {l:List Nat}(h:l.Nodup)(i:Nat):l.erase i=l.filter (· != i):=by
 induction l with
 |nil=>rfl
 |cons a l ih =>
  obtain⟨h1,h2⟩:=b7.1 h;rw[List.erase_cons,List.filter_cons];by_cases e:a=i
  .subst e;simp only[beq_self_eq_true,if_true,bne_self_eq_false,zg,if_false]
   exact(cu.2 λb hb=>by
    have:b≠a:=λe=>h1 (e▸hb)
    simpa using this).symm
  .have e1:(a==i)=false:=by simpa using e
   have e2:(a != i)=true:=by simpa using e
   rw[e1,e2];simp only[zg,if_false,if_true];rw[ih h2]
def tQ {md:bw}(L:VU md ops m):∀(d k:Nat) (listed:Array Bool) (a:Act) (w:a6),k+d=ops.size->m<=k->listed.size=ops.size->(∀i,i<ops.size->listed.getD i bh=decide (i<k))->wpOps P ops Q (bq k d) a w->wpAny P md ops Q d listed a w:=by
 intro d
 induction d with
 |zero =>
  intro k listed a w hk hm hs hl h;refine⟨br.2 λi hi=>?_,h⟩;obtain⟨h1,h2,_⟩:=GJ.1 hi;rw[hl i h1] at h2;simp at h2;omega
 |succ d ih =>
  intro k listed a w hk hm hs hl h;have hr:=qa L (by omega) hm hs hl;refine⟨λe=>(by rw[hr] at e;cases e),λi hi=>?_⟩;rw[hr] at hi;obtain rfl:i=k:=by simpa using hi
  rw[List.range'_succ,wpOps_cons] at h;refine dr (λa w h=>ih (i+1) _ a w (by omega) (by omega) (by simpa using hs) (λj hj=>?_) h) h;rw[bV (by omega),hl j hj];by_cases e:j=i
  .subst e;simp
  .rw[if_neg e];exact decide_eq_decide.2 (by omega)
def vW [Goes R](c:Nat)(J:a6->Prop)(s dS:Nat)(S:(Nat->a8)->a6->Prop)(hS1:∀u w w',R w w'->S u w->S u w')(hS2:∀u w d v,d≠dS->S u w->S (Jg u d v) w){md:bw}(X:Txt md ops m)(Zg:s<m->∀i,i<ops.size->(ops[i]?).bind (·.dst)=bb dS->i∈K7 md ops s)(V:Nat->a8->a6->Prop)(Hy:∀i v w w',R w w'->V i v w->V i v w'){w0:a6}{u0:Nat->a8}
  (step:∀i,i<m->∀u w,R w0 w->(∀t,Fl ops t=bh->u t=u0 t)->(∀j o t,i∈K7 md ops j->ops[j]?=bb o->o.dst=bb t->u t=u0 t)->(∀j∈K7 md ops i,∀o d,ops[j]?=bb o->o.dst=bb d->V j (u d) w)->(i=c->J w)->Done (Till R J c i) P ops Q n ds i (λv w'=>V i v w'/\(i=s->S (EU u ((ops[i]?).bind (·.dst)) v) w')) u w)
  (fin:∀u w,R w0 w->(∀t,Fl ops t=bh->u t=u0 t)->(∀i,i<m->∀o d,ops[i]?=bb o->o.dst=bb d->V i (u d) w)->(s<m->S u w)->wpOps P ops Q (bq m (ops.size-m)) ⟨T n u,ds⟩ w) :
  ∀(fuel:Nat) (listed:Array Bool) (u:Nat->a8) (w:a6),listed.size=ops.size->((bc ops.size).filter λi=>!listed.getD i bh).length=fuel->R w0 w->(∀t,(∀j o,ops[j]?=bb o->o.dst=bb t->listed.getD j bh=bD)->u t=u0 t)->(∀i,i<m->listed.getD i bh=bh->∀o d,ops[i]?=bb o->o.dst=bb d->V i (u d) w)->(∀i,m<=i->i<ops.size->listed.getD i bh=bD) ->
   (∀i,i<m->listed.getD i bh=bh->∀j∈K7 md ops i,listed.getD j bh=bh)->(listed.getD c bh=bD->J w)->(s<m->listed.getD s bh=bh->S u w)->wpAny P md ops Q fuel listed ⟨T n u,ds⟩ w:=by
 have adH:m<=ops.size:=by
  rcases X.last with h|h
  .omega
  .have:=h.size;omega
 have LG:∀ {t:Nat} {listed:Array Bool},Fl ops t=bh->∀j o,ops[j]?=bb o->o.dst=bb t->listed.getD j bh=false:=λ{t} {listed} ht j o hj hd=>by
  unfold Fl at ht;rw[zh] at ht;have:=ht _ (zl hj);rw[hd] at this;simp at this
 intro fuel
 induction fuel with
 |zero =>
  intro listed u w hs hc hg hf hv DN Kn hj hSS;have hall:∀i,i<ops.size->listed.getD i bh=true:=λi hi=>by
   cases hb:listed.getD i bh with
   |true=>rfl
   |false =>
    have:i∈(bc ops.size).filter λi=>!listed.getD i true:=AE.2 ⟨zB.2 hi,by rw[hb];rfl⟩;rw[zj hc] at this;cases this
  have hm:m=ops.size:=by
   rcases zq adH with h|h
   .have:=DN m (yL _) h;rw[hall m h] at this;cases this
   .exact h
  refine⟨br.2 λi hi=>?_,?_⟩
  .obtain⟨h1,h2,_⟩:=GJ.1 hi;rw[hall i h1] at h2;cases h2
  .have:=fin u w hg (λt ht=>hf t (LG ht)) (λi hi=>hv i hi (hall i (by omega))) (λhsm=>hSS hsm (hall s (by omega)));rw[hm,dy] at this;exact this
 |succ fuel ih =>
  intro listed u w hs hc hg hf hv DN Kn hj hSS;by_cases hex:∃i,i<m/\listed.getD i bh=bD
  .refine⟨λhr=>?_,λi hi=>?_⟩
   .exfalso;have hno:∀k i,i<=k->i<m->listed.getD i bh=true:=by
     intro k
     induction k using cU with
     |ind k ihk =>
      intro i hik hi;cases hb:listed.getD i bh with
      |true=>rfl
      |false =>
       have:i∈cE md ops listed:=GJ.2 ⟨by omega,hb,λj hj=>by
        have:=X.lt i (by omega) j hj;rw[<-eJ (by omega)]
        exact ihk j (by omega) j (yL _) (by omega)⟩
       rw[hr] at this;cases this
    obtain⟨i,h1,h2⟩:=hex;rw[hno i i (yL _) h1] at h2;cases h2
   .obtain⟨h1,h2,h3⟩:=GJ.1 hi;have him:i<m:=by
     rcases X.last with h|L
     .omega
     .refine Nat.not_le.1 λhle=>?_;have hup:∀d i0,i0+d=m->i0<m->listed.getD i0 bh=bD->listed.getD m bh=bh\/(∀j∈K7 md ops m,listed.getD j bh=bh)->False:=by
       intro d
       induction d using cU with
       |ind d ihd =>
        intro i0 hd Uu Gx hor;obtain⟨j,hj1,hj2,ZH⟩:=L.up i0 Uu;rcases zq hj2 with hj|hj
        .cases hb:listed.getD j bh with
         |false=>exact ihd (m-j) (by omega) j (by omega) hj hb hor
         |true =>
          have:=Kn j hj hb i0 ZH;rw[Gx] at this;cases this
        .subst hj;rcases hor with h|h
         .rw[DN j (yL _) L.size] at h;cases h
         .rw[h i0 ZH] at Gx;cases Gx
      obtain⟨i0,Uu,Gx⟩:=hex;rcases zq hle with hlt|he
      .have:=h3 (i-1) (L.next i hlt h1);rw[<-eJ (by omega),DN (i-1) (by omega) (by omega)] at this;cases this
      .subst he
       exact hup (m-i0) i0 (by omega) Uu Gx (.inr λj hj=>by
        have:=h3 j hj;have:=L.lt m h1 j hj
        rw[eJ (by omega)];exact h3 j hj)
    have aiM:∀j∈K7 md ops i,∀o d,ops[j]?=bb o->o.dst=bb d->V j (u d) w:=λj hj o d ho hd=>by
     have:=X.lt i h1 j hj;exact hv j (by omega) (by rw[eJ (by omega)];exact h3 j hj) o d ho hd
    refine dr ?_ (step i him u w hg (λt ht=>hf t (LG ht)) (λj o t hij hj hd=>hf t λj' o' hj' hd'=>?_) aiM λe=>hj (by rw[<-e];exact h2))
    rotate_left
    .have Wj : j' = j := by
      rcases Nat.lt_trichotomy j' j with h|h|h
      .exact absurd hd (X.one j' j _ _ _ h hj' hj hd')
      .exact h
      .exact absurd hd' (X.one j j' _ _ _ h hj hj' hd)
     subst Wj;have hjs:j'<ops.size:=(yK.1 hj').1;by_cases hjm:j'<m
     .cases hb:listed.getD j' bh with
      |false=>rfl
      |true =>
       have:=Kn j' hjm hb i hij;rw[h2] at this;cases this
     .exact DN j' (by omega) hjs
    rintro a' w' ⟨v,rfl,⟨hgr,Wj⟩,hV,hVS⟩;refine ih _ _ w' (by simpa using hs) ?_ (Goes.trans hg hgr) (λt ht=>?_) (λj hj hl o d ho hd=>?_) (λj hj Oz=>?_) (λj hj hl k hk=>?_) (λhl=>?_) λhsm hl=>?_
    .have e : ((bc ops.size).filter fun j => !(listed.setIfInBounds i bh).getD j bh) = ((bc ops.size).filter fun j => !listed.getD j bh).erase i := by
      rw[mR (List.nodup_range.filter _),List.filter_filter];refine cw λj hj=>?_;rw[bV (by omega)];by_cases e:j=i
      .simp[e]
      .simp[e]
     rw[e,List.length_erase_of_mem (AE.2 ⟨zB.2 h1,by rw[h2];rfl⟩),hc];rfl
    .have QM : ops[i].dst ≠ bb t := fun e => by
      have:=ht i ops[i] (yS h1) e;rw[bV (by omega),if_pos rfl] at this;cases this
     have:EU u ((ops[i]?).bind (·.dst)) v t=u t:=by
      rw[yS h1];show EU u ops[i].dst v t=u t;cases Ue:ops[i].dst with
      |none=>rfl
      |some d=>exact CU λe=>QM (by rw[Ue,e])
     rw[this];refine hf t λj o hj hd=>?_;have:=ht j o hj hd;rw[bV (by omega)] at this;by_cases e:j=i
     .rw[if_pos e] at this;cases this
     .rwa [if_neg e] at this
    .rw[bV (by omega)] at hl;by_cases e:j=i
     .subst e;rw[ho];show V j (EU u o.dst v d) w';rw[hd];show V j (Jg u d v d) w';rw[az];exact hV
     .rw[if_neg e] at hl;have:EU u ((ops[i]?).bind (·.dst)) v d=u d:=by
       rw[yS h1];show EU u ops[i].dst v d=u d;cases Ue:ops[i].dst with
       |none=>rfl
       |some d' =>
        refine CU λe'=>?_;subst e';rcases Nat.lt_or_gt_of_ne e with h|h
        .exact X.one j i _ _ _ h ho (yS h1) hd Ue
        .exact X.one i j _ _ _ h (yS h1) ho Ue hd
      rw[this];exact Hy _ _ _ _ hgr (hv j hj hl o d ho hd)
    .rw[bV (by omega),if_neg (by omega)];exact DN j hj Oz
    .rw[bV (by omega)] at hl;rw[bV (by omega)];by_cases ek:k=i
     .rw[if_pos ek]
     .rw[if_neg ek];by_cases e:j=i
      .subst e;have:=X.lt j h1 k hk;rw[eJ (by omega)];exact h3 k hk
      .rw[if_neg e] at hl;exact Kn j hj hl k hk
    .rw[bV (by omega)] at hl;by_cases e:c=i
     .rw[if_pos e] at hl;cases hl
     .rw[if_neg e] at hl;exact Wj (Ne.symm e) (hj hl)
    .rw[bV (by omega)] at hl;by_cases e:s=i
     .exact hVS e.symm
     .rw[if_neg e] at hl;have hS:=hS1 _ _ _ hgr (hSS hsm hl);rw[yS h1];show S (EU u ops[i].dst v) w';cases Ue:ops[i].dst with
      |none=>exact hS
      |some d =>
       refine hS2 _ _ _ _ (λed=>?_) hS;subst ed;have:=Kn s hsm hl i (Zg hsm i h1 (by rw[yS h1];exact Ue));rw[h2] at this;cases this
  .have hall : ∀ i, i < m -> listed.getD i bh = true := fun i hi => by
    cases hb:listed.getD i bh with
    |true=>rfl
    |false=>exact absurd ⟨i,hi,hb⟩ hex
   have Ie:=fin u w hg (λt ht=>hf t (LG ht)) (λi hi=>hv i hi (hall i hi)) λhsm=>hSS hsm (hall s hsm);have hl:∀i,i<ops.size->listed.getD i bh=decide (i<m):=λi hi=>by
    by_cases h:i<m
    .rw[hall i h];simp[h]
    .rw[DN i (by omega) hi];simp[h]
   have OM:ops.size-m=fuel+1:=by
    rw[<-hc];have e:((bc ops.size).filter λi=>!listed.getD i bh)=bq m (ops.size-m):=by
     have h1:bc ops.size=bq 0 m++bq m (ops.size-m):=by
      have:=List.range'_append (s:=0) (m:=m) (n:=ops.size-m) (step:=1);rw[Nat.one_mul,yZ] at this;rw[List.range_eq_range',this];congr 1;omega
     rw[h1,AK];have h2:(bq 0 m).filter (λi=>!listed.getD i bh)=[]:=b5.2 λi hi=>by
      have:=cF.1 hi;rw[hall i (by omega)];simp
     have h3:(bq m (ops.size-m)).filter (λi=>!listed.getD i bh)=bq m (ops.size-m):=cu.2 λi hi=>by
      have:=cF.1 hi;rw[DN i (by omega) (by omega)];rfl
     rw[h2,h3];rfl
    rw[e,List.length_range']
   rcases X.last with h|L
   .omega
   .rw[OM] at Ie;exact tQ L (fuel+1) m listed _ w (by omega) (yL _) hs hl Ie
variable {R:a6->a6->Prop} {ops:Array b6} {Q:eb->Act->a6->Prop} {n m:Nat} {u:Nat->a8} {ds:List dn} {w w':a6}
def opAt (ops:Array b6)(i:Nat):Option (Option Tmp×Op×Option (Nat×Bool)×bl):=(ops[i]?).map λo=>(o.dst,o.op,o.guard,o.type)
def LH {i:Nat}{d:Option Tmp}{op:Op}{g:Option (Nat×Bool)}{t:bl}(h:opAt ops i=bb (d,op,g,t)):∃o,ops[i]?=bb o/\o.dst=d/\o.op=op/\o.guard=g/\o.type=t:=by
 unfold opAt at h;cases ho:ops[i]? with
 |none=>rw[ho] at h;cases h
 |some o=>rw[ho] at h;cases h;exact⟨o,rfl,rfl,rfl,rfl,rfl⟩
def Lets (ops:Array b6)(n:Nat)(u:Nat->a8):Option (Nat×Bool)->Prop
 |none=>True
 |some (j,b)=>∃d,(opAt ops j).bind (·.1)=bb d/\d<n/\u d=.bool b
def lz {o:b6}(h:Lets ops n u o.guard):bn o (yielded ops (T n u))=true:=by
 unfold bn;cases hg:o.guard with
 |none=>rfl
 |some q =>
  obtain⟨j,b⟩:=q;rw[hg] at h;obtain⟨d,h1,h2,h3⟩:=h;have e:(ops[j]?).bind (·.dst)=bb d:=by
   unfold opAt at h1;cases ho:ops[j]? with
   |none=>rw[ho] at h1;cases h1
   |some o=>rw[ho] at h1;exact h1
  simp only[yielded,e,zK,iO h2,h3];simp
def kP {i:Nat}{d:Option Tmp}{op:Op}{g:Option (Nat×Bool)}{t:bl}{V:a8->a6->Prop}(h:opAt ops i=bb (d,op,g,t))(hl:Lets ops n u g)
  (hw:∀o:b6,o.dst=d->o.op=op->o.type=t->cf B1 o ⟨T n u,ds⟩ w (λa' w'=>∃v,a'=⟨T n (EU u d v),ds⟩/\R w w'/\V v w') Q):Done R B1 ops Q n ds i V u w:=by
 obtain⟨o,h1,h2,h3,h4,h5⟩:=LH h;unfold Done wpOp;simp only[h1];rw[if_pos (lz (by rw[h4];exact hl))];refine .inl ?_;have e:((bb o:Option b6).bind (·.dst))=d:=h2;rw[e];exact hw o h2 h3 h5
def Uf (n:Nat)(u:Nat->a8)(ev:cq->a8):Prop:=(∀t,t<n->ev (.tmp t)=u t)/\(∀c,ev (.const c)=c)/\∀f,ev (.func f)=.func (.func f) #[] #[]
def eK:Uf n u (Act.eval ⟨T n u,ds⟩):=⟨λ_ h=>fX h,λ_=>rfl,λ_=>rfl⟩
@[go_sem] def IJ (op:Op)(t:TypeId):Oper:={ dst:=none,op:=op,type:=t,pos := "",after:=#[],guard:=none }
def eM {ev:cq->a8}{o:b6}:execOp ev o=execOp ev (IJ o.op o.type):=by
 unfold execOp IJ
 rfl
def Uf.t {ev:cq->a8}(h:Uf n u ev)(t:Nat)(ht:t<n:=by decide):ev (.tmp t)=u t:=h.1 t ht
def aN {j d:Nat}{b:Bool}(h:u d=.bool b)(h1:(opAt ops j).bind (·.1)=bb d:=by rfl)(h2:d<n:=by decide):Lets ops n u (bb (j,b)):=⟨d,h1,h2,h⟩
def aV {i:Nat}{d:Option Tmp}{op:Op}{g:Option (Nat×Bool)}{t:bl}{V:a8->a6->Prop}(h:opAt ops i=bb (d,op,g,t))(v:a8)(w':a6)
  (hr:∀ev,Uf n u ev->(execOp ev (IJ op t)).run B1 w=.ok (.value v) w') (hg:R w w') (hV:V v w') (hl:Lets ops n u g:=by trivial):Done R B1 ops Q n ds i V u w:=by
 refine kP h hl λo h1 h2 h3=>?_;unfold cf;rw[eM,h2,h3,hr _ eK];rw[Oper.upon_value];refine⟨v,?_,hg,hV⟩;rw[h1];exact gC
def lB {f:FuncId} {args:Array cq} {ats:Array bl} {t:bl} {fn:Func} (hf:B1.funcs[f]?=bb fn) {vals:Array a8} (ha:∀ev,Uf n u ev->args.map ev=vals) (hn:(fn.name == "runtime.NumGoroutine")=bD) (hb:fn.body.isNone=bD) :
  (execOp (Act.eval ⟨T n u,ds⟩) (IJ (.call { callee:=.value (.func f),args:=args,argTypes:=ats }) t)).run B1 w=.ok (.enter f vals) w:=by
 unfold execOp IJ;have e1:=ha _ (eK (ds:=ds));have e2:=(eK (n:=n) (u:=u) (ds:=ds)).2.2 f;have Us:fn.name ≠ "runtime.NumGoroutine":=by simpa using hn
 have hb':fn.body≠none:=λe=>by rw[e] at hb;cases hb
 simp[resolve,e1,e2,Deferred.ofValue,invoke,callFunc,hf,Us,hb']
def bf {i:Nat}{d:Option Tmp}{f:FuncId}{args:Array cq}{ats:Array bl}{g:Option (Nat×Bool)}{t:bl}{V:a8->a6->Prop}(h:opAt ops i=bb (d,.call { callee:=.value (.func f),args:=args,argTypes:=ats },g,t)){fn:Func}(hf:B1.funcs[f]?=bb fn)(vals:Array a8)
  (ha:∀ev,Uf n u ev->args.map ev=vals) (hc:ea B1 f vals w λe w'=>∃v,e=.returned v/\R w w'/\V v w') (hl:Lets ops n u g:=by trivial) (hn:(fn.name == "runtime.NumGoroutine")=false:=by kernel_rfl) (hb:fn.body.isNone=false:=by kernel_rfl):Done R B1 ops Q n ds i V u w:=by
 refine kP h hl λo h1 h2 h3=>?_;unfold cf;rw[eM,h2,lB hf ha hn hb,Oper.upon_enter];refine hc.mono ?_;rintro e w' ⟨v,rfl,h5,h6⟩;refine⟨v,?_,h5,h6⟩;rw[h1];exact gC
def aq [Rfl R]{i:Nat}{d:Option Tmp}{op:Op}{g:Option (Nat×Bool)}{t:bl}{x:a8}(h:opAt ops i=bb (d,op,g,t))(hr:∀ev,Uf n u ev->(execOp ev (IJ op t)).run B1 w=.ok (.value x) w)(hl:Lets ops n u g:=by trivial):Done R B1 ops Q n ds i (λv _=>v=x) u w :=
 aV h x w hr (Rfl.refl _) rfl hl
def ai [Rfl R]{i:Nat}{d:Option Tmp}{t:Nat}{g:Option (Nat×Bool)}{ty:bl}{V:a8->a6->Prop}(h:opAt ops i=bb (d,.move (.tmp t),g,ty))(hV:V (u t) w)(hl:Lets ops n u g:=by trivial)(ht:t<n:=by decide):Done R B1 ops Q n ds i V u w :=
 aV h (u t) w (λev he=>by show(pure _:Sem Next).run _ _=_;rw[he.1 t ht];rfl) (Rfl.refl _) hV hl
def cD [Rfl R]{i:Nat}{d:Option Tmp}{t:Nat}{g:Option (Nat×Bool)}{ty:bl}{V:a8->a6->Prop}(h:opAt ops i=bb (d,.assign (.tmp t),g,ty))(hV:V (u t) w)(hl:Lets ops n u g:=by trivial)(ht:t<n:=by decide):Done R B1 ops Q n ds i V u w :=
 aV h (u t) w (λev he=>by show(pure _:Sem Next).run _ _=_;rw[he.1 t ht];rfl) (Rfl.refl _) hV hl
def mS [Rfl R]{i:Nat}{d:Option Tmp}{c:a8}{g:Option (Nat×Bool)}{ty:bl}{V:a8->a6->Prop}(h:opAt ops i=bb (d,.assign (.const c),g,ty))(hV:V c w)(hl:Lets ops n u g:=by trivial):Done R B1 ops Q n ds i V u w :=
 aV h c w (λev he=>by show(pure _:Sem Next).run _ _=_;rw[he.2.1 c];rfl) (Rfl.refl _) hV hl
def dI [Rfl R]{i j:Nat}{d:Option Tmp}{t:Nat}{g:Option (Nat×Bool)}{ty:bl}{V:a8->a6->Prop}(h:opAt ops i=bb (d,.extract (.tmp t) j,g,ty)){X:Array a8}(e:u t=.tuple X){x:a8}(hx:X[j]?=bb x)(hV:V x w)(hl:Lets ops n u g:=by trivial)(ht:t<n:=by decide):Done R B1 ops Q n ds i V u w :=
 aV h x w (λev he=>by
  have e1:=(he.1 t ht).trans e;unfold execOp IJ
  simp[e1,Instr.extract,hx]) (Rfl.refl _) hV hl
def _root_.Go.Sq.RI.on' {w w':a6}{A:Option bW}{l:List Int}(h:RI w w.heap.size A l)(hg:Gr w w'):RI w' w'.heap.size A l:=(h.gr (yL _) hg).more hg.size
noncomputable def mT (t:bl):Bool:=match B1.underlying t with
 |none=>bD
 |some d=>match d with
  |.struct _|.array _ _=>bD
  |_=>bh
def tR {t:bl}(h:mT t=bh)(w:a6):(isAgg t).run B1 w=.ok bD w:=by
 unfold mT at h;cases hd:B1.underlying t with
 |none=>rw[hd] at h;cases h
 |some d =>
  rw[hd] at h;cases d<;>first|(cases h;done)|simp[isAgg,b8 hd]
def aS [Rfl R]{i:Nat}{d:Option Tmp}{a:Nat}{g:Option (Nat×Bool)}{t ty:bl}{p:bW}{x:a8}(h:opAt ops i=bb (d,.load t (.tmp a),g,ty))(e:u a=.pointer (bb p))(hc:w.cell? p=bb x)(hl:Lets ops n u g:=by trivial)(ha:a<n:=by decide)(ht:mT t=true:=by kernel_rfl):Done R B1 ops Q n ds i (λv _=>v=x) u w :=
 aq h (λev he=>by
  have e1:=(he.1 a ha).trans e;unfold execOp IJ
  simp[e1,Instr.loadAt,Instr.sureAddr,loadVar,tR ht,hc]) hl
noncomputable def adJ (s:bl)(k:Nat):Nat:=match B1.underlying s with
 |some (.struct fs)=>(fs[k]?).elim 0 (·.offset)
 |_=>0
noncomputable def fok (s:bl)(k:Nat):Bool:=match B1.underlying s with
 |some (.struct fs)=>match fs[k]? with
  |some f=>(B1.info? f.type).any λi=>i.size != 0
  |none=>bD
 |_=>bD
def bJ [Rfl R]{i:Nat}{d:Option Tmp}{a s k:Nat}{g:Option (Nat×Bool)}{ty:bl}{b o o':Nat}(h:opAt ops i=bb (d,.fieldAddr s (.tmp a) k,g,ty))(e:u a=.pointer (bb ⟨b,o,bk⟩))(ho:o+adJ s k=o':=by kernel_rfl)(hk:fok s k=true:=by kernel_rfl)(hl:Lets ops n u g:=by trivial)(ha:a<n:=by decide):Done R B1 ops Q n ds i (λv _=>v=.pointer (bb ⟨b,o',bk⟩)) u w :=
 aq h (λev he=>by
  have e1:=(he.1 a ha).trans e;subst ho;unfold fok at hk;unfold adJ;split at hk
  .rename_i fs hs;split at hk
   .rename_i f hf;obtain⟨i0,hi,hz⟩:=(Option.any_eq_true _ _).1 hk;have hz:i0.size≠0:=by simpa using hz
    unfold execOp IJ;simp[e1,Instr.fieldAt,Instr.sureAddr,b8 hs,hf,fieldPlace,sizeOf,typeInfo,hi,hz,Addr.add]
   .cases hk
  .cases hk) hl
noncomputable def esz (t:bl):Nat:=match B1.underlying t with
 |some (.slice e)=>(B1.info? e).elim 0 (·.size)
 |_=>0
def aU [Rfl R](s:Nat){i:Nat}{d:Option Tmp}{a b t:Nat}{g:Option (Nat×Bool)}{ty:bl}{q o o' len cap k:Nat}(h:opAt ops i=bb (d,.indexAddr t (.tmp a) (.tmp b),g,ty))(e1:u a=.slice (bb ⟨q,o,bk⟩) len cap)(e2:u b=bo b9 (k:Nat))(hk:k<len:=by omega)(ho:o+k*s=o':=by omega)(hs:esz t=s:=by kernel_rfl)(hz:s≠0:=by decide)(hl:Lets ops n u g:=by trivial)(ha:a<n:=by decide)(hb:b<n:=by decide):Done R B1 ops Q n ds i (λv _=>v=.pointer (bb ⟨q,o',bk⟩)) u w :=
 aq h (λev he=>by
  have e1:=(he.1 a ha).trans e1;have e2:=(he.1 b hb).trans e2;subst ho hs;unfold esz at hz ⊢;split at hz
  .rename_i e hs;cases hi:B1.info? e with
   |none=>rw[hi] at hz;exact absurd rfl hz
   |some i0 =>
    unfold execOp IJ;by_cases h0:k*i0.size=0<;>simp[e1,e2,Instr.indexAt,b8 hs,asIntOf,sizeOf,typeInfo,hi,Addr.add,hk,h0]
  .exact absurd rfl hz) hl
end Go.Sq
