/- Parts of the proof. -/
import Derived.Test.YtghipmneleifpaaGreatP22
import Derived.Test.YtghipmneleifpaaGreatP19
import Derived.Test.YtghipmneleifpaaGreatP00
import Derived.Test.YtghipmneleifpaaGreatP23
import Derived.Test.YtghipmneleifpaaGreatP18
import Derived.Test.YtghipmneleifpaaGreatP06
import Derived.Test.YtghipmneleifpaaGreatP21
import Derived.Test.YtghipmneleifpaaGreatP20
set_option linter.all false
set_option maxHeartbeats 6400000
set_option maxRecDepth 1000000
open Go.Value renaming slice->a6,int->bb,pointer->bw
open Option renaming none->a7,some->a8
open Go.IntKind renaming i64->bc,signed->cf,wrap->cr,bits->cw
open Go.Obj renaming cells->bh
open Go renaming World->bk,Value->bl,Addr->cE
open Go.World renaming alloc_heap_new->bn,setCell->bA
open Go.Proofs.Tryz renaming f3->bq
open List.range renaming loop->br
open Go.Addr renaming add_lit->bD
open List renaming range->bW,getElem?_set->b9
open Int renaming toNat_of_nonneg->b5,tmod_lt_of_pos->b7
namespace Go.Sq
open Go.RowKit
def iE {w:bk}{B s n b g:Nat}{e e':TypeId}{v:bl}{xs:List bl}{X:Array bl}(h:w.ownsRow B e s v n xs)(hb:w.heap[b]?=a8 (.cells X e' (0,0)))(he:e≠e')(hg:v.ownBlock=a8 g):b≠g:=λe0=>by
 subst e0;rcases h.2 with⟨rfl,_⟩|⟨g',c,cur,rfl,_,h3,_⟩
 .cases hg
 .cases hg
  rw[hb] at h3;injection h3 with h3
  injection h3 with _ h3 _
  exact he h3.symm
section
variable {W6 w8:bk} {o:Obj} {lo b0 g2 c2 k:Nat} {ls:List (List Int)} {xs:List bl} {uk v8:bl} {x':List Int}
def fZ (Fg:Ce W6 lo (.slice (a8 ⟨g2,0,a7⟩) ls.length c2) ls xs)(hk:k<ls.length)(huk:xs[k]?=a8 uk)(hgrow:(W6.alloc o).grownBy w8 uk.ownBlock):w8.heap[g2]?=W6.heap[g2]?:=by
 have hl:=(Fg.row.lt g2 rfl).2;obtain⟨u,h1,h2⟩:=Fg.cells k ls[k] (yM hk);rw[huk] at h1;cases h1;exact(hgrow.block g2 (by simp<;>omega) (be (by decide) Fg.row h2 rfl)).trans (heap_alloc_old _ _ hl)
def ui (Fg:Ce W6 lo (.slice (a8 ⟨g2,0,a7⟩) ls.length c2) ls xs)(hap:Apart xs)(hk:k<ls.length)(huk:xs[k]?=a8 uk)(hgrow:(W6.alloc o).grownBy w8 uk.ownBlock)(hown:w8.ownsRow lo 3 1 v8 x'.length (x'.map (bb bc))) :
  Ce (w8.setCell ⟨g2,k,a7⟩ v8) lo (.slice (a8 ⟨g2,0,a7⟩) (ls.set k x').length c2) (ls.set k x') (xs.set k v8):=by
 have hl:=(Fg.row.lt g2 rfl).2;have hgb:=fZ Fg hk huk hgrow;have hlen:xs.length=ls.length:=by have:=Fg.row.1;omega
 have hs:∀b,b≠g2->(w8.setCell ⟨g2,k,a7⟩ v8).heap[b]?=w8.heap[b]?:=λb hb=>yU _ _ _ _ hb;have Um:w8.ownsRow lo 22 1 (.slice (a8 ⟨g2,0,a7⟩) ls.length c2) ls.length xs:=al Fg.row λg hg _=>by cases hg;exact hgb
 refine⟨by rw[Bc];exact(Um.stored k v8).1,λi l hi=>?_⟩;rw[b9] at hi;by_cases e:k=i
 .subst e;rw[if_pos rfl,if_pos hk] at hi;cases hi;exact⟨v8,by rw[List.getElem?_set_self (by omega)],al hown λb hb _=>hs b λe=>be (by decide) hown Um hb (by rw[e];rfl)⟩
 .rw[if_neg e] at hi;obtain⟨u,h1,h2⟩:=Fg.cells i l hi;have hne:∀g,u.ownBlock=a8 g->a8 g≠uk.ownBlock:=λg hg he=>by
   rcases Nat.lt_or_gt_of_ne e with h|h
   .exact hap k i uk u g h huk h1 hg he.symm
   .exact hap i k u uk g h h1 huk he.symm hg
  have h3:w8.ownsRow lo 3 1 u l.length (l.map (bb bc)):=al h2 λg hg Jn=>(hgrow.block g (by simp;omega) (hne g hg)).trans (heap_alloc_old _ _ Jn);exact⟨u,by rw[AS (by omega)];exact h1,al h3 λb hb _=>hs b λe=>be (by decide) h3 Um hb (by rw[e];rfl)⟩
end
section
variable {w:bk} {base g hc nc B:Nat} {c:Cc} {nA oA:Option cE} {oc:Nat} {xs:List bl} {x:CF}
def bE (w:bk)(g:Nat)(x:CF)(oA:Option cE)(oc:Nat):World:=(((w.setCell ⟨g,0,a7⟩ (bb bc x.heads)).setCell ⟨g,1,a7⟩ (bb bc x.Dd)).setCell ⟨g,2,a7⟩ (bb bc x.most)).setCell ⟨g,3,a7⟩ (a6 oA x.off.length oc)
def ci {b:Nat}(hb:b≠g):(bE w g x oA oc).heap[b]?=w.heap[b]? :=
 (yU _ _ _ _ hb).trans ((yU _ _ _ _ hb).trans ((yU _ _ _ _ hb).trans (yU _ _ _ _ hb)))
def ej:(bE w g x oA oc).heap.size=w.heap.size:=by simp[bE,bA]
def OX (h:Eb w base c (a6 nA c.B3.length nc) (.slice (a8 ⟨g,0,a7⟩) c.B2.length hc) xs)(hm:0<c.B2.length)(Fv:RI w B oA x.off)(hB:B<=base) :
  RI (bE w g x oA oc) (bE w g x oA oc).heap.size nA c.B3/\Db (bE w g x oA oc) (bE w g x oA oc).heap.size (a8 ⟨g,0,a7⟩) (c.B2.set 0 x):=by
 have hlen:xs.length=c.B2.length*4:=h.own.1;have hg1:=h.own.lt g rfl;have ok:∀ {sz n:Nat} {y:bl} {zs:List bl},w.ownsRow base 3 sz y n zs->(bE w g x oA oc).ownsRow base 3 sz y n zs:=λho=>al ho λb hb _=>ci λe=>be (by decide) ho h.own hb (by rw[e];rfl);constructor
 .obtain⟨A,k,e,hr⟩:=Bp (ok h.B3);injection e with e1 _ _
  subst e1;exact hr
 .refine λ_=>⟨g,0,rfl,by rw[ej];exact hg1.2,λi y hi=>?_⟩;rw[yZ];rw[b9] at hi;have cell:∀j,j<xs.length->∃z,w.cell? ⟨g,j,a7⟩=a8 z:=λj hj=>by
   have:=h.own.cells (g:=g) rfl j _ (yM hj);rw[bD,yZ] at this;exact⟨_,this⟩
  by_cases e:0=i
  .subst e;rw[if_pos rfl,if_pos hm] at hi;cases hi;obtain⟨z0,h0⟩:=cell 0 (by omega);obtain⟨z1,h1⟩:=cell 1 (by omega);obtain⟨z2,h2⟩:=cell 2 (by omega);obtain⟨z3,h3⟩:=cell 3 (by omega);refine⟨?_,?_,?_,oA,oc,?_,?_⟩
   .exact(yP _ _ _ _ (by simp)).trans ((yP _ _ _ _ (by simp)).trans ((yP _ _ _ _ (by simp)).trans (yW _ _ _ h0)))
   .exact(yP _ _ _ _ (by simp)).trans ((yP _ _ _ _ (by simp)).trans (yW _ _ _ ((yP _ _ _ _ (by simp)).trans h1)))
   .exact(yP _ _ _ _ (by simp)).trans (yW _ _ _ ((yP _ _ _ _ (by simp)).trans ((yP _ _ _ _ (by simp)).trans h2)))
   .exact yW _ _ _ ((yP _ _ _ _ (by simp)).trans ((yP _ _ _ _ (by simp)).trans ((yP _ _ _ _ (by simp)).trans h3)))
   .exact(Fv.keep λb o hb=>zd (ci (by show b≠g;omega))).more (by rw[ej];omega)
  .rw[if_neg e] at hi;have YP:=(ze.1 hi).1;obtain⟨z,h1,h2⟩:=h.Jf i y hi;obtain⟨A,k,e',hr⟩:=Bp (ok h2);subst e';have at_:∀j v,j<4->(cW y (a6 A y.off.length k))[j]?=a8 v->(bE w g x oA oc).cell? ⟨g,i*4+j,a7⟩=a8 v:=λj v hj hv=>by
    have:=h.own.cells (g:=g) rfl (i*4+j) _ ((h1 j hj).trans hv);rw[bD,yZ] at this;exact(yP _ _ _ _ (by simp<;>omega)).trans ((yP _ _ _ _ (by simp<;>omega)).trans ((yP _ _ _ _ (by simp<;>omega)).trans ((yP _ _ _ _ (by simp<;>omega)).trans this)))
   exact⟨at_ 0 _ (by omega) rfl,at_ 1 _ (by omega) rfl,at_ 2 _ (by omega) rfl,A,k,at_ 3 _ (by omega) rfl,hr⟩
end
open Go.Ct
structure Wa (W W':bk)(c:Cc)(ls:List (List Int))(v nv hv:bl)(b2:Nat)(xs zs:List bl):Prop where
 Mc:Ce W' W.heap.size v ls xs
 apart:Apart xs
 lo:W.heap.size<=b2
 Ek:Eb W' b2 c nv hv zs
 far:∀g,(v.ownBlock=a8 g\/∃u∈xs,u.ownBlock=a8 g)->g<b2
def uj {w:bk}{B b:Nat}{c:Cc}{vN vH x y:bl}{zs:List bl}(hb:w.heap[b]?=a8 (bh #[.slice a7 0 0,.slice a7 0 0] 25 (0,0)))(h:Eb w B c vN vH zs):Eb ((w.setCell ⟨b,0,a7⟩ x).setCell ⟨b,1,a7⟩ y) B c vN vH zs :=
 ⟨al h.B3 λg hg _=>cP g (fl h.B3 hb (by decide) hg),al h.own λg hg _=>cP g (fl h.own hb (by decide) hg),λi l hi=>by
  obtain⟨u,h1,h2⟩:=h.Jf i l hi
  exact⟨u,h1,al h2 λg hg _=>cP g (fl h2 hb (by decide) hg)⟩⟩
def oW {w:bk}{base:Nat}{v:bl}{ls:List (List Int)}{xs:List bl}(h:Ce w base v ls xs):∀g,(v.ownBlock=a8 g\/∃u∈xs,u.ownBlock=a8 g)->base<=g/\g<w.heap.size:=λg hg=>by
 rcases hg with hg|⟨u,hu,hg⟩
 .exact h.row.lt g hg
 .obtain⟨i,hi,rfl⟩:=zZ.1 hu;have hl:xs.length=ls.length:=by have:=h.row.1;omega
  obtain⟨z,h1,h2⟩:=h.cells i ls[i] (yM (by omega));rw[yM hi] at h1;injection h1 with h1
  subst h1;exact h2.lt g hg
def xT {W wg wc:bk}{b1:Nat}{o:Obj}{c:Cc}{ls:List (List Int)}{v nv hv:bl}{xs zs:List bl}(Fg:Ce wg b1 v ls xs)(hap:Apart xs)(hb1:W.heap.size<=b1)(hz:W.heap.size<=wg.heap.size)(hg:Gr wg wc)(Ic:Eb wc wg.heap.size c nv hv zs) :
  Wa W (wc.alloc o) c ls v nv hv wg.heap.size xs zs :=
 ⟨(du Fg hb1).gr (hg.alloc o),hap,hz,Ic.keep λb _ hb=>heap_alloc_old _ _ hb,λg h=>(oW Fg g h).2⟩
def su {W wg wg' wc:bk}{b1 b:Nat}{x y:bl}{c:Cc}{ls:List (List Int)}{v nv hv:bl}{xs zs:List bl}(Fg:Ce wg b1 v ls xs)(hap:Apart xs)(hb1:W.heap.size<=b1)(hz:W.heap.size<=wg.heap.size)(KZ:Gr wg wg')(hg:Gr wg' wc)(Ic:Eb wc wg'.heap.size c nv hv zs)(hby:wc.heap[b]?=a8 (bh #[.slice a7 0 0,.slice a7 0 0] 25 (0,0))) :
  Wa W ((wc.setCell ⟨b,0,a7⟩ x).setCell ⟨b,1,a7⟩ y) c ls v nv hv wg'.heap.size xs zs :=
 ⟨Nz hby ((du Fg hb1).gr (KZ.trans hg)),hap,yR hz KZ.size,uj hby Ic,λg h=>yO (oW Fg g h).2 KZ.size⟩
open Go.Proofs
def yt {gA nA hA:Option cE}{gc nc hc b14:Nat}{c:Cc}{ls:List (List Int)}{W:bk}{u:Nat->bl}{K:Act->bk->Prop}(Zt:u 14=.pointer (a8 ⟨b14,0,a7⟩))(h15:u 15=a6 gA ls.length gc)
    (NC:b14<W.heap.size) (c0:W.cell? ⟨b14,0,a7⟩=a8 (a6 nA c.B3.length nc)) (c1:W.cell? ⟨b14,1,a7⟩=a8 (a6 hA c.B2.length hc)) (hg:Da W W.heap.size gA ls) (hn:RI W W.heap.size nA c.B3) (hh:Db W W.heap.size hA c.B2) (Dx:c.Ok) (hl:ls.length<=5) (J6:∀x∈ls,x.length<=4)
    (hK:∀W' u' b17 nA3 hA3 KO hc3 b2 xs zs,Gr W W'->(u' 1=u 1/\u' 3=u 3/\u' 4=u 4/\u' 6=u 6/\u' 8=u 8/\u' 14=u 14/\u' 15=u 15)->u' 17=.pointer (a8 ⟨b17,0,a7⟩)->W.heap.size<=b17->b17<W'.heap.size->W'.heap[b17]?=a8 (bh #[a6 nA3 c.B3.length KO,a6 hA3 c.B2.length hc3] 25 (0,0)) ->
      Wa W W' c ls (u' 16) (a6 nA3 c.B3.length KO) (a6 hA3 c.B2.length hc3) b2 xs zs->K ⟨T 155 u',[]⟩ W'):(q9 5).wp B1 (Exit.then K λ_ _ _=>False) ⟨T 155 u,[]⟩ W:=by
  have h5:=Dx.n5;have h4:=Dx.h4;have H33:=yJ λV (hV:Gr W V)=>i9 gA gc ls V (hg.on hV) (by omega) (λx hx=>yR (J6 x hx) (by omega));have H23:=λV (hV:Gr W V)=>jc nA hA nc hc c V V.heap.size (yL _) ((hn.gr (yL _) hV).more hV.size) (hh.on hV) (by omega) (by omega) (λh hh=>yR (Dx.off h hh).1 (by omega));unfold Cj at H23;replace H23:=yJ H23;have HC:Hid (∀V,Gr W V->(V.cell? ⟨b14,0,a7⟩=a8 (a6 nA c.B3.length nc)/\V.cell? ⟨b14,1,a7⟩=a8 (a6 hA c.B2.length hc))/\b14<V.heap.size):=yJ λV hV=>⟨⟨(hV.cell (p:=⟨b14,0,a7⟩) NC).trans c0,(hV.cell (p:=⟨b14,1,a7⟩) NC).trans c1⟩,yO NC hV.size⟩
  have HK:=yJ hK;obtain⟨⟨a0,a1⟩,a2⟩:=HC.out W.drew (Gr.refl W).drew;have LI:=yJ ((Gr.refl W).drew);clear hg hn hh Dx hK;have ez:q9 5=EF (DC 5 aJ):=rfl;simp only[DC,aJ,bq,zc,Hx,EF] at ez;rw[ez];clear ez;unfold T;simp only[bW,br,Ae,Ag,Zt,h15];have H14:=yJ Zt;have H15:=yJ h15;clear Zt h15
  go_region_law (first
    |(refine iA (by rfl) ?_;go_simp;go_at_call 10;refine(H33.out _ (by first|exact LI.out|exact LI.out.alloc _)).mono ?_;rintro e wg ⟨vg,xg,rfl,Fg,KZ,hap⟩;have PF:=yJ Fg;have Xy:=yJ hap;have HZG:=yJ ((show Gr W _ by first|exact LI.out|exact LI.out.alloc _).trans KZ).size;have Zu:=yJ ((show Gr W _ by first|exact LI.out|exact LI.out.alloc _).trans KZ);(try (have SC:wg.heap[W.heap.size]?=a8 (bh #[.slice a7 0 0,.slice a7 0 0] 25 (0,0)):=(KZ.below.block W.heap.size (by simp)).trans (bn W.drew (bh #[.slice a7 0 0,.slice a7 0 0] 25))));clear a0 a1 a2 Fg KZ hap;obtain⟨⟨a0,a1⟩,a2⟩:=HC.out wg Zu.out;replace LI:=Zu;clear Zu;dsimp only)
    |(refine iA (by rfl) ?_;go_simp;go_at_call 11;refine(H23.out _ (by first|exact LI.out|exact LI.out.alloc _)).mono ?_;rintro e wc ⟨OT,nA3,hA3,KO,hc3,zs,rfl,Ic⟩;have Il:=yJ Ic;have HGK:=yJ OT;(first|(have hby:wc.heap[W.heap.size]?=a8 (bh #[.slice a7 0 0,.slice a7 0 0] 25 (0,0)):=(OT.below.block _ (yK.1 SC).1).trans SC;have b0:=(D4 hby).1.1;have b1:=(D4 hby).1.2.1;have f0:=(D4 hby).1.2.2.1;have f1:=(D4 hby).1.2.2.2)|(have hby:=(OT.below.block _ (by simp)).trans (bn wg (bh #[.slice a7 0 0,.slice a7 0 0] 25));have b0:=(D4 hby).1.1;have b1:=(D4 hby).1.2.1;have f0:=(D4 hby).1.2.2.1;have f1:=(D4 hby).1.2.2.2)|skip);have Zu:=yJ ((show Gr W _ by first|exact LI.out|exact LI.out.alloc _).trans OT);clear a0 a1 a2 Ic OT;obtain⟨⟨a0,a1⟩,a2⟩:=HC.out wc Zu.out;replace LI:=Zu;clear Zu;unfold Cj;dsimp only))
  all_goals
    show K _ _;have hzc:=LI.out.size
    first
      | (refine K_T 155 rfl fun u' hu => ?_
         have VN := hu 16;refine HK.out _ u' wc.heap.size nA3 hA3 KO hc3 wg.heap.size xg zs (LI.out.alloc _) ⟨hu 1, hu 3, hu 4, hu 6, hu 8, (hu 14).trans H14.out.symm, (hu 15).trans H15.out.symm⟩ (hu 17) hzc (by simp) (heap_alloc_new _ _) ?_;rw [show u' 16 = vg from hu 16]
         exact xT PF.out Xy.out (yL _) HZG.out HGK.out Il.out)
      | (refine K_T 155 rfl fun u' hu => ?_
         refine HK.out _ u' wg.heap.size nA3 hA3 KO hc3 (wg.alloc (bh #[.slice a7 0 0, .slice a7 0 0] 25)).heap.size xg zs (ko LI.out HZG.out) ⟨hu 1, hu 3, hu 4, hu 6, hu 8, (hu 14).trans H14.out.symm, (hu 15).trans H15.out.symm⟩ (hu 17) HZG.out (by rw [fk]; exact (yK.1 hby).1) (Cz (i := 1) (Cz (i := 0) hby)) ?_;rw [show u' 16 = vg from hu 16]
         exact su PF.out Xy.out (yL _) HZG.out ((Gr.refl wg).alloc _) HGK.out Il.out hby)
      | (refine K_T 155 rfl fun u' hu => ?_
         refine HK.out _ u' W.heap.size nA3 hA3 KO hc3 wg.heap.size xg zs (ko LI.out (yL _)) ⟨hu 1, hu 3, hu 4, hu 6, hu 8, (hu 14).trans H14.out.symm, (hu 15).trans H15.out.symm⟩ (hu 17) (yL _) (by rw [fk]; exact (yK.1 hby).1) (Cz (i := 1) (Cz (i := 0) hby)) ?_;rw [show u' 16 = vg from hu 16]
         exact su PF.out Xy.out (by show W.heap.size<=(W.alloc _).heap.size;simp) HZG.out (.refl wg) HGK.out Il.out hby)
def Wc (x:Int){n:Int}(hn:0<n):-n<x.tmod n/\x.tmod n<n:=by
 have h1:=b7 x hn;have h2:=b7 (-x) hn;rw[Int.neg_tmod] at h2;omega
def xU (x:Int)(n:Nat)(w:bk)(hn:0<n)(LK:n<=1048576):Calls B1 12 #[bb bc x,bb bc n] w λe w'=>(∃k:Nat,e=.returned (bb bc k)/\k<n)/\w=w':=by
 obtain⟨h1,h2⟩:=Wc x (show 0<(n:Int) by omega);have hw:IntKind.i64.wrap (x.tmod n)=x.tmod n:=by simp[cr,cw,cf];omega
 have hw2:IntKind.i64.wrap (x.tmod n+n)=x.tmod n+n:=by simp[cr,cw,cf];omega
 go_enter Sq.func12,Tryz.ntmps12;by_cases h0:x.tmod n<0
 .go_wp2;go_ret;exact⟨⟨(x.tmod n+n).toNat,by rw[b5 (by omega)];rfl,by omega⟩,rfl⟩
 .go_wp2;go_ret;exact⟨⟨(x.tmod n).toNat,by rw[b5 (by omega)];rfl,by omega⟩,rfl⟩
open Go.Ct (aG aw)
def xV {rest:Code}{tgt:List Item}{N:Act->bk->Prop}{W5 W:bk}{u:Nat->bl}{c:Cc}{ls:List (List Int)}{x:CF}{at_ by_:Int}{oA nA3 hA3:Option cE}{oc b8 b17 KO hc3 b2 B:Nat}{xs zs:List bl}
  (h3:u 3=bb bc at_) (h4:u 4=bb bc by_) (h8:u 8=.pointer (a8 ⟨b8,0,a7⟩)) (VO:u 17=.pointer (a8 ⟨b17,0,a7⟩)) (hC:Wa W5 W c ls (u 16) (a6 nA3 c.B3.length KO) (a6 hA3 c.B2.length hc3) b2 xs zs) (hg:Gr W5 W)
  (hb8:b8<W5.heap.size) (k0:W5.cell? ⟨b8,0,a7⟩=a8 (bb bc x.heads)) (k1:W5.cell? ⟨b8,1,a7⟩=a8 (bb bc x.Dd)) (k2:W5.cell? ⟨b8,2,a7⟩=a8 (bb bc x.most)) (k3:W5.cell? ⟨b8,3,a7⟩=a8 (a6 oA x.off.length oc))
  (SC:W.heap[b17]?=a8 (bh #[a6 nA3 c.B3.length KO,a6 hA3 c.B2.length hc3] 25 (0,0))) (Dx:c.Ok) (hl:ls.length=c.B3.length) (J6:∀y∈ls,y.length<=4) (Fv:RI W5 B oA x.off) (hB:B<=W5.heap.size)
  (hK:∀W' u' k g2 LJ,Gr W5 W'->(u' 1=u 1/\u' 6=u 6/\u' 14=u 14/\u' 15=u 15/\u' 17=u 17)->k<ls.length->u' 16=.slice (a8 ⟨g2,0,a7⟩) ls.length LJ->ls.length<=LJ->Da W' W'.heap.size (a8 ⟨g2,0,a7⟩) (ls.set k (ls[k]?.getD []++[by_])) ->
   b17<W'.heap.size->W'.cell? ⟨b17,0,a7⟩=a8 (a6 nA3 c.B3.length KO)->W'.cell? ⟨b17,1,a7⟩=a8 (a6 hA3 c.B2.length hc3)->RI W' W'.heap.size nA3 c.B3->Db W' W'.heap.size hA3 (c.B2.set 0 x)->aG B1 tgt rest N ⟨T 155 u',[]⟩ W') :
  aG B1 tgt (.seq (q9 6) (.seq (q9 7) (.seq (q9 8) rest))) N ⟨T 155 u,[]⟩ W:=by
 have G6:=Dx.n1;have Mr:=Dx.n5;have Ox:=Dx.h1;have hm4:=Dx.h4;obtain⟨g2,LJ,VN,ajj,hg2l⟩:=hC.Mc.form (by omega);have hC2:=hC;rw[VN] at hC2;have VZ:ls.length<=LJ:=kQ hC2.Mc.row;have F4:1<=ls.length:=by omega
 have Qf:ls.length<=5:=by omega
 have HL:=yJ hl;have HC:=yJ hC2;have HK:=yJ hK;have HG:=yJ hg;have HW:=yJ (xU at_ ls.length W (by omega) (by omega));have HOF:=yJ Fv;have FQ:=yJ Dx;have HLL:=yJ J6;have Vv:=yJ SC;have HK8:=yJ (And.intro (And.intro k0 k1) (And.intro k2 k3));have Xq:=yJ VO;have E16:=yJ VN;clear hl hC hC2 hK hg Fv Dx J6 SC k0 k1 k2 k3;unfold T;simp only[bW,br,Ae,Ag,h3,h4,h8,VO,VN]
 clear h3 h4 h8 VO VN;refine aw λK hK=>?_;have ez:q9 6=EF (DC 6 aJ):=rfl;simp only[DC,aJ,bq,zc,Hx,EF] at ez;rw[ez];clear ez;go_wp2_with fail;refine HW.out.mono ?_;rintro e w' ⟨⟨k,rfl,hk⟩,rfl⟩;obtain⟨uk,UI,UJ⟩:=HC.out.Mc.cells k ls[k] (yM hk);obtain⟨A2,cc2,rfl⟩:=DR UJ;have hcell:=HC.out.Mc.row.cells (g:=g2) rfl k _ UI;rw[bD,yZ] at hcell;have FA:(ls[k]).length<=4:=HLL.out _ (zx hk)
 have HE:Hid (ls[k]?.getD []=ls[k]):=yJ (by rw[yM hk];rfl);have HU2:=yJ UJ;have HU1:=yJ UI;obtain⟨row,hrow⟩:∃row,row=ls[k]:=⟨_,rfl⟩;rw[<-hrow] at HE HU2 HU1 hcell FA;have HRW:=yJ hrow;clear UI UJ HW hrow;go_wp2;refine aw λK hK=>?_;have ez:q9 7=EF (DC 7 aJ):=rfl;simp only[DC,aJ,bq,zc,Hx,EF] at ez;rw[ez];clear ez;go_wp2_with (at_builtin;refine jW rfl _ _ rfl W5.heap.size _ _ _ rfl (HU2.out.alloc _) ⟨W.heap.size,0,a7⟩ 1 (bb bc by_) rfl ?c1 rfl ?c2 ?c3 ?_)
 case c1=>rw[yN _ _ _ _ rfl];rfl
 case c2=>omega
 case c3=>have:=HG.out.size;simp;omega
 intro v8 w8 Jh Jy hd8;obtain⟨A8,c8,rfl⟩:=DR Jh;have Ir:w8.ownsRow W5.heap.size 3 1 (a6 A8 (row.length+1) c8) (row++[by_]).length ((row++[by_]).map (bb bc)):=by simpa using Jh
 have hgb:=fZ HC.out.Mc hk HU1.out Jy;have Nk:=yJ (ui HC.out.Mc HC.out.apart hk HU1.out Jy Ir);have Zv:=(zd (a:=⟨g2,k,a7⟩) hgb).trans hcell;have ajk:=(An (a:=⟨g2,k,a7⟩) hgb).trans (HC.out.Mc.row.frozenAt k);have XF:=yJ (((HG.out.alloc (bh #[bb bc by_] 3)).grown Jy hd8 λq hq=>(HU2.out.lt q hq).1).setCell (p:=⟨g2,k,a7⟩) ajj (a6 A8 (row.length+1) c8))
 have VC:Hid (∀b,b<W.heap.size->a8 b≠(a6 A2 row.length cc2).ownBlock->b≠g2->(w8.setCell ⟨g2,k,a7⟩ (a6 A8 (row.length+1) c8)).heap[b]?=W.heap[b]?):=yJ λb hb h1 h2=>(yU _ _ _ _ h2).trans ((Jy.block b (by simp;omega) h1).trans (heap_alloc_old _ _ hb));have hz8:W.heap.size<w8.heap.size:=by have:=Jy.size;simp at this;omega
 have hgl8:g2<w8.heap.size:=by omega
 clear Jh Ir hgb Jy hd8 hcell;go_wp2;obtain⟨W8,hW8⟩:∃W8,W8=w8.setCell ⟨g2,k,a7⟩ (a6 A8 (row.length+1) c8):=⟨_,rfl⟩;rw[<-hW8] at Nk XF VC ⊢;have hzW:W8.heap.size=w8.heap.size:=by rw[hW8];simp[bA]
 have GV:a6 A2 row.length cc2∈xs:=zS HU1.out
 have hcm:Eb W8 b2 c (a6 nA3 c.B3.length KO) (a6 hA3 c.B2.length hc3) zs:=HC.out.Ek.keep λb hb hlb=>VC.out b hlb (λe=>by
  have:=HC.out.far b (.inr ⟨_,GV,e.symm⟩);omega) (λe=>by
  have:=HC.out.far g2 (.inl rfl)
  omega)
 obtain⟨gh,rfl⟩:∃gh,hA3=a8 ⟨gh,0,a7⟩:=by
  rcases hcm.own.2 with⟨e,h0⟩|⟨g,cap,cur,e,_⟩
  .omega
  .injection e with e _ _
   exact⟨g,e⟩
 have M8:=yJ hcm;have hgh:=hcm.own.lt gh rfl;have QD:W8.heap[b17]?=a8 (bh #[a6 nA3 c.B3.length KO,.slice (a8 ⟨gh,0,a7⟩) c.B2.length hc3] 25 (0,0)):=(VC.out b17 (yK.1 Vv.out).1 (λe=>(iE HU2.out Vv.out (by decide) e.symm) rfl) (iE HC.out.Mc.row Vv.out (by decide) rfl)).trans Vv.out;have q0:=(cell_of_heap QD 0).1;have q1:=(cell_of_heap QD 1).1;have ql:=(yK.1 QD).1
 have Un:W8.heap[b8]?=W5.heap[b8]?:=XF.out.below.block b8 hb8;obtain⟨⟨k0,k1⟩,k2,k3⟩:=HK8.out;replace k0:=(zd (a:=⟨b8,0,a7⟩) Un).trans k0;replace k1:=(zd (a:=⟨b8,1,a7⟩) Un).trans k1;replace k2:=(zd (a:=⟨b8,2,a7⟩) Un).trans k2;replace k3:=(zd (a:=⟨b8,3,a7⟩) Un).trans k3;have hb8l:b8<W8.heap.size:=by have:=XF.out.size;omega
 have hzl:zs.length=c.B2.length*4:=hcm.own.1;have d0:=(hcm.own.cellAt 0 (by omega)).trans (yM (show 0<zs.length by omega));have d1:=(hcm.own.cellAt 1 (by omega)).trans (yM (show 1<zs.length by omega));have d2:=(hcm.own.cellAt 2 (by omega)).trans (yM (show 2<zs.length by omega));have d3:=(hcm.own.cellAt 3 (by omega)).trans (yM (show 3<zs.length by omega));have f0:=hcm.own.frozenAt 0;have f1:=hcm.own.frozenAt 1
 have f2:=hcm.own.frozenAt 2;have f3:=hcm.own.frozenAt 3;have hghl:=hgh.2;have HGH:=yJ hgh;have XG:b17≠gh:=iE hcm.own QD (by decide) rfl;have HNE:=yJ XG;have ajn:=yJ QD;generalize zs[0]=z0 at d0;generalize zs[1]=z1 at d1;generalize zs[2]=z2 at d2;generalize zs[3]=z3 at d3;clear hcm QD Un GV hW8 ajk Zv XG hgh;refine aw λK hK=>?_;have ez:q9 8=EF (DC 8 aJ):=rfl;simp only[DC,aJ,bq,zc,Hx,EF] at ez
 rw[ez];clear ez;go_wp2;refine Go.Sq.K_T (K:=λa w=>aG B1 tgt rest N a w) 155 rfl λu' hu=>?_;have DN:=HC.out.lo;have hgb:=HGH.out.1;have hB2:B<=b2:=by omega
 obtain⟨r1,r2⟩:=OX (nc:=KO) (hc:=hc3) (oc:=oc) M8.out (by omega) (HOF.out.gr hB XF.out) hB2;have hgf:Ce (bE W8 gh x oA oc) W5.heap.size (.slice (a8 ⟨g2,0,a7⟩) (ls.set k (row++[by_])).length LJ) (ls.set k (row++[by_])) (xs.set k (a6 A8 (row.length+1) c8)) :=
  ⟨al Nk.out.row λg hg _=>ci λe=>be (by decide) Nk.out.row M8.out.own hg (by rw[e];rfl),λi l hi=>by
   obtain⟨y,h1,h2⟩:=Nk.out.cells i l hi
   exact⟨y,h1,al h2 λg hg _=>ci λe=>be (by decide) h2 M8.out.own hg (by rw[e];rfl)⟩⟩
 obtain⟨A',c',e',hgr⟩:=hgf.K5;injection e' with e1 _ _
 subst e1;have hbf:(bE W8 gh x oA oc).heap[b17]?=_:=(ci HNE.out).trans ajn.out;have KZ:W5.heap.size<=gh:=by omega
 refine HK.out (bE W8 gh x oA oc) u' k g2 LJ ((((XF.out.setCell KZ _).setCell KZ _).setCell KZ _).setCell KZ _) ⟨hu 1,hu 6,hu 14,hu 15,(hu 17).trans Xq.out.symm⟩ hk (hu 16) VZ (by rw[HE.out];exact hgr) (by rw[ej];exact ql) (cell_of_heap hbf 0).1 (cell_of_heap hbf 1).1 r1 r2
def jy (lo:Nat)(xs:Array bl)(e:TypeId)(v:bl)(w:bk):Prop:=∃b,v=.slice (a8 ⟨b,0,a7⟩) 5 5/\lo<=b/\w.heap[b]?=a8 (.cells xs e (0,0))
def fH (lo:Nat)(xs:Array bl)(e:TypeId):IK Gr (jy lo xs e):=λ_ _ _ hg ⟨b,e,h1,h2⟩=>⟨b,e,h1,(hg.below.block b (yK.1 h2).1).trans h2⟩
def xW {nA hA nA2 hA2 nA3 hA3 gA gA1 QY:Option cE}{n0 m0 nc hc n2 m2 JQ hc2 n3 m3 KO hc3 l0 gc l1 Uo l2 LJ b6 b14 b17:Nat}{W:bk}{u:Nat->bl}{Q:Exit->Act->bk->Prop}(h1:u 1=a6 gA l0 gc)(h6:u 6=.pointer (a8 ⟨b6,0,a7⟩))(Zt:u 14=.pointer (a8 ⟨b14,0,a7⟩))(h15:u 15=a6 gA1 l1 Uo)(Wh:u 16=a6 QY l2 LJ)(VO:u 17=.pointer (a8 ⟨b17,0,a7⟩))
  (HC:Hid (∀V,Gr W V->(V.cell? ⟨b6,0,a7⟩=a8 (a6 nA n0 nc)/\V.cell? ⟨b6,1,a7⟩=a8 (a6 hA m0 hc))/\(V.cell? ⟨b14,0,a7⟩=a8 (a6 nA2 n2 JQ)/\V.cell? ⟨b14,1,a7⟩=a8 (a6 hA2 m2 hc2))/\(V.cell? ⟨b17,0,a7⟩=a8 (a6 nA3 n3 KO)/\V.cell? ⟨b17,1,a7⟩=a8 (a6 hA3 m3 hc3))/\b6<V.heap.size/\b14<V.heap.size/\b17<V.heap.size))
  (hK:∀W' u',Gr W W'->(∀t,Fl (cg 10) t=true->u' t=u t)->jy W.heap.size #[a6 nA n0 nc,a6 hA m0 hc,a6 nA2 n2 JQ,a6 hA2 m2 hc2,a6 nA2 n2 JQ,a6 hA2 m2 hc2,a6 nA2 n2 JQ,a6 hA2 m2 hc2,a6 nA3 n3 KO,a6 hA3 m3 hc3] 25 (u' 19) W'->jy W.heap.size #[a6 gA l0 gc,a6 gA1 l1 Uo,a6 QY l2 LJ,a6 gA l0 gc,a6 gA1 l1 Uo] 26 (u' 20) W'->Q .normal ⟨T 155 u',[]⟩ W'):(Code.region 10 (cg 10) false).wp B1 Q ⟨T 155 u,[]⟩ W:=by
 refine gD (R:=Gr) (m:=14) (by kernel_rfl) [λv _=>v=.agg #[a6 nA n0 nc,a6 hA m0 hc],λv _=>v=.agg #[a6 nA2 n2 JQ,a6 hA2 m2 hc2],λv _=>v=.agg #[a6 nA2 n2 JQ,a6 hA2 m2 hc2],λv _=>v=.agg #[a6 nA2 n2 JQ,a6 hA2 m2 hc2],λv _=>v=.agg #[a6 nA3 n3 KO,a6 hA3 m3 hc3],jy W.heap.size #[a6 nA n0 nc,a6 hA m0 hc,a6 nA2 n2 JQ,a6 hA2 m2 hc2,a6 nA2 n2 JQ,a6 hA2 m2 hc2,a6 nA2 n2 JQ,a6 hA2 m2 hc2,a6 nA3 n3 KO,a6 hA3 m3 hc3] 25,λv _=>v=a6 gA l0 gc,λv _=>v=a6 gA1 l1 Uo,λv _=>v=a6 QY l2 LJ,λv _=>v=a6 gA l0 gc,λv _=>v=a6 gA1 l1 Uo,jy W.heap.size #[a6 gA l0 gc,a6 gA1 l1 Uo,a6 QY l2 LJ,a6 gA l0 gc,a6 gA1 l1 Uo] 26,jy W.heap.size #[a6 nA n0 nc,a6 hA m0 hc,a6 nA2 n2 JQ,a6 hA2 m2 hc2,a6 nA2 n2 JQ,a6 hA2 m2 hc2,a6 nA2 n2 JQ,a6 hA2 m2 hc2,a6 nA3 n3 KO,a6 hA3 m3 hc3] 25,jy W.heap.size #[a6 gA l0 gc,a6 gA1 l1 Uo,a6 QY l2 LJ,a6 gA l0 gc,a6 gA1 l1 Uo] 26] ⟨aa _,aa _,aa _,aa _,aa _,fH _ _ _,aa _,aa _,aa _,aa _,aa _,fH _ _ _,fH _ _ _,fH _ _ _,trivial⟩ ⟨⟨⟨⟨⟨⟨⟨⟨⟨⟨⟨⟨⟨⟨trivial,?_⟩,?_⟩,?_⟩,?_⟩,?_⟩,?_⟩,?_⟩,?_⟩,?_⟩,?_⟩,?_⟩,?_⟩,?_⟩,?_⟩ λu w hg hf hv=>?_
 .intro u w hg hf hl hd;refine aq (op:=.load 25 (.tmp 6)) (t:=25) rfl (λev he=>?_);have e6:=(he.t 6).trans ((hf.at_ 6).trans h6);obtain⟨⟨c0,c1⟩,⟨c2,c3⟩,⟨c4,c5⟩,l0,l1,l2⟩:=HC.out w hg;clear hg hf hl hd he;go_simp
 .intro u w hg hf hl hd;refine aq (op:=.load 25 (.tmp 14)) (t:=25) rfl (λev he=>?_);have e14:=(he.t 14).trans ((hf.at_ 14).trans Zt);obtain⟨⟨c0,c1⟩,⟨c2,c3⟩,⟨c4,c5⟩,l0,l1,l2⟩:=HC.out w hg;clear hg hf hl hd he;go_simp
 .intro u w hg hf hl hd;refine aq (op:=.load 25 (.tmp 14)) (t:=25) rfl (λev he=>?_);have e14:=(he.t 14).trans ((hf.at_ 14).trans Zt);obtain⟨⟨c0,c1⟩,⟨c2,c3⟩,⟨c4,c5⟩,l0,l1,l2⟩:=HC.out w hg;clear hg hf hl hd he;go_simp
 .intro u w hg hf hl hd;refine aq (op:=.load 25 (.tmp 14)) (t:=25) rfl (λev he=>?_);have e14:=(he.t 14).trans ((hf.at_ 14).trans Zt);obtain⟨⟨c0,c1⟩,⟨c2,c3⟩,⟨c4,c5⟩,l0,l1,l2⟩:=HC.out w hg;clear hg hf hl hd he;go_simp
 .intro u w hg hf hl hd;refine aq (op:=.load 25 (.tmp 17)) (t:=25) rfl (λev he=>?_);have e17:=(he.t 17).trans ((hf.at_ 17).trans VO);obtain⟨⟨c0,c1⟩,⟨c2,c3⟩,⟨c4,c5⟩,l0,l1,l2⟩:=HC.out w hg;clear hg hf hl hd he;go_simp
 .intro u w hg hf hl hd;have hz:=hg.size;refine aV (op:=.buildSlice 39 5 #[(0,.tmp 72),(1,.tmp 73),(2,.tmp 74),(3,.tmp 75),(4,.tmp 76)]) (t:=39) rfl _ (w.alloc (bh #[a6 nA n0 nc,a6 hA m0 hc,a6 nA2 n2 JQ,a6 hA2 m2 hc2,a6 nA2 n2 JQ,a6 hA2 m2 hc2,a6 nA2 n2 JQ,a6 hA2 m2 hc2,a6 nA3 n3 KO,a6 hA3 m3 hc3] 25)) (λev he=>?_) ((Gr.refl w).alloc _) ⟨_,rfl,hz,bn _ _⟩
  have e1:=((he.t 72).trans (hd.at_ 0 72));have e2:=((he.t 73).trans (hd.at_ 1 73));have e3:=((he.t 74).trans (hd.at_ 2 74));have e4:=((he.t 75).trans (hd.at_ 3 75));have e5:=((he.t 76).trans (hd.at_ 4 76));clear hg hf hl hd he;go_simp
 .intro u w hg hf hl hd;exact ai rfl ((hf.at_ 1).trans h1)
 .intro u w hg hf hl hd;exact ai rfl ((hf.at_ 15).trans h15)
 .intro u w hg hf hl hd;exact ai rfl ((hf.at_ 16).trans Wh)
 .intro u w hg hf hl hd;exact ai rfl ((hf.at_ 1).trans h1)
 .intro u w hg hf hl hd;exact ai rfl ((hf.at_ 15).trans h15)
 .intro u w hg hf hl hd;have hz:=hg.size;refine aV (op:=.buildSlice 40 5 #[(0,.tmp 78),(1,.tmp 79),(2,.tmp 80),(3,.tmp 81),(4,.tmp 82)]) (t:=40) rfl _ (w.alloc (bh #[a6 gA l0 gc,a6 gA1 l1 Uo,a6 QY l2 LJ,a6 gA l0 gc,a6 gA1 l1 Uo] 26)) (λev he=>?_) ((Gr.refl w).alloc _) ⟨_,rfl,hz,bn _ _⟩;have e1:=((he.t 78).trans (hd.at_ 6 78));have e2:=((he.t 79).trans (hd.at_ 7 79))
  have e3:=((he.t 80).trans (hd.at_ 8 80));have e4:=((he.t 81).trans (hd.at_ 9 81));have e5:=((he.t 82).trans (hd.at_ 10 82));clear hg hf hl hd he;go_simp
 .intro u w hg hf hl hd;exact cD rfl (hd.at_ 5 77)
 .intro u w hg hf hl hd;exact cD rfl (hd.at_ 11 83)
 .exact hK w u hg hf (hv.at_ 12 19) (hv.at_ 13 20)
variable {R:bk->bk->Prop} {ops:Array Oper} {Q:Exit->Act->bk->Prop} {n m:Nat} {u:Nat->bl} {ds:List Deferred} {w w':bk}
instance {T:Nat->Prop}:Goes (KT T):={ refl:=KT.refl T,trans:=KT.trans,drew:=λw=>KT.Dh (Gr.refl w).drew }
def yu (a:Array bl):a=T a.size λi=>a[i]?.getD undef:=by
 refine Array.ext II.symm λi h1 h2=>?_;have e:(T a.size λi=>a[i]?.getD undef)[i]?=a8 (a[i]?.getD undef):=iO h1;rw[yS h2,yS h1] at e;injection e with e
 exact e.symm
def xX {a:Array bl}{n:Nat}(h:a.size=n):a=T n λi=>a[i]?.getD undef:=h▸yu a
def kr {P:Program}{id:Nat}{ops:Array Oper}{more:List Item}{N:Act->bk->Prop}{a:Act}{w:bk}(h:bW ops.size=[0,1])(hn:N a w):aG P [.inRegion ops [0,1],.code .ret] (.seq (.region id ops false) .ret) N a w :=
 dW (tgt:=[.inRegion ops [0,1]]) (fV (l:=[]) (by intro j hj;simp at hj) (by rw[h];rfl) hn)
def sv (nn mm:Nat)(Ld:1<=nn)(hnn:nn<=5)(hm0:1<=mm)(hmm:mm<=4)(hb B:Nat)(A:Option cE)(cap:Nat)(l:List Int)(N:Nat)(w:bk)(h:Hand w hb B A cap l N)(hN:N<=10000) :
  Calls B1 8 #[.pointer (a8 ⟨hb,0,a7⟩),bb bc nn,bb bc mm] w λe w'=>∃c nA hA nc hc,e=.returned (Cj nA hA c nc hc)/\c.Ok/\Cn c=0/\(c.B3.length<=nn/\c.B2.length<=mm)/\Hb w' (λb=>w.heap.size<=b/\b<w'.heap.size) nA c.B3/\EZ w' (λb=>w.heap.size<=b/\b<w'.heap.size) hA c.B2/\Hand w' hb B A cap l (N+1000)/\KH hb w w':=by
 obtain⟨W0,hW0⟩:∃W0:bk,W0=(w.alloc (bh #[.slice a7 0 0,.slice a7 0 0] 25)).alloc (bh #[.slice a7 0 0,.slice a7 0 0] 25):=⟨_,rfl⟩;have hg0:Gr w W0:=hW0▸((Gr.refl w).alloc _).alloc _;have HZ0:Hid (W0.heap.size=w.heap.size+2):=yJ (by rw[hW0];simp);have HH:=yJ (h.gr hg0);have hlt:=h.lt;have HW:=yJ hW0;have Du:=yJ hg0;have HAM:=yJ (eE hb B A cap l N 1 nn W0 (h.gr hg0) (by omega) (by omega) (by omega))
 have ajo:Hid (CO w hb B A cap l N (w.heap.size+2) (.slice a7 0 0) [] W0):=yJ ⟨h.gr hg0,by rw[hW0];exact aK _ _ (by simp),by rw[hW0,heap_alloc_old _ _ (by simp)];exact heap_alloc_new _ _,zF _ _ _ _,⟨hg0.below.os,hg0.below.tape,hg0.below.output,hg0.drawn,hg0.size,λb hb' _=>hg0.below.block b hb'⟩,hlt,by rw[hW0];simp⟩;clear hW0 hg0 h;go_enter Sq.func8,Tryz.ntmps8;go_wp2_with fail;rw[<-HW.out];refine HAM.out.mono ?_
 rintro e w1 ⟨⟨n,rfl,G6,Mr⟩,hh,Ex⟩;have ajp:=yJ (ajo.out.KJ hh Ex);clear hh Ex HAM;go_wp2;go_loopw [9] (λi wr=>∃k:Nat,k<=n/\i=bb bc k/\∃v ns,CO w hb B A cap l (N+1+4*k) (w.heap.size+2) v ns wr/\ns.length=k/\∀x∈ns,0<=x/\x<=12) (λi _=>n-(Proofs.intOf i).toNat)
 case atStart=>exact⟨0,by omega,rfl,_,[],ajp.out,rfl,λx hx=>by simp at hx⟩
 case round =>
  obtain⟨k,hk,rfl,v,ns,Il,hnl,hns⟩:=hrel;have HNS:=yJ hns;clear hns;by_cases hlk:k<n
  .obtain⟨c0,f0,l0⟩:=Il.drew.cell;obtain⟨c9,f9,l9⟩:=Il.cell;replace Il:=yJ Il.drew;go_wp2;clear c9 f9 l9
   go_region_law (first
    |(refine p9 (by rfl) _ _ (by rfl) (by rfl) (w.heap.size+2) _ _ _ (by rfl) Il.out.own (bb bc z) rfl (by rfl) (by omega) Il.out.bs.2 ?_;intro v' w6 XH OY hd6;clear c0 f0 l0;have hq6:=(Ec Il.out.own OY (w.heap.size+1) (by omega) (yK.1 Il.out.Fj).1).trans Il.out.Fj;have c6:=(cell_of_heap hq6 0).1;have f6:=(cell_of_heap hq6 0).2;have Lv:w6.ownsRow (w.heap.size+2) 3 1 v' (ns++[z]).length ((ns++[z]).map (bb bc)):=(by simpa using XH);obtain⟨A6,k6,hv6,_⟩:=Bp Lv;subst hv6)
    |(refine iA (by rfl) ?_;go_simp;first
     |(go_at_call 29;refine(iy hb B A cap l _ _ _ Il.out.hand (by omega) (by omega)).mono ?_;rintro e w' ⟨⟨q,rfl,hq⟩,hh,Ex⟩;replace Il:=yJ (Il.out.KJ hh Ex);clear c0 f0 l0 hh Ex;obtain⟨c0,f0,l0⟩:=Il.out.cell;dsimp only)
     |(go_at_call 28;refine(mN hb B A _ cap 2 l [_,_] _ _ _ (Il.out.alloc _).hand (by omega) (by simp) (yz (Il.out.room _))).mono ?_;rintro e w' ⟨⟨z,rfl,hz⟩,hh,Ex⟩;have ad5:0<=z/\z<=12:=(by simp only[yT,yQ,or_false] at hz;omega);replace Il:=yJ ((Il.out.alloc _).KJ hh Ex);clear c0 f0 l0 hh Ex;have HZ:=yJ ad5;obtain⟨c0,f0,l0⟩:=Il.out.cell;dsimp only)))
   all_goals
    have ad6:=yJ ((Il.out.push Lv OY hd6).more (M':=N+1+4*(k+1)) (by omega));have hl9:(ns++[z]).length=k+1:=by simp[hnl]
    rw[hl9] at ad6;have ajs:Hid (∀x∈ns++[z],0<=x/\x<=12):=yJ λx hx=>by
     rcases zJ.1 hx with hx|hx
     .exact HNS.out x hx
     .simp only[yT,yQ,or_false] at hx;subst hx;exact HZ.out
    clear Lv OY hd6 XH Il c6 f6 hq6;go_wp2;go_roundw
    case rel=>exact⟨k+1,by omega,by go_num,_,_,ad6.out,hl9,ajs.out⟩
    case measure=>simp[Proofs.intOf];omega
  .have IE:k=n:=by omega
   subst IE;have SD:=yJ (Il.cp.more (M':=N+30) (by omega));have ad7:=yJ (eE hb B A cap l (N+30) 1 mm wr SD.out.hand (by omega) (by omega) (by omega));clear Il;go_wp2_with fail;refine ad7.out.mono ?_;rintro e w2 ⟨⟨m,rfl,Ox,hm4⟩,hh,Ex⟩;have ajt:=yJ (SD.out.KJ hh Ex);clear hh Ex ad7 SD;go_wp2;go_loopw [10] (λi wr=>∃j:Nat,j<=m/\i=bb bc j/\∃u hs xs,CP w hb B A cap l (N+31+20*(m-j)) (w.heap.size+2) v ns u hs xs wr/\hs.length=m-j/\∀h∈hs,D6 ns.length h=0) (λi _=>(Proofs.intOf i).toNat)
   case atStart=>exact⟨m,by omega,rfl,_,[],[],ajt.out.more (by omega),by simp,λh hh=>by simp at hh⟩
   case round =>
    obtain⟨wq,rfl⟩:∃wq,wq=wr:=⟨_,rfl⟩;obtain⟨j,hj,rfl,u,hs,xs,Vz,hhl,YH⟩:=hrel;have HP:=yJ Vz;have HHS:=yJ YH;clear Vz YH;by_cases U3:0<j
    .have HA1:=yJ (eE hb B A cap l _ 1 6 wq HP.out.hand (by omega) (by omega) (by omega));go_wp2_with fail;refine HA1.out.mono ?_;rintro e v1 ⟨⟨a1,rfl,ha1,hb1⟩,hh,Ex⟩;have G5:=yJ (HP.out.KJ hh Ex);have HA2:=yJ (eE hb B A cap l _ 1 40 v1 hh (by omega) (by omega) (by omega));clear hh Ex HA1;go_wp2_with fail;refine HA2.out.mono ?_;rintro e v2 ⟨⟨a2,rfl,ha2,hb2⟩,hh,Ex⟩;have QF:=yJ (G5.out.KJ hh Ex)
     have hhl2:=hh.lt;have HA3:=yJ (mN hb B A (a8 ⟨v2.heap.size,0,a7⟩) cap 1 l [(a2:Int)] _ a1 (v2.alloc (bh #[bb bc a2] 3)) (QF.out.alloc _).hand (by omega) (by simp) (yB (by simp;omega)));clear hh Ex HA2;go_wp2_with fail;refine HA3.out.mono ?_;rintro e v3 ⟨⟨a3,rfl,ha3⟩,hh,Ex⟩;have h340:1<=a3/\a3<=40:=by simp only[yT,yQ,or_false] at ha3;omega
     have HP3:=yJ ((QF.out.alloc _).KJ hh Ex);have HA4:=yJ (eE hb B A cap l _ 1 5 v3 hh (by omega) (by omega) (by omega));clear hh Ex HA3;go_wp2_with fail;refine HA4.out.mono ?_;rintro e v4 ⟨⟨a4,rfl,ha4,hb4⟩,hh,Ex⟩;have HP4:=yJ (HP3.out.KJ hh Ex);have HA5:=yJ (eE hb B A cap l _ 0 3 v4 hh (by omega) (by omega) (by omega));clear hh Ex HA4;go_wp2_with fail;refine HA5.out.mono ?_;rintro e v5 ⟨⟨a5,rfl,ha5,hb5⟩,hh,Ex⟩
     have XE:=yJ ((HP4.out.KJ hh Ex).more (M':=N+31+20*(m-j)+5) (by omega));have VI:=hh.lt;clear hh Ex HA5 HP G5 QF HP3 HP4;obtain⟨vX,hvX⟩:∃vX:bk,vX=v5.alloc (bh #[bb bc a3,bb bc a4,bb bc a5,.slice a7 0 0] 28):=⟨_,rfl⟩;have HX0:Hid (vX.heap[v5.heap.size]?=a8 (bh #[bb bc a3,bb bc a4,bb bc a5,.slice a7 0 0] 28 (0,0))):=yJ (by rw[hvX];exact heap_alloc_new _ _)
     have HPX:=yJ (hvX▸XE.out.alloc (bh #[bb bc a3,bb bc a4,bb bc a5,.slice a7 0 0] 28));have HZX:Hid (vX.heap.size=v5.heap.size+1):=yJ (by rw[hvX];simp);have HKX:Hid (KT (·=hb) v5 vX):=yJ (hvX▸KT.Dh ((Gr.refl v5).alloc _));have HVX:=yJ hvX;clear hvX;go_wp2;rw[<-HVX.out];go_loopw [12] (λi wr=>∃t:Nat,t<=k/\i=bb bc t/\∃y p,KT (·=hb) v5 wr/\Hand wr hb B A cap l (N+31+20*(m-j)+5+t)/\wr.heap[v5.heap.size]?=a8 (bh #[bb bc a3,bb bc a4,bb bc a5,y] 28 (0,0))/\wr.ownsRow (v5.heap.size+1) 3 1 y (Cr p t).length ((Cr p t).map (bb bc))) (λi _=>k-(Proofs.intOf i).toNat)
     case atStart=>exact⟨0,by omega,rfl,_,λ_=>false,HKX.out,HPX.out.hand,HX0.out,zF _ _ _ _⟩
     case round =>
      obtain⟨t,ht,rfl,y,p,Ex,hh,QQ,hown⟩:=hrel;have HK:=yJ Ex;have HO:=yJ hown;have HXO:=yJ QQ;have hzw:=Ex.size;have hXl:=(yK.1 QQ).1;by_cases htk:t<k
      .have HOD:=yJ (mO hb B A cap l _ 1 6 wr hh (by omega) (by omega));clear hh Ex hown QQ;go_wp2_with fail;refine HOD.out.mono ?_;rintro e w8 ⟨⟨bo,rfl⟩,hh,Ex⟩;have ajv:v5.heap.size≠hb:=by omega
       have HK8:=yJ (HK.out.trans Ex);have Jh:=mP HO.out (show hb<v5.heap.size+1 by omega) Ex;have hx8:=(Ex.block _ hXl ajv).trans HXO.out;have Y8:=yJ hx8;have c8:=(cell_of_heap hx8 3).1;have f8:=(cell_of_heap hx8 3).2;have ajw:=(yK.1 hx8).1;have HH8:=yJ hh;have HO8:=yJ Jh;obtain⟨p2,Mh⟩:∃p2:Nat->Bool,p2=λq=>if q=t then bo else p q:=⟨_,rfl⟩
       have HP:=yJ (i8 p2 t);have HPT:Hid (p2 t=bo):=yJ (by rw[Mh];simp);have HP0:=yJ (iz (p:=p2) (q:=p) (k:=t) λi hi=>by rw[Mh];exact if_neg (by omega));clear Mh;have Jj:=eu p t;have hz8:=HK8.out.size;have hZX:=HZX.out;clear Ex hh HOD hx8;obtain⟨yA,yc,hyv,_⟩:=Bp Jh;subst hyv;cases bo with
       |true =>
        clear hZX;go_wp2_with (at_builtin;refine jW rfl _ _ rfl (v5.heap.size+1) _ _ _ rfl (Jh.alloc _) ⟨w8.heap.size,0,a7⟩ 1 (bb bc t) rfl ?c1 rfl ?c2 ?c3 ?_)
        case c1=>first|(rw[Addr.add_lit,yN _ _ _ _ (by simp)];rfl)|(rw[yN _ _ _ _ (by simp)];rfl)
        case c2=>omega
        case c3=>simp;omega
        intro v' w9 hown' hgrow hd;have Ir:w9.ownsRow (v5.heap.size+1) 3 1 v' (Cr p2 (t+1)).length ((Cr p2 (t+1)).map (bb bc)):=by
         rw[HP.out,HP0.out,if_pos HPT.out];simpa using hown'
        obtain⟨A9,c9,hv9,_⟩:=Bp Ir;subst hv9;have hx9:=(Ec HO8.out hgrow v5.heap.size (by omega) ajw).trans Y8.out;have d9:=(cell_of_heap hx9 3).1;have g9:=(cell_of_heap hx9 3).2;have hl9:(Cr p t).length+1=(Cr p2 (t+1)).length:=by rw[HP.out,HP0.out,if_pos HPT.out];simp
        have HK9:=yJ ((fh HK8.out HO8.out (by omega) hgrow hd).set (p:=⟨v5.heap.size,3,a7⟩) (yL _) (a6 A9 (Cr p2 (t+1)).length c9));have HH9:=yJ (((dH HH8.out HO8.out (by omega) hgrow).set (p:=⟨v5.heap.size,3,a7⟩) VI (a6 A9 (Cr p2 (t+1)).length c9)).more (M:=N+31+20*(m-j)+5+(t+1)) (by omega));have HX9:=yJ (Cz (i:=3) (u:=a6 A9 (Cr p2 (t+1)).length c9) hx9)
        have HO9:=yJ (ownsRow_setCell_below Ir (show(⟨v5.heap.size,3,a7⟩:cE).block<v5.heap.size+1 from Nat.lt_succ_self _) (a6 A9 (Cr p2 (t+1)).length c9));clear hown' hgrow hd Ir Jh hx9;go_wp2;go_roundw
        case rel=>exact⟨t+1,by omega,by go_num,_,_,HK9.out,HH9.out,HX9.out,HO9.out⟩
        case measure=>simp[Proofs.intOf];omega
       |false =>
        have HO9:Hid (w8.ownsRow (v5.heap.size+1) 3 1 (a6 yA (Cr p t).length yc) (Cr p2 (t+1)).length ((Cr p2 (t+1)).map (bb bc))):=yJ (by
         rw[HP.out,HP0.out,if_neg (by rw[HPT.out];simp)];simpa using HO8.out)
        clear Jh;go_wp2;go_roundw
        case rel=>exact⟨t+1,by omega,by go_num,_,_,HK8.out,HH8.out,Y8.out,HO9.out⟩
        case measure=>simp[Proofs.intOf];omega
      .have ajz:t=k:=by omega
       subst ajz;have HH9:=yJ hh;obtain⟨yA,yc,hyv,_⟩:=Bp hown;subst hyv;have Zw:=yJ (XE.out.KJ hh Ex);obtain⟨cu,fu,lu⟩:=Zw.out.cell;have x0:=(cell_of_heap QQ 0).1;have x1:=(cell_of_heap QQ 1).1;have x2:=(cell_of_heap QQ 2).1;have x3:=(cell_of_heap QQ 3).1;have ad9:=Zw.out.DI;have Zm:=yJ (Dp hown (show w.heap.size+2<=v5.heap.size+1 by have:=XE.out.bs;omega));clear hh Ex hown QQ
       go_wp2_with (at_builtin;refine yq rfl _ _ rfl (w.heap.size+2) _ _ _ rfl (ad9.alloc _) ⟨wr.heap.size,0,a7⟩ 1 [bb bc a3,bb bc a4,bb bc a5,a6 yA (Cr p t).length yc] rfl rfl ?c1 ?c2 ?c3 ?c4 ?_)
       case c1 =>
        intro q z hq;rw[bD,yZ,yN _ _ _ _ (by simp)]
        match q,hq with
        |0,hq=>exact hq
        |1,hq=>exact hq
        |2,hq=>exact hq
        |3,hq=>exact hq
        |q+4,hq=>simp at hq
       case c2=>intro z hz;simp at hz;rcases hz with rfl|rfl|rfl|rfl<;>rfl
       case c3=>omega
       case c4=>have:=Zw.out.bs.2;simp;omega
       intro u' w9 hown' hgrow hd;obtain⟨gU,cU,rfl,_,_⟩:=hown'.form (by omega);have HPN:=yJ (Zw.out.push (x:=⟨a3,a4,a5,Cr p t⟩) Zm.out (by rw[hhl];exact hown') hgrow hd);have hq9:=(Ec Zw.out.DI hgrow (w.heap.size+1) (by omega) (yK.1 Zw.out.Fj).1).trans Zw.out.Fj;have cq:=(cell_of_heap hq9 1).1;have fq:=(cell_of_heap hq9 1).2;have HHN:Hid (∀h∈hs++[(⟨a3,a4,a5,Cr p t⟩:CF)],D6 ns.length h=0):=yJ λh hh=>by
        rcases zJ.1 hh with hh|hh
        .exact HHS.out h hh
        .simp only[yT,yQ,or_false] at hh;subst hh;unfold D6;rw[if_pos (by simp[Ez];omega),hnl];exact rW p t
       clear hown' hgrow hd ad9 hq9;go_wp2;go_roundw
       case rel=>exact⟨j-1,by omega,by go_num,_,_,_,HPN.out.more (by omega),by simp[hhl];omega,HHN.out⟩
       case measure=>simp[Proofs.intOf];omega
    .have ajB:j=0:=by omega
     subst ajB;obtain⟨nA,nc,hA,hc,rfl,rfl,hN1,hH1⟩:=HP.out.Ek;have NG:=yJ hN1;have Q3:=yJ hH1;have q0:=(cell_of_heap HP.out.Fj 0).1;have q1:=(cell_of_heap HP.out.Fj 1).1;have r0:=(cell_of_heap HP.out.G4 0).1;have r1:=(cell_of_heap HP.out.G4 1).1;have g0:=(cell_of_heap HP.out.G4 0).2;have g1:=(cell_of_heap HP.out.G4 1).2
     have QS:Hid (Cn ⟨ns,hs⟩=0):=yJ (by
      unfold Cn;have e1:CM (ns.length:Int) 1 5=0:=dG.2 (by omega);have e2:CM (hs.length:Int) 1 4=0:=dG.2 (by omega);rw[if_neg (by simp[e1]),if_neg,if_neg (by simp[e2])]
      .exact bB.2 fun x hx => by
        obtain⟨h,hh,rfl⟩:=zu.1 hx;exact HHS.out h hh
      .have : (ns.all fun x => Ez x 0 12) = true := zE.2 fun x hx => by
        have:=HNS.out x hx;simp[Ez];omega
       rw[this];simp)
     have hhm:hs.length=m:=by omega
     have HKF:Hid (KT (·=hb) w ((wq.setCell ⟨w.heap.size,0,a7⟩ (a6 nA k nc)).setCell ⟨w.heap.size,1,a7⟩ (a6 hA m hc))):=yJ ((HP.out.kt.set (p:=⟨w.heap.size,0,a7⟩) (yL _) _).set (p:=⟨w.heap.size,1,a7⟩) (yL _) _);have HHF:Hid (Hand ((wq.setCell ⟨w.heap.size,0,a7⟩ (a6 nA k nc)).setCell ⟨w.heap.size,1,a7⟩ (a6 hA m hc)) hb B A cap l (N+1000)):=yJ (((HP.out.hand.set (p:=⟨w.heap.size,0,a7⟩) hlt _).set (p:=⟨w.heap.size,1,a7⟩) hlt _).more (by omega))
     have HRF:Hid (Hb ((wq.setCell ⟨w.heap.size,0,a7⟩ (a6 nA k nc)).setCell ⟨w.heap.size,1,a7⟩ (a6 hA m hc)) (λb=>w.heap.size<=b/\b<((wq.setCell ⟨w.heap.size,0,a7⟩ (a6 nA k nc)).setCell ⟨w.heap.size,1,a7⟩ (a6 hA m hc)).heap.size) nA ns):=yJ (fi hN1 (λb hb'=>⟨by omega,by have:=hb'.2;simpa [bA] using this⟩) λb o hb'=>(zd (yU _ _ _ _ (by show b≠w.heap.size;omega))).trans (zd (yU _ _ _ _ (by show b≠w.heap.size;omega))))
     have HRG:Hid (EZ ((wq.setCell ⟨w.heap.size,0,a7⟩ (a6 nA k nc)).setCell ⟨w.heap.size,1,a7⟩ (a6 hA m hc)) (λb=>w.heap.size<=b/\b<((wq.setCell ⟨w.heap.size,0,a7⟩ (a6 nA k nc)).setCell ⟨w.heap.size,1,a7⟩ (a6 hA m hc)).heap.size) hA hs):=yJ (gy hH1 (λb hb'=>⟨by omega,by have:=hb'.2;simpa [bA] using this⟩) λb o hb'=>(zd (yU _ _ _ _ (by show b≠w.heap.size;omega))).trans (zd (yU _ _ _ _ (by show b≠w.heap.size;omega))))
     clear hN1 hH1;go_wp2;have s1:=yW (wq.setCell ⟨w.heap.size,0,a7⟩ (a6 nA k nc)) ⟨w.heap.size,1,a7⟩ (a6 hA m hc) ((yP wq ⟨w.heap.size,0,a7⟩ ⟨w.heap.size,1,a7⟩ (a6 nA k nc) (by simp)).trans r1);have s0:=(yP (wq.setCell ⟨w.heap.size,0,a7⟩ (a6 nA k nc)) ⟨w.heap.size,1,a7⟩ ⟨w.heap.size,0,a7⟩ (a6 hA m hc) (by simp)).trans (yW wq ⟨w.heap.size,0,a7⟩ (a6 nA k nc) r0)
     refine bodyPost_ret (v:=.agg #[a6 nA k nc,a6 hA m hc]) (by simp[results,Tryz.results8,go_sem,s0,s1]) rfl ⟨⟨ns,hs⟩,nA,hA,nc,hc,by rw[<-hnl,<-hhm];rfl,Cc.Ok.of QS.out,QS.out,⟨by show ns.length<=nn;omega,by show hs.length<=mm;omega⟩,HRF.out,HRG.out,HHF.out,HKF.out⟩
open Go.Ct (aG aw dW cO)
noncomputable def ul:Array Oper:=OQ (EF (q9 1))
noncomputable def Ji:Array Oper:=OQ (EF (XB (q9 1)))
noncomputable def JU:Array Oper:=OQ (EF (DC 11 aJ))
noncomputable def lW:Code:=DC 2 aJ
def fm:aJ=.seq (q9 0) (.seq (q9 1) lW)/\q9 1=.seq (.region 1 ul false) (.cond (.tmp 41) (.seq (.region 2 Ji false) .ret) .skip) /\
  lW=.seq (q9 2) (.seq (q9 3) (.seq (q9 4) (.seq (q9 5) (.seq (q9 6) (.seq (q9 7) (.seq (q9 8) (.seq (.region 10 (cg 10) false) (.seq (q9 10) (.seq (.region 19 JU false) .ret))))))))):=⟨by kernel_rfl,by kernel_rfl,by kernel_rfl⟩
def N9 (a:Act):Prop:=a.tmps.size=155/\a.defers=[]
section
variable {nA hA gA A oA:Option cE} {nc hc gc cap oc:Nat} {c:Cc} {ls:List (List Int)} {x:CF} {at_ by_:Int} {l:List Int} {w:bk} {u:Nat->bl}
def xY (h0:u 0=.agg #[a6 nA c.B3.length nc,a6 hA c.B2.length hc])(h1:u 1=a6 gA ls.length gc)(h2:u 2=.agg #[bb bc x.heads,bb bc x.Dd,bb bc x.most,a6 oA x.off.length oc])(hh:Db w w.heap.size hA c.B2)(hg:Da w w.heap.size gA ls)
  (F4:c.B3.length<=9223372036854775807) (hl2:c.B2.length<=9223372036854775807) (IP:∀h∈c.B2,h.off.length<=9223372036854775807) (hl4:ls.length<=9223372036854775807) (Qf:∀y∈ls,y.length<=9223372036854775807) (hl6:x.off.length<=9223372036854775807)
  (hs:(Fz c&&J9 ls&&decide (x.off.length<=20))=false):aG B1 [.inRegion Ji [0,1],.code .ret,.code lW] aJ (λa _=>N9 a) ⟨T 155 u,[]⟩ w:=by
 obtain⟨W0,hW0⟩:∃W0:bk,W0=(w.alloc (bh #[a6 nA c.B3.length nc,a6 hA c.B2.length hc] 25)).alloc (bh #[bb bc x.heads,bb bc x.Dd,bb bc x.most,a6 oA x.off.length oc] 28):=⟨_,rfl⟩;have hg0:Gr w W0:=hW0▸((Gr.refl w).alloc _).alloc _;have hz0:W0.heap.size=w.heap.size+2:=by rw[hW0];simp
 have Lu:Hid (W0.cell? ⟨w.heap.size,0,a7⟩=a8 (a6 nA c.B3.length nc)/\W0.cell? ⟨w.heap.size,1,a7⟩=a8 (a6 hA c.B2.length hc)):=yJ (by
  rw[hW0,za _ _ _ (by simp),yN _ _ _ _ rfl,za _ _ _ (by simp),yN _ _ _ _ rfl];exact⟨rfl,rfl⟩)
 have Zx:Hid (W0.cell? ⟨w.heap.size+1,3,a7⟩=a8 (a6 oA x.off.length oc)):=yJ (by
  rw[hW0,yN _ _ _ _ (by simp)];rfl)
 have HW:=yJ hW0;have Kn:=oR nA hA nc hc c W0 w.heap.size (by omega) (hh.keep λb o hb=>hg0.cell hb) F4 hl2 IP;unfold Cj at Kn;have Zy:=yJ Kn;have Lk:=yJ λV (hV:Gr W0 V)=>uw gA gc ls V w.heap.size (hg.keep λb o hb=>(hg0.trans hV).cell (p:=⟨b,o,a7⟩) hb) hl4 Qf;clear hW0 hg0 hh hg F4 hl2 IP hl4 Qf Kn;rw[fm.1];unfold T;simp only[bW,br,Ae,Ag,h0,h1,h2];clear h0 h1 h2
 refine aw λK hK=>?_;have ez:q9 0=EF (DC 0 aJ):=rfl;simp only[DC,aJ,bq,zc,Hx,EF] at ez;rw[ez];clear ez;go_wp2;rw[<-HW.out];refine dW (tgt:=[.inRegion Ji [0,1],.code .ret]) ?_;rw[fm.2.1];refine aw λK hK=>?_;have ez:ul=OQ (EF (EF (DC 1 aJ))):=rfl;simp only[DC,aJ,bq,zc,Hx,EF,OQ] at ez;rw[ez];clear ez;obtain⟨k0,k1⟩:=Lu.out;have kl:w.heap.size<W0.heap.size:=by omega
 cases NR:Fz c with
 |false =>
  rw[NR] at Zy;clear NR hs;go_wp2_with fail;refine Zy.out.mono ?_;rintro e w1 ⟨rfl,hg1⟩;go_wp2;refine cO (v:=true) rfl ?_;rw[if_pos rfl];exact kr (more:=[]) (by kernel_rfl) ⟨rfl,rfl⟩
 |true =>
  rw[NR] at Zy hs;clear NR;go_wp2_with fail;refine Zy.out.mono ?_;rintro e w1 ⟨rfl,hg1⟩;have k3:=(hg1.cell (p:=⟨w.heap.size+1,3,a7⟩) (by show w.heap.size+1<_;omega)).trans Zx.out;have kl1:w.heap.size+1<w1.heap.size:=by have:=hg1.size;omega
  have OB:=Lk.out w1 hg1;clear hg1 k0 k1 kl;cases XI:J9 ls with
  |false =>
   rw[XI] at OB;replace OB:=yJ OB;clear XI hs;go_wp2_with fail;refine OB.out.mono ?_;rintro e w' ⟨rfl,rfl⟩;go_wp2;refine cO (v:=true) rfl ?_;rw[if_pos rfl];exact kr (more:=[]) (by kernel_rfl) ⟨rfl,rfl⟩
  |true =>
   rw[XI] at OB hs;replace OB:=yJ OB;have hx20:20<x.off.length:=by simpa using hs
   have hd:decide ((x.off.length:Int) > 20)=true:=decide_eq_true (by omega);clear XI hs;go_wp2_with fail;refine OB.out.mono ?_;rintro e w' ⟨rfl,rfl⟩;go_wp2;refine cO (v:=true) rfl ?_;rw[if_pos rfl];exact kr (more:=[]) (by kernel_rfl) ⟨rfl,rfl⟩
def xZ (h0:u 0=.agg #[a6 nA c.B3.length nc,a6 hA c.B2.length hc])(h1:u 1=a6 gA ls.length gc)(h2:u 2=.agg #[bb bc x.heads,bb bc x.Dd,bb bc x.most,a6 oA x.off.length oc])(h3:u 3=bb bc at_)(h4:u 4=bb bc by_)(h5:u 5=a6 A l.length cap)
  (hn:RI w w.heap.size nA c.B3) (hh:Db w w.heap.size hA c.B2) (hg:Da w w.heap.size gA ls) (hx:RI w w.heap.size oA x.off) (hr:RI w w.heap.size A l) (OT:ls.length<=gc)
  (hs:(Fz c&&J9 ls&&decide (x.off.length<=20))=true):aG B1 [.inRegion JU [0,1],.code .ret] aJ (λa _=>N9 a) ⟨T 155 u,[]⟩ w:=by
 obtain⟨⟨NR,XI⟩,QQ⟩:(Fz c=true/\J9 ls=true)/\x.off.length<=20:=by simpa using hs
 have HS:=yJ (rX NR);have HF:=yJ (vT XI);obtain⟨W0,hW0⟩:∃W0:bk,W0=(w.alloc (bh #[a6 nA c.B3.length nc,a6 hA c.B2.length hc] 25)).alloc (bh #[bb bc x.heads,bb bc x.Dd,bb bc x.most,a6 oA x.off.length oc] 28):=⟨_,rfl⟩;have hg0:Gr w W0:=hW0▸((Gr.refl w).alloc _).alloc _;have hz0:W0.heap.size=w.heap.size+2:=by rw[hW0];simp
 have Lu:Hid (W0.cell? ⟨w.heap.size,0,a7⟩=a8 (a6 nA c.B3.length nc)/\W0.cell? ⟨w.heap.size,1,a7⟩=a8 (a6 hA c.B2.length hc)):=yJ (by
  rw[hW0,za _ _ _ (by simp),yN _ _ _ _ rfl,za _ _ _ (by simp),yN _ _ _ _ rfl];exact⟨rfl,rfl⟩)
 have Zx:Hid ((W0.cell? ⟨w.heap.size+1,0,a7⟩=a8 (bb bc x.heads)/\W0.cell? ⟨w.heap.size+1,1,a7⟩=a8 (bb bc x.Dd))/\W0.cell? ⟨w.heap.size+1,2,a7⟩=a8 (bb bc x.most)/\W0.cell? ⟨w.heap.size+1,3,a7⟩=a8 (a6 oA x.off.length oc)):=yJ (by
  rw[hW0,yN _ _ _ _ (by simp),yN _ _ _ _ (by simp),yN _ _ _ _ (by simp),yN _ _ _ _ (by simp)];exact⟨⟨rfl,rfl⟩,rfl,rfl⟩)
 have HW:=yJ hW0;have IP:=HS.out.2.2;have Kn:=oR nA hA nc hc c W0 w.heap.size (by omega) (hh.keep λb o hb=>hg0.cell hb) (by have:=HS.out.1;omega) (by have:=HS.out.2.1;omega) (λy hy=>yR (IP y hy) (by omega));unfold Cj at Kn;rw[NR] at Kn;have Zy:=yJ Kn;have Lk:=λV (hV:Gr W0 V)=>uw gA gc ls V w.heap.size (hg.keep λb o hb=>(hg0.trans hV).cell (p:=⟨b,o,a7⟩) hb) (yR HF.out.1 (by omega)) (λy hy=>yR (HF.out.2 y hy) (by omega))
 rw[XI] at Lk;replace Lk:=yJ Lk;have HN:=yJ hn;have HH:=yJ hh;have HG:=yJ hg;have HX:=yJ hx;have HR:=yJ hr;have Du:=yJ hg0;have LI:=yJ OT;have HXO:=yJ QQ;clear hW0 hg0 hh hg hn hx hr Kn NR XI hs IP OT;rw[fm.1];unfold T;simp only[bW,br,Ae,Ag,h0,h1,h2,h3,h4,h5];clear h0 h1 h2 h3 h4 h5;refine aw λK hK=>?_;have ez:q9 0=EF (DC 0 aJ):=rfl;simp only[DC,aJ,bq,zc,Hx,EF] at ez
 rw[ez];clear ez;go_wp2;rw[<-HW.out];refine aw λK hK=>?_;rw[fm.2.1];have ez:ul=OQ (EF (EF (DC 1 aJ))):=rfl;simp only[DC,aJ,bq,zc,Hx,EF,OQ] at ez;rw[ez];clear ez;obtain⟨k0,k1⟩:=Lu.out;have kl:w.heap.size<W0.heap.size:=by omega
 go_wp2_with fail;refine Zy.out.mono ?_;rintro e w1 ⟨rfl,hg1⟩;have k3:=(hg1.cell (p:=⟨w.heap.size+1,3,a7⟩) (by show w.heap.size+1<_;omega)).trans Zx.out.2.2;have kl1:w.heap.size+1<w1.heap.size:=by have:=hg1.size;omega
 have OB:=yJ (Lk.out w1 hg1);have DO:=yJ hg1;have hd:decide ((x.off.length:Int) > 20)=false:=decide_eq_false (by omega);clear hg1 k0 k1 kl Lk Zy;go_wp2_with fail;refine OB.out.mono ?_;rintro e w' ⟨rfl,rfl⟩;go_wp2;clear k3 OB hd;rw[fm.2.2];have Sy:=yJ (Du.out.trans DO.out);have HNH:=yJ (rV A cap l w1 ((HR.out.gr (yL _) Sy.out).more Sy.out.size));refine aw λK hK=>?_;have ez:q9 2=EF (DC 2 aJ):=rfl
 simp only[DC,aJ,bq,zc,Hx,EF] at ez;rw[ez];clear ez;go_wp2_with fail;refine HNH.out.mono ?_;rintro e w2 ⟨rfl,hh2,hg2⟩;have Ic:=sv 5 3 (by omega) (by omega) (by omega) (by omega) w1.heap.size _ A cap l 0 w2 hh2 (by omega);rw[show((5:Nat):Int)=5 from rfl,show((3:Nat):Int)=3 from rfl] at Ic;have Il:=yJ Ic;have Ib:=hh2.lt;have Gt:=yJ hg2;clear hh2 hg2 HNH Ic;go_wp2;refine aw λK hK=>?_
 have ez:q9 3=EF (DC 3 aJ):=rfl;simp only[DC,aJ,bq,zc,Hx,EF] at ez;rw[ez];clear ez;go_wp2_with fail;refine Il.out.mono ?_;rintro e w3 ⟨c2,nA2,hA2,JQ,hc2,rfl,Dx,M7,Le,He,XJ,Uj,hk3⟩;obtain⟨W3,hW3⟩:∃W3:bk,W3=w3.alloc (bh #[a6 nA2 c2.B3.length JQ,a6 hA2 c2.B2.length hc2] 25):=⟨_,rfl⟩;have VV:Gr w3 W3:=hW3▸(Gr.refl w3).alloc _;have hzw:W3.heap.size=w3.heap.size+1:=by rw[hW3];simp
 have hcb:W3.cell? ⟨w3.heap.size,0,a7⟩=a8 (a6 nA2 c2.B3.length JQ)/\W3.cell? ⟨w3.heap.size,1,a7⟩=a8 (a6 hA2 c2.B2.length hc2):=by
  rw[hW3,yN _ _ _ _ rfl,yN _ _ _ _ rfl];exact⟨rfl,rfl⟩
 have hz23:=hk3.size;have Mr:=Dx.n5;have hm4:=Dx.h4;have aea:=yJ (fi (K':=λb=>w2.heap.size<=b/\b<w3.heap.size) He (λb hb=>hb) λb o hb=>VV.cell (p:=⟨b,o,a7⟩) hb.2);have aeb:=yJ (gy (K':=λb=>w2.heap.size<=b/\b<w3.heap.size) XJ (λb hb=>hb) λb o hb=>VV.cell (p:=⟨b,o,a7⟩) hb.2);have hlr:=nZ _ _ A nA2 hA2 cap JQ hc2 l (0+1000) c2 W3 (Uj.gr VV) (by omega) Dx (aea.out.ri λb hb=>by omega) (aeb.out.hs λb hb=>by omega)
 unfold Cj at hlr ⊢;have HLR:=yJ hlr;have HCB:=yJ hcb;have HW3:=yJ hW3;have FQ:=yJ Dx;have Mt:=yJ (hk3.trans (KT.Dh VV));clear hlr hcb hW3 Dx M7 He XJ Uj hk3 VV Il;go_wp2;rw[<-HW3.out];obtain⟨q0,q1⟩:=HCB.out;have ql:w3.heap.size<W3.heap.size:=by omega
 refine aw λK hK=>?_;have ez:q9 4=EF (DC 4 aJ):=rfl;simp only[DC,aJ,bq,zc,Hx,EF] at ez;rw[ez];clear ez;go_wp2_with fail;refine HLR.out.mono ?_;rintro e w4 ⟨v,ND,xs2,rfl,Fg,J6,hall,hh4,hk4⟩;obtain⟨QY,LJ,rfl⟩:=DR Fg.row;have PF:=yJ Fg;have HLL:=yJ J6;have Nu:=yJ hall;have XP:=yJ (Mt.out.trans hk4);have Zz:=yJ hk4;clear Fg J6 hall hh4 hk4 q0 q1 HLR;go_wp2;refine Go.Sq.K_T (K:=λa w=>aG B1 _ _ _ a w) 155 rfl λu4 Wd=>?_
 have hz34:=Zz.out.size;have ad5:=Gt.out.size;have hz01:=DO.out.size;have IG:∀b o,b<w1.heap.size->w4.cell? ⟨b,o,a7⟩=w1.cell? ⟨b,o,a7⟩:=λb o hb=>(XP.out.cell (p:=⟨b,o,a7⟩) (by show b<_;omega) (by show ¬b=w1.heap.size;omega)).trans (Gt.out.cell (p:=⟨b,o,a7⟩) hb);have JZ:∀b o,b<w.heap.size->w4.cell? ⟨b,o,a7⟩=w.cell? ⟨b,o,a7⟩:=λb o hb=>(IG b o (by omega)).trans (Sy.out.cell (p:=⟨b,o,a7⟩) hb)
 have hz:w.heap.size<=w4.heap.size:=by omega
 have VH:∀b o,w2.heap.size<=b/\b<w3.heap.size->w4.cell? ⟨b,o,a7⟩=W3.cell? ⟨b,o,a7⟩:=λb o hb=>Zz.out.cell (p:=⟨b,o,a7⟩) (by show b<_;omega) (by show ¬b=w1.heap.size;omega);have We:RI w4 w4.heap.size nA2 c2.B3:=(aea.out.keep VH).ri λb hb=>by omega
 have hs4:Db w4 w4.heap.size hA2 c2.B2:=(aeb.out.keep VH).hs λb hb=>by omega
 have NC:∀o,w4.cell? ⟨w3.heap.size,o,a7⟩=W3.cell? ⟨w3.heap.size,o,a7⟩:=λo=>Zz.out.cell (p:=⟨w3.heap.size,o,a7⟩) ql (by show ¬w3.heap.size=w1.heap.size;omega);obtain⟨ajE,ajF,e',hg4⟩:=PF.out.K5;obtain⟨rfl,rfl⟩:QY=ajE/\LJ=ajF:=by injection e' with a b c;exact⟨a,c⟩
 have hrow4:∀y∈ND,y.length<=4:=λy hy=>by
  obtain⟨p,rfl⟩:=Nu.out y hy;exact yR (eu _ _) hm4
 have J6:=HLL.out;have Dx:=FQ.out;refine aw λK hK=>?_;refine yt (Wd 14) ((Wd 15).trans (by rw[<-J6];rfl)) (by omega) ((NC 0).trans HCB.out.1) ((NC 1).trans HCB.out.2) hg4 We hs4 Dx (by omega) hrow4 λW6 u6 b17 nA3 hA3 KO hc3 b2 xs zs g6 f6 e17 hb17 hb17l SC hC=>hK _ _ ?_;have k8:∀o,w4.cell? ⟨w.heap.size+1,o,a7⟩=W0.cell? ⟨w.heap.size+1,o,a7⟩:=λo=>(IG (w.heap.size+1) o (by omega)).trans (DO.out.cell (p:=⟨w.heap.size+1,o,a7⟩) (by show w.heap.size+1<_;omega))
 have k6:∀o,w4.cell? ⟨w.heap.size,o,a7⟩=W0.cell? ⟨w.heap.size,o,a7⟩:=λo=>(IG w.heap.size o (by omega)).trans (DO.out.cell (p:=⟨w.heap.size,o,a7⟩) (by show w.heap.size<_;omega));refine xV (W5:=w4) (c:=c2) (ls:=ND) (x:=x) (at_:=at_) (by_:=by_) (oA:=oA) (oc:=oc) (b8:=w.heap.size+1) (B:=w.heap.size) (f6.2.1.trans (Wd 3)) (f6.2.2.1.trans (Wd 4)) (f6.2.2.2.2.1.trans (Wd 8)) e17 hC g6 (by omega) ((k8 0).trans Zx.out.1.1) ((k8 1).trans Zx.out.1.2) ((k8 2).trans Zx.out.2.1) ((k8 3).trans Zx.out.2.2) SC Dx J6 hrow4 (HX.out.keep λb o hb=>JZ b o hb) (by omega) λW8 u8 k g2 gcx g8 f8 hk VN hcx hgr XK ajH ajI rn8 rh8=>?_
 refine aw λK hK=>?_;have hz48:=g8.size;have ajJ:Hid (∀V,Gr W8 V->(V.cell? ⟨w.heap.size,0,a7⟩=a8 (a6 nA c.B3.length nc)/\V.cell? ⟨w.heap.size,1,a7⟩=a8 (a6 hA c.B2.length hc))/\(V.cell? ⟨w3.heap.size,0,a7⟩=a8 (a6 nA2 c2.B3.length JQ)/\V.cell? ⟨w3.heap.size,1,a7⟩=a8 (a6 hA2 c2.B2.length hc2))/\(V.cell? ⟨b17,0,a7⟩=a8 (a6 nA3 c2.B3.length KO)/\V.cell? ⟨b17,1,a7⟩=a8 (a6 hA3 c2.B2.length hc3))/\w.heap.size<V.heap.size/\w3.heap.size<V.heap.size/\b17<V.heap.size):=yJ λV hV=>by
  have g4V:=g8.trans hV;have hzV:=hV.size
  exact⟨⟨(g4V.cell (p:=⟨w.heap.size,0,a7⟩) (by show w.heap.size<_;omega)).trans ((k6 0).trans Lu.out.1),(g4V.cell (p:=⟨w.heap.size,1,a7⟩) (by show w.heap.size<_;omega)).trans ((k6 1).trans Lu.out.2)⟩,
   ⟨(g4V.cell (p:=⟨w3.heap.size,0,a7⟩) (by show w3.heap.size<_;omega)).trans ((NC 0).trans HCB.out.1),(g4V.cell (p:=⟨w3.heap.size,1,a7⟩) (by show w3.heap.size<_;omega)).trans ((NC 1).trans HCB.out.2)⟩,
   ⟨(hV.cell (p:=⟨b17,0,a7⟩) XK).trans ajH,(hV.cell (p:=⟨b17,1,a7⟩) XK).trans ajI⟩,by omega,by omega,by omega⟩
 have e15:u8 15=a6 QY ND.length LJ:=f8.2.2.2.1.trans (f6.2.2.2.2.2.2.trans ((Wd 15).trans (by rw[<-J6];rfl)));refine xW (nA:=nA) (hA:=hA) (nA2:=nA2) (hA2:=hA2) (nA3:=nA3) (hA3:=hA3) (gA:=gA) (gA1:=QY) (b6:=w.heap.size) (b14:=w3.heap.size) (b17:=b17) (f8.1.trans (f6.1.trans (Wd 1))) (f8.2.1.trans (f6.2.2.2.1.trans (Wd 6))) (f8.2.2.1.trans (f6.2.2.2.2.2.1.trans (Wd 14))) e15 VN (f8.2.2.2.2.trans e17) ajJ λW9 u9 g9 f9 r19 r20=>hK _ _ ?_
 obtain⟨cb,e19,lcb,aed⟩:=r19;obtain⟨rb,e20,lrb,aee⟩:=r20;have g49:=g8.trans g9;have Up:=(yK.1 aed).1;have Uq:=(yK.1 aee).1;have cc:=λi=>(cell_of_heap aed i).1;have rr:=λi=>(cell_of_heap aee i).1;have a0:RI W9 W9.heap.size nA c.B3:=((HN.out.keep JZ).more hz).on' g49;have a1:Db W9 W9.heap.size hA c.B2:=((HH.out.keep JZ).more hz).on g49;have a2:Da W9 W9.heap.size gA ls:=((HG.out.keep JZ).more hz).on g49
 have b0:=We.on' g49;have b1:=hs4.on g49;have b2':=hg4.on g49;have o5:∀y∈c2.B2,y.off.length<=20:=λy hy=>yR (Dx.off y hy).1 (by omega);have hrow:(ND[k]?.getD []).length<=4:=by
  rw[yM hk];exact hrow4 _ (zx hk)
 have ajK:(c2.B2.set 0 x).length=c2.B2.length:=Bc ..;have Jn:(ND.set k (ND[k]?.getD []++[by_])).length=ND.length:=Bc ..;have hc1:=kQ PF.out.row;refine aw λK hK=>?_
 refine wE (cb:=cb) (co:=0) (rb:=rb) (ro:=0) (cc:=5) (rc:=5) (F:=λk'=>match k' with
  |0=>⟨nA,hA,gA,nc,hc,gc,c,ls⟩
  |1=>⟨nA2,hA2,QY,JQ,hc2,LJ,c2,ND⟩
  |2=>⟨nA2,hA2,a8 ⟨g2,0,a7⟩,JQ,hc2,gcx,c2,ND.set k (ND[k]?.getD []++[by_])⟩
  |3=>⟨nA2,hA2,gA,JQ,hc2,gc,c2,ls⟩
  |_=>⟨nA3,hA3,QY,KO,hc3,LJ,{ c2 with B2:=c2.B2.set 0 x },ND⟩) e19 e20 (λk' E5=>?_) (λk' E5=>?_) λW10 u10 g10=>hK _ _ ?_
 .match k',E5 with
  |0,_=>exact⟨cc 0,cc 1,rr 0,⟨Up,Uq⟩,⟨a0,a1,a2⟩,⟨HS.out.1,HS.out.2.1,HS.out.2.2,HF.out.1,HF.out.2⟩⟩
  |1,_=>exact⟨cc 2,cc 3,rr 1,⟨Up,Uq⟩,⟨b0,b1,b2'⟩,⟨by show c2.B3.length<=20;omega,by show c2.B2.length<=20;omega,o5,by show ND.length<=20;omega,λy hy=>yR (hrow4 y hy) (by omega)⟩⟩
  | 2, _ => exact ⟨cc 4, cc 5, (rr 2).trans (congrArg (fun n => a8 (a6 (a8 ⟨g2, 0, a7⟩) n gcx)) Jn.symm), ⟨Up, Uq⟩, ⟨b0, b1, hgr.on g9⟩, ⟨by show c2.B3.length <= 20; omega, by show c2.B2.length <= 20; omega, o5, by show (ND.set k _).length <= 20; omega, fun y hy => by
    rcases Bb hy with hy|rfl
    .exact yR (hrow4 y hy) (by omega)
    .rw[Ad,List.length_singleton];omega⟩⟩
  |3,_=>exact⟨cc 6,cc 7,rr 3,⟨Up,Uq⟩,⟨b0,b1,a2⟩,⟨by show c2.B3.length<=20;omega,by show c2.B2.length<=20;omega,o5,HF.out.1,HF.out.2⟩⟩
  | 4, _ => exact ⟨cc 8, (cc 9).trans (congrArg (fun n => a8 (a6 hA3 n hc3)) ajK.symm), rr 4, ⟨Up, Uq⟩, ⟨rn8.on' g9, rh8.on g9, b2'⟩, ⟨by show c2.B3.length <= 20; omega, by show (c2.B2.set 0 x).length <= 20; omega, fun y hy => by
    rcases Bb hy with hy|rfl
    .exact o5 y hy
    .exact HXO.out,by show ND.length<=20;omega,λy hy=>yR (hrow4 y hy) (by omega)⟩⟩
 .match k',E5 with
  |0,_=>exact LI.out
  |1,_=>exact(by show ND.length<=LJ;omega)
  |2,_=>exact(by show(ND.set k _).length<=gcx;omega)
  |3,_=>exact LI.out
  |4,_=>exact(by show ND.length<=LJ;omega)
 .exact kr (more:=[]) (by kernel_rfl) ⟨II,rfl⟩
end
end Go.Sq
