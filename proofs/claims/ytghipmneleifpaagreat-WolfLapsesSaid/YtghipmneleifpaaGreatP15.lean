/- Parts of the proof. -/
import Derived.Test.YtghipmneleifpaaGreatP13
import Derived.Test.YtghipmneleifpaaGreatP14
import Derived.Test.YtghipmneleifpaaGreatP00
import Derived.Test.YtghipmneleifpaaGreatP10
import Derived.Test.YtghipmneleifpaaGreatP12
import Derived.WalkKit
set_option linter.all false
set_option maxHeartbeats 3200000
set_option maxRecDepth 1000000
open Go.Value renaming slice->a6,int->bh,pointer->bq
open Option renaming none->a7,some->a8
open Go renaming World->bb,Value->bl,bodyPost_ret->b7,Addr->b8,results_none->cw,Calls->cE,leaves_cons->cF,TypeId->dn,info_parts->dr
open Go.IntKind renaming i64->bk
open Go.World renaming setCell->bo,alloc_heap_new->b9,cell?->cq
open Ne renaming symm->bs
open Bool renaming false->bw,true->cK
open Go.Obj renaming cells->bD
open Go.Proofs renaming intOf->bW
open Go.Proofs.Tryz renaming results34->b5,ntmps65->cu,results64->cU
open Decidable renaming decide->b6
open List renaming range->cr
namespace Go.Sq
open Go.Proofs
open Go.RowKit Go.Shelf
attribute [local go_sem] Oper.semAt_some
def EB:CR:=λ_=>0
def dO {c:Cc}:∀i,c.has (EB i):=λ_=>Nat.pos_of_ne_zero (by simp)
def gq {c:Cc}(Dx:c.Ok):∀x∈Cy c.B2.length,c.has x:=mw _ Dx.h4
def iK {c:Cc}(Dx:c.Ok):(Cy c.B2.length).length<=16:=by
 rw[dq _ Dx.h4];exact yR (Av (by omega) Dx.h4) (by decide)
def isSome (c:Cc):Bool:=!(Cv c (Cy c.B2.length) c.B3.length EB 0).isEmpty
def ru {K:Nat->Prop}{cb:Nat}{c:Cc}{nA hA:Option b8}{nc hc sb sc:Nat}(w:bb)(Dx:c.Ok)(hK:Eo w K cb c (Cy c.B2.length) nA hA nc hc sb sc) :
  cE B1 64 #[.pointer (a8 ⟨cb,0,a7⟩)] w λe w'=>e=.returned (.bool (isSome c))/\Gr w w':=by
 rw[<-callsIn_wide (n:=0)];have HK:=yJ hK;have FA:=hK.lt;have WW:=yJ FA;clear hK FA;refine callsIn_of_wp_marks Sq.func64 rfl trivial ?_ rfl;simp only[Tryz.ntmps64,yX,yV,zb,Nat.reduceAdd,Nat.reduceSub,zM,zN,zX,zR,Ab,zV]
 gi_wp2_with fail
 have Gz:=lZ cb 0 EB (w.alloc (bD #[.bool bw] 4));rw[<-callsIn_wide (n:=0)] at Gz;refine⟨trivial,rfl,Gz.mono ?_⟩;rintro e w1 ⟨rfl,F0⟩;have HS:=yJ (ky (T0:=(·=w.heap.size)) (K:=K) (n:=0) (r:=EB) (HK.out.keep (w':=w.alloc (bD #[.bool bw] 4)) (by simp) λb o hb=>za _ _ _ (WW.out b hb)) (λb hb=>by subst hb;simp) (λb hb h=>by have:=WW.out b hb;omega) dO);rw[<-F0] at HS;have HW:=yJ F0
 clear F0 Gz;have hres:w1.heap[w.heap.size]?=a8 (bD #[.bool bw] 4 (0,0)):=by
  rw[HW.out,Ar _ _ _ (by simp;omega),Ar _ _ _ (by simp;omega),Ar _ _ _ (by simp)];exact b9 w _
 have Hd:=yJ hres;have hz:w1.heap.size=w.heap.size+4:=by rw[HW.out];simp
 have HZ:=yJ hz;have hg1:Gr w w1:=by rw[HW.out];exact((((Gr.refl w).alloc _).alloc _).alloc _).alloc _
 have HG:=yJ hg1;clear hres hz hg1
 gi_wp2_with fail
 refine pa (T0:=(·=w.heap.size)) (K:=K) (cb:=cb) (c:=c) (sets:=Cy c.B2.length) (nA:=nA) (hA:=hA) (nc:=nc) (hc:=hc) (sb:=sb) (sc:=sc) (bc:=w.heap.size+1) (br:=w.heap.size+1+1) (bn:=w.heap.size+1+2) (k:=c.B3.length) (n:=0) (r:=EB)
  Dx (gq Dx) (iK Dx) rfl (by omega) (λ_ _=>rfl) (by simpa using HS.out) (by rintro b rfl;have:=HZ.out;omega)
  (λpre W=>pre=[]/\W.heap[w.heap.size]?=a8 (bD #[.bool bw] 4 (0,0)))
  (λj pre W=>j=.ret/\pre≠[]/\W.heap[w.heap.size]?=a8 (bD #[.bool cK] 4 (0,0)))
  (λpre W W' h hk=>⟨h.1,(hk _ rfl).trans h.2⟩) (λj pre W W' h hk=>⟨h.1,h.2.1,(hk _ rfl).trans h.2.2⟩) ⟨rfl,Hd.out⟩
  ?_ ?_ ?_
 .intro l pre ρ W JZ EC;obtain⟨rfl,hb⟩:=EC;obtain⟨h1,h2,h3⟩:=one_cell hb;have HB:=yJ (one_set (u:=.bool cK) hb);clear JZ hb
  gi_wp2
  exact⟨KT.setCell (T:=(·=w.heap.size)) W (p:=⟨w.heap.size,0,a7⟩) rfl _,rfl,by simp,HB.out⟩
 .rintro D W hD JZ ⟨hL,hb⟩ hd;obtain⟨h1,h2,h3⟩:=one_cell hb;have HB:=yJ (one_set (u:=.bool bw) hb);have QJ:=yJ (JZ.gr HG.out (by rintro b (rfl|rfl)<;>omega));have HL:=yJ (show isSome c=bw by unfold isSome;rw[hL];rfl);have Wp:D≠w.heap.size:=λe=>by subst e;rw[hb] at hd;cases hd
  have HD:=yJ (show(W.setCell ⟨w.heap.size,0,a7⟩ (.bool bw)).heap[D]?=a8 (.deferred (a8 [])) from(yU _ _ _ _ Wp).trans hd);have hz:=HZ.out;clear JZ hb hd hL
  gi_wp2
  refine dR HD.out (v:=.bool bw) ?_ ⟨by rw[HL.out],(QJ.out.setCell (yL _) _).putObj (by omega) _⟩;have:=(one_cell HB.out).1;rw[<-cy (D:=D) (o:=.deferred a7) (p:=⟨w.heap.size,0,a7⟩) (bs Wp)] at this;simp[results,cU,go_sem,this]
 .rintro D j q W hD JZ hq ⟨rfl,hne,hb⟩ hd;have Wp:D≠w.heap.size:=λe=>by subst e;rw[hb] at hd;cases hd
  refine wpIn_ret ?_;refine dR hd (v:=.bool cK) ?_ ⟨?_,(JZ.gr HG.out (by have:=HZ.out;rintro b (rfl|rfl)<;>omega)).putObj (by have:=HZ.out;omega) _⟩
  .have:=(one_cell hb).1;rw[<-cy (D:=D) (o:=.deferred a7) (p:=⟨w.heap.size,0,a7⟩) (bs Wp)] at this;simp[results,cU,go_sem,this]
  .refine ap ?_;unfold isSome;obtain⟨t,ht⟩:=hq;cases hw:Cv c (Cy c.B2.length) c.B3.length EB 0 with
   |nil=>rw[hw] at ht;exact absurd (List.append_eq_nil_iff.1 ht).1 hne
   |cons a l=>rfl
def I8 (l m:List Int):Bool:=b6 (l.length<m.length)||(b6 (l.length=m.length)&&b6 (Hc l m<0))
def I9 (w:bb)(kb:Nat):Option (List Int)->Prop
 |none=>w.heap[kb]?=a8 (bD #[.int .i32 0,.int .u32 0,.slice a7 0 0,.bool bw] 123 (0,0))
 |some l=>∃A c,w.heap[kb]?=a8 (bD #[.int .i32 0,.int .u32 0,a6 A l.length c,.bool cK] 123 (0,0))/\l.length<=4611686018427387904/\Hb w (λb=>b≠kb/\b<w.heap.size) A l
def KA:Option (List Int)->List Int->List Int
 |none,x=>x
 |some b,x=>if I8 x b then x else b
def ER {W:bb}{b:Nat}{v0 v1 v2 v3:bl}{t:dn}(h:W.heap[b]?=a8 (bD #[v0,v1,v2,v3] t (0,0))) :
  W.cell? ⟨b,0,a7⟩=a8 v0/\W.cell? ⟨b,1,a7⟩=a8 v1/\W.cell? ⟨b,2,a7⟩=a8 v2/\W.cell? ⟨b,3,a7⟩=a8 v3/\(∀i,W.frozen? ⟨b,i,a7⟩=bw)/\b<W.heap.size:=by
 refine⟨?_,?_,?_,?_,λi=>?_,(yK.1 h).1⟩
 .unfold cq;simp only[h];rfl
 .unfold cq;simp only[h];rfl
 .unfold cq;simp only[h];rfl
 .unfold cq;simp only[h];rfl
 .unfold World.frozen?;simp[h]
def Cz {W:bb}{b i:Nat}{a:Array bl}{u:bl}{t:dn}{f:Nat×Nat}(h:W.heap[b]?=a8 (.cells a t f)):(W.setCell ⟨b,i,a7⟩ u).heap[b]?=a8 (.cells (a.setIfInBounds i u) t f):=by
 unfold bo;simp only[zH,if_true,h]
 rfl
def Hb.keep' {w w':bb}{kb:Nat}{A:Option b8}{l:List Int}(h:Hb w (λb=>b≠kb/\b<w.heap.size) A l)(hz:w.heap.size<=w'.heap.size)(hk:∀b o,b≠kb->w'.cell? ⟨b,o,a7⟩=w.cell? ⟨b,o,a7⟩):Hb w' (λb=>b≠kb/\b<w'.heap.size) A l:=λhn=>by
 obtain⟨b,o,e,hb,hc⟩:=h hn;exact⟨b,o,e,⟨hb.1,yO hb.2 hz⟩,λi x hx=>(hk _ _ hb.1).trans (hc i x hx)⟩
def tu (A A':Option b8)(c c':Nat)(l m:List Int)(w:bb)(B:Nat)(h:RI w B A l)(h':RI w B A' m)(hl:l.length<=4611686018427387904)(hm:m.length<=4611686018427387904) :
  cE B1 66 #[a6 A l.length c,a6 A' m.length c'] w λe w'=>e=.returned (.bool (I8 l m))/\w=w':=by
 have HC:=yJ (kT A A' c c' l m w B h h' hl hm);go_enter Sq.func66,Tryz.ntmps66;by_cases h1:l.length<m.length
 .have HL:=yJ (show I8 l m=cK by simp[I8,h1]);go_wp2;go_ret;exact⟨ap HL.out.symm,rfl⟩
 .by_cases h2:l.length=m.length
  .have HL:=yJ (show I8 l m=b6 (Hc l m<0) by simp[I8,h2]);rw[h2] at HC ⊢;generalize Hc l m=q at HC HL;go_wp2_with (go_at_call 67;refine HC.out.mono ?_;rintro e w' ⟨rfl,rfl⟩);go_ret;exact⟨ap HL.out.symm,rfl⟩
  .have HL:=yJ (show I8 l m=bw by simp[I8,h1,h2]);generalize l.length=a at h1 h2 hl ⊢;generalize m.length=b at h1 h2 hm ⊢;go_wp2;go_ret;exact⟨ap HL.out.symm,rfl⟩
def uZ (kb:Nat)(xA:Option b8)(xc:Nat)(x:List Int)(o:Option (List Int))(w:bb)(hk:I9 w kb o)(hx:Hb w (λb=>b≠kb/\b<w.heap.size) xA x)(hl:x.length<=4611686018427387904) :
  cE B1 65 #[.pointer (a8 ⟨kb,0,a7⟩),a6 xA x.length xc,.func (.func 66) #[] #[]] w λe w'=>e=.returned (.tuple #[])/\KT (·=kb) w w'/\I9 w' kb (a8 (KA o x)):=by
 have HX:=yJ hx;cases o with
 |none =>
  obtain⟨h0,h1,h2,h3,hf,hlt⟩:=ER hk;have f0:=hf 0;have f2:=hf 2;have f3:=hf 3;have HK:=yJ hk;go_enter_defers Sq.func65,cu;go_wp2_with (go_at_call 87;refine(Bz ⟨kb,0,a7⟩ _ h0 f0).mono ?_;rintro e w' ⟨rfl,rfl⟩);have HS:=yJ (Cz (i:=3) (u:=.bool cK) (Cz (i:=2) (u:=a6 xA x.length xc) (Cz (i:=0) (u:=.int .i32 1) HK.out)));refine cF (f:=88) (args:=#[.pointer (a8 ⟨kb,0,a7⟩)]) (by simp) (by simp[go_sem]) ?_
  obtain⟨c0,_,_,_,cf,_⟩:=ER HS.out;refine(Bx ⟨kb,0,a7⟩ .returning _ c0 (cf 0)).mono ?_;rintro e u' w'' ⟨rfl,rfl,rfl⟩;have K9:=Cz (i:=0) (u:=.int .i32 0) HS.out;refine⟨.tuple #[],cw rfl _ _ _,rfl,(((KT.setCell (T:=(·=kb)) w (p:=⟨kb,0,a7⟩) rfl _).trans (KT.setCell (T:=(·=kb)) _ (p:=⟨kb,2,a7⟩) rfl _)).trans (KT.setCell (T:=(·=kb)) _ (p:=⟨kb,3,a7⟩) rfl _)).trans (KT.setCell (T:=(·=kb)) _ (p:=⟨kb,0,a7⟩) rfl _),?_⟩
  refine⟨xA,xc,K9,hl,HX.out.keep' (by simp[bo]) λb i hb=>?_⟩;rw[yP _ _ _ _ (by simp[bs hb]),yP _ _ _ _ (by simp[bs hb]),yP _ _ _ _ (by simp[bs hb]),yP _ _ _ _ (by simp[bs hb])]
 |some b =>
  obtain⟨bA,bc,hk,hbl,hb⟩:=hk;obtain⟨h0,h1,h2,h3,hf,hlt⟩:=ER hk;have f0:=hf 0;have HK:=yJ hk;have HB:=yJ hb;have kp:∀ {A:Option b8} {l:List Int},Hb w (λb=>b≠kb/\b<w.heap.size) A l->RI (w.setCell ⟨kb,0,a7⟩ (.int .i32 1)) w.heap.size A l:=λh=>Hb.ri (K:=λb=>b≠kb/\b<w.heap.size) (h.keep λb o hb=>yP _ _ _ _ (by simp[bs hb.1])) λb hb=>hb.2;have HC:=yJ (tu xA bA xc bc x b (w.setCell ⟨kb,0,a7⟩ (.int .i32 1)) w.heap.size (kp HX.out) (kp hb) hl hbl)
  obtain⟨v,hv⟩:∃v,v=I8 x b:=⟨_,rfl⟩;rw[<-hv] at HC;have HV:=yJ hv;clear hv;cases v with
  |true =>
   go_enter_defers Sq.func65,cu;go_wp2_with (first|(go_at_call 87;refine(Bz ⟨kb,0,a7⟩ _ h0 f0).mono ?_;rintro e w' ⟨rfl,rfl⟩)|(go_at_call 66;refine HC.out.mono ?_;rintro e w' ⟨rfl,rfl⟩));have HS:=yJ (Cz (i:=3) (u:=.bool cK) (Cz (i:=2) (u:=a6 xA x.length xc) (Cz (i:=0) (u:=.int .i32 1) HK.out)));refine cF (f:=88) (args:=#[.pointer (a8 ⟨kb,0,a7⟩)]) (by simp) (by simp[go_sem]) ?_
   obtain⟨c0,_,_,_,cf,_⟩:=ER HS.out;refine(Bx ⟨kb,0,a7⟩ .returning _ c0 (cf 0)).mono ?_;rintro e u' w'' ⟨rfl,rfl,rfl⟩;have K9:=Cz (i:=0) (u:=.int .i32 0) HS.out;refine⟨.tuple #[],cw rfl _ _ _,rfl,(((KT.setCell (T:=(·=kb)) w (p:=⟨kb,0,a7⟩) rfl _).trans (KT.setCell (T:=(·=kb)) _ (p:=⟨kb,2,a7⟩) rfl _)).trans (KT.setCell (T:=(·=kb)) _ (p:=⟨kb,3,a7⟩) rfl _)).trans (KT.setCell (T:=(·=kb)) _ (p:=⟨kb,0,a7⟩) rfl _),?_⟩
   have Yy:KA (a8 b) x=x:=by simp[KA,<-HV.out]
   rw[Yy];refine⟨xA,xc,K9,hl,HX.out.keep' (by simp[bo]) λb i hb=>?_⟩;rw[yP _ _ _ _ (by simp[bs hb]),yP _ _ _ _ (by simp[bs hb]),yP _ _ _ _ (by simp[bs hb]),yP _ _ _ _ (by simp[bs hb])]
  |false =>
   go_enter_defers Sq.func65,cu;go_wp2_with (first|(go_at_call 87;refine(Bz ⟨kb,0,a7⟩ _ h0 f0).mono ?_;rintro e w' ⟨rfl,rfl⟩)|(go_at_call 66;refine HC.out.mono ?_;rintro e w' ⟨rfl,rfl⟩));have HS:=yJ (Cz (i:=0) (u:=.int .i32 1) HK.out);refine cF (f:=88) (args:=#[.pointer (a8 ⟨kb,0,a7⟩)]) (by simp) (by simp[go_sem]) ?_;obtain⟨c0,_,_,_,cf,_⟩:=ER HS.out;refine(Bx ⟨kb,0,a7⟩ .returning _ c0 (cf 0)).mono ?_
   rintro e u' w'' ⟨rfl,rfl,rfl⟩;have K9:=Cz (i:=0) (u:=.int .i32 0) HS.out;refine⟨.tuple #[],cw rfl _ _ _,rfl,(KT.setCell (T:=(·=kb)) w (p:=⟨kb,0,a7⟩) rfl _).trans (KT.setCell (T:=(·=kb)) _ (p:=⟨kb,0,a7⟩) rfl _),?_⟩;have Yy:KA (a8 b) x=b:=by simp[KA,<-HV.out]
   rw[Yy];refine⟨bA,bc,K9,hbl,HB.out.keep' (by simp[bo]) λb i hb=>?_⟩;rw[yP _ _ _ _ (by simp[bs hb]),yP _ _ _ _ (by simp[bs hb])]
def al {w w':bb}{base size n:Nat}{e:dn}{v:bl}{xs:List bl}(h:w.ownsRow base e size v n xs)(hk:∀g,v.ownBlock=a8 g->g<w.heap.size->w'.heap[g]?=w.heap[g]?):w'.ownsRow base e size v n xs:=by
 have hlt:=h.lt;refine⟨h.1,?_⟩;rcases h.2 with h0|⟨g,cap,cur,rfl,h1,h2,h3⟩
 .exact .inl h0
 .exact .inr ⟨g,cap,cur,rfl,h1,(hk g rfl (hlt g rfl).2).trans h2,h3⟩
def be {w:bb}{b1 b2 s1 s2 n1 n2:Nat}{e1 e2:dn}{v1 v2:bl}{x1 x2:List bl}(he:e1≠e2)(h1:w.ownsRow b1 e1 s1 v1 n1 x1)(h2:w.ownsRow b2 e2 s2 v2 n2 x2){g:Nat}(hg:v1.ownBlock=a8 g):a8 g≠v2.ownBlock:=by
 rcases h1.2 with⟨rfl,_⟩|⟨g1,c1,u1,rfl,_,a1,_⟩
 .cases hg
 .rcases h2.2 with⟨rfl,_⟩|⟨g2,c2,u2,rfl,_,a2,_⟩
  .intro h;cases h
  .intro h;obtain rfl:g1=g:=by injection hg
   obtain rfl:g1=g2:=by injection h
   rw[a1] at a2;injection a2 with a2
   injection a2 with _ h _
   exact he h
def ef {w:bb}{B:Nat}{e:dn}{size n:Nat}{v:bl}{xs:List bl}(h:w.ownsRow B e size v n xs){b:Nat}(hb:b<B):a8 b≠v.ownBlock:=λhh=>by
 have:=(h.lt b hh.symm).1;omega
def Dp {w:bb}{B B':Nat}{e:dn}{size n:Nat}{v:bl}{xs:List bl}(h:w.ownsRow B e size v n xs)(hb:B'<=B):w.ownsRow B' e size v n xs:=by
 refine⟨h.1,?_⟩;rcases h.2 with h0|⟨g,cap,cur,h1,h2,h3⟩
 .exact .inl h0
 .exact .inr ⟨g,cap,cur,h1,by omega,h3⟩
structure Ce (w:bb)(base:Nat)(v:bl)(ls:List (List Int))(xs:List bl):Prop where
 row:w.ownsRow base 22 1 v ls.length xs
 cells:∀(i:Nat) (l:List Int),ls[i]?=a8 l->∃u,xs[i]?=a8 u/\w.ownsRow base 3 1 u l.length (l.map (bh bk))
def Ce.nil (w:bb)(base:Nat):Ce w base (.slice a7 0 0) [] []:=⟨zF _ _ _ _,λi l h=>by simp at h⟩
def Ce.keep {w w':bb}{base:Nat}{v:bl}{ls:List (List Int)}{xs:List bl}(h:Ce w base v ls xs)(hk:∀b,b<w.heap.size->w'.heap[b]?=w.heap[b]?):Ce w' base v ls xs :=
 ⟨al h.row λg _ hl=>hk g hl,λi l hi=>by
  obtain⟨u,h1,h2⟩:=h.cells i l hi
  exact⟨u,h1,al h2 λg _ hl=>hk g hl⟩⟩
def Ce.keep' {w w':bb}{base:Nat}{v:bl}{ls:List (List Int)}{xs:List bl}(h:Ce w base v ls xs)(hk:∀b,base<=b->b<w.heap.size->w'.heap[b]?=w.heap[b]?):Ce w' base v ls xs :=
 ⟨al h.row λg hg hl=>hk g (h.row.lt g hg).1 hl,λi l hi=>by
  obtain⟨u,h1,h2⟩:=h.cells i l hi
  exact⟨u,h1,al h2 λg hg hl=>hk g (h2.lt g hg).1 hl⟩⟩
def Ce.push {w1 w w':bb}{base n:Nat}{v v' u:bl}{ls:List (List Int)}{xs:List bl}{l:List Int}(h:Ce w base v ls xs)(hu:w.ownsRow base 3 1 u l.length (l.map (bh bk)))
  (h1:∀b,b<w.heap.size->w1.heap[b]?=w.heap[b]?) (hs:w.heap.size<=w1.heap.size) (hg:w1.grownBy w' v.ownBlock) (hn:n=ls.length) (hr:w'.ownsRow base 22 1 v' (n+1) (xs++[u])):Ce w' base v' (ls++[l]) (xs++[u]):=by
 subst hn;have key:∀ {y:bl} {m:Nat} {zs:List bl},w.ownsRow base 3 1 y m zs->w'.ownsRow base 3 1 y m zs:=λhy=>al hy λg EE hl =>
  (hg.block g (yO hl hs) (be (by decide) hy h.row EE)).trans (h1 g hl)
 have hlen:xs.length=ls.length:=by have:=h.row.1;omega
 refine⟨by simpa using hr,λi y hi=>?_⟩;rcases zC i ls.length with hlt|GK
 .rw[zo hlt] at hi;obtain⟨z,hz,hzo⟩:=h.cells i y hi;exact⟨z,by rw[zo (by omega)];exact hz,key hzo⟩
 .have Uv : i = ls.length := by
   have:=(ze.1 hi).1;simp at this;omega
  subst Uv;rw[zv (yL _)] at hi;simp at hi;subst hi;exact⟨u,by rw[zv (by omega),hlen];simp,key hu⟩
def Ce.K5 {w:bb}{base:Nat}{v:bl}{ls:List (List Int)}{xs:List bl}(h:Ce w base v ls xs):∃A c,v=a6 A ls.length c/\Da w w.heap.size A ls:=by
 rcases h.row.2 with⟨rfl,h0⟩|⟨g,cap,cur,rfl,h1,h2,h3⟩
 .have:ls=[]:=zj h0;subst this;exact⟨a7,0,rfl,.nil⟩
 .refine⟨_,cap,rfl,λ_=>⟨g,0,rfl,(yK.1 h2).1,λi l hi=>?_⟩⟩;obtain⟨u,hu,ho⟩:=h.cells i l hi;obtain⟨A,c,rfl,hr⟩:=Bp ho;refine⟨A,c,?_,hr⟩;have:=h.row.cells (g:=g) rfl i _ hu;have e:(⟨g,0,a7⟩:b8).add i=⟨g,0+i,a7⟩:=by unfold Addr.add;split<;>simp_all
  rwa [e] at this
def By:(B1.info? 22).map (λi=>(i.zero,i.size,i.bytes))=a8 (a8 (.slice a7 0 0),1,24):=by
 rw[Br];kernel_rfl
def CG (r:CR)(k:Nat):List (List Int):=(cr k).map λi=>wl (r i)
def i4 (r:CR)(k:Nat):CG r (k+1)=CG r k++[wl (r k)]:=by simp[CG,AY]
def CZ (r:CR)(k:Nat):(CG r k).length=k:=by simp[CG]
def oH (cb:Nat)(nA:Option b8)(n nc:Nat)(r:CR)(w:bb)(hcb:cb<w.heap.size)(hc0:w.cell? ⟨cb,0,a7⟩=a8 (a6 nA n nc))(hn:n<=5)(hr:∀i,i<5->r i<16) :
  cE B1 56 #[.pointer (a8 ⟨cb,0,a7⟩),Dr r] w λe w'=>∃A c xs,e=.returned (a6 A n c)/\Ce w' (w.heap.size+1) (a6 A n c) (CG r n) xs/\Gr w w':=by
 obtain⟨i0,hi,hz0,hz1,hz2⟩:=dr By;have HR:=yJ hr;unfold Dr;go_enter Sq.func56,Tryz.ntmps56;go_wp2;go_loopw [5,13] (λv i wr=>∃k:Nat,k<=n/\i=bh bk k/\∃xs,Ce wr (w.heap.size+1) v (CG r k) xs/\(∀j,j<5->wr.cell? ⟨w.heap.size,j,a7⟩=a8 (.int .u8 (r j)))/\Gr w wr/\w.heap.size+1<=wr.heap.size) (λ_ i _=>n-(bW i).toNat)
 case atStart =>
  refine⟨0,by omega,rfl,[],Ce.nil _ _,λj hj=>?_,(Gr.refl w).alloc _,by simp⟩;rw[yN _ _ _ _ rfl]
  match j,hj with
  |0,_=>rfl
  |1,_=>rfl
  |2,_=>rfl
  |3,_=>rfl
  |4,_=>rfl
 case round =>
  obtain⟨k,hk,rfl,xs,Fg,UE,hgr,hsz⟩:=hrel;have HG:=yJ hgr;have HO:=yJ Fg;have UF:=yJ UE;by_cases hlt:k<n
  .have hx:=HR.out k (by omega);have M7:=UF.out k (by omega);have HS:=yJ (i4 r k);have HL:=yJ (gK (r k) wr hx);generalize Mk:r k=x at hx M7 HS HL;go_wp2_with fail;refine HL.out.mono ?_;rintro e w1 ⟨u,rfl,hou,hg1⟩;obtain⟨uA,uc,rfl,_⟩:=Bp hou;have HU:=yJ hou;have DO:=yJ hg1;have hs1:=hg1.size;have ab3:Ce w1 (w.heap.size+1) _ (CG r k) xs:=HO.out.keep λb hb=>DO.out.below.block b hb;have HO1:=yJ ab3
   have hrow:=ab3.row;have hlen:=CZ r k;rw[hlen] at hrow;go_wp2_with (at_builtin;refine CE rfl _ _ 26 rfl (w.heap.size+1) 22 i0 (.slice a7 0 0) 1 24 Sq.underlying26 hi hz0 hz1 hz2 rfl (by decide) _ _ _ rfl (hrow.alloc _) ⟨w1.heap.size,0,a7⟩ 1 1 [a6 uA (wl x).length uc] rfl rfl ?c1 ?c2 ?c3 ?c4 ?c5 ?_)
   case c1 =>
    intro j u hj
    match j,hj with
    |0,hj=>simp at hj;subst hj;simp[Addr.add]
   case c2 =>
    intro u' hu;simp at hu;subst hu;rfl
   case c3=>unfold maxLen;omega
   case c4=>omega
   case c5=>simp;omega
   intro v' w2 hown' hgrow hd;have Gt:=yJ (((HG.out.trans DO.out).alloc (bD #[a6 uA (wl x).length uc] 22)).grown hgrow hd λj hj=>by have:=(hrow.lt j hj).1;omega);have hz2':w1.heap.size+1<=w2.heap.size:=by have:=hgrow.size;simpa using this
   have R5:Hid (Ce w2 (w.heap.size+1) v' (CG r (k+1)) (xs++[a6 uA (wl x).length uc])):=yJ (by
    rw[HS.out]
    refine Ce.push (HO1.out) (Dp HU.out (by omega)) (λb hb=>heap_alloc_old w1 _ hb) (by simp) hgrow (CZ r k).symm hown')
   have ab4:Hid (∀j,j<5->w2.cell? ⟨w.heap.size,j,a7⟩=a8 (.int .u8 (r j))):=yJ λj hj =>
    hgrow.cell ((za _ _ _ (by show w.heap.size<w1.heap.size;omega)).trans ((DO.out.cell (by show w.heap.size<wr.heap.size;omega)).trans (UF.out j hj))) (ef hrow (by show w.heap.size<_;omega))
   have hz3:w.heap.size+1<=w2.heap.size:=by omega
   go_wp2;go_roundw
   case rel=>exact⟨k+1,by omega,by go_num,_,R5.out,ab4.out,Gt.out,by omega⟩
   case measure=>simp[Proofs.intOf];omega
  .have IE:k=n:=by omega
   subst IE;obtain⟨A,c,rfl,_⟩:=HO.out.K5;have hl:=CZ r k;rw[hl] at HO ⊢;go_wp2;go_ret;exact⟨_,_,_,rfl,HO.out,HG.out⟩
def Jt (l:List Int)(i k:Nat):List Int:=(cr l.length).map λj=>if j<k/\i.testBit j=cK then l[j]?.getD 0 else 0
def aZ (i k:Nat):List Int:=((cr k).filter i.testBit).map λn:Nat=>(n:Int)
def KB (c:Cc)(i:Nat):Cc:={ c with B3:=Jt c.B3 i c.B3.length }
def Ee (c:Cc):Nat->Option (List Int)
 |0=>a7
 |i+1=>if Go.Sq.isSome (KB c i) then Ee c i else a8 (KA (Ee c i) (aZ i c.B3.length))
def jq (l:List Int)(i k:Nat):(Jt l i k).length=l.length:=by simp[Jt]
def eD (l:List Int)(i k j:Nat)(hj:j<l.length):(Jt l i k)[j]?=a8 (if j<k/\i.testBit j=cK then l[j]?.getD 0 else 0):=by simp[Jt,hj]
def va {c:Cc}(h:c.Ok)(i:Nat):(KB c i).Ok:=by
 have hl:(KB c i).B3.length=c.B3.length:=jq _ _ _;refine⟨by rw[hl];exact h.n1,by rw[hl];exact h.n5,λx hx=>?_,h.h1,h.h4,h.heads,h.Dd,h.most,by rw[hl];exact h.off⟩;obtain⟨j,hj,rfl⟩:=List.getElem_of_mem hx;have hj':j<c.B3.length:=by rw[hl] at hj;exact hj
 have:=eD c.B3 i c.B3.length j hj';have e:(KB c i).B3[j]=if j<c.B3.length/\i.testBit j=cK then c.B3[j]?.getD 0 else 0:=by
  rw[yM (by rw[jq];exact hj')] at this;exact Option.some.inj this
 rw[e];split
 .exact h.need _ (EK c.B3 j hj')
 .omega
def mB (i k:Nat):aZ i (k+1)=aZ i k++if i.testBit k then[(k:Int)] else[]:=by
 unfold aZ;rw[AY,AK,AZ];cases h:i.testBit k<;>simp[h]
def jV (i k:Nat):(aZ i k).length<=k:=by
 unfold aZ;rw[zy];exact yR (AF _ _) (by simp)
def I9.gr {w w':bb}{kb:Nat}{o:Option (List Int)}(h:I9 w kb o)(hg:Gr w w'):I9 w' kb o:=by
 cases o with
 |none=>exact(hg.below.block kb (yK.1 h).1).trans h
 |some l =>
  obtain⟨A,c,h1,h2,h3⟩:=h;refine⟨A,c,(hg.below.block kb (yK.1 h1).1).trans h1,h2,λhn=>?_⟩;obtain⟨b,o,e,hb,hc⟩:=h3 hn;exact⟨b,o,e,⟨hb.1,yO hb.2 hg.size⟩,λi x hx=>(hg.cell (p:=⟨b,o+i,a7⟩) hb.2).trans (hc i x hx)⟩
def jW {w:bb}{ops:Array Oper}{rest:List Oper}{o:Oper}{a:Act}{Q:Exit->Act->bb->Prop}(hgd:o.guard=a7)(s x:Operand)(ho:o.op=.call { callee:=.builtin .append,args:=#[s,x],argTypes:=#[22,22] })
  (base:Nat) (v:bl) (n:Nat) (xs:List bl) (hs:a.eval s=v) (hown:w.ownsRow base 3 1 v n xs) (ad:b8) (c:Nat) (u:bl) (hx:a.eval x=.slice (a8 ad) 1 c) (hc:w.cell? ad=a8 u) (h1:u.oneCell'=cK)
  (hn:n<=1048576) (hbase:base<=w.heap.size) (h:∀v' w',w'.ownsRow base 3 1 v' (n+1) (xs++[u])->w.grownBy w' v.ownBlock->w.drawn<=w'.drawn->wpList B1 ops Q rest (a.put o.dst v') w'):wpList B1 ops Q (o::rest) a w:=by
 obtain⟨i0,hi,hz0,hz1,hz2⟩:=dr Bv;refine CE hgd s x 22 ho base 3 i0 (bh bk 0) 1 8 Sq.underlying22 hi hz0 hz1 hz2 rfl (by decide) v n xs hs hown ad 1 c [u] hx rfl (λj u' hj=>?_) (λu' hu=>?_) (by unfold maxLen;omega) (by omega) hbase h
 .match j,hj with
  |0,hj =>
   simp at hj;subst hj;have:ad.add 0=ad:=by unfold Addr.add;split<;>simp_all
   rw[this];exact hc
 .simp at hu;subst hu;exact h1
def vb:∀k:Fin 32,∀j:Fin 5,(bits BinOp.and bk ((k.val:Int) / 2 ^ j.val) 1==1)=k.val.testBit j.val:=by decide +kernel
def mC {l:List Int}{i k m:Nat}(hm:m<l.length)(hne:m≠k):(Jt l i (k+1))[m]?.getD 0=(Jt l i k)[m]?.getD 0:=by
 rw[eD _ _ _ _ hm,eD _ _ _ _ hm];have:(m<k+1↔m<k):=by omega
 simp[this]
def mD {l:List Int}{i k:Nat}(hm:k<l.length):(Jt l i (k+1))[k]?.getD 0=if i.testBit k=cK then l[k]?.getD 0 else 0:=by
 rw[eD _ _ _ _ hm];simp
def tv {l:List Int}{i k:Nat}(hm:k<l.length):(Jt l i k)[k]?.getD 0=0:=by
 rw[eD _ _ _ _ hm];simp
def jX (n:Nat):Array Value:=madeCells (bh bk 0).cells (n*1)
def jY (n:Nat)(w:bb)(hn:n<=1048576):(Instr.makeSlice 22 (bh bk (n:Int)) (bh bk (n:Int))).run B1 w=.ok (.slice (a8 ⟨w.heap.size,0,a7⟩) n n) (w.alloc (.cells (jX n) 3)):=by
 obtain⟨i0,hi,hz0,hz1,hz2⟩:=dr Bv;have:=run_makeSlice (P:=B1) w 22 3 i0 (bh bk 0) Sq.underlying22 hi hz0 bk bk (n:Int) (n:Int) (by omega) (by omega) (by rw[hz1];simp;omega) (by rw[hz2];omega) (by omega);rw[hz1] at this;simpa [jX] using this
def fC (n j:Nat)(hj:j<n):(jX n)[j]?=a8 (bh bk 0):=by
 simp[jX,madeCells,Value.cells,hj,Nat.mod_one]
def ve (c:Cc)(w:bb)(e:Ending)(w':bb):Prop :=
 Gr w w'/\if Cn c≠0 then e=.returned (.tuple #[.slice a7 0 0,bh bk (Cn c)]) else if isSome c then e=.returned (.tuple #[.slice a7 0 0,bh bk 11])
  else ∃A k,e=.returned (.tuple #[a6 A ((Ee c (2 ^ c.B3.length)).getD []).length k,bh bk 0])/\RI w' w'.heap.size A ((Ee c (2 ^ c.B3.length)).getD [])
def vi (nA hA:Option b8)(nc hc:Nat)(c:Cc)(w:bb)(B:Nat)(hB:B<=w.heap.size)(hn:RI w B nA c.B3)(hh:Db w B hA c.B2)
  (F4:c.B3.length<=4611686018427387904) (hl2:c.B2.length<=4611686018427387904) (DN:∀h∈c.B2,h.off.length<=4611686018427387904) :
  cE B1 23 #[Cj nA hA c nc hc] w (ve c w):=by
 unfold Cj;obtain⟨W0,hW0⟩:∃W0:bb,W0=w.alloc (bD #[a6 nA c.B3.length nc,a6 hA c.B2.length hc] 25):=⟨_,rfl⟩;have hg0:Gr w W0:=hW0▸(Gr.refl w).alloc _;have hz0:W0.heap.size=w.heap.size+1:=by rw[hW0];simp
 have HW:=yJ hW0;have L4:=yJ (kK nA hA nc hc c W0 B (by omega) (hn.gr hB hg0) (hh.keep λb o hb=>hg0.cell (yO hb hB)) F4 hl2 DN);have Du:=yJ hg0;have hcm:W0.cell? ⟨w.heap.size,0,a7⟩=a8 (a6 nA c.B3.length nc)/\W0.cell? ⟨w.heap.size,1,a7⟩=a8 (a6 hA c.B2.length hc):=by
  rw[hW0];constructor
  all_goals rw[yN _ _ _ _ rfl];rfl
 have M8:=yJ hcm;have HN:=yJ hn;have HH:=yJ hh;clear hW0 hg0 hn hh DN hcm;go_enter Sq.func23,Tryz.ntmps23;unfold Cj at L4;go_wp2_with fail;rw[<-HW.out];refine L4.out.mono ?_;rintro e w1 ⟨hg1,J5⟩;have DO:=yJ hg1;by_cases hE:Cn c=0
 .rw[if_pos hE] at J5;obtain⟨cb,g,cap,rfl,hcb,Yz,hK,_⟩:=J5;have HK:=yJ hK;have HE:=yJ hE;have FQ:=yJ (Cc.Ok.of hE);have R6:=yJ (ru w1 FQ.out hK);clear hg1 hK L4 hE;obtain⟨v,hv⟩:∃v,v=isSome c:=⟨_,rfl⟩;rw[<-hv] at R6;have HV:=yJ hv;clear hv;cases v with
  |true =>
   go_wp2_with (go_at_call 64;refine R6.out.mono ?_;rintro e w2 ⟨rfl,hg2⟩;have Gt:=yJ hg2;clear hg2);go_ret2;refine⟨Du.out.trans (DO.out.trans Gt.out),?_⟩;rw[if_neg (by simp[HE.out]),if_pos HV.out.symm]
   rfl
  |false =>
   go_wp2_with fail;refine R6.out.mono ?_;rintro e w2 ⟨rfl,hg2⟩;have Gt:=yJ (Du.out.trans (DO.out.trans hg2));have hc0:w2.cell? ⟨w.heap.size,0,a7⟩=a8 (a6 nA c.B3.length nc):=((DO.out.trans hg2).cell (by show w.heap.size<_;omega)).trans M8.out.1;have hc1:w2.cell? ⟨w.heap.size,1,a7⟩=a8 (a6 hA c.B2.length hc):=((DO.out.trans hg2).cell (by show w.heap.size<_;omega)).trans M8.out.2
   have hz2:w.heap.size<w2.heap.size:=by have:=hg2.size;have:=DO.out.size;omega
   have Mr:=FQ.out.n5;have Yw:((2:Int) ^ c.B3.length)=((2 ^ c.B3.length:Nat):Int)/\2 ^ c.B3.length<=32:=by
    have:c.B3.length=0\/c.B3.length=1\/c.B3.length=2\/c.B3.length=3\/c.B3.length=4\/c.B3.length=5:=by omega
    rcases this with e|e|e|e|e|e<;>rw[e]<;>decide
   obtain⟨GN,Mh⟩:=Yw;have hw:∀N:Nat,N<=32->IntKind.i64.wrap (N:Int)=N:=λN h=>by simp[IntKind.wrap,IntKind.bits,IntKind.signed];omega
   obtain⟨N,hN⟩:∃N,N=2 ^ c.B3.length:=⟨_,rfl⟩;rw[<-hN] at GN Mh;have hwp:wrap64 ((2:Int) ^ c.B3.length)=(N:Int):=by
    rw[GN];unfold wrap64;omega
   have JE:=λw=>jY c.B3.length w (by omega);have HNN:=yJ hN;clear GN hw hN;have IG:I9 (w2.alloc (bD #[.int .i32 0,.int .u32 0,.slice a7 0 0,.bool bw] 123)) w2.heap.size (Ee c 0):=b9 w2 _;have HK0:=yJ IG;clear IG;go_wp2;rw[hwp];clear hwp;have hgz:=Gt.out.size;go_loopw [26] (λi wr=>∃k:Nat,k<=N/\i=bh bk k/\I9 wr w2.heap.size (Ee c k)/\Gr w wr/\wr.cell? ⟨w.heap.size,0,a7⟩=a8 (a6 nA c.B3.length nc)/\wr.cell? ⟨w.heap.size,1,a7⟩=a8 (a6 hA c.B2.length hc)/\w2.heap.size<wr.heap.size) (λi _=>N-(bW i).toNat)
   case atStart =>
    exact⟨0,by omega,rfl,HK0.out,Gt.out.alloc _,(za _ _ _ hz2).trans hc0,(za _ _ _ hz2).trans hc1,by simp⟩
   case round =>
    obtain⟨wq,rfl⟩:∃wq,wq=wr:=⟨_,rfl⟩;obtain⟨k,hk,rfl,FA,hgr,hc0,hc1,YA⟩:=hrel;have WW:=yJ FA;have E6:=yJ hgr;clear FA hgr;have Ib:w.heap.size<wq.heap.size:=by omega
    by_cases hlt:k<N
    .go_wp2
     go_loopw [9,38] (λv i wr=>∃j:Nat,j<=c.B3.length/\i=bh bk j/\wr.ownsRow (wq.heap.size+2) 3 1 v (aZ k j).length ((aZ k j).map (bh bk)) /\
      (∀m,m<c.B3.length->wr.cell? ⟨wq.heap.size+1,m,a7⟩=a8 (bh bk ((Jt c.B3 k j)[m]?.getD 0))/\wr.frozen? ⟨wq.heap.size+1,m,a7⟩=bw) /\
      wr.cell? ⟨wq.heap.size,0,a7⟩=a8 (.slice (a8 ⟨wq.heap.size+1,0,a7⟩) c.B3.length c.B3.length)/\wr.cell? ⟨wq.heap.size,1,a7⟩=a8 (a6 hA c.B2.length hc)/\Gr wq wr/\wq.heap.size+2<=wr.heap.size) (λ_ i _=>c.B3.length-(bW i).toNat)
     case atStart =>
      refine⟨0,by omega,rfl,zF _ _ _ _,λm hm=>⟨?_,?_⟩,?_,?_,((Gr.refl wq).alloc _).alloc _,by simp⟩
      .rw[yN _ _ _ _ (by simp),fC _ _ hm,eD _ _ _ _ hm];simp
      .rw[zD _ _ _ _ (by simp)]
      .rw[za _ _ _ (by simp),yN _ _ _ _ rfl];rfl
      .rw[za _ _ _ (by simp),yN _ _ _ _ rfl];rfl
     case round =>
      obtain⟨j,hj,rfl,hown,hcs,hx0,hx1,Ml,YB⟩:=hrel;have JY:=yJ Ml;have LN:=yJ hcs;clear Ml hcs;have hlt3:w.heap.size<wr.heap.size:=by omega
      have hc0i:wr.cell? ⟨w.heap.size,0,a7⟩=a8 (a6 nA c.B3.length nc):=(JY.out.cell (by show w.heap.size<_;omega)).trans hc0;by_cases Oz:j<c.B3.length
      .obtain⟨nb,no,rfl,Ms,X0⟩:=(HN.out.gr hB (E6.out.trans JY.out)).at_ Oz;have HS:=yJ (mB k j);have hle:=jV k j;obtain⟨hcj,hfj⟩:=LN.out j Oz;have Vj:Hid ((bits BinOp.and bk ((k:Int) / 2 ^ j) 1==1)=k.testBit j):=yJ (vb ⟨k,by omega⟩ ⟨j,by omega⟩);obtain⟨x,hx⟩:∃x,x=c.B3[j]?.getD 0:=⟨_,rfl⟩;rw[<-hx] at X0;have HX:=yJ hx;clear hx;cases hb:k.testBit j with
       |true =>
        rw[hb] at HS Vj;have ab5:=Vj.out;have HB:=yJ hb;clear hb;have Gb:=hown.lt;go_wp2_with (at_builtin;refine jW rfl _ _ rfl (wq.heap.size+2) _ _ _ rfl ((ownsRow_setCell_below hown (by show wq.heap.size+1<_;omega) _).alloc _) ⟨wr.heap.size,0,a7⟩ 1 (bh bk j) rfl ?c1 rfl ?c2 ?c3 ?_)
        case c2=>omega
        case c3=>(try simp);omega
        intro v' w3 hown' hgrow hd;have hG3:Gr wq w3:=((JY.out.setCell (p:=⟨wq.heap.size+1,j,a7⟩) (by show _<=wq.heap.size+1;omega) _).alloc _).grown hgrow hd λq hq=>by have:=(Gb q hq).1;omega
        have IZ:∀b o,b<wq.heap.size+2->w3.cell? ⟨b,o,a7⟩=(wr.setCell ⟨wq.heap.size+1,j,a7⟩ (bh bk x)).cell? ⟨b,o,a7⟩/\w3.frozen? ⟨b,o,a7⟩=(wr.setCell ⟨wq.heap.size+1,j,a7⟩ (bh bk x)).frozen? ⟨b,o,a7⟩:=λb o hb=>by
         have hne:a8 b≠_:=ef hown (show b<wq.heap.size+2 from hb);have Iz:=hgrow.block b (by simp[bo];omega) hne;have ab6:=Iz.trans (heap_alloc_old _ _ (by simp[bo];omega));exact⟨zd ab6,An ab6⟩
        have YC:Hid (∀m,m<c.B3.length->w3.cell? ⟨wq.heap.size+1,m,a7⟩=a8 (bh bk ((Jt c.B3 k (j+1))[m]?.getD 0))/\w3.frozen? ⟨wq.heap.size+1,m,a7⟩=bw):=yJ λm hm=>by
         obtain⟨e1,e2⟩:=IZ (wq.heap.size+1) m (by omega);refine⟨e1.trans ?_,e2.trans ((zQ _ _ _ _).trans (LN.out m hm).2)⟩;by_cases hmj:m=j
         .subst hmj;rw[yW _ _ _ hcj,mD hm,if_pos HB.out,HX.out]
         .rw[yP _ _ _ _ (by simp[hmj]),(LN.out m hm).1,mC hm hmj]
        have H0:Hid (w3.cell? ⟨wq.heap.size,0,a7⟩=a8 (.slice (a8 ⟨wq.heap.size+1,0,a7⟩) c.B3.length c.B3.length)/\w3.cell? ⟨wq.heap.size,1,a7⟩=a8 (a6 hA c.B2.length hc)):=yJ
         ⟨(IZ _ _ (by omega)).1.trans ((yP _ _ _ _ (by simp)).trans hx0),(IZ _ _ (by omega)).1.trans ((yP _ _ _ _ (by simp)).trans hx1)⟩
        have Qe:Hid (w3.ownsRow (wq.heap.size+2) 3 1 v' (aZ k (j+1)).length ((aZ k (j+1)).map (bh bk))):=yJ (by rw[HS.out];simpa using hown');have Gu:=yJ hG3;have hz3:wq.heap.size+2<=w3.heap.size:=by have:=hgrow.size;simp[bo] at this;omega
        clear hown' hgrow hd hG3 IZ hcj hfj hown hx0 hx1 ab5;go_wp2;go_roundw
        case rel=>exact⟨j+1,by omega,by go_num,Qe.out,YC.out,H0.out.1,H0.out.2,Gu.out,hz3⟩
        case measure=>simp[Proofs.intOf];omega
       |false =>
        rw[hb] at HS Vj;have ab5:=Vj.out;have HB:=yJ hb;clear hb;have YC:Hid (∀m,m<c.B3.length->wr.cell? ⟨wq.heap.size+1,m,a7⟩=a8 (bh bk ((Jt c.B3 k (j+1))[m]?.getD 0))/\wr.frozen? ⟨wq.heap.size+1,m,a7⟩=bw):=yJ λm hm=>by
         refine⟨?_,(LN.out m hm).2⟩;by_cases hmj:m=j
         .subst hmj;rw[hcj,mD hm,tv hm,if_neg (by rw[HB.out];simp)]
         .rw[(LN.out m hm).1,mC hm hmj]
        have Qe:Hid (wr.ownsRow (wq.heap.size+2) 3 1 _ (aZ k (j+1)).length ((aZ k (j+1)).map (bh bk))):=yJ (by rw[HS.out];simpa using hown);have HH0:=yJ hx0;have WT:=yJ hx1;clear hown hcj hfj hx0 hx1;go_wp2;go_roundw
        case rel=>exact⟨j+1,by omega,by go_num,Qe.out,YC.out,HH0.out,WT.out,JY.out,YB⟩
        case measure=>simp[Proofs.intOf];omega
      .have ab7:j=c.B3.length:=by omega
       clear Oz hj;have hlen:(KB c k).B3.length=c.B3.length:=jq _ _ _
       have Em:RI wr wr.heap.size (a8 ⟨wq.heap.size+1,0,a7⟩) (KB c k).B3:=λ_=>⟨_,0,rfl,by omega,λm y hm=>by
        have hml:m<c.B3.length:=by rw[<-hlen];exact(ze.1 hm).1
        rw[yZ,(LN.out m hml).1,ab7];have:(KB c k).B3=Jt c.B3 k c.B3.length:=rfl
        rw[<-this,hm];rfl⟩
       have HST : Hid (cE B1 61 #[.agg #[.slice (a8 ⟨wq.heap.size + 1, 0, a7⟩) c.B3.length c.B3.length, a6 hA c.B2.length hc]] wr fun e w' => e = .returned (.pointer (a8 ⟨wr.heap.size + 1, 0, a7⟩)) ∧ Gr wr w' ∧ ∃ g cap, wr.heap.size + 2 <= g ∧
         Eo w' (R4 wr.heap.size (wr.heap.size+1) g) (wr.heap.size+1) (KB c k) (Cy c.B2.length) (a8 ⟨wq.heap.size+1,0,a7⟩) hA c.B3.length hc g cap):=yJ (by
        have:=jU (a8 ⟨wq.heap.size+1,0,a7⟩) hA c.B3.length hc (KB c k) wr wr.heap.size (yL _) Em (((HH.out.keep λb o hb=>(E6.out.trans JY.out).cell (yO hb hB))).more (by have:=(E6.out.trans JY.out).size;omega)) FQ.out.h4;unfold Cj at this;rw[hlen] at this
        exact this.mono λe w' ⟨h1,h2,g,cap,h3,h4,_⟩=>⟨h1,h2,g,cap,h3,h4⟩)
       have hown2:=hown;rw[ab7] at hown2;have hrow:∃A c',u9=a6 A (aZ k c.B3.length).length c'/\Hb wr (λb=>b≠w2.heap.size/\b<wr.heap.size) A (aZ k c.B3.length):=by
        obtain⟨A,c',e,h⟩:=Bp hown2;refine⟨A,c',e,λhne=>?_⟩;obtain⟨b,o,e2,hb,hc2⟩:=h hne;refine⟨b,o,e2,⟨?_,hb⟩,hc2⟩;have:=(hown2.lt b (by rw[e,e2];rfl)).1;omega
       obtain⟨A,c',rfl,ab8⟩:=hrow;have ahh:=yJ ab8;clear Em hown2 hown ab8;go_wp2_with fail;refine HST.out.mono ?_;rintro e w3 ⟨rfl,hg3,g3,cap3,hg3l,hK3⟩;have Gu:=yJ hg3;have Wk:=yJ (ru (c:=KB c k) w3 (va FQ.out k) hK3);clear hg3 hK3 HST;obtain⟨v,hv⟩:∃v,v=isSome (KB c k):=⟨_,rfl⟩;rw[<-hv] at Wk;have HV:=yJ hv;clear hv;cases v with
       |true =>
        go_wp2_with fail;refine Wk.out.mono ?_;rintro e w4 ⟨rfl,hg4⟩;have Lj:=yJ (JY.out.trans (Gu.out.trans hg4))
        have XP:Hid (I9 w4 w2.heap.size (Ee c (k+1))):=yJ (by
         have:Ee c (k+1)=Ee c k:=by show(if _ then _ else _)=_;rw[if_pos HV.out.symm]
         rw[this];exact WW.out.gr Lj.out)
        clear hg4;go_wp2;go_roundw
        case rel=>exact⟨k+1,by omega,by go_num,XP.out,E6.out.trans Lj.out,(Lj.out.cell Ib).trans hc0,(Lj.out.cell Ib).trans hc1,by have:=Lj.out.size;omega⟩
        case measure=>simp[Proofs.intOf];omega
       |false =>
        go_wp2_with fail;refine Wk.out.mono ?_;rintro e w4 ⟨rfl,hg4⟩;have Lj:=yJ (JY.out.trans (Gu.out.trans hg4));have YD:=Gu.out.trans hg4
        have Vm:=yJ (uZ w2.heap.size A c' (aZ k c.B3.length) (Ee c k) w4 (WW.out.gr Lj.out) (λhne=>by
         obtain⟨b,o,e2,hb,hc2⟩:=ahh.out hne
         exact⟨b,o,e2,⟨hb.1,yO hb.2 YD.size⟩,λi y hy=>(YD.cell (p:=⟨b,o+i,a7⟩) hb.2).trans (hc2 i y hy)⟩) (by have:=jV k c.B3.length;omega))
        clear hg4 YD;go_wp2_with fail;refine Vm.out.mono ?_;rintro e w5 ⟨rfl,XT,ab9⟩
        have HK5:Hid (I9 w5 w2.heap.size (Ee c (k+1))):=yJ (by
         have:Ee c (k+1)=a8 (KA (Ee c k) (aZ k c.B3.length)):=by show(if _ then _ else _)=_;rw[if_neg (by rw[<-HV.out];simp)]
         rw[this];exact ab9)
        have Hk:=yJ (KT.gr (E6.out.trans Lj.out) XT (by rintro b rfl;omega));have hz4:=Lj.out.size;have P3:w5.cell? ⟨w.heap.size,0,a7⟩=a8 (a6 nA c.B3.length nc):=(XT.cell (p:=⟨w.heap.size,0,a7⟩) (by show w.heap.size<_;omega) (by show w.heap.size≠_;omega)).trans ((Lj.out.cell Ib).trans hc0);have O3:w5.cell? ⟨w.heap.size,1,a7⟩=a8 (a6 hA c.B2.length hc):=(XT.cell (p:=⟨w.heap.size,1,a7⟩) (by show w.heap.size<_;omega) (by show w.heap.size≠_;omega)).trans ((Lj.out.cell Ib).trans hc1)
        have NN:=XT.size;clear XT ab9 Vm;go_wp2;go_roundw
        case rel=>exact⟨k+1,by omega,by go_num,HK5.out,Hk.out,P3,O3,by omega⟩
        case measure=>simp[Proofs.intOf];omega
    .have IE:k=N:=by omega
     subst IE;have HEQ:Hid (Ee c (2 ^ c.B3.length)=Ee c k):=yJ (by rw[<-HNN.out]);obtain⟨o,ho⟩:∃o,o=Ee c k:=⟨_,rfl⟩;rw[<-ho] at WW HEQ;clear ho hlt;cases o with
     |none =>
      obtain⟨d0,d1,d2,d3,df,dl⟩:=ER WW.out;go_wp2;go_ret2;refine⟨E6.out,?_⟩;rw[if_neg (by simp[HE.out]),if_neg (by rw[<-HV.out];simp),HEQ.out];exact⟨a7,0,rfl,.nil⟩
     |some b =>
      obtain⟨bA,bc,hkb,hbl,Mk⟩:=WW.out;obtain⟨d0,d1,d2,d3,df,dl⟩:=ER hkb;have HRK:=yJ Mk;clear hkb Mk;go_wp2;go_ret2;refine⟨E6.out,?_⟩;rw[if_neg (by simp[HE.out]),if_neg (by rw[<-HV.out];simp),HEQ.out];exact⟨bA,bc,rfl,Hb.ri HRK.out λb hb=>hb.2⟩
 .rw[if_neg hE] at J5;subst J5;have HE:=yJ hE;obtain⟨k,hk⟩:∃k,k=Cn c:=⟨_,rfl⟩;rw[<-hk] at hE ⊢;have HK:=yJ hk;clear hk hg1 L4;go_wp2;go_ret2;refine⟨Du.out.trans DO.out,?_⟩;rw[if_pos HE.out];show Ending.returned (.tuple #[.slice a7 0 0,bh bk k])=_;rw[HK.out]
def Cg (c:Cc)(ls:List (List Int)):Int :=
 if Cn c≠0 then Cn c else if CM ls.length c.B3.length c.B3.length≠0 then CM ls.length c.B3.length c.B3.length else bG (ls.map λl=>Dw l c.B2.length)
def B7 (ls:List (List Int)):CR:=λi=>IU (ls[i]?.getD [])
def JG {w:bb}{b:Nat}{r:CR}(h:∀i,i<5->w.cell? ⟨b,i,a7⟩=a8 (.int .u8 (r i))) :
  w.cell? ⟨b,0,a7⟩=a8 (.int .u8 (r 0))/\w.cell? ⟨b,1,a7⟩=a8 (.int .u8 (r 1))/\w.cell? ⟨b,2,a7⟩=a8 (.int .u8 (r 2))/\w.cell? ⟨b,3,a7⟩=a8 (.int .u8 (r 3))/\w.cell? ⟨b,4,a7⟩=a8 (.int .u8 (r 4)) :=
 ⟨h 0 (by omega),h 1 (by omega),h 2 (by omega),h 3 (by omega),h 4 (by omega)⟩
def F3 (w:bb)(b:Nat)(v0 v1 v2 v3 v4:bl):World:=((((w.setCell ⟨b,0,a7⟩ v0).setCell ⟨b,1,a7⟩ v1).setCell ⟨b,2,a7⟩ v2).setCell ⟨b,3,a7⟩ v3).setCell ⟨b,4,a7⟩ v4
def et {w:bb}{b:Nat}{r:CR}(h:∀i,i<5->w.cell? ⟨b,i,a7⟩=a8 (.int .u8 (r i)))(v0 v1 v2 v3 v4:bl) :
  (F3 w b v0 v1 v2 v3 v4).cell? ⟨b,0,a7⟩=a8 v0/\(F3 w b v0 v1 v2 v3 v4).cell? ⟨b,1,a7⟩=a8 v1/\(F3 w b v0 v1 v2 v3 v4).cell? ⟨b,2,a7⟩=a8 v2/\(F3 w b v0 v1 v2 v3 v4).cell? ⟨b,3,a7⟩=a8 v3/\(F3 w b v0 v1 v2 v3 v4).cell? ⟨b,4,a7⟩=a8 v4:=by
 have ne:∀(W:bb) (i j:Nat) (v:bl),i≠j->(W.setCell ⟨b,i,a7⟩ v).cell? ⟨b,j,a7⟩=W.cell? ⟨b,j,a7⟩:=λW i j v hij=>yP _ _ _ _ (by simp[bs hij]);obtain⟨h0,h1,h2,h3,h4⟩:=JG h;unfold F3;refine⟨?_,?_,?_,?_,?_⟩
 .rw[ne _ _ _ _ (by decide),ne _ _ _ _ (by decide),ne _ _ _ _ (by decide),ne _ _ _ _ (by decide)];exact yW _ _ _ h0
 .rw[ne _ _ _ _ (by decide),ne _ _ _ _ (by decide),ne _ _ _ _ (by decide)];exact yW _ _ _ (by rw[ne _ _ _ _ (by decide)];exact h1)
 .rw[ne _ _ _ _ (by decide),ne _ _ _ _ (by decide)];exact yW _ _ _ (by rw[ne _ _ _ _ (by decide),ne _ _ _ _ (by decide)];exact h2)
 .rw[ne _ _ _ _ (by decide)];exact yW _ _ _ (by rw[ne _ _ _ _ (by decide),ne _ _ _ _ (by decide),ne _ _ _ _ (by decide)];exact h3)
 .exact yW _ _ _ (by rw[ne _ _ _ _ (by decide),ne _ _ _ _ (by decide),ne _ _ _ _ (by decide),ne _ _ _ _ (by decide)];exact h4)
def jZ (w:bb)(b:Nat)(v0 v1 v2 v3 v4:bl){k:Nat}(hk:k≠b):(F3 w b v0 v1 v2 v3 v4).heap[k]?=w.heap[k]?:=by
 unfold F3;rw[yU _ _ _ _ (by exact hk),yU _ _ _ _ (by exact hk),yU _ _ _ _ (by exact hk),yU _ _ _ _ (by exact hk),yU _ _ _ _ (by exact hk)]
def fS {w0 w:bb}{b:Nat}(h:Gr w0 w)(hb:w0.heap.size<=b)(v0 v1 v2 v3 v4:bl):Gr w0 (F3 w b v0 v1 v2 v3 v4):=((((h.setCell (p:=⟨b,0,a7⟩) hb v0).setCell (p:=⟨b,1,a7⟩) hb v1).setCell (p:=⟨b,2,a7⟩) hb v2).setCell (p:=⟨b,3,a7⟩) hb v3).setCell (p:=⟨b,4,a7⟩) hb v4
def lj (w:bb)(b:Nat)(v0 v1 v2 v3 v4:bl):(F3 w b v0 v1 v2 v3 v4).heap.size=w.heap.size:=by simp[F3,bo]
def xe (nA hA:Option b8)(nc hc:Nat)(c:Cc)(ls:List (List Int))(B:Nat)(w:bb)(e:Ending)(w':bb):Prop :=
 Gr w w' ∧ if Cg c ls = 0 then ∃ cb g cap, e = .returned (.tuple #[.pointer (a8 ⟨cb, 0, a7⟩), Dr (B7 ls), bh bk 0]) ∧ w.heap.size <= cb ∧ cb < g ∧ Eo w' (R4 B cb g) cb c (Cy c.B2.length) nA hA nc hc g cap
   else ∃(p:bl) (r:CR),e=.returned (.tuple #[p,Dr r,bh bk (Cg c ls)])
structure FW (nA hA:Option b8)(nc hc:Nat)(c:Cc)(K:Nat->Prop)(cb g cap:Nat)(w:bb)(r:CR)(wr:bb):Prop where
 x5:∀i,i<5->wr.cell? ⟨w.heap.size+1,i,a7⟩=a8 (.int .u8 ((λ_=>0:CR) i:Nat))
 f5:∀i,i<5->wr.frozen? ⟨w.heap.size+1,i,a7⟩=bw
 x7:∀i,i<5->wr.cell? ⟨w.heap.size+2,i,a7⟩=a8 (.int .u8 (r i:Nat))
 f7:∀i,i<5->wr.frozen? ⟨w.heap.size+2,i,a7⟩=bw
 c0:wr.cell? ⟨w.heap.size,0,a7⟩=a8 (a6 nA c.B3.length nc)
 c1:wr.cell? ⟨w.heap.size,1,a7⟩=a8 (a6 hA c.B2.length hc)
 K:Eo wr K cb c (Cy c.B2.length) nA hA nc hc g cap
 gr:Gr w wr
def FW.set {nA hA:Option b8}{nc hc:Nat}{c:Cc}{K:Nat->Prop}{cb g cap:Nat}{w wr:bb}{r:CR}(h:FW nA hA nc hc c K cb g cap w r wr)(hK:¬K (w.heap.size+2)){k x:Nat}(hk:k<5) :
  FW nA hA nc hc c K cb g cap w (upd r k x) (wr.setCell ⟨w.heap.size+2,k,a7⟩ (.int .u8 (x:Int))):=by
 have ho:∀b o,b≠w.heap.size+2->(wr.setCell ⟨w.heap.size+2,k,a7⟩ (.int .u8 (x:Int))).cell? ⟨b,o,a7⟩=wr.cell? ⟨b,o,a7⟩:=λb o hb=>yP _ _ _ _ (λe=>hb (congrArg Addr.block e).symm);refine⟨λi hi=>(ho _ _ (by omega)).trans (h.x5 i hi),λi hi=>(zQ _ _ _ _).trans (h.f5 i hi),λi hi=>?_,λi hi=>(zQ _ _ _ _).trans (h.f7 i hi),(ho _ _ (by omega)).trans h.c0,(ho _ _ (by omega)).trans h.c1,h.K.keep (by simp[bo]) λb o hb=>ho b o λe=>hK (e▸hb),h.gr.setCell (by show _<=w.heap.size+2;omega) _⟩
 unfold upd;by_cases e:i=k
 .subst e;rw[if_pos rfl];exact yW _ _ _ (h.x7 i hi)
 .rw[if_neg e];exact(yP _ _ _ _ (by simp[e])).trans (h.x7 i hi)
def FW.fin {nA hA:Option b8}{nc hc:Nat}{c:Cc}{K:Nat->Prop}{cb g cap:Nat}{w wr:bb}{r:CR}(h:FW nA hA nc hc c K cb g cap w r wr)(hK:¬K (w.heap.size+1))(v0 v1 v2 v3 v4:bl) :
  Eo (F3 wr (w.heap.size+1) v0 v1 v2 v3 v4) K cb c (Cy c.B2.length) nA hA nc hc g cap/\Gr w (F3 wr (w.heap.size+1) v0 v1 v2 v3 v4) :=
 ⟨h.K.keep (by rw[lj];exact yL _) λb o hb=>zd (jZ _ _ _ _ _ _ _ λe=>hK (e▸hb)),fS h.gr (by omega) _ _ _ _ _⟩
def _root_.Go.Sq.Eo.drew {w:bb}{K:Nat->Prop}{cb:Nat}{c:Cc}{sets:List Nat}{nA hA:Option b8}{nc hc sb sc:Nat}(h:Eo w K cb c sets nA hA nc hc sb sc):Eo w.drew K cb c sets nA hA nc hc sb sc :=
 h.keep (yL _) λ_ _ _=>rfl
def ET (ls:List (List Int))(k:Nat):CR:=λi=>if i<k then IU (ls[i]?.getD []) else 0
def tx (ls:List (List Int))(k:Nat):upd (ET ls k) k (IU (ls[k]?.getD []))=ET ls (k+1):=by
 funext i;unfold upd ET;by_cases e:i=k
 .subst e;rw[if_pos rfl,if_pos (by omega)]
 .rw[if_neg e];by_cases h:i<k
  .rw[if_pos h,if_pos (by omega)]
  .rw[if_neg h,if_neg (by omega)]
def tA (ls:List (List Int)):ET ls ls.length=B7 ls:=by
 funext i;unfold ET B7;by_cases h:i<ls.length
 .rw[if_pos h]
 .rw[if_neg h,AG (by omega)];rfl
def ff (ls:List (List Int))(n:Int){i:Nat}(hi:i<ls.length):(ls.map λl=>Dw l n)[i]?.getD 0=Dw (ls[i]?.getD []) n:=by simp[hi]
def jr (nA hA gA:Option b8)(nc hc gc:Nat)(c:Cc)(ls:List (List Int))(w:bb)(B:Nat)(hB:B<=w.heap.size)(hn:RI w B nA c.B3)(hh:Db w B hA c.B2)(hg:Da w B gA ls)
  (F4:c.B3.length<=4611686018427387904) (hl2:c.B2.length<=4611686018427387904) (DN:∀h∈c.B2,h.off.length<=4611686018427387904) (IP:ls.length<=4611686018427387904) (hl4:∀x∈ls,x.length<=4611686018427387904) :
  cE B1 34 #[Cj nA hA c nc hc,a6 gA ls.length gc] w (xe nA hA nc hc c ls B w):=by
 have HG:=yJ hg;have HL4:=yJ hl4;unfold Cj;obtain⟨W0,hW0⟩:∃W0:bb,W0=((w.alloc (bD #[a6 nA c.B3.length nc,a6 hA c.B2.length hc] 25)).alloc (bD #[.int .u8 0,.int .u8 0,.int .u8 0,.int .u8 0,.int .u8 0] 76)).alloc (bD #[.int .u8 0,.int .u8 0,.int .u8 0,.int .u8 0,.int .u8 0] 76):=⟨_,rfl⟩;have hg0:Gr w W0:=hW0▸(((Gr.refl w).alloc _).alloc _).alloc _;have hz0:W0.heap.size=w.heap.size+3:=by rw[hW0];simp
 have HW:=yJ hW0;have L4:=yJ (kK nA hA nc hc c W0 B (by omega) (hn.gr hB hg0) (hh.keep λb o hb=>hg0.cell (yO hb hB)) F4 hl2 DN);have Du:=yJ hg0;have hcm:W0.cell? ⟨w.heap.size,0,a7⟩=a8 (a6 nA c.B3.length nc)/\W0.cell? ⟨w.heap.size,1,a7⟩=a8 (a6 hA c.B2.length hc):=by
  rw[hW0];constructor
  all_goals rw[za _ _ _ (by simp;omega),za _ _ _ (by simp),yN _ _ _ _ rfl];rfl
 have M8:=yJ hcm;have NN:∀i,i<5->W0.cell? ⟨w.heap.size+1,i,a7⟩=a8 (.int .u8 ((λ_=>0:CR) i:Nat))/\W0.cell? ⟨w.heap.size+2,i,a7⟩=a8 (.int .u8 ((λ_=>0:CR) i:Nat))/\W0.frozen? ⟨w.heap.size+1,i,a7⟩=bw/\W0.frozen? ⟨w.heap.size+2,i,a7⟩=false:=λi hi=>by
  rw[hW0,za _ _ _ (by simp),Ax _ _ _ (by simp),yN _ _ _ _ (by simp),yN _ _ _ _ (by simp),zD _ _ _ _ (by simp),zD _ _ _ _ (by simp)]
  match i,hi with
  |0,_=>exact⟨rfl,rfl,rfl,rfl⟩
  |1,_=>exact⟨rfl,rfl,rfl,rfl⟩
  |2,_=>exact⟨rfl,rfl,rfl,rfl⟩
  |3,_=>exact⟨rfl,rfl,rfl,rfl⟩
  |4,_=>exact⟨rfl,rfl,rfl,rfl⟩
 have HZ5:=yJ NN;clear hW0 hg0 hn hh hg hl4 DN hcm NN;go_enter Sq.func34,Tryz.ntmps34;unfold Cj at L4;go_wp2_with fail;rw[<-HW.out];refine L4.out.mono ?_;rintro e w1 ⟨hg1,J5⟩;have DO:=yJ hg1;by_cases hE:Cn c=0
 .rw[if_pos hE] at J5;obtain⟨cb,g,cap,rfl,hcb,Yz,hK,_⟩:=J5;have HK:=yJ hK;have HE:=yJ hE;have FQ:=yJ (Cc.Ok.of hE);have acb:¬R4 B cb g (w.heap.size+2)/\¬R4 B cb g (w.heap.size+1):=by unfold R4;omega
  have HNK:=yJ acb;have Mr:=FQ.out.n5;have hh4:=FQ.out.h4;have hfw:FW nA hA nc hc c (R4 B cb g) cb g cap w (ET ls 0) w1:=by
   have h5:∀i,i<5->w1.cell? ⟨w.heap.size+1,i,a7⟩=a8 (.int .u8 ((λ_=>0:CR) i:Nat))/\w1.cell? ⟨w.heap.size+2,i,a7⟩=a8 (.int .u8 ((λ_=>0:CR) i:Nat))/\w1.frozen? ⟨w.heap.size+1,i,a7⟩=bw/\w1.frozen? ⟨w.heap.size+2,i,a7⟩=false:=λi hi=>by
    obtain⟨a,b,c,d⟩:=HZ5.out i hi;exact⟨(DO.out.cell (by show w.heap.size+1<_;omega)).trans a,(DO.out.cell (by show w.heap.size+2<_;omega)).trans b,(DO.out.frozen (by show w.heap.size+1<_;omega)).trans c,(DO.out.frozen (by show w.heap.size+2<_;omega)).trans d⟩
   exact⟨λi hi=>(h5 i hi).1,λi hi=>(h5 i hi).2.2.1,λi hi=>by rw[(h5 i hi).2.1];simp[ET],λi hi=>(h5 i hi).2.2.2,(DO.out.cell (by show w.heap.size<_;omega)).trans M8.out.1,(DO.out.cell (by show w.heap.size<_;omega)).trans M8.out.2,hK,Du.out.trans hg1⟩
  clear hg1 hK L4 hE acb;have Lk:=yJ hfw;have hc0:=hfw.c0;have hc1:=hfw.c1;clear hfw;by_cases hM:CM ls.length c.B3.length c.B3.length=0
  .have hlen:c.B3.length=ls.length:=by have:=dG.1 hM;omega
   have HM:=yJ hM;have HF:=yJ (show Cg c ls=bG (ls.map λl=>Dw l c.B2.length) by unfold Cg;rw[if_neg (by simp[HE.out]),if_neg (by simp[hM])]);have WX:cE B1 38 #[bh bk ls.length,bh bk c.B3.length,bh bk c.B3.length] w1 λe w'=>e=.returned (bh bk 0)/\w1=w':=by rw[<-hM];exact il _ _ _ _
   have Ha:=yJ WX;have HLEN:=yJ hlen;have Qf:ls.length<=5:=by omega
   clear hM WX hlen;go_wp2_with (go_at_call 38;refine Ha.out.mono ?_;rintro e w' ⟨rfl,rfl⟩);go_loopw [38] (λi wr=>∃k:Nat,k<=ls.length/\i=bh bk k/\FW nA hA nc hc c (R4 B cb g) cb g cap w (ET ls k) wr/\∀j,j<k->Dw (ls[j]?.getD []) c.B2.length=0) (λi _=>ls.length-(bW i).toNat)
   case atStart=>exact⟨0,by omega,rfl,Lk.out,λj hj=>absurd hj (by omega)⟩
   case round =>
    obtain⟨k,hk,rfl,hfw,hz⟩:=hrel;have Qg:=yJ hfw;have HZ:=yJ hz;have hc0:=hfw.c0;have hc1:=hfw.c1;obtain⟨a0,a1,a2,a3,a4⟩:=JG hfw.x5;obtain⟨b0,b1,b2,b3,b4⟩:=JG hfw.x7;have c0:=hfw.f5 0 (by omega);have c1:=hfw.f5 1 (by omega);have c2:=hfw.f5 2 (by omega);have c3:=hfw.f5 3 (by omega);have c4:=hfw.f5 4 (by omega);have Vo:=yJ (et hfw.x5);clear hfw hz;by_cases hlt:k<ls.length
    .obtain⟨b,o,A',c',rfl,hb,Jj,Em⟩:=(HG.out.gr hB Qg.out.gr).at_ hlt;have hx:=HL4.out _ (gp ls k hlt);have HA:=yJ (ff ls c.B2.length hlt);have HU:=yJ (tx ls k);generalize ls[k]?.getD []=l at Jj Em hx HA HU;have Vp:=yJ (i3 A' c' l c.B2.length wr B Em hx (by omega) (by omega));have KQ:=yJ Em;clear Em;by_cases hE:Dw l c.B2.length=0
     .rw[hE] at Vp;have Dx:=I6 hE;have HOF:=yJ (ag1 A' c' l wr B KQ.out hx λx hx=>by have:=Dx.1 x hx;omega);have XS:Hid (∀j,j<k+1->Dw (ls[j]?.getD []) c.B2.length=0):=yJ λj hj=>by
       rcases zC j k with h|h
       .exact HZ.out j h
       .have:j=k:=by omega
        subst this;have:=HA.out;rw[hE] at this;rw[<-ff ls _ hlt];exact this
      have HF3:Hid (FW nA hA nc hc c (R4 B cb g) cb g cap w (ET ls (k+1)) (wr.setCell ⟨w.heap.size+2,k,a7⟩ (.int .u8 (IU l:Int)))):=yJ (by rw[<-HU.out];exact Qg.out.set HNK.out.1 (by omega));have hfz:=Qg.out.f7 k (by omega);have M7:=Qg.out.x7 k (by omega);clear Dx hE HU HA KQ HZ;generalize IU l=x at HOF HF3;clear Qg a0 a1 a2 a3 a4 b0 b1 b2 b3 b4 c0 c1 c2 c3 c4 Vo;go_wp2_with (first|(go_at_call 40;refine Vp.out.mono ?_;rintro e w' ⟨rfl,rfl⟩)|(go_at_call 72;refine HOF.out.mono ?_;rintro e w' ⟨rfl,rfl⟩))
      go_roundw
      case rel=>exact⟨k+1,by omega,by go_num,HF3.out,XS.out⟩
      case measure=>simp[Proofs.intOf];omega
     .have Ll := Lib.hid (show Cg c ls = Dw l c.B2.length by
       rw[HF.out,aX (k:=k) (by simpa using hlt) (λi hi=>by rw[ff ls _ (by omega)];exact HZ.out i hi) (by rw[HA.out];exact hE),HA.out])
      have YE:=yJ hE;clear hE HU HA KQ HZ;generalize Dw l c.B2.length=q at Vp Ll YE;have hqe:(q != 0)=true:=by simp[YE.out]
      go_wp2_with (go_at_call 40;refine Vp.out.mono ?_;rintro e w' ⟨rfl,rfl⟩);have WY:=yJ (Qg.out.fin HNK.out.2 (.int .u8 (ET ls k 0:Nat)) (.int .u8 (ET ls k 1:Nat)) (.int .u8 (ET ls k 2:Nat)) (.int .u8 (ET ls k 3:Nat)) (.int .u8 (ET ls k 4:Nat))).2;go_region
      all_goals
       go_wp2;obtain⟨s0,s1,s2,s3,s4⟩:=Vo.out (.int .u8 (ET ls k 0:Nat)) (.int .u8 (ET ls k 1:Nat)) (.int .u8 (ET ls k 2:Nat)) (.int .u8 (ET ls k 3:Nat)) (.int .u8 (ET ls k 4:Nat));unfold F3 at s0 s1 s2 s3 s4;refine b7 (v:=.tuple #[.pointer a7,Dr (ET ls k),bh bk q]) (by simp[results,b5,go_sem,Dr,s0,s1,s2,s3,s4]) rfl ⟨?_,?_⟩
       .first|exact WY.out|exact WY.out.drew
       .rw[if_neg (Ll.out▸YE.out),Ll.out];exact⟨_,_,rfl⟩
    .have IE:k=ls.length:=by omega
     subst IE;clear hlt;rw[tA] at Qg b0 b1 b2 b3 b4;obtain⟨HFK,WY⟩:Hid (Eo (F3 wr (w.heap.size+1) (.int .u8 (B7 ls 0:Nat)) (.int .u8 (B7 ls 1:Nat)) (.int .u8 (B7 ls 2:Nat)) (.int .u8 (B7 ls 3:Nat)) (.int .u8 (B7 ls 4:Nat))) (R4 B cb g) cb c (Cy c.B2.length) nA hA nc hc g cap)/\Hid (Gr w (F3 wr (w.heap.size+1) (.int .u8 (B7 ls 0:Nat)) (.int .u8 (B7 ls 1:Nat)) (.int .u8 (B7 ls 2:Nat)) (.int .u8 (B7 ls 3:Nat)) (.int .u8 (B7 ls 4:Nat)))):=⟨yJ (Qg.out.fin HNK.out.2 _ _ _ _ _).1,yJ (Qg.out.fin HNK.out.2 _ _ _ _ _).2⟩
     have HZZ:=yJ (show Cg c ls=0 by
      rw[HF.out];exact cX λi hi=>by
       have hi':i<ls.length:=by simpa using hi
       rw[ff ls _ hi'];exact HZ.out i hi')
     go_wp2;go_region
     all_goals
      go_wp2;obtain⟨s0,s1,s2,s3,s4⟩:=Vo.out (.int .u8 (B7 ls 0:Nat)) (.int .u8 (B7 ls 1:Nat)) (.int .u8 (B7 ls 2:Nat)) (.int .u8 (B7 ls 3:Nat)) (.int .u8 (B7 ls 4:Nat));unfold F3 at s0 s1 s2 s3 s4;refine b7 (v:=.tuple #[.pointer (a8 ⟨cb,0,a7⟩),Dr (B7 ls),bh bk 0]) (by simp[results,b5,go_sem,Dr,s0,s1,s2,s3,s4]) rfl ⟨?_,?_⟩
      .first|exact WY.out|exact WY.out.drew
      .rw[if_pos HZZ.out];exact⟨cb,g,cap,rfl,by omega,Yz,by first|exact HFK.out|exact HFK.out.drew⟩
  .have Ll:=yJ (show Cg c ls=CM ls.length c.B3.length c.B3.length by unfold Cg;rw[if_neg (by simp[HE.out]),if_pos hM]);have YE:=yJ hM;have Ha:=yJ (il ls.length c.B3.length c.B3.length w1);clear hM;generalize CM ls.length c.B3.length c.B3.length=q at Ll YE Ha;have hqe:(q != 0)=true:=by simp[YE.out]
   obtain⟨a0,a1,a2,a3,a4⟩:=JG Lk.out.x5;obtain⟨b0,b1,b2,b3,b4⟩:=JG Lk.out.x7;have c0:=Lk.out.f5 0 (by omega);have c1:=Lk.out.f5 1 (by omega);have c2:=Lk.out.f5 2 (by omega);have c3:=Lk.out.f5 3 (by omega);have c4:=Lk.out.f5 4 (by omega);have IG:=Lk.out.c0;have Wo:=Lk.out.c1;have Vo:=yJ (et Lk.out.x5);have WY:=yJ (Lk.out.fin HNK.out.2 (.int .u8 (ET ls 0 0:Nat)) (.int .u8 (ET ls 0 1:Nat)) (.int .u8 (ET ls 0 2:Nat)) (.int .u8 (ET ls 0 3:Nat)) (.int .u8 (ET ls 0 4:Nat))).2
   go_wp2_with (go_at_call 38;refine Ha.out.mono ?_;rintro e w' ⟨rfl,rfl⟩);go_region
   all_goals
    go_wp2;obtain⟨s0,s1,s2,s3,s4⟩:=Vo.out (.int .u8 (ET ls 0 0:Nat)) (.int .u8 (ET ls 0 1:Nat)) (.int .u8 (ET ls 0 2:Nat)) (.int .u8 (ET ls 0 3:Nat)) (.int .u8 (ET ls 0 4:Nat));unfold F3 at s0 s1 s2 s3 s4;refine b7 (v:=.tuple #[.pointer a7,Dr (ET ls 0),bh bk q]) (by simp[results,b5,go_sem,Dr,s0,s1,s2,s3,s4]) rfl ⟨?_,?_⟩
    .first|exact WY.out|exact WY.out.drew
    .rw[if_neg (Ll.out▸YE.out),Ll.out];exact⟨_,_,rfl⟩
 .rw[if_neg hE] at J5;subst J5;have HF:=yJ (show Cg c ls=Cn c by unfold Cg;rw[if_pos hE]);have h5:∀i,i<5->w1.cell? ⟨w.heap.size+1,i,a7⟩=a8 (.int .u8 ((λ_=>0:CR) i:Nat))/\w1.cell? ⟨w.heap.size+2,i,a7⟩=a8 (.int .u8 ((λ_=>0:CR) i:Nat))/\w1.frozen? ⟨w.heap.size+1,i,a7⟩=bw/\w1.frozen? ⟨w.heap.size+2,i,a7⟩=false:=λi hi=>by
   obtain⟨a,b,c,d⟩:=HZ5.out i hi;exact⟨(DO.out.cell (by show w.heap.size+1<_;omega)).trans a,(DO.out.cell (by show w.heap.size+2<_;omega)).trans b,(DO.out.frozen (by show w.heap.size+1<_;omega)).trans c,(DO.out.frozen (by show w.heap.size+2<_;omega)).trans d⟩
  obtain⟨a0,b0,c0,d0⟩:=h5 0 (by omega);obtain⟨a1,b1,c1,d1⟩:=h5 1 (by omega);obtain⟨a2,b2,c2,d2⟩:=h5 2 (by omega);obtain⟨a3,b3,c3,d3⟩:=h5 3 (by omega);obtain⟨a4,b4,c4,d4⟩:=h5 4 (by omega);have Vo:=yJ (et (w:=w1) (b:=w.heap.size+1) (r:=λ_=>0) (λi hi=>(h5 i hi).1) (.int .u8 0) (.int .u8 0) (.int .u8 0) (.int .u8 0) (.int .u8 0));have HE:=yJ hE;clear h5 L4 hg1;obtain⟨k,hk⟩:∃k,k=Cn c:=⟨_,rfl⟩;rw[<-hk] at hE ⊢
  have HK:=yJ hk;clear hk;go_wp2;go_region
  all_goals
   go_wp2;obtain⟨s0,s1,s2,s3,s4⟩:=Vo.out;unfold F3 at s0 s1 s2 s3 s4;refine b7 (v:=.tuple #[.pointer a7,.agg #[.int .u8 0,.int .u8 0,.int .u8 0,.int .u8 0,.int .u8 0],bh bk k]) (by simp[results,b5,go_sem,s0,s1,s2,s3,s4]) rfl ⟨?_,?_⟩
   .first|exact(fS (Du.out.trans DO.out) (by omega) _ _ _ _ _)|exact(fS (Du.out.trans DO.out) (by omega) _ _ _ _ _).drew|exact(fS (Du.out.trans DO.out).drew (by omega) _ _ _ _ _)
   .rw[HF.out,HK.out,if_neg HE.out];exact⟨_,λ_=>0,rfl⟩
def iL:Cn (CY [3,2,4])=0:=by decide +kernel
def tB:(Fq (B7 [[0,1],[1],[]]) (Cv (Js (CY [3,2,4]) 2 0) (Cy 3) 3 EB 0)).map (λp=>((cr 3).map λi=>wl (p.1 i),p.2))=a8 (De,3):=by decide +kernel
def lM:Cn (CY [3,2,5])=0:=by decide +kernel
def j4:isSome (CY [3,2,5])=false:=by decide +kernel
def pM:Ee (CY [3,2,5]) 8=a8 [1,2]:=by decide +kernel
abbrev Cl:Cc:=CY [3,2,4]
def EH (i:Nat):Nat:=(Cy 3)[i]?.getD 0
def DV (x:Nat):CR:=λj=>if j=0 then x else 0
def R7 (i:Nat):Int:=(Ci Cl (DV (EH i)) 0).1
def GX:∀i,i<8->(R7 i=0↔i=1\/i=4):=by decide +kernel
def pN:Cv Cl (Cy 3) 2 (DV (EH 4)) 1=[]:=by
 have:(Cv Cl (Cy 3) 2 (DV (EH 4)) 1).length=0:=by decide +kernel
 exact zj this
def pO:(Cv Cl (Cy 3) 2 (DV (EH 1)) 1).length=1:=by decide +kernel
def js:∀x∈Cy 3,Cl.has x:=λx hx=>mw 3 (by decide) x hx
def gt (i:Nat)(hi:i<8):∀j,Cl.has (DV (EH i) j):=by
 intro j;unfold DV;split
 .refine js _ ?_;have:∀i,i<8->EH i∈Cy 3:=by decide
  exact this i hi
 .show 0<2 ^ 3;decide
def Su (w:bb)(B:Nat)(A:Option b8)(l:List Int):Prop :=
 l≠[]->∃b o,A=a8 ⟨b,o,a7⟩/\b<B/\∀(i:Nat) (x:Int),l[i]?=a8 x->w.cell? ⟨b,o+i*5+4,a7⟩=a8 (bh bk x)/\∃(n0 n1 n2:Int) (A:Option b8) (m c:Nat),
  w.cell? ⟨b,o+i*5,a7⟩=a8 (bh bk n0)/\w.cell? ⟨b,o+i*5+1,a7⟩=a8 (bh bk n1)/\w.cell? ⟨b,o+i*5+2,a7⟩=a8 (bh bk n2)/\w.cell? ⟨b,o+i*5+3,a7⟩=a8 (a6 A m c)
def Su.gr {w w':bb}{B:Nat}{A:Option b8}{l:List Int}(h:Su w B A l)(hB:B<=w.heap.size)(hg:Gr w w'):Su w' B A l:=λhn=>by
 obtain⟨b,o,e,hb,hc⟩:=h hn;refine⟨b,o,e,hb,λi x hx=>?_⟩;have k:∀o,w'.cell? ⟨b,o,a7⟩=w.cell? ⟨b,o,a7⟩:=λo=>hg.cell (p:=⟨b,o,a7⟩) (yO hb hB);obtain⟨h1,n0,n1,n2,A,m,c,h2,h3,h4,h5⟩:=hc i x hx;exact⟨(k _).trans h1,n0,n1,n2,A,m,c,(k _).trans h2,(k _).trans h3,(k _).trans h4,(k _).trans h5⟩
def C2 (l:List Int):Nat->Int
 |0=>-1
 |k+1=>if 0<l[k]?.getD 0/\(C2 l k<0\/l[(C2 l k).toNat]?.getD 0<l[k]?.getD 0) then k else C2 l k
def jt (l:List Int)(k:Nat):-1<=C2 l k/\C2 l k<k:=by
 induction k with
 |zero=>simp[C2]
 |succ k ih =>
  unfold C2;split
  .omega
  .omega
def xj (A:Option b8)(c:Nat)(l:List Int)(w:bb)(B:Nat)(hB:B<=w.heap.size)(h:Su w B A l)(hl:l.length<=4611686018427387904) :
  cE B1 137 #[a6 A l.length c] w λe w'=>e=.returned (bh bk (C2 l l.length))/\Gr w w':=by
 have HR:=yJ h;go_enter Sq.func137,Tryz.ntmps137;go_wp2;go_loopw [3,8] (λs i wr=>∃k:Nat,k<=l.length/\i=bh bk k/\s=bh bk (C2 l k)/\Gr w wr) (λ_ i _=>l.length-(bW i).toNat)
 case atStart=>exact⟨0,by omega,rfl,rfl,.refl _⟩
 case round =>
  obtain⟨k,hk,rfl,rfl,hg⟩:=hrel;have HG:=yJ hg;by_cases hlt:k<l.length
  .obtain⟨b,o,e,hb,hc⟩:=HR.out.gr hB HG.out (λe=>by rw[e] at hlt;simp at hlt);subst e;obtain⟨c4,n0,n1,n2,A',m,c',c0,c1,c2,c3⟩:=hc k _ (yM hlt)
   have HM:=yJ (show C2 l (k+1)=if 0<l[k]/\(C2 l k<0\/l[(C2 l k).toNat]?.getD 0<l[k]) then(k:Int) else C2 l k by
    show(if _ then _ else _)=_
    rw[yM hlt];rfl)
   have HML:=jt l k;have PD:=yJ hc;clear hc;have hz:=HG.out.size;generalize l[k]=x at c4 HM;by_cases hx:0<x
   .by_cases hm:C2 l k<0
    .have Sw:=yJ (show C2 l (k+1)=k by rw[HM.out,if_pos ⟨hx,.inl hm⟩]);clear HM HML;generalize C2 l k=q at hm Sw;have O3:b6 (x > 0)=true:=by simp;omega
     have Mp:b6 (q<0)=true:=by simp;omega
     go_wp2;go_region;go_wp2;go_roundw
     case rel=>exact⟨k+1,by omega,by go_num,congrArg (Value.int .i64) Sw.out.symm,(HG.out.alloc _).drew⟩
     case measure=>simp[Proofs.intOf];omega
    .obtain⟨j,hj⟩:∃j:Nat,C2 l k=j:=⟨(C2 l k).toNat,by omega⟩;rw[hj] at HM hm HML ⊢;have hjk:j<k:=by omega
     obtain⟨y4,_⟩:=PD.out j _ (yM (show j<l.length by omega));have HY:=yJ (show l[(j:Int).toNat]?.getD 0=l[j] by rw[AM,yM (by omega)];rfl);generalize l[j]=y at y4 HY;have Xj:j<l.length:=by omega
     have HJ:=yJ hj;clear hj hm HML;have O3:b6 (x > 0)=true:=by simp;omega
     have NZ:b6 ((j:Int)<0)=false:=by simp
     have hbl:b<wr.heap.size:=by omega
     by_cases KR:y<x
     .have Sw:=yJ (show C2 l (k+1)=k by rw[HM.out,if_pos ⟨hx,.inr (by rw[HY.out];exact KR)⟩]);have Mp:b6 (x > y)=true:=by simp;omega
      clear HM HY;go_wp2;go_quiet (fail);go_wp2;go_roundw
      case rel=>exact⟨k+1,by omega,by go_num,congrArg (Value.int .i64) Sw.out.symm,(HG.out.alloc _).drewN _⟩
      case measure=>simp[Proofs.intOf];omega
     .have Sw:=yJ (show C2 l (k+1)=j by rw[HM.out,if_neg (by rw[HY.out];omega)]);have Mp:b6 (x > y)=false:=by simp;omega
      clear HM HY;go_wp2;go_quiet (fail);go_wp2;go_roundw
      case rel=>exact⟨k+1,by omega,by go_num,congrArg (Value.int .i64) Sw.out.symm,(HG.out.alloc _).drewN _⟩
      case measure=>simp[Proofs.intOf];omega
   .have Sw:=yJ (show C2 l (k+1)=C2 l k by rw[HM.out,if_neg (by omega)]);have O3:b6 (x > 0)=false:=by simp;omega
    clear HM HML;generalize hq:C2 l k=q at Sw;clear hq;go_wp2;go_region;go_wp2;go_roundw
    case rel=>exact⟨k+1,by omega,by go_num,congrArg (Value.int .i64) Sw.out.symm,(HG.out.alloc _).drew⟩
    case measure=>simp[Proofs.intOf];omega
  .have FA:k=l.length:=by omega
   subst FA;go_wp2;go_ret;exact⟨rfl,HG.out⟩
end Go.Sq
