/- Parts of the proof. -/
import Derived.Test.YtoeoefobdjociaaGreatP27
import Derived.Deep.Matrix
set_option linter.all false
set_option maxHeartbeats 3200000
set_option maxRecDepth 1000000
open Go.Proofs.Tryz renaming prog->Y,underlying3->bq,underlying22->dn,underlying25->dr,ntmps3->fc,func6->fu,func3->fx
open Go.Value renaming slice->J,int->O,pointer->bs,okWide->er
open Option renaming some->I,none->bb
open Bool renaming true->F,false->ck
open Go.IntKind renaming i64->R
open Go.Conc renaming G->z,Good->cr,crowd->ed
open Array renaming replicate->u
open Go renaming World->ak,Value->bc,Goroutine->bl,Frame->cu,MemPlace->df,TypeId->ea,Addr->eb,results_tmp->ek,FuncId->eo,Item->fq,DataW->fA,Oper->fW
open Go.Frame renaming enter->bk
open Go.DataW renaming trod->br,trod_int->cw
open Go.CallKind renaming normal->bw
open Go.Obj renaming cells->cf
namespace Go.Sq
open Go.Proofs
open Go.RowKit Go.Eu Go.Co Go.Conc Go.ConcN
def LW:∃a6:EH,Eh Ei (En 3) 2 (FA (Ga 1)) 1=[a6]:=by
 have:=qe
 match h:Eh Ei (En 3) 2 (FA (Ga 1)) 1,this with
 |[ρ],_=>exact⟨ρ,rfl⟩
def sd {w:ak}{b:Nat}{l:Array bc}{t:ea}(h:w.heap[b]?=I (.cells l t (0,0)))(hl:0<l.size):¬Eu.Ro w b:=by
 rintro⟨c,t',f,h1,h2⟩;rw[h] at h1;cases h1;have:=h2 0 hl;omega
section
variable {gs:Array bl} {W:ak} {sl:Option (Nat×Nat)} {t:Trace} {q:Nat->Nat} {zO:Nat->Prop} {Kp:H6} {x:Lone} {A:bl} {cs:List cu}
def Nw (hb:IZ Y zO gs W t q)(ht:Tw PP Ku Ib F 0 zO Kp x A W)(h0:gs[0]?=I A)(hq:LV cs x.g x.w)(zW:cs≠[])(hH:∀b,x.H b=ck)(aB:gs.size+8<=2147483647) :
  ∃N m' t',runNT Y N (ed gs W sl) t=(.next m',t')/\∃gs' W' sl' q' A' a6 g2 w2,m'=ed gs' W' sl'/\gs'[0]?=I A'/\gs'.size<=gs.size+8/\IZ Y a6 gs' W' t' q' /\
   Tw PP Ku Ib F 0 a6 Kp ⟨g2,w2,x.H,x.β,x.T⟩ A' W'/\EO Y Ib (Ou cs) 0 g2 w2/\w2.heap.size=x.w.heap.size/\(W'.os=W.os/\W'.output=W.output)/\W.heap.size<=W'.heap.size/\∀B,a6 B->zO B\/W.heap.size<=B:=by
 obtain⟨bn,bo,bh,cb,sb,cap,nb,cur,ty,T,U,hC,hn,a7,hT,h6,hU,aC,hg⟩:=hq;obtain⟨aD,a8⟩:=LW;obtain⟨cE,aF,aA⟩:=Oq;obtain⟨p1,p2⟩:=KN ht hg;obtain⟨Vn,vn⟩:=p2 (.pointer (I ⟨nb,0,bb⟩)) (by simp);obtain⟨N,m',t',zA,gs',W',sl',q',A',a6,e1,e2,e3,e4,e5,e6,e7⟩:=KL (sl:=sl) (M4 (Nv hC hn a7) a8 (Oj nb aD)) Pu aF aA Pv rfl rfl rfl rfl M5 LQ LR hb ht h0 hg ⟨rfl,rfl,_,_,_,_,rfl⟩ hH
  (λb hb=>by
   obtain hb|hb:=hb
   .exact li ht hH hC p1 b (by simpa [Nu] using hb)
   .have e:b=nb:=by simpa using hb
    rw[e];exact Ij vn) (λb B h aG k=>by
   have e:b=nb:=by simpa using aG
   subst e;obtain h|h:=ht.FI b B h k
   .rw[hH] at h;cases h
   .exact sd hn (by decide) h) aB
 refine⟨N,m',t',zA,gs',W',sl',q',A',a6,_,_,e1,e2,e3,e4,e5,?_,bQ _ _ _,e6,e7⟩;have zY:nb<x.w.heap.size:=(Az.1 hn).1;refine wL zW (hC.keep λb hb=>?_) (nb:=nb) ?_ hT h6 hU aC
 .rw[bR _ _ _ _ (hC.lt hb)];rw[AD];intro h;have e:b=nb:=by simpa using h
  rw[e,a7] at hb;cases hb
 .rw[bR _ _ _ _ zY,AF (by simp)]
  rfl
def jZ (QT:bl->ak->Prop)(cs:List cu):Prop:=∀(K:Nat->Prop) (A:Option eb) (c B:Nat) (xs:List bc) (w':ak) (U:Array bc) (ρ:EH),Eh Ei (En 3) 2 (FA (Ga 1)) 1=[ρ]->Ec w' B (J A 3 c) (Ew ρ 3) xs ->
 U.size=95->U.getD 1 undef=O R 1->U.getD 2 undef=O R 0->U.getD 3 undef=J A 3 c->U.getD 4 undef=O R 0->(∀v∈U.toList,E7 Ie Dj K v)->(∀b,K b->∃o,w'.heap[b]?=I o/\EW (SP Ie Dj) (CK DU Ie ck) (EK K) o o) ->
 EO Y Ib QT 0 (z ((base 6).at ⟨U,[]⟩ [.code Oo]) cs) w'
def wM:∀ρ∈Eh Ei (En 3) 2 (FA (Ga 1)) 1,∀i,i<5->ρ i<16:=by decide +kernel
def Ov {QT:bl->ak->Prop}(aJ:∀g w W,Et w W->QT g w->QT g W)(aD:jZ QT cs)(hb:IZ Y zO gs W t q)(ht:Tw PP Ku Ib F 0 zO Kp x A W)(h0:gs[0]?=I A)(hq:Ou cs x.g x.w)(zW:cs≠[])(hH:∀b,x.H b=ck)(aK:gs.size+8<=2147483647) :
  ∃N m' t',runNT Y N (ed gs W sl) t=(.next m',t')/\∃gs' W' sl' q' A' a6 g2 w2,m'=ed gs' W' sl'/\gs'[0]?=I A'/\gs'.size<=gs.size+8/\IZ Y a6 gs' W' t' q' /\
   Tw PP Ku Ib F 0 a6 Kp ⟨g2,w2,x.H,x.β,x.T⟩ A' W'/\EO Y Ib QT 0 g2 w2/\w2.heap.size=x.w.heap.size/\(W'.os=W.os/\W'.output=W.output)/\W.heap.size<=W'.heap.size/\∀B,a6 B->zO B\/W.heap.size<=B:=by
 obtain⟨K1,bn,bo,bh,cb,sb,cap,qb,xb,kb,cur,ty,T,U,aL,hC,hk,hX,aC,hT,h4,h7,hU,aM,aN,aO,hg⟩:=hq;obtain⟨a7,aB⟩:=LW;have aP:∀i,i<5->a7 i<16:=wM a7 (by rw[aB];simp);obtain⟨cE,aQ,aG⟩:=Oq;obtain⟨p1,p2⟩:=KN ht hg;obtain⟨Vk,vk⟩:=p2 (.pointer (I ⟨kb,0,bb⟩)) (by simp);obtain⟨Vx,vx⟩:=p2 (.pointer (I ⟨xb,0,bb⟩)) (by simp);have aR:=hX (xb,[.func (.func 57) #[] #[.pointer (I ⟨qb,0,bb⟩)]],116) (by simp[FT])
 have hqo:=hX (qb,[.pointer (I ⟨cb,0,bb⟩)],69) (by simp[FT]);obtain⟨Vf,vf⟩:=Jt ht hH (Ij vx) aR (v:=.func (.func 57) #[] #[.pointer (I ⟨qb,0,bb⟩)]) (by simp);obtain⟨Vq,vq⟩:=M9 (l:=[.pointer (I ⟨qb,0,bb⟩)]) vf (v:=.pointer (I ⟨qb,0,bb⟩)) (by simp);have aF:zB (EF bn bo bh cb sb cap cur ty) kb=ck/\zB (FT xb qb cb) kb=false:=by
  rw[bj,Cy] at aC;exact aC
 obtain⟨N,m',t',zA,gs',W',sl',q',A',a6,e1,e2,e3,e4,e5,e6,e7⟩:=KL (sl:=sl) (M4 (Om (ρ:=a7) hC hk hX aC) aB (O9 kb xb qb cb a7)) Pu aQ aG Pv rfl rfl rfl rfl M5 LQ LR hb ht h0 hg ⟨rfl,rfl,_,_,_,_,rfl⟩ hH
  (λb hb=>by
   obtain hb|hb:=hb
   .have hb':zB (EF bn bo bh cb sb cap cur ty++FT xb qb cb) b=true:=hb;rw[bj,Bm] at hb';obtain hb'|hb':=hb'
    .exact li ht hH hC p1 b hb'
    .have : b = xb ∨ b = qb := by
      obtain⟨p,hp,rfl⟩:=Hw hb';simp only[FT,AJ,AG,or_false] at hp;rcases hp with rfl|rfl<;>simp
     obtain rfl|rfl:=this
     .exact Ij vx
     .exact Ij vq
   .have e:b=kb:=by simpa using hb
    rw[e];exact Ij vk) (λb B h aS k=>by
   have e:b=kb:=by simpa using aS
   subst e;obtain h|h:=ht.FI b B h k
   .rw[hH] at h;cases h
   .exact sd hk (by decide) h) aK
 refine⟨N,m',t',zA,gs',W',sl',q',A',a6,_,_,e1,e2,e3,e4,e5,?_,bQ _ _ _,e6,e7⟩;have zY:kb<x.w.heap.size:=(Az.1 hk).1;obtain⟨w1,aA⟩:∃w1,w1=Hh (KE kb) (oF (decide (8<=1)) (λ_=>GA ck λ_=>0) λ_=>GA F a7) x.w:=⟨_,rfl⟩;have hkb:w1.heap[kb]?=I (GA F a7):=by
  rw[aA,bR _ _ _ _ zY,AF (by simp)]
  rfl
 have zU:∀b,b≠kb->b<x.w.heap.size->w1.heap[b]?=x.w.heap[b]?:=λb hb hl=>by
  rw[aA,bR _ _ _ _ hl,AD (by simpa using hb)]
 have hC1:F2 w1 bn bo bh cb sb cap cur ty:=hC.keep λb hb=>zU b (λe=>by rw[e,aF.1] at hb;cases hb) (hC.lt hb);have aT:w1.heap[qb]?=I (cf #[.pointer (I ⟨cb,0,bb⟩)] 69 (0,0)):=by
  refine(zU qb (λe=>?_) (Az.1 hqo).1).trans hqo;have:=aF.2;rw[<-e] at this;simp[zB,FT] at this
 show EO Y Ib QT 0 _ (Hh (KE kb) (oF (decide (8<=1)) (λ_=>GA ck λ_=>0) λ_=>GA F a7) x.w);rw[<-aA];refine wI (by decide) (by decide) fZ aJ zW aP hC1 hkb aT hT h4 h7 hU aM aN aO λA c xs w2 K' U2 ho hz hold aH u0 u1 u2 u3 u4 aI=>?_;refine aD _ A c _ xs w2 U2 a7 aB ho u0 u1 u2 u3 u4 aI λb a8=>?_;obtain(a8|a8)|a8:=a8
 .obtain⟨l,t2,r1,r2⟩:=aL b a8;have hl:=(Az.1 r1).1;by_cases e:b=kb
  .subst e;exact⟨_,(hold _ (by rw[aA,bQ];exact hl)).trans hkb,kM (Ol _ _)⟩
  .exact⟨_,(hold _ (by rw[aA,bQ];exact hl)).trans ((zU b e hl).trans r1),.cells (Fc λv hv=>(r2 v hv Ie Dj).mono λb hb=>.inl (.inl hb)) λi z1 z2=>⟨z1,z2⟩⟩
 .obtain⟨l,t2,r1,r2⟩:=KM hC1 b a8;exact⟨_,(hold _ (Az.1 r1).1).trans r1,.cells (Fc λv hv=>(r2 v hv Ie Dj).mono λb hb=>.inl (.inr hb)) λi z1 z2=>⟨z1,z2⟩⟩
 .obtain⟨o,r1,r2⟩:=aH b a8;exact⟨o,r1,r2.mono λb B hb=>⟨.inr hb.1,hb.2⟩⟩
end
def qs:Ek (EL [3,2,4]) [[0,1],[1],[]]=0:=by decide +kernel
def qu:Ek (EL [3,2,4]) E2=0:=by decide +kernel
def uz:iz 3 [(2,6)]=0:=by decide +kernel
def wX:Ox (Ju (EL [3,2,4]) (D4 E2) 9 (E8 3 [(2,6)] 1))=[8,0,-8]:=by decide +kernel
def uB:(Eh Ei (En 3) 2 (FA (Ga 1)) 1).map (λr=>Ew r 3)=[E2]:=by decide +kernel
def ju {l:List Int}:(∀h∈(EL l).DV,h.off.length<=4611686018427387904):=by
 intro h hh;simp only[EL,AJ,AG,or_false] at hh;rcases hh with rfl|rfl|rfl<;>simp
def su (nA hA gA:Option eb)(w:ak)(B:Nat)(hB:B<=w.heap.size)(hn:RI w B nA [3,2,4])(hh:EN w B hA (EL [3,2,4]).DV)(hg:ER w B gA [[0,1],[1],[]]) :
  Calls DU 13 #[.agg #[J nA 3 3,J hA 3 3],J gA 3 3,O R 2,O R 0] w λe w'=>Gr w w'/\∃A k,e=.returned (.tuple #[J A 3 k,O R 3,O R 0])/\ER w' w'.heap.size A E2:=by
 refine(mL nA hA gA 3 3 3 (EL [3,2,4]) [[0,1],[1],[]] 2 0 w B hB hn hh hg (by decide) (by decide) ju (by decide) (by decide) (λk _ hk _ _=>?_)).mono ?_
 .obtain rfl:k=2:=by omega
  exact D9.Ok.of (by decide +kernel)
 .rintro e w' ⟨hg,h⟩;refine⟨hg,?_⟩;rw[AD (by simp[qs]),AD (by decide)] at h;have hr:=ul;have h2:Eh (G8 (EL [3,2,4]) (Int.toNat 2) 0) (En (EL [3,2,4]).DV.length) (EL [3,2,4]).DW.length EM 0=Eh (G8 (EL [3,2,4]) 2 0) (En 3) 3 EM 0:=rfl;rw[h2] at h;cases hn:F6 (D4 [[0,1],[1],[]]) (Eh (G8 (EL [3,2,4]) 2 0) (En 3) 3 EM 0) with
  |none=>rw[hn] at hr;cases hr
  |some p =>
   rw[hn] at hr h;obtain⟨A,k,he,zV⟩:=h;have zz:(Ew p.1 3,p.2)=(E2,3):=Option.some.inj hr;injection zz with e1 e2
   refine⟨A,k,?_,?_⟩
   .rw[he,e2];rfl
   .rw[<-e1];exact zV
def uC (nA hA:Option eb)(w:ak)(B:Nat)(hB:B<=w.heap.size)(hn:RI w B nA [3,2,5])(hh:EN w B hA (EL [3,2,5]).DV) :
  Calls DU 15 #[.agg #[J nA 3 3,J hA 3 3]] w λe w'=>Gr w w'/\∃A k,e=.returned (.tuple #[J A 2 k,O R 0])/\RI w' w'.heap.size A [1,2]:=by
 refine(oW nA hA 3 3 (EL [3,2,5]) w B hB hn hh (by decide) (by decide) ju).mono ?_;rintro e w' ⟨hg,h⟩;refine⟨hg,?_⟩;rw[AD (by simp[lK]),AD (by simp[jX])] at h;have h2:Fg (EL [3,2,5]) (2 ^ (EL [3,2,5]).DW.length)=I [1,2]:=qa;rw[h2] at h;exact h
def yt (nA hA gA rA:Option eb)(w:ak)(B:Nat)(hB:B<=w.heap.size)(hn:RI w B nA [3,2,4])(hh:EN w B hA (EL [3,2,4]).DV)(hg:ER w B gA E2)(hr:Ik w B rA [(2,6)]) :
  Calls DU 23 #[.agg #[J nA 3 3,J hA 3 3],J gA 3 3,J rA 1 1,O R 9] w λe w'=>Gr w w'/\∃A k,e=.returned (.tuple #[J A 3 k,O R 0])/\RI w' w'.heap.size A [8,0,-8]:=by
 refine(qr nA hA gA rA 3 3 3 1 (EL [3,2,4]) E2 [(2,6)] 9 w B hB hn hh hg hr (by decide) (by decide) ju (by decide) (by decide) (by decide) (by decide) qu uz (by omega)).mono ?_;rintro e w' ⟨hg,A,k,he,h⟩;refine⟨hg,A,k,he,?_⟩;rw[<-wX];exact h
def Au {w:ak}{B b:Nat}{A0 A1 A2:Option eb}{c0 c1 c2:Nat}{l0 l1 l2:List Int}{t:ea}{f:Nat×Nat}(h:w.heap[b]?=I (cf #[J A0 l0.length c0,J A1 l1.length c1,J A2 l2.length c2] t f))(hb:b<B)(h0:RI w B A0 l0)(h1:RI w B A1 l1)(h2:RI w B A2 l2):ER w B (I ⟨b,0,bb⟩) [l0,l1,l2]:=λ_=>by
 have e:∀o,w.cell? ⟨b,o,bb⟩=(#[J A0 l0.length c0,J A1 l1.length c1,J A2 l2.length c2]:Array bc)[o]?:=λo=>by unfold World.cell?;rw[h];simp
 refine⟨b,0,rfl,hb,λi l hl=>?_⟩
 match i,hl with
 |0,hl=>cases hl;exact⟨A0,c0,e _,h0⟩
 |1,hl=>cases hl;exact⟨A1,c1,e _,h1⟩
 |2,hl=>cases hl;exact⟨A2,c2,e _,h2⟩
def Av {w:ak}{B b:Nat}{x y:Int}{t:ea}{f:Nat×Nat}(h:w.heap[b]?=I (cf #[O R x,O R y] t f))(hb:b<B):Ik w B (I ⟨b,0,bb⟩) [(x,y)]:=λ_=>by
 have e:∀o,w.cell? ⟨b,o,bb⟩=(#[O R x,O R y]:Array bc)[o]?:=λo=>by unfold World.cell?;rw[h];simp
 refine⟨b,0,rfl,hb,λi q hq=>?_⟩
 match i,hq with
 |0,hq=>cases hq;exact⟨e _,e _⟩
def LZ (n:Nat)(l:List bc)(h:l.length=n+19):∃(y0 y1 y2 y3 y4 y5 y6 y7 y8 y9 a6 a7 a8 aA aB aC aD aF aG:bc) (tl:List bc),l=y0::y1::y2::y3::y4::y5::y6::y7::y8::y9::a6::a7::a8::aA::aB::aC::aD::aF::aG::tl/\tl.length=n:=by
 match l,h with
 |y0::y1::y2::y3::y4::y5::y6::y7::y8::y9::a6::a7::a8::aA::aB::aC::aD::aF::aG::tl,h=>exact⟨y0,y1,y2,y3,y4,y5,y6,y7,y8,y9,a6,a7,a8,aA,aB,aC,aD,aF,aG,tl,rfl,by simpa using h⟩
def zg {T:Array bc}(h:T.size=95):∃(y0 y1 y2 y3 y4 y5 y6 y7 y8 y9 a6 a7 a8 aA aB aC aD aF aG aH aI aJ aK aL aM aN aO aP aQ aR aS aT aU aV aW aX aY aZ b5 b6 b7 b8 b9 bA bB bC bD bE bF bG bH bI bJ bK bL bM bN bO bP bQ bR bS bT bU bV bW bX bY bZ c0 c2 c3 c4 c5 cA cB cC cD cE cF cG cH cI cJ cK cL cM cN cO cP cQ cR cS cT cU:bc),T=#[y0,y1,y2,y3,y4,y5,y6,y7,y8,y9,a6,a7,a8,aA,aB,aC,aD,aF,aG,aH,aI,aJ,aK,aL,aM,aN,aO,aP,aQ,aR,aS,aT,aU,aV,aW,aX,aY,aZ,b5,b6,b7,b8,b9,bA,bB,bC,bD,bE,bF,bG,bH,bI,bJ,bK,bL,bM,bN,bO,bP,bQ,bR,bS,bT,bU,bV,bW,bX,bY,bZ,c0,c2,c3,c4,c5,cA,cB,cC,cD,cE,cF,cG,cH,cI,cJ,cK,cL,cM,cN,cO,cP,cQ,cR,cS,cT,cU]:=by
 obtain⟨l⟩:=T;have h:l.length=76+19:=h;obtain⟨y0,y1,y2,y3,y4,y5,y6,y7,y8,y9,a6,a7,a8,aA,aB,aC,aD,aF,aG,l0,rfl,h0⟩:=LZ 76 l h;obtain⟨aH,aI,aJ,aK,aL,aM,aN,aO,aP,aQ,aR,aS,aT,aU,aV,aW,aX,aY,aZ,l1,rfl,h1⟩:=LZ 57 l0 h0;obtain⟨b5,b6,b7,b8,b9,bA,bB,bC,bD,bE,bF,bG,bH,bI,bJ,bK,bL,bM,bN,l2,rfl,h2⟩:=LZ 38 l1 h1;obtain⟨bO,bP,bQ,bR,bS,bT,bU,bV,bW,bX,bY,bZ,c0,c2,c3,c4,c5,cA,cB,l3,rfl,h3⟩:=LZ 19 l2 h2
 obtain⟨cC,cD,cE,cF,cG,cH,cI,cJ,cK,cL,cM,cN,cO,cP,cQ,cR,cS,cT,cU,l4,rfl,h4⟩:=LZ 0 l3 h3;obtain rfl:l4=[]:=Bc h4;exact⟨y0,y1,y2,y3,y4,y5,y6,y7,y8,y9,a6,a7,a8,aA,aB,aC,aD,aF,aG,aH,aI,aJ,aK,aL,aM,aN,aO,aP,aQ,aR,aS,aT,aU,aV,aW,aX,aY,aZ,b5,b6,b7,b8,b9,bA,bB,bC,bD,bE,bF,bG,bH,bI,bJ,bK,bL,bM,bN,bO,bP,bQ,bR,bS,bT,bU,bV,bW,bX,bY,bZ,c0,c2,c3,c4,c5,cA,cB,cC,cD,cE,cF,cG,cH,cI,cJ,cK,cL,cM,cN,cO,cP,cQ,cR,cS,cT,cU,rfl⟩
def wY (A:Option eb)(c:Nat)(y0 y5 y6 y7 y8 y9 c5 cA cB cC cD cE cF cG cH cI cJ cK cL cM cN cO cP cQ cS cT cU cV cW cX cY cZ d2 d3 d4 d5 d6 d7 d8 d9 dA dB dC dD dE dF dG dH dI dJ dK dL dM dN dO dP dQ dR dS dT dU dV dW dX dY dZ e5 e6 e7 e8 e9 eA eB eC eD eE eF eG eH eI eJ eK eL eM eN eO eP eQ eR eT eU:bc)(w:ak)(aR:ER w w.heap.size A E2) :
  Oo.wp DU (λe a' _=>(e=.normal\/e=.ret)/\e=.ret/\a'.tmps.getD 0 undef=.bool F/\a'.defers=[]) ⟨#[y0,O R 1,O R 0,J A 3 c,O R 0,y5,y6,y7,y8,y9,c5,cA,cB,cC,cD,cE,cF,cG,cH,cI,cJ,cK,cL,cM,cN,cO,cP,cQ,cS,cT,cU,cV,cW,cX,cY,cZ,d2,d3,d4,d5,d6,d7,d8,d9,dA,dB,dC,dD,dE,dF,dG,dH,dI,dJ,dK,dL,dM,dN,dO,dP,dQ,dR,dS,dT,dU,dV,dW,dX,dY,dZ,e5,e6,e7,e8,e9,eA,eB,eC,eD,eE,eF,eG,eH,eI,eJ,eK,eL,eM,eN,eO,eP,eQ,eR,eT,eU],[]⟩ w:=by
 have HB:=Ay aR;clear aR;have ez:Oo=ag (ag (ag wB)):=rfl;simp only[wB,Tryz.f6,AY,ag] at ez;rw[ez];clear ez;obtain⟨W1,zu⟩:∃W1:ak,W1=w.alloc (cf #[O R 3,O R 2,O R 4] 3):=⟨_,rfl⟩;have zJ:Gr w W1:=zu▸(Gr.refl w).alloc _;have HN1:RowKit.Hid (RI W1 W1.heap.size (I ⟨w.heap.size,0,bb⟩) [3,2,4]):=Ay (cR (t:=3) (f:=(0,0)) (by rw[zu];exact heap_alloc_new w _) (by rw[zu];simp))
 have eV:=Ay (HB.out.gr (AA _) zJ);have bQ:=Ay (my (I ⟨w.heap.size,0,bb⟩) 3 [3,2,4] W1);have eW:=Ay zu;have zE:=zJ.size;clear zJ zu;go_wp2_with fail;rw[<-eW.out];refine bQ.out.mono ?_;rintro e w2 ⟨hA,rfl,bR,zI⟩;obtain⟨W2,zn⟩:∃W2:ak,W2=((w2.alloc (cf #[O R 0,O R 1] 3)).alloc (cf #[O R 1] 3)).alloc (cf #[.slice (I ⟨w2.heap.size,0,bb⟩) 2 2,.slice (I ⟨w2.heap.size+1,0,bb⟩) 1 1,.slice bb 0 0] 22):=⟨_,rfl⟩
 have zH:Gr w2 W2:=zn▸(((Gr.refl w2).alloc _).alloc _).alloc _;have zD:W2.heap.size=w2.heap.size+3:=by rw[zn];simp
 have b0:W2.heap[w2.heap.size]?=I (.cells ([0,1].map (O R)).toArray 3 (0,0)):=by
  rw[zn,ae _ _ (by simp;omega),ae _ _ (by simp)];exact heap_alloc_new _ _
 have b1:W2.heap[w2.heap.size+1]?=I (.cells ([1].map (O R)).toArray 3 (0,0)):=by
  rw[zn,ae _ _ (by simp)];exact aM _ _ (by simp)
 have b2:W2.heap[w2.heap.size+2]?=I (cf #[.slice (I ⟨w2.heap.size,0,bb⟩) 2 2,.slice (I ⟨w2.heap.size+1,0,bb⟩) 1 1,.slice bb 0 0] 22 (0,0)):=by
  rw[zn];exact aM _ _ (by simp)
 have aS:ER W2 W2.heap.size (I ⟨w2.heap.size+2,0,bb⟩) [[0,1],[1],[]]:=Au (l0:=[0,1]) (l1:=[1]) (l2:=[]) b2 (by omega) (cR b0 (by omega)) (cR b1 (by omega)) .nil;have HR:=Ay (su (I ⟨w.heap.size,0,bb⟩) hA (I ⟨w2.heap.size+2,0,bb⟩) W2 W2.heap.size (AA _) (((HN1.out.gr (AA _) zI).gr zI.size zH).more (by have:=zI.size;have:=zH.size;omega)) ((bR.keep λb o hb=>zH.cell (p:=⟨b,o,bb⟩) hb).more zH.size) aS)
 have eX:=Ay ((eV.out.gr (by omega) zI).gr (by have:=zI.size;omega) zH);have eY:=Ay zn;have hzz2:=zI.size;clear bR zI zn b0 b1 b2 aS bQ zD;have ec:Ef (I ⟨w.heap.size,0,bb⟩) hA (EL [3,2,4]) 3 3=.agg #[.slice (I ⟨w.heap.size,0,bb⟩) 3 3,J hA 3 3]:=rfl;rw[ec];clear ec;have hz3:=zH.size;clear zH;go_wp2_with fail;rw[<-eY.out];refine HR.out.mono ?_;rintro e w3 ⟨zH,A5,k5,rfl,aZ⟩
 have HB3:=Ay (eX.out.gr (by omega) zH);have eZ:=Ay aZ;have f5:=zH.size;clear zH aZ HR HN1;obtain⟨V6,aJ⟩:∃V:ak,V=w3.alloc (cf #[O R 3,O R 2,O R 5] 3):=⟨_,rfl⟩;have b5:Gr w3 V6:=aJ▸(Gr.refl w3).alloc _;have HN6:RowKit.Hid (RI V6 V6.heap.size (I ⟨w3.heap.size,0,bb⟩) [3,2,5]):=Ay (cR (t:=3) (f:=(0,0)) (by rw[aJ];exact heap_alloc_new w3 _) (by rw[aJ];simp));have HC6:=Ay (my (I ⟨w3.heap.size,0,bb⟩) 3 [3,2,5] V6)
 have bT:=Ay b5;have HV6:=Ay aJ;have hzV6:=b5.size;clear b5 aJ;go_wp2_with fail;rw[<-HV6.out];refine HC6.out.mono ?_;rintro e x6 ⟨b6,rfl,b7,aB⟩;have b8:=Ay (bT.out.trans aB);have b9:=Ay ((HN6.out.gr (AA _) aB).more aB.size);have bA:=Ay b7;have hzx6:=aB.size;clear b7 aB;have ec:Ef (I ⟨w3.heap.size,0,bb⟩) b6 (EL [3,2,5]) 3 3=.agg #[.slice (I ⟨w3.heap.size,0,bb⟩) 3 3,J b6 3 3]:=rfl
 have bS:=Ay (uC (I ⟨w3.heap.size,0,bb⟩) b6 x6 x6.heap.size (AA _) b9.out bA.out);rw[ec];clear ec;go_wp2_with fail;refine bS.out.mono ?_;rintro e w5 ⟨aT,A8,k8,rfl,bB⟩;have HB5:=Ay (HB3.out.gr (by omega) (b8.out.trans aT));have bU:=Ay (eZ.out.gr (AA _) (b8.out.trans aT));have HI8:=Ay bB;have f9:=(b8.out.trans aT).size;clear aT bB bS HN6 HC6 bA b9;obtain⟨V7,aK⟩:∃V:ak,V=w5.alloc (cf #[O R 3,O R 2,O R 4] 3):=⟨_,rfl⟩
 have bC:Gr w5 V7:=aK▸(Gr.refl w5).alloc _;have HN7:RowKit.Hid (RI V7 V7.heap.size (I ⟨w5.heap.size,0,bb⟩) [3,2,4]):=Ay (cR (t:=3) (f:=(0,0)) (by rw[aK];exact heap_alloc_new w5 _) (by rw[aK];simp));have HC7:=Ay (my (I ⟨w5.heap.size,0,bb⟩) 3 [3,2,4] V7);have bV:=Ay bC;have HV7:=Ay aK;have hzV7:=bC.size;clear bC aK;go_wp2_with fail;rw[<-HV7.out];refine HC7.out.mono ?_;rintro e x7 ⟨bD,rfl,bE,aC⟩
 have HX7:=Ay (bV.out.trans aC);have bF:=Ay ((HN7.out.gr (AA _) aC).more aC.size);have bG:=Ay bE;have hzx7:=aC.size;clear bE aC;have ec:Ef (I ⟨w5.heap.size,0,bb⟩) bD (EL [3,2,4]) 3 3=.agg #[.slice (I ⟨w5.heap.size,0,bb⟩) 3 3,J bD 3 3]:=rfl;rw[ec];clear ec;have HGU:=Ay (kJ x7);go_wp2_with fail;refine HGU.out.mono ?_;rintro e x8 ⟨gA,rfl,aA,aG⟩;obtain⟨V8,aL⟩:∃V:ak,V=x8.alloc (cf #[O R 2,O R 6] 58):=⟨_,rfl⟩
 have a6:Gr x8 V8:=aL▸(Gr.refl x8).alloc _;have bH:Ik V8 V8.heap.size (I ⟨x8.heap.size,0,bb⟩) [(2,6)]:=Av (t:=58) (f:=(0,0)) (by rw[aL];exact heap_alloc_new _ _) (by rw[aL];simp)
 have bI:=Ay (yt (I ⟨w5.heap.size,0,bb⟩) bD gA (I ⟨x8.heap.size,0,bb⟩) V8 V8.heap.size (AA _) ((bF.out.gr (AA _) (aG.trans a6)).more (aG.trans a6).size)
  ((bG.out.keep λb o hb=>(aG.trans a6).cell (p:=⟨b,o,bb⟩) hb).more (aG.trans a6).size) ((aA.gr (AA _) a6).more a6.size) bH)
 have aU:=Ay (HX7.out.trans (aG.trans a6));have HV8:=Ay aL;have a8:(E2.length:Nat)=3:=rfl;clear aA aG aL a6 bH HGU;rw[a8];go_wp2_with fail;rw[<-HV8.out];refine bI.out.mono ?_;rintro e w9 ⟨aN,A10,f3,rfl,aV⟩;have hzz9:=(aU.out.trans aN).size;have HB9:=Ay (HB5.out.gr (by omega) (aU.out.trans aN));have bW:=Ay (bU.out.gr (by omega) (aU.out.trans aN));have bX:=Ay (HI8.out.gr (AA _) (aU.out.trans aN))
 have bY:=Ay aV;clear aN aV bI HN7 HC7 bG bF;have aW:=Ay (kJ w9);go_wp2_with fail;refine aW.out.mono ?_;rintro e g11 ⟨bZ,rfl,aA,hg⟩;have aH:=Ay (ef A bZ c 3 E2 E2 g11 g11.heap.size (AA _) ((HB9.out.gr (by omega) hg).more (by have:=hg.size;omega)) aA (by decide) (by decide) (by decide) (by decide));rw[BE (rfl:E2=E2)] at aH;have bJ:=Ay hg;have hzq11:=hg.size
 clear aA hg aW;have a8:(E2.length:Nat)=3:=rfl;rw[a8];rw[a8] at aH;clear a8;go_wp2_with fail;refine aH.out.mono ?_;rintro e s11 ⟨rfl,hg⟩;have aO:=Ay (bJ.out.trans hg);have hzs11:=(bJ.out.trans hg).size;clear hg aH;have HGM:=Ay (bW.out.gr (by omega) aO.out);have HIM:=Ay (bX.out.gr (by omega) aO.out);have f4:=Ay (bY.out.gr (by omega) aO.out);have aX:=Ay (kJ s11)
 go_wp2_with fail;refine aX.out.mono ?_;rintro e g12 ⟨c0,rfl,aA,hg⟩;have aI:=Ay (ef A5 c0 k5 3 E2 E2 g12 g12.heap.size (AA _) ((HGM.out.gr (by omega) hg).more (by have:=hg.size;omega)) aA (by decide) (by decide) (by decide) (by decide));rw[BE (rfl:E2=E2)] at aI;have bK:=Ay hg;have hzq12:=hg.size;clear aA hg aX;have a8:(E2.length:Nat)=3:=rfl;rw[a8];rw[a8] at aI
 clear a8;go_wp2_with fail;refine aI.out.mono ?_;rintro e s12 ⟨rfl,hg⟩;have bL:=Ay (bK.out.trans hg);have hzs12:=(bK.out.trans hg).size;clear hg aI;obtain⟨bM,aD⟩:∃V:ak,V=s12.alloc (cf #[O R 1,O R 2] 3):=⟨_,rfl⟩;have a7:Gr s12 bM:=aD▸(Gr.refl s12).alloc _;have aP:=Ay (cv A8 (I ⟨s12.heap.size,0,bb⟩) k8 2 [1,2] [1,2] bM bM.heap.size (AA _) (((HIM.out.gr (by omega) bL.out).gr (by omega) a7).more (by have:=a7.size;omega)) (cR (t:=3) (f:=(0,0)) (by rw[aD];exact heap_alloc_new _ _) (by rw[aD];simp)) (by decide) (by decide))
 rw[BE (rfl:([1,2]:List Int)=[1,2])] at aP;have c2:=Ay aD;have bN:=Ay a7;have hzq13:=a7.size;clear a7 aD;go_wp2_with fail;rw[<-c2.out];refine aP.out.mono ?_;rintro e aY ⟨rfl,hg⟩;have c3:=Ay (bN.out.trans hg);have hzs13:=(bN.out.trans hg).size;clear hg aP;obtain⟨bO,aF⟩:∃V:ak,V=aY.alloc (cf #[O R 8,O R 0,O R (-8)] 3):=⟨_,rfl⟩;have a7:Gr aY bO:=aF▸(Gr.refl aY).alloc _
 have aQ:=Ay (cv A10 (I ⟨aY.heap.size,0,bb⟩) f3 3 [8,0,-8] [8,0,-8] bO bO.heap.size (AA _) ((((f4.out.gr (by omega) bL.out).gr (by omega) c3.out).gr (by omega) a7).more (by have:=a7.size;omega)) (cR (t:=3) (f:=(0,0)) (by rw[aF];exact heap_alloc_new _ _) (by rw[aF];simp)) (by decide) (by decide));rw[BE (rfl:([8,0,-8]:List Int)=[8,0,-8])] at aQ;have c4:=Ay aF;have bP:=Ay a7
 have hzq14:=a7.size;clear a7 aF;go_wp2_with fail;rw[<-c4.out];refine aQ.out.mono ?_;rintro e s14 ⟨rfl,hg⟩;have HT14:=Ay (bP.out.trans hg);have hzs14:=(bP.out.trans hg).size;clear hg aQ;go_wp2
section
variable {Q:bl->ak->Prop} {b:cu} {a:Act} {todo:List fq} {cs:List cu} {w:ak} {BB:eo->Bool}
def sv (hQ:∀g w W,Et w W->Q g w->Q g W)(hf:BB b.fn=F)(hg:∀o,({ b.at a todo with mode:=.returning }:cu).oper?=I o->aN Y o.op=F)(h:∀τ d,(stepG Y F (z { b.at a todo with mode:=.returning } cs) (on w τ d)).goes (λg' w' _=>g'.callers≠[]/\∃W,Et W w'/\EO Y BB Q 0 g' W)) :
  EO Y BB Q 0 (z { b.at a todo with mode:=.returning } cs) w:=by
 refine EO.step ⟨hf,hg⟩ λτ d=>?_;have:=h τ d;cases hs:stepG Y F (z { b.at a todo with mode:=.returning } cs) (on w τ d) with
 |go g' w' es =>
  rw[hs] at this;obtain⟨h1,W,h2,h3⟩:=this;exact⟨g',w',es,rfl,h1,h3.same hQ h2⟩
 |_=>rw[hs] at this;exact this.elim
end
def yu:codeOk DU Ie ck F Oo=true:=by kernel_rfl
def wZ {QT:bl->ak->Prop}{C:cu}{cs:List cu}(cZ:∀g w W,Et w W->QT g w->QT g W)
  (h:∀(a':Act) (todo:List fq) (w':ak),a'.tmps.getD 0 undef=.bool F->a'.defers=[]->(∀o,({ (base 6).at a' todo with mode:=.returning }:cu).oper?=I o->aN Y o.op=F)->EO Y Ib QT 0 (z { (base 6).at a' todo with mode:=.returning } (C::cs)) w'):jZ QT (C::cs):=by
 intro K A c B xs w' U ρ cX ho hU u1 u2 u3 u4 d2 cY;obtain⟨y0,y1,y2,y3,y4,y5,y6,y7,y8,y9,a6,a7,a8,aA,aB,aC,aD,aF,aG,aH,aI,aJ,aK,aL,aM,aO,aP,aQ,aR,aS,aT,aU,aV,aW,aX,aY,aZ,b5,b6,b7,b8,b9,bA,bB,bC,bD,bE,bF,bG,bH,bI,bJ,bK,bL,bM,bN,bO,bP,bQ,bR,bS,bT,bU,bV,bW,bX,bY,bZ,c0,c2,c3,c4,c5,cA,cB,cC,cD,cE,cF,cG,cH,cI,cJ,cK,cL,cM,cN,cO,cP,cQ,cR,cS,cT,cU,cV,rfl⟩:=zg hU
 have u1:y1=O R 1:=u1;have u2:y2=O R 0:=u2;have u3:y3=J A 3 c:=u3;have u4:y4=O R 0:=u4;subst u1 u2 u3 u4;have cW:ER w' w'.heap.size A E2:=by
  obtain⟨A',c',hv,hg⟩:=ho.J4;have hA:A=A':=by injection hv
  subst hA;have hl:=uB;rw[cX] at hl;have:Ew ρ 3=E2:=by simpa using hl
  rw[<-this];exact hg
 have zR:Er DU Ie Dj ck (EK K) ((base 6).at ⟨#[y0,O R 1,O R 0,J A 3 c,O R 0,y5,y6,y7,y8,y9,a6,a7,a8,aA,aB,aC,aD,aF,aG,aH,aI,aJ,aK,aL,aM,aO,aP,aQ,aR,aS,aT,aU,aV,aW,aX,aY,aZ,b5,b6,b7,b8,b9,bA,bB,bC,bD,bE,bF,bG,bH,bI,bJ,bK,bL,bM,bN,bO,bP,bQ,bR,bS,bT,bU,bV,bW,bX,bY,bZ,c0,c2,c3,c4,c5,cA,cB,cC,cD,cE,cF,cG,cH,cI,cJ,cK,cL,cM,cN,cO,cP,cQ,cR,cS,cT,cU,cV],[]⟩ [.code Oo]) ((base 6).at ⟨#[y0,O R 1,O R 0,J A 3 c,O R 0,y5,y6,y7,y8,y9,a6,a7,a8,aA,aB,aC,aD,aF,aG,aH,aI,aJ,aK,aL,aM,aO,aP,aQ,aR,aS,aT,aU,aV,aW,aX,aY,aZ,b5,b6,b7,b8,b9,bA,bB,bC,bD,bE,bF,bG,bH,bI,bJ,bK,bL,bM,bN,bO,bP,bQ,bR,bS,bT,bU,bV,bW,bX,bY,bZ,c0,c2,c3,c4,c5,cA,cB,cC,cD,cE,cF,cG,cH,cI,cJ,cK,cL,cM,cN,cO,cP,cQ,cR,cS,cT,cU,cV],[]⟩ [.code Oo]):=by
  refine⟨rfl,?_,.cons (.code yu) .nil,.nil,.run,rfl,⟨(by show bw≠.early;decide),(by show Ie 6=F;decide)⟩,.none⟩;exact Fc (l:=[y0,O R 1,O R 0,J A 3 c,O R 0,y5,y6,y7,y8,y9,a6,a7,a8,aA,aB,aC,aD,aF,aG,aH,aI,aJ,aK,aL,aM,aO,aP,aQ,aR,aS,aT,aU,aV,aW,aX,aY,aZ,b5,b6,b7,b8,b9,bA,bB,bC,bD,bE,bF,bG,bH,bI,bJ,bK,bL,bM,bN,bO,bP,bQ,bR,bS,bT,bU,bV,bW,bX,bY,bZ,c0,c2,c3,c4,c5,cA,cB,cC,cD,cE,cF,cG,cH,cI,cJ,cK,cL,cM,cN,cO,cP,cQ,cR,cS,cT,cU,cV]) d2
 have hs:=(en (H:=Dj) fZ).seg (b:=base 6) (a:=⟨#[y0,O R 1,O R 0,J A 3 c,O R 0,y5,y6,y7,y8,y9,a6,a7,a8,aA,aB,aC,aD,aF,aG,aH,aI,aJ,aK,aL,aM,aO,aP,aQ,aR,aS,aT,aU,aV,aW,aX,aY,aZ,b5,b6,b7,b8,b9,bA,bB,bC,bD,bE,bF,bG,bH,bI,bJ,bK,bL,bM,bN,bO,bP,bQ,bR,bS,bT,bU,bV,bW,bX,bY,bZ,c0,c2,c3,c4,c5,cA,cB,cC,cD,cE,cF,cG,cH,cI,cJ,cK,cL,cM,cN,cO,cP,cQ,cR,cS,cT,cU,cV],[]⟩) (c:=Oo) (k:=[]) (C:=C) (cs:=cs) (Q:=QT) (w:=w') (K0:=K) zR (λ_ _=>AU _) (AU _) (λb _ hb=>by cases hb) (λb hb=>by cases hb) (λb hb _=>cY b hb)
  (λs h=>by cases h) (λ_ _ _ _ _ _ _ _ _ _ _ h=>by cases h) (.inr ⟨_,_,DL,rfl⟩) cZ
  (N:=λe a' _=>e=.ret/\a'.tmps.getD 0 undef=.bool F/\a'.defers=[]) (λτ d=>wY A c y0 y5 y6 y7 y8 y9 a6 a7 a8 aA aB aC aD aF aG aH aI aJ aK aL aM aO aP aQ aR aS aT aU aV aW aX aY aZ b5 b6 b7 b8 b9 bA bB bC bD bE bF bG bH bI bJ bK bL bM bN bO bP bQ bR bS bT bU bV bW bX bY bZ c0 c2 c3 c4 c5 cA cB cC cD cE cF cG cH cI cJ cK cL cM cN cO cP cQ cR cS cT cU cV (on w' τ d) cW)
  (λa' w' h=>by cases h.1) (λa' w' todo hn hpl=>h a' todo w' hn.2.1 hn.2.2 hpl)
 exact hs
structure L3 (f:eo) where
 fn:Func
 t:Nat
 hf:Tryz.prog.funcs[f]?=I fn
 hres:fn.results=#[.tmp t]
 looked:Ib f=F
 fr:Act->cu
 N:Act->Prop
 back:∀a,N a->jZ (Eu.Left Y f λv _=>v=.bool F) (fr a::[bad])
def fK {P:Program}{N K:Nat}{m m1 m2:Machine}{t t1 t2:Trace}(h:runNT P N m t=(.next m1,t1))(k:runNT P K m1 t1=(.next m2,t2)):runNT P (N+K) m t=(.next m2,t2):=by
 rw[cZ h];exact k
def Oy {f:eo}{fn:Func}{t:Nat}(hf:Tryz.prog.funcs[f]?=I fn)(hres:fn.results=#[.tmp t])(hb:Ib f=F){H:Hid}{β:Em}{g A:bl}{w:ak}(hg:FX PP Ku H F Ib [] β g A)(hl:Eu.Left Y f (λv _=>v=.bool F) g w)(W:ak) :
  A.status=.running/\stepG Y F A W=.ended (.done (.bool F)) W #[]:=by
 obtain⟨w0,v,fr,hs,rfl,rfl,zR,hm,hd,hk,GY,hfn,hr⟩:=hl;have aD:=hg.top.IP (show Ib fr.fn=F by rw[zR];exact hb);have e0:=hg.status.2;have e1:=hg.dying.2;have e2:=hg.offers.2;have zW:=hg.callers;obtain⟨FR,aF,st,dy,off⟩:=A;dsimp only at e0 e1 e2 zW aD;subst e0 e1 e2;have aG:aF=[]:=by
  cases zW with
  |base=>rfl
  |cons _ h=>exact AI rfl h.ne
 subst aG;refine⟨rfl,?_⟩;obtain⟨aH,tmps,todo,defers,mode,kind,round⟩:=fr;obtain⟨aL,aA,aJ,aB,aC,aK,aI⟩:=FR;obtain⟨a1,a2,a3,a4,a5,a6,a7,a8⟩:=aD;dsimp only[EX] at a1 a2 a3 a4 a5 a6 a7 a8 hm hd hk hfn hr zR;subst a1 a6 hm hd hk zR;have d2:aB=[]:=by cases a4;rfl
 have m2:aC=.returning:=by cases a5;rfl
 subst d2 m2;rw[hf] at hfn;cases hfn;have hv:tmps.getD t undef=.bool true:=by
  have:=ek hres tmps Y w0;rw[hr] at this;injection this with h1 _
  exact h1.symm
 have hV:=a2.getD t (DZ.undef (SP Ku H) β);rw[hv] at hV;have hV2:aA.getD t undef=.bool true:=by
  generalize aA.getD t undef=V at hV;cases hV;rfl
 have zz:=ek hres aA Y W;rw[hV2] at zz;have he2:=events_results_tmp (P:=Y) (w:=W) hres aA #[];have zU:¬2=aH:=λe=>by subst e;revert hb;decide
 simp[stepG,unwind,doReturn,hf,zz,he2,seen,GStep.after,zU]
section
variable {f:eo}
def I1 (E:L3 f)(g:bl)(w:ak):Prop:=∃a:Act,E.N a/\LV (E.fr a::[bad]) g w
def xa (E:L3 f){A:bl}{W:ak}{x:Lone}(ht:Tw PP Ku Ib F 0 (λ_=>False) ⟨λB=>B<W.heap.size,W,0⟩ x A W)(hx:EO Y Ib (I1 E) 0 x.g x.w)(hT:x.T=[])(hH:∀b,x.H b=ck) :
  ∃N last o w' t',runNT Y (N+1) (ed #[A] W bb) #[]=(.ended o w',t')/\runN Y N (ed #[A] W bb)=.next last/\step Y last=.ended o w' /\
   cr Y (λv w'=>v=.bool F/\(w'.os=W.os/\w'.output=W.output)/\W.heap.size<=w'.heap.size/\∀B,B<W.heap.size->w'.heap[B]?=W.heap[B]?) last o w' t':=by
 have hb:IZ Y (λ_=>False) #[A] W #[] (λ_=>0):=by
  refine⟨⟨λi g hi hg=>?_,λj _=>rfl⟩,⟨past_nil.clean,λi a ha=>?_,past_nil.over,past_nil.hears,λop hop=>by simp at hop⟩,λi op x h=>by simp at h,λi op h=>by simp at h,λB h=>h.elim⟩
  .have:=(Az.1 hg).1;simp at this;omega
  .simp[touchAt,Trace.act?] at ha
 obtain⟨N1,m1,t1,r1,aO,W1,aI,q1,x1,A1,rfl,a1,a2,a3,a4,a5,a6,a7,a8,a9,a10⟩:=Iy (P:=PP) (SB:=Ku) (BB:=Ib) (zZ:=F) (Gn:=0) (zO:=λ_=>False) (Kp:=⟨λB=>B<W.heap.size,W,0⟩) M8 Ot (H:=x.H) (T:=x.T) (β:=x.β) (Q:=I1 E) (λg w h=>by obtain⟨a,_,h⟩:=h;exact .inl (LV.fn g w h)) (os:=W.os) (ou:=W) (n:=1) (b0:=x.w.heap.size) (B0:=W.heap.size) _ (ed #[A] W bb) #[]
  ⟨#[A],W,bb,λ_=>0,x,A,0,rfl,rfl,rfl,.of hb,ht,hx,rfl,rfl,Em.le_refl _,⟨rfl,rfl⟩,⟨AA _,AA _,λb B h=>.inl h⟩,rfl⟩
 obtain⟨a,ha,aJ⟩:=a5;have aF:∀b,x1.H b=false:=λb=>by rw[a6];exact hH b
 obtain⟨N2,m2,t2,r2,aB,W2,aG,q2,A2,aD,g2,w2,rfl,b1,b2,b3,b4,b5,b6,b7,b8,b9⟩:=Nw (sl:=aI) a3.Rb a4 a1 aJ (Ep _ _) aF (by omega);obtain⟨N3,m3,t3,r3,aP,W3,sl3,q3,x3,A3,rfl,c1,c2,c3,c4,c5,c6,c7,c8,c9,c10⟩:=Iy (P:=PP) (SB:=Ku) (BB:=Ib) (zZ:=F) (Gn:=0) (zO:=aD) (Kp:=⟨λB=>B<W.heap.size,W,0⟩) M8 Ot (H:=x1.H) (T:=x1.T) (β:=x1.β) (Q:=Ou (E.fr a::[bad])) (λg w h=>.inl (Ou.fn g w h)) (os:=W2.os) (ou:=W2) (n:=aB.size) (b0:=w2.heap.size) (B0:=W2.heap.size) _ (ed aB W2 aG) t2
  ⟨aB,W2,aG,q2,⟨g2,w2,x1.H,x1.β,x1.T⟩,A2,0,rfl,b1,rfl,.of b3,b4,b5,rfl,rfl,Em.le_refl _,⟨rfl,rfl⟩,⟨AA _,AA _,λb B h=>.inl h⟩,rfl⟩
 obtain⟨N4,m4,t4,r4,aC,W4,aH,q4,A4,aA,g4,w4,rfl,d1,d2,d3,d4,d5,d6,d7,d8,d9⟩:=Ov (sl:=sl3) Eu.Left.same (E.back a ha) c3.Rb c4 c1 c5 (Ep _ _) (λb=>by rw[c6];exact aF b) (by omega);obtain⟨N5,m5,t5,r5,aK,W5,aL,q5,x5,A5,rfl,f1,f2,f3,f4,f5,f6,f7,f8,f9,f10⟩:=Iy (P:=PP) (SB:=Ku) (BB:=Ib) (zZ:=F) (Gn:=0) (zO:=aA) (Kp:=⟨λB=>B<W.heap.size,W,0⟩) M8 Ot (H:=x3.H) (T:=x3.T) (β:=x3.β) (Q:=Eu.Left Y f λv _=>v=.bool F) (λg w h=>.inr ⟨f,_,h⟩) (os:=W4.os) (ou:=W4) (n:=aC.size) (b0:=w4.heap.size) (B0:=W4.heap.size) _ (ed aC W4 aH) t4
  ⟨aC,W4,aH,q4,⟨g4,w4,x3.H,x3.β,x3.T⟩,A4,0,rfl,d1,rfl,.of d3,d4,d5,rfl,rfl,Em.le_refl _,⟨rfl,rfl⟩,⟨AA _,AA _,λb B h=>.inl h⟩,rfl⟩
 have eT:x5.T=[]:=f7.trans (c7.trans (a7.trans hT));have zA:=fK r1 (fK r2 (fK r3 (fK r4 r5)));have zQ:=f4.gl;unfold Fp at zQ;rw[eT] at zQ;have aM:W5.os=W.os/\W5.output=W.output:=⟨f9.1.trans (d7.1.trans (c9.1.trans (b7.1.trans a9.1))),f9.2.trans (d7.2.trans (c9.2.trans (b7.2.trans a9.2)))⟩;have zx:W.heap.size<=W5.heap.size:=by have:=f10.1;have:=c10.1;have:=a10.1;omega
 obtain⟨M,last,o,w',t',e1,e2,e3,e4⟩:=beside_ends (P:=Y) (Shun:=I9 aA) (B:=W5.heap.size) (D:=λ_ _ _=>False) (Post:=λv w'=>v=.bool F/\(w'.os=W.os/\w'.output=W.output)/\W.heap.size<=w'.heap.size/\∀B,B<W.heap.size->w'.heap[B]?=W.heap[B]?) (λ_ _ _ h=>h.elim) (gs:=aK) (a:=A5) (w:=W5) (sl:=aL) (t:=t5) (q:=q5) (n:=0) f1 f3.Rb.lv f3.Rb.past (λw1 aN=>by
  obtain⟨d,rfl⟩:=aN;obtain⟨s1,s2⟩:=Oy E.hf E.hres E.looked zQ f5 (W5.at d)
  exact⟨s1,.bool F,#[],s2,λe he=>by simp at he,rfl,aM,zx,λB hB=>(f4.keep B hB).2⟩)
 refine⟨N1+(N2+(N3+(N4+N5)))+M,last,o,w',t',?_,?_,e3,e4⟩
 .exact(cZ zA).trans e1
 .have h1:=AX Prod.fst (cZ (K:=M) zA);rw[runNT_fst,runNT_fst] at h1;exact h1.trans e2
end
inductive L5 (ops:Array fW):List Nat->Act->Act->Prop
 |nil (a:Act):L5 ops [] a a
 |cons {i:Nat} {rest:List Nat} {a a':Act} {o:fW} {v:bc}:ops[i]?=I o->Region.wanted o (yielded ops a.tmps)=F->aN Y o.op=F->(∀w,(execOp a.eval o).run Y w=.ok (.value v) w)->L5 ops rest (a.put o.dst v) a'->L5 ops (i::rest) a a'
def sC {Q:bl->ak->Prop}(hQ:∀g w W,Et w W->Q g w->Q g W){b:cu}(hB:Ib b.fn=F)(hk:b.kind≠.early){ops:Array fW}{k:List fq}{C:cu}{cs:List cu}{w:ak}{rest:List Nat}{a a':Act}(h:L5 ops rest a a')
  (he:EO Y Ib Q 0 (z (b.at a' (.inRegion ops []::k)) (C::cs)) w):EO Y Ib Q 0 (z (b.at a (.inRegion ops rest::k)) (C::cs)) w:=by
 induction h with
 |nil a=>exact he
 |@cons i rest a a' o v ho hw pl hv _ ih =>
  have hn:bK Y (.inRegion ops (i::rest)::k)=true:=by
   show(match ops[i]? with|some o=>aN Y o.op|none=>F)=F;rw[ho];exact pl
  refine aB hQ hB hn λτ d=>?_;rw[stepG_value ho hw hk (hv _)];simp only[goes_go];exact⟨Ep _ _,w,Di,ih he⟩
structure LawIn (f:eo)(ops:Array fW)(i:Nat)(rest:List Nat)(more:List fq) where
 fn:Func
 o:fW
 d:Nat
 t:Nat
 n:Nat
 N:Act->Prop
 hf:Tryz.prog.funcs[f]?=I fn
 ho:ops[i]?=I o
 PY:o.dst=I d
 hop:∃ts,o.op=.call { callee:=.value (.func 6),args:=#[],argTypes:=ts }
 plain:aN Y o.op=F
 hres:fn.results=#[.tmp t]
 looked:Ib f=F
 hn:fn.ntmps=n
 want:∀a,N a->Region.wanted o (yielded ops a.tmps)=F
 KC:∀a,N a->a.defers=[]
 pure:∀a,N a->∃a',L5 ops rest (a.put (I d) (.bool F)) a'/\a'.defers=[]/\a'.tmps.getD t undef=.bool F
section
variable {f:eo} {ops:Array fW} {i:Nat} {rest:List Nat} {more:List fq}
def LawIn.tgt (_:LawIn f ops i rest more):List Item:=.inRegion ops (i::rest)::.code .ret::more
def LawIn.fr (E:LawIn f ops i rest more)(a:Act):Frame:=(base f).at a E.tgt
def LawIn.go (E:LawIn f ops i rest more){a:Act}(ha:E.N a){cs:List cu}(zW:cs≠[]){w:ak}:EO Y Ib (LV (E.fr a::cs)) 0 (z ((base f).at a E.tgt) cs) w:=by
 have hQ:∀g w W,Et w W->LV (E.fr a::cs) g w->LV (E.fr a::cs) g W:=LV.same;have hB:Ib (base f).fn=true:=E.looked;obtain⟨ts,g3⟩:=E.hop;have hn:bK Y E.tgt=true:=by
  show(match ops[i]? with|some o=>aN Y o.op|none=>F)=F;rw[E.ho];exact E.plain
 refine aB hQ hB hn λτ d=>?_;refine aJ (o:=E.o) E.ho (E.want a ha) (by show bw≠.early;decide) g3 fu (by kernel_rfl) (by kernel_rfl) ⟨Ep _ _,w,Di,?_⟩;have em:(#[]:Array Operand).map a.eval=#[]:=by simp
 rw[em];exact wK (cs:=E.fr a::cs) (Ep _ _) w
def LawIn.back (E:LawIn f ops i rest more){a:Act}(ha:E.N a):jZ (Eu.Left Y f λv _=>v=.bool F) (E.fr a::[bad]):=by
 have hQ:∀g w W,Et w W->Eu.Left Y f (λv _=>v=.bool F) g w->Eu.Left Y f (λv _=>v=.bool F) g W:=Eu.Left.same;have hB:Ib (base f).fn=true:=E.looked;refine wZ hQ λa' todo w' hv a7 hpl=>?_;refine sv hQ (by show Ib 6=F;decide) hpl λτ dd=>?_;refine goes_leave1 (b:=base 6) (b₀:=base f) (a₀:=a) (ops:=ops) (i:=i) (rest:=rest) (k:=.code .ret::more) rfl a7 fu rfl ⟨Ep _ _,w',Di,?_⟩
 rw[hv];have e1:(ops[i]?.bind (·.dst))=I E.d:=by rw[E.ho];exact E.PY
 rw[e1];obtain⟨a2,hp,a8,a6⟩:=E.pure a ha;refine sC hQ hB (by show bw≠.early;decide) hp ?_;refine aB hQ hB rfl λτ dd=>?_;rw[stepG_region_end];simp only[goes_go];refine⟨Ep _ _,w',Di,?_⟩;refine aB hQ hB rfl λτ dd=>?_;rw[stepG_ret'];simp only[goes_go];refine⟨Ep _ _,w',Di,.fin ?_⟩;refine⟨w',.bool F,_,⟨rfl,rfl,rfl⟩,rfl,rfl,rfl,rfl,a8,rfl,E.fn,E.hf,?_⟩;have:=ek E.hres a2.tmps Y w'
 rw[a6] at this;exact this
noncomputable def LawIn.RG (E:LawIn f ops i rest more):L3 f where
 fn:=E.fn
 t:=E.t
 hf:=E.hf
 hres:=E.hres
 looked:=E.looked
 fr:=E.fr
 N:=E.N
 back _ h:=E.back h
variable {K:Nat->Bool} {k:Nat->Nat->Bool} {W:ak} {args:Array bc}
def sD (E:L3 f){n:Nat}(hn:E.fn.ntmps=n)(tg:Act->List fq)(aA:∀a c t,tg a≠.code c::t)(hE:∀a,E.N a->∀w,EO Y Ib (LV (E.fr a::[bad])) 0 (z ((base f).at a (tg a)) [bad]) w){C:Code}(a6:E.fn.body=I C)(hput:(f != 6&&I7 f)=F)(aB:Ie f=F)(a7:codeOk DU Ie ck F C=F)(aC:∀S,KR S K k W)(a8:∀S,D8 S (EK λb=>K b=F) args args)
  (zK:∀τ d,dA DU tg C (λa _=>E.N a) ⟨args++u (n-args.size) undef,[]⟩ (on (bG K k W) τ d)) :
  EO Y Ib (I1 E) 0 (z (bk Y f args .normal) [bad]) (bG K k W):=by
 have hQ:∀g w W,Et w W->I1 E g w->I1 E g W:=λg w W s ⟨a,h1,h3⟩=>⟨a,h1,LV.same g w W s h3⟩;rw[enter_at _ E.hf a6,hn];have zR:Er DU Ie Dj ck (EK λb=>K b=F) ((base f).at ⟨args++u (n-args.size) undef,[]⟩ [.code C]) ((base f).at ⟨args++u (n-args.size) undef,[]⟩ [.code C]) :=
  ⟨rfl,(a8 _).append (.replicate (.undef _ _) _),.cons (.code a7) .nil,.nil,.run,rfl,⟨(by show bw≠.early;decide),aB⟩,.none⟩
 refine(en (H:=Dj) fZ).PX (b:=base f) (a:=⟨args++u (n-args.size) undef,[]⟩) (tgt:=tg) (c:=C) (k:=[]) (C:=bad) (cs:=[]) (Q:=I1 E) (w:=bG K k W) (K0:=λb=>K b=F) zR (λ_ _=>AU _) (AU _) (λb _ hb=>by cases hb) (λb hb=>by cases hb) (λb hb _=>L4 (aC _) b hb)
  (λa c t h=>aA a c t (by simpa using h)) (.inr ⟨_,_,Sq.put E.hf hput,rfl⟩) hQ (N:=λa _=>E.N a) zK (λa' w' hn=>?_)
 rw[B6];exact(hE a' hn _).mono λg w h=>⟨a',hn,h⟩
def qw (E:L3 f){n:Nat}(hn:E.fn.ntmps=n)(tg:Act->List fq)(aB:∀a c t,tg a≠.code c::t)(hE:∀a,E.N a->∀w,EO Y Ib (LV (E.fr a::[bad])) 0 (z ((base f).at a (tg a)) [bad]) w){C:Code}(a8:E.fn.body=I C)(hput:(f != 6&&I7 f)=F)(aC:Ie f=F)(hsm:Ku f=F)(aA:codeOk DU Ie ck F C=F)(a7:∀S,KR S K k W)(a6:∀S,D8 S (EK λb=>K b=F) args args)
  (zK:∀τ d,dA DU tg C (λa _=>E.N a) ⟨args++u (n-args.size) undef,[]⟩ (on (bG K k W) τ d)) :
  ∃M last o w' t',runNT Y (M+1) (solo (z (bk Y f args .normal) []) W) #[]=(.ended o w',t')/\runN Y M (solo (z (bk Y f args .normal) []) W)=.next last/\step Y last=.ended o w' /\
   cr Y (λv w'=>v=.bool F/\(w'.os=W.os/\w'.output=W.output)/\W.heap.size<=w'.heap.size/\∀B,B<W.heap.size->w'.heap[B]?=W.heap[B]?) last o w' t' :=
 xa E (A:=z (bk Y f args .normal) []) (W:=W) (x:=⟨z (bk Y f args .normal) [bad],bG K k W,Hid.nb,EK λb=>K b=F,[]⟩)
  ⟨⟨E6 (P:=PP) (M8 _) (.inl hsm) (a6 _) .normal (by decide),.base,⟨rfl,rfl⟩,⟨rfl,rfl⟩,⟨rfl,rfl⟩⟩,nV rfl (λ_=>rfl) (a7 _),rfl,λ_ _ _ h=>h.elim,λB hB=>⟨hB,rfl⟩,λb B hb _=>by
   obtain⟨hk,rfl⟩:=hb;obtain⟨C,t,f,h1,_⟩:=a7 (SP Ku Hid.nb) b hk
   exact .inr (sB hk h1)⟩ (sD E hn tg aB hE a8 hput aC aA a7 a6 zK) rfl λ_=>rfl
def jb (E:LawIn f ops i rest more){C:Code}(a6:E.fn.body=I C)(hput:(f != 6&&I7 f)=F)(aA:Ie f=F)(hsm:Ku f=F)(a7:codeOk DU Ie ck F C=F)(aB:∀S,KR S K k W)(a8:∀S,D8 S (EK λb=>K b=F) args args)
  (zK:∀τ d,aZ DU E.tgt C (λa _=>E.N a) ⟨args++u (E.n-args.size) undef,[]⟩ (on (bG K k W) τ d)) :
  ∃M last o w' t',runNT Y (M+1) (solo (z (bk Y f args .normal) []) W) #[]=(.ended o w',t')/\runN Y M (solo (z (bk Y f args .normal) []) W)=.next last/\step Y last=.ended o w' /\
   cr Y (λv w'=>v=.bool F/\(w'.os=W.os/\w'.output=W.output)/\W.heap.size<=w'.heap.size/\∀B,B<W.heap.size->w'.heap[B]?=W.heap[B]?) last o w' t' :=
 qw E.RG E.hn (λ_=>E.tgt) (λ_ c t h=>by simp[LawIn.tgt] at h) (λ_ h _=>E.go h (Ep _ _)) a6 hput aA hsm a7 aB a8 zK
variable {PO:Array fW} {i2:Nat} {Pp:List Nat} {more2:List fq}
end
end Go.Sq
namespace Go.Eu
open Classical
noncomputable def KS (W:ak)(b:Nat):Bool:=decide (∃C t f,W.heap[b]?=I (.cells C t f))
def Il (W:ak)(v:bc):Prop:=∀S:Fy,DZ S (EK λb=>KS W b=F) v v
noncomputable def Nb (W:ak)(b i:Nat):Bool:=decide (∀C t f v,W.heap[b]?=I (.cells C t f)->C[i]?=I v->Il W v)
noncomputable abbrev Hn (W:ak):World:=bG (KS W) (Nb W) W
def j7 (W:ak)(S:Fy):KR S (KS W) (Nb W) W:=λb hb=>by
 obtain⟨C,t,f,h⟩:=B3 hb;exact⟨C,t,f,h,λi v hk hv=>B3 hk C t f v h hv S⟩
def IW {W:ak}{a:eb}{v:bc}(h:W.cell? a=I v):a.spot=bb/\∃C t f,W.heap[a.block]?=I (.cells C t f)/\C[a.off]?=I v:=by
 unfold World.cell? at h;split at h
 .rename_i C t f hC;cases hs:a.spot with
  |none=>rw[hs] at h;exact⟨rfl,_,_,_,hC,h⟩
  |some s=>rw[hs] at h;cases h
 .cases h
def cd {W:ak}{b o:Nat}{v:bc}(h:W.cell? ⟨b,o,bb⟩=I v)(hv:Il W v):(Hn W).cell? ⟨b,o,bb⟩=I v:=by
 unfold Hn;rw[nU λ_=>?_]
 .exact h
 .obtain⟨_,C,t,f,h1,h2⟩:=IW h;refine BE λC' t' f' v' a6 a7=>?_;rw[h1] at a6;cases a6;rw[h2] at a7;cases a7;exact hv
def fL {W:ak}(k:IntKind)(n:Int):Il W (.int k n):=λ_=>.int _ _
def bU {W:ak}{A:Option eb}{len cap:Nat}(hl:len<=cap)(h:∀a,A=I a->0<cap->∃v,W.cell? a=I v):Il W (J A len cap):=λS=>by
 cases A with
 |none=>exact .GL _ _
 |some a =>
  obtain e|e:=Bs cap
  .subst e;obtain rfl:len=0:=by omega
   exact .Fb (.inl rfl)
  .obtain⟨v,hv⟩:=h _ rfl e;obtain⟨_,C,t,f,h1,_⟩:=IW hv;exact .slice _ _ _ _ ⟨BE ⟨C,t,f,h1⟩,rfl⟩
def iT {b o n:Nat}:(⟨b,o,bb⟩:eb).add n=⟨b,o+n,bb⟩:=by
 unfold Addr.add;split
 .rename_i h;have h0:n=0:=h;subst h0;rfl
 .rfl
def add_zero (a:eb):a.add 0=a:=by unfold Addr.add;rfl
end Go.Eu
namespace Go.Sq
open Go.RowKit Go.Eu Go.ChangeShapes Go.Deep
def lw {W:ak}{a:eb}{l:List Int}(h:∀i,i<l.length->W.cell? (a.add i)=I (O R (l.getD i 0))):RI (Hn W) W.heap.size (I a) l:=λzU=>by
 have h0:=h 0 (List.length_pos_iff.2 zU);rw[add_zero] at h0;obtain⟨hs,C,t,f,h1,_⟩:=IW h0;obtain⟨b,o,s⟩:=a;dsimp only at hs h1;subst hs;refine⟨b,o,rfl,(Az.1 h1).1,λi x hx=>?_⟩;have hi:=(AV.1 hx).1;have:=h i hi;rw[iT,Cq,hx] at this;exact cd this (fL _ _)
def JU {α:Type}{P:Nat->α->Prop}:∀n,(∀i,i<n->∃x,P i x)->∃l:List α,l.length=n/\∀i x,l[i]?=I x->P i x
 |0,_=>⟨[],rfl,λi x h=>by simp at h⟩
 |n+1,h=>by
  obtain⟨l,h1,h2⟩:=JU n λi hi=>h i (by omega);obtain⟨x,hx⟩:=h n (by omega);refine⟨l++[x],by simp[h1],λi y hy=>?_⟩;by_cases hi:i<n
  .rw[Bl (by omega)] at hy;exact h2 i y hy
  .have:=(AV.1 hy).1;rw[BH,List.length_singleton,h1] at this;obtain rfl:i=n:=by omega
   rw[Bo (by omega),h1,Nat.sub_self] at hy;cases hy;exact hx
variable {P:Program} {H:Type} {enc:ea×bc->H} {W:ak} {held:Bool}
def JG {t e:ea}{fuel:Nat}{cs:List bc}{x:fA H×List df}(ht:P.underlying t=I (.slice e))(he:P.underlying e=I (.int R))(hc:P.cellsOf e=1)
  (h:br enc P W 0 (λ_=>F) held fuel t cs=I x):∃A len cap l,cs=[J A len cap]/\l.length=len/\len<=maxLen/\Il W (J A len cap)/\RI (Hn W) W.heap.size A l:=by
 obtain⟨rfl,_⟩|⟨a,len,cap,zs,rfl,_,h1,h2,h3,_,h4,_⟩:=open_ints ht he hc h
 .exact⟨bb,0,0,[],rfl,rfl,AU _,bU (AA _) (λ_ e=>by cases e),.nil⟩
 .simp only[if_true] at h3;refine⟨I a,len,cap,zs.take len,rfl,by simp;omega,by omega,bU h1 λa' e hp=>?_,lw λi hi=>?_⟩
  .cases e
   have:=h4 0 (by omega);rw[add_zero] at this;exact⟨_,this⟩
  .have hi:i<len:=by simp at hi;omega
   rw[h4 i (by omega),Cq,Cq,CL,AF hi]
def NA {t e q:ea}{fuel:Nat}{cs:List bc}{x:fA H×List df}(ht:P.underlying t=I (.slice e))(he:P.underlying e=I (.slice q))(hq:P.underlying q=I (.int R))(ce:P.cellsOf e=1)(cq:P.cellsOf q=1)
  (h:br enc P W 0 (λ_=>F) held fuel t cs=I x):∃A len cap ls,cs=[J A len cap]/\ls.length=len/\len<=maxLen/\(∀y∈ls,y.length<=maxLen)/\Il W (J A len cap)/\ER (Hn W) W.heap.size A ls:=by
 obtain⟨rfl,_⟩|⟨a,len,cap,A,L,C,Z,rfl,_,h1,h2,_,h3⟩:=open_int_rows ht he hq ce cq h
 .exact⟨bb,0,0,[],rfl,rfl,AU _,by simp,bU (AA _) (λ_ e=>by cases e),λh=>AI rfl h⟩
 .have a6 : ∀ r, r < cap -> Il W (.slice (A r) (L r) (C r)) := fun r hr => by
   obtain⟨_,g1,g2,_,_,_,g5⟩:=h3 r hr;refine bU g1 λa' e hp=>?_;have:=(g5 a' e).2 0 hp;rw[add_zero] at this;exact⟨_,this⟩
  refine⟨I a,len,cap,(List.range len).map λr=>(Z r).take (L r),rfl,by simp,by omega,λy hy=>?_,bU h1 λa' e hp=>?_,λzU=>?_⟩
  .obtain⟨r,hr,rfl⟩:=Bf.1 hy;have hr:=Bu.1 hr;obtain⟨_,g1,g2,_⟩:=h3 r (by omega);simp;omega
  .cases e
   have:=(h3 0 (by omega)).1;rw[add_zero] at this;exact⟨_,this⟩
  .have zl : 0 < len := by
    obtain e|e:=Bs len
    .subst e;exact AI rfl zU
    .exact e
   obtain⟨c0,_⟩:=h3 0 (by omega);rw[add_zero] at c0;obtain⟨hs,C',t',f',c1,_⟩:=IW c0;obtain⟨b,o,s⟩:=a;dsimp only at hs c1;subst hs;refine⟨b,o,rfl,(Az.1 c1).1,λi l hl=>?_⟩;have hi:i<len:=by
    have:=(AV.1 hl).1;simpa using this
   rw[BK,Cn hi] at hl;cases hl;obtain⟨g0,g1,g2,g3,_,g4,g5⟩:=h3 i (by omega);rw[iT] at g0;have el:((Z i).take (L i)).length=L i:=by simp;omega
   refine⟨A i,C i,by rw[el];exact cd g0 (a6 i (by omega)),?_⟩;cases hA:A i with
   |none =>
    have:L i=0:=by have:=g4 hA;omega
    dsimp only;rw[this,List.take_zero];exact .nil
   |some a' =>
    refine lw λj hj=>?_;dsimp only at hj ⊢;rw[el] at hj;rw[(g5 a' hA).2 j (by omega),Cq,Cq,CL,AF hj]
open Go.Proofs
def Pe:Tryz.prog.cellsOf 25=2/\Tryz.prog.cellsOf 22=1/\Tryz.prog.cellsOf 23=1/\Tryz.prog.cellsOf 3=1/\Tryz.prog.cellsOf 49=4/\Tryz.prog.cellsOf 26=1:=⟨by kernel_rfl,by kernel_rfl,by kernel_rfl,by kernel_rfl,by kernel_rfl,by kernel_rfl⟩
variable {H:Type} {enc:ea×bc->H} {W:ak} {held:Bool}
def ME {a:eb}{cs:List bc}(h:W.cells? 0 a 4=I cs):∃c0 c1 c2 c3,cs=[c0,c1,c2,c3]/\W.cell? a=I c0/\W.cell? (a.add 1)=I c1/\W.cell? (a.add 2)=I c2/\W.cell? (a.add 3)=I c3:=by
 unfold World.cells? at h;rw[AF (AU _)] at h;simp only[List.range,List.range.loop,List.mapM_cons,List.mapM_nil,Option.bind_eq_bind,Option.pure_def,Option.bind_eq_some_iff,Option.some.injEq] at h;obtain⟨c0,h0,_,⟨c1,h1,_,⟨c2,h2,_,⟨c3,h3,_,rfl,rfl⟩,rfl⟩,rfl⟩,rfl⟩:=h;rw[add_zero] at h0;exact⟨c0,c1,c2,c3,rfl,h0,h1,h2,h3⟩
def nY {fuel b o:Nat}{cs:List bc}{x:fA H×List df}(hc:W.cells? 0 ⟨b,o,bb⟩ 4=I cs)(h:br enc Y W 0 (λ_=>F) held fuel 49 cs=I x) :
  ∃h:EG,Ml (Hn W) W.heap.size b o h/\h.off.length<=maxLen:=by
 obtain⟨c0,c1,c2,c3,rfl,h0,h1,h2,h3⟩:=ME hc;obtain⟨a7,a6,a8,e3,aA,_⟩:=Pe;obtain⟨xs,n,_,_,_,_,hf⟩:=DataW.trod_struct Tryz.underlying49 h;have f0:br enc Y W 0 (λ_=>F) held n 3 (([c0,c1,c2,c3].drop 0).take (Tryz.prog.cellsOf 3))=xs[0]?:=hf 0 _ rfl;have f1:br enc Y W 0 (λ_=>F) held n 3 (([c0,c1,c2,c3].drop 1).take (Tryz.prog.cellsOf 3))=xs[1]?:=hf 1 _ rfl
 have f2:br enc Y W 0 (λ_=>F) held n 3 (([c0,c1,c2,c3].drop 2).take (Tryz.prog.cellsOf 3))=xs[2]?:=hf 2 _ rfl;have f3:br enc Y W 0 (λ_=>F) held n 22 (([c0,c1,c2,c3].drop 3).take (Tryz.prog.cellsOf 22))=xs[3]?:=hf 3 _ rfl;have el:xs.length=4:=‹xs.length=_›;obtain⟨x0,x1,x2,x3,rfl⟩:∃x0 x1 x2 x3,xs=[x0,x1,x2,x3]:=by
  match xs,el with
  |[x0,x1,x2,x3],_=>exact⟨_,_,_,_,rfl⟩
 rw[e3] at f0 f1 f2;rw[a6] at f3;obtain⟨k0,q0,_⟩:=cw bq f0;obtain⟨k1,q1,_⟩:=cw bq f1;obtain⟨k2,q2,_⟩:=cw bq f2;obtain⟨A,len,cap,l,q3,hl,hm,hk,hr⟩:=JG dn bq e3 f3;cases q0;cases q1;cases q2;cases q3;rw[iT] at h1 h2 h3;subst hl;exact⟨⟨k0,k1,k2,l⟩,⟨cd h0 (fL _ _),cd h1 (fL _ _),cd h2 (fL _ _),A,cap,cd h3 hk,hr⟩,hm⟩
def Lf {fuel:Nat}{cs:List bc}{x:fA H×List df}(h:br enc Y W 0 (λ_=>F) held fuel 23 cs=I x) :
  ∃(A:Option eb) (len cap:Nat) (hs:List EG),cs=[J A len cap]/\hs.length=len/\len<=maxLen/\(∀y∈hs,y.off.length<=maxLen)/\Il W (J A len cap)/\EN (Hn W) W.heap.size A hs:=by
 obtain⟨a7,a8,aA,e3,a6,_⟩:=Pe;obtain⟨rfl,_⟩|⟨a,len,cap,m,n,D,Pl,rfl,_,h1,h2,h3,_,h4⟩:=open_slice Tryz.underlying23 h
 .exact⟨bb,0,0,[],rfl,rfl,AU _,by simp,bU (AA _) (λ_ e=>by cases e),λh=>AI rfl h⟩
 .simp only[if_true] at h3;subst h3;rw[a6] at h4;have hk:Il W (.slice (I a) len m):=bU h1 λa' e hp=>by
   cases e
   obtain⟨cs',g1,_⟩:=h4 0 hp;obtain⟨c0,c1,c2,c3,_,g2,_⟩:=ME g1;rw[Nat.zero_mul,add_zero] at g2;exact⟨_,g2⟩
  obtain e|e:=Bs len
  .subst e;exact⟨I a,0,m,[],rfl,rfl,AU _,by simp,hk,λh=>AI rfl h⟩
  .obtain⟨cs',g1,_⟩:=h4 0 (by omega);obtain⟨c0,c1,c2,c3,_,g2,_⟩:=ME g1;rw[Nat.zero_mul,add_zero] at g2;obtain⟨hs,C',t',f',c1,_⟩:=IW g2;obtain⟨b,o,s⟩:=a;dsimp only at hs c1;subst hs;obtain⟨l,hl,hat⟩:=JU (P:=λi h=>Ml (Hn W) W.heap.size b (o+i*4) h/\h.off.length<=maxLen) len λi hi=>by
    obtain⟨cs',g1,g2⟩:=h4 i (by omega);rw[iT] at g1;exact nY g1 g2
   refine⟨_,len,m,l,rfl,hl,by omega,λy hy=>?_,hk,λ_=>⟨b,o,rfl,(Az.1 c1).1,λi h hi=>(hat i h hi).1⟩⟩;obtain⟨i,hi,rfl⟩:=Cc.1 hy;exact(hat i _ (AB hi)).2
def ND {base:Nat}{r:Reach}{v:bc}{d:fA H}{p:List df}(hv:er Y W r base 25 v)(h:DataW.Trod enc Y W 0 (λ_=>F) held 25 v d p) :
  ∃nA hA nc hc c,v=Ef nA hA c nc hc/\Il W v/\RI (Hn W) W.heap.size nA c.DW/\EN (Hn W) W.heap.size hA c.DV/\c.DW.length<=maxLen/\c.DV.length<=maxLen/\∀y∈c.DV,y.off.length<=maxLen:=by
 obtain⟨a7,a8,aA,e3,aH,_⟩:=Pe;unfold er at hv;rw[dr] at hv;obtain⟨cs,rfl,zx,_⟩:=hv;obtain⟨fuel,h⟩:=h;obtain⟨y0,y1,n,_,hl,h0,h1⟩:=trod_struct2 dr h;simp only[a8,aA,List.drop_zero] at h0 h1;have zW:∃a b,cs=#[a,b]:=by
  rw[a7] at zx;obtain⟨l⟩:=cs
  match l,zx with
  |[a,b],_=>exact⟨a,b,rfl⟩
 obtain⟨a,b,rfl⟩:=zW;obtain⟨A,len,cap,l,q,aB,aC,aD,zj⟩:=JG dn bq e3 h0;obtain⟨A2,aG,a6,l2,q2,zC,aF,hx,zo,zz⟩:=Lf h1;simp[Value.cells] at q q2;subst q q2 aB zC
 exact⟨A,A2,cap,a6,⟨l,l2⟩,rfl,λS=>.agg rfl λi v V h1 h2=>by
  rw[h1] at h2;cases h2
  match i,h1 with
  |0,h1=>cases h1;exact aD S
  |1,h1=>cases h1;exact zo S,zj,zz,aC,aF,hx⟩
open Go.Co Go.Conc Go.ConcN
def Ex {a:Act}{v:bc}{d:Nat}(h:d<a.tmps.size):(a.put (I d) v).tmps.getD d undef=v:=by
 show(a.tmps.setIfInBounds d v).getD d undef=v;simp[Array.getD,h]
def nu {a:Act}{v:bc}{d:Nat}:(a.put (I d) v).tmps.size=a.tmps.size:=Array.size_setIfInBounds
noncomputable def Aq:LawIn 3 Jz 0 [1] [.code lV] where
 fn:=Tryz.f3
 o:=Jz.getD 0 default
 d:=38
 t:=10
 n:=180
 N:=N4
 hf:=fx
 ho:=by kernel_rfl
 PY:=by kernel_rfl
 hop:=⟨#[],by kernel_rfl⟩
 plain:=by kernel_rfl
 hres:=by kernel_rfl
 looked:=by decide
 hn:=fc
 want a h:=bt (by kernel_rfl)
 KC a h:=h.2
 pure a h:=by
  obtain⟨h1,h2⟩:=h;have g1:(Jz.getD 1 default).guard=none:=by kernel_rfl
  have o1:(Jz.getD 1 default).op=.assign (.tmp 38):=by kernel_rfl
  have d1:(Jz.getD 1 default).dst=I 10:=by kernel_rfl
  have s1:(a.put (I 38) (.bool F)).tmps.size=180:=by rw[nu];exact h1
  refine⟨(a.put (I 38) (.bool F)).put (I 10) (.bool F),.cons (o:=Jz.getD 1 default) (v:=.bool F) (by kernel_rfl) (bt g1) (by kernel_rfl) (λw=>?_) ?_,h2,Ex (by rw[s1];decide)⟩
  .unfold execOp;rw[o1];have e1:(a.put (I 38) (.bool F)).eval (.tmp 38)=.bool true:=Ex (by rw[h1];decide);simp[e1]
  .rw[d1];exact .nil _
noncomputable def Ar:LawIn 3 JX 0 [1] [] where
 fn:=Tryz.f3
 o:=JX.getD 0 default
 d:=179
 t:=10
 n:=180
 N:=N4
 hf:=fx
 ho:=by kernel_rfl
 PY:=by kernel_rfl
 hop:=⟨#[],by kernel_rfl⟩
 plain:=by kernel_rfl
 hres:=by kernel_rfl
 looked:=by decide
 hn:=fc
 want a h:=bt (by kernel_rfl)
 KC a h:=h.2
 pure a h:=by
  obtain⟨h1,h2⟩:=h;have g1:(JX.getD 1 default).guard=none:=by kernel_rfl
  have o1:(JX.getD 1 default).op=.assign (.tmp 179):=by kernel_rfl
  have d1:(JX.getD 1 default).dst=I 10:=by kernel_rfl
  have s1:(a.put (I 179) (.bool F)).tmps.size=180:=by rw[nu];exact h1
  refine⟨(a.put (I 179) (.bool F)).put (I 10) (.bool F),.cons (o:=JX.getD 1 default) (v:=.bool F) (by kernel_rfl) (bt g1) (by kernel_rfl) (λw=>?_) ?_,h2,Ex (by rw[s1];decide)⟩
  .unfold execOp;rw[o1];have e1:(a.put (I 179) (.bool F)).eval (.tmp 179)=.bool true:=Ex (by rw[h1];decide);simp[e1]
  .rw[d1];exact .nil _
def nv:codeOk DU Ie ck F eK=true:=by kernel_rfl
def cV {v0 v1 v2 v3 v4:bc}{X:Array bc}:∀i,i<5->((#[v0,v1,v2,v3,v4]:Array bc)++X)[i]?.getD undef=(#[v0,v1,v2,v3,v4]:Array bc)[i]?.getD undef:=λi hi=>by
 rw[C5 (by simpa using hi)]
def OV {nA hA gA A:Option eb}{nc hc gc cap:Nat}{c:D9}{ls:List (List Int)}{herder night:Int}{l:List Int}{W:ak}(k0:Il W (Ef nA hA c nc hc))(k1:Il W (J gA ls.length gc))(k4:Il W (J A l.length cap))
  (hn:RI (Hn W) W.heap.size nA c.DW) (hh:EN (Hn W) W.heap.size hA c.DV) (hg:ER (Hn W) W.heap.size gA ls) (hr:RI (Hn W) W.heap.size A l) (a7:c.DW.length<=maxLen) (zC:c.DV.length<=maxLen) (a8:∀h∈c.DV,h.off.length<=maxLen) (zr:ls.length<=maxLen) (aA:∀x∈ls,x.length<=maxLen) :
  ∃M last o w' t',runNT Y (M+1) (solo (z (bk Y 3 #[Ef nA hA c nc hc,J gA ls.length gc,O R herder,O R night,J A l.length cap] .normal) []) W) #[]=(.ended o w',t')/\runN Y M (solo (z (bk Y 3 #[Ef nA hA c nc hc,J gA ls.length gc,O R herder,O R night,J A l.length cap] .normal) []) W)=.next last/\step Y last=.ended o w' /\
   cr Y (λv w'=>v=.bool F/\(w'.os=W.os/\w'.output=W.output)/\W.heap.size<=w'.heap.size/\∀B,B<W.heap.size->w'.heap[B]?=W.heap[B]?) last o w' t':=by
 have a6:∀S,D8 S (EK λb=>KS W b=F) #[Ef nA hA c nc hc,J gA ls.length gc,O R herder,O R night,J A l.length cap] #[Ef nA hA c nc hc,J gA ls.length gc,O R herder,O R night,J A l.length cap]:=λS=>⟨rfl,λi v V h1 h2=>by
  rw[h1] at h2;cases h2
  match i,h1 with
  |0,h1=>cases h1;exact k0 S
  |1,h1=>cases h1;exact k1 S
  |2,h1=>cases h1;exact .int _ _
  |3,h1=>cases h1;exact .int _ _
  |4,h1=>cases h1;exact k4 S⟩
 have em:maxLen=9223372036854775807:=by unfold maxLen;omega
 have hz:∀τ d,(on (Hn W) τ d).heap.size=W.heap.size:=λτ d=>nT;have eT:(#[Ef nA hA c nc hc,J gA ls.length gc,O R herder,O R night,J A l.length cap]:Array bc)++u (180-5) undef=T 180 λi=>((#[Ef nA hA c nc hc,J gA ls.length gc,O R herder,O R night,J A l.length cap]:Array bc)++u (180-5) undef)[i]?.getD undef:=yO (by simp)
 cases hs:GC c&&JH ls with
 |false =>
  refine jb (K:=KS W) (k:=Nb W) Aq (C:=eK) (by kernel_rfl) (by decide) (by decide) (by decide) nv (j7 W) a6 λτ d=>?_;show aZ DU _ _ _ ⟨_++u (180-5) undef,[]⟩ _;rw[eT];exact yQ (nA:=nA) (hA:=hA) (gA:=gA) (nc:=nc) (hc:=hc) (gc:=gc) (c:=c) (ls:=ls) (cV 0 (by omega)) (cV 1 (by omega)) (by rw[hz];exact hh) (by rw[hz];exact hg) (AH a7 (BR em)) (AH zC (BR em)) (λh hh=>AH (a8 h hh) (BR em)) (AH zr (BR em)) (λx hx=>AH (aA x hx) (BR em)) hs
 |true =>
  refine jb (K:=KS W) (k:=Nb W) Ar (C:=eK) (by kernel_rfl) (by decide) (by decide) (by decide) nv (j7 W) a6 λτ d=>?_;show aZ DU _ _ _ ⟨_++u (180-5) undef,[]⟩ _;rw[eT];exact yR (nA:=nA) (hA:=hA) (gA:=gA) (A:=A) (nc:=nc) (hc:=hc) (gc:=gc) (cap:=cap) (c:=c) (ls:=ls) (herder:=herder) (night:=night) (l:=l) (cV 0 (by omega)) (cV 1 (by omega)) (cV 2 (by omega)) (cV 3 (by omega)) (cV 4 (by omega)) (by rw[hz];exact hn) (by rw[hz];exact hh) (by rw[hz];exact hg) (by rw[hz];exact hr) hs
end Go.Sq
