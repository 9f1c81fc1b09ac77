/- Parts of the proof. -/
import Derived.Test.YtghipmneleifpaaGreatP26
import Derived.Test.YtghipmneleifpaaGreatP00
import Derived.Test.YtghipmneleifpaaGreatP12
import Derived.Test.YtghipmneleifpaaGreatP17
import Derived.Test.YtghipmneleifpaaGreatP18
import Derived.Test.YtghipmneleifpaaGreatP15
import Derived.Test.YtghipmneleifpaaGreatP05
set_option linter.all false
set_option maxHeartbeats 16000000
set_option maxRecDepth 1000000
open Go.Value renaming slice->bb,pointer->bl,int->br
open Go.Proofs.Tryz renaming prog->bc,func45->cU,f6->df,func144->dn,func146->dr,func20->dS,func46->ea,func49->eb,func54->ed
open Option renaming some->bk,none->bq
open Go.IntKind renaming i64->bs
open Go renaming World->bw,Value->bA,Goroutine->bD,FuncId->cf,Frame->cq,TypeId->cu,Addr->ek
open Bool renaming true->bW,false->cr
open Go.Obj renaming cells->cw
open Go.Conc renaming G->cF
open List.range renaming loop->cK
namespace Go.Sq
open Go.Proofs
open Go.RowKit Go.Ct Go.Co Go.Conc
attribute [local go_sem] Oper.semAt_some
noncomputable def wB:Code:=Tryz.f6.body.getD .skip
noncomputable def e1:Array Oper:=EP (aD (af wB))
noncomputable def e2:Array Oper:=EP (aD (af (af wB)))
noncomputable def rF:Code:=af (af wB)
noncomputable def Sk:Code:=af (af (af wB))
def L8 (bn:Nat)(w1:bw)(v:bA)(w':bw):Prop:=∃bo bh:Nat,v=Cj (bk ⟨bn,0,bq⟩) (bk ⟨bh,0,bq⟩) Cl 3 3/\w'.heap[bo]?=bk (cw #[br bs 0] 3 (0,0))/\w'.heap[bh]?=bk (.cells (Gd bo).toArray 28 (0,0))/\w1.heap.size<=w'.heap.size/\∀b,b<w1.heap.size->w'.heap[b]?=w1.heap[b]?
def Nc {bn:Nat}{w:bw}(τ:Tape)(d:Nat):Calls B1 20 #[.slice (bk ⟨bn,0,bq⟩) 3 3] (on w τ d) (λe w'=>∃v,e=.returned v/\L8 bn w v w'):=by
 refine(rp (bk ⟨bn,0,bq⟩) 3 [3,2,4] (on w τ d)).mono ?_;rintro e w' ⟨hA,rfl,_,hg,rfl,h1,h2⟩;exact⟨_,rfl,_,_,rfl,h1,by simpa [Gd] using h2,hg.size,λb hb=>hg.below.block b hb⟩
def Py {bn:Nat}{w:bw}{SB:cf->Bool}(hn:w.heap[bn]?=bk (.cells FB.toArray 3 (0,0))):∀b,b=bn->∃o,w.heap[b]?=bk o/\C5 (SP SB Bn) (CK B1 SB cr) (CX λb=>b=bn) o o:=by
 rintro b rfl;refine⟨_,hn,.cells (Dn λv hv=>?_) λi h1 h2=>⟨h1,h2⟩⟩;simp only[FB,yT,yQ,or_false] at hv;rcases hv with rfl|rfl|rfl<;>exact B6.int _ _
def vm {BB:cf->Bool}(hB:BB 6=bW)(YJ:BB 19=bW)(NQ:Gq BB){Q:bD->bw->Prop}(hQ:∀g w W,Cs w W->Q g w->Q g W){cs:List cq}(hcs:cs≠[]){w:bw}
  (h:∀(bn bo bh cb sb cap nb:Nat) (cur:List bA) (t:cu) (w':bw) (T U:Array bA),Et w' bn bo bh cb sb cap cur t->w'.heap[nb]?=bk (IH 0)->hasB (CN bn bo bh cb sb cap cur t) nb=cr->T.size=19->T.getD 6 undef=.pointer (bk ⟨nb,0,bq⟩) ->
   U.size=95->(∀v∈U.toList,∀(SB:cf->Bool) (H:Hid),Di SB H (λb=>hasB (CN bn bo bh cb sb cap cur t) b=bW) v)->w.heap.size<=w'.heap.size->(∀b,b<w.heap.size->w'.heap[b]?=w.heap[b]?) ->
   C1 bc BB Q 0 (ca PP 45 (GD cb (.func 46) #[] [bl (bk ⟨nb,0,bq⟩)].toArray) ((base 19).at ⟨T,[]⟩ [.inRegion c5 [2],.code x5]) ((base 6).at ⟨U,[]⟩ [.inRegion e1 [2,3,4,5,6,7],.code rF]::cs)) w') :
  C1 bc BB Q 0 (cF (Frame.enter bc 6 #[] .normal) cs) w:=by
 rw[enter_at _ Tryz.func6 rfl];simp only[Tryz.ntmps6,yX,yV,zb,Nat.reduceAdd,Nat.reduceSub,zM,zN,zX,zR,Ab,zV];change C1 bc BB Q 0 (G _ cs) w;refine au hQ hB hcs ?_;refine aB hQ hB hcs ?_;simp only[yX,yV,zb,Nat.reduceAdd,yZ,List.range,cK];refine ag hQ hB hcs rfl rfl λK hK q1 q2 q3=>?_;go_simp;refine hK _ w ?_ _ ⟨rfl,rfl,rfl⟩;refine aA hQ hB hcs ?_;refine au hQ hB hcs ?_;refine aB hQ hB hcs ?_
 simp only[yX,yV,zb,Nat.reduceAdd,yZ,List.range,cK];refine ag hQ hB hcs rfl rfl λK hK q1 q2 q3=>?_;go_simp;refine hK _ (w.alloc _) ?_ _ ⟨rfl,rfl,rfl⟩
 try simp only[ab]
 obtain⟨w1,F0⟩:∃w1,w1=w.alloc (.cells FB.toArray 3):=⟨_,rfl⟩;change C1 bc BB Q 0 _ (w.alloc (.cells FB.toArray 3));rw[<-F0];have L9:=yJ (show w1.heap.size=w.heap.size+1 by rw[F0,aI]);have Sl:=yJ (show ∀b,b<w.heap.size->w1.heap[b]?=w.heap[b]? from λb hb=>by rw[F0,aE,if_neg (by omega)]);have Nd:w1.heap[w.heap.size]?=bk (.cells FB.toArray 3 (0,0)):=by rw[F0,aE,if_pos rfl]
 refine ay hQ hB (by kernel_rfl) λτ d=>?_;refine aF rfl rfl (by decide) rfl dS (by kernel_rfl) (by kernel_rfl) ⟨Cp _ _,w1,Bm,?_⟩
 try walk_nrm
 refine(ee (H:=Bn) NQ).fn (f:=20) (by decide) (by decide) (K0:=λb=>b=w.heap.size) hcs (λ_ _=>zf _) (zf _) (Dn (l:=[.slice (bk ⟨w.heap.size,0,bq⟩) 3 3]) λv hv=>?_) (λb _ hb=>by cases hb) (λb hb=>by cases hb) (λb hb _=>Py Nd b hb) hQ (R:=L8 w.heap.size w1) Nc ?_
 .simp only[yT,yQ,or_false] at hv;subst hv;exact Di.slice (K:=λb=>b=w.heap.size) rfl _ _ _ _
 rintro v w2 ⟨bo,bh,rfl,YK,YL,acE,KC⟩;change C1 bc BB Q 0 _ w2;rw[Frame.finish_at];simp only[zA,zz,zr,zK]
 try walk_nrm
 refine ay hQ hB (by kernel_rfl) λτ d=>?_;refine aF rfl rfl (by decide) rfl Tryz.func19 (by kernel_rfl) (by kernel_rfl) ⟨Cp _ _,w2,Bm,?_⟩
 try walk_nrm
 refine rz YJ NQ hQ (Cp _ _) (bn:=w.heap.size) (bo:=bo) (bh:=bh) ((KC _ (by have:=L9.out;omega)).trans Nd) YK YL λcb sb cap nb cur t w' T hC Ms NP hT h6 hz hold=>?_;refine h w.heap.size bo bh cb sb cap nb cur t w' T _ hC Ms NP hT h6 rfl (λv hv SB H=>?_) (by have:=L9.out;omega) λb hb=>(hold b (by have:=L9.out;omega)).trans ((KC b (by have:=L9.out;omega)).trans (Sl.out b hb))
 have k0:Di SB H (λb=>hasB (CN w.heap.size bo bh cb sb cap cur t) b=bW) (.slice (bk ⟨w.heap.size,0,bq⟩) 3 3):=Di.slice ((C7 _).2 (by simp)) _ _ _ _;have k1:Di SB H (λb=>hasB (CN w.heap.size bo bh cb sb cap cur t) b=bW) (Cj (bk ⟨w.heap.size,0,bq⟩) (bk ⟨bh,0,bq⟩) Cl 3 3):=Di.agg (l:=[.slice (bk ⟨w.heap.size,0,bq⟩) 3 3,.slice (bk ⟨bh,0,bq⟩) 3 3]) λv hv=>by
  simp only[yT,yQ,or_false] at hv;rcases hv with rfl|rfl
  .exact k0
  .exact Di.slice ((C7 _).2 (by simp)) _ _ _ _
 simp only[yT,yQ,or_false,or_self] at hv
 repeat (rcases hv with hv|hv;· subst hv;first|exact B6.bool _|exact k0|exact k1|exact Di.undef)
 subst hv;first|exact B6.bool _|exact k0|exact k1|exact Di.undef
def Xh {T:Array bA}(h:T.size=95):∃(y0 y1 y2 y3 y4 y5 y6 y7 y8 y9 Hl Hm Hn Ho Hp Hq Hr Hs Ht JH JI JJ JK JL JM:bA) (tl:List bA),T=(y0::y1::y2::y3::y4::y5::y6::y7::y8::y9::Hl::Hm::Hn::Ho::Hp::Hq::Hr::Hs::Ht::JH::JI::JJ::JK::JL::JM::tl).toArray/\tl.length=70:=by
 obtain⟨l⟩:=T;have h:l.length=95:=h
 match l,h with
 |y0::y1::y2::y3::y4::y5::y6::y7::y8::y9::Hl::Hm::Hn::Ho::Hp::Hq::Hr::Hs::Ht::JH::JI::JJ::JK::JL::JM::tl,h=>exact⟨y0,y1,y2,y3,y4,y5,y6,y7,y8,y9,Hl,Hm,Hn,Ho,Hp,Hq,Hr,Hs,Ht,JH,JI,JJ,JK,JL,JM,tl,rfl,by simpa using h⟩
def vp {BB:cf->Bool}(hB:BB 6=bW)(YJ:BB 19=bW)(YM:BB 21=bW)(NQ:Gq BB){Q:bD->bw->Prop}(hQ:∀g w W,Cs w W->Q g w->Q g W){cs:List cq}(hcs:cs≠[]){K1:Nat->Prop}{nb:Nat}{w:bw}
  (hn:w.heap[nb]?=bk (IH 1)) {T U:Array bA} (hT:T.size=19) (h6:T.getD 6 undef=.pointer (bk ⟨nb,0,bq⟩)) (hU:U.size=95) (Sm:∀v∈U.toList,∀(SB:cf->Bool) (H:Hid),Di SB H K1 v)
  (h:∀(bn bo bh cb sb cap qb xb kb:Nat) (cur:List bA) (t:cu) (w':bw) (T U:Array bA),Et w' bn bo bh cb sb cap cur t->w'.heap[kb]?=bk (E4 cr λ_=>0)->(∀p∈Eh xb qb cb,w'.heap[p.1]?=bk (.cells p.2.1.toArray p.2.2 (0,0)))->hasB (CN bn bo bh cb sb cap cur t++Eh xb qb cb) kb=cr ->
   T.size=27->T.getD 4 undef=.pointer (bk ⟨qb,0,bq⟩)->T.getD 7 undef=.pointer (bk ⟨kb,0,bq⟩) ->
   U.size=95->U.getD 1 undef=br bs 1->U.getD 2 undef=br bs 0->(∀v∈U.toList,∀(SB:cf->Bool) (H:Hid),Di SB H (λb=>K1 b\/hasB (CN bn bo bh cb sb cap cur t) b=bW) v)->w.heap.size<=w'.heap.size->(∀b,b<w.heap.size->w'.heap[b]?=w.heap[b]?) ->
   C1 bc BB Q 0 (ca PP 45 (GD cb (.func 54) #[] [bl (bk ⟨kb,0,bq⟩),.pointer (bk ⟨xb,0,bq⟩)].toArray) ((base 21).at ⟨T,[]⟩ [.inRegion d6 [2],.code z6]) ((base 6).at ⟨U,[]⟩ [.inRegion e2 [2,3,4,5,6,7],.code Sk]::cs)) w') :
  C1 bc BB Q 0 (back ((base 19).at ⟨T,[]⟩ [.inRegion c5 [2],.code x5]) ((base 6).at ⟨U,[]⟩ [.inRegion e1 [2,3,4,5,6,7],.code rF]::cs)) w:=by
 refine pP YJ NQ hQ hcs hn hT h6 ?_;obtain⟨y0,y1,y2,y3,y4,y5,y6,y7,y8,y9,Hl,Hm,Hn,Ho,Hp,Hq,Hr,Hs,Ht,JH,JI,JJ,JK,JL,JM,tl,rfl,MX⟩:=Xh hU;have e15:(e1[2]?.bind (·.dst))=bk 15:=rfl;rw[e15]
 try walk_nrm
 have ee1:e1=EP (aD (af wB)):=rfl;simp only[wB,df,zc,af,aD,EP] at ee1;rw[ee1];refine ag hQ hB hcs rfl rfl λK hK q1 q2 q3=>?_;go_simp;refine hK _ w ?_ _ ⟨rfl,rfl,rfl⟩
 try walk_nrm
 try simp only[ab]
 refine ag hQ hB hcs rfl rfl λK hK q1 q2 q3=>?_;go_simp;refine hK _ w ?_ _ ⟨rfl,rfl,rfl⟩
 try walk_nrm
 try simp only[ab]
 refine ag hQ hB hcs rfl rfl λK hK q1 q2 q3=>?_;go_simp;refine hK _ w ?_ _ ⟨rfl,rfl,rfl⟩
 try walk_nrm
 try simp only[ab]
 refine ag hQ hB hcs rfl rfl λK hK q1 q2 q3=>?_;go_simp;refine hK _ w ?_ _ ⟨rfl,rfl,rfl⟩
 try walk_nrm
 try simp only[ab]
 refine ag hQ hB hcs rfl rfl λK hK q1 q2 q3=>?_;go_simp;refine hK _ w ?_ _ ⟨rfl,rfl,rfl⟩
 try walk_nrm
 try simp only[ab]
 refine aA hQ hB hcs ?_;have ez2:rF=af (af wB):=rfl;simp only[wB,df,zc,af] at ez2;rw[ez2];refine au hQ hB hcs ?_;refine aB hQ hB hcs ?_;simp only[yX,yV,zb,Nat.reduceAdd,yZ,List.range,cK];refine ag hQ hB hcs rfl rfl λK hK q1 q2 q3=>?_;go_simp;refine hK _ (w.alloc _) ?_ _ ⟨rfl,rfl,rfl⟩
 try walk_nrm
 try simp only[ab]
 obtain⟨w1,F0⟩:∃w1,w1=w.alloc (.cells FB.toArray 3):=⟨_,rfl⟩;change C1 bc BB Q 0 _ (w.alloc (.cells FB.toArray 3));rw[<-F0];have L9:=yJ (show w1.heap.size=w.heap.size+1 by rw[F0,aI]);have Sl:=yJ (show ∀b,b<w.heap.size->w1.heap[b]?=w.heap[b]? from λb hb=>by rw[F0,aE,if_neg (by omega)]);have Nd:w1.heap[w.heap.size]?=bk (.cells FB.toArray 3 (0,0)):=by rw[F0,aE,if_pos rfl]
 refine ay hQ hB (by kernel_rfl) λτ d=>?_;refine aF rfl rfl (by decide) rfl dS (by kernel_rfl) (by kernel_rfl) ⟨Cp _ _,w1,Bm,?_⟩
 try walk_nrm
 refine(ee (H:=Bn) NQ).fn (f:=20) (by decide) (by decide) (K0:=λb=>b=w.heap.size) hcs (λ_ _=>zf _) (zf _) (Dn (l:=[.slice (bk ⟨w.heap.size,0,bq⟩) 3 3]) λv hv=>?_) (λb _ hb=>by cases hb) (λb hb=>by cases hb) (λb hb _=>Py Nd b hb) hQ (R:=L8 w.heap.size w1) Nc ?_
 .simp only[yT,yQ,or_false] at hv;subst hv;exact Di.slice (K:=λb=>b=w.heap.size) rfl _ _ _ _
 rintro v w2 ⟨bo,bh,rfl,YK,YL,acE,KC⟩;change C1 bc BB Q 0 _ w2;rw[Frame.finish_at];simp only[zA,zz,zr,zK]
 try walk_nrm
 refine ay hQ hB (by kernel_rfl) λτ d=>?_;refine aF rfl rfl (by decide) rfl Tryz.func21 (by kernel_rfl) (by kernel_rfl) ⟨Cp _ _,w2,Bm,?_⟩
 try walk_nrm
 refine tC YM NQ hQ (Cp _ _) (bn:=w.heap.size) (bo:=bo) (bh:=bh) ((KC _ (by have:=L9.out;omega)).trans Nd) YK YL λcb sb cap qb xb kb cur t w' T hC Ms hX NP hT h4 h7 hz hold=>?_;refine h w.heap.size bo bh cb sb cap qb xb kb cur t w' T _ hC Ms hX NP hT h4 h7 (by simp[MX]) rfl rfl (λv hv SB H=>?_) (by have:=L9.out;omega) λb hb=>(hold b (by have:=L9.out;omega)).trans ((KC b (by have:=L9.out;omega)).trans (Sl.out b hb))
 have k0:Di SB H (λb=>K1 b\/hasB (CN w.heap.size bo bh cb sb cap cur t) b=bW) (.slice (bk ⟨w.heap.size,0,bq⟩) 3 3):=Di.slice (.inr ((C7 _).2 (by simp))) _ _ _ _;have k1:Di SB H (λb=>K1 b\/hasB (CN w.heap.size bo bh cb sb cap cur t) b=bW) (Cj (bk ⟨w.heap.size,0,bq⟩) (bk ⟨bh,0,bq⟩) Cl 3 3):=Di.agg (l:=[.slice (bk ⟨w.heap.size,0,bq⟩) 3 3,.slice (bk ⟨bh,0,bq⟩) 3 3]) λv hv=>by
  simp only[yT,yQ,or_false] at hv;rcases hv with rfl|rfl
  .exact k0
  .exact Di.slice (.inr ((C7 _).2 (by simp))) _ _ _ _
 have k2:Di SB H (λb=>K1 b\/hasB (CN w.heap.size bo bh cb sb cap cur t) b=bW) (.tuple #[br bs 1,br bs 0]):=by
  refine(Dn (l:=[br bs 1,br bs 0]) λv hv=>?_).tuple;simp only[yT,yQ,or_false] at hv;rcases hv with rfl|rfl<;>exact B6.int _ _
 have k3:∀u∈(y0::y1::y2::y3::y4::y5::y6::y7::y8::y9::Hl::Hm::Hn::Ho::Hp::Hq::Hr::Hs::Ht::JH::JI::JJ::JK::JL::JM::tl:List bA),Di SB H (λb=>K1 b\/hasB (CN w.heap.size bo bh cb sb cap cur t) b=bW) u:=λu hu=>(Sm u (by simpa using hu) SB H).mono λb hb=>.inl hb;have hv2:v=br bs 1\/v=br bs 0\/v=.tuple #[br bs 1,br bs 0]\/v=.slice (bk ⟨w.heap.size,0,bq⟩) 3 3\/v=Cj (bk ⟨w.heap.size,0,bq⟩) (bk ⟨bh,0,bq⟩) Cl 3 3\/v∈(y0::y1::y2::y3::y4::y5::y6::y7::y8::y9::Hl::Hm::Hn::Ho::Hp::Hq::Hr::Hs::Ht::JH::JI::JJ::JK::JL::JM::tl:List bA):=by
  simp only[yT,yQ,or_false] at hv ⊢
  grind
 rcases hv2 with rfl|rfl|rfl|rfl|rfl|hv2
 .exact B6.int _ _
 .exact B6.int _ _
 .exact k2
 .exact k0
 .exact k1
 .exact k3 v hv2
def vv {BB:cf->Bool}(hB:BB 6=bW)(YM:BB 21=bW)(NQ:Gq BB){Q:bD->bw->Prop}(hQ:∀g w W,Cs w W->Q g w->Q g W){cs:List cq}(hcs:cs≠[]){K1:Nat->Prop}{bn bo bh cb sb cap qb kb:Nat}{cur:List bA}{t:cu}{ρ:CR}(Ew:∀i,i<5->ρ i<16){w:bw}
  (hC:Et w bn bo bh cb sb cap cur t) (hk:w.heap[kb]?=bk (E4 bW ρ)) (hq:w.heap[qb]?=bk (cw #[.pointer (bk ⟨cb,0,bq⟩)] 73 (0,0))) {T U:Array bA} (hT:T.size=27) (h4:T.getD 4 undef=.pointer (bk ⟨qb,0,bq⟩)) (h7:T.getD 7 undef=.pointer (bk ⟨kb,0,bq⟩))
  (hU:U.size=95) (hU1:U.getD 1 undef=br bs 1) (hU2:U.getD 2 undef=br bs 0) (Sm:∀v∈U.toList,∀(SB:cf->Bool) (H:Hid),Di SB H K1 v)
  (h:∀(A:Option ek) (c:Nat) (xs:List bA) (w':bw) (K':Nat->Prop) (U:Array bA),Ce w' (w.heap.size+1) (bb A 3 c) (CG ρ 3) xs->w.heap.size<=w'.heap.size->(∀b,b<w.heap.size->w'.heap[b]?=w.heap[b]?)->(∀b,K' b->∃o,w'.heap[b]?=bk o/\C5 (SP GC Bn) (CK B1 GC cr) (CX K') o o) ->
   U.size=95->U.getD 1 undef=br bs 1->U.getD 2 undef=br bs 0->U.getD 3 undef=bb A 3 c->U.getD 4 undef=br bs 0->(∀v∈U.toList,Di GC Bn (λb=>K1 b\/K' b) v)->C1 bc BB Q 0 (cF ((base 6).at ⟨U,[]⟩ [.code Sk]) cs) w') :
  C1 bc BB Q 0 (back ((base 21).at ⟨T,[]⟩ [.inRegion d6 [2],.code z6]) ((base 6).at ⟨U,[]⟩ [.inRegion e2 [2,3,4,5,6,7],.code Sk]::cs)) w:=by
 refine rE YM NQ hQ hcs Ew hC hk hq hT h4 h7 λA c xs w2 K' ho hz hold hv Er=>?_;obtain⟨y0,y1,y2,y3,y4,y5,y6,y7,y8,y9,Hl,Hm,Hn,Ho,Hp,Hq,Hr,Hs,Ht,JH,JI,JJ,JK,JL,JM,tl,rfl,MX⟩:=Xh hU;have hU1:y1=br bs 1:=hU1;have hU2:y2=br bs 0:=hU2;subst hU1 hU2;have e21:(e2[2]?.bind (·.dst))=bk 21:=rfl;rw[e21]
 try walk_nrm
 have ee2:e2=EP (aD (af (af wB))):=rfl;simp only[wB,df,zc,af,aD,EP] at ee2;rw[ee2];refine ag hQ hB hcs rfl rfl λK hK q1 q2 q3=>?_;go_simp;refine hK _ w2 ?_ _ ⟨rfl,rfl,rfl⟩
 try walk_nrm
 try simp only[ab]
 refine ag hQ hB hcs rfl rfl λK hK q1 q2 q3=>?_;go_simp;refine hK _ w2 ?_ _ ⟨rfl,rfl,rfl⟩
 try walk_nrm
 try simp only[ab]
 refine ag hQ hB hcs rfl rfl λK hK q1 q2 q3=>?_;go_simp;refine hK _ w2 ?_ _ ⟨rfl,rfl,rfl⟩
 try walk_nrm
 try simp only[ab]
 refine ag hQ hB hcs rfl rfl λK hK q1 q2 q3=>?_;go_simp;refine hK _ w2 ?_ _ ⟨rfl,rfl,rfl⟩
 try walk_nrm
 try simp only[ab]
 refine ag hQ hB hcs rfl rfl λK hK q1 q2 q3=>?_;go_simp;refine hK _ w2 ?_ _ ⟨rfl,rfl,rfl⟩
 try walk_nrm
 try simp only[ab]
 refine aA hQ hB hcs ?_;refine h A c xs w2 K' _ ho hz hold Er (by simp[MX]) rfl rfl rfl rfl λv hv3=>?_;have k0:Di GC Bn (λb=>K1 b\/K' b) (bb A 3 c):=hv.mono λb B hb=>⟨.inr hb.1,hb.2⟩;have k2:Di GC Bn (λb=>K1 b\/K' b) (.tuple #[bb A 3 c,br bs 0]):=by
  refine(Dn (l:=[bb A 3 c,br bs 0]) λv hv=>?_).tuple;simp only[yT,yQ,or_false] at hv;rcases hv with rfl|rfl
  .exact k0
  .exact B6.int _ _
 have k3:∀u∈(y0::br bs 1::br bs 0::y3::y4::y5::y6::y7::y8::y9::Hl::Hm::Hn::Ho::Hp::Hq::Hr::Hs::Ht::JH::JI::JJ::JK::JL::JM::tl:List bA),Di GC Bn (λb=>K1 b\/K' b) u:=λu hu=>(Sm u (by simpa using hu) GC Bn).mono λb hb=>.inl hb;have hv2:v=bb A 3 c\/v=br bs 0\/v=.tuple #[bb A 3 c,br bs 0]\/v∈(y0::br bs 1::br bs 0::y3::y4::y5::y6::y7::y8::y9::Hl::Hm::Hn::Ho::Hp::Hq::Hr::Hs::Ht::JH::JI::JJ::JK::JL::JM::tl:List bA):=by
  simp only[yT,yQ,or_false] at hv3 ⊢
  grind
 rcases hv2 with rfl|rfl|rfl|hv2
 .exact k0
 .exact B6.int _ _
 .exact k2
 .exact k3 v hv2
def sml:List FuncId:=syl++[19,21,45,46,49,54,119,120,144,145,146]
def KD (f:cf):Bool:=sml.contains f
def YN (f:cf):Bool:=f==45||f==46||f==49||f==54||f==144||f==146
def Gv (f:cf):Bool:=KD f&&!YN f
def vw {p:Nat->Bool}(h:sml.all p=bW):∀f,KD f=bW->p f=true:=λf hf=>(zE.1 h) f (by simpa [KD] using hf)
def fT:Gq Gv:=by
 refine⟨λf hf=>?_,by decide,by decide⟩;have:syl.all Gv=true:=by kernel_rfl
 exact kH this f hf
def xi:sml.all (λf=>I1 bc KD bW f||Vs f||YN f)=true:=by kernel_rfl
def yn {P:CL}(f:cf)(hf:aO KD f=bW):G8 P f:=by
 unfold aO at hf;have h:KD 82=false:=by decide
 rw[h,Aa,Ak] at hf;cases hf
def Pz (H:Hid):Lib PP KD H bW Gv 0:=by
 refine iI (λf hf=>?_) (λf hf hb=>?_) (λf hf=>?_) yn ⟨zP Tryz.globals_size,Tryz.LR⟩
 .simp only[Gv,yY,zY] at hf;have:=vw xi f hf.1;simp only[hf.2,AV,zk] at this;rcases this with h|h
  .exact .inl ⟨h,rfl⟩
  .exact .inr (uu h)
 .simp only[Gv,hf,Ap,As,YN,zk,beq_iff_eq] at hb;rcases hb with((((rfl|rfl)|rfl)|rfl)|rfl)|rfl
  .exact⟨_,_,cU,cU,rfl,by decide,by decide,rfl,rfl⟩
  .exact⟨_,_,ea,ea,rfl,by decide,by decide,rfl,rfl⟩
  .exact⟨_,_,eb,eb,rfl,by decide,by decide,rfl,rfl⟩
  .exact⟨_,_,ed,ed,rfl,by decide,by decide,rfl,rfl⟩
  .exact⟨_,_,dn,dn,rfl,by decide,by decide,rfl,rfl⟩
  .exact⟨_,_,dr,dr,rfl,by decide,by decide,rfl,rfl⟩
 .simp only[Gv,yY] at hf;exact hf.1
def Sn:∃cE,Tryz.f45.body=bk cE/\codeOk bc KD bW bW cE=false:=⟨_,rfl,by kernel_rfl⟩
open Go.ConcN
def Sp:∀(f:cf) (fn:Func),PP.a.funcs[f]?=bk fn->fn.body.isNone=bW->PP.fs[f]?=bk fn:=λ_ _ h _=>h
def Nf (cs:List cq)(g:bD)(w:bw):Prop:=∃(bn bo bh cb sb cap nb:Nat) (cur:List bA) (t:cu) (T U:Array bA),Et w bn bo bh cb sb cap cur t/\w.heap[nb]?=bk (IH 0)/\hasB (CN bn bo bh cb sb cap cur t) nb=cr/\T.size=19/\T.getD 6 undef=.pointer (bk ⟨nb,0,bq⟩) /\
 U.size=95/\(∀v∈U.toList,∀(SB:cf->Bool) (H:Hid),Di SB H (λb=>hasB (CN bn bo bh cb sb cap cur t) b=bW) v) /\
 g=ca PP 45 (GD cb (.func 46) #[] [bl (bk ⟨nb,0,bq⟩)].toArray) ((base 19).at ⟨T,[]⟩ [.inRegion c5 [2],.code x5]) ((base 6).at ⟨U,[]⟩ [.inRegion e1 [2,3,4,5,6,7],.code rF]::cs)
def Et.same {w w':bw}{bn bo bh cb sb cap:Nat}{cur:List bA}{t:cu}(h:Et w bn bo bh cb sb cap cur t)(s:Cs w w'):Et w' bn bo bh cb sb cap cur t:=h.keep λb _=>by rw[s.1]
def Nf.same {cs:List cq}(g:bD)(w W:bw)(s:Cs w W)(h:Nf cs g w):Nf cs g W:=by
 obtain⟨bn,bo,bh,cb,sb,cap,nb,cur,t,T,U,h1,h2,h3,h4,h5,h6,h7,h8⟩:=h;exact⟨bn,bo,bh,cb,sb,cap,nb,cur,t,T,U,h1.same s,by rw[s.1];exact h2,h3,h4,h5,h6,h7,h8⟩
def Nf.fn {cs:List cq}(g:bD)(w:bw)(h:Nf cs g w):Gv g.frame.fn=false:=by
 obtain⟨bn,bo,bh,cb,sb,cap,nb,cur,t,T,U,h1,h2,h3,h4,h5,h6,h7,rfl⟩:=h;show Gv 45=cr;decide
def vy {cs:List cq}(hcs:cs≠[])(w:bw):C1 bc Gv (Nf cs) 0 (cF (Frame.enter bc 6 #[] .normal) cs) w :=
 vm (by decide) (by decide) fT Nf.same hcs λbn bo bh cb sb cap nb cur t w' T U h1 h2 h3 h4 h5 h6 h7 _ _=>.fin ⟨bn,bo,bh,cb,sb,cap,nb,cur,t,T,U,h1,h2,h3,h4,h5,h6,h7,rfl⟩
def Sr (cs:List cq)(g:bD)(w:bw):Prop:=∃(K1:Nat->Prop) (bn bo bh cb sb cap qb xb kb:Nat) (cur:List bA) (t:cu) (T U:Array bA),(∀b,K1 b->∃(l:List bA) (t:cu),w.heap[b]?=bk (.cells l.toArray t (0,0))/\∀v∈l,∀(SB:cf->Bool) (H:Hid),Di SB H K1 v)/\Et w bn bo bh cb sb cap cur t/\w.heap[kb]?=bk (E4 cr λ_=>0)/\(∀p∈Eh xb qb cb,w.heap[p.1]?=bk (.cells p.2.1.toArray p.2.2 (0,0)))/\hasB (CN bn bo bh cb sb cap cur t++Eh xb qb cb) kb=cr /\
 T.size=27/\T.getD 4 undef=.pointer (bk ⟨qb,0,bq⟩)/\T.getD 7 undef=.pointer (bk ⟨kb,0,bq⟩)/\U.size=95/\U.getD 1 undef=br bs 1/\U.getD 2 undef=br bs 0/\(∀v∈U.toList,∀(SB:cf->Bool) (H:Hid),Di SB H (λb=>K1 b\/hasB (CN bn bo bh cb sb cap cur t) b=bW) v) /\
 g=ca PP 45 (GD cb (.func 54) #[] [bl (bk ⟨kb,0,bq⟩),.pointer (bk ⟨xb,0,bq⟩)].toArray) ((base 21).at ⟨T,[]⟩ [.inRegion d6 [2],.code z6]) ((base 6).at ⟨U,[]⟩ [.inRegion e2 [2,3,4,5,6,7],.code Sk]::cs)
def Sr.same {cs:List cq}(g:bD)(w W:bw)(s:Cs w W)(h:Sr cs g w):Sr cs g W:=by
 obtain⟨K1,bn,bo,bh,cb,sb,cap,qb,xb,kb,cur,t,T,U,h0,h1,h2,h3,h4⟩:=h;exact⟨K1,bn,bo,bh,cb,sb,cap,qb,xb,kb,cur,t,T,U,by rw[s.1];exact h0,h1.same s,by rw[s.1];exact h2,by rw[s.1];exact h3,h4⟩
def Sr.fn {cs:List cq}(g:bD)(w:bw)(h:Sr cs g w):Gv g.frame.fn=false:=by
 obtain⟨K1,bn,bo,bh,cb,sb,cap,qb,xb,kb,cur,t,T,U,h0,h1,h2,h3,h4,h5,h6,h7,h8,h9,h10,h11,rfl⟩:=h;show Gv 45=cr;decide
def Lm {w:bw}{bn bo bh cb sb cap:Nat}{cur:List bA}{t:cu}(h:Et w bn bo bh cb sb cap cur t):∀b,hasB (CN bn bo bh cb sb cap cur t) b=bW->∃(l:List bA) (t':cu),w.heap[b]?=bk (.cells l.toArray t' (0,0))/\∀v∈l,∀(SB:cf->Bool) (H:Hid),Di SB H (λb=>hasB (CN bn bo bh cb sb cap cur t) b=bW) v:=λb hb=>by
 obtain⟨p,hp,rfl⟩:=Gc hb;exact⟨_,_,h.obj p hp,λv hv SB H=>gu h.flat p hp v hv SB H⟩
def vz {cs:List cq}(hcs:cs≠[]){w:bw}{bn bo bh cb sb cap nb:Nat}{cur:List bA}{t:cu}{T U:Array bA}(hC:Et w bn bo bh cb sb cap cur t)(hn:w.heap[nb]?=bk (IH 1))(hT:T.size=19)(h6:T.getD 6 undef=.pointer (bk ⟨nb,0,bq⟩))
  (hU:U.size=95) (Sm:∀v∈U.toList,∀(SB:cf->Bool) (H:Hid),Di SB H (λb=>hasB (CN bn bo bh cb sb cap cur t) b=bW) v) :
  C1 bc Gv (Sr cs) 0 (back ((base 19).at ⟨T,[]⟩ [.inRegion c5 [2],.code x5]) ((base 6).at ⟨U,[]⟩ [.inRegion e1 [2,3,4,5,6,7],.code rF]::cs)) w :=
 vp (by decide) (by decide) (by decide) fT Sr.same hcs hn hT h6 hU Sm λbn' bo' bh' cb' sb' cap' qb xb kb cur' t' w' T' U' h1 h2 h3 h4 h5 h6 h7 h8 h9 h10 h11 hz hold =>
  .fin ⟨_,bn',bo',bh',cb',sb',cap',qb,xb,kb,cur',t',T',U',λb hb=>by
   obtain⟨l,t2,e1,e2⟩:=Lm hC b hb
   exact⟨l,t2,(hold b (hC.lt hb)).trans e1,e2⟩,h1,h2,h3,h4,h5,h6,h7,h8,h9,h10,h11,rfl⟩
section
variable {SB BB:cf->Bool} {lets:Bool} {Dead:Nat->Prop} {Kp:Gm} {x:Lone} {A:bD} {W:bw}
def Jc (ht:Tw PP SB BB lets 0 Dead Kp x A W)(hH:∀b,x.H b=cr){b:Nat}(hb:∃B,x.β b B){l:List bA}{t:cu}{f:Nat×Nat}(h:x.w.heap[b]?=bk (.cells l.toArray t f)){v:bA}(hv:v∈l):∃V,B6 (SP SB x.H) x.β v V:=by
 obtain⟨B,hb⟩:=hb;obtain⟨o,O,q1,q2,q3⟩:=ht.wl.D8 b B hb (hH b);rw[h] at q1;cases q1;cases q3 with
 |cells a z =>
  obtain⟨i,hi,rfl⟩:=zZ.1 hv;obtain⟨V,_,h2⟩:=a.get? (i:=i) (v:=l[i]) (by simp);exact⟨V,h2⟩
def FT {S:DT}{β:Cm}{b o:Nat}{s:Option Nat}{l c:Nat}{V:bA}(h:B6 S β (.slice (bk ⟨b,o,s⟩) l c) V)(hl:l≠0:=by decide):∃B,β b B:=by
 cases h with
 |slice o s l c hb=>exact⟨_,hb⟩
 |Dl _=>exact absurd rfl hl
def GH {S:DT}{β:Cm}{b o:Nat}{s:Option Nat}{V:bA}(h:B6 S β (.pointer (bk ⟨b,o,s⟩)) V):∃B,β b B:=by
 cases h with
 |ptr o s hb=>exact⟨_,hb⟩
def PC {S:DT}{β:Cm}{f:Fn}{fx:Array bA}{l:List bA}{V v:bA}(h:B6 S β (.func f fx l.toArray) V)(hv:v∈l):∃V,B6 S β v V:=by
 cases h with
 |C3 _=>cases hv
 |func hf h1 i1 h2 i2 =>
  obtain⟨i,hi,rfl⟩:=zZ.1 hv;have hl:i<l.toArray.size:=by simpa using hi
  exact⟨_,i2 i _ _ (yS hl) (yS (by rw[<-h2];exact hl))⟩
def lk (ht:Tw PP SB BB lets 0 Dead Kp x A W)(hH:∀b,x.H b=cr){bn bo bh cb sb cap:Nat}{cur:List bA}{t:cu}(h:Et x.w bn bo bh cb sb cap cur t)(hcb:∃B,x.β cb B):∀b,hasB (CN bn bo bh cb sb cap cur t) b=bW->∃B,x.β b B:=by
 have h4:=h.obj (cb,Nb bn bh sb cap,139) (by simp[CN]);have h3:=h.obj (bh,Gd bo,28) (by simp[CN]);obtain⟨V1,v1⟩:=Jc ht hH hcb h4 (v:=.slice (bk ⟨bn,0,bq⟩) 3 3) (by simp[Nb]);obtain⟨V2,v2⟩:=Jc ht hH hcb h4 (v:=.slice (bk ⟨bh,0,bq⟩) 3 3) (by simp[Nb]);obtain⟨V3,v3⟩:=Jc ht hH hcb h4 (v:=.slice (bk ⟨sb,0,bq⟩) 8 cap) (by simp[Nb]);obtain⟨V4,v4⟩:=Jc ht hH (FT v2) h3 (v:=.slice (bk ⟨bo,0,bq⟩) 1 1) (by simp[Gd])
 intro b hb;rcases(C7 b).1 hb with rfl|rfl|rfl|rfl|rfl
 .exact FT v1
 .exact FT v4
 .exact FT v2
 .exact hcb
 .exact FT v3
def Ln (ht:Tw PP KD Gv bW 0 Dead Kp x A W){cb F:Nat}{fc:List bA}{fr:cq}{cs:List cq}(hg:x.g=ca PP 45 (GD cb (.func F) #[] fc.toArray) fr cs):(∃B,x.β cb B)/\∀v∈fc,∃V,B6 (SP KD x.H) x.β v V:=by
 obtain⟨cE,Vb,Fp⟩:=Sn;have DL:=ht.gl.top;rw[hg] at DL;obtain⟨ARGS,eA,Es⟩:=M3 (P:=PP) (fa:=Tryz.f45) (fb:=Tryz.f45) cU cU Vb Fp rfl (by rw[Tryz.ntmps45];simp) DL;obtain⟨V0,_,r0⟩:=Es.get? (i:=0) (v:=.pointer (bk ⟨cb,0,bq⟩)) rfl;obtain⟨V1,_,r1⟩:=Es.get? (i:=1) (v:=.func (.func F) #[] fc.toArray) rfl;exact⟨GH r0,λv hv=>PC r1 hv⟩
end
def Ng:∃L6:CR,Cv Cl (Cy 3) 2 (DV (EH 1)) 1=[L6]:=by
 have:=pO
 match h:Cv Cl (Cy 3) 2 (DV (EH 1)) 1,this with
 |[ρ],_=>exact⟨ρ,rfl⟩
def rG {w:bw}{b:Nat}{l:Array bA}{t:cu}(h:w.heap[b]?=bk (.cells l t (0,0)))(hl:0<l.size):¬Ct.Ro w b:=by
 rintro⟨c,t',f,h1,h2⟩;rw[h] at h1;cases h1;have:=h2 0 hl;omega
section
variable {gs:Array bD} {W:bw} {sl:Option (Nat×Nat)} {t:Trace} {q:Nat->Nat} {Dead:Nat->Prop} {Kp:Gm} {x:Lone} {A:bD} {cs:List cq}
def Qj (hb:H7 bc Dead gs W t q)(ht:Tw PP KD Gv bW 0 Dead Kp x A W)(h0:gs[0]?=bk A)(hq:Nf cs x.g x.w)(hcs:cs≠[])(hH:∀b,x.H b=cr)(Le:gs.size+8<=2147483647) :
  ∃N m' t',runNT bc N (crowd gs W sl) t=(.next m',t')/\∃gs' W' sl' q' A' FP g2 w2,m'=crowd gs' W' sl'/\gs'[0]?=bk A'/\gs'.size<=gs.size+8/\H7 bc FP gs' W' t' q' /\
   Tw PP KD Gv bW 0 FP Kp ⟨g2,w2,x.H,x.β,x.T⟩ A' W'/\C1 bc Gv (Sr cs) 0 g2 w2/\w2.heap.size=x.w.heap.size/\(W'.os=W.os/\W'.output=W.output)/\W.heap.size<=W'.heap.size/\∀B,FP B->Dead B\/W.heap.size<=B:=by
 obtain⟨bn,bo,bh,cb,sb,cap,nb,cur,ty,T,U,hC,hn,NP,hT,h6,hU,Sm,hg⟩:=hq;obtain⟨L6,Ik⟩:=Ng;obtain⟨cE,Vb,Fp⟩:=Sn;obtain⟨p1,p2⟩:=Ln ht hg;obtain⟨Vn,vn⟩:=p2 (.pointer (bk ⟨nb,0,bq⟩)) (by simp);obtain⟨N,m',t',hrun,gs',W',sl',q',A',FP,e1,e2,e3,e4,e5,e6,e7⟩:=Li (sl:=sl) (Pt (Qi hC hn NP) Ik (Sa nb L6)) Xa Vb Fp Xb rfl rfl rfl rfl Pu M9 Na hb ht h0 hg ⟨rfl,rfl,_,_,_,_,rfl⟩ hH
  (λb hb=>by
   rcases hb with hb|hb
   .exact lk ht hH hC p1 b (by simpa [Qh] using hb)
   .have e:b=nb:=by simpa using hb
    rw[e];exact GH vn) (λb B h MX k=>by
   have e:b=nb:=by simpa using MX
   subst e;rcases ht.D7 b B h k with h|h
   .rw[hH] at h;cases h
   .exact rG hn (by decide) h) Le
 refine⟨N,m',t',hrun,gs',W',sl',q',A',FP,_,_,e1,e2,e3,e4,e5,?_,bQ _ _ _,e6,e7⟩;have hlt:nb<x.w.heap.size:=(yK.1 hn).1;refine vz hcs (hC.keep λb hb=>?_) (nb:=nb) ?_ hT h6 hU Sm
 .rw[bR _ _ _ _ (hC.lt hb)];rw[if_neg];intro h;have e:b=nb:=by simpa using h
  rw[e,NP] at hb;cases hb
 .rw[bR _ _ _ _ hlt,if_pos (by simp)]
  rfl
def j6 (QT:bD->bw->Prop)(cs:List cq):Prop:=∀(K:Nat->Prop) (A:Option ek) (c B:Nat) (xs:List bA) (w':bw) (U:Array bA) (ρ:CR),Cv Cl (Cy 3) 2 (DV (EH 1)) 1=[ρ]->Ce w' B (bb A 3 c) (CG ρ 3) xs ->
 U.size=95->U.getD 1 undef=br bs 1->U.getD 2 undef=br bs 0->U.getD 3 undef=bb A 3 c->U.getD 4 undef=br bs 0->(∀v∈U.toList,Di GC Bn K v)->(∀b,K b->∃o,w'.heap[b]?=bk o/\C5 (SP GC Bn) (CK B1 GC cr) (CX K) o o) ->
 C1 bc Gv QT 0 (cF ((base 6).at ⟨U,[]⟩ [.code Sk]) cs) w'
def vB:∀ρ∈Cv Cl (Cy 3) 2 (DV (EH 1)) 1,∀i,i<5->ρ i<16:=by decide +kernel
def Ss {QT:bD->bw->Prop}(hQT:∀g w W,Cs w W->QT g w->QT g W)(acI:j6 QT cs)(hb:H7 bc Dead gs W t q)(ht:Tw PP KD Gv bW 0 Dead Kp x A W)(h0:gs[0]?=bk A)(hq:Sr cs x.g x.w)(hcs:cs≠[])(hH:∀b,x.H b=cr)(Le:gs.size+8<=2147483647) :
  ∃N m' t',runNT bc N (crowd gs W sl) t=(.next m',t')/\∃gs' W' sl' q' A' FP g2 w2,m'=crowd gs' W' sl'/\gs'[0]?=bk A'/\gs'.size<=gs.size+8/\H7 bc FP gs' W' t' q' /\
   Tw PP KD Gv bW 0 FP Kp ⟨g2,w2,x.H,x.β,x.T⟩ A' W'/\C1 bc Gv QT 0 g2 w2/\w2.heap.size=x.w.heap.size/\(W'.os=W.os/\W'.output=W.output)/\W.heap.size<=W'.heap.size/\∀B,FP B->Dead B\/W.heap.size<=B:=by
 obtain⟨K1,bn,bo,bh,cb,sb,cap,qb,xb,kb,cur,ty,T,U,hK1,hC,hk,hX,NP,hT,h4,h7,hU,hU1,hU2,Sm,hg⟩:=hq;obtain⟨L6,Ik⟩:=Ng;have Ew:∀i,i<5->L6 i<16:=vB L6 (by rw[Ik];simp);obtain⟨cE,Vb,Fp⟩:=Sn;obtain⟨p1,p2⟩:=Ln ht hg;obtain⟨Vk,vk⟩:=p2 (.pointer (bk ⟨kb,0,bq⟩)) (by simp);obtain⟨Vx,vx⟩:=p2 (.pointer (bk ⟨xb,0,bq⟩)) (by simp);have QQ:=hX (xb,[.func (.func 49) #[] #[.pointer (bk ⟨qb,0,bq⟩)]],101) (by simp[Eh])
 have hqo:=hX (qb,[.pointer (bk ⟨cb,0,bq⟩)],73) (by simp[Eh]);obtain⟨Vf,vf⟩:=Jc ht hH (GH vx) QQ (v:=.func (.func 49) #[] #[.pointer (bk ⟨qb,0,bq⟩)]) (by simp);obtain⟨Vq,vq⟩:=PC (l:=[.pointer (bk ⟨qb,0,bq⟩)]) vf (v:=.pointer (bk ⟨qb,0,bq⟩)) (by simp);have X0:hasB (CN bn bo bh cb sb cap cur ty) kb=cr/\hasB (Eh xb qb cb) kb=false:=by
  rw[bg,Au] at NP;exact NP
 obtain⟨N,m',t',hrun,gs',W',sl',q',A',FP,e1,e2,e3,e4,e5,e6,e7⟩:=Li (sl:=sl) (Pt (Sc (ρ:=L6) hC hk hX NP) Ik (Vt kb xb qb cb L6)) Xa Vb Fp Xb rfl rfl rfl rfl Pu M9 Na hb ht h0 hg ⟨rfl,rfl,_,_,_,_,rfl⟩ hH
  (λb hb=>by
   rcases hb with hb|hb
   .have hb':hasB (CN bn bo bh cb sb cap cur ty++Eh xb qb cb) b=true:=hb;rw[bg,zk] at hb';rcases hb' with hb'|hb'
    .exact lk ht hH hC p1 b hb'
    .have : b = xb ∨ b = qb := by
      obtain⟨p,hp,rfl⟩:=Gc hb';simp only[Eh,yT,yQ,or_false] at hp;rcases hp with rfl|rfl<;>simp
     rcases this with rfl|rfl
     .exact GH vx
     .exact GH vq
   .have e:b=kb:=by simpa using hb
    rw[e];exact GH vk) (λb B h MX k=>by
   have e:b=kb:=by simpa using MX
   subst e;rcases ht.D7 b B h k with h|h
   .rw[hH] at h;cases h
   .exact rG hk (by decide) h) Le
 refine⟨N,m',t',hrun,gs',W',sl',q',A',FP,_,_,e1,e2,e3,e4,e5,?_,bQ _ _ _,e6,e7⟩;have hlt:kb<x.w.heap.size:=(yK.1 hk).1;obtain⟨w1,F0⟩:∃w1,w1=FO (K6 kb) (oF (decide (8<=1)) (λ_=>E4 cr λ_=>0) λ_=>E4 bW L6) x.w:=⟨_,rfl⟩;have hkb:w1.heap[kb]?=bk (E4 bW L6):=by
  rw[F0,bR _ _ _ _ hlt,if_pos (by simp)]
  rfl
 have hne:∀b,b≠kb->b<x.w.heap.size->w1.heap[b]?=x.w.heap[b]?:=λb hb hl=>by
  rw[F0,bR _ _ _ _ hl,if_neg (by simpa using hb)]
 have hC1:Et w1 bn bo bh cb sb cap cur ty:=hC.keep λb hb=>hne b (λe=>by rw[e,X0.1] at hb;cases hb) (hC.lt hb);have Xi:w1.heap[qb]?=bk (cw #[.pointer (bk ⟨cb,0,bq⟩)] 73 (0,0)):=by
  refine(hne qb (λe=>?_) (yK.1 hqo).1).trans hqo;have:=X0.2;rw[<-e] at this;simp[hasB,Eh] at this
 show C1 bc Gv QT 0 _ (FO (K6 kb) (oF (decide (8<=1)) (λ_=>E4 cr λ_=>0) λ_=>E4 bW L6) x.w);rw[<-F0];refine vv (by decide) (by decide) fT hQT hcs Ew hC1 hkb Xi hT h4 h7 hU hU1 hU2 Sm λA c xs w2 K' U2 ho hz hold Er u0 u1 u2 u3 u4 ahs=>?_;refine acI _ A c _ xs w2 U2 L6 Ik ho u0 u1 u2 u3 u4 ahs λb UG=>?_;rcases UG with(UG|UG)|UG
 .obtain⟨l,t2,r1,r2⟩:=hK1 b UG;have hl:=(yK.1 r1).1;by_cases e:b=kb
  .subst e;exact⟨_,(hold _ (by rw[F0,bQ];exact hl)).trans hkb,kM (Sb _ _)⟩
  .exact⟨_,(hold _ (by rw[F0,bQ];exact hl)).trans ((hne b e hl).trans r1),.cells (Dn λv hv=>(r2 v hv GC Bn).mono λb hb=>.inl (.inl hb)) λi z1 z2=>⟨z1,z2⟩⟩
 .obtain⟨l,t2,r1,r2⟩:=Lm hC1 b UG;exact⟨_,(hold _ (yK.1 r1).1).trans r1,.cells (Dn λv hv=>(r2 v hv GC Bn).mono λb hb=>.inl (.inr hb)) λi z1 z2=>⟨z1,z2⟩⟩
 .obtain⟨o,r1,r2⟩:=Er b UG;exact⟨o,r1,r2.mono λb B hb=>⟨.inr hb.1,hb.2⟩⟩
end
def pY:Cg (CY [3,2,4]) [[0,1],[1],[]]=0:=by decide +kernel
def pZ:Cg (CY [3,2,4]) De=0:=by decide +kernel
def tN:ip 3 [(2,6)]=0:=by decide +kernel
def vO:Sx (Jd (CY [3,2,4]) (B7 De) 9 (Dj 3 [(2,6)] 1))=[8,0,-8]:=by decide +kernel
def tO:(Cv Cl (Cy 3) 2 (DV (EH 1)) 1).map (λr=>CG r 3)=[De]:=by decide +kernel
def jv {l:List Int}:(∀h∈(CY l).B2,h.off.length<=4611686018427387904):=by
 intro h hh;simp only[CY,yT,yQ,or_false] at hh;rcases hh with rfl|rfl|rfl<;>simp
def rQ (nA hA gA:Option ek)(w:bw)(B:Nat)(hB:B<=w.heap.size)(hn:RI w B nA [3,2,4])(hh:Db w B hA (CY [3,2,4]).B2)(hg:Da w B gA [[0,1],[1],[]]) :
  Calls B1 22 #[.agg #[bb nA 3 3,bb hA 3 3],bb gA 3 3,br bs 2,br bs 0] w λe w'=>Gr w w'/\∃A k,e=.returned (.tuple #[bb A 3 k,br bs 3,br bs 0])/\Da w' w'.heap.size A De:=by
 refine(tM nA hA gA 3 3 3 (CY [3,2,4]) [[0,1],[1],[]] 2 0 w B hB hn hh hg (by decide) (by decide) jv (by decide) (by decide) (λk _ hk _ _=>?_)).mono ?_
 .obtain rfl:k=2:=by omega
  exact Cc.Ok.of (by decide +kernel)
 .rintro e w' ⟨hg,h⟩;refine⟨hg,?_⟩;rw[if_neg (by simp[pY]),if_neg (by decide)] at h;have hr:=tB;have h2:Cv (Js (CY [3,2,4]) (Int.toNat 2) 0) (Cy (CY [3,2,4]).B2.length) (CY [3,2,4]).B3.length EB 0=Cv (Js (CY [3,2,4]) 2 0) (Cy 3) 3 EB 0:=rfl;rw[h2] at h;cases hn:Fq (B7 [[0,1],[1],[]]) (Cv (Js (CY [3,2,4]) 2 0) (Cy 3) 3 EB 0) with
  |none=>rw[hn] at hr;cases hr
  |some p =>
   rw[hn] at hr h;obtain⟨A,k,he,hgr⟩:=h;have hr2:(CG p.1 3,p.2)=(De,3):=Option.some.inj hr;injection hr2 with e1 e2
   refine⟨A,k,?_,?_⟩
   .rw[he,e2];rfl
   .rw[<-e1];exact hgr
def tP (nA hA:Option ek)(w:bw)(B:Nat)(hB:B<=w.heap.size)(hn:RI w B nA [3,2,5])(hh:Db w B hA (CY [3,2,5]).B2) :
  Calls B1 23 #[.agg #[bb nA 3 3,bb hA 3 3]] w λe w'=>Gr w w'/\∃A k,e=.returned (.tuple #[bb A 2 k,br bs 0])/\RI w' w'.heap.size A [1,2]:=by
 refine(vi nA hA 3 3 (CY [3,2,5]) w B hB hn hh (by decide) (by decide) jv).mono ?_;rintro e w' ⟨hg,h⟩;refine⟨hg,?_⟩;rw[if_neg (by simp[lM]),if_neg (by simp[j4])] at h;have h2:Ee (CY [3,2,5]) (2 ^ (CY [3,2,5]).B3.length)=bk [1,2]:=pM;rw[h2] at h;exact h
def xx (nA hA gA rA:Option ek)(w:bw)(B:Nat)(hB:B<=w.heap.size)(hn:RI w B nA [3,2,4])(hh:Db w B hA (CY [3,2,4]).B2)(hg:Da w B gA De)(hr:GI w B rA [(2,6)]) :
  Calls B1 24 #[.agg #[bb nA 3 3,bb hA 3 3],bb gA 3 3,bb rA 1 1,br bs 9] w λe w'=>Gr w w'/\∃A k,e=.returned (.tuple #[bb A 3 k,br bs 0])/\RI w' w'.heap.size A [8,0,-8]:=by
 refine(pX nA hA gA rA 3 3 3 1 (CY [3,2,4]) De [(2,6)] 9 w B hB hn hh hg hr (by decide) (by decide) jv (by decide) (by decide) (by decide) (by decide) pZ tN (by omega)).mono ?_;rintro e w' ⟨hg,A,k,he,h⟩;refine⟨hg,A,k,he,?_⟩;rw[<-vO];exact h
def yF {w:bw}{B b:Nat}{A0 A1 A2:Option ek}{c0 c1 c2:Nat}{l0 l1 l2:List Int}{t:cu}{f:Nat×Nat}(h:w.heap[b]?=bk (cw #[bb A0 l0.length c0,bb A1 l1.length c1,bb A2 l2.length c2] t f))(hb:b<B)(h0:RI w B A0 l0)(h1:RI w B A1 l1)(h2:RI w B A2 l2):Da w B (bk ⟨b,0,bq⟩) [l0,l1,l2]:=λ_=>by
 have e:∀o,w.cell? ⟨b,o,bq⟩=(#[bb A0 l0.length c0,bb A1 l1.length c1,bb A2 l2.length c2]:Array bA)[o]?:=λo=>by unfold World.cell?;rw[h];simp
 refine⟨b,0,rfl,hb,λi l hl=>?_⟩
 match i,hl with
 |0,hl=>cases hl;exact⟨A0,c0,e _,h0⟩
 |1,hl=>cases hl;exact⟨A1,c1,e _,h1⟩
 |2,hl=>cases hl;exact⟨A2,c2,e _,h2⟩
def yG {w:bw}{B b:Nat}{x y:Int}{t:cu}{f:Nat×Nat}(h:w.heap[b]?=bk (cw #[br bs x,br bs y] t f))(hb:b<B):GI w B (bk ⟨b,0,bq⟩) [(x,y)]:=λ_=>by
 have e:∀o,w.cell? ⟨b,o,bq⟩=(#[br bs x,br bs y]:Array bA)[o]?:=λo=>by unfold World.cell?;rw[h];simp
 refine⟨b,0,rfl,hb,λi q hq=>?_⟩
 match i,hq with
 |0,hq=>cases hq;exact⟨e _,e _⟩
def Nn (n:Nat)(l:List bA)(h:l.length=n+19):∃(y0 y1 y2 y3 y4 y5 y6 y7 y8 y9 Hl Hm Hn Ho Hp Hq Hr Hs Ht:bA) (tl:List bA),l=y0::y1::y2::y3::y4::y5::y6::y7::y8::y9::Hl::Hm::Hn::Ho::Hp::Hq::Hr::Hs::Ht::tl/\tl.length=n:=by
 match l,h with
 |y0::y1::y2::y3::y4::y5::y6::y7::y8::y9::Hl::Hm::Hn::Ho::Hp::Hq::Hr::Hs::Ht::tl,h=>exact⟨y0,y1,y2,y3,y4,y5,y6,y7,y8,y9,Hl,Hm,Hn,Ho,Hp,Hq,Hr,Hs,Ht,tl,rfl,by simpa using h⟩
def yp {T:Array bA}(h:T.size=95):∃(y0 y1 y2 y3 y4 y5 y6 y7 y8 y9 Hl Hm Hn Ho Hp Hq Hr Hs Ht JH JI JJ JK JL JM NS NT SM SN SQ SR SS SU SV SX SY SZ S0 S2 S3 S4 S5 S6 S7 S8 S9 Ta Tb Tc Td Te Tf Tg Ti Tj Tk Tl Tm Tn Tp Tq Ts Tt Tu Tv Tx Ty Tz TA TB TC TD TE TF TG TH TJ TK TL TM TN TP TQ TR TT TU TV TW TX TY TZ T2 T3 T4 T5:bA),T=#[y0,y1,y2,y3,y4,y5,y6,y7,y8,y9,Hl,Hm,Hn,Ho,Hp,Hq,Hr,Hs,Ht,JH,JI,JJ,JK,JL,JM,NS,NT,SM,SN,SQ,SR,SS,SU,SV,SX,SY,SZ,S0,S2,S3,S4,S5,S6,S7,S8,S9,Ta,Tb,Tc,Td,Te,Tf,Tg,Ti,Tj,Tk,Tl,Tm,Tn,Tp,Tq,Ts,Tt,Tu,Tv,Tx,Ty,Tz,TA,TB,TC,TD,TE,TF,TG,TH,TJ,TK,TL,TM,TN,TP,TQ,TR,TT,TU,TV,TW,TX,TY,TZ,T2,T3,T4,T5]:=by
 obtain⟨l⟩:=T;have h:l.length=76+19:=h;obtain⟨y0,y1,y2,y3,y4,y5,y6,y7,y8,y9,Hl,Hm,Hn,Ho,Hp,Hq,Hr,Hs,Ht,l0,rfl,h0⟩:=Nn 76 l h;obtain⟨JH,JI,JJ,JK,JL,JM,NS,NT,SM,SN,SQ,SR,SS,SU,SV,SX,SY,SZ,S0,l1,rfl,h1⟩:=Nn 57 l0 h0;obtain⟨S2,S3,S4,S5,S6,S7,S8,S9,Ta,Tb,Tc,Td,Te,Tf,Tg,Ti,Tj,Tk,Tl,l2,rfl,h2⟩:=Nn 38 l1 h1;obtain⟨Tm,Tn,Tp,Tq,Ts,Tt,Tu,Tv,Tx,Ty,Tz,TA,TB,TC,TD,TE,TF,TG,TH,l3,rfl,h3⟩:=Nn 19 l2 h2
 obtain⟨TJ,TK,TL,TM,TN,TP,TQ,TR,TT,TU,TV,TW,TX,TY,TZ,T2,T3,T4,T5,l4,rfl,h4⟩:=Nn 0 l3 h3;obtain rfl:l4=[]:=zj h4;exact⟨y0,y1,y2,y3,y4,y5,y6,y7,y8,y9,Hl,Hm,Hn,Ho,Hp,Hq,Hr,Hs,Ht,JH,JI,JJ,JK,JL,JM,NS,NT,SM,SN,SQ,SR,SS,SU,SV,SX,SY,SZ,S0,S2,S3,S4,S5,S6,S7,S8,S9,Ta,Tb,Tc,Td,Te,Tf,Tg,Ti,Tj,Tk,Tl,Tm,Tn,Tp,Tq,Ts,Tt,Tu,Tv,Tx,Ty,Tz,TA,TB,TC,TD,TE,TF,TG,TH,TJ,TK,TL,TM,TN,TP,TQ,TR,TT,TU,TV,TW,TX,TY,TZ,T2,T3,T4,T5,rfl⟩
def vP (A:Option ek)(c:Nat)(y0 y5 y6 y7 y8 y9 Hl Hm Hn Ho Hp Hq Hr Hs Ht JH JI JJ JK JL JM NS NT SM SN SQ SR SS SU SV SX SY SZ S0 S2 S3 S4 S5 S6 S7 S8 S9 Ta Tb Tc Td Te Tf Tg Ti Tj Tk Tl Tm Tn Tp Tq Ts Tt Tu Tv Tx Ty Tz TA TB TC TD TE TF TG TH TJ TK TL TM TN TP TQ TR TT TU TV TW TX TY TZ T2 T3 T4 T5:bA)(w:bw)(KG:Da w w.heap.size A De) :
  Sk.wp B1 (λe a' _=>(e=.normal\/e=.ret)/\e=.ret/\a'.tmps.getD 0 undef=.bool bW/\a'.defers=[]) ⟨#[y0,br bs 1,br bs 0,bb A 3 c,br bs 0,y5,y6,y7,y8,y9,Hl,Hm,Hn,Ho,Hp,Hq,Hr,Hs,Ht,JH,JI,JJ,JK,JL,JM,NS,NT,SM,SN,SQ,SR,SS,SU,SV,SX,SY,SZ,S0,S2,S3,S4,S5,S6,S7,S8,S9,Ta,Tb,Tc,Td,Te,Tf,Tg,Ti,Tj,Tk,Tl,Tm,Tn,Tp,Tq,Ts,Tt,Tu,Tv,Tx,Ty,Tz,TA,TB,TC,TD,TE,TF,TG,TH,TJ,TK,TL,TM,TN,TP,TQ,TR,TT,TU,TV,TW,TX,TY,TZ,T2,T3,T4,T5],[]⟩ w:=by
 have HB:=yJ KG;clear KG;have ez:Sk=af (af (af wB)):=rfl;simp only[wB,df,zc,af] at ez;rw[ez];clear ez;obtain⟨W1,hW1⟩:∃W1:bw,W1=w.alloc (cw #[br bs 3,br bs 2,br bs 4] 3):=⟨_,rfl⟩;have hg1:Gr w W1:=hW1▸(Gr.refl w).alloc _;have HN1:RowKit.Hid (RI W1 W1.heap.size (bk ⟨w.heap.size,0,bq⟩) [3,2,4]):=yJ (cN (t:=3) (f:=(0,0)) (by rw[hW1];exact heap_alloc_new w _) (by rw[hW1];simp))
 have HB1:=yJ (HB.out.gr (yL _) hg1);have Sz:=yJ (mz (bk ⟨w.heap.size,0,bq⟩) 3 [3,2,4] W1);have Qk:=yJ hW1;have hz1:=hg1.size;clear hg1 hW1;go_wp2_with fail;rw[<-Qk.out];refine Sz.out.mono ?_;rintro e w2 ⟨hA,rfl,YH,hg2⟩;obtain⟨W2,hW2⟩:∃W2:bw,W2=((w2.alloc (cw #[br bs 0,br bs 1] 3)).alloc (cw #[br bs 1] 3)).alloc (cw #[.slice (bk ⟨w2.heap.size,0,bq⟩) 2 2,.slice (bk ⟨w2.heap.size+1,0,bq⟩) 1 1,.slice bq 0 0] 22):=⟨_,rfl⟩
 have hg3:Gr w2 W2:=hW2▸(((Gr.refl w2).alloc _).alloc _).alloc _;have hz2:W2.heap.size=w2.heap.size+3:=by rw[hW2];simp
 have b0:W2.heap[w2.heap.size]?=bk (.cells ([0,1].map (br bs)).toArray 3 (0,0)):=by
  rw[hW2,heap_alloc_old _ _ (by simp;omega),heap_alloc_old _ _ (by simp)];exact heap_alloc_new _ _
 have b1:W2.heap[w2.heap.size+1]?=bk (.cells ([1].map (br bs)).toArray 3 (0,0)):=by
  rw[hW2,heap_alloc_old _ _ (by simp)];exact aK _ _ (by simp)
 have b2:W2.heap[w2.heap.size+2]?=bk (cw #[.slice (bk ⟨w2.heap.size,0,bq⟩) 2 2,.slice (bk ⟨w2.heap.size+1,0,bq⟩) 1 1,.slice bq 0 0] 22 (0,0)):=by
  rw[hW2];exact aK _ _ (by simp)
 have KI:Da W2 W2.heap.size (bk ⟨w2.heap.size+2,0,bq⟩) [[0,1],[1],[]]:=yF (l0:=[0,1]) (l1:=[1]) (l2:=[]) b2 (by omega) (cN b0 (by omega)) (cN b1 (by omega)) .nil;have HR:=yJ (rQ (bk ⟨w.heap.size,0,bq⟩) hA (bk ⟨w2.heap.size+2,0,bq⟩) W2 W2.heap.size (yL _) (((HN1.out.gr (yL _) hg2).gr hg2.size hg3).more (by have:=hg2.size;have:=hg3.size;omega)) ((YH.keep λb o hb=>hg3.cell (p:=⟨b,o,bq⟩) hb).more hg3.size) KI)
 have I5:=yJ ((HB1.out.gr (by omega) hg2).gr (by have:=hg2.size;omega) hg3);have Rc:=yJ hW2;have hzz2:=hg2.size;clear YH hg2 hW2 b0 b1 b2 KI Sz hz2;have ec:Cj (bk ⟨w.heap.size,0,bq⟩) hA (CY [3,2,4]) 3 3=.agg #[.slice (bk ⟨w.heap.size,0,bq⟩) 3 3,bb hA 3 3]:=rfl;rw[ec];clear ec;have hz3:=hg3.size;clear hg3;go_wp2_with fail;rw[<-Rc.out];refine HR.out.mono ?_;rintro e w3 ⟨hg3,A5,k5,rfl,adm⟩
 have HB3:=yJ (I5.out.gr (by omega) hg3);have Hk:=yJ adm;have hz4:=hg3.size;clear hg3 adm HR HN1;obtain⟨V6,hV6⟩:∃V:bw,V=w3.alloc (cw #[br bs 3,br bs 2,br bs 5] 3):=⟨_,rfl⟩;have QU:Gr w3 V6:=hV6▸(Gr.refl w3).alloc _;have HN6:RowKit.Hid (RI V6 V6.heap.size (bk ⟨w3.heap.size,0,bq⟩) [3,2,5]):=yJ (cN (t:=3) (f:=(0,0)) (by rw[hV6];exact heap_alloc_new w3 _) (by rw[hV6];simp))
 have HC6:=yJ (mz (bk ⟨w3.heap.size,0,bq⟩) 3 [3,2,5] V6);have ain:=yJ QU;have HV6:=yJ hV6;have hzV6:=QU.size;clear QU hV6;go_wp2_with fail;rw[<-HV6.out];refine HC6.out.mono ?_;rintro e x6 ⟨hA6,rfl,ado,T6⟩;have HX6:=yJ (ain.out.trans T6);have adp:=yJ ((HN6.out.gr (yL _) T6).more T6.size);have adq:=yJ ado;have hzx6:=T6.size;clear ado T6;have ec:Cj (bk ⟨w3.heap.size,0,bq⟩) hA6 (CY [3,2,5]) 3 3=.agg #[.slice (bk ⟨w3.heap.size,0,bq⟩) 3 3,bb hA6 3 3]:=rfl
 have Nl:=yJ (tP (bk ⟨w3.heap.size,0,bq⟩) hA6 x6 x6.heap.size (yL _) adp.out adq.out);rw[ec];clear ec;go_wp2_with fail;refine Nl.out.mono ?_;rintro e w5 ⟨Gg,A8,k8,rfl,adr⟩;have HB5:=yJ (HB3.out.gr (by omega) (HX6.out.trans Gg));have aiq:=yJ (Hk.out.gr (yL _) (HX6.out.trans Gg));have HI8:=yJ adr;have NN:=(HX6.out.trans Gg).size;clear Gg adr Nl HN6 HC6 adq adp;obtain⟨V7,hV7⟩:∃V:bw,V=w5.alloc (cw #[br bs 3,br bs 2,br bs 4] 3):=⟨_,rfl⟩
 have T7:Gr w5 V7:=hV7▸(Gr.refl w5).alloc _;have HN7:RowKit.Hid (RI V7 V7.heap.size (bk ⟨w5.heap.size,0,bq⟩) [3,2,4]):=yJ (cN (t:=3) (f:=(0,0)) (by rw[hV7];exact heap_alloc_new w5 _) (by rw[hV7];simp));have HC7:=yJ (mz (bk ⟨w5.heap.size,0,bq⟩) 3 [3,2,4] V7);have air:=yJ T7;have HV7:=yJ hV7;have hzV7:=T7.size;clear T7 hV7;go_wp2_with fail;rw[<-HV7.out];refine HC7.out.mono ?_;rintro e x7 ⟨hA7,rfl,adt,T9⟩
 have HX7:=yJ (air.out.trans T9);have adu:=yJ ((HN7.out.gr (yL _) T9).more T9.size);have adv:=yJ adt;have hzx7:=T9.size;clear adt T9;have ec:Cj (bk ⟨w5.heap.size,0,bq⟩) hA7 (CY [3,2,4]) 3 3=.agg #[.slice (bk ⟨w5.heap.size,0,bq⟩) 3 3,bb hA7 3 3]:=rfl;rw[ec];clear ec;have HGU:=yJ (kJ x7);go_wp2_with fail;refine HGU.out.mono ?_;rintro e x8 ⟨gA,rfl,Xt,OG⟩;obtain⟨V8,hV8⟩:∃V:bw,V=x8.alloc (cw #[br bs 2,br bs 6] 62):=⟨_,rfl⟩
 have Np:Gr x8 V8:=hV8▸(Gr.refl x8).alloc _;have adx:GI V8 V8.heap.size (bk ⟨x8.heap.size,0,bq⟩) [(2,6)]:=yG (t:=62) (f:=(0,0)) (by rw[hV8];exact heap_alloc_new _ _) (by rw[hV8];simp)
 have ady:=yJ (xx (bk ⟨w5.heap.size,0,bq⟩) hA7 gA (bk ⟨x8.heap.size,0,bq⟩) V8 V8.heap.size (yL _) ((adu.out.gr (yL _) (OG.trans Np)).more (OG.trans Np).size)
  ((adv.out.keep λb o hb=>(OG.trans Np).cell (p:=⟨b,o,bq⟩) hb).more (OG.trans Np).size) ((Xt.gr (yL _) Np).more Np.size) adx)
 have Y8:=yJ (HX7.out.trans (OG.trans Np));have HV8:=yJ hV8;have VQ:(De.length:Nat)=3:=rfl;clear Xt OG hV8 Np adx HGU;rw[VQ];go_wp2_with fail;rw[<-HV8.out];refine ady.out.mono ?_;rintro e w9 ⟨OH,A10,k10,rfl,Xu⟩;have hzz9:=(Y8.out.trans OH).size;have HB9:=yJ (HB5.out.gr (by omega) (Y8.out.trans OH));have ait:=yJ (aiq.out.gr (by omega) (Y8.out.trans OH));have aiu:=yJ (HI8.out.gr (yL _) (Y8.out.trans OH))
 have Y4:=yJ Xu;clear OH Xu ady HN7 HC7 adv adu;have Xv:=yJ (kJ w9);go_wp2_with fail;refine Xv.out.mono ?_;rintro e g11 ⟨aiv,rfl,Xt,hg⟩;have VR:=yJ (fJ A aiv c 3 De De g11 g11.heap.size (yL _) ((HB9.out.gr (by omega) hg).more (by have:=hg.size;omega)) Xt (by decide) (by decide) (by decide) (by decide));rw[decide_eq_true (rfl:De=De)] at VR;have adz:=yJ hg;have hzq11:=hg.size
 clear Xt hg Xv;have VQ:(De.length:Nat)=3:=rfl;rw[VQ];rw[VQ] at VR;clear VQ;go_wp2_with fail;refine VR.out.mono ?_;rintro e s11 ⟨rfl,hg⟩;have Y9:=yJ (adz.out.trans hg);have hzs11:=(adz.out.trans hg).size;clear hg VR;have HGM:=yJ (ait.out.gr (by omega) Y9.out);have HIM:=yJ (aiu.out.gr (by omega) Y9.out);have UC:=yJ (Y4.out.gr (by omega) Y9.out);have Xw:=yJ (kJ s11)
 go_wp2_with fail;refine Xw.out.mono ?_;rintro e g12 ⟨aiw,rfl,Xt,hg⟩;have VS:=yJ (fJ A5 aiw k5 3 De De g12 g12.heap.size (yL _) ((HGM.out.gr (by omega) hg).more (by have:=hg.size;omega)) Xt (by decide) (by decide) (by decide) (by decide));rw[decide_eq_true (rfl:De=De)] at VS;have adA:=yJ hg;have hzq12:=hg.size;clear Xt hg Xw;have VQ:(De.length:Nat)=3:=rfl;rw[VQ]
 rw[VQ] at VS;clear VQ;go_wp2_with fail;refine VS.out.mono ?_;rintro e s12 ⟨rfl,hg⟩;have VJ:=yJ (adA.out.trans hg);have hzs12:=(adA.out.trans hg).size;clear hg VS;obtain⟨V13,Ua⟩:∃V:bw,V=s12.alloc (cw #[br bs 1,br bs 2] 3):=⟨_,rfl⟩;have Mn:Gr s12 V13:=Ua▸(Gr.refl s12).alloc _;have Za:=yJ (cV A8 (bk ⟨s12.heap.size,0,bq⟩) k8 2 [1,2] [1,2] V13 V13.heap.size (yL _) (((HIM.out.gr (by omega) VJ.out).gr (by omega) Mn).more (by have:=Mn.size;omega)) (cN (t:=3) (f:=(0,0)) (by rw[Ua];exact heap_alloc_new _ _) (by rw[Ua];simp)) (by decide) (by decide))
 rw[decide_eq_true (rfl:([1,2]:List Int)=[1,2])] at Za;have aiy:=yJ Ua;have adB:=yJ Mn;have hzq13:=Mn.size;clear Mn Ua;go_wp2_with fail;rw[<-aiy.out];refine Za.out.mono ?_;rintro e s13 ⟨rfl,hg⟩;have aiz:=yJ (adB.out.trans hg);have hzs13:=(adB.out.trans hg).size;clear hg Za;obtain⟨V14,Ub⟩:∃V:bw,V=s13.alloc (cw #[br bs 8,br bs 0,br bs (-8)] 3):=⟨_,rfl⟩;have Mn:Gr s13 V14:=Ub▸(Gr.refl s13).alloc _
 have Zb:=yJ (cV A10 (bk ⟨s13.heap.size,0,bq⟩) k10 3 [8,0,-8] [8,0,-8] V14 V14.heap.size (yL _) ((((UC.out.gr (by omega) VJ.out).gr (by omega) aiz.out).gr (by omega) Mn).more (by have:=Mn.size;omega)) (cN (t:=3) (f:=(0,0)) (by rw[Ub];exact heap_alloc_new _ _) (by rw[Ub];simp)) (by decide) (by decide));rw[decide_eq_true (rfl:([8,0,-8]:List Int)=[8,0,-8])] at Zb;have aiB:=yJ Ub;have adC:=yJ Mn
 have hzq14:=Mn.size;clear Mn Ub;go_wp2_with fail;rw[<-aiB.out];refine Zb.out.mono ?_;rintro e s14 ⟨rfl,hg⟩;have HT14:=yJ (adC.out.trans hg);have hzs14:=(adC.out.trans hg).size;clear hg Zb;go_wp2
section
variable {Q:bD->bw->Prop} {b:cq} {a:Act} {todo:List Item} {cs:List cq} {w:bw} {BB:cf->Bool}
def rR (hQ:∀g w W,Cs w W->Q g w->Q g W)(hf:BB b.fn=bW)(hg:∀o,({ b.at a todo with mode:=.returning }:cq).oper?=bk o->aL bc o.op=bW)(h:∀τ d,(stepG bc bW (cF { b.at a todo with mode:=.returning } cs) (on w τ d)).goes (λg' w' _=>g'.callers≠[]/\∃W,Cs W w'/\C1 bc BB Q 0 g' W)) :
  C1 bc BB Q 0 (cF { b.at a todo with mode:=.returning } cs) w:=by
 refine C1.step ⟨hf,hg⟩ λτ d=>?_;have:=h τ d;cases hs:stepG bc bW (cF { b.at a todo with mode:=.returning } cs) (on w τ d) with
 |go g' w' es =>
  rw[hs] at this;obtain⟨h1,W,h2,h3⟩:=this;exact⟨g',w',es,rfl,h1,h3.same hQ h2⟩
 |_=>rw[hs] at this;exact this.elim
end
def xz:codeOk B1 GC cr bW Sk=true:=by kernel_rfl
def vQ {QT:bD->bw->Prop}{C:cq}{cs:List cq}(hQT:∀g w W,Cs w W->QT g w->QT g W)
  (h:∀(a':Act) (todo:List Item) (w':bw),a'.tmps.getD 0 undef=.bool bW->a'.defers=[]->(∀o,({ (base 6).at a' todo with mode:=.returning }:cq).oper?=bk o->aL bc o.op=bW)->C1 bc Gv QT 0 (cF { (base 6).at a' todo with mode:=.returning } (C::cs)) w'):j6 QT (C::cs):=by
 intro K A c B xs w' U ρ Ik ho hU u1 u2 u3 u4 Sm Er;obtain⟨y0,y1,y2,y3,y4,y5,y6,y7,y8,y9,Hl,Hm,Hn,Ho,Hp,Hq,Hr,Hs,Ht,JH,JI,JJ,JK,JL,JM,NS,NT,SM,SN,SQ,SR,SS,SU,SV,SX,SY,SZ,S0,S2,S3,S4,S5,S6,S7,S8,S9,Ta,Tb,Tc,Td,Te,Tf,Tg,Ti,Tj,Tk,Tl,Tm,Tn,Tp,Tq,Ts,Tt,Tu,Tv,Tx,Ty,Tz,TA,TB,TC,TD,TE,TF,TG,TH,TJ,TK,TL,TM,TN,TP,TQ,TR,TT,TU,TV,TW,TX,TY,TZ,T2,T3,T4,T5,rfl⟩:=yp hU
 have u1:y1=br bs 1:=u1;have u2:y2=br bs 0:=u2;have u3:y3=bb A 3 c:=u3;have u4:y4=br bs 0:=u4;subst u1 u2 u3 u4;have KG:Da w' w'.heap.size A De:=by
  obtain⟨A',c',hv,hg⟩:=ho.K5;have hA:A=A':=by injection hv
  subst hA;have hl:=tO;rw[Ik] at hl;have:CG ρ 3=De:=by simpa using hl
  rw[<-this];exact hg
 have J0:Cq B1 GC Bn cr (CX K) ((base 6).at ⟨#[y0,br bs 1,br bs 0,bb A 3 c,br bs 0,y5,y6,y7,y8,y9,Hl,Hm,Hn,Ho,Hp,Hq,Hr,Hs,Ht,JH,JI,JJ,JK,JL,JM,NS,NT,SM,SN,SQ,SR,SS,SU,SV,SX,SY,SZ,S0,S2,S3,S4,S5,S6,S7,S8,S9,Ta,Tb,Tc,Td,Te,Tf,Tg,Ti,Tj,Tk,Tl,Tm,Tn,Tp,Tq,Ts,Tt,Tu,Tv,Tx,Ty,Tz,TA,TB,TC,TD,TE,TF,TG,TH,TJ,TK,TL,TM,TN,TP,TQ,TR,TT,TU,TV,TW,TX,TY,TZ,T2,T3,T4,T5],[]⟩ [.code Sk]) ((base 6).at ⟨#[y0,br bs 1,br bs 0,bb A 3 c,br bs 0,y5,y6,y7,y8,y9,Hl,Hm,Hn,Ho,Hp,Hq,Hr,Hs,Ht,JH,JI,JJ,JK,JL,JM,NS,NT,SM,SN,SQ,SR,SS,SU,SV,SX,SY,SZ,S0,S2,S3,S4,S5,S6,S7,S8,S9,Ta,Tb,Tc,Td,Te,Tf,Tg,Ti,Tj,Tk,Tl,Tm,Tn,Tp,Tq,Ts,Tt,Tu,Tv,Tx,Ty,Tz,TA,TB,TC,TD,TE,TF,TG,TH,TJ,TK,TL,TM,TN,TP,TQ,TR,TT,TU,TV,TW,TX,TY,TZ,T2,T3,T4,T5],[]⟩ [.code Sk]):=by
  refine⟨rfl,?_,.cons (.code xz) .nil,.nil,.run,rfl,⟨(by show CallKind.normal≠.early;decide),(by show GC 6=bW;decide)⟩,.none⟩;exact Dn (l:=[y0,br bs 1,br bs 0,bb A 3 c,br bs 0,y5,y6,y7,y8,y9,Hl,Hm,Hn,Ho,Hp,Hq,Hr,Hs,Ht,JH,JI,JJ,JK,JL,JM,NS,NT,SM,SN,SQ,SR,SS,SU,SV,SX,SY,SZ,S0,S2,S3,S4,S5,S6,S7,S8,S9,Ta,Tb,Tc,Td,Te,Tf,Tg,Ti,Tj,Tk,Tl,Tm,Tn,Tp,Tq,Ts,Tt,Tu,Tv,Tx,Ty,Tz,TA,TB,TC,TD,TE,TF,TG,TH,TJ,TK,TL,TM,TN,TP,TQ,TR,TT,TU,TV,TW,TX,TY,TZ,T2,T3,T4,T5]) Sm
 have hs:=(ee (H:=Bn) fT).seg (b:=base 6) (a:=⟨#[y0,br bs 1,br bs 0,bb A 3 c,br bs 0,y5,y6,y7,y8,y9,Hl,Hm,Hn,Ho,Hp,Hq,Hr,Hs,Ht,JH,JI,JJ,JK,JL,JM,NS,NT,SM,SN,SQ,SR,SS,SU,SV,SX,SY,SZ,S0,S2,S3,S4,S5,S6,S7,S8,S9,Ta,Tb,Tc,Td,Te,Tf,Tg,Ti,Tj,Tk,Tl,Tm,Tn,Tp,Tq,Ts,Tt,Tu,Tv,Tx,Ty,Tz,TA,TB,TC,TD,TE,TF,TG,TH,TJ,TK,TL,TM,TN,TP,TQ,TR,TT,TU,TV,TW,TX,TY,TZ,T2,T3,T4,T5],[]⟩) (c:=Sk) (k:=[]) (C:=C) (cs:=cs) (Q:=QT) (w:=w') (K0:=K) J0 (λ_ _=>zf _) (zf _) (λb _ hb=>by cases hb) (λb hb=>by cases hb) (λb hb _=>Er b hb)
  (λs h=>by cases h) (λ_ _ _ _ _ _ _ _ _ _ _ h=>by cases h) (.inr ⟨_,_,BR,rfl⟩) hQT
  (N:=λe a' _=>e=.ret/\a'.tmps.getD 0 undef=.bool bW/\a'.defers=[]) (λτ d=>vP A c y0 y5 y6 y7 y8 y9 Hl Hm Hn Ho Hp Hq Hr Hs Ht JH JI JJ JK JL JM NS NT SM SN SQ SR SS SU SV SX SY SZ S0 S2 S3 S4 S5 S6 S7 S8 S9 Ta Tb Tc Td Te Tf Tg Ti Tj Tk Tl Tm Tn Tp Tq Ts Tt Tu Tv Tx Ty Tz TA TB TC TD TE TF TG TH TJ TK TL TM TN TP TQ TR TT TU TV TW TX TY TZ T2 T3 T4 T5 (on w' τ d) KG)
  (λa' w' h=>by cases h.1) (λa' w' todo hn hpl=>h a' todo w' hn.2.1 hn.2.2 hpl)
 exact hs
structure Nq (f:cf) where
 fn:Func
 t:Nat
 hf:Tryz.prog.funcs[f]?=bk fn
 hres:fn.results=#[.tmp t]
 looked:Gv f=bW
 fr:Act->cq
 N:Act->Prop
 back:∀a,N a->j6 (Ct.Left bc f λv _=>v=.bool bW) (fr a::[bad])
def fE {P:Program}{N K:Nat}{m m1 m2:Machine}{t t1 t2:Trace}(h:runNT P N m t=(.next m1,t1))(k:runNT P K m1 t1=(.next m2,t2)):runNT P (N+K) m t=(.next m2,t2):=by
 rw[cT h];exact k
def Uc {f:cf}{fn:Func}{t:Nat}(hf:Tryz.prog.funcs[f]?=bk fn)(hres:fn.results=#[.tmp t])(hb:Gv f=bW){H:Hid}{β:Cm}{g A:bD}{w:bw}(hg:El PP KD H bW Gv [] β g A)(hl:Ct.Left bc f (λv _=>v=.bool bW) g w)(W:bw) :
  A.status=.running/\stepG bc bW A W=.ended (.done (.bool bW)) W #[]:=by
 obtain⟨w0,v,fr,hs,rfl,rfl,J0,hm,hd,hk,Fw,hfn,hr⟩:=hl;have FD:=hg.top.Hh (show Gv fr.fn=bW by rw[J0];exact hb);have e0:=hg.status.2;have e1:=hg.dying.2;have e2:=hg.offers.2;have hcs:=hg.callers;obtain⟨FR,CS2,st,dy,off⟩:=A;dsimp only at e0 e1 e2 hcs FD;subst e0 e1 e2;have Wu:CS2=[]:=by
  cases hcs with
  |base=>rfl
  |cons _ h=>exact absurd rfl h.ne
 subst Wu;refine⟨rfl,?_⟩;obtain⟨Ux,tmps,todo,defers,mode,kind,round⟩:=fr;obtain⟨fn2,JB,Wv,LP,Rn,aa7,Rp⟩:=FR;obtain⟨a1,a2,a3,a4,a5,a6,a7,a8⟩:=FD;dsimp only[C6] at a1 a2 a3 a4 a5 a6 a7 a8 hm hd hk hfn hr J0;subst a1 a6 hm hd hk J0;have d2:LP=[]:=by cases a4;rfl
 have m2:Rn=.returning:=by cases a5;rfl
 subst d2 m2;rw[hf] at hfn;cases hfn;have hv:tmps.getD t undef=.bool true:=by
  have:=results_tmp hres tmps bc w0;rw[hr] at this;injection this with h1 _
  exact h1.symm
 have hV:=a2.getD t (B6.undef (SP KD H) β);rw[hv] at hV;have hV2:JB.getD t undef=.bool true:=by
  generalize JB.getD t undef=V at hV;cases hV;rfl
 have hr2:=results_tmp hres JB bc W;rw[hV2] at hr2;have he2:=events_results_tmp (P:=bc) (w:=W) hres JB #[];have hne:¬2=Ux:=λe=>by subst e;revert hb;decide
 simp[stepG,unwind,doReturn,hf,hr2,he2,seen,GStep.after,hne]
section
variable {f:cf}
def H8 (E:Nq f)(g:bD)(w:bw):Prop:=∃a:Act,E.N a/\Nf (E.fr a::[bad]) g w
def vR (E:Nq f){A:bD}{W:bw}{x:Lone}(ht:Tw PP KD Gv bW 0 (λ_=>False) ⟨λB=>B<W.heap.size,W,0⟩ x A W)(hx:C1 bc Gv (H8 E) 0 x.g x.w)(hT:x.T=[])(hH:∀b,x.H b=cr) :
  ∃N last o w' t',runNT bc (N+1) (crowd #[A] W bq) #[]=(.ended o w',t')/\runN bc N (crowd #[A] W bq)=.next last/\step bc last=.ended o w' /\
   Go.Conc.Good bc (λv w'=>v=.bool bW/\(w'.os=W.os/\w'.output=W.output)/\W.heap.size<=w'.heap.size/\∀B,B<W.heap.size->w'.heap[B]?=W.heap[B]?) last o w' t':=by
 have hb:H7 bc (λ_=>False) #[A] W #[] (λ_=>0):=by
  refine⟨⟨λi g hi hg=>?_,λj _=>rfl⟩,⟨past_nil.clean,λi a ha=>?_,past_nil.over,past_nil.hears,λop hop=>by simp at hop⟩,λi op x h=>by simp at h,λi op h=>by simp at h,λB h=>h.elim⟩
  .have:=(yK.1 hg).1;simp at this;omega
  .simp[touchAt,Trace.act?] at ha
 obtain⟨N1,m1,t1,r1,Lh,W1,Qc,q1,x1,A1,rfl,a1,a2,a3,a4,a5,a6,a7,a8,a9,a10⟩:=GY (P:=PP) (SB:=KD) (BB:=Gv) (lets:=bW) (Gn:=0) (Dead:=λ_=>False) (Kp:=⟨λB=>B<W.heap.size,W,0⟩) Pz Sp (H:=x.H) (T:=x.T) (β:=x.β) (Q:=H8 E) (λg w h=>by obtain⟨a,_,h⟩:=h;exact .inl (Nf.fn g w h)) (os:=W.os) (ou:=W) (n:=1) (b0:=x.w.heap.size) (B0:=W.heap.size) _ (crowd #[A] W bq) #[]
  ⟨#[A],W,bq,λ_=>0,x,A,0,rfl,rfl,rfl,.of hb,ht,hx,rfl,rfl,Cm.le_refl _,⟨rfl,rfl⟩,⟨yL _,yL _,λb B h=>.inl h⟩,rfl⟩
 obtain⟨a,ha,Xi⟩:=a5;have hH1:∀b,x1.H b=false:=λb=>by rw[a6];exact hH b
 obtain⟨N2,m2,t2,r2,Z2,W2,U6,q2,A2,adD,g2,w2,rfl,b1,b2,b3,b4,b5,b6,b7,b8,b9⟩:=Qj (sl:=Qc) a3.btw a4 a1 Xi (Cp _ _) hH1 (by omega);obtain⟨N3,m3,t3,r3,gs3,W3,sl3,q3,x3,A3,rfl,c1,c2,c3,c4,c5,c6,c7,c8,c9,c10⟩:=GY (P:=PP) (SB:=KD) (BB:=Gv) (lets:=bW) (Gn:=0) (Dead:=adD) (Kp:=⟨λB=>B<W.heap.size,W,0⟩) Pz Sp (H:=x1.H) (T:=x1.T) (β:=x1.β) (Q:=Sr (E.fr a::[bad])) (λg w h=>.inl (Sr.fn g w h)) (os:=W2.os) (ou:=W2) (n:=Z2.size) (b0:=w2.heap.size) (B0:=W2.heap.size) _ (crowd Z2 W2 U6) t2
  ⟨Z2,W2,U6,q2,⟨g2,w2,x1.H,x1.β,x1.T⟩,A2,0,rfl,b1,rfl,.of b3,b4,b5,rfl,rfl,Cm.le_refl _,⟨rfl,rfl⟩,⟨yL _,yL _,λb B h=>.inl h⟩,rfl⟩
 obtain⟨N4,m4,t4,r4,UB,W4,Yr,q4,A4,Xx,g4,w4,rfl,d1,d2,d3,d4,d5,d6,d7,d8,d9⟩:=Ss (sl:=sl3) Ct.Left.same (E.back a ha) c3.btw c4 c1 c5 (Cp _ _) (λb=>by rw[c6];exact hH1 b) (by omega);obtain⟨N5,m5,t5,r5,gs5,W5,sl5,q5,x5,A5,rfl,f1,f2,f3,f4,f5,f6,f7,f8,f9,f10⟩:=GY (P:=PP) (SB:=KD) (BB:=Gv) (lets:=bW) (Gn:=0) (Dead:=Xx) (Kp:=⟨λB=>B<W.heap.size,W,0⟩) Pz Sp (H:=x3.H) (T:=x3.T) (β:=x3.β) (Q:=Ct.Left bc f λv _=>v=.bool bW) (λg w h=>.inr ⟨f,_,h⟩) (os:=W4.os) (ou:=W4) (n:=UB.size) (b0:=w4.heap.size) (B0:=W4.heap.size) _ (crowd UB W4 Yr) t4
  ⟨UB,W4,Yr,q4,⟨g4,w4,x3.H,x3.β,x3.T⟩,A4,0,rfl,d1,rfl,.of d3,d4,d5,rfl,rfl,Cm.le_refl _,⟨rfl,rfl⟩,⟨yL _,yL _,λb B h=>.inl h⟩,rfl⟩
 have eT:x5.T=[]:=f7.trans (c7.trans (a7.trans hT));have hrun:=fE r1 (fE r2 (fE r3 (fE r4 r5)));have Jn:=f4.gl;unfold Dv at Jn;rw[eT] at Jn;have Pn:W5.os=W.os/\W5.output=W.output:=⟨f9.1.trans (d7.1.trans (c9.1.trans (b7.1.trans a9.1))),f9.2.trans (d7.2.trans (c9.2.trans (b7.2.trans a9.2)))⟩;have hsz:W.heap.size<=W5.heap.size:=by have:=f10.1;have:=c10.1;have:=a10.1;omega
 obtain⟨M,last,o,w',t',e1,e2,e3,e4⟩:=beside_ends (P:=bc) (Shun:=Ip Xx) (B:=W5.heap.size) (D:=λ_ _ _=>False) (Post:=λv w'=>v=.bool bW/\(w'.os=W.os/\w'.output=W.output)/\W.heap.size<=w'.heap.size/\∀B,B<W.heap.size->w'.heap[B]?=W.heap[B]?) (λ_ _ _ h=>h.elim) (gs:=gs5) (a:=A5) (w:=W5) (sl:=sl5) (t:=t5) (q:=q5) (n:=0) f1 f3.btw.lv f3.btw.past (λw1 F0=>by
  obtain⟨d,rfl⟩:=F0;obtain⟨s1,s2⟩:=Uc E.hf E.hres E.looked Jn f5 (W5.at d)
  exact⟨s1,.bool bW,#[],s2,λe he=>by simp at he,rfl,Pn,hsz,λB hB=>(f4.keep B hB).2⟩)
 refine⟨N1+(N2+(N3+(N4+N5)))+M,last,o,w',t',?_,?_,e3,e4⟩
 .exact(cT hrun).trans e1
 .have h1:=congrArg Prod.fst (cT (K:=M) hrun);rw[runNT_fst,runNT_fst] at h1;exact h1.trans e2
end
end Go.Sq
