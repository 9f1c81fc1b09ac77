/- Parts of the proof. -/
import Derived.Test.YteckikkkfpblhaaGreatP17
import Derived.Test.YteckikkkfpblhaaGreatP00
import Derived.Test.YteckikkkfpblhaaGreatP16
import Derived.Test.YteckikkkfpblhaaGreatP13
import Derived.Test.YteckikkkfpblhaaGreatP15
import Derived.Test.YteckikkkfpblhaaGreatP14
import Derived.Test.YteckikkkfpblhaaGreatP02
set_option linter.all false
set_option maxHeartbeats 16000000
set_option maxRecDepth 1000000
namespace Go.Proofs.Ao
open Go.RowKit Go.AW Go.Co Go.Conc Go.Sq
attribute [local go_sem] Oper.semAt_some
noncomputable def wB:Code:=Tryz.f6.body.getD .skip
noncomputable def e1:Array Oper:=Dg (aE (af wB))
noncomputable def e2:Array Oper:=Dg (aE (af (af wB)))
noncomputable def qN:Code:=af (af wB)
noncomputable def P9:Code:=af (af (af wB))
def Kk (bn:Nat)(w1:World)(v:Value)(w':World):Prop:=∃bo bh:Nat,v=AH (some ⟨bn,0,none⟩) (some ⟨bh,0,none⟩) AL 3 3/\w'.heap[bo]?=some (.cells #[.int .i64 0] 3 (0,0))/\w'.heap[bh]?=some (.cells (EI bo).toArray 46 (0,0))/\w1.heap.size<=w'.heap.size/\∀b,b<w1.heap.size->w'.heap[b]?=w1.heap[b]?
def Lq {bn:Nat}{w:World}(τ:Tape)(d:Nat):Calls An 20 #[.slice (some ⟨bn,0,none⟩) 3 3] (on w τ d) (λe w'=>∃v,e=.returned v/\Kk bn w v w'):=by
 refine(qC (some ⟨bn,0,none⟩) 3 [3,2,4] (on w τ d)).mono ?_;rintro e w' ⟨hA,rfl,_,hg,rfl,h1,h2⟩;exact⟨_,rfl,_,_,rfl,h1,by simpa [EI] using h2,hg.size,λb hb=>hg.below.block b hb⟩
def Np {bn:Nat}{w:World}{SB:FuncId->Bool}(hn:w.heap[bn]?=some (.cells D9.toArray 3 (0,0))):∀b,b=bn->∃o,w.heap[b]?=some o/\Bw (SP SB zD) (CK An SB false) (Bn λb=>b=bn) o o:=by
 rintro b rfl;refine⟨_,hn,.cells (BQ λv hv=>?_) λi h1 h2=>⟨h1,h2⟩⟩;simp only[D9,xu,xm,or_false] at hv;rcases hv with rfl|rfl|rfl<;>exact Aw.int _ _
def ug {BB:FuncId->Bool}(hB:BB 6=true)(Wn:BB 19=true)(LU:ET BB){Q:Goroutine->World->Prop}(hQ:∀g w W,AR w W->Q g w->Q g W){cs:List Frame}(hcs:cs≠[]){w:World}
  (h:∀(bn bo bh cb sb cap nb:Nat) (cur:List Value) (t:TypeId) (w':World) (T U:Array Value),CV w' bn bo bh cb sb cap cur t->w'.heap[nb]?=some (GI 0)->hasB (Bd bn bo bh cb sb cap cur t) nb=false->T.size=19->T.getD 6 undef=.pointer (some ⟨nb,0,none⟩) ->
   U.size=95->(∀v∈U.toList,∀(SB:FuncId->Bool) (H:Hid),BM SB H (λb=>hasB (Bd bn bo bh cb sb cap cur t) b=true) v)->w.heap.size<=w'.heap.size->(∀b,b<w.heap.size->w'.heap[b]?=w.heap[b]?) ->
   Br Tryz.prog BB Q 0 (bZ PP 39 (E3 cb (.func 40) #[] [Value.pointer (some ⟨nb,0,none⟩)].toArray) ((base 19).at ⟨T,[]⟩ [.inRegion c5 [2],.code x5]) ((base 6).at ⟨U,[]⟩ [.inRegion e1 [2,3,4,5,6,7],.code qN]::cs)) w') :
  Br Tryz.prog BB Q 0 (Go.Conc.G (Frame.enter Tryz.prog 6 #[] .normal) cs) w:=by
 rw[enter_at _ Tryz.func6 rfl];simp only[Tryz.ntmps6,xB,xz,xF,Nat.reduceAdd,Nat.reduceSub,yi,yj,yv,yn,yD,yt];change Br Tryz.prog BB Q 0 (G _ cs) w;refine au hQ hB hcs ?_;refine aC hQ hB hcs ?_;simp only[xB,xz,xF,Nat.reduceAdd,xG,List.range,List.range.loop];refine ag hQ hB hcs rfl rfl λK hK q1 q2 q3=>?_;go_simp;refine hK _ w ?_ _ ⟨rfl,rfl,rfl⟩;clear hK K q1 q2 q3
 try walk_nrm
 try simp only[ab]
 refine aB hQ hB hcs ?_;refine au hQ hB hcs ?_;refine aC hQ hB hcs ?_;simp only[xB,xz,xF,Nat.reduceAdd,xG,List.range,List.range.loop];refine ag hQ hB hcs rfl rfl λK hK q1 q2 q3=>?_;go_simp;refine hK _ (w.alloc _) ?_ _ ⟨rfl,rfl,rfl⟩;clear hK K q1 q2 q3
 try walk_nrm
 try simp only[ab]
 obtain⟨w1,Eb⟩:∃w1,w1=w.alloc (.cells D9.toArray 3):=⟨_,rfl⟩;change Br Tryz.prog BB Q 0 _ (w.alloc (.cells D9.toArray 3));rw[<-Eb];have Kl:=xf (show w1.heap.size=w.heap.size+1 by rw[Eb,aI]);have Qb:=xf (show ∀b,b<w.heap.size->w1.heap[b]?=w.heap[b]? from λb hb=>by rw[Eb,aF,if_neg (by omega)]);have Lr:w1.heap[w.heap.size]?=some (.cells D9.toArray 3 (0,0)):=by rw[Eb,aF,if_pos rfl]
 clear Eb;refine aA hQ hB (by kernel_rfl) λτ d=>?_;refine aG rfl rfl (by decide) rfl Tryz.func20 (by kernel_rfl) (by kernel_rfl) ⟨AP _ _,w1,zC,?_⟩
 try walk_nrm
 refine(dP (H:=zD) LU).fn (f:=20) (by decide) (by decide) (K0:=λb=>b=w.heap.size) hcs (λ_ _=>xK _) (xK _) (BQ (l:=[.slice (some ⟨w.heap.size,0,none⟩) 3 3]) λv hv=>?_) (λb _ hb=>by cases hb) (λb hb=>by cases hb) (λb hb _=>Np Lr b hb) hQ (R:=Kk w.heap.size w1) Lq ?_
 .simp only[xu,xm,or_false] at hv;subst hv;exact BM.slice (K:=λb=>b=w.heap.size) rfl _ _ _ _
 rintro v w2 ⟨bo,bh,rfl,Wo,Wp,aam,I7⟩;change Br Tryz.prog BB Q 0 _ w2;rw[Frame.finish_at];simp only[xT,List.getElem?_cons_succ,List.getElem?_cons_zero,yd]
 try walk_nrm
 refine aA hQ hB (by kernel_rfl) λτ d=>?_;refine aG rfl rfl (by decide) rfl Tryz.func19 (by kernel_rfl) (by kernel_rfl) ⟨AP _ _,w2,zC,?_⟩
 try walk_nrm
 refine qI Wn LU hQ (AP _ _) (bn:=w.heap.size) (bo:=bo) (bh:=bh) ((I7 _ (by have:=Kl.out;omega)).trans Lr) Wo Wp λcb sb cap nb cur t w' T hC ML Nk hT h6 hz hold=>?_;refine h w.heap.size bo bh cb sb cap nb cur t w' T _ hC ML Nk hT h6 rfl (λv hv SB H=>?_) (by have:=Kl.out;omega) λb hb=>(hold b (by have:=Kl.out;omega)).trans ((I7 b (by have:=Kl.out;omega)).trans (Qb.out b hb))
 have k0:BM SB H (λb=>hasB (Bd w.heap.size bo bh cb sb cap cur t) b=true) (.slice (some ⟨w.heap.size,0,none⟩) 3 3):=BM.slice ((Bz _).2 (by simp)) _ _ _ _;have k1:BM SB H (λb=>hasB (Bd w.heap.size bo bh cb sb cap cur t) b=true) (AH (some ⟨w.heap.size,0,none⟩) (some ⟨bh,0,none⟩) AL 3 3):=BM.agg (l:=[.slice (some ⟨w.heap.size,0,none⟩) 3 3,.slice (some ⟨bh,0,none⟩) 3 3]) λv hv=>by
  simp only[xu,xm,or_false] at hv;rcases hv with rfl|rfl
  .exact k0
  .exact BM.slice ((Bz _).2 (by simp)) _ _ _ _
 simp only[xu,xm,or_false,or_self] at hv
 repeat (rcases hv with hv|hv;· subst hv;first|exact Aw.bool _|exact k0|exact k1|exact BM.undef)
 subst hv;first|exact Aw.bool _|exact k0|exact k1|exact BM.undef
def UF {T:Array Value}(h:T.size=95):∃(y0 y1 y2 y3 y4 y5 y6 y7 y8 y9 FQ FT FU FV FX FY FZ F0 F2 H7 H8 H9 Ia Ib Ic:Value) (tl:List Value),T=(y0::y1::y2::y3::y4::y5::y6::y7::y8::y9::FQ::FT::FU::FV::FX::FY::FZ::F0::F2::H7::H8::H9::Ia::Ib::Ic::tl).toArray/\tl.length=70:=by
 obtain⟨l⟩:=T;have h:l.length=95:=h
 match l,h with
 |y0::y1::y2::y3::y4::y5::y6::y7::y8::y9::FQ::FT::FU::FV::FX::FY::FZ::F0::F2::H7::H8::H9::Ia::Ib::Ic::tl,h=>exact⟨y0,y1,y2,y3,y4,y5,y6,y7,y8,y9,FQ,FT,FU,FV,FX,FY,FZ,F0,F2,H7,H8,H9,Ia,Ib,Ic,tl,rfl,by simpa using h⟩
def uh {BB:FuncId->Bool}(hB:BB 6=true)(Wn:BB 19=true)(Wq:BB 21=true)(LU:ET BB){Q:Goroutine->World->Prop}(hQ:∀g w W,AR w W->Q g w->Q g W){cs:List Frame}(hcs:cs≠[]){K1:Nat->Prop}{nb:Nat}{w:World}
  (hn:w.heap[nb]?=some (GI 1)) {T U:Array Value} (hT:T.size=19) (h6:T.getD 6 undef=.pointer (some ⟨nb,0,none⟩)) (hU:U.size=95) (N0:∀v∈U.toList,∀(SB:FuncId->Bool) (H:Hid),BM SB H K1 v)
  (h:∀(bn bo bh cb sb cap qb xb kb:Nat) (cur:List Value) (t:TypeId) (w':World) (T U:Array Value),CV w' bn bo bh cb sb cap cur t->w'.heap[kb]?=some (Ds false λ_=>0)->(∀p∈CE xb qb cb,w'.heap[p.1]?=some (.cells p.2.1.toArray p.2.2 (0,0)))->hasB (Bd bn bo bh cb sb cap cur t++CE xb qb cb) kb=false ->
   T.size=27->T.getD 4 undef=.pointer (some ⟨qb,0,none⟩)->T.getD 7 undef=.pointer (some ⟨kb,0,none⟩) ->
   U.size=95->U.getD 1 undef=.int .i64 1->U.getD 2 undef=.int .i64 0->(∀v∈U.toList,∀(SB:FuncId->Bool) (H:Hid),BM SB H (λb=>K1 b\/hasB (Bd bn bo bh cb sb cap cur t) b=true) v)->w.heap.size<=w'.heap.size->(∀b,b<w.heap.size->w'.heap[b]?=w.heap[b]?) ->
   Br Tryz.prog BB Q 0 (bZ PP 39 (E3 cb (.func 46) #[] [Value.pointer (some ⟨kb,0,none⟩),.pointer (some ⟨xb,0,none⟩)].toArray) ((base 21).at ⟨T,[]⟩ [.inRegion d6 [2],.code z6]) ((base 6).at ⟨U,[]⟩ [.inRegion e2 [2,3,4,5,6,7],.code P9]::cs)) w') :
  Br Tryz.prog BB Q 0 (back ((base 19).at ⟨T,[]⟩ [.inRegion c5 [2],.code x5]) ((base 6).at ⟨U,[]⟩ [.inRegion e1 [2,3,4,5,6,7],.code qN]::cs)) w:=by
 refine pg Wn LU hQ hcs hn hT h6 ?_;obtain⟨y0,y1,y2,y3,y4,y5,y6,y7,y8,y9,FQ,FT,FU,FV,FX,FY,FZ,F0,F2,H7,H8,H9,Ia,Ib,Ic,tl,rfl,J9⟩:=UF hU;have UG:(e1[2]?.bind (·.dst))=some 15:=rfl;rw[UG]
 try walk_nrm
 have ee1:e1=Dg (aE (af wB)):=rfl;simp only[wB,Tryz.f6,Option.getD_some,af,aE,Dg] at ee1;rw[ee1];clear ee1 UG;refine ag hQ hB hcs rfl rfl λK hK q1 q2 q3=>?_;go_simp;refine hK _ w ?_ _ ⟨rfl,rfl,rfl⟩;clear hK K q1 q2 q3
 try walk_nrm
 try simp only[ab]
 refine ag hQ hB hcs rfl rfl λK hK q1 q2 q3=>?_;go_simp;refine hK _ w ?_ _ ⟨rfl,rfl,rfl⟩;clear hK K q1 q2 q3
 try walk_nrm
 try simp only[ab]
 refine ag hQ hB hcs rfl rfl λK hK q1 q2 q3=>?_;go_simp;refine hK _ w ?_ _ ⟨rfl,rfl,rfl⟩;clear hK K q1 q2 q3
 try walk_nrm
 try simp only[ab]
 refine ag hQ hB hcs rfl rfl λK hK q1 q2 q3=>?_;go_simp;refine hK _ w ?_ _ ⟨rfl,rfl,rfl⟩;clear hK K q1 q2 q3
 try walk_nrm
 try simp only[ab]
 refine ag hQ hB hcs rfl rfl λK hK q1 q2 q3=>?_;go_simp;refine hK _ w ?_ _ ⟨rfl,rfl,rfl⟩;clear hK K q1 q2 q3
 try walk_nrm
 try simp only[ab]
 refine aB hQ hB hcs ?_;have ez2:qN=af (af wB):=rfl;simp only[wB,Tryz.f6,Option.getD_some,af] at ez2;rw[ez2];clear ez2;refine au hQ hB hcs ?_;refine aC hQ hB hcs ?_;simp only[xB,xz,xF,Nat.reduceAdd,xG,List.range,List.range.loop];refine ag hQ hB hcs rfl rfl λK hK q1 q2 q3=>?_;go_simp;refine hK _ (w.alloc _) ?_ _ ⟨rfl,rfl,rfl⟩;clear hK K q1 q2 q3
 try walk_nrm
 try simp only[ab]
 obtain⟨w1,Eb⟩:∃w1,w1=w.alloc (.cells D9.toArray 3):=⟨_,rfl⟩;change Br Tryz.prog BB Q 0 _ (w.alloc (.cells D9.toArray 3));rw[<-Eb];have Kl:=xf (show w1.heap.size=w.heap.size+1 by rw[Eb,aI]);have Qb:=xf (show ∀b,b<w.heap.size->w1.heap[b]?=w.heap[b]? from λb hb=>by rw[Eb,aF,if_neg (by omega)]);have Lr:w1.heap[w.heap.size]?=some (.cells D9.toArray 3 (0,0)):=by rw[Eb,aF,if_pos rfl]
 clear Eb;refine aA hQ hB (by kernel_rfl) λτ d=>?_;refine aG rfl rfl (by decide) rfl Tryz.func20 (by kernel_rfl) (by kernel_rfl) ⟨AP _ _,w1,zC,?_⟩
 try walk_nrm
 refine(dP (H:=zD) LU).fn (f:=20) (by decide) (by decide) (K0:=λb=>b=w.heap.size) hcs (λ_ _=>xK _) (xK _) (BQ (l:=[.slice (some ⟨w.heap.size,0,none⟩) 3 3]) λv hv=>?_) (λb _ hb=>by cases hb) (λb hb=>by cases hb) (λb hb _=>Np Lr b hb) hQ (R:=Kk w.heap.size w1) Lq ?_
 .simp only[xu,xm,or_false] at hv;subst hv;exact BM.slice (K:=λb=>b=w.heap.size) rfl _ _ _ _
 rintro v w2 ⟨bo,bh,rfl,Wo,Wp,aam,I7⟩;change Br Tryz.prog BB Q 0 _ w2;rw[Frame.finish_at];simp only[xT,List.getElem?_cons_succ,List.getElem?_cons_zero,yd]
 try walk_nrm
 refine aA hQ hB (by kernel_rfl) λτ d=>?_;refine aG rfl rfl (by decide) rfl Tryz.func21 (by kernel_rfl) (by kernel_rfl) ⟨AP _ _,w2,zC,?_⟩
 try walk_nrm
 refine sx Wq LU hQ (AP _ _) (bn:=w.heap.size) (bo:=bo) (bh:=bh) ((I7 _ (by have:=Kl.out;omega)).trans Lr) Wo Wp λcb sb cap qb xb kb cur t w' T hC ML hX Nk hT h4 h7 hz hold=>?_;refine h w.heap.size bo bh cb sb cap qb xb kb cur t w' T _ hC ML hX Nk hT h4 h7 (by simp[J9]) rfl rfl (λv hv SB H=>?_) (by have:=Kl.out;omega) λb hb=>(hold b (by have:=Kl.out;omega)).trans ((I7 b (by have:=Kl.out;omega)).trans (Qb.out b hb))
 have k0:BM SB H (λb=>K1 b\/hasB (Bd w.heap.size bo bh cb sb cap cur t) b=true) (.slice (some ⟨w.heap.size,0,none⟩) 3 3):=BM.slice (.inr ((Bz _).2 (by simp))) _ _ _ _;have k1:BM SB H (λb=>K1 b\/hasB (Bd w.heap.size bo bh cb sb cap cur t) b=true) (AH (some ⟨w.heap.size,0,none⟩) (some ⟨bh,0,none⟩) AL 3 3):=BM.agg (l:=[.slice (some ⟨w.heap.size,0,none⟩) 3 3,.slice (some ⟨bh,0,none⟩) 3 3]) λv hv=>by
  simp only[xu,xm,or_false] at hv;rcases hv with rfl|rfl
  .exact k0
  .exact BM.slice (.inr ((Bz _).2 (by simp))) _ _ _ _
 have k2:BM SB H (λb=>K1 b\/hasB (Bd w.heap.size bo bh cb sb cap cur t) b=true) (.tuple #[.int .i64 1,.int .i64 0]):=by
  refine(BQ (l:=[.int .i64 1,.int .i64 0]) λv hv=>?_).tuple;simp only[xu,xm,or_false] at hv;rcases hv with rfl|rfl<;>exact Aw.int _ _
 have k3:∀u∈(y0::y1::y2::y3::y4::y5::y6::y7::y8::y9::FQ::FT::FU::FV::FX::FY::FZ::F0::F2::H7::H8::H9::Ia::Ib::Ic::tl:List Value),BM SB H (λb=>K1 b\/hasB (Bd w.heap.size bo bh cb sb cap cur t) b=true) u:=λu hu=>(N0 u (by simpa using hu) SB H).mono λb hb=>.inl hb;have hv2:v=.int .i64 1\/v=.int .i64 0\/v=.tuple #[.int .i64 1,.int .i64 0]\/v=.slice (some ⟨w.heap.size,0,none⟩) 3 3\/v=AH (some ⟨w.heap.size,0,none⟩) (some ⟨bh,0,none⟩) AL 3 3\/v∈(y0::y1::y2::y3::y4::y5::y6::y7::y8::y9::FQ::FT::FU::FV::FX::FY::FZ::F0::F2::H7::H8::H9::Ia::Ib::Ic::tl:List Value):=by
  clear k0 k1 k2 k3 h N0;simp only[xu,xm,or_false] at hv ⊢
  grind
 rcases hv2 with rfl|rfl|rfl|rfl|rfl|hv2
 .exact Aw.int _ _
 .exact Aw.int _ _
 .exact k2
 .exact k0
 .exact k1
 .exact k3 v hv2
def ui {BB:FuncId->Bool}(hB:BB 6=true)(Wq:BB 21=true)(LU:ET BB){Q:Goroutine->World->Prop}(hQ:∀g w W,AR w W->Q g w->Q g W){cs:List Frame}(hcs:cs≠[]){K1:Nat->Prop}{bn bo bh cb sb cap qb kb:Nat}{cur:List Value}{t:TypeId}{ρ:Bl}(CX:∀i,i<5->ρ i<16){w:World}
  (hC:CV w bn bo bh cb sb cap cur t) (hk:w.heap[kb]?=some (Ds true ρ)) (hq:w.heap[qb]?=some (.cells #[.pointer (some ⟨cb,0,none⟩)] 69 (0,0))) {T U:Array Value} (hT:T.size=27) (h4:T.getD 4 undef=.pointer (some ⟨qb,0,none⟩)) (h7:T.getD 7 undef=.pointer (some ⟨kb,0,none⟩))
  (hU:U.size=95) (hU1:U.getD 1 undef=.int .i64 1) (hU2:U.getD 2 undef=.int .i64 0) (N0:∀v∈U.toList,∀(SB:FuncId->Bool) (H:Hid),BM SB H K1 v)
  (h:∀(A:Option Addr) (c:Nat) (xs:List Value) (w':World) (K':Nat->Prop) (U:Array Value),AY w' (w.heap.size+1) (.slice A 3 c) (aX ρ 3) xs->w.heap.size<=w'.heap.size->(∀b,b<w.heap.size->w'.heap[b]?=w.heap[b]?)->(∀b,K' b->∃o,w'.heap[b]?=some o/\Bw (SP Fj zD) (CK An Fj false) (Bn K') o o) ->
   U.size=95->U.getD 1 undef=.int .i64 1->U.getD 2 undef=.int .i64 0->U.getD 3 undef=.slice A 3 c->U.getD 4 undef=.int .i64 0->(∀v∈U.toList,BM Fj zD (λb=>K1 b\/K' b) v)->Br Tryz.prog BB Q 0 (Go.Conc.G ((base 6).at ⟨U,[]⟩ [.code P9]) cs) w') :
  Br Tryz.prog BB Q 0 (back ((base 21).at ⟨T,[]⟩ [.inRegion d6 [2],.code z6]) ((base 6).at ⟨U,[]⟩ [.inRegion e2 [2,3,4,5,6,7],.code P9]::cs)) w:=by
 refine qM Wq LU hQ hcs CX hC hk hq hT h4 h7 λA c xs w2 K' ho hz hold hv CU=>?_;obtain⟨y0,y1,y2,y3,y4,y5,y6,y7,y8,y9,FQ,FT,FU,FV,FX,FY,FZ,F0,F2,H7,H8,H9,Ia,Ib,Ic,tl,rfl,J9⟩:=UF hU;have hU1:y1=.int .i64 1:=hU1;have hU2:y2=.int .i64 0:=hU2;subst hU1 hU2;have e21:(e2[2]?.bind (·.dst))=some 21:=rfl;rw[e21]
 try walk_nrm
 have ee2:e2=Dg (aE (af (af wB))):=rfl;simp only[wB,Tryz.f6,Option.getD_some,af,aE,Dg] at ee2;rw[ee2];clear ee2 e21;refine ag hQ hB hcs rfl rfl λK hK q1 q2 q3=>?_;go_simp;refine hK _ w2 ?_ _ ⟨rfl,rfl,rfl⟩;clear hK K q1 q2 q3
 try walk_nrm
 try simp only[ab]
 refine ag hQ hB hcs rfl rfl λK hK q1 q2 q3=>?_;go_simp;refine hK _ w2 ?_ _ ⟨rfl,rfl,rfl⟩;clear hK K q1 q2 q3
 try walk_nrm
 try simp only[ab]
 refine ag hQ hB hcs rfl rfl λK hK q1 q2 q3=>?_;go_simp;refine hK _ w2 ?_ _ ⟨rfl,rfl,rfl⟩;clear hK K q1 q2 q3
 try walk_nrm
 try simp only[ab]
 refine ag hQ hB hcs rfl rfl λK hK q1 q2 q3=>?_;go_simp;refine hK _ w2 ?_ _ ⟨rfl,rfl,rfl⟩;clear hK K q1 q2 q3
 try walk_nrm
 try simp only[ab]
 refine ag hQ hB hcs rfl rfl λK hK q1 q2 q3=>?_;go_simp;refine hK _ w2 ?_ _ ⟨rfl,rfl,rfl⟩;clear hK K q1 q2 q3
 try walk_nrm
 try simp only[ab]
 refine aB hQ hB hcs ?_;refine h A c xs w2 K' _ ho hz hold CU (by simp[J9]) rfl rfl rfl rfl λv hv3=>?_;have k0:BM Fj zD (λb=>K1 b\/K' b) (.slice A 3 c):=hv.mono λb B hb=>⟨.inr hb.1,hb.2⟩;have k2:BM Fj zD (λb=>K1 b\/K' b) (.tuple #[.slice A 3 c,.int .i64 0]):=by
  refine(BQ (l:=[.slice A 3 c,.int .i64 0]) λv hv=>?_).tuple;simp only[xu,xm,or_false] at hv;rcases hv with rfl|rfl
  .exact k0
  .exact Aw.int _ _
 have k3:∀u∈(y0::.int .i64 1::.int .i64 0::y3::y4::y5::y6::y7::y8::y9::FQ::FT::FU::FV::FX::FY::FZ::F0::F2::H7::H8::H9::Ia::Ib::Ic::tl:List Value),BM Fj zD (λb=>K1 b\/K' b) u:=λu hu=>(N0 u (by simpa using hu) Fj zD).mono λb hb=>.inl hb;have hv2:v=.slice A 3 c\/v=.int .i64 0\/v=.tuple #[.slice A 3 c,.int .i64 0]\/v∈(y0::.int .i64 1::.int .i64 0::y3::y4::y5::y6::y7::y8::y9::FQ::FT::FU::FV::FX::FY::FZ::F0::F2::H7::H8::H9::Ia::Ib::Ic::tl:List Value):=by
  clear k0 k2 k3 h N0;simp only[xu,xm,or_false] at hv3 ⊢
  grind
 rcases hv2 with rfl|rfl|rfl|hv2
 .exact k0
 .exact Aw.int _ _
 .exact k2
 .exact k3 v hv2
def sml:List FuncId:=XT++[19,21,39,40,43,46,116,117,141,142,143]
def Jm (f:FuncId):Bool:=sml.contains f
def Ws (f:FuncId):Bool:=f==39||f==40||f==43||f==46||f==141||f==143
def Fc (f:FuncId):Bool:=Jm f&&!Ws f
def uj {p:Nat->Bool}(h:sml.all p=true):∀f,Jm f=true->p f=true:=λf hf=>(xY.1 h) f (by simpa [Jm] using hf)
def fH:ET Fc:=by
 refine⟨λf hf=>?_,by decide,by decide⟩;have:XT.all Fc=true:=by kernel_rfl
 exact j8 this f hf
def vF:sml.all (λf=>GX Tryz.prog Jm true f||Ti f||Ws f)=true:=by kernel_rfl
def wJ {P:Ba}(f:FuncId)(hf:aM Jm f=true):Fy P f:=by
 unfold aM at hf;have h:Jm 74=false:=by decide
 rw[h,yC,yJ] at hf;cases hf
def Nq (H:Hid):Lib PP Jm H true Fc 0:=by
 refine iz (λf hf=>?_) (λf hf hb=>?_) (λf hf=>?_) wJ ⟨yl Tryz.globals_size,Tryz.J3⟩
 .simp only[Fc,xC,yw] at hf;have:=uj vF f hf.1;simp only[hf.2,zp,xO] at this;rcases this with h|h
  .exact .inl ⟨h,rfl⟩
  .exact .inr (tt h)
 .simp only[Fc,hf,yN,yQ,Ws,xO,beq_iff_eq] at hb;rcases hb with((((rfl|rfl)|rfl)|rfl)|rfl)|rfl
  .exact⟨_,_,Tryz.func39,Tryz.func39,rfl,by decide,by decide,rfl,rfl⟩
  .exact⟨_,_,Tryz.func40,Tryz.func40,rfl,by decide,by decide,rfl,rfl⟩
  .exact⟨_,_,Tryz.func43,Tryz.func43,rfl,by decide,by decide,rfl,rfl⟩
  .exact⟨_,_,Tryz.func46,Tryz.func46,rfl,by decide,by decide,rfl,rfl⟩
  .exact⟨_,_,Tryz.func141,Tryz.func141,rfl,by decide,by decide,rfl,rfl⟩
  .exact⟨_,_,Tryz.func143,Tryz.func143,rfl,by decide,by decide,rfl,rfl⟩
 .simp only[Fc,xC] at hf;exact hf.1
def Qc:∃cE,Tryz.f39.body=some cE/\codeOk Tryz.prog Jm true true cE=false:=⟨_,rfl,by kernel_rfl⟩
open Go.ConcN
def Qd:∀(f:FuncId) (fn:Func),PP.a.funcs[f]?=some fn->fn.body.isNone=true->PP.fs[f]?=some fn:=λ_ _ h _=>h
def Mt (cs:List Frame)(g:Goroutine)(w:World):Prop:=∃(bn bo bh cb sb cap nb:Nat) (cur:List Value) (t:TypeId) (T U:Array Value),CV w bn bo bh cb sb cap cur t/\w.heap[nb]?=some (GI 0)/\hasB (Bd bn bo bh cb sb cap cur t) nb=false/\T.size=19/\T.getD 6 undef=.pointer (some ⟨nb,0,none⟩) /\
 U.size=95/\(∀v∈U.toList,∀(SB:FuncId->Bool) (H:Hid),BM SB H (λb=>hasB (Bd bn bo bh cb sb cap cur t) b=true) v) /\
 g=bZ PP 39 (E3 cb (.func 40) #[] [Value.pointer (some ⟨nb,0,none⟩)].toArray) ((base 19).at ⟨T,[]⟩ [.inRegion c5 [2],.code x5]) ((base 6).at ⟨U,[]⟩ [.inRegion e1 [2,3,4,5,6,7],.code qN]::cs)
def CV.same {w w':World}{bn bo bh cb sb cap:Nat}{cur:List Value}{t:TypeId}(h:CV w bn bo bh cb sb cap cur t)(s:AR w w'):CV w' bn bo bh cb sb cap cur t:=h.keep λb _=>by rw[s.1]
def Mt.same {cs:List Frame}(g:Goroutine)(w W:World)(s:AR w W)(h:Mt cs g w):Mt cs g W:=by
 obtain⟨bn,bo,bh,cb,sb,cap,nb,cur,t,T,U,h1,h2,h3,h4,h5,h6,h7,h8⟩:=h;exact⟨bn,bo,bh,cb,sb,cap,nb,cur,t,T,U,h1.same s,by rw[s.1];exact h2,h3,h4,h5,h6,h7,h8⟩
def Mt.fn {cs:List Frame}(g:Goroutine)(w:World)(h:Mt cs g w):Fc g.frame.fn=false:=by
 obtain⟨bn,bo,bh,cb,sb,cap,nb,cur,t,T,U,h1,h2,h3,h4,h5,h6,h7,rfl⟩:=h;show Fc 39=false;decide
def uk {cs:List Frame}(hcs:cs≠[])(w:World):Br Tryz.prog Fc (Mt cs) 0 (Go.Conc.G (Frame.enter Tryz.prog 6 #[] .normal) cs) w :=
 ug (by decide) (by decide) fH Mt.same hcs λbn bo bh cb sb cap nb cur t w' T U h1 h2 h3 h4 h5 h6 h7 _ _=>.fin ⟨bn,bo,bh,cb,sb,cap,nb,cur,t,T,U,h1,h2,h3,h4,h5,h6,h7,rfl⟩
def Qe (cs:List Frame)(g:Goroutine)(w:World):Prop:=∃(K1:Nat->Prop) (bn bo bh cb sb cap qb xb kb:Nat) (cur:List Value) (t:TypeId) (T U:Array Value),(∀b,K1 b->∃(l:List Value) (t:TypeId),w.heap[b]?=some (.cells l.toArray t (0,0))/\∀v∈l,∀(SB:FuncId->Bool) (H:Hid),BM SB H K1 v)/\CV w bn bo bh cb sb cap cur t/\w.heap[kb]?=some (Ds false λ_=>0)/\(∀p∈CE xb qb cb,w.heap[p.1]?=some (.cells p.2.1.toArray p.2.2 (0,0)))/\hasB (Bd bn bo bh cb sb cap cur t++CE xb qb cb) kb=false /\
 T.size=27/\T.getD 4 undef=.pointer (some ⟨qb,0,none⟩)/\T.getD 7 undef=.pointer (some ⟨kb,0,none⟩)/\U.size=95/\U.getD 1 undef=.int .i64 1/\U.getD 2 undef=.int .i64 0/\(∀v∈U.toList,∀(SB:FuncId->Bool) (H:Hid),BM SB H (λb=>K1 b\/hasB (Bd bn bo bh cb sb cap cur t) b=true) v) /\
 g=bZ PP 39 (E3 cb (.func 46) #[] [Value.pointer (some ⟨kb,0,none⟩),.pointer (some ⟨xb,0,none⟩)].toArray) ((base 21).at ⟨T,[]⟩ [.inRegion d6 [2],.code z6]) ((base 6).at ⟨U,[]⟩ [.inRegion e2 [2,3,4,5,6,7],.code P9]::cs)
def Qe.same {cs:List Frame}(g:Goroutine)(w W:World)(s:AR w W)(h:Qe cs g w):Qe cs g W:=by
 obtain⟨K1,bn,bo,bh,cb,sb,cap,qb,xb,kb,cur,t,T,U,h0,h1,h2,h3,h4⟩:=h;exact⟨K1,bn,bo,bh,cb,sb,cap,qb,xb,kb,cur,t,T,U,by rw[s.1];exact h0,h1.same s,by rw[s.1];exact h2,by rw[s.1];exact h3,h4⟩
def Qe.fn {cs:List Frame}(g:Goroutine)(w:World)(h:Qe cs g w):Fc g.frame.fn=false:=by
 obtain⟨K1,bn,bo,bh,cb,sb,cap,qb,xb,kb,cur,t,T,U,h0,h1,h2,h3,h4,h5,h6,h7,h8,h9,h10,h11,rfl⟩:=h;show Fc 39=false;decide
def JK {w:World}{bn bo bh cb sb cap:Nat}{cur:List Value}{t:TypeId}(h:CV w bn bo bh cb sb cap cur t):∀b,hasB (Bd bn bo bh cb sb cap cur t) b=true->∃(l:List Value) (t':TypeId),w.heap[b]?=some (.cells l.toArray t' (0,0))/\∀v∈l,∀(SB:FuncId->Bool) (H:Hid),BM SB H (λb=>hasB (Bd bn bo bh cb sb cap cur t) b=true) v:=λb hb=>by
 obtain⟨p,hp,rfl⟩:=EH hb;exact⟨_,_,h.obj p hp,λv hv SB H=>fZ h.flat p hp v hv SB H⟩
def ul {cs:List Frame}(hcs:cs≠[]){w:World}{bn bo bh cb sb cap nb:Nat}{cur:List Value}{t:TypeId}{T U:Array Value}(hC:CV w bn bo bh cb sb cap cur t)(hn:w.heap[nb]?=some (GI 1))(hT:T.size=19)(h6:T.getD 6 undef=.pointer (some ⟨nb,0,none⟩))
  (hU:U.size=95) (N0:∀v∈U.toList,∀(SB:FuncId->Bool) (H:Hid),BM SB H (λb=>hasB (Bd bn bo bh cb sb cap cur t) b=true) v) :
  Br Tryz.prog Fc (Qe cs) 0 (back ((base 19).at ⟨T,[]⟩ [.inRegion c5 [2],.code x5]) ((base 6).at ⟨U,[]⟩ [.inRegion e1 [2,3,4,5,6,7],.code qN]::cs)) w :=
 uh (by decide) (by decide) (by decide) fH Qe.same hcs hn hT h6 hU N0 λbn' bo' bh' cb' sb' cap' qb xb kb cur' t' w' T' U' h1 h2 h3 h4 h5 h6 h7 h8 h9 h10 h11 hz hold =>
  .fin ⟨_,bn',bo',bh',cb',sb',cap',qb,xb,kb,cur',t',T',U',λb hb=>by
   obtain⟨l,t2,e1,e2⟩:=JK hC b hb
   exact⟨l,t2,(hold b (hC.lt hb)).trans e1,e2⟩,h1,h2,h3,h4,h5,h6,h7,h8,h9,h10,h11,rfl⟩
section
variable {SB BB:FuncId->Bool} {lets:Bool} {Dead:Nat->Prop} {Kp:EP} {x:Lone} {A:Goroutine} {W:World}
def G8 (ht:Tw PP SB BB lets 0 Dead Kp x A W)(hH:∀b,x.H b=false){b:Nat}(hb:∃B,x.β b B){l:List Value}{t:TypeId}{f:Nat×Nat}(h:x.w.heap[b]?=some (.cells l.toArray t f)){v:Value}(hv:v∈l):∃V,Aw (SP SB x.H) x.β v V:=by
 obtain⟨B,hb⟩:=hb;obtain⟨o,O,q1,q2,q3⟩:=ht.wl.Cq b B hb (hH b);rw[h] at q1;cases q1;cases q3 with
 |cells a z =>
  obtain⟨i,hi,rfl⟩:=yT.1 hv;obtain⟨V,_,h2⟩:=a.get? (i:=i) (v:=l[i]) (by simp);exact⟨V,h2⟩
def Ep {S:Cb}{β:AO}{b o:Nat}{s:Option Nat}{l c:Nat}{V:Value}(h:Aw S β (.slice (some ⟨b,o,s⟩) l c) V)(hl:l≠0:=by decide):∃B,β b B:=by
 cases h with
 |slice o s l c hb=>exact⟨_,hb⟩
 |BP _=>exact absurd rfl hl
def E7 {S:Cb}{β:AO}{b o:Nat}{s:Option Nat}{V:Value}(h:Aw S β (.pointer (some ⟨b,o,s⟩)) V):∃B,β b B:=by
 cases h with
 |ptr o s hb=>exact⟨_,hb⟩
def Nr {S:Cb}{β:AO}{f:Fn}{fx:Array Value}{l:List Value}{V v:Value}(h:Aw S β (.func f fx l.toArray) V)(hv:v∈l):∃V,Aw S β v V:=by
 cases h with
 |Bt _=>cases hv
 |func hf h1 i1 h2 i2 =>
  obtain⟨i,hi,rfl⟩:=yT.1 hv;have hl:i<l.toArray.size:=by simpa using hi
  exact⟨_,i2 i _ _ (xp hl) (xp (by rw[<-h2];exact hl))⟩
def kK (ht:Tw PP SB BB lets 0 Dead Kp x A W)(hH:∀b,x.H b=false){bn bo bh cb sb cap:Nat}{cur:List Value}{t:TypeId}(h:CV x.w bn bo bh cb sb cap cur t)(hcb:∃B,x.β cb B):∀b,hasB (Bd bn bo bh cb sb cap cur t) b=true->∃B,x.β b B:=by
 have h4:=h.obj (cb,Lp bn bh sb cap,127) (by simp[Bd]);have h3:=h.obj (bh,EI bo,46) (by simp[Bd]);obtain⟨V1,v1⟩:=G8 ht hH hcb h4 (v:=.slice (some ⟨bn,0,none⟩) 3 3) (by simp[Lp]);obtain⟨V2,v2⟩:=G8 ht hH hcb h4 (v:=.slice (some ⟨bh,0,none⟩) 3 3) (by simp[Lp]);obtain⟨V3,v3⟩:=G8 ht hH hcb h4 (v:=.slice (some ⟨sb,0,none⟩) 8 cap) (by simp[Lp]);obtain⟨V4,v4⟩:=G8 ht hH (Ep v2) h3 (v:=.slice (some ⟨bo,0,none⟩) 1 1) (by simp[EI])
 intro b hb;rcases(Bz b).1 hb with rfl|rfl|rfl|rfl|rfl
 .exact Ep v1
 .exact Ep v4
 .exact Ep v2
 .exact hcb
 .exact Ep v3
def JL (ht:Tw PP Jm Fc true 0 Dead Kp x A W){cb F:Nat}{fc:List Value}{fr:Frame}{cs:List Frame}(hg:x.g=bZ PP 39 (E3 cb (.func F) #[] fc.toArray) fr cs):(∃B,x.β cb B)/\∀v∈fc,∃V,Aw (SP Jm x.H) x.β v V:=by
 obtain⟨cE,S7,DT⟩:=Qc;have B9:=ht.gl.top;rw[hg] at B9;obtain⟨ARGS,eA,C8⟩:=Lg (P:=PP) (fa:=Tryz.f39) (fb:=Tryz.f39) Tryz.func39 Tryz.func39 S7 DT rfl (by rw[Tryz.ntmps39];simp) B9;obtain⟨V0,_,r0⟩:=C8.get? (i:=0) (v:=.pointer (some ⟨cb,0,none⟩)) rfl;obtain⟨V1,_,r1⟩:=C8.get? (i:=1) (v:=.func (.func F) #[] fc.toArray) rfl;exact⟨E7 r0,λv hv=>Nr r1 hv⟩
end
def Ls:∃Kj:Bl,Bo AL (Bc 3) 2 (Ce (Da 1)) 1=[Kj]:=by
 have:=pf
 match h:Bo AL (Bc 3) 2 (Ce (Da 1)) 1,this with
 |[ρ],_=>exact⟨ρ,rfl⟩
def qO {w:World}{b:Nat}{l:Array Value}{t:TypeId}(h:w.heap[b]?=some (.cells l t (0,0)))(hl:0<l.size):¬AW.Ro w b:=by
 rintro⟨c,t',f,h1,h2⟩;rw[h] at h1;cases h1;have:=h2 0 hl;omega
section
variable {gs:Array Goroutine} {W:World} {sl:Option (Nat×Nat)} {t:Trace} {q:Nat->Nat} {Dead:Nat->Prop} {Kp:EP} {x:Lone} {A:Goroutine} {cs:List Frame}
def N7 (hb:Gd Tryz.prog Dead gs W t q)(ht:Tw PP Jm Fc true 0 Dead Kp x A W)(h0:gs[0]?=some A)(hq:Mt cs x.g x.w)(hcs:cs≠[])(hH:∀b,x.H b=false)(Jh:gs.size+8<=2147483647) :
  ∃N m' t',runNT Tryz.prog N (crowd gs W sl) t=(.next m',t')/\∃gs' W' sl' q' A' Eo g2 w2,m'=crowd gs' W' sl'/\gs'[0]?=some A'/\gs'.size<=gs.size+8/\Gd Tryz.prog Eo gs' W' t' q' /\
   Tw PP Jm Fc true 0 Eo Kp ⟨g2,w2,x.H,x.β,x.T⟩ A' W'/\Br Tryz.prog Fc (Qe cs) 0 g2 w2/\w2.heap.size=x.w.heap.size/\(W'.os=W.os/\W'.output=W.output)/\W.heap.size<=W'.heap.size/\∀B,Eo B->Dead B\/W.heap.size<=B:=by
 obtain⟨bn,bo,bh,cb,sb,cap,nb,cur,ty,T,U,hC,hn,Nk,hT,h6,hU,N0,hg⟩:=hq;obtain⟨Kj,Gp⟩:=Ls;obtain⟨cE,S7,DT⟩:=Qc;obtain⟨p1,p2⟩:=JL ht hg;obtain⟨Vn,vn⟩:=p2 (.pointer (some ⟨nb,0,none⟩)) (by simp);obtain⟨N,m',t',hrun,gs',W',sl',q',A',Eo,e1,e2,e3,e4,e5,e6,e7⟩:=JH (sl:=sl) (Ni (NZ hC hn Nk) Gp (P0 nb Kj)) Uy S7 DT Uz rfl rfl rfl rfl Nj Lm Ln hb ht h0 hg ⟨rfl,rfl,_,_,_,_,rfl⟩ hH
  (λb hb=>by
   rcases hb with hb|hb
   .exact kK ht hH hC p1 b (by simpa [NY] using hb)
   .have e:b=nb:=by simpa using hb
    rw[e];exact E7 vn) (λb B h J9 k=>by
   have e:b=nb:=by simpa using J9
   subst e;rcases ht.Cp b B h k with h|h
   .rw[hH] at h;cases h
   .exact qO hn (by decide) h) Jh
 refine⟨N,m',t',hrun,gs',W',sl',q',A',Eo,_,_,e1,e2,e3,e4,e5,?_,bO _ _ _,e6,e7⟩;have hlt:nb<x.w.heap.size:=(xg.1 hn).1;refine ul hcs (hC.keep λb hb=>?_) (nb:=nb) ?_ hT h6 hU N0
 .rw[bP _ _ _ _ (hC.lt hb)];rw[if_neg];intro h;have e:b=nb:=by simpa using h
  rw[e,Nk] at hb;cases hb
 .rw[bP _ _ _ _ hlt,if_pos (by simp)]
  rfl
def jK (QT:Goroutine->World->Prop)(cs:List Frame):Prop:=∀(K:Nat->Prop) (A:Option Addr) (c B:Nat) (xs:List Value) (w':World) (U:Array Value) (ρ:Bl),Bo AL (Bc 3) 2 (Ce (Da 1)) 1=[ρ]->AY w' B (.slice A 3 c) (aX ρ 3) xs ->
 U.size=95->U.getD 1 undef=.int .i64 1->U.getD 2 undef=.int .i64 0->U.getD 3 undef=.slice A 3 c->U.getD 4 undef=.int .i64 0->(∀v∈U.toList,BM Fj zD K v)->(∀b,K b->∃o,w'.heap[b]?=some o/\Bw (SP Fj zD) (CK An Fj false) (Bn K) o o) ->
 Br Tryz.prog Fc QT 0 (Go.Conc.G ((base 6).at ⟨U,[]⟩ [.code P9]) cs) w'
def um:∀ρ∈Bo AL (Bc 3) 2 (Ce (Da 1)) 1,∀i,i<5->ρ i<16:=by decide +kernel
def Qf {QT:Goroutine->World->Prop}(hQT:∀g w W,AR w W->QT g w->QT g W)(aap:jK QT cs)(hb:Gd Tryz.prog Dead gs W t q)(ht:Tw PP Jm Fc true 0 Dead Kp x A W)(h0:gs[0]?=some A)(hq:Qe cs x.g x.w)(hcs:cs≠[])(hH:∀b,x.H b=false)(Jh:gs.size+8<=2147483647) :
  ∃N m' t',runNT Tryz.prog N (crowd gs W sl) t=(.next m',t')/\∃gs' W' sl' q' A' Eo g2 w2,m'=crowd gs' W' sl'/\gs'[0]?=some A'/\gs'.size<=gs.size+8/\Gd Tryz.prog Eo gs' W' t' q' /\
   Tw PP Jm Fc true 0 Eo Kp ⟨g2,w2,x.H,x.β,x.T⟩ A' W'/\Br Tryz.prog Fc QT 0 g2 w2/\w2.heap.size=x.w.heap.size/\(W'.os=W.os/\W'.output=W.output)/\W.heap.size<=W'.heap.size/\∀B,Eo B->Dead B\/W.heap.size<=B:=by
 obtain⟨K1,bn,bo,bh,cb,sb,cap,qb,xb,kb,cur,ty,T,U,Yt,hC,hk,hX,Nk,hT,h4,h7,hU,hU1,hU2,N0,hg⟩:=hq;obtain⟨Kj,Gp⟩:=Ls;have CX:∀i,i<5->Kj i<16:=um Kj (by rw[Gp];simp);obtain⟨cE,S7,DT⟩:=Qc;obtain⟨p1,p2⟩:=JL ht hg;obtain⟨Vk,vk⟩:=p2 (.pointer (some ⟨kb,0,none⟩)) (by simp);obtain⟨Vx,vx⟩:=p2 (.pointer (some ⟨xb,0,none⟩)) (by simp);have Sr:=hX (xb,[.func (.func 43) #[] #[.pointer (some ⟨qb,0,none⟩)]],93) (by simp[CE])
 have hqo:=hX (qb,[.pointer (some ⟨cb,0,none⟩)],69) (by simp[CE]);obtain⟨Vf,vf⟩:=G8 ht hH (E7 vx) Sr (v:=.func (.func 43) #[] #[.pointer (some ⟨qb,0,none⟩)]) (by simp);obtain⟨Vq,vq⟩:=Nr (l:=[.pointer (some ⟨qb,0,none⟩)]) vf (v:=.pointer (some ⟨qb,0,none⟩)) (by simp);have Vo:hasB (Bd bn bo bh cb sb cap cur ty) kb=false/\hasB (CE xb qb cb) kb=false:=by
  rw[be,yR] at Nk;exact Nk
 obtain⟨N,m',t',hrun,gs',W',sl',q',A',Eo,e1,e2,e3,e4,e5,e6,e7⟩:=JH (sl:=sl) (Ni (P4 (ρ:=Kj) hC hk hX Nk) Gp (Tj kb xb qb cb Kj)) Uy S7 DT Uz rfl rfl rfl rfl Nj Lm Ln hb ht h0 hg ⟨rfl,rfl,_,_,_,_,rfl⟩ hH
  (λb hb=>by
   rcases hb with hb|hb
   .have hb':hasB (Bd bn bo bh cb sb cap cur ty++CE xb qb cb) b=true:=hb;rw[be,xO] at hb';rcases hb' with hb'|hb'
    .exact kK ht hH hC p1 b hb'
    .have : b = xb ∨ b = qb := by
      obtain⟨p,hp,rfl⟩:=EH hb';simp only[CE,xu,xm,or_false] at hp;rcases hp with rfl|rfl<;>simp
     rcases this with rfl|rfl
     .exact E7 vx
     .exact E7 vq
   .have e:b=kb:=by simpa using hb
    rw[e];exact E7 vk) (λb B h J9 k=>by
   have e:b=kb:=by simpa using J9
   subst e;rcases ht.Cp b B h k with h|h
   .rw[hH] at h;cases h
   .exact qO hk (by decide) h) Jh
 refine⟨N,m',t',hrun,gs',W',sl',q',A',Eo,_,_,e1,e2,e3,e4,e5,?_,bO _ _ _,e6,e7⟩;have hlt:kb<x.w.heap.size:=(xg.1 hk).1;obtain⟨w1,Eb⟩:∃w1,w1=En (Jv kb) (oF (decide (8<=1)) (λ_=>Ds false λ_=>0) λ_=>Ds true Kj) x.w:=⟨_,rfl⟩;have hkb:w1.heap[kb]?=some (Ds true Kj):=by
  rw[Eb,bP _ _ _ _ hlt,if_pos (by simp)]
  rfl
 have hne:∀b,b≠kb->b<x.w.heap.size->w1.heap[b]?=x.w.heap[b]?:=λb hb hl=>by
  rw[Eb,bP _ _ _ _ hl,if_neg (by simpa using hb)]
 have hC1:CV w1 bn bo bh cb sb cap cur ty:=hC.keep λb hb=>hne b (λe=>by rw[e,Vo.1] at hb;cases hb) (hC.lt hb);have UH:w1.heap[qb]?=some (.cells #[.pointer (some ⟨cb,0,none⟩)] 69 (0,0)):=by
  refine(hne qb (λe=>?_) (xg.1 hqo).1).trans hqo;have:=Vo.2;rw[<-e] at this;simp[hasB,CE] at this
 show Br Tryz.prog Fc QT 0 _ (En (Jv kb) (oF (decide (8<=1)) (λ_=>Ds false λ_=>0) λ_=>Ds true Kj) x.w);rw[<-Eb];refine ui (by decide) (by decide) fH hQT hcs CX hC1 hkb UH hT h4 h7 hU hU1 hU2 N0 λA c xs w2 K' U2 ho hz hold CU u0 u1 u2 u3 u4 aeR=>?_;refine aap _ A c _ xs w2 U2 Kj Gp ho u0 u1 u2 u3 u4 aeR λb Ss=>?_;rcases Ss with(Ss|Ss)|Ss
 .obtain⟨l,t2,r1,r2⟩:=Yt b Ss;have hl:=(xg.1 r1).1;by_cases e:b=kb
  .subst e;exact⟨_,(hold _ (by rw[Eb,bO];exact hl)).trans hkb,kj (P3 _ _)⟩
  .exact⟨_,(hold _ (by rw[Eb,bO];exact hl)).trans ((hne b e hl).trans r1),.cells (BQ λv hv=>(r2 v hv Fj zD).mono λb hb=>.inl (.inl hb)) λi z1 z2=>⟨z1,z2⟩⟩
 .obtain⟨l,t2,r1,r2⟩:=JK hC1 b Ss;exact⟨_,(hold _ (xg.1 r1).1).trans r1,.cells (BQ λv hv=>(r2 v hv Fj zD).mono λb hb=>.inl (.inr hb)) λi z1 z2=>⟨z1,z2⟩⟩
 .obtain⟨o,r1,r2⟩:=CU b Ss;exact⟨o,r1,r2.mono λb B hb=>⟨.inr hb.1,hb.2⟩⟩
end
end Go.Proofs.Ao
namespace Go.Sq
def Qg (w:World)(B:Nat)(A:Option Addr)(l:List Int):Prop :=
 l≠[]->∃b o,A=some ⟨b,o,none⟩/\b<B/\∀(i:Nat) (x:Int),l[i]?=some x->w.cell? ⟨b,o+i*5+4,none⟩=some (.int .i64 x)/\∃(n0 n1 n2:Int) (A:Option Addr) (m c:Nat),
  w.cell? ⟨b,o+i*5,none⟩=some (.int .i64 n0)/\w.cell? ⟨b,o+i*5+1,none⟩=some (.int .i64 n1)/\w.cell? ⟨b,o+i*5+2,none⟩=some (.int .i64 n2)/\w.cell? ⟨b,o+i*5+3,none⟩=some (.slice A m c)
def Qg.gr {w w':World}{B:Nat}{A:Option Addr}{l:List Int}(h:Qg w B A l)(hB:B<=w.heap.size)(hg:Gr w w'):Qg w' B A l:=λhn=>by
 obtain⟨b,o,e,hb,hc⟩:=h hn;refine⟨b,o,e,hb,λi x hx=>?_⟩;have k:∀o,w'.cell? ⟨b,o,none⟩=w.cell? ⟨b,o,none⟩:=λo=>hg.cell (p:=⟨b,o,none⟩) (xl hb hB);obtain⟨h1,n0,n1,n2,A,m,c,h2,h3,h4,h5⟩:=hc i x hx;exact⟨(k _).trans h1,n0,n1,n2,A,m,c,(k _).trans h2,(k _).trans h3,(k _).trans h4,(k _).trans h5⟩
def Bq (l:List Int):Nat->Int
 |0=>-1
 |k+1=>if 0<l[k]?.getD 0/\(Bq l k<0\/l[(Bq l k).toNat]?.getD 0<l[k]?.getD 0) then k else Bq l k
def jc (l:List Int)(k:Nat):-1<=Bq l k/\Bq l k<k:=by
 induction k with
 |zero=>simp[Bq]
 |succ k ih =>
  unfold Bq;split
  .omega
  .omega
end Go.Sq
namespace Go.Proofs.Ao
open Go.RowKit Go.Sq
def vG (A:Option Addr)(c:Nat)(l:List Int)(w:World)(B:Nat)(hB:B<=w.heap.size)(h:Qg w B A l)(hl:l.length<=4611686018427387904) :
  Calls An 134 #[.slice A l.length c] w λe w'=>e=.returned (.int .i64 (Bq l l.length))/\Gr w w':=by
 have HR:=xf h;clear h;go_enter Sq.func134,Tryz.ntmps134;go_wp2;go_loopw [3,8] (λs i wr=>∃k:Nat,k<=l.length/\i=.int .i64 k/\s=.int .i64 (Bq l k)/\Gr w wr) (λ_ i _=>l.length-(intOf i).toNat)
 case atStart=>exact⟨0,by omega,rfl,rfl,.refl _⟩
 case round =>
  obtain⟨k,hk,rfl,rfl,hg⟩:=hrel;have HG:=xf hg;clear hg;by_cases hlt:k<l.length
  .obtain⟨b,o,e,hb,hc⟩:=HR.out.gr hB HG.out (λe=>by rw[e] at hlt;simp at hlt);subst e;obtain⟨c4,n0,n1,n2,A',m,c',c0,c1,c2,c3⟩:=hc k _ (xi hlt)
   have HM:=xf (show Bq l (k+1)=if 0<l[k]/\(Bq l k<0\/l[(Bq l k).toNat]?.getD 0<l[k]) then(k:Int) else Bq l k by
    show(if _ then _ else _)=_
    rw[xi hlt];rfl)
   have HML:=jc l k;have HCC:=xf hc;clear hc;have hz:=HG.out.size;generalize l[k]=x at c4 HM;by_cases hx:0<x
   .by_cases hm:Bq l k<0
    .have Qh:=xf (show Bq l (k+1)=k by rw[HM.out,if_pos ⟨hx,.inl hm⟩]);clear HM HML;generalize Bq l k=q at hm Qh;have JY:decide (x > 0)=true:=by simp;omega
     have LL:decide (q<0)=true:=by simp;omega
     go_wp2;go_region;go_wp2;go_roundw
     case rel=>exact⟨k+1,by omega,by go_num,congrArg (Value.int .i64) Qh.out.symm,(HG.out.alloc _).drew⟩
     case measure=>simp[intOf];omega
    .obtain⟨j,hj⟩:∃j:Nat,Bq l k=j:=⟨(Bq l k).toNat,by omega⟩;rw[hj] at HM hm HML ⊢;have hjk:j<k:=by omega
     obtain⟨y4,_⟩:=HCC.out j _ (xi (show j<l.length by omega));have HY:=xf (show l[(j:Int).toNat]?.getD 0=l[j] by rw[Int.toNat_natCast,xi (by omega)];rfl);generalize l[j]=y at y4 HY;have Wt:j<l.length:=by omega
     have HJ:=xf hj;clear hj hm HML;have JY:decide (x > 0)=true:=by simp;omega
     have L6:decide ((j:Int)<0)=false:=by simp
     have hbl:b<wr.heap.size:=by omega
     by_cases Jg:y<x
     .have Qh:=xf (show Bq l (k+1)=k by rw[HM.out,if_pos ⟨hx,.inr (by rw[HY.out];exact Jg)⟩]);have LL:decide (x > y)=true:=by simp;omega
      clear HM HY;go_wp2;go_quiet (fail);go_wp2;go_roundw
      case rel=>exact⟨k+1,by omega,by go_num,congrArg (Value.int .i64) Qh.out.symm,(HG.out.alloc _).drewN _⟩
      case measure=>simp[intOf];omega
     .have Qh:=xf (show Bq l (k+1)=j by rw[HM.out,if_neg (by rw[HY.out];omega)]);have LL:decide (x > y)=false:=by simp;omega
      clear HM HY;go_wp2;go_quiet (fail);go_wp2;go_roundw
      case rel=>exact⟨k+1,by omega,by go_num,congrArg (Value.int .i64) Qh.out.symm,(HG.out.alloc _).drewN _⟩
      case measure=>simp[intOf];omega
   .have Qh:=xf (show Bq l (k+1)=Bq l k by rw[HM.out,if_neg (by omega)]);have JY:decide (x > 0)=false:=by simp;omega
    clear HM HML;generalize hq:Bq l k=q at Qh;clear hq;go_wp2;go_region;go_wp2;go_roundw
    case rel=>exact⟨k+1,by omega,by go_num,congrArg (Value.int .i64) Qh.out.symm,(HG.out.alloc _).drew⟩
    case measure=>simp[intOf];omega
  .have D6:k=l.length:=by omega
   subst D6;go_wp2;go_ret;exact⟨rfl,HG.out⟩
end Go.Proofs.Ao
namespace Go.Sq
def JM (n:Nat)(rs:List (Int×Int))(k:Nat):Int :=
 if C2 (rs[k]?.getD (0,0)).1 0 (n-1)=false then 3 else if C2 (rs[k]?.getD (0,0)).2 0 60=false then 1 else if(rs.take k).any (·.1==(rs[k]?.getD (0,0)).1)=true then 4 else 0
def hP (n:Nat)(rs:List (Int×Int)):Int:=bE ((List.range rs.length).map (JM n rs))
def bC (rs:List (Int×Int)):Nat->Nat->Int
 |0,_=>0
 |k+1,j=>if(rs[k]?.getD (0,0)).1=j then(rs[k]?.getD (0,0)).2 else bC rs k j
def BN (n:Nat)(rs:List (Int×Int))(k:Nat):List Int:=(List.range n).map (bC rs k)
def dL (n:Nat)(rs:List (Int×Int))(k:Nat):(BN n rs k).length=n:=by simp[BN]
def ph {n:Nat}{rs:List (Int×Int)}{k j:Nat}(hj:j<n):(BN n rs k)[j]?=some (bC rs k j):=by simp[BN,hj]
def mZ {n:Nat}{rs:List (Int×Int)}(h:∀k,k<rs.length->JM n rs k=0)(k j:Nat)(hk:k<=rs.length):0<=bC rs k j/\bC rs k j<=60:=by
 induction k with
 |zero=>simp[bC]
 |succ k ih =>
  have:=h k (by omega);unfold bC;split
  .unfold JM at this;split at this
   .omega
   .split at this
    .omega
    .rename_i h1 h2;simp[C2] at h2;omega
  .exact ih (by omega)
def dG (n:Int)(s:List Int×List (Int×Int)):List Int×List (Int×Int) :=
 if Bq s.1 s.1.length<0 then s else(s.1.set (Bq s.1 s.1.length).toNat (s.1[(Bq s.1 s.1.length).toNat]?.getD 0-1),s.2++[(n,Bq s.1 s.1.length)])
def BW (n:Int)(s:List Int×List (Int×Int)):Nat->List Int×List (Int×Int)
 |0=>s
 |m+1=>dG n (BW n s m)
def IH (c:AD)(r:Bl)(ws:List Int)(k:Nat):Nat:=(ws[k]?.getD 0-c.CJ (r k)).toNat
def AX (c:AD)(r:Bl)(ws:List Int):Nat->List Int×List (Int×Int)
 |0=>(c.Ap.map (·.heads),[])
 |k+1=>BW k (AX c r ws k) (IH c r ws k)
def CF (c:AD)(r:Bl)(ws:List Int):List (Int×Int):=(AX c r ws ws.length).2
def ia {n:Int}{s:List Int×List (Int×Int)}(h:Bq s.1 s.1.length<0):dG n s=s:=if_pos h
def pi {n:Int}{s:List Int×List (Int×Int)}(h:Bq s.1 s.1.length<0)(m:Nat):BW n s m=s:=by
 induction m with
 |zero=>rfl
 |succ m ih=>rw[BW,ih];exact ia h
def m7 {n:Int}{s:List Int×List (Int×Int)}{k m:Nat}(h:Bq (BW n s k).1 (BW n s k).1.length<0)(hm:k<=m):BW n s m=BW n s k:=by
  induction m with
  | zero => obtain rfl : k = 0 := by omega
            rfl
  |succ m ih =>
    rcases yh m k with h1|h1
    · obtain rfl:k=m+1:=by omega
      rfl
    · rw[BW,ih h1];exact ia h
def mh {c:AD}{r:Bl}{ws:List Int}{k m:Nat}(h:Bq (AX c r ws k).1 (AX c r ws k).1.length<0)(hm:k<=m):AX c r ws m=AX c r ws k:=by
  induction m with
  | zero => obtain rfl : k = 0 := by omega
            rfl
  |succ m ih =>
    rcases yh m k with h1|h1
    · obtain rfl:k=m+1:=by omega
      rfl
    · rw[AX,ih h1];exact pi h _
def m8 {c:AD}{r:Bl}{ws:List Int}{k m:Nat}(hk:k<ws.length)(hm:m<=IH c r ws k)(h:Bq (BW k (AX c r ws k) m).1 (BW k (AX c r ws k) m).1.length<0):CF c r ws=(BW k (AX c r ws k) m).2:=by
 have e:AX c r ws (k+1)=BW k (AX c r ws k) m:=by rw[AX];exact m7 h hm
 unfold CF;rw[mh (k:=k+1) (by rw[e];exact h) (by omega),e]
structure Er (c:AD)(n:Nat)(s:List Int×List (Int×Int)):Prop where
 len:s.1.length=c.Ap.length
 low:∀x∈s.1,0<=x/\x<=40
 count:s.1.sum+s.2.length<=160
 night:∀p∈s.2,0<=p.1/\p.1<n/\0<=p.2/\p.2<c.Ap.length
def qP (l:List Int)(k:Nat)(h:0<=Bq l k):0<l[(Bq l k).toNat]?.getD 0:=by
 induction k with
 |zero=>simp[Bq] at h
 |succ k ih =>
  unfold Bq at h ⊢;by_cases hc:0<l[k]?.getD 0/\(Bq l k<0\/l[(Bq l k).toNat]?.getD 0<l[k]?.getD 0)
  .rw[if_pos hc];simpa using hc.1
  .rw[if_neg hc] at h ⊢;exact ih h
def uo (l:List Int)(k:Nat)(x:Int)(h:k<l.length):(l.set k x).sum=l.sum-l[k]?.getD 0+x:=by
 induction l generalizing k with
 |nil=>simp at h
 |cons a l ih =>
  cases k with
  |zero=>simp;omega
  |succ k =>
   simp only[List.set_cons_succ,List.sum_cons,List.getElem?_cons_succ];rw[ih k (by simpa using h)];omega
def Er.step {c:AD}{n:Nat}{s:List Int×List (Int×Int)}{d:Nat}(hd:d<n)(h:Er c n s):Er c n (dG d s):=by
 unfold dG;split
 .exact h
 .rename_i hm;have h1:=jc s.1 s.1.length;have h2:=qP s.1 s.1.length (by omega);have hl:(Bq s.1 s.1.length).toNat<s.1.length:=by omega
  have h3:=h.low _ (Dd s.1 _ hl);refine⟨by simp[h.len],λx hx=>?_,?_,λp hp=>?_⟩
  .rcases List.mem_or_eq_of_mem_set hx with h4|rfl
   .exact h.low x h4
   .omega
  .have h4:=h.count;show(s.1.set _ _).sum+((s.2++[((d:Int),Bq s.1 s.1.length)]).length:Nat)<=160;rw[uo _ _ _ hl,List.length_append];simp only[xz,xF,Int.natCast_add];omega
  .rcases ym.1 hp with h4|h4
   .exact h.night p h4
   .simp only[xu,xm,or_false] at h4;subst h4;have:=h.len;show(0:Int)<=d/\(d:Int)<n/\_/\_;omega
def Er.it {c:AD}{n:Nat}{s:List Int×List (Int×Int)}{d:Nat}(hd:d<n)(h:Er c n s)(m:Nat):Er c n (BW d s m):=by
 induction m with
 |zero=>exact h
 |succ m ih=>exact ih.step hd
def Er.all {c:AD}(hc:c.Ok){r:Bl}{ws:List Int}{n:Nat}(hn:ws.length<=n)(k:Nat)(hk:k<=ws.length):Er c n (AX c r ws k):=by
 induction k with
 |zero =>
  refine⟨by simp[AX],λx hx=>?_,?_,λp hp=>by simp[AX] at hp⟩
  .simp only[AX,xW] at hx;obtain⟨h,hh,rfl⟩:=hx;have:=hc.heads h hh;omega
  .have := Eg 1 40 (c.Ap.map (·.heads)) fun x hx => by
    simp only[xW] at hx;obtain⟨h,hh,rfl⟩:=hx;exact hc.heads h hh
   have h4:=hc.h4;simp only[AX,xF,yK] at *;omega
 |succ k ih=>exact(ih (by omega)).it (by omega) _
def kL {c:AD}(hc:c.Ok)(r:Bl)(ws:List Int):Er c ws.length (AX c r ws ws.length):=Er.all hc (xh _) _ (xh _)
def jL {c:AD}(hc:c.Ok)(r:Bl)(ws:List Int):(CF c r ws).length<=160:=by
 have h:=kL hc r ws;have h1:=Eg 0 40 _ h.low;have h2:=h.count;unfold CF;omega
def Ie (p:Int)(on:List Int)(h:Int):Nat->Int
 |0=>0
 |k+1=>Ie p on h k+if on[k]?.getD 0=h then p / on.length+(if(k:Int)<p % on.length then 1 else 0) else 0
def mi {p:Int}(hp:0<=p/\p<=99)(on:List Int)(h:Int)(k:Nat):0<=Ie p on h k/\Ie p on h k<=100*k:=by
 induction k with
 |zero=>simp[Ie]
 |succ k ih =>
  have h1:0<=p / (on.length:Int):=Int.ediv_nonneg hp.1 (by omega);have h2:p / (on.length:Int)<=p:=Int.ediv_le_self _ hp.1;unfold Ie;split
  .split<;>omega
  .omega
def Es (p:Int)(r:Bl)(ls:List (Int×Int))(h t:Nat):Nat->Int
 |0=>0
 |k+1=>Es p r ls h t k+if(ls[k]?.getD (0,0)).2=t/\h≠t then Ie p (wl (r (ls[k]?.getD (0,0)).1.toNat)) h (wl (r (ls[k]?.getD (0,0)).1.toNat)).length else 0
def mj {p:Int}(hp:0<=p/\p<=99)(r:Bl)(ls:List (Int×Int))(h t:Nat)(k:Nat):0<=Es p r ls h t k/\Es p r ls h t k<=400*k:=by
 induction k with
 |zero=>simp[Es]
 |succ k ih =>
  have h1:=mi hp (wl (r (ls[k]?.getD (0,0)).1.toNat)) h (wl (r (ls[k]?.getD (0,0)).1.toNat)).length;have h2:=cG (r (ls[k]?.getD (0,0)).1.toNat);unfold Es;split<;>omega
def Lu (n:Nat)(M:Nat->Nat->Int):List (List Int):=(List.range n).map λh=>(List.range n).map (M h)
def gb (n:Nat)(M:Nat->Nat->Int):(Lu n M).length=n:=by simp[Lu]
def uq {n:Nat}{M:Nat->Nat->Int}{h:Nat}(hh:h<n):(Lu n M)[h]?=some ((List.range n).map (M h)):=by simp[Lu,hh]
def G9 (c:AD)(r:Bl)(p:Int)(ws:List Int):List (List Int):=Lu c.Ap.length λh t=>Es p r (CF c r ws) h t (CF c r ws).length
def EU (M:List (List Int)):Nat->Nat->Int
 |0,_=>0
 |k+1,j=>EU M k j-(if j=k then(M[k]?.getD []).sum else 0)+(M[k]?.getD [])[j]?.getD 0
def Qi (M:List (List Int)):List Int:=(List.range M.length).map (EU M M.length)
open Go.RowKit
def ur (l:List Int)(n:Nat)(h:∀x∈l,0<=x/\x<n):Hw l<2 ^ n:=by
 have key:∀(l:List Int) (x:Nat),(∀y∈l,0<=y/\y<n)->x<2 ^ n->l.foldl (λx h=>x ||| 2 ^ h.toNat) x<2 ^ n:=by
  intro l
  induction l with
  |nil=>intro x _ hx;exact hx
  |cons a l ih =>
   intro x h hx;have ha:=h a yE;exact ih _ (λy hy=>h y (yS _ hy)) (Nat.or_lt_two_pow hx (Nat.pow_lt_pow_right (by omega) (by omega)))
 exact key l 0 h (Nat.two_pow_pos n)
def dT {c:AD}{ls:List (List Int)}(hE:Ay c ls=0)(i:Nat):c.has (Av ls i):=by
 unfold Ay at hE;split at hE
 .rename_i h;exact absurd hE h
 .split at hE
  .rename_i h;exact absurd hE h
  .unfold Av AD.has;cases hl:ls[i]? with
   |none=>exact Nat.two_pow_pos _
   |some l =>
    have:=bz.1 hE (B1 l c.Ap.length) (xW.2 ⟨l,yI hl,rfl⟩);exact ur l _ (Ge this).1
structure GM (w:World)(base:Nat)(v:Value)(n m:Nat)(M:Nat->Nat->Int)(bl:Nat->Nat):Prop where
 row:∃xs,w.ownsRow base 22 1 v m xs/\∀h,h<m->xs[h]?=some (.slice (some ⟨bl h,0,none⟩) n n)
 cells:∀h,h<m->base<=bl h/\∃l:Array Value,w.heap[bl h]?=some (.cells l 3 (0,0))/\∀t,t<n->l[t]?=some (.int .i64 (M h t))
 inj:∀h h',h<m->h'<m->bl h=bl h'->h=h'
def cell_of_heap {w:World}{b:Nat}{l:Array Value}{ty:TypeId}(h:w.heap[b]?=some (.cells l ty (0,0)))(o:Nat):w.cell? ⟨b,o,none⟩=l[o]?/\w.frozen? ⟨b,o,none⟩=false:=by
 unfold World.cell? World.frozen?;rw[h];simp
def qQ {w:World}{base size n:Nat}{e e':TypeId}{v:Value}{xs:List Value}(h:w.ownsRow base e size v n xs)(hne:e≠e'){b:Nat}{l:Array Value}(hb:w.heap[b]?=some (.cells l e' (0,0))):some b≠v.ownBlock:=λhh=>by
 rcases h.2 with⟨rfl,_⟩|⟨g,cap,cur,rfl,_,k,_⟩
 .cases hh
 .have e1:b=g:=by injection hh
  subst e1;rw[hb] at k;injection k with k
  injection k with _ k _
  exact hne k.symm
section
variable {w w':World} {base n m:Nat} {v:Value} {M M':Nat->Nat->Int} {bl:Nat->Nat}
def GM.nil (w:World)(base n:Nat)(M:Nat->Nat->Int)(bl:Nat->Nat):GM w base (.slice none 0 0) n 0 M bl:=⟨⟨[],xZ _ _ _ _,λh hh=>absurd hh (by omega)⟩,λh hh=>absurd hh (by omega),λh h' hh=>absurd hh (by omega)⟩
def GM.keep (h:GM w base v n m M bl)(hk:∀b,base<=b->b<w.heap.size->w'.heap[b]?=w.heap[b]?):GM w' base v n m M bl:=by
 obtain⟨xs,h1,h2⟩:=h.row;refine⟨⟨xs,ar h1 λg hg hl=>hk g (h1.lt g hg).1 hl,h2⟩,λa ha=>?_,h.inj⟩;obtain⟨c1,l,c2,c3⟩:=h.cells a ha;exact⟨c1,l,(hk _ c1 (xg.1 c2).1).trans c2,c3⟩
def GM.gr (h:GM w base v n m M bl)(hg:Gr w w'):GM w' base v n m M bl:=h.keep λb _ hb=>hg.below.block b hb
def GM.drew (h:GM w base v n m M bl):GM w.drew base v n m M bl:=h.keep λ_ _ _=>rfl
def GM.congr (h:GM w base v n m M bl)(e:∀a t,a<m->t<n->M a t=M' a t):GM w base v n m M' bl:=by
 refine⟨h.row,λa ha=>?_,h.inj⟩;obtain⟨c1,l,c2,c3⟩:=h.cells a ha;exact⟨c1,l,c2,λt ht=>by rw[<-e a t ha ht];exact c3 t ht⟩
def GM.at_ (h:GM w base v n m M bl){a t:Nat}(ha:a<m)(ht:t<n):base<=bl a/\bl a<w.heap.size/\w.cell? ⟨bl a,t,none⟩=some (.int .i64 (M a t))/\w.frozen? ⟨bl a,t,none⟩=false:=by
 obtain⟨c1,l,c2,c3⟩:=h.cells a ha;exact⟨c1,(xg.1 c2).1,(cell_of_heap c2 t).1.trans (c3 t ht),(cell_of_heap c2 t).2⟩
def GM.Mv {A:Option Addr}{k c:Nat}(h:GM w base (.slice A k c) n m M bl){a:Nat}(ha:a<m):∃g,A=some ⟨g,0,none⟩/\g<w.heap.size/\w.cell? ⟨g,a,none⟩=some (.slice (some ⟨bl a,0,none⟩) n n):=by
 obtain⟨xs,h1,h2⟩:=h.row;rcases h1.2 with⟨_,h0⟩|⟨g,cap,cur,hv,k1,k2,k3⟩
 .omega
 .have hA:A=some ⟨g,0,none⟩:=by injection hv
  subst hA;have:=h1.cells (g:=g) rfl a _ (h2 a ha);have e:(⟨g,0,none⟩:Addr).add a=⟨g,0+a,none⟩:=by unfold Addr.add;split<;>simp_all
  rw[e,xG] at this;exact⟨g,rfl,(xg.1 k2).1,this⟩
def GM.push {w1:World}{v':Value}{q:Nat}{xs:List Value}{z:Array Value}(h:GM w base v n m (λ_ _=>0) bl)(hr:w.ownsRow base 22 1 v m xs)(hx:∀h,h<m->xs[h]?=some (.slice (some ⟨bl h,0,none⟩) n n))
  (hq:base<=q) (hqw:w.heap.size<=q) (h1:∀b,b<w.heap.size->w1.heap[b]?=w.heap[b]?) (hz:w1.heap[q]?=some (.cells z 3 (0,0))) (hzz:∀t,t<n->z[t]?=some (.int .i64 0)) (hs:w.heap.size<=w1.heap.size)
  (hg:w1.grownBy w' v.ownBlock) (KU:w'.ownsRow base 22 1 v' (m+1) (xs++[.slice (some ⟨q,0,none⟩) n n])):GM w' base v' n (m+1) (λ_ _=>0) (λa=>if a=m then q else bl a):=by
 have hlen:xs.length=m:=by have:=hr.1;omega
 have hqv:some q≠v.ownBlock:=λe=>by have:=(hr.lt q e.symm).2;omega
 refine⟨⟨_,KU,λa ha=>?_⟩,λa ha=>?_,λa a' ha ha' e=>?_⟩
 .try dsimp only
  by_cases e:a=m
  .subst e;rw[if_pos rfl,yx (by omega),hlen];simp
  .rw[if_neg e,yz (by omega)];exact hx a (by omega)
 .try dsimp only
  by_cases e:a=m
  .subst e;rw[if_pos rfl];exact⟨hq,z,(hg.block q (xg.1 hz).1 hqv).trans hz,hzz⟩
  .rw[if_neg e];obtain⟨c1,l,c2,c3⟩:=h.cells a (by omega);have hlt:=(xg.1 c2).1;exact⟨c1,l,(hg.block (bl a) (by omega) (qQ hr (by decide) c2)).trans ((h1 _ hlt).trans c2),c3⟩
 .try dsimp only at e
  have key:∀a,a<m->bl a<w.heap.size:=λa ha=>by
   obtain⟨_,l,c2,_⟩:=h.cells a ha;exact(xg.1 c2).1
  by_cases e1:a=m
  .by_cases e2:a'=m
   .omega
   .rw[if_pos e1,if_neg e2] at e;have:=key a' (by omega);omega
  .by_cases e2:a'=m
   .rw[if_neg e1,if_pos e2] at e;have:=key a (by omega);omega
   .rw[if_neg e1,if_neg e2] at e;exact h.inj a a' (by omega) (by omega) e
def GM.set (h:GM w base v n m M bl){a t:Nat}(ha:a<m)(ht:t<n)(y:Int)(hM:∀a' t',a'<m->t'<n->M' a' t'=if a'=a/\t'=t then y else M a' t'):GM (w.setCell ⟨bl a,t,none⟩ (.int .i64 y)) base v n m M' bl:=by
 obtain⟨xs,h1,h2⟩:=h.row;obtain⟨c1,l,c2,c3⟩:=h.cells a ha;have hblk:∀g,g≠bl a->(w.setCell ⟨bl a,t,none⟩ (.int .i64 y)).heap[g]?=w.heap[g]?:=λg hg=>by
  rw[Go.AW.Bi];exact if_neg hg
 refine⟨⟨xs,ar h1 λg hg _=>hblk g λe=>qQ h1 (by decide) c2 (by rw[<-e];exact hg.symm),h2⟩,λa' ha'=>?_,h.inj⟩;obtain⟨d1,l',d2,d3⟩:=h.cells a' ha';by_cases e:a'=a
 .subst e;refine⟨d1,l.setIfInBounds t (.int .i64 y),?_,λt' Jk=>?_⟩
  .rw[Go.AW.Bi,if_pos rfl,c2];simp[Go.AW.Fg]
  .rw[hM a' t' ha' Jk,yH];by_cases e2:t=t'
   .subst e2;have hl:=(xg.1 (c3 t ht)).1;simp[hl]
   .rw[if_neg e2,if_neg (λh=>e2 h.2.symm)];exact c3 t' Jk
 .refine⟨d1,l',(hblk _ λe2=>e (h.inj a' a ha' ha e2)).trans d2,λt' Jk=>?_⟩;rw[hM a' t' ha' Jk,if_neg (λh=>e h.1)];exact d3 t' Jk
def GM.Ll {A:Option Addr}{c:Nat}(h:GM w base (.slice A m c) m m M bl):BD w w.heap.size A (Lu m M):=λhn=>by
 have hm:0<m:=by
  rcases xV m with e|e
  .exact absurd (xU ((gb m M).trans e)) hn
  .exact e
 obtain⟨g,rfl,hg,_⟩:=h.Mv hm;refine⟨g,0,rfl,hg,λi l hl=>?_⟩;have hi:i<m:=by have:=(xL.1 hl).1;rwa [gb] at this
 rw[uq hi] at hl;cases hl;obtain⟨g',e,_,hc⟩:=h.Mv hi;have e':g'=g:=by injection e with e;injection e with e;exact e.symm
 subst e';refine⟨some ⟨bl i,0,none⟩,m,by simpa using hc,λ_=>⟨_,0,rfl,?_,λj x hx=>?_⟩⟩
 .obtain⟨_,l,c2,_⟩:=h.cells i hi;exact(xg.1 c2).1
 .have hj:j<m:=by have:=(xL.1 hx).1;simpa using this
  have Hh:x=M i j:=by
   rw[yp,zb hj] at hx;exact(Option.some.inj hx).symm
  rw[xG,Hh];exact(h.at_ hi hj).2.2.1
end
def E8 (w:World)(B:Nat)(A:Option Addr)(l:List (Int×Int)):Prop :=
 l≠[]->∃b o,A=some ⟨b,o,none⟩/\b<B/\∀(i:Nat) (x:Int×Int),l[i]?=some x->w.cell? ⟨b,o+i*2,none⟩=some (.int .i64 x.1)/\w.cell? ⟨b,o+i*2+1,none⟩=some (.int .i64 x.2)
def E8.keep {w w':World}{B:Nat}{A:Option Addr}{l:List (Int×Int)}(h:E8 w B A l)(hk:∀b o,b<B->w'.cell? ⟨b,o,none⟩=w.cell? ⟨b,o,none⟩):E8 w' B A l:=λhn=>by
 obtain⟨b,o,e,hb,hc⟩:=h hn;exact⟨b,o,e,hb,λi x hx=>⟨(hk _ _ hb).trans (hc i x hx).1,(hk _ _ hb).trans (hc i x hx).2⟩⟩
def E8.gr {w w':World}{B:Nat}{A:Option Addr}{l:List (Int×Int)}(h:E8 w B A l)(hB:B<=w.heap.size)(hg:Gr w w'):E8 w' B A l:=h.keep λ_ _ hb=>hg.cell (xl hb hB)
def E8.at_ {w:World}{B:Nat}{A:Option Addr}{l:List (Int×Int)}(h:E8 w B A l){k:Nat}(hk:k<l.length):∃b o,A=some ⟨b,o,none⟩/\b<B/\w.cell? ⟨b,o+k*2,none⟩=some (.int .i64 (l[k]?.getD (0,0)).1)/\w.cell? ⟨b,o+k*2+1,none⟩=some (.int .i64 (l[k]?.getD (0,0)).2):=by
 obtain⟨b,o,e,hb,hc⟩:=h (λe=>by rw[e] at hk;simp at hk);obtain⟨h1,h2⟩:=hc k _ (xi hk);exact⟨b,o,e,hb,by rw[xi hk];exact h1,by rw[xi hk];exact h2⟩
end Go.Sq
namespace Go.Proofs.Ao
open Go.RowKit Go.Sq
def us (a b q:Int)(pb:Nat)(w:World)(hp:pb<w.heap.size)(hc:w.cell? ⟨pb,0,none⟩=some (.int .i64 q)) :
  Calls An 132 #[.agg #[.int .i64 a,.int .i64 b],.pointer (some ⟨pb,0,none⟩)] w λe w'=>e=.returned (.bool (a==q))/\Gr w w':=by
 go_enter Sq.func132,Tryz.ntmps132;go_wp2;go_ret;exact⟨rfl,(Gr.refl w).alloc _⟩
def m9 (A:Option Addr)(c pb:Nat)(q:Int)(l:List (Int×Int))(w:World)(B:Nat)(hB:B<=w.heap.size)(h:E8 w B A l)(hl:l.length<=4611686018427387904)(hp:pb<w.heap.size)(hc:w.cell? ⟨pb,0,none⟩=some (.int .i64 q)) :
  Calls An 157 #[.slice A l.length c,.func (.func 132) #[] #[.pointer (some ⟨pb,0,none⟩)]] w λe w'=>(∃n:Int,e=.returned (.int .i64 n)/\(0<=n↔l.any (·.1==q)=true))/\Gr w w':=by
 have HR:=xf h;clear h;go_enter Sq.func157,Tryz.ntmps157;go_wp2;go_loopw [8] (λi wr=>∃k:Nat,k<=l.length/\i=.int .i64 k/\(l.take k).any (·.1==q)=false/\Gr w wr) (λi _=>l.length-(intOf i).toNat)
 case atStart=>exact⟨0,by omega,rfl,by simp,.refl _⟩
 case round =>
  obtain⟨k,hk,rfl,ha,hg⟩:=hrel;have HA:=xf ha;have HG:=xf hg;clear ha hg;by_cases hlt:k<l.length
  .obtain⟨b,o,rfl,hb,h1,h2⟩:=(HR.out.gr hB HG.out).at_ hlt;have HT:=xf (bm (0,0) l k hlt);have HM:Hid (l[k]?.getD (0,0)∈l):=xf (by rw[xi hlt];exact yb hlt);generalize l[k]?.getD (0,0)=x at h1 h2 HT HM;have hz:=HG.out.size;have HC:=xf (us x.1 x.2 q pb wr (by omega) ((HG.out.cell hp).trans hc));obtain⟨v,hv⟩:∃v,v=(x.1==q):=⟨_,rfl⟩;rw[<-hv] at HC;have HV:=xf hv;clear hv;cases v with
   |true =>
    go_wp2_with (go_at_call 132;refine HC.out.mono ?_;rintro e w2 ⟨rfl,hg2⟩;have Ea:=xf hg2;clear hg2);go_ret;refine⟨⟨k,rfl,⟨λ_=>List.any_eq_true.2 ⟨x,HM.out,HV.out.symm⟩,λ_=>by omega⟩⟩,HG.out.trans Ea.out⟩
   |false =>
    go_wp2_with (go_at_call 132;refine HC.out.mono ?_;rintro e w2 ⟨rfl,hg2⟩;have Ea:=xf hg2;clear hg2);go_roundw
    case rel=>exact⟨k+1,by omega,by go_num,by rw[HT.out,List.any_append,HA.out];simp[<-HV.out],HG.out.trans Ea.out⟩
    case measure=>simp[intOf];omega
  .have D6:k=l.length:=by omega
   have HZ:=xf (show l.any (·.1==q)=false by have:=HA.out;rwa [D6,xN (by omega)] at this);clear D6;go_wp2;go_ret;exact⟨⟨-1,rfl,by rw[HZ.out];simp⟩,HG.out⟩
def qR (A:Option Addr)(c pb:Nat)(q:Int)(l:List (Int×Int))(w:World)(B:Nat)(hB:B<=w.heap.size)(h:E8 w B A l)(hl:l.length<=4611686018427387904)(hp:pb<w.heap.size)(hc:w.cell? ⟨pb,0,none⟩=some (.int .i64 q)) :
  Calls An 131 #[.slice A l.length c,.func (.func 132) #[] #[.pointer (some ⟨pb,0,none⟩)]] w λe w'=>e=.returned (.bool (l.any (·.1==q)))/\Gr w w':=by
 have HC:=xf (m9 A c pb q l w B hB h hl hp hc);clear h;go_enter Sq.func131,Tryz.ntmps131;go_wp2_with fail;refine HC.out.mono ?_;rintro e w2 ⟨⟨n,rfl,hn⟩,hg⟩;have HG:=xf hg
 have HN:=xf (show decide (0<=n)=l.any (·.1==q) by
  cases hv:l.any (·.1==q) with
  |true=>simp[hn.2 hv]
  |false=>simp;have:=λh=>hn.1 h;rw[hv] at this;exact Int.not_le.1 λh=>by cases this h)
 clear hn hg;go_wp2;go_ret;exact⟨ap HN.out,HG.out⟩
end Go.Proofs.Ao
