/- Parts of the proof. -/
import Derived.Test.YtjcgijifamcggaaGreatP17
import Derived.Test.YtjcgijifamcggaaGreatP00
import Derived.Test.YtjcgijifamcggaaGreatP16
import Derived.Test.YtjcgijifamcggaaGreatP13
import Derived.Test.YtjcgijifamcggaaGreatP15
import Derived.Test.YtjcgijifamcggaaGreatP14
import Derived.Test.YtjcgijifamcggaaGreatP02
set_option linter.all false
set_option maxHeartbeats 16000000
set_option maxRecDepth 1000000
namespace Go.Proofs.YtjcgijifamcggaaGreat
open Go.RowKit Go.Bl Go.Co Go.Conc Go.Sq
attribute [local go_sem] Oper.semAt_some
noncomputable def wB:Code:=Tryz.f11.body.getD .skip
noncomputable def e1:Array Oper:=DN (az (ae wB))
noncomputable def e2:Array Oper:=DN (az (ae (ae wB)))
noncomputable def qr:Code:=ae (ae wB)
noncomputable def Ql:Code:=ae (ae (ae wB))
def KC (bn:Nat)(w1:World)(v:Value)(w':World):Prop:=∃bo bh:Nat,v=Bp (some ⟨bn,0,none⟩) (some ⟨bh,0,none⟩) A7 3 3/\w'.heap[bo]?=some (.cells #[.int .i64 0] 3 (0,0))/\w'.heap[bh]?=some (.cells (E8 bo).toArray 58 (0,0))/\w1.heap.size<=w'.heap.size/\∀b,b<w1.heap.size->w'.heap[b]?=w1.heap[b]?
def LH {bn:Nat}{w:World}(τ:Tape)(d:Nat):Calls AG 31 #[.slice (some ⟨bn,0,none⟩) 3 3] (on w τ d) (λe w'=>∃v,e=.returned v/\KC bn w v w'):=by
 refine(qd (some ⟨bn,0,none⟩) 3 [3,2,4] (on w τ d)).mono ?_;rintro e w' ⟨hA,rfl,_,hg,rfl,h1,h2⟩;exact⟨_,rfl,_,_,rfl,h1,by simpa [E8] using h2,hg.size,λb hb=>hg.below.block b hb⟩
def Nt {bn:Nat}{w:World}{SB:FuncId->Bool}(hn:w.heap[bn]?=some (.cells EB.toArray 3 (0,0))):∀b,b=bn->∃o,w.heap[b]?=some o/\BS (SP SB zV) (CK AG SB false) (BK λb=>b=bn) o o:=by
 rintro b rfl;refine⟨_,hn,.cells (B9 λv hv=>?_) λi h1 h2=>⟨h1,h2⟩⟩;simp only[EB,xC,xz,or_false] at hv;rcases hv with rfl|rfl|rfl<;>exact AO.int _ _
def ue {BB:FuncId->Bool}(hB:BB 11=true)(WQ:BB 30=true)(Mg:Fi BB){Q:Goroutine->World->Prop}(hQ:∀g w W,Bh w W->Q g w->Q g W){cs:List Frame}(hcs:cs≠[]){w:World}
  (h:∀(bn bo bh cb sb cap nb:Nat) (cur:List Value) (t:TypeId) (w':World) (T U:Array Value),Dk w' bn bo bh cb sb cap cur t->w'.heap[nb]?=some (GZ 0)->hasB (BA bn bo bh cb sb cap cur t) nb=false->T.size=19->T.getD 6 undef=.pointer (some ⟨nb,0,none⟩) ->
   U.size=95->(∀v∈U.toList,∀(SB:FuncId->Bool) (H:Hid),B6 SB H (λb=>hasB (BA bn bo bh cb sb cap cur t) b=true) v)->w.heap.size<=w'.heap.size->(∀b,b<w.heap.size->w'.heap[b]?=w.heap[b]?) ->
   BN Tryz.prog BB Q 0 (bQ PP 58 (Fx cb (.func 59) #[] [Value.pointer (some ⟨nb,0,none⟩)].toArray) ((base 30).at ⟨T,[]⟩ [.inRegion c5 [2],.code x5]) ((base 11).at ⟨U,[]⟩ [.inRegion e1 [2,3,4,5,6,7],.code qr]::cs)) w') :
  BN Tryz.prog BB Q 0 (Go.Conc.G (Frame.enter Tryz.prog 11 #[] .normal) cs) w:=by
 rw[enter_at _ Tryz.func11 rfl];simp only[Tryz.ntmps11,xF,xH,xK,Nat.reduceAdd,Nat.reduceSub,yj,yk,yx,ym,yI,yF];change BN Tryz.prog BB Q 0 (G _ cs) w;refine am hQ hB hcs ?_;refine ay hQ hB hcs ?_;simp only[xF,xH,xK,Nat.reduceAdd,xM,List.range,List.range.loop];refine af hQ hB hcs rfl rfl λK hK q1 q2 q3=>?_;go_simp;refine hK _ w ?_ _ ⟨rfl,rfl,rfl⟩;clear hK K q1 q2 q3
 try walk_nrm
 try simp only[aa]
 refine ax hQ hB hcs ?_;refine am hQ hB hcs ?_;refine ay hQ hB hcs ?_;simp only[xF,xH,xK,Nat.reduceAdd,xM,List.range,List.range.loop];refine af hQ hB hcs rfl rfl λK hK q1 q2 q3=>?_;go_simp;refine hK _ (w.alloc _) ?_ _ ⟨rfl,rfl,rfl⟩;clear hK K q1 q2 q3
 try walk_nrm
 try simp only[aa]
 obtain⟨w1,EH⟩:∃w1,w1=w.alloc (.cells EB.toArray 3):=⟨_,rfl⟩;change BN Tryz.prog BB Q 0 _ (w.alloc (.cells EB.toArray 3));rw[<-EH];have KD:=xl (show w1.heap.size=w.heap.size+1 by rw[EH,aE]);have Qm:=xl (show ∀b,b<w.heap.size->w1.heap[b]?=w.heap[b]? from λb hb=>by rw[EH,aA,if_neg (by omega)]);have LI:w1.heap[w.heap.size]?=some (.cells EB.toArray 3 (0,0)):=by rw[EH,aA,if_pos rfl]
 clear EH;refine aw hQ hB (by kernel_rfl) λτ d=>?_;refine aB rfl rfl (by decide) rfl Tryz.func31 (by kernel_rfl) (by kernel_rfl) ⟨Be _ _,w1,zU,?_⟩
 try walk_nrm
 refine(dH (H:=zV) Mg).fn (f:=31) (by decide) (by decide) (K0:=λb=>b=w.heap.size) hcs (λ_ _=>xQ _) (xQ _) (B9 (l:=[.slice (some ⟨w.heap.size,0,none⟩) 3 3]) λv hv=>?_) (λb _ hb=>by cases hb) (λb hb=>by cases hb) (λb hb _=>Nt LI b hb) hQ (R:=KC w.heap.size w1) LH ?_
 .simp only[xC,xz,or_false] at hv;subst hv;exact B6.slice (K:=λb=>b=w.heap.size) rfl _ _ _ _
 rintro v w2 ⟨bo,bh,rfl,WR,WS,aaU,Jq⟩;change BN Tryz.prog BB Q 0 _ w2;rw[Frame.finish_at];simp only[yd,List.getElem?_cons_succ,List.getElem?_cons_zero,yp]
 try walk_nrm
 refine aw hQ hB (by kernel_rfl) λτ d=>?_;refine aB rfl rfl (by decide) rfl Tryz.func30 (by kernel_rfl) (by kernel_rfl) ⟨Be _ _,w2,zU,?_⟩
 try walk_nrm
 refine qk WQ Mg hQ (Be _ _) (bn:=w.heap.size) (bo:=bo) (bh:=bh) ((Jq _ (by have:=KD.out;omega)).trans LI) WR WS λcb sb cap nb cur t w' T hC MV Nq hT h6 hz hold=>?_;refine h w.heap.size bo bh cb sb cap nb cur t w' T _ hC MV Nq hT h6 rfl (λv hv SB H=>?_) (by have:=KD.out;omega) λb hb=>(hold b (by have:=KD.out;omega)).trans ((Jq b (by have:=KD.out;omega)).trans (Qm.out b hb))
 have k0:B6 SB H (λb=>hasB (BA w.heap.size bo bh cb sb cap cur t) b=true) (.slice (some ⟨w.heap.size,0,none⟩) 3 3):=B6.slice ((BW _).2 (by simp)) _ _ _ _;have k1:B6 SB H (λb=>hasB (BA w.heap.size bo bh cb sb cap cur t) b=true) (Bp (some ⟨w.heap.size,0,none⟩) (some ⟨bh,0,none⟩) A7 3 3):=B6.agg (l:=[.slice (some ⟨w.heap.size,0,none⟩) 3 3,.slice (some ⟨bh,0,none⟩) 3 3]) λv hv=>by
  simp only[xC,xz,or_false] at hv;rcases hv with rfl|rfl
  .exact k0
  .exact B6.slice ((BW _).2 (by simp)) _ _ _ _
 simp only[xC,xz,or_false,or_self] at hv
 repeat (rcases hv with hv|hv;· subst hv;first|exact AO.bool _|exact k0|exact k1|exact B6.undef)
 subst hv;first|exact AO.bool _|exact k0|exact k1|exact B6.undef
def U4 {T:Array Value}(h:T.size=95):∃(y0 y1 y2 y3 y4 y5 y6 y7 y8 y9 Ge Gf Gg Gh Gi Gj Gk Gl Gm Im Io Ip Iq Ir Iu:Value) (tl:List Value),T=(y0::y1::y2::y3::y4::y5::y6::y7::y8::y9::Ge::Gf::Gg::Gh::Gi::Gj::Gk::Gl::Gm::Im::Io::Ip::Iq::Ir::Iu::tl).toArray/\tl.length=70:=by
 obtain⟨l⟩:=T;have h:l.length=95:=h
 match l,h with
 |y0::y1::y2::y3::y4::y5::y6::y7::y8::y9::Ge::Gf::Gg::Gh::Gi::Gj::Gk::Gl::Gm::Im::Io::Ip::Iq::Ir::Iu::tl,h=>exact⟨y0,y1,y2,y3,y4,y5,y6,y7,y8,y9,Ge,Gf,Gg,Gh,Gi,Gj,Gk,Gl,Gm,Im,Io,Ip,Iq,Ir,Iu,tl,rfl,by simpa using h⟩
def uf {BB:FuncId->Bool}(hB:BB 11=true)(WQ:BB 30=true)(WT:BB 32=true)(Mg:Fi BB){Q:Goroutine->World->Prop}(hQ:∀g w W,Bh w W->Q g w->Q g W){cs:List Frame}(hcs:cs≠[]){K1:Nat->Prop}{nb:Nat}{w:World}
  (hn:w.heap[nb]?=some (GZ 1)) {T U:Array Value} (hT:T.size=19) (h6:T.getD 6 undef=.pointer (some ⟨nb,0,none⟩)) (hU:U.size=95) (Og:∀v∈U.toList,∀(SB:FuncId->Bool) (H:Hid),B6 SB H K1 v)
  (h:∀(bn bo bh cb sb cap qb xb kb:Nat) (cur:List Value) (t:TypeId) (w':World) (T U:Array Value),Dk w' bn bo bh cb sb cap cur t->w'.heap[kb]?=some (D8 false λ_=>0)->(∀p∈C8 xb qb cb,w'.heap[p.1]?=some (.cells p.2.1.toArray p.2.2 (0,0)))->hasB (BA bn bo bh cb sb cap cur t++C8 xb qb cb) kb=false ->
   T.size=27->T.getD 4 undef=.pointer (some ⟨qb,0,none⟩)->T.getD 7 undef=.pointer (some ⟨kb,0,none⟩) ->
   U.size=95->U.getD 1 undef=.int .i64 1->U.getD 2 undef=.int .i64 0->(∀v∈U.toList,∀(SB:FuncId->Bool) (H:Hid),B6 SB H (λb=>K1 b\/hasB (BA bn bo bh cb sb cap cur t) b=true) v)->w.heap.size<=w'.heap.size->(∀b,b<w.heap.size->w'.heap[b]?=w.heap[b]?) ->
   BN Tryz.prog BB Q 0 (bQ PP 58 (Fx cb (.func 67) #[] [Value.pointer (some ⟨kb,0,none⟩),.pointer (some ⟨xb,0,none⟩)].toArray) ((base 32).at ⟨T,[]⟩ [.inRegion d6 [2],.code z6]) ((base 11).at ⟨U,[]⟩ [.inRegion e2 [2,3,4,5,6,7],.code Ql]::cs)) w') :
  BN Tryz.prog BB Q 0 (back ((base 30).at ⟨T,[]⟩ [.inRegion c5 [2],.code x5]) ((base 11).at ⟨U,[]⟩ [.inRegion e1 [2,3,4,5,6,7],.code qr]::cs)) w:=by
 refine oJ WQ Mg hQ hcs hn hT h6 ?_;obtain⟨y0,y1,y2,y3,y4,y5,y6,y7,y8,y9,Ge,Gf,Gg,Gh,Gi,Gj,Gk,Gl,Gm,Im,Io,Ip,Iq,Ir,Iu,tl,rfl,Kt⟩:=U4 hU;have Nu:(e1[2]?.bind (·.dst))=some 15:=rfl;rw[Nu]
 try walk_nrm
 have ee1:e1=DN (az (ae wB)):=rfl;simp only[wB,Tryz.f11,Option.getD_some,ae,az,DN] at ee1;rw[ee1];clear ee1 Nu;refine af hQ hB hcs rfl rfl λK hK q1 q2 q3=>?_;go_simp;refine hK _ w ?_ _ ⟨rfl,rfl,rfl⟩;clear hK K q1 q2 q3
 try walk_nrm
 try simp only[aa]
 refine af hQ hB hcs rfl rfl λK hK q1 q2 q3=>?_;go_simp;refine hK _ w ?_ _ ⟨rfl,rfl,rfl⟩;clear hK K q1 q2 q3
 try walk_nrm
 try simp only[aa]
 refine af hQ hB hcs rfl rfl λK hK q1 q2 q3=>?_;go_simp;refine hK _ w ?_ _ ⟨rfl,rfl,rfl⟩;clear hK K q1 q2 q3
 try walk_nrm
 try simp only[aa]
 refine af hQ hB hcs rfl rfl λK hK q1 q2 q3=>?_;go_simp;refine hK _ w ?_ _ ⟨rfl,rfl,rfl⟩;clear hK K q1 q2 q3
 try walk_nrm
 try simp only[aa]
 refine af hQ hB hcs rfl rfl λK hK q1 q2 q3=>?_;go_simp;refine hK _ w ?_ _ ⟨rfl,rfl,rfl⟩;clear hK K q1 q2 q3
 try walk_nrm
 try simp only[aa]
 refine ax hQ hB hcs ?_;have ez2:qr=ae (ae wB):=rfl;simp only[wB,Tryz.f11,Option.getD_some,ae] at ez2;rw[ez2];clear ez2;refine am hQ hB hcs ?_;refine ay hQ hB hcs ?_;simp only[xF,xH,xK,Nat.reduceAdd,xM,List.range,List.range.loop];refine af hQ hB hcs rfl rfl λK hK q1 q2 q3=>?_;go_simp;refine hK _ (w.alloc _) ?_ _ ⟨rfl,rfl,rfl⟩;clear hK K q1 q2 q3
 try walk_nrm
 try simp only[aa]
 obtain⟨w1,EH⟩:∃w1,w1=w.alloc (.cells EB.toArray 3):=⟨_,rfl⟩;change BN Tryz.prog BB Q 0 _ (w.alloc (.cells EB.toArray 3));rw[<-EH];have KD:=xl (show w1.heap.size=w.heap.size+1 by rw[EH,aE]);have Qm:=xl (show ∀b,b<w.heap.size->w1.heap[b]?=w.heap[b]? from λb hb=>by rw[EH,aA,if_neg (by omega)]);have LI:w1.heap[w.heap.size]?=some (.cells EB.toArray 3 (0,0)):=by rw[EH,aA,if_pos rfl]
 clear EH;refine aw hQ hB (by kernel_rfl) λτ d=>?_;refine aB rfl rfl (by decide) rfl Tryz.func31 (by kernel_rfl) (by kernel_rfl) ⟨Be _ _,w1,zU,?_⟩
 try walk_nrm
 refine(dH (H:=zV) Mg).fn (f:=31) (by decide) (by decide) (K0:=λb=>b=w.heap.size) hcs (λ_ _=>xQ _) (xQ _) (B9 (l:=[.slice (some ⟨w.heap.size,0,none⟩) 3 3]) λv hv=>?_) (λb _ hb=>by cases hb) (λb hb=>by cases hb) (λb hb _=>Nt LI b hb) hQ (R:=KC w.heap.size w1) LH ?_
 .simp only[xC,xz,or_false] at hv;subst hv;exact B6.slice (K:=λb=>b=w.heap.size) rfl _ _ _ _
 rintro v w2 ⟨bo,bh,rfl,WR,WS,aaU,Jq⟩;change BN Tryz.prog BB Q 0 _ w2;rw[Frame.finish_at];simp only[yd,List.getElem?_cons_succ,List.getElem?_cons_zero,yp]
 try walk_nrm
 refine aw hQ hB (by kernel_rfl) λτ d=>?_;refine aB rfl rfl (by decide) rfl Tryz.func32 (by kernel_rfl) (by kernel_rfl) ⟨Be _ _,w2,zU,?_⟩
 try walk_nrm
 refine sk WT Mg hQ (Be _ _) (bn:=w.heap.size) (bo:=bo) (bh:=bh) ((Jq _ (by have:=KD.out;omega)).trans LI) WR WS λcb sb cap qb xb kb cur t w' T hC MV hX Nq hT h4 h7 hz hold=>?_;refine h w.heap.size bo bh cb sb cap qb xb kb cur t w' T _ hC MV hX Nq hT h4 h7 (by simp[Kt]) rfl rfl (λv hv SB H=>?_) (by have:=KD.out;omega) λb hb=>(hold b (by have:=KD.out;omega)).trans ((Jq b (by have:=KD.out;omega)).trans (Qm.out b hb))
 have k0:B6 SB H (λb=>K1 b\/hasB (BA w.heap.size bo bh cb sb cap cur t) b=true) (.slice (some ⟨w.heap.size,0,none⟩) 3 3):=B6.slice (.inr ((BW _).2 (by simp))) _ _ _ _;have k1:B6 SB H (λb=>K1 b\/hasB (BA w.heap.size bo bh cb sb cap cur t) b=true) (Bp (some ⟨w.heap.size,0,none⟩) (some ⟨bh,0,none⟩) A7 3 3):=B6.agg (l:=[.slice (some ⟨w.heap.size,0,none⟩) 3 3,.slice (some ⟨bh,0,none⟩) 3 3]) λv hv=>by
  simp only[xC,xz,or_false] at hv;rcases hv with rfl|rfl
  .exact k0
  .exact B6.slice (.inr ((BW _).2 (by simp))) _ _ _ _
 have k2:B6 SB H (λb=>K1 b\/hasB (BA w.heap.size bo bh cb sb cap cur t) b=true) (.tuple #[.int .i64 1,.int .i64 0]):=by
  refine(B9 (l:=[.int .i64 1,.int .i64 0]) λv hv=>?_).tuple;simp only[xC,xz,or_false] at hv;rcases hv with rfl|rfl<;>exact AO.int _ _
 have k3:∀u∈(y0::y1::y2::y3::y4::y5::y6::y7::y8::y9::Ge::Gf::Gg::Gh::Gi::Gj::Gk::Gl::Gm::Im::Io::Ip::Iq::Ir::Iu::tl:List Value),B6 SB H (λb=>K1 b\/hasB (BA w.heap.size bo bh cb sb cap cur t) b=true) u:=λu hu=>(Og u (by simpa using hu) SB H).mono λb hb=>.inl hb;have hv2:v=.int .i64 1\/v=.int .i64 0\/v=.tuple #[.int .i64 1,.int .i64 0]\/v=.slice (some ⟨w.heap.size,0,none⟩) 3 3\/v=Bp (some ⟨w.heap.size,0,none⟩) (some ⟨bh,0,none⟩) A7 3 3\/v∈(y0::y1::y2::y3::y4::y5::y6::y7::y8::y9::Ge::Gf::Gg::Gh::Gi::Gj::Gk::Gl::Gm::Im::Io::Ip::Iq::Ir::Iu::tl:List Value):=by
  clear k0 k1 k2 k3 h Og;simp only[xC,xz,or_false] at hv ⊢
  grind
 rcases hv2 with rfl|rfl|rfl|rfl|rfl|hv2
 .exact AO.int _ _
 .exact AO.int _ _
 .exact k2
 .exact k0
 .exact k1
 .exact k3 v hv2
def ug {BB:FuncId->Bool}(hB:BB 11=true)(WT:BB 32=true)(Mg:Fi BB){Q:Goroutine->World->Prop}(hQ:∀g w W,Bh w W->Q g w->Q g W){cs:List Frame}(hcs:cs≠[]){K1:Nat->Prop}{bn bo bh cb sb cap qb kb:Nat}{cur:List Value}{t:TypeId}{ρ:Bt}(Dp:∀i,i<5->ρ i<16){w:World}
  (hC:Dk w bn bo bh cb sb cap cur t) (hk:w.heap[kb]?=some (D8 true ρ)) (hq:w.heap[qb]?=some (.cells #[.pointer (some ⟨cb,0,none⟩)] 49 (0,0))) {T U:Array Value} (hT:T.size=27) (h4:T.getD 4 undef=.pointer (some ⟨qb,0,none⟩)) (h7:T.getD 7 undef=.pointer (some ⟨kb,0,none⟩))
  (hU:U.size=95) (hU1:U.getD 1 undef=.int .i64 1) (hU2:U.getD 2 undef=.int .i64 0) (Og:∀v∈U.toList,∀(SB:FuncId->Bool) (H:Hid),B6 SB H K1 v)
  (h:∀(A:Option Addr) (c:Nat) (xs:List Value) (w':World) (K':Nat->Prop) (U:Array Value),AY w' (w.heap.size+1) (.slice A 3 c) (BJ ρ 3) xs->w.heap.size<=w'.heap.size->(∀b,b<w.heap.size->w'.heap[b]?=w.heap[b]?)->(∀b,K' b->∃o,w'.heap[b]?=some o/\BS (SP Fw zV) (CK AG Fw false) (BK K') o o) ->
   U.size=95->U.getD 1 undef=.int .i64 1->U.getD 2 undef=.int .i64 0->U.getD 3 undef=.slice A 3 c->U.getD 4 undef=.int .i64 0->(∀v∈U.toList,B6 Fw zV (λb=>K1 b\/K' b) v)->BN Tryz.prog BB Q 0 (Go.Conc.G ((base 11).at ⟨U,[]⟩ [.code Ql]) cs) w') :
  BN Tryz.prog BB Q 0 (back ((base 32).at ⟨T,[]⟩ [.inRegion d6 [2],.code z6]) ((base 11).at ⟨U,[]⟩ [.inRegion e2 [2,3,4,5,6,7],.code Ql]::cs)) w:=by
 refine qq WT Mg hQ hcs Dp hC hk hq hT h4 h7 λA c xs w2 K' ho hz hold hv Dj=>?_;obtain⟨y0,y1,y2,y3,y4,y5,y6,y7,y8,y9,Ge,Gf,Gg,Gh,Gi,Gj,Gk,Gl,Gm,Im,Io,Ip,Iq,Ir,Iu,tl,rfl,Kt⟩:=U4 hU;have hU1:y1=.int .i64 1:=hU1;have hU2:y2=.int .i64 0:=hU2;subst hU1 hU2;have SN:(e2[2]?.bind (·.dst))=some 21:=rfl;rw[SN]
 try walk_nrm
 have ee2:e2=DN (az (ae (ae wB))):=rfl;simp only[wB,Tryz.f11,Option.getD_some,ae,az,DN] at ee2;rw[ee2];clear ee2 SN;refine af hQ hB hcs rfl rfl λK hK q1 q2 q3=>?_;go_simp;refine hK _ w2 ?_ _ ⟨rfl,rfl,rfl⟩;clear hK K q1 q2 q3
 try walk_nrm
 try simp only[aa]
 refine af hQ hB hcs rfl rfl λK hK q1 q2 q3=>?_;go_simp;refine hK _ w2 ?_ _ ⟨rfl,rfl,rfl⟩;clear hK K q1 q2 q3
 try walk_nrm
 try simp only[aa]
 refine af hQ hB hcs rfl rfl λK hK q1 q2 q3=>?_;go_simp;refine hK _ w2 ?_ _ ⟨rfl,rfl,rfl⟩;clear hK K q1 q2 q3
 try walk_nrm
 try simp only[aa]
 refine af hQ hB hcs rfl rfl λK hK q1 q2 q3=>?_;go_simp;refine hK _ w2 ?_ _ ⟨rfl,rfl,rfl⟩;clear hK K q1 q2 q3
 try walk_nrm
 try simp only[aa]
 refine af hQ hB hcs rfl rfl λK hK q1 q2 q3=>?_;go_simp;refine hK _ w2 ?_ _ ⟨rfl,rfl,rfl⟩;clear hK K q1 q2 q3
 try walk_nrm
 try simp only[aa]
 refine ax hQ hB hcs ?_;refine h A c xs w2 K' _ ho hz hold Dj (by simp[Kt]) rfl rfl rfl rfl λv hv3=>?_;have k0:B6 Fw zV (λb=>K1 b\/K' b) (.slice A 3 c):=hv.mono λb B hb=>⟨.inr hb.1,hb.2⟩;have k2:B6 Fw zV (λb=>K1 b\/K' b) (.tuple #[.slice A 3 c,.int .i64 0]):=by
  refine(B9 (l:=[.slice A 3 c,.int .i64 0]) λv hv=>?_).tuple;simp only[xC,xz,or_false] at hv;rcases hv with rfl|rfl
  .exact k0
  .exact AO.int _ _
 have k3:∀u∈(y0::.int .i64 1::.int .i64 0::y3::y4::y5::y6::y7::y8::y9::Ge::Gf::Gg::Gh::Gi::Gj::Gk::Gl::Gm::Im::Io::Ip::Iq::Ir::Iu::tl:List Value),B6 Fw zV (λb=>K1 b\/K' b) u:=λu hu=>(Og u (by simpa using hu) Fw zV).mono λb hb=>.inl hb;have hv2:v=.slice A 3 c\/v=.int .i64 0\/v=.tuple #[.slice A 3 c,.int .i64 0]\/v∈(y0::.int .i64 1::.int .i64 0::y3::y4::y5::y6::y7::y8::y9::Ge::Gf::Gg::Gh::Gi::Gj::Gk::Gl::Gm::Im::Io::Ip::Iq::Ir::Iu::tl:List Value):=by
  clear k0 k2 k3 h Og;simp only[xC,xz,or_false] at hv3 ⊢
  grind
 rcases hv2 with rfl|rfl|rfl|hv2
 .exact k0
 .exact AO.int _ _
 .exact k2
 .exact k3 v hv2
def sml:List FuncId:=Yn++[30,32,58,59,62,67,134,135,150,151,152]
def Jr (f:FuncId):Bool:=sml.contains f
def WU (f:FuncId):Bool:=f==58||f==59||f==62||f==67||f==150||f==152
def Fj (f:FuncId):Bool:=Jr f&&!WU f
def uh {p:Nat->Bool}(h:sml.all p=true):∀f,Jr f=true->p f=true:=λf hf=>(yu.1 h) f (by simpa [Jr] using hf)
def fC:Fi Fj:=by
 refine⟨λf hf=>?_,by decide,by decide⟩;have:Yn.all Fj=true:=by kernel_rfl
 exact jP this f hf
def vM:sml.all (λf=>Hh Tryz.prog Jr true f||TH f||WU f)=true:=by kernel_rfl
def wP {P:Bw}(f:FuncId)(hf:aI Jr f=true):FY P f:=by
 unfold aI at hf;have h:Jr 93=false:=by decide
 rw[h,yN,yV] at hf;cases hf
def Nv (H:Hid):Lib PP Jr H true Fj 0:=by
 refine im (λf hf=>?_) (λf hf hb=>?_) (λf hf=>?_) wP ⟨yP Tryz.globals_size,Tryz.Kn⟩
 .simp only[Fj,xG,yG] at hf;have:=uh vM f hf.1;simp only[hf.2,zF,xV] at this;rcases this with h|h
  .exact .inl ⟨h,rfl⟩
  .exact .inr (tf h)
 .simp only[Fj,hf,zG,zc,WU,xV,beq_iff_eq] at hb;rcases hb with((((rfl|rfl)|rfl)|rfl)|rfl)|rfl
  .exact⟨_,_,Tryz.func58,Tryz.func58,rfl,by decide,by decide,rfl,rfl⟩
  .exact⟨_,_,Tryz.func59,Tryz.func59,rfl,by decide,by decide,rfl,rfl⟩
  .exact⟨_,_,Tryz.func62,Tryz.func62,rfl,by decide,by decide,rfl,rfl⟩
  .exact⟨_,_,Tryz.func67,Tryz.func67,rfl,by decide,by decide,rfl,rfl⟩
  .exact⟨_,_,Tryz.func150,Tryz.func150,rfl,by decide,by decide,rfl,rfl⟩
  .exact⟨_,_,Tryz.func152,Tryz.func152,rfl,by decide,by decide,rfl,rfl⟩
 .simp only[Fj,xG] at hf;exact hf.1
def Qn:∃cE,Tryz.f58.body=some cE/\codeOk Tryz.prog Jr true true cE=false:=⟨_,rfl,by kernel_rfl⟩
open Go.ConcN
def Qo:∀(f:FuncId) (fn:Func),PP.a.funcs[f]?=some fn->fn.body.isNone=true->PP.fs[f]?=some fn:=λ_ _ h _=>h
def KQ (cs:List Frame)(g:Goroutine)(w:World):Prop:=∃(bn bo bh cb sb cap nb:Nat) (cur:List Value) (t:TypeId) (T U:Array Value),Dk w bn bo bh cb sb cap cur t/\w.heap[nb]?=some (GZ 0)/\hasB (BA bn bo bh cb sb cap cur t) nb=false/\T.size=19/\T.getD 6 undef=.pointer (some ⟨nb,0,none⟩) /\
 U.size=95/\(∀v∈U.toList,∀(SB:FuncId->Bool) (H:Hid),B6 SB H (λb=>hasB (BA bn bo bh cb sb cap cur t) b=true) v) /\
 g=bQ PP 58 (Fx cb (.func 59) #[] [Value.pointer (some ⟨nb,0,none⟩)].toArray) ((base 30).at ⟨T,[]⟩ [.inRegion c5 [2],.code x5]) ((base 11).at ⟨U,[]⟩ [.inRegion e1 [2,3,4,5,6,7],.code qr]::cs)
def Dk.same {w w':World}{bn bo bh cb sb cap:Nat}{cur:List Value}{t:TypeId}(h:Dk w bn bo bh cb sb cap cur t)(s:Bh w w'):Dk w' bn bo bh cb sb cap cur t:=h.keep λb _=>by rw[s.1]
def KQ.same {cs:List Frame}(g:Goroutine)(w W:World)(s:Bh w W)(h:KQ cs g w):KQ cs g W:=by
 obtain⟨bn,bo,bh,cb,sb,cap,nb,cur,t,T,U,h1,h2,h3,h4,h5,h6,h7,h8⟩:=h;exact⟨bn,bo,bh,cb,sb,cap,nb,cur,t,T,U,h1.same s,by rw[s.1];exact h2,h3,h4,h5,h6,h7,h8⟩
def KQ.fn {cs:List Frame}(g:Goroutine)(w:World)(h:KQ cs g w):Fj g.frame.fn=false:=by
 obtain⟨bn,bo,bh,cb,sb,cap,nb,cur,t,T,U,h1,h2,h3,h4,h5,h6,h7,rfl⟩:=h;show Fj 58=false;decide
def ui {cs:List Frame}(hcs:cs≠[])(w:World):BN Tryz.prog Fj (KQ cs) 0 (Go.Conc.G (Frame.enter Tryz.prog 11 #[] .normal) cs) w :=
 ue (by decide) (by decide) fC KQ.same hcs λbn bo bh cb sb cap nb cur t w' T U h1 h2 h3 h4 h5 h6 h7 _ _=>.fin ⟨bn,bo,bh,cb,sb,cap,nb,cur,t,T,U,h1,h2,h3,h4,h5,h6,h7,rfl⟩
def Qp (cs:List Frame)(g:Goroutine)(w:World):Prop:=∃(K1:Nat->Prop) (bn bo bh cb sb cap qb xb kb:Nat) (cur:List Value) (t:TypeId) (T U:Array Value),(∀b,K1 b->∃(l:List Value) (t:TypeId),w.heap[b]?=some (.cells l.toArray t (0,0))/\∀v∈l,∀(SB:FuncId->Bool) (H:Hid),B6 SB H K1 v)/\Dk w bn bo bh cb sb cap cur t/\w.heap[kb]?=some (D8 false λ_=>0)/\(∀p∈C8 xb qb cb,w.heap[p.1]?=some (.cells p.2.1.toArray p.2.2 (0,0)))/\hasB (BA bn bo bh cb sb cap cur t++C8 xb qb cb) kb=false /\
 T.size=27/\T.getD 4 undef=.pointer (some ⟨qb,0,none⟩)/\T.getD 7 undef=.pointer (some ⟨kb,0,none⟩)/\U.size=95/\U.getD 1 undef=.int .i64 1/\U.getD 2 undef=.int .i64 0/\(∀v∈U.toList,∀(SB:FuncId->Bool) (H:Hid),B6 SB H (λb=>K1 b\/hasB (BA bn bo bh cb sb cap cur t) b=true) v) /\
 g=bQ PP 58 (Fx cb (.func 67) #[] [Value.pointer (some ⟨kb,0,none⟩),.pointer (some ⟨xb,0,none⟩)].toArray) ((base 32).at ⟨T,[]⟩ [.inRegion d6 [2],.code z6]) ((base 11).at ⟨U,[]⟩ [.inRegion e2 [2,3,4,5,6,7],.code Ql]::cs)
def Qp.same {cs:List Frame}(g:Goroutine)(w W:World)(s:Bh w W)(h:Qp cs g w):Qp cs g W:=by
 obtain⟨K1,bn,bo,bh,cb,sb,cap,qb,xb,kb,cur,t,T,U,h0,h1,h2,h3,h4⟩:=h;exact⟨K1,bn,bo,bh,cb,sb,cap,qb,xb,kb,cur,t,T,U,by rw[s.1];exact h0,h1.same s,by rw[s.1];exact h2,by rw[s.1];exact h3,h4⟩
def Qp.fn {cs:List Frame}(g:Goroutine)(w:World)(h:Qp cs g w):Fj g.frame.fn=false:=by
 obtain⟨K1,bn,bo,bh,cb,sb,cap,qb,xb,kb,cur,t,T,U,h0,h1,h2,h3,h4,h5,h6,h7,h8,h9,h10,h11,rfl⟩:=h;show Fj 58=false;decide
def J2 {w:World}{bn bo bh cb sb cap:Nat}{cur:List Value}{t:TypeId}(h:Dk w bn bo bh cb sb cap cur t):∀b,hasB (BA bn bo bh cb sb cap cur t) b=true->∃(l:List Value) (t':TypeId),w.heap[b]?=some (.cells l.toArray t' (0,0))/\∀v∈l,∀(SB:FuncId->Bool) (H:Hid),B6 SB H (λb=>hasB (BA bn bo bh cb sb cap cur t) b=true) v:=λb hb=>by
 obtain⟨p,hp,rfl⟩:=E7 hb;exact⟨_,_,h.obj p hp,λv hv SB H=>fQ h.flat p hp v hv SB H⟩
def uj {cs:List Frame}(hcs:cs≠[]){w:World}{bn bo bh cb sb cap nb:Nat}{cur:List Value}{t:TypeId}{T U:Array Value}(hC:Dk w bn bo bh cb sb cap cur t)(hn:w.heap[nb]?=some (GZ 1))(hT:T.size=19)(h6:T.getD 6 undef=.pointer (some ⟨nb,0,none⟩))
  (hU:U.size=95) (Og:∀v∈U.toList,∀(SB:FuncId->Bool) (H:Hid),B6 SB H (λb=>hasB (BA bn bo bh cb sb cap cur t) b=true) v) :
  BN Tryz.prog Fj (Qp cs) 0 (back ((base 30).at ⟨T,[]⟩ [.inRegion c5 [2],.code x5]) ((base 11).at ⟨U,[]⟩ [.inRegion e1 [2,3,4,5,6,7],.code qr]::cs)) w :=
 uf (by decide) (by decide) (by decide) fC Qp.same hcs hn hT h6 hU Og λbn' bo' bh' cb' sb' cap' qb xb kb cur' t' w' T' U' h1 h2 h3 h4 h5 h6 h7 h8 h9 h10 h11 hz hold =>
  .fin ⟨_,bn',bo',bh',cb',sb',cap',qb,xb,kb,cur',t',T',U',λb hb=>by
   obtain⟨l,t2,e1,e2⟩:=J2 hC b hb
   exact⟨l,t2,(hold b (hC.lt hb)).trans e1,e2⟩,h1,h2,h3,h4,h5,h6,h7,h8,h9,h10,h11,rfl⟩
section
variable {SB BB:FuncId->Bool} {lets:Bool} {Dead:Nat->Prop} {Kp:Fg} {x:Lone} {A:Goroutine} {W:World}
def Hp (ht:Tw PP SB BB lets 0 Dead Kp x A W)(hH:∀b,x.H b=false){b:Nat}(hb:∃B,x.β b B){l:List Value}{t:TypeId}{f:Nat×Nat}(h:x.w.heap[b]?=some (.cells l.toArray t f)){v:Value}(hv:v∈l):∃V,AO (SP SB x.H) x.β v V:=by
 obtain⟨B,hb⟩:=hb;obtain⟨o,O,q1,q2,q3⟩:=ht.wl.CQ b B hb (hH b);rw[h] at q1;cases q1;cases q3 with
 |cells a z =>
  obtain⟨i,hi,rfl⟩:=zC.1 hv;obtain⟨V,_,h2⟩:=a.get? (i:=i) (v:=l[i]) (by simp);exact⟨V,h2⟩
def EP {S:CF}{β:Bc}{b o:Nat}{s:Option Nat}{l c:Nat}{V:Value}(h:AO S β (.slice (some ⟨b,o,s⟩) l c) V)(hl:l≠0:=by decide):∃B,β b B:=by
 cases h with
 |slice o s l c hb=>exact⟨_,hb⟩
 |Cf _=>exact absurd rfl hl
def FA {S:CF}{β:Bc}{b o:Nat}{s:Option Nat}{V:Value}(h:AO S β (.pointer (some ⟨b,o,s⟩)) V):∃B,β b B:=by
 cases h with
 |ptr o s hb=>exact⟨_,hb⟩
def Nw {S:CF}{β:Bc}{f:Fn}{fx:Array Value}{l:List Value}{V v:Value}(h:AO S β (.func f fx l.toArray) V)(hv:v∈l):∃V,AO S β v V:=by
 cases h with
 |BP _=>cases hv
 |func hf h1 i1 h2 i2 =>
  obtain⟨i,hi,rfl⟩:=zC.1 hv;have hl:i<l.toArray.size:=by simpa using hi
  exact⟨_,i2 i _ _ (xD hl) (xD (by rw[<-h2];exact hl))⟩
def ky (ht:Tw PP SB BB lets 0 Dead Kp x A W)(hH:∀b,x.H b=false){bn bo bh cb sb cap:Nat}{cur:List Value}{t:TypeId}(h:Dk x.w bn bo bh cb sb cap cur t)(hcb:∃B,x.β cb B):∀b,hasB (BA bn bo bh cb sb cap cur t) b=true->∃B,x.β b B:=by
 have h4:=h.obj (cb,LG bn bh sb cap,101) (by simp[BA]);have h3:=h.obj (bh,E8 bo,58) (by simp[BA]);obtain⟨V1,v1⟩:=Hp ht hH hcb h4 (v:=.slice (some ⟨bn,0,none⟩) 3 3) (by simp[LG]);obtain⟨V2,v2⟩:=Hp ht hH hcb h4 (v:=.slice (some ⟨bh,0,none⟩) 3 3) (by simp[LG]);obtain⟨V3,v3⟩:=Hp ht hH hcb h4 (v:=.slice (some ⟨sb,0,none⟩) 8 cap) (by simp[LG]);obtain⟨V4,v4⟩:=Hp ht hH (EP v2) h3 (v:=.slice (some ⟨bo,0,none⟩) 1 1) (by simp[E8])
 intro b hb;rcases(BW b).1 hb with rfl|rfl|rfl|rfl|rfl
 .exact EP v1
 .exact EP v4
 .exact EP v2
 .exact hcb
 .exact EP v3
def J3 (ht:Tw PP Jr Fj true 0 Dead Kp x A W){cb F:Nat}{fc:List Value}{fr:Frame}{cs:List Frame}(hg:x.g=bQ PP 58 (Fx cb (.func F) #[] fc.toArray) fr cs):(∃B,x.β cb B)/\∀v∈fc,∃V,AO (SP Jr x.H) x.β v V:=by
 obtain⟨cE,Tu,Er⟩:=Qn;have Cs:=ht.gl.top;rw[hg] at Cs;obtain⟨ARGS,eA,DU⟩:=Ls (P:=PP) (fa:=Tryz.f58) (fb:=Tryz.f58) Tryz.func58 Tryz.func58 Tu Er rfl (by rw[Tryz.ntmps58];simp) Cs;obtain⟨V0,_,r0⟩:=DU.get? (i:=0) (v:=.pointer (some ⟨cb,0,none⟩)) rfl;obtain⟨V1,_,r1⟩:=DU.get? (i:=1) (v:=.func (.func F) #[] fc.toArray) rfl;exact⟨FA r0,λv hv=>Nw r1 hv⟩
end
def LJ:∃KB:Bt,Bz A7 (Bo 3) 2 (CB (DF 1)) 1=[KB]:=by
 have:=oI
 match h:Bz A7 (Bo 3) 2 (CB (DF 1)) 1,this with
 |[ρ],_=>exact⟨ρ,rfl⟩
def qs {w:World}{b:Nat}{l:Array Value}{t:TypeId}(h:w.heap[b]?=some (.cells l t (0,0)))(hl:0<l.size):¬Bl.Ro w b:=by
 rintro⟨c,t',f,h1,h2⟩;rw[h] at h1;cases h1;have:=h2 0 hl;omega
section
variable {gs:Array Goroutine} {W:World} {sl:Option (Nat×Nat)} {t:Trace} {q:Nat->Nat} {Dead:Nat->Prop} {Kp:Fg} {x:Lone} {A:Goroutine} {cs:List Frame}
def Oh (hb:Gy Tryz.prog Dead gs W t q)(ht:Tw PP Jr Fj true 0 Dead Kp x A W)(h0:gs[0]?=some A)(hq:KQ cs x.g x.w)(hcs:cs≠[])(hH:∀b,x.H b=false)(JH:gs.size+8<=2147483647) :
  ∃N m' t',runNT Tryz.prog N (crowd gs W sl) t=(.next m',t')/\∃gs' W' sl' q' A' EO g2 w2,m'=crowd gs' W' sl'/\gs'[0]?=some A'/\gs'.size<=gs.size+8/\Gy Tryz.prog EO gs' W' t' q' /\
   Tw PP Jr Fj true 0 EO Kp ⟨g2,w2,x.H,x.β,x.T⟩ A' W'/\BN Tryz.prog Fj (Qp cs) 0 g2 w2/\w2.heap.size=x.w.heap.size/\(W'.os=W.os/\W'.output=W.output)/\W.heap.size<=W'.heap.size/\∀B,EO B->Dead B\/W.heap.size<=B:=by
 obtain⟨bn,bo,bh,cb,sb,cap,nb,cur,ty,T,U,hC,hn,Nq,hT,h6,hU,Og,hg⟩:=hq;obtain⟨KB,GF⟩:=LJ;obtain⟨cE,Tu,Er⟩:=Qn;obtain⟨p1,p2⟩:=J3 ht hg;obtain⟨Vn,vn⟩:=p2 (.pointer (some ⟨nb,0,none⟩)) (by simp);obtain⟨N,m',t',hrun,gs',W',sl',q',A',EO,e1,e2,e3,e4,e5,e6,e7⟩:=J1 (sl:=sl) (Nn (Od hC hn Nq) GF (Qc nb KB)) UW Tu Er UX rfl rfl rfl rfl Np LD LF hb ht h0 hg ⟨rfl,rfl,_,_,_,_,rfl⟩ hH
  (λb hb=>by
   rcases hb with hb|hb
   .exact ky ht hH hC p1 b (by simpa [Oc] using hb)
   .have e:b=nb:=by simpa using hb
    rw[e];exact FA vn) (λb B h Kt k=>by
   have e:b=nb:=by simpa using Kt
   subst e;rcases ht.CN b B h k with h|h
   .rw[hH] at h;cases h
   .exact qs hn (by decide) h) JH
 refine⟨N,m',t',hrun,gs',W',sl',q',A',EO,_,_,e1,e2,e3,e4,e5,?_,bG _ _ _,e6,e7⟩;have hlt:nb<x.w.heap.size:=(xm.1 hn).1;refine uj hcs (hC.keep λb hb=>?_) (nb:=nb) ?_ hT h6 hU Og
 .rw[bH _ _ _ _ (hC.lt hb)];rw[if_neg];intro h;have e:b=nb:=by simpa using h
  rw[e,Nq] at hb;cases hb
 .rw[bH _ _ _ _ hlt,if_pos (by simp)]
  rfl
def ju (QT:Goroutine->World->Prop)(cs:List Frame):Prop:=∀(K:Nat->Prop) (A:Option Addr) (c B:Nat) (xs:List Value) (w':World) (U:Array Value) (ρ:Bt),Bz A7 (Bo 3) 2 (CB (DF 1)) 1=[ρ]->AY w' B (.slice A 3 c) (BJ ρ 3) xs ->
 U.size=95->U.getD 1 undef=.int .i64 1->U.getD 2 undef=.int .i64 0->U.getD 3 undef=.slice A 3 c->U.getD 4 undef=.int .i64 0->(∀v∈U.toList,B6 Fw zV K v)->(∀b,K b->∃o,w'.heap[b]?=some o/\BS (SP Fw zV) (CK AG Fw false) (BK K) o o) ->
 BN Tryz.prog Fj QT 0 (Go.Conc.G ((base 11).at ⟨U,[]⟩ [.code Ql]) cs) w'
def uk:∀ρ∈Bz A7 (Bo 3) 2 (CB (DF 1)) 1,∀i,i<5->ρ i<16:=by decide +kernel
def Qq {QT:Goroutine->World->Prop}(hQT:∀g w W,Bh w W->QT g w->QT g W)(aaX:ju QT cs)(hb:Gy Tryz.prog Dead gs W t q)(ht:Tw PP Jr Fj true 0 Dead Kp x A W)(h0:gs[0]?=some A)(hq:Qp cs x.g x.w)(hcs:cs≠[])(hH:∀b,x.H b=false)(JH:gs.size+8<=2147483647) :
  ∃N m' t',runNT Tryz.prog N (crowd gs W sl) t=(.next m',t')/\∃gs' W' sl' q' A' EO g2 w2,m'=crowd gs' W' sl'/\gs'[0]?=some A'/\gs'.size<=gs.size+8/\Gy Tryz.prog EO gs' W' t' q' /\
   Tw PP Jr Fj true 0 EO Kp ⟨g2,w2,x.H,x.β,x.T⟩ A' W'/\BN Tryz.prog Fj QT 0 g2 w2/\w2.heap.size=x.w.heap.size/\(W'.os=W.os/\W'.output=W.output)/\W.heap.size<=W'.heap.size/\∀B,EO B->Dead B\/W.heap.size<=B:=by
 obtain⟨K1,bn,bo,bh,cb,sb,cap,qb,xb,kb,cur,ty,T,U,Y9,hC,hk,hX,Nq,hT,h4,h7,hU,hU1,hU2,Og,hg⟩:=hq;obtain⟨KB,GF⟩:=LJ;have Dp:∀i,i<5->KB i<16:=uk KB (by rw[GF];simp);obtain⟨cE,Tu,Er⟩:=Qn;obtain⟨p1,p2⟩:=J3 ht hg;obtain⟨Vk,vk⟩:=p2 (.pointer (some ⟨kb,0,none⟩)) (by simp);obtain⟨Vx,vx⟩:=p2 (.pointer (some ⟨xb,0,none⟩)) (by simp);have SQ:=hX (xb,[.func (.func 62) #[] #[.pointer (some ⟨qb,0,none⟩)]],124) (by simp[C8])
 have hqo:=hX (qb,[.pointer (some ⟨cb,0,none⟩)],49) (by simp[C8]);obtain⟨Vf,vf⟩:=Hp ht hH (FA vx) SQ (v:=.func (.func 62) #[] #[.pointer (some ⟨qb,0,none⟩)]) (by simp);obtain⟨Vq,vq⟩:=Nw (l:=[.pointer (some ⟨qb,0,none⟩)]) vf (v:=.pointer (some ⟨qb,0,none⟩)) (by simp);have VK:hasB (BA bn bo bh cb sb cap cur ty) kb=false/\hasB (C8 xb qb cb) kb=false:=by
  rw[aW,ze] at Nq;exact Nq
 obtain⟨N,m',t',hrun,gs',W',sl',q',A',EO,e1,e2,e3,e4,e5,e6,e7⟩:=J1 (sl:=sl) (Nn (Qe (ρ:=KB) hC hk hX Nq) GF (TJ kb xb qb cb KB)) UW Tu Er UX rfl rfl rfl rfl Np LD LF hb ht h0 hg ⟨rfl,rfl,_,_,_,_,rfl⟩ hH
  (λb hb=>by
   rcases hb with hb|hb
   .have hb':hasB (BA bn bo bh cb sb cap cur ty++C8 xb qb cb) b=true:=hb;rw[aW,xV] at hb';rcases hb' with hb'|hb'
    .exact ky ht hH hC p1 b hb'
    .have : b = xb ∨ b = qb := by
      obtain⟨p,hp,rfl⟩:=E7 hb';simp only[C8,xC,xz,or_false] at hp;rcases hp with rfl|rfl<;>simp
     rcases this with rfl|rfl
     .exact FA vx
     .exact FA vq
   .have e:b=kb:=by simpa using hb
    rw[e];exact FA vk) (λb B h Kt k=>by
   have e:b=kb:=by simpa using Kt
   subst e;rcases ht.CN b B h k with h|h
   .rw[hH] at h;cases h
   .exact qs hk (by decide) h) JH
 refine⟨N,m',t',hrun,gs',W',sl',q',A',EO,_,_,e1,e2,e3,e4,e5,?_,bG _ _ _,e6,e7⟩;have hlt:kb<x.w.heap.size:=(xm.1 hk).1;obtain⟨w1,EH⟩:∃w1,w1=EN (JM kb) (oF (decide (8<=1)) (λ_=>D8 false λ_=>0) λ_=>D8 true KB) x.w:=⟨_,rfl⟩;have hkb:w1.heap[kb]?=some (D8 true KB):=by
  rw[EH,bH _ _ _ _ hlt,if_pos (by simp)]
  rfl
 have hne:∀b,b≠kb->b<x.w.heap.size->w1.heap[b]?=x.w.heap[b]?:=λb hb hl=>by
  rw[EH,bH _ _ _ _ hl,if_neg (by simpa using hb)]
 have hC1:Dk w1 bn bo bh cb sb cap cur ty:=hC.keep λb hb=>hne b (λe=>by rw[e,VK.1] at hb;cases hb) (hC.lt hb);have TK:w1.heap[qb]?=some (.cells #[.pointer (some ⟨cb,0,none⟩)] 49 (0,0)):=by
  refine(hne qb (λe=>?_) (xm.1 hqo).1).trans hqo;have:=VK.2;rw[<-e] at this;simp[hasB,C8] at this
 show BN Tryz.prog Fj QT 0 _ (EN (JM kb) (oF (decide (8<=1)) (λ_=>D8 false λ_=>0) λ_=>D8 true KB) x.w);rw[<-EH];refine ug (by decide) (by decide) fC hQT hcs Dp hC1 hkb TK hT h4 h7 hU hU1 hU2 Og λA c xs w2 K' U2 ho hz hold Dj u0 u1 u2 u3 u4 afM=>?_;refine aaX _ A c _ xs w2 U2 KB GF ho u0 u1 u2 u3 u4 afM λb SR=>?_;rcases SR with(SR|SR)|SR
 .obtain⟨l,t2,r1,r2⟩:=Y9 b SR;have hl:=(xm.1 r1).1;by_cases e:b=kb
  .subst e;exact⟨_,(hold _ (by rw[EH,bG];exact hl)).trans hkb,jV (Qd _ _)⟩
  .exact⟨_,(hold _ (by rw[EH,bG];exact hl)).trans ((hne b e hl).trans r1),.cells (B9 λv hv=>(r2 v hv Fw zV).mono λb hb=>.inl (.inl hb)) λi z1 z2=>⟨z1,z2⟩⟩
 .obtain⟨l,t2,r1,r2⟩:=J2 hC1 b SR;exact⟨_,(hold _ (xm.1 r1).1).trans r1,.cells (B9 λv hv=>(r2 v hv Fw zV).mono λb hb=>.inl (.inr hb)) λi z1 z2=>⟨z1,z2⟩⟩
 .obtain⟨o,r1,r2⟩:=Dj b SR;exact⟨o,r1,r2.mono λb B hb=>⟨.inr hb.1,hb.2⟩⟩
end
end Go.Proofs.YtjcgijifamcggaaGreat
namespace Go.Sq
def Qr (w:World)(B:Nat)(A:Option Addr)(l:List Int):Prop :=
 l≠[]->∃b o,A=some ⟨b,o,none⟩/\b<B/\∀(i:Nat) (x:Int),l[i]?=some x->w.cell? ⟨b,o+i*5+4,none⟩=some (.int .i64 x)/\∃(n0 n1 n2:Int) (A:Option Addr) (m c:Nat),
  w.cell? ⟨b,o+i*5,none⟩=some (.int .i64 n0)/\w.cell? ⟨b,o+i*5+1,none⟩=some (.int .i64 n1)/\w.cell? ⟨b,o+i*5+2,none⟩=some (.int .i64 n2)/\w.cell? ⟨b,o+i*5+3,none⟩=some (.slice A m c)
def Qr.gr {w w':World}{B:Nat}{A:Option Addr}{l:List Int}(h:Qr w B A l)(hB:B<=w.heap.size)(hg:Gr w w'):Qr w' B A l:=λhn=>by
 obtain⟨b,o,e,hb,hc⟩:=h hn;refine⟨b,o,e,hb,λi x hx=>?_⟩;have k:∀o,w'.cell? ⟨b,o,none⟩=w.cell? ⟨b,o,none⟩:=λo=>hg.cell (p:=⟨b,o,none⟩) (xx hb hB);obtain⟨h1,n0,n1,n2,A,m,c,h2,h3,h4,h5⟩:=hc i x hx;exact⟨(k _).trans h1,n0,n1,n2,A,m,c,(k _).trans h2,(k _).trans h3,(k _).trans h4,(k _).trans h5⟩
def BO (l:List Int):Nat->Int
 |0=>-1
 |k+1=>if 0<l[k]?.getD 0/\(BO l k<0\/l[(BO l k).toNat]?.getD 0<l[k]?.getD 0) then k else BO l k
def iS (l:List Int)(k:Nat):-1<=BO l k/\BO l k<k:=by
 induction k with
 |zero=>simp[BO]
 |succ k ih =>
  unfold BO;split
  .omega
  .omega
end Go.Sq
namespace Go.Proofs.YtjcgijifamcggaaGreat
open Go.RowKit Go.Sq
def vO (A:Option Addr)(c:Nat)(l:List Int)(w:World)(B:Nat)(hB:B<=w.heap.size)(h:Qr w B A l)(hl:l.length<=4611686018427387904) :
  Calls AG 139 #[.slice A l.length c] w λe w'=>e=.returned (.int .i64 (BO l l.length))/\Gr w w':=by
 have HR:=xl h;clear h;go_enter Sq.func139,Tryz.ntmps139;go_wp2;go_loopw [3,8] (λs i wr=>∃k:Nat,k<=l.length/\i=.int .i64 k/\s=.int .i64 (BO l k)/\Gr w wr) (λ_ i _=>l.length-(intOf i).toNat)
 case atStart=>exact⟨0,by omega,rfl,rfl,.refl _⟩
 case round =>
  obtain⟨k,hk,rfl,rfl,hg⟩:=hrel;have HG:=xl hg;clear hg;by_cases hlt:k<l.length
  .obtain⟨b,o,e,hb,hc⟩:=HR.out.gr hB HG.out (λe=>by rw[e] at hlt;simp at hlt);subst e;obtain⟨c4,n0,n1,n2,A',m,c',c0,c1,c2,c3⟩:=hc k _ (xq hlt)
   have HM:=xl (show BO l (k+1)=if 0<l[k]/\(BO l k<0\/l[(BO l k).toNat]?.getD 0<l[k]) then(k:Int) else BO l k by
    show(if _ then _ else _)=_
    rw[xq hlt];rfl)
   have HML:=iS l k;have Yw:=xl hc;clear hc;have hz:=HG.out.size;generalize l[k]=x at c4 HM;by_cases hx:0<x
   .by_cases hm:BO l k<0
    .have Nx:=xl (show BO l (k+1)=k by rw[HM.out,if_pos ⟨hx,.inl hm⟩]);clear HM HML;generalize BO l k=q at hm Nx;have O5:decide (x > 0)=true:=by simp;omega
     have KL:decide (q<0)=true:=by simp;omega
     go_wp2;go_region;go_wp2;go_roundw
     case rel=>exact⟨k+1,by omega,by go_num,congrArg (Value.int .i64) Nx.out.symm,(HG.out.alloc _).drew⟩
     case measure=>simp[intOf];omega
    .obtain⟨j,hj⟩:∃j:Nat,BO l k=j:=⟨(BO l k).toNat,by omega⟩;rw[hj] at HM hm HML ⊢;have hjk:j<k:=by omega
     obtain⟨y4,_⟩:=Yw.out j _ (xq (show j<l.length by omega));have HY:=xl (show l[(j:Int).toNat]?.getD 0=l[j] by rw[zo,xq (by omega)];rfl);generalize l[j]=y at y4 HY;have Yx:j<l.length:=by omega
     have HJ:=xl hj;clear hj hm HML;have O5:decide (x > 0)=true:=by simp;omega
     have GJ:decide ((j:Int)<0)=false:=by simp
     have hbl:b<wr.heap.size:=by omega
     by_cases Jz:y<x
     .have Nx:=xl (show BO l (k+1)=k by rw[HM.out,if_pos ⟨hx,.inr (by rw[HY.out];exact Jz)⟩]);have KL:decide (x > y)=true:=by simp;omega
      clear HM HY;go_wp2;go_quiet (fail);go_wp2;go_roundw
      case rel=>exact⟨k+1,by omega,by go_num,congrArg (Value.int .i64) Nx.out.symm,(HG.out.alloc _).drewN _⟩
      case measure=>simp[intOf];omega
     .have Nx:=xl (show BO l (k+1)=j by rw[HM.out,if_neg (by rw[HY.out];omega)]);have KL:decide (x > y)=false:=by simp;omega
      clear HM HY;go_wp2;go_quiet (fail);go_wp2;go_roundw
      case rel=>exact⟨k+1,by omega,by go_num,congrArg (Value.int .i64) Nx.out.symm,(HG.out.alloc _).drewN _⟩
      case measure=>simp[intOf];omega
   .have Nx:=xl (show BO l (k+1)=BO l k by rw[HM.out,if_neg (by omega)]);have O5:decide (x > 0)=false:=by simp;omega
    clear HM HML;generalize hq:BO l k=q at Nx;clear hq;go_wp2;go_region;go_wp2;go_roundw
    case rel=>exact⟨k+1,by omega,by go_num,congrArg (Value.int .i64) Nx.out.symm,(HG.out.alloc _).drew⟩
    case measure=>simp[intOf];omega
  .have FD:k=l.length:=by omega
   subst FD;go_wp2;go_ret;exact⟨rfl,HG.out⟩
end Go.Proofs.YtjcgijifamcggaaGreat
namespace Go.Sq
def J4 (n:Nat)(rs:List (Int×Int))(k:Nat):Int :=
 if Ej (rs[k]?.getD (0,0)).1 0 (n-1)=false then 3 else if Ej (rs[k]?.getD (0,0)).2 0 60=false then 1 else if(rs.take k).any (·.1==(rs[k]?.getD (0,0)).1)=true then 4 else 0
def gQ (n:Nat)(rs:List (Int×Int)):Int:=bz ((List.range rs.length).map (J4 n rs))
def bm (rs:List (Int×Int)):Nat->Nat->Int
 |0,_=>0
 |k+1,j=>if(rs[k]?.getD (0,0)).1=j then(rs[k]?.getD (0,0)).2 else bm rs k j
def B7 (n:Nat)(rs:List (Int×Int))(k:Nat):List Int:=(List.range n).map (bm rs k)
def dD (n:Nat)(rs:List (Int×Int))(k:Nat):(B7 n rs k).length=n:=by simp[B7]
def oL {n:Nat}{rs:List (Int×Int)}{k j:Nat}(hj:j<n):(B7 n rs k)[j]?=some (bm rs k j):=by simp[B7,hj]
def mF {n:Nat}{rs:List (Int×Int)}(h:∀k,k<rs.length->J4 n rs k=0)(k j:Nat)(hk:k<=rs.length):0<=bm rs k j/\bm rs k j<=60:=by
 induction k with
 |zero=>simp[bm]
 |succ k ih =>
  have:=h k (by omega);unfold bm;split
  .unfold J4 at this;split at this
   .omega
   .split at this
    .omega
    .rename_i h1 h2;simp[Ej] at h2;omega
  .exact ih (by omega)
def dv (n:Int)(s:List Int×List (Int×Int)):List Int×List (Int×Int) :=
 if BO s.1 s.1.length<0 then s else(s.1.set (BO s.1 s.1.length).toNat (s.1[(BO s.1 s.1.length).toNat]?.getD 0-1),s.2++[(n,BO s.1 s.1.length)])
def Cg (n:Int)(s:List Int×List (Int×Int)):Nat->List Int×List (Int×Int)
 |0=>s
 |m+1=>dv n (Cg n s m)
def I5 (c:AW)(r:Bt)(ws:List Int)(k:Nat):Nat:=(ws[k]?.getD 0-c.DC (r k)).toNat
def Br (c:AW)(r:Bt)(ws:List Int):Nat->List Int×List (Int×Int)
 |0=>(c.AH.map (·.heads),[])
 |k+1=>Cg k (Br c r ws k) (I5 c r ws k)
def C9 (c:AW)(r:Bt)(ws:List Int):List (Int×Int):=(Br c r ws ws.length).2
def gS {n:Int}{s:List Int×List (Int×Int)}(h:BO s.1 s.1.length<0):dv n s=s:=if_pos h
def oM {n:Int}{s:List Int×List (Int×Int)}(h:BO s.1 s.1.length<0)(m:Nat):Cg n s m=s:=by
 induction m with
 |zero=>rfl
 |succ m ih=>rw[Cg,ih];exact gS h
def mG {n:Int}{s:List Int×List (Int×Int)}{k m:Nat}(h:BO (Cg n s k).1 (Cg n s k).1.length<0)(hm:k<=m):Cg n s m=Cg n s k:=by
  induction m with
  | zero => obtain rfl : k = 0 := by omega
            rfl
  |succ m ih =>
    rcases yf m k with h1|h1
    · obtain rfl:k=m+1:=by omega
      rfl
    · rw[Cg,ih h1];exact gS h
def lQ {c:AW}{r:Bt}{ws:List Int}{k m:Nat}(h:BO (Br c r ws k).1 (Br c r ws k).1.length<0)(hm:k<=m):Br c r ws m=Br c r ws k:=by
  induction m with
  | zero => obtain rfl : k = 0 := by omega
            rfl
  |succ m ih =>
    rcases yf m k with h1|h1
    · obtain rfl:k=m+1:=by omega
      rfl
    · rw[Br,ih h1];exact oM h _
def mH {c:AW}{r:Bt}{ws:List Int}{k m:Nat}(hk:k<ws.length)(hm:m<=I5 c r ws k)(h:BO (Cg k (Br c r ws k) m).1 (Cg k (Br c r ws k) m).1.length<0):C9 c r ws=(Cg k (Br c r ws k) m).2:=by
 have e:Br c r ws (k+1)=Cg k (Br c r ws k) m:=by rw[Br];exact mG h hm
 unfold C9;rw[lQ (k:=k+1) (by rw[e];exact h) (by omega),e]
structure ER (c:AW)(n:Nat)(s:List Int×List (Int×Int)):Prop where
 len:s.1.length=c.AH.length
 low:∀x∈s.1,0<=x/\x<=40
 count:s.1.sum+s.2.length<=160
 night:∀p∈s.2,0<=p.1/\p.1<n/\0<=p.2/\p.2<c.AH.length
def qu (l:List Int)(k:Nat)(h:0<=BO l k):0<l[(BO l k).toNat]?.getD 0:=by
 induction k with
 |zero=>simp[BO] at h
 |succ k ih =>
  unfold BO at h ⊢;by_cases hc:0<l[k]?.getD 0/\(BO l k<0\/l[(BO l k).toNat]?.getD 0<l[k]?.getD 0)
  .rw[if_pos hc];simpa using hc.1
  .rw[if_neg hc] at h ⊢;exact ih h
def ul (l:List Int)(k:Nat)(x:Int)(h:k<l.length):(l.set k x).sum=l.sum-l[k]?.getD 0+x:=by
 induction l generalizing k with
 |nil=>simp at h
 |cons a l ih =>
  cases k with
  |zero=>simp;omega
  |succ k =>
   simp only[List.set_cons_succ,List.sum_cons,List.getElem?_cons_succ];rw[ih k (by simpa using h)];omega
def ER.step {c:AW}{n:Nat}{s:List Int×List (Int×Int)}{d:Nat}(hd:d<n)(h:ER c n s):ER c n (dv d s):=by
 unfold dv;split
 .exact h
 .rename_i hm;have h1:=iS s.1 s.1.length;have h2:=qu s.1 s.1.length (by omega);have hl:(BO s.1 s.1.length).toNat<s.1.length:=by omega
  have h3:=h.low _ (Dq s.1 _ hl);refine⟨by simp[h.len],λx hx=>?_,?_,λp hp=>?_⟩
  .rcases List.mem_or_eq_of_mem_set hx with h4|rfl
   .exact h.low x h4
   .omega
  .have h4:=h.count;show(s.1.set _ _).sum+((s.2++[((d:Int),BO s.1 s.1.length)]).length:Nat)<=160;rw[ul _ _ _ hl,zd];simp only[xH,xK,Int.natCast_add];omega
  .rcases yD.1 hp with h4|h4
   .exact h.night p h4
   .simp only[xC,xz,or_false] at h4;subst h4;have:=h.len;show(0:Int)<=d/\(d:Int)<n/\_/\_;omega
def ER.it {c:AW}{n:Nat}{s:List Int×List (Int×Int)}{d:Nat}(hd:d<n)(h:ER c n s)(m:Nat):ER c n (Cg d s m):=by
 induction m with
 |zero=>exact h
 |succ m ih=>exact ih.step hd
def ER.all {c:AW}(hc:c.Ok){r:Bt}{ws:List Int}{n:Nat}(hn:ws.length<=n)(k:Nat)(hk:k<=ws.length):ER c n (Br c r ws k):=by
 induction k with
 |zero =>
  refine⟨by simp[Br],λx hx=>?_,?_,λp hp=>by simp[Br] at hp⟩
  .simp only[Br,xU] at hx;obtain⟨h,hh,rfl⟩:=hx;have:=hc.heads h hh;omega
  .have := EG 1 40 (c.AH.map (·.heads)) fun x hx => by
    simp only[xU] at hx;obtain⟨h,hh,rfl⟩:=hx;exact hc.heads h hh
   have h4:=hc.h4;simp only[Br,xK,ye] at *;omega
 |succ k ih=>exact(ih (by omega)).it (by omega) _
def kz {c:AW}(hc:c.Ok)(r:Bt)(ws:List Int):ER c ws.length (Br c r ws ws.length):=ER.all hc (xp _) _ (xp _)
def jv {c:AW}(hc:c.Ok)(r:Bt)(ws:List Int):(C9 c r ws).length<=160:=by
 have h:=kz hc r ws;have h1:=EG 0 40 _ h.low;have h2:=h.count;unfold C9;omega
def Iw (p:Int)(on:List Int)(h:Int):Nat->Int
 |0=>0
 |k+1=>Iw p on h k+if on[k]?.getD 0=h then p / on.length+(if(k:Int)<p % on.length then 1 else 0) else 0
def lR {p:Int}(hp:0<=p/\p<=99)(on:List Int)(h:Int)(k:Nat):0<=Iw p on h k/\Iw p on h k<=100*k:=by
 induction k with
 |zero=>simp[Iw]
 |succ k ih =>
  have h1:0<=p / (on.length:Int):=Int.ediv_nonneg hp.1 (by omega);have h2:p / (on.length:Int)<=p:=Int.ediv_le_self _ hp.1;unfold Iw;split
  .split<;>omega
  .omega
def ET (p:Int)(r:Bt)(ls:List (Int×Int))(h t:Nat):Nat->Int
 |0=>0
 |k+1=>ET p r ls h t k+if(ls[k]?.getD (0,0)).2=t/\h≠t then Iw p (wl (r (ls[k]?.getD (0,0)).1.toNat)) h (wl (r (ls[k]?.getD (0,0)).1.toNat)).length else 0
def lS {p:Int}(hp:0<=p/\p<=99)(r:Bt)(ls:List (Int×Int))(h t:Nat)(k:Nat):0<=ET p r ls h t k/\ET p r ls h t k<=400*k:=by
 induction k with
 |zero=>simp[ET]
 |succ k ih =>
  have h1:=lR hp (wl (r (ls[k]?.getD (0,0)).1.toNat)) h (wl (r (ls[k]?.getD (0,0)).1.toNat)).length;have h2:=bM (r (ls[k]?.getD (0,0)).1.toNat);unfold ET;split<;>omega
def LK (n:Nat)(M:Nat->Nat->Int):List (List Int):=(List.range n).map λh=>(List.range n).map (M h)
def fR (n:Nat)(M:Nat->Nat->Int):(LK n M).length=n:=by simp[LK]
def um {n:Nat}{M:Nat->Nat->Int}{h:Nat}(hh:h<n):(LK n M)[h]?=some ((List.range n).map (M h)):=by simp[LK,hh]
def Hq (c:AW)(r:Bt)(p:Int)(ws:List Int):List (List Int):=LK c.AH.length λh t=>ET p r (C9 c r ws) h t (C9 c r ws).length
def Fl (M:List (List Int)):Nat->Nat->Int
 |0,_=>0
 |k+1,j=>Fl M k j-(if j=k then(M[k]?.getD []).sum else 0)+(M[k]?.getD [])[j]?.getD 0
def Qs (M:List (List Int)):List Int:=(List.range M.length).map (Fl M M.length)
open Go.RowKit
def uo (l:List Int)(n:Nat)(h:∀x∈l,0<=x/\x<n):G4 l<2 ^ n:=by
 have key:∀(l:List Int) (x:Nat),(∀y∈l,0<=y/\y<n)->x<2 ^ n->l.foldl (λx h=>x ||| 2 ^ h.toNat) x<2 ^ n:=by
  intro l
  induction l with
  |nil=>intro x _ hx;exact hx
  |cons a l ih =>
   intro x h hx;have ha:=h a yL;exact ih _ (λy hy=>h y (yU _ hy)) (Nat.or_lt_two_pow hx (Nat.pow_lt_pow_right (by omega) (by omega)))
 exact key l 0 h (Nat.two_pow_pos n)
def dJ {c:AW}{ls:List (List Int)}(hE:Ba c ls=0)(i:Nat):c.has (AP ls i):=by
 unfold Ba at hE;split at hE
 .rename_i h;exact absurd hE h
 .split at hE
  .rename_i h;exact absurd hE h
  .unfold AP AW.has;cases hl:ls[i]? with
   |none=>exact Nat.two_pow_pos _
   |some l =>
    have:=aQ.1 hE (De l c.AH.length) (xU.2 ⟨l,yM hl,rfl⟩);exact uo l _ (FM this).1
structure G7 (w:World)(base:Nat)(v:Value)(n m:Nat)(M:Nat->Nat->Int)(bl:Nat->Nat):Prop where
 row:∃xs,w.ownsRow base 22 1 v m xs/\∀h,h<m->xs[h]?=some (.slice (some ⟨bl h,0,none⟩) n n)
 cells:∀h,h<m->base<=bl h/\∃l:Array Value,w.heap[bl h]?=some (.cells l 3 (0,0))/\∀t,t<n->l[t]?=some (.int .i64 (M h t))
 inj:∀h h',h<m->h'<m->bl h=bl h'->h=h'
def cell_of_heap {w:World}{b:Nat}{l:Array Value}{ty:TypeId}(h:w.heap[b]?=some (.cells l ty (0,0)))(o:Nat):w.cell? ⟨b,o,none⟩=l[o]?/\w.frozen? ⟨b,o,none⟩=false:=by
 unfold World.cell? World.frozen?;rw[h];simp
def qv {w:World}{base size n:Nat}{e e':TypeId}{v:Value}{xs:List Value}(h:w.ownsRow base e size v n xs)(hne:e≠e'){b:Nat}{l:Array Value}(hb:w.heap[b]?=some (.cells l e' (0,0))):some b≠v.ownBlock:=λhh=>by
 rcases h.2 with⟨rfl,_⟩|⟨g,cap,cur,rfl,_,k,_⟩
 .cases hh
 .have e1:b=g:=by injection hh
  subst e1;rw[hb] at k;injection k with k
  injection k with _ k _
  exact hne k.symm
section
variable {w w':World} {base n m:Nat} {v:Value} {M M':Nat->Nat->Int} {bl:Nat->Nat}
def G7.nil (w:World)(base n:Nat)(M:Nat->Nat->Int)(bl:Nat->Nat):G7 w base (.slice none 0 0) n 0 M bl:=⟨⟨[],x9 _ _ _ _,λh hh=>absurd hh (by omega)⟩,λh hh=>absurd hh (by omega),λh h' hh=>absurd hh (by omega)⟩
def G7.keep (h:G7 w base v n m M bl)(hk:∀b,base<=b->b<w.heap.size->w'.heap[b]?=w.heap[b]?):G7 w' base v n m M bl:=by
 obtain⟨xs,h1,h2⟩:=h.row;refine⟨⟨xs,Bb h1 λg hg hl=>hk g (h1.lt g hg).1 hl,h2⟩,λa ha=>?_,h.inj⟩;obtain⟨c1,l,c2,c3⟩:=h.cells a ha;exact⟨c1,l,(hk _ c1 (xm.1 c2).1).trans c2,c3⟩
def G7.gr (h:G7 w base v n m M bl)(hg:Gr w w'):G7 w' base v n m M bl:=h.keep λb _ hb=>hg.below.block b hb
def G7.drew (h:G7 w base v n m M bl):G7 w.drew base v n m M bl:=h.keep λ_ _ _=>rfl
def G7.congr (h:G7 w base v n m M bl)(e:∀a t,a<m->t<n->M a t=M' a t):G7 w base v n m M' bl:=by
 refine⟨h.row,λa ha=>?_,h.inj⟩;obtain⟨c1,l,c2,c3⟩:=h.cells a ha;exact⟨c1,l,c2,λt ht=>by rw[<-e a t ha ht];exact c3 t ht⟩
def G7.at_ (h:G7 w base v n m M bl){a t:Nat}(ha:a<m)(ht:t<n):base<=bl a/\bl a<w.heap.size/\w.cell? ⟨bl a,t,none⟩=some (.int .i64 (M a t))/\w.frozen? ⟨bl a,t,none⟩=false:=by
 obtain⟨c1,l,c2,c3⟩:=h.cells a ha;exact⟨c1,(xm.1 c2).1,(cell_of_heap c2 t).1.trans (c3 t ht),(cell_of_heap c2 t).2⟩
def G7.MK {A:Option Addr}{k c:Nat}(h:G7 w base (.slice A k c) n m M bl){a:Nat}(ha:a<m):∃g,A=some ⟨g,0,none⟩/\g<w.heap.size/\w.cell? ⟨g,a,none⟩=some (.slice (some ⟨bl a,0,none⟩) n n):=by
 obtain⟨xs,h1,h2⟩:=h.row;rcases h1.2 with⟨_,h0⟩|⟨g,cap,cur,hv,k1,k2,k3⟩
 .omega
 .have hA:A=some ⟨g,0,none⟩:=by injection hv
  subst hA;have:=h1.cells (g:=g) rfl a _ (h2 a ha);have e:(⟨g,0,none⟩:Addr).add a=⟨g,0+a,none⟩:=by unfold Addr.add;split<;>simp_all
  rw[e,xM] at this;exact⟨g,rfl,(xm.1 k2).1,this⟩
def G7.push {w1:World}{v':Value}{q:Nat}{xs:List Value}{z:Array Value}(h:G7 w base v n m (λ_ _=>0) bl)(hr:w.ownsRow base 22 1 v m xs)(hx:∀h,h<m->xs[h]?=some (.slice (some ⟨bl h,0,none⟩) n n))
  (hq:base<=q) (hqw:w.heap.size<=q) (h1:∀b,b<w.heap.size->w1.heap[b]?=w.heap[b]?) (hz:w1.heap[q]?=some (.cells z 3 (0,0))) (hzz:∀t,t<n->z[t]?=some (.int .i64 0)) (hs:w.heap.size<=w1.heap.size)
  (hg:w1.grownBy w' v.ownBlock) (M7:w'.ownsRow base 22 1 v' (m+1) (xs++[.slice (some ⟨q,0,none⟩) n n])):G7 w' base v' n (m+1) (λ_ _=>0) (λa=>if a=m then q else bl a):=by
 have hlen:xs.length=m:=by have:=hr.1;omega
 have hqv:some q≠v.ownBlock:=λe=>by have:=(hr.lt q e.symm).2;omega
 refine⟨⟨_,M7,λa ha=>?_⟩,λa ha=>?_,λa a' ha ha' e=>?_⟩
 .try dsimp only
  by_cases e:a=m
  .subst e;rw[if_pos rfl,yv (by omega),hlen];simp
  .rw[if_neg e,yz (by omega)];exact hx a (by omega)
 .try dsimp only
  by_cases e:a=m
  .subst e;rw[if_pos rfl];exact⟨hq,z,(hg.block q (xm.1 hz).1 hqv).trans hz,hzz⟩
  .rw[if_neg e];obtain⟨c1,l,c2,c3⟩:=h.cells a (by omega);have hlt:=(xm.1 c2).1;exact⟨c1,l,(hg.block (bl a) (by omega) (qv hr (by decide) c2)).trans ((h1 _ hlt).trans c2),c3⟩
 .try dsimp only at e
  have key:∀a,a<m->bl a<w.heap.size:=λa ha=>by
   obtain⟨_,l,c2,_⟩:=h.cells a ha;exact(xm.1 c2).1
  by_cases e1:a=m
  .by_cases e2:a'=m
   .omega
   .rw[if_pos e1,if_neg e2] at e;have:=key a' (by omega);omega
  .by_cases e2:a'=m
   .rw[if_neg e1,if_pos e2] at e;have:=key a (by omega);omega
   .rw[if_neg e1,if_neg e2] at e;exact h.inj a a' (by omega) (by omega) e
def G7.set (h:G7 w base v n m M bl){a t:Nat}(ha:a<m)(ht:t<n)(y:Int)(hM:∀a' t',a'<m->t'<n->M' a' t'=if a'=a/\t'=t then y else M a' t'):G7 (w.setCell ⟨bl a,t,none⟩ (.int .i64 y)) base v n m M' bl:=by
 obtain⟨xs,h1,h2⟩:=h.row;obtain⟨c1,l,c2,c3⟩:=h.cells a ha;have hblk:∀g,g≠bl a->(w.setCell ⟨bl a,t,none⟩ (.int .i64 y)).heap[g]?=w.heap[g]?:=λg hg=>by
  rw[Go.Bl.BG];exact if_neg hg
 refine⟨⟨xs,Bb h1 λg hg _=>hblk g λe=>qv h1 (by decide) c2 (by rw[<-e];exact hg.symm),h2⟩,λa' ha'=>?_,h.inj⟩;obtain⟨d1,l',d2,d3⟩:=h.cells a' ha';by_cases e:a'=a
 .subst e;refine⟨d1,l.setIfInBounds t (.int .i64 y),?_,λt' JC=>?_⟩
  .rw[Go.Bl.BG,if_pos rfl,c2];simp[Go.Bl.FI]
  .rw[hM a' t' ha' JC,yK];by_cases e2:t=t'
   .subst e2;have hl:=(xm.1 (c3 t ht)).1;simp[hl]
   .rw[if_neg e2,if_neg (λh=>e2 h.2.symm)];exact c3 t' JC
 .refine⟨d1,l',(hblk _ λe2=>e (h.inj a' a ha' ha e2)).trans d2,λt' JC=>?_⟩;rw[hM a' t' ha' JC,if_neg (λh=>e h.1)];exact d3 t' JC
def G7.Ky {A:Option Addr}{c:Nat}(h:G7 w base (.slice A m c) m m M bl):CR w w.heap.size A (LK m M):=λhn=>by
 have hm:0<m:=by
  rcases yg m with e|e
  .exact absurd (xT ((fR m M).trans e)) hn
  .exact e
 obtain⟨g,rfl,hg,_⟩:=h.MK hm;refine⟨g,0,rfl,hg,λi l hl=>?_⟩;have hi:i<m:=by have:=(xS.1 hl).1;rwa [fR] at this
 rw[um hi] at hl;cases hl;obtain⟨g',e,_,hc⟩:=h.MK hi;have e':g'=g:=by injection e with e;injection e with e;exact e.symm
 subst e';refine⟨some ⟨bl i,0,none⟩,m,by simpa using hc,λ_=>⟨_,0,rfl,?_,λj x hx=>?_⟩⟩
 .obtain⟨_,l,c2,_⟩:=h.cells i hi;exact(xm.1 c2).1
 .have hj:j<m:=by have:=(xS.1 hx).1;simpa using this
  have Hy:x=M i j:=by
   rw[yw,List.getElem?_range hj] at hx;exact(Option.some.inj hx).symm
  rw[xM,Hy];exact(h.at_ hi hj).2.2.1
end
def FB (w:World)(B:Nat)(A:Option Addr)(l:List (Int×Int)):Prop :=
 l≠[]->∃b o,A=some ⟨b,o,none⟩/\b<B/\∀(i:Nat) (x:Int×Int),l[i]?=some x->w.cell? ⟨b,o+i*2,none⟩=some (.int .i64 x.1)/\w.cell? ⟨b,o+i*2+1,none⟩=some (.int .i64 x.2)
def FB.keep {w w':World}{B:Nat}{A:Option Addr}{l:List (Int×Int)}(h:FB w B A l)(hk:∀b o,b<B->w'.cell? ⟨b,o,none⟩=w.cell? ⟨b,o,none⟩):FB w' B A l:=λhn=>by
 obtain⟨b,o,e,hb,hc⟩:=h hn;exact⟨b,o,e,hb,λi x hx=>⟨(hk _ _ hb).trans (hc i x hx).1,(hk _ _ hb).trans (hc i x hx).2⟩⟩
def FB.gr {w w':World}{B:Nat}{A:Option Addr}{l:List (Int×Int)}(h:FB w B A l)(hB:B<=w.heap.size)(hg:Gr w w'):FB w' B A l:=h.keep λ_ _ hb=>hg.cell (xx hb hB)
def FB.at_ {w:World}{B:Nat}{A:Option Addr}{l:List (Int×Int)}(h:FB w B A l){k:Nat}(hk:k<l.length):∃b o,A=some ⟨b,o,none⟩/\b<B/\w.cell? ⟨b,o+k*2,none⟩=some (.int .i64 (l[k]?.getD (0,0)).1)/\w.cell? ⟨b,o+k*2+1,none⟩=some (.int .i64 (l[k]?.getD (0,0)).2):=by
 obtain⟨b,o,e,hb,hc⟩:=h (λe=>by rw[e] at hk;simp at hk);obtain⟨h1,h2⟩:=hc k _ (xq hk);exact⟨b,o,e,hb,by rw[xq hk];exact h1,by rw[xq hk];exact h2⟩
end Go.Sq
namespace Go.Proofs.YtjcgijifamcggaaGreat
open Go.RowKit Go.Sq
def uq (a b q:Int)(pb:Nat)(w:World)(hp:pb<w.heap.size)(hc:w.cell? ⟨pb,0,none⟩=some (.int .i64 q)) :
  Calls AG 137 #[.agg #[.int .i64 a,.int .i64 b],.pointer (some ⟨pb,0,none⟩)] w λe w'=>e=.returned (.bool (a==q))/\Gr w w':=by
 go_enter Sq.func137,Tryz.ntmps137;go_wp2;go_ret;exact⟨rfl,(Gr.refl w).alloc _⟩
def mI (A:Option Addr)(c pb:Nat)(q:Int)(l:List (Int×Int))(w:World)(B:Nat)(hB:B<=w.heap.size)(h:FB w B A l)(hl:l.length<=4611686018427387904)(hp:pb<w.heap.size)(hc:w.cell? ⟨pb,0,none⟩=some (.int .i64 q)) :
  Calls AG 153 #[.slice A l.length c,.func (.func 137) #[] #[.pointer (some ⟨pb,0,none⟩)]] w λe w'=>(∃n:Int,e=.returned (.int .i64 n)/\(0<=n↔l.any (·.1==q)=true))/\Gr w w':=by
 have HR:=xl h;clear h;go_enter Sq.func153,Tryz.ntmps153;go_wp2;go_loopw [8] (λi wr=>∃k:Nat,k<=l.length/\i=.int .i64 k/\(l.take k).any (·.1==q)=false/\Gr w wr) (λi _=>l.length-(intOf i).toNat)
 case atStart=>exact⟨0,by omega,rfl,by simp,.refl _⟩
 case round =>
  obtain⟨k,hk,rfl,ha,hg⟩:=hrel;have HA:=xl ha;have HG:=xl hg;clear ha hg;by_cases hlt:k<l.length
  .obtain⟨b,o,rfl,hb,h1,h2⟩:=(HR.out.gr hB HG.out).at_ hlt;have HT:=xl (aS (0,0) l k hlt);have HM:Hid (l[k]?.getD (0,0)∈l):=xl (by rw[xq hlt];exact yn hlt);generalize l[k]?.getD (0,0)=x at h1 h2 HT HM;have hz:=HG.out.size;have HC:=xl (uq x.1 x.2 q pb wr (by omega) ((HG.out.cell hp).trans hc));obtain⟨v,hv⟩:∃v,v=(x.1==q):=⟨_,rfl⟩;rw[<-hv] at HC;have HV:=xl hv;clear hv;cases v with
   |true =>
    go_wp2_with (go_at_call 137;refine HC.out.mono ?_;rintro e w2 ⟨rfl,hg2⟩;have EX:=xl hg2;clear hg2);go_ret;refine⟨⟨k,rfl,⟨λ_=>List.any_eq_true.2 ⟨x,HM.out,HV.out.symm⟩,λ_=>by omega⟩⟩,HG.out.trans EX.out⟩
   |false =>
    go_wp2_with (go_at_call 137;refine HC.out.mono ?_;rintro e w2 ⟨rfl,hg2⟩;have EX:=xl hg2;clear hg2);go_roundw
    case rel=>exact⟨k+1,by omega,by go_num,by rw[HT.out,List.any_append,HA.out];simp[<-HV.out],HG.out.trans EX.out⟩
    case measure=>simp[intOf];omega
  .have FD:k=l.length:=by omega
   have HZ:=xl (show l.any (·.1==q)=false by have:=HA.out;rwa [FD,xZ (by omega)] at this);clear FD;go_wp2;go_ret;exact⟨⟨-1,rfl,by rw[HZ.out];simp⟩,HG.out⟩
def qw (A:Option Addr)(c pb:Nat)(q:Int)(l:List (Int×Int))(w:World)(B:Nat)(hB:B<=w.heap.size)(h:FB w B A l)(hl:l.length<=4611686018427387904)(hp:pb<w.heap.size)(hc:w.cell? ⟨pb,0,none⟩=some (.int .i64 q)) :
  Calls AG 136 #[.slice A l.length c,.func (.func 137) #[] #[.pointer (some ⟨pb,0,none⟩)]] w λe w'=>e=.returned (.bool (l.any (·.1==q)))/\Gr w w':=by
 have HC:=xl (mI A c pb q l w B hB h hl hp hc);clear h;go_enter Sq.func136,Tryz.ntmps136;go_wp2_with fail;refine HC.out.mono ?_;rintro e w2 ⟨⟨n,rfl,hn⟩,hg⟩;have HG:=xl hg
 have HN:=xl (show decide (0<=n)=l.any (·.1==q) by
  cases hv:l.any (·.1==q) with
  |true=>simp[hn.2 hv]
  |false=>simp;have:=λh=>hn.1 h;rw[hv] at this;exact Int.not_le.1 λh=>by cases this h)
 clear hn hg;go_wp2;go_ret;exact⟨aH HN.out,HG.out⟩
end Go.Proofs.YtjcgijifamcggaaGreat
