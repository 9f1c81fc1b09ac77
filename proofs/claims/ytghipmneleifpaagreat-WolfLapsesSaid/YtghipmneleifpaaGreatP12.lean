/- Parts of the proof. -/
import Derived.Test.YtghipmneleifpaaGreatP11
import Derived.Test.YtghipmneleifpaaGreatP09
import Derived.Test.YtghipmneleifpaaGreatP05
import Derived.Test.YtghipmneleifpaaGreatP04
import Derived.Test.YtghipmneleifpaaGreatP10
import Derived.Test.YtghipmneleifpaaGreatP00
import Derived.Shelf.SlSortCmp.Whole1
import Derived.Shelf.Sort.Plain
import Derived.Test.YtghipmneleifpaaGreatRows
import Derived.Test.YtghipmneleifpaaGreatChecked
import Derived.Conc.HoldsTime
import Derived.ProofKit
import Derived.ClosedOfChecked
import Derived.WalkKit
import Derived.WalkSpells
import Derived.WalkLawsBesides
import Derived.Below
import Derived.Laws.OwnMore
import Derived.Deep.AppendLies
import Derived.Deep.Draws
import Derived.Lib.Hide
import Derived.Laws.EntriesVeiled
import Derived.Deep.RegionWith
set_option linter.all false
set_option maxHeartbeats 4000000
set_option maxRecDepth 1000000
open Go renaming World->a6,Goroutine->bs,FuncId->bw,Calls->bD,Addr->b7,Value->b9,joinedFacts->fx
open Option renaming some->a7,none->bc
open Go.Value renaming pointer->a8,int->bb,slice->bk
open Go.IntKind renaming i64->bh
open Bool renaming true->bn,false->bA
open Go.World renaming cell?_setCell_other->bo,cell?_setCell_same->bq
open Go.Proofs renaming intOf->bW
open List renaming drop_of_length_le->b5
open Go.Proofs.Tryz renaming prog->b6,underlying154->cq,underlying182->cr,underlying183->cu,underlying187->cw,underlying103->cE,underlying210->cF,underlying213->cU,underlying221->df,underlying222->dn,zeroValue154->dr,zeroValue182->dy,zeroValue183->dS,zeroValue187->ea,zeroValue103->eb,underlying65->ed,zeroValue210->ek,zeroValue213->eo,zeroValue221->er,zeroValue222->ez,ntmps97->eA,underlying0->eF,underlying3->eG,underlying4->eV,underlying5->fc,underlying9->fq,zeroValue65->fu,zeroValue0->gb,zeroValue3->gg,zeroValue4->gh,zeroValue5->gB,zeroValue9->gR,func3->gU,sizeOf154->hP,sizeOf182->hZ,sizeOf183->h9,sizeOf187->ik,sizeOf103->iv,sizeOf210->jx,sizeOf213->j0,sizeOf221->j1,sizeOf222->j2,isAgg154->j3,isAgg182->kn,isAgg183->kp,isAgg187->kq,isAgg103->kt,sizeOf65->kx,isAgg210->k0,isAgg213->k5,isAgg221->k6,isAgg222->k7,func143->k8,sizeOf0->k9,sizeOf3->lh,sizeOf4->ll,sizeOf5->ln,sizeOf9->lp,isAgg65->lq,ntmps74->lu,func82->lv,func85->lx,func86->lA,func87->l4,func88->l5,isAgg0->l8,isAgg3->l9,isAgg4->mm,isAgg5->mA,isAgg9->ng
open Go.Ending renaming returned->b8
open Nat renaming lt_irrefl->cf
open Go.Conc renaming G->eC
namespace Go.Sq
open Go.Proofs
open Go.RowKit Go.Ct Go.Co Go.Conc
noncomputable abbrev T8:List Item:=[.inBlock 1,.code (.region 9 o9 bA),.inLoop eL,.inBlock 0,.code (.region 10 J1 bA)]
noncomputable abbrev uT (p1:b9)(b2 b3 b4 cb sb n c:Nat)(i:Nat)(v5 v6 v7 v8 v9 v10 v14 v15 v16 v17 v18 v19 v20 v21 v22 v23 v24 v25 v26:b9):Frame :=
 (base 45).at ⟨#[.pointer (a7 ⟨cb,0,bc⟩),p1,.pointer (a7 ⟨b2,0,bc⟩),.pointer (a7 ⟨b3,0,bc⟩),.pointer (a7 ⟨b4,0,bc⟩),v5,v6,v7,v8,v9,v10,.slice (a7 ⟨sb,0,bc⟩) n c,bb bh n,bb bh i,v14,v15,v16,v17,v18,v19,v20,v21,v22,v23,v24,v25,v26],[]⟩ [.code eL,.inLoop eL,.inBlock 0,.code (.region 10 J1 bA)]
section
variable {P:CL} {SB BB:bw->Bool} {lets:Bool} {Gn ty Wg:Nat} {Toy:Nat->Prop} {Ψ0 Ψ2:a6->Prop} {fA fW:bw} {wl:Nat} {Pr:Cm} {T:List Frame} {Fn:Bool->Hid->bs->a6->Prop}
def tf :
  ∀k {tp:Bool} {H:Hid} {g:bs} {w:a6},J2 P SB BB lets Gn ty Wg Toy Ψ0 Ψ2 fA fW wl Pr T Fn k tp H g w->J2 P SB BB lets Gn ty Wg Toy Ψ0 Ψ2 fA fW wl Pr T Fn (k+1) tp H g w:=by
 intro k
 induction k with
 |zero=>intro tp H g w h;exact .inl h
 |succ k ih =>
  rintro tp H g w (h|⟨fr,cs,h1,h2,h3⟩)
  .exact .inl h
  .refine .inr ⟨fr,cs,h1,h2,h3.mono (λ_ _ x=>x) λg w hq x G W e1 e2 e3 e4 e5 e6 e7 e8 e9 U9 e11=>?_⟩;obtain⟨G',child,x',xk,Oq,o,Uz,Q,q1,q2,q3,q4,q5,q6,q7⟩:=hq x G W e1 e2 e3 e4 e5 e6 e7 e8 e9 U9 e11;exact⟨G',child,x',xk,Oq,o,Uz,Q,q1,q2,q3,q4,q5.mono (λ_ _ x=>x) (λ_ _ x=>ih x),q6,q7⟩
def qZ {S:Bool->Hid->bs->a6->Prop}{tp:Bool}{H:Hid}(g:bs)(w W:a6)(s:Cs w W)(hq:AtGo P SB BB lets Gn ty Wg Toy Ψ0 Ψ2 Pr T S tp H g w):AtGo P SB BB lets Gn ty Wg Toy Ψ0 Ψ2 Pr T S tp H g W:=λx G W' e1 e2=>hq x G W' e1 (s.trans e2)
def dj (hF:∀tp H g w W,Cs w W->Fn tp H g w->Fn tp H g W):∀k {tp:Bool} {H:Hid} (g:bs) (w W:a6),Cs w W->J2 P SB BB lets Gn ty Wg Toy Ψ0 Ψ2 fA fW wl Pr T Fn k tp H g w->J2 P SB BB lets Gn ty Wg Toy Ψ0 Ψ2 fA fW wl Pr T Fn k tp H g W:=by
 have hW:∀ {tp:Bool} {H:Hid} {g:bs} {w W:a6},Cs w W->ic P fW wl Fn tp H g w->ic P fW wl Fn tp H g W:=λhs ⟨fr,cs,h1,h2,h3⟩=>⟨fr,cs,h1,h2,hF _ _ _ _ _ hs h3⟩;intro k;cases k with
 |zero=>exact λg w W hs h=>hW hs h
 |succ k =>
  rintro tp H g w W hs (h|⟨fr,cs,h1,h2,h3⟩)
  .exact .inl (hW hs h)
  .exact .inr ⟨fr,cs,h1,h2,h3.same (λ_ _ _ _ x=>x) (λg w W s hq x G W' e1 e2=>hq x G W' e1 (s.trans e2)) hs⟩
end
structure Head (SB:bw->Bool)(H:Hid)(Gn:Nat)(Kb:Nat->Prop)(Ok:a6->Prop)(K:Nat->Prop)(w:a6):Prop where
 sub:∀b,Kb b->K b
 base:∀b,K b->H b=bA->Ro w b/\∃o,w.heap[b]?=a7 o/\C5 (SP SB H) (CK b6 SB bn) (CX K) o o
 hid:∀b,K b->H b=bn->w.heap[b]?=a7 (.coro bc)
 lo:∀b,K b->Gn<=b
 lt:∀b,K b->b<w.heap.size
 old:∀b,H b=bn->b<w.heap.size
 room:Gn<=w.heap.size
 ok:Ok w
def fd (Kb:Nat->Prop)(Ok:a6->Prop):Prop:=∀w w':a6,(∀b,Kb b->w'.heap[b]?=w.heap[b]?)->w'.os=w.os->Ok w->Ok w'
section
variable {SB:bw->Bool} {H:Hid} {Gn:Nat} {Kb:Nat->Prop} {Ok:a6->Prop} {K:Nat->Prop} {w w':a6}
def Head.ext (h:Head SB H Gn Kb Ok K w)(hO:fd Kb Ok)(e:Ext w w'):Head SB H Gn Kb Ok K w':=by
 have same:∀b,K b->w'.heap[b]?=w.heap[b]?:=λb hb=>e.2.1 b (h.lt b hb);refine⟨h.sub,λb hb hh=>?_,λb hb hh=>(same b hb).trans (h.hid b hb hh),h.lo,λb hb=>yO (h.lt b hb) e.1,λb hb=>yO (h.old b hb) e.1,yR h.room e.1,hO w w' (λb hb=>same b (h.sub b hb)) e.2.2 h.ok⟩;obtain⟨⟨c,t,f,q1,q2⟩,o,q3,q4⟩:=h.base b hb hh;exact⟨⟨c,t,f,(same b hb).trans q1,q2⟩,o,(same b hb).trans q3,q4⟩
def Head.more (h:Head SB H Gn Kb Ok K w)(hO:fd Kb Ok){r:Nat}(hr:¬K r)(hH:H r=bA)(hG:Gn<=r){l:List b9}{t:TypeId}{f:Nat×Nat}(hc:w.heap[r]?=a7 (.cells l.toArray t f))(hl:∀v∈l,Di SB H (λ_=>False) v) :
  Head SB H Gn Kb Ok (λb=>K b\/b=r) (froze w r):=by
 have ne:∀b,K b->b≠r:=λb hb e=>hr (e▸hb);have same:∀b,K b->(froze w r).heap[b]?=w.heap[b]?:=λb hb=>eZ w (ne b hb);refine⟨λb hb=>.inl (h.sub b hb),λb hb hh=>?_,λb hb hh=>?_,λb hb=>?_,λb hb=>?_,λb hb=>by rw[cS];exact h.old b hb,by rw[cS];exact h.room,hO w _ (λb hb=>same b (h.sub b hb)) (gm w r) h.ok⟩
 .rcases hb with hb|rfl
  .obtain⟨⟨c,t,f,q1,q2⟩,o,q3,q4⟩:=h.base b hb hh;exact⟨⟨c,t,f,(same b hb).trans q1,q2⟩,o,(same b hb).trans q3,q4.mono λx y KR=>⟨.inl KR.1,KR.2⟩⟩
  .exact⟨⟨_,_,_,di hc,λi hi=>⟨zf _,hi⟩⟩,_,di hc,.cells (Dn λv hv=>(hl v hv).mono λ_=>False.elim) λi h1 h2=>⟨h1,h2⟩⟩
 .rcases hb with hb|rfl
  .exact(same b hb).trans (h.hid b hb hh)
  .rw[hH] at hh;cases hh
 .rcases hb with hb|rfl
  .exact h.lo b hb
  .exact hG
 .rw[cS];rcases hb with hb|rfl
  .exact h.lt b hb
  .exact(yK.1 hc).1
end
noncomputable abbrev PP:CL:=CL.of b6
noncomputable abbrev PQ:CL:=⟨B1,Tryz.prog.funcs⟩
noncomputable abbrev yE:Code:=Tryz.f82.body.getD .skip
abbrev first (x:Int):Obj:=.cells #[.int .u8 x,.int .u8 0,.int .u8 0,.int .u8 0,.int .u8 0] 76
abbrev bO (b2 b3 b4 r:Nat):Array Value:=#[.pointer (a7 ⟨b4,0,bc⟩),.pointer (a7 ⟨b2,0,bc⟩),.pointer (a7 ⟨r,0,bc⟩),.pointer (a7 ⟨b3,0,bc⟩)]
structure P9 (SB BB:bw->Bool)(H:Hid)(Gn Wg:Nat)(Toy:Nat->Prop)(Ψ0:a6->Prop)(Pr:Cm)(T:List Frame)(Kb:Nat->Prop)(Ok:a6->Prop)(b2 b3 b4:Nat)(x1:Int)(tp:Bool)(K:Nat->Prop)(a:Act)(r:Nat)(x:Lone)(X:bs)(W:a6):Prop where
 op:LX PP SB BB bn x X (base 45) a o8 1 T8 82 (bO b2 b3 b4 r) 24 Tryz.f82 yE
 gl:Dv PP SB BB bn x X
 wl:E2 PP SB bn Gn x W
 h:x.H=H
 t:x.T=T
 pr:Pr.le x.β
 FE:tp=bn->Ψ0 W
 Ig:∀b B,x.β b B->Toy B->x.H b=bn
 wg:∀b,x.β b Wg->x.H b=bn
 tw:x.H.C8=bA
 head:Head SB H Gn Kb Ok K x.w
 rb:x.w.heap[r]?=a7 (first x1)
 rK:¬K r/\H r=bA/\Gn<=r
 cut:MB b6 SB bn H H (λb=>K b\/b=r) (eC ((base 45).at a (.inRegion o8 []::T8)) [bad]) x.w (froze x.w r)
structure Ctx (SB CI BB:bw->Bool)(H:Hid)(Gn Wg:Nat)(Toy:Nat->Prop)(Ψ0 Ψ2:a6->Prop)(Pr:Cm)(T:List Frame)(Fn:Bool->Hid->bs->a6->Prop)(Kb Kc:Nat->Prop)(Ok:a6->Prop)(b2 b3 b4 cb sb n c:Nat)(p1:b9)(sets kind:Nat->Int)(Ed:Nat->Bool):Prop where
 hB:BB 45=bn
 Z4:SB 45=bn
 Z5:SB 82=bn
 L0:Oe PQ CI CI BB Gn
 b0:∀f,CI f=bn->BB f=bn
 Z6:CI 35=bn
 todo:∀K,Df (Ey b6 SB H bn bn (CX K)) (.inRegion o8 []::T8) (.inRegion o8 []::T8)
 C8:H.C8=bA
 bl:H.bl=bn
 only:fd Kb Ok
 Qb:∀w,Ok w->w.cell? ⟨b2,0,bc⟩=a7 (.pointer (a7 ⟨cb,0,bc⟩))
 Kw:∀w i,Ok w->i<n->w.cell? ⟨sb,i,bc⟩=a7 (.int .u8 (sets i))
 Ek:∀w b,Ok w->Kc b->Kb b/\∃o,w.heap[b]?=a7 o/\C5 (SP CI Bn) (CK B1 CI bA) (CX Kc) o o
 cK:Kc cb
 kb:Kb b2/\Kb b3/\Kb b4/\Kb cb/\Kb sb
 GN:Di SB H Kb p1
 wrap:∀i,i<n->IntKind.i64.wrap ((i:Int)+1)=((i+1:Nat):Int)
 Ky:∀w i,Ok w->i<n->∀τ d,bD B1 35 #[.pointer (a7 ⟨cb,0,bc⟩),.pointer (a7 ⟨w.heap.size,0,bc⟩),bb bh 0] (on (w.alloc (first (sets i))) τ d) (λe w'=>∃v,e=.returned v/\((∃y1 y2,v=.agg #[bb bh (kind i),bb bh y1,bb bh y2])/\Ext (w.alloc (first (sets i))) w'))
 tpk:∀i,i<n->kind i≠0->Ed (i+1)=Ed i
 fin:∀(a:Act) (w:a6),a.defers=[]->Ok w->Fn (Ed n) H (eC (((base 45).at a [.inRegion J1 [0]]).finish (.tuple #[])) [bad]) w
 MZ:∀tp H g w W,Cs w W->Fn tp H g w->Fn tp H g W
 go:∀i,i<n->kind i=0->∀(K:Nat->Prop) (a:Act) (r:Nat) (x:Lone) (X:bs) (W:a6),P9 SB BB H Gn Wg Toy Ψ0 Pr T Kb Ok b2 b3 b4 (sets i) (Ed i) K a r x X W ->
  ∃(X' child:bs) (xk:Lone) (o:Bool) (Pk:Cm) (Q:bs->a6->Prop),stepG b6 bn X W=.spawn X' child W #[] /\
   Split PP SB BB bn Gn Wg Toy x X' child W (Ed i) (Ed (i+1)) o ⟨eC ((base 45).at a (.inRegion o8 []::T8)) [bad],froze x.w r,H,cut (λb=>K b\/b=r) x.β,T⟩ xk Pk /\
   cM PP SB BB bn Gn 145 Wg Ψ2 Q xk.H xk.T Pk o/\(∀g w,Q g w->BB g.frame.fn=bA)/\C1 b6 BB Q 0 xk.g xk.w
def gn (w:a6)(x:Int):(w.alloc (first x)).heap[w.heap.size]?=a7 (first x):=by rw[aE,if_pos rfl]
section
variable {SB CI BB:bw->Bool} {H:Hid} {Gn Wg:Nat} {Toy:Nat->Prop} {Ψ0 Ψ2:a6->Prop} {Pr:Cm} {T:List Frame} {Fn:Bool->Hid->bs->a6->Prop} {Kb Kc:Nat->Prop} {Ok:a6->Prop} {b2 b3 b4 cb sb n c:Nat} {p1:b9} {sets kind:Nat->Int} {Ed:Nat->Bool}
def th (C:Ctx SB CI BB H Gn Wg Toy Ψ0 Ψ2 Pr T Fn Kb Kc Ok b2 b3 b4 cb sb n c p1 sets kind Ed)(K3:∀b B,Pr b B->Kb b):∀(m i:Nat),i+m=n->∀(K:Nat->Prop) (w:a6),Head SB H Gn Kb Ok K w ->
  ∀(v5 v6 v7 v8 v9 v10 v14 v15 v16 v17 v18 v19 v20 v21 v22 v23 v24 v25 v26:b9),(∀v∈[v5,v8,v9,v10,v20,v21,v22,v23,v24,v25,v26],Di SB H K v) ->
  Ch b6 (Dk b6 BB) (J2 PP SB BB bn Gn 145 Wg Toy Ψ0 Ψ2 81 84 b4 Pr T Fn m (Ed i) H) (eC (uT p1 b2 b3 b4 cb sb n c i v5 v6 v7 v8 v9 v10 v14 v15 v16 v17 v18 v19 v20 v21 v22 v23 v24 v25 v26) [bad]) w:=by
 intro m
 induction m with
 |zero =>
  intro i hi K w hd v5 v6 v7 v8 v9 v10 v14 v15 v16 v17 v18 v19 v20 v21 v22 v23 v24 v25 v26 hJ;obtain rfl:i=n:=by omega
  refine wT (cb:=0) C.hB (dj C.MZ _) (by simp) (cf _) (.fin ?_);exact⟨_,_,rfl,⟨rfl,rfl,_,_,_,_,rfl⟩,C.fin _ _ rfl hd.ok⟩
 |succ m ih =>
  intro i hi K w hd v5 v6 v7 v8 v9 v10 v14 v15 v16 v17 v18 v19 v20 v21 v22 v23 v24 v25 v26 hJ;have Ij:i<n:=by omega
  have l2:b2<w.heap.size:=hd.lt _ (hd.sub _ C.kb.1);have Iw:H w.heap.size=false:=by
   cases e:H w.heap.size with
   |false=>rfl
   |true=>exact absurd (hd.old _ e) (cf _)
  refine wQ C.hB (dj C.MZ _) (by simp) Ij (C.Qb w hd.ok) (C.Kw w i hd.ok Ij) l2 ?_;refine C.L0.fn C.Z6 C.Z6 (K0:=λb=>Kc b\/b=w.heap.size) (by simp) (λb hb=>?_) (by rw[aI];exact AN hd.room) (Dn λv hv=>?_) (λb hb=>?_) (dj C.MZ _) (C.Ky w i hd.ok Ij) ?_
  .rcases hb with hb|rfl
   .exact hd.lo b (hd.sub b (C.Ek w b hd.ok hb).1)
   .exact hd.room
  .simp only[yT,yQ,or_false] at hv;rcases hv with rfl|rfl|rfl
   .exact Di.ptr (.inl C.cK) _ _
   .exact Di.ptr (.inr rfl) _ _
   .exact B6.int _ _
  .rcases hb with hb|rfl
   .obtain⟨h1,o,h2,h3⟩:=C.Ek w b hd.ok hb;have hlt:=hd.lt b (hd.sub b h1);exact⟨o,by rw[aE,if_neg (Bg hlt)];exact h2,h3.mono λx y KR=>⟨.inl KR.1,KR.2⟩⟩
   .refine⟨_,gn w (sets i),.cells (Dn (l:=[.int .u8 (sets i),.int .u8 0,.int .u8 0,.int .u8 0,.int .u8 0]) λv hv=>?_) λj h1 h2=>⟨h1,h2⟩⟩;simp only[yT,yQ,or_false] at hv;rcases hv with rfl|rfl|rfl|rfl|rfl<;>exact B6.int _ _
  .rintro v w2 ⟨⟨y1,y2,rfl⟩,hE⟩;have hE2:Ext w w2:=(Ext.alloc w _).trans hE;have Mp:=hd.ext C.only hE2;have e20:(o6[1]?.bind (·.dst))=a7 20:=rfl;rw[Frame.finish_at,e20];have jk:∀y1 y2 k,Di SB H K (.agg #[bb bh k,bb bh y1,bb bh y2]):=λy1 y2 k=>Di.agg (l:=[bb bh k,bb bh y1,bb bh y2]) λv hv=>by
    simp only[yT,yQ,or_false] at hv;rcases hv with rfl|rfl|rfl<;>exact B6.int _ _
   by_cases hk:kind i=0
   .rw[hk];refine uQ (cb:=0) (v20:=undef) C.hB (dj C.MZ _) (by simp) (.fin (.inr ⟨_,_,rfl,⟨rfl,rfl,_,_,_,_,rfl⟩,?_⟩));have WM:(o7[0]?.bind (·.dst))=a7 23:=rfl;unfold back;rw[Frame.finish_at,WM];refine wR (cb:=cb) (v24:=v24) (cs:=[bad]) C.hB qZ (by simp) (.fin ?_);intro x X W ex hs eH eT hpr gl wl h0 Ig wg tw;have NZ:=Mp.ext C.only (Ext.same hs);have hrK:¬K w.heap.size:=λh=>cf _ (hd.lt _ h)
    have Ra:x.w.heap[w.heap.size]?=a7 (first (sets i)):=by
     rw[hs.1,hE.2.1 _ (by rw[aI];exact Nat.lt_succ_self _)];exact gn w _
    have abD:∀v∈[bb .u8 (sets i),.int .u8 0,.int .u8 0,.int .u8 0,.int .u8 0],∀K',Di SB H K' v:=λv hv K'=>by
     simp only[yT,yQ,or_false] at hv;rcases hv with rfl|rfl|rfl|rfl|rfl<;>exact B6.int _ _
    have hm:=NZ.more C.only hrK Iw hd.room Ra λv hv=>abD v hv _;have kb2:=hd.sub _ C.kb.1;have kb3:=hd.sub _ C.kb.2.1;have kb4:=hd.sub _ C.kb.2.2.1;have WN:=hd.sub _ C.kb.2.2.2.1;have Z7:=hd.sub _ C.kb.2.2.2.2;have Po:∀v,Di SB H K v->Di SB H (λb=>K b\/b=w.heap.size) v:=λv hv=>hv.mono λb hb=>.inl hb;have clo:Di SB H (λb=>K b\/b=w.heap.size) (.func (.func 82) #[] #[.pointer (a7 ⟨b4,0,bc⟩),.pointer (a7 ⟨b2,0,bc⟩),.pointer (a7 ⟨w.heap.size,0,bc⟩),.pointer (a7 ⟨b3,0,bc⟩)]):=Di.func C.Z5 (l:=[.pointer (a7 ⟨b4,0,bc⟩),.pointer (a7 ⟨b2,0,bc⟩),.pointer (a7 ⟨w.heap.size,0,bc⟩),.pointer (a7 ⟨b3,0,bc⟩)]) λv hv=>by
     simp only[yT,yQ,or_false] at hv;rcases hv with rfl|rfl|rfl|rfl
     .exact Di.ptr (.inl kb4) _ _
     .exact Di.ptr (.inl kb2) _ _
     .exact Di.ptr (.inr rfl) _ _
     .exact Di.ptr (.inl kb3) _ _
    have PZ:P9 SB BB H Gn Wg Toy Ψ0 Pr T Kb Ok b2 b3 b4 (sets i) (Ed i) K _ w.heap.size x X W:={
     op:=⟨ex,C.hB,⟨_,rfl,rfl,rfl,rfl⟩,by decide,rfl,⟨lv,lv,by kernel_rfl,rfl⟩,C.Z5⟩
     gl:=gl,wl:=wl,h:=eH,t:=eT,pr:=hpr,FE:=h0,Ig:=Ig,wg:=wg,tw:=tw,head:=NZ,rb:=Ra,rK:=⟨hrK,Iw,hd.room⟩
     cut:=by
      refine⟨⟨rfl,Dn (l:=[_,_,_,_,_,_,_,_,_,_,_,_,_,_,_,_,_,_,_,_,_,_,_,_,_,_,_]) λv hv=>?_,C.todo _,.nil,.run,rfl,⟨(by show CallKind.normal≠.early;decide),C.Z4⟩,.none⟩,⟨[bad],.base⟩,λb hb hh=>⟨hh,?_⟩,λb hb hh=>⟨hm.hid b hb hh,.inl hh⟩,by rw[cS];exact yL _,hm.old,gm _ _,⟨C.C8,C.C8⟩,C.bl⟩
      .simp only[yT,yQ,or_false] at hv;rcases hv with rfl|rfl|rfl|rfl|rfl|rfl|rfl|rfl|rfl|rfl|rfl|rfl|rfl|rfl|rfl|rfl|rfl|rfl|rfl|rfl|rfl|rfl|rfl|rfl|rfl|rfl|rfl
       .exact Di.ptr (.inl WN) _ _
       .exact Po _ (C.GN.mono hd.sub)
       .exact Di.ptr (.inl kb2) _ _
       .exact Di.ptr (.inl kb3) _ _
       .exact Di.ptr (.inl kb4) _ _
       .exact Po _ (hJ _ (by simp))
       .exact B6.int _ _
       .exact Di.ptr (.inr rfl) _ _
       .exact Po _ (hJ _ (by simp))
       .exact Po _ (hJ _ (by simp))
       .exact Po _ (hJ _ (by simp))
       .exact Di.slice (.inl Z7) _ _ _ _
       .exact B6.int _ _
       .exact B6.int _ _
       .exact B6.bool _
       .exact Di.ptr (.inl Z7) _ _
       .exact B6.int _ _
       .exact B6.int _ _
       .exact Di.agg (l:=[.int .u8 (sets i),.int .u8 0,.int .u8 0,.int .u8 0,.int .u8 0]) λv hv=>abD v hv _
       .exact Di.ptr (.inl WN) _ _
       .exact Po _ (jk _ _ _)
       .exact B6.int _ _
       .exact B6.bool _
       .exact B6.undef _ _
       .exact clo
       .exact Po _ (hJ _ (by simp))
       .exact Po _ (hJ _ (by simp))
      .obtain⟨_,o,h2,h3⟩:=hm.base b hb hh;refine⟨o,h2,h3,?_⟩;rcases hb with hb|rfl
       .have hne:b≠w.heap.size:=λe=>hrK (e▸hb);exact .inl (by rw[<-eZ x.w hne];exact h2)
       .rw[di Ra] at h2;cases h2
        exact .inr ⟨_,_,_,_,Ra,rfl,λi h1 h2=>⟨zf _,by simp at h1 h2⟩⟩ }
    obtain⟨X',child,xk,o,Pk,Q,g1,g2,g3,g4⟩:=C.go i Ij hk K _ _ x X W PZ;refine⟨X',child,_,xk,_,o,Pk,Q,g1,g2,rfl,λb B h=>⟨.inl (hd.sub _ (K3 b B h)),hpr b B h⟩,?_,g3,g4⟩;refine wS (cb:=cb) (v25:=v25) (cs:=[bad]) C.hB (dj C.MZ _) (by simp) (C.wrap i Ij) ?_;refine ih (i+1) (by omega) _ _ hm _ _ _ _ _ _ _ _ _ _ _ _ _ _ _ _ _ _ _ λv hv=>?_;simp only[yT,yQ,or_false] at hv;rcases hv with rfl|rfl|rfl|rfl|rfl|rfl|rfl|rfl|rfl|rfl|rfl
    .exact Po _ (hJ _ (by simp))
    .exact Po _ (hJ _ (by simp))
    .exact Po _ (hJ _ (by simp))
    .exact Po _ (hJ _ (by simp))
    .exact Po _ (jk _ _ _)
    .exact B6.int _ _
    .exact B6.bool _
    .exact B6.undef _ _
    .exact clo
    .exact B6.int _ _
    .exact Po _ (hJ _ (by simp))
   .refine(uP (cb:=0) (v20:=undef) C.hB (dj C.MZ _) (by simp) (C.wrap i Ij) hk ?_).mono (λ_ _ h=>h) λ_ _ h=>tf _ h;have:=ih (i+1) (by omega) K w2 Mp v5 (.int .u8 (sets i)) (.pointer (a7 ⟨w.heap.size,0,bc⟩)) v8 v9 v10 (.bool bn) (.pointer (a7 ⟨sb,i,bc⟩)) (.int .u8 (sets i)) (.int .u8 (sets i)) (.agg #[.int .u8 (sets i),.int .u8 0,.int .u8 0,.int .u8 0,.int .u8 0]) (.pointer (a7 ⟨cb,0,bc⟩))
     (.agg #[bb bh (kind i),bb bh y1,bb bh y2]) (bb bh (kind i)) (.bool bn) v23 v24 (bb bh ((i+1:Nat):Int)) v26 (λv hv=>?_)
    .rw[C.tpk i Ij hk] at this;exact this
    .simp only[yT,yQ,or_false] at hv;rcases hv with rfl|rfl|rfl|rfl|rfl|rfl|rfl|rfl|rfl|rfl|rfl
     .exact hJ _ (by simp)
     .exact hJ _ (by simp)
     .exact hJ _ (by simp)
     .exact hJ _ (by simp)
     .exact jk _ _ _
     .exact B6.int _ _
     .exact B6.bool _
     .exact hJ _ (by simp)
     .exact hJ _ (by simp)
     .exact B6.int _ _
     .exact hJ _ (by simp)
end
def syl:List FuncId:=[3,6,8,7,29,32,3,3,3,3,3,27,28,30,50,69,71,18,22,23,26,15,20,24,25,44,48,52,56,34,39,57,58,59,60,61,62,63,64,65,66,67,35,38,40,68,86,76,87,88,72,89,90,91,92,93,94,95,96,97,73,74,75,77,98,99,100,121,122,123,124,125,126,127,128,129,130,131,132,133,134,135,136,137,143,147,148,149,150,151,152,153,154,155,156,157,158,159,160,168,169,170,171,172,3,3,3,3,3,3,3,3,4,11,17,5,9,10,3,3,33,3,3,3,3,12,13,14,16,3,3,3,3,3,3,3,3,3,3,3,3,3,31,3,36,42,3,3,3,37,41,43,3,79,3,3,70,78,80,3,3,3]
def GC (f:bw):Bool:=syl.contains f
def Va (f:bw):Bool:=f==87||f==88||f==6||f==3
def BCy (f:bw):Bool:=GC f&&!Va f
def kH {p:Nat->Bool}(h:syl.all p=bn):∀f,GC f=bn->p f=true:=λf hf=>(zE.1 h) f (by simpa [GC] using hf)
def re:syl.all (λf=>I1 B1 GC bA f||PY f)=true:=by kernel_rfl
def RV (f:bw)(h:GC f=bn):I1 B1 GC bA f=bn\/PY f=true:=by
 have:=kH re f h;simpa using this
def us {P:CL}(f:bw)(hf:aO GC f=bn):G8 P f:=by
 have h:GC 82=false:=by decide
 unfold aO at hf;rw[h,Aa,Ak] at hf;cases hf
def yx (H:Hid):Lib (CL.of B1) GC H bA GC 0:=ow (λf hf=>(RV f hf).imp_right λh=>lU h ⟨Sq.fn lx rfl,Sq.fn lA rfl,Sq.fn k8 rfl⟩) us ⟨zP Sq.globals_size,Sq.LR⟩
def tn:syl.all (λf=>Va f||!(f==6||Im f||f==87||f==88))=true:=by kernel_rfl
def yy (H:Hid):Lib PW GC H bA BCy 0:=by
 refine iI (λf hf=>?_) (λf hf hb=>?_) (λf hf=>?_) us ⟨zP Sq.globals_size,Sq.LR⟩
 .simp only[BCy,yY,zY] at hf;rcases RV f hf.1 with h|h
  .refine .inl ⟨h,kF ?_⟩;have:=kH tn f hf.1;simpa [hf.2] using this
  .exact .inr (lU h ⟨lx,lA,k8⟩)
 .simp only[BCy,hf,Ap,As,Va,zk,beq_iff_eq] at hb;rcases hb with((rfl|rfl)|rfl)|rfl
  .exact⟨_,_,Sq.f87,l4,rfl,by show Tryz.f87.name≠_;decide,by decide,rfl,rfl⟩
  .exact⟨_,_,Sq.f88,l5,rfl,by show Tryz.f88.name≠_;decide,by decide,rfl,rfl⟩
  .exact⟨_,_,BR,Tryz.func6,rfl,by show Tryz.f6.name≠_;decide,by decide,rfl,rfl⟩
  .exact⟨_,_,Sq.put gU rfl,gU,rfl,by show Tryz.f3.name≠_;decide,by decide,rfl,rfl⟩
 .simp only[BCy,yY] at hf;exact hf.1
structure Gq (BB:bw->Bool):Prop where
 sub:∀f,GC f=bn->BB f=bn
 X1:BB 119=bn
 X2:BB 120=bn
def oB {BB:bw->Bool}(hL:Gq BB){f:bw}(h:f=87\/f=88):MF PW BB f:=by
 rcases h with rfl|rfl
 .obtain⟨r,o1,o2,s,hp⟩:=Ke 87 BH 0 1 Sq.f87 rfl (by rw[BI];decide) rfl;exact⟨0,1,_,r,o1,o2,s,Tryz.f87,hp,lf (hL.sub 87 (by decide)) hL.X1,l4,rfl⟩
 .obtain⟨r,o1,o2,s,hp⟩:=Ke 88 BE 1 0 Sq.f88 rfl (by rw[BG];decide) rfl;exact⟨1,0,_,r,o1,o2,s,Tryz.f88,hp,iZ (hL.sub 88 (by decide)) hL.X2,l5,rfl⟩
def ee {BB:bw->Bool}{H:Hid}(hL:Gq BB)(hn:H.bl=false:=by rfl):G7 PW GC BCy BB H 0:=by
 refine⟨yx _,yy _,λf hf hb=>?_,hL.sub,hn⟩;rcases hf with hf|hf
 .simp only[BCy,hf,Ap,As,Va,zk,beq_iff_eq] at hb;rcases hb with((rfl|rfl)|rfl)|rfl
  .exact .inr (oB hL (.inl rfl))
  .exact .inr (oB hL (.inr rfl))
  .exact .inl ⟨_,_,BR,rfl⟩
  .exact .inl ⟨_,_,Sq.put gU rfl,rfl⟩
 .have h:GC 82=false:=by decide
  unfold aO at hf;rw[h,Aa,Ak] at hf;cases hf
def sll:List FuncId:=[58,35,76,89,73,74,75,77,100]
def Ov (f:bw):Bool:=sll.contains f
def kI {p:Nat->Bool}(h:sll.all p=bn):∀f,Ov f=bn->p f=true:=λf hf=>(zE.1 h) f (by simpa [Ov] using hf)
def WQ {P:CL}(f:bw)(hf:aO Ov f=bn):G8 P f:=by
 have h:Ov 82=false:=by decide
 unfold aO at hf;rw[h,Aa,Ak] at hf;cases hf
def rf:sll.all (λf=>I1 B1 Ov bA f&&!(f==6||Im f||f==87||f==88))=true:=by kernel_rfl
def wZ {BB:bw->Bool}(hb:∀f,Ov f=bn->BB f=bn):Oe PW Ov Ov BB 0:=by
 have h1:∀f,Ov f=bn->I1 B1 Ov bA f=true:=λf hf=>by
  have:=kI rf f hf;simp only[yY] at this;exact this.1
 have h2:∀f,Ov f=bn->PW.fs[f]?=PW.a.funcs[f]?:=λf hf=>by
  have:=kI rf f hf;simp only[yY,zY] at this;exact kF this.2
 refine⟨wO h1 WQ ⟨zP Sq.globals_size,Sq.LR⟩,uK h1 h2 (λf hf hb=>by rw[hf] at hb;cases hb) (λ_ h=>h) WQ ⟨zP Sq.globals_size,Sq.LR⟩,λf hf hb=>?_,hb⟩;rcases hf with hf|hf
 .rw[hf] at hb;cases hb
 .have h:Ov 82=false:=by decide
  unfold aO at hf;rw[h,Aa,Ak] at hf;cases hf
open Go.Shelf
def aY {P:Program} {i:Nat} {f B:Func} (h:P.funcs[i]?=a7 f) (hn:(f.name == "runtime.NumGoroutine")=bA) (hf:f={ B with name:=f.name }):Bears P i B:=⟨f.name,hn,h.trans (congrArg a7 hf)⟩
def BQ:Ren:=⟨λ|6=>92|15=>91|14=>132|28=>130|29=>131|20=>152|21=>153|22=>154|23=>155|24=>156|25=>157|26=>158|27=>159|46=>169|47=>148|48=>149|49=>170|50=>171|57=>172|n=>n,λ|22=>137|24=>74|25=>156|3=>3|39=>154|0=>0|53=>103|55=>65|4=>4|46=>183|45=>182|50=>187|5=>5|9=>9|66=>210|70=>213|76=>221|77=>222|n=>n,λn=>n⟩
def BN:SlLaysF.n6 B1 BQ where
 mixed:=(congrArg (λt:Tables=>t.follows .mixedOrders) Br).trans (by kernel_rfl)
 f6:=aY Sq.func92 (by decide +kernel) (by kernel_rfl)
 f14:=aY Sq.func132 (by decide +kernel) (by kernel_rfl)
 f15:=Sq.func91.trans (congrArg a7 (by kernel_rfl))
 f20:=aY Sq.func152 (by decide +kernel) (by kernel_rfl)
 f21:=aY Sq.func153 (by decide +kernel) (by kernel_rfl)
 f22:=aY Sq.func154 (by decide +kernel) (by kernel_rfl)
 f23:=aY Sq.func155 (by decide +kernel) (by kernel_rfl)
 f24:=aY Sq.func156 (by decide +kernel) (by kernel_rfl)
 f25:=aY Sq.func157 (by decide +kernel) (by kernel_rfl)
 f26:=aY Sq.func158 (by decide +kernel) (by kernel_rfl)
 f27:=aY Sq.func159 (by decide +kernel) (by kernel_rfl)
 f28:=Sq.func130.trans (congrArg a7 (by kernel_rfl))
 f29:=Sq.func131.trans (congrArg a7 (by kernel_rfl))
 f46:=aY Sq.func169 (by decide +kernel) (by kernel_rfl)
 f47:=Sq.func148.trans (congrArg a7 (by kernel_rfl))
 f48:=Sq.func149.trans (congrArg a7 (by kernel_rfl))
 f49:=aY Sq.func170 (by decide +kernel) (by kernel_rfl)
 f50:=aY Sq.func171 (by decide +kernel) (by kernel_rfl)
 f57:=aY Sq.func172 (by decide +kernel) (by kernel_rfl)
 t0:=(Sq.underlying 0).trans eF
 a0:=λw=>(Bo 0 w).trans (l8 w)
 z0:=λw=>(Sq.sizeOf 0 w).trans (k9 w)
 v0:=λw=>(Sq.zeroValue 0 w).trans (gb w)
 t3:=(Sq.underlying 3).trans eG
 a3:=λw=>(Bo 3 w).trans (l9 w)
 z3:=λw=>(Sq.sizeOf 3 w).trans (lh w)
 v3:=λw=>(Sq.zeroValue 3 w).trans (gg w)
 t4:=(Sq.underlying 4).trans eV
 a4:=λw=>(Bo 4 w).trans (mm w)
 z4:=λw=>(Sq.sizeOf 4 w).trans (ll w)
 v4:=λw=>(Sq.zeroValue 4 w).trans (gh w)
 t5:=(Sq.underlying 5).trans fc
 a5:=λw=>(Bo 5 w).trans (mA w)
 z5:=λw=>(Sq.sizeOf 5 w).trans (ln w)
 v5:=λw=>(Sq.zeroValue 5 w).trans (gB w)
 t9:=(Sq.underlying 9).trans fq
 a9:=λw=>(Bo 9 w).trans (ng w)
 z9:=λw=>(Sq.sizeOf 9 w).trans (lp w)
 v9:=λw=>(Sq.zeroValue 9 w).trans (gR w)
 t22:=(Sq.underlying 137).trans Tryz.underlying137
 a22:=λw=>(Bo 137 w).trans (Tryz.isAgg137 w)
 z22:=λw=>(Sq.sizeOf 137 w).trans (Tryz.sizeOf137 w)
 v22:=λw=>(Sq.zeroValue 137 w).trans (Tryz.zeroValue137 w)
 a24:=λw=>(Bo 74 w).trans (Tryz.isAgg74 w)
 z24:=λw=>(Sq.sizeOf 74 w).trans (Tryz.sizeOf74 w)
 t25:=(Sq.underlying 156).trans Tryz.underlying156
 a25:=λw=>(Bo 156 w).trans (Tryz.isAgg156 w)
 z25:=λw=>(Sq.sizeOf 156 w).trans (Tryz.sizeOf156 w)
 v25:=λw=>(Sq.zeroValue 156 w).trans (Tryz.zeroValue156 w)
 t39:=(Sq.underlying 154).trans cq
 a39:=λw=>(Bo 154 w).trans (j3 w)
 z39:=λw=>(Sq.sizeOf 154 w).trans (hP w)
 v39:=λw=>(Sq.zeroValue 154 w).trans (dr w)
 t45:=(Sq.underlying 182).trans cr
 a45:=λw=>(Bo 182 w).trans (kn w)
 z45:=λw=>(Sq.sizeOf 182 w).trans (hZ w)
 v45:=λw=>(Sq.zeroValue 182 w).trans (dy w)
 t46:=(Sq.underlying 183).trans cu
 a46:=λw=>(Bo 183 w).trans (kp w)
 z46:=λw=>(Sq.sizeOf 183 w).trans (h9 w)
 v46:=λw=>(Sq.zeroValue 183 w).trans (dS w)
 t50:=(Sq.underlying 187).trans cw
 a50:=λw=>(Bo 187 w).trans (kq w)
 z50:=λw=>(Sq.sizeOf 187 w).trans (ik w)
 v50:=λw=>(Sq.zeroValue 187 w).trans (ea w)
 t53:=(Sq.underlying 103).trans cE
 a53:=λw=>(Bo 103 w).trans (kt w)
 z53:=λw=>(Sq.sizeOf 103 w).trans (iv w)
 v53:=λw=>(Sq.zeroValue 103 w).trans (eb w)
 t55:=(Sq.underlying 65).trans ed
 a55:=λw=>(Bo 65 w).trans (lq w)
 z55:=λw=>(Sq.sizeOf 65 w).trans (kx w)
 v55:=λw=>(Sq.zeroValue 65 w).trans (fu w)
 t66:=(Sq.underlying 210).trans cF
 a66:=λw=>(Bo 210 w).trans (k0 w)
 z66:=λw=>(Sq.sizeOf 210 w).trans (jx w)
 v66:=λw=>(Sq.zeroValue 210 w).trans (ek w)
 t70:=(Sq.underlying 213).trans cU
 a70:=λw=>(Bo 213 w).trans (k5 w)
 z70:=λw=>(Sq.sizeOf 213 w).trans (j0 w)
 v70:=λw=>(Sq.zeroValue 213 w).trans (eo w)
 t76:=(Sq.underlying 221).trans df
 a76:=λw=>(Bo 221 w).trans (k6 w)
 z76:=λw=>(Sq.sizeOf 221 w).trans (j1 w)
 v76:=λw=>(Sq.zeroValue 221 w).trans (er w)
 t77:=(Sq.underlying 222).trans dn
 a77:=λw=>(Bo 222 w).trans (k7 w)
 z77:=λw=>(Sq.sizeOf 222 w).trans (j2 w)
 v77:=λw=>(Sq.zeroValue 222 w).trans (ez w)
def bB {l:List Int}:bG l=0↔∀x∈l,x=0:=by
 refine⟨λh x hx=>?_,iS⟩;unfold bG at h;cases hf:l.find? (· != 0) with
 |none=>have:=Bd.1 hf x hx;simpa using this
 |some y =>
  rw[hf] at h;have:=List.find?_some hf;simp only[zc] at h;subst h;simp at this
def dG {n lo hi:Int}:CM n lo hi=0↔lo<=n/\n<=hi:=by
 unfold CM;split
 .simp;omega
 .split<;>simp<;>omega
def my {x lo hi:Int}:Ez x lo hi=bn↔lo<=x/\x<=hi:=by simp[Ez]
def li {l:List Int}{n:Int}:Dw l n=0↔∀i,i<l.length->En l n i=0:=by
 unfold Dw;rw[bB];simp
def I6 {l:List Int}{n:Int}(h:Dw l n=0):(∀x∈l,0<=x/\x<n)/\(l.length:Int)<=max n 0/\∀i,i+1<l.length->l[i]?.getD 0<l[i+1]?.getD 0:=by
 rw[li] at h;have h1:∀i,i<l.length->0<=l[i]?.getD 0/\l[i]?.getD 0<=n-1:=λi hi=>by
  have:=h i hi;unfold En at this;split at this
  .assumption
  .cases this
 have h2:∀i,i+1<l.length->l[i]?.getD 0<l[i+1]?.getD 0:=λi hi=>by
  have:=h (i+1) hi;unfold En at this;rw[if_pos (h1 _ hi)] at this;by_cases hc:0<i+1/\l[i+1]?.getD 0<=l[i+1-1]?.getD 0
  .rw[if_pos hc] at this;cases this
  .simp only[Nat.add_sub_cancel] at hc;omega
 have h3:∀i,i<l.length->(i:Int)<=l[i]?.getD 0:=λi=>by
  induction i with
  |zero=>intro hi;exact(h1 0 hi).1
  |succ k ih=>intro hi;have:=ih (by omega);have:=h2 k hi;omega
 refine⟨λx hx=>?_,?_,h2⟩
 .obtain⟨i,hi,rfl⟩:=List.getElem_of_mem hx;have:=h1 i hi;rw[yM hi] at this;simp only[zc] at this;omega
 .by_cases hz:l.length=0
  .omega
  .have a:=h3 (l.length-1) (by omega);have b:=(h1 (l.length-1) (by omega)).2;omega
def Cc.Ok.of {c:Cc}(h:Cn c=0):c.Ok:=by
 unfold Cn at h;by_cases h1:CM c.B3.length 1 5≠0
 .rw[if_pos h1] at h;exact absurd h h1
 rw[if_neg h1] at h;have h1':=dG.1 (Decidable.not_not.1 h1);by_cases h2:(c.B3.all λx=>Ez x 0 12)=bA
 .rw[if_pos h2] at h;cases h
 rw[if_neg h2] at h;by_cases h3:CM c.B2.length 1 4≠0
 .rw[if_pos h3] at h;exact absurd h h3
 rw[if_neg h3] at h;have QK:=dG.1 (Decidable.not_not.1 h3);rw[bB] at h;have hh:∀x∈c.B2,(1<=x.heads/\x.heads<=40)/\(1<=x.Dd/\x.Dd<=5)/\(0<=x.most/\x.most<=5)/\Dw x.off c.B3.length=0:=λx hx=>by
  have:=h _ (List.mem_map_of_mem hx);unfold D6 at this;split at this
  .rename_i hc;simp only[yY,my] at hc;exact⟨hc.1.1,hc.1.2,hc.2,this⟩
  .cases this
 have O7:∀x∈c.B3,0<=x/\x<=12:=λx hx=>by
  have:=zE.1 (Bool.not_eq_false _▸h2) x hx;exact my.1 this
 exact⟨by omega,by omega,O7,by omega,by omega,λx hx=>(hh x hx).1,λx hx=>(hh x hx).2.1,λx hx=>(hh x hx).2.2.1,λx hx=>by
  obtain⟨a,b,_⟩:=I6 (hh x hx).2.2.2
  exact⟨by omega,a⟩⟩
def BO:Ren:=⟨λ|189=>60|125=>91|257=>90|128=>130|129=>131|294=>121|295=>122|296=>123|297=>124|298=>125|299=>126|216=>127|300=>128|301=>129|328=>147|329=>148|330=>149|331=>150|332=>151|215=>133|343=>168|n=>n,λ|28=>22|3=>3|46=>154|0=>0|51=>103|53=>65|4=>4|183=>183|182=>182|131=>187|5=>5|9=>9|218=>210|222=>213|228=>221|229=>222|n=>n,λn=>n⟩
def BK:Lays.n189 B1 BO where
 mixed:=(congrArg (λt:Tables=>t.follows .mixedOrders) Br).trans (by kernel_rfl)
 f125:=Sq.func91.trans (congrArg a7 (by kernel_rfl))
 f128:=Sq.func130.trans (congrArg a7 (by kernel_rfl))
 f129:=Sq.func131.trans (congrArg a7 (by kernel_rfl))
 f189:=Sq.func60.trans (congrArg a7 (by kernel_rfl))
 f215:=Sq.func133.trans (congrArg a7 (by kernel_rfl))
 f216:=Sq.func127.trans (congrArg a7 (by kernel_rfl))
 f257:=Sq.func90.trans (congrArg a7 (by kernel_rfl))
 f294:=Sq.func121.trans (congrArg a7 (by kernel_rfl))
 f295:=Sq.func122.trans (congrArg a7 (by kernel_rfl))
 f296:=Sq.func123.trans (congrArg a7 (by kernel_rfl))
 f297:=Sq.func124.trans (congrArg a7 (by kernel_rfl))
 f298:=Sq.func125.trans (congrArg a7 (by kernel_rfl))
 f299:=Sq.func126.trans (congrArg a7 (by kernel_rfl))
 f300:=Sq.func128.trans (congrArg a7 (by kernel_rfl))
 f301:=Sq.func129.trans (congrArg a7 (by kernel_rfl))
 f328:=Sq.func147.trans (congrArg a7 (by kernel_rfl))
 f329:=Sq.func148.trans (congrArg a7 (by kernel_rfl))
 f330:=Sq.func149.trans (congrArg a7 (by kernel_rfl))
 f331:=Sq.func150.trans (congrArg a7 (by kernel_rfl))
 f332:=Sq.func151.trans (congrArg a7 (by kernel_rfl))
 f343:=Sq.func168.trans (congrArg a7 (by kernel_rfl))
 t0:=(Sq.underlying 0).trans eF
 a0:=λw=>(Bo 0 w).trans (l8 w)
 z0:=λw=>(Sq.sizeOf 0 w).trans (k9 w)
 v0:=λw=>(Sq.zeroValue 0 w).trans (gb w)
 t3:=(Sq.underlying 3).trans eG
 a3:=λw=>(Bo 3 w).trans (l9 w)
 z3:=λw=>(Sq.sizeOf 3 w).trans (lh w)
 v3:=λw=>(Sq.zeroValue 3 w).trans (gg w)
 t4:=(Sq.underlying 4).trans eV
 a4:=λw=>(Bo 4 w).trans (mm w)
 z4:=λw=>(Sq.sizeOf 4 w).trans (ll w)
 v4:=λw=>(Sq.zeroValue 4 w).trans (gh w)
 t5:=(Sq.underlying 5).trans fc
 a5:=λw=>(Bo 5 w).trans (mA w)
 z5:=λw=>(Sq.sizeOf 5 w).trans (ln w)
 v5:=λw=>(Sq.zeroValue 5 w).trans (gB w)
 t9:=(Sq.underlying 9).trans fq
 a9:=λw=>(Bo 9 w).trans (ng w)
 z9:=λw=>(Sq.sizeOf 9 w).trans (lp w)
 v9:=λw=>(Sq.zeroValue 9 w).trans (gR w)
 t28:=(Sq.underlying 22).trans Tryz.underlying22
 a28:=λw=>(Bo 22 w).trans (Tryz.isAgg22 w)
 z28:=λw=>(Sq.sizeOf 22 w).trans (Tryz.sizeOf22 w)
 v28:=λw=>(Sq.zeroValue 22 w).trans (Tryz.zeroValue22 w)
 t46:=(Sq.underlying 154).trans cq
 a46:=λw=>(Bo 154 w).trans (j3 w)
 z46:=λw=>(Sq.sizeOf 154 w).trans (hP w)
 v46:=λw=>(Sq.zeroValue 154 w).trans (dr w)
 t51:=(Sq.underlying 103).trans cE
 a51:=λw=>(Bo 103 w).trans (kt w)
 z51:=λw=>(Sq.sizeOf 103 w).trans (iv w)
 v51:=λw=>(Sq.zeroValue 103 w).trans (eb w)
 t53:=(Sq.underlying 65).trans ed
 a53:=λw=>(Bo 65 w).trans (lq w)
 z53:=λw=>(Sq.sizeOf 65 w).trans (kx w)
 v53:=λw=>(Sq.zeroValue 65 w).trans (fu w)
 t131:=(Sq.underlying 187).trans cw
 a131:=λw=>(Bo 187 w).trans (kq w)
 z131:=λw=>(Sq.sizeOf 187 w).trans (ik w)
 v131:=λw=>(Sq.zeroValue 187 w).trans (ea w)
 t182:=(Sq.underlying 182).trans cr
 a182:=λw=>(Bo 182 w).trans (kn w)
 z182:=λw=>(Sq.sizeOf 182 w).trans (hZ w)
 v182:=λw=>(Sq.zeroValue 182 w).trans (dy w)
 t183:=(Sq.underlying 183).trans cu
 a183:=λw=>(Bo 183 w).trans (kp w)
 z183:=λw=>(Sq.sizeOf 183 w).trans (h9 w)
 v183:=λw=>(Sq.zeroValue 183 w).trans (dS w)
 t218:=(Sq.underlying 210).trans cF
 a218:=λw=>(Bo 210 w).trans (k0 w)
 z218:=λw=>(Sq.sizeOf 210 w).trans (jx w)
 v218:=λw=>(Sq.zeroValue 210 w).trans (ek w)
 t222:=(Sq.underlying 213).trans cU
 a222:=λw=>(Bo 213 w).trans (k5 w)
 z222:=λw=>(Sq.sizeOf 213 w).trans (j0 w)
 v222:=λw=>(Sq.zeroValue 213 w).trans (eo w)
 t228:=(Sq.underlying 221).trans df
 a228:=λw=>(Bo 221 w).trans (k6 w)
 z228:=λw=>(Sq.sizeOf 221 w).trans (j1 w)
 v228:=λw=>(Sq.zeroValue 221 w).trans (er w)
 t229:=(Sq.underlying 222).trans dn
 a229:=λw=>(Bo 222 w).trans (k7 w)
 z229:=λw=>(Sq.sizeOf 222 w).trans (j2 w)
 v229:=λw=>(Sq.zeroValue 222 w).trans (ez w)
open Go.Proofs.YtghipmneleifpaaGreat
def ZA:laidOutB Tryz.checked.prog=bn/\mapsRowed Tryz.checked.prog=bn/\Tryz.checked.prog.plainKeys=true:=Go.ClosedOfChecked.closed_of_checked Tryz.checked (by kernel_rfl) (by kernel_rfl) (by kernel_rfl)
def wF:fx Tryz.pinned.checked.prog 3 Tryz.f3 Rows.wolfLapsesSpec Rows.wolfLapsesRow=true:=by
 show fx Tryz.checked.prog 3 Tryz.f3 Rows.wolfLapsesSpec Rows.wolfLapsesRow=bn;obtain⟨h1,h2,h3⟩:=ZA;unfold fx;rw[h1,h2,h3]
 kernel_rfl
def x9:Tryz.pinned.checked.prog.funcNamed Rows.wolfLapsesRow.func=a7 3:=by kernel_rfl
end Go.Sq
namespace Go
def yJ{p:Prop}(h:p):RowKit.Hid p:=h
end Go
namespace Go.Sq
open Go.RowKit
structure Gr (w w':a6):Prop where
 below:Below w.heap.size w w'
 drawn:w.drawn<=w'.drawn
def Gr.refl (w:a6):Gr w w:=⟨Below.refl _ _,yL _⟩
def Gr.trans {a b c:a6}(h:Gr a b)(k:Gr b c):Gr a c:=⟨h.below.trans (k.below.mono h.below.size),yR h.drawn k.drawn⟩
def Gr.size {w w':a6}(h:Gr w w'):w.heap.size<=w'.heap.size:=h.below.size
def Gr.alloc {w w':a6}(h:Gr w w')(o:Obj):Gr w (w'.alloc o):=⟨h.below.alloc h.size o,h.drawn⟩
def Gr.drew {w w':a6}(h:Gr w w'):Gr w w'.drew:=⟨h.below.drew,AN h.drawn⟩
def Gr.drewN {w w':a6}(h:Gr w w')(n:Nat):Gr w (w'.drewN n):=⟨⟨h.below.os,h.below.tape,h.below.output,h.below.size,h.below.block⟩,yR h.drawn (Nat.le_add_right _ _)⟩
def Gr.setCell {w w':a6}(h:Gr w w'){p:b7}(hp:w.heap.size<=p.block)(v:b9):Gr w (w'.setCell p v):=⟨h.below.setCell hp v,h.drawn⟩
def Gr.grown {w w' w1:a6}(h:Gr w w'){row:Option Nat}(hg:w'.grownBy w1 row)(hd:w'.drawn<=w1.drawn)(hr:∀k,row=a7 k->w.heap.size<=k):Gr w w1 :=
 ⟨h.below.grown hg h.size hr,yR h.drawn hd⟩
def Gr.cell {w w':a6}(h:Gr w w'){p:b7}(hp:p.block<w.heap.size):w'.cell? p=w.cell? p:=h.below.cell hp
def Gr.frozen {w w':a6}(h:Gr w w'){p:b7}(hp:p.block<w.heap.size):w'.frozen? p=w.frozen? p:=h.below.frozen hp
def RI (w:a6)(B:Nat)(A:Option b7)(l:List Int):Prop :=
 l≠[]->∃b o,A=a7 ⟨b,o,bc⟩/\b<B/\∀i x,l[i]?=a7 x->w.cell? ⟨b,o+i,bc⟩=a7 (bb bh x)
def RI.nil {w:a6}{B:Nat}{A:Option b7}:RI w B A []:=λh=>absurd rfl h
def RI.keep {w w':a6}{B:Nat}{A:Option b7}{l:List Int}(h:RI w B A l)(hk:∀b o,b<B->w'.cell? ⟨b,o,bc⟩=w.cell? ⟨b,o,bc⟩):RI w' B A l:=λhn=>by
 obtain⟨b,o,e,hb,hc⟩:=h hn;exact⟨b,o,e,hb,λi x hx=>(hk _ _ hb).trans (hc i x hx)⟩
def RI.gr {w w':a6}{B:Nat}{A:Option b7}{l:List Int}(h:RI w B A l)(hB:B<=w.heap.size)(hg:Gr w w'):RI w' B A l:=h.keep λ_ _ hb=>hg.cell (yO hb hB)
def RI.more {w:a6}{B B':Nat}{A:Option b7}{l:List Int}(h:RI w B A l)(hB:B<=B'):RI w B' A l:=λhn=>by
 obtain⟨b,o,e,hb,hc⟩:=h hn;exact⟨b,o,e,by omega,hc⟩
def RI.at_ {w:a6}{B:Nat}{A:Option b7}{l:List Int}(h:RI w B A l){k:Nat}(hk:k<l.length):∃b o,A=a7 ⟨b,o,bc⟩/\b<B/\w.cell? ⟨b,o+k,bc⟩=a7 (bb bh (l[k]?.getD 0)):=by
 obtain⟨b,o,e,hb,hc⟩:=h (λe=>by subst e;simp at hk);exact⟨b,o,e,hb,by rw[yM hk];exact hc k _ (yM hk)⟩
def Bp {w:a6}{base:Nat}{v:b9}{l:List Int}(h:w.ownsRow base 3 1 v l.length (l.map (bb bh))):∃A c,v=bk A l.length c/\RI w w.heap.size A l:=by
 rcases h.2 with⟨rfl,h0⟩|⟨g,cap,cur,rfl,_,hg,_⟩
 .have:l.length=0:=by simpa using h0
  have:l=[]:=zj this;subst this;exact⟨bc,0,rfl,.nil⟩
 .refine⟨_,cap,rfl,λ_=>⟨g,0,rfl,(yK.1 hg).1,λi x hx=>?_⟩⟩;have:=h.cells (g:=g) rfl i (bb bh x) (by rw[zL,hx];rfl);have e:(⟨g,0,bc⟩:b7).add i=⟨g,0+i,bc⟩:=by unfold Addr.add;split<;>simp_all
  rwa [e] at this
def NU (w:a6)(B b o:Nat)(h:CF):Prop :=
 w.cell? ⟨b,o,bc⟩=a7 (bb bh h.heads)/\w.cell? ⟨b,o+1,bc⟩=a7 (bb bh h.Dd)/\w.cell? ⟨b,o+2,bc⟩=a7 (bb bh h.most) /\
  ∃A c,w.cell? ⟨b,o+3,bc⟩=a7 (bk A h.off.length c)/\RI w B A h.off
def Db (w:a6)(B:Nat)(A:Option b7)(l:List CF):Prop :=
 l≠[]->∃b o,A=a7 ⟨b,o,bc⟩/\b<B/\∀i h,l[i]?=a7 h->NU w B b (o+i*4) h
def NU.keep {w w':a6}{B b o:Nat}{h:CF}(ha:NU w B b o h)(hb:b<B)(hk:∀b o,b<B->w'.cell? ⟨b,o,bc⟩=w.cell? ⟨b,o,bc⟩):NU w' B b o h:=by
 obtain⟨h1,h2,h3,A,c,h4,h5⟩:=ha;exact⟨(hk _ _ hb).trans h1,(hk _ _ hb).trans h2,(hk _ _ hb).trans h3,A,c,(hk _ _ hb).trans h4,h5.keep hk⟩
def Db.keep {w w':a6}{B:Nat}{A:Option b7}{l:List CF}(h:Db w B A l)(hk:∀b o,b<B->w'.cell? ⟨b,o,bc⟩=w.cell? ⟨b,o,bc⟩):Db w' B A l:=λhn=>by
 obtain⟨b,o,e,hb,hc⟩:=h hn;exact⟨b,o,e,hb,λi h hi=>(hc i h hi).keep hb hk⟩
def Db.at_ {w:a6}{B:Nat}{A:Option b7}{c:Cc}(h:Db w B A c.B2){i:Nat}(hi:i<c.B2.length):∃b o,A=a7 ⟨b,o,bc⟩/\b<B/\NU w B b (o+i*4) (c.h i):=by
 obtain⟨b,o,e,hb,hc⟩:=h (λe=>by rw[e] at hi;simp at hi);exact⟨b,o,e,hb,hc i _ (by unfold Cc.h;rw[yM hi];rfl)⟩
structure DW (w:a6)(B cb:Nat)(c:Cc)(nA hA:Option b7)(nc hc:Nat):Prop where
 lt:cb<B
 c0:w.cell? ⟨cb,0,bc⟩=a7 (bk nA c.B3.length nc)
 c1:w.cell? ⟨cb,1,bc⟩=a7 (bk hA c.B2.length hc)
 B3:RI w B nA c.B3
 DI:Db w B hA c.B2
def DW.keep {w w':a6}{B cb:Nat}{c:Cc}{nA hA:Option b7}{nc hc:Nat}(h:DW w B cb c nA hA nc hc)(hk:∀b o,b<B->w'.cell? ⟨b,o,bc⟩=w.cell? ⟨b,o,bc⟩):DW w' B cb c nA hA nc hc :=
 ⟨h.lt,(hk _ _ h.lt).trans h.c0,(hk _ _ h.lt).trans h.c1,h.B3.keep hk,h.DI.keep hk⟩
def DW.gr {w w':a6}{B cb:Nat}{c:Cc}{nA hA:Option b7}{nc hc:Nat}(h:DW w B cb c nA hA nc hc)(hB:B<=w.heap.size)(hg:Gr w w'):DW w' B cb c nA hA nc hc :=
 h.keep λ_ _ hb=>hg.cell (yO hb hB)
def E8 (w:a6)(B br:Nat)(r:Nat->Nat):Prop:=br<B/\∀i,i<5->w.cell? ⟨br,i,bc⟩=a7 (.int .u8 (r i))
def E8.keep {w w':a6}{B br:Nat}{r:Nat->Nat}(h:E8 w B br r)(hk:∀b o,b<B->w'.cell? ⟨b,o,bc⟩=w.cell? ⟨b,o,bc⟩):E8 w' B br r:=⟨h.1,λi hi=>(hk _ _ h.1).trans (h.2 i hi)⟩
def E8.gr {w w':a6}{B br:Nat}{r:Nat->Nat}(h:E8 w B br r)(hB:B<=w.heap.size)(hg:Gr w w'):E8 w' B br r:=h.keep λ_ _ hb=>hg.cell (yO hb hB)
def NU.more {w:a6}{B B' b o:Nat}{h:CF}(ha:NU w B b o h)(hB:B<=B'):NU w B' b o h:=by
 obtain⟨h1,h2,h3,A,c,h4,h5⟩:=ha;exact⟨h1,h2,h3,A,c,h4,h5.more hB⟩
def Db.more {w:a6}{B B':Nat}{A:Option b7}{l:List CF}(h:Db w B A l)(hB:B<=B'):Db w B' A l:=λhn=>by
 obtain⟨b,o,e,hb,hc⟩:=h hn;exact⟨b,o,e,yO hb hB,λi h hi=>(hc i h hi).more hB⟩
def DW.more {w:a6}{B B' cb:Nat}{c:Cc}{nA hA:Option b7}{nc hc:Nat}(h:DW w B cb c nA hA nc hc)(hB:B<=B'):DW w B' cb c nA hA nc hc :=
 ⟨yO h.lt hB,h.c0,h.c1,h.B3.more hB,h.DI.more hB⟩
def E8.more {w:a6}{B B' br:Nat}{r:Nat->Nat}(h:E8 w B br r)(hB:B<=B'):E8 w B' br r:=⟨yO h.1 hB,h.2⟩
def DW.on {w w':a6}{cb:Nat}{c:Cc}{nA hA:Option b7}{nc hc:Nat}(h:DW w w.heap.size cb c nA hA nc hc)(hg:Gr w w'):DW w' w'.heap.size cb c nA hA nc hc:=(h.gr (yL _) hg).more hg.size
def E8.on {w w':a6}{br:Nat}{r:Nat->Nat}(h:E8 w w.heap.size br r)(hg:Gr w w'):E8 w' w'.heap.size br r:=(h.gr (yL _) hg).more hg.size
def JX {w:a6}{B:Nat}{u0 u1 u2:b9}(h0:w.cell? ⟨B,0,bc⟩=a7 u0)(h1:w.cell? ⟨B,1,bc⟩=a7 u1)(h2:w.cell? ⟨B,2,bc⟩=a7 u2) :
  (∀v,(w.setCell ⟨B,0,bc⟩ v).cell? ⟨B,0,bc⟩=a7 v)/\(∀u v,((w.setCell ⟨B,0,bc⟩ u).setCell ⟨B,1,bc⟩ v).cell? ⟨B,1,bc⟩=a7 v) /\
   ∀u x v,(((w.setCell ⟨B,0,bc⟩ u).setCell ⟨B,1,bc⟩ x).setCell ⟨B,2,bc⟩ v).cell? ⟨B,2,bc⟩=a7 v:=by
 have e1:∀u,(w.setCell ⟨B,0,bc⟩ u).cell? ⟨B,1,bc⟩=a7 u1:=λu=>by rw[bo _ _ _ _ (by simp)];exact h1
 have e2:∀u x,((w.setCell ⟨B,0,bc⟩ u).setCell ⟨B,1,bc⟩ x).cell? ⟨B,2,bc⟩=a7 u2:=λu x=>by rw[bo _ _ _ _ (by simp),bo _ _ _ _ (by simp)];exact h2
 exact⟨λv=>bq _ _ _ h0,λu v=>bq _ _ _ (e1 u),λu x v=>bq _ _ _ (e2 u x)⟩
def am {k:IntKind}{a b:Int}(h:a=b):b8 (.int k a)=.returned (.int k b):=by rw[h]
def ap {a b:Bool}(h:a=b):b8 (.bool a)=.returned (.bool b):=by rw[h]
variable {P:Program}
def CE {w:a6}{ops:Array Oper}{rest:List Oper}{o:Oper}{a:Act}{Q:Exit->Act->a6->Prop}(hgd:o.guard=bc)(s x:Operand)(t:TypeId)
  (ho:o.op=.call { callee:=.builtin .append,args:=#[s,x],argTypes:=#[t,t] })
  (base:Nat) (e:TypeId) (i:TypeInfo) (z:b9) (size bytes:Nat) (ht:P.underlying t=a7 (.slice e)) (hi:P.info? e=a7 i) (hz:i.zero=a7 z)
  (hsize:i.size=size) (hby:i.bytes=bytes) (hzs:z.cells.size=size) (hsz:0<size)
  (v:b9) (n:Nat) (xs:List b9) (hs:a.eval s=v) (hown:w.ownsRow base e size v n xs)
  (ad:b7) (m c:Nat) (news:List b9) (hx:a.eval x=.slice (a7 ad) m c) (hl:news.length=m*size) (hnews:∀j u,news[j]?=a7 u->w.cell? (ad.add j)=a7 u) (h1:∀u∈news,u.oneCell'=bn)
  (h63:n+m<=maxLen) (hbytes:(n+m)*bytes<=140737488355328) (hbase:base<=w.heap.size)
  (h:∀v' w',w'.ownsRow base e size v' (n+m) (xs++news)->w.grownBy w' v.ownBlock->w.drawn<=w'.drawn->wpList P ops Q rest (a.put o.dst v') w'):wpList P ops Q (o::rest) a w:=by
 refine wpList_plain hgd λK hK=>?_;obtain⟨v',w',hr,h2,h3,h4⟩:=run_append_own (P:=P) w base t o.type e i z size bytes ht hi hz hsize hby hzs hsz v n xs hown ad m c news hl hnews h1 h63 hbytes hbase;have hd:=Go.Ct.EM P (Builtin.append_ #[t,t] o.type #[v,.slice (a7 ad) m c]) w #[];rw[Sem.runT_fst,hr] at hd;unfold Oper.wp execOp;simp only[ho,resolve,invoke,builtin,Sem.run_bind,Sem.run_pure,Result.andThen_ok,AA,Ae,Ag,hs,hx,hr]
 exact hK _ _ (h v' w' h2 h3 hd)
def yN:=@World.cell?_alloc_at
def yP:=@bo
def yU:=@Below.heap_setCell
def yW:=@bq
def za:=@World.cell?_alloc_past
def zd:=@World.cell?_of_block
def zD:=@World.frozen?_alloc_at
def zF:=@World.ownsRow_nil
def zQ:=@World.frozen?_setCell
def An:=@World.frozen?_of_block
def Ar:=@Below.heap_alloc
def Ax:=@World.frozen?_alloc_past
def AR:=@World.size_alloc
def Bh:=@World.ownsRow_made
end Go.Sq

namespace Go.Sq
open Go.Proofs
open Go.RowKit
def ux:∀x:Fin 16,∀h:Fin 4,(bits BinOp.and IntKind.u8 ((x.val:Int) / 2 ^ h.val) 1==1)=x.val.testBit h.val:=by decide
def jA (x h:Nat)(w:a6)(hx:x<16)(hh:h<4):bD B1 100 #[.int .u8 x,bb bh h] w λe w'=>e=.returned (.bool (x.testBit h))/\w=w':=by
 go_enter Sq.func100,Tryz.ntmps100;go_wp2;go_ret;have:=ux ⟨x,hx⟩ ⟨h,hh⟩;refine⟨?_,rfl⟩;show b8 (.bool _)=_;rw[this]
def oY (x k:Nat):below x (k+1)=below x k++if x.testBit k then[(k:Int)] else[]:=by
 unfold below;rw[AY,AK,AZ];cases h:x.testBit k<;>simp[h]
def sB (x k:Nat):(below x k).length<=k:=by
 unfold below;rw[zy];exact yR (AF _ _) (by simp)
def Bv:(B1.info? 3).map (λi=>(i.zero,i.size,i.bytes))=a7 (a7 (bb bh 0),1,8):=by
 rw[Br];kernel_rfl
def gK (x:Nat)(w:a6)(hx:x<16):bD B1 76 #[.int .u8 x] w λe w' =>
  ∃v,e=.returned v/\w'.ownsRow w.heap.size 3 1 v (wl x).length ((wl x).map (bb bh))/\Gr w w':=by
 obtain⟨i0,hi,hz0,hz1,hz2⟩:=info_parts Bv;go_enter Sq.func76,Tryz.ntmps76;go_wp2;go_loopw [3,5] (λv i wr=>∃k:Nat,k<=4/\i=bb bh k/\wr.ownsRow w.heap.size 3 1 v (below x k).length ((below x k).map (bb bh))/\Gr w wr) (λ_ i _=>4-(bW i).toNat)
 case atStart=>exact⟨0,by omega,rfl,zF w _ _ _,Gr.refl w⟩
 case round =>
  obtain⟨k,hk,rfl,hown,hgr⟩:=hrel;have hle:=sB x k;have hs:=oY x k;by_cases hlt:k<4
  .have hw:=hgr.size;cases hb:x.testBit k with
   |true =>
    have HS:Hid (below x (k+1)=below x k++[(k:Int)]):=by rw[hs,hb];rfl
    have hc:bD B1 100 #[.int .u8 x,bb bh k] wr λe w'=>e=.returned (.bool bn)/\wr=w':=by rw[<-hb];exact jA x k wr hx hlt
    go_wp2_with (first|(go_at_call 100;refine hc.mono ?_;rintro e w' ⟨rfl,rfl⟩)|(at_builtin;refine CE rfl _ _ 22 rfl w.heap.size 3 i0 (bb bh 0) 1 8 Sq.underlying22 hi hz0 hz1 hz2 rfl (by decide) _ _ _ rfl (hown.alloc _) ⟨wr.heap.size,0,bc⟩ 1 1 [bb bh k] rfl rfl ?c1 ?c2 ?c3 ?c4 ?c5 ?_))
    case c1 =>
     intro j u hj
     match j,hj with
     |0,hj=>simp at hj;subst hj;simp[Addr.add]
    case c2=>intro u hu;simp at hu;subst hu;rfl
    case c3=>unfold maxLen;omega
    case c4=>omega
    case c5=>simp;omega
    intro v' w1 hown' hgrow hd;have R:w1.ownsRow w.heap.size 3 1 v' (below x (k+1)).length ((below x (k+1)).map (bb bh))/\Gr w w1 :=
     ⟨by rw[HS.out];simpa using hown',(hgr.alloc _).grown hgrow hd λj hj=>(hown.lt j hj).1⟩
    go_wp2;go_roundw
    case rel=>exact⟨k+1,by omega,by go_num,R.1,R.2⟩
    case measure=>simp[Proofs.intOf];omega
   |false =>
    have HS:=yJ (show below x (k+1)=below x k by rw[hs,hb];simp);have hc:bD B1 100 #[.int .u8 x,bb bh k] wr λe w'=>e=.returned (.bool bA)/\wr=w':=by rw[<-hb];exact jA x k wr hx hlt
    go_wp2_with (go_at_call 100;refine hc.mono ?_;rintro e w' ⟨rfl,rfl⟩);go_roundw
    case rel=>exact⟨k+1,by omega,by go_num,by rw[HS.out];exact hown,hgr⟩
    case measure=>simp[Proofs.intOf];omega
  .have:k=4:=by omega
   subst this;go_wp2;go_ret;exact⟨_,rfl,hown,hgr⟩
def kv (x:Int)(w:a6):bD B1 133 #[bb bh x] w λe w'=>e=.returned (.bool bA)/\w=w':=by
 go_enter Sq.func133,Tryz.ntmps133;go_wp2;go_ret;simp
def oZ (a b:Int)(w:a6):bD B1 97 #[bb bh a,bb bh b] w λe w'=>e=.returned (bb bh (dL a b))/\w=w':=by
 by_cases h1:a<b
 .have HS:=yJ (show dL a b=-1 by simp[dL,h1]);go_enter Sq.func97,eA;go_wp2_with (go_at_call 133;refine(kv _ _).mono ?_;rintro e w' ⟨rfl,rfl⟩);go_ret;exact⟨am HS.out.symm,rfl⟩
 .by_cases h2:b<a
  .have HS:=yJ (show dL a b=1 by simp[dL,h1,h2]);go_enter Sq.func97,eA;go_wp2_with (go_at_call 133;refine(kv _ _).mono ?_;rintro e w' ⟨rfl,rfl⟩);go_ret;exact⟨am HS.out.symm,rfl⟩
  .have HS:=yJ (show dL a b=0 by simp[dL,h1,h2]);go_enter Sq.func97,eA;go_wp2_with (go_at_call 133;refine(kv _ _).mono ?_;rintro e w' ⟨rfl,rfl⟩);go_ret;exact⟨am HS.out.symm,rfl⟩
def afu (l:List Int)(x:Int)(e:Ending):Prop:=∃j:Int,e=.returned (bb bh j)/\decide (0<=j)=decide (x∈l)
def uy (A:Option b7)(c:Nat)(l:List Int)(x:Int)(w:a6)(B:Nat)(h:RI w B A l)(hl:l.length<=4611686018427387904) :
  bD B1 89 #[bk A l.length c,bb bh x] w λe w'=>afu l x e/\w=w':=by
 have HR:=yJ h;clear h;go_enter Sq.func89,Tryz.ntmps89;go_wp2;go_loop [8] (λi=>∃k:Nat,k<=l.length/\i=bb bh k/\x ∉ l.take k) (λi=>l.length-(bW i).toNat)
 case atStart=>exact⟨0,by omega,rfl,by simp⟩
 case round =>
  obtain⟨k,hk,rfl,hn⟩:=hrel;by_cases hlt:k<l.length
  .obtain⟨b,o,rfl,hb,hc⟩:=HR.out.at_ hlt;have HT:=yJ (bt 0 l k hlt);have hm:=EK l k hlt;have HN:=yJ hn;clear hn;generalize l[k]?.getD 0=y at hc HT hm;by_cases hy:x=y
   .have hb2:((x:Int)==y)=true:=by simpa using hy
    clear hy;go_wp2;go_ret;refine⟨⟨k,rfl,?_⟩,rfl⟩;have:x∈l:=by rw[show x=y by simpa using hb2];exact hm
    simp[this]
   .have hb2:((x:Int)==y)=false:=by simpa using hy
    go_wp2;go_round
    case rel=>exact⟨k+1,by omega,by go_num,by rw[HT.out];simp[HN.out,hy]⟩
    case measure=>simp[Proofs.intOf];omega
  .have:k=l.length:=by omega
   have HN:=yJ hn;clear hn;go_wp2;go_ret;refine⟨⟨-1,rfl,?_⟩,rfl⟩;have h2:=HN.out;rw[zi (by omega)] at h2;simp[h2]
def jB (A:Option b7)(c:Nat)(l:List Int)(x:Int)(w:a6)(B:Nat)(h:RI w B A l)(hl:l.length<=4611686018427387904) :
  bD B1 58 #[bk A l.length c,bb bh x] w λe w'=>e=.returned (.bool (decide (x∈l)))/\w=w':=by
 have HR:=yJ h;go_enter Sq.func58,Tryz.ntmps58;go_wp2_with fail;refine(uy A c l x w B HR.out hl).mono ?_;rintro e w' ⟨⟨j,rfl,hj⟩,rfl⟩;have HJ:=yJ hj;go_wp2;go_ret;refine⟨?_,rfl⟩;have:=HJ.out;show b8 (.bool _)=_;rw[<-this]
def kT (A A':Option b7)(c c':Nat)(l m:List Int)(w:a6)(B:Nat)(h:RI w B A l)(h':RI w B A' m)(hl:l.length<=4611686018427387904)(hm:m.length<=4611686018427387904) :
  bD B1 67 #[bk A l.length c,bk A' m.length c'] w λe w'=>e=.returned (bb bh (Hc l m))/\w=w':=by
 have HR:=yJ h;have HR':=yJ h';clear h h';go_enter Sq.func67,Tryz.ntmps67;go_wp2;go_loop [11] (λi=>∃k:Nat,k<=l.length/\k<=m.length/\i=bb bh k/\Hc l m=Hc (l.drop k) (m.drop k)) (λi=>l.length-(bW i).toNat)
 case atStart=>exact⟨0,by omega,by omega,rfl,rfl⟩
 case round =>
  obtain⟨k,hk,E5,rfl,hcm⟩:=hrel;have HC:=yJ hcm;clear hcm;by_cases hlt:k<l.length
  .obtain⟨b,o,rfl,hb,hc⟩:=HR.out.at_ hlt;by_cases Q2:k<m.length
   .obtain⟨b',o',rfl,hb',hc'⟩:=HR'.out.at_ Q2;have HD:=yJ (qy l m k hlt Q2);generalize l[k]?.getD 0=x at hc HD;generalize m[k]?.getD 0=y at hc' HD;by_cases h1:x<y
    .have HS:=yJ (show dL x y=-1 by simp[dL,h1]);have hcc:bD B1 97 #[bb bh x,bb bh y] w λe w'=>e=.returned (bb bh (-1))/\w=w':=by rw[<-HS.out];exact oZ x y w
     go_wp2_with (go_at_call 97;refine hcc.mono ?_;rintro e w' ⟨rfl,rfl⟩);go_ret;exact⟨am (by rw[HC.out,HD.out,if_pos h1]),rfl⟩
    .by_cases h2:y<x
     .have HS:=yJ (show dL x y=1 by simp[dL,h1,h2]);have hcc:bD B1 97 #[bb bh x,bb bh y] w λe w'=>e=.returned (bb bh 1)/\w=w':=by rw[<-HS.out];exact oZ x y w
      go_wp2_with (go_at_call 97;refine hcc.mono ?_;rintro e w' ⟨rfl,rfl⟩);go_ret;exact⟨am (by rw[HC.out,HD.out,if_neg (by omega),if_pos h2]),rfl⟩
     .have HS:=yJ (show dL x y=0 by simp[dL,h1,h2]);have hcc:bD B1 97 #[bb bh x,bb bh y] w λe w'=>e=.returned (bb bh 0)/\w=w':=by rw[<-HS.out];exact oZ x y w
      go_wp2_with (go_at_call 97;refine hcc.mono ?_;rintro e w' ⟨rfl,rfl⟩);go_round
      case rel=>exact⟨k+1,by omega,by omega,by go_num,by rw[HC.out,HD.out,if_neg (by omega),if_neg (by omega)]⟩
      case measure=>simp[Proofs.intOf];omega
   .have:k=m.length:=by omega
    have HS:=yJ (show Hc l m=1 by rw[HC.out,b5 (l:=m) (by omega)];exact qx _ (by simp;omega));clear this;go_wp2;go_ret;exact⟨am HS.out.symm,rfl⟩
  .have FA:k=l.length:=by omega
   by_cases Q2:l.length<m.length
   .have HS:=yJ (show Hc l m=-1 by rw[HC.out,b5 (l:=l) (by omega),lX,if_neg (by simp;omega)]);go_wp2;go_ret;exact⟨am HS.out.symm,rfl⟩
   .have HS:=yJ (show Hc l m=0 by rw[HC.out,b5 (l:=l) (by omega),lX,if_pos (by simp;omega)]);go_wp2;go_ret;exact⟨am HS.out.symm,rfl⟩
def ya (A:Option b7)(c:Nat)(l:List Int)(w:a6)(B:Nat)(h:RI w B A l)(hl:l.length<=1048576)(hx:∀x∈l,0<=x/\x<=1048576) :
  bD B1 52 #[bk A l.length c] w λe w'=>e=.returned (bb bh l.sum)/\w=w':=by
 have HR:=yJ h;have HX:=yJ hx;go_enter Sq.func52,Tryz.ntmps52;go_wp2;go_loop [3,8] (λs i=>∃k:Nat,k<=l.length/\i=bb bh k/\s=bb bh (l.take k).sum) (λ_ i=>l.length-(bW i).toNat)
 case atStart=>exact⟨0,by omega,rfl,by simp⟩
 case round =>
  obtain⟨k,hk,rfl,rfl⟩:=hrel;by_cases hlt:k<l.length
  .obtain⟨b,o,rfl,hb,hc⟩:=HR.out.at_ hlt;have HS:=yJ (jf l k hlt);have hy:=HX.out _ (EK l k hlt);obtain⟨hs1,hs2⟩:=FI 0 1048576 (l.take k) λy hy=>HX.out y (Aw hy);have hs3:((l.take k).length:Int)*1048576<=1048576*1048576:=by
    have:(l.take k).length<=1048576:=by rw[AQ];omega
    omega
   have hs4:0<=(l.take k).sum:=by omega
   have hs5:(l.take k).sum<=1099511627776:=by omega
   generalize l[k]?.getD 0=y at hc HS hy;obtain⟨hy1,hy2⟩:=hy;go_wp2;go_round
   case rel=>exact⟨k+1,by omega,by go_num,by rw[HS.out]⟩
   case measure=>simp[Proofs.intOf];omega
  .have:k=l.length:=by omega
   have HS:=yJ (show(l.take k).sum=l.sum by rw[zi (by omega)]);clear this;go_wp2;go_ret;exact⟨am HS.out,rfl⟩
def iF (x:Nat)(w:a6)(hx:x<16):bD B1 76 #[.int .u8 x] w λe w' =>
  ∃A c,e=.returned (bk A (wl x).length c)/\RI w' w'.heap.size A (wl x)/\Gr w w':=(gK x w hx).mono λe w' ⟨v,h1,h2,h3⟩=>by
 obtain⟨A,c,rfl,h4⟩:=Bp h2;exact⟨A,c,h1,h4,h3⟩
def qB (cb:Nat)(c:Cc)(x:Nat)(w:a6){nA hA:Option b7}{nc hc:Nat}(h:DW w w.heap.size cb c nA hA nc hc)(h4:c.B2.length<=4)(hd:∀h∈c.B2,1<=h.Dd/\h.Dd<=5)(hx:c.has x) :
  bD B1 77 #[.pointer (a7 ⟨cb,0,bc⟩),.int .u8 x] w λe w'=>e=.returned (bb bh (c.Dd x))/\Gr w w':=by
 have HP:=yJ h;have HD:=yJ hd;have HX:=yJ hx;have KV:=Bs h4 hx;go_enter Sq.func77,Tryz.ntmps77;go_wp2_with fail;refine(iF x w KV).mono ?_;rintro e w1 ⟨A,cc,rfl,Em,hgr⟩;have HR:=yJ Em;have HG:=yJ hgr;have G5:=yJ (HP.out.gr (yL _) hgr);have hl:=bF x;go_wp2;go_loop [5,11] (λs i=>∃k:Nat,k<=(wl x).length/\i=bb bh k/\s=bb bh ((c.JW x).take k).sum) (λ_ i=>(wl x).length-(bW i).toNat)
 case atStart=>exact⟨0,by omega,rfl,by simp⟩
 case round =>
  obtain⟨k,hk,rfl,rfl⟩:=hrel;by_cases hlt:k<(wl x).length
  .obtain⟨b,o,rfl,hb,hcell⟩:=HR.out.at_ hlt;obtain⟨n,hn,G6,LK,ZC⟩:=Kh HX.out hlt;rw[hn] at hcell;have hc0:=G5.out.c0;have hc1:=G5.out.c1;obtain⟨hb2,Ut,rfl,Ib,hh⟩:=G5.out.DI.at_ G6;obtain⟨-,afw,-,-⟩:=hh;have HS:=yJ ((jf (c.JW x) k (by rw[c.Ki];exact hlt)).trans (by rw[c.UL hlt hn]));obtain⟨hs1,hs2⟩:=O1 c HX.out HD.out k;obtain⟨O3,Mp⟩:=HD.out _ (c.Gw G6);have HN:=yJ hn
   go_wp2;go_round
   case rel=>exact⟨k+1,by omega,by go_num,by rw[HS.out]⟩
   case measure=>simp[Proofs.intOf];omega
  .have FA:k=(wl x).length:=by omega
   have HS:=yJ (show((c.JW x).take k).sum=c.Dd x by rw[zi (by rw[c.Ki];omega)];rfl);clear FA;go_wp2;go_ret;exact⟨am HS.out,HG.out⟩
def uo (cb br n night:Nat)(c:Cc)(w:a6){nA hA:Option b7}{nc hc:Nat}(h:DW w w.heap.size cb c nA hA nc hc)(hn:n<c.B2.length)(ho:(c.h n).off.length<=5)(We:n<4) :
  bD B1 73 #[.pointer (a7 ⟨cb,0,bc⟩),.pointer (a7 ⟨br,0,bc⟩),bb bh night,bb bh n] w λe w'=>e=.returned (.bool (aaI c night n))/\w=w':=by
 have hc1:=h.c1;obtain⟨b,o,rfl,hlt,hh⟩:=h.DI.at_ hn;obtain⟨-,-,-,A,cc,Fv,Em⟩:=hh;have HC:=yJ (jB A cc (c.h n).off night w w.heap.size Em (by omega));go_enter Sq.func73,Tryz.ntmps73;go_wp2_with fail;refine HC.out.mono ?_;rintro e w' ⟨rfl,rfl⟩;go_wp2;go_ret;exact⟨rfl,rfl⟩
def oa (cb br n night:Nat)(r:Nat->Nat)(w:a6)(hr:E8 w w.heap.size br r)(hn:n<4)(hi:night<5)(hx:r (night-1)<16) :
  bD B1 74 #[.pointer (a7 ⟨cb,0,bc⟩),.pointer (a7 ⟨br,0,bc⟩),bb bh night,bb bh n] w λe w'=>e=.returned (.bool (fM r night n))/\w=w':=by
 rcases zp night with h0|h0
 .have HS:=yJ (show fM r night n=bA by simp[fM,h0]);subst h0;go_enter Sq.func74,lu;go_wp2;go_ret;exact⟨ap HS.out.symm,rfl⟩
 .obtain⟨m,rfl⟩:∃m,night=m+1:=⟨night-1,by omega⟩;have HS:=yJ (show fM r (m+1) n=(r m).testBit n by simp[fM]);have hc:=hr.2 m (by omega);rw[show m+1-1=m by omega] at hx;have HC:=yJ (jA (r m) n w hx hn);go_enter Sq.func74,lu;go_wp2_with fail;refine HC.out.mono ?_;rintro e w' ⟨rfl,rfl⟩;go_wp2;go_ret;exact⟨ap HS.out.symm,rfl⟩
def od (cb br n night:Nat)(c:Cc)(r:Nat->Nat)(w:a6){nA hA:Option b7}{nc hc:Nat}(h:DW w w.heap.size cb c nA hA nc hc)(hr:E8 w w.heap.size br r)(hn:n<c.B2.length)(We:n<4)(hi:night<5)(hx:∀i,r i<16) :
  bD B1 75 #[.pointer (a7 ⟨cb,0,bc⟩),.pointer (a7 ⟨br,0,bc⟩),bb bh night,bb bh n] w λe w'=>e=.returned (.bool (qA c r night n))/\w=w':=by
 have HR:=yJ hr;have HX:=yJ hx;have hc1:=h.c1;obtain⟨b,o,rfl,hlt,hh⟩:=h.DI.at_ hn;obtain⟨-,-,Mq,-⟩:=hh;go_enter Sq.func75,Tryz.ntmps75;go_wp2;go_loop [9,12] (λs i=>∃k:Nat,k<=night/\i=bb bh k/\s=bb bh (EY r n k)) (λ_ i=>night-(bW i).toNat)
 case atStart=>exact⟨0,by omega,rfl,rfl⟩
 case round =>
  obtain⟨k,hk,rfl,rfl⟩:=hrel;have hle:=qz r n k;by_cases hlt:k<night
  .have hc:=HR.out.2 k (by omega);have KV:=HX.out k;cases hb:(r k).testBit n with
   |true =>
    have HC:Hid (bD B1 100 #[.int .u8 (r k),bb bh n] w λe w'=>e=.returned (.bool bn)/\w=w'):=yJ (by rw[<-hb];exact jA (r k) n w KV We);have HS:=yJ (show EY r n (k+1)=EY r n k+1 by simp[EY,hb]);go_wp2_with (go_at_call 100;refine HC.out.mono ?_;rintro e w' ⟨rfl,rfl⟩);go_round
    case rel=>exact⟨k+1,by omega,by go_num,by rw[HS.out];go_num⟩
    case measure=>simp[Proofs.intOf];omega
   |false =>
    have HC:Hid (bD B1 100 #[.int .u8 (r k),bb bh n] w λe w'=>e=.returned (.bool bA)/\w=w'):=yJ (by rw[<-hb];exact jA (r k) n w KV We);have HS:=yJ (show EY r n (k+1)=EY r n k by simp[EY,hb]);go_wp2_with (go_at_call 100;refine HC.out.mono ?_;rintro e w' ⟨rfl,rfl⟩);go_round
    case rel=>exact⟨k+1,by omega,by go_num,by rw[HS.out]⟩
    case measure=>simp[Proofs.intOf];omega
  .have FA:k=night:=by omega
   subst FA;go_wp2;go_ret;exact⟨rfl,rfl⟩
end Go.Sq
