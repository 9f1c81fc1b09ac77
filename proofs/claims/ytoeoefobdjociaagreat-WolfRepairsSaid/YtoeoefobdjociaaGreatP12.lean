/- Parts of the proof. -/
import Derived.Test.YtoeoefobdjociaaGreatP11
import Derived.Shelf.SlSortCmp.Whole1
import Derived.Shelf.Sort.Plain
import Derived.Test.YtoeoefobdjociaaGreatRows
import Derived.Conc.HoldsTime
import Derived.ClosedOfChecked
import Derived.Deep.AppendLies
import Derived.Lib.Hide
import Derived.Laws.EntriesVeiled
set_option linter.all false
set_option maxHeartbeats 4000000
set_option maxRecDepth 1000000
open Go renaming World->Z,Goroutine->M,FuncId->V,Calls->q,Addr->bh,Value->bn,joinedFacts->ea
open Option renaming some->Y,none->I
open Go.Value renaming pointer->J,int->U,slice->N
open Go.IntKind renaming i64->F
open Bool renaming true->E,false->L
open Go.World renaming cell?_setCell_other->O,cell?_setCell_same->D
open Go.Proofs renaming intOf->ak
open List renaming drop_of_length_le->bb
open Go.Proofs.Tryz renaming prog->bc,underlying128->bo,underlying164->bq,underlying165->bs,underlying169->bw,underlying200->bA,underlying203->bD,underlying222->bW,underlying223->b5,zeroValue128->b6,zeroValue164->b7,zeroValue165->b8,zeroValue169->b9,underlying93->cf,underlying60->ck,zeroValue200->cq,zeroValue203->cr,zeroValue222->cu,zeroValue223->cw,ntmps87->cE,underlying0->cL,underlying3->cU,underlying4->df,underlying5->dn,underlying9->dr,zeroValue93->dy,zeroValue60->dS,zeroValue0->eb,zeroValue3->ed,zeroValue4->ek,zeroValue5->eo,zeroValue9->er,func3->ez,sizeOf128->eA,sizeOf164->eC,sizeOf165->eF,sizeOf169->eG,sizeOf200->eV,sizeOf203->fc,sizeOf222->fq,sizeOf223->fu,isAgg128->fx,isAgg164->gg,isAgg165->gB,isAgg169->gL,sizeOf93->gR,sizeOf60->gU,isAgg200->hP,isAgg203->hZ,isAgg222->h9,isAgg223->ik,ntmps112->iv,func153->js,sizeOf0->jx,sizeOf3->j0,sizeOf4->j1,sizeOf5->j2,sizeOf9->j3,isAgg93->kn,isAgg60->kp,func89->kq,func92->kt,func93->kx,func85->k0,func86->k5,isAgg0->k6,isAgg3->k7,isAgg4->k8,isAgg5->k9,isAgg9->lh
open Go.Ending renaming returned->bk
open Go.Conc renaming G->cF
namespace Go.Sq
open Go.Proofs
open Go.RowKit Go.Eu Go.Co Go.Conc
noncomputable abbrev T8:List Item:=[.inBlock 1,.code (.region 9 o9 L),.inLoop eL,.inBlock 0,.code (.region 10 J0 L)]
noncomputable abbrev wj (p1:bn)(b2 b3 b4 cb sb n c:Nat)(i:Nat)(v5 v6 v7 v8 v9 v10 v14 v15 v16 v17 v18 v19 v20 v21 v22 v23 v24 v25 v26:bn):Frame :=
 (base 53).at ⟨#[.pointer (Y ⟨cb,0,I⟩),p1,.pointer (Y ⟨b2,0,I⟩),.pointer (Y ⟨b3,0,I⟩),.pointer (Y ⟨b4,0,I⟩),v5,v6,v7,v8,v9,v10,.slice (Y ⟨sb,0,I⟩) n c,U F n,U F i,v14,v15,v16,v17,v18,v19,v20,v21,v22,v23,v24,v25,v26],[]⟩ [.code eL,.inLoop eL,.inBlock 0,.code (.region 10 J0 L)]
section
variable {P:ED} {SB BB:V->Bool} {zZ:Bool} {Gn ty Wg:Nat} {zN:Nat->Prop} {Ψ0 Ψ2:Z->Prop} {fA fW:V} {wl:Nat} {Pr:Em} {T:List Frame} {Fn:Bool->Hid->M->Z->Prop}
def t8 :
  ∀k {tp:Bool} {H:Hid} {g:M} {w:Z},J1 P SB BB zZ Gn ty Wg zN Ψ0 Ψ2 fA fW wl Pr T Fn k tp H g w->J1 P SB BB zZ Gn ty Wg zN Ψ0 Ψ2 fA fW wl Pr T Fn (k+1) tp H g w:=by
 intro k
 induction k with
 |zero=>intro tp H g w h;exact .inl h
 |succ k ih =>
  rintro tp H g w (h|⟨fr,cs,h1,h2,h3⟩)
  .exact .inl h
  .refine .inr ⟨fr,cs,h1,h2,h3.mono (λ_ _ x=>x) λg w hq x G W e1 e2 e3 e4 e5 e6 e7 e8 e9 a6 e11=>?_⟩;obtain⟨G',child,x',xk,Mw,o,OW,Q,q1,q2,q3,q4,q5,q6,q7⟩:=hq x G W e1 e2 e3 e4 e5 e6 e7 e8 e9 a6 e11;exact⟨G',child,x',xk,Mw,o,OW,Q,q1,q2,q3,q4,q5.mono (λ_ _ x=>x) (λ_ _ x=>ih x),q6,q7⟩
def rI {S:Bool->Hid->M->Z->Prop}{tp:Bool}{H:Hid}(g:M)(w W:Z)(s:Et w W)(hq:AtGo P SB BB zZ Gn ty Wg zN Ψ0 Ψ2 Pr T S tp H g w):AtGo P SB BB zZ Gn ty Wg zN Ψ0 Ψ2 Pr T S tp H g W:=λx G W' e1 e2=>hq x G W' e1 (s.trans e2)
def du (hF:∀tp H g w W,Et w W->Fn tp H g w->Fn tp H g W):∀k {tp:Bool} {H:Hid} (g:M) (w W:Z),Et w W->J1 P SB BB zZ Gn ty Wg zN Ψ0 Ψ2 fA fW wl Pr T Fn k tp H g w->J1 P SB BB zZ Gn ty Wg zN Ψ0 Ψ2 fA fW wl Pr T Fn k tp H g W:=by
 have hW:∀ {tp:Bool} {H:Hid} {g:M} {w W:Z},Et w W->im P fW wl Fn tp H g w->im P fW wl Fn tp H g W:=λhs ⟨fr,cs,h1,h2,h3⟩=>⟨fr,cs,h1,h2,hF _ _ _ _ _ hs h3⟩;intro k;cases k with
 |zero=>exact λg w W hs h=>hW hs h
 |succ k =>
  rintro tp H g w W hs (h|⟨fr,cs,h1,h2,h3⟩)
  .exact .inl (hW hs h)
  .exact .inr ⟨fr,cs,h1,h2,h3.same (λ_ _ _ _ x=>x) (λg w W s hq x G W' e1 e2=>hq x G W' e1 (s.trans e2)) hs⟩
end
structure Head (SB:V->Bool)(H:Hid)(Gn:Nat)(Kb:Nat->Prop)(Ok:Z->Prop)(K:Nat->Prop)(w:Z):Prop where
 sub:∀b,Kb b->K b
 base:∀b,K b->H b=L->Ro w b/\∃o,w.heap[b]?=Y o/\EW (SP SB H) (CK bc SB E) (EK K) o o
 hid:∀b,K b->H b=E->w.heap[b]?=Y (.coro I)
 lo:∀b,K b->Gn<=b
 lt:∀b,K b->b<w.heap.size
 old:∀b,H b=E->b<w.heap.size
 room:Gn<=w.heap.size
 ok:Ok w
def fh (Kb:Nat->Prop)(Ok:Z->Prop):Prop:=∀w w':Z,(∀b,Kb b->w'.heap[b]?=w.heap[b]?)->w'.os=w.os->Ok w->Ok w'
section
variable {SB:V->Bool} {H:Hid} {Gn:Nat} {Kb:Nat->Prop} {Ok:Z->Prop} {K:Nat->Prop} {w w':Z}
def Head.ext (h:Head SB H Gn Kb Ok K w)(hO:fh Kb Ok)(e:Ext w w'):Head SB H Gn Kb Ok K w':=by
 have same:∀b,K b->w'.heap[b]?=w.heap[b]?:=λb hb=>e.2.1 b (h.lt b hb);refine⟨h.sub,λb hb hh=>?_,λb hb hh=>(same b hb).trans (h.hid b hb hh),h.lo,λb hb=>AC (h.lt b hb) e.1,λb hb=>AC (h.old b hb) e.1,AH h.room e.1,hO w w' (λb hb=>same b (h.sub b hb)) e.2.2 h.ok⟩;obtain⟨⟨c,t,f,q1,q2⟩,o,q3,q4⟩:=h.base b hb hh;exact⟨⟨c,t,f,(same b hb).trans q1,q2⟩,o,(same b hb).trans q3,q4⟩
def Head.more (h:Head SB H Gn Kb Ok K w)(hO:fh Kb Ok){r:Nat}(hr:¬K r)(hH:H r=L)(hG:Gn<=r){l:List bn}{t:TypeId}{f:Nat×Nat}(hc:w.heap[r]?=Y (.cells l.toArray t f))(hl:∀v∈l,E7 SB H (λ_=>False) v) :
  Head SB H Gn Kb Ok (λb=>K b\/b=r) (froze w r):=by
 have ne:∀b,K b->b≠r:=λb hb e=>hr (e▸hb);have same:∀b,K b->(froze w r).heap[b]?=w.heap[b]?:=λb hb=>fg w (ne b hb);refine⟨λb hb=>.inl (h.sub b hb),λb hb hh=>?_,λb hb hh=>?_,λb hb=>?_,λb hb=>?_,λb hb=>by rw[cY];exact h.old b hb,by rw[cY];exact h.room,hO w _ (λb hb=>same b (h.sub b hb)) (gu w r) h.ok⟩
 .obtain hb|rfl:=hb
  .obtain⟨⟨c,t,f,q1,q2⟩,o,q3,q4⟩:=h.base b hb hh;exact⟨⟨c,t,f,(same b hb).trans q1,q2⟩,o,(same b hb).trans q3,q4.mono λx y a6=>⟨.inl a6.1,a6.2⟩⟩
  .exact⟨⟨_,_,_,dt hc,λi hi=>⟨AU _,hi⟩⟩,_,dt hc,.cells (Fc λv hv=>(hl v hv).mono λ_=>False.elim) λi h1 h2=>⟨h1,h2⟩⟩
 .obtain hb|rfl:=hb
  .exact(same b hb).trans (h.hid b hb hh)
  .rw[hH] at hh;cases hh
 .obtain hb|rfl:=hb
  .exact h.lo b hb
  .exact hG
 .rw[cY];obtain hb|rfl:=hb
  .exact h.lt b hb
  .exact(Az.1 hc).1
end
noncomputable abbrev PP:ED:=ED.of bc
noncomputable abbrev PQ:ED:=⟨DU,Tryz.prog.funcs⟩
noncomputable abbrev As:Code:=Tryz.f89.body.getD .skip
abbrev first (x:Int):Obj:=.cells #[.int .u8 x,.int .u8 0,.int .u8 0,.int .u8 0,.int .u8 0] 72
abbrev bN (b2 b3 b4 r:Nat):Array Value:=#[.pointer (Y ⟨b4,0,I⟩),.pointer (Y ⟨b2,0,I⟩),.pointer (Y ⟨r,0,I⟩),.pointer (Y ⟨b3,0,I⟩)]
structure Ns (SB BB:V->Bool)(H:Hid)(Gn Wg:Nat)(zN:Nat->Prop)(Ψ0:Z->Prop)(Pr:Em)(T:List Frame)(Kb:Nat->Prop)(Ok:Z->Prop)(b2 b3 b4:Nat)(x1:Int)(tp:Bool)(K:Nat->Prop)(a:Act)(r:Nat)(x:Lone)(X:M)(W:Z):Prop where
 op:K9 PP SB BB E x X (base 53) a o8 1 T8 89 (bN b2 b3 b4 r) 24 Tryz.f89 As
 gl:Fp PP SB BB E x X
 wl:Gy PP SB E Gn x W
 h:x.H=H
 t:x.T=T
 pr:Pr.le x.β
 G6:tp=E->Ψ0 W
 I3:∀b B,x.β b B->zN B->x.H b=E
 wg:∀b,x.β b Wg->x.H b=E
 tw:x.H.EZ=L
 head:Head SB H Gn Kb Ok K x.w
 rb:x.w.heap[r]?=Y (first x1)
 rK:¬K r/\H r=L/\Gn<=r
 cut:Lr bc SB E H H (λb=>K b\/b=r) (cF ((base 53).at a (.inRegion o8 []::T8)) [bad]) x.w (froze x.w r)
structure Ctx (SB EB BB:V->Bool)(H:Hid)(Gn Wg:Nat)(zN:Nat->Prop)(Ψ0 Ψ2:Z->Prop)(Pr:Em)(T:List Frame)(Fn:Bool->Hid->M->Z->Prop)(Kb Kc:Nat->Prop)(Ok:Z->Prop)(b2 b3 b4 cb sb n c:Nat)(p1:bn)(sets kind:Nat->Int)(FO:Nat->Bool):Prop where
 hB:BB 53=E
 Ql:SB 53=E
 Qm:SB 89=E
 L0:Mt PQ EB EB BB Gn
 b0:∀f,EB f=E->BB f=E
 Qn:EB 79=E
 todo:∀K,E5 (F5 bc SB H E E (EK K)) (.inRegion o8 []::T8) (.inRegion o8 []::T8)
 EZ:H.EZ=L
 bl:H.bl=E
 only:fh Kb Ok
 Nt:∀w,Ok w->w.cell? ⟨b2,0,I⟩=Y (.pointer (Y ⟨cb,0,I⟩))
 Kr:∀w i,Ok w->i<n->w.cell? ⟨sb,i,I⟩=Y (.int .u8 (sets i))
 F4:∀w b,Ok w->Kc b->Kb b/\∃o,w.heap[b]?=Y o/\EW (SP EB Dj) (CK DU EB L) (EK Kc) o o
 cK:Kc cb
 kb:Kb b2/\Kb b3/\Kb b4/\Kb cb/\Kb sb
 Iq:E7 SB H Kb p1
 wrap:∀i,i<n->IntKind.i64.wrap ((i:Int)+1)=((i+1:Nat):Int)
 Ks:∀w i,Ok w->i<n->∀τ d,q DU 79 #[.pointer (Y ⟨cb,0,I⟩),.pointer (Y ⟨w.heap.size,0,I⟩),U F 0] (on (w.alloc (first (sets i))) τ d) (λe w'=>∃v,e=.returned v/\((∃y1 y2,v=.agg #[U F (kind i),U F y1,U F y2])/\Ext (w.alloc (first (sets i))) w'))
 QO:∀i,i<n->kind i≠0->FO (i+1)=FO i
 fin:∀(a:Act) (w:Z),a.defers=[]->Ok w->Fn (FO n) H (cF (((base 53).at a [.inRegion J0 [0]]).finish (.tuple #[])) [bad]) w
 LL:∀tp H g w W,Et w W->Fn tp H g w->Fn tp H g W
 go:∀i,i<n->kind i=0->∀(K:Nat->Prop) (a:Act) (r:Nat) (x:Lone) (X:M) (W:Z),Ns SB BB H Gn Wg zN Ψ0 Pr T Kb Ok b2 b3 b4 (sets i) (FO i) K a r x X W ->
  ∃(X' child:M) (xk:Lone) (o:Bool) (Pk:Em) (Q:M->Z->Prop),stepG bc E X W=.spawn X' child W #[] /\
   Split PP SB BB E Gn Wg zN x X' child W (FO i) (FO (i+1)) o ⟨cF ((base 53).at a (.inRegion o8 []::T8)) [bad],froze x.w r,H,cut (λb=>K b\/b=r) x.β,T⟩ xk Pk /\
   cQ PP SB BB E Gn 149 Wg Ψ2 Q xk.H xk.T Pk o/\(∀g w,Q g w->BB g.frame.fn=L)/\EO bc BB Q 0 xk.g xk.w
def gv (w:Z)(x:Int):(w.alloc (first x)).heap[w.heap.size]?=Y (first x):=by rw[aG,AF rfl]
section
variable {SB EB BB:V->Bool} {H:Hid} {Gn Wg:Nat} {zN:Nat->Prop} {Ψ0 Ψ2:Z->Prop} {Pr:Em} {T:List Frame} {Fn:Bool->Hid->M->Z->Prop} {Kb Kc:Nat->Prop} {Ok:Z->Prop} {b2 b3 b4 cb sb n c:Nat} {p1:bn} {sets kind:Nat->Int} {FO:Nat->Bool}
def ua (C:Ctx SB EB BB H Gn Wg zN Ψ0 Ψ2 Pr T Fn Kb Kc Ok b2 b3 b4 cb sb n c p1 sets kind FO)(aJ:∀b B,Pr b B->Kb b):∀(m i:Nat),i+m=n->∀(K:Nat->Prop) (w:Z),Head SB H Gn Kb Ok K w ->
  ∀(v5 v6 v7 v8 v9 v10 v14 v15 v16 v17 v18 v19 v20 v21 v22 v23 v24 v25 v26:bn),(∀v∈[v5,v8,v9,v10,v20,v21,v22,v23,v24,v25,v26],E7 SB H K v) ->
  Ee bc (Fa bc BB) (J1 PP SB BB E Gn 149 Wg zN Ψ0 Ψ2 88 91 b4 Pr T Fn m (FO i) H) (cF (wj p1 b2 b3 b4 cb sb n c i v5 v6 v7 v8 v9 v10 v14 v15 v16 v17 v18 v19 v20 v21 v22 v23 v24 v25 v26) [bad]) w:=by
 intro m
 induction m with
 |zero =>
  intro i hi K w hd v5 v6 v7 v8 v9 v10 v14 v15 v16 v17 v18 v19 v20 v21 v22 v23 v24 v25 v26 hJ;obtain rfl:i=n:=by omega
  refine xY (cb:=0) C.hB (du C.LL _) (by simp) (C7 _) (.fin ?_);exact⟨_,_,rfl,⟨rfl,rfl,_,_,_,_,rfl⟩,C.fin _ _ rfl hd.ok⟩
 |succ m ih =>
  intro i hi K w hd v5 v6 v7 v8 v9 v10 v14 v15 v16 v17 v18 v19 v20 v21 v22 v23 v24 v25 v26 hJ;have a7:i<n:=by omega
  have l2:b2<w.heap.size:=hd.lt _ (hd.sub _ C.kb.1);have aC:H w.heap.size=false:=by
   cases e:H w.heap.size with
   |false=>rfl
   |true=>exact AI (hd.old _ e) (C7 _)
  refine xV C.hB (du C.LL _) (by simp) a7 (C.Nt w hd.ok) (C.Kr w i hd.ok a7) l2 ?_;refine C.L0.fn C.Qn C.Qn (K0:=λb=>Kc b\/b=w.heap.size) (by simp) (λb hb=>?_) (by rw[aL];exact CZ hd.room) (Fc λv hv=>?_) (λb hb=>?_) (du C.LL _) (C.Ks w i hd.ok a7) ?_
  .obtain hb|rfl:=hb
   .exact hd.lo b (hd.sub b (C.F4 w b hd.ok hb).1)
   .exact hd.room
  .simp only[AJ,AG,or_false] at hv;obtain rfl|rfl|rfl:=hv
   .exact E7.ptr (.inl C.cK) _ _
   .exact E7.ptr (.inr rfl) _ _
   .exact DZ.int _ _
  .obtain hb|rfl:=hb
   .obtain⟨h1,o,h2,h3⟩:=C.F4 w b hd.ok hb;have zY:=hd.lt b (hd.sub b h1);exact⟨o,by rw[aG,AD (Dg zY)];exact h2,h3.mono λx y aD=>⟨.inl aD.1,aD.2⟩⟩
   .refine⟨_,gv w (sets i),.cells (Fc (l:=[.int .u8 (sets i),.int .u8 0,.int .u8 0,.int .u8 0,.int .u8 0]) λv hv=>?_) λj h1 h2=>⟨h1,h2⟩⟩;simp only[AJ,AG,or_false] at hv;rcases hv with rfl|rfl|rfl|rfl|rfl<;>exact DZ.int _ _
  .rintro v w2 ⟨⟨y1,y2,rfl⟩,hE⟩;have hE2:Ext w w2:=(Ext.alloc w _).trans hE;have aF:=hd.ext C.only hE2;have e20:(o6[1]?.bind (·.dst))=Y 20:=rfl;rw[Frame.finish_at,e20];have jk:∀y1 y2 k,E7 SB H K (.agg #[U F k,U F y1,U F y2]):=λy1 y2 k=>E7.agg (l:=[U F k,U F y1,U F y2]) λv hv=>by
    simp only[AJ,AG,or_false] at hv;rcases hv with rfl|rfl|rfl<;>exact DZ.int _ _
   by_cases hk:kind i=0
   .rw[hk];refine vY (cb:=0) (v20:=undef) C.hB (du C.LL _) (by simp) (.fin (.inr ⟨_,_,rfl,⟨rfl,rfl,_,_,_,_,rfl⟩,?_⟩));have aK:(o7[0]?.bind (·.dst))=Y 23:=rfl;unfold back;rw[Frame.finish_at,aK];refine xW (cb:=cb) (v24:=v24) (cs:=[bad]) C.hB rI (by simp) (.fin ?_);intro x X W ex hs eH eT aH gl wl h0 I3 wg tw;have aI:=aF.ext C.only (Ext.same hs);have aA:¬K w.heap.size:=λh=>C7 _ (hd.lt _ h)
    have a8:x.w.heap[w.heap.size]?=Y (first (sets i)):=by
     rw[hs.1,hE.2.1 _ (by rw[aL];exact Nat.lt_succ_self _)];exact gv w _
    have aB:∀v∈[U .u8 (sets i),.int .u8 0,.int .u8 0,.int .u8 0,.int .u8 0],∀K',E7 SB H K' v:=λv hv K'=>by
     simp only[AJ,AG,or_false] at hv;rcases hv with rfl|rfl|rfl|rfl|rfl<;>exact DZ.int _ _
    have hm:=aI.more C.only aA aC hd.room a8 λv hv=>aB v hv _;have kb2:=hd.sub _ C.kb.1;have kb3:=hd.sub _ C.kb.2.1;have kb4:=hd.sub _ C.kb.2.2.1;have Pq:=hd.sub _ C.kb.2.2.2.1;have Qo:=hd.sub _ C.kb.2.2.2.2;have a6:∀v,E7 SB H K v->E7 SB H (λb=>K b\/b=w.heap.size) v:=λv hv=>hv.mono λb hb=>.inl hb;have clo:E7 SB H (λb=>K b\/b=w.heap.size) (.func (.func 89) #[] #[.pointer (Y ⟨b4,0,I⟩),.pointer (Y ⟨b2,0,I⟩),.pointer (Y ⟨w.heap.size,0,I⟩),.pointer (Y ⟨b3,0,I⟩)]):=E7.func C.Qm (l:=[.pointer (Y ⟨b4,0,I⟩),.pointer (Y ⟨b2,0,I⟩),.pointer (Y ⟨w.heap.size,0,I⟩),.pointer (Y ⟨b3,0,I⟩)]) λv hv=>by
     simp only[AJ,AG,or_false] at hv;obtain rfl|rfl|rfl|rfl:=hv
     .exact E7.ptr (.inl kb4) _ _
     .exact E7.ptr (.inl kb2) _ _
     .exact E7.ptr (.inr rfl) _ _
     .exact E7.ptr (.inl kb3) _ _
    have aM:Ns SB BB H Gn Wg zN Ψ0 Pr T Kb Ok b2 b3 b4 (sets i) (FO i) K _ w.heap.size x X W:={
     op:=⟨ex,C.hB,⟨_,rfl,rfl,rfl,rfl⟩,by decide,rfl,⟨kq,kq,by kernel_rfl,rfl⟩,C.Qm⟩
     gl:=gl,wl:=wl,h:=eH,t:=eT,pr:=aH,G6:=h0,I3:=I3,wg:=wg,tw:=tw,head:=aI,rb:=a8,rK:=⟨aA,aC,hd.room⟩
     cut:=by
      refine⟨⟨rfl,Fc (l:=[_,_,_,_,_,_,_,_,_,_,_,_,_,_,_,_,_,_,_,_,_,_,_,_,_,_,_]) λv hv=>?_,C.todo _,.nil,.run,rfl,⟨(by show CallKind.normal≠.early;decide),C.Ql⟩,.none⟩,⟨[bad],.base⟩,λb hb hh=>⟨hh,?_⟩,λb hb hh=>⟨hm.hid b hb hh,.inl hh⟩,by rw[cY];exact AA _,hm.old,gu _ _,⟨C.EZ,C.EZ⟩,C.bl⟩
      .simp only[AJ,AG,or_false] at hv;obtain rfl|rfl|rfl|rfl|rfl|rfl|rfl|rfl|rfl|rfl|rfl|rfl|rfl|rfl|rfl|rfl|rfl|rfl|rfl|rfl|rfl|rfl|rfl|rfl|rfl|rfl|rfl:=hv
       .exact E7.ptr (.inl Pq) _ _
       .exact a6 _ (C.Iq.mono hd.sub)
       .exact E7.ptr (.inl kb2) _ _
       .exact E7.ptr (.inl kb3) _ _
       .exact E7.ptr (.inl kb4) _ _
       .exact a6 _ (hJ _ (by simp))
       .exact DZ.int _ _
       .exact E7.ptr (.inr rfl) _ _
       .exact a6 _ (hJ _ (by simp))
       .exact a6 _ (hJ _ (by simp))
       .exact a6 _ (hJ _ (by simp))
       .exact E7.slice (.inl Qo) _ _ _ _
       .exact DZ.int _ _
       .exact DZ.int _ _
       .exact DZ.bool _
       .exact E7.ptr (.inl Qo) _ _
       .exact DZ.int _ _
       .exact DZ.int _ _
       .exact E7.agg (l:=[.int .u8 (sets i),.int .u8 0,.int .u8 0,.int .u8 0,.int .u8 0]) λv hv=>aB v hv _
       .exact E7.ptr (.inl Pq) _ _
       .exact a6 _ (jk _ _ _)
       .exact DZ.int _ _
       .exact DZ.bool _
       .exact DZ.undef _ _
       .exact clo
       .exact a6 _ (hJ _ (by simp))
       .exact a6 _ (hJ _ (by simp))
      .obtain⟨_,o,h2,h3⟩:=hm.base b hb hh;refine⟨o,h2,h3,?_⟩;obtain hb|rfl:=hb
       .have zU:b≠w.heap.size:=λe=>aA (e▸hb);exact .inl (by rw[<-fg x.w zU];exact h2)
       .rw[dt a8] at h2;cases h2
        exact .inr ⟨_,_,_,_,a8,rfl,λi h1 h2=>⟨AU _,by simp at h1 h2⟩⟩ }
    obtain⟨X',child,xk,o,Pk,Q,g1,g2,g3,g4⟩:=C.go i a7 hk K _ _ x X W aM;refine⟨X',child,_,xk,_,o,Pk,Q,g1,g2,rfl,λb B h=>⟨.inl (hd.sub _ (aJ b B h)),aH b B h⟩,?_,g3,g4⟩;refine xX (cb:=cb) (v25:=v25) (cs:=[bad]) C.hB (du C.LL _) (by simp) (C.wrap i a7) ?_;refine ih (i+1) (by omega) _ _ hm _ _ _ _ _ _ _ _ _ _ _ _ _ _ _ _ _ _ _ λv hv=>?_;simp only[AJ,AG,or_false] at hv;obtain rfl|rfl|rfl|rfl|rfl|rfl|rfl|rfl|rfl|rfl|rfl:=hv
    .exact a6 _ (hJ _ (by simp))
    .exact a6 _ (hJ _ (by simp))
    .exact a6 _ (hJ _ (by simp))
    .exact a6 _ (hJ _ (by simp))
    .exact a6 _ (jk _ _ _)
    .exact DZ.int _ _
    .exact DZ.bool _
    .exact DZ.undef _ _
    .exact clo
    .exact DZ.int _ _
    .exact a6 _ (hJ _ (by simp))
   .refine(vW (cb:=0) (v20:=undef) C.hB (du C.LL _) (by simp) (C.wrap i a7) hk ?_).mono (λ_ _ h=>h) λ_ _ h=>t8 _ h;have:=ih (i+1) (by omega) K w2 aF v5 (.int .u8 (sets i)) (.pointer (Y ⟨w.heap.size,0,I⟩)) v8 v9 v10 (.bool E) (.pointer (Y ⟨sb,i,I⟩)) (.int .u8 (sets i)) (.int .u8 (sets i)) (.agg #[.int .u8 (sets i),.int .u8 0,.int .u8 0,.int .u8 0,.int .u8 0]) (.pointer (Y ⟨cb,0,I⟩))
     (.agg #[U F (kind i),U F y1,U F y2]) (U F (kind i)) (.bool E) v23 v24 (U F ((i+1:Nat):Int)) v26 (λv hv=>?_)
    .rw[C.QO i a7 hk] at this;exact this
    .simp only[AJ,AG,or_false] at hv;obtain rfl|rfl|rfl|rfl|rfl|rfl|rfl|rfl|rfl|rfl|rfl:=hv
     .exact hJ _ (by simp)
     .exact hJ _ (by simp)
     .exact hJ _ (by simp)
     .exact hJ _ (by simp)
     .exact jk _ _ _
     .exact DZ.int _ _
     .exact DZ.bool _
     .exact hJ _ (by simp)
     .exact hJ _ (by simp)
     .exact DZ.int _ _
     .exact hJ _ (by simp)
end
def Qq:List FuncId:=[3,6,8,7,10,29,3,3,3,3,3,25,26,27,58,30,67,17,13,15,18,84,21,23,24,46,56,60,41,32,33,34,35,36,37,38,39,40,47,48,49,50,79,68,69,64,93,76,85,86,70,71,72,73,74,75,77,78,80,87,111,112,113,114,94,95,110,98,99,100,101,102,103,104,105,106,107,108,109,117,136,137,138,139,153,140,141,142,143,144,145,146,147,148,149,150,151,152,162,163,164,165,166,174,3,3,3,3,3,3,3,3,4,11,19,5,9,12,14,16,31,3,3,3,3,3,3,3,51,3,3,3,3,3,3,3,3,3,3,3,3,3,28,3,42,43,44,45,52,66,81,82,3,96,3,3,65,83,97,3,3,3]
def Ie (f:V):Bool:=Qq.contains f
def O6 (f:V):Bool:=f==85||f==86||f==6||f==3
def Qr (f:V):Bool:=Ie f&&!O6 f
def kH {p:Nat->Bool}(h:Qq.all p=E):∀f,Ie f=E->p f=true:=λf hf=>(Bz.1 h) f (by simpa [Ie] using hf)
def rM:Qq.all (λf=>Jo DU Ie L f||Nl f)=true:=by kernel_rfl
def Od (f:V)(h:Ie f=E):Jo DU Ie L f=E\/Nl f=true:=by
 have:=kH rM f h;simpa using this
def vm {P:ED}(f:V)(hf:aP Ie f=E):IE P f:=by
 have h:Ie 89=false:=by decide
 unfold aP at hf;rw[h,B9,Cj] at hf;cases hf
def Ak (H:Hid):Lib (ED.of DU) Ie H L Ie 0:=oN (λf hf=>(Od f hf).imp_right λh=>lT h ⟨Sq.fn kt rfl,Sq.fn kx rfl,Sq.fn js rfl⟩) vm ⟨BR Sq.globals_size,Sq.K7⟩
def ue:Qq.all (λf=>O6 f||!(f==6||I7 f||f==85||f==86))=true:=by kernel_rfl
def Al (H:Hid):Lib PW Ie H L Qr 0:=by
 refine iN (λf hf=>?_) (λf hf hb=>?_) (λf hf=>?_) vm ⟨BR Sq.globals_size,Sq.K7⟩
 .simp only[Qr,AN,B2] at hf;obtain h|h:=Od f hf.1
  .refine .inl ⟨h,kF ?_⟩;have:=kH ue f hf.1;simpa [hf.2] using this
  .exact .inr (lT h ⟨kt,kx,js⟩)
 .simp only[Qr,hf,Cg,Cv,O6,Bm,beq_iff_eq] at hb;obtain((rfl|rfl)|rfl)|rfl:=hb
  .exact⟨_,_,Sq.f85,k0,rfl,by show Tryz.f85.name≠_;decide,by decide,rfl,rfl⟩
  .exact⟨_,_,Sq.f86,k5,rfl,by show Tryz.f86.name≠_;decide,by decide,rfl,rfl⟩
  .exact⟨_,_,DL,Tryz.func6,rfl,by show Tryz.f6.name≠_;decide,by decide,rfl,rfl⟩
  .exact⟨_,_,Sq.put ez rfl,ez,rfl,by show Tryz.f3.name≠_;decide,by decide,rfl,rfl⟩
 .simp only[Qr,AN] at hf;exact hf.1
structure H7 (BB:V->Bool):Prop where
 sub:∀f,Ie f=E->BB f=E
 PE:BB 115=E
 PF:BB 116=E
def oR {BB:V->Bool}(hL:H7 BB){f:V}(h:f=85\/f=86):Lu PW BB f:=by
 obtain rfl|rfl:=h
 .obtain⟨r,o1,o2,s,hp⟩:=Kd 85 DC 0 1 Sq.f85 rfl (by rw[DD];decide) rfl;exact⟨0,1,_,r,o1,o2,s,Tryz.f85,hp,kZ (hL.sub 85 (by decide)) hL.PE,k0,rfl⟩
 .obtain⟨r,o1,o2,s,hp⟩:=Kd 86 Dz 1 0 Sq.f86 rfl (by rw[DB];decide) rfl;exact⟨1,0,_,r,o1,o2,s,Tryz.f86,hp,i6 (hL.sub 86 (by decide)) hL.PF,k5,rfl⟩
def en {BB:V->Bool}{H:Hid}(hL:H7 BB)(hn:H.bl=false:=by rfl):ID PW Ie Qr BB H 0:=by
 refine⟨Ak _,Al _,λf hf hb=>?_,hL.sub,hn⟩;obtain hf|hf:=hf
 .simp only[Qr,hf,Cg,Cv,O6,Bm,beq_iff_eq] at hb;obtain((rfl|rfl)|rfl)|rfl:=hb
  .exact .inr (oR hL (.inl rfl))
  .exact .inr (oR hL (.inr rfl))
  .exact .inl ⟨_,_,DL,rfl⟩
  .exact .inl ⟨_,_,Sq.put ez rfl,rfl⟩
 .have h:Ie 89=false:=by decide
  unfold aP at hf;rw[h,B9,Cj] at hf;cases hf
def Q8:List FuncId:=[35,79,76,71,111,112,113,114,110]
def Mz (f:V):Bool:=Q8.contains f
def kI {p:Nat->Bool}(h:Q8.all p=E):∀f,Mz f=E->p f=true:=λf hf=>(Bz.1 h) f (by simpa [Mz] using hf)
def Ps {P:ED}(f:V)(hf:aP Mz f=E):IE P f:=by
 have h:Mz 89=false:=by decide
 unfold aP at hf;rw[h,B9,Cj] at hf;cases hf
def rN:Q8.all (λf=>Jo DU Mz L f&&!(f==6||I7 f||f==85||f==86))=true:=by kernel_rfl
def ye {BB:V->Bool}(hb:∀f,Mz f=E->BB f=E):Mt PW Mz Mz BB 0:=by
 have h1:∀f,Mz f=E->Jo DU Mz L f=true:=λf hf=>by
  have:=kI rN f hf;simp only[AN] at this;exact this.1
 have h2:∀f,Mz f=E->PW.fs[f]?=PW.a.funcs[f]?:=λf hf=>by
  have:=kI rN f hf;simp only[AN,B2] at this;exact kF this.2
 refine⟨xT h1 Ps ⟨BR Sq.globals_size,Sq.K7⟩,vQ h1 h2 (λf hf hb=>by rw[hf] at hb;cases hb) (λ_ h=>h) Ps ⟨BR Sq.globals_size,Sq.K7⟩,λf hf hb=>?_,hb⟩;obtain hf|hf:=hf
 .rw[hf] at hb;cases hb
 .have h:Mz 89=false:=by decide
  unfold aP at hf;rw[h,B9,Cj] at hf;cases hf
open Go.Shelf
def bf {P:Program} {i:Nat} {f B:Func} (h:P.funcs[i]?=Y f) (hn:(f.name == "runtime.NumGoroutine")=L) (hf:f={ B with name:=f.name }):Bears P i B:=⟨f.name,hn,h.trans (AX Y hf)⟩
def DK:Ren:=⟨λ|6=>74|15=>73|14=>109|28=>107|29=>108|20=>145|21=>146|22=>147|23=>148|24=>149|25=>150|26=>151|27=>152|46=>164|47=>141|48=>142|49=>165|50=>166|57=>174|n=>n,λ|22=>135|24=>70|25=>140|3=>3|39=>128|0=>0|53=>93|55=>60|4=>4|46=>165|45=>164|50=>169|5=>5|9=>9|66=>200|70=>203|76=>222|77=>223|n=>n,λn=>n⟩
def DH:SlLaysF.n6 DU DK where
 mixed:=(AX (λt:Tables=>t.follows .mixedOrders) Do).trans (by kernel_rfl)
 f6:=bf Sq.func74 (by decide +kernel) (by kernel_rfl)
 f14:=bf Sq.func109 (by decide +kernel) (by kernel_rfl)
 f15:=Sq.func73.trans (AX Y (by kernel_rfl))
 f20:=bf Sq.func145 (by decide +kernel) (by kernel_rfl)
 f21:=bf Sq.func146 (by decide +kernel) (by kernel_rfl)
 f22:=bf Sq.func147 (by decide +kernel) (by kernel_rfl)
 f23:=bf Sq.func148 (by decide +kernel) (by kernel_rfl)
 f24:=bf Sq.func149 (by decide +kernel) (by kernel_rfl)
 f25:=bf Sq.func150 (by decide +kernel) (by kernel_rfl)
 f26:=bf Sq.func151 (by decide +kernel) (by kernel_rfl)
 f27:=bf Sq.func152 (by decide +kernel) (by kernel_rfl)
 f28:=Sq.func107.trans (AX Y (by kernel_rfl))
 f29:=Sq.func108.trans (AX Y (by kernel_rfl))
 f46:=bf Sq.func164 (by decide +kernel) (by kernel_rfl)
 f47:=Sq.func141.trans (AX Y (by kernel_rfl))
 f48:=Sq.func142.trans (AX Y (by kernel_rfl))
 f49:=bf Sq.func165 (by decide +kernel) (by kernel_rfl)
 f50:=bf Sq.func166 (by decide +kernel) (by kernel_rfl)
 f57:=bf Sq.func174 (by decide +kernel) (by kernel_rfl)
 t0:=(Sq.underlying 0).trans cL
 a0:=λw=>(Dk 0 w).trans (k6 w)
 z0:=λw=>(Sq.sizeOf 0 w).trans (jx w)
 v0:=λw=>(Sq.zeroValue 0 w).trans (eb w)
 t3:=(Sq.underlying 3).trans cU
 a3:=λw=>(Dk 3 w).trans (k7 w)
 z3:=λw=>(Sq.sizeOf 3 w).trans (j0 w)
 v3:=λw=>(Sq.zeroValue 3 w).trans (ed w)
 t4:=(Sq.underlying 4).trans df
 a4:=λw=>(Dk 4 w).trans (k8 w)
 z4:=λw=>(Sq.sizeOf 4 w).trans (j1 w)
 v4:=λw=>(Sq.zeroValue 4 w).trans (ek w)
 t5:=(Sq.underlying 5).trans dn
 a5:=λw=>(Dk 5 w).trans (k9 w)
 z5:=λw=>(Sq.sizeOf 5 w).trans (j2 w)
 v5:=λw=>(Sq.zeroValue 5 w).trans (eo w)
 t9:=(Sq.underlying 9).trans dr
 a9:=λw=>(Dk 9 w).trans (lh w)
 z9:=λw=>(Sq.sizeOf 9 w).trans (j3 w)
 v9:=λw=>(Sq.zeroValue 9 w).trans (er w)
 t22:=(Sq.underlying 135).trans Tryz.underlying135
 a22:=λw=>(Dk 135 w).trans (Tryz.isAgg135 w)
 z22:=λw=>(Sq.sizeOf 135 w).trans (Tryz.sizeOf135 w)
 v22:=λw=>(Sq.zeroValue 135 w).trans (Tryz.zeroValue135 w)
 a24:=λw=>(Dk 70 w).trans (Tryz.isAgg70 w)
 z24:=λw=>(Sq.sizeOf 70 w).trans (Tryz.sizeOf70 w)
 t25:=(Sq.underlying 140).trans Tryz.underlying140
 a25:=λw=>(Dk 140 w).trans (Tryz.isAgg140 w)
 z25:=λw=>(Sq.sizeOf 140 w).trans (Tryz.sizeOf140 w)
 v25:=λw=>(Sq.zeroValue 140 w).trans (Tryz.zeroValue140 w)
 t39:=(Sq.underlying 128).trans bo
 a39:=λw=>(Dk 128 w).trans (fx w)
 z39:=λw=>(Sq.sizeOf 128 w).trans (eA w)
 v39:=λw=>(Sq.zeroValue 128 w).trans (b6 w)
 t45:=(Sq.underlying 164).trans bq
 a45:=λw=>(Dk 164 w).trans (gg w)
 z45:=λw=>(Sq.sizeOf 164 w).trans (eC w)
 v45:=λw=>(Sq.zeroValue 164 w).trans (b7 w)
 t46:=(Sq.underlying 165).trans bs
 a46:=λw=>(Dk 165 w).trans (gB w)
 z46:=λw=>(Sq.sizeOf 165 w).trans (eF w)
 v46:=λw=>(Sq.zeroValue 165 w).trans (b8 w)
 t50:=(Sq.underlying 169).trans bw
 a50:=λw=>(Dk 169 w).trans (gL w)
 z50:=λw=>(Sq.sizeOf 169 w).trans (eG w)
 v50:=λw=>(Sq.zeroValue 169 w).trans (b9 w)
 t53:=(Sq.underlying 93).trans cf
 a53:=λw=>(Dk 93 w).trans (kn w)
 z53:=λw=>(Sq.sizeOf 93 w).trans (gR w)
 v53:=λw=>(Sq.zeroValue 93 w).trans (dy w)
 t55:=(Sq.underlying 60).trans ck
 a55:=λw=>(Dk 60 w).trans (kp w)
 z55:=λw=>(Sq.sizeOf 60 w).trans (gU w)
 v55:=λw=>(Sq.zeroValue 60 w).trans (dS w)
 t66:=(Sq.underlying 200).trans bA
 a66:=λw=>(Dk 200 w).trans (hP w)
 z66:=λw=>(Sq.sizeOf 200 w).trans (eV w)
 v66:=λw=>(Sq.zeroValue 200 w).trans (cq w)
 t70:=(Sq.underlying 203).trans bD
 a70:=λw=>(Dk 203 w).trans (hZ w)
 z70:=λw=>(Sq.sizeOf 203 w).trans (fc w)
 v70:=λw=>(Sq.zeroValue 203 w).trans (cr w)
 t76:=(Sq.underlying 222).trans bW
 a76:=λw=>(Dk 222 w).trans (h9 w)
 z76:=λw=>(Sq.sizeOf 222 w).trans (fq w)
 v76:=λw=>(Sq.zeroValue 222 w).trans (cu w)
 t77:=(Sq.underlying 223).trans b5
 a77:=λw=>(Dk 223 w).trans (ik w)
 z77:=λw=>(Sq.sizeOf 223 w).trans (fu w)
 v77:=λw=>(Sq.zeroValue 223 w).trans (cw w)
def bg {l:List Int}:bF l=0↔∀x∈l,x=0:=by
 refine⟨λh x hx=>?_,fN⟩;unfold bF at h;cases hf:l.find? (· != 0) with
 |none=>have:=Cu.1 hf x hx;simpa using this
 |some y =>
  rw[hf] at h;have:=List.find?_some hf;simp only[AY] at h;subst h;simp at this
def dK {n lo hi:Int}:Ez n lo hi=0↔lo<=n/\n<=hi:=by
 unfold Ez;split
 .simp;omega
 .split<;>simp<;>omega
def mw {x lo hi:Int}:FC x lo hi=E↔lo<=x/\x<=hi:=by simp[FC]
def lf {l:List Int}{n:Int}:Fi l n=0↔∀i,i<l.length->FY l n i=0:=by
 unfold Fi;rw[bg];simp
def I0 {l:List Int}{n:Int}(h:Fi l n=0):(∀x∈l,0<=x/\x<n)/\(l.length:Int)<=max n 0/\∀i,i+1<l.length->l[i]?.getD 0<l[i+1]?.getD 0:=by
 rw[lf] at h;have h1:∀i,i<l.length->0<=l[i]?.getD 0/\l[i]?.getD 0<=n-1:=λi hi=>by
  have:=h i hi;unfold FY at this;split at this
  .assumption
  .cases this
 have h2:∀i,i+1<l.length->l[i]?.getD 0<l[i+1]?.getD 0:=λi hi=>by
  have:=h (i+1) hi;unfold FY at this;rw[AF (h1 _ hi)] at this;by_cases hc:0<i+1/\l[i+1]?.getD 0<=l[i+1-1]?.getD 0
  .rw[AF hc] at this;cases this
  .simp only[Nat.add_sub_cancel] at hc;omega
 have h3:∀i,i<l.length->(i:Int)<=l[i]?.getD 0:=λi=>by
  induction i with
  |zero=>intro hi;exact(h1 0 hi).1
  |succ k ih=>intro hi;have:=ih (by omega);have:=h2 k hi;omega
 refine⟨λx hx=>?_,?_,h2⟩
 .obtain⟨i,hi,rfl⟩:=List.getElem_of_mem hx;have:=h1 i hi;rw[AB hi] at this;simp only[AY] at this;omega
 .by_cases hz:l.length=0
  .omega
  .have a:=h3 (l.length-1) (by omega);have b:=(h1 (l.length-1) (by omega)).2;omega
def D9.Ok.of {c:D9}(h:Eg c=0):c.Ok:=by
 unfold Eg at h;by_cases h1:Ez c.DW.length 1 5≠0
 .rw[AF h1] at h;exact AI h h1
 rw[AD h1] at h;have a7:=dK.1 (Decidable.not_not.1 h1);by_cases h2:(c.DW.all λx=>FC x 0 12)=L
 .rw[AF h2] at h;cases h
 rw[AD h2] at h;by_cases h3:Ez c.DV.length 1 4≠0
 .rw[AF h3] at h;exact AI h h3
 rw[AD h3] at h;have a8:=dK.1 (Decidable.not_not.1 h3);rw[bg] at h;have hh:∀x∈c.DV,(1<=x.heads/\x.heads<=40)/\(1<=x.E3/\x.E3<=5)/\(0<=x.most/\x.most<=5)/\Fi x.off c.DW.length=0:=λx hx=>by
  have:=h _ (List.mem_map_of_mem hx);unfold Fq at this;split at this
  .rename_i hc;simp only[AN,mw] at hc;exact⟨hc.1.1,hc.1.2,hc.2,this⟩
  .cases this
 have a6:∀x∈c.DW,0<=x/\x<=12:=λx hx=>by
  have:=Bz.1 (Bool.not_eq_false _▸h2) x hx;exact mw.1 this
 exact⟨by omega,by omega,a6,by omega,by omega,λx hx=>(hh x hx).1,λx hx=>(hh x hx).2.1,λx hx=>(hh x hx).2.2.1,λx hx=>by
  obtain⟨a,b,_⟩:=I0 (hh x hx).2.2.2
  exact⟨by omega,a⟩⟩
def DI:Ren:=⟨λ|189=>37|125=>73|257=>72|128=>107|129=>108|294=>98|295=>99|296=>100|297=>101|298=>102|299=>103|216=>104|300=>105|301=>106|328=>140|329=>141|330=>142|331=>143|332=>144|215=>117|343=>163|n=>n,λ|28=>22|3=>3|46=>128|0=>0|51=>93|53=>60|4=>4|183=>165|182=>164|131=>169|5=>5|9=>9|218=>200|222=>203|228=>222|229=>223|n=>n,λn=>n⟩
def DF:Lays.n189 DU DI where
 mixed:=(AX (λt:Tables=>t.follows .mixedOrders) Do).trans (by kernel_rfl)
 f125:=Sq.func73.trans (AX Y (by kernel_rfl))
 f128:=Sq.func107.trans (AX Y (by kernel_rfl))
 f129:=Sq.func108.trans (AX Y (by kernel_rfl))
 f189:=Sq.func37.trans (AX Y (by kernel_rfl))
 f215:=Sq.func117.trans (AX Y (by kernel_rfl))
 f216:=Sq.func104.trans (AX Y (by kernel_rfl))
 f257:=Sq.func72.trans (AX Y (by kernel_rfl))
 f294:=Sq.func98.trans (AX Y (by kernel_rfl))
 f295:=Sq.func99.trans (AX Y (by kernel_rfl))
 f296:=Sq.func100.trans (AX Y (by kernel_rfl))
 f297:=Sq.func101.trans (AX Y (by kernel_rfl))
 f298:=Sq.func102.trans (AX Y (by kernel_rfl))
 f299:=Sq.func103.trans (AX Y (by kernel_rfl))
 f300:=Sq.func105.trans (AX Y (by kernel_rfl))
 f301:=Sq.func106.trans (AX Y (by kernel_rfl))
 f328:=Sq.func140.trans (AX Y (by kernel_rfl))
 f329:=Sq.func141.trans (AX Y (by kernel_rfl))
 f330:=Sq.func142.trans (AX Y (by kernel_rfl))
 f331:=Sq.func143.trans (AX Y (by kernel_rfl))
 f332:=Sq.func144.trans (AX Y (by kernel_rfl))
 f343:=Sq.func163.trans (AX Y (by kernel_rfl))
 t0:=(Sq.underlying 0).trans cL
 a0:=λw=>(Dk 0 w).trans (k6 w)
 z0:=λw=>(Sq.sizeOf 0 w).trans (jx w)
 v0:=λw=>(Sq.zeroValue 0 w).trans (eb w)
 t3:=(Sq.underlying 3).trans cU
 a3:=λw=>(Dk 3 w).trans (k7 w)
 z3:=λw=>(Sq.sizeOf 3 w).trans (j0 w)
 v3:=λw=>(Sq.zeroValue 3 w).trans (ed w)
 t4:=(Sq.underlying 4).trans df
 a4:=λw=>(Dk 4 w).trans (k8 w)
 z4:=λw=>(Sq.sizeOf 4 w).trans (j1 w)
 v4:=λw=>(Sq.zeroValue 4 w).trans (ek w)
 t5:=(Sq.underlying 5).trans dn
 a5:=λw=>(Dk 5 w).trans (k9 w)
 z5:=λw=>(Sq.sizeOf 5 w).trans (j2 w)
 v5:=λw=>(Sq.zeroValue 5 w).trans (eo w)
 t9:=(Sq.underlying 9).trans dr
 a9:=λw=>(Dk 9 w).trans (lh w)
 z9:=λw=>(Sq.sizeOf 9 w).trans (j3 w)
 v9:=λw=>(Sq.zeroValue 9 w).trans (er w)
 t28:=(Sq.underlying 22).trans Tryz.underlying22
 a28:=λw=>(Dk 22 w).trans (Tryz.isAgg22 w)
 z28:=λw=>(Sq.sizeOf 22 w).trans (Tryz.sizeOf22 w)
 v28:=λw=>(Sq.zeroValue 22 w).trans (Tryz.zeroValue22 w)
 t46:=(Sq.underlying 128).trans bo
 a46:=λw=>(Dk 128 w).trans (fx w)
 z46:=λw=>(Sq.sizeOf 128 w).trans (eA w)
 v46:=λw=>(Sq.zeroValue 128 w).trans (b6 w)
 t51:=(Sq.underlying 93).trans cf
 a51:=λw=>(Dk 93 w).trans (kn w)
 z51:=λw=>(Sq.sizeOf 93 w).trans (gR w)
 v51:=λw=>(Sq.zeroValue 93 w).trans (dy w)
 t53:=(Sq.underlying 60).trans ck
 a53:=λw=>(Dk 60 w).trans (kp w)
 z53:=λw=>(Sq.sizeOf 60 w).trans (gU w)
 v53:=λw=>(Sq.zeroValue 60 w).trans (dS w)
 t131:=(Sq.underlying 169).trans bw
 a131:=λw=>(Dk 169 w).trans (gL w)
 z131:=λw=>(Sq.sizeOf 169 w).trans (eG w)
 v131:=λw=>(Sq.zeroValue 169 w).trans (b9 w)
 t182:=(Sq.underlying 164).trans bq
 a182:=λw=>(Dk 164 w).trans (gg w)
 z182:=λw=>(Sq.sizeOf 164 w).trans (eC w)
 v182:=λw=>(Sq.zeroValue 164 w).trans (b7 w)
 t183:=(Sq.underlying 165).trans bs
 a183:=λw=>(Dk 165 w).trans (gB w)
 z183:=λw=>(Sq.sizeOf 165 w).trans (eF w)
 v183:=λw=>(Sq.zeroValue 165 w).trans (b8 w)
 t218:=(Sq.underlying 200).trans bA
 a218:=λw=>(Dk 200 w).trans (hP w)
 z218:=λw=>(Sq.sizeOf 200 w).trans (eV w)
 v218:=λw=>(Sq.zeroValue 200 w).trans (cq w)
 t222:=(Sq.underlying 203).trans bD
 a222:=λw=>(Dk 203 w).trans (hZ w)
 z222:=λw=>(Sq.sizeOf 203 w).trans (fc w)
 v222:=λw=>(Sq.zeroValue 203 w).trans (cr w)
 t228:=(Sq.underlying 222).trans bW
 a228:=λw=>(Dk 222 w).trans (h9 w)
 z228:=λw=>(Sq.sizeOf 222 w).trans (fq w)
 v228:=λw=>(Sq.zeroValue 222 w).trans (cu w)
 t229:=(Sq.underlying 223).trans b5
 a229:=λw=>(Dk 223 w).trans (ik w)
 z229:=λw=>(Sq.sizeOf 223 w).trans (fu w)
 v229:=λw=>(Sq.zeroValue 223 w).trans (cw w)
open Go.Proofs.YtoeoefobdjociaaGreat
def Qc:laidOutB Tryz.checked.prog=E/\mapsRowed Tryz.checked.prog=E/\Tryz.checked.prog.plainKeys=true:=Go.ClosedOfChecked.closed_of_checked Tryz.checked (by kernel_rfl) (by kernel_rfl) (by kernel_rfl)
def xK:ea Tryz.pinned.checked.prog 3 Tryz.f3 Rows.wolfRepairsSpec Rows.wolfRepairsRow=true:=by
 show ea Tryz.checked.prog 3 Tryz.f3 Rows.wolfRepairsSpec Rows.wolfRepairsRow=E;obtain⟨h1,h2,h3⟩:=Qc;unfold ea;rw[h1,h2,h3]
 kernel_rfl
def yS:Tryz.pinned.checked.prog.funcNamed Rows.wolfRepairsRow.func=Y 3:=by kernel_rfl
end Go.Sq
namespace Go
def Ay{p:Prop}(h:p):RowKit.Hid p:=h
end Go
namespace Go.Sq
open Go.RowKit
structure Gr (w w':Z):Prop where
 below:Below w.heap.size w w'
 drawn:w.drawn<=w'.drawn
def Gr.refl (w:Z):Gr w w:=⟨Below.refl _ _,AA _⟩
def Gr.trans {a b c:Z}(h:Gr a b)(k:Gr b c):Gr a c:=⟨h.below.trans (k.below.mono h.below.size),AH h.drawn k.drawn⟩
def Gr.size {w w':Z}(h:Gr w w'):w.heap.size<=w'.heap.size:=h.below.size
def Gr.alloc {w w':Z}(h:Gr w w')(o:Obj):Gr w (w'.alloc o):=⟨h.below.alloc h.size o,h.drawn⟩
def Gr.drew {w w':Z}(h:Gr w w'):Gr w w'.drew:=⟨h.below.drew,CZ h.drawn⟩
def Gr.drewN {w w':Z}(h:Gr w w')(n:Nat):Gr w (w'.drewN n):=⟨⟨h.below.os,h.below.tape,h.below.output,h.below.size,h.below.block⟩,AH h.drawn (Nat.le_add_right _ _)⟩
def Gr.setCell {w w':Z}(h:Gr w w'){p:bh}(hp:w.heap.size<=p.block)(v:bn):Gr w (w'.setCell p v):=⟨h.below.setCell hp v,h.drawn⟩
def Gr.grown {w w' w1:Z}(h:Gr w w'){row:Option Nat}(hg:w'.grownBy w1 row)(hd:w'.drawn<=w1.drawn)(hr:∀k,row=Y k->w.heap.size<=k):Gr w w1 :=
 ⟨h.below.grown hg h.size hr,AH h.drawn hd⟩
def Gr.cell {w w':Z}(h:Gr w w'){p:bh}(hp:p.block<w.heap.size):w'.cell? p=w.cell? p:=h.below.cell hp
def Gr.frozen {w w':Z}(h:Gr w w'){p:bh}(hp:p.block<w.heap.size):w'.frozen? p=w.frozen? p:=h.below.frozen hp
def RI (w:Z)(B:Nat)(A:Option bh)(l:List Int):Prop :=
 l≠[]->∃b o,A=Y ⟨b,o,I⟩/\b<B/\∀i x,l[i]?=Y x->w.cell? ⟨b,o+i,I⟩=Y (U F x)
def RI.nil {w:Z}{B:Nat}{A:Option bh}:RI w B A []:=λh=>AI rfl h
def RI.keep {w w':Z}{B:Nat}{A:Option bh}{l:List Int}(h:RI w B A l)(hk:∀b o,b<B->w'.cell? ⟨b,o,I⟩=w.cell? ⟨b,o,I⟩):RI w' B A l:=λhn=>by
 obtain⟨b,o,e,hb,hc⟩:=h hn;exact⟨b,o,e,hb,λi x hx=>(hk _ _ hb).trans (hc i x hx)⟩
def RI.gr {w w':Z}{B:Nat}{A:Option bh}{l:List Int}(h:RI w B A l)(hB:B<=w.heap.size)(hg:Gr w w'):RI w' B A l:=h.keep λ_ _ hb=>hg.cell (AC hb hB)
def RI.more {w:Z}{B B':Nat}{A:Option bh}{l:List Int}(h:RI w B A l)(hB:B<=B'):RI w B' A l:=λhn=>by
 obtain⟨b,o,e,hb,hc⟩:=h hn;exact⟨b,o,e,by omega,hc⟩
def RI.at_ {w:Z}{B:Nat}{A:Option bh}{l:List Int}(h:RI w B A l){k:Nat}(hk:k<l.length):∃b o,A=Y ⟨b,o,I⟩/\b<B/\w.cell? ⟨b,o+k,I⟩=Y (U F (l[k]?.getD 0)):=by
 obtain⟨b,o,e,hb,hc⟩:=h (λe=>by subst e;simp at hk);exact⟨b,o,e,hb,by rw[AB hk];exact hc k _ (AB hk)⟩
def Dn {w:Z}{base:Nat}{v:bn}{l:List Int}(h:w.ownsRow base 3 1 v l.length (l.map (U F))):∃A c,v=N A l.length c/\RI w w.heap.size A l:=by
 obtain⟨rfl,h0⟩|⟨g,cap,cur,rfl,_,hg,_⟩:=h.2
 .have:l.length=0:=by simpa using h0
  have:l=[]:=Bc this;subst this;exact⟨I,0,rfl,.nil⟩
 .refine⟨_,cap,rfl,λ_=>⟨g,0,rfl,(Az.1 hg).1,λi x hx=>?_⟩⟩;have:=h.cells (g:=g) rfl i (U F x) (by rw[BK,hx];rfl);have e:(⟨g,0,I⟩:bh).add i=⟨g,0+i,I⟩:=by unfold Addr.add;split<;>simp_all
  rwa [e] at this
def Ml (w:Z)(B b o:Nat)(h:EG):Prop :=
 w.cell? ⟨b,o,I⟩=Y (U F h.heads)/\w.cell? ⟨b,o+1,I⟩=Y (U F h.E3)/\w.cell? ⟨b,o+2,I⟩=Y (U F h.most) /\
  ∃A c,w.cell? ⟨b,o+3,I⟩=Y (N A h.off.length c)/\RI w B A h.off
def EN (w:Z)(B:Nat)(A:Option bh)(l:List EG):Prop :=
 l≠[]->∃b o,A=Y ⟨b,o,I⟩/\b<B/\∀i h,l[i]?=Y h->Ml w B b (o+i*4) h
def Ml.keep {w w':Z}{B b o:Nat}{h:EG}(ha:Ml w B b o h)(hb:b<B)(hk:∀b o,b<B->w'.cell? ⟨b,o,I⟩=w.cell? ⟨b,o,I⟩):Ml w' B b o h:=by
 obtain⟨h1,h2,h3,A,c,h4,h5⟩:=ha;exact⟨(hk _ _ hb).trans h1,(hk _ _ hb).trans h2,(hk _ _ hb).trans h3,A,c,(hk _ _ hb).trans h4,h5.keep hk⟩
def EN.keep {w w':Z}{B:Nat}{A:Option bh}{l:List EG}(h:EN w B A l)(hk:∀b o,b<B->w'.cell? ⟨b,o,I⟩=w.cell? ⟨b,o,I⟩):EN w' B A l:=λhn=>by
 obtain⟨b,o,e,hb,hc⟩:=h hn;exact⟨b,o,e,hb,λi h hi=>(hc i h hi).keep hb hk⟩
def EN.at_ {w:Z}{B:Nat}{A:Option bh}{c:D9}(h:EN w B A c.DV){i:Nat}(hi:i<c.DV.length):∃b o,A=Y ⟨b,o,I⟩/\b<B/\Ml w B b (o+i*4) (c.h i):=by
 obtain⟨b,o,e,hb,hc⟩:=h (λe=>by rw[e] at hi;simp at hi);exact⟨b,o,e,hb,hc i _ (by unfold D9.h;rw[AB hi];rfl)⟩
structure FE (w:Z)(B cb:Nat)(c:D9)(nA hA:Option bh)(nc hc:Nat):Prop where
 lt:cb<B
 c0:w.cell? ⟨cb,0,I⟩=Y (N nA c.DW.length nc)
 c1:w.cell? ⟨cb,1,I⟩=Y (N hA c.DV.length hc)
 DW:RI w B nA c.DW
 Fx:EN w B hA c.DV
def FE.keep {w w':Z}{B cb:Nat}{c:D9}{nA hA:Option bh}{nc hc:Nat}(h:FE w B cb c nA hA nc hc)(hk:∀b o,b<B->w'.cell? ⟨b,o,I⟩=w.cell? ⟨b,o,I⟩):FE w' B cb c nA hA nc hc :=
 ⟨h.lt,(hk _ _ h.lt).trans h.c0,(hk _ _ h.lt).trans h.c1,h.DW.keep hk,h.Fx.keep hk⟩
def FE.gr {w w':Z}{B cb:Nat}{c:D9}{nA hA:Option bh}{nc hc:Nat}(h:FE w B cb c nA hA nc hc)(hB:B<=w.heap.size)(hg:Gr w w'):FE w' B cb c nA hA nc hc :=
 h.keep λ_ _ hb=>hg.cell (AC hb hB)
def GU (w:Z)(B br:Nat)(r:Nat->Nat):Prop:=br<B/\∀i,i<5->w.cell? ⟨br,i,I⟩=Y (.int .u8 (r i))
def GU.keep {w w':Z}{B br:Nat}{r:Nat->Nat}(h:GU w B br r)(hk:∀b o,b<B->w'.cell? ⟨b,o,I⟩=w.cell? ⟨b,o,I⟩):GU w' B br r:=⟨h.1,λi hi=>(hk _ _ h.1).trans (h.2 i hi)⟩
def GU.gr {w w':Z}{B br:Nat}{r:Nat->Nat}(h:GU w B br r)(hB:B<=w.heap.size)(hg:Gr w w'):GU w' B br r:=h.keep λ_ _ hb=>hg.cell (AC hb hB)
def Ml.more {w:Z}{B B' b o:Nat}{h:EG}(ha:Ml w B b o h)(hB:B<=B'):Ml w B' b o h:=by
 obtain⟨h1,h2,h3,A,c,h4,h5⟩:=ha;exact⟨h1,h2,h3,A,c,h4,h5.more hB⟩
def EN.more {w:Z}{B B':Nat}{A:Option bh}{l:List EG}(h:EN w B A l)(hB:B<=B'):EN w B' A l:=λhn=>by
 obtain⟨b,o,e,hb,hc⟩:=h hn;exact⟨b,o,e,AC hb hB,λi h hi=>(hc i h hi).more hB⟩
def FE.more {w:Z}{B B' cb:Nat}{c:D9}{nA hA:Option bh}{nc hc:Nat}(h:FE w B cb c nA hA nc hc)(hB:B<=B'):FE w B' cb c nA hA nc hc :=
 ⟨AC h.lt hB,h.c0,h.c1,h.DW.more hB,h.Fx.more hB⟩
def GU.more {w:Z}{B B' br:Nat}{r:Nat->Nat}(h:GU w B br r)(hB:B<=B'):GU w B' br r:=⟨AC h.1 hB,h.2⟩
def FE.on {w w':Z}{cb:Nat}{c:D9}{nA hA:Option bh}{nc hc:Nat}(h:FE w w.heap.size cb c nA hA nc hc)(hg:Gr w w'):FE w' w'.heap.size cb c nA hA nc hc:=(h.gr (AA _) hg).more hg.size
def GU.on {w w':Z}{br:Nat}{r:Nat->Nat}(h:GU w w.heap.size br r)(hg:Gr w w'):GU w' w'.heap.size br r:=(h.gr (AA _) hg).more hg.size
def K4 {w:Z}{B:Nat}{u0 u1 u2:bn}(h0:w.cell? ⟨B,0,I⟩=Y u0)(h1:w.cell? ⟨B,1,I⟩=Y u1)(h2:w.cell? ⟨B,2,I⟩=Y u2) :
  (∀v,(w.setCell ⟨B,0,I⟩ v).cell? ⟨B,0,I⟩=Y v)/\(∀u v,((w.setCell ⟨B,0,I⟩ u).setCell ⟨B,1,I⟩ v).cell? ⟨B,1,I⟩=Y v) /\
   ∀u x v,(((w.setCell ⟨B,0,I⟩ u).setCell ⟨B,1,I⟩ x).setCell ⟨B,2,I⟩ v).cell? ⟨B,2,I⟩=Y v:=by
 have e1:∀u,(w.setCell ⟨B,0,I⟩ u).cell? ⟨B,1,I⟩=Y u1:=λu=>by rw[O _ _ _ _ (by simp)];exact h1
 have e2:∀u x,((w.setCell ⟨B,0,I⟩ u).setCell ⟨B,1,I⟩ x).cell? ⟨B,2,I⟩=Y u2:=λu x=>by rw[O _ _ _ _ (by simp),O _ _ _ _ (by simp)];exact h2
 exact⟨λv=>D _ _ _ h0,λu v=>D _ _ _ (e1 u),λu x v=>D _ _ _ (e2 u x)⟩
def ap {k:IntKind}{a b:Int}(h:a=b):bk (.int k a)=.returned (.int k b):=by rw[h]
def au {a b:Bool}(h:a=b):bk (.bool a)=.returned (.bool b):=by rw[h]
variable {P:Program}
def EA {w:Z}{ops:Array Oper}{rest:List Oper}{o:Oper}{a:Act}{Q:Exit->Act->Z->Prop}(hgd:o.guard=I)(s x:Operand)(t:TypeId)
  (ho:o.op=.call { callee:=.builtin .append,args:=#[s,x],argTypes:=#[t,t] })
  (base:Nat) (e:TypeId) (i:TypeInfo) (z:bn) (size bytes:Nat) (ht:P.underlying t=Y (.slice e)) (hi:P.info? e=Y i) (hz:i.zero=Y z)
  (hsize:i.size=size) (hby:i.bytes=bytes) (hzs:z.cells.size=size) (zx:0<size)
  (v:bn) (n:Nat) (xs:List bn) (hs:a.eval s=v) (zm:w.ownsRow base e size v n xs)
  (ad:bh) (m c:Nat) (news:List bn) (hx:a.eval x=.slice (Y ad) m c) (hl:news.length=m*size) (hnews:∀j u,news[j]?=Y u->w.cell? (ad.add j)=Y u) (h1:∀u∈news,u.oneCell'=E)
  (h63:n+m<=maxLen) (hbytes:(n+m)*bytes<=140737488355328) (hbase:base<=w.heap.size)
  (h:∀v' w',w'.ownsRow base e size v' (n+m) (xs++news)->w.grownBy w' v.ownBlock->w.drawn<=w'.drawn->wpList P ops Q rest (a.put o.dst v') w'):wpList P ops Q (o::rest) a w:=by
 refine wpList_plain hgd λK hK=>?_;obtain⟨v',w',hr,h2,h3,h4⟩:=run_append_own (P:=P) w base t o.type e i z size bytes ht hi hz hsize hby hzs zx v n xs zm ad m c news hl hnews h1 h63 hbytes hbase;have hd:=Go.Eu.Gf P (Builtin.append_ #[t,t] o.type #[v,.slice (Y ad) m c]) w #[];rw[Sem.runT_fst,hr] at hd;unfold Oper.wp execOp;simp only[ho,resolve,invoke,builtin,Sem.run_bind,Sem.run_pure,Result.andThen_ok,Cr,Cd,CG,hs,hx,hr]
 exact hK _ _ (h v' w' h2 h3 hd)
def AE:=@World.cell?_alloc_at
def AL:=@O
def AQ:=@D
def AR:=@Below.heap_setCell
def AT:=@World.cell?_of_block
def AW:=@World.cell?_alloc_past
def Bw:=@World.ownsRow_nil
def By:=@World.frozen?_alloc_at
def BI:=@World.frozen?_setCell
def Cs:=@Below.heap_alloc
def CA:=@World.frozen?_alloc_past
def CE:=@World.frozen?_of_block
def CW:=@World.ownsRow_made
def C3:=@World.size_alloc
end Go.Sq

namespace Go.Sq
open Go.Proofs
open Go.RowKit
def vC:∀x:Fin 16,∀h:Fin 4,(bits BinOp.and IntKind.u8 ((x.val:Int) / 2 ^ h.val) 1==1)=x.val.testBit h.val:=by decide
def jB (x h:Nat)(w:Z)(hx:x<16)(hh:h<4):q DU 110 #[.int .u8 x,U F h] w λe w'=>e=.returned (.bool (x.testBit h))/\w=w':=by
 go_enter Sq.func110,Tryz.ntmps110;go_wp2;go_ret;have:=vC ⟨x,hx⟩ ⟨h,hh⟩;refine⟨?_,rfl⟩;show bk (.bool _)=_;rw[this]
def px (x k:Nat):below x (k+1)=below x k++if x.testBit k then[(k:Int)] else[]:=by
 unfold below;rw[CN,CI,CQ];cases h:x.testBit k<;>simp[h]
def tv (x k:Nat):(below x k).length<=k:=by
 unfold below;rw[Bq];exact AH (CM _ _) (by simp)
def Ds:(DU.info? 3).map (λi=>(i.zero,i.size,i.bytes))=Y (Y (U F 0),1,8):=by
 rw[Do];kernel_rfl
def gQ (x:Nat)(w:Z)(hx:x<16):q DU 76 #[.int .u8 x] w λe w' =>
  ∃v,e=.returned v/\w'.ownsRow w.heap.size 3 1 v (wl x).length ((wl x).map (U F))/\Gr w w':=by
 obtain⟨i0,hi,zF,zE,zD⟩:=info_parts Ds;go_enter Sq.func76,Tryz.ntmps76;go_wp2;go_loopw [3,5] (λv i wr=>∃k:Nat,k<=4/\i=U F k/\wr.ownsRow w.heap.size 3 1 v (below x k).length ((below x k).map (U F))/\Gr w wr) (λ_ i _=>4-(ak i).toNat)
 case atStart=>exact⟨0,by omega,rfl,Bw w _ _ _,Gr.refl w⟩
 case round =>
  obtain⟨k,hk,rfl,zm,zV⟩:=hrel;have zX:=tv x k;have hs:=px x k;by_cases zY:k<4
  .have hw:=zV.size;cases hb:x.testBit k with
   |true =>
    have HS:Hid (below x (k+1)=below x k++[(k:Int)]):=by rw[hs,hb];rfl
    have hc:q DU 110 #[.int .u8 x,U F k] wr λe w'=>e=.returned (.bool E)/\wr=w':=by rw[<-hb];exact jB x k wr hx zY
    go_wp2_with (first|(go_at_call 110;refine hc.mono ?_;rintro e w' ⟨rfl,rfl⟩)|(at_builtin;refine EA rfl _ _ 22 rfl w.heap.size 3 i0 (U F 0) 1 8 Sq.underlying22 hi zF zE zD rfl (by decide) _ _ _ rfl (zm.alloc _) ⟨wr.heap.size,0,I⟩ 1 1 [U F k] rfl rfl ?c1 ?c2 ?c3 ?c4 ?c5 ?_))
    case c1 =>
     intro j u hj
     match j,hj with
     |0,hj=>simp at hj;subst hj;simp[Addr.add]
    case c2=>intro u hu;simp at hu;subst hu;rfl
    case c3=>unfold maxLen;omega
    case c4=>omega
    case c5=>simp;omega
    intro v' w1 hown' hgrow hd;have R:w1.ownsRow w.heap.size 3 1 v' (below x (k+1)).length ((below x (k+1)).map (U F))/\Gr w w1 :=
     ⟨by rw[HS.out];simpa using hown',(zV.alloc _).grown hgrow hd λj hj=>(zm.lt j hj).1⟩
    go_wp2;go_roundw
    case rel=>exact⟨k+1,by omega,by go_num,R.1,R.2⟩
    case measure=>simp[Proofs.intOf];omega
   |false =>
    have HS:=Ay (show below x (k+1)=below x k by rw[hs,hb];simp);have hc:q DU 110 #[.int .u8 x,U F k] wr λe w'=>e=.returned (.bool L)/\wr=w':=by rw[<-hb];exact jB x k wr hx zY
    go_wp2_with (go_at_call 110;refine hc.mono ?_;rintro e w' ⟨rfl,rfl⟩);go_roundw
    case rel=>exact⟨k+1,by omega,by go_num,by rw[HS.out];exact zm,zV⟩
    case measure=>simp[Proofs.intOf];omega
  .have:k=4:=by omega
   subst this;go_wp2;go_ret;exact⟨_,rfl,zm,zV⟩
def kw (x:Int)(w:Z):q DU 117 #[U F x] w λe w'=>e=.returned (.bool L)/\w=w':=by
 go_enter Sq.func117,Tryz.ntmps117;go_wp2;go_ret;simp
def py (a b:Int)(w:Z):q DU 87 #[U F a,U F b] w λe w'=>e=.returned (U F (dQ a b))/\w=w':=by
 by_cases h1:a<b
 .have HS:=Ay (show dQ a b=-1 by simp[dQ,h1]);go_enter Sq.func87,cE;go_wp2_with (go_at_call 117;refine(kw _ _).mono ?_;rintro e w' ⟨rfl,rfl⟩);go_ret;exact⟨ap HS.out.symm,rfl⟩
 .by_cases h2:b<a
  .have HS:=Ay (show dQ a b=1 by simp[dQ,h1,h2]);go_enter Sq.func87,cE;go_wp2_with (go_at_call 117;refine(kw _ _).mono ?_;rintro e w' ⟨rfl,rfl⟩);go_ret;exact⟨ap HS.out.symm,rfl⟩
  .have HS:=Ay (show dQ a b=0 by simp[dQ,h1,h2]);go_enter Sq.func87,cE;go_wp2_with (go_at_call 117;refine(kw _ _).mono ?_;rintro e w' ⟨rfl,rfl⟩);go_ret;exact⟨ap HS.out.symm,rfl⟩
def Rf (l:List Int)(x:Int)(e:Ending):Prop:=∃j:Int,e=.returned (U F j)/\decide (0<=j)=decide (x∈l)
def vD (A:Option bh)(c:Nat)(l:List Int)(x:Int)(w:Z)(B:Nat)(h:RI w B A l)(hl:l.length<=4611686018427387904) :
  q DU 71 #[N A l.length c,U F x] w λe w'=>Rf l x e/\w=w':=by
 have HR:=Ay h;clear h;go_enter Sq.func71,Tryz.ntmps71;go_wp2;go_loop [8] (λi=>∃k:Nat,k<=l.length/\i=U F k/\x ∉ l.take k) (λi=>l.length-(ak i).toNat)
 case atStart=>exact⟨0,by omega,rfl,by simp⟩
 case round =>
  obtain⟨k,hk,rfl,hn⟩:=hrel;by_cases zY:k<l.length
  .obtain⟨b,o,rfl,hb,hc⟩:=HR.out.at_ zY;have HT:=Ay (bz 0 l k zY);have hm:=Ge l k zY;have HN:=Ay hn;clear hn;generalize l[k]?.getD 0=y at hc HT hm;by_cases hy:x=y
   .have zq:((x:Int)==y)=true:=by simpa using hy
    clear hy;go_wp2;go_ret;refine⟨⟨k,rfl,?_⟩,rfl⟩;have:x∈l:=by rw[show x=y by simpa using zq];exact hm
    simp[this]
   .have zq:((x:Int)==y)=false:=by simpa using hy
    go_wp2;go_round
    case rel=>exact⟨k+1,by omega,by go_num,by rw[HT.out];simp[HN.out,hy]⟩
    case measure=>simp[Proofs.intOf];omega
  .have:k=l.length:=by omega
   have HN:=Ay hn;clear hn;go_wp2;go_ret;refine⟨⟨-1,rfl,?_⟩,rfl⟩;have h2:=HN.out;rw[Bb (by omega)] at h2;simp[h2]
def jC (A:Option bh)(c:Nat)(l:List Int)(x:Int)(w:Z)(B:Nat)(h:RI w B A l)(hl:l.length<=4611686018427387904) :
  q DU 35 #[N A l.length c,U F x] w λe w'=>e=.returned (.bool (decide (x∈l)))/\w=w':=by
 have HR:=Ay h;go_enter Sq.func35,Tryz.ntmps35;go_wp2_with fail;refine(vD A c l x w B HR.out hl).mono ?_;rintro e w' ⟨⟨j,rfl,hj⟩,rfl⟩;have HJ:=Ay hj;go_wp2;go_ret;refine⟨?_,rfl⟩;have:=HJ.out;show bk (.bool _)=_;rw[<-this]
def kQ (A A':Option bh)(c c':Nat)(l m:List Int)(w:Z)(B:Nat)(h:RI w B A l)(h':RI w B A' m)(hl:l.length<=4611686018427387904)(hm:m.length<=4611686018427387904) :
  q DU 50 #[N A l.length c,N A' m.length c'] w λe w'=>e=.returned (U F (IK l m))/\w=w':=by
 have HR:=Ay h;have a7:=Ay h';clear h h';go_enter Sq.func50,Tryz.ntmps50;go_wp2;go_loop [11] (λi=>∃k:Nat,k<=l.length/\k<=m.length/\i=U F k/\IK l m=IK (l.drop k) (m.drop k)) (λi=>l.length-(ak i).toNat)
 case atStart=>exact⟨0,by omega,by omega,rfl,rfl⟩
 case round =>
  obtain⟨k,hk,a8,rfl,hcm⟩:=hrel;have HC:=Ay hcm;clear hcm;by_cases zY:k<l.length
  .obtain⟨b,o,rfl,hb,hc⟩:=HR.out.at_ zY;by_cases a6:k<m.length
   .obtain⟨b',o',rfl,hb',hc'⟩:=a7.out.at_ a6;have HD:=Ay (qX l m k zY a6);generalize l[k]?.getD 0=x at hc HD;generalize m[k]?.getD 0=y at hc' HD;by_cases h1:x<y
    .have HS:=Ay (show dQ x y=-1 by simp[dQ,h1]);have hcc:q DU 87 #[U F x,U F y] w λe w'=>e=.returned (U F (-1))/\w=w':=by rw[<-HS.out];exact py x y w
     go_wp2_with (go_at_call 87;refine hcc.mono ?_;rintro e w' ⟨rfl,rfl⟩);go_ret;exact⟨ap (by rw[HC.out,HD.out,AF h1]),rfl⟩
    .by_cases h2:y<x
     .have HS:=Ay (show dQ x y=1 by simp[dQ,h1,h2]);have hcc:q DU 87 #[U F x,U F y] w λe w'=>e=.returned (U F 1)/\w=w':=by rw[<-HS.out];exact py x y w
      go_wp2_with (go_at_call 87;refine hcc.mono ?_;rintro e w' ⟨rfl,rfl⟩);go_ret;exact⟨ap (by rw[HC.out,HD.out,AD (by omega),AF h2]),rfl⟩
     .have HS:=Ay (show dQ x y=0 by simp[dQ,h1,h2]);have hcc:q DU 87 #[U F x,U F y] w λe w'=>e=.returned (U F 0)/\w=w':=by rw[<-HS.out];exact py x y w
      go_wp2_with (go_at_call 87;refine hcc.mono ?_;rintro e w' ⟨rfl,rfl⟩);go_round
      case rel=>exact⟨k+1,by omega,by omega,by go_num,by rw[HC.out,HD.out,AD (by omega),AD (by omega)]⟩
      case measure=>simp[Proofs.intOf];omega
   .have:k=m.length:=by omega
    have HS:=Ay (show IK l m=1 by rw[HC.out,bb (l:=m) (by omega)];exact qW _ (by simp;omega));clear this;go_wp2;go_ret;exact⟨ap HS.out.symm,rfl⟩
  .have aA:k=l.length:=by omega
   by_cases a6:l.length<m.length
   .have HS:=Ay (show IK l m=-1 by rw[HC.out,bb (l:=l) (by omega),lW,AD (by simp;omega)]);go_wp2;go_ret;exact⟨ap HS.out.symm,rfl⟩
   .have HS:=Ay (show IK l m=0 by rw[HC.out,bb (l:=l) (by omega),lW,AF (by simp;omega)]);go_wp2;go_ret;exact⟨ap HS.out.symm,rfl⟩
def yT (A:Option bh)(c:Nat)(l:List Int)(w:Z)(B:Nat)(h:RI w B A l)(hl:l.length<=1048576)(hx:∀x∈l,0<=x/\x<=1048576) :
  q DU 60 #[N A l.length c] w λe w'=>e=.returned (U F l.sum)/\w=w':=by
 have HR:=Ay h;have HX:=Ay hx;go_enter Sq.func60,Tryz.ntmps60;go_wp2;go_loop [3,8] (λs i=>∃k:Nat,k<=l.length/\i=U F k/\s=U F (l.take k).sum) (λ_ i=>l.length-(ak i).toNat)
 case atStart=>exact⟨0,by omega,rfl,by simp⟩
 case round =>
  obtain⟨k,hk,rfl,rfl⟩:=hrel;by_cases zY:k<l.length
  .obtain⟨b,o,rfl,hb,hc⟩:=HR.out.at_ zY;have HS:=Ay (jg l k zY);have hy:=HX.out _ (Ge l k zY);obtain⟨hs1,hs2⟩:=Hb 0 1048576 (l.take k) λy hy=>HX.out y (Cz hy);have hs3:((l.take k).length:Int)*1048576<=1048576*1048576:=by
    have:(l.take k).length<=1048576:=by rw[CT];omega
    omega
   have hs4:0<=(l.take k).sum:=by omega
   have hs5:(l.take k).sum<=1099511627776:=by omega
   generalize l[k]?.getD 0=y at hc HS hy;obtain⟨hy1,hy2⟩:=hy;go_wp2;go_round
   case rel=>exact⟨k+1,by omega,by go_num,by rw[HS.out]⟩
   case measure=>simp[Proofs.intOf];omega
  .have:k=l.length:=by omega
   have HS:=Ay (show(l.take k).sum=l.sum by rw[Bb (by omega)]);clear this;go_wp2;go_ret;exact⟨ap HS.out,rfl⟩
def iK (x:Nat)(w:Z)(hx:x<16):q DU 76 #[.int .u8 x] w λe w' =>
  ∃A c,e=.returned (N A (wl x).length c)/\RI w' w'.heap.size A (wl x)/\Gr w w':=(gQ x w hx).mono λe w' ⟨v,h1,h2,h3⟩=>by
 obtain⟨A,c,rfl,h4⟩:=Dn h2;exact⟨A,c,h1,h4,h3⟩
def q8 (cb:Nat)(c:D9)(x:Nat)(w:Z){nA hA:Option bh}{nc hc:Nat}(h:FE w w.heap.size cb c nA hA nc hc)(h4:c.DV.length<=4)(hd:∀h∈c.DV,1<=h.E3/\h.E3<=5)(hx:c.has x) :
  q DU 114 #[.pointer (Y ⟨cb,0,I⟩),.int .u8 x] w λe w'=>e=.returned (U F (c.E3 x))/\Gr w w':=by
 have HP:=Ay h;have HD:=Ay hd;have HX:=Ay hx;have a8:=Dp h4 hx;go_enter Sq.func114,Tryz.ntmps114;go_wp2_with fail;refine(iK x w a8).mono ?_;rintro e w1 ⟨A,cc,rfl,aA,zV⟩;have HR:=Ay aA;have HG:=Ay zV;have a6:=Ay (HP.out.gr (AA _) zV);have hl:=aY x;go_wp2;go_loop [5,11] (λs i=>∃k:Nat,k<=(wl x).length/\i=U F k/\s=U F ((c.JZ x).take k).sum) (λ_ i=>(wl x).length-(ak i).toNat)
 case atStart=>exact⟨0,by omega,rfl,by simp⟩
 case round =>
  obtain⟨k,hk,rfl,rfl⟩:=hrel;by_cases zY:k<(wl x).length
  .obtain⟨b,o,rfl,hb,hcell⟩:=HR.out.at_ zY;obtain⟨n,hn,a7,aF,aG⟩:=Kg HX.out zY;rw[hn] at hcell;have zp:=a6.out.c0;have zw:=a6.out.c1;obtain⟨zq,aH,rfl,aC,hh⟩:=a6.out.Fx.at_ a7;obtain⟨-,aD,-,-⟩:=hh;have HS:=Ay ((jg (c.JZ x) k (by rw[c.Kh];exact zY)).trans (by rw[c.OX zY hn]));obtain⟨hs1,hs2⟩:=MQ c HX.out HD.out k;obtain⟨aI,aJ⟩:=HD.out _ (c.Gs a7);have HN:=Ay hn
   go_wp2;go_round
   case rel=>exact⟨k+1,by omega,by go_num,by rw[HS.out]⟩
   case measure=>simp[Proofs.intOf];omega
  .have aB:k=(wl x).length:=by omega
   have HS:=Ay (show((c.JZ x).take k).sum=c.E3 x by rw[Bb (by rw[c.Kh];omega)];rfl);clear aB;go_wp2;go_ret;exact⟨ap HS.out,HG.out⟩
def vg (cb br n night:Nat)(c:D9)(w:Z){nA hA:Option bh}{nc hc:Nat}(h:FE w w.heap.size cb c nA hA nc hc)(hn:n<c.DV.length)(ho:(c.h n).off.length<=5)(a8:n<4) :
  q DU 111 #[.pointer (Y ⟨cb,0,I⟩),.pointer (Y ⟨br,0,I⟩),U F night,U F n] w λe w'=>e=.returned (.bool (Qu c night n))/\w=w':=by
 have zw:=h.c1;obtain⟨b,o,rfl,zY,hh⟩:=h.Fx.at_ hn;obtain⟨-,-,-,A,cc,a7,a6⟩:=hh;have HC:=Ay (jC A cc (c.h n).off night w w.heap.size a6 (by omega));go_enter Sq.func111,Tryz.ntmps111;go_wp2_with fail;refine HC.out.mono ?_;rintro e w' ⟨rfl,rfl⟩;go_wp2;go_ret;exact⟨rfl,rfl⟩
def oB (cb br n night:Nat)(r:Nat->Nat)(w:Z)(hr:GU w w.heap.size br r)(hn:n<4)(hi:night<5)(hx:r (night-1)<16) :
  q DU 112 #[.pointer (Y ⟨cb,0,I⟩),.pointer (Y ⟨br,0,I⟩),U F night,U F n] w λe w'=>e=.returned (.bool (fR r night n))/\w=w':=by
 obtain h0|h0:=Bs night
 .have HS:=Ay (show fR r night n=L by simp[fR,h0]);subst h0;go_enter Sq.func112,iv;go_wp2;go_ret;exact⟨au HS.out.symm,rfl⟩
 .obtain⟨m,rfl⟩:∃m,night=m+1:=⟨night-1,by omega⟩;have HS:=Ay (show fR r (m+1) n=(r m).testBit n by simp[fR]);have hc:=hr.2 m (by omega);rw[show m+1-1=m by omega] at hx;have HC:=Ay (jB (r m) n w hx hn);go_enter Sq.func112,iv;go_wp2_with fail;refine HC.out.mono ?_;rintro e w' ⟨rfl,rfl⟩;go_wp2;go_ret;exact⟨au HS.out.symm,rfl⟩
def oC (cb br n night:Nat)(c:D9)(r:Nat->Nat)(w:Z){nA hA:Option bh}{nc hc:Nat}(h:FE w w.heap.size cb c nA hA nc hc)(hr:GU w w.heap.size br r)(hn:n<c.DV.length)(a7:n<4)(hi:night<5)(hx:∀i,r i<16) :
  q DU 113 #[.pointer (Y ⟨cb,0,I⟩),.pointer (Y ⟨br,0,I⟩),U F night,U F n] w λe w'=>e=.returned (.bool (qZ c r night n))/\w=w':=by
 have HR:=Ay hr;have HX:=Ay hx;have zw:=h.c1;obtain⟨b,o,rfl,zY,hh⟩:=h.Fx.at_ hn;obtain⟨-,-,aA,-⟩:=hh;go_enter Sq.func113,Tryz.ntmps113;go_wp2;go_loop [9,12] (λs i=>∃k:Nat,k<=night/\i=U F k/\s=U F (Gt r n k)) (λ_ i=>night-(ak i).toNat)
 case atStart=>exact⟨0,by omega,rfl,rfl⟩
 case round =>
  obtain⟨k,hk,rfl,rfl⟩:=hrel;have zX:=qY r n k;by_cases zY:k<night
  .have hc:=HR.out.2 k (by omega);have a6:=HX.out k;cases hb:(r k).testBit n with
   |true =>
    have HC:Hid (q DU 110 #[.int .u8 (r k),U F n] w λe w'=>e=.returned (.bool E)/\w=w'):=Ay (by rw[<-hb];exact jB (r k) n w a6 a7);have HS:=Ay (show Gt r n (k+1)=Gt r n k+1 by simp[Gt,hb]);go_wp2_with (go_at_call 110;refine HC.out.mono ?_;rintro e w' ⟨rfl,rfl⟩);go_round
    case rel=>exact⟨k+1,by omega,by go_num,by rw[HS.out];go_num⟩
    case measure=>simp[Proofs.intOf];omega
   |false =>
    have HC:Hid (q DU 110 #[.int .u8 (r k),U F n] w λe w'=>e=.returned (.bool L)/\w=w'):=Ay (by rw[<-hb];exact jB (r k) n w a6 a7);have HS:=Ay (show Gt r n (k+1)=Gt r n k by simp[Gt,hb]);go_wp2_with (go_at_call 110;refine HC.out.mono ?_;rintro e w' ⟨rfl,rfl⟩);go_round
    case rel=>exact⟨k+1,by omega,by go_num,by rw[HS.out]⟩
    case measure=>simp[Proofs.intOf];omega
  .have a8:k=night:=by omega
   subst a8;go_wp2;go_ret;exact⟨rfl,rfl⟩
end Go.Sq
