/- Parts of the proof. -/
import Derived.Test.YtgllajjoinefcaaGreatP11
set_option linter.all false
set_option maxHeartbeats 16000000
set_option maxRecDepth 100000
open Go.Proofs.Tryz renaming prog->Z,func124->di,func79->dn,func122->dy,func125->dS,func201->ed,func203->ek,globals_size->ez,func80->eF,func88->eG,func45->eH,func47->eT,func123->fl,func126->fo,func127->fq,func200->fu,func202->fz,f79->gg,func78->gU,func46->hP,f14->hZ,func83->h9
open Option renaming some->Y,none->E
open Go.Value renaming pointer->J,slice->y,int->cd
open Bool renaming true->M,false->br
open Go renaming World->bb,Value->bk,FuncId->bw,Goroutine->cu,TypeId->df,Frame->dt,Calls->e8,callFunc->gB
open List.range renaming loop->bc
open Go.Obj renaming cells->bq
open List renaming range->bs,mem_append_right->eo,mem_append_left->er,any_eq_true->eC
open Go.Frame renaming finish_at->cf,enter->cw
open Go.IntKind renaming i64->ck
open Go.Conc renaming G->cq,crowd->dr,goes_go->ew,enter_at->gR
open Go.Instr renaming takeDeferred->eb
open Array renaming getD->Array.LE,setIfInBounds->Array.L
open Eq renaming symm->Eq.LT
open Go.Addr renaming block->Go.Addr.Lo
open Go.CallKind renaming deferred->Go.CallKind.L
open Go.Calls renaming mono->Go.Calls.LT
open Go.Code renaming block->Go.Code.Lo,region->Go.Code.L
open Go.Ending renaming returned->Go.Ending.L
open Go.Instr renaming alloc->Go.Instr.Li
open Go.Obj renaming deferred->Go.Obj.L
open Go.Op renaming alloc->Go.Op.Li
open Go.RowKit.Below renaming block->Go.RowKit.Below.Lo
open Go.TypeDesc renaming pointer->Go.TypeDesc.S
open Go.Value renaming pointer->Go.Value.S
open Go.World renaming alloc->Go.World.Li,cell?->Go.World.L,frozen?->Go.World.H,setCell->Go.World.LE
open List renaming contains->List.H,length->List.L,toArray->List.Li
open Option renaming getD->Option.LE
namespace Go.Sq
open Go.Proofs
open Go.RowKit Go.Em Go.Co Go.Conc
def sink (kx tl:Nat->Bool)(w:bb):World:={ w with heap:=w.heap.mapIdx λb o=>if tl b then .coro E else if kx b then(match o with|.cells c t _=>.cells c t (0,c.size)|o=>o) else o }
def ei (kx tl:Nat->Bool)(w:bb):(sink kx tl w).heap.size=w.heap.size:=by simp[sink]
def kC {kx tl:Nat->Bool}{w:bb}{b:Nat}(hb:b<w.heap.size)(h:tl b=M):(sink kx tl w).heap[b]?=Y (.coro E):=by
 simp[sink,CJ,AL hb,h]
def fP {kx tl:Nat->Bool}{w:bb}{b:Nat}{c:Array bk}{t:df}{f:Nat×Nat}(hw:w.heap[b]?=Y (.cells c t f))(h:kx b=M)(h':tl b=br):(sink kx tl w).heap[b]?=Y (.cells c t (0,c.size)):=by
 simp[sink,CJ,hw,h,h']
abbrev JS (tl:Nat->Bool)(w:bb):Hid:=⟨λb=>tl b||b==w.heap.size,br,M⟩
abbrev Ml (kx tl:Nat->Bool)(w:bb)(b:Nat):Prop:=kx b=M\/tl b=M\/b=w.heap.size\/b=w.heap.size+1\/b=w.heap.size+2
def Gx (kx tl:Nat->Bool)(w:bb)(cb:Nat)(p1:bk):World:=froze (froze ((((sink kx tl w).Li (.coro E)).Li (bq #[.S (Y ⟨cb,0,E⟩)] 112)).Li (bq #[p1] 156)) (w.heap.size+1)) (w.heap.size+2)
inductive N9:bk->Prop
 |bool (b:Bool):N9 (.bool b)
 |int (k:IntKind) (n:Int):N9 (.int k n)
def N9.rel {v V:bk}(h:N9 v){S S':Fu}{β DZ:Ef}(r:DX S β v V):DX S' DZ v V:=by
 cases h with
 |bool b=>cases r;exact .bool b
 |int k n=>cases r;exact .int k n
def Hc (o:Obj):Prop:=∃(l:List bk) (t:df) (f:Nat×Nat),o=.cells l.Li t f/\∀v∈l,N9 v
def Hc.rel {o O:Obj}(h:Hc o){S S':Fu}{Ck QF:Code->Prop}{β DZ:Ef}(r:EP S Ck β o O):EP S' QF DZ o O:=by
 obtain⟨l,t,f,rfl,hl⟩:=h;cases r with
 |cells a z=>exact .cells ⟨a.size,λi v V h1 h2=>(hl v (Cc (by simpa using h1))).rel (a.at_ i v V h1 h2)⟩ z
def Ll (β:Ef)(tl:Nat->Bool)(oK:Nat->Obj)(W:bb):Prop:=∀b B,β b B->tl b=M->∃O,W.heap[B]?=Y O/\∀(S:Fu) (Ck:Code->Prop) (DZ:Ef),EP S Ck DZ (oK b) O
structure I1 (SB Ep BB:bw->Bool)(w:bb)(kx tl:Nat->Bool)(Kc:Nat->Prop)(Ok:bb->Prop)(cb sb n c:Nat)(f:Fn)(fx fc:Array bk)(sets kind:Nat->Int)(FK:Nat->Bool)(oK oE:Nat->Obj):Prop where
 hB:BB 79=M
 Mk:BB 124=br
 Qh:SB 79=M
 Qi:SB 123=M
 L0:Mx PQ Ep Ep BB 0
 b0:∀f,Ep f=M->BB f=M
 Qj:Ep 121=M
 todo:∀H K,E3 (F6 Z SB H M M (EI K)) (.inRegion o8 []::T8) (.inRegion o8 []::T8)
 only:fh (Ml kx tl w) Ok
 ok:Ok (Gx kx tl w cb (.func f fx fc))
 Nt:∀w',Ok w'->w'.L ⟨w.heap.size+1,0,E⟩=Y (.S (Y ⟨cb,0,E⟩))
 hold:∀w',Ok w'->w'.L ⟨cb,2,E⟩=Y (.slice (Y ⟨sb,0,E⟩) n c)/\∃v,w'.L ⟨cb,0,E⟩=Y v
 KJ:∀w' i,Ok w'->i<n->w'.L ⟨sb,i,E⟩=Y (.int .u8 (sets i))
 F5:∀w' b,Ok w'->Kc b->kx b=M/\∃o,w'.heap[b]?=Y o/\EP (SP Ep Dd) (CK DP Ep br) (EI Kc) o o
 cK:Kc cb
 ks:kx cb=M/\kx sb=M
 Ql:∀b,kx b=M->tl b=br/\∃(l:List bk) (t:df) (g:Nat×Nat),w.heap[b]?=Y (.cells l.Li t g)/\(∀i,g.1<=i->i<g.2->i<l.L)/\∀v∈l,∀H,E5 SB H (λb=>kx b=M\/tl b=M) v
 QX:∀b,tl b=M->w.heap[b]?=Y (oK b)/\Hc (oK b)/\Hc (oE b)
 Ji:∀H,E5 SB H (λb=>kx b=M\/tl b=M) (.func f fx fc)
 wrap:∀i,i<n->IntKind.i64.wrap ((i:Int)+1)=((i+1:Nat):Int)
 KL:∀w' i,Ok w'->i<n->∀τ d,e8 DP 121 #[.S (Y ⟨cb,0,E⟩),.S (Y ⟨w'.heap.size,0,E⟩),cd ck 0] (on (w'.Li (first (sets i))) τ d) (λe w2=>∃v,e=.L v/\((∃y1 y2,v=.agg #[cd ck (kind i),cd ck y1,cd ck y2])/\Ext (w'.Li (first (sets i))) w2))
 tp0:FK 0=M
 QV:∀i,i<n->kind i≠0->FK (i+1)=FK i
 which:∀i,i<n->kind i=0->FK (i+1)=FK i\/(FK i=M/\FK (i+1)=br)
 plain:∀i r w',i<n->kind i=0->FK (i+1)=FK i->Ok w'->¬Ml kx tl w r->w'.heap[r]?=Y (bq #[.int .u8 (sets i),.int .u8 0,.int .u8 0,.int .u8 0,.int .u8 0] 115 (0,5)) ->
  EL Z BB (Jp Z w.heap.size λ_=>True) 0 (cq (cw Z 123 (bK (w.heap.size+1) (w.heap.size+2) w.heap.size r) .L) [bad]) w'
 owner:∀i r w',i<n->kind i=0->FK i=M->FK (i+1)=br->Ok w'->¬Ml kx tl w r->w'.heap[r]?=Y (bq #[.int .u8 (sets i),.int .u8 0,.int .u8 0,.int .u8 0,.int .u8 0] 115 (0,5)) ->
  EL Z BB (Jp Z w.heap.size λw2=>∀b,tl b=M->w2.heap[b]?=Y (oE b)) 0 (cq (cw Z 123 (bK (w.heap.size+1) (w.heap.size+2) w.heap.size r) .L) [bad]) (Hl tl oK w')
section
variable {SB Ep BB:bw->Bool} {w:bb} {kx tl:Nat->Bool} {Kc:Nat->Prop} {Ok:bb->Prop} {cb sb n c:Nat} {f:Fn} {fx fc:Array bk} {sets kind:Nat->Int} {FK:Nat->Bool} {oK oE:Nat->Obj}
def I1.lt (I:I1 SB Ep BB w kx tl Kc Ok cb sb n c f fx fc sets kind FK oK oE){b:Nat}(h:kx b=M\/tl b=M):b<w.heap.size:=by
 obtain h|h:=h
 .obtain⟨_,_,_,_,h1,_⟩:=I.Ql b h;exact(AC.1 h1).1
 .exact(AC.1 (I.QX b h).1).1
def Rw (BB:bw->Bool)(tl:Nat->Bool)(w:bb)(tp:Bool)(Mz:Bool)(H:Hid)(g:cu)(w':bb):Prop:=Mz=tp/\H=JS tl w/\D9 Z (E7 Z BB) (Em.Left Z 79 λv _=>v=.tuple #[]) g w'
def vW {BB:bw->Bool}(hB:BB 79=M){a:Act}{w':bb}(hd:a.defers=[]):D9 Z (E7 Z BB) (Em.Left Z 79 λv _=>v=.tuple #[]) (cq (((base 79).at a [.inRegion Kf [0]]).finish (.tuple #[])) [bad]) w' :=
 yd hB Em.Left.same hd (by simp) λa' ha'=>⟨w',.tuple #[],_,⟨rfl,rfl,rfl⟩,rfl,rfl,rfl,rfl,ha',rfl,gg,dn,results_none rfl _ _ _⟩
def I1.ctx (I:I1 SB Ep BB w kx tl Kc Ok cb sb n c f fx fc sets kind FK oK oE)(lib:∀H,Lib PP SB H M BB 0){L:Lib.WgLink}(Wl:Lib.WgLib Z L)(Mk:L.done=124)(hT:L.tWg=215)(a6:Go.Co.Barred PP SB M L.done (Lib.doneFn L))
    {Wg:Nat} {β:Ef} {Pr:Ef} {T:List dt} {zN:Nat->Prop} (aA:∀b B,Pr b B->tl b=M->zN B) (aB:∀b,tl b=M->∃B,Pr b B) (a8:∀b B,Pr b B->Ml kx tl w b) (hPw:Pr w.heap.size Wg) (aC:¬zN Wg) (a7:∀b B,tl b=M->(Pr b B↔β b B)) :
    Ctx SB Ep BB (JS tl w) 0 Wg zN (Ll β tl oK) (Ll β tl oE) Pr T (Rw BB tl w (FK n)) (Ml kx tl w) Kc Ok (w.heap.size+1) (w.heap.size+2) w.heap.size cb sb n c (.func f fx fc) sets kind FK:=by
  have hkb:Ml kx tl w (w.heap.size+1)/\Ml kx tl w (w.heap.size+2)/\Ml kx tl w w.heap.size:=⟨.inr (.inr (.inr (.inl rfl))),.inr (.inr (.inr (.inr rfl))),.inr (.inr (.inl rfl))⟩
  refine { hB := I.hB, Qh := I.Qh, Qi := I.Qi, L0 := I.L0, b0 := I.b0, Qj := I.Qj, todo := fun K => I.todo _ K, EX := rfl, bl := rfl, only := I.only, Nt := I.Nt, KJ := I.KJ, F5 := fun w' b h1 h2 => ?_, cK := I.cK,
           kb := ⟨hkb.1, hkb.2.1, hkb.2.2, .inl I.ks.1, .inl I.ks.2⟩, Ji := ((I.Ji _).LT fun b hb => hb.elim .inl fun h => .inr (.inl h)), wrap := I.wrap, KL := I.KL, QV := I.QV, fin := fun a w' hd _ => ⟨rfl, rfl, vW I.hB hd⟩,
           LR:=λtp H g w1 W1 hs h=>⟨h.1,h.2.1,h.2.2.same (λ_ _ _ _ x=>x) Em.Left.same hs⟩,go:=λi hi hk K a r x X W ga=>?_ }
  · obtain⟨h3,h4⟩:=I.F5 w' b h1 h2
    exact⟨.inl h3,h4⟩
  · have hm:=ga.KM I.only
    have zT:¬Ml kx tl w r:=λh=>ga.rK.1 (ga.head.sub _ h);obtain e|⟨e1,e2⟩:=I.which i hi hk
    · rw[e]
      exact tR lib Wl Mk hT a6 I.only hkb hPw a8 ga I.Mk (I.plain i r _ hi hk e hm.ok zT (dm ga.rb))
    · rw[e2]
      rw[e1] at ga ⊢;refine tS (tl:=tl) (oK:=oK) (Ψk:=λw2=>∀b,tl b=M->w2.heap[b]?=Y (oE b)) lib Wl Mk hT a6 I.only hkb hPw a8 ga aA aB (λb h=>by simp[h]) aC (λW hW b B hb h=>hW b B ((a7 b B h).1 hb) h) (λx W hH zX hw hk b B hb h=>?_) I.Mk (I.owner i r _ hi hk e1 e2 hm.ok zT (dm ga.rb));have hp:=zX b B ((a7 b B h).2 hb);obtain⟨o,O,h1,h2,h3⟩:=hw.FD b B hp (by rw[hH];simp[Df,h]);rw[hk b h] at h1;cases h1
      exact⟨O,h2,λS Ck DZ=>(I.QX b h).2.2.rel h3⟩
end
def step_collected {P:Program}{main:Bool}{b:dt}{a:Act}{todo:List Item}{cs:List dt}{w:bb}{D:Nat}{l ds:List Deferred}{x:Array bk}(hd:a.defers={ target:=.collected D,args:=x }::ds)(hD:w.heap[D]?=Y (.L (Y l))) :
  ∃es,stepG P main (cq { b.at a todo with mode:=.returning } cs) w=.go (cq { b.at ⟨a.tmps,l++ds⟩ todo with mode:=.returning } cs) { w with heap:=w.heap.L D (.L E) } es:=by
 have hr:(eb D).run P w=.ok l { w with heap:=w.heap.L D (.L E) }:=by
  simp[eb,getObj,setObj,Sem.run,hD,Result.andThen]
 exact⟨seen P b.fn ((eb D).events P w #[]),by simp[cq,stepG,unwind,Frame.at,hd,hr,GStep.after]⟩
noncomputable abbrev iK (b2 b3 b4 r:Nat):Array Value:=(dD b2 b3 b4 r).tmps
def yh:codeOk DP J3 br M Pu=true:=by kernel_rfl
def mH {BB:bw->Bool}(hL:MT BB){T0 K0:Nat->Prop}{b2 b3 b4 r:Nat}{H:Hid}(hn:H.bl=br){Ψ:bb->Prop}{w:bb}(hk:K0 b2/\K0 b3/\K0 b4/\K0 r)(hh:∀b,K0 b->H b=M->H.EX=M/\w.heap[b]?=Y (.coro E))(aB:∀b,H b=M->b<w.heap.size)
  (a7:∀b,K0 b->H b=br->∃o,w.heap[b]?=Y o/\EP (SP J3 H) (CK DP J3 br) (EI K0) o o)
  (aC:∀τ d,Pu.wp DP (λe a' w'=>(e=.normal\/e=.ret)/\(e=.normal/\Ψ w'/\∃D,a'.defers=[{ target:=.collected D,args:=#[] },LA b4]/\¬T0 D/\w'.heap[D]?=Y (.L (Y [])))) (dD b2 b3 b4 r) (on w τ d))
  (a6:∀W W',Ψ W->(∀b,T0 b->W'.heap[b]?=W.heap[b]?)->Ψ W') :
  EL Z BB (Jp Z b4 Ψ) 0 (cq (cw Z 123 (bK b2 b3 b4 r) .L) [bad]) w:=by
 have hB:BB (baseD 123).fn=true:=hL.sub 123 (by decide);have hQ:∀g w W,Ek w W->Jp Z b4 Ψ g w->Jp Z b4 Ψ g W:=by
  rintro g w W s ⟨c,e1,e2,e3,e4,e5,e6⟩;exact⟨c,e1,e2,e3,e4,e5,a6 w W e6 λb _=>by rw[s.1]⟩
 rw[enter_atD _ fl rfl];have e0:(bK b2 b3 b4 r++Array.replicate (Tryz.f123.ntmps-(bK b2 b3 b4 r).size) undef)=iK b2 b3 b4 r:=by
  rw[Tryz.ntmps123];rfl
 rw[e0];refine am hQ hB (Ei _ _) ?_;refine av hQ hB (Ei _ _) ?_;simp only[AR,AQ,AT,Nat.reduceAdd,AU,bs,bc];refine ar hQ hB (by kernel_rfl) λτ d=>?_;rw[stepG_defer rfl rfl (by decide) rfl];simp only[ew];refine⟨Ei _ _,w,Dc,?_⟩;refine au hQ hB (Ei _ _) ?_;have eA:∀o:Option Tmp,o=E->(Act.put ⟨iK b2 b3 b4 r,dcall 124 (#[Operand.tmp 0].map (Act.mk (iK b2 b3 b4 r) []).eval)::[]⟩ o undef)=dD b2 b3 b4 r:=by
  rintro o rfl;simp[Act.put,iK,dD,dcall,LA,Act.eval]
 have hI:∀v∈[J (Y ⟨b4,0,E⟩),.S (Y ⟨b2,0,E⟩),.S (Y ⟨r,0,E⟩),.S (Y ⟨b3,0,E⟩),undef,undef,undef,undef,undef,undef,undef,undef],E5 J3 H K0 v:=λv hv=>by
  simp only[AM,AK,or_false] at hv;obtain rfl|rfl|rfl|rfl|rfl|rfl|rfl|rfl|rfl|rfl|rfl|rfl:=hv
  .exact E5.ptr hk.2.2.1 _ _
  .exact E5.ptr hk.1 _ _
  .exact E5.ptr hk.2.2.2 _ _
  .exact E5.ptr hk.2.1 _ _
  all_goals exact E5.undef
 have zR:Ej DP J3 H br (EI K0) ((baseD 123).at (dD b2 b3 b4 r) [.code Pu]) ((baseD 123).at (dD b2 b3 b4 r) [.code Pu]):=by
  refine⟨rfl,E9 hI,.cons (.code yh) .nil,.cons ?_ .nil,.run,rfl,⟨(by show CallKind.deferred≠.early;decide),(by show J3 123=M;decide)⟩,.none⟩;refine .fn (.func (.inr (by decide))) (E9 (l:=[]) (by simp)) (E9 (l:=[.S (Y ⟨b4,0,E⟩)]) λv hv=>?_);simp only[AM,AK,or_false] at hv;subst hv;exact E5.ptr hk.2.2.1 _ _
 have a8:=(xY (H:=H) hL hn).seg (b:=baseD 123) (a:=dD b2 b3 b4 r) (c:=Pu) (k:=[]) (C:=bad) (cs:=[]) (Q:=Jp Z b4 Ψ) (w:=w) (K0:=K0) zR (λ_ _=>Bc _) (Bc _) hh aB
  a7 (λs h=>by cases h) (λ_ _ _ _ _ _ _ _ _ _ _ h=>by cases h) (.inr ⟨_,_,Sq.put fl rfl,rfl⟩) hQ
  (N:=λe a' w'=>e=.normal/\Ψ w'/\∃D,a'.defers=[{ target:=.collected D,args:=#[] },LA b4]/\¬T0 D/\w'.heap[D]?=Y (.L (Y []))) aC ?_ (λa' w' todo h _=>by cases h.1)
 .have e9:=eA (#[({ dst:=E,op:=Op.defer { callee:=Callee.value (Operand.func 124),args:=#[Operand.tmp 0],argTypes:=#[215] },type:=0,pos := "wolf.go:243",after:=#[],guard:=E }:Oper)][0].dst) rfl;rw[e9];exact a8
 .rintro a' w' ⟨_,aA,D,hd,hD,hDw⟩;show EL Z BB (Jp Z b4 Ψ) 0 _ w';refine ar hQ hB (by kernel_rfl) λτ d=>?_;rw[stepG_end];simp only[ew];refine⟨Ei _ _,w',Dc,?_⟩;refine dM hQ hB (by kernel_rfl) λτ d=>?_;obtain⟨es,e1⟩:=step_collected (P:=Z) (main:=M) (b:=baseD 123) (todo:=[]) (cs:=[bad]) (w:=on w' τ d) hd hDw;rw[e1];simp only[ew];refine⟨Ei _ _,{ w' with heap:=w'.heap.L D (.L E) },⟨rfl,rfl,rfl⟩,?_⟩
  refine dM hQ hB (by kernel_rfl) λτ d=>?_;rw[stepG_unwind_enter (f:=124) (args:=#[.S (Y ⟨b4,0,E⟩)]) (ds:=[]) rfl di (by kernel_rfl) rfl];simp only[ew];refine⟨Ei _ _,{ w' with heap:=w'.heap.L D (.L E) },⟨rfl,rfl,rfl⟩,.fin ?_⟩;rw[<-enter_atD _ di rfl];exact⟨_,rfl,rfl,rfl,rfl,rfl,a6 w' _ aA λb hb=>AV (λe:D=b=>hD (by rw[e];exact hb))⟩
open Go.ConcN
open Go.ConcR (WgAt wgBlock)
section
variable {SB Ep BB QY Rx:bw->Bool} {LU:Bool} {kx tl:Nat->Bool} {Kc:Nat->Prop} {Ok:bb->Prop} {cb sb n c:Nat} {f:Fn} {fx fc:Array bk} {sets kind:Nat->Int} {FK:Nat->Bool} {oK oE:Nat->Obj}
 {zO:Nat->Prop} {Kp:Ib} {x:Lone} {A:cu} {W:bb}
abbrev Ip (cb:Nat)(f:Fn)(fx fc:Array bk):Array Value:=#[.S (Y ⟨cb,0,E⟩),.func f fx fc]
noncomputable def inner (kx tl:Nat->Bool)(cb:Nat)(f:Fn)(fx fc:Array bk)(x:Lone)(A:cu):Lone :=
 ⟨Go.Em.ER (cw Z 79 (Ip cb f fx fc) .normal) [bad],(sink kx tl x.w).Li (.coro E),JS tl x.w,cut (λb=>kx b=M\/tl b=M) x.β,A.callers⟩
def jP:((sink kx tl x.w).Li (.coro E)).heap.size=x.w.heap.size+1:=by rw[aG,ei]
def ij {b:Nat}(hb:b<x.w.heap.size):((sink kx tl x.w).Li (.coro E)).heap[b]?=(sink kx tl x.w).heap[b]?:=by
 rw[aA,ei,AE (by omega)]
def LV (I:I1 SB Ep BB x.w kx tl Kc Ok cb sb n c f fx fc sets kind FK oK oE)(lib:∀H,Lib PP SB H M BB 0){cE:Code}(aD:Tryz.f79.body=Y cE)(aC:codeOk Z QY LU M cE=br)
  (ht:Tw PP QY Rx LU 0 zO Kp x A W) (hH:∀b,x.H b=br) {fr:dt} {cs:List dt} (hg:x.g=bZ PP 79 (Ip cb f fx fc) fr cs) :
  Fe PP SB BB M (inner kx tl cb f fx fc x A) A/\Gw PP SB M 0 (inner kx tl cb f fx fc x A) W/\(∀b,tl b=M->Ro (inner kx tl cb f fx fc x A).w b\/(inner kx tl cb f fx fc x A).H b=M)/\∀b,kx b=M->Ro (inner kx tl cb f fx fc x A).w b:=by
 have a7:=ht.gl.top;rw[hg] at a7;obtain⟨ARGS,eA,aA⟩:=LS (fa:=gg) (fb:=gg) dn dn aD aC rfl (by rw[Tryz.ntmps79];simp) a7;have aF:D6 (SP SB (JS tl x.w)) (EI λb=>kx b=M\/tl b=M) (Ip cb f fx fc) (Ip cb f fx fc):=E9 λv hv=>by
  simp only[AM,AK,or_false] at hv;obtain rfl|rfl:=hv
  .exact .ptr (.inl I.ks.1) _ _
  .exact I.Ji _
 refine⟨⟨?_,.base,⟨rfl,ht.gl.status.2⟩,⟨rfl,ht.gl.dying.2⟩,⟨rfl,ht.gl.offers.2⟩⟩,⟨⟨λh1 h2=>ht.wl.Fl.fn h1.2 h2.2,λh1 h2=>ht.wl.Fl.inj h1.2 h2.2,λ_=>⟨Bc _,Bc _⟩⟩,⟨Bc _,Bc _⟩,?_,?_,?_,?_⟩,λb hb=>.inr (by simp[inner,hb]),λb hb=>?_⟩
 .rw[eA];exact E4 (P:=PP) (lib _) (.inl I.Qh) (aA.cut rfl aF) .normal (by decide)
 .rintro b B ⟨hk,hb⟩ hh;have a6:(tl b||b==x.w.heap.size)=false:=hh;simp only[Cb] at a6;have a8:kx b=true:=hk.resolve_right (by simp[a6.1]);obtain⟨e1,l,t,g,e2,e3,e4⟩:=I.Ql b a8;obtain⟨o,O,q1,q2,q3⟩:=ht.wl.FD b B hb (hH b);rw[e2] at q1;cases q1;have zY:=I.lt (.inl a8);cases q3 with
  |cells a z =>
   refine⟨_,_,(ij zY).trans (fP e2 a8 e1),q2,.cells (a.cut rfl (E9 λv hv=>e4 v hv _)) λi h1 h2=>?_⟩;obtain⟨z1,z2⟩:=z i h1 h2;exact⟨Bc _,by simpa using e3 i z1 z2⟩
 .rintro b B ⟨hk,hb⟩ hh;have zY:=I.lt hk;have a6:(tl b||b==x.w.heap.size)=true:=hh;have aB:tl b=true:=by
   simp only[Bm,beq_iff_eq] at a6;exact a6.resolve_right (by omega)
  refine⟨(ij zY).trans (kC zY aB),λ_=>?_,λh=>by cases h⟩;obtain⟨e1,⟨l,t,g,e2,e3⟩,_⟩:=I.QX b aB;obtain⟨o,O,q1,q2,q3⟩:=ht.wl.FD b B hb (hH b);rw[e1,e2] at q1;cases q1;cases q3 with
  |cells a z=>exact⟨_,_,_,q2⟩
 .intro b hb;have hb':(tl b||b==x.w.heap.size)=true:=hb;show b<((sink kx tl x.w).Li (.coro E)).heap.size;rw[jP];simp only[Bm,beq_iff_eq] at hb';obtain h|h:=hb'
  .have:=I.lt (.inr h);omega
  .omega
 .exact ht.wl.env
 .obtain⟨e1,l,t,g,e2,e3,e4⟩:=I.Ql b hb;exact⟨_,_,_,(ij (I.lt (.inl hb))).trans (fP e2 hb e1),λi hi=>⟨Bc _,hi⟩⟩
def PF {p:Program}{H:Hid}{zZ:Bool}{β:Ef}{g:bw}{a:Act}{ops:Array Oper}{l:List Nat}{k:List Item}{F:dt}(h:Ej p SB H zZ β ((base g).at a (.inRegion ops l::k)) F) :
  ∃(a':Act) (K:List Item),F=(base g).at a' (.inRegion ops l::K):=by
 obtain⟨h1,h2,h3,h4,h5,h6,h7,h8⟩:=h;obtain⟨f1,f2,f3,f4,f5,f6,f7⟩:=F;dsimp only[Frame.at,base] at h1 h2 h3 h4 h5 h6 h7 h8;subst h1 h6;cases h5;cases h8;cases h3 with
 |cons hi _ =>
  cases hi
  exact⟨⟨f2,f4⟩,_,rfl⟩
noncomputable abbrev gA (cb b2 b3:Nat)(p1:bk):Act:=⟨#[.S (Y ⟨cb,0,E⟩),p1,.S (Y ⟨b2,0,E⟩),.S (Y ⟨b3,0,E⟩),undef,undef,undef,undef,undef,undef,undef,undef,undef,undef,undef,undef,undef,undef,undef,undef,undef,undef,undef,undef,undef,undef,undef],[]⟩
noncomputable abbrev kA:List Item:=[.code (.seq (.seq (.L 2 o2 br) (.Lo 0 (.loop eL))) (.L 10 Kf br))]
def boxed (w:bb)(cb:Nat)(p1:bk):World:=(w.Li (bq #[.S (Y ⟨cb,0,E⟩)] 112)).Li (bq #[p1] 156)
def QA (cb:Nat)(p1:bk)(w0:bb)(g:cu)(w:bb):Prop:=g=G ((base 79).at (gA cb w0.heap.size (w0.heap.size+1) p1) (.inRegion o1 [0]::kA)) [bad]/\Ek (boxed w0 cb p1) w
def MD {P:Er}{zZ:Bool}(hBB:BB 79=M){x:Lone}{a:cu}{W:bb}{cb b2 b3 b4:Nat}{p1:bk}(hg:x.g=G ((base 79).at (gA cb b2 b3 p1) (.inRegion o1 [0]::kA)) [bad])(zQ:Fe P SB BB zZ x a)
  {β:Ef} (zX:x.β.le β) (hb4:β b4 W.heap.size) :
  ∃a',stepG Z M a W=.go a' (W.Li (bq #[.int .u64 0,.int .u32 0] 215)) #[]/\Fe P SB BB zZ ⟨G ((base 79).at ((gA cb b2 b3 p1).put (Y 4) (.S (Y ⟨b4,0,E⟩))) (.inRegion o1 []::kA)) [bad],x.w,x.H,β,x.T⟩ a':=by
 have a6:=zQ.top.IZ (by rw[hg];exact hBB);have zW:=zQ.callers;have ea:=ii zQ;rw[hg] at a6 zW;obtain⟨A,K,eA⟩:=PF a6;refine⟨_,by rw[ea,eA];exact pT,?_⟩;have hf:=bf (a6.LT zX) (v:=.S (Y ⟨b4,0,E⟩)) (V:=.S (Y ⟨W.heap.size,0,E⟩)) (.ptr 0 E hb4);rw[eA] at hf;have e1:(o1[0]?).bind (·.dst)=Y 4:=rfl;change Ej _ _ _ _ _ (((base 79).at (gA cb b2 b3 p1) (.inRegion o1 [0]::kA)).finish _) _ at hf
 rw[cf,cf,e1] at hf;exact⟨.on hf,zW.LT λc C h=>h.LT zX,⟨rfl,rfl⟩,⟨rfl,rfl⟩,⟨rfl,rfl⟩⟩
def vY {cb:Nat}{p1:bk}{w0:bb}(g:cu)(w W:bb)(h:Ek w W)(q:QA cb p1 w0 g w):QA cb p1 w0 g W:=⟨q.1,q.2.trans h⟩
def pZ (hB:BB 79=M){w:bb}:D9 Z (E7 Z BB) (QA cb (.func f fx fc) w) (Go.Em.ER (cw Z 79 (Ip cb f fx fc) .normal) [bad]) w :=
 vP hB vY (by simp) (.fin ⟨rfl,rfl,rfl,rfl⟩)
def bi (w:bb)(p1:bk)(b:Nat):(Gx kx tl w cb p1).heap[b]?=if b=w.heap.size+2 then Y (bq #[p1] 156 (0,1)) else if b=w.heap.size+1 then Y (bq #[.S (Y ⟨cb,0,E⟩)] 112 (0,1)) else if b=w.heap.size then Y (.coro E) else(sink kx tl w).heap[b]?:=by
 have z:=ei kx tl w;have g:∀b,((((sink kx tl w).Li (.coro E)).Li (bq #[.S (Y ⟨cb,0,E⟩)] 112)).Li (bq #[p1] 156)).heap[b]?=if b=w.heap.size+2 then Y (bq #[p1] 156) else if b=w.heap.size+1 then Y (bq #[.S (Y ⟨cb,0,E⟩)] 112) else if b=w.heap.size then Y (.coro E) else(sink kx tl w).heap[b]?:=λb=>by
  rw[aA,aG,aG,aA,aG,aA,z]
 unfold Gx;by_cases h2:b=w.heap.size+2
 .subst h2;rw[AJ rfl];exact dm (c:=#[p1]) (t:=156) (f:=(0,0)) (by rw[fg _ (by omega),g,AJ rfl])
 .rw[AE h2,fg _ h2];by_cases h1:b=w.heap.size+1
  .subst h1;rw[AJ rfl];exact dm (c:=#[.S (Y ⟨cb,0,E⟩)]) (t:=112) (f:=(0,0)) (by rw[g,AE (by omega),AJ rfl])
  .rw[AE h1,fg _ h1,g,AE h2,AE h1]
def dX (w:bb)(p1:bk):(Gx kx tl w cb p1).heap.size=w.heap.size+3:=by
 unfold Gx;rw[cS,cS,aG,aG,aG,ei]
def rF (w:bb)(p1:bk):(Gx kx tl w cb p1).os=w.os:=by
 unfold Gx;rw[gj,gj];rfl
def p5 (I:I1 SB Ep BB x.w kx tl Kc Ok cb sb n c f fx fc sets kind FK oK oE):Head SB (JS tl x.w) 0 (Ml kx tl x.w) Ok (Ml kx tl x.w) (Gx kx tl x.w cb (.func f fx fc)):=by
 have hk:∀b,kx b=M\/tl b=M->b<x.w.heap.size:=λb h=>I.lt h;refine⟨λ_ h=>h,λb hb hh=>?_,λb hb hh=>?_,λ_ _=>Bc _,λb hb=>?_,λb hb=>?_,Bc _,I.ok⟩
 .have a6:(tl b||b==x.w.heap.size)=false:=hh;simp only[Cb,beq_eq_false_iff_ne] at a6;rw[bi];unfold Ro;rw[bi];obtain h|h|h|h|h:=hb
  .have hl:=hk b (.inl h);obtain⟨e1,l,t,g,e2,e3,e4⟩:=I.Ql b h;rw[AE (by omega),AE (by omega),AE (by omega),fP e2 h e1];exact⟨⟨_,_,_,rfl,λi hi=>⟨Bc _,hi⟩⟩,_,rfl,.cells (E9 λv hv=>(e4 v hv _).LT λb hb=>hb.elim .inl λh=>.inr (.inl h)) λi h1 h2=>⟨h1,h2⟩⟩
  .rw[a6.1] at h;cases h
  .exact AH h a6.2
  .subst h;rw[AE (by omega),AJ rfl]
   exact⟨⟨_,_,_,rfl,λi hi=>⟨Bc _,hi⟩⟩,_,rfl,.cells (E9 (l:=[_]) λv hv=>by
    simp only[AM,AK,or_false] at hv;subst hv
    exact .ptr (.inl I.ks.1) _ _) λi h1 h2=>⟨h1,h2⟩⟩
  .subst h;rw[AJ rfl]
   exact⟨⟨_,_,_,rfl,λi hi=>⟨Bc _,hi⟩⟩,_,rfl,.cells (E9 (l:=[_]) λv hv=>by
    simp only[AM,AK,or_false] at hv;subst hv
    exact(I.Ji _).LT λb hb=>hb.elim .inl λh=>.inr (.inl h)) λi h1 h2=>⟨h1,h2⟩⟩
 .have a6:(tl b||b==x.w.heap.size)=true:=hh;simp only[Bm,beq_iff_eq] at a6;rw[bi];obtain h|h:=a6
  .have hl:=hk b (.inr h);rw[AE (by omega),AE (by omega),AE (by omega),kC hl h]
  .subst h;rw[AE (by omega),AE (by omega),AJ rfl]
 .rw[dX];obtain h|h|h|h|h:=hb
  .have:=hk b (.inl h);omega
  .have:=hk b (.inr h);omega
  all_goals omega
 .have hb':(tl b||b==x.w.heap.size)=true:=hb;simp only[Bm,beq_iff_eq] at hb';rw[dX];obtain h|h:=hb'
  .have:=hk b (.inr h);omega
  .omega
def oF (tpn:Bool)(oK oE:Nat->Obj):Nat->Obj:=if tpn then oK else oE
def K7 {sl:Option (Nat×Nat)}{gs:Array cu}{t:Trace}{q:Nat->Nat}(I:I1 SB Ep BB x.w kx tl Kc Ok cb sb n c f fx fc sets kind FK oK oE)(lib:∀H,Lib PP SB H M BB 0){cE:Code}(cV:Tryz.f79.body=Y cE)(cG:codeOk Z QY LU M cE=br)
  {L:Lib.WgLink} (Wl:Lib.WgLib Z L) (h91:L.add=122) (h94:L.wait=125) (Mk:L.done=124) (hT:L.tWg=215) (bA:Go.Co.Barred PP SB M L.add (Lib.addFn L)) (bW:Go.Co.Barred PP SB M L.wait (Lib.waitFn L)) (bD:Go.Co.Barred PP SB M L.done (Lib.doneFn L))
  (hb:I9 Z zO gs W t q) (ht:Tw PP QY Rx LU 0 zO Kp x A W) (h0:gs[0]?=Y A) {fr:dt} {cs:List dt} (hg:x.g=bZ PP 79 (Ip cb f fx fc) fr cs) (hc:ff fr) (hH:∀b,x.H b=br)
  (aV:∀b,kx b=M\/tl b=M->∃B,x.β b B) (hKp:∀b B,x.β b B->tl b=M->¬Kp.at_ B) (JN:gs.size+n<=2147483647) :
  ∃N m' t',runNT Z N (dr gs W sl) t=(.next m',t')/\∃gs' W' sl' q' A' aJ,m'=dr gs' W' sl'/\gs'[0]?=Y A'/\gs'.size<=gs.size+n/\I9 Z aJ gs' W' t' q' /\
   Tw PP QY Rx LU 0 aJ Kp ⟨back fr cs,Hl tl (oF (FK n) oK oE) x.w,x.H,x.β,x.T⟩ A' W'/\(W'.os=W.os/\W'.output=W.output)/\W.heap.size<=W'.heap.size/\∀B,aJ B->zO B\/W.heap.size<=B:=by
 obtain⟨s1,s2,s3,s4⟩:=LV I lib cV cG ht hH hg;have zW:=ht.gl.callers;rw[hg] at zW;obtain⟨FR,CS,cW,r1,r2⟩:=Jo zW hc;have a8:∀b B,x.β b B->¬zO B:=λb B hb hd=>by have:=ht.dead b B hb hd;rw[hH] at this;cases this
 have aD:∀b B,x.β b B->b<x.w.heap.size/\B<W.heap.size:=λb B h=>ht.wl.lt h;have bC:∀b,kx b=M\/tl b=M->b<x.w.heap.size:=λb h=>I.lt h;have aP:((sink kx tl x.w).Li (.coro E)).heap.size=x.w.heap.size+1:=jP;have kx0:∀b B,(inner kx tl cb f fx fc x A).β b B->(inner kx tl cb f fx fc x A).H b=M\/Ro (inner kx tl cb f fx fc x A).w b:=λb B hb=>hb.1.elim (λh=>.inr (s4 b h)) λh=>.inl (by simp[inner,h])
 obtain⟨N1,m1,t1,zi,c4,W1,bE,q1,x1,a1,rfl,g1,z1,b1,aW,Q1,bF,eT1,c5,os1,sz1,sz1',bG⟩:=J5 (P:=PP) (SB:=SB) (BB:=BB) (zZ:=M) (Gn:=0) (zO:=zO) (Kp:=⟨λB=>B<W.heap.size,W,0⟩) lib
  (H:=JS tl x.w) (T:=A.callers) (β:=cut (λb=>kx b=M\/tl b=M) x.β) (Q:=QA cb (.func f fx fc) ((sink kx tl x.w).Li (.coro E))) (os:=W.os) (ou:=W) (n:=gs.size) (b0:=x.w.heap.size+1) (B0:=W.heap.size) _ (dr gs W sl) t
  ⟨gs,W,sl,q,inner kx tl cb f fx fc x A,A,rfl,h0,rfl,hb,⟨s1,s2,rfl,λb B hb hd=>AH hd (a8 b B hb.2),λB hB=>⟨hB,rfl⟩,λb B hb _=>kx0 b B hb⟩,pZ I.hB,rfl,rfl,Ef.le_refl _,⟨rfl,rfl⟩,⟨AD _,B9 aP.LT,λb B h=>.inl h⟩,rfl⟩
 obtain⟨Q1g,bH⟩:=Q1;rw[aP] at Q1g;obtain⟨N2,m2,t2,zz,cY,d2,aQ,q2,cA,g2,z2,b2⟩:=K6 (P:=PP) (sl:=bE) b1 g1 aW.gl.status.2;obtain⟨W2,zn⟩:∃W2,W2=W1.at d2:=⟨_,rfl⟩;have aR:=aW.at d2;rw[<-zn] at cA b2 aR;have W2h:W2.heap=W1.heap:=by rw[zn];rfl
 have W2o:W2.os=W1.os/\W2.output=W1.output:=by rw[zn];exact⟨rfl,rfl⟩
 have aU:∀b B,tl b=M->(x1.β b B↔x.β b B):=λb B h=>by
  obtain⟨B',hB'⟩:=aV b (.inr h);have h1:=c5 b B' ⟨.inr h,hB'⟩;exact⟨λh2=>by rw[aW.wl.Fl.fn h2 h1];exact hB',λh2=>c5 b B ⟨.inr h,h2⟩⟩
 have aX:∀B,¬x1.β x.w.heap.size B:=λB h=>by
  obtain h|h:=bG _ _ h
  .have:=bC _ h.1;omega
  .omega
 have lt1:∀b B,x1.β b B->B<W2.heap.size:=λb B h=>by rw[W2h];exact(aW.wl.lt h).2
 have I2:∀b B,x1.β b B->B<W.heap.size->x.β b B/\(kx b=M\/tl b=M):=λb B h hB=>by
  obtain h|h:=bG _ _ h
  .exact⟨h.2,h.1⟩
  .omega
 obtain⟨a6,aK⟩:∃a6,a6=more x1.β x.w.heap.size W2.heap.size:=⟨_,rfl⟩;have cB:x1.β.le a6:=by rw[aK];exact oL _ _ _
 have aS:∀b B,a6 b B->x1.β b B\/(b=x.w.heap.size/\B=W2.heap.size):=λb B h=>by rw[aK] at h;exact h
 have aL:a6 x.w.heap.size W2.heap.size:=by rw[aK];exact .inr ⟨rfl,rfl⟩
 obtain⟨A3,st3,gl3⟩:=MD I.hB Q1g aR.gl cB aL;obtain⟨W3,hW3⟩:∃W3,W3=W2.Li (bq #[.int .u64 0,.int .u32 0] 215):=⟨_,rfl⟩;rw[<-hW3] at st3;have bT:∀B,B<W2.heap.size->W3.heap[B]?=W2.heap[B]?:=λB h=>by rw[hW3,aA,AE (by omega)]
 have cX:W3.heap.size=W2.heap.size+1:=by rw[hW3,aG]
 have bI:W3.os=W2.os/\W3.output=W2.output:=by rw[hW3];exact⟨rfl,rfl⟩
 obtain⟨aY,cH,z3,g3,lv3⟩:=b2.QW (P:=PP) (sl:=aQ) g2 st3;have hr3:runNT Z (N1+(N2+1)) (dr gs W sl) t=(.next (dr aY W3 aQ),t2):=by
  have e1:runNT Z N1 (dr gs W sl) t=(.next (dr c4 W1 bE),t1):=zi;have e2:runNT Z N2 (dr c4 W1 bE) t1=(.next m2,t2):=zz;have e3:stepT Z m2=(.next (dr aY W3 aQ),#[]):=cA.trans cH;rw[cT e1,cT e2,oN e3,Array.append_empty]
 have wl3:EA (SP SB (JS tl x.w)) (CK Z SB M) 0 a6 (Gx kx tl x.w cb (.func f fx fc)) W3:=by
  have e1:EA (SP SB (JS tl x.w)) (CK Z SB M) 0 x1.β x1.w W2:=by have:=aR.wl;rw[Gw,bF] at this;exact this
  have bx:∀b,x1.w.heap[b]?=if b=x.w.heap.size+2 then Y (bq #[.func f fx fc] 156) else if b=x.w.heap.size+1 then Y (bq #[.S (Y ⟨cb,0,E⟩)] 112) else if b=x.w.heap.size then Y (.coro E) else(sink kx tl x.w).heap[b]?:=λb=>by
   rw[bH.1,boxed,aA,aG,aP,aA,aP,aA,ei]
  have e2:=rB (c:=#[.int .u64 0,.int .u32 0]) (ty:=215) (f:=(0,0)) e1 (b:=x.w.heap.size) aX (by simp) rfl (by rw[bx,AE (by omega),AE (by omega),AJ rfl]) (Bc _);rw[<-aK] at e2;rw[hW3];refine rE e2 ?_ ?_ λb=>?_
  .rw[dX,bH.1,boxed,aG,aG,aP]
  .rw[rF,bH.2.1];rfl
  .rw[bi,bx];by_cases h2:b=x.w.heap.size+2
   .rw[AJ h2,AJ h2];exact .inr ⟨_,_,_,_,rfl,rfl,λi h1 h2=>by simp at h2⟩
   .rw[AE h2,AE h2];by_cases h1:b=x.w.heap.size+1
    .rw[AJ h1,AJ h1];exact .inr ⟨_,_,_,_,rfl,rfl,λi h1 h2=>by simp at h2⟩
    .rw[AE h1,AE h1];exact .inl rfl
 obtain⟨zN,a7⟩:∃zN:Nat->Prop,zN=λB=>∃b,tl b=M/\x.β b B:=⟨_,rfl⟩;obtain⟨Pr,aB⟩:∃Pr:Ef,Pr=cut (Ml kx tl x.w) a6:=⟨_,rfl⟩;have aC:∀B,zN B->B<W.heap.size:=λB h=>by rw[a7] at h;obtain⟨b,_,h⟩:=h;exact(aD _ _ h).2
 have W23:W2.heap.size=W1.heap.size:=by rw[W2h]
 have n0:∀b,kx b=M\/tl b=M->b≠x.w.heap.size:=λb h e=>by have:=bC b h;omega
 have aM:∀b B,tl b=M->(a6 b B↔x.β b B):=λb B h=>⟨λh3=>by
  obtain h4|h4:=aS b B h3
  .exact(aU b B h).1 h4
  .exact AH h4.1 (n0 b (.inr h)),λh3=>cB _ _ ((aU b B h).2 h3)⟩
 have bJ:∀b B,a6 b B->zN B->tl b=true:=λb B h hB=>by
  have zY:=aC B hB;rw[a7] at hB;obtain⟨b',h1,h2⟩:=hB;obtain h4|h4:=aS b B h
  .have h5:=(I2 b B h4 zY).1;rw[ht.wl.Fl.inj h5 h2];exact h1
  .omega
 have C:=I.ctx (β:=x.β) (Pr:=Pr) (T:=A.callers) (zN:=zN) (Wg:=W2.heap.size) lib Wl Mk hT bD (λb B h1 h2=>by rw[aB] at h1;rw[a7];exact⟨b,h2,(aM b B h2).1 h1.2⟩)
  (λb h=>by obtain⟨B,hB⟩:=aV b (.inr h);exact⟨B,by rw[aB];exact⟨.inr (.inl h),(aM b B h).2 hB⟩⟩) (λb B h=>by rw[aB] at h;exact h.1) (by rw[aB];exact⟨.inr (.inr (.inl rfl)),aL⟩) (λh=>by have:=aC _ h;omega)
  (λb B h=>by rw[aB];exact⟨λh1=>(aM b B h).1 h1.2,λh1=>⟨.inr (.inl h),(aM b B h).2 h1⟩⟩)
 have Lu:=p5 I;have sw:∀b,b<x.w.heap.size+3->(Gx kx tl x.w cb (.func f fx fc)).heap[b]?≠none:=λb hb=>by rw[Ne,Array.getElem?_eq_none_iff,dX];omega
 have scr : PC PP SB BB M 0 215 W2.heap.size zN (Ll x.β tl oK) (Ll x.β tl oE) 122 125 x.w.heap.size Pr A.callers (Rw BB tl x.w (FK n)) n M (JS tl x.w)
   (G ((base 79).at ((gA cb (x.w.heap.size+1) (x.w.heap.size+1+1) (.func f fx fc)).put (Y 4) (.S (Y ⟨x.w.heap.size,0,E⟩))) (.inRegion o1 []::kA)) [bad]) (Gx kx tl x.w cb (.func f fx fc)):=by
  obtain⟨e1,v,e2⟩:=I.hold _ I.ok;refine vQ I.hB (dp C.LR n) (by simp) (I.Nt _ I.ok) e1 e2 ?_
  have:=tQ C (λb B h=>by rw[aB] at h;exact h.1) n 0 (by omega) (Ml kx tl x.w) _ Lu undef undef undef (.S (Y ⟨cb,0,E⟩)) (.S (Y ⟨cb,0,E⟩)) (.S (Y ⟨cb,2,E⟩)) undef undef undef undef undef undef undef undef undef undef undef undef undef (λv hv=>by
   simp only[AM,AK,or_false] at hv
   rcases hv with rfl|rfl|rfl|rfl|rfl|rfl|rfl|rfl|rfl|rfl|rfl<;>first|exact DX.undef _ _|exact .ptr (.inl I.ks.1) _ _)
  rw[I.tp0] at this;exact this
 have bU:=aR.keep;have bK:∀B,B<W.heap.size->W3.heap[B]?=W.heap[B]?:=λB hB=>by
  obtain⟨h1,h2⟩:=bU B hB;rw[bT B h1];exact h2
 have bV:W3.os=W.os/\W3.output=W.output:=⟨bI.1.trans (W2o.1.trans os1.1),bI.2.trans (W2o.2.trans os1.2)⟩;obtain⟨x3,hx3⟩:∃x3:Lone,x3=⟨G ((base 79).at ((gA cb (x.w.heap.size+1) (x.w.heap.size+1+1) (.func f fx fc)).put (Y 4) (.S (Y ⟨x.w.heap.size,0,E⟩))) (.inRegion o1 []::kA)) [bad],Gx kx tl x.w cb (.func f fx fc),JS tl x.w,a6,A.callers⟩:=⟨_,rfl⟩;have cI:Fe PP SB BB M x3 A3:=by rw[hx3];rw[bF,eT1] at gl3;exact gl3
 have b3:x3.β=a6:=by rw[hx3]
 have H3:x3.H=JS tl x.w:=by rw[hx3]
 have wg3:∀b,a6 b W2.heap.size->(JS tl x.w).at_ b=true:=λb hb=>by
  obtain h|h:=aS _ _ hb
  .have:=lt1 _ _ h;omega
  .simp[h.1]
 have nd3:∀b B,a6 b B->¬zO B:=λb B hb hd=>by
  obtain h|h:=aS _ _ hb
  .have h1:=aR.dead b B h hd;rw[bF] at h1;simp only[Bm,beq_iff_eq] at h1;obtain h1|rfl:=h1
   .exact a8 b B ((aU b B h1).1 h) hd
   .exact aX _ h
  .have:=b2.Li B hd;omega
 have bL:∀b B,a6 b B->B<W.heap.size->(JS tl x.w).at_ b=M\/Ro (Gx kx tl x.w cb (.func f fx fc)) b:=λb B hb hB=>by
  obtain h|h:=aS _ _ hb
  .obtain h|h:=(I2 b B h hB).2
   .have hl:=bC b (.inl h);obtain⟨q1,l,ty,g,q2,q3,q4⟩:=I.Ql b h;refine .inr ?_;unfold Ro;rw[bi,AE (by omega),AE (by omega),AE (by omega),fP q2 h q1];exact⟨_,_,_,rfl,λi hi=>⟨Bc _,hi⟩⟩
   .exact .inl (by simp[h])
  .exact .inl (by simp[h.1])
 have bX:Ll x.β tl oK W3:=λb B hb h=>by
  obtain⟨o,O,p1,p2,p3⟩:=ht.wl.FD b B hb (hH b);obtain⟨q1,q2,_⟩:=I.QX b h;rw[q1] at p1;cases p1;exact⟨O,(bK B (aD b B hb).2).trans p2,λS Ck DZ=>q2.rel p3⟩
 obtain⟨μ,hinv⟩:=LO (P:=PP) (SB:=SB) (BB:=BB) (zZ:=M) (Gn:=0) (ty:=215) (Wg:=W2.heap.size) (zO:=zO) (zN:=zN) (Kp:=⟨λB=>B<W.heap.size/\¬zN B,W,gs.size+n⟩) (Ψ0:=Ll x.β tl oK) (Ψ2:=Ll x.β tl oE) (fA:=122) (fW:=125) (wl:=x.w.heap.size) (Pr:=Pr) (T:=A.callers) (Fn:=Rw BB tl x.w (FK n))
  (gs:=aY) (W:=W3) (t:=t2) (q:=q2) (sl:=aQ) (x:=x3) (a:=A3) (tp:=M) (k:=n) lv3 b2.past b2.quiet (λi op h=>by rw[z3];exact b2.N7 i op h) b2.Li (by show W3.heap[W2.heap.size]?=_;rw[hW3,aA,AJ rfl];rfl) g3
  cI (by rw[hx3];exact wl3) (by rw[H3]) (by rw[hx3]) (λb B h=>by rw[aB] at h;rw[b3];exact h.2) (λb hb=>by rw[b3] at hb;rw[H3];exact wg3 b hb) (λb B hb=>by rw[b3] at hb;exact nd3 b B hb) (λb B hb hB=>by rw[b3] at hb;rw[H3];simp[bJ b B hb hB])
  (λB hB=>⟨⟨by have:=aC B hB;omega,λhd=>by rw[a7] at hB;obtain⟨b,_,h⟩:=hB;exact a8 _ _ h hd⟩,λh=>h.2 hB,by have:=aC B hB;omega⟩)
  (λB hB=>⟨by have:=hB.1;omega,by have:=hB.1;omega,bK B hB.1⟩) (λb B hb hB=>by rw[b3] at hb;have:=bL b B hb hB.1;rw[hx3];exact this) bV ⟨λ_=>bX,λh=>(by cases h)⟩ (by rw[hx3];exact scr) (by simp only;omega)
 have tzK:ao zN (Ll x.β tl oK):=λW W' hW h b B h1 h2=>by
  obtain⟨O,h3,h4⟩:=h b B h1 h2;exact⟨O,(hW B (by rw[a7];exact⟨b,h2,h1⟩)).trans h3,h4⟩
 have tzE:ao zN (Ll x.β tl oE):=λW W' hW h b B h1 h2=>by
  obtain⟨O,h3,h4⟩:=h b B h1 h2;exact⟨O,(hW B (by rw[a7];exact⟨b,h2,h1⟩)).trans h3,h4⟩
 have hA:=QU (P:=PP) (SB:=SB) (BB:=BB) (zZ:=M) (Gn:=0) (Wg:=W2.heap.size) (T:=A.callers) (L:=L) Wl bA x.w.heap.size;have hW:=ye (P:=PP) (SB:=SB) (BB:=BB) (zZ:=M) (Gn:=0) (Wg:=W2.heap.size) (T:=A.callers) (L:=L) Wl bW x.w.heap.size;rw[hT,h91] at hA;rw[hT,h94] at hW;obtain⟨N4,m4,t4,hr4,cJ⟩:=join (by rw[aB];exact⟨.inr (.inr (.inl rfl)),aL⟩) lib (λf fn h _=>h) tzK tzE hA hW hinv;obtain⟨aH,W4,aZ,x4,a4,tp4,q4,rfl,g4,lv4,bY,bN,cK,aN,wl4,tw4,wg4,c0,cL,c2,cM,dl4,cN,cO,os4,ou4,bd4,bO⟩:=LN cJ
 obtain⟨e4,eH4,r4⟩:=aN.fin;have cP:∀B,B<W.heap.size->B<W4.heap.size:=λB h=>by omega
 have b4:I9 Z (λB=>zO B\/B=W2.heap.size) aH W4 t4 q4:=⟨lv4,bY,bN,cK,λB hB=>hB.elim (dl4 B) λh=>h▸cM⟩
 have cQ:Tw PP SB BB M 0 (λB=>zO B\/B=W2.heap.size) ⟨λB=>B<W.heap.size,W4,0⟩ x4 a4 W4:=⟨aN.gl,wl4,tw4,λb B hb hd=>hd.elim (λh=>AH h (c0 b B hb)) λh=>wg4 b (h▸hb),λB hB=>⟨cP B hB,rfl⟩,λb B hb hB=>by
  by_cases cC:zN B
  .exact .inl (cL b B hb cC)
  .exact bO b B hb ⟨hB,cC⟩⟩
 obtain⟨N5,m5,t5,hr5,cD,W5,bP,q5,x5,a5,rfl,g5,z5,b5,b8,Q5,eH5,eT5,le5,os5,sz5,sz5',new5⟩:=J5 (P:=PP) (SB:=SB) (BB:=BB) (zZ:=M) (Gn:=0) (Kp:=⟨λB=>B<W.heap.size,W4,0⟩) lib
  (H:=x4.H) (T:=x4.T) (β:=x4.β) (Q:=Em.Left Z 79 λv _=>v=.tuple #[]) (os:=W4.os) (ou:=W4) (n:=aH.size) (b0:=0) (B0:=W4.heap.size) _ (dr aH W4 aZ) t4
  ⟨aH,W4,aZ,q4,x4,a4,rfl,g4,rfl,b4,cQ,r4,rfl,rfl,Ef.le_refl _,⟨rfl,rfl⟩,⟨AD _,Bc _,λb B h=>.inl h⟩,rfl⟩
 obtain⟨N6,m6,t6,hr6,gs6,d6,b9,q6,st6,g6,z6,b6⟩:=K6 (P:=PP) (sl:=bP) b5 g5 b8.gl.status.2;have bB:=b8.at d6;have cR:FV PP SB x5.H M BB (FR::CS) x5.β x5.g a5:=by
  have:=b8.gl;rw[Fe,eT5,aN.t,cW] at this;exact this
 obtain⟨v,w0,w1,V,W7,ES,β7,_,hv,_,st7,hV,aF⟩:=leave (P:=PP) (lib x5.H) (main2:=M) Q5 I.hB cR bB.wl;subst hv;have eV:V=.tuple #[]:=by
  cases hV with
  |@tuple _ X h1 _ =>
   have:X=#[]:=by simpa using h1.LT
   rw[this]
 subst eV;obtain⟨bQ,bR,cS,z7,g7,b7⟩:=b6.fin (P:=PP) (SB:=SB) (zZ:=M) (Gn:=0) (x:=x5) b8.tw bB.dead g6 st7 aF b9;obtain⟨c3,_⟩:=KG (P:=PP) (SB:=SB) (zZ:=M) (Gn:=0) (x:=x5) aF bB.keep bB.FA;have zA:runNT Z ((N1+(N2+1))+(N4+(N5+(N6+1)))) (dr gs W sl) t=(.next (dr bQ W7 b9),t6++bR):=by
  have e4:runNT Z N4 (dr aY W3 aQ) t2=(.next (dr aH W4 aZ),t4):=hr4;have e5:runNT Z N5 (dr aH W4 aZ) t4=(.next (dr cD W5 bP),t5):=hr5;have e6:runNT Z N6 (dr cD W5 bP) t5=(.next m6,t6):=hr6;have e7:stepT Z m6=(.next (dr bQ W7 b9),bR):=st6.trans cS;rw[cT hr3,cT e4,cT e5,cT e6,oN e7]
 have aO:∀B,B<W.heap.size->B<W7.heap.size/\W7.heap[B]?=W4.heap[B]?:=λB hB=>c3 B hB;have aI:∀B,B<W.heap.size->¬zN B->W7.heap[B]?=W.heap[B]?:=λB hB hT=>(aO B hB).2.trans (c2 B ⟨hB,hT⟩);have W5s:W5.heap.size<=W7.heap.size:=aF.SIZE;have cU:∀b B,x.β b B->tl b=M->∃O,W7.heap[B]?=Y O/\∀(S:Fu) (Ck:Code->Prop) (DZ:Ef),EP S Ck DZ (oF (FK n) oK oE b) O:=λb B hb h=>by
  have hE:=(aO B (aD b B hb).2).2;rw[hE];cases cF:FK n with
  |true=>exact cN (by rw[e4];exact cF) b B hb h
  |false=>exact cO (by rw[e4];exact cF) b B hb h
 have bS:∀b B,x.β b B->tl b=br->¬zN B:=λb B hb h hT=>by
  rw[a7] at hT;obtain⟨b',h1,h2⟩:=hT;rw[ht.wl.Fl.inj hb h2] at h;rw[h] at h1;cases h1
 have os7:W7.os=W.os/\W7.output=W.output:=⟨aF.OS.trans (os5.1.trans os4),aF.OUT.trans (os5.2.trans ou4)⟩;refine⟨_,_,_,zA,bQ,W7,b9,q6,_,_,rfl,g7,?_,b7,⟨jl (x:=⟨back fr cs,Hl tl (oF (FK n) oK oE) x.w,x.H,x.β,x.T⟩) r1 r2,⟨ht.wl.Fl,⟨Bc _,Bc _⟩,λb B hb hh=>?_,λb B hb hh=>?_,λb hh=>?_,?_⟩,ht.tw,λb B hb hd=>?_,λB hB=>?_,λb B hb hB=>?_⟩,os7,by omega,λB hB=>hB.imp id λh=>by rw[h];omega⟩
 .rw[z7,z6,z5];exact bd4
 .have hl:=(aD b B hb).1;rw[bM _ _ _ _ hl];cases h:tl b with
  |true =>
   obtain⟨O,h1,h2⟩:=cU b B hb h;exact⟨_,O,rfl,h1,h2 _ _ _⟩
  |false =>
   obtain⟨o,O,p1,p2,p3⟩:=ht.wl.FD b B hb (hH b);exact⟨o,O,p1,(aI B (aD b B hb).2 (bS b B hb h)).trans p2,p3⟩
 .have aT:x.H b=true:=hh;rw[hH] at aT;cases aT
 .have aT:x.H b=true:=hh;rw[hH] at aT;cases aT
 .show x.w.os.env=W7.os.env;rw[os7.1];exact ht.wl.env
 .obtain hd|hd:=hd
  .exact AH hd (a8 b B hb)
  .have:=(aD b B hb).2;omega
 .obtain⟨k1,k2⟩:=ht.keep B hB;refine⟨(aO B k1).1,(aI B k1 λhT=>?_).trans k2⟩;rw[a7] at hT;obtain⟨b,h1,h2⟩:=hT;exact hKp b B h2 h1 hB
 .obtain h|⟨c',t',f',h1,h2⟩:=ht.FA b B hb hB
  .exact .inl h
  .refine .inr ⟨c',t',f',?_,h2⟩;show(Hl tl _ x.w).heap[b]?=_;rw[bM _ _ _ _ (aD b B hb).1];cases h:tl b with
   |true=>exact AH hB (hKp b B hb h)
   |false=>exact h1
end
abbrev JE:=List (Nat×List bk×df)
def zB (o:JE)(b:Nat):Bool:=o.any λp=>p.1==b
def Hy {o:JE}{b:Nat}(h:zB o b=M):∃p∈o,p.1=b:=by
 obtain⟨p,h1,h2⟩:=eC.1 h;exact⟨p,h1,by simpa using h2⟩
def jX {o:JE}{p:Nat×List bk×df}(h:p∈o):zB o p.1=true:=eC.2 ⟨p,h,by simp⟩
def ba {o e:JE}{b:Nat}:zB (o++e) b=(zB o b||zB e b):=List.any_append ..
def RF:List FuncId:=P9++[122,124,125,175,176,201,202,203]
def Ln (f:bw):Bool:=RF.H f
def Oe (f:bw):Bool:=Ln f&&!(f==122||f==124||f==125||f==201||f==203)
def oS:MT Oe:=by
 refine⟨λf hf=>?_,by decide,by decide⟩;have:P9.all Oe=true:=by decide
 exact mz this f hf
def oT:∀f,MC f=M->Oe f=true:=λf hf=>by
 have:Ra.all Oe=true:=by decide
 exact kE this f hf
def Iq (W:bb)(o:JE):Prop:=∀p∈o,∃f,W.heap[p.1]?=Y (.cells p.2.1.Li p.2.2 f)
structure FE (w:bb)(co ex:JE)(tb cb sb cap:Nat)(nA hA:Option Addr)(nc F:Nat)(fc:List bk)(oK oE:Obj):Prop where
 obj:∀p∈co++ex,w.heap[p.1]?=Y (.cells p.2.1.Li p.2.2 (0,0))
 Jc:w.heap[tb]?=Y oK
 O1:Hc oK/\Hc oE
 nt:zB (co++ex) tb=br
 Q0:∀p∈co,∀v∈p.2.1,∀(SB:bw->Bool) (H:Hid),E5 SB H (λb=>zB co b=M) v
 Rb:∀p∈ex,∀v∈p.2.1,∀(SB:bw->Bool) (H:Hid),SB 83=M->E5 SB H (λb=>zB (co++ex) b=M) v
 Rc:∀v∈fc,∀(SB:bw->Bool) (H:Hid),E5 SB H (λb=>zB (co++ex) b=M\/b=tb) v
 sF:J3 F=M/\Ln F=M
 cF:∀(x:Array bk) (w:bb),(gB F x).run DP w=.ok (.enter F x) w
 Ph:zB co cb=M
 Qk:zB co sb=M
 F5:∀W:bb,Iq W co->FZ W (λb=>zB co b=M) cb Ec (Ex 3) nA hA nc 3 sb cap
abbrev Nu (co ex:JE):Nat->Bool:=zB (co++ex)
abbrev KY (tb:Nat):Nat->Bool:=λb=>b==tb
def PH (kx tl:Nat->Bool)(w:bb)(cb:Nat)(p1:bk)(w':bb):Prop:=∀b,Ml kx tl w b->w'.heap[b]?=(Gx kx tl w cb p1).heap[b]?
section
variable {w:bb} {co ex:JE} {tb cb sb cap:Nat} {nA hA:Option Addr} {nc F:Nat} {fc:List bk} {oK oE:Obj}
def FE.lt (S:FE w co ex tb cb sb cap nA hA nc F fc oK oE){b:Nat}(h:Nu co ex b=M\/KY tb b=M):b<w.heap.size:=by
 obtain h|h:=h
 .obtain⟨p,h1,rfl⟩:=Hy h;exact(AC.1 (S.obj p h1)).1
 .have:b=tb:=by simpa using h
  subst this;exact(AC.1 S.Jc).1
def FE.at_ (S:FE w co ex tb cb sb cap nA hA nc F fc oK oE){p1:bk}{w':bb}(h:PH (Nu co ex) (KY tb) w cb p1 w') :
  (∀p∈co++ex,w'.heap[p.1]?=Y (.cells p.2.1.Li p.2.2 (0,p.2.1.Li.size)))/\w'.heap[tb]?=Y (.coro E)/\w'.heap[w.heap.size]?=Y (.coro E) /\
   w'.heap[w.heap.size+1]?=Y (bq #[.S (Y ⟨cb,0,E⟩)] 112 (0,1))/\w'.heap[w.heap.size+2]?=Y (bq #[p1] 156 (0,1)):=by
 refine⟨λp hp=>?_,?_,?_,?_,?_⟩
 .have hk:Nu co ex p.1=true:=jX hp;have hl:=S.lt (.inl hk);have ht:KY tb p.1=false:=by
   cases hc:KY tb p.1 with
   |false=>rfl
   |true =>
    have:p.1=tb:=by simpa using hc
    have h2:=S.nt;rw[<-this] at h2;rw[show zB (co++ex) p.1=M from hk] at h2;cases h2
  rw[h _ (.inl hk),bi,AE (by omega),AE (by omega),AE (by omega),fP (S.obj p hp) hk ht]
 .have hl:=S.lt (b:=tb) (.inr (by simp));rw[h _ (.inr (.inl (by simp))),bi,AE (by omega),AE (by omega),AE (by omega),kC hl (by simp)]
 .rw[h _ (.inr (.inr (.inl rfl))),bi,AE (by omega),AE (by omega),AJ rfl]
 .rw[h _ (.inr (.inr (.inr (.inl rfl)))),bi,AE (by omega),AJ rfl]
 .rw[h _ (.inr (.inr (.inr (.inr rfl)))),bi,AJ rfl]
def cell_of {W:bb}{b:Nat}{l:Array bk}{t:df}{f:Nat×Nat}(h:W.heap[b]?=Y (.cells l t f))(i:Nat):W.L ⟨b,i,E⟩=l[i]?:=by
 unfold World.cell?;simp only[h]
 rfl
def FE.sees (S:FE w co ex tb cb sb cap nA hA nc F fc oK oE){p1:bk}{w':bb}(h:PH (Nu co ex) (KY tb) w cb p1 w'):Iq w' (co++ex):=λp hp=>⟨_,(S.at_ h).1 p hp⟩
def Iq.left {W:bb}{o e:JE}(h:Iq W (o++e)):Iq W o:=λp hp=>h p (er _ hp)
def zb:∀i:Nat,i<8->IntKind.i64.wrap ((i:Int)+1)=((i+1:Nat):Int):=by decide
def zc (i:Nat)(hi:i<8):(Ex 3)[i]?=Y (Gd i):=by
 have:∀i,i<8->(Ex 3)[i]?=Y (Gd i):=by decide
 exact this i hi
def kH (x:Nat)(j:Nat)(hj:j<5):(#[.int .u8 (x:Int),.int .u8 0,.int .u8 0,.int .u8 0,.int .u8 0]:Array bk)[j]?=Y (.int .u8 (Fq x j:Nat)):=by
 match j,hj with
 |0,_=>rfl
 |1,_=>rfl
 |2,_=>rfl
 |3,_=>rfl
 |4,_=>rfl
def FE.KL (S:FE w co ex tb cb sb cap nA hA nc F fc oK oE){p1:bk}{w':bb}(h:PH (Nu co ex) (KY tb) w cb p1 w')(i:Nat)(hi:i<8)(τ:Tape)(d:Nat) :
  e8 DP 121 #[.S (Y ⟨cb,0,E⟩),.S (Y ⟨w'.heap.size,0,E⟩),cd ck 0] (on (w'.Li (first (Gd i))) τ d) (λe w2=>∃v,e=.L v/\((∃y1 y2,v=.agg #[cd ck (Od i),cd ck y1,cd ck y2])/\Ext (w'.Li (first (Gd i))) w2)):=by
 have hold:∀b,b<w'.heap.size->(on (w'.Li (first (Gd i))) τ d).heap[b]?=w'.heap[b]?:=λb hb=>ae w' _ hb;have hs:Iq (on (w'.Li (first (Gd i))) τ d) co:=λp hp=>by
  obtain⟨f,hf⟩:=(S.sees h).left p hp;exact⟨f,(hold _ (AC.1 hf).1).trans hf⟩
 have hr:GX (on (w'.Li (first (Gd i))) τ d) (on (w'.Li (first (Gd i))) τ d).heap.size w'.heap.size (Fq (Gd i)):=by
  refine⟨by show _<(w'.Li _).heap.size;rw[aG];omega,λj hj=>?_⟩;exact(cell_of (W:=w'.Li (first (Gd i))) (l:=#[.int .u8 (Gd i:Int),.int .u8 0,.int .u8 0,.int .u8 0,.int .u8 0]) (t:=115) (f:=(0,0)) (gm w' (Gd i)) j).trans (kH _ j hj)
 refine(oz cb w'.heap.size 0 Ec (Fq (Gd i)) _ (S.F5 _ hs).NP hr (Eb.Ok.of iL) (by decide) (gt i hi)).LT ?_;rintro e w2 ⟨rfl,hg⟩;exact⟨_,rfl,⟨_,_,rfl⟩,hg.size,λb hb=>hg.Ly.Lo b hb,hg.Ly.os⟩
def kI {o:Obj}(h:Hc o){S:Fu}{Ck:Code->Prop}{β:Ef}:EP S Ck β o o:=by
 obtain⟨l,t,f,rfl,hl⟩:=h;refine .cells ⟨rfl,λi v V h1 h2=>?_⟩ λi h1 h2=>⟨h1,h2⟩;rw[h1] at h2;cases h2;cases hl v (Cc (by simpa using h1)) with
 |bool b=>exact .bool b
 |int k n=>exact .int k n
def Og (co ex:JE)(tb n r:Nat)(b:Nat):Prop:=zB (co++ex) b=M\/b=tb\/b=n\/b=n+1\/b=n+2\/b=r
def mQ (S:FE w co ex tb cb sb cap nA hA nc F fc oK oE){p1:bk}{w' W:bb}(h:PH (Nu co ex) (KY tb) w cb p1 w')(Ji:∀(H:Hid),E5 J3 H (λb=>zB (co++ex) b=M\/b=tb) p1){x:Nat}{r:Nat}(hr:w'.heap[r]?=Y (bq #[.int .u8 (x:Int),.int .u8 0,.int .u8 0,.int .u8 0,.int .u8 0] 115 (0,5)))
  (hW:∀b,b≠tb->W.heap[b]?=w'.heap[b]?) {H:Hid} (hH:∀b,H b=br->b≠w.heap.size/\(b=tb->W.heap[tb]?=Y oK)) :
  ∀b,Og co ex tb w.heap.size r b->H b=br->∃o,W.heap[b]?=Y o/\EP (SP J3 H) (CK DP J3 br) (EI (Og co ex tb w.heap.size r)) o o:=by
 obtain⟨a1,a2,a3,a4,a5⟩:=S.at_ h;have nt:∀b,zB (co++ex) b=M->b≠tb:=λb hb e=>by
  have:=S.nt;rw[<-e,hb] at this;cases this
 intro b hb hHb;obtain⟨h1,h2⟩:=hH b hHb;by_cases a6:b=tb
 .subst a6;exact⟨oK,h2 rfl,kI S.O1.1⟩
 obtain hb|hb|hb|hb|hb|hb:=hb
 .obtain⟨p,hp,rfl⟩:=Hy hb;refine⟨_,(hW _ a6).trans (a1 p hp),.cells (E9 λv hv=>?_) λi z1 z2=>⟨z1,z2⟩⟩;obtain hp|hp:=BK.1 hp
  .exact(S.Q0 p hp v hv J3 H).LT λc hc=>.inl (by rw[ba];simp[hc])
  .exact(S.Rb p hp v hv J3 H (by decide)).LT λc hc=>.inl hc
 .exact AH hb a6
 .exact AH hb h1
 .subst hb;refine⟨_,(hW _ a6).trans a4,.cells (E9 (l:=[.S (Y ⟨cb,0,E⟩)]) λv hv=>?_) λi z1 z2=>⟨z1,z2⟩⟩;simp only[AM,AK,or_false] at hv;subst hv;exact E5.ptr (.inl (by rw[ba];simp[S.Ph])) _ _
 .subst hb;refine⟨_,(hW _ a6).trans a5,.cells (E9 (l:=[p1]) λv hv=>?_) λi z1 z2=>⟨z1,z2⟩⟩;simp only[AM,AK,or_false] at hv;subst hv;exact(Ji H).LT λc hc=>hc.elim .inl λh=>.inr (.inl h)
 .subst hb;refine⟨_,(hW _ a6).trans hr,.cells (E9 (l:=[.int .u8 (x:Int),.int .u8 0,.int .u8 0,.int .u8 0,.int .u8 0]) λv hv=>?_) λi z1 z2=>⟨z1,z2⟩⟩;simp only[AM,AK,or_false] at hv;rcases hv with rfl|rfl|rfl|rfl|rfl<;>exact DX.int _ _
def va (S:FE w co ex tb cb sb cap nA hA nc F fc oK oE)(H:Hid):E5 J3 H (λb=>zB (co++ex) b=M\/b=tb) (.func (.func F) #[] fc.Li):=E5.func S.sF.1 λv hv=>S.Rc v hv J3 H
def rN (S:FE w co ex tb cb sb cap nA hA nc F fc oK oE){w':bb}(h:PH (Nu co ex) (KY tb) w cb (.func (.func F) #[] fc.Li) w'){i:Nat}(hi:i<8)(hnone:EJ Ec (Ex 3) 2 (Fq (Gd i)) 1=[]){r:Nat}(zT:¬Ml (Nu co ex) (KY tb) w r)
  (hr:w'.heap[r]?=Y (bq #[.int .u8 (Gd i:Int),.int .u8 0,.int .u8 0,.int .u8 0,.int .u8 0] 115 (0,5))) :
  EL Z Oe (Jp Z w.heap.size λ_=>True) 0 (cq (cw Z 123 (bK (w.heap.size+1) (w.heap.size+2) w.heap.size r) .L) [bad]) w':=by
 obtain⟨a1,a2,a3,a4,a5⟩:=S.at_ h;have l2:w.heap.size+2<w'.heap.size:=(AC.1 a5).1;have ltb:tb<w.heap.size:=S.lt (.inr (by simp));have hid:∀b,(⟨λb=>b==w.heap.size||b==tb,M,br⟩:Hid) b=M->b=w.heap.size\/b=tb:=λb hb=>by simpa using hb
 refine mH (H:=⟨λb=>b==w.heap.size||b==tb,M,br⟩) (T0:=λ_=>False) oS (hn:=rfl) (K0:=Og co ex tb w.heap.size r) ⟨.inr (.inr (.inr (.inl rfl))),.inr (.inr (.inr (.inr (.inl rfl)))),.inr (.inr (.inl rfl)),.inr (.inr (.inr (.inr (.inr rfl))))⟩
  (λb _ hb=>⟨rfl,by obtain rfl|rfl:=hid b hb;exact a3;exact a2⟩) (λb hb=>by rcases hid b hb with rfl|rfl<;>omega)
  (mQ S h (va S) hr (λ_ _=>rfl) λb hb=>?_) (λτ d=>?_) (λ_ _ _ _=>trivial)
 .have hb':(b==w.heap.size||b==tb)=false:=hb;simp only[Cb,beq_eq_false_iff_ne] at hb';exact⟨hb'.1,λe=>AH e hb'.2⟩
 .have := oB (T0 := fun _ => False) (K := fun b => zB co b = M) (cb := cb) (c := Ec) (sets := Ex 3) (b2 := w.heap.size + 1) (b3 := w.heap.size + 2) (b4 := w.heap.size) (rb := r) (F := F) (k := 2) (fc := fc.Li) (r := Fq (Gd i)) (w := on w' τ d)
   (Eb.Ok.of iL) jn (by decide) (S.F5 (on w' τ d) (S.sees h).left) (λ_ hb=>hb.elim) (λ_ _ hb=>hb) (gt i hi) (λj hj=>by unfold Fq;rw[AE (by omega)]) rfl
   (cell_of (W:=on w' τ d) a4 0) (λj hj=>(cell_of (W:=on w' τ d) hr j).trans (kH _ j hj)) (cell_of (W:=on w' τ d) a5 0) ⟨l2,λhb=>hb⟩
   (λpre _=>pre=[]) (λ_ _ _ hp _=>hp) rfl S.cF (λpre ρ W a6 _ _=>by
    rw[hnone] at a6;have:=a6.length_le
    simp at this)
  refine Go.wp_mono this ?_;rintro e a' w2 ⟨he,h1,_,D,h2,h3,h4⟩;exact⟨he,h1,trivial,D,h2,h3,h4⟩
def rO (S:FE w co ex tb cb sb cap nA hA nc F fc oK oE){w':bb}(h:PH (Nu co ex) (KY tb) w cb (.func (.func F) #[] fc.Li) w'){i:Nat}(hi:i<8){aA:EK}(aB:EJ Ec (Ex 3) 2 (Fq (Gd i)) 1=[aA]){r:Nat}(zT:¬Ml (Nu co ex) (KY tb) w r)
  (hr:w'.heap[r]?=Y (bq #[.int .u8 (Gd i:Int),.int .u8 0,.int .u8 0,.int .u8 0,.int .u8 0] 115 (0,5)))
  (aF:∀W:bb,W.heap[tb]?=Y oK->Iq W ex->e8 DP F (#[ET aA]++fc.Li) W λe W'=>e=.L (.tuple #[])/\KT (λb=>b=tb) W W'/\W'.heap[tb]?=Y oE) :
  EL Z Oe (Jp Z w.heap.size λw2=>∀b,KY tb b=M->w2.heap[b]?=Y oE) 0 (cq (cw Z 123 (bK (w.heap.size+1) (w.heap.size+2) w.heap.size r) .L) [bad]) (Hl (KY tb) (λ_=>oK) w'):=by
 obtain⟨a1,a2,a3,a4,a5⟩:=S.at_ h;have l2:w.heap.size+2<w'.heap.size:=(AC.1 a5).1;have ltb:tb<w.heap.size:=S.lt (.inr (by simp));obtain⟨W0,zM⟩:∃W0,W0=Hl (KY tb) (λ_=>oK) w':=⟨_,rfl⟩;have g0:∀b,b<w'.heap.size->W0.heap[b]?=if KY tb b then Y oK else w'.heap[b]?:=λb hb=>by rw[zM];exact bM _ _ _ _ hb
 have a6:∀b,b≠tb->W0.heap[b]?=w'.heap[b]?:=λb hb=>by
  by_cases hl:b<w'.heap.size
  .rw[g0 b hl,AE (by simpa using hb)]
  .rw[Cf (show W0.heap.size<=b by rw[zM,bL];omega),Cf (by omega)]
 have gtb:W0.heap[tb]?=Y oK:=by rw[g0 tb (by omega),AJ (by simp)]
 have gsz:W0.heap.size=w'.heap.size:=by rw[zM,bL]
 rw[<-zM];have nt:∀b,zB (co++ex) b=M->b≠tb:=λb hb e=>by
  have:=S.nt;rw[<-e,hb] at this;cases this
 have rne:r≠tb:=λe=>zT (.inr (.inl (by simp[e])));have a8:Iq W0 (co++ex):=λp hp=>⟨_,(a6 _ (nt _ (jX hp))).trans (a1 p hp)⟩;have aC:∀b,Og co ex tb w.heap.size r b->(⟨λb=>b==w.heap.size,M,br⟩:Hid) b=M->(⟨λb=>b==w.heap.size,M,br⟩:Hid).EX=M/\W0.heap[b]?=Y (.coro E):=λb _ hb=>by
  have e:b=w.heap.size:=by simpa using hb
  refine⟨rfl,?_⟩;rw[e,a6 _ (by omega)];exact a3
 have aD:∀b,(⟨λb=>b==w.heap.size,M,br⟩:Hid) b=M->b<W0.heap.size:=λb hb=>by
  have e:b=w.heap.size:=by simpa using hb
  omega
 refine mH (H:=⟨λb=>b==w.heap.size,M,br⟩) (T0:=λb=>b=tb) oS (hn:=rfl) (K0:=Og co ex tb w.heap.size r) ⟨.inr (.inr (.inr (.inl rfl))),.inr (.inr (.inr (.inr (.inl rfl)))),.inr (.inr (.inl rfl)),.inr (.inr (.inr (.inr (.inr rfl))))⟩
  aC aD
  (mQ S h (va S) hr a6 λb hb=>⟨by simpa using hb,λ_=>gtb⟩) (λτ d=>?_) (λW W' hW hk b hb=>?_)
 .have := oB (T0 := fun b => b = tb) (K := fun b => zB co b = M) (cb := cb) (c := Ec) (sets := Ex 3) (b2 := w.heap.size + 1) (b3 := w.heap.size + 2) (b4 := w.heap.size) (rb := r) (F := F) (k := 2) (fc := fc.Li) (r := Fq (Gd i)) (w := on W0 τ d)
   (Eb.Ok.of iL) jn (by decide) (S.F5 (on W0 τ d) a8.left) (λb hb=>by show b<W0.heap.size;omega) (λb hb=>nt b (by rw[ba];simp[hb])) (gt i hi) (λj hj=>by unfold Fq;rw[AE (by omega)]) rfl
   (cell_of (W:=on W0 τ d) ((a6 _ (by omega)).trans a4) 0) (λj hj=>(cell_of (W:=on W0 τ d) ((a6 _ rne).trans hr) j).trans (kH _ j hj)) (cell_of (W:=on W0 τ d) ((a6 _ (by omega)).trans a5) 0) ⟨by show _<W0.heap.size;omega,by omega⟩
   (λpre W=>W.heap[tb]?=Y (if pre=[] then oK else oE)) (λpre W W' hp hk=>(hk tb rfl).trans hp) gtb S.cF (λpre ρ W a7 aG hI=>by
    rw[aB] at a7;have hl:=a7.length_le;have hp:pre=[]:=by cases pre with
     |nil=>rfl
     |cons a l=>simp at hl
    subst hp;have aH:ρ=aA:=by
     obtain⟨t,ht⟩:=a7;simp at ht;exact ht.1
    subst aH;have hex:Iq W ex:=λp hp=>by
     obtain⟨f,hf⟩:=a8 p (eo _ hp);have zC:=(AC.1 hf).1
     exact⟨f,(aG.Lo p.1 zC (by
      rintro(e|e)
      .exact nt _ (jX (eo co hp)) e
      .have e':W0.heap.size<=p.1:=e
       omega)).trans hf⟩
    refine(aF W hI hex).LT ?_;rintro e W' ⟨h1,h2,h3⟩
    exact⟨h1,h2,h3⟩)
  refine Go.wp_mono this ?_;rintro e a' w2 ⟨he,h1,hI,D,h2,h3,h4⟩;rw[aB] at hI
  exact⟨he,h1,λb hb=>by
   have e:b=tb:=by simpa using hb
   rw[e];exact hI,D,h2,h3,h4⟩
 .have e:b=tb:=by simpa using hb
  rw[e,hk tb rfl];exact hW tb (by simp)
end
def wC {p:Nat->Bool}(h:RF.all p=M):∀f,Ln f=M->p f=true:=λf hf=>(B6.1 h) f (by simpa [Ln] using hf)
def O3 (f:bw):Bool:=f==126||f==127||f==200||f==202
def Q2 (f:bw):Bool:=f==122||f==124||f==125||f==201||f==203
def ym:RF.all (λf=>Jz Z Ln M f||O3 f||Q2 f)=true:=by kernel_rfl
def vb {f:bw}(h:O3 f=M):LG PP f:=by
 unfold O3 at h;simp only[Bm,beq_iff_eq] at h;obtain((rfl|rfl)|rfl)|rfl:=h
 .exact⟨Tryz.f126,_,fo,fo,by kernel_rfl,by kernel_rfl,by kernel_rfl,by kernel_rfl,.add ck,by kernel_rfl⟩
 .exact⟨Tryz.f127,_,fq,fq,by kernel_rfl,by kernel_rfl,by kernel_rfl,by kernel_rfl,.load ck,by kernel_rfl⟩
 .exact⟨Tryz.f200,_,fu,fu,by kernel_rfl,by kernel_rfl,by kernel_rfl,by kernel_rfl,.Rl .i32 (by decide),by kernel_rfl⟩
 .exact⟨Tryz.f202,_,fz,fz,by kernel_rfl,by kernel_rfl,by kernel_rfl,by kernel_rfl,.add .i32,by kernel_rfl⟩
def zd {P:Er}(f:bw)(hf:aK Ln f=M):IJ P f:=by
 unfold aK at hf;have h:Ln 124=true:=by decide
 rw[h,Bool.not_true,Cd,Cd] at hf;cases hf
def Pm (H:Hid):Lib PP Ln H M Oe 0:=by
 refine iJ (λf hf=>?_) (λf hf hb=>?_) (λf hf=>?_) zd ⟨B9 ez,Tryz.Li⟩
 .simp only[Oe,AO,BX] at hf;have:=wC ym f hf.1;have a6:Q2 f=false:=hf.2;simp only[a6,CW,Bm] at this;obtain h|h:=this
  .exact .inl ⟨h,rfl⟩
  .exact .inr (vb h)
 .simp only[Oe,hf,CX,Ch,Bm,beq_iff_eq] at hb;obtain(((rfl|rfl)|rfl)|rfl)|rfl:=hb
  .exact⟨_,_,dy,dy,rfl,by decide,by decide,rfl,rfl⟩
  .exact⟨_,_,di,di,rfl,by decide,by decide,rfl,rfl⟩
  .exact⟨_,_,dS,dS,rfl,by decide,by decide,rfl,rfl⟩
  .exact⟨_,_,ed,ed,rfl,by decide,by decide,rfl,rfl⟩
  .exact⟨_,_,ek,ek,rfl,by decide,by decide,rfl,rfl⟩
 .simp only[Oe,AO] at hf;exact hf.1
section
variable {w:bb} {co ex:JE} {tb cb sb cap:Nat} {nA hA:Option Addr} {nc F:Nat} {fc:List bk} {oK oE:Obj}
def ze:codeOk Z Ln M M (.L 9 o9 br)=true:=by kernel_rfl
def yn:codeOk Z Ln M M (.L 10 Kf br)=true:=by kernel_rfl
def zf:codeOk Z Ln M M eL=true:=by kernel_rfl
def zg:o8.all (cn Z Ln M M)=true:=by kernel_rfl
def M4 (S:FE w co ex tb cb sb cap nA hA nc F fc oK oE){a6:EK}(a7:EJ Ec (Ex 3) 2 (Fq (Gd 1)) 1=[a6])
  (a8:∀W:bb,W.heap[tb]?=Y oK->Iq W ex->e8 DP F (#[ET a6]++fc.Li) W λe W'=>e=.L (.tuple #[])/\KT (λb=>b=tb) W W'/\W'.heap[tb]?=Y oE) :
  I1 Ln MC Oe w (Nu co ex) (KY tb) (λb=>zB co b=M) (PH (Nu co ex) (KY tb) w cb (.func (.func F) #[] fc.Li)) cb sb 8 cap (.func F) #[] fc.Li (λi=>(Gd i:Int)) Od (λi=>decide (i<=1)) (λ_=>oK) (λ_=>oE) where
 hB:=by decide
 Mk:=by decide
 Qh:=by decide
 Qi:=by decide
 L0:=yi oT
 b0:=oT
 Qj:=by decide
 todo:=λH K=>.cons (.inRegion zg) (.cons (.inBlock 1) (.cons (.code ze) (.cons (.inLoop zf) (.cons (.inBlock 0) (.cons (.code yn) .nil)))))
 only:=λw1 w2 h _ aA b hb=>(h b hb).trans (aA b hb)
 ok:=λb hb=>rfl
 Nt:=λw' h=>cell_of (S.at_ h).2.2.2.1 0
 hold:=λw' h=>⟨(S.F5 w' (S.sees h).left).c2,_,(S.F5 w' (S.sees h).left).c0⟩
 KJ:=λw' i h hi=>(S.F5 w' (S.sees h).left).sets i _ (zc i hi)
 F5:=λw' b h hb=>by
  obtain⟨p,hp,rfl⟩:=Hy hb;refine⟨by show zB (co++ex) p.1=M;rw[ba];simp[hb],_,(S.at_ h).1 p (er _ hp),.cells (E9 λv hv=>S.Q0 p hp v hv MC Dd) λi z1 z2=>⟨z1,z2⟩⟩
 cK:=S.Ph
 ks:=⟨by show zB (co++ex) cb=M;rw[ba];simp[S.Ph],by show zB (co++ex) sb=M;rw[ba];simp[S.Qk]⟩
 Ql:=λb hb=>by
  have ht:KY tb b=false:=by
   cases hc:KY tb b with
   |false=>rfl
   |true =>
    have e:b=tb:=by simpa using hc
    have h2:=S.nt;rw[<-e] at h2;rw[show zB (co++ex) b=M from hb] at h2;cases h2
  obtain⟨p,hp,rfl⟩:=Hy hb;refine⟨ht,p.2.1,p.2.2,(0,0),S.obj p hp,λi h1 h2=>AH h2 (BY _),λv hv H=>?_⟩;obtain hp|hp:=BK.1 hp
  .exact(S.Q0 p hp v hv Ln H).LT λc hc=>.inl (by show zB (co++ex) c=M;rw[ba];simp[hc])
  .exact(S.Rb p hp v hv Ln H (by decide)).LT λc hc=>.inl hc
 QX:=λb hb=>by
  have e:b=tb:=by simpa using hb
  subst e;exact⟨S.Jc,S.O1⟩
 Ji:=λH=>E5.func S.sF.2 λv hv=>(S.Rc v hv Ln H).LT λc hc=>hc.elim .inl λh=>.inr (by simp[h])
 wrap:=zb
 KL:=λw' i h hi τ d=>S.KL h i hi τ d
 tp0:=rfl
 QV:=λi hi hk=>by
  have h1:i≠1:=λe=>hk ((ID i hi).2 (.inl e));show decide (i+1<=1)=decide (i<=1);by_cases h0:i=0
  .subst h0;rfl
  .rw[B4 (by omega),B4 (by omega)]
 which:=λi hi hk=>by
  obtain rfl|rfl:=(ID i hi).1 hk
  .exact .inr ⟨rfl,rfl⟩
  .exact .inl rfl
 plain:=λi r w' hi hk ht h zT hr=>by
  obtain rfl|rfl:=(ID i hi).1 hk
  .cases ht
  .exact rN S h hi p8 zT hr
 owner:=λi r w' hi hk ht ht1 h zT hr=>by
  obtain rfl|rfl:=(ID i hi).1 hk
  .exact rO S h hi a7 zT hr a8
  .cases ht
end
abbrev Lw:Go.Conc.Lib.WgLink:={ add:=122,done:=124,wait:=125,relMerge:=156,disable:=157,enable:=158,inBubble:=159,associate:=160,fatal:=161,uOr:=162,uAdd:=163,raceRead:=164,uLoad:=165,uStore:=166,disassociate:=167,semrelease:=168,acquire:=169,isAssociated:=170,uCas:=171,raceWrite:=172,semacquire:=173,orU64:=195,addU64:=196,loadU64:=197,storeU64:=198,casU64:=199,tWgP:=253,tUP:=255,tAssoc:=256,tWg:=215,tAU:=213,tU64:=77,tUint:=130,tU32:=162,tPU32:=260,tPAU:=283,tPU64:=285,tNoCopy:=161,tANoCopy:=150,tAlign64:=151 }
def Pn:Go.Conc.Lib.WgLib Z Lw :=
 ⟨dy,di,dS,Tryz.func156,Tryz.func157,Tryz.func158,Tryz.func159,Tryz.func160,Tryz.func161,Tryz.func162,Tryz.func163,Tryz.func164,Tryz.func165,Tryz.func166,Tryz.func167,Tryz.func168,Tryz.func169,Tryz.func170,Tryz.func171,Tryz.func172,Tryz.func173,Tryz.func195,Tryz.func196,Tryz.func197,Tryz.func198,Tryz.func199,Tryz.underlying253,Tryz.runUnderlying253,Tryz.sizeOf253,Tryz.isAgg253,Tryz.zeroValue253,Tryz.underlying255,Tryz.runUnderlying255,Tryz.sizeOf255,Tryz.isAgg255,Tryz.zeroValue255,Tryz.underlying256,Tryz.runUnderlying256,Tryz.sizeOf256,Tryz.isAgg256,Tryz.zeroValue256,Tryz.underlying215,Tryz.runUnderlying215,Tryz.sizeOf215,Tryz.isAgg215,Tryz.zeroValue215,Tryz.underlying213,Tryz.runUnderlying213,Tryz.sizeOf213,Tryz.isAgg213,Tryz.zeroValue213,Tryz.underlying77,Tryz.runUnderlying77,Tryz.sizeOf77,Tryz.isAgg77,Tryz.zeroValue77,Tryz.underlying130,Tryz.runUnderlying130,Tryz.sizeOf130,Tryz.isAgg130,Tryz.zeroValue130,Tryz.underlying162,Tryz.runUnderlying162,Tryz.sizeOf162,Tryz.isAgg162,Tryz.zeroValue162,Tryz.underlying260,Tryz.runUnderlying260,Tryz.sizeOf260,Tryz.isAgg260,Tryz.zeroValue260,Tryz.underlying283,Tryz.runUnderlying283,Tryz.sizeOf283,Tryz.isAgg283,Tryz.zeroValue283,Tryz.underlying285,Tryz.runUnderlying285,Tryz.sizeOf285,Tryz.isAgg285,Tryz.zeroValue285,Tryz.underlying0,Tryz.runUnderlying0,Tryz.sizeOf0,Tryz.isAgg0,Tryz.zeroValue0,Tryz.underlying3,Tryz.runUnderlying3,Tryz.sizeOf3,Tryz.isAgg3,Tryz.zeroValue3,Tryz.underlying4,Tryz.runUnderlying4,Tryz.sizeOf4,Tryz.isAgg4,Tryz.zeroValue4,Tryz.underlying9,Tryz.runUnderlying9,Tryz.sizeOf9,Tryz.isAgg9,Tryz.zeroValue9,Tryz.underlying20,Tryz.runUnderlying20,Tryz.sizeOf20,Tryz.isAgg20,Tryz.zeroValue20,Tryz.underlying21,Tryz.runUnderlying21,Tryz.sizeOf21,Tryz.isAgg21,Tryz.zeroValue21,(by kernel_rfl),(by kernel_rfl)⟩
def M5:Go.Co.Barred PP Ln M Lw.add (Go.Conc.Lib.addFn Lw):=⟨_,dy,dy,rfl,by kernel_rfl⟩
def LX:Go.Co.Barred PP Ln M Lw.wait (Go.Conc.Lib.waitFn Lw):=⟨_,dS,dS,rfl,by kernel_rfl⟩
def LY:Go.Co.Barred PP Ln M Lw.done (Go.Conc.Lib.doneFn Lw):=⟨_,di,di,rfl,by kernel_rfl⟩
def Hz (bo:Nat):List Value:=[cd ck 12,cd ck 3,cd ck 2,.slice E 0 0,cd ck 6,cd ck 2,cd ck 2,.slice (Y ⟨bo,0,E⟩) 1 1,cd ck 6,cd ck 1,cd ck 1,.slice E 0 0]
def LZ (bn bh sb cap:Nat):List Value:=[.slice (Y ⟨bn,0,E⟩) 3 3,.slice (Y ⟨bh,0,E⟩) 3 3,.slice (Y ⟨sb,0,E⟩) 8 cap]
def G8:List Value:=[cd ck 3,cd ck 2,cd ck 4]
def Ey (bn bo bh cb sb cap:Nat)(cur:List bk)(t:df):JE:=[(bn,G8,3),(bo,[cd ck 0],3),(bh,Hz bo,48),(cb,LZ bn bh sb cap,218),(sb,cur,t)]
section
variable {bn bo bh cb sb cap:Nat} {cur:List bk} {t:df}
def EU (b:Nat):zB (Ey bn bo bh cb sb cap cur t) b=M↔b=bn\/b=bo\/b=bh\/b=cb\/b=sb:=by
 simp only[zB,Ey,List.any_cons,List.any_nil,CW,Bm,beq_iff_eq];constructor
 .rintro(h|h|h|h|h)<;>simp[h]
 .rintro(h|h|h|h|h)<;>simp[h]
def oU {W:bb}(h:Iq W (Ey bn bo bh cb sb cap cur t))(a6:∀(i x:Nat),(Ex 3)[i]?=Y x->cur[i]?=Y (cd .u8 (x:Int))) :
  FZ W (λb=>zB (Ey bn bo bh cb sb cap cur t) b=M) cb Ec (Ex 3) (Y ⟨bn,0,E⟩) (Y ⟨bh,0,E⟩) 3 3 sb cap:=by
 obtain⟨f1,h1⟩:=h (bn,G8,3) (by simp[Ey]);obtain⟨f2,h2⟩:=h (bo,[cd ck 0],3) (by simp[Ey]);obtain⟨f3,h3⟩:=h (bh,Hz bo,48) (by simp[Ey]);obtain⟨f4,h4⟩:=h (cb,LZ bn bh sb cap,218) (by simp[Ey]);obtain⟨f5,h5⟩:=h (sb,cur,t) (by simp[Ey]);have hb:∀i:Nat,W.L ⟨bh,i,E⟩=(Hz bo)[i]?:=λi=>(cell_of h3 i).trans (by simp);have hn:IU W (λb=>zB (Ey bn bo bh cb sb cap cur t) b=M) (Y ⟨bn,0,E⟩) [3,2,4]:=λ_=>by
  refine⟨bn,0,rfl,(EU _).2 (by simp),λi x hx=>?_⟩;rw[cell_of h1]
  match i,hx with
  |0,hx=>simp at hx;subst hx;rfl
  |1,hx=>simp at hx;subst hx;rfl
  |2,hx=>simp at hx;subst hx;rfl
  |k+3,hx=>simp at hx
 have ho:IU W (λb=>zB (Ey bn bo bh cb sb cap cur t) b=M) (Y ⟨bo,0,E⟩) [0]:=λ_=>by
  refine⟨bo,0,rfl,(EU _).2 (by simp),λi x hx=>?_⟩;rw[cell_of h2]
  match i,hx with
  |0,hx=>simp at hx;subst hx;rfl
  |k+1,hx=>simp at hx
 have hnil:IU W (λb=>zB (Ey bn bo bh cb sb cap cur t) b=M) E []:=λh=>AH rfl h;refine⟨λb a7=>?_,(EU _).2 (by simp),cell_of h4 0,cell_of h4 1,cell_of h4 2,(EU _).2 (by simp),λi x hx=>(cell_of h5 i).trans (by simpa using a6 i x hx),hn,λ_=>⟨bh,0,rfl,(EU _).2 (by simp),λi x hx=>?_⟩⟩
 .obtain rfl|rfl|rfl|rfl|rfl:=(EU _).1 a7
  .exact(AC.1 h1).1
  .exact(AC.1 h2).1
  .exact(AC.1 h3).1
  .exact(AC.1 h4).1
  .exact(AC.1 h5).1
 .match i,hx with
  |0,hx=>simp[Ec,EH] at hx;subst hx;exact⟨hb _,hb _,hb _,E,0,hb _,hnil⟩
  |1,hx=>simp[Ec,EH] at hx;subst hx;exact⟨hb _,hb _,hb _,_,1,hb _,ho⟩
  |2,hx=>simp[Ec,EH] at hx;subst hx;exact⟨hb _,hb _,hb _,E,0,hb _,hnil⟩
  |k+3,hx=>simp[Ec,EH] at hx
def gu (a7:∀u∈cur,im u):∀p∈Ey bn bo bh cb sb cap cur t,∀v∈p.2.1,∀(SB:bw->Bool) (H:Hid),E5 SB H (λb=>zB (Ey bn bo bh cb sb cap cur t) b=M) v:=by
 intro p hp v hv SB H;have a6:E5 SB H (λb=>zB (Ey bn bo bh cb sb cap cur t) b=M) (.slice E 0 0):=DX.GA 0 0;simp only[Ey,AM,AK,or_false] at hp;obtain rfl|rfl|rfl|rfl|rfl:=hp
 .simp only[G8,AM,AK,or_false] at hv;rcases hv with rfl|rfl|rfl<;>exact DX.int _ _
 .simp only[AM,AK,or_false] at hv;subst hv;exact DX.int _ _
 .simp only[Hz,AM,AK,or_false] at hv;rcases hv with rfl|rfl|rfl|rfl|rfl|rfl|rfl|rfl|rfl|rfl|rfl|rfl<;>first|exact DX.int _ _|exact a6|exact E5.slice ((EU _).2 (by simp)) _ _ _ _
 .simp only[LZ,AM,AK,or_false] at hv;rcases hv with rfl|rfl|rfl<;>exact E5.slice ((EU _).2 (by simp)) _ _ _ _
 .obtain⟨x,rfl⟩:=a7 v hv;exact DX.int _ _
end
section
variable {bn bo bh cb sb cap:Nat} {cur:List bk} {t:df} {w:bb}
structure F2 (w:bb)(bn bo bh cb sb cap:Nat)(cur:List bk)(t:df):Prop where
 obj:∀p∈Ey bn bo bh cb sb cap cur t,w.heap[p.1]?=Y (.cells p.2.1.Li p.2.2 (0,0))
 sets:∀(i x:Nat),(Ex 3)[i]?=Y x->cur[i]?=Y (cd .u8 (x:Int))
 flat:∀u∈cur,im u
def F2.keep {w':bb}(h:F2 w bn bo bh cb sb cap cur t)(hk:∀b,zB (Ey bn bo bh cb sb cap cur t) b=M->w'.heap[b]?=w.heap[b]?):F2 w' bn bo bh cb sb cap cur t :=
 ⟨λp hp=>(hk _ (jX hp)).trans (h.obj p hp),h.sets,h.flat⟩
def F2.lt (h:F2 w bn bo bh cb sb cap cur t){b:Nat}(hb:zB (Ey bn bo bh cb sb cap cur t) b=M):b<w.heap.size:=by
 obtain⟨p,hp,rfl⟩:=Hy hb;exact(AC.1 (h.obj p hp)).1
abbrev Jq (n:Int):Obj:=bq #[cd ck n] 153 (0,0)
def PI (n:Int):Hc (Jq n):=⟨[cd ck n],153,(0,0),rfl,λv hv=>by
 simp only[AM,AK,or_false] at hv
 subst hv;exact .int _ _⟩
def Nv (h:F2 w bn bo bh cb sb cap cur t){nb:Nat}(hn:w.heap[nb]?=Y (Jq 0))(a6:zB (Ey bn bo bh cb sb cap cur t) nb=br) :
  FE w (Ey bn bo bh cb sb cap cur t) [] nb cb sb cap (Y ⟨bn,0,E⟩) (Y ⟨bh,0,E⟩) 3 80 [.S (Y ⟨nb,0,E⟩)] (Jq 0) (Jq 1) where
 obj:=λp hp=>h.obj p (by simpa using hp)
 Jc:=hn
 O1:=⟨PI 0,PI 1⟩
 nt:=by rw[Ct];exact a6
 Q0:=gu h.flat
 Rb:=λp hp=>by cases hp
 Rc:=λv hv SB H=>by
  simp only[AM,AK,or_false] at hv;subst hv;exact E5.ptr (.inr rfl) _ _
 sF:=⟨by decide,by decide⟩
 cF:=λx w=>by
  have h1:¬Tryz.f80.name = "runtime.NumGoroutine":=by decide
  simp[gB,Sq.fn eF rfl,h1,Tryz.f80]
 Ph:=(EU _).2 (by simp)
 Qk:=(EU _).2 (by simp)
 F5:=λW hW=>oU hW h.sets
def Oh (nb:Nat){ex:JE}(ρ:EK)(W:bb)(h:W.heap[nb]?=Y (Jq 0))(_:Iq W ex) :
  e8 DP 80 (#[ET ρ]++[J (Y ⟨nb,0,E⟩)].Li) W λe W'=>e=.L (.tuple #[])/\KT (λb=>b=nb) W W'/\W'.heap[nb]?=Y (Jq 1) :=
 te nb 0 1 ρ W h (by decide)
abbrev Gy (b:Bool)(r:EK):Obj:=.cells (IY 0 r b) 168 (0,0)
def Oi (b:Bool)(r:EK):Hc (Gy b r):=⟨(IY 0 r b).toList,168,(0,0),by simp[IY],λv hv=>by
 simp only[IY,AM,AK,or_false] at hv
 rcases hv with rfl|rfl|rfl|rfl|rfl|rfl|rfl|rfl<;>first|exact .int _ _|exact .bool _⟩
def FP (xb qb cb:Nat):JE:=[(xb,[.func (.func 83) #[] #[.S (Y ⟨qb,0,E⟩)]],160),(qb,[.S (Y ⟨cb,0,E⟩)],112)]
def Oj (h:F2 w bn bo bh cb sb cap cur t){kb xb qb:Nat}{ρ:EK}(hk:w.heap[kb]?=Y (Gy br λ_=>0))(hx:∀p∈FP xb qb cb,w.heap[p.1]?=Y (.cells p.2.1.Li p.2.2 (0,0)))
  (a6:zB (Ey bn bo bh cb sb cap cur t++FP xb qb cb) kb=br) :
  FE w (Ey bn bo bh cb sb cap cur t) (FP xb qb cb) kb cb sb cap (Y ⟨bn,0,E⟩) (Y ⟨bh,0,E⟩) 3 88 [.S (Y ⟨kb,0,E⟩),.S (Y ⟨xb,0,E⟩)] (Gy br λ_=>0) (Gy M ρ) where
 obj:=λp hp=>(BK.1 hp).elim (h.obj p) (hx p)
 Jc:=hk
 O1:=⟨Oi _ _,Oi _ _⟩
 nt:=a6
 Q0:=gu h.flat
 Rb:=λp hp v hv SB H h54=>by
  have hq:∀b,(b=xb\/b=qb)->zB (Ey bn bo bh cb sb cap cur t++FP xb qb cb) b=true:=λb hb=>by
   rw[ba];rcases hb with rfl|rfl<;>simp[zB,FP]
  simp only[FP,AM,AK,or_false] at hp;obtain rfl|rfl:=hp
  .simp only[AM,AK,or_false] at hv;subst hv;refine E5.func (l:=[.S (Y ⟨qb,0,E⟩)]) h54 λv hv=>?_;simp only[AM,AK,or_false] at hv;subst hv;exact E5.ptr (hq _ (.inr rfl)) _ _
  .simp only[AM,AK,or_false] at hv;subst hv;exact E5.ptr (by rw[ba,(EU cb).2 (by simp),Bool.true_or]) _ _
 Rc:=λv hv SB H=>by
  simp only[AM,AK,or_false] at hv;obtain rfl|rfl:=hv
  .exact E5.ptr (.inr rfl) _ _
  .exact E5.ptr (.inl (by rw[ba];simp[zB,FP])) _ _
 sF:=⟨by decide,by decide⟩
 cF:=λx w=>by
  have h1:¬Tryz.f88.name = "runtime.NumGoroutine":=by decide
  simp[gB,Sq.fn eG rfl,h1,Tryz.f88]
 Ph:=(EU _).2 (by simp)
 Qk:=(EU _).2 (by simp)
 F5:=λW hW=>oU hW h.sets
def O4 (kb xb qb cb:Nat)(ρ:EK)(W:bb)(h:W.heap[kb]?=Y (Gy br λ_=>0))(hs:Iq W (FP xb qb cb)) :
  e8 DP 88 (#[ET ρ]++[J (Y ⟨kb,0,E⟩),.S (Y ⟨xb,0,E⟩)].Li) W λe W'=>e=.L (.tuple #[])/\KT (λb=>b=kb) W W'/\W'.heap[kb]?=Y (Gy M ρ):=by
 obtain⟨f,hf⟩:=hs (xb,[.func (.func 83) #[] #[.S (Y ⟨qb,0,E⟩)]],160) (by simp[FP]);exact vB kb xb ρ _ W (cell_of hf 0) (AC.1 hf).1 h
end
attribute [local go_sem] Oper.semAt_some
noncomputable def cB:Code:=Tryz.f45.body.LE .skip
noncomputable def c5:Array Oper:=Gj (az (af (af (af (af cB)))))
noncomputable def x5:Code:=af (af (af (af (af cB))))
def ve {bn bo bh:Nat}{w:bb}{SB:bw->Bool}(hn:w.heap[bn]?=Y (.cells G8.Li 3 (0,0)))(ho:w.heap[bo]?=Y (bq #[cd ck 0] 3 (0,0)))(hh:w.heap[bh]?=Y (.cells (Hz bo).Li 48 (0,0))) :
  ∀b,(b=bn\/b=bo\/b=bh)->∃o,w.heap[b]?=Y o/\EP (SP SB Dd) (CK DP SB br) (EI λb=>b=bn\/b=bo\/b=bh) o o:=by
 rintro b (rfl|rfl|rfl)
 .refine⟨_,hn,.cells (E9 λv hv=>?_) λi h1 h2=>⟨h1,h2⟩⟩;simp only[G8,AM,AK,or_false] at hv;rcases hv with rfl|rfl|rfl<;>exact DX.int _ _
 .refine⟨_,ho,.cells (E9 (l:=[cd ck 0]) λv hv=>?_) λi h1 h2=>⟨h1,h2⟩⟩;simp only[AM,AK,or_false] at hv;subst hv;exact DX.int _ _
 .refine⟨_,hh,.cells (E9 λv hv=>?_) λi h1 h2=>⟨h1,h2⟩⟩;simp only[Hz,AM,AK,or_false] at hv;rcases hv with rfl|rfl|rfl|rfl|rfl|rfl|rfl|rfl|rfl|rfl|rfl|rfl<;>first|exact DX.int _ _|exact DX.GA _ _|exact E5.slice (.inr (.inl rfl)) _ _ _ _
def mR (bn bo bh:Nat)(w1:bb)(v:bk)(w':bb):Prop:=∃(cb sb cap:Nat) (cur:List bk) (t:df),v=.tuple #[.S (Y ⟨cb,0,E⟩),cd ck 0]/\w1.heap.size<=cb/\cb<sb/\F2 w' bn bo bh cb sb cap cur t/\w1.heap.size<=w'.heap.size/\∀b,b<w1.heap.size->w'.heap[b]?=w1.heap[b]?
def rP (bn bo bh:Nat){SB:bw->Bool}:D6 (SP SB Dd) (EI λb=>b=bn\/b=bo\/b=bh) #[.agg #[.slice (Y ⟨bn,0,E⟩) 3 3,.slice (Y ⟨bh,0,E⟩) 3 3]] #[.agg #[.slice (Y ⟨bn,0,E⟩) 3 3,.slice (Y ⟨bh,0,E⟩) 3 3]] :=
 E9 (l:=[.agg #[.slice (Y ⟨bn,0,E⟩) 3 3,.slice (Y ⟨bh,0,E⟩) 3 3]]) λv hv=>by
  simp only[AM,AK,or_false] at hv;subst hv;refine E5.agg (l:=[.slice (Y ⟨bn,0,E⟩) 3 3,.slice (Y ⟨bh,0,E⟩) 3 3]) λv hv=>?_;simp only[AM,AK,or_false] at hv;obtain rfl|rfl:=hv
  .exact E5.slice (.inl rfl) _ _ _ _
  .exact E5.slice (.inr (.inr rfl)) _ _ _ _
def oW {bn bo bh:Nat}{w:bb}(hn:w.heap[bn]?=Y (.cells G8.Li 3 (0,0)))(ho:w.heap[bo]?=Y (bq #[cd ck 0] 3 (0,0)))(hh:w.heap[bh]?=Y (.cells (Hz bo).Li 48 (0,0)))(τ:Tape)(d:Nat) :
  e8 DP 78 #[.agg #[.slice (Y ⟨bn,0,E⟩) 3 3,.slice (Y ⟨bh,0,E⟩) 3 3]] (on w τ d) (λe w'=>∃v,e=.L v/\mR bn bo bh w v w'):=by
 have ln:=(AC.1 hn).1;have lo:=(AC.1 ho).1;have lh:=(AC.1 hh).1;have hb:∀i:Nat,(on w τ d).L ⟨bh,i,E⟩=(Hz bo)[i]?:=λi=>(cell_of (W:=on w τ d) hh i).trans (by simp);have a8:RI (on w τ d) w.heap.size (Y ⟨bn,0,E⟩) Ec.DW:=λ_=>by
  refine⟨bn,0,rfl,ln,λi x hx=>?_⟩;rw[cell_of (W:=on w τ d) hn]
  match i,hx with
  |0,hx=>simp[Ec,EH] at hx;subst hx;rfl
  |1,hx=>simp[Ec,EH] at hx;subst hx;rfl
  |2,hx=>simp[Ec,EH] at hx;subst hx;rfl
  |k+3,hx=>simp[Ec,EH] at hx
 have hro:RI (on w τ d) w.heap.size (Y ⟨bo,0,E⟩) [0]:=λ_=>by
  refine⟨bo,0,rfl,lo,λi x hx=>?_⟩;rw[cell_of (W:=on w τ d) ho]
  match i,hx with
  |0,hx=>simp at hx;subst hx;rfl
  |k+1,hx=>simp at hx
 have aA:FY (on w τ d) w.heap.size (Y ⟨bh,0,E⟩) Ec.DR:=λ_=>⟨bh,0,rfl,lh,λi x hx=>by
  match i,hx with
  |0,hx=>simp[Ec,EH] at hx;subst hx;exact⟨hb _,hb _,hb _,E,0,hb _,.nil⟩
  |1,hx=>simp[Ec,EH] at hx;subst hx;exact⟨hb _,hb _,hb _,_,1,hb _,hro⟩
  |2,hx=>simp[Ec,EH] at hx;subst hx;exact⟨hb _,hb _,hb _,E,0,hb _,.nil⟩
  |k+3,hx=>simp[Ec,EH] at hx⟩
 refine(kG (Y ⟨bn,0,E⟩) (Y ⟨bh,0,E⟩) 3 3 Ec (on w τ d) w.heap.size (AD _) a8 aA (by decide) (by decide) (by decide)).LT ?_;rintro e w' ⟨hg,a7⟩;rw[AJ iL] at a7;obtain⟨cb,g,cap,rfl,hcb,aB,hK,hF1,hF2⟩:=a7;obtain⟨cur,t,q1,q2⟩:=hF1 _ _ _ rfl;have a6:∀b,b<w.heap.size->w'.heap[b]?=w.heap[b]?:=λb hb=>hg.Ly.Lo b hb;refine⟨_,rfl,cb,g,cap,cur.toList,t,rfl,hcb,aB,⟨λp hp=>?_,λi x hx=>?_,q2⟩,hg.size,a6⟩
 .simp only[Ey,AM,AK,or_false] at hp;obtain rfl|rfl|rfl|rfl|rfl:=hp
  .exact(a6 bn ln).trans hn
  .exact(a6 bo lo).trans ho
  .exact(a6 bh lh).trans hh
  .exact hF2
  .simpa using q1
 .have h1:=hK.sets i x hx;rw[cell_of q1] at h1;simpa using h1
def rQ {BB:bw->Bool}(hB:BB 45=M)(aK:Ic BB){Q:cu->bb->Prop}(hQ:∀g w W,Ek w W->Q g w->Q g W){cs:List dt}(zW:cs≠[]){bn bo bh:Nat}{w:bb}
  (hn:w.heap[bn]?=Y (.cells G8.Li 3 (0,0))) (ho:w.heap[bo]?=Y (bq #[cd ck 0] 3 (0,0))) (hh:w.heap[bh]?=Y (.cells (Hz bo).Li 48 (0,0)))
  (h:∀(cb sb cap nb:Nat) (cur:List bk) (t:df) (w':bb) (T:Array bk),F2 w' bn bo bh cb sb cap cur t->w'.heap[nb]?=Y (Jq 0)->zB (Ey bn bo bh cb sb cap cur t) nb=br->T.size=19->T.LE 6 undef=.S (Y ⟨nb,0,E⟩)->w.heap.size<=w'.heap.size->(∀b,b<w.heap.size->w'.heap[b]?=w.heap[b]?) ->
   EL Z BB Q 0 (bZ PP 79 (Ip cb (.func 80) #[] [J (Y ⟨nb,0,E⟩)].Li) ((base 45).at ⟨T,[]⟩ [.inRegion c5 [2],.code x5]) cs) w') :
  EL Z BB Q 0 (cq (cw Z 45 #[EG (Y ⟨bn,0,E⟩) (Y ⟨bh,0,E⟩) Ec 3 3] .normal) cs) w:=by
 rw[gR _ eH rfl];simp only[Tryz.ntmps45,AR,AQ,AT,Nat.reduceAdd,Nat.reduceSub,Bz,BA,BQ,BI,BZ,BN];unfold EG;change EL Z BB Q 0 (G _ cs) w;have ln:Ec.DW.L=3:=rfl;have lh:Ec.DR.L=3:=rfl;rw[ln,lh];refine am hQ hB zW ?_;refine av hQ hB zW ?_;simp only[AR,AQ,AT,Nat.reduceAdd,AU,bs,bc];refine ag hQ hB zW rfl rfl λK hK q1 q2 q3=>?_
 go_simp;refine hK _ (w.Li _) ?_ _ ⟨rfl,rfl,rfl⟩
 try walk_nrm
 try simp only[ab]
 obtain⟨w1,a7⟩:∃w1,w1=w.Li (bq #[.slice (Y ⟨bn,0,E⟩) 3 3,.slice (Y ⟨bh,0,E⟩) 3 3] 27):=⟨_,rfl⟩;rw[<-a7];have zE:w1.heap.size=w.heap.size+1:=by rw[a7,aG]
 have aF:w1.heap[w.heap.size]?=Y (bq #[.slice (Y ⟨bn,0,E⟩) 3 3,.slice (Y ⟨bh,0,E⟩) 3 3] 27 (0,0)):=by rw[a7,aA,AJ rfl]
 have a6:∀b,b<w.heap.size->w1.heap[b]?=w.heap[b]?:=λb hb=>by rw[a7,aA,AE (by omega)]
 have zp:w1.L ⟨w.heap.size,0,E⟩=Y (.slice (Y ⟨bn,0,E⟩) 3 3):=cell_of aF 0;have zv:w1.L ⟨w.heap.size,1,E⟩=Y (.slice (Y ⟨bh,0,E⟩) 3 3):=cell_of aF 1;have aB:bn<w.heap.size/\bo<w.heap.size/\bh<w.heap.size:=⟨(AC.1 hn).1,(AC.1 ho).1,(AC.1 hh).1⟩;have aH:=(a6 bn aB.1).trans hn;have aI:=(a6 bo aB.2.1).trans ho;have aJ:=(a6 bh aB.2.2).trans hh;clear a7;refine ag hQ hB zW rfl rfl λK hK q1 q2 q3=>?_
 go_simp;refine hK _ w1 ?_ _ ⟨rfl,rfl,rfl⟩
 try walk_nrm
 try simp only[ab]
 refine ag hQ hB zW rfl rfl λK hK q1 q2 q3=>?_;go_simp;refine hK _ w1 ?_ _ ⟨rfl,rfl,rfl⟩
 try walk_nrm
 try simp only[ab]
 refine au hQ hB zW ?_;refine am hQ hB zW ?_;refine av hQ hB zW ?_;simp only[AR,AQ,AT,Nat.reduceAdd,AU,bs,bc];refine ag hQ hB zW rfl rfl λK hK q1 q2 q3=>?_;go_simp;refine hK _ w1 ?_ _ ⟨rfl,rfl,rfl⟩
 try walk_nrm
 try simp only[ab]
 refine ar hQ hB (by kernel_rfl) λτ d=>?_;refine aD rfl rfl (by decide) rfl gU (by kernel_rfl) (by kernel_rfl) ⟨Ei _ _,w1,Dc,?_⟩
 try walk_nrm
 refine(ej (H:=Dd) aK).fn (f:=78) (by decide) (by decide) (K0:=λb=>b=bn\/b=bo\/b=bh) zW (λ_ _=>Bc _) (Bc _) (rP bn bo bh) (λb _ hb=>by cases hb) (λb hb=>by cases hb)
  (λb hb _=>ve aH aI aJ b hb) hQ (R:=mR bn bo bh w1) (oW aH aI aJ) ?_
 rintro v w2 ⟨cb,sb,cap,cur,t,rfl,hcb,aM,zP,zD,aC⟩;change EL Z BB Q 0 _ w2;rw[cf];simp only[Bw,Bu,Br,BD]
 try walk_nrm
 refine ag hQ hB zW rfl rfl λK hK q1 q2 q3=>?_;go_simp;refine hK _ w2 ?_ _ ⟨rfl,rfl,rfl⟩
 try walk_nrm
 try simp only[ab]
 refine ag hQ hB zW rfl rfl λK hK q1 q2 q3=>?_;go_simp;refine hK _ w2 ?_ _ ⟨rfl,rfl,rfl⟩
 try walk_nrm
 try simp only[ab]
 refine ag hQ hB zW rfl rfl λK hK q1 q2 q3=>?_;go_simp;refine hK _ w2 ?_ _ ⟨rfl,rfl,rfl⟩
 try walk_nrm
 try simp only[ab]
 refine ag hQ hB zW rfl rfl λK hK q1 q2 q3=>?_;go_simp;refine hK _ w2 ?_ _ ⟨rfl,rfl,rfl⟩
 try walk_nrm
 try simp only[ab]
 refine ag hQ hB zW rfl rfl λK hK q1 q2 q3=>?_;go_simp;refine hK _ w2 ?_ _ ⟨rfl,rfl,rfl⟩
 try walk_nrm
 try simp only[ab]
 refine au hQ hB zW ?_
 iterate 2 refine am hQ hB zW ?_
 refine av hQ hB zW ?_;simp only[AR,AQ,AT,Nat.reduceAdd,AU,bs,bc];refine ag hQ hB zW rfl rfl λK hK q1 q2 q3=>?_;go_simp;refine hK _ w2 ?_ _ ⟨rfl,rfl,rfl⟩
 try walk_nrm
 try simp only[ab]
 refine ag hQ hB zW rfl rfl λK hK q1 q2 q3=>?_;go_simp;refine hK _ w2 ?_ _ ⟨rfl,rfl,rfl⟩
 try walk_nrm
 try simp only[ab]
 refine au hQ hB zW ?_;refine jL hQ hB zW ?_;refine gh hQ hB zW ?_;refine am hQ hB zW ?_;refine av hQ hB zW ?_;simp only[AR,AQ,AT,Nat.reduceAdd,AU,bs,bc];refine ag hQ hB zW rfl rfl λK hK q1 q2 q3=>?_;go_simp;refine hK _ (w2.Li _) ?_ _ ⟨rfl,rfl,rfl⟩;clear hK K q1 q2 q3
 try walk_nrm
 try simp only[ab]
 obtain⟨w3,hw3⟩:∃w3,w3=w2.Li (Jq 0):=⟨_,rfl⟩;change EL Z BB Q 0 _ (w2.Li (Jq 0));rw[<-hw3];have hz3:w3.heap.size=w2.heap.size+1:=by rw[hw3,aG]
 have a8:∀b,b<w2.heap.size->w3.heap[b]?=w2.heap[b]?:=λb hb=>by rw[hw3,aA,AE (by omega)]
 have aL:w3.heap[w2.heap.size]?=Y (Jq 0):=by rw[hw3,aA,AJ rfl]
 clear hw3;refine au hQ hB zW ?_;refine am hQ hB zW ?_;refine av hQ hB zW ?_;simp only[AR,AQ,AT,Nat.reduceAdd,AU,bs,bc];refine ag hQ hB zW rfl rfl λK hK q1 q2 q3=>?_;go_simp;refine hK _ w3 ?_ _ ⟨rfl,rfl,rfl⟩;refine ag hQ hB zW rfl rfl λK hK q1 q2 q3=>?_;go_simp;refine hK _ w3 ?_ _ ⟨rfl,rfl,rfl⟩
 try walk_nrm
 try simp only[ab]
 refine ar hQ hB (by kernel_rfl) λτ d=>?_;refine aD rfl rfl (by decide) rfl dn (by kernel_rfl) (by kernel_rfl) ⟨Ei _ _,w3,Dc,?_⟩
 try walk_nrm
 refine h cb sb cap w2.heap.size cur t w3 _ (zP.keep λb hb=>a8 b (zP.lt hb)) aL (by
  cases hq:zB (Ey bn bo bh cb sb cap cur t) w2.heap.size with
  |false=>rfl
  |true=>exact AH (zP.lt hq) (CD _)) rfl rfl (by omega) λb hb=>(a8 b (by omega)).trans ((aC b (by omega)).trans (a6 b hb))
def Q3 {T:Array bk}(h:T.size=19):∃y0 y1 y2 y3 y4 y5 y6 y7 y8 y9 a6 a7 a8 aA aB aC aD aF aG:bk,T=#[y0,y1,y2,y3,y4,y5,y6,y7,y8,y9,a6,a7,a8,aA,aB,aC,aD,aF,aG]:=by
 obtain⟨l⟩:=T;have h:l.L=19:=h
 match l,h with
 |[y0,y1,y2,y3,y4,y5,y6,y7,y8,y9,a6,a7,a8,aA,aB,aC,aD,aF,aG],_=>exact⟨y0,y1,y2,y3,y4,y5,y6,y7,y8,y9,a6,a7,a8,aA,aB,aC,aD,aF,aG,rfl⟩
def qa {BB:bw->Bool}(hB:BB 45=M)(a6:Ic BB){Q:cu->bb->Prop}(hQ:∀g w W,Ek w W->Q g w->Q g W){b0:dt}{a0:Act}{ops:Array Oper}{i:Nat}{rest:List Nat}{k:List Item}{cs:List dt}(zW:cs≠[]){nb:Nat}{n:Int}{w:bb}
  (hn:w.heap[nb]?=Y (Jq n)) {T:Array bk} (hT:T.size=19) (h6:T.LE 6 undef=.S (Y ⟨nb,0,E⟩))
  (h:EL Z BB Q 0 (cq (b0.at (a0.put ((ops[i]?).bind (·.dst)) (.tuple #[cd ck n,cd ck 0])) (.inRegion ops rest::k)) cs) w) :
  EL Z BB Q 0 (back ((base 45).at ⟨T,[]⟩ [.inRegion c5 [2],.code x5]) (b0.at a0 (.inRegion ops (i::rest)::k)::cs)) w:=by
 obtain⟨y0,y1,y2,y3,y4,y5,y6,y7,y8,y9,a8,aA,aB,aC,aF,aG,aH,aI,aJ,rfl⟩:=Q3 hT;have h6:y6=.S (Y ⟨nb,0,E⟩):=h6;subst h6;unfold back;rw[cf];change EL Z BB Q 0 (G _ _) w;have a7:(c5[2]?.bind (·.dst))=Y 17:=rfl;rw[a7]
 try walk_nrm
 refine au hQ hB (Ei _ _) ?_;have ex5:x5=af (af (af (af (af cB)))):=rfl;simp only[cB,Tryz.f45,AS,af] at ex5;rw[ex5];refine am hQ hB (Ei _ _) ?_;refine av hQ hB (Ei _ _) ?_;simp only[AR,AQ,AT,Nat.reduceAdd,AU,bs,bc];refine ar hQ hB (by kernel_rfl) λτ d=>?_;refine aD rfl rfl (by decide) rfl Tryz.func82 (by kernel_rfl) (by kernel_rfl) ⟨Ei _ _,w,Dc,?_⟩
 try walk_nrm
 refine(ej (H:=Dd) a6).fn (f:=82) (by decide) (by decide) (K0:=λb=>b=nb) (Ei _ _) (λ_ _=>Bc _) (Bc _) (E9 (l:=[.S (Y ⟨nb,0,E⟩)]) λv hv=>?_) (λb _ hb=>by cases hb) (λb hb=>by cases hb)
  (λb hb _=>⟨_,(by rw[hb];exact hn),kI (PI n)⟩) hQ (R:=λv w'=>v=cd ck n/\Ek w w') (λτ d=>(td nb n (on w τ d) hn).LT ?_) ?_
 .simp only[AM,AK,or_false] at hv;subst hv;exact E5.ptr (K:=λb=>b=nb) rfl _ _
 .rintro e w9 ⟨rfl,rfl⟩;exact⟨_,rfl,rfl,Dc⟩
 rintro v w2 ⟨rfl,hs2⟩;refine EL.same hQ (W:=w2) ?_ hs2;change EL Z BB Q 0 _ w;rw[cf];simp only[Bw,Bu,Br,BD]
 try walk_nrm
 refine ag hQ hB (Ei _ _) rfl rfl λK hK q1 q2 q3=>?_;go_simp;refine hK _ w ?_ _ ⟨rfl,rfl,rfl⟩
 try walk_nrm
 try simp only[ab]
 refine ag hQ hB (Ei _ _) rfl rfl λK hK q1 q2 q3=>?_;go_simp;refine hK _ w ?_ _ ⟨rfl,rfl,rfl⟩
 try walk_nrm
 try simp only[ab]
 refine au hQ hB (Ei _ _) ?_;refine ar hQ hB (by kernel_rfl) λτ d=>?_;rw[stepG_ret'];simp only[ew];refine⟨(Ei _ _),w,Dc,?_⟩;refine dM hQ hB (by kernel_rfl) λτ d=>?_;refine goes_leave2 rfl rfl eH rfl ⟨zW,w,Dc,?_⟩;exact h
attribute [local go_sem] Oper.semAt_some
noncomputable def dB:Code:=Tryz.f47.body.LE .skip
noncomputable def d6:Array Oper:=Gj (az (af (af (af (af (af dB))))))
noncomputable def z6:Code:=af (af (af (af (af (af dB)))))
def rR {W:bb}{b i:Nat}{a:Array bk}{u:bk}{t:df}{f:Nat×Nat}(h:W.heap[b]?=Y (.cells a t f)):(W.LE ⟨b,i,E⟩ u).heap[b]?=Y (.cells (a.L i u) t f):=by
 unfold World.setCell;simp only[Bv,if_true,h]
 rfl
def Et {W:bb}{b i c:Nat}{u:bk}(h:c≠b):(W.LE ⟨b,i,E⟩ u).heap[c]?=W.heap[c]?:=by
 unfold World.setCell;simp only[Bv];rw[AE (λe=>h e.LT)]
def rS {W:bb}{b i:Nat}{u:bk}:(W.LE ⟨b,i,E⟩ u).heap.size=W.heap.size:=by
 unfold World.setCell;simp
def rT {W:bb}{b:Nat}{l:Array bk}{t:df}(h:W.heap[b]?=Y (.cells l t (0,0)))(i:Nat):W.H ⟨b,i,E⟩=false:=by
 unfold World.frozen?;simp[h]
def t8 {BB:bw->Bool}(hB:BB 47=M)(bC:Ic BB){Q:cu->bb->Prop}(hQ:∀g w W,Ek w W->Q g w->Q g W){cs:List dt}(zW:cs≠[]){bn bo bh:Nat}{w:bb}
  (hn:w.heap[bn]?=Y (.cells G8.Li 3 (0,0))) (ho:w.heap[bo]?=Y (bq #[cd ck 0] 3 (0,0))) (hh:w.heap[bh]?=Y (.cells (Hz bo).Li 48 (0,0)))
  (h:∀(cb sb cap qb xb kb:Nat) (cur:List bk) (t:df) (w':bb) (T:Array bk),F2 w' bn bo bh cb sb cap cur t->w'.heap[kb]?=Y (Gy br λ_=>0)->(∀p∈FP xb qb cb,w'.heap[p.1]?=Y (.cells p.2.1.Li p.2.2 (0,0)))->zB (Ey bn bo bh cb sb cap cur t++FP xb qb cb) kb=br ->
   T.size=27->T.LE 4 undef=.S (Y ⟨qb,0,E⟩)->T.LE 7 undef=.S (Y ⟨kb,0,E⟩)->w.heap.size<=w'.heap.size->(∀b,b<w.heap.size->w'.heap[b]?=w.heap[b]?) ->
   EL Z BB Q 0 (bZ PP 79 (Ip cb (.func 88) #[] [J (Y ⟨kb,0,E⟩),.S (Y ⟨xb,0,E⟩)].Li) ((base 47).at ⟨T,[]⟩ [.inRegion d6 [2],.code z6]) cs) w') :
  EL Z BB Q 0 (cq (cw Z 47 #[EG (Y ⟨bn,0,E⟩) (Y ⟨bh,0,E⟩) Ec 3 3] .normal) cs) w:=by
 rw[gR _ eT rfl];simp only[Tryz.ntmps47,AR,AQ,AT,Nat.reduceAdd,Nat.reduceSub,Bz,BA,BQ,BI,BZ,BN];unfold EG;change EL Z BB Q 0 (G _ cs) w;have ln:Ec.DW.L=3:=rfl;have lh:Ec.DR.L=3:=rfl;rw[ln,lh];refine am hQ hB zW ?_;refine av hQ hB zW ?_;simp only[AR,AQ,AT,Nat.reduceAdd,AU,bs,bc];refine ag hQ hB zW rfl rfl λK hK q1 q2 q3=>?_
 go_simp;refine hK _ (w.Li _) ?_ _ ⟨rfl,rfl,rfl⟩;clear hK K q1 q2 q3
 try walk_nrm
 try simp only[ab]
 obtain⟨w1,aC⟩:∃w1,w1=w.Li (bq #[.slice (Y ⟨bn,0,E⟩) 3 3,.slice (Y ⟨bh,0,E⟩) 3 3] 27):=⟨_,rfl⟩;rw[<-aC];have zE:w1.heap.size=w.heap.size+1:=by rw[aC,aG]
 have b8:w1.heap[w.heap.size]?=Y (bq #[.slice (Y ⟨bn,0,E⟩) 3 3,.slice (Y ⟨bh,0,E⟩) 3 3] 27 (0,0)):=by rw[aC,aA,AJ rfl]
 have a6:∀b,b<w.heap.size->w1.heap[b]?=w.heap[b]?:=λb hb=>by rw[aC,aA,AE (by omega)]
 have zp:w1.L ⟨w.heap.size,0,E⟩=Y (.slice (Y ⟨bn,0,E⟩) 3 3):=cell_of b8 0;have zv:w1.L ⟨w.heap.size,1,E⟩=Y (.slice (Y ⟨bh,0,E⟩) 3 3):=cell_of b8 1;have aN:bn<w.heap.size/\bo<w.heap.size/\bh<w.heap.size:=⟨(AC.1 hn).1,(AC.1 ho).1,(AC.1 hh).1⟩;have b9:=(a6 bn aN.1).trans hn;have bA:=(a6 bo aN.2.1).trans ho;have bB:=(a6 bh aN.2.2).trans hh;clear aC;refine ag hQ hB zW rfl rfl λK hK q1 q2 q3=>?_
 go_simp;refine hK _ w1 ?_ _ ⟨rfl,rfl,rfl⟩;clear hK K q1 q2 q3
 try walk_nrm
 try simp only[ab]
 refine ag hQ hB zW rfl rfl λK hK q1 q2 q3=>?_;go_simp;refine hK _ w1 ?_ _ ⟨rfl,rfl,rfl⟩;clear hK K q1 q2 q3
 try walk_nrm
 try simp only[ab]
 refine au hQ hB zW ?_;refine am hQ hB zW ?_;refine av hQ hB zW ?_;simp only[AR,AQ,AT,Nat.reduceAdd,AU,bs,bc];refine ag hQ hB zW rfl rfl λK hK q1 q2 q3=>?_;go_simp;refine hK _ w1 ?_ _ ⟨rfl,rfl,rfl⟩;clear hK K q1 q2 q3
 try walk_nrm
 try simp only[ab]
 refine ar hQ hB (by kernel_rfl) λτ d=>?_;refine aD rfl rfl (by decide) rfl gU (by kernel_rfl) (by kernel_rfl) ⟨Ei _ _,w1,Dc,?_⟩
 try walk_nrm
 refine(ej (H:=Dd) bC).fn (f:=78) (by decide) (by decide) (K0:=λb=>b=bn\/b=bo\/b=bh) zW (λ_ _=>Bc _) (Bc _) (rP bn bo bh) (λb _ hb=>by cases hb) (λb hb=>by cases hb)
  (λb hb _=>ve b9 bA bB b hb) hQ (R:=mR bn bo bh w1) (oW b9 bA bB) ?_
 rintro v w2 ⟨cb,sb,cap,cur,t,rfl,hcb,bD,zP,zD,aZ⟩;change EL Z BB Q 0 _ w2;rw[cf];simp only[Bw,Bu,Br,BD]
 try walk_nrm
 refine ag hQ hB zW rfl rfl λK hK q1 q2 q3=>?_;go_simp;refine hK _ w2 ?_ _ ⟨rfl,rfl,rfl⟩;clear hK K q1 q2 q3
 try walk_nrm
 try simp only[ab]
 refine ag hQ hB zW rfl rfl λK hK q1 q2 q3=>?_;go_simp;refine hK _ w2 ?_ _ ⟨rfl,rfl,rfl⟩;clear hK K q1 q2 q3
 try walk_nrm
 try simp only[ab]
 refine ag hQ hB zW rfl rfl λK hK q1 q2 q3=>?_;go_simp;refine hK _ w2 ?_ _ ⟨rfl,rfl,rfl⟩;clear hK K q1 q2 q3
 try walk_nrm
 try simp only[ab]
 refine ag hQ hB zW rfl rfl λK hK q1 q2 q3=>?_;go_simp;refine hK _ (w2.Li _) ?_ _ ⟨rfl,rfl,rfl⟩;clear hK K q1 q2 q3
 try walk_nrm
 try simp only[ab]
 obtain⟨w3,hw3⟩:∃w3,w3=w2.Li (bq #[.S E] 112):=⟨_,rfl⟩;change EL Z BB Q 0 _ (w2.Li (bq #[.S E] 112));rw[<-hw3];have aO:=AB (show w3.heap.size=w2.heap.size+1 by rw[hw3,aG]);have b5:∀b,b<w2.heap.size->w3.heap[b]?=w2.heap[b]?:=λb hb=>by rw[hw3,aA,AE (by omega)]
 have a7:w3.heap[w2.heap.size]?=Y (bq #[.S E] 112):=by rw[hw3,aA,AJ rfl]
 clear hw3;refine ag hQ hB zW rfl rfl λK hK q1 q2 q3=>?_;have z1:=cell_of a7 0;have z2:=rT a7 0;go_simp;refine hK _ (w3.LE _ _) ?_ _ ⟨rfl,rfl,rfl⟩;clear hK K q1 q2 q3
 try walk_nrm
 try simp only[ab]
 obtain⟨w4,hw4⟩:∃w4,w4=w3.LE ⟨w2.heap.size,0,E⟩ (.S (Y ⟨cb,0,E⟩)):=⟨_,rfl⟩;change EL Z BB Q 0 _ (w3.LE ⟨w2.heap.size,0,E⟩ (.S (Y ⟨cb,0,E⟩)));rw[<-hw4];have aP:=AB (show w4.heap.size=w3.heap.size by rw[hw4,rS]);have b6:∀b,b≠w2.heap.size->w4.heap[b]?=w3.heap[b]?:=λb hb=>by rw[hw4,Et hb]
 have aJ:=rR (i:=0) (u:=.S (Y ⟨cb,0,E⟩)) a7;rw[<-hw4] at aJ;clear hw4;refine ag hQ hB zW rfl rfl λK hK q1 q2 q3=>?_;go_simp;refine hK _ w4 ?_ _ ⟨rfl,rfl,rfl⟩;clear hK K q1 q2 q3
 try walk_nrm
 try simp only[ab]
 refine au hQ hB zW ?_
 iterate 2 refine am hQ hB zW ?_
 refine av hQ hB zW ?_;simp only[AR,AQ,AT,Nat.reduceAdd,AU,bs,bc];refine ag hQ hB zW rfl rfl λK hK q1 q2 q3=>?_;go_simp;refine hK _ w4 ?_ _ ⟨rfl,rfl,rfl⟩;clear hK K q1 q2 q3
 try walk_nrm
 try simp only[ab]
 refine ag hQ hB zW rfl rfl λK hK q1 q2 q3=>?_;go_simp;refine hK _ w4 ?_ _ ⟨rfl,rfl,rfl⟩;clear hK K q1 q2 q3
 try walk_nrm
 try simp only[ab]
 refine au hQ hB zW ?_;refine jL hQ hB zW ?_;refine gh hQ hB zW ?_;refine am hQ hB zW ?_;refine av hQ hB zW ?_;simp only[AR,AQ,AT,Nat.reduceAdd,AU,bs,bc];refine ag hQ hB zW rfl rfl λK hK q1 q2 q3=>?_;go_simp;refine hK _ w4 ?_ _ ⟨rfl,rfl,rfl⟩;clear hK K q1 q2 q3
 try walk_nrm
 try simp only[ab]
 refine ag hQ hB zW rfl rfl λK hK q1 q2 q3=>?_;go_simp;refine hK _ (w4.Li _) ?_ _ ⟨rfl,rfl,rfl⟩;clear hK K q1 q2 q3
 try walk_nrm
 try simp only[ab]
 obtain⟨w5,aF⟩:∃w5,w5=w4.Li (bq #[.nilFunc] 160):=⟨_,rfl⟩;change EL Z BB Q 0 _ (w4.Li (bq #[.nilFunc] 160));rw[<-aF];have aQ:=AB (show w5.heap.size=w4.heap.size+1 by rw[aF,aG]);have aK:∀b,b<w4.heap.size->w5.heap[b]?=w4.heap[b]?:=λb hb=>by rw[aF,aA,AE (by omega)]
 have a8:w5.heap[w4.heap.size]?=Y (bq #[.nilFunc] 160):=by rw[aF,aA,AJ rfl]
 clear aF;refine ag hQ hB zW rfl rfl λK hK q1 q2 q3=>?_;have z1:=cell_of a8 0;have z2:=rT a8 0;go_simp;refine hK _ (w5.LE _ _) ?_ _ ⟨rfl,rfl,rfl⟩;clear hK K q1 q2 q3
 try walk_nrm
 try simp only[ab]
 obtain⟨w6,aH⟩:∃w6,w6=w5.LE ⟨w4.heap.size,0,E⟩ (.func (.func 83) #[] #[.S (Y ⟨w2.heap.size,0,E⟩)]):=⟨_,rfl⟩;change EL Z BB Q 0 _ (w5.LE ⟨w4.heap.size,0,E⟩ (.func (.func 83) #[] #[.S (Y ⟨w2.heap.size,0,E⟩)]));rw[<-aH];have aR:=AB (show w6.heap.size=w5.heap.size by rw[aH,rS]);have aL:∀b,b≠w4.heap.size->w6.heap[b]?=w5.heap[b]?:=λb hb=>by rw[aH,Et hb]
 have aM:=rR (i:=0) (u:=.func (.func 83) #[] #[.S (Y ⟨w2.heap.size,0,E⟩)]) a8;rw[<-aH] at aM;clear aH;refine au hQ hB zW ?_;refine am hQ hB zW ?_;refine av hQ hB zW ?_;simp only[AR,AQ,AT,Nat.reduceAdd,AU,bs,bc];refine ag hQ hB zW rfl rfl λK hK q1 q2 q3=>?_;go_simp;refine hK _ (w6.Li _) ?_ _ ⟨rfl,rfl,rfl⟩;clear hK K q1 q2 q3
 try walk_nrm
 try simp only[ab]
 obtain⟨w7,aI⟩:∃w7,w7=w6.Li (Gy br λ_=>0):=⟨_,rfl⟩;change EL Z BB Q 0 _ (w6.Li (Gy br λ_=>0));rw[<-aI];have aS:=AB (show w7.heap.size=w6.heap.size+1 by rw[aI,aG]);have aB:∀b,b<w6.heap.size->w7.heap[b]?=w6.heap[b]?:=λb hb=>by rw[aI,aA,AE (by omega)]
 have b7:w7.heap[w6.heap.size]?=Y (Gy br λ_=>0):=by rw[aI,aA,AJ rfl]
 clear aI;refine au hQ hB zW ?_;refine am hQ hB zW ?_;refine av hQ hB zW ?_;simp only[AR,AQ,AT,Nat.reduceAdd,AU,bs,bc];have aT:=aO.out;have aU:=aP.out;have aV:=aQ.out;have aW:=aR.out;have aX:=aS.out;have hq7:w7.heap[w2.heap.size]?=Y (bq #[.S (Y ⟨cb,0,E⟩)] 112 (0,0)):=(aB _ (by omega)).trans ((aL _ (by omega)).trans ((aK _ (by omega)).trans aJ))
 have hx7:w7.heap[w4.heap.size]?=Y (bq #[.func (.func 83) #[] #[.S (Y ⟨w2.heap.size,0,E⟩)]] 160 (0,0)):=(aB _ (by omega)).trans aM;have aY:∀b,b<w2.heap.size->w7.heap[b]?=w2.heap[b]?:=λb hb=>(aB _ (by omega)).trans ((aL _ (by omega)).trans ((aK _ (by omega)).trans ((b6 _ (by omega)).trans (b5 _ hb))));clear aT aU aV aW aX;refine ag hQ hB zW rfl rfl λK hK q1 q2 q3=>?_
 have z1:=cell_of hq7 0;go_simp;refine hK _ w7 ?_ _ ⟨rfl,rfl,rfl⟩
 try walk_nrm
 try simp only[ab]
 refine ag hQ hB zW rfl rfl λK hK q1 q2 q3=>?_;go_simp;refine hK _ w7 ?_ _ ⟨rfl,rfl,rfl⟩
 try walk_nrm
 try simp only[ab]
 refine ar hQ hB (by kernel_rfl) λτ d=>?_;refine aD rfl rfl (by decide) rfl dn (by kernel_rfl) (by kernel_rfl) ⟨Ei _ _,w7,Dc,?_⟩
 try walk_nrm
 have aT:=aO.out;have aU:=aP.out;have aV:=aQ.out;have aW:=aR.out;have aX:=aS.out;refine h cb sb cap w2.heap.size w4.heap.size w6.heap.size cur t w7 _ (zP.keep λb hb=>aY b (zP.lt hb)) b7 (λp hp=>?_) ?_ rfl rfl rfl (by omega) λb hb=>(aY b (by omega)).trans ((aZ b (by omega)).trans (a6 b hb))
 .simp only[FP,AM,AK,or_false] at hp;obtain rfl|rfl:=hp
  .exact hx7
  .exact hq7
 .cases hq:zB (Ey bn bo bh cb sb cap cur t++FP w4.heap.size w2.heap.size cb) w6.heap.size with
  |false=>rfl
  |true =>
   exfalso;rw[ba,Bm] at hq;obtain hq|hq:=hq
   .have:=zP.lt hq;omega
   .simp[zB,FP] at hq;omega
def Q4 {T:Array bk}(h:T.size=27):∃y0 y1 y2 y3 y4 y5 y6 y7 y8 y9 a6 a7 a8 aA aB aC aD aF aG aH aI aJ aK aL aM aN aO:bk,T=#[y0,y1,y2,y3,y4,y5,y6,y7,y8,y9,a6,a7,a8,aA,aB,aC,aD,aF,aG,aH,aI,aJ,aK,aL,aM,aN,aO]:=by
 obtain⟨l⟩:=T;have h:l.L=27:=h
 match l,h with
 |[y0,y1,y2,y3,y4,y5,y6,y7,y8,y9,a6,a7,a8,aA,aB,aC,aD,aF,aG,aH,aI,aJ,aK,aL,aM,aN,aO],_=>exact⟨y0,y1,y2,y3,y4,y5,y6,y7,y8,y9,a6,a7,a8,aA,aB,aC,aD,aF,aG,aH,aI,aJ,aK,aL,aM,aN,aO,rfl⟩
def rU {BB:bw->Bool}(hB:BB 47=M)(a8:Ic BB){Q:cu->bb->Prop}(hQ:∀g w W,Ek w W->Q g w->Q g W){b0:dt}{a0:Act}{ops:Array Oper}{i:Nat}{rest:List Nat}{k:List Item}{cs:List dt}(zW:cs≠[])
  {bn bo bh cb sb cap qb kb:Nat} {cur:List bk} {t:df} {ρ:EK} (aA:∀i,i<5->ρ i<16) {w:bb} (hC:F2 w bn bo bh cb sb cap cur t) (hk:w.heap[kb]?=Y (Gy M ρ)) (hq:w.heap[qb]?=Y (bq #[.S (Y ⟨cb,0,E⟩)] 112 (0,0)))
  {T:Array bk} (hT:T.size=27) (h4:T.LE 4 undef=.S (Y ⟨qb,0,E⟩)) (h7:T.LE 7 undef=.S (Y ⟨kb,0,E⟩))
  (h:∀(A:Option Addr) (c:Nat) (xs:List bk) (w':bb) (K':Nat->Prop),EW w' (w.heap.size+1) (y A 3 c) (aV ρ 3) xs->w.heap.size<=w'.heap.size->(∀b,b<w.heap.size->w'.heap[b]?=w.heap[b]?)->DX (SP Io Dd) (EI K') (y A 3 c) (y A 3 c) ->
   (∀b,K' b->∃o,w'.heap[b]?=Y o/\EP (SP Io Dd) (CK DP Io br) (EI K') o o)->EL Z BB Q 0 (cq (b0.at (a0.put ((ops[i]?).bind (·.dst)) (.tuple #[y A 3 c,cd ck 0])) (.inRegion ops rest::k)) cs) w') :
  EL Z BB Q 0 (back ((base 47).at ⟨T,[]⟩ [.inRegion d6 [2],.code z6]) (b0.at a0 (.inRegion ops (i::rest)::k)::cs)) w:=by
 obtain⟨y0,y1,y2,y3,y4,y5,y6,y7,y8,y9,aC,aF,aG,aH,aI,aJ,aK,aL,aM,aN,aO,aP,aQ,aR,aS,aT,aU,rfl⟩:=Q4 hT;have h4:y4=.S (Y ⟨qb,0,E⟩):=h4;have h7:y7=.S (Y ⟨kb,0,E⟩):=h7;subst h4 h7;unfold back;rw[cf];change EL Z BB Q 0 (G _ _) w;have aB:(d6[2]?.bind (·.dst))=Y 19:=rfl;rw[aB]
 try walk_nrm
 have k2:=cell_of hk 2;have k3:=cell_of hk 3;have k4:=cell_of hk 4;have k5:=cell_of hk 5;have k6:=cell_of hk 6;have k7:=cell_of hk 7;have kq:=cell_of hq 0;simp only[IY,Bw,Bu,Br] at k2 k3 k4 k5 k6 k7 kq;refine au hQ hB (Ei _ _) ?_;have a6:z6=af (af (af (af (af (af dB))))):=rfl;simp only[dB,Tryz.f47,AS,af] at a6;rw[a6];clear a6
 iterate 2 refine am hQ hB (Ei _ _) ?_
 refine av hQ hB (Ei _ _) ?_;simp only[AR,AQ,AT,Nat.reduceAdd,AU,bs,bc];refine ag hQ hB (Ei _ _) rfl rfl λK hK q1 q2 q3=>?_;go_simp;refine hK _ w ?_ _ ⟨rfl,rfl,rfl⟩;clear hK K q1 q2 q3
 try walk_nrm
 try simp only[ab]
 refine ag hQ hB (Ei _ _) rfl rfl λK hK q1 q2 q3=>?_;go_simp;refine hK _ w ?_ _ ⟨rfl,rfl,rfl⟩;clear hK K q1 q2 q3
 try walk_nrm
 try simp only[ab]
 refine ag hQ hB (Ei _ _) rfl rfl λK hK q1 q2 q3=>?_;go_simp;refine hK _ w ?_ _ ⟨rfl,rfl,rfl⟩;clear hK K q1 q2 q3
 try walk_nrm
 try simp only[ab]
 refine au hQ hB (Ei _ _) ?_;refine jL hQ hB (Ei _ _) ?_;refine gh hQ hB (Ei _ _) ?_;refine am hQ hB (Ei _ _) ?_;refine av hQ hB (Ei _ _) ?_;simp only[AR,AQ,AT,Nat.reduceAdd,AU,bs,bc];refine ag hQ hB (Ei _ _) rfl rfl λK hK q1 q2 q3=>?_;go_simp;refine hK _ w ?_ _ ⟨rfl,rfl,rfl⟩;clear hK K q1 q2 q3
 try walk_nrm
 try simp only[ab]
 refine ag hQ hB (Ei _ _) rfl rfl λK hK q1 q2 q3=>?_;go_simp;refine hK _ w ?_ _ ⟨rfl,rfl,rfl⟩;clear hK K q1 q2 q3
 try walk_nrm
 try simp only[ab]
 refine ag hQ hB (Ei _ _) rfl rfl λK hK q1 q2 q3=>?_;go_simp;refine hK _ w ?_ _ ⟨rfl,rfl,rfl⟩;clear hK K q1 q2 q3
 try walk_nrm
 try simp only[ab]
 refine ar hQ hB (by kernel_rfl) λτ d=>?_;refine aD rfl rfl (by decide) rfl Tryz.func90 (by kernel_rfl) (by kernel_rfl) ⟨Ei _ _,w,Dc,?_⟩
 try walk_nrm
 have zp:w.L ⟨cb,0,E⟩=Y (.slice (Y ⟨bn,0,E⟩) 3 3):=cell_of (hC.obj (cb,LZ bn bh sb cap,218) (by simp[Ey])) 0;have lcb:cb<w.heap.size:=hC.lt ((EU _).2 (by simp));refine(ej (H:=Dd) a8).fnK (f:=90) (by decide) (by decide) (K0:=λb=>zB (Ey bn bo bh cb sb cap cur t) b=M) (Ei _ _) (λ_ _=>Bc _) (Bc _) (E9 (l:=[.S (Y ⟨cb,0,E⟩),ET ρ]) λv hv=>?_) (λb _ hb=>by cases hb) (λb hb=>by cases hb)
  (λb hb _=>?_) hQ (R:=λv w'=>∃A c xs,v=y A 3 c/\EW w' (w.heap.size+1) (y A 3 c) (aV ρ 3) xs/\w.heap.size<=w'.heap.size/\∀b,b<w.heap.size->w'.heap[b]?=w.heap[b]?) (λτ d=>(oR cb (Y ⟨bn,0,E⟩) 3 3 ρ (on w τ d) lcb zp (by decide) aA).LT ?_) ?_
 .simp only[AM,AK,or_false] at hv;obtain rfl|rfl:=hv
  .exact E5.ptr (K:=λb=>zB (Ey bn bo bh cb sb cap cur t) b=M) ((EU cb).2 (by simp)) _ _
  .refine E5.agg (l:=[.int .u8 (ρ 0),.int .u8 (ρ 1),.int .u8 (ρ 2),.int .u8 (ρ 3),.int .u8 (ρ 4)]) λv hv=>?_;simp only[AM,AK,or_false] at hv;rcases hv with rfl|rfl|rfl|rfl|rfl<;>exact DX.int _ _
 .obtain⟨p,hp,rfl⟩:=Hy hb;exact⟨_,hC.obj p hp,.cells (E9 λv hv=>gu hC.flat p hp v hv Io Dd) λi z1 z2=>⟨z1,z2⟩⟩
 .rintro e w9 ⟨A,c,xs,rfl,ho,hg⟩;exact⟨_,rfl,A,c,xs,rfl,ho,hg.size,λb hb=>hg.Ly.Lo b hb⟩
 rintro v w2 K' ⟨A,c,xs,rfl,ho,hz,hold⟩ hv _ a7;change EL Z BB Q 0 _ w2;rw[cf];simp only[Bw,Bu,Br,BD]
 try walk_nrm
 refine ag hQ hB (Ei _ _) rfl rfl λK hK q1 q2 q3=>?_;go_simp;refine hK _ w2 ?_ _ ⟨rfl,rfl,rfl⟩;clear hK K q1 q2 q3
 try walk_nrm
 try simp only[ab]
 refine ag hQ hB (Ei _ _) rfl rfl λK hK q1 q2 q3=>?_;go_simp;refine hK _ w2 ?_ _ ⟨rfl,rfl,rfl⟩;clear hK K q1 q2 q3
 try walk_nrm
 try simp only[ab]
 refine au hQ hB (Ei _ _) ?_;refine ar hQ hB (by kernel_rfl) λτ d=>?_;rw[stepG_ret'];simp only[ew];refine⟨(Ei _ _),w2,Dc,?_⟩;refine dM hQ hB (by kernel_rfl) λτ d=>?_;refine goes_leave2 rfl rfl eT rfl ⟨zW,w2,Dc,?_⟩;exact h A c xs w2 K' ho hz hold hv λb hb=>a7 b hb rfl
attribute [local go_sem] Oper.semAt_some
noncomputable def wB:Code:=Tryz.f14.body.LE .skip
noncomputable def e1:Array Oper:=Gj (az (af wB))
noncomputable def e2:Array Oper:=Gj (az (af (af wB)))
noncomputable def rV:Code:=af (af wB)
noncomputable def Ol:Code:=af (af (af wB))
def Lp (bn:Nat)(w1:bb)(v:bk)(w':bb):Prop:=∃bo bh:Nat,v=EG (Y ⟨bn,0,E⟩) (Y ⟨bh,0,E⟩) Ec 3 3/\w'.heap[bo]?=Y (bq #[cd ck 0] 3 (0,0))/\w'.heap[bh]?=Y (.cells (Hz bo).Li 48 (0,0))/\w1.heap.size<=w'.heap.size/\∀b,b<w1.heap.size->w'.heap[b]?=w1.heap[b]?
def L3 {bn:Nat}{w:bb}(τ:Tape)(d:Nat):e8 DP 46 #[.slice (Y ⟨bn,0,E⟩) 3 3] (on w τ d) (λe w'=>∃v,e=.L v/\Lp bn w v w'):=by
 refine(rJ (Y ⟨bn,0,E⟩) 3 [3,2,4] (on w τ d)).LT ?_;rintro e w' ⟨hA,rfl,_,hg,rfl,h1,h2⟩;exact⟨_,rfl,_,_,rfl,h1,by simpa [Hz] using h2,hg.size,λb hb=>hg.Ly.Lo b hb⟩
def M7 {bn:Nat}{w:bb}{SB:bw->Bool}(hn:w.heap[bn]?=Y (.cells G8.Li 3 (0,0))):∀b,b=bn->∃o,w.heap[b]?=Y o/\EP (SP SB Dd) (CK DP SB br) (EI λb=>b=bn) o o:=by
 rintro b rfl;refine⟨_,hn,.cells (E9 λv hv=>?_) λi h1 h2=>⟨h1,h2⟩⟩;simp only[G8,AM,AK,or_false] at hv;rcases hv with rfl|rfl|rfl<;>exact DX.int _ _
def wD {BB:bw->Bool}(hB:BB 14=M)(aH:BB 45=M)(aF:Ic BB){Q:cu->bb->Prop}(hQ:∀g w W,Ek w W->Q g w->Q g W){cs:List dt}(zW:cs≠[]){w:bb}
  (h:∀(bn bo bh cb sb cap nb:Nat) (cur:List bk) (t:df) (w':bb) (T U:Array bk),F2 w' bn bo bh cb sb cap cur t->w'.heap[nb]?=Y (Jq 0)->zB (Ey bn bo bh cb sb cap cur t) nb=br->T.size=19->T.LE 6 undef=.S (Y ⟨nb,0,E⟩) ->
   U.size=95->(∀v∈U.toList,∀(SB:bw->Bool) (H:Hid),E5 SB H (λb=>zB (Ey bn bo bh cb sb cap cur t) b=M) v)->w.heap.size<=w'.heap.size->(∀b,b<w.heap.size->w'.heap[b]?=w.heap[b]?) ->
   EL Z BB Q 0 (bZ PP 79 (Ip cb (.func 80) #[] [J (Y ⟨nb,0,E⟩)].Li) ((base 45).at ⟨T,[]⟩ [.inRegion c5 [2],.code x5]) ((base 14).at ⟨U,[]⟩ [.inRegion e1 [2,3,4,5,6,7],.code rV]::cs)) w') :
  EL Z BB Q 0 (cq (cw Z 14 #[] .normal) cs) w:=by
 rw[gR _ Tryz.func14 rfl];simp only[Tryz.ntmps14,AR,AQ,AT,Nat.reduceAdd,Nat.reduceSub,Bz,BA,BQ,BI,BZ,BN];change EL Z BB Q 0 (G _ cs) w;refine am hQ hB zW ?_;refine av hQ hB zW ?_;simp only[AR,AQ,AT,Nat.reduceAdd,AU,bs,bc];refine ag hQ hB zW rfl rfl λK hK q1 q2 q3=>?_;go_simp;refine hK _ w ?_ _ ⟨rfl,rfl,rfl⟩;refine au hQ hB zW ?_;refine am hQ hB zW ?_;refine av hQ hB zW ?_
 simp only[AR,AQ,AT,Nat.reduceAdd,AU,bs,bc];refine ag hQ hB zW rfl rfl λK hK q1 q2 q3=>?_;go_simp;refine hK _ (w.Li _) ?_ _ ⟨rfl,rfl,rfl⟩
 try simp only[ab]
 obtain⟨w1,a8⟩:∃w1,w1=w.Li (.cells G8.Li 3):=⟨_,rfl⟩;change EL Z BB Q 0 _ (w.Li (.cells G8.Li 3));rw[<-a8];have a6:=AB (show w1.heap.size=w.heap.size+1 by rw[a8,aG]);have aC:=AB (show ∀b,b<w.heap.size->w1.heap[b]?=w.heap[b]? from λb hb=>by rw[a8,aA,AE (by omega)]);have aB:w1.heap[w.heap.size]?=Y (.cells G8.Li 3 (0,0)):=by rw[a8,aA,AJ rfl]
 refine ar hQ hB (by kernel_rfl) λτ d=>?_;refine aD rfl rfl (by decide) rfl hP (by kernel_rfl) (by kernel_rfl) ⟨Ei _ _,w1,Dc,?_⟩
 try walk_nrm
 refine(ej (H:=Dd) aF).fn (f:=46) (by decide) (by decide) (K0:=λb=>b=w.heap.size) zW (λ_ _=>Bc _) (Bc _) (E9 (l:=[.slice (Y ⟨w.heap.size,0,E⟩) 3 3]) λv hv=>?_) (λb _ hb=>by cases hb) (λb hb=>by cases hb) (λb hb _=>M7 aB b hb) hQ (R:=Lp w.heap.size w1) L3 ?_
 .simp only[AM,AK,or_false] at hv;subst hv;exact E5.slice (K:=λb=>b=w.heap.size) rfl _ _ _ _
 rintro v w2 ⟨bo,bh,rfl,aI,aJ,aM,a7⟩;change EL Z BB Q 0 _ w2;rw[cf];simp only[Bw,Bu,Br,BD]
 try walk_nrm
 refine ar hQ hB (by kernel_rfl) λτ d=>?_;refine aD rfl rfl (by decide) rfl eH (by kernel_rfl) (by kernel_rfl) ⟨Ei _ _,w2,Dc,?_⟩
 try walk_nrm
 refine rQ aH aF hQ (Ei _ _) (bn:=w.heap.size) (bo:=bo) (bh:=bh) ((a7 _ (by have:=a6.out;omega)).trans aB) aI aJ λcb sb cap nb cur t w' T hC aK aL hT h6 hz hold=>?_;refine h w.heap.size bo bh cb sb cap nb cur t w' T _ hC aK aL hT h6 rfl (λv hv SB H=>?_) (by have:=a6.out;omega) λb hb=>(hold b (by have:=a6.out;omega)).trans ((a7 b (by have:=a6.out;omega)).trans (aC.out b hb))
 have k0:E5 SB H (λb=>zB (Ey w.heap.size bo bh cb sb cap cur t) b=M) (.slice (Y ⟨w.heap.size,0,E⟩) 3 3):=E5.slice ((EU _).2 (by simp)) _ _ _ _;have k1:E5 SB H (λb=>zB (Ey w.heap.size bo bh cb sb cap cur t) b=M) (EG (Y ⟨w.heap.size,0,E⟩) (Y ⟨bh,0,E⟩) Ec 3 3):=E5.agg (l:=[.slice (Y ⟨w.heap.size,0,E⟩) 3 3,.slice (Y ⟨bh,0,E⟩) 3 3]) λv hv=>by
  simp only[AM,AK,or_false] at hv;obtain rfl|rfl:=hv
  .exact k0
  .exact E5.slice ((EU _).2 (by simp)) _ _ _ _
 simp only[AM,AK,or_false,or_self] at hv
 repeat (obtain hv|hv:=hv;· subst hv;first|exact DX.bool _|exact k0|exact k1|exact E5.undef)
 subst hv;first|exact DX.bool _|exact k0|exact k1|exact E5.undef
def Po {T:Array bk}(h:T.size=95):∃(y0 y1 y2 y3 y4 y5 y6 y7 y8 y9 a6 a7 a8 aA aB aC aD aF aG aH aI aJ aK aL aM:bk) (tl:List bk),T=(y0::y1::y2::y3::y4::y5::y6::y7::y8::y9::a6::a7::a8::aA::aB::aC::aD::aF::aG::aH::aI::aJ::aK::aL::aM::tl).Li/\tl.L=70:=by
 obtain⟨l⟩:=T;have h:l.L=95:=h
 match l,h with
 |y0::y1::y2::y3::y4::y5::y6::y7::y8::y9::a6::a7::a8::aA::aB::aC::aD::aF::aG::aH::aI::aJ::aK::aL::aM::tl,h=>exact⟨y0,y1,y2,y3,y4,y5,y6,y7,y8,y9,a6,a7,a8,aA,aB,aC,aD,aF,aG,aH,aI,aJ,aK,aL,aM,tl,rfl,by simpa using h⟩
def wE {BB:bw->Bool}(hB:BB 14=M)(aW:BB 45=M)(aX:BB 47=M)(aC:Ic BB){Q:cu->bb->Prop}(hQ:∀g w W,Ek w W->Q g w->Q g W){cs:List dt}(zW:cs≠[]){K1:Nat->Prop}{nb:Nat}{w:bb}
  (hn:w.heap[nb]?=Y (Jq 1)) {T U:Array bk} (hT:T.size=19) (h6:T.LE 6 undef=.S (Y ⟨nb,0,E⟩)) (hU:U.size=95) (b5:∀v∈U.toList,∀(SB:bw->Bool) (H:Hid),E5 SB H K1 v)
  (h:∀(bn bo bh cb sb cap qb xb kb:Nat) (cur:List bk) (t:df) (w':bb) (T U:Array bk),F2 w' bn bo bh cb sb cap cur t->w'.heap[kb]?=Y (Gy br λ_=>0)->(∀p∈FP xb qb cb,w'.heap[p.1]?=Y (.cells p.2.1.Li p.2.2 (0,0)))->zB (Ey bn bo bh cb sb cap cur t++FP xb qb cb) kb=br ->
   T.size=27->T.LE 4 undef=.S (Y ⟨qb,0,E⟩)->T.LE 7 undef=.S (Y ⟨kb,0,E⟩) ->
   U.size=95->U.LE 1 undef=cd ck 1->U.LE 2 undef=cd ck 0->(∀v∈U.toList,∀(SB:bw->Bool) (H:Hid),E5 SB H (λb=>K1 b\/zB (Ey bn bo bh cb sb cap cur t) b=M) v)->w.heap.size<=w'.heap.size->(∀b,b<w.heap.size->w'.heap[b]?=w.heap[b]?) ->
   EL Z BB Q 0 (bZ PP 79 (Ip cb (.func 88) #[] [J (Y ⟨kb,0,E⟩),.S (Y ⟨xb,0,E⟩)].Li) ((base 47).at ⟨T,[]⟩ [.inRegion d6 [2],.code z6]) ((base 14).at ⟨U,[]⟩ [.inRegion e2 [2,3,4,5,6,7],.code Ol]::cs)) w') :
  EL Z BB Q 0 (back ((base 45).at ⟨T,[]⟩ [.inRegion c5 [2],.code x5]) ((base 14).at ⟨U,[]⟩ [.inRegion e1 [2,3,4,5,6,7],.code rV]::cs)) w:=by
 refine qa aW aC hQ zW hn hT h6 ?_;obtain⟨y0,y1,y2,y3,y4,y5,y6,y7,y8,y9,aH,aI,aJ,aK,aL,aM,aN,aO,aP,aQ,aR,aS,aT,aU,aV,tl,rfl,b6⟩:=Po hU;have b7:(e1[2]?.bind (·.dst))=Y 15:=rfl;rw[b7]
 try walk_nrm
 have ee1:e1=Gj (az (af wB)):=rfl;simp only[wB,hZ,AS,af,az,Gj] at ee1;rw[ee1];refine ag hQ hB zW rfl rfl λK hK q1 q2 q3=>?_;go_simp;refine hK _ w ?_ _ ⟨rfl,rfl,rfl⟩
 try walk_nrm
 try simp only[ab]
 refine ag hQ hB zW rfl rfl λK hK q1 q2 q3=>?_;go_simp;refine hK _ w ?_ _ ⟨rfl,rfl,rfl⟩
 try walk_nrm
 try simp only[ab]
 refine ag hQ hB zW rfl rfl λK hK q1 q2 q3=>?_;go_simp;refine hK _ w ?_ _ ⟨rfl,rfl,rfl⟩
 try walk_nrm
 try simp only[ab]
 refine ag hQ hB zW rfl rfl λK hK q1 q2 q3=>?_;go_simp;refine hK _ w ?_ _ ⟨rfl,rfl,rfl⟩
 try walk_nrm
 try simp only[ab]
 refine ag hQ hB zW rfl rfl λK hK q1 q2 q3=>?_;go_simp;refine hK _ w ?_ _ ⟨rfl,rfl,rfl⟩
 try walk_nrm
 try simp only[ab]
 refine au hQ hB zW ?_;have ez2:rV=af (af wB):=rfl;simp only[wB,hZ,AS,af] at ez2;rw[ez2];refine am hQ hB zW ?_;refine av hQ hB zW ?_;simp only[AR,AQ,AT,Nat.reduceAdd,AU,bs,bc];refine ag hQ hB zW rfl rfl λK hK q1 q2 q3=>?_;go_simp;refine hK _ (w.Li _) ?_ _ ⟨rfl,rfl,rfl⟩
 try walk_nrm
 try simp only[ab]
 obtain⟨w1,a8⟩:∃w1,w1=w.Li (.cells G8.Li 3):=⟨_,rfl⟩;change EL Z BB Q 0 _ (w.Li (.cells G8.Li 3));rw[<-a8];have a6:=AB (show w1.heap.size=w.heap.size+1 by rw[a8,aG]);have aF:=AB (show ∀b,b<w.heap.size->w1.heap[b]?=w.heap[b]? from λb hb=>by rw[a8,aA,AE (by omega)]);have aB:w1.heap[w.heap.size]?=Y (.cells G8.Li 3 (0,0)):=by rw[a8,aA,AJ rfl]
 refine ar hQ hB (by kernel_rfl) λτ d=>?_;refine aD rfl rfl (by decide) rfl hP (by kernel_rfl) (by kernel_rfl) ⟨Ei _ _,w1,Dc,?_⟩
 try walk_nrm
 refine(ej (H:=Dd) aC).fn (f:=46) (by decide) (by decide) (K0:=λb=>b=w.heap.size) zW (λ_ _=>Bc _) (Bc _) (E9 (l:=[.slice (Y ⟨w.heap.size,0,E⟩) 3 3]) λv hv=>?_) (λb _ hb=>by cases hb) (λb hb=>by cases hb) (λb hb _=>M7 aB b hb) hQ (R:=Lp w.heap.size w1) L3 ?_
 .simp only[AM,AK,or_false] at hv;subst hv;exact E5.slice (K:=λb=>b=w.heap.size) rfl _ _ _ _
 rintro v w2 ⟨bo,bh,rfl,aY,aZ,bA,a7⟩;change EL Z BB Q 0 _ w2;rw[cf];simp only[Bw,Bu,Br,BD]
 try walk_nrm
 refine ar hQ hB (by kernel_rfl) λτ d=>?_;refine aD rfl rfl (by decide) rfl eT (by kernel_rfl) (by kernel_rfl) ⟨Ei _ _,w2,Dc,?_⟩
 try walk_nrm
 refine t8 aX aC hQ (Ei _ _) (bn:=w.heap.size) (bo:=bo) (bh:=bh) ((a7 _ (by have:=a6.out;omega)).trans aB) aY aZ λcb sb cap qb xb kb cur t w' T hC b8 hX b9 hT h4 h7 hz hold=>?_;refine h w.heap.size bo bh cb sb cap qb xb kb cur t w' T _ hC b8 hX b9 hT h4 h7 (by simp[b6]) rfl rfl (λv hv SB H=>?_) (by have:=a6.out;omega) λb hb=>(hold b (by have:=a6.out;omega)).trans ((a7 b (by have:=a6.out;omega)).trans (aF.out b hb))
 have k0:E5 SB H (λb=>K1 b\/zB (Ey w.heap.size bo bh cb sb cap cur t) b=M) (.slice (Y ⟨w.heap.size,0,E⟩) 3 3):=E5.slice (.inr ((EU _).2 (by simp))) _ _ _ _;have k1:E5 SB H (λb=>K1 b\/zB (Ey w.heap.size bo bh cb sb cap cur t) b=M) (EG (Y ⟨w.heap.size,0,E⟩) (Y ⟨bh,0,E⟩) Ec 3 3):=E5.agg (l:=[.slice (Y ⟨w.heap.size,0,E⟩) 3 3,.slice (Y ⟨bh,0,E⟩) 3 3]) λv hv=>by
  simp only[AM,AK,or_false] at hv;obtain rfl|rfl:=hv
  .exact k0
  .exact E5.slice (.inr ((EU _).2 (by simp))) _ _ _ _
 have k2:E5 SB H (λb=>K1 b\/zB (Ey w.heap.size bo bh cb sb cap cur t) b=M) (.tuple #[cd ck 1,cd ck 0]):=by
  refine(E9 (l:=[cd ck 1,cd ck 0]) λv hv=>?_).tuple;simp only[AM,AK,or_false] at hv;rcases hv with rfl|rfl<;>exact DX.int _ _
 have k3:∀u∈(y0::y1::y2::y3::y4::y5::y6::y7::y8::y9::aH::aI::aJ::aK::aL::aM::aN::aO::aP::aQ::aR::aS::aT::aU::aV::tl:List bk),E5 SB H (λb=>K1 b\/zB (Ey w.heap.size bo bh cb sb cap cur t) b=M) u:=λu hu=>(b5 u (by simpa using hu) SB H).LT λb hb=>.inl hb;have hv2:v=cd ck 1\/v=cd ck 0\/v=.tuple #[cd ck 1,cd ck 0]\/v=.slice (Y ⟨w.heap.size,0,E⟩) 3 3\/v=EG (Y ⟨w.heap.size,0,E⟩) (Y ⟨bh,0,E⟩) Ec 3 3\/v∈(y0::y1::y2::y3::y4::y5::y6::y7::y8::y9::aH::aI::aJ::aK::aL::aM::aN::aO::aP::aQ::aR::aS::aT::aU::aV::tl:List bk):=by
  simp only[AM,AK,or_false] at hv ⊢
  grind
 obtain rfl|rfl|rfl|rfl|rfl|hv2:=hv2
 .exact DX.int _ _
 .exact DX.int _ _
 .exact k2
 .exact k0
 .exact k1
 .exact k3 v hv2
def wF {BB:bw->Bool}(hB:BB 14=M)(aP:BB 47=M)(aR:Ic BB){Q:cu->bb->Prop}(hQ:∀g w W,Ek w W->Q g w->Q g W){cs:List dt}(zW:cs≠[]){K1:Nat->Prop}{bn bo bh cb sb cap qb kb:Nat}{cur:List bk}{t:df}{ρ:EK}(aS:∀i,i<5->ρ i<16){w:bb}
  (hC:F2 w bn bo bh cb sb cap cur t) (hk:w.heap[kb]?=Y (Gy M ρ)) (hq:w.heap[qb]?=Y (bq #[.S (Y ⟨cb,0,E⟩)] 112 (0,0))) {T U:Array bk} (hT:T.size=27) (h4:T.LE 4 undef=.S (Y ⟨qb,0,E⟩)) (h7:T.LE 7 undef=.S (Y ⟨kb,0,E⟩))
  (hU:U.size=95) (a6:U.LE 1 undef=cd ck 1) (a7:U.LE 2 undef=cd ck 0) (aT:∀v∈U.toList,∀(SB:bw->Bool) (H:Hid),E5 SB H K1 v)
  (h:∀(A:Option Addr) (c:Nat) (xs:List bk) (w':bb) (K':Nat->Prop) (U:Array bk),EW w' (w.heap.size+1) (y A 3 c) (aV ρ 3) xs->w.heap.size<=w'.heap.size->(∀b,b<w.heap.size->w'.heap[b]?=w.heap[b]?)->(∀b,K' b->∃o,w'.heap[b]?=Y o/\EP (SP Io Dd) (CK DP Io br) (EI K') o o) ->
   U.size=95->U.LE 1 undef=cd ck 1->U.LE 2 undef=cd ck 0->U.LE 3 undef=y A 3 c->U.LE 4 undef=cd ck 0->(∀v∈U.toList,E5 Io Dd (λb=>K1 b\/K' b) v)->EL Z BB Q 0 (cq ((base 14).at ⟨U,[]⟩ [.code Ol]) cs) w') :
  EL Z BB Q 0 (back ((base 47).at ⟨T,[]⟩ [.inRegion d6 [2],.code z6]) ((base 14).at ⟨U,[]⟩ [.inRegion e2 [2,3,4,5,6,7],.code Ol]::cs)) w:=by
 refine rU aP aR hQ zW aS hC hk hq hT h4 h7 λA c xs w2 K' ho hz hold hv aQ=>?_;obtain⟨y0,y1,y2,y3,y4,y5,y6,y7,y8,y9,a8,aA,aB,aC,aD,aF,aG,aH,aI,aJ,aK,aL,aM,aN,aO,tl,rfl,aU⟩:=Po hU;have a6:y1=cd ck 1:=a6;have a7:y2=cd ck 0:=a7;subst a6 a7;have e21:(e2[2]?.bind (·.dst))=Y 21:=rfl;rw[e21]
 try walk_nrm
 have ee2:e2=Gj (az (af (af wB))):=rfl;simp only[wB,hZ,AS,af,az,Gj] at ee2;rw[ee2];refine ag hQ hB zW rfl rfl λK hK q1 q2 q3=>?_;go_simp;refine hK _ w2 ?_ _ ⟨rfl,rfl,rfl⟩
 try walk_nrm
 try simp only[ab]
 refine ag hQ hB zW rfl rfl λK hK q1 q2 q3=>?_;go_simp;refine hK _ w2 ?_ _ ⟨rfl,rfl,rfl⟩
 try walk_nrm
 try simp only[ab]
 refine ag hQ hB zW rfl rfl λK hK q1 q2 q3=>?_;go_simp;refine hK _ w2 ?_ _ ⟨rfl,rfl,rfl⟩
 try walk_nrm
 try simp only[ab]
 refine ag hQ hB zW rfl rfl λK hK q1 q2 q3=>?_;go_simp;refine hK _ w2 ?_ _ ⟨rfl,rfl,rfl⟩
 try walk_nrm
 try simp only[ab]
 refine ag hQ hB zW rfl rfl λK hK q1 q2 q3=>?_;go_simp;refine hK _ w2 ?_ _ ⟨rfl,rfl,rfl⟩
 try walk_nrm
 try simp only[ab]
 refine au hQ hB zW ?_;refine h A c xs w2 K' _ ho hz hold aQ (by simp[aU]) rfl rfl rfl rfl λv hv3=>?_;have k0:E5 Io Dd (λb=>K1 b\/K' b) (y A 3 c):=hv.LT λb B hb=>⟨.inr hb.1,hb.2⟩;have k2:E5 Io Dd (λb=>K1 b\/K' b) (.tuple #[y A 3 c,cd ck 0]):=by
  refine(E9 (l:=[y A 3 c,cd ck 0]) λv hv=>?_).tuple;simp only[AM,AK,or_false] at hv;obtain rfl|rfl:=hv
  .exact k0
  .exact DX.int _ _
 have k3:∀u∈(y0::cd ck 1::cd ck 0::y3::y4::y5::y6::y7::y8::y9::a8::aA::aB::aC::aD::aF::aG::aH::aI::aJ::aK::aL::aM::aN::aO::tl:List bk),E5 Io Dd (λb=>K1 b\/K' b) u:=λu hu=>(aT u (by simpa using hu) Io Dd).LT λb hb=>.inl hb;have hv2:v=y A 3 c\/v=cd ck 0\/v=.tuple #[y A 3 c,cd ck 0]\/v∈(y0::cd ck 1::cd ck 0::y3::y4::y5::y6::y7::y8::y9::a8::aA::aB::aC::aD::aF::aG::aH::aI::aJ::aK::aL::aM::aN::aO::tl:List bk):=by
  simp only[AM,AK,or_false] at hv3 ⊢
  grind
 obtain rfl|rfl|rfl|hv2:=hv2
 .exact k0
 .exact DX.int _ _
 .exact k2
 .exact k3 v hv2
def RG:List FuncId:=Qm++[45,47,79,80,83,88,175,176,201,202,203]
def KQ (f:bw):Bool:=RG.H f
def PK (f:bw):Bool:=f==79||f==80||f==83||f==88||f==201||f==203
def Ie (f:bw):Bool:=KQ f&&!PK f
def wG {p:Nat->Bool}(h:RG.all p=M):∀f,KQ f=M->p f=true:=λf hf=>(B6.1 h) f (by simpa [KQ] using hf)
def fR:Ic Ie:=by
 refine⟨λf hf=>?_,by decide,by decide⟩;have:Qm.all Ie=true:=by kernel_rfl
 exact kD this f hf
def yp:RG.all (λf=>Jz Z KQ M f||O3 f||PK f)=true:=by kernel_rfl
def zh {P:Er}(f:bw)(hf:aK KQ f=M):IJ P f:=by
 unfold aK at hf;have h:KQ 123=false:=by decide
 rw[h,B7,Cd] at hf;cases hf
def M8 (H:Hid):Lib PP KQ H M Ie 0:=by
 refine iJ (λf hf=>?_) (λf hf hb=>?_) (λf hf=>?_) zh ⟨B9 ez,Tryz.Li⟩
 .simp only[Ie,AO,BX] at hf;have:=wG yp f hf.1;simp only[hf.2,CW,Bm] at this;obtain h|h:=this
  .exact .inl ⟨h,rfl⟩
  .exact .inr (vb h)
 .simp only[Ie,hf,CX,Ch,PK,Bm,beq_iff_eq] at hb;obtain((((rfl|rfl)|rfl)|rfl)|rfl)|rfl:=hb
  .exact⟨_,_,dn,dn,rfl,by decide,by decide,rfl,rfl⟩
  .exact⟨_,_,eF,eF,rfl,by decide,by decide,rfl,rfl⟩
  .exact⟨_,_,h9,h9,rfl,by decide,by decide,rfl,rfl⟩
  .exact⟨_,_,eG,eG,rfl,by decide,by decide,rfl,rfl⟩
  .exact⟨_,_,ed,ed,rfl,by decide,by decide,rfl,rfl⟩
  .exact⟨_,_,ek,ek,rfl,by decide,by decide,rfl,rfl⟩
 .simp only[Ie,AO] at hf;exact hf.1
def Om:∃cE,Tryz.f79.body=Y cE/\codeOk Z KQ M M cE=false:=⟨_,rfl,by kernel_rfl⟩
end Go.Sq
