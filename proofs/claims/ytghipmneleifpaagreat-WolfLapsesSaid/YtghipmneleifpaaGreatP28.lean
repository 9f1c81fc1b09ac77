/- What is proved: whatever the numbers, the law WolfLapses answers true. Conditions: none beyond the statement's own. -/
import Derived.Test.YtghipmneleifpaaGreatP27
import Derived.Test.YtghipmneleifpaaGreatP06
import Derived.Test.YtghipmneleifpaaGreatP00
import Derived.Test.YtghipmneleifpaaGreatP05
import Derived.Test.YtghipmneleifpaaGreatP14
import Derived.Test.YtghipmneleifpaaGreatP18
import Derived.Test.YtghipmneleifpaaGreatP24
import Derived.Test.YtghipmneleifpaaGreatP12
import Derived.Deep.Slices
import Derived.Deep.Matrix
import Derived.ChangeSlices
import Derived.ChangeSame
import Derived.Test.YtghipmneleifpaaGreatRows
import Derived.Conc.HoldsTime
import Derived.Conc.LeavingOf
import Derived.ProofKit
set_option linter.all false
set_option maxRecDepth 100000
open Go.Proofs.Tryz renaming prog->a6,underlying3->a8,underlying22->bl,underlying28->b8,underlying26->b9,func3->cw,underlying25->cU,checked->df,f3->dr,ntmps3->eb,func6->ed
open Go.Value renaming slice->a7,int->bq,okWide->b6,cells->ea
open Bool renaming true->bb,false->dy
open Array renaming replicate->bc
open Go.DataW renaming Trod->bh,trod->bn,trod_int->bA,TrodAll->cr,trod_struct->cK
open Option renaming some->bk,none->dn
open Go.Conc renaming G->bo,Good->cE
open Go.IntKind renaming i64->br
open Go renaming Value->bs,MemPlace->bD,World->bW,TypeId->cf,DataW->cF,Addr->dS,Oper->ek
open Go.Frame renaming enter->bw
open Go.ChangeShapes renaming trodAll_cons->b5
open Go.RowKit.Below renaming trod->b7
open Go.CallKind renaming normal->cu
namespace Go.Sq
open Go.Proofs
open Go.RowKit Go.Ct Go.Co Go.Conc Go.ConcN
inductive Ns (ops:Array ek):List Nat->Act->Act->Prop
 |nil (a:Act):Ns ops [] a a
 |cons {i:Nat} {rest:List Nat} {a a':Act} {o:ek} {v:bs}:ops[i]?=bk o->Region.wanted o (yielded ops a.tmps)=bb->aL a6 o.op=bb->(∀w,(execOp a.eval o).run a6 w=.ok (.value v) w)->Ns ops rest (a.put o.dst v) a'->Ns ops (i::rest) a a'
def rT {Q:Goroutine->bW->Prop}(hQ:∀g w W,Cs w W->Q g w->Q g W){b:Frame}(hB:Gv b.fn=bb)(hk:b.kind≠.early){ops:Array ek}{k:List Item}{C:Frame}{cs:List Frame}{w:bW}{rest:List Nat}{a a':Act}(h:Ns ops rest a a')
  (he:C1 a6 Gv Q 0 (bo (b.at a' (.inRegion ops []::k)) (C::cs)) w):C1 a6 Gv Q 0 (bo (b.at a (.inRegion ops rest::k)) (C::cs)) w:=by
 induction h with
 |nil a=>exact he
 |@cons i rest a a' o v ho hw pl hv _ ih =>
  have hn:bM a6 (.inRegion ops (i::rest)::k)=true:=by
   show(match ops[i]? with|some o=>aL a6 o.op|none=>bb)=bb;rw[ho];exact pl
  refine ay hQ hB hn λτ d=>?_;rw[stepG_value ho hw hk (hv _)];simp only[goes_go];exact⟨Cp _ _,w,Bm,ih he⟩
structure LawIn (f:FuncId)(ops:Array ek)(i:Nat)(rest:List Nat)(more:List Item) where
 fn:Func
 o:ek
 d:Nat
 t:Nat
 n:Nat
 N:Act->Prop
 hf:Tryz.prog.funcs[f]?=bk fn
 ho:ops[i]?=bk o
 Zd:o.dst=bk d
 hop:∃ts,o.op=.call { callee:=.value (.func 6),args:=#[],argTypes:=ts }
 plain:aL a6 o.op=bb
 hres:fn.results=#[.tmp t]
 looked:Gv f=bb
 hn:fn.ntmps=n
 want:∀a,N a->Region.wanted o (yielded ops a.tmps)=bb
 P3:∀a,N a->a.defers=[]
 pure:∀a,N a->∃a',Ns ops rest (a.put (bk d) (.bool bb)) a'/\a'.defers=[]/\a'.tmps.getD t undef=.bool bb
section
variable {f:FuncId} {ops:Array ek} {i:Nat} {rest:List Nat} {more:List Item}
def LawIn.tgt (_:LawIn f ops i rest more):List Item:=.inRegion ops (i::rest)::.code .ret::more
def LawIn.fr (E:LawIn f ops i rest more)(a:Act):Frame:=(base f).at a E.tgt
def LawIn.go (E:LawIn f ops i rest more){a:Act}(ha:E.N a){cs:List Frame}(hcs:cs≠[]){w:bW}:C1 a6 Gv (Nf (E.fr a::cs)) 0 (bo ((base f).at a E.tgt) cs) w:=by
 have hQ:∀g w W,Cs w W->Nf (E.fr a::cs) g w->Nf (E.fr a::cs) g W:=Nf.same;have hB:Gv (base f).fn=true:=E.looked;obtain⟨ts,g3⟩:=E.hop;have hn:bM a6 E.tgt=true:=by
  show(match ops[i]? with|some o=>aL a6 o.op|none=>bb)=bb;rw[E.ho];exact E.plain
 refine ay hQ hB hn λτ d=>?_;refine aF (o:=E.o) E.ho (E.want a ha) (by show cu≠.early;decide) g3 ed (by kernel_rfl) (by kernel_rfl) ⟨Cp _ _,w,Bm,?_⟩;have em:(#[]:Array Operand).map a.eval=#[]:=by simp
 rw[em];exact vy (cs:=E.fr a::cs) (Cp _ _) w
def LawIn.back (E:LawIn f ops i rest more){a:Act}(ha:E.N a):j6 (Ct.Left a6 f λv _=>v=.bool bb) (E.fr a::[bad]):=by
 have hQ:∀g w W,Cs w W->Ct.Left a6 f (λv _=>v=.bool bb) g w->Ct.Left a6 f (λv _=>v=.bool bb) g W:=Ct.Left.same;have hB:Gv (base f).fn=true:=E.looked;refine vQ hQ λa' todo w' hv XU hpl=>?_;refine rR hQ (by show Gv 6=bb;decide) hpl λτ dd=>?_;refine goes_leave1 (b:=base 6) (b₀:=base f) (a₀:=a) (ops:=ops) (i:=i) (rest:=rest) (k:=.code .ret::more) rfl XU ed rfl ⟨Cp _ _,w',Bm,?_⟩
 rw[hv];have e1:(ops[i]?.bind (·.dst))=bk E.d:=by rw[E.ho];exact E.Zd
 rw[e1];obtain⟨a2,hp,Mp,aiC⟩:=E.pure a ha;refine rT hQ hB (by show cu≠.early;decide) hp ?_;refine ay hQ hB rfl λτ dd=>?_;rw[stepG_region_end];simp only[goes_go];refine⟨Cp _ _,w',Bm,?_⟩;refine ay hQ hB rfl λτ dd=>?_;rw[stepG_ret'];simp only[goes_go];refine⟨Cp _ _,w',Bm,.fin ?_⟩;refine⟨w',.bool bb,_,⟨rfl,rfl,rfl⟩,rfl,rfl,rfl,rfl,Mp,rfl,E.fn,E.hf,?_⟩;have:=results_tmp E.hres a2.tmps a6 w'
 rw[aiC] at this;exact this
noncomputable def LawIn.aiD (E:LawIn f ops i rest more):Nq f where
 fn:=E.fn
 t:=E.t
 hf:=E.hf
 hres:=E.hres
 looked:=E.looked
 fr:=E.fr
 N:=E.N
 back _ h:=E.back h
variable {K:Nat->Bool} {k:Nat->Nat->Bool} {W:bW} {args:Array bs}
def rU (E:Nq f){n:Nat}(hn:E.fn.ntmps=n)(tg:Act->List Item)(htg:∀a c t,tg a≠.code c::t)(hE:∀a,E.N a->∀w,C1 a6 Gv (Nf (E.fr a::[bad])) 0 (bo ((base f).at a (tg a)) [bad]) w){C:Code}(IV:E.fn.body=bk C)(hput:(f != 6&&Im f)=bb)(NR:GC f=bb)(Nt:codeOk B1 GC dy bb C=bb)(Kn:∀S,LC S K k W)(Es:∀S,Ca S (CX λb=>K b=bb) args args)
  (hgo:∀τ d,dt B1 tg C (λa _=>E.N a) ⟨args++bc (n-args.size) undef,[]⟩ (on (bH K k W) τ d)) :
  C1 a6 Gv (H8 E) 0 (bo (bw a6 f args .normal) [bad]) (bH K k W):=by
 have hQ:∀g w W,Cs w W->H8 E g w->H8 E g W:=λg w W s ⟨a,h1,h3⟩=>⟨a,h1,Nf.same g w W s h3⟩;rw[enter_at _ E.hf IV,hn];have J0:Cq B1 GC Bn dy (CX λb=>K b=bb) ((base f).at ⟨args++bc (n-args.size) undef,[]⟩ [.code C]) ((base f).at ⟨args++bc (n-args.size) undef,[]⟩ [.code C]) :=
  ⟨rfl,(Es _).append (.replicate (.undef _ _) _),.cons (.code Nt) .nil,.nil,.run,rfl,⟨(by show cu≠.early;decide),NR⟩,.none⟩
 refine(ee (H:=Bn) fT).Zc (b:=base f) (a:=⟨args++bc (n-args.size) undef,[]⟩) (tgt:=tg) (c:=C) (k:=[]) (C:=bad) (cs:=[]) (Q:=H8 E) (w:=bH K k W) (K0:=λb=>K b=bb) J0 (λ_ _=>zf _) (zf _) (λb _ hb=>by cases hb) (λb hb=>by cases hb) (λb hb _=>Nr (Kn _) b hb)
  (λa c t h=>htg a c t (by simpa using h)) (.inr ⟨_,_,Sq.put E.hf hput,rfl⟩) hQ (N:=λa _=>E.N a) hgo (λa' w' hn=>?_)
 rw[Ay];exact(hE a' hn _).mono λg w h=>⟨a',hn,h⟩
def p7 (E:Nq f){n:Nat}(hn:E.fn.ntmps=n)(tg:Act->List Item)(htg:∀a c t,tg a≠.code c::t)(hE:∀a,E.N a->∀w,C1 a6 Gv (Nf (E.fr a::[bad])) 0 (bo ((base f).at a (tg a)) [bad]) w){C:Code}(IV:E.fn.body=bk C)(hput:(f != 6&&Im f)=bb)(NR:GC f=bb)(hsm:KD f=bb)(Nt:codeOk B1 GC dy bb C=bb)(Kn:∀S,LC S K k W)(Es:∀S,Ca S (CX λb=>K b=bb) args args)
  (hgo:∀τ d,dt B1 tg C (λa _=>E.N a) ⟨args++bc (n-args.size) undef,[]⟩ (on (bH K k W) τ d)) :
  ∃M last o w' t',runNT a6 (M+1) (solo (bo (bw a6 f args .normal) []) W) #[]=(.ended o w',t')/\runN a6 M (solo (bo (bw a6 f args .normal) []) W)=.next last/\step a6 last=.ended o w' /\
   cE a6 (λv w'=>v=.bool bb/\(w'.os=W.os/\w'.output=W.output)/\W.heap.size<=w'.heap.size/\∀B,B<W.heap.size->w'.heap[B]?=W.heap[B]?) last o w' t' :=
 vR E (A:=bo (bw a6 f args .normal) []) (W:=W) (x:=⟨bo (bw a6 f args .normal) [bad],bH K k W,Hid.nb,CX λb=>K b=bb,[]⟩)
  ⟨⟨Dg (P:=PP) (Pz _) (.inl hsm) (Es _) .normal (by decide),.base,⟨rfl,rfl⟩,⟨rfl,rfl⟩,⟨rfl,rfl⟩⟩,nR rfl (λ_=>rfl) (Kn _),rfl,λ_ _ _ h=>h.elim,λB hB=>⟨hB,rfl⟩,λb B hb _=>by
   obtain⟨hk,rfl⟩:=hb;obtain⟨C,t,f,h1,_⟩:=Kn (SP KD Hid.nb) b hk
   exact .inr (rS hk h1)⟩ (rU E hn tg htg hE IV hput NR Nt Kn Es hgo) rfl λ_=>rfl
def i7 (E:LawIn f ops i rest more){C:Code}(IV:E.fn.body=bk C)(hput:(f != 6&&Im f)=bb)(NR:GC f=bb)(hsm:KD f=bb)(Nt:codeOk B1 GC dy bb C=bb)(Kn:∀S,LC S K k W)(Es:∀S,Ca S (CX λb=>K b=bb) args args)
  (hgo:∀τ d,aG B1 E.tgt C (λa _=>E.N a) ⟨args++bc (E.n-args.size) undef,[]⟩ (on (bH K k W) τ d)) :
  ∃M last o w' t',runNT a6 (M+1) (solo (bo (bw a6 f args .normal) []) W) #[]=(.ended o w',t')/\runN a6 M (solo (bo (bw a6 f args .normal) []) W)=.next last/\step a6 last=.ended o w' /\
   cE a6 (λv w'=>v=.bool bb/\(w'.os=W.os/\w'.output=W.output)/\W.heap.size<=w'.heap.size/\∀B,B<W.heap.size->w'.heap[B]?=W.heap[B]?) last o w' t' :=
 p7 E.aiD E.hn (λ_=>E.tgt) (λ_ c t h=>by simp[LawIn.tgt] at h) (λ_ h _=>E.go h (Cp _ _)) IV hput NR hsm Nt Kn Es hgo
variable {Yg:Array ek} {i2:Nat} {WL:List Nat} {more2:List Item}
end
end Go.Sq
namespace Go.Ct
open Classical
noncomputable def LD (W:bW)(b:Nat):Bool:=decide (∃C t f,W.heap[b]?=bk (.cells C t f))
def FZ (W:bW)(v:bs):Prop:=∀S:DT,B6 S (CX λb=>LD W b=bb) v v
noncomputable def PG (W:bW)(b i:Nat):Bool:=decide (∀C t f v,W.heap[b]?=bk (.cells C t f)->C[i]?=bk v->FZ W v)
noncomputable abbrev Fs (W:bW):World:=bH (LD W) (PG W) W
def kg (W:bW)(S:DT):LC S (LD W) (PG W) W:=λb hb=>by
 obtain⟨C,t,f,h⟩:=of_decide_eq_true hb;exact⟨C,t,f,h,λi v hk hv=>of_decide_eq_true hk C t f v h hv S⟩
def Hw {W:bW}{a:dS}{v:bs}(h:W.cell? a=bk v):a.spot=dn/\∃C t f,W.heap[a.block]?=bk (.cells C t f)/\C[a.off]?=bk v:=by
 unfold World.cell? at h;split at h
 .rename_i C t f hC;cases hs:a.spot with
  |none=>rw[hs] at h;exact⟨rfl,_,_,_,hC,h⟩
  |some s=>rw[hs] at h;cases h
 .cases h
def cd {W:bW}{b o:Nat}{v:bs}(h:W.cell? ⟨b,o,dn⟩=bk v)(hv:FZ W v):(Fs W).cell? ⟨b,o,dn⟩=bk v:=by
 unfold Fs;rw[nQ λ_=>?_]
 .exact h
 .obtain⟨_,C,t,f,h1,h2⟩:=Hw h;refine decide_eq_true λC' t' f' v' h1' O7=>?_;rw[h1] at h1';cases h1';rw[h2] at O7;cases O7;exact hv
def fF {W:bW}(k:IntKind)(n:Int):FZ W (.int k n):=λ_=>.int _ _
def bU {W:bW}{A:Option dS}{len cap:Nat}(hl:len<=cap)(h:∀a,A=bk a->0<cap->∃v,W.cell? a=bk v):FZ W (a7 A len cap):=λS=>by
 cases A with
 |none=>exact .Fc _ _
 |some a =>
  rcases zp cap with e|e
  .subst e;obtain rfl:len=0:=by omega
   exact .Dl (.inl rfl)
  .obtain⟨v,hv⟩:=h _ rfl e;obtain⟨_,C,t,f,h1,_⟩:=Hw hv;exact .slice _ _ _ _ ⟨decide_eq_true ⟨C,t,f,h1⟩,rfl⟩
def iN {b o n:Nat}:(⟨b,o,dn⟩:dS).add n=⟨b,o+n,dn⟩:=by
 unfold Addr.add;split
 .rename_i h;have h0:n=0:=h;subst h0;rfl
 .rfl
def add_zero (a:dS):a.add 0=a:=by unfold Addr.add;rfl
end Go.Ct
namespace Go.Sq
open Go.RowKit Go.Ct Go.ChangeShapes Go.Deep
def ly {W:bW}{a:dS}{l:List Int}(h:∀i,i<l.length->W.cell? (a.add i)=bk (bq br (l.getD i 0))):RI (Fs W) W.heap.size (bk a) l:=λhne=>by
 have h0:=h 0 (List.length_pos_iff.2 hne);rw[add_zero] at h0;obtain⟨hs,C,t,f,h1,_⟩:=Hw h0;obtain⟨b,o,s⟩:=a;dsimp only at hs h1;subst hs;refine⟨b,o,rfl,(yK.1 h1).1,λi x hx=>?_⟩;have hi:=(ze.1 hx).1;have:=h i hi;rw[iN,Aq,hx] at this;exact cd this (fF _ _)
def JR {α:Type}{P:Nat->α->Prop}:∀n,(∀i,i<n->∃x,P i x)->∃l:List α,l.length=n/\∀i x,l[i]?=bk x->P i x
 |0,_=>⟨[],rfl,λi x h=>by simp at h⟩
 |n+1,h=>by
  obtain⟨l,h1,h2⟩:=JR n λi hi=>h i (by omega);obtain⟨x,hx⟩:=h n (by omega);refine⟨l++[x],by simp[h1],λi y hy=>?_⟩;by_cases hi:i<n
  .rw[zo (by omega)] at hy;exact h2 i y hy
  .have:=(ze.1 hy).1;rw[Ad,List.length_singleton,h1] at this;obtain rfl:i=n:=by omega
   rw[zv (by omega),h1,Nat.sub_self] at hy;cases hy;exact hx
variable {P:Program} {H:Type} {enc:cf×bs->H} {W:bW} {held:Bool}
def H9 {t e:cf}{fuel:Nat}{cs:List bs}{x:cF H×List bD}(ht:P.underlying t=bk (.slice e))(he:P.underlying e=bk (.int br))(hc:P.cellsOf e=1)
  (h:bn enc P W 0 (λ_=>bb) held fuel t cs=bk x):∃A len cap l,cs=[a7 A len cap]/\l.length=len/\len<=maxLen/\FZ W (a7 A len cap)/\RI (Fs W) W.heap.size A l:=by
 rcases open_ints ht he hc h with⟨rfl,_⟩|⟨a,len,cap,zs,rfl,_,h1,h2,h3,_,h4,_⟩
 .exact⟨dn,0,0,[],rfl,rfl,zf _,bU (yL _) (λ_ e=>by cases e),.nil⟩
 .simp only[if_true] at h3;refine⟨bk a,len,cap,zs.take len,rfl,by simp;omega,by omega,bU h1 λa' e hp=>?_,ly λi hi=>?_⟩
  .cases e
   have:=h4 0 (by omega);rw[add_zero] at this;exact⟨_,this⟩
  .have hi:i<len:=by simp at hi;omega
   rw[h4 i (by omega),Aq,Aq,AD,if_pos hi]
def Qt {t e q:cf}{fuel:Nat}{cs:List bs}{x:cF H×List bD}(ht:P.underlying t=bk (.slice e))(he:P.underlying e=bk (.slice q))(hq:P.underlying q=bk (.int br))(ce:P.cellsOf e=1)(cq:P.cellsOf q=1)
  (h:bn enc P W 0 (λ_=>bb) held fuel t cs=bk x):∃A len cap ls,cs=[a7 A len cap]/\ls.length=len/\len<=maxLen/\(∀y∈ls,y.length<=maxLen)/\FZ W (a7 A len cap)/\Da (Fs W) W.heap.size A ls:=by
 rcases open_int_rows ht he hq ce cq h with⟨rfl,_⟩|⟨a,len,cap,A,L,C,Z,rfl,_,h1,h2,_,h3⟩
 .exact⟨dn,0,0,[],rfl,rfl,zf _,by simp,bU (yL _) (λ_ e=>by cases e),λh=>absurd rfl h⟩
 .have Ij : ∀ r, r < cap -> FZ W (.slice (A r) (L r) (C r)) := fun r hr => by
   obtain⟨_,g1,g2,_,_,_,g5⟩:=h3 r hr;refine bU g1 λa' e hp=>?_;have:=(g5 a' e).2 0 hp;rw[add_zero] at this;exact⟨_,this⟩
  refine⟨bk a,len,cap,(List.range len).map λr=>(Z r).take (L r),rfl,by simp,by omega,λy hy=>?_,bU h1 λa' e hp=>?_,λhne=>?_⟩
  .obtain⟨r,hr,rfl⟩:=zu.1 hy;have hr:=zB.1 hr;obtain⟨_,g1,g2,_⟩:=h3 r (by omega);simp;omega
  .cases e
   have:=(h3 0 (by omega)).1;rw[add_zero] at this;exact⟨_,this⟩
  .have hlen : 0 < len := by
    rcases zp len with e|e
    .subst e;exact absurd rfl hne
    .exact e
   obtain⟨c0,_⟩:=h3 0 (by omega);rw[add_zero] at c0;obtain⟨hs,C',t',f',c1,_⟩:=Hw c0;obtain⟨b,o,s⟩:=a;dsimp only at hs c1;subst hs;refine⟨b,o,rfl,(yK.1 c1).1,λi l hl=>?_⟩;have hi:i<len:=by
    have:=(ze.1 hl).1;simpa using this
   rw[zL,Am hi] at hl;cases hl;obtain⟨g0,g1,g2,g3,_,g4,g5⟩:=h3 i (by omega);rw[iN] at g0;have el:((Z i).take (L i)).length=L i:=by simp;omega
   refine⟨A i,C i,by rw[el];exact cd g0 (Ij i (by omega)),?_⟩;cases hA:A i with
   |none =>
    have:L i=0:=by have:=g4 hA;omega
    dsimp only;rw[this,List.take_zero];exact .nil
   |some a' =>
    refine ly λj hj=>?_;dsimp only at hj ⊢;rw[el] at hj;rw[(g5 a' hA).2 j (by omega),Aq,Aq,AD,if_pos hj]
open Go.Proofs
def Qv:Tryz.prog.cellsOf 25=2/\Tryz.prog.cellsOf 22=1/\Tryz.prog.cellsOf 23=1/\Tryz.prog.cellsOf 3=1/\Tryz.prog.cellsOf 28=4/\Tryz.prog.cellsOf 26=1:=⟨by kernel_rfl,by kernel_rfl,by kernel_rfl,by kernel_rfl,by kernel_rfl,by kernel_rfl⟩
variable {H:Type} {enc:cf×bs->H} {W:bW} {held:Bool}
def OI {a:dS}{cs:List bs}(h:W.cells? 0 a 4=bk cs):∃c0 c1 c2 c3,cs=[c0,c1,c2,c3]/\W.cell? a=bk c0/\W.cell? (a.add 1)=bk c1/\W.cell? (a.add 2)=bk c2/\W.cell? (a.add 3)=bk c3:=by
 unfold World.cells? at h;rw[if_pos (zf _)] at h;simp only[List.range,List.range.loop,List.mapM_cons,List.mapM_nil,Option.bind_eq_bind,Option.pure_def,Option.bind_eq_some_iff,Option.some.injEq] at h;obtain⟨c0,h0,_,⟨c1,h1,_,⟨c2,h2,_,⟨c3,h3,_,rfl,rfl⟩,rfl⟩,rfl⟩,rfl⟩:=h;rw[add_zero] at h0;exact⟨c0,c1,c2,c3,rfl,h0,h1,h2,h3⟩
def nU {fuel b o:Nat}{cs:List bs}{x:cF H×List bD}(hc:W.cells? 0 ⟨b,o,dn⟩ 4=bk cs)(h:bn enc a6 W 0 (λ_=>bb) held fuel 28 cs=bk x) :
  ∃h:CF,NU (Fs W) W.heap.size b o h/\h.off.length<=maxLen:=by
 obtain⟨c0,c1,c2,c3,rfl,h0,h1,h2,h3⟩:=OI hc;obtain⟨Ze,OJ,WM,e3,Zf,_⟩:=Qv;obtain⟨xs,n,_,_,_,_,hf⟩:=cK b8 h;have f0:bn enc a6 W 0 (λ_=>bb) held n 3 (([c0,c1,c2,c3].drop 0).take (Tryz.prog.cellsOf 3))=xs[0]?:=hf 0 _ rfl;have f1:bn enc a6 W 0 (λ_=>bb) held n 3 (([c0,c1,c2,c3].drop 1).take (Tryz.prog.cellsOf 3))=xs[1]?:=hf 1 _ rfl
 have f2:bn enc a6 W 0 (λ_=>bb) held n 3 (([c0,c1,c2,c3].drop 2).take (Tryz.prog.cellsOf 3))=xs[2]?:=hf 2 _ rfl;have f3:bn enc a6 W 0 (λ_=>bb) held n 22 (([c0,c1,c2,c3].drop 3).take (Tryz.prog.cellsOf 22))=xs[3]?:=hf 3 _ rfl;have el:xs.length=4:=‹xs.length=_›;obtain⟨x0,x1,x2,x3,rfl⟩:∃x0 x1 x2 x3,xs=[x0,x1,x2,x3]:=by
  match xs,el with
  |[x0,x1,x2,x3],_=>exact⟨_,_,_,_,rfl⟩
 rw[e3] at f0 f1 f2;rw[OJ] at f3;obtain⟨k0,q0,_⟩:=bA a8 f0;obtain⟨k1,q1,_⟩:=bA a8 f1;obtain⟨k2,q2,_⟩:=bA a8 f2;obtain⟨A,len,cap,l,q3,hl,hm,hk,hr⟩:=H9 bl a8 e3 f3;cases q0;cases q1;cases q2;cases q3;rw[iN] at h1 h2 h3;subst hl;exact⟨⟨k0,k1,k2,l⟩,⟨cd h0 (fF _ _),cd h1 (fF _ _),cd h2 (fF _ _),A,cap,cd h3 hk,hr⟩,hm⟩
def Mb {fuel:Nat}{cs:List bs}{x:cF H×List bD}(h:bn enc a6 W 0 (λ_=>bb) held fuel 23 cs=bk x) :
  ∃(A:Option dS) (len cap:Nat) (hs:List CF),cs=[a7 A len cap]/\hs.length=len/\len<=maxLen/\(∀y∈hs,y.off.length<=maxLen)/\FZ W (a7 A len cap)/\Db (Fs W) W.heap.size A hs:=by
 obtain⟨Ze,OJ,WM,e3,Zf,_⟩:=Qv;rcases open_slice Tryz.underlying23 h with⟨rfl,_⟩|⟨a,len,cap,m,n,D,Pl,rfl,_,h1,h2,h3,_,h4⟩
 .exact⟨dn,0,0,[],rfl,rfl,zf _,by simp,bU (yL _) (λ_ e=>by cases e),λh=>absurd rfl h⟩
 .simp only[if_true] at h3;subst h3;rw[Zf] at h4;have hk:FZ W (.slice (bk a) len m):=bU h1 λa' e hp=>by
   cases e
   obtain⟨cs',g1,_⟩:=h4 0 hp;obtain⟨c0,c1,c2,c3,_,g2,_⟩:=OI g1;rw[Nat.zero_mul,add_zero] at g2;exact⟨_,g2⟩
  rcases zp len with e|e
  .subst e;exact⟨bk a,0,m,[],rfl,rfl,zf _,by simp,hk,λh=>absurd rfl h⟩
  .obtain⟨cs',g1,_⟩:=h4 0 (by omega);obtain⟨c0,c1,c2,c3,_,g2,_⟩:=OI g1;rw[Nat.zero_mul,add_zero] at g2;obtain⟨hs,C',t',f',c1,_⟩:=Hw g2;obtain⟨b,o,s⟩:=a;dsimp only at hs c1;subst hs;obtain⟨l,hl,hat⟩:=JR (P:=λi h=>NU (Fs W) W.heap.size b (o+i*4) h/\h.off.length<=maxLen) len λi hi=>by
    obtain⟨cs',g1,g2⟩:=h4 i (by omega);rw[iN] at g1;exact nU g1 g2
   refine⟨_,len,m,l,rfl,hl,by omega,λy hy=>?_,hk,λ_=>⟨b,o,rfl,(yK.1 c1).1,λi h hi=>(hat i h hi).1⟩⟩;obtain⟨i,hi,rfl⟩:=zZ.1 hy;exact(hat i _ (yM hi)).2
def Qw {base:Nat}{r:Reach}{v:bs}{d:cF H}{p:List bD}(hv:b6 a6 W r base 25 v)(h:bh enc a6 W 0 (λ_=>bb) held 25 v d p) :
  ∃nA hA nc hc c,v=Cj nA hA c nc hc/\FZ W v/\RI (Fs W) W.heap.size nA c.B3/\Db (Fs W) W.heap.size hA c.B2/\c.B3.length<=maxLen/\c.B2.length<=maxLen/\∀y∈c.B2,y.off.length<=maxLen:=by
 obtain⟨Ze,OJ,WM,e3,Zf,_⟩:=Qv;unfold b6 at hv;rw[cU] at hv;obtain⟨cs,rfl,hsz,_⟩:=hv;obtain⟨fuel,h⟩:=h;obtain⟨y0,y1,n,_,hl,h0,h1⟩:=trod_struct2 cU h;simp only[OJ,WM,List.drop_zero] at h0 h1;have hcs:∃a b,cs=#[a,b]:=by
  rw[Ze] at hsz;obtain⟨l⟩:=cs
  match l,hsz with
  |[a,b],_=>exact⟨a,b,rfl⟩
 obtain⟨a,b,rfl⟩:=hcs;obtain⟨A,len,cap,l,q,F4,Ox,Wo,hr1⟩:=H9 bl a8 e3 h0;obtain⟨A2,aiG,Oc,l2,q2,hl2,NM,hx,hk2,hr2⟩:=Mb h1;simp[ea] at q q2;subst q q2 F4 hl2
 exact⟨A,A2,cap,Oc,⟨l,l2⟩,rfl,λS=>.agg rfl λi v V h1 h2=>by
  rw[h1] at h2;cases h2
  match i,h1 with
  |0,h1=>cases h1;exact Wo S
  |1,h1=>cases h1;exact hk2 S,hr1,hr2,Ox,NM,hx⟩
open Go.Co Go.Conc Go.ConcN
def Cu {a:Act}{v:bs}{d:Nat}(h:d<a.tmps.size):(a.put (bk d) v).tmps.getD d undef=v:=by
 show(a.tmps.setIfInBounds d v).getD d undef=v;simp[Array.getD,h]
def ni {a:Act}{v:bs}{d:Nat}:(a.put (bk d) v).tmps.size=a.tmps.size:=Array.size_setIfInBounds
noncomputable def yC:LawIn 3 Ji 0 [1] [.code lW] where
 fn:=dr
 o:=Ji.getD 0 default
 d:=42
 t:=12
 n:=155
 N:=N9
 hf:=cw
 ho:=by kernel_rfl
 Zd:=by kernel_rfl
 hop:=⟨#[],by kernel_rfl⟩
 plain:=by kernel_rfl
 hres:=by kernel_rfl
 looked:=by decide
 hn:=eb
 want a h:=bm (by kernel_rfl)
 P3 a h:=h.2
 pure a h:=by
  obtain⟨h1,h2⟩:=h;have g1:(Ji.getD 1 default).guard=none:=by kernel_rfl
  have o1:(Ji.getD 1 default).op=.assign (.tmp 42):=by kernel_rfl
  have d1:(Ji.getD 1 default).dst=bk 12:=by kernel_rfl
  have s1:(a.put (bk 42) (.bool bb)).tmps.size=155:=by rw[ni];exact h1
  refine⟨(a.put (bk 42) (.bool bb)).put (bk 12) (.bool bb),.cons (o:=Ji.getD 1 default) (v:=.bool bb) (by kernel_rfl) (bm g1) (by kernel_rfl) (λw=>?_) ?_,h2,Cu (by rw[s1];decide)⟩
  .unfold execOp;rw[o1];have e1:(a.put (bk 42) (.bool bb)).eval (.tmp 42)=.bool true:=Cu (by rw[h1];decide);simp[e1]
  .rw[d1];exact .nil _
noncomputable def yD:LawIn 3 JU 0 [1] [] where
 fn:=dr
 o:=JU.getD 0 default
 d:=154
 t:=12
 n:=155
 N:=N9
 hf:=cw
 ho:=by kernel_rfl
 Zd:=by kernel_rfl
 hop:=⟨#[],by kernel_rfl⟩
 plain:=by kernel_rfl
 hres:=by kernel_rfl
 looked:=by decide
 hn:=eb
 want a h:=bm (by kernel_rfl)
 P3 a h:=h.2
 pure a h:=by
  obtain⟨h1,h2⟩:=h;have g1:(JU.getD 1 default).guard=none:=by kernel_rfl
  have o1:(JU.getD 1 default).op=.assign (.tmp 154):=by kernel_rfl
  have d1:(JU.getD 1 default).dst=bk 12:=by kernel_rfl
  have s1:(a.put (bk 154) (.bool bb)).tmps.size=155:=by rw[ni];exact h1
  refine⟨(a.put (bk 154) (.bool bb)).put (bk 12) (.bool bb),.cons (o:=JU.getD 1 default) (v:=.bool bb) (by kernel_rfl) (bm g1) (by kernel_rfl) (λw=>?_) ?_,h2,Cu (by rw[s1];decide)⟩
  .unfold execOp;rw[o1];have e1:(a.put (bk 154) (.bool bb)).eval (.tmp 154)=.bool true:=Cu (by rw[h1];decide);simp[e1]
  .rw[d1];exact .nil _
def nj:codeOk B1 GC dy bb aJ=true:=by kernel_rfl
def cn {v0 v1 v2 v3 v4 v5:bs}{X:Array bs}:∀i,i<6->((#[v0,v1,v2,v3,v4,v5]:Array bs)++X)[i]?.getD undef=(#[v0,v1,v2,v3,v4,v5]:Array bs)[i]?.getD undef:=λi hi=>by
 rw[AU (by simpa using hi)]
def Ur {nA hA gA A oA:Option dS}{nc hc gc cap oc:Nat}{c:Cc}{ls:List (List Int)}{x:CF}{at_ by_:Int}{l:List Int}{W:bW}(k0:FZ W (Cj nA hA c nc hc))(k1:FZ W (a7 gA ls.length gc))(k2:FZ W (.agg #[bq br x.heads,bq br x.Dd,bq br x.most,a7 oA x.off.length oc]))(k5:FZ W (a7 A l.length cap))
  (hn:RI (Fs W) W.heap.size nA c.B3) (hh:Db (Fs W) W.heap.size hA c.B2) (hg:Da (Fs W) W.heap.size gA ls) (hx:RI (Fs W) W.heap.size oA x.off) (hr:RI (Fs W) W.heap.size A l) (OT:ls.length<=gc) (F4:c.B3.length<=maxLen) (hl2:c.B2.length<=maxLen) (IP:∀h∈c.B2,h.off.length<=maxLen) (hl4:ls.length<=maxLen) (Qf:∀x∈ls,x.length<=maxLen) (hl6:x.off.length<=maxLen) :
  ∃M last o w' t',runNT a6 (M+1) (solo (bo (bw a6 3 #[Cj nA hA c nc hc,a7 gA ls.length gc,.agg #[bq br x.heads,bq br x.Dd,bq br x.most,a7 oA x.off.length oc],bq br at_,bq br by_,a7 A l.length cap] .normal) []) W) #[]=(.ended o w',t')/\runN a6 M (solo (bo (bw a6 3 #[Cj nA hA c nc hc,a7 gA ls.length gc,.agg #[bq br x.heads,bq br x.Dd,bq br x.most,a7 oA x.off.length oc],bq br at_,bq br by_,a7 A l.length cap] .normal) []) W)=.next last/\step a6 last=.ended o w' /\
   cE a6 (λv w'=>v=.bool bb/\(w'.os=W.os/\w'.output=W.output)/\W.heap.size<=w'.heap.size/\∀B,B<W.heap.size->w'.heap[B]?=W.heap[B]?) last o w' t':=by
 have Es:∀S,Ca S (CX λb=>LD W b=bb) #[Cj nA hA c nc hc,a7 gA ls.length gc,.agg #[bq br x.heads,bq br x.Dd,bq br x.most,a7 oA x.off.length oc],bq br at_,bq br by_,a7 A l.length cap] #[Cj nA hA c nc hc,a7 gA ls.length gc,.agg #[bq br x.heads,bq br x.Dd,bq br x.most,a7 oA x.off.length oc],bq br at_,bq br by_,a7 A l.length cap]:=λS=>⟨rfl,λi v V h1 h2=>by
  rw[h1] at h2;cases h2
  match i,h1 with
  |0,h1=>cases h1;exact k0 S
  |1,h1=>cases h1;exact k1 S
  |2,h1=>cases h1;exact k2 S
  |3,h1=>cases h1;exact .int _ _
  |4,h1=>cases h1;exact .int _ _
  |5,h1=>cases h1;exact k5 S⟩
 have em:maxLen=9223372036854775807:=by unfold maxLen;omega
 have hz:∀τ d,(on (Fs W) τ d).heap.size=W.heap.size:=λτ d=>nP;have eT:(#[Cj nA hA c nc hc,a7 gA ls.length gc,.agg #[bq br x.heads,bq br x.Dd,bq br x.most,a7 oA x.off.length oc],bq br at_,bq br by_,a7 A l.length cap]:Array bs)++bc (155-6) undef=T 155 λi=>((#[Cj nA hA c nc hc,a7 gA ls.length gc,.agg #[bq br x.heads,bq br x.Dd,bq br x.most,a7 oA x.off.length oc],bq br at_,bq br by_,a7 A l.length cap]:Array bs)++bc (155-6) undef)[i]?.getD undef:=xX (by simp)
 cases hs:Fz c&&J9 ls&&decide (x.off.length<=20) with
 |false =>
  refine i7 (K:=LD W) (k:=PG W) yC (C:=aJ) (by kernel_rfl) (by decide) (by decide) (by decide) nj (kg W) Es λτ d=>?_;show aG B1 _ _ _ ⟨_++bc (155-6) undef,[]⟩ _;rw[eT];exact xY (nA:=nA) (hA:=hA) (gA:=gA) (oA:=oA) (nc:=nc) (hc:=hc) (gc:=gc) (oc:=oc) (c:=c) (ls:=ls) (x:=x) (cn 0 (by omega)) (cn 1 (by omega)) (cn 2 (by omega)) (by rw[hz];exact hh) (by rw[hz];exact hg) (yR F4 (zP em)) (yR hl2 (zP em)) (λh hh=>yR (IP h hh) (zP em)) (yR hl4 (zP em)) (λx hx=>yR (Qf x hx) (zP em)) (yR hl6 (zP em)) hs
 |true =>
  refine i7 (K:=LD W) (k:=PG W) yD (C:=aJ) (by kernel_rfl) (by decide) (by decide) (by decide) nj (kg W) Es λτ d=>?_;show aG B1 _ _ _ ⟨_++bc (155-6) undef,[]⟩ _;rw[eT];exact xZ (nA:=nA) (hA:=hA) (gA:=gA) (A:=A) (oA:=oA) (nc:=nc) (hc:=hc) (gc:=gc) (cap:=cap) (oc:=oc) (c:=c) (ls:=ls) (x:=x) (at_:=at_) (by_:=by_) (l:=l) (cn 0 (by omega)) (cn 1 (by omega)) (cn 2 (by omega)) (cn 3 (by omega)) (cn 4 (by omega)) (cn 5 (by omega)) (by rw[hz];exact hn) (by rw[hz];exact hh) (by rw[hz];exact hg) (by rw[hz];exact hx) (by rw[hz];exact hr) OT hs
variable {H:Type} {enc:cf×bs->H} {W:bW} {held:Bool}
def um {fuel:Nat}{A:Option dS}{n k:Nat}{x:cF H×List bD}(h:bn enc a6 W 0 (λ_=>bb) held fuel 26 [a7 A n k]=bk x):n<=k:=by
 obtain⟨Ze,OJ,WM,e3,Zf,e36⟩:=Qv;rcases open_int_rows b9 bl a8 OJ e3 h with⟨e,_⟩|⟨a,len,cap,_,_,_,_,e,_,h1,_⟩
 .injection e with e _
  injection e with _ e1 e2
  omega
 .injection e with e _
  injection e with _ e1 e2
  omega
def Mg {base:Nat}{r:Reach}{v:bs}{d:cF H}{p:List bD}(hv:b6 a6 W r base 28 v)(h:bh enc a6 W 0 (λ_=>bb) held 28 v d p) :
  ∃oA oc,∃x:CF,v=.agg #[bq br x.heads,bq br x.Dd,bq br x.most,a7 oA x.off.length oc]/\FZ W v/\RI (Fs W) W.heap.size oA x.off/\x.off.length<=maxLen:=by
 obtain⟨Ze,OJ,WM,e3,Zf,_⟩:=Qv;unfold b6 at hv;rw[b8] at hv;obtain⟨cs,rfl,hsz,_⟩:=hv;obtain⟨fuel,h⟩:=h;have hcs:∃a b c d,cs=#[a,b,c,d]:=by
  rw[Zf] at hsz;obtain⟨l⟩:=cs
  match l,hsz with
  |[a,b,c,d],_=>exact⟨a,b,c,d,rfl⟩
 obtain⟨c0,c1,c2,c3,rfl⟩:=hcs;obtain⟨xs,n,_,_,_,_,hf⟩:=cK b8 h;have f0:bn enc a6 W 0 (λ_=>bb) held n 3 (([c0,c1,c2,c3].drop 0).take (Tryz.prog.cellsOf 3))=xs[0]?:=hf 0 _ rfl;have f1:bn enc a6 W 0 (λ_=>bb) held n 3 (([c0,c1,c2,c3].drop 1).take (Tryz.prog.cellsOf 3))=xs[1]?:=hf 1 _ rfl;have f2:bn enc a6 W 0 (λ_=>bb) held n 3 (([c0,c1,c2,c3].drop 2).take (Tryz.prog.cellsOf 3))=xs[2]?:=hf 2 _ rfl
 have f3:bn enc a6 W 0 (λ_=>bb) held n 22 (([c0,c1,c2,c3].drop 3).take (Tryz.prog.cellsOf 22))=xs[3]?:=hf 3 _ rfl;have el:xs.length=4:=‹xs.length=_›;obtain⟨x0,x1,x2,x3,rfl⟩:∃x0 x1 x2 x3,xs=[x0,x1,x2,x3]:=by
  match xs,el with
  |[x0,x1,x2,x3],_=>exact⟨_,_,_,_,rfl⟩
 rw[e3] at f0 f1 f2;rw[OJ] at f3;obtain⟨k0,q0,_⟩:=bA a8 f0;obtain⟨k1,q1,_⟩:=bA a8 f1;obtain⟨k2,q2,_⟩:=bA a8 f2;obtain⟨A,len,cap,l,q3,hl,hm,hk,hr⟩:=H9 bl a8 e3 f3;cases q0;cases q1;cases q2;cases q3;subst hl
 exact⟨A,cap,⟨k0,k1,k2,l⟩,rfl,λS=>.agg rfl λi v V h1 h2=>by
  rw[h1] at h2;cases h2
  match i,h1 with
  |0,h1=>cases h1;exact .int _ _
  |1,h1=>cases h1;exact .int _ _
  |2,h1=>cases h1;exact .int _ _
  |3,h1=>cases h1;exact hk S,hr,hm⟩
end Go.Sq
namespace Go.Proofs.YtghipmneleifpaaGreat
open Go.ChangeShapes Go.WideShapes Go.ChangeAt Go.RowKit Go.Conc Go.Ct Go.Sq
def Tryz.own:ownKnob Tryz.prog.godebug=none:=by kernel_rfl
def Tryz.laidOut:laidOutB a6=true:=by kernel_rfl
def dv {H:Type}{enc:cf×bs->H}{P:Program}{w:bW}{base:Nat}{spare:Nat->Bool}{held:Bool}{t:cf}{ts:List cf}{v:bs}{vs:List bs}{d:cF H}{ds:List (cF H)}{p p':List bD}(h:bh enc P w base spare held t v d p)(hs:cr enc P w base spare held ts vs ds p'):cr enc P w base spare held (t::ts) (v::vs) (d::ds) (p++p'):=⟨p,p',h,hs,rfl⟩
def NF {H:Type}{enc:cf×bs->H}{P:Program}{w:bW}{base:Nat}{spare:Nat->Bool}{held:Bool}{t0 t1 t2 t3 t4 t5:cf}{args:Array bs}{ds:List (cF H)}{ps:List bD}(h:cr enc P w base spare held [t0,t1,t2,t3,t4,t5] args.toList ds ps) :
  ∃v0 v1 v2 v3 v4 v5 d0 d1 d2 d3 d4 d5 p0 p1 p2 p3 p4 p5,args=#[v0,v1,v2,v3,v4,v5]/\ds=[d0,d1,d2,d3,d4,d5]/\ps=p0++(p1++(p2++(p3++(p4++(p5++[])))))/\bh enc P w base spare held t0 v0 d0 p0/\bh enc P w base spare held t1 v1 d1 p1/\bh enc P w base spare held t2 v2 d2 p2 /\
   bh enc P w base spare held t3 v3 d3 p3/\bh enc P w base spare held t4 v4 d4 p4/\bh enc P w base spare held t5 v5 d5 p5:=by
 obtain⟨v0,vs,d0,Rq,p0,q,e,rfl,rfl,h0,h⟩:=b5 h;obtain⟨v1,vs,d1,Rq,p1,q,rfl,rfl,rfl,h1,h⟩:=b5 h;obtain⟨v2,vs,d2,Rq,p2,q,rfl,rfl,rfl,h2,h⟩:=b5 h;obtain⟨v3,vs,d3,Rq,p3,q,rfl,rfl,rfl,h3,h⟩:=b5 h;obtain⟨v4,vs,d4,Rq,p4,q,rfl,rfl,rfl,h4,h⟩:=b5 h;obtain⟨v5,vs,d5,Rq,p5,q,rfl,rfl,rfl,h5,h⟩:=b5 h;obtain⟨rfl,rfl,rfl⟩:=trodAll_nil h;obtain⟨l⟩:=args
 exact⟨v0,v1,v2,v3,v4,v5,d0,d1,d2,d3,d4,d5,p0,p1,p2,p3,p4,p5,by cases e;rfl,rfl,rfl,h0,h1,h2,h3,h4,h5⟩
def iR (os:Os)(started:os.Started)(H:Type)(enc:cf×bs->H)(F:Stop.Interp) :
  ReturnsInLeavingWide { calm:=bb } df os 3 .any (Rows.wolfLapsesSpec.pre6 enc a6 dr [] dy) ((OpenSpec.ofChange Rows.wolfLapsesSpec).postWith enc a6 dr F (outsideKept [.timePasses]) dy bb dy):=by
 refine returnsInLeavingWide_of_change_time (C:=df) Tryz.own started cw
  (ChangeSpec.witness6c (enc:=enc) (C:=df) ⟨#[],#[.agg #[.slice dn 0 0,.slice dn 0 0],.slice dn 0 0,.agg #[bq br 0,bq br 0,bq br 0,.slice dn 0 0],bq br 0,bq br 0,.slice dn 0 0],[]⟩ 8 (by kernel_rfl) (by kernel_rfl) (by kernel_rfl) (by kernel_rfl)) ?_
 intro W base args ds gs before XL hW _ _ _;have hval:∀(j:Nat) t v,Tryz.f3.params[j]?=bk t->args[j]?=bk v->b6 a6 W .any base t v:=XL;have hW':=hW;obtain⟨p,q,hA0,hV,rfl,_,_⟩:=hW;have hA:cr enc a6 W 0 (λ_=>bb) bb Tryz.f3.params.toList args.toList ds p:=hA0;rw[Tryz.params3] at hA hval;obtain⟨v0,v1,v2,v3,v4,v5,d0,d1,d2,d3,d4,d5,p0,p1,p2,p3,p4,p5,rfl,rfl,rfl,h0,h1,h2,h3,h4,h5⟩:=NF hA
 obtain⟨rfl,rfl⟩:=trodVars_none hV;simp only[Ay] at hW';have hlt:∀x∈p0++(p1++(p2++(p3++(p4++p5)))),x.block<W.heap.size:=λx hx=>by simpa using hW'.lt x hx
 clear hA0 XL;obtain⟨nA,hA1,nc,hc,c,rfl,k0,hn,hh,F4,hl2,IP⟩:=Qw (hval 0 _ v0 rfl rfl) h0;obtain⟨oA,oc,x,rfl,k2,hx,hl6⟩:=Mg (hval 2 _ v2 rfl rfl) h2;obtain⟨a1,len1,XV,rfl⟩:=okWide_slice b9 (hval 1 _ v1 rfl rfl);obtain⟨a2,aiG,Oc,rfl⟩:=okWide_slice bl (hval 5 _ v5 rfl rfl);obtain⟨at_,rfl,_⟩:=okWide_int a8 (hval 3 _ v3 rfl rfl);obtain⟨by_,rfl,_⟩:=okWide_int a8 (hval 4 _ v4 rfl rfl)
 obtain⟨Ze,OJ,WM,e3,Zf,e36⟩:=Qv;obtain⟨gA,gl,gc,ls,hc1,rfl,hl4,Qf,k1,hg⟩:=Qt b9 bl a8 OJ e3 h1.choose_spec;have OT:=um h1.choose_spec;obtain⟨A,ll,cap,l,hc2,rfl,_,k5,hr⟩:=H9 bl a8 e3 h5.choose_spec;simp[ea] at hc1 hc2;obtain⟨rfl,rfl,rfl⟩:=hc1;obtain⟨rfl,rfl,rfl⟩:=hc2;obtain⟨M,last,o,w',t',r1,r2,r3,r4⟩:=Ur (at_:=at_) (by_:=by_) k0 k1 k2 k5 hn hh hg hx hr OT F4 hl2 IP hl4 Qf hl6
 refine⟨M,last,o,w',t',r1,r2,r3,r4.mono λv hF=>?_⟩;obtain⟨rfl,⟨e1,e2⟩,e3,e4⟩:=hF;refine⟨?_,by rw[e1];exact Go.ConcM.OsLater.refl _⟩;have OZ:Below W.heap.size W { w' with os:=W.os,tape:=W.tape }:=⟨rfl,rfl,e2,e3,λk hk=>e4 k hk⟩;have J0:=OZ.frame (λx=>x∈p0++(p1++(p2++(p3++(p4++p5))))/\(x∈([]:List bD)\/x∈p0++(p1++(p2++(p3++(p4++(p5++[])))))\/x∈([]:List bD)));have g0:=b7 Tryz.laidOut (by kernel_rfl) (of_decide_eq_true (by kernel_rfl)) h0 OZ λx hx=>hlt x (by simp[hx])
 have g1:=b7 Tryz.laidOut (by kernel_rfl) (of_decide_eq_true (by kernel_rfl)) h1 OZ λx hx=>hlt x (by simp[hx]);have g2:=b7 Tryz.laidOut (by kernel_rfl) (of_decide_eq_true (by kernel_rfl)) h2 OZ λx hx=>hlt x (by simp[hx]);have g3:=b7 Tryz.laidOut (by kernel_rfl) (of_decide_eq_true (by kernel_rfl)) h3 OZ λx hx=>hlt x (by simp[hx]);have g4:=b7 Tryz.laidOut (by kernel_rfl) (of_decide_eq_true (by kernel_rfl)) h4 OZ λx hx=>hlt x (by simp[hx])
 have g5:=b7 Tryz.laidOut (by kernel_rfl) (of_decide_eq_true (by kernel_rfl)) h5 OZ λx hx=>hlt x (by simp[hx]);refine⟨_,_,_,[],p0++(p1++(p2++(p3++(p4++(p5++[]))))),[],hW',?_,?_,rfl,J0,λh=>by cases h⟩
 .exact trodAll_mk1 (shut_bool (by first|exact Tryz.underlying1|kernel_rfl) bb)
 .have q0:bh enc a6 { w' with os:=W.os } 0 (λb=>decide (b<W.heap.size)) bb 25 (Cj nA hA1 c nc hc) d0 p0:=g0.of_heap (by rfl);have q1:bh enc a6 { w' with os:=W.os } 0 (λb=>decide (b<W.heap.size)) bb 26 (.slice a1 ls.length XV) d1 p1:=g1.of_heap (by rfl);have q2:bh enc a6 { w' with os:=W.os } 0 (λb=>decide (b<W.heap.size)) bb 28 (.agg #[bq br x.heads,bq br x.Dd,bq br x.most,a7 oA x.off.length oc]) d2 p2:=g2.of_heap (by rfl)
  have q3:bh enc a6 { w' with os:=W.os } 0 (λb=>decide (b<W.heap.size)) bb 3 (bq br at_) d3 p3:=g3.of_heap (by rfl);have q4:bh enc a6 { w' with os:=W.os } 0 (λb=>decide (b<W.heap.size)) bb 3 (bq br by_) d4 p4:=g4.of_heap (by rfl);have q5:bh enc a6 { w' with os:=W.os } 0 (λb=>decide (b<W.heap.size)) bb 22 (.slice a2 l.length Oc) d5 p5:=g5.of_heap (by rfl)
  exact dv q0 (dv q1 (dv q2 (dv q3 (dv q4 (dv q5 trodAll_mk0)))))
theorem wolfLapses_holds:Rows.WolfLapsesSaid :=
 OpenClaim.holds_of_wide_leaving_time 3 dr rfl rfl rfl rfl rfl rfl rfl ⟨rfl,rfl,rfl,rfl,rfl⟩ rfl rfl rfl rfl rfl x9 cw wF
  (of_decide_eq_true (by kernel_rfl)) (by unfold Func.isWrapper;first|(rw[if_pos (by decide +kernel)];kernel_rfl)|(rw[if_neg (by decide +kernel)];exact⟨rfl,rfl⟩))
  (λos started H enc _ F=>iR os started H enc F)
end Go.Proofs.YtghipmneleifpaaGreat
