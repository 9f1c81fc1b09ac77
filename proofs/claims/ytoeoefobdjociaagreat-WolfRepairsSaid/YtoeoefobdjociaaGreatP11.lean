/- Parts of the proof. -/
import Derived.Test.YtoeoefobdjociaaGreatP10
set_option linter.all false
set_option maxHeartbeats 4000000
set_option maxRecDepth 1000000
open Go.Value renaming pointer->Z,int->ak,slice->bc
open Go.Proofs.Tryz renaming prog->Y,f53->j,func153->bb,func90->bw,func53->bA,func115->bD,func116->bW,func85->b7,func86->b8,func92->b9,func93->cf,func89->ck,func119->cE,func120->cF,f153->cU
open List.range renaming loop->J
open Go.Conc renaming goes_go->U,goes_oper_k->I,stepG_region_end->F,stepG_region->O,stepG_seq->V,stepG_cond->bo,stepG_end->b6,stepG_skip->cu,enter_at->cL
open Option renaming some->X,none->C
open List renaming range->N
open Bool renaming false->E,true->S
open Go renaming World->D,FuncId->M,Goroutine->B,Frame->A,Value->bn,execOp->bs,run_call_cas_hit->b5,Item->cq,stepG->cr,Code->cw,Oper->cK
open Array renaming replicate->R
open Go.IntKind renaming i64->L
open Go.Instr renaming fieldAt->bh
open Go.Frame renaming enter->bk
open Go.Obj renaming cells->br
namespace Go.Sq
open Go.Proofs
open Go.RowKit Go.Eu Go.Co Go.Conc
section
variable {p:Program} {BB:M->Bool} {Q:B->D->Prop} {b:A} {a:Act} {todo:List cq} {cs:List A} {w:D} {dn:Nat}
def aB (hQ:∀g w W,Et w W->Q g w->Q g W)(hf:BB b.fn=S)(hg:bK p todo=S)(h:∀τ d,(cr p S (G (b.at a todo) cs) (on w τ d)).goes (λg' w' _=>g'.callers≠[]/\∃W,Et W w'/\EO p BB Q dn g' W)) :
  EO p BB Q dn (G (b.at a todo) cs) w:=by
 refine EO.step ⟨hf,jp hg⟩ λτ d=>?_;have:=h τ d;cases hs:cr p S (G (b.at a todo) cs) (on w τ d) with
 |go g' w' es =>
  rw[hs] at this;obtain⟨h1,W,h2,h3⟩:=this;exact⟨g',w',es,rfl,h1,h3.same hQ h2⟩
 |_=>rw[hs] at this;exact this.elim
def dT (hQ:∀g w W,Et w W->Q g w->Q g W)(hf:BB b.fn=S)(hg:bK p todo=S)(h:∀τ d,(cr p S (G { b.at a todo with mode:=.returning } cs) (on w τ d)).goes (λg' w' _=>g'.callers≠[]/\∃W,Et W w'/\EO p BB Q dn g' W)) :
  EO p BB Q dn (G { b.at a todo with mode:=.returning } cs) w:=by
 refine EO.step ⟨hf,λo ho=>jp (b:=b) (a:=a) hg o ho⟩ λτ d=>?_;have:=h τ d;cases hs:cr p S (G { b.at a todo with mode:=.returning } cs) (on w τ d) with
 |go g' w' es =>
  rw[hs] at this;obtain⟨h1,W,h2,h3⟩:=this;exact⟨g',w',es,rfl,h1,h3.same hQ h2⟩
 |_=>rw[hs] at this;exact this.elim
def fT {g':B}(hQ:∀g w W,Et w W->Q g w->Q g W)(hf:BB b.fn=S)(zW:g'.callers≠[])(hg:bK p todo=S)(hs:∀w,cr p S (G (b.at a todo) cs) w=.go g' w)(h:EO p BB Q dn g' w):EO p BB Q dn (G (b.at a todo) cs) w :=
 aB hQ hf hg λτ d=>by rw[hs];simp only[U];exact⟨zW,w,Di,h⟩
def aw {k:List cq}{x y:cw}(hQ:∀g w W,Et w W->Q g w->Q g W)(hf:BB b.fn=S)(zW:cs≠[])(h:EO p BB Q dn (G (b.at a (.code x::.code y::k)) cs) w)(hg:bK p (.code (.seq x y)::k)=true:=by kernel_rfl):EO p BB Q dn (G (b.at a (.code (.seq x y)::k)) cs) w :=
 fT hQ hf zW hg (λ_=>V) h
def aC {k:List cq}{ops:Array cK}(hQ:∀g w W,Et w W->Q g w->Q g W)(hf:BB b.fn=S)(zW:cs≠[])(h:EO p BB Q dn (G (b.at a k) cs) w)(hg:bK p (.inRegion ops []::k)=true:=by kernel_rfl):EO p BB Q dn (G (b.at a (.inRegion ops []::k)) cs) w :=
 fT hQ hf zW hg (λ_=>F) h
def gq {k:List cq}(hQ:∀g w W,Et w W->Q g w->Q g W)(hf:BB b.fn=S)(zW:cs≠[])(h:EO p BB Q dn (G (b.at a k) cs) w)(hg:bK p (.code .skip::k)=true:=by kernel_rfl):EO p BB Q dn (G (b.at a (.code .skip::k)) cs) w :=
 fT hQ hf zW hg (λ_=>cu) h
def aD {k:List cq}{i:Nat}{ops:Array cK}(hQ:∀g w W,Et w W->Q g w->Q g W)(hf:BB b.fn=S)(zW:cs≠[])(h:EO p BB Q dn (G (b.at a (.inRegion ops (N ops.size)::k)) cs) w)(hg:bK p (.code (.region i ops E)::k)=true:=by kernel_rfl):EO p BB Q dn (G (b.at a (.code (.region i ops E)::k)) cs) w :=
 fT hQ hf zW hg (λ_=>O) h
def ml {k:List cq}{c:Operand}{x y:cw}(hQ:∀g w W,Et w W->Q g w->Q g W)(hf:BB b.fn=S)(zW:cs≠[])(h:EO p BB Q dn (G (b.at a (.code x::k)) cs) w)(hc:a.eval c=.bool true:=by rfl)(hg:bK p (.code (.cond c x y)::k)=true:=by kernel_rfl):EO p BB Q dn (G (b.at a (.code (.cond c x y)::k)) cs) w :=
 fT hQ hf zW hg (λ_=>bo hc) h
def jO {k:List cq}{c:Operand}{x y:cw}(hQ:∀g w W,Et w W->Q g w->Q g W)(hf:BB b.fn=S)(zW:cs≠[])(h:EO p BB Q dn (G (b.at a (.code y::k)) cs) w)(hc:a.eval c=.bool false:=by rfl)(hg:bK p (.code (.cond c x y)::k)=true:=by kernel_rfl):EO p BB Q dn (G (b.at a (.code (.cond c x y)::k)) cs) w :=
 fT hQ hf zW hg (λ_=>bo hc) h
def ah {k:List cq}{ops:Array cK}{i:Nat}{rest:List Nat}{o:cK}(hQ:∀g w W,Et w W->Q g w->Q g W)(hf:BB b.fn=S)(zW:cs≠[])(ho:ops[i]?=X o)(hw:Region.wanted o (yielded ops a.tmps)=S)
  (h:∀ {τ:Tape} {d:Nat} (K:Act->D->Prop),(∀a' W,EO p BB Q dn (G (b.at a' (.inRegion ops rest::k)) cs) W->∀w',Et W w'->K a' w')->(∀x,(on w τ d).cell? x=w.cell? x)->(on w τ d).heap.size=w.heap.size->(∀x,(on w τ d).frozen? x=w.frozen? x)->uponK o a K ((bs a.eval o).run p (on w τ d)))
  (hk:b.kind≠.early:=by first|assumption|decide) (hg:bK p (.inRegion ops (i::rest)::k)=true:=by kernel_rfl):EO p BB Q dn (G (b.at a (.inRegion ops (i::rest)::k)) cs) w :=
 aB hQ hf hg λτ d=>I ho hw hk λK hK=>h K (λ_ W hT w' hs=>hK _ w' ⟨zW,W,hs,hT⟩) (λ_=>rfl) rfl λ_=>rfl
def oO {f:M}{fn:Func}{c:cw}(args:Array bn)(k:CallKind)(hf:p.funcs[f]?=X fn)(hb:fn.body=X c) :
  bk p f args k=({ base f with kind:=k }:A).at { tmps:=args++R (fn.ntmps-args.size) undef,defers:=[] } [.code c]:=by
 simp[bk,Frame.at,hf,hb,base]
def cO (hQ:∀g w W,Et w W->Q g w->Q g W){ops:Array cK}{i:Nat}{rest:List Nat}{k:List cq}{o:cK}{es:Array Event}{v:bn}(hf:BB b.fn=S)(zW:cs≠[])(ho:ops[i]?=X o)(hw:Region.wanted o (yielded ops a.tmps)=S)(hk:b.kind≠.early)(hs:Fz p a w o es v)
  {d':Nat} (hd:deafBehind dn es=d') (h:EO p BB Q d' (G (b.at (a.put o.dst v) (.inRegion ops rest::k)) cs) w):EO p BB Q dn (G (b.at a (.inRegion ops (i::rest)::k)) cs) w :=
 .spec hf zW ho hw hk hs λτ n=>hd▸h.same hQ Di
def Ep (c:A)(cs:List A):(c::cs)≠[]:=by simp
def aa (W:D)(τ:Tape)(d:Nat):(on W τ d).heap.size=W.heap.size:=rfl
def six {args:Array bn}{n:Nat}{q:Addr}(h:args[0]?=X (.pointer (X q)))(hn:n=6):∃t1 t2 t3 t4 t5 tl,args++R (n-args.size) undef=(.pointer (X q)::t1::t2::t3::t4::t5::tl:List bn).toArray:=by
 obtain⟨l⟩:=args;subst hn
 match l,h with
 |t0::l,h =>
  have h0:t0=.pointer (X q):=by simpa using h
  subst h0
  match l with
  |[]=>exact⟨_,_,_,_,_,[],by simp[List.replicate,R];exact⟨rfl,rfl,rfl,rfl,rfl⟩⟩
  |[t1]=>exact⟨t1,_,_,_,_,[],by simp[R];exact⟨rfl,rfl,rfl,rfl⟩⟩
  |[t1,t2]=>exact⟨t1,t2,_,_,_,[],by simp[R];exact⟨rfl,rfl,rfl⟩⟩
  |[t1,t2,t3]=>exact⟨t1,t2,t3,_,_,[],by simp[R];exact⟨rfl,rfl⟩⟩
  |[t1,t2,t3,t4]=>exact⟨t1,t2,t3,t4,_,[],by simp[R];rfl⟩
  |t1::t2::t3::t4::t5::tl=>exact⟨t1,t2,t3,t4,t5,tl,by simp[R]⟩
end
def kZ {BB:M->Bool}(a7:BB 85=S)(a6:BB 115=S):Held Y BB 85 0 1:=by
 intro args q k cs w hk zW hq hc hz;obtain⟨bq,oq,sq⟩:=q;have aF:sq=none:=by
  cases sq with
  |none=>rfl
  |some s=>simp[World.cell?] at hc;split at hc<;>simp_all
 subst aF;generalize a8:(λ(g:B) (W:D)=>Et (w.setCell ⟨bq,oq,C⟩ (.int .i32 1)) W/\∃fr,g=Go.Eu.EX fr cs/\fr.fn=85/\fr.kind=k/\fr.mode=.returning/\fr.defers=[]/\fr.oper?=C)=Q;have hQ:∀g w W,Et w W->Q g w->Q g W:=by
  subst a8;rintro g w1 w2 s ⟨h1,h2⟩;exact⟨h1.trans s,h2⟩
 have aA:∀(a:Act) W,a.defers=[]->Et (w.setCell ⟨bq,oq,C⟩ (.int .i32 1)) W->Q (G { (({ base 85 with kind:=k }:A).at a []) with mode:=.returning } cs) W:=by
  subst a8;exact λa W h s=>⟨s,_,rfl,rfl,rfl,rfl,h,rfl⟩
 obtain⟨t1,t2,t3,t4,t5,tl,ht⟩:=six (n:=Tryz.f85.ntmps) hq Tryz.ntmps85;rw[oO args k b7 rfl,ht];change EO Y BB Q 0 (G _ cs) w;refine aD hQ a7 zW ?_;simp only[AP,AM,AS,Nat.reduceAdd,AO,N,J];refine ah hQ a7 zW rfl rfl λK hK q1 q2 q3=>?_;go_simp;refine hK _ w ?_ _ ⟨rfl,rfl,rfl⟩;refine ah hQ a7 zW rfl rfl λK hK q1 q2 q3=>?_;go_simp;refine hK _ w ?_ _ ⟨rfl,rfl,rfl⟩
 refine ah hQ a7 zW rfl rfl λK hK q1 q2 q3=>?_;go_simp;refine hK _ w ?_ _ ⟨rfl,rfl,rfl⟩;refine aB hQ a7 (by kernel_rfl) λτ d=>?_;refine aJ rfl rfl hk rfl bD (by kernel_rfl) (by kernel_rfl) ⟨Ep _ _,w,Di,?_⟩;rw[cL _ bD rfl];simp only[Tryz.ntmps115,AP,AM,AS,Nat.reduceAdd,Nat.reduceSub,BO,BP,B1,BT,Cb,BX];refine aw hQ a6 (Ep _ _) ?_;refine aD hQ a6 (Ep _ _) ?_;simp only[AP,AM,AS,Nat.reduceAdd,AO,N,J]
 refine cO hQ a6 (Ep _ _) rfl rfl (by decide) (Fz.Ht .disable (by simp) rfl cE (by kernel_rfl) (by kernel_rfl) (by kernel_rfl) (by kernel_rfl)) (d':=1) rfl ?_;refine aC hQ a6 (Ep _ _) ?_
 iterate 2 refine aw hQ a6 (Ep _ _) ?_
 refine aD hQ a6 (Ep _ _) ?_;simp only[AP,AM,AS,Nat.reduceAdd,AO,N,J];refine ah hQ a6 (Ep _ _) rfl rfl λK hK q1 q2 q3=>?_;go_simp;refine hK _ w ?_ _ ⟨rfl,rfl,rfl⟩
 try simp only[aa]
 refine ah hQ a6 (Ep _ _) rfl rfl λK hK q1 q2 q3=>?_;go_simp;refine hK _ w ?_ _ ⟨rfl,rfl,rfl⟩;clear hK K q1 q2 q3
 try walk_nrm
 try simp only[aa]
 refine ah hQ a6 (Ep _ _) rfl rfl λK hK q1 q2 q3=>?_;go_simp;refine hK _ w ?_ _ ⟨rfl,rfl,rfl⟩;clear hK K q1 q2 q3
 try walk_nrm
 try simp only[aa]
 refine ah hQ a6 (Ep _ _) rfl rfl @λτ d K hK q1 q2 q3=>?_;have aG:=b5 (P:=Y) bb (by kernel_rfl) (by kernel_rfl) (by kernel_rfl) .i32 (by kernel_rfl) (x:=0) (y:=1) (w:=on w τ d) hc hz;go_simp;refine hK _ (w.setCell _ _) ?_ _ ⟨rfl,rfl,rfl⟩;clear hK K q1 q2 q3
 try walk_nrm
 try simp only[aa]
 have zt:∃u,(w.setCell ⟨bq,oq,C⟩ (.int .i32 1)).cell? ⟨bq,oq,C⟩=X u:=⟨_,World.cell?_setCell_same _ _ _ hc⟩;refine aC hQ a6 (Ep _ _) ?_;refine ml hQ a6 (Ep _ _) ?_;refine aw hQ a6 (Ep _ _) ?_;refine ml hQ a6 (Ep _ _) ?_;refine aw hQ a6 (Ep _ _) ?_;refine aD hQ a6 (Ep _ _) ?_;simp only[AP,AM,AS,Nat.reduceAdd,AO,N,J];refine cO hQ a6 (Ep _ _) rfl rfl (by decide) (Fz.Ht .enable (by simp) rfl cF (by kernel_rfl) (by kernel_rfl) (by kernel_rfl) (by kernel_rfl)) (d':=0) rfl ?_
 try walk_nrm
 refine aC hQ a6 (Ep _ _) ?_;refine aD hQ a6 (Ep _ _) ?_;simp only[AP,AM,AS,Nat.reduceAdd,AO,N,J];refine ah hQ a6 (Ep _ _) rfl rfl λK hK q1 q2 q3=>?_;go_simp;refine hK _ _ ?_ _ ⟨rfl,rfl,rfl⟩;clear hK K q1 q2 q3
 try walk_nrm
 try simp only[aa]
 refine cO hQ a6 (Ep _ _) rfl rfl (by decide) (Fz.conv (t:=95) rfl (by kernel_rfl) (by kernel_rfl) (by kernel_rfl) rfl zt) (d':=0) rfl ?_
 try walk_nrm
 refine cO hQ a6 (Ep _ _) rfl rfl (by decide) (Fz.GZ .acquire (by simp) rfl Tryz.func131 (by kernel_rfl) (by kernel_rfl) (by kernel_rfl) (by kernel_rfl) (by simp[Act.eval]) zt) (d':=0) rfl ?_
 try walk_nrm
 refine aC hQ a6 (Ep _ _) ?_;refine aB hQ a6 (by kernel_rfl) λτ d=>?_;rw[stepG_ret'];simp only[U];refine⟨(Ep _ _),_,Di,?_⟩;refine dT hQ a6 (by kernel_rfl) λτ d=>?_;refine goes_leave0 rfl rfl bD rfl ⟨zW,_,Di,?_⟩;refine aC hQ a7 zW ?_;refine aB hQ a7 (by kernel_rfl) λτ d=>?_;rw[b6];simp only[U];refine⟨zW,_,Di,.fin (aA _ _ rfl ⟨rfl,rfl,rfl⟩)⟩
def i6 {BB:M->Bool}(a7:BB 86=S)(a6:BB 116=S):Held Y BB 86 1 0:=by
 intro args q k cs w hk zW hq hc hz;obtain⟨bq,oq,sq⟩:=q;have aF:sq=none:=by
  cases sq with
  |none=>rfl
  |some s=>simp[World.cell?] at hc;split at hc<;>simp_all
 subst aF;generalize a8:(λ(g:B) (W:D)=>Et (w.setCell ⟨bq,oq,C⟩ (.int .i32 0)) W/\∃fr,g=Go.Eu.EX fr cs/\fr.fn=86/\fr.kind=k/\fr.mode=.returning/\fr.defers=[]/\fr.oper?=C)=Q;have hQ:∀g w W,Et w W->Q g w->Q g W:=by
  subst a8;rintro g w1 w2 s ⟨h1,h2⟩;exact⟨h1.trans s,h2⟩
 have aA:∀(a:Act) W,a.defers=[]->Et (w.setCell ⟨bq,oq,C⟩ (.int .i32 0)) W->Q (G { (({ base 86 with kind:=k }:A).at a []) with mode:=.returning } cs) W:=by
  subst a8;exact λa W h s=>⟨s,_,rfl,rfl,rfl,rfl,h,rfl⟩
 clear a8;obtain⟨t1,t2,t3,t4,t5,tl,ht⟩:=six (n:=Tryz.f86.ntmps) hq Tryz.ntmps86;rw[oO args k b8 rfl,ht];clear ht hq;have hkk:∀a:Act,∀t,(({ base 86 with kind:=k }:A).at a t).kind≠.early:=λ_ _=>hk;change EO Y BB Q 0 (G _ cs) w;refine aD hQ a7 zW ?_;simp only[AP,AM,AS,Nat.reduceAdd,AO,N,J];refine ah hQ a7 zW rfl rfl λK hK q1 q2 q3=>?_;go_simp;refine hK _ w ?_ _ ⟨rfl,rfl,rfl⟩
 clear hK K q1 q2 q3
 try walk_nrm
 try simp only[aa]
 refine ah hQ a7 zW rfl rfl λK hK q1 q2 q3=>?_;go_simp;refine hK _ w ?_ _ ⟨rfl,rfl,rfl⟩;clear hK K q1 q2 q3
 try walk_nrm
 try simp only[aa]
 refine ah hQ a7 zW rfl rfl λK hK q1 q2 q3=>?_;go_simp;refine hK _ w ?_ _ ⟨rfl,rfl,rfl⟩;clear hK K q1 q2 q3
 try walk_nrm
 try simp only[aa]
 refine aB hQ a7 (by kernel_rfl) λτ d=>?_;refine aJ rfl rfl hk rfl bW (by kernel_rfl) (by kernel_rfl) ⟨Ep _ _,w,Di,?_⟩
 try walk_nrm
 rw[cL _ bW rfl];simp only[Tryz.ntmps116,AP,AM,AS,Nat.reduceAdd,Nat.reduceSub,BO,BP,B1,BT,Cb,BX];refine aw hQ a6 (Ep _ _) ?_;refine ml hQ a6 (Ep _ _) ?_;refine aw hQ a6 (Ep _ _) ?_;refine aD hQ a6 (Ep _ _) ?_;simp only[AP,AM,AS,Nat.reduceAdd,AO,N,J];refine ah hQ a6 (Ep _ _) rfl rfl λK hK q1 q2 q3=>?_;go_simp;refine hK _ w ?_ _ ⟨rfl,rfl,rfl⟩;clear hK K q1 q2 q3
 try walk_nrm
 try simp only[aa]
 refine ah hQ a6 (Ep _ _) rfl rfl λK hK q1 q2 q3=>?_;go_simp;refine hK _ w ?_ _ ⟨rfl,rfl,rfl⟩;clear hK K q1 q2 q3
 try walk_nrm
 try simp only[aa]
 refine ah hQ a6 (Ep _ _) rfl rfl λK hK q1 q2 q3=>?_;go_simp;refine hK _ w ?_ _ ⟨rfl,rfl,rfl⟩;clear hK K q1 q2 q3
 try walk_nrm
 try simp only[aa]
 refine ah hQ a6 (Ep _ _) rfl rfl λK hK q1 q2 q3=>?_;go_simp;refine hK _ w ?_ _ ⟨rfl,rfl,rfl⟩;clear hK K q1 q2 q3
 try walk_nrm
 try simp only[aa]
 refine aC hQ a6 (Ep _ _) ?_;refine aw hQ a6 (Ep _ _) ?_;refine aD hQ a6 (Ep _ _) ?_;simp only[AP,AM,AS,Nat.reduceAdd,AO,N,J];refine ah hQ a6 (Ep _ _) rfl rfl λK hK q1 q2 q3=>?_;go_simp;refine hK _ w ?_ _ ⟨rfl,rfl,rfl⟩;clear hK K q1 q2 q3
 try walk_nrm
 try simp only[aa]
 refine cO hQ a6 (Ep _ _) rfl rfl (by decide) (Fz.conv (t:=95) rfl (by kernel_rfl) (by kernel_rfl) (by kernel_rfl) rfl ⟨_,hc⟩) (d':=0) rfl ?_
 try walk_nrm
 refine cO hQ a6 (Ep _ _) rfl rfl (by decide) (Fz.GZ .releaseMerge (by simp) rfl Tryz.func118 (by kernel_rfl) (by kernel_rfl) (by kernel_rfl) (by kernel_rfl) (by simp[Act.eval]) ⟨_,hc⟩) (d':=0) rfl ?_
 try walk_nrm
 refine aC hQ a6 (Ep _ _) ?_;refine aD hQ a6 (Ep _ _) ?_;simp only[AP,AM,AS,Nat.reduceAdd,AO,N,J];refine cO hQ a6 (Ep _ _) rfl rfl (by decide) (Fz.Ht .disable (by simp) rfl cE (by kernel_rfl) (by kernel_rfl) (by kernel_rfl) (by kernel_rfl)) (d':=1) rfl ?_
 try walk_nrm
 refine aC hQ a6 (Ep _ _) ?_;refine aw hQ a6 (Ep _ _) ?_;refine aD hQ a6 (Ep _ _) ?_;simp only[AP,AM,AS,Nat.reduceAdd,AO,N,J];refine ah hQ a6 (Ep _ _) rfl rfl λK hK q1 q2 q3=>?_;go_simp;refine hK _ w ?_ _ ⟨rfl,rfl,rfl⟩;clear hK K q1 q2 q3
 try walk_nrm
 try simp only[aa]
 refine ah hQ a6 (Ep _ _) rfl rfl λK hK q1 q2 q3=>?_;go_simp;refine hK _ w ?_ _ ⟨rfl,rfl,rfl⟩;clear hK K q1 q2 q3
 try walk_nrm
 try simp only[aa]
 refine ah hQ a6 (Ep _ _) rfl rfl λK hK q1 q2 q3=>?_;go_simp;refine hK _ w ?_ _ ⟨rfl,rfl,rfl⟩;clear hK K q1 q2 q3
 try walk_nrm
 try simp only[aa]
 refine ah hQ a6 (Ep _ _) rfl rfl @λτ d K hK q1 q2 q3=>?_;have aG:=run_call_add (P:=Y) Tryz.func155 (by kernel_rfl) (by kernel_rfl) (by kernel_rfl) .i32 (by kernel_rfl) (x:=1) (y:=-1) (s:=0) (w:=on w τ d) hc hz (by rfl);go_simp;refine hK _ (w.setCell _ _) ?_ _ ⟨rfl,rfl,rfl⟩;clear hK K q1 q2 q3
 try walk_nrm
 try simp only[aa]
 refine ah hQ a6 (Ep _ _) rfl rfl λK hK q1 q2 q3=>?_;go_simp;refine hK _ _ ?_ _ ⟨rfl,rfl,rfl⟩;clear hK K q1 q2 q3
 try walk_nrm
 try simp only[aa]
 refine aC hQ a6 (Ep _ _) ?_
 iterate 2 refine aw hQ a6 (Ep _ _) ?_
 refine aD hQ a6 (Ep _ _) ?_;simp only[AP,AM,AS,Nat.reduceAdd,AO,N,J];refine ah hQ a6 (Ep _ _) rfl rfl λK hK q1 q2 q3=>?_;go_simp;refine hK _ _ ?_ _ ⟨rfl,rfl,rfl⟩;clear hK K q1 q2 q3
 try walk_nrm
 try simp only[aa]
 refine ah hQ a6 (Ep _ _) rfl rfl λK hK q1 q2 q3=>?_;go_simp;refine hK _ _ ?_ _ ⟨rfl,rfl,rfl⟩;clear hK K q1 q2 q3
 try walk_nrm
 try simp only[aa]
 refine aC hQ a6 (Ep _ _) ?_;refine jO hQ a6 (Ep _ _) ?_;refine gq hQ a6 (Ep _ _) ?_;refine aD hQ a6 (Ep _ _) ?_;simp only[AP,AM,AS,Nat.reduceAdd,AO,N,J];refine cO hQ a6 (Ep _ _) rfl rfl (by decide) (Fz.Ht .enable (by simp) rfl cF (by kernel_rfl) (by kernel_rfl) (by kernel_rfl) (by kernel_rfl)) (d':=0) rfl ?_
 try walk_nrm
 refine aC hQ a6 (Ep _ _) ?_;refine aB hQ a6 (by kernel_rfl) λτ d=>?_;rw[b6];simp only[U];refine⟨(Ep _ _),_,Di,?_⟩;refine dT hQ a6 (by kernel_rfl) λτ d=>?_;refine goes_leave0 rfl rfl bW rfl ⟨zW,_,Di,?_⟩;refine aC hQ a7 zW ?_;refine aB hQ a7 (by kernel_rfl) λτ d=>?_;rw[b6];simp only[U];refine⟨zW,_,Di,.fin (aA _ _ rfl ⟨rfl,rfl,rfl⟩)⟩
def Qe:List FuncId:=[20,22,17,13,15,18,84,21,23,24,46,53,54,55,56,57,58,59,60,61,62,63,41,32,33,34,35,36,37,38,39,40,47,48,49,50,79,68,69,64,89,92,93,76,85,86,70,71,72,73,74,75,77,78,80,87,111,112,113,114,94,95,110,98,99,100,101,102,103,104,105,106,107,108,109,117,136,137,138,139,153,140,141,142,143,144,145,146,147,148,149,150,151,152,162,163,164,165,166,174]
def JM (f:M):Bool:=Qe.contains f
def put (f:M):Bool:=f==53||f==89||f==85||f==86
def Qf (f:M):Bool:=JM f&&!put f
def Tryz.K7:Tryz.prog.info? big=none:=by kernel_rfl
def Sq.K7:DU.info? big=none:=by kernel_rfl
noncomputable def PW:ED:=⟨DU,Tryz.prog.funcs⟩
def mn {p:Nat->Bool}(h:Qe.all p=S):∀f,JM f=S->p f=true:=λf hf=>(Bz.1 h) f (by simpa [JM] using hf)
def Nl (f:M):Bool:=f==92||f==93||f==153
def kF {f:M}(h:(f==6||I7 f||f==85||f==86)=E):Tryz.prog.funcs[f]?=DU.funcs[f]?:=by
 rw[Sq.get];cases Tryz.prog.funcs[f]? with
 |none=>rfl
 |some fn =>
  simp only[Cy] at h;simp only[BW,NR,h.1.1.1,h.1.1.2,h.1.2,h.2,Bool.or_self,AZ,if_false]
def tW:Qe.all (λf=>Jo DU JM E f||Nl f)=true:=by kernel_rfl
def NZ (f:M)(h:JM f=S):Jo DU JM E f=S\/Nl f=true:=by
 have:=mn tW f h;simpa using this
def lT {fs:Array Func}{f:M}(h:Nl f=S)(a6:fs[92]?=X Tryz.f92/\fs[93]?=X Tryz.f93/\fs[153]?=X cU):Lv ⟨DU,fs⟩ f:=by
 unfold Nl at h;simp only[Bm,beq_iff_eq] at h;obtain(rfl|rfl)|rfl:=h
 .exact⟨Tryz.f92,_,Sq.fn b9 rfl,a6.1,by kernel_rfl,by kernel_rfl,by kernel_rfl,by kernel_rfl,.add L,by kernel_rfl⟩
 .exact⟨Tryz.f93,_,Sq.fn cf rfl,a6.2.1,by kernel_rfl,by kernel_rfl,by kernel_rfl,by kernel_rfl,.load L,by kernel_rfl⟩
 .exact⟨cU,_,Sq.fn bb rfl,a6.2.2,by kernel_rfl,by kernel_rfl,by kernel_rfl,by kernel_rfl,.Je .i32 (by decide),by kernel_rfl⟩
def vj {fs:Array Func} {GY:Func} (h:fs[90]?=X GY) (hn:GY.name ≠ "runtime.NumGoroutine") (hb:GY.body.isSome=S) (f:M) (hf:aP JM f=S):IE ⟨DU,fs⟩ f:=by
 unfold aP at hf;simp only[AN,beq_iff_eq] at hf;obtain⟨rfl,_⟩:=hf;exact⟨_,GY,_,Sq.put bw rfl,h,by show Tryz.f90.name≠_;decide,hn,rfl,hb⟩
def Ai (H:Hid):Lib (ED.of DU) JM H E JM 0:=oN (λf hf=>(NZ f hf).imp_right λh=>lT h ⟨Sq.fn b9 rfl,Sq.fn cf rfl,Sq.fn bb rfl⟩)
 (vj (Sq.put bw rfl) (by show Tryz.f90.name≠_;decide) rfl) ⟨BR Sq.globals_size,Sq.K7⟩
def vR:Qe.all (λf=>put f||!(f==6||I7 f||f==85||f==86))=true:=by kernel_rfl
def Aj (H:Hid):Lib PW JM H E Qf 0:=by
 refine iN (λf hf=>?_) (λf hf hb=>?_) (λf hf=>?_) (vj bw (by decide) rfl) ⟨BR Sq.globals_size,Sq.K7⟩
 .simp only[Qf,AN,B2] at hf;obtain h|h:=NZ f hf.1
  .refine .inl ⟨h,kF ?_⟩;have:=mn vR f hf.1;simpa [hf.2] using this
  .exact .inr (lT h ⟨b9,cf,bb⟩)
 .simp only[Qf,hf,Cg,Cv,put,Bm,beq_iff_eq] at hb;obtain((rfl|rfl)|rfl)|rfl:=hb
  .exact⟨_,_,Sq.put bA rfl,bA,rfl,by show Tryz.f53.name≠_;decide,by decide,rfl,rfl⟩
  .exact⟨_,_,Sq.put ck rfl,ck,rfl,by show Tryz.f89.name≠_;decide,by decide,rfl,rfl⟩
  .exact⟨_,_,Sq.f85,b7,rfl,by show Tryz.f85.name≠_;decide,by decide,rfl,rfl⟩
  .exact⟨_,_,Sq.f86,b8,rfl,by show Tryz.f86.name≠_;decide,by decide,rfl,rfl⟩
 .simp only[Qf,AN] at hf;exact hf.1
def O0 (v:bn)(w:D):(∃q,v=.pointer (X q)/\(bh 97 v 1).run DU w=.ok (.pointer (X q)) w)\/GN ((bh 97 v 1).run DU w):=by
 by_cases h:∃q,v=.pointer (X q)
 .obtain⟨q,rfl⟩:=h;refine .inl ⟨q,rfl,?_⟩;obtain⟨b,o,sp⟩:=q;go_simp
 .refine .inr ?_;have hs:Instr.sureAddr v=stuck "an address expected (no nilCheck in front?)":=by
   cases v with
   |pointer o=>cases o with
    |none=>rfl
    |some q=>exact AI ⟨q,rfl⟩ h
   |_=>rfl
  unfold bh;rw[hs];go_simp;simp[GN,stuck];exact trivial
def Kd (f:M)(fn:Func)(x y:Int)(hf:DU.funcs[f]?=X fn)(ht:fn.body=X (casBody x y))(hn:3<=fn.ntmps)(hr:fn.results=#[]):∃r o1 o2 s,Ls DU f x y fn r o1 o2 s:=by
 refine⟨_,_,_,_,hf,ht,hn,hr,⟨rfl,rfl,rfl,rfl⟩,λa w=>?_,λa q w h2 h3 h4=>?_⟩
 .have e:∀o:cK,o.op=.fieldAddr 97 (.tmp 0) 1->bs a.eval o=(do let v<-bh 97 (a.eval (.tmp 0)) 1;pure (.value v)):=λo h=>by unfold bs;rw[h]
  obtain⟨q,h1,h2⟩|h:=O0 (a.eval (.tmp 0)) w
  .refine .inl ⟨q,h1,?_⟩;rw[e _ rfl];simp[h2,Result.andThen]
  .refine .inr ?_;rw[e _ rfl];revert h;simp only[Sem.run_bind];generalize (bh 97 (a.eval (.tmp 0)) 1).run DU w=r;intro h;cases r with
   |ok _ _=>exact h.elim
   |halt _ _=>exact h
 .have e : ∀ o : cK, o.op = .call { callee := .value (.func 153), args := #[.tmp 2, .const (.int .i32 x), .const (.int .i32 y)], argTypes := #[212, 21, 21] } -> bs a.eval o = callFunc 153 #[.pointer (X q), .int .i32 x, .int .i32 y] := fun o h => by
   unfold bs;rw[h];simp[Act.eval,go_sem] at h2 ⊢;rw[h2]
  rw[e _ rfl];rcases OZ (Sq.fn bb rfl) (by kernel_rfl) (by kernel_rfl) (by kernel_rfl) (by kernel_rfl) (x:=x) (y:=y) h3 h4 with⟨z,z1,z2⟩|h
  .refine .inl ⟨z,z1,z2,λhz=>?_,λhz=>?_⟩
   .subst hz;exact b5 (P:=DU) (Sq.fn bb rfl) (by kernel_rfl) (by kernel_rfl) (by kernel_rfl) .i32 (by kernel_rfl) z1 z2
   .exact run_call_cas_miss (P:=DU) (Sq.fn bb rfl) (by kernel_rfl) (by kernel_rfl) (by kernel_rfl) .i32 (by kernel_rfl) z1 z2 hz
  .exact .inr h
structure MU (BB:M->Bool):Prop where
 sub:∀f,JM f=S->BB f=S
 PE:BB 115=S
 PF:BB 116=S
def oP {BB:M->Bool}(hL:MU BB){f:M}(h:f=85\/f=86):Lu PW BB f:=by
 obtain rfl|rfl:=h
 .obtain⟨r,o1,o2,s,hp⟩:=Kd 85 DC 0 1 Sq.f85 rfl (by rw[DD];decide) rfl;exact⟨0,1,_,r,o1,o2,s,Tryz.f85,hp,kZ (hL.sub 85 (by decide)) hL.PE,b7,rfl⟩
 .obtain⟨r,o1,o2,s,hp⟩:=Kd 86 Dz 1 0 Sq.f86 rfl (by rw[DB];decide) rfl;exact⟨1,0,_,r,o1,o2,s,Tryz.f86,hp,i6 (hL.sub 86 (by decide)) hL.PF,b8,rfl⟩
def xU {BB:M->Bool}{H:Hid}(hL:MU BB)(hn:H.bl=false:=by rfl):ID PW JM Qf BB H 0:=by
 refine⟨Ai _,Aj _,λf hf hb=>?_,hL.sub,hn⟩;obtain hf|hf:=hf
 .simp only[Qf,hf,Cg,Cv,put,Bm,beq_iff_eq] at hb;obtain((rfl|rfl)|rfl)|rfl:=hb
  .exact .inl ⟨_,_,Sq.put bA rfl,rfl⟩
  .exact .inl ⟨_,_,Sq.put ck rfl,rfl⟩
  .exact .inr (oP hL (.inl rfl))
  .exact .inr (oP hL (.inr rfl))
 .unfold aP at hf;simp only[AN,beq_iff_eq] at hf;obtain⟨rfl,_⟩:=hf;exact .inl ⟨_,_,Sq.put bw rfl,rfl⟩
def aF:cw->cw
 |.seq a _=>a
 |c=>c
def ag:cw->cw
 |.seq _ b=>b
 |c=>c
def IY:cw->cw
 |.block _ b=>b
 |.loop b=>b
 |c=>c
def Gh:cw->Array cK
 |.region _ o _=>o
 |_=>#[]
noncomputable def eB:Code:=Tryz.f53.body.getD .skip
noncomputable def eL:Code:=IY (IY (ag (aF (ag (ag eB)))))
noncomputable def eI:Code:=IY (aF (ag (ag eL)))
noncomputable def o0:Array Oper:=Gh (aF eB)
noncomputable def o1:Array Oper:=Gh (aF (ag eB))
noncomputable def o2:Array Oper:=Gh (aF (aF (ag (ag eB))))
noncomputable def o3:Array Oper:=Gh (aF (IY (IY (ag (aF (ag (ag eB)))))))
noncomputable def o4:Array Oper:=Gh (aF (IY (aF (ag (ag (IY (IY (ag (aF (ag (ag eB)))))))))))
noncomputable def o5:Array Oper:=Gh (aF (ag (IY (aF (ag (ag (IY (IY (ag (aF (ag (ag eB))))))))))))
noncomputable def o6:Array Oper:=Gh (aF (aF (ag (ag (IY (aF (ag (ag (IY (IY (ag (aF (ag (ag eB))))))))))))))
noncomputable def o7:Array Oper:=Gh (aF (ag (ag (ag (IY (aF (ag (ag (IY (IY (ag (aF (ag (ag eB))))))))))))))
noncomputable def o8:Array Oper:=Gh (ag (ag (ag (ag (IY (aF (ag (ag (IY (IY (ag (aF (ag (ag eB))))))))))))))
noncomputable def o9:Array Oper:=Gh (ag (ag (ag (IY (IY (ag (aF (ag (ag eB)))))))))
noncomputable def J0:Array Oper:=Gh (ag (ag (ag eB)))
def yV:Tryz.f53.body=X (.seq (.region 0 o0 E) (.seq (.region 1 o1 E) (.seq (.seq (.region 2 o2 E) (.block 0 (.loop eL))) (.region 10 J0 E)))):=rfl
def yW:eL=.seq (.region 3 o3 E) (.seq (.cond (.tmp 14) .skip (.exit 0)) (.seq (.block 1 eI) (.region 9 o9 E))):=rfl
def yX:eI=.seq (.region 4 o4 E) (.seq (.region 5 o5 E) (.seq (.seq (.region 6 o6 E) (.cond (.tmp 22) (.exit 1) .skip)) (.seq (.region 7 o7 E) (.region 8 o8 E)))):=rfl
def mo {m:Bool}{b:A}{a:Act}{k:List cq}{cs:List A}{w:D}:cr Y m (G (b.at a (.code eL::k)) cs) w=.go (G (b.at a (.code (.region 3 o3 E)::.code (.seq (.cond (.tmp 14) .skip (.exit 0)) (.seq (.block 1 eI) (.region 9 o9 E)))::k)) cs) w #[]:=by
 rw[yW];exact V
def tX {m:Bool}{b:A}{a:Act}{k:List cq}{cs:List A}{w:D}:cr Y m (G (b.at a (.code eI::k)) cs) w=.go (G (b.at a (.code (.region 4 o4 E)::.code (.seq (.region 5 o5 E) (.seq (.seq (.region 6 o6 E) (.cond (.tmp 22) (.exit 1) .skip)) (.seq (.region 7 o7 E) (.region 8 o8 E))))::k)) cs) w #[]:=by
 rw[yX];exact V
def vT (w:D)(o:Obj)(a:Addr):(w.alloc o).cell? a=if a.block=w.heap.size then(match o with|.cells c _ _=>if a.spot.isSome then C else c[a.off]?|_=>C) else w.cell? a:=by
 show(match(w.heap.push o)[a.block]? with|some (.cells c _ _)=>if a.spot.isSome then C else c[a.off]?|_=>C)=_;rw[Cm];by_cases e:a.block=w.heap.size
 .rw[AF e,AF e];cases o<;>rfl
 .rw[AD e,AD e];rfl
def aG (w:D)(o:Obj)(b:Nat):(w.alloc o).heap[b]?=if b=w.heap.size then X o else w.heap[b]?:=Cm ..
def tY (c:A)(cs:List A):(c::cs)≠[]:=by simp
def rE (w:D)(τ:Tape)(d:Nat)(t:TypeId)(z0 z1 z2 z3 z4 y0 y1 y2 y3 y4:bn) :
  Et (w.alloc (br #[y0,y1,y2,y3,y4] t)) ((((((on (w.alloc (br #[z0,z1,z2,z3,z4] t)) τ d).setCell ⟨w.heap.size,0,C⟩ y0).setCell ⟨w.heap.size,1,C⟩ y1).setCell ⟨w.heap.size,2,C⟩ y2).setCell ⟨w.heap.size,3,C⟩ y3).setCell ⟨w.heap.size,4,C⟩ y4):=by
 refine⟨?_,rfl,rfl⟩;apply Array.ext_getElem?;intro b;simp only[EJ];have e0:(on (w.alloc (br #[z0,z1,z2,z3,z4] t)) τ d).heap[b]?=if b=w.heap.size then X (br #[z0,z1,z2,z3,z4] t) else w.heap[b]?:=aG w _ b
 rw[e0,aG];by_cases e:b=w.heap.size
 .simp only[AF e];rfl
 .simp only[AD e]
def aL (w:D)(o:Obj):(w.alloc o).heap.size=w.heap.size+1:=Array.size_push _
def aE (W:D)(τ:Tape)(d:Nat)(a:Addr):(on W τ d).cell? a=W.cell? a:=rfl
def aq (W:D)(τ:Tape)(d:Nat):(on W τ d).heap.size=W.heap.size:=rfl
def av (W:D)(τ:Tape)(d:Nat)(a:Addr):(on W τ d).frozen? a=W.frozen? a:=rfl
def vU {BB:M->Bool}(hB:BB 53=S){Q:B->D->Prop}(hQ:∀g w W,Et w W->Q g w->Q g W){cb:Nat}{f:Fn}{fx fc:Array bn}{cs:List A}(zW:cs≠[]){w:D}
  (h:Ee Y (Fa Y BB) Q (G ((base 53).at ⟨#[.pointer (X ⟨cb,0,C⟩),.func f fx fc,.pointer (X ⟨w.heap.size,0,C⟩),.pointer (X ⟨w.heap.size+1,0,C⟩),undef,undef,undef,undef,undef,undef,undef,undef,undef,undef,undef,undef,undef,undef,undef,undef,undef,undef,undef,undef,undef,undef,undef],[]⟩ [.inRegion o1 [0],.code (.seq (.seq (.region 2 o2 E) (.block 0 (.loop eL))) (.region 10 J0 E))]) cs) ((w.alloc (br #[.pointer (X ⟨cb,0,C⟩)] 69)).alloc (br #[.func f fx fc] 111))) :
  Ee Y (Fa Y BB) Q (G (bk Y 53 #[.pointer (X ⟨cb,0,C⟩),.func f fx fc] .normal) cs) w:=by
 rw[cL _ bA yV];simp only[Tryz.ntmps53,AP,AM,AS,Nat.reduceAdd,Nat.reduceSub,BO,BP,B1,BT,Cb,BX];refine Ee.own hQ hB (by kernel_rfl) λτ d=>?_;rw[V];simp only[U];refine⟨zW,w,Di,?_⟩;refine Ee.own hQ hB (by kernel_rfl) λτ d=>?_;rw[O];simp only[U,o0,eB,j,AY,Gh,aF,ag,IY,AP,AM,AS,Nat.reduceAdd,AO,N,J];refine⟨zW,w,Di,?_⟩;refine Ee.own hQ hB (by kernel_rfl) λτ d=>?_
 refine I rfl rfl (by decide) (λK hK=>?_);have q1:=aE;have q2:=aq;have q3:=av;go_simp;refine hK _ _ ⟨zW,w.alloc _,⟨rfl,rfl,rfl⟩,?_⟩;refine Ee.own hQ hB (by kernel_rfl) λτ d=>?_;refine I rfl rfl (by decide) (λK hK=>?_);go_simp;refine hK _ _ ⟨zW,(w.alloc _).alloc _,⟨rfl,rfl,rfl⟩,?_⟩;refine Ee.own hQ hB (by kernel_rfl) λτ d=>?_;rw[F];simp only[U];refine⟨zW,_,Di,?_⟩
 refine Ee.own hQ hB (by kernel_rfl) λτ d=>?_;rw[V];simp only[U];refine⟨zW,_,Di,?_⟩;refine Ee.own hQ hB (by kernel_rfl) λτ d=>?_;rw[O];have s1:o1.size=1:=rfl;simp only[U,s1,N,J];refine⟨zW,_,Di,?_⟩;exact h
def pW {m:Bool}{a:Act}{k:List cq}{cs:List A}{W:D} :
  cr Y m (G ((base 53).at a (.inRegion o1 [0]::k)) cs) W=.go (G ((base 53).at (a.put (X 4) (.pointer (X ⟨W.heap.size,0,C⟩))) (.inRegion o1 []::k)) cs) (W.alloc (br #[.int .u64 0,.int .u32 0] 149)) #[]:=by
 obtain⟨o,h1,h2,h3,h4⟩:∃o,o1[0]?=X o/\o.op=.alloc 149/\o.dst=X 4/\o.guard=none:=⟨_,rfl,rfl,rfl,rfl⟩;have hr:(bs a.eval o).run Y W=.ok (.value (.pointer (X ⟨W.heap.size,0,C⟩))) (W.alloc (br #[.int .u64 0,.int .u32 0] 149)):=by
  unfold bs;rw[h2];go_simp
 have he:(bs a.eval o).events Y W #[]=#[]:=by
  unfold bs;rw[h2];simp[go_sem]
 rw[stepG_value h1 (by unfold Region.wanted;rw[h4]) (by decide) hr,h3];have h5:listed Y (base 53).fn a o W=#[]:=by unfold listed;rw[he];exact seen_none _ _
 rw[h5]
def vV {BB:M->Bool}(hB:BB 53=S){Q:B->D->Prop}(hQ:∀g w W,Et w W->Q g w->Q g W){cb sb n c b2 b3 b4:Nat}{p0 p1:bn}{cs:List A}(zW:cs≠[]){w:D}{v0:bn}
  (g1:w.cell? ⟨b2,0,C⟩=X (.pointer (X ⟨cb,0,C⟩))) (g2:w.cell? ⟨cb,2,C⟩=X (.slice (X ⟨sb,0,C⟩) n c)) (g3:w.cell? ⟨cb,0,C⟩=X v0)
  (h:Ee Y (Fa Y BB) Q (G ((base 53).at ⟨#[p0,p1,.pointer (X ⟨b2,0,C⟩),.pointer (X ⟨b3,0,C⟩),.pointer (X ⟨b4,0,C⟩),undef,undef,undef,.pointer (X ⟨cb,0,C⟩),.pointer (X ⟨cb,0,C⟩),.pointer (X ⟨cb,2,C⟩),.slice (X ⟨sb,0,C⟩) n c,ak L n,ak L 0,undef,undef,undef,undef,undef,undef,undef,undef,undef,undef,undef,undef,undef],[]⟩ [.code eL,.inLoop eL,.inBlock 0,.code (.region 10 J0 E)]) cs) w) :
  Ee Y (Fa Y BB) Q (G ((base 53).at ⟨#[p0,p1,.pointer (X ⟨b2,0,C⟩),.pointer (X ⟨b3,0,C⟩),.pointer (X ⟨b4,0,C⟩),undef,undef,undef,undef,undef,undef,undef,undef,undef,undef,undef,undef,undef,undef,undef,undef,undef,undef,undef,undef,undef,undef],[]⟩ [.inRegion o1 [],.code (.seq (.seq (.region 2 o2 E) (.block 0 (.loop eL))) (.region 10 J0 E))]) cs) w:=by
 refine Ee.own hQ hB (by kernel_rfl) λτ d=>?_;rw[F];simp only[U];refine⟨zW,w,Di,?_⟩;refine Ee.own hQ hB (by kernel_rfl) λτ d=>?_;rw[V];simp only[U];refine⟨zW,w,Di,?_⟩;refine Ee.own hQ hB (by kernel_rfl) λτ d=>?_;rw[V];simp only[U];refine⟨zW,w,Di,?_⟩;refine Ee.own hQ hB (by kernel_rfl) λτ d=>?_;rw[O];simp only[U,o2,eB,j,AY,Gh,aF,ag,IY,AP,AM,AS,Nat.reduceAdd,AO,N,J]
 refine⟨zW,w,Di,?_⟩;refine Ee.own hQ hB (by kernel_rfl) λτ d=>?_;refine I rfl rfl (by decide) (λK hK=>?_);have q1:=aE;have q2:=aq;have q3:=av;go_simp;refine hK _ _ ⟨zW,w,⟨rfl,rfl,rfl⟩,?_⟩;refine Ee.own hQ hB (by kernel_rfl) λτ d=>?_;refine I rfl rfl (by decide) (λK hK=>?_);have q1:=aE;have q2:=aq;have q3:=av;go_simp;refine hK _ _ ⟨zW,w,⟨rfl,rfl,rfl⟩,?_⟩;refine Ee.own hQ hB (by kernel_rfl) λτ d=>?_
 refine I rfl rfl (by decide) (λK hK=>?_);have q1:=aE;have q2:=aq;have q3:=av;go_simp;refine hK _ _ ⟨zW,w,⟨rfl,rfl,rfl⟩,?_⟩;refine Ee.own hQ hB (by kernel_rfl) λτ d=>?_;refine I rfl rfl (by decide) (λK hK=>?_);have q1:=aE;have q2:=aq;have q3:=av;go_simp;refine hK _ _ ⟨zW,w,⟨rfl,rfl,rfl⟩,?_⟩;refine Ee.own hQ hB (by kernel_rfl) λτ d=>?_;refine I rfl rfl (by decide) (λK hK=>?_)
 have q1:=aE;have q2:=aq;have q3:=av;go_simp;refine hK _ _ ⟨zW,w,⟨rfl,rfl,rfl⟩,?_⟩;refine Ee.own hQ hB (by kernel_rfl) λτ d=>?_;refine I rfl rfl (by decide) (λK hK=>?_);go_simp;refine hK _ _ ⟨zW,w,⟨rfl,rfl,rfl⟩,?_⟩;refine Ee.own hQ hB (by kernel_rfl) λτ d=>?_;rw[F];simp only[U];refine⟨zW,w,Di,?_⟩;refine Ee.own hQ hB (by kernel_rfl) λτ d=>?_;rw[stepG_block];simp only[U]
 refine⟨zW,w,Di,?_⟩;refine Ee.own hQ hB (by kernel_rfl) λτ d=>?_;rw[stepG_loop];simp only[U];refine⟨zW,w,Di,?_⟩;exact h
def xV {BB:M->Bool}(hB:BB 53=S){Q:B->D->Prop}(hQ:∀g w W,Et w W->Q g w->Q g W){p0 p1 v5 v6 v7 v8 v9 v10 v14 v15 v16 v17 v18 v19 v20 v21 v22 v23 v24 v25 v26:bn}{b2 b3 b4 cb sb n c i:Nat}{cs:List A}(zW:cs≠[]){w:D}{x:Int}(hi:i<n)(g1:w.cell? ⟨b2,0,C⟩=X (.pointer (X ⟨cb,0,C⟩)))(g2:w.cell? ⟨sb,i,C⟩=X (.int .u8 x))(l2:b2<w.heap.size)
  (h:Ee Y (Fa Y BB) Q (G (bk Y 79 #[.pointer (X ⟨cb,0,C⟩),.pointer (X ⟨w.heap.size,0,C⟩),ak L 0] .normal) (((base 53).at ⟨#[p0,p1,.pointer (X ⟨b2,0,C⟩),.pointer (X ⟨b3,0,C⟩),.pointer (X ⟨b4,0,C⟩),v5,.int .u8 x,.pointer (X ⟨w.heap.size,0,C⟩),v8,v9,v10,.slice (X ⟨sb,0,C⟩) n c,ak L n,ak L i,.bool S,.pointer (X ⟨sb,i,C⟩),.int .u8 x,.int .u8 x,.agg #[.int .u8 x,.int .u8 0,.int .u8 0,.int .u8 0,.int .u8 0],.pointer (X ⟨cb,0,C⟩),v20,v21,v22,v23,v24,v25,v26],[]⟩ [.inRegion o6 [1,2,3],.code (.cond (.tmp 22) (.exit 1) .skip),.code (.seq (.region 7 o7 E) (.region 8 o8 E)),.inBlock 1,.code (.region 9 o9 E),.inLoop eL,.inBlock 0,.code (.region 10 J0 E)])::cs)) (w.alloc (br #[.int .u8 x,.int .u8 0,.int .u8 0,.int .u8 0,.int .u8 0] 72))) :
  Ee Y (Fa Y BB) Q (G ((base 53).at ⟨#[p0,p1,.pointer (X ⟨b2,0,C⟩),.pointer (X ⟨b3,0,C⟩),.pointer (X ⟨b4,0,C⟩),v5,v6,v7,v8,v9,v10,.slice (X ⟨sb,0,C⟩) n c,ak L n,ak L i,v14,v15,v16,v17,v18,v19,v20,v21,v22,v23,v24,v25,v26],[]⟩ [.code eL,.inLoop eL,.inBlock 0,.code (.region 10 J0 E)]) cs) w:=by
 refine Ee.own hQ hB (by kernel_rfl) λτ d=>?_;rw[mo];simp only[U];refine⟨zW,w,Di,?_⟩;refine Ee.own hQ hB (by kernel_rfl) λτ d=>?_;rw[O];simp only[U,o3,eB,j,AY,Gh,aF,ag,IY,AP,AM,AS,Nat.reduceAdd,AO,N,J];refine⟨zW,w,Di,?_⟩;refine Ee.own hQ hB (by kernel_rfl) λτ d=>?_;refine I rfl rfl (by decide) (λK hK=>?_);have q1:=aE;have q2:=aq
 have q3:=av;go_simp;clear q1 q2 q3;refine hK _ _ ⟨zW,w,⟨rfl,rfl,rfl⟩,?_⟩;clear hK K
 try walk_nrm
 try simp only[aq]
 refine Ee.own hQ hB (by kernel_rfl) λτ d=>?_;rw[F];simp only[U];refine⟨zW,w,Di,?_⟩;refine Ee.own hQ hB (by kernel_rfl) λτ d=>?_;rw[V];simp only[U];refine⟨zW,w,Di,?_⟩;refine Ee.own hQ hB (by kernel_rfl) λτ d=>?_;rw[bo (t:=S) rfl];simp only[U,if_true,if_false,AZ,↓reduceIte];refine⟨zW,w,Di,?_⟩;refine Ee.own hQ hB (by kernel_rfl) λτ d=>?_;rw[cu]
 simp only[U];refine⟨zW,w,Di,?_⟩;refine Ee.own hQ hB (by kernel_rfl) λτ d=>?_;rw[V];simp only[U];refine⟨zW,w,Di,?_⟩;refine Ee.own hQ hB (by kernel_rfl) λτ d=>?_;rw[stepG_block];simp only[U];refine⟨zW,w,Di,?_⟩;refine Ee.own hQ hB (by kernel_rfl) λτ d=>?_;rw[tX];simp only[U];refine⟨zW,w,Di,?_⟩;refine Ee.own hQ hB (by kernel_rfl) λτ d=>?_;rw[O];simp only[U,o4,eB,j,AY,Gh,aF,ag,IY,AP,AM,AS,Nat.reduceAdd,AO,N,J]
 refine⟨zW,w,Di,?_⟩;have a6:((i:Nat):Int).toNat=i:=by omega
 refine Ee.own hQ hB (by kernel_rfl) λτ d=>?_;refine I rfl rfl (by decide) (λK hK=>?_);have q1:=aE;have q2:=aq;have q3:=av;go_simp;clear q1 q2 q3;refine hK _ _ ⟨zW,w,⟨rfl,rfl,rfl⟩,?_⟩;clear hK K
 try walk_nrm
 try simp only[aq]
 refine Ee.own hQ hB (by kernel_rfl) λτ d=>?_;refine I rfl rfl (by decide) (λK hK=>?_);have q1:=aE;have q2:=aq;have q3:=av;go_simp;clear q1 q2 q3;refine hK _ _ ⟨zW,w,⟨rfl,rfl,rfl⟩,?_⟩;clear hK K
 try walk_nrm
 try simp only[aq]
 refine Ee.own hQ hB (by kernel_rfl) λτ d=>?_;refine I rfl rfl (by decide) (λK hK=>?_);have q1:=aE;have q2:=aq;have q3:=av;go_simp;clear q1 q2 q3;refine hK _ _ ⟨zW,w,⟨rfl,rfl,rfl⟩,?_⟩;clear hK K
 try walk_nrm
 try simp only[aq]
 refine Ee.own hQ hB (by kernel_rfl) λτ d=>?_;rw[F];simp only[U];refine⟨zW,w,Di,?_⟩;refine Ee.own hQ hB (by kernel_rfl) λτ d=>?_;rw[V];simp only[U];refine⟨zW,w,Di,?_⟩;refine Ee.own hQ hB (by kernel_rfl) λτ d=>?_;rw[O];simp only[U,o5,eB,j,AY,Gh,aF,ag,IY,AP,AM,AS,Nat.reduceAdd,AO,N,J];refine⟨zW,w,Di,?_⟩;refine Ee.own hQ hB (by kernel_rfl) λτ d=>?_
 refine I rfl rfl (by decide) (λK hK=>?_);have q1:=aE;have q2:=aq;have q3:=av;go_simp;clear q1 q2 q3;refine hK _ _ ⟨zW,w,⟨rfl,rfl,rfl⟩,?_⟩;clear hK K
 try walk_nrm
 try simp only[aq]
 refine Ee.own hQ hB (by kernel_rfl) λτ d=>?_;refine I rfl rfl (by decide) (λK hK=>?_);have q1:=aE;have q2:=aq;have q3:=av;go_simp;clear q1 q2 q3;refine hK _ _ ⟨zW,w,⟨rfl,rfl,rfl⟩,?_⟩;clear hK K
 try walk_nrm
 try simp only[aq]
 refine Ee.own hQ hB (by kernel_rfl) λτ d=>?_;refine I rfl rfl (by decide) (λK hK=>?_);have q1:=aE;have q2:=aq;have q3:=av;go_simp;clear q1 q2 q3;refine hK _ _ ⟨zW,w.alloc _,⟨rfl,rfl,rfl⟩,?_⟩;clear hK K
 try walk_nrm
 try simp only[aq]
 refine Ee.own hQ hB (by kernel_rfl) λτ d=>?_;refine I rfl rfl (by decide) (λK hK=>?_);have q1:=aE;have q2:=aq;have q3:=av;go_simp;clear q1 q2 q3;refine hK _ _ ⟨zW,_,rE w τ d _ _ _ _ _ _ _ _ _ _ _,?_⟩;clear hK K
 try walk_nrm
 generalize hW:w.alloc (br #[.int .u8 x,.int .u8 0,.int .u8 0,.int .u8 0,.int .u8 0] 72)=W at h ⊢;have g3:W.cell? ⟨b2,0,C⟩=X (.pointer (X ⟨cb,0,C⟩)):=by rw[<-hW,<-g1];simp only[vT];rw[AD (by omega)]
 clear g1 g2;refine Ee.own hQ hB (by kernel_rfl) λτ d=>?_;rw[F];simp only[U];refine⟨zW,W,Di,?_⟩;refine Ee.own hQ hB (by kernel_rfl) λτ d=>?_;rw[V];simp only[U];refine⟨zW,W,Di,?_⟩;refine Ee.own hQ hB (by kernel_rfl) λτ d=>?_;rw[V];simp only[U];refine⟨zW,W,Di,?_⟩;refine Ee.own hQ hB (by kernel_rfl) λτ d=>?_;rw[O];simp only[U,o6,eB,j,AY,Gh,aF,ag,IY,AP,AM,AS,Nat.reduceAdd,AO,N,J]
 refine⟨zW,W,Di,?_⟩;refine Ee.own hQ hB (by kernel_rfl) λτ d=>?_;refine I rfl rfl (by decide) (λK hK=>?_);have q1:=aE;have q2:=aq;have q3:=av;go_simp;clear q1 q2 q3;refine hK _ _ ⟨zW,W,⟨rfl,rfl,rfl⟩,?_⟩;clear hK K
 try walk_nrm
 try simp only[aq]
 refine Ee.own hQ hB (by kernel_rfl) λτ d=>?_;refine aJ rfl rfl (by decide) rfl Tryz.func79 (by kernel_rfl) (by kernel_rfl) ⟨tY _ _,W,Di,?_⟩
 try walk_nrm
 exact h
def vW {BB:M->Bool}(hB:BB 53=S){Q:B->D->Prop}(hQ:∀g w W,Et w W->Q g w->Q g W){p0 p1 v5 v6 v7 v8 v9 v10 v14 v15 v16 v17 v18 v19 v20 v21 v22 v23 v24 v25 v26:bn}{b2 b3 b4 cb sb n c i:Nat}{cs:List A}(zW:cs≠[]){w:D}{k:Int}{y1 y2:bn}(hw:IntKind.i64.wrap ((i:Int)+1)=((i+1:Nat):Int))(hk:k≠0)
  (h:Ee Y (Fa Y BB) Q (G ((base 53).at ⟨#[p0,p1,.pointer (X ⟨b2,0,C⟩),.pointer (X ⟨b3,0,C⟩),.pointer (X ⟨b4,0,C⟩),v5,v6,v7,v8,v9,v10,.slice (X ⟨sb,0,C⟩) n c,ak L n,ak L ((i+1:Nat):Int),v14,v15,v16,v17,v18,v19,.agg #[ak L k,y1,y2],ak L k,.bool S,v23,v24,ak L ((i+1:Nat):Int),v26],[]⟩ [.code eL,.inLoop eL,.inBlock 0,.code (.region 10 J0 E)]) cs) w) :
  Ee Y (Fa Y BB) Q (G ((base 53).at ⟨#[p0,p1,.pointer (X ⟨b2,0,C⟩),.pointer (X ⟨b3,0,C⟩),.pointer (X ⟨b4,0,C⟩),v5,v6,v7,v8,v9,v10,.slice (X ⟨sb,0,C⟩) n c,ak L n,ak L i,v14,v15,v16,v17,v18,v19,.agg #[ak L k,y1,y2],v21,v22,v23,v24,v25,v26],[]⟩ [.inRegion o6 [2,3],.code (.cond (.tmp 22) (.exit 1) .skip),.code (.seq (.region 7 o7 E) (.region 8 o8 E)),.inBlock 1,.code (.region 9 o9 E),.inLoop eL,.inBlock 0,.code (.region 10 J0 E)]) cs) w:=by
 simp only[o6,eB,j,AY,Gh,aF,ag,IY];refine Ee.own hQ hB (by kernel_rfl) λτ d=>?_;refine I rfl rfl (by decide) (λK hK=>?_);have q1:=aE;have q2:=aq;have q3:=av;go_simp;clear q1 q2 q3;refine hK _ _ ⟨zW,w,⟨rfl,rfl,rfl⟩,?_⟩;clear hK K
 try walk_nrm
 try simp only[aq]
 refine Ee.own hQ hB (by kernel_rfl) λτ d=>?_;refine I rfl rfl (by decide) (λK hK=>?_);have q1:=aE;have q2:=aq;have q3:=av;go_simp;clear q1 q2 q3;refine hK _ _ ⟨zW,w,⟨rfl,rfl,rfl⟩,?_⟩;clear hK K
 try walk_nrm
 try simp only[aq]
 refine Ee.own hQ hB (by kernel_rfl) λτ d=>?_;rw[F];simp only[U];refine⟨zW,w,Di,?_⟩;refine Ee.own hQ hB (by kernel_rfl) λτ d=>?_;rw[bo (t:=S) (by simp[Act.eval,hk])];simp only[U,if_true,if_false,AZ,↓reduceIte];refine⟨zW,w,Di,?_⟩;refine Ee.own hQ hB (by kernel_rfl) λτ d=>?_;rw[stepG_exit rfl];simp only[U];refine⟨zW,w,Di,?_⟩;refine Ee.own hQ hB (by kernel_rfl) λτ d=>?_
 rw[O];simp only[U,o9,eB,j,AY,Gh,aF,ag,IY,AP,AM,AS,Nat.reduceAdd,AO,N,J];refine⟨zW,w,Di,?_⟩;refine Ee.own hQ hB (by kernel_rfl) λτ d=>?_;refine I rfl rfl (by decide) (λK hK=>?_);have q1:=aE;have q2:=aq;have q3:=av;go_simp;clear q1 q2 q3;refine hK _ _ ⟨zW,w,⟨rfl,rfl,rfl⟩,?_⟩;clear hK K
 try walk_nrm
 try simp only[aq]
 try rw[hw]
 refine Ee.own hQ hB (by kernel_rfl) λτ d=>?_;refine I rfl rfl (by decide) (λK hK=>?_);have q1:=aE;have q2:=aq;have q3:=av;go_simp;clear q1 q2 q3;refine hK _ _ ⟨zW,w,⟨rfl,rfl,rfl⟩,?_⟩;clear hK K
 try walk_nrm
 try simp only[aq]
 refine Ee.own hQ hB (by kernel_rfl) λτ d=>?_;rw[F];simp only[U];refine⟨zW,w,Di,?_⟩;refine Ee.own hQ hB (by kernel_rfl) λτ d=>?_;rw[stepG_inLoop];simp only[U];refine⟨zW,w,Di,?_⟩;simpa [show(k != 0)=S by simp[hk]] using h
def vY {BB:M->Bool}(hB:BB 53=S){Q:B->D->Prop}(hQ:∀g w W,Et w W->Q g w->Q g W){p0 p1 v5 v6 v7 v8 v9 v10 v14 v15 v16 v17 v18 v19 v20 v21 v22 v23 v24 v25 v26:bn}{b2 b3 b4 cb sb n c i:Nat}{cs:List A}(zW:cs≠[]){w:D}{y1 y2:bn}
  (h:Ee Y (Fa Y BB) Q (G (bk Y 88 #[.pointer (X ⟨b4,0,C⟩),ak L 1] .normal) (((base 53).at ⟨#[p0,p1,.pointer (X ⟨b2,0,C⟩),.pointer (X ⟨b3,0,C⟩),.pointer (X ⟨b4,0,C⟩),v5,v6,v7,v8,v9,v10,.slice (X ⟨sb,0,C⟩) n c,ak L n,ak L i,v14,v15,v16,v17,v18,v19,.agg #[ak L 0,y1,y2],ak L 0,.bool E,v23,v24,v25,v26],[]⟩ [.inRegion o7 [0],.code (.region 8 o8 E),.inBlock 1,.code (.region 9 o9 E),.inLoop eL,.inBlock 0,.code (.region 10 J0 E)])::cs)) w) :
  Ee Y (Fa Y BB) Q (G ((base 53).at ⟨#[p0,p1,.pointer (X ⟨b2,0,C⟩),.pointer (X ⟨b3,0,C⟩),.pointer (X ⟨b4,0,C⟩),v5,v6,v7,v8,v9,v10,.slice (X ⟨sb,0,C⟩) n c,ak L n,ak L i,v14,v15,v16,v17,v18,v19,.agg #[ak L 0,y1,y2],v21,v22,v23,v24,v25,v26],[]⟩ [.inRegion o6 [2,3],.code (.cond (.tmp 22) (.exit 1) .skip),.code (.seq (.region 7 o7 E) (.region 8 o8 E)),.inBlock 1,.code (.region 9 o9 E),.inLoop eL,.inBlock 0,.code (.region 10 J0 E)]) cs) w:=by
 simp only[o6,eB,j,AY,Gh,aF,ag,IY];refine Ee.own hQ hB (by kernel_rfl) λτ d=>?_;refine I rfl rfl (by decide) (λK hK=>?_);have q1:=aE;have q2:=aq;have q3:=av;go_simp;clear q1 q2 q3;refine hK _ _ ⟨zW,w,⟨rfl,rfl,rfl⟩,?_⟩;clear hK K
 try walk_nrm
 try simp only[aq]
 refine Ee.own hQ hB (by kernel_rfl) λτ d=>?_;refine I rfl rfl (by decide) (λK hK=>?_);have q1:=aE;have q2:=aq;have q3:=av;go_simp;clear q1 q2 q3;refine hK _ _ ⟨zW,w,⟨rfl,rfl,rfl⟩,?_⟩;clear hK K
 try walk_nrm
 try simp only[aq]
 refine Ee.own hQ hB (by kernel_rfl) λτ d=>?_;rw[F];simp only[U];refine⟨zW,w,Di,?_⟩;refine Ee.own hQ hB (by kernel_rfl) λτ d=>?_;rw[bo (t:=E) rfl];simp only[U,if_true,if_false,AZ,↓reduceIte];refine⟨zW,w,Di,?_⟩;refine Ee.own hQ hB (by kernel_rfl) λτ d=>?_;rw[cu];simp only[U];refine⟨zW,w,Di,?_⟩;refine Ee.own hQ hB (by kernel_rfl) λτ d=>?_;rw[V]
 simp only[U];refine⟨zW,w,Di,?_⟩;refine Ee.own hQ hB (by kernel_rfl) λτ d=>?_;rw[O];have s7:o7.size=1:=rfl;simp only[U,s7,N,J];refine⟨zW,w,Di,?_⟩;refine Ee.own hQ hB (by kernel_rfl) λτ d=>?_;refine aJ rfl rfl (by decide) rfl Tryz.func88 (by kernel_rfl) (by kernel_rfl) ⟨tY _ _,w,Di,?_⟩
 try walk_nrm
 simpa using h
def xW {BB:M->Bool}(hB:BB 53=S){Q:B->D->Prop}(hQ:∀g w W,Et w W->Q g w->Q g W){p0 p1 v5 v6 v7 v8 v9 v10 v14 v15 v16 v17 v18 v19 v20 v21 v22 v23 v24 v25 v26:bn}{b2 b3 b4 cb sb n c i:Nat}{cs:List A}(zW:cs≠[]){w:D}
  (h:Ee Y (Fa Y BB) Q (G ((base 53).at ⟨#[p0,p1,.pointer (X ⟨b2,0,C⟩),.pointer (X ⟨b3,0,C⟩),.pointer (X ⟨b4,0,C⟩),v5,v6,v7,v8,v9,v10,.slice (X ⟨sb,0,C⟩) n c,ak L n,ak L i,v14,v15,v16,v17,v18,v19,v20,v21,v22,v23,.func (.func 89) #[] #[.pointer (X ⟨b4,0,C⟩),.pointer (X ⟨b2,0,C⟩),v7,.pointer (X ⟨b3,0,C⟩)],v25,v26],[]⟩ [.inRegion o8 [1],.inBlock 1,.code (.region 9 o9 E),.inLoop eL,.inBlock 0,.code (.region 10 J0 E)]) cs) w) :
  Ee Y (Fa Y BB) Q (G ((base 53).at ⟨#[p0,p1,.pointer (X ⟨b2,0,C⟩),.pointer (X ⟨b3,0,C⟩),.pointer (X ⟨b4,0,C⟩),v5,v6,v7,v8,v9,v10,.slice (X ⟨sb,0,C⟩) n c,ak L n,ak L i,v14,v15,v16,v17,v18,v19,v20,v21,v22,v23,v24,v25,v26],[]⟩ [.inRegion o7 [],.code (.region 8 o8 E),.inBlock 1,.code (.region 9 o9 E),.inLoop eL,.inBlock 0,.code (.region 10 J0 E)]) cs) w:=by
 refine Ee.own hQ hB (by kernel_rfl) λτ d=>?_;rw[F];simp only[U];refine⟨zW,w,Di,?_⟩;refine Ee.own hQ hB (by kernel_rfl) λτ d=>?_;rw[O];have s8:o8.size=2:=rfl;simp only[U,s8,N,J];refine⟨zW,w,Di,?_⟩;simp only[o8,eB,j,AY,Gh,aF,ag,IY] at h ⊢;refine Ee.own hQ hB (by kernel_rfl) λτ d=>?_;refine I rfl rfl (by decide) (λK hK=>?_)
 have q1:=aE;have q2:=aq;have q3:=av;go_simp;clear q1 q2 q3;refine hK _ _ ⟨zW,w,⟨rfl,rfl,rfl⟩,?_⟩;clear hK K
 try walk_nrm
 try simp only[aq]
 exact h
def xX {BB:M->Bool}(hB:BB 53=S){Q:B->D->Prop}(hQ:∀g w W,Et w W->Q g w->Q g W){p0 p1 v5 v6 v7 v8 v9 v10 v14 v15 v16 v17 v18 v19 v20 v21 v22 v23 v24 v25 v26:bn}{b2 b3 b4 cb sb n c i:Nat}{cs:List A}(zW:cs≠[]){w:D}(hw:IntKind.i64.wrap ((i:Int)+1)=((i+1:Nat):Int))
  (h:Ee Y (Fa Y BB) Q (G ((base 53).at ⟨#[p0,p1,.pointer (X ⟨b2,0,C⟩),.pointer (X ⟨b3,0,C⟩),.pointer (X ⟨b4,0,C⟩),v5,v6,v7,v8,v9,v10,.slice (X ⟨sb,0,C⟩) n c,ak L n,ak L ((i+1:Nat):Int),v14,v15,v16,v17,v18,v19,v20,v21,v22,v23,v24,ak L ((i+1:Nat):Int),v26],[]⟩ [.code eL,.inLoop eL,.inBlock 0,.code (.region 10 J0 E)]) cs) w) :
  Ee Y (Fa Y BB) Q (G ((base 53).at ⟨#[p0,p1,.pointer (X ⟨b2,0,C⟩),.pointer (X ⟨b3,0,C⟩),.pointer (X ⟨b4,0,C⟩),v5,v6,v7,v8,v9,v10,.slice (X ⟨sb,0,C⟩) n c,ak L n,ak L i,v14,v15,v16,v17,v18,v19,v20,v21,v22,v23,v24,v25,v26],[]⟩ [.inRegion o8 [],.inBlock 1,.code (.region 9 o9 E),.inLoop eL,.inBlock 0,.code (.region 10 J0 E)]) cs) w:=by
 refine Ee.own hQ hB (by kernel_rfl) λτ d=>?_;rw[F];simp only[U];refine⟨zW,w,Di,?_⟩;refine Ee.own hQ hB (by kernel_rfl) λτ d=>?_;rw[stepG_inBlock];simp only[U];refine⟨zW,w,Di,?_⟩;refine Ee.own hQ hB (by kernel_rfl) λτ d=>?_;rw[O];simp only[U,o9,eB,j,AY,Gh,aF,ag,IY,AP,AM,AS,Nat.reduceAdd,AO,N,J];refine⟨zW,w,Di,?_⟩;refine Ee.own hQ hB (by kernel_rfl) λτ d=>?_
 refine I rfl rfl (by decide) (λK hK=>?_);have q1:=aE;have q2:=aq;have q3:=av;go_simp;clear q1 q2 q3;refine hK _ _ ⟨zW,w,⟨rfl,rfl,rfl⟩,?_⟩;clear hK K
 try walk_nrm
 try simp only[aq]
 try rw[hw]
 refine Ee.own hQ hB (by kernel_rfl) λτ d=>?_;refine I rfl rfl (by decide) (λK hK=>?_);have q1:=aE;have q2:=aq;have q3:=av;go_simp;clear q1 q2 q3;refine hK _ _ ⟨zW,w,⟨rfl,rfl,rfl⟩,?_⟩;clear hK K
 try walk_nrm
 try simp only[aq]
 refine Ee.own hQ hB (by kernel_rfl) λτ d=>?_;rw[F];simp only[U];refine⟨zW,w,Di,?_⟩;refine Ee.own hQ hB (by kernel_rfl) λτ d=>?_;rw[stepG_inLoop];simp only[U];refine⟨zW,w,Di,?_⟩;exact h
def xY {BB:M->Bool}(hB:BB 53=S){Q:B->D->Prop}(hQ:∀g w W,Et w W->Q g w->Q g W){p0 p1 v5 v6 v7 v8 v9 v10 v14 v15 v16 v17 v18 v19 v20 v21 v22 v23 v24 v25 v26:bn}{b2 b3 b4 cb sb n c i:Nat}{cs:List A}(zW:cs≠[]){w:D}(hi:¬i<n)
  (h:Ee Y (Fa Y BB) Q (G (bk Y 91 #[.pointer (X ⟨b4,0,C⟩)] .normal) (((base 53).at ⟨#[p0,p1,.pointer (X ⟨b2,0,C⟩),.pointer (X ⟨b3,0,C⟩),.pointer (X ⟨b4,0,C⟩),v5,v6,v7,v8,v9,v10,.slice (X ⟨sb,0,C⟩) n c,ak L n,ak L i,.bool E,v15,v16,v17,v18,v19,v20,v21,v22,v23,v24,v25,v26],[]⟩ [.inRegion J0 [0]])::cs)) w) :
  Ee Y (Fa Y BB) Q (G ((base 53).at ⟨#[p0,p1,.pointer (X ⟨b2,0,C⟩),.pointer (X ⟨b3,0,C⟩),.pointer (X ⟨b4,0,C⟩),v5,v6,v7,v8,v9,v10,.slice (X ⟨sb,0,C⟩) n c,ak L n,ak L i,v14,v15,v16,v17,v18,v19,v20,v21,v22,v23,v24,v25,v26],[]⟩ [.code eL,.inLoop eL,.inBlock 0,.code (.region 10 J0 E)]) cs) w:=by
 refine Ee.own hQ hB (by kernel_rfl) λτ d=>?_;rw[mo];simp only[U];refine⟨zW,w,Di,?_⟩;refine Ee.own hQ hB (by kernel_rfl) λτ d=>?_;rw[O];simp only[U,o3,eB,j,AY,Gh,aF,ag,IY,AP,AM,AS,Nat.reduceAdd,AO,N,J];refine⟨zW,w,Di,?_⟩;refine Ee.own hQ hB (by kernel_rfl) λτ d=>?_;refine I rfl rfl (by decide) (λK hK=>?_);have q1:=aE;have q2:=aq
 have q3:=av;go_simp;clear q1 q2 q3;refine hK _ _ ⟨zW,w,⟨rfl,rfl,rfl⟩,?_⟩;clear hK K
 try walk_nrm
 try simp only[aq]
 refine Ee.own hQ hB (by kernel_rfl) λτ d=>?_;rw[F];simp only[U];refine⟨zW,w,Di,?_⟩;refine Ee.own hQ hB (by kernel_rfl) λτ d=>?_;rw[V];simp only[U];refine⟨zW,w,Di,?_⟩;refine Ee.own hQ hB (by kernel_rfl) λτ d=>?_;rw[bo (t:=E) rfl];simp only[U,if_true,if_false,AZ,↓reduceIte];refine⟨zW,w,Di,?_⟩;refine Ee.own hQ hB (by kernel_rfl) λτ d=>?_;rw[stepG_exit rfl]
 simp only[U];refine⟨zW,w,Di,?_⟩;refine Ee.own hQ hB (by kernel_rfl) λτ d=>?_;rw[O];have s10:J0.size=1:=rfl;simp only[U,s10,N,J];refine⟨zW,w,Di,?_⟩;refine Ee.own hQ hB (by kernel_rfl) λτ d=>?_;refine aJ rfl rfl (by decide) rfl Tryz.func91 (by kernel_rfl) (by kernel_rfl) ⟨tY _ _,w,Di,?_⟩
 try walk_nrm
 exact h
def xZ {BB:M->Bool}(hB:BB 53=S){Q:B->D->Prop}(hQ:∀g w W,Et w W->Q g w->Q g W){a:Act}(hd:a.defers=[]){cs:List A}(zW:cs≠[]){w:D}
  (h:∀a':Act,a'.defers=[]->Q (G { (base 53).at a' [] with mode:=.returning } cs) w) :
  Ee Y (Fa Y BB) Q (G (((base 53).at a [.inRegion J0 [0]]).finish (.tuple #[])) cs) w:=by
 rw[Frame.finish_at];refine Ee.own hQ hB (by kernel_rfl) λτ d=>?_;rw[F];simp only[U];refine⟨zW,w,Di,?_⟩;refine Ee.own hQ hB (by kernel_rfl) λτ d=>?_;rw[b6];simp only[U];refine⟨zW,w,Di,.fin ?_⟩;refine h _ ?_;cases(J0[0]?.bind (·.dst))<;>exact hd
end Go.Sq
