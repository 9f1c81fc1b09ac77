/- Parts of the proof. -/
import Derived.Test.YtghipmneleifpaaGreatP21
import Derived.Test.YtghipmneleifpaaGreatP19
import Derived.Test.YtghipmneleifpaaGreatP00
import Derived.Test.YtghipmneleifpaaGreatP18
import Derived.Test.YtghipmneleifpaaGreatP20
import Derived.Test.YtghipmneleifpaaGreatP06
import Derived.Laws.AppendOwnNone
set_option linter.all false
set_option maxHeartbeats 6400000
set_option maxRecDepth 1000000
open Go.Value renaming slice->a6,int->a7,pointer->cw
open Option renaming none->a8,some->bh
open Go.IntKind renaming i64->bc
open Go renaming Value->bk,World->bn,bodyPost_ret->bq,info_parts->b5,TypeId->b7,Addr->cE,Calls->cF
open Go.Obj renaming cells->bo
open Go.Proofs.Tryz renaming results37->br,results14->bW,f31->b6,f14->cu
open Go.Builtin renaming append_->bs,append->b9
open Go.Proofs renaming intOf->bw
open Go.Addr renaming add_lit->bA
open Bool renaming false->bD,true->b8
open Go.Sem renaming runT_fst->cf,run_bind->cq,run_pure->cr
namespace Go.Sq
open Go.RowKit
def Ce.grow {w w':bn}{b1 b2 n:Nat}{u v:bk}{ls:List (List Int)}{rs xs:List bk}(h:Ce w b1 u ls rs)(hv:w.ownsRow b2 22 1 v n xs)(ha:∀g,u.ownBlock=bh g->bh g≠v.ownBlock)(hg:w.grownBy w' v.ownBlock):Ce w' b1 u ls rs :=
 ⟨al h.row λg hu hl=>hg.block g hl (ha g hu),λi l hi=>by
  obtain⟨y,h1,h2⟩:=h.cells i l hi
  exact⟨y,h1,al h2 λg hu hl=>hg.block g hl (be (by decide) h2 hv hu)⟩⟩
def Ce.gr {w w':bn}{base:Nat}{v:bk}{ls:List (List Int)}{xs:List bk}(h:Ce w base v ls xs)(hg:Gr w w'):Ce w' base v ls xs:=h.keep λb hb=>hg.below.block b hb
def ua {w':bn}{base g:Nat}(hb:base<=g)(hg:w'.heap[g]?=bh (bo #[.slice a8 0 0] 22 (0,0))):Ce w' base (.slice (bh ⟨g,0,a8⟩) 1 1) [[]] [.slice a8 0 0]:=by
 refine⟨⟨rfl,.inr ⟨g,1,_,rfl,hb,hg,yL _,by unfold maxLen;simp,rfl,rfl⟩⟩,λi l hi=>?_⟩;cases i with
 |zero =>
  simp at hi;subst hi;exact⟨_,rfl,zF _ _ _ _⟩
 |succ i=>simp at hi
open Go.Proofs
section
variable {w:bn} {ops:Array Oper} {rest:List Oper} {o:Oper} {a:Act} {Q:Exit->Act->bn->Prop}
def ub (hgd:o.guard=a8)(s x:Operand)(ho:o.op=.call { callee:=.builtin .append,args:=#[s,x],argTypes:=#[22,22] })
  (base B:Nat) (v u:bk) (n m:Nat) (xs ys:List bk) (hs:a.eval s=v) (hown:w.ownsRow base 3 1 v n xs) (hx:a.eval x=u) (hu:w.ownsRow B 3 1 u m ys) (hy:∀y∈ys,y.oneCell'=b8)
  (hn:n+m<=1048576) (hbase:base<=w.heap.size) (h:∀v' w',w'.ownsRow base 3 1 v' (n+m) (xs++ys)->w.grownBy w' v.ownBlock->w.drawn<=w'.drawn->wpList B1 ops Q rest (a.put o.dst v') w'):wpList B1 ops Q (o::rest) a w:=by
 obtain⟨i0,hi,hz0,hz1,hz2⟩:=b5 Bv;have hl:=hu.1;rcases hu.2 with⟨rfl,h0⟩|⟨g,c,cur,rfl,h1,h2,h3⟩
 .subst h0;have e:ys=[]:=zj (by omega);subst e;refine wpList_append_own_none hgd s x 22 ho base 3 i0 1 Sq.underlying22 hi v n xs hs hown hx ?_;exact h v w (by simpa using hown) (World.grownBy.refl w _) (yL _)
 .exact CE hgd s x 22 ho base 3 i0 (a7 bc 0) 1 8 Sq.underlying22 hi hz0 hz1 hz2 rfl (by decide) v n xs hs hown ⟨g,0,a8⟩ m c ys hx (by omega) (λj u hj=>hu.cells (g:=g) rfl j u hj) hy (by unfold maxLen;omega) (by omega) hbase h
def wm {t e:b7}(ht:B1.underlying t=bh (.slice e))(he:(B1.info? e).map (λi=>(i.zero,i.size,i.bytes))=bh (bh (.slice a8 0 0),1,24))(hgd:o.guard=a8)(s x:Operand)(ho:o.op=.call { callee:=.builtin .append,args:=#[s,x],argTypes:=#[t,t] })
  (base:Nat) (v:bk) (n:Nat) (xs:List bk) (hs:a.eval s=v) (hown:w.ownsRow base e 1 v n xs) (ad:cE) (c:Nat) (u:bk) (hx:a.eval x=.slice (bh ad) 1 c) (hc:w.cell? (ad.add 0)=bh u) (h1:u.oneCell'=b8)
  (hn:n<=1048576) (hbase:base<=w.heap.size) (h:∀v' w',w'.ownsRow base e 1 v' (n+1) (xs++[u])->w.grownBy w' v.ownBlock->w.drawn<=w'.drawn->(v'.ownBlock=v.ownBlock\/v'.ownBlock=bh w.heap.size)->wpList B1 ops Q rest (a.put o.dst v') w'):wpList B1 ops Q (o::rest) a w:=by
 obtain⟨i0,hi,hz0,hz1,hz2⟩:=b5 he;refine wpList_plain hgd λK hK=>?_
 obtain⟨v',w',hr,h2,h3,_,h5⟩:=run_append_own_at (P:=B1) w base t o.type e i0 _ 1 24 ht hi hz0 hz1 hz2 rfl (by decide) v n xs hown ad 1 c [u] rfl (λj y hj=>by
  match j,hj with
  |0,hj=>cases hj;exact hc) (λy hy=>by
  simp only[yT,yQ,or_false] at hy
  subst hy;exact h1) (by unfold maxLen;omega) (by omega) hbase
 have hd:=Go.Ct.EM B1 (bs #[t,t] o.type #[v,.slice (bh ad) 1 c]) w #[];rw[cf,hr] at hd;unfold Oper.wp execOp;simp only[ho,resolve,invoke,builtin,cq,cr,Result.andThen_ok,AA,Ae,Ag,hs,hx,hr];exact hK _ _ (h v' w' h2 h3 hd h5)
end
def cells_one {w:bn}{v:bk}{t:b7}:(w.alloc (bo #[v] t)).cell? ((⟨w.heap.size,0,a8⟩:cE).add 0)=bh v:=by
 rw[bA,yN _ _ _ _ (by simp)];rfl
def wn (w:bn){base:Nat}(hb:base<=w.heap.size)(x:Int):(w.alloc (bo #[a7 bc x] 3)).ownsRow base 3 1 (.slice (bh ⟨w.heap.size,0,a8⟩) 1 1) 1 [a7 bc x] :=
 ⟨rfl,.inr ⟨w.heap.size,1,_,rfl,hb,heap_alloc_new _ _,yL _,by unfold maxLen;simp,rfl,rfl⟩⟩
def wv (l:List Int):∀y∈l.map (a7 bc),y.oneCell'=true:=λy hy=>by
 obtain⟨x,_,rfl⟩:=zu.1 hy;rfl
def Qz {wr w2 w3:bn}{b1 b2:Nat}{v vr v' u:bk}{L R:List (List Int)}{xs rs:List bk}{l:List Int}(ho:Ce wr b1 v L xs)(hr:Ce wr b2 vr R rs)(hap:∀g,vr.ownBlock=bh g->bh g≠v.ownBlock)
  (g2:Gr wr w2) (hu:w2.ownsRow wr.heap.size 3 1 u l.length (l.map (a7 bc))) (hb1:b1<=wr.heap.size) (hg:(w2.alloc (bo #[u] 22)).grownBy w3 v.ownBlock) (hown:w3.ownsRow b1 22 1 v' (L.length+1) (xs++[u])) (hd:(w2.alloc (bo #[u] 22)).drawn<=w3.drawn) (hv:v'.ownBlock=v.ownBlock\/v'.ownBlock=bh (w2.heap.size+1)) :
  Ce w3 b1 v' (L++[l]) (xs++[u])/\Ce w3 b2 vr R rs/\(∀g,vr.ownBlock=bh g->bh g≠v'.ownBlock):=by
 have Ut:=ho.gr g2;have hr2:=hr.gr g2;refine⟨Ut.push (Dp hu hb1) (λb hb=>heap_alloc_old _ _ hb) (by simp) hg rfl hown,(hr2.gr ((Gr.refl _).alloc _)).grow (al Ut.row λg _ hl=>heap_alloc_old _ _ hl) hap hg,λg EE e=>?_⟩;rcases hv with hv|hv
 .exact hap g EE (e.trans hv)
 .have h1:=(hr2.row.lt g EE).2;rw[hv] at e;have e2:g=w2.heap.size+1:=by injection e
  omega
def sd (n k:Nat):[[]]++(subs n k).tail=subs n k:=by cases k<;>rfl
def se {n j:Nat}(hj:j<n):(subs n (n-j)).tail=(subs n (n-j-1)).map ((j:Int)::·)++(subs n (n-j-1)).tail:=by
 obtain⟨k,hk⟩:∃k,n-j=k+1:=⟨n-j-1,by omega⟩;rw[hk];show(subs n k).map (((n-(k+1):Nat):Int)::·)++_=_;rw[show n-(k+1)=j by omega]
 rfl
def m7:∀n,n<=4->∀k,k<=n->(subs n k).length<=16:=by decide
def ud (n k:Nat):∀x∈subs n k,x.length<=k:=by
 induction k with
 |zero=>intro x hx;simp[subs] at hx;simp[hx]
 |succ k ih =>
  intro x hx;simp only[subs,yT,zJ,zu] at hx;rcases hx with rfl|⟨y,hy,rfl⟩|hx
  .simp
  .have:=ih y hy;simp;omega
  .have:=ih x (List.mem_of_mem_tail hx);omega
def _root_.Go.Sq.Ce.at_ {w:bn}{base g m c:Nat}{R:List (List Int)}{rs:List bk}(h:Ce w base (.slice (bh ⟨g,0,a8⟩) m c) R rs){q:Nat}(hq:q<R.length):∃A k,w.cell? ⟨g,q,a8⟩=bh (a6 A R[q].length k)/\w.ownsRow base 3 1 (a6 A R[q].length k) R[q].length (R[q].map (a7 bc)):=by
 obtain⟨y,h1,h2⟩:=h.cells q _ (yM hq);obtain⟨A,k,rfl⟩:=DR h2;have:=h.row.cells (g:=g) rfl q _ h1;rw[bA,yZ] at this;exact⟨A,k,this,h2⟩
def _root_.Go.Sq.Ce.form {w:bn}{base:Nat}{v:bk}{R:List (List Int)}{rs:List bk}(h:Ce w base v R rs)(hn:0<R.length):∃g c,v=.slice (bh ⟨g,0,a8⟩) R.length c/\base<=g/\g<w.heap.size:=by
 rcases h.row.2 with⟨_,h0⟩|⟨g,cap,cur,hv,hb,hg,_⟩
 .omega
 .exact⟨g,cap,hv,hb,(yK.1 hg).1⟩
structure DF (w:bn)(base:Nat)(v:bk)(L:List (List (List Int)))(xs:List bk):Prop where
 row:w.ownsRow base 26 1 v L.length xs
 cells:∀(i:Nat) (ls:List (List Int)),L[i]?=bh ls->∃u ys,xs[i]?=bh u/\Ce w base u ls ys
def DF.nil (w:bn)(base:Nat):DF w base (.slice a8 0 0) [] []:=⟨zF _ _ _ _,λi l h=>by simp at h⟩
def DF.gr {w w':bn}{base:Nat}{v:bk}{L:List (List (List Int))}{xs:List bk}(h:DF w base v L xs)(hg:Gr w w'):DF w' base v L xs :=
 ⟨al h.row λg _ hl=>hg.below.block g hl,λi l hi=>by
  obtain⟨u,ys,h1,h2⟩:=h.cells i l hi
  exact⟨u,ys,h1,h2.gr hg⟩⟩
def Ce.past {w w':bn}{b1 b2 n s:Nat}{e:b7}{u v:bk}{ls:List (List Int)}{rs xs:List bk}(h22:(22:b7)≠e)(h3:(3:b7)≠e)(h:Ce w b1 u ls rs)(hv:w.ownsRow b2 e s v n xs)(hg:w.grownBy w' v.ownBlock):Ce w' b1 u ls rs :=
 ⟨al h.row λg hu hl=>hg.block g hl (be h22 h.row hv hu),λi l hi=>by
  obtain⟨y,h1,h2⟩:=h.cells i l hi
  exact⟨y,h1,al h2 λg hu hl=>hg.block g hl (be h3 h2 hv hu)⟩⟩
def DF.form {w:bn}{base:Nat}{v:bk}{L:List (List (List Int))}{xs:List bk}(h:DF w base v L xs)(hn:0<L.length):∃g c,v=.slice (bh ⟨g,0,a8⟩) L.length c/\base<=g/\g<w.heap.size:=by
 rcases h.row.2 with⟨_,h0⟩|⟨g,cap,cur,hv,hb,hg,_⟩
 .omega
 .exact⟨g,cap,hv,hb,(yK.1 hg).1⟩
def _root_.Go.Sq.DF.at_ {w:bn}{base g m c:Nat}{R:List (List (List Int))}{rs:List bk}(h:DF w base (.slice (bh ⟨g,0,a8⟩) m c) R rs){q:Nat}(hq:q<R.length):∃A k ys,w.cell? ⟨g,q,a8⟩=bh (a6 A R[q].length k)/\Ce w base (a6 A R[q].length k) R[q] ys:=by
 obtain⟨y,ys,h1,h2⟩:=h.cells q _ (yM hq);obtain⟨A,k,rfl⟩:=DR h2.row;have:=h.row.cells (g:=g) rfl q _ h1;rw[bA,yZ] at this;exact⟨A,k,ys,this,h2⟩
def BX:(B1.info? 26).map (λi=>(i.zero,i.size,i.bytes))=bh (bh (.slice a8 0 0),1,24):=by
 rw[Br];kernel_rfl
open Go.Ct
section
variable {w W:bn} {b:Nat} {x y z:Int}
def adO (h:w.heap[b]?=bh (bo #[a7 bc 0,a7 bc 0,a7 bc 0] 42)\/w.heap[b]?=bh (bo #[a7 bc x,a7 bc y,a7 bc z] 42)):((∃v,w.cell? ⟨b,0,a8⟩=bh v)/\w.frozen? ⟨b,0,a8⟩=bD)/\((∃v,w.cell? ⟨b,1,a8⟩=bh v)/\w.frozen? ⟨b,1,a8⟩=bD)/\(∃v,w.cell? ⟨b,2,a8⟩=bh v)/\w.frozen? ⟨b,2,a8⟩=false:=by
 rcases h with h|h<;>exact⟨⟨⟨_,(cell_of_heap h 0).1⟩,(cell_of_heap h 0).2⟩,⟨⟨_,(cell_of_heap h 1).1⟩,(cell_of_heap h 1).2⟩,⟨_,(cell_of_heap h 2).1⟩,(cell_of_heap h 2).2⟩
def fG (h:w.heap[b]?=bh (bo #[a7 bc 0,a7 bc 0,a7 bc 0] 42)\/w.heap[b]?=bh (bo #[a7 bc x,a7 bc y,a7 bc z] 42)):(((w.setCell ⟨b,0,a8⟩ (a7 bc x)).setCell ⟨b,1,a8⟩ (a7 bc y)).setCell ⟨b,2,a8⟩ (a7 bc z)).heap[b]?=bh (bo #[a7 bc x,a7 bc y,a7 bc z] 42):=by
 rcases h with h|h<;>exact Cz (i:=2) (Cz (i:=1) (Cz (i:=0) h))
def m8 (hb:W.heap.size<=b)(h:w.heap[b]?=bh (bo #[a7 bc 0,a7 bc 0,a7 bc 0] 42)\/w.heap[b]?=bh (bo #[a7 bc x,a7 bc y,a7 bc z] 42)):RB W (bo #[a7 bc 0,a7 bc 0,a7 bc 0] 42) (bo #[a7 bc x,a7 bc y,a7 bc z] 42) w (((w.setCell ⟨b,0,a8⟩ (a7 bc x)).setCell ⟨b,1,a8⟩ (a7 bc y)).setCell ⟨b,2,a8⟩ (a7 bc z)):=by
 have hs:∀b',b'≠b->(((w.setCell ⟨b,0,a8⟩ (a7 bc x)).setCell ⟨b,1,a8⟩ (a7 bc y)).setCell ⟨b,2,a8⟩ (a7 bc z)).heap[b']?=w.heap[b']?:=λb' h=>(yU _ _ _ _ h).trans ((yU _ _ _ _ h).trans (yU _ _ _ _ h));refine⟨rfl,rfl,rfl,yL _,by simp[World.setCell],λb' hb'=>?_⟩;by_cases e:b'=b
 .subst e;rcases h with h|h
  .exact .inr ⟨hb,h,fG (.inl h)⟩
  .exact .inl ((fG (.inr h)).trans h.symm)
 .exact .inl (hs b' e)
end
def wy (a b c a' b' c':Int)(w:bn):(Op.equalIn 10000 42 (.agg #[a7 bc a,a7 bc b,a7 bc c]) (.agg #[a7 bc a',a7 bc b',a7 bc c'])).run B1 w=.ok (a==a'&&(b==b'&&c==c')) w:=by
 rw[run_equalIn_agg w 9999 42 _ _ (by kernel_rfl) (by kernel_rfl)];have e:(B1.fieldsOf 42).toList=[{ name := "Kind",type:=3,offset:=0,embedded:=bD,tag := "",pkgPath := "",byteOffset:=0 },{ name := "Night",type:=3,offset:=1,embedded:=bD,tag := "",pkgPath := "",byteOffset:=8 },{ name := "Herder",type:=3,offset:=2,embedded:=bD,tag := "",pkgPath := "",byteOffset:=16 }]:=by kernel_rfl
 rw[e];have hu:B1.underlying 3=bh (.int bc):=(Sq.underlying 3).trans Tryz.underlying3;simp[Op.eqFields,go_sem];by_cases h1:a=a'<;>by_cases h2:b=b'<;>by_cases h3:c=c'<;>simp[h1,h2,h3]
def Eb.keep {w w':bn}{base:Nat}{c:Cc}{vN vH:bk}{xs:List bk}(h:Eb w base c vN vH xs)(hk:∀b,base<=b->b<w.heap.size->w'.heap[b]?=w.heap[b]?):Eb w' base c vN vH xs :=
 ⟨al h.B3 λg hg hl=>hk g (h.B3.lt g hg).1 hl,al h.own λg hg hl=>hk g (h.own.lt g hg).1 hl,λi x hx=>by
  obtain⟨y,h1,h2⟩:=h.Jf i x hx
  exact⟨y,h1,al h2 λg hg hl=>hk g (h2.lt g hg).1 hl⟩⟩
def K_T {K:Act->bn->Prop}{l:List bk}{ds:List Deferred}{w:bn}(n:Nat)(hn:l.length=n)(h:∀u:Nat->bk,(∀i,u i=l[i]?.getD undef)->K ⟨T n u,ds⟩ w):K ⟨l.toArray,ds⟩ w:=by
 rw[xF,hn];exact h _ λ_=>rfl
def m9 {x:Nat}(v:Nat)(hv:v<4):((v:Int)∈wl x)↔x.testBit v=true:=by
 constructor
 .intro h;obtain⟨n,e,_,h⟩:=Kg h;obtain rfl:v=n:=by omega
  exact h
 .intro h;show _∈Cr x.testBit 4;exact Ea.2 ⟨v,rfl,hv,h⟩
def qp (r:CR)(n:Nat)(hn:n<4)(m:Nat):∀k,k<=m->Fi (CG r m) k n=((EY r n k:Nat):Int):=by
 intro k
 induction k with
 |zero=>intro _;rfl
 |succ k ih =>
  intro hk;have e:(CG r m)[k]?.getD []=wl (r k):=by
   rw[yM (by rw[CZ];omega)];simp[CG]
  show Fi (CG r m) k n+(if(n:Int)∈(CG r m)[k]?.getD [] then 1 else 0)=_;rw[ih (by omega),e];show _=((EY r n k+(if(r k).testBit n then 1 else 0):Nat):Int);by_cases hb:(r k).testBit n=b8
  .rw[if_pos ((m9 n hn).2 hb),if_pos hb];omega
  .rw[if_neg λh=>hb ((m9 n hn).1 h),if_neg hb];omega
def _root_.Go.Sq.Da.NA {w:bn}{B:Nat}{A:Option cE}{r:CR}{m:Nat}(h:Da w B A (CG r m))(k:Nat)(hk:k<=m:=by omega):Da w B A (CG r k):=λhne=>by
 have IG:0<k:=by
  rcases zp k with h0|h0
  .subst h0;exact absurd rfl hne
  .exact h0
 obtain⟨b,o,e,hb,hc⟩:=h (λe=>by have:=congrArg List.length e;rw[CZ] at this;simp at this;omega);refine⟨b,o,e,hb,λi l hi=>hc i l ?_⟩;have Uv:=(ze.1 hi).1;rw[CZ] at Uv;rw[<-hi];simp[CG,zL,Am Uv,Am (yO Uv hk)]
def IM (c:Cc)(r:CR)(k:Nat):Int×Int×Int:=if(Ci c r k).1=0 then(0,0,0) else Ci c r k
def je (nA hA gA:Option cE)(nc hc gc:Nat)(c:Cc)(r:CR)(k:Nat)(w:bn)(B:Nat)(hB:B<=w.heap.size)(hn:RI w B nA c.B3)(hh:Db w B hA c.B2)(hg:Da w B gA (CG r (k+1)))(Dx:c.Ok)(hk:k<c.B3.length)(hx:∀i,c.has (r i))(OT:k<gc) :
  cF B1 37 #[Cj nA hA c nc hc,a6 gA (k+1) gc] w λe w'=>e=.returned (.tuple #[Dc (IM c r k),.bool (decide ((Ci c r k).1≠0))])/\Gr w w':=by
 unfold Cj;obtain⟨W0,hW0⟩:∃W0:bn,W0=(w.alloc (bo #[a6 nA c.B3.length nc,a6 hA c.B2.length hc] 25)).alloc (bo #[a7 bc 0,a7 bc 0,a7 bc 0] 42):=⟨_,rfl⟩;have hg0:Gr w W0:=hW0▸((Gr.refl w).alloc _).alloc _;have hz0:W0.heap.size=w.heap.size+2:=by rw[hW0];simp
 have HW:=yJ hW0;have Du:=yJ hg0;have hc0:W0.cell? ⟨w.heap.size,0,a8⟩=bh (a6 nA c.B3.length nc)/\W0.cell? ⟨w.heap.size,1,a8⟩=bh (a6 hA c.B2.length hc):=by
  rw[hW0,za _ _ _ (by simp),yN _ _ _ _ rfl,za _ _ _ (by simp),yN _ _ _ _ rfl];exact⟨rfl,rfl⟩
 have IG:∀b o,b<B->W0.cell? ⟨b,o,a8⟩=w.cell? ⟨b,o,a8⟩:=λb o hb=>hg0.cell (yO hb hB);have hP:DW W0 W0.heap.size w.heap.size c nA hA nc hc:=⟨by omega,hc0.1,hc0.2,(hn.gr hB hg0).more (by omega),(hh.keep IG).more (by omega)⟩;have HP:=yJ hP;have hG:=(hg.gr hB hg0).more (B':=W0.heap.size) (by omega);obtain⟨gb,go,rfl,hbg,_⟩:=id (hG (by simp[CG]));have XC:Hid (∀V,Gr W0 V->Da V V.heap.size (bh ⟨gb,go,a8⟩) (CG r (k+1))):=yJ λV hV=>(hG.gr (yL _) hV).more hV.size
 have Je:Hid (∀V,Gr W0 V->∀i,i<=k->∃lA lc,V.cell? ⟨gb,go+i,a8⟩=bh (a6 lA (wl (r i)).length lc)/\RI V V.heap.size lA (wl (r i))):=yJ λV hV i hi=>by
  obtain⟨b,o,e,hb,hc⟩:=XC.out V hV (by simp[CG]);cases e;exact hc i _ (by simp[CG,Am (show i<k+1 by omega)])
 have HBG:Hid (∀V,Gr W0 V->gb<V.heap.size):=yJ λV hV=>yO hbg hV.size;have Hd:Hid (∀w2,Gr W0 w2->(w2.cell? ⟨w.heap.size+1,0,a8⟩=bh (a7 bc 0)/\w2.cell? ⟨w.heap.size+1,1,a8⟩=bh (a7 bc 0)/\w2.cell? ⟨w.heap.size+1,2,a8⟩=bh (a7 bc 0))/\w2.frozen? ⟨w.heap.size+1,0,a8⟩=bD/\w2.frozen? ⟨w.heap.size+1,1,a8⟩=bD/\w2.frozen? ⟨w.heap.size+1,2,a8⟩=bD):=yJ λw2 hg=>by
  have e:∀o,w2.cell? ⟨w.heap.size+1,o,a8⟩=(#[a7 bc 0,a7 bc 0,a7 bc 0]:Array bk)[o]?/\w2.frozen? ⟨w.heap.size+1,o,a8⟩=false:=λo=>by
   rw[hg.cell (by show w.heap.size+1<_;omega),hg.frozen (by show w.heap.size+1<_;omega),hW0,yN _ _ _ _ (by simp),zD _ _ _ _ (by simp)];exact⟨rfl,rfl⟩
  exact⟨⟨(e 0).1,(e 1).1,(e 2).1⟩,(e 0).2,(e 1).2,(e 2).2⟩
 have HX:=yJ hx;have FQ:=yJ Dx;have Mr:=Dx.n5;have h4:=Dx.h4;clear hW0 hg0 hc0 IG hP hG hn hh hg hx Dx;go_enter Sq.func37,Tryz.ntmps37;go_wp2;rw[<-HW.out];go_loopw [7] (λi wr=>∃q:Nat,q<=3/\i=a7 bc ((q+1:Nat):Int)/\Gr W0 wr/\∀j,j<q->breaks c r k j=a8) (λi _=>4-(bw i).toNat)
 case atStart=>exact⟨0,by omega,rfl,.refl _,oe _⟩
 case round =>
  obtain⟨q,hq3,rfl,hgr,hb⟩:=hrel;have E6:=yJ hgr;have HB:=yJ hb;have hz:=hgr.size;clear hgr hb;obtain rfl|rfl|rfl|rfl:q=0\/q=1\/q=2\/q=3:=by omega
  ·
   clear hz;rw[show((0+1:Nat):Int)=1 from rfl];go_wp2;go_loopw [8] (λi wr=>∃j:Nat,j<=(wl (r k)).length/\i=a7 bc j/\Gr W0 wr/\((wl (r k)).take j).find? (λh=>Fo c r k 0 h.toNat)=a8) (λi _=>(wl (r k)).length-(bw i).toNat)
   case atStart=>exact⟨0,by omega,rfl,E6.out,by simp⟩
   case round =>
    obtain⟨j,hj,rfl,hgr,hnone⟩:=hrel;obtain⟨wq,rfl⟩:∃wq,wq=wr:=⟨_,rfl⟩;have HN:=yJ hnone;have Ls:=yJ hgr;have G5:=yJ (HP.out.on hgr);obtain⟨lA,lc,hrow,Em⟩:=Je.out wq hgr k (by omega);have hbg:=HBG.out wq hgr;have hz1:=hgr.size;have Gb:=bF (r k);clear hnone;by_cases hlt:j<(wl (r k)).length
    .obtain⟨bl,ol,rfl,hbl,hcell⟩:=Em.at_ hlt;obtain⟨n,hn,G6,LK,ZC⟩:=Kh (HX.out k) hlt;rw[hn] at hcell;have HE:=yJ hn;have hc0:=G5.out.c0;have hc1:=G5.out.c1;have Jj:=G5.out.lt;obtain⟨hb2,Ut,e2,Ib,hh⟩:=G5.out.DI.at_ G6;obtain⟨-,-,Mq,oA,oc,Fv,VX⟩:=hh;subst e2;clear hn Em hgr;have Nl:=yJ (jw oA oc (c.h n).off (k:Int) wq wq.heap.size VX (yR (FQ.out.off _ (c.Gw G6)).1 (by omega)))
     have Mo:decide ((k:Int)∈(c.h n).off)=Fo c r k 0 n:=rfl;rw[Mo] at Nl;cases hq:Fo c r k 0 n with
     |true =>
      rw[hq] at Nl;have HF:=yJ (show breaks c r k 0=bh ((n:Nat):Int) by have:=dg hlt HN.out (by rw[HE.out];exact hq);rw[HE.out] at this;exact this);clear hq Mo;go_wp2_with fail;refine Nl.out.mono ?_;rintro e w' ⟨rfl,rfl⟩;obtain⟨⟨Iw,hr1,hr2⟩,Gx,PK,hf2⟩:=Hd.out wq Ls.out;have hz3:=Ls.out.size;go_wp2;obtain⟨s0,s1,s2⟩:=JX Iw hr1 hr2;have HL:=yJ (show Ci c r k=(1,(k:Int),(n:Int)) by unfold Ci;rw[HF.out])
      refine bq (v:=.tuple #[Dc (1,k,n),.bool b8]) (by simp[results,br,go_sem,Dc,s0,s1,s2]) rfl ⟨?_,?_⟩
      .rw[show IM c r k=(1,(k:Int),(n:Int)) by unfold IM;rw[HL.out];rfl,HL.out];rfl
      .exact(((Du.out.trans Ls.out).setCell (zt _) _).setCell (zt _) _).setCell (zt _) _
     |false =>
      rw[hq] at Nl;have HF:=yJ (cG hlt HN.out (by rw[HE.out];exact hq));clear hq Mo;go_wp2_with fail;refine Nl.out.mono ?_;rintro e w' ⟨rfl,rfl⟩;go_wp2;go_roundw
      case rel=>exact⟨j+1,by omega,by go_num,Ls.out,HF.out⟩
      case measure=>simp[Proofs.intOf];omega
    .have HF:=yJ (show breaks c r k 0=a8 by have:=HN.out;rw[zi (by omega)] at this;exact this);clear HN;go_wp2;go_roundw
     case rel=>exact⟨1,by omega,by go_num,Ls.out,λj hj=>by
      rcases zq (zG hj) with h|rfl
      .exact HB.out j h
      .exact HF.out⟩
     case measure=>simp[Proofs.intOf]
  ·
   clear hz;rw[show((1+1:Nat):Int)=2 from rfl];go_wp2;go_loopw [8] (λi wr=>∃j:Nat,j<=(wl (r k)).length/\i=a7 bc j/\Gr W0 wr/\((wl (r k)).take j).find? (λh=>Fo c r k 1 h.toNat)=a8) (λi _=>(wl (r k)).length-(bw i).toNat)
   case atStart=>exact⟨0,by omega,rfl,E6.out,by simp⟩
   case round =>
    obtain⟨j,hj,rfl,hgr,hnone⟩:=hrel;obtain⟨wq,rfl⟩:∃wq,wq=wr:=⟨_,rfl⟩;have HN:=yJ hnone;have Ls:=yJ hgr;have G5:=yJ (HP.out.on hgr);obtain⟨lA,lc,hrow,Em⟩:=Je.out wq hgr k (by omega);have hbg:=HBG.out wq hgr;have hz1:=hgr.size;have Gb:=bF (r k);clear hnone;by_cases hlt:j<(wl (r k)).length
    .obtain⟨bl,ol,rfl,hbl,hcell⟩:=Em.at_ hlt;obtain⟨n,hn,G6,LK,ZC⟩:=Kh (HX.out k) hlt;rw[hn] at hcell;have HE:=yJ hn;have hc0:=G5.out.c0;have hc1:=G5.out.c1;have Jj:=G5.out.lt;obtain⟨hb2,Ut,e2,Ib,hh⟩:=G5.out.DI.at_ G6;obtain⟨-,-,Mq,oA,oc,Fv,VX⟩:=hh;subst e2;clear hn Em hgr;by_cases IG:k=0
     .have hq:Fo c r k 1 n=false:=by subst IG;rfl
      have HF:=yJ (cG hlt HN.out (by rw[HE.out];exact hq));subst IG;rw[Nat.add_zero] at hrow;go_wp2;go_roundw
      case rel=>exact⟨j+1,by omega,by go_num,Ls.out,HF.out⟩
      case measure=>simp[Proofs.intOf];omega
     obtain⟨pA,pc,hprow,adQ⟩:=Je.out wq Ls.out (k-1) (by omega);have hwlp:=bF (r (k-1));have Nl:=yJ (jw pA pc (wl (r (k-1))) (n:Int) wq wq.heap.size adQ (by omega));have Mo:decide ((n:Int)∈wl (r (k-1)))=Fo c r k 1 n:=by
      show _=(decide (0<k)&&(r (k-1)).testBit n);rw[decide_eq_true (by omega:0<k),Ap,Bool.eq_iff_iff,decide_eq_true_iff];exact m9 n LK
     rw[Mo] at Nl;have hks:0<k:=by omega
     have hke:(k:Int)-1=((k-1:Nat):Int):=by omega
     clear IG adQ;cases hq:Fo c r k 1 n with
     |true =>
      rw[hq] at Nl;have HF:=yJ (show breaks c r k 1=bh ((n:Nat):Int) by have:=dg hlt HN.out (by rw[HE.out];exact hq);rw[HE.out] at this;exact this);clear hq Mo;go_wp2_with fail;refine Nl.out.mono ?_;rintro e w' ⟨rfl,rfl⟩;obtain⟨⟨Iw,hr1,hr2⟩,Gx,PK,hf2⟩:=Hd.out wq Ls.out;have hz3:=Ls.out.size;go_wp2;obtain⟨s0,s1,s2⟩:=JX Iw hr1 hr2;have HL:=yJ (show Ci c r k=(2,(k:Int),(n:Int)) by unfold Ci;rw[HB.out 0 (by omega)];rw[HF.out])
      refine bq (v:=.tuple #[Dc (2,k,n),.bool b8]) (by simp[results,br,go_sem,Dc,s0,s1,s2]) rfl ⟨?_,?_⟩
      .rw[show IM c r k=(2,(k:Int),(n:Int)) by unfold IM;rw[HL.out];rfl,HL.out];rfl
      .exact(((Du.out.trans Ls.out).setCell (zt _) _).setCell (zt _) _).setCell (zt _) _
     |false =>
      rw[hq] at Nl;have HF:=yJ (cG hlt HN.out (by rw[HE.out];exact hq));clear hq Mo;go_wp2_with fail;refine Nl.out.mono ?_;rintro e w' ⟨rfl,rfl⟩;go_wp2;go_roundw
      case rel=>exact⟨j+1,by omega,by go_num,Ls.out,HF.out⟩
      case measure=>simp[Proofs.intOf];omega
    .have HF:=yJ (show breaks c r k 1=a8 by have:=HN.out;rw[zi (by omega)] at this;exact this);clear HN;go_wp2;go_roundw
     case rel=>exact⟨2,by omega,by go_num,Ls.out,λj hj=>by
      rcases zq (zG hj) with h|rfl
      .exact HB.out j h
      .exact HF.out⟩
     case measure=>simp[Proofs.intOf]
  ·
   clear hz;rw[show((2+1:Nat):Int)=3 from rfl];go_wp2;go_loopw [8] (λi wr=>∃j:Nat,j<=(wl (r k)).length/\i=a7 bc j/\Gr W0 wr/\((wl (r k)).take j).find? (λh=>Fo c r k 2 h.toNat)=a8) (λi _=>(wl (r k)).length-(bw i).toNat)
   case atStart=>exact⟨0,by omega,rfl,E6.out,by simp⟩
   case round =>
    obtain⟨j,hj,rfl,hgr,hnone⟩:=hrel;obtain⟨wq,rfl⟩:∃wq,wq=wr:=⟨_,rfl⟩;have HN:=yJ hnone;have Ls:=yJ hgr;have G5:=yJ (HP.out.on hgr);obtain⟨lA,lc,hrow,Em⟩:=Je.out wq hgr k (by omega);have hbg:=HBG.out wq hgr;have hz1:=hgr.size;have Gb:=bF (r k);clear hnone;by_cases hlt:j<(wl (r k)).length
    .obtain⟨bl,ol,rfl,hbl,hcell⟩:=Em.at_ hlt;obtain⟨n,hn,G6,LK,ZC⟩:=Kh (HX.out k) hlt;rw[hn] at hcell;have HE:=yJ hn;have hc0:=G5.out.c0;have hc1:=G5.out.c1;have Jj:=G5.out.lt;obtain⟨hb2,Ut,e2,Ib,hh⟩:=G5.out.DI.at_ G6;obtain⟨-,-,Mq,oA,oc,Fv,VX⟩:=hh;subst e2;clear hn Em hgr
     have ZI:=yJ λV (hV:Gr wq V)=>qe (bh ⟨gb,go,a8⟩) gc (CG r k) n V V.heap.size ((XC.out V (Ls.out.trans hV)).NA k) (by rw[CZ];omega) (λx hx=>by
      obtain⟨i,_,rfl⟩:=zu.1 hx
      exact yR (bF _) (by omega))
     rw[CZ,qp r n LK k k (yL _)] at ZI;have Mo:decide (((EY r n k:Nat):Int) ≥ (c.h n).most)=Fo c r k 2 n:=rfl;have PD:Hid (∀V,Gr wq V->(V.cell? ⟨w.heap.size,1,a8⟩=bh (.slice (bh ⟨hb2,Ut,a8⟩) c.B2.length hc)/\V.cell? ⟨hb2,Ut+n*4+2,a8⟩=bh (a7 bc (c.h n).most))/\w.heap.size<V.heap.size/\hb2<V.heap.size):=yJ λV hV=>⟨⟨(hV.cell (p:=⟨w.heap.size,1,a8⟩) Jj).trans hc1,(hV.cell (p:=⟨hb2,Ut+n*4+2,a8⟩) Ib).trans Mq⟩,yO Jj hV.size,yO Ib hV.size⟩
     clear Mq Fv VX hc0 hc1;go_wp2;rename_i Uh;refine kO 92 rfl λu2 hu=>?_;refine tZ (hu 1) (hu 2) (hu 6) (hu 9) (by omega) G6 PD ZI λW5 u6 Gg Nx h10=>?_;rw[iC (n:=92) [60,61,62,63,64,65,66,67,68,69,70,71,10] (by kernel_rfl) rfl hu Nx];rw[Mo] at h10;have Hk:=yJ (Ls.out.trans Gg);clear hu Nx Mo ZI PD;refine Uh _ _ ?_;simp only[Af,Bl,AC,AL];cases hq:Fo c r k 2 n with
     |true =>
      rw[hq] at h10;have HF:=yJ (show breaks c r k 2=bh ((n:Nat):Int) by have:=dg hlt HN.out (by rw[HE.out];exact hq);rw[HE.out] at this;exact this);simp only[h10];clear hq h10;obtain⟨⟨Iw,hr1,hr2⟩,Gx,PK,hf2⟩:=Hd.out W5 Hk.out;have hz3:=Hk.out.size;go_wp2;obtain⟨s0,s1,s2⟩:=JX Iw hr1 hr2;have HL:=yJ (show Ci c r k=(3,(k:Int),(n:Int)) by unfold Ci;rw[HB.out 0 (by omega)];rw[HB.out 1 (by omega)];rw[HF.out])
      refine bq (v:=.tuple #[Dc (3,k,n),.bool b8]) (by simp[results,br,go_sem,Dc,s0,s1,s2]) rfl ⟨?_,?_⟩
      .rw[show IM c r k=(3,(k:Int),(n:Int)) by unfold IM;rw[HL.out];rfl,HL.out];rfl
      .exact(((Du.out.trans Hk.out).setCell (zt _) _).setCell (zt _) _).setCell (zt _) _
     |false =>
      rw[hq] at h10;have HF:=yJ (cG hlt HN.out (by rw[HE.out];exact hq));simp only[h10];clear hq h10;go_wp2;go_roundw
      case rel=>exact⟨j+1,by omega,by go_num,Hk.out,HF.out⟩
      case measure=>simp[Proofs.intOf];omega
    .have HF:=yJ (show breaks c r k 2=a8 by have:=HN.out;rw[zi (by omega)] at this;exact this);clear HN;go_wp2;go_roundw
     case rel=>exact⟨3,by omega,by go_num,Ls.out,λj hj=>by
      rcases zq (zG hj) with h|rfl
      .exact HB.out j h
      .exact HF.out⟩
     case measure=>simp[Proofs.intOf]
  ·
   have G5:=yJ (HP.out.on E6.out);obtain⟨nb,no,e0,Ms,He⟩:=G5.out.B3.at_ hk;subst e0;change wr.cell? ⟨nb,no+k,a8⟩=bh (a7 bc (c.need k)) at He;obtain⟨lA,lc,hrow,Em⟩:=Je.out wr E6.out k (by omega);have adR:=HBG.out wr E6.out;have hdl:(Gh c (wl (r k))).sum=c.Dd (r k):=rfl
   have HD:Hid (∀V,Gr wr V->cF B1 80 #[.agg #[.slice (bh ⟨nb,no,a8⟩) c.B3.length nc,a6 hA c.B2.length hc],a6 lA (wl (r k)).length lc] V λe w'=>e=.returned (a7 bc (c.Dd (r k)))/\Gr V w'):=yJ λV hV=>r9 (bh ⟨nb,no,a8⟩) hA lA nc hc lc c (wl (r k)) V V.heap.size (yL _) (HP.out.on (E6.out.trans hV)).DI (Em.on hV) FQ.out (yR (bF _) (by omega)) (λx hx=>by
    obtain⟨n,rfl,_,hb⟩:=Kg hx;have:=gJ (HX.out k) hb
    omega)
   have PD:Hid (∀V,Gr wr V->(V.cell? ⟨w.heap.size,0,a8⟩=bh (.slice (bh ⟨nb,no,a8⟩) c.B3.length nc)/\V.cell? ⟨w.heap.size,1,a8⟩=bh (a6 hA c.B2.length hc)/\V.cell? ⟨gb,go+k,a8⟩=bh (a6 lA (wl (r k)).length lc)/\V.cell? ⟨nb,no+k,a8⟩=bh (a7 bc (c.need k)))/\w.heap.size<V.heap.size/\gb<V.heap.size/\nb<V.heap.size):=yJ λV hV=>by
    have hP:=G5.out.on hV;exact⟨⟨hP.c0,hP.c1,(hV.cell (p:=⟨gb,go+k,a8⟩) adR).trans hrow,(hV.cell (p:=⟨nb,no+k,a8⟩) Ms).trans He⟩,hP.lt,yO adR hV.size,yO Ms hV.size⟩
   have QG:=yJ (show Ci c r k=if c.Dd (r k)<c.need k then(4,(k:Int),-1) else(0,-1,-1) by unfold Ci;rw[HB.out 0 (by omega),HB.out 1 (by omega),HB.out 2 (by omega)]);clear He hrow Em hdl;go_wp2;rename_i Uh;refine kO 92 rfl λu2 hu=>?_;refine t7 (hu 1) (hu 2) (hu 6) hk PD HD λW5 u6 Gg Nx h88=>?_;rw[iC (n:=92) [77,78,79,80,81,82,83,84,85,86,87,88] (by kernel_rfl) rfl hu Nx];have Hk:=yJ (E6.out.trans Gg)
   clear hu Nx PD HD G5;refine Uh _ _ ?_;simp only[Af,Bl,AC,AL];obtain⟨⟨Iw,hr1,hr2⟩,Gx,PK,hf2⟩:=Hd.out W5 Hk.out;have hz3:=Hk.out.size;obtain⟨s0,s1,s2⟩:=JX Iw hr1 hr2;by_cases XM:c.Dd (r k)<c.need k
   .have HL:=yJ (show Ci c r k=(4,(k:Int),-1) by rw[QG.out,if_pos XM]);rw[decide_eq_true XM] at h88;simp only[h88];clear h88 QG;go_wp2;refine bq (v:=.tuple #[Dc (4,k,-1),.bool b8]) (by simp[results,br,go_sem,Dc,s0,s1,s2]) rfl ⟨?_,?_⟩
    .rw[show IM c r k=(4,(k:Int),-1) by unfold IM;rw[HL.out];rfl,HL.out];rfl
    .exact(((Du.out.trans Hk.out).setCell (zt _) _).setCell (zt _) _).setCell (zt _) _
   .have HL:=yJ (show Ci c r k=(0,-1,-1) by rw[QG.out,if_neg XM]);rw[decide_eq_false XM] at h88;simp only[h88];clear h88 QG;go_wp2;refine bq (v:=.tuple #[Dc (0,0,0),.bool bD]) (by simp[results,br,go_sem,Dc,s0,s1,s2]) rfl ⟨?_,?_⟩
    .rw[show IM c r k=(0,0,0) by unfold IM;rw[HL.out];rfl,HL.out];rfl
    .exact(((Du.out.trans Hk.out).setCell (zt _) _).setCell (zt _) _).setCell (zt _) _
def xH {c:Cc}{ls:List (List Int)}(h:Cg c ls=0){i:Nat}{l:List Int}(hi:ls[i]?=bh l):wl (B7 ls i)=l:=by
 have Dx:=Cc.Ok.of (fj h);unfold B7;rw[hi];exact xE (qd ((ja h).2 l (zS hi))) Dx.h4
def sf {c:Cc}{ls:List (List Int)}(hF:Cg c ls=0)(hl:ls.length=c.B3.length):CG (B7 ls) c.B3.length=ls:=by
 refine List.ext_getElem (by rw[CZ,hl]) λi h1 h2=>?_;simp only[CG,List.getElem_map,List.getElem_range];exact xH hF (yM h2)
open Go.Ct (aG dt nT aw lR dW cO fV)
def xI {nA hA:Option cE}{nc hc cb gb go gc n k N m:Nat}{p:Int×Int×Int}{q:Bool}{W:bn}{u:Nat->bk}{Q:Exit->Act->bn->Prop}(h1:u 1=.slice (bh ⟨gb,go,a8⟩) n gc)(h2:u 2=.pointer (bh ⟨cb,0,a8⟩))(h7:u 7=a7 bc (k:Nat))(hk:k<gc)(hk2:k<1048576)
  (HC:Hid (∀V,Gr W V->(V.cell? ⟨cb,0,a8⟩=bh (a6 nA N nc)/\V.cell? ⟨cb,1,a8⟩=bh (a6 hA m hc))/\cb<V.heap.size))
  (HQ:Hid (∀V,Gr W V->cF B1 37 #[.agg #[a6 nA N nc,a6 hA m hc],.slice (bh ⟨gb,go,a8⟩) (k+1) gc] V λe w'=>e=.returned (.tuple #[Dc p,.bool q])/\Gr V w'))
  (hK:∀W' u' b,Gr W W'->(∀t,Fl (Jv 7 cu) t=b8->u' t=u t)->u' 8=.pointer (bh ⟨b,0,a8⟩)->u' 9=.bool q->W.heap.size<=b ->
   (W'.cell? ⟨b,0,a8⟩=bh (a7 bc p.1)/\W'.cell? ⟨b,1,a8⟩=bh (a7 bc p.2.1)/\W'.cell? ⟨b,2,a8⟩=bh (a7 bc p.2.2))->Q .normal ⟨T 35 u',[]⟩ W'):(Code.region 7 (Jv 7 cu) b8).wp B1 Q ⟨T 35 u,[]⟩ W:=by
 refine mV (R:=RB W (bo #[a7 bc 0,a7 bc 0,a7 bc 0] 42) (bo #[a7 bc p.1,a7 bc p.2.1,a7 bc p.2.2] 42)) (m:=12) 10 8 (Qy W (bo #[a7 bc p.1,a7 bc p.2.1,a7 bc p.2.2] 42) 8) mZ oV (by kernel_rfl) (by kernel_rfl) [λv _=>v=.agg #[a6 nA N nc,a6 hA m hc],λv _=>v=.slice (bh ⟨gb,go,a8⟩) n gc,λv _=>v=a7 bc (k:Nat),λv _=>v=a7 bc ((k+1:Nat):Int),λv _=>v=.slice (bh ⟨gb,go,a8⟩) (k+1) gc,λv _=>v=.tuple #[Dc p,.bool q],λv _=>v=.tuple #[Dc p,.bool q],λv _=>v=Dc p,λv _=>v=.bool q,Zk W (bo #[a7 bc 0,a7 bc 0,a7 bc 0] 42) (bo #[a7 bc p.1,a7 bc p.2.1,a7 bc p.2.2] 42),λ_ _=>True,λv _=>v=.bool q] ⟨aa _,aa _,aa _,aa _,aa _,aa _,aa _,aa _,aa _,lE,λ_ _ _ _ h=>h,aa _,trivial⟩ ?_ ⟨⟨⟨⟨⟨⟨⟨⟨⟨⟨⟨⟨trivial,?_⟩,?_⟩,?_⟩,?_⟩,?_⟩,?_⟩,?_⟩,?_⟩,?_⟩,?_⟩,?_⟩,?_⟩ λu w hg hf hv hS=>?_
 .intro u w hg hf hl hd;have f8:=(hd.at_ 9 8);have f30:=(hd.at_ 7 30);obtain⟨b,e8,hb1,hb2⟩:=f8;refine lD (op:=.store 42 (.tmp 8) (.tmp 30)) (t:=0) rfl (((w.setCell ⟨b,0,a8⟩ (a7 bc p.1)).setCell ⟨b,1,a8⟩ (a7 bc p.2.1)).setCell ⟨b,2,a8⟩ (a7 bc p.2.2)) (λev he=>?_) ?_ ⟨trivial,b,e8,hb1,?_⟩
  .have e1:=(he.t 8).trans e8;have e2:=(he.t 30).trans f30;obtain⟨⟨⟨_,d0⟩,f0⟩,⟨⟨_,d1⟩,f1⟩,⟨_,d2⟩,f2⟩:=adO hb2;unfold Dc at e2;clear hf hg hl hd hb2 he hK f30;go_simp
  .exact m8 hb1 hb2
  .exact fG hb2
 .intro _ u w hg hf hl hd;refine aq (op:=.load 25 (.tmp 2)) (t:=25) rfl (λev he=>?_);have e2:=(he.t 2).trans ((hf.at_ 2).trans h2);obtain⟨⟨c0,c1⟩,cl⟩:=HC.out w hg.gr;clear hg hf hl hd he;go_simp
 .intro _ u w hg hf hl hd;exact ai rfl ((hf.at_ 1).trans h1)
 .intro _ u w hg hf hl hd;exact ai rfl ((hf.at_ 7).trans h7)
 .intro _ u w hg hf hl hd;refine aq (op:=.binOp BinOp.add 3 (.tmp 26) (.const (a7 bc 1)) 3) (t:=3) rfl (λev he=>?_);have e26:=((he.t 26).trans (hd.at_ 2 26));have ec:=he.2.1;clear hg hf hl hd he;have hw:IntKind.i64.wrap ((k:Int)+1)=(k:Int)+1:=by simp[IntKind.wrap,IntKind.bits,IntKind.signed];omega
  go_simp
 .intro _ u w hg hf hl hd;refine aq (op:=.slice 26 (.tmp 25) a8 (bh (.tmp 27)) a8) (t:=26) rfl (λev he=>?_);have Ze:=((he.t 25).trans (hd.at_ 1 25));have e27:=((he.t 27).trans (hd.at_ 3 27));clear hg hf hl hd he;have hs:k+1<=gc:=by omega
  go_simp;intro h9;have:=h9 (by omega);omega
 .intro _ u w hg hf hl hd;exact bf rfl Sq.func37 #[.agg #[a6 nA N nc,a6 hA m hc],.slice (bh ⟨gb,go,a8⟩) (k+1) gc] (λev he=>by simp[((he.t 24).trans (hd.at_ 0 24)),((he.t 28).trans (hd.at_ 4 28))]) ((HQ.out w hg.gr).mono λe w' h=>⟨_,h.1,.Dh h.2,rfl⟩)
 .intro _ u w hg hf hl hd;exact ai rfl (hd.at_ 5 29)
 .intro _ u w hg hf hl hd;exact dI rfl (hd.at_ 6 23) rfl rfl
 .intro _ u w hg hf hl hd;exact dI rfl (hd.at_ 6 23) rfl rfl
 .intro _ u w hg hf hl hd;refine aV (op:=.alloc 42) (t:=0) rfl _ (w.alloc (bo #[a7 bc 0,a7 bc 0,a7 bc 0] 42)) (λev he=>?_) (.Dh ((Gr.refl w).alloc _)) ⟨_,rfl,hg.size,.inl (World.alloc_heap_new _ _)⟩;clear hg hf hl hd he;go_simp
 .exact λh=>absurd rfl h
 .intro _ u w hg hf hl hd;exact cD rfl (hd.at_ 8 31)
 .obtain⟨b,e8,hb1,hb2⟩:=hS (by decide);have er:List.range' 12 ((Jv 7 cu).size-12)=[]:=by kernel_rfl
  rw[er];show Q .normal _ _;obtain⟨d0,_⟩:=cell_of_heap hb2 0;obtain⟨d1,_⟩:=cell_of_heap hb2 1;obtain⟨d2,_⟩:=cell_of_heap hb2 2;exact hK _ _ b hg.gr hf e8 (hv.at_ 11 9) hb1 ⟨d0,d1,d2⟩
def qq (nA hA gA:Option cE)(nc hc gc:Nat)(c:Cc)(ls:List (List Int))(w:bn)(B:Nat)(hB:B<=w.heap.size)(hn:RI w B nA c.B3)(hh:Db w B hA c.B2)(hg:Da w B gA ls)(OT:ls.length<=gc)
  (F4:c.B3.length<=4611686018427387904) (hl2:c.B2.length<=4611686018427387904) (DN:∀h∈c.B2,h.off.length<=4611686018427387904) (IP:ls.length<=4611686018427387904) (hl4:∀x∈ls,x.length<=4611686018427387904) :
  cF B1 14 #[Cj nA hA c nc hc,a6 gA ls.length gc] w λe w'=>e=.returned (.tuple #[Dc (KN c ls),a7 bc (Cg c ls)])/\Gr w w':=by
 unfold Cj;obtain⟨W0,hW0⟩:∃W0:bn,W0=(w.alloc (bo #[a6 nA c.B3.length nc,a6 hA c.B2.length hc] 25)).alloc (bo #[a7 bc 0,a7 bc 0,a7 bc 0] 42):=⟨_,rfl⟩;have hg0:Gr w W0:=hW0▸((Gr.refl w).alloc _).alloc _;have hz0:W0.heap.size=w.heap.size+2:=by rw[hW0];simp
 have HW:=yJ hW0;have Du:=yJ hg0;have hc0:W0.cell? ⟨w.heap.size,0,a8⟩=bh (a6 nA c.B3.length nc)/\W0.cell? ⟨w.heap.size,1,a8⟩=bh (a6 hA c.B2.length hc):=by
  rw[hW0,za _ _ _ (by simp),yN _ _ _ _ rfl,za _ _ _ (by simp),yN _ _ _ _ rfl];exact⟨rfl,rfl⟩
 have Hd:Hid (∀w2,Gr W0 w2->(w2.cell? ⟨w.heap.size+1,0,a8⟩=bh (a7 bc 0)/\w2.cell? ⟨w.heap.size+1,1,a8⟩=bh (a7 bc 0)/\w2.cell? ⟨w.heap.size+1,2,a8⟩=bh (a7 bc 0))/\w2.frozen? ⟨w.heap.size+1,0,a8⟩=bD/\w2.frozen? ⟨w.heap.size+1,1,a8⟩=bD/\w2.frozen? ⟨w.heap.size+1,2,a8⟩=bD):=yJ λw2 hg=>by
  have e:∀o,w2.cell? ⟨w.heap.size+1,o,a8⟩=(#[a7 bc 0,a7 bc 0,a7 bc 0]:Array bk)[o]?/\w2.frozen? ⟨w.heap.size+1,o,a8⟩=false:=λo=>by
   rw[hg.cell (by show w.heap.size+1<_;omega),hg.frozen (by show w.heap.size+1<_;omega),hW0,yN _ _ _ _ (by simp),zD _ _ _ _ (by simp)];exact⟨rfl,rfl⟩
  exact⟨⟨(e 0).1,(e 1).1,(e 2).1⟩,(e 0).2,(e 1).2,(e 2).2⟩
 have IG:∀b o,b<B->W0.cell? ⟨b,o,a8⟩=w.cell? ⟨b,o,a8⟩:=λb o hb=>hg0.cell (yO hb hB);have hN:=hn.gr hB hg0;have hH:=hh.keep IG;have hG:=hg.gr hB hg0;have hf:=nV nA hA gA nc hc gc c ls W0 B (by omega) hN hH hG F4 hl2 DN IP hl4;unfold Cj at hf;have HF:=yJ hf;have HP:Hid (DW W0 W0.heap.size w.heap.size c nA hA nc hc):=yJ ⟨by omega,hc0.1,hc0.2,hN.more (by omega),hH.more (by omega)⟩;have Nk:=yJ (hG.more (B':=W0.heap.size) (by omega))
 clear hW0 hg0 hc0 IG hN hH hG hn hh hg hf F4 hl2 DN IP hl4;go_enter Sq.func14,Tryz.ntmps14;go_wp2_with fail;rw[<-HW.out];have hP0:=HP.out.c0;have hP1:=HP.out.c1;have hPl:=HP.out.lt;go_wp2_with fail;refine HF.out.mono ?_;rintro e w1 ⟨rfl,hg1⟩;have DO:=yJ hg1;have hz1:=hg1.size;clear hP0 hP1 hPl hg1 HF;by_cases h0:Cg c ls=0
 .have Ll:=yJ h0;have HE:Hid (KN c ls=dK c (B7 ls) c.B3.length):=yJ (if_pos h0);have FQ:=yJ (Cc.Ok.of (fj h0));have HX:=yJ (eh h0);have J6:=(ja h0).1;have G6:=FQ.out.n1;have Mr:=FQ.out.n5;rw[<-sf h0 J6] at Nk;obtain⟨gb,go,rfl,hbg,_⟩:=id (Nk.out (λe=>by have:=congrArg List.length e;rw[CZ,zb] at this;omega));have hne:(Cg c ls==0)=true:=by simpa using h0
  rw[J6] at OT ⊢;clear h0;go_wp2;go_loopw [7] (λi wr=>∃k:Nat,k<=c.B3.length/\i=a7 bc k/\Gr W0 wr/\∀i,i<k->(Ci c (B7 ls) i).1=0) (λi _=>c.B3.length-(bw i).toNat)
  case atStart=>exact⟨0,by omega,rfl,DO.out,λi hi=>by omega⟩
  case round =>
   obtain⟨k,hk,rfl,hgr,hno⟩:=hrel;have Zl:=yJ hno;have E6:=yJ hgr;have YA:=hgr.size;clear hno;by_cases hlt:k<c.B3.length
   .have GN:=HP.out.on hgr;have HQ:Hid (∀V,Gr wr V->cF B1 37 #[.agg #[a6 nA c.B3.length nc,a6 hA c.B2.length hc],.slice (bh ⟨gb,go,a8⟩) (k+1) gc] V λe w'=>e=.returned (.tuple #[Dc (IM c (B7 ls) k),.bool (decide ((Ci c (B7 ls) k).1≠0))])/\Gr V w'):=yJ λV hV =>
     je nA hA (bh ⟨gb,go,a8⟩) nc hc gc c (B7 ls) k V V.heap.size (yL _) (HP.out.on (hgr.trans hV)).B3 (HP.out.on (hgr.trans hV)).DI (((Nk.out.NA (k+1)).gr (yL _) (hgr.trans hV)).more (hgr.trans hV).size) FQ.out hlt HX.out (by omega)
    have PD:Hid (∀V,Gr wr V->(V.cell? ⟨w.heap.size,0,a8⟩=bh (a6 nA c.B3.length nc)/\V.cell? ⟨w.heap.size,1,a8⟩=bh (a6 hA c.B2.length hc))/\w.heap.size<V.heap.size):=yJ λV hV=>⟨⟨(GN.on hV).c0,(GN.on hV).c1⟩,(GN.on hV).lt⟩;have HST:Hid ((Ci c (B7 ls) k).1≠0->KN c ls=Ci c (B7 ls) k):=yJ λIG=>by
     rw[HE.out];exact jd Zl.out IG hlt
    have HLQ:Hid ((Ci c (B7 ls) k).1≠0->IM c (B7 ls) k=Ci c (B7 ls) k):=yJ λIG=>if_neg IG;have HZ:Hid ((Ci c (B7 ls) k).1=0->∀i,i<k+1->(Ci c (B7 ls) i).1=0):=yJ λh i hi=>by
     rcases zq (zG hi) with h1|rfl
     .exact Zl.out i h1
     .exact h
    clear hgr GN;generalize IM c (B7 ls) k=lq at HQ HLQ;generalize Ci c (B7 ls) k=pp at HQ HST HZ HLQ;go_wp2;rename_i Uh;refine kO 35 rfl λu hu=>?_;refine xI (cb:=w.heap.size) (gb:=gb) (go:=go) (n:=c.B3.length) (gc:=gc) (k:=k) (hu 1) (hu 2) (hu 7) (by omega) (by omega) PD HQ λW5 u5 b Gg Nx e8 e9 hb5 UR=>?_;rw[iC (n:=35) [24,25,26,27,28,29,23,30,31,8,9] (by kernel_rfl) rfl hu Nx]
    have Hk:=yJ (E6.out.trans Gg);clear hu Nx HQ PD hb5;refine Uh _ _ ?_;simp only[Af,Bl,AC,AL];by_cases hp0:pp.1=0
    .have Uw:=yJ (HZ.out hp0);rw[decide_eq_false (by simpa using hp0)] at e9;simp only[e8,e9];clear e8 e9 HZ HST HLQ UR Gg;go_wp2;go_roundw
     case rel=>exact⟨k+1,by omega,by go_num,Hk.out,Uw.out⟩
     case measure=>simp[Proofs.intOf];omega
    .have LL:=yJ (HST.out hp0);rw[HLQ.out hp0] at UR;rw[decide_eq_true hp0] at e9;simp only[e8,e9];obtain⟨⟨Iw,hr1,hr2⟩,Gx,PK,hf2⟩:=Hd.out W5 Hk.out;obtain⟨s0,s1,s2⟩:=JX Iw hr1 hr2;clear e8 e9 HZ HST HLQ Gg hp0;obtain⟨p1,p2,p3⟩:=pp;obtain⟨d0,d1,d2⟩:=UR;dsimp only at d0 d1 d2;have hz3:=Hk.out.size;go_wp2;refine bq (v:=.tuple #[Dc (p1,p2,p3),a7 bc 0]) (by simp[results,bW,go_sem,Dc,s0,s1,s2]) rfl ⟨?_,?_⟩
     .rw[LL.out,Ll.out]
     .exact(((Du.out.trans Hk.out).setCell (zt _) _).setCell (zt _) _).setCell (zt _) _
   .have IE:k=c.B3.length:=by omega
    subst IE;have LL:=yJ (show KN c ls=(0,-1,-1) by rw[HE.out];exact iD Zl.out);obtain⟨⟨Iw,hr1,hr2⟩,Gx,PK,hf2⟩:=Hd.out wr E6.out;obtain⟨s0,s1,s2⟩:=JX Iw hr1 hr2;clear hgr;go_wp2;refine bq (v:=.tuple #[Dc (0,-1,-1),a7 bc 0]) (by simp[results,bW,go_sem,Dc,s0,s1,s2]) rfl ⟨?_,?_⟩
    .rw[LL.out,Ll.out]
    .exact(((Du.out.trans E6.out).setCell (zt _) _).setCell (zt _) _).setCell (zt _) _
 .have HE:Hid (KN c ls=(0,0,0)):=yJ (if_neg h0);have hne:(Cg c ls==0)=false:=by simpa using h0
  obtain⟨⟨Iw,hr1,hr2⟩,Gx,PK,hf2⟩:=Hd.out w1 DO.out;obtain⟨s0,s1,s2⟩:=JX Iw hr1 hr2;go_wp2;refine bq (v:=.tuple #[Dc (0,0,0),a7 bc (Cg c ls)]) (by simp[results,bW,go_sem,Dc,s0,s1,s2]) rfl ⟨?_,?_⟩
  .rw[HE.out]
  .exact(((Du.out.trans DO.out).setCell (zt _) _).setCell (zt _) _).setCell (zt _) _
def na (W:bn)(v:bk)(w:bn):Prop:=∃b,v=.slice (bh ⟨b,0,a8⟩) 0 0/\w.ownsRow W.heap.size 22 1 (.slice (bh ⟨b,0,a8⟩) 0 0) 0 []
def Ui (W:bn)(n:Nat)(xs:List bk)(v:bk)(w:bn):Prop:=w.ownsRow W.heap.size 22 1 v n xs
def VY (W:bn)(x:bk)(v:bk)(w:bn):Prop:=∃b,v=.slice (bh ⟨b,0,a8⟩) 1 1/\w.cell? ⟨b,0,a8⟩=bh x/\W.heap.size<=b/\b<w.heap.size
def cZ {w w':bn}{base n s:Nat}{e:b7}{v:bk}{xs:List bk}(h:w.ownsRow base e s v n xs)(hg:Gr w w'):w'.ownsRow base e s v n xs:=al h λb _ hl=>hg.below.block b hl
def qr (W:bn):IK Gr (na W):=λ_ _ _ hg ⟨b,e,h⟩=>⟨b,e,cZ h hg⟩
def si (W:bn)(n:Nat)(xs:List bk):IK Gr (Ui W n xs):=λ_ _ _ hg h=>cZ h hg
def ue (W:bn)(x:bk):IK Gr (VY W x):=λ_ _ _ hg ⟨b,e,h,h1,h2⟩=>⟨b,e,(hg.cell (p:=⟨b,0,a8⟩) h2).trans h,h1,yO h2 hg.size⟩
def sj {W w:bn}(hg:Gr W w):na W (.slice (bh ⟨w.heap.size,0,a8⟩) 0 0) (w.alloc (bo #[] 22)):=⟨_,rfl,rfl,.inr ⟨w.heap.size,0,#[],rfl,hg.size,heap_alloc_new w _,yL _,zf _,rfl,rfl⟩⟩
def wA {W w:bn}(hg:Gr W w)(x:bk):VY W x (.slice (bh ⟨w.heap.size,0,a8⟩) 1 1) (w.alloc (bo #[x] 22)):=⟨_,rfl,by rw[yN _ _ _ _ (by simp)];rfl,hg.size,by simp⟩
def NB {W w:bn}(b:Nat){bb n:Nat}{v:bk}{xs:List bk}(hg:Gr W w)(h0:w.ownsRow W.heap.size 22 1 (.slice (bh ⟨b,0,a8⟩) 0 0) 0 [])(h:w.ownsRow bb 22 1 v n xs)(hn:n<=1048576) :
  ∃v' w',(bs #[26,26] 26 #[.slice (bh ⟨b,0,a8⟩) 0 0,v]).run B1 w=.ok v' w'/\Gr w w'/\w'.ownsRow W.heap.size 22 1 v' n xs:=by
 have ht:=Sq.underlying26;obtain⟨i0,hi,hz0,hz1,hz2⟩:=b5 By;have hl:=h.1;rcases h.2 with⟨rfl,rfl⟩|⟨g,cap,cur,rfl,h1,h2,h3,h4,h5,h6⟩
 .have e:xs=[]:=zj (by omega);subst e;exact⟨_,w,run_append_owned_none (P:=B1) w W.heap.size 26 26 22 i0 1 ht hi _ 0 [] h0,.refl w,h0⟩
 .rcases zp n with rfl|Ld
  .have e:xs=[]:=zj (by omega);subst e;refine⟨_,w,?_,.refl w,h0⟩;simp[bs,run_underlying ht,sizeOf,typeInfo,hi,Builtin.lenOf,Builtin.firstCells,loadCells,loadCellsFrom,storeCells]
  .have hr := run_append_grow (P := B1) w 26 26 22 i0 _ ht hi hz0 ⟨b, 0, a8⟩ 0 0 [] (by simp) (fun j u hj => by simp at hj) ⟨g, 0, a8⟩ n cap xs (by rw [hz1]; exact hl) (fun j u hj => h.cells (g := g) rfl j u hj) (by omega) (by omega) (by
    rw[hz2];exact growslice_fits (by omega) (by omega))
   refine⟨_,_,hr,(Gr.refl w).drew.alloc _,?_⟩;have GK:=grownCap_ge w (0+n) 0 22;refine⟨hl,.inr ⟨w.heap.size,_,_,by rw[yZ],hg.size,heap_alloc_new w.drew _,by omega,grownCap_le_maxLen w (0+n) 0 22 (by unfold maxLen;omega),?_,?_⟩⟩
   .rw[yZ] at GK ⊢;simp[size_zeroCells,hl];show n+_*1=_;omega
   .simp[hl]
section
variable {w:bn} {o:Oper} {a:Act} {K:Act->bn->Prop} {Q:Exit->Act->bn->Prop}
def wC {t e:b7}(ht:B1.underlying t=bh (.slice e))(he:(B1.info? e).map (λi=>(i.zero,i.size,i.bytes))=bh (bh (.slice a8 0 0),1,24))(s x:Operand)(ho:o.op=.call { callee:=.builtin .append,args:=#[s,x],argTypes:=#[t,t] })(Yl:o.type=t)
  (base:Nat) (v:bk) (n:Nat) (xs:List bk) (hs:a.eval s=v) (hown:w.ownsRow base e 1 v n xs) (ad:cE) (c:Nat) (u:bk) (hx:a.eval x=.slice (bh ad) 1 c) (hc:w.cell? (ad.add 0)=bh u) (h1:u.oneCell'=b8)
  (hn:n<=1048576) (hbase:base<=w.heap.size) (h:∀v' w',w'.ownsRow base e 1 v' (n+1) (xs++[u])->w.grownBy w' v.ownBlock->w.drawn<=w'.drawn->K (a.put o.dst v') w'):Oper.wp B1 o a w K Q:=by
 obtain⟨i0,hi,hz0,hz1,hz2⟩:=b5 he
 obtain⟨v',w',hr,h2,h3,_⟩:=run_append_own (P:=B1) w base t o.type e i0 _ 1 24 ht hi hz0 hz1 hz2 rfl (by decide) v n xs hown ad 1 c [u] rfl (λj y hj=>by
  match j,hj with
  |0,hj=>cases hj;exact hc) (λy hy=>by
  simp only[yT,yQ,or_false] at hy
  subst hy;exact h1) (by unfold maxLen;omega) (by omega) hbase
 have hd:=Go.Ct.EM B1 (bs #[t,t] o.type #[v,.slice (bh ad) 1 c]) w #[];rw[cf,hr] at hd;unfold Oper.wp execOp;simp only[ho,resolve,invoke,builtin,cq,cr,Result.andThen_ok,AA,Ae,Ag,hs,hx,hr];exact h v' w' h2 h3 hd
end
def xJ {A:Option cE}{sg sn sc ln lc k bb n:Nat}{BV:bk}{xs:List bk}{W:bn}{u:Nat->bk}{Q:Exit->Act->bn->Prop}(h1:u 1=BV)(h6:u 6=.slice (bh ⟨sg,0,a8⟩) sn sc)(h7:u 7=a7 bc (k:Nat))(hk:k<sn)(hn:n<=1048576)
  (HB:Hid (∀V,Gr W V->V.ownsRow bb 22 1 BV n xs)) (HC:Hid (∀V,Gr W V->V.cell? ⟨sg,k,a8⟩=bh (a6 A ln lc)/\sg<V.heap.size))
  (hK:∀W' u',Gr W W'->W'.ownsRow W.heap.size 22 1 (u' 8) (n+1) (xs++[a6 A ln lc])->(∀t,Fl (Jv 8 b6) t=b8->u' t=u t)->Q .normal ⟨T 52 u',[]⟩ W'):(Code.region 8 (Jv 8 b6) b8).wp B1 Q ⟨T 52 u,[]⟩ W:=by
 refine dQ (R:=Gr) (m:=8) (by kernel_rfl) [na W,λv _=>v=BV,Ui W n xs,λv _=>v=.slice (bh ⟨sg,0,a8⟩) sn sc,λv _=>v=a7 bc (k:Nat),λv _=>v=.pointer (bh ⟨sg,k,a8⟩),λv _=>v=a6 A ln lc,VY W (a6 A ln lc)] ⟨qr _,aa _,si _ _ _,aa _,aa _,aa _,aa _,ue _ _,trivial⟩ ⟨⟨⟨⟨⟨⟨⟨⟨trivial,?_⟩,?_⟩,?_⟩,?_⟩,?_⟩,?_⟩,?_⟩,?_⟩ λu w hg hf hv=>?_
 .intro u w hg hf hl hd;refine aV (op:=.buildSlice 26 0 #[]) (t:=26) rfl _ (w.alloc (bo #[] 22)) (λev he=>?_) ((Gr.refl w).alloc _) (sj hg);clear hg hf hl hd he;go_simp
 .intro u w hg hf hl hd;exact ai rfl ((hf.at_ 1).trans h1)
 .intro u w hg hf hl hd;obtain⟨b,e1,h0⟩:=(hd.at_ 0 29);obtain⟨v,w9,hr,OH,h9⟩:=NB b hg h0 (HB.out w hg) hn;refine aV (op:=.call { callee:=Callee.builtin b9,args:=#[.tmp 29,.tmp 30],argTypes:=#[26,26] }) (t:=26) rfl v w9 (λev he=>?_) OH h9;have e2:=(he.t 29).trans e1;have e3:=((he.t 30).trans (hd.at_ 1 30));exact jb (by rw[e2,e3];exact hr)
 .intro u w hg hf hl hd;exact ai rfl ((hf.at_ 6).trans h6)
 .intro u w hg hf hl hd;exact ai rfl ((hf.at_ 7).trans h7)
 .intro u w hg hf hl hd;exact aU 1 rfl (hd.at_ 3 32) (hd.at_ 4 33)
 .intro u w hg hf hl hd;obtain⟨k1,l1⟩:=HC.out w hg;exact aS rfl (hd.at_ 5 34) (by assumption)
 .intro u w hg hf hl hd;have e9:=(hd.at_ 6 35);refine aV (op:=.buildSlice 26 1 #[(0,.tmp 35)]) (t:=26) rfl _ (w.alloc (bo #[a6 A ln lc] 22)) (λev he=>?_) ((Gr.refl w).alloc _) (wA hg _);have e2:=((he.t 35).trans (hd.at_ 6 35));clear hg hf hl hd he;go_simp
 .have er:List.range' 8 ((Jv 8 b6).size-8)=[8,9]:=by kernel_rfl
  rw[er];have h31:Ui W n xs (u 31) w:=hv.at_ 2 31;have h36:VY W (a6 A ln lc) (u 36) w:=hv.at_ 7 36;obtain⟨b,e36,c36,_,_⟩:=h36;rw[wpOps_cons];refine lV (d:=bh 37) (op:=.call { callee:=.builtin b9,args:=#[.tmp 31,.tmp 36],argTypes:=#[26,26] }) (t:=26) rfl (by trivial) λo q1 q2 q3=>?_;refine wC (t:=26) (e:=22) Sq.underlying26 By (.tmp 31) (.tmp 36) q2 q3 W.heap.size (u 31) n xs (fX (by decide)) h31 ⟨b,0,a8⟩ 1 (a6 A ln lc) ((fX (by decide)).trans e36) (by rw[bA];exact c36) rfl hn hg.size λv' w' hown hgrow hdr=>?_
  rw[q1,gC,wpOps_cons];refine iB (d:=bh 8) rfl ?_;show Q .normal _ _;have f8:Fl (Jv 8 b6) 8=false:=by kernel_rfl
  have f37:Fl (Jv 8 b6) 37=false:=by kernel_rfl
  refine hK _ _ (hg.grown hgrow hdr λq hq=>(h31.lt q hq).1) ?_ λt ht=>?_
  .rw[show EU (EU u (bh 37) v') (bh 8) (EU u (bh 37) v' 37) 8=v' from(az ..).trans (az ..)];exact hown
  .have e8:t≠8:=λe=>by rw[e,f8] at ht;cases ht
   have e37:t≠37:=λe=>by rw[e,f37] at ht;cases ht
   exact(CU e8).trans ((CU e37).trans (hf t ht))
end Go.Sq
