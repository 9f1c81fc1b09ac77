/- Parts of the proof. -/
import Derived.Test.YtgllajjoinefcaaGreatP08
import Derived.Deep.RegionHeld3
set_option linter.all false
set_option maxHeartbeats 12800000
set_option maxRecDepth 1000000
open Go renaming World->Z,Value->U,TypeId->bc,bodyPost_ret->bn,Operand->cd,Oper->ck,execOp->cq,Addr->cF,Deferred->cU,wpOps_cons->dn,wpOp_mono->ea,Exit->ew,run_underlying->eA,FuncId->e8,info_parts->fu,run_append_own->fx,Calls->fz,Code->fW,Func->gU
open Go.Value renaming int->Y,slice->bh,pointer->bq
open Go.IntKind renaming i64->I,signed->cf,wrap->cA,bits->cE
open Option renaming some->F,none->O
open List renaming range'->bb,range->cK,eq_nil_iff_forall_not_mem->di,nodup_cons->eo,range_eq_range'->ez,filterMap_cons->eC,mem_filterMap->eF,range'_append->eH,mem_range'_1->eV,reverse_cons->e6,range'_succ->e7
open Go.Proofs.Tryz renaming results38->bk
open Bool renaming true->bl,false->bW
open Go.Obj renaming cells->bo
open Go.Region renaming wanted->br,Mode->cw,ready->eT
open Go.Code renaming region->bw
open And renaming intro->cu
open Go.Oper renaming wp->df,upon_value->fo,upon_enter->fq,upon_skip->fA
open Nat renaming lt_trichotomy->dt,lt_or_gt_of_ne->eG,mod_eq_of_lt->e9,strongRecOn->fl,one_mul->gR
open Go.World renaming setCell->dy,cell?->fc
open Go.Sem renaming runT_fst->gg,run_bind->gl,run_pure->gB
open Array renaming getD->Array.LE,setIfInBounds->Array.L
open Eq renaming symm->Eq.LT
open Go renaming underlying->Go.LT
open Go.Addr renaming block->Go.Addr.Lo
open Go.BoundsCode renaming toNat->Go.BoundsCode.L
open Go.Calls renaming mono->Go.Calls.LT
open Go.Code renaming block->Go.Code.Lo,region->Go.Code.L
open Go.Ending renaming returned->Go.Ending.L
open Go.Instr renaming alloc->Go.Instr.Li
open Go.Op renaming alloc->Go.Op.Li
open Go.Program renaming funcs->Go.Program.L,underlying->Go.Program.LT
open Go.RowKit.Below renaming block->Go.RowKit.Below.Lo
open Go.TypeDesc renaming pointer->Go.TypeDesc.S
open Go.Value renaming ownBlock->Go.Value.L,pointer->Go.Value.S
open Go.World renaming alloc->Go.World.Li,cell?->Go.World.L,frozen?->Go.World.H,grownBy->Go.World.O,ownsRow->Go.World.S,setCell->Go.World.LE
open Go.World.grownBy renaming block->Go.World.grownBy.Lo
open Go.World.ownsRow renaming alloc->Go.World.ownsRow.Li
open Int renaming toNat->Int.L
open List renaming contains->List.H,filterMap->List.O,length->List.L,set->List.SS,toArray->List.Li
open Ne renaming symm->Ne.LT
open Option renaming getD->Option.LE,isNone->Option.L
open UInt8 renaming toNat->UInt8.L
namespace Go.Sq
open Go.RowKit
structure CO (w0:Z)(hb B:Nat)(A:Option cF)(cap:Nat)(l:List Int)(M base:Nat)(v:U)(ns:List Int)(W:Z):Prop where
 hand:Hand W hb B A cap l M
 Fy:W.heap[w0.heap.size+1]?=F (bo #[v,.slice O 0 0] 27 (0,0))
 Gf:W.heap[w0.heap.size]?=F (bo #[.slice O 0 0,.slice O 0 0] 27 (0,0))
 LE:W.S base 3 1 v ns.L (ns.map (Y I))
 kt:KT (·=hb) w0 W
 lt:hb<w0.heap.size
 bs:w0.heap.size+2<=base/\base<=W.heap.size
section
variable {w0 W W':Z} {hb B:Nat} {A:Option cF} {cap:Nat} {l:List Int} {M base:Nat} {v:U} {ns:List Int}
def CO.drew (h:CO w0 hb B A cap l M base v ns W):CO w0 hb B A cap l M base v ns W.drew :=
 ⟨h.hand.gr (Gr.refl W).drew,h.Fy,h.Gf,aR h.LE λ_ _ _=>rfl,⟨h.kt.os,h.kt.tape,h.kt.output,CI h.kt.drawn,h.kt.size,h.kt.Lo⟩,h.lt,h.bs⟩
def CO.Li (h:CO w0 hb B A cap l M base v ns W)(o:Obj):CO w0 hb B A cap l M base v ns (W.Li o) :=
 ⟨h.hand.gr ((Gr.refl W).Li o),(ae _ _ (AC.1 h.Fy).1).trans h.Fy,(ae _ _ (AC.1 h.Gf).1).trans h.Gf,h.LE.Li o,h.kt.trans (KT.EF ((Gr.refl W).Li o)),h.lt,by have:=h.bs;simp;omega⟩
def CO.Gb (h:CO w0 hb B A cap l M base v ns W){M':Nat}(hh:Hand W' hb B A cap l M')(k:KT (·=hb) W W'):CO w0 hb B A cap l M' base v ns W' :=
 ⟨hh,(k.Lo _ (AC.1 h.Fy).1 (by have:=h.lt;omega)).trans h.Fy,(k.Lo _ (AC.1 h.Gf).1 (by have:=h.lt;omega)).trans h.Gf,da h.LE (by have:=h.lt;have:=h.bs;omega) k,h.kt.trans k,h.lt,by have:=h.bs;have:=k.size;omega⟩
def Hand.SS {W:Z}{hb B cap N:Nat}{A:Option cF}{l:List Int}(h:Hand W hb B A cap l N){p:cF}(hp:hb<p.Lo)(x:U):Hand (W.LE p x) hb B A cap l N:=by
 obtain⟨n,s,h1,h2⟩:=h.obj;have hB:=h.apart;exact⟨⟨n,s,(AP _ _ _ _ (by omega)).trans h1,h2⟩,h.Md.keep λb o hb'=>AY (AP _ _ _ _ (by show b≠p.Lo;omega)),hB⟩
def KT.SS {w0 W:Z}{hb:Nat}(h:KT (·=hb) w0 W){p:cF}(hp:w0.heap.size<=p.Lo)(x:U):KT (·=hb) w0 (W.LE p x) :=
 ⟨h.os,h.tape,h.output,h.drawn,by have:=h.size;simpa [dy] using this,λb hb' zU=>(AP _ _ _ _ (by omega)).trans (h.Lo b hb' zU)⟩
def CO.more (h:CO w0 hb B A cap l M base v ns W){M':Nat}(hm:M<=M'):CO w0 hb B A cap l M' base v ns W:=⟨h.hand.more hm,h.Fy,h.Gf,h.LE,h.kt,h.lt,h.bs⟩
def CO.push (h:CO w0 hb B A cap l M base v ns W){w6:Z}{o:Obj}{v':U}{z:Int}(zm:w6.S base 3 1 v' (ns++[z]).L ((ns++[z]).map (Y I)))(hg:(W.Li o).O w6 v.L)(hd:(W.Li o).drawn<=w6.drawn) :
  CO w0 hb B A cap l M base v' (ns++[z]) (w6.LE ⟨w0.heap.size+1,0,O⟩ v'):=by
 have zY:=h.lt;have a6:=h.bs;have hq:=(FJ h.LE hg (w0.heap.size+1) (by omega) (AC.1 h.Fy).1).trans h.Fy;have hr:=(FJ h.LE hg w0.heap.size (by omega) (AC.1 h.Gf).1).trans h.Gf;refine⟨(eN h.hand h.LE (by omega) hg).SS (by show hb<w0.heap.size+1;omega) _,?_,(AP _ _ _ _ (by simp)).trans hr,ownsRow_setCell_below zm (by show w0.heap.size+1<base;omega) _,(gC h.kt h.LE (by omega) hg hd).SS (by show _<=w0.heap.size+1;omega) _,zY,a6.1,by have:=gz hg;simp[dy];omega⟩
 exact Eh hq
def yC {W:Z}{K:Nat->Prop}{a b:Int}(hK:K W.heap.size):IU (W.Li (bo #[Y I a,Y I b] 3)) K (F ⟨W.heap.size,0,O⟩) [a,b]:=λ_=>⟨_,0,rfl,hK,λi x hx=>by
 rw[AF _ _ _ _ rfl]
 match i,hx with
 |0,hx=>cases hx;rfl
 |1,hx=>cases hx;rfl⟩
def Aq {W:Z}{K:Nat->Prop}{a:Int}(hK:K W.heap.size):IU (W.Li (bo #[Y I a] 3)) K (F ⟨W.heap.size,0,O⟩) [a]:=λ_=>⟨_,0,rfl,hK,λi x hx=>by
 rw[AF _ _ _ _ rfl]
 match i,hx with
 |0,hx=>cases hx;rfl⟩
def CO.room (h:CO w0 hb B A cap l M base v ns W)(o:Obj):W.heap.size≠hb/\W.heap.size<(W.Li o).heap.size:=by
 have:=h.hand.lt;simp;omega
def CO.cell (h:CO w0 hb B A cap l M base v ns W):W.L ⟨w0.heap.size+1,0,O⟩=F v/\W.H ⟨w0.heap.size+1,0,O⟩=bW/\w0.heap.size+1<W.heap.size:=⟨(DU h.Fy 0).1,(DU h.Fy 0).2,(AC.1 h.Fy).1⟩
def JK {W W':Z}{K K':Nat->Prop}{A:Option cF}{q:List Int}(h:IU W K A q)(hk:∀b,K b->K' b)(hc:∀b o,K b->W'.L ⟨b,o,O⟩=W.L ⟨b,o,O⟩):IU W' K' A q:=λhn=>by
 obtain⟨b,o,e,h1,h2⟩:=h hn;exact⟨b,o,e,hk b h1,λi x hx=>(hc _ _ h1).trans (h2 i x hx)⟩
def Me {W W':Z}{K K':Nat->Prop}{A:Option cF}{q:List EO}(h:Hg W K A q)(hk:∀b,K b->K' b)(hc:∀b o,K b->W'.L ⟨b,o,O⟩=W.L ⟨b,o,O⟩):Hg W' K' A q:=λhn=>by
 obtain⟨b,o,e,h1,h2⟩:=h hn;refine⟨b,o,e,hk b h1,λi x hx=>?_⟩;obtain⟨k0,k1,k2,A',c,k3,k4⟩:=h2 i x hx;exact⟨(hc _ _ h1).trans k0,(hc _ _ h1).trans k1,(hc _ _ h1).trans k2,A',c,(hc _ _ h1).trans k3,JK k4 hk hc⟩
def fV (h:EO)(y:U):List Value:=[Y I h.heads,Y I h.F9,Y I h.most,y]
structure CP (w0:Z)(hb B:Nat)(A:Option cF)(cap:Nat)(l:List Int)(M base:Nat)(v:U)(ns:List Int)(u:U)(hs:List EO)(xs:List U)(W:Z):Prop where
 hand:Hand W hb B A cap l M
 Fy:W.heap[w0.heap.size+1]?=F (bo #[v,u] 27 (0,0))
 Gf:W.heap[w0.heap.size]?=F (bo #[.slice O 0 0,.slice O 0 0] 27 (0,0))
 LE:W.S base 3 1 v ns.L (ns.map (Y I))
 Fg:W.S base 48 4 u hs.L xs
 OA:∀i h,hs[i]?=F h->∃y,(∀j,j<4->xs[i*4+j]?=(fV h y)[j]?)/\W.S base 3 1 y h.off.L (h.off.map (Y I))
 kt:KT (·=hb) w0 W
 lt:hb<w0.heap.size
 bs:w0.heap.size+2<=base/\base<=W.heap.size
variable {u:U} {hs:List EO} {xs:List U}
def CO.cp (h:CO w0 hb B A cap l M base v ns W):CP w0 hb B A cap l M base v ns (.slice O 0 0) [] [] W :=
 ⟨h.hand,h.Fy,h.Gf,h.LE,Bs _ _ _ _,λi h hi=>by simp at hi,h.kt,h.lt,h.bs⟩
def CP.keep (h:CP w0 hb B A cap l M base v ns u hs xs W){M':Nat}(hh:Hand W' hb B A cap l M')(hk:∀b,b<W.heap.size->b≠hb->W'.heap[b]?=W.heap[b]?)(kt:KT (·=hb) w0 W')(hz:W.heap.size<=W'.heap.size):CP w0 hb B A cap l M' base v ns u hs xs W':=by
 have zY:=h.lt;have a6:=h.bs;have ok:∀ {e:bc} {sz n:Nat} {y:U} {zs:List U},W.S base e sz y n zs->W'.S base e sz y n zs:=λho=>aR ho λg hg hl=>hk g hl (by have:=(ho.lt g hg).1;omega);refine⟨hh,(hk _ (AC.1 h.Fy).1 (by omega)).trans h.Fy,(hk _ (AC.1 h.Gf).1 (by omega)).trans h.Gf,ok h.LE,ok h.Fg,λi x hi=>?_,kt,zY,by omega⟩;obtain⟨y,h1,h2⟩:=h.OA i x hi;exact⟨y,h1,ok h2⟩
def CP.Gb (h:CP w0 hb B A cap l M base v ns u hs xs W){M':Nat}(hh:Hand W' hb B A cap l M')(k:KT (·=hb) W W'):CP w0 hb B A cap l M' base v ns u hs xs W' :=
 h.keep hh (λb hb' zU=>k.Lo b hb' zU) (h.kt.trans k) k.size
def CP.Li (h:CP w0 hb B A cap l M base v ns u hs xs W)(o:Obj):CP w0 hb B A cap l M base v ns u hs xs (W.Li o) :=
 h.keep (h.hand.gr ((Gr.refl W).Li o)) (λb hb' _=>ae _ _ hb') (h.kt.trans (KT.EF ((Gr.refl W).Li o))) (by simp)
def CP.more (h:CP w0 hb B A cap l M base v ns u hs xs W){M':Nat}(hm:M<=M'):CP w0 hb B A cap l M' base v ns u hs xs W:=⟨h.hand.more hm,h.Fy,h.Gf,h.LE,h.Fg,h.OA,h.kt,h.lt,h.bs⟩
def CP.cell (h:CP w0 hb B A cap l M base v ns u hs xs W):W.L ⟨w0.heap.size+1,1,O⟩=F u/\W.H ⟨w0.heap.size+1,1,O⟩=bW/\w0.heap.size+1<W.heap.size:=⟨(DU h.Fy 1).1,(DU h.Fy 1).2,(AC.1 h.Fy).1⟩
def CP.push (h:CP w0 hb B A cap l M base v ns u hs xs W){w6:Z}{o:Obj}{u' y:U}{x:EO}(hy:W.S base 3 1 y x.off.L (x.off.map (Y I)))(zm:w6.S base 48 4 u' (hs.L+1) (xs++fV x y))(hg:(W.Li o).O w6 u.L)(hd:(W.Li o).drawn<=w6.drawn) :
  CP w0 hb B A cap l M base v ns u' (hs++[x]) (xs++fV x y) (w6.LE ⟨w0.heap.size+1,1,O⟩ u'):=by
 have zY:=h.lt;have a7:=h.bs;have hxl:xs.L=hs.L*4:=h.Fg.1;have hq:=(FJ h.Fg hg (w0.heap.size+1) (by omega) (AC.1 h.Fy).1).trans h.Fy;have hr:=(FJ h.Fg hg w0.heap.size (by omega) (AC.1 h.Gf).1).trans h.Gf;have ok:∀ {n:Nat} {z:U} {zs:List U},W.S base 3 1 z n zs->(w6.LE ⟨w0.heap.size+1,1,O⟩ u').S base 3 1 z n zs:=λho=>aR ho λg a6 hl =>
  (AP _ _ _ _ (by have:=(ho.lt g a6).1;show g≠w0.heap.size+1;omega)).trans ((hg.Lo g (by simp;omega) (lf (by decide) ho h.Fg a6)).trans (ae _ _ hl))
 refine⟨(eN h.hand h.Fg (by omega) hg).SS (by show hb<w0.heap.size+1;omega) _,?_,(AP _ _ _ _ (by simp)).trans hr,ok h.LE,?_,λi z hi=>?_,(gC h.kt h.Fg (by omega) hg hd).SS (by show _<=w0.heap.size+1;omega) _,zY,a7.1,by have:=gz hg;simp[dy];omega⟩
 .exact Eh hq
 .rw[B1];exact ownsRow_setCell_below zm (by show w0.heap.size+1<base;omega) _
 .obtain hi'|hi':=BP i hs.L
  .rw[Bn hi'] at hi;obtain⟨y',h1,h2⟩:=h.OA i z hi;exact⟨y',λj hj=>by rw[Bn (by omega)];exact h1 j hj,ok h2⟩
  .have e : i = hs.L := by
    have:=(Bd.1 hi).1;simp at this;omega
   subst e;rw[Bo (AD _)] at hi;simp at hi;subst hi;exact⟨y,λj hj=>by rw[Bo (by omega),hxl];congr 1;omega,ok hy⟩
def CP.F5 (h:CP w0 hb B A cap l M base v ns u hs xs W):∃nA nc hA hc,v=bh nA ns.L nc/\u=bh hA hs.L hc/\IU W (λb=>base<=b/\b<W.heap.size) nA ns/\Hg W (λb=>base<=b/\b<W.heap.size) hA hs:=by
 obtain⟨nA,nc,e1,h1⟩:=Jr h.LE;obtain⟨rfl,h0⟩|⟨g,hc,cur,rfl,hgb,zK,_⟩:=h.Fg.2
 .have:hs=[]:=Bf h0;subst this;exact⟨nA,nc,O,0,e1,rfl,h1,λhn=>AH rfl hn⟩
 .refine⟨nA,nc,F ⟨g,0,O⟩,hc,e1,rfl,h1,λ_=>⟨g,0,rfl,⟨hgb,(AC.1 zK).1⟩,λi x hi=>?_⟩⟩;obtain⟨y,hj,ho⟩:=h.OA i x hi;obtain⟨A',c',rfl,hr⟩:=Jr ho;have hcell:=h.Fg.cells (g:=g) rfl;have at_:∀j z,j<4->(fV x (bh A' x.off.L c'))[j]?=F z->W.L ⟨g,0+i*4+j,O⟩=F z:=λj z hj4 hz=>by
   have:=hcell (i*4+j) z ((hj j hj4).trans hz);have e:(⟨g,0,O⟩:cF).add (i*4+j)=⟨g,0+(i*4+j),O⟩:=by unfold Addr.add;split<;>simp_all
   rw[e,<-Nat.add_assoc] at this;exact this
  exact⟨at_ 0 _ (by omega) rfl,at_ 1 _ (by omega) rfl,at_ 2 _ (by omega) rfl,A',c',at_ 3 _ (by omega) rfl,hr⟩
end
open Go.Proofs
def sv {w:Z}{ops:Array ck}{o:ck}{a:Act}{K:Act->Z->Prop}{Q:ew->Act->Z->Prop}{E:Prop}(hgd:o.guard=O)(h:df DP o a w K Q):if br o (yielded ops a.tmps)=bl then df DP o a w K Q else E:=by
 have hw:br o (yielded ops a.tmps)=true:=by simp[br,hgd]
 rw[AJ hw];exact h
def qw {w:Z}{ops:Array ck}{o:ck}{a:Act}{K:Act->Z->Prop}{Q:ew->Act->Z->Prop}{E:Prop}(hgd:o.guard=O)(s x:cd)(ho:o.op=.call { callee:=.builtin .append,args:=#[s,x],argTypes:=#[22,22] })(a6:o.type=22)
  (base:Nat) (v:U) (n:Nat) (xs:List U) (hs:a.eval s=v) (zm:w.S base 3 1 v n xs) (y:U) (h1:y.oneCell'=bl) (hx:a.eval x=.slice (F ⟨w.heap.size,0,O⟩) 1 1) (hn:n<=1048576) (hbase:base<=w.heap.size)
  (h:∀v' w',w'.S base 3 1 v' (n+1) (xs++[y])->(w.Li (bo #[y] 3)).O w' v.L->(w.Li (bo #[y] 3)).drawn<=w'.drawn->K (a.put o.dst v') w') :
  if br o (yielded ops a.tmps)=bl then df DP o a (w.Li (bo #[y] 3)) K Q else E:=by
 have hw:br o (yielded ops a.tmps)=true:=by simp[br,hgd]
 rw[AJ hw];obtain⟨i0,hi,zF,zE,zD⟩:=fu Dl
 obtain⟨v',w',hr,h2,h3,h4⟩:=fx (P:=DP) (w.Li (bo #[y] 3)) base 22 22 3 i0 _ 1 8 ((Sq.LT 22).trans Tryz.underlying22) hi zF zE zD rfl (by decide) v n xs (zm.Li _) ⟨w.heap.size,0,O⟩ 1 1 [y] rfl (λj u hj=>by
  match j,hj with
  |0,hj=>cases hj;rw[Addr.add_lit,AF _ _ _ _ (by simp)];rfl) (λu hu=>by simp at hu;subst hu;exact h1) (by unfold maxLen;omega) (by omega) (by simp;omega)
 have hd:=Go.Em.GK DP (Builtin.append_ #[22,22] 22 #[v,.slice (F ⟨w.heap.size,0,O⟩) 1 1]) (w.Li (bo #[y] 3)) #[];rw[gg,hr] at hd;unfold df cq;simp only[ho,resolve,invoke,builtin,gl,gB,Result.andThen_ok,CA,Ca,CB,hs,hx,hr,a6];exact h v' w' h2 h3 hd
def Ab {w:Z}{ops:Array ck}{rest:List ck}{o:ck}{a:Act}{Q:ew->Act->Z->Prop}(hgd:o.guard=O)(s x:cd)(ho:o.op=.call { callee:=.builtin .append,args:=#[s,x],argTypes:=#[25,25] })
  (base:Nat) (v:U) (n:Nat) (xs:List U) (hs:a.eval s=v) (zm:w.S base 48 4 v n xs) (ad:cF) (c:Nat) (news:List U) (hx:a.eval x=.slice (F ad) 1 c) (h4:news.L=4) (hc:∀(j:Nat) (u:U),news[j]?=F u->w.L (ad.add j)=F u) (h1:∀u∈news,u.oneCell'=bl)
  (hn:n<=1048576) (hbase:base<=w.heap.size) (h:∀v' w',w'.S base 48 4 v' (n+1) (xs++news)->w.O w' v.L->w.drawn<=w'.drawn->wpList DP ops Q rest (a.put o.dst v') w'):wpList DP ops Q (o::rest) a w:=by
 obtain⟨i0,hi,zF,zE,zD⟩:=fu Dx;exact EB hgd s x 25 ho base 48 i0 _ 4 48 Sq.underlying25 hi zF zE zD rfl (by decide) v n xs hs zm ad 1 c news hx (by omega) hc h1 (by unfold maxLen;omega) (by omega) hbase h
open Go.Em (iw j5 i8)
def Ju:fW->fW
 |.seq _ c=>c
 |c=>c
def F8:fW->fW
 |.seq c _=>c
 |c=>c
def Ff:Nat->fW->fW
 |0,c=>c
 |n+1,c=>Ff n (Ju c)
def _root_.Go.Sq.RI.on {w w':Z}{A:Option cF}{l:List Int}(h:RI w w.heap.size A l)(hg:Gr w w'):RI w' w'.heap.size A l:=(h.gr (AD _) hg).more hg.size
structure Made (c:Eb)(nA hA gA:Option cF)(cb:Nat)(nc hc:Nat)(ls:List (List Int))(W:Z):Prop where
 lt:cb<W.heap.size
 c0:W.L ⟨cb,0,O⟩=F (bh nA c.DW.L nc)
 c1:W.L ⟨cb,1,O⟩=F (bh hA c.DR.L hc)
 DW:RI W W.heap.size nA c.DW
 Fg:FY W W.heap.size hA c.DR
 grid:FX W W.heap.size gA ls
open Go.Em (iw j5 i8)
def KZ {α:Type}(r:Nat->α)(i:Nat)(v:α):Nat->α:=λj=>if j=i then v else r j
def bQ {α:Type}(r:Nat->α)(i:Nat)(v:α):KZ r i v i=v:=AJ rfl
def cH {α:Type}{r:Nat->α}{i j:Nat}{v:α}(h:j≠i):KZ r i v j=r j:=AE h
def DL:(DP.info? 38).map (λi=>(i.zero,i.size,i.bytes))=F (F (.agg #[Y I 0,Y I 0]),2,16):=by
 rw[Dg];kernel_rfl
def T (n:Nat)(u:Nat->U):Array Value:=((cK n).map u).Li
def uw {l:List U}:l.Li=T l.L λi=>l[i]?.LE undef:=by
 unfold T;congr 1;refine List.ext_getElem (by simp) λi h1 h2=>?_;simp[h1]
def bI {P:Program}{c:fW}{Q:ew->Act->Z->Prop}{l:List U}{ds:List cU}{w:Z}(n:Nat)(hn:l.L=n)(h:∀u:Nat->U,(∀i,u i=l[i]?.LE undef)->c.wp P Q ⟨T n u,ds⟩ w):c.wp P Q ⟨l.Li,ds⟩ w:=by
 rw[uw,hn];exact h _ λ_=>rfl
open Go.Em
variable {P:Program} {ops:Array ck} {Q:ew->Act->Z->Prop} {n m:Nat} {u:Nat->U} {ds:List cU} {w:Z}
def kg {t:Nat}(h:t<n):(T n u)[t]?=F (u t):=by simp[T,h]
def iC:(T n u).size=n:=by simp[T]
def iD {t:Nat}(h:t<n):(⟨T n u,ds⟩:Act).eval (.tmp t)=u t:=by
 show(T n u).LE t undef=u t;rw[Bx,kg h];rfl
def Ac {d:Nat}{v:U}:(T n u).L d v=T n (KZ u d v):=by
 refine Array.ext (by rw[Array.size_setIfInBounds,iC,iC]) λi h1 h2=>?_;rw[iC] at h2;have e1:(T n (KZ u d v))[i]?=F (KZ u d v i):=kg h2;have e2:((T n u).L d v)[i]?=F (KZ u d v i):=by
  rw[B3];split
  .rename_i e;subst e;rw[AJ (by rw[iC];exact h2),bQ]
  .rename_i e;rw[kg h2,cH (Ne.symm e)]
 rw[AL h1] at e2;rw[AL (by rw[iC];exact h2)] at e1;injection e1 with e1
 injection e2 with e2
 rw[e1,e2]
def Hq (u:Nat->U):Option Nat->U->Nat->U
 |some d,v=>KZ u d v
 |none,_=>u
def dZ {d:Option Nat}{v:U}:(⟨T n u,ds⟩:Act).put d v=⟨T n (Hq u d v),ds⟩:=by
 cases d with
 |none=>rfl
 |some d=>show Act.mk _ _=_;rw[Ac];rfl
class Rfl (R:Z->Z->Prop):Prop where
 refl:∀w,R w w
class Goes (R:Z->Z->Prop):Prop extends Rfl R where
 trans:∀ {a b c},R a b->R b c->R a c
 drew:∀w,R w w.drew
instance:Goes Gr:={ refl:=Gr.refl,trans:=Gr.trans,drew:=λw=>(Gr.refl w).drew }
variable {R:Z->Z->Prop}
def Done (R:Z->Z->Prop)(P:Program)(ops:Array ck)(Q:ew->Act->Z->Prop)(n:Nat)(ds:List cU)(i:Nat)(V:U->Z->Prop)(u:Nat->U)(w:Z):Prop :=
 wpOp P ops Q i (λa' w'=>∃v,a'=⟨T n (Hq u ((ops[i]?).bind (·.dst)) v),ds⟩/\R w w'/\V v w') ⟨T n u,ds⟩ w
def Done.weak {R R':Z->Z->Prop}{i:Nat}{V:U->Z->Prop}(hR:∀w',R w w'->R' w w')(h:Done R P ops Q n ds i V u w):Done R' P ops Q n ds i V u w :=
 ea (λ_ _ ⟨v,h1,h2,h3⟩=>⟨v,h1,hR _ h2,h3⟩) h
def Till (R:Z->Z->Prop)(J:Z->Prop)(c i:Nat)(w w':Z):Prop:=R w w'/\(i≠c->J w->J w')
def IQ (ops:Array ck)(t:Nat):Bool:=ops.all λo=>o.dst != F t
structure PN (md:cw)(ops:Array ck)(m:Nat):Prop where
 lt:∀i,i<ops.size->∀j∈JY md ops i,j<i
 one:∀(i j:Nat) (oi oj:ck) (d:Nat),i<j->ops[i]?=F oi->ops[j]?=F oj->oi.dst=F d->oj.dst≠F d
 last:m=ops.size\/O7 md ops m
def G9 (md:cw)(ops:Array ck)(m:Nat):Bool :=
 (cK ops.size).all (λi=>(JY md ops i).all λj=>decide (j<i))&&decide ((ops.toList.O (·.dst)).Nodup)&&(decide (m=ops.size)||nu md ops m)
def yD {md:cw}(h:G9 md ops m=bl):PN md ops m:=by
 simp only[G9,AO,Bm,B6,BM,decide_eq_true_eq] at h;obtain⟨⟨h1,h2⟩,h3⟩:=h;refine⟨h1,λi j oi oj d a6 hi hj hd hdj=>?_,h3.imp id wZ⟩;obtain⟨l⟩:=ops;simp only[Bw] at hi hj;dsimp only at h2;clear h1 h3
 induction l generalizing i j with
 |nil=>simp at hi
 |cons o l ih =>
  cases i with
  |zero =>
   simp only[Br,Option.some.injEq] at hi;subst hi;rw[eC,hd] at h2;have:=(eo.1 h2).1;refine this (eF.2 ⟨oj,?_,hdj⟩);cases j with
   |zero=>omega
   |succ j=>exact Cc (by simpa using hj)
  |succ i =>
   cases j with
   |zero=>omega
   |succ j =>
    refine ih i j (by omega) ?_ (by simpa using hi) (by simpa using hj);rw[eC] at h2;cases ho:o.dst with
    |none=>rw[ho] at h2;exact h2
    |some x=>rw[ho] at h2;exact(eo.1 h2).2
def bU {l:Array Bool}{i j:Nat}(hs:i<l.size){b:Bool}:(l.L i bl).LE j b=if j=i then bl else l.LE j b:=by
 rw[Bx,B3,Bx];by_cases e:i=j
 .subst e;simp[hs]
 .rw[AE e,AE (Ne.symm e)]
def qx {md:cw}(L:O7 md ops m){k:Nat}{listed:Array Bool}(hk:k<ops.size)(hm:m<=k)(hs:listed.size=ops.size)(hl:∀i,i<ops.size->listed.LE i bl=decide (i<k)):eT md ops listed=[k]:=by
 have hd:∀j,j<ops.size->(listed.LE j bW=bl↔j<k):=λj hj=>by
  rw[<-dQ (by omega),hl j hj];simp
 refine filter_one hk λi hi=>?_;have a6:=Iw (md:=md) (ops:=ops) (listed:=listed) (i:=i);unfold eT at a6;rw[Cr,BM] at a6;have:_↔_:=⟨λh=>(a6.1 ⟨hi,h⟩).2,λh=>(a6.2 ⟨hi,h⟩).2⟩;rw[this,hl i hi];constructor
 .rintro⟨h1,h2⟩;have h1:¬i<k:=by simpa using h1
  by_cases e:i=k
  .exact e
  .have:=(hd (i-1) (by omega)).1 (h2 _ (L.next i (by omega) hi));omega
 .rintro rfl;exact⟨by simp,λj hj=>(hd j (Nat.lt_trans (L.lt i hi j hj) hi)).2 (L.lt i hi j hj)⟩
def nv {l:List Nat}(h:l.Nodup)(i:Nat):l.erase i=l.filter (· != i):=by
 induction l with
 |nil=>rfl
 |cons a l ih =>
  obtain⟨h1,h2⟩:=eo.1 h;rw[List.erase_cons,List.filter_cons];by_cases e:a=i
  .subst e;simp only[beq_self_eq_true,if_true,bne_self_eq_false,Ba,if_false]
   exact(CZ.2 λb hb=>by
    have:b≠a:=λe=>h1 (e▸hb)
    simpa using this).LT
  .have e1:(a==i)=false:=by simpa using e
   have e2:(a != i)=true:=by simpa using e
   rw[e1,e2];simp only[Ba,if_false,if_true];rw[ih h2]
def ux {md:cw}(L:O7 md ops m):∀(d k:Nat) (listed:Array Bool) (a:Act) (w:Z),k+d=ops.size->m<=k->listed.size=ops.size->(∀i,i<ops.size->listed.LE i bl=decide (i<k))->wpOps P ops Q (bb k d) a w->wpAny P md ops Q d listed a w:=by
 intro d
 induction d with
 |zero =>
  intro k listed a w hk hm hs hl h;refine⟨di.2 λi hi=>?_,h⟩;obtain⟨h1,h2,_⟩:=Iw.1 hi;rw[hl i h1] at h2;simp at h2;omega
 |succ d ih =>
  intro k listed a w hk hm hs hl h;have hr:=qx L (by omega) hm hs hl;refine⟨λe=>(by rw[hr] at e;cases e),λi hi=>?_⟩;rw[hr] at hi;obtain rfl:i=k:=by simpa using hi
  rw[e7,dn] at h;refine ea (λa w h=>ih (i+1) _ a w (by omega) (by omega) (by simpa using hs) (λj hj=>?_) h) h;rw[bU (by omega),hl j hj];by_cases e:j=i
  .subst e;simp
  .rw[AE e];exact decide_eq_decide.2 (by omega)
def sx {i:Nat}{K K':Act->Z->Prop}{a:Act}{w:Z}(h:∀a w,K a w->K' a w)(hh:wpOp P ops Q i K a w):wpOp P ops Q i K' a w:=ea h hh
def Le (R:Z->Z->Prop)(C:Nat->Z->Prop)(md:cw)(ops:Array ck)(i:Nat)(w w':Z):Prop:=R w w'/\∀k,k≠i->k ∉ JY md ops i->C k w->C k w'
def pi [Goes R](C:Nat->Z->Prop)(s dS:Nat)(S:(Nat->U)->Z->Prop)(hS1:∀u w w',R w w'->S u w->S u w')(hS2:∀u w d v,d≠dS->S u w->S (KZ u d v) w){md:cw}(X:PN md ops m)(hS3:s<m->∀i,i<ops.size->(ops[i]?).bind (·.dst)=F dS->i∈JY md ops s)(V:Nat->U->Z->Prop)(aH:∀i v w w',R w w'->V i v w->V i v w'){w0:Z}{u0:Nat->U}
  (step:∀i,i<m->∀u w,R w0 w->(∀t,IQ ops t=bl->u t=u0 t)->(∀j o t,i∈JY md ops j->ops[j]?=F o->o.dst=F t->u t=u0 t)->(∀j∈JY md ops i,∀o d,ops[j]?=F o->o.dst=F d->V j (u d) w)->C i w->Done (Le R C md ops i) P ops Q n ds i (λv w'=>V i v w'/\(i=s->S (Hq u ((ops[i]?).bind (·.dst)) v) w')) u w)
  (fin:∀u w,R w0 w->(∀t,IQ ops t=bl->u t=u0 t)->(∀i,i<m->∀o d,ops[i]?=F o->o.dst=F d->V i (u d) w)->(s<m->S u w)->wpOps P ops Q (bb m (ops.size-m)) ⟨T n u,ds⟩ w) :
  ∀(fuel:Nat) (listed:Array Bool) (u:Nat->U) (w:Z),listed.size=ops.size->((cK ops.size).filter λi=>!listed.LE i bl).L=fuel->R w0 w->(∀t,(∀j o,ops[j]?=F o->o.dst=F t->listed.LE j bl=bW)->u t=u0 t)->(∀i,i<m->listed.LE i bl=bl->∀o d,ops[i]?=F o->o.dst=F d->V i (u d) w)->(∀i,m<=i->i<ops.size->listed.LE i bl=bW) ->
   (∀i,i<m->listed.LE i bl=bl->∀j∈JY md ops i,listed.LE j bl=bl)->(∀k,listed.LE k bl=bW->C k w)->(s<m->listed.LE s bl=bl->S u w)->wpAny P md ops Q fuel listed ⟨T n u,ds⟩ w:=by
 have aK:m<=ops.size:=by
  obtain h|h:=X.last
  .omega
  .have:=h.size;omega
 have a8:∀ {t:Nat} {listed:Array Bool},IQ ops t=bl->∀j o,ops[j]?=F o->o.dst=F t->listed.LE j bl=false:=λ{t} {listed} ht j o hj hd=>by
  unfold IQ at ht;rw[Bb] at ht;have:=ht _ (Bi hj);rw[hd] at this;simp at this
 intro fuel
 induction fuel with
 |zero =>
  intro listed u w hs hc hg hf hv a6 aA hj aC;have hall:∀i,i<ops.size->listed.LE i bl=true:=λi hi=>by
   cases hb:listed.LE i bl with
   |true=>rfl
   |false =>
    have:i∈(cK ops.size).filter λi=>!listed.LE i true:=Cr.2 ⟨BM.2 hi,by rw[hb];rfl⟩;rw[Bf hc] at this;cases this
  have hm:m=ops.size:=by
   obtain h|h:=B5 aK
   .have:=a6 m (AD _) h;rw[hall m h] at this;cases this
   .exact h
  refine⟨di.2 λi hi=>?_,?_⟩
  .obtain⟨h1,h2,_⟩:=Iw.1 hi;rw[hall i h1] at h2;cases h2
  .have:=fin u w hg (λt ht=>hf t (a8 ht)) (λi hi=>hv i hi (hall i (by omega))) (λhsm=>aC hsm (hall s (by omega)));rw[hm,Nat.sub_self] at this;exact this
 |succ fuel ih =>
  intro listed u w hs hc hg hf hv a6 aA hj aC;by_cases hex:∃i,i<m/\listed.LE i bl=bW
  .refine⟨λhr=>?_,λi hi=>?_⟩
   .exfalso;have hno:∀k i,i<=k->i<m->listed.LE i bl=true:=by
     intro k
     induction k using fl with
     |ind k ihk =>
      intro i hik hi;cases hb:listed.LE i bl with
      |true=>rfl
      |false =>
       have:i∈eT md ops listed:=Iw.2 ⟨by omega,hb,λj hj=>by
        have:=X.lt i (by omega) j hj;rw[<-dQ (by omega)]
        exact ihk j (by omega) j (AD _) (by omega)⟩
       rw[hr] at this;cases this
    obtain⟨i,h1,h2⟩:=hex;rw[hno i i (AD _) h1] at h2;cases h2
   .obtain⟨h1,h2,h3⟩:=Iw.1 hi;have him:i<m:=by
     obtain h|L:=X.last
     .omega
     .refine Nat.not_le.1 λzX=>?_;have hup:∀d i0,i0+d=m->i0<m->listed.LE i0 bl=bW->listed.LE m bl=bl\/(∀j∈JY md ops m,listed.LE j bl=bl)->False:=by
       intro d
       induction d using fl with
       |ind d ihd =>
        intro i0 hd aD aB hor;obtain⟨j,hj1,aN,aI⟩:=L.up i0 aD;obtain hj|hj:=B5 aN
        .cases hb:listed.LE j bl with
         |false=>exact ihd (m-j) (by omega) j (by omega) hj hb hor
         |true =>
          have:=aA j hj hb i0 aI;rw[aB] at this;cases this
        .subst hj;obtain h|h:=hor
         .rw[a6 j (AD _) L.size] at h;cases h
         .rw[h i0 aI] at aB;cases aB
      obtain⟨i0,aD,aB⟩:=hex;obtain zY|he:=B5 zX
      .have:=h3 (i-1) (L.next i zY h1);rw[<-dQ (by omega),a6 (i-1) (by omega) (by omega)] at this;cases this
      .subst he
       exact hup (m-i0) i0 (by omega) aD aB (.inr λj hj=>by
        have:=h3 j hj;have:=L.lt m h1 j hj
        rw[dQ (by omega)];exact h3 j hj)
    have aL:∀j∈JY md ops i,∀o d,ops[j]?=F o->o.dst=F d->V j (u d) w:=λj hj o d ho hd=>by
     have:=X.lt i h1 j hj;exact hv j (by omega) (by rw[dQ (by omega)];exact h3 j hj) o d ho hd
    refine ea ?_ (step i him u w hg (λt ht=>hf t (a8 ht)) (λj o t aO hj hd=>hf t λj' o' hj' aJ=>?_) aL (hj i h2))
    rotate_left
    .have aF : j' = j := by
      obtain h|h|h:=dt j' j
      .exact AH hd (X.one j' j _ _ _ h hj' hj aJ)
      .exact h
      .exact AH aJ (X.one j j' _ _ _ h hj hj' hd)
     subst aF;have aP:j'<ops.size:=(AC.1 hj').1;by_cases hjm:j'<m
     .cases hb:listed.LE j' bl with
      |false=>rfl
      |true =>
       have:=aA j' hjm hb i aO;rw[h2] at this;cases this
     .exact a6 j' (by omega) aP
    rintro a' w' ⟨v,rfl,⟨zV,aF⟩,hV,hVS⟩;refine ih _ _ w' (by simpa using hs) ?_ (Goes.trans hg zV) (λt ht=>?_) (λj hj hl o d ho hd=>?_) (λj hj aQ=>?_) (λj hj hl k hk=>?_) (λk hl=>?_) λhsm hl=>?_
    .have e : ((cK ops.size).filter fun j => !(listed.L i bl).LE j bl) = ((cK ops.size).filter fun j => !listed.LE j bl).erase i := by
      rw[nv (List.nodup_range.filter _),List.filter_filter];refine List.filter_congr λj hj=>?_;rw[bU (by omega)];by_cases e:j=i
      .simp[e]
      .simp[e]
     rw[e,List.length_erase_of_mem (Cr.2 ⟨BM.2 h1,by rw[h2];rfl⟩),hc];rfl
    .have aR : ops[i].dst ≠ F t := fun e => by
      have:=ht i ops[i] (AL h1) e;rw[bU (by omega),AJ rfl] at this;cases this
     have:Hq u ((ops[i]?).bind (·.dst)) v t=u t:=by
      rw[AL h1];show Hq u ops[i].dst v t=u t;cases a7:ops[i].dst with
      |none=>rfl
      |some d=>exact cH λe=>aR (by rw[a7,e])
     rw[this];refine hf t λj o hj hd=>?_;have:=ht j o hj hd;rw[bU (by omega)] at this;by_cases e:j=i
     .rw[AJ e] at this;cases this
     .rwa [AE e] at this
    .rw[bU (by omega)] at hl;by_cases e:j=i
     .subst e;rw[ho];show V j (Hq u o.dst v d) w';rw[hd];show V j (KZ u d v d) w';rw[bQ];exact hV
     .rw[AE e] at hl;have:Hq u ((ops[i]?).bind (·.dst)) v d=u d:=by
       rw[AL h1];show Hq u ops[i].dst v d=u d;cases a7:ops[i].dst with
       |none=>rfl
       |some d' =>
        refine cH λe'=>?_;subst e';obtain h|h:=eG e
        .exact X.one j i _ _ _ h ho (AL h1) hd a7
        .exact X.one i j _ _ _ h (AL h1) ho a7 hd
      rw[this];exact aH _ _ _ _ zV (hv j hj hl o d ho hd)
    .rw[bU (by omega),AE (by omega)];exact a6 j hj aQ
    .rw[bU (by omega)] at hl;rw[bU (by omega)];by_cases ek:k=i
     .rw[AJ ek]
     .rw[AE ek];by_cases e:j=i
      .subst e;have:=X.lt j h1 k hk;rw[dQ (by omega)];exact h3 k hk
      .rw[AE e] at hl;exact aA j hj hl k hk
    .rw[bU (by omega)] at hl;by_cases e:k=i
     .rw[AJ e] at hl;cases hl
     .rw[AE e] at hl;refine aF k e (λhk=>?_) (hj k hl);have:=X.lt i h1 k hk;have h5:listed.LE k bl=true:=by rw[dQ (by omega)];exact h3 k hk
      rw[hl] at h5;cases h5
    .rw[bU (by omega)] at hl;by_cases e:s=i
     .exact hVS e.LT
     .rw[AE e] at hl;have hS:=hS1 _ _ _ zV (aC hsm hl);rw[AL h1];show S (Hq u ops[i].dst v) w';cases a7:ops[i].dst with
      |none=>exact hS
      |some d =>
       refine hS2 _ _ _ _ (λed=>?_) hS;subst ed;have:=aA s hsm hl i (hS3 hsm i h1 (by rw[AL h1];exact a7));rw[h2] at this;cases this
  .have hall : ∀ i, i < m -> listed.LE i bl = true := fun i hi => by
    cases hb:listed.LE i bl with
    |true=>rfl
    |false=>exact AH ⟨i,hi,hb⟩ hex
   have aG:=fin u w hg (λt ht=>hf t (a8 ht)) (λi hi=>hv i hi (hall i hi)) λhsm=>aC hsm (hall s hsm);have hl:∀i,i<ops.size->listed.LE i bl=decide (i<m):=λi hi=>by
    by_cases h:i<m
    .rw[hall i h];simp[h]
    .rw[a6 i (by omega) hi];simp[h]
   have aM:ops.size-m=fuel+1:=by
    rw[<-hc];have e:((cK ops.size).filter λi=>!listed.LE i bl)=bb m (ops.size-m):=by
     have h1:cK ops.size=bb 0 m++bb m (ops.size-m):=by
      have:=eH (s:=0) (m:=m) (n:=ops.size-m) (step:=1);rw[gR,AU] at this;rw[ez,this];congr 1;omega
     rw[h1,C6];have h2:(bb 0 m).filter (λi=>!listed.LE i bl)=[]:=List.filter_eq_nil_iff.2 λi hi=>by
      have:=eV.1 hi;rw[hall i (by omega)];simp
     have h3:(bb m (ops.size-m)).filter (λi=>!listed.LE i bl)=bb m (ops.size-m):=CZ.2 λi hi=>by
      have:=eV.1 hi;rw[a6 i (by omega) (by omega)];rfl
     rw[h2,h3];rfl
    rw[e,List.length_range']
   obtain h|L:=X.last
   .omega
   .rw[aM] at aG;exact ux L (fuel+1) m listed _ w (by omega) (AD _) hs hl aG
variable {R:Z->Z->Prop} {ops:Array ck} {Q:ew->Act->Z->Prop} {n m:Nat} {u:Nat->U} {ds:List cU} {w w':Z}
def opAt (ops:Array ck)(i:Nat):Option (Option Tmp×Op×Option (Nat×Bool)×bc):=(ops[i]?).map λo=>(o.dst,o.op,o.guard,o.type)
def JZ {i:Nat}{d:Option Tmp}{op:Op}{g:Option (Nat×Bool)}{t:bc}(h:opAt ops i=F (d,op,g,t)):∃o,ops[i]?=F o/\o.dst=d/\o.op=op/\o.guard=g/\o.type=t:=by
 unfold opAt at h;cases ho:ops[i]? with
 |none=>rw[ho] at h;cases h
 |some o=>rw[ho] at h;cases h;exact⟨o,rfl,rfl,rfl,rfl,rfl⟩
def Lets (ops:Array ck)(n:Nat)(u:Nat->U):Option (Nat×Bool)->Prop
 |none=>True
 |some (j,b)=>∃d,(opAt ops j).bind (·.1)=F d/\d<n/\u d=.bool b
def lz {o:ck}(h:Lets ops n u o.guard):br o (yielded ops (T n u))=true:=by
 unfold br;cases hg:o.guard with
 |none=>rfl
 |some q =>
  obtain⟨j,b⟩:=q;rw[hg] at h;obtain⟨d,h1,h2,h3⟩:=h;have e:(ops[j]?).bind (·.dst)=F d:=by
   unfold opAt at h1;cases ho:ops[j]? with
   |none=>rw[ho] at h1;cases h1
   |some o=>rw[ho] at h1;exact h1
  simp only[yielded,e,BD,kg h2,h3];simp
def iP {i:Nat}{d:Option Tmp}{op:Op}{g:Option (Nat×Bool)}{t:bc}{V:U->Z->Prop}(h:opAt ops i=F (d,op,g,t))(hl:Lets ops n u g)
  (hw:∀o:ck,o.dst=d->o.op=op->o.type=t->df DP o ⟨T n u,ds⟩ w (λa' w'=>∃v,a'=⟨T n (Hq u d v),ds⟩/\R w w'/\V v w') Q):Done R DP ops Q n ds i V u w:=by
 obtain⟨o,h1,h2,h3,h4,h5⟩:=JZ h;unfold Done wpOp;simp only[h1];rw[AJ (lz (by rw[h4];exact hl))];refine .inl ?_;have e:((F o:Option ck).bind (·.dst))=d:=h2;rw[e];exact hw o h2 h3 h5
def Nb (n:Nat)(u:Nat->U)(ev:cd->U):Prop:=(∀t,t<n->ev (.tmp t)=u t)/\(∀c,ev (.const c)=c)/\∀f,ev (.func f)=.func (.func f) #[] #[]
def dz:Nb n u (Act.eval ⟨T n u,ds⟩):=⟨λ_ h=>iD h,λ_=>rfl,λ_=>rfl⟩
@[go_sem] def Iy (op:Op)(t:TypeId):Oper:={ dst:=none,op:=op,type:=t,pos := "",after:=#[],guard:=none }
def dR {ev:cd->U}{o:ck}:cq ev o=cq ev (Iy o.op o.type):=by
 unfold cq Iy
 rfl
def Nb.t {ev:cd->U}(h:Nb n u ev)(t:Nat)(ht:t<n:=by decide):ev (.tmp t)=u t:=h.1 t ht
def aP {i:Nat}{d:Option Tmp}{op:Op}{g:Option (Nat×Bool)}{t:bc}{V:U->Z->Prop}(h:opAt ops i=F (d,op,g,t))(v:U)(w':Z)
  (hr:∀ev,Nb n u ev->(cq ev (Iy op t)).run DP w=.ok (.value v) w') (hg:R w w') (hV:V v w') (hl:Lets ops n u g:=by trivial):Done R DP ops Q n ds i V u w:=by
 refine iP h hl λo h1 h2 h3=>?_;unfold df;rw[dR,h2,h3,hr _ dz];rw[fo];refine⟨v,?_,hg,hV⟩;rw[h1];exact dZ
def sA {f:e8} {args:Array cd} {ats:Array bc} {t:bc} {fn:gU} (hf:DP.L[f]?=F fn) {vals:Array U} (ha:∀ev,Nb n u ev->args.map ev=vals) (hn:(fn.name == "runtime.NumGoroutine")=bW) (hb:fn.body.L=bW) :
  (cq (Act.eval ⟨T n u,ds⟩) (Iy (.call { callee:=.value (.func f),args:=args,argTypes:=ats }) t)).run DP w=.ok (.enter f vals) w:=by
 unfold cq Iy;have e1:=ha _ (dz (ds:=ds));have e2:=(dz (n:=n) (u:=u) (ds:=ds)).2.2 f;have a6:fn.name ≠ "runtime.NumGoroutine":=by simpa using hn
 have hb':fn.body≠none:=λe=>by rw[e] at hb;cases hb
 simp[resolve,e1,e2,Deferred.ofValue,invoke,callFunc,hf,a6,hb']
def iE {i:Nat}{d:Option Tmp}{f:e8}{args:Array cd}{ats:Array bc}{g:Option (Nat×Bool)}{t:bc}{V:U->Z->Prop}(h:opAt ops i=F (d,.call { callee:=.value (.func f),args:=args,argTypes:=ats },g,t)){fn:gU}(hf:DP.L[f]?=F fn)(vals:Array U)
  (ha:∀ev,Nb n u ev->args.map ev=vals) (hc:fz DP f vals w λe w'=>∃v,e=.L v/\R w w'/\V v w') (hl:Lets ops n u g:=by trivial) (hn:(fn.name == "runtime.NumGoroutine")=false:=by kernel_rfl) (hb:fn.body.L=false:=by kernel_rfl):Done R DP ops Q n ds i V u w:=by
 refine iP h hl λo h1 h2 h3=>?_;unfold df;rw[dR,h2,sA hf ha hn hb,fq];refine hc.LT ?_;rintro e w' ⟨v,rfl,h5,h6⟩;refine⟨v,?_,h5,h6⟩;rw[h1];exact dZ
def aI [Rfl R]{i:Nat}{d:Option Tmp}{op:Op}{g:Option (Nat×Bool)}{t:bc}{x:U}(h:opAt ops i=F (d,op,g,t))(hr:∀ev,Nb n u ev->(cq ev (Iy op t)).run DP w=.ok (.value x) w)(hl:Lets ops n u g:=by trivial):Done R DP ops Q n ds i (λv _=>v=x) u w :=
 aP h x w hr (Rfl.refl _) rfl hl
def sB [Rfl R]{i:Nat}{d:Option Tmp}{t:Nat}{g:Option (Nat×Bool)}{ty:bc}{V:U->Z->Prop}(h:opAt ops i=F (d,.move (.tmp t),g,ty))(hV:V (u t) w)(hl:Lets ops n u g:=by trivial)(ht:t<n:=by decide):Done R DP ops Q n ds i V u w :=
 aP h (u t) w (λev he=>by show(pure _:Sem Next).run _ _=_;rw[he.1 t ht];rfl) (Rfl.refl _) hV hl
def oh [Rfl R]{i:Nat}{d:Option Tmp}{t:Nat}{g:Option (Nat×Bool)}{ty:bc}{V:U->Z->Prop}(h:opAt ops i=F (d,.assign (.tmp t),g,ty))(hV:V (u t) w)(hl:Lets ops n u g:=by trivial)(ht:t<n:=by decide):Done R DP ops Q n ds i V u w :=
 aP h (u t) w (λev he=>by show(pure _:Sem Next).run _ _=_;rw[he.1 t ht];rfl) (Rfl.refl _) hV hl
noncomputable def kh (t:bc):Bool:=match DP.LT t with
 |none=>bW
 |some d=>match d with
  |.struct _|.array _ _=>bW
  |_=>bl
def uy {t:bc}(h:kh t=bl)(w:Z):(isAgg t).run DP w=.ok bW w:=by
 unfold kh at h;cases hd:DP.LT t with
 |none=>rw[hd] at h;cases h
 |some d =>
  rw[hd] at h;cases d<;>first|(cases h;done)|simp[isAgg,eA hd]
def sC [Rfl R]{i:Nat}{d:Option Tmp}{a:Nat}{g:Option (Nat×Bool)}{t ty:bc}{p:cF}{x:U}(h:opAt ops i=F (d,.load t (.tmp a),g,ty))(e:u a=.S (F p))(hc:w.L p=F x)(hl:Lets ops n u g:=by trivial)(ha:a<n:=by decide)(ht:kh t=true:=by kernel_rfl):Done R DP ops Q n ds i (λv _=>v=x) u w :=
 aI h (λev he=>by
  have e1:=(he.1 a ha).trans e;unfold cq Iy
  simp[e1,Instr.loadAt,Instr.sureAddr,loadVar,uy ht,hc]) hl
noncomputable def PO (s:bc)(k:Nat):Nat:=match DP.LT s with
 |some (.struct fs)=>(fs[k]?).elim 0 (·.offset)
 |_=>0
noncomputable def RO (s:bc)(k:Nat):Bool:=match DP.LT s with
 |some (.struct fs)=>match fs[k]? with
  |some f=>(DP.info? f.type).any λi=>i.size != 0
  |none=>bW
 |_=>bW
def qy [Rfl R]{i:Nat}{d:Option Tmp}{a s k:Nat}{g:Option (Nat×Bool)}{ty:bc}{b o o':Nat}(h:opAt ops i=F (d,.fieldAddr s (.tmp a) k,g,ty))(e:u a=.S (F ⟨b,o,O⟩))(ho:o+PO s k=o':=by kernel_rfl)(hk:RO s k=true:=by kernel_rfl)(hl:Lets ops n u g:=by trivial)(ha:a<n:=by decide):Done R DP ops Q n ds i (λv _=>v=.S (F ⟨b,o',O⟩)) u w :=
 aI h (λev he=>by
  have e1:=(he.1 a ha).trans e;subst ho;unfold RO at hk;unfold PO;split at hk
  .rename_i fs hs;split at hk
   .rename_i f hf;obtain⟨i0,hi,hz⟩:=(Option.any_eq_true _ _).1 hk;have hz:i0.size≠0:=by simpa using hz
    unfold cq Iy;simp[e1,Instr.fieldAt,Instr.sureAddr,eA hs,hf,fieldPlace,sizeOf,typeInfo,hi,hz,Addr.add]
   .cases hk
  .cases hk) hl
noncomputable def RP (t:bc):Nat:=match DP.LT t with
 |some (.slice e)=>(DP.info? e).elim 0 (·.size)
 |_=>0
def ki [Rfl R](s:Nat){i:Nat}{d:Option Tmp}{a b t:Nat}{g:Option (Nat×Bool)}{ty:bc}{q o o' len cap k:Nat}(h:opAt ops i=F (d,.indexAddr t (.tmp a) (.tmp b),g,ty))(e1:u a=.slice (F ⟨q,o,O⟩) len cap)(e2:u b=Y I (k:Nat))(hk:k<len:=by omega)(ho:o+k*s=o':=by omega)(hs:RP t=s:=by kernel_rfl)(hz:s≠0:=by decide)(hl:Lets ops n u g:=by trivial)(ha:a<n:=by decide)(hb:b<n:=by decide):Done R DP ops Q n ds i (λv _=>v=.S (F ⟨q,o',O⟩)) u w :=
 aI h (λev he=>by
  have e1:=(he.1 a ha).trans e1;have e2:=(he.1 b hb).trans e2;subst ho hs;unfold RP at hz ⊢;split at hz
  .rename_i e hs;cases hi:DP.info? e with
   |none=>rw[hi] at hz;exact AH rfl hz
   |some i0 =>
    unfold cq Iy;by_cases h0:k*i0.size=0<;>simp[e1,e2,Instr.indexAt,eA hs,asIntOf,sizeOf,typeInfo,hi,Addr.add,hk,h0]
  .exact AH rfl hz) hl
variable {R:Z->Z->Prop} {ops:Array ck} {Q:ew->Act->Z->Prop} {n m:Nat} {ds:List cU}
def IM (R:Nat->Prop):Nat->Prop
 |0=>True
 |m+1=>IM R m/\R m
def IM.at_ {R:Nat->Prop}:∀ {m:Nat},IM R m->∀i,i<m->R i
 |0,_,i,h=>AH h (BY _)
 |m+1,h,i,hi=>by
  by_cases e:i=m
  .subst e;exact h.2
  .exact h.1.at_ i (by omega)
def IM.of {R:Nat->Prop}:∀ {m:Nat},(∀i,i<m->R i)->IM R m
 |0,_=>trivial
 |m+1,h=>⟨IM.of λi hi=>h i (by omega),h m (by omega)⟩
def Jf (R:Z->Z->Prop)(V:U->Z->Prop):Prop:=∀v w w',R w w'->V v w->V v w'
instance {J:Z->Prop} {c i:Nat} [Rfl R]:Rfl (Till R J c i):=⟨λw=>⟨Rfl.refl w,λ_ h=>h⟩⟩
def aX (x:U):Jf R λv _=>v=x:=λ_ _ _ _ h=>h
def Vl (l:List (U->Z->Prop))(i:Nat):U->Z->Prop:=l[i]?.LE λ_ _=>True
def KW (R:Z->Z->Prop):List (U->Z->Prop)->Prop
 |[]=>True
 |V::l=>Jf R V/\KW R l
def KW.at_:∀ {l:List (U->Z->Prop)},KW R l->∀i,Jf R (Vl l i)
 |[],_,i=>λ_ _ _ _ _=>by unfold Vl;simp
 |V::l,h,0=>h.1
 |V::l,h,i+1=>h.2.at_ i
def Fr (ops:Array ck)(u u0:Nat->U):Prop:=∀t,IQ ops t=bl->u t=u0 t
def Fr.at_ {u u0:Nat->U}(h:Fr ops u u0)(t:Nat)(e:IQ ops t=true:=by kernel_rfl):u t=u0 t:=h t e
def NB (ops:Array ck)(V:Nat->U->Z->Prop)(i:Nat)(u:Nat->U)(w:Z):Prop:=∀j∈JY .any ops i,∀o d,ops[j]?=F o->o.dst=F d->V j (u d) w
def NB.at_ {V:Nat->U->Z->Prop}{i:Nat}{u:Nat->U}{w:Z}(h:NB ops V i u w)(j d:Nat)(h1:(JY .any ops i).H j=true:=by kernel_rfl)(h2:(opAt ops j).bind (·.1)=F d:=by rfl):V j (u d) w:=by
 unfold opAt at h2;cases ho:ops[j]? with
 |none=>rw[ho] at h2;cases h2
 |some o=>rw[ho] at h2;exact h j (Cv.1 h1) o d ho h2
def Late (ops:Array ck)(i:Nat)(u u0:Nat->U):Prop:=∀j o t,i∈JY .any ops j->ops[j]?=F o->o.dst=F t->u t=u0 t
def Late.at_ {i:Nat}{u u0:Nat->U}(h:Late ops i u u0)(j t:Nat)(h1:(JY .any ops j).H i=true:=by kernel_rfl)(h2:(opAt ops j).bind (·.1)=F t:=by rfl):u t=u0 t:=by
 unfold opAt at h2;cases ho:ops[j]? with
 |none=>rw[ho] at h2;cases h2
 |some o=>rw[ho] at h2;exact h j o t (Cv.1 h1) ho h2
def Ends (ops:Array ck)(V:Nat->U->Z->Prop)(m:Nat)(u:Nat->U)(w:Z):Prop:=∀i,i<m->∀o d,ops[i]?=F o->o.dst=F d->V i (u d) w
def Ends.at_ {V:Nat->U->Z->Prop}{u:Nat->U}{w:Z}(h:Ends ops V m u w)(j d:Nat)(h1:j<m:=by decide)(h2:(opAt ops j).bind (·.1)=F d:=by rfl):V j (u d) w:=by
 unfold opAt at h2;cases ho:ops[j]? with
 |none=>rw[ho] at h2;cases h2
 |some o=>rw[ho] at h2;exact h j h1 o d ho h2
def mixed:DP.follows .mixedOrders=true:=by kernel_rfl
def Done.imp {i:Nat}{V V':U->Z->Prop}{u:Nat->U}{w:Z}(hV:∀v w',V v w'->V' v w')(h:Done R DP ops Q n ds i V u w):Done R DP ops Q n ds i V' u w :=
 ea (λ_ _ ⟨v,h1,h2,h3⟩=>⟨v,h1,h2,hV _ _ h3⟩) h
instance {C:Nat->Z->Prop} {md:cw} {i:Nat} [Rfl R]:Rfl (Le R C md ops i):=⟨λw=>⟨Rfl.refl w,λ_ _ _ h=>h⟩⟩
def uz [Goes R](C:Nat->Z->Prop){id:Nat}{u0:Nat->U}{w0:Z}(a8:∀k,C k w0.drew)(X:PN .any ops m)(l:List (U->Z->Prop))(a7:KW R l)
  (step:IM (λi=>∀u w,R w0 w->Fr ops u u0->Late ops i u u0->NB ops (Vl l) i u w->C i w->Done (Le R C .any ops i) DP ops Q n ds i (Vl l i) u w) m)
  (fin:∀u w,R w0 w->Fr ops u u0->Ends ops (Vl l) m u w->wpOps DP ops Q (bb m (ops.size-m)) ⟨T n u,ds⟩ w):(bw id ops bl).wp DP Q ⟨T n u0,ds⟩ w0:=by
 refine wp_region_any mixed ?_;have a6:∀i,i<ops.size->(Array.replicate ops.size bW).LE i bl=false:=λi hi=>by
  rw[Bx,By,AJ hi];rfl
 have aA:m<=ops.size:=by
  obtain h|h:=X.last
  .omega
  .have:=h.size;omega
 refine pi C m 0 (λ_ _=>True) (λ_ _ _ _ h=>h) (λ_ _ _ _ _ h=>h) X (λhsm=>AH hsm (CD _)) (Vl l) (λi v w w' hg h=>a7.at_ i v w w' hg h) (λi hi u w h1 h2 h3 h4 h5=>(step.at_ i hi u w h1 h2 h3 h4 h5).imp λ_ _ h=>⟨h,λ_=>trivial⟩) (λu w h1 h2 h3 _=>fin u w h1 h2 h3) ops.size _ u0 _ (by simp) ?_ (Goes.drew w0) (λ_ _=>rfl) (λi hi hl=>?_) (λi _ hi=>a6 i hi) (λi hi hl=>?_) (λk _=>a8 k) λhsm _=>AH hsm (CD _)
 .rw[CZ.2 λi hi=>by rw[a6 i (BM.1 hi)];rfl,List.length_range]
 .rw[a6 i (by omega)] at hl;cases hl
 .rw[a6 i (by omega)] at hl;cases hl
def qz {i:Nat}{md:cw}(X:PN md ops m)(hi:i<ops.size){j d:Nat}{o:ck}(hj:ops[j]?=F o)(hd:o.dst=F d)(zU:j≠i)(u:Nat->U)(v:U):Hq u ((ops[i]?).bind (·.dst)) v d=u d:=by
 rw[AL hi];show Hq u ops[i].dst v d=u d;cases a6:ops[i].dst with
 |none=>rfl
 |some d' =>
  refine cH λe'=>?_;subst e';obtain h|h:=eG zU
  .exact X.one j i _ _ _ h hj (AL hi) hd a6
  .exact X.one i j _ _ _ h (AL hi) hj a6 hd
def sD [Goes R]{id:Nat}{u0:Nat->U}{w0:Z}(hX:PN .any ops m)(l:List (U->Z->Prop))(a7:KW R l)
  (step:IM (λi=>∀u w,R w0 w->Fr ops u u0->Late ops i u u0->NB ops (Vl l) i u w->Done R DP ops Q n ds i (Vl l i) u w) m)
  (fin:∀u w,R w0 w->Fr ops u u0->Ends ops (Vl l) m u w->wpOps DP ops Q (bb m (ops.size-m)) ⟨T n u,ds⟩ w):(bw id ops bW).wp DP Q ⟨T n u0,ds⟩ w0:=by
 have aD:m<=ops.size:=by
  obtain h|h:=hX.last
  .omega
  .have:=h.size;omega
 have a6:∀ {t k:Nat},IQ ops t=bl->∀j o,ops[j]?=F o->o.dst=F t->k<=j:=λ{t k} ht j o hj hd=>by
  unfold IQ at ht;rw[Bb] at ht;have:=ht _ (Bi hj);rw[hd] at this;simp at this
 have key:∀d k u w,k+d=m->R w0 w->(∀t,(∀j o,ops[j]?=F o->o.dst=F t->k<=j)->u t=u0 t)->Ends ops (Vl l) k u w->wpOps DP ops Q (bb k d++bb m (ops.size-m)) ⟨T n u,ds⟩ w:=by
  intro d
  induction d with
  |zero =>
   intro k u w hk hg hf hv;obtain rfl:k=m:=by omega
   exact fin u w hg (λt ht=>hf t (a6 ht)) hv
  |succ d ih =>
   intro k u w hk hg hf hv;rw[e7,BN,dn];refine ea ?_ (step.at_ k (by omega) u w hg (λt ht=>hf t λj o hj hd=>a6 ht j o hj hd) (λj o t hkj hj hd=>hf t λj' o' hj' a8=>?_) λj hj o d ho hd=>hv j (hX.lt k (by omega) j hj) o d ho hd)
   rotate_left
   .have aA : j' = j := by
     obtain h|h|h:=dt j' j
     .exact AH hd (hX.one j' j _ _ _ h hj' hj a8)
     .exact h
     .exact AH a8 (hX.one j j' _ _ _ h hj hj' hd)
    subst aA;have:=hX.lt j' (AC.1 hj').1 k hkj;omega
   rintro a' w' ⟨v,rfl,zV,hV⟩;refine ih (k+1) _ w' (by omega) (Goes.trans hg zV) (λt ht=>?_) λj hj o d ho hd=>?_
   .have aB : (ops[k]'(by omega)).dst ≠ F t := fun e => by
     have:=ht k _ (AL (by omega)) e;omega
    have e:Hq u ((ops[k]?).bind (·.dst)) v t=u t:=by
     rw[AL (show k<ops.size by omega)];show Hq u (ops[k]'(by omega)).dst v t=u t;cases aC:(ops[k]'(by omega)).dst with
     |none=>rfl
     |some d=>exact cH λe=>aB (by rw[aC,e])
    rw[e];exact hf t λj o hj hd=>by have:=ht j o hj hd;omega
   by_cases e:j=k
   .subst e;rw[ho];show Vl l j (Hq u o.dst v d) w';rw[hd];show Vl l j (KZ u d v d) w';rw[bQ];exact hV
   .rw[qz hX (by omega) ho hd e];exact a7.at_ j _ _ _ zV (hv j (by omega) o d ho hd)
 refine wp_region ?_;have e:cK ops.size=bb 0 m++bb m (ops.size-m):=by
  have:=eH (s:=0) (m:=m) (n:=ops.size-m) (step:=1);rw[gR,AU] at this;rw[ez,this];congr 1;omega
 rw[e];exact key m 0 u0 w0 (by omega) (Rfl.refl _) (λ_ _=>rfl) λi hi=>AH hi (BY _)
section
variable {ops:Array ck} {Q:ew->Act->Z->Prop} {n m:Nat} {u:Nat->U} {ds:List cU} {w w':Z}
def kj {i:Nat}{d:Option Tmp}{op:Op}{g:Option (Nat×Bool)}{t:bc}{K:Act->Z->Prop}(h:opAt ops i=F (d,op,g,t))(hl:Lets ops n u g)
  (hw:∀o:ck,o.dst=d->o.op=op->o.type=t->df DP o ⟨T n u,ds⟩ w K Q):wpOp DP ops Q i K ⟨T n u,ds⟩ w:=by
 obtain⟨o,h1,h2,h3,h4,h5⟩:=JZ h;unfold wpOp;simp only[h1];rw[AJ (lz (by rw[h4];exact hl))];exact .inl (hw o h2 h3 h5)
def sE {i:Nat}{d:Option Tmp}{op:Op}{g:Option (Nat×Bool)}{t:bc}{K:Act->Z->Prop}(h:opAt ops i=F (d,op,g,t))(v:U)(w':Z)
  (hr:∀ev,Nb n u ev->(cq ev (Iy op t)).run DP w=.ok (.value v) w') (hK:K ⟨T n (Hq u d v),ds⟩ w') (hl:Lets ops n u g:=by trivial):wpOp DP ops Q i K ⟨T n u,ds⟩ w:=by
 refine kj h hl λo h1 h2 h3=>?_;unfold df;rw[dR,h2,h3,hr _ dz,fo,h1,dZ];exact hK
def fX {i:Nat}{d:Option Tmp}{op:Op}{g:Option (Nat×Bool)}{t:bc}{K:Act->Z->Prop}(h:opAt ops i=F (d,op,g,t))(w':Z)
  (hr:∀ev,Nb n u ev->(cq ev (Iy op t)).run DP w=.ok .skip w') (hK:K ⟨T n (Hq u d undef),ds⟩ w') (hl:Lets ops n u g:=by trivial):wpOp DP ops Q i K ⟨T n u,ds⟩ w:=by
 refine kj h hl λo h1 h2 h3=>?_;unfold df;rw[dR,h2,h3,hr _ dz,fA,h1,dZ];exact hK
def lB {i:Nat}{d:Option Tmp}{t:Nat}{g:Option (Nat×Bool)}{ty:bc}{K:Act->Z->Prop}(h:opAt ops i=F (d,.assign (.tmp t),g,ty))(hK:K ⟨T n (Hq u d (u t)),ds⟩ w)(hl:Lets ops n u g:=by trivial)(ht:t<n:=by decide):wpOp DP ops Q i K ⟨T n u,ds⟩ w :=
 sE h (u t) w (λev he=>by show(pure _:Sem Next).run _ _=_;rw[he.1 t ht];rfl) hK hl
end
def xa {ops:Array ck}{D:List Nat}(hD:ops.toList.O (·.dst)=D){t:Nat}(h:D.H t=bW):IQ ops t=true:=by
 subst hD;unfold IQ;rw[Bb];intro o ho;have hn:t ∉ ops.toList.O (·.dst):=by simpa using h
 have:o.dst≠F t:=λe=>hn (eF.2 ⟨o,by simpa using ho,e⟩);simpa using this
def sG {u:Nat->U}(D:List Nat):∀(l:List U) (t:Nat),(D.foldl (λa d=>a.SS d (u d)) l)[t]?=if t∈D/\t<l.L then F (u t) else l[t]?:=by
 induction D with
 |nil=>intro l t;simp
 |cons d D ih =>
  intro l t;rw[Bg,ih,Cu,List.getElem?_set];by_cases h1:t∈D/\t<l.L
  .rw[AJ h1,AJ ⟨Cz _ h1.1,h1.2⟩]
  .rw[AE h1];by_cases h2:d=t
   .subst h2;by_cases h3:d<l.L
    .rw[AJ rfl,AJ h3,AJ ⟨CE,h3⟩]
    .rw[AJ rfl,AE h3,AE λh=>h3 h.2,BV (by omega)]
   .rw[AE h2,AE λh=>(AM.1 h.1).elim (λe=>h2 e.LT) λe=>h1 ⟨e,h.2⟩]
def aS {n:Nat}{u u':Nat->U}{l:List U}{ops:Array ck}(D:List Nat)(hD:ops.toList.O (·.dst)=D)(hn:l.L=n)(hu:∀i,u i=l[i]?.LE undef)(hf:∀t,IQ ops t=bl->u' t=u t):T n u'=(D.foldl (λa d=>a.SS d (u' d)) l).Li:=by
 unfold T;congr 1;refine List.ext_getElem? λt=>?_;rw[sG];by_cases ht:t<n
 .rw[BE,List.getElem?_range ht];show F (u' t)=_;by_cases hm:t∈D
  .rw[AJ ⟨hm,by omega⟩]
  .rw[AE λh=>hm h.1,hf t (xa hD (by simpa using hm)),hu,AG (by omega)];rfl
 .rw[BV (by simp;omega),AE λh=>by omega,BV (by omega)]
section
variable {u:Nat->U} {w w':Z}
def uB [Rfl R]{i j:Nat}{b:Bool}{d:Option Tmp}{op:Op}{t:bc}{V:U->Z->Prop}(h:opAt ops i=F (d,op,F (j,b),t)){d':Nat}(h3:u d'=.bool !b)(hV:V undef w)(h1:(opAt ops j).bind (·.1)=F d':=by rfl)(h2:d'<n:=by decide):Done R DP ops Q n ds i V u w:=by
 obtain⟨o,g1,g2,_,g4,_⟩:=JZ h;have e:(ops[j]?).bind (·.dst)=F d':=by
  unfold opAt at h1;cases ho:ops[j]? with
  |none=>rw[ho] at h1;cases h1
  |some o=>rw[ho] at h1;exact h1
 have hw:br o (yielded ops (T n u))=false:=by
  unfold br;rw[g4];simp only[yielded,e,BD,kg h2,h3];cases b<;>rfl
 unfold Done wpOp;simp only[g1];rw[AE (by rw[hw];simp)];refine⟨undef,?_,Rfl.refl w,hV⟩;rw[dZ];rfl
end
variable {R S:Z->Z->Prop} {H:Z->Prop} {C:Nat->Z->Prop} {ops:Array ck} {Q:ew->Act->Z->Prop} {n m k:Nat} {ds:List cU} {u0:Nat->U} {w0:Z} {l:List (U->Z->Prop)} {d:Option Tmp} {g:Option (Nat×Bool)} {t ty:bc} {x:U} {a b:Nat}
def Vr (l:List (U->Z->Prop))(i:Nat):U->Z->Prop:=Vl l.reverse i
def St (R S:Z->Z->Prop)(H:Z->Prop)(ops:Array ck)(Q:ew->Act->Z->Prop)(n:Nat)(ds:List cU)(u0:Nat->U)(w0:Z)(k:Nat)(l:List (U->Z->Prop))(V:U->Z->Prop):Prop :=
 (∀i,Jf R (Vr l i))->Jf R V/\∀u w,R w0 w->Fr ops u u0->Late ops k u u0->NB ops (Vr l) k u w->H w->Done S DP ops Q n ds k V u w
structure O8 (R:Z->Z->Prop)(C:Nat->Z->Prop)(ops:Array ck)(Q:ew->Act->Z->Prop)(n:Nat)(ds:List cU)(m:Nat)(u0:Nat->U)(w0:Z)(k:Nat)(l:List (U->Z->Prop)):Prop where
 txt:PN .any ops m
 c0:∀k,C k w0.drew
 len:l.L=k
 LT:∀i,Jf R (Vr l i)
 step:∀i,i<k->i<ops.size->∀l2 u w,R w0 w->Fr ops u u0->Late ops i u u0->NB ops (Vl (l.reverse++l2)) i u w->C i w->Done (Le R C .any ops i) DP ops Q n ds i (Vl (l.reverse++l2) i) u w
def sH {a b:List (U->Z->Prop)}{i:Nat}(h:i<a.L):Vl (a++b) i=Vl a i:=by unfold Vl;rw[Bn h]
def vg {a b:List (U->Z->Prop)}{V:U->Z->Prop}{i:Nat}(h:a.L=i):Vl (a++V::b) i=V:=by subst h;unfold Vl;rw[Bo (AD _)];simp
def Ew {G:Prop}{V:U->Z->Prop}(s:St R (Le R C .any ops k) (C k) ops Q n ds u0 w0 k l V)(rest:O8 R C ops Q n ds m u0 w0 (k+1) (V::l)->G)(h:O8 R C ops Q n ds m u0 w0 k l):G:=by
 obtain⟨hm,hs⟩:=s h.LT;have hl:l.reverse.L=k:=by rw[List.length_reverse,h.len]
 refine rest ⟨h.txt,h.c0,by rw[AQ,h.len],λi=>?_,λi hi his l2=>?_⟩
 .unfold Vr;rw[e6];obtain e|e|e:=dt i k
  .rw[sH (by omega)];exact h.LT i
  .rw[vg (by omega)];exact hm
  .unfold Vl;rw[BV (by simp;have:=h.len;omega)];exact λ_ _ _ _ h=>h
 .rw[e6,Cy];by_cases e:i<k
  .exact h.step i e his _
  .obtain rfl:i=k:=by omega
   intro u w hg hf zY hd hC;rw[show Vl (l.reverse++([V]++l2)) i=V from vg hl]
   exact hs u w hg hf zY (λj hj o d ho a6=>by
    have:=hd j hj o d ho a6
    rwa [sH (by have:=h.txt.lt _ his j hj;omega)] at this) hC
def Ea {G:Prop}{V:U->Z->Prop}(s:St R R (λ_=>True) ops Q n ds u0 w0 k l V)(rest:O8 R (λ_ _=>True) ops Q n ds m u0 w0 (k+1) (V::l)->G):O8 R (λ_ _=>True) ops Q n ds m u0 w0 k l->G :=
 Ew (λhm=>⟨(s hm).1,λu w hg hf hl hd hC=>((s hm).2 u w hg hf hl hd hC).weak λ_ h=>⟨h,λ_ _ _ _=>trivial⟩⟩) rest
def PR [Goes R](C:Nat->Z->Prop)(m:Nat)(hC:∀k,C k w0.drew){id:Nat}{dr:Bool}(rest:O8 R C ops Q n ds m u0 w0 0 []->(bw id ops dr).wp DP Q ⟨T n u0,ds⟩ w0)(X:G9 .any ops m=true:=by kernel_rfl):(bw id ops dr).wp DP Q ⟨T n u0,ds⟩ w0 :=
 rest ⟨yD X,hC,rfl,λi=>by unfold Vr Vl;simp[Jf],λi hi=>AH hi (BY _)⟩
def cv [Goes R](m:Nat){id:Nat}{dr:Bool}(rest:O8 R (λ_ _=>True) ops Q n ds m u0 w0 0 []->(bw id ops dr).wp DP Q ⟨T n u0,ds⟩ w0)(X:G9 .any ops m=true:=by kernel_rfl):(bw id ops dr).wp DP Q ⟨T n u0,ds⟩ w0:=PR _ m (λ_=>trivial) rest X
def gD:∀ {l:List (U->Z->Prop)},(∀i,Jf R (Vl l i))->KW R l
 |[],_=>trivial
 |_::_,h=>⟨h 0,gD λi=>h (i+1)⟩
def G7 [Goes R]{id:Nat}(fin:∀u w,R w0 w->Fr ops u u0->Ends ops (Vr l) m u w->wpOps DP ops Q (bb m (ops.size-m)) ⟨T n u,ds⟩ w)(hk:k=m:=by exact rfl)(h:O8 R C ops Q n ds m u0 w0 k l):(bw id ops bl).wp DP Q ⟨T n u0,ds⟩ w0:=by
 subst hk;have hX:=h.txt;refine uz C h.c0 hX l.reverse (gD h.LT) (IM.of λi hi=>?_) fin
 have:=h.step i hi (by
  obtain h|h:=hX.last
  .omega
  .have:=h.size;omega) []
 rw[Ct] at this;exact this
def Lf [Goes R]{id:Nat}{dr:Bool}(fin:∀u w,R w0 w->Fr ops u u0->Ends ops (Vr l) m u w->wpOps DP ops Q (bb m (ops.size-m)) ⟨T n u,ds⟩ w)(hk:k=m:=by exact rfl)(h:O8 R (λ_ _=>True) ops Q n ds m u0 w0 k l):(bw id ops dr).wp DP Q ⟨T n u0,ds⟩ w0:=by
 cases dr with
 |true=>exact G7 fin hk h
 |false =>
  subst hk;have hX:=h.txt;refine sD hX l.reverse (gD h.LT) (IM.of λi hi u w h1 h2 h3 h4=>?_) fin
  have:=h.step i hi (by
   obtain h|h:=hX.last
   .omega
   .have:=h.size;omega) []
  rw[Ct] at this;exact(this u w h1 h2 h3 h4 trivial).weak λ_ h=>h.1
def At (R:Z->Z->Prop)(ops:Array ck)(n:Nat)(u0:Nat->U)(w0:Z)(k:Nat)(l:List (U->Z->Prop))(t:Nat)(x:U):Prop :=
 t<n/\∀u w,R w0 w->Fr ops u u0->Late ops k u u0->NB ops (Vr l) k u w->u t=x
def FI {t:Nat}(e:u0 t=x)(hf:IQ ops t=true:=by kernel_rfl)(ht:t<n:=by decide):At R ops n u0 w0 k l t x:=⟨ht,λ_ _ _ f _ _=>(f t hf).trans e⟩
def Ed {t:Nat}(j:Nat)(h2:(opAt ops j).bind (·.1)=F t:=by exact rfl)(hx:Vr l j=λv _=>v=x:=by exact rfl)(h1:(JY .any ops k).H j=true:=by kernel_rfl)(ht:t<n:=by decide):At R ops n u0 w0 k l t x :=
 ⟨ht,λu w _ _ _ d=>by have:=d.at_ j t h1 h2;rw[hx] at this;exact this⟩
def uC {t:Nat}(j:Nat)(e:u0 t=x)(h1:(JY .any ops j).H k=true:=by kernel_rfl)(h2:(opAt ops j).bind (·.1)=F t:=by exact rfl)(ht:t<n:=by decide):At R ops n u0 w0 k l t x:=⟨ht,λ_ _ _ _ h _=>(h.at_ j t h1 h2).trans e⟩
def Mn (ops:Array ck)(n k:Nat):Option (Nat×Bool)->Bool
 |none=>bl
 |some (j,_)=>(JY .any ops k).H j&&match(opAt ops j).bind (·.1) with
  |some d=>decide (d<n)
  |none=>bW
def Gv (l:List (U->Z->Prop)):Option (Nat×Bool)->U->Z->Prop
 |none=>λv _=>v=.bool bl
 |some (j,_)=>Vr l j
def gb:Option (Nat×Bool)->Bool
 |none=>bl
 |some (_,b)=>b
def cx {u:Nat->U}{w:Z}(hd:NB ops (Vr l) k u w)(h1:Mn ops n k g=bl)(h2:Gv l g=λv _=>v=.bool (gb g)):Lets ops n u g:=by
 cases g with
 |none=>trivial
 |some q =>
  obtain⟨j,b⟩:=q;unfold Mn at h1;rw[AO] at h1;cases e:(opAt ops j).bind (·.1) with
  |none=>rw[e] at h1;cases h1.2
  |some d =>
   rw[e] at h1;have:=hd.at_ j d h1.1 e;rw[show Vr l j=_ from h2] at this;exact⟨d,e,of_decide_eq_true h1.2,this⟩
def NC:Option Tmp×Op×Option (Nat×Bool)×bc->Option (Nat×Option (Nat×Bool))
 |(_,.move (.tmp t),g,_)=>F (t,g)
 |(_,.assign (.tmp t),g,_)=>F (t,g)
 |_=>O
def pj [Rfl R]{i t:Nat}{V:U->Z->Prop}{u:Nat->U}{w:Z}(h:(opAt ops i).bind NC=F (t,g))(hV:V (u t) w)(hl:Lets ops n u g)(ht:t<n):Done R DP ops Q n ds i V u w:=by
 cases e:opAt ops i with
 |none=>rw[e] at h;cases h
 |some q =>
  rw[e] at h;obtain⟨d,op,g',ty⟩:=q;change NC (d,op,g',ty)=_ at h;unfold NC at h;split at h
  .rename_i e';cases e';cases h;exact sB e hV hl ht
  .rename_i e';cases e';cases h;exact oh e hV hl ht
  .cases h
def qA [Rfl S]{t:Nat}(p:At R ops n u0 w0 k l t x)(h:(opAt ops k).bind NC=F (t,g):=by exact rfl)(h1:Mn ops n k g=true:=by kernel_rfl)(h2:Gv l g=λv _=>v=.bool (gb g):=by exact rfl):St R S H ops Q n ds u0 w0 k l λv _=>v=x :=
 λ_=>⟨aX x,λu w hg hf hl hd _=>pj h (p.2 u w hg hf hl hd) (cx hd h1 h2) p.1⟩
def Ez [Rfl S]{t:Nat}(e:u0 t=x)(h:(opAt ops k).bind NC=F (t,g):=by exact rfl)(hf:IQ ops t=true:=by kernel_rfl)(ht:t<n:=by decide)(h1:Mn ops n k g=true:=by kernel_rfl)(h2:Gv l g=λv _=>v=.bool (gb g):=by exact rfl):St R S H ops Q n ds u0 w0 k l λv _=>v=x :=
 qA (FI e hf ht) h h1 h2
def ND [Rfl S]{t:Nat}(j:Nat)(h:(opAt ops k).bind NC=F (t,g):=by exact rfl)(h3:(opAt ops j).bind (·.1)=F t:=by exact rfl)(h4:(JY .any ops k).H j=true:=by kernel_rfl)(ht:t<n:=by decide)(h1:Mn ops n k g=true:=by kernel_rfl)(h2:Gv l g=λv _=>v=.bool (gb g):=by exact rfl):St R S H ops Q n ds u0 w0 k l (Vr l j) :=
 λhm=>⟨hm j,λu w hg hf hl hd _=>pj h (hd.at_ j t h4 h3) (cx hd h1 h2) ht⟩
def ey [Rfl S]{j t:Nat}{op:Op}{c:Bool}(h:opAt ops k=F (d,op,F (j,c),ty):=by exact rfl)(hx:Vr l j=λv _=>v=.bool (!c):=by exact rfl)(h3:(opAt ops j).bind (·.1)=F t:=by exact rfl)(h4:(JY .any ops k).H j=true:=by kernel_rfl)(ht:t<n:=by decide):St R S H ops Q n ds u0 w0 k l λv _=>v=undef :=
 λ_=>⟨aX _,λu w _ _ _ hd _=>uB h (by have:=hd.at_ j t h4 h3;rw[hx] at this;exact this) rfl h3 ht⟩
def Fj [Rfl S]{p:cF}(pa:At R ops n u0 w0 k l a (.S (F p)))(hc:∀w,R w0 w->w.L p=F x)(h:opAt ops k=F (d,.load t (.tmp a),g,ty):=by exact rfl)(ht:kh t=true:=by kernel_rfl)(h1:Mn ops n k g=true:=by kernel_rfl)(h2:Gv l g=λv _=>v=.bool (gb g):=by exact rfl):St R S H ops Q n ds u0 w0 k l λv _=>v=x :=
 λ_=>⟨aX _,λu w hg hf hl hd _=>sC h (pa.2 u w hg hf hl hd) (hc w hg) (cx hd h1 h2) pa.1 ht⟩
def MH [Rfl S]{p:cF}(x:U)(pa:At R ops n u0 w0 k l a (.S (F p)))(h:opAt ops k=F (d,.load t (.tmp a),g,ty))(hc:∀w,R w0 w->∀ev:cd->U,ev (.tmp a)=.S (F p)->(cq ev (Iy (.load t (.tmp a)) ty)).run DP w=.ok (.value x) w)(h1:Mn ops n k g=true:=by kernel_rfl)(h2:Gv l g=λv _=>v=.bool (gb g):=by exact rfl):St R S H ops Q n ds u0 w0 k l λv _=>v=x :=
 λ_=>⟨aX _,λu w hg hf hl hd _=>aI h (λev he=>hc w hg ev ((he.1 a pa.1).trans (pa.2 u w hg hf hl hd))) (cx hd h1 h2)⟩
def Gg [Rfl S]{s f b o:Nat}(o':Nat)(pa:At R ops n u0 w0 k l a (.S (F ⟨b,o,O⟩)))(h:opAt ops k=F (d,.fieldAddr s (.tmp a) f,g,ty):=by exact rfl)(ho:o+PO s f=o':=by kernel_rfl)(hk:RO s f=true:=by kernel_rfl)(h1:Mn ops n k g=true:=by kernel_rfl)(h2:Gv l g=λv _=>v=.bool (gb g):=by exact rfl):St R S H ops Q n ds u0 w0 k l λv _=>v=.S (F ⟨b,o',O⟩) :=
 λ_=>⟨aX _,λu w hg hf hl hd _=>qy h (pa.2 u w hg hf hl hd) ho hk (cx hd h1 h2) pa.1⟩
def Il [Rfl S]{q o len cap i:Nat}(o' s:Nat)(pa:At R ops n u0 w0 k l a (.slice (F ⟨q,o,O⟩) len cap))(pb:At R ops n u0 w0 k l b (Y I (i:Nat)))(h:opAt ops k=F (d,.indexAddr t (.tmp a) (.tmp b),g,ty):=by exact rfl)(hk:i<len:=by omega)(ho:o+i*s=o':=by omega)(hs:RP t=s:=by kernel_rfl)(hz:s≠0:=by decide)
  (h1:Mn ops n k g=true:=by kernel_rfl) (h2:Gv l g=λv _=>v=.bool (gb g):=by exact rfl):St R S H ops Q n ds u0 w0 k l λv _=>v=.S (F ⟨q,o',O⟩) :=
 λ_=>⟨aX _,λu w hg hf hl hd _=>ki s h (pa.2 u w hg hf hl hd) (pb.2 u w hg hf hl hd) hk ho hs hz (cx hd h1 h2) pa.1 pb.1⟩
def Kn [Rfl S]{y:Int}{z:U}{op:BinOp}{s t':bc}(x:Int)(pa:At R ops n u0 w0 k l a (Y I y))(hx:-9223372036854775808<=x/\x<9223372036854775808:=by omega)(h:opAt ops k=F (d,.binOp op s (.tmp a) (.const z) t',g,ty):=by exact rfl)
  (hr:IntKind.i64.wrap x=x->∀w (ev:cd->U),ev (.tmp a)=Y I y->(∀c,ev (.const c)=c)->(cq ev (Iy (.binOp op s (.tmp a) (.const z) t') ty)).run DP w=.ok (.value (Y I x)) w:=by intro _ _ _ _ _;go_simp) (h1:Mn ops n k g=true:=by kernel_rfl) (h2:Gv l g=λv _=>v=.bool (gb g):=by exact rfl):St R S H ops Q n ds u0 w0 k l λv _=>v=Y I x :=
 λ_=>⟨aX _,λu w hg hf hl hd _=>aI h (λev he=>hr (by simp[cA,cE,cf];omega) w ev ((he.1 a pa.1).trans (pa.2 u w hg hf hl hd)) he.2.1) (cx hd h1 h2)⟩
def J0 [Rfl S]{y z:U}{op:BinOp}{s t':bc}(x:U)(pa:At R ops n u0 w0 k l a y)(pb:At R ops n u0 w0 k l b z)(h:opAt ops k=F (d,.binOp op s (.tmp a) (.tmp b) t',g,ty):=by exact rfl)(hr:∀w (ev:cd->U),ev (.tmp a)=y->ev (.tmp b)=z->(cq ev (Iy (.binOp op s (.tmp a) (.tmp b) t') ty)).run DP w=.ok (.value x) w:=by intro _ _ _ _;go_simp)
  (h1:Mn ops n k g=true:=by kernel_rfl) (h2:Gv l g=λv _=>v=.bool (gb g):=by exact rfl):St R S H ops Q n ds u0 w0 k l λv _=>v=x :=
 λ_=>⟨aX _,λu w hg hf hl hd _=>aI h (λev he=>hr w ev ((he.1 a pa.1).trans (pa.2 u w hg hf hl hd)) ((he.1 b pb.1).trans (pb.2 u w hg hf hl hd))) (cx hd h1 h2)⟩
def Ar [Rfl S]{p:Option cF}{j cap:Nat}{ats:Array bc}(pa:At R ops n u0 w0 k l a (.slice p j cap))(h:opAt ops k=F (d,.call { callee:=.builtin .len,args:=#[.tmp a],argTypes:=ats },g,ty):=by exact rfl)(hr:∀w (ev:cd->U),ev (.tmp a)=.slice p j cap->(cq ev (Iy (.call { callee:=.builtin .len,args:=#[.tmp a],argTypes:=ats }) ty)).run DP w=.ok (.value (Y I (j:Nat))) w:=by intro _ _ _;go_simp)
  (h1:Mn ops n k g=true:=by kernel_rfl) (h2:Gv l g=λv _=>v=.bool (gb g):=by exact rfl):St R S H ops Q n ds u0 w0 k l λv _=>v=Y I (j:Nat) :=
 λ_=>⟨aX _,λu w hg hf hl hd _=>aI h (λev he=>hr w ev ((he.1 a pa.1).trans (pa.2 u w hg hf hl hd))) (cx hd h1 h2)⟩
def NF (V:U->Z->Prop)(hm:Jf R V)(s:∀u w,R w0 w->Fr ops u u0->Late ops k u u0->NB ops (Vr l) k u w->H w->Done S DP ops Q n ds k V u w):St R S H ops Q n ds u0 w0 k l V:=λ_=>⟨hm,s⟩
def JL (V:U->Z->Prop)(hm:Jf R V)(s:∀u w,R w0 w->Fr ops u u0->Late ops k u u0->NB ops (Vr l) k u w->Done S DP ops Q n ds k V u w):St R S H ops Q n ds u0 w0 k l V:=NF V hm λu w a b c d _=>s u w a b c d
def Ko (x:U)(s:∀u w,R w0 w->Fr ops u u0->Late ops k u u0->NB ops (Vr l) k u w->Done S DP ops Q n ds k (λv _=>v=x) u w):St R S H ops Q n ds u0 w0 k l λv _=>v=x:=JL _ (aX x) s
def MJ (ops:Array ck)(n k:Nat):List Nat->List cd->Bool
 |[],[]=>bl
 |j::js,.tmp a::os=>(JY .any ops k).H j&&((opAt ops j).bind (·.1)==F a)&&decide (a<n)&&MJ ops n k js os
 |_,_=>bW
def kK {u:Nat->U}{w:Z}{ev:cd->U}(hd:NB ops (Vr l) k u w)(he:Nb n u ev):∀(js:List Nat) (os:List cd) (xs:List U),MJ ops n k js os=bl->js.map (Vr l)=xs.map (λx v _=>v=x)->os.map ev=xs
 |[],[],xs,_,h2=>by
  cases xs with
  |nil=>rfl
  |cons x xs=>cases h2
 |j::js,.tmp a::os,xs,h1,h2=>by
  cases xs with
  |nil=>cases h2
  |cons x xs =>
   simp only[MJ,AO,beq_iff_eq,decide_eq_true_eq] at h1;obtain⟨⟨⟨q1,q2⟩,q3⟩,q4⟩:=h1;rw[Ca,Ca] at h2;injection h2 with e1 e2
   have:=hd.at_ j a q1 q2;rw[e1] at this;rw[Ca,he.1 a q3,this,kK hd he js os xs q4 e2]
 |[],_::_,_,h1,_=>by cases h1
 |_::_,[],_,h1,_=>by cases h1
 |_::_,.const _::_,_,h1,_=>by cases h1
 |_::_,.func _::_,_,h1,_=>by cases h1
def O9 {f:e8}{fn:gU}{args:Array cd}{ats:Array bc}{xs:List U}(hf:DP.L[f]?=F fn)(js:List Nat)(V:U->Z->Prop)(hm:Jf R V)(hc:∀w,R w0 w->H w->fz DP f xs.Li w λe w'=>∃v,e=.L v/\S w w'/\V v w')
  (h:opAt ops k=F (d,.call { callee:=.value (.func f),args:=args,argTypes:=ats },g,ty):=by exact rfl) (ha:MJ ops n k js args.toList=true:=by kernel_rfl) (hx:js.map (Vr l)=xs.map (λx v _=>v=x):=by exact rfl)
  (h1:Mn ops n k g=true:=by kernel_rfl) (h2:Gv l g=λv _=>v=.bool (gb g):=by exact rfl) (hn:(fn.name == "runtime.NumGoroutine")=false:=by kernel_rfl) (hb:fn.body.L=false:=by kernel_rfl):St R S H ops Q n ds u0 w0 k l V :=
 λ_=>⟨hm,λu w hg _ _ hd hC=>iE h hf xs.Li (λev he=>by
  rw[<-Array.toList_inj,CV]
  exact kK hd he js _ xs ha hx) (hc w hg hC) (cx hd h1 h2) hn hb⟩
def As {f:e8}{fn:gU}{args:Array cd}{ats:Array bc}{xs:List U}(hf:DP.L[f]?=F fn)(js:List Nat)(V:U->Z->Prop)(hm:Jf R V)(hc:∀w,R w0 w->fz DP f xs.Li w λe w'=>∃v,e=.L v/\S w w'/\V v w')
  (h:opAt ops k=F (d,.call { callee:=.value (.func f),args:=args,argTypes:=ats },g,ty):=by exact rfl) (ha:MJ ops n k js args.toList=true:=by kernel_rfl) (hx:js.map (Vr l)=xs.map (λx v _=>v=x):=by exact rfl)
  (h1:Mn ops n k g=true:=by kernel_rfl) (h2:Gv l g=λv _=>v=.bool (gb g):=by exact rfl) (hn:(fn.name == "runtime.NumGoroutine")=false:=by kernel_rfl) (hb:fn.body.L=false:=by kernel_rfl):St R S H ops Q n ds u0 w0 k l V :=
 O9 hf js V hm (λw hg _=>hc w hg) h ha hx h1 h2 hn hb
def RQ {f:e8}{fn:gU}{args:Array cd}{ats:Array bc}{xs:List U}(hf:DP.L[f]?=F fn)(js:List Nat)(hc:∀w,R w0 w->fz DP f xs.Li w λe w'=>e=.L x/\S w w')
  (h:opAt ops k=F (d,.call { callee:=.value (.func f),args:=args,argTypes:=ats },g,ty):=by exact rfl) (ha:MJ ops n k js args.toList=true:=by kernel_rfl) (hx:js.map (Vr l)=xs.map (λx v _=>v=x):=by exact rfl)
  (h1:Mn ops n k g=true:=by kernel_rfl) (h2:Gv l g=λv _=>v=.bool (gb g):=by exact rfl) (hn:(fn.name == "runtime.NumGoroutine")=false:=by kernel_rfl) (hb:fn.body.L=false:=by kernel_rfl):St R S H ops Q n ds u0 w0 k l λv _=>v=x :=
 As hf js _ (aX x) (λw hg=>(hc w hg).LT λ_ _ h=>⟨_,h.1,h.2,rfl⟩) h ha hx h1 h2 hn hb
structure Rd (w w':Z):Prop where
 heap:w'.heap=w.heap
 os:w'.os=w.os
 tape:w'.tape=w.tape
 output:w'.output=w.output
 drawn:w.drawn<=w'.drawn
def Rd.cell {w w':Z}(h:Rd w w')(p:cF):w'.L p=w.L p:=by unfold fc;rw[h.heap]
def Rd.gr {w w':Z}(h:Rd w w'):Gr w w':=⟨⟨h.os,h.tape,h.output,by rw[h.heap];exact AD _,λb _=>by rw[h.heap]⟩,h.drawn⟩
instance:Goes Rd:={ refl:=λw=>⟨rfl,rfl,rfl,rfl,AD _⟩,trans:=λ{a b c} h k=>⟨k.heap.trans h.heap,k.os.trans h.os,k.tape.trans h.tape,k.output.trans h.output,AX h.drawn k.drawn⟩,drew:=λw=>⟨rfl,rfl,rfl,rfl,Nat.le_succ _⟩ }
variable {ops:Array ck} {Q:ew->Act->Z->Prop} {n:Nat} {u:Nat->U} {ds:List cU} {w:Z}
def kk {f:e8} {a:Nat} {args:Array cd} {ats:Array bc} {t:bc} {fn:gU} (hf:DP.L[f]?=F fn) {vals a6:Array U} (hu:u a=.func (.func f) #[] a6) (a7:a<n) (ha:∀ev,Nb n u ev->args.map ev=vals) (hn:(fn.name == "runtime.NumGoroutine")=bW) (hb:fn.body.L=bW) :
  (cq (Act.eval ⟨T n u,ds⟩) (Iy (.call { callee:=.value (.tmp a),args:=args,argTypes:=ats }) t)).run DP w=.ok (.enter f (vals++a6)) w:=by
 unfold cq Iy;have e1:=ha _ (dz (ds:=ds));have e2:=((dz (n:=n) (u:=u) (ds:=ds)).1 a a7).trans hu;have a8:fn.name ≠ "runtime.NumGoroutine":=by simpa using hn
 have hb':fn.body≠none:=λe=>by rw[e] at hb;cases hb
 simp[resolve,e1,e2,Deferred.ofValue,invoke,callFunc,hf,a8,hb']
def dT {i:Nat}{d:Option Tmp}{f:e8}{a:Nat}{args:Array cd}{ats:Array bc}{g:Option (Nat×Bool)}{t:bc}{K:Act->Z->Prop}(h:opAt ops i=F (d,.call { callee:=.value (.tmp a),args:=args,argTypes:=ats },g,t)){fn:gU}(hf:DP.L[f]?=F fn)(vals a6:Array U)
  (hu:u a=.func (.func f) #[] a6) (ha:∀ev,Nb n u ev->args.map ev=vals) (hc:fz DP f (vals++a6) w λe w'=>∃v,e=.L v/\K ⟨T n (Hq u d v),ds⟩ w') (hl:Lets ops n u g:=by trivial) (a7:a<n:=by decide) (hn:(fn.name == "runtime.NumGoroutine")=false:=by kernel_rfl) (hb:fn.body.L=false:=by kernel_rfl):wpOp DP ops Q i K ⟨T n u,ds⟩ w:=by
 refine kj h hl λo h1 h2 h3=>?_;unfold df;rw[dR,h2,kk hf hu a7 ha hn hb,fq];refine hc.LT ?_;rintro e w' ⟨v,rfl,h5⟩;have e5:K ((⟨T n u,ds⟩:Act).put o.dst v) w':=by
  rw[h1,dZ];exact h5
 exact e5
def pk (f:Eu)(w:Z):fz DP 120 #[Js f] w λe w'=>e=.L (Y I f.yr)/\Gr w w':=by
 have HG:Hid (∀o,Gr w (w.Li o)):=AB λo=>(Gr.refl w).Li o;unfold Js i64;go_enter Sq.func120,Tryz.ntmps120;go_wp2;go_ret;exact⟨rfl,HG.out _⟩
structure Mf (w:Z)(hb B:Nat)(A:Option cF)(cap:Nat)(l:List Int)(M pb:Nat)(kd pt ot at_ er:Int)(W:Z):Prop where
 hand:Hand W hb B A cap l M
 kt:KT (·=hb) w W
 zero:W.heap[w.heap.size]?=F (bo #[i64 0,i64 0,i64 0,i64 0,i64 0] 83 (0,0))
 obj:W.heap[pb]?=F (bo #[i64 kd,i64 pt,i64 ot,i64 at_,i64 er] 83 (0,0))
 lt:hb<w.heap.size
 pb:w.heap.size<pb
section
variable {w W W':Z} {hb B cap M M' pb:Nat} {A:Option cF} {l:List Int} {kd pt ot at_ er:Int}
def E0 {b:Nat}{a c d e f:U}{t:bc}(h:W.heap[b]?=F (bo #[a,c,d,e,f] t (0,0))):W.L ⟨b,0,O⟩=F a/\W.L ⟨b,1,O⟩=F c/\W.L ⟨b,2,O⟩=F d/\W.L ⟨b,3,O⟩=F e/\W.L ⟨b,4,O⟩=F f/\(W.H ⟨b,0,O⟩=bW/\W.H ⟨b,1,O⟩=bW/\W.H ⟨b,2,O⟩=bW/\W.H ⟨b,3,O⟩=bW/\W.H ⟨b,4,O⟩=bW)/\b<W.heap.size:=by
 refine⟨?_,?_,?_,?_,?_,⟨?_,?_,?_,?_,?_⟩,(AC.1 h).1⟩
 all_goals first|(unfold fc;rw[h];rfl)|(unfold World.frozen?;rw[h];rfl)
def Mf.Gb (h:Mf w hb B A cap l M pb kd pt ot at_ er W)(hh:Hand W' hb B A cap l M')(hk:KT (·=hb) W W'):Mf w hb B A cap l M' pb kd pt ot at_ er W':=by
 have e1:=(E0 h.zero).2.2.2.2.2.2;have e2:=(E0 h.obj).2.2.2.2.2.2;have:=h.lt;have:=h.pb;exact⟨hh,h.kt.trans hk,(hk.Lo _ e1 (by omega)).trans h.zero,(hk.Lo _ e2 (by omega)).trans h.obj,h.lt,h.pb⟩
def Mf.SS (h:Mf w hb B A cap l M pb kd pt ot at_ er W)(i:Nat)(v:U):(W.LE ⟨pb,i,O⟩ v).heap[w.heap.size]?=F (bo #[i64 0,i64 0,i64 0,i64 0,i64 0] 83 (0,0))/\(W.LE ⟨pb,i,O⟩ v).heap[pb]?=F (.cells (#[i64 kd,i64 pt,i64 ot,i64 at_,i64 er].L i v) 83 (0,0))/\Hand (W.LE ⟨pb,i,O⟩ v) hb B A cap l M/\KT (·=hb) w (W.LE ⟨pb,i,O⟩ v):=by
 have h1:=h.lt;have h2:=h.pb;have hz:(W.LE ⟨pb,i,O⟩ v).heap.size=W.heap.size:=by simp[dy]
 have ho:∀b,b≠pb->(W.LE ⟨pb,i,O⟩ v).heap[b]?=W.heap[b]?:=λb hb=>AP _ _ _ _ hb;refine⟨(ho _ (by omega)).trans h.zero,Eh h.obj,?_,KT.SS h.kt (by show w.heap.size<=pb;omega) v⟩;obtain⟨n,s,o1,o2⟩:=h.hand.obj;exact⟨⟨n,s,(ho _ (by omega)).trans o1,o2⟩,h.hand.Md.keep λb o hb'=>AY (ho b (by have:=h.hand.apart;omega)),h.hand.apart⟩
def Mf.s2 (h:Mf w hb B A cap l M pb kd pt ot at_ er W)(x:Int):Mf w hb B A cap l M pb kd pt x at_ er (W.LE ⟨pb,2,O⟩ (i64 x)):=by obtain⟨a,b,c,d⟩:=h.SS 2 (i64 x);exact⟨c,d,a,b,h.lt,h.pb⟩
def Mf.s3 (h:Mf w hb B A cap l M pb kd pt ot at_ er W)(x:Int):Mf w hb B A cap l M pb kd pt ot x er (W.LE ⟨pb,3,O⟩ (i64 x)):=by obtain⟨a,b,c,d⟩:=h.SS 3 (i64 x);exact⟨c,d,a,b,h.lt,h.pb⟩
def Mf.s4 (h:Mf w hb B A cap l M pb kd pt ot at_ er W)(x:Int):Mf w hb B A cap l M pb kd pt ot at_ x (W.LE ⟨pb,4,O⟩ (i64 x)):=by obtain⟨a,b,c,d⟩:=h.SS 4 (i64 x);exact⟨c,d,a,b,h.lt,h.pb⟩
end
def fp (hb B:Nat)(A:Option cF)(cap:Nat)(l:List Int)(N:Nat)(lo hi:Int)(w:Z)(h:Hand w hb B A cap l N)(hN:N<=1048576)(h1:-1048576<=lo/\lo<=hi/\hi<=1000000/\hi-lo<=1000000) :
  fz DP 10 #[.S (F ⟨hb,0,O⟩),Y I lo,Y I hi] w λe w'=>(∃k:Int,e=.L (Y I k)/\lo<=k/\k<=hi)/\Hand w' hb B A cap l (N+1)/\KH hb w w':=by
 have HP:=AB (aO hb B A cap l N (hi-lo) w h hN (by omega));go_enter Sq.func10,Tryz.ntmps10;go_wp2_with fail;refine HP.out.LT ?_;rintro e w' ⟨⟨k,rfl,hk⟩,hh,a6⟩;have a7:=AB hh;have HK:=AB a6;go_wp2;go_ret;exact⟨⟨_,rfl,by omega,by omega⟩,a7.out,HK.out⟩
structure CC (w:Z)(B q:Nat)(c:Eb)(vN vH:U)(xs:List U)(k:Nat)(W:Z):Prop where
 gr:Gr w W
 bd:w.heap.size=q/\q+2<=W.heap.size
 qo:W.heap[q]?=F (bo #[vN,vH] 27 (0,0))
 ro:W.heap[q+1]?=F (bo #[.slice O 0 0,.slice O 0 0] 27 (0,0))
 DW:W.S (q+2) 3 1 vN c.DW.L (c.DW.map (Y I))
 LE:W.S (q+2) 48 4 vH c.DR.L xs
 OA:∀i h,c.DR[i]?=F h->∃y,(∀j,j<4->xs[i*4+j]?=(fV h y)[j]?)/\if i<k then W.S (q+2) 3 1 y h.off.L (h.off.map (Y I)) else ∃A cc,y=bh A h.off.L cc/\RI W B A h.off
structure Cas where
 nA:Option cF
 hA:Option cF
 gA:Option cF
 nc:Nat
 hc:Nat
 gc:Nat
 c:Eb
 ls:List (List Int)
variable {R:Z->Z->Prop} {ops:Array ck} {Q:ew->Act->Z->Prop} {n m:Nat} {u:Nat->U} {ds:List cU} {w w':Z}
def MK:fW->Array ck
 |.L _ o _=>o
 |_=>#[]
def OB:fW->fW
 |.seq _ (.cond _ x _)=>x
 |c=>c
def sI {R:Z->Z->Prop}{ops:Array ck}{Q:ew->Act->Z->Prop}{n:Nat}{u:Nat->U}{ds:List cU}{w:Z}{i:Nat}{d:Option Tmp}{op:Op}{g:Option (Nat×Bool)}{t:bc}{V:U->Z->Prop}(h:opAt ops i=F (d,op,g,t))(w':Z)
  (hr:∀ev,Nb n u ev->(cq ev (Iy op t)).run DP w=.ok .skip w') (hg:R w w') (hV:V undef w') (hl:Lets ops n u g:=by trivial):Done R DP ops Q n ds i V u w:=by
 refine iP h hl λo h1 h2 h3=>?_;unfold df;rw[dR,h2,h3,hr _ dz,fA];exact⟨undef,by rw[h1];exact dZ,hg,hV⟩
def Ka (n:Nat):fW->Option (Array ck)
 |.L id o _=>if id=n then F o else O
 |.seq a b=>(Ka n a).or (Ka n b)
 |.cond _ a b=>(Ka n a).or (Ka n b)
 |.Lo _ b=>Ka n b
 |.loop b=>Ka n b
 |_=>O
def OC (n:Nat)(f:gU):Array Oper:=(Ka n (f.body.LE .skip)).LE #[]
def NI (hb B:Nat)(A:Option cF)(cap:Nat)(l:List Int)(M:Nat)(w w':Z):Prop:=KT (·=hb) w w'/\(Hand w hb B A cap l M->Hand w' hb B A cap l M)
def NI.EF {hb B cap M:Nat}{A:Option cF}{l:List Int}{w w':Z}(h:Gr w w'):NI hb B A cap l M w w':=⟨KT.EF h,λk=>k.gr h⟩
instance {hb B cap M:Nat} {A:Option cF} {l:List Int}:Goes (NI hb B A cap l M):={ refl:=λw=>.EF (.refl w),trans:=λa b=>⟨a.1.trans b.1,λh=>b.2 (a.2 h)⟩,drew:=λw=>.EF (Gr.refl w).drew }
def NJ (a b:Int)(v:U)(_:Z):Prop:=∃z:Int,v=Y I z/\a<=z/\z<=b
def GR {R:Z->Z->Prop}(a b:Int):Jf R (NJ a b):=λ_ _ _ _ h=>h
def Mg (hb B:Nat)(A:Option cF)(cap:Nat)(l:List Int)(M:Nat)(a b:Int)(v:U)(w:Z):Prop:=NJ a b v w/\Hand w hb B A cap l M
def Jb {hb B cap M:Nat}{A:Option cF}{l:List Int}(a b:Int):Jf (NI hb B A cap l M) (Mg hb B A cap l M a b):=λ_ _ _ hg h=>⟨h.1,hg.2 h.2⟩
noncomputable abbrev gE (k:Nat):Array Oper:=OC k Tryz.f38
section
variable {hb B cap N pb:Nat} {A:Option cF} {l:List Int} {W:Z} {u:Nat->U} {Q:ew->Act->Z->Prop} (h0:u 0=.S (F ⟨hb,0,O⟩)) (h7:u 7=.S (F ⟨pb,0,O⟩)) (hh:Hand W hb B A cap l N) (hN:N<=1000000)
include h0 h7 hh hN
theorem sJ {at_ er:Int}(ha:0<=at_/\at_<=9)(he:0<=er/\er<=9)
  (HC:Hid (∀V,KT (·=hb) W V->V.L ⟨pb,3,O⟩=F (Y I at_)/\V.L ⟨pb,4,O⟩=F (Y I er)/\V.H ⟨pb,3,O⟩=bW))
  (hK:∀W' u' (x:Int),KT (·=hb) W W'->Hand W' hb B A cap l (N+1)->Fr (gE 8) u' u->0<=x->x<=9->Q .normal ⟨T 103 u',[]⟩ (W'.LE ⟨pb,3,O⟩ (Y I x))):(bw 8 (gE 8) bl).wp DP Q ⟨T 103 u,[]⟩ W:=by
 refine PR (R:=NI hb B A cap l (N+1)) (λk w=>k=8->Hand w hb B A cap l N) 13 (λk _=>hh.gr (Gr.refl W).drew)<|Ew (Gg 3 (FI h7))<|Ew (Fj (Ed 0) λw hg=>(HC.out w hg.1).1)<|Ew (Ez h0)<|Ew (Gg 4 (FI h7))<|Ew (Fj (Ed 3) λw hg=>(HC.out w hg.1).2.1)<|Ew (Ko (Y I (-er)) ?_)<|Ew (Gg 4 (FI h7))<|Ew (Fj (Ed 6) λw hg=>(HC.out w hg.1).2.1) <|
  Ew (O9 Sq.func10 [2,5,7] (Mg hb B A cap l (N+1) (-er) er) (Jb _ _) λw hg hj=>(fp hb B A cap l N (-er) er w (hj rfl) (by omega) (by omega)).LT ?_) <|
  Ew (JL (NJ (-9) 18) (GR _ _) ?_)<|Ew (JL (NJ 0 18) (GR _ _) ?_)<|Ew (JL (NJ 0 9) (GR _ _) ?_)<|Ew (Gg 3 (FI h7))<|G7 λu w hg hf hv=>?_
 .intro u w hg hf hl hd;refine aI (op:=.unOp .neg 3 (.tmp 41)) rfl λev a6=>?_;have e1:=(a6.t 41).trans (hd.at_ 4 41);have e2:IntKind.i64.wrap (-er)=-er:=by simp[cA,cE,cf];omega
  clear hg hf hl hd a6;go_simp
 .rintro e w2 ⟨⟨k,rfl,k1,k2⟩,h3,h4⟩;exact⟨_,rfl,⟨⟨h4,λ_=>h3⟩,λk h1 _ _ e=>AH e h1⟩,⟨k,rfl,k1,k2⟩,h3⟩
 .intro u w hg hf hl hd;obtain⟨⟨k,e45,k1,k2⟩,_⟩:=hd.at_ 8 45;refine aP (op:=.binOp .add 3 (.tmp 38) (.tmp 45) 3) rfl (Y I (at_+k)) w (λev a6=>?_) (Rfl.refl _) ⟨_,rfl,by omega,by omega⟩;have e1:=(a6.t 38).trans (hd.at_ 1 38);have e2:=(a6.t 45).trans e45;have e3:IntKind.i64.wrap (at_+k)=at_+k:=by simp[cA,cE,cf];omega
  clear hg hf hl hd a6;go_simp
 .intro u w hg hf hl hd;obtain⟨k,e46,k1,k2⟩:=hd.at_ 9 46;refine aP (op:=.call { callee:=.builtin .max,args:=#[.const (Y I 0),.tmp 46],argTypes:=#[3,3] }) rfl (Y I (max 0 k)) w (λev a6=>?_) (Rfl.refl _) ⟨_,rfl,by omega,by omega⟩;have e1:=(a6.t 46).trans e46;have e2:=a6.2.1;clear hg hf hl hd a6;go_simp
 .intro u w hg hf hl hd;obtain⟨k,e47,k1,k2⟩:=hd.at_ 10 47;refine aP (op:=.call { callee:=.builtin .min,args:=#[.const (Y I 9),.tmp 47],argTypes:=#[3,3] }) rfl (Y I (min 9 k)) w (λev a6=>?_) (Rfl.refl _) ⟨_,rfl,by omega,by omega⟩;have e1:=(a6.t 47).trans e47;have e2:=a6.2.1;clear hg hf hl hd a6;go_simp
 .have er:bb 13 ((gE 8).size-13)=[13]:=by kernel_rfl
  rw[er,dn];obtain⟨x,e48,x1,x2⟩:=hv.at_ 11 48;obtain⟨_,hH⟩:=hv.at_ 8 45;obtain⟨c3,_,f3⟩:=HC.out w hg.1;have e49:=hv.at_ 12 49;refine fX (op:=.store 3 (.tmp 49) (.tmp 48)) rfl (w.LE ⟨pb,3,O⟩ (Y I x)) (λev a6=>?_) (hK w u x hg.1 hH hf x1 x2);have e1:=(a6.t 49).trans e49;have e2:=(a6.t 48).trans e48;clear hg hf hv a6;go_simp
theorem xd {n pt:Nat}(h1:u 1=Y I n)(hn:2<=n/\n<=4)(hp:pt<n)
  (HC:Hid (∀V,KT (·=hb) W V->V.L ⟨pb,1,O⟩=F (Y I pt)/\(∃y,V.L ⟨pb,2,O⟩=F y)/\V.H ⟨pb,2,O⟩=bW))
  (hK:∀W' u' (x:Nat),KT (·=hb) W W'->Hand W' hb B A cap l (N+1)->Fr (gE 14) u' u->x<n->x≠pt->Q .normal ⟨T 103 u',[]⟩ (W'.LE ⟨pb,2,O⟩ (Y I x))):(bw 14 (gE 14) bl).wp DP Q ⟨T 103 u,[]⟩ W:=by
 refine PR (R:=NI hb B A cap l (N+1)) (λk w=>k=5->Hand w hb B A cap l N) 10 (λk _=>hh.gr (Gr.refl W).drew)<|Ew (Gg 1 (FI h7))<|Ew (Fj (Ed 0) λw hg=>(HC.out w hg.1).1)<|Ew (Ez h0)<|Ew (Ez h1)<|Ew (Kn ((n:Int)-1) (Ed 3)) <|
  Ew (NF (Mg hb B A cap l (N+1) 1 ((n:Int)-1)) (Jb _ _) ?_) <|
  Ew (JL (NJ (pt+1) (pt+n-1)) (GR _ _) ?_)<|Ew (Ez h1)<|Ew (JL (λv _=>∃x:Nat,v=Y I x/\x<n/\x≠pt) (λ_ _ _ _ h=>h) ?_)<|Ew (Gg 2 (FI h7))<|G7 λu w hg hf hv=>?_
 .intro u w hg hf hl hd hj;refine iE rfl Sq.func10 #[.S (F ⟨hb,0,O⟩),Y I 1,Y I ((n:Int)-1)] (λev a6=>?_) ((fp hb B A cap l N 1 ((n:Int)-1) w (hj rfl) (by omega) (by omega)).LT ?_)
  .have e1:=(a6.t 68).trans (hd.at_ 2 68);have e2:=(a6.t 70).trans (hd.at_ 4 70);have e3:=a6.2.1;clear hg hf hl hd a6 hj;go_simp
  .rintro e w2 ⟨⟨k,rfl,k1,k2⟩,h3,h4⟩;exact⟨_,rfl,⟨⟨h4,λ_=>h3⟩,λk h1 _ _ e=>AH e h1⟩,⟨k,rfl,k1,k2⟩,h3⟩
 .intro u w hg hf hl hd;obtain⟨⟨k,e71,k1,k2⟩,_⟩:=hd.at_ 5 71;refine aP (op:=.binOp .add 3 (.tmp 67) (.tmp 71) 3) rfl (Y I (pt+k)) w (λev a6=>?_) (Rfl.refl _) ⟨_,rfl,by omega,by omega⟩;have e1:=(a6.t 67).trans (hd.at_ 1 67);have e2:=(a6.t 71).trans e71;have e3:IntKind.i64.wrap (pt+k)=pt+k:=by simp[cA,cE,cf];omega
  clear hg hf hl hd a6;go_simp
 .intro u w hg hf hl hd;obtain⟨k,e72,k1,k2⟩:=hd.at_ 6 72;obtain⟨q,rfl⟩:∃q:Nat,k=q:=⟨k.L,by omega⟩;have hq:q % n<n/\q % n≠pt:=by
   refine⟨Nat.mod_lt _ (by omega),?_⟩;by_cases e:q<n
   .rw[e9 e];omega
   .rw[Nat.mod_eq_sub_mod (by omega),e9 (by omega)];omega
  refine aP (op:=.binOp .rem 3 (.tmp 72) (.tmp 73) 3) rfl (Y I ((q % n:Nat):Int)) w (λev a6=>?_) (Rfl.refl _) ⟨_,rfl,hq⟩;have e1:=(a6.t 72).trans e72;have e2:=(a6.t 73).trans (hd.at_ 7 73);have e3:Int.tmod (q:Int) n=((q % n:Nat):Int):=rfl;have e4:¬n=0:=by omega
  clear hg hf hl hd a6 hq;go_simp
 .have er:bb 10 ((gE 14).size-10)=[10]:=by kernel_rfl
  rw[er,dn];obtain⟨x,e74,x1,x2⟩:=hv.at_ 8 74;obtain⟨_,hH⟩:=hv.at_ 5 71;obtain⟨_,⟨y,c2⟩,f2⟩:=HC.out w hg.1;have e75:=hv.at_ 9 75;refine fX (op:=.store 3 (.tmp 75) (.tmp 74)) rfl (w.LE ⟨pb,2,O⟩ (Y I x)) (λev a6=>?_) (hK w u x hg.1 hH hf x1 x2);have e1:=(a6.t 75).trans e75;have e2:=(a6.t 74).trans e74;clear hg hf hv a6;go_simp
theorem xe {mb mo ml mc pt ot:Nat}{y z:Int}(h2:u 2=.slice (F ⟨mb,mo,O⟩) ml mc)(hp:pt<ml)(ho:ot<ml)(hy:0<=y/\y<=9)(hz:0<=z/\z<=9)
  (HC:Hid (∀V,KT (·=hb) W V->(V.L ⟨pb,1,O⟩=F (Y I pt)/\V.L ⟨pb,2,O⟩=F (Y I ot)/\(∃y,V.L ⟨pb,3,O⟩=F y)/\V.H ⟨pb,3,O⟩=bW)/\V.L ⟨mb,mo+pt,O⟩=F (Y I y)/\V.L ⟨mb,mo+ot,O⟩=F (Y I z)))
  (hK:∀W' u' (x:Int),KT (·=hb) W W'->Hand W' hb B A cap l (N+1)->Fr (gE 15) u' u->-9<=x->x<=9->Q .normal ⟨T 103 u',[]⟩ (W'.LE ⟨pb,3,O⟩ (Y I x))):(bw 15 (gE 15) bl).wp DP Q ⟨T 103 u,[]⟩ W:=by
 refine PR (R:=NI hb B A cap l (N+1)) (λk w=>k=12->Hand w hb B A cap l N) 16 (λk _=>hh.gr (Gr.refl W).drew)<|Ew (Ez h2)<|Ew (Gg 1 (FI h7))<|Ew (Fj (Ed 1) λw hg=>(HC.out w hg.1).1.1)<|Ew (Il (mo+pt) 1 (Ed 0) (Ed 2))<|Ew (Fj (Ed 3) λw hg=>(HC.out w hg.1).2.1) <|
  Ew (Ez h2)<|Ew (Gg 2 (FI h7))<|Ew (Fj (Ed 6) λw hg=>(HC.out w hg.1).1.2.1)<|Ew (Il (mo+ot) 1 (Ed 5) (Ed 7))<|Ew (Fj (Ed 8) λw hg=>(HC.out w hg.1).2.2)<|Ew (JL (NJ (-9) 9) (GR _ _) ?_)<|Ew (Ez h0) <|
  Ew (NF (Mg hb B A cap l (N+1) 0 2) (Jb _ _) ?_) <|
  Ew (JL (NJ (-9) 11) (GR _ _) ?_)<|Ew (JL (NJ (-9) 9) (GR _ _) ?_)<|Ew (Gg 3 (FI h7))<|G7 λu w hg hf hv=>?_
 .intro u w hg hf hl hd;refine aP (op:=.binOp .sub 3 (.tmp 80) (.tmp 85) 3) rfl (Y I (y-z)) w (λev a6=>?_) (Rfl.refl _) ⟨_,rfl,by omega,by omega⟩;have e1:=(a6.t 80).trans (hd.at_ 4 80);have e2:=(a6.t 85).trans (hd.at_ 9 85);have e3:IntKind.i64.wrap (y-z)=y-z:=by simp[cA,cE,cf];omega
  clear hg hf hl hd a6;go_simp
 .intro u w hg hf hl hd hj;refine iE rfl Sq.func11 #[.S (F ⟨hb,0,O⟩),Y I 2] (λev a6=>?_) ((aO hb B A cap l N 2 w (hj rfl) (by omega) (by omega)).LT ?_)
  .have e1:=(a6.t 87).trans (hd.at_ 11 87);have e3:=a6.2.1;clear hg hf hl hd a6 hj;go_simp
  .rintro e w2 ⟨⟨k,rfl,k1⟩,h3,h4⟩;exact⟨_,rfl,⟨⟨h4,λ_=>h3⟩,λk h1 _ _ e=>AH e h1⟩,⟨k,rfl,by omega,by omega⟩,h3⟩
 .intro u w hg hf hl hd;obtain⟨a,e86,a1,a2⟩:=hd.at_ 10 86;obtain⟨⟨k,e88,k1,k2⟩,_⟩:=hd.at_ 12 88;refine aP (op:=.binOp .add 3 (.tmp 86) (.tmp 88) 3) rfl (Y I (a+k)) w (λev a6=>?_) (Rfl.refl _) ⟨_,rfl,by omega,by omega⟩;have e1:=(a6.t 86).trans e86;have e2:=(a6.t 88).trans e88;have e3:IntKind.i64.wrap (a+k)=a+k:=by simp[cA,cE,cf];omega
  clear hg hf hl hd a6;go_simp
 .intro u w hg hf hl hd;obtain⟨k,e89,k1,k2⟩:=hd.at_ 13 89;refine aP (op:=.call { callee:=.builtin .min,args:=#[.const (Y I 9),.tmp 89],argTypes:=#[3,3] }) rfl (Y I (min 9 k)) w (λev a6=>?_) (Rfl.refl _) ⟨_,rfl,by omega,by omega⟩;have e1:=(a6.t 89).trans e89;have e2:=a6.2.1;clear hg hf hl hd a6;go_simp
 .have er:bb 16 ((gE 15).size-16)=[16]:=by kernel_rfl
  rw[er,dn];obtain⟨x,e90,x1,x2⟩:=hv.at_ 14 90;obtain⟨_,hH⟩:=hv.at_ 12 88;obtain⟨⟨_,_,⟨y,c3⟩,f3⟩,_⟩:=HC.out w hg.1;have e91:=hv.at_ 15 91;refine fX (op:=.store 3 (.tmp 91) (.tmp 90)) rfl (w.LE ⟨pb,3,O⟩ (Y I x)) (λev a6=>?_) (hK w u x hg.1 hH hf x1 x2);have e1:=(a6.t 91).trans e91;have e2:=(a6.t 90).trans e90;clear hg hf hv a6;go_simp
end
section
variable {w:Z} {o:ck} {a:Act} {K:Act->Z->Prop} {Q:ew->Act->Z->Prop}
def sK {t e:bc}{z:U}{size bytes:Nat}(ht:DP.LT t=F (.slice e))(he:(DP.info? e).map (λi=>(i.zero,i.size,i.bytes))=F (F z,size,bytes))(hzs:z.cells.size=size)(zx:0<size)(s x:cd)(ho:o.op=.call { callee:=.builtin .append,args:=#[s,x],argTypes:=#[t,t] })(a6:o.type=t)
  (base:Nat) (v:U) (n:Nat) (xs:List U) (hs:a.eval s=v) (zm:w.S base e size v n xs) (ad:cF) (c:Nat) (us:List U) (hx:a.eval x=.slice (F ad) 1 c) (hu:us.L=size) (hc:∀j u,us[j]?=F u->w.L (ad.add j)=F u) (h1:∀u∈us,u.oneCell'=bl)
  (hn:n<=1048576) (hby:bytes<=64) (hbase:base<=w.heap.size) (h:∀v' w',w'.S base e size v' (n+1) (xs++us)->w.O w' v.L->w.drawn<=w'.drawn->K (a.put o.dst v') w'):df DP o a w K Q:=by
 obtain⟨i0,hi,zF,zE,zD⟩:=fu he;have zq:(n+1)*bytes<=140737488355328:=AX (Nat.mul_le_mul_left _ hby) (by omega);obtain⟨v',w',hr,h2,h3,_⟩:=fx (P:=DP) w base t o.type e i0 _ size bytes ht hi zF zE zD hzs zx v n xs zm ad 1 c us (by omega) hc h1 (by unfold maxLen;omega) zq hbase;have hd:=Go.Em.GK DP (Builtin.append_ #[t,t] o.type #[v,.slice (F ad) 1 c]) w #[];rw[gg,hr] at hd
 unfold df cq;simp only[ho,resolve,invoke,builtin,gl,gB,Result.andThen_ok,CA,Ca,CB,hs,hx,hr];exact h v' w' h2 h3 hd
end
def DM:(DP.info? 83).map (λi=>(i.zero,i.size,i.bytes))=F (F (.agg #[Y I 0,Y I 0,Y I 0,Y I 0,Y I 0]),5,40):=by rw[Dg];kernel_rfl
def Dy:(DP.info? 86).map (λi=>(i.zero,i.size,i.bytes))=F (F (.agg #[Y I 0,Y I 0,Y I 0]),3,24):=by rw[Dg];kernel_rfl
def cW {w2 w3:Z}{base size n:Nat}{e:bc}{v:U}{xs:List U}(zm:w2.S base e size v n xs)(hg:w2.O w3 v.L)(b:Nat)(hb:b<base)(hl:b<w2.heap.size):w3.heap[b]?=w2.heap[b]?:=hg.Lo b hl (dw zm hb)
def pm {w0 w2 w3:Z}{hb base size n:Nat}{e:bc}{v:U}{xs:List U}(hK:KT (·=hb) w0 w2)(zm:w2.S base e size v n xs)(hbase:w0.heap.size<=base)(hg:w2.O w3 v.L)(hd:w2.drawn<=w3.drawn):KT (·=hb) w0 w3 :=
 ⟨hg.os.trans hK.os,hg.tape.trans hK.tape,hg.output.trans hK.output,AX hK.drawn hd,by have:=hg.size;have:=hK.size;omega,λb hb' zU=>(cW zm hg b (by omega) (by have:=hK.size;omega)).trans (hK.Lo b hb' zU)⟩
def lC {w2 w3:Z}{hb B cap N base size n:Nat}{A:Option cF}{l:List Int}{e:bc}{v:U}{xs:List U}(h:Hand w2 hb B A cap l N)(zm:w2.S base e size v n xs)(hbase:hb<base)(hg:w2.O w3 v.L):Hand w3 hb B A cap l N:=by
 have hl:=h.lt;obtain⟨m,s,ho,hm⟩:=h.obj;exact⟨⟨m,s,(cW zm hg hb hbase hl).trans ho,hm⟩,h.Md.keep λb o hb'=>AY (cW zm hg b (by have:=h.apart;omega) (by have:=h.apart;omega)),h.apart⟩
def PS (lo:Nat)(P:List U->Prop)(v:U)(w:Z):Prop:=∃b xs t,v=.slice (F ⟨b,0,O⟩) 1 1/\P xs/\lo<=b/\w.heap[b]?=F (.cells xs.Li t (0,0))
def ny {hb B cap M lo:Nat}{A:Option cF}{l:List Int}{P:List U->Prop}(h:hb<lo):Jf (NI hb B A cap l M) (PS lo P):=λ_ _ _ hg ⟨b,xs,t,h1,h2,h3,h4⟩ =>
 ⟨b,xs,t,h1,h2,h3,(hg.1.Lo b (AC.1 h4).1 (by omega)).trans h4⟩
def sL {w:Z}{b:Nat}{xs:List U}{t:bc}(h:w.heap[b]?=F (.cells xs.Li t (0,0)))(j:Nat)(u:U)(hj:xs[j]?=F u):w.L ((⟨b,0,O⟩:cF).add j)=F u:=by
 have e:(⟨b,0,O⟩:cF).add j=⟨b,j,O⟩:=by unfold Addr.add;split<;>simp_all
 rw[e];unfold fc;rw[h];simpa using hj
noncomputable abbrev pn (k:Nat):Array Oper:=OC k Tryz.f8
def OD {ops:Array ck}{u u0:Nat->U}(h:Fr ops u u0){d:Nat}(hd:IQ ops d=bW)(v:U):Fr ops (Hq u (F d) v) u0:=λt ht=>by
 have zU:t≠d:=λe=>by subst e;rw[hd] at ht;cases ht
 exact(cH zU).trans (h t ht)
def Ad {hb B cap N eb base k c:Nat}{A:Option cF}{l:List Int}{xs:List U}{g:Nat}{bend y:Int}{W:Z}{u:Nat->U}{Q:ew->Act->Z->Prop}(h0:u 0=.S (F ⟨hb,0,O⟩))(h7:u 7=.S (F ⟨eb,0,O⟩))(h8:u 8=.slice (F ⟨g,0,O⟩) k c)(hh:Hand W hb B A cap l N)(hN:N<=1000000)
  (hk:1<=k/\k<=8) (JN:0<=bend/\bend<=9) (hy:0<=y/\y<=9) (hbase:base<=W.heap.size)
  (HC:Hid (∀V,KT (·=hb) W V->V.L ⟨eb,1,O⟩=F (Y I bend)/\V.L ⟨g,k-1,O⟩=F (Y I y)/\V.S base 3 1 (.slice (F ⟨g,0,O⟩) k c) k xs))
  (hK:∀V W' u' v' (x:Int),KT (·=hb) W V->Hand V hb B A cap l (N+1)->V.S base 3 1 (.slice (F ⟨g,0,O⟩) k c) k xs->Fr (pn 4) u' u->0<=x->x<=9->W'.S base 3 1 v' (k+1) (xs++[Y I x])->V.O W' (Value.ownBlock (.slice (F ⟨g,0,O⟩) k c))->V.drawn<=W'.drawn->u' 8=v'->Q .normal ⟨T 64 u',[]⟩ W'):(bw 4 (pn 4) bl).wp DP Q ⟨T 64 u,[]⟩ W:=by
 refine PR (R:=NI hb B A cap l (N+1)) (λk w=>k=13->Hand w hb B A cap l N) 18 (λk _=>hh.gr (Gr.refl W).drew)<|Ew (qA (uC 19 h8))<|Ew (qA (uC 19 h8))<|Ew (qA (uC 19 h8))<|Ew (Ar (Ed 2))<|Ew (Kn ((k:Int)-1) (Ed 3))<|Ew (Ko (.S (F ⟨g,k-1,O⟩)) ?_)<|Ew (Fj (Ed 5) λw hg=>(HC.out w hg.1).2.1)<|Ew (Ez h0)<|Ew (Gg 1 (FI h7))<|Ew (Fj (Ed 8) λw hg=>(HC.out w hg.1).1)<|Ew (Ko (Y I (-bend)) ?_)<|Ew (Gg 1 (FI h7))<|Ew (Fj (Ed 11) λw hg=>(HC.out w hg.1).1) <|
  Ew (O9 Sq.func10 [7,10,12] (Mg hb B A cap l (N+1) (-bend) bend) (Jb _ _) λw hg hj=>(fp hb B A cap l N (-bend) bend w (hj rfl) (by omega) (by omega)).LT ?_) <|
  Ew (JL (NJ (-9) 18) (GR _ _) ?_)<|Ew (JL (NJ 0 18) (GR _ _) ?_)<|Ew (JL (NJ 0 9) (GR _ _) ?_)<|Ew (JL (PS W.heap.size λxs=>∃x:Int,xs=[Y I x]/\0<=x/\x<=9) (ny hh.lt) ?_)<|G7 λu w hg hf hv=>?_
 .intro u w hg hf hl hd;refine aI (op:=.indexAddr 22 (.tmp 28) (.tmp 31)) rfl λev a6=>?_;have e1:=(a6.t 28).trans (hd.at_ 1 28);have e2:=(a6.t 31).trans (hd.at_ 4 31);obtain⟨j,rfl⟩:∃j,k=j+1:=⟨k-1,by omega⟩;have e3:((j+1:Nat):Int)-1=(j:Int):=by omega
  rw[e3] at e2;clear hg hf hl hd a6 HC hK;go_simp;intro h9;omega
 .intro u w hg hf hl hd;refine aI (op:=.unOp .neg 3 (.tmp 36)) rfl λev a6=>?_;have e1:=(a6.t 36).trans (hd.at_ 9 36);have e2:IntKind.i64.wrap (-bend)=-bend:=by simp[cA,cE,cf];omega
  clear hg hf hl hd a6;go_simp
 .rintro e w2 ⟨⟨k,rfl,k1,k2⟩,h3,h4⟩;exact⟨_,rfl,⟨⟨h4,λ_=>h3⟩,λk h1 _ _ e=>AH e h1⟩,⟨k,rfl,k1,k2⟩,h3⟩
 .intro u w hg hf hl hd;obtain⟨⟨q,e40,k1,k2⟩,_⟩:=hd.at_ 13 40;refine aP (op:=.binOp .add 3 (.tmp 33) (.tmp 40) 3) rfl (Y I (y+q)) w (λev a6=>?_) (Rfl.refl _) ⟨_,rfl,by omega,by omega⟩;have e1:=(a6.t 33).trans (hd.at_ 6 33);have e2:=(a6.t 40).trans e40;have e3:IntKind.i64.wrap (y+q)=y+q:=by simp[cA,cE,cf];omega
  clear hg hf hl hd a6;go_simp
 .intro u w hg hf hl hd;obtain⟨q,a7,k1,k2⟩:=hd.at_ 14 41;refine aP (op:=.call { callee:=.builtin .max,args:=#[.const (Y I 0),.tmp 41],argTypes:=#[3,3] }) rfl (Y I (max 0 q)) w (λev a6=>?_) (Rfl.refl _) ⟨_,rfl,by omega,by omega⟩;have e1:=(a6.t 41).trans a7;have e2:=a6.2.1;clear hg hf hl hd a6;go_simp
 .intro u w hg hf hl hd;obtain⟨q,e42,k1,k2⟩:=hd.at_ 15 42;refine aP (op:=.call { callee:=.builtin .min,args:=#[.const (Y I 9),.tmp 42],argTypes:=#[3,3] }) rfl (Y I (min 9 q)) w (λev a6=>?_) (Rfl.refl _) ⟨_,rfl,by omega,by omega⟩;have e1:=(a6.t 42).trans e42;have e2:=a6.2.1;clear hg hf hl hd a6;go_simp
 .intro u w hg hf hl hd;obtain⟨x,e43,x1,x2⟩:=hd.at_ 16 43;refine aP (op:=.buildSlice 22 1 #[(0,.tmp 43)]) rfl (.slice (F ⟨w.heap.size,0,O⟩) 1 1) (w.Li (bo #[Y I x] 3)) (λev a6=>?_) ⟨NI.EF ((Gr.refl w).Li _),λj hj _ h e=>(h e).gr ((Gr.refl w).Li _)⟩ ⟨_,_,3,rfl,⟨x,rfl,x1,x2⟩,hg.1.size,heap_alloc_new _ _⟩;have e1:=(a6.t 43).trans e43;clear hg hf hl hd a6 HC hK;go_simp
 .have er:bb 18 ((pn 4).size-18)=[18,19]:=by kernel_rfl
  rw[er,dn];obtain⟨b,_,t,e44,⟨x,rfl,x1,x2⟩,hbl,a8⟩:=hv.at_ 17 44;obtain⟨_,hH⟩:=hv.at_ 13 40;have e27:=hv.at_ 0 27;have hz:=hg.1.size;have zm:=(HC.out w hg.1).2.2;refine kj (op:=.call { callee:=.builtin .append,args:=#[.tmp 27,.tmp 44],argTypes:=#[22,22] }) rfl trivial λo h1 h2 h3=>?_;refine sK Sq.underlying22 Dl rfl (by decide) (.tmp 27) (.tmp 44) h2 h3 base _ k xs ((iD (by decide)).trans e27) zm ⟨b,0,O⟩ 1 [Y I x] ((iD (by decide)).trans e44) rfl (sL a8) (λy hy=>?_) (by omega) (by decide) (by omega) λv' w' h5 h6 aA=>?_
  .simp only[AM,AK,or_false] at hy;subst hy;rfl
  .rw[h1,dZ,dn];refine lB (d:=F 8) (t:=45) (g:=O) rfl ?_;exact hK w w' _ v' x hg.1 hH zm (OD (OD hf (by kernel_rfl) _) (by kernel_rfl) _) x1 x2 h5 h6 aA ((bQ ..).trans (bQ ..))
def NK {n pt ot:Nat}{kd at_ er:Int}(h1:1<=kd)(h2:kd<=5)(hp:pt<n)(ho:kd≠5->ot=0)(h5:kd=5->ot<n/\ot≠pt)(ha:-9<=at_)(hb:at_<=9)(h0:kd≠5->0<=at_)(e0:0<=er)(e1:er<=9)(e2:kd≠2->er=0):EE.Ok n ⟨kd,pt,ot,at_,er⟩ :=
 ⟨⟨h1,h2⟩,hp,ho,h5,⟨λ_=>ha,h0,hb⟩,⟨e0,e1,e2⟩⟩
def Iz (W:Z)(b:Nat)(x0 x1 x2 x3 x4:U):World:=((((W.LE ⟨b,0,O⟩ x0).LE ⟨b,1,O⟩ x1).LE ⟨b,2,O⟩ x2).LE ⟨b,3,O⟩ x3).LE ⟨b,4,O⟩ x4
def Mf.fin {w W:Z}{hb B cap M pb:Nat}{A:Option cF}{l:List Int}{kd pt ot at_ er:Int}(h:Mf w hb B A cap l M pb kd pt ot at_ er W)(x0 x1 x2 x3 x4:U) :
  ((Iz W w.heap.size x0 x1 x2 x3 x4).L ⟨w.heap.size,0,O⟩=F x0/\(Iz W w.heap.size x0 x1 x2 x3 x4).L ⟨w.heap.size,1,O⟩=F x1/\(Iz W w.heap.size x0 x1 x2 x3 x4).L ⟨w.heap.size,2,O⟩=F x2/\(Iz W w.heap.size x0 x1 x2 x3 x4).L ⟨w.heap.size,3,O⟩=F x3/\(Iz W w.heap.size x0 x1 x2 x3 x4).L ⟨w.heap.size,4,O⟩=F x4)/\Hand (Iz W w.heap.size x0 x1 x2 x3 x4) hb B A cap l M/\KT (·=hb) w (Iz W w.heap.size x0 x1 x2 x3 x4):=by
 have e:(Iz W w.heap.size x0 x1 x2 x3 x4).heap[w.heap.size]?=F (bo #[x0,x1,x2,x3,x4] 83 (0,0)):=Eh (Eh (Eh (Eh (Eh h.zero))));obtain⟨a,b,c,d,f,_⟩:=E0 e;have hl:=h.lt;exact⟨⟨a,b,c,d,f⟩,((((h.hand.SS (p:=⟨w.heap.size,0,O⟩) hl _).SS (p:=⟨w.heap.size,1,O⟩) hl _).SS (p:=⟨w.heap.size,2,O⟩) hl _).SS (p:=⟨w.heap.size,3,O⟩) hl _).SS (p:=⟨w.heap.size,4,O⟩) hl _,KT.SS (KT.SS (KT.SS (KT.SS (KT.SS h.kt (p:=⟨w.heap.size,0,O⟩) (AD _) _) (p:=⟨w.heap.size,1,O⟩) (AD _) _) (p:=⟨w.heap.size,2,O⟩) (AD _) _) (p:=⟨w.heap.size,3,O⟩) (AD _) _) (p:=⟨w.heap.size,4,O⟩) (AD _) _⟩
def sM (hb B:Nat)(A mA:Option cF)(cap mc:Nat)(l m:List Int)(N n:Nat)(w:Z)(h:Hand w hb B A cap l N)(hN:N<=100000)(hn:1<=n/\n<=4)(hm:IU w (λb=>b≠hb/\b<w.heap.size) mA m)(aZ:n<=m.L)(hmx:∀x∈m,0<=x/\x<=9) :
  fz DP 38 #[.S (F ⟨hb,0,O⟩),Y I n,bh mA m.L mc] w λe w'=>∃c,e=.L (O6 c)/\EE.Ok n c/\Hand w' hb B A cap l (N+20)/\KH hb w w':=by
 have zY:=h.lt;obtain⟨bS,bT⟩:=hn;obtain⟨mb,mo,rfl,⟨b6,bG⟩,hmc⟩:=hm (λe=>by rw[e] at aZ;simp at aZ;omega);obtain⟨W0,zM⟩:∃W0:Z,W0=(w.Li (bo #[i64 0,i64 0,i64 0,i64 0,i64 0] 83)).Li (bo #[i64 2,i64 3,i64 4,i64 5] 3):=⟨_,rfl⟩;have zL:Gr w W0:=by rw[zM];exact((Gr.refl w).Li _).Li _
 have zF:W0.heap.size=w.heap.size+2:=by rw[zM];simp
 have bA:W0.heap[w.heap.size]?=F (bo #[i64 0,i64 0,i64 0,i64 0,i64 0] 83 (0,0)):=by rw[zM,ae _ _ (by simp)];exact heap_alloc_new _ _
 have bB:=AB (gy hb B A (F ⟨w.heap.size+1,0,O⟩) cap 4 l [2,3,4,5] N 1 W0 (h.gr zL) (by omega) (by simp) (λ_=>⟨_,0,rfl,⟨by omega,by omega⟩,λi x hx=>by
  rw[zM,AF _ _ _ _ (by simp)]
  match i,hx with
  |0,hx=>cases hx;rfl
  |1,hx=>cases hx;rfl
  |2,hx=>cases hx;rfl
  |3,hx=>cases hx;rfl⟩))
 have b7:Hid (∀V,KT (·=hb) w V->∀i,i<m.L->∃y:Int,V.L ⟨mb,mo+i,O⟩=F (Y I y)/\y=m[i]?.LE 0/\0<=y/\y<=9):=AB λV hV i hi=>by
  refine⟨m[i]?.LE 0,?_,rfl,?_⟩
  .rw[hV.cell (p:=⟨mb,mo+i,O⟩) bG b6,AG hi];exact hmc i _ (AG hi)
  .rw[AG hi];exact hmx _ (BU hi)
 have bJ:=AB zL;have bK:=AB bA;have HW:=AB zM;clear h hm hmx zL bA zM hmc;unfold i64 at HW;go_enter Sq.func38,Tryz.ntmps38;go_wp2_with fail;rw[<-HW.out];refine bB.out.LT ?_;rintro e w1 ⟨⟨kd,rfl,bC⟩,hh,a6⟩;have bH:kd=1\/kd=2\/kd=3\/kd=4\/kd=5:=by simpa using bC
 have HU:=AB (aO hb B A cap l (N+1) ((n:Int)-1) w1 hh (by omega) (by omega));have bL:=AB (KT.trans (KT.EF bJ.out) a6);have bM:Hid (w1.heap[w.heap.size]?=F (bo #[i64 0,i64 0,i64 0,i64 0,i64 0] 83 (0,0))):=AB ((a6.Lo _ (by omega) (by omega)).trans bK.out);have zE:=a6.size;clear bC hh a6 bB;go_wp2_with fail;refine HU.out.LT ?_;rintro e w2 ⟨⟨pt,rfl,bN⟩,hh,a6⟩;have aD:pt<n:=by omega
 have zD:=a6.size;have zo:=KT.trans bL.out a6;have aK:Hid (∀k y:Int,Mf w hb B A cap l (N+2) w2.heap.size k pt 0 y 0 (w2.Li (bo #[i64 k,i64 pt,i64 0,i64 y,i64 0] 83))):=AB λk y=>⟨hh.gr ((Gr.refl _).Li _),zo.trans (.EF ((Gr.refl _).Li _)),by rw[ae _ _ (by omega)];exact(a6.Lo _ (by omega) (by omega)).trans bM.out,heap_alloc_new _ _,zY,by omega⟩;obtain⟨y,bD,-,bU,bV⟩:=b7.out w2 zo pt (by omega)
 have hmc2:∀o,(w2.Li o).L ⟨mb,mo+pt,O⟩=F (Y I y):=λo=>by rw[A7 _ _ _ (by show mb<_;omega)];exact bD
 clear bN HU hh a6 bD;unfold i64 at *;obtain rfl|rfl|rfl|rfl|rfl:=bH
 ·
  have aA:=AB (aK.out 1 y);clear aK;unfold i64 at aA;have aI:=AB (fm hb B A cap l _ 1 5 (w2.Li (bo #[Y I 1,Y I pt,Y I 0,Y I y,Y I 0] 83)) aA.out.hand (by omega) (by omega));obtain⟨c0,c1,c2,c3,c4,⟨f0,f1,f2,f3,f4⟩,cl⟩:=E0 aA.out.obj;unfold i64 at c0 c1 c2 c3 c4;go_wp2_with fail
  all_goals
   refine aI.out.LT ?_;rintro e v1 ⟨⟨b1,rfl⟩,hh,a6⟩;have a8:=AB (aA.out.Gb hh a6);have aJ:=AB (aO hb B A cap l _ 9 v1 hh (by omega) (by omega));clear hh a6 aI aA c0 c1 c2 c3 c4 f0 f1 f2 f3 f4 cl;cases b1 with
   |false =>
    obtain⟨⟨s0,s1,s2,s3,s4⟩,aB,aC⟩:=a8.out.fin (Y I 1) (Y I pt) (Y I 0) (Y I y) (Y I 0);have HF:=AB (cu aB aC);clear aB aC;unfold Iz at s0 s1 s2 s3 s4 HF;obtain⟨c0,c1,c2,c3,c4,⟨f0,f1,f2,f3,f4⟩,cl⟩:=E0 a8.out.obj;obtain⟨z0,z1,z2,z3,z4,⟨g0,g1,g2,g3,g4⟩,zl⟩:=E0 a8.out.zero;unfold i64 at c0 c1 c2 c3 c4 z0 z1 z2 z3 z4;go_wp2;refine bn (v:=.agg #[Y I 1,Y I pt,Y I 0,Y I y,Y I 0]) (by simp[results,bk,go_sem,s0,s1,s2,s3,s4]) rfl ⟨⟨1,pt,0,y,0⟩,rfl,NK (by decide) (by decide) aD (by first|exact λ_=>rfl|exact λe=>AH rfl e) (by first|exact λe=>AH e (by decide)|exact λ_=>⟨aD,aD.ne⟩) (by omega) (by omega) (by first|exact λe=>AH rfl e|exact λ_=>(by omega)) (by omega) (by omega) (by first|exact λ_=>rfl|exact λe=>AH rfl e),HF.out.1.more (by omega),HF.out.2⟩
   |true =>
    obtain⟨c0,c1,c2,c3,c4,⟨f0,f1,f2,f3,f4⟩,cl⟩:=E0 a8.out.obj;unfold i64 at c0 c1 c2 c3 c4;go_wp2_with fail;refine aJ.out.LT ?_;rintro e v2 ⟨⟨q9,rfl,aR⟩,hh,a6⟩;have aY:q9<=9:=by omega
    have a7:=AB (a8.out.Gb hh a6);clear hh a6 aJ a8 c0 c1 c2 c3 c4 f0 f1 f2 f3 f4 cl aR;obtain⟨d0,d1,d2,d3,d4,⟨aM,aN,aP,f3',aQ⟩,dl⟩:=E0 a7.out.obj;have aF:=AB (a7.out.s3 q9);clear a7;unfold i64 at *;obtain⟨⟨s0,s1,s2,s3,s4⟩,aB,aC⟩:=aF.out.fin (Y I 1) (Y I pt) (Y I 0) (Y I q9) (Y I 0);have HF:=AB (cu aB aC);clear aB aC;unfold Iz at s0 s1 s2 s3 s4 HF
    obtain⟨c0,c1,c2,c3,c4,⟨f0,f1,f2,f3,f4⟩,cl⟩:=E0 aF.out.obj;obtain⟨z0,z1,z2,z3,z4,⟨g0,g1,g2,g3,g4⟩,zl⟩:=E0 aF.out.zero;unfold i64 at c0 c1 c2 c3 c4 z0 z1 z2 z3 z4;go_wp2;refine bn (v:=.agg #[Y I 1,Y I pt,Y I 0,Y I q9,Y I 0]) (by simp[results,bk,go_sem,s0,s1,s2,s3,s4]) rfl ⟨⟨1,pt,0,q9,0⟩,rfl,NK (by decide) (by decide) aD (by first|exact λ_=>rfl|exact λe=>AH rfl e) (by first|exact λe=>AH e (by decide)|exact λ_=>⟨aD,aD.ne⟩) (by omega) (by omega) (by first|exact λe=>AH rfl e|exact λ_=>(by omega)) (by omega) (by omega) (by first|exact λ_=>rfl|exact λe=>AH rfl e),HF.out.1.more (by omega),HF.out.2⟩
 ·
  have aA:=AB (aK.out 2 y);clear aK;unfold i64 at aA;have HA:=AB (aO hb B A cap l _ 2 (w2.Li (bo #[Y I 2,Y I pt,Y I 0,Y I y,Y I 0] 83)) aA.out.hand (by omega) (by omega));obtain⟨c0,c1,c2,c3,c4,⟨f0,f1,f2,f3,f4⟩,cl⟩:=E0 aA.out.obj;go_wp2_with fail
  all_goals
   refine HA.out.LT ?_;rintro e v0 ⟨⟨q,rfl,hq⟩,hh,a6⟩;have b8:q<=2:=by omega
   have a7:=AB (aA.out.Gb hh a6);clear hh a6 HA aA c0 c1 c2 c3 c4 f0 f1 f2 f3 f4 cl hq;obtain⟨d0,d1,d2,d3,d4,⟨aM,aN,aP,f3',aQ⟩,dl⟩:=E0 a7.out.obj;have a8:=AB (a7.out.s4 q);clear a7;unfold i64 at *;go_wp2;have aH:Hid (∀V,KT (·=hb) (v0.LE ⟨w2.heap.size,4,O⟩ (Y I q)) V->V.L ⟨w2.heap.size,3,O⟩=F (Y I y)/\V.L ⟨w2.heap.size,4,O⟩=F (Y I q)/\V.H ⟨w2.heap.size,3,O⟩=bW):=AB λV hV=>by
    obtain⟨_,_,_,_,_,_,hl⟩:=E0 a8.out.obj;obtain⟨_,_,_,k3,k4,⟨_,_,_,g3,_⟩,_⟩:=E0 ((hV.Lo _ hl (by omega)).trans a8.out.obj);exact⟨k3,k4,g3⟩
   rename_i b5;refine bI 103 rfl λu hu=>?_;refine sJ (hu 0) (hu 7) a8.out.hand (by omega) (at_:=y) (er:=q) (by omega) (by omega) aH λW5 u5 x8 aT aU aV x1 x2=>?_;rw[aS (n:=103) [37,38,39,40,41,42,43,44,45,46,47,48,49] (by kernel_rfl) rfl hu aV];refine b5 _ _ ?_;simp only[Bg,Bq,Be,Bh];have aF:=AB ((a8.out.Gb aU aT).s3 x8);clear a8 aH hu aV aU aT d0 d1 d2 d3 d4 aM aN aP f3' aQ dl
   unfold i64 at *;have aI:=AB (fm hb B A cap l _ 1 5 (W5.LE ⟨w2.heap.size,3,O⟩ (Y I x8)) aF.out.hand (by omega) (by omega));obtain⟨c0,c1,c2,c3,c4,⟨f0,f1,f2,f3,f4⟩,cl⟩:=E0 aF.out.obj;unfold i64 at c0 c1 c2 c3 c4;go_wp2_with fail;refine aI.out.LT ?_;rintro e v1 ⟨⟨b1,rfl⟩,hh,a6⟩;have aG:=AB (aF.out.Gb hh a6);have aJ:=AB (aO hb B A cap l _ 9 v1 hh (by omega) (by omega));clear hh a6 aI aF c0 c1 c2 c3 c4 f0 f1 f2 f3 f4 cl
   cases b1 with
   |false =>
    obtain⟨⟨s0,s1,s2,s3,s4⟩,aB,aC⟩:=aG.out.fin (Y I 2) (Y I pt) (Y I 0) (Y I x8) (Y I q);have HF:=AB (cu aB aC);clear aB aC;unfold Iz at s0 s1 s2 s3 s4 HF;obtain⟨c0,c1,c2,c3,c4,⟨f0,f1,f2,f3,f4⟩,cl⟩:=E0 aG.out.obj;obtain⟨z0,z1,z2,z3,z4,⟨g0,g1,g2,g3,g4⟩,zl⟩:=E0 aG.out.zero;unfold i64 at c0 c1 c2 c3 c4 z0 z1 z2 z3 z4;go_wp2;refine bn (v:=.agg #[Y I 2,Y I pt,Y I 0,Y I x8,Y I q]) (by simp[results,bk,go_sem,s0,s1,s2,s3,s4]) rfl ⟨⟨2,pt,0,x8,q⟩,rfl,NK (by decide) (by decide) aD (by first|exact λ_=>rfl|exact λe=>AH rfl e) (by first|exact λe=>AH e (by decide)|exact λ_=>AH rfl (by decide)) (by omega) (by omega) (by first|exact λe=>AH rfl e|exact λ_=>(by omega)) (by omega) (by omega) (by first|exact λ_=>rfl|exact λe=>AH rfl e),HF.out.1.more (by omega),HF.out.2⟩
   |true =>
    obtain⟨c0,c1,c2,c3,c4,⟨f0,f1,f2,f3,f4⟩,cl⟩:=E0 aG.out.obj;unfold i64 at c0 c1 c2 c3 c4;go_wp2_with fail;refine aJ.out.LT ?_;rintro e v2 ⟨⟨q9,rfl,aR⟩,hh,a6⟩;have aY:q9<=9:=by omega
    have a7:=AB (aG.out.Gb hh a6);clear hh a6 aJ aG c0 c1 c2 c3 c4 f0 f1 f2 f3 f4 cl aR;obtain⟨d0,d1,d2,d3,d4,⟨aM,aN,aP,f3',aQ⟩,dl⟩:=E0 a7.out.obj;have aX:=AB (a7.out.s3 q9);clear a7;unfold i64 at *;obtain⟨⟨s0,s1,s2,s3,s4⟩,aB,aC⟩:=aX.out.fin (Y I 2) (Y I pt) (Y I 0) (Y I q9) (Y I q);have HF:=AB (cu aB aC);clear aB aC;unfold Iz at s0 s1 s2 s3 s4 HF
    obtain⟨c0,c1,c2,c3,c4,⟨f0,f1,f2,f3,f4⟩,cl⟩:=E0 aX.out.obj;obtain⟨z0,z1,z2,z3,z4,⟨g0,g1,g2,g3,g4⟩,zl⟩:=E0 aX.out.zero;unfold i64 at c0 c1 c2 c3 c4 z0 z1 z2 z3 z4;go_wp2;refine bn (v:=.agg #[Y I 2,Y I pt,Y I 0,Y I q9,Y I q]) (by simp[results,bk,go_sem,s0,s1,s2,s3,s4]) rfl ⟨⟨2,pt,0,q9,q⟩,rfl,NK (by decide) (by decide) aD (by first|exact λ_=>rfl|exact λe=>AH rfl e) (by first|exact λe=>AH e (by decide)|exact λ_=>AH rfl (by decide)) (by omega) (by omega) (by first|exact λe=>AH rfl e|exact λ_=>(by omega)) (by omega) (by omega) (by first|exact λ_=>rfl|exact λe=>AH rfl e),HF.out.1.more (by omega),HF.out.2⟩
 ·
  have aA:=AB (aK.out 3 y);clear aK;unfold i64 at aA;have HA:=AB (fp hb B A cap l _ y 9 (w2.Li (bo #[Y I 3,Y I pt,Y I 0,Y I y,Y I 0] 83)) aA.out.hand (by omega) (by omega));obtain⟨c0,c1,c2,c3,c4,⟨f0,f1,f2,f3,f4⟩,cl⟩:=E0 aA.out.obj;go_wp2_with fail
  all_goals
   refine HA.out.LT ?_;rintro e v0 ⟨⟨q,rfl,bO,b8⟩,hh,a6⟩;have a7:=AB (aA.out.Gb hh a6);clear hh a6 HA aA c0 c1 c2 c3 c4 f0 f1 f2 f3 f4 cl;obtain⟨d0,d1,d2,d3,d4,⟨aM,aN,aP,f3',aQ⟩,dl⟩:=E0 a7.out.obj;have a8:=AB (a7.out.s3 q);clear a7;unfold i64 at *;have aI:=AB (fm hb B A cap l _ 1 5 (v0.LE ⟨w2.heap.size,3,O⟩ (Y I q)) a8.out.hand (by omega) (by omega));obtain⟨c0,c1,c2,c3,c4,⟨f0,f1,f2,f3,f4⟩,cl⟩:=E0 a8.out.obj
   unfold i64 at c0 c1 c2 c3 c4;go_wp2_with fail;refine aI.out.LT ?_;rintro e v1 ⟨⟨b1,rfl⟩,hh,a6⟩;have aF:=AB (a8.out.Gb hh a6);have aJ:=AB (aO hb B A cap l _ 9 v1 hh (by omega) (by omega));clear hh a6 aI a8 c0 c1 c2 c3 c4 f0 f1 f2 f3 f4 cl;cases b1 with
   |false =>
    obtain⟨⟨s0,s1,s2,s3,s4⟩,aB,aC⟩:=aF.out.fin (Y I 3) (Y I pt) (Y I 0) (Y I q) (Y I 0);have HF:=AB (cu aB aC);clear aB aC;unfold Iz at s0 s1 s2 s3 s4 HF;obtain⟨c0,c1,c2,c3,c4,⟨f0,f1,f2,f3,f4⟩,cl⟩:=E0 aF.out.obj;obtain⟨z0,z1,z2,z3,z4,⟨g0,g1,g2,g3,g4⟩,zl⟩:=E0 aF.out.zero;unfold i64 at c0 c1 c2 c3 c4 z0 z1 z2 z3 z4;go_wp2;refine bn (v:=.agg #[Y I 3,Y I pt,Y I 0,Y I q,Y I 0]) (by simp[results,bk,go_sem,s0,s1,s2,s3,s4]) rfl ⟨⟨3,pt,0,q,0⟩,rfl,NK (by decide) (by decide) aD (by first|exact λ_=>rfl|exact λe=>AH rfl e) (by first|exact λe=>AH e (by decide)|exact λ_=>⟨aD,aD.ne⟩) (by omega) (by omega) (by first|exact λe=>AH rfl e|exact λ_=>(by omega)) (by omega) (by omega) (by first|exact λ_=>rfl|exact λe=>AH rfl e),HF.out.1.more (by omega),HF.out.2⟩
   |true =>
    obtain⟨c0,c1,c2,c3,c4,⟨f0,f1,f2,f3,f4⟩,cl⟩:=E0 aF.out.obj;unfold i64 at c0 c1 c2 c3 c4;go_wp2_with fail;refine aJ.out.LT ?_;rintro e v2 ⟨⟨q9,rfl,aR⟩,hh,a6⟩;have aY:q9<=9:=by omega
    have a7:=AB (aF.out.Gb hh a6);clear hh a6 aJ aF c0 c1 c2 c3 c4 f0 f1 f2 f3 f4 cl aR;obtain⟨d0,d1,d2,d3,d4,⟨aM,aN,aP,f3',aQ⟩,dl⟩:=E0 a7.out.obj;have aG:=AB (a7.out.s3 q9);clear a7;unfold i64 at *;obtain⟨⟨s0,s1,s2,s3,s4⟩,aB,aC⟩:=aG.out.fin (Y I 3) (Y I pt) (Y I 0) (Y I q9) (Y I 0);have HF:=AB (cu aB aC);clear aB aC;unfold Iz at s0 s1 s2 s3 s4 HF
    obtain⟨c0,c1,c2,c3,c4,⟨f0,f1,f2,f3,f4⟩,cl⟩:=E0 aG.out.obj;obtain⟨z0,z1,z2,z3,z4,⟨g0,g1,g2,g3,g4⟩,zl⟩:=E0 aG.out.zero;unfold i64 at c0 c1 c2 c3 c4 z0 z1 z2 z3 z4;go_wp2;refine bn (v:=.agg #[Y I 3,Y I pt,Y I 0,Y I q9,Y I 0]) (by simp[results,bk,go_sem,s0,s1,s2,s3,s4]) rfl ⟨⟨3,pt,0,q9,0⟩,rfl,NK (by decide) (by decide) aD (by first|exact λ_=>rfl|exact λe=>AH rfl e) (by first|exact λe=>AH e (by decide)|exact λ_=>⟨aD,aD.ne⟩) (by omega) (by omega) (by first|exact λe=>AH rfl e|exact λ_=>(by omega)) (by omega) (by omega) (by first|exact λ_=>rfl|exact λe=>AH rfl e),HF.out.1.more (by omega),HF.out.2⟩
 ·
  have aA:=AB (aK.out 4 y);clear aK;unfold i64 at aA;have HA:=AB (fp hb B A cap l _ 0 y (w2.Li (bo #[Y I 4,Y I pt,Y I 0,Y I y,Y I 0] 83)) aA.out.hand (by omega) (by omega));obtain⟨c0,c1,c2,c3,c4,⟨f0,f1,f2,f3,f4⟩,cl⟩:=E0 aA.out.obj;go_wp2_with fail
  all_goals
   refine HA.out.LT ?_;rintro e v0 ⟨⟨q,rfl,bO,b8⟩,hh,a6⟩;have a7:=AB (aA.out.Gb hh a6);clear hh a6 HA aA c0 c1 c2 c3 c4 f0 f1 f2 f3 f4 cl;obtain⟨d0,d1,d2,d3,d4,⟨aM,aN,aP,f3',aQ⟩,dl⟩:=E0 a7.out.obj;have a8:=AB (a7.out.s3 q);clear a7;unfold i64 at *;have aI:=AB (fm hb B A cap l _ 1 5 (v0.LE ⟨w2.heap.size,3,O⟩ (Y I q)) a8.out.hand (by omega) (by omega));obtain⟨c0,c1,c2,c3,c4,⟨f0,f1,f2,f3,f4⟩,cl⟩:=E0 a8.out.obj
   unfold i64 at c0 c1 c2 c3 c4;go_wp2_with fail;refine aI.out.LT ?_;rintro e v1 ⟨⟨b1,rfl⟩,hh,a6⟩;have aF:=AB (a8.out.Gb hh a6);have aJ:=AB (aO hb B A cap l _ 9 v1 hh (by omega) (by omega));clear hh a6 aI a8 c0 c1 c2 c3 c4 f0 f1 f2 f3 f4 cl;cases b1 with
   |false =>
    obtain⟨⟨s0,s1,s2,s3,s4⟩,aB,aC⟩:=aF.out.fin (Y I 4) (Y I pt) (Y I 0) (Y I q) (Y I 0);have HF:=AB (cu aB aC);clear aB aC;unfold Iz at s0 s1 s2 s3 s4 HF;obtain⟨c0,c1,c2,c3,c4,⟨f0,f1,f2,f3,f4⟩,cl⟩:=E0 aF.out.obj;obtain⟨z0,z1,z2,z3,z4,⟨g0,g1,g2,g3,g4⟩,zl⟩:=E0 aF.out.zero;unfold i64 at c0 c1 c2 c3 c4 z0 z1 z2 z3 z4;go_wp2;refine bn (v:=.agg #[Y I 4,Y I pt,Y I 0,Y I q,Y I 0]) (by simp[results,bk,go_sem,s0,s1,s2,s3,s4]) rfl ⟨⟨4,pt,0,q,0⟩,rfl,NK (by decide) (by decide) aD (by first|exact λ_=>rfl|exact λe=>AH rfl e) (by first|exact λe=>AH e (by decide)|exact λ_=>⟨aD,aD.ne⟩) (by omega) (by omega) (by first|exact λe=>AH rfl e|exact λ_=>(by omega)) (by omega) (by omega) (by first|exact λ_=>rfl|exact λe=>AH rfl e),HF.out.1.more (by omega),HF.out.2⟩
   |true =>
    obtain⟨c0,c1,c2,c3,c4,⟨f0,f1,f2,f3,f4⟩,cl⟩:=E0 aF.out.obj;unfold i64 at c0 c1 c2 c3 c4;go_wp2_with fail;refine aJ.out.LT ?_;rintro e v2 ⟨⟨q9,rfl,aR⟩,hh,a6⟩;have aY:q9<=9:=by omega
    have a7:=AB (aF.out.Gb hh a6);clear hh a6 aJ aF c0 c1 c2 c3 c4 f0 f1 f2 f3 f4 cl aR;obtain⟨d0,d1,d2,d3,d4,⟨aM,aN,aP,f3',aQ⟩,dl⟩:=E0 a7.out.obj;have aG:=AB (a7.out.s3 q9);clear a7;unfold i64 at *;obtain⟨⟨s0,s1,s2,s3,s4⟩,aB,aC⟩:=aG.out.fin (Y I 4) (Y I pt) (Y I 0) (Y I q9) (Y I 0);have HF:=AB (cu aB aC);clear aB aC;unfold Iz at s0 s1 s2 s3 s4 HF
    obtain⟨c0,c1,c2,c3,c4,⟨f0,f1,f2,f3,f4⟩,cl⟩:=E0 aG.out.obj;obtain⟨z0,z1,z2,z3,z4,⟨g0,g1,g2,g3,g4⟩,zl⟩:=E0 aG.out.zero;unfold i64 at c0 c1 c2 c3 c4 z0 z1 z2 z3 z4;go_wp2;refine bn (v:=.agg #[Y I 4,Y I pt,Y I 0,Y I q9,Y I 0]) (by simp[results,bk,go_sem,s0,s1,s2,s3,s4]) rfl ⟨⟨4,pt,0,q9,0⟩,rfl,NK (by decide) (by decide) aD (by first|exact λ_=>rfl|exact λe=>AH rfl e) (by first|exact λe=>AH e (by decide)|exact λ_=>⟨aD,aD.ne⟩) (by omega) (by omega) (by first|exact λe=>AH rfl e|exact λ_=>(by omega)) (by omega) (by omega) (by first|exact λ_=>rfl|exact λe=>AH rfl e),HF.out.1.more (by omega),HF.out.2⟩
 ·
  by_cases bP:n=1
  .subst bP;have aA:=AB (aK.out 2 y);clear aK;unfold i64 at aA;have HA:=AB (aO hb B A cap l _ 2 (w2.Li (bo #[Y I 2,Y I pt,Y I 0,Y I y,Y I 0] 83)) aA.out.hand (by omega) (by omega));obtain⟨c0,c1,c2,c3,c4,⟨f0,f1,f2,f3,f4⟩,cl⟩:=E0 aA.out.obj;go_wp2_with fail
   all_goals
    refine HA.out.LT ?_;rintro e v0 ⟨⟨q,rfl,hq⟩,hh,a6⟩;have b8:q<=2:=by omega
    have a7:=AB (aA.out.Gb hh a6);clear hh a6 HA aA c0 c1 c2 c3 c4 f0 f1 f2 f3 f4 cl hq;obtain⟨d0,d1,d2,d3,d4,⟨aM,aN,aP,f3',aQ⟩,dl⟩:=E0 a7.out.obj;have a8:=AB (a7.out.s4 q);clear a7;unfold i64 at *;go_wp2;have aH:Hid (∀V,KT (·=hb) (v0.LE ⟨w2.heap.size,4,O⟩ (Y I q)) V->V.L ⟨w2.heap.size,3,O⟩=F (Y I y)/\V.L ⟨w2.heap.size,4,O⟩=F (Y I q)/\V.H ⟨w2.heap.size,3,O⟩=bW):=AB λV hV=>by
     obtain⟨_,_,_,_,_,_,hl⟩:=E0 a8.out.obj;obtain⟨_,_,_,k3,k4,⟨_,_,_,g3,_⟩,_⟩:=E0 ((hV.Lo _ hl (by omega)).trans a8.out.obj);exact⟨k3,k4,g3⟩
    rename_i b5;refine bI 103 rfl λu hu=>?_;refine sJ (hu 0) (hu 7) a8.out.hand (by omega) (at_:=y) (er:=q) (by omega) (by omega) aH λW5 u5 x8 aT aU aV x1 x2=>?_;rw[aS (n:=103) [37,38,39,40,41,42,43,44,45,46,47,48,49] (by kernel_rfl) rfl hu aV];refine b5 _ _ ?_;simp only[Bg,Bq,Be,Bh];have aF:=AB ((a8.out.Gb aU aT).s3 x8);clear a8 aH hu aV aU aT d0 d1 d2 d3 d4 aM aN aP f3' aQ dl
    unfold i64 at *;have aI:=AB (fm hb B A cap l _ 1 5 (W5.LE ⟨w2.heap.size,3,O⟩ (Y I x8)) aF.out.hand (by omega) (by omega));obtain⟨c0,c1,c2,c3,c4,⟨f0,f1,f2,f3,f4⟩,cl⟩:=E0 aF.out.obj;unfold i64 at c0 c1 c2 c3 c4;go_wp2_with fail;refine aI.out.LT ?_;rintro e v1 ⟨⟨b1,rfl⟩,hh,a6⟩;have aG:=AB (aF.out.Gb hh a6);have aJ:=AB (aO hb B A cap l _ 9 v1 hh (by omega) (by omega));clear hh a6 aI aF c0 c1 c2 c3 c4 f0 f1 f2 f3 f4 cl
    cases b1 with
    |false =>
     obtain⟨⟨s0,s1,s2,s3,s4⟩,aB,aC⟩:=aG.out.fin (Y I 2) (Y I pt) (Y I 0) (Y I x8) (Y I q);have HF:=AB (cu aB aC);clear aB aC;unfold Iz at s0 s1 s2 s3 s4 HF;obtain⟨c0,c1,c2,c3,c4,⟨f0,f1,f2,f3,f4⟩,cl⟩:=E0 aG.out.obj;obtain⟨z0,z1,z2,z3,z4,⟨g0,g1,g2,g3,g4⟩,zl⟩:=E0 aG.out.zero;unfold i64 at c0 c1 c2 c3 c4 z0 z1 z2 z3 z4;go_wp2;refine bn (v:=.agg #[Y I 2,Y I pt,Y I 0,Y I x8,Y I q]) (by simp[results,bk,go_sem,s0,s1,s2,s3,s4]) rfl ⟨⟨2,pt,0,x8,q⟩,rfl,NK (by decide) (by decide) aD (by first|exact λ_=>rfl|exact λe=>AH rfl e) (by first|exact λe=>AH e (by decide)|exact λ_=>AH rfl (by decide)) (by omega) (by omega) (by first|exact λe=>AH rfl e|exact λ_=>(by omega)) (by omega) (by omega) (by first|exact λ_=>rfl|exact λe=>AH rfl e),HF.out.1.more (by omega),HF.out.2⟩
    |true =>
     obtain⟨c0,c1,c2,c3,c4,⟨f0,f1,f2,f3,f4⟩,cl⟩:=E0 aG.out.obj;unfold i64 at c0 c1 c2 c3 c4;go_wp2_with fail;refine aJ.out.LT ?_;rintro e v2 ⟨⟨q9,rfl,aR⟩,hh,a6⟩;have aY:q9<=9:=by omega
     have a7:=AB (aG.out.Gb hh a6);clear hh a6 aJ aG c0 c1 c2 c3 c4 f0 f1 f2 f3 f4 cl aR;obtain⟨d0,d1,d2,d3,d4,⟨aM,aN,aP,f3',aQ⟩,dl⟩:=E0 a7.out.obj;have aX:=AB (a7.out.s3 q9);clear a7;unfold i64 at *;obtain⟨⟨s0,s1,s2,s3,s4⟩,aB,aC⟩:=aX.out.fin (Y I 2) (Y I pt) (Y I 0) (Y I q9) (Y I q);have HF:=AB (cu aB aC);clear aB aC;unfold Iz at s0 s1 s2 s3 s4 HF
     obtain⟨c0,c1,c2,c3,c4,⟨f0,f1,f2,f3,f4⟩,cl⟩:=E0 aX.out.obj;obtain⟨z0,z1,z2,z3,z4,⟨g0,g1,g2,g3,g4⟩,zl⟩:=E0 aX.out.zero;unfold i64 at c0 c1 c2 c3 c4 z0 z1 z2 z3 z4;go_wp2;refine bn (v:=.agg #[Y I 2,Y I pt,Y I 0,Y I q9,Y I q]) (by simp[results,bk,go_sem,s0,s1,s2,s3,s4]) rfl ⟨⟨2,pt,0,q9,q⟩,rfl,NK (by decide) (by decide) aD (by first|exact λ_=>rfl|exact λe=>AH rfl e) (by first|exact λe=>AH e (by decide)|exact λ_=>AH rfl (by decide)) (by omega) (by omega) (by first|exact λe=>AH rfl e|exact λ_=>(by omega)) (by omega) (by omega) (by first|exact λ_=>rfl|exact λe=>AH rfl e),HF.out.1.more (by omega),HF.out.2⟩
  .have aA:=AB (aK.out 5 y);clear aK;unfold i64 at aA;obtain⟨c0,c1,c2,c3,c4,⟨f0,f1,f2,f3,f4⟩,cl⟩:=E0 aA.out.obj;go_wp2;have aH:Hid (∀V,KT (·=hb) (w2.Li (bo #[Y I 5,Y I pt,Y I 0,Y I y,Y I 0] 83)) V->V.L ⟨w2.heap.size,1,O⟩=F (Y I pt)/\(∃y,V.L ⟨w2.heap.size,2,O⟩=F y)/\V.H ⟨w2.heap.size,2,O⟩=bW):=AB λV hV=>by
    obtain⟨_,k1,k2,_,_,⟨_,_,g2,_,_⟩,_⟩:=E0 ((hV.Lo _ cl (by omega)).trans aA.out.obj);exact⟨k1,⟨_,k2⟩,g2⟩
   rename_i b5;refine bI 103 rfl λu hu=>?_;refine xd (hu 0) (hu 7) aA.out.hand (by omega) (n:=n) (pt:=pt) (hu 1) (by omega) aD aH λW5 u5 aL aT aU aV x1 x2=>?_;rw[aS (n:=103) [66,67,68,69,70,71,72,73,74,75] (by kernel_rfl) rfl hu aV];refine b5 _ _ ?_;simp only[Bg,Bq,Be,Bh];have a7:=AB (aA.out.Gb aU aT);clear aA aH hu aV aU aT c0 c1 c2 c3 c4 f0 f1 f2 f3 f4 cl;obtain⟨d0,d1,d2,d3,d4,⟨f0,f1,f2,f3,f4⟩,dl⟩:=E0 a7.out.obj
   have a8:=AB (a7.out.s2 aL);clear a7;unfold i64 at *;obtain⟨z,zF,-,bQ,bR⟩:=b7.out _ a8.out.kt aL (by omega);obtain⟨y',b9,hyy,hyA,hyB⟩:=b7.out _ a8.out.kt pt (by omega);go_wp2;have aH:Hid (∀V,KT (·=hb) (W5.LE ⟨w2.heap.size,2,O⟩ (Y I aL)) V->(V.L ⟨w2.heap.size,1,O⟩=F (Y I pt)/\V.L ⟨w2.heap.size,2,O⟩=F (Y I aL)/\(∃y,V.L ⟨w2.heap.size,3,O⟩=F y)/\V.H ⟨w2.heap.size,3,O⟩=bW)/\V.L ⟨mb,mo+pt,O⟩=F (Y I y')/\V.L ⟨mb,mo+aL,O⟩=F (Y I z)):=AB λV hV=>by
    obtain⟨_,_,_,_,_,_,hl⟩:=E0 a8.out.obj;obtain⟨_,k1,k2,k3,_,⟨_,_,_,g3,_⟩,_⟩:=E0 ((hV.Lo _ hl (by omega)).trans a8.out.obj);have aZ:mb<(W5.LE ⟨w2.heap.size,2,O⟩ (Y I aL)).heap.size:=by have:=a8.out.kt.size;omega
    exact⟨⟨k1,k2,⟨_,k3⟩,g3⟩,(hV.cell (p:=⟨mb,_,O⟩) aZ b6).trans b9,(hV.cell (p:=⟨mb,_,O⟩) aZ b6).trans zF⟩
   clear hyy;refine bI 103 rfl λu hu=>?_;refine xe (hu 0) (hu 7) a8.out.hand (by omega) (hu 2) (by omega) (by omega) (by omega) (by omega) aH λW6 u6 aW hk6 bE bF x3 x4=>?_;rw[aS (n:=103) [76,77,78,79,80,81,82,83,84,85,86,87,88,89,90,91] (by kernel_rfl) rfl hu bF];simp only[Bg,Bq,Be,Bh];have aF:=AB ((a8.out.Gb bE hk6).s3 aW);clear a8 aH hu bF bE hk6 d0 d1 d2 d3 d4 f0 f1 f2 f3 f4 dl zF b9
   unfold i64 at *;have aI:=AB (fm hb B A cap l _ 1 5 (W6.LE ⟨w2.heap.size,3,O⟩ (Y I aW)) aF.out.hand (by omega) (by omega));obtain⟨c0,c1,c2,c3,c4,⟨f0,f1,f2,f3,f4⟩,cl⟩:=E0 aF.out.obj;unfold i64 at c0 c1 c2 c3 c4;go_wp2_with fail;refine aI.out.LT ?_;rintro e v1 ⟨⟨b1,rfl⟩,hh,a6⟩;have aG:=AB (aF.out.Gb hh a6);clear hh a6 aI aF c0 c1 c2 c3 c4 f0 f1 f2 f3 f4 cl;cases b1 with
   |true =>
    obtain⟨⟨s0,s1,s2,s3,s4⟩,aB,aC⟩:=aG.out.fin (Y I 5) (Y I pt) (Y I aL) (Y I aW) (Y I 0);have HF:=AB (cu aB aC);clear aB aC;unfold Iz at s0 s1 s2 s3 s4 HF;obtain⟨c0,c1,c2,c3,c4,⟨f0,f1,f2,f3,f4⟩,cl⟩:=E0 aG.out.obj;obtain⟨z0,z1,z2,z3,z4,⟨g0,g1,g2,g3,g4⟩,zl⟩:=E0 aG.out.zero;unfold i64 at c0 c1 c2 c3 c4 z0 z1 z2 z3 z4;go_wp2;refine bn (v:=.agg #[Y I 5,Y I pt,Y I aL,Y I aW,Y I 0]) (by simp[results,bk,go_sem,s0,s1,s2,s3,s4]) rfl ⟨⟨5,pt,aL,aW,0⟩,rfl,NK (by decide) (by decide) aD (by first|exact λ_=>rfl|exact λe=>AH rfl e) (by first|exact λe=>AH e (by decide)|exact λ_=>⟨x1,x2⟩) (by omega) (by omega) (by first|exact λe=>AH rfl e|exact λ_=>(by omega)) (by omega) (by omega) (by first|exact λ_=>rfl|exact λe=>AH rfl e),HF.out.1.more (by omega),HF.out.2⟩
   |false =>
    obtain⟨⟨s0,s1,s2,s3,s4⟩,aB,aC⟩:=aG.out.fin (Y I 5) (Y I pt) (Y I aL) (Y I aW) (Y I 0);have HF:=AB (cu aB aC);clear aB aC;unfold Iz at s0 s1 s2 s3 s4 HF;obtain⟨c0,c1,c2,c3,c4,⟨f0,f1,f2,f3,f4⟩,cl⟩:=E0 aG.out.obj;obtain⟨z0,z1,z2,z3,z4,⟨g0,g1,g2,g3,g4⟩,zl⟩:=E0 aG.out.zero;unfold i64 at c0 c1 c2 c3 c4 z0 z1 z2 z3 z4;go_wp2;refine bn (v:=.agg #[Y I 5,Y I pt,Y I aL,Y I aW,Y I 0]) (by simp[results,bk,go_sem,s0,s1,s2,s3,s4]) rfl ⟨⟨5,pt,aL,aW,0⟩,rfl,NK (by decide) (by decide) aD (by first|exact λ_=>rfl|exact λe=>AH rfl e) (by first|exact λe=>AH e (by decide)|exact λ_=>⟨x1,x2⟩) (by omega) (by omega) (by first|exact λe=>AH rfl e|exact λ_=>(by omega)) (by omega) (by omega) (by first|exact λ_=>rfl|exact λe=>AH rfl e),HF.out.1.more (by omega),HF.out.2⟩
end Go.Sq
