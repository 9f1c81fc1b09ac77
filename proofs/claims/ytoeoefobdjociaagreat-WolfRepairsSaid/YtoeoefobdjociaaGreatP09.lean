/- Parts of the proof. -/
import Derived.Test.YtoeoefobdjociaaGreatP08
set_option linter.all false
set_option maxHeartbeats 8000000
set_option maxRecDepth 100000
open Go.Conc renaming stepG_region_end->Z,stepG_seq->Y,G->J,stepG_skip->M,stepG_ret'->bn,mem_ofEvents->bs,stepG_load_atomic->b5,stepG_markAt->b8,getElem?_append_cases->b9,stepG_mark0->cf,crowd->cq,stepG_unwind_entry->cr,Deaf_other->cK,stepG_add_atomic->cL,seen_none->e6
open Array renaming replicate->U
open Go renaming Goroutine->I,World->ak,FuncId->bh,Frame->bo,Value->br,Program->b6,stepG->ea,goexitEntry->eb,Oper->eA,Trace->eV,Item->e7,Func->e9,execOp->fq
open Go.Frame renaming enter->E,finish_at->bD
open Option renaming some->u,none->b7
open Bool renaming false->bc,true->bk
open Go.MemAct renaming touch?->bq,ofEvent->bA,low->fc
open Go.Value renaming pointer->bw
open Option.some renaming injEq->bW,inj->ed
open Go.Act renaming eval->ck
open Go.ConcR.Gen renaming x_enable_n->cu,x_enable_b->cw,x_enable_x->cE,x_enable_f->cF,body_wait->df,x_loadU64_n->dn,x_loadU64_b->dr,x_loadU64_x->dy,x_loadU64_f->dS,x_semacquire_n->ek,x_semacquire_b->eo,x_semacquire_x->er,x_semacquire_f->ez,body_add->e8
open Go.IntKind renaming wrap_u64->cU,wrap_i32->c0
namespace Go.Co
open Go.Conc Go.ConcN Go.RowKit Go.Conc.Lib Go.ConcR.Gen Go.ConcN.Gen
open Go.ConcR (KK wgBlock WgAt stA smA rd wr mk Payload Aside2 DC0)
variable {L:WgLink}
def addPos {P:b6}(H:WgLib P L){Wg:Nat}{b₀:bo}{a₀:Act}{ops₀:Array eA}{i₀:Nat}{rest₀:List Nat}{k₀:List e7}{cs:List bo}(w:ak)(hF:WgLive L.tWg Wg w) :
  GW P L.tWg Wg bk (Rk P L.tWg Wg (λg _=>g=G (b₀.at (a₀.put ((ops₀[i₀]?).bind (·.dst)) (.tuple #[])) (.inRegion ops₀ rest₀::k₀)) cs)) 150 (G ((base L.add).at ⟨#[.pointer (u ⟨Wg,0,b7⟩),.int .i64 1,undef,undef,undef,undef,undef,undef,undef,undef,undef,undef,undef,undef,undef,undef,undef,undef,undef,undef,undef,undef,undef,undef,undef,undef,undef,undef,undef,undef,undef,undef,undef,undef,undef,undef,undef,undef,undef,undef,undef,undef,undef,undef,undef,undef,undef,undef,undef,undef,undef,undef,undef,undef,undef,undef,undef,undef,undef,undef,undef,undef,undef,undef,undef,undef,undef,undef,undef,undef,undef,undef,undef,undef,undef,undef,undef,undef,undef,undef,undef,undef,undef,undef,undef,undef,undef,undef,undef,undef,undef,undef,undef,undef,undef,undef,undef,undef,undef,undef,undef,undef,undef,undef,undef,undef,undef,undef,undef,undef,undef,undef,undef,undef,undef,undef,undef],[]⟩ [.code (e8 L)]) (b₀.at a₀ (.inRegion ops₀ (i₀::rest₀)::k₀)::cs)) w:=by
 lib_facts
 simp only[e8,addFn,AY]
 u_c Y rl hF
 u_cond bk rl hF
 iterate 2 u_c Y rl hF
 u_reg rl hF
 iterate 2 u_op rl hF
 u_c Z rl hF
 u_cond bc rl hF
 u_c M rl hF
 u_c Y rl hF
 u_reg rl hF
 refine Goes.stop (λw₁ h₁=>?_);replace hF:=rl hF h₁;refine⟨rfl,_,cf .disable (by simp) rfl rfl (by k_ne) rfl H.f_disable (x_disable_n L) (x_disable_b L) (x_disable_x L) (x_disable_f L),150,?_⟩
 walk_nrm
 u_c Z rl hF
 u_reg rl hF
 u_defer rl hF
 u_c Z rl hF
 u_c Y rl hF
 u_reg rl hF
 u_op rl hF
 u_c Z rl hF
 iterate 2 u_c Y rl hF
 u_reg rl hF
 u_bub rl hF
 u_c Z rl hF
 u_cond bc rl hF
 u_c M rl hF
 u_c Y rl hF
 u_reg rl hF
 iterate 6 u_op rl hF
 u_call H.f_uAdd (nm_uAdd L) uAddFn rl hF
 u_c Y rl hF
 u_reg rl hF
 u_op rl hF
 u_c Z rl hF
 u_c Y rl hF
 u_reg rl hF
 iterate 4 u_op rl hF
 refine Goes.stop (λw₂ h₁=>?_);replace hF:=rl hF h₁;refine⟨rfl,λv hv hw=>?_⟩;obtain rfl|hvp:=Bs v
 .replace hw:WgAt L.tWg Wg w₂ 0 0:=by simpa using hw
  have z:(((0:Nat):Int)+1)*KK=KK:=by simp
  rw[z];have e0:IntKind.u64.wrap (0+4294967296)=KK:=by decide
  refine⟨_,(cL rfl rfl (by k_ne) rfl H.f_addU64 (x_addU64_n L) (x_addU64_b L) (x_addU64_x L) .u64 (x_addU64_f L) rfl rfl hw.cellSt (hw.thaw 0)).trans (by rw[e0];rfl),λ_=>⟨150,?_⟩,λh=>AI rfl h⟩;replace hF:WgLive L.tWg Wg (w₂.setCell (stA Wg) (.int .u64 KK)):=⟨_,_,hw.setSt _⟩;simp only[KK] at hF ⊢
  walk_nrm
  u_op rl hF
  u_c Z rl hF
  u_c bn rl hF
  u_leave1 H.f_uAdd rl hF
  u_op rl hF
  u_c Z rl hF
  iterate 2 u_c Y rl hF
  u_reg rl hF
  iterate 4 u_op rl hF
  iterate 2 u_skip rl hF
  u_op rl hF
  u_c Z rl hF
  u_cond bc rl hF
  u_c M rl hF
  u_c Y rl hF
  u_reg rl hF
  iterate 4 u_op rl hF
  u_c Z rl hF
  u_c Y rl hF
  u_reg rl hF
  iterate 4 u_op rl hF
  u_c Z rl hF
  iterate 2 u_c Y rl hF
  u_reg rl hF
  iterate 10 u_op rl hF
  u_c Z rl hF
  u_cond bk rl hF
  u_reg rl hF
  iterate 3 u_op rl hF
  u_conv H.underlying_tPU32 H.room_tU32 (WgLive.cell1 hF).choose_spec rl hF
  refine Goes.stop (λw₃ h₁=>?_);replace hF:=rl hF h₁;refine⟨rfl,_,b8 .read (by simp) rfl rfl (by k_ne) rfl H.f_raceRead (x_raceRead_n L) (x_raceRead_b L) (x_raceRead_x L) (x_raceRead_f L) (ad:=⟨Wg,1,b7⟩) (by simp[ck]),150,?_⟩
  walk_nrm
  u_c Z rl hF
  iterate 2 u_c Y rl hF
  u_reg rl hF
  iterate 2 u_op rl hF
  u_c Z rl hF
  u_cond bc rl hF
  u_c M rl hF
  iterate 2 u_c Y rl hF
  u_reg rl hF
  iterate 3 u_op rl hF
  iterate 2 u_skip rl hF
  iterate 2 u_op rl hF
  iterate 4 u_skip rl hF
  u_op rl hF
  u_c Z rl hF
  u_cond bc rl hF
  u_c M rl hF
  iterate 2 u_c Y rl hF
  u_reg rl hF
  iterate 3 u_op rl hF
  iterate 2 u_skip rl hF
  u_op rl hF
  u_c Z rl hF
  u_cond bk rl hF
  u_c bn rl hF
  refine Goes.stop (λw₄ h₁=>?_);replace hF:=rl hF h₁;refine⟨rfl,_,cr (v:=.tuple #[]) (evs:=#[mk .enable]) rfl H.f_enable (cu L) (cw L) (cE L) (cF L) (by simp[Extern.Race.none_]) (by simp[mk]) (by simp[mk]),150,?_⟩
  u_leave0 H.f_add rl hF
  exact Goes.stop λ_ _=>rfl
 .obtain⟨V,hV⟩:∃V:Int,V=(v:Int)+1:=⟨_,rfl⟩;obtain⟨S,hS⟩:∃S:Int,S=V*KK:=⟨_,rfl⟩;have eS:IntKind.u64.wrap ((v:Int)*KK+4294967296)=S:=by rw[cU,hS,hV];simp only[KK];omega
  rw[<-hV,<-hS];have a1:S / 4294967296=V:=by rw[hS];simp only[KK];omega
  have b1:bits .and .u64 S 2147483648=0:=by rw[hS,hV];have:=st_flag (v+1) 0 (by omega) (by omega);simpa [KK] using this
  have b2:bits .and .u64 S 2147483647=0:=by rw[hS,hV];have:=st_waiters (v+1) 0 (by omega) (by omega);simpa [KK] using this
  have c1:IntKind.i32.wrap V=V:=by rw[c0];omega
  have hV1:1<V:=by omega
  have hV2:V<2147483648:=by omega
  have q1:(V==1)=false:=by simp;omega
  have q2:decide (V=1)=false:=Bx (by omega);have q3:decide (V<0)=false:=Bx (by omega);have q4:decide (0<V)=true:=BE (by omega);have q5:(V==0)=false:=by simp;omega
  have q6:decide (V=0)=false:=Bx (by omega);refine⟨_,(cL rfl rfl (by k_ne) rfl H.f_addU64 (x_addU64_n L) (x_addU64_b L) (x_addU64_x L) .u64 (x_addU64_f L) rfl rfl hw.cellSt (hw.thaw 0)).trans (by rw[eS];rfl),λh=>AI h (by omega),λ_=>⟨150,?_⟩⟩;replace hF:WgLive L.tWg Wg (w₂.setCell (stA Wg) (.int .u64 S)):=⟨_,_,hw.setSt _⟩;clear hw hS hV eS
  walk_nrm
  u_op rl hF
  u_c Z rl hF
  u_c bn rl hF
  u_leave1 H.f_uAdd rl hF
  u_op rl hF
  u_c Z rl hF
  iterate 2 u_c Y rl hF
  u_reg rl hF
  iterate 4 u_op rl hF
  iterate 2 u_skip rl hF
  u_op rl hF
  u_c Z rl hF
  u_cnd bc rl hF
  u_c M rl hF
  u_c Y rl hF
  u_reg rl hF
  iterate 4 u_op rl hF
  u_c Z rl hF
  u_c Y rl hF
  u_reg rl hF
  iterate 4 u_op rl hF
  u_c Z rl hF
  iterate 2 u_c Y rl hF
  u_reg rl hF
  iterate 10 u_op rl hF
  u_c Z rl hF
  u_cnd bc rl hF
  u_c M rl hF
  iterate 2 u_c Y rl hF
  u_reg rl hF
  iterate 2 u_op rl hF
  u_c Z rl hF
  u_cnd bc rl hF
  u_c M rl hF
  iterate 2 u_c Y rl hF
  u_reg rl hF
  iterate 3 u_op rl hF
  iterate 2 u_skip rl hF
  iterate 2 u_op rl hF
  iterate 4 u_skip rl hF
  u_op rl hF
  u_c Z rl hF
  u_cnd bc rl hF
  u_c M rl hF
  iterate 2 u_c Y rl hF
  u_reg rl hF
  iterate 3 u_op rl hF
  iterate 2 u_skip rl hF
  u_op rl hF
  u_c Z rl hF
  u_cnd bk rl hF
  u_c bn rl hF
  refine Goes.stop (λw₄ h₁=>?_);replace hF:=rl hF h₁;refine⟨rfl,_,cr (v:=.tuple #[]) (evs:=#[mk .enable]) rfl H.f_enable (cu L) (cw L) (cE L) (cF L) (by simp[Extern.Race.none_]) (by simp[mk]) (by simp[mk]),150,?_⟩
  u_leave0 H.f_add rl hF
  exact Goes.stop λ_ _=>rfl
open Go.ConcR (KK wgBlock WgAt stA smA rd wr mk Payload Aside2 DC0)
variable {L:WgLink}
def waitStart {P:b6}(H:WgLib P L){Wg:Nat}{b₀:bo}{a₀:Act}{ops₀:Array eA}{i₀:Nat}{rest₀:List Nat}{k₀:List e7}{cs:List bo}(w:ak)(hF:WgLive L.tWg Wg w) :
  GW P L.tWg Wg bk (Rm P L.tWg Wg (AnchWN L (λ_=>True) Wg (b₀.at a₀ (.inRegion ops₀ (i₀::rest₀)::k₀)) cs)) 150 (G ((base L.wait).at ⟨#[.pointer (u ⟨Wg,0,b7⟩),undef,undef,undef,undef,undef,undef,undef,undef,undef,undef,undef,undef,undef,undef,undef,undef,undef,undef,undef,undef,undef,undef,undef,undef,undef,undef,undef,undef,undef,undef,undef,undef,undef,undef,undef,undef,undef,undef,undef,undef,undef,undef,undef,undef,undef,undef,undef,undef,undef,undef,undef,undef,undef,undef,undef,undef,undef,undef,undef,undef,undef,undef,undef,undef,undef,undef,undef,undef,undef,undef,undef,undef,undef,undef,undef,undef,undef,undef,undef,undef,undef,undef,undef],[]⟩ [.code (df L)]) (b₀.at a₀ (.inRegion ops₀ (i₀::rest₀)::k₀)::cs)) w:=by
 lib_facts
 simp only[df,waitFn,AY]
 u_c Y rl hF
 u_cond bk rl hF
 u_reg rl hF
 refine Goes.stop (λw₁ h₁=>?_);replace hF:=rl hF h₁;refine⟨rfl,_,cf .disable (by simp) rfl rfl (by k_ne) rfl H.f_disable (x_disable_n L) (x_disable_b L) (x_disable_x L) (x_disable_f L),150,?_⟩
 walk_nrm
 u_c Z rl hF
 u_c stepG_block rl hF
 u_c stepG_loop rl hF
 refine Goes.stop (λw₃ h₃=>?_);replace hF:=rl hF h₃;exact⟨_,rfl,by simp,by simp,trivial,hF⟩
def waitRound {P:b6}(H:WgLib P L){Wg:Nat}{b₀:bo}{a₀:Act}{ops₀:Array eA}{i₀:Nat}{rest₀:List Nat}{k₀:List e7}{cs:List bo}(g:I)(w:ak)(h:AnchWN L (λ_=>True) Wg (b₀.at a₀ (.inRegion ops₀ (i₀::rest₀)::k₀)) cs g w) :
  GW P L.tWg Wg bk (W1 P L.tWg Wg (AnchWN L (λ_=>True) Wg (b₀.at a₀ (.inRegion ops₀ (i₀::rest₀)::k₀)) cs) (λg _=>g=G (b₀.at (a₀.put ((ops₀[i₀]?).bind (·.dst)) (.tuple #[])) (.inRegion ops₀ rest₀::k₀)) cs)) 150 g w:=by
 lib_facts
 obtain⟨T,rfl,hT84,t0,_,hF⟩:=h;obtain⟨v0,v1,v2,v3,v4,v5,v6,v7,v8,v9,v10,v11,v12,v13,v14,v15,v16,v17,v18,v19,v20,v21,v22,v23,v24,v25,v26,v27,v28,v29,v30,v31,v32,v33,v34,v35,v36,v37,v38,v39,v40,v41,v42,v43,v44,v45,v46,v47,v48,v49,v50,v51,v52,v53,v54,v55,v56,v57,v58,v59,v60,v61,v62,v63,v64,v65,v66,v67,v68,v69,v70,v71,v72,v73,v74,v75,v76,v77,v78,v79,v80,v81,v82,v83,rfl⟩:=array84 T hT84;simp only[Bg,Bd,bW] at t0
 subst t0;simp only[L7,df,waitFn,AY]
 u_c stepG_block rl hF
 u_c Y rl hF
 u_reg rl hF
 iterate 3 u_op rl hF
 u_call H.f_uLoad (nm_uLoad L) uLoadFn rl hF
 u_c Y rl hF
 u_reg rl hF
 u_op rl hF
 u_c Z rl hF
 u_c Y rl hF
 u_reg rl hF
 iterate 3 u_op rl hF
 refine Goes.stop (λw₁ h₁=>?_);replace hF:=rl hF h₁;refine⟨rfl,λv hv hw=>?_⟩;obtain rfl|hvp:=Bs v
 .replace hw:WgAt L.tWg Wg w₁ 0 0:=by simpa using hw
  refine⟨_,b5 (v:=0) rfl rfl (by k_ne) rfl H.f_loadU64 (dn L) (dr L) (dy L) .u64 (dS L) rfl hw.cellSt,λ_=>⟨150,?_⟩,λh=>AI rfl h⟩
  walk_nrm
  u_op rl hF
  u_c Z rl hF
  u_c bn rl hF
  u_leave1 H.f_uLoad rl hF
  u_op rl hF
  u_c Z rl hF
  u_c Y rl hF
  u_reg rl hF
  iterate 4 u_op rl hF
  u_c Z rl hF
  u_c Y rl hF
  u_reg rl hF
  iterate 4 u_op rl hF
  u_c Z rl hF
  iterate 2 u_c Y rl hF
  u_reg rl hF
  iterate 2 u_op rl hF
  u_c Z rl hF
  u_cond bk rl hF
  u_c Y rl hF
  u_cond bk rl hF
  u_c Y rl hF
  u_reg rl hF
  refine Goes.stop (λw₅ h₁=>?_);replace hF:=rl hF h₁;refine⟨rfl,_,cf .enable (by simp) rfl rfl (by k_ne) rfl H.f_enable (cu L) (cw L) (cE L) (cF L),150,?_⟩
  walk_nrm
  u_c Z rl hF
  u_reg rl hF
  u_op rl hF
  u_conv H.underlying_tWgP H.room_tWg (WgLive.cell0 hF).choose_spec rl hF
  refine Goes.stop (λw₆ h₁=>?_);replace hF:=rl hF h₁;refine⟨rfl,_,b8 .acquire (by simp) rfl rfl (by k_ne) rfl H.f_acquire (x_acquire_n L) (x_acquire_b L) (x_acquire_x L) (x_acquire_f L) (by simp[ck,stA]),150,?_⟩
  walk_nrm
  u_c Z rl hF
  iterate 2 u_c Y rl hF
  u_reg rl hF
  iterate 8 u_op rl hF
  iterate 2 u_skip rl hF
  u_op rl hF
  u_c Z rl hF
  u_cond bc rl hF
  u_c M rl hF
  u_c bn rl hF
  u_leave0 H.f_wait rl hF
  exact Goes.stop λ_ _=>rfl
 .obtain⟨S,hS⟩:∃S:Int,(v:Int)*KK=S:=⟨_,rfl⟩;have a1:S / 4294967296=(v:Int):=by rw[<-hS];simp only[KK];omega
  have b1:bits .and .u64 S 2147483648=0:=by rw[<-hS];have:=st_flag v 0 (by omega) (by omega);simpa [KK] using this
  have b2:bits .and .u64 S 2147483647=0:=by rw[<-hS];have:=st_waiters v 0 (by omega) (by omega);simpa [KK] using this
  have c1:IntKind.i32.wrap (v:Int)=(v:Int):=by rw[c0];omega
  have w1:IntKind.u64.wrap (S+1)=S+1:=by rw[cU,<-hS];simp only[KK];omega
  have q3:decide ((v:Int)<0)=false:=Bx (by omega);have q4:decide (0<(v:Int))=true:=BE (by omega);have q5:((v:Int)==0)=false:=by simp;omega
  have q6:decide ((v:Int)=0)=false:=Bx (by omega);rw[hS] at hw;refine⟨_,b5 (v:=S) rfl rfl (by k_ne) rfl H.f_loadU64 (dn L) (dr L) (dy L) .u64 (dS L) rfl hw.cellSt,λh0=>AI h0 (by omega),λ_=>⟨150,?_⟩⟩
  walk_nrm
  u_op rl hF
  u_c Z rl hF
  u_c bn rl hF
  u_leave1 H.f_uLoad rl hF
  u_op rl hF
  u_c Z rl hF
  u_c Y rl hF
  u_reg rl hF
  iterate 4 u_op rl hF
  u_c Z rl hF
  u_c Y rl hF
  u_reg rl hF
  iterate 4 u_op rl hF
  u_c Z rl hF
  iterate 2 u_c Y rl hF
  u_reg rl hF
  iterate 2 u_op rl hF
  u_c Z rl hF
  u_cnd bc rl hF
  u_c M rl hF
  u_c Y rl hF
  u_reg rl hF
  iterate 6 u_op rl hF
  u_call H.f_uCas (nm_uCas L) uCasFn rl hF
  u_c Y rl hF
  u_reg rl hF
  u_op rl hF
  u_c Z rl hF
  u_c Y rl hF
  u_reg rl hF
  iterate 5 u_op rl hF
  refine Goes.stop (λw₂ h₁=>?_);replace hF:=rl hF h₁;refine⟨rfl,λv' hv' hw=>⟨λe=>?_,λe=>?_⟩⟩
  .subst e;rw[hS] at hw ⊢;refine⟨_,(stepG_cas_hit (v:=S) (n:=S+1) rfl rfl (by k_ne) rfl H.f_casU64 (x_casU64_n L) (x_casU64_b L) (x_casU64_x L) .u64 (x_casU64_f L) rfl rfl rfl hw.cellSt (hw.thaw 0)).trans (by rfl),150,?_⟩;replace hF:WgLive L.tWg Wg (w₂.setCell (stA Wg) (.int .u64 (S+1))):=⟨_,_,hw.setSt _⟩
   walk_nrm
   u_op rl hF
   u_c Z rl hF
   u_c bn rl hF
   u_leave1 H.f_uCas rl hF
   u_c Z rl hF
   u_cnd bk rl hF
   iterate 2 u_c Y rl hF
   u_reg rl hF
   iterate 4 u_op rl hF
   u_c Z rl hF
   u_cnd bk rl hF
   u_reg rl hF
   iterate 3 u_op rl hF
   u_conv H.underlying_tPU32 H.room_tU32 (WgLive.cell1 hF).choose_spec rl hF
   refine Goes.stop (λw₂ h₁=>?_);replace hF:=rl hF h₁;refine⟨rfl,_,b8 .write (by simp) rfl rfl (by k_ne) rfl H.f_raceWrite (x_raceWrite_n L) (x_raceWrite_b L) (x_raceWrite_x L) (x_raceWrite_f L) (ad:=⟨Wg,1,b7⟩) (by simp[ck]),150,?_⟩
   walk_nrm
   u_c Z rl hF
   u_c Y rl hF
   u_reg rl hF
   u_op rl hF
   u_c Z rl hF
   iterate 2 u_c Y rl hF
   u_reg rl hF
   iterate 4 u_op rl hF
   u_skip rl hF
   u_op rl hF
   u_c Z rl hF
   u_cnd bc rl hF
   u_c M rl hF
   u_c Y rl hF
   u_reg rl hF
   iterate 4 u_op rl hF
   refine Goes.stop (λw₃ h₁=>?_);replace hF:=rl hF h₁;refine⟨rfl,rfl,λ⟨st,hw⟩=>stepG_semacquire_wait rfl rfl rfl H.f_semacquire (ek L) (eo L) (er L) (ez L) (by simp[ck,smA]) hw.cellSm,λhf=>?_⟩;refine⟨_,(stepG_semacquire (n:=1) rfl rfl (by k_ne) rfl H.f_semacquire (ek L) (eo L) (er L) (ez L) (by simp[ck,smA]) hf.cellSm (by k_ne) (hf.thaw 1)).trans (by rfl),150,?_⟩
   replace hF:WgLive L.tWg Wg (w₃.setCell (smA Wg) (.int .u32 0)):=⟨_,_,hf.setSm 0⟩
   walk_nrm
   u_c Z rl hF
   u_c Y rl hF
   u_reg rl hF
   iterate 3 u_op rl hF
   u_call H.f_uLoad (nm_uLoad L) uLoadFn rl hF
   u_c Y rl hF
   u_reg rl hF
   u_op rl hF
   u_c Z rl hF
   u_c Y rl hF
   u_reg rl hF
   iterate 3 u_op rl hF
   refine Goes.stop (λw₄ h₁=>?_);replace hF:=rl hF h₁;refine⟨rfl,λhw=>⟨_,b5 (v:=0) rfl rfl (by k_ne) rfl H.f_loadU64 (dn L) (dr L) (dy L) .u64 (dS L) rfl hw.cellSt,150,?_⟩⟩
   walk_nrm
   u_op rl hF
   u_c Z rl hF
   u_c bn rl hF
   u_leave1 H.f_uLoad rl hF
   iterate 2 u_op rl hF
   u_c Z rl hF
   u_c Y rl hF
   u_cond bk rl hF
   u_c Y rl hF
   u_reg rl hF
   refine Goes.stop (λw₅ h₁=>?_);replace hF:=rl hF h₁;refine⟨rfl,_,cf .enable (by simp) rfl rfl (by k_ne) rfl H.f_enable (cu L) (cw L) (cE L) (cF L),150,?_⟩
   walk_nrm
   u_c Z rl hF
   u_reg rl hF
   u_op rl hF
   u_conv H.underlying_tWgP H.room_tWg (WgLive.cell0 hF).choose_spec rl hF
   refine Goes.stop (λw₆ h₁=>?_);replace hF:=rl hF h₁;refine⟨rfl,_,b8 .acquire (by simp) rfl rfl (by k_ne) rfl H.f_acquire (x_acquire_n L) (x_acquire_b L) (x_acquire_x L) (x_acquire_f L) (by simp[ck,stA]),150,?_⟩
   walk_nrm
   u_c Z rl hF
   iterate 2 u_c Y rl hF
   u_reg rl hF
   u_op rl hF
   u_c Z rl hF
   u_cond bc rl hF
   u_c M rl hF
   u_c bn rl hF
   u_leave0 H.f_wait rl hF
   exact Goes.stop λ_ _=>rfl
  .refine⟨_,stepG_cas_miss (v:=(v':Int)*KK) (old:=S) (n:=S+1) rfl rfl (by k_ne) rfl H.f_casU64 (x_casU64_n L) (x_casU64_b L) (x_casU64_x L) .u64 (x_casU64_f L) rfl rfl rfl hw.cellSt (hw.thaw 0) (by rw[<-hS];simp only[KK];omega),150,?_⟩
   walk_nrm
   u_op rl hF
   u_c Z rl hF
   u_c bn rl hF
   u_leave1 H.f_uCas rl hF
   u_c Z rl hF
   u_cnd bc rl hF
   u_c M rl hF
   u_c stepG_inBlock rl hF
   u_c stepG_inLoop rl hF
   refine Goes.stop (λw₃ h₃=>?_);replace hF:=rl hF h₃;exact⟨_,rfl,by simp,by simp,trivial,hF⟩
open Go.Eu
open Go.ConcR (KK WgAt stA smA rd wr mk DC0 Bk)
def tZ (p v:br)(L:WgLink):(#[p,v]++U ((addFn L).ntmps-(#[p,v]:Array br).size) undef:Array br)=#[p,v,undef,undef,undef,undef,undef,undef,undef,undef,undef,undef,undef,undef,undef,undef,undef,undef,undef,undef,undef,undef,undef,undef,undef,undef,undef,undef,undef,undef,undef,undef,undef,undef,undef,undef,undef,undef,undef,undef,undef,undef,undef,undef,undef,undef,undef,undef,undef,undef,undef,undef,undef,undef,undef,undef,undef,undef,undef,undef,undef,undef,undef,undef,undef,undef,undef,undef,undef,undef,undef,undef,undef,undef,undef,undef,undef,undef,undef,undef,undef,undef,undef,undef,undef,undef,undef,undef,undef,undef,undef,undef,undef,undef,undef,undef,undef,undef,undef,undef,undef,undef,undef,undef,undef,undef,undef,undef,undef,undef,undef,undef,undef,undef,undef,undef,undef]:=by walk_nrmf addFn
def rF (p:br)(L:WgLink):(#[p]++U ((waitFn L).ntmps-(#[p]:Array br).size) undef:Array br)=#[p,undef,undef,undef,undef,undef,undef,undef,undef,undef,undef,undef,undef,undef,undef,undef,undef,undef,undef,undef,undef,undef,undef,undef,undef,undef,undef,undef,undef,undef,undef,undef,undef,undef,undef,undef,undef,undef,undef,undef,undef,undef,undef,undef,undef,undef,undef,undef,undef,undef,undef,undef,undef,undef,undef,undef,undef,undef,undef,undef,undef,undef,undef,undef,undef,undef,undef,undef,undef,undef,undef,undef,undef,undef,undef,undef,undef,undef,undef,undef,undef,undef,undef,undef]:=by walk_nrmf waitFn
def rG (p:br)(L:WgLink):(#[p]++U ((doneFn L).ntmps-(#[p]:Array br).size) undef:Array br)=#[p,undef,undef,undef]:=by walk_nrmf doneFn
section
variable {P:ED} {SB BB:bh->Bool} {zZ:Bool} {Gn:Nat} {H:Hid} {T:List bo} {β:Em} {L:WgLink} {Wg:Nat}
def Barred (P:ED)(SB:bh->Bool)(zZ:Bool)(f:bh)(fn:e9):Prop:=∃c,P.a.funcs[f]?=u fn/\P.b.funcs[f]?=u fn/\fn.body=u c/\codeOk P.a SB zZ bk c=bc
def O5 (S:Fy)(β:Em)(v V:br):Prop:=∀X,DZ S β v X->X=V
def O5.undef {S:Fy}:O5 S β undef undef:=λX h=>by
 unfold Go.undef at h ⊢;cases h with
 |@tuple _ x h1 _ =>
  have:x=#[]:=by simpa using h1.symm
  rw[this]
def O5.int {S:Fy}(k:IntKind)(n:Int):O5 S β (.int k n) (.int k n):=λX h=>by cases h;rfl
def O5.ptr {S:Fy}(hf:β.Fa Gn){b B:Nat}(hb:β b B)(o:Nat)(s:Option Nat):O5 S β (.pointer (u ⟨b,o,s⟩)) (.pointer (u ⟨B,o,s⟩)):=λX h=>by
 cases h with
 |ptr _ _ h=>rw[hf.fn h hb]
def ip {f:bh}{fn:e9}(a7:Barred P SB zZ f fn){args args':Array br}(hs:args.size=args'.size)(hn:args.size<=fn.ntmps)(hd:∀(i:Nat) (v V:br),args[i]?=u v->args'[i]?=u V->O5 (SP SB H) β v V){k:CallKind}{F:bo}
  (h:F7 P SB H zZ BB β (E P.a f args k) F):F=E P.b f args' k:=by
 obtain⟨c,h1,h2,h3,h4⟩:=a7;generalize hF:E P.a f args k=fr at h;cases h with
 |on h =>
  exfalso;have ht:=h.todo;rw[<-hF] at ht;simp only[E,h1,h3,BF,AY] at ht;generalize F.todo=X at ht;cases ht with
  |cons hi _ =>
   cases hi with
   |code hc =>
    simp only[Option.isNone_none] at hc;rw[h4] at hc;cases hc
 |@stop f' a A k' _ _ _ ha =>
  have e1:f=f':=AX Frame.fn hF;have e2:k=k':=AX Frame.kind hF;subst e1 e2;have e3:args++U (fn.ntmps-args.size) undef=a++U (fn.ntmps-a.size) undef:=by
   have:=AX Frame.tmps hF;simpa [E,h1] using this
  have e4:A++U (fn.ntmps-A.size) undef=args'++U (fn.ntmps-args'.size) undef:=by
   have zx:=AX Array.size e3;simp only[Array.size_append,Array.size_replicate] at zx;have hA:=ha.size;apply Array.ext_getElem?;intro i;have e5:(args++U (fn.ntmps-args.size) undef)[i]?=(a++U (fn.ntmps-a.size) undef)[i]?:=by rw[e3]
   obtain hi|hi:=Br i fn.ntmps
   .rw[C1,C1] at e5 ⊢;have und:∀(m:Nat),i<m->(U m undef)[i]?=u undef:=λm hm=>by rw[BQ,AF hm]
    have val:∃v,(if i<a.size then a[i]? else(U (fn.ntmps-a.size) undef)[i-a.size]?)=u v/\∀X,(if i<A.size then A[i]? else(U (fn.ntmps-A.size) undef)[i-A.size]?)=u X->DZ (SP SB H) β v X:=by
     by_cases a6:i<a.size
     .refine⟨a[i],by rw[AF a6];simp[a6],λX hX=>?_⟩;rw[AF (by omega)] at hX;exact ha.at_ i _ X (by simp[a6]) hX
     .refine⟨undef,by rw[AD a6,BQ,AF (by omega)],λX hX=>?_⟩;rw[AD (by omega),BQ,AF (by omega)] at hX;cases hX;exact DZ.undef _ _
    obtain⟨v,hv,hX⟩:=val;rw[hv] at e5;have hAX:∃X,(if i<A.size then A[i]? else(U (fn.ntmps-A.size) undef)[i-A.size]?)=u X:=by
     by_cases a6:i<A.size
     .exact⟨A[i],by rw[AF a6];simp[a6]⟩
     .exact⟨undef,by rw[AD a6,BQ,AF (by omega)]⟩
    obtain⟨X,hXe⟩:=hAX;rw[hXe];have hr:=hX X hXe;by_cases a6:i<args.size
    .rw[AF a6] at e5;rw[AF (by omega)];have:∃V,args'[i]?=u V:=⟨args'[i],by simp[show i<args'.size by omega]⟩;obtain⟨V,hV⟩:=this;rw[hV,hd i v V e5 hV X hr]
    .rw[AD a6,BQ,AF (by omega)] at e5;rw[AD (by omega),BQ,AF (by omega)];have:v=undef:=(ed e5).symm;subst this;rw[O5.undef X hr]
   .rw[Cp (by simp;omega),Cp (by simp;omega)]
  simp only[E,h2,BW,AY,e4]
def JE {fr FR:bo}(h:Er P.a SB H zZ β fr FR)(hc:ff fr):∃(b:bo) (a:Act) (ops:Array eA) (i:Nat) (rest:List Nat) (k:List e7),FR=b.at a (.inRegion ops (i::rest)::k):=by
 obtain⟨h1,h2,ops,i,rest,k,h3⟩:=hc;have m:=h.mode;have r:=h.round;have t:=h.todo;rw[h1] at m;rw[h2] at r;rw[h3] at t;obtain⟨f1,f2,f3,f4,f5,f6,f7⟩:=FR;dsimp only at m r t;cases m;cases r;cases t with
 |cons hi _ =>
  cases hi
  exact⟨⟨f1,f2,[],f4,.run,f6,b7⟩,⟨f2,f4⟩,ops,i,rest,_,rfl⟩
def Jf {fr:bo}{cs CS:List bo}(h:Fu P.a SB H zZ T β (fr::cs) CS)(hc:ff fr):∃FR CS',CS=FR::CS'/\Er P.a SB H zZ β fr FR/\Fu P.a SB H zZ T β cs CS':=by
 cases h with
 |base =>
  obtain⟨_,_,_,_,_,_,h3⟩:=hc;simp[bad] at h3
 |cons h1 h2=>exact⟨_,_,rfl,h1,h2⟩
def iq {g G:I}(h:FX P SB H zZ BB T β g G):G=J G.frame G.callers:=by
 obtain⟨a1,a2,a3,a4,a5⟩:=G;obtain⟨_,_,⟨_,s1⟩,⟨_,d1⟩,⟨_,o1⟩⟩:=h;dsimp only at *;subst s1 d1 o1
 rfl
def jq {x:Lone}{fr FR:bo}{cs CS:List bo}(h1:Er P.a SB x.H zZ x.β fr FR)(h2:Fu P.a SB x.H zZ x.T x.β cs CS):Fp P SB BB zZ { x with g:=back fr cs } (J (FR.finish (.tuple #[])) CS) :=
 ⟨.on (bp h1 (.tuple rfl (by simp))),h2,⟨rfl,rfl⟩,⟨rfl,rfl⟩,⟨rfl,rfl⟩⟩
def QN (W:WgLib P.b L)(a8:Barred P SB zZ L.add (addFn L))(wl:Nat):MX P SB BB zZ Gn L.tWg Wg L.add wl T:=by
 intro x G W0 fr cs e hc hT aA hg hw a7;have a6:=hg.top;have zW:=hg.callers;rw[e] at a6 zW;obtain⟨FR,CS,aB,r1,r2⟩:=Jf zW hc;obtain⟨b,a,ops,i,rest,k,aC⟩:=JE r1 hc;have eF:G.frame=E P.b L.add #[.pointer (u ⟨Wg,0,b7⟩),.int .i64 1] .normal:=by
  refine ip (args:=#[Jp wl,.int .i64 1]) (args':=#[.pointer (u ⟨Wg,0,b7⟩),.int .i64 1]) a8 rfl (by simp[addFn]) (λj v V h1 h2=>?_) a6
  match j,h1,h2 with
  |0,h1,h2=>cases h1;cases h2;exact .ptr hw.Fv aA 0 b7
  |1,h1,h2=>cases h1;cases h2;exact .int _ _
  |j+2,h1,_=>simp at h1
 refine⟨J (FR.finish (.tuple #[])) CS,150,?_,jq r1 r2⟩;rw[iq hg,eF,aB,enter_at _ W.f_add (c:=e8 L) rfl,tZ,aC,bD];exact addPos W (b₀:=b) (a₀:=a) (k₀:=k) W0 a7
def x9 (W:WgLib P.b L)(aA:Barred P SB zZ L.wait (waitFn L))(wl:Nat):jQ P SB BB zZ Gn L.tWg Wg L.wait wl T:=by
 intro x G W0 fr cs e hc hT aB hg hw a7;have a6:=hg.top;have zW:=hg.callers;rw[e] at a6 zW;obtain⟨FR,CS,aC,r1,r2⟩:=Jf zW hc;obtain⟨b,a,ops,i,rest,k,a8⟩:=JE r1 hc;have eF:G.frame=E P.b L.wait #[.pointer (u ⟨Wg,0,b7⟩)] .normal:=by
  refine ip (args:=#[Jp wl]) (args':=#[.pointer (u ⟨Wg,0,b7⟩)]) aA rfl (by simp[waitFn]) (λj v V h1 h2=>?_) a6
  match j,h1,h2 with
  |0,h1,h2=>cases h1;cases h2;exact .ptr hw.Fv aB 0 b7
  |j+1,h1,_=>simp at h1
 refine⟨J (FR.finish (.tuple #[])) CS,150,AnchWN L (λ_=>True) Wg FR CS,?_,λg w hA=>?_,jq r1 r2⟩
 .rw[iq hg,eF,aC,enter_at _ W.f_wait (c:=df L) rfl,rF,a8];exact waitStart W (b₀:=b) (a₀:=a) (k₀:=k) W0 a7
 .rw[a8] at hA ⊢;rw[bD];refine⟨?_,_,waitRound W g w hA⟩;obtain⟨_,rfl,_⟩:=hA
  rfl
def ya (W:WgLib P.b L)(a8:Barred P SB zZ L.done (doneFn L)){x:Lone}{G:I}{W0:ak}{c:bo}{cs:List bo}{wl:Nat}(e:x.g=EX (E P.a L.done #[Jp wl] .deferred) (c::cs))(hc:c≠bad)(aA:x.β wl Wg)
  (hg:Fp P SB BB zZ x G) (hw:Gy P SB zZ Gn x W0) (a7:WgLive L.tWg Wg W0) (hQ:∀C CS,Er P.a SB x.H zZ x.β c C->Fu P.a SB x.H zZ x.T x.β cs CS->C.mode=.returning/\∃q,QuitsD P.b q 0 (J C CS)) :
  ∃m,GW P.b L.tWg Wg bc (R0 P.b L.tWg Wg) m G W0:=by
 have a6:=hg.top;have zW:=hg.callers;rw[e] at a6 zW;have:∃C CS,G.callers=C::CS/\Er P.a SB x.H zZ x.β c C/\Fu P.a SB x.H zZ x.T x.β cs CS:=by
  generalize G.callers=X at zW;cases zW with
  |base=>exact AI rfl hc
  |cons h1 h2=>exact⟨_,_,rfl,h1,h2⟩
 obtain⟨C,CS,aB,r1,r2⟩:=this;have eF:G.frame=E P.b L.done #[.pointer (u ⟨Wg,0,b7⟩)] .deferred:=by
  refine ip (args:=#[Jp wl]) (args':=#[.pointer (u ⟨Wg,0,b7⟩)]) a8 rfl (by simp[doneFn]) (λj v V h1 h2=>?_) a6
  match j,h1,h2 with
  |0,h1,h2=>cases h1;cases h2;exact .ptr hw.Fv aA 0 b7
  |j+1,h1,_=>simp at h1
 obtain⟨hm,q,hq⟩:=hQ C CS r1 r2;refine⟨153,?_⟩;rw[iq hg,eF,aB,enter_atD _ W.f_done (c:=body_done L) rfl,rG];exact done W hm hq W0 a7
end
def I9 (zO:Nat->Prop)(l:Loc):Prop:=∃a:Addr,l=.cell a/\zO a.block
structure IZ (P:b6)(zO:Nat->Prop)(gs:Array I)(W:ak)(t:eV)(q:Nat->Nat):Prop where
 lv:Leavers P t gs q
 past:Past (I9 zO) W.heap.size t
 quiet:Quiet (I9 zO) t
 Ob:∀(i:Nat) (op:MemOp),t[i]?=u op->op.g<gs.size
 low:∀B,zO B->B<W.heap.size
section
variable (P:ED) (SB BB:bh->Bool) (zZ:Bool) (Gn:Nat)
structure Tw (zO:Nat->Prop)(Kp:H6)(x:Lone)(a:I)(W:ak):Prop where
 gl:Fp P SB BB zZ x a
 wl:Gy P SB zZ Gn x W
 tw:x.H.EZ=bc
 dead:∀b B,x.β b B->zO B->x.H b=bk
 keep:∀B,Kp.at_ B->B<W.heap.size/\W.heap[B]?=Kp.w.heap[B]?
 FI:∀b B,x.β b B->Kp.at_ B->x.H b=bk\/Ro x.w b
end
section
variable {P:ED} {SB BB:bh->Bool} {zZ:Bool} {Gn:Nat} {zO:Nat->Prop} {Kp:H6}
def IZ.at {gs:Array I}{W:ak}{t:eV}{q:Nat->Nat}(h:IZ P.b zO gs W t q)(d:Nat):IZ P.b zO gs (W.at d) t q:=⟨h.lv,h.past,h.quiet,h.Ob,h.low⟩
def Tw.at {x:Lone}{a:I}{W:ak}(h:Tw P SB BB zZ Gn zO Kp x a W)(d:Nat):Tw P SB BB zZ Gn zO Kp x a (W.at d):=⟨h.gl,h.wl.same rfl rfl h.wl.env,h.tw,h.dead,h.keep,h.FI⟩
def IZ.slip {gs:Array I}{W:ak}{t:eV}{q:Nat->Nat}(h:IZ P.b zO gs W t q){i:Nat}{g a:I}(aC:0<i)(hi:gs[i]?=u g)(zA:g.status=.running)(h0:gs[0]?=u a)(ha:a.status=.running)(sl:Option (Nat×Nat)) :
  ∃gs' t' q',runT P.b (cq gs W sl) i=(.next (cq gs' W sl),t')/\gs'.size=gs.size/\gs'[0]?=u a/\sumTo gs.size q'<sumTo gs.size q/\IZ P.b zO gs' W (t++t') q':=by
 have hq:=h.lv.old i g aC hi;have aH:(i==0)=false:=by simp;omega
 have zY:i<gs.size:=(Az.1 hi).1;cases a7:q i with
 |zero=>rw[a7] at hq;rw[hq.1] at zA;cases zA
 |succ k =>
  rw[a7] at hq;obtain⟨hf,_⟩|⟨_,g',es,hm,aD,hq'⟩:=hq
  .rw[hf] at zA;cases zA
  have aA:=runT_crowd_go (P:=P.b) (sl:=sl) (i:=i) hi (by rw[aH];exact aD W);have aI:sumTo gs.size (upd q i k)+(k+1)=sumTo gs.size q+k:=by
   have:=sumTo_upd q k id zY;simpa [a7] using this
  have a8:∀op∈MemOp.ofEvents i g.frame.fn g.frame.place es,op.g=i:=λop hop=>by obtain⟨e,_,rfl⟩:=bs hop;rfl
  refine⟨_,_,upd q i k,aA,by simp,?_,by omega,⟨λj x hj hx=>?_,λj hj=>?_⟩,h.past.mute (by omega) hm,h.quiet.app λop hop x hx hs=>?_,λj op hop=>?_,h.low⟩
  .have zU:i≠0:=by omega
   rw[Bn zU,BG,h0];simp[woken_run ha]
  .by_cases a6:i=j
   .subst a6;rw[CB (by simpa using zY)] at hx;obtain rfl:=ed hx;rw[upd_same,Deaf_own];exact hq'
   .rw[Bn a6,BG] at hx;obtain⟨y,hy,rfl⟩:=Bj.1 hx;have aB:=h.lv.old j y hj hy;rw[woken_quitsD aB,upd_ne q k (Ne.symm a6),cK t a6 _ a8];exact aB
  .rw[cK t (g':=i) (by simp at hj;omega) _ a8];exact h.lv.above j (by simpa using hj)
  .obtain⟨e,he,rfl⟩:=bs hop;rw[touch_mute (hm e he)] at hx;cases hx
  .obtain⟨_,aF⟩|⟨_,aG⟩:=b9 hop
   .simpa using h.Ob j op aF
   .rw[a8 op aG];simpa using zY
def IZ.fin {gs:Array I}{W W':ak}{t:eV}{q:Nat->Nat}(h:IZ P.b zO gs W t q){x:Lone}{a g2:I}{D6:Em}{w':ak}{ES:Array Event}(a7:x.H.EZ=bc)(aC:∀b B,x.β b B->zO B->x.H b=bk)
  (h0:gs[0]?=u a) (e3:ea P.b bk a W=.go g2 W' ES) (f:Hu P SB zZ Gn x W D6 w' W' ES.toList) (sl:Option (Nat×Nat)) :
  ∃gs' t',runT P.b (cq gs W sl) 0=(.next (cq gs' W' sl),t')/\gs'.size=gs.size/\gs'[0]?=u g2/\IZ P.b zO gs' W' (t++t') q:=by
 have aF:ES.toList.toArray=ES:=by simp
 have a8:=cP f a7;rw[aF] at a8;have aA:=eD f a7 (k:=0) (fn:=a.frame.fn) (pos:=a.frame.place);rw[aF] at aA;have aB:∀op∈MemOp.ofEvents 0 a.frame.fn a.frame.place ES,op.g=0:=λop hop=>by obtain⟨e,_,rfl⟩:=bs hop;rfl
 have old:∀b B,D6 b B->B<W.heap.size->x.β b B:=λb B hb hB=>(f.new b B hb).elim id λh=>AI h.2 (Nat.not_le.2 hB);have aD:∀b B,D6 b B->zO B->x.H b=true:=λb B hb hd=>aC b B (old b B hb (h.low B hd)) hd;have a6:∀e∈ES,∀z,(bA e).touch?=u z->¬I9 zO z.loc:=by
  intro e he z hz ⟨b,hb,hd⟩;have hE:=f.evs a7 e (by simpa using he);cases hE with
  |@cell a A wr sy hab _ hc _ =>
   have:z.loc=.cell A:=by simp[bA,bq] at hz;subst hz;rfl
   rw[this] at hb;cases hb;obtain⟨n,hn,_⟩:=hc;have:=(f.rel.FV _ _ hab (aD _ _ hab hd)).1;rw[this] at hn;simp[Fw] at hn
  |@obj r R wr sy _ _ =>
   have:z.loc=.obj R:=by cases wr<;>cases sy<;>simp[bA,bq] at hz<;>subst hz<;>rfl
   rw[this] at hb;cases hb
  |mark hm=>cases hm<;>simp[bA,bq] at hz
  |out =>
   have:z.loc=.output:=by simp[bA,bq] at hz;subst hz;rfl
   rw[this] at hb;cases hb
 have zY:0<gs.size:=(Az.1 h0).1
 refine⟨_,_,runT_crowd_go (P:=P.b) (sl:=sl) (i:=0) h0 (by simpa using e3),by simp,by simp[zY],
  ⟨⟨λj y hj hy=>?_,λj hj=>?_⟩,(h.past.mono f.SIZE).own λe he=>⟨λz hz hs=>AI hs (a6 e he z hz),(a8 e he).1,(a8 e he).2.1,?_⟩,h.quiet.app λop hop z hz hs=>?_,λj op hop=>?_,λB hB=>AC (h.low B hB) f.SIZE⟩⟩
 .have zU:0≠j:=by omega
  rw[Bn zU,BG] at hy;obtain⟨z,hz,rfl⟩:=Bj.1 hy;have aG:=h.lv.old j z hj hz;rw[woken_quitsD aG,cK t (by omega) _ aB];exact aG
 .rw[cK t (g':=0) (by simp at hj;omega) _ aB];exact h.lv.above j (by simpa using hj)
 .exact aA { g:=0,fn:=a.frame.fn,pos:=a.frame.place,act:=.ofEvent e } (by rw[ofEvents_eq];exact Array.mem_map.2 ⟨e,he,rfl⟩)
 .obtain⟨e,he,rfl⟩:=bs hop;exact AI hs (a6 e he z hz)
 .obtain⟨_,aH⟩|⟨_,aI⟩:=b9 hop
  .simpa using h.Ob j op aH
  .rw[aB op aI];simpa using zY
def Ko {x:Lone}{W W':ak}{D6:Em}{w':ak}{ES:List Event}(f:Hu P SB zZ Gn x W D6 w' W' ES)(keep:∀B,Kp.at_ B->B<W.heap.size/\W.heap[B]?=Kp.w.heap[B]?)(FI:∀b B,x.β b B->Kp.at_ B->x.H b=bk\/Ro x.w b) :
  (∀B,Kp.at_ B->B<W'.heap.size/\W'.heap[B]?=Kp.w.heap[B]?)/\∀b B,D6 b B->Kp.at_ B->x.H b=bk\/Ro w' b:=by
 refine⟨λB hB=>?_,λb B hb hB=>?_⟩
 .obtain⟨k1,k3⟩:=keep B hB;refine⟨AC k1 f.SIZE,?_⟩;rw[<-k3];by_cases hx:∃b,x.β b B
  .obtain⟨b,hb⟩:=hx;obtain h|⟨cs,ty,z,q1,q2⟩:=FI b B hb hB
   .exact f.hk b B hb h
   .exact(f.ro b B cs ty z hb q1 q2).2
  .exact f.KEPT B k1 λb hb=>hx ⟨b,hb⟩
 .have h0:x.β b B:=(f.new b B hb).elim id λh=>AI h.2 (Nat.not_le.2 (keep B hB).1);exact(FI b B h0 hB).imp id λh=>h.kept f h0
def IZ.tree (lib:∀H,Lib P SB H zZ BB Gn){gs:Array I}{W:ak}{t:eV}{q:Nat->Nat}(h:IZ P.b zO gs W t q){x:Lone}{a:I}(ht:Tw P SB BB zZ Gn zO Kp x a W)(h0:gs[0]?=u a){Q:I->ak->Prop}(hr:Ee P.a (Fa P.a BB) Q x.g x.w)(hq:¬Q x.g x.w)(sl:Option (Nat×Nat)) :
  ∃gs' W' t' x' a',runT P.b (cq gs W sl) 0=(.next (cq gs' W' sl),t')/\gs'.size=gs.size/\gs'[0]?=u a'/\IZ P.b zO gs' W' (t++t') q/\Tw P SB BB zZ Gn zO Kp x' a' W'/\Ee P.a (Fa P.a BB) Q x'.g x'.w/\After P.a (x'.g,x'.w) (x.g,x.w)/\x'.H=x.H/\x'.T=x.T/\x.β.le x'.β/\(W'.os=W.os/\W'.output=W.output)/\W.heap.size<=W'.heap.size/\x.w.heap.size<=x'.w.heap.size/\∀b B,x'.β b B->x.β b B\/(x.w.heap.size<=b/\W.heap.size<=B):=by
 obtain⟨g',w',es,D6,g2,W',ES,e1,e2,e3,e4,e5⟩:=Eu.follow (lib x.H) (main2:=bk) hr hq ht.gl ht.wl;have f:Hu P SB zZ Gn x W D6 w' W' ES.toList:=e5;obtain⟨gs',t',k1,k2,k3,k4⟩:=h.fin ht.tw ht.dead h0 e3 f sl;obtain⟨k5,k6⟩:=Ko f ht.keep ht.FI;have a6:∀b B,D6 b B->zO B->x.H b=true:=λb B hb hd=>(f.new b B hb).elim (λh1=>ht.dead b B h1 hd) λh1=>AI h1.2 (Nat.not_le.2 (h.low B hd));exact⟨gs',W',t',⟨g',w',x.H,D6,x.T⟩,g2,k1,k2,k3,k4,⟨e4,f.rel,ht.tw,a6,k5,k6⟩,e2,⟨W.tape,W.drawn,es,e1,e4.callers.ne⟩,rfl,rfl,f.le,⟨f.OS,f.OUT⟩,f.SIZE,f.size,f.new⟩
def JO (lib:∀H,Lib P SB H zZ BB Gn){H:Hid}{T:List bo}{β:Em}{Q:I->ak->Prop}{os:Os}{ou:ak}{n b0 B0:Nat}:∀(μ:Wm×Nat) (m:Machine) (t:eV),
  (∃gs W sl q x a,m=cq gs W sl/\gs[0]?=u a/\gs.size=n/\IZ P.b zO gs W t q/\Tw P SB BB zZ Gn zO Kp x a W/\Ee P.a (Fa P.a BB) Q x.g x.w/\x.H=H/\x.T=T/\β.le x.β/\(W.os=os/\W.output=ou.output)/\(B0<=W.heap.size/\b0<=x.w.heap.size/\∀b B,x.β b B->β b B\/(b0<=b/\B0<=B))/\μ=(.tree Q (x.g,x.w),sumTo n q)) ->
  ∃N m' t',runNT P.b N m t=(.next m',t')/\∃gs W sl q x a,m'=cq gs W sl/\gs[0]?=u a/\gs.size=n/\IZ P.b zO gs W t' q/\Tw P SB BB zZ Gn zO Kp x a W/\Q x.g x.w/\x.H=H/\x.T=T/\β.le x.β/\(W.os=os/\W.output=ou.output)/\(B0<=W.heap.size/\b0<=x.w.heap.size/\∀b B,x.β b B->β b B\/(b0<=b/\B0<=B)):=by
 have wf:WellFounded (Prod.Lex (J2 P.a) (·<·:Nat->Nat->Prop)):=(Prod.lex ⟨_,J2.wf P.a⟩ Nat.lt_wfRel).wf;refine jP (P:=P.b) wf (λμ m t=>∃gs W sl q x a,m=cq gs W sl/\gs[0]?=u a/\gs.size=n/\IZ P.b zO gs W t q/\Tw P SB BB zZ Gn zO Kp x a W/\Ee P.a (Fa P.a BB) Q x.g x.w/\x.H=H/\x.T=T/\β.le x.β/\(W.os=os/\W.output=ou.output)/\(B0<=W.heap.size/\b0<=x.w.heap.size/\∀b B,x.β b B->β b B\/(b0<=b/\B0<=B))/\μ=(.tree Q (x.g,x.w),sumTo n q))
  (λm t=>∃gs W sl q x a,m=cq gs W sl/\gs[0]?=u a/\gs.size=n/\IZ P.b zO gs W t q/\Tw P SB BB zZ Gn zO Kp x a W/\Q x.g x.w/\x.H=H/\x.T=T/\β.le x.β/\(W.os=os/\W.output=ou.output)/\(B0<=W.heap.size/\b0<=x.w.heap.size/\∀b B,x.β b B->β b B\/(b0<=b/\B0<=B))) ?_
 rintro μ m t ⟨gs,W,sl,q,x,a,rfl,h0,hn,hb,ht,hr,eH,eT,zX,a8,zx,rfl⟩;by_cases hq:Q x.g x.w
 .exact .inl ⟨gs,W,sl,q,x,a,rfl,h0,hn,hb,ht,hq,eH,eT,zX,a8,zx⟩
 refine .inr ?_;have a6:a.status=.running:=ht.gl.status.2;have aA:∀g∈gs,awake g:=by
  intro g hg;obtain⟨i,hi,rfl⟩:=Array.mem_iff_getElem.1 hg;obtain rfl|a7:=Bs i
  .have:gs[0]=a:=by simpa [AK hi] using h0
   rw[this];exact awake_of (.inl a6)
  .exact awake_of ((hb.lv.old i _ a7 (AK hi)).status.elim .inl λx=>.inr (.inr x))
 obtain⟨i,g,d,sl',hi,hg,zG⟩:=crowd_pick (P:=P.b) (w:=W) (sl:=sl) aA ⟨0,a,h0,a6⟩;obtain rfl|a7:=Bs i
 .obtain⟨gs',W',t',x',a',k1,k2,k3,k4,k5,k6,k7,k8,k9,aB,k11,k12,k13,k14⟩:=(hb.at d).tree lib (ht.at d) h0 hr hq sl';exact⟨_,_,(.tree Q (x'.g,x'.w),sumTo n q),by rw[zG,k1],Prod.Lex.left _ _ ⟨.tree hq k7,Dr (EO.of hr)⟩,gs',W',sl',q,x',a',rfl,k3,k2.trans hn,k4,k5,k6,k8.trans eH,k9.trans eT,Em.le_trans zX aB,⟨k11.1.trans a8.1,k11.2.trans a8.2⟩,⟨AH zx.1 k12,AH zx.2.1 k13,λb B hb=>(k14 b B hb).elim (zx.2.2 b B) λh=>.inr ⟨AH zx.2.1 h.1,AH zx.1 h.2⟩⟩,rfl⟩
 .obtain⟨gs',t',q',k1,k2,k3,k4,k5⟩:=(hb.at d).slip a7 hi hg h0 a6 sl';exact⟨_,_,(.tree Q (x.g,x.w),sumTo n q'),by rw[zG,k1],Prod.Lex.right _ (by rw[<-hn];exact k4),gs',W.at d,sl',q',x,a,rfl,k3,k2.trans hn,k5,ht.at d,hr,eH,eT,zX,a8,zx,rfl⟩
end
open Go.ConcR (KK WgAt stA smA rd wr mk DC0 Bk)
section
variable {P:ED} {SB BB:bh->Bool} {zZ:Bool} {Gn:Nat} {ty Wg:Nat} {zO zN:Nat->Prop} {Kp:H6} {Ψ0 Ψ2:ak->Prop} {fA fW:bh} {wl:Nat} {Pr:Em} {T:List bo} {Fn:Bool->Hid->I->ak->Prop}
def t7 {j:Nat}{f:Nat->Nat}(h:∀i,i<j->f i=0):sumTo j f=0:=by
 induction j with
 |zero=>rfl
 |succ j ih=>simp only[sumTo];rw[ih λi hi=>h i (by omega),h j (by omega)]
def LI {gs:Array I}{W:ak}{t:eV}{q:Nat->Nat}{sl:Option (Nat×Nat)}{x:Lone}{a:I}{tp:Bool}{k:Nat}
    (lv:Leavers P.b t gs q) (past:Past (I9 zO) Wg t) (quiet:Quiet (I9 zO) t) (hgs:∀(i:Nat) (op:MemOp),t[i]?=u op->op.g<gs.size) (aB:∀B,zO B->B<Wg) (aC:WgAt ty Wg W 0 0) (h0:gs[0]?=u a)
    (zQ:Fp P SB BB zZ x a) (aL:Gy P SB zZ Gn x W) (aM:x.H.EZ=bc) (hT:x.T=T) (hb:Pr.le x.β) (aH:∀b,x.β b Wg->x.H b=bk) (aD:∀b B,x.β b B->¬zO B) (aI:∀b B,x.β b B->zN B->x.H b=bk)
    (I4:∀B,zN B->(B≠Wg/\¬zO B)/\¬Kp.at_ B/\B<W.heap.size) (keep:∀B,Kp.at_ B->B<W.heap.size/\B≠Wg/\W.heap[B]?=Kp.w.heap[B]?) (FI:∀b B,x.β b B->Kp.at_ B->x.H b=bk\/Ro x.w b)
    (aN:W.os=Kp.w.os/\W.output=Kp.w.output) (aF:(tp=bk->Ψ0 W)/\(tp=bc->Ψ2 W)) (aJ:PL P SB BB zZ Gn ty Wg zN Ψ0 Ψ2 fA fW wl Pr T Fn k tp x.H x.g x.w) (aP:gs.size+k<=Kp.bd/\Kp.bd<=2147483647) :
    ∃μ,Nq P SB BB zZ Gn ty Wg zO zN Kp Ψ0 Ψ2 fA fW wl Pr T Fn (gs.size-1) μ (cq gs W sl) t:=by
  have hgp:0<gs.size:=(Az.1 h0).1;have aA:Wg<W.heap.size:=(Az.1 aC).1;obtain⟨j,hj⟩:∃j,gs.size=j+1:=⟨gs.size-1,by omega⟩;rw[show gs.size-1=j by omega];obtain⟨ts,a7⟩:∃ts:TS,ts=if tp then .start else .done:=⟨_,rfl⟩
  have aO:ts.tp=tp:=by rw[a7];cases tp<;>rfl
  have aK:∀(i:Nat) (y:Touch),touchAt t i=u y->∀b:Addr,y.loc=.cell b->b.block≠Wg:=by
    intro i y hy b hb e;obtain⟨op,hop,hoy⟩:=touch_of hy;have a8:=past.seen op (Bi hop);have key:∀(act:MemAct) (y:Touch),act.touch?=u y->act.low Wg->y.loc=.cell b->False:=by
      intro act y hy a8 hb;cases act with
      |access ev =>
        simp only[bq,bW] at hy;subst hy;obtain⟨loc,wr,sy⟩:=ev;simp only at hb;subst hb;simp only[fc,Loc.low] at a8;omega
      |mark m =>
        cases m<;>simp[bq] at hy
        all_goals
          subst hy;simp only[Loc.cell.injEq] at hb;subst hb;simp only[fc] at a8;omega
      |_=>simp[bq] at hy
    exact key op.act y hoy a8 hb
  let L:Nat->Option Lone:=put (λ_=>b7) 0 (u x)
  have a6:∀ {i y},L i=u y->i=0/\y=x:=λ{i y} e=>by
    by_cases e':i=0
    · subst e';simp only[L,Ex,bW] at e;exact⟨rfl,e.symm⟩
    · simp only[L,EC _ _ e'] at e;cases e
  have aG:∀k l,Lm zN L ts.tp k l->k=0/\l.isMemory=bk/\¬I9 zO l:=by
    rintro k l (⟨y,hy,b,B,h1,h2,h4⟩|⟨h1,_,B,h2,h4⟩)
    · obtain⟨rfl,rfl⟩:=a6 hy
      refine⟨rfl,Hv h4,?_⟩;rintro⟨c,rfl,hd⟩;have e:c.block=B:=h4;exact aD b B h1 (e▸hd)
    · refine⟨h1,Hv h4,?_⟩
      rintro⟨c,rfl,hd⟩;have e:c.block=B:=h4;exact(I4 B h2).1.2 (e▸hd)
  let D:Nat->WD:=λi=>⟨1,0,Deaf t (i+1)⟩
  have hV:Vc j D=0:=t7 λi _=>rfl
  refine⟨((k,9,.tree (J1 P SB BB zZ Gn ty Wg zN Ψ0 Ψ2 fA fW wl Pr T Fn k tp x.H) (x.g,x.w)),(List.range j).map (λi=>Wm.st 1 (q (i+1))),(0,0)),j,gs,W,sl,D,λi=>.st 1 (q (i+1)),λ_=>bc,L,ts,λ_=>0,0,0,.sp 0 5,0,λ_=>0,0,x,a,rfl,
    ⟨⟨hj,λi hi=>?_,⟨λi y hy=>?_,λi y hy=>?_,λi y hy=>?_,λi y hy=>?_,λi y hy _=>?_,λi i' y y' zU hy hy'=>?_,⟨aA,λB hB=>Nat.lt_trans (aB B hB) aA,λB hB=>(I4 B hB).2.2⟩,λB hB=>(I4 B hB).1,keep,λi y hy=>?_,λB hB=>(I4 B hB).2.1,aN⟩,?_,λop hop=>?_,λi hi=>rfl,λi hi h2=>by omega,aC,λi _ h=>(by cases h),λk h=>?_,⟨λh=>aF.1 ?_,λh=>aF.2 ?_⟩,λi hi=>EC _ _ (by omega),λi _=>rfl,AA _⟩,
      by rw[aO];exact .free aJ hb hT zQ,Ex _ _ _,h0,past.hears,?_,λe=>by simp at e,by simp only;omega⟩,by simp⟩
  · have zY:i+1<gs.size:=by omega
    refine⟨gs[i+1],AK zY,?_⟩;have:L (i+1)=none:=EC _ _ (by omega);rw[this];exact .quit (lv.old (i+1) _ (by omega) (AK zY))
  · obtain⟨rfl,rfl⟩:=a6 hy;exact aL
  · obtain⟨rfl,rfl⟩:=a6 hy;exact aM
  · obtain⟨rfl,rfl⟩:=a6 hy;exact aH
  · obtain⟨rfl,rfl⟩:=a6 hy;exact aD
  · obtain⟨rfl,rfl⟩:=a6 hy;exact aI
  · obtain⟨rfl,rfl⟩:=a6 hy
    obtain⟨rfl,rfl⟩:=a6 hy';exact AI rfl zU
  · obtain⟨rfl,rfl⟩:=a6 hy;exact FI
  · have t0 := DT (Sh := MV zO Wg) (Wr := NP zN L ts.tp) (Rd := Lm zN L ts.tp) (N := j + 1) (Pd := fun _ _ => False) (a := stA Wg) past (fun l hl => by
        obtain⟨c,rfl,h|h⟩:=hl
        · exact .inl ⟨c,rfl,h⟩
        · exact .inr ⟨c,rfl,by omega⟩) (λl hl=>by obtain⟨c,rfl,h⟩:=hl;exact⟨c,rfl,.inl h⟩) (λi op y hi hy hs=>by
        obtain⟨c,hc,h|h⟩:=hs
        · exact quiet i op y hi hy ⟨c,hc,h⟩
        · exact AI h (aK i y (by rw[touchAt_of hi];exact hy) c hc)) (AA _) (λi op hi=>by have:=hgs i op hi;omega) (by omega) (λk l h=>aG k l (gt h)) aG
    exact t0.PG λ_ _ _ h=>h.elim
  · exact MemAct.low_mono (Nat.le_of_lt aA) (past.seen op hop)
  · rw[a7] at h;cases tp<;>cases h
  · rw[a7] at h
    cases tp with
    |true=>rfl
    |false=>cases h
  · rw[a7] at h
    cases tp with
    |true=>cases h
    |false=>rfl
  · have:=ConcN.Mode.opn (j:=j) (D:=D) (tag:=.sp 0 5) trivial (λi _=>.inr (.inr (.inr rfl))) (by simp)
    rw[hV] at this;simpa [pend] using this
end
def cX (p:b6):Frame:={ (default:bo) with fn:=p.funcs.size,defers:=[],mode:=.panicking [eb] }
def ld {p:b6} {f:bh} {fn:e9} (hf:p.funcs[f]?=u fn) (hname:(fn.name == "runtime.NumGoroutine")=bc) {c:Code} (hb:fn.body=u c) (cc:Array br) (W:ak) :
  ea p bc (born p ⟨.fn (.func f) cc,#[]⟩) W=.go (J (E p f cc .deferred) [cX p]) W #[]:=by
 have h1:¬fn.name = "runtime.NumGoroutine":=by simpa using hname
 simp[born,ea,unwind,callDeferred,invoke,callFunc,hf,h1,hb,GStep.after,e6,cX,J]
def rH {p:b6}{C:bo}{fn:e9}(hf:p.funcs[C.fn]?=u fn)(hr:fn.results=#[])(hm:C.mode=.returning)(hd:C.defers=[])(hk:C.kind=.deferred):QuitsD p 2 0 (J C [cX p]):=by
 refine .inr ⟨rfl,J (cX p) [],#[],by simp,λw=>?_,.inr ⟨rfl,{ frame:=cX p,callers:=[],status:=.finished,dying:=b7 },#[],by simp,λw=>?_,⟨rfl,rfl⟩⟩⟩
 .obtain⟨a1,a2,a3,a4,a5,a6,a7⟩:=C;dsimp only at hf hm hd hk;subst hm hd hk;simp[J,ea,unwind,hf,results_none hr,events_results_none hr,doReturn,cX,eb,GStep.after,e6]
 .simp[J,ea,unwind,cX,eb,Frame.catches];rfl
def vZ {p:b6}{m:Bool}{b:bo}{a:Act}{ops:Array eA}{i:Nat}{rest:List Nat}{o:eA}{k:List e7}{cs:List bo}{w:ak}{f:bh}{cc:Array br}{t:Tmp}(ho:ops[i]?=u o)(hop:o.op=.go { callee:=.value (.tmp t),args:=#[],argTypes:=#[] })(hd:o.dst=b7)
  (hw:Region.wanted o (yielded ops a.tmps)=bk) (hk:b.kind≠.early) (ht:a.eval (.tmp t)=.func (.func f) #[] cc) :
  ea p m (J (b.at a (.inRegion ops (i::rest)::k)) cs) w=.spawn (J (b.at a (.inRegion ops rest::k)) cs) (born p ⟨.fn (.func f) cc,#[]⟩) w #[]:=by
 have h1:(fq a.eval o).run p w=.ok (.spawn ⟨.fn (.func f) cc,#[]⟩) w:=by simp[fq,resolve,hop,ht,Deferred.ofValue]
 have h2:(fq a.eval o).events p w #[]=#[]:=by simp[fq,resolve,hop,ht,Deferred.ofValue]
 rw[stepG_spawn ho hw hk h1 rfl];have h3:listed p b.fn a o w=#[]:=by unfold listed;rw[h2];exact e6 _ _
 have h4:a.put o.dst undef=a:=by rw[hd];rfl
 rw[h3,h4]
section
variable {P:ED} {SB BB:bh->Bool} {zZ:Bool} {Gn:Nat} {Wg:Nat} {zN:Nat->Prop}
structure K9 (P:ED)(SB BB:bh->Bool)(zZ:Bool)(x:Lone)(G:I)(b:bo)(a:Act)(ops:Array eA)(i:Nat)(k:List e7)(f:bh)(cc:Array br)(t:Tmp)(fn:e9)(c:Code):Prop where
 g:x.g=J (b.at a (.inRegion ops [i]::k)) [bad]
 bb:BB b.fn=bk
 op:∃o,ops[i]?=u o/\o.op=.go { callee:=.value (.tmp t),args:=#[],argTypes:=#[] }/\o.dst=b7/\o.guard=b7
 ke:b.kind≠.early
 ht:a.eval (.tmp t)=.func (.func f) #[] cc
 hf:P.a.funcs[f]?=u fn/\P.b.funcs[f]?=u fn/\(fn.name == "runtime.NumGoroutine")=bc/\fn.body=u c
 sb:SB f=bk
def nM {o:eA}(h:o.guard=b7)(y:Nat->Option Bool):Region.wanted o y=true:=by
 unfold Region.wanted;rw[h]
def Kq {x:Lone}{G:I}{W:ak}{b:bo}{a:Act}{ops:Array eA}{i:Nat}{k:List e7}{f:bh}{cc:Array br}{t:Tmp}{fn:e9}{c:Code}(h:K9 P SB BB zZ x G b a ops i k f cc t fn c)
  (hg:Fp P SB BB zZ x G) :
  ∃G' CC,ea P.b bk G W=.spawn G' (born P.b ⟨.fn (.func f) CC,#[]⟩) W #[]/\Fp P SB BB zZ { x with g:=J (b.at a (.inRegion ops []::k)) [bad] } G'/\D8 (SP SB x.H) x.β cc CC:=by
 obtain⟨o,o1,o2,o3,o4⟩:=h.op;have a7:=hg.top.IP (by rw[h.g];exact h.bb);have zW:=hg.callers;rw[h.g] at a7 zW;have zR:Er P.a SB x.H zZ x.β (b.at a (.inRegion ops [i]::k)) G.frame:=a7;obtain⟨B,A,PO,i2,Pp,K2,a6⟩:=JE zR ⟨rfl,rfl,ops,i,[],k,rfl⟩;have aA:=zR.todo;rw[a6] at aA;have aB:PO=ops/\i2::Pp=[i]:=by
  cases aA with
  |cons hi _=>cases hi;exact⟨rfl,rfl⟩
 obtain⟨rfl,e2⟩:=aB;simp only[List.cons.injEq] at e2;obtain⟨rfl,rfl⟩:=e2;have a8:DZ (SP SB x.H) x.β (a.eval (.tmp t)) (A.eval (.tmp t)):=by
  have:=zR.tmps;rw[a6] at this;exact this.getD t (DZ.undef _ _)
 rw[h.ht] at a8;have:∃CC,A.eval (.tmp t)=.func (.func f) #[] CC/\D8 (SP SB x.H) x.β cc CC:=by
  generalize A.eval (.tmp t)=V at a8;cases a8 with
  |@func _ F _ X _ CC hF h1 _ h2 a2 =>
   cases hF with
   |func _ =>
    have:X=#[]:=by simpa using h1.symm
    exact⟨CC,by rw[this],h2,a2⟩
 obtain⟨CC,eC,hCC⟩:=this;have hke:B.kind≠.early:=by
  have:=zR.kind;rw[a6] at this;have h2:b.kind=B.kind:=this;rw[<-h2];exact h.ke
 have eG:G=J G.frame G.callers:=iq hg;have fin:=bp zR (v:=undef) (V:=undef) (DZ.undef _ _);rw[a6,bD,bD,o1] at fin;simp only[BF,o3] at fin;refine⟨J (B.at A (.inRegion PO []::K2)) G.callers,CC,?_,⟨.on ?_,?_,⟨rfl,rfl⟩,⟨rfl,rfl⟩,⟨rfl,rfl⟩⟩,hCC⟩
 .rw[eG,a6];exact vZ o1 o2 o3 (nM o4 _) hke eC
 .exact fin
 .exact zW
def LJ (L:∀H,Lib P SB H zZ BB Gn){x:Lone}{G:I}{W:ak}{b:bo}{a:Act}{ops:Array eA}{i:Nat}{k:List e7}{f:bh}{cc:Array br}{t:Tmp}{fn:e9}{c:Code}(h:K9 P SB BB zZ x G b a ops i k f cc t fn c)
  (hg:Fp P SB BB zZ x G) (hw:Gy P SB zZ Gn x W) (a7:x.H.EZ=bc) (hid:∀b,x.β b Wg->x.H b=bk) (I3:∀b B,x.β b B->zN B->x.H b=bk) {tp:Bool} {wl:Em} (a8:∀b B,wl b B->x.β b B)
  {K:Nat->Prop} {w1:ak} (hcut:Lr P.a SB zZ x.H x.H K (J (b.at a (.inRegion ops []::k)) [bad]) x.w w1) (a6:∀b,K b->x.H b=bk\/Ro w1 b) (hcc:D8 (SP SB x.H) (EK K) cc cc) (hK:∀b B,wl b B->K b) :
  ∃G' child,ea P.b bk G W=.spawn G' child W #[] /\
   Split P SB BB zZ Gn Wg zN x G' child W tp tp bc ⟨J (b.at a (.inRegion ops []::k)) [bad],w1,x.H,cut K x.β,x.T⟩ ⟨J (E P.a f cc .deferred) [bad],w1,x.H,cut K x.β,[cX P.b]⟩ wl:=by
 obtain⟨G',CC,e1,e2,e3⟩:=Kq h (W:=W) hg;obtain⟨f1,f2,f3,f4⟩:=h.hf;have hwc:=mh hcut hw
 refine⟨G',_,e1,?_,hwc,a7,⟨rfl,J (E P.b f CC .deferred) [cX P.b],λW=>ld f2 f3 f4 CC W,⟨E6 (L x.H) (.inl h.sb) (e3.cut hcut.bl hcc) .deferred (by decide),.base,⟨rfl,rfl⟩,⟨rfl,rfl⟩,⟨rfl,rfl⟩⟩⟩,hwc,a7,λb B h=>⟨hK b B h,a8 b B h⟩,
  λb B hb=>⟨b,hb.2,λhh=>⟨hh,λ_=>(a6 b hb.1).resolve_left (by rw[hh];simp)⟩⟩,λb B hb=>.inl ⟨b,hb.2,λhh=>⟨hh,λ_=>(a6 b hb.1).resolve_left (by rw[hh];simp)⟩⟩,λb hb=>hid b hb.2,λb hb=>hid b hb.2,λb B hb=>I3 b B hb.2,λ_ b B hb=>I3 b B hb.2,?_,⟨λe=>(by cases e),λ_=>rfl⟩⟩
 .exact mg (g:=J (b.at a (.inRegion ops []::k)) [bad]) h.bb hcut e2
 .intro b1 b2 B h1 h2;have:b1=b2:=hw.Fv.inj h1.2 h2.2;subst this;obtain e|e:=a6 b1 h1.1
  .exact .inl e
  .exact .inr (.inr ⟨e,e⟩)
def we (K:Nat->Prop)(β:Em):cut K (cut K β)=cut K β:=by
 funext b B;exact propext ⟨λh=>h.2,λh=>⟨h.1,h⟩⟩
def Dl (H:Hid)(tl:Nat->Bool):Hid:=⟨λb=>H.at_ b&&!tl b,bc,bk⟩
def LK (L:∀H,Lib P SB H zZ BB Gn){x:Lone}{G:I}{W:ak}{b:bo}{a:Act}{ops:Array eA}{i:Nat}{k:List e7}{f:bh}{cc:Array br}{t:Tmp}{fn:e9}{c:Code}(h:K9 P SB BB zZ x G b a ops i k f cc t fn c)
  (hg:Fp P SB BB zZ x G) (hw:Gy P SB zZ Gn x W) (a8:x.H.EZ=bc) (hid:∀b,x.β b Wg->x.H b=bk) (I3:∀b B,x.β b B->zN B->x.H b=bk) {wl:Em} (aC:∀b B,wl b B->x.β b B)
  {K:Nat->Prop} {w1 wk:ak} (hcut:Lr P.a SB zZ x.H x.H K (J (b.at a (.inRegion ops []::k)) [bad]) x.w w1) (a6:∀b,K b->x.H b=bk\/Ro w1 b) (hK:∀b B,wl b B->K b)
  {tl:Nat->Bool} (hcc:D8 (SP SB (Dl x.H tl)) (EK K) cc cc) (aA:∀b B,x.β b B->tl b=bk->zN B) (aB:∀b,tl b=bk->x.H b=bk) (aD:¬zN Wg)
  (zx:w1.heap.size<=wk.heap.size/\wk.os=w1.os) (hold:∀b,K b->tl b=bc->wk.heap[b]?=w1.heap[b]?) (aF:∀b o,K b->x.H b=bc->w1.heap[b]?=u o->EW (SP SB (Dl x.H tl)) (CK P.a SB zZ) (EK K) o o)
  (a7:∀b B,K b->tl b=bk->x.β b B->∃o O,wk.heap[b]?=u o/\W.heap[B]?=u O/\EW (SP SB (Dl x.H tl)) (CK P.a SB zZ) (cut K x.β) o O) (zY:∀b,x.H b=bk->b<wk.heap.size) :
  ∃G' child,ea P.b bk G W=.spawn G' child W #[] /\
   Split P SB BB zZ Gn Wg zN x G' child W bk bc bk ⟨J (b.at a (.inRegion ops []::k)) [bad],w1,x.H,cut K x.β,x.T⟩ ⟨J (E P.a f cc .deferred) [bad],wk,Dl x.H tl,cut K x.β,[cX P.b]⟩ wl:=by
 obtain⟨G',CC,e1,e2,e3⟩:=Kq h (W:=W) hg;obtain⟨f1,f2,f3,f4⟩:=h.hf;have hwc:=mh hcut hw;have hH:∀b,(Dl x.H tl) b=bk↔x.H b=bk/\tl b=false:=λb=>by simp[Dl]
 have hHf:∀b,(Dl x.H tl) b=bc->x.H b=bc\/tl b=true:=λb hb=>by
  simp only[Dl,Bool.and_eq_false_iff,Cv] at hb;exact hb
 have hRk:∀b,K b->tl b=bc->Ro w1 b->Ro wk b:=λb hk ht ⟨c,t,z,h1,h2⟩=>⟨c,t,z,(hold b hk ht).trans h1,h2⟩;have hwk:EI (SP SB (Dl x.H tl)) (CK P.a SB zZ) Gn (cut K x.β) wk W:=by
  refine⟨hwc.Fv,⟨AH hwc.room.1 zx.1,hwc.room.2⟩,λb B hb hh=>?_,λb B hb hh=>?_,λb hh=>zY b ((hH b).1 hh).1,by rw[zx.2];exact hwc.env⟩
  .cases ht:tl b with
   |true=>exact a7 b B hb.1 ht hb.2
   |false =>
    have hx:x.H b=false:=(hHf b hh).resolve_right (by rw[ht];simp);obtain⟨o,O,q1,q2,q3⟩:=hwc.FJ b B hb hx;refine⟨o,O,(hold b hb.1 ht).trans q1,q2,?_⟩;have:=q3.cut rfl (aF b o hb.1 hx q1);rw[we] at this;exact this
  .obtain⟨q1,q2⟩:=(hH b).1 hh;obtain⟨r1,r2,_⟩:=hwc.FV b B hb q1;exact⟨(hold b hb.1 q2).trans r1,λ_=>r2 a8,λe=>by cases e⟩
 refine⟨G',_,e1,?_,hwc,a8,⟨rfl,J (E P.b f CC .deferred) [cX P.b],λW=>ld f2 f3 f4 CC W,⟨E6 (L (Dl x.H tl)) (.inl h.sb) (e3.cut rfl hcc) .deferred (by decide),.base,⟨rfl,rfl⟩,⟨rfl,rfl⟩,⟨rfl,rfl⟩⟩⟩,hwk,rfl,λb B h=>⟨hK b B h,aC b B h⟩,
  λb B hb=>⟨b,hb.2,λhh=>⟨hh,λ_=>(a6 b hb.1).resolve_left (by rw[hh];simp)⟩⟩,λb B hb=>?_,λb hb=>hid b hb.2,λb hb=>(hH b).2 ⟨hid b hb.2,?_⟩,λb B hb=>I3 b B hb.2,λe=>(by cases e),?_,⟨λ_=>⟨rfl,rfl⟩,λe=>(by cases e)⟩⟩
 .exact mg (g:=J (b.at a (.inRegion ops []::k)) [bad]) h.bb hcut e2
 .cases ht:tl b with
  |true=>exact .inr ⟨rfl,aA b B hb.2 ht⟩
  |false =>
   refine .inl ⟨b,hb.2,λhh=>?_⟩;have hx:x.H b=false:=(hHf b hh).resolve_right (by rw[ht];simp);exact⟨hx,λ_=>hRk b hb.1 ht ((a6 b hb.1).resolve_left (by rw[hx];simp))⟩
 .cases ht:tl b with
  |false=>rfl
  |true=>exact AI (aA b Wg hb.2 ht) aD
 .intro b1 b2 B h1 h2;have:b1=b2:=hw.Fv.inj h1.2 h2.2;subst this;obtain e|e:=a6 b1 h1.1
  .exact .inl e
  .cases ht:tl b1 with
   |true=>exact .inl (aB b1 ht)
   |false=>exact .inr (.inr ⟨e,hRk b1 h1.1 ht e⟩)
end
abbrev E7 (SB:bh->Bool)(H:Hid)(K:Nat->Prop)(v:br):Prop:=DZ (SP SB H) (EK K) v v
def Fc {SB:bh->Bool}{H:Hid}{K:Nat->Prop}{l:List br}(h:∀v∈l,E7 SB H K v):D8 (SP SB H) (EK K) l.toArray l.toArray :=
 ⟨rfl,λi v V h1 h2=>by
  rw[h1] at h2;cases h2
  exact h v (B5 (by simpa using h1))⟩
def E7.mono {SB:bh->Bool}{H:Hid}{K K':Nat->Prop}{v:br}(h:E7 SB H K v)(hk:∀b,K b->K' b):E7 SB H K' v :=
 DZ.mono (λb B hb=>⟨hk b hb.1,hb.2⟩) h
def E7.ptr {SB:bh->Bool}{H:Hid}{K:Nat->Prop}{b:Nat}(hb:K b)(o:Nat)(s:Option Nat):E7 SB H K (.pointer (u ⟨b,o,s⟩)):=DZ.ptr o s ⟨hb,rfl⟩
def E7.slice {SB:bh->Bool}{H:Hid}{K:Nat->Prop}{b:Nat}(hb:K b)(o:Nat)(s:Option Nat)(l c:Nat):E7 SB H K (.slice (u ⟨b,o,s⟩) l c):=DZ.slice o s l c ⟨hb,rfl⟩
def E7.undef {SB:bh->Bool}{H:Hid}{K:Nat->Prop}:E7 SB H K undef:=DZ.undef _ _
def E7.agg {SB:bh->Bool}{H:Hid}{K:Nat->Prop}{l:List br}(h:∀v∈l,E7 SB H K v):E7 SB H K (.agg l.toArray):=DZ.agg rfl (Fc h).at_
def E7.func {SB:bh->Bool}{H:Hid}{K:Nat->Prop}{f:bh}(hf:SB f=bk){l:List br}(h:∀v∈l,E7 SB H K v):E7 SB H K (.func (.func f) #[] l.toArray):=DZ.func (Ip.func (.inl hf)) rfl (λi v V h1=>by simp at h1) rfl (Fc h).at_
def froze (w:ak)(r:Nat):World:=match w.heap[r]? with
 |some (.cells c t _)=>{ w with heap:=w.heap.setIfInBounds r (.cells c t (0,c.size)) }
 |_=>w
def cY (w:ak)(r:Nat):(froze w r).heap.size=w.heap.size:=by
 unfold froze;split<;>simp
def gu (w:ak)(r:Nat):(froze w r).os=w.os:=by
 unfold froze;split<;>rfl
def fg (w:ak){r b:Nat}(h:b≠r):(froze w r).heap[b]?=w.heap[b]?:=by
 unfold froze;split
 .exact Bn (Ne.symm h)
 .rfl
def dt {w:ak}{r:Nat}{c:Array br}{t:TypeId}{f:Nat×Nat}(h:w.heap[r]?=u (.cells c t f)):(froze w r).heap[r]?=u (.cells c t (0,c.size)):=by
 unfold froze;rw[h];exact CB (Az.1 h).1
def Ext (w w':ak):Prop:=w.heap.size<=w'.heap.size/\(∀b,b<w.heap.size->w'.heap[b]?=w.heap[b]?)/\w'.os=w.os
def Ext.trans {a b c:ak}(h:Ext a b)(k:Ext b c):Ext a c:=⟨AH h.1 k.1,λx hx=>(k.2.1 x (AC hx h.1)).trans (h.2.1 x hx),k.2.2.trans h.2.2⟩
def Ext.alloc (w:ak)(o:Obj):Ext w (w.alloc o):=⟨by
 have:(w.alloc o).heap.size=w.heap.size+1:=Array.size_push _;omega,λb hb=>by
 have:(w.alloc o).heap[b]?=if b=w.heap.size then u o else w.heap[b]?:=Cm ..
 rw[this,AD (Dg hb)],rfl⟩
def Ext.same {a b:ak}(h:Et a b):Ext a b:=⟨by rw[h.1];exact AA _,λ_ _=>by rw[h.1],h.2.1⟩
end Go.Co
