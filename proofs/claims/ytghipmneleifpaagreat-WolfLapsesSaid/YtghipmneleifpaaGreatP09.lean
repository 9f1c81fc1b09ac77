/- Parts of the proof. -/
import Derived.Test.YtghipmneleifpaaGreatP06
import Derived.Test.YtghipmneleifpaaGreatP00
import Derived.Test.YtghipmneleifpaaGreatP08
import Derived.Test.YtghipmneleifpaaGreatP04
import Derived.Conc.Own2
set_option linter.all false
set_option maxHeartbeats 8000000
set_option maxRecDepth 100000
open Go.Conc renaming stepG_region_end->a8,stepG_seq->bc,G->bh,stepG_skip->bq,stepG_ret'->bW,mem_ofEvents->b8,stepG_load_atomic->cu,stepG_markAt->cF,getElem?_append_cases->cK,stepG_mark0->cU,stepG_unwind_entry->df,Deaf_other->ea,stepG_add_atomic->eb,seen_none->gb
open Array renaming replicate->bk
open Go renaming Goroutine->bn,World->bs,FuncId->bA,Frame->b5,Value->b7,Program->cw,goexitEntry->e6,Oper->fu,Trace->fx,Item->gg,Func->gB
open Go.Frame renaming enter->bo,finish_at->cq
open Option renaming some->br,none->cE
open Bool renaming false->bw,true->bD
open Go.MemAct renaming touch?->b6,ofEvent->cf,low->gR
open Go.Value renaming pointer->b9
open Option.some renaming injEq->cr,inj->e7
open Go.Act renaming eval->c0
open Go.ConcR.Gen renaming x_enable_n->dn,x_enable_b->dr,x_enable_x->dy,x_enable_f->dS,body_wait->eo,x_loadU64_n->er,x_loadU64_b->ez,x_loadU64_x->eA,x_loadU64_f->eV,x_semacquire_n->e8,x_semacquire_b->e9,x_semacquire_x->fc,x_semacquire_f->fq,body_add->gh
open Go.IntKind renaming wrap_u64->ed,wrap_i32->ek
namespace Go.Co
open Go.Conc Go.ConcN Go.RowKit Go.Conc.Lib Go.ConcR.Gen Go.ConcN.Gen
open Go.ConcR (KK wgBlock WgAt stA smA rd wr mk Payload Aside2 DC0)
variable {L:WgLink}
def addPos {P:cw}(H:WgLib P L){Wg:Nat}{b₀:b5}{a₀:Act}{ops₀:Array fu}{i₀:Nat}{rest₀:List Nat}{k₀:List gg}{cs:List b5}(w:bs)(hF:WgLive L.tWg Wg w) :
  GW P L.tWg Wg bD (AKd P L.tWg Wg (λg _=>g=G (b₀.at (a₀.put ((ops₀[i₀]?).bind (·.dst)) (.tuple #[])) (.inRegion ops₀ rest₀::k₀)) cs)) 150 (G ((base L.add).at ⟨#[.pointer (br ⟨Wg,0,cE⟩),.int .i64 1,undef,undef,undef,undef,undef,undef,undef,undef,undef,undef,undef,undef,undef,undef,undef,undef,undef,undef,undef,undef,undef,undef,undef,undef,undef,undef,undef,undef,undef,undef,undef,undef,undef,undef,undef,undef,undef,undef,undef,undef,undef,undef,undef,undef,undef,undef,undef,undef,undef,undef,undef,undef,undef,undef,undef,undef,undef,undef,undef,undef,undef,undef,undef,undef,undef,undef,undef,undef,undef,undef,undef,undef,undef,undef,undef,undef,undef,undef,undef,undef,undef,undef,undef,undef,undef,undef,undef,undef,undef,undef,undef,undef,undef,undef,undef,undef,undef,undef,undef,undef,undef,undef,undef,undef,undef,undef,undef,undef,undef,undef,undef,undef,undef,undef,undef],[]⟩ [.code (gh L)]) (b₀.at a₀ (.inRegion ops₀ (i₀::rest₀)::k₀)::cs)) w:=by
 lib_facts
 simp only[gh,addFn,zc]
 u_c bc rl hF
 u_cond bD rl hF
 iterate 2 u_c bc rl hF
 u_reg rl hF
 iterate 2 u_op rl hF
 u_c a8 rl hF
 u_cond bw rl hF
 u_c bq rl hF
 u_c bc rl hF
 u_reg rl hF
 refine Goes.stop (λw₁ h₁=>?_);replace hF:=rl hF h₁;refine⟨rfl,_,cU .disable (by simp) rfl rfl (by k_ne) rfl H.f_disable (x_disable_n L) (x_disable_b L) (x_disable_x L) (x_disable_f L),150,?_⟩
 walk_nrm
 u_c a8 rl hF
 u_reg rl hF
 u_defer rl hF
 u_c a8 rl hF
 u_c bc rl hF
 u_reg rl hF
 u_op rl hF
 u_c a8 rl hF
 iterate 2 u_c bc rl hF
 u_reg rl hF
 u_bub rl hF
 u_c a8 rl hF
 u_cond bw rl hF
 u_c bq rl hF
 u_c bc rl hF
 u_reg rl hF
 iterate 6 u_op rl hF
 u_call H.f_uAdd (nm_uAdd L) uAddFn rl hF
 u_c bc rl hF
 u_reg rl hF
 u_op rl hF
 u_c a8 rl hF
 u_c bc rl hF
 u_reg rl hF
 iterate 4 u_op rl hF
 refine Goes.stop (λw₂ h₁=>?_);replace hF:=rl hF h₁;refine⟨rfl,λv hv hw=>?_⟩;rcases zp v with rfl|hvp
 .replace hw:WgAt L.tWg Wg w₂ 0 0:=by simpa using hw
  have z:(((0:Nat):Int)+1)*KK=KK:=by simp
  rw[z];have e0:IntKind.u64.wrap (0+4294967296)=KK:=by decide
  refine⟨_,(eb rfl rfl (by k_ne) rfl H.f_addU64 (x_addU64_n L) (x_addU64_b L) (x_addU64_x L) .u64 (x_addU64_f L) rfl rfl hw.cellSt (hw.thaw 0)).trans (by rw[e0];rfl),λ_=>⟨150,?_⟩,λh=>absurd rfl h⟩;replace hF:WgLive L.tWg Wg (w₂.setCell (stA Wg) (.int .u64 KK)):=⟨_,_,hw.setSt _⟩;simp only[KK] at hF ⊢
  walk_nrm
  u_op rl hF
  u_c a8 rl hF
  u_c bW rl hF
  u_leave1 H.f_uAdd rl hF
  u_op rl hF
  u_c a8 rl hF
  iterate 2 u_c bc rl hF
  u_reg rl hF
  iterate 4 u_op rl hF
  iterate 2 u_skip rl hF
  u_op rl hF
  u_c a8 rl hF
  u_cond bw rl hF
  u_c bq rl hF
  u_c bc rl hF
  u_reg rl hF
  iterate 4 u_op rl hF
  u_c a8 rl hF
  u_c bc rl hF
  u_reg rl hF
  iterate 4 u_op rl hF
  u_c a8 rl hF
  iterate 2 u_c bc rl hF
  u_reg rl hF
  iterate 10 u_op rl hF
  u_c a8 rl hF
  u_cond bD rl hF
  u_reg rl hF
  iterate 3 u_op rl hF
  u_conv H.underlying_tPU32 H.room_tU32 (WgLive.cell1 hF).choose_spec rl hF
  refine Goes.stop (λw₃ h₁=>?_);replace hF:=rl hF h₁;refine⟨rfl,_,cF .read (by simp) rfl rfl (by k_ne) rfl H.f_raceRead (x_raceRead_n L) (x_raceRead_b L) (x_raceRead_x L) (x_raceRead_f L) (ad:=⟨Wg,1,cE⟩) (by simp[c0]),150,?_⟩
  walk_nrm
  u_c a8 rl hF
  iterate 2 u_c bc rl hF
  u_reg rl hF
  iterate 2 u_op rl hF
  u_c a8 rl hF
  u_cond bw rl hF
  u_c bq rl hF
  iterate 2 u_c bc rl hF
  u_reg rl hF
  iterate 3 u_op rl hF
  iterate 2 u_skip rl hF
  iterate 2 u_op rl hF
  iterate 4 u_skip rl hF
  u_op rl hF
  u_c a8 rl hF
  u_cond bw rl hF
  u_c bq rl hF
  iterate 2 u_c bc rl hF
  u_reg rl hF
  iterate 3 u_op rl hF
  iterate 2 u_skip rl hF
  u_op rl hF
  u_c a8 rl hF
  u_cond bD rl hF
  u_c bW rl hF
  refine Goes.stop (λw₄ h₁=>?_);replace hF:=rl hF h₁;refine⟨rfl,_,df (v:=.tuple #[]) (evs:=#[mk .enable]) rfl H.f_enable (dn L) (dr L) (dy L) (dS L) (by simp[Extern.Race.none_]) (by simp[mk]) (by simp[mk]),150,?_⟩
  u_leave0 H.f_add rl hF
  exact Goes.stop λ_ _=>rfl
 .obtain⟨V,hV⟩:∃V:Int,V=(v:Int)+1:=⟨_,rfl⟩;obtain⟨S,hS⟩:∃S:Int,S=V*KK:=⟨_,rfl⟩;have eS:IntKind.u64.wrap ((v:Int)*KK+4294967296)=S:=by rw[ed,hS,hV];simp only[KK];omega
  rw[<-hV,<-hS];have a1:S / 4294967296=V:=by rw[hS];simp only[KK];omega
  have b1:bits .and .u64 S 2147483648=0:=by rw[hS,hV];have:=st_flag (v+1) 0 (by omega) (by omega);simpa [KK] using this
  have b2:bits .and .u64 S 2147483647=0:=by rw[hS,hV];have:=st_waiters (v+1) 0 (by omega) (by omega);simpa [KK] using this
  have c1:IntKind.i32.wrap V=V:=by rw[ek];omega
  have hV1:1<V:=by omega
  have hV2:V<2147483648:=by omega
  have q1:(V==1)=false:=by simp;omega
  have q2:decide (V=1)=false:=decide_eq_false (by omega);have q3:decide (V<0)=false:=decide_eq_false (by omega);have q4:decide (0<V)=true:=decide_eq_true (by omega);have q5:(V==0)=false:=by simp;omega
  have q6:decide (V=0)=false:=decide_eq_false (by omega);refine⟨_,(eb rfl rfl (by k_ne) rfl H.f_addU64 (x_addU64_n L) (x_addU64_b L) (x_addU64_x L) .u64 (x_addU64_f L) rfl rfl hw.cellSt (hw.thaw 0)).trans (by rw[eS];rfl),λh=>absurd h (by omega),λ_=>⟨150,?_⟩⟩;replace hF:WgLive L.tWg Wg (w₂.setCell (stA Wg) (.int .u64 S)):=⟨_,_,hw.setSt _⟩;clear hw hS hV eS
  walk_nrm
  u_op rl hF
  u_c a8 rl hF
  u_c bW rl hF
  u_leave1 H.f_uAdd rl hF
  u_op rl hF
  u_c a8 rl hF
  iterate 2 u_c bc rl hF
  u_reg rl hF
  iterate 4 u_op rl hF
  iterate 2 u_skip rl hF
  u_op rl hF
  u_c a8 rl hF
  u_cnd bw rl hF
  u_c bq rl hF
  u_c bc rl hF
  u_reg rl hF
  iterate 4 u_op rl hF
  u_c a8 rl hF
  u_c bc rl hF
  u_reg rl hF
  iterate 4 u_op rl hF
  u_c a8 rl hF
  iterate 2 u_c bc rl hF
  u_reg rl hF
  iterate 10 u_op rl hF
  u_c a8 rl hF
  u_cnd bw rl hF
  u_c bq rl hF
  iterate 2 u_c bc rl hF
  u_reg rl hF
  iterate 2 u_op rl hF
  u_c a8 rl hF
  u_cnd bw rl hF
  u_c bq rl hF
  iterate 2 u_c bc rl hF
  u_reg rl hF
  iterate 3 u_op rl hF
  iterate 2 u_skip rl hF
  iterate 2 u_op rl hF
  iterate 4 u_skip rl hF
  u_op rl hF
  u_c a8 rl hF
  u_cnd bw rl hF
  u_c bq rl hF
  iterate 2 u_c bc rl hF
  u_reg rl hF
  iterate 3 u_op rl hF
  iterate 2 u_skip rl hF
  u_op rl hF
  u_c a8 rl hF
  u_cnd bD rl hF
  u_c bW rl hF
  refine Goes.stop (λw₄ h₁=>?_);replace hF:=rl hF h₁;refine⟨rfl,_,df (v:=.tuple #[]) (evs:=#[mk .enable]) rfl H.f_enable (dn L) (dr L) (dy L) (dS L) (by simp[Extern.Race.none_]) (by simp[mk]) (by simp[mk]),150,?_⟩
  u_leave0 H.f_add rl hF
  exact Goes.stop λ_ _=>rfl
open Go.ConcR (KK wgBlock WgAt stA smA rd wr mk Payload Aside2 DC0)
variable {L:WgLink}
def waitStart {P:cw}(H:WgLib P L){Wg:Nat}{b₀:b5}{a₀:Act}{ops₀:Array fu}{i₀:Nat}{rest₀:List Nat}{k₀:List gg}{cs:List b5}(w:bs)(hF:WgLive L.tWg Wg w) :
  GW P L.tWg Wg bD (WKd P L.tWg Wg (AnchWN L (λ_=>True) Wg (b₀.at a₀ (.inRegion ops₀ (i₀::rest₀)::k₀)) cs)) 150 (G ((base L.wait).at ⟨#[.pointer (br ⟨Wg,0,cE⟩),undef,undef,undef,undef,undef,undef,undef,undef,undef,undef,undef,undef,undef,undef,undef,undef,undef,undef,undef,undef,undef,undef,undef,undef,undef,undef,undef,undef,undef,undef,undef,undef,undef,undef,undef,undef,undef,undef,undef,undef,undef,undef,undef,undef,undef,undef,undef,undef,undef,undef,undef,undef,undef,undef,undef,undef,undef,undef,undef,undef,undef,undef,undef,undef,undef,undef,undef,undef,undef,undef,undef,undef,undef,undef,undef,undef,undef,undef,undef,undef,undef,undef,undef],[]⟩ [.code (eo L)]) (b₀.at a₀ (.inRegion ops₀ (i₀::rest₀)::k₀)::cs)) w:=by
 lib_facts
 simp only[eo,waitFn,zc]
 u_c bc rl hF
 u_cond bD rl hF
 u_reg rl hF
 refine Goes.stop (λw₁ h₁=>?_);replace hF:=rl hF h₁;refine⟨rfl,_,cU .disable (by simp) rfl rfl (by k_ne) rfl H.f_disable (x_disable_n L) (x_disable_b L) (x_disable_x L) (x_disable_f L),150,?_⟩
 walk_nrm
 u_c a8 rl hF
 u_c stepG_block rl hF
 u_c stepG_loop rl hF
 refine Goes.stop (λw₃ h₃=>?_);replace hF:=rl hF h₃;exact⟨_,rfl,by simp,by simp,trivial,hF⟩
def waitRound {P:cw}(H:WgLib P L){Wg:Nat}{b₀:b5}{a₀:Act}{ops₀:Array fu}{i₀:Nat}{rest₀:List Nat}{k₀:List gg}{cs:List b5}(g:bn)(w:bs)(h:AnchWN L (λ_=>True) Wg (b₀.at a₀ (.inRegion ops₀ (i₀::rest₀)::k₀)) cs g w) :
  GW P L.tWg Wg bD (W1 P L.tWg Wg (AnchWN L (λ_=>True) Wg (b₀.at a₀ (.inRegion ops₀ (i₀::rest₀)::k₀)) cs) (λg _=>g=G (b₀.at (a₀.put ((ops₀[i₀]?).bind (·.dst)) (.tuple #[])) (.inRegion ops₀ rest₀::k₀)) cs)) 150 g w:=by
 lib_facts
 obtain⟨T,rfl,hT84,t0,_,hF⟩:=h;obtain⟨v0,v1,v2,v3,v4,v5,v6,v7,v8,v9,v10,v11,v12,v13,v14,v15,v16,v17,v18,v19,v20,v21,v22,v23,v24,v25,v26,v27,v28,v29,v30,v31,v32,v33,v34,v35,v36,v37,v38,v39,v40,v41,v42,v43,v44,v45,v46,v47,v48,v49,v50,v51,v52,v53,v54,v55,v56,v57,v58,v59,v60,v61,v62,v63,v64,v65,v66,v67,v68,v69,v70,v71,v72,v73,v74,v75,v76,v77,v78,v79,v80,v81,v82,v83,rfl⟩:=array84 T hT84;simp only[zA,zr,cr] at t0
 subst t0;simp only[L7,eo,waitFn,zc]
 u_c stepG_block rl hF
 u_c bc rl hF
 u_reg rl hF
 iterate 3 u_op rl hF
 u_call H.f_uLoad (nm_uLoad L) uLoadFn rl hF
 u_c bc rl hF
 u_reg rl hF
 u_op rl hF
 u_c a8 rl hF
 u_c bc rl hF
 u_reg rl hF
 iterate 3 u_op rl hF
 refine Goes.stop (λw₁ h₁=>?_);replace hF:=rl hF h₁;refine⟨rfl,λv hv hw=>?_⟩;rcases zp v with rfl|hvp
 .replace hw:WgAt L.tWg Wg w₁ 0 0:=by simpa using hw
  refine⟨_,cu (v:=0) rfl rfl (by k_ne) rfl H.f_loadU64 (er L) (ez L) (eA L) .u64 (eV L) rfl hw.cellSt,λ_=>⟨150,?_⟩,λh=>absurd rfl h⟩
  walk_nrm
  u_op rl hF
  u_c a8 rl hF
  u_c bW rl hF
  u_leave1 H.f_uLoad rl hF
  u_op rl hF
  u_c a8 rl hF
  u_c bc rl hF
  u_reg rl hF
  iterate 4 u_op rl hF
  u_c a8 rl hF
  u_c bc rl hF
  u_reg rl hF
  iterate 4 u_op rl hF
  u_c a8 rl hF
  iterate 2 u_c bc rl hF
  u_reg rl hF
  iterate 2 u_op rl hF
  u_c a8 rl hF
  u_cond bD rl hF
  u_c bc rl hF
  u_cond bD rl hF
  u_c bc rl hF
  u_reg rl hF
  refine Goes.stop (λw₅ h₁=>?_);replace hF:=rl hF h₁;refine⟨rfl,_,cU .enable (by simp) rfl rfl (by k_ne) rfl H.f_enable (dn L) (dr L) (dy L) (dS L),150,?_⟩
  walk_nrm
  u_c a8 rl hF
  u_reg rl hF
  u_op rl hF
  u_conv H.underlying_tWgP H.room_tWg (WgLive.cell0 hF).choose_spec rl hF
  refine Goes.stop (λw₆ h₁=>?_);replace hF:=rl hF h₁;refine⟨rfl,_,cF .acquire (by simp) rfl rfl (by k_ne) rfl H.f_acquire (x_acquire_n L) (x_acquire_b L) (x_acquire_x L) (x_acquire_f L) (by simp[c0,stA]),150,?_⟩
  walk_nrm
  u_c a8 rl hF
  iterate 2 u_c bc rl hF
  u_reg rl hF
  iterate 8 u_op rl hF
  iterate 2 u_skip rl hF
  u_op rl hF
  u_c a8 rl hF
  u_cond bw rl hF
  u_c bq rl hF
  u_c bW rl hF
  u_leave0 H.f_wait rl hF
  exact Goes.stop λ_ _=>rfl
 .obtain⟨S,hS⟩:∃S:Int,(v:Int)*KK=S:=⟨_,rfl⟩;have a1:S / 4294967296=(v:Int):=by rw[<-hS];simp only[KK];omega
  have b1:bits .and .u64 S 2147483648=0:=by rw[<-hS];have:=st_flag v 0 (by omega) (by omega);simpa [KK] using this
  have b2:bits .and .u64 S 2147483647=0:=by rw[<-hS];have:=st_waiters v 0 (by omega) (by omega);simpa [KK] using this
  have c1:IntKind.i32.wrap (v:Int)=(v:Int):=by rw[ek];omega
  have w1:IntKind.u64.wrap (S+1)=S+1:=by rw[ed,<-hS];simp only[KK];omega
  have q3:decide ((v:Int)<0)=false:=decide_eq_false (by omega);have q4:decide (0<(v:Int))=true:=decide_eq_true (by omega);have q5:((v:Int)==0)=false:=by simp;omega
  have q6:decide ((v:Int)=0)=false:=decide_eq_false (by omega);rw[hS] at hw;refine⟨_,cu (v:=S) rfl rfl (by k_ne) rfl H.f_loadU64 (er L) (ez L) (eA L) .u64 (eV L) rfl hw.cellSt,λh0=>absurd h0 (by omega),λ_=>⟨150,?_⟩⟩
  walk_nrm
  u_op rl hF
  u_c a8 rl hF
  u_c bW rl hF
  u_leave1 H.f_uLoad rl hF
  u_op rl hF
  u_c a8 rl hF
  u_c bc rl hF
  u_reg rl hF
  iterate 4 u_op rl hF
  u_c a8 rl hF
  u_c bc rl hF
  u_reg rl hF
  iterate 4 u_op rl hF
  u_c a8 rl hF
  iterate 2 u_c bc rl hF
  u_reg rl hF
  iterate 2 u_op rl hF
  u_c a8 rl hF
  u_cnd bw rl hF
  u_c bq rl hF
  u_c bc rl hF
  u_reg rl hF
  iterate 6 u_op rl hF
  u_call H.f_uCas (nm_uCas L) uCasFn rl hF
  u_c bc rl hF
  u_reg rl hF
  u_op rl hF
  u_c a8 rl hF
  u_c bc rl hF
  u_reg rl hF
  iterate 5 u_op rl hF
  refine Goes.stop (λw₂ h₁=>?_);replace hF:=rl hF h₁;refine⟨rfl,λv' hv' hw=>⟨λe=>?_,λe=>?_⟩⟩
  .subst e;rw[hS] at hw ⊢;refine⟨_,(stepG_cas_hit (v:=S) (n:=S+1) rfl rfl (by k_ne) rfl H.f_casU64 (x_casU64_n L) (x_casU64_b L) (x_casU64_x L) .u64 (x_casU64_f L) rfl rfl rfl hw.cellSt (hw.thaw 0)).trans (by rfl),150,?_⟩;replace hF:WgLive L.tWg Wg (w₂.setCell (stA Wg) (.int .u64 (S+1))):=⟨_,_,hw.setSt _⟩
   walk_nrm
   u_op rl hF
   u_c a8 rl hF
   u_c bW rl hF
   u_leave1 H.f_uCas rl hF
   u_c a8 rl hF
   u_cnd bD rl hF
   iterate 2 u_c bc rl hF
   u_reg rl hF
   iterate 4 u_op rl hF
   u_c a8 rl hF
   u_cnd bD rl hF
   u_reg rl hF
   iterate 3 u_op rl hF
   u_conv H.underlying_tPU32 H.room_tU32 (WgLive.cell1 hF).choose_spec rl hF
   refine Goes.stop (λw₂ h₁=>?_);replace hF:=rl hF h₁;refine⟨rfl,_,cF .write (by simp) rfl rfl (by k_ne) rfl H.f_raceWrite (x_raceWrite_n L) (x_raceWrite_b L) (x_raceWrite_x L) (x_raceWrite_f L) (ad:=⟨Wg,1,cE⟩) (by simp[c0]),150,?_⟩
   walk_nrm
   u_c a8 rl hF
   u_c bc rl hF
   u_reg rl hF
   u_op rl hF
   u_c a8 rl hF
   iterate 2 u_c bc rl hF
   u_reg rl hF
   iterate 4 u_op rl hF
   u_skip rl hF
   u_op rl hF
   u_c a8 rl hF
   u_cnd bw rl hF
   u_c bq rl hF
   u_c bc rl hF
   u_reg rl hF
   iterate 4 u_op rl hF
   refine Goes.stop (λw₃ h₁=>?_);replace hF:=rl hF h₁;refine⟨rfl,rfl,λ⟨st,hw⟩=>stepG_semacquire_wait rfl rfl rfl H.f_semacquire (e8 L) (e9 L) (fc L) (fq L) (by simp[c0,smA]) hw.cellSm,λhf=>?_⟩;refine⟨_,(stepG_semacquire (n:=1) rfl rfl (by k_ne) rfl H.f_semacquire (e8 L) (e9 L) (fc L) (fq L) (by simp[c0,smA]) hf.cellSm (by k_ne) (hf.thaw 1)).trans (by rfl),150,?_⟩
   replace hF:WgLive L.tWg Wg (w₃.setCell (smA Wg) (.int .u32 0)):=⟨_,_,hf.setSm 0⟩
   walk_nrm
   u_c a8 rl hF
   u_c bc rl hF
   u_reg rl hF
   iterate 3 u_op rl hF
   u_call H.f_uLoad (nm_uLoad L) uLoadFn rl hF
   u_c bc rl hF
   u_reg rl hF
   u_op rl hF
   u_c a8 rl hF
   u_c bc rl hF
   u_reg rl hF
   iterate 3 u_op rl hF
   refine Goes.stop (λw₄ h₁=>?_);replace hF:=rl hF h₁;refine⟨rfl,λhw=>⟨_,cu (v:=0) rfl rfl (by k_ne) rfl H.f_loadU64 (er L) (ez L) (eA L) .u64 (eV L) rfl hw.cellSt,150,?_⟩⟩
   walk_nrm
   u_op rl hF
   u_c a8 rl hF
   u_c bW rl hF
   u_leave1 H.f_uLoad rl hF
   iterate 2 u_op rl hF
   u_c a8 rl hF
   u_c bc rl hF
   u_cond bD rl hF
   u_c bc rl hF
   u_reg rl hF
   refine Goes.stop (λw₅ h₁=>?_);replace hF:=rl hF h₁;refine⟨rfl,_,cU .enable (by simp) rfl rfl (by k_ne) rfl H.f_enable (dn L) (dr L) (dy L) (dS L),150,?_⟩
   walk_nrm
   u_c a8 rl hF
   u_reg rl hF
   u_op rl hF
   u_conv H.underlying_tWgP H.room_tWg (WgLive.cell0 hF).choose_spec rl hF
   refine Goes.stop (λw₆ h₁=>?_);replace hF:=rl hF h₁;refine⟨rfl,_,cF .acquire (by simp) rfl rfl (by k_ne) rfl H.f_acquire (x_acquire_n L) (x_acquire_b L) (x_acquire_x L) (x_acquire_f L) (by simp[c0,stA]),150,?_⟩
   walk_nrm
   u_c a8 rl hF
   iterate 2 u_c bc rl hF
   u_reg rl hF
   u_op rl hF
   u_c a8 rl hF
   u_cond bw rl hF
   u_c bq rl hF
   u_c bW rl hF
   u_leave0 H.f_wait rl hF
   exact Goes.stop λ_ _=>rfl
  .refine⟨_,stepG_cas_miss (v:=(v':Int)*KK) (old:=S) (n:=S+1) rfl rfl (by k_ne) rfl H.f_casU64 (x_casU64_n L) (x_casU64_b L) (x_casU64_x L) .u64 (x_casU64_f L) rfl rfl rfl hw.cellSt (hw.thaw 0) (by rw[<-hS];simp only[KK];omega),150,?_⟩
   walk_nrm
   u_op rl hF
   u_c a8 rl hF
   u_c bW rl hF
   u_leave1 H.f_uCas rl hF
   u_c a8 rl hF
   u_cnd bw rl hF
   u_c bq rl hF
   u_c stepG_inBlock rl hF
   u_c stepG_inLoop rl hF
   refine Goes.stop (λw₃ h₃=>?_);replace hF:=rl hF h₃;exact⟨_,rfl,by simp,by simp,trivial,hF⟩
open Go.Ct
open Go.ConcR (KK WgAt stA smA rd wr mk DC0 Bk)
def td (p v:b7)(L:WgLink):(#[p,v]++bk ((addFn L).ntmps-(#[p,v]:Array b7).size) undef:Array b7)=#[p,v,undef,undef,undef,undef,undef,undef,undef,undef,undef,undef,undef,undef,undef,undef,undef,undef,undef,undef,undef,undef,undef,undef,undef,undef,undef,undef,undef,undef,undef,undef,undef,undef,undef,undef,undef,undef,undef,undef,undef,undef,undef,undef,undef,undef,undef,undef,undef,undef,undef,undef,undef,undef,undef,undef,undef,undef,undef,undef,undef,undef,undef,undef,undef,undef,undef,undef,undef,undef,undef,undef,undef,undef,undef,undef,undef,undef,undef,undef,undef,undef,undef,undef,undef,undef,undef,undef,undef,undef,undef,undef,undef,undef,undef,undef,undef,undef,undef,undef,undef,undef,undef,undef,undef,undef,undef,undef,undef,undef,undef,undef,undef,undef,undef,undef,undef]:=by walk_nrmf addFn
def qW (p:b7)(L:WgLink):(#[p]++bk ((waitFn L).ntmps-(#[p]:Array b7).size) undef:Array b7)=#[p,undef,undef,undef,undef,undef,undef,undef,undef,undef,undef,undef,undef,undef,undef,undef,undef,undef,undef,undef,undef,undef,undef,undef,undef,undef,undef,undef,undef,undef,undef,undef,undef,undef,undef,undef,undef,undef,undef,undef,undef,undef,undef,undef,undef,undef,undef,undef,undef,undef,undef,undef,undef,undef,undef,undef,undef,undef,undef,undef,undef,undef,undef,undef,undef,undef,undef,undef,undef,undef,undef,undef,undef,undef,undef,undef,undef,undef,undef,undef,undef,undef,undef,undef]:=by walk_nrmf waitFn
def qX (p:b7)(L:WgLink):(#[p]++bk ((doneFn L).ntmps-(#[p]:Array b7).size) undef:Array b7)=#[p,undef,undef,undef]:=by walk_nrmf doneFn
section
variable {P:CL} {SB BB:bA->Bool} {lets:Bool} {Gn:Nat} {H:Hid} {T:List b5} {β:Cm} {L:WgLink} {Wg:Nat}
def Barred (P:CL)(SB:bA->Bool)(lets:Bool)(f:bA)(fn:gB):Prop:=∃c,P.a.funcs[f]?=br fn/\P.b.funcs[f]?=br fn/\fn.body=br c/\codeOk P.a SB lets bD c=bw
def U7 (S:DT)(β:Cm)(v V:b7):Prop:=∀X,B6 S β v X->X=V
def U7.undef {S:DT}:U7 S β undef undef:=λX h=>by
 unfold Go.undef at h ⊢;cases h with
 |@tuple _ x h1 _ =>
  have:x=#[]:=by simpa using h1.symm
  rw[this]
def U7.int {S:DT}(k:IntKind)(n:Int):U7 S β (.int k n) (.int k n):=λX h=>by cases h;rfl
def U7.ptr {S:DT}(hf:β.Dk Gn){b B:Nat}(hb:β b B)(o:Nat)(s:Option Nat):U7 S β (.pointer (br ⟨b,o,s⟩)) (.pointer (br ⟨B,o,s⟩)):=λX h=>by
 cases h with
 |ptr _ _ h=>rw[hf.fn h hb]
def ig {f:bA}{fn:gB}(Fp:Barred P SB lets f fn){args args':Array b7}(hs:args.size=args'.size)(hn:args.size<=fn.ntmps)(hd:∀(i:Nat) (v V:b7),args[i]?=br v->args'[i]?=br V->U7 (SP SB H) β v V){k:CallKind}{F:b5}
  (h:ED P SB H lets BB β (bo P.a f args k) F):F=bo P.b f args' k:=by
 obtain⟨c,h1,h2,h3,h4⟩:=Fp;generalize hF:bo P.a f args k=fr at h;cases h with
 |on h =>
  exfalso;have ht:=h.todo;rw[<-hF] at ht;simp only[bo,h1,h3,zK,zc] at ht;generalize F.todo=X at ht;cases ht with
  |cons hi _ =>
   cases hi with
   |code hc =>
    simp only[Option.isNone_none] at hc;rw[h4] at hc;cases hc
 |@stop f' a A k' _ _ _ ha =>
  have e1:f=f':=congrArg Frame.fn hF;have e2:k=k':=congrArg Frame.kind hF;subst e1 e2;have e3:args++bk (fn.ntmps-args.size) undef=a++bk (fn.ntmps-a.size) undef:=by
   have:=congrArg Frame.tmps hF;simpa [bo,h1] using this
  have e4:A++bk (fn.ntmps-A.size) undef=args'++bk (fn.ntmps-args'.size) undef:=by
   have hsz:=congrArg Array.size e3;simp only[Array.size_append,Array.size_replicate] at hsz;have hA:=ha.size;apply Array.ext_getElem?;intro i;have e5:(args++bk (fn.ntmps-args.size) undef)[i]?=(a++bk (fn.ntmps-a.size) undef)[i]?:=by rw[e3]
   rcases zC i fn.ntmps with hi|hi
   .rw[AP,AP] at e5 ⊢;have und:∀(m:Nat),i<m->(bk m undef)[i]?=br undef:=λm hm=>by rw[zO,if_pos hm]
    have val:∃v,(if i<a.size then a[i]? else(bk (fn.ntmps-a.size) undef)[i-a.size]?)=br v/\∀X,(if i<A.size then A[i]? else(bk (fn.ntmps-A.size) undef)[i-A.size]?)=br X->B6 (SP SB H) β v X:=by
     by_cases RO:i<a.size
     .refine⟨a[i],by rw[if_pos RO];simp[RO],λX hX=>?_⟩;rw[if_pos (by omega)] at hX;exact ha.at_ i _ X (by simp[RO]) hX
     .refine⟨undef,by rw[if_neg RO,zO,if_pos (by omega)],λX hX=>?_⟩;rw[if_neg (by omega),zO,if_pos (by omega)] at hX;cases hX;exact B6.undef _ _
    obtain⟨v,hv,hX⟩:=val;rw[hv] at e5;have hAX:∃X,(if i<A.size then A[i]? else(bk (fn.ntmps-A.size) undef)[i-A.size]?)=br X:=by
     by_cases RO:i<A.size
     .exact⟨A[i],by rw[if_pos RO];simp[RO]⟩
     .exact⟨undef,by rw[if_neg RO,zO,if_pos (by omega)]⟩
    obtain⟨X,hXe⟩:=hAX;rw[hXe];have hr:=hX X hXe;by_cases RO:i<args.size
    .rw[if_pos RO] at e5;rw[if_pos (by omega)];have:∃V,args'[i]?=br V:=⟨args'[i],by simp[show i<args'.size by omega]⟩;obtain⟨V,hV⟩:=this;rw[hV,hd i v V e5 hV X hr]
    .rw[if_neg RO,zO,if_pos (by omega)] at e5;rw[if_neg (by omega),zO,if_pos (by omega)];have:v=undef:=(e7 e5).symm;subst this;rw[U7.undef X hr]
   .rw[Ao (by simp;omega),Ao (by simp;omega)]
  simp only[bo,h2,zT,zc,e4]
def Jp {fr FR:b5}(h:Cq P.a SB H lets β fr FR)(hc:eY fr):∃(b:b5) (a:Act) (ops:Array fu) (i:Nat) (rest:List Nat) (k:List gg),FR=b.at a (.inRegion ops (i::rest)::k):=by
 obtain⟨h1,h2,ops,i,rest,k,h3⟩:=hc;have m:=h.mode;have r:=h.round;have t:=h.todo;rw[h1] at m;rw[h2] at r;rw[h3] at t;obtain⟨f1,f2,f3,f4,f5,f6,f7⟩:=FR;dsimp only at m r t;cases m;cases r;cases t with
 |cons hi _ =>
  cases hi
  exact⟨⟨f1,f2,[],f4,.run,f6,cE⟩,⟨f2,f4⟩,ops,i,rest,_,rfl⟩
def IC {fr:b5}{cs CS:List b5}(h:Dz P.a SB H lets T β (fr::cs) CS)(hc:eY fr):∃FR CS',CS=FR::CS'/\Cq P.a SB H lets β fr FR/\Dz P.a SB H lets T β cs CS':=by
 cases h with
 |base =>
  obtain⟨_,_,_,_,_,_,h3⟩:=hc;simp[bad] at h3
 |cons h1 h2=>exact⟨_,_,rfl,h1,h2⟩
def ii {g G:bn}(h:El P SB H lets BB T β g G):G=bh G.frame G.callers:=by
 obtain⟨a1,a2,a3,a4,a5⟩:=G;obtain⟨_,_,⟨_,s1⟩,⟨_,d1⟩,⟨_,o1⟩⟩:=h;dsimp only at *;subst s1 d1 o1
 rfl
def jp {x:Lone}{fr FR:b5}{cs CS:List b5}(h1:Cq P.a SB x.H lets x.β fr FR)(h2:Dz P.a SB x.H lets x.T x.β cs CS):Dv P SB BB lets { x with g:=back fr cs } (bh (FR.finish (.tuple #[])) CS) :=
 ⟨.on (bj h1 (.tuple rfl (by simp))),h2,⟨rfl,rfl⟩,⟨rfl,rfl⟩,⟨rfl,rfl⟩⟩
def abz (W:WgLib P.b L)(Fp:Barred P SB lets L.add (addFn L))(wl:Nat):Ph P SB BB lets Gn L.tWg Wg L.add wl T:=by
 intro x G W0 fr cs e hc hT Gb hg hw Kr;have DL:=hg.top;have hcs:=hg.callers;rw[e] at DL hcs;obtain⟨FR,CS,Yd,r1,r2⟩:=IC hcs hc;obtain⟨b,a,ops,i,rest,k,UA⟩:=Jp r1 hc;have eF:G.frame=bo P.b L.add #[.pointer (br ⟨Wg,0,cE⟩),.int .i64 1] .normal:=by
  refine ig (args:=#[I3 wl,.int .i64 1]) (args':=#[.pointer (br ⟨Wg,0,cE⟩),.int .i64 1]) Fp rfl (by simp[addFn]) (λj v V h1 h2=>?_) DL
  match j,h1,h2 with
  |0,h1,h2=>cases h1;cases h2;exact .ptr hw.DG Gb 0 cE
  |1,h1,h2=>cases h1;cases h2;exact .int _ _
  |j+2,h1,_=>simp at h1
 refine⟨bh (FR.finish (.tuple #[])) CS,150,?_,jp r1 r2⟩;rw[ii hg,eF,Yd,enter_at _ W.f_add (c:=gh L) rfl,td,UA,cq];exact addPos W (b₀:=b) (a₀:=a) (k₀:=k) W0 Kr
def wV (W:WgLib P.b L)(Fp:Barred P SB lets L.wait (waitFn L))(wl:Nat):jP P SB BB lets Gn L.tWg Wg L.wait wl T:=by
 intro x G W0 fr cs e hc hT Gb hg hw Kr;have DL:=hg.top;have hcs:=hg.callers;rw[e] at DL hcs;obtain⟨FR,CS,Yd,r1,r2⟩:=IC hcs hc;obtain⟨b,a,ops,i,rest,k,UA⟩:=Jp r1 hc;have eF:G.frame=bo P.b L.wait #[.pointer (br ⟨Wg,0,cE⟩)] .normal:=by
  refine ig (args:=#[I3 wl]) (args':=#[.pointer (br ⟨Wg,0,cE⟩)]) Fp rfl (by simp[waitFn]) (λj v V h1 h2=>?_) DL
  match j,h1,h2 with
  |0,h1,h2=>cases h1;cases h2;exact .ptr hw.DG Gb 0 cE
  |j+1,h1,_=>simp at h1
 refine⟨bh (FR.finish (.tuple #[])) CS,150,AnchWN L (λ_=>True) Wg FR CS,?_,λg w hA=>?_,jp r1 r2⟩
 .rw[ii hg,eF,Yd,enter_at _ W.f_wait (c:=eo L) rfl,qW,UA];exact waitStart W (b₀:=b) (a₀:=a) (k₀:=k) W0 Kr
 .rw[UA] at hA ⊢;rw[cq];refine⟨?_,_,waitRound W g w hA⟩;obtain⟨_,rfl,_⟩:=hA
  rfl
def wW (W:WgLib P.b L)(Fp:Barred P SB lets L.done (doneFn L)){x:Lone}{G:bn}{W0:bs}{c:b5}{cs:List b5}{wl:Nat}(e:x.g=C6 (bo P.a L.done #[I3 wl] .deferred) (c::cs))(hc:c≠bad)(Gb:x.β wl Wg)
  (hg:Dv P SB BB lets x G) (hw:E2 P SB lets Gn x W0) (Kr:WgLive L.tWg Wg W0) (hQ:∀C CS,Cq P.a SB x.H lets x.β c C->Dz P.a SB x.H lets x.T x.β cs CS->C.mode=.returning/\∃q,QuitsD P.b q 0 (bh C CS)) :
  ∃m,GW P.b L.tWg Wg bw (R0 P.b L.tWg Wg) m G W0:=by
 have DL:=hg.top;have hcs:=hg.callers;rw[e] at DL hcs;have:∃C CS,G.callers=C::CS/\Cq P.a SB x.H lets x.β c C/\Dz P.a SB x.H lets x.T x.β cs CS:=by
  generalize G.callers=X at hcs;cases hcs with
  |base=>exact absurd rfl hc
  |cons h1 h2=>exact⟨_,_,rfl,h1,h2⟩
 obtain⟨C,CS,Yd,r1,r2⟩:=this;have eF:G.frame=bo P.b L.done #[.pointer (br ⟨Wg,0,cE⟩)] .deferred:=by
  refine ig (args:=#[I3 wl]) (args':=#[.pointer (br ⟨Wg,0,cE⟩)]) Fp rfl (by simp[doneFn]) (λj v V h1 h2=>?_) DL
  match j,h1,h2 with
  |0,h1,h2=>cases h1;cases h2;exact .ptr hw.DG Gb 0 cE
  |j+1,h1,_=>simp at h1
 obtain⟨hm,q,hq⟩:=hQ C CS r1 r2;refine⟨153,?_⟩;rw[ii hg,eF,Yd,enter_atD _ W.f_done (c:=body_done L) rfl,qX];exact done W hm hq W0 Kr
end
def Ip (Dead:Nat->Prop)(l:Loc):Prop:=∃a:Addr,l=.cell a/\Dead a.block
structure H7 (P:cw)(Dead:Nat->Prop)(gs:Array bn)(W:bs)(t:fx)(q:Nat->Nat):Prop where
 lv:Leavers P t gs q
 past:Past (Ip Dead) W.heap.size t
 quiet:Quiet (Ip Dead) t
 RP:∀(i:Nat) (op:MemOp),t[i]?=br op->op.g<gs.size
 low:∀B,Dead B->B<W.heap.size
section
variable (P:CL) (SB BB:bA->Bool) (lets:Bool) (Gn:Nat)
structure Tw (Dead:Nat->Prop)(Kp:Gm)(x:Lone)(a:bn)(W:bs):Prop where
 gl:Dv P SB BB lets x a
 wl:E2 P SB lets Gn x W
 tw:x.H.C8=bw
 dead:∀b B,x.β b B->Dead B->x.H b=bD
 keep:∀B,Kp.at_ B->B<W.heap.size/\W.heap[B]?=Kp.w.heap[B]?
 D7:∀b B,x.β b B->Kp.at_ B->x.H b=bD\/Ro x.w b
end
section
variable {P:CL} {SB BB:bA->Bool} {lets:Bool} {Gn:Nat} {Dead:Nat->Prop} {Kp:Gm}
def H7.at {gs:Array bn}{W:bs}{t:fx}{q:Nat->Nat}(h:H7 P.b Dead gs W t q)(d:Nat):H7 P.b Dead gs (W.at d) t q:=⟨h.lv,h.past,h.quiet,h.RP,h.low⟩
def Tw.at {x:Lone}{a:bn}{W:bs}(h:Tw P SB BB lets Gn Dead Kp x a W)(d:Nat):Tw P SB BB lets Gn Dead Kp x a (W.at d):=⟨h.gl,h.wl.same rfl rfl h.wl.env,h.tw,h.dead,h.keep,h.D7⟩
def H7.slip {gs:Array bn}{W:bs}{t:fx}{q:Nat->Nat}(h:H7 P.b Dead gs W t q){i:Nat}{g a:bn}(Ii:0<i)(hi:gs[i]?=br g)(hrun:g.status=.running)(h0:gs[0]?=br a)(ha:a.status=.running)(sl:Option (Nat×Nat)) :
  ∃gs' t' q',runT P.b (crowd gs W sl) i=(.next (crowd gs' W sl),t')/\gs'.size=gs.size/\gs'[0]?=br a/\sumTo gs.size q'<sumTo gs.size q/\H7 P.b Dead gs' W (t++t') q':=by
 have hq:=h.lv.old i g Ii hi;have Uu:(i==0)=false:=by simp;omega
 have hlt:i<gs.size:=(yK.1 hi).1;cases Ye:q i with
 |zero=>rw[Ye] at hq;rw[hq.1] at hrun;cases hrun
 |succ k =>
  rw[Ye] at hq;rcases hq with⟨hf,_⟩|⟨_,g',es,hm,Yf,hq'⟩
  .rw[hf] at hrun;cases hrun
  have RQ:=runT_crowd_go (P:=P.b) (sl:=sl) (i:=i) hi (by rw[Uu];exact Yf W);have RR:sumTo gs.size (upd q i k)+(k+1)=sumTo gs.size q+k:=by
   have:=sumTo_upd q k id hlt;simpa [Ye] using this
  have GK:∀op∈MemOp.ofEvents i g.frame.fn g.frame.place es,op.g=i:=λop hop=>by obtain⟨e,_,rfl⟩:=b8 hop;rfl
  refine⟨_,_,upd q i k,RQ,by simp,?_,by omega,⟨λj x hj hx=>?_,λj hj=>?_⟩,h.past.mute (by omega) hm,h.quiet.app λop hop x hx hs=>?_,λj op hop=>?_,h.low⟩
  .have hne:i≠0:=by omega
   rw[zn hne,zI,h0];simp[woken_run ha]
  .by_cases U8:i=j
   .subst U8;rw[Az (by simpa using hlt)] at hx;obtain rfl:=e7 hx;rw[upd_same,Deaf_own];exact hq'
   .rw[zn U8,zI] at hx;obtain⟨y,hy,rfl⟩:=zm.1 hx;have MS:=h.lv.old j y hj hy;rw[woken_quitsD MS,upd_ne q k (Ne.symm U8),ea t U8 _ GK];exact MS
  .rw[ea t (g':=i) (by simp at hj;omega) _ GK];exact h.lv.above j (by simpa using hj)
  .obtain⟨e,he,rfl⟩:=b8 hop;rw[touch_mute (hm e he)] at hx;cases hx
  .rcases cK hop with⟨_,IA⟩|⟨_,F2⟩
   .simpa using h.RP j op IA
   .rw[GK op F2];simpa using hlt
def H7.fin {gs:Array bn}{W W':bs}{t:fx}{q:Nat->Nat}(h:H7 P.b Dead gs W t q){x:Lone}{a g2:bn}{B8:Cm}{w':bs}{ES:Array Event}(H2:x.H.C8=bw)(MT:∀b B,x.β b B->Dead B->x.H b=bD)
  (h0:gs[0]?=br a) (e3:stepG P.b bD a W=.go g2 W' ES) (f:F9 P SB lets Gn x W B8 w' W' ES.toList) (sl:Option (Nat×Nat)) :
  ∃gs' t',runT P.b (crowd gs W sl) 0=(.next (crowd gs' W' sl),t')/\gs'.size=gs.size/\gs'[0]?=br g2/\H7 P.b Dead gs' W' (t++t') q:=by
 have hES:ES.toList.toArray=ES:=by simp
 have JE:=cL f H2;rw[hES] at JE;have IB:=ep f H2 (k:=0) (fn:=a.frame.fn) (pos:=a.frame.place);rw[hES] at IB;have GK:∀op∈MemOp.ofEvents 0 a.frame.fn a.frame.place ES,op.g=0:=λop hop=>by obtain⟨e,_,rfl⟩:=b8 hop;rfl
 have old:∀b B,B8 b B->B<W.heap.size->x.β b B:=λb B hb hB=>(f.new b B hb).elim id λh=>absurd h.2 (Nat.not_le.2 hB);have Ks:∀b B,B8 b B->Dead B->x.H b=true:=λb B hb hd=>MT b B (old b B hb (h.low B hd)) hd;have I4:∀e∈ES,∀z,(cf e).touch?=br z->¬Ip Dead z.loc:=by
  intro e he z hz ⟨b,hb,hd⟩;have hE:=f.evs H2 e (by simpa using he);cases hE with
  |@cell a A wr sy hab _ hc _ =>
   have:z.loc=.cell A:=by simp[cf,b6] at hz;subst hz;rfl
   rw[this] at hb;cases hb;obtain⟨n,hn,_⟩:=hc;have:=(f.rel.Ej _ _ hab (Ks _ _ hab hd)).1;rw[this] at hn;simp[DK] at hn
  |@obj r R wr sy _ _ =>
   have:z.loc=.obj R:=by cases wr<;>cases sy<;>simp[cf,b6] at hz<;>subst hz<;>rfl
   rw[this] at hb;cases hb
  |mark hm=>cases hm<;>simp[cf,b6] at hz
  |out =>
   have:z.loc=.output:=by simp[cf,b6] at hz;subst hz;rfl
   rw[this] at hb;cases hb
 have hlt:0<gs.size:=(yK.1 h0).1
 refine⟨_,_,runT_crowd_go (P:=P.b) (sl:=sl) (i:=0) h0 (by simpa using e3),by simp,by simp[hlt],
  ⟨⟨λj y hj hy=>?_,λj hj=>?_⟩,(h.past.mono f.SIZE).own λe he=>⟨λz hz hs=>absurd hs (I4 e he z hz),(JE e he).1,(JE e he).2.1,?_⟩,h.quiet.app λop hop z hz hs=>?_,λj op hop=>?_,λB hB=>yO (h.low B hB) f.SIZE⟩⟩
 .have hne:0≠j:=by omega
  rw[zn hne,zI] at hy;obtain⟨z,hz,rfl⟩:=zm.1 hy;have MS:=h.lv.old j z hj hz;rw[woken_quitsD MS,ea t (by omega) _ GK];exact MS
 .rw[ea t (g':=0) (by simp at hj;omega) _ GK];exact h.lv.above j (by simpa using hj)
 .exact IB { g:=0,fn:=a.frame.fn,pos:=a.frame.place,act:=.ofEvent e } (by rw[ofEvents_eq];exact Array.mem_map.2 ⟨e,he,rfl⟩)
 .obtain⟨e,he,rfl⟩:=b8 hop;exact absurd hs (I4 e he z hz)
 .rcases cK hop with⟨_,IA⟩|⟨_,F2⟩
  .simpa using h.RP j op IA
  .rw[GK op F2];simpa using hlt
def Kt {x:Lone}{W W':bs}{B8:Cm}{w':bs}{ES:List Event}(f:F9 P SB lets Gn x W B8 w' W' ES)(keep:∀B,Kp.at_ B->B<W.heap.size/\W.heap[B]?=Kp.w.heap[B]?)(D7:∀b B,x.β b B->Kp.at_ B->x.H b=bD\/Ro x.w b) :
  (∀B,Kp.at_ B->B<W'.heap.size/\W'.heap[B]?=Kp.w.heap[B]?)/\∀b B,B8 b B->Kp.at_ B->x.H b=bD\/Ro w' b:=by
 refine⟨λB hB=>?_,λb B hb hB=>?_⟩
 .obtain⟨k1,k3⟩:=keep B hB;refine⟨yO k1 f.SIZE,?_⟩;rw[<-k3];by_cases hx:∃b,x.β b B
  .obtain⟨b,hb⟩:=hx;rcases D7 b B hb hB with h|⟨cs,ty,z,q1,q2⟩
   .exact f.hk b B hb h
   .exact(f.ro b B cs ty z hb q1 q2).2
  .exact f.KEPT B k1 λb hb=>hx ⟨b,hb⟩
 .have h0:x.β b B:=(f.new b B hb).elim id λh=>absurd h.2 (Nat.not_le.2 (keep B hB).1);exact(D7 b B h0 hB).imp id λh=>h.kept f h0
def H7.tree (lib:∀H,Lib P SB H lets BB Gn){gs:Array bn}{W:bs}{t:fx}{q:Nat->Nat}(h:H7 P.b Dead gs W t q){x:Lone}{a:bn}(ht:Tw P SB BB lets Gn Dead Kp x a W)(h0:gs[0]?=br a){Q:bn->bs->Prop}(hr:Ch P.a (Dk P.a BB) Q x.g x.w)(hq:¬Q x.g x.w)(sl:Option (Nat×Nat)) :
  ∃gs' W' t' x' a',runT P.b (crowd gs W sl) 0=(.next (crowd gs' W' sl),t')/\gs'.size=gs.size/\gs'[0]?=br a'/\H7 P.b Dead gs' W' (t++t') q/\Tw P SB BB lets Gn Dead Kp x' a' W'/\Ch P.a (Dk P.a BB) Q x'.g x'.w/\After P.a (x'.g,x'.w) (x.g,x.w)/\x'.H=x.H/\x'.T=x.T/\x.β.le x'.β/\(W'.os=W.os/\W'.output=W.output)/\W.heap.size<=W'.heap.size/\x.w.heap.size<=x'.w.heap.size/\∀b B,x'.β b B->x.β b B\/(x.w.heap.size<=b/\W.heap.size<=B):=by
 obtain⟨g',w',es,B8,g2,W',ES,e1,e2,e3,e4,e5⟩:=Ct.follow (lib x.H) (main2:=bD) hr hq ht.gl ht.wl;have f:F9 P SB lets Gn x W B8 w' W' ES.toList:=e5;obtain⟨gs',t',k1,k2,k3,k4⟩:=h.fin ht.tw ht.dead h0 e3 f sl;obtain⟨k5,k6⟩:=Kt f ht.keep ht.D7;have Ks:∀b B,B8 b B->Dead B->x.H b=true:=λb B hb hd=>(f.new b B hb).elim (λh1=>ht.dead b B h1 hd) λh1=>absurd h1.2 (Nat.not_le.2 (h.low B hd));exact⟨gs',W',t',⟨g',w',x.H,B8,x.T⟩,g2,k1,k2,k3,k4,⟨e4,f.rel,ht.tw,Ks,k5,k6⟩,e2,⟨W.tape,W.drawn,es,e1,e4.callers.ne⟩,rfl,rfl,f.le,⟨f.OS,f.OUT⟩,f.SIZE,f.size,f.new⟩
def JF (lib:∀H,Lib P SB H lets BB Gn){H:Hid}{T:List b5}{β:Cm}{Q:bn->bs->Prop}{os:Os}{ou:bs}{n b0 B0:Nat}:∀(μ:Wm×Nat) (m:Machine) (t:fx),
  (∃gs W sl q x a,m=crowd gs W sl/\gs[0]?=br a/\gs.size=n/\H7 P.b Dead gs W t q/\Tw P SB BB lets Gn Dead Kp x a W/\Ch P.a (Dk P.a BB) Q x.g x.w/\x.H=H/\x.T=T/\β.le x.β/\(W.os=os/\W.output=ou.output)/\(B0<=W.heap.size/\b0<=x.w.heap.size/\∀b B,x.β b B->β b B\/(b0<=b/\B0<=B))/\μ=(.tree Q (x.g,x.w),sumTo n q)) ->
  ∃N m' t',runNT P.b N m t=(.next m',t')/\∃gs W sl q x a,m'=crowd gs W sl/\gs[0]?=br a/\gs.size=n/\H7 P.b Dead gs W t' q/\Tw P SB BB lets Gn Dead Kp x a W/\Q x.g x.w/\x.H=H/\x.T=T/\β.le x.β/\(W.os=os/\W.output=ou.output)/\(B0<=W.heap.size/\b0<=x.w.heap.size/\∀b B,x.β b B->β b B\/(b0<=b/\B0<=B)):=by
 have wf:WellFounded (Prod.Lex (J3 P.a) (·<·:Nat->Nat->Prop)):=(Prod.lex ⟨_,J3.wf P.a⟩ Nat.lt_wfRel).wf;refine jO (P:=P.b) wf (λμ m t=>∃gs W sl q x a,m=crowd gs W sl/\gs[0]?=br a/\gs.size=n/\H7 P.b Dead gs W t q/\Tw P SB BB lets Gn Dead Kp x a W/\Ch P.a (Dk P.a BB) Q x.g x.w/\x.H=H/\x.T=T/\β.le x.β/\(W.os=os/\W.output=ou.output)/\(B0<=W.heap.size/\b0<=x.w.heap.size/\∀b B,x.β b B->β b B\/(b0<=b/\B0<=B))/\μ=(.tree Q (x.g,x.w),sumTo n q))
  (λm t=>∃gs W sl q x a,m=crowd gs W sl/\gs[0]?=br a/\gs.size=n/\H7 P.b Dead gs W t q/\Tw P SB BB lets Gn Dead Kp x a W/\Q x.g x.w/\x.H=H/\x.T=T/\β.le x.β/\(W.os=os/\W.output=ou.output)/\(B0<=W.heap.size/\b0<=x.w.heap.size/\∀b B,x.β b B->β b B\/(b0<=b/\B0<=B))) ?_
 rintro μ m t ⟨gs,W,sl,q,x,a,rfl,h0,hn,hb,ht,hr,eH,eT,hle,Pn,hsz,rfl⟩;by_cases hq:Q x.g x.w
 .exact .inl ⟨gs,W,sl,q,x,a,rfl,h0,hn,hb,ht,hq,eH,eT,hle,Pn,hsz⟩
 refine .inr ?_;have Ku:a.status=.running:=ht.gl.status.2;have haw:∀g∈gs,awake g:=by
  intro g hg;obtain⟨i,hi,rfl⟩:=Array.mem_iff_getElem.1 hg;rcases zp i with rfl|Ii
  .have:gs[0]=a:=by simpa [yS hi] using h0
   rw[this];exact awake_of (.inl Ku)
  .exact awake_of ((hb.lv.old i _ Ii (yS hi)).status.elim .inl λx=>.inr (.inr x))
 obtain⟨i,g,d,sl',hi,hg,hst⟩:=crowd_pick (P:=P.b) (w:=W) (sl:=sl) haw ⟨0,a,h0,Ku⟩;rcases zp i with rfl|Ii
 .obtain⟨gs',W',t',x',a',k1,k2,k3,k4,k5,k6,k7,k8,k9,k10,k11,k12,k13,k14⟩:=(hb.at d).tree lib (ht.at d) h0 hr hq sl';exact⟨_,_,(.tree Q (x'.g,x'.w),sumTo n q),by rw[hst,k1],Prod.Lex.left _ _ ⟨.tree hq k7,Bu (C1.of hr)⟩,gs',W',sl',q,x',a',rfl,k3,k2.trans hn,k4,k5,k6,k8.trans eH,k9.trans eT,Cm.le_trans hle k10,⟨k11.1.trans Pn.1,k11.2.trans Pn.2⟩,⟨yR hsz.1 k12,yR hsz.2.1 k13,λb B hb=>(k14 b B hb).elim (hsz.2.2 b B) λh=>.inr ⟨yR hsz.2.1 h.1,yR hsz.1 h.2⟩⟩,rfl⟩
 .obtain⟨gs',t',q',k1,k2,k3,k4,k5⟩:=(hb.at d).slip Ii hi hg h0 Ku sl';exact⟨_,_,(.tree Q (x.g,x.w),sumTo n q'),by rw[hst,k1],Prod.Lex.right _ (by rw[<-hn];exact k4),gs',W.at d,sl',q',x,a,rfl,k3,k2.trans hn,k5,ht.at d,hr,eH,eT,hle,Pn,hsz,rfl⟩
end
open Go.ConcR (KK WgAt stA smA rd wr mk DC0 Bk)
section
variable {P:CL} {SB BB:bA->Bool} {lets:Bool} {Gn:Nat} {ty Wg:Nat} {Dead Toy:Nat->Prop} {Kp:Gm} {Ψ0 Ψ2:bs->Prop} {fA fW:bA} {wl:Nat} {Pr:Cm} {T:List b5} {Fn:Bool->Hid->bn->bs->Prop}
def te {j:Nat}{f:Nat->Nat}(h:∀i,i<j->f i=0):sumTo j f=0:=by
 induction j with
 |zero=>rfl
 |succ j ih=>simp only[sumTo];rw[ih λi hi=>h i (by omega),h j (by omega)]
def MU {gs:Array bn}{W:bs}{t:fx}{q:Nat->Nat}{sl:Option (Nat×Nat)}{x:Lone}{a:bn}{tp:Bool}{k:Nat}
    (lv:Leavers P.b t gs q) (past:Past (Ip Dead) Wg t) (quiet:Quiet (Ip Dead) t) (hgs:∀(i:Nat) (op:MemOp),t[i]?=br op->op.g<gs.size) (MT:∀B,Dead B->B<Wg) (DX:WgAt ty Wg W 0 0) (h0:gs[0]?=br a)
    (Jn:Dv P SB BB lets x a) (Gb:E2 P SB lets Gn x W) (H2:x.H.C8=bw) (hT:x.T=T) (hb:Pr.le x.β) (Jk:∀b,x.β b Wg->x.H b=bD) (Z3:∀b B,x.β b B->¬Dead B) (Ol:∀b B,x.β b B->Toy B->x.H b=bD)
    (Ih:∀B,Toy B->(B≠Wg/\¬Dead B)/\¬Kp.at_ B/\B<W.heap.size) (keep:∀B,Kp.at_ B->B<W.heap.size/\B≠Wg/\W.heap[B]?=Kp.w.heap[B]?) (D7:∀b B,x.β b B->Kp.at_ B->x.H b=bD\/Ro x.w b)
    (Pn:W.os=Kp.w.os/\W.output=Kp.w.output) (RF:(tp=bD->Ψ0 W)/\(tp=bw->Ψ2 W)) (agv:X9 P SB BB lets Gn ty Wg Toy Ψ0 Ψ2 fA fW wl Pr T Fn k tp x.H x.g x.w) (Le:gs.size+k<=Kp.bd/\Kp.bd<=2147483647) :
    ∃μ,P6 P SB BB lets Gn ty Wg Dead Toy Kp Ψ0 Ψ2 fA fW wl Pr T Fn (gs.size-1) μ (crowd gs W sl) t:=by
  have hgp:0<gs.size:=(yK.1 h0).1;have hWg:Wg<W.heap.size:=(yK.1 DX).1;obtain⟨j,hj⟩:∃j,gs.size=j+1:=⟨gs.size-1,by omega⟩;rw[show gs.size-1=j by omega];obtain⟨ts,P4⟩:∃ts:TS,ts=if tp then .start else .done:=⟨_,rfl⟩
  have PT:ts.tp=tp:=by rw[P4];cases tp<;>rfl
  have agx:∀(i:Nat) (y:Touch),touchAt t i=br y->∀b:Addr,y.loc=.cell b->b.block≠Wg:=by
    intro i y hy b hb e;obtain⟨op,hop,hoy⟩:=touch_of hy;have DN:=past.seen op (zl hop);have key:∀(act:MemAct) (y:Touch),act.touch?=br y->act.low Wg->y.loc=.cell b->False:=by
      intro act y hy DN hb;cases act with
      |access ev =>
        simp only[b6,cr] at hy;subst hy;obtain⟨loc,wr,sy⟩:=ev;simp only at hb;subst hb;simp only[gR,Loc.low] at DN;omega
      |mark m =>
        cases m<;>simp[b6] at hy
        all_goals
          subst hy;simp only[Loc.cell.injEq] at hb;subst hb;simp only[gR] at DN;omega
      |_=>simp[b6] at hy
    exact key op.act y hoy DN hb
  let L:Nat->Option Lone:=put (λ_=>cE) 0 (br x)
  have I2:∀ {i y},L i=br y->i=0/\y=x:=λ{i y} e=>by
    by_cases e':i=0
    · subst e';simp only[L,Cu,cr] at e;exact⟨rfl,e.symm⟩
    · simp only[L,CJ _ _ e'] at e;cases e
  have rdx:∀k l,Mj Toy L ts.tp k l->k=0/\l.isMemory=bD/\¬Ip Dead l:=by
    rintro k l (⟨y,hy,b,B,h1,h2,h4⟩|⟨h1,_,B,h2,h4⟩)
    · obtain⟨rfl,rfl⟩:=I2 hy
      refine⟨rfl,Ga h4,?_⟩;rintro⟨c,rfl,hd⟩;have e:c.block=B:=h4;exact Z3 b B h1 (e▸hd)
    · refine⟨h1,Ga h4,?_⟩
      rintro⟨c,rfl,hd⟩;have e:c.block=B:=h4;exact(Ih B h2).1.2 (e▸hd)
  let D:Nat->WD:=λi=>⟨1,0,Deaf t (i+1)⟩
  have hV:Vc j D=0:=te λi _=>rfl
  refine⟨((k,9,.tree (J2 P SB BB lets Gn ty Wg Toy Ψ0 Ψ2 fA fW wl Pr T Fn k tp x.H) (x.g,x.w)),(List.range j).map (λi=>Wm.st 1 (q (i+1))),(0,0)),j,gs,W,sl,D,λi=>.st 1 (q (i+1)),λ_=>bw,L,ts,λ_=>0,0,0,.sp 0 5,0,λ_=>0,0,x,a,rfl,
    ⟨⟨hj,λi hi=>?_,⟨λi y hy=>?_,λi y hy=>?_,λi y hy=>?_,λi y hy=>?_,λi y hy _=>?_,λi i' y y' hne hy hy'=>?_,⟨hWg,λB hB=>Nat.lt_trans (MT B hB) hWg,λB hB=>(Ih B hB).2.2⟩,λB hB=>(Ih B hB).1,keep,λi y hy=>?_,λB hB=>(Ih B hB).2.1,Pn⟩,?_,λop hop=>?_,λi hi=>rfl,λi hi h2=>by omega,DX,λi _ h=>(by cases h),λk h=>?_,⟨λh=>RF.1 ?_,λh=>RF.2 ?_⟩,λi hi=>CJ _ _ (by omega),λi _=>rfl,yL _⟩,
      by rw[PT];exact .free agv hb hT Jn,Cu _ _ _,h0,past.hears,?_,λe=>by simp at e,by simp only;omega⟩,by simp⟩
  · have hlt:i+1<gs.size:=by omega
    refine⟨gs[i+1],yS hlt,?_⟩;have:L (i+1)=none:=CJ _ _ (by omega);rw[this];exact .quit (lv.old (i+1) _ (by omega) (yS hlt))
  · obtain⟨rfl,rfl⟩:=I2 hy;exact Gb
  · obtain⟨rfl,rfl⟩:=I2 hy;exact H2
  · obtain⟨rfl,rfl⟩:=I2 hy;exact Jk
  · obtain⟨rfl,rfl⟩:=I2 hy;exact Z3
  · obtain⟨rfl,rfl⟩:=I2 hy;exact Ol
  · obtain⟨rfl,rfl⟩:=I2 hy
    obtain⟨rfl,rfl⟩:=I2 hy';exact absurd rfl hne
  · obtain⟨rfl,rfl⟩:=I2 hy;exact D7
  · have t0 := BZ (Sh := Pf Dead Wg) (Wr := QN Toy L ts.tp) (Rd := Mj Toy L ts.tp) (N := j + 1) (Pd := fun _ _ => False) (a := stA Wg) past (fun l hl => by
        obtain⟨c,rfl,h|h⟩:=hl
        · exact .inl ⟨c,rfl,h⟩
        · exact .inr ⟨c,rfl,by omega⟩) (λl hl=>by obtain⟨c,rfl,h⟩:=hl;exact⟨c,rfl,.inl h⟩) (λi op y hi hy hs=>by
        obtain⟨c,hc,h|h⟩:=hs
        · exact quiet i op y hi hy ⟨c,hc,h⟩
        · exact absurd h (agx i y (by rw[touchAt_of hi];exact hy) c hc)) (yL _) (λi op hi=>by have:=hgs i op hi;omega) (by omega) (λk l h=>rdx k l (gj h)) rdx
    exact t0.X3 λ_ _ _ h=>h.elim
  · exact MemAct.low_mono (Nat.le_of_lt hWg) (past.seen op hop)
  · rw[P4] at h;cases tp<;>cases h
  · rw[P4] at h
    cases tp with
    |true=>rfl
    |false=>cases h
  · rw[P4] at h
    cases tp with
    |true=>cases h
    |false=>rfl
  · have:=ConcN.Mode.opn (j:=j) (D:=D) (tag:=.sp 0 5) trivial (λi _=>.inr (.inr (.inr rfl))) (by simp)
    rw[hV] at this;simpa [pend] using this
end
def cR (p:cw):Frame:={ (default:b5) with fn:=p.funcs.size,defers:=[],mode:=.panicking [e6] }
def lg {p:cw} {f:bA} {fn:gB} (hf:p.funcs[f]?=br fn) (hname:(fn.name == "runtime.NumGoroutine")=bw) {c:Code} (hb:fn.body=br c) (cc:Array b7) (W:bs) :
  stepG p bw (born p ⟨.fn (.func f) cc,#[]⟩) W=.go (bh (bo p f cc .deferred) [cR p]) W #[]:=by
 have h1:¬fn.name = "runtime.NumGoroutine":=by simpa using hname
 simp[born,stepG,unwind,callDeferred,invoke,callFunc,hf,h1,hb,GStep.after,gb,cR,bh]
def qY {p:cw}{C:b5}{fn:gB}(hf:p.funcs[C.fn]?=br fn)(hr:fn.results=#[])(hm:C.mode=.returning)(hd:C.defers=[])(hk:C.kind=.deferred):QuitsD p 2 0 (bh C [cR p]):=by
 refine .inr ⟨rfl,bh (cR p) [],#[],by simp,λw=>?_,.inr ⟨rfl,{ frame:=cR p,callers:=[],status:=.finished,dying:=cE },#[],by simp,λw=>?_,⟨rfl,rfl⟩⟩⟩
 .obtain⟨a1,a2,a3,a4,a5,a6,a7⟩:=C;dsimp only at hf hm hd hk;subst hm hd hk;simp[bh,stepG,unwind,hf,results_none hr,events_results_none hr,doReturn,cR,e6,GStep.after,gb]
 .simp[bh,stepG,unwind,cR,e6,Frame.catches];rfl
def uR {p:cw}{m:Bool}{b:b5}{a:Act}{ops:Array fu}{i:Nat}{rest:List Nat}{o:fu}{k:List gg}{cs:List b5}{w:bs}{f:bA}{cc:Array b7}{t:Tmp}(ho:ops[i]?=br o)(hop:o.op=.go { callee:=.value (.tmp t),args:=#[],argTypes:=#[] })(hd:o.dst=cE)
  (hw:Region.wanted o (yielded ops a.tmps)=bD) (hk:b.kind≠.early) (ht:a.eval (.tmp t)=.func (.func f) #[] cc) :
  stepG p m (bh (b.at a (.inRegion ops (i::rest)::k)) cs) w=.spawn (bh (b.at a (.inRegion ops rest::k)) cs) (born p ⟨.fn (.func f) cc,#[]⟩) w #[]:=by
 have h1:(execOp a.eval o).run p w=.ok (.spawn ⟨.fn (.func f) cc,#[]⟩) w:=by simp[execOp,resolve,hop,ht,Deferred.ofValue]
 have h2:(execOp a.eval o).events p w #[]=#[]:=by simp[execOp,resolve,hop,ht,Deferred.ofValue]
 rw[stepG_spawn ho hw hk h1 rfl];have h3:listed p b.fn a o w=#[]:=by unfold listed;rw[h2];exact gb _ _
 have h4:a.put o.dst undef=a:=by rw[hd];rfl
 rw[h3,h4]
section
variable {P:CL} {SB BB:bA->Bool} {lets:Bool} {Gn:Nat} {Wg:Nat} {Toy:Nat->Prop}
structure LX (P:CL)(SB BB:bA->Bool)(lets:Bool)(x:Lone)(G:bn)(b:b5)(a:Act)(ops:Array fu)(i:Nat)(k:List gg)(f:bA)(cc:Array b7)(t:Tmp)(fn:gB)(c:Code):Prop where
 g:x.g=bh (b.at a (.inRegion ops [i]::k)) [bad]
 bb:BB b.fn=bD
 op:∃o,ops[i]?=br o/\o.op=.go { callee:=.value (.tmp t),args:=#[],argTypes:=#[] }/\o.dst=cE/\o.guard=cE
 ke:b.kind≠.early
 ht:a.eval (.tmp t)=.func (.func f) #[] cc
 hf:P.a.funcs[f]?=br fn/\P.b.funcs[f]?=br fn/\(fn.name == "runtime.NumGoroutine")=bw/\fn.body=br c
 sb:SB f=bD
def nI {o:fu}(h:o.guard=cE)(y:Nat->Option Bool):Region.wanted o y=true:=by
 unfold Region.wanted;rw[h]
def Kv {x:Lone}{G:bn}{W:bs}{b:b5}{a:Act}{ops:Array fu}{i:Nat}{k:List gg}{f:bA}{cc:Array b7}{t:Tmp}{fn:gB}{c:Code}(h:LX P SB BB lets x G b a ops i k f cc t fn c)
  (hg:Dv P SB BB lets x G) :
  ∃G' CC,stepG P.b bD G W=.spawn G' (born P.b ⟨.fn (.func f) CC,#[]⟩) W #[]/\Dv P SB BB lets { x with g:=bh (b.at a (.inRegion ops []::k)) [bad] } G'/\Ca (SP SB x.H) x.β cc CC:=by
 obtain⟨o,o1,o2,o3,o4⟩:=h.op;have DL:=hg.top.Hh (by rw[h.g];exact h.bb);have hcs:=hg.callers;rw[h.g] at DL hcs;have J0:Cq P.a SB x.H lets x.β (b.at a (.inRegion ops [i]::k)) G.frame:=DL;obtain⟨B,A,Yg,i2,WL,K2,UA⟩:=Jp J0 ⟨rfl,rfl,ops,i,[],k,rfl⟩;have ZU:=J0.todo;rw[UA] at ZU;have agy:Yg=ops/\i2::WL=[i]:=by
  cases ZU with
  |cons hi _=>cases hi;exact⟨rfl,rfl⟩
 obtain⟨rfl,e2⟩:=agy;simp only[List.cons.injEq] at e2;obtain⟨rfl,rfl⟩:=e2;have ZO:B6 (SP SB x.H) x.β (a.eval (.tmp t)) (A.eval (.tmp t)):=by
  have:=J0.tmps;rw[UA] at this;exact this.getD t (B6.undef _ _)
 rw[h.ht] at ZO;have:∃CC,A.eval (.tmp t)=.func (.func f) #[] CC/\Ca (SP SB x.H) x.β cc CC:=by
  generalize A.eval (.tmp t)=V at ZO;cases ZO with
  |@func _ F _ X _ CC hF h1 _ h2 a2 =>
   cases hF with
   |func _ =>
    have:X=#[]:=by simpa using h1.symm
    exact⟨CC,by rw[this],h2,a2⟩
 obtain⟨CC,eC,hCC⟩:=this;have hke:B.kind≠.early:=by
  have:=J0.kind;rw[UA] at this;have h2:b.kind=B.kind:=this;rw[<-h2];exact h.ke
 have eG:G=bh G.frame G.callers:=ii hg;have fin:=bj J0 (v:=undef) (V:=undef) (B6.undef _ _);rw[UA,cq,cq,o1] at fin;simp only[zK,o3] at fin;refine⟨bh (B.at A (.inRegion Yg []::K2)) G.callers,CC,?_,⟨.on ?_,?_,⟨rfl,rfl⟩,⟨rfl,rfl⟩,⟨rfl,rfl⟩⟩,hCC⟩
 .rw[eG,UA];exact uR o1 o2 o3 (nI o4 _) hke eC
 .exact fin
 .exact hcs
def MV (L:∀H,Lib P SB H lets BB Gn){x:Lone}{G:bn}{W:bs}{b:b5}{a:Act}{ops:Array fu}{i:Nat}{k:List gg}{f:bA}{cc:Array b7}{t:Tmp}{fn:gB}{c:Code}(h:LX P SB BB lets x G b a ops i k f cc t fn c)
  (hg:Dv P SB BB lets x G) (hw:E2 P SB lets Gn x W) (H2:x.H.C8=bw) (hid:∀b,x.β b Wg->x.H b=bD) (Ig:∀b B,x.β b B->Toy B->x.H b=bD) {tp:Bool} {wl:Cm} (Gb:∀b B,wl b B->x.β b B)
  {K:Nat->Prop} {w1:bs} (hcut:MB P.a SB lets x.H x.H K (bh (b.at a (.inRegion ops []::k)) [bad]) x.w w1) (Yh:∀b,K b->x.H b=bD\/Ro w1 b) (hcc:Ca (SP SB x.H) (CX K) cc cc) (hK:∀b B,wl b B->K b) :
  ∃G' child,stepG P.b bD G W=.spawn G' child W #[] /\
   Split P SB BB lets Gn Wg Toy x G' child W tp tp bw ⟨bh (b.at a (.inRegion ops []::k)) [bad],w1,x.H,cut K x.β,x.T⟩ ⟨bh (bo P.a f cc .deferred) [bad],w1,x.H,cut K x.β,[cR P.b]⟩ wl:=by
 obtain⟨G',CC,e1,e2,e3⟩:=Kv h (W:=W) hg;obtain⟨f1,f2,f3,f4⟩:=h.hf;have hwc:=mi hcut hw
 refine⟨G',_,e1,?_,hwc,H2,⟨rfl,bh (bo P.b f CC .deferred) [cR P.b],λW=>lg f2 f3 f4 CC W,⟨Dg (L x.H) (.inl h.sb) (e3.cut hcut.bl hcc) .deferred (by decide),.base,⟨rfl,rfl⟩,⟨rfl,rfl⟩,⟨rfl,rfl⟩⟩⟩,hwc,H2,λb B h=>⟨hK b B h,Gb b B h⟩,
  λb B hb=>⟨b,hb.2,λhh=>⟨hh,λ_=>(Yh b hb.1).resolve_left (by rw[hh];simp)⟩⟩,λb B hb=>.inl ⟨b,hb.2,λhh=>⟨hh,λ_=>(Yh b hb.1).resolve_left (by rw[hh];simp)⟩⟩,λb hb=>hid b hb.2,λb hb=>hid b hb.2,λb B hb=>Ig b B hb.2,λ_ b B hb=>Ig b B hb.2,?_,⟨λe=>(by cases e),λ_=>rfl⟩⟩
 .exact mh (g:=bh (b.at a (.inRegion ops []::k)) [bad]) h.bb hcut e2
 .intro b1 b2 B h1 h2;have:b1=b2:=hw.DG.inj h1.2 h2.2;subst this;rcases Yh b1 h1.1 with e|e
  .exact .inl e
  .exact .inr (.inr ⟨e,e⟩)
def uS (K:Nat->Prop)(β:Cm):cut K (cut K β)=cut K β:=by
 funext b B;exact propext ⟨λh=>h.2,λh=>⟨h.1,h⟩⟩
def Bq (H:Hid)(tl:Nat->Bool):Hid:=⟨λb=>H.at_ b&&!tl b,bw,bD⟩
def MW (L:∀H,Lib P SB H lets BB Gn){x:Lone}{G:bn}{W:bs}{b:b5}{a:Act}{ops:Array fu}{i:Nat}{k:List gg}{f:bA}{cc:Array b7}{t:Tmp}{fn:gB}{c:Code}(h:LX P SB BB lets x G b a ops i k f cc t fn c)
  (hg:Dv P SB BB lets x G) (hw:E2 P SB lets Gn x W) (H2:x.H.C8=bw) (hid:∀b,x.β b Wg->x.H b=bD) (Ig:∀b B,x.β b B->Toy B->x.H b=bD) {wl:Cm} (Gb:∀b B,wl b B->x.β b B)
  {K:Nat->Prop} {w1 wk:bs} (hcut:MB P.a SB lets x.H x.H K (bh (b.at a (.inRegion ops []::k)) [bad]) x.w w1) (Yh:∀b,K b->x.H b=bD\/Ro w1 b) (hK:∀b B,wl b B->K b)
  {tl:Nat->Bool} (hcc:Ca (SP SB (Bq x.H tl)) (CX K) cc cc) (MX:∀b B,x.β b B->tl b=bD->Toy B) (Yi:∀b,tl b=bD->x.H b=bD) (tnw:¬Toy Wg)
  (hsz:w1.heap.size<=wk.heap.size/\wk.os=w1.os) (hold:∀b,K b->tl b=bw->wk.heap[b]?=w1.heap[b]?) (P8:∀b o,K b->x.H b=bw->w1.heap[b]?=br o->C5 (SP SB (Bq x.H tl)) (CK P.a SB lets) (CX K) o o)
  (ML:∀b B,K b->tl b=bD->x.β b B->∃o O,wk.heap[b]?=br o/\W.heap[B]?=br O/\C5 (SP SB (Bq x.H tl)) (CK P.a SB lets) (cut K x.β) o O) (hlt:∀b,x.H b=bD->b<wk.heap.size) :
  ∃G' child,stepG P.b bD G W=.spawn G' child W #[] /\
   Split P SB BB lets Gn Wg Toy x G' child W bD bw bD ⟨bh (b.at a (.inRegion ops []::k)) [bad],w1,x.H,cut K x.β,x.T⟩ ⟨bh (bo P.a f cc .deferred) [bad],wk,Bq x.H tl,cut K x.β,[cR P.b]⟩ wl:=by
 obtain⟨G',CC,e1,e2,e3⟩:=Kv h (W:=W) hg;obtain⟨f1,f2,f3,f4⟩:=h.hf;have hwc:=mi hcut hw;have hH:∀b,(Bq x.H tl) b=bD↔x.H b=bD/\tl b=false:=λb=>by simp[Bq]
 have hHf:∀b,(Bq x.H tl) b=bw->x.H b=bw\/tl b=true:=λb hb=>by
  simp only[Bq,Bool.and_eq_false_iff,As] at hb;exact hb
 have hRk:∀b,K b->tl b=bw->Ro w1 b->Ro wk b:=λb hk ht ⟨c,t,z,h1,h2⟩=>⟨c,t,z,(hold b hk ht).trans h1,h2⟩;have hwk:CV (SP SB (Bq x.H tl)) (CK P.a SB lets) Gn (cut K x.β) wk W:=by
  refine⟨hwc.DG,⟨yR hwc.room.1 hsz.1,hwc.room.2⟩,λb B hb hh=>?_,λb B hb hh=>?_,λb hh=>hlt b ((hH b).1 hh).1,by rw[hsz.2];exact hwc.env⟩
  .cases ht:tl b with
   |true=>exact ML b B hb.1 ht hb.2
   |false =>
    have hx:x.H b=false:=(hHf b hh).resolve_right (by rw[ht];simp);obtain⟨o,O,q1,q2,q3⟩:=hwc.D8 b B hb hx;refine⟨o,O,(hold b hb.1 ht).trans q1,q2,?_⟩;have:=q3.cut rfl (P8 b o hb.1 hx q1);rw[uS] at this;exact this
  .obtain⟨q1,q2⟩:=(hH b).1 hh;obtain⟨r1,r2,_⟩:=hwc.Ej b B hb q1;exact⟨(hold b hb.1 q2).trans r1,λ_=>r2 H2,λe=>by cases e⟩
 refine⟨G',_,e1,?_,hwc,H2,⟨rfl,bh (bo P.b f CC .deferred) [cR P.b],λW=>lg f2 f3 f4 CC W,⟨Dg (L (Bq x.H tl)) (.inl h.sb) (e3.cut rfl hcc) .deferred (by decide),.base,⟨rfl,rfl⟩,⟨rfl,rfl⟩,⟨rfl,rfl⟩⟩⟩,hwk,rfl,λb B h=>⟨hK b B h,Gb b B h⟩,
  λb B hb=>⟨b,hb.2,λhh=>⟨hh,λ_=>(Yh b hb.1).resolve_left (by rw[hh];simp)⟩⟩,λb B hb=>?_,λb hb=>hid b hb.2,λb hb=>(hH b).2 ⟨hid b hb.2,?_⟩,λb B hb=>Ig b B hb.2,λe=>(by cases e),?_,⟨λ_=>⟨rfl,rfl⟩,λe=>(by cases e)⟩⟩
 .exact mh (g:=bh (b.at a (.inRegion ops []::k)) [bad]) h.bb hcut e2
 .cases ht:tl b with
  |true=>exact .inr ⟨rfl,MX b B hb.2 ht⟩
  |false =>
   refine .inl ⟨b,hb.2,λhh=>?_⟩;have hx:x.H b=false:=(hHf b hh).resolve_right (by rw[ht];simp);exact⟨hx,λ_=>hRk b hb.1 ht ((Yh b hb.1).resolve_left (by rw[hx];simp))⟩
 .cases ht:tl b with
  |false=>rfl
  |true=>exact absurd (MX b Wg hb.2 ht) tnw
 .intro b1 b2 B h1 h2;have:b1=b2:=hw.DG.inj h1.2 h2.2;subst this;rcases Yh b1 h1.1 with e|e
  .exact .inl e
  .cases ht:tl b1 with
   |true=>exact .inl (Yi b1 ht)
   |false=>exact .inr (.inr ⟨e,hRk b1 h1.1 ht e⟩)
end
abbrev Di (SB:bA->Bool)(H:Hid)(K:Nat->Prop)(v:b7):Prop:=B6 (SP SB H) (CX K) v v
def Dn {SB:bA->Bool}{H:Hid}{K:Nat->Prop}{l:List b7}(h:∀v∈l,Di SB H K v):Ca (SP SB H) (CX K) l.toArray l.toArray :=
 ⟨rfl,λi v V h1 h2=>by
  rw[h1] at h2;cases h2
  exact h v (zS (by simpa using h1))⟩
def Di.mono {SB:bA->Bool}{H:Hid}{K K':Nat->Prop}{v:b7}(h:Di SB H K v)(hk:∀b,K b->K' b):Di SB H K' v :=
 B6.mono (λb B hb=>⟨hk b hb.1,hb.2⟩) h
def Di.ptr {SB:bA->Bool}{H:Hid}{K:Nat->Prop}{b:Nat}(hb:K b)(o:Nat)(s:Option Nat):Di SB H K (.pointer (br ⟨b,o,s⟩)):=B6.ptr o s ⟨hb,rfl⟩
def Di.slice {SB:bA->Bool}{H:Hid}{K:Nat->Prop}{b:Nat}(hb:K b)(o:Nat)(s:Option Nat)(l c:Nat):Di SB H K (.slice (br ⟨b,o,s⟩) l c):=B6.slice o s l c ⟨hb,rfl⟩
def Di.undef {SB:bA->Bool}{H:Hid}{K:Nat->Prop}:Di SB H K undef:=B6.undef _ _
def Di.agg {SB:bA->Bool}{H:Hid}{K:Nat->Prop}{l:List b7}(h:∀v∈l,Di SB H K v):Di SB H K (.agg l.toArray):=B6.agg rfl (Dn h).at_
def Di.func {SB:bA->Bool}{H:Hid}{K:Nat->Prop}{f:bA}(hf:SB f=bD){l:List b7}(h:∀v∈l,Di SB H K v):Di SB H K (.func (.func f) #[] l.toArray):=B6.func (GL.func (.inl hf)) rfl (λi v V h1=>by simp at h1) rfl (Dn h).at_
def froze (w:bs)(r:Nat):World:=match w.heap[r]? with
 |some (.cells c t _)=>{ w with heap:=w.heap.setIfInBounds r (.cells c t (0,c.size)) }
 |_=>w
def cS (w:bs)(r:Nat):(froze w r).heap.size=w.heap.size:=by
 unfold froze;split<;>simp
def gm (w:bs)(r:Nat):(froze w r).os=w.os:=by
 unfold froze;split<;>rfl
def eZ (w:bs){r b:Nat}(h:b≠r):(froze w r).heap[b]?=w.heap[b]?:=by
 unfold froze;split
 .exact zn (Ne.symm h)
 .rfl
def di {w:bs}{r:Nat}{c:Array b7}{t:TypeId}{f:Nat×Nat}(h:w.heap[r]?=br (.cells c t f)):(froze w r).heap[r]?=br (.cells c t (0,c.size)):=by
 unfold froze;rw[h];exact Az (yK.1 h).1
def Ext (w w':bs):Prop:=w.heap.size<=w'.heap.size/\(∀b,b<w.heap.size->w'.heap[b]?=w.heap[b]?)/\w'.os=w.os
def Ext.trans {a b c:bs}(h:Ext a b)(k:Ext b c):Ext a c:=⟨yR h.1 k.1,λx hx=>(k.2.1 x (yO hx h.1)).trans (h.2.1 x hx),k.2.2.trans h.2.2⟩
def Ext.alloc (w:bs)(o:Obj):Ext w (w.alloc o):=⟨by
 have:(w.alloc o).heap.size=w.heap.size+1:=Array.size_push _;omega,λb hb=>by
 have:(w.alloc o).heap[b]?=if b=w.heap.size then br o else w.heap[b]?:=Al ..
 rw[this,if_neg (Bg hb)],rfl⟩
def Ext.same {a b:bs}(h:Cs a b):Ext a b:=⟨by rw[h.1];exact yL _,λ_ _=>by rw[h.1],h.2.1⟩
end Go.Co
