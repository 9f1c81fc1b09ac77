/- Parts of the proof. -/
import Derived.Test.YtgicaeombogkcaaGreatP10
import Derived.Test.YtgicaeombogkcaaGreatP13
import Derived.Conc.Own2
set_option linter.all false
set_option maxHeartbeats 8000000
set_option maxRecDepth 100000
namespace Go.Co
open Go.Conc Go.ConcN Go.RowKit Go.Conc.Lib Go.ConcR.Gen Go.ConcN.Gen
open Go.ConcR (KK wgBlock WgAt stA smA rd wr mk Payload Aside2 DC0)
variable {L:WgLink}
theorem addPos {P:Program} (H:WgLib P L) {Wg:Nat} {b₀:Frame} {a₀:Act} {ops₀:Array Oper} {i₀:Nat} {rest₀:List Nat} {k₀:List Item} {cs:List Frame} (w:World) (hF:WgLive L.tWg Wg w) :
  GW P L.tWg Wg true (AKd P L.tWg Wg (fun g _=>g=G (b₀.at (a₀.put ((ops₀[i₀]?).bind (·.dst)) (.tuple #[])) (.inRegion ops₀ rest₀ :: k₀)) cs)) 150 (G ((base L.add).at ⟨#[.pointer (some ⟨Wg,0,none⟩),.int .i64 1,undef,undef,undef,undef,undef,undef,undef,undef,undef,undef,undef,undef,undef,undef,undef,undef,undef,undef,undef,undef,undef,undef,undef,undef,undef,undef,undef,undef,undef,undef,undef,undef,undef,undef,undef,undef,undef,undef,undef,undef,undef,undef,undef,undef,undef,undef,undef,undef,undef,undef,undef,undef,undef,undef,undef,undef,undef,undef,undef,undef,undef,undef,undef,undef,undef,undef,undef,undef,undef,undef,undef,undef,undef,undef,undef,undef,undef,undef,undef,undef,undef,undef,undef,undef,undef,undef,undef,undef,undef,undef,undef,undef,undef,undef,undef,undef,undef,undef,undef,undef,undef,undef,undef,undef,undef,undef,undef,undef,undef,undef,undef,undef,undef,undef,undef],[]⟩ [.code (body_add L)]) (b₀.at a₀ (.inRegion ops₀ (i₀ :: rest₀) :: k₀) :: cs)) w:=by
 lib_facts
 simp only [body_add,addFn,Option.getD_some]
 u_c stepG_seq rl hF
 u_cond true rl hF
 u_c stepG_seq rl hF
 u_c stepG_seq rl hF
 u_reg rl hF
 u_op rl hF
 u_op rl hF
 u_c stepG_region_end rl hF
 u_cond false rl hF
 u_c stepG_skip rl hF
 u_c stepG_seq rl hF
 u_reg rl hF
 refine Goes.stop (fun w₁ h₁=>?_)
 replace hF:=rl hF h₁
 clear h₁
 refine ⟨rfl,_,stepG_mark0 .disable (by simp) rfl rfl (by k_ne) rfl H.f_disable (x_disable_n L) (x_disable_b L) (x_disable_x L) (x_disable_f L),150,?_⟩
 walk_nrm
 u_c stepG_region_end rl hF
 u_reg rl hF
 u_defer rl hF
 u_c stepG_region_end rl hF
 u_c stepG_seq rl hF
 u_reg rl hF
 u_op rl hF
 u_c stepG_region_end rl hF
 u_c stepG_seq rl hF
 u_c stepG_seq rl hF
 u_reg rl hF
 u_bub rl hF
 u_c stepG_region_end rl hF
 u_cond false rl hF
 u_c stepG_skip rl hF
 u_c stepG_seq rl hF
 u_reg rl hF
 u_op rl hF
 u_op rl hF
 u_op rl hF
 u_op rl hF
 u_op rl hF
 u_op rl hF
 u_call H.f_uAdd (nm_uAdd L) uAddFn rl hF
 u_c stepG_seq rl hF
 u_reg rl hF
 u_op rl hF
 u_c stepG_region_end rl hF
 u_c stepG_seq rl hF
 u_reg rl hF
 u_op rl hF
 u_op rl hF
 u_op rl hF
 u_op rl hF
 refine Goes.stop (fun w₂ h₁=>?_)
 replace hF:=rl hF h₁
 clear h₁
 refine ⟨rfl,fun v hv hw=>?_⟩
 rcases Nat.eq_zero_or_pos v with rfl | hvp
 ·replace hw:WgAt L.tWg Wg w₂ 0 0:=by simpa using hw
  have z:(((0:Nat):Int)+1)*KK=KK:=by simp
  rw [z]
  have e0:IntKind.u64.wrap (0+4294967296)=KK:=by decide
  refine ⟨_,(stepG_add_atomic rfl rfl (by k_ne) rfl H.f_addU64 (x_addU64_n L) (x_addU64_b L) (x_addU64_x L) .u64 (x_addU64_f L) rfl rfl hw.cellSt (hw.thaw 0)).trans (by rw [e0];rfl),fun _=>⟨150,?_⟩,fun h=>absurd rfl h⟩
  replace hF:WgLive L.tWg Wg (w₂.setCell (stA Wg) (.int .u64 KK)):=⟨_,_,hw.setSt _⟩
  clear hw
  simp only [KK] at hF ⊢
  walk_nrm
  u_op rl hF
  u_c stepG_region_end rl hF
  u_c stepG_ret' rl hF
  u_leave1 H.f_uAdd rl hF
  u_op rl hF
  u_c stepG_region_end rl hF
  u_c stepG_seq rl hF
  u_c stepG_seq rl hF
  u_reg rl hF
  u_op rl hF
  u_op rl hF
  u_op rl hF
  u_op rl hF
  u_skip rl hF
  u_skip rl hF
  u_op rl hF
  u_c stepG_region_end rl hF
  u_cond false rl hF
  u_c stepG_skip rl hF
  u_c stepG_seq rl hF
  u_reg rl hF
  u_op rl hF
  u_op rl hF
  u_op rl hF
  u_op rl hF
  u_c stepG_region_end rl hF
  u_c stepG_seq rl hF
  u_reg rl hF
  u_op rl hF
  u_op rl hF
  u_op rl hF
  u_op rl hF
  u_c stepG_region_end rl hF
  u_c stepG_seq rl hF
  u_c stepG_seq rl hF
  u_reg rl hF
  u_op rl hF
  u_op rl hF
  u_op rl hF
  u_op rl hF
  u_op rl hF
  u_op rl hF
  u_op rl hF
  u_op rl hF
  u_op rl hF
  u_op rl hF
  u_c stepG_region_end rl hF
  u_cond true rl hF
  u_reg rl hF
  u_op rl hF
  u_op rl hF
  u_op rl hF
  u_conv H.underlying_tPU32 H.room_tU32 (WgLive.cell1 hF).choose_spec rl hF
  refine Goes.stop (fun w₃ h₁=>?_)
  replace hF:=rl hF h₁
  clear h₁
  refine ⟨rfl,_,stepG_markAt .read (by simp) rfl rfl (by k_ne) rfl H.f_raceRead (x_raceRead_n L) (x_raceRead_b L) (x_raceRead_x L) (x_raceRead_f L) (ad:=⟨Wg,1,none⟩) (by simp [Act.eval]),150,?_⟩
  walk_nrm
  u_c stepG_region_end rl hF
  u_c stepG_seq rl hF
  u_c stepG_seq rl hF
  u_reg rl hF
  u_op rl hF
  u_op rl hF
  u_c stepG_region_end rl hF
  u_cond false rl hF
  u_c stepG_skip rl hF
  u_c stepG_seq rl hF
  u_c stepG_seq rl hF
  u_reg rl hF
  u_op rl hF
  u_op rl hF
  u_op rl hF
  u_skip rl hF
  u_skip rl hF
  u_op rl hF
  u_op rl hF
  u_skip rl hF
  u_skip rl hF
  u_skip rl hF
  u_skip rl hF
  u_op rl hF
  u_c stepG_region_end rl hF
  u_cond false rl hF
  u_c stepG_skip rl hF
  u_c stepG_seq rl hF
  u_c stepG_seq rl hF
  u_reg rl hF
  u_op rl hF
  u_op rl hF
  u_op rl hF
  u_skip rl hF
  u_skip rl hF
  u_op rl hF
  u_c stepG_region_end rl hF
  u_cond true rl hF
  u_c stepG_ret' rl hF
  refine Goes.stop (fun w₄ h₁=>?_)
  replace hF:=rl hF h₁
  clear h₁
  refine ⟨rfl,_,stepG_unwind_entry (v:=.tuple #[]) (evs:=#[mk .enable]) rfl H.f_enable (x_enable_n L) (x_enable_b L) (x_enable_x L) (x_enable_f L) (by simp [Extern.Race.none_]) (by simp [mk]) (by simp [mk]),150,?_⟩
  u_leave0 H.f_add rl hF
  exact Goes.stop fun _ _=>rfl
 ·obtain ⟨V,hV⟩:∃ V:Int,V=(v:Int)+1:=⟨_,rfl⟩
  obtain ⟨S,hS⟩:∃ S:Int,S=V*KK:=⟨_,rfl⟩
  have eS:IntKind.u64.wrap ((v:Int)*KK+4294967296)=S:=by rw [IntKind.wrap_u64,hS,hV];simp only [KK];omega
  rw [<- hV,<- hS]
  have a1:S / 4294967296=V:=by rw [hS];simp only [KK];omega
  have b1:bits .and .u64 S 2147483648=0:=by rw [hS,hV];have:=st_flag (v+1) 0 (by omega) (by omega);simpa [KK] using this
  have b2:bits .and .u64 S 2147483647=0:=by rw [hS,hV];have:=st_waiters (v+1) 0 (by omega) (by omega);simpa [KK] using this
  have c1:IntKind.i32.wrap V=V:=by rw [IntKind.wrap_i32];omega
  have hV1:1<V:=by omega
  have hV2:V<2147483648:=by omega
  have q1:(V==1)=false:=by simp;omega
  have q2:decide (V=1)=false:=decide_eq_false (by omega)
  have q3:decide (V<0)=false:=decide_eq_false (by omega)
  have q4:decide (0<V)=true:=decide_eq_true (by omega)
  have q5:(V==0)=false:=by simp;omega
  have q6:decide (V=0)=false:=decide_eq_false (by omega)
  refine ⟨_,(stepG_add_atomic rfl rfl (by k_ne) rfl H.f_addU64 (x_addU64_n L) (x_addU64_b L) (x_addU64_x L) .u64 (x_addU64_f L) rfl rfl hw.cellSt (hw.thaw 0)).trans (by rw [eS];rfl),fun h=>absurd h (by omega),fun _=>⟨150,?_⟩⟩
  replace hF:WgLive L.tWg Wg (w₂.setCell (stA Wg) (.int .u64 S)):=⟨_,_,hw.setSt _⟩
  clear hw hS hV eS
  walk_nrm
  u_op rl hF
  u_c stepG_region_end rl hF
  u_c stepG_ret' rl hF
  u_leave1 H.f_uAdd rl hF
  u_op rl hF
  u_c stepG_region_end rl hF
  u_c stepG_seq rl hF
  u_c stepG_seq rl hF
  u_reg rl hF
  u_op rl hF
  u_op rl hF
  u_op rl hF
  u_op rl hF
  u_skip rl hF
  u_skip rl hF
  u_op rl hF
  u_c stepG_region_end rl hF
  u_cnd false rl hF
  u_c stepG_skip rl hF
  u_c stepG_seq rl hF
  u_reg rl hF
  u_op rl hF
  u_op rl hF
  u_op rl hF
  u_op rl hF
  u_c stepG_region_end rl hF
  u_c stepG_seq rl hF
  u_reg rl hF
  u_op rl hF
  u_op rl hF
  u_op rl hF
  u_op rl hF
  u_c stepG_region_end rl hF
  u_c stepG_seq rl hF
  u_c stepG_seq rl hF
  u_reg rl hF
  u_op rl hF
  u_op rl hF
  u_op rl hF
  u_op rl hF
  u_op rl hF
  u_op rl hF
  u_op rl hF
  u_op rl hF
  u_op rl hF
  u_op rl hF
  u_c stepG_region_end rl hF
  u_cnd false rl hF
  u_c stepG_skip rl hF
  u_c stepG_seq rl hF
  u_c stepG_seq rl hF
  u_reg rl hF
  u_op rl hF
  u_op rl hF
  u_c stepG_region_end rl hF
  u_cnd false rl hF
  u_c stepG_skip rl hF
  u_c stepG_seq rl hF
  u_c stepG_seq rl hF
  u_reg rl hF
  u_op rl hF
  u_op rl hF
  u_op rl hF
  u_skip rl hF
  u_skip rl hF
  u_op rl hF
  u_op rl hF
  u_skip rl hF
  u_skip rl hF
  u_skip rl hF
  u_skip rl hF
  u_op rl hF
  u_c stepG_region_end rl hF
  u_cnd false rl hF
  u_c stepG_skip rl hF
  u_c stepG_seq rl hF
  u_c stepG_seq rl hF
  u_reg rl hF
  u_op rl hF
  u_op rl hF
  u_op rl hF
  u_skip rl hF
  u_skip rl hF
  u_op rl hF
  u_c stepG_region_end rl hF
  u_cnd true rl hF
  u_c stepG_ret' rl hF
  refine Goes.stop (fun w₄ h₁=>?_)
  replace hF:=rl hF h₁
  clear h₁
  refine ⟨rfl,_,stepG_unwind_entry (v:=.tuple #[]) (evs:=#[mk .enable]) rfl H.f_enable (x_enable_n L) (x_enable_b L) (x_enable_x L) (x_enable_f L) (by simp [Extern.Race.none_]) (by simp [mk]) (by simp [mk]),150,?_⟩
  u_leave0 H.f_add rl hF
  exact Goes.stop fun _ _=>rfl
open Go.Conc Go.ConcN Go.RowKit Go.Conc.Lib Go.ConcR.Gen Go.ConcN.Gen
open Go.ConcR (KK wgBlock WgAt stA smA rd wr mk Payload Aside2 DC0)
variable {L:WgLink}
theorem waitStart {P:Program} (H:WgLib P L) {Wg:Nat} {b₀:Frame} {a₀:Act} {ops₀:Array Oper} {i₀:Nat} {rest₀:List Nat} {k₀:List Item} {cs:List Frame} (w:World) (hF:WgLive L.tWg Wg w) :
  GW P L.tWg Wg true (WKd P L.tWg Wg (AnchWN L (fun _=>True) Wg (b₀.at a₀ (.inRegion ops₀ (i₀ :: rest₀) :: k₀)) cs)) 150 (G ((base L.wait).at ⟨#[.pointer (some ⟨Wg,0,none⟩),undef,undef,undef,undef,undef,undef,undef,undef,undef,undef,undef,undef,undef,undef,undef,undef,undef,undef,undef,undef,undef,undef,undef,undef,undef,undef,undef,undef,undef,undef,undef,undef,undef,undef,undef,undef,undef,undef,undef,undef,undef,undef,undef,undef,undef,undef,undef,undef,undef,undef,undef,undef,undef,undef,undef,undef,undef,undef,undef,undef,undef,undef,undef,undef,undef,undef,undef,undef,undef,undef,undef,undef,undef,undef,undef,undef,undef,undef,undef,undef,undef,undef,undef],[]⟩ [.code (body_wait L)]) (b₀.at a₀ (.inRegion ops₀ (i₀ :: rest₀) :: k₀) :: cs)) w:=by
 lib_facts
 simp only [body_wait,waitFn,Option.getD_some]
 u_c stepG_seq rl hF
 u_cond true rl hF
 u_reg rl hF
 refine Goes.stop (fun w₁ h₁=>?_)
 replace hF:=rl hF h₁
 clear h₁
 refine ⟨rfl,_,stepG_mark0 .disable (by simp) rfl rfl (by k_ne) rfl H.f_disable (x_disable_n L) (x_disable_b L) (x_disable_x L) (x_disable_f L),150,?_⟩
 walk_nrm
 u_c stepG_region_end rl hF
 u_c stepG_block rl hF
 u_c stepG_loop rl hF
 refine Goes.stop (fun w₃ h₃=>?_)
 replace hF:=rl hF h₃
 exact ⟨_,rfl,by simp,by simp,trivial,hF⟩
theorem waitRound {P:Program} (H:WgLib P L) {Wg:Nat} {b₀:Frame} {a₀:Act} {ops₀:Array Oper} {i₀:Nat} {rest₀:List Nat} {k₀:List Item} {cs:List Frame} (g:Goroutine) (w:World) (h:AnchWN L (fun _=>True) Wg (b₀.at a₀ (.inRegion ops₀ (i₀ :: rest₀) :: k₀)) cs g w) :
  GW P L.tWg Wg true (W1 P L.tWg Wg (AnchWN L (fun _=>True) Wg (b₀.at a₀ (.inRegion ops₀ (i₀ :: rest₀) :: k₀)) cs) (fun g _=>g=G (b₀.at (a₀.put ((ops₀[i₀]?).bind (·.dst)) (.tuple #[])) (.inRegion ops₀ rest₀ :: k₀)) cs)) 150 g w:=by
 lib_facts
 obtain ⟨T,rfl,hT84,t0,_,hF⟩:=h
 obtain ⟨v0,v1,v2,v3,v4,v5,v6,v7,v8,v9,v10,v11,v12,v13,v14,v15,v16,v17,v18,v19,v20,v21,v22,v23,v24,v25,v26,v27,v28,v29,v30,v31,v32,v33,v34,v35,v36,v37,v38,v39,v40,v41,v42,v43,v44,v45,v46,v47,v48,v49,v50,v51,v52,v53,v54,v55,v56,v57,v58,v59,v60,v61,v62,v63,v64,v65,v66,v67,v68,v69,v70,v71,v72,v73,v74,v75,v76,v77,v78,v79,v80,v81,v82,v83,rfl⟩:=array84 T hT84
 simp only [List.getElem?_toArray,List.getElem?_cons_zero,Option.some.injEq] at t0
 subst t0
 simp only [L7,body_wait,waitFn,Option.getD_some]
 u_c stepG_block rl hF
 u_c stepG_seq rl hF
 u_reg rl hF
 u_op rl hF
 u_op rl hF
 u_op rl hF
 u_call H.f_uLoad (nm_uLoad L) uLoadFn rl hF
 u_c stepG_seq rl hF
 u_reg rl hF
 u_op rl hF
 u_c stepG_region_end rl hF
 u_c stepG_seq rl hF
 u_reg rl hF
 u_op rl hF
 u_op rl hF
 u_op rl hF
 refine Goes.stop (fun w₁ h₁=>?_)
 replace hF:=rl hF h₁
 clear h₁
 refine ⟨rfl,fun v hv hw=>?_⟩
 rcases Nat.eq_zero_or_pos v with rfl | hvp
 ·replace hw:WgAt L.tWg Wg w₁ 0 0:=by simpa using hw
  refine ⟨_,stepG_load_atomic (v:=0) rfl rfl (by k_ne) rfl H.f_loadU64 (x_loadU64_n L) (x_loadU64_b L) (x_loadU64_x L) .u64 (x_loadU64_f L) rfl hw.cellSt,fun _=>⟨150,?_⟩,fun h=>absurd rfl h⟩
  clear hw
  walk_nrm
  u_op rl hF
  u_c stepG_region_end rl hF
  u_c stepG_ret' rl hF
  u_leave1 H.f_uLoad rl hF
  u_op rl hF
  u_c stepG_region_end rl hF
  u_c stepG_seq rl hF
  u_reg rl hF
  u_op rl hF
  u_op rl hF
  u_op rl hF
  u_op rl hF
  u_c stepG_region_end rl hF
  u_c stepG_seq rl hF
  u_reg rl hF
  u_op rl hF
  u_op rl hF
  u_op rl hF
  u_op rl hF
  u_c stepG_region_end rl hF
  u_c stepG_seq rl hF
  u_c stepG_seq rl hF
  u_reg rl hF
  u_op rl hF
  u_op rl hF
  u_c stepG_region_end rl hF
  u_cond true rl hF
  u_c stepG_seq rl hF
  u_cond true rl hF
  u_c stepG_seq rl hF
  u_reg rl hF
  refine Goes.stop (fun w₅ h₁=>?_)
  replace hF:=rl hF h₁
  clear h₁
  refine ⟨rfl,_,stepG_mark0 .enable (by simp) rfl rfl (by k_ne) rfl H.f_enable (x_enable_n L) (x_enable_b L) (x_enable_x L) (x_enable_f L),150,?_⟩
  walk_nrm
  u_c stepG_region_end rl hF
  u_reg rl hF
  u_op rl hF
  u_conv H.underlying_tWgP H.room_tWg (WgLive.cell0 hF).choose_spec rl hF
  refine Goes.stop (fun w₆ h₁=>?_)
  replace hF:=rl hF h₁
  clear h₁
  refine ⟨rfl,_,stepG_markAt .acquire (by simp) rfl rfl (by k_ne) rfl H.f_acquire (x_acquire_n L) (x_acquire_b L) (x_acquire_x L) (x_acquire_f L) (by simp [Act.eval,stA]),150,?_⟩
  walk_nrm
  u_c stepG_region_end rl hF
  u_c stepG_seq rl hF
  u_c stepG_seq rl hF
  u_reg rl hF
  u_op rl hF
  u_op rl hF
  u_op rl hF
  u_op rl hF
  u_op rl hF
  u_op rl hF
  u_op rl hF
  u_op rl hF
  u_skip rl hF
  u_skip rl hF
  u_op rl hF
  u_c stepG_region_end rl hF
  u_cond false rl hF
  u_c stepG_skip rl hF
  u_c stepG_ret' rl hF
  u_leave0 H.f_wait rl hF
  exact Goes.stop fun _ _=>rfl
 ·obtain ⟨S,hS⟩:∃ S:Int,(v:Int)*KK=S:=⟨_,rfl⟩
  have a1:S / 4294967296=(v:Int):=by rw [<- hS];simp only [KK];omega
  have b1:bits .and .u64 S 2147483648=0:=by rw [<- hS];have:=st_flag v 0 (by omega) (by omega);simpa [KK] using this
  have b2:bits .and .u64 S 2147483647=0:=by rw [<- hS];have:=st_waiters v 0 (by omega) (by omega);simpa [KK] using this
  have c1:IntKind.i32.wrap (v:Int)=(v:Int):=by rw [IntKind.wrap_i32];omega
  have w1:IntKind.u64.wrap (S+1)=S+1:=by rw [IntKind.wrap_u64,<- hS];simp only [KK];omega
  have q3:decide ((v:Int)<0)=false:=decide_eq_false (by omega)
  have q4:decide (0<(v:Int))=true:=decide_eq_true (by omega)
  have q5:((v:Int)==0)=false:=by simp;omega
  have q6:decide ((v:Int)=0)=false:=decide_eq_false (by omega)
  rw [hS] at hw
  refine ⟨_,stepG_load_atomic (v:=S) rfl rfl (by k_ne) rfl H.f_loadU64 (x_loadU64_n L) (x_loadU64_b L) (x_loadU64_x L) .u64 (x_loadU64_f L) rfl hw.cellSt,fun h0=>absurd h0 (by omega),fun _=>⟨150,?_⟩⟩
  clear hw
  walk_nrm
  u_op rl hF
  u_c stepG_region_end rl hF
  u_c stepG_ret' rl hF
  u_leave1 H.f_uLoad rl hF
  u_op rl hF
  u_c stepG_region_end rl hF
  u_c stepG_seq rl hF
  u_reg rl hF
  u_op rl hF
  u_op rl hF
  u_op rl hF
  u_op rl hF
  u_c stepG_region_end rl hF
  u_c stepG_seq rl hF
  u_reg rl hF
  u_op rl hF
  u_op rl hF
  u_op rl hF
  u_op rl hF
  u_c stepG_region_end rl hF
  u_c stepG_seq rl hF
  u_c stepG_seq rl hF
  u_reg rl hF
  u_op rl hF
  u_op rl hF
  u_c stepG_region_end rl hF
  u_cnd false rl hF
  u_c stepG_skip rl hF
  u_c stepG_seq rl hF
  u_reg rl hF
  u_op rl hF
  u_op rl hF
  u_op rl hF
  u_op rl hF
  u_op rl hF
  u_op rl hF
  u_call H.f_uCas (nm_uCas L) uCasFn rl hF
  u_c stepG_seq rl hF
  u_reg rl hF
  u_op rl hF
  u_c stepG_region_end rl hF
  u_c stepG_seq rl hF
  u_reg rl hF
  u_op rl hF
  u_op rl hF
  u_op rl hF
  u_op rl hF
  u_op rl hF
  refine Goes.stop (fun w₂ h₁=>?_)
  replace hF:=rl hF h₁
  clear h₁
  refine ⟨rfl,fun v' hv' hw=>⟨fun e=>?_,fun e=>?_⟩⟩
  ·subst e
   rw [hS] at hw ⊢
   refine ⟨_,(stepG_cas_hit (v:=S) (n:=S+1) rfl rfl (by k_ne) rfl H.f_casU64 (x_casU64_n L) (x_casU64_b L) (x_casU64_x L) .u64 (x_casU64_f L) rfl rfl rfl hw.cellSt (hw.thaw 0)).trans (by rfl),150,?_⟩
   replace hF:WgLive L.tWg Wg (w₂.setCell (stA Wg) (.int .u64 (S+1))):=⟨_,_,hw.setSt _⟩
   clear hw
   walk_nrm
   u_op rl hF
   u_c stepG_region_end rl hF
   u_c stepG_ret' rl hF
   u_leave1 H.f_uCas rl hF
   u_c stepG_region_end rl hF
   u_cnd true rl hF
   u_c stepG_seq rl hF
   u_c stepG_seq rl hF
   u_reg rl hF
   u_op rl hF
   u_op rl hF
   u_op rl hF
   u_op rl hF
   u_c stepG_region_end rl hF
   u_cnd true rl hF
   u_reg rl hF
   u_op rl hF
   u_op rl hF
   u_op rl hF
   u_conv H.underlying_tPU32 H.room_tU32 (WgLive.cell1 hF).choose_spec rl hF
   refine Goes.stop (fun w₂ h₁=>?_)
   replace hF:=rl hF h₁
   clear h₁
   refine ⟨rfl,_,stepG_markAt .write (by simp) rfl rfl (by k_ne) rfl H.f_raceWrite (x_raceWrite_n L) (x_raceWrite_b L) (x_raceWrite_x L) (x_raceWrite_f L) (ad:=⟨Wg,1,none⟩) (by simp [Act.eval]),150,?_⟩
   walk_nrm
   u_c stepG_region_end rl hF
   u_c stepG_seq rl hF
   u_reg rl hF
   u_op rl hF
   u_c stepG_region_end rl hF
   u_c stepG_seq rl hF
   u_c stepG_seq rl hF
   u_reg rl hF
   u_op rl hF
   u_op rl hF
   u_op rl hF
   u_op rl hF
   u_skip rl hF
   u_op rl hF
   u_c stepG_region_end rl hF
   u_cnd false rl hF
   u_c stepG_skip rl hF
   u_c stepG_seq rl hF
   u_reg rl hF
   u_op rl hF
   u_op rl hF
   u_op rl hF
   u_op rl hF
   refine Goes.stop (fun w₃ h₁=>?_)
   replace hF:=rl hF h₁
   clear h₁
   refine ⟨rfl,rfl,fun ⟨st,hw⟩=>stepG_semacquire_wait rfl rfl rfl H.f_semacquire (x_semacquire_n L) (x_semacquire_b L) (x_semacquire_x L) (x_semacquire_f L) (by simp [Act.eval,smA]) hw.cellSm,fun hf=>?_⟩
   refine ⟨_,(stepG_semacquire (n:=1) rfl rfl (by k_ne) rfl H.f_semacquire (x_semacquire_n L) (x_semacquire_b L) (x_semacquire_x L) (x_semacquire_f L) (by simp [Act.eval,smA]) hf.cellSm (by k_ne) (hf.thaw 1)).trans (by rfl),150,?_⟩
   replace hF:WgLive L.tWg Wg (w₃.setCell (smA Wg) (.int .u32 0)):=⟨_,_,hf.setSm 0⟩
   clear hf
   walk_nrm
   u_c stepG_region_end rl hF
   u_c stepG_seq rl hF
   u_reg rl hF
   u_op rl hF
   u_op rl hF
   u_op rl hF
   u_call H.f_uLoad (nm_uLoad L) uLoadFn rl hF
   u_c stepG_seq rl hF
   u_reg rl hF
   u_op rl hF
   u_c stepG_region_end rl hF
   u_c stepG_seq rl hF
   u_reg rl hF
   u_op rl hF
   u_op rl hF
   u_op rl hF
   refine Goes.stop (fun w₄ h₁=>?_)
   replace hF:=rl hF h₁
   clear h₁
   refine ⟨rfl,fun hw=>⟨_,stepG_load_atomic (v:=0) rfl rfl (by k_ne) rfl H.f_loadU64 (x_loadU64_n L) (x_loadU64_b L) (x_loadU64_x L) .u64 (x_loadU64_f L) rfl hw.cellSt,150,?_⟩⟩
   clear hw
   walk_nrm
   u_op rl hF
   u_c stepG_region_end rl hF
   u_c stepG_ret' rl hF
   u_leave1 H.f_uLoad rl hF
   u_op rl hF
   u_op rl hF
   u_c stepG_region_end rl hF
   u_c stepG_seq rl hF
   u_cond true rl hF
   u_c stepG_seq rl hF
   u_reg rl hF
   refine Goes.stop (fun w₅ h₁=>?_)
   replace hF:=rl hF h₁
   clear h₁
   refine ⟨rfl,_,stepG_mark0 .enable (by simp) rfl rfl (by k_ne) rfl H.f_enable (x_enable_n L) (x_enable_b L) (x_enable_x L) (x_enable_f L),150,?_⟩
   walk_nrm
   u_c stepG_region_end rl hF
   u_reg rl hF
   u_op rl hF
   u_conv H.underlying_tWgP H.room_tWg (WgLive.cell0 hF).choose_spec rl hF
   refine Goes.stop (fun w₆ h₁=>?_)
   replace hF:=rl hF h₁
   clear h₁
   refine ⟨rfl,_,stepG_markAt .acquire (by simp) rfl rfl (by k_ne) rfl H.f_acquire (x_acquire_n L) (x_acquire_b L) (x_acquire_x L) (x_acquire_f L) (by simp [Act.eval,stA]),150,?_⟩
   walk_nrm
   u_c stepG_region_end rl hF
   u_c stepG_seq rl hF
   u_c stepG_seq rl hF
   u_reg rl hF
   u_op rl hF
   u_c stepG_region_end rl hF
   u_cond false rl hF
   u_c stepG_skip rl hF
   u_c stepG_ret' rl hF
   u_leave0 H.f_wait rl hF
   exact Goes.stop fun _ _=>rfl
  ·refine ⟨_,stepG_cas_miss (v:=(v':Int)*KK) (old:=S) (n:=S+1) rfl rfl (by k_ne) rfl H.f_casU64 (x_casU64_n L) (x_casU64_b L) (x_casU64_x L) .u64 (x_casU64_f L) rfl rfl rfl hw.cellSt (hw.thaw 0) (by rw [<- hS];simp only [KK];omega),150,?_⟩
   clear hw
   walk_nrm
   u_op rl hF
   u_c stepG_region_end rl hF
   u_c stepG_ret' rl hF
   u_leave1 H.f_uCas rl hF
   u_c stepG_region_end rl hF
   u_cnd false rl hF
   u_c stepG_skip rl hF
   u_c stepG_inBlock rl hF
   u_c stepG_inLoop rl hF
   refine Goes.stop (fun w₃ h₃=>?_)
   replace hF:=rl hF h₃
   exact ⟨_,rfl,by simp,by simp,trivial,hF⟩
open Go.Iso Go.Conc Go.ConcN Go.Conc.Lib Go.ConcR.Gen Go.ConcN.Gen
open Go.ConcR (KK WgAt stA smA rd wr mk DC0 Bk)
theorem pz (p v:Value) (L:WgLink):(#[p,v]++Array.replicate ((addFn L).ntmps - (#[p,v]:Array Value).size) undef:Array Value)=#[p,v,undef,undef,undef,undef,undef,undef,undef,undef,undef,undef,undef,undef,undef,undef,undef,undef,undef,undef,undef,undef,undef,undef,undef,undef,undef,undef,undef,undef,undef,undef,undef,undef,undef,undef,undef,undef,undef,undef,undef,undef,undef,undef,undef,undef,undef,undef,undef,undef,undef,undef,undef,undef,undef,undef,undef,undef,undef,undef,undef,undef,undef,undef,undef,undef,undef,undef,undef,undef,undef,undef,undef,undef,undef,undef,undef,undef,undef,undef,undef,undef,undef,undef,undef,undef,undef,undef,undef,undef,undef,undef,undef,undef,undef,undef,undef,undef,undef,undef,undef,undef,undef,undef,undef,undef,undef,undef,undef,undef,undef,undef,undef,undef,undef,undef,undef]:=by walk_nrmf addFn
theorem nN (p:Value) (L:WgLink):(#[p]++Array.replicate ((waitFn L).ntmps - (#[p]:Array Value).size) undef:Array Value)=#[p,undef,undef,undef,undef,undef,undef,undef,undef,undef,undef,undef,undef,undef,undef,undef,undef,undef,undef,undef,undef,undef,undef,undef,undef,undef,undef,undef,undef,undef,undef,undef,undef,undef,undef,undef,undef,undef,undef,undef,undef,undef,undef,undef,undef,undef,undef,undef,undef,undef,undef,undef,undef,undef,undef,undef,undef,undef,undef,undef,undef,undef,undef,undef,undef,undef,undef,undef,undef,undef,undef,undef,undef,undef,undef,undef,undef,undef,undef,undef,undef,undef,undef,undef]:=by walk_nrmf waitFn
theorem nO (p:Value) (L:WgLink):(#[p]++Array.replicate ((doneFn L).ntmps - (#[p]:Array Value).size) undef:Array Value)=#[p,undef,undef,undef]:=by walk_nrmf doneFn
section
variable {P:Two} {SB BB:FuncId->Bool} {lets:Bool} {Gn:Nat} {H:Hid} {T:List Frame} {β:Bij} {L:WgLink} {Wg:Nat}
def Barred (P:Two) (SB:FuncId->Bool) (lets:Bool) (f:FuncId) (fn:Func):Prop:=∃ c,P.a.funcs[f]?=some fn∧P.b.funcs[f]?=some fn∧fn.body=some c∧codeOk P.a SB lets true c=false
def Det (S:Par) (β:Bij) (v V:Value):Prop:=∀ X,VRel S β v X->X=V
theorem Det.undef {S:Par}:Det S β undef undef:=fun X h=>by
 unfold Go.undef at h ⊢
 cases h with
 | @tuple _ x h1 _ =>
  have:x=#[]:=by simpa using h1.symm
  rw [this]
theorem Det.int {S:Par} (k:IntKind) (n:Int):Det S β (.int k n) (.int k n):=fun X h=>by cases h;rfl
theorem Det.ptr {S:Par} (hf:β.Fine Gn) {b B:Nat} (hb:β b B) (o:Nat) (s:Option Nat):Det S β (.pointer (some ⟨b,o,s⟩)) (.pointer (some ⟨B,o,s⟩)):=fun X h=>by
 cases h with
 | ptr _ _ h=>rw [hf.fn h hb]
theorem fF {f:FuncId} {fn:Func} (hbar:Barred P SB lets f fn) {args args':Array Value} (hs:args.size=args'.size) (hn:args.size<=fn.ntmps) (hd:∀ (i:Nat) (v V:Value),args[i]?=some v->args'[i]?=some V->Det (SP SB H) β v V) {k:CallKind} {F:Frame}
  (h:TopRel P SB H lets BB β (Frame.enter P.a f args k) F):F=Frame.enter P.b f args' k:=by
 obtain ⟨c,h1,h2,h3,h4⟩:=hbar
 generalize hF:Frame.enter P.a f args k=fr at h
 cases h with
 | on h =>
  exfalso
  have ht:=h.todo
  rw [<- hF] at ht
  simp only [Frame.enter,h1,h3,Option.bind_some,Option.getD_some] at ht
  generalize F.todo=X at ht
  cases ht with
  | cons hi _ =>
   cases hi with
   | code hc =>
    simp only [Option.isNone_none] at hc
    rw [h4] at hc;cases hc
 | @stop f' a A k' _ _ _ ha =>
  have e1:f=f':=congrArg Frame.fn hF
  have e2:k=k':=congrArg Frame.kind hF
  subst e1 e2
  have e3:args++Array.replicate (fn.ntmps - args.size) undef=a++Array.replicate (fn.ntmps - a.size) undef:=by
   have:=congrArg Frame.tmps hF
   simpa [Frame.enter,h1] using this
  have e4:A++Array.replicate (fn.ntmps - A.size) undef=args'++Array.replicate (fn.ntmps - args'.size) undef:=by
   have hsz:=congrArg Array.size e3
   simp only [Array.size_append,Array.size_replicate] at hsz
   have hA:=ha.size
   apply Array.ext_getElem?
   intro i
   have e5:(args++Array.replicate (fn.ntmps - args.size) undef)[i]?=(a++Array.replicate (fn.ntmps - a.size) undef)[i]?:=by rw [e3]
   rcases Nat.lt_or_ge i fn.ntmps with hi | hi
   ·rw [Array.getElem?_append,Array.getElem?_append] at e5 ⊢
    have und:∀ (m:Nat),i<m->(Array.replicate m undef)[i]?=some undef:=fun m hm=>by rw [Array.getElem?_replicate,if_pos hm]
    have val:∃ v,(if i<a.size then a[i]? else (Array.replicate (fn.ntmps - a.size) undef)[i - a.size]?)=some v∧∀ X,(if i<A.size then A[i]? else (Array.replicate (fn.ntmps - A.size) undef)[i - A.size]?)=some X->VRel (SP SB H) β v X:=by
     by_cases hia:i<a.size
     ·refine ⟨a[i],by rw [if_pos hia];simp [hia],fun X hX=>?_⟩
      rw [if_pos (by omega)] at hX
      exact ha.at_ i _ X (by simp [hia]) hX
     ·refine ⟨undef,by rw [if_neg hia,Array.getElem?_replicate,if_pos (by omega)],fun X hX=>?_⟩
      rw [if_neg (by omega),Array.getElem?_replicate,if_pos (by omega)] at hX
      cases hX
      exact VRel.undef _ _
    obtain ⟨v,hv,hX⟩:=val
    rw [hv] at e5
    have hAX:∃ X,(if i<A.size then A[i]? else (Array.replicate (fn.ntmps - A.size) undef)[i - A.size]?)=some X:=by
     by_cases hia:i<A.size
     ·exact ⟨A[i],by rw [if_pos hia];simp [hia]⟩
     ·exact ⟨undef,by rw [if_neg hia,Array.getElem?_replicate,if_pos (by omega)]⟩
    obtain ⟨X,hXe⟩:=hAX
    rw [hXe]
    have hr:=hX X hXe
    by_cases hia:i<args.size
    ·rw [if_pos hia] at e5
     rw [if_pos (by omega)]
     have:∃ V,args'[i]?=some V:=⟨args'[i],by simp [show i<args'.size by omega]⟩
     obtain ⟨V,hV⟩:=this
     rw [hV,hd i v V e5 hV X hr]
    ·rw [if_neg hia,Array.getElem?_replicate,if_pos (by omega)] at e5
     rw [if_neg (by omega),Array.getElem?_replicate,if_pos (by omega)]
     have:v=undef:=(Option.some.inj e5).symm
     subst this
     rw [Det.undef X hr]
   ·rw [Array.getElem?_eq_none (by simp;omega),Array.getElem?_eq_none (by simp;omega)]
  simp only [Frame.enter,h2,Option.map_some,Option.getD_some,e4]
theorem caller_of {fr FR:Frame} (h:FrRel P.a SB H lets β fr FR) (hc:dG fr):∃ (b:Frame) (a:Act) (ops:Array Oper) (i:Nat) (rest:List Nat) (k:List Item),FR=b.at a (.inRegion ops (i :: rest) :: k):=by
 obtain ⟨h1,h2,ops,i,rest,k,h3⟩:=hc
 have m:=h.mode
 have r:=h.round
 have t:=h.todo
 rw [h1] at m
 rw [h2] at r
 rw [h3] at t
 obtain ⟨f1,f2,f3,f4,f5,f6,f7⟩:=FR
 dsimp only at m r t
 cases m
 cases r
 cases t with
 | cons hi _ =>
  cases hi
  exact ⟨⟨f1,f2,[],f4,.run,f6,none⟩,⟨f2,f4⟩,ops,i,rest,_,rfl⟩
theorem callers_of {fr:Frame} {cs CS:List Frame} (h:CsRel P.a SB H lets T β (fr :: cs) CS) (hc:dG fr):∃ FR CS',CS=FR :: CS'∧FrRel P.a SB H lets β fr FR∧CsRel P.a SB H lets T β cs CS':=by
 cases h with
 | base =>
  obtain ⟨_,_,_,_,_,_,h3⟩:=hc
  simp [bad] at h3
 | cons h1 h2=>exact ⟨_,_,rfl,h1,h2⟩
theorem fG {g G:Goroutine} (h:GRel P SB H lets BB T β g G):G=Go.Conc.G G.frame G.callers:=by
 obtain ⟨a1,a2,a3,a4,a5⟩:=G
 obtain ⟨_,_,⟨_,s1⟩,⟨_,d1⟩,⟨_,o1⟩⟩:=h
 dsimp only at *
 subst s1 d1 o1
 rfl
theorem gE {x:Lone} {fr FR:Frame} {cs CS:List Frame} (h1:FrRel P.a SB x.H lets x.β fr FR) (h2:CsRel P.a SB x.H lets x.T x.β cs CS):GLike P SB BB lets { x with g:=back fr cs } (Go.Conc.G (FR.finish (.tuple #[])) CS) :=
 ⟨.on (aS h1 (.tuple rfl (by simp))),h2,⟨rfl,rfl⟩,⟨rfl,rfl⟩,⟨rfl,rfl⟩⟩
theorem addIn (W:WgLib P.b L) (hbar:Barred P SB lets L.add (addFn L)) (wl:Nat):AddIn P SB BB lets Gn L.tWg Wg L.add wl T:=by
 intro x G W0 fr cs e hc hT hwl hg hw hlive
 have htop:=hg.top
 have hcs:=hg.callers
 rw [e] at htop hcs
 obtain ⟨FR,CS,eCS,r1,r2⟩:=callers_of hcs hc
 obtain ⟨b,a,ops,i,rest,k,eFR⟩:=caller_of r1 hc
 have eF:G.frame=Frame.enter P.b L.add #[.pointer (some ⟨Wg,0,none⟩),.int .i64 1] .normal:=by
  refine fF (args:=#[wgArg wl,.int .i64 1]) (args':=#[.pointer (some ⟨Wg,0,none⟩),.int .i64 1]) hbar rfl (by simp [addFn]) (fun j v V h1 h2=>?_) htop
  match j,h1,h2 with
  | 0,h1,h2=>cases h1;cases h2;exact .ptr hw.fine hwl 0 none
  | 1,h1,h2=>cases h1;cases h2;exact .int _ _
  | j+2,h1,_=>simp at h1
 refine ⟨Go.Conc.G (FR.finish (.tuple #[])) CS,150,?_,gE r1 r2⟩
 rw [fG hg,eF,eCS,enter_at _ W.f_add (c:=body_add L) rfl,pz,eFR,Frame.finish_at]
 exact addPos W (b₀:=b) (a₀:=a) (k₀:=k) W0 hlive
theorem rY (W:WgLib P.b L) (hbar:Barred P SB lets L.wait (waitFn L)) (wl:Nat):ia P SB BB lets Gn L.tWg Wg L.wait wl T:=by
 intro x G W0 fr cs e hc hT hwl hg hw hlive
 have htop:=hg.top
 have hcs:=hg.callers
 rw [e] at htop hcs
 obtain ⟨FR,CS,eCS,r1,r2⟩:=callers_of hcs hc
 obtain ⟨b,a,ops,i,rest,k,eFR⟩:=caller_of r1 hc
 have eF:G.frame=Frame.enter P.b L.wait #[.pointer (some ⟨Wg,0,none⟩)] .normal:=by
  refine fF (args:=#[wgArg wl]) (args':=#[.pointer (some ⟨Wg,0,none⟩)]) hbar rfl (by simp [waitFn]) (fun j v V h1 h2=>?_) htop
  match j,h1,h2 with
  | 0,h1,h2=>cases h1;cases h2;exact .ptr hw.fine hwl 0 none
  | j+1,h1,_=>simp at h1
 refine ⟨Go.Conc.G (FR.finish (.tuple #[])) CS,150,AnchWN L (fun _=>True) Wg FR CS,?_,fun g w hA=>?_,gE r1 r2⟩
 ·rw [fG hg,eF,eCS,enter_at _ W.f_wait (c:=body_wait L) rfl,nN,eFR]
  exact waitStart W (b₀:=b) (a₀:=a) (k₀:=k) W0 hlive
 ·rw [eFR] at hA ⊢
  rw [Frame.finish_at]
  refine ⟨?_,_,waitRound W g w hA⟩
  obtain ⟨_,rfl,_⟩:=hA
  rfl
theorem rZ (W:WgLib P.b L) (hbar:Barred P SB lets L.done (doneFn L)) {x:Lone} {G:Goroutine} {W0:World} {c:Frame} {cs:List Frame} {wl:Nat} (e:x.g=gor (Frame.enter P.a L.done #[wgArg wl] .deferred) (c :: cs)) (hc:c≠bad) (hwl:x.β wl Wg)
  (hg:GLike P SB BB lets x G) (hw:WLike P SB lets Gn x W0) (hlive:WgLive L.tWg Wg W0) (hQ:∀ C CS,FrRel P.a SB x.H lets x.β c C->CsRel P.a SB x.H lets x.T x.β cs CS->C.mode=.returning∧∃ q,QuitsD P.b q 0 (Go.Conc.G C CS)) :
  ∃ m,GW P.b L.tWg Wg false (R0 P.b L.tWg Wg) m G W0:=by
 have htop:=hg.top
 have hcs:=hg.callers
 rw [e] at htop hcs
 have:∃ C CS,G.callers=C :: CS∧FrRel P.a SB x.H lets x.β c C∧CsRel P.a SB x.H lets x.T x.β cs CS:=by
  generalize G.callers=X at hcs
  cases hcs with
  | base=>exact absurd rfl hc
  | cons h1 h2=>exact ⟨_,_,rfl,h1,h2⟩
 obtain ⟨C,CS,eCS,r1,r2⟩:=this
 have eF:G.frame=Frame.enter P.b L.done #[.pointer (some ⟨Wg,0,none⟩)] .deferred:=by
  refine fF (args:=#[wgArg wl]) (args':=#[.pointer (some ⟨Wg,0,none⟩)]) hbar rfl (by simp [doneFn]) (fun j v V h1 h2=>?_) htop
  match j,h1,h2 with
  | 0,h1,h2=>cases h1;cases h2;exact .ptr hw.fine hwl 0 none
  | j+1,h1,_=>simp at h1
 obtain ⟨hm,q,hq⟩:=hQ C CS r1 r2
 refine ⟨153,?_⟩
 rw [fG hg,eF,eCS,enter_atD _ W.f_done (c:=body_done L) rfl,nO]
 exact done W hm hq W0 hlive
end
open Go.Iso Go.Conc Go.ConcN
def DeadL (Dead:Nat->Prop) (l:Loc):Prop:=∃ a:Addr,l=.cell a∧Dead a.block
structure Btw (P:Program) (Dead:Nat->Prop) (gs:Array Goroutine) (W:World) (t:Trace) (q:Nat->Nat):Prop where
 lv:Leavers P t gs q
 past:Past (DeadL Dead) W.heap.size t
 quiet:Quiet (DeadL Dead) t
 gs_:∀ (i:Nat) (op:MemOp),t[i]?=some op->op.g<gs.size
 low:∀ B,Dead B->B<W.heap.size
section
variable (P:Two) (SB BB:FuncId->Bool) (lets:Bool) (Gn:Nat)
structure Tw (Dead:Nat->Prop) (Kp:Keep) (x:Lone) (a:Goroutine) (W:World):Prop where
 gl:GLike P SB BB lets x a
 wl:WLike P SB lets Gn x W
 tw:x.H.twin=false
 dead:∀ b B,x.β b B->Dead B->x.H b=true
 keep:∀ B,Kp.at_ B->B<W.heap.size∧W.heap[B]?=Kp.w.heap[B]?
 keepx:∀ b B,x.β b B->Kp.at_ B->x.H b=true∨Ro x.w b
end
section
variable {P:Two} {SB BB:FuncId->Bool} {lets:Bool} {Gn:Nat} {Dead:Nat->Prop} {Kp:Keep}
theorem Btw.at {gs:Array Goroutine} {W:World} {t:Trace} {q:Nat->Nat} (h:Btw P.b Dead gs W t q) (d:Nat):Btw P.b Dead gs (W.at d) t q:=⟨h.lv,h.past,h.quiet,h.gs_,h.low⟩
theorem Tw.at {x:Lone} {a:Goroutine} {W:World} (h:Tw P SB BB lets Gn Dead Kp x a W) (d:Nat):Tw P SB BB lets Gn Dead Kp x a (W.at d):=⟨h.gl,h.wl.same rfl rfl h.wl.env,h.tw,h.dead,h.keep,h.keepx⟩
theorem Btw.slip {gs:Array Goroutine} {W:World} {t:Trace} {q:Nat->Nat} (h:Btw P.b Dead gs W t q) {i:Nat} {g a:Goroutine} (hpos:0<i) (hi:gs[i]?=some g) (hrun:g.status=.running) (h0:gs[0]?=some a) (ha:a.status=.running) (sl:Option (Nat×Nat)) :
  ∃ gs' t' q',runT P.b (crowd gs W sl) i=(.next (crowd gs' W sl),t')∧gs'.size=gs.size∧gs'[0]?=some a∧sumTo gs.size q'<sumTo gs.size q∧Btw P.b Dead gs' W (t++t') q':=by
 have hq:=h.lv.old i g hpos hi
 have hi0:(i==0)=false:=by simp;omega
 have hlt:i<gs.size:=(Array.getElem?_eq_some_iff.1 hi).1
 cases hqi:q i with
 | zero=>rw [hqi] at hq;rw [hq.1] at hrun;cases hrun
 | succ k =>
  rw [hqi] at hq
  rcases hq with ⟨hf,_⟩ | ⟨_,g',es,hm,hstp,hq'⟩
  ·rw [hf] at hrun;cases hrun
  have hrunT:=runT_crowd_go (P:=P.b) (sl:=sl) (i:=i) hi (by rw [hi0];exact hstp W)
  have hsum:sumTo gs.size (upd q i k)+(k+1)=sumTo gs.size q+k:=by
   have:=sumTo_upd q k id hlt
   simpa [hqi] using this
  have hge:∀ op∈MemOp.ofEvents i g.frame.fn g.frame.place es,op.g=i:=fun op hop=>by obtain ⟨e,_,rfl⟩:=Go.Conc.mem_ofEvents hop;rfl
  refine ⟨_,_,upd q i k,hrunT,by simp,?_,by omega,⟨fun j x hj hx=>?_,fun j hj=>?_⟩,h.past.mute (by omega) hm,h.quiet.app fun op hop x hx hs=>?_,fun j op hop=>?_,h.low⟩
  ·have hne:i≠0:=by omega
   rw [Array.getElem?_setIfInBounds_ne hne,Array.getElem?_map,h0]
   simp [woken_run ha]
  ·by_cases hji:i=j
   ·subst hji
    rw [Array.getElem?_setIfInBounds_self_of_lt (by simpa using hlt)] at hx
    obtain rfl:=Option.some.inj hx
    rw [upd_same,Deaf_own]
    exact hq'
   ·rw [Array.getElem?_setIfInBounds_ne hji,Array.getElem?_map] at hx
    obtain ⟨y,hy,rfl⟩:=Option.map_eq_some_iff.1 hx
    have hqj:=h.lv.old j y hj hy
    rw [woken_quitsD hqj,upd_ne q k (Ne.symm hji),Deaf_other t hji _ hge]
    exact hqj
  ·rw [Deaf_other t (g':=i) (by simp at hj;omega) _ hge]
   exact h.lv.above j (by simpa using hj)
  ·obtain ⟨e,he,rfl⟩:=Go.Conc.mem_ofEvents hop
   rw [touch_mute (hm e he)] at hx;cases hx
  ·rcases getElem?_append_cases hop with ⟨_,hop'⟩ | ⟨_,hopu⟩
   ·simpa using h.gs_ j op hop'
   ·rw [hge op hopu];simpa using hlt
theorem Btw.fin {gs:Array Goroutine} {W W':World} {t:Trace} {q:Nat->Nat} (h:Btw P.b Dead gs W t q) {x:Lone} {a g2:Goroutine} {β':Bij} {w':World} {ES:Array Event} (htw:x.H.twin=false) (hdead:∀ b B,x.β b B->Dead B->x.H b=true)
  (h0:gs[0]?=some a) (e3:stepG P.b true a W=.go g2 W' ES) (f:FinOf P SB lets Gn x W β' w' W' ES.toList) (sl:Option (Nat×Nat)) :
  ∃ gs' t',runT P.b (crowd gs W sl) 0=(.next (crowd gs' W' sl),t')∧gs'.size=gs.size∧gs'[0]?=some g2∧Btw P.b Dead gs' W' (t++t') q:=by
 have hES:ES.toList.toArray=ES:=by simp
 have hmk:=bU f htw
 rw [hES] at hmk
 have hlow:=dj f htw (k:=0) (fn:=a.frame.fn) (pos:=a.frame.place)
 rw [hES] at hlow
 have hge:∀ op∈MemOp.ofEvents 0 a.frame.fn a.frame.place ES,op.g=0:=fun op hop=>by obtain ⟨e,_,rfl⟩:=Go.Conc.mem_ofEvents hop;rfl
 have old:∀ b B,β' b B->B<W.heap.size->x.β b B:=fun b B hb hB=>(f.new b B hb).elim id fun h=>absurd h.2 (Nat.not_le.2 hB)
 have dead':∀ b B,β' b B->Dead B->x.H b=true:=fun b B hb hd=>hdead b B (old b B hb (h.low B hd)) hd
 have notDead:∀ e∈ES,∀ z,(MemAct.ofEvent e).touch?=some z->¬ DeadL Dead z.loc:=by
  intro e he z hz ⟨b,hb,hd⟩
  have hE:=f.evs htw e (by simpa using he)
  cases hE with
  | @cell a A wr sy hab _ hc _ =>
   have:z.loc=.cell A:=by simp [MemAct.ofEvent,MemAct.touch?] at hz;subst hz;rfl
   rw [this] at hb
   cases hb
   obtain ⟨n,hn,_⟩:=hc
   have:=(f.rel.hids _ _ hab (dead' _ _ hab hd)).1
   rw [this] at hn
   simp [kindOf] at hn
  | @obj r R wr sy _ _ =>
   have:z.loc=.obj R:=by cases wr<;>cases sy<;>simp [MemAct.ofEvent,MemAct.touch?] at hz<;>subst hz<;>rfl
   rw [this] at hb;cases hb
  | mark hm=>cases hm<;>simp [MemAct.ofEvent,MemAct.touch?] at hz
  | out =>
   have:z.loc=.output:=by simp [MemAct.ofEvent,MemAct.touch?] at hz;subst hz;rfl
   rw [this] at hb;cases hb
 have hlt:0<gs.size:=(Array.getElem?_eq_some_iff.1 h0).1
 refine ⟨_,_,runT_crowd_go (P:=P.b) (sl:=sl) (i:=0) h0 (by simpa using e3),by simp,by simp [hlt],
  ⟨⟨fun j y hj hy=>?_,fun j hj=>?_⟩,(h.past.mono f.SIZE).own fun e he=>⟨fun z hz hs=>absurd hs (notDead e he z hz),(hmk e he).1,(hmk e he).2.1,?_⟩,h.quiet.app fun op hop z hz hs=>?_,fun j op hop=>?_,fun B hB=>Nat.lt_of_lt_of_le (h.low B hB) f.SIZE⟩⟩
 ·have hne:0≠j:=by omega
  rw [Array.getElem?_setIfInBounds_ne hne,Array.getElem?_map] at hy
  obtain ⟨z,hz,rfl⟩:=Option.map_eq_some_iff.1 hy
  have hqj:=h.lv.old j z hj hz
  rw [woken_quitsD hqj,Deaf_other t (by omega) _ hge]
  exact hqj
 ·rw [Deaf_other t (g':=0) (by simp at hj;omega) _ hge]
  exact h.lv.above j (by simpa using hj)
 ·exact hlow { g:=0,fn:=a.frame.fn,pos:=a.frame.place,act:=.ofEvent e } (by rw [ofEvents_eq];exact Array.mem_map.2 ⟨e,he,rfl⟩)
 ·obtain ⟨e,he,rfl⟩:=Go.Conc.mem_ofEvents hop
  exact absurd hs (notDead e he z hz)
 ·rcases getElem?_append_cases hop with ⟨_,hop'⟩ | ⟨_,hopu⟩
  ·simpa using h.gs_ j op hop'
  ·rw [hge op hopu];simpa using hlt
theorem keep_fin {x:Lone} {W W':World} {β':Bij} {w':World} {ES:List Event} (f:FinOf P SB lets Gn x W β' w' W' ES) (keep:∀ B,Kp.at_ B->B<W.heap.size∧W.heap[B]?=Kp.w.heap[B]?) (keepx:∀ b B,x.β b B->Kp.at_ B->x.H b=true∨Ro x.w b) :
  (∀ B,Kp.at_ B->B<W'.heap.size∧W'.heap[B]?=Kp.w.heap[B]?)∧∀ b B,β' b B->Kp.at_ B->x.H b=true∨Ro w' b:=by
 refine ⟨fun B hB=>?_,fun b B hb hB=>?_⟩
 ·obtain ⟨k1,k3⟩:=keep B hB
  refine ⟨Nat.lt_of_lt_of_le k1 f.SIZE,?_⟩
  rw [<- k3]
  by_cases hx:∃ b,x.β b B
  ·obtain ⟨b,hb⟩:=hx
   rcases keepx b B hb hB with h | ⟨cs,ty,z,q1,q2⟩
   ·exact f.hk b B hb h
   ·exact (f.ro b B cs ty z hb q1 q2).2
  ·exact f.KEPT B k1 fun b hb=>hx ⟨b,hb⟩
 ·have h0:x.β b B:=(f.new b B hb).elim id fun h=>absurd h.2 (Nat.not_le.2 (keep B hB).1)
  exact (keepx b B h0 hB).imp id fun h=>h.kept f h0
theorem Btw.tree (lib:∀ H,Lib P SB H lets BB Gn) {gs:Array Goroutine} {W:World} {t:Trace} {q:Nat->Nat} (h:Btw P.b Dead gs W t q) {x:Lone} {a:Goroutine} (ht:Tw P SB BB lets Gn Dead Kp x a W) (h0:gs[0]?=some a) {Q:Goroutine->World->Prop} (hr:Runs P.a (Fine P.a BB) Q x.g x.w) (hq:¬ Q x.g x.w) (sl:Option (Nat×Nat)) :
  ∃ gs' W' t' x' a',runT P.b (crowd gs W sl) 0=(.next (crowd gs' W' sl),t')∧gs'.size=gs.size∧gs'[0]?=some a'∧Btw P.b Dead gs' W' (t++t') q∧Tw P SB BB lets Gn Dead Kp x' a' W'∧Runs P.a (Fine P.a BB) Q x'.g x'.w∧After P.a (x'.g,x'.w) (x.g,x.w)∧x'.H=x.H∧x'.T=x.T∧x.β.le x'.β∧(W'.os=W.os∧W'.output=W.output)∧W.heap.size<=W'.heap.size∧x.w.heap.size<=x'.w.heap.size∧∀ b B,x'.β b B->x.β b B∨(x.w.heap.size<=b∧W.heap.size<=B):=by
 obtain ⟨g',w',es,β',g2,W',ES,e1,e2,e3,e4,e5⟩:=Iso.follow (lib x.H) (main2:=true) hr hq ht.gl ht.wl
 have f:FinOf P SB lets Gn x W β' w' W' ES.toList:=e5
 obtain ⟨gs',t',k1,k2,k3,k4⟩:=h.fin ht.tw ht.dead h0 e3 f sl
 obtain ⟨k5,k6⟩:=keep_fin f ht.keep ht.keepx
 have dead':∀ b B,β' b B->Dead B->x.H b=true:=fun b B hb hd=>(f.new b B hb).elim (fun h1=>ht.dead b B h1 hd) fun h1=>absurd h1.2 (Nat.not_le.2 (h.low B hd))
 exact ⟨gs',W',t',⟨g',w',x.H,β',x.T⟩,g2,k1,k2,k3,k4,⟨e4,f.rel,ht.tw,dead',k5,k6⟩,e2,⟨W.tape,W.drawn,es,e1,e4.callers.ne⟩,rfl,rfl,f.le,⟨f.OS,f.OUT⟩,f.SIZE,f.size,f.new⟩
theorem tree_beside (lib:∀ H,Lib P SB H lets BB Gn) {H:Hid} {T:List Frame} {β:Bij} {Q:Goroutine->World->Prop} {os:Os} {ou:World} {n b0 B0:Nat}:∀ (μ:Wm×Nat) (m:Machine) (t:Trace),
  (∃ gs W sl q x a,m=crowd gs W sl∧gs[0]?=some a∧gs.size=n∧Btw P.b Dead gs W t q∧Tw P SB BB lets Gn Dead Kp x a W∧Runs P.a (Fine P.a BB) Q x.g x.w∧x.H=H∧x.T=T∧β.le x.β∧(W.os=os∧W.output=ou.output)∧(B0<=W.heap.size∧b0<=x.w.heap.size∧∀ b B,x.β b B->β b B∨(b0<=b∧B0<=B))∧μ=(.tree Q (x.g,x.w),sumTo n q)) ->
  ∃ N m' t',runNT P.b N m t=(.next m',t')∧∃ gs W sl q x a,m'=crowd gs W sl∧gs[0]?=some a∧gs.size=n∧Btw P.b Dead gs W t' q∧Tw P SB BB lets Gn Dead Kp x a W∧Q x.g x.w∧x.H=H∧x.T=T∧β.le x.β∧(W.os=os∧W.output=ou.output)∧(B0<=W.heap.size∧b0<=x.w.heap.size∧∀ b B,x.β b B->β b B∨(b0<=b∧B0<=B)):=by
 have wf:WellFounded (Prod.Lex (WltA P.a) (·<·:Nat->Nat->Prop)):=(Prod.lex ⟨_,WltA.wf P.a⟩ Nat.lt_wfRel).wf
 refine hP (P:=P.b) wf (fun μ m t=>∃ gs W sl q x a,m=crowd gs W sl∧gs[0]?=some a∧gs.size=n∧Btw P.b Dead gs W t q∧Tw P SB BB lets Gn Dead Kp x a W∧Runs P.a (Fine P.a BB) Q x.g x.w∧x.H=H∧x.T=T∧β.le x.β∧(W.os=os∧W.output=ou.output)∧(B0<=W.heap.size∧b0<=x.w.heap.size∧∀ b B,x.β b B->β b B∨(b0<=b∧B0<=B))∧μ=(.tree Q (x.g,x.w),sumTo n q))
  (fun m t=>∃ gs W sl q x a,m=crowd gs W sl∧gs[0]?=some a∧gs.size=n∧Btw P.b Dead gs W t q∧Tw P SB BB lets Gn Dead Kp x a W∧Q x.g x.w∧x.H=H∧x.T=T∧β.le x.β∧(W.os=os∧W.output=ou.output)∧(B0<=W.heap.size∧b0<=x.w.heap.size∧∀ b B,x.β b B->β b B∨(b0<=b∧B0<=B))) ?_
 rintro μ m t ⟨gs,W,sl,q,x,a,rfl,h0,hn,hb,ht,hr,eH,eT,hle,hos,hsz,rfl⟩
 by_cases hq:Q x.g x.w
 ·exact .inl ⟨gs,W,sl,q,x,a,rfl,h0,hn,hb,ht,hq,eH,eT,hle,hos,hsz⟩
 refine .inr ?_
 have harun:a.status=.running:=ht.gl.status.2
 have haw:∀ g∈gs,awake g:=by
  intro g hg
  obtain ⟨i,hi,rfl⟩:=Array.mem_iff_getElem.1 hg
  rcases Nat.eq_zero_or_pos i with rfl | hpos
  ·have:gs[0]=a:=by simpa [Array.getElem?_eq_getElem hi] using h0
   rw [this];exact awake_of (.inl harun)
  ·exact awake_of ((hb.lv.old i _ hpos (Array.getElem?_eq_getElem hi)).status.elim .inl fun x=>.inr (.inr x))
 obtain ⟨i,g,d,sl',hi,hg,hst⟩:=crowd_pick (P:=P.b) (w:=W) (sl:=sl) haw ⟨0,a,h0,harun⟩
 rcases Nat.eq_zero_or_pos i with rfl | hpos
 ·obtain ⟨gs',W',t',x',a',k1,k2,k3,k4,k5,k6,k7,k8,k9,k10,k11,k12,k13,k14⟩:=(hb.at d).tree lib (ht.at d) h0 hr hq sl'
  exact ⟨_,_,(.tree Q (x'.g,x'.w),sumTo n q),by rw [hst,k1],Prod.Lex.left _ _ ⟨.tree hq k7,Wlt.accTree (KTr.of hr)⟩,gs',W',sl',q,x',a',rfl,k3,k2.trans hn,k4,k5,k6,k8.trans eH,k9.trans eT,Bij.le_trans hle k10,⟨k11.1.trans hos.1,k11.2.trans hos.2⟩,⟨Nat.le_trans hsz.1 k12,Nat.le_trans hsz.2.1 k13,fun b B hb=>(k14 b B hb).elim (hsz.2.2 b B) fun h=>.inr ⟨Nat.le_trans hsz.2.1 h.1,Nat.le_trans hsz.1 h.2⟩⟩,rfl⟩
 ·obtain ⟨gs',t',q',k1,k2,k3,k4,k5⟩:=(hb.at d).slip hpos hi hg h0 harun sl'
  exact ⟨_,_,(.tree Q (x.g,x.w),sumTo n q'),by rw [hst,k1],Prod.Lex.right _ (by rw [<- hn];exact k4),gs',W.at d,sl',q',x,a,rfl,k3,k2.trans hn,k5,ht.at d,hr,eH,eT,hle,hos,hsz,rfl⟩
end
open Go.Iso Go.Conc Go.ConcN
open Go.ConcR (KK WgAt stA smA rd wr mk DC0 Bk)
section
variable {P:Two} {SB BB:FuncId->Bool} {lets:Bool} {Gn:Nat} {ty Wg:Nat} {Dead Toy:Nat->Prop} {Kp:Keep} {Ψ0 Ψ2:World->Prop} {fA fW:FuncId} {wl:Nat} {Pr:Bij} {T:List Frame} {Fn:Bool->Hid->Goroutine->World->Prop}
theorem pA {j:Nat} {f:Nat->Nat} (h:∀ i,i<j->f i=0):sumTo j f=0:=by
 induction j with
 | zero=>rfl
 | succ j ih=>simp only [sumTo];rw [ih fun i hi=>h i (by omega),h j (by omega)]
theorem begin_group {gs:Array Goroutine} {W:World} {t:Trace} {q:Nat->Nat} {sl:Option (Nat×Nat)} {x:Lone} {a:Goroutine} {tp:Bool} {k:Nat}
    (lv:Leavers P.b t gs q) (past:Past (DeadL Dead) Wg t) (quiet:Quiet (DeadL Dead) t) (hgs:∀ (i:Nat) (op:MemOp),t[i]?=some op->op.g<gs.size) (hdead:∀ B,Dead B->B<Wg) (hwg:WgAt ty Wg W 0 0) (h0:gs[0]?=some a)
    (hgl:GLike P SB BB lets x a) (hwl:WLike P SB lets Gn x W) (htw:x.H.twin=false) (hT:x.T=T) (hb:Pr.le x.β) (hhid:∀ b,x.β b Wg->x.H b=true) (hnd:∀ b B,x.β b B->¬ Dead B) (htoy:∀ b B,x.β b B->Toy B->x.H b=true)
    (toyW:∀ B,Toy B->(B≠Wg∧¬ Dead B)∧¬ Kp.at_ B∧B<W.heap.size) (keep:∀ B,Kp.at_ B->B<W.heap.size∧B≠Wg∧W.heap[B]?=Kp.w.heap[B]?) (keepx:∀ b B,x.β b B->Kp.at_ B->x.H b=true∨Ro x.w b)
    (hos:W.os=Kp.w.os∧W.output=Kp.w.output) (hΨ:(tp=true->Ψ0 W)∧(tp=false->Ψ2 W)) (hscr:ScrR P SB BB lets Gn ty Wg Toy Ψ0 Ψ2 fA fW wl Pr T Fn k tp x.H x.g x.w) (hbd:gs.size+k<=Kp.bd∧Kp.bd<=2147483647) :
    ∃ μ,MInv P SB BB lets Gn ty Wg Dead Toy Kp Ψ0 Ψ2 fA fW wl Pr T Fn (gs.size - 1) μ (crowd gs W sl) t:=by
  have hgp:0<gs.size:=(Array.getElem?_eq_some_iff.1 h0).1
  have hWg:Wg<W.heap.size:=(Array.getElem?_eq_some_iff.1 hwg).1
  obtain ⟨j,hj⟩:∃ j,gs.size=j+1:=⟨gs.size - 1,by omega⟩
  rw [show gs.size - 1=j by omega]
  obtain ⟨ts,hts⟩:∃ ts:TS,ts=if tp then .start else .done:=⟨_,rfl⟩
  have htp:ts.tp=tp:=by rw [hts];cases tp<;>rfl
  have noWg:∀ (i:Nat) (y:Touch),touchAt t i=some y->∀ b:Addr,y.loc=.cell b->b.block≠Wg:=by
    intro i y hy b hb e
    obtain ⟨op,hop,hoy⟩:=touch_of hy
    have hlo:=past.seen op (Array.mem_of_getElem? hop)
    have key:∀ (act:MemAct) (y:Touch),act.touch?=some y->act.low Wg->y.loc=.cell b->False:=by
      intro act y hy hlo hb
      cases act with
      | access ev =>
        simp only [MemAct.touch?,Option.some.injEq] at hy
        subst hy
        obtain ⟨loc,wr,sy⟩:=ev
        simp only at hb
        subst hb
        simp only [MemAct.low,Loc.low] at hlo
        omega
      | mark m =>
        cases m<;>simp [MemAct.touch?] at hy
        all_goals
          subst hy
          simp only [Loc.cell.injEq] at hb
          subst hb
          simp only [MemAct.low] at hlo
          omega
      | _=>simp [MemAct.touch?] at hy
    exact key op.act y hoy hlo hb
  let L:Nat->Option Lone:=put (fun _=>none) 0 (some x)
  have getL:∀ {i y},L i=some y->i=0∧y=x:=fun {i y} e=>by
    by_cases e':i=0
    · subst e';simp only [L,put_same,Option.some.injEq] at e;exact ⟨rfl,e.symm⟩
    · simp only [L,put_ne _ _ e'] at e;cases e
  have rdx:∀ k l,RdA Toy L ts.tp k l->k=0∧l.isMemory=true∧¬ DeadL Dead l:=by
    rintro k l (⟨y,hy,b,B,h1,h2,h4⟩ | ⟨h1,_,B,h2,h4⟩)
    · obtain ⟨rfl,rfl⟩:=getL hy
      refine ⟨rfl,inBlock_mem h4,?_⟩
      rintro ⟨c,rfl,hd⟩
      have e:c.block=B:=h4
      exact hnd b B h1 (e▸hd)
    · refine ⟨h1,inBlock_mem h4,?_⟩
      rintro ⟨c,rfl,hd⟩
      have e:c.block=B:=h4
      exact (toyW B h2).1.2 (e▸hd)
  let D:Nat->WD:=fun i=>⟨1,0,Deaf t (i+1)⟩
  have hV:Vc j D=0:=pA fun i _=>rfl
  refine ⟨((k,9,.tree (ScrQ P SB BB lets Gn ty Wg Toy Ψ0 Ψ2 fA fW wl Pr T Fn k tp x.H) (x.g,x.w)),(List.range j).map (fun i=>Wm.st 1 (q (i+1))),(0,0)),j,gs,W,sl,D,fun i=>.st 1 (q (i+1)),fun _=>false,L,ts,fun _=>0,0,0,.sp 0 5,0,fun _=>0,0,x,a,rfl,
    ⟨⟨hj,fun i hi=>?_,⟨fun i y hy=>?_,fun i y hy=>?_,fun i y hy=>?_,fun i y hy=>?_,fun i y hy _=>?_,fun i i' y y' hne hy hy'=>?_,⟨hWg,fun B hB=>Nat.lt_trans (hdead B hB) hWg,fun B hB=>(toyW B hB).2.2⟩,fun B hB=>(toyW B hB).1,keep,fun i y hy=>?_,fun B hB=>(toyW B hB).2.1,hos⟩,?_,fun op hop=>?_,fun i hi=>rfl,fun i hi h2=>by omega,hwg,fun i _ h=>(by cases h),fun k h=>?_,⟨fun h=>hΨ.1 ?_,fun h=>hΨ.2 ?_⟩,fun i hi=>put_ne _ _ (by omega),fun i _=>rfl,Nat.le_refl _⟩,
      by rw [htp];exact .free hscr hb hT hgl,put_same _ _ _,h0,past.hears,?_,fun e=>by simp at e,by simp only;omega⟩,by simp⟩
  · have hlt:i+1<gs.size:=by omega
    refine ⟨gs[i+1],Array.getElem?_eq_getElem hlt,?_⟩
    have:L (i+1)=none:=put_ne _ _ (by omega)
    rw [this]
    exact .quit (lv.old (i+1) _ (by omega) (Array.getElem?_eq_getElem hlt))
  · obtain ⟨rfl,rfl⟩:=getL hy;exact hwl
  · obtain ⟨rfl,rfl⟩:=getL hy;exact htw
  · obtain ⟨rfl,rfl⟩:=getL hy;exact hhid
  · obtain ⟨rfl,rfl⟩:=getL hy;exact hnd
  · obtain ⟨rfl,rfl⟩:=getL hy;exact htoy
  · obtain ⟨rfl,rfl⟩:=getL hy
    obtain ⟨rfl,rfl⟩:=getL hy'
    exact absurd rfl hne
  · obtain ⟨rfl,rfl⟩:=getL hy;exact keepx
  · have t0 := Tr.begin (Sh := Shd Dead Wg) (Wr := WrA Toy L ts.tp) (Rd := RdA Toy L ts.tp) (N := j + 1) (Pd := fun _ _ => False) (a := stA Wg) past (fun l hl => by
        obtain ⟨c,rfl,h | h⟩:=hl
        · exact .inl ⟨c,rfl,h⟩
        · exact .inr ⟨c,rfl,by omega⟩) (fun l hl=>by obtain ⟨c,rfl,h⟩:=hl;exact ⟨c,rfl,.inl h⟩) (fun i op y hi hy hs=>by
        obtain ⟨c,hc,h | h⟩:=hs
        · exact quiet i op y hi hy ⟨c,hc,h⟩
        · exact absurd h (noWg i y (by rw [touchAt_of hi];exact hy) c hc)) (Nat.le_refl _) (fun i op hi=>by have:=hgs i op hi;omega) (by omega) (fun k l h=>rdx k l (eJ h)) rdx
    exact t0.repd fun _ _ _ h=>h.elim
  · exact MemAct.low_mono (Nat.le_of_lt hWg) (past.seen op hop)
  · rw [hts] at h;cases tp<;>cases h
  · rw [hts] at h
    cases tp with
    | true=>rfl
    | false=>cases h
  · rw [hts] at h
    cases tp with
    | true=>cases h
    | false=>rfl
  · have:=ConcN.Mode.opn (j:=j) (D:=D) (tag:=.sp 0 5) trivial (fun i _=>.inr (.inr (.inr rfl))) (by simp)
    rw [hV] at this
    simpa [pend] using this
end
open Go.Iso Go.Conc Go.ConcN
def ca (p:Program):Frame:={ (default:Frame) with fn:=p.funcs.size,defers:=[],mode:=.panicking [goexitEntry] }
theorem i7 {p:Program} {f:FuncId} {fn:Func} (hf:p.funcs[f]?=some fn) (hname:(fn.name == "runtime.NumGoroutine")=false) {c:Code} (hb:fn.body=some c) (cc:Array Value) (W:World) :
  stepG p false (born p ⟨.fn (.func f) cc,#[]⟩) W=.go (Go.Conc.G (Frame.enter p f cc .deferred) [ca p]) W #[]:=by
 have h1:¬ fn.name = "runtime.NumGoroutine":=by simpa using hname
 simp [born,stepG,unwind,callDeferred,invoke,callFunc,hf,h1,hb,GStep.after,seen_none,ca,Go.Conc.G]
theorem nP {p:Program} {C:Frame} {fn:Func} (hf:p.funcs[C.fn]?=some fn) (hr:fn.results=#[]) (hm:C.mode=.returning) (hd:C.defers=[]) (hk:C.kind=.deferred):QuitsD p 2 0 (Go.Conc.G C [ca p]):=by
 refine .inr ⟨rfl,Go.Conc.G (ca p) [],#[],by simp,fun w=>?_,.inr ⟨rfl,{ frame:=ca p,callers:=[],status:=.finished,dying:=none },#[],by simp,fun w=>?_,⟨rfl,rfl⟩⟩⟩
 ·obtain ⟨a1,a2,a3,a4,a5,a6,a7⟩:=C
  dsimp only at hf hm hd hk
  subst hm hd hk
  simp [Go.Conc.G,stepG,unwind,hf,results_none hr,events_results_none hr,doReturn,ca,goexitEntry,GStep.after,seen_none]
 ·simp [Go.Conc.G,stepG,unwind,ca,goexitEntry,Frame.catches];rfl
end Go.Co
