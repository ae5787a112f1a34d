/-
  Walks of the laws of search: SearchBounded.
-/
import Derived.Test.YtnifmbbpfdghmaaGreatDoorTj
import Derived.Test.YtnifmbbpfdghmaaGreatDoorTi
import Derived.Test.YtnifmbbpfdghmaaGreatDoorTk
set_option linter.all false
namespace Go.Proofs.YtnifmbbpfdghmaaGreatDoor
open Go.RowKit Go.En
attribute [local irreducible] E EL K Val Enters Rt Calls bodyPost Code.wp RQ
set_option maxHeartbeats 8000000 in
set_option maxRecDepth 8000 in
theorem slaw12_any (d:Dc) (q:Qy) (vd vq:Value) (w:World) (hvd:DcAt w vd d) (hnd:Names d) (hwq:QAt w vq q) (hsz:sizeQ q≤100000000) (hT:Tabs w):Calls Tryz.prog 12 #[vd,vq] w (Rt fun u w'=>u=.bool true∧Ext w w'):=by
  have hdd:=hvd
  obtain⟨sv,tv,nv,rfl,_,_,_⟩:=hvd
  have hqq:=hwq
  obtain⟨kv,rfl,hkv⟩:=hwq
  obtain⟨ka,kc,rfl,_,_,_⟩:=hkv.sl
  refine calls_E (n:=35) (args:=[.agg #[int d.rid,str d.rname,int d.len,int d.day,sv,tv,nv],.agg #[int q.op,int q.role,str q.text,.slice ka q.kids.length kc]]) Tryz.func12 rfl Tryz.ntmps12 (by simp) ?_
  refine E_seq ?_
  refine E_region ?_
  refine EL_box Z Z Z Z (fun bD wD xD hbD rD0=>?_)
  have rD:Row wD bD 28 [int d.rid,str d.rname,int d.len,int d.day,sv,tv,nv]:=rD0
  clear rD0
  have hX:=xD
  refine EL_box Z Z Z Z (fun bQ wQ xQ hbQ rQ0=>?_)
  have rQ:Row wQ bQ 36 [int q.op,int q.role,str q.text,.slice ka q.kids.length kc]:=rQ0
  clear rQ0
  replace rD:=rD.ext xQ
  replace hX:=hX.trans xQ
  (repeat' ((fail_if_success (refine E_seq (x:=(Code.region 3 _ _)) ?_));first|refine eV Z Z (val_loadA Z Z Z rD.at rfl) ?_|refine eV Z Z (val_loadA Z Z Z rQ.at rfl) ?_|(refine EL_call Z Z (entersF Z Z en17) (dlight_any d _ _ (hdd.ext hX) hnd) (fun vC wCd hC=>?_);obtain⟨⟨cd,rfl,hld⟩,xC⟩:=hC;replace rD:=rD.ext xC;replace rQ:=rQ.ext xC;replace hX:=hX.trans xC;clear xC;cases cd)|(refine EL_call Z Z (entersF Z Z en44) (asked44_any q _ _ (hqq.ext hX)) (fun vC wCq hC=>?_);obtain⟨⟨cq,rfl,haq⟩,xC⟩:=hC;replace rD:=rD.ext xC;replace rQ:=rQ.ext xC;replace hX:=hX.trans xC;clear xC;cases cq)|(refine EL_call Z Z (entersF Z Z en39) (sawake_any _ (Tabs.ext hT hX)) (fun vA wA hA=>?_);obtain⟨rfl,xA⟩:=hA)|(refine at_EL ?_;first|refine eN ?_|refine eO Z Z ?_|refine eV Z Z (zA Z Z) ?_|refine eV Z Z (zB Z Z) ?_|refine eV Z Z (zC Z Z Z) ?_|refine eV Z Z (zD Z Z Z) ?_|refine eV Z Z (zE Z Z) ?_)|(refine at_K ?_;first|refine K_then ?_|refine K_then_ret ?_)|(refine at_E ?_;first|refine E_seq ?_|refine E_region ?_|refine E_cond_t Z ?_|refine E_cond_f Z ?_|refine E_skip ?_|refine E_ret ?_)))
  all_goals (first|(exfalso;omega)|skip)
  all_goals first
    | exact ret_1 Z Z ⟨rfl,hX.trans xA⟩
    | skip
  have hd:=hld rfl
  have hok:=(haq rfl).1
  have hfit:=build_fits hd
  have hlk:=build_linked hd
  obtain⟨hb1,_⟩:=bound_len hd hlk _ q (Nat.lt_succ_self _) hok hsz
  have hri:=evF_rise (m:=matchF) hd q
  obtain⟨xs,hxs⟩:∃ xs,xs=(Ix.buildF d.tiers d.notes):=⟨_,rfl⟩
  rw [← hxs] at hfit hlk hb1
  refine E.sub (M:=[(2,.pointer (some ⟨bD,0,none⟩)),(3,.pointer (some ⟨bQ,0,none⟩))]) ⟨rfl,rfl,trivial⟩ ?_
  (repeat' (first|refine eV Z Z (val_loadA Z Z Z rD.at rfl) ?_|(refine EL_call Z Z (entersF Z Z en48) (Ix.rbuild_any d _ _ (hdd.ext hX) (light_tierIn hd) (light_few hd)) (fun vB wB hB=>?_);obtain⟨xC,s,rfl,sX⟩:=hB;replace rD:=rD.ext xC;replace rQ:=rQ.ext xC;replace hX:=hX.trans xC;clear xC;rw [← hxs] at sX;obtain⟨sa,sc,rfl,_,_,_⟩:=sX.sl)|(refine at_E ?_;first|refine E_seq ?_|refine E_region ?_)))
  refine EL_alloc Z Z Z (fun bX wX xX hbX rX0=>?_)
  refine EL_storeP (cs:=[.slice sa xs.length sc]) rX0 xX (by omega) Z Z Z Z Z Z Z Z (Nat.le_refl _) (fun wY rX1 xY kY=>?_)
  have rX:Row wY bX 49 [.slice sa xs.length sc]:=rX1
  clear rX0 rX1 kY
  replace rD:=rD.ext xY
  replace rQ:=rQ.ext xY
  replace hX:=hX.trans xY
  replace sX:=sX.ext xY
  (repeat' (first|refine eV Z Z (val_loadA (cs:=[.slice sa xs.length sc]) Z Z Z rX.at rfl) ?_|refine eV Z Z (val_loadA Z Z Z rD.at rfl) ?_|refine eV Z Z (val_loadA Z Z Z rQ.at rfl) ?_|(refine EL_call Z Z (entersF Z Z en47) (run47_any hd hfit hlk q hok _ _ _ _ sX (hdd.ext hX) (hqq.ext hX) (Tabs.ext hT hX)) (fun vL wL hL=>?_);obtain⟨xC,sL⟩:=hL;replace rX:=rX.ext xC;replace sX:=sX.ext xC;replace rD:=rD.ext xC;replace rQ:=rQ.ext xC;replace hX:=hX.trans xC;clear xC;obtain⟨la,lc,rfl,_,_,_⟩:=sL.sl)|(refine EL_call Z Z (entersF Z Z en45) (bound45_any hfit q hok _ _ _ sX (hqq.ext hX) (Tabs.ext hT hX)) (fun vM wM hM=>?_);obtain⟨rfl,xC⟩:=hM;replace sL:=SlG.ext sL xC;replace rD:=rD.ext xC;replace rQ:=rQ.ext xC;replace hX:=hX.trans xC;clear xC)|(refine EL_call Z Z (entersF Z Z en53) (up53_any _ _ _ (SlG.any sL) hri) (fun vU wU hU=>?_);obtain⟨rfl,xC⟩:=hU;replace rD:=rD.ext xC;replace rQ:=rQ.ext xC;replace hX:=hX.trans xC;clear xC)|(refine EL_call Z Z (entersF Z Z en39) (sawake_any _ (Tabs.ext hT hX)) (fun vA wA hA=>?_);obtain⟨rfl,xA⟩:=hA)|(refine at_EL ?_;first|refine eN ?_|refine eO Z Z ?_|refine eV Z Z (zA Z Z) ?_|refine eV Z Z (zB Z Z) ?_|(refine at_bin ?_;first|refine eD Z Z (zN Z Z Z) (fun hh=>?_) (fun hh=>?_))|(refine at_call ?_;first|refine eV Z Z (zK Z Z) ?_)|refine eV Z Z (zC Z Z Z) ?_|refine eV Z Z (zD Z Z Z) ?_)|(refine at_K ?_;first|refine K_then ?_)|(refine at_E ?_;first|refine E_seq ?_|refine E_region ?_|refine E_ret ?_)))
  all_goals (first|(exfalso;omega)|skip)
  all_goals exact ret_1 Z Z ⟨rfl,hX.trans xA⟩
end Go.Proofs.YtnifmbbpfdghmaaGreatDoor
