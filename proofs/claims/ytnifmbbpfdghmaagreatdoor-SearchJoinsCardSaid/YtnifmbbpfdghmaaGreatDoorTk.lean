/-
  Walks of the laws of search: SearchTexts, SearchBounds, SearchRuns.
-/
import Derived.Test.YtnifmbbpfdghmaaGreatDoorTj
import Derived.Test.YtnifmbbpfdghmaaGreatDoorTi
set_option linter.all false
namespace Go.Proofs.YtnifmbbpfdghmaaGreatDoor
open Go.RowKit Go.En
theorem light_tierIn {d:Dc} (h:LightD d):Ix.TierIn d:=fun n hn=>by
  obtain⟨t,k,hk,ht,_⟩:=tier_of h hn
  have:=(List.getElem?_eq_some_iff.1 ht).1
  exact⟨by omega,by omega⟩
theorem light_few {d:Dc} (h:LightD d):d.notes.length≤1000:=Nat.le_trans h.nnotes (by omega)
attribute [local irreducible] E EL K Val Enters Rt Calls bodyPost Code.wp RQ
set_option maxHeartbeats 8000000 in
set_option maxRecDepth 8000 in
theorem slaw10_any (d:Dc) (q:Qy) (vd vq:Value) (w:World) (hvd:DcAt w vd d) (hnd:Names d) (hwq:QAt w vq q) (hT:Tabs w):Calls Tryz.prog 10 #[vd,vq] w (Rt fun u w'=>u=.bool true∧Ext w w'):=by
  have hdd:=hvd
  obtain⟨sv,tv,nv,rfl,_,_,_⟩:=hvd
  have hqq:=hwq
  obtain⟨kv,rfl,hkv⟩:=hwq
  obtain⟨ka,kc,rfl,_,_,_⟩:=hkv.sl
  refine calls_E (n:=26) (args:=[.agg #[int d.rid,str d.rname,int d.len,int d.day,sv,tv,nv],.agg #[int q.op,int q.role,str q.text,.slice ka q.kids.length kc]]) Tryz.func10 rfl Tryz.ntmps10 (by simp) ?_
  refine E_seq ?_
  refine E_region ?_
  refine EL_box Z Z Z Z (fun bD wD xD hbD rD0=>?_)
  have rD:Row wD bD 28 [int d.rid,str d.rname,int d.len,int d.day,sv,tv,nv]:=rD0
  clear rD0
  have hX:=xD
  refine EL_box Z Z Z Z (fun bQ wQ xQ hbQ rQ0=>?_)
  have rQ:Row wQ bQ 36 [int q.op,int q.role,str q.text,.slice ka q.kids.length kc]:=rQ0
  clear rQ0
  replace rD:=rD.ext xQ
  replace hX:=hX.trans xQ
  (repeat' ((fail_if_success (refine E_seq (x:=(Code.region 3 _ _)) ?_));first|refine eV Z Z (val_loadA Z Z Z rD.at rfl) ?_|refine eV Z Z (val_loadA Z Z Z rQ.at rfl) ?_|(refine EL_call Z Z (entersF Z Z en17) (dlight_any d _ _ (hdd.ext hX) hnd) (fun vC wCd hC=>?_);obtain⟨⟨cd,rfl,hld⟩,xC⟩:=hC;replace rD:=rD.ext xC;replace rQ:=rQ.ext xC;replace hX:=hX.trans xC;clear xC;cases cd)|(refine EL_call Z Z (entersF Z Z en44) (asked44_any q _ _ (hqq.ext hX)) (fun vC wCq hC=>?_);obtain⟨⟨cq,rfl,haq⟩,xC⟩:=hC;replace rD:=rD.ext xC;replace rQ:=rQ.ext xC;replace hX:=hX.trans xC;clear xC;cases cq)|(refine EL_call Z Z (entersF Z Z en39) (sawake_any _ (Tabs.ext hT hX)) (fun vA wA hA=>?_);obtain⟨rfl,xA⟩:=hA)|(refine at_EL ?_;first|refine eN ?_|refine eO Z Z ?_|refine eV Z Z (zA Z Z) ?_|refine eV Z Z (zB Z Z) ?_|refine eV Z Z (zC Z Z Z) ?_|refine eV Z Z (zD Z Z Z) ?_|refine eV Z Z (zE Z Z) ?_)|(refine at_K ?_;first|refine K_then ?_|refine K_then_ret ?_)|(refine at_E ?_;first|refine E_seq ?_|refine E_region ?_|refine E_cond_t Z ?_|refine E_cond_f Z ?_|refine E_skip ?_|refine E_ret ?_)))
  all_goals (first|(exfalso;omega)|skip)
  all_goals first
    | exact ret_1 Z Z ⟨rfl,hX.trans xA⟩
    | skip
  have hd:=hld rfl
  have hok:=(haq rfl).1
  refine E.sub (M:=[(2,.pointer (some ⟨bD,0,none⟩)),(3,.pointer (some ⟨bQ,0,none⟩))]) ⟨rfl,rfl,trivial⟩ ?_
  (repeat' (first|refine yV Z Z (fun wq _ xq=>val_loadA Z Z Z (rD.ext xq).at rfl) ?_|refine yV Z Z (fun wq _ xq=>val_loadA Z Z Z (rQ.ext xq).at rfl) ?_|(refine RQ_callR (f:=48) (fun u w'=>Ix.Ix w' u (Ix.buildF d.tiers d.notes)) (fun δ=>#[.agg #[int d.rid,str d.rname,int d.len,int d.day,sv,tv,nv] ]) Z Z (fun _ _ _ _ xe h=>Ix.IxG.ext h xe) (fun _ _ _=>entersF Z Z en48) (fun wq δ xq _=>?_) ?_;(exact calls_mono (Ix.rbuild_any d _ wq (hdd.ext (hX.trans xq)) (light_tierIn hd) (light_few hd)) (fun _ _ hh=>⟨hh.2,hh.1⟩)))|(refine RQ_callR (f:=47) (fun u w'=>Sl w' u (evF matchF d q)) (fun δ=>#[δ 15,.agg #[int d.rid,str d.rname,int d.len,int d.day,sv,tv,nv],.agg #[int q.op,int q.role,str q.text,.slice ka q.kids.length kc] ]) Z Z (fun _ _ _ _ xe h=>SlG.ext h xe) (fun _ _ _=>entersF Z Z en47) (fun wq δ xq hd0=>?_) ?_;(obtain⟨s,e,sX⟩:=hd0 15 rfl _ rfl;rw [e];exact calls_mono (run47_any hd (build_fits hd) (build_linked hd) q hok s _ _ wq sX (hdd.ext (hX.trans xq)) (hqq.ext (hX.trans xq)) (Tabs.ext hT (hX.trans xq))) (fun _ _ hh=>⟨hh.2.any,hh.1⟩)))|(refine RQ_callR (f:=29) (fun u w'=>Sl w' u (evF matchF d q)) (fun δ=>#[.agg #[int d.rid,str d.rname,int d.len,int d.day,sv,tv,nv],.agg #[int q.op,int q.role,str q.text,.slice ka q.kids.length kc] ]) Z Z (fun _ _ _ _ xe h=>SlG.ext h xe) (fun _ _ _=>entersF Z Z en29) (fun wq δ xq _=>?_) ?_;(exact calls_mono (reval_any hd q hok _ _ wq (hdd.ext (hX.trans xq)) (hqq.ext (hX.trans xq))) (fun _ _ hh=>⟨hh.2,hh.1⟩)))|(refine RQ_callV (f:=20) (v:=.bool true) (fun δ=>#[δ 18,δ 21]) Z Z (fun _ _ _=>entersF Z Z en20) (fun wq δ xq hd=>?_) ?_;(have:=r1same_any (evF matchF d q) (evF matchF d q) _ _ wq (hd 18 rfl _ rfl) (hd 21 rfl _ rfl);rw [decide_eq_true rfl] at this;exact this))|refine RQ_call (v:=.bool true) Z Z (fun _ _ _=>entersF Z Z en39) (fun wq xq=>sawake_any wq (Tabs.ext hT (hX.trans xq))) ?_|refine RQ_end (fun wq δ xq hR=>?_)|(refine at_EL ?_;first|refine eN ?_)|(refine at_K ?_;first|refine K_then ?_)|(refine at_E ?_;first|refine E_seq ?_|refine E_ret ?_|refine E_dq mixedOk (by kernel_rfl) Z ?_)|(refine at_RQ ?_;first|refine yV Z Z (fun _ _ _=>zA Z Z) ?_|refine yV Z Z (fun _ _ _=>zB Z Z) ?_|refine yV Z Z (fun _ _ _=>zC Z Z Z) ?_)))
  all_goals (first|(exfalso;omega)|skip)
  all_goals exact ret_1 Z Z ⟨rfl,hX.trans xq⟩
end Go.Proofs.YtnifmbbpfdghmaaGreatDoor
