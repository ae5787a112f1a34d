/-
  Walks of the laws of search: SearchJoins.
-/
import Derived.Test.YtnifmbbpfdghmaaGreatDoorTj
import Derived.Test.YtnifmbbpfdghmaaGreatDoorTi
import Derived.Test.YtnifmbbpfdghmaaGreatDoorTk
set_option linter.all false
namespace Go.Proofs.YtnifmbbpfdghmaaGreatDoor
open Go.RowKit Go.En
attribute [local irreducible] E EL K Val Enters Rt Calls bodyPost Code.wp RQ
set_option maxHeartbeats 8000000 in
set_option maxRecDepth 8000 in
theorem slaw14_any (d:Dc) (a b:Qy) (vd va vb:Value) (w:World) (hvd:DcAt w vd d) (hnd:Names d) (hwa:QAt w va a) (hwb:QAt w vb b) (hT:Tabs w):Calls Tryz.prog 14 #[vd,va,vb] w (Rt fun u w'=>u=.bool true∧Ext w w'):=by
  have hdd:=hvd
  obtain⟨sv,tv,nv,rfl,_,_,_⟩:=hvd
  have hqa:=hwa
  obtain⟨kv1,rfl,hkv1⟩:=hwa
  obtain⟨ka1,kc1,rfl,_,_,_⟩:=hkv1.sl
  have hqb:=hwb
  obtain⟨kv2,rfl,hkv2⟩:=hwb
  obtain⟨ka2,kc2,rfl,_,_,_⟩:=hkv2.sl
  refine calls_E (n:=69) (args:=[.agg #[int d.rid,str d.rname,int d.len,int d.day,sv,tv,nv],.agg #[int a.op,int a.role,str a.text,.slice ka1 a.kids.length kc1],.agg #[int b.op,int b.role,str b.text,.slice ka2 b.kids.length kc2]]) Tryz.func14 rfl Tryz.ntmps14 (by simp) ?_
  refine E_seq ?_
  refine E_region ?_
  refine EL_box Z Z Z Z (fun bD wD xD hbD rD0=>?_)
  have rD:Row wD bD 28 [int d.rid,str d.rname,int d.len,int d.day,sv,tv,nv]:=rD0
  clear rD0
  have hX:=xD
  refine EL_box Z Z Z Z (fun bP wP xP hbP rP0=>?_)
  have rP:Row wP bP 36 [int a.op,int a.role,str a.text,.slice ka1 a.kids.length kc1]:=rP0
  clear rP0
  replace rD:=rD.ext xP
  replace hX:=hX.trans xP
  refine EL_box Z Z Z Z (fun bQ wQ xQ hbQ rQ0=>?_)
  have rQ:Row wQ bQ 36 [int b.op,int b.role,str b.text,.slice ka2 b.kids.length kc2]:=rQ0
  clear rQ0
  replace rD:=rD.ext xQ
  replace rP:=rP.ext xQ
  replace hX:=hX.trans xQ
  (repeat' ((fail_if_success (refine E_seq (x:=(Code.region 3 _ _)) ?_));first|refine eV Z Z (val_loadA Z Z Z rD.at rfl) ?_|refine eV Z Z (val_loadA Z Z Z rP.at rfl) ?_|refine eV Z Z (val_loadA Z Z Z rQ.at rfl) ?_|(refine EL_call Z Z (entersF Z Z en17) (dlight_any d _ _ (hdd.ext hX) hnd) (fun vC wCd hC=>?_);obtain⟨⟨cd,rfl,hld⟩,xC⟩:=hC;replace rD:=rD.ext xC;replace rP:=rP.ext xC;replace rQ:=rQ.ext xC;replace hX:=hX.trans xC;clear xC;cases cd)|(refine EL_call Z Z (entersF Z Z en44) (asked44_any a _ _ (hqa.ext hX)) (fun vC wCa hC=>?_);obtain⟨⟨ca,rfl,haa⟩,xC⟩:=hC;replace rD:=rD.ext xC;replace rP:=rP.ext xC;replace rQ:=rQ.ext xC;replace hX:=hX.trans xC;clear xC;cases ca)|(refine EL_call Z Z (entersF Z Z en44) (asked44_any b _ _ (hqb.ext hX)) (fun vC wCb hC=>?_);obtain⟨⟨cb,rfl,hab⟩,xC⟩:=hC;replace rD:=rD.ext xC;replace rP:=rP.ext xC;replace rQ:=rQ.ext xC;replace hX:=hX.trans xC;clear xC;cases cb)|(refine EL_call Z Z (entersF Z Z en56) (depth_any a _ _ (hqa.ext hX)) (fun vC wDa hC=>?_);obtain⟨rfl,xC⟩:=hC;replace rD:=rD.ext xC;replace rP:=rP.ext xC;replace rQ:=rQ.ext xC;replace hX:=hX.trans xC;clear xC)|(refine EL_call Z Z (entersF Z Z en56) (depth_any b _ _ (hqb.ext hX)) (fun vC wDb hC=>?_);obtain⟨rfl,xC⟩:=hC;replace rD:=rD.ext xC;replace rP:=rP.ext xC;replace rQ:=rQ.ext xC;replace hX:=hX.trans xC;clear xC)|(refine EL_call Z Z (entersF Z Z en39) (sawake_any _ (Tabs.ext hT hX)) (fun vA wA hA=>?_);obtain⟨rfl,xA⟩:=hA)|(refine at_EL ?_;first|refine eN ?_|refine eO Z Z ?_|refine eV Z Z (zA Z Z) ?_|refine eV Z Z (zB Z Z) ?_|(refine at_bin ?_;first|refine eD Z Z (zP Z Z Z) (fun hh=>?_) (fun hh=>?_))|refine eV Z Z (zC Z Z Z) ?_|refine eV Z Z (zD Z Z Z) ?_|refine eV Z Z (zE Z Z) ?_)|(refine at_K ?_;first|refine K_then ?_|refine K_then_ret ?_)|(refine at_E ?_;first|refine E_seq ?_|refine E_region ?_|refine E_cond_t Z ?_|refine E_cond_f Z ?_|refine E_skip ?_|refine E_ret ?_)))
  all_goals (first|(exfalso;omega)|skip)
  all_goals first
    | exact ret_1 Z Z ⟨rfl,hX.trans xA⟩
    | skip
  have hd:=hld rfl
  have oka:=(haa rfl).1
  have okb:=(hab rfl).1
  have hfit:=build_fits hd
  have hlk:=build_linked hd
  have ok1:okQ (twoQ 1 a b):=ok_two (by decide) (by decide) (by decide) (by decide) oka okb
  have ok2:okQ (twoQ 2 a b):=ok_two (by decide) (by decide) (by decide) (by decide) oka okb
  have ev1:evF matchF d (twoQ 1 a b)=bothF (evF matchF d a) (evF matchF d b):=ev_1 hd _ _ _ _
  have ev2:evF matchF d (twoQ 2 a b)=unionS (evF matchF d a) (evF matchF d b):=ev_2 hd _ _ _ _
  have la:=evF_len hd matchF a
  have lb:=evF_len hd matchF b
  obtain⟨xs,hxs⟩:∃ xs,xs=(Ix.buildF d.tiers d.notes):=⟨_,rfl⟩
  rw [← hxs] at hfit hlk
  refine E.sub (M:=[(3,.pointer (some ⟨bD,0,none⟩)),(4,.pointer (some ⟨bP,0,none⟩)),(5,.pointer (some ⟨bQ,0,none⟩))]) ⟨rfl,rfl,rfl,trivial⟩ ?_
  (repeat' (first|refine eV Z Z (val_loadA Z Z Z rD.at rfl) ?_|(refine EL_call Z Z (entersF Z Z en48) (Ix.rbuild_any d _ _ (hdd.ext hX) (light_tierIn hd) (light_few hd)) (fun vB wB hB=>?_);obtain⟨xC,s,rfl,sX⟩:=hB;replace rD:=rD.ext xC;replace rP:=rP.ext xC;replace rQ:=rQ.ext xC;replace hX:=hX.trans xC;clear xC;rw [← hxs] at sX;obtain⟨sa,sc,rfl,_,_,_⟩:=sX.sl)|(refine at_E ?_;first|refine E_seq ?_|refine E_region ?_)))
  refine EL_alloc Z Z Z (fun bX wX xX hbX rX0=>?_)
  refine EL_storeP (cs:=[.slice sa xs.length sc]) rX0 xX (by omega) Z Z Z Z Z Z Z Z (Nat.le_refl _) (fun wY rX1 xY kY=>?_)
  have rX:Row wY bX 49 [.slice sa xs.length sc]:=rX1
  clear rX0 rX1 kY
  replace rD:=rD.ext xY
  replace rP:=rP.ext xY
  replace rQ:=rQ.ext xY
  replace hX:=hX.trans xY
  replace sX:=sX.ext xY
  refine EL_nil ?_
  refine K_then ?_
  (repeat' ((fail_if_success (refine E_seq (x:=(Code.region 5 _ _)) ?_));first|refine yV Z Z (fun wq _ xq=>val_loadA (cs:=[.slice sa xs.length sc]) Z Z Z (rX.ext xq).at rfl) ?_|refine yV Z Z (fun wq _ xq=>val_loadA Z Z Z (rD.ext xq).at rfl) ?_|refine yV Z Z (fun wq _ xq=>val_loadA Z Z Z (rP.ext xq).at rfl) ?_|refine yV Z Z (fun wq _ xq=>val_loadA Z Z Z (rQ.ext xq).at rfl) ?_|(refine RQ_callR (f:=47) (fun u w'=>Sl w' u (evF matchF d a)) (fun δ=>#[.agg #[.slice sa xs.length sc],.agg #[int d.rid,str d.rname,int d.len,int d.day,sv,tv,nv],.agg #[int a.op,int a.role,str a.text,.slice ka1 a.kids.length kc1] ]) Z Z (fun _ _ _ _ xe h=>SlG.ext h xe) (fun _ _ _=>entersF Z Z en47) (fun wq δ xq _=>?_) ?_;(exact calls_mono (run47_any hd hfit hlk a oka _ _ _ wq (sX.ext xq) (hdd.ext (hX.trans xq)) (hqa.ext (hX.trans xq)) (Tabs.ext hT (hX.trans xq))) (fun _ _ hh=>⟨hh.2.any,hh.1⟩)))|(refine RQ_callR (f:=47) (fun u w'=>Sl w' u (evF matchF d b)) (fun δ=>#[.agg #[.slice sa xs.length sc],.agg #[int d.rid,str d.rname,int d.len,int d.day,sv,tv,nv],.agg #[int b.op,int b.role,str b.text,.slice ka2 b.kids.length kc2] ]) Z Z (fun _ _ _ _ xe h=>SlG.ext h xe) (fun _ _ _=>entersF Z Z en47) (fun wq δ xq _=>?_) ?_;(exact calls_mono (run47_any hd hfit hlk b okb _ _ _ wq (sX.ext xq) (hdd.ext (hX.trans xq)) (hqb.ext (hX.trans xq)) (Tabs.ext hT (hX.trans xq))) (fun _ _ hh=>⟨hh.2.any,hh.1⟩)))|refine RQ_asgS Z Z Z Z (fun _=>rfl) ?_|refine RQ_end (fun wq δ xq hR=>?_)|(refine at_EL ?_;first|refine eN ?_)|(refine at_K ?_;first|refine K_then ?_)|(refine at_E ?_;first|refine E_seq ?_|refine E_dq mixedOk (by kernel_rfl) Z ?_)))
  obtain⟨vA,hvA⟩:∃ vA,vA=δ 8:=⟨_,rfl⟩
  have sA:Sl wq vA (evF matchF d a):=by rw [hvA];exact hR 8 _ rfl
  obtain⟨vB,hvB⟩:∃ vB,vB=δ 9:=⟨_,rfl⟩
  have sB:Sl wq vB (evF matchF d b):=by rw [hvB];exact hR 9 _ rfl
  refine E.sub (M:=[(3,.pointer (some ⟨bD,0,none⟩)),(4,.pointer (some ⟨bP,0,none⟩)),(5,.pointer (some ⟨bQ,0,none⟩)),(7,.pointer (some ⟨bX,0,none⟩)),(8,vA),(9,vB)]) ⟨rfl,rfl,rfl,rfl,by rw [hvA];rfl,by rw [hvB];rfl,trivial⟩ ?_
  clear hvA hvB hR
  have xZ:=xq
  replace rX:=rX.ext xZ
  replace rD:=rD.ext xZ
  replace rP:=rP.ext xZ
  replace rQ:=rQ.ext xZ
  replace hX:=hX.trans xZ
  replace sX:=sX.ext xZ
  clear xq xZ
  (repeat' (first|refine yV Z Z (fun wq _ xq=>val_loadA (cs:=[.slice sa xs.length sc]) Z Z Z (rX.ext xq).at rfl) ?_|refine yV Z Z (fun wq _ xq=>val_loadA Z Z Z (rD.ext xq).at rfl) ?_|refine yV Z Z (fun wq _ xq=>val_loadA Z Z Z (rP.ext xq).at rfl) ?_|refine yV Z Z (fun wq _ xq=>val_loadA Z Z Z (rQ.ext xq).at rfl) ?_|(refine RQ_callR (f:=57) (fun u w'=>QAt w' u (twoQ 1 a b)) (fun δ=>#[int 1,.agg #[int a.op,int a.role,str a.text,.slice ka1 a.kids.length kc1],.agg #[int b.op,int b.role,str b.text,.slice ka2 b.kids.length kc2] ]) Z Z (fun _ _ _ _ xe h=>QAt.ext h xe) (fun _ _ _=>entersF Z Z en57) (fun wq δ xq _=>?_) ?_;(exact calls_mono (join57_any 1 a b _ _ wq (hqa.ext (hX.trans xq)) (hqb.ext (hX.trans xq))) (fun _ _ hh=>⟨hh.2,hh.1⟩)))|(refine RQ_callR (f:=57) (fun u w'=>QAt w' u (twoQ 2 a b)) (fun δ=>#[int 2,.agg #[int a.op,int a.role,str a.text,.slice ka1 a.kids.length kc1],.agg #[int b.op,int b.role,str b.text,.slice ka2 b.kids.length kc2] ]) Z Z (fun _ _ _ _ xe h=>QAt.ext h xe) (fun _ _ _=>entersF Z Z en57) (fun wq δ xq _=>?_) ?_;(exact calls_mono (join57_any 2 a b _ _ wq (hqa.ext (hX.trans xq)) (hqb.ext (hX.trans xq))) (fun _ _ hh=>⟨hh.2,hh.1⟩)))|(refine RQ_callR (f:=47) (fun u w'=>Sl w' u (bothF (evF matchF d a) (evF matchF d b))) (fun δ=>#[.agg #[.slice sa xs.length sc],.agg #[int d.rid,str d.rname,int d.len,int d.day,sv,tv,nv],δ 48]) Z Z (fun _ _ _ _ xe h=>SlG.ext h xe) (fun _ _ _=>entersF Z Z en47) (fun wq δ xq hd0=>?_) ?_;(rw [← ev1];exact calls_mono (run47_any hd hfit hlk (twoQ 1 a b) ok1 _ _ _ wq (sX.ext xq) (hdd.ext (hX.trans xq)) (hd0 48 rfl _ rfl) (Tabs.ext hT (hX.trans xq))) (fun _ _ hh=>⟨hh.2.any,hh.1⟩)))|(refine RQ_callR (f:=47) (fun u w'=>Sl w' u (unionS (evF matchF d a) (evF matchF d b))) (fun δ=>#[.agg #[.slice sa xs.length sc],.agg #[int d.rid,str d.rname,int d.len,int d.day,sv,tv,nv],δ 59]) Z Z (fun _ _ _ _ xe h=>SlG.ext h xe) (fun _ _ _=>entersF Z Z en47) (fun wq δ xq hd0=>?_) ?_;(rw [← ev2];exact calls_mono (run47_any hd hfit hlk (twoQ 2 a b) ok2 _ _ _ wq (sX.ext xq) (hdd.ext (hX.trans xq)) (hd0 59 rfl _ rfl) (Tabs.ext hT (hX.trans xq))) (fun _ _ hh=>⟨hh.2.any,hh.1⟩)))|(refine RQ_callR (f:=37) (fun u w'=>Sl w' u (bothF (evF matchF d a) (evF matchF d b))) (fun δ=>#[vA,vB]) Z Z (fun _ _ _ _ xe h=>SlG.ext h xe) (fun _ _ _=>entersF Z Z en37) (fun wq δ xq _=>?_) ?_;(exact calls_mono (rboth_any _ _ _ _ wq (sA.ext xq) (sB.ext xq) (by omega)) (fun _ _ hh=>⟨hh.2,hh.1⟩)))|(refine RQ_callR (f:=58) (fun u w'=>Sl w' u (unionS (evF matchF d a) (evF matchF d b))) (fun δ=>#[vA,vB]) Z Z (fun _ _ _ _ xe h=>SlG.ext h xe) (fun _ _ _=>entersF Z Z en58) (fun wq δ xq _=>?_) ?_;(exact calls_mono (runion_any _ _ _ _ wq (sA.ext xq) (sB.ext xq) (by omega) (by omega)) (fun _ _ hh=>⟨hh.2,hh.1⟩)))|(refine RQ_callV (f:=20) (v:=.bool true) (fun δ=>#[δ 49,δ 52]) Z Z (fun _ _ _=>entersF Z Z en20) (fun wq δ xq hd=>?_) ?_;(have:=r1same_any (bothF (evF matchF d a) (evF matchF d b)) (bothF (evF matchF d a) (evF matchF d b)) _ _ wq (hd 49 rfl _ rfl) (hd 52 rfl _ rfl);rw [decide_eq_true rfl] at this;exact this))|(refine RQ_callV (f:=20) (v:=.bool true) (fun δ=>#[δ 60,δ 63]) Z Z (fun _ _ _=>entersF Z Z en20) (fun wq δ xq hd=>?_) ?_;(have:=r1same_any (unionS (evF matchF d a) (evF matchF d b)) (unionS (evF matchF d a) (evF matchF d b)) _ _ wq (hd 60 rfl _ rfl) (hd 63 rfl _ rfl);rw [decide_eq_true rfl] at this;exact this))|refine RQ_call (v:=.bool true) Z Z (fun _ _ _=>entersF Z Z en39) (fun wq xq=>sawake_any wq (Tabs.ext hT (hX.trans xq))) ?_|refine RQ_end (fun wq δ xq hR=>?_)|(refine at_EL ?_;first|refine eN ?_)|(refine at_K ?_;first|refine K_then ?_)|(refine at_E ?_;first|refine E_seq ?_|refine E_ret ?_|refine E_dq mixedOk (by kernel_rfl) Z ?_)|(refine at_RQ ?_;first|refine yV Z Z (fun _ _ _=>zA Z Z) ?_|refine yV Z Z (fun _ _ _=>zB Z Z) ?_|refine yV Z Z (fun _ _ _=>zC Z Z Z) ?_)))
  all_goals (first|(exfalso;omega)|skip)
  all_goals exact ret_1 Z Z ⟨rfl,hX.trans xq⟩
end Go.Proofs.YtnifmbbpfdghmaaGreatDoor
