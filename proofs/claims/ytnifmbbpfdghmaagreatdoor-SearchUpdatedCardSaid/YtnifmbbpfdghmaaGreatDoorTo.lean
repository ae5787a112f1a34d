/-
  Walks of the laws of search: SearchUpdated.
-/
import Derived.Test.YtnifmbbpfdghmaaGreatDoorTj
import Derived.Test.YtnifmbbpfdghmaaGreatDoorTi
import Derived.Test.YtnifmbbpfdghmaaGreatDoorTk
import Derived.Test.YtnifmbbpfdghmaaGreatDoorY1
set_option linter.all false
namespace Go.Proofs.YtnifmbbpfdghmaaGreatDoor
open Go.RowKit Go.En
attribute [local irreducible] E EL K Val Enters Rt Calls bodyPost Code.wp RQ
set_option maxHeartbeats 8000000 in
set_option maxRecDepth 8000 in
theorem slaw16_any (o e:Dc) (q:Qy) (vo ve vq:Value) (w:World) (hvo:DcAt w vo o) (hno:Names o) (hve:DcAt w ve e) (hne:Names e) (hwq:QAt w vq q) (hT:Tabs w):Calls Tryz.prog 16 #[vo,ve,vq] w (Rt fun u w'=>u=.bool true∧Ext w w'):=by
  have hdo:=hvo
  obtain⟨sv1,tv1,nv1,rfl,_,_,_⟩:=hvo
  have hde:=hve
  obtain⟨sv2,tv2,nv2,rfl,_,_,_⟩:=hve
  have hqq:=hwq
  obtain⟨kv,rfl,hkv⟩:=hwq
  obtain⟨ka,kc,rfl,_,_,_⟩:=hkv.sl
  refine calls_E (n:=49) (args:=[.agg #[int o.rid,str o.rname,int o.len,int o.day,sv1,tv1,nv1],.agg #[int e.rid,str e.rname,int e.len,int e.day,sv2,tv2,nv2],.agg #[int q.op,int q.role,str q.text,.slice ka q.kids.length kc]]) Tryz.func16 rfl Tryz.ntmps16 (by simp) ?_
  refine E_seq ?_
  refine E_region ?_
  refine EL_box Z Z Z Z (fun bO wO xO hbO rO0=>?_)
  have rO:Row wO bO 28 [int o.rid,str o.rname,int o.len,int o.day,sv1,tv1,nv1]:=rO0
  clear rO0
  have hX:=xO
  refine EL_box Z Z Z Z (fun bD wD xD hbD rD0=>?_)
  have rD:Row wD bD 28 [int e.rid,str e.rname,int e.len,int e.day,sv2,tv2,nv2]:=rD0
  clear rD0
  replace rO:=rO.ext xD
  replace hX:=hX.trans xD
  refine EL_box Z Z Z Z (fun bQ wQ xQ hbQ rQ0=>?_)
  have rQ:Row wQ bQ 36 [int q.op,int q.role,str q.text,.slice ka q.kids.length kc]:=rQ0
  clear rQ0
  replace rO:=rO.ext xQ
  replace rD:=rD.ext xQ
  replace hX:=hX.trans xQ
  (repeat' ((fail_if_success (refine E_seq (x:=(Code.region 3 _ _)) ?_));first|refine eV Z Z (val_loadA Z Z Z rO.at rfl) ?_|refine eV Z Z (val_loadA Z Z Z rD.at rfl) ?_|refine eV Z Z (val_loadA Z Z Z rQ.at rfl) ?_|(refine EL_call Z Z (entersF Z Z en17) (dlight_any o _ _ (hdo.ext hX) hno) (fun vC wCo hC=>?_);obtain⟨⟨co,rfl,hlo⟩,xC⟩:=hC;replace rO:=rO.ext xC;replace rD:=rD.ext xC;replace rQ:=rQ.ext xC;replace hX:=hX.trans xC;clear xC;cases co)|(refine EL_call Z Z (entersF Z Z en17) (dlight_any e _ _ (hde.ext hX) hne) (fun vC wCe hC=>?_);obtain⟨⟨ce,rfl,hle⟩,xC⟩:=hC;replace rO:=rO.ext xC;replace rD:=rD.ext xC;replace rQ:=rQ.ext xC;replace hX:=hX.trans xC;clear xC;cases ce)|(refine EL_call Z Z (entersF Z Z en44) (asked44_any q _ _ (hqq.ext hX)) (fun vC wCq hC=>?_);obtain⟨⟨cq,rfl,haq⟩,xC⟩:=hC;replace rO:=rO.ext xC;replace rD:=rD.ext xC;replace rQ:=rQ.ext xC;replace hX:=hX.trans xC;clear xC;cases cq)|(refine EL_call Z Z (entersF Z Z en39) (sawake_any _ (Tabs.ext hT hX)) (fun vA wA hA=>?_);obtain⟨rfl,xA⟩:=hA)|(refine at_EL ?_;first|refine eN ?_|refine eO Z Z ?_|refine eV Z Z (zA Z Z) ?_|refine eV Z Z (zB Z Z) ?_|refine eV Z Z (zC Z Z Z) ?_|refine eV Z Z (zD Z Z Z) ?_|refine eV Z Z (zE Z Z) ?_)|(refine at_K ?_;first|refine K_then ?_|refine K_then_ret ?_)|(refine at_E ?_;first|refine E_seq ?_|refine E_region ?_|refine E_cond_t Z ?_|refine E_cond_f Z ?_|refine E_skip ?_|refine E_ret ?_)))
  all_goals (first|(exfalso;omega)|skip)
  all_goals first
    | exact ret_1 Z Z ⟨rfl,hX.trans xA⟩
    | skip
  have ho:=hlo rfl
  have he:=hle rfl
  have hok:=(haq rfl).1
  have hfit:=build_fits he
  have hlk:=build_linked he
  have hupd:=Ix.derived o e
  have hsm:Ix.Small 1000000 (Ix.buildF o.tiers o.notes):=by
    have:=Ix.Small.build o.tiers o.notes o.notes.length
    rw [List.take_length] at this
    exact Ix.Small.wk this (by have:=ho.nnotes;omega)
  obtain⟨xs,hxs⟩:∃ xs,xs=(Ix.buildF e.tiers e.notes):=⟨_,rfl⟩
  rw [← hxs] at hfit hlk hupd
  refine E.sub (M:=[(3,.pointer (some ⟨bO,0,none⟩)),(4,.pointer (some ⟨bD,0,none⟩)),(5,.pointer (some ⟨bQ,0,none⟩))]) ⟨rfl,rfl,rfl,trivial⟩ ?_
  refine E_seq ?_
  refine E_dm 6 mixedOk (by kernel_rfl) Z ?_
  (repeat' (first|refine yV Z Z (fun wq _ xq=>val_loadA Z Z Z (rO.ext xq).at rfl) ?_|refine yV Z Z (fun wq _ xq=>val_loadA Z Z Z (rD.ext xq).at rfl) ?_|(refine RQ_callR (f:=64) (fun u w'=>Ix.Ix w' u (Ix.buildF o.tiers o.notes)) (fun δ=>#[.agg #[int o.rid,str o.rname,int o.len,int o.day,sv1,tv1,nv1] ]) Z Z (fun _ _ _ _ xe h=>Ix.IxG.ext h xe) (fun _ _ _=>entersF Z Z en64) (fun wq δ xq _=>?_) ?_;((obtain⟨_,_,_,e0,_,st,sn⟩:=hdo.ext (hX.trans xq);simp at e0;obtain⟨rfl,rfl,rfl⟩:=e0;exact calls_mono (Ix.build_any o.tiers o.notes _ _ _ _ _ _ _ wq st sn (by have:=ho.nnotes;omega) (light_tierIn ho)) (fun _ _ hh=>⟨hh.2,hh.1⟩))))|(refine RQ_callR (f:=63) (fun u w'=>Ix.Ix w' u xs) (fun δ=>#[δ 24,.agg #[int o.rid,str o.rname,int o.len,int o.day,sv1,tv1,nv1],.agg #[int e.rid,str e.rname,int e.len,int e.day,sv2,tv2,nv2] ]) Z Z (fun _ _ _ _ xe h=>Ix.IxG.ext h xe) (fun _ _ _=>entersF Z Z en63) (fun wq δ xq hd=>?_) ?_;(obtain⟨s,es,sX⟩:=hd 24 rfl _ rfl;rw [es,← hupd];exact calls_mono (Ix.update_any _ o e s _ _ wq sX (hdo.ext (hX.trans xq)) (hde.ext (hX.trans xq)) hsm (light_tierIn ho) (light_tierIn he) (light_few ho) (light_few he)) (fun _ _ hh=>⟨hh.2,hh.1⟩)))|refine RQ_alloc Z Z Z ?_|refine RQ_end (fun wq δ xq hR=>?_)))
  obtain⟨bX,e7,hge7,R7⟩:=hR 7 _ rfl
  obtain⟨s7,e27,S7⟩:=hR 27 _ rfl
  obtain⟨sa,sc,rfl,_,_,_⟩:=S7.sl
  have S7':=Ix.away_posts R7 S7
  refine EL_storeP (cs:=[.slice sa xs.length sc]) (v:=.agg #[.slice sa xs.length sc]) (off:=0) R7 xq hge7 rfl rfl rfl (show some (δ 7)=_ by rw [e7]) (show some (δ 27)=_ by rw [e27]) Z Z Z (Nat.le_refl _) (fun wY rX1 xY kY=>?_)
  have rX:Row wY bX 49 [.slice sa xs.length sc]:=rX1
  have sX:Sl wY (.slice sa xs.length sc) xs:=(S7'.move (kY.mv fun b hb e=>by cases e;exact hb rfl)).any
  replace rO:=rO.ext xY
  replace rD:=rD.ext xY
  replace rQ:=rQ.ext xY
  replace hX:=hX.trans xY
  refine EL_nil ?_
  refine K_then ?_
  refine E.sub (M:=[(3,.pointer (some ⟨bO,0,none⟩)),(4,.pointer (some ⟨bD,0,none⟩)),(5,.pointer (some ⟨bQ,0,none⟩)),(7,.pointer (some ⟨bX,0,none⟩))]) ⟨rfl,rfl,rfl,show some (δ 7)=_ by rw [e7],trivial⟩ ?_
  clear hR e7 e27 S7' S7 R7 rX1 kY xY xq δ
  (repeat' ((fail_if_success (refine E_seq (x:=(Code.region 5 _ _)) ?_));first|refine eV Z Z (val_loadA (cs:=[.slice sa xs.length sc]) Z Z Z rX.at rfl) ?_|refine eV Z Z (val_loadA Z Z Z rD.at rfl) ?_|refine eV Z Z (val_loadA Z Z Z rQ.at rfl) ?_|(refine EL_call Z Z (entersF Z Z en47) (run47_any he hfit hlk q hok _ _ _ _ sX (hde.ext hX) (hqq.ext hX) (Tabs.ext hT hX)) (fun vL wL hL=>?_);obtain⟨xC,sL0⟩:=hL;have sL:=SlG.any sL0;replace rX:=rX.ext xC;replace sX:=sX.ext xC;replace rO:=rO.ext xC;replace rD:=rD.ext xC;replace rQ:=rQ.ext xC;replace hX:=hX.trans xC;clear xC)|(refine at_EL ?_;first|refine eN ?_|refine eV Z Z (zB Z Z) ?_)|(refine at_K ?_;first|refine K_then ?_)|(refine at_E ?_;first|refine E_seq ?_|refine E_region ?_)))
  refine E.sub (M:=[(3,.pointer (some ⟨bO,0,none⟩)),(4,.pointer (some ⟨bD,0,none⟩)),(5,.pointer (some ⟨bQ,0,none⟩)),(7,.pointer (some ⟨bX,0,none⟩)),(8,vL)]) ⟨rfl,rfl,rfl,rfl,rfl,trivial⟩ ?_
  (repeat' (first|refine yV Z Z (fun wq _ xq=>val_loadA Z Z Z (rD.ext xq).at rfl) ?_|refine yV Z Z (fun wq _ xq=>val_loadA Z Z Z (rQ.ext xq).at rfl) ?_|(refine RQ_callR (f:=64) (fun u w'=>Ix.Ix w' u xs) (fun δ=>#[.agg #[int e.rid,str e.rname,int e.len,int e.day,sv2,tv2,nv2] ]) Z Z (fun _ _ _ _ xe h=>Ix.IxG.ext h xe) (fun _ _ _=>entersF Z Z en64) (fun wq δ xq _=>?_) ?_;((obtain⟨_,_,_,e0,_,st,sn⟩:=hde.ext (hX.trans xq);simp at e0;obtain⟨rfl,rfl,rfl⟩:=e0;rw [hxs];exact calls_mono (Ix.build_any e.tiers e.notes _ _ _ _ _ _ _ wq st sn (by have:=he.nnotes;omega) (light_tierIn he)) (fun _ _ hh=>⟨hh.2,hh.1⟩))))|(refine RQ_callR (f:=47) (fun u w'=>Sl w' u (evF matchF e q)) (fun δ=>#[δ 34,.agg #[int e.rid,str e.rname,int e.len,int e.day,sv2,tv2,nv2],.agg #[int q.op,int q.role,str q.text,.slice ka q.kids.length kc] ]) Z Z (fun _ _ _ _ xe h=>SlG.ext h xe) (fun _ _ _=>entersF Z Z en47) (fun wq δ xq hd=>?_) ?_;(obtain⟨s,es,s34⟩:=hd 34 rfl _ rfl;rw [es];exact calls_mono (run47_any he hfit hlk q hok s _ _ wq s34 (hde.ext (hX.trans xq)) (hqq.ext (hX.trans xq)) (Tabs.ext hT (hX.trans xq))) (fun _ _ hh=>⟨hh.2.any,hh.1⟩)))|(refine RQ_callR (f:=29) (fun u w'=>Sl w' u (evF matchF e q)) (fun δ=>#[.agg #[int e.rid,str e.rname,int e.len,int e.day,sv2,tv2,nv2],.agg #[int q.op,int q.role,str q.text,.slice ka q.kids.length kc] ]) Z Z (fun _ _ _ _ xe h=>SlG.ext h xe) (fun _ _ _=>entersF Z Z en29) (fun wq δ xq hd=>?_) ?_;(exact calls_mono (reval_any he q hok _ _ wq (hde.ext (hX.trans xq)) (hqq.ext (hX.trans xq))) (fun _ _ hh=>⟨hh.2,hh.1⟩)))|(refine RQ_callV (f:=20) (v:=.bool true) (fun δ=>#[vL,δ 37]) Z Z (fun _ _ _=>entersF Z Z en20) (fun wq δ xq hd=>?_) ?_;(have:=r1same_any (evF matchF e q) (evF matchF e q) _ _ wq (sL.ext xq) (hd 37 rfl _ rfl);rw [decide_eq_true rfl] at this;exact this))|(refine RQ_callV (f:=20) (v:=.bool true) (fun δ=>#[vL,δ 43]) Z Z (fun _ _ _=>entersF Z Z en20) (fun wq δ xq hd=>?_) ?_;(have:=r1same_any (evF matchF e q) (evF matchF e q) _ _ wq (sL.ext xq) (hd 43 rfl _ rfl);rw [decide_eq_true rfl] at this;exact this))|refine RQ_call (v:=.bool true) Z Z (fun _ _ _=>entersF Z Z en39) (fun wq xq=>sawake_any wq (Tabs.ext hT (hX.trans xq))) ?_|refine RQ_end (fun wq δ xq hR=>?_)|(refine at_EL ?_;first|refine eN ?_)|(refine at_K ?_;first|refine K_then ?_)|(refine at_E ?_;first|refine E_seq ?_|refine E_ret ?_|refine E_dq mixedOk (by kernel_rfl) Z ?_)|(refine at_RQ ?_;first|refine yV Z Z (fun _ _ _=>zA Z Z) ?_|refine yV Z Z (fun _ _ _=>zB Z Z) ?_|refine yV Z Z (fun _ _ _=>zC Z Z Z) ?_)))
  all_goals (first|(exfalso;omega)|skip)
  all_goals exact ret_1 Z Z ⟨rfl,hX.trans xq⟩
end Go.Proofs.YtnifmbbpfdghmaaGreatDoor
