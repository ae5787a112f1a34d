/-
  Walks of search: the law's small, asked, light.
-/
import Derived.Test.YtnifmbbpfdghmaaGreatDoorYn
import Derived.Test.YtnifmbbpfdghmaaGreatDoorYv
import Derived.Test.YtnifmbbpfdghmaaGreatDoorYg
set_option linter.all false
namespace Go.Proofs.YtnifmbbpfdghmaaGreatDoor
open Go.RowKit Go.En
attribute [local irreducible] E EL K Val Enters Rt Calls bodyPost Code.wp RQ
set_option maxHeartbeats 4000000 in
set_option maxRecDepth 8000 in
theorem asked44_any (q:Qy) (qv:Value) (w:World) (h:QAt w qv q):Calls Tryz.prog 44 #[qv] w (Rt fun u w'=>(∃ c,u=.bool c∧(c=true→okQ q∧nodesW q≤12))∧Ext w w'):=by
  have h0:=h
  obtain⟨kv,rfl,hkv⟩:=h
  obtain⟨a,cap,rfl,hc,hm,hp⟩:=hkv.sl
  refine calls_E (n:=11) (args:=[.agg #[int q.op,int q.role,str q.text,.slice a q.kids.length cap] ]) Tryz.func44 rfl Tryz.ntmps44 (by simp) ?_
  refine E_seq ?_
  refine E_region ?_
  refine EL_box Z Z Z Z (fun bQ wQ xQ hbQ rQ0=>?_)
  have rQ:Row wQ bQ 36 [int q.op,int q.role,str q.text,.slice a q.kids.length cap]:=rQ0
  clear rQ0
  have hq:=h0.ext xQ
  have cn:=nodes_any q _ wQ hq
  (repeat' (first|refine eV Z Z (val_loadA Z Z Z rQ.at rfl) ?_|(refine EL_call Z Z (entersF Z Z en79) cn (fun vC wC hC=>?_);obtain⟨rfl,xC⟩:=hC;replace rQ:=rQ.ext xC;replace hq:=hq.ext xC;replace xQ:=xQ.trans xC;clear xC)|(refine EL_call Z Z (entersF Z Z en78) (qcheck_any q _ _ hq) (fun vC wE hC=>?_);obtain⟨⟨e,rfl,he⟩,xC⟩:=hC)|(refine at_EL ?_;first|refine eN ?_|refine eO Z Z ?_|refine eV Z Z (zA Z Z) ?_|refine eV Z Z (zB Z Z) ?_|(refine at_bin ?_;first|refine eD Z Z (zM Z Z Z) (fun hh=>?_) (fun hh=>?_)|refine eD Z Z (zN Z Z Z) (fun hh=>?_) (fun hh=>?_))|refine eV Z Z (zC Z Z Z) ?_|refine eV Z Z (zD Z Z Z) ?_)|(refine at_K ?_;first|refine K_then ?_)|(refine at_E ?_;first|refine E_seq ?_|refine E_region ?_|refine E_ret ?_)))
  all_goals (first|(exfalso;omega)|skip)
  all_goals first
    | exact ret_1 Z Z ⟨⟨_,rfl,fun e=>by cases e⟩,xQ⟩
    | exact ret_1 Z Z ⟨⟨_,rfl,fun _=>⟨(he (by assumption)).1,by omega⟩⟩,xQ.trans xC⟩
    | exact ret_1 Z Z ⟨⟨_,rfl,fun e=>by cases e⟩,xQ.trans xC⟩
end Go.Proofs.YtnifmbbpfdghmaaGreatDoor
