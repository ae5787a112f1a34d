/-
  Walks of search: the law's small, asked, light.
-/
import Derived.Test.YtnifmbbpfdghmaaGreatDoorYn
import Derived.Test.YtnifmbbpfdghmaaGreatDoorYv
import Derived.Test.YtnifmbbpfdghmaaGreatDoorYg
set_option linter.all false
namespace Go.Proofs.YtnifmbbpfdghmaaGreatDoor
open Go.RowKit Go.En
attribute [local irreducible] E EL K Val Enters Rt Calls bodyPost Code.wp RQ
set_option maxHeartbeats 4000000 in
set_option maxRecDepth 8000 in
theorem asked44_any (q:Qy) (qv:Value) (w:World) (h:QAt w qv q):Calls Tryz.prog 44 #[qv] w (Rt fun u w'=>(∃ c,u=.bool c∧(c=true→okQ q∧nodesW q≤12))∧Ext w w'):=by
  have h0:=h
  obtain⟨kv,rfl,hkv⟩:=h
  obtain⟨a,cap,rfl,hc,hm,hp⟩:=hkv.sl
  refine calls_E (n:=11) (args:=[.agg #[int q.op,int q.role,str q.text,.slice a q.kids.length cap] ]) Tryz.func44 rfl Tryz.ntmps44 (by simp) ?_
  refine E_seq ?_
  refine E_region ?_
  refine EL_box Z Z Z Z (fun bQ wQ xQ hbQ rQ0=>?_)
  have rQ:Row wQ bQ 36 [int q.op,int q.role,str q.text,.slice a q.kids.length cap]:=rQ0
  clear rQ0
  have hq:=h0.ext xQ
  have cn:=nodes_any q _ wQ hq
  (repeat' (first|refine eV Z Z (val_loadA Z Z Z rQ.at rfl) ?_|(refine EL_call Z Z (entersF Z Z en79) cn (fun vC wC hC=>?_);obtain⟨rfl,xC⟩:=hC;replace rQ:=rQ.ext xC;replace hq:=hq.ext xC;replace xQ:=xQ.trans xC;clear xC)|(refine EL_call Z Z (entersF Z Z en78) (qcheck_any q _ _ hq) (fun vC wE hC=>?_);obtain⟨⟨e,rfl,he⟩,xC⟩:=hC)|(refine at_EL ?_;first|refine eN ?_|refine eO Z Z ?_|refine eV Z Z (zA Z Z) ?_|refine eV Z Z (zB Z Z) ?_|(refine at_bin ?_;first|refine eD Z Z (zM Z Z Z) (fun hh=>?_) (fun hh=>?_)|refine eD Z Z (zN Z Z Z) (fun hh=>?_) (fun hh=>?_))|refine eV Z Z (zC Z Z Z) ?_|refine eV Z Z (zD Z Z Z) ?_)|(refine at_K ?_;first|refine K_then ?_)|(refine at_E ?_;first|refine E_seq ?_|refine E_region ?_|refine E_ret ?_)))
  all_goals (first|(exfalso;omega)|skip)
  all_goals first
    | exact ret_1 Z Z ⟨⟨_,rfl,fun e=>by cases e⟩,xQ⟩
    | exact ret_1 Z Z ⟨⟨_,rfl,fun _=>⟨(he (by assumption)).1,by omega⟩⟩,xQ.trans xC⟩
    | exact ret_1 Z Z ⟨⟨_,rfl,fun e=>by cases e⟩,xQ.trans xC⟩
set_option maxHeartbeats 4000000 in
set_option maxRecDepth 8000 in
theorem light49_any (docs:List Dc) (v:Value) (w:World) (hv:Sl w v docs) (hn:∀ d∈docs,Names d):Calls Tryz.prog 49 #[v] w (Rt fun u w'=>(∃ c,u=.bool c∧(c=true→docs.length≤4∧∀ d∈docs,LightD d))∧Ext w w'):=by
  have hv0:=hv
  obtain⟨a,cap,rfl,hc,hm,hp⟩:=hv.sl
  refine calls_E (n:=23) (args:=[.slice a docs.length cap]) Tryz.func49 rfl Tryz.ntmps49 (by simp) ?_
  (repeat' (first|(refine at_EL ?_;first|refine eN ?_|refine eV Z Z (zB Z Z) ?_)|(refine at_K ?_;first|refine K_then ?_)|(refine at_E ?_;first|refine E_seq ?_|refine E_region ?_|refine E_block ?_)))
  refine E_loop (ι:=Nat) (fun i=>[(0,.slice a docs.length cap),(3,int i)])
    (fun i wr=>i≤docs.length∧i≤5∧Ext w wr∧∀(j:Nat) (d:Dc),j<i→docs[j]?=some d→LightD d) (fun i=>docs.length-i) 0
    ⟨rfl,rfl,trivial⟩ ⟨Nat.zero_le _,by omega,Ext.refl _,fun j x hj=>absurd hj (by omega)⟩ ?_
  rintro i wr ⟨hi,hi5,hx,hall⟩
  by_cases hlt:i<docs.length
  · obtain ⟨b, off, rfl⟩ := hp (by omega)
    obtain⟨d,hd1⟩:∃ d,docs[i]?=some d:=⟨_,List.getElem?_eq_getElem hlt⟩
    obtain⟨a1,c1,a2,c2,a3,c3,hat,hdat⟩:=dc_elem (hv0.ext hx) hd1
    have cl:=dlight_any d _ wr hdat (hn d (List.mem_of_getElem? hd1))
    (repeat' (first|refine eV Z Z (val_indexAddr (m:=i) Z Z Z Z hlt) ?_|refine eV Z Z (val_loadA Z Z Z hat rfl) ?_|(refine EL_call Z Z (entersF Z Z en17) cl (fun vC wC hC=>?_);obtain⟨⟨c,rfl,hl⟩,xC⟩:=hC;cases c)|(refine at_EL ?_;first|refine eN ?_|refine eO Z Z ?_|refine eV Z Z (zA Z Z) ?_|refine eV Z Z (zB Z Z) ?_|(refine at_bin ?_;first|refine eD Z Z (zL Z Z Z) (fun hh=>?_) (fun hh=>?_)|refine eD Z Z (zN Z Z Z) (fun hh=>?_) (fun hh=>?_)|refine eV Z Z (zU Z Z Z (by omega) (by omega)) ?_)|(refine at_call ?_;first|refine eV Z Z (zK Z Z) ?_)|refine eV Z Z (zC Z Z Z) ?_|refine eV Z Z (zD Z Z Z) ?_|refine eV Z Z (zE Z Z) ?_)|(refine at_K ?_;first|refine K_then ?_|refine K_in ?_|refine K_then_ret ?_|refine K_then_exit ?_|refine K_in_ret ?_|refine K_in_exit ?_)|(refine at_E ?_;first|refine E_seq ?_|refine E_region ?_|refine E_cond_t Z ?_|refine E_cond_f Z ?_|refine E_block ?_|refine E_skip ?_|refine E_ret ?_|refine E_exit ?_)))
    all_goals (first|(exfalso;omega)|skip)
    all_goals first
      | exact ret_1 Z Z ⟨⟨_,rfl,fun e=>by cases e⟩,hx.trans xC⟩
      | (refine K_rnd (i + 1) ⟨rfl, rfl, trivial⟩ ⟨by omega, by omega, hx.trans xC, fun j y hj hy => ?_⟩ (by omega)
         by_cases ej:j=i
         · subst ej
           rw [hd1] at hy;cases hy
           exact hl rfl
         · exact hall j y (by omega) hy)
      | exact ret_1 Z Z ⟨⟨_,rfl,fun e=>by cases e⟩,hx⟩
  · obtain rfl:i=docs.length:=by omega
    have hL:∀ d∈docs,LightD d:=fun d hd=>by
      obtain⟨j,hj⟩:=List.getElem?_of_mem hd
      exact hall j d (List.getElem?_eq_some_iff.1 hj).1 hj
    (repeat' (first|(refine at_EL ?_;first|refine eN ?_|refine eO Z Z ?_|refine eV Z Z (zA Z Z) ?_|refine eV Z Z (zB Z Z) ?_|(refine at_bin ?_;first|refine eD Z Z (zL Z Z Z) (fun hh=>?_) (fun hh=>?_)|refine eD Z Z (zN Z Z Z) (fun hh=>?_) (fun hh=>?_))|(refine at_call ?_;first|refine eV Z Z (zK Z Z) ?_)|refine eV Z Z (zC Z Z Z) ?_|refine eV Z Z (zD Z Z Z) ?_)|(refine at_K ?_;first|refine K_then ?_|refine K_then_exit ?_|refine K_in_exit ?_)|(refine at_E ?_;first|refine E_seq ?_|refine E_region ?_|refine E_cond_t Z ?_|refine E_cond_f Z ?_|refine E_block ?_|refine E_skip ?_|refine E_ret ?_|refine E_exit ?_)))
    all_goals (first|(exfalso;omega)|skip)
    all_goals first
      | exact ret_1 Z Z ⟨⟨_,rfl,fun _=>⟨by omega,hL⟩⟩,hx⟩
      | exact ret_1 Z Z ⟨⟨_,rfl,fun e=>by cases e⟩,hx⟩
end Go.Proofs.YtnifmbbpfdghmaaGreatDoor
