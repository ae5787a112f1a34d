/-
  Walks of the laws of search: SearchAll.
-/
import Derived.Test.YtnifmbbpfdghmaaGreatDoorTj
import Derived.Test.YtnifmbbpfdghmaaGreatDoorTi
import Derived.Test.YtnifmbbpfdghmaaGreatDoorTk
set_option linter.all false
namespace Go.Proofs.YtnifmbbpfdghmaaGreatDoor
open Go.RowKit Go.En
theorem allAt_of {α β:Type} {R:α→β→Prop}:∀ {ls:List α} {cs:List β},ls.length=cs.length→(∀(i:Nat) a c,ls[i]?=some a→cs[i]?=some c→R a c)→AllAt R ls cs
  | [],[],_,_=>trivial
  | a::ls,c::cs,hl,h=>⟨h 0 a c rfl rfl,allAt_of (by simpa using hl) fun i x y hx hy=>h (i+1) x y (by simpa using hx) (by simpa using hy)⟩
  | [],_::_,hl,_=>by simp at hl
  | _::_,[],hl,_=>by simp at hl
def ixsF (docs:List Dc):List XsL:=docs.map fun d=>⟨Ix.buildF d.tiers d.notes⟩
theorem ixs_get {docs:List Dc} {i:Nat} {x:XsL} {d:Dc} (hx:(ixsF docs)[i]?=some x) (hd:docs[i]?=some d):x.xs=Ix.buildF d.tiers d.notes:=by
  unfold ixsF at hx
  rw [List.getElem?_map,hd] at hx
  cases hx;rfl
theorem other_get {docs:List Dc} {m:Nat} {i:Nat} {x:XsL} {d:Dc} (hm:((ixsF docs++ixsF docs).take m).length=docs.length) (hx:((ixsF docs++ixsF docs).take m)[i]?=some x) (hd:docs[i]?=some d):x.xs=Ix.buildF d.tiers d.notes:=by
  have hi:=(List.getElem?_eq_some_iff.1 hd).1
  have h2:(ixsF docs)[i]?=some x:=by
    rw [List.getElem?_take] at hx
    split at hx
    · rwa [List.getElem?_append_left (by unfold ixsF;simpa using hi)] at hx
    · cases hx
  exact ixs_get h2 hd
theorem flat_one (ss:List Value):(ss.map fun s=>[s]).flatten=ss:=by
  induction ss with
  | nil=>rfl
  | cons a t ih=>rw [List.map_cons,List.flatten_cons,ih];rfl
attribute [local irreducible] E EL K Val Enters Rt Calls bodyPost Code.wp RQ
set_option maxHeartbeats 8000000 in
set_option maxRecDepth 8000 in
theorem slaw11_any (docs:List Dc) (q:Qy) (z:Int) (vd vq:Value) (w:World) (hv:Sl w vd docs) (hn:∀ d∈docs,Names d) (hwq:QAt w vq q) (hz0:0≤z) (hz1:z≤255) (hT:Tabs w):Calls Tryz.prog 11 #[vd,vq,.int .u8 z] w (Rt fun u w'=>u=.bool true∧Ext w w'):=by
  have hd0:=hv
  obtain⟨da,dc,rfl,_,_,hdp⟩:=hv.sl
  have hqq:=hwq
  obtain⟨kv,rfl,hkv⟩:=hwq
  obtain⟨ka,kc,rfl,_,_,_⟩:=hkv.sl
  refine calls_E (n:=70) (args:=[.slice da docs.length dc,.agg #[int q.op,int q.role,str q.text,.slice ka q.kids.length kc],.int .u8 z]) Tryz.func11 rfl Tryz.ntmps11 (by simp) ?_
  refine E_seq ?_
  refine E_region ?_
  refine EL_box Z Z Z Z (fun bQ wQ xQ hbQ rQ0=>?_)
  have rQ:Row wQ bQ 36 [int q.op,int q.role,str q.text,.slice ka q.kids.length kc]:=rQ0
  clear rQ0
  have hX:=xQ
  (repeat' ((fail_if_success (refine E_seq (x:=(Code.region 3 _ _)) ?_));first|refine eV Z Z (val_loadA Z Z Z rQ.at rfl) ?_|(refine EL_call Z Z (entersF Z Z en49) (light49_any docs _ _ (hd0.ext hX) hn) (fun vC wCd hC=>?_);obtain⟨⟨cd,rfl,hld⟩,xC⟩:=hC;replace rQ:=rQ.ext xC;replace hX:=hX.trans xC;clear xC;cases cd)|(refine EL_call Z Z (entersF Z Z en44) (asked44_any q _ _ (hqq.ext hX)) (fun vC wCq hC=>?_);obtain⟨⟨cq,rfl,haq⟩,xC⟩:=hC;replace rQ:=rQ.ext xC;replace hX:=hX.trans xC;clear xC;cases cq)|(refine EL_call Z Z (entersF Z Z en39) (sawake_any _ (Tabs.ext hT hX)) (fun vA wA hA=>?_);obtain⟨rfl,xA⟩:=hA)|(refine at_EL ?_;first|refine eN ?_|refine eO Z Z ?_|refine eV Z Z (zA Z Z) ?_|refine eV Z Z (zB Z Z) ?_|refine eV Z Z (zC Z Z Z) ?_|refine eV Z Z (zD Z Z Z) ?_|refine eV Z Z (zE Z Z) ?_)|(refine at_K ?_;first|refine K_then ?_|refine K_then_ret ?_)|(refine at_E ?_;first|refine E_seq ?_|refine E_region ?_|refine E_cond_t Z ?_|refine E_cond_f Z ?_|refine E_skip ?_|refine E_ret ?_)))
  all_goals (first|(exfalso;omega)|skip)
  all_goals first
    | exact ret_1 Z Z ⟨rfl,hX.trans xA⟩
    | skip
  obtain⟨hlen,hL⟩:=hld rfl
  have hok:=(haq rfl).1
  refine E.sub (M:=[(0,.slice da docs.length dc),(2,.int .u8 z),(4,.pointer (some ⟨bQ,0,none⟩))]) ⟨rfl,rfl,rfl,trivial⟩ ?_
  (repeat' (first|(refine at_EL ?_;first|refine eN ?_|refine eV Z Z (zA Z Z) ?_|refine eV Z Z (zB Z Z) ?_|(refine at_call ?_;first|refine eV Z Z (zK Z Z) ?_))|(refine at_K ?_;first|refine K_then ?_)|(refine at_E ?_;first|refine E_seq ?_|refine E_region ?_|refine E_block ?_)))
  refine E_loop (ι:=Nat × Value × List Value) (fun s=>[(0,.slice da docs.length dc),(2,.int .u8 z),(4,.pointer (some ⟨bQ,0,none⟩)),(7,s.2.1),(21,int docs.length),(22,int s.1)])
    (fun s wr=>s.1≤docs.length∧Ext wCq wr∧s.2.2.length=s.1∧wr.ownsRow wCq.heap.size 49 1 s.2.1 s.1 s.2.2∧∀(j:Nat) (sv:Value) (d:Dc),s.2.2[j]?=some sv→docs[j]?=some d→SlG (Nb s.2.1) wr sv (Ix.buildF d.tiers d.notes)) (fun s=>docs.length-s.1) (0,.slice none 0 0,[])
    ⟨rfl,rfl,rfl,rfl,rfl,rfl,trivial⟩ ⟨Nat.zero_le _,Ext.refl _,rfl,World.ownsRow_nil _ _ _ _,fun j sv d h=>by simp at h⟩ ?_
  rintro⟨i,vO,ss⟩ wr ⟨hi,hx,hsl,hown,hss⟩
  dsimp only at hi hx hsl hown hss ⊢
  have hXr:=hX.trans hx
  have rQr:=rQ.ext hx
  by_cases hlt:i<docs.length
  · obtain⟨b,off,rfl⟩:=hdp (by omega)
    obtain⟨d,hdi⟩:∃ d,docs[i]?=some d:=⟨_,List.getElem?_eq_getElem hlt⟩
    have h:=hL d (List.mem_of_getElem? hdi)
    obtain⟨a1,c1,a2,c2,a3,c3,hat,hdat⟩:=dc_elem (hd0.ext hXr) hdi
    (repeat' (first|refine eV Z Z (val_indexAddr (m:=i) Z Z Z Z (by omega)) ?_|refine eV Z Z (val_loadA Z Z Z hat rfl) ?_|(refine EL_call Z Z (entersF Z Z en48) (Ix.rbuildW_any d _ _ hdat (light_tierIn h) (light_few h)) (fun vB wB hB=>?_);obtain⟨xB,s0,rfl,sB⟩:=hB;obtain⟨ba,bc,rfl,_,_,_⟩:=sB.sl)|(refine EL_appO (news:=[.slice ba (Ix.buildF d.tiers d.notes).length bc]) (own_ext (own_ext hown xB) xS) ((hx.trans xB).trans xS) (fun _=>⟨_,_,rfl,rS.at⟩) Z Z Z Z Z Z Z Z Z (by omega) (by omega) (fun vJ wJ oJ xJ kJ hJ=>?_))|(refine at_EL ?_;first|refine eN ?_|refine eV Z Z (zA Z Z) ?_|refine eV Z Z (zB Z Z) ?_|(refine at_bin ?_;first|refine eD Z Z (zL Z Z Z) (fun hh=>?_) (fun hh=>?_)|refine eV Z Z (zU Z Z Z (by omega) (by omega)) ?_)|refine eL Z Z Z Z Z Z Z Z (fun bS wS xS hbS rS=>?_))|(refine at_K ?_;first|refine K_then ?_|refine K_in ?_|refine K_then_exit ?_|refine K_in_exit ?_)|(refine at_E ?_;first|refine E_seq ?_|refine E_region ?_|refine E_cond_t Z ?_|refine E_cond_f Z ?_|refine E_block ?_|refine E_skip ?_|refine E_exit ?_)))
    all_goals (first|(exfalso;omega)|skip)
    have hmv:=Nb.mv kJ hJ
    have hnO:∀ k,wr.heap.size≤k→Nb vO k:=fun k hk e=>by have:=hown.lt k e.symm;omega
    refine K_rnd (i+1,vJ,ss++[.slice ba (Ix.buildF d.tiers d.notes).length bc]) ⟨rfl,rfl,rfl,rfl,rfl,rfl,trivial⟩ ⟨by dsimp only;omega,xJ,by simp [hsl],oJ,fun j sv e hj he=>?_⟩ (by dsimp only;omega)
    dsimp only at hj
    by_cases hji:j<i
    · rw [List.getElem?_append_left (by omega)] at hj
      exact(((hss j sv e hj he).ext xB).ext xS).move hmv
    · have hj2:=(List.getElem?_eq_some_iff.1 hj).1
      simp at hj2
      obtain rfl:j=i:=by omega
      rw [List.getElem?_append_right (by omega),hsl,Nat.sub_self] at hj
      simp at hj
      subst hj
      rw [hdi] at he
      cases he
      exact((SlG.wk sB hnO).ext xS).move hmv
  · obtain rfl:i=docs.length:=by omega
    have sO:Sl wr vO (ixsF docs):=own_Sl (css:=ss.map fun s=>[s]) (by rw [flat_one];exact hown) (allAt_of (by unfold ixsF;simp [hsl]) fun j x c hxj hcj=>by
      rw [List.getElem?_map] at hcj
      cases hs2:ss[j]? with
      | none=>rw [hs2] at hcj;cases hcj
      | some sv=>
        rw [hs2] at hcj
        cases hcj
        have hjl:j<docs.length:=by have:=(List.getElem?_eq_some_iff.1 hs2).1;omega
        obtain⟨d,hd⟩:∃ d,docs[j]?=some d:=⟨_,List.getElem?_eq_getElem hjl⟩
        have e:=ixs_get hxj hd
        exact⟨sv,rfl,by rw [e];exact(hss j sv d hs2 hd).any⟩) (by unfold ixsF;simp) (by unfold ixsF;simp;omega)
    have hil:(ixsF docs).length=docs.length:=by unfold ixsF;simp
    have sO0:=sO
    obtain⟨oa,oc,rfl,_,_,_⟩:=sO.sl
    obtain⟨_,_,hve,_,hvp⟩:=own_sl hown
    rw [hil] at hve
    cases hve
    rw [hil]
    have hone:ss.all Value.oneCell'=true:=by
      rw [List.all_eq_true]
      intro v hv2
      obtain⟨j,hj⟩:=List.getElem?_of_mem hv2
      have hjl:j<docs.length:=by have:=(List.getElem?_eq_some_iff.1 hj).1;omega
      obtain⟨d,hd⟩:∃ d,docs[j]?=some d:=⟨_,List.getElem?_eq_getElem hjl⟩
      obtain⟨a,c,e,_⟩:=(hss j v d hj hd).sl
      rw [e];rfl
    have hil2:∀ m,m≤docs.length+docs.length→((ixsF docs++ixsF docs).take m).length=m:=fun m hm=>by rw [List.length_take,List.length_append,hil];omega
    have hmod0:=Int.emod_nonneg z (show(((docs.length+docs.length:Nat):Int)+1)≠0 by omega)
    have hmod1:=Int.emod_lt_of_pos z (show 0<(((docs.length+docs.length:Nat):Int)+1) by omega)
    obtain⟨m,hm⟩:∃ m:Nat,z % (((docs.length+docs.length:Nat):Int)+1)=(m:Int):=⟨(z % (((docs.length+docs.length:Nat):Int)+1)).toNat,by omega⟩
    have hm2:m≤docs.length+docs.length:=by omega
    (repeat' (first|(refine EL_appO (w0:=wr) (news:=ss) (own_row (B:=wr.heap.size) (n:=0) (size:=1) rS rfl (by omega) (by omega)) xS (fun h0=>by obtain⟨b',o',e',hat'⟩:=hvp h0;exact⟨b',o',e',hat'.ext xS⟩) Z Z Z Z Z (by rw [hsl];simp) hone rfl rfl (by omega) (by omega) (fun vJ wJ oJ xJ kJ hJ=>?_))|(refine at_EL ?_;first|refine eN ?_|refine eV Z Z (zA Z Z) ?_|refine eV Z Z (zB Z Z) ?_|(refine at_bin ?_;first|refine eD Z Z (zL Z Z Z) (fun hh=>?_) (fun hh=>?_))|refine eL Z Z Z Z Z Z Z Z (fun bS wS xS hbS rS=>?_))|(refine at_K ?_;first|refine K_then ?_|refine K_then_exit ?_|refine K_in_exit ?_)|(refine at_E ?_;first|refine E_seq ?_|refine E_region ?_|refine E_cond_t Z ?_|refine E_cond_f Z ?_|refine E_block ?_|refine E_skip ?_|refine E_exit ?_)))
    all_goals (first|(exfalso;omega)|skip)
    (repeat' (first|(refine EL_appO (w0:=wr) (news:=ss) oJ xJ (fun h0=>by obtain⟨b',o',e',hat'⟩:=hvp h0;exact⟨b',o',e',hat'.ext xJ⟩) Z Z Z Z Z (by rw [hsl];simp) hone rfl rfl (by omega) (by omega) (fun vM wM oM xM kM hM=>?_))|(refine at_EL ?_;first|refine eN ?_|refine eV Z Z (zA Z Z) ?_|refine eV Z Z (zB Z Z) ?_)|(refine at_K ?_;first|refine K_then ?_)|(refine at_E ?_;first|refine E_seq ?_|refine E_region ?_)))
    replace oM:wM.ownsRow wr.heap.size 49 1 vM (0+docs.length+docs.length) (ss++ss):=oM
    have sM:Sl wM vM (ixsF docs++ixsF docs):=own_Sl (css:=(ss++ss).map fun s=>[s]) (n:=0+docs.length+docs.length) (by rw [flat_one];exact oM) (by
      have hA:AtsG Tt wM (ixsF docs) (ss.map fun s=>[s]):=allAt_of (by unfold ixsF;simp [hsl]) fun j x c hxj hcj=>by
        rw [List.getElem?_map] at hcj
        cases hs2:ss[j]? with
        | none=>rw [hs2] at hcj;cases hcj
        | some sv=>
          rw [hs2] at hcj
          cases hcj
          have hjl:j<docs.length:=by have:=(List.getElem?_eq_some_iff.1 hs2).1;omega
          obtain⟨d,hd⟩:∃ d,docs[j]?=some d:=⟨_,List.getElem?_eq_getElem hjl⟩
          have e:=ixs_get hxj hd
          exact⟨sv,rfl,by rw [e];exact((hss j sv d hs2 hd).any).ext xM⟩
      rw [List.map_append]
      exact AllAt.append hA hA) (by rw [List.length_append,hil];omega) (by rw [List.length_append,hil];omega)
    have sM0:=sM
    obtain⟨ma,mc,eM,hmc,_,_⟩:=sM.sl
    have eM2:vM=.slice ma (docs.length+docs.length) mc:=by rw [eM,List.length_append,hil]
    rw [List.length_append,hil] at hmc
    subst eM2
    (repeat' (first|refine eV Z Z (val_conv_int (k:=.u8) (k':=.i64) Z Z (show(-9223372036854775808:Int)≤z by omega) (show z≤(9223372036854775807:Int) by omega)) ?_|refine eV Z Z (val_rem Z Z Z hz0 (by omega)) ?_|refine eV Z Z (val_slice_h (b:=m) Z Z Z hm (by omega)) ?_|(refine at_EL ?_;first|refine eN ?_|refine eV Z Z (zA Z Z) ?_|refine eV Z Z (zB Z Z) ?_|(refine at_bin ?_;first|refine eV Z Z (zU Z Z Z (by omega) (by omega)) ?_)|(refine at_call ?_;first|refine eV Z Z (zK Z Z) ?_))|(refine at_K ?_;first|refine K_then ?_)|(refine at_E ?_;first|refine E_seq ?_)))
    have sT:Sl wM (.slice ma m mc) ((ixsF docs++ixsF docs).take m):=by
      have h1:=sM0.take (k:=m) (by rw [List.length_append,hil];omega)
      exact h1
    refine E.sub (M:=[(0,.slice da docs.length dc),(4,.pointer (some ⟨bQ,0,none⟩)),(7,.slice oa docs.length oc),(10,.slice ma m mc)]) ⟨rfl,rfl,rfl,rfl,trivial⟩ ?_
    have hXM:=hXr.trans xM
    have rQM:=rQr.ext xM
    have sOM:=sO0.ext xM
    rw [hil] at sOM
    have K1:∀(j:Nat) (x:XsL) (d:Dc),(ixsF docs).length=docs.length→(ixsF docs)[j]?=some x→docs[j]?=some d→Fits x.xs∧Linked x.xs d:=fun j x d _ hx hd=>by
      have h:=hL d (List.mem_of_getElem? hd)
      rw [ixs_get hx hd];exact⟨build_fits h,build_linked h⟩
    have K2:∀(j:Nat) (x:XsL) (d:Dc),((ixsF docs++ixsF docs).take m).length=docs.length→((ixsF docs++ixsF docs).take m)[j]?=some x→docs[j]?=some d→Fits x.xs∧Linked x.xs d:=fun j x d hm hx hd=>by
      have h:=hL d (List.mem_of_getElem? hd)
      rw [other_get hm hx hd];exact⟨build_fits h,build_linked h⟩
    obtain⟨A,hA⟩:∃ A,A=if (ixsF docs).length=docs.length then allF docs q else []:=⟨_,rfl⟩
    obtain⟨O,hO⟩:∃ O,O=if ((ixsF docs++ixsF docs).take m).length=docs.length then allF docs q else []:=⟨_,rfl⟩
    have cA:∀ wq,Ext wM wq→Calls Tryz.prog 51 #[.slice oa docs.length oc,.slice da docs.length dc,.agg #[int q.op,int q.role,str q.text,.slice ka q.kids.length kc] ] wq (Rt fun u w'=>Ext wq w'∧Sl w' u A):=fun wq xq=>by
      rw [hA];exact sall51_any docs (ixsF docs) q hok _ _ _ wq (sOM.ext xq) (hd0.ext (hXM.trans xq)) (hqq.ext (hXM.trans xq)) (Tabs.ext hT (hXM.trans xq)) hlen hL K1
    have cB:∀ wq,Ext wM wq→Calls Tryz.prog 52 #[.slice oa docs.length oc,.slice da docs.length dc,.agg #[int q.op,int q.role,str q.text,.slice ka q.kids.length kc] ] wq (Rt fun u w'=>Ext wq w'∧Sl w' u A):=fun wq xq=>by
      rw [hA];exact rall52_any docs (ixsF docs) q hok _ _ _ wq (sOM.ext xq) (hd0.ext (hXM.trans xq)) (hqq.ext (hXM.trans xq)) hlen hL
    have cC:∀ wq,Ext wM wq→Calls Tryz.prog 51 #[.slice ma m mc,.slice da docs.length dc,.agg #[int q.op,int q.role,str q.text,.slice ka q.kids.length kc] ] wq (Rt fun u w'=>Ext wq w'∧Sl w' u O):=fun wq xq=>by
      rw [hO];exact sall51_any docs _ q hok _ _ _ wq (sT.ext xq) (hd0.ext (hXM.trans xq)) (hqq.ext (hXM.trans xq)) (Tabs.ext hT (hXM.trans xq)) hlen hL K2
    have cD:∀ wq,Ext wM wq→Calls Tryz.prog 52 #[.slice ma m mc,.slice da docs.length dc,.agg #[int q.op,int q.role,str q.text,.slice ka q.kids.length kc] ] wq (Rt fun u w'=>Ext wq w'∧Sl w' u O):=fun wq xq=>by
      rw [hO];exact rall52_any docs _ q hok _ _ _ wq (sT.ext xq) (hd0.ext (hXM.trans xq)) (hqq.ext (hXM.trans xq)) hlen hL
    clear hA hO K1 K2 sM sM0 sT sOM hss hvp
    (repeat' (first|refine yV Z Z (fun wq _ xq=>val_loadA Z Z Z (rQM.ext xq).at rfl) ?_|(refine RQ_callR (f:=51) (fun u w'=>Sl w' u A) (fun δ=>#[.slice oa docs.length oc,.slice da docs.length dc,.agg #[int q.op,int q.role,str q.text,.slice ka q.kids.length kc] ]) Z Z (fun _ _ _ _ xe h=>SlG.ext h xe) (fun _ _ _=>entersF Z Z en51) (fun wq δ xq hd=>?_) ?_;exact calls_mono (cA wq xq) (fun _ _ hh=>⟨hh.2,hh.1⟩))|(refine RQ_callR (f:=52) (fun u w'=>Sl w' u A) (fun δ=>#[.slice oa docs.length oc,.slice da docs.length dc,.agg #[int q.op,int q.role,str q.text,.slice ka q.kids.length kc] ]) Z Z (fun _ _ _ _ xe h=>SlG.ext h xe) (fun _ _ _=>entersF Z Z en52) (fun wq δ xq hd=>?_) ?_;exact calls_mono (cB wq xq) (fun _ _ hh=>⟨hh.2,hh.1⟩))|(refine RQ_callR (f:=51) (fun u w'=>Sl w' u O) (fun δ=>#[.slice ma m mc,.slice da docs.length dc,.agg #[int q.op,int q.role,str q.text,.slice ka q.kids.length kc] ]) Z Z (fun _ _ _ _ xe h=>SlG.ext h xe) (fun _ _ _=>entersF Z Z en51) (fun wq δ xq hd=>?_) ?_;exact calls_mono (cC wq xq) (fun _ _ hh=>⟨hh.2,hh.1⟩))|(refine RQ_callR (f:=52) (fun u w'=>Sl w' u O) (fun δ=>#[.slice ma m mc,.slice da docs.length dc,.agg #[int q.op,int q.role,str q.text,.slice ka q.kids.length kc] ]) Z Z (fun _ _ _ _ xe h=>SlG.ext h xe) (fun _ _ _=>entersF Z Z en52) (fun wq δ xq hd=>?_) ?_;exact calls_mono (cD wq xq) (fun _ _ hh=>⟨hh.2,hh.1⟩))|(refine RQ_callV (f:=50) (v:=.bool true) (fun δ=>#[δ 50,δ 54]) Z Z (fun _ _ _=>entersF Z Z en50) (fun wq δ xq hd=>?_) ?_;(have:=refs50_any A A _ _ wq (hd 50 rfl _ rfl) (hd 54 rfl _ rfl);rw [decide_eq_true rfl] at this;exact this))|(refine RQ_callV (f:=50) (v:=.bool true) (fun δ=>#[δ 60,δ 64]) Z Z (fun _ _ _=>entersF Z Z en50) (fun wq δ xq hd=>?_) ?_;(have:=refs50_any O O _ _ wq (hd 60 rfl _ rfl) (hd 64 rfl _ rfl);rw [decide_eq_true rfl] at this;exact this))|refine RQ_call (v:=.bool true) Z Z (fun _ _ _=>entersF Z Z en39) (fun wq xq=>sawake_any wq (Tabs.ext hT (hXM.trans xq))) ?_|refine RQ_end (fun wq δ xq hR=>?_)|(refine at_EL ?_;first|refine eN ?_)|(refine at_K ?_;first|refine K_then ?_)|(refine at_E ?_;first|refine E_ret ?_|refine E_dq mixedOk (by kernel_rfl) Z ?_)|(refine at_RQ ?_;first|refine yV Z Z (fun _ _ _=>zA Z Z) ?_|refine yV Z Z (fun _ _ _=>zB Z Z) ?_|refine yV Z Z (fun _ _ _=>zC Z Z Z) ?_)))
    all_goals (first|(exfalso;omega)|skip)
    all_goals exact ret_1 Z Z ⟨rfl,hXM.trans xq⟩
end Go.Proofs.YtnifmbbpfdghmaaGreatDoor
