/-
  Walks of the laws of search: SearchFinds.
-/
import Derived.Test.YtnifmbbpfdghmaaGreatDoorTj
import Derived.Test.YtnifmbbpfdghmaaGreatDoorTi
import Derived.Test.YtnifmbbpfdghmaaGreatDoorTk
set_option linter.all false
namespace Go.Proofs.YtnifmbbpfdghmaaGreatDoor
open Go.RowKit Go.En
theorem filtA_snoc {α:Type} {l:List α} {f:α→Bool} {i:Nat} {x:α} (hx:l[i]?=some x):(l.take (i+1)).filter f=(l.take i).filter f++(if f x=true then [x] else []):=by
  obtain⟨hi,rfl⟩:=List.getElem?_eq_some_iff.1 hx
  rw [List.take_succ_eq_append_getElem hi,List.filter_append]
  congr 1
  by_cases hq:f l[i]=true <;> simp [hq]
def wantP (d:Dc) (k:Int) (p:List UInt8) (n:Note):Bool:=decide (Ix.roleAt d.tiers n=k)&&matchF p n.text
def roleB (d:Dc) (k:Int) (n:Note):Bool:=decide (Ix.roleAt d.tiers n=k)
theorem want_ids {d:Dc} (h:LightD d) {k:Int} (hk:k≠0) (p:List UInt8):(d.notes.filter (wantP d k p)).map (fun n=>n.id)=idsOf d (textP matchF d k p):=by
  unfold idsOf
  rw [List.filter_map]
  congr 1
  refine List.filter_congr fun n hn=>?_
  show wantP d k p n=textP matchF d k p n.id
  rw [text_of h hn,cur_of h hn]
  unfold wantP
  congr 1
  rw [Bool.eq_iff_iff,decide_eq_true_eq,ofRole_iff h hn]
  exact roleAt_eq h hn hk
theorem role_len {d:Dc} (h:LightD d) {k:Int} (hk:k≠0):(d.notes.filter (roleB d k)).length=(idsOf d (ofRoleP d k)).length:=by
  unfold idsOf
  rw [List.filter_map,List.length_map]
  congr 1
  refine List.filter_congr fun n hn=>?_
  show roleB d k n=ofRoleP d k n.id
  unfold roleB
  rw [Bool.eq_iff_iff,decide_eq_true_eq,ofRole_iff h hn]
  exact roleAt_eq h hn hk
attribute [local irreducible] E EL K Val Enters Rt Calls bodyPost Code.wp RQ
set_option maxHeartbeats 8000000 in
set_option maxRecDepth 8000 in
theorem slaw13_any (d:Dc) (z:Int) (p:List UInt8) (vd:Value) (w:World) (hvd:DcAt w vd d) (hnd:Names d) (hz0:0≤z) (hz1:z≤255) (hT:Tabs w):Calls Tryz.prog 13 #[vd,.int .u8 z,str p] w (Rt fun u w'=>u=.bool true∧Ext w w'):=by
  have hdd:=hvd
  obtain⟨sv,tv,nv,rfl,_,ht,hnt⟩:=hvd
  obtain⟨ta,tc,rfl,_,_,htp⟩:=ht.sl
  obtain⟨na,nc,rfl,_,_,hnp⟩:=hnt.sl
  refine calls_E (n:=92) (args:=[.agg #[int d.rid,str d.rname,int d.len,int d.day,sv,.slice ta d.tiers.length tc,.slice na d.notes.length nc],.int .u8 z,str p]) Tryz.func13 rfl Tryz.ntmps13 (by simp) ?_
  refine E_seq ?_
  refine E_region ?_
  refine EL_box Z Z Z Z (fun bD wD xD hbD rD0=>?_)
  have rD:Row wD bD 28 [int d.rid,str d.rname,int d.len,int d.day,sv,.slice ta d.tiers.length tc,.slice na d.notes.length nc]:=rD0
  clear rD0
  have hX:=xD
  (repeat' ((fail_if_success (refine E_seq (x:=(Code.region 3 _ _)) ?_));first|refine eV Z Z (val_loadA Z Z Z rD.at rfl) ?_|(refine EL_call Z Z (entersF Z Z en17) (dlight_any d _ _ (hdd.ext hX) hnd) (fun vC wCd hC=>?_);obtain⟨⟨cd,rfl,hld⟩,xC⟩:=hC;replace rD:=rD.ext xC;replace hX:=hX.trans xC;clear xC;cases cd)|(refine EL_call Z Z (entersF Z Z en54) (rcheck54_any p _) (fun vC wCp hC=>?_);obtain⟨rfl,xC⟩:=hC;replace rD:=rD.ext xC;replace hX:=hX.trans xC;clear xC)|(refine EL_call Z Z (entersF Z Z en39) (sawake_any _ (Tabs.ext hT hX)) (fun vA wA hA=>?_);obtain⟨rfl,xA⟩:=hA)|(refine at_EL ?_;first|refine eN ?_|refine eO Z Z ?_|refine eV Z Z (zA Z Z) ?_|refine eV Z Z (zB Z Z) ?_|(refine at_bin ?_;first|refine eD Z Z (zQ Z Z Z) (fun hh=>?_) (fun hh=>?_))|refine eV Z Z (zC Z Z Z) ?_|refine eV Z Z (zD Z Z Z) ?_|refine eV Z Z (zE Z Z) ?_)|(refine at_K ?_;first|refine K_then ?_|refine K_then_ret ?_)|(refine at_E ?_;first|refine E_seq ?_|refine E_region ?_|refine E_cond_t Z ?_|refine E_cond_f Z ?_|refine E_skip ?_|refine E_ret ?_)))
  all_goals (first|(exfalso;omega)|skip)
  all_goals first
    | exact ret_1 Z Z ⟨rfl,hX.trans xA⟩
    | skip
  have hd:=hld rfl
  have hN:=hd.nnotes
  have hfit:=build_fits hd
  have hlk:=build_linked hd
  obtain⟨xs,hxs⟩:∃ xs,xs=Ix.buildF d.tiers d.notes:=⟨_,rfl⟩
  rw [← hxs] at hfit hlk
  refine E.sub (M:=[(1,.int .u8 z),(2,str p),(3,.pointer (some ⟨bD,0,none⟩))]) ⟨rfl,rfl,rfl,trivial⟩ ?_
  obtain⟨k,hk⟩:∃ k,k=1+z % 5:=⟨_,rfl⟩
  have hk0:k≠0:=by omega
  (repeat' ((fail_if_success (refine E_seq (x:=(Code.region 4 _ _)) ?_));first|refine eV Z Z (val_conv_int (k:=.u8) (k':=.i64) Z Z (show(-9223372036854775808:Int)≤z by omega) (show z≤(9223372036854775807:Int) by omega)) ?_|refine eV Z Z (val_rem Z Z Z hz0 (by omega)) ?_|(refine at_EL ?_;first|refine eN ?_|refine eV Z Z (zA Z Z) ?_|refine eV Z Z (zB Z Z) ?_|(refine at_bin ?_;first|refine eV Z Z (zU Z Z Z (by omega) (by omega)) ?_))|(refine at_K ?_;first|refine K_then ?_)|(refine at_E ?_;first|refine E_seq ?_|refine E_region ?_)))
  refine E.sub (M:=[(2,str p),(3,.pointer (some ⟨bD,0,none⟩)),(7,int k)]) ⟨rfl,rfl,(show some (int (1+z % 5))=some (int k) by rw [hk]),trivial⟩ ?_
  (repeat' (first|refine eV Z Z (val_loadA Z Z Z rD.at rfl) ?_|(refine EL_call Z Z (entersF Z Z en48) (Ix.rbuild_any d _ _ (hdd.ext hX) (light_tierIn hd) (light_few hd)) (fun vB wB hB=>?_);obtain⟨xC,s,rfl,sX⟩:=hB;replace rD:=rD.ext xC;replace hX:=hX.trans xC;clear xC;rw [← hxs] at sX;obtain⟨sa,sc,rfl,_,_,_⟩:=sX.sl)|(refine at_E ?_;first|refine E_seq ?_|refine E_region ?_)))
  refine EL_alloc Z Z Z (fun bX wX xX hbX rX0=>?_)
  refine EL_storeP (cs:=[.slice sa xs.length sc]) rX0 xX (by omega) Z Z Z Z Z Z Z Z (Nat.le_refl _) (fun wY rX1 xY kY=>?_)
  have rX:Row wY bX 49 [.slice sa xs.length sc]:=rX1
  clear rX0 rX1 kY
  replace rD:=rD.ext xY
  replace hX:=hX.trans xY
  replace sX:=sX.ext xY
  (repeat' (first|refine eV Z Z (val_load Z Z Z (rD.cellAt (j:=6) Z)) ?_|(refine at_EL ?_;first|refine eN ?_|refine eV Z Z (zA Z Z) ?_|refine eV Z Z (zB Z Z) ?_|(refine at_call ?_;first|refine eV Z Z (zK Z Z) ?_)|refine eV Z Z (zH Z Z) ?_)|(refine at_K ?_;first|refine K_then ?_)|(refine at_E ?_;first|refine E_seq ?_|refine E_region ?_|refine E_block ?_)))
  refine E_loop (ι:=Nat × Value) (fun s=>[(2,str p),(3,.pointer (some ⟨bD,0,none⟩)),(7,int k),(8,.pointer (some ⟨bX,0,none⟩)),(9,s.2),(10,int (((d.notes.take s.1).filter (roleB d k)).length:Nat)),(29,int d.notes.length),(30,int s.1)])
    (fun s wr=>s.1≤d.notes.length∧Ext wY wr∧wr.ownsRow wY.heap.size 3 1 s.2 (((d.notes.take s.1).filter (wantP d k p)).map fun n=>n.id).length ((((d.notes.take s.1).filter (wantP d k p)).map fun n=>n.id).map int)) (fun s=>d.notes.length-s.1) (0,.slice none 0 0)
    ⟨rfl,rfl,rfl,rfl,rfl,rfl,rfl,rfl,trivial⟩ ⟨Nat.zero_le _,Ext.refl _,World.ownsRow_nil _ _ _ _⟩ ?_
  rintro⟨i,vO⟩ wr ⟨hi,hx,hown⟩
  dsimp only at hi hx hown ⊢
  have hXr:=hX.trans hx
  have rDr:=rD.ext hx
  have hl1:((d.notes.take i).filter (roleB d k)).length≤14:=Nat.le_trans (List.length_filter_le _ _) (Nat.le_trans (List.length_take_le _ _) (by omega))
  have hl2:(((d.notes.take i).filter (wantP d k p)).map fun n=>n.id).length≤14:=by rw [List.length_map];exact Nat.le_trans (List.length_filter_le _ _) (Nat.le_trans (List.length_take_le _ _) (by omega))
  by_cases hlt:i<d.notes.length
  · obtain⟨bn,on,rfl⟩:=hnp (by omega)
    obtain⟨n,hn1⟩:∃ n,d.notes[i]?=some n:=⟨_,List.getElem?_eq_getElem hlt⟩
    have hnm:=List.mem_of_getElem? hn1
    obtain⟨t,kt,hkt,htt,hra,_⟩:=tier_of hd hnm
    have hktl:=(List.getElem?_eq_some_iff.1 htt).1
    obtain⟨bt,ot,rfl⟩:=htp (by omega)
    have hatn:=note_elem (hnt.ext hXr) hn1
    have hatt:=tier_elem (ht.ext hXr) htt
    have hatn2:=hatn
    rw [hkt] at hatn2
    have hs1:=filtA_snoc (f:=roleB d k) hn1
    have hs2:=filtA_snoc (f:=wantP d k p) hn1
    have htx:=(hd.notes i n hn1).text.1
    by_cases hr:t.role=k
    · rw [if_pos (by unfold roleB;rw [hra];exact decide_eq_true hr)] at hs1
      have hwp:wantP d k p n=matchF p n.text:=by unfold wantP;rw [hra,decide_eq_true hr,Bool.true_and]
      cases hpx:matchF p n.text with
      | true=>
        rw [if_pos (by rw [hwp];exact hpx)] at hs2
        have cm:=rMatch_any p n.text (by omega)
        rw [hpx] at cm
        (repeat' (first|refine yV Z Z (fun wq _ xq=>val_load Z Z Z ((rDr.ext xq).cellAt (j:=5) Z)) ?_|refine yV Z Z (fun wq _ xq=>val_load Z Z Z ((rDr.ext xq).cellAt (j:=6) Z)) ?_|refine yV Z Z (fun _ _ _=>val_indexAddr (m:=i) Z Z Z Z hlt) ?_|refine yV Z Z (fun wq _ xq=>val_load Z Z Z ((hatn2.ext xq).cellAt (j:=1) Z)) ?_|refine yV Z Z (fun _ _ _=>val_indexAddr (m:=kt) Z Z Z Z hktl) ?_|refine yV Z Z (fun wq _ xq=>val_load Z Z Z ((hatt.ext xq).cellAt (j:=2) Z)) ?_|refine eV Z Z (val_load Z Z Z ((rDr.ext (by assumption)).cellAt (j:=6) Z)) ?_|refine eV Z Z (val_indexAddr (m:=i) Z Z Z Z hlt) ?_|refine eV Z Z (val_load Z Z Z ((hatn.ext (by assumption)).cellAt (j:=6) Z)) ?_|refine eV Z Z (val_load Z Z Z ((hatn.ext (by assumption)).cellAt (j:=0) Z)) ?_|(refine EL_call Z Z (entersF Z Z en55) (cm _) (fun vC wC hC=>?_);obtain⟨rfl,xC⟩:=hC;replace xq:=xq.trans xC)|(refine EL_appO (news:=[int n.id]) (own_ext (own_ext hown xq) xS) ((hx.trans xq).trans xS) (fun _=>⟨_,_,rfl,rS.at⟩) Z Z Z Z Z Z Z Z Z (by omega) (by omega) (fun vJ wJ oJ xJ kJ hJ=>?_))|(refine at_EL ?_;first|refine eN ?_|refine eV Z Z (zA Z Z) ?_|refine eV Z Z (zB Z Z) ?_|(refine at_bin ?_;first|refine eD Z Z (zL Z Z Z) (fun hh=>?_) (fun hh=>?_)|refine eV Z Z (zU Z Z Z (by omega) (by omega)) ?_)|refine eV Z Z (zH Z Z) ?_|refine eL Z Z Z Z Z Z Z Z (fun bS wS xS hbS rS=>?_))|(refine at_K ?_;first|refine K_then ?_|refine K_in ?_|refine K_then_exit ?_|refine K_in_exit ?_)|(refine at_E ?_;first|refine E_seq ?_|refine E_region ?_|refine E_cond_t Z ?_|refine E_cond_f Z ?_|refine E_block ?_|refine E_skip ?_|refine E_exit ?_|refine E_dq mixedOk (by kernel_rfl) Z ?_)|(refine at_RQ ?_;first|refine yN Z (fun wq xq=>?_)|refine yV Z Z (fun _ _ _=>zA Z Z) ?_|(refine at_binR ?_;first|refine yD Z Z (fun _ _ _=>zM Z Z Z) (fun hh=>?_) (fun hh=>?_))|refine yV Z Z (fun _ _ _=>zH Z Z) ?_)))
        all_goals (first|(exfalso;omega)|skip)
        refine K_rnd (i+1,vJ) ⟨rfl,rfl,rfl,rfl,rfl,by rw [hs1,List.length_append];rfl,rfl,rfl,trivial⟩ ⟨by dsimp only;omega,xJ,?_⟩ (by dsimp only;omega)
        dsimp only
        rw [hs2,List.map_append,List.length_append,List.map_append]
        exact oJ
      | false=>
        rw [if_neg (by rw [hwp,hpx];exact Bool.false_ne_true),List.append_nil] at hs2
        have cm:=rMatch_any p n.text (by omega)
        rw [hpx] at cm
        (repeat' (first|refine yV Z Z (fun wq _ xq=>val_load Z Z Z ((rDr.ext xq).cellAt (j:=5) Z)) ?_|refine yV Z Z (fun wq _ xq=>val_load Z Z Z ((rDr.ext xq).cellAt (j:=6) Z)) ?_|refine yV Z Z (fun _ _ _=>val_indexAddr (m:=i) Z Z Z Z hlt) ?_|refine yV Z Z (fun wq _ xq=>val_load Z Z Z ((hatn2.ext xq).cellAt (j:=1) Z)) ?_|refine yV Z Z (fun _ _ _=>val_indexAddr (m:=kt) Z Z Z Z hktl) ?_|refine yV Z Z (fun wq _ xq=>val_load Z Z Z ((hatt.ext xq).cellAt (j:=2) Z)) ?_|refine eV Z Z (val_load Z Z Z ((rDr.ext (by assumption)).cellAt (j:=6) Z)) ?_|refine eV Z Z (val_indexAddr (m:=i) Z Z Z Z hlt) ?_|refine eV Z Z (val_load Z Z Z ((hatn.ext (by assumption)).cellAt (j:=6) Z)) ?_|(refine EL_call Z Z (entersF Z Z en55) (cm _) (fun vC wC hC=>?_);obtain⟨rfl,xC⟩:=hC;replace xq:=xq.trans xC)|(refine at_EL ?_;first|refine eN ?_|refine eV Z Z (zA Z Z) ?_|refine eV Z Z (zB Z Z) ?_|(refine at_bin ?_;first|refine eD Z Z (zL Z Z Z) (fun hh=>?_) (fun hh=>?_)|refine eV Z Z (zU Z Z Z (by omega) (by omega)) ?_)|refine eV Z Z (zH Z Z) ?_)|(refine at_K ?_;first|refine K_then ?_|refine K_in ?_|refine K_then_exit ?_|refine K_in_exit ?_)|(refine at_E ?_;first|refine E_seq ?_|refine E_region ?_|refine E_cond_t Z ?_|refine E_cond_f Z ?_|refine E_block ?_|refine E_skip ?_|refine E_exit ?_|refine E_dq mixedOk (by kernel_rfl) Z ?_)|(refine at_RQ ?_;first|refine yN Z (fun wq xq=>?_)|refine yV Z Z (fun _ _ _=>zA Z Z) ?_|(refine at_binR ?_;first|refine yD Z Z (fun _ _ _=>zM Z Z Z) (fun hh=>?_) (fun hh=>?_))|refine yV Z Z (fun _ _ _=>zH Z Z) ?_)))
        all_goals (first|(exfalso;omega)|skip)
        refine K_rnd (i+1,vO) ⟨rfl,rfl,rfl,rfl,rfl,by rw [hs1,List.length_append];rfl,rfl,rfl,trivial⟩ ⟨by dsimp only;omega,hx.trans xq,?_⟩ (by dsimp only;omega)
        dsimp only
        rw [hs2]
        exact own_ext hown xq
    · rw [if_neg (by unfold roleB;rw [hra,decide_eq_false hr];exact Bool.false_ne_true),List.append_nil] at hs1
      rw [if_neg (by unfold wantP;rw [hra,decide_eq_false hr];exact Bool.false_ne_true),List.append_nil] at hs2
      (repeat' (first|refine yV Z Z (fun wq _ xq=>val_load Z Z Z ((rDr.ext xq).cellAt (j:=5) Z)) ?_|refine yV Z Z (fun wq _ xq=>val_load Z Z Z ((rDr.ext xq).cellAt (j:=6) Z)) ?_|refine yV Z Z (fun _ _ _=>val_indexAddr (m:=i) Z Z Z Z hlt) ?_|refine yV Z Z (fun wq _ xq=>val_load Z Z Z ((hatn2.ext xq).cellAt (j:=1) Z)) ?_|refine yV Z Z (fun _ _ _=>val_indexAddr (m:=kt) Z Z Z Z hktl) ?_|refine yV Z Z (fun wq _ xq=>val_load Z Z Z ((hatt.ext xq).cellAt (j:=2) Z)) ?_|(refine at_EL ?_;first|refine eN ?_|refine eV Z Z (zA Z Z) ?_|refine eV Z Z (zB Z Z) ?_|(refine at_bin ?_;first|refine eD Z Z (zL Z Z Z) (fun hh=>?_) (fun hh=>?_)|refine eV Z Z (zU Z Z Z (by omega) (by omega)) ?_)|refine eV Z Z (zH Z Z) ?_)|(refine at_K ?_;first|refine K_then ?_|refine K_in ?_|refine K_then_exit ?_|refine K_in_exit ?_)|(refine at_E ?_;first|refine E_seq ?_|refine E_region ?_|refine E_cond_t Z ?_|refine E_cond_f Z ?_|refine E_block ?_|refine E_skip ?_|refine E_exit ?_|refine E_dq mixedOk (by kernel_rfl) Z ?_)|(refine at_RQ ?_;first|refine yN Z (fun wq xq=>?_)|refine yV Z Z (fun _ _ _=>zA Z Z) ?_|(refine at_binR ?_;first|refine yD Z Z (fun _ _ _=>zM Z Z Z) (fun hh=>?_) (fun hh=>?_))|refine yV Z Z (fun _ _ _=>zH Z Z) ?_)))
      all_goals (first|(exfalso;omega)|skip)
      refine K_rnd (i+1,vO) ⟨rfl,rfl,rfl,rfl,rfl,by rw [hs1];rfl,rfl,rfl,trivial⟩ ⟨by dsimp only;omega,hx.trans xq,?_⟩ (by dsimp only;omega)
      dsimp only
      rw [hs2]
      exact own_ext hown xq
  · obtain rfl:i=d.notes.length:=by omega
    rw [List.take_length] at hown hl1 hl2
    rw [want_ids hd hk0] at hown hl2
    have hcnt:=role_len hd hk0
    rw [List.take_length]
    have sO:Sl wr vO (idsOf d (textP matchF d k p)):=own_Sl (css:=(idsOf d (textP matchF d k p)).map fun z=>[int z]) (by rw [ints_flat];exact hown) (ints_ats _ _) rfl (by omega)
    have rXr:=rX.ext hx
    have sXr:=sX.ext hx
    have ev0:evF matchF d (textQ k p)=idsOf d (textP matchF d k p):=ev_0 d k p []
    obtain⟨I,hI⟩:∃ I,I=idsOf d (textP matchF d k p):=⟨_,rfl⟩
    obtain⟨C,hC⟩:∃ C,C=(d.notes.filter (roleB d k)).length:=⟨_,rfl⟩
    have ct:∀ wq,Ext wr wq→Calls Tryz.prog 40 #[.agg #[.slice sa xs.length sc],int k,str p] wq (Rt fun u w'=>Ext wq w'∧Sl w' u I):=fun wq xq=>by
      have:=text40_any xs _ k p wq hfit (sXr.ext xq) (Tabs.ext hT (hXr.trans xq))
      rw [hlk.text,← hI] at this
      exact calls_mono this (fun _ _ hh=>⟨hh.1,hh.2.any⟩)
    have cr:∀ wq,Ext wr wq→Calls Tryz.prog 47 #[.agg #[.slice sa xs.length sc],.agg #[int d.rid,str d.rname,int d.len,int d.day,sv,.slice ta d.tiers.length tc,.slice na d.notes.length nc],textV k p] wq (Rt fun u w'=>Ext wq w'∧Sl w' u I):=fun wq xq=>by
      have:=run47_any hd hfit hlk (textQ k p) (ok_text _ _) _ _ _ wq (sXr.ext xq) (hdd.ext (hXr.trans xq)) (textV_at wq k p) (Tabs.ext hT (hXr.trans xq))
      rw [ev0,← hI] at this
      exact calls_mono this (fun _ _ hh=>⟨hh.1,hh.2.any⟩)
    have cc:∀ wq,Ext wr wq→Calls Tryz.prog 42 #[.agg #[.slice sa xs.length sc],int k] wq (Rt fun u w'=>u=int (C:Nat)∧Ext wq w'):=fun wq xq=>by
      have:=count42_any xs _ k wq hfit (sXr.ext xq)
      rw [hlk.all,← hcnt,← hC] at this
      exact this
    rw [← hI] at sO
    rw [← hC]
    have xq:=Ext.refl wr
    (repeat' (first|refine eV Z Z (val_loadA (cs:=[.slice sa xs.length sc]) Z Z Z (rXr.ext xq).at rfl) ?_|refine eV Z Z (val_loadA Z Z Z (rDr.ext xq).at rfl) ?_|(refine EL_call Z Z (entersF Z Z en40) (ct _ xq) (fun vT wT hTT=>?_);obtain⟨xT,sT⟩:=hTT;replace xq:=xq.trans xT)|(refine EL_call Z Z (entersF Z Z en20) (r1same_any I I _ _ _ sT (sO.ext xq)) (fun vU wU hU=>?_);obtain⟨e,xU⟩:=hU;rw [decide_eq_true rfl] at e;subst e;replace xq:=xq.trans xU;clear sT)|refine eV Z Z (val_build (vs:=[(0,int 0),(1,int k),(2,str p)]) [int 0,int k,str p,.slice none 0 0] rfl rfl rfl) ?_|(refine EL_call Z Z (entersF Z Z en47) (cr _ xq) (fun vT wT2 hTT=>?_);obtain⟨xT,sT⟩:=hTT;replace xq:=xq.trans xT)|(refine EL_call Z Z (entersF Z Z en42) (cc _ xq) (fun vT wT3 hTT=>?_);obtain⟨rfl,xT⟩:=hTT;replace xq:=xq.trans xT)|(refine EL_call Z Z (entersF Z Z en39) (sawake_any _ (Tabs.ext hT (hXr.trans xq))) (fun vA wA hA=>?_);obtain⟨rfl,xA⟩:=hA)|(refine at_EL ?_;first|refine eN ?_|refine eO Z Z ?_|refine eV Z Z (zA Z Z) ?_|refine eV Z Z (zB Z Z) ?_|(refine at_bin ?_;first|refine eD Z Z (zL Z Z Z) (fun hh=>?_) (fun hh=>?_)|refine eD Z Z (zM Z Z Z) (fun hh=>?_) (fun hh=>?_))|refine eV Z Z (zC Z Z Z) ?_|refine eV Z Z (zD Z Z Z) ?_)|(refine at_K ?_;first|refine K_then ?_|refine K_then_exit ?_|refine K_in_exit ?_)|(refine at_E ?_;first|refine E_seq ?_|refine E_region ?_|refine E_cond_t Z ?_|refine E_cond_f Z ?_|refine E_block ?_|refine E_skip ?_|refine E_ret ?_|refine E_exit ?_)))
    all_goals (first|(exfalso;omega)|skip)
    all_goals exact ret_1 Z Z ⟨rfl,(hXr.trans xq).trans xA⟩
end Go.Proofs.YtnifmbbpfdghmaaGreatDoor
