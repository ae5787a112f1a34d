/-
  Walks: the program's Units and Read. An element put behind a list of one's own, with what stays told. Walks: the reference's Entry, Missing, Same; documents that are right and small.
-/
import Derived.Test.YtjicdgejhkgpgaaGreatDoorYz
import Derived.Test.YtjicdgejhkgpgaaGreatDoorYy
import Derived.Test.YtjicdgejhkgpgaaGreatDoorYe
import Derived.Test.YtjicdgejhkgpgaaGreatDoorYf
import Derived.Test.YtjicdgejhkgpgaaGreatDoorYi
import Derived.Test.YtjicdgejhkgpgaaGreatDoorYr
set_option linter.all false
namespace Go.Proofs.YtjicdgejhkgpgaaGreatDoor
open Go.RowKit Go.En Go.Pv
theorem take_drop_n (s:List UInt8) (a n:Nat):(s.take (a+n)).drop a=(s.drop a).take n:=by rw [List.drop_take];congr 1;omega
attribute [local irreducible] E EL K Val Enters Rt Calls bodyPost Code.wp RQ
set_option maxHeartbeats 8000000 in
set_option maxRecDepth 8000 in
theorem units69_any (us:List Unt) (hg:∀ u∈us,1≤u.graph.length∧u.graph.length≤32) (s:List UInt8) (hs:s.length≤1000000) (nm:List UInt8) (uv tv:Value) (w:World) (hu:Sl w uv us):Calls Tryz.prog 69 #[.agg #[str nm,uv,tv],str s] w (Rt fun u w'=>(∃ v,u=.tuple #[v,int (unitsF us s.length s).2]∧Sl w' v (unitsF us s.length s).1)∧Ext w w'):=by
  have hu0:=hu
  have hg1:∀ u∈us,1≤u.graph.length:=fun u hu=>(hg u hu).1
  obtain⟨ua,uc,rfl,_,hum,hup⟩:=hu.sl
  refine calls_E (n:=68) (args:=[.agg #[str nm,.slice ua us.length uc,tv],str s]) Tryz.func69 rfl Tryz.ntmps69 (by simp) ?_
  refine E_seq ?_
  refine E_region ?_
  refine EL_box Z Z Z Z (fun bO wO xO hbO rO0=>?_)
  have rO:Row wO bO 29 [str nm,.slice ua us.length uc,tv]:=rO0
  clear rO0
  have hbOl:=rO.lt
  have rO1:=rO
  obtain⟨U,hU⟩:∃ U,U=unitsF us s.length s:=⟨_,rfl⟩
  have hUl:=(units_len hg1 s.length s).1
  rw [← hU] at hUl ⊢
  (repeat' (first|(refine at_EL ?_;first|refine eN ?_|refine eV Z Z (zB Z Z) ?_)|(refine at_K ?_;first|refine K_then ?_)))
  refine E_scope ?_
  (repeat' (first|refine eV Z Z (val_load Z Z Z (Row.cellAt (by assumption) (by rfl))) ?_|(refine at_EL ?_;first|refine eN ?_|refine eV Z Z (zA Z Z) ?_|refine eV Z Z (zB Z Z) ?_|(refine at_call ?_;first|refine eV Z Z (zK Z Z) ?_)|refine eV Z Z (zH Z Z) ?_)|(refine at_K ?_;first|refine K_then ?_)|(refine at_E ?_;first|refine E_seq ?_|refine E_region ?_|refine E_block ?_)))
  refine E_loop (ι:=Nat × Nat) (fun z=>[(1,str s),(2,.pointer (some ⟨bO,0,none⟩)),(6,int z.2),(15,.slice ua us.length uc),(16,int us.length),(17,int z.1)])
    (fun z wr=>z.1≤us.length∧Ext wO wr∧z.2≤32∧∀(j:Nat) (v:Unt),j<z.1→us[j]?=some v→v.graph.length≤z.2) (fun z=>us.length-z.1) (0,0)
    ⟨rfl,rfl,rfl,rfl,rfl,by rfl,trivial⟩ ⟨Nat.zero_le _,Ext.refl _,Nat.zero_le _,fun _ _ h=>absurd h (by omega)⟩ ?_
  rintro⟨i,most⟩ wr ⟨hi,hx,hm32,hmost⟩
  dsimp only at hi hx hm32 hmost ⊢
  replace rO:=rO.ext hx
  have hX:=xO.trans hx
  by_cases hlt:i<us.length
  · obtain⟨ub,uo,rfl⟩:=hup (by omega)
    obtain⟨u,hui⟩:∃ u,us[i]?=some u:=⟨_,List.getElem?_eq_getElem hlt⟩
    have hgu:=hg u (List.mem_of_getElem? hui)
    obtain⟨a0,c0,hat,_⟩:=unt_elem (hu0.ext hX) hui
    (repeat' (first|refine eV Z Z (val_load Z Z Z (Row.cellAt (by assumption) (by rfl))) ?_|refine eV Z Z (val_loadA Z Z Z (by assumption) (by rfl)) ?_|refine eV Z Z (val_indexAddr (m:=i) Z Z Z (by first|rfl|omega) (by omega)) ?_|(refine EL_var Z Z Z Z Z Z Z Z Z Z (fun bV wV xV hbV rV=>?_);replace hx:=hx.trans xV)|refine eV Z Z (val_max Z Z Z) ?_|(refine at_EL ?_;first|refine eN ?_|refine eV Z Z (zA Z Z) ?_|refine eV Z Z (zB Z Z) ?_|(refine at_bin ?_;first|refine eD Z Z (zL Z Z Z) (fun hh=>?_) (fun hh=>?_)|refine eV Z Z (zU Z Z Z (by omega) (by omega)) ?_)|(refine at_call ?_;first|refine eV Z Z (zJ Z Z) ?_)|refine eV Z Z (zH Z Z) ?_)|(refine at_K ?_;first|refine K_then ?_|refine K_in ?_|refine K_then_exit ?_|refine K_in_exit ?_)|(refine at_E ?_;first|refine E_seq ?_|refine E_region ?_|refine E_cond_t Z ?_|refine E_cond_f Z ?_|refine E_block ?_|refine E_skip ?_|refine E_exit ?_)))
    all_goals (try (exfalso;omega))
    refine K_rnd (i+1,if u.graph.length>most then u.graph.length else most) ⟨rfl,rfl,by(show some (int _)=some (int _);congr 2;split <;> split <;> omega),rfl,rfl,rfl,trivial⟩ ⟨by dsimp only;omega,hx,by dsimp only;split <;> omega,fun j v hj hv=>?_⟩ (by dsimp only;omega)
    dsimp only at hj ⊢
    by_cases e:j=i
    · subst e;rw [hui] at hv;cases hv;split <;> omega
    · have:=hmost j v (by omega) hv;split <;> omega
  obtain rfl:i=us.length:=by omega
  have hbig0:∀(j:Nat) (v:Unt),us[j]?=some v→v.graph.length≤most:=fun j v hv=>hmost j v (List.getElem?_eq_some_iff.1 hv).1 hv
  (repeat' (first|(refine at_EL ?_;first|refine eN ?_|refine eV Z Z (zB Z Z) ?_|(refine at_bin ?_;first|refine eD Z Z (zL Z Z Z) (fun hh=>?_) (fun hh=>?_)))|(refine at_K ?_;first|refine K_then ?_|refine K_then_exit ?_|refine K_in_exit ?_)|(refine at_E ?_;first|refine E_seq ?_|refine E_region ?_|refine E_cond_t Z ?_|refine E_cond_f Z ?_|refine E_block ?_|refine E_skip ?_|refine E_exit ?_)))
  all_goals (try (exfalso;omega))
  refine E_label ?_
  (repeat' (first|(refine at_K ?_;first|refine K_then ?_)|(refine at_E ?_;first|refine E_seq ?_|refine E_block ?_)))
  refine E_loop (ι:=Nat × Value × List Int) (fun z=>[(1,str s),(2,.pointer (some ⟨bO,0,none⟩)),(6,int most),(9,z.2.1),(10,int z.1)])
    (fun z wr=>z.1≤s.length∧Ext wO wr∧Row wr bO 29 [str nm,.slice ua us.length uc,tv]∧wr.ownsRow wO.heap.size 3 1 z.2.1 z.2.2.length (z.2.2.map int)∧z.2.2++(unitsF us (s.drop z.1).length (s.drop z.1)).1=U.1∧z.1+(unitsF us (s.drop z.1).length (s.drop z.1)).2=U.2) (fun z=>s.length-z.1) (0,.slice none 0 0,[])
    ⟨rfl,rfl,rfl,rfl,rfl,trivial⟩ ⟨Nat.zero_le _,hx,rO,World.ownsRow_nil _ _ _ _,by rw [List.drop_zero,hU];rfl,by rw [List.drop_zero,hU,Nat.zero_add]⟩ ?_
  rintro⟨at0,vO,o⟩ wd ⟨hat0,hxd,rOd,hown,h1,h2⟩
  dsimp only at hat0 hxd rOd hown h1 h2 ⊢
  have hol:o.length≤s.length:=by have:=congrArg List.length h1;rw [List.length_append] at this;omega
  by_cases hls:at0<s.length
  · have hne:s.drop at0≠[]:=fun e=>by have:=congrArg List.length e;rw [List.length_drop] at this;simp at this;omega
    (repeat' (first|refine eV Z Z (val_min Z Z Z) ?_|(refine at_EL ?_;first|refine eN ?_|refine eV Z Z (zA Z Z) ?_|refine eV Z Z (zB Z Z) ?_|(refine at_bin ?_;first|refine eD Z Z (zL Z Z Z) (fun hh=>?_) (fun hh=>?_)|refine eV Z Z (zV Z Z Z (by omega) (by omega)) ?_)|(refine at_call ?_;first|refine eV Z Z (zJ Z Z) ?_))|(refine at_K ?_;first|refine K_then ?_|refine K_then_exit ?_|refine K_in_exit ?_)|(refine at_E ?_;first|refine E_seq ?_|refine E_region ?_|refine E_cond_t Z ?_|refine E_cond_f Z ?_|refine E_block ?_|refine E_skip ?_|refine E_ret ?_|refine E_exit ?_)))
    all_goals (try (exfalso;omega))
    refine E_loop (ι:=Nat) (fun n=>[(1,str s),(2,.pointer (some ⟨bO,0,none⟩)),(6,int most),(9,vO),(10,int at0),(11,int n)])
      (fun n wr=>n≤s.length-at0∧Ext wd wr∧∀(j:Nat) (v:Unt),us[j]?=some v→begB (s.drop at0) v.graph=true→v.graph.length≤n) (fun n=>n) (if s.length-at0<most then s.length-at0 else most)
      ⟨rfl,rfl,rfl,rfl,rfl,by(show some (int _)=some (int _);congr 2;split <;> split <;> omega),trivial⟩ ⟨by split <;> omega,Ext.refl _,fun j v hv hb=>?_⟩ ?_
    · have h3:=hbig0 j v hv
      have h4:=congrArg List.length (begB_iff.1 hb)
      rw [List.length_take,List.length_drop] at h4
      split <;> omega
    rintro n wn ⟨hn,hxn,hbig⟩
    by_cases hn0:n=0
    · subst hn0
      rw [units_stop (.inr (best_none hg1 hbig))] at h1 h2
      rw [List.append_nil] at h1
      (repeat' (first|(refine at_EL ?_;first|refine eN ?_|refine eV Z Z (zA Z Z) ?_|refine eV Z Z (zB Z Z) ?_|(refine at_bin ?_;first|refine eD Z Z (zO Z Z Z) (fun hh=>?_) (fun hh=>?_))|refine eV Z Z (zH Z Z) ?_)|(refine at_K ?_;first|refine K_then ?_|refine K_then_exit ?_|refine K_in_exit ?_|refine K_in_exit' Z ?_)|(refine at_E ?_;first|refine E_seq ?_|refine E_region ?_|refine E_cond_t Z ?_|refine E_cond_f Z ?_|refine E_block ?_|refine E_skip ?_|refine E_ret ?_|refine E_exit ?_)))
      all_goals (try (exfalso;omega))
      refine K_ng_ret ?_
      skip
      rw [← h1,← h2]
      exact ret_2 Z Z Z ⟨⟨_,rfl,own_Sl (css:=o.map fun z=>[int z]) (by rw [ints_flat];exact own_ext hown hxn) (ints_ats _ _) Z (by omega)⟩,xO.trans (hxd.trans hxn)⟩
    obtain⟨n',rfl⟩:∃ n',n=n'+1:=⟨n-1,by omega⟩
    have rOn:=rOd.ext hxn
    (repeat' (first|refine eV Z Z (val_load Z Z Z (Row.cellAt (by assumption) (by rfl))) ?_|(refine at_EL ?_;first|refine eN ?_|refine eV Z Z (zA Z Z) ?_|refine eV Z Z (zB Z Z) ?_|(refine at_bin ?_;first|refine eD Z Z (zO Z Z Z) (fun hh=>?_) (fun hh=>?_))|(refine at_call ?_;first|refine eV Z Z (zK Z Z) ?_)|refine eV Z Z (zH Z Z) ?_)|(refine at_K ?_;first|refine K_then ?_|refine K_then_exit ?_|refine K_in_exit ?_|refine K_in_exit' Z ?_)|(refine at_E ?_;first|refine E_seq ?_|refine E_region ?_|refine E_cond_t Z ?_|refine E_cond_f Z ?_|refine E_block ?_|refine E_skip ?_|refine E_ret ?_|refine E_exit ?_)))
    all_goals (try (exfalso;omega))
    refine E_loop (ι:=Nat) (fun i=>[(1,str s),(2,.pointer (some ⟨bO,0,none⟩)),(6,int most),(9,vO),(10,int at0),(11,int (n'+1:Nat)),(42,.slice ua us.length uc),(43,int us.length),(44,int i)])
      (fun i wr=>i≤us.length∧Ext wn wr∧∀(j:Nat) (v:Unt),j<i→us[j]?=some v→v.graph≠(s.drop at0).take (n'+1)) (fun i=>us.length-i) 0
      ⟨rfl,rfl,rfl,rfl,rfl,rfl,rfl,rfl,rfl,trivial⟩ ⟨Nat.zero_le _,Ext.refl _,fun _ _ h=>absurd h (by omega)⟩ ?_
    rintro i wi ⟨hi,hxi,hlow⟩
    have hXi:=xO.trans (hxd.trans (hxn.trans hxi))
    by_cases hil:i<us.length
    · obtain⟨ub,uo,rfl⟩:=hup (by omega)
      obtain⟨u,hui⟩:∃ u,us[i]?=some u:=⟨_,List.getElem?_eq_getElem hil⟩
      obtain⟨a0,c0,hat,_⟩:=unt_elem (hu0.ext hXi) hui
      have hgu:=hg u (List.mem_of_getElem? hui)
      by_cases hgr:u.graph=(s.drop at0).take (n'+1)
      · have hbf:=best_found (by rw [List.length_drop];omega) hbig hlow hui hgr
        have hgl:u.graph.length=n'+1:=(beg_take (by rw [List.length_drop];omega) hgr).2
        rw [units_step hg1 hne hbf hui] at h1 h2
        dsimp only at h1 h2
        rw [List.drop_drop,hgl] at h1 h2
        (repeat' (first|refine eV Z Z (val_loadA Z Z Z (by assumption) (by rfl)) ?_|refine yV Z Z (fun wq _ xq=>val_load Z Z Z ((Row.ext (by assumption) xq).cellAt (by rfl))) ?_|refine eV Z Z (val_indexAddr (m:=i) Z Z Z (by first|rfl|omega) (by omega)) ?_|(refine EL_alloc Z Z Z (fun bV wV xV hbV rV=>?_))|(refine EL_storeP (cs:=[str u.graph,.slice a0 u.segs.length c0]) rV xV (Nat.le_of_eq hbV.symm) Z Z Z Z Z Z Z Z (Nat.le_refl _) (fun wU rU0 xU kU=>?_);have rU:Row wU bV 108 [str u.graph,.slice a0 u.segs.length c0]:=rU0;replace hxi:=hxi.trans xU;clear rV rU0)|refine yV Z Z (fun _ _ _=>val_slice_str (a:=at0) (b:=at0+(n'+1)) Z Z Z Z Z (by first|rfl|omega) (by omega) (by omega)) ?_|(refine EL_appO (w0:=wO) (news:=[int i]) (own_ext hown (hxn.trans (hxi.trans (xq.trans xS)))) (hxd.trans (hxn.trans (hxi.trans (xq.trans xS)))) (fun _=>⟨_,_,rfl,rS.at⟩) Z Z Z Z Z Z Z Z Z (by omega) (by omega) (fun vJ wJ oJ xJ kJ hJ=>?_))|(refine at_EL ?_;first|refine eN ?_|refine eV Z Z (zA Z Z) ?_|refine eV Z Z (zB Z Z) ?_|(refine at_bin ?_;first|refine eD Z Z (zL Z Z Z) (fun hh=>?_) (fun hh=>?_)|refine eV Z Z (zU Z Z Z (by omega) (by omega)) ?_|refine eV Z Z (zV Z Z Z (by omega) (by omega)) ?_)|refine eL Z Z Z Z Z Z Z Z (fun bS wS xS hbS rS=>?_))|(refine at_K ?_;first|refine K_then ?_|refine K_in ?_|refine K_then_exit ?_|refine K_in_exit ?_|refine K_in_exit' Z ?_)|(refine at_E ?_;first|refine E_seq ?_|refine E_region ?_|refine E_cond_t Z ?_|refine E_cond_f Z ?_|refine E_block ?_|refine E_skip ?_|refine E_exit ?_|refine E_dq mixedOk (by kernel_rfl) Z ?_)|(refine at_RQ ?_;first|refine yN Z (fun wq xq=>?_)|refine yV Z Z (fun _ _ _=>zA Z Z) ?_|(refine at_binR ?_;first|refine yD Z Z (fun _ _ _=>zR Z Z Z) (fun hh=>?_) (fun hh=>?_)|refine yV Z Z (fun _ _ _=>zU Z Z Z (by omega) (by omega)) ?_)|refine yV Z Z (fun _ _ _=>zH Z Z) ?_)))
        all_goals (try (exfalso;omega))
        all_goals (first|(exfalso;exact absurd (hgr.trans (take_drop_n s at0 (n'+1)).symm) (by assumption))|skip)
        refine K_rnd (at0+(n'+1),vJ,o++[(i:Int)]) ⟨rfl,rfl,rfl,rfl,by rfl,trivial⟩ ⟨by dsimp only;omega,xJ,?_,?_,?_,?_⟩ (by dsimp only;omega)
        · exact kJ.row (((rOn.ext hxi).ext xq).ext xS) (fun e=>by have:=(hown.lt bO e.symm).1;omega)
        · dsimp only;simpa using oJ
        · dsimp only
          rw [List.append_assoc]
          exact h1
        · dsimp only;omega
      · (repeat' (first|refine eV Z Z (val_loadA Z Z Z (by assumption) (by rfl)) ?_|refine yV Z Z (fun wq _ xq=>val_load Z Z Z ((Row.ext (by assumption) xq).cellAt (by rfl))) ?_|refine eV Z Z (val_indexAddr (m:=i) Z Z Z (by first|rfl|omega) (by omega)) ?_|(refine EL_alloc Z Z Z (fun bV wV xV hbV rV=>?_))|(refine EL_storeP (cs:=[str u.graph,.slice a0 u.segs.length c0]) rV xV (Nat.le_of_eq hbV.symm) Z Z Z Z Z Z Z Z (Nat.le_refl _) (fun wU rU0 xU kU=>?_);have rU:Row wU bV 108 [str u.graph,.slice a0 u.segs.length c0]:=rU0;replace hxi:=hxi.trans xU;clear rV rU0)|refine yV Z Z (fun _ _ _=>val_slice_str (a:=at0) (b:=at0+(n'+1)) Z Z Z Z Z (by first|rfl|omega) (by omega) (by omega)) ?_|(refine at_EL ?_;first|refine eN ?_|refine eV Z Z (zA Z Z) ?_|refine eV Z Z (zB Z Z) ?_|(refine at_bin ?_;first|refine eD Z Z (zL Z Z Z) (fun hh=>?_) (fun hh=>?_)|refine eV Z Z (zU Z Z Z (by omega) (by omega)) ?_|refine eV Z Z (zV Z Z Z (by omega) (by omega)) ?_)|refine eL Z Z Z Z Z Z Z Z (fun bS wS xS hbS rS=>?_))|(refine at_K ?_;first|refine K_then ?_|refine K_in ?_|refine K_then_exit ?_|refine K_in_exit ?_)|(refine at_E ?_;first|refine E_seq ?_|refine E_region ?_|refine E_cond_t Z ?_|refine E_cond_f Z ?_|refine E_block ?_|refine E_skip ?_|refine E_exit ?_|refine E_dq mixedOk (by kernel_rfl) Z ?_)|(refine at_RQ ?_;first|refine yN Z (fun wq xq=>?_)|refine yV Z Z (fun _ _ _=>zA Z Z) ?_|(refine at_binR ?_;first|refine yD Z Z (fun _ _ _=>zR Z Z Z) (fun hh=>?_) (fun hh=>?_)|refine yV Z Z (fun _ _ _=>zU Z Z Z (by omega) (by omega)) ?_)|refine yV Z Z (fun _ _ _=>zH Z Z) ?_)))
        all_goals (try (exfalso;omega))
        all_goals (first|(exfalso;apply hgr;rw [← take_drop_n s at0 (n'+1)];assumption)|skip)
        refine K_rnd (i+1) ⟨rfl,rfl,rfl,rfl,rfl,rfl,rfl,rfl,rfl,trivial⟩ ⟨by omega,hxi.trans xq,fun j v hj hv=>?_⟩ (by omega)
        by_cases e:j=i
        · subst e;rw [hui] at hv;cases hv;exact hgr
        · exact hlow j v (by omega) hv
    · obtain rfl:i=us.length:=by omega
      have hb':=big_step hbig (fun j v hv=>hlow j v (List.getElem?_eq_some_iff.1 hv).1 hv)
      (repeat' (first|(refine at_EL ?_;first|refine eN ?_|refine eV Z Z (zA Z Z) ?_|refine eV Z Z (zB Z Z) ?_|(refine at_bin ?_;first|refine eD Z Z (zL Z Z Z) (fun hh=>?_) (fun hh=>?_)|refine eV Z Z (zV Z Z Z (by omega) (by omega)) ?_))|(refine at_K ?_;first|refine K_then ?_|refine K_in ?_|refine K_then_exit ?_|refine K_in_exit ?_)|(refine at_E ?_;first|refine E_seq ?_|refine E_region ?_|refine E_cond_t Z ?_|refine E_cond_f Z ?_|refine E_block ?_|refine E_skip ?_|refine E_exit ?_)))
      all_goals (try (exfalso;omega))
      exact K_rnd n' ⟨rfl,rfl,rfl,rfl,rfl,by(show some (int _)=some (int _);congr 2;omega),trivial⟩ ⟨by omega,hxn.trans hxi,hb'⟩ (by omega)
  · obtain rfl:at0=s.length:=by omega
    rw [List.drop_length] at h1 h2
    have e0:unitsF us ([]:List UInt8).length []=([],0):=rfl
    rw [e0] at h1 h2
    rw [List.append_nil] at h1
    (repeat' (first|(refine at_EL ?_;first|refine eN ?_|refine eV Z Z (zA Z Z) ?_|refine eV Z Z (zB Z Z) ?_|(refine at_bin ?_;first|refine eD Z Z (zL Z Z Z) (fun hh=>?_) (fun hh=>?_)|refine eV Z Z (zV Z Z Z (by omega) (by omega)) ?_)|(refine at_call ?_;first|refine eV Z Z (zJ Z Z) ?_))|(refine at_K ?_;first|refine K_then ?_|refine K_then_exit ?_|refine K_in_exit ?_)|(refine at_E ?_;first|refine E_seq ?_|refine E_region ?_|refine E_cond_t Z ?_|refine E_cond_f Z ?_|refine E_block ?_|refine E_skip ?_|refine E_ret ?_|refine E_exit ?_)))
    all_goals (try (exfalso;omega))
    refine K_ng_ret ?_
    skip
    rw [← h1,← h2]
    exact ret_2 Z Z Z ⟨⟨_,rfl,own_Sl (css:=o.map fun z=>[int z]) (by rw [ints_flat];exact hown) (ints_ats _ _) Z (by omega)⟩,xO.trans hxd⟩
set_option maxHeartbeats 4000000 in
set_option maxRecDepth 8000 in
theorem read38_any (us:List Unt) (hg:∀ u∈us,1≤u.graph.length∧u.graph.length≤32∧u.segs.length≤3) (s:List UInt8) (hs:s.length≤1000000) (nm:List UInt8) (uv tv:Value) (w:World) (hu:Sl w uv us):Calls Tryz.prog 38 #[.agg #[str nm,uv,tv],str s] w (Rt fun u w'=>(∃(v:Value) (a:Int),u=.tuple #[v,int a,int (readF us s).2]∧Sl w' v (readF us s).1)∧Ext w w'):=by
  have hu0:=hu
  have hg2:∀ u∈us,1≤u.graph.length∧u.graph.length≤32:=fun u hu=>⟨(hg u hu).1,(hg u hu).2.1⟩
  have hg1:∀ u∈us,1≤u.graph.length:=fun u hu=>(hg u hu).1
  obtain⟨ua,uc,rfl,_,hum,hup⟩:=hu.sl
  refine calls_E (n:=44) (args:=[.agg #[str nm,.slice ua us.length uc,tv],str s]) Tryz.func38 rfl Tryz.ntmps38 (by simp) ?_
  refine E_seq ?_
  refine E_region ?_
  refine EL_box Z Z Z Z (fun bO wO xO hbO rO0=>?_)
  have rO:Row wO bO 29 [str nm,.slice ua us.length uc,tv]:=rO0
  clear rO0
  by_cases h0:s=[]
  · have hr:readF us s=([],4):=by unfold readF;rw [if_pos h0]
    rw [hr]
    subst h0
    (repeat' (first|(refine at_EL ?_;first|refine eN ?_|refine eV Z Z (zA Z Z) ?_|refine eV Z Z (zB Z Z) ?_|(refine at_bin ?_;first|refine eD Z Z (zR Z Z Z) (fun hh=>?_) (fun hh=>?_)))|(refine at_K ?_;first|refine K_then ?_|refine K_then_ret ?_)|(refine at_E ?_;first|refine E_seq ?_|refine E_region ?_|refine E_cond_t Z ?_|refine E_cond_f Z ?_|refine E_skip ?_|refine E_ret ?_)))
    all_goals (try (exfalso;omega))
    all_goals first
      | exact ret_3 Z Z Z Z ⟨⟨_,_,rfl,SlG.nil⟩,xO⟩
      | exact absurd hh (by simp)
      | exact absurd rfl (by assumption)
  · obtain⟨U,hU⟩:∃ U,U=unitsF us s.length s:=⟨_,rfl⟩
    have hUl:=units_len hg1 s.length s
    rw [← hU] at hUl
    have cu:=units69_any us hg2 s hs nm _ tv wO (hu0.ext xO)
    rw [← hU] at cu
    (repeat' ((fail_if_success (refine E_seq (x:=(Code.region 4 _ _)) ?_));first|refine eV Z Z (val_loadA Z Z Z (Row.at (by assumption)) (by rfl)) ?_|(refine EL_call Z Z (entersF Z Z en69) cu (fun vC wC hC=>?_);obtain⟨⟨v,rfl,sC⟩,xC⟩:=hC;replace rO:=rO.ext xC)|(refine at_EL ?_;first|refine eN ?_|refine eV Z Z (zA Z Z) ?_|refine eV Z Z (zB Z Z) ?_|(refine at_bin ?_;first|refine eD Z Z (zR Z Z Z) (fun hh=>?_) (fun hh=>?_))|refine eV Z Z (zF Z Z Z) ?_)|(refine at_K ?_;first|refine K_then ?_|refine K_then_ret ?_)|(refine at_E ?_;first|refine E_seq ?_|refine E_region ?_|refine E_cond_t Z ?_|refine E_cond_f Z ?_|refine E_skip ?_|refine E_ret ?_)))
    all_goals (try (exact absurd (by assumption) h0))
    all_goals (try (exfalso;omega))
    have hX:=xO.trans xC
    by_cases hlt:U.2<s.length
    · have hr:readF us s=([],20):=by unfold readF;rw [if_neg h0,← hU];dsimp only;rw [if_pos hlt]
      rw [hr]
      (repeat' (first|(refine at_EL ?_;first|refine eN ?_|refine eV Z Z (zA Z Z) ?_|refine eV Z Z (zB Z Z) ?_|(refine at_bin ?_;first|refine eD Z Z (zL Z Z Z) (fun hh=>?_) (fun hh=>?_))|(refine at_call ?_;first|refine eV Z Z (zJ Z Z) ?_))|(refine at_K ?_;first|refine K_then ?_|refine K_then_ret ?_)|(refine at_E ?_;first|refine E_seq ?_|refine E_region ?_|refine E_cond_t Z ?_|refine E_cond_f Z ?_|refine E_skip ?_|refine E_ret ?_)))
      all_goals (try (exfalso;omega))
      exact ret_3 Z Z Z Z ⟨⟨_,_,rfl,SlG.nil⟩,hX⟩
    · have hlen:U.1.length≤s.length:=hUl.1
      obtain⟨SG,hSG⟩:∃ SG:Int→List Int,SG=fun z=>match us[z.toNat]? with|some u=>u.segs|none=>[]:=⟨_,rfl⟩
      have hr:readF us s=if 24<(U.1.flatMap SG).length then ([],5) else (U.1.flatMap SG,0):=by unfold readF;rw [if_neg h0,← hU];dsimp only;rw [if_neg hlt,hSG];rfl
      have sC0:=sC
      obtain⟨va,vc,rfl,_,_,hvp⟩:=sC.sl
      have hSl:∀ z∈U.1,(SG z).length≤3:=fun z hz=>by
        rw [hSG];dsimp only
        cases hz2:us[z.toNat]? with
        | none=>simp
        | some u=>exact(hg u (List.mem_of_getElem? hz2)).2.2
      have hbOl:=rO.lt
      (repeat' (first|(refine at_EL ?_;first|refine eN ?_|refine eV Z Z (zA Z Z) ?_|refine eV Z Z (zB Z Z) ?_|(refine at_bin ?_;first|refine eD Z Z (zL Z Z Z) (fun hh=>?_) (fun hh=>?_))|(refine at_call ?_;first|refine eV Z Z (zK Z Z) ?_|refine eV Z Z (zJ Z Z) ?_))|(refine at_K ?_;first|refine K_then ?_|refine K_then_ret ?_)|(refine at_E ?_;first|refine E_seq ?_|refine E_region ?_|refine E_cond_t Z ?_|refine E_cond_f Z ?_|refine E_block ?_|refine E_skip ?_|refine E_ret ?_)))
      all_goals (try (exfalso;omega))
      refine E_loop (ι:=Nat × Value) (fun z=>[(2,.pointer (some ⟨bO,0,none⟩)),(9,z.2),(25,.slice va U.1.length vc),(26,int U.1.length),(27,int z.1)])
        (fun z wr=>z.1≤U.1.length∧Ext wC wr∧wr.ownsRow wC.heap.size 3 1 z.2 ((U.1.take z.1).flatMap SG).length (((U.1.take z.1).flatMap SG).map int)) (fun z=>U.1.length-z.1) (0,.slice none 0 0)
        ⟨rfl,rfl,rfl,rfl,rfl,trivial⟩ ⟨Nat.zero_le _,Ext.refl _,World.ownsRow_nil _ _ _ _⟩ ?_
      rintro⟨i,vO⟩ wr ⟨hi,hx,hown⟩
      dsimp only at hi hx hown ⊢
      replace rO:=rO.ext hx
      have hXr:=hX.trans hx
      have hol:((U.1.take i).flatMap SG).length≤i*3:=by
        have:=flat_le (l:=U.1.take i) (f:=SG) (c:=3) (fun z hz=>hSl z (List.mem_of_mem_take hz))
        rw [List.length_take] at this
        exact Nat.le_trans this (Nat.mul_le_mul_right _ (Nat.min_le_left _ _))
      by_cases hil:i<U.1.length
      · obtain⟨vb,vo,rfl⟩:=hvp (by omega)
        obtain⟨z,hz⟩:∃ z,U.1[i]?=some z:=⟨_,List.getElem?_eq_getElem hil⟩
        have hzm:=List.mem_of_getElem? hz
        have hzr:=hUl.2 z hzm
        obtain⟨m,rfl⟩:∃ m:Nat,z=(m:Int):=⟨z.toNat,by omega⟩
        obtain⟨u,hu1⟩:∃ u,us[m]?=some u:=⟨_,List.getElem?_eq_getElem (by omega)⟩
        obtain⟨ub,uo,rfl⟩:=hup (by omega)
        have hatz:=(Go.Pv.int_elem (sC0.ext hx) hz).one
        obtain⟨a0,c0,hatu,_,hsg⟩:=unt_elem (hu0.ext hXr) hu1
        have hSGm:SG (m:Int)=u.segs:=by rw [hSG];dsimp only;rw [Int.toNat_natCast,hu1]
        have hsegl:=hSl _ hzm
        rw [hSGm] at hsegl
        have htk:(U.1.take (i+1)).flatMap SG=(U.1.take i).flatMap SG++u.segs:=by
          obtain⟨h1,h2⟩:=List.getElem?_eq_some_iff.1 hz
          rw [List.take_succ_eq_append_getElem h1,h2,List.flatMap_append];simp [hSGm]
        obtain⟨ss,q1,q2⟩:=SlG.css hsg
        have fs:ss.flatten.length=u.segs.length*1:=AtsG.flat q1
        have hsi:=ats_ints q1
        (repeat' (first|refine eV Z Z (val_load Z Z Z (Row.cellAt (by assumption) (by rfl))) ?_|refine eV Z Z (val_load Z Z Z (At.cellAt (by assumption) (by rfl))) ?_|refine eV Z Z (val_load Z Z Z (by assumption)) ?_|refine eV Z Z (val_indexAddr (m:=i) Z Z Z (by first|rfl|omega) (by omega)) ?_|refine eV Z Z (val_indexAddr (m:=m) Z Z Z (by first|rfl|omega) (by omega)) ?_|(refine EL_appO (news:=ss.flatten) hown hx (fun h0=>?_) Z Z Z Z Z fs (AtsG.ones q1) Z Z (by omega) (by omega) (fun vJ wJ oJ xJ kJ hJ=>?_);(obtain⟨b,so,e,_,hat⟩:=q2 (by omega);exact⟨b,so,e,hat⟩))|(refine at_EL ?_;first|refine eN ?_|refine eV Z Z (zA Z Z) ?_|refine eV Z Z (zB Z Z) ?_|(refine at_bin ?_;first|refine eD Z Z (zL Z Z Z) (fun hh=>?_) (fun hh=>?_)|refine eV Z Z (zU Z Z Z (by omega) (by omega)) ?_)|refine eV Z Z (zH Z Z) ?_)|(refine at_K ?_;first|refine K_then ?_|refine K_in ?_|refine K_then_exit ?_|refine K_in_exit ?_)|(refine at_E ?_;first|refine E_seq ?_|refine E_region ?_|refine E_cond_t Z ?_|refine E_cond_f Z ?_|refine E_block ?_|refine E_skip ?_|refine E_exit ?_)))
        all_goals (try (exfalso;omega))
        refine K_rnd (i+1,vJ) ⟨rfl,rfl,rfl,rfl,rfl,trivial⟩ ⟨by dsimp only;omega,xJ,?_⟩ (by dsimp only;omega)
        dsimp only
        rw [htk]
        rw [hsi,ints_flat] at oJ
        simpa using oJ
      · obtain rfl:i=U.1.length:=by omega
        rw [List.take_length] at hown hol
        obtain⟨oa,oc,hvo⟩:∃ oa oc,vO=.slice oa (U.1.flatMap SG).length oc:=by
          rcases own_read hown with⟨h1,h2,_⟩|⟨b,cap,h1,_⟩
          · exact⟨none,0,by rw [h1,h2]⟩
          · exact⟨_,_,h1⟩
        subst hvo
        by_cases h24:24<(U.1.flatMap SG).length
        · rw [if_pos h24] at hr
          rw [hr]
          (repeat' (first|(refine at_EL ?_;first|refine eN ?_|refine eV Z Z (zA Z Z) ?_|refine eV Z Z (zB Z Z) ?_|(refine at_bin ?_;first|refine eD Z Z (zL Z Z Z) (fun hh=>?_) (fun hh=>?_)|refine eD Z Z (zO Z Z Z) (fun hh=>?_) (fun hh=>?_))|(refine at_call ?_;first|refine eV Z Z (zK Z Z) ?_))|(refine at_K ?_;first|refine K_then ?_|refine K_then_ret ?_|refine K_then_exit ?_|refine K_in_exit ?_)|(refine at_E ?_;first|refine E_seq ?_|refine E_region ?_|refine E_cond_t Z ?_|refine E_cond_f Z ?_|refine E_block ?_|refine E_skip ?_|refine E_ret ?_|refine E_exit ?_)))
          all_goals (try (exfalso;omega))
          exact ret_3 Z Z Z Z ⟨⟨_,_,rfl,SlG.nil⟩,hXr⟩
        · rw [if_neg h24] at hr
          rw [hr]
          (repeat' (first|(refine at_EL ?_;first|refine eN ?_|refine eV Z Z (zA Z Z) ?_|refine eV Z Z (zB Z Z) ?_|(refine at_bin ?_;first|refine eD Z Z (zL Z Z Z) (fun hh=>?_) (fun hh=>?_)|refine eD Z Z (zO Z Z Z) (fun hh=>?_) (fun hh=>?_))|(refine at_call ?_;first|refine eV Z Z (zK Z Z) ?_))|(refine at_K ?_;first|refine K_then ?_|refine K_then_ret ?_|refine K_then_exit ?_|refine K_in_exit ?_)|(refine at_E ?_;first|refine E_seq ?_|refine E_region ?_|refine E_cond_t Z ?_|refine E_cond_f Z ?_|refine E_block ?_|refine E_skip ?_|refine E_ret ?_|refine E_exit ?_)))
          all_goals (try (exfalso;omega))
          exact ret_3 Z Z Z Z ⟨⟨_,_,rfl,own_Sl (css:=(U.1.flatMap SG).map fun z=>[int z]) (by rw [ints_flat];exact hown) (ints_ats _ _) Z (by show(U.1.flatMap SG).length≤_;omega)⟩,hXr⟩
end Go.Proofs.YtjicdgejhkgpgaaGreatDoor
namespace Go.En
open Go.RowKit
theorem EL_push2 {α:Type} [Rep α] {Gx:Nat→Prop} {u0 w:World} {e:TypeId} {xs:List α} {ov:Value} {P:Program} {n:Nat} {ops rest:List Oper} {Q:Post} {L:List (Nat × Value)} {o:Oper} {d bS:Nat} {t:TypeId} {s y:Operand} {z:Value} {size bytes:Nat} {x:α} {X:List Value} [ut:UT P t (.slice e)] [ti:TI P e z size bytes]
    (h:Grow Gx u0 e xs ov w) (hr:Row w bS e X) (hx:Rep.at_ (Gq Gx ov) w x X) (hg:gst ops L o=some true) (hd:odst n o.dst=some d) (ho:o.op=.call { callee:=.builtin .append,args:=#[s,y],argTypes:=#[t,t] })
    (hsv:ev L s=some ov) (hy:ev L y=some (.slice (some ⟨bS,0,none⟩) 1 1)) (hz:z.cells.size=size) (hsz:Nat.beq size (Rep.sz α)=true) (hmax:(xs.length+1)*bytes≤140737488355328) (hmax':xs.length+1≤140737488355328)
    (k:∀ v' w',Grow Gx u0 e (xs++[x]) v' w'→Kb ov.ownBlock w w'→(v'.ownBlock=ov.ownBlock∨v'.ownBlock=some w.heap.size)→EL P n ops Q rest ((d,v')::L) w'):EL P n ops Q (o::rest) L w:=by
  have e0:=Nat.eq_of_beq_eq_true hsz
  subst e0
  obtain⟨h1,css,h2,h3⟩:=h
  have hp:0<Rep.sz α:=Rep.pos
  have hl:X.length=Rep.sz α:=Rep.len hx
  refine EL_appO (w0:=u0) (news:=X) (q:=1) (c:=1) h2 h1 (fun _=>⟨bS,0,rfl,hr.at⟩) hg hd ho hsv hy (by simp [hl]) (Rep.one hx) hz (Nat.ble_eq_true_of_le hp) hmax (by omega) (fun vJ wJ oJ xJ kJ hJ=>?_)
  have mv:∀ b,Gq Gx ov b→b<w.heap.size→Gq Gx vJ b∧wJ.heap[b]?=w.heap[b]?:=fun b hb hlt=>⟨⟨hb.1,(Nb.mv kJ hJ b hb.2 hlt).1⟩,(Nb.mv kJ hJ b hb.2 hlt).2⟩
  refine k vJ wJ ⟨xJ,css++[X],?_,AllAt.append (AtsG.move h3 mv) (AllAt.one (Rep.move hx mv))⟩ kJ hJ
  rw [List.flatten_append,List.length_append]
  simpa using oJ
end Go.En
namespace Go.Proofs.YtjicdgejhkgpgaaGreatDoor
open Go.RowKit Go.En Go.Pv
theorem filter_take {α:Type} {p:α→Bool} {l:List α} {i:Nat} {x:α} (h:l[i]?=some x):(l.take (i+1)).filter p=(l.take i).filter p++if p x then [x] else []:=by
  obtain⟨h1,h2⟩:=List.getElem?_eq_some_iff.1 h
  rw [List.take_succ_eq_append_getElem h1,h2,List.filter_append]
  congr 1
  cases hp:p x <;> simp [hp]
theorem filter_take_len {α:Type} {p:α→Bool} {l:List α} {i:Nat}:((l.take i).filter p).length≤i:=by
  have:=List.length_filter_le p (l.take i)
  rw [List.length_take] at this;omega
theorem entD_refs {g:Lg} (hok:LangOK g) (id:Int):(entD g.lex id).refs.length≤12:=by
  unfold entD
  cases h:getE g.lex id with
  | none=>simp [zeroEn]
  | some e=>exact(hok.lex e (List.mem_of_find?_eq_some h)).2.2.2.2.2.2.1
attribute [local irreducible] E EL K Val Enters Rt Calls bodyPost Code.wp RQ
theorem filter_take_map {α β:Type} {p:α→Bool} {f:α→β} {l:List α} {i:Nat} {x:α} (h:l[i]?=some x):((l.take (i+1)).filter p).map f=((l.take i).filter p).map f++if p x then [f x] else []:=by
  rw [filter_take h,List.map_append]
  cases p x <;> rfl
theorem empty_iff {α:Type} {l:List α}:l.isEmpty=decide ((l.length:Int)=0):=by cases l <;> simp;omega
theorem ints39:Ints Tryz.prog 39 3 2:=⟨by kernel_rfl,by kernel_rfl,by kernel_rfl,by kernel_rfl,Tryz.underlying3⟩
theorem rf_eq {x y:Rf}:[y.rcd,y.note]=[x.rcd,x.note]↔y=x:=by cases x;cases y;simp
end Go.Proofs.YtjicdgejhkgpgaaGreatDoor
