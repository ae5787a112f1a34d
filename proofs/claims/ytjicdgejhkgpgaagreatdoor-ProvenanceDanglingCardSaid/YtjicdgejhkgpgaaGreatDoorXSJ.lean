/-
  Walks: the reference's put, Dangling.
-/
import Derived.Test.YtjicdgejhkgpgaaGreatDoorY2
import Derived.Test.YtjicdgejhkgpgaaGreatDoorYl
set_option linter.all false
namespace Go.Proofs.YtjicdgejhkgpgaaGreatDoor
open Go.RowKit Go.En Go.Pv
attribute [local irreducible] E EL K Val Enters Rt Calls bodyPost Code.wp RQ
set_option maxHeartbeats 8000000 in
set_option maxRecDepth 8000 in
theorem put65_any (l : List Rf) (hu : UpR l) (hn : l.length ≤ 1000000) (r : Rf) (v : Value) (w : World) (hv : Sl w v l) : Calls Tryz.prog 65 #[v, .agg #[int r.rcd, int r.note] ] w (Rt fun u w' => Sl w' u (putR l r) ∧ Ext w w') := by
  have hv0:=hv
  obtain⟨a,c,rfl,hlc,hm,hpp⟩:=hv.sl
  refine calls_E (n:=45) (args:=[.slice a l.length c,.agg #[int r.rcd,int r.note] ]) Tryz.func65 rfl Tryz.ntmps65 (by simp) ?_
  refine E_seq ?_
  refine E_region ?_
  refine EL_boxA Z Z Z Z (fun bX wX xX hbX rX=>?_)
  have hX:=(Ext.refl w).trans xX
  replace hv0:=hv0.ext xX
  (repeat' ((fail_if_success (refine E_seq (x:=(Code.block 0 _)) ?_));first|(refine at_EL ?_;first|refine eN ?_|refine eV Z Z (zB Z Z) ?_)|(refine at_K ?_;first|refine K_then ?_)|(refine at_E ?_;first|refine E_seq ?_|refine E_region ?_)))
  refine E_mid (ι:=Nat) (fun i=>[(0,.slice a l.length c),(3,.pointer (some ⟨bX,0,none⟩)),(5,int i)]) (fun i wr=>i≤l.length∧Ext wX wr∧(∀(j:Nat) (x:Rf),j<i→l[j]?=some x→ltR x r)∧∀ x,l[i]?=some x→¬ ltR x r) ?_ ?_
  · (repeat' (first|(refine at_E ?_;first|refine E_block ?_)))
    refine E_loop (ι:=Nat) (fun i=>[(0,.slice a l.length c),(3,.pointer (some ⟨bX,0,none⟩)),(5,int i)]) (fun i wr=>i≤l.length∧Ext wX wr∧∀(j:Nat) (x:Rf),j<i→l[j]?=some x→ltR x r) (fun i=>l.length-i) 0
      ⟨rfl,rfl,rfl,trivial⟩ ⟨Nat.zero_le _,Ext.refl _,fun _ _ h=>absurd h (by omega)⟩ ?_
    rintro i wr ⟨hi,hx,hlow⟩
    replace hX:=hX.trans hx;replace hv0:=hv0.ext hx;replace rX:=rX.ext hx
    by_cases hil:i<l.length
    · obtain⟨b,off,rfl⟩:=hpp (by omega)
      obtain⟨x,hxi⟩:∃ x,l[i]?=some x:=⟨_,List.getElem?_eq_getElem hil⟩
      have hat:=rf_elem hv0 hxi
      have cp:=fun wz=>prec101_any x r wz
      by_cases hlt:ltR x r
      · rw [decide_eq_true hlt] at cp
        (repeat' (first|refine yV Z Z (fun wq _ xq=>val_loadA Z Z Z (Row.ext (by assumption) xq).at (by rfl)) ?_|refine yV Z Z (fun wq _ xq=>val_loadA Z Z Z (At.ext (by assumption) xq) (by rfl)) ?_|refine yV Z Z (fun _ _ _=>val_indexAddr (m:=i) Z Z Z (by first|rfl|omega) (by omega)) ?_|refine RQ_call Z Z (fun _ _ _=>entersF Z Z en101) (fun wz _=>cp wz) ?_|(refine at_EL ?_;first|refine eN ?_|refine eV Z Z (zA Z Z) ?_|refine eV Z Z (zB Z Z) ?_|(refine at_bin ?_;first|refine eV Z Z (zU Z Z Z (by omega) (by omega)) ?_))|(refine at_K ?_;first|refine K_then ?_|refine K_in ?_|refine K_then_exit ?_|refine K_in_exit ?_)|(refine at_E ?_;first|refine E_seq ?_|refine E_region ?_|refine E_cond_t Z ?_|refine E_cond_f Z ?_|refine E_block ?_|refine E_skip ?_|refine E_exit ?_|refine E_dq mixedOk (by kernel_rfl) Z ?_)|(refine at_RQ ?_;first|refine yN Z (fun wq xq=>?_)|refine yO Z Z ?_|refine yV Z Z (fun _ _ _=>zA Z Z) ?_|(refine at_binR ?_;first|refine yD Z Z (fun _ _ _=>zL Z Z Z) (fun hh=>?_) (fun hh=>?_))|(refine at_callR ?_;first|refine yV Z Z (fun _ _ _=>zK Z Z) ?_)|refine yV Z Z (fun _ _ _=>zC Z Z Z) ?_|refine yV Z Z (fun _ _ _=>zD Z Z Z) ?_)))
        all_goals (try (exfalso;omega))
        refine K_rnd (i+1) ⟨rfl,rfl,rfl,trivial⟩ ⟨by omega,hx.trans xq,fun j y hj hy=>?_⟩ (by omega)
        by_cases e:j=i
        · subst e;rw [hxi] at hy;cases hy;exact hlt
        · exact hlow j y (by omega) hy
      · rw [decide_eq_false hlt] at cp
        (repeat' (first|refine yV Z Z (fun wq _ xq=>val_loadA Z Z Z (Row.ext (by assumption) xq).at (by rfl)) ?_|refine yV Z Z (fun wq _ xq=>val_loadA Z Z Z (At.ext (by assumption) xq) (by rfl)) ?_|refine yV Z Z (fun _ _ _=>val_indexAddr (m:=i) Z Z Z (by first|rfl|omega) (by omega)) ?_|refine RQ_call Z Z (fun _ _ _=>entersF Z Z en101) (fun wz _=>cp wz) ?_|(refine at_EL ?_;first|refine eN ?_)|(refine at_K ?_;first|refine K_then ?_|refine K_then_exit ?_|refine K_in_exit ?_)|(refine at_E ?_;first|refine E_seq ?_|refine E_cond_f Z ?_|refine E_exit ?_|refine E_dq mixedOk (by kernel_rfl) Z ?_)|(refine at_RQ ?_;first|refine yN Z (fun wq xq=>?_)|refine yO Z Z ?_|refine yV Z Z (fun _ _ _=>zA Z Z) ?_|(refine at_binR ?_;first|refine yD Z Z (fun _ _ _=>zL Z Z Z) (fun hh=>?_) (fun hh=>?_))|(refine at_callR ?_;first|refine yV Z Z (fun _ _ _=>zK Z Z) ?_)|refine yV Z Z (fun _ _ _=>zC Z Z Z) ?_|refine yV Z Z (fun _ _ _=>zD Z Z Z) ?_)))
        all_goals (try (exfalso;omega))
        exact K_mid i ⟨rfl,rfl,rfl,trivial⟩ ⟨hi,hx.trans xq,hlow,fun y hy=>by rw [hxi] at hy;cases hy;exact hlt⟩
    · (repeat' (first|(refine at_EL ?_;first|refine eN ?_)|(refine at_K ?_;first|refine K_then ?_|refine K_then_exit ?_|refine K_in_exit ?_)|(refine at_E ?_;first|refine E_seq ?_|refine E_cond_f Z ?_|refine E_exit ?_|refine E_dq mixedOk (by kernel_rfl) Z ?_)|(refine at_RQ ?_;first|refine yN Z (fun wq xq=>?_)|refine yO Z Z ?_|refine yV Z Z (fun _ _ _=>zA Z Z) ?_|(refine at_binR ?_;first|refine yD Z Z (fun _ _ _=>zL Z Z Z) (fun hh=>?_) (fun hh=>?_))|(refine at_callR ?_;first|refine yV Z Z (fun _ _ _=>zK Z Z) ?_)|refine yV Z Z (fun _ _ _=>zD Z Z Z) ?_)))
      all_goals (try (exfalso;omega))
      exact K_mid i ⟨rfl,rfl,rfl,trivial⟩ ⟨hi,hx.trans xq,hlow,fun y hy=>by have:=(List.getElem?_eq_some_iff.1 hy).1;omega⟩
  · rintro i wr ⟨hi,hx,hlow,hup⟩
    replace hX:=hX.trans hx;replace hv0:=hv0.ext hx;replace rX:=rX.ext hx
    have hpl:=put_at hu (r:=r) hi hlow hup
    by_cases hri:l[i]?=some r
    · have hil:=(List.getElem?_eq_some_iff.1 hri).1
      rw [if_pos hri] at hpl
      obtain⟨b,off,rfl⟩:=hpp (by omega)
      have hat:=rf_elem hv0 hri
      rw [hpl]
      (repeat' ((fail_if_success (refine E_seq (x:=(Code.region 6 _ _)) ?_));first|refine yV Z Z (fun wq _ xq=>val_loadA Z Z Z (Row.ext (by assumption) xq).at (by rfl)) ?_|refine yV Z Z (fun wq _ xq=>val_loadA Z Z Z (At.ext (by assumption) xq) (by rfl)) ?_|refine yV Z Z (fun _ _ _=>val_indexAddr (m:=i) Z Z Z (by first|rfl|omega) (by omega)) ?_|refine yD Z Z (fun _ _ _=>val_eq_ints [r.rcd,r.note] [r.rcd,r.note] ints39 rfl rfl rfl rfl rfl rfl rfl) (fun hh=>?_) (fun hh=>?_)|(refine at_EL ?_;first|refine eN ?_|refine eV Z Z (zA Z Z) ?_|refine eV Z Z (zB Z Z) ?_)|(refine at_K ?_;first|refine K_then ?_|refine K_then_ret ?_)|(refine at_E ?_;first|refine E_seq ?_|refine E_region ?_|refine E_cond_t Z ?_|refine E_cond_f Z ?_|refine E_skip ?_|refine E_ret ?_|refine E_dq mixedOk (by kernel_rfl) Z ?_)|(refine at_RQ ?_;first|refine yN Z (fun wq xq=>?_)|refine yO Z Z ?_|refine yV Z Z (fun _ _ _=>zA Z Z) ?_|(refine at_binR ?_;first|refine yD Z Z (fun _ _ _=>zL Z Z Z) (fun hh=>?_) (fun hh=>?_))|(refine at_callR ?_;first|refine yV Z Z (fun _ _ _=>zK Z Z) ?_)|refine yV Z Z (fun _ _ _=>zC Z Z Z) ?_|refine yV Z Z (fun _ _ _=>zD Z Z Z) ?_)))
      all_goals (try (exfalso;omega))
      all_goals first
        | exact ret_1 Z Z ⟨hv0.ext xq,hX.trans xq⟩
        | exact absurd rfl hh
    · rw [if_neg hri] at hpl
      by_cases hil:i<l.length
      · obtain⟨b,off,rfl⟩:=hpp (by omega)
        obtain⟨x,hxi⟩:∃ x,l[i]?=some x:=⟨_,List.getElem?_eq_getElem hil⟩
        have hat:=rf_elem hv0 hxi
        have hne:¬ x=r:=fun e=>hri (by rw [hxi,e])
        (repeat' ((fail_if_success (refine E_seq (x:=(Code.region 6 _ _)) ?_));first|(refine yN Z (fun wq xq=>?_);replace hX:=hX.trans xq;replace hx:=hx.trans xq;replace hv0:=hv0.ext xq;replace rX:=rX.ext xq)|refine yV Z Z (fun wq _ xq=>val_loadA Z Z Z (Row.ext (by assumption) xq).at (by rfl)) ?_|refine yV Z Z (fun wq _ xq=>val_loadA Z Z Z (At.ext (by assumption) xq) (by rfl)) ?_|refine yV Z Z (fun _ _ _=>val_indexAddr (m:=i) Z Z Z (by first|rfl|omega) (by omega)) ?_|refine yD Z Z (fun _ _ _=>val_eq_ints [x.rcd,x.note] [r.rcd,r.note] ints39 rfl rfl rfl rfl rfl rfl rfl) (fun hh=>?_) (fun hh=>?_)|(refine at_EL ?_;first|refine eN ?_|refine eV Z Z (zA Z Z) ?_|refine eV Z Z (zB Z Z) ?_)|(refine at_K ?_;first|refine K_then ?_|refine K_then_ret ?_)|(refine at_E ?_;first|refine E_seq ?_|refine E_region ?_|refine E_cond_t Z ?_|refine E_cond_f Z ?_|refine E_skip ?_|refine E_ret ?_|refine E_dq mixedOk (by kernel_rfl) Z ?_)|(refine at_RQ ?_;first|refine yO Z Z ?_|refine yV Z Z (fun _ _ _=>zA Z Z) ?_|(refine at_binR ?_;first|refine yD Z Z (fun _ _ _=>zL Z Z Z) (fun hh=>?_) (fun hh=>?_))|(refine at_callR ?_;first|refine yV Z Z (fun _ _ _=>zK Z Z) ?_)|refine yV Z Z (fun _ _ _=>zC Z Z Z) ?_|refine yV Z Z (fun _ _ _=>zD Z Z Z) ?_)))
        all_goals (try (exfalso;omega))
        all_goals (first|exact absurd (rf_eq.1 hh) hne|skip)
        refine E_seq ?_
        refine E.sub (M:=[(0,.slice _ l.length c),(3,.pointer (some ⟨bX,0,none⟩)),(5,int i)]) ⟨rfl,rfl,rfl,trivial⟩ ?_
        have hpre:=SlG.take hv0 (k:=i) hi
        have hsuf:=SlG.drop hv0 (k:=i) hi
        obtain⟨sa,s1,s2⟩:=hpre.css
        obtain⟨sb,t1,t2⟩:=hsuf.css
        have fa:sa.flatten.length=i*2:=by have:=AtsG.flat s1;rw [List.length_take,Nat.min_eq_left hi] at this;exact this
        have fb:sb.flatten.length=(l.length-i)*2:=by have:=AtsG.flat t1;rw [List.length_drop] at this;exact this
        have hic:i≤c:=by omega
        refine E_res (id:=6) [.r (some 33) 33 (ROwn wq.heap.size 39 2 0 []) [],.v 34 (.slice _ l.length c),.v 35 (int i),.v 36 (.slice _ i c),.r (some 37) 37 (ROwn wq.heap.size 39 2 (0+i) ([]++sa.flatten)) [0],.v 38 (.agg #[int r.rcd,int r.note]),
          .r (some 39) 39 (ROwn wq.heap.size 39 2 1 [int r.rcd,int r.note]) [],.r (some 40) 40 (ROwn wq.heap.size 39 2 (0+i+1) ([]++sa.flatten++[int r.rcd,int r.note])) [4,6],.v 41 (.slice _ l.length c),.v 42 (int i),.v 43 (.slice _ (l.length-i) (c-i)),
          .r (some 44) 44 (ROwn wq.heap.size 39 2 (0+i+1+(l.length-i)) ([]++sa.flatten++[int r.rcd,int r.note]++sb.flatten)) [7],.r (some 4) 4 (ROwn wq.heap.size 39 2 (0+i+1+(l.length-i)) ([]++sa.flatten++[int r.rcd,int r.note]++sb.flatten)) [11] ] [12] mixedOk (by kernel_rfl) (by kernel_rfl) (by kernel_rfl)
          ⟨st_lit (vs:=[]) (cs:=[]) Z Z Z Z Z Z Z (by omega),vcV fun _ _=>zA Z Z,vcV fun _ _=>zA Z Z,vcV fun _ _=>val_slice_h (b:=i) Z Z Z Z hic,
            st_app (c:=c) (q:=i) rfl rfl (fun _=>rfl) (fun w' x' h0=>by obtain⟨b,so,e1,_,hat⟩:=s2 (by omega);exact⟨b,so,e1,hat.ext x'⟩) fa (AtsG.ones s1) rfl rfl (by omega) (by omega),
            vcV fun wq xq=>(by first|exact val_load Z Z Z ((Row.ext (by assumption) xq).cellAt (by rfl))|exact val_loadA Z Z Z (Row.ext (by assumption) xq).at (by rfl)|exact val_load Z Z Z ((At.ext (by assumption) xq).cellAt (by rfl))|exact val_loadA Z Z Z (At.ext (by assumption) xq) (by rfl)|exact val_load Z Z Z (Ext.cell xq (by assumption))),st_lit (vs:=[.agg #[int r.rcd,int r.note] ]) (cs:=[int r.rcd,int r.note]) Z Z Z Z Z Z Z (by omega),st_app2 rfl rfl rfl (by decide) Z Z Z (by omega) (by omega),
            vcV fun _ _=>zA Z Z,vcV fun _ _=>zA Z Z,vcV fun _ _=>val_slice_l (b:=i) Z Z Z Z hi,
            st_app (c:=c-i) (q:=l.length-i) rfl rfl (fun _=>rfl) (fun w' x' h0=>by obtain⟨b,so,e1,_,hat⟩:=t2 (by omega);exact⟨b,so,e1,hat.ext x'⟩) fb (AtsG.ones t1) rfl rfl (by omega) (by omega),
            st_val mv_own (fun w' δ' Gs' x' hr'=>⟨δ' 44,val_assign Z Z,(by have h11:=hr' 11 (List.mem_singleton.2 rfl);exact⟨h11.1,fun b hb=>⟨11,List.mem_singleton.2 rfl,h11.2 b hb⟩⟩)⟩),trivial⟩ (fun w4 δ4 Gs4 x4 hr4 hd4=>?_)
        have h12:=(hr4 12 (List.mem_singleton.2 rfl)).1
        change ROwn wq.heap.size 39 2 (0+i+1+(l.length-i)) ([]++sa.flatten++[int r.rcd,int r.note]++sb.flatten) (Gs4 12) (δ4 4) w4 at h12
        have hres:Sl w4 (δ4 4) (putR l r):=by
          rw [hpl]
          have h13:w4.ownsRow wq.heap.size 39 (Rep.sz Rf) (δ4 4) (0+i+1+(l.length-i)) (sa++[[int r.rcd,int r.note] ]++sb).flatten:=by
            show w4.ownsRow wq.heap.size 39 2 _ _ _
            simpa [List.flatten_append] using h12.1
          refine own_SlG (n:=0+i+1+(l.length-i)) (css:=sa++[[int r.rcd,int r.note] ]++sb) h13 ?_ (fun _ _=>trivial) (by simp;omega) (by simp;omega)
          have e1:l.take i++r::l.drop i=l.take i++[r]++l.drop i:=by simp
          rw [e1]
          exact AllAt.append (AllAt.append (AtsG.ext s1 x4) (AllAt.one rfl)) (AtsG.ext t1 x4)
        refine K_then ?_
        refine E_ret ?_
        exact ret_1 Z Z ⟨hres,hX.trans x4⟩
      · (repeat' ((fail_if_success (refine E_seq (x:=(Code.region 6 _ _)) ?_));first|(refine yN Z (fun wq xq=>?_);replace hX:=hX.trans xq;replace hx:=hx.trans xq;replace hv0:=hv0.ext xq;replace rX:=rX.ext xq)|(refine at_EL ?_;first|refine eN ?_)|(refine at_K ?_;first|refine K_then ?_)|(refine at_E ?_;first|refine E_seq ?_|refine E_cond_f Z ?_|refine E_skip ?_|refine E_dq mixedOk (by kernel_rfl) Z ?_)|(refine at_RQ ?_;first|refine yO Z Z ?_|refine yV Z Z (fun _ _ _=>zA Z Z) ?_|(refine at_binR ?_;first|refine yD Z Z (fun _ _ _=>zL Z Z Z) (fun hh=>?_) (fun hh=>?_))|(refine at_callR ?_;first|refine yV Z Z (fun _ _ _=>zK Z Z) ?_)|refine yV Z Z (fun _ _ _=>zD Z Z Z) ?_)))
        all_goals (try (exfalso;omega))
        refine E_seq ?_
        refine E.sub (M:=[(0,.slice _ l.length c),(3,.pointer (some ⟨bX,0,none⟩)),(5,int i)]) ⟨rfl,rfl,rfl,trivial⟩ ?_
        have hpre:=SlG.take hv0 (k:=i) hi
        have hsuf:=SlG.drop hv0 (k:=i) hi
        obtain⟨sa,s1,s2⟩:=hpre.css
        obtain⟨sb,t1,t2⟩:=hsuf.css
        have fa:sa.flatten.length=i*2:=by have:=AtsG.flat s1;rw [List.length_take,Nat.min_eq_left hi] at this;exact this
        have fb:sb.flatten.length=(l.length-i)*2:=by have:=AtsG.flat t1;rw [List.length_drop] at this;exact this
        have hic:i≤c:=by omega
        refine E_res (id:=6) [.r (some 33) 33 (ROwn wq.heap.size 39 2 0 []) [],.v 34 (.slice _ l.length c),.v 35 (int i),.v 36 (.slice _ i c),.r (some 37) 37 (ROwn wq.heap.size 39 2 (0+i) ([]++sa.flatten)) [0],.v 38 (.agg #[int r.rcd,int r.note]),
          .r (some 39) 39 (ROwn wq.heap.size 39 2 1 [int r.rcd,int r.note]) [],.r (some 40) 40 (ROwn wq.heap.size 39 2 (0+i+1) ([]++sa.flatten++[int r.rcd,int r.note])) [4,6],.v 41 (.slice _ l.length c),.v 42 (int i),.v 43 (.slice _ (l.length-i) (c-i)),
          .r (some 44) 44 (ROwn wq.heap.size 39 2 (0+i+1+(l.length-i)) ([]++sa.flatten++[int r.rcd,int r.note]++sb.flatten)) [7],.r (some 4) 4 (ROwn wq.heap.size 39 2 (0+i+1+(l.length-i)) ([]++sa.flatten++[int r.rcd,int r.note]++sb.flatten)) [11] ] [12] mixedOk (by kernel_rfl) (by kernel_rfl) (by kernel_rfl)
          ⟨st_lit (vs:=[]) (cs:=[]) Z Z Z Z Z Z Z (by omega),vcV fun _ _=>zA Z Z,vcV fun _ _=>zA Z Z,vcV fun _ _=>val_slice_h (b:=i) Z Z Z Z hic,
            st_app (c:=c) (q:=i) rfl rfl (fun _=>rfl) (fun w' x' h0=>by obtain⟨b,so,e1,_,hat⟩:=s2 (by omega);exact⟨b,so,e1,hat.ext x'⟩) fa (AtsG.ones s1) rfl rfl (by omega) (by omega),
            vcV fun wq xq=>(by first|exact val_load Z Z Z ((Row.ext (by assumption) xq).cellAt (by rfl))|exact val_loadA Z Z Z (Row.ext (by assumption) xq).at (by rfl)|exact val_load Z Z Z ((At.ext (by assumption) xq).cellAt (by rfl))|exact val_loadA Z Z Z (At.ext (by assumption) xq) (by rfl)|exact val_load Z Z Z (Ext.cell xq (by assumption))),st_lit (vs:=[.agg #[int r.rcd,int r.note] ]) (cs:=[int r.rcd,int r.note]) Z Z Z Z Z Z Z (by omega),st_app2 rfl rfl rfl (by decide) Z Z Z (by omega) (by omega),
            vcV fun _ _=>zA Z Z,vcV fun _ _=>zA Z Z,vcV fun _ _=>val_slice_l (b:=i) Z Z Z Z hi,
            st_app (c:=c-i) (q:=l.length-i) rfl rfl (fun _=>rfl) (fun w' x' h0=>by obtain⟨b,so,e1,_,hat⟩:=t2 (by omega);exact⟨b,so,e1,hat.ext x'⟩) fb (AtsG.ones t1) rfl rfl (by omega) (by omega),
            st_val mv_own (fun w' δ' Gs' x' hr'=>⟨δ' 44,val_assign Z Z,(by have h11:=hr' 11 (List.mem_singleton.2 rfl);exact⟨h11.1,fun b hb=>⟨11,List.mem_singleton.2 rfl,h11.2 b hb⟩⟩)⟩),trivial⟩ (fun w4 δ4 Gs4 x4 hr4 hd4=>?_)
        have h12:=(hr4 12 (List.mem_singleton.2 rfl)).1
        change ROwn wq.heap.size 39 2 (0+i+1+(l.length-i)) ([]++sa.flatten++[int r.rcd,int r.note]++sb.flatten) (Gs4 12) (δ4 4) w4 at h12
        have hres:Sl w4 (δ4 4) (putR l r):=by
          rw [hpl]
          have h13:w4.ownsRow wq.heap.size 39 (Rep.sz Rf) (δ4 4) (0+i+1+(l.length-i)) (sa++[[int r.rcd,int r.note] ]++sb).flatten:=by
            show w4.ownsRow wq.heap.size 39 2 _ _ _
            simpa [List.flatten_append] using h12.1
          refine own_SlG (n:=0+i+1+(l.length-i)) (css:=sa++[[int r.rcd,int r.note] ]++sb) h13 ?_ (fun _ _=>trivial) (by simp;omega) (by simp;omega)
          have e1:l.take i++r::l.drop i=l.take i++[r]++l.drop i:=by simp
          rw [e1]
          exact AllAt.append (AllAt.append (AtsG.ext s1 x4) (AllAt.one rfl)) (AtsG.ext t1 x4)
        refine K_then ?_
        refine E_ret ?_
        exact ret_1 Z Z ⟨hres,hX.trans x4⟩
def refsTo (leads:Rf→Bool) (l:List Pnt):List Rf:=(l.flatMap (·.refs)).filter fun r=>!leads r
theorem dangl_eq (leads:Rf→Bool) (l:List Pnt):danglF leads l=putAll [] (refsTo leads l):=rfl
theorem putAll_append (l a b:List Rf):putAll l (a++b)=putAll (putAll l a) b:=by unfold putAll;rw [List.foldl_append]
theorem refsTo_succ {leads:Rf→Bool} {l:List Pnt} {i:Nat} {p:Pnt} (h:l[i]?=some p):refsTo leads (l.take (i+1))=refsTo leads (l.take i)++p.refs.filter fun r=>!leads r:=by
  obtain⟨h1,h2⟩:=List.getElem?_eq_some_iff.1 h
  unfold refsTo
  rw [List.take_succ_eq_append_getElem h1,h2,List.flatMap_append,List.filter_append];simp
theorem filter_snoc {α:Type} {f:α→Bool} {l:List α} {i:Nat} {x:α} (h:l[i]?=some x):(l.take (i+1)).filter f=(l.take i).filter f++if f x then [x] else []:=filter_take h
theorem refsTo_len {leads:Rf→Bool} {l:List Pnt} {m:Nat} (h:∀ p∈l,p.refs.length≤1000) (hl:l.length≤m):(refsTo leads l).length≤1000*m:=by
  have h1:(refsTo leads l).length≤(l.flatMap (·.refs)).length:=List.length_filter_le _ _
  have h2:(l.flatMap (·.refs)).length≤l.length*1000:=by
    rw [List.length_flatMap]
    clear h1 hl
    induction l with
    | nil=>simp
    | cons p r ih=>
      rw [List.map_cons,List.sum_cons,List.length_cons]
      have:=ih (fun q hq=>h q (List.mem_cons_of_mem _ hq))
      have:=h p List.mem_cons_self
      omega
  have:l.length*1000≤m*1000:=Nat.mul_le_mul_right _ hl
  omega
set_option maxHeartbeats 8000000 in
set_option maxRecDepth 8000 in
theorem dangling30_any {ds:List Dc} (hL:LightDs ds) (l:List Pnt) (hn:l.length≤100) (hr:∀ p∈l,p.refs.length≤1000) (dv v:Value) (w:World) (hd:Sl w dv ds) (hv:Sl w v l):Calls Tryz.prog 30 #[dv,v] w (Rt fun u w'=>Sl w' u (danglF (leadsB ds) l)∧Ext w w'):=by
  rw [dangl_eq]
  have hv0:=hv
  obtain⟨a,c,rfl,_,hm,hpp⟩:=hv.sl
  refine calls_E (n:=53) (args:=[dv,.slice a l.length c]) Tryz.func30 rfl Tryz.ntmps30 (by simp) ?_
  (repeat' (first|(refine at_EL ?_;first|refine eN ?_|refine eV Z Z (zB Z Z) ?_|refine eL Z Z Z Z Z Z Z Z (fun bS wS xS hbS rS=>?_))|(refine at_K ?_;first|refine K_then ?_)|(refine at_E ?_;first|refine E_seq ?_|refine E_region ?_|refine E_block ?_)))
  refine E_loop (ι:=Nat × Value) (fun z=>[(0,dv),(1,.slice a l.length c),(5,z.2),(6,int z.1)])
    (fun z wr=>z.1≤l.length∧Ext w wr∧Sl wr z.2 (putAll [] (refsTo (leadsB ds) (l.take z.1)))) (fun z=>l.length-z.1) (0,.slice (some ⟨bS,0,none⟩) 0 0)
    ⟨rfl,rfl,rfl,rfl,trivial⟩ ⟨Nat.zero_le _,xS,⟨some ⟨bS,0,none⟩,0,rfl,Nat.le_refl _,by simp [refsTo,putAll],fun h=>absurd h (by simp [refsTo,putAll])⟩⟩ ?_
  rintro⟨i,ov⟩ wr ⟨hi,hx,ho⟩
  dsimp only at hi hx ho ⊢
  replace hv0:=hv0.ext hx
  replace hd:=hd.ext hx
  by_cases hlt:i<l.length
  · obtain⟨b,off,rfl⟩:=hpp (by omega)
    obtain⟨p,hpi⟩:∃ p,l[i]?=some p:=⟨_,List.getElem?_eq_getElem hlt⟩
    have hs:=refsTo_succ (leads:=leadsB ds) hpi
    obtain⟨O,hO⟩:∃ O,O=putAll [] (refsTo (leadsB ds) (l.take i)):=⟨_,rfl⟩
    rw [← hO] at ho
    have hnext:putAll [] (refsTo (leadsB ds) (l.take (i+1)))=putAll O (p.refs.filter fun r=>!leadsB ds r):=by rw [hs,putAll_append,hO]
    have hOu:UpR O:=by rw [hO];exact putAll_up List.Pairwise.nil _
    have hOl:O.length≤100000:=by
      have h1:=putAll_len (rs:=refsTo (leadsB ds) (l.take i)) (l:=[])
      have h2:=refsTo_len (leads:=leadsB ds) (l:=l.take i) (m:=100) (fun q hq=>hr q (List.mem_of_mem_take hq)) (by rw [List.length_take];omega)
      rw [← hO] at h1
      simp only [List.length_nil] at h1
      omega
    have hpr:=hr p (List.mem_of_getElem? hpi)
    (repeat' (first|(refine at_EL ?_;first|refine eN ?_|refine eV Z Z (zA Z Z) ?_|refine eV Z Z (zB Z Z) ?_|(refine at_bin ?_;first|refine eD Z Z (zL Z Z Z) (fun hh=>?_) (fun hh=>?_))|(refine at_call ?_;first|refine eV Z Z (zK Z Z) ?_))|(refine at_K ?_;first|refine K_then ?_|refine K_then_exit ?_|refine K_in_exit ?_)|(refine at_E ?_;first|refine E_seq ?_|refine E_region ?_|refine E_cond_t Z ?_|refine E_cond_f Z ?_|refine E_block ?_|refine E_skip ?_|refine E_ret ?_|refine E_exit ?_)))
    all_goals (try (exfalso;omega))
    refine E_loop (ι:=Nat × Value) (fun z=>[(0,dv),(1,.slice (some ⟨b,off,none⟩) l.length c),(5,z.2),(6,int i),(7,int z.1)])
      (fun z wk=>z.1≤p.refs.length∧Ext wr wk∧Sl wk z.2 (putAll O ((p.refs.take z.1).filter fun r=>!leadsB ds r))) (fun z=>p.refs.length-z.1) (0,ov)
      ⟨rfl,rfl,rfl,rfl,rfl,trivial⟩ ⟨Nat.zero_le _,Ext.refl _,ho⟩ ?_
    rintro⟨k,o2⟩ wk ⟨hk,hxk,ho2⟩
    dsimp only at hk hxk ho2 ⊢
    replace hx:=hx.trans hxk;replace hv0:=hv0.ext hxk;replace hd:=hd.ext hxk
    obtain⟨a0,c0,a1,c1,hat,_,_,hrs⟩:=pnt_elem hv0 hpi
    obtain⟨_,_,ee,_,_,hrp⟩:=hrs.sl
    cases ee
    by_cases hlk:k<p.refs.length
    · obtain⟨rb,ro,rfl⟩:=hrp (by omega)
      obtain⟨x,hxi⟩:∃ x,p.refs[k]?=some x:=⟨_,List.getElem?_eq_getElem hlk⟩
      have hatx:=rf_elem hrs hxi
      have hft:=filter_snoc (f:=fun r=>!leadsB ds r) hxi
      obtain⟨O2,hO2⟩:∃ O2,O2=putAll O ((p.refs.take k).filter fun r=>!leadsB ds r):=⟨_,rfl⟩
      have hO2u:UpR O2:=by rw [hO2];exact putAll_up hOu _
      have hO2l:O2.length≤1000000:=by
        have h1:=putAll_len (rs:=(p.refs.take k).filter fun r=>!leadsB ds r) (l:=O)
        have h2:=filter_take_len (p:=fun r=>!leadsB ds r) (l:=p.refs) (i:=k)
        rw [← hO2] at h1
        omega
      rw [← hO2] at ho2
      have cw:=fun wz hz=>where41_any hL x dv wz hz
      have hVV:whereDV ds x=.tuple #[.agg #[int (whereS ds x).1,int (whereS ds x).2],.bool (leadsB ds x)]:=rfl
      rw [hVV] at cw
      cases hb:leadsB ds x with
      | true=>
        rw [hb] at cw hft
        rw [show(if (!true)=true then [x] else [])=([]:List Rf) from rfl,List.append_nil] at hft
        (repeat' (first|refine eV Z Z (val_load Z Z Z (At.cellAt (by assumption) (by rfl))) ?_|refine eV Z Z (val_loadA Z Z Z (by assumption) (by rfl)) ?_|refine eV Z Z (val_indexAddr (m:=i) Z Z Z (by first|rfl|omega) (by omega)) ?_|refine eV Z Z (val_indexAddr (m:=k) Z Z Z (by first|rfl|omega) (by omega)) ?_|(refine EL_call Z Z (entersF Z Z en41) (cw _ hd) (fun vC wC hC=>?_);obtain⟨rfl,xC⟩:=hC;replace hx:=hx.trans xC;replace hxk:=hxk.trans xC;replace hat:=hat.ext xC;replace hatx:=hatx.ext xC;replace ho2:=ho2.ext xC)|(refine EL_var Z Z Z Z Z Z Z Z Z Z (fun bN wN xN hbN rN=>?_);replace hx:=hx.trans xN;replace hxk:=hxk.trans xN;replace hat:=hat.ext xN;replace hatx:=hatx.ext xN;replace ho2:=ho2.ext xN)|(refine at_EL ?_;first|refine eN ?_|refine eV Z Z (zA Z Z) ?_|refine eV Z Z (zB Z Z) ?_|(refine at_bin ?_;first|refine eD Z Z (zL Z Z Z) (fun hh=>?_) (fun hh=>?_)|refine eV Z Z (zU Z Z Z (by omega) (by omega)) ?_)|(refine at_call ?_;first|refine eV Z Z (zK Z Z) ?_)|refine eV Z Z (zE Z Z) ?_|refine eV Z Z (zF Z Z Z) ?_|refine eV Z Z (zH Z Z) ?_)|(refine at_K ?_;first|refine K_then ?_|refine K_in ?_|refine K_then_exit ?_|refine K_in_exit ?_)|(refine at_E ?_;first|refine E_seq ?_|refine E_region ?_|refine E_cond_t Z ?_|refine E_cond_f Z ?_|refine E_block ?_|refine E_skip ?_|refine E_exit ?_)))
        all_goals (try (exfalso;omega))
        exact K_rnd (k+1,o2) ⟨rfl,rfl,rfl,rfl,rfl,trivial⟩ ⟨by dsimp only;omega,hxk,by dsimp only;rw [hft,← hO2];exact ho2⟩ (by dsimp only;omega)
      | false=>
        rw [hb] at cw hft
        rw [show(if (!false)=true then [x] else [])=[x] from rfl] at hft
        have hput:putAll O ((p.refs.take (k+1)).filter fun r=>!leadsB ds r)=putR O2 x:=by rw [hft,putAll_append,← hO2];rfl
        (repeat' (first|refine eV Z Z (val_load Z Z Z (At.cellAt (by assumption) (by rfl))) ?_|refine eV Z Z (val_loadA Z Z Z (by assumption) (by rfl)) ?_|refine eV Z Z (val_indexAddr (m:=i) Z Z Z (by first|rfl|omega) (by omega)) ?_|refine eV Z Z (val_indexAddr (m:=k) Z Z Z (by first|rfl|omega) (by omega)) ?_|(refine EL_call Z Z (entersF Z Z en41) (cw _ hd) (fun vC wC hC=>?_);obtain⟨rfl,xC⟩:=hC;replace hx:=hx.trans xC;replace hxk:=hxk.trans xC;replace hat:=hat.ext xC;replace hatx:=hatx.ext xC;replace ho2:=ho2.ext xC)|(refine EL_var Z Z Z Z Z Z Z Z Z Z (fun bN wN xN hbN rN=>?_);replace hx:=hx.trans xN;replace hxk:=hxk.trans xN;replace hat:=hat.ext xN;replace hatx:=hatx.ext xN;replace ho2:=ho2.ext xN)|(refine EL_call Z Z (entersF Z Z en65) (put65_any O2 hO2u hO2l x _ _ ho2) (fun vC wD hC=>?_);obtain⟨sC,xD⟩:=hC;replace hxk:=hxk.trans xD)|(refine at_EL ?_;first|refine eN ?_|refine eV Z Z (zA Z Z) ?_|refine eV Z Z (zB Z Z) ?_|(refine at_bin ?_;first|refine eD Z Z (zL Z Z Z) (fun hh=>?_) (fun hh=>?_)|refine eV Z Z (zU Z Z Z (by omega) (by omega)) ?_)|(refine at_call ?_;first|refine eV Z Z (zK Z Z) ?_)|refine eV Z Z (zE Z Z) ?_|refine eV Z Z (zF Z Z Z) ?_|refine eV Z Z (zH Z Z) ?_)|(refine at_K ?_;first|refine K_then ?_|refine K_in ?_|refine K_then_exit ?_|refine K_in_exit ?_)|(refine at_E ?_;first|refine E_seq ?_|refine E_region ?_|refine E_cond_t Z ?_|refine E_cond_f Z ?_|refine E_block ?_|refine E_skip ?_|refine E_exit ?_)))
        all_goals (try (exfalso;omega))
        exact K_rnd (k+1,vC) ⟨rfl,rfl,rfl,rfl,rfl,trivial⟩ ⟨by dsimp only;omega,hxk,by dsimp only;rw [hput];exact sC⟩ (by dsimp only;omega)
    · obtain rfl:k=p.refs.length:=by omega
      rw [List.take_length] at ho2
      (repeat' (first|refine eV Z Z (val_load Z Z Z (At.cellAt (by assumption) (by rfl))) ?_|refine eV Z Z (val_indexAddr (m:=i) Z Z Z (by first|rfl|omega) (by omega)) ?_|(refine at_EL ?_;first|refine eN ?_|refine eV Z Z (zA Z Z) ?_|refine eV Z Z (zB Z Z) ?_|(refine at_bin ?_;first|refine eD Z Z (zL Z Z Z) (fun hh=>?_) (fun hh=>?_)|refine eV Z Z (zU Z Z Z (by omega) (by omega)) ?_)|(refine at_call ?_;first|refine eV Z Z (zK Z Z) ?_)|refine eV Z Z (zH Z Z) ?_)|(refine at_K ?_;first|refine K_then ?_|refine K_in ?_|refine K_then_exit ?_|refine K_in_exit ?_)|(refine at_E ?_;first|refine E_seq ?_|refine E_region ?_|refine E_cond_t Z ?_|refine E_cond_f Z ?_|refine E_block ?_|refine E_skip ?_|refine E_exit ?_)))
      all_goals (try (exfalso;omega))
      exact K_rnd (i+1,o2) ⟨rfl,rfl,rfl,rfl,trivial⟩ ⟨by dsimp only;omega,hx,by dsimp only;rw [hnext];exact ho2⟩ (by dsimp only;omega)
  · obtain rfl:i=l.length:=by omega
    rw [List.take_length] at ho
    (repeat' (first|(refine at_EL ?_;first|refine eN ?_|refine eV Z Z (zA Z Z) ?_|refine eV Z Z (zB Z Z) ?_|(refine at_bin ?_;first|refine eD Z Z (zL Z Z Z) (fun hh=>?_) (fun hh=>?_))|(refine at_call ?_;first|refine eV Z Z (zK Z Z) ?_))|(refine at_K ?_;first|refine K_then ?_|refine K_then_exit ?_|refine K_in_exit ?_)|(refine at_E ?_;first|refine E_seq ?_|refine E_region ?_|refine E_cond_t Z ?_|refine E_cond_f Z ?_|refine E_block ?_|refine E_skip ?_|refine E_ret ?_|refine E_exit ?_)))
    all_goals (try (exfalso;omega))
    exact ret_1 Z Z ⟨ho,hx⟩
end Go.Proofs.YtjicdgejhkgpgaaGreatDoor
