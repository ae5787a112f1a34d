/-
  Walks: the reference's tier, Check of tiers. Walks: the reference's Check of tiers, Check, Light, Copy of documents. Walks: the reference's check of the words of an entry.
-/
import Derived.Test.YtjicdgejhkgpgaaGreatDoorYg
import Derived.Test.YtjicdgejhkgpgaaGreatDoorYh
import Derived.Test.YtjicdgejhkgpgaaGreatDoorDh
import Derived.Test.YtjicdgejhkgpgaaGreatDoorYi
set_option linter.all false
namespace Go.Proofs.YtjicdgejhkgpgaaGreatDoor
open Go.RowKit Go.En
theorem loop_nx2 {α:Type} {l:List α} {i:Nat} {x:α} {f:α→Prop} (hx:l[i]?=some x) (hall:∀ j,j<i→∀ y,l[j]?=some y→f y) (h:f x):∀ j,j<i+1→∀ y,l[j]?=some y→f y:=fun j hj y hy=>by
  by_cases hj2:j<i
  · exact hall j hj2 y hy
  · obtain rfl:j=i:=by omega
    rw [hx] at hy;cases hy;exact h
attribute [local irreducible] E EL K Val Enters Rt Calls bodyPost Code.wp RQ
theorem rname_some (s:List UInt8) (w:World) (hl:s.length≤9223372036854775807):Calls Tryz.prog 147 #[str s] w (Rt fun u w'=>(∃ b,u=.bool b)∧Ext w w'):=rname_any s w hl
set_option maxRecDepth 8000 in
set_option maxHeartbeats 4000000 in
theorem tier_any (ts:List Tier) (i:Nat) (t:Tier) (v:Value) (w:World) (hv:Sl w v ts) (ht:ts[i]?=some t) (hn:∀ t∈ts,t.name.length≤9223372036854775807) :
    Calls Tryz.prog 171 #[v,int i] w (Rt fun u w'=>(∃ e:Int,u=int e∧(e=0→TierOK ts i t))∧Ext w w'):=by
  refine calls_E (n:=136) (args:=[v,int i]) Tryz.func171 rfl Tryz.ntmps171 (by simp) ?_
  have hv0:=hv
  obtain⟨a,cap,rfl,hc,hm,hp⟩:=hv.sl
  have hilt:=(List.getElem?_eq_some_iff.1 ht).1
  obtain⟨b,off,rfl⟩:=hp (by omega)
  have hat:=tier_elem hv0 ht
  have hnl:=hn t (List.mem_of_getElem? ht)
  (repeat' (first|refine eV Z Z (val_indexAddr (m:=i) Z Z Z Z (by omega)) ?_|refine eV Z Z (val_loadA Z Z Z hat rfl) ?_|(refine at_EL ?_;first|refine eN ?_|refine eV Z Z (zA Z Z) ?_|refine eV Z Z (zB Z Z) ?_)|(refine at_K ?_;first|refine K_then ?_)|(refine at_E ?_;first|refine E_seq ?_|refine E_region ?_)))
  refine EL_alloc Z Z Z (fun b5 w5 x5 hb5 r50=>?_)
  refine EL_storeP (cs:=tierC t) r50 x5 (by omega) Z Z Z Z Z Z Z Z (Nat.le_refl _) (fun w6 r5' x6 k6=>?_)
  have r5:Row w6 b5 88 (tierC t):=r5'
  clear r5'
  (repeat' ((fail_if_success (refine E_seq (x:=(Code.seq (Code.region 4 _ _) _)) ?_));first|refine eV Z Z (val_load Z Z Z (r5.cellAt rfl)) ?_|(refine EL_call Z Z (entersF Z Z en147) (rname_some _ _ hnl) (fun vC wC hC=>?_);obtain⟨⟨bb,rfl⟩,xC⟩:=hC;cases bb)|(refine at_EL ?_;first|refine eN ?_|refine eV Z Z (zB Z Z) ?_|refine eV Z Z (zE Z Z) ?_|refine eV Z Z (zH Z Z) ?_)|(refine at_K ?_;first|refine K_then ?_|refine K_then_ret ?_)|(refine at_E ?_;first|refine E_seq ?_|refine E_region ?_|refine E_cond_t Z ?_|refine E_cond_f Z ?_|refine E_skip ?_|refine E_ret ?_)))
  · exact ret_1 Z Z ⟨⟨_,rfl,fun h=>by omega⟩,x6.trans xC⟩
  have hx0:=x6.trans xC
  have r50:=r5.ext xC
  clear r5 k6
  refine E_mid (ι:=Unit) (fun _=>[(0,.slice (some ⟨b,off,none⟩) ts.length cap),(1,int i),(5,.pointer (some ⟨b5,0,none⟩))]) (fun _ wr=>Ext wC wr) ?_ ?_
  · (repeat' (first|(refine at_EL ?_;first|refine eN ?_|refine eV Z Z (zB Z Z) ?_)|(refine at_K ?_;first|refine K_then ?_)|(refine at_E ?_;first|refine E_seq ?_|refine E_region ?_|refine E_block ?_)))
    refine E_loop (ι:=Nat) (fun k=>[(0,.slice (some ⟨b,off,none⟩) ts.length cap),(1,int i),(5,.pointer (some ⟨b5,0,none⟩)),(6,int k)]) (fun k wr=>k≤i∧Ext wC wr) (fun k=>i-k) 0
      ⟨rfl,rfl,rfl,rfl,trivial⟩ ⟨Nat.zero_le _,Ext.refl _⟩ ?_
    rintro k wr ⟨hk,hx⟩
    by_cases hlt:k<i
    · obtain⟨p,hpk⟩:∃ p,ts[k]?=some p:=⟨_,List.getElem?_eq_getElem (by omega)⟩
      have hatk:=tier_elem (hv0.ext (hx0.trans hx)) hpk
      have r5r:=r50.ext hx
      (repeat' (first|refine yV Z Z (fun _ _ _=>val_indexAddr (m:=k) Z Z Z Z (by omega)) ?_|refine yV Z Z (fun wq _ xq=>val_load Z Z Z ((hatk.ext xq).cellAt (j:=0) Z)) ?_|refine yV Z Z (fun wq _ xq=>val_load Z Z Z ((r5r.ext xq).cellAt (j:=0) Z)) ?_|(refine at_EL ?_;first|refine eN ?_|refine eV Z Z (zA Z Z) ?_|refine eV Z Z (zB Z Z) ?_|(refine at_bin ?_;first|refine eD Z Z (zL Z Z Z) (fun hh=>?_) (fun hh=>?_)|refine eV Z Z (zU Z Z Z (by omega) (by omega)) ?_))|(refine at_K ?_;first|refine K_then ?_|refine K_in ?_|refine K_then_ret ?_|refine K_then_exit ?_|refine K_in_ret ?_|refine K_in_exit ?_)|(refine at_E ?_;first|refine E_seq ?_|refine E_region ?_|refine E_cond_t Z ?_|refine E_cond_f Z ?_|refine E_block ?_|refine E_skip ?_|refine E_ret ?_|refine E_exit ?_|refine E_dq mixedOk (by kernel_rfl) Z ?_)|(refine at_RQ ?_;first|refine yN Z (fun wq xq=>?_)|refine yV Z Z (fun _ _ _=>zA Z Z) ?_|(refine at_binR ?_;first|refine yD Z Z (fun _ _ _=>zR Z Z Z) (fun hh=>?_) (fun hh=>?_))|refine yV Z Z (fun _ _ _=>zH Z Z) ?_)))
      all_goals (first|(exfalso;omega)|skip)
      · exact ret_1 Z Z ⟨⟨_,rfl,fun h=>by omega⟩,(hx0.trans hx).trans xq⟩
      · exact K_rnd (k+1) ⟨rfl,rfl,rfl,rfl,trivial⟩ ⟨by omega,hx.trans xq⟩ (by omega)
    · (repeat' (first|(refine at_EL ?_;first|refine eN ?_|refine eV Z Z (zA Z Z) ?_|(refine at_bin ?_;first|refine eD Z Z (zL Z Z Z) (fun hh=>?_) (fun hh=>?_)))|(refine at_K ?_;first|refine K_then ?_|refine K_then_exit ?_|refine K_in_exit ?_)|(refine at_E ?_;first|refine E_seq ?_|refine E_region ?_|refine E_cond_t Z ?_|refine E_cond_f Z ?_|refine E_block ?_|refine E_skip ?_|refine E_exit ?_)))
      all_goals (first|(exfalso;omega)|skip)
      exact K_mid () ⟨rfl,rfl,rfl,trivial⟩ hx
  rintro⟨⟩ wr hx
  have hx1:=hx0.trans hx
  have r51:=r50.ext hx
  clear hx0 r50
  (repeat' ((fail_if_success (refine E_seq (x:=(Code.seq (Code.region 13 _ _) _)) ?_));first|refine eV Z Z (val_load Z Z Z (r51.cellAt rfl)) ?_|(refine at_EL ?_;first|refine eN ?_|refine eO Z Z ?_|refine eV Z Z (zA Z Z) ?_|refine eV Z Z (zB Z Z) ?_|(refine at_bin ?_;first|refine eD Z Z (zL Z Z Z) (fun hh=>?_) (fun hh=>?_)|refine eD Z Z (zO Z Z Z) (fun hh=>?_) (fun hh=>?_))|refine eV Z Z (zC Z Z Z) ?_|refine eV Z Z (zD Z Z Z) ?_|refine eV Z Z (zH Z Z) ?_)|(refine at_K ?_;first|refine K_then ?_|refine K_then_ret ?_)|(refine at_E ?_;first|refine E_seq ?_|refine E_region ?_|refine E_cond_t Z ?_|refine E_cond_f Z ?_|refine E_skip ?_|refine E_ret ?_)))
  all_goals (first|exact ret_1 Z Z ⟨⟨_,rfl,fun h=>by omega⟩,hx1⟩|skip)
  refine E_mid (ι:=Unit) (fun _=>[(0,.slice (some ⟨b,off,none⟩) ts.length cap),(1,int i),(5,.pointer (some ⟨b5,0,none⟩))]) (fun _ w2=>Ext wr w2∧(t.role≠0→∀ k p,k<i→ts[k]?=some p→p.role≠t.role)) ?_ ?_
  · (repeat' (first|(refine at_EL ?_;first|refine eN ?_|refine eV Z Z (zB Z Z) ?_)|(refine at_K ?_;first|refine K_then ?_)|(refine at_E ?_;first|refine E_seq ?_|refine E_region ?_|refine E_block ?_)))
    refine E_loop (ι:=Nat) (fun k=>[(0,.slice (some ⟨b,off,none⟩) ts.length cap),(1,int i),(5,.pointer (some ⟨b5,0,none⟩)),(7,int k)]) (fun k w2=>k≤i∧Ext wr w2∧(t.role≠0→∀ j,j<k→∀ p,ts[j]?=some p→p.role≠t.role)) (fun k=>i-k) 0
      ⟨rfl,rfl,rfl,rfl,trivial⟩ ⟨Nat.zero_le _,Ext.refl _,fun _ j hj=>by omega⟩ ?_
    rintro k w2 ⟨hk,hx2,hall⟩
    by_cases hlt:k<i
    · obtain⟨p,hpk⟩:∃ p,ts[k]?=some p:=⟨_,List.getElem?_eq_getElem (by omega)⟩
      have hatk:=tier_elem (hv0.ext (hx1.trans hx2)) hpk
      have r5r:=r51.ext hx2
      (repeat' (first|refine yV Z Z (fun _ _ _=>val_indexAddr (m:=k) Z Z Z Z (by omega)) ?_|refine yV Z Z (fun wq _ xq=>val_load Z Z Z ((hatk.ext xq).cellAt (j:=2) Z)) ?_|refine yV Z Z (fun wq _ xq=>val_load Z Z Z ((r5r.ext xq).cellAt (j:=2) Z)) ?_|(refine at_EL ?_;first|refine eN ?_|refine eV Z Z (zA Z Z) ?_|refine eV Z Z (zB Z Z) ?_|(refine at_bin ?_;first|refine eD Z Z (zL Z Z Z) (fun hh=>?_) (fun hh=>?_)|refine eV Z Z (zU Z Z Z (by omega) (by omega)) ?_))|(refine at_K ?_;first|refine K_then ?_|refine K_in ?_|refine K_then_ret ?_|refine K_then_exit ?_|refine K_in_ret ?_|refine K_in_exit ?_)|(refine at_E ?_;first|refine E_seq ?_|refine E_region ?_|refine E_cond_t Z ?_|refine E_cond_f Z ?_|refine E_block ?_|refine E_skip ?_|refine E_ret ?_|refine E_exit ?_|refine E_dq mixedOk (by kernel_rfl) Z ?_)|(refine at_RQ ?_;first|refine yN Z (fun wq xq=>?_)|refine yO Z Z ?_|refine yV Z Z (fun _ _ _=>zA Z Z) ?_|(refine at_binR ?_;first|refine yD Z Z (fun _ _ _=>zM Z Z Z) (fun hh=>?_) (fun hh=>?_)|refine yD Z Z (fun _ _ _=>zQ Z Z Z) (fun hh=>?_) (fun hh=>?_))|refine yV Z Z (fun _ _ _=>zC Z Z Z) ?_|refine yV Z Z (fun _ _ _=>zD Z Z Z) ?_|refine yV Z Z (fun _ _ _=>zH Z Z) ?_)))
      all_goals (first|(exfalso;omega)|skip)
      all_goals first
        | exact ret_1 Z Z ⟨⟨_,rfl,fun h=>by omega⟩,(hx1.trans hx2).trans xq⟩
        | exact K_rnd (k+1) ⟨rfl,rfl,rfl,rfl,trivial⟩ ⟨by omega,hx2.trans xq,fun h0=>loop_nx2 hpk (hall h0) (by assumption)⟩ (by omega)
        | exact K_rnd (k+1) ⟨rfl,rfl,rfl,rfl,trivial⟩ ⟨by omega,hx2.trans xq,fun h0=>absurd h0 ‹_›⟩ (by omega)
    · (repeat' (first|(refine at_EL ?_;first|refine eN ?_|refine eV Z Z (zA Z Z) ?_|(refine at_bin ?_;first|refine eD Z Z (zL Z Z Z) (fun hh=>?_) (fun hh=>?_)))|(refine at_K ?_;first|refine K_then ?_|refine K_then_exit ?_|refine K_in_exit ?_)|(refine at_E ?_;first|refine E_seq ?_|refine E_region ?_|refine E_cond_t Z ?_|refine E_cond_f Z ?_|refine E_block ?_|refine E_skip ?_|refine E_exit ?_)))
      all_goals (first|(exfalso;omega)|skip)
      exact K_mid () ⟨rfl,rfl,rfl,trivial⟩ ⟨hx2,fun h0 k2 p hk2 hp2=>hall h0 k2 (by omega) p hp2⟩
  rintro⟨⟩ w2 ⟨hx2,huniq⟩
  have hx3:=hx1.trans hx2
  have r52:=r51.ext hx2
  clear hx1 r51
  by_cases hroot:t.kind=0
  · (repeat' (first|refine eV Z Z (val_load Z Z Z (r52.cellAt rfl)) ?_|(refine yN Z (fun wq xq=>?_);replace hx3:=hx3.trans xq;replace r52:=r52.ext xq)|refine yV Z Z (fun wq _ xq=>val_load Z Z Z ((r52.ext xq).cellAt rfl)) ?_|refine RQ_call Z Z (fun _ _ _=>entersF Z Z en202) (fun wq _=>kind_any _ wq) ?_|refine RQ_call Z Z (fun _ _ _=>entersF Z Z en203) (fun wq _=>over_any _ wq) ?_|(refine at_EL ?_;first|refine eN ?_|refine eO Z Z ?_|refine eV Z Z (zA Z Z) ?_|refine eV Z Z (zB Z Z) ?_|(refine at_bin ?_;first|refine eD Z Z (zL Z Z Z) (fun hh=>?_) (fun hh=>?_)|refine eD Z Z (zM Z Z Z) (fun hh=>?_) (fun hh=>?_)|refine eD Z Z (zP Z Z Z) (fun hh=>?_) (fun hh=>?_)|refine eD Z Z (zQ Z Z Z) (fun hh=>?_) (fun hh=>?_))|refine eV Z Z (zC Z Z Z) ?_|refine eV Z Z (zD Z Z Z) ?_|refine eV Z Z (zE Z Z) ?_|refine eV Z Z (zH Z Z) ?_)|(refine at_K ?_;first|refine K_then ?_|refine K_then_ret ?_)|(refine at_E ?_;first|refine E_seq ?_|refine E_region ?_|refine E_cond_t Z ?_|refine E_cond_f Z ?_|refine E_skip ?_|refine E_ret ?_|refine E_dq mixedOk (by kernel_rfl) Z ?_)|(refine at_RQ ?_;first|refine yO Z Z ?_|refine yV Z Z (fun _ _ _=>zA Z Z) ?_|(refine at_binR ?_;first|refine yD Z Z (fun _ _ _=>zP Z Z Z) (fun hh=>?_) (fun hh=>?_)|refine yD Z Z (fun _ _ _=>zQ Z Z Z) (fun hh=>?_) (fun hh=>?_))|refine yV Z Z (fun _ _ _=>zC Z Z Z) ?_|refine yV Z Z (fun _ _ _=>zD Z Z Z) ?_|refine yV Z Z (fun _ _ _=>zH Z Z) ?_)))
    all_goals (first|(exfalso;omega)|skip)
    all_goals (first|exact ret_1 Z Z ⟨⟨_,rfl,fun h=>by omega⟩,hx3⟩|skip)
    all_goals
      refine ret_1 Z Z ⟨⟨_,rfl,fun _=>?_⟩,hx3⟩
      have hk:¬ (0≤kindF t.role∧t.kind≠kindF t.role):=by rintro⟨h1,h2⟩;first|exact absurd h1 ‹_› | exact absurd h2 ‹_›
      have ho:¬ 0≤overF t.role:=‹_›
      clear hh
      unfold kindF at hk
      unfold overF at ho
      exact⟨by omega,by omega,huniq,fun _=>by omega,fun h=>absurd hroot h,fun h=>by omega,by split at hk <;>(try split at hk) <;>(try split at hk) <;> omega,by split at ho <;>(try split at ho) <;>(try split at ho) <;> omega⟩
  · by_cases hpar:0≤t.parent∧t.parent<i
    · obtain⟨m,hmm⟩:∃ m:Nat,t.parent=(m:Int):=⟨t.parent.toNat,by omega⟩
      have hmi:m<i:=by omega
      obtain⟨p,hpm⟩:∃ p,ts[m]?=some p:=⟨_,List.getElem?_eq_getElem (by omega)⟩
      have hatp:=tier_elem (hv0.ext hx3) hpm
      have hpm2:ts[t.parent.toNat]?=some p:=by rw [hmm,Int.toNat_natCast,hpm]
      obtain⟨bt,hbt⟩:∃ bt,bt=timedB t.kind:=⟨_,rfl⟩
      obtain⟨bp,hbp⟩:∃ bp,bp=timedB p.kind:=⟨_,rfl⟩
      have ct:=timed_any t.kind
      have cp:=timed_any p.kind
      rw [← hbt] at ct
      rw [← hbp] at cp
      have hbb2:bp=true→timedB p.kind=true:=fun h=>by rw [← hbp];exact h
      have hbt2:t.kind=1∨t.kind=2→bt=true:=fun h=>by rw [hbt];exact timed_iff.2 (by omega)
      have r52':Row w2 b5 88 [str t.name,int t.kind,int t.role,int m]:=by rw [← hmm];exact r52
      clear r52
      clear hbt hbp
      (repeat' ((fail_if_success (refine E_seq (x:=(Code.seq (Code.region 21 _ _) _)) ?_));first|refine eV Z Z (val_load Z Z Z (r52'.cellAt rfl)) ?_|(refine at_EL ?_;first|refine eN ?_|refine eO Z Z ?_|refine eV Z Z (zA Z Z) ?_|refine eV Z Z (zB Z Z) ?_|(refine at_bin ?_;first|refine eD Z Z (zL Z Z Z) (fun hh=>?_) (fun hh=>?_)|refine eD Z Z (zM Z Z Z) (fun hh=>?_) (fun hh=>?_)|refine eD Z Z (zP Z Z Z) (fun hh=>?_) (fun hh=>?_)|refine eD Z Z (zQ Z Z Z) (fun hh=>?_) (fun hh=>?_))|refine eV Z Z (zC Z Z Z) ?_|refine eV Z Z (zD Z Z Z) ?_|refine eV Z Z (zE Z Z) ?_|refine eV Z Z (zH Z Z) ?_)|(refine at_K ?_;first|refine K_then ?_|refine K_then_ret ?_)|(refine at_E ?_;first|refine E_seq ?_|refine E_region ?_|refine E_cond_t Z ?_|refine E_cond_f Z ?_|refine E_skip ?_|refine E_ret ?_)))
      all_goals (first|(exfalso;omega)|skip)
      refine E_mid (ι:=Unit) (fun _=>[(0,.slice (some ⟨b,off,none⟩) ts.length cap),(1,int i),(5,.pointer (some ⟨b5,0,none⟩)),(8,.bool false)]) (fun _ w3=>Ext w2 w3∧(bt=true→bp=true)) ?_ ?_
      · cases bt <;> cases bp
        all_goals
          (repeat' (first|refine eV Z Z (val_load Z Z Z (r52'.cellAt rfl)) ?_|refine eV Z Z (val_indexAddr (m:=m) Z Z Z Z (by omega)) ?_|refine eV Z Z (val_load Z Z Z (hatp.cellAt (j:=1) Z)) ?_|(refine EL_call Z Z (entersF Z Z en142) (ct _) (fun vC wC hC=>?_);obtain⟨rfl,xC⟩:=hC;replace hatp:=hatp.ext xC;replace r52':=r52'.ext xC)|(refine EL_call Z Z (entersF Z Z en142) (cp _) (fun vD wD hD=>?_);obtain⟨rfl,xD⟩:=hD;replace xC:=xC.trans xD)|(refine at_EL ?_;first|refine eN ?_|refine eO Z Z ?_|refine eV Z Z (zA Z Z) ?_|refine eV Z Z (zB Z Z) ?_|refine eV Z Z (zC Z Z Z) ?_|refine eV Z Z (zD Z Z Z) ?_|refine eV Z Z (zE Z Z) ?_|refine eV Z Z (zH Z Z) ?_)|(refine at_K ?_;first|refine K_then ?_|refine K_then_ret ?_)|(refine at_E ?_;first|refine E_seq ?_|refine E_region ?_|refine E_cond_t Z ?_|refine E_cond_f Z ?_|refine E_skip ?_|refine E_ret ?_)))
        all_goals (first|exact ret_1 Z Z ⟨⟨_,rfl,fun h=>by omega⟩,hx3.trans xC⟩|exact K_mid () ⟨rfl,rfl,rfl,rfl,trivial⟩ ⟨xC,by simp⟩)
      rintro⟨⟩ w3 ⟨xm,hbb⟩
      replace hx3:=hx3.trans xm
      replace r52':=r52'.ext xm
      replace hatp:=hatp.ext xm
      clear ct cp
      refine E_mid (ι:=Unit) (fun _=>[(0,.slice (some ⟨b,off,none⟩) ts.length cap),(1,int i),(5,.pointer (some ⟨b5,0,none⟩)),(8,.bool false)]) (fun _ w4=>Ext w3 w4∧¬ (0≤kindF t.role∧t.kind≠kindF t.role)) ?_ ?_
      · (repeat' (first|refine yV Z Z (fun wq _ xq=>val_load Z Z Z ((r52'.ext xq).cellAt rfl)) ?_|refine RQ_call Z Z (fun _ _ _=>entersF Z Z en202) (fun wq _=>kind_any _ wq) ?_|(refine at_EL ?_;first|refine eN ?_|refine eV Z Z (zB Z Z) ?_)|(refine at_K ?_;first|refine K_then ?_|refine K_then_ret ?_)|(refine at_E ?_;first|refine E_seq ?_|refine E_region ?_|refine E_cond_t Z ?_|refine E_cond_f Z ?_|refine E_skip ?_|refine E_ret ?_|refine E_dq mixedOk (by kernel_rfl) Z ?_)|(refine at_RQ ?_;first|refine yN Z (fun wq xq=>?_)|refine yO Z Z ?_|refine yV Z Z (fun _ _ _=>zA Z Z) ?_|(refine at_binR ?_;first|refine yD Z Z (fun _ _ _=>zP Z Z Z) (fun hh=>?_) (fun hh=>?_)|refine yD Z Z (fun _ _ _=>zQ Z Z Z) (fun hh=>?_) (fun hh=>?_))|refine yV Z Z (fun _ _ _=>zC Z Z Z) ?_|refine yV Z Z (fun _ _ _=>zD Z Z Z) ?_|refine yV Z Z (fun _ _ _=>zH Z Z) ?_)))
        all_goals (first|exact ret_1 Z Z ⟨⟨_,rfl,fun h=>by omega⟩,hx3.trans xq⟩|exact K_mid () ⟨rfl,rfl,rfl,rfl,trivial⟩ ⟨xq,by rintro⟨h1,h2⟩;first|exact absurd h1 ‹_› | exact absurd h2 ‹_›⟩)
      rintro⟨⟩ w4 ⟨xn,hk⟩
      replace hx3:=hx3.trans xn
      replace r52':=r52'.ext xn
      replace hatp:=hatp.ext xn
      (repeat' (first|refine yV Z Z (fun wq _ xq=>val_load Z Z Z ((r52'.ext xq).cellAt rfl)) ?_|refine yV Z Z (fun _ _ _=>val_indexAddr (m:=m) Z Z Z Z (by omega)) ?_|refine yV Z Z (fun wq _ xq=>val_load Z Z Z ((hatp.ext xq).cellAt (j:=2) Z)) ?_|refine RQ_call Z Z (fun _ _ _=>entersF Z Z en203) (fun wq _=>over_any _ wq) ?_|(refine at_EL ?_;first|refine eN ?_|refine eV Z Z (zB Z Z) ?_)|(refine at_K ?_;first|refine K_then ?_|refine K_then_ret ?_)|(refine at_E ?_;first|refine E_seq ?_|refine E_region ?_|refine E_cond_t Z ?_|refine E_cond_f Z ?_|refine E_skip ?_|refine E_ret ?_|refine E_dq mixedOk (by kernel_rfl) Z ?_)|(refine at_RQ ?_;first|refine yN Z (fun wq xq=>?_)|refine yO Z Z ?_|refine yV Z Z (fun _ _ _=>zA Z Z) ?_|(refine at_binR ?_;first|refine yD Z Z (fun _ _ _=>zP Z Z Z) (fun hh=>?_) (fun hh=>?_)|refine yD Z Z (fun _ _ _=>zQ Z Z Z) (fun hh=>?_) (fun hh=>?_))|refine yV Z Z (fun _ _ _=>zC Z Z Z) ?_|refine yV Z Z (fun _ _ _=>zD Z Z Z) ?_|refine yV Z Z (fun _ _ _=>zH Z Z) ?_)))
      all_goals (first|(exfalso;omega)|skip)
      all_goals (first|exact ret_1 Z Z ⟨⟨_,rfl,fun h=>by omega⟩,hx3.trans xq⟩|skip)
      all_goals
        refine ret_1 Z Z ⟨⟨_,rfl,fun _=>?_⟩,hx3.trans xq⟩
        have ho:¬ (0≤overF t.role∧p.role≠overF t.role):=by rintro⟨h1,h2⟩;first|exact absurd h1 ‹_› | exact absurd h2 ‹_›
        clear hh
        unfold kindF at hk
        unfold overF at ho
        refine⟨by omega,by omega,huniq,fun h=>absurd h hroot,fun _=>by omega,fun h=>⟨p,hpm2,hbb2 (hbb (hbt2 h))⟩,?_,?_⟩
        · split at hk <;>(try split at hk) <;>(try split at hk) <;> omega
        · refine⟨fun h=>⟨hroot,p,hpm2,?_⟩,fun h=>⟨p,hpm2,?_⟩,fun h=>⟨p,hpm2,?_⟩⟩
          all_goals (split at ho <;>(try split at ho) <;>(try split at ho) <;> omega)
    · (repeat' (first|refine eV Z Z (val_load Z Z Z (r52.cellAt rfl)) ?_|(refine at_EL ?_;first|refine eN ?_|refine eO Z Z ?_|refine eV Z Z (zA Z Z) ?_|refine eV Z Z (zB Z Z) ?_|(refine at_bin ?_;first|refine eD Z Z (zL Z Z Z) (fun hh=>?_) (fun hh=>?_)|refine eD Z Z (zM Z Z Z) (fun hh=>?_) (fun hh=>?_)|refine eD Z Z (zP Z Z Z) (fun hh=>?_) (fun hh=>?_)|refine eD Z Z (zQ Z Z Z) (fun hh=>?_) (fun hh=>?_))|refine eV Z Z (zC Z Z Z) ?_|refine eV Z Z (zD Z Z Z) ?_|refine eV Z Z (zE Z Z) ?_|refine eV Z Z (zH Z Z) ?_)|(refine at_K ?_;first|refine K_then ?_|refine K_then_ret ?_)|(refine at_E ?_;first|refine E_seq ?_|refine E_region ?_|refine E_cond_t Z ?_|refine E_cond_f Z ?_|refine E_skip ?_|refine E_ret ?_)))
      all_goals (first|(exfalso;omega)|skip)
      all_goals exact ret_1 Z Z ⟨⟨_,rfl,fun h=>by omega⟩,hx3⟩
end Go.Proofs.YtjicdgejhkgpgaaGreatDoor
namespace Go.Proofs.YtjicdgejhkgpgaaGreatDoor
open Go.RowKit Go.En
def Names (d:Dc):Prop:=∀ t∈d.tiers,t.name.length≤9223372036854775807
attribute [local irreducible] E EL K Val Enters Rt Calls bodyPost Code.wp RQ
set_option maxRecDepth 8000 in
theorem tcheck_any (ts:List Tier) (v:Value) (w:World) (hv:Sl w v ts) (hn:∀ t∈ts,t.name.length≤9223372036854775807) :
    Calls Tryz.prog 132 #[v] w (Rt fun u w'=>(∃ e:Int,u=int e∧(e=0→∀ i t,ts[i]?=some t→TierOK ts i t))∧Ext w w'):=by
  refine calls_E (n:=20) (args:=[v]) Tryz.func132 rfl Tryz.ntmps132 (by simp) ?_
  have hv0:=hv
  obtain⟨a,cap,rfl,hc,hm,hp⟩:=hv.sl
  by_cases h12:ts.length≤12
  · (repeat' (first|(refine at_EL ?_;first|refine eN ?_|refine eV Z Z (zA Z Z) ?_|refine eV Z Z (zB Z Z) ?_|(refine at_bin ?_;first|refine eD Z Z (zO Z Z Z) (fun hh=>?_) (fun hh=>?_))|(refine at_call ?_;first|refine eV Z Z (zK Z Z) ?_))|(refine at_K ?_;first|refine K_then ?_|refine K_then_ret ?_)|(refine at_E ?_;first|refine E_seq ?_|refine E_region ?_|refine E_cond_t Z ?_|refine E_cond_f Z ?_|refine E_block ?_|refine E_skip ?_|refine E_ret ?_)))
    all_goals (first|(exfalso;omega)|skip)
    refine E_loop (ι:=Nat) (fun i=>[(0,.slice a ts.length cap),(3,int i)]) (fun i wr=>i≤ts.length∧Ext w wr∧∀ j,j<i→∀ t,ts[j]?=some t→TierOK ts j t) (fun i=>ts.length-i) 0
      ⟨rfl,rfl,trivial⟩ ⟨Nat.zero_le _,Ext.refl _,fun j hj=>by omega⟩ ?_
    rintro i wr ⟨hi,hx,hall⟩
    by_cases hlt:i<ts.length
    · obtain⟨t,ht⟩:∃ t,ts[i]?=some t:=⟨_,List.getElem?_eq_getElem hlt⟩
      (repeat' (first|(refine EL_call Z Z (entersF Z Z en171) (tier_any ts i t _ _ (hv0.ext hx) ht hn) (fun vC wC hC=>?_);obtain⟨⟨e,rfl,he⟩,xC⟩:=hC)|(refine at_EL ?_;first|refine eN ?_|refine eV Z Z (zA Z Z) ?_|refine eV Z Z (zB Z Z) ?_|(refine at_bin ?_;first|refine eD Z Z (zL Z Z Z) (fun hh=>?_) (fun hh=>?_)|refine eD Z Z (zQ Z Z Z) (fun hh=>?_) (fun hh=>?_)|refine eV Z Z (zU Z Z Z (by omega) (by omega)) ?_)|(refine at_call ?_;first|refine eV Z Z (zK Z Z) ?_))|(refine at_K ?_;first|refine K_then ?_|refine K_in ?_|refine K_then_ret ?_|refine K_then_exit ?_|refine K_in_ret ?_|refine K_in_exit ?_)|(refine at_E ?_;first|refine E_seq ?_|refine E_region ?_|refine E_cond_t Z ?_|refine E_cond_f Z ?_|refine E_block ?_|refine E_skip ?_|refine E_ret ?_|refine E_exit ?_)))
      all_goals (first|(exfalso;omega)|skip)
      · exact ret_1 Z Z ⟨⟨_,rfl,fun h=>absurd h ‹_›⟩,hx.trans xC⟩
      · exact K_rnd (i+1) ⟨rfl,rfl,trivial⟩ ⟨by omega,hx.trans xC,loop_nx (f:=fun j t=>TierOK ts j t) ht hall (he (Classical.not_not.1 ‹_›))⟩ (by omega)
    · (repeat' (first|(refine at_EL ?_;first|refine eN ?_|refine eV Z Z (zA Z Z) ?_|refine eV Z Z (zB Z Z) ?_|(refine at_bin ?_;first|refine eD Z Z (zL Z Z Z) (fun hh=>?_) (fun hh=>?_))|(refine at_call ?_;first|refine eV Z Z (zK Z Z) ?_))|(refine at_K ?_;first|refine K_then ?_|refine K_then_exit ?_|refine K_in_exit ?_)|(refine at_E ?_;first|refine E_seq ?_|refine E_region ?_|refine E_cond_t Z ?_|refine E_cond_f Z ?_|refine E_block ?_|refine E_skip ?_|refine E_ret ?_|refine E_exit ?_)))
      all_goals (first|(exfalso;omega)|skip)
      exact ret_1 Z Z ⟨⟨_,rfl,fun _ i t ht=>hall i (by have:=(List.getElem?_eq_some_iff.1 ht).1;omega) t ht⟩,hx⟩
  · (repeat' (first|(refine at_EL ?_;first|refine eN ?_|refine eV Z Z (zA Z Z) ?_|refine eV Z Z (zB Z Z) ?_|(refine at_bin ?_;first|refine eD Z Z (zO Z Z Z) (fun hh=>?_) (fun hh=>?_))|(refine at_call ?_;first|refine eV Z Z (zK Z Z) ?_))|(refine at_K ?_;first|refine K_then ?_|refine K_then_ret ?_)|(refine at_E ?_;first|refine E_seq ?_|refine E_region ?_|refine E_cond_t Z ?_|refine E_cond_f Z ?_|refine E_block ?_|refine E_skip ?_|refine E_ret ?_)))
    all_goals (first|(exfalso;omega)|skip)
    exact ret_1 Z Z ⟨⟨_,rfl,fun h=>by omega⟩,Ext.refl _⟩
set_option maxRecDepth 8000 in
set_option maxHeartbeats 2000000 in
theorem dcheck_any (d:Dc) (v:Value) (w:World) (hv:DcAt w v d) (hn:Names d) (h20:d.notes.length≤20) :
    Calls Tryz.prog 100 #[v] w (Rt fun u w'=>(∃ e:Int,u=int e∧(e=0→(∀ i t,d.tiers[i]?=some t→TierOK d.tiers i t)∧(0≤d.len∧d.len≤86400000)∧(∀ i n,d.notes[i]?=some n→NoteOK d i n)∧∀ k t,d.tiers[k]?=some t→TierNotes d k t))∧Ext w w'):=by
  have hd0:=hv
  obtain⟨sv,tv,nv,rfl,hs,htv,hnv⟩:=hv
  refine calls_E (n:=54) (args:=[.agg #[int d.rid,str d.rname,int d.len,int d.day,sv,tv,nv]]) Tryz.func100 rfl Tryz.ntmps100 (by simp) ?_
  have htv0:=htv
  obtain⟨at_,capt,rfl,hct,hmt,hpt⟩:=htv.sl
  obtain⟨a,cap,rfl,hc,hm,hp⟩:=hnv.sl
  refine E_seq ?_
  refine E_region ?_
  refine EL_box Z Z Z Z (fun bD wD xD hbD rD0=>?_)
  have rD:Row wD bD 72 [int d.rid,str d.rname,int d.len,int d.day,sv,.slice at_ d.tiers.length capt,.slice a d.notes.length cap]:=rD0
  clear rD0
  have hx:=xD
  (repeat' ((fail_if_success (refine E_seq (x:=(Code.seq (Code.region 8 _ _) _)) ?_));first|refine eV Z Z (val_load Z Z Z (rD.cellAt rfl)) ?_|(refine EL_call Z Z (entersF Z Z en132) (tcheck_any d.tiers _ _ (htv0.ext hx) hn) (fun vC wC hC=>?_);obtain⟨⟨e,rfl,he⟩,xC⟩:=hC;replace rD:=rD.ext xC;replace hx:=hx.trans xC)|(refine at_EL ?_;first|refine eN ?_|refine eO Z Z ?_|refine eV Z Z (zA Z Z) ?_|refine eV Z Z (zB Z Z) ?_|(refine at_bin ?_;first|refine eD Z Z (zL Z Z Z) (fun hh=>?_) (fun hh=>?_)|refine eD Z Z (zO Z Z Z) (fun hh=>?_) (fun hh=>?_)|refine eD Z Z (zQ Z Z Z) (fun hh=>?_) (fun hh=>?_))|(refine at_call ?_;first|refine eV Z Z (zK Z Z) ?_)|refine eV Z Z (zC Z Z Z) ?_|refine eV Z Z (zD Z Z Z) ?_|refine eV Z Z (zH Z Z) ?_)|(refine at_K ?_;first|refine K_then ?_|refine K_then_ret ?_)|(refine at_E ?_;first|refine E_seq ?_|refine E_region ?_|refine E_cond_t Z ?_|refine E_cond_f Z ?_|refine E_skip ?_|refine E_ret ?_)))
  all_goals (first|(exfalso;omega)|exact ret_1 Z Z ⟨⟨_,rfl,fun h=>by omega⟩,hx⟩|exact ret_1 Z Z ⟨⟨_,rfl,fun h=>absurd h ‹_›⟩,hx⟩|skip)
  have f1:=he (Classical.not_not.1 ‹_›)
  have f2:0≤d.len∧d.len≤86400000:=by omega
  obtain⟨w1,hw1⟩:∃ w1,w1=wC:=⟨_,rfl⟩
  refine E_mid (ι:=Unit) (fun _=>[(1,.pointer (some ⟨bD,0,none⟩))]) (fun _ wr=>Ext wC wr∧∀ j n,d.notes[j]?=some n→NoteOK d j n) ?_ ?_
  · (repeat' (first|(refine at_EL ?_;first|refine eN ?_|refine eV Z Z (zB Z Z) ?_)|(refine at_K ?_;first|refine K_then ?_)|(refine at_E ?_;first|refine E_seq ?_|refine E_region ?_|refine E_block ?_)))
    refine E_loop (ι:=Nat) (fun i=>[(1,.pointer (some ⟨bD,0,none⟩)),(4,int i)]) (fun i wr=>i≤d.notes.length∧Ext wC wr∧∀ j,j<i→∀ n,d.notes[j]?=some n→NoteOK d j n) (fun i=>d.notes.length-i) 0
      ⟨rfl,rfl,trivial⟩ ⟨Nat.zero_le _,Ext.refl _,fun j hj=>by omega⟩ ?_
    rintro i wr ⟨hi,hx2,hall⟩
    have rDr:=rD.ext hx2
    by_cases hlt:i<d.notes.length
    · obtain⟨n,hnn⟩:∃ n,d.notes[i]?=some n:=⟨_,List.getElem?_eq_getElem hlt⟩
      (repeat' (first|refine eV Z Z (val_load Z Z Z (rDr.cellAt rfl)) ?_|refine eV Z Z (val_loadA Z Z Z rDr.at rfl) ?_|(refine EL_call Z Z (entersF Z Z en133) (noteError_any d i n _ _ (hd0.ext (hx.trans hx2)) hnn) (fun vF wF hF=>?_);obtain⟨⟨e2,rfl,he2⟩,xF⟩:=hF)|(refine at_EL ?_;first|refine eN ?_|refine eV Z Z (zA Z Z) ?_|refine eV Z Z (zB Z Z) ?_|(refine at_bin ?_;first|refine eD Z Z (zL Z Z Z) (fun hh=>?_) (fun hh=>?_)|refine eD Z Z (zQ Z Z Z) (fun hh=>?_) (fun hh=>?_)|refine eV Z Z (zU Z Z Z (by omega) (by omega)) ?_)|(refine at_call ?_;first|refine eV Z Z (zK Z Z) ?_)|refine eV Z Z (zH Z Z) ?_)|(refine at_K ?_;first|refine K_then ?_|refine K_in ?_|refine K_then_ret ?_|refine K_then_exit ?_|refine K_in_ret ?_|refine K_in_exit ?_)|(refine at_E ?_;first|refine E_seq ?_|refine E_region ?_|refine E_cond_t Z ?_|refine E_cond_f Z ?_|refine E_block ?_|refine E_skip ?_|refine E_ret ?_|refine E_exit ?_)))
      all_goals (first|(exfalso;omega)|skip)
      · exact ret_1 Z Z ⟨⟨_,rfl,fun h=>absurd h ‹_›⟩,hx.trans (hx2.trans xF)⟩
      · exact K_rnd (i+1) ⟨rfl,rfl,trivial⟩ ⟨by omega,hx2.trans xF,loop_nx (f:=fun j n=>NoteOK d j n) hnn hall (he2 (Classical.not_not.1 ‹_›))⟩ (by omega)
    · (repeat' (first|refine eV Z Z (val_load Z Z Z (rDr.cellAt rfl)) ?_|(refine at_EL ?_;first|refine eN ?_|refine eV Z Z (zA Z Z) ?_|(refine at_bin ?_;first|refine eD Z Z (zL Z Z Z) (fun hh=>?_) (fun hh=>?_))|(refine at_call ?_;first|refine eV Z Z (zK Z Z) ?_)|refine eV Z Z (zH Z Z) ?_)|(refine at_K ?_;first|refine K_then ?_|refine K_then_exit ?_|refine K_in_exit ?_)|(refine at_E ?_;first|refine E_seq ?_|refine E_region ?_|refine E_cond_t Z ?_|refine E_cond_f Z ?_|refine E_block ?_|refine E_skip ?_|refine E_exit ?_)))
      all_goals (first|(exfalso;omega)|skip)
      exact K_mid () ⟨rfl,trivial⟩ ⟨hx2,fun j n hj=>hall j (by have:=(List.getElem?_eq_some_iff.1 hj).1;omega) n hj⟩
  rintro⟨⟩ w2 ⟨xm,f3⟩
  replace hx:=hx.trans xm
  replace rD:=rD.ext xm
  (repeat' (first|(refine at_EL ?_;first|refine eN ?_|refine eV Z Z (zB Z Z) ?_)|(refine at_K ?_;first|refine K_then ?_)|(refine at_E ?_;first|refine E_seq ?_|refine E_region ?_|refine E_block ?_)))
  refine E_loop (ι:=Nat) (fun i=>[(1,.pointer (some ⟨bD,0,none⟩)),(6,int i)]) (fun i wr=>i≤d.tiers.length∧Ext w2 wr∧∀ j,j<i→∀ t,d.tiers[j]?=some t→TierNotes d j t) (fun i=>d.tiers.length-i) 0
    ⟨rfl,rfl,trivial⟩ ⟨Nat.zero_le _,Ext.refl _,fun j hj=>by omega⟩ ?_
  rintro i wr ⟨hi,hx2,hall⟩
  have rDr:=rD.ext hx2
  by_cases hlt:i<d.tiers.length
  · obtain⟨t,ht⟩:∃ t,d.tiers[i]?=some t:=⟨_,List.getElem?_eq_getElem hlt⟩
    (repeat' (first|refine eV Z Z (val_load Z Z Z (rDr.cellAt rfl)) ?_|refine eV Z Z (val_loadA Z Z Z rDr.at rfl) ?_|(refine EL_call Z Z (entersF Z Z en134) (tierError_any d i t _ _ (hd0.ext (hx.trans hx2)) ht h20) (fun vF wF hF=>?_);obtain⟨⟨e2,rfl,he2⟩,xF⟩:=hF)|(refine at_EL ?_;first|refine eN ?_|refine eV Z Z (zA Z Z) ?_|refine eV Z Z (zB Z Z) ?_|(refine at_bin ?_;first|refine eD Z Z (zL Z Z Z) (fun hh=>?_) (fun hh=>?_)|refine eD Z Z (zQ Z Z Z) (fun hh=>?_) (fun hh=>?_)|refine eV Z Z (zU Z Z Z (by omega) (by omega)) ?_)|(refine at_call ?_;first|refine eV Z Z (zK Z Z) ?_)|refine eV Z Z (zH Z Z) ?_)|(refine at_K ?_;first|refine K_then ?_|refine K_in ?_|refine K_then_ret ?_|refine K_then_exit ?_|refine K_in_ret ?_|refine K_in_exit ?_)|(refine at_E ?_;first|refine E_seq ?_|refine E_region ?_|refine E_cond_t Z ?_|refine E_cond_f Z ?_|refine E_block ?_|refine E_skip ?_|refine E_ret ?_|refine E_exit ?_)))
    all_goals (first|(exfalso;omega)|skip)
    · exact ret_1 Z Z ⟨⟨_,rfl,fun h=>absurd h ‹_›⟩,hx.trans (hx2.trans xF)⟩
    · exact K_rnd (i+1) ⟨rfl,rfl,trivial⟩ ⟨by omega,hx2.trans xF,loop_nx (f:=fun j t=>TierNotes d j t) ht hall (he2 (Classical.not_not.1 ‹_›))⟩ (by omega)
  · (repeat' (first|refine eV Z Z (val_load Z Z Z (rDr.cellAt rfl)) ?_|(refine at_EL ?_;first|refine eN ?_|refine eV Z Z (zA Z Z) ?_|refine eV Z Z (zB Z Z) ?_|(refine at_bin ?_;first|refine eD Z Z (zL Z Z Z) (fun hh=>?_) (fun hh=>?_))|(refine at_call ?_;first|refine eV Z Z (zK Z Z) ?_)|refine eV Z Z (zH Z Z) ?_)|(refine at_K ?_;first|refine K_then ?_|refine K_then_exit ?_|refine K_in_exit ?_)|(refine at_E ?_;first|refine E_seq ?_|refine E_region ?_|refine E_cond_t Z ?_|refine E_cond_f Z ?_|refine E_block ?_|refine E_skip ?_|refine E_ret ?_|refine E_exit ?_)))
    all_goals (first|(exfalso;omega)|skip)
    exact ret_1 Z Z ⟨⟨_,rfl,fun _=>⟨f1,f2,f3,fun k t hk=>hall k (by have:=(List.getElem?_eq_some_iff.1 hk).1;omega) t hk⟩⟩,hx.trans hx2⟩
set_option maxRecDepth 8000 in
theorem dlight_any (d:Dc) (v:Value) (w:World) (hv:DcAt w v d) (hn:Names d):Calls Tryz.prog 63 #[v] w (Rt fun u w'=>(∃ b,u=.bool b∧(b=true→LightD d))∧Ext w w'):=by
  have hd0:=hv
  obtain⟨sv,tv,nv,rfl,hs,htv,hnv⟩:=hv
  refine calls_E (n:=25) (args:=[.agg #[int d.rid,str d.rname,int d.len,int d.day,sv,tv,nv]]) Tryz.func63 rfl Tryz.ntmps63 (by simp) ?_
  obtain⟨aS,caps,rfl,hcs,hms,hps⟩:=hs.sl
  obtain⟨at_,capt,rfl,hct,hmt,hpt⟩:=htv.sl
  obtain⟨a,cap,rfl,hc,hm,hp⟩:=hnv.sl
  refine E_seq ?_
  refine E_region ?_
  refine EL_box Z Z Z Z (fun bD wD xD hbD rD0=>?_)
  have rD:Row wD bD 72 [int d.rid,str d.rname,int d.len,int d.day,.slice aS d.sp.length caps,.slice at_ d.tiers.length capt,.slice a d.notes.length cap]:=rD0
  clear rD0
  by_cases h14:d.notes.length≤14
  · (repeat' (first|refine eV Z Z (val_load Z Z Z (rD.cellAt rfl)) ?_|refine eV Z Z (val_loadA Z Z Z rD.at rfl) ?_|(refine EL_call Z Z (entersF Z Z en100) (dcheck_any d _ _ (hd0.ext xD) hn (by omega)) (fun vC wC hC=>?_);obtain⟨⟨e,rfl,he⟩,xC⟩:=hC)|(refine at_EL ?_;first|refine eN ?_|refine eO Z Z ?_|refine eV Z Z (zA Z Z) ?_|refine eV Z Z (zB Z Z) ?_|(refine at_bin ?_;first|refine eD Z Z (zM Z Z Z) (fun hh=>?_) (fun hh=>?_)|refine eD Z Z (zN Z Z Z) (fun hh=>?_) (fun hh=>?_))|(refine at_call ?_;first|refine eV Z Z (zK Z Z) ?_)|refine eV Z Z (zC Z Z Z) ?_|refine eV Z Z (zD Z Z Z) ?_|refine eV Z Z (zH Z Z) ?_)|(refine at_K ?_;first|refine K_then ?_)|(refine at_E ?_;first|refine E_seq ?_|refine E_region ?_|refine E_ret ?_)))
    all_goals (first|(exfalso;omega)|skip)
    all_goals first
      | exact ret_1 Z Z ⟨⟨_,rfl,fun h=>Bool.noConfusion h⟩,xD⟩
      | exact ret_1 Z Z ⟨⟨_,rfl,fun h=>Bool.noConfusion h⟩,xD.trans xC⟩
      | (refine ret_1 rfl rfl ⟨⟨_, rfl, fun _ => ?_⟩, xD.trans xC⟩
         obtain⟨f1,f2,f3,f4⟩:=he (by assumption)
         exact⟨h14,by omega,by omega,f1,f2,f3,f4⟩)
  · (repeat' (first|refine eV Z Z (val_load Z Z Z (rD.cellAt rfl)) ?_|(refine at_EL ?_;first|refine eN ?_|refine eO Z Z ?_|refine eV Z Z (zA Z Z) ?_|refine eV Z Z (zB Z Z) ?_|(refine at_bin ?_;first|refine eD Z Z (zN Z Z Z) (fun hh=>?_) (fun hh=>?_))|(refine at_call ?_;first|refine eV Z Z (zK Z Z) ?_)|refine eV Z Z (zC Z Z Z) ?_|refine eV Z Z (zD Z Z Z) ?_|refine eV Z Z (zH Z Z) ?_)|(refine at_K ?_;first|refine K_then ?_)|(refine at_E ?_;first|refine E_seq ?_|refine E_region ?_|refine E_ret ?_)))
    all_goals (first|(exfalso;omega)|skip)
    exact ret_1 Z Z ⟨⟨_,rfl,fun h=>Bool.noConfusion h⟩,xD⟩
end Go.Proofs.YtjicdgejhkgpgaaGreatDoor
namespace Go.Proofs.YtjicdgejhkgpgaaGreatDoor
open Go.RowKit Go.En Go.Pv
attribute [local irreducible] E EL K Val Enters Rt Calls bodyPost Code.wp RQ
end Go.Proofs.YtjicdgejhkgpgaaGreatDoor
