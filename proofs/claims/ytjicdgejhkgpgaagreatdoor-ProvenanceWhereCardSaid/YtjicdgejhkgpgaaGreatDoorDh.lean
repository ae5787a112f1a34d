/-
  Walks: the reference's noteError, tierError.
-/
import Derived.Test.YtjicdgejhkgpgaaGreatDoorYp
import Derived.Test.YtjicdgejhkgpgaaGreatDoorDe
set_option linter.all false
namespace Go.Proofs.YtjicdgejhkgpgaaGreatDoor
open Go.RowKit Go.En
def spnOf (n:Note):Spn:=⟨n.frm,n.til⟩
set_option maxRecDepth 8000 in
theorem spansOf_any (l:List Note) (v:Value) (w:World) (hv:Sl w v l) (hlen:l.length≤1099511627776):Calls Tryz.prog 177 #[v] w (Rt fun u w'=>Ext w w'∧Sl w' u (l.map spnOf)):=spans_any l v w hv hlen
attribute [local irreducible] E EL K Val Enters Rt Calls bodyPost Code.wp RQ
set_option maxRecDepth 8000 in
set_option maxHeartbeats 2000000 in
theorem noteError_any (d:Dc) (i:Nat) (n:Note) (v:Value) (w:World) (hv:DcAt w v d) (hn:d.notes[i]?=some n) :
    Calls Tryz.prog 133 #[v,int i] w (Rt fun u w'=>(∃ e:Int,u=int e∧(e=0→NoteOK d i n))∧Ext w w'):=by
  have hd0:=hv
  obtain⟨sv,tv,nv,rfl,hs,htv,hnv⟩:=hv
  refine calls_E (n:=54) (args:=[.agg #[int d.rid,str d.rname,int d.len,int d.day,sv,tv,nv],int i]) Tryz.func133 rfl Tryz.ntmps133 (by simp) ?_
  have hnv0:=hnv
  obtain⟨at_,capt,rfl,hct,hmt,hpt⟩:=htv.sl
  obtain⟨a,cap,rfl,hc,hm,hp⟩:=hnv.sl
  have hilt:=(List.getElem?_eq_some_iff.1 hn).1
  obtain⟨b,off,rfl⟩:=hp (by omega)
  refine E_seq ?_
  refine E_region ?_
  refine EL_box Z Z Z Z (fun bD wD xD hbD rD0=>?_)
  have rD1:Row wD bD 72 [int d.rid,str d.rname,int d.len,int d.day,sv,.slice at_ d.tiers.length capt,.slice (some ⟨b,off,none⟩) d.notes.length cap]:=rD0
  have hat1:=note_elem (hnv0.ext xD) hn
  (repeat' (first|refine eV Z Z (val_load Z Z Z (rD1.cellAt rfl)) ?_|refine eV Z Z (val_indexAddr (m:=i) Z Z Z Z hilt) ?_|refine eV Z Z (val_loadA Z Z Z hat1 rfl) ?_|(refine at_EL ?_;first|refine eN ?_|refine eV Z Z (zA Z Z) ?_|refine eV Z Z (zB Z Z) ?_|refine eV Z Z (zH Z Z) ?_)|(refine at_K ?_;first|refine K_then ?_)|(refine at_E ?_;first|refine E_seq ?_|refine E_region ?_)))
  refine EL_alloc Z Z Z (fun bN wN xN hbN rN0=>?_)
  refine EL_storeP (cs:=noteC n) rN0 xN (by omega) Z Z Z Z Z Z Z Z (Nat.le_refl _) (fun w2 rN1 x2 k2=>?_)
  have rN:Row w2 bN 80 (noteC n):=rN1
  have rD:=rD1.ext x2
  have hx:=xD.trans x2
  clear rD0 rN0 rN1 rD1 k2
  (repeat' ((fail_if_success (refine E_seq (x:=(Code.seq (Code.region 4 _ _) _)) ?_));first|refine eV Z Z (val_load Z Z Z (rN.cellAt rfl)) ?_|(refine at_EL ?_;first|refine eN ?_|refine eO Z Z ?_|refine eV Z Z (zA Z Z) ?_|refine eV Z Z (zB Z Z) ?_|(refine at_bin ?_;first|refine eD Z Z (zL Z Z Z) (fun hh=>?_) (fun hh=>?_)|refine eD Z Z (zO Z Z Z) (fun hh=>?_) (fun hh=>?_))|refine eV Z Z (zC Z Z Z) ?_|refine eV Z Z (zD Z Z Z) ?_|refine eV Z Z (zH Z Z) ?_)|(refine at_K ?_;first|refine K_then ?_|refine K_then_ret ?_)|(refine at_E ?_;first|refine E_seq ?_|refine E_region ?_|refine E_cond_t Z ?_|refine E_cond_f Z ?_|refine E_skip ?_|refine E_ret ?_)))
  all_goals (first|(exfalso;omega)|exact ret_1 Z Z ⟨⟨_,rfl,fun h=>by omega⟩,hx⟩|skip)
  refine E_mid (ι:=Unit) (fun _=>[(1,int i),(2,.pointer (some ⟨bD,0,none⟩)),(5,.pointer (some ⟨bN,0,none⟩))]) (fun _ w4=>Ext w2 w4∧∀ m,0<i→d.notes[i-1]?=some m→m.id<n.id) ?_ ?_
  · by_cases h0:0<i
    · obtain⟨m,hmm⟩:∃ m,d.notes[i-1]?=some m:=⟨_,List.getElem?_eq_getElem (by omega)⟩
      have hatm:=note_elem (hnv0.ext hx) hmm
      (repeat' (first|refine yV Z Z (fun wq _ xq=>val_load Z Z Z ((rN.ext xq).cellAt rfl)) ?_|refine yV Z Z (fun wq _ xq=>val_load Z Z Z ((rD.ext xq).cellAt rfl)) ?_|refine yV Z Z (fun _ _ _=>val_indexAddr (m:=i-1) Z Z Z (by omega) (by omega)) ?_|refine yV Z Z (fun wq _ xq=>val_load Z Z Z ((hatm.ext xq).cellAt (j:=0) Z)) ?_|(refine at_EL ?_;first|refine eN ?_|refine eV Z Z (zB Z Z) ?_)|(refine at_K ?_;first|refine K_then ?_|refine K_then_ret ?_)|(refine at_E ?_;first|refine E_seq ?_|refine E_region ?_|refine E_cond_t Z ?_|refine E_cond_f Z ?_|refine E_skip ?_|refine E_ret ?_|refine E_dq mixedOk (by kernel_rfl) Z ?_)|(refine at_RQ ?_;first|refine yN Z (fun wq xq=>?_)|refine yO Z Z ?_|refine yV Z Z (fun _ _ _=>zA Z Z) ?_|(refine at_binR ?_;first|refine yD Z Z (fun _ _ _=>zN Z Z Z) (fun hh=>?_) (fun hh=>?_)|refine yD Z Z (fun _ _ _=>zO Z Z Z) (fun hh=>?_) (fun hh=>?_)|refine yV Z Z (fun _ _ _=>zV Z Z Z (by omega) (by omega)) ?_)|refine yV Z Z (fun _ _ _=>zC Z Z Z) ?_|refine yV Z Z (fun _ _ _=>zD Z Z Z) ?_|refine yV Z Z (fun _ _ _=>zH Z Z) ?_)))
      all_goals (first|(exfalso;omega)|exact ret_1 Z Z ⟨⟨_,rfl,fun h=>by omega⟩,hx.trans xq⟩|skip)
      exact K_mid () ⟨rfl,rfl,rfl,trivial⟩ ⟨xq,fun m' _ hm'=>by rw [hmm] at hm';cases hm';omega⟩
    · (repeat' (first|(refine at_EL ?_;first|refine eN ?_)|(refine at_K ?_;first|refine K_then ?_)|(refine at_E ?_;first|refine E_seq ?_|refine E_cond_f Z ?_|refine E_skip ?_|refine E_dq mixedOk (by kernel_rfl) Z ?_)|(refine at_RQ ?_;first|refine yN Z (fun wq xq=>?_)|refine yO Z Z ?_|refine yV Z Z (fun _ _ _=>zA Z Z) ?_|(refine at_binR ?_;first|refine yD Z Z (fun _ _ _=>zO Z Z Z) (fun hh=>?_) (fun hh=>?_))|refine yV Z Z (fun _ _ _=>zD Z Z Z) ?_|refine yV Z Z (fun _ _ _=>zH Z Z) ?_)))
      all_goals (first|(exfalso;omega)|skip)
      exact K_mid () ⟨rfl,rfl,rfl,trivial⟩ ⟨xq,fun m' h _=>absurd h h0⟩
  rintro⟨⟩ w4 ⟨xm,f1⟩
  replace hx:=hx.trans xm
  replace rD:=rD.ext xm
  replace rN:=rN.ext xm
  (repeat' ((fail_if_success (refine E_seq (x:=(Code.seq (Code.region 8 _ _) _)) ?_));first|refine eV Z Z (val_load Z Z Z (rN.cellAt rfl)) ?_|refine eV Z Z (val_load Z Z Z (rD.cellAt rfl)) ?_|(refine at_EL ?_;first|refine eN ?_|refine eO Z Z ?_|refine eV Z Z (zA Z Z) ?_|refine eV Z Z (zB Z Z) ?_|(refine at_bin ?_;first|refine eD Z Z (zL Z Z Z) (fun hh=>?_) (fun hh=>?_)|refine eD Z Z (zP Z Z Z) (fun hh=>?_) (fun hh=>?_))|(refine at_call ?_;first|refine eV Z Z (zK Z Z) ?_)|refine eV Z Z (zC Z Z Z) ?_|refine eV Z Z (zD Z Z Z) ?_|refine eV Z Z (zH Z Z) ?_)|(refine at_K ?_;first|refine K_then ?_|refine K_then_ret ?_)|(refine at_E ?_;first|refine E_seq ?_|refine E_region ?_|refine E_cond_t Z ?_|refine E_cond_f Z ?_|refine E_skip ?_|refine E_ret ?_)))
  all_goals (first|(exfalso;omega)|exact ret_1 Z Z ⟨⟨_,rfl,fun h=>by omega⟩,hx⟩|skip)
  obtain⟨k,hk⟩:∃ k:Nat,n.tier=(k:Int):=⟨n.tier.toNat,by omega⟩
  obtain⟨t,ht⟩:∃ t,d.tiers[k]?=some t:=⟨_,List.getElem?_eq_getElem (by omega)⟩
  (repeat' (first|refine eV Z Z (val_load Z Z Z (rN.cellAt rfl)) ?_|refine eV Z Z (val_loadA Z Z Z rN.at rfl) ?_|refine eV Z Z (val_loadA Z Z Z rD.at rfl) ?_|(refine EL_call Z Z (entersF Z Z en97) (text_any n.text _) (fun vC wC hC=>?_);obtain⟨⟨e,rfl,he⟩,xC⟩:=hC;replace rD:=rD.ext xC;replace rN:=rN.ext xC;replace hx:=hx.trans xC)|(refine EL_call Z Z (entersF Z Z en172) (placed_any d n t k _ _ (hd0.ext hx) hk ht) (fun vP wP hP=>?_);obtain⟨⟨e2,rfl,he2⟩,xP⟩:=hP)|(refine at_EL ?_;first|refine eN ?_|refine eV Z Z (zA Z Z) ?_|refine eV Z Z (zB Z Z) ?_|(refine at_bin ?_;first|refine eD Z Z (zQ Z Z Z) (fun hh=>?_) (fun hh=>?_))|refine eV Z Z (zH Z Z) ?_)|(refine at_K ?_;first|refine K_then ?_|refine K_then_ret ?_)|(refine at_E ?_;first|refine E_seq ?_|refine E_region ?_|refine E_cond_t Z ?_|refine E_cond_f Z ?_|refine E_skip ?_|refine E_ret ?_)))
  · exact ret_1 Z Z ⟨⟨_,rfl,fun h=>absurd h ‹_›⟩,hx⟩
  · exact ret_1 Z Z ⟨⟨_,rfl,fun h=>⟨by omega,fun m h0 hm=>f1 m h0 hm,he (Classical.not_not.1 ‹_›),t,k,hk,ht,he2 h⟩⟩,hx.trans xP⟩
theorem getR_note (ns:List Note) (id:Int):∃(q:Note) (ok:Bool),getR ns id=.tuple #[.agg (noteC q).toArray,.bool ok]:=by
  obtain⟨q,ok,h,_⟩:=getR_cases ns id
  exact⟨q,ok,h⟩
set_option maxRecDepth 8000 in
set_option maxHeartbeats 4000000 in
theorem tierError_any (d:Dc) (k:Nat) (t:Tier) (v:Value) (w:World) (hv:DcAt w v d) (ht:d.tiers[k]?=some t) (h20:d.notes.length≤20) :
    Calls Tryz.prog 134 #[v,int k] w (Rt fun u w'=>(∃ e:Int,u=int e∧(e=0→TierNotes d k t))∧Ext w w'):=by
  have hd0:=hv
  obtain⟨sv,tv,nv,rfl,hs,htv,hnv⟩:=hv
  refine calls_E (n:=77) (args:=[.agg #[int d.rid,str d.rname,int d.len,int d.day,sv,tv,nv],int k]) Tryz.func134 rfl Tryz.ntmps134 (by simp) ?_
  have hnv0:=hnv
  have htv0:=htv
  obtain⟨a,cap,rfl,hc,hm,hp⟩:=hnv.sl
  obtain⟨at_,capt,rfl,hct,hmt,hpt⟩:=htv.sl
  have hklt:=(List.getElem?_eq_some_iff.1 ht).1
  obtain⟨bt,offt,rfl⟩:=hpt (by omega)
  refine E_seq ?_
  refine E_region ?_
  refine EL_box Z Z Z Z (fun bD wD xD hbD rD0=>?_)
  have rD1:Row wD bD 72 [int d.rid,str d.rname,int d.len,int d.day,sv,.slice (some ⟨bt,offt,none⟩) d.tiers.length capt,.slice a d.notes.length cap]:=rD0
  clear rD0
  have hatt:=tier_elem (htv0.ext xD) ht
  (repeat' (first|refine eV Z Z (val_load Z Z Z (rD1.cellAt rfl)) ?_|refine eV Z Z (val_indexAddr (m:=k) Z Z Z Z hklt) ?_|refine eV Z Z (val_load Z Z Z (hatt.cellAt (j:=1) Z)) ?_|(refine at_EL ?_;first|refine eN ?_|refine eV Z Z (zA Z Z) ?_|refine eV Z Z (zB Z Z) ?_|refine eV Z Z (zH Z Z) ?_)|(refine at_K ?_;first|refine K_then ?_)|(refine at_E ?_;first|refine E_seq ?_|refine E_region ?_|refine E_block ?_)))
  refine E_loop (ι:=Nat × Int) (fun x=>[(1,int k),(2,.pointer (some ⟨bD,0,none⟩)),(5,int t.kind),(6,int x.2),(7,int x.1)])
    (fun x wr=>x.1≤d.notes.length∧Ext wD wr∧(x.2=0→∀ j,j<x.1→∀ n,d.notes[j]?=some n→n.tier=(k:Int)→SibsOK t.kind (sibs d.notes k n.parent))) (fun x=>d.notes.length-x.1) (0,0)
    ⟨rfl,rfl,rfl,rfl,rfl,trivial⟩ ⟨Nat.zero_le _,Ext.refl _,fun _ j hj=>by omega⟩ ?_
  rintro⟨i,out⟩ wr ⟨hi,hx,hall⟩
  dsimp only at hi hx hall ⊢
  have rD:=rD1.ext hx
  by_cases hlt:i<d.notes.length
  · obtain⟨b,off,rfl⟩:=hp (by omega)
    obtain⟨n,hn⟩:∃ n,d.notes[i]?=some n:=⟨_,List.getElem?_eq_getElem hlt⟩
    have hatn:=note_elem (hnv0.ext (xD.trans hx)) hn
    (repeat' (first|refine eV Z Z (val_load Z Z Z (rD.cellAt rfl)) ?_|refine eV Z Z (val_indexAddr (m:=i) Z Z Z Z hlt) ?_|refine eV Z Z (val_loadA Z Z Z hatn rfl) ?_|(refine at_EL ?_;first|refine eN ?_|refine eV Z Z (zA Z Z) ?_|refine eV Z Z (zB Z Z) ?_|(refine at_bin ?_;first|refine eD Z Z (zL Z Z Z) (fun hh=>?_) (fun hh=>?_))|(refine at_call ?_;first|refine eV Z Z (zK Z Z) ?_)|refine eV Z Z (zH Z Z) ?_)|(refine at_K ?_;first|refine K_then ?_|refine K_then_exit ?_|refine K_in_exit ?_)|(refine at_E ?_;first|refine E_seq ?_|refine E_region ?_|refine E_cond_t Z ?_|refine E_cond_f Z ?_|refine E_block ?_|refine E_skip ?_|refine E_ret ?_|refine E_exit ?_)))
    all_goals (first|(exfalso;omega)|skip)
    refine EL_alloc Z Z Z (fun bN wN xN hbN rN0=>?_)
    refine EL_storeP (cs:=noteC n) rN0 xN (by omega) Z Z Z Z Z Z Z Z (Nat.le_refl _) (fun w2 rN1 x2 k2=>?_)
    have rN:Row w2 bN 80 (noteC n):=rN1
    have hx2:=hx.trans x2
    replace rD:=rD.ext x2
    clear rN0 rN1 k2
    (repeat' ((fail_if_success (refine E_seq (x:=(Code.region 8 _ _)) ?_));first|refine eV Z Z (val_load Z Z Z (rN.cellAt rfl)) ?_|(refine at_EL ?_;first|refine eN ?_|refine eV Z Z (zA Z Z) ?_|refine eV Z Z (zB Z Z) ?_|(refine at_bin ?_;first|refine eD Z Z (zQ Z Z Z) (fun hh=>?_) (fun hh=>?_)|refine eV Z Z (zU Z Z Z (by omega) (by omega)) ?_)|refine eV Z Z (zH Z Z) ?_)|(refine at_K ?_;first|refine K_then ?_|refine K_then_exit ?_|refine K_in_exit ?_)|(refine at_E ?_;first|refine E_seq ?_|refine E_region ?_|refine E_cond_t Z ?_|refine E_cond_f Z ?_|refine E_skip ?_|refine E_exit ?_)))
    · exact K_rnd (i+1,out) ⟨rfl,rfl,rfl,rfl,rfl,trivial⟩ ⟨by dsimp only;omega,hx2,fun h=>loop_nx (f:=fun _ n=>n.tier=(k:Int)→SibsOK t.kind (sibs d.notes k n.parent)) hn (hall h) (fun h2=>absurd h2 ‹_›)⟩ (by dsimp only;omega)
    have htn:n.tier=(k:Int):=Classical.not_not.1 ‹_›
    obtain⟨S,hS⟩:∃ S,S=sibs d.notes k n.parent:=⟨_,rfl⟩
    have cS:=siblings_any d _ (k:Int) n.parent w2 (hd0.ext (xD.trans hx2)) (by omega)
    rw [← hS] at cS
    have hSl:S.length≤20:=by have:=sibs_len d.notes k n.parent;rw [hS];omega
    (repeat' ((fail_if_success (refine E_seq (x:=(Code.seq (Code.region 9 _ _) _)) ?_));first|refine eV Z Z (val_loadA Z Z Z rD.at rfl) ?_|refine eV Z Z (val_load Z Z Z (rN.cellAt rfl)) ?_|(refine EL_call Z Z (entersF Z Z en173) cS (fun vC wC hC=>?_);obtain⟨xC,hSv⟩:=hC)|(refine at_EL ?_;first|refine eN ?_|refine eV Z Z (zA Z Z) ?_|refine eV Z Z (zB Z Z) ?_|refine eV Z Z (zH Z Z) ?_)|(refine at_K ?_;first|refine K_then ?_)|(refine at_E ?_;first|refine E_seq ?_|refine E_region ?_)))
    have hSv0:=hSv
    obtain⟨aS,cS',rfl,_⟩:=hSv.sl
    replace rD:=rD.ext xC
    replace rN:=rN.ext xC
    replace hx2:=hx2.trans xC
    refine E_mid (ι:=Unit) (fun _=>[(1,int k),(2,.pointer (some ⟨bD,0,none⟩)),(5,int t.kind),(6,int out),(7,int i),(8,.pointer (some ⟨bN,0,none⟩)),(9,.slice aS S.length cS')]) (fun _ w4=>Ext wC w4∧(timedB t.kind=true→NoOver S)) ?_ ?_
    · obtain⟨ba,hba⟩:∃ ba,ba=timedB t.kind:=⟨_,rfl⟩
      have ca:=aligned_any t.kind
      rw [← hba] at ca ⊢
      cases ba
      all_goals
        (repeat' (first|(refine EL_call Z Z (entersF Z Z en174) (ca _) (fun vE wE hE=>?_);obtain⟨rfl,xE⟩:=hE)|(refine EL_call Z Z (entersF Z Z en175) (overlap_any S _ _ (hSv0.ext xE)) (fun vF wF hF=>?_);obtain⟨⟨bo,rfl,hbo⟩,xF⟩:=hF;cases bo)|(refine at_EL ?_;first|refine eN ?_|refine eO Z Z ?_|refine eV Z Z (zA Z Z) ?_|refine eV Z Z (zB Z Z) ?_|refine eV Z Z (zC Z Z Z) ?_|refine eV Z Z (zD Z Z Z) ?_)|(refine at_K ?_;first|refine K_then ?_|refine K_then_ret ?_|refine K_in_ret ?_)|(refine at_E ?_;first|refine E_seq ?_|refine E_region ?_|refine E_cond_t Z ?_|refine E_cond_f Z ?_|refine E_skip ?_|refine E_ret ?_)))
        all_goals first
          | exact ret_1 Z Z ⟨⟨_,rfl,fun h=>by omega⟩,xD.trans (hx2.trans (xE.trans xF))⟩
          | exact K_mid () ⟨rfl,rfl,rfl,rfl,rfl,rfl,rfl,trivial⟩ ⟨xE.trans xF,fun _=>hbo rfl⟩
          | exact K_mid () ⟨rfl,rfl,rfl,rfl,rfl,rfl,rfl,trivial⟩ ⟨xE,fun h=>Bool.noConfusion h⟩
    rintro⟨⟩ w4 ⟨xm,hap⟩
    replace rD:=rD.ext xm
    replace rN:=rN.ext xm
    replace hx2:=hx2.trans xm
    replace hSv0:=hSv0.ext xm
    obtain⟨q,ok,hq⟩:=getR_note d.notes n.parent
    have cg:=get_any d _ n.parent _ (hd0.ext (xD.trans hx2))
    rw [hq] at cg
    (repeat' (first|refine eV Z Z (val_loadA Z Z Z rD.at rfl) ?_|refine eV Z Z (val_load Z Z Z (rN.cellAt rfl)) ?_|(refine EL_call Z Z (entersF Z Z en52) cg (fun vG wG hG=>?_);obtain⟨rfl,xG⟩:=hG)|(refine at_EL ?_;first|refine eV Z Z (zA Z Z) ?_|refine eV Z Z (zF Z Z Z) ?_|refine eV Z Z (zH Z Z) ?_)|(refine at_E ?_;first|refine E_seq ?_|refine E_region ?_)))
    refine EL_alloc Z Z Z (fun bP wP xP hbP rP0=>?_)
    refine EL_storeP (cs:=noteC q) rP0 xP (by omega) Z Z Z Z Z Z Z Z (Nat.le_refl _) (fun w5 rP1 x5 k5=>?_)
    have rP:Row w5 bP 80 (noteC q):=rP1
    have hx5:=hx2.trans (xG.trans x5)
    replace hSv0:=hSv0.ext (xG.trans x5)
    clear rP0 rP1 k5 cg cS rD rN hSv hatn
    (repeat' ((fail_if_success (refine E_seq (x:=(Code.seq (Code.region 12 _ _) _)) ?_));first|(refine at_EL ?_;first|refine eN ?_|refine eV Z Z (zB Z Z) ?_)|(refine at_K ?_;first|refine K_then ?_)))
    refine E_mid (ι:=Int) (fun o=>[(1,int k),(2,.pointer (some ⟨bD,0,none⟩)),(5,int t.kind),(6,int o),(7,int i),(8,.pointer (some ⟨bN,0,none⟩)),(9,.slice aS S.length cS')]) (fun o w6=>Ext w5 w6∧(o=0→out=0)) ?_ ?_
    · by_cases hk1:t.kind=1
      · have hspan:At w5 bP (0+3) [int q.frm,int q.til]:=rP.at.seg 3 (n:=2)
        refine E_seq ?_
        refine E.sub (M:=(10,.pointer (some ⟨bP,0,none⟩))::[(1,int k),(2,.pointer (some ⟨bD,0,none⟩)),(5,int t.kind),(6,int out),(7,int i),(8,.pointer (some ⟨bN,0,none⟩)),(9,.slice aS S.length cS')]) ⟨rfl,rfl,rfl,rfl,rfl,rfl,rfl,rfl,trivial⟩ ?_
        refine E_dm (id:=12) 8 mixedOk (by kernel_rfl) Z ?_
        (repeat' (first|refine RQ_callR (fun u w'=>Sl w' u (S.map spnOf)) (fun _=>#[.slice aS S.length cS']) Z Z (fun _ _ _ _ xe h=>h.ext xe) (fun _ _ _=>entersF Z Z en177) (fun wq _ xq _=>calls_mono (spansOf_any S _ wq (hSv0.ext xq) (by omega)) fun _ _ h=>⟨h.2,h.1⟩) ?_|refine yV Z Z (fun wq _ xq=>val_loadA Z Z Z (hspan.ext xq) Z) ?_|refine RQ_callR (fun u w'=>∃ bb,u=.bool bb) (fun δ=>#[δ 56,.agg #[int q.frm,int q.til] ]) Z Z (fun _ _ _ _ xe h=>h) (fun _ _ _=>entersF Z Z en176) (fun wq δ xq hs=>calls_mono (covers_any (S.map spnOf) _ q.frm q.til wq (hs 56 rfl _ rfl) (by simp;omega)) fun _ _ h=>h) ?_|refine RQ_end (fun wq δ xq hR=>?_)|(refine at_EL ?_;first|refine eN ?_|refine eO Z Z ?_|refine eV Z Z (zD Z Z Z) ?_)|(refine at_K ?_;first|refine K_then ?_)|(refine at_E ?_;first|refine E_cond_f Z ?_|refine E_skip ?_)|(refine at_RQ ?_;first|refine yO Z Z ?_|refine yV Z Z (fun _ _ _=>zA Z Z) ?_|(refine at_binR ?_;first|refine yD Z Z (fun _ _ _=>zM Z Z Z) (fun hh=>?_) (fun hh=>?_))|refine yV Z Z (fun _ _ _=>zH Z Z) ?_)))
        all_goals (first|(exfalso;omega)|skip)
        obtain⟨bb,e59⟩:=hR 59 _ rfl
        refine EL.sub (M:=(59,.bool bb)::(54,.bool true)::[(1,int k),(2,.pointer (some ⟨bD,0,none⟩)),(5,int t.kind),(6,int out),(7,int i),(8,.pointer (some ⟨bN,0,none⟩)),(9,.slice aS S.length cS')]) ⟨show some (δ 59)=_ by rw [e59],rfl,rfl,rfl,rfl,rfl,rfl,rfl,rfl,trivial⟩ ?_
        clear hR e59 δ
        cases bb
        all_goals
          (repeat' (first|(refine at_EL ?_;first|refine eN ?_|refine eV Z Z (zB Z Z) ?_|refine eV Z Z (zC Z Z Z) ?_|refine eV Z Z (zE Z Z) ?_)|(refine at_K ?_;first|refine K_then ?_)|(refine at_E ?_;first|refine E_region ?_|refine E_cond_t Z ?_|refine E_cond_f Z ?_|refine E_skip ?_)))
          exact K_mid _ ⟨rfl,rfl,rfl,rfl,rfl,rfl,rfl,trivial⟩ ⟨xq,fun h=>by first|exact h|omega⟩
      · (repeat' (first|(refine at_EL ?_;first|refine eN ?_)|(refine at_K ?_;first|refine K_then ?_)|(refine at_E ?_;first|refine E_seq ?_|refine E_cond_f Z ?_|refine E_skip ?_|refine E_dq mixedOk (by kernel_rfl) Z ?_)|(refine at_RQ ?_;first|refine yN Z (fun wq xq=>?_)|refine yO Z Z ?_|refine yV Z Z (fun _ _ _=>zA Z Z) ?_|(refine at_binR ?_;first|refine yD Z Z (fun _ _ _=>zM Z Z Z) (fun hh=>?_) (fun hh=>?_))|refine yV Z Z (fun _ _ _=>zD Z Z Z) ?_)))
        all_goals (first|(exfalso;omega)|skip)
        exact K_mid out ⟨rfl,rfl,rfl,rfl,rfl,rfl,rfl,trivial⟩ ⟨xq,fun h=>h⟩
    rintro o w6 ⟨xm,ho⟩
    replace hx5:=hx5.trans xm
    replace hSv0:=hSv0.ext xm
    have don:∀ o':Int,(o'=0→out=0∧SibsOK t.kind S)→o'=0→∀ j,j<i+1→∀ n,d.notes[j]?=some n→n.tier=(k:Int)→SibsOK t.kind (sibs d.notes k n.parent):=fun o' h h0=>
      loop_nx (f:=fun _ n=>n.tier=(k:Int)→SibsOK t.kind (sibs d.notes k n.parent)) hn (hall (h h0).1) (fun _=>by rw [← hS];exact(h h0).2)
    (repeat' (first|(refine EL_call Z Z (entersF Z Z en178) (ranked_any S _ _ hSv0) (fun vF wF hF=>?_);obtain⟨⟨bo,rfl,hbo⟩,xF⟩:=hF;cases bo)|(refine at_EL ?_;first|refine eN ?_|refine eO Z Z ?_|refine eV Z Z (zA Z Z) ?_|refine eV Z Z (zB Z Z) ?_|(refine at_bin ?_;first|refine eD Z Z (zM Z Z Z) (fun hh=>?_) (fun hh=>?_)|refine eD Z Z (zO Z Z Z) (fun hh=>?_) (fun hh=>?_)|refine eV Z Z (zU Z Z Z (by omega) (by omega)) ?_)|(refine at_call ?_;first|refine eV Z Z (zK Z Z) ?_)|refine eV Z Z (zC Z Z Z) ?_|refine eV Z Z (zD Z Z Z) ?_|refine eV Z Z (zE Z Z) ?_)|(refine at_K ?_;first|refine K_then ?_|refine K_in ?_)|(refine at_E ?_;first|refine E_seq ?_|refine E_region ?_|refine E_cond_t Z ?_|refine E_cond_f Z ?_|refine E_skip ?_)))
    all_goals (first|(exfalso;omega)|skip)
    all_goals first
      | exact K_rnd (i+1,10) ⟨rfl,rfl,rfl,rfl,rfl,trivial⟩ ⟨by dsimp only;omega,hx5.trans xF,don 10 (fun h=>absurd h (by decide))⟩ (by dsimp only;omega)
      | exact K_rnd (i+1,o) ⟨rfl,rfl,rfl,rfl,rfl,trivial⟩ ⟨by dsimp only;omega,hx5.trans xF,don o (fun h=>⟨ho h,hap,fun _=>hbo rfl,fun h=>by omega⟩)⟩ (by dsimp only;omega)
      | exact K_rnd (i+1,8) ⟨rfl,rfl,rfl,rfl,rfl,trivial⟩ ⟨by dsimp only;omega,hx5,don 8 (fun h=>absurd h (by decide))⟩ (by dsimp only;omega)
      | exact K_rnd (i+1,o) ⟨rfl,rfl,rfl,rfl,rfl,trivial⟩ ⟨by dsimp only;omega,hx5,don o (fun h=>⟨ho h,hap,fun h=>by omega,fun h=>by omega⟩)⟩ (by dsimp only;omega)
  · (repeat' (first|refine eV Z Z (val_load Z Z Z (rD.cellAt rfl)) ?_|(refine at_EL ?_;first|refine eN ?_|refine eV Z Z (zA Z Z) ?_|refine eV Z Z (zB Z Z) ?_|(refine at_bin ?_;first|refine eD Z Z (zL Z Z Z) (fun hh=>?_) (fun hh=>?_))|(refine at_call ?_;first|refine eV Z Z (zK Z Z) ?_)|refine eV Z Z (zH Z Z) ?_)|(refine at_K ?_;first|refine K_then ?_|refine K_then_exit ?_|refine K_in_exit ?_)|(refine at_E ?_;first|refine E_seq ?_|refine E_region ?_|refine E_cond_t Z ?_|refine E_cond_f Z ?_|refine E_block ?_|refine E_skip ?_|refine E_ret ?_|refine E_exit ?_)))
    all_goals (first|(exfalso;omega)|skip)
    refine ret_1 Z Z ⟨⟨_,rfl,fun h n hn htn=>?_⟩,xD.trans hx⟩
    obtain⟨j,hj⟩:=List.getElem?_of_mem hn
    exact hall h j (by have:=(List.getElem?_eq_some_iff.1 hj).1;omega) n hj htn
end Go.Proofs.YtjicdgejhkgpgaaGreatDoor
