/-
  Walks: the reference's siblings, overlap, spans, ranked. Walks: the reference's placed, noteError.
-/
import Derived.Test.YtjicdgejhkgpgaaGreatDoorYg
import Derived.Test.YtjicdgejhkgpgaaGreatDoorYh
set_option linter.all false
namespace Go.Proofs.YtjicdgejhkgpgaaGreatDoor
open Go.RowKit Go.En
theorem loop_nx {α:Type} {l:List α} {i:Nat} {x:α} {f:Nat→α→Prop} (hx:l[i]?=some x) (hall:∀ j,j<i→∀ y,l[j]?=some y→f j y) (h:f i x):∀ j,j<i+1→∀ y,l[j]?=some y→f j y:=fun j hj y hy=>by
  by_cases hj2:j<i
  · exact hall j hj2 y hy
  · obtain rfl:j=i:=by omega
    rw [hx] at hy;cases hy;exact h
attribute [local irreducible] E EL K Val Enters Rt Calls bodyPost Code.wp RQ
set_option maxHeartbeats 1000000 in
theorem siblings_any (d:Dc) (v:Value) (t p:Int) (w:World) (hv:DcAt w v d) (hlen:d.notes.length≤1099511627776):Calls Tryz.prog 173 #[v,int t,int p] w (Rt fun u w'=>Ext w w'∧Sl w' u (sibs d.notes t p)):=by
  obtain⟨sv,tv,nv,rfl,_,_,hn⟩:=hv
  refine calls_E (n:=44) (args:=[.agg #[int d.rid,str d.rname,int d.len,int d.day,sv,tv,nv],int t,int p]) Tryz.func173 rfl Tryz.ntmps173 (by simp) ?_
  have hn0:=hn
  obtain⟨a,cap,rfl,hc,hm,hp⟩:=hn.sl
  refine E_seq ?_
  refine E_region ?_
  refine EL_box Z Z Z Z (fun bB wB xB hbB rB=>?_)
  (repeat' (first|(refine at_EL ?_;first|refine eN ?_|refine eV Z Z (zB Z Z) ?_|refine eL Z Z Z Z Z Z Z Z (fun bS wS xS hbS rS=>?_))|(refine at_K ?_;first|refine K_then ?_)|(refine at_E ?_;first|refine E_seq ?_|refine E_region ?_|refine E_block ?_)))
  refine E_loop (ι:=Nat × Value) (fun x=>[(1,int t),(2,int p),(3,.pointer (some ⟨bB,0,none⟩)),(7,x.2),(8,int x.1)])
    (fun x wr=>x.1≤d.notes.length∧Ext wB wr∧wr.ownsRow wB.heap.size 80 7 x.2 (sibs (d.notes.take x.1) t p).length ((sibs (d.notes.take x.1) t p).map noteC).flatten) (fun x=>d.notes.length-x.1) (0,_)
    ⟨rfl,rfl,rfl,rfl,rfl,trivial⟩ ⟨Nat.zero_le _,xS,own_row (n:=0) (size:=7) rS rfl (by omega) (by omega)⟩ ?_
  rintro⟨i,vO⟩ wr ⟨hi,hx,hown⟩
  dsimp only at hi hx hown ⊢
  have rBr:=rB.ext hx
  have hol:=sibs_len (d.notes.take i) t p
  rw [List.length_take] at hol
  by_cases hlt:i<d.notes.length
  · obtain⟨b,off,rfl⟩:=hp (by omega)
    obtain⟨q,hq⟩:∃ q,d.notes[i]?=some q:=⟨_,List.getElem?_eq_getElem hlt⟩
    have hat:=note_elem (hn0.ext (xB.trans hx)) hq
    have htk:=sibs_take (t:=t) (p:=p) hq
    (repeat' (first|refine eV Z Z (val_load Z Z Z (rBr.cellAt rfl)) ?_|refine eV Z Z (val_indexAddr (m:=i) Z Z Z Z (by omega)) ?_|refine eV Z Z (val_load Z Z Z (hat.cellAt (j:=1) Z)) ?_|refine eV Z Z (val_load Z Z Z (hat.cellAt (j:=2) Z)) ?_|refine eV Z Z (val_loadA Z Z Z hat rfl) ?_|(refine EL_appO (news:=noteC q) (own_ext hown xS) (hx.trans xS) (fun _=>⟨_,_,rfl,rS.at⟩) Z Z Z Z Z Z Z Z Z (by omega) (by omega) (fun vJ wJ oJ xJ kJ hJ=>?_))|(refine at_EL ?_;first|refine eN ?_|refine eO Z Z ?_|refine eV Z Z (zA Z Z) ?_|refine eV Z Z (zB Z Z) ?_|(refine at_bin ?_;first|refine eD Z Z (zL Z Z Z) (fun hh=>?_) (fun hh=>?_)|refine eD Z Z (zM Z Z Z) (fun hh=>?_) (fun hh=>?_)|refine eV Z Z (zU Z Z Z (by omega) (by omega)) ?_)|(refine at_call ?_;first|refine eV Z Z (zK Z Z) ?_)|refine eV Z Z (zC Z Z Z) ?_|refine eV Z Z (zD Z Z Z) ?_|refine eV Z Z (zH Z Z) ?_|refine eL Z Z Z Z Z Z Z Z (fun bS wS xS hbS rS=>?_))|(refine at_K ?_;first|refine K_then ?_|refine K_in ?_|refine K_then_exit ?_|refine K_in_exit ?_)|(refine at_E ?_;first|refine E_seq ?_|refine E_region ?_|refine E_cond_t Z ?_|refine E_cond_f Z ?_|refine E_block ?_|refine E_skip ?_|refine E_ret ?_|refine E_exit ?_)))
    all_goals (first|(exfalso;omega)|skip)
    · rw [if_pos ⟨by assumption,by assumption⟩] at htk
      refine K_rnd (i+1,vJ) ⟨rfl,rfl,rfl,rfl,rfl,trivial⟩ ⟨by dsimp only;omega,xJ,?_⟩ (by dsimp only;omega)
      dsimp only
      rw [htk]
      simpa using oJ
    all_goals
      rw [if_neg (by rintro⟨h1,h2⟩;first|exact absurd h1 ‹_› | exact absurd h2 ‹_›),List.append_nil] at htk
      refine K_rnd (i+1,vO) ⟨rfl,rfl,rfl,rfl,rfl,trivial⟩ ⟨by dsimp only;omega,hx,?_⟩ (by dsimp only;omega)
      dsimp only
      rw [htk]
      exact hown
  · rw [List.take_of_length_le (by omega)] at hown
    (repeat' (first|refine eV Z Z (val_load Z Z Z (rBr.cellAt rfl)) ?_|(refine at_EL ?_;first|refine eN ?_|refine eV Z Z (zA Z Z) ?_|refine eV Z Z (zB Z Z) ?_|(refine at_bin ?_;first|refine eD Z Z (zL Z Z Z) (fun hh=>?_) (fun hh=>?_))|(refine at_call ?_;first|refine eV Z Z (zK Z Z) ?_)|refine eV Z Z (zH Z Z) ?_)|(refine at_K ?_;first|refine K_then ?_|refine K_then_exit ?_|refine K_in_exit ?_)|(refine at_E ?_;first|refine E_seq ?_|refine E_region ?_|refine E_cond_t Z ?_|refine E_cond_f Z ?_|refine E_block ?_|refine E_skip ?_|refine E_ret ?_|refine E_exit ?_)))
    all_goals (first|(exfalso;omega)|skip)
    exact ret_1 Z Z ⟨xB.trans hx,own_Sl hown (notes_ats _ _) Z (by have:=sibs_len d.notes t p;omega)⟩
theorem spans_any (l:List Note) (v:Value) (w:World) (hv:Sl w v l) (hlen:l.length≤1099511627776):Calls Tryz.prog 177 #[v] w (Rt fun u w'=>Ext w w'∧Sl w' u (l.map fun n=>(⟨n.frm,n.til⟩:Spn))):=by
  refine calls_E (n:=21) (args:=[v]) Tryz.func177 rfl Tryz.ntmps177 (by simp) ?_
  have hv0:=hv
  obtain⟨a,cap,rfl,hc,hm,hp⟩:=hv.sl
  (repeat' (first|(refine at_EL ?_;first|refine eN ?_|refine eV Z Z (zB Z Z) ?_|refine eL Z Z Z Z Z Z Z Z (fun bS wS xS hbS rS=>?_))|(refine at_K ?_;first|refine K_then ?_)|(refine at_E ?_;first|refine E_seq ?_|refine E_region ?_|refine E_block ?_)))
  refine E_loop (ι:=Nat × Value) (fun x=>[(0,.slice a l.length cap),(3,x.2),(4,int x.1)])
    (fun x wr=>x.1≤l.length∧Ext w wr∧wr.ownsRow w.heap.size 76 2 x.2 (l.take x.1).length ((l.take x.1).map fun n=>[int n.frm,int n.til]).flatten) (fun x=>l.length-x.1) (0,_)
    ⟨rfl,rfl,rfl,trivial⟩ ⟨Nat.zero_le _,xS,own_row (n:=0) (size:=2) rS rfl (by omega) (by omega)⟩ ?_
  rintro⟨i,vO⟩ wr ⟨hi,hx,hown⟩
  dsimp only at hi hx hown ⊢
  by_cases hlt:i<l.length
  · obtain⟨b,off,rfl⟩:=hp (by omega)
    obtain⟨q,hq⟩:∃ q,l[i]?=some q:=⟨_,List.getElem?_eq_getElem hlt⟩
    have hat:=note_elem (hv0.ext hx) hq
    have hat2:At wr b (off+i*7+3) [int q.frm,int q.til]:=hat.seg 3 (n:=2)
    have htl:(l.take i).length=i:=by rw [List.length_take];omega
    (repeat' (first|refine eV Z Z (val_indexAddr (m:=i) Z Z Z Z (by omega)) ?_|refine eV Z Z (val_loadA Z Z Z hat2 rfl) ?_|(refine EL_appO (news:=[int q.frm,int q.til]) (own_ext hown xS) (hx.trans xS) (fun _=>⟨_,_,rfl,rS.at⟩) Z Z Z Z Z Z Z Z Z (by omega) (by omega) (fun vJ wJ oJ xJ kJ hJ=>?_))|(refine at_EL ?_;first|refine eN ?_|refine eV Z Z (zA Z Z) ?_|refine eV Z Z (zB Z Z) ?_|(refine at_bin ?_;first|refine eD Z Z (zL Z Z Z) (fun hh=>?_) (fun hh=>?_)|refine eV Z Z (zU Z Z Z (by omega) (by omega)) ?_)|(refine at_call ?_;first|refine eV Z Z (zK Z Z) ?_)|refine eV Z Z (zH Z Z) ?_|refine eL Z Z Z Z Z Z Z Z (fun bS wS xS hbS rS=>?_))|(refine at_K ?_;first|refine K_then ?_|refine K_in ?_|refine K_then_exit ?_|refine K_in_exit ?_)|(refine at_E ?_;first|refine E_seq ?_|refine E_region ?_|refine E_cond_t Z ?_|refine E_cond_f Z ?_|refine E_block ?_|refine E_skip ?_|refine E_ret ?_|refine E_exit ?_)))
    all_goals (first|(exfalso;omega)|skip)
    refine K_rnd (i+1,vJ) ⟨rfl,rfl,rfl,trivial⟩ ⟨by dsimp only;omega,xJ,?_⟩ (by dsimp only;omega)
    dsimp only
    obtain⟨hi2,rfl⟩:=List.getElem?_eq_some_iff.1 hq
    rw [List.take_succ_eq_append_getElem hi2,List.map_append,List.flatten_append,List.length_append]
    exact oJ
  · rw [List.take_of_length_le (by omega)] at hown
    (repeat' (first|(refine at_EL ?_;first|refine eN ?_|refine eV Z Z (zA Z Z) ?_|refine eV Z Z (zB Z Z) ?_|(refine at_bin ?_;first|refine eD Z Z (zL Z Z Z) (fun hh=>?_) (fun hh=>?_))|(refine at_call ?_;first|refine eV Z Z (zK Z Z) ?_))|(refine at_K ?_;first|refine K_then ?_|refine K_then_exit ?_|refine K_in_exit ?_)|(refine at_E ?_;first|refine E_seq ?_|refine E_region ?_|refine E_cond_t Z ?_|refine E_cond_f Z ?_|refine E_block ?_|refine E_skip ?_|refine E_ret ?_|refine E_exit ?_)))
    all_goals (first|(exfalso;omega)|skip)
    exact ret_1 Z Z ⟨hx,own_Sl (css:=l.map fun n=>[int n.frm,int n.til]) hown (by have:=spns_ats (G:=Tt) wr (l.map fun n=>(⟨n.frm,n.til⟩:Spn));rw [List.map_map] at this;exact this) (by simp) (by simp;omega)⟩
theorem ranked_any (l : List Note) (v : Value) (w : World) (hv : Sl w v l) : Calls Tryz.prog 178 #[v] w (Rt fun u w' => (∃ b, u = .bool b ∧ (b = true → Ranked l)) ∧ Ext w w') := by
  refine calls_E (n:=30) (args:=[v]) Tryz.func178 rfl Tryz.ntmps178 (by simp) ?_
  have hv0:=hv
  obtain⟨a,cap,rfl,hc,hm,hp⟩:=hv.sl
  (repeat' (first|(refine at_EL ?_;first|refine eN ?_|refine eV Z Z (zB Z Z) ?_)|(refine at_K ?_;first|refine K_then ?_)|(refine at_E ?_;first|refine E_seq ?_|refine E_region ?_|refine E_block ?_)))
  refine E_loop (ι:=Nat) (fun i=>[(0,.slice a l.length cap),(3,int i)]) (fun i wr=>i≤l.length∧Ext w wr∧∀ m:Nat,m<i→∃ x∈l,x.rank=(m:Int)) (fun i=>l.length-i) 0
    ⟨rfl,rfl,trivial⟩ ⟨Nat.zero_le _,Ext.refl _,fun j hj=>by omega⟩ ?_
  rintro i wr ⟨hi,hx,hall⟩
  by_cases hlt:i<l.length
  · obtain⟨b,off,rfl⟩:=hp (by omega)
    (repeat' (first|(refine at_EL ?_;first|refine eN ?_|refine eV Z Z (zA Z Z) ?_|refine eV Z Z (zB Z Z) ?_|(refine at_bin ?_;first|refine eD Z Z (zL Z Z Z) (fun hh=>?_) (fun hh=>?_))|(refine at_call ?_;first|refine eV Z Z (zK Z Z) ?_))|(refine at_K ?_;first|refine K_then ?_|refine K_then_exit ?_|refine K_in_exit ?_)|(refine at_E ?_;first|refine E_seq ?_|refine E_region ?_|refine E_cond_t Z ?_|refine E_cond_f Z ?_|refine E_block ?_|refine E_skip ?_|refine E_ret ?_|refine E_exit ?_)))
    all_goals (first|(exfalso;omega)|skip)
    refine E_loop (ι:=Nat × Bool) (fun x=>[(0,.slice (some ⟨b,off,none⟩) l.length cap),(3,int i),(4,.bool x.2),(5,int x.1)]) (fun x wr'=>x.1≤l.length∧Ext wr wr'∧(x.2=true→∃ y∈l,y.rank=(i:Int))) (fun x=>l.length-x.1) (0,false)
      ⟨rfl,rfl,rfl,rfl,trivial⟩ ⟨Nat.zero_le _,Ext.refl _,fun h=>by cases h⟩ ?_
    rintro⟨k,f⟩ wk ⟨hk,hxk,hf⟩
    dsimp only at hk hxk hf ⊢
    by_cases hklt:k<l.length
    · obtain⟨q,hq⟩:∃ q,l[k]?=some q:=⟨_,List.getElem?_eq_getElem hklt⟩
      have hat:=note_elem (hv0.ext (hx.trans hxk)) hq
      cases f
      all_goals
        (repeat' (first|refine eV Z Z (val_indexAddr (m:=k) Z Z Z Z (by omega)) ?_|refine eV Z Z (val_load Z Z Z (hat.cellAt (j:=5) Z)) ?_|(refine at_EL ?_;first|refine eN ?_|refine eO Z Z ?_|refine eV Z Z (zA Z Z) ?_|refine eV Z Z (zB Z Z) ?_|(refine at_bin ?_;first|refine eD Z Z (zL Z Z Z) (fun hh=>?_) (fun hh=>?_)|refine eD Z Z (zM Z Z Z) (fun hh=>?_) (fun hh=>?_)|refine eV Z Z (zU Z Z Z (by omega) (by omega)) ?_)|(refine at_call ?_;first|refine eV Z Z (zK Z Z) ?_)|refine eV Z Z (zC Z Z Z) ?_|refine eV Z Z (zD Z Z Z) ?_|refine eV Z Z (zE Z Z) ?_|refine eV Z Z (zH Z Z) ?_)|(refine at_K ?_;first|refine K_then ?_|refine K_in ?_|refine K_then_ret ?_|refine K_then_exit ?_|refine K_in_ret ?_|refine K_in_exit ?_)|(refine at_E ?_;first|refine E_seq ?_|refine E_region ?_|refine E_cond_t Z ?_|refine E_cond_f Z ?_|refine E_block ?_|refine E_skip ?_|refine E_ret ?_|refine E_exit ?_)))
        all_goals (first|(exfalso;omega)|skip)
        all_goals refine K_rnd (k+1,_) ⟨rfl,rfl,rfl,rfl,trivial⟩ ⟨by dsimp only;omega,hxk,fun h=>?_⟩ (by dsimp only;omega)
        all_goals first
          | exact⟨q,List.mem_of_getElem? hq,by assumption⟩
          | exact hf h
          | (simp at h)
    · cases f
      · (repeat' (first|(refine at_EL ?_;first|refine eN ?_|refine eV Z Z (zA Z Z) ?_|refine eV Z Z (zB Z Z) ?_|(refine at_bin ?_;first|refine eD Z Z (zL Z Z Z) (fun hh=>?_) (fun hh=>?_))|(refine at_call ?_;first|refine eV Z Z (zK Z Z) ?_)|refine eV Z Z (zE Z Z) ?_)|(refine at_K ?_;first|refine K_then ?_|refine K_then_ret ?_|refine K_then_exit ?_|refine K_in_ret ?_|refine K_in_exit ?_)|(refine at_E ?_;first|refine E_seq ?_|refine E_region ?_|refine E_cond_t Z ?_|refine E_cond_f Z ?_|refine E_block ?_|refine E_skip ?_|refine E_ret ?_|refine E_exit ?_)))
        all_goals (first|(exfalso;omega)|skip)
        exact ret_1 Z Z ⟨⟨_,rfl,fun h=>by cases h⟩,hx.trans hxk⟩
      · (repeat' (first|(refine at_EL ?_;first|refine eN ?_|refine eO Z Z ?_|refine eV Z Z (zA Z Z) ?_|refine eV Z Z (zB Z Z) ?_|(refine at_bin ?_;first|refine eD Z Z (zL Z Z Z) (fun hh=>?_) (fun hh=>?_)|refine eV Z Z (zU Z Z Z (by omega) (by omega)) ?_)|(refine at_call ?_;first|refine eV Z Z (zK Z Z) ?_)|refine eV Z Z (zC Z Z Z) ?_|refine eV Z Z (zE Z Z) ?_)|(refine at_K ?_;first|refine K_then ?_|refine K_in ?_|refine K_then_exit ?_|refine K_in_exit ?_)|(refine at_E ?_;first|refine E_seq ?_|refine E_region ?_|refine E_cond_t Z ?_|refine E_cond_f Z ?_|refine E_block ?_|refine E_skip ?_|refine E_exit ?_)))
        all_goals (first|(exfalso;omega)|skip)
        refine K_rnd (i+1) ⟨rfl,rfl,trivial⟩ ⟨by omega,hx.trans hxk,fun m hmi=>?_⟩ (by omega)
        by_cases hmi2:m<i
        · exact hall m hmi2
        · obtain rfl:m=i:=by omega
          exact hf rfl
  · (repeat' (first|(refine at_EL ?_;first|refine eN ?_|refine eV Z Z (zA Z Z) ?_|refine eV Z Z (zB Z Z) ?_|(refine at_bin ?_;first|refine eD Z Z (zL Z Z Z) (fun hh=>?_) (fun hh=>?_))|(refine at_call ?_;first|refine eV Z Z (zK Z Z) ?_))|(refine at_K ?_;first|refine K_then ?_|refine K_then_exit ?_|refine K_in_exit ?_)|(refine at_E ?_;first|refine E_seq ?_|refine E_region ?_|refine E_cond_t Z ?_|refine E_cond_f Z ?_|refine E_block ?_|refine E_skip ?_|refine E_ret ?_|refine E_exit ?_)))
    all_goals (first|(exfalso;omega)|skip)
    exact ret_1 Z Z ⟨⟨_,rfl,fun _ m hml=>hall m (by omega)⟩,hx⟩
theorem overlap_any (l : List Note) (v : Value) (w : World) (hv : Sl w v l) : Calls Tryz.prog 175 #[v] w (Rt fun u w' => (∃ b, u = .bool b ∧ (b = false → NoOver l)) ∧ Ext w w') := by
  refine calls_E (n:=44) (args:=[v]) Tryz.func175 rfl Tryz.ntmps175 (by simp) ?_
  have hv0:=hv
  obtain⟨a,cap,rfl,hc,hm,hp⟩:=hv.sl
  (repeat' (first|(refine at_EL ?_;first|refine eN ?_|refine eV Z Z (zB Z Z) ?_)|(refine at_K ?_;first|refine K_then ?_)|(refine at_E ?_;first|refine E_seq ?_|refine E_region ?_|refine E_block ?_)))
  refine E_loop (ι:=Nat) (fun i=>[(0,.slice a l.length cap),(3,int i)]) (fun i wr=>i≤l.length∧Ext w wr∧∀ j,j<i→∀ x,l[j]?=some x→∀ k,k<j→∀ y,l[k]?=some y→¬ (x.frm<y.til∧y.frm<x.til)) (fun i=>l.length-i) 0
    ⟨rfl,rfl,trivial⟩ ⟨Nat.zero_le _,Ext.refl _,fun j hj=>by omega⟩ ?_
  rintro i wr ⟨hi,hx,hall⟩
  by_cases hlt:i<l.length
  · obtain⟨b,off,rfl⟩:=hp (by omega)
    obtain⟨x,hxi⟩:∃ x,l[i]?=some x:=⟨_,List.getElem?_eq_getElem hlt⟩
    (repeat' (first|(refine at_EL ?_;first|refine eN ?_|refine eV Z Z (zA Z Z) ?_|refine eV Z Z (zB Z Z) ?_|(refine at_bin ?_;first|refine eD Z Z (zL Z Z Z) (fun hh=>?_) (fun hh=>?_))|(refine at_call ?_;first|refine eV Z Z (zK Z Z) ?_))|(refine at_K ?_;first|refine K_then ?_|refine K_then_exit ?_|refine K_in_exit ?_)|(refine at_E ?_;first|refine E_seq ?_|refine E_region ?_|refine E_cond_t Z ?_|refine E_cond_f Z ?_|refine E_block ?_|refine E_skip ?_|refine E_ret ?_|refine E_exit ?_)))
    all_goals (first|(exfalso;omega)|skip)
    refine E_loop (ι:=Nat) (fun k=>[(0,.slice (some ⟨b,off,none⟩) l.length cap),(3,int i),(4,int k)]) (fun k wr'=>k≤i∧Ext wr wr'∧∀ j,j<k→∀ y,l[j]?=some y→¬ (x.frm<y.til∧y.frm<x.til)) (fun k=>i-k) 0
      ⟨rfl,rfl,rfl,trivial⟩ ⟨Nat.zero_le _,Ext.refl _,fun j hj=>by omega⟩ ?_
    rintro k wk ⟨hk,hxk,hin⟩
    by_cases hklt:k<i
    · obtain⟨y,hyk⟩:∃ y,l[k]?=some y:=⟨_,List.getElem?_eq_getElem (by omega)⟩
      have hatx:=note_elem (hv0.ext (hx.trans hxk)) hxi
      have haty:=note_elem (hv0.ext (hx.trans hxk)) hyk
      (repeat' (first|refine yV Z Z (fun _ _ _=>val_indexAddr (m:=i) Z Z Z Z (by omega)) ?_|refine yV Z Z (fun _ _ _=>val_indexAddr (m:=k) Z Z Z Z (by omega)) ?_|refine yV Z Z (fun wq _ xq=>val_load Z Z Z ((hatx.ext xq).cellAt (j:=3) Z)) ?_|refine yV Z Z (fun wq _ xq=>val_load Z Z Z ((hatx.ext xq).cellAt (j:=4) Z)) ?_|refine yV Z Z (fun wq _ xq=>val_load Z Z Z ((haty.ext xq).cellAt (j:=3) Z)) ?_|refine yV Z Z (fun wq _ xq=>val_load Z Z Z ((haty.ext xq).cellAt (j:=4) Z)) ?_|(refine at_EL ?_;first|refine eN ?_|refine eV Z Z (zA Z Z) ?_|refine eV Z Z (zB Z Z) ?_|(refine at_bin ?_;first|refine eD Z Z (zL Z Z Z) (fun hh=>?_) (fun hh=>?_)|refine eV Z Z (zU Z Z Z (by omega) (by omega)) ?_))|(refine at_K ?_;first|refine K_then ?_|refine K_in ?_|refine K_then_ret ?_|refine K_then_exit ?_|refine K_in_ret ?_|refine K_in_exit ?_)|(refine at_E ?_;first|refine E_seq ?_|refine E_region ?_|refine E_cond_t Z ?_|refine E_cond_f Z ?_|refine E_block ?_|refine E_skip ?_|refine E_ret ?_|refine E_exit ?_|refine E_dq mixedOk (by kernel_rfl) Z ?_)|(refine at_RQ ?_;first|refine yN Z (fun wq xq=>?_)|refine yO Z Z ?_|refine yV Z Z (fun _ _ _=>zA Z Z) ?_|(refine at_binR ?_;first|refine yD Z Z (fun _ _ _=>zL Z Z Z) (fun hh=>?_) (fun hh=>?_))|refine yV Z Z (fun _ _ _=>zC Z Z Z) ?_|refine yV Z Z (fun _ _ _=>zD Z Z Z) ?_|refine yV Z Z (fun _ _ _=>zH Z Z) ?_)))
      all_goals (first|(exfalso;omega)|skip)
      all_goals first
        | exact ret_1 Z Z ⟨⟨_,rfl,fun h=>by cases h⟩,(hx.trans hxk).trans xq⟩
        | exact K_rnd (k+1) ⟨rfl,rfl,rfl,trivial⟩ ⟨by omega,hxk.trans xq,loop_nx hyk hin (by omega)⟩ (by omega)
    · (repeat' (first|(refine at_EL ?_;first|refine eN ?_|refine eV Z Z (zA Z Z) ?_|refine eV Z Z (zB Z Z) ?_|(refine at_bin ?_;first|refine eD Z Z (zL Z Z Z) (fun hh=>?_) (fun hh=>?_)|refine eV Z Z (zU Z Z Z (by omega) (by omega)) ?_))|(refine at_K ?_;first|refine K_then ?_|refine K_in ?_|refine K_then_exit ?_|refine K_in_exit ?_)|(refine at_E ?_;first|refine E_seq ?_|refine E_region ?_|refine E_cond_t Z ?_|refine E_cond_f Z ?_|refine E_block ?_|refine E_skip ?_|refine E_exit ?_)))
      all_goals (first|(exfalso;omega)|skip)
      exact K_rnd (i+1) ⟨rfl,rfl,trivial⟩ ⟨by omega,hx.trans hxk,loop_nx (f:=fun j x=>∀ k,k<j→∀ y,l[k]?=some y→¬ (x.frm<y.til∧y.frm<x.til)) hxi hall (fun k hk' y hy=>hin k (by omega) y hy)⟩ (by omega)
  · (repeat' (first|(refine at_EL ?_;first|refine eN ?_|refine eV Z Z (zA Z Z) ?_|refine eV Z Z (zB Z Z) ?_|(refine at_bin ?_;first|refine eD Z Z (zL Z Z Z) (fun hh=>?_) (fun hh=>?_))|(refine at_call ?_;first|refine eV Z Z (zK Z Z) ?_))|(refine at_K ?_;first|refine K_then ?_|refine K_then_exit ?_|refine K_in_exit ?_)|(refine at_E ?_;first|refine E_seq ?_|refine E_region ?_|refine E_cond_t Z ?_|refine E_cond_f Z ?_|refine E_block ?_|refine E_skip ?_|refine E_ret ?_|refine E_exit ?_)))
    all_goals (first|(exfalso;omega)|skip)
    exact ret_1 Z Z ⟨⟨_,rfl,fun _ j k x y hkj hxj hyk=>hall j (by have:=(List.getElem?_eq_some_iff.1 hxj).1;omega) x hxj k hkj y hyk⟩,hx⟩
end Go.Proofs.YtjicdgejhkgpgaaGreatDoor
namespace Go.Proofs.YtjicdgejhkgpgaaGreatDoor
open Go.RowKit Go.En
theorem getR_cases (ns:List Note) (id:Int):∃(q:Note) (ok:Bool),getR ns id=.tuple #[.agg (noteC q).toArray,.bool ok]∧(ok=true→getF ns id=some q)∧(ok=false→getF ns id=none):=by
  unfold getR
  cases h:getF ns id with
  | none=>exact⟨zeroN,false,rfl,by simp,by simp⟩
  | some q=>exact⟨q,true,rfl,by simp,by simp⟩
attribute [local irreducible] E EL K Val Enters Rt Calls bodyPost Code.wp RQ
set_option maxRecDepth 8000 in
set_option maxHeartbeats 4000000 in
theorem placed_any (d:Dc) (n:Note) (t:Tier) (k:Nat) (v:Value) (w:World) (hv:DcAt w v d) (hk:n.tier=(k:Int)) (ht:d.tiers[k]?=some t) :
    Calls Tryz.prog 172 #[v,.agg (noteC n).toArray] w (Rt fun u w'=>(∃ e:Int,u=int e∧(e=0→PlacedOK d n t))∧Ext w w'):=by
  have hd0:=hv
  obtain⟨sv,tv,nv,rfl,hs,htv,hnv⟩:=hv
  refine calls_E (n:=117) (args:=[.agg #[int d.rid,str d.rname,int d.len,int d.day,sv,tv,nv],.agg (noteC n).toArray]) Tryz.func172 rfl Tryz.ntmps172 (by simp) ?_
  have htv0:=htv
  obtain⟨a,cap,rfl,hc,hm,hp⟩:=htv.sl
  have hklt:=(List.getElem?_eq_some_iff.1 ht).1
  obtain⟨b,off,rfl⟩:=hp (by omega)
  refine E_seq ?_
  refine E_region ?_
  refine EL_box Z Z Z Z (fun bD wD xD hbD rD0=>?_)
  refine EL_box Z Z Z Z (fun bN wN xN hbN rN0=>?_)
  have rD1:Row wN bD 72 [int d.rid,str d.rname,int d.len,int d.day,sv,.slice (some ⟨b,off,none⟩) d.tiers.length cap,nv]:=rD0.ext xN
  have rN1:Row wN bN 80 (noteC n):=rN0
  have hat1:=tier_elem (htv0.ext (xD.trans xN)) ht
  (repeat' (first|refine eV Z Z (val_load Z Z Z (rD1.cellAt rfl)) ?_|refine eV Z Z (val_load Z Z Z (rN1.cellAt rfl)) ?_|refine eV Z Z (val_indexAddr (m:=k) Z Z Z hk hklt) ?_|refine eV Z Z (val_loadA Z Z Z hat1 rfl) ?_|(refine at_EL ?_;first|refine eN ?_|refine eV Z Z (zB Z Z) ?_|refine eV Z Z (zH Z Z) ?_)|(refine at_K ?_;first|refine K_then ?_)|(refine at_E ?_;first|refine E_seq ?_|refine E_region ?_)))
  refine EL_alloc Z Z Z (fun bT wT xT hbT rT0=>?_)
  refine EL_storeP (cs:=tierC t) rT0 xT (by omega) Z Z Z Z Z Z Z Z (Nat.le_refl _) (fun w2 rT1 x2 k2=>?_)
  have rT2:Row w2 bT 88 (tierC t):=rT1
  have rD2:=rD1.ext x2
  have rN2:=rN1.ext x2
  have hx2:=xD.trans (xN.trans x2)
  clear rT0 rT1 rD0 rN0 rD1 rN1 k2
  (repeat' (first|refine eV Z Z (val_loadA Z Z Z rD2.at rfl) ?_|refine eV Z Z (val_load Z Z Z (rN2.cellAt rfl)) ?_|(refine at_EL ?_;first|refine eN ?_|refine eV Z Z (zH Z Z) ?_)|(refine at_K ?_;first|refine K_then ?_)|(refine at_E ?_;first|refine E_seq ?_|refine E_region ?_)))
  have cg:=get_any d _ n.parent w2 (hd0.ext hx2)
  obtain⟨q,ok,hq,hq1,hq2⟩:=getR_cases d.notes n.parent
  rw [hq] at cg
  (repeat' (first|(refine EL_call Z Z (entersF Z Z en52) cg (fun vC wC hC=>?_);obtain⟨rfl,xC⟩:=hC)|(refine at_EL ?_;first|refine eV Z Z (zA Z Z) ?_|refine eV Z Z (zF Z Z Z) ?_)))
  refine EL_alloc Z Z Z (fun bP wP xP hbP rP0=>?_)
  refine EL_storeP (cs:=noteC q) rP0 xP (by omega) Z Z Z Z Z Z Z Z (Nat.le_refl _) (fun w3 rP1 x3 k3=>?_)
  have rP:Row w3 bP 80 (noteC q):=rP1
  have rT:=rT2.ext (xC.trans x3)
  have rD:=rD2.ext (xC.trans x3)
  have rN:=rN2.ext (xC.trans x3)
  have hx:=hx2.trans (xC.trans x3)
  clear rP0 rP1 rT2 rD2 rN2 k3 cg hat1
  (repeat' ((fail_if_success (refine E_seq (x:=(Code.seq (Code.region 3 _ _) _)) ?_));first|(refine at_EL ?_;first|refine eN ?_|refine eV Z Z (zB Z Z) ?_)|(refine at_K ?_;first|refine K_then ?_)))
  have f0:=Ext.refl w3
  refine E_mid (ι:=Unit) (fun _=>[(2,.pointer (some ⟨bD,0,none⟩)),(3,.pointer (some ⟨bN,0,none⟩)),(5,.pointer (some ⟨bT,0,none⟩)),(6,.pointer (some ⟨bP,0,none⟩)),(7,.bool ok)]) (fun _ w4=>Ext w3 w4∧(t.kind=0→n.parent=0)∧(t.kind≠0→ok=true∧q.tier=t.parent)) ?_ ?_
  · cases ok
    all_goals
      (repeat' (first|refine eV Z Z (val_load Z Z Z (rT.cellAt rfl)) ?_|refine eV Z Z (val_load Z Z Z (rN.cellAt rfl)) ?_|refine eV Z Z (val_load Z Z Z (rP.cellAt rfl)) ?_|(refine at_EL ?_;first|refine eN ?_|refine eO Z Z ?_|refine eV Z Z (zA Z Z) ?_|refine eV Z Z (zB Z Z) ?_|(refine at_bin ?_;first|refine eD Z Z (zM Z Z Z) (fun hh=>?_) (fun hh=>?_)|refine eD Z Z (zQ Z Z Z) (fun hh=>?_) (fun hh=>?_))|refine eV Z Z (zC Z Z Z) ?_|refine eV Z Z (zD Z Z Z) ?_|refine eV Z Z (zE Z Z) ?_|refine eV Z Z (zH Z Z) ?_)|(refine at_K ?_;first|refine K_then ?_|refine K_then_ret ?_)|(refine at_E ?_;first|refine E_seq ?_|refine E_region ?_|refine E_cond_t Z ?_|refine E_cond_f Z ?_|refine E_skip ?_|refine E_ret ?_)))
      all_goals (first|(exfalso;omega)|exact ret_1 Z Z ⟨⟨_,rfl,fun h=>by omega⟩,hx⟩|exact K_mid () ⟨rfl,rfl,rfl,rfl,rfl,trivial⟩ ⟨Ext.refl _,by omega,fun h=>⟨rfl,by omega⟩⟩|exact K_mid () ⟨rfl,rfl,rfl,rfl,rfl,trivial⟩ ⟨Ext.refl _,by omega,fun h=>absurd ‹t.kind=0› h⟩|exact K_mid () ⟨rfl,rfl,rfl,rfl,rfl,trivial⟩ ⟨Ext.refl _,by omega,fun h=>absurd (Classical.not_not.1 ‹_›) h⟩)
  rintro⟨⟩ w4 ⟨xm,f1,f2⟩
  replace hx:=hx.trans xm
  replace rD:=rD.ext xm
  replace rN:=rN.ext xm
  replace rT:=rT.ext xm
  replace rP:=rP.ext xm
  obtain⟨bt,hbt⟩:∃ bt,bt=timedB t.kind:=⟨_,rfl⟩
  have ct:=aligned_any t.kind
  rw [← hbt] at ct
  obtain⟨br,hbr⟩:∃ br,br=rightB n.frm n.til:=⟨_,rfl⟩
  have cr:=rright_any n.frm n.til
  rw [← hbr] at cr
  obtain⟨bz,hbz⟩:∃ bz,bz=!(decide (n.frm=0)&&decide (n.til=0)):=⟨_,rfl⟩
  have hspan:At w4 bN (0+3) [int n.frm,int n.til]:=rN.at.seg 3 (n:=2)
  refine E_mid (ι:=Unit) (fun _=>[(2,.pointer (some ⟨bD,0,none⟩)),(3,.pointer (some ⟨bN,0,none⟩)),(5,.pointer (some ⟨bT,0,none⟩)),(6,.pointer (some ⟨bP,0,none⟩)),(7,.bool ok)]) (fun _ w5=>Ext w4 w5∧(bt=false→bz=false)∧(bt=true→br=true)) ?_ ?_
  · have xe:=Ext.refl w4
    cases bt <;> cases br <;> cases bz
    all_goals
      (repeat' (first|refine eV Z Z (val_load Z Z Z (rT.cellAt rfl)) ?_|refine eV Z Z (val_loadA Z Z Z hspan rfl) ?_|refine eV Z Z (val_build (vs:=[]) [int 0,int 0] rfl rfl rfl) ?_|refine eV Z Z (val_ne_two_b span_two rfl rfl rfl hbz) ?_|(refine EL_call Z Z (entersF Z Z en174) (ct _) (fun vC wC hC=>?_);obtain⟨rfl,xC⟩:=hC;replace xe:=xe.trans xC;replace hspan:=hspan.ext xC;replace rT:=rT.ext xC;replace rN:=rN.ext xC)|(refine EL_call Z Z (entersF Z Z en204) (cr _) (fun vC wC hC=>?_);obtain⟨rfl,xC⟩:=hC;replace xe:=xe.trans xC)|(refine at_EL ?_;first|refine eN ?_|refine eO Z Z ?_|refine eV Z Z (zA Z Z) ?_|refine eV Z Z (zB Z Z) ?_|refine eV Z Z (zC Z Z Z) ?_|refine eV Z Z (zD Z Z Z) ?_|refine eV Z Z (zE Z Z) ?_|refine eV Z Z (zH Z Z) ?_)|(refine at_K ?_;first|refine K_then ?_|refine K_then_ret ?_)|(refine at_E ?_;first|refine E_seq ?_|refine E_region ?_|refine E_cond_t Z ?_|refine E_cond_f Z ?_|refine E_skip ?_|refine E_ret ?_)))
      all_goals (first|exact ret_1 Z Z ⟨⟨_,rfl,fun h=>by omega⟩,hx.trans xe⟩|exact K_mid () ⟨rfl,rfl,rfl,rfl,rfl,trivial⟩ ⟨xe,by simp,by simp⟩)
  rintro⟨⟩ w5 ⟨xm,f3,f4⟩
  replace hx:=hx.trans xm
  replace rD:=rD.ext xm
  replace rN:=rN.ext xm
  replace rT:=rT.ext xm
  replace rP:=rP.ext xm
  refine E_mid (ι:=Unit) (fun _=>[(2,.pointer (some ⟨bD,0,none⟩)),(3,.pointer (some ⟨bN,0,none⟩)),(5,.pointer (some ⟨bT,0,none⟩)),(6,.pointer (some ⟨bP,0,none⟩)),(7,.bool ok)]) (fun _ w6=>Ext w5 w6∧(t.kind=0→n.til≤d.len)) ?_ ?_
  · (repeat' (first|refine eV Z Z (val_load Z Z Z (rT.cellAt rfl)) ?_|refine eV Z Z (val_load Z Z Z (rN.cellAt rfl)) ?_|refine eV Z Z (val_load Z Z Z (rD.cellAt rfl)) ?_|(refine at_EL ?_;first|refine eN ?_|refine eO Z Z ?_|refine eV Z Z (zA Z Z) ?_|refine eV Z Z (zB Z Z) ?_|(refine at_bin ?_;first|refine eD Z Z (zM Z Z Z) (fun hh=>?_) (fun hh=>?_)|refine eD Z Z (zO Z Z Z) (fun hh=>?_) (fun hh=>?_))|refine eV Z Z (zC Z Z Z) ?_|refine eV Z Z (zD Z Z Z) ?_|refine eV Z Z (zH Z Z) ?_)|(refine at_K ?_;first|refine K_then ?_|refine K_then_ret ?_)|(refine at_E ?_;first|refine E_seq ?_|refine E_region ?_|refine E_cond_t Z ?_|refine E_cond_f Z ?_|refine E_skip ?_|refine E_ret ?_)))
    all_goals (first|(exfalso;omega)|exact ret_1 Z Z ⟨⟨_,rfl,fun h=>by omega⟩,hx⟩|exact K_mid () ⟨rfl,rfl,rfl,rfl,rfl,trivial⟩ ⟨Ext.refl _,by omega⟩)
  rintro⟨⟩ w6 ⟨xm,f5⟩
  replace hx:=hx.trans xm
  replace rD:=rD.ext xm
  replace rN:=rN.ext xm
  replace rT:=rT.ext xm
  replace rP:=rP.ext xm
  refine E_mid (ι:=Unit) (fun _=>[(2,.pointer (some ⟨bD,0,none⟩)),(3,.pointer (some ⟨bN,0,none⟩)),(5,.pointer (some ⟨bT,0,none⟩)),(6,.pointer (some ⟨bP,0,none⟩)),(7,.bool ok)]) (fun _ w7=>Ext w6 w7∧(bt=true→t.kind≠0→q.frm≤n.frm∧n.til≤q.til)) ?_ ?_
  · cases bt
    all_goals
      (repeat' (first|refine eV Z Z (val_load Z Z Z (rT.cellAt rfl)) ?_|refine eV Z Z (val_load Z Z Z (rN.cellAt rfl)) ?_|refine eV Z Z (val_load Z Z Z (rP.cellAt rfl)) ?_|(refine EL_call Z Z (entersF Z Z en174) (ct _) (fun vC wC hC=>?_);obtain⟨rfl,xC⟩:=hC;replace rT:=rT.ext xC;replace rN:=rN.ext xC;replace rP:=rP.ext xC)|(refine at_EL ?_;first|refine eN ?_|refine eO Z Z ?_|refine eV Z Z (zA Z Z) ?_|refine eV Z Z (zB Z Z) ?_|(refine at_bin ?_;first|refine eD Z Z (zL Z Z Z) (fun hh=>?_) (fun hh=>?_)|refine eD Z Z (zO Z Z Z) (fun hh=>?_) (fun hh=>?_)|refine eD Z Z (zQ Z Z Z) (fun hh=>?_) (fun hh=>?_))|refine eV Z Z (zC Z Z Z) ?_|refine eV Z Z (zD Z Z Z) ?_|refine eV Z Z (zH Z Z) ?_)|(refine at_K ?_;first|refine K_then ?_|refine K_then_ret ?_)|(refine at_E ?_;first|refine E_seq ?_|refine E_region ?_|refine E_cond_t Z ?_|refine E_cond_f Z ?_|refine E_skip ?_|refine E_ret ?_)))
      all_goals (first|(exfalso;omega)|exact ret_1 Z Z ⟨⟨_,rfl,fun h=>by omega⟩,hx.trans xC⟩|exact K_mid () ⟨rfl,rfl,rfl,rfl,rfl,trivial⟩ ⟨xC,fun h=>Bool.noConfusion h⟩|exact K_mid () ⟨rfl,rfl,rfl,rfl,rfl,trivial⟩ ⟨xC,fun _ h=>by omega⟩|exact K_mid () ⟨rfl,rfl,rfl,rfl,rfl,trivial⟩ ⟨xC,fun _ h=>absurd (Classical.not_not.1 ‹_›) h⟩)
  rintro⟨⟩ w7 ⟨xm,f6⟩
  replace hx:=hx.trans xm
  replace rD:=rD.ext xm
  replace rN:=rN.ext xm
  replace rT:=rT.ext xm
  replace rP:=rP.ext xm
  (repeat' (first|refine eV Z Z (val_load Z Z Z (rT.cellAt rfl)) ?_|refine eV Z Z (val_load Z Z Z (rN.cellAt rfl)) ?_|(refine at_EL ?_;first|refine eN ?_|refine eO Z Z ?_|refine eV Z Z (zA Z Z) ?_|refine eV Z Z (zB Z Z) ?_|(refine at_bin ?_;first|refine eD Z Z (zL Z Z Z) (fun hh=>?_) (fun hh=>?_)|refine eD Z Z (zQ Z Z Z) (fun hh=>?_) (fun hh=>?_))|refine eV Z Z (zC Z Z Z) ?_|refine eV Z Z (zD Z Z Z) ?_|refine eV Z Z (zH Z Z) ?_)|(refine at_K ?_;first|refine K_then ?_|refine K_then_ret ?_)|(refine at_E ?_;first|refine E_seq ?_|refine E_region ?_|refine E_cond_t Z ?_|refine E_cond_f Z ?_|refine E_skip ?_|refine E_ret ?_)))
  all_goals (first|(exfalso;omega)|exact ret_1 Z Z ⟨⟨_,rfl,fun h=>by omega⟩,hx⟩|skip)
  all_goals
    refine ret_1 Z Z ⟨⟨_,rfl,fun _=>⟨f1,fun h=>⟨q,hq1 (f2 h).1,(f2 h).2⟩,fun h=>?_,fun h=>?_,f5,fun h p hp=>?_,by omega⟩⟩,hx⟩
    · have h1:=f3 (by rw [hbt];exact h)
      rw [h1] at hbz
      simpa using hbz.symm
    · rw [← hbr];exact f4 (by rw [hbt];exact h)
    · have h0:t.kind≠0:=by omega
      have h1:=hq1 (f2 h0).1
      rw [h1] at hp;cases hp
      exact f6 (by rw [hbt];exact timed_iff.2 (by omega)) h0
end Go.Proofs.YtjicdgejhkgpgaaGreatDoor
