/-
  Walks of align: Get, Aligned, Right, comparisons, in. Walks of align: Right of a span, cmp.Or, Contains, Has. Walks of align: the reference's Aligned and in. Walks of align: the reference's before. Walks of align: the reference's Chain. Walks of align: the program's Chain. Walks of align: Index, Contains, Has; the order of siblings. Walks of the law: the reference's Same, Has, Equal.
-/
import Derived.Test.YtnifmbbpfdghmaaGreatDoorY4
import Derived.Test.YtnifmbbpfdghmaaGreatDoorY5
import Derived.Test.YtnifmbbpfdghmaaGreatDoorY1
set_option linter.all false
namespace Go.Proofs.YtnifmbbpfdghmaaGreatDoor
open Go.RowKit Go.En
theorem int_elem {G:Nat→Prop} {w:World} {b off n cap:Nat} {xs:List Int} (h:SlG G w (.slice (some ⟨b,off,none⟩) n cap) xs) {i:Nat} {x:Int} (hx:xs[i]?=some x):w.cell? ⟨b,off+i*1,none⟩=some (int x):=by
  obtain⟨cs,h1,h2⟩:=h.elem hx
  rw [show cs=[int x] from h1] at h2
  exact h2.one
def cmpI (a b:Int):Int:=if a<b then -1 else if b<a then 1 else 0
attribute [local irreducible] E EL K Val Enters Rt Calls bodyPost Code.wp RQ
theorem aligned56_any (k:Int) (w:World):Calls Tryz.prog 132 #[int k] w (Rt fun u w'=>u=.bool (timedB k)∧Ext w w'):=by
  refine calls_E (n:=10) (args:=[int k]) Tryz.func132 rfl Tryz.ntmps132 (by simp) ?_
  (repeat' (first|(refine at_EL ?_;first|refine eN ?_|refine eV Z Z (zA Z Z) ?_|refine eV Z Z (zB Z Z) ?_|(refine at_bin ?_;first|refine eD Z Z (zM Z Z Z) (fun hh=>?_) (fun hh=>?_)))|(refine at_K ?_;first|refine K_then ?_|refine K_in ?_|refine K_then_ret ?_|refine K_then_exit ?_|refine K_in_ret ?_|refine K_in_exit ?_|refine K_in_exit' Z ?_)|(refine at_E ?_;first|refine E_seq ?_|refine E_region ?_|refine E_cond_t Z ?_|refine E_cond_f Z ?_|refine E_block ?_|refine E_skip ?_|refine E_ret ?_|refine E_exit ?_)))
  all_goals (first|(exfalso;omega)|skip)
  all_goals exact ret_1 Z Z ⟨by simp [timedB, *],Ext.refl _⟩
theorem ttAligned_any (d : Dc) (tv : Value) (k : Int) (w : World) (ht : Sl w tv d.tiers) : Calls Tryz.prog 103 #[tv, int k] w (Rt fun u w' => u = .bool (alignedB d k) ∧ Ext w w') := by
  refine calls_E (n:=21) (args:=[tv,int k]) Tryz.func103 rfl Tryz.ntmps103 (by simp) ?_
  have ht0:=ht
  obtain⟨a,cap,rfl,hc,hm,hp⟩:=ht.sl
  by_cases hk:0≤k∧k<d.tiers.length
  · obtain⟨j,rfl⟩:∃ j:Nat,k=(j:Int):=⟨k.toNat,by omega⟩
    obtain⟨b,off,rfl⟩:=hp (by omega)
    obtain⟨t,htt⟩:∃ t,d.tiers[j]?=some t:=⟨_,List.getElem?_eq_getElem (by omega)⟩
    have hat:=tier_elem ht0 htt
    rw [aligned_at htt]
    have ca:=aligned56_any t.kind
    (repeat' (first|refine eV Z Z (val_indexAddr (m:=j) Z Z Z Z (by omega)) ?_|refine eV Z Z (val_load Z Z Z (hat.cellAt (j:=1) Z)) ?_|(refine EL_call Z Z (entersF Z Z en132) (ca _) (fun vC wC hC=>?_);obtain⟨rfl,xC⟩:=hC)|(refine at_EL ?_;first|refine eN ?_|refine eO Z Z ?_|refine eV Z Z (zA Z Z) ?_|refine eV Z Z (zB Z Z) ?_|(refine at_bin ?_;first|refine eD Z Z (zL Z Z Z) (fun hh=>?_) (fun hh=>?_)|refine eD Z Z (zP Z Z Z) (fun hh=>?_) (fun hh=>?_))|(refine at_call ?_;first|refine eV Z Z (zK Z Z) ?_)|refine eV Z Z (zC Z Z Z) ?_|refine eV Z Z (zD Z Z Z) ?_|refine eV Z Z (zH Z Z) ?_)|(refine at_K ?_;first|refine K_then ?_)|(refine at_E ?_;first|refine E_seq ?_|refine E_region ?_|refine E_ret ?_)))
    all_goals (first|(exfalso;omega)|skip)
    exact ret_1 Z Z ⟨rfl,xC⟩
  · have hf:alignedB d k=false:=by
      unfold alignedB
      split
      · rename_i t h
        have:=(List.getElem?_eq_some_iff.1 h).1
        rw [decide_eq_false (by omega),Bool.false_and]
      · rfl
    rw [hf]
    (repeat' (first|(refine at_EL ?_;first|refine eN ?_|refine eO Z Z ?_|refine eV Z Z (zA Z Z) ?_|refine eV Z Z (zB Z Z) ?_|(refine at_bin ?_;first|refine eD Z Z (zL Z Z Z) (fun hh=>?_) (fun hh=>?_)|refine eD Z Z (zP Z Z Z) (fun hh=>?_) (fun hh=>?_))|(refine at_call ?_;first|refine eV Z Z (zK Z Z) ?_)|refine eV Z Z (zC Z Z Z) ?_|refine eV Z Z (zD Z Z Z) ?_)|(refine at_K ?_;first|refine K_then ?_)|(refine at_E ?_;first|refine E_seq ?_|refine E_region ?_|refine E_ret ?_)))
    all_goals (first|(exfalso;omega)|skip)
    all_goals exact ret_1 Z Z ⟨rfl,Ext.refl _⟩
theorem isNaN_any (a:Int) (w:World):Calls Tryz.prog 181 #[int a] w (Rt fun u w'=>u=.bool false∧Ext w w'):=by
  refine calls_E (n:=6) (args:=[int a]) Tryz.func181 rfl Tryz.ntmps181 (by simp) ?_
  (repeat' (first|(refine at_EL ?_;first|refine eN ?_|refine eV Z Z (zA Z Z) ?_|refine eV Z Z (zB Z Z) ?_|(refine at_bin ?_;first|refine eD Z Z (zQ Z Z Z) (fun hh=>?_) (fun hh=>?_)))|(refine at_K ?_;first|refine K_then ?_)|(refine at_E ?_;first|refine E_seq ?_|refine E_region ?_|refine E_ret ?_)))
  all_goals (first|(exact absurd rfl ‹_›)|skip)
  all_goals exact ret_1 Z Z ⟨rfl,Ext.refl _⟩
theorem compare_any (a b:Int) (w:World):Calls Tryz.prog 165 #[int a,int b] w (Rt fun u w'=>u=int (cmpI a b)∧Ext w w'):=by
  refine calls_E (n:=20) (args:=[int a,int b]) Tryz.func165 rfl Tryz.ntmps165 (by simp) ?_
  have hX:=Ext.refl w
  (repeat' (first|(refine EL_call Z Z (entersF Z Z en181) (isNaN_any _ _) (fun vC wC hC=>?_);obtain⟨rfl,xC⟩:=hC;replace hX:=hX.trans xC)|(refine at_EL ?_;first|refine eN ?_|refine eV Z Z (zA Z Z) ?_|refine eV Z Z (zB Z Z) ?_|(refine at_bin ?_;first|refine eD Z Z (zL Z Z Z) (fun hh=>?_) (fun hh=>?_)|refine eD Z Z (zO Z Z Z) (fun hh=>?_) (fun hh=>?_)))|(refine at_K ?_;first|refine K_then ?_|refine K_then_ret ?_)|(refine at_E ?_;first|refine E_seq ?_|refine E_region ?_|refine E_cond_t Z ?_|refine E_cond_f Z ?_|refine E_skip ?_|refine E_ret ?_)))
  all_goals exact ret_1 Z Z ⟨by unfold cmpI;congr 1;split <;>(try split) <;> omega,hX⟩
theorem tget_any (d : Dc) (v : Value) (id : Int) (w : World) (hv : DcAt w v d) : Calls Tryz.prog 82 #[v, int id] w (Rt fun u w' => u = getR d.notes id ∧ Ext w w') := by
  obtain⟨sv,tv,nv,rfl,_,_,hn⟩:=hv
  refine calls_E (n:=22) (args:=[.agg #[int d.rid,str d.rname,int d.len,int d.day,sv,tv,nv],int id]) Tryz.func82 rfl Tryz.ntmps82 (by simp) ?_
  have hn0:=hn
  obtain⟨a,cap,rfl,hc,hm,hp⟩:=hn.sl
  refine E_seq ?_
  refine E_region ?_
  refine EL_box Z Z Z Z (fun bB wB xB hbB rB0=>?_)
  refine EL_alloc Z Z Z (fun bA wA xA hbA rA0=>?_)
  have rB:=rB0.ext xA
  have x0:=xB.trans xA
  have hwB:w.heap.size≤bA:=by have:=xB.size;omega
  (repeat' (first|refine eV Z Z (val_load Z Z Z (rB.cellAt rfl)) ?_|(refine at_EL ?_;first|refine eN ?_|refine eV Z Z (zA Z Z) ?_|refine eV Z Z (zB Z Z) ?_|(refine at_call ?_;first|refine eV Z Z (zK Z Z) ?_)|refine eV Z Z (zH Z Z) ?_)|(refine at_K ?_;first|refine K_then ?_)|(refine at_E ?_;first|refine E_seq ?_|refine E_region ?_|refine E_block ?_)))
  refine E_loop (ι:=Nat) (fun i=>[(1,int id),(4,.pointer (some ⟨bA,0,none⟩)),(9,.slice a d.notes.length cap),(10,int d.notes.length),(11,int i)])
    (fun i wr=>i≤d.notes.length∧Ext wA wr∧∀ j,j<i→∀ q,d.notes[j]?=some q→decide (q.id=id)=false) (fun i=>d.notes.length-i) 0
    ⟨rfl,rfl,rfl,rfl,rfl,trivial⟩ ⟨Nat.zero_le _,Ext.refl _,fun j hj=>by omega⟩ ?_
  rintro i wr ⟨hi,hx,hall⟩
  by_cases hlt:i<d.notes.length
  · obtain⟨b,off,rfl⟩:=hp (by omega)
    obtain⟨q,hq⟩:∃ q,d.notes[i]?=some q:=⟨_,List.getElem?_eq_getElem hlt⟩
    have hat:=note_elem (hn0.ext (x0.trans hx)) hq
    (repeat' (first|refine eV Z Z (val_indexAddr (m:=i) Z Z Z Z hlt) ?_|refine eV Z Z (val_loadA Z Z Z hat rfl) ?_|(refine at_EL ?_;first|refine eN ?_|(refine at_bin ?_;first|refine eD Z Z (zL Z Z Z) (fun hh=>?_) (fun hh=>?_)))|(refine at_K ?_;first|refine K_then ?_|refine K_then_exit ?_|refine K_in_exit ?_)|(refine at_E ?_;first|refine E_seq ?_|refine E_region ?_|refine E_cond_t Z ?_|refine E_cond_f Z ?_|refine E_block ?_|refine E_skip ?_|refine E_exit ?_)))
    all_goals (first|(exfalso;omega)|skip)
    refine EL_alloc Z Z Z (fun b7 w7 x7 hb7 r7=>?_)
    refine EL_storeP (cs:=noteC q) r7 x7 (by omega) Z Z Z Z Z Z Z Z (Nat.le_refl _) (fun w8 r8' x8 k8=>?_)
    have r8:Row w8 b7 74 (noteC q):=r8'
    clear r8'
    (repeat' (first|refine eV Z Z (val_load Z Z Z (r8.cellAt rfl)) ?_|refine eV Z Z (val_loadA Z Z Z r8.at rfl) ?_|(refine at_EL ?_;first|refine eN ?_|refine eV Z Z (zA Z Z) ?_|(refine at_bin ?_;first|refine eD Z Z (zM Z Z Z) (fun hh=>?_) (fun hh=>?_)|refine eV Z Z (zU Z Z Z (by omega) (by omega)) ?_)|refine eV Z Z (zH Z Z) ?_)|(refine at_K ?_;first|refine K_then ?_|refine K_in ?_)|(refine at_E ?_;first|refine E_seq ?_|refine E_region ?_|refine E_cond_t Z ?_|refine E_cond_f Z ?_|refine E_skip ?_)))
    · refine EL_storeP (cs:=noteC q) (rA0.ext (hx.trans x8)) (x0.trans (hx.trans x8)) hwB rfl rfl rfl rfl rfl rfl rfl rfl (Nat.le_refl _) (fun w9 r9 x9 k9=>?_)
      (repeat' (first|(refine at_EL ?_;first|refine eN ?_|refine eV Z Z (zB Z Z) ?_)|(refine at_K ?_;first|refine K_then ?_|refine K_then_ret ?_|refine K_in_ret ?_)|(refine at_E ?_;first|refine E_ret ?_)))
      refine ret_ct Z Z Z r9.at rfl rfl ⟨?_,x9⟩
      unfold getR getF
      rw [find_here hall hq (by simpa using ‹q.id=id›)]
      rfl
    · exact K_rnd (i+1) ⟨rfl,rfl,rfl,rfl,rfl,trivial⟩ ⟨by omega,hx.trans x8,fun j hj q' hq'=>by
        by_cases hj2:j<i
        · exact hall j hj2 q' hq'
        · obtain rfl:j=i:=by omega
          rw [hq] at hq';cases hq'
          exact decide_eq_false ‹_›⟩ (by omega)
  · (repeat' (first|refine eV Z Z (val_build (vs:=[]) (noteC zeroN) Z Z Z) ?_|(refine at_EL ?_;first|refine eN ?_|(refine at_bin ?_;first|refine eD Z Z (zL Z Z Z) (fun hh=>?_) (fun hh=>?_)))|(refine at_K ?_;first|refine K_then ?_|refine K_then_exit ?_|refine K_in_exit ?_)|(refine at_E ?_;first|refine E_seq ?_|refine E_region ?_|refine E_cond_t Z ?_|refine E_cond_f Z ?_|refine E_block ?_|refine E_skip ?_|refine E_exit ?_)))
    all_goals (first|(exfalso;omega)|skip)
    refine EL_storeP (cs:=noteC zeroN) (rA0.ext hx) (x0.trans hx) hwB rfl rfl rfl rfl rfl rfl rfl rfl (Nat.le_refl _) (fun w9 r9 x9 k9=>?_)
    (repeat' (first|(refine at_EL ?_;first|refine eN ?_|refine eV Z Z (zB Z Z) ?_)|(refine at_K ?_;first|refine K_then ?_)|(refine at_E ?_;first|refine E_ret ?_)))
    refine ret_ct Z Z Z r9.at rfl rfl ⟨?_,x9⟩
    unfold getR getF
    rw [List.find?_eq_none.2 fun q hq=>?_]
    · rfl
    · obtain⟨j,hj⟩:=List.getElem?_of_mem hq
      have:=(List.getElem?_eq_some_iff.1 hj).1
      simpa using hall j (by omega) q hj
end Go.Proofs.YtnifmbbpfdghmaaGreatDoor
namespace Go.Proofs.YtnifmbbpfdghmaaGreatDoor
open Go.RowKit Go.En
def orI (l:List Int):Int:=(l.find? (fun x=>decide (x≠0))).getD 0
attribute [local irreducible] E EL K Val Enters Rt Calls bodyPost Code.wp RQ
theorem or_any (l : List Int) (v : Value) (w : World) (hv : Sl w v l) : Calls Tryz.prog 164 #[v] w (Rt fun u w' => u = int (orI l) ∧ Ext w w') := by
  refine calls_E (n:=18) (args:=[v]) Tryz.func164 rfl Tryz.ntmps164 (by simp) ?_
  have hv0:=hv
  obtain⟨a,cap,rfl,hc,hm,hp⟩:=hv.sl
  (repeat' (first|(refine at_EL ?_;first|refine eN ?_|refine eV Z Z (zA Z Z) ?_|refine eV Z Z (zB Z Z) ?_|(refine at_call ?_;first|refine eV Z Z (zK Z Z) ?_))|(refine at_K ?_;first|refine K_then ?_)|(refine at_E ?_;first|refine E_seq ?_|refine E_region ?_|refine E_block ?_)))
  refine E_loop (ι:=Nat) (fun i=>[(3,int 0),(6,.slice a l.length cap),(7,int l.length),(8,int i)])
    (fun i wr=>i≤l.length∧Ext w wr∧∀ j,j<i→∀ x,l[j]?=some x→decide (x≠0)=false) (fun i=>l.length-i) 0
    ⟨rfl,rfl,rfl,rfl,trivial⟩ ⟨Nat.zero_le _,Ext.refl _,fun j hj=>by omega⟩ ?_
  rintro i wr ⟨hi,hx,hall⟩
  by_cases hlt:i<l.length
  · obtain⟨b,off,rfl⟩:=hp (by omega)
    obtain⟨x,hxl⟩:∃ x,l[i]?=some x:=⟨_,List.getElem?_eq_getElem hlt⟩
    have hcx:=int_elem (hv0.ext hx) hxl
    (repeat' (first|refine eV Z Z (val_indexAddr (m:=i) Z Z Z Z hlt) ?_|refine eV Z Z (val_load Z Z Z hcx) ?_|(refine at_EL ?_;first|refine eN ?_|refine eV Z Z (zA Z Z) ?_|refine eV Z Z (zB Z Z) ?_|(refine at_bin ?_;first|refine eD Z Z (zL Z Z Z) (fun hh=>?_) (fun hh=>?_)|refine eD Z Z (zQ Z Z Z) (fun hh=>?_) (fun hh=>?_)|refine eV Z Z (zU Z Z Z (by omega) (by omega)) ?_))|(refine at_K ?_;first|refine K_then ?_|refine K_in ?_|refine K_then_ret ?_|refine K_then_exit ?_|refine K_in_ret ?_|refine K_in_exit ?_)|(refine at_E ?_;first|refine E_seq ?_|refine E_region ?_|refine E_cond_t Z ?_|refine E_cond_f Z ?_|refine E_block ?_|refine E_skip ?_|refine E_ret ?_|refine E_exit ?_)))
    all_goals (first|(exfalso;omega)|skip)
    · refine ret_1 Z Z ⟨?_,hx⟩
      unfold orI
      rw [find_here hall hxl (decide_eq_true ‹_›)]
      rfl
    · exact K_rnd (i+1) ⟨rfl,rfl,rfl,rfl,trivial⟩ ⟨by omega,hx,fun j hj y hy=>by
        by_cases hj2:j<i
        · exact hall j hj2 y hy
        · obtain rfl:j=i:=by omega
          rw [hxl] at hy;cases hy
          exact decide_eq_false (by omega)⟩ (by omega)
  · (repeat' (first|(refine at_EL ?_;first|refine eN ?_|refine eV Z Z (zA Z Z) ?_|refine eV Z Z (zB Z Z) ?_|(refine at_bin ?_;first|refine eD Z Z (zL Z Z Z) (fun hh=>?_) (fun hh=>?_)))|(refine at_K ?_;first|refine K_then ?_|refine K_then_exit ?_|refine K_in_exit ?_)|(refine at_E ?_;first|refine E_seq ?_|refine E_region ?_|refine E_cond_t Z ?_|refine E_cond_f Z ?_|refine E_block ?_|refine E_skip ?_|refine E_ret ?_|refine E_exit ?_)))
    all_goals (first|(exfalso;omega)|skip)
    refine ret_1 Z Z ⟨?_,hx⟩
    unfold orI
    rw [List.find?_eq_none.2 fun q hq=>?_]
    · rfl
    · obtain⟨j,hj⟩:=List.getElem?_of_mem hq
      have:=(List.getElem?_eq_some_iff.1 hj).1
      exact fun h=>Bool.noConfusion ((hall j (by omega) q hj).symm.trans h)
end Go.Proofs.YtnifmbbpfdghmaaGreatDoor
namespace Go.Proofs.YtnifmbbpfdghmaaGreatDoor
open Go.RowKit Go.En
attribute [local irreducible] E EL K Val Enters Rt Calls bodyPost Code.wp RQ
theorem refAligned_any (d : Dc) (tv : Value) (k : Int) (w : World) (ht : Sl w tv d.tiers) : Calls Tryz.prog 150 #[tv, int k] w (Rt fun u w' => u = .bool (alignedB d k) ∧ Ext w w') := by
  refine calls_E (n:=21) (args:=[tv,int k]) Tryz.func150 rfl Tryz.ntmps150 (by simp) ?_
  have ht0:=ht
  obtain⟨a,cap,rfl,hc,hm,hp⟩:=ht.sl
  by_cases hk:0≤k∧k<d.tiers.length
  · obtain⟨j,rfl⟩:∃ j:Nat,k=(j:Int):=⟨k.toNat,by omega⟩
    obtain⟨b,off,rfl⟩:=hp (by omega)
    obtain⟨t,htt⟩:∃ t,d.tiers[j]?=some t:=⟨_,List.getElem?_eq_getElem (by omega)⟩
    have hat:=tier_elem ht0 htt
    rw [aligned_at htt]
    have ca:=timed_any t.kind
    (repeat' (first|refine eV Z Z (val_indexAddr (m:=j) Z Z Z Z (by omega)) ?_|refine eV Z Z (val_load Z Z Z (hat.cellAt (j:=1) Z)) ?_|(refine EL_call Z Z (entersF Z Z en171) (ca _) (fun vC wC hC=>?_);obtain⟨rfl,xC⟩:=hC)|(refine at_EL ?_;first|refine eN ?_|refine eO Z Z ?_|refine eV Z Z (zA Z Z) ?_|refine eV Z Z (zB Z Z) ?_|(refine at_bin ?_;first|refine eD Z Z (zL Z Z Z) (fun hh=>?_) (fun hh=>?_)|refine eD Z Z (zP Z Z Z) (fun hh=>?_) (fun hh=>?_))|(refine at_call ?_;first|refine eV Z Z (zK Z Z) ?_)|refine eV Z Z (zC Z Z Z) ?_|refine eV Z Z (zD Z Z Z) ?_|refine eV Z Z (zH Z Z) ?_)|(refine at_K ?_;first|refine K_then ?_)|(refine at_E ?_;first|refine E_seq ?_|refine E_region ?_|refine E_ret ?_)))
    all_goals (first|(exfalso;omega)|skip)
    exact ret_1 Z Z ⟨rfl,xC⟩
  · have hf:alignedB d k=false:=by
      unfold alignedB
      split
      · rename_i t h
        have:=(List.getElem?_eq_some_iff.1 h).1
        rw [decide_eq_false (by omega),Bool.false_and]
      · rfl
    rw [hf]
    (repeat' (first|(refine at_EL ?_;first|refine eN ?_|refine eO Z Z ?_|refine eV Z Z (zA Z Z) ?_|refine eV Z Z (zB Z Z) ?_|(refine at_bin ?_;first|refine eD Z Z (zL Z Z Z) (fun hh=>?_) (fun hh=>?_)|refine eD Z Z (zP Z Z Z) (fun hh=>?_) (fun hh=>?_))|(refine at_call ?_;first|refine eV Z Z (zK Z Z) ?_)|refine eV Z Z (zC Z Z Z) ?_|refine eV Z Z (zD Z Z Z) ?_)|(refine at_K ?_;first|refine K_then ?_)|(refine at_E ?_;first|refine E_seq ?_|refine E_region ?_|refine E_ret ?_)))
    all_goals (first|(exfalso;omega)|skip)
    all_goals exact ret_1 Z Z ⟨rfl,Ext.refl _⟩
end Go.Proofs.YtnifmbbpfdghmaaGreatDoor
namespace Go.Proofs.YtnifmbbpfdghmaaGreatDoor
open Go.RowKit Go.En
theorem getR_val {ns:List Note} {id:Int} {p:Note} (h:getF ns id=some p):getR ns id=.tuple #[.agg (noteC p).toArray,.bool true]:=by
  unfold getR
  rw [h]
attribute [local irreducible] E EL K Val Enters Rt Calls bodyPost Code.wp RQ
set_option maxRecDepth 8000 in
set_option maxHeartbeats 4000000 in
theorem before_any {d:Dc} (h:LightD d) (v:Value):∀(k f:Nat) (t:Tier) (x y:Note) (w:World),DcAt w v d→d.tiers[k]?=some t→k<f→x∈d.notes→y∈d.notes→x.tier=(k:Int)→y.tier=(k:Int)→
    Calls Tryz.prog 149 #[v,.agg (noteC x).toArray,.agg (noteC y).toArray] w (Rt fun u w'=>u=.bool (befF d f x y)∧Ext w w'):=by
  intro k
  induction k using Nat.strongRecOn with
  | _ k ih=>
  intro f t x y w hv ht hf hx hy hxk hyk
  obtain⟨f,rfl⟩:∃ f',f=f'+1:=⟨f-1,by omega⟩
  have hd0:=hv
  obtain⟨sv,tv,nv,rfl,hs,htv,hnv⟩:=hv
  refine calls_E (n:=54) (args:=[.agg #[int d.rid,str d.rname,int d.len,int d.day,sv,tv,nv],.agg (noteC x).toArray,.agg (noteC y).toArray]) Tryz.func149 rfl Tryz.ntmps149 (by simp) ?_
  have htv0:=htv
  obtain⟨a,cap,rfl,hc,hm,hp⟩:=htv.sl
  have hklt:=(List.getElem?_eq_some_iff.1 ht).1
  obtain⟨b,off,rfl⟩:=hp (by omega)
  refine E_seq ?_
  refine E_region ?_
  refine EL_box Z Z Z Z (fun bD wD xD hbD rD0=>?_)
  refine EL_box Z Z Z Z (fun bX wX xX hbX rX0=>?_)
  refine EL_box Z Z Z Z (fun bY wY xY hbY rY0=>?_)
  have rD:Row wY bD 28 [int d.rid,str d.rname,int d.len,int d.day,sv,.slice (some ⟨b,off,none⟩) d.tiers.length cap,nv]:=rD0.ext (xX.trans xY)
  have rX:Row wY bX 74 (noteC x):=rX0.ext xY
  have rY:Row wY bY 74 (noteC y):=rY0
  have hX:=xD.trans (xX.trans xY)
  clear rD0 rX0 rY0
  by_cases hpp:x.parent=y.parent
  · have hat:=tier_elem (htv0.ext hX) ht
    have ca:=aligned_any t.kind
    obtain⟨bt,hbt⟩:∃ bt,bt=timedB t.kind:=⟨_,rfl⟩
    have hb:befF d (f+1) x y=if bt=true then decide (x.frm<y.frm) else decide (x.rank<y.rank):=by
      rw [hbt]
      show(if x.parent≠y.parent then _ else _)=_
      rw [if_neg (by omega),show x.tier.toNat=k by omega,ht]
    rw [hb]
    rw [← hbt] at ca
    cases bt
    all_goals
      (repeat' (first|refine eV Z Z (val_load Z Z Z (rX.cellAt rfl)) ?_|refine eV Z Z (val_load Z Z Z (rY.cellAt rfl)) ?_|refine eV Z Z (val_load Z Z Z (rD.cellAt rfl)) ?_|refine eV Z Z (val_indexAddr (m:=k) Z Z Z hxk hklt) ?_|refine eV Z Z (val_load Z Z Z (hat.cellAt (j:=1) Z)) ?_|(refine EL_call Z Z (entersF Z Z en144) (ca _) (fun vC wC hC=>?_);obtain⟨rfl,xC⟩:=hC;replace rX:=rX.ext xC;replace rY:=rY.ext xC;replace hX:=hX.trans xC)|(refine at_EL ?_;first|refine eN ?_|refine eV Z Z (zB Z Z) ?_|(refine at_bin ?_;first|refine eD Z Z (zL Z Z Z) (fun hh=>?_) (fun hh=>?_)|refine eD Z Z (zQ Z Z Z) (fun hh=>?_) (fun hh=>?_))|refine eV Z Z (zH Z Z) ?_)|(refine at_K ?_;first|refine K_then ?_|refine K_then_ret ?_)|(refine at_E ?_;first|refine E_seq ?_|refine E_region ?_|refine E_cond_t Z ?_|refine E_cond_f Z ?_|refine E_skip ?_|refine E_ret ?_)))
      all_goals (first|(exfalso;omega)|skip)
      all_goals exact ret_1 Z Z ⟨by simp;omega,hX⟩
  · have h0:t.kind≠0:=by
      intro h0
      obtain⟨px,_,_⟩:=note_at h hx hxk ht
      obtain⟨py,_,_⟩:=note_at h hy hyk ht
      exact hpp ((px.root h0).trans (py.root h0).symm)
    obtain⟨j,u,p,e1,e2,e3,e4,e5,e6,e7⟩:=parent_of h ht hx hxk h0
    obtain⟨j',u',q,g1,g2,g3,g4,g5,g6,g7⟩:=parent_of h ht hy hyk h0
    obtain rfl:j'=j:=by omega
    have hb:befF d (f+1) x y=befF d f p q:=by
      show(if x.parent≠y.parent then _ else _)=_
      rw [if_pos hpp,e4,g4]
    rw [hb]
    have cg1:=get_any d _ x.parent wY (hd0.ext hX)
    rw [getR_val e4] at cg1
    (repeat' (first|refine eV Z Z (val_loadA Z Z Z rD.at rfl) ?_|refine eV Z Z (val_load Z Z Z (rX.cellAt rfl)) ?_|refine eV Z Z (val_load Z Z Z (rY.cellAt rfl)) ?_|(refine at_EL ?_;first|refine eN ?_|refine eV Z Z (zB Z Z) ?_|(refine at_bin ?_;first|refine eD Z Z (zQ Z Z Z) (fun hh=>?_) (fun hh=>?_))|refine eV Z Z (zH Z Z) ?_)|(refine at_K ?_;first|refine K_then ?_)|(refine at_E ?_;first|refine E_seq ?_|refine E_region ?_|refine E_cond_t Z ?_|refine E_cond_f Z ?_|refine E_skip ?_)))
    all_goals (first|(exfalso;omega)|skip)
    (repeat' (first|(refine EL_call Z Z (entersF Z Z en59) cg1 (fun vC wC hC=>?_);obtain⟨rfl,xC⟩:=hC)|(refine at_EL ?_;first|refine eV Z Z (zA Z Z) ?_|refine eV Z Z (zF Z Z Z) ?_)))
    refine EL_alloc Z Z Z (fun bP wP xP hbP rP0=>?_)
    refine EL_storeP (cs:=noteC p) rP0 xP (by omega) Z Z Z Z Z Z Z Z (Nat.le_refl _) (fun w3 rP1 x3 k3=>?_)
    have rP:Row w3 bP 74 (noteC p):=rP1
    replace rD:=rD.ext (xC.trans x3)
    replace rY:=rY.ext (xC.trans x3)
    have hX3:=hX.trans (xC.trans x3)
    clear rP0 rP1 k3 cg1
    (repeat' (first|refine eV Z Z (val_loadA Z Z Z rD.at rfl) ?_|refine eV Z Z (val_load Z Z Z (rY.cellAt rfl)) ?_|(refine at_EL ?_;first|refine eN ?_|refine eV Z Z (zB Z Z) ?_|refine eV Z Z (zH Z Z) ?_)|(refine at_K ?_;first|refine K_then ?_)|(refine at_E ?_;first|refine E_seq ?_|refine E_region ?_)))
    have cg2:=get_any d _ y.parent w3 (hd0.ext hX3)
    rw [getR_val g4] at cg2
    (repeat' (first|(refine EL_call Z Z (entersF Z Z en59) cg2 (fun vC wC hC=>?_);obtain⟨rfl,xC2⟩:=hC)|(refine at_EL ?_;first|refine eV Z Z (zA Z Z) ?_|refine eV Z Z (zF Z Z Z) ?_)))
    refine EL_alloc Z Z Z (fun bQ wQ xQ hbQ rQ0=>?_)
    refine EL_storeP (cs:=noteC q) rQ0 xQ (by omega) Z Z Z Z Z Z Z Z (Nat.le_refl _) (fun w4 rQ1 x4 k4=>?_)
    have rQ:Row w4 bQ 74 (noteC q):=rQ1
    replace rD:=rD.ext (xC2.trans x4)
    replace rP:=rP.ext (xC2.trans x4)
    have hX4:=hX3.trans (xC2.trans x4)
    clear rQ0 rQ1 k4 cg2
    have cb:=ih j' e2 f u p q w4 (hd0.ext hX4) e3 (by omega) e5 g5 e7 g7
    (repeat' (first|refine eV Z Z (val_loadA Z Z Z rD.at rfl) ?_|refine eV Z Z (val_loadA Z Z Z rP.at rfl) ?_|refine eV Z Z (val_loadA Z Z Z rQ.at rfl) ?_|(refine EL_call Z Z (entersF Z Z en149) cb (fun vC wC hC=>?_);obtain⟨rfl,xC3⟩:=hC)|(refine at_EL ?_;first|refine eN ?_|refine eV Z Z (zB Z Z) ?_)|(refine at_K ?_;first|refine K_then ?_|refine K_then_ret ?_)|(refine at_E ?_;first|refine E_seq ?_|refine E_region ?_|refine E_ret ?_)))
    all_goals (first|(exfalso;omega)|skip)
    exact ret_1 Z Z ⟨rfl,hX4.trans xC3⟩
end Go.Proofs.YtnifmbbpfdghmaaGreatDoor
namespace Go.Proofs.YtnifmbbpfdghmaaGreatDoor
open Go.RowKit Go.En
def curN (ns:List Note) (id:Int):Note:=(getF ns id).getD zeroN
theorem getR_cur (ns:List Note) (id:Int):getR ns id=.tuple #[.agg (noteC (curN ns id)).toArray,.bool (getF ns id).isSome]:=by
  unfold getR curN
  cases getF ns id <;> rfl
attribute [local irreducible] E EL K Val Enters Rt Calls bodyPost Code.wp RQ
set_option maxRecDepth 8000 in
set_option maxHeartbeats 4000000 in
theorem refchain_any {d : Dc} (h : LightD d) (v : Value) (id : Int) (w : World) (hv : DcAt w v d) : Calls Tryz.prog 77 #[v, int id] w (Rt fun u w' => Ext w w' ∧ Sl w' u ((chainF d id).map (·.id))) := by
  have hd0:=hv
  have hT:=h.ntiers
  obtain⟨sv,tv,nv,rfl,hs,htv,hnv⟩:=hv
  refine calls_E (n:=38) (args:=[.agg #[int d.rid,str d.rname,int d.len,int d.day,sv,tv,nv],int id]) Tryz.func77 rfl Tryz.ntmps77 (by simp) ?_
  have htv0:=htv
  obtain⟨a,cap,rfl,hc,hm,hp⟩:=htv.sl
  refine E_seq ?_
  refine E_region ?_
  refine EL_box Z Z Z Z (fun bD wD xD hbD rD0=>?_)
  have rD1:Row wD bD 28 [int d.rid,str d.rname,int d.len,int d.day,sv,.slice a d.tiers.length cap,nv]:=rD0
  clear rD0
  have cg1:=get_any d _ id wD (hd0.ext xD)
  rw [getR_cur] at cg1
  (repeat' (first|refine eV Z Z (val_loadA Z Z Z rD1.at rfl) ?_|(refine at_EL ?_;first|refine eN ?_|refine eV Z Z (zA Z Z) ?_|refine eV Z Z (zB Z Z) ?_)|(refine at_K ?_;first|refine K_then ?_)|(refine at_E ?_;first|refine E_seq ?_|refine E_region ?_)))
  (repeat' (first|(refine EL_call Z Z (entersF Z Z en59) cg1 (fun vC wC hC=>?_);obtain⟨rfl,xC⟩:=hC)|(refine at_EL ?_;first|refine eV Z Z (zA Z Z) ?_|refine eV Z Z (zF Z Z Z) ?_)))
  refine EL_alloc Z Z Z (fun bP wP xP hbP rP0=>?_)
  refine EL_storeP (cs:=noteC (curN d.notes id)) rP0 xP (by omega) Z Z Z Z Z Z Z Z (Nat.le_refl _) (fun w3 rP1 x3 k3=>?_)
  have rP:Row w3 bP 74 (noteC (curN d.notes id)):=rP1
  have rD:=rD1.ext (xC.trans x3)
  have hX:=xD.trans (xC.trans x3)
  have hbP3:bP<w3.heap.size:=rP.lt
  clear rP0 rP1 k3 cg1
  (repeat' (first|(refine at_EL ?_;first|refine eN ?_|refine eV Z Z (zB Z Z) ?_)|(refine at_K ?_;first|refine K_then ?_)|(refine at_E ?_;first|refine E_seq ?_|refine E_region ?_|refine E_block ?_)))
  refine E_loop (ι:=Nat × Value × List Int × Int) (fun s=>[(2,.pointer (some ⟨bD,0,none⟩)),(5,s.2.1),(6,.pointer (some ⟨bP,0,none⟩)),(7,.bool (getF d.notes s.2.2.2).isSome),(8,int s.1)])
    (fun s wr=>s.1≤d.tiers.length+1∧Ext wC wr∧wr.ownsRow (bP+1) 3 1 s.2.1 s.2.2.1.length (s.2.2.1.map int)∧s.2.2.1.length=s.1∧Row wr bP 74 (noteC (curN d.notes s.2.2.2))∧s.2.2.1++(chainN d.notes (d.tiers.length+1-s.1) s.2.2.2).map (·.id)=(chainF d id).map (·.id)) (fun s=>d.tiers.length+1-s.1) (0,.slice none 0 0,[],id)
    ⟨rfl,rfl,rfl,rfl,rfl,trivial⟩ ⟨Nat.zero_le _,x3,World.ownsRow_nil _ _ _ _,rfl,rP,rfl⟩ ?_
  rintro⟨i,vO,acc,q⟩ wr ⟨hi,hx,hown,hal,rPr,hcat⟩
  dsimp only at hi hx hown hal rPr hcat ⊢
  have rDr:=(rD1.ext xC).ext hx
  have hret:∀ w',Ext wr w'→Sl w' vO acc:=fun w' xx=>own_Sl (css:=acc.map fun z=>[int z]) (by rw [ints_flat];exact own_ext hown xx) (ints_ats _ _) (by simp) (by omega)
  by_cases hlt:i≤d.tiers.length
  · cases hg:getF d.notes q with
    | none=>
      have he:acc=(chainF d id).map (·.id):=by
        rw [← hcat,show d.tiers.length+1-i=(d.tiers.length-i)+1 by omega]
        simp [chainN,hg]
      (repeat' (first|refine eV Z Z (val_load Z Z Z (rDr.cellAt rfl)) ?_|(refine at_EL ?_;first|refine eN ?_|refine eO Z Z ?_|refine eV Z Z (zA Z Z) ?_|refine eV Z Z (zB Z Z) ?_|(refine at_bin ?_;first|refine eD Z Z (zN Z Z Z) (fun hh=>?_) (fun hh=>?_))|(refine at_call ?_;first|refine eV Z Z (zK Z Z) ?_)|refine eV Z Z (zC Z Z Z) ?_|refine eV Z Z (zD Z Z Z) ?_|refine eV Z Z (zH Z Z) ?_)|(refine at_K ?_;first|refine K_then ?_|refine K_then_exit ?_|refine K_in_exit ?_)|(refine at_E ?_;first|refine E_seq ?_|refine E_region ?_|refine E_cond_f Z ?_|refine E_ret ?_|refine E_exit ?_)))
      all_goals (first|(exfalso;omega)|skip)
      all_goals exact ret_1 Z Z ⟨xD.trans (xC.trans hx),he▸hret wr (Ext.refl _)⟩
    | some p=>
      have hcp:curN d.notes q=p:=by unfold curN;rw [hg];rfl
      rw [hcp] at rPr
      have hlt0:∀ bb,vO.ownBlock=some bb→bP+1≤bb:=fun bb e=>(hown.lt bb e).1
      have hsz:bP<wr.heap.size:=rPr.lt
      (repeat' (first|refine eV Z Z (val_load Z Z Z (rDr.cellAt rfl)) ?_|refine eV Z Z (val_load Z Z Z (rPr.cellAt rfl)) ?_|(refine EL_append (news:=[int p.id]) Z Z Z Z (own_ext hown xS) Z rS.at rfl rfl rfl (by omega) (by omega) (by omega) (by have:=xS.size;omega) (fun vJ wJ oJ kJ=>?_))|(refine at_EL ?_;first|refine eN ?_|refine eO Z Z ?_|refine eV Z Z (zA Z Z) ?_|refine eV Z Z (zB Z Z) ?_|(refine at_bin ?_;first|refine eD Z Z (zN Z Z Z) (fun hh=>?_) (fun hh=>?_))|(refine at_call ?_;first|refine eV Z Z (zK Z Z) ?_)|refine eV Z Z (zC Z Z Z) ?_|refine eV Z Z (zD Z Z Z) ?_|refine eV Z Z (zH Z Z) ?_|refine eL Z Z Z Z Z Z Z Z (fun bS wS xS hbS rS=>?_))|(refine at_K ?_;first|refine K_then ?_|refine K_then_exit ?_|refine K_in_exit ?_)|(refine at_E ?_;first|refine E_seq ?_|refine E_region ?_|refine E_cond_t Z ?_|refine E_cond_f Z ?_|refine E_block ?_|refine E_skip ?_|refine E_ret ?_|refine E_exit ?_)))
      all_goals (first|(exfalso;omega)|skip)
      have rPJ:=kJ.row (rPr.ext xS) (fun e=>by have:=hlt0 _ e.symm;omega)
      have xJ:Ext wC wJ:=kJ.ext (hx.trans xS) (fun bb e=>by have:=hlt0 _ e;omega)
      have rDJ:=(rD1.ext xC).ext xJ
      (repeat' (first|refine eV Z Z (val_loadA Z Z Z rDJ.at rfl) ?_|refine eV Z Z (val_load Z Z Z (rPJ.cellAt rfl)) ?_|(refine at_EL ?_;first|refine eV Z Z (zH Z Z) ?_)))
      have cg2:=get_any d _ p.parent wJ (hd0.ext (xD.trans (xC.trans xJ)))
      rw [getR_cur] at cg2
      (repeat' (first|(refine EL_call Z Z (entersF Z Z en59) cg2 (fun vC wC2 hC=>?_);obtain⟨rfl,xC2⟩:=hC)|(refine at_EL ?_;first|refine eV Z Z (zA Z Z) ?_|refine eV Z Z (zF Z Z Z) ?_)))
      refine EL_storeP (cs:=noteC (curN d.notes p.parent)) (rPJ.ext xC2) (xJ.trans xC2) (by omega) Z Z Z Z Z Z Z Z (Nat.le_refl _) (fun w5 rP5 x5 k5=>?_)
      have rP5':Row w5 bP 74 (noteC (curN d.notes p.parent)):=rP5
      clear rP5
      have o5:=(own_ext oJ xC2).kept k5 (Or.inr fun e=>by have:=(oJ.lt bP e).1;omega)
      (repeat' (first|(refine at_EL ?_;first|refine eN ?_|refine eV Z Z (zA Z Z) ?_|refine eV Z Z (zB Z Z) ?_|(refine at_bin ?_;first|refine eV Z Z (zU Z Z Z (by omega) (by omega)) ?_))|(refine at_K ?_;first|refine K_then ?_|refine K_in ?_)|(refine at_E ?_;first|refine E_region ?_)))
      refine K_rnd (i+1,vJ,acc++[p.id],p.parent) ⟨rfl,rfl,rfl,rfl,rfl,trivial⟩ ⟨by dsimp only;omega,x5,by dsimp only;simpa using o5,by simp [hal],rP5',?_⟩ (by dsimp only;omega)
      dsimp only
      rw [← hcat,show d.tiers.length+1-i=(d.tiers.length-i)+1 by omega,show d.tiers.length+1-(i+1)=d.tiers.length-i by omega]
      simp [chainN,hg]
  · have he:acc=(chainF d id).map (·.id):=by
      rw [← hcat,show d.tiers.length+1-i=0 by omega]
      simp [chainN]
    (repeat' (first|refine eV Z Z (val_load Z Z Z (rDr.cellAt rfl)) ?_|(refine at_EL ?_;first|refine eN ?_|refine eO Z Z ?_|refine eV Z Z (zA Z Z) ?_|refine eV Z Z (zB Z Z) ?_|(refine at_bin ?_;first|refine eD Z Z (zN Z Z Z) (fun hh=>?_) (fun hh=>?_))|(refine at_call ?_;first|refine eV Z Z (zK Z Z) ?_)|refine eV Z Z (zC Z Z Z) ?_|refine eV Z Z (zD Z Z Z) ?_|refine eV Z Z (zH Z Z) ?_)|(refine at_K ?_;first|refine K_then ?_|refine K_then_exit ?_|refine K_in_exit ?_)|(refine at_E ?_;first|refine E_seq ?_|refine E_region ?_|refine E_cond_f Z ?_|refine E_ret ?_|refine E_exit ?_)))
    all_goals (first|(exfalso;omega)|skip)
    all_goals exact ret_1 Z Z ⟨xD.trans (xC.trans hx),he▸hret wr (Ext.refl _)⟩
end Go.Proofs.YtnifmbbpfdghmaaGreatDoor
namespace Go.Proofs.YtnifmbbpfdghmaaGreatDoor
open Go.RowKit Go.En
attribute [local irreducible] E EL K Val Enters Rt Calls bodyPost Code.wp RQ
set_option maxRecDepth 8000 in
set_option maxHeartbeats 4000000 in
theorem chain_any {d:Dc} (h:LightD d) (v:Value) (id:Int) (w:World) (hv:DcAt w v d):Calls Tryz.prog 75 #[v,int id] w (Rt fun u w'=>Ext w w'∧Sl w' u ((chainF d id).map (·.id))):=by
  have hd0:=hv
  have hT:=h.ntiers
  obtain⟨sv,tv,nv,rfl,hs,htv,hnv⟩:=hv
  refine calls_E (n:=29) (args:=[.agg #[int d.rid,str d.rname,int d.len,int d.day,sv,tv,nv],int id]) Tryz.func75 rfl Tryz.ntmps75 (by simp) ?_
  have htv0:=htv
  obtain⟨a,cap,rfl,hc,hm,hp⟩:=htv.sl
  refine E_seq ?_
  refine E_region ?_
  refine EL_box Z Z Z Z (fun bD wD xD hbD rD0=>?_)
  have rD1:Row wD bD 28 [int d.rid,str d.rname,int d.len,int d.day,sv,.slice a d.tiers.length cap,nv]:=rD0
  clear rD0
  have cg1:=tget_any d _ id wD (hd0.ext xD)
  rw [getR_cur] at cg1
  (repeat' (first|refine eV Z Z (val_loadA Z Z Z rD1.at rfl) ?_|(refine at_EL ?_;first|refine eN ?_|refine eV Z Z (zA Z Z) ?_|refine eV Z Z (zB Z Z) ?_)|(refine at_K ?_;first|refine K_then ?_)|(refine at_E ?_;first|refine E_seq ?_|refine E_region ?_)))
  (repeat' (first|(refine EL_call Z Z (entersF Z Z en82) cg1 (fun vC wC hC=>?_);obtain⟨rfl,xC⟩:=hC)|(refine at_EL ?_;first|refine eV Z Z (zA Z Z) ?_|refine eV Z Z (zF Z Z Z) ?_)))
  refine EL_alloc Z Z Z (fun bP wP xP hbP rP0=>?_)
  refine EL_storeP (cs:=noteC (curN d.notes id)) rP0 xP (by omega) Z Z Z Z Z Z Z Z (Nat.le_refl _) (fun w3 rP1 x3 k3=>?_)
  have rP:Row w3 bP 74 (noteC (curN d.notes id)):=rP1
  have rD:=rD1.ext (xC.trans x3)
  have hX:=xD.trans (xC.trans x3)
  have hbP3:bP<w3.heap.size:=rP.lt
  clear rP0 rP1 k3 cg1
  (repeat' (first|(refine at_EL ?_;first|refine eN ?_|refine eV Z Z (zB Z Z) ?_)|(refine at_K ?_;first|refine K_then ?_)|(refine at_E ?_;first|refine E_block ?_)))
  refine E_loop (ι:=Nat × Value × List Int × Int) (fun s=>[(2,.pointer (some ⟨bD,0,none⟩)),(5,s.2.1),(6,.pointer (some ⟨s.1,0,none⟩)),(7,.bool (getF d.notes s.2.2.2).isSome)])
    (fun s wr=>Ext wC wr∧wr.ownsRow wC.heap.size 3 1 s.2.1 s.2.2.1.length (s.2.2.1.map int)∧wC.heap.size≤s.1∧s.2.1.ownBlock≠some s.1∧Row wr s.1 74 (noteC (curN d.notes s.2.2.2))∧s.2.2.1++(chainF d s.2.2.2).map (·.id)=(chainF d id).map (·.id)) (fun s=>(chainF d s.2.2.2).length) (bP,.slice none 0 0,[],id)
    ⟨rfl,rfl,rfl,rfl,trivial⟩ ⟨x3,World.ownsRow_nil _ _ _ _,by dsimp only;omega,by simp [Value.ownBlock],rP,rfl⟩ ?_
  rintro⟨bR,vO,acc,q⟩ wr ⟨hx,hown,hbR,hne,rPr,hcat⟩
  dsimp only at hx hown hbR hne rPr hcat ⊢
  have rDr:=(rD1.ext xC).ext hx
  have hcl:(chainF d id).length≤7:=Nat.le_trans (chain_len _ _ _) (by omega)
  have hal:acc.length+(chainF d q).length≤7:=by
    have:=congrArg List.length hcat
    simp only [List.length_append,List.length_map] at this
    omega
  have hret:∀ w',Ext wr w'→Sl w' vO acc:=fun w' xx=>own_Sl (css:=acc.map fun z=>[int z]) (by rw [ints_flat];exact own_ext hown xx) (ints_ats _ _) (by simp) (by omega)
  cases hg:getF d.notes q with
  | none=>
    have he:acc=(chainF d id).map (·.id):=by
      rw [← hcat,chain_none hg]
      simp
    (repeat' (first|(refine at_EL ?_;first|refine eN ?_|refine eV Z Z (zA Z Z) ?_|refine eV Z Z (zB Z Z) ?_)|(refine at_K ?_;first|refine K_then ?_|refine K_then_exit ?_|refine K_in_exit ?_)|(refine at_E ?_;first|refine E_seq ?_|refine E_region ?_|refine E_cond_f Z ?_|refine E_ret ?_|refine E_exit ?_)))
    all_goals (first|(exfalso;omega)|skip)
    all_goals exact ret_1 Z Z ⟨xD.trans (xC.trans hx),he▸hret wr (Ext.refl _)⟩
  | some p=>
    obtain⟨hpm,hpi⟩:=get_some hg
    have hcc:=chain_cons h hpm
    rw [hpi] at hcc
    have hcp:curN d.notes q=p:=by unfold curN;rw [hg];rfl
    rw [hcp] at rPr
    rw [hcc] at hal hcat
    have hlt0:∀ bb,vO.ownBlock=some bb→wC.heap.size≤bb:=fun bb e=>(hown.lt bb e).1
    (repeat' (first|refine eV Z Z (val_load Z Z Z (rPr.cellAt rfl)) ?_|(refine EL_append (news:=[int p.id]) Z Z Z Z (own_ext hown xS) Z rS.at rfl rfl rfl (by omega) (by simp only [List.length_cons] at hal;omega) (by simp only [List.length_cons] at hal;omega) (by have:=xS.size;have:=hx.size;omega) (fun vJ wJ oJ kJ=>?_))|(refine at_EL ?_;first|refine eN ?_|refine eV Z Z (zA Z Z) ?_|refine eV Z Z (zB Z Z) ?_|refine eV Z Z (zH Z Z) ?_|refine eL Z Z Z Z Z Z Z Z (fun bS wS xS hbS rS=>?_))|(refine at_K ?_;first|refine K_then ?_|refine K_in ?_)|(refine at_E ?_;first|refine E_seq ?_|refine E_region ?_|refine E_cond_t Z ?_|refine E_block ?_|refine E_skip ?_)))
    all_goals (first|(exfalso;omega)|skip)
    have rPJ:=kJ.row (rPr.ext xS) (fun e=>hne e.symm)
    have xJ:Ext wC wJ:=kJ.ext (hx.trans xS) (fun bb e=>hlt0 bb e)
    (repeat' (first|refine eV Z Z (val_loadA Z Z Z rPJ.at rfl) ?_|(refine at_EL ?_;first|refine eN ?_)|(refine at_K ?_;first|refine K_then ?_)|(refine at_E ?_;first|refine E_region ?_)))
    refine EL_alloc Z Z Z (fun bQ wQ xQ hbQ rQ0=>?_)
    have hJs:=xJ.size
    refine EL_storeP (cs:=noteC p) rQ0 xQ (by omega) Z Z Z Z Z Z Z Z (Nat.le_refl _) (fun w4 rQ1 x4 k4=>?_)
    have rQ:Row w4 bQ 74 (noteC p):=rQ1
    clear rQ0 rQ1 k4
    have rD4:=(rD1.ext xC).ext (xJ.trans x4)
    (repeat' (first|refine eV Z Z (val_loadA Z Z Z rD4.at rfl) ?_|refine eV Z Z (val_load Z Z Z (rQ.cellAt rfl)) ?_|(refine at_EL ?_;first|refine eN ?_|refine eV Z Z (zH Z Z) ?_)|(refine at_K ?_;first|refine K_then ?_)|(refine at_E ?_;first|refine E_region ?_)))
    have cg2:=tget_any d _ p.parent w4 (hd0.ext (xD.trans (xC.trans (xJ.trans x4))))
    rw [getR_cur] at cg2
    (repeat' (first|(refine EL_call Z Z (entersF Z Z en82) cg2 (fun vC wC2 hC=>?_);obtain⟨rfl,xC2⟩:=hC)|(refine at_EL ?_;first|refine eV Z Z (zA Z Z) ?_|refine eV Z Z (zF Z Z Z) ?_)))
    have hneJ:vJ.ownBlock≠some bQ:=fun e=>by have:=(oJ.lt bQ e).2;omega
    refine EL_storeP (cs:=noteC (curN d.notes p.parent)) (rQ.ext xC2) (xJ.trans (x4.trans xC2)) (by omega) Z Z Z Z Z Z Z Z (Nat.le_refl _) (fun w5 rP5 x5 k5=>?_)
    have rP5':Row w5 bQ 74 (noteC (curN d.notes p.parent)):=rP5
    clear rP5
    have o5:=(own_ext oJ (x4.trans xC2)).kept k5 (Or.inr hneJ)
    (repeat' (first|(refine at_EL ?_;first|refine eN ?_|refine eV Z Z (zB Z Z) ?_)))
    refine K_rnd (bQ,vJ,acc++[p.id],p.parent) ⟨rfl,rfl,rfl,rfl,trivial⟩ ⟨x5,by dsimp only;simpa using o5,by dsimp only;omega,hneJ,rP5',?_⟩ (by dsimp only;rw [hcc];simp)
    dsimp only
    rw [← hcat]
    simp
end Go.Proofs.YtnifmbbpfdghmaaGreatDoor
namespace Go.Proofs.YtnifmbbpfdghmaaGreatDoor
open Go.RowKit Go.En
def ordI (a b:Note):Int:=orI [cmpI a.parent b.parent,cmpI a.frm b.frm,cmpI a.rank b.rank]
theorem ordI_neg (a b:Note):decide (ordI a b<0)=ordB a b:=by
  have go:∀ x y z:Int,orI [x,y,z]=if x≠0 then x else if y≠0 then y else z:=by
    intro x y z
    unfold orI
    by_cases hx:x=0
    · by_cases hy:y=0
      · by_cases hz:z=0 <;> simp [List.find?,hx,hy,hz]
      · simp [List.find?,hx,hy]
    · simp [List.find?,hx]
  unfold ordI ordB
  rw [go]
  unfold cmpI
  by_cases h1:a.parent<b.parent <;> by_cases h2:b.parent<a.parent <;> by_cases h3:a.frm<b.frm <;> by_cases h4:b.frm<a.frm <;> by_cases h5:a.rank<b.rank <;> by_cases h6:b.rank<a.rank <;> simp only [h1,h2,h3,h4,h5,h6,if_true,if_false] <;>(try omega) <;> simp <;> omega
attribute [local irreducible] E EL K Val Enters Rt Calls bodyPost Code.wp RQ
set_option maxRecDepth 8000 in
theorem order_any (x y:Note) (w:World):Calls Tryz.prog 134 #[.agg (noteC x).toArray,.agg (noteC y).toArray] w (Rt fun u w'=>u=int (ordI x y)∧Ext w w'):=by
  refine calls_E (n:=24) (args:=[.agg (noteC x).toArray,.agg (noteC y).toArray]) Tryz.func134 rfl Tryz.ntmps134 (by simp) ?_
  refine E_seq ?_
  refine E_region ?_
  refine EL_box Z Z Z Z (fun bX wX xX hbX rX0=>?_)
  refine EL_box Z Z Z Z (fun bY wY xY hbY rY0=>?_)
  have rX:Row wY bX 74 (noteC x):=rX0.ext xY
  have rY:Row wY bY 74 (noteC y):=rY0
  have hX:=xX.trans xY
  clear rX0 rY0
  (repeat' ((fail_if_success (refine E_seq (x:=(Code.region 1 _ _)) ?_));first|(refine at_EL ?_;first|refine eN ?_|refine eV Z Z (zB Z Z) ?_)|(refine at_K ?_;first|refine K_then ?_)))
  refine E_seq ?_
  refine E.sub (M:=[(2,.pointer (some ⟨bX,0,none⟩)),(3,.pointer (some ⟨bY,0,none⟩))]) ⟨rfl,rfl,trivial⟩ ?_
  refine E_dm 20 mixedOk (by kernel_rfl) Z ?_
  (repeat' (first|refine yV Z Z (fun wq _ xq=>val_load Z Z Z ((rX.ext xq).cellAt rfl)) ?_|refine yV Z Z (fun wq _ xq=>val_load Z Z Z ((rY.ext xq).cellAt rfl)) ?_|refine RQ_call Z Z (fun _ _ _=>entersF Z Z en165) (fun wq _=>compare_any _ _ wq) ?_|refine RQ_lit Z Z Z (fun _=>rfl) Z Z Z Z ?_|refine RQ_callV (fun δ=>#[δ 22]) Z Z (fun _ _ _=>entersF Z Z en164) (fun wq δ xq hs=>by obtain⟨bb,he,_,hr⟩:=hs 22 rfl _ rfl;rw [he];exact or_any [cmpI x.parent y.parent,cmpI x.frm y.frm,cmpI x.rank y.rank] _ wq (row_Sl (css:=[[int (cmpI x.parent y.parent)],[int (cmpI x.frm y.frm)],[int (cmpI x.rank y.rank)] ]) hr (ints_ats _ [cmpI x.parent y.parent,cmpI x.frm y.frm,cmpI x.rank y.rank]) (Nat.le_refl _) (by simp))) ?_|refine RQ_end (fun wq δ xq hR=>?_)|(refine at_EL ?_;first|refine eN ?_)|(refine at_K ?_;first|refine K_then ?_)|(refine at_E ?_;first|refine E_ret ?_)|(refine at_RQ ?_;first|refine yV Z Z (fun _ _ _=>zB Z Z) ?_|refine yV Z Z (fun _ _ _=>zH Z Z) ?_)))
  exact ret_1 Z Z ⟨rfl,hX.trans xq⟩
end Go.Proofs.YtnifmbbpfdghmaaGreatDoor
namespace Go.Proofs.YtnifmbbpfdghmaaGreatDoor
open Go.RowKit Go.En
theorem same_end {α:Type} {xs ys:List α} (hl:xs.length=ys.length) (h:∀ j,j<xs.length→xs[j]?=ys[j]?):xs=ys:=List.ext_getElem? fun j=>by
  by_cases hj:j<xs.length
  · exact h j hj
  · rw [List.getElem?_eq_none (by omega),List.getElem?_eq_none (by omega)]
theorem same_no {α:Type} {xs ys:List α} {i:Nat} {x y:α} (hx:xs[i]?=some x) (hy:ys[i]?=some y) (h:¬ x=y):¬ xs=ys:=fun e=>by
  subst e;rw [hx] at hy;cases hy;exact h rfl
theorem same_nx {α:Type} {xs ys:List α} {i:Nat} {x y:α} (hx:xs[i]?=some x) (hy:ys[i]?=some y) (h:x=y) (hall:∀ j,j<i→xs[j]?=ys[j]?):∀ j,j<i+1→xs[j]?=ys[j]?:=fun j hj=>by
  by_cases hj2:j<i
  · exact hall j hj2
  · obtain rfl:j=i:=by omega
    rw [hx,hy,h]
theorem txt_elem {G:Nat→Prop} {w:World} {b off n cap:Nat} {xs:List Txt} (h:SlG G w (.slice (some ⟨b,off,none⟩) n cap) xs) {i:Nat} {x:Txt} (hx:xs[i]?=some x):w.cell? ⟨b,off+i*1,none⟩=some (str x.l):=by
  obtain⟨cs,h1,h2⟩:=h.elem hx
  rw [show cs=[str x.l] from h1] at h2
  exact h2.one
theorem txt_ne {x y:Txt} (h:¬ x=y):¬ x.l=y.l:=fun e=>h (by cases x;cases y;simpa using e)
attribute [local irreducible] E EL K Val Enters Rt Calls bodyPost Code.wp RQ
theorem r1same_any (xs ys : List Int) (u v : Value) (w : World) (hu : Sl w u xs) (hv : Sl w v ys) : Calls Tryz.prog 20 #[u, v] w (Rt fun r w' => r = .bool (decide (xs = ys)) ∧ Ext w w') := by
  refine calls_E (n:=26) (args:=[u,v]) Tryz.func20 rfl Tryz.ntmps20 (by simp) ?_
  have hu0:=hu
  have hv0:=hv
  obtain⟨a,cap,rfl,hc,hm,hp⟩:=hu.sl
  obtain⟨a',cap',rfl,hc',hm',hp'⟩:=hv.sl
  by_cases hl:xs.length=ys.length
  · (repeat' (first|(refine at_EL ?_;first|refine eN ?_|refine eV Z Z (zA Z Z) ?_|refine eV Z Z (zB Z Z) ?_|(refine at_bin ?_;first|refine eD Z Z (zQ Z Z Z) (fun hh=>?_) (fun hh=>?_))|(refine at_call ?_;first|refine eV Z Z (zK Z Z) ?_))|(refine at_K ?_;first|refine K_then ?_|refine K_then_ret ?_)|(refine at_E ?_;first|refine E_seq ?_|refine E_region ?_|refine E_cond_t Z ?_|refine E_cond_f Z ?_|refine E_block ?_|refine E_skip ?_|refine E_ret ?_)))
    all_goals (first|(exfalso;omega)|skip)
    refine E_loop (ι:=Nat) (fun i=>[(0,.slice a xs.length cap),(1,.slice a' ys.length cap'),(12,int xs.length),(13,int i)])
      (fun i wr=>i≤xs.length∧Ext w wr∧∀ j,j<i→xs[j]?=ys[j]?) (fun i=>xs.length-i) 0
      ⟨rfl,rfl,rfl,rfl,trivial⟩ ⟨Nat.zero_le _,Ext.refl _,fun j hj=>by omega⟩ ?_
    rintro i wr ⟨hi,hx,hall⟩
    by_cases hlt:i<xs.length
    · obtain⟨b,off,rfl⟩:=hp (by omega)
      obtain⟨b',off',rfl⟩:=hp' (by omega)
      obtain⟨x,hxx⟩:∃ x,xs[i]?=some x:=⟨_,List.getElem?_eq_getElem hlt⟩
      obtain⟨y,hyy⟩:∃ y,ys[i]?=some y:=⟨_,List.getElem?_eq_getElem (by omega)⟩
      have hcx:=int_elem (hu0.ext hx) hxx
      have hcy:=int_elem (hv0.ext hx) hyy
      by_cases hxy:x=y
      · (repeat' (first|refine yV Z Z (fun _ _ _=>val_indexAddr (m:=i) Z Z Z Z (by omega)) ?_|refine yV Z Z (fun wq _ xq=>val_load Z Z Z (xq.cell hcx)) ?_|refine yV Z Z (fun wq _ xq=>val_load Z Z Z (xq.cell hcy)) ?_|(refine at_EL ?_;first|refine eN ?_|refine eV Z Z (zA Z Z) ?_|refine eV Z Z (zB Z Z) ?_|(refine at_bin ?_;first|refine eD Z Z (zL Z Z Z) (fun hh=>?_) (fun hh=>?_)|refine eV Z Z (zU Z Z Z (by omega) (by omega)) ?_))|(refine at_K ?_;first|refine K_then ?_|refine K_in ?_|refine K_then_ret ?_|refine K_then_exit ?_|refine K_in_ret ?_|refine K_in_exit ?_)|(refine at_E ?_;first|refine E_seq ?_|refine E_region ?_|refine E_cond_t Z ?_|refine E_cond_f Z ?_|refine E_block ?_|refine E_skip ?_|refine E_ret ?_|refine E_exit ?_|refine E_dq mixedOk (by kernel_rfl) Z ?_)|(refine at_RQ ?_;first|refine yN Z (fun wq xq=>?_)|refine yV Z Z (fun _ _ _=>zA Z Z) ?_|(refine at_binR ?_;first|refine yD Z Z (fun _ _ _=>zQ Z Z Z) (fun hh=>?_) (fun hh=>?_)))))
        all_goals (first|(exfalso;omega)|skip)
        all_goals exact K_rnd (i+1) ⟨rfl,rfl,rfl,rfl,trivial⟩ ⟨by omega,by first|exact hx.trans xq|exact hx,same_nx hxx hyy hxy hall⟩ (by omega)
      · (repeat' (first|refine yV Z Z (fun _ _ _=>val_indexAddr (m:=i) Z Z Z Z (by omega)) ?_|refine yV Z Z (fun wq _ xq=>val_load Z Z Z (xq.cell hcx)) ?_|refine yV Z Z (fun wq _ xq=>val_load Z Z Z (xq.cell hcy)) ?_|(refine at_EL ?_;first|refine eN ?_|refine eV Z Z (zA Z Z) ?_|refine eV Z Z (zB Z Z) ?_|(refine at_bin ?_;first|refine eD Z Z (zL Z Z Z) (fun hh=>?_) (fun hh=>?_)|refine eV Z Z (zU Z Z Z (by omega) (by omega)) ?_))|(refine at_K ?_;first|refine K_then ?_|refine K_in ?_|refine K_then_ret ?_|refine K_then_exit ?_|refine K_in_ret ?_|refine K_in_exit ?_)|(refine at_E ?_;first|refine E_seq ?_|refine E_region ?_|refine E_cond_t Z ?_|refine E_cond_f Z ?_|refine E_block ?_|refine E_skip ?_|refine E_ret ?_|refine E_exit ?_|refine E_dq mixedOk (by kernel_rfl) Z ?_)|(refine at_RQ ?_;first|refine yN Z (fun wq xq=>?_)|refine yV Z Z (fun _ _ _=>zA Z Z) ?_|(refine at_binR ?_;first|refine yD Z Z (fun _ _ _=>zQ Z Z Z) (fun hh=>?_) (fun hh=>?_)))))
        all_goals (first|(exfalso;omega)|skip)
        all_goals exact ret_1 Z Z ⟨by rw [decide_eq_false (same_no hxx hyy hxy)],by first|exact hx.trans xq|exact hx⟩
    · (repeat' (first|(refine at_EL ?_;first|refine eN ?_|refine eV Z Z (zA Z Z) ?_|refine eV Z Z (zB Z Z) ?_|(refine at_bin ?_;first|refine eD Z Z (zL Z Z Z) (fun hh=>?_) (fun hh=>?_)))|(refine at_K ?_;first|refine K_then ?_|refine K_then_exit ?_|refine K_in_exit ?_)|(refine at_E ?_;first|refine E_seq ?_|refine E_region ?_|refine E_cond_t Z ?_|refine E_cond_f Z ?_|refine E_block ?_|refine E_skip ?_|refine E_ret ?_|refine E_exit ?_)))
      all_goals (first|(exfalso;omega)|skip)
      exact ret_1 Z Z ⟨by rw [decide_eq_true (same_end hl fun j hj=>hall j (by omega))],hx⟩
  · (repeat' (first|(refine at_EL ?_;first|refine eN ?_|refine eV Z Z (zA Z Z) ?_|refine eV Z Z (zB Z Z) ?_|(refine at_bin ?_;first|refine eD Z Z (zQ Z Z Z) (fun hh=>?_) (fun hh=>?_))|(refine at_call ?_;first|refine eV Z Z (zK Z Z) ?_))|(refine at_K ?_;first|refine K_then ?_|refine K_then_ret ?_)|(refine at_E ?_;first|refine E_seq ?_|refine E_region ?_|refine E_cond_t Z ?_|refine E_cond_f Z ?_|refine E_block ?_|refine E_skip ?_|refine E_ret ?_)))
    all_goals (first|(exfalso;omega)|skip)
    exact ret_1 Z Z ⟨by rw [decide_eq_false (fun e=>hl (by rw [e]))],Ext.refl _⟩
theorem r1has_any (l : List Int) (x : Int) (v : Value) (w : World) (hv : Sl w v l) : Calls Tryz.prog 33 #[v, int x] w (Rt fun u w' => u = .bool (decide (x ∈ l)) ∧ Ext w w') := by
  refine calls_E (n:=18) (args:=[v,int x]) Tryz.func33 rfl Tryz.ntmps33 (by simp) ?_
  have hv0:=hv
  obtain⟨a,cap,rfl,hc,hm,hp⟩:=hv.sl
  (repeat' (first|(refine at_EL ?_;first|refine eN ?_|refine eV Z Z (zA Z Z) ?_|refine eV Z Z (zB Z Z) ?_|(refine at_call ?_;first|refine eV Z Z (zK Z Z) ?_))|(refine at_K ?_;first|refine K_then ?_)|(refine at_E ?_;first|refine E_seq ?_|refine E_region ?_|refine E_block ?_)))
  refine E_loop (ι:=Nat) (fun i=>[(0,.slice a l.length cap),(1,int x),(7,int l.length),(8,int i)])
    (fun i wr=>i≤l.length∧Ext w wr∧∀ j,j<i→∀ y,l[j]?=some y→y≠x) (fun i=>l.length-i) 0
    ⟨rfl,rfl,rfl,rfl,trivial⟩ ⟨Nat.zero_le _,Ext.refl _,fun j hj=>by omega⟩ ?_
  rintro i wr ⟨hi,hx,hall⟩
  by_cases hlt:i<l.length
  · obtain⟨b,off,rfl⟩:=hp (by omega)
    obtain⟨y,hyl⟩:∃ y,l[i]?=some y:=⟨_,List.getElem?_eq_getElem hlt⟩
    have hcx:=int_elem (hv0.ext hx) hyl
    (repeat' (first|refine eV Z Z (val_indexAddr (m:=i) Z Z Z Z hlt) ?_|refine eV Z Z (val_load Z Z Z hcx) ?_|(refine at_EL ?_;first|refine eN ?_|refine eV Z Z (zA Z Z) ?_|refine eV Z Z (zB Z Z) ?_|(refine at_bin ?_;first|refine eD Z Z (zL Z Z Z) (fun hh=>?_) (fun hh=>?_)|refine eD Z Z (zM Z Z Z) (fun hh=>?_) (fun hh=>?_)|refine eV Z Z (zU Z Z Z (by omega) (by omega)) ?_))|(refine at_K ?_;first|refine K_then ?_|refine K_in ?_|refine K_then_ret ?_|refine K_then_exit ?_|refine K_in_ret ?_|refine K_in_exit ?_)|(refine at_E ?_;first|refine E_seq ?_|refine E_region ?_|refine E_cond_t Z ?_|refine E_cond_f Z ?_|refine E_block ?_|refine E_skip ?_|refine E_ret ?_|refine E_exit ?_)))
    all_goals (first|(exfalso;omega)|skip)
    · refine ret_1 Z Z ⟨?_,hx⟩
      have he:y=x:=‹_›
      rw [decide_eq_true (he▸List.mem_of_getElem? hyl)]
    · exact K_rnd (i+1) ⟨rfl,rfl,rfl,rfl,trivial⟩ ⟨by omega,hx,fun j hj z hz=>by
        by_cases hj2:j<i
        · exact hall j hj2 z hz
        · obtain rfl:j=i:=by omega
          rw [hyl] at hz;cases hz
          exact fun e=>by omega⟩ (by omega)
  · (repeat' (first|(refine at_EL ?_;first|refine eN ?_|refine eV Z Z (zA Z Z) ?_|refine eV Z Z (zB Z Z) ?_|(refine at_bin ?_;first|refine eD Z Z (zL Z Z Z) (fun hh=>?_) (fun hh=>?_)))|(refine at_K ?_;first|refine K_then ?_|refine K_then_exit ?_|refine K_in_exit ?_)|(refine at_E ?_;first|refine E_seq ?_|refine E_region ?_|refine E_cond_t Z ?_|refine E_cond_f Z ?_|refine E_block ?_|refine E_skip ?_|refine E_ret ?_|refine E_exit ?_)))
    all_goals (first|(exfalso;omega)|skip)
    refine ret_1 Z Z ⟨?_,hx⟩
    rw [decide_eq_false fun hq=>?_]
    obtain⟨j,hj⟩:=List.getElem?_of_mem hq
    have:=(List.getElem?_eq_some_iff.1 hj).1
    exact hall j (by omega) x hj rfl
end Go.Proofs.YtnifmbbpfdghmaaGreatDoor
