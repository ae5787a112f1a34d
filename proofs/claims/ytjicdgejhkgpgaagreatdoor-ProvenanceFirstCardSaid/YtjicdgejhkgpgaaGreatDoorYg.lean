/-
  Walks: the small functions under the reference's Light (names, kinds, spans, texts). Walks: the reference's Text, Get, siblings, overlap, spans, ranked. Walks of align: Get, Aligned, Right, comparisons, in. Walks of align: Right of a span, cmp.Or, Contains, Has. Walks of align: the reference's Aligned and in. Walks of align: the reference's before.
-/
import Derived.Test.YtjicdgejhkgpgaaGreatDoorYd
import Derived.Test.YtjicdgejhkgpgaaGreatDoorYe
import Derived.Test.YtjicdgejhkgpgaaGreatDoorYf
set_option linter.all false
namespace Go.Proofs.YtjicdgejhkgpgaaGreatDoor
open Go.RowKit Go.En
def kindF (r:Int):Int:=if r=1 then 0 else if r=3 then 3 else if r=4∨r=5 then 4 else -1
def overF (r:Int):Int:=if r=2∨r=5 then 1 else if r=3 then 2 else if r=4 then 3 else -1
theorem span_two:TwoInts Tryz.prog 76 3:=⟨by kernel_rfl,by kernel_rfl,by kernel_rfl,by kernel_rfl,Tryz.underlying3⟩
attribute [local irreducible] E EL K Val Enters Rt Calls bodyPost Code.wp RQ
theorem timed_any (k:Int) (w:World):Calls Tryz.prog 142 #[int k] w (Rt fun u w'=>u=.bool (timedB k)∧Ext w w'):=by
  refine calls_E (n:=13) (args:=[int k]) Tryz.func142 rfl Tryz.ntmps142 (by simp) ?_
  (repeat' (first|(refine at_EL ?_;first|refine eN ?_|refine eO Z Z ?_|refine eV Z Z (zA Z Z) ?_|refine eV Z Z (zB Z Z) ?_|(refine at_bin ?_;first|refine eD Z Z (zM Z Z Z) (fun hh=>?_) (fun hh=>?_))|refine eV Z Z (zC Z Z Z) ?_|refine eV Z Z (zD Z Z Z) ?_)|(refine at_K ?_;first|refine K_then ?_)|(refine at_E ?_;first|refine E_seq ?_|refine E_region ?_|refine E_ret ?_)))
  all_goals (first|(exfalso;omega)|skip)
  all_goals exact ret_1 Z Z ⟨by simp [timedB, *],Ext.refl _⟩
theorem aligned_any (k:Int) (w:World):Calls Tryz.prog 174 #[int k] w (Rt fun u w'=>u=.bool (timedB k)∧Ext w w'):=by
  refine calls_E (n:=13) (args:=[int k]) Tryz.func174 rfl Tryz.ntmps174 (by simp) ?_
  (repeat' (first|(refine at_EL ?_;first|refine eN ?_|refine eO Z Z ?_|refine eV Z Z (zA Z Z) ?_|refine eV Z Z (zB Z Z) ?_|(refine at_bin ?_;first|refine eD Z Z (zM Z Z Z) (fun hh=>?_) (fun hh=>?_))|refine eV Z Z (zC Z Z Z) ?_|refine eV Z Z (zD Z Z Z) ?_)|(refine at_K ?_;first|refine K_then ?_)|(refine at_E ?_;first|refine E_seq ?_|refine E_region ?_|refine E_ret ?_)))
  all_goals (first|(exfalso;omega)|skip)
  all_goals exact ret_1 Z Z ⟨by simp [timedB, *],Ext.refl _⟩
theorem kind_any (k:Int) (w:World):Calls Tryz.prog 202 #[int k] w (Rt fun u w'=>u=int (kindF k)∧Ext w w'):=by
  refine calls_E (n:=11) (args:=[int k]) Tryz.func202 rfl Tryz.ntmps202 (by simp) ?_
  (repeat' (first|(refine at_EL ?_;first|refine eN ?_|refine eV Z Z (zA Z Z) ?_|refine eV Z Z (zB Z Z) ?_|(refine at_bin ?_;first|refine eD Z Z (zM Z Z Z) (fun hh=>?_) (fun hh=>?_)))|(refine at_K ?_;first|refine K_then ?_|refine K_in ?_|refine K_then_ret ?_|refine K_in_ret ?_)|(refine at_E ?_;first|refine E_seq ?_|refine E_region ?_|refine E_cond_t Z ?_|refine E_cond_f Z ?_|refine E_block ?_|refine E_skip ?_|refine E_ret ?_)))
  all_goals (first|(exfalso;omega)|skip)
  all_goals exact ret_1 Z Z ⟨by simp [kindF, *],Ext.refl _⟩
theorem over_any (k:Int) (w:World):Calls Tryz.prog 203 #[int k] w (Rt fun u w'=>u=int (overF k)∧Ext w w'):=by
  refine calls_E (n:=11) (args:=[int k]) Tryz.func203 rfl Tryz.ntmps203 (by simp) ?_
  (repeat' (first|(refine at_EL ?_;first|refine eN ?_|refine eV Z Z (zA Z Z) ?_|refine eV Z Z (zB Z Z) ?_|(refine at_bin ?_;first|refine eD Z Z (zM Z Z Z) (fun hh=>?_) (fun hh=>?_)))|(refine at_K ?_;first|refine K_then ?_|refine K_in ?_|refine K_then_ret ?_|refine K_in_ret ?_)|(refine at_E ?_;first|refine E_seq ?_|refine E_region ?_|refine E_cond_t Z ?_|refine E_cond_f Z ?_|refine E_block ?_|refine E_skip ?_|refine E_ret ?_)))
  all_goals (first|(exfalso;omega)|skip)
  all_goals exact ret_1 Z Z ⟨by simp [overF, *],Ext.refl _⟩
theorem rright_any (a b:Int) (w:World):Calls Tryz.prog 204 #[.agg #[int a,int b]] w (Rt fun u w'=>u=.bool (rightB a b)∧Ext w w'):=by
  refine calls_E (n:=18) (args:=[.agg #[int a,int b]]) Tryz.func204 rfl Tryz.ntmps204 (by simp) ?_
  refine E_seq ?_
  refine E_region ?_
  refine EL_box Z Z Z Z (fun bB wB xB hbB rB=>?_)
  (repeat' (first|refine eV Z Z (val_load Z Z Z (rB.cellAt rfl)) ?_|(refine at_EL ?_;first|refine eN ?_|refine eO Z Z ?_|refine eV Z Z (zA Z Z) ?_|refine eV Z Z (zB Z Z) ?_|(refine at_bin ?_;first|refine eD Z Z (zL Z Z Z) (fun hh=>?_) (fun hh=>?_)|refine eD Z Z (zN Z Z Z) (fun hh=>?_) (fun hh=>?_)|refine eD Z Z (zP Z Z Z) (fun hh=>?_) (fun hh=>?_))|refine eV Z Z (zC Z Z Z) ?_|refine eV Z Z (zD Z Z Z) ?_|refine eV Z Z (zH Z Z) ?_)|(refine at_K ?_;first|refine K_then ?_)|(refine at_E ?_;first|refine E_seq ?_|refine E_region ?_|refine E_ret ?_)))
  all_goals (first|(exfalso;omega)|skip)
  all_goals exact ret_1 Z Z ⟨by unfold rightB;congr 1;simp;omega,xB⟩
theorem rname_any (s:List UInt8) (w:World) (hl:s.length≤9223372036854775807):Calls Tryz.prog 147 #[str s] w (Rt fun u w'=>(∃ b,u=.bool b)∧Ext w w'):=by
  refine calls_E (n:=59) (args:=[str s]) Tryz.func147 rfl Tryz.ntmps147 (by simp) ?_
  (repeat' (first|(refine at_EL ?_;first|refine eN ?_|refine eV Z Z (zB Z Z) ?_)|(refine at_K ?_;first|refine K_then ?_)|(refine at_E ?_;first|refine E_seq ?_|refine E_region ?_|refine E_block ?_)))
  refine E_loop (ι:=Nat) (fun i=>[(0,str s),(3,int i)]) (fun i wr=>i≤s.length∧Ext w wr) (fun i=>s.length-i) 0
    ⟨rfl,rfl,trivial⟩ ⟨Nat.zero_le _,Ext.refl _⟩ ?_
  rintro i wr ⟨hi,hx⟩
  by_cases hlt:i<s.length
  · obtain⟨c,hc⟩:∃ c,s[i]?=some c:=⟨_,List.getElem?_eq_getElem hlt⟩
    (repeat' (first|refine eV Z Z (val_index_str (m:=i) Z Z Z Z hc) ?_|(refine at_EL ?_;first|refine eN ?_|refine eO Z Z ?_|refine eV Z Z (zA Z Z) ?_|refine eV Z Z (zB Z Z) ?_|(refine at_bin ?_;first|refine eD Z Z (zL Z Z Z) (fun hh=>?_) (fun hh=>?_)|refine eD Z Z (zM Z Z Z) (fun hh=>?_) (fun hh=>?_)|refine eD Z Z (zN Z Z Z) (fun hh=>?_) (fun hh=>?_)|refine eD Z Z (zO Z Z Z) (fun hh=>?_) (fun hh=>?_)|refine eD Z Z (zP Z Z Z) (fun hh=>?_) (fun hh=>?_)|refine eD Z Z (zQ Z Z Z) (fun hh=>?_) (fun hh=>?_)|refine eV Z Z (zU Z Z Z (by omega) (by omega)) ?_)|(refine at_call ?_;first|refine eV Z Z (zJ Z Z) ?_)|refine eV Z Z (zC Z Z Z) ?_|refine eV Z Z (zD Z Z Z) ?_|refine eV Z Z (zE Z Z) ?_)|(refine at_K ?_;first|refine K_then ?_|refine K_in ?_|refine K_then_ret ?_|refine K_then_exit ?_|refine K_in_ret ?_|refine K_in_exit ?_)|(refine at_E ?_;first|refine E_seq ?_|refine E_region ?_|refine E_cond_t Z ?_|refine E_cond_f Z ?_|refine E_block ?_|refine E_skip ?_|refine E_ret ?_|refine E_exit ?_)))
    all_goals (first|(exfalso;omega)|skip)
    all_goals (first|exact K_rnd (i+1) ⟨rfl,rfl,trivial⟩ ⟨by omega,hx⟩ (by omega)|exact ret_1 Z Z ⟨⟨_,rfl⟩,hx⟩)
  · (repeat' (first|(refine at_EL ?_;first|refine eN ?_|refine eO Z Z ?_|refine eV Z Z (zA Z Z) ?_|refine eV Z Z (zB Z Z) ?_|(refine at_bin ?_;first|refine eD Z Z (zL Z Z Z) (fun hh=>?_) (fun hh=>?_)|refine eD Z Z (zN Z Z Z) (fun hh=>?_) (fun hh=>?_)|refine eD Z Z (zP Z Z Z) (fun hh=>?_) (fun hh=>?_))|(refine at_call ?_;first|refine eV Z Z (zJ Z Z) ?_)|refine eV Z Z (zC Z Z Z) ?_|refine eV Z Z (zD Z Z Z) ?_)|(refine at_K ?_;first|refine K_then ?_|refine K_then_exit ?_|refine K_in_exit ?_)|(refine at_E ?_;first|refine E_seq ?_|refine E_region ?_|refine E_cond_t Z ?_|refine E_cond_f Z ?_|refine E_block ?_|refine E_skip ?_|refine E_ret ?_|refine E_exit ?_)))
    all_goals (first|(exfalso;omega)|skip)
    all_goals exact ret_1 Z Z ⟨⟨_,rfl⟩,hx⟩
end Go.Proofs.YtjicdgejhkgpgaaGreatDoor
namespace Go.Proofs.YtjicdgejhkgpgaaGreatDoor
open Go.RowKit Go.En
attribute [local irreducible] E EL K Val Enters Rt Calls bodyPost Code.wp RQ
theorem text_any (s : List UInt8) (w : World) : Calls Tryz.prog 97 #[str s] w (Rt fun u w' => (∃ e : Int, u = int e ∧ (e = 0 → TextOK s)) ∧ Ext w w') := by
  refine calls_E (n:=34) (args:=[str s]) Tryz.func97 rfl Tryz.ntmps97 (by simp) ?_
  by_cases h200:s.length≤200
  · have hf:=rPoints_any s (by omega) w
    cases hp:points s with
    | none=>
      rw [hp] at hf
      (repeat' (first|(refine EL_call Z Z (entersF Z Z en130) hf (fun vC wC hC=>?_);obtain⟨xC,hv⟩:=hC;obtain rfl:=hv)|(refine at_EL ?_;first|refine eN ?_|refine eV Z Z (zA Z Z) ?_|refine eV Z Z (zB Z Z) ?_|(refine at_bin ?_;first|refine eD Z Z (zO Z Z Z) (fun hh=>?_) (fun hh=>?_))|(refine at_call ?_;first|refine eV Z Z (zJ Z Z) ?_)|refine eV Z Z (zE Z Z) ?_|refine eV Z Z (zF Z Z Z) ?_)|(refine at_K ?_;first|refine K_then ?_|refine K_then_ret ?_)|(refine at_E ?_;first|refine E_seq ?_|refine E_region ?_|refine E_cond_t Z ?_|refine E_cond_f Z ?_|refine E_skip ?_|refine E_ret ?_)))
      all_goals (first|(exfalso;omega)|skip)
      exact ret_1 Z Z ⟨⟨_,rfl,fun h=>by omega⟩,xC⟩
    | some zs=>
      rw [hp] at hf
      (repeat' ((fail_if_success (refine E_seq (x:=(Code.region 6 _ _)) ?_));first|(refine EL_call Z Z (entersF Z Z en130) hf (fun vC wC hC=>?_);obtain⟨xC,v,hv,hown⟩:=hC;obtain rfl:=hv)|(refine at_EL ?_;first|refine eN ?_|refine eV Z Z (zA Z Z) ?_|refine eV Z Z (zB Z Z) ?_|(refine at_bin ?_;first|refine eD Z Z (zO Z Z Z) (fun hh=>?_) (fun hh=>?_))|(refine at_call ?_;first|refine eV Z Z (zJ Z Z) ?_)|refine eV Z Z (zE Z Z) ?_|refine eV Z Z (zF Z Z Z) ?_)|(refine at_K ?_;first|refine K_then ?_|refine K_then_ret ?_)|(refine at_E ?_;first|refine E_seq ?_|refine E_region ?_|refine E_cond_t Z ?_|refine E_cond_f Z ?_|refine E_skip ?_|refine E_ret ?_)))
      all_goals (first|(exfalso;omega)|skip)
      obtain⟨a,cap,rfl,hc,hat⟩:=own_sl hown
      have hzl:=(points_len _ s zs (Nat.le_refl _) hp).1
      (repeat' (first|(refine at_EL ?_;first|refine eN ?_|refine eV Z Z (zB Z Z) ?_)|(refine at_K ?_;first|refine K_then ?_)|(refine at_E ?_;first|refine E_seq ?_|refine E_region ?_|refine E_block ?_)))
      refine E_loop (ι:=Nat) (fun i=>[(3,.slice a zs.length cap),(5,int i)]) (fun i wr=>i≤zs.length∧Ext wC wr∧∀ j,j<i→∀ z,zs[j]?=some z→32≤z∧z≠127) (fun i=>zs.length-i) 0
        ⟨rfl,rfl,trivial⟩ ⟨Nat.zero_le _,Ext.refl _,fun j hj=>by omega⟩ ?_
      rintro i wr ⟨hi,hx,hall⟩
      by_cases hlt:i<zs.length
      · obtain⟨b,off,rfl,hat2⟩:=hat (by omega)
        obtain⟨z,hz⟩:∃ z,zs[i]?=some z:=⟨_,List.getElem?_eq_getElem hlt⟩
        have hcell:=(hat2.ext hx).ith hz
        (repeat' (first|refine eV Z Z (val_indexAddr (m:=i) Z Z Z Z (by omega)) ?_|refine eV Z Z (val_load Z Z Z hcell) ?_|(refine at_EL ?_;first|refine eN ?_|refine eO Z Z ?_|refine eV Z Z (zA Z Z) ?_|refine eV Z Z (zB Z Z) ?_|(refine at_bin ?_;first|refine eD Z Z (zL Z Z Z) (fun hh=>?_) (fun hh=>?_)|refine eD Z Z (zM Z Z Z) (fun hh=>?_) (fun hh=>?_)|refine eV Z Z (zU Z Z Z (by omega) (by omega)) ?_)|(refine at_call ?_;first|refine eV Z Z (zK Z Z) ?_)|refine eV Z Z (zC Z Z Z) ?_|refine eV Z Z (zD Z Z Z) ?_)|(refine at_K ?_;first|refine K_then ?_|refine K_in ?_|refine K_then_ret ?_|refine K_then_exit ?_|refine K_in_ret ?_|refine K_in_exit ?_)|(refine at_E ?_;first|refine E_seq ?_|refine E_region ?_|refine E_cond_t Z ?_|refine E_cond_f Z ?_|refine E_block ?_|refine E_skip ?_|refine E_ret ?_|refine E_exit ?_)))
        all_goals (first|(exfalso;omega)|skip)
        all_goals (first|exact ret_1 Z Z ⟨⟨_,rfl,fun h=>by omega⟩,xC.trans hx⟩|skip)
        refine K_rnd (i+1) ⟨rfl,rfl,trivial⟩ ⟨by omega,hx,fun j hj z' hz'=>?_⟩ (by omega)
        by_cases hj2:j<i
        · exact hall j hj2 z' hz'
        · obtain rfl:j=i:=by omega
          rw [hz] at hz';cases hz';omega
      · (repeat' (first|(refine at_EL ?_;first|refine eN ?_|refine eV Z Z (zA Z Z) ?_|refine eV Z Z (zB Z Z) ?_|(refine at_bin ?_;first|refine eD Z Z (zL Z Z Z) (fun hh=>?_) (fun hh=>?_))|(refine at_call ?_;first|refine eV Z Z (zK Z Z) ?_))|(refine at_K ?_;first|refine K_then ?_|refine K_then_exit ?_|refine K_in_exit ?_)|(refine at_E ?_;first|refine E_seq ?_|refine E_region ?_|refine E_cond_t Z ?_|refine E_cond_f Z ?_|refine E_block ?_|refine E_skip ?_|refine E_ret ?_|refine E_exit ?_)))
        all_goals (first|(exfalso;omega)|skip)
        refine ret_1 Z Z ⟨⟨_,rfl,fun _=>⟨h200,zs,hp,fun z hz=>?_⟩⟩,xC.trans hx⟩
        obtain⟨j,hj⟩:=List.getElem?_of_mem hz
        exact hall j (by have:=(List.getElem?_eq_some_iff.1 hj).1;omega) z hj
  · (repeat' (first|(refine at_EL ?_;first|refine eN ?_|refine eV Z Z (zA Z Z) ?_|refine eV Z Z (zB Z Z) ?_|(refine at_bin ?_;first|refine eD Z Z (zO Z Z Z) (fun hh=>?_) (fun hh=>?_))|(refine at_call ?_;first|refine eV Z Z (zJ Z Z) ?_))|(refine at_K ?_;first|refine K_then ?_|refine K_then_ret ?_)|(refine at_E ?_;first|refine E_seq ?_|refine E_region ?_|refine E_cond_t Z ?_|refine E_cond_f Z ?_|refine E_skip ?_|refine E_ret ?_)))
    all_goals (first|(exfalso;omega)|skip)
    exact ret_1 Z Z ⟨⟨_,rfl,fun h=>by omega⟩,Ext.refl _⟩
theorem get_any (d : Dc) (v : Value) (id : Int) (w : World) (hv : DcAt w v d) : Calls Tryz.prog 52 #[v, int id] w (Rt fun u w' => u = getR d.notes id ∧ Ext w w') := by
  obtain⟨sv,tv,nv,rfl,_,_,hn⟩:=hv
  refine calls_E (n:=28) (args:=[.agg #[int d.rid,str d.rname,int d.len,int d.day,sv,tv,nv],int id]) Tryz.func52 rfl Tryz.ntmps52 (by simp) ?_
  have hn0:=hn
  obtain⟨a,cap,rfl,hc,hm,hp⟩:=hn.sl
  refine E_seq ?_
  refine E_region ?_
  refine EL_box Z Z Z Z (fun bB wB xB hbB rB0=>?_)
  refine EL_alloc Z Z Z (fun bA wA xA hbA rA0=>?_)
  have rB:=rB0.ext xA
  have x0:=xB.trans xA
  have hwB:w.heap.size≤bA:=by have:=xB.size;omega
  (repeat' (first|(refine at_EL ?_;first|refine eN ?_|refine eV Z Z (zB Z Z) ?_)|(refine at_K ?_;first|refine K_then ?_)|(refine at_E ?_;first|refine E_seq ?_|refine E_region ?_|refine E_block ?_)))
  refine E_loop (ι:=Nat) (fun i=>[(1,int id),(2,.pointer (some ⟨bB,0,none⟩)),(4,.pointer (some ⟨bA,0,none⟩)),(6,int i)])
    (fun i wr=>i≤d.notes.length∧Ext wA wr∧∀ j,j<i→∀ q,d.notes[j]?=some q→decide (q.id=id)=false) (fun i=>d.notes.length-i) 0
    ⟨rfl,rfl,rfl,rfl,trivial⟩ ⟨Nat.zero_le _,Ext.refl _,fun j hj=>by omega⟩ ?_
  rintro i wr ⟨hi,hx,hall⟩
  have rBr:=rB.ext hx
  by_cases hlt:i<d.notes.length
  · obtain⟨b,off,rfl⟩:=hp (by omega)
    obtain⟨q,hq⟩:∃ q,d.notes[i]?=some q:=⟨_,List.getElem?_eq_getElem hlt⟩
    have hat:=note_elem (hn0.ext (x0.trans hx)) hq
    (repeat' (first|refine eV Z Z (val_load Z Z Z (rBr.cellAt rfl)) ?_|refine eV Z Z (val_indexAddr (m:=i) Z Z Z Z hlt) ?_|refine eV Z Z (val_load Z Z Z (hat.cellAt (j:=0) Z)) ?_|refine eV Z Z (val_loadA Z Z Z hat rfl) ?_|(refine at_EL ?_;first|refine eN ?_|refine eV Z Z (zA Z Z) ?_|refine eV Z Z (zB Z Z) ?_|(refine at_bin ?_;first|refine eD Z Z (zL Z Z Z) (fun hh=>?_) (fun hh=>?_)|refine eD Z Z (zM Z Z Z) (fun hh=>?_) (fun hh=>?_)|refine eV Z Z (zU Z Z Z (by omega) (by omega)) ?_)|(refine at_call ?_;first|refine eV Z Z (zK Z Z) ?_)|refine eV Z Z (zH Z Z) ?_)|(refine at_K ?_;first|refine K_then ?_|refine K_in ?_|refine K_then_exit ?_|refine K_in_exit ?_)|(refine at_E ?_;first|refine E_seq ?_|refine E_region ?_|refine E_cond_t Z ?_|refine E_cond_f Z ?_|refine E_block ?_|refine E_skip ?_|refine E_exit ?_)))
    all_goals (first|(exfalso;omega)|skip)
    · refine EL_storeP (cs:=noteC q) (rA0.ext hx) (x0.trans hx) hwB rfl rfl rfl rfl rfl rfl rfl rfl (Nat.le_refl _) (fun w9 r9 x9 k9=>?_)
      (repeat' (first|(refine at_EL ?_;first|refine eN ?_|refine eV Z Z (zB Z Z) ?_)|(refine at_K ?_;first|refine K_then ?_|refine K_then_ret ?_|refine K_in_ret ?_)|(refine at_E ?_;first|refine E_ret ?_)))
      refine ret_ct Z Z Z r9.at rfl rfl ⟨?_,x9⟩
      unfold getR getF
      rw [find_here hall hq (by simpa using ‹q.id=id›)]
      rfl
    · refine K_rnd (i+1) ⟨rfl,rfl,rfl,rfl,trivial⟩ ⟨by omega,hx,fun j hj q' hq'=>?_⟩ (by omega)
      by_cases hj2:j<i
      · exact hall j hj2 q' hq'
      · obtain rfl:j=i:=by omega
        rw [hq] at hq';cases hq'
        exact decide_eq_false ‹_›
  · (repeat' (first|refine eV Z Z (val_load Z Z Z (rBr.cellAt rfl)) ?_|refine eV Z Z (val_build (vs:=[]) (noteC zeroN) Z Z Z) ?_|(refine at_EL ?_;first|refine eN ?_|refine eV Z Z (zA Z Z) ?_|(refine at_bin ?_;first|refine eD Z Z (zL Z Z Z) (fun hh=>?_) (fun hh=>?_))|(refine at_call ?_;first|refine eV Z Z (zK Z Z) ?_)|refine eV Z Z (zH Z Z) ?_)|(refine at_K ?_;first|refine K_then ?_|refine K_then_exit ?_|refine K_in_exit ?_)|(refine at_E ?_;first|refine E_seq ?_|refine E_region ?_|refine E_cond_t Z ?_|refine E_cond_f Z ?_|refine E_block ?_|refine E_skip ?_|refine E_exit ?_)))
    all_goals (first|(exfalso;omega)|skip)
    refine EL_storeP (cs:=noteC zeroN) (rA0.ext hx) (x0.trans hx) hwB rfl rfl rfl rfl rfl rfl rfl rfl (Nat.le_refl _) (fun w9 r9 x9 k9=>?_)
    (repeat' (first|(refine at_EL ?_;first|refine eN ?_|refine eV Z Z (zB Z Z) ?_)|(refine at_K ?_;first|refine K_then ?_)|(refine at_E ?_;first|refine E_ret ?_)))
    refine ret_ct Z Z Z r9.at rfl rfl ⟨?_,x9⟩
    unfold getR getF
    rw [List.find?_eq_none.2 fun q hq=>?_]
    · rfl
    · obtain⟨j,hj⟩:=List.getElem?_of_mem hq
      have:=(List.getElem?_eq_some_iff.1 hj).1
      simpa using hall j (by omega) q hj
end Go.Proofs.YtjicdgejhkgpgaaGreatDoor
namespace Go.Proofs.YtjicdgejhkgpgaaGreatDoor
open Go.RowKit Go.En
theorem int_elem {G:Nat→Prop} {w:World} {b off n cap:Nat} {xs:List Int} (h:SlG G w (.slice (some ⟨b,off,none⟩) n cap) xs) {i:Nat} {x:Int} (hx:xs[i]?=some x):w.cell? ⟨b,off+i*1,none⟩=some (int x):=by
  obtain⟨cs,h1,h2⟩:=h.elem hx
  rw [show cs=[int x] from h1] at h2
  exact h2.one
attribute [local irreducible] E EL K Val Enters Rt Calls bodyPost Code.wp RQ
theorem aligned56_any (k:Int) (w:World):Calls Tryz.prog 106 #[int k] w (Rt fun u w'=>u=.bool (timedB k)∧Ext w w'):=by
  refine calls_E (n:=10) (args:=[int k]) Tryz.func106 rfl Tryz.ntmps106 (by simp) ?_
  (repeat' (first|(refine at_EL ?_;first|refine eN ?_|refine eV Z Z (zA Z Z) ?_|refine eV Z Z (zB Z Z) ?_|(refine at_bin ?_;first|refine eD Z Z (zM Z Z Z) (fun hh=>?_) (fun hh=>?_)))|(refine at_K ?_;first|refine K_then ?_|refine K_in ?_|refine K_then_ret ?_|refine K_then_exit ?_|refine K_in_ret ?_|refine K_in_exit ?_|refine K_in_exit' Z ?_)|(refine at_E ?_;first|refine E_seq ?_|refine E_region ?_|refine E_cond_t Z ?_|refine E_cond_f Z ?_|refine E_block ?_|refine E_skip ?_|refine E_ret ?_|refine E_exit ?_)))
  all_goals (first|(exfalso;omega)|skip)
  all_goals exact ret_1 Z Z ⟨by simp [timedB, *],Ext.refl _⟩
theorem ttAligned_any (d : Dc) (tv : Value) (k : Int) (w : World) (ht : Sl w tv d.tiers) : Calls Tryz.prog 68 #[tv, int k] w (Rt fun u w' => u = .bool (alignedB d k) ∧ Ext w w') := by
  refine calls_E (n:=21) (args:=[tv,int k]) Tryz.func68 rfl Tryz.ntmps68 (by simp) ?_
  have ht0:=ht
  obtain⟨a,cap,rfl,hc,hm,hp⟩:=ht.sl
  by_cases hk:0≤k∧k<d.tiers.length
  · obtain⟨j,rfl⟩:∃ j:Nat,k=(j:Int):=⟨k.toNat,by omega⟩
    obtain⟨b,off,rfl⟩:=hp (by omega)
    obtain⟨t,htt⟩:∃ t,d.tiers[j]?=some t:=⟨_,List.getElem?_eq_getElem (by omega)⟩
    have hat:=tier_elem ht0 htt
    rw [aligned_at htt]
    have ca:=aligned56_any t.kind
    (repeat' (first|refine eV Z Z (val_indexAddr (m:=j) Z Z Z Z (by omega)) ?_|refine eV Z Z (val_load Z Z Z (hat.cellAt (j:=1) Z)) ?_|(refine EL_call Z Z (entersF Z Z en106) (ca _) (fun vC wC hC=>?_);obtain⟨rfl,xC⟩:=hC)|(refine at_EL ?_;first|refine eN ?_|refine eO Z Z ?_|refine eV Z Z (zA Z Z) ?_|refine eV Z Z (zB Z Z) ?_|(refine at_bin ?_;first|refine eD Z Z (zL Z Z Z) (fun hh=>?_) (fun hh=>?_)|refine eD Z Z (zP Z Z Z) (fun hh=>?_) (fun hh=>?_))|(refine at_call ?_;first|refine eV Z Z (zK Z Z) ?_)|refine eV Z Z (zC Z Z Z) ?_|refine eV Z Z (zD Z Z Z) ?_|refine eV Z Z (zH Z Z) ?_)|(refine at_K ?_;first|refine K_then ?_)|(refine at_E ?_;first|refine E_seq ?_|refine E_region ?_|refine E_ret ?_)))
    all_goals (first|(exfalso;omega)|skip)
    exact ret_1 Z Z ⟨rfl,xC⟩
  · have hf:alignedB d k=false:=by
      unfold alignedB
      split
      · rename_i t h
        have:=(List.getElem?_eq_some_iff.1 h).1
        rw [decide_eq_false (by omega),Bool.false_and]
      · rfl
    rw [hf]
    (repeat' (first|(refine at_EL ?_;first|refine eN ?_|refine eO Z Z ?_|refine eV Z Z (zA Z Z) ?_|refine eV Z Z (zB Z Z) ?_|(refine at_bin ?_;first|refine eD Z Z (zL Z Z Z) (fun hh=>?_) (fun hh=>?_)|refine eD Z Z (zP Z Z Z) (fun hh=>?_) (fun hh=>?_))|(refine at_call ?_;first|refine eV Z Z (zK Z Z) ?_)|refine eV Z Z (zC Z Z Z) ?_|refine eV Z Z (zD Z Z Z) ?_)|(refine at_K ?_;first|refine K_then ?_)|(refine at_E ?_;first|refine E_seq ?_|refine E_region ?_|refine E_ret ?_)))
    all_goals (first|(exfalso;omega)|skip)
    all_goals exact ret_1 Z Z ⟨rfl,Ext.refl _⟩
theorem tget_any (d : Dc) (v : Value) (id : Int) (w : World) (hv : DcAt w v d) : Calls Tryz.prog 36 #[v, int id] w (Rt fun u w' => u = getR d.notes id ∧ Ext w w') := by
  obtain⟨sv,tv,nv,rfl,_,_,hn⟩:=hv
  refine calls_E (n:=22) (args:=[.agg #[int d.rid,str d.rname,int d.len,int d.day,sv,tv,nv],int id]) Tryz.func36 rfl Tryz.ntmps36 (by simp) ?_
  have hn0:=hn
  obtain⟨a,cap,rfl,hc,hm,hp⟩:=hn.sl
  refine E_seq ?_
  refine E_region ?_
  refine EL_box Z Z Z Z (fun bB wB xB hbB rB0=>?_)
  refine EL_alloc Z Z Z (fun bA wA xA hbA rA0=>?_)
  have rB:=rB0.ext xA
  have x0:=xB.trans xA
  have hwB:w.heap.size≤bA:=by have:=xB.size;omega
  (repeat' (first|refine eV Z Z (val_load Z Z Z (rB.cellAt rfl)) ?_|(refine at_EL ?_;first|refine eN ?_|refine eV Z Z (zA Z Z) ?_|refine eV Z Z (zB Z Z) ?_|(refine at_call ?_;first|refine eV Z Z (zK Z Z) ?_)|refine eV Z Z (zH Z Z) ?_)|(refine at_K ?_;first|refine K_then ?_)|(refine at_E ?_;first|refine E_seq ?_|refine E_region ?_|refine E_block ?_)))
  refine E_loop (ι:=Nat) (fun i=>[(1,int id),(4,.pointer (some ⟨bA,0,none⟩)),(9,.slice a d.notes.length cap),(10,int d.notes.length),(11,int i)])
    (fun i wr=>i≤d.notes.length∧Ext wA wr∧∀ j,j<i→∀ q,d.notes[j]?=some q→decide (q.id=id)=false) (fun i=>d.notes.length-i) 0
    ⟨rfl,rfl,rfl,rfl,rfl,trivial⟩ ⟨Nat.zero_le _,Ext.refl _,fun j hj=>by omega⟩ ?_
  rintro i wr ⟨hi,hx,hall⟩
  by_cases hlt:i<d.notes.length
  · obtain⟨b,off,rfl⟩:=hp (by omega)
    obtain⟨q,hq⟩:∃ q,d.notes[i]?=some q:=⟨_,List.getElem?_eq_getElem hlt⟩
    have hat:=note_elem (hn0.ext (x0.trans hx)) hq
    (repeat' (first|refine eV Z Z (val_indexAddr (m:=i) Z Z Z Z hlt) ?_|refine eV Z Z (val_loadA Z Z Z hat rfl) ?_|(refine at_EL ?_;first|refine eN ?_|(refine at_bin ?_;first|refine eD Z Z (zL Z Z Z) (fun hh=>?_) (fun hh=>?_)))|(refine at_K ?_;first|refine K_then ?_|refine K_then_exit ?_|refine K_in_exit ?_)|(refine at_E ?_;first|refine E_seq ?_|refine E_region ?_|refine E_cond_t Z ?_|refine E_cond_f Z ?_|refine E_block ?_|refine E_skip ?_|refine E_exit ?_)))
    all_goals (first|(exfalso;omega)|skip)
    refine EL_alloc Z Z Z (fun b7 w7 x7 hb7 r7=>?_)
    refine EL_storeP (cs:=noteC q) r7 x7 (by omega) Z Z Z Z Z Z Z Z (Nat.le_refl _) (fun w8 r8' x8 k8=>?_)
    have r8:Row w8 b7 80 (noteC q):=r8'
    clear r8'
    (repeat' (first|refine eV Z Z (val_load Z Z Z (r8.cellAt rfl)) ?_|refine eV Z Z (val_loadA Z Z Z r8.at rfl) ?_|(refine at_EL ?_;first|refine eN ?_|refine eV Z Z (zA Z Z) ?_|(refine at_bin ?_;first|refine eD Z Z (zM Z Z Z) (fun hh=>?_) (fun hh=>?_)|refine eV Z Z (zU Z Z Z (by omega) (by omega)) ?_)|refine eV Z Z (zH Z Z) ?_)|(refine at_K ?_;first|refine K_then ?_|refine K_in ?_)|(refine at_E ?_;first|refine E_seq ?_|refine E_region ?_|refine E_cond_t Z ?_|refine E_cond_f Z ?_|refine E_skip ?_)))
    · refine EL_storeP (cs:=noteC q) (rA0.ext (hx.trans x8)) (x0.trans (hx.trans x8)) hwB rfl rfl rfl rfl rfl rfl rfl rfl (Nat.le_refl _) (fun w9 r9 x9 k9=>?_)
      (repeat' (first|(refine at_EL ?_;first|refine eN ?_|refine eV Z Z (zB Z Z) ?_)|(refine at_K ?_;first|refine K_then ?_|refine K_then_ret ?_|refine K_in_ret ?_)|(refine at_E ?_;first|refine E_ret ?_)))
      refine ret_ct Z Z Z r9.at rfl rfl ⟨?_,x9⟩
      unfold getR getF
      rw [find_here hall hq (by simpa using ‹q.id=id›)]
      rfl
    · exact K_rnd (i+1) ⟨rfl,rfl,rfl,rfl,rfl,trivial⟩ ⟨by omega,hx.trans x8,fun j hj q' hq'=>by
        by_cases hj2:j<i
        · exact hall j hj2 q' hq'
        · obtain rfl:j=i:=by omega
          rw [hq] at hq';cases hq'
          exact decide_eq_false ‹_›⟩ (by omega)
  · (repeat' (first|refine eV Z Z (val_build (vs:=[]) (noteC zeroN) Z Z Z) ?_|(refine at_EL ?_;first|refine eN ?_|(refine at_bin ?_;first|refine eD Z Z (zL Z Z Z) (fun hh=>?_) (fun hh=>?_)))|(refine at_K ?_;first|refine K_then ?_|refine K_then_exit ?_|refine K_in_exit ?_)|(refine at_E ?_;first|refine E_seq ?_|refine E_region ?_|refine E_cond_t Z ?_|refine E_cond_f Z ?_|refine E_block ?_|refine E_skip ?_|refine E_exit ?_)))
    all_goals (first|(exfalso;omega)|skip)
    refine EL_storeP (cs:=noteC zeroN) (rA0.ext hx) (x0.trans hx) hwB rfl rfl rfl rfl rfl rfl rfl rfl (Nat.le_refl _) (fun w9 r9 x9 k9=>?_)
    (repeat' (first|(refine at_EL ?_;first|refine eN ?_|refine eV Z Z (zB Z Z) ?_)|(refine at_K ?_;first|refine K_then ?_)|(refine at_E ?_;first|refine E_ret ?_)))
    refine ret_ct Z Z Z r9.at rfl rfl ⟨?_,x9⟩
    unfold getR getF
    rw [List.find?_eq_none.2 fun q hq=>?_]
    · rfl
    · obtain⟨j,hj⟩:=List.getElem?_of_mem hq
      have:=(List.getElem?_eq_some_iff.1 hj).1
      simpa using hall j (by omega) q hj
end Go.Proofs.YtjicdgejhkgpgaaGreatDoor
namespace Go.Proofs.YtjicdgejhkgpgaaGreatDoor
open Go.RowKit Go.En
attribute [local irreducible] E EL K Val Enters Rt Calls bodyPost Code.wp RQ
end Go.Proofs.YtjicdgejhkgpgaaGreatDoor
namespace Go.Proofs.YtjicdgejhkgpgaaGreatDoor
open Go.RowKit Go.En
attribute [local irreducible] E EL K Val Enters Rt Calls bodyPost Code.wp RQ
theorem refAligned_any (d : Dc) (tv : Value) (k : Int) (w : World) (ht : Sl w tv d.tiers) : Calls Tryz.prog 110 #[tv, int k] w (Rt fun u w' => u = .bool (alignedB d k) ∧ Ext w w') := by
  refine calls_E (n:=21) (args:=[tv,int k]) Tryz.func110 rfl Tryz.ntmps110 (by simp) ?_
  have ht0:=ht
  obtain⟨a,cap,rfl,hc,hm,hp⟩:=ht.sl
  by_cases hk:0≤k∧k<d.tiers.length
  · obtain⟨j,rfl⟩:∃ j:Nat,k=(j:Int):=⟨k.toNat,by omega⟩
    obtain⟨b,off,rfl⟩:=hp (by omega)
    obtain⟨t,htt⟩:∃ t,d.tiers[j]?=some t:=⟨_,List.getElem?_eq_getElem (by omega)⟩
    have hat:=tier_elem ht0 htt
    rw [aligned_at htt]
    have ca:=timed_any t.kind
    (repeat' (first|refine eV Z Z (val_indexAddr (m:=j) Z Z Z Z (by omega)) ?_|refine eV Z Z (val_load Z Z Z (hat.cellAt (j:=1) Z)) ?_|(refine EL_call Z Z (entersF Z Z en142) (ca _) (fun vC wC hC=>?_);obtain⟨rfl,xC⟩:=hC)|(refine at_EL ?_;first|refine eN ?_|refine eO Z Z ?_|refine eV Z Z (zA Z Z) ?_|refine eV Z Z (zB Z Z) ?_|(refine at_bin ?_;first|refine eD Z Z (zL Z Z Z) (fun hh=>?_) (fun hh=>?_)|refine eD Z Z (zP Z Z Z) (fun hh=>?_) (fun hh=>?_))|(refine at_call ?_;first|refine eV Z Z (zK Z Z) ?_)|refine eV Z Z (zC Z Z Z) ?_|refine eV Z Z (zD Z Z Z) ?_|refine eV Z Z (zH Z Z) ?_)|(refine at_K ?_;first|refine K_then ?_)|(refine at_E ?_;first|refine E_seq ?_|refine E_region ?_|refine E_ret ?_)))
    all_goals (first|(exfalso;omega)|skip)
    exact ret_1 Z Z ⟨rfl,xC⟩
  · have hf:alignedB d k=false:=by
      unfold alignedB
      split
      · rename_i t h
        have:=(List.getElem?_eq_some_iff.1 h).1
        rw [decide_eq_false (by omega),Bool.false_and]
      · rfl
    rw [hf]
    (repeat' (first|(refine at_EL ?_;first|refine eN ?_|refine eO Z Z ?_|refine eV Z Z (zA Z Z) ?_|refine eV Z Z (zB Z Z) ?_|(refine at_bin ?_;first|refine eD Z Z (zL Z Z Z) (fun hh=>?_) (fun hh=>?_)|refine eD Z Z (zP Z Z Z) (fun hh=>?_) (fun hh=>?_))|(refine at_call ?_;first|refine eV Z Z (zK Z Z) ?_)|refine eV Z Z (zC Z Z Z) ?_|refine eV Z Z (zD Z Z Z) ?_)|(refine at_K ?_;first|refine K_then ?_)|(refine at_E ?_;first|refine E_seq ?_|refine E_region ?_|refine E_ret ?_)))
    all_goals (first|(exfalso;omega)|skip)
    all_goals exact ret_1 Z Z ⟨rfl,Ext.refl _⟩
end Go.Proofs.YtjicdgejhkgpgaaGreatDoor
namespace Go.Proofs.YtjicdgejhkgpgaaGreatDoor
open Go.RowKit Go.En
theorem getR_val {ns:List Note} {id:Int} {p:Note} (h:getF ns id=some p):getR ns id=.tuple #[.agg (noteC p).toArray,.bool true]:=by
  unfold getR
  rw [h]
attribute [local irreducible] E EL K Val Enters Rt Calls bodyPost Code.wp RQ
end Go.Proofs.YtjicdgejhkgpgaaGreatDoor
