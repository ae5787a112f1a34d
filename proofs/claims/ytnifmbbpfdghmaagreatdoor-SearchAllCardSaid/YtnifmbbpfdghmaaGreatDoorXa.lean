/-
  Walks: the reference's Put and Sorted. Of numbers that are all different, as many stand in the list that is sorted.
-/
import Derived.Test.YtnifmbbpfdghmaaGreatDoorWm
set_option linter.all false
namespace Go.Proofs.YtnifmbbpfdghmaaGreatDoor
open Go.RowKit Go.En
theorem takeWhile_stop2 {α:Type} {f:α→Bool}:∀ {l:List α} {i:Nat},(∀ j,j<i→∀ a,l[j]?=some a→f a=true)→i≤l.length→(∀ a,l[i]?=some a→f a=false)→(l.takeWhile f).length=i
  | [],i,_,hi,_=>by simp at hi;simp [hi]
  | a::l,0,_,_,h=>by rw [List.takeWhile_cons_of_neg (by simp [h a rfl])];rfl
  | a::l,i+1,h,hi,h2=>by
    rw [List.takeWhile_cons_of_pos (h 0 (by omega) a rfl),List.length_cons,takeWhile_stop2 (i:=i) (fun j hj b hb=>h (j+1) (by omega) b hb) (by simpa using hi) (fun b hb=>h2 b hb)]
def withN (ids:List Int) (id:Int):Nat:=(ids.takeWhile fun z=>decide (z<id)).length
def nputF (l:List Int) (n:Int):List Int:=
  l.take (withN l n)++n::(if l[withN l n]?=some n then l.drop (withN l n+1) else l.drop (withN l n))
def sortedF (l:List Int):List Int:=l.foldl nputF []
theorem ints_sub {G:Nat→Prop} {w:World} {a:Option Addr} {n cap:Nat} {xs:List Int} (h:SlG G w (.slice a n cap) xs):0<(xs.map int).length→∃ b so,a=some ⟨b,so,none⟩∧At w b so (xs.map int):=fun h0=>by
  obtain⟨a',cap',hv,_,_,hp⟩:=h
  cases hv
  obtain⟨b,off,rfl,_,css,h1,h2⟩:=hp (by simpa using h0)
  rw [ats_ints h1,ints_flat] at h2
  exact⟨b,off,rfl,h2⟩
theorem withN_of {ids:List Int} {id:Int} {i:Nat} (hall:∀ j,j<i→∀ z,ids[j]?=some z→decide (z<id)=true) (hi:i≤ids.length) (hs:∀ z,ids[i]?=some z→¬ z<id):withN ids id=i:=
  takeWhile_stop2 hall hi (fun z hz=>decide_eq_false (hs z hz))
theorem nput_len (l:List Int) (n:Int):(nputF l n).length≤l.length+1:=by
  unfold nputF
  split <;> simp <;> omega
theorem nput_at {l:List Int} {n:Int} {i:Nat} (h:withN l n=i) (he:l[i]?=some n):nputF l n=l.take i++n::l.drop (i+1):=by
  unfold nputF;rw [h,if_pos he]
theorem nput_no {l:List Int} {n:Int} {i:Nat} (h:withN l n=i) (he:l[i]?≠some n):nputF l n=l.take i++n::l.drop i:=by
  unfold nputF;rw [h,if_neg he]
theorem fold_len:∀(l acc:List Int),(l.foldl nputF acc).length≤acc.length+l.length
  | [],acc=>by simp
  | z::l,acc=>by
    have h1:=fold_len l (nputF acc z)
    have h2:=nput_len acc z
    simp only [List.foldl_cons,List.length_cons]
    omega
theorem fold_take {l acc:List Int} {i:Nat} {z:Int} (h:l[i]?=some z):(l.take (i+1)).foldl nputF acc=nputF ((l.take i).foldl nputF acc) z:=by
  obtain⟨hi,rfl⟩:=List.getElem?_eq_some_iff.1 h
  rw [List.take_succ_eq_append_getElem hi,List.foldl_append];rfl
attribute [local irreducible] E EL K Val Enters Rt Calls bodyPost Code.wp RQ
set_option maxHeartbeats 1000000 in
theorem nputW_any (l : List Int) (n : Int) (v : Value) (w : World) (hv : Sl w v l) (hlen : l.length ≤ 1099511627776) : Calls Tryz.prog 90 #[v, int n] w (Rt fun u w' => Ext w w' ∧ SlG (fun b => w.heap.size ≤ b) w' u (nputF l n)) := by
  refine calls_E (n:=51) (args:=[v,int n]) Tryz.func90 rfl Tryz.ntmps90 (by simp) ?_
  have hv0:=hv
  obtain⟨a,cap,rfl,hc,hm,hp⟩:=hv.sl
  (repeat' (first|(refine at_EL ?_;first|refine eN ?_|refine eV Z Z (zB Z Z) ?_)|(refine at_K ?_;first|refine K_then ?_)|(refine at_E ?_;first|refine E_seq ?_|refine E_region ?_|refine E_block ?_)))
  refine E_loop (ι:=Nat × Value) (fun x=>[(0,.slice a l.length cap),(1,int n),(5,x.2),(6,int x.1)])
    (fun x wr=>x.1≤l.length∧Ext w wr∧(∀ j,j<x.1→∀ z,l[j]?=some z→decide (z<n)=true)∧wr.ownsRow w.heap.size 3 1 x.2 x.1 ((l.take x.1).map int)) (fun x=>l.length-x.1) (0,.slice none 0 0)
    ⟨rfl,rfl,rfl,rfl,trivial⟩ ⟨Nat.zero_le _,Ext.refl _,fun j hj=>by omega,World.ownsRow_nil _ _ _ _⟩ ?_
  rintro⟨i,vO⟩ wr ⟨hi,hx,hall,hown⟩
  dsimp only at hi hx hall hown ⊢
  have hvr:=hv0.ext hx
  by_cases hlt:i<l.length
  · obtain⟨b,off,rfl⟩:=hp (by omega)
    obtain⟨z,hz⟩:∃ z,l[i]?=some z:=⟨_,List.getElem?_eq_getElem hlt⟩
    have hcell:=int_elem hvr hz
    by_cases hzl:z<n
    · (repeat' (first|refine eV Z Z (val_indexAddr (m:=i) Z Z Z Z hlt) ?_|refine eV Z Z (val_load Z Z Z hcell) ?_|(refine EL_app (own_ext hown xS) (hx.trans xS) rS.at rfl rfl rfl rfl rfl rfl rfl rfl rfl (by omega) (by omega) (fun vB wB oB xB _=>?_))|(refine at_EL ?_;first|refine eN ?_|refine eO Z Z ?_|refine eV Z Z (zA Z Z) ?_|refine eV Z Z (zB Z Z) ?_|(refine at_bin ?_;first|refine eD Z Z (zL Z Z Z) (fun hh=>?_) (fun hh=>?_)|refine eV Z Z (zU Z Z Z (by omega) (by omega)) ?_)|(refine at_call ?_;first|refine eV Z Z (zK Z Z) ?_)|refine eV Z Z (zC Z Z Z) ?_|refine eV Z Z (zD Z Z Z) ?_|refine eL Z Z Z Z Z Z Z Z (fun bS wS xS hbS rS=>?_))|(refine at_K ?_;first|refine K_then ?_|refine K_in ?_|refine K_then_exit ?_|refine K_in_exit ?_)|(refine at_E ?_;first|refine E_seq ?_|refine E_region ?_|refine E_cond_t Z ?_|refine E_cond_f Z ?_|refine E_block ?_|refine E_skip ?_|refine E_exit ?_)))
      all_goals (first|(exfalso;omega)|skip)
      refine K_rnd (i+1,vB) ⟨rfl,rfl,rfl,rfl,trivial⟩ ⟨by dsimp only;omega,xB,fun j hj q hq=>?_,?_⟩ (by dsimp only;omega)
      · dsimp only at hj
        by_cases hj2:j<i
        · exact hall j hj2 q hq
        · obtain rfl:j=i:=by omega
          rw [hz] at hq;cases hq
          exact decide_eq_true hzl
      · dsimp only
        obtain⟨hi2,rfl⟩:=List.getElem?_eq_some_iff.1 hz
        rw [List.take_succ_eq_append_getElem hi2,List.map_append]
        simpa [Value.cells] using oB
    have hw:=withN_of hall hi (fun z' hz'=>by rw [hz] at hz';cases hz';exact hzl)
    by_cases hze:z=n
    · have hval:=nput_at hw (by rw [hz,hze])
      obtain⟨kk,hkk0⟩:∃ kk,kk=i+1:=⟨_,rfl⟩
      rw [← hkk0] at hval
      have hkk:kk≤l.length:=by omega
      (repeat' (first|refine eV Z Z (val_indexAddr (m:=i) Z Z Z Z hlt) ?_|refine eV Z Z (val_load Z Z Z hcell) ?_|(refine EL_app (own_ext hown xS) (hx.trans xS) rS.at rfl rfl rfl rfl rfl rfl rfl rfl rfl (by omega) (by omega) (fun vB wB oB xB _=>?_);have hcell2:=(hv0.ext xB);replace hcell2:=int_elem hcell2 hz)|refine eV Z Z (val_load Z Z Z hcell2) ?_|refine eV Z Z (val_slice_l (b:=kk) Z Z Z (by omega) (by omega)) ?_|(refine at_EL ?_;first|refine eN ?_|refine eO Z Z ?_|refine eV Z Z (zA Z Z) ?_|refine eV Z Z (zB Z Z) ?_|(refine at_bin ?_;first|refine eD Z Z (zL Z Z Z) (fun hh=>?_) (fun hh=>?_)|refine eD Z Z (zM Z Z Z) (fun hh=>?_) (fun hh=>?_)|refine eV Z Z (zU Z Z Z (by omega) (by omega)) ?_)|(refine at_call ?_;first|refine eV Z Z (zK Z Z) ?_)|refine eV Z Z (zC Z Z Z) ?_|refine eV Z Z (zD Z Z Z) ?_|refine eL Z Z Z Z Z Z Z Z (fun bS wS xS hbS rS=>?_))|(refine at_K ?_;first|refine K_then ?_|refine K_in ?_|refine K_then_exit ?_|refine K_in_exit ?_)|(refine at_E ?_;first|refine E_seq ?_|refine E_region ?_|refine E_cond_t Z ?_|refine E_cond_f Z ?_|refine E_block ?_|refine E_skip ?_|refine E_exit ?_)))
      all_goals (first|(exfalso;omega)|skip)
      refine EL_appO (news:=(l.drop kk).map int) oB xB (fun h0=>ints_sub ((hv0.ext xB).drop hkk) (by simp;omega)) Z Z Z Z Z (by simp) (ints_one _) Z Z (by omega) (by omega) (fun vQ wQ oQ xQ _ _=>?_)
      (repeat' (first|(refine at_EL ?_;first|refine eN ?_|refine eV Z Z (zB Z Z) ?_)|(refine at_K ?_;first|refine K_then ?_)|(refine at_E ?_;first|refine E_ret ?_)))
      refine ret_1 Z Z ⟨xQ,?_⟩
      rw [hval]
      exact own_SlG (G:=fun b=>w.heap.size≤b) (css:=(l.take i++n::l.drop kk).map fun z=>[int z]) (by rw [ints_flat];simpa [show Rep.sz Int=1 from rfl,Value.cells] using oQ) (ints_ats _ _) (fun _ h=>h) (by simp;omega) (by simp;omega)
    · have hval:=nput_no hw (by rw [hz];simpa using hze)
      obtain⟨kk,hkk0⟩:∃ kk,kk=i:=⟨_,rfl⟩
      rw [show l.drop i=l.drop kk by rw [hkk0]] at hval
      have hkk:kk≤l.length:=by omega
      (repeat' (first|refine eV Z Z (val_indexAddr (m:=i) Z Z Z Z hlt) ?_|refine eV Z Z (val_load Z Z Z hcell) ?_|(refine EL_app (own_ext hown xS) (hx.trans xS) rS.at rfl rfl rfl rfl rfl rfl rfl rfl rfl (by omega) (by omega) (fun vB wB oB xB _=>?_);have hcell2:=(hv0.ext xB);replace hcell2:=int_elem hcell2 hz)|refine eV Z Z (val_load Z Z Z hcell2) ?_|refine eV Z Z (val_slice_l (b:=kk) Z Z Z (by omega) (by omega)) ?_|(refine at_EL ?_;first|refine eN ?_|refine eO Z Z ?_|refine eV Z Z (zA Z Z) ?_|refine eV Z Z (zB Z Z) ?_|(refine at_bin ?_;first|refine eD Z Z (zL Z Z Z) (fun hh=>?_) (fun hh=>?_)|refine eD Z Z (zM Z Z Z) (fun hh=>?_) (fun hh=>?_)|refine eV Z Z (zU Z Z Z (by omega) (by omega)) ?_)|(refine at_call ?_;first|refine eV Z Z (zK Z Z) ?_)|refine eV Z Z (zC Z Z Z) ?_|refine eV Z Z (zD Z Z Z) ?_|refine eL Z Z Z Z Z Z Z Z (fun bS wS xS hbS rS=>?_))|(refine at_K ?_;first|refine K_then ?_|refine K_in ?_|refine K_then_exit ?_|refine K_in_exit ?_)|(refine at_E ?_;first|refine E_seq ?_|refine E_region ?_|refine E_cond_t Z ?_|refine E_cond_f Z ?_|refine E_block ?_|refine E_skip ?_|refine E_exit ?_)))
      all_goals (first|(exfalso;omega)|skip)
      refine EL_appO (news:=(l.drop kk).map int) oB xB (fun h0=>ints_sub ((hv0.ext xB).drop hkk) (by simp;omega)) Z Z Z Z Z (by simp) (ints_one _) Z Z (by omega) (by omega) (fun vQ wQ oQ xQ _ _=>?_)
      (repeat' (first|(refine at_EL ?_;first|refine eN ?_|refine eV Z Z (zB Z Z) ?_)|(refine at_K ?_;first|refine K_then ?_)|(refine at_E ?_;first|refine E_ret ?_)))
      refine ret_1 Z Z ⟨xQ,?_⟩
      rw [hval]
      exact own_SlG (G:=fun b=>w.heap.size≤b) (css:=(l.take i++n::l.drop kk).map fun z=>[int z]) (by rw [ints_flat];simpa [show Rep.sz Int=1 from rfl,Value.cells] using oQ) (ints_ats _ _) (fun _ h=>h) (by simp;omega) (by simp;omega)
  · have hw:=withN_of (id:=n) hall hi (fun z' hz'=>by have:=(List.getElem?_eq_some_iff.1 hz').1;omega)
    have hval:=nput_no hw (by rw [List.getElem?_eq_none (by omega)];simp)
    obtain⟨kk,hkk0⟩:∃ kk,kk=i:=⟨_,rfl⟩
    rw [show l.drop i=l.drop kk by rw [hkk0]] at hval
    have hkk:kk≤l.length:=by omega
    (repeat' (first|(refine EL_app (own_ext hown xS) (hx.trans xS) rS.at rfl rfl rfl rfl rfl rfl rfl rfl rfl (by omega) (by omega) (fun vB wB oB xB _=>?_))|refine eV Z Z (val_slice_l (b:=kk) Z Z Z (by omega) (by omega)) ?_|(refine at_EL ?_;first|refine eN ?_|refine eO Z Z ?_|refine eV Z Z (zA Z Z) ?_|refine eV Z Z (zB Z Z) ?_|(refine at_bin ?_;first|refine eD Z Z (zL Z Z Z) (fun hh=>?_) (fun hh=>?_))|(refine at_call ?_;first|refine eV Z Z (zK Z Z) ?_)|refine eV Z Z (zD Z Z Z) ?_|refine eL Z Z Z Z Z Z Z Z (fun bS wS xS hbS rS=>?_))|(refine at_K ?_;first|refine K_then ?_|refine K_then_exit ?_|refine K_in_exit ?_)|(refine at_E ?_;first|refine E_seq ?_|refine E_region ?_|refine E_cond_f Z ?_|refine E_skip ?_|refine E_exit ?_)))
    all_goals (first|(exfalso;omega)|skip)
    refine EL_appO (news:=(l.drop kk).map int) oB xB (fun h0=>ints_sub ((hv0.ext xB).drop hkk) (by simp;omega)) Z Z Z Z Z (by simp) (ints_one _) Z Z (by omega) (by omega) (fun vQ wQ oQ xQ _ _=>?_)
    (repeat' (first|(refine at_EL ?_;first|refine eN ?_|refine eV Z Z (zB Z Z) ?_)|(refine at_K ?_;first|refine K_then ?_)|(refine at_E ?_;first|refine E_ret ?_)))
    refine ret_1 Z Z ⟨xQ,?_⟩
    rw [hval]
    exact own_SlG (G:=fun b=>w.heap.size≤b) (css:=(l.take i++n::l.drop kk).map fun z=>[int z]) (by rw [ints_flat];simpa [show Rep.sz Int=1 from rfl,Value.cells] using oQ) (ints_ats _ _) (fun _ h=>h) (by simp;omega) (by simp;omega)
theorem sortedW_any (l:List Int) (v:Value) (w:World) (hv:Sl w v l) (hlen:l.length≤1099511627776):Calls Tryz.prog 102 #[v] w (Rt fun u w'=>Ext w w'∧SlG (fun b=>w.heap.size≤b) w' u (sortedF l)):=by
  refine calls_E (n:=18) (args:=[v]) Tryz.func102 rfl Tryz.ntmps102 (by simp) ?_
  have hv0:=hv
  obtain⟨a,cap,rfl,hc,hm,hp⟩:=hv.sl
  (repeat' (first|(refine at_EL ?_;first|refine eN ?_|refine eV Z Z (zA Z Z) ?_|refine eV Z Z (zB Z Z) ?_|(refine at_call ?_;first|refine eV Z Z (zK Z Z) ?_))|(refine at_K ?_;first|refine K_then ?_)|(refine at_E ?_;first|refine E_seq ?_|refine E_region ?_|refine E_block ?_)))
  refine E_loop (ι:=Nat × Value) (fun x=>[(0,.slice a l.length cap),(3,x.2),(6,int l.length),(7,int x.1)])
    (fun x wr=>x.1≤l.length∧Ext w wr∧SlG (fun b=>w.heap.size≤b) wr x.2 ((l.take x.1).foldl nputF [])) (fun x=>l.length-x.1) (0,.slice none 0 0)
    ⟨rfl,rfl,rfl,rfl,trivial⟩ ⟨Nat.zero_le _,Ext.refl _,SlG.nil⟩ ?_
  rintro⟨i,vO⟩ wr ⟨hi,hx,hs⟩
  dsimp only at hi hx hs ⊢
  have hvr:=hv0.ext hx
  have hfl:=fold_len (l.take i) []
  rw [List.length_take] at hfl
  simp only [List.length_nil] at hfl
  by_cases hlt:i<l.length
  · obtain⟨b,off,rfl⟩:=hp (by omega)
    obtain⟨z,hz⟩:∃ z,l[i]?=some z:=⟨_,List.getElem?_eq_getElem hlt⟩
    have hcell:=int_elem hvr hz
    (repeat' (first|refine eV Z Z (val_indexAddr (m:=i) Z Z Z Z hlt) ?_|refine eV Z Z (val_load Z Z Z hcell) ?_|(refine EL_call Z Z (entersF Z Z en90) (nputW_any _ z vO _ hs.any (by omega)) (fun vC wC hC=>?_);obtain⟨xC,hC⟩:=hC)|(refine at_EL ?_;first|refine eN ?_|refine eV Z Z (zA Z Z) ?_|refine eV Z Z (zB Z Z) ?_|(refine at_bin ?_;first|refine eD Z Z (zL Z Z Z) (fun hh=>?_) (fun hh=>?_)|refine eV Z Z (zU Z Z Z (by omega) (by omega)) ?_))|(refine at_K ?_;first|refine K_then ?_|refine K_in ?_|refine K_then_exit ?_|refine K_in_exit ?_)|(refine at_E ?_;first|refine E_seq ?_|refine E_region ?_|refine E_cond_t Z ?_|refine E_cond_f Z ?_|refine E_block ?_|refine E_skip ?_|refine E_ret ?_|refine E_exit ?_)))
    all_goals (first|(exfalso;omega)|skip)
    exact K_rnd (i+1,vC) ⟨rfl,rfl,rfl,rfl,trivial⟩ ⟨by dsimp only;omega,hx.trans xC,by dsimp only;rw [fold_take hz];exact SlG.wk hC (fun b hb=>Nat.le_trans hx.size hb)⟩ (by dsimp only;omega)
  · obtain rfl:i=l.length:=by omega
    rw [List.take_length] at hs
    (repeat' (first|(refine at_EL ?_;first|refine eN ?_|refine eV Z Z (zA Z Z) ?_|refine eV Z Z (zB Z Z) ?_|(refine at_bin ?_;first|refine eD Z Z (zL Z Z Z) (fun hh=>?_) (fun hh=>?_)))|(refine at_K ?_;first|refine K_then ?_|refine K_then_exit ?_|refine K_in_exit ?_)|(refine at_E ?_;first|refine E_seq ?_|refine E_region ?_|refine E_cond_t Z ?_|refine E_cond_f Z ?_|refine E_block ?_|refine E_skip ?_|refine E_ret ?_|refine E_exit ?_)))
    all_goals (first|(exfalso;omega)|skip)
    exact ret_1 Z Z ⟨hx,hs⟩
theorem sorted_any (l:List Int) (v:Value) (w:World) (hv:Sl w v l) (hlen:l.length≤1099511627776):Calls Tryz.prog 102 #[v] w (Rt fun u w'=>Ext w w'∧Sl w' u (sortedF l)):=calls_mono (sortedW_any l v w hv hlen) (fun _ _ h=>⟨h.1,h.2.any⟩)
end Go.Proofs.YtnifmbbpfdghmaaGreatDoor
