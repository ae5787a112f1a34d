/-
  Walks: the program's with, Find and Put. Walks: the program's Find and Put. Walk: the program's Take. Walks: num's Same and Has, lists' Same, the reference's role, less, Find, Same. Walks: Check, the program's and the reference's. An index in order: the place of a key is where it stands. Right indexes, plainly: what Put and Take do to them. Right indexes, plainly: Put, Take and Find. Right indexes, plainly: the reference's Put and Take. Right indexes, plainly: the reference's Put and Take are the program's.
-/
import Derived.Test.YtnifmbbpfdghmaaGreatDoorYf
import Derived.Test.YtnifmbbpfdghmaaGreatDoorY8
import Derived.Test.YtnifmbbpfdghmaaGreatDoorXa
set_option linter.all false
namespace Go.Proofs.YtnifmbbpfdghmaaGreatDoor.Ix
open Go.RowKit Go.En
theorem with_new {ids:List Int} {id:Int} {i:Nat} (h:withN ids id=i) (hne:ids[i]?≠some id):withF ids id=ids.take i++id::ids.drop i:=by
  unfold withF;rw [h,if_neg hne]
theorem with_old {ids:List Int} {id:Int} {i:Nat} (h:withN ids id=i) (hne:ids[i]?=some id):withF ids id=ids:=by
  unfold withF;rw [h,if_pos hne]
def Fr (G:Nat→Prop) (w:World):Nat→Prop:=fun b=>G b∨w.heap.size≤b
attribute [local irreducible] E EL K Val Enters Rt Calls bodyPost Code.wp RQ
set_option maxHeartbeats 1000000 in
set_option maxRecDepth 8000 in
theorem with_any {G : Nat → Prop} (ids : List Int) (id : Int) (v : Value) (w : World) (hv : SlG G w v ids) (hlen : ids.length ≤ 1099511627776) : Calls Tryz.prog 139 #[v, int id] w (Rt fun u w' => Ext w w' ∧ SlG (Fr G w) w' u (withF ids id)) := by
  refine calls_E (n:=56) (args:=[v,int id]) Tryz.func139 rfl Tryz.ntmps139 (by simp) ?_
  have hv0:=hv
  obtain⟨a,cap,rfl,hc,hm,hp⟩:=hv.sl
  (repeat' (first|(refine at_EL ?_;first|refine eN ?_|refine eV Z Z (zB Z Z) ?_)|(refine at_K ?_;first|refine K_then ?_)|(refine at_E ?_;first|refine E_seq ?_|refine E_region ?_|refine E_block ?_)))
  refine E_loop (ι:=Nat) (fun i=>[(0,.slice a ids.length cap),(1,int id),(5,int i)])
    (fun i wr=>i≤ids.length∧Ext w wr∧∀ j,j<i→∀ z,ids[j]?=some z→decide (z<id)=true) (fun i=>ids.length-i) 0
    ⟨rfl,rfl,rfl,trivial⟩ ⟨Nat.zero_le _,Ext.refl _,fun j hj=>by omega⟩ ?_
  rintro i wr ⟨hi,hx,hall⟩
  have hvr:=hv0.ext hx
  by_cases hlt:i<ids.length
  · obtain⟨b,off,rfl⟩:=hp (by omega)
    obtain⟨z,hz⟩:∃ z,ids[i]?=some z:=⟨_,List.getElem?_eq_getElem hlt⟩
    have hcell:=int_elem hvr hz
    by_cases hzl:z<id
    · (repeat' (first|refine eV Z Z (val_indexAddr (m:=i) Z Z Z Z hlt) ?_|refine eV Z Z (val_load Z Z Z hcell) ?_|(refine at_EL ?_;first|refine eN ?_|refine eO Z Z ?_|refine eV Z Z (zA Z Z) ?_|refine eV Z Z (zB Z Z) ?_|(refine at_bin ?_;first|refine eD Z Z (zL Z Z Z) (fun hh=>?_) (fun hh=>?_)|refine eD Z Z (zM Z Z Z) (fun hh=>?_) (fun hh=>?_)|refine eV Z Z (zU Z Z Z (by omega) (by omega)) ?_)|(refine at_call ?_;first|refine eV Z Z (zK Z Z) ?_)|refine eV Z Z (zC Z Z Z) ?_|refine eV Z Z (zD Z Z Z) ?_)|(refine at_K ?_;first|refine K_then ?_|refine K_in ?_|refine K_then_ret ?_|refine K_then_exit ?_|refine K_in_exit ?_)|(refine at_E ?_;first|refine E_seq ?_|refine E_region ?_|refine E_cond_t Z ?_|refine E_cond_f Z ?_|refine E_block ?_|refine E_skip ?_|refine E_ret ?_|refine E_exit ?_)))
      all_goals (first|(exfalso;omega)|skip)
      refine K_rnd (i+1) ⟨rfl,rfl,rfl,trivial⟩ ⟨by omega,hx,fun j hj q' hq'=>?_⟩ (by omega)
      by_cases hj2:j<i
      · exact hall j hj2 q' hq'
      · have:j=i:=by omega
        subst this
        rw [hz] at hq';cases hq'
        exact decide_eq_true hzl
    have hge:∀ z',ids[i]?=some z'→¬ z'<id:=fun z' hz'=>by rw [hz] at hz';cases hz';exact hzl
    by_cases hze:z=id
    · (repeat' (first|refine eV Z Z (val_indexAddr (m:=i) Z Z Z Z hlt) ?_|refine eV Z Z (val_load Z Z Z hcell) ?_|(refine at_EL ?_;first|refine eN ?_|refine eO Z Z ?_|refine eV Z Z (zA Z Z) ?_|refine eV Z Z (zB Z Z) ?_|(refine at_bin ?_;first|refine eD Z Z (zL Z Z Z) (fun hh=>?_) (fun hh=>?_)|refine eD Z Z (zM Z Z Z) (fun hh=>?_) (fun hh=>?_)|refine eV Z Z (zU Z Z Z (by omega) (by omega)) ?_)|(refine at_call ?_;first|refine eV Z Z (zK Z Z) ?_)|refine eV Z Z (zC Z Z Z) ?_|refine eV Z Z (zD Z Z Z) ?_)|(refine at_K ?_;first|refine K_then ?_|refine K_in ?_|refine K_then_ret ?_|refine K_then_exit ?_|refine K_in_exit ?_)|(refine at_E ?_;first|refine E_seq ?_|refine E_region ?_|refine E_cond_t Z ?_|refine E_cond_f Z ?_|refine E_block ?_|refine E_skip ?_|refine E_ret ?_|refine E_exit ?_)))
      all_goals (first|(exfalso;omega)|skip)
      refine ret_1 Z Z ⟨hx,?_⟩
      rw [with_old (withN_of hall hi hge) (by rw [hz,hze])]
      exact hvr.wk fun b h=>.inl h
    · have hnew:ids[i]?≠some id:=by rw [hz];simpa using hze
      (repeat' (first|refine eV Z Z (val_indexAddr (m:=i) Z Z Z Z hlt) ?_|refine eV Z Z (val_load Z Z Z hcell) ?_|(refine at_EL ?_;first|refine eN ?_|refine eO Z Z ?_|refine eV Z Z (zA Z Z) ?_|refine eV Z Z (zB Z Z) ?_|(refine at_bin ?_;first|refine eD Z Z (zL Z Z Z) (fun hh=>?_) (fun hh=>?_)|refine eD Z Z (zM Z Z Z) (fun hh=>?_) (fun hh=>?_)|refine eV Z Z (zU Z Z Z (by omega) (by omega)) ?_)|(refine at_call ?_;first|refine eV Z Z (zK Z Z) ?_)|refine eV Z Z (zC Z Z Z) ?_|refine eV Z Z (zD Z Z Z) ?_)|(refine at_K ?_;first|refine K_then ?_|refine K_in ?_|refine K_then_ret ?_|refine K_then_exit ?_|refine K_in_exit ?_)|(refine at_E ?_;first|refine E_seq ?_|refine E_region ?_|refine E_cond_t Z ?_|refine E_cond_f Z ?_|refine E_block ?_|refine E_skip ?_|refine E_ret ?_|refine E_exit ?_)))
      all_goals (first|(exfalso;omega)|skip)
      refine EL_make1 (m:=ids.length+1) Z Z Z Z Z (by omega) (by omega) Z (by omega) (by omega) (fun bM wM hbM rM xM=>?_)
      have hvM:=hvr.ext xM
      (repeat' (first|refine eV Z Z (val_slice_h (b:=i) Z Z Z Z (by omega)) ?_|(refine at_EL ?_;first|refine eN ?_|refine eV Z Z (zA Z Z) ?_|refine eV Z Z (zB Z Z) ?_)|(refine at_K ?_;first|refine K_then ?_)|(refine at_E ?_;first|refine E_seq ?_|refine E_region ?_)))
      refine EL_copy (cs:=(ids.take i).map int) (off:=0) rM (hx.trans xM) (by have:=hx.size;omega) Z Z Z Z Z (q:=i) (by omega) (by simp;omega) (fun h0=>⟨rfl,ints_sub (hvM.take hi) h0⟩) (by omega) (by simp;omega) (ints_one _) (fun w1 r1 x1 k1=>?_)
      (repeat' (first|refine eV Z Z (val_indexAddr (m:=i) Z Z Z Z (by omega)) ?_|(refine at_EL ?_;first|refine eN ?_|refine eV Z Z (zA Z Z) ?_)|(refine at_K ?_;first|refine K_then ?_)|(refine at_E ?_;first|refine E_seq ?_|refine E_region ?_)))
      refine EL_storeP (cs:=[int id]) r1 x1 (by have:=hx.size;omega) Z Z Z Z Z Z Z Z (by simp;omega) (fun w2 r2 x2 k2=>?_)
      have hv2:=hv0.ext x2
      (repeat' (first|refine yV Z Z (fun _ _ _=>val_slice_l (b:=i+1) Z Z Z (by omega) (by omega)) ?_|refine yV Z Z (fun _ _ _=>val_slice_l (b:=i) Z Z Z Z (by omega)) ?_|(refine at_EL ?_;first|refine eN ?_)|(refine at_K ?_;first|refine K_then ?_)|(refine at_E ?_;first|refine E_seq ?_|refine E_dq mixedOk (by kernel_rfl) Z ?_)|(refine at_RQ ?_;first|refine yN Z (fun wq xq=>?_)|refine yV Z Z (fun _ _ _=>zA Z Z) ?_|(refine at_binR ?_;first|refine yV Z Z (fun _ _ _=>zU Z Z Z (by omega) (by omega)) ?_))))
      refine EL_copy (cs:=(ids.drop i).map int) (off:=(i+1)*1) (r2.ext xq) (x2.trans xq) (by have:=hx.size;omega) Z Z Z Z Z (q:=ids.length-i) (by omega) (by simp) (fun h0=>⟨?_,ints_sub ((hv2.ext xq).drop hi) h0⟩) (by omega) (by simp;omega) (ints_one _) (fun w3 r3 x3 k3=>?_)
      · rw [if_neg (by simp at h0;omega),Option.map_some,addr_add,Nat.zero_add]
      (repeat' (first|(refine at_EL ?_;first|refine eN ?_|refine eV Z Z (zA Z Z) ?_|refine eV Z Z (zB Z Z) ?_)|(refine at_K ?_;first|refine K_then ?_)|(refine at_E ?_;first|refine E_seq ?_|refine E_region ?_|refine E_ret ?_)))
      refine ret_1 Z Z ⟨x3,?_⟩
      rw [with_new (withN_of hall hi (by first|exact hge|(intro z hz';have:=(List.getElem?_eq_some_iff.1 hz').1;omega))) (by first|exact hnew|(intro hz';have:=(List.getElem?_eq_some_iff.1 hz').1;omega))]
      rw [show 0+i*1=i by omega,show(i+1)*1=i+1 by omega,ins3 (by simp;omega) (by simp) (by simp;omega)] at r3
      have hs:=row_SlG (G:=Fr G w) (xs:=ids.take i++id::ids.drop i) (css:=(ids.take i++id::ids.drop i).map fun z=>[int z]) (cap:=ids.length+1) (by rw [ints_flat];simpa using r3) (ints_ats _ _) (.inr (by have:=hx.size;omega)) (by simp;omega) (by simp;omega)
      rwa [show(ids.take i++id::ids.drop i).length=ids.length+1 by simp;omega] at hs
  · have hi':i=ids.length:=by omega
    (repeat' (first|(refine at_EL ?_;first|refine eN ?_|refine eO Z Z ?_|refine eV Z Z (zA Z Z) ?_|(refine at_bin ?_;first|refine eD Z Z (zL Z Z Z) (fun hh=>?_) (fun hh=>?_)|refine eV Z Z (zU Z Z Z (by omega) (by omega)) ?_)|(refine at_call ?_;first|refine eV Z Z (zK Z Z) ?_)|refine eV Z Z (zD Z Z Z) ?_)|(refine at_K ?_;first|refine K_then ?_|refine K_then_exit ?_|refine K_in_exit ?_)|(refine at_E ?_;first|refine E_seq ?_|refine E_region ?_|refine E_cond_f Z ?_|refine E_skip ?_|refine E_exit ?_)))
    all_goals (first|(exfalso;omega)|skip)
    refine EL_make1 (m:=ids.length+1) Z Z Z Z Z (by omega) (by omega) Z (by omega) (by omega) (fun bM wM hbM rM xM=>?_)
    have hvM:=hvr.ext xM
    (repeat' (first|refine eV Z Z (val_slice_h (b:=i) Z Z Z Z (by omega)) ?_|(refine at_EL ?_;first|refine eN ?_|refine eV Z Z (zA Z Z) ?_|refine eV Z Z (zB Z Z) ?_)|(refine at_K ?_;first|refine K_then ?_)|(refine at_E ?_;first|refine E_seq ?_|refine E_region ?_)))
    refine EL_copy (cs:=(ids.take i).map int) (off:=0) rM (hx.trans xM) (by have:=hx.size;omega) Z Z Z Z Z (q:=i) (by omega) (by simp;omega) (fun h0=>⟨rfl,ints_sub (hvM.take hi) h0⟩) (by omega) (by simp;omega) (ints_one _) (fun w1 r1 x1 k1=>?_)
    (repeat' (first|refine eV Z Z (val_indexAddr (m:=i) Z Z Z Z (by omega)) ?_|(refine at_EL ?_;first|refine eN ?_|refine eV Z Z (zA Z Z) ?_)|(refine at_K ?_;first|refine K_then ?_)|(refine at_E ?_;first|refine E_seq ?_|refine E_region ?_)))
    refine EL_storeP (cs:=[int id]) r1 x1 (by have:=hx.size;omega) Z Z Z Z Z Z Z Z (by simp;omega) (fun w2 r2 x2 k2=>?_)
    have hv2:=hv0.ext x2
    (repeat' (first|refine yV Z Z (fun _ _ _=>val_slice_l (b:=i+1) Z Z Z (by omega) (by omega)) ?_|refine yV Z Z (fun _ _ _=>val_slice_l (b:=i) Z Z Z Z (by omega)) ?_|(refine at_EL ?_;first|refine eN ?_)|(refine at_K ?_;first|refine K_then ?_)|(refine at_E ?_;first|refine E_seq ?_|refine E_dq mixedOk (by kernel_rfl) Z ?_)|(refine at_RQ ?_;first|refine yN Z (fun wq xq=>?_)|refine yV Z Z (fun _ _ _=>zA Z Z) ?_|(refine at_binR ?_;first|refine yV Z Z (fun _ _ _=>zU Z Z Z (by omega) (by omega)) ?_))))
    refine EL_copy (cs:=(ids.drop i).map int) (off:=(i+1)*1) (r2.ext xq) (x2.trans xq) (by have:=hx.size;omega) Z Z Z Z Z (q:=ids.length-i) (by omega) (by simp) (fun h0=>⟨?_,ints_sub ((hv2.ext xq).drop hi) h0⟩) (by omega) (by simp;omega) (ints_one _) (fun w3 r3 x3 k3=>?_)
    · rw [if_neg (by simp at h0;omega),Option.map_some,addr_add,Nat.zero_add]
    (repeat' (first|(refine at_EL ?_;first|refine eN ?_|refine eV Z Z (zA Z Z) ?_|refine eV Z Z (zB Z Z) ?_)|(refine at_K ?_;first|refine K_then ?_)|(refine at_E ?_;first|refine E_seq ?_|refine E_region ?_|refine E_ret ?_)))
    refine ret_1 Z Z ⟨x3,?_⟩
    rw [with_new (withN_of hall hi (by first|exact hge|(intro z hz';have:=(List.getElem?_eq_some_iff.1 hz').1;omega))) (by first|exact hnew|(intro hz';have:=(List.getElem?_eq_some_iff.1 hz').1;omega))]
    rw [show 0+i*1=i by omega,show(i+1)*1=i+1 by omega,ins3 (by simp;omega) (by simp) (by simp;omega)] at r3
    have hs:=row_SlG (G:=Fr G w) (xs:=ids.take i++id::ids.drop i) (css:=(ids.take i++id::ids.drop i).map fun z=>[int z]) (cap:=ids.length+1) (by rw [ints_flat];simpa using r3) (ints_ats _ _) (.inr (by have:=hx.size;omega)) (by simp;omega) (by simp;omega)
    rwa [show(ids.take i++id::ids.drop i).length=ids.length+1 by simp;omega] at hs
end Go.Proofs.YtnifmbbpfdghmaaGreatDoor.Ix
namespace Go.Proofs.YtnifmbbpfdghmaaGreatDoor.Ix
open Go.RowKit Go.En
theorem place_ok {xs:List Post} {r:Int} {t:List UInt8} (h:placeB xs r t=true):∃ p,xs[placeN xs r t]?=some p∧p.role=r∧p.text=t:=by
  unfold placeB at h
  split at h
  · cases h
  · rename_i p hp;exact⟨p,hp,of_decide_eq_true h⟩
theorem place_no {xs:List Post} {r:Int} {t:List UInt8} (h:placeB xs r t=false):∀ p,xs[placeN xs r t]?=some p→¬ (p.role=r∧p.text=t):=by
  intro p hp
  unfold placeB at h
  rw [hp] at h
  exact of_decide_eq_false h
theorem put_out {xs:List Post} {r:Int} {t:List UInt8} {id:Int} (h:r<1∨5<r):putF xs r t id=xs:=by
  unfold putF isRole;rw [if_neg (by simp;omega)]
theorem put_old {xs:List Post} {r:Int} {t:List UInt8} {id:Int} {p:Post} (h1:¬ r<1) (h2:¬ 5<r) (hp:xs[placeN xs r t]?=some p) (h:p.role=r∧p.text=t):putF xs r t id=xs.set (placeN xs r t) ⟨p.role,p.text,withF p.ids id⟩:=by
  unfold putF isRole;rw [if_pos (by simp;omega),hp];exact if_pos h
theorem put_new {xs:List Post} {r:Int} {t:List UInt8} {id:Int} (h1:¬ r<1) (h2:¬ 5<r) (h:placeB xs r t=false):putF xs r t id=xs.take (placeN xs r t)++⟨r,t,[id]⟩::xs.drop (placeN xs r t):=by
  unfold putF isRole;rw [if_pos (by simp;omega)]
  split
  · rename_i p hp;exact if_neg (place_no h p hp)
  · rfl
def IxG (G:Nat→Prop) (w:World) (v:Value) (xs:List Post):Prop:=∃ s,v=.agg #[s]∧SlG G w s xs
abbrev Ix (w:World) (v:Value) (xs:List Post):Prop:=IxG Tt w v xs
theorem IxG.ext {G:Nat→Prop} {w w':World} {v:Value} {xs:List Post} (h:IxG G w v xs) (x:Ext w w'):IxG G w' v xs:=by
  obtain⟨s,hs,h⟩:=h;exact⟨s,hs,h.ext x⟩
theorem IxG.any {G:Nat→Prop} {w:World} {v:Value} {xs:List Post} (h:IxG G w v xs):Ix w v xs:=by
  obtain⟨s,hs,h⟩:=h;exact⟨s,hs,h.any⟩
def GO (G:Nat→Prop) (w:World):Nat→Prop:=fun b=>G b∧b<w.heap.size
theorem oldS {α:Type} [Rep α] {G:Nat→Prop} {w:World} {v:Value} {xs:List α} (h:SlG G w v xs):SlG (GO G w) w v xs:=h.move fun _ h1 h=>⟨⟨h1,h⟩,rfl⟩
theorem oldA {α:Type} [Rep α] {G:Nat→Prop} {w:World} {xs:List α} {css:List (List Value)} (h:AtsG G w xs css):AtsG (GO G w) w xs css:=AtsG.move h fun _ h1 h=>⟨⟨h1,h⟩,rfl⟩
theorem fr_of {G:Nat→Prop} {w w1:World} (h:w.heap.size≤w1.heap.size):∀ b,Fr (GO G w) w1 b→Fr G w b:=fun b hb=>hb.elim (fun h=>.inl h.1) (fun h'=>.inr (Nat.le_trans h h'))
attribute [local irreducible] E EL K Val Enters Rt Calls bodyPost Code.wp RQ
set_option maxHeartbeats 1000000 in
set_option maxRecDepth 8000 in
theorem put_any {G:Nat→Prop} (xs:List Post) (v:Value) (r:Int) (t:List UInt8) (id:Int) (w:World) (hv:SlG G w v xs) (hlen:xs.length≤1099511627776) (hids:∀ p∈xs,p.ids.length≤1099511627776) :
    Calls Tryz.prog 108 #[.agg #[v],int r,str t,int id] w (Rt fun u w'=>Ext w w'∧IxG (Fr G w) w' u (putF xs r t id)):=by
  refine calls_E (n:=79) (args:=[.agg #[v],int r,str t,int id]) Tryz.func108 rfl Tryz.ntmps108 (by simp) ?_
  have hv0:=hv
  obtain⟨a,cap,rfl,hc,hm,hp⟩:=hv.sl
  by_cases hr:r<1∨5<r
  · (repeat' (first|refine EL_box Z Z Z Z (fun bB wB xB hbB rB=>?_)|refine EL_alloc Z Z Z (fun bA wA xA hbA rA=>?_)|refine eV Z Z (val_loadA Z Z Z (rB.ext xA).at rfl) ?_|(refine at_EL ?_;first|refine eN ?_|refine eO Z Z ?_|refine eV Z Z (zA Z Z) ?_|(refine at_bin ?_;first|refine eD Z Z (zL Z Z Z) (fun hh=>?_) (fun hh=>?_)|refine eD Z Z (zO Z Z Z) (fun hh=>?_) (fun hh=>?_))|refine eV Z Z (zC Z Z Z) ?_|refine eV Z Z (zD Z Z Z) ?_)|(refine at_K ?_;first|refine K_then ?_)|(refine at_E ?_;first|refine E_seq ?_|refine E_region ?_|refine E_cond_t Z ?_|refine E_cond_f Z ?_|refine E_skip ?_)))
    all_goals (first|(exfalso;omega)|skip)
    all_goals
      refine EL_storeP (cs:=[.slice a xs.length cap]) rA (xB.trans xA) (by have:=xB.size;omega) Z Z Z Z Z Z Z Z (Nat.le_refl _) (fun w2 r2 x2 k2=>?_)
      (repeat' (first|(refine at_EL ?_;first|refine eN ?_)|(refine at_K ?_;first|refine K_then ?_|refine K_then_ret ?_)|(refine at_E ?_;first|refine E_ret ?_)))
      refine ret_c Z Z Z r2.at rfl ⟨x2,_,rfl,?_⟩
      rw [put_out hr]
      exact(hv0.ext x2).wk fun b h=>.inl h
  have hr1:¬ r<1:=fun h=>hr (.inl h)
  have hr2:¬ 5<r:=fun h=>hr (.inr h)
  have c42:=fun w (hv:SlG G w (.slice a xs.length cap) xs)=>place_any xs (.slice a xs.length cap) r t w hv.any
  have hpl:=placeN_le xs r t
  obtain⟨n,hn⟩:∃ n,n=placeN xs r t:=⟨_,rfl⟩
  rw [← hn] at c42 hpl
  cases hB:placeB xs r t with
  | true=>
    rw [hB] at c42
    obtain⟨p,hpp,hk⟩:=place_ok hB
    have hput:=put_old (id:=id) hr1 hr2 hpp hk
    rw [← hn] at hpp hput
    have hlt:=(List.getElem?_eq_some_iff.1 hpp).1
    obtain⟨b,off,rfl⟩:=hp (by omega)
    obtain⟨css,hA,hcs⟩:=hv0.css
    obtain⟨cp,hcp,iv,rfl,hiv⟩:=AllAt.get hA hpp
    have hfl:=AtsG.flat hA
    have hfl':css.flatten.length=xs.length*3:=hfl
    (repeat' (first|refine EL_box Z Z Z Z (fun bB wB xB hbB rB=>?_)|refine EL_alloc Z Z Z (fun bA wA xA hbA rA=>?_)|refine eV Z Z (val_loadA Z Z Z (rB.ext xA).at rfl) ?_|(refine EL_call Z Z (entersF Z Z en138) (c42 _ (hv0.ext (xB.trans xA))) (fun vC wC hC=>?_);obtain⟨rfl,xC⟩:=hC)|refine eV Z Z (val_load Z Z Z ((rB.ext (xA.trans xC)).cellAt rfl)) ?_|refine EL_makeN (m:=xs.length) Z Z Z Z Z Z Z (by omega) (by omega) (fun bM wM cur hbM rM hcl xM=>?_)|refine eV Z Z (val_load Z Z Z ((rB.ext (xA.trans (xC.trans xM))).cellAt rfl)) ?_|(refine at_EL ?_;first|refine eN ?_|refine eO Z Z ?_|refine eV Z Z (zA Z Z) ?_|refine eV Z Z (zB Z Z) ?_|(refine at_bin ?_;first|refine eD Z Z (zL Z Z Z) (fun hh=>?_) (fun hh=>?_)|refine eD Z Z (zO Z Z Z) (fun hh=>?_) (fun hh=>?_))|(refine at_call ?_;first|refine eV Z Z (zK Z Z) ?_)|refine eV Z Z (zC Z Z Z) ?_|refine eV Z Z (zD Z Z Z) ?_|refine eV Z Z (zF Z Z Z) ?_|refine eV Z Z (zH Z Z) ?_)|(refine at_K ?_;first|refine K_then ?_)|(refine at_E ?_;first|refine E_seq ?_|refine E_region ?_|refine E_cond_t Z ?_|refine E_cond_f Z ?_|refine E_skip ?_)))
    all_goals (first|(exfalso;omega)|skip)
    have x0:=xB.trans (xA.trans (xC.trans xM))
    have hge:w.heap.size≤bM:=by have:=(xB.trans (xA.trans xC)).size;omega
    refine EL_copy (cs:=css.flatten) (off:=0) rM x0 hge rfl rfl rfl rfl rfl (q:=xs.length) (by omega) hfl' (fun h0=>⟨rfl,by obtain⟨b,so,e1,_,e2⟩:=hcs h0;exact⟨b,so,e1,e2.ext x0⟩⟩) (by omega) (by omega) (AtsG.ones hA) (fun w1 r1 x1 k1=>?_)
    have r1':Row w1 bM 102 css.flatten:=by
      rw [List.take_zero,List.nil_append,List.drop_eq_nil_of_le (by omega),List.append_nil] at r1
      exact r1
    have hat1:At w1 bM (0+n*3) [int p.role,str p.text,iv]:=by
      obtain⟨iv2,h1,h2⟩:=post_elem (row_Sl (cap:=xs.length) r1' (AtsG.any (AtsG.ext hA x1)) (Nat.le_refl _) hm) hpp
      have h3:=h1.cellAt (j:=2) rfl
      have h4:=r1'.at.seg (n*3) (n:=3)
      have he:(css.flatten.drop (n*3)).take 3=[int p.role,str p.text,iv]:=by
        have hl:=AtsG.lens hA
        have h5:=flat_drop2 n hl
        obtain⟨hq,hq2⟩:=List.getElem?_eq_some_iff.1 hcp
        rw [show n*3=n*Rep.sz Post from rfl,← h5,List.drop_eq_getElem_cons hq,hq2]
        rfl
      rw [he] at h4
      exact h4
    (repeat' (first|refine eV Z Z (val_indexAddr (m:=n) Z Z Z Z hlt) ?_|refine eV Z Z (val_load Z Z Z (hat1.cellAt rfl)) ?_|(refine EL_call Z Z (entersF Z Z en139) (with_any p.ids id iv _ ((oldS hiv).ext x1) (hids p (List.mem_of_getElem? hpp))) (fun vW wW hW=>?_);obtain⟨xW,hW⟩:=hW)|(refine at_EL ?_;first|refine eN ?_|refine eV Z Z (zA Z Z) ?_|refine eV Z Z (zH Z Z) ?_)|(refine at_K ?_;first|refine K_then ?_)|(refine at_E ?_;first|refine E_seq ?_|refine E_region ?_)))
    have hW0:=hW
    obtain⟨aW,capW,rfl,_⟩:=hW
    refine EL_storeP (cs:=[_]) (r1'.ext xW) (x1.trans xW) hge rfl rfl rfl rfl rfl rfl rfl rfl (by simp only [List.length_singleton];omega) (fun w2 r2 x2 k2=>?_)
    rw [set_seg (by omega),show 0+n*3+2=n*3+2 by omega,show css.flatten.set (n*3+2) _=_ from(flat_upd (AtsG.lens hA) hcp (by decide)).symm] at r2
    have hge2:wM.heap.size≤w1.heap.size:=by have:=k1.size;omega
    have hAM:bA<bM:=by have:=rA.lt;have:=xC.size;omega
    have hmv:∀ b,Fr (GO G w) w1 b→b<wW.heap.size→Fr (GO G w) w1 b∧w2.heap[b]?=wW.heap[b]?:=k2.mv (fun b hb he=>by
      have:=rM.lt
      cases he
      rcases hb with⟨_,hb⟩|hb <;> omega)
    have hW2:=hW0.move hmv
    have hA2:AtsG (Fr (GO G w) w1) w2 (xs.set n ⟨p.role,p.text,withF p.ids id⟩) (css.set n [int p.role,str p.text,_]):=AllAt.set ⟨_,rfl,hW2⟩ n (AtsG.wk (AtsG.ext (oldA hA) x2) fun b h=>.inl h)
    have hne:some bA≠some bM:=fun h=>by cases h;omega
    have rA2:Row w2 bA 49 _:=k2.row ((k1.row (rA.ext (xC.trans xM)) hne).ext xW) hne
    (repeat' (first|refine eV Z Z (val_build (vs:=[(0,.slice (some ⟨bM,0,none⟩) xs.length xs.length)]) [.slice (some ⟨bM,0,none⟩) xs.length xs.length] rfl rfl rfl) ?_|(refine at_EL ?_;first|refine eN ?_|refine eV Z Z (zA Z Z) ?_)|(refine at_K ?_;first|refine K_then ?_)|(refine at_E ?_;first|refine E_seq ?_|refine E_region ?_)))
    refine EL_storeP (cs:=[_]) rA2 x2 (by have:=xB.size;omega) Z Z Z Z Z Z Z Z (Nat.le_refl _) (fun w3 r3 x3 k3=>?_)
    (repeat' (first|(refine at_EL ?_;first|refine eN ?_)|(refine at_K ?_;first|refine K_then ?_|refine K_then_ret ?_)|(refine at_E ?_;first|refine E_ret ?_)))
    refine ret_c Z Z Z r3.at rfl ⟨x3,_,rfl,?_⟩
    rw [hput]
    have hs:=row_SlG (G:=Fr G w) (cap:=xs.length) (k3.row r2 hne.symm) (AtsG.wk (AtsG.move hA2 (k3.mv (fun b hb he=>by
      have:=rA.lt;have:=xB.size;have:=xC.size;have:=xM.size
      cases he
      rcases hb with⟨_,hb⟩|hb <;> omega))) (fr_of x1.size)) (.inr hge) (by simp) (by simp;omega)
    rw [List.length_set] at hs
    exact hs
  | false=>
    rw [hB] at c42
    have hput:=put_new (id:=id) hr1 hr2 hB
    rw [← hn] at hput
    obtain⟨css1,hA1,hcs1⟩:=(hv0.take hpl).css
    obtain⟨css2,hA2,hcs2⟩:=(hv0.drop hpl).css
    have hf1:css1.flatten.length=n*3:=by rw [AtsG.flat hA1,List.length_take,Nat.min_eq_left hpl];rfl
    have hf2:css2.flatten.length=(xs.length-n)*3:=by rw [AtsG.flat hA2,List.length_drop];rfl
    (repeat' (first|refine EL_box Z Z Z Z (fun bB wB xB hbB rB=>?_)|refine EL_alloc Z Z Z (fun bA wA xA hbA rA=>?_)|refine eV Z Z (val_loadA Z Z Z (rB.ext xA).at rfl) ?_|(refine EL_call Z Z (entersF Z Z en138) (c42 _ (hv0.ext (xB.trans xA))) (fun vC wC hC=>?_);obtain⟨rfl,xC⟩:=hC)|refine eV Z Z (val_load Z Z Z ((rB.ext (xA.trans xC)).cellAt rfl)) ?_|refine EL_makeN (m:=xs.length+1) Z Z Z Z Z (by omega) (by omega) (by omega) (by omega) (fun bM wM cur hbM rM hcl xM=>?_)|refine eV Z Z (val_load Z Z Z ((rB.ext (xA.trans (xC.trans xM))).cellAt rfl)) ?_|refine eV Z Z (val_slice_h (b:=n) Z Z Z Z (by omega)) ?_|(refine at_EL ?_;first|refine eN ?_|refine eO Z Z ?_|refine eV Z Z (zA Z Z) ?_|refine eV Z Z (zB Z Z) ?_|(refine at_bin ?_;first|refine eD Z Z (zL Z Z Z) (fun hh=>?_) (fun hh=>?_)|refine eD Z Z (zO Z Z Z) (fun hh=>?_) (fun hh=>?_)|refine eV Z Z (zU Z Z Z (by omega) (by omega)) ?_)|(refine at_call ?_;first|refine eV Z Z (zK Z Z) ?_)|refine eV Z Z (zC Z Z Z) ?_|refine eV Z Z (zD Z Z Z) ?_|refine eV Z Z (zF Z Z Z) ?_|refine eV Z Z (zH Z Z) ?_)|(refine at_K ?_;first|refine K_then ?_)|(refine at_E ?_;first|refine E_seq ?_|refine E_region ?_|refine E_cond_t Z ?_|refine E_cond_f Z ?_|refine E_skip ?_)))
    all_goals (first|(exfalso;omega)|skip)
    have x0:=xB.trans (xA.trans (xC.trans xM))
    have hge:w.heap.size≤bM:=by have:=(xB.trans (xA.trans xC)).size;omega
    have hAM:bA<bM:=by have:=rA.lt;have:=xC.size;omega
    have hne:some bA≠some bM:=fun h=>by cases h;omega
    have hBM:bB<bM:=by have:=rB.lt;have:=xA.size;have:=xC.size;omega
    have hneB:some bB≠some bM:=fun h=>by cases h;omega
    refine EL_copy (cs:=css1.flatten) (off:=0) rM x0 hge rfl rfl rfl rfl rfl (q:=n) (by omega) hf1 (fun h0=>⟨rfl,by obtain⟨b,so,e1,_,e2⟩:=hcs1 h0;exact⟨b,so,e1,e2.ext x0⟩⟩) (by omega) (by omega) (AtsG.ones hA1) (fun w1 r1 x1 k1=>?_)
    have rB1:=k1.row (rB.ext (xA.trans (xC.trans xM))) hneB
    have rA1:=k1.row (rA.ext (xC.trans xM)) hne
    (repeat' (first|refine eV Z Z (val_build (vs:=[(0,int r),(1,str t),(2,.slice (some ⟨bS,0,none⟩) 1 1)]) [int r,str t,.slice (some ⟨bS,0,none⟩) 1 1] rfl rfl rfl) ?_|refine eV Z Z (val_indexAddr (m:=n) Z Z Z Z (by omega)) ?_|(refine at_EL ?_;first|refine eN ?_|refine eV Z Z (zA Z Z) ?_|refine eL Z Z Z Z Z Z Z Z (fun bS wS xS hbS rS=>?_))|(refine at_K ?_;first|refine K_then ?_)|(refine at_E ?_;first|refine E_seq ?_|refine E_region ?_)))
    refine EL_storeP (cs:=[_,_,_]) (r1.ext xS) (x1.trans xS) hge rfl rfl rfl rfl rfl rfl rfl rfl (by simp;omega) (fun w2 r2 x2 k2=>?_)
    have rB2:=k2.row (rB1.ext xS) hneB
    have rA2:=k2.row (rA1.ext xS) hne
    (repeat' (first|refine yV Z Z (fun wq _ xq=>val_load Z Z Z ((rB2.ext xq).cellAt rfl)) ?_|refine yV Z Z (fun _ _ _=>val_slice_l (b:=n+1) Z Z Z (by omega) (by omega)) ?_|refine yV Z Z (fun _ _ _=>val_slice_l (b:=n) Z Z Z Z (by omega)) ?_|(refine at_EL ?_;first|refine eN ?_)|(refine at_K ?_;first|refine K_then ?_)|(refine at_E ?_;first|refine E_seq ?_|refine E_dq mixedOk (by kernel_rfl) Z ?_)|(refine at_RQ ?_;first|refine yN Z (fun wq xq=>?_)|refine yV Z Z (fun _ _ _=>zA Z Z) ?_|(refine at_binR ?_;first|refine yV Z Z (fun _ _ _=>zU Z Z Z (by omega) (by omega)) ?_)|refine yV Z Z (fun _ _ _=>zH Z Z) ?_)))
    refine EL_copy (cs:=css2.flatten) (off:=(n+1)*3) (r2.ext xq) (x2.trans xq) hge rfl rfl rfl rfl rfl (q:=xs.length-n) (by omega) hf2 (fun h0=>⟨?_,by obtain⟨b,so,e1,_,e2⟩:=hcs2 h0;exact⟨b,so,e1,e2.ext (x2.trans xq)⟩⟩) (by omega) (by first|omega|(simp only [List.length_append,List.length_take,List.length_drop,List.length_cons,List.length_nil,List.length_set];omega)) (AtsG.ones hA2) (fun w3 r3 x3 k3=>?_)
    · rw [if_neg (by omega),Option.map_some,addr_add,Nat.zero_add]
    have rA3:=k3.row (rA2.ext xq) hne
    (repeat' (first|refine eV Z Z (val_build (vs:=[(0,.slice (some ⟨bM,0,none⟩) (xs.length+1) (xs.length+1))]) [.slice (some ⟨bM,0,none⟩) (xs.length+1) (xs.length+1)] rfl rfl rfl) ?_|(refine at_EL ?_;first|refine eN ?_|refine eV Z Z (zA Z Z) ?_)|(refine at_K ?_;first|refine K_then ?_)|(refine at_E ?_;first|refine E_seq ?_|refine E_region ?_)))
    refine EL_storeP (cs:=[_]) rA3 x3 (by have:=xB.size;omega) Z Z Z Z Z Z Z Z (Nat.le_refl _) (fun w4 r4 x4 k4=>?_)
    (repeat' (first|(refine at_EL ?_;first|refine eN ?_)|(refine at_K ?_;first|refine K_then ?_)|(refine at_E ?_;first|refine E_ret ?_)))
    refine ret_c Z Z Z r4.at rfl ⟨x4,_,rfl,?_⟩
    rw [hput]
    rw [show 0+n*3=n*3 by omega,ins3 hf1 (by first|omega|(simp only [List.length_append,List.length_take,List.length_drop,List.length_cons,List.length_nil,List.length_set];omega)) (by first|omega|(simp only [List.length_append,List.length_take,List.length_drop,List.length_cons,List.length_nil,List.length_set];omega))] at r3
    have hbS1:w1.heap.size≤bS:=by omega
    have rS4:Row w4 bS 3 [int id]:=k4.row (k3.row ((k2.row rS (fun h=>by cases h;have:=rM.lt;have:=k1.size;omega)).ext xq) (fun h=>by cases h;have:=rM.lt;have:=k1.size;omega)) (fun h=>by cases h;have:=rM.lt;have:=k1.size;omega)
    have hs:=row_SlG (G:=Fr G w) (xs:=xs.take n++⟨r,t,[id]⟩::xs.drop n) (css:=css1++[int r,str t,.slice (some ⟨bS,0,none⟩) 1 1]::css2) (cap:=xs.length+1) (k4.row (by simpa using r3) hne.symm)
      (AllAt.append (AtsG.wk (AtsG.ext hA1 x4) fun b h=>.inl h) ⟨⟨_,rfl,row_SlG (xs:=[id]) (css:=[[int id]]) rS4 ⟨rfl,trivial⟩ (.inr (by have:=x1.size;omega)) (Nat.le_refl _) (by simp)⟩,AtsG.wk (AtsG.ext hA2 x4) fun b h=>.inl h⟩) (.inr hge) (by simp;omega) (by simp;omega)
    rwa [show(xs.take n++⟨r,t,[id]⟩::xs.drop n).length=xs.length+1 by simp;omega] at hs
end Go.Proofs.YtnifmbbpfdghmaaGreatDoor.Ix
namespace Go.Proofs.YtnifmbbpfdghmaaGreatDoor.Ix
open Go.RowKit Go.En
theorem take_no {xs:List Post} {r:Int} {t:List UInt8} {id:Int} (h:placeB xs r t=false):takeF xs r t id=xs:=by
  unfold takeF
  split
  · rfl
  · rename_i p hp;exact if_neg (place_no h p hp)
theorem take_ok {xs:List Post} {r:Int} {t:List UInt8} {id:Int} {p:Post} (hp:xs[placeN xs r t]?=some p) (h:p.role=r∧p.text=t) :
    takeF xs r t id=xs.take (placeN xs r t)++((if (p.ids.filter fun n=>decide (n≠id))=[] then [] else [⟨r,t,p.ids.filter fun n=>decide (n≠id)⟩])++xs.drop (placeN xs r t+1)):=by
  unfold takeF;rw [hp];exact if_pos h
theorem filter_take {α:Type} {f:α→Bool} {l:List α} {k:Nat} {z:α} (h:l[k]?=some z):(l.take (k+1)).filter f=(l.take k).filter f++(if f z then [z] else []):=by
  obtain⟨hk,rfl⟩:=List.getElem?_eq_some_iff.1 h
  rw [List.take_succ_eq_append_getElem hk,List.filter_append]
  congr 1
  by_cases hz:f l[k] <;> simp [hz]
theorem filter_len {α:Type} (f:α→Bool) (l:List α) (k:Nat):((l.take k).filter f).length≤k:=Nat.le_trans (List.length_filter_le _ _) (List.length_take_le _ _)
attribute [local irreducible] E EL K Val Enters Rt Calls bodyPost Code.wp RQ
set_option maxHeartbeats 1000000 in
set_option maxRecDepth 8000 in
theorem take_any {G:Nat→Prop} (xs:List Post) (v:Value) (r:Int) (t:List UInt8) (id:Int) (w:World) (hv:SlG G w v xs) (hlen:xs.length≤1099511627776) (hids:∀ p∈xs,p.ids.length≤1099511627776) :
    Calls Tryz.prog 107 #[.agg #[v],int r,str t,int id] w (Rt fun u w'=>Ext w w'∧IxG (Fr G w) w' u (takeF xs r t id)):=by
  refine calls_E (n:=68) (args:=[.agg #[v],int r,str t,int id]) Tryz.func107 rfl Tryz.ntmps107 (by simp) ?_
  have hv0:=hv
  obtain⟨a,cap,rfl,hc,hm,hp⟩:=hv.sl
  have c42:=fun w (hv:SlG G w (.slice a xs.length cap) xs)=>place_any xs (.slice a xs.length cap) r t w hv.any
  have hpl:=placeN_le xs r t
  obtain⟨n,hn⟩:∃ n,n=placeN xs r t:=⟨_,rfl⟩
  rw [← hn] at c42 hpl
  cases hB:placeB xs r t with
  | false=>
    rw [hB] at c42
    (repeat' (first|refine EL_box Z Z Z Z (fun bB wB xB hbB rB=>?_)|refine EL_alloc Z Z Z (fun bA wA xA hbA rA=>?_)|refine eV Z Z (val_loadA Z Z Z (rB.ext xA).at rfl) ?_|(refine EL_call Z Z (entersF Z Z en138) (c42 _ (hv0.ext (xB.trans xA))) (fun vC wC hC=>?_);obtain⟨rfl,xC⟩:=hC)|refine eV Z Z (val_loadA Z Z Z (rB.ext (xA.trans xC)).at rfl) ?_|(refine at_EL ?_;first|refine eN ?_|refine eV Z Z (zA Z Z) ?_|refine eV Z Z (zB Z Z) ?_|refine eV Z Z (zE Z Z) ?_|refine eV Z Z (zF Z Z Z) ?_)|(refine at_K ?_;first|refine K_then ?_)|(refine at_E ?_;first|refine E_seq ?_|refine E_region ?_|refine E_cond_t Z ?_)))
    refine EL_storeP (cs:=[.slice a xs.length cap]) (rA.ext xC) (xB.trans (xA.trans xC)) (by have:=xB.size;omega) Z Z Z Z Z Z Z Z (Nat.le_refl _) (fun w2 r2 x2 k2=>?_)
    (repeat' (first|(refine at_EL ?_;first|refine eN ?_)|(refine at_K ?_;first|refine K_then ?_|refine K_then_ret ?_)|(refine at_E ?_;first|refine E_ret ?_)))
    refine ret_c Z Z Z r2.at rfl ⟨x2,_,rfl,?_⟩
    rw [take_no hB]
    exact(hv0.ext x2).wk fun b h=>.inl h
  | true=>
    rw [hB] at c42
    obtain⟨p,hpp,hk⟩:=place_ok hB
    have htk:=take_ok (id:=id) hpp hk
    rw [← hn] at hpp htk
    have hlt:=(List.getElem?_eq_some_iff.1 hpp).1
    have hidl:=hids p (List.mem_of_getElem? hpp)
    obtain⟨b,off,rfl⟩:=hp (by omega)
    obtain⟨css1,hA1,hcs1⟩:=(hv0.take hpl).css
    obtain⟨css3,hA3,hcs3⟩:=(hv0.drop hlt).css
    have hf1:css1.flatten.length=n*3:=by rw [AtsG.flat hA1,List.length_take,Nat.min_eq_left hpl];rfl
    have hf3:css3.flatten.length=(xs.length-(n+1))*3:=by rw [AtsG.flat hA3,List.length_drop];rfl
    have hif:(if cap=n+1 then some (⟨b,off,none⟩:Addr) else (some (⟨b,off,none⟩:Addr)).map (·.add ((n+1)*3)))=some ⟨b,if cap=n+1 then off else off+(n+1)*3,none⟩:=by
      split
      · rfl
      · rw [Option.map_some,addr_add]
    obtain⟨iv,hat,hiv⟩:=post_elem hv0 hpp
    have hiv0:=hiv
    obtain⟨a2,cap2,rfl,hc2,hm2,hp2⟩:=hiv.sl
    (repeat' (first|refine EL_box Z Z Z Z (fun bB wB xB hbB rB=>?_)|refine EL_alloc Z Z Z (fun bA wA xA hbA rA=>?_)|refine eV Z Z (val_loadA Z Z Z (rB.ext xA).at rfl) ?_|(refine EL_call Z Z (entersF Z Z en138) (c42 _ (hv0.ext (xB.trans xA))) (fun vC wC hC=>?_);obtain⟨rfl,xC⟩:=hC;have x0:=xB.trans (xA.trans xC);replace rB:=rB.ext (xA.trans xC))|refine eV Z Z (val_load Z Z Z (rB.cellAt rfl)) ?_|refine eV Z Z (val_indexAddr (m:=n) Z Z Z Z hlt) ?_|refine eV Z Z (val_load Z Z Z ((hat.ext x0).cellAt rfl)) ?_|(refine at_EL ?_;first|refine eN ?_|refine eV Z Z (zA Z Z) ?_|refine eV Z Z (zB Z Z) ?_|(refine at_call ?_;first|refine eV Z Z (zK Z Z) ?_)|refine eV Z Z (zE Z Z) ?_|refine eV Z Z (zF Z Z Z) ?_|refine eV Z Z (zH Z Z) ?_)|(refine at_K ?_;first|refine K_then ?_)|(refine at_E ?_;first|refine E_seq ?_|refine E_region ?_|refine E_cond_f Z ?_|refine E_block ?_|refine E_skip ?_)))
    refine E_loop (ι:=Nat × Value) (fun x=>[(1,int r),(2,str t),(3,int id),(4,.pointer (some ⟨bB,0,none⟩)),(8,.pointer (some ⟨bA,0,none⟩)),(9,int n),(11,x.2),(30,.slice a2 p.ids.length cap2),(31,int p.ids.length),(32,int x.1)])
      (fun x wr=>x.1≤p.ids.length∧Ext wC wr∧wr.ownsRow wC.heap.size 3 1 x.2 ((p.ids.take x.1).filter fun n=>decide (n≠id)).length (((p.ids.take x.1).filter fun n=>decide (n≠id)).map int)) (fun x=>p.ids.length-x.1) (0,.slice none 0 0)
      ⟨rfl,rfl,rfl,rfl,rfl,rfl,rfl,rfl,rfl,rfl,trivial⟩ ⟨Nat.zero_le _,Ext.refl _,World.ownsRow_nil _ _ _ _⟩ ?_
    rintro⟨k,vI⟩ wr ⟨hk1,hx,hown⟩
    dsimp only at hk1 hx hown ⊢
    have hfl:=filter_len (fun n=>decide (n≠id)) p.ids k
    by_cases hlt2:k<p.ids.length
    · obtain⟨b2,off2,rfl⟩:=hp2 (by omega)
      obtain⟨z,hz⟩:∃ z,p.ids[k]?=some z:=⟨_,List.getElem?_eq_getElem hlt2⟩
      have hcell:=int_elem (hiv0.ext (x0.trans hx)) hz
      have hft:=filter_take (f:=fun n=>decide (n≠id)) hz
      by_cases hze:z=id
      · rw [if_neg (by simp [hze]),List.append_nil] at hft
        (repeat' (first|refine eV Z Z (val_indexAddr (m:=k) Z Z Z Z hlt2) ?_|refine eV Z Z (val_load Z Z Z hcell) ?_|(refine at_EL ?_;first|refine eN ?_|refine eV Z Z (zA Z Z) ?_|refine eV Z Z (zB Z Z) ?_|(refine at_bin ?_;first|refine eD Z Z (zL Z Z Z) (fun hh=>?_) (fun hh=>?_)|refine eD Z Z (zQ Z Z Z) (fun hh=>?_) (fun hh=>?_)|refine eV Z Z (zU Z Z Z (by omega) (by omega)) ?_)|refine eV Z Z (zH Z Z) ?_|refine eL Z Z Z Z Z Z Z Z (fun bS wS xS hbS rS=>?_))|(refine at_K ?_;first|refine K_then ?_|refine K_in ?_|refine K_then_exit ?_|refine K_in_exit ?_)|(refine at_E ?_;first|refine E_seq ?_|refine E_region ?_|refine E_cond_t Z ?_|refine E_cond_f Z ?_|refine E_block ?_|refine E_skip ?_|refine E_exit ?_)))
        all_goals (first|(exfalso;omega)|skip)
        refine K_rnd (k+1,vI) ⟨rfl,rfl,rfl,rfl,rfl,rfl,rfl,rfl,rfl,rfl,trivial⟩ ⟨by dsimp only;omega,hx,?_⟩ (by dsimp only;omega)
        dsimp only
        rw [hft]
        exact hown
      · rw [if_pos (by simp [hze])] at hft
        (repeat' (first|refine eV Z Z (val_indexAddr (m:=k) Z Z Z Z hlt2) ?_|refine eV Z Z (val_load Z Z Z hcell) ?_|(refine EL_app (own_ext hown xS) (hx.trans xS) rS.at rfl rfl rfl rfl rfl rfl rfl rfl rfl (by omega) (by omega) (fun vJ wJ oJ xJ _=>?_))|(refine at_EL ?_;first|refine eN ?_|refine eV Z Z (zA Z Z) ?_|refine eV Z Z (zB Z Z) ?_|(refine at_bin ?_;first|refine eD Z Z (zL Z Z Z) (fun hh=>?_) (fun hh=>?_)|refine eD Z Z (zQ Z Z Z) (fun hh=>?_) (fun hh=>?_)|refine eV Z Z (zU Z Z Z (by omega) (by omega)) ?_)|refine eV Z Z (zH Z Z) ?_|refine eL Z Z Z Z Z Z Z Z (fun bS wS xS hbS rS=>?_))|(refine at_K ?_;first|refine K_then ?_|refine K_in ?_|refine K_then_exit ?_|refine K_in_exit ?_)|(refine at_E ?_;first|refine E_seq ?_|refine E_region ?_|refine E_cond_t Z ?_|refine E_cond_f Z ?_|refine E_block ?_|refine E_skip ?_|refine E_exit ?_)))
        all_goals (first|(exfalso;omega)|skip)
        refine K_rnd (k+1,vJ) ⟨rfl,rfl,rfl,rfl,rfl,rfl,rfl,rfl,rfl,rfl,trivial⟩ ⟨by dsimp only;omega,xJ,?_⟩ (by dsimp only;omega)
        dsimp only
        rw [hft]
        simpa [Value.cells] using oJ
    · obtain rfl:k=p.ids.length:=by omega
      rw [List.take_length] at hown hfl
      obtain⟨ids,hidd⟩:∃ ids,ids=p.ids.filter fun n=>decide (n≠id):=⟨_,rfl⟩
      rw [← hidd] at hown htk hfl
      have hVs:SlG (Fr (GO G w) wC) wr vI ids:=own_SlG (css:=ids.map fun z=>[int z]) (by rw [ints_flat];exact hown) (ints_ats _ _) (fun b hb=>.inr hb) rfl (by omega)
      have hVs0:=hVs
      obtain⟨aI,capI,rfl,hcI,hmI,hpI⟩:=hVs.sl
      have x3:=hx
      have rA3:=rA.ext (xC.trans hx)
      (repeat' (first|refine eV Z Z (val_load Z Z Z ((rB.ext hx).cellAt rfl)) ?_|refine eV Z Z (val_slice_h (b:=n) Z Z Z Z (by omega)) ?_|(refine at_EL ?_;first|refine eN ?_|refine eV Z Z (zA Z Z) ?_|refine eV Z Z (zB Z Z) ?_|(refine at_bin ?_;first|refine eD Z Z (zL Z Z Z) (fun hh=>?_) (fun hh=>?_))|refine eV Z Z (zH Z Z) ?_)|(refine at_K ?_;first|refine K_then ?_|refine K_then_exit ?_|refine K_in_exit ?_)|(refine at_E ?_;first|refine E_seq ?_|refine E_region ?_|refine E_cond_t Z ?_|refine E_cond_f Z ?_|refine E_block ?_|refine E_skip ?_|refine E_exit ?_)))
      all_goals (first|(exfalso;omega)|skip)
      refine EL_appB (w0:=wr) (news:=css1.flatten) (World.ownsRow_nil _ _ _ _) (Ext.refl _) (fun h0=>?_) Z Z Z Z Z hf1 (AtsG.ones hA1) Z Z (by omega) (by omega) (fun vP wP oP xP _ _=>?_)
      · obtain⟨b',so,e1,_,e2⟩:=hcs1 (by omega)
        cases e1
        exact e2.ext (x0.trans hx)
      by_cases hnil:ids=[]
      · have hl0:ids.length=0:=by rw [hnil];rfl
        rw [if_pos hnil,List.nil_append] at htk
        (repeat' (first|(refine eV Z Z (val_slice_l (b:=n+1) Z Z Z (by omega) (by omega)) ?_;rw [hif])|refine eV Z Z (val_load Z Z Z ((rB.ext (x3.trans xP)).cellAt rfl)) ?_|(refine at_EL ?_;first|refine eN ?_|refine eV Z Z (zA Z Z) ?_|refine eV Z Z (zB Z Z) ?_|(refine at_bin ?_;first|refine eD Z Z (zO Z Z Z) (fun hh=>?_) (fun hh=>?_)|refine eV Z Z (zU Z Z Z (by omega) (by omega)) ?_)|(refine at_call ?_;first|refine eV Z Z (zK Z Z) ?_)|refine eV Z Z (zH Z Z) ?_)|(refine at_K ?_;first|refine K_then ?_)|(refine at_E ?_;first|refine E_seq ?_|refine E_region ?_|refine E_cond_t Z ?_|refine E_cond_f Z ?_|refine E_skip ?_)))
        all_goals (first|(exfalso;omega)|skip)
        refine EL_appB (news:=css3.flatten) oP xP (fun h0=>?_) Z Z Z Z Z hf3 (AtsG.ones hA3) Z Z (by omega) (by omega) (fun vQ wQ oQ xQ _ _=>?_)
        · obtain⟨b',so,e1,_,e2⟩:=hcs3 (by omega)
          cases hif.symm.trans e1
          exact e2.ext (x0.trans (x3.trans xP))
        have hQ:SlG (Fr (GO G w) wC) wQ vQ (xs.take n++xs.drop (n+1)):=own_SlG (css:=css1++css3) (by simpa [show Rep.sz Post=3 from rfl] using oQ)
          (AllAt.append (AtsG.wk (AtsG.ext (oldA hA1) (x0.trans (x3.trans xQ))) fun b h=>.inl h) (AtsG.wk (AtsG.ext (oldA hA3) (x0.trans (x3.trans xQ))) fun b h=>.inl h)) (fun b hb=>.inr (by have:=hx.size;omega)) (by first|omega|(simp only [List.length_append,List.length_take,List.length_drop,List.length_cons,List.length_nil,List.length_set];omega)) (by first|omega|(simp only [List.length_append,List.length_take,List.length_drop,List.length_cons,List.length_nil,List.length_set];omega))
        have hQ0:=hQ
        obtain⟨aQ,capQ,rfl,_⟩:=hQ.sl
        (repeat' (first|refine eV Z Z (val_build (vs:=[(0,.slice aQ _ capQ)]) [.slice aQ _ capQ] rfl rfl rfl) ?_))
        refine EL_storeP (cs:=[_]) (rA3.ext xQ) (x0.trans (x3.trans xQ)) (by have:=xB.size;omega) Z Z Z Z Z Z Z Z (Nat.le_refl _) (fun w9 r9 x9 k9=>?_)
        (repeat' (first|(refine at_EL ?_;first|refine eN ?_)|(refine at_K ?_;first|refine K_then ?_)|(refine at_E ?_;first|refine E_ret ?_)))
        refine ret_c Z Z Z r9.at rfl ⟨x9,_,rfl,?_⟩
        rw [htk]
        exact(hQ0.move (k9.mv fun b hb he=>by
          have:=rA.lt;have:=xB.size;have:=xC.size
          cases he
          rcases hb with⟨_,hb⟩|hb <;> omega)).wk (fr_of x0.size)
      · have hl0:0<ids.length:=List.length_pos_iff.2 hnil
        rw [if_neg hnil,List.singleton_append] at htk
        (repeat' (first|refine eV Z Z (val_build (vs:=[(0,int r),(1,str t),(2,.slice aI ids.length capI)]) [int r,str t,.slice aI ids.length capI] rfl rfl rfl) ?_|(refine EL_appB (news:=[int r,str t,.slice aI ids.length capI]) (own_ext oP xS) (xP.trans xS) (fun _=>rS.at) Z Z Z Z Z Z Z Z Z (by omega) (by omega) (fun vR wR oR xR _ _=>?_);clear oP)|(refine eV Z Z (val_slice_l (b:=n+1) Z Z Z (by omega) (by omega)) ?_;rw [hif])|refine eV Z Z (val_load Z Z Z ((rB.ext (x3.trans xR)).cellAt rfl)) ?_|(refine at_EL ?_;first|refine eN ?_|refine eV Z Z (zA Z Z) ?_|refine eV Z Z (zB Z Z) ?_|(refine at_bin ?_;first|refine eD Z Z (zO Z Z Z) (fun hh=>?_) (fun hh=>?_)|refine eV Z Z (zU Z Z Z (by omega) (by omega)) ?_)|(refine at_call ?_;first|refine eV Z Z (zK Z Z) ?_)|refine eV Z Z (zH Z Z) ?_|refine eL Z Z Z Z Z Z Z Z (fun bS wS xS hbS rS=>?_))|(refine at_K ?_;first|refine K_then ?_)|(refine at_E ?_;first|refine E_seq ?_|refine E_region ?_|refine E_cond_t Z ?_|refine E_cond_f Z ?_|refine E_skip ?_)))
        all_goals (first|(exfalso;omega)|skip)
        refine EL_appB (news:=css3.flatten) oR xR (fun h0=>?_) Z Z Z Z Z hf3 (AtsG.ones hA3) Z Z (by omega) (by omega) (fun vQ wQ oQ xQ _ _=>?_)
        · obtain⟨b',so,e1,_,e2⟩:=hcs3 (by omega)
          cases hif.symm.trans e1
          exact e2.ext (x0.trans (x3.trans xR))
        have hQ:SlG (Fr (GO G w) wC) wQ vQ (xs.take n++⟨r,t,ids⟩::xs.drop (n+1)):=own_SlG (css:=css1++[int r,str t,.slice aI ids.length capI]::css3) (by simpa [show Rep.sz Post=3 from rfl] using oQ)
          (AllAt.append (AtsG.wk (AtsG.ext (oldA hA1) (x0.trans (x3.trans xQ))) fun b h=>.inl h) ⟨⟨_,rfl,hVs0.ext xQ⟩,AtsG.wk (AtsG.ext (oldA hA3) (x0.trans (x3.trans xQ))) fun b h=>.inl h⟩) (fun b hb=>.inr (by have:=hx.size;omega)) (by first|omega|(simp only [List.length_append,List.length_take,List.length_drop,List.length_cons,List.length_nil,List.length_set];omega)) (by first|omega|(simp only [List.length_append,List.length_take,List.length_drop,List.length_cons,List.length_nil,List.length_set];omega))
        have hQ0:=hQ
        obtain⟨aQ,capQ,rfl,_⟩:=hQ.sl
        (repeat' (first|refine eV Z Z (val_build (vs:=[(0,.slice aQ _ capQ)]) [.slice aQ _ capQ] rfl rfl rfl) ?_))
        refine EL_storeP (cs:=[_]) (rA3.ext xQ) (x0.trans (x3.trans xQ)) (by have:=xB.size;omega) Z Z Z Z Z Z Z Z (Nat.le_refl _) (fun w9 r9 x9 k9=>?_)
        (repeat' (first|(refine at_EL ?_;first|refine eN ?_)|(refine at_K ?_;first|refine K_then ?_)|(refine at_E ?_;first|refine E_ret ?_)))
        refine ret_c Z Z Z r9.at rfl ⟨x9,_,rfl,?_⟩
        rw [htk]
        exact(hQ0.move (k9.mv fun b hb he=>by
          have:=rA.lt;have:=xB.size;have:=xC.size
          cases he
          rcases hb with⟨_,hb⟩|hb <;> omega)).wk (fr_of x0.size)
end Go.Proofs.YtnifmbbpfdghmaaGreatDoor.Ix
namespace Go.Proofs.YtnifmbbpfdghmaaGreatDoor.Ix
open Go.RowKit Go.En
theorem txt_elem {G:Nat→Prop} {w:World} {b off n cap:Nat} {xs:List Txt} (h:SlG G w (.slice (some ⟨b,off,none⟩) n cap) xs) {i:Nat} {x:Txt} (hx:xs[i]?=some x):w.cell? ⟨b,off+i*1,none⟩=some (str x.l):=by
  obtain⟨cs,h1,h2⟩:=h.elem hx
  rw [show cs=[str x.l] from h1] at h2
  exact h2.one
theorem txt_ne {x y:Txt} (h:¬ x=y):¬ x.l=y.l:=fun e=>h (by cases x;cases y;simpa using e)
attribute [local irreducible] E EL K Val Enters Rt Calls bodyPost Code.wp RQ
set_option maxRecDepth 8000 in
theorem role_any (r:Int) (w:World):Calls Tryz.prog 125 #[int r] w (Rt fun u w'=>u=.bool (isRole r)∧Ext w w'):=by
  refine calls_E (n:=9) (args:=[int r]) Tryz.func125 rfl Tryz.ntmps125 (by simp) ?_
  (repeat' (first|(refine at_EL ?_;first|refine eN ?_|refine eO Z Z ?_|refine eV Z Z (zA Z Z) ?_|refine eV Z Z (zB Z Z) ?_|(refine at_bin ?_;first|refine eD Z Z (zN Z Z Z) (fun hh=>?_) (fun hh=>?_)|refine eD Z Z (zP Z Z Z) (fun hh=>?_) (fun hh=>?_))|refine eV Z Z (zC Z Z Z) ?_|refine eV Z Z (zD Z Z Z) ?_)|(refine at_K ?_;first|refine K_then ?_)|(refine at_E ?_;first|refine E_seq ?_|refine E_region ?_|refine E_ret ?_)))
  all_goals (first|(exfalso;omega)|skip)
  all_goals refine ret_1 Z Z ⟨?_,Ext.refl _⟩
  all_goals (unfold isRole;simp;omega)
set_option maxRecDepth 8000 in
theorem less_any (p q:Post) (iv iv':Value) (w:World):Calls Tryz.prog 126 #[.agg #[int p.role,str p.text,iv],.agg #[int q.role,str q.text,iv']] w (Rt fun u w'=>u=.bool (decide (ltK p.role p.text q.role q.text))∧Ext w w'):=by
  refine calls_E (n:=24) (args:=[.agg #[int p.role,str p.text,iv],.agg #[int q.role,str q.text,iv']]) Tryz.func126 rfl Tryz.ntmps126 (by simp) ?_
  refine E_seq ?_
  refine E_region ?_
  refine EL_box Z Z Z Z (fun bB wB xB hbB rB=>?_)
  refine EL_box Z Z Z Z (fun bC wC xC hbC rC=>?_)
  have rB':=rB.ext xC
  (repeat' (first|refine eV Z Z (val_load Z Z Z (rB'.cellAt rfl)) ?_|refine eV Z Z (val_load Z Z Z (rC.cellAt rfl)) ?_|(refine at_EL ?_;first|refine eN ?_|refine eO Z Z ?_|refine eV Z Z (zA Z Z) ?_|refine eV Z Z (zB Z Z) ?_|(refine at_bin ?_;first|refine eD Z Z (zL Z Z Z) (fun hh=>?_) (fun hh=>?_)|refine eD Z Z (zM Z Z Z) (fun hh=>?_) (fun hh=>?_)|refine eD Z Z (zT Z Z Z) (fun hh=>?_) (fun hh=>?_))|refine eV Z Z (zC Z Z Z) ?_|refine eV Z Z (zD Z Z Z) ?_|refine eV Z Z (zH Z Z) ?_)|(refine at_K ?_;first|refine K_then ?_)|(refine at_E ?_;first|refine E_seq ?_|refine E_region ?_|refine E_ret ?_)))
  all_goals (first|(exfalso;omega)|skip)
  all_goals refine ret_1 Z Z ⟨?_,xB.trans xC⟩
  all_goals (unfold ltK;congr 1;simp only [*];simp)
def rfindF (xs:List Post) (r:Int) (t:List UInt8):List Int:=match xs.find? fun p=>decide (p.role=r∧p.text=t) with|none=>[]|some p=>p.ids
set_option maxRecDepth 8000 in
theorem rfind_any (xs : List Post) (v : Value) (r : Int) (t : List UInt8) (w : World) (hv : Sl w v xs) : Calls Tryz.prog 159 #[.agg #[v], int r, str t] w (Rt fun u w' => Ext w w' ∧ Sl w' u (rfindF xs r t)) := by
  refine calls_E (n:=39) (args:=[.agg #[v],int r,str t]) Tryz.func159 rfl Tryz.ntmps159 (by simp) ?_
  have hv0:=hv
  obtain⟨a,cap,rfl,hc,hm,hp⟩:=hv.sl
  (repeat' (first|refine EL_box Z Z Z Z (fun bB wB xB hbB rB=>?_)|(refine at_EL ?_;first|refine eN ?_|refine eV Z Z (zB Z Z) ?_)|(refine at_K ?_;first|refine K_then ?_)|(refine at_E ?_;first|refine E_seq ?_|refine E_region ?_|refine E_block ?_)))
  refine E_loop (ι:=Nat) (fun i=>[(1,int r),(2,str t),(3,.pointer (some ⟨bB,0,none⟩)),(7,int i)])
    (fun i wr=>i≤xs.length∧Ext wB wr∧∀ j,j<i→∀ q,xs[j]?=some q→decide (q.role=r∧q.text=t)=false) (fun i=>xs.length-i) 0
    ⟨rfl,rfl,rfl,rfl,trivial⟩ ⟨Nat.zero_le _,Ext.refl _,fun j hj=>by omega⟩ ?_
  rintro i wr ⟨hi,hx,hall⟩
  have rR:=rB.ext hx
  have hvr:=hv0.ext (xB.trans hx)
  by_cases hlt:i<xs.length
  · obtain⟨b,off,rfl⟩:=hp (by omega)
    obtain⟨q,hq⟩:∃ q,xs[i]?=some q:=⟨_,List.getElem?_eq_getElem hlt⟩
    obtain⟨iv,hat,hiv⟩:=post_elem hvr hq
    (repeat' (first|refine eV Z Z (val_load Z Z Z (rR.cellAt rfl)) ?_|refine eV Z Z (val_indexAddr (m:=i) Z Z Z Z hlt) ?_|refine eV Z Z (val_load Z Z Z (hat.cellAt (j:=0) Z)) ?_|refine eV Z Z (val_load Z Z Z (hat.cellAt (j:=1) Z)) ?_|refine eV Z Z (val_load Z Z Z (hat.cellAt (j:=2) Z)) ?_|(refine at_EL ?_;first|refine eN ?_|refine eO Z Z ?_|refine eV Z Z (zA Z Z) ?_|refine eV Z Z (zB Z Z) ?_|(refine at_bin ?_;first|refine eD Z Z (zL Z Z Z) (fun hh=>?_) (fun hh=>?_)|refine eD Z Z (zM Z Z Z) (fun hh=>?_) (fun hh=>?_)|refine eD Z Z (zR Z Z Z) (fun hh=>?_) (fun hh=>?_)|refine eV Z Z (zU Z Z Z (by omega) (by omega)) ?_)|(refine at_call ?_;first|refine eV Z Z (zK Z Z) ?_)|refine eV Z Z (zC Z Z Z) ?_|refine eV Z Z (zD Z Z Z) ?_|refine eV Z Z (zH Z Z) ?_)|(refine at_K ?_;first|refine K_then ?_|refine K_in ?_|refine K_then_ret ?_|refine K_then_exit ?_|refine K_in_ret ?_|refine K_in_exit ?_)|(refine at_E ?_;first|refine E_seq ?_|refine E_region ?_|refine E_cond_t Z ?_|refine E_cond_f Z ?_|refine E_block ?_|refine E_skip ?_|refine E_ret ?_|refine E_exit ?_)))
    all_goals (first|(exfalso;omega)|skip)
    · refine ret_1 Z Z ⟨xB.trans hx,?_⟩
      have h1:q.role=r:=by assumption
      have h2:q.text=t:=by assumption
      unfold rfindF
      rw [find_here hall hq (by simp [h1,h2])]
      exact hiv
    all_goals
      refine K_rnd (i+1) ⟨rfl,rfl,rfl,rfl,trivial⟩ ⟨by omega,hx,fun j hj q' hq'=>?_⟩ (by omega)
      by_cases hj2:j<i
      · exact hall j hj2 q' hq'
      · obtain rfl:j=i:=by omega
        rw [hq] at hq';cases hq'
        rw [decide_eq_false]
        rintro⟨h1,h2⟩
        contradiction
  · (repeat' (first|refine eV Z Z (val_load Z Z Z (rR.cellAt rfl)) ?_|(refine at_EL ?_;first|refine eN ?_|refine eV Z Z (zA Z Z) ?_|refine eV Z Z (zB Z Z) ?_|(refine at_bin ?_;first|refine eD Z Z (zL Z Z Z) (fun hh=>?_) (fun hh=>?_))|(refine at_call ?_;first|refine eV Z Z (zK Z Z) ?_)|refine eV Z Z (zH Z Z) ?_)|(refine at_K ?_;first|refine K_then ?_|refine K_then_exit ?_|refine K_in_exit ?_)|(refine at_E ?_;first|refine E_seq ?_|refine E_region ?_|refine E_cond_t Z ?_|refine E_cond_f Z ?_|refine E_block ?_|refine E_skip ?_|refine E_ret ?_|refine E_exit ?_)))
    all_goals (first|(exfalso;omega)|skip)
    refine ret_1 Z Z ⟨xB.trans hx,?_⟩
    unfold rfindF
    rw [List.find?_eq_none.2 (fun q hq=>by
      obtain⟨j,hj⟩:=List.getElem?_of_mem hq
      have:=(List.getElem?_eq_some_iff.1 hj).1
      rw [hall j (by omega) q hj];simp)]
    exact SlG.nil
end Go.Proofs.YtnifmbbpfdghmaaGreatDoor.Ix
namespace Go.Proofs.YtnifmbbpfdghmaaGreatDoor.Ix
open Go.RowKit Go.En
attribute [local irreducible] E EL K Val Enters Rt Calls bodyPost Code.wp RQ
end Go.Proofs.YtnifmbbpfdghmaaGreatDoor.Ix
namespace Go.Proofs.YtnifmbbpfdghmaaGreatDoor.Ix
open Go.RowKit Go.En
def Ordered (xs:List Post):Prop:=∀(i j:Nat) (p q:Post),i<j→xs[i]?=some p→xs[j]?=some q→ltK p.role p.text q.role q.text
theorem place_of {xs:List Post} (ho:Ordered xs) {i:Nat} {p:Post} (hp:xs[i]?=some p):placeN xs p.role p.text=i:=by
  refine takeWhile_stop2 (fun j hj q hq=>decide_eq_true (ho j i q p hj hq hp)) (by have:=(List.getElem?_eq_some_iff.1 hp).1;omega) (fun q hq=>?_)
  rw [hp] at hq;cases hq
  exact decide_eq_false ltK_irrefl
theorem find_eq {xs:List Post} (ho:Ordered xs) (r:Int) (t:List UInt8):findF xs r t=rfindF xs r t:=by
  unfold rfindF
  cases hf:xs.find? fun p=>decide (p.role=r∧p.text=t) with
  | none=>
    have hno:=List.find?_eq_none.1 hf
    unfold findF
    split
    · rfl
    · rename_i p hp
      exact if_neg (by have:=hno p (List.mem_of_getElem? hp);simpa using this)
  | some p=>
    have hm:=List.mem_of_find?_eq_some hf
    have hk:=List.find?_some hf
    simp only [decide_eq_true_eq] at hk
    obtain⟨i,hi⟩:=List.getElem?_of_mem hm
    obtain⟨rfl,rfl⟩:=hk
    have hpl:=place_of ho hi
    unfold findF
    rw [hpl,hi]
    exact if_pos ⟨rfl,rfl⟩
end Go.Proofs.YtnifmbbpfdghmaaGreatDoor.Ix
namespace Go.Proofs.YtnifmbbpfdghmaaGreatDoor.Ix
open Go.RowKit Go.En
def Good (p:Post):Prop:=isRole p.role=true∧p.ids≠[]∧rise p.ids=true
def Right (xs:List Post):Prop:=(∀ p∈xs,Good p)∧Ordered xs
theorem ord_cons {x : Post} {r : List Post} : Ordered (x :: r) ↔ (∀ p ∈ r, ltK x.role x.text p.role p.text) ∧ Ordered r := by
  constructor
  · intro h
    refine⟨fun p hp=>?_,fun i j p q hij hp hq=>h (i+1) (j+1) p q (by omega) (by simpa using hp) (by simpa using hq)⟩
    obtain⟨j,hj⟩:=List.getElem?_of_mem hp
    exact h 0 (j+1) x p (by omega) rfl (by simpa using hj)
  · rintro⟨h1,h2⟩ i j p q hij hp hq
    cases j with
    | zero=>omega
    | succ j=>
      cases i with
      | zero=>
        simp at hp hq;subst hp
        exact h1 q (List.mem_of_getElem? hq)
      | succ i=>exact h2 i j p q (by omega) (by simpa using hp) (by simpa using hq)
theorem ord_app {A B:List Post}:Ordered (A++B)↔Ordered A∧Ordered B∧∀ p∈A,∀ q∈B,ltK p.role p.text q.role q.text:=by
  induction A with
  | nil=>simp [Ordered]
  | cons x r ih=>
    rw [List.cons_append,ord_cons,ih,ord_cons]
    constructor
    · rintro⟨h1,h2,h3,h4⟩
      refine⟨⟨fun p hp=>h1 p (List.mem_append_left _ hp),h2⟩,h3,fun p hp q hq=>?_⟩
      rcases List.mem_cons.1 hp with rfl|hp
      · exact h1 q (List.mem_append_right _ hq)
      · exact h4 p hp q hq
    · rintro⟨⟨h1,h2⟩,h3,h4⟩
      refine⟨fun p hp=>?_,h2,h3,fun p hp q hq=>h4 p (List.mem_cons_of_mem _ hp) q hq⟩
      rcases List.mem_append.1 hp with hp|hp
      · exact h1 p hp
      · exact h4 x (List.mem_cons_self ..) p hp
theorem tw_mem2 {α:Type} {f:α→Bool} {x:α}:∀ {l:List α},x∈l.takeWhile f→f x=true
  | [],h=>by simp at h
  | a :: l, h => by
    by_cases ha:f a=true
    · rw [List.takeWhile_cons_of_pos ha] at h
      rcases List.mem_cons.1 h with rfl|h
      · exact ha
      · exact tw_mem2 h
    · rw [List.takeWhile_cons_of_neg ha] at h;simp at h
theorem split {xs:List Post} (ho:Ordered xs) (r:Int) (t:List UInt8) :
    ∃ A B,A.length=placeN xs r t∧(∀ p∈A,ltK p.role p.text r t)∧((xs=A++B∧(∀ p∈B,ltK r t p.role p.text))∨∃ p,xs=A++p::B∧p.role=r∧p.text=t∧∀ q∈B,ltK r t q.role q.text):=by
  obtain⟨A,hA⟩:∃ A,A=xs.takeWhile fun p=>decide (ltK p.role p.text r t):=⟨_,rfl⟩
  obtain⟨B,hB⟩:∃ B,B=xs.dropWhile fun p=>decide (ltK p.role p.text r t):=⟨_,rfl⟩
  have hx:xs=A++B:=by rw [hA,hB,List.takeWhile_append_dropWhile]
  have hAl:∀ p∈A,ltK p.role p.text r t:=fun p hp=>by
    rw [hA] at hp
    have:=tw_mem2 hp
    simpa using this
  rw [hx,ord_app] at ho
  cases hb:B with
  | nil=>exact⟨A,[],by rw [hA];rfl,hAl,.inl ⟨by rw [hx,hb],fun p hp=>by simp at hp⟩⟩
  | cons y r'=>
    have hy:¬ ltK y.role y.text r t:=by
      intro h
      have h2:=List.head?_dropWhile_not (fun p:Post=>decide (ltK p.role p.text r t)) xs
      rw [← hB,hb] at h2
      simp [h] at h2
    have ho2:=ho.2.1
    rw [hb,ord_cons] at ho2
    rcases ltK_tri y.role y.text r t with h|⟨h1,h2⟩|h
    · exact absurd h hy
    · exact⟨A,r',by rw [hA];rfl,hAl,.inr ⟨y,by rw [hx,hb],h1,h2,fun q hq=>by rw [← h1,← h2];exact ho2.1 q hq⟩⟩
    · refine⟨A,y::r',by rw [hA];rfl,hAl,.inl ⟨by rw [hx,hb],fun q hq=>?_⟩⟩
      rcases List.mem_cons.1 hq with rfl|hq
      · exact h
      · exact ltK_trans h (ho2.1 q hq)
end Go.Proofs.YtnifmbbpfdghmaaGreatDoor.Ix
namespace Go.Proofs.YtnifmbbpfdghmaaGreatDoor.Ix
open Go.RowKit Go.En
section
variable {A B : List Post} {r : Int} {t : List UInt8}
def Low (A:List Post) (r:Int) (t:List UInt8):Prop:=∀ p∈A,ltK p.role p.text r t
def High (B:List Post) (r:Int) (t:List UInt8):Prop:=∀ p∈B,ltK r t p.role p.text
theorem not_lt {p:Post} (h:ltK r t p.role p.text):¬ ltK p.role p.text r t:=fun h2=>ltK_irrefl (ltK_trans h h2)
theorem not_key {p:Post} (h:ltK r t p.role p.text):¬ (p.role=r∧p.text=t):=by
  rintro⟨rfl,rfl⟩;exact ltK_irrefl h
theorem place_c1 (hA:Low A r t) (hB:High B r t):placeN (A++B) r t=A.length:=by
  refine takeWhile_stop2 (fun j hj q hq=>?_) (by simp) (fun q hq=>?_)
  · rw [List.getElem?_append_left hj] at hq
    exact decide_eq_true (hA q (List.mem_of_getElem? hq))
  · rw [List.getElem?_append_right (Nat.le_refl _)] at hq
    exact decide_eq_false (not_lt (hB q (List.mem_of_getElem? hq)))
theorem place_c2 {p:Post} (hA:Low A r t) (hp:p.role=r∧p.text=t):placeN (A++p::B) r t=A.length:=by
  refine takeWhile_stop2 (fun j hj q hq=>?_) (by simp) (fun q hq=>?_)
  · rw [List.getElem?_append_left hj] at hq
    exact decide_eq_true (hA q (List.mem_of_getElem? hq))
  · rw [List.getElem?_append_right (Nat.le_refl _),Nat.sub_self] at hq
    simp at hq;subst hq
    obtain⟨rfl,rfl⟩:=hp
    exact decide_eq_false ltK_irrefl
theorem at_c1 (hB:High B r t):∀ q,(A++B)[A.length]?=some q→¬ (q.role=r∧q.text=t):=fun q hq=>by
  rw [List.getElem?_append_right (Nat.le_refl _)] at hq
  exact not_key (hB q (List.mem_of_getElem? hq))
theorem at_c2 {p:Post}:(A++p::B)[A.length]?=some p:=by
  rw [List.getElem?_append_right (Nat.le_refl _),Nat.sub_self];rfl
theorem find_c1 (hA:Low A r t) (hB:High B r t):findF (A++B) r t=[]:=by
  unfold findF;rw [place_c1 hA hB]
  split
  · rfl
  · rename_i q hq;exact if_neg (at_c1 hB q hq)
theorem find_c2 {p:Post} (hA:Low A r t) (hp:p.role=r∧p.text=t):findF (A++p::B) r t=p.ids:=by
  unfold findF;rw [place_c2 hA hp,at_c2];exact if_pos hp
theorem put_c1 {id:Int} (hA:Low A r t) (hB:High B r t) (hr:isRole r=true):putF (A++B) r t id=A++⟨r,t,[id]⟩::B:=by
  unfold putF;rw [if_pos hr,place_c1 hA hB]
  have e:(A++B).take A.length++(⟨r,t,[id]⟩:Post)::(A++B).drop A.length=A++⟨r,t,[id]⟩::B:=by simp
  split
  · rename_i q hq;rw [if_neg (at_c1 hB q hq),e]
  · exact e
theorem put_c2 {p:Post} {id:Int} (hA:Low A r t) (hp:p.role=r∧p.text=t) (hr:isRole r=true):putF (A++p::B) r t id=A++⟨r,t,withF p.ids id⟩::B:=by
  unfold putF;rw [if_pos hr,place_c2 hA hp,at_c2]
  dsimp only
  rw [if_pos hp,List.set_append_right _ _ (Nat.le_refl _),Nat.sub_self,hp.1,hp.2];rfl
theorem take_c1 {id:Int} (hA:Low A r t) (hB:High B r t):takeF (A++B) r t id=A++B:=by
  unfold takeF;rw [place_c1 hA hB]
  split
  · rfl
  · rename_i q hq;exact if_neg (at_c1 hB q hq)
theorem take_c2 {p:Post} {id:Int} (hA:Low A r t) (hp:p.role=r∧p.text=t) :
    takeF (A++p::B) r t id=A++((if (p.ids.filter fun n=>decide (n≠id))=[] then [] else [⟨r,t,p.ids.filter fun n=>decide (n≠id)⟩])++B):=by
  unfold takeF;rw [place_c2 hA hp,at_c2]
  dsimp only
  rw [if_pos hp]
  congr 1
  · simp
  · congr 1
    simp [List.drop_append]
end
theorem rise_iff:∀ {ids:List Int},rise ids=true↔ids.Pairwise (·<·)
  | []=>by simp [rise]
  | [a]=>by simp [rise]
  | a :: b :: r => by
    have ih:=rise_iff (ids:=b::r)
    simp only [rise,Bool.and_eq_true,decide_eq_true_eq,ih]
    constructor
    · rintro⟨h1,h2⟩
      refine List.Pairwise.cons (fun c hc=>?_) h2
      rcases List.mem_cons.1 hc with rfl|hc
      · exact h1
      · have:=(List.pairwise_cons.1 h2).1 c hc;omega
    · intro h
      exact⟨(List.pairwise_cons.1 h).1 b (List.mem_cons_self ..),(List.pairwise_cons.1 h).2⟩
theorem with_split {ids:List Int} {id:Int} (h:rise ids=true):∃ L R,ids=L++R∧L.length=withN ids id∧(∀ z∈L,z<id)∧(∀ z∈R,id≤z):=by
  refine⟨ids.takeWhile fun z=>decide (z<id),ids.dropWhile fun z=>decide (z<id),by rw [List.takeWhile_append_dropWhile],rfl,fun z hz=>by simpa using tw_mem2 hz,fun z hz=>?_⟩
  have hp:=rise_iff.1 h
  rw [← List.takeWhile_append_dropWhile (p:=fun z=>decide (z<id)) (l:=ids),List.pairwise_append] at hp
  have hd:=hp.2.1
  cases hr:ids.dropWhile fun z=>decide (z<id) with
  | nil=>rw [hr] at hz;simp at hz
  | cons y r=>
    have h2:=List.head?_dropWhile_not (fun z:Int=>decide (z<id)) ids
    rw [hr] at h2 hz hd
    simp at h2
    rcases List.mem_cons.1 hz with rfl|hz
    · exact h2
    · have:=(List.pairwise_cons.1 hd).1 z hz;omega
theorem with_val {ids : List Int} {id : Int} (h : rise ids = true) : (id ∈ ids ∧ withF ids id = ids) ∨ (id ∉ ids ∧ ∃ L R, ids = L ++ R ∧ withF ids id = L ++ id :: R ∧ (∀ z ∈ L, z < id) ∧ (∀ z ∈ R, id < z)) := by
  obtain⟨L,R,hx,hl,h1,h2⟩:=with_split (id:=id) h
  have hp:=rise_iff.1 h
  unfold withF
  rw [← hl]
  by_cases hm:id∈ids
  · refine .inl ⟨hm,if_pos ?_⟩
    rw [hx] at hm ⊢
    rcases List.mem_append.1 hm with hm|hm
    · have:=h1 id hm;omega
    · rw [List.getElem?_append_right (Nat.le_refl _),Nat.sub_self]
      cases R with
      | nil=>simp at hm
      | cons y r=>
        rw [hx,List.pairwise_append,List.pairwise_cons] at hp
        rcases List.mem_cons.1 hm with rfl|hm
        · rfl
        · have:=hp.2.1.1 id hm
          have:=h2 y (List.mem_cons_self ..)
          omega
  · refine .inr ⟨hm,L,R,hx,?_,h1,fun z hz=>?_⟩
    · rw [if_neg (fun e=>hm (List.mem_of_getElem? e)),hx];simp
    · have:=h2 z hz
      have:z≠id:=fun e=>hm (by rw [hx,← e];exact List.mem_append_right _ hz)
      omega
theorem with_rise {ids:List Int} {id:Int} (h:rise ids=true):rise (withF ids id)=true∧withF ids id≠[]∧id∈withF ids id:=by
  rcases with_val (id:=id) h with⟨hm,e⟩|⟨hm,L,R,hx,e,h1,h2⟩
  · rw [e];exact⟨h,List.ne_nil_of_mem hm,hm⟩
  · rw [e]
    refine⟨?_,by simp,by simp⟩
    have hp:=rise_iff.1 h
    rw [hx,List.pairwise_append] at hp
    rw [rise_iff,List.pairwise_append,List.pairwise_cons]
    refine⟨hp.1,⟨h2,hp.2.1⟩,fun a ha b hb=>?_⟩
    have:=h1 a ha
    rcases List.mem_cons.1 hb with rfl|hb
    · exact this
    · have:=h2 b hb;omega
theorem filter_rise {ids:List Int} {id:Int} (h:rise ids=true):rise (ids.filter fun n=>decide (n≠id))=true:=rise_iff.2 ((rise_iff.1 h).filter _)
theorem filter_with {ids:List Int} {id:Int} (h:rise ids=true) (hm:id∉ids):((withF ids id).filter fun n=>decide (n≠id))=ids:=by
  rcases with_val (id:=id) h with⟨hm',_⟩|⟨_,L,R,hx,e,h1,h2⟩
  · exact absurd hm' hm
  · rw [e,List.filter_append,List.filter_cons_of_neg (by simp),List.filter_eq_self.2 (fun z hz=>by have:=h1 z hz;simp;omega),List.filter_eq_self.2 (fun z hz=>by have:=h2 z hz;simp;omega),← hx]
theorem right_app {A B:List Post}:Right (A++B)↔Right A∧Right B∧∀ p∈A,∀ q∈B,ltK p.role p.text q.role q.text:=by
  unfold Right
  rw [ord_app]
  constructor
  · rintro⟨h1,h2,h3,h4⟩
    exact⟨⟨fun p hp=>h1 p (List.mem_append_left _ hp),h2⟩,⟨fun p hp=>h1 p (List.mem_append_right _ hp),h3⟩,h4⟩
  · rintro⟨⟨h1,h2⟩,⟨h3,h4⟩,h5⟩
    exact⟨fun p hp=>(List.mem_append.1 hp).elim (h1 p) (h3 p),h2,h4,h5⟩
theorem right_mid {A B:List Post} {q:Post} (hA:Right A) (hB:Right B) (hAB:∀ p∈A,∀ q∈B,ltK p.role p.text q.role q.text) (hq:Good q) (h1:Low A q.role q.text) (h2:High B q.role q.text):Right (A++q::B):=by
  rw [right_app]
  refine⟨hA,⟨fun p hp=>?_,ord_cons.2 ⟨h2,hB.2⟩⟩,fun p hp q' hq'=>?_⟩
  · rcases List.mem_cons.1 hp with rfl|hp
    · exact hq
    · exact hB.1 p hp
  · rcases List.mem_cons.1 hq' with rfl|hq'
    · exact h1 p hp
    · exact hAB p hp q' hq'
theorem keeps {xs : List Post} (hR : Right xs) (r : Int) (t : List UInt8) (id : Int) :
    Right (putF xs r t id)∧Right (takeF (putF xs r t id) r t id)∧(id∈findF (putF xs r t id) r t↔isRole r=true)∧id∉findF (takeF (putF xs r t id) r t id) r t∧
      (id∉findF xs r t→takeF (putF xs r t id) r t id=xs)∧(id∈findF xs r t→putF xs r t id=xs):=by
  obtain⟨A,B,_,hA,hc⟩:=split hR.2 r t
  rcases hc with⟨rfl,hB⟩|⟨p,rfl,hr,ht,hB⟩
  · have hf:=find_c1 hA hB
    obtain⟨hRA,hRB,hAB⟩:=right_app.1 hR
    by_cases hrole:isRole r=true
    · rw [put_c1 hA hB hrole,take_c2 hA ⟨rfl,rfl⟩,find_c2 hA ⟨rfl,rfl⟩]
      simp only [decide_not,List.filter_cons,decide_true,Bool.not_true,List.filter_nil,if_true,List.nil_append,Bool.false_eq_true,if_false]
      rw [hf]
      exact⟨right_mid hRA hRB hAB ⟨hrole,by simp,rfl⟩ hA hB,hR,by simp [hrole],by simp,by simp,by simp⟩
    · have hp:putF (A++B) r t id=A++B:=by unfold putF;rw [if_neg hrole]
      rw [hp,take_c1 hA hB,hf]
      exact⟨hR,hR,by simp [hrole],by simp,fun _=>rfl,fun h=>by simp at h⟩
  · have hk:p.role=r∧p.text=t:=⟨hr,ht⟩
    obtain⟨hRA,hRB,hAB⟩:=right_app.1 hR
    have hgood:=hRB.1 p (List.mem_cons_self ..)
    have hrole:isRole r=true:=by rw [← hr];exact hgood.1
    have hBr:Right B:=⟨fun q hq=>hRB.1 q (List.mem_cons_of_mem _ hq),(ord_cons.1 hRB.2).2⟩
    have hAB':∀ p∈A,∀ q∈B,ltK p.role p.text q.role q.text:=fun a ha q hq=>hAB a ha q (List.mem_cons_of_mem _ hq)
    have hf:findF (A++p::B) r t=p.ids:=find_c2 hA hk
    obtain⟨w1,w2,w3⟩:=with_rise (id:=id) hgood.2.2
    have hpp:(⟨r,t,p.ids⟩:Post)=p:=by cases p;simp_all
    rw [put_c2 hA hk hrole,take_c2 hA ⟨rfl,rfl⟩,find_c2 hA ⟨rfl,rfl⟩,hf]
    dsimp only
    refine⟨right_mid hRA hBr hAB' ⟨hrole,w2,w1⟩ hA hB,?_,by simp [w3,hrole],?_,fun hn=>?_,fun hm=>?_⟩
    · split
      · exact right_app.2 ⟨hRA,hBr,hAB'⟩
      · rename_i hne
        exact right_mid hRA hBr hAB' ⟨hrole,hne,filter_rise w1⟩ hA hB
    · split
      · rw [List.nil_append,find_c1 hA hB];simp
      · rw [List.singleton_append,find_c2 hA ⟨rfl,rfl⟩];simp
    · rw [filter_with hgood.2.2 hn,if_neg hgood.2.1,List.singleton_append,hpp]
    · rcases with_val (id:=id) hgood.2.2 with⟨_,e⟩|⟨hm',_⟩
      · rw [e,hpp]
      · exact absurd hm hm'
end Go.Proofs.YtnifmbbpfdghmaaGreatDoor.Ix
namespace Go.Proofs.YtnifmbbpfdghmaaGreatDoor.Ix
open Go.RowKit Go.En
def unionF (a b:List Int):List Int:=b.foldl nputF (sortedF a)
def minusF (a b:List Int):List Int:=a.foldl (fun acc z=>if z∈b then acc else nputF acc z) []
theorem nput_eq (l:List Int) (n:Int):nputF l n=withF l n:=by
  unfold nputF withF
  split
  · rename_i h
    have:=(List.getElem?_eq_some_iff.1 h)
    obtain⟨hl,he⟩:=this
    conv=>rhs;rw [← List.take_append_drop (withN l n) l,List.drop_eq_getElem_cons hl,he]
  · rfl
theorem nput_last {l:List Int} {n:Int} (h:∀ z∈l,z<n):nputF l n=l++[n]:=by
  have hn:withN l n=l.length:=takeWhile_stop2 (fun j hj z hz=>decide_eq_true (h z (List.mem_of_getElem? hz))) (Nat.le_refl _) (fun z hz=>by simp at hz)
  unfold nputF
  rw [hn,List.getElem?_eq_none (Nat.le_refl _),if_neg (by simp)]
  simp
theorem sorted_go:∀(l acc:List Int),(acc++l).Pairwise (·<·)→l.foldl nputF acc=acc++l
  | [],acc,_=>by simp
  | z::l,acc,h=>by
    rw [List.foldl_cons,nput_last (fun y hy=>by rw [List.pairwise_append] at h;exact h.2.2 y hy z (List.mem_cons_self ..)),sorted_go l (acc++[z]) (by simpa using h)]
    simp
theorem sorted_id {l:List Int} (h:rise l=true):sortedF l=l:=by
  have:=sorted_go l [] (by simpa using rise_iff.1 h)
  simpa [sortedF] using this
theorem union_one {l:List Int} {n:Int} (h:rise l=true):unionF l [n]=withF l n:=by
  simp only [unionF,List.foldl_cons,List.foldl_nil,sorted_id h,nput_eq]
theorem minus_go (n:Int):∀(l acc:List Int),(acc++l).Pairwise (·<·)→l.foldl (fun acc z=>if z∈[n] then acc else nputF acc z) acc=acc++l.filter fun z=>decide (z≠n)
  | [],acc,_=>by simp
  | z :: l, acc, h => by
    rw [List.foldl_cons]
    by_cases hz:z=n
    · rw [if_pos (by simp [hz]),List.filter_cons_of_neg (by simp [hz])]
      refine minus_go n l acc ?_
      rw [List.pairwise_append] at h ⊢
      exact⟨h.1,(List.pairwise_cons.1 h.2.1).2,fun a ha b hb=>h.2.2 a ha b (List.mem_cons_of_mem _ hb)⟩
    · rw [if_neg (by simp [hz]),List.filter_cons_of_pos (by simp [hz]),nput_last (fun y hy=>by rw [List.pairwise_append] at h;exact h.2.2 y hy z (List.mem_cons_self ..)),minus_go n l (acc++[z]) (by simpa using h)]
      simp
theorem minus_one {l:List Int} {n:Int} (h:rise l=true):minusF l [n]=l.filter fun z=>decide (z≠n):=by
  have:=minus_go n l [] (by simpa using rise_iff.1 h)
  simpa [minusF] using this
def rwGo (p : Post) : List Post → List Post → Bool → List Post × Bool
  | [],out,done=>(out,done)
  | q::r,out,done=>
    let out1:=if !done&&decide (ltK p.role p.text q.role q.text) then out++[p] else out
    let done1:=done||decide (ltK p.role p.text q.role q.text)
    rwGo p r (if q.role≠p.role∨q.text≠p.text then out1++[q] else out1) done1
def rwithF (xs:List Post) (p:Post):List Post:=
  let s:=rwGo p xs [] (decide (p.ids=[]))
  if s.2 then s.1 else s.1++[p]
theorem rw_done (p:Post):∀(l out:List Post),rwGo p l out true=(out++l.filter (fun q=>decide (q.role≠p.role∨q.text≠p.text)),true)
  | [],out=>by simp [rwGo]
  | q::r,out=>by
    simp only [rwGo,Bool.not_true,Bool.false_and,Bool.false_eq_true,if_false,Bool.true_or]
    rw [rw_done p r]
    by_cases h:q.role≠p.role∨q.text≠p.text
    · rw [if_pos h,List.filter_cons_of_pos (by simpa using h)];simp
    · rw [if_neg h,List.filter_cons_of_neg (by simpa using h)]
theorem rw_low (p : Post) : ∀ (A r out : List Post), Low A p.role p.text → rwGo p (A ++ r) out false = rwGo p r (out ++ A) false
  | [],r,out,_=>by simp
  | q :: A, r, out, h => by
    have hq:=h q (List.mem_cons_self ..)
    have hn:¬ ltK p.role p.text q.role q.text:=fun h2=>ltK_irrefl (ltK_trans hq h2)
    have hk:q.role≠p.role∨q.text≠p.text:=by
      by_cases h1:q.role=p.role
      · refine .inr fun h2=>?_
        rw [h1,h2] at hq;exact ltK_irrefl hq
      · exact .inl h1
    simp only [List.cons_append,rwGo,decide_eq_false hn,Bool.and_false,Bool.false_eq_true,if_false,Bool.or_false]
    rw [if_pos hk,rw_low p A r _ (fun x hx=>h x (List.mem_cons_of_mem _ hx))]
    simp
theorem filter_key {p:Post} {B:List Post} (h:∀ q∈B,¬ (q.role=p.role∧q.text=p.text)):B.filter (fun q=>decide (q.role≠p.role∨q.text≠p.text))=B:=
  List.filter_eq_self.2 fun q hq=>by
    have:=h q hq
    simp only [decide_eq_true_eq]
    by_cases h1:q.role=p.role
    · exact .inr fun h2=>this ⟨h1,h2⟩
    · exact .inl h1
end Go.Proofs.YtnifmbbpfdghmaaGreatDoor.Ix
namespace Go.Proofs.YtnifmbbpfdghmaaGreatDoor.Ix
open Go.RowKit Go.En
theorem rw_mid {p:Post} {B:List Post} (hB:High B p.role p.text) (out:List Post):(let s:=rwGo p B out false;if s.2 then s.1 else s.1++[p])=out++p::B:=by
  cases B with
  | nil=>simp [rwGo]
  | cons q r=>
    have hq:=hB q (List.mem_cons_self ..)
    have hk:q.role≠p.role∨q.text≠p.text:=by
      by_cases h1:q.role=p.role
      · exact .inr fun h2=>not_key hq ⟨h1,h2⟩
      · exact .inl h1
    simp only [rwGo,decide_eq_true hq,Bool.not_false,Bool.true_and,if_true,Bool.false_or]
    rw [if_pos hk,rw_done,filter_key (fun x hx=>not_key (hB x (List.mem_cons_of_mem _ hx)))]
    simp
theorem low_key {A:List Post} {r:Int} {t:List UInt8} (h:Low A r t):∀ q∈A,¬ (q.role=r∧q.text=t):=fun q hq=>by
  rintro⟨rfl,rfl⟩;exact ltK_irrefl (h q hq)
theorem rwith_c1 {A B:List Post} {p:Post} (hA:Low A p.role p.text) (hB:High B p.role p.text):rwithF (A++B) p=A++(if p.ids=[] then B else p::B):=by
  unfold rwithF
  by_cases h:p.ids=[]
  · rw [decide_eq_true h,rw_done,if_pos h]
    simp only [if_true,List.nil_append,List.filter_append]
    rw [filter_key (low_key hA),filter_key (fun x hx=>not_key (hB x hx))]
  · rw [decide_eq_false h,rw_low p A B [] hA,if_neg h]
    exact rw_mid hB _
theorem rwith_c2 {A B:List Post} {p x:Post} (hA:Low A p.role p.text) (hx:x.role=p.role∧x.text=p.text) (hB:High B p.role p.text):rwithF (A++x::B) p=A++(if p.ids=[] then B else p::B):=by
  have hk:¬ (x.role≠p.role∨x.text≠p.text):=by rintro(h|h);exact h hx.1;exact h hx.2
  unfold rwithF
  by_cases h:p.ids=[]
  · rw [decide_eq_true h,rw_done,if_pos h]
    simp only [if_true,List.nil_append,List.filter_append]
    rw [filter_key (low_key hA),List.filter_cons_of_neg (by simpa using hk),filter_key (fun x hx=>not_key (hB x hx))]
  · rw [decide_eq_false h,rw_low p A (x::B) [] hA,if_neg h]
    have hn:¬ ltK p.role p.text x.role x.text:=by rw [hx.1,hx.2];exact ltK_irrefl
    simp only [rwGo,decide_eq_false hn,Bool.and_false,Bool.false_eq_true,if_false,Bool.or_false]
    rw [if_neg hk]
    exact rw_mid hB _
def rputF (xs:List Post) (r:Int) (t:List UInt8) (id:Int):List Post:=if isRole r then rwithF xs ⟨r,t,unionF (rfindF xs r t) [id]⟩ else xs
def rtakeF (xs:List Post) (r:Int) (t:List UInt8) (id:Int):List Post:=rwithF xs ⟨r,t,minusF (rfindF xs r t) [id]⟩
theorem rput_eq {xs:List Post} (hR:Right xs) (r:Int) (t:List UInt8) (id:Int):rputF xs r t id=putF xs r t id:=by
  unfold rputF
  rw [← find_eq hR.2]
  by_cases hrole:isRole r=true
  · rw [if_pos hrole]
    obtain⟨A,B,_,hA,hc⟩:=split hR.2 r t
    rcases hc with⟨rfl,hB⟩|⟨p,rfl,hr,ht,hB⟩
    · rw [find_c1 hA hB,put_c1 hA hB hrole,union_one rfl,rwith_c1 (p:=⟨r,t,withF [] id⟩) hA hB]
      rfl
    · have hgood:=hR.1 p (by simp)
      rw [find_c2 hA ⟨hr,ht⟩,put_c2 hA ⟨hr,ht⟩ hrole,union_one hgood.2.2,rwith_c2 (p:=⟨r,t,withF p.ids id⟩) hA ⟨hr,ht⟩ hB]
      dsimp only
      rw [if_neg (with_rise hgood.2.2).2.1]
  · rw [if_neg hrole]
    unfold putF
    rw [if_neg hrole]
theorem rtake_eq {xs:List Post} (hR:Right xs) (r:Int) (t:List UInt8) (id:Int):rtakeF xs r t id=takeF xs r t id:=by
  unfold rtakeF
  rw [← find_eq hR.2]
  obtain⟨A,B,_,hA,hc⟩:=split hR.2 r t
  rcases hc with⟨rfl,hB⟩|⟨p,rfl,hr,ht,hB⟩
  · rw [find_c1 hA hB,take_c1 hA hB,minus_one rfl,rwith_c1 (p:=⟨r,t,List.filter (fun z=>decide (z≠id)) []⟩) hA hB]
    simp
  · have hgood:=hR.1 p (by simp)
    rw [find_c2 hA ⟨hr,ht⟩,take_c2 hA ⟨hr,ht⟩,minus_one hgood.2.2,rwith_c2 (p:=⟨r,t,p.ids.filter fun z=>decide (z≠id)⟩) hA ⟨hr,ht⟩ hB]
    dsimp only
    split <;> simp
end Go.Proofs.YtnifmbbpfdghmaaGreatDoor.Ix
