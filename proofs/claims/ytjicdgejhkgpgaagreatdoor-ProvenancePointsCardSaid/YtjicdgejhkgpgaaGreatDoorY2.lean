/-
  Walks: the reference's Points, Dangling, Uses. Walks of align: Next, of both. Documents, plainly: what lies below a note is found once. Maps whose keys are numbers: made, looked up, updated. A map's update, as a step of a region that draws its order. Walks of align: Under's closure. Walks of align: Under (but for its sorting).
-/
import Derived.Test.YtjicdgejhkgpgaaGreatDoorYm
import Derived.Test.YtjicdgejhkgpgaaGreatDoorY0
import Derived.Test.YtjicdgejhkgpgaaGreatDoorYz
import Derived.Test.YtjicdgejhkgpgaaGreatDoorYk
import Derived.Test.YtjicdgejhkgpgaaGreatDoorYp
import Derived.Test.YtjicdgejhkgpgaaGreatDoorYl
import Derived.Test.YtjicdgejhkgpgaaGreatDoorYe
import Derived.MapKept
import Derived.Test.YtjicdgejhkgpgaaGreatDoorYi
set_option linter.all false
namespace Go.Proofs.YtjicdgejhkgpgaaGreatDoor
open Go.RowKit Go.En Go.Pv
theorem pt_id {lab:List UInt8→Bool} {txt:List UInt8→Int} {lex:List En} {l:List Pnt} {i:Nat} {p:Pnt} (h:l[i]?=some p) (hi:identB p.id=false):pointAt lab txt lex l i=2:=by
  unfold pointAt;rw [h];dsimp only;rw [hi];rfl
theorem pt_zero {lab:List UInt8→Bool} {txt:List UInt8→Int} {lex:List En} {l:List Pnt} {p:Pnt} (h:l[0]?=some p) (hi:identB p.id=true):pointAt lab txt lex l 0=pointE lab txt lex p:=by
  unfold pointAt;rw [h];dsimp only;rw [hi];rfl
theorem pt_up {lab:List UInt8→Bool} {txt:List UInt8→Int} {lex:List En} {l:List Pnt} {i:Nat} {p q:Pnt} (h:l[i]?=some p) (hi:identB p.id=true) (h0:0<i) (hq:l[i-1]?=some q) (hlt:q.id<p.id):pointAt lab txt lex l i=pointE lab txt lex p:=by
  unfold pointAt;rw [h];dsimp only;rw [hi,if_pos h0,hq];simp [hlt]
theorem pt_ten {lab:List UInt8→Bool} {txt:List UInt8→Int} {lex:List En} {l:List Pnt} {i:Nat} {p q:Pnt} (h:l[i]?=some p) (hi:identB p.id=true) (h0:0<i) (hq:l[i-1]?=some q) (hlt:¬ q.id<p.id):pointAt lab txt lex l i=10:=by
  unfold pointAt;rw [h];dsimp only;rw [hi,if_pos h0,hq];simp [hlt]
attribute [local irreducible] E EL K Val Enters Rt Calls bodyPost Code.wp RQ
set_option maxHeartbeats 4000000 in
set_option maxRecDepth 8000 in
theorem points27_any (lex : List En) (l : List Pnt) (ht : ∀ p ∈ l, p.title.length ≤ 1048576) (ev v : Value) (w : World) (hl : Sl w ev lex) (hv : Sl w v l) : Calls Tryz.prog 27 #[ev, v] w (Rt fun u w' => u = int (pointsF labB txtF lex l) ∧ Ext w w') := by
  have hv0:=hv
  obtain⟨a,c,rfl,_,hm,hpp⟩:=hv.sl
  refine calls_E (n:=48) (args:=[ev,.slice a l.length c]) Tryz.func27 rfl Tryz.ntmps27 (by simp) ?_
  by_cases h40:40<l.length
  · have:pointsF labB txtF lex l=11:=by unfold pointsF;rw [if_pos h40]
    rw [this]
    (repeat' (first|(refine at_EL ?_;first|refine eN ?_|refine eV Z Z (zA Z Z) ?_|refine eV Z Z (zB Z Z) ?_|(refine at_bin ?_;first|refine eD Z Z (zO Z Z Z) (fun hh=>?_) (fun hh=>?_))|(refine at_call ?_;first|refine eV Z Z (zK Z Z) ?_))|(refine at_K ?_;first|refine K_then ?_|refine K_then_ret ?_)|(refine at_E ?_;first|refine E_seq ?_|refine E_region ?_|refine E_cond_t Z ?_|refine E_cond_f Z ?_|refine E_block ?_|refine E_skip ?_|refine E_ret ?_)))
    all_goals (try (exfalso;omega))
    exact ret_1 Z Z ⟨rfl,Ext.refl _⟩
  have hP:pointsF labB txtF lex l=firstE l.length (pointAt labB txtF lex l):=by unfold pointsF;rw [if_neg h40]
  rw [hP]
  (repeat' (first|(refine at_EL ?_;first|refine eN ?_|refine eV Z Z (zA Z Z) ?_|refine eV Z Z (zB Z Z) ?_|(refine at_bin ?_;first|refine eD Z Z (zO Z Z Z) (fun hh=>?_) (fun hh=>?_))|(refine at_call ?_;first|refine eV Z Z (zK Z Z) ?_))|(refine at_K ?_;first|refine K_then ?_|refine K_then_ret ?_)|(refine at_E ?_;first|refine E_seq ?_|refine E_region ?_|refine E_cond_t Z ?_|refine E_cond_f Z ?_|refine E_block ?_|refine E_skip ?_|refine E_ret ?_)))
  all_goals (try (exfalso;omega))
  refine E_loop (ι:=Nat) (fun i=>[(0,ev),(1,.slice a l.length c),(5,int i)]) (fun i wr=>i≤l.length∧Ext w wr∧∀ j,j<i→pointAt labB txtF lex l j=0) (fun i=>l.length-i) 0
    ⟨rfl,rfl,rfl,trivial⟩ ⟨Nat.zero_le _,Ext.refl _,fun _ h=>absurd h (by omega)⟩ ?_
  rintro i wr ⟨hi,hx,hall⟩
  replace hv0:=hv0.ext hx;replace hl:=hl.ext hx
  by_cases hlt:i<l.length
  · obtain ⟨b, off, rfl⟩ := hpp (by omega)
    obtain⟨p,hpi⟩:∃ p,l[i]?=some p:=⟨_,List.getElem?_eq_getElem hlt⟩
    obtain⟨a0,c0,a1,c1,hat,hrep,_⟩:=pnt_elem hv0 hpi
    have ci:=fun wz=>ident61_any p.id wz
    cases hid:identB p.id with
    | false=>
      rw [hid] at ci
      (repeat' (first|refine eV Z Z (val_load Z Z Z (At.cellAt (by assumption) (by rfl))) ?_|refine eV Z Z (val_indexAddr (m:=i) Z Z Z (by first|rfl|omega) (by omega)) ?_|(refine EL_call Z Z (entersF Z Z en61) (ci _) (fun vC wC hC=>?_);obtain⟨rfl,xC⟩:=hC;replace hx:=hx.trans xC)|(refine at_EL ?_;first|refine eN ?_|refine eV Z Z (zA Z Z) ?_|refine eV Z Z (zB Z Z) ?_|(refine at_bin ?_;first|refine eD Z Z (zL Z Z Z) (fun hh=>?_) (fun hh=>?_))|(refine at_call ?_;first|refine eV Z Z (zK Z Z) ?_)|refine eV Z Z (zE Z Z) ?_|refine eV Z Z (zH Z Z) ?_)|(refine at_K ?_;first|refine K_then ?_|refine K_then_ret ?_|refine K_then_exit ?_|refine K_in_ret ?_|refine K_in_exit ?_)|(refine at_E ?_;first|refine E_seq ?_|refine E_region ?_|refine E_cond_t Z ?_|refine E_cond_f Z ?_|refine E_block ?_|refine E_skip ?_|refine E_ret ?_|refine E_exit ?_)))
      all_goals (try (exfalso;omega))
      rw [firstE_at hall hlt (by rw [pt_id hpi hid];decide),pt_id hpi hid]
      exact ret_1 Z Z ⟨rfl,hx⟩
    | true=>
      rw [hid] at ci
      have cp:=fun wz h1 (h2:Ext wr wz)=>point62_any lex p (ht p (List.mem_of_getElem? hpi)) ev _ wz h1 (Rep.move hrep (fun b hb hlt=>⟨trivial,h2.block hlt⟩))
      obtain⟨pz,hpz⟩:∃ z,pointE labB txtF lex p=z:=⟨_,rfl⟩
      rw [hpz] at cp
      have hxr:=Ext.refl wr
      by_cases h0:i=0
      · subst h0
        have hpt:=pt_zero (lab:=labB) (txt:=txtF) (lex:=lex) hpi hid
        rw [hpz] at hpt
        (repeat' (first|(refine yN Z (fun wq xq=>?_);replace hx:=hx.trans xq;replace hl:=hl.ext xq;replace hat:=hat.ext xq;replace hxr:=hxr.trans xq)|refine eV Z Z (val_load Z Z Z (At.cellAt (by assumption) (by rfl))) ?_|refine eV Z Z (val_loadA Z Z Z (by assumption) (by rfl)) ?_|refine yV Z Z (fun wq _ xq=>val_load Z Z Z ((At.ext (by assumption) xq).cellAt (by rfl))) ?_|refine eV Z Z (val_indexAddr (m:=0) Z Z Z (by first|rfl|omega) (by omega)) ?_|refine yV Z Z (fun _ _ _=>val_indexAddr (m:=0) Z Z Z (by first|rfl|omega) (by omega)) ?_|(refine EL_call Z Z (entersF Z Z en61) (ci _) (fun vC wC hC=>?_);obtain⟨rfl,xC⟩:=hC;replace hx:=hx.trans xC;replace hl:=hl.ext xC;replace hat:=hat.ext xC;replace hxr:=hxr.trans xC)|(refine EL_call Z Z (entersF Z Z en62) (cp _ hl hxr) (fun vC wC hC=>?_);obtain⟨rfl,xC⟩:=hC;replace hx:=hx.trans xC)|(refine at_EL ?_;first|refine eN ?_|refine eV Z Z (zA Z Z) ?_|refine eV Z Z (zB Z Z) ?_|(refine at_bin ?_;first|refine eD Z Z (zL Z Z Z) (fun hh=>?_) (fun hh=>?_)|refine eD Z Z (zQ Z Z Z) (fun hh=>?_) (fun hh=>?_)|refine eV Z Z (zU Z Z Z (by omega) (by omega)) ?_)|(refine at_call ?_;first|refine eV Z Z (zK Z Z) ?_)|refine eV Z Z (zE Z Z) ?_|refine eV Z Z (zH Z Z) ?_)|(refine at_K ?_;first|refine K_then ?_|refine K_in ?_|refine K_then_ret ?_|refine K_then_exit ?_|refine K_in_ret ?_|refine K_in_exit ?_)|(refine at_E ?_;first|refine E_seq ?_|refine E_region ?_|refine E_cond_t Z ?_|refine E_cond_f Z ?_|refine E_block ?_|refine E_skip ?_|refine E_ret ?_|refine E_exit ?_|refine E_dq mixedOk (by kernel_rfl) Z ?_)|(refine at_RQ ?_;first|refine yO Z Z ?_|refine yV Z Z (fun _ _ _=>zA Z Z) ?_|(refine at_binR ?_;first|refine yD Z Z (fun _ _ _=>zN Z Z Z) (fun hh=>?_) (fun hh=>?_)|refine yD Z Z (fun _ _ _=>zO Z Z Z) (fun hh=>?_) (fun hh=>?_)|refine yV Z Z (fun _ _ _=>zV Z Z Z (by omega) (by omega)) ?_)|refine yV Z Z (fun _ _ _=>zC Z Z Z) ?_|refine yV Z Z (fun _ _ _=>zD Z Z Z) ?_|refine yV Z Z (fun _ _ _=>zH Z Z) ?_)))
        all_goals (try (exfalso;omega))
        · rw [firstE_at hall hlt (by rw [hpt];assumption),hpt]
          exact ret_1 Z Z ⟨rfl,hx⟩
        · refine K_rnd (0+1) ⟨rfl,rfl,rfl,trivial⟩ ⟨by omega,hx,fun j hj=>?_⟩ (by omega)
          obtain rfl:j=0:=by omega
          rw [hpt];omega
      · obtain⟨q,hqi⟩:∃ q,l[i-1]?=some q:=⟨_,List.getElem?_eq_getElem (by omega)⟩
        obtain⟨_,_,_,_,hatq,_⟩:=pnt_elem hv0 hqi
        by_cases hlq:q.id<p.id
        · have hpt:=pt_up (lab:=labB) (txt:=txtF) (lex:=lex) hpi hid (by omega) hqi hlq
          rw [hpz] at hpt
          (repeat' (first|(refine yN Z (fun wq xq=>?_);replace hx:=hx.trans xq;replace hl:=hl.ext xq;replace hat:=hat.ext xq;replace hatq:=hatq.ext xq;replace hxr:=hxr.trans xq)|refine eV Z Z (val_load Z Z Z (At.cellAt (by assumption) (by rfl))) ?_|refine eV Z Z (val_loadA Z Z Z (by assumption) (by rfl)) ?_|refine yV Z Z (fun wq _ xq=>val_load Z Z Z ((At.ext (by assumption) xq).cellAt (by rfl))) ?_|refine eV Z Z (val_indexAddr (m:=i) Z Z Z (by first|rfl|omega) (by omega)) ?_|refine yV Z Z (fun _ _ _=>val_indexAddr (m:=i) Z Z Z (by first|rfl|omega) (by omega)) ?_|refine yV Z Z (fun _ _ _=>val_indexAddr (m:=i-1) Z Z Z (by first|rfl|omega) (by omega)) ?_|(refine EL_call Z Z (entersF Z Z en61) (ci _) (fun vC wC hC=>?_);obtain⟨rfl,xC⟩:=hC;replace hx:=hx.trans xC;replace hl:=hl.ext xC;replace hat:=hat.ext xC;replace hatq:=hatq.ext xC;replace hxr:=hxr.trans xC)|(refine EL_call Z Z (entersF Z Z en62) (cp _ hl hxr) (fun vC wC hC=>?_);obtain⟨rfl,xC⟩:=hC;replace hx:=hx.trans xC)|(refine at_EL ?_;first|refine eN ?_|refine eV Z Z (zA Z Z) ?_|refine eV Z Z (zB Z Z) ?_|(refine at_bin ?_;first|refine eD Z Z (zL Z Z Z) (fun hh=>?_) (fun hh=>?_)|refine eD Z Z (zQ Z Z Z) (fun hh=>?_) (fun hh=>?_)|refine eV Z Z (zU Z Z Z (by omega) (by omega)) ?_)|(refine at_call ?_;first|refine eV Z Z (zK Z Z) ?_)|refine eV Z Z (zE Z Z) ?_|refine eV Z Z (zH Z Z) ?_)|(refine at_K ?_;first|refine K_then ?_|refine K_in ?_|refine K_then_ret ?_|refine K_then_exit ?_|refine K_in_ret ?_|refine K_in_exit ?_)|(refine at_E ?_;first|refine E_seq ?_|refine E_region ?_|refine E_cond_t Z ?_|refine E_cond_f Z ?_|refine E_block ?_|refine E_skip ?_|refine E_ret ?_|refine E_exit ?_|refine E_dq mixedOk (by kernel_rfl) Z ?_)|(refine at_RQ ?_;first|refine yO Z Z ?_|refine yV Z Z (fun _ _ _=>zA Z Z) ?_|(refine at_binR ?_;first|refine yD Z Z (fun _ _ _=>zN Z Z Z) (fun hh=>?_) (fun hh=>?_)|refine yD Z Z (fun _ _ _=>zO Z Z Z) (fun hh=>?_) (fun hh=>?_)|refine yV Z Z (fun _ _ _=>zV Z Z Z (by omega) (by omega)) ?_)|refine yV Z Z (fun _ _ _=>zC Z Z Z) ?_|refine yV Z Z (fun _ _ _=>zD Z Z Z) ?_|refine yV Z Z (fun _ _ _=>zH Z Z) ?_)))
          all_goals (try (exfalso;omega))
          · rw [firstE_at hall hlt (by rw [hpt];assumption),hpt]
            exact ret_1 Z Z ⟨rfl,hx⟩
          · refine K_rnd (i+1) ⟨rfl,rfl,rfl,trivial⟩ ⟨by omega,hx,fun j hj=>?_⟩ (by omega)
            by_cases e:j=i
            · subst e;rw [hpt];omega
            · exact hall j (by omega)
        · have hpt:=pt_ten (lab:=labB) (txt:=txtF) (lex:=lex) hpi hid (by omega) hqi hlq
          (repeat' (first|(refine yN Z (fun wq xq=>?_);replace hx:=hx.trans xq)|refine eV Z Z (val_load Z Z Z (At.cellAt (by assumption) (by rfl))) ?_|refine yV Z Z (fun wq _ xq=>val_load Z Z Z ((At.ext (by assumption) xq).cellAt (by rfl))) ?_|refine eV Z Z (val_indexAddr (m:=i) Z Z Z (by first|rfl|omega) (by omega)) ?_|refine yV Z Z (fun _ _ _=>val_indexAddr (m:=i) Z Z Z (by first|rfl|omega) (by omega)) ?_|refine yV Z Z (fun _ _ _=>val_indexAddr (m:=i-1) Z Z Z (by first|rfl|omega) (by omega)) ?_|(refine EL_call Z Z (entersF Z Z en61) (ci _) (fun vC wC hC=>?_);obtain⟨rfl,xC⟩:=hC;replace hx:=hx.trans xC;replace hl:=hl.ext xC;replace hat:=hat.ext xC;replace hatq:=hatq.ext xC;replace hxr:=hxr.trans xC)|(refine at_EL ?_;first|refine eN ?_|refine eV Z Z (zA Z Z) ?_|refine eV Z Z (zB Z Z) ?_|(refine at_bin ?_;first|refine eD Z Z (zL Z Z Z) (fun hh=>?_) (fun hh=>?_))|(refine at_call ?_;first|refine eV Z Z (zK Z Z) ?_)|refine eV Z Z (zE Z Z) ?_|refine eV Z Z (zH Z Z) ?_)|(refine at_K ?_;first|refine K_then ?_|refine K_then_ret ?_|refine K_then_exit ?_|refine K_in_ret ?_|refine K_in_exit ?_)|(refine at_E ?_;first|refine E_seq ?_|refine E_region ?_|refine E_cond_t Z ?_|refine E_cond_f Z ?_|refine E_block ?_|refine E_skip ?_|refine E_ret ?_|refine E_exit ?_|refine E_dq mixedOk (by kernel_rfl) Z ?_)|(refine at_RQ ?_;first|refine yO Z Z ?_|refine yV Z Z (fun _ _ _=>zA Z Z) ?_|(refine at_binR ?_;first|refine yD Z Z (fun _ _ _=>zN Z Z Z) (fun hh=>?_) (fun hh=>?_)|refine yD Z Z (fun _ _ _=>zO Z Z Z) (fun hh=>?_) (fun hh=>?_)|refine yV Z Z (fun _ _ _=>zV Z Z Z (by omega) (by omega)) ?_)|refine yV Z Z (fun _ _ _=>zC Z Z Z) ?_|refine yV Z Z (fun _ _ _=>zD Z Z Z) ?_|refine yV Z Z (fun _ _ _=>zH Z Z) ?_)))
          all_goals (try (exfalso;omega))
          rw [firstE_at hall hlt (by rw [hpt];decide),hpt]
          exact ret_1 Z Z ⟨rfl,hx⟩
  · rw [firstE_all (fun j hj=>hall j (by omega))]
    (repeat' (first|(refine at_EL ?_;first|refine eN ?_|refine eV Z Z (zA Z Z) ?_|refine eV Z Z (zB Z Z) ?_|(refine at_bin ?_;first|refine eD Z Z (zL Z Z Z) (fun hh=>?_) (fun hh=>?_))|(refine at_call ?_;first|refine eV Z Z (zK Z Z) ?_))|(refine at_K ?_;first|refine K_then ?_|refine K_then_exit ?_|refine K_in_exit ?_)|(refine at_E ?_;first|refine E_seq ?_|refine E_region ?_|refine E_cond_t Z ?_|refine E_cond_f Z ?_|refine E_block ?_|refine E_skip ?_|refine E_ret ?_|refine E_exit ?_)))
    all_goals (try (exfalso;omega))
    exact ret_1 Z Z ⟨rfl,hx⟩
theorem usesL_len {l:List Pnt} {id:Int}:(usesL l id).length≤l.length:=by unfold usesL;rw [List.length_map];exact List.length_filter_le _ _
end Go.Proofs.YtjicdgejhkgpgaaGreatDoor
namespace Go.Proofs.YtjicdgejhkgpgaaGreatDoor
open Go.RowKit Go.En
attribute [local irreducible] E EL K Val Enters Rt Calls bodyPost Code.wp RQ
end Go.Proofs.YtjicdgejhkgpgaaGreatDoor
namespace Go.Proofs.YtjicdgejhkgpgaaGreatDoor
open Go.RowKit Go.En
end Go.Proofs.YtjicdgejhkgpgaaGreatDoor
namespace Go.En
open Go.RowKit Go.MapKept
def MapF (w:World) (r:Nat) (f:Int→Option Value):Prop:=
  ∃ es clock,w.heap[r]?=some (.map es clock)∧Stamped es clock∧(∀ x∈es.toList,IsKey (.int .i64) x.key)∧∀ k v,f k=some v↔∃ e∈es.toList,e.key=int k∧e.val=v
theorem MapF.lt {w:World} {r:Nat} {f:Int→Option Value} (h:MapF w r f):r<w.heap.size:=by
  obtain⟨_,_,h,_⟩:=h;exact(Array.getElem?_eq_some_iff.1 h).1
theorem MapF.same {w w':World} {r:Nat} {f:Int→Option Value} (h:MapF w r f) (e:w'.heap[r]?=w.heap[r]?):MapF w' r f:=by
  obtain⟨es,c,h1,h2⟩:=h;exact⟨es,c,e.trans h1,h2⟩
theorem MapF.ext {w w':World} {r:Nat} {f:Int→Option Value} (h:MapF w r f) (x:Ext w w'):MapF w' r f:=h.same (x.block h.lt)
theorem MapF.kb {g:Option Nat} {w w':World} {r:Nat} {f:Int→Option Value} (h:MapF w r f) (k:Kb g w w') (hne:some r≠g):MapF w' r f:=h.same (World.grownBy.block k r h.lt hne)
section
variable {P : Program} {n : Nat} {Q : Post} {L : List (Nat × Value)} {w : World} {ops : List Oper} {o : Oper} {rest : List Oper}
end
end Go.En
namespace Go.En
open Go.RowKit Go.MapKept
end Go.En
namespace Go.Proofs.YtjicdgejhkgpgaaGreatDoor
open Go.RowKit Go.En
attribute [local irreducible] E EL K Val Enters Rt Calls bodyPost Code.wp RQ
end Go.Proofs.YtjicdgejhkgpgaaGreatDoor
namespace Go.Proofs.YtjicdgejhkgpgaaGreatDoor
open Go.RowKit Go.En
theorem filter_yes {α:Type} {p:α→Bool} {l:List α} {i:Nat} {x:α} (h:l[i]?=some x) (hp:p x=true):(l.take (i+1)).filter p=(l.take i).filter p++[x]:=by
  obtain⟨hi,rfl⟩:=List.getElem?_eq_some_iff.1 h
  rw [List.take_succ_eq_append_getElem hi,List.filter_append]
  simp [hp]
theorem filter_no {α:Type} {p:α→Bool} {l:List α} {i:Nat} {x:α} (h:l[i]?=some x) (hp:p x=false):(l.take (i+1)).filter p=(l.take i).filter p:=by
  obtain⟨hi,rfl⟩:=List.getElem?_eq_some_iff.1 h
  rw [List.take_succ_eq_append_getElem hi,List.filter_append]
  simp [hp]
def kidsT (d:Dc) (i:Nat) (k:Int):List Int:=((d.notes.take i).filter fun n=>decide (n.parent=k)).map fun n=>n.id
theorem kidsT_yes {d:Dc} {i:Nat} {q:Note} (h:d.notes[i]?=some q):kidsT d (i+1) q.parent=kidsT d i q.parent++[q.id]:=by
  unfold kidsT
  rw [filter_yes h (by simp),List.map_append];rfl
theorem kidsT_no {d:Dc} {i:Nat} {q:Note} {k:Int} (h:d.notes[i]?=some q) (hk:k≠q.parent):kidsT d (i+1) k=kidsT d i k:=by
  unfold kidsT
  rw [filter_no h (by simp;exact fun e=>hk e.symm)]
structure KF (d:Dc) (i:Nat) (Bw:Nat) (w:World) (f:Int→Option Value):Prop where
  none_:∀ k,f k=none→kidsT d i k=[]
  some_:∀ k v,f k=some v→w.ownsRow Bw 3 1 v (kidsT d i k).length ((kidsT d i k).map int)∧0<(kidsT d i k).length
  apart:∀ k k' v v',k≠k'→f k=some v→f k'=some v'→v.ownBlock≠v'.ownBlock
theorem own_some {w:World} {B:Nat} {e:TypeId} {size n:Nat} {v:Value} {xs:List Value} (h:w.ownsRow B e size v n xs) (h0:0<n):∃ b,v.ownBlock=some b:=by
  obtain⟨g,cap,tail,rfl,_⟩:=own_open h h0
  exact⟨g,rfl⟩
theorem KF.get {d:Dc} {i Bw:Nat} {w:World} {f:Int→Option Value} (h:KF d i Bw w f) (k:Int):w.ownsRow Bw 3 1 ((f k).getD (.slice none 0 0)) (kidsT d i k).length ((kidsT d i k).map int):=by
  cases hf:f k with
  | none=>rw [h.none_ k hf];exact World.ownsRow_nil _ _ _ _
  | some v=>exact(h.some_ k v hf).1
theorem KF.next {d : Dc} {i Bw r : Nat} {w w1 w2 w3 : World} {f : Int → Option Value} {q : Note} {v' : Value} (h : KF d i Bw w f) (hq : d.notes[i]? = some q) (hr : r < Bw) (x1 : Ext w w1) (k2 : Kb ((f q.parent).getD (.slice none 0 0)).ownBlock w1 w2) (k3 : Kb (some r) w2 w3)
    (ho:w2.ownsRow Bw 3 1 v' ((kidsT d i q.parent).length+1) ((kidsT d i q.parent).map int++[int q.id])) (hb:v'.ownBlock=((f q.parent).getD (.slice none 0 0)).ownBlock∨v'.ownBlock=some w1.heap.size):KF d (i+1) Bw w3 (fun j=>if j=q.parent then some v' else f j):=by
  have kept3:∀ {v:Value} {n:Nat} {xs:List Value},w2.ownsRow Bw 3 1 v n xs→w3.ownsRow Bw 3 1 v n xs:=fun {v n xs} hv=>hv.kept k3 (Or.inr (fun e=>by have:=(hv.lt r e).1;omega))
  have old:∀ k v,k≠q.parent→f k=some v→w3.ownsRow Bw 3 1 v (kidsT d i k).length ((kidsT d i k).map int):=fun k v hk hv=>by
    have h1:=own_ext (h.some_ k v hv).1 x1
    refine kept3 (h1.kept k2 ?_)
    cases hp:f q.parent with
    | none=>
      right
      obtain⟨b,hb'⟩:=own_some h1 (h.some_ k v hv).2
      rw [hb']
      intro e;cases e
    | some v0=>exact Or.inr (h.apart k q.parent v v0 hk hv hp)
  have sep:∀ k v,k≠q.parent→f k=some v→v.ownBlock≠v'.ownBlock:=fun k v hk hv e=>by
    have h1:=(h.some_ k v hv)
    obtain⟨b,hb'⟩:=own_some h1.1 h1.2
    rcases hb with hb|hb
    · cases hp:f q.parent with
      | none=>
        rw [hp] at hb
        rw [e,hb] at hb'
        cases hb'
      | some v0=>
        rw [hp] at hb
        exact h.apart k q.parent v v0 hk hv hp (e.trans hb)
    · rw [e,hb] at hb'
      have hlt:=(h1.1.lt b (by rw [e,hb];exact hb')).2
      have:=x1.size
      cases hb'
      omega
  refine⟨fun k hk=>?_,fun k v hv=>?_,fun k k' v u hne hv hu=>?_⟩
  · by_cases he:k=q.parent
    · rw [if_pos he] at hk;cases hk
    · rw [if_neg he] at hk
      rw [kidsT_no hq he];exact h.none_ k hk
  · by_cases he:k=q.parent
    · rw [if_pos he] at hv;cases hv
      subst he
      rw [kidsT_yes hq,List.length_append,List.map_append]
      exact⟨kept3 ho,by simp⟩
    · rw [if_neg he] at hv
      rw [kidsT_no hq he]
      exact⟨old k v he hv,(h.some_ k v hv).2⟩
  · by_cases he:k=q.parent
    · rw [if_pos he] at hv;cases hv
      by_cases he':k'=q.parent
      · exact absurd (he.trans he'.symm) hne
      · rw [if_neg he'] at hu
        exact fun e=>sep k' u he' hu e.symm
    · rw [if_neg he] at hv
      by_cases he':k'=q.parent
      · rw [if_pos he'] at hu;cases hu
        exact sep k v he hv
      · rw [if_neg he'] at hu
        exact h.apart k k' v u hne hv hu
theorem KF.ext {d:Dc} {i Bw:Nat} {w w':World} {f:Int→Option Value} (h:KF d i Bw w f) (x:Ext w w'):KF d i Bw w' f:=
  ⟨h.none_,fun k v hv=>⟨own_ext (h.some_ k v hv).1 x,(h.some_ k v hv).2⟩,h.apart⟩
attribute [local irreducible] E EL K Val Enters Rt Calls bodyPost Code.wp RQ
end Go.Proofs.YtjicdgejhkgpgaaGreatDoor
