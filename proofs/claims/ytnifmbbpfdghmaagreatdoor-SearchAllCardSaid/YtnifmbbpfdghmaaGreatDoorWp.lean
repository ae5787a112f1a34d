/-
  Walks of align: Next, of both.
-/
import Derived.Test.YtnifmbbpfdghmaaGreatDoorWm
set_option linter.all false
namespace Go.Proofs.YtnifmbbpfdghmaaGreatDoor
open Go.RowKit Go.En
def scanR (id p:Int):List Note→Int
  | a::b::r=>if a.id=id∧b.parent=p then b.id else scanR id p (b::r)
  | _=>0
theorem scan_none {id p:Int}:∀ {l:List Note},(∀ x∈l,x.id≠id)→scanR id p l=0
  | [],_=>rfl
  | [_],_=>rfl
  | a::b::r,h=>by
    rw [scanR,if_neg (fun e=>h a (List.mem_cons_self ..) e.1)]
    exact scan_none fun x hx=>h x (List.mem_cons_of_mem _ hx)
theorem scan_eq {id p : Int} : ∀ {l : List Note}, (l.Pairwise fun a b => a.id ≠ b.id) → scanR id p l = (match behind l id with | some m => if m.parent = p then m.id else 0 | none => 0)
  | [],_=>rfl
  | [_],_=>rfl
  | a :: b :: r, h => by
    have h1:=List.pairwise_cons.1 h
    by_cases ha:a.id=id
    · rw [scanR,behind,if_pos ha]
      by_cases hp:b.parent=p
      · rw [if_pos ⟨ha,hp⟩];simp [hp]
      · rw [if_neg (fun e=>hp e.2)]
        dsimp only
        rw [if_neg hp]
        exact scan_none fun x hx e=>h1.1 x hx (ha.trans e.symm)
    · rw [scanR,behind,if_neg ha,if_neg (fun e=>ha e.1)]
      exact scan_eq h1.2
theorem scan_step {id p:Int} {l:List Note} {i:Nat} {a b:Note} (ha:l[i]?=some a) (hb:l[i+1]?=some b):scanR id p (l.drop i)=if a.id=id∧b.parent=p then b.id else scanR id p (l.drop (i+1)):=by
  obtain⟨h1,rfl⟩:=List.getElem?_eq_some_iff.1 ha
  obtain⟨h2,rfl⟩:=List.getElem?_eq_some_iff.1 hb
  rw [List.drop_eq_getElem_cons h1,List.drop_eq_getElem_cons h2,scanR]
theorem scan_end {id p:Int} {l:List Note} {i:Nat} (h:l.length≤i+1):scanR id p (l.drop i)=0:=by
  have hl:(l.drop i).length≤1:=by rw [List.length_drop];omega
  cases hd:l.drop i with
  | nil=>rfl
  | cons a r=>
    cases r with
    | nil=>rfl
    | cons b r=>rw [hd] at hl;simp at hl
theorem behind_step {id:Int} {l:List Note} {i:Nat} {a b:Note} (ha:l[i]?=some a) (hb:l[i+1]?=some b):behind (l.drop i) id=if a.id=id then some b else behind (l.drop (i+1)) id:=by
  obtain⟨h1,rfl⟩:=List.getElem?_eq_some_iff.1 ha
  obtain⟨h2,rfl⟩:=List.getElem?_eq_some_iff.1 hb
  rw [List.drop_eq_getElem_cons h1,List.drop_eq_getElem_cons h2,behind]
theorem behind_end {id:Int} {l:List Note} {i:Nat} (h:l.length≤i+1):behind (l.drop i) id=none:=by
  have hl:(l.drop i).length≤1:=by rw [List.length_drop];omega
  cases hd:l.drop i with
  | nil=>rfl
  | cons a r=>
    cases r with
    | nil=>rfl
    | cons b r=>rw [hd] at hl;simp at hl
theorem getR_none {ns:List Note} {id:Int} (h:getF ns id=none):getR ns id=.tuple #[.agg (noteC zeroN).toArray,.bool false]:=by
  unfold getR;rw [h]
theorem ofR_ids {d:Dc} (h:LightD d) (k:Int):(ofR d k).Pairwise fun a b=>a.id≠b.id:=by
  have hnd:(ofR d k).Nodup:=by
    unfold ofR
    exact(insSort_perm _).nodup_iff.2 ((notes_nodup h).filter _)
  refine List.Pairwise.imp_of_mem (fun {a b} ha hb hab e=>hab ?_) hnd
  exact ids_inj (ids_rise h) (ofR_mem.1 ha).1 (ofR_mem.1 hb).1 e
theorem kids_len {d:Dc} (h:LightD d) (p k:Int):(kidsN d p k).length≤14:=by
  rw [kids_acc,(insSort_perm _).length_eq]
  have:=acc_len d p k d.notes
  have:=h.nnotes
  omega
attribute [local irreducible] E EL K Val Enters Rt Calls bodyPost Code.wp RQ
set_option maxHeartbeats 4000000 in
set_option maxRecDepth 8000 in
theorem next_any {d:Dc} (h:LightD d) (v:Value) (id:Int) (w:World) (hv:DcAt w v d):Calls Tryz.prog 61 #[v,int id] w (Rt fun u w'=>u=int (nextF d id)∧Ext w w'):=by
  have hd0:=hv
  obtain⟨sv,tv,nv,rfl,_,ht,hn⟩:=hv
  refine calls_E (n:=40) (args:=[.agg #[int d.rid,str d.rname,int d.len,int d.day,sv,tv,nv],int id]) Tryz.func61 rfl Tryz.ntmps61 (by simp) ?_
  refine E_seq ?_
  refine E_region ?_
  refine EL_box Z Z Z Z (fun bD wD xD hbD rD0=>?_)
  have rD:Row wD bD 28 [int d.rid,str d.rname,int d.len,int d.day,sv,tv,nv]:=rD0
  clear rD0
  have cg:=tget_any d _ id wD (hd0.ext xD)
  cases hg:getF d.notes id with
  | none=>
    rw [getR_none hg] at cg
    (repeat' (first|refine eV Z Z (val_loadA Z Z Z rD.at rfl) ?_|(refine EL_call Z Z (entersF Z Z en82) cg (fun vC wC hC=>?_);obtain⟨rfl,xC⟩:=hC)|(refine at_EL ?_;first|refine eN ?_|refine eV Z Z (zA Z Z) ?_|refine eV Z Z (zB Z Z) ?_|refine eV Z Z (zF Z Z Z) ?_)|(refine at_K ?_;first|refine K_then ?_)|(refine at_E ?_;first|refine E_seq ?_|refine E_region ?_)))
    refine EL_alloc Z Z Z (fun bP wP xP hbP rP0=>?_)
    refine EL_storeP (cs:=noteC zeroN) rP0 xP (by omega) Z Z Z Z Z Z Z Z (Nat.le_refl _) (fun w3 rP1 x3 k3=>?_)
    (repeat' (first|(refine at_EL ?_;first|refine eN ?_|refine eV Z Z (zA Z Z) ?_|refine eV Z Z (zB Z Z) ?_|refine eV Z Z (zE Z Z) ?_)|(refine at_K ?_;first|refine K_then ?_|refine K_then_ret ?_)|(refine at_E ?_;first|refine E_seq ?_|refine E_region ?_|refine E_cond_t Z ?_|refine E_ret ?_)))
    exact ret_1 Z Z ⟨by unfold nextF;rw [hg],xD.trans (xC.trans x3)⟩
  | some n=>
    rw [getR_val hg] at cg
    (repeat' (first|refine eV Z Z (val_loadA Z Z Z rD.at rfl) ?_|(refine EL_call Z Z (entersF Z Z en82) cg (fun vC wC hC=>?_);obtain⟨rfl,xC⟩:=hC)|(refine at_EL ?_;first|refine eN ?_|refine eV Z Z (zA Z Z) ?_|refine eV Z Z (zB Z Z) ?_|refine eV Z Z (zF Z Z Z) ?_)|(refine at_K ?_;first|refine K_then ?_)|(refine at_E ?_;first|refine E_seq ?_|refine E_region ?_)))
    refine EL_alloc Z Z Z (fun bP wP xP hbP rP0=>?_)
    refine EL_storeP (cs:=noteC n) rP0 xP (by omega) Z Z Z Z Z Z Z Z (Nat.le_refl _) (fun w3 rP1 x3 k3=>?_)
    have rP:Row w3 bP 74 (noteC n):=rP1
    clear rP0 rP1 k3 cg
    have rD3:=rD.ext (xC.trans x3)
    have hX3:=xD.trans (xC.trans x3)
    have ck:=kids_any h _ n.parent n.tier w3 (hd0.ext hX3)
    have hnx:nextF d id=(match behind (kidsN d n.parent n.tier) id with|some m=>m.id|none=>0):=by unfold nextF;rw [hg];rfl
    obtain⟨X,hX⟩:∃ X,X=kidsN d n.parent n.tier:=⟨_,rfl⟩
    obtain⟨I,hI⟩:∃ I:List Int,I=X.map (fun n=>n.id):=⟨_,rfl⟩
    have hXl:X.length≤14:=hX▸kids_len h _ _
    rw [← hX,← hI] at ck
    rw [← hX] at hnx
    have hIl:I.length=X.length:=by rw [hI,List.length_map]
    (repeat' (first|refine eV Z Z (val_loadA Z Z Z rD3.at rfl) ?_|refine eV Z Z (val_load Z Z Z (rP.cellAt rfl)) ?_|(refine EL_call Z Z (entersF Z Z en104) ck (fun vE wE hE=>?_);obtain⟨xE,sE⟩:=hE)|(refine at_EL ?_;first|refine eN ?_|refine eV Z Z (zA Z Z) ?_|refine eV Z Z (zB Z Z) ?_|refine eV Z Z (zE Z Z) ?_|refine eV Z Z (zH Z Z) ?_)|(refine at_K ?_;first|refine K_then ?_)|(refine at_E ?_;first|refine E_seq ?_|refine E_region ?_|refine E_cond_f Z ?_|refine E_block ?_|refine E_skip ?_)))
    have sE0:=sE
    obtain⟨a,cap,rfl,hc,hm,hp⟩:=sE.sl
    refine E_loop (ι:=Nat) (fun i=>[(1,int id),(7,.slice a I.length cap),(8,int i)])
      (fun i wr=>1≤i∧i≤X.length+1∧Ext wE wr∧behind X id=behind (X.drop (i-1)) id) (fun i=>X.length+1-i) 1
      ⟨rfl,rfl,rfl,trivial⟩ ⟨Nat.le_refl _,by omega,Ext.refl _,rfl⟩ ?_
    rintro i wr ⟨hi1,hi,hx,hbe⟩
    have hXr:=hX3.trans (xE.trans hx)
    by_cases hlt:i<X.length
    · obtain⟨b,off,rfl⟩:=hp (by omega)
      obtain⟨m0,hm0⟩:∃ m,X[i-1]?=some m:=⟨_,List.getElem?_eq_getElem (by omega)⟩
      obtain⟨m1,hm1⟩:∃ m,X[i]?=some m:=⟨_,List.getElem?_eq_getElem hlt⟩
      have c0:=int_elem (sE0.ext hx) (show I[i-1]?=some m0.id by rw [hI,List.getElem?_map,hm0];rfl)
      have c1:=int_elem (sE0.ext hx) (show I[i]?=some m1.id by rw [hI,List.getElem?_map,hm1];rfl)
      have hst:=behind_step (id:=id) hm0 (show X[i-1+1]?=some m1 by rw [show i-1+1=i by omega];exact hm1)
      rw [show i-1+1=i by omega] at hst
      rw [hst] at hbe
      (repeat' (first|refine eV Z Z (val_indexAddr (m:=i-1) Z Z Z (by omega) (by omega)) ?_|refine eV Z Z (val_indexAddr (m:=i) Z Z Z Z (by omega)) ?_|refine eV Z Z (val_load Z Z Z c0) ?_|refine eV Z Z (val_load Z Z Z c1) ?_|(refine at_EL ?_;first|refine eN ?_|refine eV Z Z (zA Z Z) ?_|refine eV Z Z (zB Z Z) ?_|(refine at_bin ?_;first|refine eD Z Z (zL Z Z Z) (fun hh=>?_) (fun hh=>?_)|refine eD Z Z (zM Z Z Z) (fun hh=>?_) (fun hh=>?_)|refine eV Z Z (zU Z Z Z (by omega) (by omega)) ?_|refine eV Z Z (zV Z Z Z (by omega) (by omega)) ?_)|(refine at_call ?_;first|refine eV Z Z (zK Z Z) ?_))|(refine at_K ?_;first|refine K_then ?_|refine K_in ?_|refine K_then_ret ?_|refine K_then_exit ?_|refine K_in_ret ?_|refine K_in_exit ?_)|(refine at_E ?_;first|refine E_seq ?_|refine E_region ?_|refine E_cond_t Z ?_|refine E_cond_f Z ?_|refine E_block ?_|refine E_skip ?_|refine E_ret ?_|refine E_exit ?_)))
      all_goals (first|(exfalso;omega)|skip)
      · rw [if_pos ‹m0.id=id›] at hbe
        exact ret_1 Z Z ⟨by rw [hnx,hbe],hXr⟩
      · rw [if_neg ‹¬ m0.id=id›] at hbe
        exact K_rnd (i+1) ⟨rfl,rfl,rfl,trivial⟩ ⟨by omega,by omega,hx,by rw [show i+1-1=i by omega];exact hbe⟩ (by omega)
    · rw [behind_end (by omega)] at hbe
      (repeat' (first|(refine at_EL ?_;first|refine eN ?_|refine eV Z Z (zA Z Z) ?_|refine eV Z Z (zB Z Z) ?_|(refine at_bin ?_;first|refine eD Z Z (zL Z Z Z) (fun hh=>?_) (fun hh=>?_)|refine eV Z Z (zV Z Z Z (by omega) (by omega)) ?_)|(refine at_call ?_;first|refine eV Z Z (zK Z Z) ?_))|(refine at_K ?_;first|refine K_then ?_|refine K_then_exit ?_|refine K_in_exit ?_)|(refine at_E ?_;first|refine E_seq ?_|refine E_region ?_|refine E_cond_t Z ?_|refine E_cond_f Z ?_|refine E_block ?_|refine E_skip ?_|refine E_ret ?_|refine E_exit ?_)))
      all_goals (first|(exfalso;omega)|skip)
      exact ret_1 Z Z ⟨by rw [hnx,hbe],hXr⟩
set_option maxHeartbeats 4000000 in
set_option maxRecDepth 8000 in
theorem refnext_any {d:Dc} (h:LightD d) (v:Value) (id:Int) (w:World) (hv:DcAt w v d):Calls Tryz.prog 71 #[v,int id] w (Rt fun u w'=>u=int (nextR d id)∧Ext w w'):=by
  have hd0:=hv
  obtain⟨sv,tv,nv,rfl,_,ht,hn⟩:=hv
  refine calls_E (n:=55) (args:=[.agg #[int d.rid,str d.rname,int d.len,int d.day,sv,tv,nv],int id]) Tryz.func71 rfl Tryz.ntmps71 (by simp) ?_
  refine E_seq ?_
  refine E_region ?_
  refine EL_box Z Z Z Z (fun bD wD xD hbD rD0=>?_)
  have rD:Row wD bD 28 [int d.rid,str d.rname,int d.len,int d.day,sv,tv,nv]:=rD0
  clear rD0
  have cg:=get_any d _ id wD (hd0.ext xD)
  cases hg:getF d.notes id with
  | none=>
    rw [getR_none hg] at cg
    (repeat' (first|refine eV Z Z (val_loadA Z Z Z rD.at rfl) ?_|(refine EL_call Z Z (entersF Z Z en59) cg (fun vC wC hC=>?_);obtain⟨rfl,xC⟩:=hC)|(refine at_EL ?_;first|refine eN ?_|refine eV Z Z (zA Z Z) ?_|refine eV Z Z (zB Z Z) ?_|refine eV Z Z (zF Z Z Z) ?_)|(refine at_K ?_;first|refine K_then ?_)|(refine at_E ?_;first|refine E_seq ?_|refine E_region ?_)))
    refine EL_alloc Z Z Z (fun bP wP xP hbP rP0=>?_)
    refine EL_storeP (cs:=noteC zeroN) rP0 xP (by omega) Z Z Z Z Z Z Z Z (Nat.le_refl _) (fun w3 rP1 x3 k3=>?_)
    (repeat' (first|(refine at_EL ?_;first|refine eN ?_|refine eV Z Z (zA Z Z) ?_|refine eV Z Z (zB Z Z) ?_|refine eV Z Z (zE Z Z) ?_)|(refine at_K ?_;first|refine K_then ?_|refine K_then_ret ?_)|(refine at_E ?_;first|refine E_seq ?_|refine E_region ?_|refine E_cond_t Z ?_|refine E_ret ?_)))
    exact ret_1 Z Z ⟨by unfold nextR;rw [hg],xD.trans (xC.trans x3)⟩
  | some n=>
    rw [getR_val hg] at cg
    (repeat' (first|refine eV Z Z (val_loadA Z Z Z rD.at rfl) ?_|(refine EL_call Z Z (entersF Z Z en59) cg (fun vC wC hC=>?_);obtain⟨rfl,xC⟩:=hC)|(refine at_EL ?_;first|refine eN ?_|refine eV Z Z (zA Z Z) ?_|refine eV Z Z (zB Z Z) ?_|refine eV Z Z (zF Z Z Z) ?_)|(refine at_K ?_;first|refine K_then ?_)|(refine at_E ?_;first|refine E_seq ?_|refine E_region ?_)))
    refine EL_alloc Z Z Z (fun bP wP xP hbP rP0=>?_)
    refine EL_storeP (cs:=noteC n) rP0 xP (by omega) Z Z Z Z Z Z Z Z (Nat.le_refl _) (fun w3 rP1 x3 k3=>?_)
    have rP:Row w3 bP 74 (noteC n):=rP1
    clear rP0 rP1 k3 cg
    have rD3:=rD.ext (xC.trans x3)
    have hX3:=xD.trans (xC.trans x3)
    have ck:=refof_any h _ n.tier w3 (hd0.ext hX3)
    have hnx:nextR d id=scanR id n.parent (ofR d n.tier):=by unfold nextR;rw [hg,scan_eq (ofR_ids h n.tier)];rfl
    have hXl:=ofR_len h n.tier
    obtain⟨X,hX⟩:∃ X,X=ofR d n.tier:=⟨_,rfl⟩
    obtain⟨I,hI⟩:∃ I:List Int,I=X.map (fun n=>n.id):=⟨_,rfl⟩
    rw [← hX] at hnx hXl
    rw [← hX,← hI] at ck
    have hIl:I.length=X.length:=by rw [hI,List.length_map]
    have hXm:∀ m∈X,m∈d.notes:=fun m hm=>by rw [hX] at hm;exact(ofR_mem.1 hm).1
    (repeat' (first|refine eV Z Z (val_loadA Z Z Z rD3.at rfl) ?_|refine eV Z Z (val_load Z Z Z (rP.cellAt rfl)) ?_|(refine EL_call Z Z (entersF Z Z en113) ck (fun vE wE hE=>?_);obtain⟨xE,sE⟩:=hE)|(refine at_EL ?_;first|refine eN ?_|refine eV Z Z (zA Z Z) ?_|refine eV Z Z (zB Z Z) ?_|refine eV Z Z (zE Z Z) ?_|refine eV Z Z (zH Z Z) ?_)|(refine at_K ?_;first|refine K_then ?_)|(refine at_E ?_;first|refine E_seq ?_|refine E_region ?_|refine E_cond_f Z ?_|refine E_block ?_|refine E_skip ?_)))
    have sE0:=sE
    obtain⟨a,cap,rfl,hc,hm,hp⟩:=sE.sl
    have rDE:=rD3.ext xE
    have rPE:=rP.ext xE
    refine E_loop (ι:=Nat) (fun i=>[(1,int id),(2,.pointer (some ⟨bD,0,none⟩)),(5,.pointer (some ⟨bP,0,none⟩)),(7,.slice a I.length cap),(8,int i)])
      (fun i wr=>i≤X.length∧Ext wE wr∧scanR id n.parent X=scanR id n.parent (X.drop i)) (fun i=>X.length+1-i) 0
      ⟨rfl,rfl,rfl,rfl,rfl,trivial⟩ ⟨Nat.zero_le _,Ext.refl _,rfl⟩ ?_
    rintro i wr ⟨hi,hx,hbe⟩
    have hXr:=hX3.trans (xE.trans hx)
    have rDr:=rDE.ext hx
    have rPr:=rPE.ext hx
    by_cases hlt:i+1<X.length
    · obtain⟨b,off,rfl⟩:=hp (by omega)
      obtain⟨m0,hm0⟩:∃ m,X[i]?=some m:=⟨_,List.getElem?_eq_getElem (by omega)⟩
      obtain⟨m1,hm1⟩:∃ m,X[i+1]?=some m:=⟨_,List.getElem?_eq_getElem hlt⟩
      have c0:=int_elem (sE0.ext hx) (show I[i]?=some m0.id by rw [hI,List.getElem?_map,hm0];rfl)
      have c1:=int_elem (sE0.ext hx) (show I[i+1]?=some m1.id by rw [hI,List.getElem?_map,hm1];rfl)
      have hst:=scan_step (id:=id) (p:=n.parent) hm0 hm1
      rw [hst] at hbe
      have cget:∀ wq,Ext wr wq→Calls Tryz.prog 59 #[.agg #[int d.rid,str d.rname,int d.len,int d.day,sv,tv,nv],int m1.id] wq (Rt fun u w'=>u=.tuple #[.agg (noteC m1).toArray,.bool true]∧Ext wq w'):=fun wq xq=>by
        have:=get_any d _ m1.id wq (hd0.ext (hXr.trans xq))
        rw [getR_val (get_mem (ids_rise h) (hXm m1 (List.mem_of_getElem? hm1)))] at this
        exact this
      (repeat' ((fail_if_success (refine E_seq (x:=(Code.region 8 _ _)) ?_));first|(refine at_EL ?_;first|refine eN ?_|refine eV Z Z (zA Z Z) ?_|refine eV Z Z (zB Z Z) ?_|(refine at_bin ?_;first|refine eD Z Z (zL Z Z Z) (fun hh=>?_) (fun hh=>?_)|refine eV Z Z (zU Z Z Z (by omega) (by omega)) ?_)|(refine at_call ?_;first|refine eV Z Z (zK Z Z) ?_))|(refine at_K ?_;first|refine K_then ?_|refine K_then_exit ?_|refine K_in_exit ?_)|(refine at_E ?_;first|refine E_seq ?_|refine E_region ?_|refine E_cond_t Z ?_|refine E_cond_f Z ?_|refine E_block ?_|refine E_skip ?_|refine E_ret ?_|refine E_exit ?_)))
      all_goals (first|(exfalso;omega)|skip)
      refine E_seq ?_
      refine E.sub (M:=[(1,int id),(2,.pointer (some ⟨bD,0,none⟩)),(5,.pointer (some ⟨bP,0,none⟩)),(7,.slice (some ⟨b,off,none⟩) I.length cap),(8,int i)]) ⟨rfl,rfl,rfl,rfl,rfl,trivial⟩ ?_
      refine E_one 10 11 9 38 (noteC m1) [some (31,.agg #[int d.rid,str d.rname,int d.len,int d.day,sv,tv,nv]),some (32,.slice (some ⟨b,off,none⟩) I.length cap),some (33,int i),some (34,int ((i:Int)+1)),some (35,.pointer (some ⟨b,off+(i+1)*1,none⟩)),some (36,int m1.id),
        some (37,.tuple #[.agg (noteC m1).toArray,.bool true]),some (30,.tuple #[.agg (noteC m1).toArray,.bool true]),some (38,.agg (noteC m1).toArray),some (39,.bool true),none,none,some (10,.bool true)] mixedOk (by kernel_rfl) rfl rfl rfl rfl rfl rfl rfl rfl (by decide) rfl rfl rfl rfl rfl
        ⟨vcV fun wq xq=>val_loadA Z Z Z (rDr.ext xq).at rfl,vcV fun _ _=>zA Z Z,vcV fun _ _=>zA Z Z,vcV fun _ _=>zU Z Z Z (by omega) (by omega),vcV fun _ _=>val_indexAddr (m:=i+1) Z Z Z (by omega) (by omega),vcV fun wq xq=>val_load Z Z Z (xq.cell c1),
          vcC (fun _ _=>entersF Z Z en59) (fun wq xq=>cget wq xq),vcV fun _ _=>zA Z Z,vcV fun _ _=>zF Z Z Z,vcV fun _ _=>zF Z Z Z,vcV fun _ _=>zB Z Z,trivial⟩ (fun b9 w1 x1 hge9 r1=>?_)
      refine K.sub (M:=[(1,int id),(2,.pointer (some ⟨bD,0,none⟩)),(5,.pointer (some ⟨bP,0,none⟩)),(7,.slice (some ⟨b,off,none⟩) I.length cap),(8,int i),(9,.pointer (some ⟨b9,0,none⟩))]) ⟨rfl,rfl,rfl,rfl,rfl,rfl,trivial⟩ ?_
      have c01:=x1.cell c0
      have rP1:=rPr.ext x1
      (repeat' (first|refine eV Z Z (val_indexAddr (m:=i) Z Z Z Z (by omega)) ?_|refine eV Z Z (val_load Z Z Z c01) ?_|refine eV Z Z (val_load Z Z Z (r1.cellAt rfl)) ?_|refine eV Z Z (val_load Z Z Z (rP1.cellAt rfl)) ?_|(refine at_EL ?_;first|refine eN ?_|refine eO Z Z ?_|refine eV Z Z (zA Z Z) ?_|refine eV Z Z (zB Z Z) ?_|(refine at_bin ?_;first|refine eD Z Z (zM Z Z Z) (fun hh=>?_) (fun hh=>?_)|refine eV Z Z (zU Z Z Z (by omega) (by omega)) ?_)|refine eV Z Z (zC Z Z Z) ?_|refine eV Z Z (zD Z Z Z) ?_|refine eV Z Z (zH Z Z) ?_)|(refine at_K ?_;first|refine K_then ?_|refine K_in ?_|refine K_then_ret ?_|refine K_in_ret ?_)|(refine at_E ?_;first|refine E_seq ?_|refine E_region ?_|refine E_cond_t Z ?_|refine E_cond_f Z ?_|refine E_skip ?_|refine E_ret ?_)))
      all_goals (first|(exfalso;omega)|skip)
      · rw [if_pos ⟨by assumption,by assumption⟩] at hbe
        exact ret_1 Z Z ⟨by rw [hnx,hbe],hXr.trans x1⟩
      all_goals
        rw [if_neg (by rintro⟨e1,e2⟩;first|exact absurd e1 ‹_› | exact absurd e2 ‹_›)] at hbe
        exact K_rnd (i+1) ⟨rfl,rfl,rfl,rfl,rfl,trivial⟩ ⟨by omega,hx.trans x1,hbe⟩ (by omega)
    · rw [scan_end (by omega)] at hbe
      (repeat' (first|(refine at_EL ?_;first|refine eN ?_|refine eV Z Z (zA Z Z) ?_|refine eV Z Z (zB Z Z) ?_|(refine at_bin ?_;first|refine eD Z Z (zL Z Z Z) (fun hh=>?_) (fun hh=>?_)|refine eV Z Z (zU Z Z Z (by omega) (by omega)) ?_)|(refine at_call ?_;first|refine eV Z Z (zK Z Z) ?_))|(refine at_K ?_;first|refine K_then ?_|refine K_then_exit ?_|refine K_in_exit ?_)|(refine at_E ?_;first|refine E_seq ?_|refine E_region ?_|refine E_cond_t Z ?_|refine E_cond_f Z ?_|refine E_block ?_|refine E_skip ?_|refine E_ret ?_|refine E_exit ?_)))
      all_goals (first|(exfalso;omega)|skip)
      exact ret_1 Z Z ⟨by rw [hnx,hbe],hXr⟩
end Go.Proofs.YtnifmbbpfdghmaaGreatDoor
