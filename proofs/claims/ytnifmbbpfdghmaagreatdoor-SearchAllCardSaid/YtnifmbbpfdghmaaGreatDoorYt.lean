/-
  Walks of the reference's match: notes, contains, Then, Within, Has. Walks of the reference's num: Union, Minus, Both; num.Has; the tier of a role.
-/
import Derived.Test.YtnifmbbpfdghmaaGreatDoorYr
set_option linter.all false
namespace Go.Proofs.YtnifmbbpfdghmaaGreatDoor
open Go.RowKit Go.En
theorem filter_ids (d:Dc) (p q:Int→Bool):(idsOf d p).filter q=idsOf d (fun x=>p x&&q x):=by
  unfold idsOf
  rw [List.filter_filter]
  exact List.filter_congr fun x _=>Bool.and_comm ..
theorem any_snoc {α:Type} {l:List α} {p:α→Bool} {i:Nat} {x:α} (hx:l[i]?=some x):(l.take (i+1)).any p=((l.take i).any p||p x):=by
  obtain⟨hi,rfl⟩:=List.getElem?_eq_some_iff.1 hx
  rw [List.take_succ_eq_append_getElem hi,List.any_append]
  simp
attribute [local irreducible] E EL K Val Enters Rt Calls bodyPost Code.wp RQ
set_option maxHeartbeats 4000000 in
set_option maxRecDepth 8000 in
theorem rnotes_any {d:Dc} (h:LightD d) (l:List Int) (v lv:Value) (w:World) (hv:DcAt w v d) (hl:Sl w lv l) :
    Calls Tryz.prog 70 #[v,lv] w (Rt fun u w'=>Ext w w'∧Sl w' u (idsOf d (fun x=>decide (x∈l)))):=by
  have hN:=h.nnotes
  obtain⟨sv,tv,nv,rfl,_,_,hn⟩:=hv
  have hn0:=hn
  obtain⟨a,cap,rfl,hc,hm,hp⟩:=hn.sl
  refine calls_E (n:=32) (args:=[.agg #[int d.rid,str d.rname,int d.len,int d.day,sv,tv,.slice a d.notes.length cap],lv]) Tryz.func70 rfl Tryz.ntmps70 (by simp) ?_
  refine E_seq ?_
  refine E_region ?_
  refine EL_box Z Z Z Z (fun bD wD xD hbD rD0=>?_)
  have rD:Row wD bD 28 [int d.rid,str d.rname,int d.len,int d.day,sv,tv,.slice a d.notes.length cap]:=rD0
  clear rD0
  obtain⟨IL,hIL⟩:∃ IL,IL=d.notes.map (fun n=>n.id):=⟨_,rfl⟩
  have hILl:IL.length=d.notes.length:=by rw [hIL,List.length_map]
  (repeat' (first|(refine at_EL ?_;first|refine eN ?_|refine eV Z Z (zB Z Z) ?_)|(refine at_K ?_;first|refine K_then ?_)|(refine at_E ?_;first|refine E_seq ?_|refine E_region ?_|refine E_block ?_)))
  refine E_loop (ι:=Nat × Value) (fun s=>[(1,lv),(2,.pointer (some ⟨bD,0,none⟩)),(5,s.2),(6,int s.1)])
    (fun s wr=>s.1≤d.notes.length∧Ext wD wr∧wr.ownsRow wD.heap.size 3 1 s.2 ((IL.take s.1).filter fun x=>decide (x∈l)).length (((IL.take s.1).filter fun x=>decide (x∈l)).map int)) (fun s=>d.notes.length-s.1) (0,.slice none 0 0)
    ⟨rfl,rfl,rfl,rfl,trivial⟩ ⟨Nat.zero_le _,Ext.refl _,World.ownsRow_nil _ _ _ _⟩ ?_
  rintro⟨i,vO⟩ wr ⟨hi,hx,hown⟩
  dsimp only at hi hx hown ⊢
  have rDr:=rD.ext hx
  have hX:=xD.trans hx
  have hfl:((IL.take i).filter fun x=>decide (x∈l)).length≤14:=Nat.le_trans (List.length_filter_le _ _) (Nat.le_trans (List.length_take_le _ _) (by omega))
  by_cases hlt:i<d.notes.length
  · obtain⟨b,off,rfl⟩:=hp (by omega)
    obtain⟨q,hq⟩:∃ q,d.notes[i]?=some q:=⟨_,List.getElem?_eq_getElem hlt⟩
    have hat:=note_elem (hn0.ext hX) hq
    have hIq:IL[i]?=some q.id:=by rw [hIL,List.getElem?_map,hq];rfl
    have hfs:=filter_snoc (p:=fun x=>decide (x∈l)) hIq
    have ch:=r1has_any l q.id lv wr (hl.ext hX)
    by_cases hm:q.id∈l
    · rw [decide_eq_true hm] at ch
      rw [if_pos (by simpa using hm)] at hfs
      (repeat' (first|refine eV Z Z (val_load Z Z Z (rDr.cellAt rfl)) ?_|refine eV Z Z (val_indexAddr (m:=i) Z Z Z Z hlt) ?_|refine eV Z Z (val_load Z Z Z (hat.cellAt (j:=0) Z)) ?_|(refine EL_call Z Z (entersF Z Z en33) ch (fun vC wC hC=>?_);obtain⟨rfl,xC⟩:=hC;have own2:=own_ext hown xC;replace rDr:=rDr.ext xC;replace hat:=hat.ext xC)|(refine EL_appO (news:=[int q.id]) (own_ext own2 xS) ((hx.trans xC).trans xS) (fun _=>⟨_,_,rfl,rS.at⟩) Z Z Z Z Z Z Z Z Z (by omega) (by omega) (fun vJ wJ oJ xJ kJ hJ=>?_))|(refine at_EL ?_;first|refine eN ?_|refine eV Z Z (zA Z Z) ?_|refine eV Z Z (zB Z Z) ?_|(refine at_bin ?_;first|refine eD Z Z (zL Z Z Z) (fun hh=>?_) (fun hh=>?_)|refine eV Z Z (zU Z Z Z (by omega) (by omega)) ?_)|(refine at_call ?_;first|refine eV Z Z (zK Z Z) ?_)|refine eV Z Z (zH Z Z) ?_|refine eL Z Z Z Z Z Z Z Z (fun bS wS xS hbS rS=>?_))|(refine at_K ?_;first|refine K_then ?_|refine K_in ?_|refine K_then_exit ?_|refine K_in_exit ?_)|(refine at_E ?_;first|refine E_seq ?_|refine E_region ?_|refine E_cond_t Z ?_|refine E_cond_f Z ?_|refine E_block ?_|refine E_skip ?_|refine E_ret ?_|refine E_exit ?_)))
      all_goals (first|(exfalso;omega)|skip)
      refine K_rnd (i+1,vJ) ⟨rfl,rfl,rfl,rfl,trivial⟩ ⟨by dsimp only;omega,xJ,?_⟩ (by dsimp only;omega)
      dsimp only
      rw [hfs,List.length_append,List.map_append]
      exact oJ
    · rw [decide_eq_false hm] at ch
      rw [if_neg (by simpa using hm),List.append_nil] at hfs
      (repeat' (first|refine eV Z Z (val_load Z Z Z (rDr.cellAt rfl)) ?_|refine eV Z Z (val_indexAddr (m:=i) Z Z Z Z hlt) ?_|refine eV Z Z (val_load Z Z Z (hat.cellAt (j:=0) Z)) ?_|(refine EL_call Z Z (entersF Z Z en33) ch (fun vC wC hC=>?_);obtain⟨rfl,xC⟩:=hC;have own2:=own_ext hown xC)|(refine at_EL ?_;first|refine eN ?_|refine eV Z Z (zA Z Z) ?_|refine eV Z Z (zB Z Z) ?_|(refine at_bin ?_;first|refine eD Z Z (zL Z Z Z) (fun hh=>?_) (fun hh=>?_)|refine eV Z Z (zU Z Z Z (by omega) (by omega)) ?_)|(refine at_call ?_;first|refine eV Z Z (zK Z Z) ?_)|refine eV Z Z (zH Z Z) ?_)|(refine at_K ?_;first|refine K_then ?_|refine K_in ?_|refine K_then_exit ?_|refine K_in_exit ?_)|(refine at_E ?_;first|refine E_seq ?_|refine E_region ?_|refine E_cond_t Z ?_|refine E_cond_f Z ?_|refine E_block ?_|refine E_skip ?_|refine E_ret ?_|refine E_exit ?_)))
      all_goals (first|(exfalso;omega)|skip)
      refine K_rnd (i+1,vO) ⟨rfl,rfl,rfl,rfl,trivial⟩ ⟨by dsimp only;omega,hx.trans xC,?_⟩ (by dsimp only;omega)
      dsimp only
      rw [hfs]
      exact own2
  · obtain rfl:i=d.notes.length:=by omega
    rw [← hILl,List.take_length] at hown hfl
    (repeat' (first|refine eV Z Z (val_load Z Z Z (rDr.cellAt rfl)) ?_|(refine at_EL ?_;first|refine eN ?_|refine eV Z Z (zA Z Z) ?_|refine eV Z Z (zB Z Z) ?_|(refine at_bin ?_;first|refine eD Z Z (zL Z Z Z) (fun hh=>?_) (fun hh=>?_))|(refine at_call ?_;first|refine eV Z Z (zK Z Z) ?_)|refine eV Z Z (zH Z Z) ?_)|(refine at_K ?_;first|refine K_then ?_|refine K_then_exit ?_|refine K_in_exit ?_)|(refine at_E ?_;first|refine E_seq ?_|refine E_region ?_|refine E_cond_t Z ?_|refine E_cond_f Z ?_|refine E_block ?_|refine E_skip ?_|refine E_ret ?_|refine E_exit ?_)))
    all_goals (first|(exfalso;omega)|skip)
    refine ret_1 Z Z ⟨hX,?_⟩
    have hres:IL.filter (fun x=>decide (x∈l))=idsOf d (fun x=>decide (x∈l)):=by rw [hIL];rfl
    rw [← hres]
    exact(own_Nw hown (by omega)).any
def conB (d:Dc) (k x:Int):Bool:=decide ((spanF d k).1≤(spanF d x).1)&&decide ((spanF d x).2≤(spanF d k).2)
set_option maxHeartbeats 4000000 in
set_option maxRecDepth 8000 in
theorem contains74_any {d:Dc} (h:LightD d) (k x:Int) (v:Value) (w:World) (hv:DcAt w v d) :
    Calls Tryz.prog 74 #[v,int k,int x] w (Rt fun u w'=>u=.bool (conB d k x)∧Ext w w'):=by
  have hd0:=hv
  obtain⟨sv,tv,nv,rfl,_,_,_⟩:=hv
  refine calls_E (n:=35) (args:=[.agg #[int d.rid,str d.rname,int d.len,int d.day,sv,tv,nv],int k,int x]) Tryz.func74 rfl Tryz.ntmps74 (by simp) ?_
  refine E_seq ?_
  refine E_region ?_
  refine EL_box Z Z Z Z (fun bD wD xD hbD rD0=>?_)
  have rD:Row wD bD 28 [int d.rid,str d.rname,int d.len,int d.day,sv,tv,nv]:=rD0
  clear rD0
  have ck:=refwhere_any h _ k wD (hd0.ext xD)
  unfold whereV at ck
  (repeat' (first|refine eV Z Z (val_loadA Z Z Z rD.at rfl) ?_|(refine EL_call Z Z (entersF Z Z en114) ck (fun vC wC hC=>?_);obtain⟨rfl,xC⟩:=hC)|(refine at_EL ?_;first|refine eN ?_|refine eV Z Z (zA Z Z) ?_|refine eV Z Z (zB Z Z) ?_|refine eV Z Z (zF Z Z Z) ?_)|(refine at_K ?_;first|refine K_then ?_)|(refine at_E ?_;first|refine E_seq ?_|refine E_region ?_)))
  refine EL_alloc Z Z Z (fun bT wT xT hbT rT0=>?_)
  refine EL_storeP (cs:=[int (spanF d k).1,int (spanF d k).2]) rT0 (xC.trans xT) (by have:=xC.size;omega) Z Z Z Z Z Z Z Z (Nat.le_refl _) (fun w3 rT1 x3 k3=>?_)
  have rT:Row w3 bT 72 [int (spanF d k).1,int (spanF d k).2]:=rT1
  clear rT0 rT1 k3
  have X3:=xD.trans x3
  have rD3:=rD.ext x3
  have cx:=refwhere_any h _ x w3 (hd0.ext X3)
  unfold whereV at cx
  (repeat' (first|refine eV Z Z (val_loadA Z Z Z rD3.at rfl) ?_|(refine EL_call Z Z (entersF Z Z en114) cx (fun vC wE hC=>?_);obtain⟨rfl,xE⟩:=hC)|(refine at_EL ?_;first|refine eN ?_|refine eV Z Z (zA Z Z) ?_|refine eV Z Z (zB Z Z) ?_|refine eV Z Z (zF Z Z Z) ?_)|(refine at_K ?_;first|refine K_then ?_)|(refine at_E ?_;first|refine E_seq ?_|refine E_region ?_)))
  refine EL_alloc Z Z Z (fun bU wU xU hbU rU0=>?_)
  refine EL_storeP (cs:=[int (spanF d x).1,int (spanF d x).2]) rU0 (xE.trans xU) (by have:=xE.size;omega) Z Z Z Z Z Z Z Z (Nat.le_refl _) (fun w4 rU1 x4 k4=>?_)
  have rU:Row w4 bU 72 [int (spanF d x).1,int (spanF d x).2]:=rU1
  clear rU0 rU1 k4
  have rT4:=rT.ext x4
  (repeat' (first|refine eV Z Z (val_load Z Z Z (rU.cellAt rfl)) ?_|refine eV Z Z (val_load Z Z Z (rT4.cellAt rfl)) ?_|(refine at_EL ?_;first|refine eN ?_|refine eO Z Z ?_|refine eV Z Z (zA Z Z) ?_|refine eV Z Z (zB Z Z) ?_|(refine at_bin ?_;first|refine eD Z Z (zN Z Z Z) (fun hh=>?_) (fun hh=>?_))|refine eV Z Z (zC Z Z Z) ?_|refine eV Z Z (zD Z Z Z) ?_|refine eV Z Z (zH Z Z) ?_)|(refine at_K ?_;first|refine K_then ?_)|(refine at_E ?_;first|refine E_seq ?_|refine E_region ?_|refine E_ret ?_)))
  all_goals refine ret_1 Z Z ⟨?_,X3.trans x4⟩
  all_goals
    unfold conB
    congr 1
    simp [*]
set_option maxHeartbeats 4000000 in
set_option maxRecDepth 8000 in
theorem rthenW_any {d:Dc} (h:LightD d) (a b:List Int) (v u1 u2:Value) (w:World) (hv:DcAt w v d) (ha:Sl w u1 a) (hb:Sl w u2 b) :
    Calls Tryz.prog 22 #[v,u1,u2] w (Rt fun u w'=>Ext w w'∧SlG (Nw w) w' u (idsOf d (thenP d a b))):=by
  have hN:=h.nnotes
  have hd0:=hv
  obtain⟨sv,tv,nv,rfl,_,_,_⟩:=hv
  refine calls_E (n:=39) (args:=[.agg #[int d.rid,str d.rname,int d.len,int d.day,sv,tv,nv],u1,u2]) Tryz.func22 rfl Tryz.ntmps22 (by simp) ?_
  refine E_seq ?_
  refine E_region ?_
  refine EL_box Z Z Z Z (fun bD wD xD hbD rD0=>?_)
  have rD:Row wD bD 28 [int d.rid,str d.rname,int d.len,int d.day,sv,tv,nv]:=rD0
  clear rD0
  have c1:=rnotes_any h a _ u1 wD (hd0.ext xD) (ha.ext xD)
  (repeat' (first|refine eV Z Z (val_loadA Z Z Z rD.at rfl) ?_|(refine EL_call Z Z (entersF Z Z en70) c1 (fun vX wX hC=>?_);obtain⟨xX,sX⟩:=hC)|(refine at_EL ?_;first|refine eN ?_|refine eV Z Z (zA Z Z) ?_|refine eV Z Z (zB Z Z) ?_)|(refine at_K ?_;first|refine K_then ?_)|(refine at_E ?_;first|refine E_seq ?_|refine E_region ?_)))
  have rDX:=rD.ext xX
  have XX:=xD.trans xX
  have c2:=rnotes_any h b _ u2 wX (hd0.ext XX) (hb.ext XX)
  (repeat' (first|refine eV Z Z (val_loadA Z Z Z rDX.at rfl) ?_|(refine EL_call Z Z (entersF Z Z en70) c2 (fun vY wY hC=>?_);obtain⟨xY,sY⟩:=hC)|(refine at_EL ?_;first|refine eN ?_|refine eV Z Z (zA Z Z) ?_|refine eV Z Z (zB Z Z) ?_)|(refine at_K ?_;first|refine K_then ?_)|(refine at_E ?_;first|refine E_seq ?_|refine E_region ?_|refine E_block ?_)))
  have rDY:=rDX.ext xY
  have XY:=XX.trans xY
  replace sX:=sX.ext xY
  obtain⟨X,hXe⟩:∃ X,X=idsOf d (fun x=>decide (x∈a)):=⟨_,rfl⟩
  obtain⟨Y,hYe⟩:∃ Y,Y=idsOf d (fun x=>decide (x∈b)):=⟨_,rfl⟩
  rw [← hXe] at sX
  rw [← hYe] at sY
  have hXl:X.length≤14:=by rw [hXe];exact Nat.le_trans (idsOf_len _) hN
  have hYl:Y.length≤14:=by rw [hYe];exact Nat.le_trans (idsOf_len _) hN
  have sX0:=sX
  have sY0:=sY
  obtain⟨xa,xc,rfl,hxc,_,hxp⟩:=sX.sl
  obtain⟨ya,yc,rfl,hyc,_,hyp⟩:=sY.sl
  have hdY:=hd0.ext XY
  obtain⟨p,hp⟩:∃ p:Int→Bool,p=fun x=>decide (nextR d x∈Y):=⟨_,rfl⟩
  refine E_loop (ι:=Nat × Value) (fun s=>[(3,.pointer (some ⟨bD,0,none⟩)),(7,s.2),(8,.slice xa X.length xc),(9,.slice ya Y.length yc),(10,int s.1)])
    (fun s wr=>s.1≤X.length∧Ext wY wr∧wr.ownsRow wY.heap.size 3 1 s.2 ((X.take s.1).filter p).length (((X.take s.1).filter p).map int)) (fun s=>X.length-s.1) (0,.slice none 0 0)
    ⟨rfl,rfl,rfl,rfl,rfl,trivial⟩ ⟨Nat.zero_le _,Ext.refl _,World.ownsRow_nil _ _ _ _⟩ ?_
  rintro⟨i,vO⟩ wr ⟨hi,hx,hown⟩
  dsimp only at hi hx hown ⊢
  have rDr:=rDY.ext hx
  have hfl:((X.take i).filter p).length≤14:=Nat.le_trans (List.length_filter_le _ _) (Nat.le_trans (List.length_take_le _ _) (by omega))
  by_cases hlt:i<X.length
  · obtain⟨bb,off,rfl⟩:=hxp (by omega)
    obtain⟨x,hx1⟩:∃ x,X[i]?=some x:=⟨_,List.getElem?_eq_getElem hlt⟩
    have hcx:=int_elem (sX0.ext hx) hx1
    have hfs:=filter_snoc (p:=p) hx1
    have hpx0:p x=decide (nextR d x∈Y):=by rw [hp]
    have hY2:Y.length≤14:=hYl
    cases hpx:p x with
    | true=>
      rw [hpx] at hpx0
      rw [if_pos hpx] at hfs
      (repeat' (first|refine yV Z Z (fun wq _ xq=>val_loadA Z Z Z (rDr.ext xq).at rfl) ?_|refine yV Z Z (fun _ _ _=>val_indexAddr (m:=i) Z Z Z Z hlt) ?_|refine yV Z Z (fun wq _ xq=>val_load Z Z Z (xq.cell hcx)) ?_|refine RQ_call Z Z (fun _ _ _=>entersF Z Z en71) (fun wq xq=>refnext_any h _ x wq (hdY.ext (hx.trans xq))) ?_|refine RQ_call (v:=.bool true) Z Z (fun _ _ _=>entersF Z Z en33) (fun wq xq=>by rw [hpx0];exact r1has_any Y (nextR d x) _ wq (sY0.ext (hx.trans xq))) ?_|refine eV Z Z (val_indexAddr (m:=i) Z Z Z Z hlt) ?_|refine eV Z Z (val_load Z Z Z (xq.cell hcx)) ?_|(refine EL_appO (news:=[int x]) (own_ext hown (xq.trans xS)) (hx.trans (xq.trans xS)) (fun _=>⟨_,_,rfl,rS.at⟩) Z Z Z Z Z Z Z Z Z (by omega) (by omega) (fun vJ wJ oJ xJ kJ hJ=>?_))|(refine at_EL ?_;first|refine eN ?_|refine eV Z Z (zA Z Z) ?_|refine eV Z Z (zB Z Z) ?_|(refine at_bin ?_;first|refine eD Z Z (zL Z Z Z) (fun hh=>?_) (fun hh=>?_)|refine eV Z Z (zU Z Z Z (by omega) (by omega)) ?_)|(refine at_call ?_;first|refine eV Z Z (zK Z Z) ?_)|refine eL Z Z Z Z Z Z Z Z (fun bS wS xS hbS rS=>?_))|(refine at_K ?_;first|refine K_then ?_|refine K_in ?_|refine K_then_exit ?_|refine K_in_exit ?_)|(refine at_E ?_;first|refine E_seq ?_|refine E_region ?_|refine E_cond_t Z ?_|refine E_cond_f Z ?_|refine E_block ?_|refine E_skip ?_|refine E_ret ?_|refine E_exit ?_|refine E_dq mixedOk (by kernel_rfl) Z ?_)|(refine at_RQ ?_;first|refine yN Z (fun wq xq=>?_)|refine yV Z Z (fun _ _ _=>zA Z Z) ?_)))
      all_goals (first|(exfalso;omega)|skip)
      refine K_rnd (i+1,vJ) ⟨rfl,rfl,rfl,rfl,rfl,trivial⟩ ⟨by dsimp only;omega,xJ,?_⟩ (by dsimp only;omega)
      dsimp only
      rw [hfs,List.length_append,List.map_append]
      exact oJ
    | false=>
      rw [hpx] at hpx0
      rw [if_neg (by simp [hpx]),List.append_nil] at hfs
      (repeat' (first|refine yV Z Z (fun wq _ xq=>val_loadA Z Z Z (rDr.ext xq).at rfl) ?_|refine yV Z Z (fun _ _ _=>val_indexAddr (m:=i) Z Z Z Z hlt) ?_|refine yV Z Z (fun wq _ xq=>val_load Z Z Z (xq.cell hcx)) ?_|refine RQ_call Z Z (fun _ _ _=>entersF Z Z en71) (fun wq xq=>refnext_any h _ x wq (hdY.ext (hx.trans xq))) ?_|refine RQ_call (v:=.bool false) Z Z (fun _ _ _=>entersF Z Z en33) (fun wq xq=>by rw [hpx0];exact r1has_any Y (nextR d x) _ wq (sY0.ext (hx.trans xq))) ?_|(refine at_EL ?_;first|refine eN ?_|refine eV Z Z (zA Z Z) ?_|refine eV Z Z (zB Z Z) ?_|(refine at_bin ?_;first|refine eD Z Z (zL Z Z Z) (fun hh=>?_) (fun hh=>?_)|refine eV Z Z (zU Z Z Z (by omega) (by omega)) ?_)|(refine at_call ?_;first|refine eV Z Z (zK Z Z) ?_))|(refine at_K ?_;first|refine K_then ?_|refine K_in ?_|refine K_then_exit ?_|refine K_in_exit ?_)|(refine at_E ?_;first|refine E_seq ?_|refine E_region ?_|refine E_cond_t Z ?_|refine E_cond_f Z ?_|refine E_block ?_|refine E_skip ?_|refine E_ret ?_|refine E_exit ?_|refine E_dq mixedOk (by kernel_rfl) Z ?_)|(refine at_RQ ?_;first|refine yN Z (fun wq xq=>?_)|refine yV Z Z (fun _ _ _=>zA Z Z) ?_)))
      all_goals (first|(exfalso;omega)|skip)
      refine K_rnd (i+1,vO) ⟨rfl,rfl,rfl,rfl,rfl,trivial⟩ ⟨by dsimp only;omega,hx.trans xq,?_⟩ (by dsimp only;omega)
      dsimp only
      rw [hfs]
      exact own_ext hown xq
  · obtain rfl:i=X.length:=by omega
    rw [List.take_length] at hown hfl
    (repeat' (first|(refine at_EL ?_;first|refine eN ?_|refine eV Z Z (zA Z Z) ?_|refine eV Z Z (zB Z Z) ?_|(refine at_bin ?_;first|refine eD Z Z (zL Z Z Z) (fun hh=>?_) (fun hh=>?_))|(refine at_call ?_;first|refine eV Z Z (zK Z Z) ?_))|(refine at_K ?_;first|refine K_then ?_|refine K_then_exit ?_|refine K_in_exit ?_)|(refine at_E ?_;first|refine E_seq ?_|refine E_region ?_|refine E_cond_t Z ?_|refine E_cond_f Z ?_|refine E_block ?_|refine E_skip ?_|refine E_ret ?_|refine E_exit ?_)))
    all_goals (first|(exfalso;omega)|skip)
    refine ret_1 Z Z ⟨XY.trans hx,?_⟩
    have hres:X.filter p=idsOf d (thenP d a b):=by
      rw [hXe,filter_ids,hp,hYe]
      refine idsOf_congr fun n hn=>?_
      unfold thenP
      congr 1
      show decide (nextR d n.id∈idsOf d fun x=>decide (x∈b))=_
      rw [← next_eq h,Bool.eq_iff_iff,decide_eq_true_eq,idsOf_mem,Bool.and_eq_true,decide_eq_true_eq,isId_iff h]
      exact And.comm
    rw [← hres]
    exact SlG.wk (own_Nw hown (by omega)) (fun b hb=>Nat.le_trans XY.size hb)
set_option maxHeartbeats 4000000 in
set_option maxRecDepth 8000 in
theorem rwithinW_any {d:Dc} (h:LightD d) (a b:List Int) (v u1 u2:Value) (w:World) (hv:DcAt w v d) (ha:Sl w u1 a) (hb:Sl w u2 b) :
    Calls Tryz.prog 24 #[v,u1,u2] w (Rt fun u w'=>Ext w w'∧SlG (Nw w) w' u (idsOf d (withinP d a b))):=by
  have hN:=h.nnotes
  have hd0:=hv
  obtain⟨sv,tv,nv,rfl,_,_,_⟩:=hv
  refine calls_E (n:=64) (args:=[.agg #[int d.rid,str d.rname,int d.len,int d.day,sv,tv,nv],u1,u2]) Tryz.func24 rfl Tryz.ntmps24 (by simp) ?_
  refine E_seq ?_
  refine E_region ?_
  refine EL_box Z Z Z Z (fun bD wD xD hbD rD0=>?_)
  have rD:Row wD bD 28 [int d.rid,str d.rname,int d.len,int d.day,sv,tv,nv]:=rD0
  clear rD0
  have c1:=rnotes_any h a _ u1 wD (hd0.ext xD) (ha.ext xD)
  (repeat' (first|refine eV Z Z (val_loadA Z Z Z rD.at rfl) ?_|(refine EL_call Z Z (entersF Z Z en70) c1 (fun vX wX hC=>?_);obtain⟨xX,sX⟩:=hC)|(refine at_EL ?_;first|refine eN ?_|refine eV Z Z (zA Z Z) ?_|refine eV Z Z (zB Z Z) ?_)|(refine at_K ?_;first|refine K_then ?_)|(refine at_E ?_;first|refine E_seq ?_|refine E_region ?_)))
  have rDX:=rD.ext xX
  have XX:=xD.trans xX
  have c2:=rnotes_any h b _ u2 wX (hd0.ext XX) (hb.ext XX)
  (repeat' (first|refine eV Z Z (val_loadA Z Z Z rDX.at rfl) ?_|(refine EL_call Z Z (entersF Z Z en70) c2 (fun vY wY hC=>?_);obtain⟨xY,sY⟩:=hC)|(refine at_EL ?_;first|refine eN ?_|refine eV Z Z (zA Z Z) ?_|refine eV Z Z (zB Z Z) ?_)|(refine at_K ?_;first|refine K_then ?_)|(refine at_E ?_;first|refine E_seq ?_|refine E_region ?_|refine E_block ?_)))
  have rDY:=rDX.ext xY
  have XY:=XX.trans xY
  replace sX:=sX.ext xY
  obtain⟨X,hXe⟩:∃ X,X=idsOf d (fun x=>decide (x∈a)):=⟨_,rfl⟩
  obtain⟨Y,hYe⟩:∃ Y,Y=idsOf d (fun x=>decide (x∈b)):=⟨_,rfl⟩
  rw [← hXe] at sX
  rw [← hYe] at sY
  have hXl:X.length≤14:=by rw [hXe];exact Nat.le_trans (idsOf_len _) hN
  have hYl:Y.length≤14:=by rw [hYe];exact Nat.le_trans (idsOf_len _) hN
  have sX0:=sX
  have sY0:=sY
  obtain⟨xa,xc,rfl,hxc,_,hxp⟩:=sX.sl
  obtain⟨ya,yc,rfl,hyc,_,hyp⟩:=sY.sl
  have hdY:=hd0.ext XY
  obtain⟨p,hp⟩:∃ p:Int→Bool,p=fun x=>Y.any (inB d x):=⟨_,rfl⟩
  refine E_loop (ι:=Nat × Value) (fun s=>[(3,.pointer (some ⟨bD,0,none⟩)),(7,s.2),(8,.slice xa X.length xc),(9,.slice ya Y.length yc),(10,int s.1)])
    (fun s wr=>s.1≤X.length∧Ext wY wr∧wr.ownsRow wY.heap.size 3 1 s.2 ((X.take s.1).filter p).length (((X.take s.1).filter p).map int)) (fun s=>X.length-s.1) (0,.slice none 0 0)
    ⟨rfl,rfl,rfl,rfl,rfl,trivial⟩ ⟨Nat.zero_le _,Ext.refl _,World.ownsRow_nil _ _ _ _⟩ ?_
  rintro⟨i,vO⟩ wr ⟨hi,hx,hown⟩
  dsimp only at hi hx hown ⊢
  have hfl:((X.take i).filter p).length≤14:=Nat.le_trans (List.length_filter_le _ _) (Nat.le_trans (List.length_take_le _ _) (by omega))
  by_cases hlt:i<X.length
  · obtain ⟨bb, off, rfl⟩ := hxp (by omega)
    obtain⟨x,hx1⟩:∃ x,X[i]?=some x:=⟨_,List.getElem?_eq_getElem hlt⟩
    have hcx:=int_elem (sX0.ext hx) hx1
    have hfs:=filter_snoc (p:=p) hx1
    have hpx0:p x=Y.any (inB d x):=by rw [hp]
    (repeat' (first|(refine at_EL ?_;first|refine eN ?_|refine eV Z Z (zA Z Z) ?_|refine eV Z Z (zB Z Z) ?_|(refine at_bin ?_;first|refine eD Z Z (zL Z Z Z) (fun hh=>?_) (fun hh=>?_))|(refine at_call ?_;first|refine eV Z Z (zK Z Z) ?_))|(refine at_K ?_;first|refine K_then ?_|refine K_then_exit ?_|refine K_in_exit ?_)|(refine at_E ?_;first|refine E_seq ?_|refine E_region ?_|refine E_cond_t Z ?_|refine E_cond_f Z ?_|refine E_block ?_|refine E_skip ?_|refine E_ret ?_|refine E_exit ?_)))
    all_goals (first|(exfalso;omega)|skip)
    refine E_loop (ι:=Nat × Bool) (fun s=>[(3,.pointer (some ⟨bD,0,none⟩)),(7,vO),(8,.slice (some ⟨bb,off,none⟩) X.length xc),(9,.slice ya Y.length yc),(10,int i),(11,.bool s.2),(12,int s.1)])
      (fun s w2=>s.1≤Y.length∧Ext wr w2∧s.2=(Y.take s.1).any (inB d x)) (fun s=>Y.length-s.1) (0,false)
      ⟨rfl,rfl,rfl,rfl,rfl,rfl,rfl,trivial⟩ ⟨Nat.zero_le _,Ext.refl _,rfl⟩ ?_
    rintro⟨k,ok⟩ w2 ⟨hk,hx2,hok⟩
    dsimp only at hk hx2 hok ⊢
    have hX2:=hx.trans hx2
    have hcx2:=hx2.cell hcx
    have rD2:=rDY.ext hX2
    by_cases hltk:k<Y.length
    · obtain⟨cb,cof,rfl⟩:=hyp (by omega)
      obtain⟨y,hy1⟩:∃ y,Y[k]?=some y:=⟨_,List.getElem?_eq_getElem hltk⟩
      have hcy:=int_elem (sY0.ext hX2) hy1
      have hsn:=any_snoc (p:=inB d x) hy1
      rw [← hok] at hsn
      cases ok with
      | true=>
        (repeat' (first|(refine at_EL ?_;first|refine eN ?_|refine eV Z Z (zA Z Z) ?_|refine eV Z Z (zB Z Z) ?_|(refine at_bin ?_;first|refine eD Z Z (zL Z Z Z) (fun hh=>?_) (fun hh=>?_)|refine eV Z Z (zU Z Z Z (by omega) (by omega)) ?_)|(refine at_call ?_;first|refine eV Z Z (zK Z Z) ?_))|(refine at_K ?_;first|refine K_then ?_|refine K_in ?_|refine K_then_exit ?_|refine K_in_exit ?_)|(refine at_E ?_;first|refine E_seq ?_|refine E_region ?_|refine E_cond_t Z ?_|refine E_cond_f Z ?_|refine E_block ?_|refine E_skip ?_|refine E_exit ?_|refine E_dq mixedOk (by kernel_rfl) Z ?_)|(refine at_RQ ?_;first|refine yN Z (fun wq xq=>?_)|refine yO Z Z ?_|refine yV Z Z (fun _ _ _=>zA Z Z) ?_|refine yV Z Z (fun _ _ _=>zB Z Z) ?_|refine yV Z Z (fun _ _ _=>zC Z Z Z) ?_)))
        all_goals (first|(exfalso;omega)|skip)
        exact K_rnd (k+1,true) ⟨rfl,rfl,rfl,rfl,rfl,rfl,rfl,trivial⟩ ⟨by dsimp only;omega,hx2.trans xq,by dsimp only;rw [hsn];rfl⟩ (by dsimp only;omega)
      | false=>
        (repeat' (first|refine yV Z Z (fun wq _ xq=>val_loadA Z Z Z (rD2.ext xq).at rfl) ?_|refine yV Z Z (fun _ _ _=>val_indexAddr (m:=i) Z Z Z Z hlt) ?_|refine yV Z Z (fun _ _ _=>val_indexAddr (m:=k) Z Z Z Z hltk) ?_|refine yV Z Z (fun wq _ xq=>val_load Z Z Z (xq.cell hcx2)) ?_|refine yV Z Z (fun wq _ xq=>val_load Z Z Z (xq.cell hcy)) ?_|refine RQ_call Z Z (fun _ _ _=>entersF Z Z en74) (fun wq xq=>contains74_any h y x _ wq (hdY.ext (hX2.trans xq))) ?_|(refine at_EL ?_;first|refine eN ?_|refine eV Z Z (zA Z Z) ?_|refine eV Z Z (zB Z Z) ?_|(refine at_bin ?_;first|refine eD Z Z (zL Z Z Z) (fun hh=>?_) (fun hh=>?_)|refine eV Z Z (zU Z Z Z (by omega) (by omega)) ?_)|(refine at_call ?_;first|refine eV Z Z (zK Z Z) ?_))|(refine at_K ?_;first|refine K_then ?_|refine K_in ?_|refine K_then_exit ?_|refine K_in_exit ?_)|(refine at_E ?_;first|refine E_seq ?_|refine E_region ?_|refine E_cond_t Z ?_|refine E_cond_f Z ?_|refine E_block ?_|refine E_skip ?_|refine E_exit ?_|refine E_dq mixedOk (by kernel_rfl) Z ?_)|(refine at_RQ ?_;first|refine yN Z (fun wq xq=>?_)|refine yO Z Z ?_|refine yV Z Z (fun _ _ _=>zA Z Z) ?_|refine yV Z Z (fun _ _ _=>zB Z Z) ?_|(refine at_binR ?_;first|refine yD Z Z (fun _ _ _=>zQ Z Z Z) (fun hh=>?_) (fun hh=>?_))|refine yV Z Z (fun _ _ _=>zC Z Z Z) ?_|refine yV Z Z (fun _ _ _=>zD Z Z Z) ?_)))
        all_goals (first|(exfalso;omega)|skip)
        all_goals refine K_rnd (k+1,inB d x y) ⟨rfl,rfl,rfl,rfl,rfl,?_,rfl,trivial⟩ ⟨by dsimp only;omega,hx2.trans xq,by dsimp only;rw [hsn];rfl⟩ (by dsimp only;omega)
        all_goals
          dsimp only
          unfold inB
          first
            | (rw [show decide (y≠x)=true from decide_eq_true (by assumption)];rfl)
            | (rw [show decide (y≠x)=false from decide_eq_false (by assumption)];rfl)
    · obtain rfl:k=Y.length:=by omega
      rw [List.take_length,← hpx0] at hok
      have own2:=own_ext hown hx2
      cases hpx:p x with
      | true=>
        rw [hpx] at hok
        subst hok
        rw [if_pos hpx] at hfs
        (repeat' (first|refine eV Z Z (val_indexAddr (m:=i) Z Z Z Z hlt) ?_|refine eV Z Z (val_load Z Z Z hcx2) ?_|(refine EL_appO (news:=[int x]) (own_ext own2 xS) (hX2.trans xS) (fun _=>⟨_,_,rfl,rS.at⟩) Z Z Z Z Z Z Z Z Z (by omega) (by omega) (fun vJ wJ oJ xJ kJ hJ=>?_))|(refine at_EL ?_;first|refine eN ?_|refine eV Z Z (zA Z Z) ?_|refine eV Z Z (zB Z Z) ?_|(refine at_bin ?_;first|refine eD Z Z (zL Z Z Z) (fun hh=>?_) (fun hh=>?_)|refine eV Z Z (zU Z Z Z (by omega) (by omega)) ?_)|(refine at_call ?_;first|refine eV Z Z (zK Z Z) ?_)|refine eL Z Z Z Z Z Z Z Z (fun bS wS xS hbS rS=>?_))|(refine at_K ?_;first|refine K_then ?_|refine K_in ?_|refine K_then_exit ?_|refine K_in_exit ?_)|(refine at_E ?_;first|refine E_seq ?_|refine E_region ?_|refine E_cond_t Z ?_|refine E_cond_f Z ?_|refine E_block ?_|refine E_skip ?_|refine E_exit ?_)))
        all_goals (first|(exfalso;omega)|skip)
        refine K_rnd (i+1,vJ) ⟨rfl,rfl,rfl,rfl,rfl,trivial⟩ ⟨by dsimp only;omega,xJ,?_⟩ (by dsimp only;omega)
        dsimp only
        rw [hfs,List.length_append,List.map_append]
        exact oJ
      | false=>
        rw [hpx] at hok
        subst hok
        rw [if_neg (by simp [hpx]),List.append_nil] at hfs
        (repeat' (first|(refine at_EL ?_;first|refine eN ?_|refine eV Z Z (zA Z Z) ?_|refine eV Z Z (zB Z Z) ?_|(refine at_bin ?_;first|refine eD Z Z (zL Z Z Z) (fun hh=>?_) (fun hh=>?_)|refine eV Z Z (zU Z Z Z (by omega) (by omega)) ?_)|(refine at_call ?_;first|refine eV Z Z (zK Z Z) ?_))|(refine at_K ?_;first|refine K_then ?_|refine K_in ?_|refine K_then_exit ?_|refine K_in_exit ?_)|(refine at_E ?_;first|refine E_seq ?_|refine E_region ?_|refine E_cond_t Z ?_|refine E_cond_f Z ?_|refine E_block ?_|refine E_skip ?_|refine E_exit ?_)))
        all_goals (first|(exfalso;omega)|skip)
        refine K_rnd (i+1,vO) ⟨rfl,rfl,rfl,rfl,rfl,trivial⟩ ⟨by dsimp only;omega,hX2,?_⟩ (by dsimp only;omega)
        dsimp only
        rw [hfs]
        exact own2
  · obtain rfl:i=X.length:=by omega
    rw [List.take_length] at hown hfl
    (repeat' (first|(refine at_EL ?_;first|refine eN ?_|refine eV Z Z (zA Z Z) ?_|refine eV Z Z (zB Z Z) ?_|(refine at_bin ?_;first|refine eD Z Z (zL Z Z Z) (fun hh=>?_) (fun hh=>?_))|(refine at_call ?_;first|refine eV Z Z (zK Z Z) ?_))|(refine at_K ?_;first|refine K_then ?_|refine K_then_exit ?_|refine K_in_exit ?_)|(refine at_E ?_;first|refine E_seq ?_|refine E_region ?_|refine E_cond_t Z ?_|refine E_cond_f Z ?_|refine E_block ?_|refine E_skip ?_|refine E_ret ?_|refine E_exit ?_)))
    all_goals (first|(exfalso;omega)|skip)
    refine ret_1 Z Z ⟨XY.trans hx,?_⟩
    have hres:X.filter p=idsOf d (withinP d a b):=by
      rw [hXe,filter_ids,hp,hYe]
      exact within_p d a b
    rw [← hres]
    exact SlG.wk (own_Nw hown (by omega)) (fun b hb=>Nat.le_trans XY.size hb)
def upB (d:Dc) (x k:Int):Bool:=decide (k≠x)&&decide (x∈(chainF d k).map fun m=>m.id)
theorem has_p (d:Dc) (a b:List Int):idsOf d (fun x=>decide (x∈a)&&(idsOf d (fun x=>decide (x∈b))).any (upB d x))=idsOf d (hasP d a b):=by
  refine idsOf_congr fun n hn=>?_
  unfold hasP
  rw [any_ids]
  rfl
set_option maxHeartbeats 4000000 in
set_option maxRecDepth 8000 in
theorem rhasW_any {d:Dc} (h:LightD d) (a b:List Int) (v u1 u2:Value) (w:World) (hv:DcAt w v d) (ha:Sl w u1 a) (hb:Sl w u2 b) :
    Calls Tryz.prog 26 #[v,u1,u2] w (Rt fun u w'=>Ext w w'∧SlG (Nw w) w' u (idsOf d (hasP d a b))):=by
  have hN:=h.nnotes
  have hd0:=hv
  obtain⟨sv,tv,nv,rfl,_,_,_⟩:=hv
  refine calls_E (n:=65) (args:=[.agg #[int d.rid,str d.rname,int d.len,int d.day,sv,tv,nv],u1,u2]) Tryz.func26 rfl Tryz.ntmps26 (by simp) ?_
  refine E_seq ?_
  refine E_region ?_
  refine EL_box Z Z Z Z (fun bD wD xD hbD rD0=>?_)
  have rD:Row wD bD 28 [int d.rid,str d.rname,int d.len,int d.day,sv,tv,nv]:=rD0
  clear rD0
  have c1:=rnotes_any h a _ u1 wD (hd0.ext xD) (ha.ext xD)
  (repeat' (first|refine eV Z Z (val_loadA Z Z Z rD.at rfl) ?_|(refine EL_call Z Z (entersF Z Z en70) c1 (fun vX wX hC=>?_);obtain⟨xX,sX⟩:=hC)|(refine at_EL ?_;first|refine eN ?_|refine eV Z Z (zA Z Z) ?_|refine eV Z Z (zB Z Z) ?_)|(refine at_K ?_;first|refine K_then ?_)|(refine at_E ?_;first|refine E_seq ?_|refine E_region ?_)))
  have rDX:=rD.ext xX
  have XX:=xD.trans xX
  have c2:=rnotes_any h b _ u2 wX (hd0.ext XX) (hb.ext XX)
  (repeat' (first|refine eV Z Z (val_loadA Z Z Z rDX.at rfl) ?_|(refine EL_call Z Z (entersF Z Z en70) c2 (fun vY wY hC=>?_);obtain⟨xY,sY⟩:=hC)|(refine at_EL ?_;first|refine eN ?_|refine eV Z Z (zA Z Z) ?_|refine eV Z Z (zB Z Z) ?_)|(refine at_K ?_;first|refine K_then ?_)|(refine at_E ?_;first|refine E_seq ?_|refine E_region ?_|refine E_block ?_)))
  have rDY:=rDX.ext xY
  have XY:=XX.trans xY
  replace sX:=sX.ext xY
  obtain⟨X,hXe⟩:∃ X,X=idsOf d (fun x=>decide (x∈a)):=⟨_,rfl⟩
  obtain⟨Y,hYe⟩:∃ Y,Y=idsOf d (fun x=>decide (x∈b)):=⟨_,rfl⟩
  rw [← hXe] at sX
  rw [← hYe] at sY
  have hXl:X.length≤14:=by rw [hXe];exact Nat.le_trans (idsOf_len _) hN
  have hYl:Y.length≤14:=by rw [hYe];exact Nat.le_trans (idsOf_len _) hN
  have sX0:=sX
  have sY0:=sY
  obtain⟨xa,xc,rfl,hxc,_,hxp⟩:=sX.sl
  obtain⟨ya,yc,rfl,hyc,_,hyp⟩:=sY.sl
  have hdY:=hd0.ext XY
  obtain⟨p,hp⟩:∃ p:Int→Bool,p=fun x=>Y.any (upB d x):=⟨_,rfl⟩
  refine E_loop (ι:=Nat × Value) (fun s=>[(3,.pointer (some ⟨bD,0,none⟩)),(7,s.2),(8,.slice xa X.length xc),(9,.slice ya Y.length yc),(10,int s.1)])
    (fun s wr=>s.1≤X.length∧Ext wY wr∧wr.ownsRow wY.heap.size 3 1 s.2 ((X.take s.1).filter p).length (((X.take s.1).filter p).map int)) (fun s=>X.length-s.1) (0,.slice none 0 0)
    ⟨rfl,rfl,rfl,rfl,rfl,trivial⟩ ⟨Nat.zero_le _,Ext.refl _,World.ownsRow_nil _ _ _ _⟩ ?_
  rintro⟨i,vO⟩ wr ⟨hi,hx,hown⟩
  dsimp only at hi hx hown ⊢
  have hfl:((X.take i).filter p).length≤14:=Nat.le_trans (List.length_filter_le _ _) (Nat.le_trans (List.length_take_le _ _) (by omega))
  by_cases hlt:i<X.length
  · obtain ⟨bb, off, rfl⟩ := hxp (by omega)
    obtain⟨x,hx1⟩:∃ x,X[i]?=some x:=⟨_,List.getElem?_eq_getElem hlt⟩
    have hcx:=int_elem (sX0.ext hx) hx1
    have hfs:=filter_snoc (p:=p) hx1
    have hpx0:p x=Y.any (upB d x):=by rw [hp]
    (repeat' (first|(refine at_EL ?_;first|refine eN ?_|refine eV Z Z (zA Z Z) ?_|refine eV Z Z (zB Z Z) ?_|(refine at_bin ?_;first|refine eD Z Z (zL Z Z Z) (fun hh=>?_) (fun hh=>?_))|(refine at_call ?_;first|refine eV Z Z (zK Z Z) ?_))|(refine at_K ?_;first|refine K_then ?_|refine K_then_exit ?_|refine K_in_exit ?_)|(refine at_E ?_;first|refine E_seq ?_|refine E_region ?_|refine E_cond_t Z ?_|refine E_cond_f Z ?_|refine E_block ?_|refine E_skip ?_|refine E_ret ?_|refine E_exit ?_)))
    all_goals (first|(exfalso;omega)|skip)
    refine E_loop (ι:=Nat × Bool) (fun s=>[(3,.pointer (some ⟨bD,0,none⟩)),(7,vO),(8,.slice (some ⟨bb,off,none⟩) X.length xc),(9,.slice ya Y.length yc),(10,int i),(11,.bool s.2),(12,int s.1)])
      (fun s w2=>s.1≤Y.length∧Ext wr w2∧s.2=(Y.take s.1).any (upB d x)) (fun s=>Y.length-s.1) (0,false)
      ⟨rfl,rfl,rfl,rfl,rfl,rfl,rfl,trivial⟩ ⟨Nat.zero_le _,Ext.refl _,rfl⟩ ?_
    rintro⟨k,ok⟩ w2 ⟨hk,hx2,hok⟩
    dsimp only at hk hx2 hok ⊢
    have hX2:=hx.trans hx2
    have hcx2:=hx2.cell hcx
    have rD2:=rDY.ext hX2
    by_cases hltk:k<Y.length
    · obtain⟨cb,cof,rfl⟩:=hyp (by omega)
      obtain⟨y,hy1⟩:∃ y,Y[k]?=some y:=⟨_,List.getElem?_eq_getElem hltk⟩
      have hcy:=int_elem (sY0.ext hX2) hy1
      have hsn:=any_snoc (p:=upB d x) hy1
      rw [← hok] at hsn
      cases ok with
      | true=>
        (repeat' (first|(refine at_EL ?_;first|refine eN ?_|refine eV Z Z (zA Z Z) ?_|refine eV Z Z (zB Z Z) ?_|(refine at_bin ?_;first|refine eD Z Z (zL Z Z Z) (fun hh=>?_) (fun hh=>?_)|refine eV Z Z (zU Z Z Z (by omega) (by omega)) ?_)|(refine at_call ?_;first|refine eV Z Z (zK Z Z) ?_))|(refine at_K ?_;first|refine K_then ?_|refine K_in ?_|refine K_then_exit ?_|refine K_in_exit ?_)|(refine at_E ?_;first|refine E_seq ?_|refine E_region ?_|refine E_cond_t Z ?_|refine E_cond_f Z ?_|refine E_block ?_|refine E_skip ?_|refine E_exit ?_|refine E_dq mixedOk (by kernel_rfl) Z ?_)|(refine at_RQ ?_;first|refine yN Z (fun wq xq=>?_)|refine yO Z Z ?_|refine yV Z Z (fun _ _ _=>zA Z Z) ?_|refine yV Z Z (fun _ _ _=>zB Z Z) ?_|refine yV Z Z (fun _ _ _=>zC Z Z Z) ?_)))
        all_goals (first|(exfalso;omega)|skip)
        exact K_rnd (k+1,true) ⟨rfl,rfl,rfl,rfl,rfl,rfl,rfl,trivial⟩ ⟨by dsimp only;omega,hx2.trans xq,by dsimp only;rw [hsn];rfl⟩ (by dsimp only;omega)
      | false=>
        (repeat' (first|refine yV Z Z (fun wq _ xq=>val_loadA Z Z Z (rD2.ext xq).at rfl) ?_|refine yV Z Z (fun _ _ _=>val_indexAddr (m:=i) Z Z Z Z hlt) ?_|refine yV Z Z (fun _ _ _=>val_indexAddr (m:=k) Z Z Z Z hltk) ?_|refine yV Z Z (fun wq _ xq=>val_load Z Z Z (xq.cell hcx2)) ?_|refine yV Z Z (fun wq _ xq=>val_load Z Z Z (xq.cell hcy)) ?_|(refine RQ_callR (f:=77) (fun u w'=>Sl w' u ((chainF d y).map (·.id))) (fun _=>#[.agg #[int d.rid,str d.rname,int d.len,int d.day,sv,tv,nv],int y]) Z Z (fun _ _ _ _ xe h=>SlG.ext h xe) (fun _ _ _=>entersF Z Z en77) (fun wq _ xq _=>?_) ?_;exact calls_mono (refchain_any h _ y wq (hdY.ext (hX2.trans xq))) (fun _ _ hh=>⟨hh.2,hh.1⟩))|refine RQ_callV (f:=33) (v:=.bool (decide (x∈(chainF d y).map (·.id)))) (fun δ=>#[δ 48,int x]) Z Z (fun _ _ _=>entersF Z Z en33) (fun wq δ xq hd=>r1has_any ((chainF d y).map (·.id)) x _ wq (hd 48 rfl _ rfl)) ?_|refine RQ_end (fun wq δ xq hR=>?_)|(refine at_EL ?_;first|refine eN ?_|refine eV Z Z (zA Z Z) ?_|refine eV Z Z (zB Z Z) ?_|(refine at_bin ?_;first|refine eD Z Z (zL Z Z Z) (fun hh=>?_) (fun hh=>?_)|refine eV Z Z (zU Z Z Z (by omega) (by omega)) ?_)|(refine at_call ?_;first|refine eV Z Z (zK Z Z) ?_))|(refine at_K ?_;first|refine K_then ?_|refine K_in ?_|refine K_then_exit ?_|refine K_in_exit ?_)|(refine at_E ?_;first|refine E_seq ?_|refine E_region ?_|refine E_cond_t Z ?_|refine E_cond_f Z ?_|refine E_block ?_|refine E_skip ?_|refine E_exit ?_|refine E_dq mixedOk (by kernel_rfl) Z ?_)|(refine at_RQ ?_;first|refine yO Z Z ?_|refine yV Z Z (fun _ _ _=>zA Z Z) ?_|refine yV Z Z (fun _ _ _=>zB Z Z) ?_|(refine at_binR ?_;first|refine yD Z Z (fun _ _ _=>zQ Z Z Z) (fun hh=>?_) (fun hh=>?_))|refine yV Z Z (fun _ _ _=>zC Z Z Z) ?_|refine yV Z Z (fun _ _ _=>zD Z Z Z) ?_)))
        all_goals (first|(exfalso;omega)|skip)
        all_goals refine K_rnd (k+1,upB d x y) ⟨rfl,rfl,rfl,rfl,rfl,?_,rfl,trivial⟩ ⟨by dsimp only;omega,hx2.trans xq,by dsimp only;rw [hsn];rfl⟩ (by dsimp only;omega)
        all_goals
          dsimp only
          unfold upB
          first
            | (rw [show decide (y≠x)=true from decide_eq_true (by assumption)];rfl)
            | (rw [show decide (y≠x)=false from decide_eq_false (by assumption)];rfl)
    · obtain rfl:k=Y.length:=by omega
      rw [List.take_length,← hpx0] at hok
      have own2:=own_ext hown hx2
      cases hpx:p x with
      | true=>
        rw [hpx] at hok
        subst hok
        rw [if_pos hpx] at hfs
        (repeat' (first|refine eV Z Z (val_indexAddr (m:=i) Z Z Z Z hlt) ?_|refine eV Z Z (val_load Z Z Z hcx2) ?_|(refine EL_appO (news:=[int x]) (own_ext own2 xS) (hX2.trans xS) (fun _=>⟨_,_,rfl,rS.at⟩) Z Z Z Z Z Z Z Z Z (by omega) (by omega) (fun vJ wJ oJ xJ kJ hJ=>?_))|(refine at_EL ?_;first|refine eN ?_|refine eV Z Z (zA Z Z) ?_|refine eV Z Z (zB Z Z) ?_|(refine at_bin ?_;first|refine eD Z Z (zL Z Z Z) (fun hh=>?_) (fun hh=>?_)|refine eV Z Z (zU Z Z Z (by omega) (by omega)) ?_)|(refine at_call ?_;first|refine eV Z Z (zK Z Z) ?_)|refine eL Z Z Z Z Z Z Z Z (fun bS wS xS hbS rS=>?_))|(refine at_K ?_;first|refine K_then ?_|refine K_in ?_|refine K_then_exit ?_|refine K_in_exit ?_)|(refine at_E ?_;first|refine E_seq ?_|refine E_region ?_|refine E_cond_t Z ?_|refine E_cond_f Z ?_|refine E_block ?_|refine E_skip ?_|refine E_exit ?_)))
        all_goals (first|(exfalso;omega)|skip)
        refine K_rnd (i+1,vJ) ⟨rfl,rfl,rfl,rfl,rfl,trivial⟩ ⟨by dsimp only;omega,xJ,?_⟩ (by dsimp only;omega)
        dsimp only
        rw [hfs,List.length_append,List.map_append]
        exact oJ
      | false=>
        rw [hpx] at hok
        subst hok
        rw [if_neg (by simp [hpx]),List.append_nil] at hfs
        (repeat' (first|(refine at_EL ?_;first|refine eN ?_|refine eV Z Z (zA Z Z) ?_|refine eV Z Z (zB Z Z) ?_|(refine at_bin ?_;first|refine eD Z Z (zL Z Z Z) (fun hh=>?_) (fun hh=>?_)|refine eV Z Z (zU Z Z Z (by omega) (by omega)) ?_)|(refine at_call ?_;first|refine eV Z Z (zK Z Z) ?_))|(refine at_K ?_;first|refine K_then ?_|refine K_in ?_|refine K_then_exit ?_|refine K_in_exit ?_)|(refine at_E ?_;first|refine E_seq ?_|refine E_region ?_|refine E_cond_t Z ?_|refine E_cond_f Z ?_|refine E_block ?_|refine E_skip ?_|refine E_exit ?_)))
        all_goals (first|(exfalso;omega)|skip)
        refine K_rnd (i+1,vO) ⟨rfl,rfl,rfl,rfl,rfl,trivial⟩ ⟨by dsimp only;omega,hX2,?_⟩ (by dsimp only;omega)
        dsimp only
        rw [hfs]
        exact own2
  · obtain rfl:i=X.length:=by omega
    rw [List.take_length] at hown hfl
    (repeat' (first|(refine at_EL ?_;first|refine eN ?_|refine eV Z Z (zA Z Z) ?_|refine eV Z Z (zB Z Z) ?_|(refine at_bin ?_;first|refine eD Z Z (zL Z Z Z) (fun hh=>?_) (fun hh=>?_))|(refine at_call ?_;first|refine eV Z Z (zK Z Z) ?_))|(refine at_K ?_;first|refine K_then ?_|refine K_then_exit ?_|refine K_in_exit ?_)|(refine at_E ?_;first|refine E_seq ?_|refine E_region ?_|refine E_cond_t Z ?_|refine E_cond_f Z ?_|refine E_block ?_|refine E_skip ?_|refine E_ret ?_|refine E_exit ?_)))
    all_goals (first|(exfalso;omega)|skip)
    refine ret_1 Z Z ⟨XY.trans hx,?_⟩
    have hres:X.filter p=idsOf d (hasP d a b):=by
      rw [hXe,filter_ids,hp,hYe]
      exact has_p d a b
    rw [← hres]
    exact SlG.wk (own_Nw hown (by omega)) (fun b hb=>Nat.le_trans XY.size hb)
end Go.Proofs.YtnifmbbpfdghmaaGreatDoor
namespace Go.Proofs.YtnifmbbpfdghmaaGreatDoor
open Go.RowKit Go.En
attribute [local irreducible] E EL K Val Enters Rt Calls bodyPost Code.wp RQ
set_option maxHeartbeats 4000000 in
set_option maxRecDepth 8000 in
theorem rminusW_any (a b:List Int) (u v:Value) (w:World) (hu:Sl w u a) (hv:Sl w v b) (hla:a.length≤1099511627) :
    Calls Tryz.prog 36 #[u,v] w (Rt fun r w'=>Ext w w'∧SlG (Nw w) w' r (minusS a b)):=by
  have hu0:=hu
  obtain⟨sa,cap,rfl,hc,hm,hp⟩:=hu.sl
  refine calls_E (n:=27) (args:=[.slice sa a.length cap,v]) Tryz.func36 rfl Tryz.ntmps36 (by simp) ?_
  obtain⟨q,hq⟩:∃ q:Int→Bool,q=fun x=>!decide (x∈b):=⟨_,rfl⟩
  (repeat' (first|(refine at_EL ?_;first|refine eN ?_|refine eV Z Z (zA Z Z) ?_|refine eV Z Z (zB Z Z) ?_|(refine at_call ?_;first|refine eV Z Z (zK Z Z) ?_))|(refine at_K ?_;first|refine K_then ?_)|(refine at_E ?_;first|refine E_seq ?_|refine E_region ?_|refine E_block ?_)))
  refine E_loop (ι:=Nat × Value) (fun s=>[(0,.slice sa a.length cap),(1,v),(5,s.2),(8,int a.length),(9,int s.1)])
    (fun s wr=>s.1≤a.length∧Ext w wr∧SlG (Nw w) wr s.2 (((a.take s.1).filter q).foldl nputF [])) (fun s=>a.length-s.1) (0,.slice none 0 0)
    ⟨rfl,rfl,rfl,rfl,rfl,trivial⟩ ⟨Nat.zero_le _,Ext.refl _,SlG.nil⟩ ?_
  rintro⟨i,vO⟩ wr ⟨hi,hx,hs⟩
  dsimp only at hi hx hs ⊢
  have hfl:=fold_len ((a.take i).filter q) []
  have hfl2:=List.length_filter_le q (a.take i)
  rw [List.length_take] at hfl2
  simp only [List.length_nil] at hfl
  by_cases hlt:i<a.length
  · obtain⟨bb,off,rfl⟩:=hp (by omega)
    obtain⟨x,hx1⟩:∃ x,a[i]?=some x:=⟨_,List.getElem?_eq_getElem hlt⟩
    have hcx:=int_elem (hu0.ext hx) hx1
    have ch:=r1has_any b x v wr (hv.ext hx)
    have hfs:=filter_snoc (p:=q) hx1
    by_cases hm:x∈b
    · rw [decide_eq_true hm] at ch
      rw [if_neg (by rw [hq];simpa using hm),List.append_nil] at hfs
      (repeat' (first|refine eV Z Z (val_indexAddr (m:=i) Z Z Z Z hlt) ?_|refine eV Z Z (val_load Z Z Z hcx) ?_|(refine EL_call Z Z (entersF Z Z en33) ch (fun vC wC hC=>?_);obtain⟨rfl,xC⟩:=hC;replace hcx:=xC.cell hcx)|(refine at_EL ?_;first|refine eN ?_|refine eV Z Z (zA Z Z) ?_|refine eV Z Z (zB Z Z) ?_|(refine at_bin ?_;first|refine eD Z Z (zL Z Z Z) (fun hh=>?_) (fun hh=>?_)|refine eV Z Z (zU Z Z Z (by omega) (by omega)) ?_)|refine eV Z Z (zE Z Z) ?_)|(refine at_K ?_;first|refine K_then ?_|refine K_in ?_|refine K_then_exit ?_|refine K_in_exit ?_)|(refine at_E ?_;first|refine E_seq ?_|refine E_region ?_|refine E_cond_t Z ?_|refine E_cond_f Z ?_|refine E_block ?_|refine E_skip ?_|refine E_ret ?_|refine E_exit ?_)))
      all_goals (first|(exfalso;omega)|skip)
      refine K_rnd (i+1,vO) ⟨rfl,rfl,rfl,rfl,rfl,trivial⟩ ⟨by dsimp only;omega,hx.trans xC,?_⟩ (by dsimp only;omega)
      dsimp only
      rw [hfs]
      exact hs.ext xC
    · rw [decide_eq_false hm] at ch
      rw [if_pos (by rw [hq];simpa using hm)] at hfs
      (repeat' (first|refine eV Z Z (val_indexAddr (m:=i) Z Z Z Z hlt) ?_|refine eV Z Z (val_load Z Z Z hcx) ?_|(refine EL_call Z Z (entersF Z Z en33) ch (fun vC wC hC=>?_);obtain⟨rfl,xC⟩:=hC;replace hcx:=xC.cell hcx)|(refine EL_call Z Z (entersF Z Z en90) (nputW_any _ x vO _ (SlG.any (hs.ext (by assumption))) (by omega)) (fun vP wP hP=>?_);obtain⟨xP,sP⟩:=hP)|(refine at_EL ?_;first|refine eN ?_|refine eV Z Z (zA Z Z) ?_|refine eV Z Z (zB Z Z) ?_|(refine at_bin ?_;first|refine eD Z Z (zL Z Z Z) (fun hh=>?_) (fun hh=>?_)|refine eV Z Z (zU Z Z Z (by omega) (by omega)) ?_)|refine eV Z Z (zE Z Z) ?_)|(refine at_K ?_;first|refine K_then ?_|refine K_in ?_|refine K_then_exit ?_|refine K_in_exit ?_)|(refine at_E ?_;first|refine E_seq ?_|refine E_region ?_|refine E_cond_t Z ?_|refine E_cond_f Z ?_|refine E_block ?_|refine E_skip ?_|refine E_ret ?_|refine E_exit ?_)))
      all_goals (first|(exfalso;omega)|skip)
      refine K_rnd (i+1,vP) ⟨rfl,rfl,rfl,rfl,rfl,trivial⟩ ⟨by dsimp only;omega,hx.trans (xC.trans xP),?_⟩ (by dsimp only;omega)
      dsimp only
      rw [hfs,List.foldl_append]
      exact SlG.wk sP (fun b hb=>Nat.le_trans (hx.trans xC).size hb)
  · obtain rfl:i=a.length:=by omega
    rw [List.take_length,hq] at hs
    (repeat' (first|(refine at_EL ?_;first|refine eN ?_|refine eV Z Z (zA Z Z) ?_|refine eV Z Z (zB Z Z) ?_|(refine at_bin ?_;first|refine eD Z Z (zL Z Z Z) (fun hh=>?_) (fun hh=>?_)))|(refine at_K ?_;first|refine K_then ?_|refine K_then_exit ?_|refine K_in_exit ?_)|(refine at_E ?_;first|refine E_seq ?_|refine E_region ?_|refine E_cond_t Z ?_|refine E_cond_f Z ?_|refine E_block ?_|refine E_skip ?_|refine E_ret ?_|refine E_exit ?_)))
    all_goals (first|(exfalso;omega)|skip)
    exact ret_1 Z Z ⟨hx,hs⟩
set_option maxHeartbeats 4000000 in
set_option maxRecDepth 8000 in
theorem rbothW_any (a b:List Int) (u v:Value) (w:World) (hu:Sl w u a) (hv:Sl w v b) (hla:a.length≤1099511627) :
    Calls Tryz.prog 37 #[u,v] w (Rt fun r w'=>Ext w w'∧SlG (Nw w) w' r (bothF a b)):=by
  have hu0:=hu
  obtain⟨sa,cap,rfl,hc,hm,hp⟩:=hu.sl
  refine calls_E (n:=26) (args:=[.slice sa a.length cap,v]) Tryz.func37 rfl Tryz.ntmps37 (by simp) ?_
  obtain⟨q,hq⟩:∃ q:Int→Bool,q=fun x=>decide (x∈b):=⟨_,rfl⟩
  (repeat' (first|(refine at_EL ?_;first|refine eN ?_|refine eV Z Z (zA Z Z) ?_|refine eV Z Z (zB Z Z) ?_|(refine at_call ?_;first|refine eV Z Z (zK Z Z) ?_))|(refine at_K ?_;first|refine K_then ?_)|(refine at_E ?_;first|refine E_seq ?_|refine E_region ?_|refine E_block ?_)))
  refine E_loop (ι:=Nat × Value) (fun s=>[(0,.slice sa a.length cap),(1,v),(5,s.2),(8,int a.length),(9,int s.1)])
    (fun s wr=>s.1≤a.length∧Ext w wr∧SlG (Nw w) wr s.2 (((a.take s.1).filter q).foldl nputF [])) (fun s=>a.length-s.1) (0,.slice none 0 0)
    ⟨rfl,rfl,rfl,rfl,rfl,trivial⟩ ⟨Nat.zero_le _,Ext.refl _,SlG.nil⟩ ?_
  rintro⟨i,vO⟩ wr ⟨hi,hx,hs⟩
  dsimp only at hi hx hs ⊢
  have hfl:=fold_len ((a.take i).filter q) []
  have hfl2:=List.length_filter_le q (a.take i)
  rw [List.length_take] at hfl2
  simp only [List.length_nil] at hfl
  by_cases hlt:i<a.length
  · obtain⟨bb,off,rfl⟩:=hp (by omega)
    obtain⟨x,hx1⟩:∃ x,a[i]?=some x:=⟨_,List.getElem?_eq_getElem hlt⟩
    have hcx:=int_elem (hu0.ext hx) hx1
    have ch:=r1has_any b x v wr (hv.ext hx)
    have hfs:=filter_snoc (p:=q) hx1
    by_cases hm:x∈b
    · rw [decide_eq_true hm] at ch
      rw [if_pos (by rw [hq];simpa using hm)] at hfs
      (repeat' (first|refine eV Z Z (val_indexAddr (m:=i) Z Z Z Z hlt) ?_|refine eV Z Z (val_load Z Z Z hcx) ?_|(refine EL_call Z Z (entersF Z Z en33) ch (fun vC wC hC=>?_);obtain⟨rfl,xC⟩:=hC;replace hcx:=xC.cell hcx)|(refine EL_call Z Z (entersF Z Z en90) (nputW_any _ x vO _ (SlG.any (hs.ext (by assumption))) (by omega)) (fun vP wP hP=>?_);obtain⟨xP,sP⟩:=hP)|(refine at_EL ?_;first|refine eN ?_|refine eV Z Z (zA Z Z) ?_|refine eV Z Z (zB Z Z) ?_|(refine at_bin ?_;first|refine eD Z Z (zL Z Z Z) (fun hh=>?_) (fun hh=>?_)|refine eV Z Z (zU Z Z Z (by omega) (by omega)) ?_))|(refine at_K ?_;first|refine K_then ?_|refine K_in ?_|refine K_then_exit ?_|refine K_in_exit ?_)|(refine at_E ?_;first|refine E_seq ?_|refine E_region ?_|refine E_cond_t Z ?_|refine E_cond_f Z ?_|refine E_block ?_|refine E_skip ?_|refine E_ret ?_|refine E_exit ?_)))
      all_goals (first|(exfalso;omega)|skip)
      refine K_rnd (i+1,vP) ⟨rfl,rfl,rfl,rfl,rfl,trivial⟩ ⟨by dsimp only;omega,hx.trans (xC.trans xP),?_⟩ (by dsimp only;omega)
      dsimp only
      rw [hfs,List.foldl_append]
      exact SlG.wk sP (fun b hb=>Nat.le_trans (hx.trans xC).size hb)
    · rw [decide_eq_false hm] at ch
      rw [if_neg (by rw [hq];simpa using hm),List.append_nil] at hfs
      (repeat' (first|refine eV Z Z (val_indexAddr (m:=i) Z Z Z Z hlt) ?_|refine eV Z Z (val_load Z Z Z hcx) ?_|(refine EL_call Z Z (entersF Z Z en33) ch (fun vC wC hC=>?_);obtain⟨rfl,xC⟩:=hC;replace hcx:=xC.cell hcx)|(refine at_EL ?_;first|refine eN ?_|refine eV Z Z (zA Z Z) ?_|refine eV Z Z (zB Z Z) ?_|(refine at_bin ?_;first|refine eD Z Z (zL Z Z Z) (fun hh=>?_) (fun hh=>?_)|refine eV Z Z (zU Z Z Z (by omega) (by omega)) ?_))|(refine at_K ?_;first|refine K_then ?_|refine K_in ?_|refine K_then_exit ?_|refine K_in_exit ?_)|(refine at_E ?_;first|refine E_seq ?_|refine E_region ?_|refine E_cond_t Z ?_|refine E_cond_f Z ?_|refine E_block ?_|refine E_skip ?_|refine E_ret ?_|refine E_exit ?_)))
      all_goals (first|(exfalso;omega)|skip)
      refine K_rnd (i+1,vO) ⟨rfl,rfl,rfl,rfl,rfl,trivial⟩ ⟨by dsimp only;omega,hx.trans xC,?_⟩ (by dsimp only;omega)
      dsimp only
      rw [hfs]
      exact hs.ext xC
  · obtain rfl:i=a.length:=by omega
    rw [List.take_length,hq] at hs
    (repeat' (first|(refine at_EL ?_;first|refine eN ?_|refine eV Z Z (zA Z Z) ?_|refine eV Z Z (zB Z Z) ?_|(refine at_bin ?_;first|refine eD Z Z (zL Z Z Z) (fun hh=>?_) (fun hh=>?_)))|(refine at_K ?_;first|refine K_then ?_|refine K_then_exit ?_|refine K_in_exit ?_)|(refine at_E ?_;first|refine E_seq ?_|refine E_region ?_|refine E_cond_t Z ?_|refine E_cond_f Z ?_|refine E_block ?_|refine E_skip ?_|refine E_ret ?_|refine E_exit ?_)))
    all_goals (first|(exfalso;omega)|skip)
    exact ret_1 Z Z ⟨hx,hs⟩
set_option maxHeartbeats 4000000 in
set_option maxRecDepth 8000 in
theorem runionW_any (a b:List Int) (u v:Value) (w:World) (hu:Sl w u a) (hv:Sl w v b) (hla:a.length≤1099511627) (hlb:b.length≤1099511627) :
    Calls Tryz.prog 58 #[u,v] w (Rt fun r w'=>Ext w w'∧SlG (Nw w) w' r (unionS a b)):=by
  have hv0:=hv
  obtain⟨sa,cap,rfl,hc,hm,hp⟩:=hv.sl
  refine calls_E (n:=22) (args:=[u,.slice sa b.length cap]) Tryz.func58 rfl Tryz.ntmps58 (by simp) ?_
  have c1:=sortedW_any a u w hu (by omega)
  (repeat' (first|(refine EL_call Z Z (entersF Z Z en102) c1 (fun vC wC hC=>?_);obtain⟨xC,sC⟩:=hC)|(refine at_EL ?_;first|refine eN ?_|refine eV Z Z (zA Z Z) ?_|refine eV Z Z (zB Z Z) ?_|(refine at_call ?_;first|refine eV Z Z (zK Z Z) ?_))|(refine at_K ?_;first|refine K_then ?_)|(refine at_E ?_;first|refine E_seq ?_|refine E_region ?_|refine E_block ?_)))
  have hsl:=fold_len a []
  simp only [List.length_nil] at hsl
  refine E_loop (ι:=Nat × Value) (fun s=>[(1,.slice sa b.length cap),(5,s.2),(10,int b.length),(11,int s.1)])
    (fun s wr=>s.1≤b.length∧Ext wC wr∧SlG (Nw w) wr s.2 ((b.take s.1).foldl nputF (sortedF a))) (fun s=>b.length-s.1) (0,vC)
    ⟨rfl,rfl,rfl,rfl,trivial⟩ ⟨Nat.zero_le _,Ext.refl _,sC⟩ ?_
  rintro⟨i,vO⟩ wr ⟨hi,hx,hs⟩
  dsimp only at hi hx hs ⊢
  have hfl:=fold_len (b.take i) (sortedF a)
  rw [List.length_take] at hfl
  have hsl2:(sortedF a).length≤a.length:=by unfold sortedF;omega
  have hX:=xC.trans hx
  by_cases hlt:i<b.length
  · obtain⟨bb,off,rfl⟩:=hp (by omega)
    obtain⟨x,hx1⟩:∃ x,b[i]?=some x:=⟨_,List.getElem?_eq_getElem hlt⟩
    have hcx:=int_elem (hv0.ext hX) hx1
    (repeat' (first|refine eV Z Z (val_indexAddr (m:=i) Z Z Z Z hlt) ?_|refine eV Z Z (val_load Z Z Z hcx) ?_|(refine EL_call Z Z (entersF Z Z en90) (nputW_any _ x vO _ hs.any (by omega)) (fun vP wP hP=>?_);obtain⟨xP,sP⟩:=hP)|(refine at_EL ?_;first|refine eN ?_|refine eV Z Z (zA Z Z) ?_|refine eV Z Z (zB Z Z) ?_|(refine at_bin ?_;first|refine eD Z Z (zL Z Z Z) (fun hh=>?_) (fun hh=>?_)|refine eV Z Z (zU Z Z Z (by omega) (by omega)) ?_))|(refine at_K ?_;first|refine K_then ?_|refine K_in ?_|refine K_then_exit ?_|refine K_in_exit ?_)|(refine at_E ?_;first|refine E_seq ?_|refine E_region ?_|refine E_cond_t Z ?_|refine E_cond_f Z ?_|refine E_block ?_|refine E_skip ?_|refine E_ret ?_|refine E_exit ?_)))
    all_goals (first|(exfalso;omega)|skip)
    refine K_rnd (i+1,vP) ⟨rfl,rfl,rfl,rfl,trivial⟩ ⟨by dsimp only;omega,hx.trans xP,?_⟩ (by dsimp only;omega)
    dsimp only
    obtain⟨hi2,rfl⟩:=List.getElem?_eq_some_iff.1 hx1
    rw [List.take_succ_eq_append_getElem hi2,List.foldl_append]
    exact SlG.wk sP (fun b hb=>Nat.le_trans hX.size hb)
  · obtain rfl:i=b.length:=by omega
    rw [List.take_length] at hs
    (repeat' (first|(refine at_EL ?_;first|refine eN ?_|refine eV Z Z (zA Z Z) ?_|refine eV Z Z (zB Z Z) ?_|(refine at_bin ?_;first|refine eD Z Z (zL Z Z Z) (fun hh=>?_) (fun hh=>?_)))|(refine at_K ?_;first|refine K_then ?_|refine K_then_exit ?_|refine K_in_exit ?_)|(refine at_E ?_;first|refine E_seq ?_|refine E_region ?_|refine E_cond_t Z ?_|refine E_cond_f Z ?_|refine E_block ?_|refine E_skip ?_|refine E_ret ?_|refine E_exit ?_)))
    all_goals (first|(exfalso;omega)|skip)
    exact ret_1 Z Z ⟨hX,by unfold unionS sortedF at *;rw [List.foldl_append];exact hs⟩
end Go.Proofs.YtnifmbbpfdghmaaGreatDoor
