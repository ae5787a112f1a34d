/-
  Walks of match: Then and Within with their closures. Walks of match: Has with its closure.
-/
import Derived.Test.YtnifmbbpfdghmaaGreatDoorYd
import Derived.Test.YtnifmbbpfdghmaaGreatDoorWp
set_option linter.all false
namespace Go.Proofs.YtnifmbbpfdghmaaGreatDoor
open Go.RowKit Go.En
def DBox (w:World) (bD:Nat) (d:Dc):Prop:=∃ sv tv nv,Row w bD 28 [int d.rid,str d.rname,int d.len,int d.day,sv,tv,nv]∧DcAt w (.agg #[int d.rid,str d.rname,int d.len,int d.day,sv,tv,nv]) d
theorem DBox.ext {w w':World} {bD:Nat} {d:Dc} (h:DBox w bD d) (x:Ext w w'):DBox w' bD d:=by
  obtain⟨sv,tv,nv,h1,h2⟩:=h
  exact⟨sv,tv,nv,h1.ext x,h2.ext x⟩
theorem setF_get (d:Dc) (l:List Int) (x:Int):(setF d l x).getD (.bool false)=.bool (decide (x∈l)&&isId d x):=by
  unfold setF isId
  by_cases h1:x∈l <;> cases h2:(getF d.notes x).isSome <;> simp [h1,h2]
attribute [local irreducible] E EL K Val Enters Rt Calls bodyPost Code.wp RQ
set_option maxHeartbeats 4000000 in
set_option maxRecDepth 8000 in
theorem thenC_any {d:Dc} (h:LightD d) (b:List Int) (bN bD r:Nat) (x:Int) (w:World) (rN:Row w bN 91 [.map (some r)]) (hD:DBox w bD d) (hm:MapF w r (setF d b)) :
    Calls Tryz.prog 69 #[int x,.pointer (some ⟨bN,0,none⟩),.pointer (some ⟨bD,0,none⟩)] w (Rt fun u w'=>u=.bool (decide (nextF d x∈b)&&isId d (nextF d x))∧Ext w w'):=by
  obtain⟨sv,tv,nv,rD,dD⟩:=hD
  refine calls_E (n:=10) (args:=[int x,.pointer (some ⟨bN,0,none⟩),.pointer (some ⟨bD,0,none⟩)]) Tryz.func69 rfl Tryz.ntmps69 (by simp) ?_
  (repeat' (first|refine yV Z Z (fun wq _ xq=>val_load Z Z Z ((rN.ext xq).cellAt rfl)) ?_|refine yV Z Z (fun wq _ xq=>val_loadA Z Z Z (rD.ext xq).at rfl) ?_|refine RQ_call Z Z (fun _ _ _=>entersF Z Z en61) (fun wq xq=>next_any h _ x wq (dD.ext xq)) ?_|refine yV (v:=.bool (decide (nextF d x∈b)&&isId d (nextF d x))) Z Z (fun wq _ xq=>by rw [← setF_get];exact val_lookup (hm.ext xq) Z Z Z) ?_|(refine at_EL ?_;first|refine eN ?_|refine eV Z Z (zB Z Z) ?_)|(refine at_K ?_;first|refine K_then ?_)|(refine at_E ?_;first|refine E_seq ?_|refine E_region ?_|refine E_ret ?_|refine E_dq mixedOk (by kernel_rfl) Z ?_)|(refine at_RQ ?_;first|refine yN Z (fun wq xq=>?_)|refine yV Z Z (fun _ _ _=>zA Z Z) ?_|refine yV Z Z (fun _ _ _=>zB Z Z) ?_)))
  exact ret_1 Z Z ⟨rfl,xq⟩
set_option maxHeartbeats 4000000 in
set_option maxRecDepth 8000 in
theorem then_any {d:Dc} (h:LightD d) (a b:List Int) (v u1 u2:Value) (w:World) (hv:DcAt w v d) (ha:Sl w u1 a) (hb:Sl w u2 b) :
    Calls Tryz.prog 21 #[v,u1,u2] w (Rt fun u w'=>Ext w w'∧SlG (Nw w) w' u (idsOf d (thenP d a b))):=by
  have hd0:=hv
  obtain⟨sv,tv,nv,rfl,_,_,_⟩:=hv
  refine calls_E (n:=16) (args:=[.agg #[int d.rid,str d.rname,int d.len,int d.day,sv,tv,nv],u1,u2]) Tryz.func21 rfl Tryz.ntmps21 (by simp) ?_
  refine E_seq ?_
  refine E_region ?_
  refine EL_box Z Z Z Z (fun bD wD xD hbD rD0=>?_)
  have rD:Row wD bD 28 [int d.rid,str d.rname,int d.len,int d.day,sv,tv,nv]:=rD0
  clear rD0
  have c1:=mof_any d b _ u2 wD (hd0.ext xD) (hb.ext xD)
  (repeat' (first|refine eV Z Z (val_loadA Z Z Z rD.at rfl) ?_|(refine EL_call Z Z (entersF Z Z en67) c1 (fun vC wC hC=>?_);obtain⟨r,rfl,xC,hrD,mC⟩:=hC)|(refine at_EL ?_;first|refine eN ?_|refine eV Z Z (zA Z Z) ?_|refine eV Z Z (zB Z Z) ?_)|(refine at_K ?_;first|refine K_then ?_)|(refine at_E ?_;first|refine E_seq ?_|refine E_region ?_)))
  refine EL_alloc Z Z Z (fun bN wN xN hbN rN0=>?_)
  refine EL_storeP (cs:=[.map (some r)]) rN0 (xC.trans xN) (by have:=xC.size;omega) Z Z Z Z Z Z Z Z (Nat.le_refl _) (fun w3 rN1 x3 k3=>?_)
  have rN:Row w3 bN 91 [.map (some r)]:=rN1
  have m3:MapF w3 r (setF d b):=(mC.ext xN).kb k3 (fun e=>by have:=mC.lt;cases e;omega)
  have rD3:=rD.ext x3
  clear rN0 rN1 k3
  have X3:=xD.trans x3
  have c2:=mof_any d a _ u1 w3 (hd0.ext X3) (ha.ext X3)
  (repeat' (first|refine eV Z Z (val_loadA Z Z Z rD3.at rfl) ?_|(refine EL_call Z Z (entersF Z Z en67) c2 (fun vC wE hC=>?_);obtain⟨r2,rfl,xE,_,mE⟩:=hC)|refine eV Z Z (val_makeFunc (vs:=[.pointer (some ⟨bN,0,none⟩),.pointer (some ⟨bD,0,none⟩)]) Z Z) ?_|(refine at_EL ?_;first|refine eN ?_|refine eV Z Z (zA Z Z) ?_)|(refine at_K ?_;first|refine K_then ?_)|(refine at_E ?_;first|refine E_seq ?_|refine E_region ?_)))
  have XE:=X3.trans xE
  have ck:=keep_any h 69 [.pointer (some ⟨bN,0,none⟩),.pointer (some ⟨bD,0,none⟩)] en69 (fun x=>decide (nextF d x∈b)&&isId d (nextF d x)) a r2 wE mE (fun x wq xq=>
    thenC_any h b bN bD r x wq ((rN.ext xE).ext xq) ⟨sv,tv,nv,(rD3.ext xE).ext xq,hd0.ext (XE.trans xq)⟩ ((m3.ext xE).ext xq))
  (repeat' (first|(refine EL_call Z Z (entersF Z Z en68) ck (fun vC wF hC=>?_);obtain⟨xF,sF⟩:=hC)|(refine at_EL ?_;first|refine eN ?_|refine eV Z Z (zB Z Z) ?_)|(refine at_K ?_;first|refine K_then ?_)|(refine at_E ?_;first|refine E_ret ?_)))
  exact ret_1 Z Z ⟨XE.trans xF,sF.wk (fun b hb=>by have:=XE.size;unfold Nw at *;omega)⟩
def inB (d:Dc) (x k:Int):Bool:=decide (k≠x)&&(decide ((spanF d k).1≤(spanF d x).1)&&decide ((spanF d x).2≤(spanF d k).2))
set_option maxHeartbeats 4000000 in
set_option maxRecDepth 8000 in
theorem withinC_any {d:Dc} (h:LightD d) (I:List Int) (bD bO:Nat) (vI:Value) (x:Int) (w:World) (hD:DBox w bD d) (rO:Row w bO 22 [vI]) (hI:Sl w vI I) :
    Calls Tryz.prog 73 #[int x,.pointer (some ⟨bD,0,none⟩),.pointer (some ⟨bO,0,none⟩)] w (Rt fun u w'=>u=.bool (I.any (inB d x))∧Ext w w'):=by
  obtain⟨sv,tv,nv,rD,dD⟩:=hD
  have hI0:=hI
  obtain⟨a,cap,rfl,hc,hm,hp⟩:=hI.sl
  refine calls_E (n:=47) (args:=[int x,.pointer (some ⟨bD,0,none⟩),.pointer (some ⟨bO,0,none⟩)]) Tryz.func73 rfl Tryz.ntmps73 (by simp) ?_
  have cw:=where_any h _ x w dD
  unfold whereV at cw
  (repeat' (first|refine eV Z Z (val_loadA Z Z Z rD.at rfl) ?_|(refine EL_call Z Z (entersF Z Z en60) cw (fun vC wC hC=>?_);obtain⟨rfl,xC⟩:=hC)|(refine at_EL ?_;first|refine eN ?_|refine eV Z Z (zA Z Z) ?_|refine eV Z Z (zB Z Z) ?_|refine eV Z Z (zF Z Z Z) ?_)|(refine at_K ?_;first|refine K_then ?_)|(refine at_E ?_;first|refine E_seq ?_|refine E_region ?_)))
  refine EL_alloc Z Z Z (fun bT wT xT hbT rT0=>?_)
  refine EL_storeP (cs:=[int (spanF d x).1,int (spanF d x).2]) rT0 (xC.trans xT) (by have:=xC.size;omega) Z Z Z Z Z Z Z Z (Nat.le_refl _) (fun w3 rT1 x3 k3=>?_)
  have rT:Row w3 bT 72 [int (spanF d x).1,int (spanF d x).2]:=rT1
  clear rT0 rT1 k3
  have rO3:=rO.ext x3
  (repeat' (first|refine eV Z Z (val_load Z Z Z (rO3.cellAt rfl)) ?_|(refine at_EL ?_;first|refine eN ?_|refine eV Z Z (zA Z Z) ?_|refine eV Z Z (zB Z Z) ?_|(refine at_call ?_;first|refine eV Z Z (zK Z Z) ?_))|(refine at_K ?_;first|refine K_then ?_)|(refine at_E ?_;first|refine E_seq ?_|refine E_region ?_|refine E_block ?_)))
  refine E_loop (ι:=Nat) (fun i=>[(0,int x),(1,.pointer (some ⟨bD,0,none⟩)),(5,.pointer (some ⟨bT,0,none⟩)),(17,.slice a I.length cap),(18,int I.length),(19,int i)])
    (fun i wr=>i≤I.length∧Ext w3 wr∧(I.take i).any (inB d x)=false) (fun i=>I.length-i) 0
    ⟨rfl,rfl,rfl,rfl,rfl,rfl,trivial⟩ ⟨Nat.zero_le _,Ext.refl _,rfl⟩ ?_
  rintro i wr ⟨hi,hx,hno⟩
  have hX:=x3.trans hx
  by_cases hlt:i<I.length
  · obtain⟨b,off,rfl⟩:=hp (by omega)
    obtain⟨k,hk⟩:∃ k,I[i]?=some k:=⟨_,List.getElem?_eq_getElem hlt⟩
    have hck:=int_elem (hI0.ext hX) hk
    have ck:=where_any h _ k wr (dD.ext hX)
    unfold whereV at ck
    have hsn:(I.take (i+1)).any (inB d x)=inB d x k:=by
      obtain⟨hi2,rfl⟩:=List.getElem?_eq_some_iff.1 hk
      rw [List.take_succ_eq_append_getElem hi2,List.any_append,hno]
      simp
    have rDr:=rD.ext hX
    (repeat' (first|refine eV Z Z (val_indexAddr (m:=i) Z Z Z Z hlt) ?_|refine eV Z Z (val_load Z Z Z hck) ?_|refine eV Z Z (val_loadA Z Z Z rDr.at rfl) ?_|(refine EL_call Z Z (entersF Z Z en60) ck (fun vC wC hC=>?_);obtain⟨rfl,xC⟩:=hC)|(refine at_EL ?_;first|refine eN ?_|refine eV Z Z (zA Z Z) ?_|refine eV Z Z (zB Z Z) ?_|(refine at_bin ?_;first|refine eD Z Z (zL Z Z Z) (fun hh=>?_) (fun hh=>?_))|refine eV Z Z (zF Z Z Z) ?_)|(refine at_K ?_;first|refine K_then ?_|refine K_then_exit ?_|refine K_in_exit ?_)|(refine at_E ?_;first|refine E_seq ?_|refine E_region ?_|refine E_cond_t Z ?_|refine E_cond_f Z ?_|refine E_block ?_|refine E_skip ?_|refine E_ret ?_|refine E_exit ?_)))
    all_goals (first|(exfalso;omega)|skip)
    refine EL_alloc Z Z Z (fun bU wU xU hbU rU0=>?_)
    refine EL_storeP (cs:=[int (spanF d k).1,int (spanF d k).2]) rU0 (xC.trans xU) (by have:=xC.size;omega) Z Z Z Z Z Z Z Z (Nat.le_refl _) (fun w4 rU1 x4 k4=>?_)
    have rU:Row w4 bU 72 [int (spanF d k).1,int (spanF d k).2]:=rU1
    clear rU0 rU1 k4
    have rT4:=rT.ext (hx.trans x4)
    have hX4:=hX.trans x4
    (repeat' (first|refine eV Z Z (val_load Z Z Z (rU.cellAt rfl)) ?_|refine eV Z Z (val_load Z Z Z (rT4.cellAt rfl)) ?_|(refine at_EL ?_;first|refine eN ?_|refine eO Z Z ?_|refine eV Z Z (zA Z Z) ?_|refine eV Z Z (zB Z Z) ?_|(refine at_bin ?_;first|refine eD Z Z (zN Z Z Z) (fun hh=>?_) (fun hh=>?_)|refine eD Z Z (zQ Z Z Z) (fun hh=>?_) (fun hh=>?_)|refine eV Z Z (zU Z Z Z (by omega) (by omega)) ?_)|refine eV Z Z (zC Z Z Z) ?_|refine eV Z Z (zD Z Z Z) ?_|refine eV Z Z (zH Z Z) ?_)|(refine at_K ?_;first|refine K_then ?_|refine K_in ?_|refine K_then_ret ?_|refine K_in_ret ?_)|(refine at_E ?_;first|refine E_seq ?_|refine E_region ?_|refine E_cond_t Z ?_|refine E_cond_f Z ?_|refine E_skip ?_|refine E_ret ?_)))
    all_goals (first|(exfalso;omega)|skip)
    · have hin:inB d x k=true:=by unfold inB;simp only [Bool.and_eq_true,decide_eq_true_eq];exact⟨by assumption,by assumption,by assumption⟩
      exact ret_1 Z Z ⟨by rw [List.any_eq_true.2 ⟨k,List.mem_of_getElem? hk,hin⟩],hX4⟩
    all_goals
      have hin:inB d x k=false:=by
        rw [Bool.eq_false_iff]
        unfold inB
        simp only [ne_eq,Bool.and_eq_true,decide_eq_true_eq]
        rintro⟨e1,e2,e3⟩
        first|exact absurd e1 (by assumption)|exact absurd e2 (by assumption)|exact absurd e3 (by assumption)
      exact K_rnd (i+1) ⟨rfl,rfl,rfl,rfl,rfl,rfl,trivial⟩ ⟨by omega,hx.trans x4,by rw [hsn,hin]⟩ (by omega)
  · obtain rfl:i=I.length:=by omega
    rw [List.take_length] at hno
    (repeat' (first|(refine at_EL ?_;first|refine eN ?_|refine eV Z Z (zB Z Z) ?_|(refine at_bin ?_;first|refine eD Z Z (zL Z Z Z) (fun hh=>?_) (fun hh=>?_)))|(refine at_K ?_;first|refine K_then ?_|refine K_then_exit ?_|refine K_in_exit ?_)|(refine at_E ?_;first|refine E_seq ?_|refine E_region ?_|refine E_cond_t Z ?_|refine E_cond_f Z ?_|refine E_block ?_|refine E_skip ?_|refine E_ret ?_|refine E_exit ?_)))
    all_goals (first|(exfalso;omega)|skip)
    exact ret_1 Z Z ⟨by rw [hno],hX⟩
theorem within_p (d:Dc) (a b:List Int):idsOf d (fun x=>decide (x∈a)&&(idsOf d (fun x=>decide (x∈b))).any (inB d x))=idsOf d (withinP d a b):=by
  refine idsOf_congr fun n hn=>?_
  unfold withinP
  rw [any_ids]
  rfl
set_option maxHeartbeats 4000000 in
set_option maxRecDepth 8000 in
theorem within_any {d:Dc} (h:LightD d) (a b:List Int) (v u1 u2:Value) (w:World) (hv:DcAt w v d) (ha:Sl w u1 a) (hb:Sl w u2 b) :
    Calls Tryz.prog 23 #[v,u1,u2] w (Rt fun u w'=>Ext w w'∧SlG (Nw w) w' u (idsOf d (withinP d a b))):=by
  have hd0:=hv
  obtain⟨sv,tv,nv,rfl,_,_,_⟩:=hv
  refine calls_E (n:=17) (args:=[.agg #[int d.rid,str d.rname,int d.len,int d.day,sv,tv,nv],u1,u2]) Tryz.func23 rfl Tryz.ntmps23 (by simp) ?_
  refine E_seq ?_
  refine E_region ?_
  refine EL_box Z Z Z Z (fun bD wD xD hbD rD0=>?_)
  have rD:Row wD bD 28 [int d.rid,str d.rname,int d.len,int d.day,sv,tv,nv]:=rD0
  clear rD0
  have c1:=mof_any d b _ u2 wD (hd0.ext xD) (hb.ext xD)
  (repeat' (first|refine eV Z Z (val_loadA Z Z Z rD.at rfl) ?_|(refine EL_call Z Z (entersF Z Z en67) c1 (fun vC wC hC=>?_);obtain⟨r,rfl,xC,hrD,mC⟩:=hC)|(refine at_EL ?_;first|refine eN ?_|refine eV Z Z (zA Z Z) ?_|refine eV Z Z (zB Z Z) ?_)|(refine at_K ?_;first|refine K_then ?_)|(refine at_E ?_;first|refine E_seq ?_|refine E_region ?_)))
  have cl:=list_any h b r wC mC
  (repeat' (first|(refine EL_call Z Z (entersF Z Z en72) cl (fun vI wI hC=>?_);obtain⟨xI,sI⟩:=hC)))
  have hbCI:=sI.old
  obtain⟨ia,ic,rfl,_,_,_⟩:=sI.sl
  refine EL_alloc Z Z Z (fun bO wO xO hbO rO0=>?_)
  have hCI:=xC.trans xI
  have hsz:=hCI.size
  refine EL_storeP (cs:=[.slice ia (idsOf d (fun x=>decide (x∈b))).length ic]) rO0 (hCI.trans xO) (by omega) Z Z Z Z Z Z Z Z (Nat.le_refl _) (fun w3 rO1 x3 k3=>?_)
  have rO:Row w3 bO 22 [.slice ia (idsOf d (fun x=>decide (x∈b))).length ic]:=rO1
  have s3:Sl w3 (.slice ia (idsOf d (fun x=>decide (x∈b))).length ic) (idsOf d (fun x=>decide (x∈b))):=
    ((hbCI.ext xO).move (k3.mv (G:=fun b=>b<wI.heap.size) (fun b hb e=>by cases e;exact absurd hb (by omega)))).any
  have rD3:=rD.ext x3
  clear rO0 rO1 k3
  have X3:=xD.trans x3
  have c2:=mof_any d a _ u1 w3 (hd0.ext X3) (ha.ext X3)
  (repeat' (first|refine eV Z Z (val_loadA Z Z Z rD3.at rfl) ?_|(refine EL_call Z Z (entersF Z Z en67) c2 (fun vC wE hC=>?_);obtain⟨r2,rfl,xE,_,mE⟩:=hC)|refine eV Z Z (val_makeFunc (vs:=[.pointer (some ⟨bD,0,none⟩),.pointer (some ⟨bO,0,none⟩)]) Z Z) ?_|(refine at_EL ?_;first|refine eN ?_|refine eV Z Z (zA Z Z) ?_)|(refine at_K ?_;first|refine K_then ?_)|(refine at_E ?_;first|refine E_seq ?_|refine E_region ?_)))
  have XE:=X3.trans xE
  have ck:=keep_any h 73 [.pointer (some ⟨bD,0,none⟩),.pointer (some ⟨bO,0,none⟩)] en73 (fun x=>(idsOf d (fun x=>decide (x∈b))).any (inB d x)) a r2 wE mE (fun x wq xq=>
    withinC_any h _ bD bO _ x wq ⟨sv,tv,nv,(rD3.ext xE).ext xq,hd0.ext (XE.trans xq)⟩ ((rO.ext xE).ext xq) ((s3.ext xE).ext xq))
  rw [within_p] at ck
  (repeat' (first|(refine EL_call Z Z (entersF Z Z en68) ck (fun vC wF hC=>?_);obtain⟨xF,sF⟩:=hC)|(refine at_EL ?_;first|refine eN ?_|refine eV Z Z (zB Z Z) ?_)|(refine at_K ?_;first|refine K_then ?_)|(refine at_E ?_;first|refine E_ret ?_)))
  exact ret_1 Z Z ⟨XE.trans xF,sF.wk (fun b hb=>by have:=XE.size;unfold Nw at *;omega)⟩
end Go.Proofs.YtnifmbbpfdghmaaGreatDoor
namespace Go.Proofs.YtnifmbbpfdghmaaGreatDoor
open Go.RowKit Go.En
def bF (p:Int→Bool) (j:Int):Option Value:=if p j=true then some (.bool true) else none
theorem bF_get (p:Int→Bool) (x:Int):(bF p x).getD (.bool false)=.bool (p x):=by
  unfold bF
  cases p x <;> simp
theorem bF_or (p:Int→Bool) (x:Int):(fun j=>if j=x then some (.bool true) else bF p j)=bF (fun j=>p j||decide (j=x)):=by
  funext j
  unfold bF
  by_cases e:j=x
  · simp [e]
  · simp [e]
def restL (d:Dc) (k:Int):List Int:=((chainF d k).map fun m=>m.id).drop 1
theorem map_cell_ne {w:World} {r:Nat} {f:Int→Option Value} (hm:MapF w r f) {b o:Nat} {v:Value} (h:w.cell? ⟨b,o,none⟩=some v):b≠r:=by
  rintro rfl
  obtain⟨es,clock,hb,_⟩:=hm
  unfold World.cell? at h
  simp [hb] at h
theorem ints_same {w w':World} {b off n cap:Nat} {l:List Int} (h:Sl w (.slice (some ⟨b,off,none⟩) n cap) l) (e:w'.heap[b]?=w.heap[b]?):Sl w' (.slice (some ⟨b,off,none⟩) n cap) l:=by
  obtain⟨a',cap',hv,hc,hm,hp⟩:=h
  refine⟨a',cap',hv,hc,hm,fun h0=>?_⟩
  obtain⟨b',off',ha,_,css,h1,h2⟩:=hp h0
  subst ha
  cases hv
  exact⟨b,off,rfl,trivial,css,by rw [ats_ints h1];exact ints_ats _ _,h2.same e⟩
attribute [local irreducible] E EL K Val Enters Rt Calls bodyPost Code.wp RQ
set_option maxHeartbeats 4000000 in
set_option maxRecDepth 8000 in
theorem hasC_any (p:Int→Bool) (bA r:Nat) (x:Int) (w:World) (rA:Row w bA 91 [.map (some r)]) (hm:MapF w r (bF p)) :
    Calls Tryz.prog 76 #[int x,.pointer (some ⟨bA,0,none⟩)] w (Rt fun u w'=>u=.bool (p x)∧Ext w w'):=by
  refine calls_E (n:=7) (args:=[int x,.pointer (some ⟨bA,0,none⟩)]) Tryz.func76 rfl Tryz.ntmps76 (by simp) ?_
  (repeat' (first|refine eV Z Z (val_load Z Z Z (rA.cellAt rfl)) ?_|refine eV (v:=.bool (p x)) Z Z (by rw [← bF_get p x];exact val_lookup hm rfl rfl rfl) ?_|(refine at_EL ?_;first|refine eN ?_|refine eV Z Z (zA Z Z) ?_|refine eV Z Z (zB Z Z) ?_)|(refine at_K ?_;first|refine K_then ?_)|(refine at_E ?_;first|refine E_seq ?_|refine E_region ?_|refine E_ret ?_)))
  exact ret_1 Z Z ⟨rfl,Ext.refl _⟩
set_option maxHeartbeats 4000000 in
set_option maxRecDepth 8000 in
theorem has25_any {d:Dc} (h:LightD d) (a b:List Int) (v u1 u2:Value) (w:World) (hv:DcAt w v d) (ha:Sl w u1 a) (hb:Sl w u2 b) :
    Calls Tryz.prog 25 #[v,u1,u2] w (Rt fun u w'=>Ext w w'∧SlG (Nw w) w' u (idsOf d (hasP d a b))):=by
  have hd0:=hv
  obtain⟨sv,tv,nv,rfl,_,_,_⟩:=hv
  refine calls_E (n:=37) (args:=[.agg #[int d.rid,str d.rname,int d.len,int d.day,sv,tv,nv],u1,u2]) Tryz.func25 rfl Tryz.ntmps25 (by simp) ?_
  refine E_seq ?_
  refine E_region ?_
  refine EL_box Z Z Z Z (fun bD wD xD hbD rD0=>?_)
  have rD:Row wD bD 28 [int d.rid,str d.rname,int d.len,int d.day,sv,tv,nv]:=rD0
  clear rD0
  (repeat' (first|refine EL_makeMap Z Z Z (fun r wR hr mR xR=>?_)|(refine at_EL ?_;first|refine eN ?_|refine eV Z Z (zB Z Z) ?_)|(refine at_K ?_;first|refine K_then ?_)|(refine at_E ?_;first|refine E_seq ?_|refine E_region ?_)))
  refine EL_alloc Z Z Z (fun bA wA xA hbA rA0=>?_)
  refine EL_storeP (cs:=[.map (some r)]) rA0 (xR.trans xA) (by have:=xR.size;omega) Z Z Z Z Z Z Z Z (Nat.le_refl _) (fun w3 rA1 x3 k3=>?_)
  have rA:Row w3 bA 91 [.map (some r)]:=rA1
  have hrA:r≠bA:=fun e=>by have:=mR.lt;omega
  have mA:MapF w3 r (bF fun _=>false):=by
    have:=(mR.ext xA).kb k3 (fun e=>hrA (Option.some.inj e))
    have e:(bF fun _=>false)=fun _=>none:=by funext j;unfold bF;simp
    rw [e];exact this
  have hrD:wD.heap.size≤r:=by omega
  have hbDlt:=rD.lt
  have rD3:=rD.ext x3
  have hrlt:=mA.lt
  have hAlt:=rA.lt
  clear rA0 rA1 k3 mR
  have X3:=xD.trans x3
  have c1:=mof_any d b _ u2 w3 (hd0.ext X3) (hb.ext X3)
  (repeat' (first|refine eV Z Z (val_loadA Z Z Z rD3.at rfl) ?_|(refine EL_call Z Z (entersF Z Z en67) c1 (fun vC wC hC=>?_);obtain⟨r2,rfl,xC,hr2,mC⟩:=hC)|refine EL_range mC rfl rfl rfl rfl (fun it c w4 hit g4 x4=>?_)|(refine at_EL ?_;first|refine eN ?_|refine eV Z Z (zA Z Z) ?_)|(refine at_K ?_;first|refine K_then ?_)|(refine at_E ?_;first|refine E_seq ?_|refine E_region ?_|refine E_block ?_)))
  have x34:=xC.trans x4
  have hr2lt:=mC.lt
  have hrr2:r≠r2:=by omega
  have hrit:r≠it:=by have:=xC.size;omega
  refine E_loop (ι:=(Int→Bool) × (Int→Prop) × Nat) (fun s=>[(1,u1),(3,.pointer (some ⟨bD,0,none⟩)),(7,.pointer (some ⟨bA,0,none⟩)),(15,.pointer (some ⟨it,0,none⟩))])
    (fun s wr=>Ext wD wr∧Row wr bA 91 [.map (some r)]∧MapF wr r (bF s.1)∧RngF wr r2 it (setF d b) s.2.1 s.2.2∧∀ j,s.1 j=true↔∃ k,(setF d b k).isSome=true∧¬ s.2.1 k∧j∈restL d k) (fun s=>s.2.2) (fun _=>false,fun j=>(setF d b j).isSome=true,c)
    ⟨rfl,rfl,rfl,rfl,trivial⟩ ⟨x3.trans x34,rA.ext x34,mA.ext x34,g4,fun j=>⟨fun e=>(by cases e),fun⟨k,h1,h2,_⟩=>absurd h1 h2⟩⟩ ?_
  rintro⟨p,left,cc⟩ wr ⟨hx,rAr,mr,gr,hpq⟩
  dsimp only at hx rAr mr gr hpq ⊢
  refine E_seq ?_
  refine E_region ?_
  refine EL_next gr rfl rfl rfl rfl (fun hno=>?_) (fun j vj w5 c5 hlj hfj g5 hc5 k5 hsz hen=>?_)
  · have X:=xD.trans hx
    have c2:=mof_any d a _ u1 wr (hd0.ext X) (ha.ext X)
    have rDr:=rD.ext hx
    (repeat' (first|refine eV Z Z (val_loadA Z Z Z rDr.at rfl) ?_|(refine EL_call Z Z (entersF Z Z en67) c2 (fun vC wE hC=>?_);obtain⟨r3,rfl,xE,_,mE⟩:=hC)|refine eV Z Z (val_makeFunc (vs:=[.pointer (some ⟨bA,0,none⟩)]) Z Z) ?_|(refine at_EL ?_;first|refine eN ?_|refine eV Z Z (zA Z Z) ?_|refine eV Z Z (zF Z Z Z) ?_)|(refine at_K ?_;first|refine K_then ?_|refine K_then_exit ?_|refine K_in_exit ?_)|(refine at_E ?_;first|refine E_seq ?_|refine E_region ?_|refine E_cond_f Z ?_|refine E_exit ?_)))
    have XE:=X.trans xE
    have ck:=keep_any h 76 [.pointer (some ⟨bA,0,none⟩)] en76 p a r3 wE mE (fun x wq xq=>hasC_any p bA r x wq ((rAr.ext xE).ext xq) ((mr.ext xE).ext xq))
    have hfin:idsOf d (fun x=>decide (x∈a)&&p x)=idsOf d (hasP d a b):=by
      refine idsOf_congr fun n hn=>?_
      unfold hasP
      rw [has_ids h]
      congr 1
      rw [Bool.eq_iff_iff,hpq,List.any_eq_true]
      constructor
      · rintro⟨k,hk,_,hj⟩
        obtain⟨hkb,hks⟩:=setF_some.1 hk
        obtain⟨m,hm⟩:=Option.isSome_iff_exists.1 hks
        obtain⟨hmn,rfl⟩:=get_some hm
        refine⟨m,hmn,?_⟩
        rw [← chain_rest h hmn,Bool.and_eq_true]
        exact⟨decide_eq_true hkb,decide_eq_true hj⟩
      · rintro⟨m,hm,hh⟩
        rw [Bool.and_eq_true,decide_eq_true_eq,decide_eq_true_eq,← chain_rest h hm] at hh
        exact⟨m.id,setF_some.2 ⟨hh.1,by rw [get_mem (ids_rise h) hm];rfl⟩,hno _,hh.2⟩
    rw [hfin] at ck
    (repeat' (first|(refine EL_call Z Z (entersF Z Z en68) ck (fun vC wF hC=>?_);obtain⟨xF,sF⟩:=hC)|(refine at_EL ?_;first|refine eN ?_|refine eV Z Z (zB Z Z) ?_)|(refine at_K ?_;first|refine K_then ?_)|(refine at_E ?_;first|refine E_ret ?_)))
    exact ret_1 Z Z ⟨XE.trans xF,sF.wk (fun b hb=>by have:=XE.size;unfold Nw at *;omega)⟩
  · have hx5:Ext wD w5:=k5.ext hx (fun b e=>by cases e;have:=(x3.trans xC).size;omega)
    have hjs:=setF_some.1 (show(setF d b j).isSome=true by rw [hfj];rfl)
    obtain⟨m,hm⟩:=Option.isSome_iff_exists.1 hjs.2
    obtain⟨hmn,rfl⟩:=get_some hm
    have X5:=xD.trans hx5
    have rD5:=rD.ext hx5
    have hAit:bA≠it:=by have:=xC.size;omega
    have rA5:Row w5 bA 91 [.map (some r)]:=k5.row rAr (fun e=>hAit (Option.some.inj e))
    have m5:MapF w5 r (bF p):=mr.kb k5 (fun e=>hrit (Option.some.inj e))
    have cch:=chain_any h _ m.id w5 (hd0.ext X5)
    obtain⟨CL,hCL⟩:∃ CL,CL=(chainF d m.id).map (fun n=>n.id):=⟨_,rfl⟩
    rw [show(chainF d m.id).map (·.id)=CL from hCL.symm] at cch
    have hCl1:1≤CL.length:=by rw [hCL,chain_cons h hmn];simp
    have hCl2:CL.length≤1000000:=by
      rw [hCL,List.length_map]
      have h1:=chain_len d.notes (d.tiers.length+1) m.id
      have h2:=h.ntiers
      unfold chainF
      omega
    (repeat' (first|refine eV Z Z (val_entry hen rfl rfl) ?_|refine eV Z Z (val_loadA Z Z Z rD5.at rfl) ?_|(refine EL_call Z Z (entersF Z Z en75) cch (fun vL wL hC=>?_);obtain⟨xL,sL⟩:=hC;obtain⟨la,lc,rfl,hlc,_,_⟩:=sL.sl)|refine eV Z Z (val_slice_l (b:=1) Z Z Z Z hCl1) ?_|(refine at_EL ?_;first|refine eN ?_|refine eV Z Z (zA Z Z) ?_|refine eV Z Z (zB Z Z) ?_|(refine at_call ?_;first|refine eV Z Z (zK Z Z) ?_)|refine eV Z Z (zF Z Z Z) ?_)|(refine at_K ?_;first|refine K_then ?_)|(refine at_E ?_;first|refine E_seq ?_|refine E_region ?_|refine E_cond_t Z ?_|refine E_block ?_|refine E_skip ?_)))
    have sR:=sL.drop hCl1
    obtain⟨RL,hRL⟩:∃ RL,RL=CL.drop 1:=⟨_,rfl⟩
    rw [← hRL] at sR
    have hRlen:CL.length-1=RL.length:=by rw [hRL,List.length_drop]
    have hRR:RL=restL d m.id:=by rw [hRL,hCL];rfl
    have rA6:=rA5.ext xL
    have m6:=m5.ext xL
    have g6:=g5.ext xL
    obtain⟨X,hX⟩:∃ X,X=(if lc=1 then la else Option.map (fun x=>x.add (1*1)) la):=⟨_,rfl⟩
    have sR0:SlG Tt wL (.slice X (CL.length-1) (lc-1)) RL:=by rw [hX];exact sR
    clear sR
    try rw [← hX]
    rw [hRlen] at sR0 ⊢
    obtain⟨_,_,hXe,hlc2,_,hXp⟩:=sR0.sl
    cases hXe
    refine E_loop (ι:=Nat) (fun i=>[(1,u1),(3,.pointer (some ⟨bD,0,none⟩)),(7,.pointer (some ⟨bA,0,none⟩)),(15,.pointer (some ⟨it,0,none⟩)),(23,.slice X RL.length (lc-1)),(24,int RL.length),(25,int i)])
      (fun i ww=>i≤RL.length∧Ext wD ww∧SlG Tt ww (.slice X RL.length (lc-1)) RL∧Row ww bA 91 [.map (some r)]∧MapF ww r (bF fun j=>p j||decide (j∈RL.take i))∧RngF ww r2 it (setF d b) (fun i=>left i∧i≠m.id) c5) (fun i=>RL.length-i) 0
      ⟨rfl,rfl,rfl,rfl,rfl,rfl,rfl,trivial⟩ ⟨Nat.zero_le _,hx5.trans xL,sR0,rA6,by simpa using m6,g6⟩ ?_
    rintro i ww ⟨hi,hxw,sRw,rAw,mw,gw⟩
    by_cases hlt:i<RL.length
    · obtain⟨bb,off,rfl⟩:=hXp (by omega)
      obtain⟨x,hx1⟩:∃ x,RL[i]?=some x:=⟨_,List.getElem?_eq_getElem hlt⟩
      have hcx:=int_elem sRw hx1
      have hgb:=sRw.old
      (repeat' (first|refine eV Z Z (val_indexAddr (m:=i) Z Z Z Z hlt) ?_|refine eV Z Z (val_load Z Z Z hcx) ?_|refine eV Z Z (val_load Z Z Z (rAw.cellAt rfl)) ?_|refine EL_mapUpdate mw rfl rfl rfl rfl rfl rfl (fun wU mU kU=>?_)|(refine at_EL ?_;first|refine eN ?_|refine eV Z Z (zA Z Z) ?_|refine eV Z Z (zB Z Z) ?_|(refine at_bin ?_;first|refine eD Z Z (zL Z Z Z) (fun hh=>?_) (fun hh=>?_)|refine eV Z Z (zU Z Z Z (by omega) (by omega)) ?_))|(refine at_K ?_;first|refine K_then ?_|refine K_in ?_|refine K_then_exit ?_|refine K_in_exit ?_)|(refine at_E ?_;first|refine E_seq ?_|refine E_region ?_|refine E_cond_t Z ?_|refine E_cond_f Z ?_|refine E_block ?_|refine E_skip ?_|refine E_exit ?_)))
      all_goals (first|(exfalso;omega)|skip)
      have hmb:bb≠r:=map_cell_ne mw hcx
      refine K_rnd (i+1) ⟨rfl,rfl,rfl,rfl,rfl,rfl,rfl,trivial⟩ ⟨by omega,kU.ext hxw (fun b e=>by cases e;exact hrD),?_,kU.row rAw (fun e=>hrA (Option.some.inj e).symm),?_,gw.kb kU (fun e=>hrr2 (Option.some.inj e).symm) (fun e=>hrit (Option.some.inj e).symm)⟩ (by omega)
      · exact ints_same sRw (World.grownBy.block kU bb (World.block_lt_of_cell? _ _ hcx) (fun e=>hmb (Option.some.inj e)))
      · rw [bF_or] at mU
        have:(fun j=>(p j||decide (j∈RL.take i))||decide (j=x))=fun j=>p j||decide (j∈RL.take (i+1)):=by
          funext j
          rw [Bool.or_assoc]
          congr 1
          rw [Bool.eq_iff_iff,Bool.or_eq_true,decide_eq_true_eq,decide_eq_true_eq,decide_eq_true_eq]
          exact(mem_take_succ hx1 j).symm
        rw [this] at mU
        exact mU
    · obtain rfl:i=RL.length:=by omega
      rw [List.take_length] at mw
      (repeat' (first|(refine at_EL ?_;first|refine eN ?_|(refine at_bin ?_;first|refine eD Z Z (zL Z Z Z) (fun hh=>?_) (fun hh=>?_)))|(refine at_K ?_;first|refine K_then ?_|refine K_in ?_|refine K_then_exit ?_|refine K_in_exit ?_)|(refine at_E ?_;first|refine E_seq ?_|refine E_region ?_|refine E_cond_t Z ?_|refine E_cond_f Z ?_|refine E_block ?_|refine E_skip ?_|refine E_exit ?_)))
      all_goals (first|(exfalso;omega)|skip)
      refine K_rnd (fun j=>p j||decide (j∈RL),_,c5) ⟨rfl,rfl,rfl,rfl,trivial⟩ ⟨hxw,rAw,mw,gw,fun j=>?_⟩ hc5
      dsimp only
      rw [Bool.or_eq_true,decide_eq_true_eq,hpq,hRR]
      constructor
      · rintro(⟨k,h1,h2,h3⟩|hj)
        · exact⟨k,h1,fun hk=>h2 hk.1,h3⟩
        · exact⟨m.id,by rw [hfj];rfl,fun hk=>hk.2 rfl,hj⟩
      · rintro⟨k,h1,h2,h3⟩
        by_cases e:k=m.id
        · exact .inr (e▸h3)
        · exact .inl ⟨k,h1,fun hk=>h2 ⟨hk,e⟩,h3⟩
end Go.Proofs.YtnifmbbpfdghmaaGreatDoor
