/-
  Walks of align: Where, of both.
-/
import Derived.Test.YtnifmbbpfdghmaaGreatDoorWl
import Derived.Test.YtnifmbbpfdghmaaGreatDoorY3
set_option linter.all false
namespace Go.Proofs.YtnifmbbpfdghmaaGreatDoor
open Go.RowKit Go.En
def whereV (d:Dc) (id:Int):Value:=.tuple #[.agg #[int (spanF d id).1,int (spanF d id).2],.bool (whereF d id).isSome]
theorem span_some {d:Dc} {id:Int} {p:Note} (h:whereF d id=some p):whereV d id=.tuple #[.agg #[int p.frm,int p.til],.bool true]:=by
  unfold whereV spanF;rw [h];rfl
theorem span_none {d:Dc} {id:Int} (h:whereF d id=none):whereV d id=.tuple #[.agg #[int 0,int 0],.bool false]:=by
  unfold whereV spanF;rw [h];rfl
attribute [local irreducible] E EL K Val Enters Rt Calls bodyPost Code.wp RQ
set_option maxHeartbeats 4000000 in
set_option maxRecDepth 8000 in
theorem where_any {d:Dc} (h:LightD d) (v:Value) (id:Int) (w:World) (hv:DcAt w v d):Calls Tryz.prog 60 #[v,int id] w (Rt fun u w'=>u=whereV d id∧Ext w w'):=by
  have hd0:=hv
  obtain⟨sv,tv,nv,rfl,_,ht,hn⟩:=hv
  refine calls_E (n:=35) (args:=[.agg #[int d.rid,str d.rname,int d.len,int d.day,sv,tv,nv],int id]) Tryz.func60 rfl Tryz.ntmps60 (by simp) ?_
  refine E_seq ?_
  refine E_region ?_
  refine EL_box Z Z Z Z (fun bD wD xD hbD rD0=>?_)
  refine EL_alloc Z Z Z (fun bA wA xA hbA rA0=>?_)
  have rD:Row wA bD 28 [int d.rid,str d.rname,int d.len,int d.day,sv,tv,nv]:=rD0.ext xA
  have rA:Row wA bA 72 [int 0,int 0]:=rA0
  have hX:=xD.trans xA
  clear rD0 rA0
  have hbAw:w.heap.size≤bA:=by have:=xD.size;omega
  have cg:=tget_any d _ id wA (hd0.ext hX)
  rw [getR_cur] at cg
  (repeat' (first|refine eV Z Z (val_loadA Z Z Z rD.at rfl) ?_|(refine EL_call Z Z (entersF Z Z en82) cg (fun vC wC hC=>?_);obtain⟨rfl,xC⟩:=hC)|(refine at_EL ?_;first|refine eN ?_|refine eV Z Z (zA Z Z) ?_|refine eV Z Z (zB Z Z) ?_|refine eV Z Z (zF Z Z Z) ?_)|(refine at_K ?_;first|refine K_then ?_)|(refine at_E ?_;first|refine E_seq ?_|refine E_region ?_)))
  refine EL_alloc Z Z Z (fun bP wP xP hbP rP0=>?_)
  refine EL_storeP (cs:=noteC (curN d.notes id)) rP0 (xC.trans xP) (by have:=xC.size;omega) Z Z Z Z Z Z Z Z (Nat.le_refl _) (fun w3 rP1 x3 k3=>?_)
  have rP:Row w3 bP 74 (noteC (curN d.notes id)):=rP1
  have hbPA:wA.heap.size≤bP:=by have:=xC.size;omega
  clear rP0 rP1 k3 cg
  (repeat' (first|(refine at_EL ?_;first|refine eN ?_|refine eV Z Z (zB Z Z) ?_)|(refine at_K ?_;first|refine K_then ?_)|(refine at_E ?_;first|refine E_seq ?_|refine E_block ?_)))
  refine E_loop (ι:=Int) (fun q=>[(2,.pointer (some ⟨bD,0,none⟩)),(4,.pointer (some ⟨bA,0,none⟩)),(6,.pointer (some ⟨bP,0,none⟩)),(7,.bool (getF d.notes q).isSome)])
    (fun q wr=>Ext wA wr∧Row wr bP 74 (noteC (curN d.notes q))∧whereF d q=whereF d id) (fun q=>(chainF d q).length) id
    ⟨rfl,rfl,rfl,rfl,trivial⟩ ⟨x3,rP,rfl⟩ ?_
  rintro q wr ⟨hx,rPr,hwq⟩
  have rDr:=rD.ext hx
  have rAr:=rA.ext hx
  have hXr:=hX.trans hx
  cases hg:getF d.notes q with
  | none=>
    (repeat' (first|refine eV Z Z (val_build (vs:=[]) [int 0,int 0] rfl rfl rfl) ?_|(refine at_EL ?_;first|refine eN ?_|refine eO Z Z ?_|refine eV Z Z (zA Z Z) ?_|refine eV Z Z (zD Z Z Z) ?_|refine eV Z Z (zE Z Z) ?_)|(refine at_K ?_;first|refine K_then ?_|refine K_then_exit ?_|refine K_in_exit ?_)|(refine at_E ?_;first|refine E_seq ?_|refine E_region ?_|refine E_cond_t Z ?_|refine E_cond_f Z ?_|refine E_exit ?_)))
    refine EL_storeP (cs:=[int 0,int 0]) rAr hXr hbAw rfl rfl rfl rfl rfl rfl rfl rfl (Nat.le_refl _) (fun w9 r9 x9 k9=>?_)
    (repeat' (first|(refine at_EL ?_;first|refine eN ?_|refine eV Z Z (zB Z Z) ?_)|(refine at_K ?_;first|refine K_then ?_|refine K_then_ret ?_)|(refine at_E ?_;first|refine E_ret ?_)))
    exact ret_ct Z Z Z r9.at rfl rfl ⟨by rw [span_none (hwq▸where_none hg)];rfl,x9⟩
  | some p=>
    obtain⟨hpm,hpi⟩:=get_some hg
    have hcp:curN d.notes q=p:=by unfold curN;rw [hg];rfl
    rw [hcp] at rPr
    have ca:=ttAligned_any d tv p.tier wr (ht.ext hXr)
    cases hal:alignedB d p.tier with
    | true=>
      rw [hal] at ca
      (repeat' (first|refine eV Z Z (val_load Z Z Z (rDr.cellAt rfl)) ?_|refine eV Z Z (val_load Z Z Z (rPr.cellAt rfl)) ?_|(refine EL_call Z Z (entersF Z Z en103) ca (fun vE wE hE=>?_);obtain⟨rfl,xE⟩:=hE)|(refine at_EL ?_;first|refine eN ?_|refine eV Z Z (zA Z Z) ?_|refine eV Z Z (zC Z Z Z) ?_|refine eV Z Z (zE Z Z) ?_|refine eV Z Z (zH Z Z) ?_)|(refine at_K ?_;first|refine K_then ?_|refine K_then_exit ?_|refine K_in_exit ?_)|(refine at_E ?_;first|refine E_seq ?_|refine E_region ?_|refine E_cond_f Z ?_|refine E_skip ?_|refine E_exit ?_)))
      have rPe:=rPr.ext xE
      have at3:At wE bP (0+3) [int p.frm,int p.til]:=rPe.at.seg 3 (n:=2)
      (repeat' (first|refine eV Z Z (val_loadA Z Z Z at3 rfl) ?_))
      refine EL_storeP (cs:=[int p.frm,int p.til]) (rAr.ext xE) (hXr.trans xE) hbAw rfl rfl rfl rfl rfl rfl rfl rfl (Nat.le_refl _) (fun w9 r9 x9 k9=>?_)
      (repeat' (first|(refine at_EL ?_;first|refine eN ?_|refine eV Z Z (zB Z Z) ?_)|(refine at_K ?_;first|refine K_then ?_)|(refine at_E ?_;first|refine E_ret ?_)))
      refine ret_ct Z Z Z r9.at rfl rfl ⟨?_,x9⟩
      have:=where_pos h hpm hal
      rw [hpi,hwq] at this
      rw [span_some this];rfl
    | false=>
      rw [hal] at ca
      (repeat' (first|refine eV Z Z (val_load Z Z Z (rDr.cellAt rfl)) ?_|refine eV Z Z (val_load Z Z Z (rPr.cellAt rfl)) ?_|(refine EL_call Z Z (entersF Z Z en103) ca (fun vE wE hE=>?_);obtain⟨rfl,xE⟩:=hE)|(refine at_EL ?_;first|refine eN ?_|refine eV Z Z (zA Z Z) ?_|refine eV Z Z (zC Z Z Z) ?_|refine eV Z Z (zE Z Z) ?_|refine eV Z Z (zH Z Z) ?_)|(refine at_K ?_;first|refine K_then ?_)|(refine at_E ?_;first|refine E_seq ?_|refine E_region ?_|refine E_cond_t Z ?_|refine E_block ?_|refine E_skip ?_)))
      have rPe:=rPr.ext xE
      have rDe:=rDr.ext xE
      have cg2:=tget_any d _ p.parent wE (hd0.ext (hXr.trans xE))
      rw [getR_cur] at cg2
      (repeat' (first|refine eV Z Z (val_loadA Z Z Z rDe.at rfl) ?_|refine eV Z Z (val_load Z Z Z (rPe.cellAt rfl)) ?_|(refine EL_call Z Z (entersF Z Z en82) cg2 (fun vC wC2 hC=>?_);obtain⟨rfl,xC2⟩:=hC)|(refine at_EL ?_;first|refine eV Z Z (zA Z Z) ?_|refine eV Z Z (zF Z Z Z) ?_|refine eV Z Z (zH Z Z) ?_)))
      refine EL_storeP (cs:=noteC (curN d.notes p.parent)) (rPe.ext xC2) (hx.trans (xE.trans xC2)) hbPA rfl rfl rfl rfl rfl rfl rfl rfl (Nat.le_refl _) (fun w5 rP5 x5 k5=>?_)
      have rP5':Row w5 bP 74 (noteC (curN d.notes p.parent)):=rP5
      clear rP5
      (repeat' (first|(refine at_EL ?_;first|refine eN ?_|refine eV Z Z (zB Z Z) ?_)|(refine at_K ?_;first|refine K_in ?_)))
      refine K_rnd p.parent ⟨rfl,rfl,rfl,rfl,trivial⟩ ⟨x5,rP5',?_⟩ ?_
      · have:=where_neg h hpm hal
        rw [hpi] at this
        rw [← this,hwq]
      · have:=chain_cons h hpm
        rw [hpi] at this
        rw [this];simp
set_option maxHeartbeats 4000000 in
set_option maxRecDepth 8000 in
theorem refwhere_any {d:Dc} (h:LightD d) (v:Value) (id:Int) (w:World) (hv:DcAt w v d):Calls Tryz.prog 114 #[v,int id] w (Rt fun u w'=>u=whereV d id∧Ext w w'):=by
  have hd0:=hv
  obtain⟨sv,tv,nv,rfl,_,ht,hn⟩:=hv
  refine calls_E (n:=36) (args:=[.agg #[int d.rid,str d.rname,int d.len,int d.day,sv,tv,nv],int id]) Tryz.func114 rfl Tryz.ntmps114 (by simp) ?_
  refine E_seq ?_
  refine E_region ?_
  refine EL_box Z Z Z Z (fun bD wD xD hbD rD0=>?_)
  refine EL_alloc Z Z Z (fun bA wA xA hbA rA0=>?_)
  have rD:Row wA bD 28 [int d.rid,str d.rname,int d.len,int d.day,sv,tv,nv]:=rD0.ext xA
  have rA:Row wA bA 72 [int 0,int 0]:=rA0
  have hX:=xD.trans xA
  clear rD0 rA0
  have hbAw:w.heap.size≤bA:=by have:=xD.size;omega
  have cg:=refchain_any h _ id wA (hd0.ext hX)
  obtain⟨C,hC⟩:∃ C,C=chainF d id:=⟨_,rfl⟩
  obtain⟨I,hI⟩:∃ I:List Int,I=C.map (fun n=>n.id):=⟨_,rfl⟩
  rw [← hC,← hI] at cg
  have hIl:I.length=C.length:=by rw [hI,List.length_map]
  have hCm:∀ m∈C,m∈d.notes:=fun m hm=>chain_id _ m (by rw [hC] at hm;exact hm)
  (repeat' (first|refine eV Z Z (val_loadA Z Z Z rD.at rfl) ?_|(refine EL_call Z Z (entersF Z Z en77) cg (fun vC wC hC=>?_);obtain⟨xC,sC⟩:=hC)|(refine at_EL ?_;first|refine eN ?_|refine eV Z Z (zA Z Z) ?_|refine eV Z Z (zB Z Z) ?_)|(refine at_K ?_;first|refine K_then ?_)|(refine at_E ?_;first|refine E_seq ?_|refine E_region ?_|refine E_block ?_)))
  have sC0:=sC
  obtain⟨a,cap,rfl,hc,hm,hp⟩:=sC.sl
  refine E_loop (ι:=Nat) (fun i=>[(2,.pointer (some ⟨bD,0,none⟩)),(4,.pointer (some ⟨bA,0,none⟩)),(6,.slice a I.length cap),(7,int i)])
    (fun i wr=>i≤C.length∧Ext wC wr∧∀ j,j<i→∀ m,C[j]?=some m→alignedB d m.tier=false) (fun i=>C.length-i) 0
    ⟨rfl,rfl,rfl,rfl,trivial⟩ ⟨Nat.zero_le _,Ext.refl _,fun j hj=>by omega⟩ ?_
  rintro i wr ⟨hi,hx,hall⟩
  have rDr:=(rD.ext xC).ext hx
  have rAr:=(rA.ext xC).ext hx
  have hXr:=hX.trans (xC.trans hx)
  by_cases hlt:i<C.length
  · obtain⟨b,off,rfl⟩:=hp (by omega)
    obtain⟨m,hm1⟩:∃ m,C[i]?=some m:=⟨_,List.getElem?_eq_getElem hlt⟩
    have hmI:I[i]?=some m.id:=by rw [hI,List.getElem?_map,hm1];rfl
    have hmn:=hCm m (List.mem_of_getElem? hm1)
    have hcx:=int_elem (sC0.ext hx) hmI
    have cget:∀ wq,Ext wr wq→Calls Tryz.prog 59 #[.agg #[int d.rid,str d.rname,int d.len,int d.day,sv,tv,nv],int m.id] wq (Rt fun u w'=>u=.tuple #[.agg (noteC m).toArray,.bool true]∧Ext wq w'):=fun wq xq=>by
      have:=get_any d _ m.id wq (hd0.ext (hXr.trans xq))
      rw [getR_val (get_mem (ids_rise h) hmn)] at this
      exact this
    (repeat' ((fail_if_success (refine E_seq (x:=(Code.region 5 _ _)) ?_));first|(refine at_EL ?_;first|refine eN ?_|refine eV Z Z (zA Z Z) ?_|(refine at_bin ?_;first|refine eD Z Z (zL Z Z Z) (fun hh=>?_) (fun hh=>?_))|(refine at_call ?_;first|refine eV Z Z (zK Z Z) ?_))|(refine at_K ?_;first|refine K_then ?_|refine K_then_exit ?_|refine K_in_exit ?_)|(refine at_E ?_;first|refine E_seq ?_|refine E_region ?_|refine E_cond_t Z ?_|refine E_cond_f Z ?_|refine E_block ?_|refine E_skip ?_|refine E_exit ?_)))
    all_goals (first|(exfalso;omega)|skip)
    refine E_seq ?_
    refine E.sub (M:=[(2,.pointer (some ⟨bD,0,none⟩)),(4,.pointer (some ⟨bA,0,none⟩)),(6,.slice (some ⟨b,off,none⟩) I.length cap),(7,int i)]) ⟨rfl,rfl,rfl,rfl,trivial⟩ ?_
    refine E_one 9 10 8 26 (noteC m) [some (20,.agg #[int d.rid,str d.rname,int d.len,int d.day,sv,tv,nv]),some (21,.slice (some ⟨b,off,none⟩) I.length cap),some (22,int i),some (23,.pointer (some ⟨b,off+i*1,none⟩)),some (24,int m.id),
      some (25,.tuple #[.agg (noteC m).toArray,.bool true]),some (19,.tuple #[.agg (noteC m).toArray,.bool true]),some (26,.agg (noteC m).toArray),some (27,.bool true),none,none,some (9,.bool true)] mixedOk (by kernel_rfl) rfl rfl rfl rfl rfl rfl rfl rfl (by decide) rfl rfl rfl rfl rfl
      ⟨vcV fun wq xq=>val_loadA Z Z Z (rDr.ext xq).at rfl,vcV fun _ _=>zA Z Z,vcV fun _ _=>zA Z Z,vcV fun _ _=>val_indexAddr (m:=i) Z Z Z Z (by omega),vcV fun wq xq=>val_load Z Z Z (xq.cell hcx),
        vcC (fun _ _=>entersF Z Z en59) (fun wq xq=>cget wq xq),vcV fun _ _=>zA Z Z,vcV fun _ _=>zF Z Z Z,vcV fun _ _=>zF Z Z Z,vcV fun _ _=>zB Z Z,trivial⟩ (fun b8 w1 x1 hge8 r1=>?_)
    refine K.sub (M:=[(2,.pointer (some ⟨bD,0,none⟩)),(4,.pointer (some ⟨bA,0,none⟩)),(6,.slice (some ⟨b,off,none⟩) I.length cap),(7,int i),(8,.pointer (some ⟨b8,0,none⟩)),(9,.bool true)]) ⟨rfl,rfl,rfl,rfl,rfl,rfl,trivial⟩ ?_
    have r8':Row w1 b8 74 (noteC m):=r1
    clear r1
    have rD1:=rDr.ext x1
    have ca:=refAligned_any d tv m.tier w1 (ht.ext (hXr.trans x1))
    cases hal:alignedB d m.tier with
    | true=>
      rw [hal] at ca
      (repeat' (first|refine eV Z Z (val_load Z Z Z (rD1.cellAt rfl)) ?_|refine eV Z Z (val_load Z Z Z (r8'.cellAt rfl)) ?_|(refine EL_call Z Z (entersF Z Z en150) ca (fun vE wE hE=>?_);obtain⟨rfl,xE⟩:=hE)|(refine at_EL ?_;first|refine eN ?_|refine eV Z Z (zH Z Z) ?_)|(refine at_K ?_;first|refine K_then ?_)|(refine at_E ?_;first|refine E_seq ?_|refine E_region ?_|refine E_cond_t Z ?_)))
      have at3:At wE b8 (0+3) [int m.frm,int m.til]:=(r8'.ext xE).at.seg 3 (n:=2)
      (repeat' (first|refine eV Z Z (val_loadA Z Z Z at3 rfl) ?_))
      refine EL_storeP (cs:=[int m.frm,int m.til]) (rAr.ext (x1.trans xE)) (hXr.trans (x1.trans xE)) hbAw rfl rfl rfl rfl rfl rfl rfl rfl (Nat.le_refl _) (fun w9 r9 x9 k9=>?_)
      (repeat' (first|(refine at_EL ?_;first|refine eN ?_|refine eV Z Z (zB Z Z) ?_)|(refine at_K ?_;first|refine K_then ?_|refine K_then_ret ?_|refine K_in_ret ?_)|(refine at_E ?_;first|refine E_ret ?_)))
      refine ret_ct Z Z Z r9.at rfl rfl ⟨?_,x9⟩
      have hf:whereF d id=some m:=by
        unfold whereF
        rw [← hC]
        exact find_here hall hm1 hal
      rw [span_some hf];rfl
    | false=>
      rw [hal] at ca
      (repeat' (first|refine eV Z Z (val_load Z Z Z (rD1.cellAt rfl)) ?_|refine eV Z Z (val_load Z Z Z (r8'.cellAt rfl)) ?_|(refine EL_call Z Z (entersF Z Z en150) ca (fun vE wE hE=>?_);obtain⟨rfl,xE⟩:=hE)|(refine at_EL ?_;first|refine eN ?_|refine eV Z Z (zA Z Z) ?_|refine eV Z Z (zB Z Z) ?_|(refine at_bin ?_;first|refine eV Z Z (zU Z Z Z (by omega) (by omega)) ?_)|refine eV Z Z (zH Z Z) ?_)|(refine at_K ?_;first|refine K_then ?_|refine K_in ?_)|(refine at_E ?_;first|refine E_seq ?_|refine E_region ?_|refine E_cond_f Z ?_|refine E_skip ?_)))
      exact K_rnd (i+1) ⟨rfl,rfl,rfl,rfl,trivial⟩ ⟨by omega,hx.trans (x1.trans xE),fun j hj m' hm'=>by
        by_cases hj2:j<i
        · exact hall j hj2 m' hm'
        · obtain rfl:j=i:=by omega
          rw [hm1] at hm';cases hm'
          exact hal⟩ (by omega)
  · (repeat' (first|refine eV Z Z (val_build (vs:=[]) [int 0,int 0] rfl rfl rfl) ?_|(refine at_EL ?_;first|refine eN ?_|refine eV Z Z (zA Z Z) ?_|(refine at_bin ?_;first|refine eD Z Z (zL Z Z Z) (fun hh=>?_) (fun hh=>?_))|(refine at_call ?_;first|refine eV Z Z (zK Z Z) ?_))|(refine at_K ?_;first|refine K_then ?_|refine K_then_exit ?_|refine K_in_exit ?_)|(refine at_E ?_;first|refine E_seq ?_|refine E_region ?_|refine E_cond_t Z ?_|refine E_cond_f Z ?_|refine E_block ?_|refine E_skip ?_|refine E_exit ?_)))
    all_goals (first|(exfalso;omega)|skip)
    refine EL_storeP (cs:=[int 0,int 0]) rAr hXr hbAw rfl rfl rfl rfl rfl rfl rfl rfl (Nat.le_refl _) (fun w9 r9 x9 k9=>?_)
    (repeat' (first|(refine at_EL ?_;first|refine eN ?_|refine eV Z Z (zB Z Z) ?_)|(refine at_K ?_;first|refine K_then ?_)|(refine at_E ?_;first|refine E_ret ?_)))
    refine ret_ct Z Z Z r9.at rfl rfl ⟨?_,x9⟩
    have hf:whereF d id=none:=by
      unfold whereF
      rw [← hC,List.find?_eq_none]
      intro m hm2
      obtain⟨j,hj⟩:=List.getElem?_of_mem hm2
      have:=(List.getElem?_eq_some_iff.1 hj).1
      simpa using hall j (by omega) m hj
    rw [span_none hf];rfl
end Go.Proofs.YtnifmbbpfdghmaaGreatDoor
