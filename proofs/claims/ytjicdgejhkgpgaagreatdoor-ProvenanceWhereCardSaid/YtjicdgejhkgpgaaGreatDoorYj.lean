/-
  Walks: the reference's copies of documents and statements (printed by tools/gen_copy.py). Walks: the reference's Get of entries, Forms, form. Walks: the reference's find, way, Senses. A region that draws its order, with operations that write or make memory one behind the other ('x[i], x[j] = x[j], x[i]', 'm[k] = append(m[k], v)'): in every order.
  'ss': those operations, in their order; 'ws q': the world when q of them are done; 'rg': of each other operation, when it can run. A region that draws its order, by what holds when some of its operations are done (a predicate of one's own).
-/
import Derived.Test.YtjicdgejhkgpgaaGreatDoorYi
import Derived.Test.YtjicdgejhkgpgaaGreatDoorYe
import Derived.Test.YtjicdgejhkgpgaaGreatDoorYf
set_option linter.all false
namespace Go.Proofs.YtjicdgejhkgpgaaGreatDoor
open Go.RowKit Go.En Go.Pv
instance:Rep Dc where
  sz:=7
  pos:=by decide
  at_ G w d cs:=∃ sv tv nv,cs=[int d.rid,str d.rname,int d.len,int d.day,sv,tv,nv]∧SlG G w sv d.sp∧SlG G w tv d.tiers∧SlG G w nv d.notes
  len h:=by obtain⟨sv,tv,nv,rfl,_⟩:=h;rfl
  one h:=by obtain⟨sv,tv,nv,rfl,⟨_,_,rfl,_⟩,⟨_,_,rfl,_⟩,⟨_,_,rfl,_⟩⟩:=h;rfl
  move h hm:=by obtain⟨sv,tv,nv,rfl,h1,h2,h3⟩:=h;exact⟨sv,tv,nv,rfl,h1.move hm,h2.move hm,h3.move hm⟩
theorem dc_elem {G:Nat→Prop} {w:World} {b off n cap:Nat} {xs:List Dc} (h:SlG G w (.slice (some ⟨b,off,none⟩) n cap) xs) {i:Nat} {d:Dc} (hx:xs[i]?=some d) :
    ∃ a1 c1 a2 c2 a3 c3,At w b (off+i*7) [int d.rid,str d.rname,int d.len,int d.day,.slice a1 d.sp.length c1,.slice a2 d.tiers.length c2,.slice a3 d.notes.length c3]∧Rep.at_ G w d [int d.rid,str d.rname,int d.len,int d.day,.slice a1 d.sp.length c1,.slice a2 d.tiers.length c2,.slice a3 d.notes.length c3]:=by
  obtain⟨cs,⟨sv,tv,nv,rfl,h1,h2,h3⟩,hat⟩:=h.elem hx
  obtain⟨a1,c1,rfl,_⟩:=h1.sl
  obtain⟨a2,c2,rfl,_⟩:=h2.sl
  obtain⟨a3,c3,rfl,_⟩:=h3.sl
  exact⟨a1,c1,a2,c2,a3,c3,hat,_,_,_,rfl,h1,h2,h3⟩
theorem dc_at {G:Nat→Prop} {w:World} {d:Dc} {X:List Value} (h:Rep.at_ G w d X):DcAt w (.agg X.toArray) d:=by
  obtain⟨sv,tv,nv,rfl,h1,h2,h3⟩:=h
  exact⟨sv,tv,nv,rfl,h1.any,h2.any,h3.any⟩
instance:Flat Tier:=⟨fun _ _ _ _ _ _ h=>h⟩
instance:Flat Note:=⟨fun _ _ _ _ _ _ h=>h⟩
attribute [local irreducible] E EL K Val Enters Rt Calls bodyPost Code.wp RQ
set_option maxHeartbeats 4000000 in
set_option maxRecDepth 8000 in
theorem dcopy50_any (d:Dc) (b0:d.sp.length≤1000000) (b1:d.tiers.length≤1000000) (b2:d.notes.length≤1000000) (X:List Value) (w:World) (h:Rep.at_ Tt w d X) :
    Calls Tryz.prog 50 #[.agg X.toArray] w (Rt fun u w'=>Ext w w'∧∃ Y:List Value,u=.agg Y.toArray∧Rep.at_ (fun b=>w.heap.size≤b) w' d Y):=by
  obtain⟨sv,tv,nv,rfl,h0,h1,h2⟩:=h
  obtain⟨a0,c0,rfl,_⟩:=h0.sl
  obtain⟨a1,c1,rfl,_⟩:=h1.sl
  obtain⟨a2,c2,rfl,_⟩:=h2.sl
  refine calls_E (n:=21) (args:=[.agg #[int d.rid,str d.rname,int d.len,int d.day,.slice a0 d.sp.length c0,.slice a1 d.tiers.length c1,.slice a2 d.notes.length c2] ]) Tryz.func50 rfl Tryz.ntmps50 (by simp) ?_
  refine E_seq ?_
  refine E_region ?_
  refine EL_boxA Z Z Z Z (fun bB wB xB hbB rB=>?_)
  refine EL_alloc Z Z Z (fun bA wA xA hbA rA=>?_)
  have hBl:=rB.lt
  replace rB:=rB.ext xA
  have hX:=xB.trans xA
  have hwB:w.heap.size≤bB:=by omega
  have hwA:w.heap.size≤bA:=by have:=xB.size;omega
  have hBA:bB≠bA:=by omega
  have hBu:=rB.lt
  have hAu:=rA.lt
  replace h0:SlG (fun b=>b≠bB∧b≠bA) wA _ _:=h0.move fun b _ hb=>⟨⟨by omega,by omega⟩,hX.block hb⟩
  replace h1:SlG (fun b=>b≠bB∧b≠bA) wA _ _:=h1.move fun b _ hb=>⟨⟨by omega,by omega⟩,hX.block hb⟩
  replace h2:SlG (fun b=>b≠bB∧b≠bA) wA _ _:=h2.move fun b _ hb=>⟨⟨by omega,by omega⟩,hX.block hb⟩
  refine EL_nil ?_
  refine K_then ?_
  (repeat' ((fail_if_success (refine E_seq (x:=(Code.region 2 _ _)) ?_));first|(refine eL Z Z Z Z Z Z Z Z (fun bS wS xS hbS rS=>?_);have rBS:=rB.ext xS)|refine eV Z Z (val_load Z Z Z (Row.cellAt (by assumption) (by rfl))) ?_|(refine EL_cpy (G':=Gn w.heap.size bB bA) h0 xS rS (by omega) (fun b hb=>⟨by omega,by omega,by omega⟩) Z Z Z Z Z Z Z (by omega) (fun vJ wJ sJ xJ=>?_);obtain⟨af,cf,rfl,_,_,_⟩:=sJ.sl)|(refine EL_storeP (cs:=[_]) (rB.ext xJ) (hX.trans xJ) hwB rfl rfl rfl rfl rfl rfl rfl rfl (by simp) (fun uN rN xN kN=>?_))|(refine at_EL ?_;first|refine eN ?_|refine eV Z Z (zH Z Z) ?_)|(refine at_K ?_;first|refine K_then ?_)|(refine at_E ?_;first|refine E_seq ?_|refine E_region ?_)))
  replace rB:Row uN bB 72 [int d.rid,str d.rname,int d.len,int d.day,.slice af d.sp.length cf,.slice a1 d.tiers.length c1,.slice a2 d.notes.length c2]:=rN
  replace rA:=kN.row (rA.ext xJ) (fun e=>by cases e;omega)
  replace hX:=xN
  replace h1:=(h1.ext xJ).move (kN.mv fun b hb e=>by cases e;exact hb.1 rfl)
  replace h2:=(h2.ext xJ).move (kN.mv fun b hb e=>by cases e;exact hb.1 rfl)
  replace h0:=sJ.move (kN.mv fun b hb e=>by cases e;exact hb.2.1 rfl)
  have hBu:=rB.lt
  have hAu:=rA.lt
  clear rN
  (repeat' ((fail_if_success (refine E_seq (x:=(Code.region 3 _ _)) ?_));first|(refine eL Z Z Z Z Z Z Z Z (fun bS wS xS hbS rS=>?_);have rBS:=rB.ext xS)|refine eV Z Z (val_load Z Z Z (Row.cellAt (by assumption) (by rfl))) ?_|(refine EL_cpy (G':=Gn w.heap.size bB bA) h1 xS rS (by omega) (fun b hb=>⟨by omega,by omega,by omega⟩) Z Z Z Z Z Z Z (by omega) (fun vJ wJ sJ xJ=>?_);obtain⟨ak,ck,rfl,_,_,_⟩:=sJ.sl)|(refine EL_storeP (cs:=[_]) (rB.ext xJ) (hX.trans xJ) hwB rfl rfl rfl rfl rfl rfl rfl rfl (by simp) (fun uN rN xN kN=>?_))|(refine at_EL ?_;first|refine eN ?_|refine eV Z Z (zH Z Z) ?_)|(refine at_K ?_;first|refine K_then ?_)|(refine at_E ?_;first|refine E_seq ?_|refine E_region ?_)))
  replace rB:Row uN bB 72 [int d.rid,str d.rname,int d.len,int d.day,.slice af d.sp.length cf,.slice ak d.tiers.length ck,.slice a2 d.notes.length c2]:=rN
  replace rA:=kN.row (rA.ext xJ) (fun e=>by cases e;omega)
  replace hX:=xN
  replace h0:=(h0.ext xJ).move (kN.mv fun b hb e=>by cases e;exact hb.2.1 rfl)
  replace h2:=(h2.ext xJ).move (kN.mv fun b hb e=>by cases e;exact hb.1 rfl)
  replace h1:=sJ.move (kN.mv fun b hb e=>by cases e;exact hb.2.1 rfl)
  have hBu:=rB.lt
  have hAu:=rA.lt
  clear rN
  (repeat' ((fail_if_success (refine E_seq (x:=(Code.region 4 _ _)) ?_));first|(refine eL Z Z Z Z Z Z Z Z (fun bS wS xS hbS rS=>?_);have rBS:=rB.ext xS)|refine eV Z Z (val_load Z Z Z (Row.cellAt (by assumption) (by rfl))) ?_|(refine EL_cpy (G':=Gn w.heap.size bB bA) h2 xS rS (by omega) (fun b hb=>⟨by omega,by omega,by omega⟩) Z Z Z Z Z Z Z (by omega) (fun vJ wJ sJ xJ=>?_);obtain⟨an,cn,rfl,_,_,_⟩:=sJ.sl)|(refine EL_storeP (cs:=[_]) (rB.ext xJ) (hX.trans xJ) hwB rfl rfl rfl rfl rfl rfl rfl rfl (by simp) (fun uN rN xN kN=>?_))|(refine at_EL ?_;first|refine eN ?_|refine eV Z Z (zH Z Z) ?_)|(refine at_K ?_;first|refine K_then ?_)|(refine at_E ?_;first|refine E_seq ?_|refine E_region ?_)))
  replace rB:Row uN bB 72 [int d.rid,str d.rname,int d.len,int d.day,.slice af d.sp.length cf,.slice ak d.tiers.length ck,.slice an d.notes.length cn]:=rN
  replace rA:=kN.row (rA.ext xJ) (fun e=>by cases e;omega)
  replace hX:=xN
  replace h0:=(h0.ext xJ).move (kN.mv fun b hb e=>by cases e;exact hb.2.1 rfl)
  replace h1:=(h1.ext xJ).move (kN.mv fun b hb e=>by cases e;exact hb.2.1 rfl)
  replace h2:=sJ.move (kN.mv fun b hb e=>by cases e;exact hb.2.1 rfl)
  have hBu:=rB.lt
  have hAu:=rA.lt
  clear rN
  (repeat' (first|refine eV Z Z (val_loadA Z Z Z (Row.at (by assumption)) (by rfl)) ?_|(refine EL_storeP (cs:=[int d.rid,str d.rname,int d.len,int d.day,.slice af d.sp.length cf,.slice ak d.tiers.length ck,.slice an d.notes.length cn]) rA hX hwA rfl rfl rfl rfl rfl rfl rfl rfl (Nat.le_refl _) (fun w9 r9 x9 k9=>?_))|(refine at_EL ?_;first|refine eN ?_)|(refine at_K ?_;first|refine K_then ?_)|(refine at_E ?_;first|refine E_seq ?_|refine E_region ?_|refine E_ret ?_)))
  have mv:∀ b,Gn w.heap.size bB bA b→b<_→w.heap.size≤b∧_:=fun b hb hlt=>⟨hb.1,(k9.mv (G:=Gn w.heap.size bB bA) (fun b hb e=>by cases e;exact hb.2.2 rfl) b hb hlt).2⟩
  exact ret_c Z Z Z r9.at rfl ⟨x9,_,rfl,_,_,_,rfl,h0.move mv,h1.move mv,h2.move mv⟩
set_option maxHeartbeats 4000000 in
set_option maxRecDepth 8000 in
theorem dscopy15_any (ds:List Dc) (hl:ds.length≤1000000) (hb:∀ d∈ds,d.sp.length≤1000000∧d.tiers.length≤1000000∧d.notes.length≤1000000) (v:Value) (w:World) (hv:Sl w v ds):Calls Tryz.prog 15 #[v] w (Rt fun u w'=>Ext w w'∧SlG (fun b=>w.heap.size≤b) w' u ds):=by
  have hv0:=hv
  obtain⟨a,c,rfl,_,hm,hpp⟩:=hv.sl
  refine calls_E (n:=21) (args:=[.slice a ds.length c]) Tryz.func15 rfl Tryz.ntmps15 (by simp) ?_
  (repeat' (first|(refine at_EL ?_;first|refine eN ?_|refine eV Z Z (zB Z Z) ?_|refine eL Z Z Z Z Z Z Z Z (fun bS wS xS hbS rS=>?_))|(refine at_K ?_;first|refine K_then ?_)|(refine at_E ?_;first|refine E_seq ?_|refine E_region ?_|refine E_block ?_)))
  refine E_loop (ι:=Nat × Value) (fun z=>[(0,.slice a ds.length c),(3,z.2),(4,int z.1)]) (fun z wr=>z.1≤ds.length∧Grow (fun b=>w.heap.size≤b) w 72 (ds.take z.1) z.2 wr) (fun z=>ds.length-z.1) (0,.slice (some ⟨bS,0,none⟩) 0 0)
    ⟨rfl,rfl,rfl,trivial⟩ ⟨Nat.zero_le _,Grow.nil rS xS (by omega)⟩ ?_
  rintro⟨i,ov⟩ wr ⟨hi,hgr⟩
  dsimp only at hi hgr ⊢
  by_cases hlt:i<ds.length
  · obtain⟨b,off,rfl⟩:=hpp (by omega)
    obtain⟨d,hdi⟩:∃ d,ds[i]?=some d:=⟨_,List.getElem?_eq_getElem hlt⟩
    have htk:ds.take (i+1)=ds.take i++[d]:=by
      obtain⟨h1,h2⟩:=List.getElem?_eq_some_iff.1 hdi
      rw [List.take_succ_eq_append_getElem h1,h2]
    have hti:(ds.take i).length=i:=by rw [List.length_take];omega
    obtain⟨q1,q2,q3⟩:=hb d (List.mem_of_getElem? hdi)
    obtain⟨a1,c1,a2,c2,a3,c3,hat,hrep⟩:=dc_elem (hv0.ext hgr.x) hdi
    have hus:=hgr.x.size
    (repeat' (first|refine eV Z Z (val_loadA Z Z Z (by assumption) (by rfl)) ?_|refine eV Z Z (val_indexAddr (m:=i) Z Z Z (by first|rfl|omega) (by omega)) ?_|(refine EL_call Z Z (entersF Z Z en50) (dcopy50_any d q1 q2 q3 _ _ hrep) (fun vC wC hC=>?_);obtain⟨xC,Y,rfl,hY⟩:=hC;have hY2:Rep.at_ (Gq (fun b=>w.heap.size≤b) ov) wC d Y:=Rep.move hY (fun b hb _=>⟨⟨by omega,hgr.nbn hb⟩,rfl⟩);obtain⟨_,_,_,rfl,_⟩:=hY)|(refine EL_push (x:=d) (hgr.ext (xC.trans xS)) rS (Rep.move hY2 xS.mv) Z Z Z Z Z Z Z (by omega) (by omega) (fun vK wK hK=>?_))|(refine at_EL ?_;first|refine eN ?_|refine eV Z Z (zA Z Z) ?_|refine eV Z Z (zB Z Z) ?_|(refine at_bin ?_;first|refine eD Z Z (zL Z Z Z) (fun hh=>?_) (fun hh=>?_)|refine eV Z Z (zU Z Z Z (by omega) (by omega)) ?_)|(refine at_call ?_;first|refine eV Z Z (zK Z Z) ?_)|refine eL Z Z Z Z Z Z Z Z (fun bS wS xS hbS rS=>?_))|(refine at_K ?_;first|refine K_then ?_|refine K_in ?_|refine K_then_exit ?_|refine K_in_exit ?_)|(refine at_E ?_;first|refine E_seq ?_|refine E_region ?_|refine E_cond_t Z ?_|refine E_cond_f Z ?_|refine E_block ?_|refine E_skip ?_|refine E_ret ?_|refine E_exit ?_)))
    all_goals (try (exfalso;omega))
    exact K_rnd (i+1,vK) ⟨rfl,rfl,rfl,trivial⟩ ⟨by dsimp only;omega,by dsimp only;rw [htk];exact hK⟩ (by dsimp only;omega)
  · obtain rfl:i=ds.length:=by omega
    rw [List.take_length] at hgr
    (repeat' (first|(refine at_EL ?_;first|refine eN ?_|refine eV Z Z (zA Z Z) ?_|refine eV Z Z (zB Z Z) ?_|(refine at_bin ?_;first|refine eD Z Z (zL Z Z Z) (fun hh=>?_) (fun hh=>?_))|(refine at_call ?_;first|refine eV Z Z (zK Z Z) ?_))|(refine at_K ?_;first|refine K_then ?_|refine K_then_exit ?_|refine K_in_exit ?_)|(refine at_E ?_;first|refine E_seq ?_|refine E_region ?_|refine E_cond_t Z ?_|refine E_cond_f Z ?_|refine E_block ?_|refine E_skip ?_|refine E_ret ?_|refine E_exit ?_)))
    all_goals (try (exfalso;omega))
    exact ret_1 Z Z ⟨hgr.x,hgr.sl (fun b hb=>hb) hm⟩
set_option maxHeartbeats 4000000 in
set_option maxRecDepth 8000 in
theorem ptcopy26_any (ps:List Pnt) (hl:ps.length≤1000000) (hb:∀ p∈ps,p.entries.length≤1000000∧p.refs.length≤1000000) (v:Value) (w:World) (hv:Sl w v ps):Calls Tryz.prog 26 #[v] w (Rt fun u w'=>Ext w w'∧SlG (fun b=>w.heap.size≤b) w' u ps):=by
  have hv0:=hv
  obtain⟨a,c,rfl,_,hm,hpp⟩:=hv.sl
  refine calls_E (n:=32) (args:=[.slice a ps.length c]) Tryz.func26 rfl Tryz.ntmps26 (by simp) ?_
  (repeat' (first|(refine at_EL ?_;first|refine eN ?_|refine eV Z Z (zB Z Z) ?_|refine eL Z Z Z Z Z Z Z Z (fun bS wS xS hbS rS=>?_))|(refine at_K ?_;first|refine K_then ?_)|(refine at_E ?_;first|refine E_seq ?_|refine E_region ?_|refine E_block ?_)))
  refine E_loop (ι:=Nat × Value) (fun z=>[(0,.slice a ps.length c),(3,z.2),(4,int z.1)]) (fun z wr=>z.1≤ps.length∧Grow (fun b=>w.heap.size≤b) w 90 (ps.take z.1) z.2 wr) (fun z=>ps.length-z.1) (0,.slice (some ⟨bS,0,none⟩) 0 0)
    ⟨rfl,rfl,rfl,trivial⟩ ⟨Nat.zero_le _,Grow.nil rS xS (by omega)⟩ ?_
  rintro⟨i,ov⟩ wr ⟨hi,hgr⟩
  dsimp only at hi hgr ⊢
  by_cases hlt:i<ps.length
  · obtain⟨b,off,rfl⟩:=hpp (by omega)
    obtain⟨p,hpi⟩:∃ p,ps[i]?=some p:=⟨_,List.getElem?_eq_getElem hlt⟩
    have htk:ps.take (i+1)=ps.take i++[p]:=by
      obtain⟨h1,h2⟩:=List.getElem?_eq_some_iff.1 hpi
      rw [List.take_succ_eq_append_getElem h1,h2]
    have hti:(ps.take i).length=i:=by rw [List.length_take];omega
    obtain⟨q1,q2⟩:=hb p (List.mem_of_getElem? hpi)
    obtain⟨a0,c0,a1,c1,hat,_,h0,h1⟩:=pnt_elem (hv0.ext hgr.x) hpi
    have hus:=hgr.x.size
    have hX:=Ext.refl wr
    (repeat' ((fail_if_success (refine E_seq (x:=(Code.region 6 _ _)) ?_));first|(refine EL_var Z Z Z Z Z Z Z Z Z Z (fun bB wB xB hbB rB=>?_);replace hX:=hX.trans xB)|refine eV Z Z (val_loadA Z Z Z (by assumption) (by rfl)) ?_|refine eV Z Z (val_indexAddr (m:=i) Z Z Z (by first|rfl|omega) (by omega)) ?_|(refine at_EL ?_;first|refine eN ?_|refine eV Z Z (zA Z Z) ?_|refine eV Z Z (zB Z Z) ?_|(refine at_bin ?_;first|refine eD Z Z (zL Z Z Z) (fun hh=>?_) (fun hh=>?_))|(refine at_call ?_;first|refine eV Z Z (zK Z Z) ?_))|(refine at_K ?_;first|refine K_then ?_|refine K_then_exit ?_|refine K_in_exit ?_)|(refine at_E ?_;first|refine E_seq ?_|refine E_region ?_|refine E_cond_t Z ?_|refine E_cond_f Z ?_|refine E_block ?_|refine E_skip ?_|refine E_ret ?_|refine E_exit ?_)))
    all_goals (try (exfalso;omega))
    have hwB:wr.heap.size≤bB:=by omega
    have hBu:=rB.lt
    replace h0:SlG (fun b=>b≠bB∧b≠bB) wB _ _:=h0.move fun b _ hb=>⟨⟨by omega,by omega⟩,hX.block hb⟩
    replace h1:SlG (fun b=>b≠bB∧b≠bB) wB _ _:=h1.move fun b _ hb=>⟨⟨by omega,by omega⟩,hX.block hb⟩
    (repeat' ((fail_if_success (refine E_seq (x:=(Code.region 7 _ _)) ?_));first|(refine eL Z Z Z Z Z Z Z Z (fun bS wS xS hbS rS=>?_);have rBS:=rB.ext xS)|refine eV Z Z (val_load Z Z Z (Row.cellAt (by assumption) (by rfl))) ?_|(refine EL_cpy (G':=Gn wr.heap.size bB bB) h0 xS rS (by omega) (fun b hb=>⟨by omega,by omega,by omega⟩) Z Z Z Z Z Z Z (by omega) (fun vJ wJ sJ xJ=>?_);obtain⟨af,cf,rfl,_,_,_⟩:=sJ.sl)|(refine EL_storeP (cs:=[_]) (rB.ext xJ) (hX.trans xJ) hwB rfl rfl rfl rfl rfl rfl rfl rfl (by simp) (fun uN rN xN kN=>?_))|(refine at_EL ?_;first|refine eN ?_|refine eV Z Z (zH Z Z) ?_)|(refine at_K ?_;first|refine K_then ?_)|(refine at_E ?_;first|refine E_seq ?_|refine E_region ?_)))
    replace rB:Row uN bB 90 [int p.id,str p.title,str p.text,.slice af p.entries.length cf,.slice a1 p.refs.length c1]:=rN
    replace hX:=xN
    replace h1:=(h1.ext xJ).move (kN.mv fun b hb e=>by cases e;exact hb.1 rfl)
    replace h0:=sJ.move (kN.mv fun b hb e=>by cases e;exact hb.2.1 rfl)
    have hBu:=rB.lt
    clear rN
    (repeat' ((fail_if_success (refine E_seq (x:=(Code.region 8 _ _)) ?_));first|(refine eL Z Z Z Z Z Z Z Z (fun bS wS xS hbS rS=>?_);have rBS:=rB.ext xS)|refine eV Z Z (val_load Z Z Z (Row.cellAt (by assumption) (by rfl))) ?_|refine eV Z Z (val_loadA Z Z Z (Row.at (by assumption)) (by rfl)) ?_|(refine EL_cpy (G':=Gn wr.heap.size bB bB) h1 xS rS (by omega) (fun b hb=>⟨by omega,by omega,by omega⟩) Z Z Z Z Z Z Z (by omega) (fun vJ wJ sJ xJ=>?_);obtain⟨ak,ck,rfl,_,_,_⟩:=sJ.sl)|(refine EL_storeP (cs:=[_]) (rB.ext xJ) (hX.trans xJ) hwB rfl rfl rfl rfl rfl rfl rfl rfl (by simp) (fun uN rN xN kN=>?_))|(refine at_EL ?_;first|refine eN ?_|refine eV Z Z (zA Z Z) ?_|refine eV Z Z (zH Z Z) ?_|refine eL Z Z Z Z Z Z Z Z (fun bS wS xS hbS rS=>?_))|(refine at_K ?_;first|refine K_then ?_)|(refine at_E ?_;first|refine E_seq ?_|refine E_region ?_)))
    replace rB:Row uN bB 90 [int p.id,str p.title,str p.text,.slice af p.entries.length cf,.slice ak p.refs.length ck]:=rN
    replace hX:=xN
    replace h0:=(h0.ext xJ).move (kN.mv fun b hb e=>by cases e;exact hb.2.1 rfl)
    replace h1:=sJ.move (kN.mv fun b hb e=>by cases e;exact hb.2.1 rfl)
    have hBu:=rB.lt
    clear rN
    have hp2:Rep.at_ (Gq (fun b=>w.heap.size≤b) ov) uN p [int p.id,str p.title,str p.text,.slice af p.entries.length cf,.slice ak p.refs.length ck]:=⟨_,_,rfl,h0.wk (fun b hb=>⟨by have:=hb.1;omega,hgr.nbn hb.1⟩),h1.wk (fun b hb=>⟨by have:=hb.1;omega,hgr.nbn hb.1⟩)⟩
    (repeat' (first|(refine EL_push (x:=p) (hgr.ext (hX.trans xS)) rS (Rep.move hp2 xS.mv) Z Z Z Z Z Z Z (by omega) (by omega) (fun vK wK hK=>?_))|(refine at_EL ?_;first|refine eN ?_|refine eV Z Z (zA Z Z) ?_|refine eV Z Z (zB Z Z) ?_|(refine at_bin ?_;first|refine eV Z Z (zU Z Z Z (by omega) (by omega)) ?_))|(refine at_K ?_;first|refine K_then ?_|refine K_in ?_)|(refine at_E ?_;first|refine E_region ?_)))
    all_goals (try (exfalso;omega))
    exact K_rnd (i+1,vK) ⟨rfl,rfl,rfl,trivial⟩ ⟨by dsimp only;omega,by dsimp only;rw [htk];exact hK⟩ (by dsimp only;omega)
  · obtain rfl:i=ps.length:=by omega
    rw [List.take_length] at hgr
    (repeat' (first|(refine at_EL ?_;first|refine eN ?_|refine eV Z Z (zA Z Z) ?_|refine eV Z Z (zB Z Z) ?_|(refine at_bin ?_;first|refine eD Z Z (zL Z Z Z) (fun hh=>?_) (fun hh=>?_))|(refine at_call ?_;first|refine eV Z Z (zK Z Z) ?_))|(refine at_K ?_;first|refine K_then ?_|refine K_then_exit ?_|refine K_in_exit ?_)|(refine at_E ?_;first|refine E_seq ?_|refine E_region ?_|refine E_cond_t Z ?_|refine E_cond_f Z ?_|refine E_block ?_|refine E_skip ?_|refine E_ret ?_|refine E_exit ?_)))
    all_goals (try (exfalso;omega))
    exact ret_1 Z Z ⟨hgr.x,hgr.sl (fun b hb=>hb) hm⟩
end Go.Proofs.YtjicdgejhkgpgaaGreatDoor
namespace Go.Proofs.YtjicdgejhkgpgaaGreatDoor
open Go.RowKit Go.En Go.Pv
theorem getE_at {lex:List En} {id:Int} {e:En} (h:getE lex id=some e):∃ i,lex[i]?=some e∧e.id=id∧∀(j:Nat) (x:En),j<i→lex[j]?=some x→x.id≠id:=by
  unfold getE at h
  obtain⟨h1,i,hi,he,hall⟩:=List.find?_eq_some_iff_getElem.1 h
  refine⟨i,?_,by simpa using h1,fun j x hj hx=>?_⟩
  · rw [List.getElem?_eq_getElem hi,he]
  · obtain⟨hj',rfl⟩:=List.getElem?_eq_some_iff.1 hx
    simpa using hall j hj
theorem getE_none {lex:List En} {id:Int} (h:getE lex id=none):∀ x∈lex,x.id≠id:=by
  unfold getE at h
  rw [List.find?_eq_none] at h
  intro x hx;simpa using h x hx
def zeroE:List Value:=[int 0,.slice none 0 0,int 0,.slice none 0 0,int 0,.slice none 0 0,.slice none 0 0,.slice none 0 0]
attribute [local irreducible] E EL K Val Enters Rt Calls bodyPost Code.wp RQ
end Go.Proofs.YtjicdgejhkgpgaaGreatDoor
namespace Go.Proofs.YtjicdgejhkgpgaaGreatDoor
open Go.RowKit Go.En Go.Pv
def idxE (lex:List En) (id:Int):Int:=match lex.findIdx? (fun e=>e.id==id) with|some i=>(i:Int)|none => -1
theorem idx_some {lex:List En} {id:Int} {e:En} (h:getE lex id=some e):∃ i:Nat,idxE lex id=(i:Int)∧lex[i]?=some e:=by
  obtain⟨i,hi,he,hall⟩:=getE_at h
  refine⟨i,?_,hi⟩
  unfold idxE
  obtain⟨hl,hx⟩:=List.getElem?_eq_some_iff.1 hi
  have:lex.findIdx? (fun e=>e.id==id)=some i:=by
    rw [List.findIdx?_eq_some_iff_getElem]
    refine⟨hl,by rw [hx];simpa using he,fun j hj=>?_⟩
    have:=hall j _ hj (List.getElem?_eq_getElem (by omega))
    simpa using this
  rw [this]
theorem idx_none {lex:List En} {id:Int} (h:getE lex id=none):idxE lex id = -1:=by
  unfold idxE
  have:lex.findIdx? (fun e=>e.id==id)=none:=by
    rw [List.findIdx?_eq_none_iff]
    intro x hx
    simpa using getE_none h x hx
  rw [this]
attribute [local irreducible] E EL K Val Enters Rt Calls bodyPost Code.wp RQ
end Go.Proofs.YtjicdgejhkgpgaaGreatDoor
namespace Go.En
open Go.RowKit
section
variable {P : Program} {n : Nat} {Q : Post} {ops : List Oper}
abbrev Rg:=Nat × Nat × Bool
def pushF (x:Option (Nat × Value)) (L:List (Nat × Value)):List (Nat × Value):=match x with|some y=>y::L|none=>L
def frame:List (Nat × Value)→List (Option (Nat × Value))→Nat→List (Nat × Value)
  | L,x::xs,i+1=>frame (pushF x L) xs i
  | L,_,_=>L
def VClause (P:Program) (ws:Nat→World) (L:List (Nat × Value)) (o:Oper) (x:Option (Nat × Value)) (g:Rg):Prop:=
  match g,x with
  | (lo,hi,true),some y=>∀ p,lo≤p→p≤hi→Val P L (ws p) o y.2
  | (_,_,true),none=>False
  | (q,_,false),some y=>∀ ρ,Agree L o ρ→(execOp ρ o).run P (ws q)=.ok (.value y.2) (ws (q+1))
  | (q,_,false),none=>∀ ρ,Agree L o ρ→(execOp ρ o).run P (ws q)=.ok .skip (ws (q+1))
def VQ (P:Program) (ws:Nat→World):List (Nat × Value)→List Oper→List (Option (Nat × Value))→List Rg→Prop
  | L,o::r,x::xs,g::gs=>VClause P ws L o x g∧VQ P ws (pushF x L) r xs gs
  | _,[],[],[]=>True
  | _,_,_,_=>False
theorem VQ.get {ws:Nat→World}:∀ {ops:List Oper} {L:List (Nat × Value)} {xs:List (Option (Nat × Value))} {gs:List Rg},VQ P ws L ops xs gs→∀ {i:Nat} {o:Oper},ops[i]?=some o→∃ x g,xs[i]?=some x∧gs[i]?=some g∧VClause P ws (frame L xs i) o x g
  | o::r,L,x::xs,g::gs,h,0,o',ho=>by
    simp at ho;subst ho
    exact⟨x,g,rfl,rfl,h.1⟩
  | o::r,L,x::xs,g::gs,h,i+1,o',ho=>by
    obtain⟨x',g',h1,h2,h3⟩:=VQ.get h.2 (i:=i) (by simpa using ho)
    exact⟨x',g',by simpa using h1,by simpa using h2,h3⟩
  | [],_,_,_,_,i,_,ho=>by simp at ho
  | _::_,_,[],_,h,_,_,_=>h.elim
  | _::_,_,_::_,[],h,_,_,_=>h.elim
theorem frame_lk : ∀ {xs : List (Option (Nat × Value))} {L : List (Nat × Value)} {i s : Nat} {v : Value}, lk (frame L xs i) s = some v → (∃ j, j < i ∧ xs[j]? = some (some (s, v))) ∨ (lk L s = some v ∧ ∀ j, j < i → ∀ u, xs[j]? ≠ some (some (s, u)))
  | [],L,i,s,v,h=>.inr ⟨by simpa [frame] using h,fun j _ u=>by simp⟩
  | x::xs,L,0,s,v,h=>.inr ⟨by simpa [frame] using h,fun j hj=>absurd hj (Nat.not_lt_zero _)⟩
  | x :: xs, L, i + 1, s, v, h => by
    rcases frame_lk (xs:=xs) (i:=i) (show lk (frame (pushF x L) xs i) s=some v from h) with⟨j,h1,h2⟩|⟨h1,h2⟩
    · exact .inl ⟨j+1,by omega,by simpa using h2⟩
    · cases x with
      | none=>exact .inr ⟨h1,fun j hj u=>by cases j with|zero=>simp|succ j=>simpa using h2 j (by omega) u⟩
      | some y=>
        obtain⟨k,z⟩:=y
        simp only [pushF,lk] at h1
        cases hb:Nat.beq k s with
        | true=>
          rw [hb] at h1;simp at h1
          have:=Nat.eq_of_beq_eq_true hb
          subst this;subst h1
          exact .inl ⟨0,by omega,rfl⟩
        | false=>
          rw [hb] at h1;simp at h1
          refine .inr ⟨h1,fun j hj u=>?_⟩
          cases j with
          | zero=>intro e;simp at e;rw [e.1] at hb;simp at hb
          | succ j=>simpa using h2 j (by omega) u
structure JS (n:Nat) (L0:List (Nat × Value)) (Lr:List (Option (Nat × Value))) (ss:List Nat) (ws:Nat→World) (ops:List Oper) (C:Nat→Prop) (a:Act) (w:World):Prop where
  size:a.tmps.size=n
  nod:a.defers=[]
  base:∀ s v,lk L0 s=some v→(∀ j o,C j→ops[j]?=some o→o.dst≠some s)→a.tmps[s]?=some v
  reads:∀ j s v,C j→Lr[j]?=some (some (s,v))→a.tmps[s]?=some v
  ph:∃ p,p≤ss.length∧(∀ q i,ss[q]?=some i→(C i↔q<p))∧w=ws p
theorem getD_of {α:Type} {l:List α} {i:Nat} {x d:α} (h:l[i]?=some x):l.getD i d=x:=by rw [List.getD_eq_getElem?_getD,h];rfl
theorem step_app {L:List (Nat × Value)} {w w':World} {o:Oper} {t:TypeId} {s x:Operand} {v v' u:Value} (ho:o.op=.call { callee:=.builtin .append,args:=#[s,x],argTypes:=#[t,t] }) (hs:ev L s=some v) (hx:ev L x=some u)
    (hr:(Builtin.append_ #[t,t] o.type #[v,u]).run P w=.ok v' w'):∀ ρ,Agree L o ρ→(execOp ρ o).run P w=.ok (.value v') w':=fun ρ ha=>by
  have a1:=ha.ev (by rw [ho];simp [Op.operands,Call.operands]) hs
  have a2:=ha.ev (by rw [ho];simp [Op.operands,Call.operands]) hx
  simp only [execOp,ho,resolve,invoke,builtin,Sem.run_bind,Sem.run_pure,Result.andThen_ok,List.map_toArray,List.map_cons,List.map_nil,a1,a2,hr]
end
end Go.En
namespace Go.En
open Go.RowKit
section
variable {P : Program} {n : Nat} {Q : Post} {ops : List Oper}
def upd (δ:Nat→Value) (d:Option Tmp) (v:Value):Nat→Value:=fun s=>if d=some s then v else δ s
structure JU (n:Nat) (Φ:(Nat→Prop)→(Nat→Value)→World→Prop) (C:Nat→Prop) (a:Act) (w:World):Prop where
  size:a.tmps.size=n
  nod:a.defers=[]
  phi:Φ C (fun s=>a.tmps.getD s undef) w
theorem app_exO {w : World} (t ty : TypeId) {e : TypeId} {z : Value} {size bytes : Nat} [ut : UT P t (.slice e)] [ti : TI P e z size bytes] {v : Value} {w0 : World} {m : Nat} {xs : List Value} {a : Option Addr} {q : Nat} (c : Nat) {news : List Value}
    (hown:w.ownsRow w0.heap.size e size v m xs) (x0:Ext w0 w) (hnews:0<q→∃ b off,a=some ⟨b,off,none⟩∧At w b off news) (hl:news.length=q*size)
    (h1:news.all Value.oneCell'=true) (hz:z.cells.size=size) (hsz:Nat.ble 1 size=true) (hmax:(m+q)*bytes≤140737488355328) (hmax':m+q≤9223372036854775807) :
    ∃ v' w',(Builtin.append_ #[t,t] ty #[v,.slice a q c]).run P w=.ok v' w'∧w'.ownsRow w0.heap.size e size v' (m+q) (xs++news)∧Ext w0 w'∧Kb v.ownBlock w w'∧(v'.ownBlock=v.ownBlock∨v'.ownBlock=some w.heap.size):=by
  obtain⟨i0,hi,hz0,hz1,hz2⟩:=info_parts ti.i
  cases a with
  | none=>
    have hq:q=0:=by
      by_cases h0:0<q
      · obtain⟨_,_,e1,_⟩:=hnews h0;cases e1
      · omega
    subst hq
    obtain rfl:news=[]:=List.length_eq_zero_iff.1 (by rw [hl,Nat.zero_mul])
    have hr:=append_owned_none (P:=P) (w:=w) (ty:=ty) (c:=c) ut.u hi hown
    exact⟨v,w,hr,by simpa using hown,x0,World.grownBy.refl _ _,.inl rfl⟩
  | some ad=>
    have hat:∀ j u,news[j]?=some u→w.cell? (ad.add j)=some u:=by
      by_cases h0:0<q
      · obtain⟨b,off,e1,hat⟩:=hnews h0
        cases e1
        exact fun j u hu=>by rw [addr_add];exact hat j u hu
      · obtain rfl:news=[]:=List.length_eq_zero_iff.1 (by rw [hl,show q=0 by omega,Nat.zero_mul])
        exact fun j u hu=>by simp at hu
    obtain⟨v',w',hr,h2,h3,_,h4⟩:=run_append_own_at (P:=P) (w:=w) (ty:=ty) w0.heap.size t e i0 z size bytes ut.u hi hz0 hz1 hz2 hz (Nat.le_of_ble_eq_true hsz) v m xs hown ad q c news hl hat
      (fun u hu=>List.all_eq_true.1 h1 u hu) (by unfold maxLen;omega) hmax x0.size
    exact⟨v',w',hr,h2,own_anchor hown x0 h3,h3,h4⟩
end
end Go.En
