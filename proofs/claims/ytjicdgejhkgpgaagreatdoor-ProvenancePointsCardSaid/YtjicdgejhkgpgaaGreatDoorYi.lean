/-
  Walks: the reference's copies of entries, statements, documents (printed by tools/gen_copy.py). Walks: the reference's copies of documents and statements (printed by tools/gen_copy.py). Walks: the reference's Get of entries, Forms, form. Walks: the reference's find, way, Senses. A region that draws its order, with operations that write or make memory one behind the other ('x[i], x[j] = x[j], x[i]', 'm[k] = append(m[k], v)'): in every order.
  'ss': those operations, in their order; 'ws q': the world when q of them are done; 'rg': of each other operation, when it can run. A region that draws its order, by what holds when some of its operations are done (a predicate of one's own). A region that draws its order: values read, a call, one variable made and filled ('x, ok := f(l[i])', x in memory): in every order. Walks: the reference's Classes and Base. Walks: the reference's Base.
-/
import Derived.Test.YtjicdgejhkgpgaaGreatDoorYh
import Derived.Test.YtjicdgejhkgpgaaGreatDoorYe
import Derived.Test.YtjicdgejhkgpgaaGreatDoorYf
import Derived.Test.YtjicdgejhkgpgaaGreatDoorYg
set_option linter.all false
namespace Go.Proofs.YtjicdgejhkgpgaaGreatDoor
open Go.RowKit Go.En Go.Pv
instance:Flat Sns:=⟨fun _ _ _ _ _ _ h=>h⟩
instance:Flat Lnk:=⟨fun _ _ _ _ _ _ h=>h⟩
instance:Flat Rf:=⟨fun _ _ _ _ _ _ h=>h⟩
instance:Flat Ph:=⟨fun _ _ _ _ _ _ h=>h⟩
instance:Flat Cls:=⟨fun _ _ _ _ _ _ h=>h⟩
instance:Flat Stp:=⟨fun _ _ _ _ _ _ h=>h⟩
def Gn (B bB bA:Nat):Nat→Prop:=fun b=>B≤b∧b≠bB∧b≠bA
attribute [local irreducible] E EL K Val Enters Rt Calls bodyPost Code.wp RQ
end Go.Proofs.YtjicdgejhkgpgaaGreatDoor
namespace Go.Proofs.YtjicdgejhkgpgaaGreatDoor
open Go.RowKit Go.En Go.Pv
instance:Rep Dc where
  sz:=7
  pos:=by decide
  at_ G w d cs:=∃ sv tv nv,cs=[int d.rid,str d.rname,int d.len,int d.day,sv,tv,nv]∧SlG G w sv d.sp∧SlG G w tv d.tiers∧SlG G w nv d.notes
  len h:=by obtain⟨sv,tv,nv,rfl,_⟩:=h;rfl
  one h:=by obtain⟨sv,tv,nv,rfl,⟨_,_,rfl,_⟩,⟨_,_,rfl,_⟩,⟨_,_,rfl,_⟩⟩:=h;rfl
  move h hm:=by obtain⟨sv,tv,nv,rfl,h1,h2,h3⟩:=h;exact⟨sv,tv,nv,rfl,h1.move hm,h2.move hm,h3.move hm⟩
theorem dc_elem {G:Nat→Prop} {w:World} {b off n cap:Nat} {xs:List Dc} (h:SlG G w (.slice (some ⟨b,off,none⟩) n cap) xs) {i:Nat} {d:Dc} (hx:xs[i]?=some d) :
    ∃ a1 c1 a2 c2 a3 c3,At w b (off+i*7) [int d.rid,str d.rname,int d.len,int d.day,.slice a1 d.sp.length c1,.slice a2 d.tiers.length c2,.slice a3 d.notes.length c3]∧Rep.at_ G w d [int d.rid,str d.rname,int d.len,int d.day,.slice a1 d.sp.length c1,.slice a2 d.tiers.length c2,.slice a3 d.notes.length c3]:=by
  obtain⟨cs,⟨sv,tv,nv,rfl,h1,h2,h3⟩,hat⟩:=h.elem hx
  obtain⟨a1,c1,rfl,_⟩:=h1.sl
  obtain⟨a2,c2,rfl,_⟩:=h2.sl
  obtain⟨a3,c3,rfl,_⟩:=h3.sl
  exact⟨a1,c1,a2,c2,a3,c3,hat,_,_,_,rfl,h1,h2,h3⟩
theorem dc_at {G:Nat→Prop} {w:World} {d:Dc} {X:List Value} (h:Rep.at_ G w d X):DcAt w (.agg X.toArray) d:=by
  obtain⟨sv,tv,nv,rfl,h1,h2,h3⟩:=h
  exact⟨sv,tv,nv,rfl,h1.any,h2.any,h3.any⟩
instance:Flat Tier:=⟨fun _ _ _ _ _ _ h=>h⟩
instance:Flat Note:=⟨fun _ _ _ _ _ _ h=>h⟩
attribute [local irreducible] E EL K Val Enters Rt Calls bodyPost Code.wp RQ
set_option maxHeartbeats 4000000 in
set_option maxRecDepth 8000 in
theorem ptcopy26_any (ps:List Pnt) (hl:ps.length≤1000000) (hb:∀ p∈ps,p.entries.length≤1000000∧p.refs.length≤1000000) (v:Value) (w:World) (hv:Sl w v ps):Calls Tryz.prog 26 #[v] w (Rt fun u w'=>Ext w w'∧SlG (fun b=>w.heap.size≤b) w' u ps):=by
  have hv0:=hv
  obtain⟨a,c,rfl,_,hm,hpp⟩:=hv.sl
  refine calls_E (n:=32) (args:=[.slice a ps.length c]) Tryz.func26 rfl Tryz.ntmps26 (by simp) ?_
  (repeat' (first|(refine at_EL ?_;first|refine eN ?_|refine eV Z Z (zB Z Z) ?_|refine eL Z Z Z Z Z Z Z Z (fun bS wS xS hbS rS=>?_))|(refine at_K ?_;first|refine K_then ?_)|(refine at_E ?_;first|refine E_seq ?_|refine E_region ?_|refine E_block ?_)))
  refine E_loop (ι:=Nat × Value) (fun z=>[(0,.slice a ps.length c),(3,z.2),(4,int z.1)]) (fun z wr=>z.1≤ps.length∧Grow (fun b=>w.heap.size≤b) w 90 (ps.take z.1) z.2 wr) (fun z=>ps.length-z.1) (0,.slice (some ⟨bS,0,none⟩) 0 0)
    ⟨rfl,rfl,rfl,trivial⟩ ⟨Nat.zero_le _,Grow.nil rS xS (by omega)⟩ ?_
  rintro⟨i,ov⟩ wr ⟨hi,hgr⟩
  dsimp only at hi hgr ⊢
  by_cases hlt:i<ps.length
  · obtain⟨b,off,rfl⟩:=hpp (by omega)
    obtain⟨p,hpi⟩:∃ p,ps[i]?=some p:=⟨_,List.getElem?_eq_getElem hlt⟩
    have htk:ps.take (i+1)=ps.take i++[p]:=by
      obtain⟨h1,h2⟩:=List.getElem?_eq_some_iff.1 hpi
      rw [List.take_succ_eq_append_getElem h1,h2]
    have hti:(ps.take i).length=i:=by rw [List.length_take];omega
    obtain⟨q1,q2⟩:=hb p (List.mem_of_getElem? hpi)
    obtain⟨a0,c0,a1,c1,hat,_,h0,h1⟩:=pnt_elem (hv0.ext hgr.x) hpi
    have hus:=hgr.x.size
    have hX:=Ext.refl wr
    (repeat' ((fail_if_success (refine E_seq (x:=(Code.region 6 _ _)) ?_));first|(refine EL_var Z Z Z Z Z Z Z Z Z Z (fun bB wB xB hbB rB=>?_);replace hX:=hX.trans xB)|refine eV Z Z (val_loadA Z Z Z (by assumption) (by rfl)) ?_|refine eV Z Z (val_indexAddr (m:=i) Z Z Z (by first|rfl|omega) (by omega)) ?_|(refine at_EL ?_;first|refine eN ?_|refine eV Z Z (zA Z Z) ?_|refine eV Z Z (zB Z Z) ?_|(refine at_bin ?_;first|refine eD Z Z (zL Z Z Z) (fun hh=>?_) (fun hh=>?_))|(refine at_call ?_;first|refine eV Z Z (zK Z Z) ?_))|(refine at_K ?_;first|refine K_then ?_|refine K_then_exit ?_|refine K_in_exit ?_)|(refine at_E ?_;first|refine E_seq ?_|refine E_region ?_|refine E_cond_t Z ?_|refine E_cond_f Z ?_|refine E_block ?_|refine E_skip ?_|refine E_ret ?_|refine E_exit ?_)))
    all_goals (try (exfalso;omega))
    have hwB:wr.heap.size≤bB:=by omega
    have hBu:=rB.lt
    replace h0:SlG (fun b=>b≠bB∧b≠bB) wB _ _:=h0.move fun b _ hb=>⟨⟨by omega,by omega⟩,hX.block hb⟩
    replace h1:SlG (fun b=>b≠bB∧b≠bB) wB _ _:=h1.move fun b _ hb=>⟨⟨by omega,by omega⟩,hX.block hb⟩
    (repeat' ((fail_if_success (refine E_seq (x:=(Code.region 7 _ _)) ?_));first|(refine eL Z Z Z Z Z Z Z Z (fun bS wS xS hbS rS=>?_);have rBS:=rB.ext xS)|refine eV Z Z (val_load Z Z Z (Row.cellAt (by assumption) (by rfl))) ?_|(refine EL_cpy (G':=Gn wr.heap.size bB bB) h0 xS rS (by omega) (fun b hb=>⟨by omega,by omega,by omega⟩) Z Z Z Z Z Z Z (by omega) (fun vJ wJ sJ xJ=>?_);obtain⟨af,cf,rfl,_,_,_⟩:=sJ.sl)|(refine EL_storeP (cs:=[_]) (rB.ext xJ) (hX.trans xJ) hwB rfl rfl rfl rfl rfl rfl rfl rfl (by simp) (fun uN rN xN kN=>?_))|(refine at_EL ?_;first|refine eN ?_|refine eV Z Z (zH Z Z) ?_)|(refine at_K ?_;first|refine K_then ?_)|(refine at_E ?_;first|refine E_seq ?_|refine E_region ?_)))
    replace rB:Row uN bB 90 [int p.id,str p.title,str p.text,.slice af p.entries.length cf,.slice a1 p.refs.length c1]:=rN
    replace hX:=xN
    replace h1:=(h1.ext xJ).move (kN.mv fun b hb e=>by cases e;exact hb.1 rfl)
    replace h0:=sJ.move (kN.mv fun b hb e=>by cases e;exact hb.2.1 rfl)
    have hBu:=rB.lt
    clear rN
    (repeat' ((fail_if_success (refine E_seq (x:=(Code.region 8 _ _)) ?_));first|(refine eL Z Z Z Z Z Z Z Z (fun bS wS xS hbS rS=>?_);have rBS:=rB.ext xS)|refine eV Z Z (val_load Z Z Z (Row.cellAt (by assumption) (by rfl))) ?_|refine eV Z Z (val_loadA Z Z Z (Row.at (by assumption)) (by rfl)) ?_|(refine EL_cpy (G':=Gn wr.heap.size bB bB) h1 xS rS (by omega) (fun b hb=>⟨by omega,by omega,by omega⟩) Z Z Z Z Z Z Z (by omega) (fun vJ wJ sJ xJ=>?_);obtain⟨ak,ck,rfl,_,_,_⟩:=sJ.sl)|(refine EL_storeP (cs:=[_]) (rB.ext xJ) (hX.trans xJ) hwB rfl rfl rfl rfl rfl rfl rfl rfl (by simp) (fun uN rN xN kN=>?_))|(refine at_EL ?_;first|refine eN ?_|refine eV Z Z (zA Z Z) ?_|refine eV Z Z (zH Z Z) ?_|refine eL Z Z Z Z Z Z Z Z (fun bS wS xS hbS rS=>?_))|(refine at_K ?_;first|refine K_then ?_)|(refine at_E ?_;first|refine E_seq ?_|refine E_region ?_)))
    replace rB:Row uN bB 90 [int p.id,str p.title,str p.text,.slice af p.entries.length cf,.slice ak p.refs.length ck]:=rN
    replace hX:=xN
    replace h0:=(h0.ext xJ).move (kN.mv fun b hb e=>by cases e;exact hb.2.1 rfl)
    replace h1:=sJ.move (kN.mv fun b hb e=>by cases e;exact hb.2.1 rfl)
    have hBu:=rB.lt
    clear rN
    have hp2:Rep.at_ (Gq (fun b=>w.heap.size≤b) ov) uN p [int p.id,str p.title,str p.text,.slice af p.entries.length cf,.slice ak p.refs.length ck]:=⟨_,_,rfl,h0.wk (fun b hb=>⟨by have:=hb.1;omega,hgr.nbn hb.1⟩),h1.wk (fun b hb=>⟨by have:=hb.1;omega,hgr.nbn hb.1⟩)⟩
    (repeat' (first|(refine EL_push (x:=p) (hgr.ext (hX.trans xS)) rS (Rep.move hp2 xS.mv) Z Z Z Z Z Z Z (by omega) (by omega) (fun vK wK hK=>?_))|(refine at_EL ?_;first|refine eN ?_|refine eV Z Z (zA Z Z) ?_|refine eV Z Z (zB Z Z) ?_|(refine at_bin ?_;first|refine eV Z Z (zU Z Z Z (by omega) (by omega)) ?_))|(refine at_K ?_;first|refine K_then ?_|refine K_in ?_)|(refine at_E ?_;first|refine E_region ?_)))
    all_goals (try (exfalso;omega))
    exact K_rnd (i+1,vK) ⟨rfl,rfl,rfl,trivial⟩ ⟨by dsimp only;omega,by dsimp only;rw [htk];exact hK⟩ (by dsimp only;omega)
  · obtain rfl:i=ps.length:=by omega
    rw [List.take_length] at hgr
    (repeat' (first|(refine at_EL ?_;first|refine eN ?_|refine eV Z Z (zA Z Z) ?_|refine eV Z Z (zB Z Z) ?_|(refine at_bin ?_;first|refine eD Z Z (zL Z Z Z) (fun hh=>?_) (fun hh=>?_))|(refine at_call ?_;first|refine eV Z Z (zK Z Z) ?_))|(refine at_K ?_;first|refine K_then ?_|refine K_then_exit ?_|refine K_in_exit ?_)|(refine at_E ?_;first|refine E_seq ?_|refine E_region ?_|refine E_cond_t Z ?_|refine E_cond_f Z ?_|refine E_block ?_|refine E_skip ?_|refine E_ret ?_|refine E_exit ?_)))
    all_goals (try (exfalso;omega))
    exact ret_1 Z Z ⟨hgr.x,hgr.sl (fun b hb=>hb) hm⟩
end Go.Proofs.YtjicdgejhkgpgaaGreatDoor
namespace Go.Proofs.YtjicdgejhkgpgaaGreatDoor
open Go.RowKit Go.En Go.Pv
theorem getE_at {lex:List En} {id:Int} {e:En} (h:getE lex id=some e):∃ i,lex[i]?=some e∧e.id=id∧∀(j:Nat) (x:En),j<i→lex[j]?=some x→x.id≠id:=by
  unfold getE at h
  obtain⟨h1,i,hi,he,hall⟩:=List.find?_eq_some_iff_getElem.1 h
  refine⟨i,?_,by simpa using h1,fun j x hj hx=>?_⟩
  · rw [List.getElem?_eq_getElem hi,he]
  · obtain⟨hj',rfl⟩:=List.getElem?_eq_some_iff.1 hx
    simpa using hall j hj
theorem getE_none {lex:List En} {id:Int} (h:getE lex id=none):∀ x∈lex,x.id≠id:=by
  unfold getE at h
  rw [List.find?_eq_none] at h
  intro x hx;simpa using h x hx
def zeroE:List Value:=[int 0,.slice none 0 0,int 0,.slice none 0 0,int 0,.slice none 0 0,.slice none 0 0,.slice none 0 0]
attribute [local irreducible] E EL K Val Enters Rt Calls bodyPost Code.wp RQ
set_option maxHeartbeats 4000000 in
set_option maxRecDepth 8000 in
theorem get53_some {lex:List En} {id:Int} {e:En} (hg:getE lex id=some e) (ev:Value) (w:World) (hv:Sl w ev lex) :
    ∃ X:List Value,Rep.at_ Tt w e X∧X.length=8∧∀ w',Ext w w'→Calls Tryz.prog 53 #[ev,int id] w' (Rt fun u w2=>u=.tuple #[.agg X.toArray,.bool true]∧Ext w' w2):=by
  obtain⟨k,hk,hid,hlow⟩:=getE_at hg
  have hkl:=(List.getElem?_eq_some_iff.1 hk).1
  have hv0:=hv
  obtain⟨a,cap,rfl,hc,hm,hp⟩:=hv.sl
  obtain⟨b,off,rfl⟩:=hp (by omega)
  obtain⟨a0,c0,a1,c1,a2,c2,a3,c3,a4,c4,hat,hrep,_⟩:=en_elem hv0 hk
  refine⟨_,hrep,rfl,fun w' xw=>?_⟩
  refine calls_E (n:=25) (args:=[.slice (some ⟨b,off,none⟩) lex.length cap,int id]) Tryz.func53 rfl Tryz.ntmps53 (by simp) ?_
  refine E_seq ?_
  refine E_region ?_
  refine EL_alloc Z Z Z (fun bA wA xA hbA rA0=>?_)
  have hwB:w'.heap.size≤bA:=by omega
  (repeat' (first|(refine at_EL ?_;first|refine eN ?_|refine eV Z Z (zA Z Z) ?_|refine eV Z Z (zB Z Z) ?_|(refine at_call ?_;first|refine eV Z Z (zK Z Z) ?_))|(refine at_K ?_;first|refine K_then ?_)|(refine at_E ?_;first|refine E_seq ?_|refine E_region ?_|refine E_block ?_)))
  refine E_loop (ι:=Nat) (fun i=>[(0,.slice (some ⟨b,off,none⟩) lex.length cap),(1,int id),(4,.pointer (some ⟨bA,0,none⟩)),(8,int lex.length),(9,int i)])
    (fun i wr=>i≤k∧Ext wA wr) (fun i=>k-i) 0
    ⟨rfl,rfl,rfl,rfl,rfl,trivial⟩ ⟨Nat.zero_le _,Ext.refl _⟩ ?_
  rintro i wr ⟨hi,hx⟩
  have hX:=xw.trans (xA.trans hx)
  by_cases e0:i=k
  · subst e0
    have hat':=hat.ext hX
    (repeat' (first|refine eV Z Z (val_load Z Z Z (At.cellAt (by assumption) (by rfl))) ?_|refine eV Z Z (val_loadA Z Z Z (by assumption) (by rfl)) ?_|refine eV Z Z (val_indexAddr (m:=i) Z Z Z Z hkl) ?_|(refine at_EL ?_;first|refine eN ?_|refine eV Z Z (zA Z Z) ?_|refine eV Z Z (zB Z Z) ?_|(refine at_bin ?_;first|refine eD Z Z (zL Z Z Z) (fun hh=>?_) (fun hh=>?_)|refine eD Z Z (zM Z Z Z) (fun hh=>?_) (fun hh=>?_)|refine eV Z Z (zU Z Z Z (by omega) (by omega)) ?_)|refine eV Z Z (zH Z Z) ?_)|(refine at_K ?_;first|refine K_then ?_|refine K_in ?_|refine K_then_exit ?_|refine K_in_exit ?_)|(refine at_E ?_;first|refine E_seq ?_|refine E_region ?_|refine E_cond_t Z ?_|refine E_cond_f Z ?_|refine E_block ?_|refine E_skip ?_|refine E_exit ?_)))
    all_goals (try (exfalso;omega))
    refine EL_storeP (cs:=[_,_,_,_,_,_,_,_]) (rA0.ext hx) (xA.trans hx) hwB rfl rfl rfl rfl rfl rfl rfl rfl (Nat.le_refl _) (fun w9 r9 x9 k9=>?_)
    (repeat' (first|(refine at_EL ?_;first|refine eN ?_|refine eV Z Z (zB Z Z) ?_)|(refine at_K ?_;first|refine K_then ?_|refine K_then_ret ?_|refine K_in_ret ?_)|(refine at_E ?_;first|refine E_ret ?_)))
    exact ret_ct Z Z Z r9.at rfl rfl ⟨rfl,x9⟩
  · obtain⟨x,hx1⟩:∃ x,lex[i]?=some x:=⟨_,List.getElem?_eq_getElem (by omega)⟩
    have hne:=hlow i x (by omega) hx1
    obtain⟨d0,f0,d1,f1,d2,f2,d3,f3,d4,f4,hat2,_⟩:=en_elem (hv0.ext hX) hx1
    (repeat' (first|refine eV Z Z (val_load Z Z Z (At.cellAt (by assumption) (by rfl))) ?_|refine eV Z Z (val_loadA Z Z Z (by assumption) (by rfl)) ?_|refine eV Z Z (val_indexAddr (m:=i) Z Z Z Z (by omega)) ?_|(refine at_EL ?_;first|refine eN ?_|refine eV Z Z (zA Z Z) ?_|refine eV Z Z (zB Z Z) ?_|(refine at_bin ?_;first|refine eD Z Z (zL Z Z Z) (fun hh=>?_) (fun hh=>?_)|refine eD Z Z (zM Z Z Z) (fun hh=>?_) (fun hh=>?_)|refine eV Z Z (zU Z Z Z (by omega) (by omega)) ?_)|refine eV Z Z (zH Z Z) ?_)|(refine at_K ?_;first|refine K_then ?_|refine K_in ?_|refine K_then_exit ?_|refine K_in_exit ?_)|(refine at_E ?_;first|refine E_seq ?_|refine E_region ?_|refine E_cond_t Z ?_|refine E_cond_f Z ?_|refine E_block ?_|refine E_skip ?_|refine E_exit ?_)))
    all_goals (try (exfalso;omega))
    exact K_rnd (i+1) ⟨rfl,rfl,rfl,rfl,rfl,trivial⟩ ⟨by omega,hx⟩ (by omega)
set_option maxHeartbeats 4000000 in
set_option maxRecDepth 8000 in
theorem get53_none {lex:List En} {id:Int} (hg:getE lex id=none) (ev:Value) (w:World) (hv:Sl w ev lex):Calls Tryz.prog 53 #[ev,int id] w (Rt fun u w2=>u=.tuple #[.agg zeroE.toArray,.bool false]∧Ext w w2):=by
  have hall:=getE_none hg
  have hv0:=hv
  obtain⟨a,cap,rfl,hc,hm,hp⟩:=hv.sl
  refine calls_E (n:=25) (args:=[.slice a lex.length cap,int id]) Tryz.func53 rfl Tryz.ntmps53 (by simp) ?_
  refine E_seq ?_
  refine E_region ?_
  refine EL_alloc Z Z Z (fun bA wA xA hbA rA0=>?_)
  have hwB:w.heap.size≤bA:=by omega
  (repeat' (first|(refine at_EL ?_;first|refine eN ?_|refine eV Z Z (zA Z Z) ?_|refine eV Z Z (zB Z Z) ?_|(refine at_call ?_;first|refine eV Z Z (zK Z Z) ?_))|(refine at_K ?_;first|refine K_then ?_)|(refine at_E ?_;first|refine E_seq ?_|refine E_region ?_|refine E_block ?_)))
  refine E_loop (ι:=Nat) (fun i=>[(0,.slice a lex.length cap),(1,int id),(4,.pointer (some ⟨bA,0,none⟩)),(8,int lex.length),(9,int i)])
    (fun i wr=>i≤lex.length∧Ext wA wr) (fun i=>lex.length-i) 0
    ⟨rfl,rfl,rfl,rfl,rfl,trivial⟩ ⟨Nat.zero_le _,Ext.refl _⟩ ?_
  rintro i wr ⟨hi,hx⟩
  have hX:=xA.trans hx
  by_cases hlt:i<lex.length
  · obtain⟨b,off,rfl⟩:=hp (by omega)
    obtain⟨x,hx1⟩:∃ x,lex[i]?=some x:=⟨_,List.getElem?_eq_getElem (by omega)⟩
    have hne:=hall x (List.mem_of_getElem? hx1)
    obtain⟨d0,f0,d1,f1,d2,f2,d3,f3,d4,f4,hat2,_⟩:=en_elem (hv0.ext hX) hx1
    (repeat' (first|refine eV Z Z (val_load Z Z Z (At.cellAt (by assumption) (by rfl))) ?_|refine eV Z Z (val_loadA Z Z Z (by assumption) (by rfl)) ?_|refine eV Z Z (val_indexAddr (m:=i) Z Z Z Z (by omega)) ?_|(refine at_EL ?_;first|refine eN ?_|refine eV Z Z (zA Z Z) ?_|refine eV Z Z (zB Z Z) ?_|(refine at_bin ?_;first|refine eD Z Z (zL Z Z Z) (fun hh=>?_) (fun hh=>?_)|refine eD Z Z (zM Z Z Z) (fun hh=>?_) (fun hh=>?_)|refine eV Z Z (zU Z Z Z (by omega) (by omega)) ?_)|refine eV Z Z (zH Z Z) ?_)|(refine at_K ?_;first|refine K_then ?_|refine K_in ?_|refine K_then_exit ?_|refine K_in_exit ?_)|(refine at_E ?_;first|refine E_seq ?_|refine E_region ?_|refine E_cond_t Z ?_|refine E_cond_f Z ?_|refine E_block ?_|refine E_skip ?_|refine E_exit ?_)))
    all_goals (try (exfalso;omega))
    exact K_rnd (i+1) ⟨rfl,rfl,rfl,rfl,rfl,trivial⟩ ⟨by omega,hx⟩ (by omega)
  · (repeat' (first|refine eV Z Z (val_build (vs:=[]) zeroE rfl rfl rfl) ?_|(refine at_EL ?_;first|refine eN ?_|refine eV Z Z (zA Z Z) ?_|refine eV Z Z (zB Z Z) ?_|(refine at_bin ?_;first|refine eD Z Z (zL Z Z Z) (fun hh=>?_) (fun hh=>?_)))|(refine at_K ?_;first|refine K_then ?_|refine K_then_exit ?_|refine K_in_exit ?_)|(refine at_E ?_;first|refine E_seq ?_|refine E_region ?_|refine E_cond_t Z ?_|refine E_cond_f Z ?_|refine E_block ?_|refine E_skip ?_|refine E_exit ?_)))
    all_goals (try (exfalso;omega))
    refine EL_storeP (cs:=zeroE) (rA0.ext hx) (xA.trans hx) hwB rfl rfl rfl rfl rfl rfl rfl rfl (Nat.le_refl _) (fun w9 r9 x9 k9=>?_)
    (repeat' (first|(refine at_EL ?_;first|refine eN ?_|refine eV Z Z (zB Z Z) ?_)|(refine at_K ?_;first|refine K_then ?_)|(refine at_E ?_;first|refine E_ret ?_)))
    exact ret_ct Z Z Z r9.at rfl rfl ⟨rfl,x9⟩
end Go.Proofs.YtjicdgejhkgpgaaGreatDoor
namespace Go.Proofs.YtjicdgejhkgpgaaGreatDoor
open Go.RowKit Go.En Go.Pv
def idxE (lex:List En) (id:Int):Int:=match lex.findIdx? (fun e=>e.id==id) with|some i=>(i:Int)|none => -1
theorem idx_some {lex:List En} {id:Int} {e:En} (h:getE lex id=some e):∃ i:Nat,idxE lex id=(i:Int)∧lex[i]?=some e:=by
  obtain⟨i,hi,he,hall⟩:=getE_at h
  refine⟨i,?_,hi⟩
  unfold idxE
  obtain⟨hl,hx⟩:=List.getElem?_eq_some_iff.1 hi
  have:lex.findIdx? (fun e=>e.id==id)=some i:=by
    rw [List.findIdx?_eq_some_iff_getElem]
    refine⟨hl,by rw [hx];simpa using he,fun j hj=>?_⟩
    have:=hall j _ hj (List.getElem?_eq_getElem (by omega))
    simpa using this
  rw [this]
theorem idx_none {lex:List En} {id:Int} (h:getE lex id=none):idxE lex id = -1:=by
  unfold idxE
  have:lex.findIdx? (fun e=>e.id==id)=none:=by
    rw [List.findIdx?_eq_none_iff]
    intro x hx
    simpa using getE_none h x hx
  rw [this]
attribute [local irreducible] E EL K Val Enters Rt Calls bodyPost Code.wp RQ
end Go.Proofs.YtjicdgejhkgpgaaGreatDoor
namespace Go.En
open Go.RowKit
section
variable {P : Program} {n : Nat} {Q : Post} {ops : List Oper}
abbrev Rg:=Nat × Nat × Bool
def pushF (x:Option (Nat × Value)) (L:List (Nat × Value)):List (Nat × Value):=match x with|some y=>y::L|none=>L
def frame:List (Nat × Value)→List (Option (Nat × Value))→Nat→List (Nat × Value)
  | L,x::xs,i+1=>frame (pushF x L) xs i
  | L,_,_=>L
def VClause (P:Program) (ws:Nat→World) (L:List (Nat × Value)) (o:Oper) (x:Option (Nat × Value)) (g:Rg):Prop:=
  match g,x with
  | (lo,hi,true),some y=>∀ p,lo≤p→p≤hi→Val P L (ws p) o y.2
  | (_,_,true),none=>False
  | (q,_,false),some y=>∀ ρ,Agree L o ρ→(execOp ρ o).run P (ws q)=.ok (.value y.2) (ws (q+1))
  | (q,_,false),none=>∀ ρ,Agree L o ρ→(execOp ρ o).run P (ws q)=.ok .skip (ws (q+1))
def VQ (P:Program) (ws:Nat→World):List (Nat × Value)→List Oper→List (Option (Nat × Value))→List Rg→Prop
  | L,o::r,x::xs,g::gs=>VClause P ws L o x g∧VQ P ws (pushF x L) r xs gs
  | _,[],[],[]=>True
  | _,_,_,_=>False
theorem VQ.get {ws:Nat→World}:∀ {ops:List Oper} {L:List (Nat × Value)} {xs:List (Option (Nat × Value))} {gs:List Rg},VQ P ws L ops xs gs→∀ {i:Nat} {o:Oper},ops[i]?=some o→∃ x g,xs[i]?=some x∧gs[i]?=some g∧VClause P ws (frame L xs i) o x g
  | o::r,L,x::xs,g::gs,h,0,o',ho=>by
    simp at ho;subst ho
    exact⟨x,g,rfl,rfl,h.1⟩
  | o::r,L,x::xs,g::gs,h,i+1,o',ho=>by
    obtain⟨x',g',h1,h2,h3⟩:=VQ.get h.2 (i:=i) (by simpa using ho)
    exact⟨x',g',by simpa using h1,by simpa using h2,h3⟩
  | [],_,_,_,_,i,_,ho=>by simp at ho
  | _::_,_,[],_,h,_,_,_=>h.elim
  | _::_,_,_::_,[],h,_,_,_=>h.elim
structure JS (n:Nat) (L0:List (Nat × Value)) (Lr:List (Option (Nat × Value))) (ss:List Nat) (ws:Nat→World) (ops:List Oper) (C:Nat→Prop) (a:Act) (w:World):Prop where
  size:a.tmps.size=n
  nod:a.defers=[]
  base:∀ s v,lk L0 s=some v→(∀ j o,C j→ops[j]?=some o→o.dst≠some s)→a.tmps[s]?=some v
  reads:∀ j s v,C j→Lr[j]?=some (some (s,v))→a.tmps[s]?=some v
  ph:∃ p,p≤ss.length∧(∀ q i,ss[q]?=some i→(C i↔q<p))∧w=ws p
theorem step_app {L:List (Nat × Value)} {w w':World} {o:Oper} {t:TypeId} {s x:Operand} {v v' u:Value} (ho:o.op=.call { callee:=.builtin .append,args:=#[s,x],argTypes:=#[t,t] }) (hs:ev L s=some v) (hx:ev L x=some u)
    (hr:(Builtin.append_ #[t,t] o.type #[v,u]).run P w=.ok v' w'):∀ ρ,Agree L o ρ→(execOp ρ o).run P w=.ok (.value v') w':=fun ρ ha=>by
  have a1:=ha.ev (by rw [ho];simp [Op.operands,Call.operands]) hs
  have a2:=ha.ev (by rw [ho];simp [Op.operands,Call.operands]) hx
  simp only [execOp,ho,resolve,invoke,builtin,Sem.run_bind,Sem.run_pure,Result.andThen_ok,List.map_toArray,List.map_cons,List.map_nil,a1,a2,hr]
end
end Go.En
namespace Go.En
open Go.RowKit
section
variable {P : Program} {n : Nat} {Q : Post} {ops : List Oper}
def upd (δ:Nat→Value) (d:Option Tmp) (v:Value):Nat→Value:=fun s=>if d=some s then v else δ s
structure JU (n:Nat) (Φ:(Nat→Prop)→(Nat→Value)→World→Prop) (C:Nat→Prop) (a:Act) (w:World):Prop where
  size:a.tmps.size=n
  nod:a.defers=[]
  phi:Φ C (fun s=>a.tmps.getD s undef) w
theorem app_exO {w : World} (t ty : TypeId) {e : TypeId} {z : Value} {size bytes : Nat} [ut : UT P t (.slice e)] [ti : TI P e z size bytes] {v : Value} {w0 : World} {m : Nat} {xs : List Value} {a : Option Addr} {q : Nat} (c : Nat) {news : List Value}
    (hown:w.ownsRow w0.heap.size e size v m xs) (x0:Ext w0 w) (hnews:0<q→∃ b off,a=some ⟨b,off,none⟩∧At w b off news) (hl:news.length=q*size)
    (h1:news.all Value.oneCell'=true) (hz:z.cells.size=size) (hsz:Nat.ble 1 size=true) (hmax:(m+q)*bytes≤140737488355328) (hmax':m+q≤9223372036854775807) :
    ∃ v' w',(Builtin.append_ #[t,t] ty #[v,.slice a q c]).run P w=.ok v' w'∧w'.ownsRow w0.heap.size e size v' (m+q) (xs++news)∧Ext w0 w'∧Kb v.ownBlock w w'∧(v'.ownBlock=v.ownBlock∨v'.ownBlock=some w.heap.size):=by
  obtain⟨i0,hi,hz0,hz1,hz2⟩:=info_parts ti.i
  cases a with
  | none=>
    have hq:q=0:=by
      by_cases h0:0<q
      · obtain⟨_,_,e1,_⟩:=hnews h0;cases e1
      · omega
    subst hq
    obtain rfl:news=[]:=List.length_eq_zero_iff.1 (by rw [hl,Nat.zero_mul])
    have hr:=append_owned_none (P:=P) (w:=w) (ty:=ty) (c:=c) ut.u hi hown
    exact⟨v,w,hr,by simpa using hown,x0,World.grownBy.refl _ _,.inl rfl⟩
  | some ad=>
    have hat:∀ j u,news[j]?=some u→w.cell? (ad.add j)=some u:=by
      by_cases h0:0<q
      · obtain⟨b,off,e1,hat⟩:=hnews h0
        cases e1
        exact fun j u hu=>by rw [addr_add];exact hat j u hu
      · obtain rfl:news=[]:=List.length_eq_zero_iff.1 (by rw [hl,show q=0 by omega,Nat.zero_mul])
        exact fun j u hu=>by simp at hu
    obtain⟨v',w',hr,h2,h3,_,h4⟩:=run_append_own_at (P:=P) (w:=w) (ty:=ty) w0.heap.size t e i0 z size bytes ut.u hi hz0 hz1 hz2 hz (Nat.le_of_ble_eq_true hsz) v m xs hown ad q c news hl hat
      (fun u hu=>List.all_eq_true.1 h1 u hu) (by unfold maxLen;omega) hmax x0.size
    exact⟨v',w',hr,h2,own_anchor hown x0 h3,h3,h4⟩
end
end Go.En
namespace Go.En
open Go.RowKit
section
variable {P : Program} {n : Nat} {Q : Post} {ops : List Oper}
def VC (P:Program) (L:List (Nat × Value)) (w0:World) (o:Oper) (v:Value):Prop:=
  (∀ w,Ext w0 w→Val P L w o v)∨(∃ f args,(∀ w,Ext w0 w→Enters P L w o f args)∧∀ w,Ext w0 w→Calls P f args w (Rt fun u w'=>u=v∧Ext w w'))
theorem vcV {L:List (Nat × Value)} {w0:World} {o:Oper} {v:Value} (h:∀ w,Ext w0 w→Val P L w o v):VC P L w0 o v:=.inl h
def VSq (P:Program) (w0:World):List (Nat × Value)→List Oper→List (Option (Nat × Value))→Prop
  | L,o::r,some x::xs=>VC P L w0 o x.2∧VSq P w0 (x::L) r xs
  | L,_::r,none::xs=>VSq P w0 L r xs
  | _,[],[]=>True
  | _,_,_=>False
theorem VSq.get {w0:World}:∀ {ops:List Oper} {L:List (Nat × Value)} {xs:List (Option (Nat × Value))},VSq P w0 L ops xs→∀ {i:Nat} {o:Oper} {y:Nat × Value},ops[i]?=some o→xs[i]?=some (some y)→VC P (frame L xs i) w0 o y.2
  | o::r,L,some x::xs,h,0,o',y,ho,hy=>by
    simp at ho hy;subst ho;subst hy
    exact h.1
  | o::r,L,some x::xs,h,i+1,o',y,ho,hy=>VSq.get (L:=x::L) h.2 (i:=i) (by simpa using ho) (by simpa using hy)
  | o::r,L,none::xs,h,0,o',y,ho,hy=>by simp at hy
  | o::r,L,none::xs,h,i+1,o',y,ho,hy=>VSq.get (ops:=r) (xs:=xs) (L:=L) (show VSq P w0 L r xs from h) (i:=i) (by simpa using ho) (by simpa using hy)
  | [],_,_,_,i,_,_,ho,_=>by simp at ho
  | _::_,_,[],h,_,_,_,_,_=>h.elim
structure JO (n:Nat) (L0:List (Nat × Value)) (Lr:List (Option (Nat × Value))) (w0:World) (ops:List Oper) (ia is p:Nat) (t:TypeId) (Zc X:List Value) (C:Nat→Prop) (a:Act) (w:World):Prop where
  size:a.tmps.size=n
  nod:a.defers=[]
  ext:Ext w0 w
  base:∀ s v,lk L0 s=some v→(∀ j o,C j→ops[j]?=some o→o.dst≠some s)→a.tmps[s]?=some v
  reads:∀ j s v,C j→Lr[j]?=some (some (s,v))→a.tmps[s]?=some v
  hp:C ia→∃ b,a.tmps[p]?=some (.pointer (some ⟨b,0,none⟩))∧w0.heap.size≤b∧(C is→Row w b t X)∧(¬ C is→Row w b t Zc)
end
end Go.En
namespace Go.Proofs.YtjicdgejhkgpgaaGreatDoor
open Go.RowKit Go.En Go.Pv
attribute [local irreducible] E EL K Val Enters Rt Calls bodyPost Code.wp RQ
end Go.Proofs.YtjicdgejhkgpgaaGreatDoor
namespace Go.Proofs.YtjicdgejhkgpgaaGreatDoor
open Go.RowKit Go.En Go.Pv
attribute [local irreducible] E EL K Val Enters Rt Calls bodyPost Code.wp RQ
end Go.Proofs.YtjicdgejhkgpgaaGreatDoor
