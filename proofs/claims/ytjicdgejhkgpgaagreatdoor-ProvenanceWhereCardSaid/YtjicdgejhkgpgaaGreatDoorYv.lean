/-
  Walks: the program's search for analyses: fits. Walks: the closure of Uses. Walks: the program's search for analyses: walk, out of step.
-/
import Derived.Test.YtjicdgejhkgpgaaGreatDoorYs
import Derived.Test.YtjicdgejhkgpgaaGreatDoorYu
import Derived.Test.YtjicdgejhkgpgaaGreatDoorYj
set_option linter.all false
namespace Go.Proofs.YtjicdgejhkgpgaaGreatDoor
open Go.RowKit Go.En Go.Pv
structure Kx (T:Nat→Prop) (w w':World):Prop where
  os:w'.os=w.os
  tape:w'.tape=w.tape
  output:w'.output=w.output
  size:w.heap.size≤w'.heap.size
  block:∀ k,k<w.heap.size→¬ T k→w'.heap[k]?=w.heap[k]?
theorem Kx.of_ext {T:Nat→Prop} {w w':World} (x:Ext w w'):Kx T w w':=⟨Below.os x,Below.tape x,Below.output x,x.size,fun _ hk _=>x.block hk⟩
theorem Kx.of_kb {T:Nat→Prop} {b:Nat} {w w':World} (k:Kb (some b) w w') (hb:T b):Kx T w w':=⟨k.os,k.tape,k.output,k.size,fun q hq hn=>World.grownBy.block k q hq (fun e=>hn (by cases e;exact hb))⟩
theorem Kx.trans {T:Nat→Prop} {a b c:World} (h:Kx T a b) (k:Kx T b c):Kx T a c:=
  ⟨k.os.trans h.os,k.tape.trans h.tape,k.output.trans h.output,Nat.le_trans h.size k.size,fun q hq hn=>(k.block q (Nat.lt_of_lt_of_le hq h.size) hn).trans (h.block q hq hn)⟩
theorem Kx.wk {T T':Nat→Prop} {a b:World} (h:Kx T a b) (hT:∀ q,T q→T' q):Kx T' a b:=⟨h.os,h.tape,h.output,h.size,fun q hq hn=>h.block q hq (fun ht=>hn (hT q ht))⟩
theorem Kx.mv {T:Nat→Prop} {w w':World} (h:Kx T w w') {G:Nat→Prop} (hG:∀ b,G b→¬ T b):∀ b,G b→b<w.heap.size→G b∧w'.heap[b]?=w.heap[b]?:=fun b hb hlt=>⟨hb,h.block b hlt (hG b hb)⟩
theorem Kx.row {T:Nat→Prop} {w w':World} (h:Kx T w w') {b:Nat} {e:TypeId} {cs:List Value} (hr:Row w b e cs) (hb:¬ T b):Row w' b e cs:=(h.block b hr.lt hb).trans hr
theorem Kx.ext {T:Nat→Prop} {w w':World} (h:Kx T w w') (hT:∀ b,b<w.heap.size→¬ T b):Ext w w':=⟨h.os,h.tape,h.output,h.size,fun q hq=>h.block q hq (hT q hq)⟩
theorem Kx.from {T:Nat→Prop} {w0 w w':World} (h:Kx T w w') (x:Ext w0 w) (hT:∀ b,b<w0.heap.size→¬ T b):Ext w0 w':=
  ⟨h.os.trans (Below.os x),h.tape.trans (Below.tape x),h.output.trans (Below.output x),Nat.le_trans x.size h.size,fun q hq=>(h.block q (Nat.lt_of_lt_of_le hq x.size) (hT q hq)).trans (x.block hq)⟩
def OKb (l:List Int):Prop:=∀ x∈l,1≤x∧x≤8
def fitB (g:Lg) (ws base:List Int):Bool:=decide ((lastF bandI g.segs g.rules base).length≠0)&&decide (lastF bandI g.segs g.rules base=ws)
def Tried (g:Lg) (ws:List Int) (w:World) (bT:Nat):Prop:=∃ f:List UInt8→Option Value,MapK w bT f∧∀ k v,f k=some v→∃ b,v=.bool b∧∀ base,OKb base→keyF base=k→b=fitB g ws base
theorem Tried.ext {g:Lg} {ws:List Int} {w w':World} {bT:Nat} (h:Tried g ws w bT) (x:Ext w w'):Tried g ws w' bT:=by
  obtain⟨f,h1,h2⟩:=h;exact⟨f,h1.ext x,h2⟩
theorem okb_byte {l:List Int} (h:OKb l):∀ x∈l,0≤x∧x<256:=fun x hx=>by have:=h x hx;omega
theorem okb_ne {l:List Int} (h:OKb l):∀ x∈l,x≠0:=fun x hx=>by have:=h x hx;omega
attribute [local irreducible] E EL K Val Enters Rt Calls bodyPost Code.wp RQ
set_option maxHeartbeats 8000000 in
set_option maxRecDepth 8000 in
theorem fits139_any (g : Lg) (hok : ∀ r ∈ g.rules, RulOK r) (pv uv tv rv sv fv ev wv fnv : Value) (sh : Bool) (fin : Nat) (bS bT : Nat) (ws base : List Int) (bv : Value) (w : World) (hb : OKb base) (hbl : base.length ≤ 1000)
    (rS:Row w bS 178 (srC g pv uv tv rv sv fv ev wv (.map (some bT)) fnv sh fin)) (hT:Tried g ws w bT) (hp:Sl w pv g.segs) (hr:Sl w rv g.rules) (hw:Sl w wv ws) (hbv:Sl w bv base) :
    Calls Tryz.prog 139 #[.pointer (some ⟨bS,0,none⟩),bv] w (Rt fun u w'=>u=.bool (fitB g ws base)∧Kx (fun b=>b=bT) w w'∧Tried g ws w' bT):=by
  obtain⟨f,hM,hf⟩:=hT
  unfold srC at rS
  refine calls_E (n:=53) (args:=[.pointer (some ⟨bS,0,none⟩),bv]) Tryz.func139 rfl Tryz.ntmps139 (by simp) ?_
  have hX:=Ext.refl w
  have ck:=fun wz hz=>key182_any base (okb_byte hb) hbl bv wz hz
  cases hfk:f (keyF base) with
  | some v=>
    obtain⟨b,rfl,hbb⟩:=hf _ _ hfk
    have hfit:=hbb base hb rfl
    rw [← hfit]
    (repeat' (first|refine eV Z Z (val_load Z Z Z (Row.cellAt (by assumption) (by rfl))) ?_|(refine EL_call Z Z (entersF Z Z en182) (ck _ hbv) (fun vC wC hC=>?_);obtain⟨rfl,xC⟩:=hC;replace hX:=hX.trans xC;replace rS:=rS.ext xC;replace hM:=hM.ext xC)|(refine eV Z Z (val_lookupOk (k:=keyF base) hM rfl rfl rfl) ?_;rw [hfk])|(refine at_EL ?_;first|refine eN ?_|refine eV Z Z (zA Z Z) ?_|refine eV Z Z (zB Z Z) ?_|refine eV Z Z (zF Z Z Z) ?_|refine eV Z Z (zG Z Z) ?_|refine eV Z Z (zH Z Z) ?_)|(refine at_K ?_;first|refine K_then ?_|refine K_then_ret ?_)|(refine at_E ?_;first|refine E_seq ?_|refine E_region ?_|refine E_cond_t Z ?_|refine E_ret ?_)))
    exact ret_1 Z Z ⟨rfl,Kx.of_ext hX,f,hM,hf⟩
  | none=>
    obtain⟨V,hV⟩:∃ V,V=lastF bandI g.segs g.rules base:=⟨_,rfl⟩
    have hfit:fitB g ws base=(decide (V.length≠0)&&decide (V=ws)):=by unfold fitB;rw [← hV]
    (repeat' ((fail_if_success (refine E_seq (x:=(Code.region 5 _ _)) ?_));first|refine eV Z Z (val_load Z Z Z (Row.cellAt (by assumption) (by rfl))) ?_|(refine EL_call Z Z (entersF Z Z en182) (ck _ hbv) (fun vC wC hC=>?_);obtain⟨rfl,xC⟩:=hC;replace hX:=hX.trans xC;replace rS:=rS.ext xC;replace hM:=hM.ext xC;replace hp:=hp.ext xC;replace hr:=hr.ext xC;replace hw:=hw.ext xC;replace hbv:=hbv.ext xC)|(refine eV Z Z (val_lookupOk (k:=keyF base) hM rfl rfl rfl) ?_;rw [hfk])|(refine at_EL ?_;first|refine eN ?_|refine eV Z Z (zA Z Z) ?_|refine eV Z Z (zB Z Z) ?_|refine eV Z Z (zF Z Z Z) ?_|refine eV Z Z (zG Z Z) ?_|refine eV Z Z (zH Z Z) ?_)|(refine at_K ?_;first|refine K_then ?_)|(refine at_E ?_;first|refine E_seq ?_|refine E_region ?_|refine E_cond_f Z ?_|refine E_skip ?_)))
    refine E_seq ?_
    refine E.sub (M:=[(0,.pointer (some ⟨bS,0,none⟩)),(1,bv),(5,str (keyF base))]) ⟨rfl,rfl,rfl,trivial⟩ ?_
    have hI:At _ bS (0+0) [pv]:=At.sub (xs:=[]) (ys:=[pv]) (zs:=[str g.oname,uv,tv,rv,int g.net.states,sv,fv,ev,wv,.bool sh,.int .u32 (fin:Int),.map (some bT),fnv]) rS.at
    have cl:=fun wz h1 h2 h3=>last183_any g.segs pv g.rules rv base bv wz h1 h2 h3 hok hbl (okb_ne hb)
    rw [← hV] at cl
    (repeat' ((fail_if_success (refine E_seq (x:=(Code.region 6 _ _)) ?_));first|refine yV Z Z (fun wq _ xq=>val_load Z Z Z ((Row.ext (by assumption) xq).cellAt (by rfl))) ?_|refine yV Z Z (fun wq _ xq=>val_loadA Z Z Z (At.ext (by assumption) xq) (by rfl)) ?_|refine RQ_callR (f:=183) (fun u w'=>Sl w' u V) (fun _=>#[.agg #[pv],rv,bv]) Z Z (fun _ _ _ _ xe h=>SlG.ext h xe) (fun _ _ _=>entersF Z Z en183) (fun wq _ xq _=>calls_mono (cl wq (hp.ext xq) (hr.ext xq) (hbv.ext xq)) (fun _ _ hh=>⟨hh.2,hh.1⟩)) ?_|refine RQ_asgS Z Z Z Z (fun _=>rfl) ?_|(refine RQ_end (fun wq δ xq hR=>?_);have hF:=hR 8 _ rfl)|(refine at_EL ?_;first|refine eN ?_)|(refine at_K ?_;first|refine K_then ?_)|(refine at_E ?_;first|refine E_dq mixedOk (by kernel_rfl) Z ?_)|(refine at_RQ ?_;first|refine yV Z Z (fun _ _ _=>zA Z Z) ?_|refine yV Z Z (fun _ _ _=>zG Z Z) ?_|refine yV Z Z (fun _ _ _=>zH Z Z) ?_)))
    all_goals (try (exfalso;omega))
    replace hX:=hX.trans xq;replace rS:=rS.ext xq;replace hM:=hM.ext xq;replace hw:=hw.ext xq
    obtain⟨va,vc,e8,_,_,_⟩:=SlG.sl hF
    rw [e8] at hF
    refine E.sub (M:=[(0,.pointer (some ⟨bS,0,none⟩)),(5,str (keyF base)),(8,.slice va V.length vc)]) ⟨rfl,rfl,congrArg some e8,trivial⟩ ?_
    have ce:=fun wz h1 h2=>equal184_any V ws (.slice va V.length vc) wv wz h1 h2
    have upd:∀(b:Bool) (w1 w2:World),b=fitB g ws base→MapK w2 bT (fun j=>if j=keyF base then some (.bool b) else f j)→Tried g ws w2 bT:=fun b w1 w2 he hm=>⟨_,hm,fun k v hk=>by
      by_cases ek:k=keyF base
      · subst ek
        simp at hk;subst hk
        exact⟨b,rfl,fun base' h1 h2=>by rw [keyF_inj (okb_byte h1) (okb_byte hb) h2];exact he⟩
      · rw [if_neg ek] at hk
        exact hf k v hk⟩
    by_cases h0:V.length=0
    · have hfF:fitB g ws base=false:=by rw [hfit,h0];rfl
      rw [hfF]
      (repeat' (first|refine eV Z Z (val_load Z Z Z (Row.cellAt (by assumption) (by rfl))) ?_|(refine EL_mapUpdateK (k:=keyF base) hM rfl rfl rfl rfl rfl rfl (fun wU hU kU=>?_))|(refine at_EL ?_;first|refine eN ?_|refine eO Z Z ?_|refine eV Z Z (zA Z Z) ?_|refine eV Z Z (zB Z Z) ?_|(refine at_bin ?_;first|refine eD Z Z (zO Z Z Z) (fun hh=>?_) (fun hh=>?_))|(refine at_call ?_;first|refine eV Z Z (zK Z Z) ?_)|refine eV Z Z (zD Z Z Z) ?_|refine eV Z Z (zG Z Z) ?_|refine eV Z Z (zH Z Z) ?_)|(refine at_K ?_;first|refine K_then ?_)|(refine at_E ?_;first|refine E_seq ?_|refine E_region ?_|refine E_ret ?_)))
      all_goals (try (exfalso;omega))
      exact ret_1 Z Z ⟨rfl,(Kx.of_ext hX).trans (Kx.of_kb kU rfl),upd false wU wU hfF.symm hU⟩
    · have hfF:fitB g ws base=decide (V=ws):=by rw [hfit,decide_eq_true h0,Bool.true_and]
      obtain⟨b,hbd⟩:∃ b,decide (V=ws)=b:=⟨_,rfl⟩
      rw [hbd] at ce hfF
      rw [hfF]
      (repeat' (first|refine eV Z Z (val_load Z Z Z (Row.cellAt (by assumption) (by rfl))) ?_|(refine EL_call Z Z (entersF Z Z en184) (ce _ hF hw) (fun vC wC hC=>?_);obtain⟨rfl,xC⟩:=hC;replace hX:=hX.trans xC;replace rS:=rS.ext xC;replace hM:=hM.ext xC)|(refine EL_mapUpdateK (k:=keyF base) hM rfl rfl rfl rfl rfl rfl (fun wU hU kU=>?_))|(refine at_EL ?_;first|refine eN ?_|refine eO Z Z ?_|refine eV Z Z (zA Z Z) ?_|refine eV Z Z (zB Z Z) ?_|(refine at_bin ?_;first|refine eD Z Z (zO Z Z Z) (fun hh=>?_) (fun hh=>?_))|(refine at_call ?_;first|refine eV Z Z (zK Z Z) ?_)|refine eV Z Z (zC Z Z Z) ?_|refine eV Z Z (zD Z Z Z) ?_|refine eV Z Z (zG Z Z) ?_|refine eV Z Z (zH Z Z) ?_)|(refine at_K ?_;first|refine K_then ?_)|(refine at_E ?_;first|refine E_seq ?_|refine E_region ?_|refine E_ret ?_)))
      all_goals (try (exfalso;omega))
      exact ret_1 Z Z ⟨rfl,(Kx.of_ext hX).trans (Kx.of_kb kU rfl),upd b wU wU hfF.symm hU⟩
end Go.Proofs.YtjicdgejhkgpgaaGreatDoor
namespace Go.Proofs.YtjicdgejhkgpgaaGreatDoor
open Go.RowKit Go.En Go.Pv
theorem hit_take {id:Int} {a:List Prt} {i:Nat} {p:Prt} (h:a[i]?=some p):Go.Pv.hitB id (a.take (i+1))=(Go.Pv.hitB id (a.take i)||p.entry==id):=by
  obtain⟨h1,h2⟩:=List.getElem?_eq_some_iff.1 h
  unfold Go.Pv.hitB
  rw [List.take_succ_eq_append_getElem h1,h2,List.any_append];simp
attribute [local irreducible] E EL K Val Enters Rt Calls bodyPost Code.wp RQ
set_option maxHeartbeats 4000000 in
set_option maxRecDepth 8000 in
theorem uses71_any (id:Int) (a:List Prt) (bI bU:Nat) (b0:Bool) (av bv:Value) (w:World) (hne:bI≠bU) (ha:SlG (fun b=>b≠bU) w av a) (hI:Row w bI 3 [int id]) (hU:Row w bU 4 [.bool b0]) :
    Calls Tryz.prog 71 #[av,bv,.pointer (some ⟨bI,0,none⟩),.pointer (some ⟨bU,0,none⟩)] w (Rt fun u w'=>u=.bool (!(b0||Go.Pv.hitB id a))∧Kx (fun b=>b=bU) w w'∧Row w' bU 4 [.bool (b0||Go.Pv.hitB id a)]):=by
  have ha0:=ha
  obtain⟨aa,ac,rfl,_,hm,hp⟩:=ha.sl
  refine calls_E (n:=22) (args:=[.slice aa a.length ac,bv,.pointer (some ⟨bI,0,none⟩),.pointer (some ⟨bU,0,none⟩)]) Tryz.func71 rfl Tryz.ntmps71 (by simp) ?_
  (repeat' (first|(refine at_EL ?_;first|refine eN ?_|refine eV Z Z (zA Z Z) ?_|refine eV Z Z (zB Z Z) ?_|(refine at_call ?_;first|refine eV Z Z (zK Z Z) ?_))|(refine at_K ?_;first|refine K_then ?_)|(refine at_E ?_;first|refine E_seq ?_|refine E_region ?_|refine E_block ?_)))
  refine E_loop (ι:=Nat) (fun i=>[(2,.pointer (some ⟨bI,0,none⟩)),(3,.pointer (some ⟨bU,0,none⟩)),(9,.slice aa a.length ac),(10,int a.length),(11,int i)])
    (fun i wr=>i≤a.length∧Kx (fun b=>b=bU) w wr∧Row wr bU 4 [.bool (b0||Go.Pv.hitB id (a.take i))]) (fun i=>a.length-i) 0
    ⟨rfl,rfl,rfl,rfl,rfl,trivial⟩ ⟨Nat.zero_le _,Kx.of_ext (Ext.refl _),by simpa [Go.Pv.hitB] using hU⟩ ?_
  rintro i wr ⟨hi,hk,hUr⟩
  have hIr:=hk.row hI hne
  have har:=ha0.move (hk.mv (fun b hb=>hb))
  by_cases hlt:i<a.length
  · obtain⟨b,off,rfl⟩:=hp (by omega)
    obtain⟨p,hpi⟩:∃ p,a[i]?=some p:=⟨_,List.getElem?_eq_getElem hlt⟩
    have hat:=prt_elem har hpi
    have hh2:=hit_take (id:=id) hpi
    have hXr:=Ext.refl wr
    by_cases hpe:p.entry=id
    · have e1:(p.entry==id)=true:=by simpa using hpe
      rw [e1,Bool.or_true] at hh2
      (repeat' (first|(refine EL_var Z Z Z Z Z Z Z Z Z Z (fun bN wN xN hbN rN=>?_);replace hXr:=hXr.trans xN;replace hIr:=hIr.ext xN;replace hUr:=hUr.ext xN)|refine eV Z Z (val_load Z Z Z (Row.cellAt (by assumption) (by rfl))) ?_|refine eV Z Z (val_loadA Z Z Z (by assumption) (by rfl)) ?_|refine eV Z Z (val_indexAddr (m:=i) Z Z Z (by first|rfl|omega) (by omega)) ?_|(refine EL_store Z Z Z Z Z Z Z hUr (Nat.le_refl _) (fun wU rU kU _=>?_))|(refine at_EL ?_;first|refine eN ?_|refine eV Z Z (zA Z Z) ?_|refine eV Z Z (zB Z Z) ?_|(refine at_bin ?_;first|refine eD Z Z (zL Z Z Z) (fun hh=>?_) (fun hh=>?_)|refine eD Z Z (zM Z Z Z) (fun hh=>?_) (fun hh=>?_)|refine eV Z Z (zU Z Z Z (by omega) (by omega)) ?_)|refine eV Z Z (zE Z Z) ?_|refine eV Z Z (zH Z Z) ?_)|(refine at_K ?_;first|refine K_then ?_|refine K_in ?_|refine K_then_exit ?_|refine K_in_exit ?_)|(refine at_E ?_;first|refine E_seq ?_|refine E_region ?_|refine E_cond_t Z ?_|refine E_cond_f Z ?_|refine E_block ?_|refine E_skip ?_|refine E_ret ?_|refine E_exit ?_)))
      all_goals (try (exfalso;omega))
      refine K_rnd (i+1) ⟨rfl,rfl,rfl,rfl,rfl,trivial⟩ ⟨by omega,hk.trans ((Kx.of_ext hXr).trans (Kx.of_kb kU rfl)),?_⟩ (by omega)
      rw [hh2,Bool.or_true]
      exact rU
    · have e1:(p.entry==id)=false:=by simpa using hpe
      rw [e1,Bool.or_false] at hh2
      (repeat' (first|(refine EL_var Z Z Z Z Z Z Z Z Z Z (fun bN wN xN hbN rN=>?_);replace hXr:=hXr.trans xN;replace hIr:=hIr.ext xN;replace hUr:=hUr.ext xN)|refine eV Z Z (val_load Z Z Z (Row.cellAt (by assumption) (by rfl))) ?_|refine eV Z Z (val_loadA Z Z Z (by assumption) (by rfl)) ?_|refine eV Z Z (val_indexAddr (m:=i) Z Z Z (by first|rfl|omega) (by omega)) ?_|(refine at_EL ?_;first|refine eN ?_|refine eV Z Z (zA Z Z) ?_|refine eV Z Z (zB Z Z) ?_|(refine at_bin ?_;first|refine eD Z Z (zL Z Z Z) (fun hh=>?_) (fun hh=>?_)|refine eD Z Z (zM Z Z Z) (fun hh=>?_) (fun hh=>?_)|refine eV Z Z (zU Z Z Z (by omega) (by omega)) ?_)|refine eV Z Z (zE Z Z) ?_|refine eV Z Z (zH Z Z) ?_)|(refine at_K ?_;first|refine K_then ?_|refine K_in ?_|refine K_then_exit ?_|refine K_in_exit ?_)|(refine at_E ?_;first|refine E_seq ?_|refine E_region ?_|refine E_cond_t Z ?_|refine E_cond_f Z ?_|refine E_block ?_|refine E_skip ?_|refine E_ret ?_|refine E_exit ?_)))
      all_goals (try (exfalso;omega))
      refine K_rnd (i+1) ⟨rfl,rfl,rfl,rfl,rfl,trivial⟩ ⟨by omega,hk.trans (Kx.of_ext hXr),?_⟩ (by omega)
      rw [hh2]
      exact hUr
  · obtain rfl:i=a.length:=by omega
    rw [List.take_length] at hUr
    (repeat' (first|refine eV Z Z (val_load Z Z Z (Row.cellAt (by assumption) (by rfl))) ?_|(refine at_EL ?_;first|refine eN ?_|refine eV Z Z (zB Z Z) ?_|(refine at_bin ?_;first|refine eD Z Z (zL Z Z Z) (fun hh=>?_) (fun hh=>?_))|refine eV Z Z (zE Z Z) ?_)|(refine at_K ?_;first|refine K_then ?_|refine K_then_exit ?_|refine K_in_exit ?_)|(refine at_E ?_;first|refine E_seq ?_|refine E_region ?_|refine E_cond_t Z ?_|refine E_cond_f Z ?_|refine E_block ?_|refine E_skip ?_|refine E_ret ?_|refine E_exit ?_)))
    all_goals (try (exfalso;omega))
    exact ret_1 Z Z ⟨rfl,hk,hUr⟩
end Go.Proofs.YtjicdgejhkgpgaaGreatDoor
namespace Go.Proofs.YtjicdgejhkgpgaaGreatDoor
open Go.RowKit Go.En Go.Pv
structure Srch (g:Lg) (ws:List Int) (id:Int) (pv uv tv rv sv fv ev wv:Value) (fin:Nat) (bS bT bI bU:Nat) (w:World):Prop where
  row:Row w bS 178 (srC g pv uv tv rv sv fv ev wv (.map (some bT)) (.func (.func 71) #[] #[.pointer (some ⟨bI,0,none⟩),.pointer (some ⟨bU,0,none⟩)]) (shrB g.rules) fin)
  tried:Tried g ws w bT
  segs:SlG (fun b=>b≠bT∧b≠bU) w pv g.segs
  rules:SlG (fun b=>b≠bT∧b≠bU) w rv g.rules
  steps:SlG (fun b=>b≠bT∧b≠bU) w sv g.net.steps
  lex:SlG (fun b=>b≠bT∧b≠bU) w ev g.lex
  word:SlG (fun b=>b≠bT∧b≠bU) w wv ws
  idc:Row w bI 3 [int id]
  is:Row w bU 4 [.bool false]
  n1:bS≠bT∧bS≠bU
  n2:bI≠bT∧bI≠bU
  n3:bT≠bU
def TU (bT bU:Nat):Nat→Prop:=fun b=>b=bT∨b=bU
variable {g : Lg} {ws : List Int} {id : Int} {pv uv tv rv sv fv ev wv : Value} {fin bS bT bI bU : Nat} {w w' : World}
theorem Srch.tlt (h:Srch g ws id pv uv tv rv sv fv ev wv fin bS bT bI bU w):bT<w.heap.size:=by
  obtain⟨f,h1,_⟩:=h.tried
  exact h1.lt
theorem Srch.ext (h:Srch g ws id pv uv tv rv sv fv ev wv fin bS bT bI bU w) (x:Ext w w'):Srch g ws id pv uv tv rv sv fv ev wv fin bS bT bI bU w':=
  ⟨h.row.ext x,h.tried.ext x,h.segs.ext x,h.rules.ext x,h.steps.ext x,h.lex.ext x,h.word.ext x,h.idc.ext x,h.is.ext x,h.n1,h.n2,h.n3⟩
theorem gxT {bT bU b:Nat} (h:b≠bT∧b≠bU):¬ TU bT bU b:=fun h'=>by rcases h' with h'|h';exact h.1 h';exact h.2 h'
theorem Srch.kx (h:Srch g ws id pv uv tv rv sv fv ev wv fin bS bT bI bU w) (k:Kx (TU bT bU) w w') (ht:Tried g ws w' bT) (hu:Row w' bU 4 [.bool false]):Srch g ws id pv uv tv rv sv fv ev wv fin bS bT bI bU w':=
  ⟨k.row h.row (gxT h.n1),ht,h.segs.move (k.mv fun _ hb=>gxT hb),h.rules.move (k.mv fun _ hb=>gxT hb),h.steps.move (k.mv fun _ hb=>gxT hb),h.lex.move (k.mv fun _ hb=>gxT hb),h.word.move (k.mv fun _ hb=>gxT hb),k.row h.idc (gxT h.n2),hu,h.n1,h.n2,h.n3⟩
def SRes (g:Lg) (ws:List Int) (bT bU:Nat) (w:World) (r:Bool):Value→World→Prop:=fun u w'=>u=.bool (!r)∧Kx (TU bT bU) w w'∧Tried g ws w' bT∧Row w' bU 4 [.bool r]
def belX (L:Lx) (ws:List Int) (id:Int) (k:Nat) (a:List Prt) (S:Int→Bool) (base:List Int) (e:En):Bool:=
  decide ((sensesOf L.lex e.id).length≠0)&&(formsOf e).zipIdx.any fun fi=>decide (base.length+fi.1.length≤L.most)&&(Go.Pv.hereB L ws id (a++[⟨e.id,(fi.2:Int),0⟩]) S (base++fi.1)||belB L ws id k (a++[⟨e.id,(fi.2:Int),0⟩]) S (base++fi.1))
theorem bel_succ (L:Lx) (ws:List Int) (id:Int) (k:Nat) (a:List Prt) (S:Int→Bool) (base:List Int):belB L ws id (k+1) a S base=L.lex.any fun e=>bothB L.net.states.toNat (aftB L.net.steps S e.cls) (fun _=>true)&&belX L ws id k a (aftB L.net.steps S e.cls) base e:=by
  rw [belB]
  congr 1
  funext e
  unfold belX
  rw [Bool.and_assoc]
def WalkC (g : Lg) (ws : List Int) (id : Int) (pv uv tv rv sv fv ev wv : Value) (fin : Nat) (bS bT bI bU : Nat) (k : Nat) : Prop :=
  ∀(a:List Prt) (S:Int→Bool) (m:Nat) (base:List Int) (av bv:Value) (w:World),a.length+k=4→MaskIs m S→OKb base→base.length≤24→Srch g ws id pv uv tv rv sv fv ev wv fin bS bT bI bU w→SlG (fun b=>b≠bT∧b≠bU) w av a→SlG (fun b=>b≠bT∧b≠bU) w bv base→
    Calls Tryz.prog 108 #[.pointer (some ⟨bS,0,none⟩),av,.int .u32 (m:Int),bv] w (Rt (SRes g ws bT bU w (Go.Pv.hereB (lxOf g ws) ws id a S base||belB (lxOf g ws) ws id k a S base)))
def StepC (g : Lg) (ws : List Int) (id : Int) (pv uv tv rv sv fv ev wv : Value) (fin : Nat) (bS bT bI bU : Nat) (k : Nat) : Prop :=
  ∀(e:En) (a:List Prt) (S:Int→Bool) (m:Nat) (base:List Int) (X:List Value) (av bv:Value) (w:World),e∈g.lex→a.length+(k+1)=4→MaskIs m S→OKb base→base.length≤24→Srch g ws id pv uv tv rv sv fv ev wv fin bS bT bI bU w→Rep.at_ (fun b=>b≠bT∧b≠bU) w e X→SlG (fun b=>b≠bT∧b≠bU) w av a→SlG (fun b=>b≠bT∧b≠bU) w bv base→
    Calls Tryz.prog 141 #[.pointer (some ⟨bS,0,none⟩),.agg X.toArray,av,.int .u32 (m:Int),bv] w (Rt (SRes g ws bT bU w (belX (lxOf g ws) ws id k a S base e)))
theorem aft_both {N:Net} (hok:NetOK N) {S:Int→Bool} {c:Int} {m:Nat} (h:MaskIs m (aftB N.steps S c)):(m≠0)↔bothB N.states.toNat (aftB N.steps S c) (fun _=>true)=true:=by
  rw [mask_ne h,bothB_iff]
  constructor
  · rintro⟨q,hq⟩
    obtain⟨x,hx,_,_,ht⟩:=aftB_iff.1 hq
    have:=hok.steps x hx
    exact⟨q,by omega,by omega,hq,rfl⟩
  · rintro⟨q,h0,_,hq,_⟩
    exact⟨q.toNat,by rw [Int.toNat_of_nonneg h0];exact hq⟩
theorem fin_both {N:Net} (hok:NetOK N) {S:Int→Bool} {m fin:Nat} (h:MaskIs m S) (hf:MaskIs fin (finB N)):(m &&& fin≠0)↔bothB N.states.toNat S (finB N)=true:=by
  rw [mask_ne (mask_and h hf),bothB_iff]
  constructor
  · rintro⟨q,hq⟩
    rw [Bool.and_eq_true] at hq
    have hm:(q:Int)∈N.final:=by have:=hq.2;unfold finB at this;simpa using this
    have:=hok.final q hm
    exact⟨q,by omega,by omega,hq.1,hq.2⟩
  · rintro⟨q,h0,_,h1,h2⟩
    exact⟨q.toNat,by rw [Int.toNat_of_nonneg h0,h1,h2];rfl⟩
end Go.Proofs.YtjicdgejhkgpgaaGreatDoor
