/-
  Walks: the program's Entry, Missing.
-/
import Derived.Test.YtjicdgejhkgpgaaGreatDoorXTP
import Derived.Test.YtjicdgejhkgpgaaGreatDoorYl
set_option linter.all false
namespace Go.Proofs.YtjicdgejhkgpgaaGreatDoor
open Go.RowKit Go.En Go.Pv
def entryP (ds:List Dc) (g:Lg) (id:Int):List Rf:=(entD g.lex id).refs.filter (attP ds g id)
def missP (ds:List Dc) (g:Lg):List Int:=(g.lex.filter fun e=>(entryP ds g e.id).isEmpty).map (·.id)
theorem light_text {ds:List Dc} (hL:LightDs ds):TxLen ds:=fun d hd n hn=>by
  obtain⟨i,hi⟩:=List.getElem?_of_mem hn
  have:=((hL.each d hd).notes i n hi).text.1
  omega
attribute [local irreducible] E EL K Val Enters Rt Calls bodyPost Code.wp RQ
set_option maxHeartbeats 4000000 in
set_option maxRecDepth 8000 in
theorem entry19_any {ds:List Dc} (hTx:TxLen ds) (g:Lg) (hok:LangOK g) (id:Int) (dv pv uv tv rv sv fv ev:Value) (w:World) (hv:Sl w dv ds) (hg:LangG Tt w g pv uv tv rv sv fv ev) :
    Calls Tryz.prog 19 #[dv,.agg #[pv,str g.oname,uv,tv,rv,int g.net.states,sv,fv,ev],int id] w (Rt fun u w'=>SlG (fun b=>w.heap.size≤b) w' u (entryP ds g id)∧Ext w w'):=by
  unfold entryP
  obtain⟨Y,hrepY,ce⟩:=get48_any g.lex id ev w hg.lex
  have hrl:=entD_refs hok id
  obtain⟨en,hen⟩:∃ en,en=entD g.lex id:=⟨_,rfl⟩
  rw [← hen] at hrepY hrl ⊢
  obtain⟨e0,k0,e1,k1,e2,k2,e3,k3,e4,k4,rfl,_,_,_,_,hrf⟩:=en_open hrepY
  obtain⟨_,_,ee,_,hrm,hrp⟩:=hrf.sl
  cases ee
  refine calls_E (n:=37) (args:=[dv,.agg #[pv,str g.oname,uv,tv,rv,int g.net.states,sv,fv,ev],int id]) Tryz.func19 rfl Tryz.ntmps19 (by simp) ?_
  refine E_seq ?_
  refine E_region ?_
  refine EL_boxA Z Z Z Z (fun bG wG xG hbG rG=>?_)
  have hX:=Ext.refl w
  replace hX:=hX.trans xG
  (repeat' (first|refine eV Z Z (val_load Z Z Z (Row.cellAt (by assumption) (by rfl))) ?_|(refine EL_call Z Z (entersF Z Z en48) (ce _ hX) (fun vC wC hC=>?_);obtain⟨rfl,xC⟩:=hC;replace hX:=hX.trans xC;replace rG:=rG.ext xC)|(refine EL_var Z Z Z Z Z Z Z Z Z Z (fun bE wE xE hbE rE=>?_);replace hX:=hX.trans xE;replace rG:=rG.ext xE)|(refine at_EL ?_;first|refine eN ?_|refine eV Z Z (zA Z Z) ?_|refine eV Z Z (zB Z Z) ?_|(refine at_call ?_;first|refine eV Z Z (zK Z Z) ?_)|refine eV Z Z (zF Z Z Z) ?_|refine eV Z Z (zH Z Z) ?_)|(refine at_K ?_;first|refine K_then ?_)|(refine at_E ?_;first|refine E_seq ?_|refine E_region ?_|refine E_block ?_)))
  refine E_loop (ι:=Nat × Value) (fun z=>[(0,dv),(2,int id),(4,.pointer (some ⟨bG,0,none⟩)),(9,z.2),(20,.slice e4 en.refs.length k4),(21,int en.refs.length),(22,int z.1)])
    (fun z wr=>z.1≤en.refs.length∧Grow (fun b=>w.heap.size≤b) wE 39 ((en.refs.take z.1).filter (attP ds g id)) z.2 wr) (fun z=>en.refs.length-z.1) (0,.slice none 0 0)
    ⟨rfl,rfl,rfl,rfl,rfl,rfl,rfl,trivial⟩ ⟨Nat.zero_le _,Grow.none⟩ ?_
  rintro⟨i,ov⟩ wr ⟨hi,hgr⟩
  dsimp only at hi hgr ⊢
  have hXr:=hX.trans hgr.x
  have rGr:=rG.ext hgr.x
  have hrr:=hrf.ext hXr
  by_cases hlt:i<en.refs.length
  · obtain⟨b,off,rfl⟩:=hrp (by omega)
    obtain⟨x,hxi⟩:∃ x,en.refs[i]?=some x:=⟨_,List.getElem?_eq_getElem hlt⟩
    have hft:=filter_take (p:=attP ds g id) hxi
    have hfl:=filter_take_len (p:=attP ds g id) (l:=en.refs) (i:=i)
    have hat:=rf_elem hrr hxi
    obtain⟨ba,hba⟩:∃ b,attP ds g id x=b:=⟨_,rfl⟩
    have ca:=fun wz (hxz:Ext wr wz)=>attests14_any hTx g hok id x dv pv uv tv rv sv fv ev wz (hv.ext (hXr.trans hxz)) (hg.ext (hXr.trans hxz))
    rw [hba] at ca hft
    have hxz:=Ext.refl wr
    cases ba
    · rw [if_neg (by simp),List.append_nil] at hft
      (repeat' (first|refine eV Z Z (val_loadA Z Z Z (Row.at (by assumption)) (by rfl)) ?_|refine eV Z Z (val_loadA Z Z Z (by assumption) (by rfl)) ?_|refine eV Z Z (val_indexAddr (m:=i) Z Z Z (by first|rfl|omega) (by omega)) ?_|(refine EL_var Z Z Z Z Z Z Z Z Z Z (fun bX wX xX hbX rX=>?_);replace hxz:=hxz.trans xX;replace rGr:=rGr.ext xX;replace hgr:=hgr.ext xX)|(refine EL_call Z Z (entersF Z Z en14) (ca _ hxz) (fun vC wC hC=>?_);obtain⟨rfl,xC⟩:=hC;replace hxz:=hxz.trans xC;replace rGr:=rGr.ext xC;replace rX:=rX.ext xC;replace hgr:=hgr.ext xC)|(refine at_EL ?_;first|refine eN ?_|refine eV Z Z (zA Z Z) ?_|refine eV Z Z (zB Z Z) ?_|(refine at_bin ?_;first|refine eD Z Z (zL Z Z Z) (fun hh=>?_) (fun hh=>?_)|refine eV Z Z (zU Z Z Z (by omega) (by omega)) ?_))|(refine at_K ?_;first|refine K_then ?_|refine K_in ?_|refine K_then_exit ?_|refine K_in_exit ?_)|(refine at_E ?_;first|refine E_seq ?_|refine E_region ?_|refine E_cond_t Z ?_|refine E_cond_f Z ?_|refine E_block ?_|refine E_skip ?_|refine E_ret ?_|refine E_exit ?_)))
      all_goals (try (exfalso;omega))
      exact K_rnd (i+1,ov) ⟨rfl,rfl,rfl,rfl,rfl,rfl,rfl,trivial⟩ ⟨by dsimp only;omega,by dsimp only;rw [hft];exact hgr⟩ (by dsimp only;omega)
    · rw [if_pos rfl] at hft
      (repeat' (first|refine eV Z Z (val_loadA Z Z Z (Row.at (by assumption)) (by rfl)) ?_|refine eV Z Z (val_loadA Z Z Z (by assumption) (by rfl)) ?_|refine eV Z Z (val_indexAddr (m:=i) Z Z Z (by first|rfl|omega) (by omega)) ?_|(refine EL_var Z Z Z Z Z Z Z Z Z Z (fun bX wX xX hbX rX=>?_);replace hxz:=hxz.trans xX;replace rGr:=rGr.ext xX;replace hgr:=hgr.ext xX)|(refine EL_call Z Z (entersF Z Z en14) (ca _ hxz) (fun vC wC hC=>?_);obtain⟨rfl,xC⟩:=hC;replace hxz:=hxz.trans xC;replace rGr:=rGr.ext xC;replace rX:=rX.ext xC;replace hgr:=hgr.ext xC)|(refine EL_push2 (x:=x) (hgr.ext xS) rS rfl rfl rfl rfl rfl rfl rfl rfl (by omega) (by omega) (fun vK wK hK kK hJ=>?_))|(refine at_EL ?_;first|refine eN ?_|refine eV Z Z (zA Z Z) ?_|refine eV Z Z (zB Z Z) ?_|(refine at_bin ?_;first|refine eD Z Z (zL Z Z Z) (fun hh=>?_) (fun hh=>?_)|refine eV Z Z (zU Z Z Z (by omega) (by omega)) ?_)|refine eL Z Z Z Z Z Z Z Z (fun bS wS xS hbS rS=>?_))|(refine at_K ?_;first|refine K_then ?_|refine K_in ?_|refine K_then_exit ?_|refine K_in_exit ?_)|(refine at_E ?_;first|refine E_seq ?_|refine E_region ?_|refine E_cond_t Z ?_|refine E_cond_f Z ?_|refine E_block ?_|refine E_skip ?_|refine E_ret ?_|refine E_exit ?_)))
      all_goals (try (exfalso;omega))
      exact K_rnd (i+1,vK) ⟨rfl,rfl,rfl,rfl,rfl,rfl,rfl,trivial⟩ ⟨by dsimp only;omega,by dsimp only;rw [hft];exact hK⟩ (by dsimp only;omega)
  · obtain rfl:i=en.refs.length:=by omega
    rw [List.take_length] at hgr
    have hfl:=List.length_filter_le (attP ds g id) en.refs
    (repeat' (first|(refine at_EL ?_;first|refine eN ?_|refine eV Z Z (zA Z Z) ?_|refine eV Z Z (zB Z Z) ?_|(refine at_bin ?_;first|refine eD Z Z (zL Z Z Z) (fun hh=>?_) (fun hh=>?_)))|(refine at_K ?_;first|refine K_then ?_|refine K_then_exit ?_|refine K_in_exit ?_)|(refine at_E ?_;first|refine E_seq ?_|refine E_region ?_|refine E_cond_t Z ?_|refine E_cond_f Z ?_|refine E_block ?_|refine E_skip ?_|refine E_ret ?_|refine E_exit ?_)))
    all_goals (try (exfalso;omega))
    have hXs:=hX.size
    exact ret_1 Z Z ⟨hgr.sl (fun b h=>Nat.le_trans hXs h) (by omega),hXr⟩
theorem entryP_len {ds:List Dc} {g:Lg} (hok:LangOK g) (id:Int):(entryP ds g id).length≤12:=by
  have:=List.length_filter_le (attP ds g id) (entD g.lex id).refs
  have:=entD_refs hok id
  unfold entryP;omega
set_option maxHeartbeats 4000000 in
set_option maxRecDepth 8000 in
theorem missing22_any {ds:List Dc} (hTx:TxLen ds) (g:Lg) (hok:LangOK g) (dv pv uv tv rv sv fv ev:Value) (w:World) (hv:Sl w dv ds) (hg:LangG Tt w g pv uv tv rv sv fv ev) :
    Calls Tryz.prog 22 #[dv,.agg #[pv,str g.oname,uv,tv,rv,int g.net.states,sv,fv,ev] ] w (Rt fun u w'=>SlG (fun b=>w.heap.size≤b) w' u (missP ds g)∧Ext w w'):=by
  unfold missP
  have hl0:=hg.lex
  obtain⟨la,lc,rfl,_,hlm,hlp⟩:=hl0.sl
  have hnl:=hok.nlex
  refine calls_E (n:=29) (args:=[dv,.agg #[pv,str g.oname,uv,tv,rv,int g.net.states,sv,fv,.slice la g.lex.length lc] ]) Tryz.func22 rfl Tryz.ntmps22 (by simp) ?_
  refine E_seq ?_
  refine E_region ?_
  refine EL_boxA Z Z Z Z (fun bG wG xG hbG rG=>?_)
  have hGs:=xG.size
  (repeat' (first|refine eV Z Z (val_load Z Z Z (Row.cellAt (by assumption) (by rfl))) ?_|(refine at_EL ?_;first|refine eN ?_|refine eV Z Z (zA Z Z) ?_|refine eV Z Z (zB Z Z) ?_|(refine at_call ?_;first|refine eV Z Z (zK Z Z) ?_)|refine eV Z Z (zH Z Z) ?_)|(refine at_K ?_;first|refine K_then ?_)|(refine at_E ?_;first|refine E_seq ?_|refine E_region ?_|refine E_block ?_)))
  refine E_loop (ι:=Nat × Value) (fun z=>[(0,dv),(3,.pointer (some ⟨bG,0,none⟩)),(5,z.2),(9,.slice la g.lex.length lc),(10,int g.lex.length),(11,int z.1)])
    (fun z wr=>z.1≤g.lex.length∧Grow (fun b=>w.heap.size≤b) wG 3 (((g.lex.take z.1).filter fun e=>(entryP ds g e.id).isEmpty).map (·.id)) z.2 wr) (fun z=>g.lex.length-z.1) (0,.slice none 0 0)
    ⟨rfl,rfl,rfl,rfl,rfl,rfl,trivial⟩ ⟨Nat.zero_le _,Grow.none⟩ ?_
  rintro⟨i,ov⟩ wr ⟨hi,hgr⟩
  dsimp only at hi hgr ⊢
  have hXr:=xG.trans hgr.x
  have rGr:=rG.ext hgr.x
  by_cases hlt:i<g.lex.length
  · obtain⟨b,off,rfl⟩:=hlp (by omega)
    obtain⟨e,hei⟩:∃ e,g.lex[i]?=some e:=⟨_,List.getElem?_eq_getElem hlt⟩
    have hft:=filter_take_map (p:=fun e:En=>(entryP ds g e.id).isEmpty) (f:=(·.id)) hei
    have hfl:=filter_take_len (p:=fun e:En=>(entryP ds g e.id).isEmpty) (l:=g.lex) (i:=i)
    have hml:(((g.lex.take i).filter fun e=>(entryP ds g e.id).isEmpty).map (·.id)).length≤i:=by rw [List.length_map];exact hfl
    obtain⟨d0,f0,d1,f1,d2,f2,d3,f3,d4,f4,hat,_⟩:=en_elem (hl0.ext hXr) hei
    have ce:=fun wz (hxz:Ext wr wz)=>entry19_any hTx g hok e.id dv pv uv tv rv sv fv _ wz (hv.ext (hXr.trans hxz)) (hg.ext (hXr.trans hxz))
    have hxz:=Ext.refl wr
    have hel:=entryP_len (ds:=ds) hok e.id
    rw [empty_iff] at hft
    (repeat' (first|refine eV Z Z (val_load Z Z Z (Row.cellAt (by assumption) (by rfl))) ?_|refine eV Z Z (val_loadA Z Z Z (Row.at (by assumption)) (by rfl)) ?_|refine eV Z Z (val_loadA Z Z Z (by assumption) (by rfl)) ?_|refine eV Z Z (val_indexAddr (m:=i) Z Z Z (by first|rfl|omega) (by omega)) ?_|(refine EL_var Z Z Z Z Z Z Z Z Z Z (fun bX wX xX hbX rX=>?_);replace hxz:=hxz.trans xX;replace rGr:=rGr.ext xX;replace hgr:=hgr.ext xX)|(refine EL_call Z Z (entersF Z Z en19) (ce _ hxz) (fun vC wC hC=>?_);obtain⟨sC,xC⟩:=hC;obtain⟨ca,cc,rfl,_,_,_⟩:=sC.sl;replace hxz:=hxz.trans xC;replace rGr:=rGr.ext xC;replace rX:=rX.ext xC;replace hgr:=hgr.ext xC)|(refine EL_push (x:=e.id) (hgr.ext xS) rS rfl rfl rfl rfl rfl rfl rfl rfl (by omega) (by omega) (fun vK wK hK=>?_))|(refine at_EL ?_;first|refine eN ?_|refine eV Z Z (zA Z Z) ?_|refine eV Z Z (zB Z Z) ?_|(refine at_bin ?_;first|refine eD Z Z (zL Z Z Z) (fun hh=>?_) (fun hh=>?_)|refine eD Z Z (zM Z Z Z) (fun hh=>?_) (fun hh=>?_)|refine eV Z Z (zU Z Z Z (by omega) (by omega)) ?_)|(refine at_call ?_;first|refine eV Z Z (zK Z Z) ?_)|refine eV Z Z (zH Z Z) ?_|refine eL Z Z Z Z Z Z Z Z (fun bS wS xS hbS rS=>?_))|(refine at_K ?_;first|refine K_then ?_|refine K_in ?_|refine K_then_exit ?_|refine K_in_exit ?_)|(refine at_E ?_;first|refine E_seq ?_|refine E_region ?_|refine E_cond_t Z ?_|refine E_cond_f Z ?_|refine E_block ?_|refine E_skip ?_|refine E_ret ?_|refine E_exit ?_)))
    all_goals (try (exfalso;omega))
    · rw [decide_eq_true (by assumption),if_pos rfl] at hft
      exact K_rnd (i+1,vK) ⟨rfl,rfl,rfl,rfl,rfl,rfl,trivial⟩ ⟨by dsimp only;omega,by dsimp only;rw [hft];exact hK⟩ (by dsimp only;omega)
    · rw [decide_eq_false (by assumption),if_neg (by simp),List.append_nil] at hft
      exact K_rnd (i+1,ov) ⟨rfl,rfl,rfl,rfl,rfl,rfl,trivial⟩ ⟨by dsimp only;omega,by dsimp only;rw [hft];exact hgr⟩ (by dsimp only;omega)
  · obtain rfl:i=g.lex.length:=by omega
    rw [List.take_length] at hgr
    have hfl:=List.length_filter_le (fun e:En=>(entryP ds g e.id).isEmpty) g.lex
    (repeat' (first|(refine at_EL ?_;first|refine eN ?_|refine eV Z Z (zA Z Z) ?_|refine eV Z Z (zB Z Z) ?_|(refine at_bin ?_;first|refine eD Z Z (zL Z Z Z) (fun hh=>?_) (fun hh=>?_)))|(refine at_K ?_;first|refine K_then ?_|refine K_then_exit ?_|refine K_in_exit ?_)|(refine at_E ?_;first|refine E_seq ?_|refine E_region ?_|refine E_cond_t Z ?_|refine E_cond_f Z ?_|refine E_block ?_|refine E_skip ?_|refine E_ret ?_|refine E_exit ?_)))
    all_goals (try (exfalso;omega))
    exact ret_1 Z Z ⟨hgr.sl (fun b h=>Nat.le_trans hGs h) (by rw [List.length_map];omega),hXr⟩
end Go.Proofs.YtjicdgejhkgpgaaGreatDoor
