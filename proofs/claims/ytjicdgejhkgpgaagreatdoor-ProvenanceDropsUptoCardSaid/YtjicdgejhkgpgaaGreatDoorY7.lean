/-
  Own text of the proof.
-/
import Derived.Test.YtjicdgejhkgpgaaGreatDoorY6
import Derived.Test.YtjicdgejhkgpgaaGreatDoorYk
set_option linter.all false
set_option maxHeartbeats 4000000
set_option maxRecDepth 8000
namespace Go.Proofs.YtjicdgejhkgpgaaGreatDoor
section
open Go.RowKit Go.En Go.Pv
def K3 (ds:List Dc) (g:Lg) (id:Int):List Rf:=(entD g.lex id).refs.filter (attP ds g id)
def A0l (ds:List Dc) (g:Lg):List Int:=(g.lex.filter fun e=>(K3 ds g e.id).isEmpty).map (·.id)
theorem Y5 {ds:List Dc} (hL:LightDs ds):A5f ds:=fun d hd n hn=>by
  obtain⟨i,hi⟩:=List.getElem?_of_mem hn
  have:=((hL.each d hd).notes i n hi).text.1
  omega
attribute [local irreducible] E EL K Val Enters Rt Calls bodyPost Code.wp RQ
theorem T9 {ds:List Dc} (hTx:A5f ds) (g:Lg) (hok:LangOK g) (id:Int) (dv pv uv tv rv sv fv ev:Value) (w:World) (hv:Sl w dv ds) (hg:LangG Tt w g pv uv tv rv sv fv ev) :
    Calls Tryz.prog 19 #[dv,.agg #[pv,str g.oname,uv,tv,rv,int g.net.states,sv,fv,ev],int id] w (Rt fun u w'=>SlG (fun b=>w.heap.size≤b) w' u (K3 ds g id)∧Ext w w'):=by
  unfold K3
  obtain⟨Y,hrepY,ce⟩:=A1b g.lex id ev w hg.lex
  have hrl:=B0e hok id
  obtain⟨en,hen⟩:∃ en,en=entD g.lex id:=⟨_,rfl⟩
  rw [← hen] at hrepY hrl ⊢
  obtain⟨e0,k0,e1,k1,e2,k2,e3,k3,e4,k4,rfl,_,_,_,_,hrf⟩:=K4 hrepY
  obtain⟨_,_,ee,_,hrm,hrp⟩:=hrf.sl
  cases ee
  refine A6 (n:=37) (args:=[dv,.agg #[pv,str g.oname,uv,tv,rv,int g.net.states,sv,fv,ev],int id]) Tryz.func19 rfl Tryz.ntmps19 (by simp) ?_
  refine B4 ?_
  refine A9 ?_
  refine C2 Z Z Z Z (fun bG wG xG hbG rG=>?_)
  have hX:=Ext.refl w
  replace hX:=hX.trans xG
  (repeat' (first|(refine cqC (ce _ hX) en48 fun wC xC=>?_;replace hX:=hX.trans xC;replace rG:=rG.ext xC)|(refine C1 Z Z Z Z Z Z Z Z Z Z (fun bE wE xE hbE rE=>?_);replace hX:=hX.trans xE;replace rG:=rG.ext xE)|refine Ly ?_))
  refine B0 (ι:=Nat × Value) (fun z=>[(0,dv),(2,int id),(4,.pointer (some ⟨bG,0,none⟩)),(9,z.2),(20,.slice e4 en.refs.length k4),(21,int en.refs.length),(22,int z.1)])
    (fun z wr=>z.1≤en.refs.length∧Grow (fun b=>w.heap.size≤b) wE 39 ((en.refs.take z.1).filter (attP ds g id)) z.2 wr) (fun z=>en.refs.length-z.1) (0,.slice none 0 0)
    ⟨rfl,rfl,rfl,rfl,rfl,rfl,rfl,trivial⟩ ⟨Nat.zero_le _,Grow.none⟩ ?_
  rintro⟨i,ov⟩ wr ⟨hi,hgr⟩
  dsimp only at hi hgr ⊢
  have hXr:=hX.trans hgr.x
  have rGr:=rG.ext hgr.x
  have hrr:=hrf.ext hXr
  by_cases hlt:i<en.refs.length
  · obtain⟨b,off,rfl⟩:=hrp (by omega)
    obtain⟨x,hxi⟩:∃ x,en.refs[i]?=some x:=⟨_,List.getElem?_eq_getElem hlt⟩
    have hft:=A0s (p:=attP ds g id) hxi
    have hfl:=L9 (p:=attP ds g id) (l:=en.refs) (i:=i)
    have hat:=O8 hrr hxi
    obtain⟨ba,hba⟩:∃ b,attP ds g id x=b:=⟨_,rfl⟩
    have ca:=fun wz (hxz:Ext wr wz)=>P2 hTx g hok id x dv pv uv tv rv sv fv ev wz (hv.ext (hXr.trans hxz)) (hg.ext (hXr.trans hxz))
    rw [hba] at ca hft
    have hxz:=Ext.refl wr
    cases ba
    · rw [if_neg (by simp),List.append_nil] at hft
      (repeat' (first|refine eV Z Z (A0 (m:=i) Z Z Z (by first|rfl|omega) (by omega)) ?_|(refine C1 Z Z Z Z Z Z Z Z Z Z (fun bX wX xX hbX rX=>?_);replace hxz:=hxz.trans xX;replace rGr:=rGr.ext xX;replace hgr:=hgr.ext xX)|(refine cqC (ca _ hxz) en14 fun wC xC=>?_;replace hxz:=hxz.trans xC;replace rGr:=rGr.ext xC;replace rX:=rX.ext xC;replace hgr:=hgr.ext xC)|refine Ly ?_|refine Dy (fun hh=>?_) fun hh=>?_))
      all_goals (try (exfalso;omega))
      exact B3 (i+1,ov) ⟨rfl,rfl,rfl,rfl,rfl,rfl,rfl,trivial⟩ ⟨by dsimp only;omega,by dsimp only;rw [hft];exact hgr⟩ (by dsimp only;omega)
    · rw [if_pos rfl] at hft
      (repeat' (first|refine eV Z Z (A0 (m:=i) Z Z Z (by first|rfl|omega) (by omega)) ?_|(refine C1 Z Z Z Z Z Z Z Z Z Z (fun bX wX xX hbX rX=>?_);replace hxz:=hxz.trans xX;replace rGr:=rGr.ext xX;replace hgr:=hgr.ext xX)|(refine cqC (ca _ hxz) en14 fun wC xC=>?_;replace hxz:=hxz.trans xC;replace rGr:=rGr.ext xC;replace rX:=rX.ext xC;replace hgr:=hgr.ext xC)|(refine A7w (x:=x) (hgr.ext xS) rS rfl rfl rfl rfl rfl rfl rfl rfl (by omega) (by omega) (fun vK wK hK kK hJ=>?_))|refine Ly ?_|refine Dy (fun hh=>?_) fun hh=>?_|refine eL Z Z Z Z Z Z Z Z (fun bS wS xS hbS rS=>?_)))
      all_goals (try (exfalso;omega))
      exact B3 (i+1,vK) ⟨rfl,rfl,rfl,rfl,rfl,rfl,rfl,trivial⟩ ⟨by dsimp only;omega,by dsimp only;rw [hft];exact hK⟩ (by dsimp only;omega)
  · obtain rfl:i=en.refs.length:=by omega
    rw [List.take_length] at hgr
    have hfl:=List.length_filter_le (attP ds g id) en.refs
    (repeat' (first|refine Sy ?_|refine Dy (fun hh=>?_) fun hh=>?_))
    all_goals (try (exfalso;omega))
    have hXs:=hX.size
    exact A4 Z Z ⟨hgr.sl (fun b h=>Nat.le_trans hXs h) (by omega),hXr⟩
theorem B8k {ds:List Dc} {g:Lg} (hok:LangOK g) (id:Int):(K3 ds g id).length≤12:=by
  have:=List.length_filter_le (attP ds g id) (entD g.lex id).refs
  have:=B0e hok id
  unfold K3;omega
theorem P0 {ds:List Dc} (hTx:A5f ds) (g:Lg) (hok:LangOK g) (dv pv uv tv rv sv fv ev:Value) (w:World) (hv:Sl w dv ds) (hg:LangG Tt w g pv uv tv rv sv fv ev) :
    Calls Tryz.prog 22 #[dv,.agg #[pv,str g.oname,uv,tv,rv,int g.net.states,sv,fv,ev] ] w (Rt fun u w'=>SlG (fun b=>w.heap.size≤b) w' u (A0l ds g)∧Ext w w'):=by
  unfold A0l
  have hl0:=hg.lex
  obtain⟨la,lc,rfl,_,hlm,hlp⟩:=hl0.sl
  have hnl:=hok.nlex
  refine A6 (n:=29) (args:=[dv,.agg #[pv,str g.oname,uv,tv,rv,int g.net.states,sv,fv,.slice la g.lex.length lc] ]) Tryz.func22 rfl Tryz.ntmps22 (by simp) ?_
  refine B4 ?_
  refine A9 ?_
  refine C2 Z Z Z Z (fun bG wG xG hbG rG=>?_)
  have hGs:=xG.size
  (repeat' (first|refine Ly ?_))
  refine B0 (ι:=Nat × Value) (fun z=>[(0,dv),(3,.pointer (some ⟨bG,0,none⟩)),(5,z.2),(9,.slice la g.lex.length lc),(10,int g.lex.length),(11,int z.1)])
    (fun z wr=>z.1≤g.lex.length∧Grow (fun b=>w.heap.size≤b) wG 3 (((g.lex.take z.1).filter fun e=>(K3 ds g e.id).isEmpty).map (·.id)) z.2 wr) (fun z=>g.lex.length-z.1) (0,.slice none 0 0)
    ⟨rfl,rfl,rfl,rfl,rfl,rfl,trivial⟩ ⟨Nat.zero_le _,Grow.none⟩ ?_
  rintro⟨i,ov⟩ wr ⟨hi,hgr⟩
  dsimp only at hi hgr ⊢
  have hXr:=xG.trans hgr.x
  have rGr:=rG.ext hgr.x
  by_cases hlt:i<g.lex.length
  · obtain⟨b,off,rfl⟩:=hlp (by omega)
    obtain⟨e,hei⟩:∃ e,g.lex[i]?=some e:=⟨_,List.getElem?_eq_getElem hlt⟩
    have hft:=Z6 (p:=fun e:En=>(K3 ds g e.id).isEmpty) (f:=(·.id)) hei
    have hfl:=L9 (p:=fun e:En=>(K3 ds g e.id).isEmpty) (l:=g.lex) (i:=i)
    have hml:(((g.lex.take i).filter fun e=>(K3 ds g e.id).isEmpty).map (·.id)).length≤i:=by rw [List.length_map];exact hfl
    obtain⟨d0,f0,d1,f1,d2,f2,d3,f3,d4,f4,hat,_⟩:=D3 (hl0.ext hXr) hei
    have ce:=fun wz (hxz:Ext wr wz)=>T9 hTx g hok e.id dv pv uv tv rv sv fv _ wz (hv.ext (hXr.trans hxz)) (hg.ext (hXr.trans hxz))
    have hxz:=Ext.refl wr
    have hel:=B8k (ds:=ds) hok e.id
    rw [C2o] at hft
    (repeat' (first|refine eV Z Z (A0 (m:=i) Z Z Z (by first|rfl|omega) (by omega)) ?_|(refine C1 Z Z Z Z Z Z Z Z Z Z (fun bX wX xX hbX rX=>?_);replace hxz:=hxz.trans xX;replace rGr:=rGr.ext xX;replace hgr:=hgr.ext xX)|(refine A8 Z Z (A5 Z Z en19) (ce _ hxz) (fun vC wC hC=>?_);obtain⟨sC,xC⟩:=hC;obtain⟨ca,cc,rfl,_,_,_⟩:=sC.sl;replace hxz:=hxz.trans xC;replace rGr:=rGr.ext xC;replace rX:=rX.ext xC;replace hgr:=hgr.ext xC)|(refine M1 (x:=e.id) (hgr.ext xS) rS rfl rfl rfl rfl rfl rfl rfl rfl (by omega) (by omega) (fun vK wK hK=>?_))|refine Ly ?_|refine Dy (fun hh=>?_) fun hh=>?_|refine eL Z Z Z Z Z Z Z Z (fun bS wS xS hbS rS=>?_)))
    all_goals (try (exfalso;omega))
    · rw [decide_eq_true (by assumption),if_pos rfl] at hft
      exact B3 (i+1,vK) ⟨rfl,rfl,rfl,rfl,rfl,rfl,trivial⟩ ⟨by dsimp only;omega,by dsimp only;rw [hft];exact hK⟩ (by dsimp only;omega)
    · rw [decide_eq_false (by assumption),if_neg (by simp),List.append_nil] at hft
      exact B3 (i+1,ov) ⟨rfl,rfl,rfl,rfl,rfl,rfl,trivial⟩ ⟨by dsimp only;omega,by dsimp only;rw [hft];exact hgr⟩ (by dsimp only;omega)
  · obtain rfl:i=g.lex.length:=by omega
    rw [List.take_length] at hgr
    have hfl:=List.length_filter_le (fun e:En=>(K3 ds g e.id).isEmpty) g.lex
    (repeat' (first|refine Sy ?_|refine Dy (fun hh=>?_) fun hh=>?_))
    all_goals (try (exfalso;omega))
    exact A4 Z Z ⟨hgr.sl (fun b h=>Nat.le_trans hGs h) (by rw [List.length_map];omega),hXr⟩
end
section
open Go.RowKit Go.En Go.Pv
attribute [local irreducible] E EL K Val Enters Rt Calls bodyPost Code.wp RQ
def Q2 (leads:Rf→Bool) (l:List Pnt):List Rf:=(l.flatMap (·.refs)).filter fun r=>!leads r
theorem C6a (leads:Rf→Bool) (l:List Pnt):B8q leads l=K2 [] (Q2 leads l):=rfl
theorem A1i (l a b:List Rf):K2 l (a++b)=K2 (K2 l a) b:=by unfold K2;rw [List.foldl_append]
theorem B3x {leads:Rf→Bool} {l:List Pnt} {i:Nat} {p:Pnt} (h:l[i]?=some p):Q2 leads (l.take (i+1))=Q2 leads (l.take i)++p.refs.filter fun r=>!leads r:=by
  obtain⟨h1,h2⟩:=List.getElem?_eq_some_iff.1 h
  unfold Q2
  rw [List.take_succ_eq_append_getElem h1,h2,List.flatMap_append,List.filter_append];simp
theorem B5e {α:Type} {f:α→Bool} {l:List α} {i:Nat} {x:α} (h:l[i]?=some x):(l.take (i+1)).filter f=(l.take i).filter f++if f x then [x] else []:=A0s h
theorem A6n {leads:Rf→Bool} {l:List Pnt} {m:Nat} (h:∀ p∈l,p.refs.length≤1000) (hl:l.length≤m):(Q2 leads l).length≤1000*m:=by
  have h1:(Q2 leads l).length≤(l.flatMap (·.refs)).length:=List.length_filter_le _ _
  have h2:(l.flatMap (·.refs)).length≤l.length*1000:=by
    rw [List.length_flatMap]
    clear h1 hl
    induction l with
    | nil=>simp
    | cons p r ih=>
      rw [List.map_cons,List.sum_cons,List.length_cons]
      have:=ih (fun q hq=>h q (List.mem_cons_of_mem _ hq))
      have:=h p List.mem_cons_self
      omega
  have:l.length*1000≤m*1000:=Nat.mul_le_mul_right _ hl
  omega
end
end Go.Proofs.YtjicdgejhkgpgaaGreatDoor