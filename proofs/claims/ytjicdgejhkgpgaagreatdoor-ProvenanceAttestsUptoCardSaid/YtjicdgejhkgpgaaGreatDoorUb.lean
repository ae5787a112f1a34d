/-
  Own text of the proof.
-/
import Derived.Test.YtjicdgejhkgpgaaGreatDoorUa
import Derived.Test.YtjicdgejhkgpgaaGreatDoorYp
set_option linter.all false
set_option maxHeartbeats 4000000
set_option maxRecDepth 8000
namespace Go.Proofs.YtjicdgejhkgpgaaGreatDoor
section
open Go.RowKit Go.En Go.Pv
def Bh (ds:List Dc) (g:Lg) (id:Int):List Rf:=(entD g.lex id).refs.filter (attP ds g id)
def K8 (ds:List Dc) (g:Lg):List Int:=(g.lex.filter fun e=>(Bh ds g e.id).isEmpty).map (·.id)
theorem entry_eq {ds:List Dc} (hL:LightDs ds) (g:Lg) (id:Int):Bh ds g id=Cu ds g id:=by
  rw [entryF_eq,Bh]
  congr 1
  funext r
  exact att_eq hL g id r
theorem miss_eq {ds:List Dc} (hL:LightDs ds) (g:Lg):K8 ds g=P9 ds g:=by
  rw [missF_eq,K8]
  congr 2
  funext e
  rw [entry_eq hL]
theorem D5 {ds:List Dc} (hL:LightDs ds):Q8 ds:=fun d hd n hn=>by
  obtain⟨i,hi⟩:=List.getElem?_of_mem hn
  have:=((hL.each d hd).notes i n hi).text.1
  omega
attribute [local irreducible] E EL K Val Enters Rt Calls bodyPost Code.wp RQ
theorem H2 {ds:List Dc} (hTx:Q8 ds) (g:Lg) (hok:LangOK g) (id:Int) (dv pv uv tv rv sv fv ev:Value) (w:World) (hv:Sl w dv ds) (hg:LangG Tt w g pv uv tv rv sv fv ev) :
    Calls Tryz.prog 19 #[dv,.agg #[pv,str g.oname,uv,tv,rv,int g.net.states,sv,fv,ev],int id] w (Rt fun u w'=>SlG (fun b=>w.heap.size≤b) w' u (Bh ds g id)∧Ext w w'):=by
  unfold Bh
  obtain⟨Y,hrepY,ce⟩:=Jv g.lex id ev w hg.lex
  have hrl:=Mj hok id
  obtain⟨en,hen⟩:∃ en,en=entD g.lex id:=⟨_,rfl⟩
  rw [← hen] at hrepY hrl ⊢
  obtain⟨e0,k0,e1,k1,e2,k2,e3,k3,e4,k4,rfl,_,_,_,_,hrf⟩:=C6 hrepY
  obtain⟨_,_,ee,_,hrm,hrp⟩:=hrf.sl
  cases ee
  refine A7 (n:=37) (args:=[dv,.agg #[pv,str g.oname,uv,tv,rv,int g.net.states,sv,fv,ev],int id]) Tryz.func19 rfl Tryz.ntmps19 (by simp) ?_
  refine Ac ?_
  refine A8 ?_
  refine Ao Z Z Z Z (fun bG wG xG hbG rG=>?_)
  have hX:=Ext.refl w
  replace hX:=hX.trans xG
  (repeat' (first|(refine cqC (ce _ hX) en48 fun wC xC=>?_;replace hX:=hX.trans xC;replace rG:=rG.ext xC)|(refine Am Z Z Z Z Z Z Z Z Z Z (fun bE wE xE hbE rE=>?_);replace hX:=hX.trans xE;replace rG:=rG.ext xE)|refine Ly ?_))
  refine Ae (ι:=Nat × Value) (fun z=>[(0,dv),(2,int id),(4,.pointer (some ⟨bG,0,none⟩)),(9,z.2),(20,.slice e4 en.refs.length k4),(21,int en.refs.length),(22,int z.1)])
    (fun z wr=>z.1≤en.refs.length∧Grow (fun b=>w.heap.size≤b) wE 39 ((en.refs.take z.1).filter (attP ds g id)) z.2 wr) (fun z=>en.refs.length-z.1) (0,.slice none 0 0)
    ⟨rfl,rfl,rfl,rfl,rfl,rfl,rfl,trivial⟩ ⟨Nat.zero_le _,Grow.none⟩ ?_
  rintro⟨i,ov⟩ wr ⟨hi,hgr⟩
  dsimp only at hi hgr ⊢
  have hXr:=hX.trans hgr.x
  have rGr:=rG.ext hgr.x
  have hrr:=hrf.ext hXr
  by_cases hlt:i<en.refs.length
  · obtain⟨b,off,rfl⟩:=hrp (by omega)
    obtain⟨x,hxi⟩:∃ x,en.refs[i]?=some x:=⟨_,List.getElem?_eq_getElem hlt⟩
    have hft:=H1 (p:=attP ds g id) hxi
    have hfl:=C0 (p:=attP ds g id) (l:=en.refs) (i:=i)
    have hat:=Dk hrr hxi
    obtain⟨ba,hba⟩:∃ b,attP ds g id x=b:=⟨_,rfl⟩
    have ca:=fun wz (hxz:Ext wr wz)=>Ci hTx g hok id x dv pv uv tv rv sv fv ev wz (hv.ext (hXr.trans hxz)) (hg.ext (hXr.trans hxz))
    rw [hba] at ca hft
    have hxz:=Ext.refl wr
    cases ba
    · rw [if_neg (by simp),List.append_nil] at hft
      (repeat' (first|refine eV Z Z (A0 (m:=i) Z Z Z (by first|rfl|omega) (by omega)) ?_|(refine Am Z Z Z Z Z Z Z Z Z Z (fun bX wX xX hbX rX=>?_);replace hxz:=hxz.trans xX;replace rGr:=rGr.ext xX;replace hgr:=hgr.ext xX)|(refine cqC (ca _ hxz) en14 fun wC xC=>?_;replace hxz:=hxz.trans xC;replace rGr:=rGr.ext xC;replace rX:=rX.ext xC;replace hgr:=hgr.ext xC)|refine Ly ?_|refine Dy (fun hh=>?_) fun hh=>?_))
      all_goals (try (exfalso;omega))
      exact Ad (i+1,ov) ⟨rfl,rfl,rfl,rfl,rfl,rfl,rfl,trivial⟩ ⟨by dsimp only;omega,by dsimp only;rw [hft];exact hgr⟩ (by dsimp only;omega)
    · rw [if_pos rfl] at hft
      (repeat' (first|refine eV Z Z (A0 (m:=i) Z Z Z (by first|rfl|omega) (by omega)) ?_|(refine Am Z Z Z Z Z Z Z Z Z Z (fun bX wX xX hbX rX=>?_);replace hxz:=hxz.trans xX;replace rGr:=rGr.ext xX;replace hgr:=hgr.ext xX)|(refine cqC (ca _ hxz) en14 fun wC xC=>?_;replace hxz:=hxz.trans xC;replace rGr:=rGr.ext xC;replace rX:=rX.ext xC;replace hgr:=hgr.ext xC)|(refine M2 (x:=x) (hgr.ext xS) rS rfl rfl rfl rfl rfl rfl rfl rfl (by omega) (by omega) (fun vK wK hK kK hJ=>?_))|refine Ly ?_|refine Dy (fun hh=>?_) fun hh=>?_|refine eL Z Z Z Z Z Z Z Z (fun bS wS xS hbS rS=>?_)))
      all_goals (try (exfalso;omega))
      exact Ad (i+1,vK) ⟨rfl,rfl,rfl,rfl,rfl,rfl,rfl,trivial⟩ ⟨by dsimp only;omega,by dsimp only;rw [hft];exact hK⟩ (by dsimp only;omega)
  · obtain rfl:i=en.refs.length:=by omega
    rw [List.take_length] at hgr
    have hfl:=List.length_filter_le (attP ds g id) en.refs
    (repeat' (first|refine Sy ?_|refine Dy (fun hh=>?_) fun hh=>?_))
    all_goals (try (exfalso;omega))
    have hXs:=hX.size
    exact A5 Z Z ⟨hgr.sl (fun b h=>Nat.le_trans hXs h) (by omega),hXr⟩
theorem Pq {ds:List Dc} {g:Lg} (hok:LangOK g) (id:Int):(Bh ds g id).length≤12:=by
  have:=List.length_filter_le (attP ds g id) (entD g.lex id).refs
  have:=Mj hok id
  unfold Bh;omega
theorem F9 {ds:List Dc} (hTx:Q8 ds) (g:Lg) (hok:LangOK g) (dv pv uv tv rv sv fv ev:Value) (w:World) (hv:Sl w dv ds) (hg:LangG Tt w g pv uv tv rv sv fv ev) :
    Calls Tryz.prog 22 #[dv,.agg #[pv,str g.oname,uv,tv,rv,int g.net.states,sv,fv,ev] ] w (Rt fun u w'=>SlG (fun b=>w.heap.size≤b) w' u (K8 ds g)∧Ext w w'):=by
  unfold K8
  have hl0:=hg.lex
  obtain⟨la,lc,rfl,_,hlm,hlp⟩:=hl0.sl
  have hnl:=hok.nlex
  refine A7 (n:=29) (args:=[dv,.agg #[pv,str g.oname,uv,tv,rv,int g.net.states,sv,fv,.slice la g.lex.length lc] ]) Tryz.func22 rfl Tryz.ntmps22 (by simp) ?_
  refine Ac ?_
  refine A8 ?_
  refine Ao Z Z Z Z (fun bG wG xG hbG rG=>?_)
  have hGs:=xG.size
  (repeat' (first|refine Ly ?_))
  refine Ae (ι:=Nat × Value) (fun z=>[(0,dv),(3,.pointer (some ⟨bG,0,none⟩)),(5,z.2),(9,.slice la g.lex.length lc),(10,int g.lex.length),(11,int z.1)])
    (fun z wr=>z.1≤g.lex.length∧Grow (fun b=>w.heap.size≤b) wG 3 (((g.lex.take z.1).filter fun e=>(Bh ds g e.id).isEmpty).map (·.id)) z.2 wr) (fun z=>g.lex.length-z.1) (0,.slice none 0 0)
    ⟨rfl,rfl,rfl,rfl,rfl,rfl,trivial⟩ ⟨Nat.zero_le _,Grow.none⟩ ?_
  rintro⟨i,ov⟩ wr ⟨hi,hgr⟩
  dsimp only at hi hgr ⊢
  have hXr:=xG.trans hgr.x
  have rGr:=rG.ext hgr.x
  by_cases hlt:i<g.lex.length
  · obtain⟨b,off,rfl⟩:=hlp (by omega)
    obtain⟨e,hei⟩:∃ e,g.lex[i]?=some e:=⟨_,List.getElem?_eq_getElem hlt⟩
    have hft:=Fo (p:=fun e:En=>(Bh ds g e.id).isEmpty) (f:=(·.id)) hei
    have hfl:=C0 (p:=fun e:En=>(Bh ds g e.id).isEmpty) (l:=g.lex) (i:=i)
    have hml:(((g.lex.take i).filter fun e=>(Bh ds g e.id).isEmpty).map (·.id)).length≤i:=by rw [List.length_map];exact hfl
    obtain⟨d0,f0,d1,f1,d2,f2,d3,f3,d4,f4,hat,_⟩:=B3 (hl0.ext hXr) hei
    have ce:=fun wz (hxz:Ext wr wz)=>H2 hTx g hok e.id dv pv uv tv rv sv fv _ wz (hv.ext (hXr.trans hxz)) (hg.ext (hXr.trans hxz))
    have hxz:=Ext.refl wr
    have hel:=Pq (ds:=ds) hok e.id
    rw [empty_iff] at hft
    (repeat' (first|refine eV Z Z (A0 (m:=i) Z Z Z (by first|rfl|omega) (by omega)) ?_|(refine Am Z Z Z Z Z Z Z Z Z Z (fun bX wX xX hbX rX=>?_);replace hxz:=hxz.trans xX;replace rGr:=rGr.ext xX;replace hgr:=hgr.ext xX)|(refine A9 Z Z (A3 Z Z en19) (ce _ hxz) (fun vC wC hC=>?_);obtain⟨sC,xC⟩:=hC;obtain⟨ca,cc,rfl,_,_,_⟩:=sC.sl;replace hxz:=hxz.trans xC;replace rGr:=rGr.ext xC;replace rX:=rX.ext xC;replace hgr:=hgr.ext xC)|(refine Dv (x:=e.id) (hgr.ext xS) rS rfl rfl rfl rfl rfl rfl rfl rfl (by omega) (by omega) (fun vK wK hK=>?_))|refine Ly ?_|refine Dy (fun hh=>?_) fun hh=>?_|refine eL Z Z Z Z Z Z Z Z (fun bS wS xS hbS rS=>?_)))
    all_goals (try (exfalso;omega))
    · rw [decide_eq_true (by assumption),if_pos rfl] at hft
      exact Ad (i+1,vK) ⟨rfl,rfl,rfl,rfl,rfl,rfl,trivial⟩ ⟨by dsimp only;omega,by dsimp only;rw [hft];exact hK⟩ (by dsimp only;omega)
    · rw [decide_eq_false (by assumption),if_neg (by simp),List.append_nil] at hft
      exact Ad (i+1,ov) ⟨rfl,rfl,rfl,rfl,rfl,rfl,trivial⟩ ⟨by dsimp only;omega,by dsimp only;rw [hft];exact hgr⟩ (by dsimp only;omega)
  · obtain rfl:i=g.lex.length:=by omega
    rw [List.take_length] at hgr
    have hfl:=List.length_filter_le (fun e:En=>(Bh ds g e.id).isEmpty) g.lex
    (repeat' (first|refine Sy ?_|refine Dy (fun hh=>?_) fun hh=>?_))
    all_goals (try (exfalso;omega))
    exact A5 Z Z ⟨hgr.sl (fun b h=>Nat.le_trans hGs h) (by rw [List.length_map];omega),hXr⟩
end
section
open Go.RowKit Go.En Go.Pv
attribute [local irreducible] E EL K Val Enters Rt Calls bodyPost Code.wp RQ
def Fm (leads:Rf→Bool) (l:List Pnt):List Rf:=(l.flatMap (·.refs)).filter fun r=>!leads r
theorem dangl_eq (leads:Rf→Bool) (l:List Pnt):danglF leads l=Cj [] (Fm leads l):=rfl
theorem K5 (l a b:List Rf):Cj l (a++b)=Cj (Cj l a) b:=by unfold Cj;rw [List.foldl_append]
theorem refsTo_succ {leads:Rf→Bool} {l:List Pnt} {i:Nat} {p:Pnt} (h:l[i]?=some p):Fm leads (l.take (i+1))=Fm leads (l.take i)++p.refs.filter fun r=>!leads r:=by
  obtain⟨h1,h2⟩:=List.getElem?_eq_some_iff.1 h
  unfold Fm
  rw [List.take_succ_eq_append_getElem h1,h2,List.flatMap_append,List.filter_append];simp
theorem filter_snoc {α:Type} {f:α→Bool} {l:List α} {i:Nat} {x:α} (h:l[i]?=some x):(l.take (i+1)).filter f=(l.take i).filter f++if f x then [x] else []:=H1 h
theorem Ow {leads:Rf→Bool} {l:List Pnt} {m:Nat} (h:∀ p∈l,p.refs.length≤1000) (hl:l.length≤m):(Fm leads l).length≤1000*m:=by
  have h1:(Fm leads l).length≤(l.flatMap (·.refs)).length:=List.length_filter_le _ _
  have h2:(l.flatMap (·.refs)).length≤l.length*1000:=by
    rw [List.length_flatMap]
    clear h1 hl
    induction l with
    | nil=>simp
    | cons p r ih=>
      rw [List.map_cons,List.sum_cons,List.length_cons]
      have:=ih (fun q hq=>h q (List.mem_cons_of_mem _ hq))
      have:=h p List.mem_cons_self
      omega
  have:l.length*1000≤m*1000:=Nat.mul_le_mul_right _ hl
  omega
end
end Go.Proofs.YtjicdgejhkgpgaaGreatDoor