/-
  Walks: the program's Uses; tiers.Same of a document with itself. The law's example, plainly.
-/
import Derived.Test.YtjicdgejhkgpgaaGreatDoorXTR
import Derived.Test.YtjicdgejhkgpgaaGreatDoorY3
import Derived.Test.YtjicdgejhkgpgaaGreatDoorY4
import Derived.Test.YtjicdgejhkgpgaaGreatDoorYh
set_option linter.all false
namespace Go.Proofs.YtjicdgejhkgpgaaGreatDoor
open Go.RowKit Go.En Go.Pv
attribute [local irreducible] E EL K Val Enters Rt Calls bodyPost Code.wp RQ
set_option maxHeartbeats 4000000 in
set_option maxRecDepth 8000 in
theorem uses31_any (l : List Pnt) (hn : l.length ≤ 1000) (id : Int) (v : Value) (w : World) (hv : Sl w v l) : Calls Tryz.prog 31 #[v, int id] w (Rt fun u w' => Sl w' u (sortedF (usesL l id)) ∧ Ext w w') := by
  have hv0:=hv
  obtain⟨a,c,rfl,_,hm,hpp⟩:=hv.sl
  refine calls_E (n:=35) (args:=[.slice a l.length c,int id]) Tryz.func31 rfl Tryz.ntmps31 (by simp) ?_
  (repeat' (first|(refine at_EL ?_;first|refine eN ?_|refine eV Z Z (zA Z Z) ?_|refine eV Z Z (zB Z Z) ?_|(refine at_call ?_;first|refine eV Z Z (zK Z Z) ?_))|(refine at_K ?_;first|refine K_then ?_)|(refine at_E ?_;first|refine E_seq ?_|refine E_region ?_|refine E_block ?_)))
  refine E_loop (ι:=Nat × Value) (fun z=>[(1,int id),(5,z.2),(10,.slice a l.length c),(11,int l.length),(12,int z.1)])
    (fun z wr=>z.1≤l.length∧Grow Tt w 3 (((l.take z.1).filter fun p=>p.entries.contains id).map (·.id)) z.2 wr) (fun z=>l.length-z.1) (0,.slice none 0 0)
    ⟨rfl,rfl,rfl,rfl,rfl,trivial⟩ ⟨Nat.zero_le _,Grow.none⟩ ?_
  rintro⟨i,ov⟩ wr ⟨hi,hgr⟩
  dsimp only at hi hgr ⊢
  have hvr:=hv0.ext hgr.x
  by_cases hlt:i<l.length
  · obtain⟨b,off,rfl⟩:=hpp (by omega)
    obtain⟨p,hpi⟩:∃ p,l[i]?=some p:=⟨_,List.getElem?_eq_getElem hlt⟩
    have hft:=filter_take_map (p:=fun p:Pnt=>p.entries.contains id) (f:=(·.id)) hpi
    have hfl:=filter_take_len (p:=fun p:Pnt=>p.entries.contains id) (l:=l) (i:=i)
    have hml:(((l.take i).filter fun p=>p.entries.contains id).map (·.id)).length≤i:=by rw [List.length_map];exact hfl
    obtain⟨a0,c0,a1,c1,hat,_,he,_⟩:=pnt_elem hvr hpi
    obtain⟨_,_,ee,_,_,hep⟩:=he.sl
    cases ee
    (repeat' (first|refine eV Z Z (val_load Z Z Z (Row.cellAt (by assumption) (by rfl))) ?_|refine eV Z Z (val_loadA Z Z Z (by assumption) (by rfl)) ?_|refine eV Z Z (val_indexAddr (m:=i) Z Z Z (by first|rfl|omega) (by omega)) ?_|(refine EL_var Z Z Z Z Z Z Z Z Z Z (fun bP wP xP hbP rP=>?_);replace hgr:=hgr.ext xP;replace he:=he.ext xP)|(refine at_EL ?_;first|refine eN ?_|refine eV Z Z (zA Z Z) ?_|(refine at_bin ?_;first|refine eD Z Z (zL Z Z Z) (fun hh=>?_) (fun hh=>?_))|(refine at_call ?_;first|refine eV Z Z (zK Z Z) ?_)|refine eV Z Z (zH Z Z) ?_)|(refine at_K ?_;first|refine K_then ?_|refine K_then_exit ?_|refine K_in_exit ?_)|(refine at_E ?_;first|refine E_seq ?_|refine E_region ?_|refine E_cond_t Z ?_|refine E_cond_f Z ?_|refine E_block ?_|refine E_skip ?_|refine E_exit ?_)))
    all_goals (try (exfalso;omega))
    refine E_loop (ι:=Nat) (fun k=>[(1,int id),(5,ov),(7,.pointer (some ⟨bP,0,none⟩)),(10,.slice (some ⟨b,off,none⟩) l.length c),(11,int l.length),(12,int i),(17,.slice a0 p.entries.length c0),(18,int p.entries.length),(19,int k)])
      (fun k wk=>k≤p.entries.length∧Ext wP wk∧∀(q:Nat) (x:Int),q<k→p.entries[q]?=some x→x≠id) (fun k=>p.entries.length-k) 0
      ⟨rfl,rfl,rfl,rfl,rfl,rfl,rfl,rfl,rfl,trivial⟩ ⟨Nat.zero_le _,Ext.refl _,fun _ _ h=>absurd h (by omega)⟩ ?_
    rintro k wk ⟨hk,hxk,hall⟩
    replace hgr:=hgr.ext hxk
    replace rP:=rP.ext hxk
    replace he:=he.ext hxk
    by_cases hlk:k<p.entries.length
    · obtain⟨rb,ro,rfl⟩:=hep (by omega)
      obtain⟨x,hxi⟩:∃ x,p.entries[k]?=some x:=⟨_,List.getElem?_eq_getElem hlk⟩
      have hcx:=(Go.Pv.int_elem he hxi).one
      by_cases hid:x=id
      · have hb:p.entries.contains id=true:=by
          rw [List.contains_eq_mem];exact decide_eq_true (hid▸List.mem_of_getElem? hxi)
        rw [hb,if_pos rfl] at hft
        (repeat' (first|refine eV Z Z (val_load Z Z Z (Row.cellAt (by assumption) (by rfl))) ?_|refine eV Z Z (val_load Z Z Z (by assumption)) ?_|refine eV Z Z (val_indexAddr (m:=k) Z Z Z (by first|rfl|omega) (by omega)) ?_|(refine EL_push (x:=p.id) (hgr.ext xS) rS rfl rfl rfl rfl rfl rfl rfl rfl (by omega) (by omega) (fun vK wK hK=>?_))|(refine at_EL ?_;first|refine eN ?_|refine eV Z Z (zA Z Z) ?_|refine eV Z Z (zB Z Z) ?_|(refine at_bin ?_;first|refine eD Z Z (zL Z Z Z) (fun hh=>?_) (fun hh=>?_)|refine eD Z Z (zM Z Z Z) (fun hh=>?_) (fun hh=>?_)|refine eV Z Z (zU Z Z Z (by omega) (by omega)) ?_)|refine eV Z Z (zH Z Z) ?_|refine eL Z Z Z Z Z Z Z Z (fun bS wS xS hbS rS=>?_))|(refine at_K ?_;first|refine K_then ?_|refine K_in ?_|refine K_then_exit ?_|refine K_in_exit ?_|refine K_in_exit' Z ?_)|(refine at_E ?_;first|refine E_seq ?_|refine E_region ?_|refine E_cond_t Z ?_|refine E_cond_f Z ?_|refine E_block ?_|refine E_skip ?_|refine E_exit ?_)))
        all_goals (try (exfalso;omega))
        exact K_rnd (i+1,vK) ⟨rfl,rfl,rfl,rfl,rfl,trivial⟩ ⟨by dsimp only;omega,by dsimp only;rw [hft];exact hK⟩ (by dsimp only;omega)
      · (repeat' (first|refine eV Z Z (val_load Z Z Z (Row.cellAt (by assumption) (by rfl))) ?_|refine eV Z Z (val_load Z Z Z (by assumption)) ?_|refine eV Z Z (val_indexAddr (m:=k) Z Z Z (by first|rfl|omega) (by omega)) ?_|(refine at_EL ?_;first|refine eN ?_|refine eV Z Z (zA Z Z) ?_|refine eV Z Z (zB Z Z) ?_|(refine at_bin ?_;first|refine eD Z Z (zL Z Z Z) (fun hh=>?_) (fun hh=>?_)|refine eD Z Z (zM Z Z Z) (fun hh=>?_) (fun hh=>?_)|refine eV Z Z (zU Z Z Z (by omega) (by omega)) ?_)|refine eV Z Z (zH Z Z) ?_|refine eL Z Z Z Z Z Z Z Z (fun bS wS xS hbS rS=>?_))|(refine at_K ?_;first|refine K_then ?_|refine K_in ?_|refine K_then_exit ?_|refine K_in_exit ?_)|(refine at_E ?_;first|refine E_seq ?_|refine E_region ?_|refine E_cond_t Z ?_|refine E_cond_f Z ?_|refine E_block ?_|refine E_skip ?_|refine E_exit ?_)))
        all_goals (try (exfalso;omega))
        refine K_rnd (k+1) ⟨rfl,rfl,rfl,rfl,rfl,rfl,rfl,rfl,rfl,trivial⟩ ⟨by omega,hxk,fun q y hq hy=>?_⟩ (by omega)
        by_cases e:q=k
        · subst e;rw [hxi] at hy;cases hy;exact hid
        · exact hall q y (by omega) hy
    · have hb:p.entries.contains id=false:=by
        rw [List.contains_eq_mem]
        refine decide_eq_false (fun hm=>?_)
        obtain⟨q,hq⟩:=List.getElem?_of_mem hm
        exact hall q id (by have:=(List.getElem?_eq_some_iff.1 hq).1;omega) hq rfl
      rw [hb,if_neg (by simp),List.append_nil] at hft
      (repeat' (first|(refine at_EL ?_;first|refine eN ?_|refine eV Z Z (zA Z Z) ?_|(refine at_bin ?_;first|refine eD Z Z (zL Z Z Z) (fun hh=>?_) (fun hh=>?_)|refine eV Z Z (zU Z Z Z (by omega) (by omega)) ?_))|(refine at_K ?_;first|refine K_then ?_|refine K_in ?_|refine K_then_exit ?_|refine K_in_exit ?_)|(refine at_E ?_;first|refine E_seq ?_|refine E_region ?_|refine E_cond_t Z ?_|refine E_cond_f Z ?_|refine E_block ?_|refine E_skip ?_|refine E_exit ?_)))
      all_goals (try (exfalso;omega))
      exact K_rnd (i+1,ov) ⟨rfl,rfl,rfl,rfl,rfl,trivial⟩ ⟨by dsimp only;omega,by dsimp only;rw [hft];exact hgr⟩ (by dsimp only;omega)
  · obtain rfl:i=l.length:=by omega
    rw [List.take_length] at hgr
    have hul:=usesL_len (l:=l) (id:=id)
    have hso:Sl wr ov (usesL l id):=hgr.sl (fun _ _=>trivial) (by show(usesL l id).length≤_;omega)
    have hX:=hgr.x
    have cs:=sortedN_any (usesL l id) ov wr hso (by omega)
    (repeat' (first|(refine EL_call Z Z (entersF Z Z en66) cs (fun vC wC hC=>?_))|(refine at_EL ?_;first|refine eN ?_|refine eV Z Z (zA Z Z) ?_|refine eV Z Z (zB Z Z) ?_|(refine at_bin ?_;first|refine eD Z Z (zL Z Z Z) (fun hh=>?_) (fun hh=>?_)))|(refine at_K ?_;first|refine K_then ?_|refine K_then_exit ?_|refine K_in_exit ?_)|(refine at_E ?_;first|refine E_seq ?_|refine E_region ?_|refine E_cond_t Z ?_|refine E_cond_f Z ?_|refine E_block ?_|refine E_skip ?_|refine E_ret ?_|refine E_exit ?_)))
    all_goals (try (exfalso;omega))
    obtain⟨h2,h1⟩:=hC
    exact ret_1 Z Z ⟨h1.any,hX.trans h2⟩
theorem shp88:Shp Tryz.prog 88 [(false,9,0),(false,3,1),(false,3,2),(false,3,3)]:=⟨by kernel_rfl,by kernel_rfl,by kernel_rfl,by kernel_rfl⟩
theorem shp76:Shp Tryz.prog 76 [(false,3,0),(false,3,1)]:=⟨by kernel_rfl,by kernel_rfl,by kernel_rfl,by kernel_rfl⟩
theorem shp80:Shp Tryz.prog 80 [(false,3,0),(false,3,1),(false,3,2),(false,76,3),(false,3,5),(false,9,6)]:=⟨by kernel_rfl,by kernel_rfl,by kernel_rfl,by kernel_rfl⟩
theorem eqs88 (t:Tier):EqS Tryz.prog 10000 88 (.agg #[str t.name,int t.kind,int t.role,int t.parent]):=
  eqS_struct (d:=9999) shp88 ⟨rfl,⟨_,part_str Tryz.underlying9 rfl,eqS_str Tryz.underlying9⟩,rfl,⟨_,part_int Tryz.underlying3 rfl,eqS_int Tryz.underlying3⟩,rfl,⟨_,part_int Tryz.underlying3 rfl,eqS_int Tryz.underlying3⟩,rfl,⟨_,part_int Tryz.underlying3 rfl,eqS_int Tryz.underlying3⟩,trivial⟩
theorem eqs76 (a b:Int):EqS Tryz.prog 9999 76 (.agg #[int a,int b]):=
  eqS_struct (d:=9998) shp76 ⟨rfl,⟨_,part_int Tryz.underlying3 rfl,eqS_int Tryz.underlying3⟩,rfl,⟨_,part_int Tryz.underlying3 rfl,eqS_int Tryz.underlying3⟩,trivial⟩
theorem eqs80 (n:Note):EqS Tryz.prog 10000 80 (.agg #[int n.id,int n.tier,int n.parent,int n.frm,int n.til,int n.rank,str n.text]):=
  eqS_struct (d:=9999) shp80 ⟨rfl,⟨_,part_int Tryz.underlying3 rfl,eqS_int Tryz.underlying3⟩,rfl,⟨_,part_int Tryz.underlying3 rfl,eqS_int Tryz.underlying3⟩,rfl,⟨_,part_int Tryz.underlying3 rfl,eqS_int Tryz.underlying3⟩,
    rfl,⟨_,part_agg rfl (ys:=#[int n.frm,int n.til]) rfl,eqs76 _ _⟩,rfl,⟨_,part_int Tryz.underlying3 rfl,eqS_int Tryz.underlying3⟩,rfl,⟨_,part_str Tryz.underlying9 rfl,eqS_str Tryz.underlying9⟩,trivial⟩
set_option maxHeartbeats 4000000 in
set_option maxRecDepth 8000 in
theorem equal73_self (xs:List Int) (u v:Value) (w:World) (hu:Sl w u xs) (hv:Sl w v xs):Calls Tryz.prog 73 #[u,v] w (Rt fun r w'=>r=.bool true∧Ext w w'):=by
  have hu0:=hu
  have hv0:=hv
  obtain⟨a,ca,rfl,_,hm,hp⟩:=hu.sl
  obtain⟨b,cb,rfl,_,hm2,hp2⟩:=hv.sl
  refine calls_E (n:=26) (args:=[.slice a xs.length ca,.slice b xs.length cb]) Tryz.func73 rfl Tryz.ntmps73 (by simp) ?_
  (repeat' (first|(refine at_EL ?_;first|refine eN ?_|refine eV Z Z (zA Z Z) ?_|refine eV Z Z (zB Z Z) ?_|(refine at_bin ?_;first|refine eD Z Z (zQ Z Z Z) (fun hh=>?_) (fun hh=>?_))|(refine at_call ?_;first|refine eV Z Z (zK Z Z) ?_))|(refine at_K ?_;first|refine K_then ?_|refine K_then_ret ?_)|(refine at_E ?_;first|refine E_seq ?_|refine E_region ?_|refine E_cond_t Z ?_|refine E_cond_f Z ?_|refine E_block ?_|refine E_skip ?_|refine E_ret ?_)))
  all_goals (try (exfalso;omega))
  refine E_loop (ι:=Nat) (fun i=>[(0,.slice a xs.length ca),(1,.slice b xs.length cb),(12,int xs.length),(13,int i)]) (fun i wr=>i≤xs.length∧Ext w wr) (fun i=>xs.length-i) 0
    ⟨rfl,rfl,rfl,rfl,trivial⟩ ⟨Nat.zero_le _,Ext.refl _⟩ ?_
  rintro i wr ⟨hi,hx⟩
  replace hu0:=hu0.ext hx;replace hv0:=hv0.ext hx
  by_cases hlt:i<xs.length
  · obtain⟨b1,o1,rfl⟩:=hp (by omega)
    obtain⟨b2,o2,rfl⟩:=hp2 (by omega)
    obtain⟨x,hxi⟩:∃ x,xs[i]?=some x:=⟨_,List.getElem?_eq_getElem hlt⟩
    have h1:=(Go.Pv.int_elem hu0 hxi).one
    have h2:=(Go.Pv.int_elem hv0 hxi).one
    (repeat' (first|(refine yN Z (fun wq xq=>?_);replace hx:=hx.trans xq)|refine yV Z Z (fun wq _ xq=>val_load Z Z Z (Ext.cell xq (by assumption))) ?_|refine yV Z Z (fun _ _ _=>val_indexAddr (m:=i) Z Z Z (by first|rfl|omega) (by omega)) ?_|(refine at_EL ?_;first|refine eN ?_|refine eV Z Z (zA Z Z) ?_|refine eV Z Z (zB Z Z) ?_|(refine at_bin ?_;first|refine eD Z Z (zL Z Z Z) (fun hh=>?_) (fun hh=>?_)|refine eV Z Z (zU Z Z Z (by omega) (by omega)) ?_))|(refine at_K ?_;first|refine K_then ?_|refine K_in ?_|refine K_then_ret ?_|refine K_then_exit ?_|refine K_in_ret ?_|refine K_in_exit ?_)|(refine at_E ?_;first|refine E_seq ?_|refine E_region ?_|refine E_cond_t Z ?_|refine E_cond_f Z ?_|refine E_block ?_|refine E_skip ?_|refine E_ret ?_|refine E_exit ?_|refine E_dq mixedOk (by kernel_rfl) Z ?_)|(refine at_RQ ?_;first|refine yV Z Z (fun _ _ _=>zA Z Z) ?_|(refine at_binR ?_;first|refine yD Z Z (fun _ _ _=>zQ Z Z Z) (fun hh=>?_) (fun hh=>?_)))))
    all_goals (try (exfalso;first|omega|(rename_i h;exact h rfl)|(exact absurd rfl (by assumption))))
    exact K_rnd (i+1) ⟨rfl,rfl,rfl,rfl,trivial⟩ ⟨by omega,hx⟩ (by omega)
  · (repeat' (first|(refine at_EL ?_;first|refine eN ?_|refine eV Z Z (zA Z Z) ?_|refine eV Z Z (zB Z Z) ?_|(refine at_bin ?_;first|refine eD Z Z (zL Z Z Z) (fun hh=>?_) (fun hh=>?_)))|(refine at_K ?_;first|refine K_then ?_|refine K_then_exit ?_|refine K_in_exit ?_)|(refine at_E ?_;first|refine E_seq ?_|refine E_region ?_|refine E_cond_t Z ?_|refine E_cond_f Z ?_|refine E_block ?_|refine E_skip ?_|refine E_ret ?_|refine E_exit ?_)))
    all_goals (try (exfalso;omega))
    exact ret_1 Z Z ⟨rfl,hx⟩
set_option maxHeartbeats 4000000 in
set_option maxRecDepth 8000 in
theorem equal74_self (xs:List Tier) (u v:Value) (w:World) (hu:Sl w u xs) (hv:Sl w v xs):Calls Tryz.prog 74 #[u,v] w (Rt fun r w'=>r=.bool true∧Ext w w'):=by
  have hu0:=hu
  have hv0:=hv
  obtain⟨a,ca,rfl,_,hm,hp⟩:=hu.sl
  obtain⟨b,cb,rfl,_,hm2,hp2⟩:=hv.sl
  refine calls_E (n:=26) (args:=[.slice a xs.length ca,.slice b xs.length cb]) Tryz.func74 rfl Tryz.ntmps74 (by simp) ?_
  (repeat' (first|(refine at_EL ?_;first|refine eN ?_|refine eV Z Z (zA Z Z) ?_|refine eV Z Z (zB Z Z) ?_|(refine at_bin ?_;first|refine eD Z Z (zQ Z Z Z) (fun hh=>?_) (fun hh=>?_))|(refine at_call ?_;first|refine eV Z Z (zK Z Z) ?_))|(refine at_K ?_;first|refine K_then ?_|refine K_then_ret ?_)|(refine at_E ?_;first|refine E_seq ?_|refine E_region ?_|refine E_cond_t Z ?_|refine E_cond_f Z ?_|refine E_block ?_|refine E_skip ?_|refine E_ret ?_)))
  all_goals (try (exfalso;omega))
  refine E_loop (ι:=Nat) (fun i=>[(0,.slice a xs.length ca),(1,.slice b xs.length cb),(12,int xs.length),(13,int i)]) (fun i wr=>i≤xs.length∧Ext w wr) (fun i=>xs.length-i) 0
    ⟨rfl,rfl,rfl,rfl,trivial⟩ ⟨Nat.zero_le _,Ext.refl _⟩ ?_
  rintro i wr ⟨hi,hx⟩
  replace hu0:=hu0.ext hx;replace hv0:=hv0.ext hx
  by_cases hlt:i<xs.length
  · obtain⟨b1,o1,rfl⟩:=hp (by omega)
    obtain⟨b2,o2,rfl⟩:=hp2 (by omega)
    obtain⟨x,hxi⟩:∃ x,xs[i]?=some x:=⟨_,List.getElem?_eq_getElem hlt⟩
    have h1:=(tier_elem hu0 hxi)
    have h2:=(tier_elem hv0 hxi)
    (repeat' (first|(refine yN Z (fun wq xq=>?_);replace hx:=hx.trans xq)|refine yV Z Z (fun wq _ xq=>val_loadA Z Z Z (At.ext (by assumption) xq) (by rfl)) ?_|refine yV Z Z (fun _ _ _=>val_indexAddr (m:=i) Z Z Z (by first|rfl|omega) (by omega)) ?_|refine yV Z Z (fun _ _ _=>val_neq_self shp88 (eqs88 x) Z Z Z) ?_|(refine at_EL ?_;first|refine eN ?_|refine eV Z Z (zA Z Z) ?_|refine eV Z Z (zB Z Z) ?_|(refine at_bin ?_;first|refine eD Z Z (zL Z Z Z) (fun hh=>?_) (fun hh=>?_)|refine eV Z Z (zU Z Z Z (by omega) (by omega)) ?_))|(refine at_K ?_;first|refine K_then ?_|refine K_in ?_|refine K_then_exit ?_|refine K_in_exit ?_)|(refine at_E ?_;first|refine E_seq ?_|refine E_region ?_|refine E_cond_t Z ?_|refine E_cond_f Z ?_|refine E_block ?_|refine E_skip ?_|refine E_ret ?_|refine E_exit ?_|refine E_dq mixedOk (by kernel_rfl) Z ?_)|(refine at_RQ ?_;first|refine yV Z Z (fun _ _ _=>zA Z Z) ?_)))
    all_goals (try (exfalso;first|omega|(rename_i h;exact h rfl)|(exact absurd rfl (by assumption))))
    exact K_rnd (i+1) ⟨rfl,rfl,rfl,rfl,trivial⟩ ⟨by omega,hx⟩ (by omega)
  · (repeat' (first|(refine at_EL ?_;first|refine eN ?_|refine eV Z Z (zA Z Z) ?_|refine eV Z Z (zB Z Z) ?_|(refine at_bin ?_;first|refine eD Z Z (zL Z Z Z) (fun hh=>?_) (fun hh=>?_)))|(refine at_K ?_;first|refine K_then ?_|refine K_then_exit ?_|refine K_in_exit ?_)|(refine at_E ?_;first|refine E_seq ?_|refine E_region ?_|refine E_cond_t Z ?_|refine E_cond_f Z ?_|refine E_block ?_|refine E_skip ?_|refine E_ret ?_|refine E_exit ?_)))
    all_goals (try (exfalso;omega))
    exact ret_1 Z Z ⟨rfl,hx⟩
set_option maxHeartbeats 4000000 in
set_option maxRecDepth 8000 in
theorem equal75_self (xs:List Note) (u v:Value) (w:World) (hu:Sl w u xs) (hv:Sl w v xs):Calls Tryz.prog 75 #[u,v] w (Rt fun r w'=>r=.bool true∧Ext w w'):=by
  have hu0:=hu
  have hv0:=hv
  obtain⟨a,ca,rfl,_,hm,hp⟩:=hu.sl
  obtain⟨b,cb,rfl,_,hm2,hp2⟩:=hv.sl
  refine calls_E (n:=26) (args:=[.slice a xs.length ca,.slice b xs.length cb]) Tryz.func75 rfl Tryz.ntmps75 (by simp) ?_
  (repeat' (first|(refine at_EL ?_;first|refine eN ?_|refine eV Z Z (zA Z Z) ?_|refine eV Z Z (zB Z Z) ?_|(refine at_bin ?_;first|refine eD Z Z (zQ Z Z Z) (fun hh=>?_) (fun hh=>?_))|(refine at_call ?_;first|refine eV Z Z (zK Z Z) ?_))|(refine at_K ?_;first|refine K_then ?_|refine K_then_ret ?_)|(refine at_E ?_;first|refine E_seq ?_|refine E_region ?_|refine E_cond_t Z ?_|refine E_cond_f Z ?_|refine E_block ?_|refine E_skip ?_|refine E_ret ?_)))
  all_goals (try (exfalso;omega))
  refine E_loop (ι:=Nat) (fun i=>[(0,.slice a xs.length ca),(1,.slice b xs.length cb),(12,int xs.length),(13,int i)]) (fun i wr=>i≤xs.length∧Ext w wr) (fun i=>xs.length-i) 0
    ⟨rfl,rfl,rfl,rfl,trivial⟩ ⟨Nat.zero_le _,Ext.refl _⟩ ?_
  rintro i wr ⟨hi,hx⟩
  replace hu0:=hu0.ext hx;replace hv0:=hv0.ext hx
  by_cases hlt:i<xs.length
  · obtain⟨b1,o1,rfl⟩:=hp (by omega)
    obtain⟨b2,o2,rfl⟩:=hp2 (by omega)
    obtain⟨x,hxi⟩:∃ x,xs[i]?=some x:=⟨_,List.getElem?_eq_getElem hlt⟩
    have h1:=(note_elem hu0 hxi)
    have h2:=(note_elem hv0 hxi)
    (repeat' (first|(refine yN Z (fun wq xq=>?_);replace hx:=hx.trans xq)|refine yV Z Z (fun wq _ xq=>val_loadA Z Z Z (At.ext (by assumption) xq) (by rfl)) ?_|refine yV Z Z (fun _ _ _=>val_indexAddr (m:=i) Z Z Z (by first|rfl|omega) (by omega)) ?_|refine yV Z Z (fun _ _ _=>val_neq_self shp80 (eqs80 x) Z Z Z) ?_|(refine at_EL ?_;first|refine eN ?_|refine eV Z Z (zA Z Z) ?_|refine eV Z Z (zB Z Z) ?_|(refine at_bin ?_;first|refine eD Z Z (zL Z Z Z) (fun hh=>?_) (fun hh=>?_)|refine eV Z Z (zU Z Z Z (by omega) (by omega)) ?_))|(refine at_K ?_;first|refine K_then ?_|refine K_in ?_|refine K_then_exit ?_|refine K_in_exit ?_)|(refine at_E ?_;first|refine E_seq ?_|refine E_region ?_|refine E_cond_t Z ?_|refine E_cond_f Z ?_|refine E_block ?_|refine E_skip ?_|refine E_ret ?_|refine E_exit ?_|refine E_dq mixedOk (by kernel_rfl) Z ?_)|(refine at_RQ ?_;first|refine yV Z Z (fun _ _ _=>zA Z Z) ?_)))
    all_goals (try (exfalso;first|omega|(rename_i h;exact h rfl)|(exact absurd rfl (by assumption))))
    exact K_rnd (i+1) ⟨rfl,rfl,rfl,rfl,trivial⟩ ⟨by omega,hx⟩ (by omega)
  · (repeat' (first|(refine at_EL ?_;first|refine eN ?_|refine eV Z Z (zA Z Z) ?_|refine eV Z Z (zB Z Z) ?_|(refine at_bin ?_;first|refine eD Z Z (zL Z Z Z) (fun hh=>?_) (fun hh=>?_)))|(refine at_K ?_;first|refine K_then ?_|refine K_then_exit ?_|refine K_in_exit ?_)|(refine at_E ?_;first|refine E_seq ?_|refine E_region ?_|refine E_cond_t Z ?_|refine E_cond_f Z ?_|refine E_block ?_|refine E_skip ?_|refine E_ret ?_|refine E_exit ?_)))
    all_goals (try (exfalso;omega))
    exact ret_1 Z Z ⟨rfl,hx⟩
set_option maxHeartbeats 4000000 in
set_option maxRecDepth 8000 in
theorem same42_self (d:Dc) (X Y:List Value) (w:World) (hX:Rep.at_ Tt w d X) (hY:Rep.at_ Tt w d Y):Calls Tryz.prog 42 #[.agg X.toArray,.agg Y.toArray] w (Rt fun r w'=>r=.bool true∧Ext w w'):=by
  obtain⟨a1,c1,a2,c2,a3,c3,rfl,s1,s2,s3⟩:=dc_open hX
  obtain⟨b1,d1,b2,d2,b3,d3,rfl,t1,t2,t3⟩:=dc_open hY
  refine calls_E (n:=61) (args:=[.agg #[int d.rid,str d.rname,int d.len,int d.day,.slice a1 d.sp.length c1,.slice a2 d.tiers.length c2,.slice a3 d.notes.length c3],.agg #[int d.rid,str d.rname,int d.len,int d.day,.slice b1 d.sp.length d1,.slice b2 d.tiers.length d2,.slice b3 d.notes.length d3] ]) Tryz.func42 rfl Tryz.ntmps42 (by simp) ?_
  refine E_seq ?_
  refine E_region ?_
  refine EL_boxA Z Z Z Z (fun bG wG xG hbG rG=>?_)
  refine EL_boxA Z Z Z Z (fun bR wR xR hbR rR=>?_)
  replace rG:=rG.ext xR
  have hX:=xG.trans xR
  have c73:=fun wz (hz:Ext w wz)=>equal73_self d.sp (.slice a1 d.sp.length c1) (.slice b1 d.sp.length d1) wz (s1.ext hz) (t1.ext hz)
  have c74:=fun wz (hz:Ext w wz)=>equal74_self d.tiers (.slice a2 d.tiers.length c2) (.slice b2 d.tiers.length d2) wz (s2.ext hz) (t2.ext hz)
  have c75:=fun wz (hz:Ext w wz)=>equal75_self d.notes (.slice a3 d.notes.length c3) (.slice b3 d.notes.length d3) wz (s3.ext hz) (t3.ext hz)
  (repeat' ((fail_if_success (refine E_seq (x:=(Code.region 3 _ _)) ?_));first|refine eV Z Z (val_load Z Z Z (Row.cellAt (by assumption) (by rfl))) ?_|(refine EL_call Z Z (entersF Z Z en73) (c73 _ hX) (fun vC wC hC=>?_);obtain⟨rfl,xC⟩:=hC;replace hX:=hX.trans xC;replace rG:=rG.ext xC;replace rR:=rR.ext xC)|(refine EL_call Z Z (entersF Z Z en74) (c74 _ hX) (fun vC wC hC=>?_);obtain⟨rfl,xC⟩:=hC;replace hX:=hX.trans xC;replace rG:=rG.ext xC;replace rR:=rR.ext xC)|(refine EL_call Z Z (entersF Z Z en75) (c75 _ hX) (fun vC wC hC=>?_);obtain⟨rfl,xC⟩:=hC;replace hX:=hX.trans xC;replace rG:=rG.ext xC;replace rR:=rR.ext xC)|(refine at_EL ?_;first|refine eN ?_|refine eV Z Z (zA Z Z) ?_|refine eV Z Z (zB Z Z) ?_|refine eV Z Z (zD Z Z Z) ?_|refine eV Z Z (zE Z Z) ?_|refine eV Z Z (zH Z Z) ?_)|(refine at_K ?_;first|refine K_then ?_)|(refine at_E ?_;first|refine E_seq ?_|refine E_region ?_|refine E_cond_f Z ?_|refine E_skip ?_)))
  all_goals (try (exfalso;omega))
  have aG:At _ bG (0+0) [int d.rid,str d.rname,int d.len,int d.day,.slice a1 d.sp.length c1]:=At.sub (xs:=[]) (ys:=[int d.rid,str d.rname,int d.len,int d.day,.slice a1 d.sp.length c1]) (zs:=[.slice a2 d.tiers.length c2,.slice a3 d.notes.length c3]) rG.at
  have aR:At _ bR (0+0) [int d.rid,str d.rname,int d.len,int d.day,.slice b1 d.sp.length d1]:=At.sub (xs:=[]) (ys:=[int d.rid,str d.rname,int d.len,int d.day,.slice b1 d.sp.length d1]) (zs:=[.slice b2 d.tiers.length d2,.slice b3 d.notes.length d3]) rR.at
  refine E_seq ?_
  refine E.sub (M:=[(2,.pointer (some ⟨bG,0,none⟩)),(3,.pointer (some ⟨bR,0,none⟩))]) ⟨rfl,rfl,trivial⟩ ?_
  refine E_pair (m:=4) (p:=5) (q:=6) (sx:=32) (sy:=34) (t:=68) (X:=[int d.rid,str d.rname,int d.len,int d.day,.slice a1 d.sp.length c1]) (Y:=[int d.rid,str d.rname,int d.len,int d.day,.slice b1 d.sp.length d1])
    (Lr:=[(31,.pointer (some ⟨bG,0+0,none⟩)),(32,.agg #[int d.rid,str d.rname,int d.len,int d.day,.slice a1 d.sp.length c1]),(33,.pointer (some ⟨bR,0+0,none⟩)),(34,.agg #[int d.rid,str d.rname,int d.len,int d.day,.slice b1 d.sp.length d1])])
    mixedOk (by kernel_rfl) rfl rfl rfl rfl rfl rfl rfl rfl rfl rfl rfl rfl rfl rfl rfl rfl
    ⟨fun _ _=>show Val _ _ _ _ (.pointer (some ⟨bG,0+0,none⟩)) from zH Z Z,fun _ xq=>val_loadA Z Z Z (aG.ext xq) Z,fun _ _=>show Val _ _ _ _ (.pointer (some ⟨bR,0+0,none⟩)) from zH Z Z,fun _ xq=>val_loadA Z Z Z (aR.ext xq) Z,trivial⟩ ?_
  intro b5 b6 w9 x9 _ _ hne r5 r6
  (repeat' (first|refine eV Z Z (val_load Z Z Z (Row.cellAt (by assumption) (by rfl))) ?_|(refine at_EL ?_;first|refine eN ?_|refine eO Z Z ?_|refine eV Z Z (zA Z Z) ?_|refine eV Z Z (zB Z Z) ?_|(refine at_bin ?_;first|refine eD Z Z (zM Z Z Z) (fun hh=>?_) (fun hh=>?_)|refine eD Z Z (zR Z Z Z) (fun hh=>?_) (fun hh=>?_))|refine eV Z Z (zC Z Z Z) ?_|refine eV Z Z (zD Z Z Z) ?_|refine eV Z Z (zH Z Z) ?_)|(refine at_K ?_;first|refine K_then ?_)|(refine at_E ?_;first|refine E_seq ?_|refine E_region ?_|refine E_ret ?_)))
  all_goals (try (exfalso;first|omega|(exact absurd rfl (by assumption))))
  exact ret_1 Z Z ⟨rfl,hX.trans x9⟩
end Go.Proofs.YtjicdgejhkgpgaaGreatDoor
namespace Go.Proofs.YtjicdgejhkgpgaaGreatDoor
open Go.RowKit Go.En Go.Pv
def xE1:En:=⟨1,[2,1],1,[],0,[⟨[100,111,103],[]⟩],[],[⟨3,5⟩]⟩
def xE2:En:=⟨2,[4,3],2,[],0,[⟨[80,76],[]⟩],[],[⟨3,5⟩,⟨3,7⟩]⟩
def xE1n:En:=⟨1,[2,1],1,[],0,[⟨[100,111,103],[]⟩],[],[]⟩
def xSegs:List Ph:=[⟨[97],0⟩,⟨[98],0⟩,⟨[105],0⟩,⟨[112],0⟩]
def xUnits:List Unt:=[⟨[97],[1]⟩,⟨[98],[2]⟩,⟨[105],[3]⟩,⟨[112],[4]⟩]
def xSteps:List Stp:=[⟨0,1,1⟩,⟨1,2,1⟩]
def xNet:Net:=⟨2,xSteps,[1]⟩
def xG:Lg:={ segs:=xSegs,oname:=[111,110,101],units:=xUnits,letters:=[],rules:=[],net:=xNet,lex:=[xE1,xE2] }
def xGn:Lg:={ segs:=xSegs,oname:=[111,110,101],units:=xUnits,letters:=[],rules:=[],net:=xNet,lex:=[xE1n,xE2] }
def xT:List Tier:=[⟨[116,101,120,116],0,1,-1⟩,⟨[119,111,114,100],2,2,0⟩,⟨[109,111,114,112,104],3,3,1⟩]
def xN:List Note:=[⟨2,0,0,0,900,0,[]⟩,⟨5,1,2,0,300,0,[98,97]⟩,⟨7,1,2,300,500,0,[98,97,112,105]⟩,⟨8,2,7,0,0,0,[98,97]⟩]
def xD:Dc:=⟨3,[],900,0,[],xT,xN⟩
def xP:Pnt:=⟨1,[112,108,117,114,97,108],[],[2],[⟨3,7⟩,⟨3,9⟩]⟩
def xQ:Pnt:=⟨1,[112,108,117,114,97,108],[],[2],[]⟩
theorem x_att1:attP [xD] xG 2 ⟨3,7⟩=true:=by kernel_rfl
theorem x_att2:attP [xD] xG 2 ⟨3,5⟩=false:=by kernel_rfl
theorem x_att3:attP [xD] xG 1 ⟨3,8⟩=false:=by kernel_rfl
theorem x_ent:entryP [xD] xG 2=[⟨3,7⟩]:=by kernel_rfl
theorem x_miss:missP [xD] xG=[]:=by kernel_rfl
theorem x_missn:missP [xD] xGn=[1]:=by kernel_rfl
theorem x_pts:pointsF labB txtF xG.lex [xP]=0:=by kernel_rfl
theorem x_ptsq:pointsF labB txtF xG.lex [xQ]=24:=by kernel_rfl
theorem x_dang:danglF (leadsB [xD]) [xP]=[⟨3,9⟩]:=by kernel_rfl
theorem x_uses:sortedF (usesL [xP] 2)=[1]:=by kernel_rfl
theorem x_where:whereDV [xD] ⟨3,8⟩=.tuple #[.agg #[int 300,int 500],.bool true]:=by kernel_rfl
theorem x_no:whereDV [xD] ⟨4,8⟩=.tuple #[.agg #[int 0,int 0],.bool false]:=by kernel_rfl
theorem x_doc:docF [xD] 3=some xD:=by kernel_rfl
theorem x_tier {k:Nat} {t:Tier} (h:xD.tiers[k]?=some t):(k=0∧t=⟨[116,101,120,116],0,1,-1⟩)∨(k=1∧t=⟨[119,111,114,100],2,2,0⟩)∨(k=2∧t=⟨[109,111,114,112,104],3,3,1⟩):=by
  rcases k with _|_|_|k
  · exact .inl ⟨rfl,(Option.some.inj h).symm⟩
  · exact .inr (.inl ⟨rfl,(Option.some.inj h).symm⟩)
  · exact .inr (.inr ⟨rfl,(Option.some.inj h).symm⟩)
  · cases h
theorem x_note {k:Nat} {n:Note} (h:xD.notes[k]?=some n):(k=0∧n=⟨2,0,0,0,900,0,[]⟩)∨(k=1∧n=⟨5,1,2,0,300,0,[98,97]⟩)∨(k=2∧n=⟨7,1,2,300,500,0,[98,97,112,105]⟩)∨(k=3∧n=⟨8,2,7,0,0,0,[98,97]⟩):=by
  rcases k with _|_|_|_|k
  · exact .inl ⟨rfl,(Option.some.inj h).symm⟩
  · exact .inr (.inl ⟨rfl,(Option.some.inj h).symm⟩)
  · exact .inr (.inr (.inl ⟨rfl,(Option.some.inj h).symm⟩))
  · exact .inr (.inr (.inr ⟨rfl,(Option.some.inj h).symm⟩))
  · cases h
theorem x_tiers (i : Nat) (t : Tier) (h : xD.tiers[i]? = some t) : TierOK xD.tiers i t := by
  rcases x_tier h with⟨rfl,rfl⟩|⟨rfl,rfl⟩|⟨rfl,rfl⟩
  all_goals
    refine⟨by dsimp only;omega,by dsimp only;omega,fun _ k p hk hp=>?_,by dsimp only;omega,by dsimp only;omega,?_,by dsimp only;omega,?_⟩
    · rcases x_tier hp with⟨rfl,rfl⟩|⟨rfl,rfl⟩|⟨rfl,rfl⟩ <;> dsimp only <;> omega
    · intro hk
      first
        | (exfalso;dsimp only at hk;omega)
        | exact⟨_,rfl,rfl⟩
    · refine⟨fun hk=>?_,fun hk=>?_,fun hk=>?_⟩
      all_goals
        first
          | (exfalso;dsimp only at hk;omega)
          | exact⟨_,rfl,rfl⟩
          | exact⟨by dsimp only;omega,_,rfl,rfl⟩
theorem x_placed (n:Note) (t:Tier) (k:Nat) (hn:n∈xD.notes) (hk:n.tier=(k:Int)) (ht:xD.tiers[k]?=some t):PlacedOK xD n t:=by
  obtain⟨i,hi⟩:=List.getElem?_of_mem hn
  rcases x_note hi with⟨rfl,rfl⟩|⟨rfl,rfl⟩|⟨rfl,rfl⟩|⟨rfl,rfl⟩
  all_goals
    rcases x_tier ht with⟨rfl,rfl⟩|⟨rfl,rfl⟩|⟨rfl,rfl⟩
    all_goals first|(exfalso;dsimp only at hk;omega)|skip
  all_goals
    refine⟨by dsimp only;omega,fun hk0=>?_,fun hoff=>?_,fun hon=>?_,fun hk0=>?_,fun hk0 p hp=>?_,?_⟩
    · first|(exfalso;dsimp only at hk0;omega)|exact⟨_,rfl,rfl⟩
    · first|(exfalso;cases hoff;done)|exact⟨rfl,rfl⟩
    · first|(exfalso;cases hon;done)|rfl
    · first|(exfalso;dsimp only at hk0;omega)|(show(_:Int)≤900;dsimp only;omega)
    · first|(exfalso;dsimp only at hk0;omega)|(cases hp;exact⟨by dsimp only;omega,by dsimp only;omega⟩)
    · exact⟨by dsimp only;omega,fun _=>rfl⟩
theorem x_notes (i:Nat) (n:Note) (h:xD.notes[i]?=some n):NoteOK xD i n:=by
  have hm:=List.mem_of_getElem? h
  refine⟨?_,fun m h0 hm'=>?_,?_,?_⟩
  · rcases x_note h with⟨rfl,rfl⟩|⟨rfl,rfl⟩|⟨rfl,rfl⟩|⟨rfl,rfl⟩ <;> dsimp only <;> omega
  · rcases x_note h with⟨rfl,rfl⟩|⟨rfl,rfl⟩|⟨rfl,rfl⟩|⟨rfl,rfl⟩
    all_goals rcases x_note hm' with⟨e,rfl⟩|⟨e,rfl⟩|⟨e,rfl⟩|⟨e,rfl⟩ <;> dsimp only <;> omega
  · rcases x_note h with⟨rfl,rfl⟩|⟨rfl,rfl⟩|⟨rfl,rfl⟩|⟨rfl,rfl⟩
    all_goals exact⟨by decide,_,rfl,by decide⟩
  · rcases x_note h with⟨rfl,rfl⟩|⟨rfl,rfl⟩|⟨rfl,rfl⟩|⟨rfl,rfl⟩
    · exact⟨_,0,rfl,rfl,x_placed _ _ 0 hm rfl rfl⟩
    · exact⟨_,1,rfl,rfl,x_placed _ _ 1 hm rfl rfl⟩
    · exact⟨_,1,rfl,rfl,x_placed _ _ 1 hm rfl rfl⟩
    · exact⟨_,2,rfl,rfl,x_placed _ _ 2 hm rfl rfl⟩
theorem x_sib (k:Nat) (t:Tier) (h:xD.tiers[k]?=some t):TierNotes xD k t:=by
  intro n hn hk
  obtain⟨i,hi⟩:=List.getElem?_of_mem hn
  rcases x_note hi with⟨rfl,rfl⟩|⟨rfl,rfl⟩|⟨rfl,rfl⟩|⟨rfl,rfl⟩
  all_goals
    rcases x_tier h with⟨rfl,rfl⟩|⟨rfl,rfl⟩|⟨rfl,rfl⟩
    all_goals first|(exfalso;dsimp only at hk;omega)|skip
  · refine⟨fun _ i k a b hlt ha hb=>?_,fun e=>by dsimp only at e;omega,fun e=>by dsimp only at e;omega⟩
    have e:sibs xD.notes ((0:Nat):Int) 0=[⟨2,0,0,0,900,0,[]⟩]:=rfl
    dsimp only at ha hb
    rw [e] at ha hb
    have:=(List.getElem?_eq_some_iff.1 ha).1
    simp at this;omega
  iterate 2
    · refine⟨fun _ i k a b hlt ha hb=>?_,fun e=>by dsimp only at e;omega,fun e=>by dsimp only at e;omega⟩
      have e:sibs xD.notes ((1:Nat):Int) 2=[⟨5,1,2,0,300,0,[98,97]⟩,⟨7,1,2,300,500,0,[98,97,112,105]⟩]:=rfl
      dsimp only at ha hb
      rw [e] at ha hb
      have h2:=(List.getElem?_eq_some_iff.1 ha).1
      simp at h2
      obtain⟨rfl,rfl⟩:i=1∧k=0:=by omega
      cases ha;cases hb
      dsimp only;omega
  · refine⟨fun e=>(by cases e),fun _ m hm=>?_,fun e=>(by dsimp only at e;omega)⟩
    have e:sibs xD.notes ((2:Nat):Int) 7=[⟨8,2,7,0,0,0,[98,97]⟩]:=rfl
    dsimp only at hm ⊢
    rw [e] at hm ⊢
    simp at hm
    subst hm
    exact⟨_,List.mem_singleton.2 rfl,rfl⟩
theorem x_light:LightD xD:=⟨by decide,by decide,by decide,x_tiers,⟨by decide,by decide⟩,x_notes,x_sib⟩
theorem x_lights:LightDs [xD]:=⟨by decide,fun d hd=>by rw [List.mem_singleton] at hd;subst hd;exact x_light,fun i a b _ hb=>by simp at hb⟩
theorem x_net:NetOK xNet:=⟨by decide,by decide,by decide,by decide⟩
theorem x_lang:LangOK xG:={ nsegs:=by decide,nunits:=by decide,units:=by decide,nrules:=by decide,rules:=by decide,net:=x_net,states:=by decide,nsteps:=by decide,nfinal:=by decide,nlex:=by decide,ids:=by decide,lex:=by decide }
theorem x_langn:LangOK xGn:={ nsegs:=by decide,nunits:=by decide,units:=by decide,nrules:=by decide,rules:=by decide,net:=x_net,states:=by decide,nsteps:=by decide,nfinal:=by decide,nlex:=by decide,ids:=by decide,lex:=by decide }
end Go.Proofs.YtjicdgejhkgpgaaGreatDoor
