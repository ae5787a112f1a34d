/-
  Walks: the program's Role, call, Attests.
-/
import Derived.Test.YtjicdgejhkgpgaaGreatDoorYz
import Derived.Test.YtjicdgejhkgpgaaGreatDoorY0
import Derived.Test.YtjicdgejhkgpgaaGreatDoorYx
import Derived.Test.YtjicdgejhkgpgaaGreatDoorY2
import Derived.Test.YtjicdgejhkgpgaaGreatDoorYn
set_option linter.all false
namespace Go.Proofs.YtjicdgejhkgpgaaGreatDoor
open Go.RowKit Go.En Go.Pv
theorem uses39_any {g:Lg} (hok:LangOK g) (ws:List Int) (id:Int) (pv uv tv rv sv fv ev wv:Value) (w:World) (hg:LangG Tt w g pv uv tv rv sv fv ev) (hw:Sl w wv ws) :
    Calls Tryz.prog 39 #[.agg #[pv,str g.oname,uv,tv,rv,int g.net.states,sv,fv,ev],wv,int id] w (Rt fun u w'=>u=.bool (usesF g ws id)∧Ext w w'):=
  uses39_of_run (run70_any hok hok.rul (senses185_any hok) ws id) pv uv tv rv sv fv ev wv w hg hw
def roleI (ts:List Tier) (r:Int):Int:=match ts.findIdx? (fun t=>t.role==r) with|some i=>(i:Int)|none => -1
theorem role_here {ts:List Tier} {r:Int} {i:Nat} {t:Tier} (ht:ts[i]?=some t) (hr:t.role=r) (hall:∀(j:Nat) (y:Tier),j<i→ts[j]?=some y→y.role≠r):roleI ts r=(i:Int):=by
  unfold roleI
  obtain⟨hl,he⟩:=List.getElem?_eq_some_iff.1 ht
  have:ts.findIdx? (fun t=>t.role==r)=some i:=by
    rw [List.findIdx?_eq_some_iff_getElem]
    refine⟨hl,by rw [he];simpa using hr,fun j hj=>?_⟩
    have:=hall j _ hj (List.getElem?_eq_getElem (by omega))
    simpa using this
  rw [this]
theorem role_not {ts:List Tier} {r:Int} (hall:∀(j:Nat) (y:Tier),j<ts.length→ts[j]?=some y→y.role≠r):roleI ts r = -1:=by
  unfold roleI
  have:ts.findIdx? (fun t=>t.role==r)=none:=by
    rw [List.findIdx?_eq_none_iff]
    intro t ht
    obtain⟨j,hj⟩:=List.getElem?_of_mem ht
    have:=hall j t (List.getElem?_eq_some_iff.1 hj).1 hj
    simpa using this
  rw [this]
def callF (ds : List Dc) (g : Lg) (r : Rf) : Option (List Int) := match docF ds r.rcd with
  | none=>none
  | some d=>match getF d.notes r.note with
    | none=>none
    | some n=>if n.tier=roleI d.tiers 2∧(readF g.units n.text).2=0 then some (readF g.units n.text).1 else none
def attP (ds:List Dc) (g:Lg) (id:Int) (r:Rf):Bool:=(getE g.lex id).isSome&&(match callF ds g r with|none=>false|some ws=>usesF g ws id)
attribute [local irreducible] E EL K Val Enters Rt Calls bodyPost Code.wp RQ
set_option maxHeartbeats 4000000 in
set_option maxRecDepth 8000 in
theorem role90_any (ts:List Tier) (r:Int) (hr:r≠0) (v:Value) (w:World) (hv:Sl w v ts):Calls Tryz.prog 90 #[v,int r] w (Rt fun u w'=>u=int (roleI ts r)∧Ext w w'):=by
  have hv0:=hv
  obtain⟨a,c,rfl,_,hm,hpp⟩:=hv.sl
  refine calls_E (n:=24) (args:=[.slice a ts.length c,int r]) Tryz.func90 rfl Tryz.ntmps90 (by simp) ?_
  (repeat' (first|(refine at_EL ?_;first|refine eN ?_|refine eV Z Z (zA Z Z) ?_|refine eV Z Z (zB Z Z) ?_|(refine at_call ?_;first|refine eV Z Z (zK Z Z) ?_))|(refine at_K ?_;first|refine K_then ?_)|(refine at_E ?_;first|refine E_seq ?_|refine E_region ?_|refine E_block ?_)))
  refine E_loop (ι:=Nat) (fun i=>[(1,int r),(7,.slice a ts.length c),(8,int ts.length),(9,int i)]) (fun i wr=>i≤ts.length∧Ext w wr∧∀(j:Nat) (y:Tier),j<i→ts[j]?=some y→y.role≠r) (fun i=>ts.length-i) 0
    ⟨rfl,rfl,rfl,rfl,trivial⟩ ⟨Nat.zero_le _,Ext.refl _,fun _ _ h=>absurd h (by omega)⟩ ?_
  rintro i wr ⟨hi,hx,hall⟩
  replace hv0:=hv0.ext hx
  by_cases hlt:i<ts.length
  · obtain⟨b,off,rfl⟩:=hpp (by omega)
    obtain⟨t,hti⟩:∃ t,ts[i]?=some t:=⟨_,List.getElem?_eq_getElem hlt⟩
    have hat:=tier_elem hv0 hti
    by_cases h2:t.role=r
    · rw [role_here hti h2 hall]
      (repeat' (first|refine eV Z Z (val_load Z Z Z (Row.cellAt (by assumption) (by rfl))) ?_|refine eV Z Z (val_loadA Z Z Z (by assumption) (by rfl)) ?_|refine eV Z Z (val_indexAddr (m:=i) Z Z Z (by first|rfl|omega) (by omega)) ?_|(refine EL_var1 Z Z Z Z Z Z Z Z Z Z Z Z Z Z Z (fun bX wX xX hbX rX=>?_);replace hx:=hx.trans xX)|(refine at_EL ?_;first|refine eN ?_|refine eO Z Z ?_|refine eV Z Z (zA Z Z) ?_|refine eV Z Z (zB Z Z) ?_|(refine at_bin ?_;first|refine eD Z Z (zL Z Z Z) (fun hh=>?_) (fun hh=>?_)|refine eD Z Z (zM Z Z Z) (fun hh=>?_) (fun hh=>?_)|refine eD Z Z (zQ Z Z Z) (fun hh=>?_) (fun hh=>?_)|refine eV Z Z (zU Z Z Z (by omega) (by omega)) ?_)|refine eV Z Z (zC Z Z Z) ?_|refine eV Z Z (zD Z Z Z) ?_|refine eV Z Z (zH Z Z) ?_)|(refine at_K ?_;first|refine K_then ?_|refine K_in ?_|refine K_then_ret ?_|refine K_then_exit ?_|refine K_in_ret ?_|refine K_in_exit ?_)|(refine at_E ?_;first|refine E_seq ?_|refine E_region ?_|refine E_cond_t Z ?_|refine E_cond_f Z ?_|refine E_block ?_|refine E_skip ?_|refine E_ret ?_|refine E_exit ?_)))
      all_goals (try (exfalso;omega))
      exact ret_1 Z Z ⟨rfl,hx⟩
    · (repeat' (first|refine eV Z Z (val_load Z Z Z (Row.cellAt (by assumption) (by rfl))) ?_|refine eV Z Z (val_loadA Z Z Z (by assumption) (by rfl)) ?_|refine eV Z Z (val_indexAddr (m:=i) Z Z Z (by first|rfl|omega) (by omega)) ?_|(refine EL_var1 Z Z Z Z Z Z Z Z Z Z Z Z Z Z Z (fun bX wX xX hbX rX=>?_);replace hx:=hx.trans xX)|(refine at_EL ?_;first|refine eN ?_|refine eO Z Z ?_|refine eV Z Z (zA Z Z) ?_|refine eV Z Z (zB Z Z) ?_|(refine at_bin ?_;first|refine eD Z Z (zL Z Z Z) (fun hh=>?_) (fun hh=>?_)|refine eD Z Z (zM Z Z Z) (fun hh=>?_) (fun hh=>?_)|refine eD Z Z (zQ Z Z Z) (fun hh=>?_) (fun hh=>?_)|refine eV Z Z (zU Z Z Z (by omega) (by omega)) ?_)|refine eV Z Z (zC Z Z Z) ?_|refine eV Z Z (zD Z Z Z) ?_|refine eV Z Z (zH Z Z) ?_)|(refine at_K ?_;first|refine K_then ?_|refine K_in ?_|refine K_then_ret ?_|refine K_then_exit ?_|refine K_in_ret ?_|refine K_in_exit ?_)|(refine at_E ?_;first|refine E_seq ?_|refine E_region ?_|refine E_cond_t Z ?_|refine E_cond_f Z ?_|refine E_block ?_|refine E_skip ?_|refine E_ret ?_|refine E_exit ?_)))
      all_goals (try (exfalso;omega))
      refine K_rnd (i+1) ⟨rfl,rfl,rfl,rfl,trivial⟩ ⟨by omega,hx,fun j y hj hy=>?_⟩ (by omega)
      by_cases e:j=i
      · subst e;rw [hti] at hy;cases hy;exact h2
      · exact hall j y (by omega) hy
  · rw [role_not (fun j y hj hy=>hall j y (by omega) hy)]
    (repeat' (first|(refine at_EL ?_;first|refine eN ?_|refine eV Z Z (zA Z Z) ?_|refine eV Z Z (zB Z Z) ?_|(refine at_bin ?_;first|refine eD Z Z (zL Z Z Z) (fun hh=>?_) (fun hh=>?_)))|(refine at_K ?_;first|refine K_then ?_|refine K_then_exit ?_|refine K_in_exit ?_)|(refine at_E ?_;first|refine E_seq ?_|refine E_region ?_|refine E_cond_t Z ?_|refine E_cond_f Z ?_|refine E_block ?_|refine E_skip ?_|refine E_ret ?_|refine E_exit ?_)))
    all_goals (try (exfalso;omega))
    exact ret_1 Z Z ⟨rfl,hx⟩
def CallR (ds:List Dc) (g:Lg) (r:Rf) (pv uv tv rv sv fv ev:Value) (u:Value) (w:World):Prop:=
  (∃ ws wv,u=.iface 155 (.agg #[pv,str g.oname,uv,tv,rv,int g.net.states,sv,fv,ev,wv])∧Sl w wv ws∧callF ds g r=some ws)∨(u=.iface 152 (.agg #[])∧callF ds g r=none)
def TxLen (ds:List Dc):Prop:=∀ d∈ds,∀ n∈d.notes,n.text.length≤1000000
theorem docF_mem {ds:List Dc} {rec:Int} {d:Dc} (h:docF ds rec=some d):d∈ds:=List.mem_of_find?_eq_some h
theorem docD_text {ds:List Dc} (hTx:TxLen ds) (rec id:Int):(noteD (docD ds rec).notes id).text.length≤1000000:=by
  unfold docD noteD
  cases h:docF ds rec with
  | none=>simp [zeroDc,getF,zeroN]
  | some d=>
    simp only [Option.getD_some]
    cases h2:getF d.notes id with
    | none=>simp [zeroN]
    | some n=>exact hTx d (docF_mem h) n (getF_memN h2)
theorem call_doc {ds:List Dc} {g:Lg} {r:Rf} (h:(docF ds r.rcd).isSome=false):callF ds g r=none:=by
  unfold callF
  cases h2:docF ds r.rcd with
  | none=>rfl
  | some _=>rw [h2] at h;cases h
theorem call_note {ds:List Dc} {g:Lg} {r:Rf} (h:(getF (docD ds r.rcd).notes r.note).isSome=false):callF ds g r=none:=by
  unfold callF
  cases h2:docF ds r.rcd with
  | none=>rfl
  | some d=>
    have:docD ds r.rcd=d:=by unfold docD;rw [h2];rfl
    rw [this] at h
    dsimp only
    cases h3:getF d.notes r.note with
    | none=>rfl
    | some _=>rw [h3] at h;cases h
theorem call_all {ds:List Dc} {g:Lg} {r:Rf} (h1:(docF ds r.rcd).isSome=true) (h2:(getF (docD ds r.rcd).notes r.note).isSome=true):callF ds g r=if (noteD (docD ds r.rcd).notes r.note).tier=roleI (docD ds r.rcd).tiers 2∧(readF g.units (noteD (docD ds r.rcd).notes r.note).text).2=0 then some (readF g.units (noteD (docD ds r.rcd).notes r.note).text).1 else none:=by
  unfold callF
  obtain⟨d,hd⟩:=Option.isSome_iff_exists.1 h1
  have e:docD ds r.rcd=d:=by unfold docD;rw [hd];rfl
  rw [e] at h2 ⊢
  obtain⟨m,hm⟩:=Option.isSome_iff_exists.1 h2
  have e2:noteD d.notes r.note=m:=by unfold noteD;rw [hm];rfl
  rw [e2,hd]
  dsimp only
  rw [hm]
set_option maxHeartbeats 8000000 in
set_option maxRecDepth 8000 in
theorem call49_any {ds:List Dc} (hTx:TxLen ds) (g:Lg) (hok:LangOK g) (r:Rf) (dv pv uv tv rv sv fv ev:Value) (w:World) (hv:Sl w dv ds) (hg:LangG Tt w g pv uv tv rv sv fv ev) :
    Calls Tryz.prog 49 #[dv,.agg #[pv,str g.oname,uv,tv,rv,int g.net.states,sv,fv,ev],.agg #[int r.rcd,int r.note] ] w (Rt fun u w'=>CallR ds g r pv uv tv rv sv fv ev u w'∧Ext w w'):=by
  obtain⟨D,hD⟩:∃ D,D=docD ds r.rcd:=⟨_,rfl⟩
  obtain⟨X,hrepX,cd⟩:=doc34_any ds r.rcd dv w hv
  have hcn:=call_note (ds:=ds) (g:=g) (r:=r)
  have hca:=call_all (ds:=ds) (g:=g) (r:=r)
  have hcd:=call_doc (ds:=ds) (g:=g) (r:=r)
  have htx:=docD_text hTx r.rcd r.note
  rw [← hD] at hrepX hcn hca htx
  obtain⟨a1,c1,a2,c2,a3,c3,rfl,s1,s2,s3⟩:=dc_open hrepX
  have hdat:DcAt w _ D:=dc_at hrepX
  have cn:=fun wz (hz:Ext w wz)=>tget_any D _ r.note wz (hdat.ext hz)
  rw [getR_eq] at cn
  obtain⟨N,hN⟩:∃ N,N=noteD D.notes r.note:=⟨_,rfl⟩
  rw [← hN] at cn hca htx
  obtain⟨b1,hb1⟩:∃ b,(docF ds r.rcd).isSome=b:=⟨_,rfl⟩
  obtain⟨b2,hb2⟩:∃ b,(getF D.notes r.note).isSome=b:=⟨_,rfl⟩
  obtain⟨rI,hrI⟩:∃ z,roleI D.tiers 2=z:=⟨_,rfl⟩
  have cr:=fun wz (hz:Ext w wz)=>role90_any D.tiers 2 (by decide) (.slice a2 D.tiers.length c2) wz (s2.ext hz)
  rw [hb1] at cd hcd hca
  rw [hb2] at cn hcn hca
  rw [hrI] at cr hca
  obtain⟨ze,hze⟩:∃ z,(readF g.units N.text).2=z:=⟨_,rfl⟩
  have c38:=fun wz (hz:Ext w wz)=>read38_any g.units hok.units N.text htx g.oname uv tv wz (hg.units.ext hz)
  rw [hze] at c38 hca
  refine calls_E (n:=60) (args:=[dv,.agg #[pv,str g.oname,uv,tv,rv,int g.net.states,sv,fv,ev],.agg #[int r.rcd,int r.note] ]) Tryz.func49 rfl Tryz.ntmps49 (by simp) ?_
  refine E_seq ?_
  refine E_region ?_
  refine EL_boxA Z Z Z Z (fun bG wG xG hbG rG=>?_)
  refine EL_boxA Z Z Z Z (fun bR wR xR hbR rR=>?_)
  replace rG:=rG.ext xR
  have hX:=xG.trans xR
  have aO:At wR bG (0+1) [str g.oname,uv,tv]:=At.sub (xs:=[pv]) (ys:=[str g.oname,uv,tv]) (zs:=[rv,int g.net.states,sv,fv,ev]) rG.at
  cases b1 with
  | false=>
    (repeat' (first|refine eV Z Z (val_load Z Z Z (Row.cellAt (by assumption) (by rfl))) ?_|(refine EL_call Z Z (entersF Z Z en34) (cd _ hX) (fun vC wC hC=>?_);obtain⟨rfl,xC⟩:=hC;replace hX:=hX.trans xC;replace rG:=rG.ext xC;replace rR:=rR.ext xC)|(refine EL_var (t:=72) Z Z Z Z Z Z Z Z Z Z (fun bD wD xD hbD rD=>?_);replace hX:=hX.trans xD;replace rG:=rG.ext xD;replace rR:=rR.ext xD)|refine eV Z Z (val_build (vs:=[]) [] rfl rfl rfl) ?_|refine eV Z Z (val_iface Z Z Z) ?_|(refine at_EL ?_;first|refine eN ?_|refine eV Z Z (zA Z Z) ?_|refine eV Z Z (zB Z Z) ?_|refine eV Z Z (zE Z Z) ?_|refine eV Z Z (zF Z Z Z) ?_|refine eV Z Z (zH Z Z) ?_)|(refine at_K ?_;first|refine K_then ?_|refine K_then_ret ?_)|(refine at_E ?_;first|refine E_seq ?_|refine E_region ?_|refine E_cond_t Z ?_|refine E_ret ?_)))
    all_goals (try (exfalso;omega))
    exact ret_1 Z Z ⟨.inr ⟨rfl,hcd rfl⟩,hX⟩
  | true=>
  cases b2 with
  | false=>
    (repeat' (first|(refine yN Z (fun wq xq=>?_);replace hX:=hX.trans xq)|refine eV Z Z (val_load Z Z Z (Row.cellAt (by assumption) (by rfl))) ?_|refine eV Z Z (val_loadA Z Z Z (Row.at (by assumption)) (by rfl)) ?_|(refine EL_call Z Z (entersF Z Z en34) (cd _ hX) (fun vC wC hC=>?_);obtain⟨rfl,xC⟩:=hC;replace hX:=hX.trans xC;replace rG:=rG.ext xC;replace rR:=rR.ext xC)|(refine EL_call Z Z (entersF Z Z en36) (cn _ hX) (fun vC wC hC=>?_);obtain⟨rfl,xC⟩:=hC;replace hX:=hX.trans xC;replace rG:=rG.ext xC;replace rR:=rR.ext xC;replace rD:=rD.ext xC)|(refine EL_var (t:=72) Z Z Z Z Z Z Z Z Z Z (fun bD wD xD hbD rD=>?_);replace hX:=hX.trans xD;replace rG:=rG.ext xD;replace rR:=rR.ext xD)|(refine EL_var (t:=80) Z Z Z Z Z Z Z Z Z Z (fun bN wN xN hbN rN=>?_);replace hX:=hX.trans xN;replace rG:=rG.ext xN;replace rR:=rR.ext xN;replace rD:=rD.ext xN)|refine eV Z Z (val_build (vs:=[]) [] rfl rfl rfl) ?_|refine eV Z Z (val_iface Z Z Z) ?_|(refine at_EL ?_;first|refine eN ?_|refine eV Z Z (zA Z Z) ?_|refine eV Z Z (zB Z Z) ?_|refine eV Z Z (zE Z Z) ?_|refine eV Z Z (zF Z Z Z) ?_|refine eV Z Z (zH Z Z) ?_)|(refine at_K ?_;first|refine K_then ?_|refine K_then_ret ?_)|(refine at_E ?_;first|refine E_seq ?_|refine E_region ?_|refine E_cond_t Z ?_|refine E_cond_f Z ?_|refine E_skip ?_|refine E_ret ?_|refine E_dq mixedOk (by kernel_rfl) Z ?_)|(refine at_RQ ?_;first|refine yO Z Z ?_|refine yV Z Z (fun _ _ _=>zA Z Z) ?_|refine yV Z Z (fun _ _ _=>zC Z Z Z) ?_|refine yV Z Z (fun _ _ _=>zE Z Z) ?_)))
    all_goals (try (exfalso;omega))
    exact ret_1 Z Z ⟨.inr ⟨rfl,hcn rfl⟩,hX⟩
  | true=>
    have hca1:=hca rfl rfl
    (repeat' (first|(refine yN Z (fun wq xq=>?_);replace hX:=hX.trans xq;replace aO:=aO.ext xq;replace rG:=rG.ext xq;replace rD:=rD.ext xq;replace rN:=rN.ext xq)|refine eV Z Z (val_load Z Z Z (Row.cellAt (by assumption) (by rfl))) ?_|refine eV Z Z (val_loadA Z Z Z (Row.at (by assumption)) (by rfl)) ?_|refine eV Z Z (val_loadA Z Z Z (by assumption) (by rfl)) ?_|refine yV Z Z (fun wq _ xq=>val_load Z Z Z ((Row.ext (by assumption) xq).cellAt (by rfl))) ?_|(refine EL_call Z Z (entersF Z Z en34) (cd _ hX) (fun vC wC hC=>?_);obtain⟨rfl,xC⟩:=hC;replace hX:=hX.trans xC;replace aO:=aO.ext xC;replace rG:=rG.ext xC;replace rR:=rR.ext xC)|(refine EL_call Z Z (entersF Z Z en36) (cn _ hX) (fun vC wC hC=>?_);obtain⟨rfl,xC⟩:=hC;replace hX:=hX.trans xC;replace aO:=aO.ext xC;replace rG:=rG.ext xC;replace rR:=rR.ext xC;replace rD:=rD.ext xC)|(refine EL_var (t:=72) Z Z Z Z Z Z Z Z Z Z (fun bD wD xD hbD rD=>?_);replace hX:=hX.trans xD;replace aO:=aO.ext xD;replace rG:=rG.ext xD;replace rR:=rR.ext xD)|(refine EL_var (t:=80) Z Z Z Z Z Z Z Z Z Z (fun bN wN xN hbN rN=>?_);replace hX:=hX.trans xN;replace aO:=aO.ext xN;replace rG:=rG.ext xN;replace rR:=rR.ext xN;replace rD:=rD.ext xN)|refine RQ_call Z Z (fun _ _ _=>entersF Z Z en90) (fun wq xz=>cr wq (hX.trans xz)) ?_|(refine EL_call Z Z (entersF Z Z en38) (c38 _ hX) (fun vC wC hC=>?_);obtain⟨⟨v38,a38,rfl,s38⟩,xC⟩:=hC;replace hX:=hX.trans xC;replace rG:=rG.ext xC;obtain⟨qa,qc,rfl,_,_,_⟩:=s38.sl)|refine eV Z Z (val_build (vs:=[]) [] rfl rfl rfl) ?_|refine eV Z Z (val_build (vs:=[(0,.agg #[pv,str g.oname,uv,tv,rv,int g.net.states,sv,fv,ev]),(1,.slice qa (readF g.units N.text).1.length qc)]) [pv,str g.oname,uv,tv,rv,int g.net.states,sv,fv,ev,.slice qa (readF g.units N.text).1.length qc] rfl rfl rfl) ?_|refine eV Z Z (val_iface Z Z Z) ?_|(refine at_EL ?_;first|refine eN ?_|refine eV Z Z (zA Z Z) ?_|refine eV Z Z (zB Z Z) ?_|(refine at_bin ?_;first|refine eD Z Z (zQ Z Z Z) (fun hh=>?_) (fun hh=>?_))|refine eV Z Z (zE Z Z) ?_|refine eV Z Z (zF Z Z Z) ?_|refine eV Z Z (zH Z Z) ?_)|(refine at_K ?_;first|refine K_then ?_|refine K_then_ret ?_)|(refine at_E ?_;first|refine E_seq ?_|refine E_region ?_|refine E_cond_t Z ?_|refine E_cond_f Z ?_|refine E_skip ?_|refine E_ret ?_|refine E_dq mixedOk (by kernel_rfl) Z ?_)|(refine at_RQ ?_;first|refine yV Z Z (fun _ _ _=>zA Z Z) ?_|(refine at_binR ?_;first|refine yD Z Z (fun _ _ _=>zQ Z Z Z) (fun hh=>?_) (fun hh=>?_))|refine yV Z Z (fun _ _ _=>zD Z Z Z) ?_|refine yV Z Z (fun _ _ _=>zE Z Z) ?_|refine yV Z Z (fun _ _ _=>zH Z Z) ?_)))
    all_goals (try (exfalso;omega))
    · refine ret_1 (v:=.iface 152 (.agg #[])) Z Z ⟨.inr ⟨rfl,?_⟩,hX⟩
      rw [hca1,if_neg (by rintro⟨h1,h2⟩;omega)]
    · refine ret_1 (v:=.iface 152 (.agg #[])) Z Z ⟨.inr ⟨rfl,?_⟩,hX⟩
      rw [hca1,if_neg (by rintro⟨h1,h2⟩;omega)]
    · refine ret_1 (v:=.iface 155 (.agg #[pv,str g.oname,uv,tv,rv,int g.net.states,sv,fv,ev,.slice qa (readF g.units N.text).1.length qc])) Z Z ⟨.inl ⟨_,_,rfl,s38,?_⟩,hX⟩
      rw [hca1,if_pos ⟨by omega,by omega⟩]
theorem meth155 (v:Value) (w:World):(method (Tryz.prog.types.size+Made.depth) 155 v "langdoc/provenance.uses").run Tryz.prog w=.ok (267,v) w:=by kernel_rfl
theorem meth152 (v:Value) (w:World):(method (Tryz.prog.types.size+Made.depth) 152 v "langdoc/provenance.uses").run Tryz.prog w=.ok (266,v) w:=by kernel_rfl
set_option maxHeartbeats 4000000 in
set_option maxRecDepth 8000 in
theorem mute266_any (id:Int) (w:World):Calls Tryz.prog 266 #[.agg #[],int id] w (Rt fun u w'=>u=.bool false∧Ext w w'):=by
  refine calls_E (n:=5) (args:=[.agg #[],int id]) Tryz.func266 rfl Tryz.ntmps266 (by simp) ?_
  refine E_seq ?_
  refine E_region ?_
  refine EL_boxA (cs:=[]) Z Z Z Z (fun bG wG xG hbG rG=>?_)
  (repeat' (first|(refine at_EL ?_;first|refine eN ?_|refine eV Z Z (zB Z Z) ?_)|(refine at_K ?_;first|refine K_then ?_)|(refine at_E ?_;first|refine E_seq ?_|refine E_region ?_|refine E_ret ?_)))
  exact ret_1 Z Z ⟨rfl,xG⟩
set_option maxHeartbeats 4000000 in
set_option maxRecDepth 8000 in
theorem word267_any {g:Lg} (hok:LangOK g) (ws:List Int) (id:Int) (pv uv tv rv sv fv ev wv:Value) (w:World) (hg:LangG Tt w g pv uv tv rv sv fv ev) (hw:Sl w wv ws):Calls Tryz.prog 267 #[.agg #[pv,str g.oname,uv,tv,rv,int g.net.states,sv,fv,ev,wv],int id] w (Rt fun u w'=>u=.bool (usesF g ws id)∧Ext w w'):=by
  refine calls_E (n:=11) (args:=[.agg #[pv,str g.oname,uv,tv,rv,int g.net.states,sv,fv,ev,wv],int id]) Tryz.func267 rfl Tryz.ntmps267 (by simp) ?_
  refine E_seq ?_
  refine E_region ?_
  refine EL_boxA Z Z Z Z (fun bG wG xG hbG rG=>?_)
  have aL:At wG bG (0+0) [pv,str g.oname,uv,tv,rv,int g.net.states,sv,fv,ev]:=At.sub (xs:=[]) (ys:=[pv,str g.oname,uv,tv,rv,int g.net.states,sv,fv,ev]) (zs:=[wv]) rG.at
  have cu:=fun wz (hz:Ext w wz)=>uses39_any hok ws id pv uv tv rv sv fv ev wv wz (hg.ext hz) (hw.ext hz)
  (repeat' (first|refine eV Z Z (val_load Z Z Z (Row.cellAt (by assumption) (by rfl))) ?_|refine eV Z Z (val_loadA Z Z Z (by assumption) (by rfl)) ?_|(refine EL_call Z Z (entersF Z Z en39) (cu _ xG) (fun vC wC hC=>?_);obtain⟨rfl,xC⟩:=hC)|(refine at_EL ?_;first|refine eN ?_|refine eV Z Z (zA Z Z) ?_|refine eV Z Z (zB Z Z) ?_|refine eV Z Z (zH Z Z) ?_)|(refine at_K ?_;first|refine K_then ?_)|(refine at_E ?_;first|refine E_seq ?_|refine E_region ?_|refine E_ret ?_)))
  exact ret_1 Z Z ⟨rfl,xG.trans xC⟩
set_option maxHeartbeats 8000000 in
set_option maxRecDepth 8000 in
theorem attests14_any {ds:List Dc} (hTx:TxLen ds) (g:Lg) (hok:LangOK g) (id:Int) (r:Rf) (dv pv uv tv rv sv fv ev:Value) (w:World) (hv:Sl w dv ds) (hg:LangG Tt w g pv uv tv rv sv fv ev) :
    Calls Tryz.prog 14 #[dv,.agg #[pv,str g.oname,uv,tv,rv,int g.net.states,sv,fv,ev],int id,.agg #[int r.rcd,int r.note] ] w (Rt fun u w'=>u=.bool (attP ds g id r)∧Ext w w'):=by
  obtain⟨Y,hrepY,ce⟩:=get48_any g.lex id ev w hg.lex
  obtain⟨e0,k0,e1,k1,e2,k2,e3,k3,e4,k4,rfl,_⟩:=en_open hrepY
  have c49:=fun wz (hz:Ext w wz)=>call49_any hTx g hok r dv pv uv tv rv sv fv ev wz (hv.ext hz) (hg.ext hz)
  obtain⟨b3,hb3⟩:∃ b,(getE g.lex id).isSome=b:=⟨_,rfl⟩
  have hA:attP ds g id r=(b3&&(match callF ds g r with|none=>false|some ws=>usesF g ws id)):=by unfold attP;rw [hb3]
  rw [hb3] at ce
  rw [hA]
  refine calls_E (n:=26) (args:=[dv,.agg #[pv,str g.oname,uv,tv,rv,int g.net.states,sv,fv,ev],int id,.agg #[int r.rcd,int r.note] ]) Tryz.func14 rfl Tryz.ntmps14 (by simp) ?_
  refine E_seq ?_
  refine E_region ?_
  refine EL_boxA Z Z Z Z (fun bG wG xG hbG rG=>?_)
  refine EL_boxA Z Z Z Z (fun bR wR xR hbR rR=>?_)
  replace rG:=rG.ext xR
  have hX:=xG.trans xR
  cases b3 with
  | false=>
    (repeat' (first|refine eV Z Z (val_load Z Z Z (Row.cellAt (by assumption) (by rfl))) ?_|(refine EL_call Z Z (entersF Z Z en48) (ce _ hX) (fun vC wC hC=>?_);obtain⟨rfl,xC⟩:=hC;replace hX:=hX.trans xC;replace rG:=rG.ext xC;replace rR:=rR.ext xC)|(refine EL_var Z Z Z Z Z Z Z Z Z Z (fun bE wE xE hbE rE=>?_);replace hX:=hX.trans xE;replace rG:=rG.ext xE;replace rR:=rR.ext xE)|(refine at_EL ?_;first|refine eN ?_|refine eV Z Z (zA Z Z) ?_|refine eV Z Z (zB Z Z) ?_|refine eV Z Z (zE Z Z) ?_|refine eV Z Z (zF Z Z Z) ?_|refine eV Z Z (zH Z Z) ?_)|(refine at_K ?_;first|refine K_then ?_|refine K_then_ret ?_)|(refine at_E ?_;first|refine E_seq ?_|refine E_region ?_|refine E_cond_t Z ?_|refine E_ret ?_)))
    all_goals (try (exfalso;omega))
    exact ret_1 Z Z ⟨rfl,hX⟩
  | true=>
    (repeat' ((fail_if_success (refine E_seq (x:=(Code.region 4 _ _)) ?_));first|refine eV Z Z (val_load Z Z Z (Row.cellAt (by assumption) (by rfl))) ?_|(refine EL_call Z Z (entersF Z Z en48) (ce _ hX) (fun vC wC hC=>?_);obtain⟨rfl,xC⟩:=hC;replace hX:=hX.trans xC;replace rG:=rG.ext xC;replace rR:=rR.ext xC)|(refine EL_var Z Z Z Z Z Z Z Z Z Z (fun bE wE xE hbE rE=>?_);replace hX:=hX.trans xE;replace rG:=rG.ext xE;replace rR:=rR.ext xE)|(refine at_EL ?_;first|refine eN ?_|refine eV Z Z (zA Z Z) ?_|refine eV Z Z (zB Z Z) ?_|refine eV Z Z (zE Z Z) ?_|refine eV Z Z (zF Z Z Z) ?_|refine eV Z Z (zH Z Z) ?_)|(refine at_K ?_;first|refine K_then ?_)|(refine at_E ?_;first|refine E_seq ?_|refine E_region ?_|refine E_cond_f Z ?_|refine E_skip ?_)))
    all_goals (try (exfalso;omega))
    refine E_seq ?_
    refine E_region ?_
    (repeat' (first|refine eV Z Z (val_loadA Z Z Z (Row.at (by assumption)) (by rfl)) ?_|(refine EL_call Z Z (entersF Z Z en49) (c49 _ hX) (fun vC wC hC=>?_);obtain⟨hCR,xC⟩:=hC;replace hX:=hX.trans xC;rcases hCR with⟨ws,wv,rfl,hws,hcf⟩|⟨rfl,hcf⟩)|(refine EL_call Z Z (entersI rfl rfl rfl (meth155 _) en267) (word267_any hok ws id pv uv tv rv sv fv ev wv _ (hg.ext hX) hws) (fun vD wD hD=>?_);obtain⟨rfl,xD⟩:=hD;replace hX:=hX.trans xD)|(refine EL_call Z Z (entersI rfl rfl rfl (meth152 _) en266) (mute266_any id _) (fun vD wD hD=>?_);obtain⟨rfl,xD⟩:=hD;replace hX:=hX.trans xD)|(refine at_EL ?_;first|refine eN ?_|refine eV Z Z (zA Z Z) ?_|refine eV Z Z (zB Z Z) ?_)|(refine at_K ?_;first|refine K_then ?_)|(refine at_E ?_;first|refine E_ret ?_)))
    all_goals (rw [hcf];exact ret_1 Z Z ⟨rfl,hX⟩)
end Go.Proofs.YtjicdgejhkgpgaaGreatDoor
