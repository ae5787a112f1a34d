/-
  Walks: the program's rules: Apply, Last. Maps whose keys are of any one kind (numbers, texts): made, looked up, updated.
-/
import Derived.Test.YtjicdgejhkgpgaaGreatDoorYt
import Derived.Test.YtjicdgejhkgpgaaGreatDoorYk
import Derived.Test.YtjicdgejhkgpgaaGreatDoorYi
import Derived.Test.YtjicdgejhkgpgaaGreatDoorYe
import Derived.MapKept
set_option linter.all false
namespace Go.Proofs.YtjicdgejhkgpgaaGreatDoor
open Go.RowKit Go.En Go.Pv
def idxI (l:List Int) (x:Int):Int:=match l.findIdx? (fun y=>y==x) with|some k=>(k:Int)|none => -1
theorem idxI_here {l:List Int} {x y:Int} {i:Nat} (hy:l[i]?=some y) (he:y=x) (hall:∀(j:Nat) (z:Int),j<i→l[j]?=some z→z≠x):idxI l x=(i:Int):=by
  unfold idxI
  obtain⟨hl,he2⟩:=List.getElem?_eq_some_iff.1 hy
  have:l.findIdx? (fun y=>y==x)=some i:=by
    rw [List.findIdx?_eq_some_iff_getElem]
    refine⟨hl,by rw [he2];simpa using he,fun j hj=>?_⟩
    have:=hall j _ hj (List.getElem?_eq_getElem (by omega))
    simpa using this
  rw [this]
theorem idxI_not {l:List Int} {x:Int} (hall:∀(j:Nat) (z:Int),j<l.length→l[j]?=some z→z≠x):idxI l x = -1:=by
  unfold idxI
  have:l.findIdx? (fun y=>y==x)=none:=by
    rw [List.findIdx?_eq_none_iff]
    intro z hz
    obtain⟨j,hj⟩:=List.getElem?_of_mem hz
    have:=hall j z (List.getElem?_eq_some_iff.1 hj).1 hj
    simpa using this
  rw [this]
theorem idxI_mem {l:List Int} {x:Int} (h:x∈l):∃ k:Nat,idxI l x=(k:Int)∧k<l.length∧l.findIdx? (fun y=>y==x)=some k:=by
  unfold idxI
  cases hf:l.findIdx? (fun y=>y==x) with
  | none=>
    rw [List.findIdx?_eq_none_iff] at hf
    have:=hf x h
    simp at this
  | some k=>
    rw [List.findIdx?_eq_some_iff_getElem] at hf
    obtain⟨h1,_⟩:=hf
    exact⟨k,rfl,h1,rfl⟩
attribute [local irreducible] E EL K Val Enters Rt Calls bodyPost Code.wp RQ
set_option maxHeartbeats 4000000 in
set_option maxRecDepth 8000 in
theorem index81_val (l:List Int) (x:Int) (v:Value) (w:World) (hv:Sl w v l):Calls Tryz.prog 81 #[v,int x] w (Rt fun u w'=>u=int (idxI l x)∧Ext w w'):=by
  have hv0:=hv
  obtain⟨a,cap,rfl,hc,hm,hp⟩:=hv.sl
  refine calls_E (n:=19) (args:=[.slice a l.length cap,int x]) Tryz.func81 rfl Tryz.ntmps81 (by simp) ?_
  (repeat' (first|(refine at_EL ?_;first|refine eN ?_|refine eV Z Z (zA Z Z) ?_|refine eV Z Z (zB Z Z) ?_|(refine at_call ?_;first|refine eV Z Z (zK Z Z) ?_))|(refine at_K ?_;first|refine K_then ?_)|(refine at_E ?_;first|refine E_seq ?_|refine E_region ?_|refine E_block ?_)))
  refine E_loop (ι:=Nat) (fun i=>[(0,.slice a l.length cap),(1,int x),(7,int l.length),(8,int i)])
    (fun i wr=>i≤l.length∧Ext w wr∧∀(j:Nat) (y:Int),j<i→l[j]?=some y→y≠x) (fun i=>l.length-i) 0
    ⟨rfl,rfl,rfl,rfl,trivial⟩ ⟨Nat.zero_le _,Ext.refl _,fun j y hj=>absurd hj (by omega)⟩ ?_
  rintro i wr ⟨hi,hx,hno⟩
  by_cases hlt:i<l.length
  · obtain⟨b,off,rfl⟩:=hp (by omega)
    obtain⟨y,hy1⟩:∃ y,l[i]?=some y:=⟨_,List.getElem?_eq_getElem hlt⟩
    have hcy:=(Go.Pv.int_elem (hv0.ext hx) hy1).one
    (repeat' (first|refine eV Z Z (val_load Z Z Z (by assumption)) ?_|refine eV Z Z (val_indexAddr (m:=i) Z Z Z (by first|rfl|omega) (by omega)) ?_|(refine at_EL ?_;first|refine eN ?_|refine eV Z Z (zA Z Z) ?_|refine eV Z Z (zB Z Z) ?_|(refine at_bin ?_;first|refine eD Z Z (zL Z Z Z) (fun hh=>?_) (fun hh=>?_)|refine eD Z Z (zM Z Z Z) (fun hh=>?_) (fun hh=>?_)|refine eV Z Z (zU Z Z Z (by omega) (by omega)) ?_))|(refine at_K ?_;first|refine K_then ?_|refine K_in ?_|refine K_then_ret ?_|refine K_then_exit ?_|refine K_in_ret ?_|refine K_in_exit ?_)|(refine at_E ?_;first|refine E_seq ?_|refine E_region ?_|refine E_cond_t Z ?_|refine E_cond_f Z ?_|refine E_block ?_|refine E_skip ?_|refine E_ret ?_|refine E_exit ?_)))
    all_goals (try (exfalso;omega))
    · rw [idxI_here hy1 (by omega) hno]
      exact ret_1 Z Z ⟨rfl,hx⟩
    · refine K_rnd (i+1) ⟨rfl,rfl,rfl,rfl,trivial⟩ ⟨by omega,hx,fun j z hj hz=>?_⟩ (by omega)
      by_cases e:j=i
      · subst e;rw [hy1] at hz;cases hz;omega
      · exact hno j z (by omega) hz
  · rw [idxI_not (fun j y hj hy=>hno j y (by omega) hy)]
    (repeat' (first|(refine at_EL ?_;first|refine eN ?_|refine eV Z Z (zA Z Z) ?_|refine eV Z Z (zB Z Z) ?_|(refine at_bin ?_;first|refine eD Z Z (zL Z Z Z) (fun hh=>?_) (fun hh=>?_)))|(refine at_K ?_;first|refine K_then ?_|refine K_then_exit ?_|refine K_in_exit ?_)|(refine at_E ?_;first|refine E_seq ?_|refine E_region ?_|refine E_cond_t Z ?_|refine E_cond_f Z ?_|refine E_block ?_|refine E_skip ?_|refine E_ret ?_|refine E_exit ?_)))
    all_goals (try (exfalso;omega))
    exact ret_1 Z Z ⟨rfl,hx⟩
set_option maxHeartbeats 4000000 in
set_option maxRecDepth 8000 in
theorem apply217_any (segs:List Ph) (v:Value) (r:Rul) (fv tv lv rv:Value) (ws:List Int) (wv:Value) (w:World) (hv:Sl w v segs) (hr:RulAt w r fv tv lv rv) (hw:Sl w wv ws) (hok:RulOK r) (hl:ws.length≤1000) (hz:∀ x∈ws,x≠0) :
    Calls Tryz.prog 217 #[.agg #[v],.agg #[fv,tv,lv,rv,.bool r.beg,.bool r.fin],wv] w (Rt fun u w'=>Ext w w'∧Sl w' u (applyF bandI segs r ws)):=by
  have hw0:=hw
  have hr0:=hr
  obtain⟨hrf,hrt,hrl,hrr⟩:=hr
  have hf0:=hrf
  have ht0:=hrt
  obtain⟨fa,fc,rfl,_,_,hfp⟩:=hrf.sl
  obtain⟨ta,tc,rfl,_,_,htp⟩:=hrt.sl
  obtain⟨wa,wc,rfl,_,_,hwp⟩:=hw.sl
  refine calls_E (n:=38) (args:=[.agg #[v],.agg #[.slice fa r.frm.length fc,.slice ta r.to.length tc,lv,rv,.bool r.beg,.bool r.fin],.slice wa ws.length wc]) Tryz.func217 rfl Tryz.ntmps217 (by simp) ?_
  refine E_seq ?_
  refine E_region ?_
  refine EL_boxA Z Z Z Z (fun bV wV xV hbV rV=>?_)
  refine EL_boxA Z Z Z Z (fun bR wR xR hbR rR=>?_)
  replace rV:=rV.ext xR
  have hX:=xV.trans xR
  have hI:At wR bV (0+0) [v]:=At.sub (xs:=[]) (ys:=[v]) (zs:=[]) rV.at
  (repeat' (first|(refine at_EL ?_;first|refine eN ?_|refine eV Z Z (zA Z Z) ?_|refine eV Z Z (zB Z Z) ?_|(refine at_call ?_;first|refine eV Z Z (zK Z Z) ?_))|(refine at_K ?_;first|refine K_then ?_)|(refine at_E ?_;first|refine E_seq ?_|refine E_region ?_|refine E_block ?_)))
  refine E_loop (ι:=Nat × Value) (fun z=>[(2,.slice wa ws.length wc),(3,.pointer (some ⟨bV,0,none⟩)),(4,.pointer (some ⟨bR,0,none⟩)),(7,z.2),(10,.slice wa ws.length wc),(11,int ws.length),(12,int z.1)])
    (fun z wr=>z.1≤ws.length∧Grow Tt wR 3 (upA segs r ws z.1) z.2 wr) (fun z=>ws.length-z.1) (0,.slice none 0 0)
    ⟨rfl,rfl,rfl,rfl,rfl,rfl,rfl,trivial⟩ ⟨Nat.zero_le _,Grow.none⟩ ?_
  rintro⟨i,ov⟩ wr ⟨hi,hgr⟩
  dsimp only at hi hgr ⊢
  have hx:=hgr.x
  have hXr:=hX.trans hx
  have hol:=upA_len segs r ws i
  by_cases hlt:i<ws.length
  · obtain⟨wb,wo,rfl⟩:=hwp (by omega)
    obtain⟨x,hx1⟩:∃ x,ws[i]?=some x:=⟨_,List.getElem?_eq_getElem hlt⟩
    have hx0:=hz x (List.mem_of_getElem? hx1)
    have hone:=oneF_at (segs:=segs) (r:=r) hx1
    have hsucc:=upA_succ segs r ws i
    have rRr:=rR.ext hx
    have rVr:=rV.ext hx
    have hcx:=(Go.Pv.int_elem (hw0.ext hXr) hx1).one
    have cs:=site234_any segs v r _ _ lv rv ws _ i wr hlt (hv.ext hXr) ⟨hf0.ext hXr,ht0.ext hXr,hrl.ext hXr,hrr.ext hXr⟩ (hw0.ext hXr) hok hl
    cases hb:siteB bandI segs r ws i with
    | false=>
      rw [hb] at cs hone
      simp only [Bool.false_eq_true,if_false] at hone
      rw [if_neg hx0] at hone
      rw [hone] at hsucc
      (repeat' (first|refine eV Z Z (val_loadA Z Z Z (Row.at (by assumption)) (by rfl)) ?_|refine eV Z Z (val_load Z Z Z (by assumption)) ?_|refine eV Z Z (val_indexAddr (m:=i) Z Z Z (by first|rfl|omega) (by omega)) ?_|(refine EL_call Z Z (entersF Z Z en234) (cs) (fun vC wC hC=>?_);obtain⟨rfl,xC⟩:=hC;replace hgr:=hgr.ext xC)|(refine EL_push (x:=x) (hgr.ext xS) rS rfl rfl rfl rfl rfl rfl rfl rfl (by omega) (by omega) (fun vK wK hK=>?_))|(refine at_EL ?_;first|refine eN ?_|refine eV Z Z (zA Z Z) ?_|refine eV Z Z (zB Z Z) ?_|(refine at_bin ?_;first|refine eD Z Z (zL Z Z Z) (fun hh=>?_) (fun hh=>?_)|refine eV Z Z (zU Z Z Z (by omega) (by omega)) ?_)|refine eL Z Z Z Z Z Z Z Z (fun bS wS xS hbS rS=>?_))|(refine at_K ?_;first|refine K_then ?_|refine K_in ?_|refine K_then_exit ?_|refine K_in_exit ?_)|(refine at_E ?_;first|refine E_seq ?_|refine E_region ?_|refine E_cond_t Z ?_|refine E_cond_f Z ?_|refine E_block ?_|refine E_skip ?_|refine E_ret ?_|refine E_exit ?_)))
      all_goals (try (exfalso;omega))
      exact K_rnd (i+1,vK) ⟨rfl,rfl,rfl,rfl,rfl,rfl,rfl,trivial⟩ ⟨by dsimp only;omega,by dsimp only;rw [hsucc];exact hK⟩ (by dsimp only;omega)
    | true=>
      rw [hb] at cs hone
      simp only [if_true] at hone
      have hmx:=site_mem hx1 hb
      obtain⟨k,hk,hkl,hkf⟩:=idxI_mem hmx
      have hlen:=hok.len
      obtain⟨y,hy⟩:∃ y,r.to[k]?=some y:=⟨_,List.getElem?_eq_getElem (by omega)⟩
      have hny:newF r x=y:=by unfold newF;rw [hkf];dsimp only;rw [List.getD_eq_getElem?_getD,hy];rfl
      rw [hny] at hone
      obtain⟨tb,tof,rfl⟩:=htp (by omega)
      have hcy:=(Go.Pv.int_elem (ht0.ext hXr) hy).one
      have hfr:=hf0.ext hXr
      have ci:=fun wz hz=>index81_val r.frm x (.slice fa r.frm.length fc) wz hz
      rw [hk] at ci
      (repeat' (first|(refine yN Z (fun wq xq=>?_);replace hgr:=hgr.ext xq)|refine eV Z Z (val_loadA Z Z Z (Row.at (by assumption)) (by rfl)) ?_|refine eV Z Z (val_load Z Z Z (by assumption)) ?_|refine yV Z Z (fun wq _ xq=>val_load Z Z Z ((Row.ext (by assumption) xq).cellAt (by rfl))) ?_|refine yV Z Z (fun wq _ xq=>val_load Z Z Z (Ext.cell xq (by assumption))) ?_|refine eV Z Z (val_indexAddr (m:=i) Z Z Z (by first|rfl|omega) (by omega)) ?_|refine yV Z Z (fun _ _ _=>val_indexAddr (m:=k) Z Z Z Z (by omega)) ?_|(refine EL_call Z Z (entersF Z Z en234) (cs) (fun vC wC hC=>?_);obtain⟨rfl,xC⟩:=hC;replace hgr:=hgr.ext xC;replace rRr:=rRr.ext xC;replace hcy:=Ext.cell xC hcy;replace hfr:=hfr.ext xC)|refine RQ_call Z Z (fun _ _ _=>entersF Z Z en81) (fun wq xz=>ci wq (hfr.ext xz)) ?_|(refine EL_push (x:=y) (hgr.ext xS) rS rfl rfl rfl rfl rfl rfl rfl rfl (by omega) (by omega) (fun vK wK hK=>?_))|(refine at_EL ?_;first|refine eN ?_|refine eV Z Z (zA Z Z) ?_|refine eV Z Z (zB Z Z) ?_|(refine at_bin ?_;first|refine eD Z Z (zL Z Z Z) (fun hh=>?_) (fun hh=>?_)|refine eD Z Z (zM Z Z Z) (fun hh=>?_) (fun hh=>?_)|refine eV Z Z (zU Z Z Z (by omega) (by omega)) ?_)|refine eL Z Z Z Z Z Z Z Z (fun bS wS xS hbS rS=>?_))|(refine at_K ?_;first|refine K_then ?_|refine K_in ?_|refine K_then_exit ?_|refine K_in_exit ?_)|(refine at_E ?_;first|refine E_seq ?_|refine E_region ?_|refine E_cond_t Z ?_|refine E_cond_f Z ?_|refine E_block ?_|refine E_skip ?_|refine E_ret ?_|refine E_exit ?_|refine E_dq mixedOk (by kernel_rfl) Z ?_)|(refine at_RQ ?_;first|refine yV Z Z (fun _ _ _=>zA Z Z) ?_|refine yV Z Z (fun _ _ _=>zB Z Z) ?_|refine yV Z Z (fun _ _ _=>zH Z Z) ?_)))
      all_goals (try (exfalso;omega))
      · rw [if_pos (by omega)] at hone
        rw [hone] at hsucc
        exact K_rnd (i+1,ov) ⟨rfl,rfl,rfl,rfl,rfl,rfl,rfl,trivial⟩ ⟨by dsimp only;omega,by dsimp only;rw [hsucc,List.append_nil];exact hgr⟩ (by dsimp only;omega)
      · rw [if_neg (by omega)] at hone
        rw [hone] at hsucc
        exact K_rnd (i+1,vK) ⟨rfl,rfl,rfl,rfl,rfl,rfl,rfl,trivial⟩ ⟨by dsimp only;omega,by dsimp only;rw [hsucc];exact hK⟩ (by dsimp only;omega)
  · obtain rfl:i=ws.length:=by omega
    (repeat' (first|(refine at_EL ?_;first|refine eN ?_|refine eV Z Z (zA Z Z) ?_|refine eV Z Z (zB Z Z) ?_|(refine at_bin ?_;first|refine eD Z Z (zL Z Z Z) (fun hh=>?_) (fun hh=>?_)))|(refine at_K ?_;first|refine K_then ?_|refine K_then_exit ?_|refine K_in_exit ?_)|(refine at_E ?_;first|refine E_seq ?_|refine E_region ?_|refine E_cond_t Z ?_|refine E_cond_f Z ?_|refine E_block ?_|refine E_skip ?_|refine E_ret ?_|refine E_exit ?_)))
    all_goals (try (exfalso;omega))
    exact ret_1 Z Z ⟨hXr,hgr.sl (fun _ _=>trivial) (by omega)⟩
theorem lastF_take {segs:List Ph} {rules:List Rul} {ws:List Int} {i:Nat} {r:Rul} (h:rules[i]?=some r):lastF bandI segs (rules.take (i+1)) ws=applyF bandI segs r (lastF bandI segs (rules.take i) ws):=by
  obtain⟨h1,h2⟩:=List.getElem?_eq_some_iff.1 h
  unfold lastF
  rw [List.take_succ_eq_append_getElem h1,h2,List.foldl_append];rfl
theorem applyF_len (segs:List Ph) (r:Rul) (ws:List Int):(applyF bandI segs r ws).length≤ws.length:=upA_len segs r ws ws.length
theorem lastF_len (segs:List Ph):∀(rules:List Rul) (ws:List Int),(lastF bandI segs rules ws).length≤ws.length
  | [],ws=>Nat.le_refl _
  | r::l,ws=>Nat.le_trans (lastF_len segs l (applyF bandI segs r ws)) (applyF_len segs r ws)
theorem lastF_pos {segs:List Ph}:∀ {rules:List Rul} {ws:List Int},(∀ x∈ws,x≠0)→∀ x∈lastF bandI segs rules ws,x≠0
  | [],_,h=>h
  | _::l,_,_=>lastF_pos (rules:=l) apply_pos
set_option maxHeartbeats 4000000 in
set_option maxRecDepth 8000 in
theorem last183_any (segs:List Ph) (v:Value) (rules:List Rul) (rv:Value) (ws:List Int) (wv:Value) (w:World) (hv:Sl w v segs) (hr:Sl w rv rules) (hw:Sl w wv ws) (hok:∀ r∈rules,RulOK r) (hl:ws.length≤1000) (hz:∀ x∈ws,x≠0) :
    Calls Tryz.prog 183 #[.agg #[v],rv,wv] w (Rt fun u w'=>Ext w w'∧Sl w' u (lastF bandI segs rules ws)):=by
  have hr0:=hr
  obtain⟨ra,rc,rfl,_,_,hp⟩:=hr.sl
  refine calls_E (n:=21) (args:=[.agg #[v],.slice ra rules.length rc,wv]) Tryz.func183 rfl Tryz.ntmps183 (by simp) ?_
  refine E_seq ?_
  refine E_region ?_
  refine EL_boxA Z Z Z Z (fun bV wV xV hbV rV=>?_)
  have hX:=(Ext.refl w).trans xV
  have hI:At wV bV (0+0) [v]:=At.sub (xs:=[]) (ys:=[v]) (zs:=[]) rV.at
  replace hv:=hv.ext xV;replace hr0:=hr0.ext xV;replace hw:=hw.ext xV
  (repeat' (first|(refine at_EL ?_;first|refine eN ?_|refine eV Z Z (zA Z Z) ?_|refine eV Z Z (zB Z Z) ?_|(refine at_call ?_;first|refine eV Z Z (zK Z Z) ?_))|(refine at_K ?_;first|refine K_then ?_)|(refine at_E ?_;first|refine E_seq ?_|refine E_region ?_|refine E_block ?_)))
  refine E_loop (ι:=Nat × Value) (fun z=>[(2,z.2),(3,.pointer (some ⟨bV,0,none⟩)),(9,.slice ra rules.length rc),(10,int rules.length),(11,int z.1)])
    (fun z wr=>z.1≤rules.length∧Ext wV wr∧Sl wr z.2 (lastF bandI segs (rules.take z.1) ws)) (fun z=>rules.length-z.1) (0,wv)
    ⟨rfl,rfl,rfl,rfl,rfl,trivial⟩ ⟨Nat.zero_le _,Ext.refl _,hw⟩ ?_
  rintro⟨i,ov⟩ wr ⟨hi,hx,ho⟩
  dsimp only at hi hx ho ⊢
  replace hX:=hX.trans hx;replace hv:=hv.ext hx;replace hr0:=hr0.ext hx;replace rV:=rV.ext hx
  by_cases hlt:i<rules.length
  · obtain⟨b,off,rfl⟩:=hp (by omega)
    obtain⟨r,hri⟩:∃ r,rules[i]?=some r:=⟨_,List.getElem?_eq_getElem hlt⟩
    obtain⟨f0,k0,f1,k1,f2,k2,f3,k3,hat,_,q0,q1,q2,q3⟩:=rul_elem hr0 hri
    have hll:=lastF_len segs (rules.take i) ws
    have hlp:=lastF_pos (segs:=segs) (rules:=rules.take i) hz
    have ca:=fun wz h1 h2 h3=>apply217_any segs v r (.slice f0 r.frm.length k0) (.slice f1 r.to.length k1) (.slice f2 r.left.length k2) (.slice f3 r.right.length k3) (lastF bandI segs (rules.take i) ws) ov wz h1 h2 h3 (hok r (List.mem_of_getElem? hri)) (by omega) hlp
    (repeat' (first|(refine EL_var Z Z Z Z Z Z Z Z Z Z (fun bN wN xN hbN rN=>?_);replace hx:=hx.trans xN;replace hX:=hX.trans xN;replace hv:=hv.ext xN;replace rV:=rV.ext xN;replace ho:=ho.ext xN;replace q0:=q0.ext xN;replace q1:=q1.ext xN;replace q2:=q2.ext xN;replace q3:=q3.ext xN)|refine eV Z Z (val_loadA Z Z Z (Row.at (by assumption)) (by rfl)) ?_|refine eV Z Z (val_loadA Z Z Z (by assumption) (by rfl)) ?_|refine eV Z Z (val_indexAddr (m:=i) Z Z Z (by first|rfl|omega) (by omega)) ?_|(refine EL_call Z Z (entersF Z Z en217) (ca _ hv ⟨q0,q1,q2,q3⟩ ho) (fun vC wC hC=>?_);obtain⟨xC,sC⟩:=hC;replace hx:=hx.trans xC)|(refine at_EL ?_;first|refine eN ?_|refine eV Z Z (zA Z Z) ?_|refine eV Z Z (zB Z Z) ?_|(refine at_bin ?_;first|refine eD Z Z (zL Z Z Z) (fun hh=>?_) (fun hh=>?_)|refine eV Z Z (zU Z Z Z (by omega) (by omega)) ?_))|(refine at_K ?_;first|refine K_then ?_|refine K_in ?_|refine K_then_exit ?_|refine K_in_exit ?_)|(refine at_E ?_;first|refine E_seq ?_|refine E_region ?_|refine E_cond_t Z ?_|refine E_cond_f Z ?_|refine E_block ?_|refine E_skip ?_|refine E_ret ?_|refine E_exit ?_)))
    all_goals (try (exfalso;omega))
    exact K_rnd (i+1,vC) ⟨rfl,rfl,rfl,rfl,rfl,trivial⟩ ⟨by dsimp only;omega,hx,by dsimp only;rw [lastF_take hri];exact sC⟩ (by dsimp only;omega)
  · obtain rfl:i=rules.length:=by omega
    rw [List.take_length] at ho
    (repeat' (first|(refine at_EL ?_;first|refine eN ?_|refine eV Z Z (zA Z Z) ?_|refine eV Z Z (zB Z Z) ?_|(refine at_bin ?_;first|refine eD Z Z (zL Z Z Z) (fun hh=>?_) (fun hh=>?_)))|(refine at_K ?_;first|refine K_then ?_|refine K_then_exit ?_|refine K_in_exit ?_)|(refine at_E ?_;first|refine E_seq ?_|refine E_region ?_|refine E_cond_t Z ?_|refine E_cond_f Z ?_|refine E_block ?_|refine E_skip ?_|refine E_ret ?_|refine E_exit ?_)))
    all_goals (try (exfalso;omega))
    exact ret_1 Z Z ⟨hX,ho⟩
end Go.Proofs.YtjicdgejhkgpgaaGreatDoor
namespace Go.En
open Go.RowKit Go.MapKept
class MKey (κ:Type) where
  d:TypeDesc
  enc:κ→Value
  key:∀ k,IsKey d (enc k)
  inj:∀ a b,enc a=enc b→a=b
instance:MKey (List UInt8) where
  d:=.string
  enc:=str
  key _:=trivial
  inj a b h:=by
    have h1:(⟨a.toArray⟩:ByteArray)=⟨b.toArray⟩:=Value.string.inj h
    have h2:a.toArray=b.toArray:=congrArg ByteArray.data h1
    simpa using congrArg Array.toList h2
def MapK {κ:Type} [MKey κ] (w:World) (r:Nat) (f:κ→Option Value):Prop:=
  ∃ es clock,w.heap[r]?=some (.map es clock)∧Stamped es clock∧(∀ x∈es.toList,IsKey (MKey.d κ) x.key)∧∀ k v,f k=some v↔∃ e∈es.toList,e.key=MKey.enc k∧e.val=v
theorem MapK.lt {κ:Type} [MKey κ] {w:World} {r:Nat} {f:κ→Option Value} (h:MapK w r f):r<w.heap.size:=by
  obtain⟨_,_,h,_⟩:=h;exact(Array.getElem?_eq_some_iff.1 h).1
theorem MapK.same {κ:Type} [MKey κ] {w w':World} {r:Nat} {f:κ→Option Value} (h:MapK w r f) (e:w'.heap[r]?=w.heap[r]?):MapK w' r f:=by
  obtain⟨es,c,h1,h2⟩:=h;exact⟨es,c,e.trans h1,h2⟩
theorem MapK.ext {κ:Type} [MKey κ] {w w':World} {r:Nat} {f:κ→Option Value} (h:MapK w r f) (x:Ext w w'):MapK w' r f:=h.same (x.block h.lt)
theorem MapK.kb {κ:Type} [MKey κ] {g:Option Nat} {w w':World} {r:Nat} {f:κ→Option Value} (h:MapK w r f) (k:Kb g w w') (hne:some r≠g):MapK w' r f:=h.same (World.grownBy.block k r h.lt hne)
theorem find_mapK {κ:Type} [MKey κ] {es:Array MapEntry} {clock:Nat} {f:κ→Option Value} (hs:Stamped es clock) (hk:∀ x∈es.toList,IsKey (MKey.d κ) x.key) (hf:∀ k v,f k=some v↔∃ e∈es.toList,e.key=MKey.enc k∧e.val=v) (k:κ) :
    (f k=none∧Instr.findNow (MKey.d κ) (MKey.enc k) es.toList 0=some none∧∀ x∈es.toList,x.key≠MKey.enc k)∨∃ j e,f k=some e.val∧Instr.findNow (MKey.d κ) (MKey.enc k) es.toList 0=some (some (j,e.val))∧es.toList[j]?=some e∧e.key=MKey.enc k:=by
  have hik:IsKey (MKey.d κ) (MKey.enc k):=MKey.key k
  rcases findNow_spec hik es.toList 0 hk with⟨h1,h2⟩|⟨j,e,h1,h2,h3⟩
  · refine .inl ⟨?_,h1,h2⟩
    cases hfk:f k with
    | none=>rfl
    | some v=>
      obtain⟨e,he,hek,_⟩:=(hf k v).1 hfk
      exact absurd hek (h2 e he)
  · rw [Nat.zero_add] at h1
    exact .inr ⟨j,e,(hf k e.val).2 ⟨e,List.mem_of_getElem? h2,h3,rfl⟩,h1,h2,h3⟩
section
variable {P : Program} {n : Nat} {Q : Post} {L : List (Nat × Value)} {w : World} {ops : List Oper} {o : Oper} {rest : List Oper}
theorem val_lookupOk {κ:Type} [MKey κ] {t kt et:TypeId} {x i:Operand} {r:Nat} {z:Value} {size bytes:Nat} {f:κ→Option Value} {k:κ} [um:UT P t (.map kt et)] [uk:UT P kt (MKey.d κ)] [ti:TI P et z size bytes] (hm:MapK w r f) (ho:o.op=.lookup t x i true) (hx:ev L x=some (.map (some r))) (hi:ev L i=some (MKey.enc k)) :
    Val P L w o (.tuple #[(f k).getD z,.bool (f k).isSome]):=fun ρ ha=>by
  have h1:=ha.ev (by rw [ho];simp [Op.operands]) hx
  have h2:=ha.ev (by rw [ho];simp [Op.operands]) hi
  obtain⟨es,clock,hb,hs,hks,hf⟩:=hm
  have hik:IsKey (MKey.d κ) (MKey.enc k):=MKey.key k
  obtain⟨i0,hi0,hz0,_,_⟩:=run_ti (P:=P) (t:=et) w
  have h5:(zeroValue et).run P w=.ok z w:=by simp [zeroValue,hi0,hz0]
  have h6:=run_checkKey (P:=P) (w:=w) uk.u hik (es.isEmpty) 9999
  rcases find_mapK hs hks hf k with⟨e1,e2,_⟩|⟨j,e,e1,e2,e3,e4⟩
  · have h7:=run_findKey (P:=P) (w:=w) uk.u e2
    rw [e1]
    simp only [execOp,ho,Instr.lookup,h1,h2]
    simp [run_underlying um.u,Go.MapKept.run_getObj_map hb,h6,h7,h5,Result.andThen]
  · have h7:=run_findKey (P:=P) (w:=w) uk.u e2
    rw [e1]
    simp only [execOp,ho,Instr.lookup,h1,h2]
    simp [run_underlying um.u,Go.MapKept.run_getObj_map hb,h6,h7,Result.andThen]
theorem EL_mapUpdateK {κ : Type} [MKey κ] [DecidableEq κ] {t kt et : TypeId} {x i y : Operand} {r : Nat} {v : Value} {f : κ → Option Value} {k : κ} [um : UT P t (.map kt et)] [uk : UT P kt (MKey.d κ)] (hm : MapK w r f) (hg : gst ops L o = some true) (hd : o.dst = none) (ho : o.op = .mapUpdate t x i y)
    (hx:ev L x=some (.map (some r))) (hi:ev L i=some (MKey.enc k)) (hy:ev L y=some v)
    (kk:∀ w',MapK w' r (fun j=>if j=k then some v else f j)→Kb (some r) w w'→EL P n ops Q rest L w'):EL P n ops Q (o::rest) L w:=by
  obtain⟨es,clock,hb,hs,hks,hf⟩:=hm
  have hik:IsKey (MKey.d κ) (MKey.enc k):=MKey.key k
  have h6:=run_checkKey (P:=P) (w:=w) uk.u hik false 9999
  have hkb:∀ o':Obj,Kb (some r) w { w with heap:=w.heap.setIfInBounds r o' }:=fun o'=>⟨rfl,rfl,rfl,by simp,fun b hlt hne=>(heap_set hb).2 b (fun e=>hne (by rw [e]))⟩
  rcases find_mapK hs hks hf k with⟨e1,e2,e3⟩|⟨j,e,e1,e2,e3,e4⟩
  · have h7:=run_findKey (P:=P) (w:=w) uk.u e2
    refine EL_unit (w':={ w with heap:=w.heap.setIfInBounds r (.map (es.push { key:=MKey.enc k,val:=v,born:=clock }) (clock+1)) }) hg hd (fun ρ ha=>?_) (kk _ ⟨_,_,(heap_set hb).1,stamped_push hs e3,fun x hx=>?_,fun k' v'=>?_⟩ (hkb _))
    · have h1:=ha.ev (by rw [ho];simp [Op.operands]) hx
      have h2:=ha.ev (by rw [ho];simp [Op.operands]) hi
      have h3:=ha.ev (by rw [ho];simp [Op.operands]) hy
      simp only [execOp,ho,h1,h2,h3]
      simp [Instr.mapUpdate,run_underlying um.u,Go.MapKept.run_getObj_map hb,h6,h7,Go.MapKept.run_setObj_map _ hb,Result.andThen]
    · simp only [Array.toList_push,List.mem_append,List.mem_singleton] at hx
      rcases hx with hx|rfl
      · exact hks x hx
      · exact hik
    · simp only [Array.toList_push,List.mem_append,List.mem_singleton]
      by_cases hk:k'=k
      · subst hk
        rw [if_pos rfl]
        constructor
        · intro h;cases h;exact⟨_,.inr rfl,rfl,rfl⟩
        · rintro⟨x,hx|rfl,h1,h2⟩
          · exact absurd h1 (e3 x hx)
          · rw [← h2]
      · rw [if_neg hk,hf]
        constructor
        · rintro⟨x,hx,h1,h2⟩;exact⟨x,.inl hx,h1,h2⟩
        · rintro⟨x,hx|rfl,h1,h2⟩
          · exact⟨x,hx,h1,h2⟩
          · exact absurd (MKey.inj _ _ h1).symm hk
  · have h7 := run_findKey (P := P) (w := w) uk.u e2
    have hj:es[j]?=some e:=by simpa using e3
    have hst:=run_keyThatStays (P:=P) (w:=w) hik
    have hkey:∀ e',es[j]?=some e'→({ e' with key:=MKey.enc k,val:=v }:MapEntry).key=e'.key:=fun e' he'=>by rw [hj] at he';cases he';exact e4.symm
    refine EL_unit (w':={ w with heap:=w.heap.setIfInBounds r (.map (es.modify j fun e=>{ e with key:=MKey.enc k,val:=v }) clock) }) hg hd (fun ρ ha=>?_)
      (kk _ ⟨_,_,(heap_set hb).1,stamped_modify hs _ _ (fun _ _=>rfl) (fun e' _ he'=>hkey e' he'),isKey_modify hks _ _ hkey,fun k' v'=>?_⟩ (hkb _))
    · have h1:=ha.ev (by rw [ho];simp [Op.operands]) hx
      have h2:=ha.ev (by rw [ho];simp [Op.operands]) hi
      have h3:=ha.ev (by rw [ho];simp [Op.operands]) hy
      simp only [execOp,ho,h1,h2,h3]
      simp [Instr.mapUpdate,run_underlying um.u,Go.MapKept.run_getObj_map hb,h6,h7,hj,e4,hst,Go.MapKept.run_setObj_map _ hb,Result.andThen]
    · have hmem:∀ x:MapEntry,x∈(es.modify j fun e=>{ e with key:=MKey.enc k,val:=v }).toList↔(x∈es.toList∧x.key≠MKey.enc k)∨x={ e with key:=MKey.enc k,val:=v }:=by
        intro x
        constructor
        · intro hx
          obtain⟨i,hi⟩:=List.getElem?_of_mem hx
          rw [Array.getElem?_toList,Array.getElem?_modify] at hi
          by_cases hji:j=i
          · subst hji
            rw [if_pos rfl,hj] at hi
            exact .inr (by simpa using hi.symm)
          · rw [if_neg hji] at hi
            have hxm:x∈es.toList:=List.mem_of_getElem? (by rw [Array.getElem?_toList];exact hi)
            refine .inl ⟨hxm,fun hxk=>hji ?_⟩
            have h1:=(List.getElem?_eq_some_iff.1 e3).1
            have hi2:es.toList[i]?=some x:=by rw [Array.getElem?_toList];exact hi
            have h2:=(List.getElem?_eq_some_iff.1 hi2).1
            have hn:=hs.2.2
            have ha:(es.toList.map (·.key))[j]?=some (MKey.enc k):=by rw [List.getElem?_map,e3];simp [e4]
            have hb':(es.toList.map (·.key))[i]?=some (MKey.enc k):=by rw [List.getElem?_map,hi2];simp [hxk]
            exact(List.getElem?_inj (by simpa using h1) hn).1 (ha.trans hb'.symm)
        · rintro(⟨hx,hxk⟩|rfl)
          · obtain⟨i,hi⟩:=List.getElem?_of_mem hx
            refine List.mem_of_getElem? (i:=i) ?_
            rw [Array.getElem?_toList,Array.getElem?_modify]
            by_cases hji:j=i
            · subst hji
              rw [e3] at hi;cases hi
              exact absurd e4 hxk
            · rw [if_neg hji,← Array.getElem?_toList];exact hi
          · refine List.mem_of_getElem? (i:=j) ?_
            rw [Array.getElem?_toList,Array.getElem?_modify,if_pos rfl,hj];rfl
      dsimp only
      by_cases hk:k'=k
      · subst hk
        rw [if_pos rfl]
        constructor
        · intro h;cases h;exact⟨_,(hmem _).2 (.inr rfl),rfl,rfl⟩
        · rintro⟨x,hx,h1,h2⟩
          rcases (hmem x).1 hx with⟨_,hxk⟩|rfl
          · exact absurd h1 hxk
          · rw [← h2]
      · rw [if_neg hk,hf]
        constructor
        · rintro⟨x,hx,h1,h2⟩
          exact⟨x,(hmem x).2 (.inl ⟨hx,fun h=>hk (by rw [h1] at h;exact MKey.inj _ _ h)⟩),h1,h2⟩
        · rintro⟨x,hx,h1,h2⟩
          rcases (hmem x).1 hx with⟨hx,_⟩|rfl
          · exact⟨x,hx,h1,h2⟩
          · exact absurd (MKey.inj _ _ h1).symm hk
end
end Go.En
