/-
  Own text of the proof.
-/
import Derived.Test.YtjicdgejhkgpgaaGreatDoorYg
import Derived.Test.YtjicdgejhkgpgaaGreatDoorYi
import Derived.Test.YtjicdgejhkgpgaaGreatDoorYh
import Derived.Test.YtjicdgejhkgpgaaGreatDoorYl
import Derived.Test.YtjicdgejhkgpgaaGreatDoorYm
set_option linter.all false
set_option maxHeartbeats 4000000
set_option maxRecDepth 8000
namespace Go.Proofs.YtjicdgejhkgpgaaGreatDoor
section
open Go.RowKit Go.En Go.Pv
def siteC (r:Rul) (n i:Nat):Prop:=r.left.length≤i∧i+1+r.right.length≤n∧(r.beg=true→i=r.left.length)∧(r.fin=true→i+1+r.right.length=n)
theorem Il {segs:List Ph} {r:Rul} {ws:List Int} {i:Nat} {x:Int} (hx:ws[i]?=some x) (h:x∉r.frm):Dx As segs r ws i=false:=by
  unfold Dx;rw [hx];simp [h]
theorem site_no {segs:List Ph} {r:Rul} {ws:List Int} {i:Nat} {x:Int} (hx:ws[i]?=some x) (h:¬ siteC r ws.length i):Dx As segs r ws i=false:=by
  unfold Dx;rw [hx];dsimp only
  cases hb:(r.frm.contains x&&decide (r.left.length≤i)&&decide (i+1+r.right.length≤ws.length)&&(!r.beg||i==r.left.length)&&(!r.fin||i+1+r.right.length==ws.length)) with
  | false=>rfl
  | true=>
    exfalso
    simp only [Bool.and_eq_true,decide_eq_true_eq,Bool.or_eq_true,Bool.not_eq_true',beq_iff_eq] at hb
    refine h ⟨hb.1.1.1.2,hb.1.1.2,fun e=>?_,fun e=>?_⟩
    · rcases hb.1.2 with h1|h1
      · rw [h1] at e;cases e
      · exact h1
    · rcases hb.2 with h1|h1
      · rw [h1] at e;cases e
      · exact h1
theorem site_yes {segs:List Ph} {r:Rul} {ws:List Int} {i:Nat} {x:Int} (hx:ws[i]?=some x) (hm:x∈r.frm) (h:siteC r ws.length i) :
    Dx As segs r ws i=(J7 As segs r.left ((ws.drop (i-r.left.length)).take r.left.length)&&J7 As segs r.right ((ws.drop (i+1)).take r.right.length)):=by
  unfold Dx;rw [hx];dsimp only
  obtain⟨h1,h2,h3,h4⟩:=h
  have e3:(!r.beg||i==r.left.length)=true:=by
    cases hb:r.beg with
    | false=>rfl
    | true=>simp [h3 hb]
  have e4:(!r.fin||i+1+r.right.length==ws.length)=true:=by
    cases hb:r.fin with
    | false=>rfl
    | true=>simp [h4 hb]
  rw [e3,e4,decide_eq_true h1,decide_eq_true h2]
  simp [hm]
theorem Pp {segs:List Ph} {cs:List Cls} {xs:List Int} (h:∀(j:Nat) (c:Cls) (y:Int),cs[j]?=some c→xs[j]?=some y→inC As segs y c=true):J7 As segs cs xs=true:=by
  unfold J7
  rw [List.all_eq_true]
  intro p hp
  obtain⟨j,hj⟩:=List.getElem?_of_mem hp
  rw [List.getElem?_zip_eq_some] at hj
  exact h j p.1 p.2 hj.1 hj.2
theorem fits_no {segs:List Ph} {cs:List Cls} {xs:List Int} {j:Nat} {c:Cls} {y:Int} (hc:cs[j]?=some c) (hy:xs[j]?=some y) (h:inC As segs y c=false):J7 As segs cs xs=false:=by
  unfold J7
  rw [List.all_eq_false]
  exact⟨(c,y),List.mem_of_getElem? (List.getElem?_zip_eq_some.2 ⟨hc,hy⟩),by simp [h]⟩
structure RulG (G:Nat→Prop) (w:World) (r:Rul) (fv tv lv rv:Value):Prop where
  frm:SlG G w fv r.frm
  to:SlG G w tv r.to
  left:SlG G w lv r.left
  right:SlG G w rv r.right
theorem RulG.ext {G:Nat→Prop} {w w':World} {r:Rul} {fv tv lv rv:Value} (h:RulG G w r fv tv lv rv) (x:Ext w w'):RulG G w' r fv tv lv rv:=⟨h.frm.ext x,h.to.ext x,h.left.ext x,h.right.ext x⟩
abbrev RulAt:=RulG Tt
structure RulOK (r:Rul):Prop where
  len:r.to.length=r.frm.length
  few:r.frm.length≤8
  nod:r.frm.Nodup
  left:r.left.length≤2
  right:r.right.length≤2
attribute [local irreducible] E EL K Val Enters Rt Calls bodyPost Code.wp RQ
theorem site247_any (segs:List Ph) (v:Value) (r:Rul) (fv tv lv rv:Value) (ws:List Int) (wv:Value) (i:Nat) (w:World) (hi:i<ws.length) (hv:Sl w v segs) (hr:RulAt w r fv tv lv rv) (hw:Sl w wv ws) (hok:RulOK r) (hl:ws.length≤1000) :
    Calls Tryz.prog 247 #[.agg #[v],.agg #[fv,tv,lv,rv,.bool r.beg,.bool r.fin],wv,int i] w (Rt fun u w'=>u=.bool (Dx As segs r ws i)∧Ext w w'):=by
  have hv0:=hv;have hr0:=hr;have hw0:=hw
  obtain⟨frm,to,left,right,beg,fin⟩:=r
  obtain⟨hrf,hrt,hrl,hrr⟩:=hr
  have hol:=hok.left;have hor:=hok.right
  dsimp only at hrf hrt hrl hrr hol hor ⊢
  obtain⟨va,vc,rfl,_,_,hvp⟩:=hv.sl
  obtain⟨wa,wc,rfl,_,_,hwp⟩:=hw.sl
  obtain⟨la,lc,rfl,_,_,hlp⟩:=hrl.sl
  obtain⟨ra,rc,rfl,_,_,hrp⟩:=hrr.sl
  obtain⟨wb,wo,rfl⟩:=hwp (by omega)
  obtain⟨x,hx⟩:∃ x,ws[i]?=some x:=⟨_,List.getElem?_eq_getElem hi⟩
  refine A7 (n:=103) (args:=[.agg #[.slice va segs.length vc],.agg #[fv,tv,.slice la left.length lc,.slice ra right.length rc,.bool beg,.bool fin],.slice (some ⟨wb,wo,none⟩) ws.length wc,int i]) Tryz.func247 rfl Tryz.ntmps247 (by simp) ?_
  refine Ac ?_
  refine A8 ?_
  refine Aj Z Z Z Z (fun bX wX xX hbX rX0=>?_)
  have rX1:Row wX bX 25 [.slice va segs.length vc]:=rX0
  refine Aj Z Z Z Z (fun bC wC xC hbC rC0=>?_)
  have rC:Row wC bC 112 [fv,tv,.slice la left.length lc,.slice ra right.length rc,.bool beg,.bool fin]:=rC0
  have rX:=rX1.ext xC
  clear rX0 rX1 rC0
  have hX:=xX.trans xC
  clear xX xC
  have hatx:=(int_elem (hw0.ext hX) hx)
  have ch:=fun wq (xq:Ext wC wq)=>Jn frm x fv wq (hrf.ext (hX.trans xq))
  by_cases hmem:x∉frm
  · rw [decide_eq_false hmem] at ch
    rw [Il hx hmem]
    (repeat' ((fail_if_success (refine Ac (x:=(Code.region 2 _ _)) ?_));first|refine Sy ?_|refine yqY ?_|refine yqZ ?_|refine E_dq Aa (by kernel_rfl) Z ?_|refine yN Z (fun wq xq=>?_)))
    all_goals (try (exfalso;omega))
    rename_i wq xq
    replace rX:=rX.ext xq;replace rC:=rC.ext xq;replace hX:=hX.trans xq;replace hatx:=xq.cell hatx
    replace ch:=fun wr (xr:Ext wq wr)=>ch wr (xq.trans xr)
    (repeat' (first|refine yV Z Z (fun _ _ _=>A0 (m:=i) Z Z Z Z (by omega)) ?_|refine An Z Z (fun _ _ _=>A3 Z Z en33) ch ?_|refine Sy ?_|refine yqY ?_|refine yqZ ?_|refine E_dq Aa (by kernel_rfl) Z ?_|refine yN Z (fun wq xq=>?_)|refine yO Z Z ?_))
    exact A5 Z Z ⟨rfl,hX.trans xq⟩
  · have hmem':x∈frm:=Classical.not_not.1 hmem
    rw [decide_eq_true hmem'] at ch
    (repeat' ((fail_if_success (refine Ac (x:=(Code.region 2 _ _)) ?_));first|refine Sy ?_|refine yqY ?_|refine yqZ ?_|refine E_dq Aa (by kernel_rfl) Z ?_|refine yN Z (fun wq xq=>?_)))
    all_goals (try (exfalso;omega))
    rename_i wq xq
    replace rX:=rX.ext xq;replace rC:=rC.ext xq;replace hX:=hX.trans xq;replace hatx:=xq.cell hatx
    replace ch:=fun wr (xr:Ext wq wr)=>ch wr (xq.trans xr)
    refine Fl (ι:=Bool) (fun T=>[(2,.slice (some ⟨wb,wo,none⟩) ws.length wc),(3,int i),(4,.pointer (some ⟨bX,0,none⟩)),(5,.pointer (some ⟨bC,0,none⟩)),(9,int ((i:Int)-(left.length:Int))),(59,.bool T)])
      (fun T wr=>Ext wq wr∧(T=false↔siteC ⟨frm,to,left,right,beg,fin⟩ ws.length i)) ?_ ?_
    · (repeat' (first|refine yV Z Z (fun _ _ _=>A0 (m:=i) Z Z Z Z (by omega)) ?_|refine An Z Z (fun _ _ _=>A3 Z Z en33) ch ?_|refine Sy ?_|refine yqY ?_|refine yqZ ?_|refine yqX (fun hh=>?_) fun hh=>?_|refine E_dq Aa (by kernel_rfl) Z ?_|refine yN Z (fun wq xq=>?_)|refine yO Z Z ?_|(refine yG Z Z Z (fun hg=>?_) (fun hg=>?_) <;> subst hg)))
      all_goals (refine Bx _ ⟨rfl,rfl,rfl,rfl,rfl,rfl,trivial⟩ ⟨by assumption,?_⟩)
      all_goals (unfold siteC;dsimp only;simp only [decide_eq_false_iff_not,Bool.false_eq_true,Bool.true_eq_false,false_implies,true_implies,and_true,true_and,forall_const,false_iff,true_iff,reduceCtorEq];omega)
    · rintro T wr ⟨hxr,hT⟩
      replace rX:=rX.ext hxr;replace rC:=rC.ext hxr;replace hX:=hX.trans hxr
      cases T with
      | true=>
        rw [site_no hx (fun h=>by cases hT.2 h)]
        (repeat' (first|refine Sy ?_))
        exact A5 Z Z ⟨rfl,hX⟩
      | false =>
        have hC:=hT.1 rfl
        have hC0:=hC
        obtain⟨hc1,hc2,hc3,hc4⟩:=hC
        dsimp only at hc1 hc2
        rw [site_yes hx hmem' hC0]
        dsimp only
        obtain⟨f,hf⟩:∃ f,i=f+left.length:=⟨i-left.length,by omega⟩
        rw [show i-left.length=f by omega]
        (repeat' (first|refine Ly ?_))
        refine Ae (ι:=Nat) (fun k=>[(2,.slice (some ⟨wb,wo,none⟩) ws.length wc),(3,int i),(4,.pointer (some ⟨bX,0,none⟩)),(5,.pointer (some ⟨bC,0,none⟩)),(9,int ((i:Int)-(left.length:Int))),(62,int left.length),(63,int k)])
          (fun k ws'=>k≤left.length∧Ext wr ws'∧∀(j:Nat) (c:Cls) (y:Int),j<k→left[j]?=some c→((ws.drop f).take left.length)[j]?=some y→inC As segs y c=true) (fun k=>left.length-k) 0
          ⟨rfl,rfl,rfl,rfl,rfl,rfl,rfl,trivial⟩ ⟨Nat.zero_le _,Ext.refl _,fun j _ _ hj=>absurd hj (by omega)⟩ ?_
        rintro k wk ⟨hk,hxk,hall⟩
        replace rX:=rX.ext hxk;replace rC:=rC.ext hxk;replace hX:=hX.trans hxk
        by_cases hlt:k<left.length
        · obtain⟨lb,lo,rfl⟩:=hlp (by omega)
          obtain⟨c,hc⟩:∃ c,left[k]?=some c:=⟨_,List.getElem?_eq_getElem hlt⟩
          obtain⟨y,hy⟩:∃ y,ws[f+k]?=some y:=⟨_,List.getElem?_eq_getElem (by omega)⟩
          have hy2:((ws.drop f).take left.length)[k]?=some y:=by rw [List.getElem?_take_of_lt hlt,List.getElem?_drop];exact hy
          have hatc:=Q0 (hrl.ext hX) hc
          have haty:=int_elem (hw0.ext hX) hy
          have ci:=fun wz (xz:Ext wk wz)=>in249_any segs _ y c wz (hv0.ext (hX.trans xz))
          cases hb:inC As segs y c with
          | true=>
            rw [hb] at ci
            (repeat' (first|refine yV Z Z (fun _ _ _=>A0 (m:=f+k) Z Z Z (by omega) (by omega)) ?_|refine yV Z Z (fun _ _ _=>A0 (m:=k) Z Z Z Z (by omega)) ?_|refine An Z Z (fun _ _ _=>A3 Z Z en249) ci ?_|refine Sy ?_|refine Dy (fun hh=>?_) fun hh=>?_|refine yqY ?_|refine yqZ ?_|refine E_dq Aa (by kernel_rfl) Z ?_|refine yN Z (fun wq xq=>?_)))
            all_goals (try (exfalso;omega))
            refine Ad (k+1) ⟨rfl,rfl,rfl,rfl,rfl,rfl,rfl,trivial⟩ ⟨by omega,hxk.trans (by assumption),fun j c' y' hj hc' hy'=>?_⟩ (by omega)
            by_cases e:j=k
            · subst e
              rw [hc] at hc';cases hc'
              rw [hy2] at hy';cases hy'
              exact hb
            · exact hall j c' y' (by omega) hc' hy'
          | false=>
            rw [hb] at ci
            rw [fits_no hc hy2 hb]
            (repeat' (first|refine yV Z Z (fun _ _ _=>A0 (m:=f+k) Z Z Z (by omega) (by omega)) ?_|refine yV Z Z (fun _ _ _=>A0 (m:=k) Z Z Z Z (by omega)) ?_|refine An Z Z (fun _ _ _=>A3 Z Z en249) ci ?_|refine Sy ?_|refine Dy (fun hh=>?_) fun hh=>?_|refine yqY ?_|refine yqZ ?_|refine E_dq Aa (by kernel_rfl) Z ?_|refine yN Z (fun wq xq=>?_)))
            all_goals (try (exfalso;omega))
            exact A5 Z Z ⟨rfl,hX.trans (by assumption)⟩
        · obtain rfl:k=left.length:=by omega
          rw [Pp (segs:=segs) (fun j c y hc hy=>hall j c y (List.getElem?_eq_some_iff.1 hc).1 hc hy),Bool.true_and]
          (repeat' (first|refine Ly ?_|refine Dy (fun hh=>?_) fun hh=>?_))
          all_goals (try (exfalso;omega))
          refine Ae (ι:=Nat) (fun k=>[(2,.slice (some ⟨wb,wo,none⟩) ws.length wc),(3,int i),(4,.pointer (some ⟨bX,0,none⟩)),(5,.pointer (some ⟨bC,0,none⟩)),(83,int right.length),(84,int k)])
            (fun k ws'=>k≤right.length∧Ext wk ws'∧∀(j:Nat) (c:Cls) (y:Int),j<k→right[j]?=some c→((ws.drop (i+1)).take right.length)[j]?=some y→inC As segs y c=true) (fun k=>right.length-k) 0
            ⟨rfl,rfl,rfl,rfl,rfl,rfl,trivial⟩ ⟨Nat.zero_le _,Ext.refl _,fun j _ _ hj=>absurd hj (by omega)⟩ ?_
          rintro k wl ⟨hk,hxl,hall2⟩
          replace rX:=rX.ext hxl;replace rC:=rC.ext hxl;replace hX:=hX.trans hxl
          by_cases hlt2:k<right.length
          · obtain⟨lb,lo,rfl⟩:=hrp (by omega)
            obtain⟨c,hc⟩:∃ c,right[k]?=some c:=⟨_,List.getElem?_eq_getElem hlt2⟩
            obtain⟨y,hy⟩:∃ y,ws[i+1+k]?=some y:=⟨_,List.getElem?_eq_getElem (by omega)⟩
            have hy2:((ws.drop (i+1)).take right.length)[k]?=some y:=by rw [List.getElem?_take_of_lt hlt2,List.getElem?_drop];exact hy
            have hatc:=Q0 (hrr.ext hX) hc
            have haty:=int_elem (hw0.ext hX) hy
            have ci:=fun wz (xz:Ext wl wz)=>in249_any segs _ y c wz (hv0.ext (hX.trans xz))
            cases hb:inC As segs y c with
            | true=>
              rw [hb] at ci
              (repeat' (first|refine yV Z Z (fun _ _ _=>A0 (m:=i+1+k) Z Z Z (by omega) (by omega)) ?_|refine yV Z Z (fun _ _ _=>A0 (m:=k) Z Z Z Z (by omega)) ?_|refine An Z Z (fun _ _ _=>A3 Z Z en249) ci ?_|refine Sy ?_|refine Dy (fun hh=>?_) fun hh=>?_|refine yqY ?_|refine yqZ ?_|refine E_dq Aa (by kernel_rfl) Z ?_|refine yN Z (fun wq xq=>?_)))
              all_goals (try (exfalso;omega))
              refine Ad (k+1) ⟨rfl,rfl,rfl,rfl,rfl,rfl,trivial⟩ ⟨by omega,hxl.trans (by assumption),fun j c' y' hj hc' hy'=>?_⟩ (by omega)
              by_cases e:j=k
              · subst e
                rw [hc] at hc';cases hc'
                rw [hy2] at hy';cases hy'
                exact hb
              · exact hall2 j c' y' (by omega) hc' hy'
            | false=>
              rw [hb] at ci
              rw [fits_no hc hy2 hb]
              (repeat' (first|refine yV Z Z (fun _ _ _=>A0 (m:=i+1+k) Z Z Z (by omega) (by omega)) ?_|refine yV Z Z (fun _ _ _=>A0 (m:=k) Z Z Z Z (by omega)) ?_|refine An Z Z (fun _ _ _=>A3 Z Z en249) ci ?_|refine Sy ?_|refine Dy (fun hh=>?_) fun hh=>?_|refine yqY ?_|refine yqZ ?_|refine E_dq Aa (by kernel_rfl) Z ?_|refine yN Z (fun wq xq=>?_)))
              all_goals (try (exfalso;omega))
              exact A5 Z Z ⟨rfl,hX.trans (by assumption)⟩
          · obtain rfl:k=right.length:=by omega
            rw [Pp (segs:=segs) (fun j c y hc hy=>hall2 j c y (List.getElem?_eq_some_iff.1 hc).1 hc hy)]
            (repeat' (first|refine Sy ?_|refine Dy (fun hh=>?_) fun hh=>?_))
            all_goals (try (exfalso;omega))
            exact A5 Z Z ⟨rfl,hX⟩
end
section
open Go.RowKit Go.En Go.Pv
theorem newF_at {r:Rul} (h:RulOK r) {k:Nat} {x:Int} (hk:r.frm[k]?=some x):newF r x=r.to.getD k 0:=by
  have hk':=(List.getElem?_eq_some_iff.1 hk)
  obtain⟨hlt,he⟩:=hk'
  have:r.frm.findIdx? (fun y=>y==x)=some k:=by
    rw [List.findIdx?_eq_some_iff_getElem]
    refine⟨hlt,by simp [he],fun j hj=>?_⟩
    simp only [Bool.not_eq_true,beq_eq_false_iff_ne]
    intro e
    have:=(List.getElem?_inj (by omega) h.nod).1 (show r.frm[j]?=r.frm[k]? by rw [hk,List.getElem?_eq_getElem (by omega),e])
    omega
  unfold newF;rw [this]
def upA (segs:List Ph) (r:Rul) (ws:List Int) (i:Nat):List Int:=(List.range i).filterMap (oneF As segs r ws)
theorem upA_succ (segs:List Ph) (r:Rul) (ws:List Int) (i:Nat):upA segs r ws (i+1)=upA segs r ws i++(match oneF As segs r ws i with|some y=>[y]|none=>[]):=by
  unfold upA;rw [List.range_succ,List.filterMap_append];congr 1
  cases h:oneF As segs r ws i <;> simp [h]
theorem upA_len (segs:List Ph) (r:Rul) (ws:List Int) (i:Nat):(upA segs r ws i).length≤i:=by
  have:=List.length_filterMap_le (oneF As segs r ws) (List.range i);simpa [upA] using this
theorem oneF_at {segs:List Ph} {r:Rul} {ws:List Int} {i:Nat} {x:Int} (hx:ws[i]?=some x):oneF As segs r ws i=if (if Dx As segs r ws i then newF r x else x)=0 then none else some (if Dx As segs r ws i then newF r x else x):=by
  have:ws.getD i 0=x:=by rw [List.getD_eq_getElem?_getD,hx];rfl
  unfold oneF;rw [this]
theorem site_mem {segs:List Ph} {r:Rul} {ws:List Int} {i:Nat} {x:Int} (hx:ws[i]?=some x) (h:Dx As segs r ws i=true):x∈r.frm:=by
  refine Classical.byContradiction fun hn=>?_
  rw [Il hx hn] at h;cases h
attribute [local irreducible] E EL K Val Enters Rt Calls bodyPost Code.wp RQ
theorem apply241_any (segs:List Ph) (v:Value) (r:Rul) (fv tv lv rv:Value) (ws:List Int) (wv:Value) (w:World) (hv:Sl w v segs) (hr:RulAt w r fv tv lv rv) (hw:Sl w wv ws) (hok:RulOK r) (hl:ws.length≤1000) :
    Calls Tryz.prog 241 #[.agg #[v],.agg #[fv,tv,lv,rv,.bool r.beg,.bool r.fin],wv] w (Rt fun u w'=>Ext w w'∧SlG (fun b=>w.heap.size≤b) w' u (Hb As segs r ws)):=by
  have hv0:=hv;have hr0:=hr;have hw0:=hw
  obtain⟨hrf,hrt,hrl,hrr⟩:=hr
  have hfew:=hok.few
  have hlen:=hok.len
  obtain⟨va,vc,rfl,_,_,_⟩:=hv.sl
  obtain⟨fa,fc,rfl,_,_,hfp⟩:=hrf.sl
  obtain⟨ta,tc,rfl,_,_,htp⟩:=hrt.sl
  obtain⟨wa,wc,rfl,_,_,hwp⟩:=hw.sl
  refine A7 (n:=55) (args:=[.agg #[.slice va segs.length vc],.agg #[.slice fa r.frm.length fc,.slice ta r.to.length tc,lv,rv,.bool r.beg,.bool r.fin],.slice wa ws.length wc]) Tryz.func241 rfl Tryz.ntmps241 (by simp) ?_
  refine Ac ?_
  refine A8 ?_
  refine Aj Z Z Z Z (fun bX wX xX hbX rX0=>?_)
  have rX1:Row wX bX 25 [.slice va segs.length vc]:=rX0
  refine Aj Z Z Z Z (fun bC wC xC hbC rC0=>?_)
  have rC:Row wC bC 112 [.slice fa r.frm.length fc,.slice ta r.to.length tc,lv,rv,.bool r.beg,.bool r.fin]:=rC0
  have rX:=rX1.ext xC
  clear rX0 rX1 rC0
  have hX:=xX.trans xC
  clear xX xC
  have hXs:=hX.size
  (repeat' (first|refine Sy ?_))
  refine Ae (ι:=Nat × Value) (fun z=>[(2,.slice wa ws.length wc),(3,.pointer (some ⟨bX,0,none⟩)),(4,.pointer (some ⟨bC,0,none⟩)),(7,z.2),(12,int ws.length),(13,int z.1)])
    (fun z wr=>z.1≤ws.length∧Ext wC wr∧wr.ownsRow wC.heap.size 3 1 z.2 (upA segs r ws z.1).length ((upA segs r ws z.1).map int)) (fun z=>ws.length-z.1) (0,.slice none 0 0)
    ⟨rfl,rfl,rfl,rfl,rfl,rfl,trivial⟩ ⟨Nat.zero_le _,Ext.refl _,World.ownsRow_nil _ _ _ _⟩ ?_
  rintro⟨i,vO⟩ wr ⟨hi,hx,hown⟩
  dsimp only at hi hx hown ⊢
  have hol:=upA_len segs r ws i
  by_cases hlt:i<ws.length
  · obtain⟨wb,wo,rfl⟩:=hwp (by omega)
    obtain⟨x,hx1⟩:∃ x,ws[i]?=some x:=⟨_,List.getElem?_eq_getElem hlt⟩
    have hone:=oneF_at (segs:=segs) (r:=r) hx1
    have hsucc:=upA_succ segs r ws i
    replace rX:=rX.ext hx;replace rC:=rC.ext hx
    have hatx:=int_elem (hw0.ext (hX.trans hx)) hx1
    have cs:=site247_any segs _ r _ _ lv rv ws _ i wr hlt (hv0.ext (hX.trans hx)) (hr0.ext (hX.trans hx)) (hw0.ext (hX.trans hx)) hok hl
    cases hb:Dx As segs r ws i with
    | false=>
      rw [hb] at cs hone
      simp only [Bool.false_eq_true,if_false] at hone
      (repeat' (first|refine eV Z Z (A0 (m:=i) Z Z Z Z (by omega)) ?_|(refine A9 Z Z (A3 Z Z en247) cs (fun vC wS hC=>?_);obtain⟨rfl,xS⟩:=hC;replace hown:=Ak hown xS;replace hx:=hx.trans xS)|(refine Ay (news:=[int x]) (Ak hown xS) (hx.trans xS) (fun _=>⟨_,_,rfl,rS.at⟩) Z Z Z Z Z Z Z Z Z (by omega) (by omega) (fun vJ wJ oJ xJ kJ hJ=>?_))|refine Ly ?_|refine Dy (fun hh=>?_) fun hh=>?_|refine eL Z Z Z Z Z Z Z Z (fun bS wS xS hbS rS=>?_)))
      all_goals (try (exfalso;omega))
      · rw [if_neg hh] at hone
        rw [hone] at hsucc
        refine Ad (i+1,vJ) ⟨rfl,rfl,rfl,rfl,rfl,rfl,trivial⟩ ⟨by dsimp only;omega,xJ,?_⟩ (by dsimp only;omega)
        dsimp only
        rw [hsucc]
        simpa using oJ
      · rw [if_pos (Classical.not_not.1 hh)] at hone
        rw [hone] at hsucc
        refine Ad (i+1,vO) ⟨rfl,rfl,rfl,rfl,rfl,rfl,trivial⟩ ⟨by dsimp only;omega,hx,?_⟩ (by dsimp only;omega)
        dsimp only
        rw [hsucc,List.append_nil]
        exact hown
    | true=>
      rw [hb] at cs hone
      simp only [if_true] at hone
      have hmx:=site_mem hx1 hb
      obtain⟨kx,hkx⟩:=List.getElem?_of_mem hmx
      have hkl:=(List.getElem?_eq_some_iff.1 hkx).1
      have hnew:=newF_at hok hkx
      obtain⟨y,hy⟩:∃ y,r.to[kx]?=some y:=⟨_,List.getElem?_eq_getElem (by omega)⟩
      have hny:newF r x=y:=by rw [hnew,List.getD_eq_getElem?_getD,hy];rfl
      rw [hny] at hone
      obtain⟨fb,fo,rfl⟩:=hfp (by omega)
      obtain⟨tb,tof,rfl⟩:=htp (by omega)
      (repeat' (first|refine eV Z Z (A0 (m:=i) Z Z Z Z (by omega)) ?_|(refine A9 Z Z (A3 Z Z en247) cs (fun vC wS hC=>?_);obtain⟨rfl,xS⟩:=hC;replace hown:=Ak hown xS;replace hx:=hx.trans xS;replace rC:=rC.ext xS;replace rX:=rX.ext xS;replace hatx:=xS.cell hatx)|refine Ly ?_|refine Dy (fun hh=>?_) fun hh=>?_))
      all_goals (try (exfalso;omega))
      refine Ae (ι:=Nat) (fun k=>[(2,.slice (some ⟨wb,wo,none⟩) ws.length wc),(3,.pointer (some ⟨bX,0,none⟩)),(4,.pointer (some ⟨bC,0,none⟩)),(7,vO),(8,int i),(9,int (if kx<k then y else x)),(12,int ws.length),(13,int i),(27,int r.frm.length),(28,int k)])
        (fun k wz=>k≤r.frm.length∧Ext wS wz) (fun k=>r.frm.length-k) 0
        ⟨rfl,rfl,rfl,rfl,rfl,rfl,rfl,rfl,rfl,rfl,trivial⟩ ⟨Nat.zero_le _,Ext.refl _⟩ ?_
      rintro k wz ⟨hk,hxz⟩
      replace rC:=rC.ext hxz;replace rX:=rX.ext hxz;replace hatx:=hxz.cell hatx;replace hown:=Ak hown hxz;replace hx:=hx.trans hxz
      by_cases hlk:k<r.frm.length
      · obtain⟨z,hz⟩:∃ z,r.frm[k]?=some z:=⟨_,List.getElem?_eq_getElem hlk⟩
        have hatz:=int_elem (hrf.ext (hX.trans hx)) hz
        have hkz:z=x↔k=kx:=by
          constructor
          · rintro rfl;exact(List.getElem?_inj hlk hok.nod).1 (hz.trans hkx.symm)
          · rintro rfl;rw [hkx] at hz;exact(Option.some.inj hz).symm
        have haty:=int_elem (hrt.ext (hX.trans hx)) hy
        by_cases e:k=kx
        · subst e
          obtain rfl:z=x:=hkz.2 rfl
          rw [if_neg (by omega)]
          (repeat' (first|(refine yN Z (fun wq xq=>?_);replace rC:=rC.ext xq;replace hatx:=xq.cell hatx;replace haty:=xq.cell haty)|refine yV Z Z (fun _ _ _=>A0 (m:=k) Z Z Z Z (by omega)) ?_|refine yV Z Z (fun _ _ _=>A0 (m:=i) Z Z Z Z (by omega)) ?_|refine eV Z Z (A0 (m:=k) Z Z Z Z (by omega)) ?_|refine Ly ?_|refine Dy (fun hh=>?_) fun hh=>?_|refine yqY ?_|refine yqZ ?_|refine yqX (fun hh=>?_) fun hh=>?_|refine eL Z Z Z Z Z Z Z Z (fun bS wS xS hbS rS=>?_)|refine E_dq Aa (by kernel_rfl) Z ?_))
          all_goals (try (exfalso;omega))
          refine Ad (k+1) ⟨rfl,rfl,rfl,rfl,rfl,by rw [if_pos (by omega)];rfl,rfl,rfl,rfl,rfl,trivial⟩ ⟨by omega,hxz.trans (by assumption)⟩ (by omega)
        · have hzx:¬ z=x:=fun h=>e (hkz.1 h)
          have hif:(if kx<k+1 then y else x)=(if kx<k then y else x):=by
            by_cases h:kx<k
            · rw [if_pos h,if_pos (by omega)]
            · rw [if_neg h,if_neg (by omega)]
          (repeat' (first|refine yV Z Z (fun _ _ _=>A0 (m:=k) Z Z Z Z (by omega)) ?_|refine yV Z Z (fun _ _ _=>A0 (m:=i) Z Z Z Z (by omega)) ?_|refine Sy ?_|refine Dy (fun hh=>?_) fun hh=>?_|refine yqY ?_|refine yqZ ?_|refine yqX (fun hh=>?_) fun hh=>?_|refine eL Z Z Z Z Z Z Z Z (fun bS wS xS hbS rS=>?_)|refine E_dq Aa (by kernel_rfl) Z ?_|refine yN Z (fun wq xq=>?_)))
          all_goals (try (exfalso;omega))
          refine Ad (k+1) ⟨rfl,rfl,rfl,rfl,rfl,by rw [hif];rfl,rfl,rfl,rfl,rfl,trivial⟩ ⟨by omega,hxz.trans (by assumption)⟩ (by omega)
      · obtain rfl:k=r.frm.length:=by omega
        rw [if_pos hkl]
        (repeat' (first|(refine Ay (news:=[int y]) (Ak hown xS) (hx.trans xS) (fun _=>⟨_,_,rfl,rS.at⟩) Z Z Z Z Z Z Z Z Z (by omega) (by omega) (fun vJ wJ oJ xJ kJ hJ=>?_))|refine Sy ?_|refine Dy (fun hh=>?_) fun hh=>?_|refine eL Z Z Z Z Z Z Z Z (fun bS wS xS hbS rS=>?_)))
        all_goals (try (exfalso;omega))
        · rw [if_neg ‹_›] at hone
          rw [hone] at hsucc
          refine Ad (i+1,vJ) ⟨rfl,rfl,rfl,rfl,rfl,rfl,trivial⟩ ⟨by dsimp only;omega,xJ,?_⟩ (by dsimp only;omega)
          dsimp only
          rw [hsucc]
          simpa using oJ
        · rw [if_pos (Classical.not_not.1 hh)] at hone
          rw [hone] at hsucc
          refine Ad (i+1,vO) ⟨rfl,rfl,rfl,rfl,rfl,rfl,trivial⟩ ⟨by dsimp only;omega,hx,?_⟩ (by dsimp only;omega)
          dsimp only
          rw [hsucc,List.append_nil]
          exact hown
  · obtain rfl:i=ws.length:=by omega
    (repeat' (first|refine Sy ?_|refine Dy (fun hh=>?_) fun hh=>?_))
    all_goals (try (exfalso;omega))
    exact A5 Z Z ⟨hX.trans hx,C5 (css:=(upA segs r ws ws.length).map fun z=>[int z]) (by rw [Av];exact hown) (B4 _ _) (fun b hb=>Nat.le_trans hXs hb) Z (by have:=apply_len (bandF:=As) (segs:=segs) (r:=r) (w:=ws);omega)⟩
theorem last_pos {segs:List Ph}:∀(rules:List Rul) (ws:List Int),(C9 As segs rules ws).length≤ws.length
  | [],ws=>Nat.le_refl _
  | r::rs,ws=>Nat.le_trans (last_pos rs _) apply_len
theorem last_succ {segs:List Ph} {rules:List Rul} {ws:List Int} {i:Nat} {r:Rul} (h:rules[i]?=some r):C9 As segs (rules.take (i+1)) ws=Hb As segs r (C9 As segs (rules.take i) ws):=by
  obtain⟨hi,rfl⟩:=List.getElem?_eq_some_iff.1 h
  unfold C9
  rw [List.take_succ_eq_append_getElem hi,List.foldl_append];rfl
theorem last226_any (segs:List Ph) (v:Value) (rules:List Rul) (rv:Value) (ws:List Int) (wv:Value) (w:World) (hv:Sl w v segs) (hr:Sl w rv rules) (hw:Sl w wv ws) (hok:∀ r∈rules,RulOK r) (hl:ws.length≤1000) :
    Calls Tryz.prog 226 #[.agg #[v],rv,wv] w (Rt fun u w'=>Ext w w'∧Sl w' u (C9 As segs rules ws)):=by
  have hv0:=hv;have hr0:=hr;have hw0:=hw
  obtain⟨va,vc,rfl,_,_,_⟩:=hv.sl
  obtain⟨ra,rc,rfl,_,_,hrp⟩:=hr.sl
  refine A7 (n:=22) (args:=[.agg #[.slice va segs.length vc],.slice ra rules.length rc,wv]) Tryz.func226 rfl Tryz.ntmps226 (by simp) ?_
  refine Ac ?_
  refine A8 ?_
  refine Aj Z Z Z Z (fun bX wX xX hbX rX0=>?_)
  have rX:Row wX bX 25 [.slice va segs.length vc]:=rX0
  clear rX0
  (repeat' (first|refine Sy ?_))
  refine Ae (ι:=Nat × Value) (fun z=>[(1,.slice ra rules.length rc),(2,z.2),(3,.pointer (some ⟨bX,0,none⟩)),(9,int rules.length),(10,int z.1)])
    (fun z wr=>z.1≤rules.length∧Ext wX wr∧Sl wr z.2 (C9 As segs (rules.take z.1) ws)) (fun z=>rules.length-z.1) (0,wv)
    ⟨rfl,rfl,rfl,rfl,rfl,trivial⟩ ⟨Nat.zero_le _,Ext.refl _,hw0.ext xX⟩ ?_
  rintro⟨i,vO⟩ wr ⟨hi,hx,hsl⟩
  dsimp only at hi hx hsl ⊢
  have hX:=xX.trans hx
  by_cases hlt:i<rules.length
  · obtain⟨rb,ro,rfl⟩:=hrp (by omega)
    obtain⟨r,hr1⟩:∃ r,rules[i]?=some r:=⟨_,List.getElem?_eq_getElem hlt⟩
    replace rX:=rX.ext hx
    obtain⟨a0,c0,a1,c1,a2,c2,a3,c3,hat,_,h1,h2,h3,h4⟩:=Ga (hr0.ext hX) hr1
    have hll:=last_pos (segs:=segs) (rules.take i) ws
    have ca:=fun wz (xz:Ext wr wz)=>apply241_any segs _ r _ _ _ _ _ vO wz (hv0.ext (hX.trans xz)) ⟨h1.ext xz,h2.ext xz,h3.ext xz,h4.ext xz⟩ (hsl.ext xz) (hok r (List.mem_of_getElem? hr1)) (by omega)
    rw [← last_succ hr1] at ca
    (repeat' (first|refine yV Z Z (fun _ _ _=>A0 (m:=i) Z Z Z Z (by omega)) ?_|refine Al (f:=241) (fun u w'=>Sl w' u (C9 As segs (rules.take (i+1)) ws)) (fun _=>_) Z Z (fun _ _ _ _ xe h=>SlG.ext h xe) (fun _ _ _=>A3 Z Z en241) (fun wq _ xq _=>Ag (ca wq xq) (fun _ _ hh=>⟨hh.2.any,hh.1⟩)) ?_|refine K0 Z Z Z Z (fun _=>rfl) ?_|refine B8 (fun wq δ xq hR=>?_)|refine Sy ?_|refine Dy (fun hh=>?_) fun hh=>?_|refine yqY ?_|refine yqZ ?_|refine E_dq Aa (by kernel_rfl) Z ?_))
    all_goals (try (exfalso;omega))
    refine Ad (i+1,_) ⟨rfl,rfl,rfl,rfl,rfl,trivial⟩ ⟨by dsimp only;omega,hx.trans xq,?_⟩ (by dsimp only;omega)
    dsimp only
    exact hR 2 _ rfl
  · obtain rfl:i=rules.length:=by omega
    rw [List.take_length] at hsl
    (repeat' (first|refine Sy ?_|refine Dy (fun hh=>?_) fun hh=>?_))
    all_goals (try (exfalso;omega))
    exact A5 Z Z ⟨hX,hsl⟩
end
section
open Go.RowKit Go.En Go.Pv
def K6 (lex:List En) (p:Prt):Int:=match getE lex p.entry with
  | none=>9
  | some e=>if 0≤p.alt∧p.alt<((Ai e).length:Int) then (if 0≤p.sense∧p.sense<((B6 lex p.entry).length:Int) then 0 else 22) else 2
theorem partE_zero {lex:List En} {p:Prt}:K6 lex p=0↔Iw lex p=true:=by
  unfold K6 Iw
  cases hg:getE lex p.entry with
  | none=>rw [Ps hg];simp
  | some e=>
    rw [Pr hg]
    dsimp only
    by_cases hf:0≤p.alt∧p.alt<((Ai e).length:Int)
    · rw [if_pos hf,if_pos hf]
      by_cases hs:0≤p.sense∧p.sense<((B6 lex p.entry).length:Int)
      · rw [if_pos hs];simp [hs]
      · rw [if_neg hs];simp;intro h;omega
    · rw [if_neg hf,if_neg hf];simp
def Lc (g:Lg) (a:List Prt):Prop:=a.length≠0∧a.length≤4∧a.all (Iw g.lex)=true∧Dt g.net (Aq g.lex a)=true∧(Ar g.lex a).length≤24
theorem LangOK.rul {g:Lg} (h:LangOK g):∀ r∈g.rules,RulOK r:=fun r hr=>by
  obtain⟨h1,h2,h3,h4,h5⟩:=h.rules r hr;exact⟨h1,h2,h3,h4,h5⟩
theorem LangOK.alts {g:Lg} (h:LangOK g):∀ e∈g.lex,e.alts.length≤1000000:=fun e he=>by have:=(h.lex e he).2.2.2.2.1;omega
theorem LangOK.forms {g:Lg} (h:LangOK g):∀ e∈g.lex,∀ f∈Ai e,f.length≤1000:=fun e he f hf=>by have:=((h.lex e he).2.2.2.2.2.1 f hf).1;omega
theorem LangOK.cls {g : Lg} (h : LangOK g) (a : List Prt) : ∀ c ∈ Aq g.lex a, 1 ≤ c := by
  intro c hc
  unfold Aq at hc
  obtain⟨p,_,hp⟩:=List.mem_filterMap.1 hc
  cases hx:Ck g.lex p with
  | none=>rw [hx] at hp;cases hp
  | some x=>
    rw [hx] at hp
    cases hp
    unfold Ck at hx
    cases hg:getE g.lex p.entry with
    | none=>rw [hg] at hx;cases hx
    | some e=>
      rw [hg] at hx
      dsimp only at hx
      split at hx
      · split at hx
        · cases hx
          obtain⟨_,h1,_,_⟩:=Fs hg
          exact(h.lex e (List.mem_of_getElem? h1)).2.1
        · cases hx
      · cases hx
attribute [local irreducible] E EL K Val Enters Rt Calls bodyPost Code.wp RQ
theorem part239_any (g:Lg) (hok:LangOK g) (n:Nat) (pv uv tv rv sv fv ev:Value) (p:Prt) (w:World) (hl:Sl w ev g.lex) :
    Calls Tryz.prog 239 #[.agg #[pv,str g.oname,uv,tv,rv,int n,sv,fv,ev],.agg #[int p.entry,int p.alt,int p.sense] ] w (Rt fun u w'=>u=int (K6 g.lex p)∧Ext w w'):=by
  refine A7 (n:=36) (args:=[.agg #[pv,str g.oname,uv,tv,rv,int n,sv,fv,ev],.agg #[int p.entry,int p.alt,int p.sense] ]) Tryz.func239 rfl Tryz.ntmps239 (by simp) ?_
  refine Ac ?_
  refine A8 ?_
  refine Aj Z Z Z Z (fun bG wG xG hbG rG0=>?_)
  have rG1:Row wG bG 37 [pv,str g.oname,uv,tv,rv,int n,sv,fv,ev]:=rG0
  refine Aj Z Z Z Z (fun bA wA xA hbA rA0=>?_)
  have rA:Row wA bA 129 [int p.entry,int p.alt,int p.sense]:=rA0
  have rG:=rG1.ext xA
  have hX:=xG.trans xA
  clear rG0 rA0 rG1
  have hnl:=hok.nlex
  cases hg:getE g.lex p.entry with
  | none=>
    have cg:=Gi hg ev wA (hl.ext hX)
    have hpe:K6 g.lex p=9:=by unfold K6;rw [hg]
    rw [hpe]
    (repeat' (first|(refine cqC cg en53 fun wC xC=>?_)|refine Ap Z Z Z (fun bN wN xN hbN rN=>?_)|refine Ly ?_))
    refine Ah (cs:=zeroE) rN xN (Nat.le_of_eq hbN.symm) Z Z Z Z Z Z Z Z (Nat.le_refl _) (fun w3 rN1 x3 k3=>?_)
    (repeat' (first|refine Sy ?_))
    exact A5 Z Z ⟨rfl,hX.trans (xC.trans x3)⟩
  | some e=>
    obtain⟨X,hrep0,_,cg0⟩:=Gh hg ev wA (hl.ext hX)
    have hrep:=hrep0
    obtain⟨f1,a1,s1,l1,r1,rfl,hfv,_⟩:=hrep0
    have cg:=cg0 wA (Ext.refl _)
    have hem:e∈g.lex:=by obtain⟨_,h1,_,_⟩:=Fs hg;exact List.mem_of_getElem? h1
    (repeat' (first|(refine cqC cg en53 fun wC xC=>?_)|refine Ap Z Z Z (fun bN wN xN hbN rN=>?_)|refine Ly ?_))
    refine Ah (cs:=[int e.id,f1,int e.cls,a1,int e.main,s1,l1,r1]) rN xN (Nat.le_of_eq hbN.symm) Z Z Z Z Z Z Z (Rep.one hrep) (Nat.le_refl _) (fun w3 rN1 x3 k3=>?_)
    have rN3:Row w3 bN 65 [int e.id,f1,int e.cls,a1,int e.main,s1,l1,r1]:=rN1
    have hX3:=hX.trans (xC.trans x3)
    replace rA:=(rA.ext xC).ext x3;replace rG:=(rG.ext xC).ext x3
    have cf:=J6 e _ p.alt w3 (Rep.move hrep (xC.trans x3).mv) (hok.alts e hem)
    by_cases hf:0≤p.alt∧p.alt<((Ai e).length:Int)
    · rw [decide_eq_true hf] at cf
      have hpe:K6 g.lex p=if 0≤p.sense∧p.sense<((B6 g.lex p.entry).length:Int) then 0 else 22:=by unfold K6;rw [hg];dsimp only;rw [if_pos hf]
      (repeat' (first|(refine A9 Z Z (A3 Z Z en198) cf (fun vC wD hC=>?_);obtain⟨rfl,xD⟩:=hC;replace rA:=rA.ext xD;replace rG:=rG.ext xD;replace hX3:=hX3.trans xD)|refine Ly ?_))
      (repeat' (first|refine Al (f:=246) (fun u w'=>Sl w' u (B6 g.lex p.entry)) (fun _=>#[ev,int p.entry]) Z Z (fun _ _ _ _ xe h=>SlG.ext h xe) (fun _ _ _=>A3 Z Z en246) (fun wq _ xq _=>Ag (senses246_any g.lex p.entry ev wq (hl.ext (hX3.trans xq)) (by omega)) (fun _ _ hh=>⟨hh.2,hh.1⟩)) ?_|refine M0 Z Z Z Z (fun _=>rfl) ?_|refine B8 (fun wq δ xq hR=>?_)|refine Sy ?_|refine yqY ?_|refine yqZ ?_|refine yqX (fun hh=>?_) fun hh=>?_|refine E_dq Aa (by kernel_rfl) Z ?_|refine yO Z Z ?_))
      all_goals (try (exfalso;omega))
      all_goals (first
        | (rw [hpe,if_pos (by omega)];exact A5 Z Z ⟨rfl,hX3.trans (by assumption)⟩)
        | (rw [hpe,if_neg (by omega)];exact A5 Z Z ⟨rfl,hX3.trans (by assumption)⟩))
    · rw [decide_eq_false hf] at cf
      have hpe:K6 g.lex p=2:=by unfold K6;rw [hg];dsimp only;rw [if_neg hf]
      rw [hpe]
      (repeat' (first|(refine A9 Z Z (A3 Z Z en198) cf (fun vC wD hC=>?_);obtain⟨rfl,xD⟩:=hC)|refine Ly ?_))
      exact A5 Z Z ⟨rfl,hX3.trans xD⟩
end
end Go.Proofs.YtjicdgejhkgpgaaGreatDoor