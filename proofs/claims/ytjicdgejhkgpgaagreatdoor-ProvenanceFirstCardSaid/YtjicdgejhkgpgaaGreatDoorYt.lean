/-
  Walks: the program's rules: in, fits, site. Walks: the program's rules: site.
-/
import Derived.Test.YtjicdgejhkgpgaaGreatDoorYk
import Derived.Test.YtjicdgejhkgpgaaGreatDoorYf
import Derived.Test.YtjicdgejhkgpgaaGreatDoorYi
set_option linter.all false
namespace Go.Proofs.YtjicdgejhkgpgaaGreatDoor
open Go.RowKit Go.En Go.Pv
theorem SlG.mid {α:Type} [Rep α] {G:Nat→Prop} {w:World} {bl off n cap a b:Nat} {xs:List α} (h:SlG G w (.slice (some ⟨bl,off,none⟩) n cap) xs) (hab:a≤b) (hb:b≤xs.length) :
    SlG G w (.slice (some (if cap=a then ⟨bl,off,none⟩ else ⟨bl,off+a*Rep.sz α,none⟩)) (b-a) (cap-a)) ((xs.drop a).take (b-a)):=by
  have hn:n=xs.length:=by obtain⟨_,_,e,_,_,_⟩:=h.sl;cases e;rfl
  have h1:=SlG.drop h (k:=a) (by omega)
  have h2:=SlG.take h1 (k:=b-a) (by rw [List.length_drop];omega)
  by_cases hc:cap=a
  · rw [if_pos hc] at h2 ⊢;exact h2
  · rw [if_neg hc] at h2 ⊢
    simpa [addr_add] using h2
attribute [local irreducible] E EL K Val Enters Rt Calls bodyPost Code.wp RQ
set_option maxHeartbeats 4000000 in
set_option maxRecDepth 8000 in
theorem in245_any (segs:List Ph) (cs:List Cls) (k:Nat) (c:Cls) (hk:cs[k]?=some c) (seg:Int) (v cv:Value) (w:World) (hv:Sl w v segs) (hc:Sl w cv cs):Calls Tryz.prog 245 #[.agg #[v,cv],int k,int seg] w (Rt fun u w'=>u=.bool (inC bandI segs seg c)∧Ext w w'):=by
  have hc0:=hc
  obtain⟨ca,cc,rfl,_,hm,hp⟩:=hc.sl
  have hkl:=(List.getElem?_eq_some_iff.1 hk).1
  obtain⟨cb,co,rfl⟩:=hp (by omega)
  refine calls_E (n:=16) (args:=[.agg #[v,.slice (some ⟨cb,co,none⟩) cs.length cc],int k,int seg]) Tryz.func245 rfl Tryz.ntmps245 (by simp) ?_
  refine E_seq ?_
  refine E_region ?_
  refine EL_boxA Z Z Z Z (fun bX wX xX hbX rX=>?_)
  have hI:At wX bX (0+0) [v]:=At.sub (xs:=[]) (ys:=[v]) (zs:=[.slice (some ⟨cb,co,none⟩) cs.length cc]) rX.at
  have hat:=cls_elem (hc0.ext xX) hk
  (repeat' (first|refine yV Z Z (fun wq _ xq=>val_load Z Z Z ((Row.ext (by assumption) xq).cellAt (by rfl))) ?_|refine yV Z Z (fun wq _ xq=>val_loadA Z Z Z (At.ext (by assumption) xq) (by rfl)) ?_|refine yV Z Z (fun _ _ _=>val_indexAddr (m:=k) Z Z Z (by first|rfl|omega) (by omega)) ?_|refine RQ_call Z Z (fun _ _ _=>entersF Z Z en248) (fun wq xq=>in248_any segs v seg c wq (hv.ext (xX.trans xq))) ?_|(refine at_EL ?_;first|refine eN ?_|refine eV Z Z (zB Z Z) ?_)|(refine at_K ?_;first|refine K_then ?_)|(refine at_E ?_;first|refine E_seq ?_|refine E_ret ?_|refine E_dq mixedOk (by kernel_rfl) Z ?_)|(refine at_RQ ?_;first|refine yN Z (fun wq xq=>?_)|refine yV Z Z (fun _ _ _=>zA Z Z) ?_|refine yV Z Z (fun _ _ _=>zB Z Z) ?_|refine yV Z Z (fun _ _ _=>zH Z Z) ?_)))
  all_goals (try (exfalso;omega))
  exact ret_1 Z Z ⟨rfl,xX.trans xq⟩
set_option maxHeartbeats 4000000 in
set_option maxRecDepth 8000 in
theorem fits244_any (segs:List Ph) (cs:List Cls) (xs:List Int) (hl:xs.length=cs.length) (v cv xv:Value) (w:World) (hv:Sl w v segs) (gC:Sl w cv cs) (hx:Sl w xv xs):Calls Tryz.prog 244 #[.func (.func 245) #[] #[],.agg #[v,cv],xv] w (Rt fun u w'=>u=.bool (fitsB bandI segs cs xs)∧Ext w w'):=by
  have hy0:=hx
  obtain⟨xa,xc,rfl,_,hm,hp⟩:=hx.sl
  refine calls_E (n:=23) (args:=[.func (.func 245) #[] #[],.agg #[v,cv],.slice xa xs.length xc]) Tryz.func244 rfl Tryz.ntmps244 (by simp) ?_
  have hX:=Ext.refl w
  (repeat' (first|(refine EL_boxA Z Z Z Z (fun bX wX xX hbX rX=>?_);replace hX:=hX.trans xX;replace hy0:=hy0.ext xX;replace hv:=hv.ext xX;replace gC:=gC.ext xX)|(refine at_EL ?_;first|refine eN ?_|refine eV Z Z (zA Z Z) ?_|refine eV Z Z (zB Z Z) ?_|(refine at_call ?_;first|refine eV Z Z (zK Z Z) ?_))|(refine at_K ?_;first|refine K_then ?_)|(refine at_E ?_;first|refine E_seq ?_|refine E_region ?_|refine E_block ?_)))
  refine E_loop (ι:=Nat) (fun i=>[(0,.func (.func 245) #[] #[]),(4,.pointer (some ⟨bX,0,none⟩)),(9,.slice xa xs.length xc),(10,int xs.length),(11,int i)])
    (fun i wr=>i≤xs.length∧Ext wX wr∧∀(j:Nat) (c:Cls) (y:Int),j<i→cs[j]?=some c→xs[j]?=some y→inC bandI segs y c=true) (fun i=>xs.length-i) 0
    ⟨rfl,rfl,rfl,rfl,rfl,trivial⟩ ⟨Nat.zero_le _,Ext.refl _,fun _ _ _ h=>absurd h (by omega)⟩ ?_
  rintro i wr ⟨hi,hxr,hall⟩
  replace hX:=hX.trans hxr;replace hy0:=hy0.ext hxr;replace hv:=hv.ext hxr;replace gC:=gC.ext hxr;replace rX:=rX.ext hxr
  by_cases hlt:i<xs.length
  · obtain⟨b,off,rfl⟩:=hp (by omega)
    obtain⟨y,hyi⟩:∃ y,xs[i]?=some y:=⟨_,List.getElem?_eq_getElem hlt⟩
    obtain⟨c,hci⟩:∃ c,cs[i]?=some c:=⟨_,List.getElem?_eq_getElem (by omega)⟩
    have hcy:=(Go.Pv.int_elem hy0 hyi).one
    have ci:=in245_any segs cs i c hci y v cv wr hv gC
    cases hb:inC bandI segs y c with
    | true=>
      rw [hb] at ci
      (repeat' (first|refine eV Z Z (val_loadA Z Z Z (Row.at (by assumption)) (by rfl)) ?_|refine eV Z Z (val_load Z Z Z (by assumption)) ?_|refine eV Z Z (val_indexAddr (m:=i) Z Z Z (by first|rfl|omega) (by omega)) ?_|(refine EL_call Z Z (entersC (cap:=[]) Z Z Z en245) ci (fun vC wC hC=>?_);obtain⟨rfl,xC⟩:=hC;replace hX:=hX.trans xC;replace hxr:=hxr.trans xC)|(refine at_EL ?_;first|refine eN ?_|refine eV Z Z (zA Z Z) ?_|refine eV Z Z (zB Z Z) ?_|(refine at_bin ?_;first|refine eD Z Z (zL Z Z Z) (fun hh=>?_) (fun hh=>?_)|refine eV Z Z (zU Z Z Z (by omega) (by omega)) ?_)|refine eV Z Z (zE Z Z) ?_)|(refine at_K ?_;first|refine K_then ?_|refine K_in ?_|refine K_then_exit ?_|refine K_in_exit ?_)|(refine at_E ?_;first|refine E_seq ?_|refine E_region ?_|refine E_cond_t Z ?_|refine E_cond_f Z ?_|refine E_block ?_|refine E_skip ?_|refine E_ret ?_|refine E_exit ?_)))
      all_goals (try (exfalso;omega))
      refine K_rnd (i+1) ⟨rfl,rfl,rfl,rfl,rfl,trivial⟩ ⟨by omega,hxr,fun j c' y' hj hc' hy'=>?_⟩ (by omega)
      by_cases e:j=i
      · subst e;rw [hyi] at hy';rw [hci] at hc';cases hy';cases hc';exact hb
      · exact hall j c' y' (by omega) hc' hy'
    | false=>
      rw [hb] at ci
      rw [fits_no hci hyi hb]
      (repeat' (first|refine eV Z Z (val_loadA Z Z Z (Row.at (by assumption)) (by rfl)) ?_|refine eV Z Z (val_load Z Z Z (by assumption)) ?_|refine eV Z Z (val_indexAddr (m:=i) Z Z Z (by first|rfl|omega) (by omega)) ?_|(refine EL_call Z Z (entersC (cap:=[]) Z Z Z en245) ci (fun vC wC hC=>?_);obtain⟨rfl,xC⟩:=hC;replace hX:=hX.trans xC;replace hxr:=hxr.trans xC)|(refine at_EL ?_;first|refine eN ?_|refine eV Z Z (zA Z Z) ?_|refine eV Z Z (zB Z Z) ?_|(refine at_bin ?_;first|refine eD Z Z (zL Z Z Z) (fun hh=>?_) (fun hh=>?_))|refine eV Z Z (zE Z Z) ?_)|(refine at_K ?_;first|refine K_then ?_|refine K_then_ret ?_|refine K_then_exit ?_|refine K_in_ret ?_|refine K_in_exit ?_)|(refine at_E ?_;first|refine E_seq ?_|refine E_region ?_|refine E_cond_t Z ?_|refine E_cond_f Z ?_|refine E_block ?_|refine E_skip ?_|refine E_ret ?_|refine E_exit ?_)))
      all_goals (try (exfalso;omega))
      exact ret_1 Z Z ⟨rfl,hX⟩
  · rw [fits_yes (fun j c y hc' hy'=>hall j c y (by have:=(List.getElem?_eq_some_iff.1 hy').1;omega) hc' hy')]
    (repeat' (first|(refine at_EL ?_;first|refine eN ?_|refine eV Z Z (zA Z Z) ?_|refine eV Z Z (zB Z Z) ?_|(refine at_bin ?_;first|refine eD Z Z (zL Z Z Z) (fun hh=>?_) (fun hh=>?_)))|(refine at_K ?_;first|refine K_then ?_|refine K_then_exit ?_|refine K_in_exit ?_)|(refine at_E ?_;first|refine E_seq ?_|refine E_region ?_|refine E_cond_t Z ?_|refine E_cond_f Z ?_|refine E_block ?_|refine E_skip ?_|refine E_ret ?_|refine E_exit ?_)))
    all_goals (try (exfalso;omega))
    exact ret_1 Z Z ⟨rfl,hX⟩
end Go.Proofs.YtjicdgejhkgpgaaGreatDoor
namespace Go.Proofs.YtjicdgejhkgpgaaGreatDoor
open Go.RowKit Go.En Go.Pv
attribute [local irreducible] E EL K Val Enters Rt Calls bodyPost Code.wp RQ
set_option maxHeartbeats 8000000 in
set_option maxRecDepth 8000 in
theorem site234_any (segs:List Ph) (v:Value) (r:Rul) (fv tv lv rv:Value) (ws:List Int) (wv:Value) (i:Nat) (w:World) (hi:i<ws.length) (hv:Sl w v segs) (hr:RulAt w r fv tv lv rv) (hw:Sl w wv ws) (hok:RulOK r) (hl:ws.length≤1000) :
    Calls Tryz.prog 234 #[.agg #[v],.agg #[fv,tv,lv,rv,.bool r.beg,.bool r.fin],wv,int i] w (Rt fun u w'=>u=.bool (siteB bandI segs r ws i)∧Ext w w'):=by
  have hw0:=hw
  obtain⟨hrf,hrt,hrl,hrr⟩:=hr
  obtain⟨la,lc,rfl,_,_,_⟩:=hrl.sl
  obtain⟨ra,rc,rfl,_,_,_⟩:=hrr.sl
  obtain⟨wa,wc,rfl,hwl,_,hp⟩:=hw.sl
  obtain⟨b,off,rfl⟩:=hp (by omega)
  have h1:=hok.left
  have h2:=hok.right
  obtain⟨x,hxi⟩:∃ x,ws[i]?=some x:=⟨_,List.getElem?_eq_getElem hi⟩
  refine calls_E (n:=79) (args:=[.agg #[v],.agg #[fv,tv,.slice la r.left.length lc,.slice ra r.right.length rc,.bool r.beg,.bool r.fin],.slice (some ⟨b,off,none⟩) ws.length wc,int i]) Tryz.func234 rfl Tryz.ntmps234 (by simp) ?_
  refine E_seq ?_
  refine E_region ?_
  refine EL_boxA Z Z Z Z (fun bV wV xV hbV rV=>?_)
  refine EL_boxA Z Z Z Z (fun bR wR xR hbR rR=>?_)
  replace rV:=rV.ext xR
  have hX:=xV.trans xR
  replace hv:=hv.ext hX;replace hrf:=hrf.ext hX;replace hrl:=hrl.ext hX;replace hrr:=hrr.ext hX;replace hw0:=hw0.ext hX
  have hcx:=(Go.Pv.int_elem hw0 hxi).one
  obtain⟨bm,hbm⟩:∃ bm,decide (x∈r.frm)=bm:=⟨_,rfl⟩
  have ch:=fun wz hz=>has_any r.frm x fv wz hz
  rw [hbm] at ch
  obtain⟨bg,hbg⟩:∃ bg,r.beg=bg:=⟨_,rfl⟩
  obtain⟨fn,hfn⟩:∃ fn,r.fin=fn:=⟨_,rfl⟩
  rw [hbg,hfn] at rR
  have fin:bm=true→r.left.length≤i→i+1+r.right.length≤ws.length→(bg=true→i=r.left.length)→(fn=true→i+1+r.right.length=ws.length)→x∈r.frm∧siteC r ws.length i:=fun q1 q2 q3 q4 q5=>by
    rw [q1,decide_eq_true_eq] at hbm
    exact⟨hbm,q2,q3,by rw [hbg];exact q4,by rw [hfn];exact q5⟩
  have hno:(bm=false∨¬ (r.left.length≤i∧i+1+r.right.length≤ws.length∧(bg=true→i=r.left.length)∧(fn=true→i+1+r.right.length=ws.length)))→siteB bandI segs r ws i=false:=fun h=>by
    rcases h with h|h
    · rw [h,decide_eq_false_iff_not] at hbm
      exact site_no_mem hxi hbm
    · refine site_no hxi (fun hs=>h ?_)
      unfold siteC at hs
      rw [hbg,hfn] at hs
      exact hs
  clear hbm
  (repeat' ((fail_if_success (refine E_seq (x:=(Code.region 2 _ _)) ?_));first|(refine yN Z (fun wq xq=>?_);replace hX:=hX.trans xq;replace rR:=rR.ext xq;replace rV:=rV.ext xq;replace hv:=hv.ext xq;replace hrf:=hrf.ext xq;replace hrl:=hrl.ext xq;replace hrr:=hrr.ext xq;replace hw0:=hw0.ext xq;replace hcx:=Ext.cell xq hcx)|refine yV Z Z (fun wq _ xq=>val_load Z Z Z ((Row.ext (by assumption) xq).cellAt (by rfl))) ?_|(refine at_EL ?_;first|refine eN ?_|refine eV Z Z (zB Z Z) ?_)|(refine at_K ?_;first|refine K_then ?_)|(refine at_E ?_;first|refine E_seq ?_|refine E_dq mixedOk (by kernel_rfl) Z ?_)|(refine at_RQ ?_;first|refine yV Z Z (fun _ _ _=>zA Z Z) ?_|refine yV Z Z (fun _ _ _=>zB Z Z) ?_|(refine at_binR ?_;first|refine yV Z Z (fun _ _ _=>zU Z Z Z (by omega) (by omega)) ?_|refine yV Z Z (fun _ _ _=>zV Z Z Z (by omega) (by omega)) ?_)|(refine at_callR ?_;first|refine yV Z Z (fun _ _ _=>zK Z Z) ?_)|refine yV Z Z (fun _ _ _=>zH Z Z) ?_)))
  all_goals (try (exfalso;omega))
  refine E.sub (M:=[(2,.slice (some ⟨b,off,none⟩) ws.length wc),(3,int i),(4,.pointer (some ⟨bV,0,none⟩)),(5,.pointer (some ⟨bR,0,none⟩)),(9,int ((i:Int)-r.left.length)),(10,int ((i:Int)+1+r.right.length))]) ⟨rfl,rfl,rfl,rfl,rfl,rfl,trivial⟩ ?_
  cases bm
  · rw [hno (.inl rfl)]
    (repeat' (first|(refine yN Z (fun wq xq=>?_);replace hX:=hX.trans xq)|refine yV Z Z (fun wq _ xq=>val_load Z Z Z ((Row.ext (by assumption) xq).cellAt (by rfl))) ?_|refine yV Z Z (fun wq _ xq=>val_load Z Z Z (Ext.cell xq (by assumption))) ?_|refine yV Z Z (fun _ _ _=>val_indexAddr (m:=i) Z Z Z (by first|rfl|omega) (by omega)) ?_|refine RQ_call Z Z (fun _ _ _=>entersF Z Z en85) (fun wq xz=>ch wq (hrf.ext xz)) ?_|(refine at_EL ?_;first|refine eN ?_|refine eV Z Z (zB Z Z) ?_)|(refine at_K ?_;first|refine K_then ?_|refine K_then_ret ?_)|(refine at_E ?_;first|refine E_seq ?_|refine E_region ?_|refine E_cond_t Z ?_|refine E_ret ?_|refine E_dq mixedOk (by kernel_rfl) Z ?_)|(refine at_RQ ?_;first|refine yO Z Z ?_|refine yV Z Z (fun _ _ _=>zA Z Z) ?_|refine yV Z Z (fun _ _ _=>zC Z Z Z) ?_|refine yV Z Z (fun _ _ _=>zE Z Z) ?_|refine yV Z Z (fun _ _ _=>zH Z Z) ?_)))
    all_goals (try (exfalso;omega))
    all_goals exact ret_1 Z Z ⟨rfl,hX⟩
  cases bg
  all_goals (cases fn)
  all_goals (repeat' ((fail_if_success (refine E_seq (x:=(Code.region 4 _ _)) ?_));first|(refine yN Z (fun wq xq=>?_);replace hX:=hX.trans xq;replace rR:=rR.ext xq;replace rV:=rV.ext xq;replace hv:=hv.ext xq;replace hrf:=hrf.ext xq;replace hrl:=hrl.ext xq;replace hrr:=hrr.ext xq;replace hw0:=hw0.ext xq)|refine yV Z Z (fun wq _ xq=>val_load Z Z Z ((Row.ext (by assumption) xq).cellAt (by rfl))) ?_|refine yV Z Z (fun wq _ xq=>val_load Z Z Z (Ext.cell xq (by assumption))) ?_|refine yV Z Z (fun _ _ _=>val_indexAddr (m:=i) Z Z Z (by first|rfl|omega) (by omega)) ?_|refine RQ_call Z Z (fun _ _ _=>entersF Z Z en85) (fun wq xz=>ch wq (hrf.ext xz)) ?_|(refine at_EL ?_;first|refine eN ?_|refine eV Z Z (zB Z Z) ?_)|(refine at_K ?_;first|refine K_then ?_|refine K_then_ret ?_)|(refine at_E ?_;first|refine E_seq ?_|refine E_region ?_|refine E_cond_t Z ?_|refine E_cond_f Z ?_|refine E_skip ?_|refine E_ret ?_|refine E_dq mixedOk (by kernel_rfl) Z ?_)|(refine at_RQ ?_;first|refine yO Z Z ?_|refine yV Z Z (fun _ _ _=>zA Z Z) ?_|(refine at_binR ?_;first|refine yD Z Z (fun _ _ _=>zL Z Z Z) (fun hh=>?_) (fun hh=>?_)|refine yD Z Z (fun _ _ _=>zO Z Z Z) (fun hh=>?_) (fun hh=>?_))|(refine at_callR ?_;first|refine yV Z Z (fun _ _ _=>zK Z Z) ?_)|refine yV Z Z (fun _ _ _=>zC Z Z Z) ?_|refine yV Z Z (fun _ _ _=>zD Z Z Z) ?_|refine yV Z Z (fun _ _ _=>zE Z Z) ?_|refine yV Z Z (fun _ _ _=>zH Z Z) ?_)))
  all_goals (try (exfalso;omega))
  all_goals (first
    | (rw [hno (.inr (by omega))];exact ret_1 Z Z ⟨rfl,hX⟩)
    | (rw [hno (.inr (fun h=>by have:=h.2.2.1 rfl;omega))];exact ret_1 Z Z ⟨rfl,hX⟩)
    | (rw [hno (.inr (fun h=>by have:=h.2.2.2 rfl;omega))];exact ret_1 Z Z ⟨rfl,hX⟩)
    | skip)
  all_goals
    obtain⟨hmem,hs1,hs2,hs3,hs4⟩:=fin rfl (by omega) (by omega) (fun h=>by first|omega|exact Bool.noConfusion h) (fun h=>by first|omega|exact Bool.noConfusion h)
    rw [site_yes hxi hmem ⟨hs1,hs2,hs3,hs4⟩]
    have m1:SlG Tt wq (.slice (some (if wc=i-r.left.length then ⟨b,off,none⟩ else ⟨b,off+(i-r.left.length)*1,none⟩)) (i-(i-r.left.length)) (wc-(i-r.left.length))) ((ws.drop (i-r.left.length)).take r.left.length):=by
      have:=SlG.mid hw0 (a:=i-r.left.length) (b:=i) (by omega) (by omega)
      rwa [show i-(i-r.left.length)=r.left.length by omega] at this ⊢
    have m2:SlG Tt wq (.slice (some (if wc=i+1 then ⟨b,off,none⟩ else ⟨b,off+(i+1)*1,none⟩)) (i+1+r.right.length-(i+1)) (wc-(i+1))) ((ws.drop (i+1)).take r.right.length):=by
      have:=SlG.mid hw0 (a:=i+1) (b:=i+1+r.right.length) (by omega) (by omega)
      rwa [show i+1+r.right.length-(i+1)=r.right.length by omega] at this ⊢
    have c1:=fun wz hz1 hz2 hz3=>fits244_any segs r.left ((ws.drop (i-r.left.length)).take r.left.length) (by rw [List.length_take,List.length_drop];omega) v (.slice la r.left.length lc) (.slice (some (if wc=i-r.left.length then ⟨b,off,none⟩ else ⟨b,off+(i-r.left.length)*1,none⟩)) (i-(i-r.left.length)) (wc-(i-r.left.length))) wz hz1 hz2 hz3
    have c2:=fun wz hz1 hz2 hz3=>fits244_any segs r.right ((ws.drop (i+1)).take r.right.length) (by rw [List.length_take,List.length_drop];omega) v (.slice ra r.right.length rc) (.slice (some (if wc=i+1 then ⟨b,off,none⟩ else ⟨b,off+(i+1)*1,none⟩)) (i+1+r.right.length-(i+1)) (wc-(i+1))) wz hz1 hz2 hz3
    obtain⟨B1,hB1⟩:∃ B1,fitsB bandI segs r.left ((ws.drop (i-r.left.length)).take r.left.length)=B1:=⟨_,rfl⟩
    obtain⟨B2,hB2⟩:∃ B2,fitsB bandI segs r.right ((ws.drop (i+1)).take r.right.length)=B2:=⟨_,rfl⟩
    rw [hB1,hB2]
    rw [hB1] at c1
    rw [hB2] at c2
    obtain⟨A1,hA1⟩:∃ A1,A1=(if wc=i-r.left.length then (⟨b,off,none⟩:Addr) else ⟨b,off+(i-r.left.length)*1,none⟩):=⟨_,rfl⟩
    obtain⟨A2,hA2⟩:∃ A2,A2=(if wc=i+1 then (⟨b,off,none⟩:Addr) else ⟨b,off+(i+1)*1,none⟩):=⟨_,rfl⟩
    rw [← hA1] at c1 m1
    rw [← hA2] at c2 m2
    clear hno fin ch hcx hB1 hB2
    have v1:∀(L:List (Nat × Value)) (wz:World) (o:Oper) (x p q:Operand) (t:TypeId),o.op=.slice 32 x (some p) (some q) none→ev L x=some (.slice (some ⟨b,off,none⟩) ws.length wc)→ev L p=some (int ((i:Int)-r.left.length))→ev L q=some (int i)→Val Tryz.prog L wz o (.slice (some A1) (i-(i-r.left.length)) (wc-(i-r.left.length))):=fun L wz o x p q t e1 e2 e3 e4=>by
      rw [hA1]
      exact val_slice_sl (a:=i-r.left.length) (b:=i) e1 e2 e3 e4 (by omega) Z (by omega) (by omega)
    have v2:∀(L:List (Nat × Value)) (wz:World) (o:Oper) (x p q:Operand) (t:TypeId),o.op=.slice 32 x (some p) (some q) none→ev L x=some (.slice (some ⟨b,off,none⟩) ws.length wc)→ev L p=some (int ((i:Int)+1))→ev L q=some (int ((i:Int)+1+r.right.length))→Val Tryz.prog L wz o (.slice (some A2) (i+1+r.right.length-(i+1)) (wc-(i+1))):=fun L wz o x p q t e1 e2 e3 e4=>by
      rw [hA2]
      exact val_slice_sl (a:=i+1) (b:=i+1+r.right.length) e1 e2 e3 e4 (by omega) (by omega) (by omega) (by omega)
    refine E_seq ?_
    refine E.sub (M:=[(2,.slice (some ⟨b,off,none⟩) ws.length wc),(3,int i),(4,.pointer (some ⟨bV,0,none⟩)),(5,.pointer (some ⟨bR,0,none⟩)),(9,int ((i:Int)-r.left.length)),(10,int ((i:Int)+1+r.right.length))]) ⟨rfl,rfl,rfl,rfl,rfl,rfl,trivial⟩ ?_
    cases B1
    all_goals (repeat' (first|(refine yN Z (fun wq xq=>?_);replace hX:=hX.trans xq)|refine yV Z Z (fun wq _ xq=>val_load Z Z Z ((Row.ext (by assumption) xq).cellAt (by rfl))) ?_|refine yV Z Z (fun wq _ xq=>val_loadA Z Z Z (Row.ext (by assumption) xq).at (by rfl)) ?_|refine yV Z Z (fun _ _ _=>val_build (vs:=[(0,.agg #[v]),(1,.slice la r.left.length lc)]) [v,.slice la r.left.length lc] rfl rfl rfl) ?_|refine yV Z Z (fun _ _ _=>val_build (vs:=[(0,.agg #[v]),(1,.slice ra r.right.length rc)]) [v,.slice ra r.right.length rc] rfl rfl rfl) ?_|refine yV Z Z (fun _ _ _=>v1 _ _ _ _ _ _ 0 rfl rfl rfl rfl) ?_|refine yV Z Z (fun _ _ _=>v2 _ _ _ _ _ _ 0 rfl rfl rfl rfl) ?_|refine RQ_call Z Z (fun _ _ _=>entersF Z Z en244) (fun wq xz=>c1 wq (hv.ext xz) (hrl.ext xz) (m1.ext xz)) ?_|refine RQ_call Z Z (fun _ _ _=>entersF Z Z en244) (fun wq xz=>c2 wq (hv.ext xz) (hrr.ext xz) (m2.ext xz)) ?_|(refine at_EL ?_;first|refine eN ?_)|(refine at_K ?_;first|refine K_then ?_)|(refine at_E ?_;first|refine E_ret ?_|refine E_dq mixedOk (by kernel_rfl) Z ?_)|(refine at_RQ ?_;first|refine yO Z Z ?_|refine yV Z Z (fun _ _ _=>zA Z Z) ?_|refine yV Z Z (fun _ _ _=>zB Z Z) ?_|(refine at_binR ?_;first|refine yV Z Z (fun _ _ _=>zU Z Z Z (by omega) (by omega)) ?_)|refine yV Z Z (fun _ _ _=>zC Z Z Z) ?_|refine yV Z Z (fun _ _ _=>zD Z Z Z) ?_|refine yV Z Z (fun _ _ _=>zH Z Z) ?_)))
    all_goals (try (exfalso;omega))
    all_goals exact ret_1 Z Z ⟨rfl,hX⟩
end Go.Proofs.YtjicdgejhkgpgaaGreatDoor
