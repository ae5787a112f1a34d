/-
  Own text of the proof.
-/
import Derived.Test.YtjicdgejhkgpgaaGreatDoorYu
import Derived.Test.YtjicdgejhkgpgaaGreatDoorYg
import Derived.Test.YtjicdgejhkgpgaaGreatDoorYj
import Derived.Test.YtjicdgejhkgpgaaGreatDoorYh
import Derived.Test.YtjicdgejhkgpgaaGreatDoorYe
import Derived.MapKept
set_option linter.all false
set_option maxHeartbeats 8000000
set_option maxRecDepth 8000
namespace Go.Proofs.YtjicdgejhkgpgaaGreatDoor
section
open Go.RowKit Go.En Go.Pv
attribute [local irreducible] E EL K Val Enters Rt Calls bodyPost Code.wp RQ
theorem B3q (segs:List Ph) (v:Value) (r:Rul) (fv tv lv rv:Value) (ws:List Int) (wv:Value) (i:Nat) (w:World) (hi:i<ws.length) (hv:Sl w v segs) (hr:RulAt w r fv tv lv rv) (hw:Sl w wv ws) (hok:RulOK r) (hl:ws.length≤1000) :
    Calls Tryz.prog 234 #[.agg #[v],.agg #[fv,tv,lv,rv,.bool r.beg,.bool r.fin],wv,int i] w (Rt fun u w'=>u=.bool (Q5 D1 segs r ws i)∧Ext w w'):=by
  have hw0:=hw
  obtain⟨hrf,hrt,hrl,hrr⟩:=hr
  obtain⟨la,lc,rfl,_,_,_⟩:=hrl.sl
  obtain⟨ra,rc,rfl,_,_,_⟩:=hrr.sl
  obtain⟨wa,wc,rfl,hwl,_,hp⟩:=hw.sl
  obtain⟨b,off,rfl⟩:=hp (by omega)
  have h1:=hok.left
  have h2:=hok.right
  obtain⟨x,hxi⟩:∃ x,ws[i]?=some x:=⟨_,List.getElem?_eq_getElem hi⟩
  refine A6 (n:=79) (args:=[.agg #[v],.agg #[fv,tv,.slice la r.left.length lc,.slice ra r.right.length rc,.bool r.beg,.bool r.fin],.slice (some ⟨b,off,none⟩) ws.length wc,int i]) Tryz.func234 rfl Tryz.ntmps234 (by simp) ?_
  refine B4 ?_
  refine A9 ?_
  refine C2 Z Z Z Z (fun bV wV xV hbV rV=>?_)
  refine C2 Z Z Z Z (fun bR wR xR hbR rR=>?_)
  replace rV:=rV.ext xR
  have hX:=xV.trans xR
  replace hv:=hv.ext hX;replace hrf:=hrf.ext hX;replace hrl:=hrl.ext hX;replace hrr:=hrr.ext hX;replace hw0:=hw0.ext hX
  have hcx:=(Go.Pv.int_elem hw0 hxi).one
  obtain⟨bm,hbm⟩:∃ bm,decide (x∈r.frm)=bm:=⟨_,rfl⟩
  have ch:=fun wz hz=>C0j r.frm x fv wz hz
  rw [hbm] at ch
  obtain⟨bg,hbg⟩:∃ bg,r.beg=bg:=⟨_,rfl⟩
  obtain⟨fn,hfn⟩:∃ fn,r.fin=fn:=⟨_,rfl⟩
  rw [hbg,hfn] at rR
  have fin:bm=true→r.left.length≤i→i+1+r.right.length≤ws.length→(bg=true→i=r.left.length)→(fn=true→i+1+r.right.length=ws.length)→x∈r.frm∧B9r r ws.length i:=fun q1 q2 q3 q4 q5=>by
    rw [q1,decide_eq_true_eq] at hbm
    exact⟨hbm,q2,q3,by rw [hbg];exact q4,by rw [hfn];exact q5⟩
  have hno:(bm=false∨¬ (r.left.length≤i∧i+1+r.right.length≤ws.length∧(bg=true→i=r.left.length)∧(fn=true→i+1+r.right.length=ws.length)))→Q5 D1 segs r ws i=false:=fun h=>by
    rcases h with h|h
    · rw [h,decide_eq_false_iff_not] at hbm
      exact A4k hxi hbm
    · refine site_no hxi (fun hs=>h ?_)
      unfold B9r at hs
      rw [hbg,hfn] at hs
      exact hs
  clear hbm
  (repeat' ((fail_if_success (refine B4 (x:=(Code.region 2 _ _)) ?_));first|(refine yN Z (fun wq xq=>?_);replace hX:=hX.trans xq;replace rR:=rR.ext xq;replace rV:=rV.ext xq;replace hv:=hv.ext xq;replace hrf:=hrf.ext xq;replace hrl:=hrl.ext xq;replace hrr:=hrr.ext xq;replace hw0:=hw0.ext xq;replace hcx:=Ext.cell xq hcx)|refine Sy ?_|refine yqY ?_|refine yqZ ?_|refine E_dq B5 (by kernel_rfl) Z ?_))
  all_goals (try (exfalso;omega))
  refine E.sub (M:=[(2,.slice (some ⟨b,off,none⟩) ws.length wc),(3,int i),(4,.pointer (some ⟨bV,0,none⟩)),(5,.pointer (some ⟨bR,0,none⟩)),(9,int ((i:Int)-r.left.length)),(10,int ((i:Int)+1+r.right.length))]) ⟨rfl,rfl,rfl,rfl,rfl,rfl,trivial⟩ ?_
  cases bm
  · rw [hno (.inl rfl)]
    (repeat' (first|(refine yN Z (fun wq xq=>?_);replace hX:=hX.trans xq)|refine yV Z Z (fun _ _ _=>A0 (m:=i) Z Z Z (by first|rfl|omega) (by omega)) ?_|refine C4 Z Z (fun _ _ _=>A5 Z Z en85) (fun wq xz=>ch wq (hrf.ext xz)) ?_|refine Sy ?_|refine yqY ?_|refine yqZ ?_|refine E_dq B5 (by kernel_rfl) Z ?_|refine yO Z Z ?_))
    all_goals (try (exfalso;omega))
    all_goals exact A4 Z Z ⟨rfl,hX⟩
  cases bg
  all_goals (cases fn)
  all_goals (repeat' ((fail_if_success (refine B4 (x:=(Code.region 4 _ _)) ?_));first|(refine yN Z (fun wq xq=>?_);replace hX:=hX.trans xq;replace rR:=rR.ext xq;replace rV:=rV.ext xq;replace hv:=hv.ext xq;replace hrf:=hrf.ext xq;replace hrl:=hrl.ext xq;replace hrr:=hrr.ext xq;replace hw0:=hw0.ext xq)|refine yV Z Z (fun _ _ _=>A0 (m:=i) Z Z Z (by first|rfl|omega) (by omega)) ?_|refine C4 Z Z (fun _ _ _=>A5 Z Z en85) (fun wq xz=>ch wq (hrf.ext xz)) ?_|refine Sy ?_|refine yqY ?_|refine yqZ ?_|refine yqX (fun hh=>?_) fun hh=>?_|refine E_dq B5 (by kernel_rfl) Z ?_|refine yO Z Z ?_))
  all_goals (try (exfalso;omega))
  all_goals (first
    | (rw [hno (.inr (by omega))];exact A4 Z Z ⟨rfl,hX⟩)
    | (rw [hno (.inr (fun h=>by have:=h.2.2.1 rfl;omega))];exact A4 Z Z ⟨rfl,hX⟩)
    | (rw [hno (.inr (fun h=>by have:=h.2.2.2 rfl;omega))];exact A4 Z Z ⟨rfl,hX⟩)
    | skip)
  all_goals
    obtain⟨hmem,hs1,hs2,hs3,hs4⟩:=fin rfl (by omega) (by omega) (fun h=>by first|omega|exact Bool.noConfusion h) (fun h=>by first|omega|exact Bool.noConfusion h)
    rw [C4b hxi hmem ⟨hs1,hs2,hs3,hs4⟩]
    have m1:SlG Tt wq (.slice (some (if wc=i-r.left.length then ⟨b,off,none⟩ else ⟨b,off+(i-r.left.length)*1,none⟩)) (i-(i-r.left.length)) (wc-(i-r.left.length))) ((ws.drop (i-r.left.length)).take r.left.length):=by
      have:=SlG.mid hw0 (a:=i-r.left.length) (b:=i) (by omega) (by omega)
      rwa [show i-(i-r.left.length)=r.left.length by omega] at this ⊢
    have m2:SlG Tt wq (.slice (some (if wc=i+1 then ⟨b,off,none⟩ else ⟨b,off+(i+1)*1,none⟩)) (i+1+r.right.length-(i+1)) (wc-(i+1))) ((ws.drop (i+1)).take r.right.length):=by
      have:=SlG.mid hw0 (a:=i+1) (b:=i+1+r.right.length) (by omega) (by omega)
      rwa [show i+1+r.right.length-(i+1)=r.right.length by omega] at this ⊢
    have c1:=fun wz hz1 hz2 hz3=>A4x segs r.left ((ws.drop (i-r.left.length)).take r.left.length) (by rw [List.length_take,List.length_drop];omega) v (.slice la r.left.length lc) (.slice (some (if wc=i-r.left.length then ⟨b,off,none⟩ else ⟨b,off+(i-r.left.length)*1,none⟩)) (i-(i-r.left.length)) (wc-(i-r.left.length))) wz hz1 hz2 hz3
    have c2:=fun wz hz1 hz2 hz3=>A4x segs r.right ((ws.drop (i+1)).take r.right.length) (by rw [List.length_take,List.length_drop];omega) v (.slice ra r.right.length rc) (.slice (some (if wc=i+1 then ⟨b,off,none⟩ else ⟨b,off+(i+1)*1,none⟩)) (i+1+r.right.length-(i+1)) (wc-(i+1))) wz hz1 hz2 hz3
    obtain⟨B1,hB1⟩:∃ B1,A0q D1 segs r.left ((ws.drop (i-r.left.length)).take r.left.length)=B1:=⟨_,rfl⟩
    obtain⟨B2,hB2⟩:∃ B2,A0q D1 segs r.right ((ws.drop (i+1)).take r.right.length)=B2:=⟨_,rfl⟩
    rw [hB1,hB2]
    rw [hB1] at c1
    rw [hB2] at c2
    obtain⟨A1,hA1⟩:∃ A1,A1=(if wc=i-r.left.length then (⟨b,off,none⟩:Addr) else ⟨b,off+(i-r.left.length)*1,none⟩):=⟨_,rfl⟩
    obtain⟨A2,hA2⟩:∃ A2,A2=(if wc=i+1 then (⟨b,off,none⟩:Addr) else ⟨b,off+(i+1)*1,none⟩):=⟨_,rfl⟩
    rw [← hA1] at c1 m1
    rw [← hA2] at c2 m2
    clear hno fin ch hcx hB1 hB2
    have v1:∀(L:List (Nat × Value)) (wz:World) (o:Oper) (x p q:Operand) (t:TypeId),o.op=.slice 32 x (some p) (some q) none→ev L x=some (.slice (some ⟨b,off,none⟩) ws.length wc)→ev L p=some (int ((i:Int)-r.left.length))→ev L q=some (int i)→Val Tryz.prog L wz o (.slice (some A1) (i-(i-r.left.length)) (wc-(i-r.left.length))):=fun L wz o x p q t e1 e2 e3 e4=>by
      rw [hA1]
      exact A2h (a:=i-r.left.length) (b:=i) e1 e2 e3 e4 (by omega) Z (by omega) (by omega)
    have v2:∀(L:List (Nat × Value)) (wz:World) (o:Oper) (x p q:Operand) (t:TypeId),o.op=.slice 32 x (some p) (some q) none→ev L x=some (.slice (some ⟨b,off,none⟩) ws.length wc)→ev L p=some (int ((i:Int)+1))→ev L q=some (int ((i:Int)+1+r.right.length))→Val Tryz.prog L wz o (.slice (some A2) (i+1+r.right.length-(i+1)) (wc-(i+1))):=fun L wz o x p q t e1 e2 e3 e4=>by
      rw [hA2]
      exact A2h (a:=i+1) (b:=i+1+r.right.length) e1 e2 e3 e4 (by omega) (by omega) (by omega) (by omega)
    refine B4 ?_
    refine E.sub (M:=[(2,.slice (some ⟨b,off,none⟩) ws.length wc),(3,int i),(4,.pointer (some ⟨bV,0,none⟩)),(5,.pointer (some ⟨bR,0,none⟩)),(9,int ((i:Int)-r.left.length)),(10,int ((i:Int)+1+r.right.length))]) ⟨rfl,rfl,rfl,rfl,rfl,rfl,trivial⟩ ?_
    cases B1
    all_goals (repeat' (first|(refine yN Z (fun wq xq=>?_);replace hX:=hX.trans xq)|refine yV Z Z (fun _ _ _=>B6 (vs:=[(0,.agg #[v]),(1,.slice la r.left.length lc)]) [v,.slice la r.left.length lc] rfl rfl rfl) ?_|refine yV Z Z (fun _ _ _=>B6 (vs:=[(0,.agg #[v]),(1,.slice ra r.right.length rc)]) [v,.slice ra r.right.length rc] rfl rfl rfl) ?_|refine yV Z Z (fun _ _ _=>v1 _ _ _ _ _ _ 0 rfl rfl rfl rfl) ?_|refine yV Z Z (fun _ _ _=>v2 _ _ _ _ _ _ 0 rfl rfl rfl rfl) ?_|refine C4 Z Z (fun _ _ _=>A5 Z Z en244) (fun wq xz=>c1 wq (hv.ext xz) (hrl.ext xz) (m1.ext xz)) ?_|refine C4 Z Z (fun _ _ _=>A5 Z Z en244) (fun wq xz=>c2 wq (hv.ext xz) (hrr.ext xz) (m2.ext xz)) ?_|refine Sy ?_|refine yqY ?_|refine yqZ ?_|refine E_dq B5 (by kernel_rfl) Z ?_|refine yO Z Z ?_))
    all_goals (try (exfalso;omega))
    all_goals exact A4 Z Z ⟨rfl,hX⟩
end
section
open Go.RowKit Go.En Go.Pv
def idxI (l:List Int) (x:Int):Int:=match l.findIdx? (fun y=>y==x) with|some k=>(k:Int)|none => -1
theorem C2h {l:List Int} {x y:Int} {i:Nat} (hy:l[i]?=some y) (he:y=x) (hall:∀(j:Nat) (z:Int),j<i→l[j]?=some z→z≠x):idxI l x=(i:Int):=by
  unfold idxI
  obtain⟨hl,he2⟩:=List.getElem?_eq_some_iff.1 hy
  have:l.findIdx? (fun y=>y==x)=some i:=by
    rw [List.findIdx?_eq_some_iff_getElem]
    refine⟨hl,by rw [he2];simpa using he,fun j hj=>?_⟩
    have:=hall j _ hj (List.getElem?_eq_getElem (by omega))
    simpa using this
  rw [this]
theorem B4v {l:List Int} {x:Int} (hall:∀(j:Nat) (z:Int),j<l.length→l[j]?=some z→z≠x):idxI l x = -1:=by
  unfold idxI
  have:l.findIdx? (fun y=>y==x)=none:=by
    rw [List.findIdx?_eq_none_iff]
    intro z hz
    obtain⟨j,hj⟩:=List.getElem?_of_mem hz
    have:=hall j z (List.getElem?_eq_some_iff.1 hj).1 hj
    simpa using this
  rw [this]
theorem B4w {l:List Int} {x:Int} (h:x∈l):∃ k:Nat,idxI l x=(k:Int)∧k<l.length∧l.findIdx? (fun y=>y==x)=some k:=by
  unfold idxI
  cases hf:l.findIdx? (fun y=>y==x) with
  | none=>
    rw [List.findIdx?_eq_none_iff] at hf
    have:=hf x h
    simp at this
  | some k=>
    rw [List.findIdx?_eq_some_iff_getElem] at hf
    obtain⟨h1,_⟩:=hf
    exact⟨k,rfl,h1,rfl⟩
attribute [local irreducible] E EL K Val Enters Rt Calls bodyPost Code.wp RQ
theorem A4v (l:List Int) (x:Int) (v:Value) (w:World) (hv:Sl w v l):Calls Tryz.prog 81 #[v,int x] w (Rt fun u w'=>u=int (idxI l x)∧Ext w w'):=by
  have hv0:=hv
  obtain⟨a,cap,rfl,hc,hm,hp⟩:=hv.sl
  refine A6 (n:=19) (args:=[.slice a l.length cap,int x]) Tryz.func81 rfl Tryz.ntmps81 (by simp) ?_
  (repeat' (first|refine Sy ?_))
  refine B0 (ι:=Nat) (fun i=>[(0,.slice a l.length cap),(1,int x),(7,int l.length),(8,int i)])
    (fun i wr=>i≤l.length∧Ext w wr∧∀(j:Nat) (y:Int),j<i→l[j]?=some y→y≠x) (fun i=>l.length-i) 0
    ⟨rfl,rfl,rfl,rfl,trivial⟩ ⟨Nat.zero_le _,Ext.refl _,fun j y hj=>absurd hj (by omega)⟩ ?_
  rintro i wr ⟨hi,hx,hno⟩
  by_cases hlt:i<l.length
  · obtain⟨b,off,rfl⟩:=hp (by omega)
    obtain⟨y,hy1⟩:∃ y,l[i]?=some y:=⟨_,List.getElem?_eq_getElem hlt⟩
    have hcy:=(Go.Pv.int_elem (hv0.ext hx) hy1).one
    (repeat' (first|refine eV Z Z (A0 (m:=i) Z Z Z (by first|rfl|omega) (by omega)) ?_|refine Ly ?_|refine Dy (fun hh=>?_) fun hh=>?_))
    all_goals (try (exfalso;omega))
    · rw [C2h hy1 (by omega) hno]
      exact A4 Z Z ⟨rfl,hx⟩
    · refine B3 (i+1) ⟨rfl,rfl,rfl,rfl,trivial⟩ ⟨by omega,hx,fun j z hj hz=>?_⟩ (by omega)
      by_cases e:j=i
      · subst e;rw [hy1] at hz;cases hz;omega
      · exact hno j z (by omega) hz
  · rw [B4v (fun j y hj hy=>hno j y (by omega) hy)]
    (repeat' (first|refine Sy ?_|refine Dy (fun hh=>?_) fun hh=>?_))
    all_goals (try (exfalso;omega))
    exact A4 Z Z ⟨rfl,hx⟩
theorem B2m (segs:List Ph) (v:Value) (r:Rul) (fv tv lv rv:Value) (ws:List Int) (wv:Value) (w:World) (hv:Sl w v segs) (hr:RulAt w r fv tv lv rv) (hw:Sl w wv ws) (hok:RulOK r) (hl:ws.length≤1000) (hz:∀ x∈ws,x≠0) :
    Calls Tryz.prog 217 #[.agg #[v],.agg #[fv,tv,lv,rv,.bool r.beg,.bool r.fin],wv] w (Rt fun u w'=>Ext w w'∧Sl w' u (A4b D1 segs r ws)):=by
  have hw0:=hw
  have hr0:=hr
  obtain⟨hrf,hrt,hrl,hrr⟩:=hr
  have hf0:=hrf
  have ht0:=hrt
  obtain⟨fa,fc,rfl,_,_,hfp⟩:=hrf.sl
  obtain⟨ta,tc,rfl,_,_,htp⟩:=hrt.sl
  obtain⟨wa,wc,rfl,_,_,hwp⟩:=hw.sl
  refine A6 (n:=38) (args:=[.agg #[v],.agg #[.slice fa r.frm.length fc,.slice ta r.to.length tc,lv,rv,.bool r.beg,.bool r.fin],.slice wa ws.length wc]) Tryz.func217 rfl Tryz.ntmps217 (by simp) ?_
  refine B4 ?_
  refine A9 ?_
  refine C2 Z Z Z Z (fun bV wV xV hbV rV=>?_)
  refine C2 Z Z Z Z (fun bR wR xR hbR rR=>?_)
  replace rV:=rV.ext xR
  have hX:=xV.trans xR
  have hI:At wR bV (0+0) [v]:=At.sub (xs:=[]) (ys:=[v]) (zs:=[]) rV.at
  (repeat' (first|refine Sy ?_))
  refine B0 (ι:=Nat × Value) (fun z=>[(2,.slice wa ws.length wc),(3,.pointer (some ⟨bV,0,none⟩)),(4,.pointer (some ⟨bR,0,none⟩)),(7,z.2),(10,.slice wa ws.length wc),(11,int ws.length),(12,int z.1)])
    (fun z wr=>z.1≤ws.length∧Grow Tt wR 3 (upA segs r ws z.1) z.2 wr) (fun z=>ws.length-z.1) (0,.slice none 0 0)
    ⟨rfl,rfl,rfl,rfl,rfl,rfl,rfl,trivial⟩ ⟨Nat.zero_le _,Grow.none⟩ ?_
  rintro⟨i,ov⟩ wr ⟨hi,hgr⟩
  dsimp only at hi hgr ⊢
  have hx:=hgr.x
  have hXr:=hX.trans hx
  have hol:=B9n segs r ws i
  by_cases hlt:i<ws.length
  · obtain⟨wb,wo,rfl⟩:=hwp (by omega)
    obtain⟨x,hx1⟩:∃ x,ws[i]?=some x:=⟨_,List.getElem?_eq_getElem hlt⟩
    have hx0:=hz x (List.mem_of_getElem? hx1)
    have hone:=oneF_at (segs:=segs) (r:=r) hx1
    have hsucc:=C3s segs r ws i
    have rRr:=rR.ext hx
    have rVr:=rV.ext hx
    have hcx:=(Go.Pv.int_elem (hw0.ext hXr) hx1).one
    have cs:=B3q segs v r _ _ lv rv ws _ i wr hlt (hv.ext hXr) ⟨hf0.ext hXr,ht0.ext hXr,hrl.ext hXr,hrr.ext hXr⟩ (hw0.ext hXr) hok hl
    cases hb:Q5 D1 segs r ws i with
    | false=>
      rw [hb] at cs hone
      simp only [Bool.false_eq_true,if_false] at hone
      rw [if_neg hx0] at hone
      rw [hone] at hsucc
      (repeat' (first|refine eV Z Z (A0 (m:=i) Z Z Z (by first|rfl|omega) (by omega)) ?_|(refine cqC cs en234 fun wC xC=>?_;replace hgr:=hgr.ext xC)|(refine M1 (x:=x) (hgr.ext xS) rS rfl rfl rfl rfl rfl rfl rfl rfl (by omega) (by omega) (fun vK wK hK=>?_))|refine Ly ?_|refine Dy (fun hh=>?_) fun hh=>?_|refine eL Z Z Z Z Z Z Z Z (fun bS wS xS hbS rS=>?_)))
      all_goals (try (exfalso;omega))
      exact B3 (i+1,vK) ⟨rfl,rfl,rfl,rfl,rfl,rfl,rfl,trivial⟩ ⟨by dsimp only;omega,by dsimp only;rw [hsucc];exact hK⟩ (by dsimp only;omega)
    | true=>
      rw [hb] at cs hone
      simp only [if_true] at hone
      have hmx:=C4c hx1 hb
      obtain⟨k,hk,hkl,hkf⟩:=B4w hmx
      have hlen:=hok.len
      obtain⟨y,hy⟩:∃ y,r.to[k]?=some y:=⟨_,List.getElem?_eq_getElem (by omega)⟩
      have hny:newF r x=y:=by unfold newF;rw [hkf];dsimp only;rw [List.getD_eq_getElem?_getD,hy];rfl
      rw [hny] at hone
      obtain⟨tb,tof,rfl⟩:=htp (by omega)
      have hcy:=(Go.Pv.int_elem (ht0.ext hXr) hy).one
      have hfr:=hf0.ext hXr
      have ci:=fun wz hz=>A4v r.frm x (.slice fa r.frm.length fc) wz hz
      rw [hk] at ci
      (repeat' (first|(refine yN Z (fun wq xq=>?_);replace hgr:=hgr.ext xq)|refine eV Z Z (A0 (m:=i) Z Z Z (by first|rfl|omega) (by omega)) ?_|refine yV Z Z (fun _ _ _=>A0 (m:=k) Z Z Z Z (by omega)) ?_|(refine cqC cs en234 fun wC xC=>?_;replace hgr:=hgr.ext xC;replace rRr:=rRr.ext xC;replace hcy:=Ext.cell xC hcy;replace hfr:=hfr.ext xC)|refine C4 Z Z (fun _ _ _=>A5 Z Z en81) (fun wq xz=>ci wq (hfr.ext xz)) ?_|(refine M1 (x:=y) (hgr.ext xS) rS rfl rfl rfl rfl rfl rfl rfl rfl (by omega) (by omega) (fun vK wK hK=>?_))|refine Ly ?_|refine Dy (fun hh=>?_) fun hh=>?_|refine yqY ?_|refine yqZ ?_|refine eL Z Z Z Z Z Z Z Z (fun bS wS xS hbS rS=>?_)|refine E_dq B5 (by kernel_rfl) Z ?_))
      all_goals (try (exfalso;omega))
      · rw [if_pos (by omega)] at hone
        rw [hone] at hsucc
        exact B3 (i+1,ov) ⟨rfl,rfl,rfl,rfl,rfl,rfl,rfl,trivial⟩ ⟨by dsimp only;omega,by dsimp only;rw [hsucc,List.append_nil];exact hgr⟩ (by dsimp only;omega)
      · rw [if_neg (by omega)] at hone
        rw [hone] at hsucc
        exact B3 (i+1,vK) ⟨rfl,rfl,rfl,rfl,rfl,rfl,rfl,trivial⟩ ⟨by dsimp only;omega,by dsimp only;rw [hsucc];exact hK⟩ (by dsimp only;omega)
  · obtain rfl:i=ws.length:=by omega
    (repeat' (first|refine Sy ?_|refine Dy (fun hh=>?_) fun hh=>?_))
    all_goals (try (exfalso;omega))
    exact A4 Z Z ⟨hXr,hgr.sl (fun _ _=>trivial) (by omega)⟩
theorem B7v {segs:List Ph} {rules:List Rul} {ws:List Int} {i:Nat} {r:Rul} (h:rules[i]?=some r):Z5 D1 segs (rules.take (i+1)) ws=A4b D1 segs r (Z5 D1 segs (rules.take i) ws):=by
  obtain⟨h1,h2⟩:=List.getElem?_eq_some_iff.1 h
  unfold Z5
  rw [List.take_succ_eq_append_getElem h1,h2,List.foldl_append];rfl
theorem B9a (segs:List Ph) (r:Rul) (ws:List Int):(A4b D1 segs r ws).length≤ws.length:=B9n segs r ws ws.length
theorem A9s (segs:List Ph):∀(rules:List Rul) (ws:List Int),(Z5 D1 segs rules ws).length≤ws.length
  | [],ws=>Nat.le_refl _
  | r::l,ws=>Nat.le_trans (A9s segs l (A4b D1 segs r ws)) (B9a segs r ws)
theorem A9r {segs:List Ph}:∀ {rules:List Rul} {ws:List Int},(∀ x∈ws,x≠0)→∀ x∈Z5 D1 segs rules ws,x≠0
  | [],_,h=>h
  | _::l,_,_=>A9r (rules:=l) C3d
theorem B4o (segs:List Ph) (v:Value) (rules:List Rul) (rv:Value) (ws:List Int) (wv:Value) (w:World) (hv:Sl w v segs) (hr:Sl w rv rules) (hw:Sl w wv ws) (hok:∀ r∈rules,RulOK r) (hl:ws.length≤1000) (hz:∀ x∈ws,x≠0) :
    Calls Tryz.prog 183 #[.agg #[v],rv,wv] w (Rt fun u w'=>Ext w w'∧Sl w' u (Z5 D1 segs rules ws)):=by
  have hr0:=hr
  obtain⟨ra,rc,rfl,_,_,hp⟩:=hr.sl
  refine A6 (n:=21) (args:=[.agg #[v],.slice ra rules.length rc,wv]) Tryz.func183 rfl Tryz.ntmps183 (by simp) ?_
  refine B4 ?_
  refine A9 ?_
  refine C2 Z Z Z Z (fun bV wV xV hbV rV=>?_)
  have hX:=(Ext.refl w).trans xV
  have hI:At wV bV (0+0) [v]:=At.sub (xs:=[]) (ys:=[v]) (zs:=[]) rV.at
  replace hv:=hv.ext xV;replace hr0:=hr0.ext xV;replace hw:=hw.ext xV
  (repeat' (first|refine Sy ?_))
  refine B0 (ι:=Nat × Value) (fun z=>[(2,z.2),(3,.pointer (some ⟨bV,0,none⟩)),(9,.slice ra rules.length rc),(10,int rules.length),(11,int z.1)])
    (fun z wr=>z.1≤rules.length∧Ext wV wr∧Sl wr z.2 (Z5 D1 segs (rules.take z.1) ws)) (fun z=>rules.length-z.1) (0,wv)
    ⟨rfl,rfl,rfl,rfl,rfl,trivial⟩ ⟨Nat.zero_le _,Ext.refl _,hw⟩ ?_
  rintro⟨i,ov⟩ wr ⟨hi,hx,ho⟩
  dsimp only at hi hx ho ⊢
  replace hX:=hX.trans hx;replace hv:=hv.ext hx;replace hr0:=hr0.ext hx;replace rV:=rV.ext hx
  by_cases hlt:i<rules.length
  · obtain⟨b,off,rfl⟩:=hp (by omega)
    obtain⟨r,hri⟩:∃ r,rules[i]?=some r:=⟨_,List.getElem?_eq_getElem hlt⟩
    obtain⟨f0,k0,f1,k1,f2,k2,f3,k3,hat,_,q0,q1,q2,q3⟩:=A0d hr0 hri
    have hll:=A9s segs (rules.take i) ws
    have hlp:=A9r (segs:=segs) (rules:=rules.take i) hz
    have ca:=fun wz h1 h2 h3=>B2m segs v r (.slice f0 r.frm.length k0) (.slice f1 r.to.length k1) (.slice f2 r.left.length k2) (.slice f3 r.right.length k3) (Z5 D1 segs (rules.take i) ws) ov wz h1 h2 h3 (hok r (List.mem_of_getElem? hri)) (by omega) hlp
    (repeat' (first|(refine C1 Z Z Z Z Z Z Z Z Z Z (fun bN wN xN hbN rN=>?_);replace hx:=hx.trans xN;replace hX:=hX.trans xN;replace hv:=hv.ext xN;replace rV:=rV.ext xN;replace ho:=ho.ext xN;replace q0:=q0.ext xN;replace q1:=q1.ext xN;replace q2:=q2.ext xN;replace q3:=q3.ext xN)|refine eV Z Z (A0 (m:=i) Z Z Z (by first|rfl|omega) (by omega)) ?_|(refine A8 Z Z (A5 Z Z en217) (ca _ hv ⟨q0,q1,q2,q3⟩ ho) (fun vC wC hC=>?_);obtain⟨xC,sC⟩:=hC;replace hx:=hx.trans xC)|refine Ly ?_|refine Dy (fun hh=>?_) fun hh=>?_))
    all_goals (try (exfalso;omega))
    exact B3 (i+1,vC) ⟨rfl,rfl,rfl,rfl,rfl,trivial⟩ ⟨by dsimp only;omega,hx,by dsimp only;rw [B7v hri];exact sC⟩ (by dsimp only;omega)
  · obtain rfl:i=rules.length:=by omega
    rw [List.take_length] at ho
    (repeat' (first|refine Sy ?_|refine Dy (fun hh=>?_) fun hh=>?_))
    all_goals (try (exfalso;omega))
    exact A4 Z Z ⟨hX,ho⟩
end
end Go.Proofs.YtjicdgejhkgpgaaGreatDoor
namespace Go.En
open Go.RowKit Go.MapKept
class MKey (κ:Type) where
  d:TypeDesc
  enc:κ→Value
  key:∀ k,IsKey d (enc k)
  inj:∀ a b,enc a=enc b→a=b
instance:MKey (List UInt8) where
  d:=.string
  enc:=str
  key _:=trivial
  inj a b h:=by
    have h1:(⟨a.toArray⟩:ByteArray)=⟨b.toArray⟩:=Value.string.inj h
    have h2:a.toArray=b.toArray:=congrArg ByteArray.data h1
    simpa using congrArg Array.toList h2
def MapK {κ:Type} [MKey κ] (w:World) (r:Nat) (f:κ→Option Value):Prop:=
  ∃ es clock,w.heap[r]?=some (.map es clock)∧Stamped es clock∧(∀ x∈es.toList,IsKey (MKey.d κ) x.key)∧∀ k v,f k=some v↔∃ e∈es.toList,e.key=MKey.enc k∧e.val=v
theorem MapK.lt {κ:Type} [MKey κ] {w:World} {r:Nat} {f:κ→Option Value} (h:MapK w r f):r<w.heap.size:=by
  obtain⟨_,_,h,_⟩:=h;exact(Array.getElem?_eq_some_iff.1 h).1
theorem MapK.same {κ:Type} [MKey κ] {w w':World} {r:Nat} {f:κ→Option Value} (h:MapK w r f) (e:w'.heap[r]?=w.heap[r]?):MapK w' r f:=by
  obtain⟨es,c,h1,h2⟩:=h;exact⟨es,c,e.trans h1,h2⟩
theorem MapK.ext {κ:Type} [MKey κ] {w w':World} {r:Nat} {f:κ→Option Value} (h:MapK w r f) (x:Ext w w'):MapK w' r f:=h.same (x.block h.lt)
theorem B0c {κ:Type} [MKey κ] {es:Array MapEntry} {clock:Nat} {f:κ→Option Value} (hs:Stamped es clock) (hk:∀ x∈es.toList,IsKey (MKey.d κ) x.key) (hf:∀ k v,f k=some v↔∃ e∈es.toList,e.key=MKey.enc k∧e.val=v) (k:κ) :
    (f k=none∧Instr.findNow (MKey.d κ) (MKey.enc k) es.toList 0=some none∧∀ x∈es.toList,x.key≠MKey.enc k)∨∃ j e,f k=some e.val∧Instr.findNow (MKey.d κ) (MKey.enc k) es.toList 0=some (some (j,e.val))∧es.toList[j]?=some e∧e.key=MKey.enc k:=by
  have hik:IsKey (MKey.d κ) (MKey.enc k):=MKey.key k
  rcases findNow_spec hik es.toList 0 hk with⟨h1,h2⟩|⟨j,e,h1,h2,h3⟩
  · refine .inl ⟨?_,h1,h2⟩
    cases hfk:f k with
    | none=>rfl
    | some v=>
      obtain⟨e,he,hek,_⟩:=(hf k v).1 hfk
      exact absurd hek (h2 e he)
  · rw [Nat.zero_add] at h1
    exact .inr ⟨j,e,(hf k e.val).2 ⟨e,List.mem_of_getElem? h2,h3,rfl⟩,h1,h2,h3⟩
section
variable {P : Program} {n : Nat} {Q : Post} {L : List (Nat × Value)} {w : World} {ops : List Oper} {o : Oper} {rest : List Oper}
theorem A2j {κ:Type} [MKey κ] {t kt et:TypeId} {x i:Operand} {r:Nat} {z:Value} {size bytes:Nat} {f:κ→Option Value} {k:κ} [um:UT P t (.map kt et)] [uk:UT P kt (MKey.d κ)] [ti:TI P et z size bytes] (hm:MapK w r f) (ho:o.op=.lookup t x i true) (hx:ev L x=some (.map (some r))) (hi:ev L i=some (MKey.enc k)) :
    Val P L w o (.tuple #[(f k).getD z,.bool (f k).isSome]):=fun ρ ha=>by
  have h1:=ha.ev (by rw [ho];simp [Op.operands]) hx
  have h2:=ha.ev (by rw [ho];simp [Op.operands]) hi
  obtain⟨es,clock,hb,hs,hks,hf⟩:=hm
  have hik:IsKey (MKey.d κ) (MKey.enc k):=MKey.key k
  obtain⟨i0,hi0,hz0,_,_⟩:=Q1 (P:=P) (t:=et) w
  have h5:(zeroValue et).run P w=.ok z w:=by simp [zeroValue,hi0,hz0]
  have h6:=run_checkKey (P:=P) (w:=w) uk.u hik (es.isEmpty) 9999
  rcases B0c hs hks hf k with⟨e1,e2,_⟩|⟨j,e,e1,e2,e3,e4⟩
  · have h7:=run_findKey (P:=P) (w:=w) uk.u e2
    rw [e1]
    simp only [execOp,ho,Instr.lookup,h1,h2]
    simp [run_underlying um.u,Go.MapKept.run_getObj_map hb,h6,h7,h5,Result.andThen]
  · have h7:=run_findKey (P:=P) (w:=w) uk.u e2
    rw [e1]
    simp only [execOp,ho,Instr.lookup,h1,h2]
    simp [run_underlying um.u,Go.MapKept.run_getObj_map hb,h6,h7,Result.andThen]
theorem A1n {κ : Type} [MKey κ] [DecidableEq κ] {t kt et : TypeId} {x i y : Operand} {r : Nat} {v : Value} {f : κ → Option Value} {k : κ} [um : UT P t (.map kt et)] [uk : UT P kt (MKey.d κ)] (hm : MapK w r f) (hg : gst ops L o = some true) (hd : o.dst = none) (ho : o.op = .mapUpdate t x i y)
    (hx:ev L x=some (.map (some r))) (hi:ev L i=some (MKey.enc k)) (hy:ev L y=some v)
    (kk:∀ w',MapK w' r (fun j=>if j=k then some v else f j)→Kb (some r) w w'→EL P n ops Q rest L w'):EL P n ops Q (o::rest) L w:=by
  obtain⟨es,clock,hb,hs,hks,hf⟩:=hm
  have hik:IsKey (MKey.d κ) (MKey.enc k):=MKey.key k
  have h6:=run_checkKey (P:=P) (w:=w) uk.u hik false 9999
  have hkb:∀ o':Obj,Kb (some r) w { w with heap:=w.heap.setIfInBounds r o' }:=fun o'=>⟨rfl,rfl,rfl,by simp,fun b hlt hne=>(heap_set hb).2 b (fun e=>hne (by rw [e]))⟩
  rcases B0c hs hks hf k with⟨e1,e2,e3⟩|⟨j,e,e1,e2,e3,e4⟩
  · have h7:=run_findKey (P:=P) (w:=w) uk.u e2
    refine B2t (w':={ w with heap:=w.heap.setIfInBounds r (.map (es.push { key:=MKey.enc k,val:=v,born:=clock }) (clock+1)) }) hg hd (fun ρ ha=>?_) (kk _ ⟨_,_,(heap_set hb).1,stamped_push hs e3,fun x hx=>?_,fun k' v'=>?_⟩ (hkb _))
    · have h1:=ha.ev (by rw [ho];simp [Op.operands]) hx
      have h2:=ha.ev (by rw [ho];simp [Op.operands]) hi
      have h3:=ha.ev (by rw [ho];simp [Op.operands]) hy
      simp only [execOp,ho,h1,h2,h3]
      simp [Instr.mapUpdate,run_underlying um.u,Go.MapKept.run_getObj_map hb,h6,h7,Go.MapKept.run_setObj_map _ hb,Result.andThen]
    · simp only [Array.toList_push,List.mem_append,List.mem_singleton] at hx
      rcases hx with hx|rfl
      · exact hks x hx
      · exact hik
    · simp only [Array.toList_push,List.mem_append,List.mem_singleton]
      by_cases hk:k'=k
      · subst hk
        rw [if_pos rfl]
        constructor
        · intro h;cases h;exact⟨_,.inr rfl,rfl,rfl⟩
        · rintro⟨x,hx|rfl,h1,h2⟩
          · exact absurd h1 (e3 x hx)
          · rw [← h2]
      · rw [if_neg hk,hf]
        constructor
        · rintro⟨x,hx,h1,h2⟩;exact⟨x,.inl hx,h1,h2⟩
        · rintro⟨x,hx|rfl,h1,h2⟩
          · exact⟨x,hx,h1,h2⟩
          · exact absurd (MKey.inj _ _ h1).symm hk
  · have h7 := run_findKey (P := P) (w := w) uk.u e2
    have hj:es[j]?=some e:=by simpa using e3
    have hst:=run_keyThatStays (P:=P) (w:=w) hik
    have hkey:∀ e',es[j]?=some e'→({ e' with key:=MKey.enc k,val:=v }:MapEntry).key=e'.key:=fun e' he'=>by rw [hj] at he';cases he';exact e4.symm
    refine B2t (w':={ w with heap:=w.heap.setIfInBounds r (.map (es.modify j fun e=>{ e with key:=MKey.enc k,val:=v }) clock) }) hg hd (fun ρ ha=>?_)
      (kk _ ⟨_,_,(heap_set hb).1,stamped_modify hs _ _ (fun _ _=>rfl) (fun e' _ he'=>hkey e' he'),isKey_modify hks _ _ hkey,fun k' v'=>?_⟩ (hkb _))
    · have h1:=ha.ev (by rw [ho];simp [Op.operands]) hx
      have h2:=ha.ev (by rw [ho];simp [Op.operands]) hi
      have h3:=ha.ev (by rw [ho];simp [Op.operands]) hy
      simp only [execOp,ho,h1,h2,h3]
      simp [Instr.mapUpdate,run_underlying um.u,Go.MapKept.run_getObj_map hb,h6,h7,hj,e4,hst,Go.MapKept.run_setObj_map _ hb,Result.andThen]
    · have hmem:∀ x:MapEntry,x∈(es.modify j fun e=>{ e with key:=MKey.enc k,val:=v }).toList↔(x∈es.toList∧x.key≠MKey.enc k)∨x={ e with key:=MKey.enc k,val:=v }:=by
        intro x
        constructor
        · intro hx
          obtain⟨i,hi⟩:=List.getElem?_of_mem hx
          rw [Array.getElem?_toList,Array.getElem?_modify] at hi
          by_cases hji:j=i
          · subst hji
            rw [if_pos rfl,hj] at hi
            exact .inr (by simpa using hi.symm)
          · rw [if_neg hji] at hi
            have hxm:x∈es.toList:=List.mem_of_getElem? (by rw [Array.getElem?_toList];exact hi)
            refine .inl ⟨hxm,fun hxk=>hji ?_⟩
            have h1:=(List.getElem?_eq_some_iff.1 e3).1
            have hi2:es.toList[i]?=some x:=by rw [Array.getElem?_toList];exact hi
            have h2:=(List.getElem?_eq_some_iff.1 hi2).1
            have hn:=hs.2.2
            have ha:(es.toList.map (·.key))[j]?=some (MKey.enc k):=by rw [List.getElem?_map,e3];simp [e4]
            have hb':(es.toList.map (·.key))[i]?=some (MKey.enc k):=by rw [List.getElem?_map,hi2];simp [hxk]
            exact(List.getElem?_inj (by simpa using h1) hn).1 (ha.trans hb'.symm)
        · rintro(⟨hx,hxk⟩|rfl)
          · obtain⟨i,hi⟩:=List.getElem?_of_mem hx
            refine List.mem_of_getElem? (i:=i) ?_
            rw [Array.getElem?_toList,Array.getElem?_modify]
            by_cases hji:j=i
            · subst hji
              rw [e3] at hi;cases hi
              exact absurd e4 hxk
            · rw [if_neg hji,← Array.getElem?_toList];exact hi
          · refine List.mem_of_getElem? (i:=j) ?_
            rw [Array.getElem?_toList,Array.getElem?_modify,if_pos rfl,hj];rfl
      dsimp only
      by_cases hk:k'=k
      · subst hk
        rw [if_pos rfl]
        constructor
        · intro h;cases h;exact⟨_,(hmem _).2 (.inr rfl),rfl,rfl⟩
        · rintro⟨x,hx,h1,h2⟩
          rcases (hmem x).1 hx with⟨_,hxk⟩|rfl
          · exact absurd h1 hxk
          · rw [← h2]
      · rw [if_neg hk,hf]
        constructor
        · rintro⟨x,hx,h1,h2⟩
          exact⟨x,(hmem x).2 (.inl ⟨hx,fun h=>hk (by rw [h1] at h;exact MKey.inj _ _ h)⟩),h1,h2⟩
        · rintro⟨x,hx,h1,h2⟩
          rcases (hmem x).1 hx with⟨hx,_⟩|rfl
          · exact⟨x,hx,h1,h2⟩
          · exact absurd (MKey.inj _ _ h1).symm hk
end
end Go.En
