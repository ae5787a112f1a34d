/-
  Own text of the proof.
-/
import Derived.Test.YtjicdgejhkgpgaaGreatDoorYv
import Derived.Test.YtjicdgejhkgpgaaGreatDoorYi
import Derived.Test.YtjicdgejhkgpgaaGreatDoorYf
import Derived.Test.YtjicdgejhkgpgaaGreatDoorYk
import Derived.Test.YtjicdgejhkgpgaaGreatDoorYl
set_option linter.all false
set_option maxHeartbeats 4000000
set_option maxRecDepth 8000
namespace Go.Proofs.YtjicdgejhkgpgaaGreatDoor
section
open Go.RowKit Go.En
def Names (d:Dc):Prop:=∀ t∈d.tiers,t.name.length≤9223372036854775807
attribute [local irreducible] E EL K Val Enters Rt Calls bodyPost Code.wp RQ
theorem tcheck_any (ts:List Tier) (v:Value) (w:World) (hv:Sl w v ts) (hn:∀ t∈ts,t.name.length≤9223372036854775807) :
    Calls Tryz.prog 132 #[v] w (Rt fun u w'=>(∃ e:Int,u=int e∧(e=0→∀ i t,ts[i]?=some t→TierOK ts i t))∧Ext w w'):=by
  refine A7 (n:=20) (args:=[v]) Tryz.func132 rfl Tryz.ntmps132 (by simp) ?_
  have hv0:=hv
  obtain⟨a,cap,rfl,hc,hm,hp⟩:=hv.sl
  by_cases h12:ts.length≤12
  · (repeat' (first|refine Sy ?_|refine Dy (fun hh=>?_) fun hh=>?_))
    all_goals (first|(exfalso;omega)|skip)
    refine Ae (ι:=Nat) (fun i=>[(0,.slice a ts.length cap),(3,int i)]) (fun i wr=>i≤ts.length∧Ext w wr∧∀ j,j<i→∀ t,ts[j]?=some t→TierOK ts j t) (fun i=>ts.length-i) 0
      ⟨rfl,rfl,trivial⟩ ⟨Nat.zero_le _,Ext.refl _,fun j hj=>by omega⟩ ?_
    rintro i wr ⟨hi,hx,hall⟩
    by_cases hlt:i<ts.length
    · obtain⟨t,ht⟩:∃ t,ts[i]?=some t:=⟨_,List.getElem?_eq_getElem hlt⟩
      (repeat' (first|(refine A9 Z Z (A3 Z Z en171) (tier_any ts i t _ _ (hv0.ext hx) ht hn) (fun vC wC hC=>?_);obtain⟨⟨e,rfl,he⟩,xC⟩:=hC)|refine Sy ?_|refine Dy (fun hh=>?_) fun hh=>?_))
      all_goals (first|(exfalso;omega)|skip)
      · exact A5 Z Z ⟨⟨_,rfl,fun h=>absurd h ‹_›⟩,hx.trans xC⟩
      · exact Ad (i+1) ⟨rfl,rfl,trivial⟩ ⟨by omega,hx.trans xC,I2 (f:=fun j t=>TierOK ts j t) ht hall (he (Classical.not_not.1 ‹_›))⟩ (by omega)
    · (repeat' (first|refine Sy ?_|refine Dy (fun hh=>?_) fun hh=>?_))
      all_goals (first|(exfalso;omega)|skip)
      exact A5 Z Z ⟨⟨_,rfl,fun _ i t ht=>hall i (by have:=(List.getElem?_eq_some_iff.1 ht).1;omega) t ht⟩,hx⟩
  · (repeat' (first|refine Sy ?_|refine Dy (fun hh=>?_) fun hh=>?_))
    all_goals (first|(exfalso;omega)|skip)
    exact A5 Z Z ⟨⟨_,rfl,fun h=>by omega⟩,Ext.refl _⟩
theorem dcheck_any (d:Dc) (v:Value) (w:World) (hv:DcAt w v d) (hn:Names d) (h20:d.notes.length≤20) :
    Calls Tryz.prog 100 #[v] w (Rt fun u w'=>(∃ e:Int,u=int e∧(e=0→(∀ i t,d.tiers[i]?=some t→TierOK d.tiers i t)∧(0≤d.len∧d.len≤86400000)∧(∀ i n,d.notes[i]?=some n→NoteOK d i n)∧∀ k t,d.tiers[k]?=some t→G5 d k t))∧Ext w w'):=by
  have hd0:=hv
  obtain⟨sv,tv,nv,rfl,hs,htv,hnv⟩:=hv
  refine A7 (n:=54) (args:=[.agg #[int d.rid,str d.rname,int d.len,int d.day,sv,tv,nv]]) Tryz.func100 rfl Tryz.ntmps100 (by simp) ?_
  have htv0:=htv
  obtain⟨at_,capt,rfl,hct,hmt,hpt⟩:=htv.sl
  obtain⟨a,cap,rfl,hc,hm,hp⟩:=hnv.sl
  refine Ac ?_
  refine A8 ?_
  refine Aj Z Z Z Z (fun bD wD xD hbD rD0=>?_)
  have rD:Row wD bD 72 [int d.rid,str d.rname,int d.len,int d.day,sv,.slice at_ d.tiers.length capt,.slice a d.notes.length cap]:=rD0
  clear rD0
  have hx:=xD
  (repeat' ((fail_if_success (refine Ac (x:=(Code.seq (Code.region 8 _ _) _)) ?_));first|refine eV Z Z (A6 Z Z Z (rD.cellAt rfl)) ?_|(refine A9 Z Z (A3 Z Z en132) (tcheck_any d.tiers _ _ (htv0.ext hx) hn) (fun vC wC hC=>?_);obtain⟨⟨e,rfl,he⟩,xC⟩:=hC;replace rD:=rD.ext xC;replace hx:=hx.trans xC)|refine Sy ?_|refine Dy (fun hh=>?_) fun hh=>?_))
  all_goals (first|(exfalso;omega)|exact A5 Z Z ⟨⟨_,rfl,fun h=>by omega⟩,hx⟩|exact A5 Z Z ⟨⟨_,rfl,fun h=>absurd h ‹_›⟩,hx⟩|skip)
  have f1:=he (Classical.not_not.1 ‹_›)
  have f2:0≤d.len∧d.len≤86400000:=by omega
  obtain⟨w1,hw1⟩:∃ w1,w1=wC:=⟨_,rfl⟩
  refine Fl (ι:=Unit) (fun _=>[(1,.pointer (some ⟨bD,0,none⟩))]) (fun _ wr=>Ext wC wr∧∀ j n,d.notes[j]?=some n→NoteOK d j n) ?_ ?_
  · (repeat' (first|refine Sy ?_))
    refine Ae (ι:=Nat) (fun i=>[(1,.pointer (some ⟨bD,0,none⟩)),(4,int i)]) (fun i wr=>i≤d.notes.length∧Ext wC wr∧∀ j,j<i→∀ n,d.notes[j]?=some n→NoteOK d j n) (fun i=>d.notes.length-i) 0
      ⟨rfl,rfl,trivial⟩ ⟨Nat.zero_le _,Ext.refl _,fun j hj=>by omega⟩ ?_
    rintro i wr ⟨hi,hx2,hall⟩
    have rDr:=rD.ext hx2
    by_cases hlt:i<d.notes.length
    · obtain⟨n,hnn⟩:∃ n,d.notes[i]?=some n:=⟨_,List.getElem?_eq_getElem hlt⟩
      (repeat' (first|refine eV Z Z (A6 Z Z Z (rDr.cellAt rfl)) ?_|refine eV Z Z (Ab Z Z Z rDr.at rfl) ?_|(refine A9 Z Z (A3 Z Z en133) (noteError_any d i n _ _ (hd0.ext (hx.trans hx2)) hnn) (fun vF wF hF=>?_);obtain⟨⟨e2,rfl,he2⟩,xF⟩:=hF)|refine Sy ?_|refine Dy (fun hh=>?_) fun hh=>?_))
      all_goals (first|(exfalso;omega)|skip)
      · exact A5 Z Z ⟨⟨_,rfl,fun h=>absurd h ‹_›⟩,hx.trans (hx2.trans xF)⟩
      · exact Ad (i+1) ⟨rfl,rfl,trivial⟩ ⟨by omega,hx2.trans xF,I2 (f:=fun j n=>NoteOK d j n) hnn hall (he2 (Classical.not_not.1 ‹_›))⟩ (by omega)
    · (repeat' (first|refine eV Z Z (A6 Z Z Z (rDr.cellAt rfl)) ?_|refine Sy ?_|refine Dy (fun hh=>?_) fun hh=>?_))
      all_goals (first|(exfalso;omega)|skip)
      exact Bx () ⟨rfl,trivial⟩ ⟨hx2,fun j n hj=>hall j (by have:=(List.getElem?_eq_some_iff.1 hj).1;omega) n hj⟩
  rintro⟨⟩ w2 ⟨xm,f3⟩
  replace hx:=hx.trans xm
  replace rD:=rD.ext xm
  (repeat' (first|refine Sy ?_))
  refine Ae (ι:=Nat) (fun i=>[(1,.pointer (some ⟨bD,0,none⟩)),(6,int i)]) (fun i wr=>i≤d.tiers.length∧Ext w2 wr∧∀ j,j<i→∀ t,d.tiers[j]?=some t→G5 d j t) (fun i=>d.tiers.length-i) 0
    ⟨rfl,rfl,trivial⟩ ⟨Nat.zero_le _,Ext.refl _,fun j hj=>by omega⟩ ?_
  rintro i wr ⟨hi,hx2,hall⟩
  have rDr:=rD.ext hx2
  by_cases hlt:i<d.tiers.length
  · obtain⟨t,ht⟩:∃ t,d.tiers[i]?=some t:=⟨_,List.getElem?_eq_getElem hlt⟩
    (repeat' (first|refine eV Z Z (A6 Z Z Z (rDr.cellAt rfl)) ?_|refine eV Z Z (Ab Z Z Z rDr.at rfl) ?_|(refine A9 Z Z (A3 Z Z en134) (tierError_any d i t _ _ (hd0.ext (hx.trans hx2)) ht h20) (fun vF wF hF=>?_);obtain⟨⟨e2,rfl,he2⟩,xF⟩:=hF)|refine Sy ?_|refine Dy (fun hh=>?_) fun hh=>?_))
    all_goals (first|(exfalso;omega)|skip)
    · exact A5 Z Z ⟨⟨_,rfl,fun h=>absurd h ‹_›⟩,hx.trans (hx2.trans xF)⟩
    · exact Ad (i+1) ⟨rfl,rfl,trivial⟩ ⟨by omega,hx2.trans xF,I2 (f:=fun j t=>G5 d j t) ht hall (he2 (Classical.not_not.1 ‹_›))⟩ (by omega)
  · (repeat' (first|refine eV Z Z (A6 Z Z Z (rDr.cellAt rfl)) ?_|refine Sy ?_|refine Dy (fun hh=>?_) fun hh=>?_))
    all_goals (first|(exfalso;omega)|skip)
    exact A5 Z Z ⟨⟨_,rfl,fun _=>⟨f1,f2,f3,fun k t hk=>hall k (by have:=(List.getElem?_eq_some_iff.1 hk).1;omega) t hk⟩⟩,hx.trans hx2⟩
theorem dlight_any (d:Dc) (v:Value) (w:World) (hv:DcAt w v d) (hn:Names d):Calls Tryz.prog 63 #[v] w (Rt fun u w'=>(∃ b,u=.bool b∧(b=true→LightD d))∧Ext w w'):=by
  have hd0:=hv
  obtain⟨sv,tv,nv,rfl,hs,htv,hnv⟩:=hv
  refine A7 (n:=25) (args:=[.agg #[int d.rid,str d.rname,int d.len,int d.day,sv,tv,nv]]) Tryz.func63 rfl Tryz.ntmps63 (by simp) ?_
  obtain⟨aS,caps,rfl,hcs,hms,hps⟩:=hs.sl
  obtain⟨at_,capt,rfl,hct,hmt,hpt⟩:=htv.sl
  obtain⟨a,cap,rfl,hc,hm,hp⟩:=hnv.sl
  refine Ac ?_
  refine A8 ?_
  refine Aj Z Z Z Z (fun bD wD xD hbD rD0=>?_)
  have rD:Row wD bD 72 [int d.rid,str d.rname,int d.len,int d.day,.slice aS d.sp.length caps,.slice at_ d.tiers.length capt,.slice a d.notes.length cap]:=rD0
  clear rD0
  by_cases h14:d.notes.length≤14
  · (repeat' (first|refine eV Z Z (A6 Z Z Z (rD.cellAt rfl)) ?_|refine eV Z Z (Ab Z Z Z rD.at rfl) ?_|(refine A9 Z Z (A3 Z Z en100) (dcheck_any d _ _ (hd0.ext xD) hn (by omega)) (fun vC wC hC=>?_);obtain⟨⟨e,rfl,he⟩,xC⟩:=hC)|refine Sy ?_|refine Dy (fun hh=>?_) fun hh=>?_))
    all_goals (first|(exfalso;omega)|skip)
    all_goals first
      | exact A5 Z Z ⟨⟨_,rfl,fun h=>Bool.noConfusion h⟩,xD⟩
      | exact A5 Z Z ⟨⟨_,rfl,fun h=>Bool.noConfusion h⟩,xD.trans xC⟩
      | (refine A5 rfl rfl ⟨⟨_, rfl, fun _ => ?_⟩, xD.trans xC⟩
         obtain⟨f1,f2,f3,f4⟩:=he (by assumption)
         exact⟨h14,by omega,by omega,f1,f2,f3,f4⟩)
  · (repeat' (first|refine eV Z Z (A6 Z Z Z (rD.cellAt rfl)) ?_|refine Sy ?_|refine Dy (fun hh=>?_) fun hh=>?_))
    all_goals (first|(exfalso;omega)|skip)
    exact A5 Z Z ⟨⟨_,rfl,fun h=>Bool.noConfusion h⟩,xD⟩
end
section
open Go.RowKit Go.En Go.Pv
attribute [local irreducible] E EL K Val Enters Rt Calls bodyPost Code.wp RQ
def wordsP (segs:List Ph) (e:En):Prop:=B0 e.id=true∧1≤e.cls∧e.cls≤20∧∀ f∈Ai e,Id segs f=0
theorem words191_any (segs:List Ph) (e:En) (pv:Value) (X:List Value) (w:World) (hp:Sl w pv segs) (h:Rep.at_ Tt w e X):Calls Tryz.prog 191 #[.agg #[pv],.agg X.toArray] w (Rt fun u w'=>(∃ z:Int,u=int z∧(z=0→wordsP segs e))∧Ext w w'):=by
  obtain⟨a0,c0,a1,c1,a2,c2,a3,c3,a4,c4,rfl,h0,h1,h2,h3,h4⟩:=C6 h
  have hv:=h1
  have hf:=h0
  obtain⟨_,_,ee,_,hm,hpp⟩:=h1.sl
  cases ee
  refine A7 (n:=73) (args:=[.agg #[pv],.agg #[int e.id,.slice a0 e.form.length c0,int e.cls,.slice a1 e.alts.length c1,int e.main,.slice a2 e.senses.length c2,.slice a3 e.links.length c3,.slice a4 e.refs.length c4] ]) Tryz.func191 rfl Tryz.ntmps191 (by simp) ?_
  have hX:=Ext.refl w
  cases hbi:B0 e.id with
  | false=>
    have ci:=fun wz=>Dd e.id wz
    rw [hbi] at ci
    (repeat' (first|(refine Ao Z Z Z Z (fun bX wX xX hbX rX=>?_);replace hX:=hX.trans xX;replace hv:=hv.ext xX;replace hf:=hf.ext xX;replace hp:=hp.ext xX)|(refine cqC (ci _) en61 fun wC xC=>?_;replace hX:=hX.trans xC;replace hv:=hv.ext xC;replace hf:=hf.ext xC;replace hp:=hp.ext xC;replace rX:=rX.ext xC)|refine Ly ?_))
    exact A5 Z Z ⟨⟨_,rfl,fun h=>absurd h (by decide)⟩,hX⟩
  | true=>
  have ci:=fun wz=>Dd e.id wz
  rw [hbi] at ci
  refine Ac ?_
  refine A8 ?_
  refine Ao Z Z Z Z (fun bP wP xP hbP rP=>?_)
  replace hX:=hX.trans xP;replace hv:=hv.ext xP;replace hf:=hf.ext xP;replace hp:=hp.ext xP
  (repeat' (first|(refine Ao Z Z Z Z (fun bX wX xX hbX rX=>?_);replace hX:=hX.trans xX;replace hv:=hv.ext xX;replace hf:=hf.ext xX;replace hp:=hp.ext xX;replace rP:=rP.ext xX)|(refine cqC (ci _) en61 fun wC xC=>?_;replace hX:=hX.trans xC;replace hv:=hv.ext xC;replace hf:=hf.ext xC;replace hp:=hp.ext xC;replace rP:=rP.ext xC;replace rX:=rX.ext xC)|(refine cqC (Mp segs e.form pv _ _ hp hf) en221 fun wC xC=>?_;replace hX:=hX.trans xC;replace hv:=hv.ext xC;replace hf:=hf.ext xC;replace hp:=hp.ext xC;replace rP:=rP.ext xC;replace rX:=rX.ext xC)|refine Ly ?_|refine Dy (fun hh=>?_) fun hh=>?_))
  all_goals (try (exfalso;omega))
  all_goals first
    | exact A5 Z Z ⟨⟨_,rfl,fun h=>absurd h (by decide)⟩,hX⟩
    | exact A5 Z Z ⟨⟨_,rfl,fun h=>absurd h (by assumption)⟩,hX⟩
    | skip
  have hcl:1≤e.cls∧e.cls≤20:=by omega
  have hw0:Id segs e.form=0:=by omega
  refine Ae (ι:=Nat) (fun i=>[(2,.pointer (some ⟨bP,0,none⟩)),(3,.pointer (some ⟨bX,0,none⟩)),(6,int i)]) (fun i wr=>i≤e.alts.length∧Ext wC wr∧∀(j:Nat) (f:List Int),j<i→e.alts[j]?=some f→Id segs f=0) (fun i=>e.alts.length-i) 0
    ⟨rfl,rfl,rfl,trivial⟩ ⟨Nat.zero_le _,Ext.refl _,fun _ _ h=>absurd h (by omega)⟩ ?_
  rintro i wr ⟨hi,hx,hall⟩
  replace rX:=rX.ext hx;replace rP:=rP.ext hx;replace hX:=hX.trans hx;replace hv:=hv.ext hx;replace hf:=hf.ext hx;replace hp:=hp.ext hx
  by_cases hlt:i<e.alts.length
  · obtain⟨b,off,rfl⟩:=hpp (by omega)
    obtain⟨f,hfi⟩:∃ f,e.alts[i]?=some f:=⟨_,List.getElem?_eq_getElem hlt⟩
    obtain⟨fa,fc,hatf0,hff⟩:=Dh hv hfi
    have hcf:=hatf0.one
    have cs:=fun wz h1 h2=>F2 f e.form (.slice fa f.length fc) (.slice a0 e.form.length c0) wz h1 h2
    obtain⟨bs,hbs⟩:∃ bs,decide (f=e.form)=bs:=⟨_,rfl⟩
    rw [hbs] at cs
    cases bs
    all_goals (repeat' (first|(refine yN Z (fun wq xq=>?_);replace rX:=rX.ext xq;replace rP:=rP.ext xq;replace hX:=hX.trans xq;replace hx:=hx.trans xq;replace hv:=hv.ext xq;replace hf:=hf.ext xq;replace hp:=hp.ext xq;replace hff:=hff.ext xq;replace hcf:=Ext.cell xq hcf)|refine yV Z Z (fun _ _ _=>A0 (m:=i) Z Z Z (by first|rfl|omega) (by omega)) ?_|refine An Z Z (fun _ _ _=>A3 Z Z en221) (fun wq xz=>Mp segs f pv _ wq (hp.ext xz) (hff.ext xz)) ?_|refine An Z Z (fun _ _ _=>A3 Z Z en21) (fun wq xz=>cs wq (hff.ext xz) (hf.ext xz)) ?_|refine Ly ?_|refine Dy (fun hh=>?_) fun hh=>?_|refine yqY ?_|refine yqZ ?_|refine E_dq Aa (by kernel_rfl) Z ?_))
    all_goals (try (exfalso;omega))
    all_goals first
      | exact A5 Z Z ⟨⟨_,rfl,fun h=>absurd h (by decide)⟩,hX⟩
      | exact A5 Z Z ⟨⟨_,rfl,fun h=>absurd h (by assumption)⟩,hX⟩
      | skip
    have hwf:Id segs f=0:=by omega
    refine Ae (ι:=Nat) (fun k=>[(2,.pointer (some ⟨bP,0,none⟩)),(3,.pointer (some ⟨bX,0,none⟩)),(6,int i),(8,int k)]) (fun k wk=>k≤i∧Ext wq wk) (fun k=>i-k) 0
      ⟨rfl,rfl,rfl,rfl,trivial⟩ ⟨Nat.zero_le _,Ext.refl _⟩ ?_
    rintro k wk ⟨hk,hxk⟩
    replace rX:=rX.ext hxk;replace rP:=rP.ext hxk;replace hX:=hX.trans hxk;replace hx:=hx.trans hxk;replace hv:=hv.ext hxk;replace hf:=hf.ext hxk;replace hp:=hp.ext hxk;replace hff:=hff.ext hxk;replace hcf:=Ext.cell hxk hcf
    by_cases hlk:k<i
    · obtain⟨g,hgk⟩:∃ g,e.alts[k]?=some g:=⟨_,List.getElem?_eq_getElem (by omega)⟩
      obtain⟨ga,gc,hatg0,hgg⟩:=Dh hv hgk
      have hcg:=hatg0.one
      have cs:=fun wz h1 h2=>F2 f g (.slice fa f.length fc) (.slice ga g.length gc) wz h1 h2
      obtain⟨bs,hbs⟩:∃ bs,decide (f=g)=bs:=⟨_,rfl⟩
      rw [hbs] at cs
      cases bs
      all_goals (repeat' (first|(refine yN Z (fun wq xq=>?_);replace rX:=rX.ext xq;replace rP:=rP.ext xq;replace hX:=hX.trans xq;replace hx:=hx.trans xq;replace hxk:=hxk.trans xq)|refine yV Z Z (fun _ _ _=>A0 (m:=i) Z Z Z (by first|rfl|omega) (by omega)) ?_|refine yV Z Z (fun _ _ _=>A0 (m:=k) Z Z Z (by first|rfl|omega) (by omega)) ?_|refine An Z Z (fun _ _ _=>A3 Z Z en21) (fun wq xz=>cs wq (hff.ext xz) (hgg.ext xz)) ?_|refine Sy ?_|refine Dy (fun hh=>?_) fun hh=>?_|refine yqY ?_|refine yqZ ?_|refine E_dq Aa (by kernel_rfl) Z ?_))
      all_goals (try (exfalso;omega))
      all_goals first
        | exact A5 Z Z ⟨⟨_,rfl,fun h=>absurd h (by decide)⟩,hX⟩
        | exact Ad (k+1) ⟨rfl,rfl,rfl,rfl,trivial⟩ ⟨by omega,hxk⟩ (by omega)
    · (repeat' (first|refine Sy ?_|refine Dy (fun hh=>?_) fun hh=>?_))
      all_goals (try (exfalso;omega))
      refine Ad (i+1) ⟨rfl,rfl,rfl,trivial⟩ ⟨by omega,hx,fun j y hj hy=>?_⟩ (by omega)
      by_cases e':j=i
      · subst e';rw [hfi] at hy;cases hy;exact hwf
      · exact hall j y (by omega) hy
  · have hall':∀ f∈Ai e,Id segs f=0:=fun f hf'=>by
      rcases List.mem_cons.1 hf' with rfl|hf'
      · exact hw0
      · obtain⟨j,hj⟩:=List.getElem?_of_mem hf'
        exact hall j f (by have:=(List.getElem?_eq_some_iff.1 hj).1;omega) hj
    (repeat' (first|refine Ly ?_|refine Dy (fun hh=>?_) fun hh=>?_))
    all_goals (try (exfalso;omega))
    exact A5 Z Z ⟨⟨_,rfl,fun _=>⟨hbi,hcl.1,hcl.2,hall'⟩⟩,hX⟩
end
end Go.Proofs.YtjicdgejhkgpgaaGreatDoor
namespace Go.En
open Go.RowKit
section
variable {P : Program} {L : List (Nat × Value)} {w : World} {o : Oper}
structure Ints (P:Program) (t e:TypeId) (m:Nat):Prop where
  st:P.underlying t=some (.struct (P.fieldsOf t))
  hp:P.stoodInHeld t=false
  hg:P.eqGuardType P.depth t=false
  hf:((P.fieldsOf t).toList.map fun f=>(f.name== "_",f.type,f.offset))=(List.range' 0 m).map fun i=>(false,e,i)
  he:P.underlying e=some (.int .i64)
theorem K3 {e:TypeId} (he:P.underlying e=some (.int .i64)) (l1 l2:List Int):∀(fs:List Field) (k:Nat),(fs.map fun f=>(f.name== "_",f.type,f.offset))=(List.range' k fs.length).map (fun i=>(false,e,i))→l1.length=k+fs.length→l2.length=k+fs.length→
    (Op.eqFields 9999 (l1.map int).toArray (l2.map int).toArray fs).run P w=.ok (decide (l1.drop k=l2.drop k)) w
  | [],k,_,h1,h2=>by
    rw [List.drop_of_length_le (by simp at h1;omega),List.drop_of_length_le (by simp at h2;omega)]
    simp [Op.eqFields,go_sem]
  | f :: fs, k, h, h1, h2 => by
    rw [List.length_cons] at h1 h2
    rw [List.map_cons,List.length_cons,List.range'_succ,List.map_cons,List.cons.injEq] at h
    obtain⟨h0,hr⟩:=h
    simp only [Prod.mk.injEq] at h0
    obtain⟨n1,t1,o1⟩:=h0
    have m1:f.name≠ "_" := by simpa using n1
    have ih:=K3 he l1 l2 fs (k+1) hr (by omega) (by omega)
    obtain⟨a,ha⟩:∃ a,l1[k]?=some a:=⟨_,List.getElem?_eq_getElem (by omega)⟩
    obtain⟨b,hb⟩:∃ b,l2[k]?=some b:=⟨_,List.getElem?_eq_getElem (by omega)⟩
    have e1:l1.drop k=a::l1.drop (k+1):=by
      obtain⟨h3,h4⟩:=List.getElem?_eq_some_iff.1 ha
      rw [List.drop_eq_getElem_cons h3,h4]
    have e2:l2.drop k=b::l2.drop (k+1):=by
      obtain⟨h3,h4⟩:=List.getElem?_eq_some_iff.1 hb
      rw [List.drop_eq_getElem_cons h3,h4]
    have p1:=Dj (P:=P) (w:=w) (xs:=(l1.map int).toArray) (off:=k) (v:=int a) he (by simp [ha])
    have p2:=Dj (P:=P) (w:=w) (xs:=(l2.map int).toArray) (off:=k) (v:=int b) he (by simp [hb])
    have q:=run_equalIn_int (P:=P) w 9998 e .i64 .i64 a b he
    simp only [Op.eqFields,t1,o1,m1,ne_eq,not_false_eq_true,if_true,Sem.run_bind]
    rw [p1]
    simp only [Result.andThen_ok]
    rw [p2]
    simp only [Result.andThen_ok]
    rw [q]
    simp only [Result.andThen_ok]
    rw [e1,e2]
    by_cases hab:a=b
    · subst hab
      simp only [beq_self_eq_true,Bool.not_true,Bool.false_eq_true,if_false]
      rw [ih]
      simp
    · simp [hab,go_sem]
theorem run_eq_ints {t e:TypeId} {l1 l2:List Int} (h:Ints P t e l1.length) (hl:l2.length=l1.length):(Op.equalIn 10000 t (.agg (l1.map int).toArray) (.agg (l2.map int).toArray)).run P w=.ok (decide (l1=l2)) w:=by
  rw [run_equalIn_struct w 9999 t _ _ h.st h.hp]
  have hf:=h.hf
  have hn:(P.fieldsOf t).toList.length=l1.length:=by have:=congrArg List.length hf;simpa using this
  have:=K3 (P:=P) (w:=w) h.he l1 l2 (P.fieldsOf t).toList 0 (by rw [hn];exact hf) (by omega) (by omega)
  rw [List.drop_zero,List.drop_zero] at this
  exact this
theorem Gt {t e u:TypeId} {x y:Operand} (l1 l2:List Int) {c1 c2:Array Value} {r:Bool} (h:Ints P t e l1.length) (hl:l2.length=l1.length) (ho:o.op=.binOp .eql t x y u) (hx:ev L x=some (.agg c1)) (hy:ev L y=some (.agg c2)) (e1:c1=(l1.map int).toArray) (e2:c2=(l2.map int).toArray) (er:decide (l1=l2)=r):Val P L w o (.bool r):=fun ρ ha=>by
  subst e1;subst e2;subst er
  have h1:=ha.ev (by rw [ho];simp [Op.operands]) hx
  have h2:=ha.ev (by rw [ho];simp [Op.operands]) hy
  have h3:=run_eqGuard_agg (P:=P) w .eql t x y (l1.map int).toArray (l2.map int).toArray h.hg
  have h4:=run_eql_struct (P:=P) w t (l1.map int).toArray (l2.map int).toArray
  have h5:=run_eq_ints (w:=w) h hl
  simp only [execOp,ho,h1,h2,Sem.run_bind]
  rw [h3]
  simp only [Result.andThen_ok]
  rw [h4,h5]
  rfl
end
end Go.En
namespace Go.Proofs.YtjicdgejhkgpgaaGreatDoor
section
open Go.RowKit Go.En Go.Pv
def invF (k:Int):Int:=if k=0∨k=1 then k else if k=2 then 3 else if k=3 then 2 else if k=4 then 5 else if k=5 then 4 else -1
def rst (lex:List En) (kind:Int) (s:(Int→Bool) × List Int) (x:Lnk):(Int→Bool) × List Int:=
  if x.kind=kind∧0≤idxE lex x.to∧s.1 (idxE lex x.to)=false then (fun p=>if p=idxE lex x.to then true else s.1 p,s.2++[x.to]) else s
def J1 (lex:List En) (id:Int):List Lnk:=match getE lex id with|some e=>e.links|none=>[]
def rnx (lex:List En) (kind:Int) (s:(Int→Bool) × List Int) (id:Int):(Int→Bool) × List Int:=(J1 lex id).foldl (rst lex kind) s
def rrd (lex:List En) (kind:Int) (s:(Int→Bool) × List Int):(Int→Bool) × List Int:=s.2.foldl (rnx lex kind) (fun p=>s.1 p,[])
def rit (lex:List En) (kind id:Int):Nat→(Int→Bool) × List Int
  | 0=>(fun _=>false,[id])
  | r+1=>rrd lex kind (rit lex kind id r)
def outF (S:Int→Bool) (lex:List En) (i:Nat):List Int:=(lex.take i).zipIdx.flatMap fun ek=>if S (ek.2:Int) then [ek.1.id] else []
def H8 (lex:List En) (id kind:Int):List Int:=outF (rit lex kind id (lex.length+1)).1 lex lex.length
theorem rst_len (lex:List En) (kind:Int) (s:(Int→Bool) × List Int) (x:Lnk):(rst lex kind s x).2.length≤s.2.length+1:=by
  unfold rst;split
  · simp
  · omega
theorem Ov (lex:List En) (kind:Int):∀(l:List Lnk) (s:(Int→Bool) × List Int),(l.foldl (rst lex kind) s).2.length≤s.2.length+l.length
  | [],s=>by simp
  | x::r,s=>by
    rw [List.foldl_cons,List.length_cons]
    have:=Ov lex kind r (rst lex kind s x)
    have:=rst_len lex kind s x
    omega
theorem rnx_len {lex:List En} (h12:∀ e∈lex,e.links.length≤12) (kind:Int) (s:(Int→Bool) × List Int) (id:Int):(rnx lex kind s id).2.length≤s.2.length+12:=by
  have:=Ov lex kind (J1 lex id) s
  have h:(J1 lex id).length≤12:=by
    unfold J1
    cases hg:getE lex id with
    | none=>simp
    | some e=>exact h12 e (List.mem_of_find?_eq_some hg)
  unfold rnx;omega
theorem Ou {lex:List En} (h12:∀ e∈lex,e.links.length≤12) (kind:Int):∀(l:List Int) (s:(Int→Bool) × List Int),(l.foldl (rnx lex kind) s).2.length≤s.2.length+12*l.length
  | [],s=>by simp
  | x::r,s=>by
    rw [List.foldl_cons,List.length_cons]
    have:=Ou h12 kind r (rnx lex kind s x)
    have:=rnx_len h12 kind s x
    omega
theorem rit_len {lex:List En} (h12:∀ e∈lex,e.links.length≤12) (kind id:Int):∀ r,(rit lex kind id r).2.length≤12 ^ r
  | 0=>by simp [rit]
  | r+1=>by
    have h1:=rit_len h12 kind id r
    have h2:=Ou h12 kind (rit lex kind id r).2 (fun p=>(rit lex kind id r).1 p,[])
    have e:(rit lex kind id (r+1))=(rit lex kind id r).2.foldl (rnx lex kind) (fun p=>(rit lex kind id r).1 p,[]):=rfl
    rw [e,Nat.pow_succ]
    simp only [List.length_nil] at h2
    omega
theorem Pn {α β:Type} {f:β→α→β} {l:List α} {i:Nat} {x:α} {s:β} (h:l[i]?=some x):(l.take (i+1)).foldl f s=f ((l.take i).foldl f s) x:=by
  obtain⟨h1,h2⟩:=List.getElem?_eq_some_iff.1 h
  rw [List.take_succ_eq_append_getElem h1,h2,List.foldl_append];rfl
theorem outF_succ {S:Int→Bool} {lex:List En} {i:Nat} {e:En} (h:lex[i]?=some e):outF S lex (i+1)=outF S lex i++if S (i:Int) then [e.id] else []:=by
  obtain⟨h1,h2⟩:=List.getElem?_eq_some_iff.1 h
  unfold outF
  rw [List.take_succ_eq_append_getElem h1,h2,List.zipIdx_append,List.flatMap_append]
  simp [List.length_take,Nat.min_eq_left (Nat.le_of_lt h1)]
theorem outF_len {S : Int → Bool} {lex : List En} {i : Nat} : (outF S lex i).length ≤ i := by
  induction i with
  | zero=>simp [outF]
  | succ i ih=>
    by_cases hl:i<lex.length
    · obtain⟨e,he⟩:∃ e,lex[i]?=some e:=⟨_,List.getElem?_eq_getElem hl⟩
      rw [outF_succ he,List.length_append]
      split <;> simp <;> omega
    · have:outF S lex (i+1)=outF S lex i:=by
        unfold outF
        rw [List.take_of_length_le (by omega),List.take_of_length_le (by omega)]
      rw [this];omega
theorem own_rebase {w:World} {B B':Nat} {e:TypeId} {sz:Nat} {v:Value} {n:Nat} {xs:List Value} (h:w.ownsRow B e sz v n xs) (hb:∀ b,v.ownBlock=some b→B'≤b):w.ownsRow B' e sz v n xs:=by
  refine⟨h.1,?_⟩
  rcases h.2 with h2|⟨g,cap,cur,hv,hB,h3⟩
  · exact .inl h2
  · exact .inr ⟨g,cap,cur,hv,hb g (by rw [hv];rfl),h3⟩
attribute [local irreducible] E EL K Val Enters Rt Calls bodyPost Code.wp RQ
theorem Pc (k:Int) (w:World):Calls Tryz.prog 155 #[int k] w (Rt fun u w'=>u=int (invF k)∧Ext w w'):=by
  refine A7 (n:=16) (args:=[int k]) Tryz.func155 rfl Tryz.ntmps155 (by simp) ?_
  (repeat' (first|refine Sy ?_|refine Dy (fun hh=>?_) fun hh=>?_))
  all_goals first
    | exact A5 Z Z ⟨by unfold invF;congr 1;repeat' (split <;> first|omega|skip),Ext.refl _⟩
    | (exfalso;omega)
theorem Fk (lex : List En) (id : Int) (ev : Value) (w : World) (hv : Sl w ev lex) : Calls Tryz.prog 156 #[ev, int id] w (Rt fun u w' => u = int (idxE lex id) ∧ Ext w w') := by
  have hv0:=hv
  obtain⟨a,cap,rfl,hc,hm,hp⟩:=hv.sl
  refine A7 (n:=20) (args:=[.slice a lex.length cap,int id]) Tryz.func156 rfl Tryz.ntmps156 (by simp) ?_
  (repeat' (first|refine Sy ?_))
  refine Ae (ι:=Nat) (fun i=>[(0,.slice a lex.length cap),(1,int id),(5,int i)])
    (fun i wr=>i≤lex.length∧Ext w wr∧∀(j:Nat) (x:En),j<i→lex[j]?=some x→x.id≠id) (fun i=>lex.length-i) 0
    ⟨rfl,rfl,rfl,trivial⟩ ⟨Nat.zero_le _,Ext.refl _,fun j x hj=>absurd hj (by omega)⟩ ?_
  rintro i wr ⟨hi,hx,hall⟩
  by_cases hlt:i<lex.length
  · obtain⟨b,off,rfl⟩:=hp (by omega)
    obtain⟨x,hx1⟩:∃ x,lex[i]?=some x:=⟨_,List.getElem?_eq_getElem (by omega)⟩
    obtain⟨d0,f0,d1,f1,d2,f2,d3,f3,d4,f4,hat2,_⟩:=B3 (hv0.ext hx) hx1
    (repeat' (first|refine eV Z Z (A0 (m:=i) Z Z Z Z (by omega)) ?_|refine Ly ?_|refine Dy (fun hh=>?_) fun hh=>?_))
    all_goals (try (exfalso;omega))
    · have:idxE lex id=(i:Int):=by
        unfold idxE
        obtain⟨hl,he⟩:=List.getElem?_eq_some_iff.1 hx1
        have:lex.findIdx? (fun e=>e.id==id)=some i:=by
          rw [List.findIdx?_eq_some_iff_getElem]
          refine⟨hl,by rw [he];simpa using hh,fun j hj=>?_⟩
          have:=hall j _ hj (List.getElem?_eq_getElem (by omega))
          simpa using this
        rw [this]
      exact A5 Z Z ⟨by rw [this],hx⟩
    · have hne:¬ x.id=id:=hh
      refine Ad (i+1) ⟨rfl,rfl,rfl,trivial⟩ ⟨by omega,hx,fun j y hj hy=>?_⟩ (by omega)
      by_cases e:j=i
      · subst e;rw [hx1] at hy;cases hy;exact hne
      · exact hall j y (by omega) hy
  · have:idxE lex id = -1:=Ff (by
      unfold getE
      rw [List.find?_eq_none]
      intro x hx
      obtain⟨j,hj⟩:=List.getElem?_of_mem hx
      have:=hall j x (by have:=(List.getElem?_eq_some_iff.1 hj).1;omega) hj
      simpa using this)
    (repeat' (first|refine Sy ?_|refine Dy (fun hh=>?_) fun hh=>?_))
    all_goals (try (exfalso;omega))
    exact A5 Z Z ⟨by rw [this],hx⟩
theorem Ju (l:List Int) (x:Int) (v:Value) (w:World) (hv:Sl w v l):Calls Tryz.prog 158 #[v,int x] w (Rt fun u w'=>u=.bool (decide (x∈l))∧Ext w w'):=by
  have hv0:=hv
  obtain⟨a,cap,rfl,hc,hm,hp⟩:=hv.sl
  refine A7 (n:=18) (args:=[.slice a l.length cap,int x]) Tryz.func158 rfl Tryz.ntmps158 (by simp) ?_
  (repeat' (first|refine Sy ?_))
  refine Ae (ι:=Nat) (fun i=>[(0,.slice a l.length cap),(1,int x),(5,int i)])
    (fun i wr=>i≤l.length∧Ext w wr∧∀(j:Nat) (y:Int),j<i→l[j]?=some y→y≠x) (fun i=>l.length-i) 0
    ⟨rfl,rfl,rfl,trivial⟩ ⟨Nat.zero_le _,Ext.refl _,fun j x hj=>absurd hj (by omega)⟩ ?_
  rintro i wr ⟨hi,hx,hall⟩
  by_cases hlt:i<l.length
  · obtain⟨b,off,rfl⟩:=hp (by omega)
    obtain⟨y,hy1⟩:∃ y,l[i]?=some y:=⟨_,List.getElem?_eq_getElem (by omega)⟩
    have hat2:=(Go.Pv.int_elem (hv0.ext hx) hy1).one
    (repeat' (first|refine eV Z Z (A0 (m:=i) Z Z Z (by first|rfl|omega) (by omega)) ?_|refine Ly ?_|refine Dy (fun hh=>?_) fun hh=>?_))
    all_goals (try (exfalso;omega))
    · have:decide (x∈l)=true:=decide_eq_true (by rw [← hh];exact List.mem_of_getElem? hy1)
      exact A5 Z Z ⟨by rw [this],hx⟩
    · have hne:¬ y=x:=hh
      refine Ad (i+1) ⟨rfl,rfl,rfl,trivial⟩ ⟨by omega,hx,fun j z hj hz=>?_⟩ (by omega)
      by_cases e:j=i
      · subst e;rw [hy1] at hz;cases hz;exact hne
      · exact hall j z (by omega) hz
  · have:decide (x∈l)=false:=decide_eq_false (fun hm=>by
      obtain⟨j,hj⟩:=List.getElem?_of_mem hm
      exact hall j x (by have:=(List.getElem?_eq_some_iff.1 hj).1;omega) hj rfl)
    (repeat' (first|refine Sy ?_|refine Dy (fun hh=>?_) fun hh=>?_))
    all_goals (try (exfalso;omega))
    exact A5 Z Z ⟨by rw [this],hx⟩
theorem ints212:Ints Tryz.prog 212 3 2:=⟨by kernel_rfl,by kernel_rfl,by kernel_rfl,by kernel_rfl,Tryz.underlying3⟩
theorem lnk_eq {x y:Lnk}:[y.kind,y.to]=[x.kind,x.to]↔y=x:=by cases x;cases y;simp
theorem has157_any (e:En) (x:Lnk) (X:List Value) (w:World) (h:Rep.at_ Tt w e X):Calls Tryz.prog 157 #[.agg X.toArray,.agg #[int x.kind,int x.to] ] w (Rt fun u w'=>u=.bool (decide (x∈e.links))∧Ext w w'):=by
  obtain⟨a0,c0,a1,c1,a2,c2,a3,c3,a4,c4,rfl,h0,h1,h2,h3,h4⟩:=C6 h
  have hv:=h3
  obtain⟨_,_,ee,_,hm,hpp⟩:=h3.sl
  cases ee
  refine A7 (n:=20) (args:=[.agg #[int e.id,.slice a0 e.form.length c0,int e.cls,.slice a1 e.alts.length c1,int e.main,.slice a2 e.senses.length c2,.slice a3 e.links.length c3,.slice a4 e.refs.length c4],.agg #[int x.kind,int x.to] ]) Tryz.func157 rfl Tryz.ntmps157 (by simp) ?_
  have hX:=Ext.refl w
  refine Ac ?_
  refine A8 ?_
  refine Ao Z Z Z Z (fun bE wE xE hbE rE=>?_)
  refine Ao Z Z Z Z (fun bX wX xX hbX rX=>?_)
  replace rE:=rE.ext xX
  replace hX:=(hX.trans xE).trans xX
  replace hv:=hv.ext hX
  (repeat' (first|refine Sy ?_))
  refine Ae (ι:=Nat) (fun i=>[(2,.pointer (some ⟨bE,0,none⟩)),(3,.pointer (some ⟨bX,0,none⟩)),(5,int i)])
    (fun i wr=>i≤e.links.length∧Ext wX wr∧∀(j:Nat) (y:Lnk),j<i→e.links[j]?=some y→y≠x) (fun i=>e.links.length-i) 0
    ⟨rfl,rfl,rfl,trivial⟩ ⟨Nat.zero_le _,Ext.refl _,fun j x hj=>absurd hj (by omega)⟩ ?_
  rintro i wr ⟨hi,hx,hall⟩
  replace hX:=hX.trans hx;replace rE:=rE.ext hx;replace rX:=rX.ext hx;replace hv:=hv.ext hx
  by_cases hlt:i<e.links.length
  · obtain⟨b,off,rfl⟩:=hpp (by omega)
    obtain⟨y,hy1⟩:∃ y,e.links[i]?=some y:=⟨_,List.getElem?_eq_getElem (by omega)⟩
    have hat2:=Hj hv hy1
    (repeat' (first|refine yV Z Z (fun _ _ _=>A0 (m:=i) Z Z Z (by first|rfl|omega) (by omega)) ?_|refine yD Z Z (fun _ _ _=>Gt [y.kind,y.to] [x.kind,x.to] ints212 rfl rfl rfl rfl rfl rfl rfl) (fun hh=>?_) (fun hh=>?_)|refine Ly ?_|refine Dy (fun hh=>?_) fun hh=>?_|refine yqY ?_|refine yqZ ?_|refine E_dq Aa (by kernel_rfl) Z ?_|refine yN Z (fun wq xq=>?_)))
    all_goals (try (exfalso;omega))
    · have:decide (x∈e.links)=true:=decide_eq_true (by rw [← lnk_eq.1 hh];exact List.mem_of_getElem? hy1)
      exact A5 Z Z ⟨by rw [this],hX.trans xq⟩
    · have hne:¬ y=x:=fun e'=>hh (lnk_eq.2 e')
      refine Ad (i+1) ⟨rfl,rfl,rfl,trivial⟩ ⟨by omega,hx.trans xq,fun j z hj hz=>?_⟩ (by omega)
      by_cases e':j=i
      · subst e';rw [hy1] at hz;cases hz;exact hne
      · exact hall j z (by omega) hz
  · have:decide (x∈e.links)=false:=decide_eq_false (fun hm=>by
      obtain⟨j,hj⟩:=List.getElem?_of_mem hm
      exact hall j x (by have:=(List.getElem?_eq_some_iff.1 hj).1;omega) hj rfl)
    (repeat' (first|refine Ly ?_|refine Dy (fun hh=>?_) fun hh=>?_))
    all_goals (try (exfalso;omega))
    exact A5 Z Z ⟨by rw [this],hX⟩
end
end Go.Proofs.YtjicdgejhkgpgaaGreatDoor