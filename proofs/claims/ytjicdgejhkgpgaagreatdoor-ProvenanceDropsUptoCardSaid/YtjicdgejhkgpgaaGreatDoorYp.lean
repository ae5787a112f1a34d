/-
  Own text of the proof.
-/
import Derived.Test.YtjicdgejhkgpgaaGreatDoorYf
import Derived.Test.YtjicdgejhkgpgaaGreatDoorYg
import Derived.Test.YtjicdgejhkgpgaaGreatDoorYo
import Derived.Test.YtjicdgejhkgpgaaGreatDoorYh
import Derived.Test.YtjicdgejhkgpgaaGreatDoorYe
set_option linter.all false
set_option maxHeartbeats 4000000
set_option maxRecDepth 8000
namespace Go.Proofs.YtjicdgejhkgpgaaGreatDoor
section
open Go.RowKit Go.En
theorem C5b {α:Type} {l:List α} {i:Nat} {x:α} {f:α→Prop} (hx:l[i]?=some x) (hall:∀ j,j<i→∀ y,l[j]?=some y→f y) (h:f x):∀ j,j<i+1→∀ y,l[j]?=some y→f y:=fun j hj y hy=>by
  by_cases hj2:j<i
  · exact hall j hj2 y hy
  · obtain rfl:j=i:=by omega
    rw [hx] at hy;cases hy;exact h
attribute [local irreducible] E EL K Val Enters Rt Calls bodyPost Code.wp RQ
theorem B7i (s:List UInt8) (w:World) (hl:s.length≤9223372036854775807):Calls Tryz.prog 147 #[str s] w (Rt fun u w'=>(∃ b,u=.bool b)∧Ext w w'):=A9l s w hl
theorem C3v (ts:List Tier) (i:Nat) (t:Tier) (v:Value) (w:World) (hv:Sl w v ts) (ht:ts[i]?=some t) (hn:∀ t∈ts,t.name.length≤9223372036854775807) :
    Calls Tryz.prog 171 #[v,int i] w (Rt fun u w'=>(∃ e:Int,u=int e∧(e=0→TierOK ts i t))∧Ext w w'):=by
  refine A6 (n:=136) (args:=[v,int i]) Tryz.func171 rfl Tryz.ntmps171 (by simp) ?_
  have hv0:=hv
  obtain⟨a,cap,rfl,hc,hm,hp⟩:=hv.sl
  have hilt:=(List.getElem?_eq_some_iff.1 ht).1
  obtain⟨b,off,rfl⟩:=hp (by omega)
  have hat:=K0 hv0 ht
  have hnl:=hn t (List.mem_of_getElem? ht)
  (repeat' (first|refine eV Z Z (A0 (m:=i) Z Z Z Z (by omega)) ?_|refine eV Z Z (B8 Z Z Z hat rfl) ?_|refine Sy ?_))
  refine C3 Z Z Z (fun b5 w5 x5 hb5 r50=>?_)
  refine B7 (cs:=A9g t) r50 x5 (by omega) Z Z Z Z Z Z Z Z (Nat.le_refl _) (fun w6 r5' x6 k6=>?_)
  have r5:Row w6 b5 88 (A9g t):=r5'
  clear r5'
  (repeat' ((fail_if_success (refine B4 (x:=(Code.seq (Code.region 4 _ _) _)) ?_));first|refine eV Z Z (A7 Z Z Z (r5.cellAt rfl)) ?_|(refine A8 Z Z (A5 Z Z en147) (B7i _ _ hnl) (fun vC wC hC=>?_);obtain⟨⟨bb,rfl⟩,xC⟩:=hC;cases bb)|refine Sy ?_))
  · exact A4 Z Z ⟨⟨_,rfl,fun h=>by omega⟩,x6.trans xC⟩
  have hx0:=x6.trans xC
  have r50:=r5.ext xC
  clear r5 k6
  refine N8 (ι:=Unit) (fun _=>[(0,.slice (some ⟨b,off,none⟩) ts.length cap),(1,int i),(5,.pointer (some ⟨b5,0,none⟩))]) (fun _ wr=>Ext wC wr) ?_ ?_
  · (repeat' (first|refine Sy ?_))
    refine B0 (ι:=Nat) (fun k=>[(0,.slice (some ⟨b,off,none⟩) ts.length cap),(1,int i),(5,.pointer (some ⟨b5,0,none⟩)),(6,int k)]) (fun k wr=>k≤i∧Ext wC wr) (fun k=>i-k) 0
      ⟨rfl,rfl,rfl,rfl,trivial⟩ ⟨Nat.zero_le _,Ext.refl _⟩ ?_
    rintro k wr ⟨hk,hx⟩
    by_cases hlt:k<i
    · obtain⟨p,hpk⟩:∃ p,ts[k]?=some p:=⟨_,List.getElem?_eq_getElem (by omega)⟩
      have hatk:=K0 (hv0.ext (hx0.trans hx)) hpk
      have r5r:=r50.ext hx
      (repeat' (first|refine yV Z Z (fun _ _ _=>A0 (m:=k) Z Z Z Z (by omega)) ?_|refine yV Z Z (fun wq _ xq=>A7 Z Z Z ((hatk.ext xq).cellAt (j:=0) Z)) ?_|refine yV Z Z (fun wq _ xq=>A7 Z Z Z ((r5r.ext xq).cellAt (j:=0) Z)) ?_|refine Sy ?_|refine Dy (fun hh=>?_) fun hh=>?_|refine yqZ ?_|refine yqX (fun hh=>?_) fun hh=>?_|refine E_dq B5 (by kernel_rfl) Z ?_|refine yN Z (fun wq xq=>?_)))
      all_goals (first|(exfalso;omega)|skip)
      · exact A4 Z Z ⟨⟨_,rfl,fun h=>by omega⟩,(hx0.trans hx).trans xq⟩
      · exact B3 (k+1) ⟨rfl,rfl,rfl,rfl,trivial⟩ ⟨by omega,hx.trans xq⟩ (by omega)
    · (repeat' (first|refine Sy ?_|refine Dy (fun hh=>?_) fun hh=>?_))
      all_goals (first|(exfalso;omega)|skip)
      exact G6 () ⟨rfl,rfl,rfl,trivial⟩ hx
  rintro⟨⟩ wr hx
  have hx1:=hx0.trans hx
  have r51:=r50.ext hx
  clear hx0 r50
  (repeat' ((fail_if_success (refine B4 (x:=(Code.seq (Code.region 13 _ _) _)) ?_));first|refine eV Z Z (A7 Z Z Z (r51.cellAt rfl)) ?_|refine Sy ?_|refine Dy (fun hh=>?_) fun hh=>?_))
  all_goals (first|exact A4 Z Z ⟨⟨_,rfl,fun h=>by omega⟩,hx1⟩|skip)
  refine N8 (ι:=Unit) (fun _=>[(0,.slice (some ⟨b,off,none⟩) ts.length cap),(1,int i),(5,.pointer (some ⟨b5,0,none⟩))]) (fun _ w2=>Ext wr w2∧(t.role≠0→∀ k p,k<i→ts[k]?=some p→p.role≠t.role)) ?_ ?_
  · (repeat' (first|refine Sy ?_))
    refine B0 (ι:=Nat) (fun k=>[(0,.slice (some ⟨b,off,none⟩) ts.length cap),(1,int i),(5,.pointer (some ⟨b5,0,none⟩)),(7,int k)]) (fun k w2=>k≤i∧Ext wr w2∧(t.role≠0→∀ j,j<k→∀ p,ts[j]?=some p→p.role≠t.role)) (fun k=>i-k) 0
      ⟨rfl,rfl,rfl,rfl,trivial⟩ ⟨Nat.zero_le _,Ext.refl _,fun _ j hj=>by omega⟩ ?_
    rintro k w2 ⟨hk,hx2,hall⟩
    by_cases hlt:k<i
    · obtain⟨p,hpk⟩:∃ p,ts[k]?=some p:=⟨_,List.getElem?_eq_getElem (by omega)⟩
      have hatk:=K0 (hv0.ext (hx1.trans hx2)) hpk
      have r5r:=r51.ext hx2
      (repeat' (first|refine yV Z Z (fun _ _ _=>A0 (m:=k) Z Z Z Z (by omega)) ?_|refine yV Z Z (fun wq _ xq=>A7 Z Z Z ((hatk.ext xq).cellAt (j:=2) Z)) ?_|refine yV Z Z (fun wq _ xq=>A7 Z Z Z ((r5r.ext xq).cellAt (j:=2) Z)) ?_|refine Sy ?_|refine Dy (fun hh=>?_) fun hh=>?_|refine yqZ ?_|refine yqX (fun hh=>?_) fun hh=>?_|refine E_dq B5 (by kernel_rfl) Z ?_|refine yN Z (fun wq xq=>?_)|refine yO Z Z ?_))
      all_goals (first|(exfalso;omega)|skip)
      all_goals first
        | exact A4 Z Z ⟨⟨_,rfl,fun h=>by omega⟩,(hx1.trans hx2).trans xq⟩
        | exact B3 (k+1) ⟨rfl,rfl,rfl,rfl,trivial⟩ ⟨by omega,hx2.trans xq,fun h0=>C5b hpk (hall h0) (by assumption)⟩ (by omega)
        | exact B3 (k+1) ⟨rfl,rfl,rfl,rfl,trivial⟩ ⟨by omega,hx2.trans xq,fun h0=>absurd h0 ‹_›⟩ (by omega)
    · (repeat' (first|refine Sy ?_|refine Dy (fun hh=>?_) fun hh=>?_))
      all_goals (first|(exfalso;omega)|skip)
      exact G6 () ⟨rfl,rfl,rfl,trivial⟩ ⟨hx2,fun h0 k2 p hk2 hp2=>hall h0 k2 (by omega) p hp2⟩
  rintro⟨⟩ w2 ⟨hx2,huniq⟩
  have hx3:=hx1.trans hx2
  have r52:=r51.ext hx2
  clear hx1 r51
  by_cases hroot:t.kind=0
  · (repeat' (first|refine eV Z Z (A7 Z Z Z (r52.cellAt rfl)) ?_|(refine yN Z (fun wq xq=>?_);replace hx3:=hx3.trans xq;replace r52:=r52.ext xq)|refine yV Z Z (fun wq _ xq=>A7 Z Z Z ((r52.ext xq).cellAt rfl)) ?_|refine C4 Z Z (fun _ _ _=>A5 Z Z en202) (fun wq _=>B4p _ wq) ?_|refine C4 Z Z (fun _ _ _=>A5 Z Z en203) (fun wq _=>B4d _ wq) ?_|refine Sy ?_|refine Dy (fun hh=>?_) fun hh=>?_|refine yqZ ?_|refine yqX (fun hh=>?_) fun hh=>?_|refine E_dq B5 (by kernel_rfl) Z ?_|refine yO Z Z ?_))
    all_goals (first|(exfalso;omega)|skip)
    all_goals (first|exact A4 Z Z ⟨⟨_,rfl,fun h=>by omega⟩,hx3⟩|skip)
    all_goals
      refine A4 Z Z ⟨⟨_,rfl,fun _=>?_⟩,hx3⟩
      have hk:¬ (0≤A4t t.role∧t.kind≠A4t t.role):=by rintro⟨h1,h2⟩;first|exact absurd h1 ‹_› | exact absurd h2 ‹_›
      have ho:¬ 0≤A6t t.role:=‹_›
      clear hh
      unfold A4t at hk
      unfold A6t at ho
      exact⟨by omega,by omega,huniq,fun _=>by omega,fun h=>absurd hroot h,fun h=>by omega,by split at hk <;>(try split at hk) <;>(try split at hk) <;> omega,by split at ho <;>(try split at ho) <;>(try split at ho) <;> omega⟩
  · by_cases hpar:0≤t.parent∧t.parent<i
    · obtain⟨m,hmm⟩:∃ m:Nat,t.parent=(m:Int):=⟨t.parent.toNat,by omega⟩
      have hmi:m<i:=by omega
      obtain⟨p,hpm⟩:∃ p,ts[m]?=some p:=⟨_,List.getElem?_eq_getElem (by omega)⟩
      have hatp:=K0 (hv0.ext hx3) hpm
      have hpm2:ts[t.parent.toNat]?=some p:=by rw [hmm,Int.toNat_natCast,hpm]
      obtain⟨bt,hbt⟩:∃ bt,bt=G4 t.kind:=⟨_,rfl⟩
      obtain⟨bp,hbp⟩:∃ bp,bp=G4 p.kind:=⟨_,rfl⟩
      have ct:=A9e t.kind
      have cp:=A9e p.kind
      rw [← hbt] at ct
      rw [← hbp] at cp
      have hbb2:bp=true→G4 p.kind=true:=fun h=>by rw [← hbp];exact h
      have hbt2:t.kind=1∨t.kind=2→bt=true:=fun h=>by rw [hbt];exact A3s.2 (by omega)
      have r52':Row w2 b5 88 [str t.name,int t.kind,int t.role,int m]:=by rw [← hmm];exact r52
      clear r52
      clear hbt hbp
      (repeat' ((fail_if_success (refine B4 (x:=(Code.seq (Code.region 21 _ _) _)) ?_));first|refine eV Z Z (A7 Z Z Z (r52'.cellAt rfl)) ?_|refine Sy ?_|refine Dy (fun hh=>?_) fun hh=>?_))
      all_goals (first|(exfalso;omega)|skip)
      refine N8 (ι:=Unit) (fun _=>[(0,.slice (some ⟨b,off,none⟩) ts.length cap),(1,int i),(5,.pointer (some ⟨b5,0,none⟩)),(8,.bool false)]) (fun _ w3=>Ext w2 w3∧(bt=true→bp=true)) ?_ ?_
      · cases bt <;> cases bp
        all_goals
          (repeat' (first|refine eV Z Z (A7 Z Z Z (r52'.cellAt rfl)) ?_|refine eV Z Z (A0 (m:=m) Z Z Z Z (by omega)) ?_|refine eV Z Z (A7 Z Z Z (hatp.cellAt (j:=1) Z)) ?_|(refine cqC (ct _) en142 fun wC xC=>?_;replace hatp:=hatp.ext xC;replace r52':=r52'.ext xC)|(refine cqC (cp _) en142 fun wD xD=>?_;replace xC:=xC.trans xD)|refine Sy ?_))
        all_goals (first|exact A4 Z Z ⟨⟨_,rfl,fun h=>by omega⟩,hx3.trans xC⟩|exact G6 () ⟨rfl,rfl,rfl,rfl,trivial⟩ ⟨xC,by simp⟩)
      rintro⟨⟩ w3 ⟨xm,hbb⟩
      replace hx3:=hx3.trans xm
      replace r52':=r52'.ext xm
      replace hatp:=hatp.ext xm
      clear ct cp
      refine N8 (ι:=Unit) (fun _=>[(0,.slice (some ⟨b,off,none⟩) ts.length cap),(1,int i),(5,.pointer (some ⟨b5,0,none⟩)),(8,.bool false)]) (fun _ w4=>Ext w3 w4∧¬ (0≤A4t t.role∧t.kind≠A4t t.role)) ?_ ?_
      · (repeat' (first|refine yV Z Z (fun wq _ xq=>A7 Z Z Z ((r52'.ext xq).cellAt rfl)) ?_|refine C4 Z Z (fun _ _ _=>A5 Z Z en202) (fun wq _=>B4p _ wq) ?_|refine Sy ?_|refine yqZ ?_|refine yqX (fun hh=>?_) fun hh=>?_|refine E_dq B5 (by kernel_rfl) Z ?_|refine yN Z (fun wq xq=>?_)|refine yO Z Z ?_))
        all_goals (first|exact A4 Z Z ⟨⟨_,rfl,fun h=>by omega⟩,hx3.trans xq⟩|exact G6 () ⟨rfl,rfl,rfl,rfl,trivial⟩ ⟨xq,by rintro⟨h1,h2⟩;first|exact absurd h1 ‹_› | exact absurd h2 ‹_›⟩)
      rintro⟨⟩ w4 ⟨xn,hk⟩
      replace hx3:=hx3.trans xn
      replace r52':=r52'.ext xn
      replace hatp:=hatp.ext xn
      (repeat' (first|refine yV Z Z (fun wq _ xq=>A7 Z Z Z ((r52'.ext xq).cellAt rfl)) ?_|refine yV Z Z (fun _ _ _=>A0 (m:=m) Z Z Z Z (by omega)) ?_|refine yV Z Z (fun wq _ xq=>A7 Z Z Z ((hatp.ext xq).cellAt (j:=2) Z)) ?_|refine C4 Z Z (fun _ _ _=>A5 Z Z en203) (fun wq _=>B4d _ wq) ?_|refine Sy ?_|refine yqZ ?_|refine yqX (fun hh=>?_) fun hh=>?_|refine E_dq B5 (by kernel_rfl) Z ?_|refine yN Z (fun wq xq=>?_)|refine yO Z Z ?_))
      all_goals (first|(exfalso;omega)|skip)
      all_goals (first|exact A4 Z Z ⟨⟨_,rfl,fun h=>by omega⟩,hx3.trans xq⟩|skip)
      all_goals
        refine A4 Z Z ⟨⟨_,rfl,fun _=>?_⟩,hx3.trans xq⟩
        have ho:¬ (0≤A6t t.role∧p.role≠A6t t.role):=by rintro⟨h1,h2⟩;first|exact absurd h1 ‹_› | exact absurd h2 ‹_›
        clear hh
        unfold A4t at hk
        unfold A6t at ho
        refine⟨by omega,by omega,huniq,fun h=>absurd h hroot,fun _=>by omega,fun h=>⟨p,hpm2,hbb2 (hbb (hbt2 h))⟩,?_,?_⟩
        · split at hk <;>(try split at hk) <;>(try split at hk) <;> omega
        · refine⟨fun h=>⟨hroot,p,hpm2,?_⟩,fun h=>⟨p,hpm2,?_⟩,fun h=>⟨p,hpm2,?_⟩⟩
          all_goals (split at ho <;>(try split at ho) <;>(try split at ho) <;> omega)
    · (repeat' (first|refine eV Z Z (A7 Z Z Z (r52.cellAt rfl)) ?_|refine Sy ?_|refine Dy (fun hh=>?_) fun hh=>?_))
      all_goals (first|(exfalso;omega)|skip)
      all_goals exact A4 Z Z ⟨⟨_,rfl,fun h=>by omega⟩,hx3⟩
end
section
open Go.RowKit Go.En
def Names (d:Dc):Prop:=∀ t∈d.tiers,t.name.length≤9223372036854775807
attribute [local irreducible] E EL K Val Enters Rt Calls bodyPost Code.wp RQ
theorem B6s (ts:List Tier) (v:Value) (w:World) (hv:Sl w v ts) (hn:∀ t∈ts,t.name.length≤9223372036854775807) :
    Calls Tryz.prog 132 #[v] w (Rt fun u w'=>(∃ e:Int,u=int e∧(e=0→∀ i t,ts[i]?=some t→TierOK ts i t))∧Ext w w'):=by
  refine A6 (n:=20) (args:=[v]) Tryz.func132 rfl Tryz.ntmps132 (by simp) ?_
  have hv0:=hv
  obtain⟨a,cap,rfl,hc,hm,hp⟩:=hv.sl
  by_cases h12:ts.length≤12
  · (repeat' (first|refine Sy ?_|refine Dy (fun hh=>?_) fun hh=>?_))
    all_goals (first|(exfalso;omega)|skip)
    refine B0 (ι:=Nat) (fun i=>[(0,.slice a ts.length cap),(3,int i)]) (fun i wr=>i≤ts.length∧Ext w wr∧∀ j,j<i→∀ t,ts[j]?=some t→TierOK ts j t) (fun i=>ts.length-i) 0
      ⟨rfl,rfl,trivial⟩ ⟨Nat.zero_le _,Ext.refl _,fun j hj=>by omega⟩ ?_
    rintro i wr ⟨hi,hx,hall⟩
    by_cases hlt:i<ts.length
    · obtain⟨t,ht⟩:∃ t,ts[i]?=some t:=⟨_,List.getElem?_eq_getElem hlt⟩
      (repeat' (first|(refine A8 Z Z (A5 Z Z en171) (C3v ts i t _ _ (hv0.ext hx) ht hn) (fun vC wC hC=>?_);obtain⟨⟨e,rfl,he⟩,xC⟩:=hC)|refine Sy ?_|refine Dy (fun hh=>?_) fun hh=>?_))
      all_goals (first|(exfalso;omega)|skip)
      · exact A4 Z Z ⟨⟨_,rfl,fun h=>absurd h ‹_›⟩,hx.trans xC⟩
      · exact B3 (i+1) ⟨rfl,rfl,trivial⟩ ⟨by omega,hx.trans xC,Y3 (f:=fun j t=>TierOK ts j t) ht hall (he (Classical.not_not.1 ‹_›))⟩ (by omega)
    · (repeat' (first|refine Sy ?_|refine Dy (fun hh=>?_) fun hh=>?_))
      all_goals (first|(exfalso;omega)|skip)
      exact A4 Z Z ⟨⟨_,rfl,fun _ i t ht=>hall i (by have:=(List.getElem?_eq_some_iff.1 ht).1;omega) t ht⟩,hx⟩
  · (repeat' (first|refine Sy ?_|refine Dy (fun hh=>?_) fun hh=>?_))
    all_goals (first|(exfalso;omega)|skip)
    exact A4 Z Z ⟨⟨_,rfl,fun h=>by omega⟩,Ext.refl _⟩
theorem B8p (d:Dc) (v:Value) (w:World) (hv:DcAt w v d) (hn:Names d) (h20:d.notes.length≤20) :
    Calls Tryz.prog 100 #[v] w (Rt fun u w'=>(∃ e:Int,u=int e∧(e=0→(∀ i t,d.tiers[i]?=some t→TierOK d.tiers i t)∧(0≤d.len∧d.len≤86400000)∧(∀ i n,d.notes[i]?=some n→NoteOK d i n)∧∀ k t,d.tiers[k]?=some t→R3 d k t))∧Ext w w'):=by
  have hd0:=hv
  obtain⟨sv,tv,nv,rfl,hs,htv,hnv⟩:=hv
  refine A6 (n:=54) (args:=[.agg #[int d.rid,str d.rname,int d.len,int d.day,sv,tv,nv]]) Tryz.func100 rfl Tryz.ntmps100 (by simp) ?_
  have htv0:=htv
  obtain⟨at_,capt,rfl,hct,hmt,hpt⟩:=htv.sl
  obtain⟨a,cap,rfl,hc,hm,hp⟩:=hnv.sl
  refine B4 ?_
  refine A9 ?_
  refine C6 Z Z Z Z (fun bD wD xD hbD rD0=>?_)
  have rD:Row wD bD 72 [int d.rid,str d.rname,int d.len,int d.day,sv,.slice at_ d.tiers.length capt,.slice a d.notes.length cap]:=rD0
  clear rD0
  have hx:=xD
  (repeat' ((fail_if_success (refine B4 (x:=(Code.seq (Code.region 8 _ _) _)) ?_));first|refine eV Z Z (A7 Z Z Z (rD.cellAt rfl)) ?_|(refine A8 Z Z (A5 Z Z en132) (B6s d.tiers _ _ (htv0.ext hx) hn) (fun vC wC hC=>?_);obtain⟨⟨e,rfl,he⟩,xC⟩:=hC;replace rD:=rD.ext xC;replace hx:=hx.trans xC)|refine Sy ?_|refine Dy (fun hh=>?_) fun hh=>?_))
  all_goals (first|(exfalso;omega)|exact A4 Z Z ⟨⟨_,rfl,fun h=>by omega⟩,hx⟩|exact A4 Z Z ⟨⟨_,rfl,fun h=>absurd h ‹_›⟩,hx⟩|skip)
  have f1:=he (Classical.not_not.1 ‹_›)
  have f2:0≤d.len∧d.len≤86400000:=by omega
  obtain⟨w1,hw1⟩:∃ w1,w1=wC:=⟨_,rfl⟩
  refine N8 (ι:=Unit) (fun _=>[(1,.pointer (some ⟨bD,0,none⟩))]) (fun _ wr=>Ext wC wr∧∀ j n,d.notes[j]?=some n→NoteOK d j n) ?_ ?_
  · (repeat' (first|refine Sy ?_))
    refine B0 (ι:=Nat) (fun i=>[(1,.pointer (some ⟨bD,0,none⟩)),(4,int i)]) (fun i wr=>i≤d.notes.length∧Ext wC wr∧∀ j,j<i→∀ n,d.notes[j]?=some n→NoteOK d j n) (fun i=>d.notes.length-i) 0
      ⟨rfl,rfl,trivial⟩ ⟨Nat.zero_le _,Ext.refl _,fun j hj=>by omega⟩ ?_
    rintro i wr ⟨hi,hx2,hall⟩
    have rDr:=rD.ext hx2
    by_cases hlt:i<d.notes.length
    · obtain⟨n,hnn⟩:∃ n,d.notes[i]?=some n:=⟨_,List.getElem?_eq_getElem hlt⟩
      (repeat' (first|refine eV Z Z (A7 Z Z Z (rDr.cellAt rfl)) ?_|refine eV Z Z (B8 Z Z Z rDr.at rfl) ?_|(refine A8 Z Z (A5 Z Z en133) (A8p d i n _ _ (hd0.ext (hx.trans hx2)) hnn) (fun vF wF hF=>?_);obtain⟨⟨e2,rfl,he2⟩,xF⟩:=hF)|refine Sy ?_|refine Dy (fun hh=>?_) fun hh=>?_))
      all_goals (first|(exfalso;omega)|skip)
      · exact A4 Z Z ⟨⟨_,rfl,fun h=>absurd h ‹_›⟩,hx.trans (hx2.trans xF)⟩
      · exact B3 (i+1) ⟨rfl,rfl,trivial⟩ ⟨by omega,hx2.trans xF,Y3 (f:=fun j n=>NoteOK d j n) hnn hall (he2 (Classical.not_not.1 ‹_›))⟩ (by omega)
    · (repeat' (first|refine eV Z Z (A7 Z Z Z (rDr.cellAt rfl)) ?_|refine Sy ?_|refine Dy (fun hh=>?_) fun hh=>?_))
      all_goals (first|(exfalso;omega)|skip)
      exact G6 () ⟨rfl,trivial⟩ ⟨hx2,fun j n hj=>hall j (by have:=(List.getElem?_eq_some_iff.1 hj).1;omega) n hj⟩
  rintro⟨⟩ w2 ⟨xm,f3⟩
  replace hx:=hx.trans xm
  replace rD:=rD.ext xm
  (repeat' (first|refine Sy ?_))
  refine B0 (ι:=Nat) (fun i=>[(1,.pointer (some ⟨bD,0,none⟩)),(6,int i)]) (fun i wr=>i≤d.tiers.length∧Ext w2 wr∧∀ j,j<i→∀ t,d.tiers[j]?=some t→R3 d j t) (fun i=>d.tiers.length-i) 0
    ⟨rfl,rfl,trivial⟩ ⟨Nat.zero_le _,Ext.refl _,fun j hj=>by omega⟩ ?_
  rintro i wr ⟨hi,hx2,hall⟩
  have rDr:=rD.ext hx2
  by_cases hlt:i<d.tiers.length
  · obtain⟨t,ht⟩:∃ t,d.tiers[i]?=some t:=⟨_,List.getElem?_eq_getElem hlt⟩
    (repeat' (first|refine eV Z Z (A7 Z Z Z (rDr.cellAt rfl)) ?_|refine eV Z Z (B8 Z Z Z rDr.at rfl) ?_|(refine A8 Z Z (A5 Z Z en134) (A8f d i t _ _ (hd0.ext (hx.trans hx2)) ht h20) (fun vF wF hF=>?_);obtain⟨⟨e2,rfl,he2⟩,xF⟩:=hF)|refine Sy ?_|refine Dy (fun hh=>?_) fun hh=>?_))
    all_goals (first|(exfalso;omega)|skip)
    · exact A4 Z Z ⟨⟨_,rfl,fun h=>absurd h ‹_›⟩,hx.trans (hx2.trans xF)⟩
    · exact B3 (i+1) ⟨rfl,rfl,trivial⟩ ⟨by omega,hx2.trans xF,Y3 (f:=fun j t=>R3 d j t) ht hall (he2 (Classical.not_not.1 ‹_›))⟩ (by omega)
  · (repeat' (first|refine eV Z Z (A7 Z Z Z (rDr.cellAt rfl)) ?_|refine Sy ?_|refine Dy (fun hh=>?_) fun hh=>?_))
    all_goals (first|(exfalso;omega)|skip)
    exact A4 Z Z ⟨⟨_,rfl,fun _=>⟨f1,f2,f3,fun k t hk=>hall k (by have:=(List.getElem?_eq_some_iff.1 hk).1;omega) t hk⟩⟩,hx.trans hx2⟩
theorem B8o (d:Dc) (v:Value) (w:World) (hv:DcAt w v d) (hn:Names d):Calls Tryz.prog 63 #[v] w (Rt fun u w'=>(∃ b,u=.bool b∧(b=true→LightD d))∧Ext w w'):=by
  have hd0:=hv
  obtain⟨sv,tv,nv,rfl,hs,htv,hnv⟩:=hv
  refine A6 (n:=25) (args:=[.agg #[int d.rid,str d.rname,int d.len,int d.day,sv,tv,nv]]) Tryz.func63 rfl Tryz.ntmps63 (by simp) ?_
  obtain⟨aS,caps,rfl,hcs,hms,hps⟩:=hs.sl
  obtain⟨at_,capt,rfl,hct,hmt,hpt⟩:=htv.sl
  obtain⟨a,cap,rfl,hc,hm,hp⟩:=hnv.sl
  refine B4 ?_
  refine A9 ?_
  refine C6 Z Z Z Z (fun bD wD xD hbD rD0=>?_)
  have rD:Row wD bD 72 [int d.rid,str d.rname,int d.len,int d.day,.slice aS d.sp.length caps,.slice at_ d.tiers.length capt,.slice a d.notes.length cap]:=rD0
  clear rD0
  by_cases h14:d.notes.length≤14
  · (repeat' (first|refine eV Z Z (A7 Z Z Z (rD.cellAt rfl)) ?_|refine eV Z Z (B8 Z Z Z rD.at rfl) ?_|(refine A8 Z Z (A5 Z Z en100) (B8p d _ _ (hd0.ext xD) hn (by omega)) (fun vC wC hC=>?_);obtain⟨⟨e,rfl,he⟩,xC⟩:=hC)|refine Sy ?_|refine Dy (fun hh=>?_) fun hh=>?_))
    all_goals (first|(exfalso;omega)|skip)
    all_goals first
      | exact A4 Z Z ⟨⟨_,rfl,fun h=>Bool.noConfusion h⟩,xD⟩
      | exact A4 Z Z ⟨⟨_,rfl,fun h=>Bool.noConfusion h⟩,xD.trans xC⟩
      | (refine A4 rfl rfl ⟨⟨_, rfl, fun _ => ?_⟩, xD.trans xC⟩
         obtain⟨f1,f2,f3,f4⟩:=he (by assumption)
         exact⟨h14,by omega,by omega,f1,f2,f3,f4⟩)
  · (repeat' (first|refine eV Z Z (A7 Z Z Z (rD.cellAt rfl)) ?_|refine Sy ?_|refine Dy (fun hh=>?_) fun hh=>?_))
    all_goals (first|(exfalso;omega)|skip)
    exact A4 Z Z ⟨⟨_,rfl,fun h=>Bool.noConfusion h⟩,xD⟩
end
section
open Go.RowKit Go.En Go.Pv
attribute [local irreducible] E EL K Val Enters Rt Calls bodyPost Code.wp RQ
def C3n (segs:List Ph) (e:En):Prop:=D0 e.id=true∧1≤e.cls∧e.cls≤20∧∀ f∈D4 e,Z2 segs f=0
theorem B0n (segs:List Ph) (e:En) (pv:Value) (X:List Value) (w:World) (hp:Sl w pv segs) (h:Rep.at_ Tt w e X):Calls Tryz.prog 191 #[.agg #[pv],.agg X.toArray] w (Rt fun u w'=>(∃ z:Int,u=int z∧(z=0→C3n segs e))∧Ext w w'):=by
  obtain⟨a0,c0,a1,c1,a2,c2,a3,c3,a4,c4,rfl,h0,h1,h2,h3,h4⟩:=K4 h
  have hv:=h1
  have hf:=h0
  obtain⟨_,_,ee,_,hm,hpp⟩:=h1.sl
  cases ee
  refine A6 (n:=73) (args:=[.agg #[pv],.agg #[int e.id,.slice a0 e.form.length c0,int e.cls,.slice a1 e.alts.length c1,int e.main,.slice a2 e.senses.length c2,.slice a3 e.links.length c3,.slice a4 e.refs.length c4] ]) Tryz.func191 rfl Tryz.ntmps191 (by simp) ?_
  have hX:=Ext.refl w
  cases hbi:D0 e.id with
  | false=>
    have ci:=fun wz=>M9 e.id wz
    rw [hbi] at ci
    (repeat' (first|(refine C2 Z Z Z Z (fun bX wX xX hbX rX=>?_);replace hX:=hX.trans xX;replace hv:=hv.ext xX;replace hf:=hf.ext xX;replace hp:=hp.ext xX)|(refine cqC (ci _) en61 fun wC xC=>?_;replace hX:=hX.trans xC;replace hv:=hv.ext xC;replace hf:=hf.ext xC;replace hp:=hp.ext xC;replace rX:=rX.ext xC)|refine Ly ?_))
    exact A4 Z Z ⟨⟨_,rfl,fun h=>absurd h (by decide)⟩,hX⟩
  | true=>
  have ci:=fun wz=>M9 e.id wz
  rw [hbi] at ci
  refine B4 ?_
  refine A9 ?_
  refine C2 Z Z Z Z (fun bP wP xP hbP rP=>?_)
  replace hX:=hX.trans xP;replace hv:=hv.ext xP;replace hf:=hf.ext xP;replace hp:=hp.ext xP
  (repeat' (first|(refine C2 Z Z Z Z (fun bX wX xX hbX rX=>?_);replace hX:=hX.trans xX;replace hv:=hv.ext xX;replace hf:=hf.ext xX;replace hp:=hp.ext xX;replace rP:=rP.ext xX)|(refine cqC (ci _) en61 fun wC xC=>?_;replace hX:=hX.trans xC;replace hv:=hv.ext xC;replace hf:=hf.ext xC;replace hp:=hp.ext xC;replace rP:=rP.ext xC;replace rX:=rX.ext xC)|(refine cqC (A4e segs e.form pv _ _ hp hf) en221 fun wC xC=>?_;replace hX:=hX.trans xC;replace hv:=hv.ext xC;replace hf:=hf.ext xC;replace hp:=hp.ext xC;replace rP:=rP.ext xC;replace rX:=rX.ext xC)|refine Ly ?_|refine Dy (fun hh=>?_) fun hh=>?_))
  all_goals (try (exfalso;omega))
  all_goals first
    | exact A4 Z Z ⟨⟨_,rfl,fun h=>absurd h (by decide)⟩,hX⟩
    | exact A4 Z Z ⟨⟨_,rfl,fun h=>absurd h (by assumption)⟩,hX⟩
    | skip
  have hcl:1≤e.cls∧e.cls≤20:=by omega
  have hw0:Z2 segs e.form=0:=by omega
  refine B0 (ι:=Nat) (fun i=>[(2,.pointer (some ⟨bP,0,none⟩)),(3,.pointer (some ⟨bX,0,none⟩)),(6,int i)]) (fun i wr=>i≤e.alts.length∧Ext wC wr∧∀(j:Nat) (f:List Int),j<i→e.alts[j]?=some f→Z2 segs f=0) (fun i=>e.alts.length-i) 0
    ⟨rfl,rfl,rfl,trivial⟩ ⟨Nat.zero_le _,Ext.refl _,fun _ _ h=>absurd h (by omega)⟩ ?_
  rintro i wr ⟨hi,hx,hall⟩
  replace rX:=rX.ext hx;replace rP:=rP.ext hx;replace hX:=hX.trans hx;replace hv:=hv.ext hx;replace hf:=hf.ext hx;replace hp:=hp.ext hx
  by_cases hlt:i<e.alts.length
  · obtain⟨b,off,rfl⟩:=hpp (by omega)
    obtain⟨f,hfi⟩:∃ f,e.alts[i]?=some f:=⟨_,List.getElem?_eq_getElem hlt⟩
    obtain⟨fa,fc,hatf0,hff⟩:=R4 hv hfi
    have hcf:=hatf0.one
    have cs:=fun wz h1 h2=>R6 f e.form (.slice fa f.length fc) (.slice a0 e.form.length c0) wz h1 h2
    obtain⟨bs,hbs⟩:∃ bs,decide (f=e.form)=bs:=⟨_,rfl⟩
    rw [hbs] at cs
    cases bs
    all_goals (repeat' (first|(refine yN Z (fun wq xq=>?_);replace rX:=rX.ext xq;replace rP:=rP.ext xq;replace hX:=hX.trans xq;replace hx:=hx.trans xq;replace hv:=hv.ext xq;replace hf:=hf.ext xq;replace hp:=hp.ext xq;replace hff:=hff.ext xq;replace hcf:=Ext.cell xq hcf)|refine yV Z Z (fun _ _ _=>A0 (m:=i) Z Z Z (by first|rfl|omega) (by omega)) ?_|refine C4 Z Z (fun _ _ _=>A5 Z Z en221) (fun wq xz=>A4e segs f pv _ wq (hp.ext xz) (hff.ext xz)) ?_|refine C4 Z Z (fun _ _ _=>A5 Z Z en21) (fun wq xz=>cs wq (hff.ext xz) (hf.ext xz)) ?_|refine Ly ?_|refine Dy (fun hh=>?_) fun hh=>?_|refine yqY ?_|refine yqZ ?_|refine E_dq B5 (by kernel_rfl) Z ?_))
    all_goals (try (exfalso;omega))
    all_goals first
      | exact A4 Z Z ⟨⟨_,rfl,fun h=>absurd h (by decide)⟩,hX⟩
      | exact A4 Z Z ⟨⟨_,rfl,fun h=>absurd h (by assumption)⟩,hX⟩
      | skip
    have hwf:Z2 segs f=0:=by omega
    refine B0 (ι:=Nat) (fun k=>[(2,.pointer (some ⟨bP,0,none⟩)),(3,.pointer (some ⟨bX,0,none⟩)),(6,int i),(8,int k)]) (fun k wk=>k≤i∧Ext wq wk) (fun k=>i-k) 0
      ⟨rfl,rfl,rfl,rfl,trivial⟩ ⟨Nat.zero_le _,Ext.refl _⟩ ?_
    rintro k wk ⟨hk,hxk⟩
    replace rX:=rX.ext hxk;replace rP:=rP.ext hxk;replace hX:=hX.trans hxk;replace hx:=hx.trans hxk;replace hv:=hv.ext hxk;replace hf:=hf.ext hxk;replace hp:=hp.ext hxk;replace hff:=hff.ext hxk;replace hcf:=Ext.cell hxk hcf
    by_cases hlk:k<i
    · obtain⟨g,hgk⟩:∃ g,e.alts[k]?=some g:=⟨_,List.getElem?_eq_getElem (by omega)⟩
      obtain⟨ga,gc,hatg0,hgg⟩:=R4 hv hgk
      have hcg:=hatg0.one
      have cs:=fun wz h1 h2=>R6 f g (.slice fa f.length fc) (.slice ga g.length gc) wz h1 h2
      obtain⟨bs,hbs⟩:∃ bs,decide (f=g)=bs:=⟨_,rfl⟩
      rw [hbs] at cs
      cases bs
      all_goals (repeat' (first|(refine yN Z (fun wq xq=>?_);replace rX:=rX.ext xq;replace rP:=rP.ext xq;replace hX:=hX.trans xq;replace hx:=hx.trans xq;replace hxk:=hxk.trans xq)|refine yV Z Z (fun _ _ _=>A0 (m:=i) Z Z Z (by first|rfl|omega) (by omega)) ?_|refine yV Z Z (fun _ _ _=>A0 (m:=k) Z Z Z (by first|rfl|omega) (by omega)) ?_|refine C4 Z Z (fun _ _ _=>A5 Z Z en21) (fun wq xz=>cs wq (hff.ext xz) (hgg.ext xz)) ?_|refine Sy ?_|refine Dy (fun hh=>?_) fun hh=>?_|refine yqY ?_|refine yqZ ?_|refine E_dq B5 (by kernel_rfl) Z ?_))
      all_goals (try (exfalso;omega))
      all_goals first
        | exact A4 Z Z ⟨⟨_,rfl,fun h=>absurd h (by decide)⟩,hX⟩
        | exact B3 (k+1) ⟨rfl,rfl,rfl,rfl,trivial⟩ ⟨by omega,hxk⟩ (by omega)
    · (repeat' (first|refine Sy ?_|refine Dy (fun hh=>?_) fun hh=>?_))
      all_goals (try (exfalso;omega))
      refine B3 (i+1) ⟨rfl,rfl,rfl,trivial⟩ ⟨by omega,hx,fun j y hj hy=>?_⟩ (by omega)
      by_cases e':j=i
      · subst e';rw [hfi] at hy;cases hy;exact hwf
      · exact hall j y (by omega) hy
  · have hall':∀ f∈D4 e,Z2 segs f=0:=fun f hf'=>by
      rcases List.mem_cons.1 hf' with rfl|hf'
      · exact hw0
      · obtain⟨j,hj⟩:=List.getElem?_of_mem hf'
        exact hall j f (by have:=(List.getElem?_eq_some_iff.1 hj).1;omega) hj
    (repeat' (first|refine Ly ?_|refine Dy (fun hh=>?_) fun hh=>?_))
    all_goals (try (exfalso;omega))
    exact A4 Z Z ⟨⟨_,rfl,fun _=>⟨hbi,hcl.1,hcl.2,hall'⟩⟩,hX⟩
end
end Go.Proofs.YtjicdgejhkgpgaaGreatDoor
namespace Go.En
open Go.RowKit
section
variable {P : Program} {L : List (Nat × Value)} {w : World} {o : Oper}
structure Ints (P:Program) (t e:TypeId) (m:Nat):Prop where
  st:P.underlying t=some (.struct (P.fieldsOf t))
  hp:P.stoodInHeld t=false
  hg:P.eqGuardType P.depth t=false
  hf:((P.fieldsOf t).toList.map fun f=>(f.name== "_",f.type,f.offset))=(List.range' 0 m).map fun i=>(false,e,i)
  he:P.underlying e=some (.int .i64)
theorem A1g {e:TypeId} (he:P.underlying e=some (.int .i64)) (l1 l2:List Int):∀(fs:List Field) (k:Nat),(fs.map fun f=>(f.name== "_",f.type,f.offset))=(List.range' k fs.length).map (fun i=>(false,e,i))→l1.length=k+fs.length→l2.length=k+fs.length→
    (Op.eqFields 9999 (l1.map int).toArray (l2.map int).toArray fs).run P w=.ok (decide (l1.drop k=l2.drop k)) w
  | [],k,_,h1,h2=>by
    rw [List.drop_of_length_le (by simp at h1;omega),List.drop_of_length_le (by simp at h2;omega)]
    simp [Op.eqFields,go_sem]
  | f :: fs, k, h, h1, h2 => by
    rw [List.length_cons] at h1 h2
    rw [List.map_cons,List.length_cons,List.range'_succ,List.map_cons,List.cons.injEq] at h
    obtain⟨h0,hr⟩:=h
    simp only [Prod.mk.injEq] at h0
    obtain⟨n1,t1,o1⟩:=h0
    have m1:f.name≠ "_" := by simpa using n1
    have ih:=A1g he l1 l2 fs (k+1) hr (by omega) (by omega)
    obtain⟨a,ha⟩:∃ a,l1[k]?=some a:=⟨_,List.getElem?_eq_getElem (by omega)⟩
    obtain⟨b,hb⟩:∃ b,l2[k]?=some b:=⟨_,List.getElem?_eq_getElem (by omega)⟩
    have e1:l1.drop k=a::l1.drop (k+1):=by
      obtain⟨h3,h4⟩:=List.getElem?_eq_some_iff.1 ha
      rw [List.drop_eq_getElem_cons h3,h4]
    have e2:l2.drop k=b::l2.drop (k+1):=by
      obtain⟨h3,h4⟩:=List.getElem?_eq_some_iff.1 hb
      rw [List.drop_eq_getElem_cons h3,h4]
    have p1:=N3 (P:=P) (w:=w) (xs:=(l1.map int).toArray) (off:=k) (v:=int a) he (by simp [ha])
    have p2:=N3 (P:=P) (w:=w) (xs:=(l2.map int).toArray) (off:=k) (v:=int b) he (by simp [hb])
    have q:=run_equalIn_int (P:=P) w 9998 e .i64 .i64 a b he
    simp only [Op.eqFields,t1,o1,m1,ne_eq,not_false_eq_true,if_true,Sem.run_bind]
    rw [p1]
    simp only [Result.andThen_ok]
    rw [p2]
    simp only [Result.andThen_ok]
    rw [q]
    simp only [Result.andThen_ok]
    rw [e1,e2]
    by_cases hab:a=b
    · subst hab
      simp only [beq_self_eq_true,Bool.not_true,Bool.false_eq_true,if_false]
      rw [ih]
      simp
    · simp [hab,go_sem]
theorem B3u {t e:TypeId} {l1 l2:List Int} (h:Ints P t e l1.length) (hl:l2.length=l1.length):(Op.equalIn 10000 t (.agg (l1.map int).toArray) (.agg (l2.map int).toArray)).run P w=.ok (decide (l1=l2)) w:=by
  rw [run_equalIn_struct w 9999 t _ _ h.st h.hp]
  have hf:=h.hf
  have hn:(P.fieldsOf t).toList.length=l1.length:=by have:=congrArg List.length hf;simpa using this
  have:=A1g (P:=P) (w:=w) h.he l1 l2 (P.fieldsOf t).toList 0 (by rw [hn];exact hf) (by omega) (by omega)
  rw [List.drop_zero,List.drop_zero] at this
  exact this
theorem S9 {t e u:TypeId} {x y:Operand} (l1 l2:List Int) {c1 c2:Array Value} {r:Bool} (h:Ints P t e l1.length) (hl:l2.length=l1.length) (ho:o.op=.binOp .eql t x y u) (hx:ev L x=some (.agg c1)) (hy:ev L y=some (.agg c2)) (e1:c1=(l1.map int).toArray) (e2:c2=(l2.map int).toArray) (er:decide (l1=l2)=r):Val P L w o (.bool r):=fun ρ ha=>by
  subst e1;subst e2;subst er
  have h1:=ha.ev (by rw [ho];simp [Op.operands]) hx
  have h2:=ha.ev (by rw [ho];simp [Op.operands]) hy
  have h3:=run_eqGuard_agg (P:=P) w .eql t x y (l1.map int).toArray (l2.map int).toArray h.hg
  have h4:=run_eql_struct (P:=P) w t (l1.map int).toArray (l2.map int).toArray
  have h5:=B3u (w:=w) h hl
  simp only [execOp,ho,h1,h2,Sem.run_bind]
  rw [h3]
  simp only [Result.andThen_ok]
  rw [h4,h5]
  rfl
end
end Go.En
