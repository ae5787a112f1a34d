/-
  Own text of the proof.
-/
import Derived.Test.YtjicdgejhkgpgaaGreatDoorYu
import Derived.Test.YtjicdgejhkgpgaaGreatDoorYh
set_option linter.all false
set_option maxHeartbeats 4000000
set_option maxRecDepth 8000
namespace Go.Proofs.YtjicdgejhkgpgaaGreatDoor
section
open Go.RowKit Go.En
def spnOf (n:Note):Spn:=⟨n.frm,n.til⟩
theorem spansOf_any (l:List Note) (v:Value) (w:World) (hv:Sl w v l) (hlen:l.length≤1099511627776):Calls Tryz.prog 177 #[v] w (Rt fun u w'=>Ext w w'∧Sl w' u (l.map spnOf)):=spans_any l v w hv hlen
attribute [local irreducible] E EL K Val Enters Rt Calls bodyPost Code.wp RQ
theorem noteError_any (d:Dc) (i:Nat) (n:Note) (v:Value) (w:World) (hv:DcAt w v d) (hn:d.notes[i]?=some n) :
    Calls Tryz.prog 133 #[v,int i] w (Rt fun u w'=>(∃ e:Int,u=int e∧(e=0→NoteOK d i n))∧Ext w w'):=by
  have hd0:=hv
  obtain⟨sv,tv,nv,rfl,hs,htv,hnv⟩:=hv
  refine A7 (n:=54) (args:=[.agg #[int d.rid,str d.rname,int d.len,int d.day,sv,tv,nv],int i]) Tryz.func133 rfl Tryz.ntmps133 (by simp) ?_
  have hnv0:=hnv
  obtain⟨at_,capt,rfl,hct,hmt,hpt⟩:=htv.sl
  obtain⟨a,cap,rfl,hc,hm,hp⟩:=hnv.sl
  have hilt:=(List.getElem?_eq_some_iff.1 hn).1
  obtain⟨b,off,rfl⟩:=hp (by omega)
  refine Ac ?_
  refine A8 ?_
  refine Aj Z Z Z Z (fun bD wD xD hbD rD0=>?_)
  have rD1:Row wD bD 72 [int d.rid,str d.rname,int d.len,int d.day,sv,.slice at_ d.tiers.length capt,.slice (some ⟨b,off,none⟩) d.notes.length cap]:=rD0
  have hat1:=Ch (hnv0.ext xD) hn
  (repeat' (first|refine eV Z Z (A6 Z Z Z (rD1.cellAt rfl)) ?_|refine eV Z Z (A0 (m:=i) Z Z Z Z hilt) ?_|refine eV Z Z (Ab Z Z Z hat1 rfl) ?_|refine Sy ?_))
  refine Ap Z Z Z (fun bN wN xN hbN rN0=>?_)
  refine Ah (cs:=Be n) rN0 xN (by omega) Z Z Z Z Z Z Z Z (Nat.le_refl _) (fun w2 rN1 x2 k2=>?_)
  have rN:Row w2 bN 80 (Be n):=rN1
  have rD:=rD1.ext x2
  have hx:=xD.trans x2
  clear rD0 rN0 rN1 rD1 k2
  (repeat' ((fail_if_success (refine Ac (x:=(Code.seq (Code.region 4 _ _) _)) ?_));first|refine eV Z Z (A6 Z Z Z (rN.cellAt rfl)) ?_|refine Sy ?_|refine Dy (fun hh=>?_) fun hh=>?_))
  all_goals (first|(exfalso;omega)|exact A5 Z Z ⟨⟨_,rfl,fun h=>by omega⟩,hx⟩|skip)
  refine Fl (ι:=Unit) (fun _=>[(1,int i),(2,.pointer (some ⟨bD,0,none⟩)),(5,.pointer (some ⟨bN,0,none⟩))]) (fun _ w4=>Ext w2 w4∧∀ m,0<i→d.notes[i-1]?=some m→m.id<n.id) ?_ ?_
  · by_cases h0:0<i
    · obtain⟨m,hmm⟩:∃ m,d.notes[i-1]?=some m:=⟨_,List.getElem?_eq_getElem (by omega)⟩
      have hatm:=Ch (hnv0.ext hx) hmm
      (repeat' (first|refine yV Z Z (fun wq _ xq=>A6 Z Z Z ((rN.ext xq).cellAt rfl)) ?_|refine yV Z Z (fun wq _ xq=>A6 Z Z Z ((rD.ext xq).cellAt rfl)) ?_|refine yV Z Z (fun _ _ _=>A0 (m:=i-1) Z Z Z (by omega) (by omega)) ?_|refine yV Z Z (fun wq _ xq=>A6 Z Z Z ((hatm.ext xq).cellAt (j:=0) Z)) ?_|refine Sy ?_|refine yqZ ?_|refine yqX (fun hh=>?_) fun hh=>?_|refine E_dq Aa (by kernel_rfl) Z ?_|refine yN Z (fun wq xq=>?_)|refine yO Z Z ?_))
      all_goals (first|(exfalso;omega)|exact A5 Z Z ⟨⟨_,rfl,fun h=>by omega⟩,hx.trans xq⟩|skip)
      exact Bx () ⟨rfl,rfl,rfl,trivial⟩ ⟨xq,fun m' _ hm'=>by rw [hmm] at hm';cases hm';omega⟩
    · (repeat' (first|refine Sy ?_|refine yqZ ?_|refine yqX (fun hh=>?_) fun hh=>?_|refine E_dq Aa (by kernel_rfl) Z ?_|refine yN Z (fun wq xq=>?_)|refine yO Z Z ?_))
      all_goals (first|(exfalso;omega)|skip)
      exact Bx () ⟨rfl,rfl,rfl,trivial⟩ ⟨xq,fun m' h _=>absurd h h0⟩
  rintro⟨⟩ w4 ⟨xm,f1⟩
  replace hx:=hx.trans xm
  replace rD:=rD.ext xm
  replace rN:=rN.ext xm
  (repeat' ((fail_if_success (refine Ac (x:=(Code.seq (Code.region 8 _ _) _)) ?_));first|refine eV Z Z (A6 Z Z Z (rN.cellAt rfl)) ?_|refine eV Z Z (A6 Z Z Z (rD.cellAt rfl)) ?_|refine Sy ?_|refine Dy (fun hh=>?_) fun hh=>?_))
  all_goals (first|(exfalso;omega)|exact A5 Z Z ⟨⟨_,rfl,fun h=>by omega⟩,hx⟩|skip)
  obtain⟨k,hk⟩:∃ k:Nat,n.tier=(k:Int):=⟨n.tier.toNat,by omega⟩
  obtain⟨t,ht⟩:∃ t,d.tiers[k]?=some t:=⟨_,List.getElem?_eq_getElem (by omega)⟩
  (repeat' (first|refine eV Z Z (A6 Z Z Z (rN.cellAt rfl)) ?_|refine eV Z Z (Ab Z Z Z rN.at rfl) ?_|refine eV Z Z (Ab Z Z Z rD.at rfl) ?_|(refine A9 Z Z (A3 Z Z en97) (text_any n.text _) (fun vC wC hC=>?_);obtain⟨⟨e,rfl,he⟩,xC⟩:=hC;replace rD:=rD.ext xC;replace rN:=rN.ext xC;replace hx:=hx.trans xC)|(refine A9 Z Z (A3 Z Z en172) (placed_any d n t k _ _ (hd0.ext hx) hk ht) (fun vP wP hP=>?_);obtain⟨⟨e2,rfl,he2⟩,xP⟩:=hP)|refine Sy ?_|refine Dy (fun hh=>?_) fun hh=>?_))
  · exact A5 Z Z ⟨⟨_,rfl,fun h=>absurd h ‹_›⟩,hx⟩
  · exact A5 Z Z ⟨⟨_,rfl,fun h=>⟨by omega,fun m h0 hm=>f1 m h0 hm,he (Classical.not_not.1 ‹_›),t,k,hk,ht,he2 h⟩⟩,hx.trans xP⟩
theorem getR_note (ns:List Note) (id:Int):∃(q:Note) (ok:Bool),getR ns id=.tuple #[.agg (Be q).toArray,.bool ok]:=by
  obtain⟨q,ok,h,_⟩:=Pk ns id
  exact⟨q,ok,h⟩
theorem tierError_any (d:Dc) (k:Nat) (t:Tier) (v:Value) (w:World) (hv:DcAt w v d) (ht:d.tiers[k]?=some t) (h20:d.notes.length≤20) :
    Calls Tryz.prog 134 #[v,int k] w (Rt fun u w'=>(∃ e:Int,u=int e∧(e=0→G5 d k t))∧Ext w w'):=by
  have hd0:=hv
  obtain⟨sv,tv,nv,rfl,hs,htv,hnv⟩:=hv
  refine A7 (n:=77) (args:=[.agg #[int d.rid,str d.rname,int d.len,int d.day,sv,tv,nv],int k]) Tryz.func134 rfl Tryz.ntmps134 (by simp) ?_
  have hnv0:=hnv
  have htv0:=htv
  obtain⟨a,cap,rfl,hc,hm,hp⟩:=hnv.sl
  obtain⟨at_,capt,rfl,hct,hmt,hpt⟩:=htv.sl
  have hklt:=(List.getElem?_eq_some_iff.1 ht).1
  obtain⟨bt,offt,rfl⟩:=hpt (by omega)
  refine Ac ?_
  refine A8 ?_
  refine Aj Z Z Z Z (fun bD wD xD hbD rD0=>?_)
  have rD1:Row wD bD 72 [int d.rid,str d.rname,int d.len,int d.day,sv,.slice (some ⟨bt,offt,none⟩) d.tiers.length capt,.slice a d.notes.length cap]:=rD0
  clear rD0
  have hatt:=Cg (htv0.ext xD) ht
  (repeat' (first|refine eV Z Z (A6 Z Z Z (rD1.cellAt rfl)) ?_|refine eV Z Z (A0 (m:=k) Z Z Z Z hklt) ?_|refine eV Z Z (A6 Z Z Z (hatt.cellAt (j:=1) Z)) ?_|refine Sy ?_))
  refine Ae (ι:=Nat × Int) (fun x=>[(1,int k),(2,.pointer (some ⟨bD,0,none⟩)),(5,int t.kind),(6,int x.2),(7,int x.1)])
    (fun x wr=>x.1≤d.notes.length∧Ext wD wr∧(x.2=0→∀ j,j<x.1→∀ n,d.notes[j]?=some n→n.tier=(k:Int)→SibsOK t.kind (sibs d.notes k n.parent))) (fun x=>d.notes.length-x.1) (0,0)
    ⟨rfl,rfl,rfl,rfl,rfl,trivial⟩ ⟨Nat.zero_le _,Ext.refl _,fun _ j hj=>by omega⟩ ?_
  rintro⟨i,out⟩ wr ⟨hi,hx,hall⟩
  dsimp only at hi hx hall ⊢
  have rD:=rD1.ext hx
  by_cases hlt:i<d.notes.length
  · obtain⟨b,off,rfl⟩:=hp (by omega)
    obtain⟨n,hn⟩:∃ n,d.notes[i]?=some n:=⟨_,List.getElem?_eq_getElem hlt⟩
    have hatn:=Ch (hnv0.ext (xD.trans hx)) hn
    (repeat' (first|refine eV Z Z (A6 Z Z Z (rD.cellAt rfl)) ?_|refine eV Z Z (A0 (m:=i) Z Z Z Z hlt) ?_|refine eV Z Z (Ab Z Z Z hatn rfl) ?_|refine Sy ?_|refine Dy (fun hh=>?_) fun hh=>?_))
    all_goals (first|(exfalso;omega)|skip)
    refine Ap Z Z Z (fun bN wN xN hbN rN0=>?_)
    refine Ah (cs:=Be n) rN0 xN (by omega) Z Z Z Z Z Z Z Z (Nat.le_refl _) (fun w2 rN1 x2 k2=>?_)
    have rN:Row w2 bN 80 (Be n):=rN1
    have hx2:=hx.trans x2
    replace rD:=rD.ext x2
    clear rN0 rN1 k2
    (repeat' ((fail_if_success (refine Ac (x:=(Code.region 8 _ _)) ?_));first|refine eV Z Z (A6 Z Z Z (rN.cellAt rfl)) ?_|refine Sy ?_|refine Dy (fun hh=>?_) fun hh=>?_))
    · exact Ad (i+1,out) ⟨rfl,rfl,rfl,rfl,rfl,trivial⟩ ⟨by dsimp only;omega,hx2,fun h=>I2 (f:=fun _ n=>n.tier=(k:Int)→SibsOK t.kind (sibs d.notes k n.parent)) hn (hall h) (fun h2=>absurd h2 ‹_›)⟩ (by dsimp only;omega)
    have htn:n.tier=(k:Int):=Classical.not_not.1 ‹_›
    obtain⟨S,hS⟩:∃ S,S=sibs d.notes k n.parent:=⟨_,rfl⟩
    have cS:=siblings_any d _ (k:Int) n.parent w2 (hd0.ext (xD.trans hx2)) (by omega)
    rw [← hS] at cS
    have hSl:S.length≤20:=by have:=Oj d.notes k n.parent;rw [hS];omega
    (repeat' ((fail_if_success (refine Ac (x:=(Code.seq (Code.region 9 _ _) _)) ?_));first|refine eV Z Z (Ab Z Z Z rD.at rfl) ?_|refine eV Z Z (A6 Z Z Z (rN.cellAt rfl)) ?_|(refine A9 Z Z (A3 Z Z en173) cS (fun vC wC hC=>?_);obtain⟨xC,hSv⟩:=hC)|refine Sy ?_))
    have hSv0:=hSv
    obtain⟨aS,cS',rfl,_⟩:=hSv.sl
    replace rD:=rD.ext xC
    replace rN:=rN.ext xC
    replace hx2:=hx2.trans xC
    refine Fl (ι:=Unit) (fun _=>[(1,int k),(2,.pointer (some ⟨bD,0,none⟩)),(5,int t.kind),(6,int out),(7,int i),(8,.pointer (some ⟨bN,0,none⟩)),(9,.slice aS S.length cS')]) (fun _ w4=>Ext wC w4∧(Bj t.kind=true→NoOver S)) ?_ ?_
    · obtain⟨ba,hba⟩:∃ ba,ba=Bj t.kind:=⟨_,rfl⟩
      have ca:=Ne t.kind
      rw [← hba] at ca ⊢
      cases ba
      all_goals
        (repeat' (first|(refine cqC (ca _) en174 fun wE xE=>?_)|(refine A9 Z Z (A3 Z Z en175) (overlap_any S _ _ (hSv0.ext xE)) (fun vF wF hF=>?_);obtain⟨⟨bo,rfl,hbo⟩,xF⟩:=hF;cases bo)|refine Sy ?_))
        all_goals first
          | exact A5 Z Z ⟨⟨_,rfl,fun h=>by omega⟩,xD.trans (hx2.trans (xE.trans xF))⟩
          | exact Bx () ⟨rfl,rfl,rfl,rfl,rfl,rfl,rfl,trivial⟩ ⟨xE.trans xF,fun _=>hbo rfl⟩
          | exact Bx () ⟨rfl,rfl,rfl,rfl,rfl,rfl,rfl,trivial⟩ ⟨xE,fun h=>Bool.noConfusion h⟩
    rintro⟨⟩ w4 ⟨xm,hap⟩
    replace rD:=rD.ext xm
    replace rN:=rN.ext xm
    replace hx2:=hx2.trans xm
    replace hSv0:=hSv0.ext xm
    obtain⟨q,ok,hq⟩:=getR_note d.notes n.parent
    have cg:=get_any d _ n.parent _ (hd0.ext (xD.trans hx2))
    rw [hq] at cg
    (repeat' (first|refine eV Z Z (Ab Z Z Z rD.at rfl) ?_|refine eV Z Z (A6 Z Z Z (rN.cellAt rfl)) ?_|(refine cqC cg en52 fun wG xG=>?_)|refine Sy ?_))
    refine Ap Z Z Z (fun bP wP xP hbP rP0=>?_)
    refine Ah (cs:=Be q) rP0 xP (by omega) Z Z Z Z Z Z Z Z (Nat.le_refl _) (fun w5 rP1 x5 k5=>?_)
    have rP:Row w5 bP 80 (Be q):=rP1
    have hx5:=hx2.trans (xG.trans x5)
    replace hSv0:=hSv0.ext (xG.trans x5)
    clear rP0 rP1 k5 cg cS rD rN hSv hatn
    (repeat' ((fail_if_success (refine Ac (x:=(Code.seq (Code.region 12 _ _) _)) ?_));first|refine Sy ?_))
    refine Fl (ι:=Int) (fun o=>[(1,int k),(2,.pointer (some ⟨bD,0,none⟩)),(5,int t.kind),(6,int o),(7,int i),(8,.pointer (some ⟨bN,0,none⟩)),(9,.slice aS S.length cS')]) (fun o w6=>Ext w5 w6∧(o=0→out=0)) ?_ ?_
    · by_cases hk1:t.kind=1
      · have hspan:At w5 bP (0+3) [int q.frm,int q.til]:=rP.at.seg 3 (n:=2)
        refine Ac ?_
        refine E.sub (M:=(10,.pointer (some ⟨bP,0,none⟩))::[(1,int k),(2,.pointer (some ⟨bD,0,none⟩)),(5,int t.kind),(6,int out),(7,int i),(8,.pointer (some ⟨bN,0,none⟩)),(9,.slice aS S.length cS')]) ⟨rfl,rfl,rfl,rfl,rfl,rfl,rfl,rfl,trivial⟩ ?_
        refine E_dm (id:=12) 8 Aa (by kernel_rfl) Z ?_
        (repeat' (first|refine Al (fun u w'=>Sl w' u (S.map spnOf)) (fun _=>#[.slice aS S.length cS']) Z Z (fun _ _ _ _ xe h=>h.ext xe) (fun _ _ _=>A3 Z Z en177) (fun wq _ xq _=>Ag (spansOf_any S _ wq (hSv0.ext xq) (by omega)) fun _ _ h=>⟨h.2,h.1⟩) ?_|refine yV Z Z (fun wq _ xq=>Ab Z Z Z (hspan.ext xq) Z) ?_|refine Al (fun u w'=>∃ bb,u=.bool bb) (fun δ=>#[δ 56,.agg #[int q.frm,int q.til] ]) Z Z (fun _ _ _ _ xe h=>h) (fun _ _ _=>A3 Z Z en176) (fun wq δ xq hs=>Ag (covers_any (S.map spnOf) _ q.frm q.til wq (hs 56 rfl _ rfl) (by simp;omega)) fun _ _ h=>h) ?_|refine B8 (fun wq δ xq hR=>?_)|refine Sy ?_|refine yqZ ?_|refine yqX (fun hh=>?_) fun hh=>?_|refine yO Z Z ?_))
        all_goals (first|(exfalso;omega)|skip)
        obtain⟨bb,e59⟩:=hR 59 _ rfl
        refine EL.sub (M:=(59,.bool bb)::(54,.bool true)::[(1,int k),(2,.pointer (some ⟨bD,0,none⟩)),(5,int t.kind),(6,int out),(7,int i),(8,.pointer (some ⟨bN,0,none⟩)),(9,.slice aS S.length cS')]) ⟨show some (δ 59)=_ by rw [e59],rfl,rfl,rfl,rfl,rfl,rfl,rfl,rfl,trivial⟩ ?_
        clear hR e59 δ
        cases bb
        all_goals
          (repeat' (first|refine Sy ?_))
          exact Bx _ ⟨rfl,rfl,rfl,rfl,rfl,rfl,rfl,trivial⟩ ⟨xq,fun h=>by first|exact h|omega⟩
      · (repeat' (first|refine Sy ?_|refine yqZ ?_|refine yqX (fun hh=>?_) fun hh=>?_|refine E_dq Aa (by kernel_rfl) Z ?_|refine yN Z (fun wq xq=>?_)|refine yO Z Z ?_))
        all_goals (first|(exfalso;omega)|skip)
        exact Bx out ⟨rfl,rfl,rfl,rfl,rfl,rfl,rfl,trivial⟩ ⟨xq,fun h=>h⟩
    rintro o w6 ⟨xm,ho⟩
    replace hx5:=hx5.trans xm
    replace hSv0:=hSv0.ext xm
    have don:∀ o':Int,(o'=0→out=0∧SibsOK t.kind S)→o'=0→∀ j,j<i+1→∀ n,d.notes[j]?=some n→n.tier=(k:Int)→SibsOK t.kind (sibs d.notes k n.parent):=fun o' h h0=>
      I2 (f:=fun _ n=>n.tier=(k:Int)→SibsOK t.kind (sibs d.notes k n.parent)) hn (hall (h h0).1) (fun _=>by rw [← hS];exact(h h0).2)
    (repeat' (first|(refine A9 Z Z (A3 Z Z en178) (ranked_any S _ _ hSv0) (fun vF wF hF=>?_);obtain⟨⟨bo,rfl,hbo⟩,xF⟩:=hF;cases bo)|refine Sy ?_|refine Dy (fun hh=>?_) fun hh=>?_))
    all_goals (first|(exfalso;omega)|skip)
    all_goals first
      | exact Ad (i+1,10) ⟨rfl,rfl,rfl,rfl,rfl,trivial⟩ ⟨by dsimp only;omega,hx5.trans xF,don 10 (fun h=>absurd h (by decide))⟩ (by dsimp only;omega)
      | exact Ad (i+1,o) ⟨rfl,rfl,rfl,rfl,rfl,trivial⟩ ⟨by dsimp only;omega,hx5.trans xF,don o (fun h=>⟨ho h,hap,fun _=>hbo rfl,fun h=>by omega⟩)⟩ (by dsimp only;omega)
      | exact Ad (i+1,8) ⟨rfl,rfl,rfl,rfl,rfl,trivial⟩ ⟨by dsimp only;omega,hx5,don 8 (fun h=>absurd h (by decide))⟩ (by dsimp only;omega)
      | exact Ad (i+1,o) ⟨rfl,rfl,rfl,rfl,rfl,trivial⟩ ⟨by dsimp only;omega,hx5,don o (fun h=>⟨ho h,hap,fun h=>by omega,fun h=>by omega⟩)⟩ (by dsimp only;omega)
  · (repeat' (first|refine eV Z Z (A6 Z Z Z (rD.cellAt rfl)) ?_|refine Sy ?_|refine Dy (fun hh=>?_) fun hh=>?_))
    all_goals (first|(exfalso;omega)|skip)
    refine A5 Z Z ⟨⟨_,rfl,fun h n hn htn=>?_⟩,xD.trans hx⟩
    obtain⟨j,hj⟩:=List.getElem?_of_mem hn
    exact hall h j (by have:=(List.getElem?_eq_some_iff.1 hj).1;omega) n hj htn
end
section
open Go.RowKit Go.En
theorem loop_nx2 {α:Type} {l:List α} {i:Nat} {x:α} {f:α→Prop} (hx:l[i]?=some x) (hall:∀ j,j<i→∀ y,l[j]?=some y→f y) (h:f x):∀ j,j<i+1→∀ y,l[j]?=some y→f y:=fun j hj y hy=>by
  by_cases hj2:j<i
  · exact hall j hj2 y hy
  · obtain rfl:j=i:=by omega
    rw [hx] at hy;cases hy;exact h
attribute [local irreducible] E EL K Val Enters Rt Calls bodyPost Code.wp RQ
theorem rname_some (s:List UInt8) (w:World) (hl:s.length≤9223372036854775807):Calls Tryz.prog 147 #[str s] w (Rt fun u w'=>(∃ b,u=.bool b)∧Ext w w'):=rname_any s w hl
theorem tier_any (ts:List Tier) (i:Nat) (t:Tier) (v:Value) (w:World) (hv:Sl w v ts) (ht:ts[i]?=some t) (hn:∀ t∈ts,t.name.length≤9223372036854775807) :
    Calls Tryz.prog 171 #[v,int i] w (Rt fun u w'=>(∃ e:Int,u=int e∧(e=0→TierOK ts i t))∧Ext w w'):=by
  refine A7 (n:=136) (args:=[v,int i]) Tryz.func171 rfl Tryz.ntmps171 (by simp) ?_
  have hv0:=hv
  obtain⟨a,cap,rfl,hc,hm,hp⟩:=hv.sl
  have hilt:=(List.getElem?_eq_some_iff.1 ht).1
  obtain⟨b,off,rfl⟩:=hp (by omega)
  have hat:=Cg hv0 ht
  have hnl:=hn t (List.mem_of_getElem? ht)
  (repeat' (first|refine eV Z Z (A0 (m:=i) Z Z Z Z (by omega)) ?_|refine eV Z Z (Ab Z Z Z hat rfl) ?_|refine Sy ?_))
  refine Ap Z Z Z (fun b5 w5 x5 hb5 r50=>?_)
  refine Ah (cs:=tierC t) r50 x5 (by omega) Z Z Z Z Z Z Z Z (Nat.le_refl _) (fun w6 r5' x6 k6=>?_)
  have r5:Row w6 b5 88 (tierC t):=r5'
  clear r5'
  (repeat' ((fail_if_success (refine Ac (x:=(Code.seq (Code.region 4 _ _) _)) ?_));first|refine eV Z Z (A6 Z Z Z (r5.cellAt rfl)) ?_|(refine A9 Z Z (A3 Z Z en147) (rname_some _ _ hnl) (fun vC wC hC=>?_);obtain⟨⟨bb,rfl⟩,xC⟩:=hC;cases bb)|refine Sy ?_))
  · exact A5 Z Z ⟨⟨_,rfl,fun h=>by omega⟩,x6.trans xC⟩
  have hx0:=x6.trans xC
  have r50:=r5.ext xC
  clear r5 k6
  refine Fl (ι:=Unit) (fun _=>[(0,.slice (some ⟨b,off,none⟩) ts.length cap),(1,int i),(5,.pointer (some ⟨b5,0,none⟩))]) (fun _ wr=>Ext wC wr) ?_ ?_
  · (repeat' (first|refine Sy ?_))
    refine Ae (ι:=Nat) (fun k=>[(0,.slice (some ⟨b,off,none⟩) ts.length cap),(1,int i),(5,.pointer (some ⟨b5,0,none⟩)),(6,int k)]) (fun k wr=>k≤i∧Ext wC wr) (fun k=>i-k) 0
      ⟨rfl,rfl,rfl,rfl,trivial⟩ ⟨Nat.zero_le _,Ext.refl _⟩ ?_
    rintro k wr ⟨hk,hx⟩
    by_cases hlt:k<i
    · obtain⟨p,hpk⟩:∃ p,ts[k]?=some p:=⟨_,List.getElem?_eq_getElem (by omega)⟩
      have hatk:=Cg (hv0.ext (hx0.trans hx)) hpk
      have r5r:=r50.ext hx
      (repeat' (first|refine yV Z Z (fun _ _ _=>A0 (m:=k) Z Z Z Z (by omega)) ?_|refine yV Z Z (fun wq _ xq=>A6 Z Z Z ((hatk.ext xq).cellAt (j:=0) Z)) ?_|refine yV Z Z (fun wq _ xq=>A6 Z Z Z ((r5r.ext xq).cellAt (j:=0) Z)) ?_|refine Sy ?_|refine Dy (fun hh=>?_) fun hh=>?_|refine yqZ ?_|refine yqX (fun hh=>?_) fun hh=>?_|refine E_dq Aa (by kernel_rfl) Z ?_|refine yN Z (fun wq xq=>?_)))
      all_goals (first|(exfalso;omega)|skip)
      · exact A5 Z Z ⟨⟨_,rfl,fun h=>by omega⟩,(hx0.trans hx).trans xq⟩
      · exact Ad (k+1) ⟨rfl,rfl,rfl,rfl,trivial⟩ ⟨by omega,hx.trans xq⟩ (by omega)
    · (repeat' (first|refine Sy ?_|refine Dy (fun hh=>?_) fun hh=>?_))
      all_goals (first|(exfalso;omega)|skip)
      exact Bx () ⟨rfl,rfl,rfl,trivial⟩ hx
  rintro⟨⟩ wr hx
  have hx1:=hx0.trans hx
  have r51:=r50.ext hx
  clear hx0 r50
  (repeat' ((fail_if_success (refine Ac (x:=(Code.seq (Code.region 13 _ _) _)) ?_));first|refine eV Z Z (A6 Z Z Z (r51.cellAt rfl)) ?_|refine Sy ?_|refine Dy (fun hh=>?_) fun hh=>?_))
  all_goals (first|exact A5 Z Z ⟨⟨_,rfl,fun h=>by omega⟩,hx1⟩|skip)
  refine Fl (ι:=Unit) (fun _=>[(0,.slice (some ⟨b,off,none⟩) ts.length cap),(1,int i),(5,.pointer (some ⟨b5,0,none⟩))]) (fun _ w2=>Ext wr w2∧(t.role≠0→∀ k p,k<i→ts[k]?=some p→p.role≠t.role)) ?_ ?_
  · (repeat' (first|refine Sy ?_))
    refine Ae (ι:=Nat) (fun k=>[(0,.slice (some ⟨b,off,none⟩) ts.length cap),(1,int i),(5,.pointer (some ⟨b5,0,none⟩)),(7,int k)]) (fun k w2=>k≤i∧Ext wr w2∧(t.role≠0→∀ j,j<k→∀ p,ts[j]?=some p→p.role≠t.role)) (fun k=>i-k) 0
      ⟨rfl,rfl,rfl,rfl,trivial⟩ ⟨Nat.zero_le _,Ext.refl _,fun _ j hj=>by omega⟩ ?_
    rintro k w2 ⟨hk,hx2,hall⟩
    by_cases hlt:k<i
    · obtain⟨p,hpk⟩:∃ p,ts[k]?=some p:=⟨_,List.getElem?_eq_getElem (by omega)⟩
      have hatk:=Cg (hv0.ext (hx1.trans hx2)) hpk
      have r5r:=r51.ext hx2
      (repeat' (first|refine yV Z Z (fun _ _ _=>A0 (m:=k) Z Z Z Z (by omega)) ?_|refine yV Z Z (fun wq _ xq=>A6 Z Z Z ((hatk.ext xq).cellAt (j:=2) Z)) ?_|refine yV Z Z (fun wq _ xq=>A6 Z Z Z ((r5r.ext xq).cellAt (j:=2) Z)) ?_|refine Sy ?_|refine Dy (fun hh=>?_) fun hh=>?_|refine yqZ ?_|refine yqX (fun hh=>?_) fun hh=>?_|refine E_dq Aa (by kernel_rfl) Z ?_|refine yN Z (fun wq xq=>?_)|refine yO Z Z ?_))
      all_goals (first|(exfalso;omega)|skip)
      all_goals first
        | exact A5 Z Z ⟨⟨_,rfl,fun h=>by omega⟩,(hx1.trans hx2).trans xq⟩
        | exact Ad (k+1) ⟨rfl,rfl,rfl,rfl,trivial⟩ ⟨by omega,hx2.trans xq,fun h0=>loop_nx2 hpk (hall h0) (by assumption)⟩ (by omega)
        | exact Ad (k+1) ⟨rfl,rfl,rfl,rfl,trivial⟩ ⟨by omega,hx2.trans xq,fun h0=>absurd h0 ‹_›⟩ (by omega)
    · (repeat' (first|refine Sy ?_|refine Dy (fun hh=>?_) fun hh=>?_))
      all_goals (first|(exfalso;omega)|skip)
      exact Bx () ⟨rfl,rfl,rfl,trivial⟩ ⟨hx2,fun h0 k2 p hk2 hp2=>hall h0 k2 (by omega) p hp2⟩
  rintro⟨⟩ w2 ⟨hx2,huniq⟩
  have hx3:=hx1.trans hx2
  have r52:=r51.ext hx2
  clear hx1 r51
  by_cases hroot:t.kind=0
  · (repeat' (first|refine eV Z Z (A6 Z Z Z (r52.cellAt rfl)) ?_|(refine yN Z (fun wq xq=>?_);replace hx3:=hx3.trans xq;replace r52:=r52.ext xq)|refine yV Z Z (fun wq _ xq=>A6 Z Z Z ((r52.ext xq).cellAt rfl)) ?_|refine An Z Z (fun _ _ _=>A3 Z Z en202) (fun wq _=>kind_any _ wq) ?_|refine An Z Z (fun _ _ _=>A3 Z Z en203) (fun wq _=>over_any _ wq) ?_|refine Sy ?_|refine Dy (fun hh=>?_) fun hh=>?_|refine yqZ ?_|refine yqX (fun hh=>?_) fun hh=>?_|refine E_dq Aa (by kernel_rfl) Z ?_|refine yO Z Z ?_))
    all_goals (first|(exfalso;omega)|skip)
    all_goals (first|exact A5 Z Z ⟨⟨_,rfl,fun h=>by omega⟩,hx3⟩|skip)
    all_goals
      refine A5 Z Z ⟨⟨_,rfl,fun _=>?_⟩,hx3⟩
      have hk:¬ (0≤N2 t.role∧t.kind≠N2 t.role):=by rintro⟨h1,h2⟩;first|exact absurd h1 ‹_› | exact absurd h2 ‹_›
      have ho:¬ 0≤P4 t.role:=‹_›
      clear hh
      unfold N2 at hk
      unfold P4 at ho
      exact⟨by omega,by omega,huniq,fun _=>by omega,fun h=>absurd hroot h,fun h=>by omega,by split at hk <;>(try split at hk) <;>(try split at hk) <;> omega,by split at ho <;>(try split at ho) <;>(try split at ho) <;> omega⟩
  · by_cases hpar:0≤t.parent∧t.parent<i
    · obtain⟨m,hmm⟩:∃ m:Nat,t.parent=(m:Int):=⟨t.parent.toNat,by omega⟩
      have hmi:m<i:=by omega
      obtain⟨p,hpm⟩:∃ p,ts[m]?=some p:=⟨_,List.getElem?_eq_getElem (by omega)⟩
      have hatp:=Cg (hv0.ext hx3) hpm
      have hpm2:ts[t.parent.toNat]?=some p:=by rw [hmm,Int.toNat_natCast,hpm]
      obtain⟨bt,hbt⟩:∃ bt,bt=Bj t.kind:=⟨_,rfl⟩
      obtain⟨bp,hbp⟩:∃ bp,bp=Bj p.kind:=⟨_,rfl⟩
      have ct:=timed_any t.kind
      have cp:=timed_any p.kind
      rw [← hbt] at ct
      rw [← hbp] at cp
      have hbb2:bp=true→Bj p.kind=true:=fun h=>by rw [← hbp];exact h
      have hbt2:t.kind=1∨t.kind=2→bt=true:=fun h=>by rw [hbt];exact Jk.2 (by omega)
      have r52':Row w2 b5 88 [str t.name,int t.kind,int t.role,int m]:=by rw [← hmm];exact r52
      clear r52
      clear hbt hbp
      (repeat' ((fail_if_success (refine Ac (x:=(Code.seq (Code.region 21 _ _) _)) ?_));first|refine eV Z Z (A6 Z Z Z (r52'.cellAt rfl)) ?_|refine Sy ?_|refine Dy (fun hh=>?_) fun hh=>?_))
      all_goals (first|(exfalso;omega)|skip)
      refine Fl (ι:=Unit) (fun _=>[(0,.slice (some ⟨b,off,none⟩) ts.length cap),(1,int i),(5,.pointer (some ⟨b5,0,none⟩)),(8,.bool false)]) (fun _ w3=>Ext w2 w3∧(bt=true→bp=true)) ?_ ?_
      · cases bt <;> cases bp
        all_goals
          (repeat' (first|refine eV Z Z (A6 Z Z Z (r52'.cellAt rfl)) ?_|refine eV Z Z (A0 (m:=m) Z Z Z Z (by omega)) ?_|refine eV Z Z (A6 Z Z Z (hatp.cellAt (j:=1) Z)) ?_|(refine cqC (ct _) en142 fun wC xC=>?_;replace hatp:=hatp.ext xC;replace r52':=r52'.ext xC)|(refine cqC (cp _) en142 fun wD xD=>?_;replace xC:=xC.trans xD)|refine Sy ?_))
        all_goals (first|exact A5 Z Z ⟨⟨_,rfl,fun h=>by omega⟩,hx3.trans xC⟩|exact Bx () ⟨rfl,rfl,rfl,rfl,trivial⟩ ⟨xC,by simp⟩)
      rintro⟨⟩ w3 ⟨xm,hbb⟩
      replace hx3:=hx3.trans xm
      replace r52':=r52'.ext xm
      replace hatp:=hatp.ext xm
      clear ct cp
      refine Fl (ι:=Unit) (fun _=>[(0,.slice (some ⟨b,off,none⟩) ts.length cap),(1,int i),(5,.pointer (some ⟨b5,0,none⟩)),(8,.bool false)]) (fun _ w4=>Ext w3 w4∧¬ (0≤N2 t.role∧t.kind≠N2 t.role)) ?_ ?_
      · (repeat' (first|refine yV Z Z (fun wq _ xq=>A6 Z Z Z ((r52'.ext xq).cellAt rfl)) ?_|refine An Z Z (fun _ _ _=>A3 Z Z en202) (fun wq _=>kind_any _ wq) ?_|refine Sy ?_|refine yqZ ?_|refine yqX (fun hh=>?_) fun hh=>?_|refine E_dq Aa (by kernel_rfl) Z ?_|refine yN Z (fun wq xq=>?_)|refine yO Z Z ?_))
        all_goals (first|exact A5 Z Z ⟨⟨_,rfl,fun h=>by omega⟩,hx3.trans xq⟩|exact Bx () ⟨rfl,rfl,rfl,rfl,trivial⟩ ⟨xq,by rintro⟨h1,h2⟩;first|exact absurd h1 ‹_› | exact absurd h2 ‹_›⟩)
      rintro⟨⟩ w4 ⟨xn,hk⟩
      replace hx3:=hx3.trans xn
      replace r52':=r52'.ext xn
      replace hatp:=hatp.ext xn
      (repeat' (first|refine yV Z Z (fun wq _ xq=>A6 Z Z Z ((r52'.ext xq).cellAt rfl)) ?_|refine yV Z Z (fun _ _ _=>A0 (m:=m) Z Z Z Z (by omega)) ?_|refine yV Z Z (fun wq _ xq=>A6 Z Z Z ((hatp.ext xq).cellAt (j:=2) Z)) ?_|refine An Z Z (fun _ _ _=>A3 Z Z en203) (fun wq _=>over_any _ wq) ?_|refine Sy ?_|refine yqZ ?_|refine yqX (fun hh=>?_) fun hh=>?_|refine E_dq Aa (by kernel_rfl) Z ?_|refine yN Z (fun wq xq=>?_)|refine yO Z Z ?_))
      all_goals (first|(exfalso;omega)|skip)
      all_goals (first|exact A5 Z Z ⟨⟨_,rfl,fun h=>by omega⟩,hx3.trans xq⟩|skip)
      all_goals
        refine A5 Z Z ⟨⟨_,rfl,fun _=>?_⟩,hx3.trans xq⟩
        have ho:¬ (0≤P4 t.role∧p.role≠P4 t.role):=by rintro⟨h1,h2⟩;first|exact absurd h1 ‹_› | exact absurd h2 ‹_›
        clear hh
        unfold N2 at hk
        unfold P4 at ho
        refine⟨by omega,by omega,huniq,fun h=>absurd h hroot,fun _=>by omega,fun h=>⟨p,hpm2,hbb2 (hbb (hbt2 h))⟩,?_,?_⟩
        · split at hk <;>(try split at hk) <;>(try split at hk) <;> omega
        · refine⟨fun h=>⟨hroot,p,hpm2,?_⟩,fun h=>⟨p,hpm2,?_⟩,fun h=>⟨p,hpm2,?_⟩⟩
          all_goals (split at ho <;>(try split at ho) <;>(try split at ho) <;> omega)
    · (repeat' (first|refine eV Z Z (A6 Z Z Z (r52.cellAt rfl)) ?_|refine Sy ?_|refine Dy (fun hh=>?_) fun hh=>?_))
      all_goals (first|(exfalso;omega)|skip)
      all_goals exact A5 Z Z ⟨⟨_,rfl,fun h=>by omega⟩,hx3⟩
end
end Go.Proofs.YtjicdgejhkgpgaaGreatDoor