/-
  Own text of the proof.
-/
import Derived.Test.YtjicdgejhkgpgaaGreatDoorYw
import Derived.Test.YtjicdgejhkgpgaaGreatDoorYh
set_option linter.all false
set_option maxHeartbeats 4000000
set_option maxRecDepth 8000
namespace Go.Proofs.YtjicdgejhkgpgaaGreatDoor
section
open Go.RowKit Go.En Go.Pv
theorem lnksOf_none {lex:List En} {id:Int} (h:getE lex id=none):J1 lex id=[]:=by unfold J1;rw [h]
theorem lnksOf_some {lex:List En} {id:Int} {e:En} (h:getE lex id=some e):J1 lex id=e.links:=by unfold J1;rw [h]
theorem idx_nat {lex:List En} {id:Int} (h:0≤idxE lex id):∃ q:Nat,idxE lex id=(q:Int)∧q<lex.length:=by
  cases hg:getE lex id with
  | none=>rw [Ff hg] at h;omega
  | some e=>
    obtain⟨i,h1,h2⟩:=Hn hg
    exact⟨i,h1,(List.getElem?_eq_some_iff.1 h2).1⟩
attribute [local irreducible] E EL K Val Enters Rt Calls bodyPost Code.wp RQ
structure RcG (w:World) (bM B:Nat) (n:Nat) (nv:Value) (next:List Int) (mv:Value) (s:(Int→Bool) × List Int) (wk:World):Prop where
  ext:Ext w wk
  met:Row wk bM 4 (blv n s.1)
  own:wk.ownsRow w.heap.size 3 1 mv s.2.length (s.2.map int)
  high:∀ b,mv.ownBlock=some b→B≤b
  next:SlG (fun b=>b≠bM∧b<B) wk nv next
  size:B≤wk.heap.size
theorem RcG.ext' {w:World} {bM B n:Nat} {nv mv:Value} {next:List Int} {s:(Int→Bool) × List Int} {wk wn:World} (h:RcG w bM B n nv next mv s wk) (x:Ext wk wn):RcG w bM B n nv next mv s wn:=
  ⟨h.ext.trans x,h.met.ext x,Ak h.own x,h.high,h.next.ext x,Nat.le_trans h.size x.size⟩
theorem Li (lex:List En) (h12:∀ e∈lex,e.links.length≤12) (hn:lex.length≤5) (id kind:Int) (ev:Value) (w:World) (hv:Sl w ev lex):Calls Tryz.prog 159 #[ev,int id,int kind] w (Rt fun u w'=>Sl w' u (H8 lex id kind)∧Ext w w'):=by
  have hv0:=hv
  obtain⟨a,cap,rfl,hc,hm,hp⟩:=hv.sl
  obtain⟨n,hnl⟩:∃ n,n=lex.length:=⟨_,rfl⟩
  refine A7 (n:=110) (args:=[.slice a lex.length cap,int id,int kind]) Tryz.func159 rfl Tryz.ntmps159 (by simp) ?_
  (repeat' (first|refine M3 (m:=lex.length) Z Z Z Z Z Z Z Z (by omega) (by omega) (fun bM wM hbM rM0 xM=>?_)|refine Sy ?_|refine eL Z Z Z Z Z Z Z Z (fun bS wS xS hbS rS=>?_)))
  rw [Jz] at rM0
  have hMS:bM<wM.heap.size:=rM0.lt
  have hwM:w.heap.size≤bM:=by omega
  have h0:SlG (fun b=>b≠bM) wS (.slice (some ⟨bS,0,none⟩) 1 1) [id]:=C5 (e:=3) (B:=bS) (n:=1) (css:=[[int id] ]) (Cq rS rfl (Nat.le_refl _) (by omega)) ⟨rfl,trivial⟩ (fun b hb=>by omega) rfl (by simp)
  refine Ae (ι:=Nat × Value) (fun z=>[(0,.slice a lex.length cap),(2,int kind),(7,.slice (some ⟨bM,0,none⟩) lex.length lex.length),(8,z.2),(9,int z.1)])
    (fun z wr=>z.1≤lex.length+1∧Ext w wr∧Row wr bM 4 (blv lex.length (rit lex kind id z.1).1)∧SlG (fun b=>b≠bM) wr z.2 (rit lex kind id z.1).2) (fun z=>lex.length+1-z.1) (0,.slice (some ⟨bS,0,none⟩) 1 1)
    ⟨rfl,rfl,rfl,rfl,rfl,trivial⟩ ⟨Nat.zero_le _,xM.trans xS,rM0.ext xS,h0⟩ ?_
  rintro⟨r,nv⟩ wr ⟨hr,hX,hM,hN⟩
  dsimp only at hr hX hM hN ⊢
  have hMr:=hM.lt
  by_cases hrl:r≤lex.length
  · obtain⟨NX,hNX⟩:∃ NX,NX=(rit lex kind id r).2:=⟨_,rfl⟩
    obtain⟨S0,hS0⟩:∃ S0,S0=(rit lex kind id r).1:=⟨_,rfl⟩
    have hNl:NX.length≤248832:=by
      have h1:=rit_len h12 kind id r
      have h2:12 ^ r≤12 ^ 5:=Nat.pow_le_pow_right (by omega) (by omega)
      rw [hNX];omega
    have hrit:rit lex kind id (r+1)=NX.foldl (rnx lex kind) (fun p=>S0 p,[]):=by rw [hNX,hS0];rfl
    rw [← hNX] at hN
    rw [← hS0] at hM
    obtain⟨na,nc,rfl,_,hnm,hnp⟩:=hN.sl
    (repeat' (first|refine Sy ?_|refine Dy (fun hh=>?_) fun hh=>?_))
    all_goals (try (exfalso;omega))
    have hN':SlG (fun b=>b≠bM∧b<wr.heap.size) wr (.slice na NX.length nc) NX:=hN.move fun b hb hlt=>⟨⟨hb,hlt⟩,rfl⟩
    refine Ae (ι:=Nat × Value) (fun z=>[(0,.slice a lex.length cap),(2,int kind),(7,.slice (some ⟨bM,0,none⟩) lex.length lex.length),(8,.slice na NX.length nc),(9,int r),(10,z.2),(11,int z.1)])
      (fun z wk=>z.1≤NX.length∧RcG w bM wr.heap.size lex.length (.slice na NX.length nc) NX z.2 ((NX.take z.1).foldl (rnx lex kind) (fun p=>S0 p,[])) wk) (fun z=>NX.length-z.1) (0,.slice none 0 0)
      ⟨rfl,rfl,rfl,rfl,rfl,rfl,rfl,trivial⟩ ⟨Nat.zero_le _,⟨hX,by rw [List.take_zero];exact hM,⟨rfl,.inl ⟨rfl,rfl⟩⟩,fun b hb=>(by cases hb),hN',Nat.le_refl _⟩⟩ ?_
    rintro⟨i,mv⟩ wk ⟨hi,hG⟩
    dsimp only at hi hG ⊢
    by_cases hil:i<NX.length
    · obtain⟨nb,no,rfl⟩:=hnp (by omega)
      obtain⟨y,hyi⟩:∃ y,NX[i]?=some y:=⟨_,List.getElem?_eq_getElem hil⟩
      obtain⟨s,hs⟩:∃ s,s=(NX.take i).foldl (rnx lex kind) (fun p=>S0 p,[]):=⟨_,rfl⟩
      have hs1:(NX.take (i+1)).foldl (rnx lex kind) (fun p=>S0 p,[])=rnx lex kind s y:=by rw [Pn hyi,hs]
      have hsl:s.2.length≤12*i:=by
        have:=Ou h12 kind (NX.take i) (fun p=>S0 p,[])
        rw [← hs,List.length_take] at this
        simp only [List.length_nil] at this
        omega
      rw [← hs] at hG
      have hcy:=(Go.Pv.int_elem hG.next hyi).one
      have hvk:=hv0.ext hG.ext
      cases hg:getE lex y with
      | none=>
        have hst:rnx lex kind s y=s:=by unfold rnx;rw [lnksOf_none hg];rfl
        have cf:=Fk lex y _ wk hvk
        rw [Ff hg] at cf
        (repeat' (first|refine eV Z Z (A0 (m:=i) Z Z Z (by first|rfl|omega) (by omega)) ?_|(refine cqC cf Pt fun wC xC=>?_)|refine Ly ?_|refine Dy (fun hh=>?_) fun hh=>?_))
        all_goals (try (exfalso;omega))
        refine Ae (ι:=Unit) (fun _=>[(0,.slice a lex.length cap),(2,int kind),(7,.slice (some ⟨bM,0,none⟩) lex.length lex.length),(8,.slice (some ⟨nb,no,none⟩) NX.length nc),(9,int r),(10,mv),(11,int i),(12,int (-1)),(13,int 0)]) (fun _ wn=>Ext wC wn) (fun _=>0) ()
          ⟨rfl,rfl,rfl,rfl,rfl,rfl,rfl,rfl,rfl,trivial⟩ (Ext.refl _) ?_
        rintro _ wn hxn
        (repeat' (first|refine Sy ?_|refine Dy (fun hh=>?_) fun hh=>?_))
        all_goals (try (exfalso;omega))
        exact Ad (i+1,mv) ⟨rfl,rfl,rfl,rfl,rfl,rfl,rfl,trivial⟩ ⟨by dsimp only;omega,by dsimp only;rw [hs1,hst];exact hG.ext' (xC.trans hxn)⟩ (by dsimp only;omega)
      | some e=>
        obtain⟨q,hq,hqe⟩:=Hn hg
        have hql:=(List.getElem?_eq_some_iff.1 hqe).1
        have hst:rnx lex kind s y=e.links.foldl (rst lex kind) s:=by unfold rnx;rw [lnksOf_some hg]
        have hel:=h12 e (List.mem_of_getElem? hqe)
        have cf:=Fk lex y _ wk hvk
        rw [hq] at cf
        obtain⟨eb,eo,rfl⟩:=hp (by omega)
        (repeat' (first|refine eV Z Z (A0 (m:=i) Z Z Z (by first|rfl|omega) (by omega)) ?_|(refine cqC cf Pt fun wC xC=>?_)|refine Ly ?_|refine Dy (fun hh=>?_) fun hh=>?_))
        all_goals (try (exfalso;omega))
        refine Ae (ι:=Nat × Value) (fun z=>[(0,.slice (some ⟨eb,eo,none⟩) lex.length cap),(2,int kind),(7,.slice (some ⟨bM,0,none⟩) lex.length lex.length),(8,.slice (some ⟨nb,no,none⟩) NX.length nc),(9,int r),(10,z.2),(11,int i),(12,int q),(13,int z.1)])
          (fun z wn=>z.1≤e.links.length∧RcG w bM wr.heap.size lex.length (.slice (some ⟨nb,no,none⟩) NX.length nc) NX z.2 ((e.links.take z.1).foldl (rst lex kind) s) wn) (fun z=>e.links.length-z.1) (0,mv)
          ⟨rfl,rfl,rfl,rfl,rfl,rfl,rfl,rfl,rfl,trivial⟩ ⟨Nat.zero_le _,hG.ext' xC⟩ ?_
        rintro⟨k,m2⟩ wn ⟨hk,hH⟩
        dsimp only at hk hH ⊢
        have hvn:=hv0.ext hH.ext
        obtain⟨d0,f0,d1,f1,d2,f2,d3,f3,d4,f4,hat,_,_,_,_,hlk,_⟩:=B3 hvn hqe
        obtain⟨_,_,ee,_,hlm,hlp⟩:=hlk.sl
        cases ee
        by_cases hkl:k<e.links.length
        · obtain⟨lb,lo,rfl⟩:=hlp (by omega)
          obtain⟨x,hxk⟩:∃ x,e.links[k]?=some x:=⟨_,List.getElem?_eq_getElem hkl⟩
          obtain⟨t,ht⟩:∃ t,t=(e.links.take k).foldl (rst lex kind) s:=⟨_,rfl⟩
          have ht1:(e.links.take (k+1)).foldl (rst lex kind) s=rst lex kind t x:=by rw [Pn hxk,ht]
          have htl:t.2.length≤12*i+12:=by
            have:=Ov lex kind (e.links.take k) s
            rw [← ht,List.length_take] at this
            omega
          rw [← ht] at hH
          have hatx:=Hj hlk hxk
          have hXn:=Ext.refl wn
          have cx:=fun wz hz=>Fk lex x.to (.slice (some ⟨eb,eo,none⟩) lex.length cap) wz hz
          by_cases hkd:x.kind=kind∧0≤idxE lex x.to
          · obtain⟨q2,hq2,hq2l⟩:=idx_nat hkd.2
            rw [hq2] at cx
            have hcm:wn.cell? ⟨bM,0+q2*1,none⟩=some (.bool (t.1 (q2:Int))):=hH.met.cellAt (by rw [show 0+q2*1=q2 by omega];exact Fu hq2l)
            cases hmt:t.1 (q2:Int) with
            | true=>
              have hrs:rst lex kind t x=t:=by unfold rst;rw [if_neg];rintro⟨_,_,h3⟩;rw [hq2,hmt] at h3;cases h3
              rw [hmt] at hcm
              (repeat' (first|(refine Am Z Z Z Z Z Z Z Z Z Z (fun bE wE xE hbE rE=>?_);replace hXn:=hXn.trans xE;replace hat:=hat.ext xE;replace hatx:=hatx.ext xE;replace hvn:=hvn.ext xE;replace hcm:=Ext.cell xE hcm)|refine eV Z Z (A0 (m:=q) Z Z Z (by first|rfl|omega) (by omega)) ?_|refine eV Z Z (A0 (m:=k) Z Z Z (by first|rfl|omega) (by omega)) ?_|refine eV Z Z (A0 (m:=q2) Z Z Z (by first|rfl|omega) (by omega)) ?_|(refine cqC (cx _ hvn) Pt fun wC xC=>?_;replace hXn:=hXn.trans xC;replace hat:=hat.ext xC;replace hatx:=hatx.ext xC;replace hvn:=hvn.ext xC;replace hcm:=Ext.cell xC hcm;replace rE:=rE.ext xC)|refine Ly ?_|refine Dy (fun hh=>?_) fun hh=>?_))
              all_goals (try (exfalso;omega))
              exact Ad (k+1,m2) ⟨rfl,rfl,rfl,rfl,rfl,rfl,rfl,rfl,rfl,trivial⟩ ⟨by dsimp only;omega,by dsimp only;rw [ht1,hrs];exact hH.ext' hXn⟩ (by dsimp only;omega)
            | false=>
              have hrs:rst lex kind t x=(fun p=>if p=(q2:Int) then true else t.1 p,t.2++[x.to]):=by unfold rst;rw [if_pos ⟨hkd.1,hkd.2,by rw [hq2];exact hmt⟩,hq2]
              rw [hmt] at hcm
              (repeat' ((fail_if_success (refine Ac (x:=(Code.region 17 _ _)) ?_));first|(refine Am Z Z Z Z Z Z Z Z Z Z (fun bE wE xE hbE rE=>?_);replace hXn:=hXn.trans xE;replace hat:=hat.ext xE;replace hatx:=hatx.ext xE;replace hvn:=hvn.ext xE;replace hcm:=Ext.cell xE hcm)|refine eV Z Z (A0 (m:=q) Z Z Z (by first|rfl|omega) (by omega)) ?_|refine eV Z Z (A0 (m:=k) Z Z Z (by first|rfl|omega) (by omega)) ?_|refine eV Z Z (A0 (m:=q2) Z Z Z (by first|rfl|omega) (by omega)) ?_|(refine cqC (cx _ hvn) Pt fun wC xC=>?_;replace hXn:=hXn.trans xC;replace hat:=hat.ext xC;replace hatx:=hatx.ext xC;replace hvn:=hvn.ext xC;replace hcm:=Ext.cell xC hcm;replace rE:=rE.ext xC)|refine Ly ?_|refine Dy (fun hh=>?_) fun hh=>?_))
              all_goals (try (exfalso;omega))
              have hK:=hH.ext' hXn
              have hHs:=hH.size
              have hCs:=hXn.size
              have hne:m2.ownBlock≠some bM:=fun e'=>by have:=hK.high bM e';omega
              clear hcm hat hatx hvn
              (repeat' ((fail_if_success (refine Ac (x:=(Code.region 18 _ _)) ?_));first|refine eV Z Z (A0 (m:=q2) Z Z Z (by first|rfl|omega) (by omega)) ?_|(refine G6 hK.met hK.ext hwM rfl rfl rfl rfl rfl rfl rfl (by rw [Ft];omega) (fun wN rN xN kN=>?_))|refine Sy ?_))
              all_goals (try (exfalso;omega))
              have rEN:=kN.row rE (fun e'=>by cases e';omega)
              rw [show 0+q2*1=q2 by omega,Jb] at rN
              have hownN:=hK.own.kept kN (.inr hne)
              have hnextN:=hK.next.move (kN.mv (G:=fun b=>b≠bM∧b<wr.heap.size) fun b hb e'=>by cases e';exact hb.1 rfl)
              have hNs:=kN.size
              clear rE
              (repeat' (first|(refine Ay (news:=[int x.to]) (Ak hownN xS) (xN.trans xS) (fun _=>⟨_,_,rfl,rS.at⟩) Z Z Z Z Z Z Z Z Z (by omega) (by omega) (fun vJ wJ oJ xJ kJ hJ=>?_))|refine Ly ?_|refine eL Z Z Z Z Z Z Z Z (fun bS wS xS hbS rS=>?_)))
              all_goals (try (exfalso;omega))
              have hSs:=xS.size
              have hJs:=kJ.size
              refine Ad (k+1,vJ) ⟨rfl,rfl,rfl,rfl,rfl,rfl,rfl,rfl,rfl,trivial⟩ ⟨by dsimp only;omega,?_⟩ (by dsimp only;omega)
              dsimp only
              rw [ht1,hrs]
              refine⟨xJ,kJ.row (rN.ext xS) (fun e'=>hne e'.symm),by simpa using oJ,fun b hb=>?_,(hnextN.ext xS).move (kJ.mv (G:=fun b=>b≠bM∧b<wr.heap.size) fun b hb e'=>by have:=hK.high b e'.symm;omega),by omega⟩
              rcases hJ with h|h
              · exact hK.high b (by rw [← h];exact hb)
              · rw [h] at hb;cases hb;omega
          · have hrs:rst lex kind t x=t:=by unfold rst;rw [if_neg];rintro⟨h1,h2,_⟩;exact hkd ⟨h1,h2⟩
            obtain⟨zi,hzi⟩:∃ z,idxE lex x.to=z:=⟨_,rfl⟩
            rw [hzi] at cx hkd
            (repeat' (first|(refine Am Z Z Z Z Z Z Z Z Z Z (fun bE wE xE hbE rE=>?_);replace hXn:=hXn.trans xE;replace hat:=hat.ext xE;replace hatx:=hatx.ext xE;replace hvn:=hvn.ext xE)|refine eV Z Z (A0 (m:=q) Z Z Z (by first|rfl|omega) (by omega)) ?_|refine eV Z Z (A0 (m:=k) Z Z Z (by first|rfl|omega) (by omega)) ?_|(refine cqC (cx _ hvn) Pt fun wC xC=>?_;replace hXn:=hXn.trans xC;replace hat:=hat.ext xC;replace hatx:=hatx.ext xC;replace hvn:=hvn.ext xC;replace rE:=rE.ext xC)|refine Ly ?_|refine Dy (fun hh=>?_) fun hh=>?_))
            all_goals (try (exfalso;omega))
            all_goals exact Ad (k+1,m2) ⟨rfl,rfl,rfl,rfl,rfl,rfl,rfl,rfl,rfl,trivial⟩ ⟨by dsimp only;omega,by dsimp only;rw [ht1,hrs];exact hH.ext' hXn⟩ (by dsimp only;omega)
        · obtain rfl:k=e.links.length:=by omega
          rw [List.take_length] at hH
          (repeat' (first|refine eV Z Z (A0 (m:=q) Z Z Z (by first|rfl|omega) (by omega)) ?_|refine Ly ?_|refine Dy (fun hh=>?_) fun hh=>?_))
          all_goals (try (exfalso;omega))
          exact Ad (i+1,m2) ⟨rfl,rfl,rfl,rfl,rfl,rfl,rfl,trivial⟩ ⟨by dsimp only;omega,by dsimp only;rw [hs1,hst];exact hH⟩ (by dsimp only;omega)
    · obtain rfl:i=NX.length:=by omega
      rw [List.take_length,← hrit] at hG
      (repeat' (first|refine Sy ?_|refine Dy (fun hh=>?_) fun hh=>?_))
      all_goals (try (exfalso;omega))
      refine Ad (r+1,mv) ⟨rfl,rfl,rfl,rfl,rfl,trivial⟩ ⟨by dsimp only;omega,hG.ext,hG.met,?_⟩ (by dsimp only;omega)
      have hml:=rit_len h12 kind id (r+1)
      have h2:12 ^ (r+1)≤12 ^ 6:=Nat.pow_le_pow_right (by omega) (by omega)
      dsimp only
      exact C5 (css:=(rit lex kind id (r+1)).2.map fun z=>[int z]) (by rw [Av];exact own_rebase hG.own hG.high) (B4 _ _) (fun b hb=>by omega) rfl (by omega)
  · obtain rfl:r=lex.length+1:=by omega
    obtain⟨S0,hS0⟩:∃ S0,S0=(rit lex kind id (lex.length+1)).1:=⟨_,rfl⟩
    have hR:H8 lex id kind=outF S0 lex lex.length:=by rw [hS0];rfl
    rw [← hS0] at hM
    clear hN
    (repeat' (first|refine Sy ?_|refine Dy (fun hh=>?_) fun hh=>?_))
    all_goals (try (exfalso;omega))
    refine Ae (ι:=Nat × Value) (fun z=>[(0,.slice a lex.length cap),(7,.slice (some ⟨bM,0,none⟩) lex.length lex.length),(16,z.2),(17,int z.1)])
      (fun z wk=>z.1≤lex.length∧Ext wr wk∧wk.ownsRow wr.heap.size 3 1 z.2 (outF S0 lex z.1).length ((outF S0 lex z.1).map int)) (fun z=>lex.length-z.1) (0,.slice none 0 0)
      ⟨rfl,rfl,rfl,rfl,trivial⟩ ⟨Nat.zero_le _,Ext.refl _,⟨rfl,.inl ⟨rfl,rfl⟩⟩⟩ ?_
    rintro⟨i,ov⟩ wk ⟨hi,hxk,hown⟩
    dsimp only at hi hxk hown ⊢
    have hol:=outF_len (S:=S0) (lex:=lex) (i:=i)
    by_cases hil:i<lex.length
    · obtain⟨eb,eo,rfl⟩:=hp (by omega)
      obtain⟨e,hei⟩:∃ e,lex[i]?=some e:=⟨_,List.getElem?_eq_getElem hil⟩
      obtain⟨d0,f0,d1,f1,d2,f2,d3,f3,d4,f4,hat,_⟩:=B3 (hv0.ext (hX.trans hxk)) hei
      have hcm:wk.cell? ⟨bM,0+i*1,none⟩=some (.bool (S0 (i:Int))):=(hM.ext hxk).cellAt (by rw [show 0+i*1=i by omega];exact Fu hil)
      have ho1:=outF_succ (S:=S0) hei
      cases hb:S0 (i:Int) with
      | false=>
        rw [hb] at hcm ho1
        rw [if_neg (by simp),List.append_nil] at ho1
        (repeat' (first|refine eV Z Z (A0 (m:=i) Z Z Z (by first|rfl|omega) (by omega)) ?_|refine Ly ?_|refine Dy (fun hh=>?_) fun hh=>?_))
        all_goals (try (exfalso;omega))
        exact Ad (i+1,ov) ⟨rfl,rfl,rfl,rfl,trivial⟩ ⟨by dsimp only;omega,hxk,by dsimp only;rw [ho1];exact hown⟩ (by dsimp only;omega)
      | true=>
        rw [hb] at hcm ho1
        rw [if_pos rfl] at ho1
        (repeat' (first|refine eV Z Z (A0 (m:=i) Z Z Z (by first|rfl|omega) (by omega)) ?_|(refine Ay (news:=[int e.id]) (Ak hown xS) (hxk.trans xS) (fun _=>⟨_,_,rfl,rS.at⟩) Z Z Z Z Z Z Z Z Z (by omega) (by omega) (fun vJ wJ oJ xJ kJ hJ=>?_))|refine Ly ?_|refine Dy (fun hh=>?_) fun hh=>?_|refine eL Z Z Z Z Z Z Z Z (fun bS wS xS hbS rS=>?_)))
        all_goals (try (exfalso;omega))
        exact Ad (i+1,vJ) ⟨rfl,rfl,rfl,rfl,trivial⟩ ⟨by dsimp only;omega,xJ,by dsimp only;rw [ho1];simpa using oJ⟩ (by dsimp only;omega)
    · obtain rfl:i=lex.length:=by omega
      (repeat' (first|refine Sy ?_|refine Dy (fun hh=>?_) fun hh=>?_))
      all_goals (try (exfalso;omega))
      refine A5 Z Z ⟨?_,hX.trans hxk⟩
      rw [hR]
      exact Ce (css:=(outF S0 lex lex.length).map fun z=>[int z]) (by rw [Av];exact hown) (B4 _ _) rfl (by omega)
end
section
open Go.RowKit Go.En Go.Pv
attribute [local irreducible] E EL K Val Enters Rt Calls bodyPost Code.wp RQ
theorem kcheck122_any (lex : List En) (h12 : ∀ e ∈ lex, e.links.length ≤ 12) (hn : lex.length ≤ 5) (ev : Value) (w : World) (hv : Sl w ev lex) : Calls Tryz.prog 122 #[ev] w (Rt fun u w' => (∃ z : Int, u = int z) ∧ Ext w w') := by
  have hv0:=hv
  obtain⟨a,cap,rfl,hc,hm,hp⟩:=hv.sl
  refine A7 (n:=91) (args:=[.slice a lex.length cap]) Tryz.func122 rfl Tryz.ntmps122 (by simp) ?_
  (repeat' (first|refine Sy ?_))
  refine Ae (ι:=Nat) (fun i=>[(0,.slice a lex.length cap),(3,int i)]) (fun i wr=>i≤lex.length∧Ext w wr) (fun i=>lex.length-i) 0
    ⟨rfl,rfl,trivial⟩ ⟨Nat.zero_le _,Ext.refl _⟩ ?_
  rintro i wr ⟨hi,hx⟩
  replace hv0:=hv0.ext hx
  by_cases hlt:i<lex.length
  · obtain⟨b,off,rfl⟩:=hp (by omega)
    obtain⟨e,hei⟩:∃ e,lex[i]?=some e:=⟨_,List.getElem?_eq_getElem hlt⟩
    (repeat' (first|refine Sy ?_|refine Dy (fun hh=>?_) fun hh=>?_))
    all_goals (try (exfalso;omega))
    refine Ae (ι:=Nat) (fun k=>[(0,.slice (some ⟨b,off,none⟩) lex.length cap),(3,int i),(4,int k)]) (fun k wk=>k≤e.links.length∧Ext wr wk) (fun k=>e.links.length-k) 0
      ⟨rfl,rfl,rfl,trivial⟩ ⟨Nat.zero_le _,Ext.refl _⟩ ?_
    rintro k wk ⟨hk,hxk⟩
    replace hx:=hx.trans hxk;replace hv0:=hv0.ext hxk
    obtain⟨d0,f0,d1,f1,d2,f2,d3,f3,d4,f4,hat,_,_,_,_,hlk,_⟩:=B3 hv0 hei
    obtain⟨_,_,ee,_,hlm,hlp⟩:=hlk.sl
    cases ee
    by_cases hkl:k<e.links.length
    · obtain⟨lb,lo,rfl⟩:=hlp (by omega)
      obtain⟨x,hxi⟩:∃ x,e.links[k]?=some x:=⟨_,List.getElem?_eq_getElem hkl⟩
      have hatx:=Hj hlk hxi
      cases hg:getE lex x.to with
      | none=>
        have cf:=fun wz hz=>Fk lex x.to (.slice (some ⟨b,off,none⟩) lex.length cap) wz hz
        rw [Ff hg] at cf
        obtain⟨iv,hiv⟩:∃ iv,invF x.kind=iv:=⟨_,rfl⟩
        have ci:=fun wz=>Pc x.kind wz
        rw [hiv] at ci
        (repeat' (first|(refine Am Z Z Z Z Z Z Z Z Z Z (fun bE wE xE hbE rE=>?_);replace hx:=hx.trans xE;replace hv0:=hv0.ext xE;replace hat:=hat.ext xE;replace hatx:=hatx.ext xE)|refine eV Z Z (A0 (m:=i) Z Z Z (by first|rfl|omega) (by omega)) ?_|refine eV Z Z (A0 (m:=k) Z Z Z (by first|rfl|omega) (by omega)) ?_|(refine cqC (ci _) en155 fun wC xC=>?_;replace hx:=hx.trans xC;replace hv0:=hv0.ext xC;replace hat:=hat.ext xC;replace hatx:=hatx.ext xC;replace rE:=rE.ext xC)|(refine cqC (cf _ hv0) Pt fun wC xC=>?_;replace hx:=hx.trans xC;replace hv0:=hv0.ext xC;replace hat:=hat.ext xC;replace hatx:=hatx.ext xC;replace rE:=rE.ext xC)|refine Ly ?_|refine Dy (fun hh=>?_) fun hh=>?_))
        all_goals (try (exfalso;omega))
        all_goals exact A5 Z Z ⟨⟨_,rfl⟩,hx⟩
      | some y=>
        obtain⟨q,hq,hqe⟩:=Hn hg
        have hql:=(List.getElem?_eq_some_iff.1 hqe).1
        have cf:=fun wz hz=>Fk lex x.to (.slice (some ⟨b,off,none⟩) lex.length cap) wz hz
        rw [hq] at cf
        obtain⟨iv,hiv⟩:∃ iv,invF x.kind=iv:=⟨_,rfl⟩
        have ci:=fun wz=>Pc x.kind wz
        rw [hiv] at ci
        obtain⟨g0,j0,g1,j1,g2,j2,g3,j3,g4,j4,haty,hrepy,_⟩:=B3 hv0 hqe
        obtain⟨X,hX⟩:∃ X,X=[int y.id,.slice g0 y.form.length j0,int y.cls,.slice g1 y.alts.length j1,int y.main,.slice g2 y.senses.length j2,.slice g3 y.links.length j3,.slice g4 y.refs.length j4]:=⟨_,rfl⟩
        rw [← hX] at hrepy
        have ch:=fun wz (xz:Ext wk wz)=>has157_any y ⟨iv,e.id⟩ X wz (Ko hrepy xz)
        rw [hX] at ch
        obtain⟨bh,hbh⟩:∃ bh,decide ((⟨iv,e.id⟩:Lnk)∈y.links)=bh:=⟨_,rfl⟩
        rw [hbh] at ch
        have hxk0:=Ext.refl wk
        cases bh
        all_goals (repeat' (first|(refine Am Z Z Z Z Z Z Z Z Z Z (fun bE wE xE hbE rE=>?_);replace hx:=hx.trans xE;replace hxk0:=hxk0.trans xE;replace hv0:=hv0.ext xE;replace hat:=hat.ext xE;replace hatx:=hatx.ext xE;replace haty:=haty.ext xE)|refine eV Z Z (A0 (m:=i) Z Z Z (by first|rfl|omega) (by omega)) ?_|refine eV Z Z (A0 (m:=k) Z Z Z (by first|rfl|omega) (by omega)) ?_|refine yV Z Z (fun _ _ _=>A0 (m:=i) Z Z Z (by first|rfl|omega) (by omega)) ?_|refine yV Z Z (fun _ _ _=>A0 (m:=q) Z Z Z (by first|rfl|omega) (by omega)) ?_|(refine cqC (ci _) en155 fun wC xC=>?_;replace hx:=hx.trans xC;replace hxk0:=hxk0.trans xC;replace hv0:=hv0.ext xC;replace hat:=hat.ext xC;replace hatx:=hatx.ext xC;replace haty:=haty.ext xC;replace rE:=rE.ext xC)|(refine cqC (cf _ hv0) Pt fun wC xC=>?_;replace hx:=hx.trans xC;replace hxk0:=hxk0.trans xC;replace hv0:=hv0.ext xC;replace hat:=hat.ext xC;replace hatx:=hatx.ext xC;replace haty:=haty.ext xC;replace rE:=rE.ext xC)|refine An Z Z (fun _ _ _=>A3 Z Z en155) (fun wz _=>ci wz) ?_|refine An Z Z (fun _ _ _=>A3 Z Z en157) (fun wz xz=>ch wz (hxk0.trans xz)) ?_|refine yV Z Z (fun _ _ _=>Af (vs:=[(0,int iv),(1,int e.id)]) [int iv,int e.id] rfl rfl rfl) ?_|refine Ly ?_|refine Dy (fun hh=>?_) fun hh=>?_|refine yqY ?_|refine yqZ ?_|refine E_dq Aa (by kernel_rfl) Z ?_|refine yN Z (fun wq xq=>?_)))
        all_goals (try (exfalso;omega))
        all_goals first
          | exact A5 Z Z ⟨⟨_,rfl⟩,hx⟩
          | exact A5 Z Z ⟨⟨_,rfl⟩,hx.trans xq⟩
          | exact Ad (k+1) ⟨rfl,rfl,rfl,trivial⟩ ⟨by omega,hxk.trans (hxk0.trans xq)⟩ (by omega)
    · (repeat' (first|refine eV Z Z (A0 (m:=i) Z Z Z (by first|rfl|omega) (by omega)) ?_|refine Ly ?_|refine Dy (fun hh=>?_) fun hh=>?_))
      all_goals (try (exfalso;omega))
      exact Ad (i+1) ⟨rfl,rfl,trivial⟩ ⟨by omega,hx⟩ (by omega)
  · (repeat' (first|refine Sy ?_|refine Dy (fun hh=>?_) fun hh=>?_))
    all_goals (try (exfalso;omega))
    refine Ae (ι:=Nat) (fun i=>[(0,.slice a lex.length cap),(7,int i)]) (fun i wk=>i≤lex.length∧Ext wr wk) (fun i=>lex.length-i) 0
      ⟨rfl,rfl,trivial⟩ ⟨Nat.zero_le _,Ext.refl _⟩ ?_
    rintro i wk ⟨hi,hxk⟩
    replace hx:=hx.trans hxk;replace hv0:=hv0.ext hxk
    by_cases hlt:i<lex.length
    · obtain⟨b,off,rfl⟩:=hp (by omega)
      obtain⟨e,hei⟩:∃ e,lex[i]?=some e:=⟨_,List.getElem?_eq_getElem hlt⟩
      obtain⟨d0,f0,d1,f1,d2,f2,d3,f3,d4,f4,hat,_⟩:=B3 hv0 hei
      obtain⟨b1,hb1⟩:∃ b1,decide (e.id∈H8 lex e.id 2)=b1:=⟨_,rfl⟩
      obtain⟨b2,hb2⟩:∃ b2,decide (e.id∈H8 lex e.id 4)=b2:=⟨_,rfl⟩
      cases b1
      all_goals (cases b2)
      all_goals (repeat' (first|refine yV Z Z (fun _ _ _=>A0 (m:=i) Z Z Z (by first|rfl|omega) (by omega)) ?_|refine Al (f:=159) (fun u w'=>Sl w' u (H8 lex e.id 2)) (fun _=>#[.slice (some ⟨b,off,none⟩) lex.length cap,int e.id,int 2]) Z Z (fun _ _ _ _ xe h=>SlG.ext h xe) (fun _ _ _=>A3 Z Z en159) (fun wq _ xq _=>Ag (Li lex h12 hn e.id 2 _ wq (hv0.ext xq)) (fun _ _ hh=>hh)) ?_|refine Al (f:=159) (fun u w'=>Sl w' u (H8 lex e.id 4)) (fun _=>#[.slice (some ⟨b,off,none⟩) lex.length cap,int e.id,int 4]) Z Z (fun _ _ _ _ xe h=>SlG.ext h xe) (fun _ _ _=>A3 Z Z en159) (fun wq _ xq _=>Ag (Li lex h12 hn e.id 4 _ wq (hv0.ext xq)) (fun _ _ hh=>hh)) ?_|(refine B9 (f:=158) (v:=.bool true) (fun δ=>#[δ 69,int e.id]) Z Z (fun _ _ _=>A3 Z Z en158) (fun wq δ xq hd=>?_) ?_;(have:=Ju (H8 lex e.id 2) e.id _ wq (hd 69 rfl _ rfl);rw [hb1] at this;exact this))|(refine B9 (f:=158) (v:=.bool false) (fun δ=>#[δ 69,int e.id]) Z Z (fun _ _ _=>A3 Z Z en158) (fun wq δ xq hd=>?_) ?_;(have:=Ju (H8 lex e.id 2) e.id _ wq (hd 69 rfl _ rfl);rw [hb1] at this;exact this))|(refine B9 (f:=158) (v:=.bool true) (fun δ=>#[δ 83,int e.id]) Z Z (fun _ _ _=>A3 Z Z en158) (fun wq δ xq hd=>?_) ?_;(have:=Ju (H8 lex e.id 4) e.id _ wq (hd 83 rfl _ rfl);rw [hb2] at this;exact this))|(refine B9 (f:=158) (v:=.bool false) (fun δ=>#[δ 83,int e.id]) Z Z (fun _ _ _=>A3 Z Z en158) (fun wq δ xq hd=>?_) ?_;(have:=Ju (H8 lex e.id 4) e.id _ wq (hd 83 rfl _ rfl);rw [hb2] at this;exact this))|refine B8 (fun wq δ xq hR=>?_)|refine Sy ?_|refine Dy (fun hh=>?_) fun hh=>?_|refine yqY ?_|refine yqZ ?_|refine E_dq Aa (by kernel_rfl) Z ?_|refine yO Z Z ?_))
      all_goals (try (exfalso;omega))
      all_goals first
        | exact A5 Z Z ⟨⟨_,rfl⟩,hx.trans xq⟩
        | exact Ad (i+1) ⟨rfl,rfl,trivial⟩ ⟨by omega,hxk.trans xq⟩ (by omega)
    · (repeat' (first|refine Sy ?_|refine Dy (fun hh=>?_) fun hh=>?_))
      all_goals (try (exfalso;omega))
      exact A5 Z Z ⟨⟨_,rfl⟩,hx⟩
theorem Qg (lex : List En) (hn : lex.length ≤ 5) (ev : Value) (w : World) (hv : Sl w ev lex) : Calls Tryz.prog 123 #[ev] w (Rt fun u w' => (∃ z : Int, u = int z) ∧ Ext w w') := by
  have hv0:=hv
  obtain⟨a,cap,rfl,hc,hm,hp⟩:=hv.sl
  refine A7 (n:=44) (args:=[.slice a lex.length cap]) Tryz.func123 rfl Tryz.ntmps123 (by simp) ?_
  (repeat' (first|refine Sy ?_))
  refine Ae (ι:=Nat) (fun i=>[(0,.slice a lex.length cap),(3,int i)]) (fun i wr=>i≤lex.length∧Ext w wr) (fun i=>lex.length-i) 0
    ⟨rfl,rfl,trivial⟩ ⟨Nat.zero_le _,Ext.refl _⟩ ?_
  rintro i wr ⟨hi,hx⟩
  replace hv0:=hv0.ext hx
  by_cases hlt:i<lex.length
  · obtain⟨b,off,rfl⟩:=hp (by omega)
    obtain⟨e,hei⟩:∃ e,lex[i]?=some e:=⟨_,List.getElem?_eq_getElem hlt⟩
    obtain⟨d0,f0,d1,f1,d2,f2,d3,f3,d4,f4,hat,_⟩:=B3 hv0 hei
    (repeat' (first|refine eV Z Z (A0 (m:=i) Z Z Z (by first|rfl|omega) (by omega)) ?_|(refine cqC (H0 lex e.main _ _ hv0) en160 fun wC xC=>?_;replace hx:=hx.trans xC)|refine Ly ?_|refine Dy (fun hh=>?_) fun hh=>?_))
    all_goals (try (exfalso;omega))
    all_goals first
      | exact A5 Z Z ⟨⟨_,rfl⟩,hx⟩
      | exact Ad (i+1) ⟨rfl,rfl,trivial⟩ ⟨by omega,hx⟩ (by omega)
  · (repeat' (first|refine Sy ?_|refine Dy (fun hh=>?_) fun hh=>?_))
    all_goals (try (exfalso;omega))
    refine Ae (ι:=Nat) (fun i=>[(0,.slice a lex.length cap),(4,int i)]) (fun i wk=>i≤lex.length∧Ext wr wk) (fun i=>lex.length-i) 0
      ⟨rfl,rfl,trivial⟩ ⟨Nat.zero_le _,Ext.refl _⟩ ?_
    rintro i wk ⟨hi,hxk⟩
    replace hx:=hx.trans hxk;replace hv0:=hv0.ext hxk
    by_cases hlt:i<lex.length
    · obtain⟨b,off,rfl⟩:=hp (by omega)
      obtain⟨e,hei⟩:∃ e,lex[i]?=some e:=⟨_,List.getElem?_eq_getElem hlt⟩
      obtain⟨d0,f0,d1,f1,d2,f2,d3,f3,d4,f4,hat,_⟩:=B3 hv0 hei
      (repeat' (first|refine eV Z Z (A0 (m:=i) Z Z Z (by first|rfl|omega) (by omega)) ?_|(refine A9 Z Z (A3 Z Z en161) (O5 lex e.id _ _ hv0 (by omega)) (fun vC wC hC=>?_);obtain⟨xC,sC⟩:=hC;obtain⟨wa,wc,rfl,_,_,_⟩:=sC.sl;replace hx:=hx.trans xC;replace hxk:=hxk.trans xC)|refine Ly ?_|refine Dy (fun hh=>?_) fun hh=>?_))
      all_goals (try (exfalso;omega))
      all_goals first
        | exact A5 Z Z ⟨⟨_,rfl⟩,hx⟩
        | exact Ad (i+1) ⟨rfl,rfl,trivial⟩ ⟨by omega,hxk⟩ (by omega)
    · (repeat' (first|refine Sy ?_|refine Dy (fun hh=>?_) fun hh=>?_))
      all_goals (try (exfalso;omega))
      exact A5 Z Z ⟨⟨_,rfl⟩,hx⟩
end
end Go.Proofs.YtjicdgejhkgpgaaGreatDoor