/-
  Own text of the proof.
-/
import Derived.Test.YtjicdgejhkgpgaaGreatDoorYh
import Derived.Test.YtjicdgejhkgpgaaGreatDoorUb
import Derived.Test.YtjicdgejhkgpgaaGreatDoorXTX
import Derived.Test.YtjicdgejhkgpgaaGreatDoorYi
set_option linter.all false
set_option maxHeartbeats 8000000
set_option maxRecDepth 8000
namespace Go.Proofs.YtjicdgejhkgpgaaGreatDoor
section
open Go.RowKit Go.En Go.Pv
structure LgCp (g:Lg):Prop where
  segs:g.segs.length≤1048576
  units:g.units.length≤1048576
  unit:∀ u∈g.units,u.segs.length≤1048576
  letters:g.letters.length≤1048576
  letter:∀ l∈g.letters,l.length≤1048576
  rules:g.rules.length≤1048576
  rule:∀ r∈g.rules,r.frm.length≤1048576∧r.to.length≤1048576∧r.left.length≤1048576∧r.right.length≤1048576
  steps:g.net.steps.length≤1048576
  final:g.net.final.length≤1048576
  lex:g.lex.length≤1048576
  ent:∀ e∈g.lex,e.form.length≤1000000∧e.alts.length≤1000000∧(∀ f∈e.alts,f.length≤1000000)∧e.senses.length≤1000000∧e.links.length≤1000000∧e.refs.length≤1000000
attribute [local irreducible] E EL K Val Enters Rt Calls bodyPost Code.wp RQ
theorem A4w (g:Lg) (hb:LgCp g) (pv uv tv rv sv fv ev:Value) (w:World) (h:LangAt w g pv uv tv rv sv fv ev):Calls Tryz.prog 16 #[.agg #[pv,str g.oname,uv,tv,rv,int g.net.states,sv,fv,ev] ] w (Rt fun u w'=>Ext w w'∧
    ∃ pv' uv' tv' rv' sv' fv' ev',u=.agg #[pv',str g.oname,uv',tv',rv',int g.net.states,sv',fv',ev']∧LangAt w' g pv' uv' tv' rv' sv' fv' ev'):=by
  obtain⟨hS,hU,hT,hR,hP,hF,hE⟩:=h
  obtain⟨ap,cp,rfl,_⟩:=hS.sl
  obtain⟨au,cu,rfl,_⟩:=hU.sl
  obtain⟨aw,cw,rfl,_⟩:=hT.sl
  obtain⟨ar,cr,rfl,_⟩:=hR.sl
  obtain⟨ass,cs,rfl,_⟩:=hP.sl
  obtain⟨af,cf,rfl,_⟩:=hF.sl
  obtain⟨ae,ce,rfl,_⟩:=hE.sl
  have l1:=hb.segs
  have l2:=hb.units
  have l3:=hb.letters
  have l4:=hb.rules
  have l5:=hb.steps
  have l6:=hb.final
  have l7:=hb.lex
  refine A6 (n:=149) (args:=[.agg #[.slice ap g.segs.length cp,str g.oname,.slice au g.units.length cu,.slice aw g.letters.length cw,.slice ar g.rules.length cr,int g.net.states,.slice ass g.net.steps.length cs,.slice af g.net.final.length cf,.slice ae g.lex.length ce] ]) Tryz.func16 rfl Tryz.ntmps16 (by simp) ?_
  refine B4 ?_
  refine A9 ?_
  refine C2 Z Z Z Z (fun bB wB xB hbB rB=>?_)
  refine C3 Z Z Z (fun bA wA xA hbA rA=>?_)
  have hBl:=rB.lt
  replace rB:=rB.ext xA
  have hX:=xB.trans xA
  have hwB:w.heap.size≤bB:=by omega
  have hwA:w.heap.size≤bA:=by have:=xB.size;omega
  have hBA:bB≠bA:=by omega
  have hBu:=rB.lt
  have hAu:=rA.lt
  replace hS:SlG (fun b=>b≠bB∧b≠bA) wA _ _:=hS.move fun b _ hb=>⟨⟨by omega,by omega⟩,hX.block hb⟩
  replace hU:SlG (fun b=>b≠bB∧b≠bA) wA _ _:=hU.move fun b _ hb=>⟨⟨by omega,by omega⟩,hX.block hb⟩
  replace hT:SlG (fun b=>b≠bB∧b≠bA) wA _ _:=hT.move fun b _ hb=>⟨⟨by omega,by omega⟩,hX.block hb⟩
  replace hR:SlG (fun b=>b≠bB∧b≠bA) wA _ _:=hR.move fun b _ hb=>⟨⟨by omega,by omega⟩,hX.block hb⟩
  replace hP:SlG (fun b=>b≠bB∧b≠bA) wA _ _:=hP.move fun b _ hb=>⟨⟨by omega,by omega⟩,hX.block hb⟩
  replace hF:SlG (fun b=>b≠bB∧b≠bA) wA _ _:=hF.move fun b _ hb=>⟨⟨by omega,by omega⟩,hX.block hb⟩
  replace hE:SlG (fun b=>b≠bB∧b≠bA) wA _ _:=hE.move fun b _ hb=>⟨⟨by omega,by omega⟩,hX.block hb⟩
  refine A2b ?_
  refine G8 ?_
  (repeat' ((fail_if_success (refine B4 (x:=(Code.region 2 _ _)) ?_));first|(refine eL Z Z Z Z Z Z Z Z (fun bS wS xS hbS rS=>?_);have rBS:=rB.ext xS)|(refine S7 (G':=Gn w.heap.size bB bA) hS xS rS (by omega) (fun b hb=>⟨by omega,by omega,by omega⟩) Z Z Z Z Z Z Z (by omega) (fun vJ wJ sJ xJ=>?_);obtain⟨ap,cp,rfl,_,_,_⟩:=sJ.sl)|(refine B7 (cs:=[_]) (rB.ext xJ) (hX.trans xJ) hwB rfl rfl rfl rfl rfl rfl rfl rfl (by simp) (fun uN rN xN kN=>?_))|refine Ly ?_))
  replace rB:Row uN bB 37 [.slice ap g.segs.length cp,str g.oname,.slice au g.units.length cu,.slice aw g.letters.length cw,.slice ar g.rules.length cr,int g.net.states,.slice ass g.net.steps.length cs,.slice af g.net.final.length cf,.slice ae g.lex.length ce]:=rN
  replace rA:=kN.row (rA.ext xJ) (fun e=>by cases e;omega)
  replace hX:=xN
  replace hU:=(hU.ext xJ).move (kN.mv fun b hb e=>by cases e;exact hb.1 rfl)
  replace hT:=(hT.ext xJ).move (kN.mv fun b hb e=>by cases e;exact hb.1 rfl)
  replace hR:=(hR.ext xJ).move (kN.mv fun b hb e=>by cases e;exact hb.1 rfl)
  replace hP:=(hP.ext xJ).move (kN.mv fun b hb e=>by cases e;exact hb.1 rfl)
  replace hF:=(hF.ext xJ).move (kN.mv fun b hb e=>by cases e;exact hb.1 rfl)
  replace hE:=(hE.ext xJ).move (kN.mv fun b hb e=>by cases e;exact hb.1 rfl)
  replace hS:=sJ.move (kN.mv fun b hb e=>by cases e;exact hb.2.1 rfl)
  have hBu:=rB.lt
  have hAu:=rA.lt
  clear rN
  have g1:SlG (fun b=>(b≠bB∧b≠bA)∧b<uN.heap.size) uN (.slice au g.units.length cu) g.units:=hU.move fun b hb hlt=>⟨⟨hb,hlt⟩,rfl⟩
  have g0:=g1
  obtain⟨_,_,ee,_,hm,hpp⟩:=g1.sl
  cases ee
  (repeat' (first|refine Sy ?_|refine eL Z Z Z Z Z Z Z Z (fun bS wS xS hbS rS=>?_)))
  all_goals (try (exfalso;omega))
  refine B0 (ι:=Nat × Value) (fun z=>[(1,.pointer (some ⟨bB,0,none⟩)),(2,.pointer (some ⟨bA,0,none⟩)),(3,z.2),(4,int z.1)])
    (fun z wr=>z.1≤g.units.length∧Grow (Gn w.heap.size bB bA) uN 108 (g.units.take z.1) z.2 wr) (fun z=>g.units.length-z.1) (0,.slice (some ⟨bS,0,none⟩) 0 0)
    ⟨rfl,rfl,rfl,rfl,trivial⟩ ⟨Nat.zero_le _,Grow.nil rS xS (by omega)⟩ ?_
  rintro⟨i,ov⟩ wr ⟨hi,hgr⟩
  dsimp only at hi hgr ⊢
  have rBr:=rB.ext hgr.x
  by_cases hlt:i<g.units.length
  · obtain⟨b,off,rfl⟩:=hpp (by omega)
    obtain⟨un,hxi⟩:∃ x,g.units[i]?=some x:=⟨_,List.getElem?_eq_getElem hlt⟩
    have htk:g.units.take (i+1)=g.units.take i++[un]:=by
      obtain⟨h1,h2⟩:=List.getElem?_eq_some_iff.1 hxi
      rw [List.take_succ_eq_append_getElem h1,h2]
    have hti:(g.units.take i).length=i:=by rw [List.length_take];omega
    have hus:=hgr.x.size
    have hxm:=List.mem_of_getElem? hxi
    obtain⟨sa,sc,hat,_,hsg⟩:=V6 (g0.ext hgr.x) hxi
    have hl1:=hb.unit un hxm
    (repeat' ((fail_if_success (refine B4 (x:=(Code.region 6 _ _)) ?_));first|refine Ly ?_|refine Dy (fun hh=>?_) fun hh=>?_|refine eL Z Z Z Z Z Z Z Z (fun bS wS xS hbS rS=>?_)))
    all_goals (try (exfalso;omega))
    refine E_dm (id:=6) 19 B5 (by kernel_rfl) (by kernel_rfl) ?_
    (repeat' (first|refine yV Z Z (fun _ _ _=>A0 (m:=i) Z Z Z (by first|rfl|omega) (by omega)) ?_|refine B2o Z Z Z ?_|refine A2a hsg rfl rfl rfl rfl (fun _=>rfl) (fun _=>rfl) Z Z (by omega) ?_|(refine N7 (RX wr.heap.size un) Z Z (fun u w w' x0 x1 h=>Rep.move h x1.mv) (fun w δ _ hs=>?_) ?_;(have h44:=hs 44 (by decide) _ rfl;obtain⟨a44,c44,e44,_⟩:=SlG.sl h44;exact⟨.agg #[str un.graph,.slice a44 un.segs.length c44],B6 (vs:=[(0,str un.graph),(1,.slice a44 un.segs.length c44)]) [str un.graph,.slice a44 un.segs.length c44] rfl (by rw [← e44];rfl) Z,⟨_,rfl,by rw [← e44];exact h44⟩⟩))|refine C1c (x:=un) Z Z Z Z (fun _=>rfl) Z Z ?_|(refine J4 (fun wq δ xq hR=>?_);obtain⟨bL,X,e46,hbL,rL,hxL⟩:=hR 46 _ rfl;simp only [mat,vG];rw [e46])|(refine M1 (x:=un) (hgr.ext xq) rL (Rep.move hxL (fun b hb hlt=>⟨⟨by first|exact⟨by omega,by omega,by omega⟩|omega,hgr.nbn (by omega)⟩,rfl⟩)) Z Z Z Z Z Z Z (by omega) (by omega) (fun vK wK hK=>?_))|refine Sy ?_|refine yqY ?_|refine yqZ ?_))
    all_goals (try (exfalso;omega))
    exact B3 (i+1,vK) ⟨rfl,rfl,rfl,rfl,trivial⟩ ⟨by dsimp only;omega,by dsimp only;rw [htk];exact hK⟩ (by dsimp only;omega)
  · obtain rfl:i=g.units.length:=by omega
    rw [List.take_length] at hgr
    have hxr:=hgr.x
    have hU_n:SlG (Gn w.heap.size bB bA) wr ov g.units:=hgr.sl (fun b hb=>⟨by omega,by omega,by omega⟩) (by omega)
    replace rB:=rB.ext hxr
    replace rA:=rA.ext hxr
    replace hX:=hX.trans hxr
    replace hS:=hS.ext hxr
    replace hU:=hU.ext hxr
    replace hT:=hT.ext hxr
    replace hR:=hR.ext hxr
    replace hP:=hP.ext hxr
    replace hF:=hF.ext hxr
    replace hE:=hE.ext hxr
    obtain⟨au2,cu2,rfl,_⟩:=hU_n.sl
    have hwu:=hgr.x.size
    obtain⟨uN,hUN⟩:∃ u,u=wr:=⟨_,rfl⟩
    subst hUN
    have g1:SlG (fun b=>(b≠bB∧b≠bA)∧b<uN.heap.size) uN (.slice aw g.letters.length cw) g.letters:=hT.move fun b hb hlt=>⟨⟨hb,hlt⟩,rfl⟩
    have g0:=g1
    obtain⟨_,_,ee,_,hm,hpp⟩:=g1.sl
    cases ee
    (repeat' (first|refine Ly ?_|refine Dy (fun hh=>?_) fun hh=>?_|refine eL Z Z Z Z Z Z Z Z (fun bS wS xS hbS rS=>?_)))
    all_goals (try (exfalso;omega))
    refine B0 (ι:=Nat × Value) (fun z=>[(1,.pointer (some ⟨bB,0,none⟩)),(2,.pointer (some ⟨bA,0,none⟩)),(3,.slice au2 g.units.length cu2),(5,z.2),(6,int z.1)])
      (fun z wr=>z.1≤g.letters.length∧Grow (Gn w.heap.size bB bA) uN 109 (g.letters.take z.1) z.2 wr) (fun z=>g.letters.length-z.1) (0,.slice (some ⟨bS,0,none⟩) 0 0)
      ⟨rfl,rfl,rfl,rfl,rfl,trivial⟩ ⟨Nat.zero_le _,Grow.nil rS xS (by omega)⟩ ?_
    rintro⟨i,ov⟩ wr ⟨hi,hgr⟩
    dsimp only at hi hgr ⊢
    have rBr:=rB.ext hgr.x
    by_cases hlt:i<g.letters.length
    · obtain⟨b,off,rfl⟩:=hpp (by omega)
      obtain⟨li,hxi⟩:∃ x,g.letters[i]?=some x:=⟨_,List.getElem?_eq_getElem hlt⟩
      have htk:g.letters.take (i+1)=g.letters.take i++[li]:=by
        obtain⟨h1,h2⟩:=List.getElem?_eq_some_iff.1 hxi
        rw [List.take_succ_eq_append_getElem h1,h2]
      have hti:(g.letters.take i).length=i:=by rw [List.length_take];omega
      have hus:=hgr.x.size
      have hxm:=List.mem_of_getElem? hxi
      have hl1:=hb.letter li hxm
      obtain⟨fa,fc,hatf0,hff⟩:=R4 (g0.ext hgr.x) hxi
      have hcf:=hatf0.one
      (repeat' (first|(refine M1 (x:=li) (hgr.ext (xJ.trans xS)) rS ⟨_,rfl,sJ.ext xS⟩ rfl rfl rfl rfl rfl rfl rfl (by omega) (by omega) (fun vK wK hK=>?_))|(refine S7 (G':=Gq (Gn w.heap.size bB bA) ov) hff xS rS (by omega) (fun b hb=>⟨⟨by omega,by omega,by omega⟩,hgr.nbn hb⟩) Z Z Z Z Z Z Z (by omega) (fun vJ wJ sJ xJ=>?_);obtain⟨aJ,cJ,rfl,_,_,_⟩:=sJ.sl)|(refine eL Z Z Z Z Z Z Z Z (fun bS wS xS hbS rS=>?_);have rBS:=rBr.ext xS;have hcS:=Ext.cell xS hcf)|refine eV Z Z (A0 (m:=i) Z Z Z (by first|rfl|omega) (by omega)) ?_|refine Ly ?_|refine Dy (fun hh=>?_) fun hh=>?_|refine eL Z Z Z Z Z Z Z Z (fun bS wS xS hbS rS=>?_)))
      all_goals (try (exfalso;omega))
      exact B3 (i+1,vK) ⟨rfl,rfl,rfl,rfl,rfl,trivial⟩ ⟨by dsimp only;omega,by dsimp only;rw [htk];exact hK⟩ (by dsimp only;omega)
    · obtain rfl:i=g.letters.length:=by omega
      rw [List.take_length] at hgr
      have hxr:=hgr.x
      have hT_n:SlG (Gn w.heap.size bB bA) wr ov g.letters:=hgr.sl (fun b hb=>⟨by omega,by omega,by omega⟩) (by omega)
      replace rB:=rB.ext hxr
      replace rA:=rA.ext hxr
      replace hX:=hX.trans hxr
      replace hS:=hS.ext hxr
      replace hU:=hU.ext hxr
      replace hT:=hT.ext hxr
      replace hR:=hR.ext hxr
      replace hP:=hP.ext hxr
      replace hF:=hF.ext hxr
      replace hE:=hE.ext hxr
      replace hU_n:=hU_n.ext hxr
      obtain⟨aw2,cw2,rfl,_⟩:=hT_n.sl
      (repeat' ((fail_if_success (refine B4 (x:=(Code.region 13 _ _)) ?_));first|refine eV Z Z (B6 (vs:=[(0,str g.oname),(1,.slice au2 g.units.length cu2),(2,.slice aw2 g.letters.length cw2)]) [str g.oname,.slice au2 g.units.length cu2,.slice aw2 g.letters.length cw2] rfl rfl rfl) ?_|(refine B7 (cs:=[_,_,_]) rB hX hwB rfl rfl rfl rfl rfl rfl rfl rfl (by simp) (fun uN rN xN kN=>?_))|refine Ly ?_|refine Dy (fun hh=>?_) fun hh=>?_|refine eL Z Z Z Z Z Z Z Z (fun bS wS xS hbS rS=>?_)))
      all_goals (try (exfalso;omega))
      replace rB:Row uN bB 37 [.slice ap g.segs.length cp,str g.oname,.slice au2 g.units.length cu2,.slice aw2 g.letters.length cw2,.slice ar g.rules.length cr,int g.net.states,.slice ass g.net.steps.length cs,.slice af g.net.final.length cf,.slice ae g.lex.length ce]:=rN
      replace rA:=kN.row rA (fun e=>by cases e;omega)
      replace hX:=xN
      replace hS:=hS.move (kN.mv fun b hb e=>by cases e;exact hb.2.1 rfl)
      replace hU:=hU.move (kN.mv fun b hb e=>by cases e;exact hb.1 rfl)
      replace hT:=hT.move (kN.mv fun b hb e=>by cases e;exact hb.1 rfl)
      replace hR:=hR.move (kN.mv fun b hb e=>by cases e;exact hb.1 rfl)
      replace hP:=hP.move (kN.mv fun b hb e=>by cases e;exact hb.1 rfl)
      replace hF:=hF.move (kN.mv fun b hb e=>by cases e;exact hb.1 rfl)
      replace hE:=hE.move (kN.mv fun b hb e=>by cases e;exact hb.1 rfl)
      replace hU_n:=hU_n.move (kN.mv fun b hb e=>by cases e;exact hb.2.1 rfl)
      replace hT_n:=hT_n.move (kN.mv fun b hb e=>by cases e;exact hb.2.1 rfl)
      have hBu:=rB.lt
      have hAu:=rA.lt
      clear rN
      have g1:SlG (fun b=>(b≠bB∧b≠bA)∧b<uN.heap.size) uN (.slice ar g.rules.length cr) g.rules:=hR.move fun b hb hlt=>⟨⟨hb,hlt⟩,rfl⟩
      have g0:=g1
      obtain⟨_,_,ee,_,hm,hpp⟩:=g1.sl
      cases ee
      (repeat' (first|refine Sy ?_|refine eL Z Z Z Z Z Z Z Z (fun bS wS xS hbS rS=>?_)))
      all_goals (try (exfalso;omega))
      refine B0 (ι:=Nat × Value) (fun z=>[(1,.pointer (some ⟨bB,0,none⟩)),(2,.pointer (some ⟨bA,0,none⟩)),(7,z.2),(8,int z.1)])
        (fun z wr=>z.1≤g.rules.length∧Grow (Gn w.heap.size bB bA) uN 112 (g.rules.take z.1) z.2 wr) (fun z=>g.rules.length-z.1) (0,.slice (some ⟨bS,0,none⟩) 0 0)
        ⟨rfl,rfl,rfl,rfl,trivial⟩ ⟨Nat.zero_le _,Grow.nil rS xS (by omega)⟩ ?_
      rintro⟨i,ov⟩ wr ⟨hi,hgr⟩
      dsimp only at hi hgr ⊢
      have rBr:=rB.ext hgr.x
      by_cases hlt:i<g.rules.length
      · obtain⟨b,off,rfl⟩:=hpp (by omega)
        obtain⟨ru,hxi⟩:∃ x,g.rules[i]?=some x:=⟨_,List.getElem?_eq_getElem hlt⟩
        have htk:g.rules.take (i+1)=g.rules.take i++[ru]:=by
          obtain⟨h1,h2⟩:=List.getElem?_eq_some_iff.1 hxi
          rw [List.take_succ_eq_append_getElem h1,h2]
        have hti:(g.rules.take i).length=i:=by rw [List.length_take];omega
        have hus:=hgr.x.size
        have hxm:=List.mem_of_getElem? hxi
        obtain⟨f0,k0,f1,k1,f2,k2,f3,k3,hat,_,q0,q1,q2,q3⟩:=A0d (g0.ext hgr.x) hxi
        obtain⟨m1,m2,m3,m4⟩:=hb.rule ru hxm
        have hXr:=Ext.refl wr
        (repeat' ((fail_if_success (refine B4 (x:=(Code.region 18 _ _)) ?_));first|(refine C1 Z Z Z Z Z Z Z Z Z Z (fun bE wE xE hbE rE=>?_);replace hXr:=hXr.trans xE;replace rBr:=rBr.ext xE;replace hat:=hat.ext xE;replace q0:=q0.ext xE;replace q1:=q1.ext xE;replace q2:=q2.ext xE;replace q3:=q3.ext xE)|refine eV Z Z (A0 (m:=i) Z Z Z (by first|rfl|omega) (by omega)) ?_|refine Ly ?_|refine Dy (fun hh=>?_) fun hh=>?_))
        all_goals (try (exfalso;omega))
        replace hgr:=hgr.ext hXr
        have hus2:=hgr.x.size
        refine E_dm (id:=18) 23 B5 (by kernel_rfl) (by kernel_rfl) ?_
        (repeat' (first|refine B2o Z Z Z ?_|refine A2a q0 rfl rfl rfl rfl (fun _=>rfl) (fun _=>rfl) Z Z (by omega) ?_|refine A2a q1 rfl rfl rfl rfl (fun _=>rfl) (fun _=>rfl) Z Z (by omega) ?_|refine A2a q2 rfl rfl rfl rfl (fun _=>rfl) (fun _=>rfl) Z Z (by omega) ?_|refine A2a q3 rfl rfl rfl rfl (fun _=>rfl) (fun _=>rfl) Z Z (by omega) ?_|(refine N7 (RX wE.heap.size ru) Z Z (fun u w w' x0 x1 h=>Rep.move h x1.mv) (fun w δ _ hs=>?_) ?_;(have h92:=hs 92 (by decide) _ rfl;have h96:=hs 96 (by decide) _ rfl;have h100:=hs 100 (by decide) _ rfl;have h104:=hs 104 (by decide) _ rfl;obtain⟨a92,c92,e92,_⟩:=SlG.sl h92;obtain⟨a96,c96,e96,_⟩:=SlG.sl h96;obtain⟨a100,c100,e100,_⟩:=SlG.sl h100;obtain⟨a104,c104,e104,_⟩:=SlG.sl h104;exact⟨.agg #[.slice a92 ru.frm.length c92,.slice a96 ru.to.length c96,.slice a100 ru.left.length c100,.slice a104 ru.right.length c104,.bool ru.beg,.bool ru.fin],B6 (vs:=[(0,.slice a92 ru.frm.length c92),(1,.slice a96 ru.to.length c96),(2,.slice a100 ru.left.length c100),(3,.slice a104 ru.right.length c104),(4,.bool ru.beg),(5,.bool ru.fin)]) [.slice a92 ru.frm.length c92,.slice a96 ru.to.length c96,.slice a100 ru.left.length c100,.slice a104 ru.right.length c104,.bool ru.beg,.bool ru.fin] rfl (by rw [← e92,← e96,← e100,← e104];rfl) Z,⟨_,_,_,_,rfl,by rw [← e92];exact h92,by rw [← e96];exact h96,by rw [← e100];exact h100,by rw [← e104];exact h104⟩⟩))|refine C1c (x:=ru) Z Z Z Z (fun _=>rfl) Z Z ?_|(refine J4 (fun wq δ xq hR=>?_);obtain⟨bL,X,e110,hbL,rL,hxL⟩:=hR 110 _ rfl;simp only [mat,vG];rw [e110])|(refine M1 (x:=ru) (hgr.ext xq) rL (Rep.move hxL (fun b hb hlt=>⟨⟨by first|exact⟨by omega,by omega,by omega⟩|omega,hgr.nbn (by omega)⟩,rfl⟩)) Z Z Z Z Z Z Z (by omega) (by omega) (fun vK wK hK=>?_))|refine Sy ?_|refine yqY ?_|refine yqZ ?_))
        all_goals (try (exfalso;omega))
        exact B3 (i+1,vK) ⟨rfl,rfl,rfl,rfl,trivial⟩ ⟨by dsimp only;omega,by dsimp only;rw [htk];exact hK⟩ (by dsimp only;omega)
      · obtain rfl:i=g.rules.length:=by omega
        rw [List.take_length] at hgr
        have hxr:=hgr.x
        have hR_n:SlG (Gn w.heap.size bB bA) wr ov g.rules:=hgr.sl (fun b hb=>⟨by omega,by omega,by omega⟩) (by omega)
        replace rB:=rB.ext hxr
        replace rA:=rA.ext hxr
        replace hX:=hX.trans hxr
        replace hS:=hS.ext hxr
        replace hU:=hU.ext hxr
        replace hT:=hT.ext hxr
        replace hR:=hR.ext hxr
        replace hP:=hP.ext hxr
        replace hF:=hF.ext hxr
        replace hE:=hE.ext hxr
        replace hU_n:=hU_n.ext hxr
        replace hT_n:=hT_n.ext hxr
        obtain⟨ar2,cr2,rfl,_⟩:=hR_n.sl
        (repeat' ((fail_if_success (refine B4 (x:=(Code.region 20 _ _)) ?_));first|(refine B7 (cs:=[_]) rB hX hwB rfl rfl rfl rfl rfl rfl rfl rfl (by simp) (fun uN rN xN kN=>?_))|refine Ly ?_|refine Dy (fun hh=>?_) fun hh=>?_))
        all_goals (try (exfalso;omega))
        replace rB:Row uN bB 37 [.slice ap g.segs.length cp,str g.oname,.slice au2 g.units.length cu2,.slice aw2 g.letters.length cw2,.slice ar2 g.rules.length cr2,int g.net.states,.slice ass g.net.steps.length cs,.slice af g.net.final.length cf,.slice ae g.lex.length ce]:=rN
        replace rA:=kN.row rA (fun e=>by cases e;omega)
        replace hX:=xN
        replace hS:=hS.move (kN.mv fun b hb e=>by cases e;exact hb.2.1 rfl)
        replace hU:=hU.move (kN.mv fun b hb e=>by cases e;exact hb.1 rfl)
        replace hT:=hT.move (kN.mv fun b hb e=>by cases e;exact hb.1 rfl)
        replace hR:=hR.move (kN.mv fun b hb e=>by cases e;exact hb.1 rfl)
        replace hP:=hP.move (kN.mv fun b hb e=>by cases e;exact hb.1 rfl)
        replace hF:=hF.move (kN.mv fun b hb e=>by cases e;exact hb.1 rfl)
        replace hE:=hE.move (kN.mv fun b hb e=>by cases e;exact hb.1 rfl)
        replace hU_n:=hU_n.move (kN.mv fun b hb e=>by cases e;exact hb.2.1 rfl)
        replace hT_n:=hT_n.move (kN.mv fun b hb e=>by cases e;exact hb.2.1 rfl)
        replace hR_n:=hR_n.move (kN.mv fun b hb e=>by cases e;exact hb.2.1 rfl)
        have hBu:=rB.lt
        have hAu:=rA.lt
        clear rN
        refine B4 ?_
        refine E.sub (M:=[(1,.pointer (some ⟨bB,0,none⟩)),(2,.pointer (some ⟨bA,0,none⟩))]) ⟨rfl,rfl,trivial⟩ ?_
        refine E_dm (id:=20) 15 B5 (by kernel_rfl) (by kernel_rfl) ?_
        (repeat' (first|refine B2o Z Z Z ?_|refine A2a hP rfl rfl rfl rfl (fun _=>rfl) (fun _=>rfl) Z Z (by omega) ?_|refine A2a hF rfl rfl rfl rfl (fun _=>rfl) (fun _=>rfl) Z Z (by omega) ?_|(refine N7 (fun u w'=>∃ v1 v2,u=.agg #[int g.net.states,v1,v2]∧SlG (fun b=>uN.heap.size≤b) w' v1 g.net.steps∧SlG (fun b=>uN.heap.size≤b) w' v2 g.net.final) Z Z (fun u w w' x0 x1 h=>by obtain⟨v1,v2,e1,e2,e3⟩:=h;exact⟨v1,v2,e1,e2.ext x1,e3.ext x1⟩) (fun w δ _ hs=>?_) ?_;(have h121:=hs 121 (by decide) _ rfl;have h126:=hs 126 (by decide) _ rfl;obtain⟨a121,c121,e121,_⟩:=SlG.sl h121;obtain⟨a126,c126,e126,_⟩:=SlG.sl h126;exact⟨.agg #[int g.net.states,.slice a121 g.net.steps.length c121,.slice a126 g.net.final.length c126],B6 (vs:=[(0,int g.net.states),(1,.slice a121 g.net.steps.length c121),(2,.slice a126 g.net.final.length c126)]) [int g.net.states,.slice a121 g.net.steps.length c121,.slice a126 g.net.final.length c126] rfl (by rw [← e121,← e126];rfl) Z,⟨_,_,rfl,by rw [← e121];exact h121,by rw [← e126];exact h126⟩⟩))|(refine J4 (fun wq δ xq hQ=>?_);obtain⟨v1,v2,e127,s1,s2⟩:=hQ 127 _ rfl;simp only [mat,vG];rw [e127];obtain⟨ap2,cp2,rfl,_⟩:=s1.sl;obtain⟨af2,cf2,rfl,_⟩:=s2.sl)|refine yqY ?_|refine yqZ ?_))
        all_goals (try (exfalso;omega))
        have hP_n:SlG (Gn w.heap.size bB bA) wq _ _:=s1.wk (fun b hb=>⟨by have:=hX.size;omega,by omega,by omega⟩)
        have hF_n:SlG (Gn w.heap.size bB bA) wq _ _:=s2.wk (fun b hb=>⟨by have:=hX.size;omega,by omega,by omega⟩)
        replace rB:=rB.ext xq;replace rA:=rA.ext xq;replace hX:=hX.trans xq;replace hS:=hS.ext xq;replace hU:=hU.ext xq;replace hT:=hT.ext xq;replace hR:=hR.ext xq;replace hP:=hP.ext xq;replace hF:=hF.ext xq;replace hE:=hE.ext xq;replace hU_n:=hU_n.ext xq;replace hT_n:=hT_n.ext xq;replace hR_n:=hR_n.ext xq
        (repeat' ((fail_if_success (refine B4 (x:=(Code.region 21 _ _)) ?_));first|(refine B7 (cs:=[_,_,_]) rB hX hwB rfl rfl rfl rfl rfl rfl rfl rfl (by simp) (fun uN rN xN kN=>?_))|refine Sy ?_))
        replace rB:Row uN bB 37 [.slice ap g.segs.length cp,str g.oname,.slice au2 g.units.length cu2,.slice aw2 g.letters.length cw2,.slice ar2 g.rules.length cr2,int g.net.states,.slice ap2 g.net.steps.length cp2,.slice af2 g.net.final.length cf2,.slice ae g.lex.length ce]:=rN
        replace rA:=kN.row rA (fun e=>by cases e;omega)
        replace hX:=xN
        replace hS:=hS.move (kN.mv fun b hb e=>by cases e;exact hb.2.1 rfl)
        replace hU:=hU.move (kN.mv fun b hb e=>by cases e;exact hb.1 rfl)
        replace hT:=hT.move (kN.mv fun b hb e=>by cases e;exact hb.1 rfl)
        replace hR:=hR.move (kN.mv fun b hb e=>by cases e;exact hb.1 rfl)
        replace hP:=hP.move (kN.mv fun b hb e=>by cases e;exact hb.1 rfl)
        replace hF:=hF.move (kN.mv fun b hb e=>by cases e;exact hb.1 rfl)
        replace hE:=hE.move (kN.mv fun b hb e=>by cases e;exact hb.1 rfl)
        replace hU_n:=hU_n.move (kN.mv fun b hb e=>by cases e;exact hb.2.1 rfl)
        replace hT_n:=hT_n.move (kN.mv fun b hb e=>by cases e;exact hb.2.1 rfl)
        replace hR_n:=hR_n.move (kN.mv fun b hb e=>by cases e;exact hb.2.1 rfl)
        replace hP_n:=hP_n.move (kN.mv fun b hb e=>by cases e;exact hb.2.1 rfl)
        replace hF_n:=hF_n.move (kN.mv fun b hb e=>by cases e;exact hb.2.1 rfl)
        have hBu:=rB.lt
        have hAu:=rA.lt
        clear rN
        have g1:SlG (fun b=>(b≠bB∧b≠bA)∧b<uN.heap.size) uN (.slice ae g.lex.length ce) g.lex:=hE.move fun b hb hlt=>⟨⟨hb,hlt⟩,rfl⟩
        have g0:=g1
        obtain⟨_,_,ee,_,hm,hpp⟩:=g1.sl
        cases ee
        (repeat' (first|refine Sy ?_|refine eL Z Z Z Z Z Z Z Z (fun bS wS xS hbS rS=>?_)))
        all_goals (try (exfalso;omega))
        refine B0 (ι:=Nat × Value) (fun z=>[(1,.pointer (some ⟨bB,0,none⟩)),(2,.pointer (some ⟨bA,0,none⟩)),(10,z.2),(11,int z.1)])
          (fun z wr=>z.1≤g.lex.length∧Grow (Gn w.heap.size bB bA) uN 65 (g.lex.take z.1) z.2 wr) (fun z=>g.lex.length-z.1) (0,.slice (some ⟨bS,0,none⟩) 0 0)
          ⟨rfl,rfl,rfl,rfl,trivial⟩ ⟨Nat.zero_le _,Grow.nil rS xS (by omega)⟩ ?_
        rintro⟨i,ov⟩ wr ⟨hi,hgr⟩
        dsimp only at hi hgr ⊢
        have rBr:=rB.ext hgr.x
        by_cases hlt:i<g.lex.length
        · obtain⟨b,off,rfl⟩:=hpp (by omega)
          obtain⟨en,hxi⟩:∃ x,g.lex[i]?=some x:=⟨_,List.getElem?_eq_getElem hlt⟩
          have htk:g.lex.take (i+1)=g.lex.take i++[en]:=by
            obtain⟨h1,h2⟩:=List.getElem?_eq_some_iff.1 hxi
            rw [List.take_succ_eq_append_getElem h1,h2]
          have hti:(g.lex.take i).length=i:=by rw [List.length_take];omega
          have hus:=hgr.x.size
          have hxm:=List.mem_of_getElem? hxi
          obtain⟨f0,k0,f1,k1,f2,k2,f3,k3,f4,k4,hat,hrep,_⟩:=D3 (g0.ext hgr.x) hxi
          obtain⟨m0,m1,m2,m3,m4,m5⟩:=hb.ent en hxm
          (repeat' (first|refine eV Z Z (A0 (m:=i) Z Z Z (by first|rfl|omega) (by omega)) ?_|(refine A8 Z Z (A5 Z Z en51) (B5l en m0 m1 m2 m3 m4 m5 _ _ (Rep.move hrep (fun _ _ _=>⟨trivial,rfl⟩))) (fun vC wC hC=>?_);obtain⟨xC,Y,rfl,hY⟩:=hC;have hY2:Rep.at_ (Gq (Gn w.heap.size bB bA) ov) wC en Y:=Rep.move hY (fun b hb _=>⟨⟨⟨by omega,by omega,by omega⟩,hgr.nbn hb⟩,rfl⟩);obtain⟨_,_,_,_,_,rfl,_⟩:=hY)|(refine M1 (x:=en) (hgr.ext (xC.trans xS)) rS (Rep.move hY2 xS.mv) Z Z Z Z Z Z Z (by omega) (by omega) (fun vK wK hK=>?_))|refine Ly ?_|refine Dy (fun hh=>?_) fun hh=>?_|refine eL Z Z Z Z Z Z Z Z (fun bS wS xS hbS rS=>?_)))
          all_goals (try (exfalso;omega))
          exact B3 (i+1,vK) ⟨rfl,rfl,rfl,rfl,trivial⟩ ⟨by dsimp only;omega,by dsimp only;rw [htk];exact hK⟩ (by dsimp only;omega)
        · obtain rfl:i=g.lex.length:=by omega
          rw [List.take_length] at hgr
          have hxr:=hgr.x
          have hE_n:SlG (Gn w.heap.size bB bA) wr ov g.lex:=hgr.sl (fun b hb=>⟨by omega,by omega,by omega⟩) (by omega)
          replace rB:=rB.ext hxr
          replace rA:=rA.ext hxr
          replace hX:=hX.trans hxr
          replace hS:=hS.ext hxr
          replace hU:=hU.ext hxr
          replace hT:=hT.ext hxr
          replace hR:=hR.ext hxr
          replace hP:=hP.ext hxr
          replace hF:=hF.ext hxr
          replace hE:=hE.ext hxr
          replace hU_n:=hU_n.ext hxr
          replace hT_n:=hT_n.ext hxr
          replace hR_n:=hR_n.ext hxr
          replace hP_n:=hP_n.ext hxr
          replace hF_n:=hF_n.ext hxr
          obtain⟨ae2,ce2,rfl,_⟩:=hE_n.sl
          (repeat' ((fail_if_success (refine B4 (x:=(Code.region 27 _ _)) ?_));first|(refine B7 (cs:=[_]) rB hX hwB rfl rfl rfl rfl rfl rfl rfl rfl (by simp) (fun uN rN xN kN=>?_))|refine Ly ?_|refine Dy (fun hh=>?_) fun hh=>?_))
          all_goals (try (exfalso;omega))
          replace rB:Row uN bB 37 [.slice ap g.segs.length cp,str g.oname,.slice au2 g.units.length cu2,.slice aw2 g.letters.length cw2,.slice ar2 g.rules.length cr2,int g.net.states,.slice ap2 g.net.steps.length cp2,.slice af2 g.net.final.length cf2,.slice ae2 g.lex.length ce2]:=rN
          replace rA:=kN.row rA (fun e=>by cases e;omega)
          replace hX:=xN
          replace hS:=hS.move (kN.mv fun b hb e=>by cases e;exact hb.2.1 rfl)
          replace hU:=hU.move (kN.mv fun b hb e=>by cases e;exact hb.1 rfl)
          replace hT:=hT.move (kN.mv fun b hb e=>by cases e;exact hb.1 rfl)
          replace hR:=hR.move (kN.mv fun b hb e=>by cases e;exact hb.1 rfl)
          replace hP:=hP.move (kN.mv fun b hb e=>by cases e;exact hb.1 rfl)
          replace hF:=hF.move (kN.mv fun b hb e=>by cases e;exact hb.1 rfl)
          replace hE:=hE.move (kN.mv fun b hb e=>by cases e;exact hb.1 rfl)
          replace hU_n:=hU_n.move (kN.mv fun b hb e=>by cases e;exact hb.2.1 rfl)
          replace hT_n:=hT_n.move (kN.mv fun b hb e=>by cases e;exact hb.2.1 rfl)
          replace hR_n:=hR_n.move (kN.mv fun b hb e=>by cases e;exact hb.2.1 rfl)
          replace hP_n:=hP_n.move (kN.mv fun b hb e=>by cases e;exact hb.2.1 rfl)
          replace hF_n:=hF_n.move (kN.mv fun b hb e=>by cases e;exact hb.2.1 rfl)
          replace hE_n:=hE_n.move (kN.mv fun b hb e=>by cases e;exact hb.2.1 rfl)
          have hBu:=rB.lt
          have hAu:=rA.lt
          clear rN
          (repeat' (first|(refine B7 (cs:=[.slice ap g.segs.length cp,str g.oname,.slice au2 g.units.length cu2,.slice aw2 g.letters.length cw2,.slice ar2 g.rules.length cr2,int g.net.states,.slice ap2 g.net.steps.length cp2,.slice af2 g.net.final.length cf2,.slice ae2 g.lex.length ce2]) rA hX hwA rfl rfl rfl rfl rfl rfl rfl rfl (Nat.le_refl _) (fun w9 r9 x9 k9=>?_))|refine Ly ?_))
          have mv:=k9.mv (G:=Gn w.heap.size bB bA) fun b hb e=>by cases e;exact hb.2.2 rfl
          exact A9m Z Z Z r9.at rfl ⟨x9,_,_,_,_,_,_,_,rfl,⟨(hS.move mv).any,(hU_n.move mv).any,(hT_n.move mv).any,(hR_n.move mv).any,(hP_n.move mv).any,(hF_n.move mv).any,(hE_n.move mv).any⟩⟩
end
section
open Go.RowKit Go.En Go.Pv
theorem A2u {ds:List Dc} (hL:LightDs ds):∀ d∈ds,d.sp.length≤1000000∧d.tiers.length≤1000000∧d.notes.length≤1000000:=fun d hd=>by
  have h:=hL.each d hd
  have:=h.nsp;have:=h.ntiers;have:=h.nnotes
  omega
theorem B2f {ds:List Dc} (hL:LightDs ds) (v:Value) (w:World) (hv:Sl w v ds):Calls Tryz.prog 15 #[v] w (Rt fun u w'=>Ext w w'∧SlG (fun b=>w.heap.size≤b) w' u ds):=
  Y9 ds (by have:=hL.few;omega) (A2u hL) v w hv
theorem lgcp_of {g:Lg} (hok:LangOK g) (hb:LgBd g) (hl:g.letters.length≤1048576):LgCp g where
  segs:=by have:=hok.nsegs;omega
  units:=by have:=hok.nunits;omega
  unit u hu:=by have:=(hok.units u hu).2.2;omega
  letters:=hl
  letter l h:=hb.lettersL l h
  rules:=by have:=hok.nrules;omega
  rule r hr:=by
    obtain⟨h1,h2,_,h4,h5⟩:=hok.rules r hr
    exact⟨by omega,by omega,by omega,by omega⟩
  steps:=by have:=hok.nsteps;omega
  final:=by have:=hok.nfinal;omega
  lex:=by have:=hok.nlex;omega
  ent e he:=by
    obtain⟨_,_,_,hf,ha,hff,hr,hs,hk⟩:=hok.lex e he
    exact⟨by omega,by omega,fun f hfm=>by have:=(hff f (List.mem_cons_of_mem _ hfm)).1;omega,by omega,by omega,by omega⟩
attribute [local irreducible] E EL K Val Enters Rt Calls bodyPost Code.wp RQ
end
end Go.Proofs.YtjicdgejhkgpgaaGreatDoor