/-
  Own text of the proof.
-/
import Derived.Test.YtjicdgejhkgpgaaGreatDoorYy
import Derived.Test.YtjicdgejhkgpgaaGreatDoorYk
import Derived.Test.YtjicdgejhkgpgaaGreatDoorYf
set_option linter.all false
set_option maxHeartbeats 8000000
set_option maxRecDepth 8000
namespace Go.Proofs.YtjicdgejhkgpgaaGreatDoor
section
open Go.RowKit Go.En Go.Pv
theorem here_eq {g:Lg} (hok:LangOK g) {ws:List Int} {id:Int} {a:List Prt} {S:Int→Bool} {m fin:Nat} {base:List Int} (hm:MaskIs m S) (hfin:MaskIs fin (finB g.net)) :
    Go.Pv.hereB (lxOf g ws) ws id a S base=(decide (0<a.length)&&(decide (m &&& fin≠0)&&(decide (ws.length≤base.length)&&fitB g ws base))&&Go.Pv.hitB id a):=by
  unfold Go.Pv.hereB
  have e1:(!a.isEmpty)=decide (0<a.length):=by cases a <;> simp
  have e2:S6 (lxOf g ws).net.states.toNat S (finB (lxOf g ws).net)=decide (m &&& fin≠0):=by
    show S6 g.net.states.toNat S (finB g.net)=_
    cases hb:S6 g.net.states.toNat S (finB g.net) with
    | true=>exact(decide_eq_true ((B5d hok.net hm hfin).2 hb)).symm
    | false=>exact(decide_eq_false (fun h=>by rw [(B5d hok.net hm hfin).1 h] at hb;cases hb)).symm
  rw [e1,e2]
  rfl
attribute [local irreducible] E EL K Val Enters Rt Calls bodyPost Code.wp RQ
theorem A2g {g : Lg} (hok : LangOK g) (hro : ∀ r ∈ g.rules, RulOK r) {ws : List Int} (hws : ws.length ≤ 24) {id : Int} {pv uv tv rv sv fv ev wv : Value} {fin : Nat} (hfin : MaskIs fin (finB g.net)) {bS bT bI bU : Nat} (k : Nat)
    (hstep:∀ k',k=k'+1→StepC g ws id pv uv tv rv sv fv ev wv fin bS bT bI bU k'):C6s g ws id pv uv tv rv sv fv ev wv fin bS bT bI bU k:=by
  intro a S m base av bv w hak hm hob hbl hs ha hbv
  have ha0:=ha
  have hb0:=hbv
  have hw0:=hs.word
  have hl0:=hs.lex
  obtain⟨aa,ac,rfl,_,ham,_⟩:=ha.sl
  obtain⟨ba,bc,rfl,_,hbm,_⟩:=hbv.sl
  obtain⟨wa,wc,rfl,_,_,_⟩:=hw0.sl
  obtain⟨la,lc,rfl,_,hlm,hlp⟩:=hl0.sl
  have hml:=hm.lt
  have hfl:=hfin.lt
  have hrow:=hs.row
  unfold srC at hrow
  obtain⟨H,hH⟩:∃ H,Go.Pv.hereB (lxOf g ws) ws id a S base=H:=⟨_,rfl⟩
  have hHe:=here_eq (id:=id) (a:=a) (base:=base) (ws:=ws) hok hm hfin
  rw [hH] at hHe ⊢
  refine A6 (n:=79) (args:=[.pointer (some ⟨bS,0,none⟩),.slice aa a.length ac,.int .u32 (m:Int),.slice ba base.length bc]) Tryz.func108 rfl Tryz.ntmps108 (by simp) ?_
  (repeat' ((fail_if_success (refine B4 (x:=(Code.region 1 _ _)) ?_));first|refine Sy ?_))
  refine N8 (ι:=Bool) (fun c=>[(0,.pointer (some ⟨bS,0,none⟩)),(1,.slice aa a.length ac),(2,.int .u32 (m:Int)),(3,.slice ba base.length bc),(48,.bool c)])
    (fun c wr=>c=H∧Kx (TU bT bU) w wr∧Tried g ws wr bT∧Row wr bU 4 [.bool c]) ?_ ?_
  · have cf := B5c g hro pv uv tv rv sv fv _ _ _ (shrB g.rules) fin bS bT ws base _ w hob (by omega) hs.row hs.tried (hs.segs.any) (hs.rules.any) (hs.word.any) (hb0.any)
    obtain⟨F,hF⟩:∃ F,fitB g ws base=F:=⟨_,rfl⟩
    rw [hF] at cf hHe
    have hKw:Kx (TU bT bU) w w:=Kx.of_ext (Ext.refl _)
    have hTw:=hs.tried
    have hUw:=hs.is
    cases F
    · (repeat' (first|refine eV Z Z (A3q (a:=m) (b:=fin) Z Z Z hml hfl) ?_|(refine A8 Z Z (A5 Z Z en139) cf (fun vC wC hC=>?_);obtain⟨rfl,kC,tC⟩:=hC;have hK2:=hKw.trans (kC.wk (fun q hq=>Or.inl hq));have hU2:=kC.row hUw (fun e=>hs.n3 e.symm))|refine Ly ?_|refine Dy (fun hh=>?_) fun hh=>?_))
      all_goals first
        | exact G6 false ⟨rfl,rfl,rfl,rfl,rfl,trivial⟩ ⟨by rw [hHe];(simp;done),hK2,tC,hU2⟩
        | exact G6 false ⟨rfl,rfl,rfl,rfl,rfl,trivial⟩ ⟨by rw [hHe];(simp;done),hKw,hTw,hUw⟩
    · have cu:=fun wz h1 h2 h3=>B6n id a bI bU false (.slice aa a.length ac) (.slice ba base.length bc) wz hs.n2.2 h1 h2 h3
      rw [Bool.false_or] at cu
      obtain⟨h71,h71e⟩:∃ h,Go.Pv.hitB id a=h:=⟨_,rfl⟩
      rw [h71e] at cu hHe
      (repeat' (first|refine eV Z Z (A3q (a:=m) (b:=fin) Z Z Z hml hfl) ?_|(refine A8 Z Z (A5 Z Z en139) cf (fun vC wC hC=>?_);obtain⟨rfl,kC,tC⟩:=hC;have hK2:=hKw.trans (kC.wk (fun q hq=>Or.inl hq));have hU2:=kC.row hUw (fun e=>hs.n3 e.symm);have hI2:=kC.row hs.idc (fun e=>hs.n2.1 e);have hA2:=(ha0.move (kC.mv (fun q hq e=>hq.1 e))).wk (fun q hq=>hq.2);have hrow2:=kC.row hrow (fun e=>hs.n1.1 e))|(refine A8 Z Z (L2 (cap:=[.pointer (some ⟨bI,0,none⟩),.pointer (some ⟨bU,0,none⟩)]) Z Z Z en71) (cu _ hA2 hI2 hU2) (fun vC wD hC=>?_);obtain⟨rfl,kD,rD⟩:=hC)|refine Ly ?_|refine Dy (fun hh=>?_) fun hh=>?_))
      all_goals first
        | (exact G6 h71 ⟨rfl,rfl,rfl,rfl,by simp [lk],trivial⟩ ⟨by
            rw [hHe,decide_eq_true (show 0<a.length by omega),decide_eq_true (show ws.length≤base.length by omega),decide_eq_true (show m &&& fin≠0 by omega)]
            simp,hK2.trans (kD.wk (fun q hq=>Or.inr hq)),(by obtain⟨f,m1,m2⟩:=tC;exact⟨f,m1.same (kD.block _ m1.lt (fun e=>hs.n3 e)),m2⟩),rD⟩)
        | exact G6 false ⟨rfl,rfl,rfl,rfl,rfl,trivial⟩ ⟨by rw [hHe,decide_eq_false (show ¬ 0<a.length by omega)];rfl,hKw,hTw,hUw⟩
        | exact G6 false ⟨rfl,rfl,rfl,rfl,rfl,trivial⟩ ⟨by rw [hHe,decide_eq_false (show ¬ ws.length≤base.length by omega)];simp,hKw,hTw,hUw⟩
        | exact G6 false ⟨rfl,rfl,rfl,rfl,rfl,trivial⟩ ⟨by rw [hHe,decide_eq_false (show ¬ (m &&& fin≠0) by omega)];simp,hKw,hTw,hUw⟩
  · rintro c wr ⟨rfl,hk,ht,hu⟩
    cases c with
    | true=>
      rw [Bool.true_or]
      (repeat' (first|refine Sy ?_))
      exact A4 Z Z ⟨rfl,hk,ht,hu⟩
    | false=>
      rw [Bool.false_or]
      have hs2:=hs.kx hk ht hu
      have ha2:=ha0.move (hk.mv fun _ hb=>gxT hb)
      have hb2:=hb0.move (hk.mv fun _ hb=>gxT hb)
      cases k with
      | zero=>
        (repeat' (first|refine Sy ?_|refine Dy (fun hh=>?_) fun hh=>?_))
        all_goals (try (exfalso;omega))
        exact A4 Z Z ⟨rfl,hk,ht,hu⟩
      | succ k=>
        have hrow2:=hs2.row
        unfold srC at hrow2
        rw [C6k]
        obtain⟨P,hP⟩:∃ P:En→Bool,∀ e,P e=(S6 g.net.states.toNat (aftB g.net.steps S e.cls) (fun _=>true)&&belX (lxOf g ws) ws id k a (aftB g.net.steps S e.cls) base e):=⟨_,fun _=>rfl⟩
        have hPe:((lxOf g ws).lex.any fun e=>S6 (lxOf g ws).net.states.toNat (aftB (lxOf g ws).net.steps S e.cls) (fun _=>true)&&belX (lxOf g ws) ws id k a (aftB (lxOf g ws).net.steps S e.cls) base e)=g.lex.any P:=by
          show(g.lex.any _)=_
          congr 1
          funext e
          exact(hP e).symm
        rw [hPe]
        (repeat' (first|refine Ly ?_|refine Dy (fun hh=>?_) fun hh=>?_))
        all_goals (try (exfalso;omega))
        refine B0 (ι:=Nat) (fun i=>[(0,.pointer (some ⟨bS,0,none⟩)),(1,.slice aa a.length ac),(2,.int .u32 (m:Int)),(3,.slice ba base.length bc),(56,.slice la g.lex.length lc),(57,int g.lex.length),(58,int i)])
          (fun i wl=>i≤g.lex.length∧Kx (TU bT bU) w wl∧Tried g ws wl bT∧Row wl bU 4 [.bool false]∧∀(j:Nat) (e:En),j<i→g.lex[j]?=some e→P e=false) (fun i=>g.lex.length-i) 0
          ⟨rfl,rfl,rfl,rfl,rfl,rfl,rfl,trivial⟩ ⟨Nat.zero_le _,hk,ht,hu,fun j x hj=>absurd hj (by omega)⟩ ?_
        rintro i wl ⟨hi,hkl,htl,hul,hall⟩
        have hs3:=hs.kx hkl htl hul
        have ha3:=ha0.move (hkl.mv fun _ hb=>gxT hb)
        have hb3:=hb0.move (hkl.mv fun _ hb=>gxT hb)
        by_cases hlt:i<g.lex.length
        · obtain ⟨b, off, rfl⟩ := hlp (by omega)
          obtain⟨e,hei⟩:∃ e,g.lex[i]?=some e:=⟨_,List.getElem?_eq_getElem hlt⟩
          have hmem:=List.mem_of_getElem? hei
          obtain⟨d0,f0,d1,f1,d2,f2,d3,f3,d4,f4,hat,hrep,_⟩:=D3 hs3.lex hei
          have hcl:1≤e.cls:=(hok.lex e hmem).2.1
          have hXr:=Ext.refl wl
          have caf:=fun wz (hx:Ext wl wz)=>B2n g hok.net _ _ _ _ _ _ _ _ _ _ _ fin bS m S hm e.cls hcl wz (hs3.row.ext hx) (hs3.steps.ext hx).any
          obtain⟨r,hr⟩:∃ r,belX (lxOf g ws) ws id k a (aftB g.net.steps S e.cls) base e=r:=⟨_,rfl⟩
          have cst:=fun(m':Nat) (wz:World) (hx:Ext wl wz) (hm':MaskIs m' (aftB g.net.steps S e.cls))=>hstep k rfl e a (aftB g.net.steps S e.cls) m' base _ _ _ wz hmem (by omega) hm' hob hbl (hs3.ext hx) (Rep.move hrep hx.mv) (ha3.ext hx) (hb3.ext hx)
          rw [hr] at cst
          cases r
          · (repeat' (first|(refine C1 Z Z Z Z Z Z Z Z Z Z (fun bN wN xN hbN rN=>?_);replace hXr:=hXr.trans xN;replace hs3:=hs3.ext xN;replace ha3:=ha3.ext xN;replace hb3:=hb3.ext xN)|refine eV Z Z (A0 (m:=i) Z Z Z (by first|rfl|omega) (by omega)) ?_|(refine A8 Z Z (A5 Z Z en140) (caf _ hXr) (fun vC wC hC=>?_);obtain⟨⟨m',rfl,hm'⟩,xC⟩:=hC;replace hXr:=hXr.trans xC;replace hs3:=hs3.ext xC;replace ha3:=ha3.ext xC;replace hb3:=hb3.ext xC;replace rN:=rN.ext xC)|(refine A8 Z Z (A5 Z Z en141) (cst _ _ hXr hm') (fun vC wD hC=>?_);obtain⟨rfl,kD,tD,uD⟩:=hC)|refine Ly ?_|refine Dy (fun hh=>?_) fun hh=>?_))
            all_goals (try (exfalso;omega))
            · refine B3 (i+1) ⟨rfl,rfl,rfl,rfl,rfl,rfl,rfl,trivial⟩ ⟨by omega,(hkl.trans (Kx.of_ext hXr)).trans kD,tD,uD,fun j z hj hz=>?_⟩ (by omega)
              by_cases ee:j=i
              · subst ee;rw [hei] at hz;cases hz;rw [hP,hr,Bool.and_false]
              · exact hall j z (by omega) hz
            · refine B3 (i+1) ⟨rfl,rfl,rfl,rfl,rfl,rfl,rfl,trivial⟩ ⟨by omega,hkl.trans (Kx.of_ext hXr),htl.ext hXr,hul.ext hXr,fun j z hj hz=>?_⟩ (by omega)
              by_cases ee:j=i
              · subst ee;rw [hei] at hz;cases hz;rw [hP,hr,Bool.and_false]
              · exact hall j z (by omega) hz
          · (repeat' (first|(refine C1 Z Z Z Z Z Z Z Z Z Z (fun bN wN xN hbN rN=>?_);replace hXr:=hXr.trans xN;replace hs3:=hs3.ext xN;replace ha3:=ha3.ext xN;replace hb3:=hb3.ext xN)|refine eV Z Z (A0 (m:=i) Z Z Z (by first|rfl|omega) (by omega)) ?_|(refine A8 Z Z (A5 Z Z en140) (caf _ hXr) (fun vC wC hC=>?_);obtain⟨⟨m',rfl,hm'⟩,xC⟩:=hC;replace hXr:=hXr.trans xC;replace hs3:=hs3.ext xC;replace ha3:=ha3.ext xC;replace hb3:=hb3.ext xC;replace rN:=rN.ext xC)|(refine A8 Z Z (A5 Z Z en141) (cst _ _ hXr hm') (fun vC wD hC=>?_);obtain⟨rfl,kD,tD,uD⟩:=hC)|refine Ly ?_|refine Dy (fun hh=>?_) fun hh=>?_))
            all_goals (try (exfalso;omega))
            · have:g.lex.any P=true:=by
                rw [List.any_eq_true]
                exact⟨e,hmem,by rw [hP,hr,(B5t hok.net hm').1 (by omega)];rfl⟩
              rw [this]
              exact A4 Z Z ⟨rfl,(hkl.trans (Kx.of_ext hXr)).trans kD,tD,uD⟩
            · refine B3 (i+1) ⟨rfl,rfl,rfl,rfl,rfl,rfl,rfl,trivial⟩ ⟨by omega,hkl.trans (Kx.of_ext hXr),htl.ext hXr,hul.ext hXr,fun j z hj hz=>?_⟩ (by omega)
              by_cases ee:j=i
              · subst ee;rw [hei] at hz;cases hz
                have hnb:S6 g.net.states.toNat (aftB g.net.steps S e.cls) (fun _=>true)=false:=by
                  cases hb:S6 g.net.states.toNat (aftB g.net.steps S e.cls) (fun _=>true) with
                  | false=>rfl
                  | true=>exact absurd ((B5t hok.net hm').2 hb) (by omega)
                rw [hP,hnb,Bool.false_and]
              · exact hall j z (by omega) hz
        · have:g.lex.any P=false:=by
            rw [List.any_eq_false]
            intro e he
            obtain⟨j,hj⟩:=List.getElem?_of_mem he
            rw [hall j e (by have:=(List.getElem?_eq_some_iff.1 hj).1;omega) hj];simp
          rw [this]
          (repeat' (first|refine Sy ?_|refine Dy (fun hh=>?_) fun hh=>?_))
          all_goals (try (exfalso;omega))
          exact A4 Z Z ⟨rfl,hkl,htl,hul⟩
end
section
open Go.RowKit Go.En Go.Pv
def C1a (lex:List En):Prop:=∀(id:Int) (v:Value) (w:World),Sl w v lex→Calls Tryz.prog 185 #[v,int id] w (Rt fun u w'=>Ext w w'∧Sl w' u (L6 lex id))
attribute [local irreducible] E EL K Val Enters Rt Calls bodyPost Code.wp RQ
theorem B8f (G:Nat→Prop) (e:En) (X:List Value) (w:World) (h:Rep.at_ G w e X) (hG:∀ b,w.heap.size≤b→G b) (hl:e.alts.length≤1000000):Calls Tryz.prog 186 #[.agg X.toArray] w (Rt fun u w'=>Ext w w'∧SlG G w' u (D4 e)):=by
  obtain⟨fv,av,sv,lv,rv,rfl,hf,ha,_,_,_⟩:=h
  have hf0:=hf
  obtain⟨fa,fc,rfl,_,_,_⟩:=hf.sl
  have ha0:=ha
  obtain⟨aa,ac,rfl,_,_,_⟩:=ha.sl
  obtain⟨ss,s1,s2⟩:=ha0.css
  have fs:ss.flatten.length=e.alts.length*1:=AtsG.flat s1
  refine A6 (n:=9) (args:=[.agg #[int e.id,.slice fa e.form.length fc,int e.cls,.slice aa e.alts.length ac,int e.main,sv,lv,rv] ]) Tryz.func186 rfl Tryz.ntmps186 (by simp) ?_
  refine B4 ?_
  refine A9 ?_
  refine C6 Z Z Z Z (fun bX wX xX hbX rX0=>?_)
  have rX:Row wX bX 65 [int e.id,.slice fa e.form.length fc,int e.cls,.slice aa e.alts.length ac,int e.main,sv,lv,rv]:=rX0
  clear rX0
  (repeat' (first|(refine eL Z Z Z Z Z Z Z Z (fun bS wS xS hbS rS=>?_);replace rX:=rX.ext xS)|refine Ly ?_))
  have rS':Row wS bS 32 [.slice fa e.form.length fc]:=rS
  refine D5 (w0:=wX) (news:=ss.flatten) (K9 (n:=1) (size:=1) rS' rfl (by omega) (by omega)) xS (fun h0=>?_) Z Z Z Z Z fs (AtsG.ones s1) Z Z (by omega) (by omega) (fun vJ wJ oJ xJ kJ hJ=>?_)
  · obtain⟨b,so,e,_,hat⟩:=s2 (by omega)
    exact⟨b,so,e,hat.ext (xX.trans xS)⟩
  (repeat' (first|refine Sy ?_))
  refine A4 Z Z ⟨xX.trans xJ,?_⟩
  have hat:AtsG G wJ (D4 e) ([.slice fa e.form.length fc]::ss):=⟨⟨_,rfl,hf0.ext (xX.trans xJ)⟩,AtsG.ext s1 (xX.trans xJ)⟩
  exact L1 (xs:=D4 e) (css:=[.slice fa e.form.length fc]::ss) (show wJ.ownsRow wX.heap.size 32 1 vJ (1+e.alts.length) (([.slice fa e.form.length fc]::ss).flatten) from oJ) hat (fun b hb=>hG b (by have:=xX.size;omega)) (by simp [D4];omega) (by simp [D4];omega)
theorem B0v {g:Lg} (hok:LangOK g) (h185:C1a g.lex) {ws:List Int} (hws:ws.length≤24) {id:Int} {pv uv tv rv sv fv ev wv:Value} {fin:Nat} {bS bT bI bU:Nat} (k:Nat)
    (hwalk:C6s g ws id pv uv tv rv sv fv ev wv fin bS bT bI bU k):StepC g ws id pv uv tv rv sv fv ev wv fin bS bT bI bU k:=by
  intro e a S m base X av bv w hem hak hm hob hbl hs hrep ha hbv
  have ha0:=ha
  have hb0:=hbv
  have hw0:=hs.word
  have hl0:=hs.lex
  have hrep0:=hrep
  obtain⟨aa,ac,rfl,_,ham,_⟩:=ha.sl
  obtain⟨ba,bc,rfl,_,hbm,_⟩:=hbv.sl
  obtain⟨wa,wc,rfl,_,_,_⟩:=hw0.sl
  obtain⟨la,lc,rfl,_,hlm,hlp⟩:=hl0.sl
  have hlx:=hok.lex e hem
  have hUlt:=hs.is.lt
  have hTlt:=hs.tlt
  have hGn:∀ b,w.heap.size≤b→b≠bT∧b≠bU:=fun b hb=>⟨by omega,by omega⟩
  have hrow:=hs.row
  unfold srC at hrow
  obtain⟨fv0,av0,sv0,lv0,rv0,rfl,hf⟩:=hrep
  refine A6 (n:=78) (args:=[.pointer (some ⟨bS,0,none⟩),.agg #[int e.id,fv0,int e.cls,av0,int e.main,sv0,lv0,rv0],.slice aa a.length ac,.int .u32 (m:Int),.slice ba base.length bc]) Tryz.func141 rfl Tryz.ntmps141 (by simp) ?_
  refine B4 ?_
  refine A9 ?_
  refine C6 Z Z Z Z (fun bE wE xE hbE rE0=>?_)
  have rE:Row wE bE 65 [int e.id,fv0,int e.cls,av0,int e.main,sv0,lv0,rv0]:=rE0
  clear rE0
  replace hrow:=hrow.ext xE
  (repeat' ((fail_if_success (refine B4 (x:=(Code.region 1 _ _)) ?_));first|refine Sy ?_))
  refine E.sub (M:=[(0,.pointer (some ⟨bS,0,none⟩)),(2,.slice aa a.length ac),(3,.int .u32 (m:Int)),(4,.slice ba base.length bc),(6,.pointer (some ⟨bE,0,none⟩)),(10,.bool false)]) ⟨rfl,rfl,rfl,rfl,rfl,rfl,trivial⟩ ?_
  obtain⟨Zq,hZ⟩:∃ Zq,L6 g.lex e.id=Zq:=⟨_,rfl⟩
  have hbx:belX (lxOf g ws) ws id k a S base e=(decide (Zq.length≠0)&&(D4 e).zipIdx.any fun fi=>decide (base.length+fi.1.length≤(lxOf g ws).most)&&(Go.Pv.hereB (lxOf g ws) ws id (a++[⟨e.id,(fi.2:Int),0⟩]) S (base++fi.1)||belB (lxOf g ws) ws id k (a++[⟨e.id,(fi.2:Int),0⟩]) S (base++fi.1))):=by rw [← hZ];rfl
  have c185:=fun wz (hx:Ext w wz)=>h185 e.id _ wz (hl0.ext hx).any
  rw [hZ] at c185
  refine N8 (ι:=Bool) (fun c=>[(0,.pointer (some ⟨bS,0,none⟩)),(2,.slice aa a.length ac),(3,.int .u32 (m:Int)),(4,.slice ba base.length bc),(6,.pointer (some ⟨bE,0,none⟩)),(10,.bool false),(25,.bool c)])
    (fun c wr=>c=decide (Zq.length=0)∧Ext wE wr) ?_ ?_
  · (repeat' (first|refine C8 (f:=185) (fun u w'=>Sl w' u Zq) (fun _=>#[.slice la g.lex.length lc,int e.id]) Z Z (fun _ _ _ _ xe h=>SlG.ext h xe) (fun _ _ _=>A5 Z Z en185) (fun wq _ xq _=>C0 (c185 wq (xE.trans xq)) (fun _ _ hh=>⟨hh.2,hh.1⟩)) ?_|refine A5r Z Z Z Z (fun _=>rfl) ?_|refine J4 (fun wq δ xq hR=>?_)|refine Sy ?_|refine yqY ?_|refine yqZ ?_|refine yqX (fun hh=>?_) fun hh=>?_|refine E_dq B5 (by kernel_rfl) Z ?_))
    all_goals first
      | exact G6 true ⟨rfl,rfl,rfl,rfl,rfl,rfl,rfl,trivial⟩ ⟨(decide_eq_true (by omega)).symm,xq⟩
      | exact G6 false ⟨rfl,rfl,rfl,rfl,rfl,rfl,rfl,trivial⟩ ⟨(decide_eq_false (by omega)).symm,xq⟩
  rintro c w1 ⟨hcz,x1⟩
  have hX1:Ext w w1:=xE.trans x1
  replace rE:=rE.ext x1
  have hs1:=hs.ext hX1
  cases c with
  | true=>
    have hz:=of_decide_eq_true hcz.symm
    have hb0:belX (lxOf g ws) ws id k a S base e=false:=by rw [hbx,decide_eq_false (by omega)];rfl
    rw [hb0]
    (repeat' (first|refine Sy ?_))
    exact A4 Z Z ⟨rfl,Kx.of_ext hX1,hs1.tried,hs1.is⟩
  | false =>
    have hz:=of_decide_eq_false hcz.symm
    rw [decide_eq_true (show Zq.length≠0 by omega),Bool.true_and] at hbx
    have cfo:=fun wz (hx:Ext w wz)=>B8f (fun b=>b≠bT∧b≠bU) e _ wz (Rep.move hrep0 hx.mv) (fun b hb=>hGn b (by have:=hx.size;omega)) (by have:=hlx.2.2.2.2.1;omega)
    have hX2:=hX1
    (repeat' (first|(refine A8 Z Z (A5 Z Z en186) (cfo _ hX2) (fun vC w2 hC=>?_);obtain⟨xC,sF⟩:=hC;replace hX2:=hX2.trans xC;replace rE:=rE.ext xC;obtain⟨fa,fc,rfl,_,_,hfp⟩:=sF.sl)|refine Ly ?_))
    obtain⟨P,hP⟩:∃ P:List Int × Nat→Bool,∀ fi,P fi=(decide (base.length+fi.1.length≤(lxOf g ws).most)&&(Go.Pv.hereB (lxOf g ws) ws id (a++[⟨e.id,(fi.2:Int),0⟩]) S (base++fi.1)||belB (lxOf g ws) ws id k (a++[⟨e.id,(fi.2:Int),0⟩]) S (base++fi.1))):=⟨_,fun _=>rfl⟩
    have hbx2:belX (lxOf g ws) ws id k a S base e=(D4 e).zipIdx.any P:=by rw [hbx];congr 1;funext fi;exact(hP fi).symm
    rw [hbx2]
    have hs2:=hs.ext hX2
    refine B0 (ι:=Nat) (fun j=>[(0,.pointer (some ⟨bS,0,none⟩)),(2,.slice aa a.length ac),(3,.int .u32 (m:Int)),(4,.slice ba base.length bc),(6,.pointer (some ⟨bE,0,none⟩)),(27,.slice fa (D4 e).length fc),(28,int (D4 e).length),(29,int j)])
      (fun j wl=>j≤(D4 e).length∧Kx (TU bT bU) w2 wl∧Tried g ws wl bT∧Row wl bU 4 [.bool false]∧∀(i:Nat) (F:List Int),i<j→(D4 e)[i]?=some F→P (F,i)=false) (fun j=>(D4 e).length-j) 0
      ⟨rfl,rfl,rfl,rfl,rfl,rfl,rfl,rfl,trivial⟩ ⟨Nat.zero_le _,Kx.of_ext (Ext.refl _),hs2.tried,hs2.is,fun _ _ h=>absurd h (by omega)⟩ ?_
    rintro j wl ⟨hj,hkl,htl,hul,hall⟩
    have hs3:=hs2.kx hkl htl hul
    have ha3:=(ha0.ext hX2).move (hkl.mv fun _ hb=>gxT hb)
    have hb3:=(hb0.ext hX2).move (hkl.mv fun _ hb=>gxT hb)
    have sF3:=sF.move (hkl.mv fun _ hb=>gxT hb)
    have rE3:=hkl.row rE (gxT ⟨by omega,by omega⟩)
    have hrow3:=hs3.row
    unfold srC at hrow3
    have hk0:Kx (TU bT bU) w wl:=(Kx.of_ext hX2).trans hkl
    have hmost:(lxOf g ws).most=if shrB g.rules then 24 else ws.length:=rfl
    by_cases hlt:j<(D4 e).length
    · obtain ⟨fb, fo, rfl⟩ := hfp (by omega)
      obtain⟨F,hF1⟩:∃ F,(D4 e)[j]?=some F:=⟨_,List.getElem?_eq_getElem hlt⟩
      obtain⟨cs,⟨Fv,rfl,hF2⟩,hatF⟩:=sF3.elem hF1
      obtain⟨Fa,Fc,rfl,_,_,_⟩:=hF2.sl
      have hatF2:=(show At wl fb (fo+j*1) [.slice Fa F.length Fc] from hatF).one
      have hFm:=hlx.2.2.2.2.2.1 F (List.mem_of_getElem? hF1)
      obtain⟨sb,b1,b2⟩:=hb3.css
      have fsb:sb.flatten.length=base.length*1:=AtsG.flat b1
      obtain⟨sf,f1,f2⟩:=hF2.css
      have fsf:sf.flatten.length=F.length*1:=AtsG.flat f1
      by_cases hmo:base.length+F.length≤(lxOf g ws).most
      · obtain⟨sa,a1,a2⟩:=ha3.css
        have fsa:sa.flatten.length=a.length*3:=AtsG.flat a1
        have hm24:(lxOf g ws).most≤24:=by rw [hmost];split <;> omega
        have hmost2:base.length+F.length≤24∧(shrB g.rules=false→base.length+F.length≤ws.length):=by
          rw [hmost] at hmo
          refine⟨by split at hmo <;> omega,fun h=>?_⟩
          rw [h,if_neg Bool.false_ne_true] at hmo;exact hmo
        obtain⟨sh,hsh⟩:∃ sh,shrB g.rules=sh:=⟨_,rfl⟩
        rw [hsh] at hrow3 hmost2
        cases sh
        all_goals
          (repeat' (first|refine eV Z Z (A0 (m:=j) Z Z Z (by first|rfl|omega) (by omega)) ?_|(refine eL Z Z Z Z Z Z Z Z (fun bN wN xN hbN rN=>?_))|(refine D5 (w0:=wl) (news:=sb.flatten) (K9 (n:=0) (size:=1) rN rfl (by omega) (by omega)) xN (fun h0=>?_) Z Z Z Z Z fsb (AtsG.ones b1) Z Z (by omega) (by omega) (fun v1 w4 o1 x1 _ _=>?_);(obtain⟨b,so,e1,_,hat⟩:=b2 (by omega);exact⟨b,so,e1,hat.ext xN⟩))|(refine D5 (w0:=wl) (news:=sf.flatten) o1 x1 (fun h0=>?_) Z Z Z Z Z fsf (AtsG.ones f1) Z Z (by omega) (by omega) (fun v2 w5 o2 x2 _ _=>?_);(obtain⟨b,so,e1,_,hat⟩:=f2 (by omega);exact⟨b,so,e1,hat.ext x1⟩))|refine Ly ?_|refine Dy (fun hh=>?_) fun hh=>?_))
        all_goals (try (have hm3:=hmost2.2 rfl))
        all_goals (try (exfalso;omega))
        all_goals
          have rE5:=rE3.ext x2
          have z2:=hX2.size
          have zl:=hkl.size
          have z5:=x2.size
          refine E.sub (M:=[(0,.pointer (some ⟨bS,0,none⟩)),(2,.slice aa a.length ac),(3,.int .u32 (m:Int)),(4,.slice ba base.length bc),(6,.pointer (some ⟨bE,0,none⟩)),(11,int j),(14,v2),(27,.slice (some ⟨fb,fo,none⟩) (D4 e).length fc),(28,int (D4 e).length),(29,int j)]) ⟨rfl,rfl,rfl,rfl,rfl,rfl,rfl,rfl,rfl,rfl,trivial⟩ ?_
          refine E_res (id:=9) [.r (some 62) 62 (ROwn w5.heap.size 129 3 0 []) [],.v 63 (.slice aa a.length ac),.r (some 64) 64 (ROwn w5.heap.size 129 3 (0+a.length) ([]++sa.flatten)) [0],.v 65 (.pointer (some ⟨bE,0+0,none⟩)),.v 66 (int e.id),.v 67 (int j),.v 68 (.agg #[int e.id,int j,int 0]),
            .r (some 69) 69 (ROwn w5.heap.size 129 3 1 [int e.id,int j,int 0]) [],.r (some 70) 70 (ROwn w5.heap.size 129 3 (0+a.length+1) ([]++sa.flatten++[int e.id,int j,int 0])) [2,7],.r (some 15) 15 (ROwn w5.heap.size 129 3 (0+a.length+1) ([]++sa.flatten++[int e.id,int j,int 0])) [8] ] [9] B5 (by kernel_rfl) (by kernel_rfl) (by kernel_rfl)
            ⟨C3x (vs:=[]) (cs:=[]) Z Z Z Z Z Z Z (by omega),vcV fun _ _=>zA Z Z,
              st_app (c:=ac) (a:=aa) (q:=a.length) rfl rfl (fun _=>rfl) (fun w' x' h0=>by obtain⟨b,so,e1,_,hat⟩:=a2 (by omega);exact⟨b,so,e1,hat.ext (x2.trans x')⟩) fsa (AtsG.ones a1) rfl rfl (by omega) (by omega),
              vcV fun _ _=>zH Z Z,vcV fun wq xq=>(by first|exact A7 Z Z Z ((Row.ext (by assumption) xq).cellAt (by rfl))|exact B8 Z Z Z (Row.ext (by assumption) xq).at (by rfl)|exact A7 Z Z Z ((At.ext (by assumption) xq).cellAt (by rfl))|exact B8 Z Z Z (At.ext (by assumption) xq) (by rfl)|exact A7 Z Z Z (Ext.cell xq (by assumption))),vcV fun _ _=>zA Z Z,vcV fun _ _=>B6 (vs:=[(0,int e.id),(1,int j)]) [int e.id,int j,int 0] rfl rfl rfl,
              C3x (vs:=[.agg #[int e.id,int j,int 0] ]) (cs:=[int e.id,int j,int 0]) rfl rfl rfl rfl rfl rfl rfl (by omega),st_app2 rfl rfl rfl (by decide) rfl rfl rfl (by omega) (by omega),
              st_val B1n (fun w' δ' Gs' x' hr'=>⟨δ' 70,M2 Z Z,?_⟩),trivial⟩ (fun w6 δ6 Gs6 x6 hr6 _=>?_)
          · have h8:=hr' 8 (List.mem_singleton.2 rfl)
            exact⟨h8.1,fun b hb=>⟨8,List.mem_singleton.2 rfl,h8.2 b hb⟩⟩
          have h9:=(hr6 9 (List.mem_singleton.2 rfl)).1
          change ROwn w5.heap.size 129 3 (0+a.length+1) ([]++sa.flatten++[int e.id,int j,int 0]) (Gs6 9) (δ6 15) w6 at h9
          obtain⟨b,hb⟩:∃ b:List Prt,b=a++[⟨e.id,(j:Int),0⟩]:=⟨_,rfl⟩
          have hblen:b.length=a.length+1:=by rw [hb];simp
          have hv2:w6.ownsRow w5.heap.size 129 3 (δ6 15) (0+a.length+1) ((sa++[[int e.id,int j,int 0] ]).flatten):=by
            rw [List.flatten_append]
            simpa only [List.nil_append,List.flatten_cons,List.flatten_nil,List.append_nil] using h9.1
          have hvb:SlG (fun c=>c≠bT∧c≠bU) w6 (δ6 15) b:=by
            rw [hb]
            exact L1 (e:=129) (n:=0+a.length+1) (css:=sa++[[int e.id,int j,int 0] ]) hv2 (AllAt.append (AllAt.mono (fun _ _ h=>h) a1) (AllAt.one rfl)) (fun c hc=>hGn c (by omega)) (by rw [← hb,hblen];omega) (by rw [← hb,hblen];omega)
          have hbB5:SlG (fun c=>c≠bT∧c≠bU) w5 v2 (base++F):=
            L1 (e:=3) (B:=wl.heap.size) (n:=0+base.length+F.length) (css:=sb++sf) (by rw [List.flatten_append];exact o2) (AllAt.append (AllAt.mono (fun _ _ h=>h) b1) (AllAt.mono (fun _ _ h=>h) f1)) (fun c hc=>hGn c (by omega)) (by rw [List.length_append];omega) (by rw [List.length_append];omega)
          have hbB:=hbB5.ext x6
          have hob2:OKb (base++F):=fun x hx=>by
            rcases List.mem_append.1 hx with h|h
            · exact hob x h
            · exact hFm.2 x h
          have hl6:Ext wl w6:=x2.trans x6
          have cw:=hwalk b S m (base++F) _ _ w6 (by rw [hblen];omega) hm hob2 (by rw [List.length_append];omega) (hs3.ext hl6) hvb hbB
          obtain⟨r,hr⟩:∃ r,(Go.Pv.hereB (lxOf g ws) ws id b S (base++F)||belB (lxOf g ws) ws id k b S (base++F))=r:=⟨_,rfl⟩
          have hPj:P (F,j)=r:=by rw [hP];dsimp only;rw [decide_eq_true hmo,Bool.true_and,← hb];exact hr
          rw [hr] at cw
          refine K.sub (M:=[(0,.pointer (some ⟨bS,0,none⟩)),(2,.slice aa a.length ac),(3,.int .u32 (m:Int)),(4,.slice ba base.length bc),(6,.pointer (some ⟨bE,0,none⟩)),(14,v2),(15,δ6 15),(27,.slice (some ⟨fb,fo,none⟩) (D4 e).length fc),(28,int (D4 e).length),(29,int j)]) ⟨rfl,rfl,rfl,rfl,rfl,rfl,rfl,rfl,rfl,rfl,trivial⟩ ?_
          cases r
          · (repeat' (first|(refine A8 Z Z (A5 Z Z C5w) cw (fun vC w7 hC=>?_);obtain⟨rfl,k7,t7,u7⟩:=hC)|refine Sy ?_))
            all_goals (try (exfalso;omega))
            refine B3 (j+1) ⟨rfl,rfl,rfl,rfl,rfl,rfl,rfl,rfl,trivial⟩ ⟨by omega,(hkl.trans (Kx.of_ext hl6)).trans k7,t7,u7,fun i z hi hz=>?_⟩ (by omega)
            by_cases ee:i=j
            · subst ee;rw [hF1] at hz;cases hz;exact hPj
            · exact hall i z (by omega) hz
          · (repeat' (first|(refine A8 Z Z (A5 Z Z C5w) cw (fun vC w7 hC=>?_);obtain⟨rfl,k7,t7,u7⟩:=hC)|refine Sy ?_))
            all_goals (try (exfalso;omega))
            have:(D4 e).zipIdx.any P=true:=List.any_eq_true.2 ⟨(F,j),List.mem_zipIdx_iff_getElem?.2 hF1,hPj⟩
            rw [this]
            exact A4 Z Z ⟨rfl,(hk0.trans (Kx.of_ext hl6)).trans k7,t7,u7⟩
      · have hPj:P (F,j)=false:=by rw [hP];dsimp only;rw [decide_eq_false hmo];rfl
        cases hsh:shrB g.rules
        all_goals (rw [hsh] at hrow3 hmost;first|rw [if_pos rfl] at hmost|rw [if_neg Bool.false_ne_true] at hmost)
        all_goals (repeat' (first|refine eV Z Z (A0 (m:=j) Z Z Z (by first|rfl|omega) (by omega)) ?_|refine Ly ?_|refine Dy (fun hh=>?_) fun hh=>?_|refine eL Z Z Z Z Z Z Z Z (fun bS wS xS hbS rS=>?_)))
        all_goals (try (exfalso;omega))
        all_goals refine B3 (j+1) ⟨rfl,rfl,rfl,rfl,rfl,rfl,rfl,rfl,trivial⟩ ⟨by omega,hkl,htl,hul,fun i z hi hz=>?_⟩ (by omega)
        all_goals
          by_cases ee:i=j
          · subst ee;rw [hF1] at hz;cases hz;exact hPj
          · exact hall i z (by omega) hz
    · have:(D4 e).zipIdx.any P=false:=by
        rw [List.any_eq_false]
        rintro⟨F,i⟩ hi
        have:=List.mem_zipIdx_iff_getElem?.1 hi
        rw [hall i F (by have:=(List.getElem?_eq_some_iff.1 this).1;omega) this];simp
      rw [this]
      (repeat' (first|refine Sy ?_|refine Dy (fun hh=>?_) fun hh=>?_))
      all_goals (try (exfalso;omega))
      exact A4 Z Z ⟨rfl,hk0,htl,hul⟩
end
section
open Go.RowKit Go.En Go.Pv
theorem B2z {g:Lg} (hok:LangOK g) (hro:∀ r∈g.rules,RulOK r) (h185:C1a g.lex) {ws:List Int} (hws:ws.length≤24) {id:Int} {pv uv tv rv sv fv ev wv:Value} {fin:Nat} (hfin:MaskIs fin (finB g.net)) {bS bT bI bU:Nat} :
    ∀ k:Nat,C6s g ws id pv uv tv rv sv fv ev wv fin bS bT bI bU k
  | 0=>A2g hok hro hws hfin 0 (fun k' h=>absurd h (by omega))
  | k + 1 => A2g hok hro hws hfin (k + 1) (fun k' h => by
      obtain rfl:k=k':=by omega
      exact B0v hok h185 hws k (B2z hok hro h185 hws hfin k))
end
section
open Go.RowKit Go.En Go.Pv
def RunC (g : Lg) (ws : List Int) (id : Int) : Prop :=
  ∀(pv uv tv rv sv fv ev wv:Value) (bI bU:Nat) (w:World),bI≠bU→LangG (fun b=>b≠bU) w g pv uv tv rv sv fv ev→SlG (fun b=>b≠bU) w wv ws→Row w bI 3 [int id]→Row w bU 4 [.bool false]→
    Calls Tryz.prog 70 #[.agg #[pv,str g.oname,uv,tv,rv,int g.net.states,sv,fv,ev],wv,.func (.func 71) #[] #[.pointer (some ⟨bI,0,none⟩),.pointer (some ⟨bU,0,none⟩)] ] w (Rt fun _ w'=>Kx (fun b=>b=bU) w w'∧Row w' bU 4 [.bool (A1f g ws id)])
attribute [local irreducible] E EL K Val Enters Rt Calls bodyPost Code.wp RQ
theorem A8d {g:Lg} {ws:List Int} {id:Int} (hrun:RunC g ws id) (pv uv tv rv sv fv ev wv:Value) (w:World) (hg:LangG Tt w g pv uv tv rv sv fv ev) (hw:Sl w wv ws) :
    Calls Tryz.prog 39 #[.agg #[pv,str g.oname,uv,tv,rv,int g.net.states,sv,fv,ev],wv,int id] w (Rt fun u w'=>u=.bool (A1f g ws id)∧Ext w w'):=by
  refine A6 (n:=13) (args:=[.agg #[pv,str g.oname,uv,tv,rv,int g.net.states,sv,fv,ev],wv,int id]) Tryz.func39 rfl Tryz.ntmps39 (by simp) ?_
  refine B4 ?_
  refine A9 ?_
  refine C6 Z Z Z Z (fun bG wG xG hbG rG0=>?_)
  have rG:Row wG bG 37 [pv,str g.oname,uv,tv,rv,int g.net.states,sv,fv,ev]:=rG0
  clear rG0
  refine C6 Z Z Z Z (fun bI wI xI hbI rI0=>?_)
  have rI:Row wI bI 3 [int id]:=rI0
  clear rI0
  replace rG:=rG.ext xI
  have hX:=xG.trans xI
  have zG:=xG.size
  have zI:=xI.size
  have lG:=rG.lt
  have lI:=rI.lt
  (repeat' (first|refine C3 Z Z Z (fun bU wA xA hbU rA=>?_)|refine Sy ?_))
  refine B7 (cs:=[_]) rA xA (Nat.le_of_eq hbU.symm) Z Z Z Z Z Z Z Z (Nat.le_refl _) (fun wU rU0 xU kU=>?_)
  have rU:Row wU bU 4 [.bool false]:=rU0
  replace rG:=rG.ext xU
  replace rI:=rI.ext xU
  replace hX:=hX.trans xU
  (repeat' (first|refine eV Z Z (J6 (vs:=[.pointer (some ⟨bI,0,none⟩),.pointer (some ⟨bU,0,none⟩)]) Z Z) ?_|(refine A8 Z Z (A5 Z Z en70) (hrun pv uv tv rv sv fv ev wv bI bU _ (by omega) (hg.move fun b _ hlt=>⟨by omega,hX.block hlt⟩) (hw.move fun b _ hlt=>⟨by omega,hX.block hlt⟩) rI rU) (fun vC wC hC=>?_);obtain⟨kC,uC⟩:=hC)|refine Ly ?_))
  exact A4 Z Z ⟨rfl,kC.from hX (fun b hb e=>by omega)⟩
end
end Go.Proofs.YtjicdgejhkgpgaaGreatDoor