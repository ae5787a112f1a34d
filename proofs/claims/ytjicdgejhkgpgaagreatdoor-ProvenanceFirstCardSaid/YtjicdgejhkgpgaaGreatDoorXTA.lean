/-
  Walks: the program's search for analyses: walk, out of step.
-/
import Derived.Test.YtjicdgejhkgpgaaGreatDoorYv
set_option linter.all false
namespace Go.Proofs.YtjicdgejhkgpgaaGreatDoor
open Go.RowKit Go.En Go.Pv
theorem here_eq {g:Lg} (hok:LangOK g) {ws:List Int} {id:Int} {a:List Prt} {S:Int→Bool} {m fin:Nat} {base:List Int} (hm:MaskIs m S) (hfin:MaskIs fin (finB g.net)) :
    Go.Pv.hereB (lxOf g ws) ws id a S base=(decide (0<a.length)&&(decide (m &&& fin≠0)&&(decide (ws.length≤base.length)&&fitB g ws base))&&Go.Pv.hitB id a):=by
  unfold Go.Pv.hereB
  have e1:(!a.isEmpty)=decide (0<a.length):=by cases a <;> simp
  have e2:bothB (lxOf g ws).net.states.toNat S (finB (lxOf g ws).net)=decide (m &&& fin≠0):=by
    show bothB g.net.states.toNat S (finB g.net)=_
    cases hb:bothB g.net.states.toNat S (finB g.net) with
    | true=>exact(decide_eq_true ((fin_both hok.net hm hfin).2 hb)).symm
    | false=>exact(decide_eq_false (fun h=>by rw [(fin_both hok.net hm hfin).1 h] at hb;cases hb)).symm
  rw [e1,e2]
  rfl
attribute [local irreducible] E EL K Val Enters Rt Calls bodyPost Code.wp RQ
set_option maxHeartbeats 8000000 in
set_option maxRecDepth 8000 in
theorem walk_of_step {g : Lg} (hok : LangOK g) (hro : ∀ r ∈ g.rules, RulOK r) {ws : List Int} (hws : ws.length ≤ 24) {id : Int} {pv uv tv rv sv fv ev wv : Value} {fin : Nat} (hfin : MaskIs fin (finB g.net)) {bS bT bI bU : Nat} (k : Nat)
    (hstep:∀ k',k=k'+1→StepC g ws id pv uv tv rv sv fv ev wv fin bS bT bI bU k'):WalkC g ws id pv uv tv rv sv fv ev wv fin bS bT bI bU k:=by
  intro a S m base av bv w hak hm hob hbl hs ha hbv
  have ha0:=ha
  have hb0:=hbv
  have hw0:=hs.word
  have hl0:=hs.lex
  obtain⟨aa,ac,rfl,_,ham,_⟩:=ha.sl
  obtain⟨ba,bc,rfl,_,hbm,_⟩:=hbv.sl
  obtain⟨wa,wc,rfl,_,_,_⟩:=hw0.sl
  obtain⟨la,lc,rfl,_,hlm,hlp⟩:=hl0.sl
  have hml:=hm.lt
  have hfl:=hfin.lt
  have hrow:=hs.row
  unfold srC at hrow
  obtain⟨H,hH⟩:∃ H,Go.Pv.hereB (lxOf g ws) ws id a S base=H:=⟨_,rfl⟩
  have hHe:=here_eq (id:=id) (a:=a) (base:=base) (ws:=ws) hok hm hfin
  rw [hH] at hHe ⊢
  refine calls_E (n:=79) (args:=[.pointer (some ⟨bS,0,none⟩),.slice aa a.length ac,.int .u32 (m:Int),.slice ba base.length bc]) Tryz.func108 rfl Tryz.ntmps108 (by simp) ?_
  (repeat' ((fail_if_success (refine E_seq (x:=(Code.region 1 _ _)) ?_));first|(refine at_EL ?_;first|refine eN ?_|refine eV Z Z (zB Z Z) ?_)|(refine at_K ?_;first|refine K_then ?_)|(refine at_E ?_;first|refine E_seq ?_|refine E_region ?_)))
  refine E_mid (ι:=Bool) (fun c=>[(0,.pointer (some ⟨bS,0,none⟩)),(1,.slice aa a.length ac),(2,.int .u32 (m:Int)),(3,.slice ba base.length bc),(48,.bool c)])
    (fun c wr=>c=H∧Kx (TU bT bU) w wr∧Tried g ws wr bT∧Row wr bU 4 [.bool c]) ?_ ?_
  · have cf := fits139_any g hro pv uv tv rv sv fv _ _ _ (shrB g.rules) fin bS bT ws base _ w hob (by omega) hs.row hs.tried (hs.segs.any) (hs.rules.any) (hs.word.any) (hb0.any)
    obtain⟨F,hF⟩:∃ F,fitB g ws base=F:=⟨_,rfl⟩
    rw [hF] at cf hHe
    have hKw:Kx (TU bT bU) w w:=Kx.of_ext (Ext.refl _)
    have hTw:=hs.tried
    have hUw:=hs.is
    cases F
    · (repeat' (first|refine eV Z Z (val_load Z Z Z (Row.cellAt (by assumption) (by rfl))) ?_|refine eV Z Z (val_and32 (a:=m) (b:=fin) Z Z Z hml hfl) ?_|(refine EL_call Z Z (entersF Z Z en139) cf (fun vC wC hC=>?_);obtain⟨rfl,kC,tC⟩:=hC;have hK2:=hKw.trans (kC.wk (fun q hq=>Or.inl hq));have hU2:=kC.row hUw (fun e=>hs.n3 e.symm))|(refine at_EL ?_;first|refine eN ?_|refine eO Z Z ?_|refine eV Z Z (zA Z Z) ?_|(refine at_bin ?_;first|refine eD Z Z (zO Z Z Z) (fun hh=>?_) (fun hh=>?_)|refine eD Z Z (zP Z Z Z) (fun hh=>?_) (fun hh=>?_)|refine eD Z Z (zQ Z Z Z) (fun hh=>?_) (fun hh=>?_))|(refine at_call ?_;first|refine eV Z Z (zK Z Z) ?_)|refine eV Z Z (zC Z Z Z) ?_|refine eV Z Z (zD Z Z Z) ?_|refine eV Z Z (zG Z Z) ?_|refine eV Z Z (zH Z Z) ?_)|(refine at_E ?_;first|refine E_region ?_)))
      all_goals first
        | exact K_mid false ⟨rfl,rfl,rfl,rfl,rfl,trivial⟩ ⟨by rw [hHe];(simp;done),hK2,tC,hU2⟩
        | exact K_mid false ⟨rfl,rfl,rfl,rfl,rfl,trivial⟩ ⟨by rw [hHe];(simp;done),hKw,hTw,hUw⟩
    · have cu:=fun wz h1 h2 h3=>uses71_any id a bI bU false (.slice aa a.length ac) (.slice ba base.length bc) wz hs.n2.2 h1 h2 h3
      rw [Bool.false_or] at cu
      obtain⟨h71,h71e⟩:∃ h,Go.Pv.hitB id a=h:=⟨_,rfl⟩
      rw [h71e] at cu hHe
      (repeat' (first|refine eV Z Z (val_load Z Z Z (Row.cellAt (by assumption) (by rfl))) ?_|refine eV Z Z (val_and32 (a:=m) (b:=fin) Z Z Z hml hfl) ?_|(refine EL_call Z Z (entersF Z Z en139) cf (fun vC wC hC=>?_);obtain⟨rfl,kC,tC⟩:=hC;have hK2:=hKw.trans (kC.wk (fun q hq=>Or.inl hq));have hU2:=kC.row hUw (fun e=>hs.n3 e.symm);have hI2:=kC.row hs.idc (fun e=>hs.n2.1 e);have hA2:=(ha0.move (kC.mv (fun q hq e=>hq.1 e))).wk (fun q hq=>hq.2);have hrow2:=kC.row hrow (fun e=>hs.n1.1 e))|(refine EL_call Z Z (entersC (cap:=[.pointer (some ⟨bI,0,none⟩),.pointer (some ⟨bU,0,none⟩)]) Z Z Z en71) (cu _ hA2 hI2 hU2) (fun vC wD hC=>?_);obtain⟨rfl,kD,rD⟩:=hC)|(refine at_EL ?_;first|refine eN ?_|refine eO Z Z ?_|refine eV Z Z (zA Z Z) ?_|(refine at_bin ?_;first|refine eD Z Z (zO Z Z Z) (fun hh=>?_) (fun hh=>?_)|refine eD Z Z (zP Z Z Z) (fun hh=>?_) (fun hh=>?_)|refine eD Z Z (zQ Z Z Z) (fun hh=>?_) (fun hh=>?_))|(refine at_call ?_;first|refine eV Z Z (zK Z Z) ?_)|refine eV Z Z (zC Z Z Z) ?_|refine eV Z Z (zD Z Z Z) ?_|refine eV Z Z (zE Z Z) ?_|refine eV Z Z (zG Z Z) ?_|refine eV Z Z (zH Z Z) ?_)|(refine at_E ?_;first|refine E_region ?_)))
      all_goals first
        | (exact K_mid h71 ⟨rfl,rfl,rfl,rfl,by simp [lk],trivial⟩ ⟨by
            rw [hHe,decide_eq_true (show 0<a.length by omega),decide_eq_true (show ws.length≤base.length by omega),decide_eq_true (show m &&& fin≠0 by omega)]
            simp,hK2.trans (kD.wk (fun q hq=>Or.inr hq)),(by obtain⟨f,m1,m2⟩:=tC;exact⟨f,m1.same (kD.block _ m1.lt (fun e=>hs.n3 e)),m2⟩),rD⟩)
        | exact K_mid false ⟨rfl,rfl,rfl,rfl,rfl,trivial⟩ ⟨by rw [hHe,decide_eq_false (show ¬ 0<a.length by omega)];rfl,hKw,hTw,hUw⟩
        | exact K_mid false ⟨rfl,rfl,rfl,rfl,rfl,trivial⟩ ⟨by rw [hHe,decide_eq_false (show ¬ ws.length≤base.length by omega)];simp,hKw,hTw,hUw⟩
        | exact K_mid false ⟨rfl,rfl,rfl,rfl,rfl,trivial⟩ ⟨by rw [hHe,decide_eq_false (show ¬ (m &&& fin≠0) by omega)];simp,hKw,hTw,hUw⟩
  · rintro c wr ⟨rfl,hk,ht,hu⟩
    cases c with
    | true=>
      rw [Bool.true_or]
      (repeat' (first|(refine at_EL ?_;first|refine eN ?_|refine eV Z Z (zB Z Z) ?_)|(refine at_K ?_;first|refine K_then ?_|refine K_then_ret ?_)|(refine at_E ?_;first|refine E_seq ?_|refine E_region ?_|refine E_cond_t Z ?_|refine E_ret ?_)))
      exact ret_1 Z Z ⟨rfl,hk,ht,hu⟩
    | false=>
      rw [Bool.false_or]
      have hs2:=hs.kx hk ht hu
      have ha2:=ha0.move (hk.mv fun _ hb=>gxT hb)
      have hb2:=hb0.move (hk.mv fun _ hb=>gxT hb)
      cases k with
      | zero=>
        (repeat' (first|(refine at_EL ?_;first|refine eN ?_|refine eV Z Z (zA Z Z) ?_|refine eV Z Z (zB Z Z) ?_|(refine at_bin ?_;first|refine eD Z Z (zM Z Z Z) (fun hh=>?_) (fun hh=>?_))|(refine at_call ?_;first|refine eV Z Z (zK Z Z) ?_)|refine eV Z Z (zG Z Z) ?_|refine eV Z Z (zH Z Z) ?_)|(refine at_K ?_;first|refine K_then ?_|refine K_then_ret ?_)|(refine at_E ?_;first|refine E_seq ?_|refine E_region ?_|refine E_cond_t Z ?_|refine E_cond_f Z ?_|refine E_skip ?_|refine E_ret ?_)))
        all_goals (try (exfalso;omega))
        exact ret_1 Z Z ⟨rfl,hk,ht,hu⟩
      | succ k=>
        have hrow2:=hs2.row
        unfold srC at hrow2
        rw [bel_succ]
        obtain⟨P,hP⟩:∃ P:En→Bool,∀ e,P e=(bothB g.net.states.toNat (aftB g.net.steps S e.cls) (fun _=>true)&&belX (lxOf g ws) ws id k a (aftB g.net.steps S e.cls) base e):=⟨_,fun _=>rfl⟩
        have hPe:((lxOf g ws).lex.any fun e=>bothB (lxOf g ws).net.states.toNat (aftB (lxOf g ws).net.steps S e.cls) (fun _=>true)&&belX (lxOf g ws) ws id k a (aftB (lxOf g ws).net.steps S e.cls) base e)=g.lex.any P:=by
          show(g.lex.any _)=_
          congr 1
          funext e
          exact(hP e).symm
        rw [hPe]
        (repeat' (first|refine eV Z Z (val_load Z Z Z (Row.cellAt (by assumption) (by rfl))) ?_|(refine at_EL ?_;first|refine eN ?_|refine eV Z Z (zA Z Z) ?_|refine eV Z Z (zB Z Z) ?_|(refine at_bin ?_;first|refine eD Z Z (zM Z Z Z) (fun hh=>?_) (fun hh=>?_))|(refine at_call ?_;first|refine eV Z Z (zK Z Z) ?_)|refine eV Z Z (zG Z Z) ?_|refine eV Z Z (zH Z Z) ?_)|(refine at_K ?_;first|refine K_then ?_|refine K_then_ret ?_)|(refine at_E ?_;first|refine E_seq ?_|refine E_region ?_|refine E_cond_t Z ?_|refine E_cond_f Z ?_|refine E_block ?_|refine E_skip ?_|refine E_ret ?_)))
        all_goals (try (exfalso;omega))
        refine E_loop (ι:=Nat) (fun i=>[(0,.pointer (some ⟨bS,0,none⟩)),(1,.slice aa a.length ac),(2,.int .u32 (m:Int)),(3,.slice ba base.length bc),(56,.slice la g.lex.length lc),(57,int g.lex.length),(58,int i)])
          (fun i wl=>i≤g.lex.length∧Kx (TU bT bU) w wl∧Tried g ws wl bT∧Row wl bU 4 [.bool false]∧∀(j:Nat) (e:En),j<i→g.lex[j]?=some e→P e=false) (fun i=>g.lex.length-i) 0
          ⟨rfl,rfl,rfl,rfl,rfl,rfl,rfl,trivial⟩ ⟨Nat.zero_le _,hk,ht,hu,fun j x hj=>absurd hj (by omega)⟩ ?_
        rintro i wl ⟨hi,hkl,htl,hul,hall⟩
        have hs3:=hs.kx hkl htl hul
        have ha3:=ha0.move (hkl.mv fun _ hb=>gxT hb)
        have hb3:=hb0.move (hkl.mv fun _ hb=>gxT hb)
        by_cases hlt:i<g.lex.length
        · obtain ⟨b, off, rfl⟩ := hlp (by omega)
          obtain⟨e,hei⟩:∃ e,g.lex[i]?=some e:=⟨_,List.getElem?_eq_getElem hlt⟩
          have hmem:=List.mem_of_getElem? hei
          obtain⟨d0,f0,d1,f1,d2,f2,d3,f3,d4,f4,hat,hrep,_⟩:=en_elem hs3.lex hei
          have hcl:1≤e.cls:=(hok.lex e hmem).2.1
          have hXr:=Ext.refl wl
          have caf:=fun wz (hx:Ext wl wz)=>after140_any g hok.net _ _ _ _ _ _ _ _ _ _ _ fin bS m S hm e.cls hcl wz (hs3.row.ext hx) (hs3.steps.ext hx).any
          obtain⟨r,hr⟩:∃ r,belX (lxOf g ws) ws id k a (aftB g.net.steps S e.cls) base e=r:=⟨_,rfl⟩
          have cst:=fun(m':Nat) (wz:World) (hx:Ext wl wz) (hm':MaskIs m' (aftB g.net.steps S e.cls))=>hstep k rfl e a (aftB g.net.steps S e.cls) m' base _ _ _ wz hmem (by omega) hm' hob hbl (hs3.ext hx) (Rep.move hrep hx.mv) (ha3.ext hx) (hb3.ext hx)
          rw [hr] at cst
          cases r
          · (repeat' (first|(refine EL_var Z Z Z Z Z Z Z Z Z Z (fun bN wN xN hbN rN=>?_);replace hXr:=hXr.trans xN;replace hs3:=hs3.ext xN;replace ha3:=ha3.ext xN;replace hb3:=hb3.ext xN)|refine eV Z Z (val_load Z Z Z (Row.cellAt (by assumption) (by rfl))) ?_|refine eV Z Z (val_loadA Z Z Z (Row.at (by assumption)) (by rfl)) ?_|refine eV Z Z (val_loadA Z Z Z (by assumption) (by rfl)) ?_|refine eV Z Z (val_indexAddr (m:=i) Z Z Z (by first|rfl|omega) (by omega)) ?_|(refine EL_call Z Z (entersF Z Z en140) (caf _ hXr) (fun vC wC hC=>?_);obtain⟨⟨m',rfl,hm'⟩,xC⟩:=hC;replace hXr:=hXr.trans xC;replace hs3:=hs3.ext xC;replace ha3:=ha3.ext xC;replace hb3:=hb3.ext xC;replace rN:=rN.ext xC)|(refine EL_call Z Z (entersF Z Z en141) (cst _ _ hXr hm') (fun vC wD hC=>?_);obtain⟨rfl,kD,tD,uD⟩:=hC)|(refine at_EL ?_;first|refine eN ?_|refine eO Z Z ?_|refine eV Z Z (zA Z Z) ?_|refine eV Z Z (zB Z Z) ?_|(refine at_bin ?_;first|refine eD Z Z (zL Z Z Z) (fun hh=>?_) (fun hh=>?_)|refine eD Z Z (zQ Z Z Z) (fun hh=>?_) (fun hh=>?_)|refine eV Z Z (zU Z Z Z (by omega) (by omega)) ?_)|refine eV Z Z (zC Z Z Z) ?_|refine eV Z Z (zD Z Z Z) ?_|refine eV Z Z (zE Z Z) ?_|refine eV Z Z (zH Z Z) ?_)|(refine at_K ?_;first|refine K_then ?_|refine K_in ?_|refine K_then_exit ?_|refine K_in_exit ?_)|(refine at_E ?_;first|refine E_seq ?_|refine E_region ?_|refine E_cond_t Z ?_|refine E_cond_f Z ?_|refine E_block ?_|refine E_skip ?_|refine E_ret ?_|refine E_exit ?_)))
            all_goals (try (exfalso;omega))
            · refine K_rnd (i+1) ⟨rfl,rfl,rfl,rfl,rfl,rfl,rfl,trivial⟩ ⟨by omega,(hkl.trans (Kx.of_ext hXr)).trans kD,tD,uD,fun j z hj hz=>?_⟩ (by omega)
              by_cases ee:j=i
              · subst ee;rw [hei] at hz;cases hz;rw [hP,hr,Bool.and_false]
              · exact hall j z (by omega) hz
            · refine K_rnd (i+1) ⟨rfl,rfl,rfl,rfl,rfl,rfl,rfl,trivial⟩ ⟨by omega,hkl.trans (Kx.of_ext hXr),htl.ext hXr,hul.ext hXr,fun j z hj hz=>?_⟩ (by omega)
              by_cases ee:j=i
              · subst ee;rw [hei] at hz;cases hz;rw [hP,hr,Bool.and_false]
              · exact hall j z (by omega) hz
          · (repeat' (first|(refine EL_var Z Z Z Z Z Z Z Z Z Z (fun bN wN xN hbN rN=>?_);replace hXr:=hXr.trans xN;replace hs3:=hs3.ext xN;replace ha3:=ha3.ext xN;replace hb3:=hb3.ext xN)|refine eV Z Z (val_load Z Z Z (Row.cellAt (by assumption) (by rfl))) ?_|refine eV Z Z (val_loadA Z Z Z (Row.at (by assumption)) (by rfl)) ?_|refine eV Z Z (val_loadA Z Z Z (by assumption) (by rfl)) ?_|refine eV Z Z (val_indexAddr (m:=i) Z Z Z (by first|rfl|omega) (by omega)) ?_|(refine EL_call Z Z (entersF Z Z en140) (caf _ hXr) (fun vC wC hC=>?_);obtain⟨⟨m',rfl,hm'⟩,xC⟩:=hC;replace hXr:=hXr.trans xC;replace hs3:=hs3.ext xC;replace ha3:=ha3.ext xC;replace hb3:=hb3.ext xC;replace rN:=rN.ext xC)|(refine EL_call Z Z (entersF Z Z en141) (cst _ _ hXr hm') (fun vC wD hC=>?_);obtain⟨rfl,kD,tD,uD⟩:=hC)|(refine at_EL ?_;first|refine eN ?_|refine eO Z Z ?_|refine eV Z Z (zA Z Z) ?_|refine eV Z Z (zB Z Z) ?_|(refine at_bin ?_;first|refine eD Z Z (zL Z Z Z) (fun hh=>?_) (fun hh=>?_)|refine eD Z Z (zQ Z Z Z) (fun hh=>?_) (fun hh=>?_)|refine eV Z Z (zU Z Z Z (by omega) (by omega)) ?_)|refine eV Z Z (zC Z Z Z) ?_|refine eV Z Z (zD Z Z Z) ?_|refine eV Z Z (zE Z Z) ?_|refine eV Z Z (zH Z Z) ?_)|(refine at_K ?_;first|refine K_then ?_|refine K_in ?_|refine K_then_ret ?_|refine K_then_exit ?_|refine K_in_ret ?_|refine K_in_exit ?_)|(refine at_E ?_;first|refine E_seq ?_|refine E_region ?_|refine E_cond_t Z ?_|refine E_cond_f Z ?_|refine E_block ?_|refine E_skip ?_|refine E_ret ?_|refine E_exit ?_)))
            all_goals (try (exfalso;omega))
            · have:g.lex.any P=true:=by
                rw [List.any_eq_true]
                exact⟨e,hmem,by rw [hP,hr,(aft_both hok.net hm').1 (by omega)];rfl⟩
              rw [this]
              exact ret_1 Z Z ⟨rfl,(hkl.trans (Kx.of_ext hXr)).trans kD,tD,uD⟩
            · refine K_rnd (i+1) ⟨rfl,rfl,rfl,rfl,rfl,rfl,rfl,trivial⟩ ⟨by omega,hkl.trans (Kx.of_ext hXr),htl.ext hXr,hul.ext hXr,fun j z hj hz=>?_⟩ (by omega)
              by_cases ee:j=i
              · subst ee;rw [hei] at hz;cases hz
                have hnb:bothB g.net.states.toNat (aftB g.net.steps S e.cls) (fun _=>true)=false:=by
                  cases hb:bothB g.net.states.toNat (aftB g.net.steps S e.cls) (fun _=>true) with
                  | false=>rfl
                  | true=>exact absurd ((aft_both hok.net hm').2 hb) (by omega)
                rw [hP,hnb,Bool.false_and]
              · exact hall j z (by omega) hz
        · have:g.lex.any P=false:=by
            rw [List.any_eq_false]
            intro e he
            obtain⟨j,hj⟩:=List.getElem?_of_mem he
            rw [hall j e (by have:=(List.getElem?_eq_some_iff.1 hj).1;omega) hj];simp
          rw [this]
          (repeat' (first|(refine at_EL ?_;first|refine eN ?_|refine eV Z Z (zB Z Z) ?_|(refine at_bin ?_;first|refine eD Z Z (zL Z Z Z) (fun hh=>?_) (fun hh=>?_)))|(refine at_K ?_;first|refine K_then ?_|refine K_then_exit ?_|refine K_in_exit ?_)|(refine at_E ?_;first|refine E_seq ?_|refine E_region ?_|refine E_cond_t Z ?_|refine E_cond_f Z ?_|refine E_block ?_|refine E_skip ?_|refine E_ret ?_|refine E_exit ?_)))
          all_goals (try (exfalso;omega))
          exact ret_1 Z Z ⟨rfl,hkl,htl,hul⟩
end Go.Proofs.YtjicdgejhkgpgaaGreatDoor
