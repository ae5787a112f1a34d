/-
  Walks: the program's Senses. Plain: the unit that the program finds.
-/
import Derived.Test.YtjicdgejhkgpgaaGreatDoorYx
import Derived.Test.YtjicdgejhkgpgaaGreatDoorYu
import Derived.Test.YtjicdgejhkgpgaaGreatDoorXT1
import Derived.Test.YtjicdgejhkgpgaaGreatDoorYk
set_option linter.all false
namespace Go.Proofs.YtjicdgejhkgpgaaGreatDoor
open Go.RowKit Go.En Go.Pv
theorem keepUp_grown {A C:World} {r B:Nat} (g:A.grownBy C (some r)) (h:r<B):KeepUp B A C:=⟨g.size,fun k hB hk=>g.block k hk (fun e=>by cases e;omega)⟩
theorem noOut_post {B:Nat} {I Ix:List Int→World→Prop} {xs:List Int} {W:World}:¬ LetsOut (postX B I Ix xs W):=fun⟨_,_,h⟩=>h
theorem entD_senses {g:Lg} (hok:LangOK g) (id:Int):(entD g.lex id).senses.length≤5:=by
  unfold entD
  cases h:getE g.lex id with
  | none=>simp [zeroEn]
  | some e=>exact(hok.lex e (List.mem_of_find?_eq_some h)).2.2.2.2.2.2.2.1
theorem in_one {F:Fence} {m:Nat} {P:Program} {o:Oper} {Q:Post} {a:Act} {w:World} (hw:Region.wanted o (yielded #[o] a.tmps)=true) (h:Oper.wpIn F m P o a w (wpOpsIn F m P #[o] Q []) Q):wpOpsIn F m P #[o] Q [0] a w:=by
  have e:(#[o]:Array Oper)[0]?=some o:=rfl
  unfold wpOpsIn
  rw [e]
  dsimp only
  rw [if_pos hw]
  exact h
theorem leave185 {m:Nat} {S:Value→World→Prop} {a:Act} {W:World} {bR D:Nat} {u:Value} (h4:a.tmps[4]?=some (.pointer (some ⟨bR,0,none⟩))) (hr:Row W bR 62 [u]) (hne:bR≠D) (hD:W.heap[D]?=some (.deferred (some []))) (hd:a.defers=[])
    (hS:∀ W',W.grownBy W' (some D)→S u W'):bodyPostM Fence.wide m Tryz.prog Tryz.f185 (Rt S) .ret { a with defers:={ target:=.collected D,args:=#[] }::a.defers } W:=by
  refine⟨by simp,.inl ⟨_,_,rfl,run_takeDeferred hD,?_⟩⟩
  rw [hd]
  have hg:=grownBy_putObj W D (.deferred none)
  have hc:=(row_grown hr hg hne).cellAt (j:=0) rfl
  exact⟨u,results_c rfl rfl h4 hc,u,rfl,hS _ hg⟩
attribute [local irreducible] E EL K Val Enters Rt Calls bodyPost Code.wp RQ EI YK bodyPostM
set_option maxHeartbeats 8000000 in
set_option maxRecDepth 8000 in
theorem senses185_any {g:Lg} (hok:LangOK g):SensC g.lex:=by
  intro id v w hv
  have hll:=hok.nlex
  have hget0:=fun id=>get48_any g.lex id v w hv
  obtain⟨Xof,hXof⟩:=Classical.axiomOfChoice hget0
  have hv0:=hv
  obtain⟨la,lc,rfl,_,_,_⟩:=hv.sl
  refine calls_mono (S:=fun u w'=>Sl w' u (sensesOf g.lex id)∧Ext w w') ?_ (fun _ _ h=>⟨h.2,h.1⟩)
  refine calls_EM (m:=5) (n:=17) (args:=[.slice la g.lex.length lc,int id]) Tryz.func185 rfl Tryz.ntmps185 (by simp) ?_
  refine E_seq ?_
  refine E_region ?_
  refine EL_alloc Z Z Z (fun bR wR xR hbR rR0=>?_)
  have rR:Row wR bR 62 [.slice none 0 0]:=rR0
  clear rR0
  (repeat' ((fail_if_success (refine E_seq (x:=(Code.block 0 _)) ?_));first|(refine EL_call Z Z (entersF Z Z en218) (way218_any id (.slice la g.lex.length lc) _) (fun vC wC hC=>?_);obtain⟨Bl,Bi,rfl,rl,ri,hne,hl1,hl2,xC⟩:=hC)|(refine at_EL ?_;first|refine eN ?_|refine eV Z Z (zA Z Z) ?_)|(refine at_K ?_;first|refine K_then ?_)|(refine at_E ?_;first|refine E_seq ?_|refine E_region ?_|refine E_block ?_)))
  have hRB:bR<wR.heap.size:=rR.lt
  have hCs:=xC.size
  have hlB:=rl.lt
  have hiB:=ri.lt
  have hXC:Ext w wC:=xR.trans xC
  replace rR:=rR.ext xC
  have hx0:w.heap.size≤bR:=by omega
  have hRs:=xR.size
  have hIp:∀(s:List Int) (A C:World) (r:Nat),(Ext w A∧Row A bR 62 [.slice none 0 0]∧∀ y∈s,(entD g.lex y).senses.length=0)→A.grownBy C (some r)→(r=Bi∨r=wC.heap.size+1)→(Ext w C∧Row C bR 62 [.slice none 0 0]∧∀ y∈s,(entD g.lex y).senses.length=0):=by
    rintro s A C r ⟨h1,h2,h3⟩ hg hr
    exact⟨ext_grown h1 hg (by omega),row_grown h2 hg (by omega),h3⟩
  refine E_in (m:=5) (fun a ha=>?_)
  refine wpIn_rangeFunc_X rfl (by omega) (gf:=235) (lb:=#[.pointer (some ⟨Bl,0,none⟩),.pointer (some ⟨Bi,0,none⟩)]) (ha.ev (x:=.tmp 8) rfl) trivial en235 (Bid:=Bi) ri.lt
    (way_seq g.lex (by omega) id la lc w hv0 Xof (fun id=>(hXof id).1) (fun id w' hx=>(hXof id).2 w' hx) Bl Bi wC.heap.size wC (by omega) (by omega) rl.lt ri.lt hne (Nat.le_refl _) hXC rl ri) (fun _=>rfl)
    (fun s W=>Ext w W∧Row W bR 62 [.slice none 0 0]∧∀ y∈s,(entD g.lex y).senses.length=0)
    (fun s W=>Ext w W∧∃ u,Row W bR 62 [u]∧SlG (fun b=>wC.heap.size+2≤b) W u (sensesOf g.lex id)) hIp ?hIx ⟨hXC,rR,fun _ h=>by cases h⟩
    (fun x a' W'=>∃ b,St 17 [(4,.pointer (some ⟨bR,0,none⟩)),(5,.pointer (some ⟨b,0,none⟩))] a'∧Row W' b 65 (Xof x)∧wC.heap.size+2≤b) ?hAx ?assign ?body ?done ?stop
  case hIx=>
    rintro s A C ⟨h1,u,h2,h3⟩ hg
    exact⟨ext_grown h1 hg (by omega),u,row_grown h2 hg (by omega),h3.move fun b hb hlt=>⟨hb,hg.block b hlt (fun e=>by cases e;omega)⟩⟩
  case hAx=>
    rintro x a' A C ⟨b,h1,h2,h3⟩ hg
    exact⟨b,h1,row_grown h2 hg (by omega),h3⟩
  case assign=>
    intro l pre x W K hsz hi hpre hK
    obtain⟨e0,k0,e1,k1,e2,k2,e3,k3,e4,k4,hX,_⟩:=en_open (hXof x).1
    refine EI_run (EI_region noOut_false rfl ?_) (ha.round (s:=9) rfl (.agg (Xof x).toArray))
    rw [hX]
    refine EL_var Z Z Z Z Z Z Z Z Z Z (fun b wV xV hb rV=>?_)
    refine eN (K_of fun a' ha'=>hK a' wV xV (hIp _ _ _ Bi hi (grown_ext xV) (.inl rfl)) ⟨b,ha'.sub ⟨rfl,rfl,trivial⟩,?_,by omega⟩)
    rw [hX]
    exact rV
  case body=>
    rintro l pre x a' W hsz hi ⟨b,ha',rb,hb⟩ hpre
    obtain⟨hxW,hrW,hnone⟩:=hi
    obtain⟨e0,k0,e1,k1,e2,k2,e3,k3,e4,k4,hX,_,_,hsen,_⟩:=en_open (hXof x).1
    rw [hX] at rb
    have hs5:=entD_senses hok x
    have hsenW:=hsen.ext hxW
    refine EI_run (EI_block (EI_seq (EI_region (noOut_then (noOut_block noOut_post)) rfl ?_))) ha'
    (repeat' (first|refine eV Z Z (val_load Z Z Z (Row.cellAt (by assumption) (by rfl))) ?_|(refine at_EL ?_;first|refine eN ?_|(refine at_bin ?_;first|refine eD Z Z (zO Z Z Z) (fun hh=>?_) (fun hh=>?_))|(refine at_call ?_;first|refine eV Z Z (zK Z Z) ?_)|refine eV Z Z (zH Z Z) ?_)))
    all_goals refine KI_then ?_
    · refine EI_cond_t rfl (EI_seq (EI_region (noOut_then (noOut_block noOut_post)) rfl ?_))
      have cc:=fun wz (hz:Ext W wz)=>clone219_any (entD g.lex x).senses (.slice e2 (entD g.lex x).senses.length k2) wz (hsenW.ext hz).any (by omega)
      (repeat' (first|refine eV Z Z (val_load Z Z Z (Row.cellAt (by assumption) (by rfl))) ?_|(refine EL_call Z Z (entersF Z Z en219) (cc _ (Ext.refl _)) (fun vC wD hC=>?_);obtain⟨sC,xD⟩:=hC;obtain⟨qa,qc,rfl,_,_,_⟩:=sC.sl;have rW2:=hrW.ext xD;have hxW2:=hxW.trans xD;have hsD:=xD.size)|(refine EL_storeP (cs:=[_]) rW2 hxW2 hx0 rfl rfl rfl rfl rfl rfl rfl rfl (Nat.le_refl _) (fun wU rU0 xU kU=>?_))|(refine at_EL ?_;first|refine eN ?_|refine eV Z Z (zH Z Z) ?_)))
      refine KI_then (EI_ret (K_in_ret (K_of fun a2 _=>⟨?_,xU,_,rU0,?_⟩)))
      · exact(KeepUp.of_below xD).trans (keepUp_grown kU (by omega))
      · rw [senses_first hpre hnone (by omega)]
        exact sC.move (fun b hb hlt=>⟨by omega,World.grownBy.block kU b hlt (fun e=>by cases e;omega)⟩)
    · refine EI_cond_f rfl (EI_skip (K_in (K_of fun a2 _=>⟨Below.refl _ _,hxW,hrW,fun y hy=>?_⟩)))
      rcases List.mem_append.1 hy with hy|hy
      · exact hnone y hy
      · obtain rfl:=List.mem_singleton.1 hy
        omega
  case done=>
    rintro W ⟨hxW,hrW,hnone⟩ hD
    have hs:=senses_none hnone
    have hDl:=hrW.lt
    obtain⟨wS,hrun,rS,gS⟩:=run_storeK (P:=Tryz.prog) (t:=62) (v:=.slice none 0 0) (o:={ dst:=none,op:=Op.store 62 (Operand.tmp 4) (Operand.const (Value.slice none 0 0)),type:=0,pos:= "variant.go:75",after:=#[],guard:=none })
      (ρ:=({ tmps:=a.tmps,defers:={ target:=Target.collected wC.heap.size,args:=#[] }::a.defers }:Act).eval) rfl (show a.eval (.tmp 4)=_ from ha.ev (x:=.tmp 4) rfl) rfl rfl rfl hrW (Nat.le_refl _)
    show Code.wp _ _ _ _ _
    refine(wpIn_wide (n:=5)).1 (wpIn_seq (wpIn_region ?_))
    show wpOpsIn _ _ _ _ _ [0] _ _
    refine in_one rfl ?_
    refine⟨fun _ _=>trivial,?_⟩
    rw [Oper.semAt_eq _ _ _ (fun c e=>by cases e)]
    rw [hrun]
    unfold Oper.uponIn
    dsimp only [Act.put]
    unfold wpOpsIn
    show Code.wpIn _ _ _ _ _ _ _
    refine wpIn_ret ?_
    refine leave185 (ha.get _ _ rfl) rS (by omega) ((gS.block _ (by have:=(Array.getElem?_eq_some_iff.1 hD).1;exact this) (fun e=>by cases e;omega)).trans hD) ha.nod (fun W' hg=>?_)
    rw [hs]
    exact⟨SlG.nil,ext_grown (ext_grown hxW gS (by omega)) hg (by omega)⟩
  case stop=>
    rintro pre W hpre ⟨hxW,u,hrW,hsu⟩ hD
    refine wpIn_ret ?_
    refine leave185 (ha.get _ _ rfl) hrW (by omega) hD ha.nod (fun W' hg=>?_)
    exact⟨hsu.move (fun b hb hlt=>⟨trivial,hg.block b hlt (fun e=>by cases e;omega)⟩),ext_grown hxW hg (by omega)⟩
end Go.Proofs.YtjicdgejhkgpgaaGreatDoor
namespace Go.Proofs.YtjicdgejhkgpgaaGreatDoor
open Go.RowKit Go.En Go.Pv
theorem beg_take {t u:List UInt8} {n:Nat} (hn:n≤t.length) (h:u=t.take n):begB t u=true∧u.length=n:=by
  have hl:u.length=n:=by rw [h,List.length_take,Nat.min_eq_left hn]
  exact⟨begB_iff.2 (by rw [hl,← h]),hl⟩
theorem best_found {us:List Unt} {t:List UInt8} {n i:Nat} {u:Unt} (hn:n≤t.length) (hbig:∀(j:Nat) (v:Unt),us[j]?=some v→begB t v.graph=true→v.graph.length≤n)
    (hlow:∀(j:Nat) (v:Unt),j<i→us[j]?=some v→v.graph≠t.take n) (hi:us[i]?=some u) (hu:u.graph=t.take n):bestF us t=some i:=by
  obtain⟨hb,hl⟩:=beg_take hn hu
  refine best_unique (best_is us t) ⟨(fun e=>by cases e),fun k e=>?_⟩
  cases e
  refine⟨u,hi,hb,fun j v hj hv=>?_⟩
  have h1:=hbig j v hj hv
  refine⟨by omega,fun hji=>?_⟩
  have h2:=hlow j v hji hj
  have h3:=begB_iff.1 hv
  by_cases e:v.graph.length=n
  · exfalso;apply h2;rw [← e];exact h3.symm
  · omega
theorem best_none {us:List Unt} {t:List UInt8} (hg:∀ u∈us,1≤u.graph.length) (h:∀(j:Nat) (v:Unt),us[j]?=some v→begB t v.graph=true→v.graph.length≤0):bestF us t=none:=by
  refine best_unique (best_is us t) ⟨fun _ j v hj=>?_,fun k e=>by cases e⟩
  cases hb:begB t v.graph with
  | false=>rfl
  | true=>
    have:=h j v hj hb
    have:=hg v (List.mem_of_getElem? hj)
    omega
theorem big_step {us:List Unt} {t:List UInt8} {n:Nat} (hbig:∀(j:Nat) (v:Unt),us[j]?=some v→begB t v.graph=true→v.graph.length≤n+1)
    (hall:∀(j:Nat) (v:Unt),us[j]?=some v→v.graph≠t.take (n+1)):∀(j:Nat) (v:Unt),us[j]?=some v→begB t v.graph=true→v.graph.length≤n:=by
  intro j v hj hv
  have h1:=hbig j v hj hv
  by_cases e:v.graph.length=n+1
  · exfalso;apply hall j v hj;rw [← e];exact(begB_iff.1 hv).symm
  · omega
end Go.Proofs.YtjicdgejhkgpgaaGreatDoor
