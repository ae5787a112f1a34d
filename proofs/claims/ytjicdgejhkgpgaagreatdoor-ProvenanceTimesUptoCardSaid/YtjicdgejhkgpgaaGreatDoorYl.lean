/-
  Own text of the proof.
-/
import Derived.Test.YtjicdgejhkgpgaaGreatDoorYk
import Derived.Test.YtjicdgejhkgpgaaGreatDoorYg
import Derived.Test.YtjicdgejhkgpgaaGreatDoorYh
import Derived.Test.YtjicdgejhkgpgaaGreatDoorYi
set_option linter.all false
set_option maxHeartbeats 4000000
set_option maxRecDepth 8000
namespace Go.Proofs.YtjicdgejhkgpgaaGreatDoor
section
open Go.RowKit Go.En Go.Pv
theorem Pr {lex:List En} {p:Prt} {e:En} (h:getE lex p.entry=some e):Ck lex p=if 0≤p.alt∧p.alt<((Ai e).length:Int) then some (e,(Ai e).getD p.alt.toNat []) else none:=by
  unfold Ck;rw [h];dsimp only
  by_cases h0:0≤p.alt
  · rw [if_pos h0]
    by_cases h1:p.alt<((Ai e).length:Int)
    · rw [if_pos ⟨h0,h1⟩,List.getElem?_eq_getElem (by omega),List.getD_eq_getElem?_getD,List.getElem?_eq_getElem (by omega)];rfl
    · rw [if_neg (fun h=>h1 h.2),List.getElem?_eq_none (by omega)]
  · rw [if_neg h0,if_neg (fun h=>h0 h.1)]
theorem Ps {lex:List En} {p:Prt} (h:getE lex p.entry=none):Ck lex p=none:=by
  unfold Ck;rw [h]
theorem classes_take {lex:List En} {a:List Prt} {i:Nat} {p:Prt} (hp:a[i]?=some p):Aq lex (a.take (i+1))=Aq lex (a.take i)++(match Ck lex p with|some x=>[x.1.cls]|none=>[]):=by
  obtain⟨hi,he⟩:=List.getElem?_eq_some_iff.1 hp
  rw [List.take_succ_eq_append_getElem hi,he]
  unfold Aq
  rw [List.filterMap_append]
  cases h:Ck lex p <;> simp [h]
theorem base_take {lex:List En} {a:List Prt} {i:Nat} {p:Prt} (hp:a[i]?=some p):Ar lex (a.take (i+1))=Ar lex (a.take i)++(match Ck lex p with|some x=>x.2|none=>[]):=by
  obtain⟨hi,he⟩:=List.getElem?_eq_some_iff.1 hp
  rw [List.take_succ_eq_append_getElem hi,he]
  unfold Ar
  rw [List.flatMap_append,List.flatMap_cons,List.flatMap_nil,List.append_nil]
  congr 1
  cases Ck lex p with
  | none=>rfl
  | some x=>rfl
theorem classes_len (lex:List En) (a:List Prt):(Aq lex a).length≤a.length:=List.length_filterMap_le _ _
attribute [local irreducible] E EL K Val Enters Rt Calls bodyPost Code.wp RQ
theorem J8 (g : Lg) (n : Nat) (pv uv tv rv sv fv ev : Value) (a : List Prt) (av : Value) (w : World) (hl : Sl w ev g.lex) (ha : Sl w av a) (hal : a.length ≤ 1000) (halt : ∀ e ∈ g.lex, e.alts.length ≤ 1000000) :
    Calls Tryz.prog 164 #[.agg #[pv,str g.oname,uv,tv,rv,int n,sv,fv,ev],.agg #[av] ] w (Rt fun u w'=>Ext w w'∧Sl w' u (Aq g.lex a)):=by
  have hl0:=hl;have ha0:=ha
  obtain⟨aa,ac,rfl,_,_,hap⟩:=ha.sl
  refine A7 (n:=45) (args:=[.agg #[pv,str g.oname,uv,tv,rv,int n,sv,fv,ev],.agg #[.slice aa a.length ac] ]) Tryz.func164 rfl Tryz.ntmps164 (by simp) ?_
  refine Ac ?_
  refine A8 ?_
  refine Aj Z Z Z Z (fun bG wG xG hbG rG0=>?_)
  have rG1:Row wG bG 37 [pv,str g.oname,uv,tv,rv,int n,sv,fv,ev]:=rG0
  refine Aj Z Z Z Z (fun bA wA xA hbA rA0=>?_)
  have rA:Row wA bA 159 [.slice aa a.length ac]:=rA0
  have rG:=rG1.ext xA
  have hX:=xG.trans xA
  clear rG0 rA0 rG1
  (repeat' (first|refine Sy ?_))
  refine Ae (ι:=Nat × Value) (fun z=>[(2,.pointer (some ⟨bG,0,none⟩)),(3,.pointer (some ⟨bA,0,none⟩)),(5,z.2),(6,int z.1)])
    (fun z wr=>z.1≤a.length∧Ext wA wr∧wr.ownsRow wA.heap.size 3 1 z.2 (Aq g.lex (a.take z.1)).length ((Aq g.lex (a.take z.1)).map int)) (fun z=>a.length-z.1) (0,.slice none 0 0)
    ⟨rfl,rfl,rfl,rfl,trivial⟩ ⟨Nat.zero_le _,Ext.refl _,World.ownsRow_nil _ _ _ _⟩ ?_
  rintro⟨i,vO⟩ wr ⟨hi,hx,hown⟩
  dsimp only at hi hx hown ⊢
  replace rG:=rG.ext hx;replace rA:=rA.ext hx
  have hXr:=hX.trans hx
  have hcl:=classes_len g.lex (a.take i)
  rw [List.length_take] at hcl
  by_cases hlt:i<a.length
  · obtain⟨b,off,rfl⟩:=hap (by omega)
    obtain⟨p,hp⟩:∃ p,a[i]?=some p:=⟨_,List.getElem?_eq_getElem hlt⟩
    have hatp:=Iu (ha0.ext hXr) hp
    have hct:=classes_take (lex:=g.lex) hp
    (repeat' (first|refine Ly ?_|refine Dy (fun hh=>?_) fun hh=>?_))
    all_goals (try (exfalso;omega))
    cases hg:getE g.lex p.entry with
    | none=>
      have cg:=fun wq (xq:Ext wr wq)=>Gi hg ev wq (hl0.ext (hXr.trans xq))
      rw [Ps hg] at hct
      dsimp only at hct
      refine E.sub (M:=[(2,.pointer (some ⟨bG,0,none⟩)),(3,.pointer (some ⟨bA,0,none⟩)),(5,vO),(6,int i)]) ⟨rfl,rfl,rfl,rfl,trivial⟩ ?_
      refine E_one (id:=5) 12 13 7 26 zeroE [some (17,_),some (18,_),some (19,_),some (20,_),some (21,_),some (22,_),some (23,_),some (24,_),some (25,_),some (16,_),some (26,_),some (27,_),none,none,some (8,_)] Aa (by kernel_rfl) rfl rfl rfl rfl rfl rfl rfl rfl (by decide) rfl rfl rfl rfl rfl
        ⟨vcV fun _ _=>zH Z Z,
    vcV fun wq xq=>(by first|exact A6 Z Z Z ((Row.ext (by assumption) xq).cellAt (by rfl))|exact Ab Z Z Z (Row.ext (by assumption) xq).at (by rfl)|exact A6 Z Z Z ((At.ext (by assumption) xq).cellAt (by rfl))|exact Ab Z Z Z (At.ext (by assumption) xq) (by rfl)|exact A6 Z Z Z (Ext.cell xq (by assumption))),
    vcV fun _ _=>zH Z Z,
    vcV fun wq xq=>(by first|exact A6 Z Z Z ((Row.ext (by assumption) xq).cellAt (by rfl))|exact Ab Z Z Z (Row.ext (by assumption) xq).at (by rfl)|exact A6 Z Z Z ((At.ext (by assumption) xq).cellAt (by rfl))|exact Ab Z Z Z (At.ext (by assumption) xq) (by rfl)|exact A6 Z Z Z (Ext.cell xq (by assumption))),
    vcV fun _ _=>zA Z Z,
    vcV fun _ _=>A0 (m:=i) Z Z Z (by first|rfl|omega) (by omega),
    vcV fun _ _=>zH Z Z,
    vcV fun wq xq=>(by first|exact A6 Z Z Z ((Row.ext (by assumption) xq).cellAt (by rfl))|exact Ab Z Z Z (Row.ext (by assumption) xq).at (by rfl)|exact A6 Z Z Z ((At.ext (by assumption) xq).cellAt (by rfl))|exact Ab Z Z Z (At.ext (by assumption) xq) (by rfl)|exact A6 Z Z Z (Ext.cell xq (by assumption))),
    vcC (fun _ _=>A3 Z Z en53) (fun wq xq=>cg wq xq),
    vcV fun _ _=>zA Z Z,
    vcV fun _ _=>zF Z Z Z,
    vcV fun _ _=>zF Z Z Z,
    vcV fun _ _=>zB Z Z,trivial⟩ (fun bN wN xN hgeN rN=>?_)
      refine K.sub (M:=[(2,.pointer (some ⟨bG,0,none⟩)),(3,.pointer (some ⟨bA,0,none⟩)),(5,vO),(6,int i),(7,.pointer (some ⟨bN,0,none⟩)),(8,.bool false)]) ⟨rfl,rfl,rfl,rfl,rfl,rfl,trivial⟩ ?_
      (repeat' (first|refine Sy ?_|refine yqZ ?_|refine E_dq Aa (by kernel_rfl) Z ?_|refine yN Z (fun wq xq=>?_)|refine yO Z Z ?_))
      all_goals (try (exfalso;omega))
      refine Ad (i+1,vO) ⟨rfl,rfl,rfl,rfl,trivial⟩ ⟨by dsimp only;omega,hx.trans (xN.trans (by assumption)),?_⟩ (by dsimp only;omega)
      dsimp only
      rw [hct,List.append_nil]
      exact Ak hown (xN.trans (by assumption))
    | some e=>
      obtain⟨X,hrep0,_,cg0⟩:=Gh hg ev wr (hl0.ext hXr)
      have hrep:=hrep0
      obtain⟨f1,a1,s1,l1,r1,rfl,hfv,_⟩:=hrep0
      have cg:=fun wq (xq:Ext wr wq)=>cg0 wq xq
      have hem:e∈g.lex:=by obtain⟨_,h1,_,_⟩:=Fs hg;exact List.mem_of_getElem? h1
      rw [Pr hg] at hct
      refine E.sub (M:=[(2,.pointer (some ⟨bG,0,none⟩)),(3,.pointer (some ⟨bA,0,none⟩)),(5,vO),(6,int i)]) ⟨rfl,rfl,rfl,rfl,trivial⟩ ?_
      refine E_one (id:=5) 12 13 7 26 [int e.id,f1,int e.cls,a1,int e.main,s1,l1,r1] [some (17,_),some (18,_),some (19,_),some (20,_),some (21,_),some (22,_),some (23,_),some (24,_),some (25,_),some (16,_),some (26,_),some (27,_),none,none,some (8,_)] Aa (by kernel_rfl) rfl rfl rfl rfl rfl rfl rfl rfl (by decide) rfl rfl rfl (Rep.one hrep) rfl
        ⟨vcV fun _ _=>zH Z Z,
    vcV fun wq xq=>(by first|exact A6 Z Z Z ((Row.ext (by assumption) xq).cellAt (by rfl))|exact Ab Z Z Z (Row.ext (by assumption) xq).at (by rfl)|exact A6 Z Z Z ((At.ext (by assumption) xq).cellAt (by rfl))|exact Ab Z Z Z (At.ext (by assumption) xq) (by rfl)|exact A6 Z Z Z (Ext.cell xq (by assumption))),
    vcV fun _ _=>zH Z Z,
    vcV fun wq xq=>(by first|exact A6 Z Z Z ((Row.ext (by assumption) xq).cellAt (by rfl))|exact Ab Z Z Z (Row.ext (by assumption) xq).at (by rfl)|exact A6 Z Z Z ((At.ext (by assumption) xq).cellAt (by rfl))|exact Ab Z Z Z (At.ext (by assumption) xq) (by rfl)|exact A6 Z Z Z (Ext.cell xq (by assumption))),
    vcV fun _ _=>zA Z Z,
    vcV fun _ _=>A0 (m:=i) Z Z Z (by first|rfl|omega) (by omega),
    vcV fun _ _=>zH Z Z,
    vcV fun wq xq=>(by first|exact A6 Z Z Z ((Row.ext (by assumption) xq).cellAt (by rfl))|exact Ab Z Z Z (Row.ext (by assumption) xq).at (by rfl)|exact A6 Z Z Z ((At.ext (by assumption) xq).cellAt (by rfl))|exact Ab Z Z Z (At.ext (by assumption) xq) (by rfl)|exact A6 Z Z Z (Ext.cell xq (by assumption))),
    vcC (fun _ _=>A3 Z Z en53) (fun wq xq=>cg wq xq),
    vcV fun _ _=>zA Z Z,
    vcV fun _ _=>zF Z Z Z,
    vcV fun _ _=>zF Z Z Z,
    vcV fun _ _ => zB rfl rfl, trivial⟩ (fun bN wN xN hgeN rN => ?_)
      refine K.sub (M:=[(2,.pointer (some ⟨bG,0,none⟩)),(3,.pointer (some ⟨bA,0,none⟩)),(5,vO),(6,int i),(7,.pointer (some ⟨bN,0,none⟩)),(8,.bool true)]) ⟨rfl,rfl,rfl,rfl,rfl,rfl,trivial⟩ ?_
      replace rA:=rA.ext xN;replace hatp:=hatp.ext xN;replace hx:=hx.trans xN;replace hown:=Ak hown xN
      have rN':Row wN bN 65 [int e.id,f1,int e.cls,a1,int e.main,s1,l1,r1]:=rN
      have cf:=fun wq (xq:Ext wN wq)=>J6 e _ p.alt wq (Rep.move hrep (xN.trans xq).mv) (halt e hem)
      by_cases hform:0≤p.alt∧p.alt<((Ai e).length:Int)
      · rw [decide_eq_true hform] at cf
        rw [if_pos hform] at hct
        dsimp only at hct
        (repeat' (first|(refine yN Z (fun wq xq=>?_);replace rN':=rN'.ext xq;replace hown:=Ak hown xq;replace hx:=hx.trans xq)|refine yV Z Z (fun _ _ _=>A0 (m:=i) Z Z Z Z (by omega)) ?_|refine An Z Z (fun _ _ _=>A3 Z Z en198) cf ?_|(refine Ay (news:=[int e.cls]) (Ak hown xS) (hx.trans xS) (fun _=>⟨_,_,rfl,rS.at⟩) Z Z Z Z Z Z Z Z Z (by omega) (by omega) (fun vJ wJ oJ xJ kJ hJ=>?_))|refine Ly ?_|refine yqY ?_|refine yqZ ?_|refine eL Z Z Z Z Z Z Z Z (fun bS wS xS hbS rS=>?_)|refine E_dq Aa (by kernel_rfl) Z ?_))
        all_goals (try (exfalso;omega))
        refine Ad (i+1,vJ) ⟨rfl,rfl,rfl,rfl,trivial⟩ ⟨by dsimp only;omega,xJ,?_⟩ (by dsimp only;omega)
        dsimp only
        rw [hct]
        simpa using oJ
      · rw [decide_eq_false hform] at cf
        rw [if_neg hform] at hct
        dsimp only at hct
        rw [List.append_nil] at hct
        (repeat' (first|refine yV Z Z (fun _ _ _=>A0 (m:=i) Z Z Z Z (by omega)) ?_|refine An Z Z (fun _ _ _=>A3 Z Z en198) cf ?_|refine Sy ?_|refine yqY ?_|refine yqZ ?_|refine E_dq Aa (by kernel_rfl) Z ?_|refine yN Z (fun wq xq=>?_)))
        all_goals (try (exfalso;omega))
        refine Ad (i+1,vO) ⟨rfl,rfl,rfl,rfl,trivial⟩ ⟨by dsimp only;omega,hx.trans (by assumption),?_⟩ (by dsimp only;omega)
        dsimp only
        rw [hct]
        exact Ak hown (by assumption)
  · obtain rfl:i=a.length:=by omega
    rw [List.take_length] at hown hcl
    (repeat' (first|refine Ly ?_|refine Dy (fun hh=>?_) fun hh=>?_))
    all_goals (try (exfalso;omega))
    exact A5 Z Z ⟨hXr,Ce (css:=(Aq g.lex a).map fun z=>[int z]) (by rw [Av];exact hown) (B4 _ _) Z (by omega)⟩
end
section
open Go.RowKit Go.En Go.Pv
theorem ent_len {lex : List En} (hfl : ∀ e ∈ lex, ∀ f ∈ Ai e, f.length ≤ 1000) {p : Prt} {x : En × List Int} (h : Ck lex p = some x) : x.2.length ≤ 1000 := by
  unfold Ck at h
  cases hg:getE lex p.entry with
  | none=>rw [hg] at h;cases h
  | some e=>
    rw [hg] at h
    dsimp only at h
    split at h
    · split at h
      · rename_i f hf
        cases h
        obtain⟨_,h1,_,_⟩:=Fs hg
        exact hfl e (List.mem_of_getElem? h1) f (List.mem_of_getElem? hf)
      · cases h
    · cases h
theorem base_cons (lex:List En) (p:Prt) (r:List Prt):Ar lex (p::r)=(match Ck lex p with|some x=>x.2|none=>[])++Ar lex r:=by
  unfold Ar
  rw [List.flatMap_cons]
  congr 1
  cases Ck lex p with
  | none=>rfl
  | some x=>rfl
theorem base_len {lex:List En} (hfl:∀ e∈lex,∀ f∈Ai e,f.length≤1000):∀ a:List Prt,(Ar lex a).length≤a.length*1000
  | []=>by simp [Ar]
  | p::r=>by
    have ih:=base_len hfl r
    rw [base_cons,List.length_append,List.length_cons]
    cases h:Ck lex p with
    | none=>dsimp only;rw [List.length_nil];omega
    | some x=>have:=ent_len hfl h;dsimp only;omega
attribute [local irreducible] E EL K Val Enters Rt Calls bodyPost Code.wp RQ
theorem Je (g : Lg) (n : Nat) (pv uv tv rv sv fv ev : Value) (a : List Prt) (av : Value) (w : World) (hl : Sl w ev g.lex) (ha : Sl w av a) (hal : a.length ≤ 1000) (halt : ∀ e ∈ g.lex, e.alts.length ≤ 1000000) (hfl : ∀ e ∈ g.lex, ∀ f ∈ Ai e, f.length ≤ 1000) :
    Calls Tryz.prog 166 #[.agg #[pv,str g.oname,uv,tv,rv,int n,sv,fv,ev],.agg #[av] ] w (Rt fun u w'=>Ext w w'∧Sl w' u (Ar g.lex a)):=by
  have hl0:=hl;have ha0:=ha
  obtain⟨aa,ac,rfl,_,_,hap⟩:=ha.sl
  refine A7 (n:=52) (args:=[.agg #[pv,str g.oname,uv,tv,rv,int n,sv,fv,ev],.agg #[.slice aa a.length ac] ]) Tryz.func166 rfl Tryz.ntmps166 (by simp) ?_
  refine Ac ?_
  refine A8 ?_
  refine Aj Z Z Z Z (fun bG wG xG hbG rG0=>?_)
  have rG1:Row wG bG 37 [pv,str g.oname,uv,tv,rv,int n,sv,fv,ev]:=rG0
  refine Aj Z Z Z Z (fun bA wA xA hbA rA0=>?_)
  have rA:Row wA bA 159 [.slice aa a.length ac]:=rA0
  have rG:=rG1.ext xA
  have hX:=xG.trans xA
  clear rG0 rA0 rG1
  (repeat' (first|refine Sy ?_))
  refine Ae (ι:=Nat × Value) (fun z=>[(2,.pointer (some ⟨bG,0,none⟩)),(3,.pointer (some ⟨bA,0,none⟩)),(5,z.2),(6,int z.1)])
    (fun z wr=>z.1≤a.length∧Ext wA wr∧wr.ownsRow wA.heap.size 3 1 z.2 (Ar g.lex (a.take z.1)).length ((Ar g.lex (a.take z.1)).map int)) (fun z=>a.length-z.1) (0,.slice none 0 0)
    ⟨rfl,rfl,rfl,rfl,trivial⟩ ⟨Nat.zero_le _,Ext.refl _,World.ownsRow_nil _ _ _ _⟩ ?_
  rintro⟨i,vO⟩ wr ⟨hi,hx,hown⟩
  dsimp only at hi hx hown ⊢
  replace rG:=rG.ext hx;replace rA:=rA.ext hx
  have hXr:=hX.trans hx
  have hcl:=base_len hfl (a.take i)
  rw [List.length_take] at hcl
  by_cases hlt:i<a.length
  · obtain⟨b,off,rfl⟩:=hap (by omega)
    obtain⟨p,hp⟩:∃ p,a[i]?=some p:=⟨_,List.getElem?_eq_getElem hlt⟩
    have hatp:=Iu (ha0.ext hXr) hp
    have hct:=base_take (lex:=g.lex) hp
    (repeat' (first|refine Ly ?_|refine Dy (fun hh=>?_) fun hh=>?_))
    all_goals (try (exfalso;omega))
    cases hg:getE g.lex p.entry with
    | none=>
      have cg:=fun wq (xq:Ext wr wq)=>Gi hg ev wq (hl0.ext (hXr.trans xq))
      rw [Ps hg] at hct
      dsimp only at hct
      refine E.sub (M:=[(2,.pointer (some ⟨bG,0,none⟩)),(3,.pointer (some ⟨bA,0,none⟩)),(5,vO),(6,int i)]) ⟨rfl,rfl,rfl,rfl,trivial⟩ ?_
      refine E_one (id:=5) 12 13 7 26 zeroE [some (17,_),some (18,_),some (19,_),some (20,_),some (21,_),some (22,_),some (23,_),some (24,_),some (25,_),some (16,_),some (26,_),some (27,_),none,none,some (8,_)] Aa (by kernel_rfl) rfl rfl rfl rfl rfl rfl rfl rfl (by decide) rfl rfl rfl rfl rfl
        ⟨vcV fun _ _=>zH Z Z,
    vcV fun wq xq=>(by first|exact A6 Z Z Z ((Row.ext (by assumption) xq).cellAt (by rfl))|exact Ab Z Z Z (Row.ext (by assumption) xq).at (by rfl)|exact A6 Z Z Z ((At.ext (by assumption) xq).cellAt (by rfl))|exact Ab Z Z Z (At.ext (by assumption) xq) (by rfl)|exact A6 Z Z Z (Ext.cell xq (by assumption))),
    vcV fun _ _=>zH Z Z,
    vcV fun wq xq=>(by first|exact A6 Z Z Z ((Row.ext (by assumption) xq).cellAt (by rfl))|exact Ab Z Z Z (Row.ext (by assumption) xq).at (by rfl)|exact A6 Z Z Z ((At.ext (by assumption) xq).cellAt (by rfl))|exact Ab Z Z Z (At.ext (by assumption) xq) (by rfl)|exact A6 Z Z Z (Ext.cell xq (by assumption))),
    vcV fun _ _=>zA Z Z,
    vcV fun _ _=>A0 (m:=i) Z Z Z (by first|rfl|omega) (by omega),
    vcV fun _ _=>zH Z Z,
    vcV fun wq xq=>(by first|exact A6 Z Z Z ((Row.ext (by assumption) xq).cellAt (by rfl))|exact Ab Z Z Z (Row.ext (by assumption) xq).at (by rfl)|exact A6 Z Z Z ((At.ext (by assumption) xq).cellAt (by rfl))|exact Ab Z Z Z (At.ext (by assumption) xq) (by rfl)|exact A6 Z Z Z (Ext.cell xq (by assumption))),
    vcC (fun _ _=>A3 Z Z en53) (fun wq xq=>cg wq xq),
    vcV fun _ _=>zA Z Z,
    vcV fun _ _=>zF Z Z Z,
    vcV fun _ _=>zF Z Z Z,
    vcV fun _ _=>zB Z Z,trivial⟩ (fun bN wN xN hgeN rN=>?_)
      refine K.sub (M:=[(2,.pointer (some ⟨bG,0,none⟩)),(3,.pointer (some ⟨bA,0,none⟩)),(5,vO),(6,int i),(7,.pointer (some ⟨bN,0,none⟩)),(8,.bool false)]) ⟨rfl,rfl,rfl,rfl,rfl,rfl,trivial⟩ ?_
      (repeat' (first|refine Sy ?_|refine yqZ ?_|refine E_dq Aa (by kernel_rfl) Z ?_|refine yN Z (fun wq xq=>?_)|refine yO Z Z ?_))
      all_goals (try (exfalso;omega))
      refine Ad (i+1,vO) ⟨rfl,rfl,rfl,rfl,trivial⟩ ⟨by dsimp only;omega,hx.trans (xN.trans (by assumption)),?_⟩ (by dsimp only;omega)
      dsimp only
      rw [hct,List.append_nil]
      exact Ak hown (xN.trans (by assumption))
    | some e=>
      obtain⟨X,hrep0,_,cg0⟩:=Gh hg ev wr (hl0.ext hXr)
      have hrep:=hrep0
      obtain⟨f1,a1,s1,l1,r1,rfl,hfv,_⟩:=hrep0
      have cg:=fun wq (xq:Ext wr wq)=>cg0 wq xq
      have hem:e∈g.lex:=by obtain⟨_,h1,_,_⟩:=Fs hg;exact List.mem_of_getElem? h1
      rw [Pr hg] at hct
      refine E.sub (M:=[(2,.pointer (some ⟨bG,0,none⟩)),(3,.pointer (some ⟨bA,0,none⟩)),(5,vO),(6,int i)]) ⟨rfl,rfl,rfl,rfl,trivial⟩ ?_
      refine E_one (id:=5) 12 13 7 26 [int e.id,f1,int e.cls,a1,int e.main,s1,l1,r1] [some (17,_),some (18,_),some (19,_),some (20,_),some (21,_),some (22,_),some (23,_),some (24,_),some (25,_),some (16,_),some (26,_),some (27,_),none,none,some (8,_)] Aa (by kernel_rfl) rfl rfl rfl rfl rfl rfl rfl rfl (by decide) rfl rfl rfl (Rep.one hrep) rfl
        ⟨vcV fun _ _=>zH Z Z,
    vcV fun wq xq=>(by first|exact A6 Z Z Z ((Row.ext (by assumption) xq).cellAt (by rfl))|exact Ab Z Z Z (Row.ext (by assumption) xq).at (by rfl)|exact A6 Z Z Z ((At.ext (by assumption) xq).cellAt (by rfl))|exact Ab Z Z Z (At.ext (by assumption) xq) (by rfl)|exact A6 Z Z Z (Ext.cell xq (by assumption))),
    vcV fun _ _=>zH Z Z,
    vcV fun wq xq=>(by first|exact A6 Z Z Z ((Row.ext (by assumption) xq).cellAt (by rfl))|exact Ab Z Z Z (Row.ext (by assumption) xq).at (by rfl)|exact A6 Z Z Z ((At.ext (by assumption) xq).cellAt (by rfl))|exact Ab Z Z Z (At.ext (by assumption) xq) (by rfl)|exact A6 Z Z Z (Ext.cell xq (by assumption))),
    vcV fun _ _=>zA Z Z,
    vcV fun _ _=>A0 (m:=i) Z Z Z (by first|rfl|omega) (by omega),
    vcV fun _ _=>zH Z Z,
    vcV fun wq xq=>(by first|exact A6 Z Z Z ((Row.ext (by assumption) xq).cellAt (by rfl))|exact Ab Z Z Z (Row.ext (by assumption) xq).at (by rfl)|exact A6 Z Z Z ((At.ext (by assumption) xq).cellAt (by rfl))|exact Ab Z Z Z (At.ext (by assumption) xq) (by rfl)|exact A6 Z Z Z (Ext.cell xq (by assumption))),
    vcC (fun _ _=>A3 Z Z en53) (fun wq xq=>cg wq xq),
    vcV fun _ _=>zA Z Z,
    vcV fun _ _=>zF Z Z Z,
    vcV fun _ _=>zF Z Z Z,
    vcV fun _ _ => zB rfl rfl, trivial⟩ (fun bN wN xN hgeN rN => ?_)
      refine K.sub (M:=[(2,.pointer (some ⟨bG,0,none⟩)),(3,.pointer (some ⟨bA,0,none⟩)),(5,vO),(6,int i),(7,.pointer (some ⟨bN,0,none⟩)),(8,.bool true)]) ⟨rfl,rfl,rfl,rfl,rfl,rfl,trivial⟩ ?_
      replace rA:=rA.ext xN;replace hatp:=hatp.ext xN;replace hx:=hx.trans xN;replace hown:=Ak hown xN
      have rN':Row wN bN 65 [int e.id,f1,int e.cls,a1,int e.main,s1,l1,r1]:=rN
      have cf:=fun wq (xq:Ext wN wq)=>J6 e _ p.alt wq (Rep.move hrep (xN.trans xq).mv) (halt e hem)
      by_cases hform:0≤p.alt∧p.alt<((Ai e).length:Int)
      · rw [decide_eq_true hform] at cf
        rw [if_pos hform] at hct
        dsimp only at hct
        obtain⟨kk,hkk⟩:∃ k:Nat,p.alt=(k:Int):=⟨p.alt.toNat,by omega⟩
        obtain⟨F,hF⟩:∃ F,(Ai e)[kk]?=some F:=⟨_,List.getElem?_eq_getElem (by omega)⟩
        have hgd:(Ai e).getD p.alt.toNat []=F:=by rw [hkk,Int.toNat_natCast,List.getD_eq_getElem?_getD,hF];rfl
        rw [hgd] at hct
        have hFl:=hfl e hem F (List.mem_of_getElem? hF)
        have ho:=hown
        (repeat' ((fail_if_success (refine Ac (x:=(Code.region 7 _ _)) ?_));first|(refine yN Z (fun wq xq=>?_);replace rN':=rN'.ext xq;replace hown:=Ak hown xq;replace hx:=hx.trans xq;replace rA:=rA.ext xq;replace hatp:=hatp.ext xq;replace xN:=xN.trans xq)|refine yV Z Z (fun _ _ _=>A0 (m:=i) Z Z Z Z (by omega)) ?_|refine An Z Z (fun _ _ _=>A3 Z Z en198) cf ?_|refine Al (f:=165) (fun u w'=>Sl w' u (Ai e)) (fun _=>#[.agg #[int e.id,f1,int e.cls,a1,int e.main,s1,l1,r1] ]) Z Z (fun _ _ _ _ xe h=>SlG.ext h xe) (fun _ _ _=>A3 Z Z en165) (fun wq2 _ xq2 _=>Ag (I4 e _ wq2 (Rep.move hrep (xN.trans xq2).mv) (halt e hem)) (fun _ _ hh=>⟨hh.2,hh.1⟩)) ?_|(refine Cm (fun u w'=>∃ b o fa fc,u=.pointer (some ⟨b,o,none⟩)∧w'.cell? ⟨b,o,none⟩=some (.slice fa F.length fc)∧Sl w' (.slice fa F.length fc) F) Z Z (fun _ _ _ _ xe h=>by obtain⟨b,o,fa,fc,h1,h2,h3⟩:=h;exact⟨b,o,fa,fc,h1,xe.cell h2,h3.ext xe⟩) (fun w δ xq2 hs=>?_) ?_;(have hS:=hs 41 rfl _ rfl;obtain⟨sa,sc,e1,_,_,hsp⟩:=SlG.sl hS;obtain⟨sb,so,rfl⟩:=hsp (by omega);rw [e1] at hS;obtain⟨fa,fc,hat,hsl⟩:=Dh hS hF;exact⟨_,A0 (m:=kk) Z (congrArg some e1) Z hkk (by omega),sb,so+kk*1,fa,fc,rfl,hat.one,hsl⟩))|refine Cm (fun u w'=>Sl w' u F) Z Z (fun _ _ _ _ xe h=>SlG.ext h xe) (fun w δ xq2 hs=>by obtain⟨b,o,fa,fc,e1,hc,hsl⟩:=hs 48 rfl _ rfl;exact⟨_,A6 Z Z (congrArg some e1) hc,hsl⟩) ?_|refine B8 (fun wq2 δ xq2 hR=>?_)|refine Sy ?_|refine yqY ?_|refine yqZ ?_|refine E_dq Aa (by kernel_rfl) Z ?_))
        all_goals (try (exfalso;omega))
        have hS:=hR 49 _ rfl
        obtain⟨qa,qc,e49,_,_,_⟩:=SlG.sl hS
        rw [e49] at hS
        obtain⟨ss,q1,q2⟩:=SlG.css hS
        have fs:ss.flatten.length=F.length*1:=AtsG.flat q1
        have hsi:=Hq q1
        refine Ay (news:=ss.flatten) (Ak hown xq2) (hx.trans xq2) (fun h0=>?_) Z Z Z Z (congrArg some e49) fs (AtsG.ones q1) Z Z (by omega) (by omega) (fun vJ wJ oJ xJ kJ hJ=>?_)
        · obtain⟨b,so,e,_,hat⟩:=q2 (by omega)
          exact⟨b,so,e,hat⟩
        (repeat' (first|refine Sy ?_))
        refine Ad (i+1,vJ) ⟨rfl,rfl,rfl,rfl,trivial⟩ ⟨by dsimp only;omega,xJ,?_⟩ (by dsimp only;omega)
        dsimp only
        rw [hct]
        rw [hsi,Av] at oJ
        simpa using oJ
      · rw [decide_eq_false hform] at cf
        rw [if_neg hform] at hct
        dsimp only at hct
        rw [List.append_nil] at hct
        (repeat' (first|refine yV Z Z (fun _ _ _=>A0 (m:=i) Z Z Z Z (by omega)) ?_|refine An Z Z (fun _ _ _=>A3 Z Z en198) cf ?_|refine Sy ?_|refine yqY ?_|refine yqZ ?_|refine E_dq Aa (by kernel_rfl) Z ?_|refine yN Z (fun wq xq=>?_)))
        all_goals (try (exfalso;omega))
        refine Ad (i+1,vO) ⟨rfl,rfl,rfl,rfl,trivial⟩ ⟨by dsimp only;omega,hx.trans (by assumption),?_⟩ (by dsimp only;omega)
        dsimp only
        rw [hct]
        exact Ak hown (by assumption)
  · obtain rfl:i=a.length:=by omega
    rw [List.take_length] at hown hcl
    (repeat' (first|refine Ly ?_|refine Dy (fun hh=>?_) fun hh=>?_))
    all_goals (try (exfalso;omega))
    exact A5 Z Z ⟨hXr,Ce (css:=(Ar g.lex a).map fun z=>[int z]) (by rw [Av];exact hown) (B4 _ _) Z (by omega)⟩
end
section
open Go.RowKit Go.En Go.Pv
def blv (n:Nat) (S:Int→Bool):List Value:=(List.range n).map fun i:Nat=>.bool (S (i:Int))
theorem Fu {n i:Nat} {S:Int→Bool} (h:i<n):(blv n S)[i]?=some (.bool (S (i:Int))):=by simp [blv,h]
theorem Ft (n:Nat) (S:Int→Bool):(blv n S).length=n:=by simp [blv]
theorem Ia {n:Nat} {S T:Int→Bool} (h:∀ i:Nat,i<n→S (i:Int)=T (i:Int)):blv n S=blv n T:=by
  unfold blv
  refine List.map_congr_left fun i hi=>?_
  rw [h i (List.mem_range.1 hi)]
theorem Jb {n q:Nat} {S:Int→Bool} (b:Bool):(blv n S).set q (.bool b)=blv n (fun p=>if p=(q:Int) then b else S p):=by
  refine List.ext_getElem? fun i=>?_
  by_cases hi:i<n
  · rw [Fu hi,List.getElem?_set]
    by_cases e:q=i
    · subst e
      rw [if_pos rfl,if_pos (by rw [Ft];exact hi),if_pos rfl]
    · rw [if_neg e,Fu hi,if_neg (by omega)]
  · rw [List.getElem?_eq_none (by rw [List.length_set,Ft];omega),List.getElem?_eq_none (by rw [Ft];omega)]
theorem Jz (n:Nat):List.replicate n (Value.bool false)=blv n (fun _=>false):=by
  unfold blv
  rw [List.map_const',List.length_range]
def RB (B:Nat) (w:World) (v:Value) (n:Nat) (S:Int→Bool):Prop:=∃ b,v=.slice (some ⟨b,0,none⟩) n n∧B≤b∧Row w b 4 (blv n S)
theorem RB.ext {B:Nat} {w w':World} {v:Value} {n:Nat} {S:Int→Bool} (h:RB B w v n S) (x:Ext w w'):RB B w' v n S:=by
  obtain⟨b,e,hb,hr⟩:=h;exact⟨b,e,hb,hr.ext x⟩
theorem RB.wk {B B':Nat} {w:World} {v:Value} {n:Nat} {S:Int→Bool} (h:RB B w v n S) (hB:B'≤B):RB B' w v n S:=by
  obtain⟨b,e,hb,hr⟩:=h;exact⟨b,e,Nat.le_trans hB hb,hr⟩
theorem RB.same {B:Nat} {w:World} {v:Value} {n:Nat} {S T:Int→Bool} (h:RB B w v n S) (e:∀ i:Nat,i<n→S (i:Int)=T (i:Int)):RB B w v n T:=by
  rw [RB,← Ia e];exact h
attribute [local irreducible] E EL K Val Enters Rt Calls bodyPost Code.wp RQ
theorem Hv (n:Nat) (sv fv:Value) (l:List Int) (lv:Value) (w:World) (hl:Sl w lv l) (hin:∀ q∈l,0≤q∧q<(n:Int)) (hn:n≤1000) :
    Calls Tryz.prog 223 #[.agg #[int n,sv,fv],lv] w (Rt fun u w'=>Ext w w'∧RB w.heap.size w' u n (fun q=>l.contains q)):=by
  have hl0:=hl
  obtain⟨la,lc,rfl,_,hlm,hlp⟩:=hl.sl
  refine A7 (n:=23) (args:=[.agg #[int n,sv,fv],.slice la l.length lc]) Tryz.func223 rfl Tryz.ntmps223 (by simp) ?_
  refine Ac ?_
  refine A8 ?_
  refine Aj Z Z Z Z (fun bX wX xX hbX rX0=>?_)
  have rX:Row wX bX 34 [int n,sv,fv]:=rX0
  clear rX0
  have hXs:=xX.size
  (repeat' (first|refine M3 (m:=n) Z Z Z Z Z Z Z Z (by omega) (by omega) (fun bM wM hbM rM0 xM=>?_)|refine Ly ?_))
  rw [Jz] at rM0
  refine Ae (ι:=Nat) (fun i=>[(1,.slice la l.length lc),(5,.slice (some ⟨bM,0,none⟩) n n),(6,int i)])
    (fun i wr=>i≤l.length∧Ext wX wr∧Row wr bM 4 (blv n (fun q=>(l.take i).contains q))) (fun i=>l.length-i) 0
    ⟨rfl,rfl,rfl,trivial⟩ ⟨Nat.zero_le _,xM,by simpa using rM0⟩ ?_
  rintro i wr ⟨hi,hx,hr⟩
  by_cases hlt:i<l.length
  · obtain⟨b,off,rfl⟩:=hlp (by omega)
    obtain⟨q,hq⟩:∃ q,l[i]?=some q:=⟨_,List.getElem?_eq_getElem hlt⟩
    have hatq:=int_elem (hl0.ext (xX.trans hx)) hq
    have hqn:=hin q (List.mem_of_getElem? hq)
    obtain⟨k,rfl⟩:∃ k:Nat,q=(k:Int):=⟨q.toNat,by omega⟩
    have htk:(fun p:Int=>(l.take (i+1)).contains p)=fun p=>if p=(k:Int) then true else (l.take i).contains p:=by
      funext p
      obtain⟨hi',he⟩:=List.getElem?_eq_some_iff.1 hq
      rw [List.take_succ_eq_append_getElem hi',he]
      by_cases e:p=(k:Int)
      · simp [e]
      · rw [if_neg e,Bool.eq_iff_iff];simp [e]
    (repeat' (first|refine eV Z Z (A0 (m:=i) Z Z Z Z (by omega)) ?_|refine eV Z Z (A0 (m:=k) Z Z Z Z (by omega)) ?_|refine G6 hr hx (by omega) Z Z Z Z Z Z Z (by rw [Ft];omega) (fun wN rN xN _=>?_)|refine Ly ?_|refine Dy (fun hh=>?_) fun hh=>?_))
    all_goals (try (exfalso;omega))
    refine Ad (i+1) ⟨rfl,rfl,rfl,trivial⟩ ⟨by omega,xN,?_⟩ (by omega)
    rw [show 0+k*1=k by omega,Jb] at rN
    rw [htk]
    exact rN
  · obtain rfl:i=l.length:=by omega
    rw [List.take_length] at hr
    (repeat' (first|refine Sy ?_|refine Dy (fun hh=>?_) fun hh=>?_))
    all_goals (try (exfalso;omega))
    exact A5 Z Z ⟨xX.trans hx,bM,rfl,by omega,hr⟩
theorem Fw (n : Nat) (steps : List Stp) (sv fv : Value) (S : Int → Bool) (B : Nat) (tv : Value) (c : Int) (w : World) (hs : Sl w sv steps) (ht : RB B w tv n S) (hin : ∀ x ∈ steps, 0 ≤ x.frm ∧ x.frm < (n : Int) ∧ 0 ≤ x.to ∧ x.to < (n : Int)) (hn : n ≤ 1000) :
    Calls Tryz.prog 197 #[.agg #[int n,sv,fv],tv,int c] w (Rt fun u w'=>Ext w w'∧RB w.heap.size w' u n (aftB steps S c)):=by
  have hs0:=hs
  obtain⟨sa,sc,rfl,_,hsm,hsp⟩:=hs.sl
  obtain⟨bT,rfl,hbT,rT⟩:=ht
  refine A7 (n:=45) (args:=[.agg #[int n,.slice sa steps.length sc,fv],.slice (some ⟨bT,0,none⟩) n n,int c]) Tryz.func197 rfl Tryz.ntmps197 (by simp) ?_
  refine Ac ?_
  refine A8 ?_
  refine Aj Z Z Z Z (fun bX wX xX hbX rX0=>?_)
  have rX:Row wX bX 34 [int n,.slice sa steps.length sc,fv]:=rX0
  clear rX0
  have hXs:=xX.size
  (repeat' (first|refine M3 (m:=n) Z Z Z Z Z Z Z Z (by omega) (by omega) (fun bM wM hbM rM0 xM=>?_)|refine Ly ?_))
  rw [Jz] at rM0
  refine Ae (ι:=Nat) (fun i=>[(1,.slice (some ⟨bT,0,none⟩) n n),(2,int c),(3,.pointer (some ⟨bX,0,none⟩)),(7,.slice (some ⟨bM,0,none⟩) n n),(8,int i)])
    (fun i wr=>i≤steps.length∧Ext wX wr∧Row wr bM 4 (blv n (aftB (steps.take i) S c))) (fun i=>steps.length-i) 0
    ⟨rfl,rfl,rfl,rfl,rfl,trivial⟩ ⟨Nat.zero_le _,xM,by rw [List.take_zero];exact rM0⟩ ?_
  rintro i wr ⟨hi,hx,hr⟩
  have hX:=xX.trans hx
  replace rX:=rX.ext hx
  replace rT:=rT.ext hX
  by_cases hlt:i<steps.length
  · obtain⟨b,off,rfl⟩:=hsp (by omega)
    obtain⟨x,hxs⟩:∃ x,steps[i]?=some x:=⟨_,List.getElem?_eq_getElem hlt⟩
    have hatx:=L8 (hs0.ext hX) hxs
    obtain⟨h1,h2,h3,h4⟩:=hin x (List.mem_of_getElem? hxs)
    obtain⟨kf,hkf⟩:∃ k:Nat,x.frm=(k:Int):=⟨x.frm.toNat,by omega⟩
    obtain⟨kt,hkt⟩:∃ k:Nat,x.to=(k:Int):=⟨x.to.toNat,by omega⟩
    have htk:aftB (steps.take (i+1)) S c=fun p=>if p=(kt:Int) then (S x.frm&&(c==0||x.cls==c))||aftB (steps.take i) S c p else aftB (steps.take i) S c p:=by
      funext p
      obtain⟨hi',he⟩:=List.getElem?_eq_some_iff.1 hxs
      unfold aftB
      rw [List.take_succ_eq_append_getElem hi',he,List.any_append]
      by_cases e:p=(kt:Int)
      · rw [if_pos e,e,List.any_cons,List.any_nil,hkt];simp [Bool.or_comm]
      · rw [if_neg e,List.any_cons,List.any_nil,hkt]
        have:((kt:Int)==p)=false:=by simp;omega
        simp [this]
    (repeat' (first|refine eV Z Z (A0 (m:=i) Z Z Z Z (by omega)) ?_|refine Ap Z Z Z (fun bA wA xA hbA rA=>?_)|refine Ly ?_|refine Dy (fun hh=>?_) fun hh=>?_))
    all_goals (try (exfalso;omega))
    refine Ah (cs:=stpC x) rA (hx.trans xA) (by have:=hx.size;omega) Z Z Z Z Z Z Z Z (Nat.le_refl _) (fun w3 rA1 x3 k3=>?_)
    have rA3:Row w3 bA 146 [int x.frm,int x.cls,int x.to]:=rA1
    clear rA rA1
    have hne:bM≠bA:=by have:=hr.lt;omega
    have hr3:=k3.row (hr.ext xA) (by simpa using hne)
    have rX3:=k3.row (rX.ext xA) (by have:=rX.lt;simp;omega)
    have rT3:=k3.row (rT.ext xA) (by have:=rT.lt;simp;omega)
    have hcell:w3.cell? ⟨bT,0+kf*1,none⟩=some (.bool (S x.frm)):=by rw [hkf];exact rT3.cellAt (by rw [show 0+kf*1=kf by omega];exact Fu (by omega))
    clear rX rT hr
    cases hS:S x.frm with
    | false=>
      rw [hS] at hcell
      (repeat' (first|refine eV Z Z (A0 (m:=kf) Z Z Z (by omega) (by omega)) ?_|refine Ly ?_))
      all_goals (try (exfalso;omega))
      refine Ad (i+1) ⟨rfl,rfl,rfl,rfl,rfl,trivial⟩ ⟨by omega,x3,?_⟩ (by omega)
      rw [htk,hS]
      simpa using hr3
    | true=>
      rw [hS] at hcell
      by_cases hc:c=0∨x.cls=c
      · have hcb:(c==0||x.cls==c)=true:=by simpa using hc
        (repeat' (first|refine eV Z Z (A0 (m:=kf) Z Z Z (by omega) (by omega)) ?_|refine eV Z Z (A0 (m:=kt) Z Z Z (by omega) (by omega)) ?_|refine G6 hr3 x3 (by omega) Z Z Z Z Z Z Z (by rw [Ft];omega) (fun wN rN xN _=>?_)|refine Ly ?_|refine Dy (fun hh=>?_) fun hh=>?_))
        all_goals (try (exfalso;omega))
        all_goals
          refine Ad (i+1) ⟨rfl,rfl,rfl,rfl,rfl,trivial⟩ ⟨by omega,xN,?_⟩ (by omega)
          rw [show 0+kt*1=kt by omega,Jb] at rN
          rw [htk,hS,hcb]
          simpa using rN
      · have hcb:(c==0||x.cls==c)=false:=by simpa using hc
        (repeat' (first|refine eV Z Z (A0 (m:=kf) Z Z Z (by omega) (by omega)) ?_|refine Ly ?_|refine Dy (fun hh=>?_) fun hh=>?_))
        all_goals (try (exfalso;omega))
        refine Ad (i+1) ⟨rfl,rfl,rfl,rfl,rfl,trivial⟩ ⟨by omega,x3,?_⟩ (by omega)
        rw [htk,hS,hcb]
        simpa using hr3
  · obtain rfl:i=steps.length:=by omega
    rw [List.take_length] at hr
    (repeat' (first|refine Ly ?_|refine Dy (fun hh=>?_) fun hh=>?_))
    all_goals (try (exfalso;omega))
    exact A5 Z Z ⟨hX,bM,rfl,by omega,hr⟩
end
end Go.Proofs.YtjicdgejhkgpgaaGreatDoor