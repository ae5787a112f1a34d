/-
  The way from an entry to its main entry, and the senses (plain). Plain: the ids on the way from an entry to its main entry. A range over a function whose iterator writes a cell that it has captured (block Bid, below the loop's own blocks). Walks: Uses, out of run.
-/
import Derived.Test.YtjicdgejhkgpgaaGreatDoorYu
import Derived.Test.YtjicdgejhkgpgaaGreatDoorYl
import Derived.RangeFuncNested
set_option linter.all false
namespace Go.Proofs.YtjicdgejhkgpgaaGreatDoor
open Go.RowKit Go.En Go.Pv
def chainE (lex : List En) : Nat → Int → List En
  | 0,_=>[]
  | k+1,id=>match getE lex id with
    | none=>[]
    | some e=>e::if e.main=0 then [] else chainE lex k e.main
theorem chainE_senses (lex : List En) : ∀ (k : Nat) (id : Int), sensesF lex k id = match (chainE lex k id).find? (fun e => decide (0 < e.senses.length)) with | some e => e.senses | none => []
  | 0,_=>rfl
  | k + 1, id => by
    rw [chainE,sensesF]
    cases hg:getE lex id with
    | none=>rfl
    | some e=>
      dsimp only
      rw [List.find?_cons]
      cases hs:e.senses with
      | cons s r=>
        rw [if_pos (by simp)]
        have:decide (0<(s::r).length)=true:=by simp
        rw [this]
        exact hs.symm
      | nil=>
        rw [if_neg (by simp)]
        have:decide (0<([]:List Sns).length)=false:=by simp
        rw [this]
        by_cases h0:e.main=0
        · rw [if_pos h0,if_pos h0];rfl
        · rw [if_neg h0,if_neg h0]
          exact chainE_senses lex k e.main
end Go.Proofs.YtjicdgejhkgpgaaGreatDoor
namespace Go.Proofs.YtjicdgejhkgpgaaGreatDoor
open Go.RowKit Go.En Go.Pv
def chainI (lex : List En) : Nat → Int → List Int
  | 0,_=>[]
  | k+1,id=>match getE lex id with
    | none=>[]
    | some e=>id::if e.main=0 then [] else chainI lex k e.main
theorem chainI_some {lex:List En} {k:Nat} {id:Int} {e:En} (h:getE lex id=some e):chainI lex (k+1) id=id::if e.main=0 then [] else chainI lex k e.main:=by
  rw [chainI,h]
theorem chainI_none {lex:List En} {k:Nat} {id:Int} (h:getE lex id=none):chainI lex (k+1) id=[]:=by
  rw [chainI,h]
theorem chainI_map (lex:List En):∀(k:Nat) (id:Int),(chainI lex k id).map (entD lex)=chainE lex k id
  | 0,_=>rfl
  | k + 1, id => by
    rw [chainE]
    cases h:getE lex id with
    | none=>rw [chainI_none h];rfl
    | some e=>
      rw [chainI_some h,List.map_cons]
      have:entD lex id=e:=by unfold entD;rw [h];rfl
      rw [this]
      dsimp only
      by_cases h0:e.main=0
      · rw [if_pos h0,if_pos h0];rfl
      · rw [if_neg h0,if_neg h0,chainI_map lex k e.main]
theorem senses_none {lex:List En} {id:Int} (h:∀ x∈chainI lex (lex.length+1) id,(entD lex x).senses.length=0):sensesOf lex id=[]:=by
  unfold sensesOf
  rw [chainE_senses,← chainI_map,List.find?_eq_none.2]
  intro e he
  obtain⟨x,hx,rfl⟩:=List.mem_map.1 he
  rw [h x hx];simp
theorem senses_first {lex:List En} {id x:Int} {pre:List Int} (hp:pre++[x] <+: chainI lex (lex.length+1) id) (h:∀ y∈pre,(entD lex y).senses.length=0) (hx:0<(entD lex x).senses.length):sensesOf lex id=(entD lex x).senses:=by
  obtain⟨r,hr⟩:=hp
  unfold sensesOf
  rw [chainE_senses,← chainI_map,← hr,List.map_append,List.map_append,List.find?_append,List.find?_append]
  have h1:(pre.map (entD lex)).find? (fun e=>decide (0<e.senses.length))=none:=by
    rw [List.find?_eq_none]
    intro e he
    obtain⟨y,hy,rfl⟩:=List.mem_map.1 he
    rw [h y hy];simp
  have h2:([x].map (entD lex)).find? (fun e=>decide (0<e.senses.length))=some (entD lex x):=by
    rw [List.map_cons,List.map_nil,List.find?_cons,decide_eq_true hx]
  rw [h1,h2];rfl
end Go.Proofs.YtjicdgejhkgpgaaGreatDoor
namespace Go.En
open Go Go.RowKit
variable {F : Fence} {n : Nat} {P : Program}
def SeqX (F : Fence) (n : Nat) (P : Program) (g : Nat) (lb : Array Value) (encs : Int → Array Value) (zs : List Int) (Bid B : Nat) (w : World) : Prop :=
  ∀(l:Nat) (J Jx:List Int→World→Prop) (W:World),B≤l→l<W.heap.size→Below B w W→(∀ s A C,J s A→A.grownBy C (some Bid)→J s C)→
    (∀ pre x W1,J pre W1→pre++[x] <+: zs→YieldAt F (n-1) P l (encs x) W1 fun e W'=>
      (e=.returned (.bool true)∧J (pre++[x]) W'∧W1.grownBy W' (some l))∨(e=.returned (.bool false)∧Jx (pre++[x]) W'))→
    J [] W→
    CallsIn F n P g (#[.func (.yield l) #[] #[]]++lb) W fun e W'=>(∃ v,e=.returned v)∧(J zs W'∨∃ pre,pre <+: zs∧Jx pre W')
structure KeepUp (B:Nat) (W W':World):Prop where
  size:W.heap.size≤W'.heap.size
  same:∀(k:Nat),B≤k→k<W.heap.size→W'.heap[k]?=W.heap[k]?
theorem KeepUp.obj {B k:Nat} {o:Obj} {W W':World} (h:KeepUp B W W') (hk:B≤k) (ho:W.heap[k]?=some o):W'.heap[k]?=some o:=(h.same k hk (Array.getElem?_eq_some_iff.1 ho).1).trans ho
theorem KeepUp.of_below {B:Nat} {W W':World} (h:Below W.heap.size W W'):KeepUp B W W':=⟨h.size,fun k _ hk=>h.block k hk⟩
theorem KeepUp.trans {B:Nat} {X Y Zq:World} (h:KeepUp B X Y) (k:KeepUp B Y Zq):KeepUp B X Zq:=⟨Nat.le_trans h.size k.size,fun i hB hi=>(k.same i hB (Nat.lt_of_lt_of_le hi h.size)).trans (h.same i hB hi)⟩
def postX (B:Nat) (I Ix:List Int→World→Prop) (xs:List Int) (W:World):Exit→Act→World→Prop
  | .normal,_,W'=>Below W.heap.size W W'∧I xs W'
  | .ret,_,W'=>KeepUp B W W'∧Ix xs W'
  | .exit _,_,_=>False
  | .goto _,_,_=>False
  | .panic _,_,_=>False
  | .outgrown,_,_=>False
theorem grownBy_putObj (W:World) (l:Nat) (o:Obj):W.grownBy (W.putObj l o) (some l):=grownBy_putObj' W l o
theorem below_grown {W W':World} {r:Nat} (h:Below W.heap.size W W'):W.grownBy W' (some r):=⟨h.os,h.tape,h.output,h.size,fun k hk _=>h.block k hk⟩
theorem grownBy_chain {A B C:World} {r:Nat} (h:A.grownBy B (some r)) (k:B.grownBy C (some r)):A.grownBy C (some r):=
  ⟨k.os.trans h.os,k.tape.trans h.tape,k.output.trans h.output,Nat.le_trans h.size k.size,fun i hi hne=>(k.block i (Nat.lt_of_lt_of_le hi h.size) hne).trans (h.block i hi hne)⟩
theorem wpIn_rangeFunc_X {g:Operand} {ps:Array Tmp} {assign body:Code} {Q:Exit→Act→World→Prop} {a:Act} {w:World}
    (hro:F.round=none) (h1:1≤n) {gf:Nat} {lb:Array Value} (hg:a.eval g=.func (.func gf) #[] lb) (hFg:F.fn gf) (eg:∀ args w,(callFunc gf args).run P w=.ok (.enter gf args) w)
    {encs:Int→Array Value} {zs:List Int} {Bid:Nat} (hBid:Bid<w.heap.size) (hseq:SeqX F (n-1) P gf lb encs zs Bid w.heap.size w) (hps:∀ x,(encs x).size=ps.size)
    (I Ix:List Int→World→Prop) (hI:∀ s A C r,I s A→A.grownBy C (some r)→(r=Bid∨r=w.heap.size+1)→I s C) (hIx:∀ s A C,Ix s A→A.grownBy C (some (w.heap.size+1))→Ix s C) (h0:I [] w)
    (Ax:Int→Act→World→Prop) (hAx:∀ x a' A C,Ax x a' A→A.grownBy C (some (w.heap.size+1))→Ax x a' C)
    (hassign:∀(l:Nat) (pre:List Int) (x:Int) (W:World) (K:Act→World→Prop),w.heap.size+2≤W.heap.size→I pre W→pre++[x] <+: zs→(∀ a' W',Below W.heap.size W W'→I pre W'→Ax x a' W'→K a' W')→
      assign.wpIn (F.inRound l) (n-1-1) P (Exit.then K (fun _ _ _=>False)) { tmps:=(ps.zip (encs x)).foldl (fun t (p,v)=>t.setIfInBounds p v) a.tmps,defers:=[] } W)
    (hbody:∀(l:Nat) (pre:List Int) (x:Int) (a':Act) (W:World),w.heap.size+2≤W.heap.size→I pre W→Ax x a' W→pre++[x] <+: zs→body.wpIn (F.inRound l) (n-1-1) P (postX w.heap.size I Ix (pre++[x]) W) a' W)
    (hdone:∀(W:World),I zs W→W.heap[w.heap.size]?=some (.deferred (some []))→Q .normal { a with defers:={ target:=.collected w.heap.size,args:=#[] }::a.defers } W)
    (hstop:∀(pre:List Int) (W:World),pre <+: zs→Ix pre W→W.heap[w.heap.size]?=some (.deferred (some []))→Code.ret.wpIn F n P Q { a with defers:={ target:=.collected w.heap.size,args:=#[] }::a.defers } W) :
    (Code.rangeFunc g ps assign body).wpIn F n P Q a w:=by
  refine wpIn_rangeFunc ?_
  intro fn hfn
  rw [hro]
  obtain⟨rec,hrec⟩:∃ rec:LoopState→Option Code→Loop,rec=fun st pe=>{ state:=st,pending:=pe,fn,tmps:=a.tmps,params:=ps,assign,body,defers:=w.heap.size }:=⟨_,rfl⟩
  obtain⟨W1,hW1⟩:∃ W1,(w.alloc (.deferred (some []))).alloc (.loop (rec .ready none))=W1:=⟨_,rfl⟩
  have hL1:W1.heap[w.heap.size+1]?=some (.loop (rec .ready none)):=by
    rw [← hW1];have:=World.alloc_heap_new (w.alloc (.deferred (some []))) (.loop (rec .ready none));rwa [World.size_alloc] at this
  have hK1:W1.heap[w.heap.size]?=some (.deferred (some [])):=by
    rw [← hW1];exact(Below.heap_alloc _ _ _ (by simp)).trans (World.alloc_heap_new w _)
  have hI1:I [] W1:=by
    rw [← hW1]
    exact hI _ _ _ Bid (hI _ _ _ Bid h0 (World.grownBy_alloc w _ _) (.inl rfl)) (World.grownBy_alloc _ _ _) (.inl rfl)
  have hb1:Below w.heap.size w W1:=by
    rw [← hW1];exact((Below.refl _ w).alloc (Nat.le_refl _) _).alloc (by simp) _
  refine⟨w.heap.size+1,[{ target:=.collected w.heap.size,args:=#[] }],W1,{ target:=.fn (.func gf) lb,args:=#[.func (.yield (w.heap.size+1)) #[] #[]] },W1,gf,
    #[.func (.yield (w.heap.size+1)) #[] #[]]++lb,W1,?_,?_,?_,?_,fun _=>h1,?_⟩
  · rw [← hW1,hrec];exact run_enterLoop_outer _ _ _ _ _
  · simp only [resolve,hg]
    simp [go_sem]
  · intro f' hf';simp [Target.leads] at hf';subst hf';exact hFg
  · simp [invoke,go_sem,eg]
  · refine(hseq (w.heap.size+1)
      (fun pre W=>I pre W∧W.heap[w.heap.size+1]?=some (.loop (rec .ready none))∧W.heap[w.heap.size]?=some (.deferred (some [])))
      (fun pre W=>Ix pre W∧W.heap[w.heap.size+1]?=some (.loop (rec .done (some .ret)))∧W.heap[w.heap.size]?=some (.deferred (some [])))
      W1 (by omega) (Array.getElem?_eq_some_iff.1 hL1).1 hb1
      (fun s A C hs hg'=>⟨hI s A C Bid hs.1 hg' (.inl rfl),(hg'.block _ (Array.getElem?_eq_some_iff.1 hs.2.1).1 (fun e=>by cases e;omega)).trans hs.2.1,(hg'.block _ (Array.getElem?_eq_some_iff.1 hs.2.2).1 (fun e=>by cases e;omega)).trans hs.2.2⟩)
      ?_ ⟨hI1,hL1,hK1⟩).mono ?_
    · rintro pre x W ⟨hi,hl,hk⟩ hpre
      have hlt:w.heap.size+1<W.heap.size:=(Array.getElem?_eq_some_iff.1 hl).1
      have hy:=run_yield (P:=P) (args:=encs x) hl (by rw [hrec];exact hps x)
      rw [hrec] at hy
      refine⟨fn,_,assign,body,hy,roundIn_of_wpIn hfn (hassign _ pre x W _ (by omega) hi hpre ?_)⟩
      clear hy
      intro a' Wa hbl hia hax
      have hku:=KeepUp.of_below (B:=w.heap.size) hbl
      replace hl:=hku.obj (by omega) hl
      replace hk:=hku.obj (Nat.le_refl _) hk
      replace hlt:w.heap.size+1<Wa.heap.size:=(Array.getElem?_eq_some_iff.1 hl).1
      refine⟨_,run_beginRound hl (by rw [hrec]),?_⟩
      have hl2:(Wa.putObj (w.heap.size+1) (.loop { rec .ready none with state:=.busy })).heap[w.heap.size+1]?=some (.loop { rec .ready none with state:=.busy }):=World.putObj_heap_same hlt
      have hk2:(Wa.putObj (w.heap.size+1) (.loop { rec .ready none with state:=.busy })).heap[w.heap.size]?=some (.deferred (some [])):=(World.putObj_heap_other (by omega)).trans hk
      refine wpIn_mono (hbody _ pre x a' _ (by simp;omega) (hI _ _ _ _ hia (grownBy_putObj _ _ _) (.inr rfl)) (hAx _ _ _ _ hax (grownBy_putObj _ _ _)) hpre) ?_
      have fin:∀(jump:Option Code) (W3:World),KeepUp w.heap.size (Wa.putObj (w.heap.size+1) (.loop { rec .ready none with state:=.busy })) W3→
          (Instr.endRound (w.heap.size+1) jump).run P W3=.ok (.bool jump.isNone) (W3.putObj (w.heap.size+1) (.loop (rec (if jump.isNone then .ready else .done) jump)))∧
          (W3.putObj (w.heap.size+1) (.loop (rec (if jump.isNone then .ready else .done) jump))).heap[w.heap.size+1]?=some (.loop (rec (if jump.isNone then .ready else .done) jump))∧
          (W3.putObj (w.heap.size+1) (.loop (rec (if jump.isNone then .ready else .done) jump))).heap[w.heap.size]?=some (.deferred (some [])):=fun jump W3 hk3=>by
        have hl3:=hk3.obj (by omega) hl2
        have:=run_endRound (P:=P) jump hl3
        rw [hrec] at this ⊢
        exact⟨this,World.putObj_heap_same (Array.getElem?_eq_some_iff.1 hl3).1,(World.putObj_heap_other (by omega)).trans (hk3.obj (Nat.le_refl _) hk2)⟩
      rintro e a3 W3 hp
      cases e with
      | normal=>
        obtain⟨hb3,hi3⟩:=hp
        obtain⟨hr,hl4,hk4⟩:=fin none W3 (KeepUp.of_below hb3)
        exact⟨_,_,hr,.inl ⟨rfl,⟨hI _ _ _ _ hi3 (grownBy_putObj _ _ _) (.inr rfl),hl4,hk4⟩,grownBy_chain (grownBy_chain (grownBy_chain (below_grown hbl) (grownBy_putObj Wa _ _)) (below_grown hb3)) (grownBy_putObj W3 _ _)⟩⟩
      | ret=>
        obtain⟨hk3,hi3⟩:=hp
        obtain⟨hr,hl4,hk4⟩:=fin (some .ret) W3 hk3
        exact⟨_,_,hr,.inr ⟨rfl,hIx _ _ _ hi3 (grownBy_putObj _ _ _),hl4,hk4⟩⟩
      | exit id=>exact hp.elim
      | goto t=>exact hp.elim
      | panic ch=>exact hp.elim
      | outgrown=>exact hp.elim
    · rintro e W2 ⟨⟨v,rfl⟩,(⟨hi,hl,hk⟩|⟨pre,hSp,hi,hl,hk⟩)⟩
      · exact⟨none,_,by have:=run_endLoop (P:=P) hl (by rw [hrec];simp);rw [hrec] at this;exact this,hdone _ (hI _ _ _ _ hi (grownBy_putObj _ _ _) (.inr rfl)) ((World.putObj_heap_other (by omega)).trans hk)⟩
      · exact⟨some .ret,_,by have:=run_endLoop (P:=P) hl (by rw [hrec];simp);rw [hrec] at this;exact this,hstop pre _ hSp (hIx _ _ _ hi (grownBy_putObj _ _ _)) ((World.putObj_heap_other (by omega)).trans hk)⟩
end Go.En
namespace Go.Proofs.YtjicdgejhkgpgaaGreatDoor
open Go.RowKit Go.En Go.Pv
def RunC (g : Lg) (ws : List Int) (id : Int) : Prop :=
  ∀(pv uv tv rv sv fv ev wv:Value) (bI bU:Nat) (w:World),bI≠bU→LangG (fun b=>b≠bU) w g pv uv tv rv sv fv ev→SlG (fun b=>b≠bU) w wv ws→Row w bI 3 [int id]→Row w bU 4 [.bool false]→
    Calls Tryz.prog 70 #[.agg #[pv,str g.oname,uv,tv,rv,int g.net.states,sv,fv,ev],wv,.func (.func 71) #[] #[.pointer (some ⟨bI,0,none⟩),.pointer (some ⟨bU,0,none⟩)] ] w (Rt fun _ w'=>Kx (fun b=>b=bU) w w'∧Row w' bU 4 [.bool (usesF g ws id)])
attribute [local irreducible] E EL K Val Enters Rt Calls bodyPost Code.wp RQ
set_option maxHeartbeats 4000000 in
set_option maxRecDepth 8000 in
theorem uses39_of_run {g:Lg} {ws:List Int} {id:Int} (hrun:RunC g ws id) (pv uv tv rv sv fv ev wv:Value) (w:World) (hg:LangG Tt w g pv uv tv rv sv fv ev) (hw:Sl w wv ws) :
    Calls Tryz.prog 39 #[.agg #[pv,str g.oname,uv,tv,rv,int g.net.states,sv,fv,ev],wv,int id] w (Rt fun u w'=>u=.bool (usesF g ws id)∧Ext w w'):=by
  refine calls_E (n:=13) (args:=[.agg #[pv,str g.oname,uv,tv,rv,int g.net.states,sv,fv,ev],wv,int id]) Tryz.func39 rfl Tryz.ntmps39 (by simp) ?_
  refine E_seq ?_
  refine E_region ?_
  refine EL_box Z Z Z Z (fun bG wG xG hbG rG0=>?_)
  have rG:Row wG bG 37 [pv,str g.oname,uv,tv,rv,int g.net.states,sv,fv,ev]:=rG0
  clear rG0
  refine EL_box Z Z Z Z (fun bI wI xI hbI rI0=>?_)
  have rI:Row wI bI 3 [int id]:=rI0
  clear rI0
  replace rG:=rG.ext xI
  have hX:=xG.trans xI
  have zG:=xG.size
  have zI:=xI.size
  have lG:=rG.lt
  have lI:=rI.lt
  (repeat' (first|refine EL_alloc Z Z Z (fun bU wA xA hbU rA=>?_)|(refine at_EL ?_;first|refine eN ?_|refine eV Z Z (zB Z Z) ?_)|(refine at_K ?_;first|refine K_then ?_)|(refine at_E ?_;first|refine E_seq ?_|refine E_region ?_)))
  refine EL_storeP (cs:=[_]) rA xA (Nat.le_of_eq hbU.symm) Z Z Z Z Z Z Z Z (Nat.le_refl _) (fun wU rU0 xU kU=>?_)
  have rU:Row wU bU 4 [.bool false]:=rU0
  replace rG:=rG.ext xU
  replace rI:=rI.ext xU
  replace hX:=hX.trans xU
  (repeat' (first|refine eV Z Z (val_load Z Z Z (Row.cellAt (by assumption) (by rfl))) ?_|refine eV Z Z (val_loadA Z Z Z (Row.at (by assumption)) (by rfl)) ?_|refine eV Z Z (val_makeFunc (vs:=[.pointer (some ⟨bI,0,none⟩),.pointer (some ⟨bU,0,none⟩)]) Z Z) ?_|(refine EL_call Z Z (entersF Z Z en70) (hrun pv uv tv rv sv fv ev wv bI bU _ (by omega) (hg.move fun b _ hlt=>⟨by omega,hX.block hlt⟩) (hw.move fun b _ hlt=>⟨by omega,hX.block hlt⟩) rI rU) (fun vC wC hC=>?_);obtain⟨kC,uC⟩:=hC)|(refine at_EL ?_;first|refine eN ?_|refine eV Z Z (zA Z Z) ?_|refine eV Z Z (zB Z Z) ?_)|(refine at_K ?_;first|refine K_then ?_)|(refine at_E ?_;first|refine E_seq ?_|refine E_region ?_|refine E_ret ?_)))
  exact ret_1 Z Z ⟨rfl,kC.from hX (fun b hb e=>by omega)⟩
end Go.Proofs.YtjicdgejhkgpgaaGreatDoor
