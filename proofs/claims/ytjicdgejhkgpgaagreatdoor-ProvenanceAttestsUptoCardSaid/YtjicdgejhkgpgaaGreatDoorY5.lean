/-
  Own text of the proof.
-/
import Derived.RangeFuncNested
import Derived.Test.YtjicdgejhkgpgaaGreatDoorY4
import Derived.Test.YtjicdgejhkgpgaaGreatDoorY1
import Derived.Test.YtjicdgejhkgpgaaGreatDoorYh
set_option linter.all false
set_option maxHeartbeats 8000000
set_option maxRecDepth 8000
namespace Go.En
open Go Go.RowKit
variable {F : Fence} {n : Nat} {P : Program}
def SeqX (F : Fence) (n : Nat) (P : Program) (g : Nat) (lb : Array Value) (encs : Int → Array Value) (zs : List Int) (Bid B : Nat) (w : World) : Prop :=
  ∀(l:Nat) (J Jx:List Int→World→Prop) (W:World),B≤l→l<W.heap.size→Below B w W→(∀ s A C,J s A→A.grownBy C (some Bid)→J s C)→
    (∀ pre x W1,J pre W1→pre++[x] <+: zs→YieldAt F (n-1) P l (encs x) W1 fun e W'=>
      (e=.returned (.bool true)∧J (pre++[x]) W'∧W1.grownBy W' (some l))∨(e=.returned (.bool false)∧Jx (pre++[x]) W'))→
    J [] W→
    CallsIn F n P g (#[.func (.yield l) #[] #[]]++lb) W fun e W'=>(∃ v,e=.returned v)∧(J zs W'∨∃ pre,pre <+: zs∧Jx pre W')
structure KeepUp (B:Nat) (W W':World):Prop where
  size:W.heap.size≤W'.heap.size
  same:∀(k:Nat),B≤k→k<W.heap.size→W'.heap[k]?=W.heap[k]?
theorem KeepUp.obj {B k:Nat} {o:Obj} {W W':World} (h:KeepUp B W W') (hk:B≤k) (ho:W.heap[k]?=some o):W'.heap[k]?=some o:=(h.same k hk (Array.getElem?_eq_some_iff.1 ho).1).trans ho
theorem KeepUp.of_below {B:Nat} {W W':World} (h:Below W.heap.size W W'):KeepUp B W W':=⟨h.size,fun k _ hk=>h.block k hk⟩
theorem KeepUp.trans {B:Nat} {X Y Zq:World} (h:KeepUp B X Y) (k:KeepUp B Y Zq):KeepUp B X Zq:=⟨Nat.le_trans h.size k.size,fun i hB hi=>(k.same i hB (Nat.lt_of_lt_of_le hi h.size)).trans (h.same i hB hi)⟩
def postX (B:Nat) (I Ix:List Int→World→Prop) (xs:List Int) (W:World):Exit→Act→World→Prop
  | .normal,_,W'=>Below W.heap.size W W'∧I xs W'
  | .ret,_,W'=>KeepUp B W W'∧Ix xs W'
  | .exit _,_,_=>False
  | .goto _,_,_=>False
  | .panic _,_,_=>False
  | .outgrown,_,_=>False
theorem Bg (W:World) (l:Nat) (o:Obj):W.grownBy (W.putObj l o) (some l):=grownBy_putObj' W l o
theorem Nd {W W':World} {r:Nat} (h:Below W.heap.size W W'):W.grownBy W' (some r):=⟨h.os,h.tape,h.output,h.size,fun k hk _=>h.block k hk⟩
theorem Fd {A B C:World} {r:Nat} (h:A.grownBy B (some r)) (k:B.grownBy C (some r)):A.grownBy C (some r):=
  ⟨k.os.trans h.os,k.tape.trans h.tape,k.output.trans h.output,Nat.le_trans h.size k.size,fun i hi hne=>(k.block i (Nat.lt_of_lt_of_le hi h.size) hne).trans (h.block i hi hne)⟩
theorem M4 {g:Operand} {ps:Array Tmp} {assign body:Code} {Q:Exit→Act→World→Prop} {a:Act} {w:World}
    (hro:F.round=none) (h1:1≤n) {gf:Nat} {lb:Array Value} (hg:a.eval g=.func (.func gf) #[] lb) (hFg:F.fn gf) (eg:∀ args w,(callFunc gf args).run P w=.ok (.enter gf args) w)
    {encs:Int→Array Value} {zs:List Int} {Bid:Nat} (hBid:Bid<w.heap.size) (hseq:SeqX F (n-1) P gf lb encs zs Bid w.heap.size w) (hps:∀ x,(encs x).size=ps.size)
    (I Ix:List Int→World→Prop) (hI:∀ s A C r,I s A→A.grownBy C (some r)→(r=Bid∨r=w.heap.size+1)→I s C) (hIx:∀ s A C,Ix s A→A.grownBy C (some (w.heap.size+1))→Ix s C) (h0:I [] w)
    (Ax:Int→Act→World→Prop) (hAx:∀ x a' A C,Ax x a' A→A.grownBy C (some (w.heap.size+1))→Ax x a' C)
    (hassign:∀(l:Nat) (pre:List Int) (x:Int) (W:World) (K:Act→World→Prop),w.heap.size+2≤W.heap.size→I pre W→pre++[x] <+: zs→(∀ a' W',Below W.heap.size W W'→I pre W'→Ax x a' W'→K a' W')→
      assign.wpIn (F.inRound l) (n-1-1) P (Exit.then K (fun _ _ _=>False)) { tmps:=(ps.zip (encs x)).foldl (fun t (p,v)=>t.setIfInBounds p v) a.tmps,defers:=[] } W)
    (hbody:∀(l:Nat) (pre:List Int) (x:Int) (a':Act) (W:World),w.heap.size+2≤W.heap.size→I pre W→Ax x a' W→pre++[x] <+: zs→body.wpIn (F.inRound l) (n-1-1) P (postX w.heap.size I Ix (pre++[x]) W) a' W)
    (hdone:∀(W:World),I zs W→W.heap[w.heap.size]?=some (.deferred (some []))→Q .normal { a with defers:={ target:=.collected w.heap.size,args:=#[] }::a.defers } W)
    (hstop:∀(pre:List Int) (W:World),pre <+: zs→Ix pre W→W.heap[w.heap.size]?=some (.deferred (some []))→Code.ret.wpIn F n P Q { a with defers:={ target:=.collected w.heap.size,args:=#[] }::a.defers } W) :
    (Code.rangeFunc g ps assign body).wpIn F n P Q a w:=by
  refine wpIn_rangeFunc ?_
  intro fn hfn
  rw [hro]
  obtain⟨rec,hrec⟩:∃ rec:LoopState→Option Code→Loop,rec=fun st pe=>{ state:=st,pending:=pe,fn,tmps:=a.tmps,params:=ps,assign,body,defers:=w.heap.size }:=⟨_,rfl⟩
  obtain⟨W1,hW1⟩:∃ W1,(w.alloc (.deferred (some []))).alloc (.loop (rec .ready none))=W1:=⟨_,rfl⟩
  have hL1:W1.heap[w.heap.size+1]?=some (.loop (rec .ready none)):=by
    rw [← hW1];have:=World.alloc_heap_new (w.alloc (.deferred (some []))) (.loop (rec .ready none));rwa [World.size_alloc] at this
  have hK1:W1.heap[w.heap.size]?=some (.deferred (some [])):=by
    rw [← hW1];exact(Below.heap_alloc _ _ _ (by simp)).trans (World.alloc_heap_new w _)
  have hI1:I [] W1:=by
    rw [← hW1]
    exact hI _ _ _ Bid (hI _ _ _ Bid h0 (World.grownBy_alloc w _ _) (.inl rfl)) (World.grownBy_alloc _ _ _) (.inl rfl)
  have hb1:Below w.heap.size w W1:=by
    rw [← hW1];exact((Below.refl _ w).alloc (Nat.le_refl _) _).alloc (by simp) _
  refine⟨w.heap.size+1,[{ target:=.collected w.heap.size,args:=#[] }],W1,{ target:=.fn (.func gf) lb,args:=#[.func (.yield (w.heap.size+1)) #[] #[]] },W1,gf,
    #[.func (.yield (w.heap.size+1)) #[] #[]]++lb,W1,?_,?_,?_,?_,fun _=>h1,?_⟩
  · rw [← hW1,hrec];exact run_enterLoop_outer _ _ _ _ _
  · simp only [resolve,hg]
    simp [go_sem]
  · intro f' hf';simp [Target.leads] at hf';subst hf';exact hFg
  · simp [invoke,go_sem,eg]
  · refine(hseq (w.heap.size+1)
      (fun pre W=>I pre W∧W.heap[w.heap.size+1]?=some (.loop (rec .ready none))∧W.heap[w.heap.size]?=some (.deferred (some [])))
      (fun pre W=>Ix pre W∧W.heap[w.heap.size+1]?=some (.loop (rec .done (some .ret)))∧W.heap[w.heap.size]?=some (.deferred (some [])))
      W1 (by omega) (Array.getElem?_eq_some_iff.1 hL1).1 hb1
      (fun s A C hs hg'=>⟨hI s A C Bid hs.1 hg' (.inl rfl),(hg'.block _ (Array.getElem?_eq_some_iff.1 hs.2.1).1 (fun e=>by cases e;omega)).trans hs.2.1,(hg'.block _ (Array.getElem?_eq_some_iff.1 hs.2.2).1 (fun e=>by cases e;omega)).trans hs.2.2⟩)
      ?_ ⟨hI1,hL1,hK1⟩).mono ?_
    · rintro pre x W ⟨hi,hl,hk⟩ hpre
      have hlt:w.heap.size+1<W.heap.size:=(Array.getElem?_eq_some_iff.1 hl).1
      have hy:=run_yield (P:=P) (args:=encs x) hl (by rw [hrec];exact hps x)
      rw [hrec] at hy
      refine⟨fn,_,assign,body,hy,roundIn_of_wpIn hfn (hassign _ pre x W _ (by omega) hi hpre ?_)⟩
      clear hy
      intro a' Wa hbl hia hax
      have hku:=KeepUp.of_below (B:=w.heap.size) hbl
      replace hl:=hku.obj (by omega) hl
      replace hk:=hku.obj (Nat.le_refl _) hk
      replace hlt:w.heap.size+1<Wa.heap.size:=(Array.getElem?_eq_some_iff.1 hl).1
      refine⟨_,run_beginRound hl (by rw [hrec]),?_⟩
      have hl2:(Wa.putObj (w.heap.size+1) (.loop { rec .ready none with state:=.busy })).heap[w.heap.size+1]?=some (.loop { rec .ready none with state:=.busy }):=World.putObj_heap_same hlt
      have hk2:(Wa.putObj (w.heap.size+1) (.loop { rec .ready none with state:=.busy })).heap[w.heap.size]?=some (.deferred (some [])):=(World.putObj_heap_other (by omega)).trans hk
      refine wpIn_mono (hbody _ pre x a' _ (by simp;omega) (hI _ _ _ _ hia (Bg _ _ _) (.inr rfl)) (hAx _ _ _ _ hax (Bg _ _ _)) hpre) ?_
      have fin:∀(jump:Option Code) (W3:World),KeepUp w.heap.size (Wa.putObj (w.heap.size+1) (.loop { rec .ready none with state:=.busy })) W3→
          (Instr.endRound (w.heap.size+1) jump).run P W3=.ok (.bool jump.isNone) (W3.putObj (w.heap.size+1) (.loop (rec (if jump.isNone then .ready else .done) jump)))∧
          (W3.putObj (w.heap.size+1) (.loop (rec (if jump.isNone then .ready else .done) jump))).heap[w.heap.size+1]?=some (.loop (rec (if jump.isNone then .ready else .done) jump))∧
          (W3.putObj (w.heap.size+1) (.loop (rec (if jump.isNone then .ready else .done) jump))).heap[w.heap.size]?=some (.deferred (some [])):=fun jump W3 hk3=>by
        have hl3:=hk3.obj (by omega) hl2
        have:=run_endRound (P:=P) jump hl3
        rw [hrec] at this ⊢
        exact⟨this,World.putObj_heap_same (Array.getElem?_eq_some_iff.1 hl3).1,(World.putObj_heap_other (by omega)).trans (hk3.obj (Nat.le_refl _) hk2)⟩
      rintro e a3 W3 hp
      cases e with
      | normal=>
        obtain⟨hb3,hi3⟩:=hp
        obtain⟨hr,hl4,hk4⟩:=fin none W3 (KeepUp.of_below hb3)
        exact⟨_,_,hr,.inl ⟨rfl,⟨hI _ _ _ _ hi3 (Bg _ _ _) (.inr rfl),hl4,hk4⟩,Fd (Fd (Fd (Nd hbl) (Bg Wa _ _)) (Nd hb3)) (Bg W3 _ _)⟩⟩
      | ret=>
        obtain⟨hk3,hi3⟩:=hp
        obtain⟨hr,hl4,hk4⟩:=fin (some .ret) W3 hk3
        exact⟨_,_,hr,.inr ⟨rfl,hIx _ _ _ hi3 (Bg _ _ _),hl4,hk4⟩⟩
      | exit id=>exact hp.elim
      | goto t=>exact hp.elim
      | panic ch=>exact hp.elim
      | outgrown=>exact hp.elim
    · rintro e W2 ⟨⟨v,rfl⟩,(⟨hi,hl,hk⟩|⟨pre,hSp,hi,hl,hk⟩)⟩
      · exact⟨none,_,by have:=run_endLoop (P:=P) hl (by rw [hrec];simp);rw [hrec] at this;exact this,hdone _ (hI _ _ _ _ hi (Bg _ _ _) (.inr rfl)) ((World.putObj_heap_other (by omega)).trans hk)⟩
      · exact⟨some .ret,_,by have:=run_endLoop (P:=P) hl (by rw [hrec];simp);rw [hrec] at this;exact this,hstop pre _ hSp (hIx _ _ _ hi (Bg _ _ _)) ((World.putObj_heap_other (by omega)).trans hk)⟩
end Go.En
namespace Go.Proofs.YtjicdgejhkgpgaaGreatDoor
section
open Go.RowKit Go.En Go.Pv
def RunC (g : Lg) (ws : List Int) (id : Int) : Prop :=
  ∀(pv uv tv rv sv fv ev wv:Value) (bI bU:Nat) (w:World),bI≠bU→LangG (fun b=>b≠bU) w g pv uv tv rv sv fv ev→SlG (fun b=>b≠bU) w wv ws→Row w bI 3 [int id]→Row w bU 4 [.bool false]→
    Calls Tryz.prog 70 #[.agg #[pv,str g.oname,uv,tv,rv,int g.net.states,sv,fv,ev],wv,.func (.func 71) #[] #[.pointer (some ⟨bI,0,none⟩),.pointer (some ⟨bU,0,none⟩)] ] w (Rt fun _ w'=>Kx (fun b=>b=bU) w w'∧Row w' bU 4 [.bool (Dw g ws id)])
attribute [local irreducible] E EL K Val Enters Rt Calls bodyPost Code.wp RQ
theorem uses39_of_run {g:Lg} {ws:List Int} {id:Int} (hrun:RunC g ws id) (pv uv tv rv sv fv ev wv:Value) (w:World) (hg:LangG Tt w g pv uv tv rv sv fv ev) (hw:Sl w wv ws) :
    Calls Tryz.prog 39 #[.agg #[pv,str g.oname,uv,tv,rv,int g.net.states,sv,fv,ev],wv,int id] w (Rt fun u w'=>u=.bool (Dw g ws id)∧Ext w w'):=by
  refine A7 (n:=13) (args:=[.agg #[pv,str g.oname,uv,tv,rv,int g.net.states,sv,fv,ev],wv,int id]) Tryz.func39 rfl Tryz.ntmps39 (by simp) ?_
  refine Ac ?_
  refine A8 ?_
  refine Aj Z Z Z Z (fun bG wG xG hbG rG0=>?_)
  have rG:Row wG bG 37 [pv,str g.oname,uv,tv,rv,int g.net.states,sv,fv,ev]:=rG0
  clear rG0
  refine Aj Z Z Z Z (fun bI wI xI hbI rI0=>?_)
  have rI:Row wI bI 3 [int id]:=rI0
  clear rI0
  replace rG:=rG.ext xI
  have hX:=xG.trans xI
  have zG:=xG.size
  have zI:=xI.size
  have lG:=rG.lt
  have lI:=rI.lt
  (repeat' (first|refine Ap Z Z Z (fun bU wA xA hbU rA=>?_)|refine Sy ?_))
  refine Ah (cs:=[_]) rA xA (Nat.le_of_eq hbU.symm) Z Z Z Z Z Z Z Z (Nat.le_refl _) (fun wU rU0 xU kU=>?_)
  have rU:Row wU bU 4 [.bool false]:=rU0
  replace rG:=rG.ext xU
  replace rI:=rI.ext xU
  replace hX:=hX.trans xU
  (repeat' (first|refine eV Z Z (Dg (vs:=[.pointer (some ⟨bI,0,none⟩),.pointer (some ⟨bU,0,none⟩)]) Z Z) ?_|(refine A9 Z Z (A3 Z Z en70) (hrun pv uv tv rv sv fv ev wv bI bU _ (by omega) (hg.move fun b _ hlt=>⟨by omega,hX.block hlt⟩) (hw.move fun b _ hlt=>⟨by omega,hX.block hlt⟩) rI rU) (fun vC wC hC=>?_);obtain⟨kC,uC⟩:=hC)|refine Ly ?_))
  exact A5 Z Z ⟨rfl,kC.from hX (fun b hb e=>by omega)⟩
end
section
open Go.RowKit Go.En Go.Pv Go.MapKept
theorem Ma {P:Program} {n:Nat} {L:List (Nat × Value)} {w:World} {fn:Func} {S:Value→World→Prop} (hr:fn.results=#[]) (hs:S (.tuple #[]) w):K n (bodyPost P fn (Rt S)) .ret L w:=fun a ha=>
  ⟨ha.nod,.tuple #[],results_none hr _ _ _,_,rfl,hs⟩
theorem run_makeMapK {P:Program} {o:Oper} {t:TypeId} (ho:o.op=.makeMap t none) (ρ:Operand→Value) (w:World):(execOp ρ o).run P w=.ok (.value (.map (some w.heap.size))) (w.alloc (.map #[] 0)):=by
  simp [execOp,ho,Instr.makeMap,go_sem]
theorem RQ_makeMap {P:Program} {n:Nat} {Q:Post} {ops:List Oper} {w0:World} {o:Oper} {rest tl:List Oper} {G:List (Nat × Ent)} {d:Nat} {t:TypeId} (hg:ggst ops G o=some true) (hd:odst n o.dst=some d) (ho:o.op=.makeMap t none)
    (k:RQ P n ops w0 Q rest tl ((d,.r (fun u w=>∃ b,u=.map (some b)∧w0.heap.size≤b∧MapK (κ:=List UInt8) w b (fun _=>none)))::G)):RQ P n ops w0 Q (o::rest) tl G:=
  Jg (T:=.r (fun u w=>∃ b,u=.map (some b)∧w0.heap.size≤b∧MapK (κ:=List UInt8) w b (fun _=>none))) hg (Aw hd).2 (fun _ _ _ _ xe h=>by obtain⟨b,e,h1,h2⟩:=h;exact⟨b,e,h1,h2.ext xe⟩)
    (fun w _ hw _ ρ _=>.inl ⟨_,_,run_makeMapK ho ρ w,⟨w.heap.size,rfl,hw.size,⟨#[],0,(heap_alloc w _).1,stamped_empty 0,by simp,by simp⟩⟩,Bc _ _⟩) (by rw [(Aw hd).1];exact k)
attribute [local irreducible] E EL K Val Enters Rt Calls bodyPost Code.wp RQ
theorem run70_any {g:Lg} (hok:LangOK g) (hro:∀ r∈g.rules,RulOK r) (h185:SensC g.lex) (ws:List Int) (id:Int):RunC g ws id:=by
  intro pv uv tv rv sv fv ev wv bI bU w hne hg hw hI hU
  have hw0:=hw
  obtain⟨wa,wc,rfl,_,_,_⟩:=hw.sl
  refine A7 (n:=46) (args:=[.agg #[pv,str g.oname,uv,tv,rv,int g.net.states,sv,fv,ev],.slice wa ws.length wc,.func (.func 71) #[] #[.pointer (some ⟨bI,0,none⟩),.pointer (some ⟨bU,0,none⟩)] ]) Tryz.func70 rfl Tryz.ntmps70 (by simp) ?_
  refine Ac ?_
  refine A8 ?_
  refine Aj Z Z Z Z (fun bG wG xG hbG rG0=>?_)
  have rG:Row wG bG 37 [pv,str g.oname,uv,tv,rv,int g.net.states,sv,fv,ev]:=rG0
  clear rG0
  by_cases hsz:ws.length≠0∧ws.length≤24
  · (repeat' ((fail_if_success (refine Ac (x:=(Code.region 2 _ _)) ?_));first|refine Sy ?_|refine Dy (fun hh=>?_) fun hh=>?_))
    all_goals (try (exfalso;omega))
    have csh:=fun wz (hx:Ext w wz)=>Ok g.rules rv wz (hg.rules.ext hx).any
    (repeat' (first|refine E_dm (id:=2) 7 Aa (by kernel_rfl) Z ?_|refine RQ_makeMap Z Z Z ?_|refine An Z Z (fun _ _ _=>A3 Z Z en107) (fun wq xq=>csh wq (xG.trans xq)) ?_|(refine B8 (fun wq δ xq hR=>?_))|refine Sy ?_|refine yqY ?_|refine yqZ ?_))
    obtain⟨bT,eT,hgT,mT⟩:=hR 22 _ rfl
    refine eV Z Z (Af (vs:=[(0,.agg #[pv,str g.oname,uv,tv,rv,int g.net.states,sv,fv,ev]),(1,.slice wa ws.length wc),(2,.bool (shrB g.rules)),(4,.map (some bT)),(5,.func (.func 71) #[] #[.pointer (some ⟨bI,0,none⟩),.pointer (some ⟨bU,0,none⟩)])]) (srC g pv uv tv rv sv fv ev (.slice wa ws.length wc) (.map (some bT)) (.func (.func 71) #[] #[.pointer (some ⟨bI,0,none⟩),.pointer (some ⟨bU,0,none⟩)]) (shrB g.rules) 0) Z (by rw [← eT];rfl) Z) ?_
    refine Ao Z Z Z Z (fun bS wS xS hbS rS=>?_)
    have hfv:=hg.final
    have hfv0:=hfv
    obtain⟨fa,fc,rfl,_,_,hfp⟩:=hfv.sl
    have hXS:Ext w wS:=xG.trans (xq.trans xS)
    replace rG:=rG.ext (xq.trans xS)
    (repeat' (first|refine Ly ?_))
    obtain⟨fnv,hfn⟩:∃ v:Value,v=.func (.func 71) #[] #[.pointer (some ⟨bI,0,none⟩),.pointer (some ⟨bU,0,none⟩)]:=⟨_,rfl⟩
    refine Ae (ι:=Nat × Nat) (fun z=>[(6,.pointer (some ⟨bS,0,none⟩)),(28,.slice fa g.net.final.length fc),(29,int g.net.final.length),(30,int z.1)])
      (fun z wr=>z.1≤g.net.final.length∧Kx (fun b=>b=bS) wS wr∧Row wr bS 178 (srC g pv uv tv rv sv (.slice fa g.net.final.length fc) ev (.slice wa ws.length wc) (.map (some bT)) fnv (shrB g.rules) z.2)∧MaskIs z.2 (fun q=>(g.net.final.take z.1).contains q)) (fun z=>g.net.final.length-z.1) (0,0)
      ⟨rfl,rfl,rfl,rfl,trivial⟩ ⟨Nat.zero_le _,Kx.of_ext (Ext.refl _),by rw [hfn];exact rS,I1 Me (fun q=>by simp)⟩ ?_
    rintro⟨i,m⟩ wr ⟨hi,hk,hrow,hM⟩
    dsimp only at hi hk hrow hM ⊢
    have hrow0:=hrow
    unfold srC at hrow
    have hlT:=hM.lt
    have hbS2:w.heap.size≤bS:=by have:=xG.size;have:=xq.size;omega
    have hfr:=hfv0.move (G':=Tt) (fun b hb hlt=>⟨trivial,(hk.block b (Nat.lt_of_lt_of_le hlt hXS.size) (fun e=>by omega)).trans (hXS.block hlt)⟩)
    by_cases hlt:i<g.net.final.length
    · obtain⟨b,off,rfl⟩:=hfp (by omega)
      obtain⟨q,hqi⟩:∃ q,g.net.final[i]?=some q:=⟨_,List.getElem?_eq_getElem hlt⟩
      have hcq:=(Go.Pv.int_elem hfr hqi).one
      obtain⟨hq0,hq1⟩:=hok.net.final q (List.mem_of_getElem? hqi)
      obtain⟨t,rfl⟩:∃ t:Nat,q=(t:Int):=⟨q.toNat,by omega⟩
      have ht24:t<24:=by have:=hok.states;omega
      have h2t:2 ^ t<4294967296:=Nat.pow_lt_pow_right (by decide) (show t<32 by omega)
      (repeat' (first|refine E_dm (id:=6) 9 Aa (by kernel_rfl) Z ?_|refine yV Z Z (fun _ _ _=>val_shl32 (q:=t) Z Z Z (by omega)) ?_|refine yV Z Z (fun _ _ _=>val_or32 (a:=m) (b:=2 ^ t) Z Z Z hlT h2t) ?_|refine eV Z Z (A0 (m:=i) Z Z Z (by first|rfl|omega) (by omega)) ?_|(refine B8 (fun wq δ xq hR=>?_))|refine Ly ?_|refine Dy (fun hh=>?_) fun hh=>?_|refine yqY ?_|refine yqZ ?_))
      all_goals (try (exfalso;omega))
      refine Jh Z Z Z Z Z Z Z (hrow.ext xq) (Nat.le_of_ble_eq_true rfl) (fun wU rU kU _=>?_)
      have rU2:Row wU bS 178 (srC g pv uv tv rv sv (.slice (some ⟨b,off,none⟩) g.net.final.length fc) ev (.slice wa ws.length wc) (.map (some bT)) fnv (shrB g.rules) (m ||| 2 ^ t)):=rU
      refine Kv ?_
      (repeat' (first|refine Sy ?_))
      refine Ad (i+1,m ||| 2 ^ t) ⟨rfl,rfl,rfl,rfl,trivial⟩ ⟨by dsimp only;omega,(hk.trans (Kx.of_ext xq)).trans (Kx.of_kb kU rfl),rU2,I1 (mask_or hM ht24) (fun q=>by
        obtain⟨h1,h2⟩:=List.getElem?_eq_some_iff.1 hqi
        dsimp only
        rw [List.take_succ_eq_append_getElem h1,h2]
        simp;congr 1)⟩ (by dsimp only;omega)
    · obtain rfl:i=g.net.final.length:=by omega
      rw [List.take_length] at hM
      have hT1:=mT.lt
      have zq:=xq.size
      have zG:=xG.size
      have zS:=xS.size
      have hUl:=hU.lt
      have hIl:=hI.lt
      have hsame:∀ b,b<w.heap.size→wr.heap[b]?=w.heap[b]?:=fun b hlt=>(hk.block b (Nat.lt_of_lt_of_le hlt hXS.size) (fun e=>by omega)).trans (hXS.block hlt)
      have hmv:∀ b,b≠bU→b<w.heap.size→(b≠bT∧b≠bU)∧wr.heap[b]?=w.heap[b]?:=fun b hb hlt=>⟨⟨fun e=>by omega,hb⟩,hsame b hlt⟩
      have hsr:Srch g ws id pv uv tv rv sv _ ev (.slice wa ws.length wc) m bS bT bI bU wr:=
        ⟨by rw [← hfn];exact hrow0,⟨fun _=>none,(mT.ext xS).same (hk.block bT (Nat.lt_of_lt_of_le hT1 zS) (fun e=>by omega)),fun k v h=>by cases h⟩,
          hg.segs.move hmv,hg.rules.move hmv,hg.steps.move hmv,hg.lex.move hmv,hw0.move hmv,(hsame bI hIl).trans hI,(hsame bU hUl).trans hU,⟨by omega,by omega⟩,⟨by omega,hne⟩,by omega⟩
      have cw:=walk_all hok hro h185 (by omega:ws.length≤24) hM 4 [] (fun q=>q==0) 1 [] (.slice none 0 0) (.slice none 0 0) wr rfl (I1 (mask_or Me (t:=0) (by omega)) (fun q=>by simp)) (fun x hx=>by cases hx) (by simp) hsr SlG.nil SlG.nil
      have hu:Dw g ws id=(Go.Pv.hereB (lxOf g ws) ws id [] (fun q=>q==0) []||belB (lxOf g ws) ws id 4 [] (fun q=>q==0) []):=by
        unfold Dw
        rw [decide_eq_true hsz.1,decide_eq_true hsz.2]
        simp [Go.Pv.hereB]
      rw [← hu] at cw
      (repeat' (first|(refine A9 Z Z (A3 Z Z en108) cw (fun vC w7 hC=>?_);obtain⟨_,k7,t7,u7⟩:=hC)|refine Sy ?_|refine Dy (fun hh=>?_) fun hh=>?_))
      all_goals (try (exfalso;omega))
      refine ret_n ?_
      exact Ma Z ⟨⟨k7.os.trans (hk.os.trans (Below.os hXS)),k7.tape.trans (hk.tape.trans (Below.tape hXS)),k7.output.trans (hk.output.trans (Below.output hXS)),Nat.le_trans hXS.size (Nat.le_trans hk.size k7.size),
        fun b hlt hn => (k7.block b (by have := hk.size; have := hXS.size; omega) (fun h => by rcases h with h | h; · omega
                                                                                               · exact hn h)).trans (hsame b hlt)⟩,u7⟩
  · have hf:Dw g ws id=false:=by
      unfold Dw
      have:(decide (ws.length≠0)&&decide (ws.length≤24))=false:=by
        cases h:(decide (ws.length≠0)&&decide (ws.length≤24)) with
        | false=>rfl
        | true=>rw [Bool.and_eq_true,decide_eq_true_eq,decide_eq_true_eq] at h;exact absurd h hsz
      rw [this,Bool.false_and]
    rw [hf]
    (repeat' ((fail_if_success (refine Ac (x:=(Code.region 2 _ _)) ?_));first|refine Sy ?_|refine Dy (fun hh=>?_) fun hh=>?_))
    all_goals (try (exfalso;omega))
    all_goals exact Ma Z ⟨Kx.of_ext xG,hU.ext xG⟩
end
end Go.Proofs.YtjicdgejhkgpgaaGreatDoor