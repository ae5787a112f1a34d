/- Own text. -/
import Derived.Test.YtojadfppncgphaaGreatDoorQYu
set_option linter.all false
set_option maxHeartbeats 4000000
set_option maxRecDepth 8000
namespace Go.Proofs.YtojadfppncgphaaGreatDoor
open Go.RowKit Go.En Go.Dl Go.Tp
attribute [local irreducible] E EL K Val Enters Rt Calls bodyPost Code.wp RQ
theorem B8y (e:Entr)(X:List Value)(id:Int)(bI:Nat)(w:World)(h:Rep.at_ Tt w e X)(hI:w.cell? ⟨bI,0,none⟩=some (int id)):Calls Tryz.prog 127 #[.agg X.toArray,.pointer (some ⟨bI,0,none⟩)] w (Rt fun u w'=>u=.bool (decide (e.id=id))∧Ext w w'):=by
 obtain⟨a0,c0,a1,c1,a2,c2,a3,c3,a4,c4,rfl,_⟩:=A4r h
 refine G3 (n:=8) (args:=[.agg #[int e.id,.slice a0 e.form.length c0,int e.cls,.slice a1 e.alts.length c1,int e.main,.slice a2 e.senses.length c2,.slice a3 e.links.length c3,.slice a4 e.refs.length c4],.pointer (some ⟨bI,0,none⟩)]) Tryz.func127 rfl Tryz.ntmps127 (by simp) ?_
 have hX:=Ext.refl w
 have hcI:=hI
 by_cases he:e.id=id
 ·rw [decide_eq_true he]
  (repeat' (first|(refine A5a Z Z Z Z (fun bX wX xX hbX rX=>?_);replace hX:=hX.trans xX;replace hcI:=Ext.cell xX hcI)|refine Ly ?_|refine Dy (fun hh=>?_) fun hh=>?_))
  all_goals (try (exfalso;omega))
  all_goals first
   | exact Q1 Z Z ⟨rfl,hX⟩
   | exact absurd he (by assumption)
 ·rw [decide_eq_false he]
  (repeat' (first|(refine A5a Z Z Z Z (fun bX wX xX hbX rX=>?_);replace hX:=hX.trans xX;replace hcI:=Ext.cell xX hcI)|refine Ly ?_|refine Dy (fun hh=>?_) fun hh=>?_))
  all_goals (try (exfalso;omega))
  all_goals first
   | exact Q1 Z Z ⟨rfl,hX⟩
   | exact absurd (by assumption) he
theorem A4k (lex:List Entr)(id:Int)(bI:Nat)(v:Value)(w:World)(hv:Sl w v lex)(hI:w.cell? ⟨bI,0,none⟩=some (int id)):Calls Tryz.prog 126 #[v,.func (.func 127) #[] #[.pointer (some ⟨bI,0,none⟩)] ] w (Rt fun u w'=>u=int (idxE lex id)∧Ext w w'):=by
 have hv0:=hv
 have hcI:=hI
 obtain⟨a,cap,rfl,hc,hm,hp⟩:=hv.sl
 refine G3 (n:=19) (args:=[.slice a lex.length cap,.func (.func 127) #[] #[.pointer (some ⟨bI,0,none⟩)] ]) Tryz.func126 rfl Tryz.ntmps126 (by simp) ?_
 (repeat' (first|refine Sy ?_|fail))
 refine A0e (ι:=Nat) (fun i=>[(0,.slice a lex.length cap),(1,.func (.func 127) #[] #[.pointer (some ⟨bI,0,none⟩)]),(7,int lex.length),(8,int i)])
  (fun i wr=>i≤lex.length∧Ext w wr∧∀(j:Nat) (y:Entr),j<i→lex[j]?=some y→y.id≠id) (fun i=>lex.length-i) 0
  ⟨rfl,rfl,rfl,rfl,trivial⟩ ⟨Nat.zero_le _,Ext.refl _,fun j y hj=>absurd hj (by omega)⟩ ?_
 rintro i wr ⟨hi,hx,hno⟩
 replace hv0:=hv0.ext hx;replace hcI:=Ext.cell hx hcI
 by_cases hlt:i<lex.length
 ·obtain⟨b,off,rfl⟩:=hp (by omega)
  obtain⟨x,hx1⟩:∃ x,lex[i]?=some x:=⟨_,List.getElem?_eq_getElem hlt⟩
  obtain⟨d0,f0,d1,f1,d2,f2,d3,f3,d4,f4,hat,hrep⟩:=C4p hv0 hx1
  have cF:=B8y x _ id bI wr hrep hcI
  by_cases hid:x.id=id
  ·rw [decide_eq_true hid] at cF
   rw [B8s hx1 hid hno]
   (repeat' (first|refine eV Z Z (B7 (m:=i) Z Z Z (by first|rfl|omega) (by omega)) ?_|(refine D7 Z Z (A1z (cap:=[.pointer (some ⟨bI,0,none⟩)]) Z Z Z C4y) cF (fun vC wC hC=>?_);obtain⟨rfl,xC⟩:=hC;replace hx:=hx.trans xC)|refine Ly ?_|refine Dy (fun hh=>?_) fun hh=>?_))
   all_goals (try (exfalso;omega))
   exact Q1 Z Z ⟨rfl,hx⟩
  ·rw [decide_eq_false hid] at cF
   (repeat' (first|refine eV Z Z (B7 (m:=i) Z Z Z (by first|rfl|omega) (by omega)) ?_|(refine D7 Z Z (A1z (cap:=[.pointer (some ⟨bI,0,none⟩)]) Z Z Z C4y) cF (fun vC wC hC=>?_);obtain⟨rfl,xC⟩:=hC;replace hx:=hx.trans xC)|refine Ly ?_|refine Dy (fun hh=>?_) fun hh=>?_))
   all_goals (try (exfalso;omega))
   refine A2q (i+1) ⟨rfl,rfl,rfl,rfl,trivial⟩ ⟨by omega,hx,fun j y hj hy=>?_⟩ (by omega)
   by_cases e:j=i
   ·subst e;rw [hx1] at hy;cases hy;exact hid
   ·exact hno j y (by omega) hy
 ·rw [D7k (fun j y hj hy=>hno j y (by omega) hy)]
  (repeat' (first|refine Sy ?_|refine Dy (fun hh=>?_) fun hh=>?_))
  all_goals (try (exfalso;omega))
  exact Q1 Z Z ⟨rfl,hx⟩
theorem C6s {G:Nat→Prop}(lex:List Entr)(id:Int)(ev:Value)(w:World)(hv:SlG G w ev lex) :
  ∃ X:List Value,Rep.at_ G w (entD lex id) X∧∀ w',Ext w w'→Calls Tryz.prog 49 #[ev,int id] w' (Rt fun u w2=>u=.tuple #[.agg X.toArray,.bool (getE lex id).isSome]∧Ext w' w2):=by
 have hv0:=hv
 obtain⟨a,cap,rfl,hc,hm,hp⟩:=hv.sl
 cases hg:getE lex id with
 | none=>
  refine⟨B6h,by unfold entD;rw [hg];exact C7l w,fun w' xw=>?_⟩
  refine G3 (n:=17) (args:=[.slice a lex.length cap,int id]) Tryz.func49 rfl Tryz.ntmps49 (by simp) ?_
  refine J2 ?_
  refine H8 ?_
  refine O9 Z Z Z Z (fun bI wI xI hbI rI0=>?_)
  have rI:Row wI bI 3 [int id]:=rI0
  clear rI0
  refine J4 Z Z Z (fun bA wA xA hbA rA=>?_)
  replace rI:=rI.ext xA
  have hX:=xI.trans xA
  have hwB:w'.heap.size≤bA:=by have:=xI.size;omega
  have ci:=A4k lex id bI _ wA (SlG.ext hv0 (xw.trans hX)).any (rI.cellAt (j:=0) rfl)
  rw [B8r hg] at ci
  (repeat' (first|refine eV Z Z (J5 (vs:=[.pointer (some ⟨bI,0,none⟩)]) Z Z) ?_|(refine cqC ci C4z fun wC xC=>?_;replace hX:=hX.trans xC;replace rA:=rA.ext xC)|refine eV Z Z (B1g (vs:=[]) B6h rfl rfl rfl) ?_|(refine J3 (cs:=B6h) rA hX hwB rfl rfl rfl rfl rfl rfl rfl rfl (Nat.le_refl _) (fun w9 r9 x9 k9=>?_))|refine Sy ?_|refine Dy (fun hh=>?_) fun hh=>?_))
  all_goals (try (exfalso;omega))
  exact C8p Z Z Z r9.at rfl rfl ⟨rfl,x9⟩
 | some e=>
  obtain⟨q,hq,hqe⟩:=D0z hg
  have hql:=(List.getElem?_eq_some_iff.1 hqe).1
  obtain⟨b,off,rfl⟩:=hp (by omega)
  obtain⟨d0,f0,d1,f1,d2,f2,d3,f3,d4,f4,hat,hrep⟩:=C4p hv0 hqe
  refine⟨_,by unfold entD;rw [hg];exact hrep,fun w' xw=>?_⟩
  refine G3 (n:=17) (args:=[.slice (some ⟨b,off,none⟩) lex.length cap,int id]) Tryz.func49 rfl Tryz.ntmps49 (by simp) ?_
  refine J2 ?_
  refine H8 ?_
  refine O9 Z Z Z Z (fun bI wI xI hbI rI0=>?_)
  have rI:Row wI bI 3 [int id]:=rI0
  clear rI0
  refine J4 Z Z Z (fun bA wA xA hbA rA=>?_)
  replace rI:=rI.ext xA
  have hX:=xI.trans xA
  replace hat:=hat.ext (xw.trans hX)
  have hwB:w'.heap.size≤bA:=by have:=xI.size;omega
  have ci:=A4k lex id bI _ wA (SlG.ext hv0 (xw.trans hX)).any (rI.cellAt (j:=0) rfl)
  rw [hq] at ci
  (repeat' (first|refine eV Z Z (J5 (vs:=[.pointer (some ⟨bI,0,none⟩)]) Z Z) ?_|(refine cqC ci C4z fun wC xC=>?_;replace hX:=hX.trans xC;replace rA:=rA.ext xC;replace hat:=hat.ext xC)|refine eV Z Z (B7 (m:=q) Z Z Z (by first|rfl|omega) (by omega)) ?_|(refine J3 (cs:=[_,_,_,_,_,_,_,_]) rA hX hwB rfl rfl rfl rfl rfl rfl rfl rfl (Nat.le_refl _) (fun w9 r9 x9 k9=>?_))|refine Ly ?_|refine Dy (fun hh=>?_) fun hh=>?_))
  all_goals (try (exfalso;omega))
  exact C8p Z Z Z r9.at rfl rfl ⟨rfl,x9⟩
end Go.Proofs.YtojadfppncgphaaGreatDoor
namespace Go.En
open Go Go.RowKit
variable {F : Fence}{n : Nat}{P : Program}
def SeqX (F : Fence)(n : Nat)(P : Program)(g : Nat)(lb : Array Value)(encs : Int → Array Value)(zs : List Int)(Bid B : Nat)(w : World) : Prop :=
 ∀(l:Nat) (J Jx:List Int→World→Prop) (W:World),B≤l→l<W.heap.size→Below B w W→(∀ s A C,J s A→A.grownBy C (some Bid)→J s C)→
  (∀ pre x W1,J pre W1→pre++[x] <+: zs→YieldAt F (n-1) P l (encs x) W1 fun e W'=>
   (e=.returned (.bool true)∧J (pre++[x]) W'∧W1.grownBy W' (some l))∨(e=.returned (.bool false)∧Jx (pre++[x]) W'))→
  J [] W→
  CallsIn F n P g (#[.func (.yield l) #[] #[]]++lb) W fun e W'=>(∃ v,e=.returned v)∧(J zs W'∨∃ pre,pre <+: zs∧Jx pre W')
structure KeepUp (B:Nat)(W W':World):Prop where
 size:W.heap.size≤W'.heap.size
 same:∀(k:Nat),B≤k→k<W.heap.size→W'.heap[k]?=W.heap[k]?
theorem KeepUp.obj {B k:Nat}{o:Obj}{W W':World}(h:KeepUp B W W')(hk:B≤k)(ho:W.heap[k]?=some o):W'.heap[k]?=some o:=(h.same k hk (Array.getElem?_eq_some_iff.1 ho).1).trans ho
theorem KeepUp.of_below {B:Nat}{W W':World}(h:Below W.heap.size W W'):KeepUp B W W':=⟨h.size,fun k _ hk=>h.block k hk⟩
theorem KeepUp.trans {B:Nat}{X Y Zq:World}(h:KeepUp B X Y)(k:KeepUp B Y Zq):KeepUp B X Zq:=⟨Nat.le_trans h.size k.size,fun i hB hi=>(k.same i hB (Nat.lt_of_lt_of_le hi h.size)).trans (h.same i hB hi)⟩
def D9g (B:Nat)(I Ix:List Int→World→Prop)(xs:List Int)(W:World):Exit→Act→World→Prop
 | .normal,_,W'=>Below W.heap.size W W'∧I xs W'
 | .ret,_,W'=>KeepUp B W W'∧Ix xs W'
 | .exit _,_,_=>False
 | .goto _,_,_=>False
 | .panic _,_,_=>False
 | .outgrown,_,_=>False
theorem C7 (W:World)(l:Nat)(o:Obj):W.grownBy (W.putObj l o) (some l):=grownBy_putObj' W l o
theorem A6s {W W':World}{r:Nat}(h:Below W.heap.size W W'):W.grownBy W' (some r):=⟨h.os,h.tape,h.output,h.size,fun k hk _=>h.block k hk⟩
theorem W8 {A B C:World}{r:Nat}(h:A.grownBy B (some r))(k:B.grownBy C (some r)):A.grownBy C (some r):=
 ⟨k.os.trans h.os,k.tape.trans h.tape,k.output.trans h.output,Nat.le_trans h.size k.size,fun i hi hne=>(k.block i (Nat.lt_of_lt_of_le hi h.size) hne).trans (h.block i hi hne)⟩
theorem A5b {g:Operand}{ps:Array Tmp}{assign body:Code}{Q:Exit→Act→World→Prop}{a:Act}{w:World}
  (hro:F.round=none) (h1:1≤n) {gf:Nat} {lb:Array Value} (hg:a.eval g=.func (.func gf) #[] lb) (hFg:F.fn gf) (eg:∀ args w,(callFunc gf args).run P w=.ok (.enter gf args) w)
  {encs:Int→Array Value} {zs:List Int} {Bid:Nat} (hBid:Bid<w.heap.size) (hseq:SeqX F (n-1) P gf lb encs zs Bid w.heap.size w) (hps:∀ x,(encs x).size=ps.size)
  (I Ix:List Int→World→Prop) (hI:∀ s A C r,I s A→A.grownBy C (some r)→(r=Bid∨r=w.heap.size+1)→I s C) (hIx:∀ s A C,Ix s A→A.grownBy C (some (w.heap.size+1))→Ix s C) (h0:I [] w)
  (Ax:Int→Act→World→Prop) (hAx:∀ x a' A C,Ax x a' A→A.grownBy C (some (w.heap.size+1))→Ax x a' C)
  (hassign:∀(l:Nat) (pre:List Int) (x:Int) (W:World) (K:Act→World→Prop),w.heap.size+2≤W.heap.size→I pre W→pre++[x] <+: zs→(∀ a' W',Below W.heap.size W W'→I pre W'→Ax x a' W'→K a' W')→
   assign.wpIn (F.inRound l) (n-1-1) P (Exit.then K (fun _ _ _=>False)) { tmps:=(ps.zip (encs x)).foldl (fun t (p,v)=>t.setIfInBounds p v) a.tmps,defers:=[] } W)
  (hbody:∀(l:Nat) (pre:List Int) (x:Int) (a':Act) (W:World),w.heap.size+2≤W.heap.size→I pre W→Ax x a' W→pre++[x] <+: zs→body.wpIn (F.inRound l) (n-1-1) P (D9g w.heap.size I Ix (pre++[x]) W) a' W)
  (hdone:∀(W:World),I zs W→W.heap[w.heap.size]?=some (.deferred (some []))→Q .normal { a with defers:={ target:=.collected w.heap.size,args:=#[] }::a.defers } W)
  (hstop:∀(pre:List Int) (W:World),pre <+: zs→Ix pre W→W.heap[w.heap.size]?=some (.deferred (some []))→Code.ret.wpIn F n P Q { a with defers:={ target:=.collected w.heap.size,args:=#[] }::a.defers } W) :
  (Code.rangeFunc g ps assign body).wpIn F n P Q a w:=by
 refine wpIn_rangeFunc ?_
 intro fn hfn
 rw [hro]
 obtain⟨rec,hrec⟩:∃ rec:LoopState→Option Code→Loop,rec=fun st pe=>{ state:=st,pending:=pe,fn,tmps:=a.tmps,params:=ps,assign,body,defers:=w.heap.size }:=⟨_,rfl⟩
 obtain⟨W1,hW1⟩:∃ W1,(w.alloc (.deferred (some []))).alloc (.loop (rec .ready none))=W1:=⟨_,rfl⟩
 have hL1:W1.heap[w.heap.size+1]?=some (.loop (rec .ready none)):=by
  rw [← hW1];have:=World.alloc_heap_new (w.alloc (.deferred (some []))) (.loop (rec .ready none));rwa [World.size_alloc] at this
 have hK1:W1.heap[w.heap.size]?=some (.deferred (some [])):=by
  rw [← hW1];exact(Below.heap_alloc _ _ _ (by simp)).trans (World.alloc_heap_new w _)
 have hI1:I [] W1:=by
  rw [← hW1]
  exact hI _ _ _ Bid (hI _ _ _ Bid h0 (World.grownBy_alloc w _ _) (.inl rfl)) (World.grownBy_alloc _ _ _) (.inl rfl)
 have hb1:Below w.heap.size w W1:=by
  rw [← hW1];exact((Below.refl _ w).alloc (Nat.le_refl _) _).alloc (by simp) _
 refine⟨w.heap.size+1,[{ target:=.collected w.heap.size,args:=#[] }],W1,{ target:=.fn (.func gf) lb,args:=#[.func (.yield (w.heap.size+1)) #[] #[]] },W1,gf,
  #[.func (.yield (w.heap.size+1)) #[] #[]]++lb,W1,?_,?_,?_,?_,fun _=>h1,?_⟩
 ·rw [← hW1,hrec];exact run_enterLoop_outer _ _ _ _ _
 ·simp only [resolve,hg]
  simp [go_sem]
 ·intro f' hf';simp [Target.leads] at hf';subst hf';exact hFg
 ·simp [invoke,go_sem,eg]
 ·refine(hseq (w.heap.size+1)
   (fun pre W=>I pre W∧W.heap[w.heap.size+1]?=some (.loop (rec .ready none))∧W.heap[w.heap.size]?=some (.deferred (some [])))
   (fun pre W=>Ix pre W∧W.heap[w.heap.size+1]?=some (.loop (rec .done (some .ret)))∧W.heap[w.heap.size]?=some (.deferred (some [])))
   W1 (by omega) (Array.getElem?_eq_some_iff.1 hL1).1 hb1
   (fun s A C hs hg'=>⟨hI s A C Bid hs.1 hg' (.inl rfl),(hg'.block _ (Array.getElem?_eq_some_iff.1 hs.2.1).1 (fun e=>by cases e;omega)).trans hs.2.1,(hg'.block _ (Array.getElem?_eq_some_iff.1 hs.2.2).1 (fun e=>by cases e;omega)).trans hs.2.2⟩)
   ?_ ⟨hI1,hL1,hK1⟩).mono ?_
  ·rintro pre x W ⟨hi,hl,hk⟩ hpre
   have hlt:w.heap.size+1<W.heap.size:=(Array.getElem?_eq_some_iff.1 hl).1
   have hy:=run_yield (P:=P) (args:=encs x) hl (by rw [hrec];exact hps x)
   rw [hrec] at hy
   refine⟨fn,_,assign,body,hy,roundIn_of_wpIn hfn (hassign _ pre x W _ (by omega) hi hpre ?_)⟩
   clear hy
   intro a' Wa hbl hia hax
   have hku:=KeepUp.of_below (B:=w.heap.size) hbl
   replace hl:=hku.obj (by omega) hl
   replace hk:=hku.obj (Nat.le_refl _) hk
   replace hlt:w.heap.size+1<Wa.heap.size:=(Array.getElem?_eq_some_iff.1 hl).1
   refine⟨_,run_beginRound hl (by rw [hrec]),?_⟩
   have hl2:(Wa.putObj (w.heap.size+1) (.loop { rec .ready none with state:=.busy })).heap[w.heap.size+1]?=some (.loop { rec .ready none with state:=.busy }):=World.putObj_heap_same hlt
   have hk2:(Wa.putObj (w.heap.size+1) (.loop { rec .ready none with state:=.busy })).heap[w.heap.size]?=some (.deferred (some [])):=(World.putObj_heap_other (by omega)).trans hk
   refine wpIn_mono (hbody _ pre x a' _ (by simp;omega) (hI _ _ _ _ hia (C7 _ _ _) (.inr rfl)) (hAx _ _ _ _ hax (C7 _ _ _)) hpre) ?_
   have fin:∀(jump:Option Code) (W3:World),KeepUp w.heap.size (Wa.putObj (w.heap.size+1) (.loop { rec .ready none with state:=.busy })) W3→
     (Instr.endRound (w.heap.size+1) jump).run P W3=.ok (.bool jump.isNone) (W3.putObj (w.heap.size+1) (.loop (rec (if jump.isNone then .ready else .done) jump)))∧
     (W3.putObj (w.heap.size+1) (.loop (rec (if jump.isNone then .ready else .done) jump))).heap[w.heap.size+1]?=some (.loop (rec (if jump.isNone then .ready else .done) jump))∧
     (W3.putObj (w.heap.size+1) (.loop (rec (if jump.isNone then .ready else .done) jump))).heap[w.heap.size]?=some (.deferred (some [])):=fun jump W3 hk3=>by
    have hl3:=hk3.obj (by omega) hl2
    have:=run_endRound (P:=P) jump hl3
    rw [hrec] at this ⊢
    exact⟨this,World.putObj_heap_same (Array.getElem?_eq_some_iff.1 hl3).1,(World.putObj_heap_other (by omega)).trans (hk3.obj (Nat.le_refl _) hk2)⟩
   rintro e a3 W3 hp
   cases e with
   | normal=>
    obtain⟨hb3,hi3⟩:=hp
    obtain⟨hr,hl4,hk4⟩:=fin none W3 (KeepUp.of_below hb3)
    exact⟨_,_,hr,.inl ⟨rfl,⟨hI _ _ _ _ hi3 (C7 _ _ _) (.inr rfl),hl4,hk4⟩,W8 (W8 (W8 (A6s hbl) (C7 Wa _ _)) (A6s hb3)) (C7 W3 _ _)⟩⟩
   | ret=>
    obtain⟨hk3,hi3⟩:=hp
    obtain⟨hr,hl4,hk4⟩:=fin (some .ret) W3 hk3
    exact⟨_,_,hr,.inr ⟨rfl,hIx _ _ _ hi3 (C7 _ _ _),hl4,hk4⟩⟩
   | exit id=>exact hp.elim
   | goto t=>exact hp.elim
   | panic ch=>exact hp.elim
   | outgrown=>exact hp.elim
  ·rintro e W2 ⟨⟨v,rfl⟩,(⟨hi,hl,hk⟩|⟨pre,hSp,hi,hl,hk⟩)⟩
   ·exact⟨none,_,by have:=run_endLoop (P:=P) hl (by rw [hrec];simp);rw [hrec] at this;exact this,hdone _ (hI _ _ _ _ hi (C7 _ _ _) (.inr rfl)) ((World.putObj_heap_other (by omega)).trans hk)⟩
   ·exact⟨some .ret,_,by have:=run_endLoop (P:=P) hl (by rw [hrec];simp);rw [hrec] at this;exact this,hstop pre _ hSp (hIx _ _ _ hi (C7 _ _ _)) ((World.putObj_heap_other (by omega)).trans hk)⟩
end Go.En
namespace Go.En
open Go Go.RowKit
structure Kz (T:Nat→Prop)(A C:World):Prop where
 os:C.os=A.os
 tape:C.tape=A.tape
 output:C.output=A.output
 size:A.heap.size≤C.heap.size
 same:∀ k,k<A.heap.size→¬ T k→C.heap[k]?=A.heap[k]?
theorem Kz.trans {T:Nat→Prop}{A B C:World}(h:Kz T A B)(k:Kz T B C):Kz T A C:=
 ⟨k.os.trans h.os,k.tape.trans h.tape,k.output.trans h.output,Nat.le_trans h.size k.size,fun i hi hT=>(k.same i (Nat.lt_of_lt_of_le hi h.size) hT).trans (h.same i hi hT)⟩
theorem Kz.mono {T T':Nat→Prop}{A C:World}(h:Kz T A C)(hT:∀ k,T k→T' k):Kz T' A C:=⟨h.os,h.tape,h.output,h.size,fun i hi h'=>h.same i hi fun e=>h' (hT i e)⟩
theorem Kz.refl (T:Nat→Prop)(A:World):Kz T A A:=⟨rfl,rfl,rfl,Nat.le_refl _,fun _ _ _=>rfl⟩
theorem Kz.of_ext {T:Nat→Prop}{A C:World}(h:Ext A C):Kz T A C:=⟨h.os,h.tape,h.output,h.size,fun _ hi _=>h.block hi⟩
theorem Kz.of_grown {T:Nat→Prop}{A C:World}{r:Nat}(h:A.grownBy C (some r))(hr:T r):Kz T A C:=⟨h.os,h.tape,h.output,h.size,fun k hk hT=>h.block k hk (fun e=>by cases e;exact hT hr)⟩
theorem Kz.obj {T:Nat→Prop}{k:Nat}{o:Obj}{W W':World}(h:Kz T W W')(hk:¬ T k)(ho:W.heap[k]?=some o):W'.heap[k]?=some o:=(h.same k (Array.getElem?_eq_some_iff.1 ho).1 hk).trans ho
theorem Kz.row {T:Nat→Prop}{W W':World}{b:Nat}{t:TypeId}{cs:List Value}(h:Kz T W W')(hb:¬ T b)(hr:Row W b t cs):Row W' b t cs:=(h.same b hr.lt hb).trans hr
theorem Kz.ext {T:Nat→Prop}{w A C:World}(h:Kz T A C)(hx:Ext w A)(hT:∀ k,T k→w.heap.size≤k):Ext w C:=
 ⟨h.os.trans hx.os,h.tape.trans hx.tape,h.output.trans hx.output,Nat.le_trans hx.size h.size,fun k hk=>(h.same k (Nat.lt_of_lt_of_le hk hx.size) (fun e=>by have:=hT k e;omega)).trans (hx.block hk)⟩
def SeqZ (T : Nat → Prop)(n : Nat)(P : Program)(g : Nat)(lb : Array Value)(encs : Int → Array Value)(zs : List Int)(w : World) : Prop :=
 ∀(l:Nat) (J Jx:List Int→World→Prop) (W:World),w.heap.size≤l→l<W.heap.size→Ext w W→(∀ s A C,J s A→Kz (fun k=>W.heap.size≤k) A C→J s C)→(∀ s A C,Jx s A→Kz (fun k=>W.heap.size≤k) A C→Jx s C)→
  (∀ pre x W1,J pre W1→pre++[x] <+: zs→YieldAt Fence.wide (n-1) P l (encs x) W1 fun e W'=>
   (e=.returned (.bool true)∧J (pre++[x]) W'∧Kz (fun k=>k=l∨T k) W1 W')∨(e=.returned (.bool false)∧Jx (pre++[x]) W'∧Kz (fun k=>k=l∨T k) W1 W'))→
  J [] W→
  CallsIn Fence.wide n P g (#[.func (.yield l) #[] #[]]++lb) W fun e W'=>(∃ v,e=.returned v)∧(J zs W'∨∃ pre,pre <+: zs∧Jx pre W')
def B7r (T:Nat→Prop)(I Ix:List Int→World→Prop)(xs:List Int)(W:World):Exit→Act→World→Prop
 | .normal,_,W'=>Kz T W W'∧I xs W'
 | .ret,_,W'=>Kz T W W'∧Ix xs W'
 | .exit _,_,_=>False
 | .goto _,_,_=>False
 | .panic _,_,_=>False
 | .outgrown,_,_=>False
theorem Kz.step {T T':Nat→Prop}{w A C:World}(h:Kz T w A)(k:Kz T' A C)(hT:∀ i,T' i→w.heap.size≤i):Kz T w C:=
 ⟨k.os.trans h.os,k.tape.trans h.tape,k.output.trans h.output,Nat.le_trans h.size k.size,fun i hi hn=>(k.same i (Nat.lt_of_lt_of_le hi h.size) (fun e=>by have:=hT i e;omega)).trans (h.same i hi hn)⟩
theorem S9 (W:World)(l:Nat)(o:Obj):Kz (fun k=>k=l) W (W.putObj l o):=Kz.of_grown (C7 W l o) rfl
theorem X0 {P : Program}{n : Nat}{g : Operand}{ps : Array Tmp}{assign body : Code}{Q : Exit → Act → World → Prop}{a : Act}{w : World}
  (h1:1≤n) {gf:Nat} {lb:Array Value} (hg:a.eval g=.func (.func gf) #[] lb) (eg:∀ args w,(callFunc gf args).run P w=.ok (.enter gf args) w)
  {encs:Int→Array Value} {zs:List Int} {T:Nat→Prop} (hT:∀ k,T k→k<w.heap.size) (hseq:SeqZ T (n-1) P gf lb encs zs w) (hps:∀ x,(encs x).size=ps.size)
  (I Ix:List Int→World→Prop) (hI:∀ s A C,I s A→Kz (fun k=>w.heap.size≤k) A C→I s C) (hIx:∀ s A C,Ix s A→Kz (fun k=>w.heap.size≤k) A C→Ix s C) (h0:I [] w)
  (Ax:Int→Act→World→Prop) (hAx:∀ x a' A C,Ax x a' A→Kz (fun k=>k=w.heap.size+1) A C→Ax x a' C)
  (hassign:∀(l:Nat) (pre:List Int) (x:Int) (W:World) (K:Act→World→Prop),w.heap.size+2≤W.heap.size→I pre W→pre++[x] <+: zs→(∀ a' W',Ext W W'→I pre W'→Ax x a' W'→K a' W')→
   assign.wpIn (Fence.wide.inRound l) (n-1-1) P (Exit.then K (fun _ _ _=>False)) { tmps:=(ps.zip (encs x)).foldl (fun t (p,v)=>t.setIfInBounds p v) a.tmps,defers:=[] } W)
  (hbody:∀(l:Nat) (pre:List Int) (x:Int) (a':Act) (W:World),w.heap.size+2≤W.heap.size→I pre W→Ax x a' W→pre++[x] <+: zs→body.wpIn (Fence.wide.inRound l) (n-1-1) P (B7r T I Ix (pre++[x]) W) a' W)
  (hdone:∀(W:World),I zs W→W.heap[w.heap.size]?=some (.deferred (some []))→Q .normal { a with defers:={ target:=.collected w.heap.size,args:=#[] }::a.defers } W)
  (hstop:∀(pre:List Int) (W:World),pre <+: zs→Ix pre W→W.heap[w.heap.size]?=some (.deferred (some []))→Code.ret.wpIn Fence.wide n P Q { a with defers:={ target:=.collected w.heap.size,args:=#[] }::a.defers } W) :
  (Code.rangeFunc g ps assign body).wpIn Fence.wide n P Q a w:=by
 refine wpIn_rangeFunc ?_
 intro fn hfn
 have hro:Fence.wide.round=none:=rfl
 rw [hro]
 obtain⟨rec,hrec⟩:∃ rec:LoopState→Option Code→Loop,rec=fun st pe=>{ state:=st,pending:=pe,fn,tmps:=a.tmps,params:=ps,assign,body,defers:=w.heap.size }:=⟨_,rfl⟩
 obtain⟨W1,hW1⟩:∃ W1,(w.alloc (.deferred (some []))).alloc (.loop (rec .ready none))=W1:=⟨_,rfl⟩
 have hL1:W1.heap[w.heap.size+1]?=some (.loop (rec .ready none)):=by
  rw [← hW1];have:=World.alloc_heap_new (w.alloc (.deferred (some []))) (.loop (rec .ready none));rwa [World.size_alloc] at this
 have hK1:W1.heap[w.heap.size]?=some (.deferred (some [])):=by
  rw [← hW1];exact(Below.heap_alloc _ _ _ (by simp)).trans (World.alloc_heap_new w _)
 have hxW:Ext w W1:=by
  rw [← hW1];exact((Below.refl _ w).alloc (Nat.le_refl _) _).alloc (by simp) _
 have hI1:I [] W1:=hI _ _ _ h0 (Kz.of_ext hxW)
 refine⟨w.heap.size+1,[{ target:=.collected w.heap.size,args:=#[] }],W1,{ target:=.fn (.func gf) lb,args:=#[.func (.yield (w.heap.size+1)) #[] #[]] },W1,gf,
  #[.func (.yield (w.heap.size+1)) #[] #[]]++lb,W1,?_,?_,?_,?_,fun _=>h1,?_⟩
 ·rw [← hW1,hrec];exact run_enterLoop_outer _ _ _ _ _
 ·simp only [resolve,hg]
  simp [go_sem]
 ·intro f' hf';trivial
 ·simp [invoke,go_sem,eg]
 ·have hs1:w.heap.size+1<W1.heap.size:=(Array.getElem?_eq_some_iff.1 hL1).1
  have hS1:∀(X:List Int→World→Prop) (st:LoopState) (pe:Option Code),(∀ s A C,X s A→Kz (fun k=>w.heap.size≤k) A C→X s C)→∀ s A C,(X s A∧A.heap[w.heap.size+1]?=some (.loop (rec st pe))∧A.heap[w.heap.size]?=some (.deferred (some [])))→Kz (fun k=>W1.heap.size≤k) A C→
    (X s C∧C.heap[w.heap.size+1]?=some (.loop (rec st pe))∧C.heap[w.heap.size]?=some (.deferred (some []))):=fun X st pe hX s A C hs hx=>
   ⟨hX s A C hs.1 (hx.mono fun k hk=>by omega),hx.obj (by omega) hs.2.1,hx.obj (by omega) hs.2.2⟩
  have kzp:∀(W:World) (o:Obj),Kz (fun k=>w.heap.size≤k) W (W.putObj (w.heap.size+1) o):=fun W o=>(S9 W _ o).mono fun k h=>by omega
  refine(hseq (w.heap.size+1)
   (fun pre W=>I pre W∧W.heap[w.heap.size+1]?=some (.loop (rec .ready none))∧W.heap[w.heap.size]?=some (.deferred (some [])))
   (fun pre W=>Ix pre W∧W.heap[w.heap.size+1]?=some (.loop (rec .done (some .ret)))∧W.heap[w.heap.size]?=some (.deferred (some [])))
   W1 (by omega) (Array.getElem?_eq_some_iff.1 hL1).1 hxW (hS1 I _ _ hI) (hS1 Ix _ _ hIx) ?_ ⟨hI1,hL1,hK1⟩).mono ?_
  ·rintro pre x W ⟨hi,hl,hk⟩ hpre
   have hlt:w.heap.size+1<W.heap.size:=(Array.getElem?_eq_some_iff.1 hl).1
   have hy:=run_yield (P:=P) (args:=encs x) hl (by rw [hrec];exact hps x)
   rw [hrec] at hy
   refine⟨fn,_,assign,body,hy,roundIn_of_wpIn hfn (hassign _ pre x W _ (by omega) hi hpre ?_)⟩
   clear hy
   intro a' Wa hbl hia hax
   replace hl:=(hbl.block (Array.getElem?_eq_some_iff.1 hl).1).trans hl
   replace hk:=(hbl.block (Array.getElem?_eq_some_iff.1 hk).1).trans hk
   replace hlt:w.heap.size+1<Wa.heap.size:=(Array.getElem?_eq_some_iff.1 hl).1
   refine⟨_,run_beginRound hl (by rw [hrec]),?_⟩
   have hl2:(Wa.putObj (w.heap.size+1) (.loop { rec .ready none with state:=.busy })).heap[w.heap.size+1]?=some (.loop { rec .ready none with state:=.busy }):=World.putObj_heap_same hlt
   have hk2:(Wa.putObj (w.heap.size+1) (.loop { rec .ready none with state:=.busy })).heap[w.heap.size]?=some (.deferred (some [])):=(World.putObj_heap_other (by omega)).trans hk
   refine wpIn_mono (hbody _ pre x a' _ (by simp;omega) (hI _ _ _ hia (kzp _ _)) (hAx _ _ _ _ hax (S9 _ _ _)) hpre) ?_
   have hT1:¬ T (w.heap.size+1):=fun e=>by have:=hT _ e;omega
   have hT0:¬ T w.heap.size:=fun e=>by have:=hT _ e;omega
   have fin:∀(jump:Option Code) (W3:World),Kz T (Wa.putObj (w.heap.size+1) (.loop { rec .ready none with state:=.busy })) W3→
     (Instr.endRound (w.heap.size+1) jump).run P W3=.ok (.bool jump.isNone) (W3.putObj (w.heap.size+1) (.loop (rec (if jump.isNone then .ready else .done) jump)))∧
     (W3.putObj (w.heap.size+1) (.loop (rec (if jump.isNone then .ready else .done) jump))).heap[w.heap.size+1]?=some (.loop (rec (if jump.isNone then .ready else .done) jump))∧
     (W3.putObj (w.heap.size+1) (.loop (rec (if jump.isNone then .ready else .done) jump))).heap[w.heap.size]?=some (.deferred (some [])):=fun jump W3 hk3=>by
    have hl3:=hk3.obj hT1 hl2
    have:=run_endRound (P:=P) jump hl3
    rw [hrec] at this ⊢
    exact⟨this,World.putObj_heap_same (Array.getElem?_eq_some_iff.1 hl3).1,(World.putObj_heap_other (by omega)).trans (hk3.obj hT0 hk2)⟩
   rintro e a3 W3 hp
   cases e with
   | normal=>
    obtain⟨hb3,hi3⟩:=hp
    obtain⟨hr,hl4,hk4⟩:=fin none W3 hb3
    refine⟨_,_,hr,.inl ⟨rfl,⟨hI _ _ _ hi3 (kzp _ _),hl4,hk4⟩,?_⟩⟩
    exact(((Kz.of_ext hbl).trans ((S9 Wa _ _).mono fun k h=>.inl h)).trans (hb3.mono fun k h=>.inr h)).trans ((S9 W3 _ _).mono fun k h=>.inl h)
   | ret=>
    obtain⟨hk3,hi3⟩:=hp
    obtain⟨hr,hl4,hk4⟩:=fin (some .ret) W3 hk3
    refine⟨_,_,hr,.inr ⟨rfl,⟨hIx _ _ _ hi3 (kzp _ _),hl4,hk4⟩,?_⟩⟩
    exact(((Kz.of_ext hbl).trans ((S9 Wa _ _).mono fun k h=>.inl h)).trans (hk3.mono fun k h=>.inr h)).trans ((S9 W3 _ _).mono fun k h=>.inl h)
   | exit id=>exact hp.elim
   | goto t=>exact hp.elim
   | panic ch=>exact hp.elim
   | outgrown=>exact hp.elim
  ·rintro e W2 ⟨⟨v,rfl⟩,(⟨hi,hl,hk⟩|⟨pre,hSp,hi,hl,hk⟩)⟩
   ·exact⟨none,_,by have:=run_endLoop (P:=P) hl (by rw [hrec];simp);rw [hrec] at this;exact this,hdone _ (hI _ _ _ hi (kzp _ _)) ((World.putObj_heap_other (by omega)).trans hk)⟩
   ·exact⟨some .ret,_,by have:=run_endLoop (P:=P) hl (by rw [hrec];simp);rw [hrec] at this;exact this,hstop pre _ hSp (hIx _ _ _ hi (kzp _ _)) ((World.putObj_heap_other (by omega)).trans hk)⟩
end Go.En
