/-
  Own text of the proof.
-/
import Derived.Test.YtjicdgejhkgpgaaGreatDoorE
import Derived.RangeFuncNested
import Derived.RangeFuncLeaves
import Derived.RangeFuncBound
import Derived.OrdersIn
import Derived.Scope
import Derived.Test.YtjicdgejhkgpgaaGreatDoorY1
import Derived.Test.YtjicdgejhkgpgaaGreatDoorYz
import Derived.Test.YtjicdgejhkgpgaaGreatDoorY0
import Derived.Test.YtjicdgejhkgpgaaGreatDoorYm
import Derived.Test.YtjicdgejhkgpgaaGreatDoorYf
set_option linter.all false
namespace Go.En
open Go Go.RowKit
section
variable {P : Program} {n : Nat} {Q : Post} {L : List (Nat × Value)} {w : World}
theorem C6e {m:Nat} {f:FuncId} {fn:Func} {c:Code} {args:List Value} {R:Ending→World→Prop} (hf:P.funcs[f]?=some fn) (hb:fn.body=some c) (hn:fn.ntmps=n) (hle:args.length≤n)
    (h:E P n c (bodyPostM Fence.wide m P fn R) (B0k args 0) w):Calls P f args.toArray w R:=by
  refine(callsIn_wide (n:=m)).1 (callsIn_of_wp_marks hf hb trivial (wpIn_wide.2 (h _ ⟨by simp [hn];omega,rfl,fun s v hs=>?_⟩)) rfl)
  obtain⟨_,h2⟩:=A4a args 0 s v hs
  have hlt:s<args.length:=by
    have:=(List.getElem?_eq_some_iff.1 (by simpa using h2)).1
    exact this
  rw [Array.getElem?_append_left (by simpa using hlt)]
  simpa using h2
theorem B1h {l m:Nat} {row:String} {args:Array Value} {R:Value→World→Prop} (h:Rows P row args w R):RowsIn (Fence.wide.inRound l) m P row args w R:=
  fun c cs _=>let ⟨v,w',r,s⟩:=h c cs;⟨v,w',r,stepsIn_wide.2 s⟩
theorem C4u {l m:Nat} {o:Oper} {a:Act} {next next':Act→World→Prop} (hd:∀ c,o.op≠.defer c) (hnx:∀ a w,next a w→next' a w) (h:o.wp P a w next Q):o.wpIn (Fence.wide.inRound l) m P a w next' Q:=by
  refine⟨fun _ _=>trivial,?_⟩
  rw [Oper.semAt_eq _ _ _ hd]
  unfold Oper.wp at h
  revert h
  generalize (execOp a.eval o).run P w=r
  intro h
  unfold Oper.upon at h
  unfold Oper.uponIn
  split at h
  · exact hnx _ _ h
  · exact hnx _ _ h
  · exact hnx _ _ h
  · refine⟨(fun e=>by cases e),callsIn_wide.2 (h.mono ?_)⟩
    rintro(v|c|_) w'' hh
    · exact hnx _ _ hh
    · exact hh
    · exact hh
  · exact⟨(fun e=>by cases e),B1h (h.mono fun v w' hh=>hnx _ _ hh)⟩
  · exact h
  · exact h.elim
theorem Y4 {l m : Nat} (hQ : ¬ LetsOut Q) {ops : Array Oper} : ∀ (is : List Nat) (a : Act) (w : World), (∀ (i : Nat) (o : Oper), ops[i]? = some o → ∀ c, o.op ≠ .defer c) → wpOps P ops Q is a w → wpOpsIn (Fence.wide.inRound l) m P ops Q is a w
  | [],_,_,_,h=>h
  | i :: rest, a, w, hd, h => by
    unfold wpOps at h
    unfold wpOpsIn
    cases ho:ops[i]? with
    | none=>rw [ho] at h;exact Y4 hQ rest a w hd h
    | some o=>
      rw [ho] at h
      dsimp only at h ⊢
      by_cases hw:Region.wanted o (yielded ops a.tmps)=true
      · rw [if_pos hw] at h ⊢
        rcases h with h|⟨_,h⟩
        · exact C4u (hd i o ho) (fun a' w'=>Y4 hQ rest a' w' hd) h
        · exact absurd h hQ
      · rw [if_neg hw] at h ⊢
        exact⟨fun _ _=>trivial,Y4 hQ rest _ _ hd h⟩
def nodefer (ops:List Oper):Bool:=ops.all fun o=>match o.op with | .defer _=>false|_=>true
theorem B7r {ops:List Oper} (h:nodefer ops=true) (i:Nat) (o:Oper) (ho:ops.toArray[i]?=some o) (c:Call):o.op≠.defer c:=by
  intro e
  have:=List.all_eq_true.1 h o (List.mem_of_getElem? (by simpa using ho))
  rw [e] at this;cases this
def EI (l m:Nat) (P:Program) (n:Nat) (c:Code) (Q:Post) (L:List (Nat × Value)) (w:World):Prop:=∀ a,St n L a→c.wpIn (Fence.wide.inRound l) m P Q a w
theorem EI.sub {l m:Nat} {c:Code} {M:List (Nat × Value)} (hs:Lsub M L) (h:EI l m P n c Q M w):EI l m P n c Q L w:=fun a ha=>h a (ha.sub hs)
theorem A4d {l m id:Nat} {ops:List Oper} (hQ:¬ LetsOut Q) (hd:nodefer ops=true) (h:EL P n ops Q ops L w):EI l m P n (.region id ops.toArray false) Q L w:=fun a ha=>
  wpIn_region (Y4 hQ _ a w (B7r hd) (by rw [List.range_eq_range',← Array.length_toList,wpOps_eq_wpList ops.toArray.toList 0 (by simp)];simpa using h a ha))
theorem EI_seq {l m:Nat} {x y:Code} (h:EI l m P n x (Exit.then (y.wpIn (Fence.wide.inRound l) m P Q) Q) L w):EI l m P n (.seq x y) Q L w:=fun a ha=>wpIn_seq (h a ha)
theorem EI_skip {l m:Nat} (h:K n Q .normal L w):EI l m P n .skip Q L w:=fun a ha=>wpIn_skip (h a ha)
theorem EI_ret {l m:Nat} (h:K n Q .ret L w):EI l m P n .ret Q L w:=fun a ha=>wpIn_ret (h a ha)
theorem EI_block {l m id:Nat} {c:Code} (h:EI l m P n c (Exit.inBlock id Q) L w):EI l m P n (.block id c) Q L w:=fun a ha=>wpIn_block (h a ha)
theorem C3j {l m:Nat} {c:Operand} {x y:Code} (hc:ev L c=some (.bool true)) (h:EI l m P n x Q L w):EI l m P n (.cond c x y) Q L w:=fun a ha=>wpIn_cond_true (ha.ev hc) (h a ha)
theorem C3k {l m:Nat} {c:Operand} {x y:Code} (hc:ev L c=some (.bool false)) (h:EI l m P n y Q L w):EI l m P n (.cond c x y) Q L w:=fun a ha=>wpIn_cond_false (ha.ev hc) (h a ha)
theorem C1e {l m:Nat} {y:Code} (h:EI l m P n y Q L w):K n (Exit.then (y.wpIn (Fence.wide.inRound l) m P Q) Q) .normal L w:=h
theorem R9 {nx:Act→World→Prop} (h:¬ LetsOut Q):¬ LetsOut (Exit.then nx Q):=fun⟨a,w,hh⟩=>h ⟨a,w,hh⟩
theorem B4g {nx:Act→World→Prop}:¬ LetsOut (Exit.then nx (fun _ _ _=>False)):=fun⟨_,_,hh⟩=>hh
def AY (m:Nat) (P:Program) (n:Nat) (ops:List Oper) (Q:Post) (fuel:Nat) (listed:Array Bool) (L:List (Nat × Value)) (w:World):Prop:=∀ a,St n L a→wpAnyIn Fence.wide m P .any ops.toArray Q fuel listed a w
variable {m fuel : Nat} {ops : List Oper} {listed : Array Bool} {o : Oper}
theorem AY.sub {M:List (Nat × Value)} (hs:Lsub M L) (h:AY m P n ops Q fuel listed M w):AY m P n ops Q fuel listed L w:=fun a ha=>h a (ha.sub hs)
theorem A8k {o:Oper} {f x:Operand} {l:Nat} {ty:Array TypeId} {v:Value} {L:List (Nat × Value)} (ho:o.op=.call { callee:=.value f,args:=#[x],argTypes:=ty }) (hf:ev L f=some (.func (.yield l) #[] #[])) (hx:ev L x=some v) {r:Next} {w':World} (hy:(Instr.yield l #[v]).run P w=.ok r w') :
    ∀ ρ,Agree L o ρ→(execOp ρ o).run P w=.ok r w':=fun ρ ha=>by
  have h1:=ha.ev (by rw [ho];simp [Op.operands,Call.operands]) hf
  have h2:=ha.ev (by rw [ho];simp [Op.operands,Call.operands]) hx
  simp [execOp,ho,resolve,invoke,go_sem,h1,h2,hy]
theorem A6w {fn:Func} {S:Value→World→Prop}:¬ LetsOut (bodyPost P fn (Rt S)):=fun⟨_,_,v,e,_⟩=>by cases e
theorem T8 {id:Nat} (h:¬ LetsOut Q):¬ LetsOut (Exit.inBlock id Q):=fun⟨a,w,hh⟩=>h ⟨a,w,hh⟩
theorem A9q {ι:Type} {Lf:ι→List (Nat × Value)} {M:ι→World→Prop} {mz:ι→Nat} {x:ι} (h:¬ LetsOut Q):¬ LetsOut (Rnd n Lf M mz x Q):=fun⟨a,w,hh⟩=>h ⟨a,w,hh⟩
theorem op_wide {o:Oper} {a:Act} {next next':Act→World→Prop} (hnx:∀ a w,next a w→next' a w) (h:o.wp P a w next Q):o.wpIn Fence.wide m P a w next' Q:=by
  refine⟨fun _ _=>trivial,?_⟩
  unfold Oper.wp at h
  show o.uponIn Fence.wide m P a next' Q ((execOp a.eval o).run P w)
  revert h
  generalize (execOp a.eval o).run P w=r
  intro h
  unfold Oper.upon at h
  unfold Oper.uponIn
  split at h
  · exact hnx _ _ h
  · exact hnx _ _ h
  · exact hnx _ _ h
  · refine⟨(fun e=>by cases e),callsIn_wide.2 (h.mono ?_)⟩
    rintro(v|c|_) w'' hh
    · exact hnx _ _ hh
    · exact hh
    · exact hh
  · exact⟨(fun e=>by cases e),fun c cs _=>let ⟨v,w',r,s⟩:=h c cs;⟨v,w',hnx _ _ r,stepsIn_wide.2 s⟩⟩
  · exact h
  · exact h.elim
theorem W7 (hQ : ¬ LetsOut Q) {nx : Act → World → Prop} {ops : Array Oper} {is2 : List Nat} (hnx : ∀ a w, nx a w → wpOpsIn Fence.wide m P ops Q is2 a w) : ∀ (is : List Nat) (a : Act) (w : World), wpOps P ops (Exit.then nx Q) is a w → wpOpsIn Fence.wide m P ops Q (is ++ is2) a w
  | [],a,w,h=>hnx a w h
  | i :: rest, a, w, h => by
    unfold wpOps at h
    rw [List.cons_append]
    unfold wpOpsIn
    cases ho:ops[i]? with
    | none=>rw [ho] at h;exact W7 hQ hnx rest a w h
    | some o=>
      rw [ho] at h
      dsimp only at h ⊢
      by_cases hw:Region.wanted o (yielded ops a.tmps)=true
      · rw [if_pos hw] at h ⊢
        rcases h with h|⟨_,h⟩
        · refine op_wide (Q:=Q) (fun a' w'=>W7 hQ hnx rest a' w') ?_
          unfold Oper.wp at h ⊢
          revert h
          generalize (execOp a.eval o).run P w=r
          intro h
          unfold Oper.upon at h ⊢
          split at h
          all_goals first
            | exact h
            | (refine h.mono ?_
               rintro(v|c|_) w'' hh
               · exact hh
               · exact hh
               · exact hh)
        · exact absurd h (R9 hQ)
      · rw [if_neg hw] at h ⊢
        exact⟨fun _ _=>trivial,W7 hQ hnx rest _ _ h⟩
def YK (m:Nat) (P:Program) (ops:List Oper) (Q:Post) (p:Nat):Act→World→Prop:=fun a w=>wpOpsIn Fence.wide m P ops.toArray Q (List.range' p (ops.length-p)) a w
theorem B6c {ops:List Oper} {Q:Post} (p:Nat) (hp:p≤ops.length):wpOps P ops.toArray Q (List.range' 0 p)=wpList P ops.toArray Q (ops.take p):=by
  have:=wpOps_eq_wpList (P:=P) (ops:=ops.toArray) (Q:=Q) (ops.take p)
  have hl:(ops.take p).length=p:=by rw [List.length_take];omega
  rw [hl] at this
  clear this hl
  have key:∀(l pre:List Oper),(pre++l) <+: ops→wpOps P ops.toArray Q (List.range' pre.length l.length)=wpList P ops.toArray Q l:=by
    intro l
    induction l with
    | nil=>intro pre _;funext a w;rfl
    | cons o l ih=>
      intro pre hpre
      obtain⟨t,ht⟩:=hpre
      have h0:ops.toArray[pre.length]?=some o:=by rw [List.getElem?_toArray,← ht];simp
      have ih':=ih (pre++[o]) ⟨t,by rw [← ht];simp⟩
      rw [List.length_append,List.length_singleton] at ih'
      funext a w
      simp only [List.length_cons,List.range'_succ,wpOps,h0,wpList,ih']
  have:=key (ops.take p) [] (List.take_prefix p ops)
  rw [List.length_take,Nat.min_eq_left hp] at this
  exact this
theorem E_yreg {id p:Nat} {ops:List Oper} (hQ:¬ LetsOut Q) (hp:Nat.ble p ops.length=true) (h:EL P n ops (Exit.then (YK m P ops Q p) Q) (ops.take p) L w):E P n (.region id ops.toArray false) Q L w:=fun a ha=>
  (wpIn_wide (n:=m)).1 (wpIn_region (by
    have hple:=Nat.le_of_ble_eq_true hp
    have e:List.range ops.toArray.size=List.range' 0 p++List.range' p (ops.length-p):=by
      have e0:=List.range'_append_1 (s:=0) (m:=p) (n:=ops.length-p)
      rw [Nat.zero_add] at e0
      rw [List.range_eq_range',List.size_toArray,e0];congr 1;omega
    rw [e]
    refine W7 hQ (nx:=YK m P ops Q p) (fun a w h=>h) _ a w ?_
    rw [B6c p hple]
    exact h a ha))
theorem K_yield {p d l:Nat} {ops:List Oper} {o:Oper} {f x:Operand} {ty:Array TypeId} {v:Value} {R:Ending→World→Prop} (hQ:¬ LetsOut Q) (ho:ops[p]?=some o) (hg:gst ops L o=some true) (hd:odst n o.dst=some d)
    (hop:o.op=.call { callee:=.value f,args:=#[x],argTypes:=ty }) (hf:ev L f=some (.func (.yield l) #[] #[])) (hx:ev L x=some v) (hY:YieldAt Fence.wide (m-1) P l #[v] w R) (hpn:∀ c w',¬ R (.panicked c) w') (hu:∀ w',¬ R .outgrown w')
    (k:∀ u w',R (.returned u) w'→EL P n ops Q (ops.drop (p+1)) ((d,u)::L) w'):K n (Exit.then (YK m P ops Q p) Q) .normal L w:=fun a ha=>by
  have hpl:=(List.getElem?_eq_some_iff.1 ho).1
  show wpOpsIn Fence.wide m P ops.toArray Q (List.range' p (ops.length-p)) a w
  obtain⟨q,hq⟩:∃ q,ops.length-p=q+1:=⟨ops.length-p-1,by omega⟩
  rw [hq,List.range'_succ]
  unfold wpOpsIn
  rw [show ops.toArray[p]?=some o from by simpa using ho]
  dsimp only
  rw [if_pos (N9 ha hg)]
  obtain⟨fn,tmps,assign,body,hy,hR⟩:=hY
  refine⟨fun _ _=>trivial,?_⟩
  show o.uponIn Fence.wide m P a _ Q ((execOp a.eval o).run P w)
  rw [A8k hop hf hx hy a.eval (ha.agree o),Oper.uponIn_round]
  refine⟨(fun e=>by cases e),hR.mono ?_⟩
  rintro(u|c|_) w' hh
  · have hput:=ha.put (C9 hd).2 u
    rw [(C9 hd).1] at hput
    have hE:=k u w' hh _ hput
    have e2:List.range' (p+1) q=List.range' (p+1) q++[]:=by simp
    rw [e2,(C9 hd).1]
    refine W7 hQ (nx:=Q .normal) (is2:=[]) (fun _ _ h=>h) _ _ _ ?_
    have hX:wpOps P ops.toArray Q (List.range' (p+1) q)=wpList P ops.toArray Q (ops.drop (p+1)):=by
      have:=wpOps_eq_wpList (P:=P) (ops:=ops.toArray) (Q:=Q) (ops.drop (p+1)) (p+1) (fun j=>by rw [List.getElem?_drop,List.getElem?_toArray])
      rw [List.length_drop,show ops.length-(p+1)=q by omega] at this
      exact this
    have hQQ:Exit.then (Q .normal) Q=Q:=by funext e a w;cases e <;> rfl
    rw [hQQ,hX]
    exact hE
  · exact absurd hh (hpn c w')
  · exact absurd hh (hu w')
theorem B7f {t:TypeId} {z:Value} {size bytes:Nat} [TI P t z size bytes] {o:Oper} {x y:Operand} {ρ:Operand→Value} {v:Value} {b off:Nat} {e:TypeId} {cs:List Value} (ho:o.op=.store t x y)
    (hx:ρ x=.pointer (some ⟨b,off,none⟩)) (hy:ρ y=v) (hs:v.cells.size=size) (h1:v.cells.toList.all Value.oneCell'=true) (hr:Row w b e cs) (hl:off+size≤cs.length) :
    ∃ w',(execOp ρ o).run P w=.ok .skip w'∧Row w' b e (cs.take off++v.cells.toList++cs.drop (off+size))∧w.grownBy w' (some b):=by
  have h:=run_storeCells_at (P:=P) b off e v.cells.toList 0 cs.toArray w hr (by simp [hs];exact hl) (fun u hu=>List.all_eq_true.1 h1 u hu)
  simp only [Nat.add_zero] at h
  refine⟨w.setRow b (cs.take off++v.cells.toList++cs.drop (off+v.cells.toList.length)).toArray,?_,?_,⟨rfl,rfl,rfl,by simp,fun k hk hne=>setRow_other w b k _ (fun e=>hne (by rw [e]))⟩⟩
  · have h4:=M3 (P:=P) (t:=t) w
    simp only [execOp,ho,hx,hy,Instr.storeAt,Instr.sureAddr,storeVar,Sem.run_bind,Sem.run_pure,Result.andThen_ok,h4,hs]
    rw [if_neg (by simp)]
    simp only [h,Result.andThen_ok]
  · have:=setRow_heap w b cs.toArray (cs.take off++v.cells.toList++cs.drop (off+v.cells.toList.length)).toArray e (0,0) hr
    simp only [Array.length_toList,hs] at this ⊢
    exact this
theorem C1r {fn:Func} {s:Tmp} {ty:TypeId} {d:TypeDesc} {b:Nat} {v:Value} {a:Act} [UT P ty d] (hr:fn.results=#[.cell s ty]) (hd:Y6 d=false) (ha:a.tmps[s]?=some (.pointer (some ⟨b,0,none⟩))) (hc:w.cell? ⟨b,0,none⟩=some v) :
    (results fn a.tmps).run P w=.ok v w:=by
  have h3:=O0 (P:=P) (t:=ty) w
  rw [hd] at h3
  simp [results,hr,Array.getD_eq_getD_getElem?,ha,Instr.loadAt,Instr.sureAddr,loadVar,go_sem,h3,hc]
theorem St.round {a:Act} (ha:St n L a) {s:Tmp} (hs:Nat.blt s n=true) (v:Value):St n ((s,v)::L) { tmps:=(#[s].zip #[v]).foldl (fun t (p,x)=>t.setIfInBounds p x) a.tmps,defers:=[] }:=by
  have:=ha.put (d:=some s) (show Nat.ble (s+1) n=true from hs) v
  have e:({ tmps:=(#[s].zip #[v]).foldl (fun t (p,x)=>t.setIfInBounds p x) a.tmps,defers:=[] }:Act)=a.put (some s) v:=by
    have hn:=ha.nod
    obtain⟨tm,df⟩:=a
    simp only at hn
    subst hn
    simp [Act.put]
  rw [e]
  exact this
theorem E_scope {c:Code} (h:E P n c (Exit.noGoto Q) L w):E P n (.scope c) Q L w:=fun a ha=>wp_scope_straight (h a ha)
theorem E_label {l:Nat} (h:K n Q .normal L w):E P n (.label l) Q L w:=fun a ha=>wp_label (h a ha)
theorem B5x (h:K n Q .ret L w):K n (Exit.noGoto Q) .ret L w:=h
theorem E_in {m:Nat} {c:Code} (h:∀ a,St n L a→c.wpIn Fence.wide m P Q a w):E P n c Q L w:=fun a ha=>(wpIn_wide (n:=m)).1 (h a ha)
theorem K_of {e:Exit} (h:∀ a,St n L a→Q e a w):K n Q e L w:=h
theorem EI_run {l m:Nat} {c:Code} {a:Act} (h:EI l m P n c Q L w) (ha:St n L a):c.wpIn (Fence.wide.inRound l) m P Q a w:=h a ha
end
end Go.En
set_option maxHeartbeats 8000000
set_option maxRecDepth 8000
namespace Go.Proofs.YtjicdgejhkgpgaaGreatDoor
section
open Go.RowKit Go.En Go.Pv
theorem A3w {A C:World} {r:Nat} (h:Ext A C):A.grownBy C (some r):=⟨h.os,h.tape,h.output,h.size,fun k hk _=>h.block hk⟩
theorem M6 {A C:World} {r b:Nat} {t:TypeId} {cs:List Value} (h:Row A b t cs) (g:A.grownBy C (some r)) (hne:b≠r):Row C b t cs:=(g.block b h.lt (fun e=>hne (by cases e;rfl))).trans h
theorem R2 {w A C:World} {r:Nat} (h:Ext w A) (g:A.grownBy C (some r)) (hr:w.heap.size≤r):Ext w C:=
  ⟨g.os.trans h.os,g.tape.trans h.tape,g.output.trans h.output,Nat.le_trans h.size g.size,fun k hk=>(g.block k (Nat.lt_of_lt_of_le hk h.size) (fun e=>by cases e;omega)).trans (h.block hk)⟩
theorem C2v {lex:List En} {pre zs:List Int} {k:Nat} {id:Int} {e:En} (h:pre++L4 lex (k+1) id=zs) (he:getE lex id=some e):pre++[id] <+: zs∧(e.main=0→pre++[id]=zs)∧(e.main≠0→pre++[id]++L4 lex k e.main=zs):=by
  rw [A4z he] at h
  refine⟨⟨if e.main=0 then [] else L4 lex k e.main,by rw [← h];simp⟩,fun h0=>?_,fun h0=>?_⟩
  · rw [if_pos h0] at h;exact h
  · rw [if_neg h0] at h;rw [← h];simp
attribute [local irreducible] E EL K Val Enters Rt Calls bodyPost Code.wp RQ EI YK
theorem way_seq (lex : List En) (hl : lex.length ≤ 1000000) (id0 : Int) (la : Option Addr) (lc : Nat) (w0 : World) (hv : Sl w0 (.slice la lex.length lc) lex) (Xof : Int → List Value) (hrep : ∀ id, Rep.at_ Tt w0 (entD lex id) (Xof id))
    (hget:∀ id w',Ext w0 w'→Calls Tryz.prog 48 #[.slice la lex.length lc,int id] w' (Rt fun u w2=>u=.tuple #[.agg (Xof id).toArray,.bool (getE lex id).isSome]∧Ext w' w2))
    (Bl Bi B:Nat) (w:World) (hw0l:w0.heap.size≤Bl) (hw0:w0.heap.size≤Bi) (hBl:Bl<B) (hBi:Bi<B) (hne:Bl≠Bi) (hB:B≤w.heap.size) (hx:Ext w0 w) (rl:Row w Bl 35 [.slice la lex.length lc]) (ri:Row w Bi 3 [int id0]) :
    SeqX Fence.wide 4 Tryz.prog 235 #[.pointer (some ⟨Bl,0,none⟩),.pointer (some ⟨Bi,0,none⟩)] (fun x=>#[.agg (Xof x).toArray]) (L4 lex (lex.length+1) id0) Bi B w:=by
  intro l J Jx W hBle hlW hW hJ hY h0
  obtain⟨zs,hzs⟩:∃ zs,zs=L4 lex (lex.length+1) id0:=⟨_,rfl⟩
  rw [← hzs] at hY ⊢
  have c235:Calls Tryz.prog 235 #[.func (.yield l) #[] #[],.pointer (some ⟨Bl,0,none⟩),.pointer (some ⟨Bi,0,none⟩)] W (Rt fun _ W'=>J zs W'∨∃ pre,pre <+: zs∧Jx pre W'):=by
    have hxW:Ext w0 W:=⟨hW.os.trans hx.os,hW.tape.trans hx.tape,hW.output.trans hx.output,Nat.le_trans hx.size hW.size,fun k hk=>(hW.block k (by omega)).trans (hx.block hk)⟩
    have rlW:Row W Bl 35 [.slice la lex.length lc]:=(hW.block Bl hBl).trans rl
    have riW:Row W Bi 3 [int id0]:=(hW.block Bi hBi).trans ri
    refine A6 (n:=33) (args:=[.func (.yield l) #[] #[],.pointer (some ⟨Bl,0,none⟩),.pointer (some ⟨Bi,0,none⟩)]) Tryz.func235 rfl Tryz.ntmps235 (by simp) ?_
    (repeat' (first|refine Ly ?_))
    refine B0 (ι:=Nat × List Int × Int) (fun z=>[(0,.func (.yield l) #[] #[]),(1,.pointer (some ⟨Bl,0,none⟩)),(2,.pointer (some ⟨Bi,0,none⟩)),(8,int ((lex.length:Int)+1)),(9,int z.1)])
      (fun z wr=>z.1≤lex.length+1∧Ext w0 wr∧W.heap.size≤wr.heap.size∧Row wr Bl 35 [.slice la lex.length lc]∧Row wr Bi 3 [int z.2.2]∧z.2.1++L4 lex (lex.length+1-z.1) z.2.2=zs∧J z.2.1 wr) (fun z=>lex.length+1-z.1) (0,[],id0)
      ⟨rfl,rfl,rfl,rfl,rfl,trivial⟩ ⟨Nat.zero_le _,hxW,Nat.le_refl _,rlW,riW,by rw [hzs];rfl,h0⟩ ?_
    rintro⟨i,pre,id⟩ wr ⟨hi,hxr,hsz,rlr,rir,hch,hj⟩
    dsimp only at hi hxr hsz rlr rir hch hj ⊢
    by_cases hlt:i<lex.length+1
    · obtain⟨k,hk⟩:∃ k,lex.length+1-i=k+1:=⟨lex.length-i,by omega⟩
      rw [hk] at hch
      have cg:=hget id wr hxr
      have hrX:=hrep id
      obtain⟨e0,k0,e1,k1,e2,k2,e3,k3,e4,k4,hX,_⟩:=K4 hrX
      rw [hX] at cg
      cases hg:getE lex id with
      | none=>
        rw [hg] at cg
        rw [A5a hg,List.append_nil] at hch
        (repeat' (first|(refine A8 Z Z (A5 Z Z en48) cg (fun vC wC hC=>?_);obtain⟨rfl,hxC⟩:=hC)|(refine C1 Z Z Z Z Z Z Z Z Z Z (fun bE wE xE hbE rE=>?_);replace hxC:=hxC.trans xE)|refine Ly ?_|refine Dy (fun hh=>?_) fun hh=>?_))
        all_goals (try (exfalso;omega))
        refine A0f Z (Or.inl ?_)
        rw [← hch]
        exact hJ _ _ _ hj (A3w hxC)
      | some e=>
        rw [hg] at cg
        obtain⟨hp1,hp2,hp3⟩:=C2v hch hg
        have hem:(entD lex id).main=e.main:=by unfold entD;rw [hg];rfl
        (repeat' ((fail_if_success (refine B4 (x:=(Code.seq (Code.region 3 _ _) _)) ?_));first|(refine A8 Z Z (A5 Z Z en48) cg (fun vC wC hC=>?_);obtain⟨rfl,hxC⟩:=hC;replace rlr:=rlr.ext hxC;replace rir:=rir.ext hxC;have hsC:=hxC.size)|(refine C1 Z Z Z Z Z Z Z Z Z Z (fun bE wE xE hbE rE=>?_);replace hxC:=hxC.trans xE;replace rlr:=rlr.ext xE;replace rir:=rir.ext xE)|refine Ly ?_|refine Dy (fun hh=>?_) fun hh=>?_))
        all_goals (try (exfalso;omega))
        have hjE:=hJ _ _ _ hj (A3w hxC)
        have hsE:W.heap.size≤wE.heap.size:=by have:=hxC.size;omega
        have hxE:Ext w0 wE:=hxr.trans hxC
        have hlE:bE≠l:=by omega
        refine B4 ?_
        refine B4 ?_
        refine E_yreg (m:=4) (p:=5) (by repeat first|exact A6w|apply R9|apply T8|apply A9q) rfl ?_
        dsimp only [List.take]
        (repeat' (first|refine Ly ?_))
        have hYx:=hY pre id wE hjE hp1
        dsimp only at hYx
        rw [hX] at hYx
        refine K_yield (by repeat first|exact A6w|apply R9|apply T8|apply A9q) rfl rfl rfl rfl rfl rfl hYx (fun c w' hh=>by rcases hh with⟨h,_⟩|⟨h,_⟩ <;> cases h) (fun w' hh=>by rcases hh with⟨h,_⟩|⟨h,_⟩ <;> cases h) (fun u w' hh=>?_)
        rcases hh with⟨hu,hj2,hgr⟩|⟨hu,hjx⟩
        · cases hu
          have rE2:=M6 rE hgr hlE
          have rl2:=M6 rlr hgr (by omega)
          have ri2:=M6 rir hgr (by omega)
          have hx2:=R2 hxE hgr (by omega)
          have hs2:=hgr.size
          by_cases hm0:(entD lex id).main=0
          · have hz:=hp2 (by rw [← hem];exact hm0)
            (repeat' (first|refine Ly ?_|refine Dy (fun hh=>?_) fun hh=>?_))
            all_goals (try (exfalso;omega))
            refine A0f Z (Or.inl ?_)
            rw [← hz]
            exact hj2
          · have hz:=hp3 (by rw [← hem];exact hm0)
            (repeat' (first|(refine B7 (cs:=[_]) ri2 hx2 hw0 rfl rfl rfl rfl rfl rfl rfl rfl (Nat.le_refl _) (fun wU rU0 xU kU=>?_);have rl3:=M6 rl2 kU hne;have hs3:=kU.size)|refine Ly ?_|refine Dy (fun hh=>?_) fun hh=>?_))
            all_goals (first|(exfalso;omega)|skip)
            all_goals first
              | exact absurd (by assumption) hm0
              | exact B3 (i+1,pre++[id],(entD lex id).main) ⟨rfl,rfl,rfl,rfl,rfl,trivial⟩ ⟨by dsimp only;omega,xU,by omega,rl3,rU0,by rw [show lex.length+1-(i+1)=k by omega,hem];exact hz,hJ _ _ _ hj2 kU⟩ (by dsimp only;omega)
        · cases hu
          (repeat' (first|refine Sy ?_))
          all_goals (first|(exfalso;omega)|skip)
          exact A0f Z (Or.inr ⟨_,hp1,hjx⟩)
    · obtain rfl:i=lex.length+1:=by omega
      rw [Nat.sub_self] at hch
      (repeat' (first|refine Sy ?_|refine Dy (fun hh=>?_) fun hh=>?_))
      all_goals (try (exfalso;omega))
      refine A4m (A0f Z (Or.inl ?_))
      rw [← hch]
      unfold L4
      rw [List.append_nil]
      exact hj
  refine(callsIn_wide (n:=4)).2 (c235.mono ?_)
  rintro e W' h
  unfold Rt at h
  obtain⟨v,rfl,h⟩:=h
  exact⟨⟨v,rfl⟩,h⟩
theorem B6f (id:Int) (v:Value) (w:World):Calls Tryz.prog 218 #[v,int id] w (Rt fun u w'=>∃ Bl Bi,u=.func (.func 235) #[] #[.pointer (some ⟨Bl,0,none⟩),.pointer (some ⟨Bi,0,none⟩)]∧Row w' Bl 35 v.cells.toList∧Row w' Bi 3 [int id]∧Bl≠Bi∧w.heap.size≤Bl∧w.heap.size≤Bi∧Ext w w'):=by
  refine A6 (n:=6) (args:=[v,int id]) Tryz.func218 rfl Tryz.ntmps218 (by simp) ?_
  refine B4 ?_
  refine A9 ?_
  refine C6 Z Z Z Z (fun bL wL xL hbL rL=>?_)
  refine C6 Z Z Z Z (fun bI wI xI hbI rI=>?_)
  (repeat' (first|refine eV Z Z (J6 (vs:=[.pointer (some ⟨bL,0,none⟩),.pointer (some ⟨bI,0,none⟩)]) Z Z) ?_|refine Sy ?_))
  have h1:=rL.lt
  have h2:=xL.size
  exact A4 Z Z ⟨bL,bI,rfl,rL.ext xI,rI,by omega,by omega,by omega,xL.trans xI⟩
end
section
open Go.RowKit Go.En Go.Pv
attribute [local irreducible] E EL K Val Enters Rt Calls bodyPost Code.wp RQ
end
end Go.Proofs.YtjicdgejhkgpgaaGreatDoor