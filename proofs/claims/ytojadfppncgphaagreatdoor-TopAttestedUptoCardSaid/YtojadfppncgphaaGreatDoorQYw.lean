/- Own text. -/
import Derived.OrdersIn
import Derived.Scope
import Derived.Test.YtojadfppncgphaaGreatDoorQYv
set_option linter.all false
namespace Go.En
open Go Go.RowKit
section
variable {P : Program}{n : Nat}{Q : Post}{L : List (Nat × Value)}{w : World}
theorem A1f {m:Nat}{f:FuncId}{fn:Func}{c:Code}{args:List Value}{R:Ending→World→Prop}(hf:P.funcs[f]?=some fn)(hb:fn.body=some c)(hn:fn.ntmps=n)(hle:args.length≤n)
  (h:E P n c (bodyPostM Fence.wide m P fn R) (B3x args 0) w):Calls P f args.toArray w R:=by
 refine(callsIn_wide (n:=m)).1 (callsIn_of_wp_marks hf hb trivial (wpIn_wide.2 (h _ ⟨by simp [hn];omega,rfl,fun s v hs=>?_⟩)) rfl)
 obtain⟨_,h2⟩:=A5s args 0 s v hs
 have hlt:s<args.length:=by
  have:=(List.getElem?_eq_some_iff.1 (by simpa using h2)).1
  exact this
 rw [Array.getElem?_append_left (by simpa using hlt)]
 simpa using h2
theorem B5d {l m:Nat}{row:String}{args:Array Value}{R:Value→World→Prop}(h:Rows P row args w R):RowsIn (Fence.wide.inRound l) m P row args w R:=
 fun c cs _=>let ⟨v,w',r,s⟩:=h c cs;⟨v,w',r,stepsIn_wide.2 s⟩
theorem A8t {l m:Nat}{o:Oper}{a:Act}{next next':Act→World→Prop}(hd:∀ c,o.op≠.defer c)(hnx:∀ a w,next a w→next' a w)(h:o.wp P a w next Q):o.wpIn (Fence.wide.inRound l) m P a w next' Q:=by
 refine⟨fun _ _=>trivial,?_⟩
 rw [Oper.semAt_eq _ _ _ hd]
 unfold Oper.wp at h
 revert h
 generalize (execOp a.eval o).run P w=r
 intro h
 unfold Oper.upon at h
 unfold Oper.uponIn
 split at h
 ·exact hnx _ _ h
 ·exact hnx _ _ h
 ·exact hnx _ _ h
 ·refine⟨(fun e=>by cases e),callsIn_wide.2 (h.mono ?_)⟩
  rintro(v|c|_) w'' hh
  ·exact hnx _ _ hh
  ·exact hh
  ·exact hh
 ·exact⟨(fun e=>by cases e),B5d (h.mono fun v w' hh=>hnx _ _ hh)⟩
 ·exact h
 ·exact h.elim
theorem Z9 {l m : Nat}(hQ : ¬ LetsOut Q){ops : Array Oper} : ∀ (is : List Nat) (a : Act) (w : World), (∀ (i : Nat) (o : Oper), ops[i]? = some o → ∀ c, o.op ≠ .defer c) → wpOps P ops Q is a w → wpOpsIn (Fence.wide.inRound l) m P ops Q is a w
 | [],_,_,_,h=>h
 | i :: rest, a, w, hd, h => by
  unfold wpOps at h
  unfold wpOpsIn
  cases ho:ops[i]? with
  | none=>rw [ho] at h;exact Z9 hQ rest a w hd h
  | some o=>
   rw [ho] at h
   dsimp only at h ⊢
   by_cases hw:Region.wanted o (yielded ops a.tmps)=true
   ·rw [if_pos hw] at h ⊢
    rcases h with h|⟨_,h⟩
    ·exact A8t (hd i o ho) (fun a' w'=>Z9 hQ rest a' w' hd) h
    ·exact absurd h hQ
   ·rw [if_neg hw] at h ⊢
    exact⟨fun _ _=>trivial,Z9 hQ rest _ _ hd h⟩
def nodefer (ops:List Oper):Bool:=ops.all fun o=>match o.op with | .defer _=>false|_=>true
theorem Z5 {ops:List Oper}(h:nodefer ops=true)(i:Nat)(o:Oper)(ho:ops.toArray[i]?=some o)(c:Call):o.op≠.defer c:=by
 intro e
 have:=List.all_eq_true.1 h o (List.mem_of_getElem? (by simpa using ho))
 rw [e] at this;cases this
def EI (l m:Nat)(P:Program)(n:Nat)(c:Code)(Q:Post)(L:List (Nat × Value))(w:World):Prop:=∀ a,St n L a→c.wpIn (Fence.wide.inRound l) m P Q a w
theorem H1 {l m id:Nat}{ops:List Oper}(hQ:¬ LetsOut Q)(hd:nodefer ops=true)(h:EL P n ops Q ops L w):EI l m P n (.region id ops.toArray false) Q L w:=fun a ha=>
 wpIn_region (Z9 hQ _ a w (Z5 hd) (by rw [List.range_eq_range',← Array.length_toList,wpOps_eq_wpList ops.toArray.toList 0 (by simp)];simpa using h a ha))
theorem A1l {l m:Nat}{x y:Code}(h:EI l m P n x (Exit.then (y.wpIn (Fence.wide.inRound l) m P Q) Q) L w):EI l m P n (.seq x y) Q L w:=fun a ha=>wpIn_seq (h a ha)
theorem A2d {l m:Nat}(h:K n Q .normal L w):EI l m P n .skip Q L w:=fun a ha=>wpIn_skip (h a ha)
theorem C1z {l m:Nat}(h:K n Q .ret L w):EI l m P n .ret Q L w:=fun a ha=>wpIn_ret (h a ha)
theorem A1m {l m id:Nat}{c:Code}(h:EI l m P n c (Exit.inBlock id Q) L w):EI l m P n (.block id c) Q L w:=fun a ha=>wpIn_block (h a ha)
theorem A2e {l m:Nat}{c:Operand}{x y:Code}(hc:ev L c=some (.bool true))(h:EI l m P n x Q L w):EI l m P n (.cond c x y) Q L w:=fun a ha=>wpIn_cond_true (ha.ev hc) (h a ha)
theorem T3 {l m:Nat}{c:Operand}{x y:Code}(hc:ev L c=some (.bool false))(h:EI l m P n y Q L w):EI l m P n (.cond c x y) Q L w:=fun a ha=>wpIn_cond_false (ha.ev hc) (h a ha)
theorem N3 {l m:Nat}{y:Code}(h:EI l m P n y Q L w):K n (Exit.then (y.wpIn (Fence.wide.inRound l) m P Q) Q) .normal L w:=h
theorem C8 {nx:Act→World→Prop}(h:¬ LetsOut Q):¬ LetsOut (Exit.then nx Q):=fun⟨a,w,hh⟩=>h ⟨a,w,hh⟩
theorem P6 {nx:Act→World→Prop}:¬ LetsOut (Exit.then nx (fun _ _ _=>False)):=fun⟨_,_,hh⟩=>hh
def AY (m:Nat)(P:Program)(n:Nat)(ops:List Oper)(Q:Post)(fuel:Nat)(listed:Array Bool)(L:List (Nat × Value))(w:World):Prop:=∀ a,St n L a→wpAnyIn Fence.wide m P .any ops.toArray Q fuel listed a w
variable {m fuel : Nat}{ops : List Oper}{listed : Array Bool}{o : Oper}
theorem A2j {o:Oper}{f x:Operand}{l:Nat}{ty:Array TypeId}{v:Value}{L:List (Nat × Value)}(ho:o.op=.call { callee:=.value f,args:=#[x],argTypes:=ty })(hf:ev L f=some (.func (.yield l) #[] #[]))(hx:ev L x=some v){r:Next}{w':World}(hy:(Instr.yield l #[v]).run P w=.ok r w') :
  ∀ ρ,Agree L o ρ→(execOp ρ o).run P w=.ok r w':=fun ρ ha=>by
 have h1:=ha.ev (by rw [ho];simp [Op.operands,Call.operands]) hf
 have h2:=ha.ev (by rw [ho];simp [Op.operands,Call.operands]) hx
 simp [execOp,ho,resolve,invoke,go_sem,h1,h2,hy]
theorem R2 {fn:Func}{S:Value→World→Prop}:¬ LetsOut (bodyPost P fn (Rt S)):=fun⟨_,_,v,e,_⟩=>by cases e
theorem C6 {id:Nat}(h:¬ LetsOut Q):¬ LetsOut (Exit.inBlock id Q):=fun⟨a,w,hh⟩=>h ⟨a,w,hh⟩
theorem S7 {ι:Type}{Lf:ι→List (Nat × Value)}{M:ι→World→Prop}{mz:ι→Nat}{x:ι}(h:¬ LetsOut Q):¬ LetsOut (Rnd n Lf M mz x Q):=fun⟨a,w,hh⟩=>h ⟨a,w,hh⟩
theorem D6s {o:Oper}{a:Act}{next next':Act→World→Prop}(hnx:∀ a w,next a w→next' a w)(h:o.wp P a w next Q):o.wpIn Fence.wide m P a w next' Q:=by
 refine⟨fun _ _=>trivial,?_⟩
 unfold Oper.wp at h
 show o.uponIn Fence.wide m P a next' Q ((execOp a.eval o).run P w)
 revert h
 generalize (execOp a.eval o).run P w=r
 intro h
 unfold Oper.upon at h
 unfold Oper.uponIn
 split at h
 ·exact hnx _ _ h
 ·exact hnx _ _ h
 ·exact hnx _ _ h
 ·refine⟨(fun e=>by cases e),callsIn_wide.2 (h.mono ?_)⟩
  rintro(v|c|_) w'' hh
  ·exact hnx _ _ hh
  ·exact hh
  ·exact hh
 ·exact⟨(fun e=>by cases e),fun c cs _=>let ⟨v,w',r,s⟩:=h c cs;⟨v,w',hnx _ _ r,stepsIn_wide.2 s⟩⟩
 ·exact h
 ·exact h.elim
theorem S8 (hQ : ¬ LetsOut Q){nx : Act → World → Prop}{ops : Array Oper}{is2 : List Nat}(hnx : ∀ a w, nx a w → wpOpsIn Fence.wide m P ops Q is2 a w) : ∀ (is : List Nat) (a : Act) (w : World), wpOps P ops (Exit.then nx Q) is a w → wpOpsIn Fence.wide m P ops Q (is ++ is2) a w
  | [],a,w,h=>hnx a w h
  | i :: rest, a, w, h => by
    unfold wpOps at h
    rw [List.cons_append]
    unfold wpOpsIn
    cases ho:ops[i]? with
    | none=>rw [ho] at h;exact S8 hQ hnx rest a w h
    | some o=>
      rw [ho] at h
      dsimp only at h ⊢
      by_cases hw:Region.wanted o (yielded ops a.tmps)=true
      · rw [if_pos hw] at h ⊢
        rcases h with h|⟨_,h⟩
        · refine D6s (Q:=Q) (fun a' w'=>S8 hQ hnx rest a' w') ?_
          unfold Oper.wp at h ⊢
          revert h
          generalize (execOp a.eval o).run P w=r
          intro h
          unfold Oper.upon at h ⊢
          split at h
          all_goals first
            | exact h
            | (refine h.mono ?_
               rintro(v|c|_) w'' hh
               · exact hh
               · exact hh
               · exact hh)
        · exact absurd h (C8 hQ)
      · rw [if_neg hw] at h ⊢
        exact⟨fun _ _=>trivial,S8 hQ hnx rest _ _ h⟩
def YK (m:Nat)(P:Program)(ops:List Oper)(Q:Post)(p:Nat):Act→World→Prop:=fun a w=>wpOpsIn Fence.wide m P ops.toArray Q (List.range' p (ops.length-p)) a w
theorem A7m {ops:List Oper}{Q:Post}(p:Nat)(hp:p≤ops.length):wpOps P ops.toArray Q (List.range' 0 p)=wpList P ops.toArray Q (ops.take p):=by
 have:=wpOps_eq_wpList (P:=P) (ops:=ops.toArray) (Q:=Q) (ops.take p)
 have hl:(ops.take p).length=p:=by rw [List.length_take];omega
 rw [hl] at this
 clear this hl
 have key:∀(l pre:List Oper),(pre++l) <+: ops→wpOps P ops.toArray Q (List.range' pre.length l.length)=wpList P ops.toArray Q l:=by
  intro l
  induction l with
  | nil=>intro pre _;funext a w;rfl
  | cons o l ih=>
   intro pre hpre
   obtain⟨t,ht⟩:=hpre
   have h0:ops.toArray[pre.length]?=some o:=by rw [List.getElem?_toArray,← ht];simp
   have ih':=ih (pre++[o]) ⟨t,by rw [← ht];simp⟩
   rw [List.length_append,List.length_singleton] at ih'
   funext a w
   simp only [List.length_cons,List.range'_succ,wpOps,h0,wpList,ih']
 have:=key (ops.take p) [] (List.take_prefix p ops)
 rw [List.length_take,Nat.min_eq_left hp] at this
 exact this
theorem C1u {id p:Nat}{ops:List Oper}(hQ:¬ LetsOut Q)(hp:Nat.ble p ops.length=true)(h:EL P n ops (Exit.then (YK m P ops Q p) Q) (ops.take p) L w):E P n (.region id ops.toArray false) Q L w:=fun a ha=>
 (wpIn_wide (n:=m)).1 (wpIn_region (by
  have hple:=Nat.le_of_ble_eq_true hp
  have e:List.range ops.toArray.size=List.range' 0 p++List.range' p (ops.length-p):=by
   have e0:=List.range'_append_1 (s:=0) (m:=p) (n:=ops.length-p)
   rw [Nat.zero_add] at e0
   rw [List.range_eq_range',List.size_toArray,e0];congr 1;omega
  rw [e]
  refine S8 hQ (nx:=YK m P ops Q p) (fun a w h=>h) _ a w ?_
  rw [A7m p hple]
  exact h a ha))
theorem D8p {p d l:Nat}{ops:List Oper}{o:Oper}{f x:Operand}{ty:Array TypeId}{v:Value}{R:Ending→World→Prop}(hQ:¬ LetsOut Q)(ho:ops[p]?=some o)(hg:gst ops L o=some true)(hd:odst n o.dst=some d)
  (hop:o.op=.call { callee:=.value f,args:=#[x],argTypes:=ty }) (hf:ev L f=some (.func (.yield l) #[] #[])) (hx:ev L x=some v) (hY:YieldAt Fence.wide (m-1) P l #[v] w R) (hpn:∀ c w',¬ R (.panicked c) w') (hu:∀ w',¬ R .outgrown w')
  (k:∀ u w',R (.returned u) w'→EL P n ops Q (ops.drop (p+1)) ((d,u)::L) w'):K n (Exit.then (YK m P ops Q p) Q) .normal L w:=fun a ha=>by
 have hpl:=(List.getElem?_eq_some_iff.1 ho).1
 show wpOpsIn Fence.wide m P ops.toArray Q (List.range' p (ops.length-p)) a w
 obtain⟨q,hq⟩:∃ q,ops.length-p=q+1:=⟨ops.length-p-1,by omega⟩
 rw [hq,List.range'_succ]
 unfold wpOpsIn
 rw [show ops.toArray[p]?=some o from by simpa using ho]
 dsimp only
 rw [if_pos (M4 ha hg)]
 obtain⟨fn,tmps,assign,body,hy,hR⟩:=hY
 refine⟨fun _ _=>trivial,?_⟩
 show o.uponIn Fence.wide m P a _ Q ((execOp a.eval o).run P w)
 rw [A2j hop hf hx hy a.eval (ha.agree o),Oper.uponIn_round]
 refine⟨(fun e=>by cases e),hR.mono ?_⟩
 rintro(u|c|_) w' hh
 ·have hput:=ha.put (D1 hd).2 u
  rw [(D1 hd).1] at hput
  have hE:=k u w' hh _ hput
  have e2:List.range' (p+1) q=List.range' (p+1) q++[]:=by simp
  rw [e2,(D1 hd).1]
  refine S8 hQ (nx:=Q .normal) (is2:=[]) (fun _ _ h=>h) _ _ _ ?_
  have hX:wpOps P ops.toArray Q (List.range' (p+1) q)=wpList P ops.toArray Q (ops.drop (p+1)):=by
   have:=wpOps_eq_wpList (P:=P) (ops:=ops.toArray) (Q:=Q) (ops.drop (p+1)) (p+1) (fun j=>by rw [List.getElem?_drop,List.getElem?_toArray])
   rw [List.length_drop,show ops.length-(p+1)=q by omega] at this
   exact this
  have hQQ:Exit.then (Q .normal) Q=Q:=by funext e a w;cases e <;> rfl
  rw [hQQ,hX]
  exact hE
 ·exact absurd hh (hpn c w')
 ·exact absurd hh (hu w')
theorem A8m {t:TypeId}{z:Value}{size bytes:Nat}[TI P t z size bytes]{o:Oper}{x y:Operand}{ρ:Operand→Value}{v:Value}{b off:Nat}{e:TypeId}{cs:List Value}(ho:o.op=.store t x y)
  (hx:ρ x=.pointer (some ⟨b,off,none⟩)) (hy:ρ y=v) (hs:v.cells.size=size) (h1:v.cells.toList.all Value.oneCell'=true) (hr:Row w b e cs) (hl:off+size≤cs.length) :
  ∃ w',(execOp ρ o).run P w=.ok .skip w'∧Row w' b e (cs.take off++v.cells.toList++cs.drop (off+size))∧w.grownBy w' (some b):=by
 have h:=run_storeCells_at (P:=P) b off e v.cells.toList 0 cs.toArray w hr (by simp [hs];exact hl) (fun u hu=>List.all_eq_true.1 h1 u hu)
 simp only [Nat.add_zero] at h
 refine⟨w.setRow b (cs.take off++v.cells.toList++cs.drop (off+v.cells.toList.length)).toArray,?_,?_,⟨rfl,rfl,rfl,by simp,fun k hk hne=>setRow_other w b k _ (fun e=>hne (by rw [e]))⟩⟩
 ·have h4:=run_sizeOf (P:=P) (t:=t) w
  simp only [execOp,ho,hx,hy,Instr.storeAt,Instr.sureAddr,storeVar,Sem.run_bind,Sem.run_pure,Result.andThen_ok,h4,hs]
  rw [if_neg (by simp)]
  simp only [h,Result.andThen_ok]
 ·have:=setRow_heap w b cs.toArray (cs.take off++v.cells.toList++cs.drop (off+v.cells.toList.length)).toArray e (0,0) hr
  simp only [Array.length_toList,hs] at this ⊢
  exact this
theorem B1x {fn:Func}{s:Tmp}{ty:TypeId}{d:TypeDesc}{b:Nat}{v:Value}{a:Act}[UT P ty d](hr:fn.results=#[.cell s ty])(hd:K1 d=false)(ha:a.tmps[s]?=some (.pointer (some ⟨b,0,none⟩)))(hc:w.cell? ⟨b,0,none⟩=some v) :
  (results fn a.tmps).run P w=.ok v w:=by
 have h3:=R1 (P:=P) (t:=ty) w
 rw [hd] at h3
 simp [results,hr,Array.getD_eq_getD_getElem?,ha,Instr.loadAt,Instr.sureAddr,loadVar,go_sem,h3,hc]
theorem St.round {a:Act}(ha:St n L a){s:Tmp}(hs:Nat.blt s n=true)(v:Value):St n ((s,v)::L) { tmps:=(#[s].zip #[v]).foldl (fun t (p,x)=>t.setIfInBounds p x) a.tmps,defers:=[] }:=by
 have:=ha.put (d:=some s) (show Nat.ble (s+1) n=true from hs) v
 have e:({ tmps:=(#[s].zip #[v]).foldl (fun t (p,x)=>t.setIfInBounds p x) a.tmps,defers:=[] }:Act)=a.put (some s) v:=by
  have hn:=ha.nod
  obtain⟨tm,df⟩:=a
  simp only at hn
  subst hn
  simp [Act.put]
 rw [e]
 exact this
theorem E_in {m:Nat}{c:Code}(h:∀ a,St n L a→c.wpIn Fence.wide m P Q a w):E P n c Q L w:=fun a ha=>(wpIn_wide (n:=m)).1 (h a ha)
theorem K_of {e:Exit}(h:∀ a,St n L a→Q e a w):K n Q e L w:=h
theorem W9 {l m:Nat}{c:Code}{a:Act}(h:EI l m P n c Q L w)(ha:St n L a):c.wpIn (Fence.wide.inRound l) m P Q a w:=h a ha
end
end Go.En
namespace Go.En
open Go Go.RowKit
section
variable {P : Program}{n : Nat}{Q : Post}{L : List (Nat × Value)}{w : World}{l m : Nat}
theorem C6h {o:Oper}{a:Act}{nx next':Act→World→Prop}{next:Act→World→Prop}(hd:∀ c,o.op≠.defer c)(hnx:∀ a w,next a w→next' a w)(h:o.wp P a w next (Exit.then nx Q)):o.wpIn (Fence.wide.inRound l) m P a w next' Q:=by
  refine A8t (Q:=Q) hd hnx ?_
  unfold Oper.wp at h ⊢
  revert h
  generalize (execOp a.eval o).run P w=r
  intro h
  unfold Oper.upon at h ⊢
  split at h
  all_goals first
    | exact h
    | (refine h.mono ?_
       rintro(v|c|_) w'' hh
       · exact hh
       · exact hh
       · exact hh)
theorem R8 (hQ : ¬ LetsOut Q){nx : Act → World → Prop}{ops : Array Oper}{is2 : List Nat}(hnx : ∀ a w, nx a w → wpOpsIn (Fence.wide.inRound l) m P ops Q is2 a w) : ∀ (is : List Nat) (a : Act) (w : World), (∀ i ∈ is, ∀ (o : Oper), ops[i]? = some o → ∀ c, o.op ≠ .defer c) → wpOps P ops (Exit.then nx Q) is a w → wpOpsIn (Fence.wide.inRound l) m P ops Q (is ++ is2) a w
 | [],a,w,_,h=>hnx a w h
 | i :: rest, a, w, hd, h => by
  unfold wpOps at h
  rw [List.cons_append]
  unfold wpOpsIn
  have hd2:∀ j∈rest,∀(o:Oper),ops[j]?=some o→∀ c,o.op≠.defer c:=fun j hj=>hd j (List.mem_cons_of_mem _ hj)
  cases ho:ops[i]? with
  | none=>rw [ho] at h;exact R8 hQ hnx rest a w hd2 h
  | some o=>
   rw [ho] at h
   dsimp only at h ⊢
   by_cases hw:Region.wanted o (yielded ops a.tmps)=true
   ·rw [if_pos hw] at h ⊢
    rcases h with h|⟨_,h⟩
    ·exact C6h (hd i (List.mem_cons_self ..) o ho) (fun a' w'=>R8 hQ hnx rest a' w' hd2) h
    ·exact absurd h (C8 hQ)
   ·rw [if_neg hw] at h ⊢
    exact⟨fun _ _=>trivial,R8 hQ hnx rest _ _ hd2 h⟩
def YI (l m:Nat)(P:Program)(ops:List Oper)(Q:Post)(p:Nat):Act→World→Prop:=fun a w=>wpOpsIn (Fence.wide.inRound l) m P ops.toArray Q (List.range' p (ops.length-p)) a w
theorem D8t {id p:Nat}{ops:List Oper}(hQ:¬ LetsOut Q)(hp:Nat.ble p ops.length=true)(hnd:nodefer ops=true)(h:EL P n ops (Exit.then (YI l m P ops Q p) Q) (ops.take p) L w):EI l m P n (.region id ops.toArray false) Q L w:=fun a ha=>
 wpIn_region (by
  have hple:=Nat.le_of_ble_eq_true hp
  have e:List.range ops.toArray.size=List.range' 0 p++List.range' p (ops.length-p):=by
   have e0:=List.range'_append_1 (s:=0) (m:=p) (n:=ops.length-p)
   rw [Nat.zero_add] at e0
   rw [List.range_eq_range',List.size_toArray,e0];congr 1;omega
  rw [e]
  refine R8 hQ (nx:=YI l m P ops Q p) (fun a w h=>h) _ a w (fun i _ o ho=>Z5 hnd i o ho) ?_
  rw [A7m p hple]
  exact h a ha)
theorem D4n {p d l1 m1:Nat}{ops:List Oper}{o:Oper}{f x:Operand}{ty:Array TypeId}{v:Value}{R:Ending→World→Prop}(hQ:¬ LetsOut Q)(hnd:nodefer ops=true)(ho:ops[p]?=some o)(hg:gst ops L o=some true)(hd:odst n o.dst=some d)
  (hop:o.op=.call { callee:=.value f,args:=#[x],argTypes:=ty }) (hf:ev L f=some (.func (.yield l1) #[] #[])) (hx:ev L x=some v) (hY:YieldAt Fence.wide m1 P l1 #[v] w R) (hpn:∀ c w',¬ R (.panicked c) w') (hu:∀ w',¬ R .outgrown w')
  (k:∀ u w',R (.returned u) w'→EL P n ops Q (ops.drop (p+1)) ((d,u)::L) w'):K n (Exit.then (YI l m P ops Q p) Q) .normal L w:=fun a ha=>by
 have hpl:=(List.getElem?_eq_some_iff.1 ho).1
 show wpOpsIn (Fence.wide.inRound l) m P ops.toArray Q (List.range' p (ops.length-p)) a w
 obtain⟨q,hq⟩:∃ q,ops.length-p=q+1:=⟨ops.length-p-1,by omega⟩
 rw [hq,List.range'_succ]
 unfold wpOpsIn
 rw [show ops.toArray[p]?=some o from by simpa using ho]
 dsimp only
 rw [if_pos (M4 ha hg)]
 obtain⟨fn,tmps,assign,body,hy,hR⟩:=hY
 refine⟨fun _ _=>trivial,?_⟩
 rw [Oper.semAt_eq _ _ _ (fun c e=>by rw [hop] at e;cases e)]
 rw [A2j hop hf hx hy a.eval (ha.agree o),Oper.uponIn_round]
 refine⟨(fun e=>by cases e),?_⟩
 have hR2:RoundIn (Fence.wide.inRound l) (m-1) P l1 fn tmps assign body w R:=⟨trivial,fun c cs _=>hR.2 c cs (room_wide _)⟩
 refine hR2.mono ?_
 rintro(u|c|_) w' hh
 ·have hput:=ha.put (D1 hd).2 u
  rw [(D1 hd).1] at hput
  have hE:=k u w' hh _ hput
  have e2:List.range' (p+1) q=List.range' (p+1) q++[]:=by simp
  rw [e2,(D1 hd).1]
  refine R8 hQ (nx:=Q .normal) (is2:=[]) (fun _ _ h=>h) _ _ _ (fun i _ o ho=>Z5 hnd i o ho) ?_
  have hX:wpOps P ops.toArray Q (List.range' (p+1) q)=wpList P ops.toArray Q (ops.drop (p+1)):=by
   have:=wpOps_eq_wpList (P:=P) (ops:=ops.toArray) (Q:=Q) (ops.drop (p+1)) (p+1) (fun j=>by rw [List.getElem?_drop,List.getElem?_toArray])
   rw [List.length_drop,show ops.length-(p+1)=q by omega] at this
   exact this
  have hQQ:Exit.then (Q .normal) Q=Q:=by funext e a w;cases e <;> rfl
  rw [hQQ,hX]
  exact hE
 ·exact absurd hh (hpn c w')
 ·exact absurd hh (hu w')
theorem A8l {o:Oper}{f x y:Operand}{l:Nat}{ty:Array TypeId}{v u:Value}{L:List (Nat × Value)}(ho:o.op=.call { callee:=.value f,args:=#[x,y],argTypes:=ty })(hf:ev L f=some (.func (.yield l) #[] #[]))(hx:ev L x=some v)(hy:ev L y=some u){r:Next}{w':World}(hyy:(Instr.yield l #[v,u]).run P w=.ok r w') :
  ∀ ρ,Agree L o ρ→(execOp ρ o).run P w=.ok r w':=fun ρ ha=>by
 have h1:=ha.ev (by rw [ho];simp [Op.operands,Call.operands]) hf
 have h2:=ha.ev (by rw [ho];simp [Op.operands,Call.operands]) hx
 have h3:=ha.ev (by rw [ho];simp [Op.operands,Call.operands]) hy
 simp [execOp,ho,resolve,invoke,go_sem,h1,h2,h3,hyy]
theorem B9y {p d l:Nat}{ops:List Oper}{o:Oper}{f x y:Operand}{ty:Array TypeId}{v u0:Value}{R:Ending→World→Prop}(hQ:¬ LetsOut Q)(ho:ops[p]?=some o)(hg:gst ops L o=some true)(hd:odst n o.dst=some d)
  (hop:o.op=.call { callee:=.value f,args:=#[x,y],argTypes:=ty }) (hf:ev L f=some (.func (.yield l) #[] #[])) (hx:ev L x=some v) (hy0:ev L y=some u0) (hY:YieldAt Fence.wide (m-1) P l #[v,u0] w R) (hpn:∀ c w',¬ R (.panicked c) w') (hu:∀ w',¬ R .outgrown w')
  (k:∀ u w',R (.returned u) w'→EL P n ops Q (ops.drop (p+1)) ((d,u)::L) w'):K n (Exit.then (YK m P ops Q p) Q) .normal L w:=fun a ha=>by
 have hpl:=(List.getElem?_eq_some_iff.1 ho).1
 show wpOpsIn Fence.wide m P ops.toArray Q (List.range' p (ops.length-p)) a w
 obtain⟨q,hq⟩:∃ q,ops.length-p=q+1:=⟨ops.length-p-1,by omega⟩
 rw [hq,List.range'_succ]
 unfold wpOpsIn
 rw [show ops.toArray[p]?=some o from by simpa using ho]
 dsimp only
 rw [if_pos (M4 ha hg)]
 obtain⟨fn,tmps,assign,body,hy,hR⟩:=hY
 refine⟨fun _ _=>trivial,?_⟩
 show o.uponIn Fence.wide m P a _ Q ((execOp a.eval o).run P w)
 rw [A8l hop hf hx hy0 hy a.eval (ha.agree o),Oper.uponIn_round]
 refine⟨(fun e=>by cases e),hR.mono ?_⟩
 rintro(u|c|_) w' hh
 ·have hput:=ha.put (D1 hd).2 u
  rw [(D1 hd).1] at hput
  have hE:=k u w' hh _ hput
  have e2:List.range' (p+1) q=List.range' (p+1) q++[]:=by simp
  rw [e2,(D1 hd).1]
  refine S8 hQ (nx:=Q .normal) (is2:=[]) (fun _ _ h=>h) _ _ _ ?_
  have hX:wpOps P ops.toArray Q (List.range' (p+1) q)=wpList P ops.toArray Q (ops.drop (p+1)):=by
   have:=wpOps_eq_wpList (P:=P) (ops:=ops.toArray) (Q:=Q) (ops.drop (p+1)) (p+1) (fun j=>by rw [List.getElem?_drop,List.getElem?_toArray])
   rw [List.length_drop,show ops.length-(p+1)=q by omega] at this
   exact this
  have hQQ:Exit.then (Q .normal) Q=Q:=by funext e a w;cases e <;> rfl
  rw [hQQ,hX]
  exact hE
 ·exact absurd hh (hpn c w')
 ·exact absurd hh (hu w')
end
end Go.En
set_option maxHeartbeats 8000000
set_option maxRecDepth 8000
namespace Go.En
open Go Go.RowKit
theorem St.round2 {n:Nat}{L:List (Nat × Value)}{a:Act}(ha:St n L a){s1 s2:Tmp}(hs1:Nat.blt s1 n=true)(hs2:Nat.blt s2 n=true)(v1 v2:Value):St n ((s2,v2)::(s1,v1)::L) { tmps:=(#[s1,s2].zip #[v1,v2]).foldl (fun t (p,x)=>t.setIfInBounds p x) a.tmps,defers:=[] }:=by
 have h1:=ha.put (d:=some s1) (show Nat.ble (s1+1) n=true from hs1) v1
 have h2:=h1.put (d:=some s2) (show Nat.ble (s2+1) n=true from hs2) v2
 have e:({ tmps:=(#[s1,s2].zip #[v1,v2]).foldl (fun t (p,x)=>t.setIfInBounds p x) a.tmps,defers:=[] }:Act)=(a.put (some s1) v1).put (some s2) v2:=by
  have hn:=ha.nod
  obtain⟨tm,df⟩:=a
  simp only at hn
  subst hn
  simp [Act.put]
 rw [e]
 exact h2
end Go.En
namespace Go.Proofs.YtojadfppncgphaaGreatDoor
open Go.RowKit Go.En Go.Dl Go.Tp
theorem W7 {P:Program}{n:Nat}{L:List (Nat × Value)}{w:World}{fn:Func}{S:Value→World→Prop}(hr:fn.results=#[])(hs:S (.tuple #[]) w):K n (bodyPost P fn (Rt S)) .ret L w:=fun a ha=>by
 exact⟨ha.nod,.tuple #[],results_none hr _ _ _,_,rfl,hs⟩
def A4u (c:Cons):List Value:=[int c.person,int c.rcd,int c.day,int c.kind]
theorem D7x (c:Cons):Y7 c=(A4u c).map Dt.v:=rfl
instance:Rep Cons where
 sz:=4
 pos:=by decide
 at_ _ _ c cs:=cs=A4u c
 len h:=by rw [h];rfl
 one h:=by rw [h];rfl
 move h _:=h
theorem B9j {G:Nat→Prop}(w:World):∀ l:List Cons,AtsG G w l (l.map A4u)
 | []=>trivial
 | _::r=>⟨rfl,B9j w r⟩
theorem D3x {G:Nat→Prop}{w:World}{u:Value}{l:List Cons}(h:DR G w (.s 4 (l.map Y7)) u):SlG G w u l:=by
 rw [DR] at h
 obtain⟨a,cap,h1,h2,h3,h4⟩:=h
 rw [List.length_map] at h1 h2 h3 h4
 refine⟨a,cap,h1,h2,h3,fun h0=>?_⟩
 obtain⟨b,off,h5,h6,h7⟩:=h4 h0
 exact⟨b,off,h5,h6,_,B9j w l,A8p D7x (fun _=>rfl) l off h7⟩
def cEl (l:List Cons)(i:Int):Cons:=(l[i.toNat]?).getD ⟨0,0,0,0⟩
theorem B6a {l:List Cons}{k:Nat}{c:Cons}(h:l[k]?=some c):cEl l (k:Int)=c:=by unfold cEl;rw [Int.toNat_natCast,h];rfl
def dnI:Nat→List Int
 | 0=>[]
 | k+1=>(k:Int)::dnI k
def okC (l:List Cons)(p r i:Int):Bool:=decide ((cEl l i).person=p)&&(decide ((cEl l i).rcd=0)||decide ((cEl l i).rcd=r))
theorem D3a {l:List Cons}{p r d:Int}{k:Nat}{c:Cons}(h:l[k]?=some c):cAt p r d c=(okC l p r k&&decide ((cEl l (k:Int)).day≤d)):=by
 unfold okC cAt
 rw [B6a h]
theorem C5i {l:List Cons}{p r d:Int}:∀ n,n≤l.length→(∀ y∈(dnI n).filter (okC l p r),¬ (cEl l y).day≤d)→atR p r d (l.take n)=0
 | 0,_,_=>rfl
 | n + 1, hn, h => by
  have hc:=List.getElem?_eq_getElem (show n<l.length by omega)
  rw [B0g hc,D3a hc]
  have ih:=C5i (l:=l) (p:=p) (r:=r) (d:=d) n (by omega) (fun y hy=>h y (by
   rw [dnI,List.filter_cons]
   split
   ·exact List.mem_cons_of_mem _ hy
   ·exact hy))
  cases ho:okC l p r (n:Int) with
  | false=>rw [Bool.false_and,if_neg (by decide)];exact ih
  | true=>
   have:=h n (by rw [dnI,List.filter_cons,if_pos ho];exact List.mem_cons_self ..)
   rw [decide_eq_false this,Bool.and_false,if_neg (by decide)];exact ih
theorem B0f {l : List Cons}{p r d x : Int} : ∀ n pre, n ≤ l.length → pre ++ [x] <+: (dnI n).filter (okC l p r) → (∀ y ∈ pre, ¬ (cEl l y).day ≤ d) → (cEl l x).day ≤ d → atR p r d (l.take n) = (cEl l x).kind
 | 0,pre,_,h,_,_=>by
  have:=h.length_le
  simp [dnI] at this
 | n + 1, pre, hn, h, hpre, hx => by
  have hc:=List.getElem?_eq_getElem (show n<l.length by omega)
  rw [B0g hc,D3a hc]
  rw [dnI,List.filter_cons] at h
  cases ho:okC l p r (n:Int) with
  | false=>
   rw [ho,if_neg (by decide)] at h
   rw [Bool.false_and,if_neg (by decide)]
   exact B0f n pre (by omega) h hpre hx
  | true=>
   rw [ho,if_pos rfl] at h
   rw [Bool.true_and]
   obtain⟨q,hq⟩:=h
   cases pre with
   | nil=>
    rw [List.nil_append,List.singleton_append,List.cons.injEq] at hq
    have hxn:=hq.1
    subst hxn
    rw [decide_eq_true hx,if_pos rfl,B6a hc]
   | cons a pre=>
    rw [List.cons_append,List.cons_append,List.cons.injEq] at hq
    obtain⟨ha,hq⟩:=hq
    subst ha
    rw [decide_eq_false (hpre _ (List.mem_cons_self ..)),if_neg (by decide)]
    exact B0f n pre (by omega) ⟨q,hq⟩ (fun y hy=>hpre y (List.mem_cons_of_mem _ hy)) hx
theorem G4j {zs pre:List Int}{k:Nat}(h:pre++dnI (k+1)=zs):pre++[(k:Int)] <+: zs∧pre++[(k:Int)]++dnI k=zs:=by
 rw [dnI] at h
 exact⟨⟨dnI k,by rw [← h];simp⟩,by rw [← h];simp⟩
attribute [local irreducible] E EL K Val Enters Rt Calls bodyPost Code.wp RQ EI YK YI bodyPostM
theorem D3g (l:List Cons)(hl:l.length≤1000000){T G:Nat→Prop}{la:Option Addr}{lc Bb:Nat}{w:World}(hv:SlG G w (.slice la l.length lc) l)(hG:∀ b,G b→¬ T b)(rb:Row w Bb 42 [.slice la l.length lc])(hTb:¬ T Bb)(n:Nat) :
  SeqZ T n Tryz.prog 277 #[.pointer (some ⟨Bb,0,none⟩)] (fun i=>#[int i,.agg (A4u (cEl l i)).toArray]) (dnI l.length) w:=by
 intro l1 J Jx W hlw hlW hxW hJ hJx hY h0
 obtain⟨zs,hzs⟩:∃ zs,zs=dnI l.length:=⟨_,rfl⟩
 rw [← hzs] at hY ⊢
 have hbl:Bb<w.heap.size:=rb.lt
 have c277:Calls Tryz.prog 277 #[.func (.yield l1) #[] #[],.pointer (some ⟨Bb,0,none⟩)] W (Rt fun _ W'=>J zs W'∨∃ pre,pre <+: zs∧Jx pre W'):=by
  have rW:=rb.ext hxW
  refine G3 (n:=19) (args:=[.func (.yield l1) #[] #[],.pointer (some ⟨Bb,0,none⟩)]) Tryz.func277 rfl Tryz.ntmps277 (by simp) ?_
  (repeat' (first|refine Ly ?_|fail))
  refine A0e (ι:=Int × Nat × List Int) (fun z=>[(0,.func (.yield l1) #[] #[]),(1,.pointer (some ⟨Bb,0,none⟩)),(3,int z.1)])
   (fun z wr=>z.1=(z.2.1:Int)-1∧z.2.1≤l.length∧Kz (fun k=>k=l1∨T k) W wr∧z.2.2++dnI z.2.1=zs∧J z.2.2 wr) (fun z=>z.2.1) ((l.length:Int)-1,l.length,[])
   ⟨rfl,rfl,rfl,trivial⟩ ⟨rfl,Nat.le_refl _,Kz.refl _ _,by rw [hzs];rfl,h0⟩ ?_
  rintro⟨i,k,pre⟩ wr ⟨hi,hk,hkz,hch,hj⟩
  dsimp only at hi hk hkz hch hj ⊢
  cases k with
  | zero=>
   have hi0:i = -1:=by omega
   subst hi0
   (repeat' (first|refine Sy ?_|refine Dy (fun hh=>?_) fun hh=>?_))
   all_goals (try (exfalso;omega))
   refine B1v (W7 Z (Or.inl ?_))
   rw [← hch,dnI,List.append_nil]
   exact hj
  | succ k=>
   have hi0:i=(k:Int):=by omega
   subst hi0
   obtain⟨c,hc⟩:∃ c,l[k]?=some c:=⟨_,List.getElem?_eq_getElem (by omega)⟩
   obtain⟨hp1,hp2⟩:=G4j hch
   have rr:Row wr Bb 42 [.slice la l.length lc]:=hkz.row (fun e=>by rcases e with e|e;omega;exact hTb e) rW
   have hvr:SlG G wr (.slice la l.length lc) l:=hv.move fun b hb hlt=>⟨hb,(hkz.same b (Nat.lt_of_lt_of_le hlt hxW.size) (fun e=>by rcases e with e|e;omega;exact hG b hb e)).trans (hxW.block hlt)⟩
   obtain⟨_,_,he,_,_,hp⟩:=hvr.sl
   obtain⟨b,off,hla⟩:=hp (by omega)
   cases he
   subst hla
   obtain⟨cs,hcs,hat⟩:=hvr.elem hc
   rw [show cs=[int c.person,int c.rcd,int c.day,int c.kind] from hcs] at hat
   (repeat' ((fail_if_success (refine J2 (x:=(Code.region 3 _ _)) ?_));first|refine Sy ?_|refine Dy (fun hh=>?_) fun hh=>?_))
   all_goals (try (exfalso;omega))
   refine J2 ?_
   refine C1u (m:=n) (p:=6) (by repeat first|exact R2|apply C8|apply C6|apply S7) rfl ?_
   dsimp only [List.take]
   (repeat' (first|refine eV Z Z (B7 (m:=k) Z Z Z (by first|rfl|omega) (by omega)) ?_|refine Ly ?_|fail))
   have hYx:=hY pre k wr hj hp1
   dsimp only at hYx
   rw [B6a hc] at hYx
   refine B9y (by repeat first|exact R2|apply C8|apply C6|apply S7) rfl rfl rfl rfl rfl rfl rfl hYx (fun c w' hh=>by rcases hh with⟨h,_⟩|⟨h,_⟩ <;> cases h) (fun w' hh=>by rcases hh with⟨h,_⟩|⟨h,_⟩ <;> cases h) (fun u w' hh=>?_)
   rcases hh with⟨hu,hj2,hgr⟩|⟨hu,hjx,_⟩
   ·cases hu
    (repeat' (first|refine Sy ?_|fail))
    all_goals (first|(exfalso;omega)|skip)
    exact A2q ((k:Int)-1,k,pre++[(k:Int)]) ⟨rfl,rfl,rfl,trivial⟩ ⟨rfl,by dsimp only;omega,hkz.trans hgr,hp2,hj2⟩ (by dsimp only;omega)
   ·cases hu
    (repeat' (first|refine Sy ?_|fail))
    all_goals (first|(exfalso;omega)|skip)
    exact W7 Z (Or.inr ⟨_,hp1,hjx⟩)
 refine(callsIn_wide (n:=n)).2 (c277.mono ?_)
 rintro e W' h
 unfold Rt at h
 obtain⟨v,rfl,h⟩:=h
 exact⟨⟨v,rfl⟩,h⟩
theorem B9r (v:Value)(w:World):Calls Tryz.prog 250 #[v] w (Rt fun u w'=>∃ Bb,u=.func (.func 277) #[] #[.pointer (some ⟨Bb,0,none⟩)]∧Row w' Bb 42 v.cells.toList∧w.heap.size≤Bb∧Ext w w'):=by
 refine G3 (n:=4) (args:=[v]) Tryz.func250 rfl Tryz.ntmps250 (by simp) ?_
 refine J2 ?_
 refine H8 ?_
 refine O9 Z Z Z Z (fun bL wL xL hbL rL=>?_)
 (repeat' (first|refine eV Z Z (J5 (vs:=[.pointer (some ⟨bL,0,none⟩)]) Z Z) ?_|refine Sy ?_|fail))
 exact Q1 Z Z ⟨bL,rfl,rL,by omega,xL⟩
theorem B5p (v:Value)(p r:Int)(w:World):Calls Tryz.prog 203 #[v,int p,int r] w (Rt fun u w'=>∃ B1 B2 B3,u=.func (.func 249) #[] #[.pointer (some ⟨B1,0,none⟩),.pointer (some ⟨B2,0,none⟩),.pointer (some ⟨B3,0,none⟩)]∧Row w' B1 42 v.cells.toList∧Row w' B2 3 [int p]∧Row w' B3 3 [int r]∧w.heap.size≤B1∧w.heap.size≤B2∧w.heap.size≤B3∧Ext w w'):=by
 refine G3 (n:=8) (args:=[v,int p,int r]) Tryz.func203 rfl Tryz.ntmps203 (by simp) ?_
 refine J2 ?_
 refine H8 ?_
 refine O9 Z Z Z Z (fun bL wL xL hbL rL=>?_)
 refine O9 Z Z Z Z (fun bI wI xI hbI rI=>?_)
 refine O9 Z Z Z Z (fun bJ wJ xJ hbJ rJ=>?_)
 (repeat' (first|refine eV Z Z (J5 (vs:=[.pointer (some ⟨bL,0,none⟩),.pointer (some ⟨bI,0,none⟩),.pointer (some ⟨bJ,0,none⟩)]) Z Z) ?_|refine Sy ?_|fail))
 have h1:=xL.size
 have h2:=xI.size
 exact Q1 Z Z ⟨bL,bI,bJ,rfl,(rL.ext xI).ext xJ,rI.ext xJ,rJ,by omega,by omega,by omega,(xL.trans xI).trans xJ⟩
end Go.Proofs.YtojadfppncgphaaGreatDoor
