/-
  Walks: run, with the closure of Uses. A range over a function: the engine in a round's frame (EI), a drawn region that calls yield (AY), a function's contract with marks (calls_EM).
-/
import Derived.Test.YtjicdgejhkgpgaaGreatDoorYv
import Derived.Test.YtjicdgejhkgpgaaGreatDoorYq
import Derived.Test.YtjicdgejhkgpgaaGreatDoorYh
import Derived.Test.YtjicdgejhkgpgaaGreatDoorE
import Derived.RangeFuncNested
import Derived.RangeFuncLeaves
import Derived.RangeFuncBound
import Derived.OrdersIn
import Derived.Scope
set_option linter.all false
namespace Go.Proofs.YtjicdgejhkgpgaaGreatDoor
open Go.RowKit Go.En Go.Pv Go.MapKept
theorem ret_00 {P:Program} {n:Nat} {L:List (Nat × Value)} {w:World} {fn:Func} {S:Value→World→Prop} (hr:fn.results=#[]) (hs:S (.tuple #[]) w):K n (bodyPost P fn (Rt S)) .ret L w:=fun a ha=>
  ⟨ha.nod,.tuple #[],results_none hr _ _ _,_,rfl,hs⟩
theorem run_makeMapK {P:Program} {o:Oper} {t:TypeId} (ho:o.op=.makeMap t none) (ρ:Operand→Value) (w:World):(execOp ρ o).run P w=.ok (.value (.map (some w.heap.size))) (w.alloc (.map #[] 0)):=by
  simp [execOp,ho,Instr.makeMap,go_sem]
theorem RQ_makeMap {P:Program} {n:Nat} {Q:Post} {ops:List Oper} {w0:World} {o:Oper} {rest tl:List Oper} {G:List (Nat × Ent)} {d:Nat} {t:TypeId} (hg:ggst ops G o=some true) (hd:odst n o.dst=some d) (ho:o.op=.makeMap t none)
    (k:RQ P n ops w0 Q rest tl ((d,.r (fun u w=>∃ b,u=.map (some b)∧w0.heap.size≤b∧MapK (κ:=List UInt8) w b (fun _=>none)))::G)):RQ P n ops w0 Q (o::rest) tl G:=
  RW_op (T:=.r (fun u w=>∃ b,u=.map (some b)∧w0.heap.size≤b∧MapK (κ:=List UInt8) w b (fun _=>none))) hg (odst_eq hd).2 (fun _ _ _ _ xe h=>by obtain⟨b,e,h1,h2⟩:=h;exact⟨b,e,h1,h2.ext xe⟩)
    (fun w _ hw _ ρ _=>.inl ⟨_,_,run_makeMapK ho ρ w,⟨w.heap.size,rfl,hw.size,⟨#[],0,(heap_alloc w _).1,stamped_empty 0,by simp,by simp⟩⟩,ext_alloc _ _⟩) (by rw [(odst_eq hd).1];exact k)
attribute [local irreducible] E EL K Val Enters Rt Calls bodyPost Code.wp RQ
set_option maxHeartbeats 8000000 in
set_option maxRecDepth 8000 in
theorem run70_any {g:Lg} (hok:LangOK g) (hro:∀ r∈g.rules,RulOK r) (h185:SensC g.lex) (ws:List Int) (id:Int):RunC g ws id:=by
  intro pv uv tv rv sv fv ev wv bI bU w hne hg hw hI hU
  have hw0:=hw
  obtain⟨wa,wc,rfl,_,_,_⟩:=hw.sl
  refine calls_E (n:=46) (args:=[.agg #[pv,str g.oname,uv,tv,rv,int g.net.states,sv,fv,ev],.slice wa ws.length wc,.func (.func 71) #[] #[.pointer (some ⟨bI,0,none⟩),.pointer (some ⟨bU,0,none⟩)] ]) Tryz.func70 rfl Tryz.ntmps70 (by simp) ?_
  refine E_seq ?_
  refine E_region ?_
  refine EL_box Z Z Z Z (fun bG wG xG hbG rG0=>?_)
  have rG:Row wG bG 37 [pv,str g.oname,uv,tv,rv,int g.net.states,sv,fv,ev]:=rG0
  clear rG0
  by_cases hsz:ws.length≠0∧ws.length≤24
  · (repeat' ((fail_if_success (refine E_seq (x:=(Code.region 2 _ _)) ?_));first|(refine at_EL ?_;first|refine eN ?_|refine eO Z Z ?_|refine eV Z Z (zA Z Z) ?_|(refine at_bin ?_;first|refine eD Z Z (zM Z Z Z) (fun hh=>?_) (fun hh=>?_)|refine eD Z Z (zO Z Z Z) (fun hh=>?_) (fun hh=>?_))|(refine at_call ?_;first|refine eV Z Z (zK Z Z) ?_)|refine eV Z Z (zC Z Z Z) ?_|refine eV Z Z (zD Z Z Z) ?_)|(refine at_K ?_;first|refine K_then ?_|refine K_then_ret ?_)|(refine at_E ?_;first|refine E_seq ?_|refine E_region ?_|refine E_cond_t Z ?_|refine E_cond_f Z ?_|refine E_skip ?_|refine E_ret ?_)))
    all_goals (try (exfalso;omega))
    have csh:=fun wz (hx:Ext w wz)=>shrinks107_any g.rules rv wz (hg.rules.ext hx).any
    (repeat' (first|refine E_dm (id:=2) 7 mixedOk (by kernel_rfl) Z ?_|refine yV Z Z (fun wq _ xq=>val_load Z Z Z ((Row.ext (by assumption) xq).cellAt (by rfl))) ?_|refine yV Z Z (fun wq _ xq=>val_loadA Z Z Z (Row.ext (by assumption) xq).at (by rfl)) ?_|refine RQ_makeMap Z Z Z ?_|refine RQ_call Z Z (fun _ _ _=>entersF Z Z en107) (fun wq xq=>csh wq (xG.trans xq)) ?_|(refine RQ_end (fun wq δ xq hR=>?_))|(refine at_E ?_;first|refine E_seq ?_)|(refine at_RQ ?_;first|refine yV Z Z (fun _ _ _=>zA Z Z) ?_|refine yV Z Z (fun _ _ _=>zH Z Z) ?_)))
    obtain⟨bT,eT,hgT,mT⟩:=hR 22 _ rfl
    refine eV Z Z (val_build (vs:=[(0,.agg #[pv,str g.oname,uv,tv,rv,int g.net.states,sv,fv,ev]),(1,.slice wa ws.length wc),(2,.bool (shrB g.rules)),(4,.map (some bT)),(5,.func (.func 71) #[] #[.pointer (some ⟨bI,0,none⟩),.pointer (some ⟨bU,0,none⟩)])]) (srC g pv uv tv rv sv fv ev (.slice wa ws.length wc) (.map (some bT)) (.func (.func 71) #[] #[.pointer (some ⟨bI,0,none⟩),.pointer (some ⟨bU,0,none⟩)]) (shrB g.rules) 0) Z (by rw [← eT];rfl) Z) ?_
    refine EL_boxA Z Z Z Z (fun bS wS xS hbS rS=>?_)
    have hfv:=hg.final
    have hfv0:=hfv
    obtain⟨fa,fc,rfl,_,_,hfp⟩:=hfv.sl
    have hXS:Ext w wS:=xG.trans (xq.trans xS)
    replace rG:=rG.ext (xq.trans xS)
    (repeat' (first|refine eV Z Z (val_load Z Z Z (Row.cellAt (by assumption) (by rfl))) ?_|(refine at_EL ?_;first|refine eN ?_|refine eV Z Z (zA Z Z) ?_|refine eV Z Z (zB Z Z) ?_|(refine at_call ?_;first|refine eV Z Z (zK Z Z) ?_)|refine eV Z Z (zH Z Z) ?_)|(refine at_K ?_;first|refine K_then ?_)|(refine at_E ?_;first|refine E_seq ?_|refine E_region ?_|refine E_block ?_)))
    obtain⟨fnv,hfn⟩:∃ v:Value,v=.func (.func 71) #[] #[.pointer (some ⟨bI,0,none⟩),.pointer (some ⟨bU,0,none⟩)]:=⟨_,rfl⟩
    refine E_loop (ι:=Nat × Nat) (fun z=>[(6,.pointer (some ⟨bS,0,none⟩)),(28,.slice fa g.net.final.length fc),(29,int g.net.final.length),(30,int z.1)])
      (fun z wr=>z.1≤g.net.final.length∧Kx (fun b=>b=bS) wS wr∧Row wr bS 178 (srC g pv uv tv rv sv (.slice fa g.net.final.length fc) ev (.slice wa ws.length wc) (.map (some bT)) fnv (shrB g.rules) z.2)∧MaskIs z.2 (fun q=>(g.net.final.take z.1).contains q)) (fun z=>g.net.final.length-z.1) (0,0)
      ⟨rfl,rfl,rfl,rfl,trivial⟩ ⟨Nat.zero_le _,Kx.of_ext (Ext.refl _),by rw [hfn];exact rS,mask_eq mask_zero (fun q=>by simp)⟩ ?_
    rintro⟨i,m⟩ wr ⟨hi,hk,hrow,hM⟩
    dsimp only at hi hk hrow hM ⊢
    have hrow0:=hrow
    unfold srC at hrow
    have hlT:=hM.lt
    have hbS2:w.heap.size≤bS:=by have:=xG.size;have:=xq.size;omega
    have hfr:=hfv0.move (G':=Tt) (fun b hb hlt=>⟨trivial,(hk.block b (Nat.lt_of_lt_of_le hlt hXS.size) (fun e=>by omega)).trans (hXS.block hlt)⟩)
    by_cases hlt:i<g.net.final.length
    · obtain⟨b,off,rfl⟩:=hfp (by omega)
      obtain⟨q,hqi⟩:∃ q,g.net.final[i]?=some q:=⟨_,List.getElem?_eq_getElem hlt⟩
      have hcq:=(Go.Pv.int_elem hfr hqi).one
      obtain⟨hq0,hq1⟩:=hok.net.final q (List.mem_of_getElem? hqi)
      obtain⟨t,rfl⟩:∃ t:Nat,q=(t:Int):=⟨q.toNat,by omega⟩
      have ht24:t<24:=by have:=hok.states;omega
      have h2t:2 ^ t<4294967296:=Nat.pow_lt_pow_right (by decide) (show t<32 by omega)
      (repeat' (first|refine E_dm (id:=6) 9 mixedOk (by kernel_rfl) Z ?_|refine yV Z Z (fun _ _ _=>val_shl32 (q:=t) Z Z Z (by omega)) ?_|refine yV Z Z (fun _ _ _=>val_or32 (a:=m) (b:=2 ^ t) Z Z Z hlT h2t) ?_|refine eV Z Z (val_indexAddr (m:=i) Z Z Z (by first|rfl|omega) (by omega)) ?_|refine eV Z Z (val_load Z Z Z (by assumption)) ?_|refine yV Z Z (fun wq _ xq=>val_load Z Z Z ((Row.ext (by assumption) xq).cellAt (by rfl))) ?_|(refine RQ_end (fun wq δ xq hR=>?_))|(refine at_EL ?_;first|refine eN ?_|refine eV Z Z (zA Z Z) ?_|refine eV Z Z (zB Z Z) ?_|(refine at_bin ?_;first|refine eD Z Z (zL Z Z Z) (fun hh=>?_) (fun hh=>?_)))|(refine at_K ?_;first|refine K_then ?_|refine K_then_exit ?_|refine K_in_exit ?_)|(refine at_E ?_;first|refine E_seq ?_|refine E_region ?_|refine E_cond_t Z ?_|refine E_cond_f Z ?_|refine E_block ?_|refine E_skip ?_|refine E_exit ?_)|(refine at_RQ ?_;first|refine yV Z Z (fun _ _ _=>zA Z Z) ?_|refine yV Z Z (fun _ _ _=>zG Z Z) ?_|refine yV Z Z (fun _ _ _=>zH Z Z) ?_)))
      all_goals (try (exfalso;omega))
      refine EL_store Z Z Z Z Z Z Z (hrow.ext xq) (Nat.le_of_ble_eq_true rfl) (fun wU rU kU _=>?_)
      have rU2:Row wU bS 178 (srC g pv uv tv rv sv (.slice (some ⟨b,off,none⟩) g.net.final.length fc) ev (.slice wa ws.length wc) (.map (some bT)) fnv (shrB g.rules) (m ||| 2 ^ t)):=rU
      refine EL_nil ?_
      (repeat' (first|(refine at_EL ?_;first|refine eN ?_|refine eV Z Z (zA Z Z) ?_|(refine at_bin ?_;first|refine eV Z Z (zU Z Z Z (by omega) (by omega)) ?_))|(refine at_K ?_;first|refine K_then ?_|refine K_in ?_)|(refine at_E ?_;first|refine E_region ?_)))
      refine K_rnd (i+1,m ||| 2 ^ t) ⟨rfl,rfl,rfl,rfl,trivial⟩ ⟨by dsimp only;omega,(hk.trans (Kx.of_ext xq)).trans (Kx.of_kb kU rfl),rU2,mask_eq (mask_or hM ht24) (fun q=>by
        obtain⟨h1,h2⟩:=List.getElem?_eq_some_iff.1 hqi
        dsimp only
        rw [List.take_succ_eq_append_getElem h1,h2]
        simp;congr 1)⟩ (by dsimp only;omega)
    · obtain rfl:i=g.net.final.length:=by omega
      rw [List.take_length] at hM
      have hT1:=mT.lt
      have zq:=xq.size
      have zG:=xG.size
      have zS:=xS.size
      have hUl:=hU.lt
      have hIl:=hI.lt
      have hsame:∀ b,b<w.heap.size→wr.heap[b]?=w.heap[b]?:=fun b hlt=>(hk.block b (Nat.lt_of_lt_of_le hlt hXS.size) (fun e=>by omega)).trans (hXS.block hlt)
      have hmv:∀ b,b≠bU→b<w.heap.size→(b≠bT∧b≠bU)∧wr.heap[b]?=w.heap[b]?:=fun b hb hlt=>⟨⟨fun e=>by omega,hb⟩,hsame b hlt⟩
      have hsr:Srch g ws id pv uv tv rv sv _ ev (.slice wa ws.length wc) m bS bT bI bU wr:=
        ⟨by rw [← hfn];exact hrow0,⟨fun _=>none,(mT.ext xS).same (hk.block bT (Nat.lt_of_lt_of_le hT1 zS) (fun e=>by omega)),fun k v h=>by cases h⟩,
          hg.segs.move hmv,hg.rules.move hmv,hg.steps.move hmv,hg.lex.move hmv,hw0.move hmv,(hsame bI hIl).trans hI,(hsame bU hUl).trans hU,⟨by omega,by omega⟩,⟨by omega,hne⟩,by omega⟩
      have cw:=walk_all hok hro h185 (by omega:ws.length≤24) hM 4 [] (fun q=>q==0) 1 [] (.slice none 0 0) (.slice none 0 0) wr rfl (mask_eq (mask_or mask_zero (t:=0) (by omega)) (fun q=>by simp)) (fun x hx=>by cases hx) (by simp) hsr SlG.nil SlG.nil
      have hu:usesF g ws id=(Go.Pv.hereB (lxOf g ws) ws id [] (fun q=>q==0) []||belB (lxOf g ws) ws id 4 [] (fun q=>q==0) []):=by
        unfold usesF
        rw [decide_eq_true hsz.1,decide_eq_true hsz.2]
        simp [Go.Pv.hereB]
      rw [← hu] at cw
      (repeat' (first|(refine EL_call Z Z (entersF Z Z en108) cw (fun vC w7 hC=>?_);obtain⟨_,k7,t7,u7⟩:=hC)|(refine at_EL ?_;first|refine eN ?_|refine eV Z Z (zA Z Z) ?_|(refine at_bin ?_;first|refine eD Z Z (zL Z Z Z) (fun hh=>?_) (fun hh=>?_)))|(refine at_K ?_;first|refine K_then ?_|refine K_then_exit ?_|refine K_in_exit ?_)|(refine at_E ?_;first|refine E_seq ?_|refine E_region ?_|refine E_cond_t Z ?_|refine E_cond_f Z ?_|refine E_block ?_|refine E_skip ?_|refine E_exit ?_)))
      all_goals (try (exfalso;omega))
      refine ret_n ?_
      exact ret_00 Z ⟨⟨k7.os.trans (hk.os.trans (Below.os hXS)),k7.tape.trans (hk.tape.trans (Below.tape hXS)),k7.output.trans (hk.output.trans (Below.output hXS)),Nat.le_trans hXS.size (Nat.le_trans hk.size k7.size),
        fun b hlt hn => (k7.block b (by have := hk.size; have := hXS.size; omega) (fun h => by rcases h with h | h; · omega
                                                                                               · exact hn h)).trans (hsame b hlt)⟩,u7⟩
  · have hf:usesF g ws id=false:=by
      unfold usesF
      have:(decide (ws.length≠0)&&decide (ws.length≤24))=false:=by
        cases h:(decide (ws.length≠0)&&decide (ws.length≤24)) with
        | false=>rfl
        | true=>rw [Bool.and_eq_true,decide_eq_true_eq,decide_eq_true_eq] at h;exact absurd h hsz
      rw [this,Bool.false_and]
    rw [hf]
    (repeat' ((fail_if_success (refine E_seq (x:=(Code.region 2 _ _)) ?_));first|(refine at_EL ?_;first|refine eN ?_|refine eO Z Z ?_|refine eV Z Z (zA Z Z) ?_|(refine at_bin ?_;first|refine eD Z Z (zM Z Z Z) (fun hh=>?_) (fun hh=>?_)|refine eD Z Z (zO Z Z Z) (fun hh=>?_) (fun hh=>?_))|(refine at_call ?_;first|refine eV Z Z (zK Z Z) ?_)|refine eV Z Z (zC Z Z Z) ?_|refine eV Z Z (zD Z Z Z) ?_)|(refine at_K ?_;first|refine K_then ?_|refine K_then_ret ?_)|(refine at_E ?_;first|refine E_seq ?_|refine E_region ?_|refine E_cond_t Z ?_|refine E_cond_f Z ?_|refine E_skip ?_|refine E_ret ?_)))
    all_goals (try (exfalso;omega))
    all_goals exact ret_00 Z ⟨Kx.of_ext xG,hU.ext xG⟩
end Go.Proofs.YtjicdgejhkgpgaaGreatDoor
namespace Go.En
open Go Go.RowKit
section
variable {P : Program} {n : Nat} {Q : Post} {L : List (Nat × Value)} {w : World}
theorem calls_EM {m:Nat} {f:FuncId} {fn:Func} {c:Code} {args:List Value} {R:Ending→World→Prop} (hf:P.funcs[f]?=some fn) (hb:fn.body=some c) (hn:fn.ntmps=n) (hle:args.length≤n)
    (h:E P n c (bodyPostM Fence.wide m P fn R) (argsL args 0) w):Calls P f args.toArray w R:=by
  refine(callsIn_wide (n:=m)).1 (callsIn_of_wp_marks hf hb trivial (wpIn_wide.2 (h _ ⟨by simp [hn];omega,rfl,fun s v hs=>?_⟩)) rfl)
  obtain⟨_,h2⟩:=argsL_get args 0 s v hs
  have hlt:s<args.length:=by
    have:=(List.getElem?_eq_some_iff.1 (by simpa using h2)).1
    exact this
  rw [Array.getElem?_append_left (by simpa using hlt)]
  simpa using h2
theorem rowsIn_round {l m:Nat} {row:String} {args:Array Value} {R:Value→World→Prop} (h:Rows P row args w R):RowsIn (Fence.wide.inRound l) m P row args w R:=
  fun c cs _=>let ⟨v,w',r,s⟩:=h c cs;⟨v,w',r,stepsIn_wide.2 s⟩
theorem op_round {l m:Nat} {o:Oper} {a:Act} {next next':Act→World→Prop} (hd:∀ c,o.op≠.defer c) (hnx:∀ a w,next a w→next' a w) (h:o.wp P a w next Q):o.wpIn (Fence.wide.inRound l) m P a w next' Q:=by
  refine⟨fun _ _=>trivial,?_⟩
  rw [Oper.semAt_eq _ _ _ hd]
  unfold Oper.wp at h
  revert h
  generalize (execOp a.eval o).run P w=r
  intro h
  unfold Oper.upon at h
  unfold Oper.uponIn
  split at h
  · exact hnx _ _ h
  · exact hnx _ _ h
  · exact hnx _ _ h
  · refine⟨(fun e=>by cases e),callsIn_wide.2 (h.mono ?_)⟩
    rintro(v|c|_) w'' hh
    · exact hnx _ _ hh
    · exact hh
    · exact hh
  · exact⟨(fun e=>by cases e),rowsIn_round (h.mono fun v w' hh=>hnx _ _ hh)⟩
  · exact h
  · exact h.elim
theorem list_round {l m : Nat} (hQ : ¬ LetsOut Q) {ops : Array Oper} : ∀ (is : List Nat) (a : Act) (w : World), (∀ (i : Nat) (o : Oper), ops[i]? = some o → ∀ c, o.op ≠ .defer c) → wpOps P ops Q is a w → wpOpsIn (Fence.wide.inRound l) m P ops Q is a w
  | [],_,_,_,h=>h
  | i :: rest, a, w, hd, h => by
    unfold wpOps at h
    unfold wpOpsIn
    cases ho:ops[i]? with
    | none=>rw [ho] at h;exact list_round hQ rest a w hd h
    | some o=>
      rw [ho] at h
      dsimp only at h ⊢
      by_cases hw:Region.wanted o (yielded ops a.tmps)=true
      · rw [if_pos hw] at h ⊢
        rcases h with h|⟨_,h⟩
        · exact op_round (hd i o ho) (fun a' w'=>list_round hQ rest a' w' hd) h
        · exact absurd h hQ
      · rw [if_neg hw] at h ⊢
        exact⟨fun _ _=>trivial,list_round hQ rest _ _ hd h⟩
def nodefer (ops:List Oper):Bool:=ops.all fun o=>match o.op with | .defer _=>false|_=>true
theorem nodefer_ok {ops:List Oper} (h:nodefer ops=true) (i:Nat) (o:Oper) (ho:ops.toArray[i]?=some o) (c:Call):o.op≠.defer c:=by
  intro e
  have:=List.all_eq_true.1 h o (List.mem_of_getElem? (by simpa using ho))
  rw [e] at this;cases this
def EI (l m:Nat) (P:Program) (n:Nat) (c:Code) (Q:Post) (L:List (Nat × Value)) (w:World):Prop:=∀ a,St n L a→c.wpIn (Fence.wide.inRound l) m P Q a w
theorem EI.sub {l m:Nat} {c:Code} {M:List (Nat × Value)} (hs:Lsub M L) (h:EI l m P n c Q M w):EI l m P n c Q L w:=fun a ha=>h a (ha.sub hs)
theorem EI_region {l m id:Nat} {ops:List Oper} (hQ:¬ LetsOut Q) (hd:nodefer ops=true) (h:EL P n ops Q ops L w):EI l m P n (.region id ops.toArray false) Q L w:=fun a ha=>
  wpIn_region (list_round hQ _ a w (nodefer_ok hd) (by rw [List.range_eq_range',← Array.length_toList,wpOps_eq_wpList ops.toArray.toList 0 (by simp)];simpa using h a ha))
theorem EI_seq {l m:Nat} {x y:Code} (h:EI l m P n x (Exit.then (y.wpIn (Fence.wide.inRound l) m P Q) Q) L w):EI l m P n (.seq x y) Q L w:=fun a ha=>wpIn_seq (h a ha)
theorem EI_skip {l m:Nat} (h:K n Q .normal L w):EI l m P n .skip Q L w:=fun a ha=>wpIn_skip (h a ha)
theorem EI_ret {l m:Nat} (h:K n Q .ret L w):EI l m P n .ret Q L w:=fun a ha=>wpIn_ret (h a ha)
theorem EI_block {l m id:Nat} {c:Code} (h:EI l m P n c (Exit.inBlock id Q) L w):EI l m P n (.block id c) Q L w:=fun a ha=>wpIn_block (h a ha)
theorem EI_cond_t {l m:Nat} {c:Operand} {x y:Code} (hc:ev L c=some (.bool true)) (h:EI l m P n x Q L w):EI l m P n (.cond c x y) Q L w:=fun a ha=>wpIn_cond_true (ha.ev hc) (h a ha)
theorem EI_cond_f {l m:Nat} {c:Operand} {x y:Code} (hc:ev L c=some (.bool false)) (h:EI l m P n y Q L w):EI l m P n (.cond c x y) Q L w:=fun a ha=>wpIn_cond_false (ha.ev hc) (h a ha)
theorem KI_then {l m:Nat} {y:Code} (h:EI l m P n y Q L w):K n (Exit.then (y.wpIn (Fence.wide.inRound l) m P Q) Q) .normal L w:=h
theorem noOut_then {nx:Act→World→Prop} (h:¬ LetsOut Q):¬ LetsOut (Exit.then nx Q):=fun⟨a,w,hh⟩=>h ⟨a,w,hh⟩
theorem noOut_false {nx:Act→World→Prop}:¬ LetsOut (Exit.then nx (fun _ _ _=>False)):=fun⟨_,_,hh⟩=>hh
def AY (m:Nat) (P:Program) (n:Nat) (ops:List Oper) (Q:Post) (fuel:Nat) (listed:Array Bool) (L:List (Nat × Value)) (w:World):Prop:=∀ a,St n L a→wpAnyIn Fence.wide m P .any ops.toArray Q fuel listed a w
variable {m fuel : Nat} {ops : List Oper} {listed : Array Bool} {o : Oper}
theorem AY.sub {M:List (Nat × Value)} (hs:Lsub M L) (h:AY m P n ops Q fuel listed M w):AY m P n ops Q fuel listed L w:=fun a ha=>h a (ha.sub hs)
theorem run_yieldcall {o:Oper} {f x:Operand} {l:Nat} {ty:Array TypeId} {v:Value} {L:List (Nat × Value)} (ho:o.op=.call { callee:=.value f,args:=#[x],argTypes:=ty }) (hf:ev L f=some (.func (.yield l) #[] #[])) (hx:ev L x=some v) {r:Next} {w':World} (hy:(Instr.yield l #[v]).run P w=.ok r w') :
    ∀ ρ,Agree L o ρ→(execOp ρ o).run P w=.ok r w':=fun ρ ha=>by
  have h1:=ha.ev (by rw [ho];simp [Op.operands,Call.operands]) hf
  have h2:=ha.ev (by rw [ho];simp [Op.operands,Call.operands]) hx
  simp [execOp,ho,resolve,invoke,go_sem,h1,h2,hy]
theorem noOut_body {fn:Func} {S:Value→World→Prop}:¬ LetsOut (bodyPost P fn (Rt S)):=fun⟨_,_,v,e,_⟩=>by cases e
theorem noOut_block {id:Nat} (h:¬ LetsOut Q):¬ LetsOut (Exit.inBlock id Q):=fun⟨a,w,hh⟩=>h ⟨a,w,hh⟩
theorem noOut_rnd {ι:Type} {Lf:ι→List (Nat × Value)} {M:ι→World→Prop} {mz:ι→Nat} {x:ι} (h:¬ LetsOut Q):¬ LetsOut (Rnd n Lf M mz x Q):=fun⟨a,w,hh⟩=>h ⟨a,w,hh⟩
theorem op_wide {o:Oper} {a:Act} {next next':Act→World→Prop} (hnx:∀ a w,next a w→next' a w) (h:o.wp P a w next Q):o.wpIn Fence.wide m P a w next' Q:=by
  refine⟨fun _ _=>trivial,?_⟩
  unfold Oper.wp at h
  show o.uponIn Fence.wide m P a next' Q ((execOp a.eval o).run P w)
  revert h
  generalize (execOp a.eval o).run P w=r
  intro h
  unfold Oper.upon at h
  unfold Oper.uponIn
  split at h
  · exact hnx _ _ h
  · exact hnx _ _ h
  · exact hnx _ _ h
  · refine⟨(fun e=>by cases e),callsIn_wide.2 (h.mono ?_)⟩
    rintro(v|c|_) w'' hh
    · exact hnx _ _ hh
    · exact hh
    · exact hh
  · exact⟨(fun e=>by cases e),fun c cs _=>let ⟨v,w',r,s⟩:=h c cs;⟨v,w',hnx _ _ r,stepsIn_wide.2 s⟩⟩
  · exact h
  · exact h.elim
theorem list_wide (hQ : ¬ LetsOut Q) {nx : Act → World → Prop} {ops : Array Oper} {is2 : List Nat} (hnx : ∀ a w, nx a w → wpOpsIn Fence.wide m P ops Q is2 a w) : ∀ (is : List Nat) (a : Act) (w : World), wpOps P ops (Exit.then nx Q) is a w → wpOpsIn Fence.wide m P ops Q (is ++ is2) a w
  | [],a,w,h=>hnx a w h
  | i :: rest, a, w, h => by
    unfold wpOps at h
    rw [List.cons_append]
    unfold wpOpsIn
    cases ho:ops[i]? with
    | none=>rw [ho] at h;exact list_wide hQ hnx rest a w h
    | some o=>
      rw [ho] at h
      dsimp only at h ⊢
      by_cases hw:Region.wanted o (yielded ops a.tmps)=true
      · rw [if_pos hw] at h ⊢
        rcases h with h|⟨_,h⟩
        · refine op_wide (Q:=Q) (fun a' w'=>list_wide hQ hnx rest a' w') ?_
          unfold Oper.wp at h ⊢
          revert h
          generalize (execOp a.eval o).run P w=r
          intro h
          unfold Oper.upon at h ⊢
          split at h
          all_goals first
            | exact h
            | (refine h.mono ?_
               rintro(v|c|_) w'' hh
               · exact hh
               · exact hh
               · exact hh)
        · exact absurd h (noOut_then hQ)
      · rw [if_neg hw] at h ⊢
        exact⟨fun _ _=>trivial,list_wide hQ hnx rest _ _ h⟩
def YK (m:Nat) (P:Program) (ops:List Oper) (Q:Post) (p:Nat):Act→World→Prop:=fun a w=>wpOpsIn Fence.wide m P ops.toArray Q (List.range' p (ops.length-p)) a w
theorem wpOps_take {ops:List Oper} {Q:Post} (p:Nat) (hp:p≤ops.length):wpOps P ops.toArray Q (List.range' 0 p)=wpList P ops.toArray Q (ops.take p):=by
  have:=wpOps_eq_wpList (P:=P) (ops:=ops.toArray) (Q:=Q) (ops.take p)
  have hl:(ops.take p).length=p:=by rw [List.length_take];omega
  rw [hl] at this
  clear this hl
  have key:∀(l pre:List Oper),(pre++l) <+: ops→wpOps P ops.toArray Q (List.range' pre.length l.length)=wpList P ops.toArray Q l:=by
    intro l
    induction l with
    | nil=>intro pre _;funext a w;rfl
    | cons o l ih=>
      intro pre hpre
      obtain⟨t,ht⟩:=hpre
      have h0:ops.toArray[pre.length]?=some o:=by rw [List.getElem?_toArray,← ht];simp
      have ih':=ih (pre++[o]) ⟨t,by rw [← ht];simp⟩
      rw [List.length_append,List.length_singleton] at ih'
      funext a w
      simp only [List.length_cons,List.range'_succ,wpOps,h0,wpList,ih']
  have:=key (ops.take p) [] (List.take_prefix p ops)
  rw [List.length_take,Nat.min_eq_left hp] at this
  exact this
theorem E_yreg {id p:Nat} {ops:List Oper} (hQ:¬ LetsOut Q) (hp:Nat.ble p ops.length=true) (h:EL P n ops (Exit.then (YK m P ops Q p) Q) (ops.take p) L w):E P n (.region id ops.toArray false) Q L w:=fun a ha=>
  (wpIn_wide (n:=m)).1 (wpIn_region (by
    have hple:=Nat.le_of_ble_eq_true hp
    have e:List.range ops.toArray.size=List.range' 0 p++List.range' p (ops.length-p):=by
      have e0:=List.range'_append_1 (s:=0) (m:=p) (n:=ops.length-p)
      rw [Nat.zero_add] at e0
      rw [List.range_eq_range',List.size_toArray,e0];congr 1;omega
    rw [e]
    refine list_wide hQ (nx:=YK m P ops Q p) (fun a w h=>h) _ a w ?_
    rw [wpOps_take p hple]
    exact h a ha))
theorem K_yield {p d l:Nat} {ops:List Oper} {o:Oper} {f x:Operand} {ty:Array TypeId} {v:Value} {R:Ending→World→Prop} (hQ:¬ LetsOut Q) (ho:ops[p]?=some o) (hg:gst ops L o=some true) (hd:odst n o.dst=some d)
    (hop:o.op=.call { callee:=.value f,args:=#[x],argTypes:=ty }) (hf:ev L f=some (.func (.yield l) #[] #[])) (hx:ev L x=some v) (hY:YieldAt Fence.wide (m-1) P l #[v] w R) (hpn:∀ c w',¬ R (.panicked c) w') (hu:∀ w',¬ R .outgrown w')
    (k:∀ u w',R (.returned u) w'→EL P n ops Q (ops.drop (p+1)) ((d,u)::L) w'):K n (Exit.then (YK m P ops Q p) Q) .normal L w:=fun a ha=>by
  have hpl:=(List.getElem?_eq_some_iff.1 ho).1
  show wpOpsIn Fence.wide m P ops.toArray Q (List.range' p (ops.length-p)) a w
  obtain⟨q,hq⟩:∃ q,ops.length-p=q+1:=⟨ops.length-p-1,by omega⟩
  rw [hq,List.range'_succ]
  unfold wpOpsIn
  rw [show ops.toArray[p]?=some o from by simpa using ho]
  dsimp only
  rw [if_pos (wanted_gst ha hg)]
  obtain⟨fn,tmps,assign,body,hy,hR⟩:=hY
  refine⟨fun _ _=>trivial,?_⟩
  show o.uponIn Fence.wide m P a _ Q ((execOp a.eval o).run P w)
  rw [run_yieldcall hop hf hx hy a.eval (ha.agree o),Oper.uponIn_round]
  refine⟨(fun e=>by cases e),hR.mono ?_⟩
  rintro(u|c|_) w' hh
  · have hput:=ha.put (odst_eq hd).2 u
    rw [(odst_eq hd).1] at hput
    have hE:=k u w' hh _ hput
    have e2:List.range' (p+1) q=List.range' (p+1) q++[]:=by simp
    rw [e2,(odst_eq hd).1]
    refine list_wide hQ (nx:=Q .normal) (is2:=[]) (fun _ _ h=>h) _ _ _ ?_
    have hX:wpOps P ops.toArray Q (List.range' (p+1) q)=wpList P ops.toArray Q (ops.drop (p+1)):=by
      have:=wpOps_eq_wpList (P:=P) (ops:=ops.toArray) (Q:=Q) (ops.drop (p+1)) (p+1) (fun j=>by rw [List.getElem?_drop,List.getElem?_toArray])
      rw [List.length_drop,show ops.length-(p+1)=q by omega] at this
      exact this
    have hQQ:Exit.then (Q .normal) Q=Q:=by funext e a w;cases e <;> rfl
    rw [hQQ,hX]
    exact hE
  · exact absurd hh (hpn c w')
  · exact absurd hh (hu w')
theorem run_storeK {t:TypeId} {z:Value} {size bytes:Nat} [TI P t z size bytes] {o:Oper} {x y:Operand} {ρ:Operand→Value} {v:Value} {b off:Nat} {e:TypeId} {cs:List Value} (ho:o.op=.store t x y)
    (hx:ρ x=.pointer (some ⟨b,off,none⟩)) (hy:ρ y=v) (hs:v.cells.size=size) (h1:v.cells.toList.all Value.oneCell'=true) (hr:Row w b e cs) (hl:off+size≤cs.length) :
    ∃ w',(execOp ρ o).run P w=.ok .skip w'∧Row w' b e (cs.take off++v.cells.toList++cs.drop (off+size))∧w.grownBy w' (some b):=by
  have h:=run_storeCells_at (P:=P) b off e v.cells.toList 0 cs.toArray w hr (by simp [hs];exact hl) (fun u hu=>List.all_eq_true.1 h1 u hu)
  simp only [Nat.add_zero] at h
  refine⟨w.setRow b (cs.take off++v.cells.toList++cs.drop (off+v.cells.toList.length)).toArray,?_,?_,⟨rfl,rfl,rfl,by simp,fun k hk hne=>setRow_other w b k _ (fun e=>hne (by rw [e]))⟩⟩
  · have h4:=run_sizeOf (P:=P) (t:=t) w
    simp only [execOp,ho,hx,hy,Instr.storeAt,Instr.sureAddr,storeVar,Sem.run_bind,Sem.run_pure,Result.andThen_ok,h4,hs]
    rw [if_neg (by simp)]
    simp only [h,Result.andThen_ok]
  · have:=setRow_heap w b cs.toArray (cs.take off++v.cells.toList++cs.drop (off+v.cells.toList.length)).toArray e (0,0) hr
    simp only [Array.length_toList,hs] at this ⊢
    exact this
theorem results_c {fn:Func} {s:Tmp} {ty:TypeId} {d:TypeDesc} {b:Nat} {v:Value} {a:Act} [UT P ty d] (hr:fn.results=#[.cell s ty]) (hd:isAggD d=false) (ha:a.tmps[s]?=some (.pointer (some ⟨b,0,none⟩))) (hc:w.cell? ⟨b,0,none⟩=some v) :
    (results fn a.tmps).run P w=.ok v w:=by
  have h3:=run_isAgg (P:=P) (t:=ty) w
  rw [hd] at h3
  simp [results,hr,Array.getD_eq_getD_getElem?,ha,Instr.loadAt,Instr.sureAddr,loadVar,go_sem,h3,hc]
theorem St.round {a:Act} (ha:St n L a) {s:Tmp} (hs:Nat.blt s n=true) (v:Value):St n ((s,v)::L) { tmps:=(#[s].zip #[v]).foldl (fun t (p,x)=>t.setIfInBounds p x) a.tmps,defers:=[] }:=by
  have:=ha.put (d:=some s) (show Nat.ble (s+1) n=true from hs) v
  have e:({ tmps:=(#[s].zip #[v]).foldl (fun t (p,x)=>t.setIfInBounds p x) a.tmps,defers:=[] }:Act)=a.put (some s) v:=by
    have hn:=ha.nod
    obtain⟨tm,df⟩:=a
    simp only at hn
    subst hn
    simp [Act.put]
  rw [e]
  exact this
theorem E_scope {c:Code} (h:E P n c (Exit.noGoto Q) L w):E P n (.scope c) Q L w:=fun a ha=>wp_scope_straight (h a ha)
theorem E_label {l:Nat} (h:K n Q .normal L w):E P n (.label l) Q L w:=fun a ha=>wp_label (h a ha)
theorem K_ng_ret (h:K n Q .ret L w):K n (Exit.noGoto Q) .ret L w:=h
theorem E_in {m:Nat} {c:Code} (h:∀ a,St n L a→c.wpIn Fence.wide m P Q a w):E P n c Q L w:=fun a ha=>(wpIn_wide (n:=m)).1 (h a ha)
theorem K_of {e:Exit} (h:∀ a,St n L a→Q e a w):K n Q e L w:=h
theorem EI_run {l m:Nat} {c:Code} {a:Act} (h:EI l m P n c Q L w) (ha:St n L a):c.wpIn (Fence.wide.inRound l) m P Q a w:=h a ha
end
end Go.En
