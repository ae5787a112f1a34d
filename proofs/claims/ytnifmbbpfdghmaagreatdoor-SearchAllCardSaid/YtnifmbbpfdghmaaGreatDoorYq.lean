/-
  A loop over the keys of a map with number keys: an iterator is made; each key comes once, in any order. Walks of match: of (the set of those numbers that are Ids of notes).
-/
import Derived.Test.YtnifmbbpfdghmaaGreatDoorY1
import Derived.Maps.RangeRun
import Derived.Test.YtnifmbbpfdghmaaGreatDoorY8
set_option linter.all false
namespace Go.En
open Go.RowKit Go.MapKept
open Go.ChangeMaps (setBlock)
theorem nodup_map_inj {α β:Type} {g:α→β}:∀ {l:List α},(l.map g).Nodup→∀ {x y:α},x∈l→y∈l→g x=g y→x=y
  | [],_,_,_,hx,_,_=>by cases hx
  | a::l,h,x,y,hx,hy,e=>by
    obtain⟨h1,h2⟩:=List.nodup_cons.1 h
    rcases List.mem_cons.1 hx with ex|hx <;> rcases List.mem_cons.1 hy with ey|hy
    · rw [ex,ey]
    · exact absurd (List.mem_map.2 ⟨y,hy,by rw [← e,ex]⟩) h1
    · exact absurd (List.mem_map.2 ⟨x,hx,by rw [e,ey]⟩) h1
    · exact nodup_map_inj h2 hx hy e
def RngF (w : World) (b r : Nat) (f : Int → Option Value) (left : Int → Prop) (c : Nat) : Prop :=
  ∃ es clock since seen c0,w.heap[b]?=some (.map es clock)∧Stamped es clock∧(∀ x∈es.toList,IsKey (.int .i64) x.key)∧(∀ k v,f k=some v↔∃ e∈es.toList,e.key=int k∧e.val=v)∧
    w.heap[r]?=some (.mapIter (some b) since seen c0)∧(∀ x∈es.toList,x.born<since)∧since≤c0∧since≤clock∧(leftOf es seen).size=c∧∀ k,left k↔∃ e∈es.toList,e.key=int k∧seen.contains e.born=false
theorem RngF.map {w:World} {b r c:Nat} {f:Int→Option Value} {left:Int→Prop} (h:RngF w b r f left c):MapF w b f:=by
  obtain⟨es,clock,_,_,_,hb,hs,hk,hf,_⟩:=h
  exact⟨es,clock,hb,hs,hk,hf⟩
theorem RngF.same {w w':World} {b r c:Nat} {f:Int→Option Value} {left:Int→Prop} (h:RngF w b r f left c) (e1:w'.heap[b]?=w.heap[b]?) (e2:w'.heap[r]?=w.heap[r]?):RngF w' b r f left c:=by
  obtain⟨es,clock,since,seen,c0,hb,hs,hk,hf,hr,rest⟩:=h
  exact⟨es,clock,since,seen,c0,e1.trans hb,hs,hk,hf,e2.trans hr,rest⟩
theorem RngF.lt {w:World} {b r c:Nat} {f:Int→Option Value} {left:Int→Prop} (h:RngF w b r f left c):r<w.heap.size:=by
  obtain⟨_,_,_,_,_,_,_,_,_,hr,_⟩:=h
  exact(Array.getElem?_eq_some_iff.1 hr).1
theorem RngF.ne {w:World} {b r c:Nat} {f:Int→Option Value} {left:Int→Prop} (h:RngF w b r f left c):b≠r:=by
  obtain⟨_,_,_,_,_,hb,_,_,_,hr,_⟩:=h
  rintro rfl
  rw [hb] at hr;cases hr
theorem RngF.ext {w w':World} {b r c:Nat} {f:Int→Option Value} {left:Int→Prop} (h:RngF w b r f left c) (x:Ext w w'):RngF w' b r f left c:=h.same (x.block h.map.lt) (x.block h.lt)
theorem RngF.kb {g:Option Nat} {w w':World} {b r c:Nat} {f:Int→Option Value} {left:Int→Prop} (h:RngF w b r f left c) (k:Kb g w w') (h1:some b≠g) (h2:some r≠g):RngF w' b r f left c:=h.same (World.grownBy.block k b h.map.lt h1) (World.grownBy.block k r h.lt h2)
section
variable {P : Program} {n : Nat} {Q : Post} {L : List (Nat × Value)} {w : World} {ops : List Oper} {o : Oper} {rest : List Oper}
theorem EL_range {d : Nat} {t kt et : TypeId} {x : Operand} {b : Nat} {f : Int → Option Value} [um : UT P t (.map kt et)] (hm : MapF w b f) (hg : gst ops L o = some true) (hd : odst n o.dst = some d) (ho : o.op = .range t x) (hx : ev L x = some (.map (some b)))
    (k:∀ r c w',r=w.heap.size→RngF w' b r f (fun j=>(f j).isSome=true) c→Ext w w'→EL P n ops Q rest ((d,.pointer (some ⟨r,0,none⟩))::L) w'):EL P n ops Q (o::rest) L w:=by
  have hlt:=hm.lt
  obtain⟨es,clock,hb,hs,hk,hf⟩:=hm
  have hrun:=run_range_map (P:=P) w t kt et b es clock um.u hb
  refine EL_valw (w':=w.alloc (.mapIter (some b) clock #[] clock)) hg hd (fun ρ ha=>?_) (k _ _ _ rfl ⟨es,clock,clock,#[],clock,((heap_alloc w _).2 b hlt).trans hb,hs,hk,hf,(heap_alloc w _).1,hs.1,Nat.le_refl _,Nat.le_refl _,rfl,fun j=>?_⟩ (ext_alloc _ _))
  · have h1:=ha.ev (by rw [ho];simp [Op.operands]) hx
    simp only [execOp,ho,h1]
    simp [hrun,Result.andThen]
  · cases hfj:f j with
    | none=>
      constructor
      · intro h;simp [hfj] at h
      · rintro⟨e,he,hek,_⟩
        have:=(hf j e.val).2 ⟨e,he,hek,rfl⟩
        rw [hfj] at this;cases this
    | some v=>
      obtain⟨e,he,hek,_⟩:=(hf j v).1 hfj
      exact⟨fun _=>⟨e,he,hek,by simp⟩,fun _=>by simp [hfj]⟩
theorem EL_next {d : Nat} {it : Operand} {b r c : Nat} {f : Int → Option Value} {left : Int → Prop} (h : RngF w b r f left c) (hg : gst ops L o = some true) (hd : odst n o.dst = some d) (ho : o.op = .next it false) (hx : ev L it = some (.pointer (some ⟨r, 0, none⟩)))
    (kd:(∀ j,¬ left j)→EL P n ops Q rest ((d,.tuple #[.bool false])::L) w)
    (kn:∀(j:Int) (v:Value) (w':World) (c':Nat),left j→f j=some v→RngF w' b r f (fun i=>left i∧i≠j) c'→c'<c→Kb (some r) w w'→w'.heap.size=w.heap.size→(Instr.entry (.pointer (some ⟨r,0,none⟩))).run P w'=.ok (.tuple #[int j,v]) w'→EL P n ops Q rest ((d,.tuple #[.bool true,int j,v])::L) w'):EL P n ops Q (o::rest) L w:=by
  have hne:=h.ne
  obtain⟨es,clock,since,seen,c0,hb,hs,hk,hf,hr,hold,hsc,hsk,rfl,hl⟩:=h
  rcases run_next_at (P:=P) w o.type r b since c0 seen es clock hr hb hold hsc with⟨h0,hrun⟩|⟨e,he,w1,hal,hrun⟩
  · refine EL_valw hg hd (fun ρ ha=>?_) (kd fun j hj=>?_)
    · have h1:=ha.ev (by rw [ho];simp [Op.operands]) hx
      simp only [execOp,ho,h1]
      simp [hrun,Result.andThen]
    · obtain⟨x,hx,_,h2⟩:=(hl j).1 hj
      rw [all_seen es seen h0 x hx] at h2;cases h2
  · obtain⟨hem,hes⟩:=mem_left he
    obtain⟨j,hj⟩:∃ j,e.key=int j:=by
      have:=hk e hem
      cases hk:e.key <;> rw [hk] at this <;> simp [IsKey] at this
      subst this;exact⟨_,rfl⟩
    have hr1:w1.heap[r]?=some (.mapIter (some b) since seen c0):=by rcases hal with rfl|rfl <;> exact hr
    have hb1:w1.heap[b]?=some (.map es clock):=by rcases hal with rfl|rfl <;> exact hb
    have hset:=heap_set (o':=.mapIter (some b) since (seen.push e.born) clock) hr1
    have hb':(setBlock w1 r (.mapIter (some b) since (seen.push e.born) clock)).heap[b]?=some (.map es clock):=(hset.2 b (fun e1=>hne e1)).trans hb1
    refine EL_valw hg hd (fun ρ ha=>?_) (kn j e.val _ _ ((hl j).2 ⟨e,hem,hj,hes⟩) ((hf j e.val).2 ⟨e,hem,hj,rfl⟩) ⟨es,clock,since,seen.push e.born,clock,hb',hs,hk,hf,hset.1,hold,hsk,hsk,rfl,fun i=>?_⟩ (left_shrinks es seen e he) ?_ ?_ (by rw [← hj];exact run_entry_at _ r b since seen es clock e hset.1 hb' hem hs.2.1))
    · have h1:=ha.ev (by rw [ho];simp [Op.operands]) hx
      simp only [execOp,ho,h1]
      simp [hrun,hj,Result.andThen]
    · refine(and_congr_left fun _=>hl i).trans ?_
      constructor
      · rintro⟨⟨x,hx,hxk,hxs⟩,hij⟩
        refine⟨x,hx,hxk,?_⟩
        rw [contains_push,hxs,Bool.false_or]
        cases hbb:(x.born==e.born) with
        | false=>rfl
        | true=>
          have:=nodup_map_inj hs.2.1 hx hem (by simpa using hbb)
          subst this
          rw [hxk] at hj
          exact absurd (by simpa using hj) hij
      · rintro⟨x,hx,hxk,hxs⟩
        rw [contains_push] at hxs
        obtain⟨h1,h2⟩:=Bool.or_eq_false_iff.1 hxs
        refine⟨⟨x,hx,hxk,h1⟩,fun hij=>?_⟩
        subst hij
        have:=nodup_map_inj hs.2.2 hx hem (hxk.trans hj.symm)
        subst this
        simp at h2
    · rcases hal with rfl|rfl <;> exact⟨rfl,rfl,rfl,by simp [setBlock],fun i _ hi=>hset.2 i (fun e1=>hi (by rw [e1]))⟩
    · rcases hal with rfl|rfl <;> simp [setBlock]
theorem val_entry {it:Operand} {r:Nat} {v:Value} (hen:(Instr.entry (.pointer (some ⟨r,0,none⟩))).run P w=.ok v w) (ho:o.op=.entry it) (hx:ev L it=some (.pointer (some ⟨r,0,none⟩))):Val P L w o v:=fun ρ ha=>by
  have h1:=ha.ev (by rw [ho];simp [Op.operands]) hx
  simp only [execOp,ho,h1]
  simp [hen,Result.andThen]
end
end Go.En
namespace Go.Proofs.YtnifmbbpfdghmaaGreatDoor
open Go.RowKit Go.En
def setF (d:Dc) (l:List Int) (j:Int):Option Value:=if j∈l∧(getF d.notes j).isSome=true then some (.bool true) else none
theorem setF_nil (d:Dc):setF d []=fun _=>none:=by
  funext j
  unfold setF
  rw [if_neg (fun h=>by cases h.1)]
theorem mem_take_succ {l:List Int} {i:Nat} {x:Int} (hx:l[i]?=some x) (j:Int):j∈l.take (i+1)↔j∈l.take i∨j=x:=by
  obtain⟨hi,rfl⟩:=List.getElem?_eq_some_iff.1 hx
  rw [List.take_succ_eq_append_getElem hi,List.mem_append,List.mem_singleton]
theorem setF_yes {d:Dc} {l:List Int} {i:Nat} {x:Int} (hx:l[i]?=some x) (hs:(getF d.notes x).isSome=true):setF d (l.take (i+1))=fun j=>if j=x then some (.bool true) else setF d (l.take i) j:=by
  funext j
  unfold setF
  simp only [mem_take_succ hx]
  by_cases hj:j=x
  · subst hj
    simp [hs]
  · simp [hj]
theorem setF_no {d:Dc} {l:List Int} {i:Nat} {x:Int} (hx:l[i]?=some x) (hs:(getF d.notes x).isSome=false):setF d (l.take (i+1))=setF d (l.take i):=by
  funext j
  unfold setF
  simp only [mem_take_succ hx]
  by_cases hj:j=x
  · subst hj
    simp [hs]
  · simp [hj]
attribute [local irreducible] E EL K Val Enters Rt Calls bodyPost Code.wp RQ
set_option maxHeartbeats 4000000 in
set_option maxRecDepth 8000 in
theorem mof_any (d:Dc) (l:List Int) (v lv:Value) (w:World) (hv:DcAt w v d) (hl:Sl w lv l):Calls Tryz.prog 67 #[v,lv] w (Rt fun u w'=>∃ r,u=.map (some r)∧Ext w w'∧w.heap.size≤r∧MapF w' r (setF d l)):=by
  have hd0:=hv
  obtain⟨sv,tv,nv,rfl,_,_,_⟩:=hv
  refine calls_E (n:=28) (args:=[.agg #[int d.rid,str d.rname,int d.len,int d.day,sv,tv,nv],lv]) Tryz.func67 rfl Tryz.ntmps67 (by simp) ?_
  have hl0:=hl
  obtain⟨a,cap,rfl,hc,hm,hp⟩:=hl.sl
  refine E_seq ?_
  refine E_region ?_
  refine EL_box Z Z Z Z (fun bD wD0 xD0 hbD rD0=>?_)
  obtain⟨wD,hwD⟩:∃ wD,wD=wD0:=⟨_,rfl⟩
  subst hwD
  have rD:Row wD bD 28 [int d.rid,str d.rname,int d.len,int d.day,sv,tv,nv]:=rD0
  have xD:=xD0
  clear rD0
  (repeat' (first|refine EL_makeMap Z Z Z (fun r wM hr mM xM=>?_)|(refine at_EL ?_;first|refine eN ?_|refine eV Z Z (zA Z Z) ?_|refine eV Z Z (zB Z Z) ?_|(refine at_call ?_;first|refine eV Z Z (zK Z Z) ?_))|(refine at_K ?_;first|refine K_then ?_)|(refine at_E ?_;first|refine E_seq ?_|refine E_region ?_|refine E_block ?_)))
  refine E_loop (ι:=Nat) (fun i=>[(2,.pointer (some ⟨bD,0,none⟩)),(5,.map (some r)),(11,.slice a l.length cap),(12,int l.length),(13,int i)])
    (fun i wr=>i≤l.length∧Ext wD wr∧MapF wr r (setF d (l.take i))) (fun i=>l.length-i) 0
    ⟨rfl,rfl,rfl,rfl,rfl,trivial⟩ ⟨Nat.zero_le _,xM,by rw [List.take_zero,setF_nil];exact mM⟩ ?_
  rintro i wr ⟨hi,hx,mr⟩
  have rDr:=rD.ext hx
  have hXr:=xD.trans hx
  have hrD:wD.heap.size≤r:=by omega
  by_cases hlt:i<l.length
  · obtain⟨b,off,rfl⟩:=hp (by omega)
    obtain⟨x,hx1⟩:∃ x,l[i]?=some x:=⟨_,List.getElem?_eq_getElem hlt⟩
    have hcx:=int_elem (hl0.ext hXr) hx1
    have cg:=tget_any d _ x wr (hd0.ext hXr)
    rw [getR_cur] at cg
    cases hs:(getF d.notes x).isSome with
    | true=>
      rw [hs] at cg
      (repeat' (first|refine eV Z Z (val_indexAddr (m:=i) Z Z Z Z hlt) ?_|refine eV Z Z (val_load Z Z Z hcx) ?_|refine eV Z Z (val_loadA Z Z Z rDr.at rfl) ?_|(refine EL_call Z Z (entersF Z Z en82) cg (fun vC wC hC=>?_);obtain⟨rfl,xC⟩:=hC)|(refine at_EL ?_;first|refine eN ?_|refine eV Z Z (zA Z Z) ?_|refine eV Z Z (zB Z Z) ?_|(refine at_bin ?_;first|refine eD Z Z (zL Z Z Z) (fun hh=>?_) (fun hh=>?_))|refine eV Z Z (zF Z Z Z) ?_)|(refine at_K ?_;first|refine K_then ?_|refine K_then_exit ?_|refine K_in_exit ?_)|(refine at_E ?_;first|refine E_seq ?_|refine E_region ?_|refine E_cond_t Z ?_|refine E_cond_f Z ?_|refine E_block ?_|refine E_skip ?_|refine E_ret ?_|refine E_exit ?_)))
      all_goals (first|(exfalso;omega)|skip)
      refine EL_alloc Z Z Z (fun b8 w8 x8 hb8 r8=>?_)
      refine EL_storeP (cs:=noteC (curN d.notes x)) r8 (xC.trans x8) (by have:=xC.size;omega) Z Z Z Z Z Z Z Z (Nat.le_refl _) (fun w9 r9 x9 k9=>?_)
      have m9:=mr.ext x9
      (repeat' (first|refine EL_mapUpdate m9 rfl rfl rfl rfl rfl rfl (fun wU mU kU=>?_)|(refine at_EL ?_;first|refine eN ?_|refine eV Z Z (zA Z Z) ?_|refine eV Z Z (zB Z Z) ?_|(refine at_bin ?_;first|refine eV Z Z (zU Z Z Z (by omega) (by omega)) ?_))|(refine at_K ?_;first|refine K_then ?_|refine K_in ?_)|(refine at_E ?_;first|refine E_seq ?_|refine E_region ?_|refine E_cond_t Z ?_)))
      exact K_rnd (i+1) ⟨rfl,rfl,rfl,rfl,rfl,trivial⟩ ⟨by omega,kU.ext (hx.trans x9) (fun b e=>by cases e;exact hrD),by rw [setF_yes hx1 hs];exact mU⟩ (by omega)
    | false=>
      rw [hs] at cg
      (repeat' (first|refine eV Z Z (val_indexAddr (m:=i) Z Z Z Z hlt) ?_|refine eV Z Z (val_load Z Z Z hcx) ?_|refine eV Z Z (val_loadA Z Z Z rDr.at rfl) ?_|(refine EL_call Z Z (entersF Z Z en82) cg (fun vC wC hC=>?_);obtain⟨rfl,xC⟩:=hC)|(refine at_EL ?_;first|refine eN ?_|refine eV Z Z (zA Z Z) ?_|refine eV Z Z (zB Z Z) ?_|(refine at_bin ?_;first|refine eD Z Z (zL Z Z Z) (fun hh=>?_) (fun hh=>?_))|refine eV Z Z (zF Z Z Z) ?_)|(refine at_K ?_;first|refine K_then ?_|refine K_then_exit ?_|refine K_in_exit ?_)|(refine at_E ?_;first|refine E_seq ?_|refine E_region ?_|refine E_cond_t Z ?_|refine E_cond_f Z ?_|refine E_block ?_|refine E_skip ?_|refine E_ret ?_|refine E_exit ?_)))
      all_goals (first|(exfalso;omega)|skip)
      refine EL_alloc Z Z Z (fun b8 w8 x8 hb8 r8=>?_)
      refine EL_storeP (cs:=noteC (curN d.notes x)) r8 (xC.trans x8) (by have:=xC.size;omega) Z Z Z Z Z Z Z Z (Nat.le_refl _) (fun w9 r9 x9 k9=>?_)
      (repeat' (first|(refine at_EL ?_;first|refine eN ?_|refine eV Z Z (zA Z Z) ?_|refine eV Z Z (zB Z Z) ?_|(refine at_bin ?_;first|refine eV Z Z (zU Z Z Z (by omega) (by omega)) ?_))|(refine at_K ?_;first|refine K_then ?_|refine K_in ?_)|(refine at_E ?_;first|refine E_seq ?_|refine E_region ?_|refine E_cond_f Z ?_|refine E_skip ?_)))
      exact K_rnd (i+1) ⟨rfl,rfl,rfl,rfl,rfl,trivial⟩ ⟨by omega,hx.trans x9,by rw [setF_no hx1 hs];exact mr.ext x9⟩ (by omega)
  · obtain rfl:i=l.length:=by omega
    rw [List.take_length] at mr
    (repeat' (first|(refine at_EL ?_;first|refine eN ?_|refine eV Z Z (zA Z Z) ?_|refine eV Z Z (zB Z Z) ?_|(refine at_bin ?_;first|refine eD Z Z (zL Z Z Z) (fun hh=>?_) (fun hh=>?_)))|(refine at_K ?_;first|refine K_then ?_|refine K_then_exit ?_|refine K_in_exit ?_)|(refine at_E ?_;first|refine E_seq ?_|refine E_region ?_|refine E_cond_t Z ?_|refine E_cond_f Z ?_|refine E_block ?_|refine E_skip ?_|refine E_ret ?_|refine E_exit ?_)))
    all_goals (first|(exfalso;omega)|skip)
    exact ret_1 Z Z ⟨r,rfl,hXr,by have:=xD.size;omega,mr⟩
end Go.Proofs.YtnifmbbpfdghmaaGreatDoor
