/-
  Structs of numbers compared. Walks: the reference's links: what is reached by them. Walks: what the reference's links reach. Walks: the reference's check of links and of variants. Walks: the reference's check of a lexicon. Walks: the reference's check of a net. Walks: the reference's check of an orthography. Walks: the reference's bounds of a lexicon. Lists of numbers that rise: each is told by its members; numbers put in, sorted, joined, taken out. Walks: the reference's Put and Sorted. Of numbers that are all different, as many stand in the list that is sorted. What Then, Within, Has and queries find, as lists of Ids that rise. Plain: distinct, out of the lengths. Walks: the reference's check of a rule. Walks: the reference's check of the rules of a language. Walks: the reference's check of a language; a language that is right and small.
-/
import Derived.Test.YtjicdgejhkgpgaaGreatDoorYe
import Derived.Test.YtjicdgejhkgpgaaGreatDoorYq
import Derived.Test.YtjicdgejhkgpgaaGreatDoorYj
import Derived.Test.YtjicdgejhkgpgaaGreatDoorYk
import Derived.Test.YtjicdgejhkgpgaaGreatDoorYf
import Derived.Test.YtjicdgejhkgpgaaGreatDoorYn
import Derived.Test.YtjicdgejhkgpgaaGreatDoorYm
set_option linter.all false
namespace Go.En
open Go.RowKit
section
variable {P : Program} {L : List (Nat × Value)} {w : World} {o : Oper}
structure Ints (P:Program) (t e:TypeId) (m:Nat):Prop where
  st:P.underlying t=some (.struct (P.fieldsOf t))
  hp:P.stoodInHeld t=false
  hg:P.eqGuardType P.depth t=false
  hf:((P.fieldsOf t).toList.map fun f=>(f.name== "_",f.type,f.offset))=(List.range' 0 m).map fun i=>(false,e,i)
  he:P.underlying e=some (.int .i64)
theorem run_eq_fields {e:TypeId} (he:P.underlying e=some (.int .i64)) (l1 l2:List Int):∀(fs:List Field) (k:Nat),(fs.map fun f=>(f.name== "_",f.type,f.offset))=(List.range' k fs.length).map (fun i=>(false,e,i))→l1.length=k+fs.length→l2.length=k+fs.length→
    (Op.eqFields 9999 (l1.map int).toArray (l2.map int).toArray fs).run P w=.ok (decide (l1.drop k=l2.drop k)) w
  | [],k,_,h1,h2=>by
    rw [List.drop_of_length_le (by simp at h1;omega),List.drop_of_length_le (by simp at h2;omega)]
    simp [Op.eqFields,go_sem]
  | f :: fs, k, h, h1, h2 => by
    rw [List.length_cons] at h1 h2
    rw [List.map_cons,List.length_cons,List.range'_succ,List.map_cons,List.cons.injEq] at h
    obtain⟨h0,hr⟩:=h
    simp only [Prod.mk.injEq] at h0
    obtain⟨n1,t1,o1⟩:=h0
    have m1:f.name≠ "_" := by simpa using n1
    have ih:=run_eq_fields he l1 l2 fs (k+1) hr (by omega) (by omega)
    obtain⟨a,ha⟩:∃ a,l1[k]?=some a:=⟨_,List.getElem?_eq_getElem (by omega)⟩
    obtain⟨b,hb⟩:∃ b,l2[k]?=some b:=⟨_,List.getElem?_eq_getElem (by omega)⟩
    have e1:l1.drop k=a::l1.drop (k+1):=by
      obtain⟨h3,h4⟩:=List.getElem?_eq_some_iff.1 ha
      rw [List.drop_eq_getElem_cons h3,h4]
    have e2:l2.drop k=b::l2.drop (k+1):=by
      obtain⟨h3,h4⟩:=List.getElem?_eq_some_iff.1 hb
      rw [List.drop_eq_getElem_cons h3,h4]
    have p1:=run_part_int (P:=P) (w:=w) (xs:=(l1.map int).toArray) (off:=k) (v:=int a) he (by simp [ha])
    have p2:=run_part_int (P:=P) (w:=w) (xs:=(l2.map int).toArray) (off:=k) (v:=int b) he (by simp [hb])
    have q:=run_equalIn_int (P:=P) w 9998 e .i64 .i64 a b he
    simp only [Op.eqFields,t1,o1,m1,ne_eq,not_false_eq_true,if_true,Sem.run_bind]
    rw [p1]
    simp only [Result.andThen_ok]
    rw [p2]
    simp only [Result.andThen_ok]
    rw [q]
    simp only [Result.andThen_ok]
    rw [e1,e2]
    by_cases hab:a=b
    · subst hab
      simp only [beq_self_eq_true,Bool.not_true,Bool.false_eq_true,if_false]
      rw [ih]
      simp
    · simp [hab,go_sem]
theorem run_eq_ints {t e:TypeId} {l1 l2:List Int} (h:Ints P t e l1.length) (hl:l2.length=l1.length):(Op.equalIn 10000 t (.agg (l1.map int).toArray) (.agg (l2.map int).toArray)).run P w=.ok (decide (l1=l2)) w:=by
  rw [run_equalIn_struct w 9999 t _ _ h.st h.hp]
  have hf:=h.hf
  have hn:(P.fieldsOf t).toList.length=l1.length:=by have:=congrArg List.length hf;simpa using this
  have:=run_eq_fields (P:=P) (w:=w) h.he l1 l2 (P.fieldsOf t).toList 0 (by rw [hn];exact hf) (by omega) (by omega)
  rw [List.drop_zero,List.drop_zero] at this
  exact this
theorem val_eq_ints {t e u:TypeId} {x y:Operand} (l1 l2:List Int) {c1 c2:Array Value} {r:Bool} (h:Ints P t e l1.length) (hl:l2.length=l1.length) (ho:o.op=.binOp .eql t x y u) (hx:ev L x=some (.agg c1)) (hy:ev L y=some (.agg c2)) (e1:c1=(l1.map int).toArray) (e2:c2=(l2.map int).toArray) (er:decide (l1=l2)=r):Val P L w o (.bool r):=fun ρ ha=>by
  subst e1;subst e2;subst er
  have h1:=ha.ev (by rw [ho];simp [Op.operands]) hx
  have h2:=ha.ev (by rw [ho];simp [Op.operands]) hy
  have h3:=run_eqGuard_agg (P:=P) w .eql t x y (l1.map int).toArray (l2.map int).toArray h.hg
  have h4:=run_eql_struct (P:=P) w t (l1.map int).toArray (l2.map int).toArray
  have h5:=run_eq_ints (w:=w) h hl
  simp only [execOp,ho,h1,h2,Sem.run_bind]
  rw [h3]
  simp only [Result.andThen_ok]
  rw [h4,h5]
  rfl
end
end Go.En
namespace Go.Proofs.YtjicdgejhkgpgaaGreatDoor
open Go.RowKit Go.En Go.Pv
attribute [local irreducible] E EL K Val Enters Rt Calls bodyPost Code.wp RQ
end Go.Proofs.YtjicdgejhkgpgaaGreatDoor
namespace Go.Proofs.YtjicdgejhkgpgaaGreatDoor
open Go.RowKit Go.En Go.Pv
attribute [local irreducible] E EL K Val Enters Rt Calls bodyPost Code.wp RQ
structure RcG (w:World) (bM B:Nat) (n:Nat) (nv:Value) (next:List Int) (mv:Value) (s:(Int→Bool) × List Int) (wk:World):Prop where
  ext:Ext w wk
  met:Row wk bM 4 (blv n s.1)
  own:wk.ownsRow w.heap.size 3 1 mv s.2.length (s.2.map int)
  high:∀ b,mv.ownBlock=some b→B≤b
  next:SlG (fun b=>b≠bM∧b<B) wk nv next
  size:B≤wk.heap.size
theorem RcG.ext' {w:World} {bM B n:Nat} {nv mv:Value} {next:List Int} {s:(Int→Bool) × List Int} {wk wn:World} (h:RcG w bM B n nv next mv s wk) (x:Ext wk wn):RcG w bM B n nv next mv s wn:=
  ⟨h.ext.trans x,h.met.ext x,own_ext h.own x,h.high,h.next.ext x,Nat.le_trans h.size x.size⟩
end Go.Proofs.YtjicdgejhkgpgaaGreatDoor
namespace Go.Proofs.YtjicdgejhkgpgaaGreatDoor
open Go.RowKit Go.En Go.Pv
attribute [local irreducible] E EL K Val Enters Rt Calls bodyPost Code.wp RQ
end Go.Proofs.YtjicdgejhkgpgaaGreatDoor
namespace Go.Proofs.YtjicdgejhkgpgaaGreatDoor
open Go.RowKit Go.En Go.Pv
attribute [local irreducible] E EL K Val Enters Rt Calls bodyPost Code.wp RQ
end Go.Proofs.YtjicdgejhkgpgaaGreatDoor
namespace Go.Proofs.YtjicdgejhkgpgaaGreatDoor
open Go.RowKit Go.En Go.Pv
attribute [local irreducible] E EL K Val Enters Rt Calls bodyPost Code.wp RQ
end Go.Proofs.YtjicdgejhkgpgaaGreatDoor
namespace Go.Proofs.YtjicdgejhkgpgaaGreatDoor
open Go.RowKit Go.En Go.Pv
attribute [local irreducible] E EL K Val Enters Rt Calls bodyPost Code.wp RQ
end Go.Proofs.YtjicdgejhkgpgaaGreatDoor
namespace Go.Proofs.YtjicdgejhkgpgaaGreatDoor
open Go.RowKit Go.En Go.Pv
attribute [local irreducible] E EL K Val Enters Rt Calls bodyPost Code.wp RQ
end Go.Proofs.YtjicdgejhkgpgaaGreatDoor
namespace Go.Proofs.YtjicdgejhkgpgaaGreatDoor
def Rise (l:List Int):Prop:=l.Pairwise (·<·)
theorem rise_ext : ∀ {a b : List Int}, Rise a → Rise b → (∀ x, x ∈ a ↔ x ∈ b) → a = b
  | [],[],_,_,_=>rfl
  | [],y::b,_,_,h=>absurd ((h y).2 (.head _)) (by simp)
  | x::a,[],_,_,h=>absurd ((h x).1 (.head _)) (by simp)
  | x :: a, y :: b, ha, hb, h => by
    obtain⟨a1,a2⟩:=List.pairwise_cons.1 ha
    obtain⟨b1,b2⟩:=List.pairwise_cons.1 hb
    have hxy:x=y:=by
      rcases List.mem_cons.1 ((h x).1 (.head _)) with e|h1
      · exact e
      · rcases List.mem_cons.1 ((h y).2 (.head _)) with e|h2
        · exact e.symm
        · have:=b1 x h1;have:=a1 y h2;omega
    subst hxy
    rw [rise_ext a2 b2 fun z=>?_]
    constructor
    · intro hz
      rcases List.mem_cons.1 ((h z).1 (.tail _ hz)) with e|h1
      · have:=a1 z hz;omega
      · exact h1
    · intro hz
      rcases List.mem_cons.1 ((h z).2 (.tail _ hz)) with e|h1
      · have:=b1 z hz;omega
      · exact h1
theorem Rise.filter {l:List Int} (h:Rise l) (p:Int→Bool):Rise (l.filter p):=List.Pairwise.filter _ h
theorem Rise.sub {l m:List Int} (h:Rise l) (s:m.Sublist l):Rise m:=List.Pairwise.sublist s h
end Go.Proofs.YtjicdgejhkgpgaaGreatDoor
namespace Go.Proofs.YtjicdgejhkgpgaaGreatDoor
open Go.RowKit Go.En
theorem takeWhile_stop2 {α:Type} {f:α→Bool}:∀ {l:List α} {i:Nat},(∀ j,j<i→∀ a,l[j]?=some a→f a=true)→i≤l.length→(∀ a,l[i]?=some a→f a=false)→(l.takeWhile f).length=i
  | [],i,_,hi,_=>by simp at hi;simp [hi]
  | a::l,0,_,_,h=>by rw [List.takeWhile_cons_of_neg (by simp [h a rfl])];rfl
  | a::l,i+1,h,hi,h2=>by
    rw [List.takeWhile_cons_of_pos (h 0 (by omega) a rfl),List.length_cons,takeWhile_stop2 (i:=i) (fun j hj b hb=>h (j+1) (by omega) b hb) (by simpa using hi) (fun b hb=>h2 b hb)]
def withN (ids:List Int) (id:Int):Nat:=(ids.takeWhile fun z=>decide (z<id)).length
def nputF (l:List Int) (n:Int):List Int:=
  l.take (withN l n)++n::(if l[withN l n]?=some n then l.drop (withN l n+1) else l.drop (withN l n))
def sortedF (l:List Int):List Int:=l.foldl nputF []
theorem ints_sub {G:Nat→Prop} {w:World} {a:Option Addr} {n cap:Nat} {xs:List Int} (h:SlG G w (.slice a n cap) xs):0<(xs.map int).length→∃ b so,a=some ⟨b,so,none⟩∧At w b so (xs.map int):=fun h0=>by
  obtain⟨a',cap',hv,_,_,hp⟩:=h
  cases hv
  obtain⟨b,off,rfl,_,css,h1,h2⟩:=hp (by simpa using h0)
  rw [ats_ints h1,ints_flat] at h2
  exact⟨b,off,rfl,h2⟩
theorem withN_of {ids:List Int} {id:Int} {i:Nat} (hall:∀ j,j<i→∀ z,ids[j]?=some z→decide (z<id)=true) (hi:i≤ids.length) (hs:∀ z,ids[i]?=some z→¬ z<id):withN ids id=i:=
  takeWhile_stop2 hall hi (fun z hz=>decide_eq_false (hs z hz))
theorem nput_len (l:List Int) (n:Int):(nputF l n).length≤l.length+1:=by
  unfold nputF
  split <;> simp <;> omega
theorem nput_at {l:List Int} {n:Int} {i:Nat} (h:withN l n=i) (he:l[i]?=some n):nputF l n=l.take i++n::l.drop (i+1):=by
  unfold nputF;rw [h,if_pos he]
theorem nput_no {l:List Int} {n:Int} {i:Nat} (h:withN l n=i) (he:l[i]?≠some n):nputF l n=l.take i++n::l.drop i:=by
  unfold nputF;rw [h,if_neg he]
theorem fold_len:∀(l acc:List Int),(l.foldl nputF acc).length≤acc.length+l.length
  | [],acc=>by simp
  | z::l,acc=>by
    have h1:=fold_len l (nputF acc z)
    have h2:=nput_len acc z
    simp only [List.foldl_cons,List.length_cons]
    omega
theorem fold_take {l acc:List Int} {i:Nat} {z:Int} (h:l[i]?=some z):(l.take (i+1)).foldl nputF acc=nputF ((l.take i).foldl nputF acc) z:=by
  obtain⟨hi,rfl⟩:=List.getElem?_eq_some_iff.1 h
  rw [List.take_succ_eq_append_getElem hi,List.foldl_append];rfl
attribute [local irreducible] E EL K Val Enters Rt Calls bodyPost Code.wp RQ
set_option maxHeartbeats 1000000 in
theorem nputW_any (l : List Int) (n : Int) (v : Value) (w : World) (hv : Sl w v l) (hlen : l.length ≤ 1099511627776) : Calls Tryz.prog 105 #[v, int n] w (Rt fun u w' => Ext w w' ∧ SlG (fun b => w.heap.size ≤ b) w' u (nputF l n)) := by
  refine calls_E (n:=51) (args:=[v,int n]) Tryz.func105 rfl Tryz.ntmps105 (by simp) ?_
  have hv0:=hv
  obtain⟨a,cap,rfl,hc,hm,hp⟩:=hv.sl
  (repeat' (first|(refine at_EL ?_;first|refine eN ?_|refine eV Z Z (zB Z Z) ?_)|(refine at_K ?_;first|refine K_then ?_)|(refine at_E ?_;first|refine E_seq ?_|refine E_region ?_|refine E_block ?_)))
  refine E_loop (ι:=Nat × Value) (fun x=>[(0,.slice a l.length cap),(1,int n),(5,x.2),(6,int x.1)])
    (fun x wr=>x.1≤l.length∧Ext w wr∧(∀ j,j<x.1→∀ z,l[j]?=some z→decide (z<n)=true)∧wr.ownsRow w.heap.size 3 1 x.2 x.1 ((l.take x.1).map int)) (fun x=>l.length-x.1) (0,.slice none 0 0)
    ⟨rfl,rfl,rfl,rfl,trivial⟩ ⟨Nat.zero_le _,Ext.refl _,fun j hj=>by omega,World.ownsRow_nil _ _ _ _⟩ ?_
  rintro⟨i,vO⟩ wr ⟨hi,hx,hall,hown⟩
  dsimp only at hi hx hall hown ⊢
  have hvr:=hv0.ext hx
  by_cases hlt:i<l.length
  · obtain⟨b,off,rfl⟩:=hp (by omega)
    obtain⟨z,hz⟩:∃ z,l[i]?=some z:=⟨_,List.getElem?_eq_getElem hlt⟩
    have hcell:=int_elem hvr hz
    by_cases hzl:z<n
    · (repeat' (first|refine eV Z Z (val_indexAddr (m:=i) Z Z Z Z hlt) ?_|refine eV Z Z (val_load Z Z Z hcell) ?_|(refine EL_app (own_ext hown xS) (hx.trans xS) rS.at rfl rfl rfl rfl rfl rfl rfl rfl rfl (by omega) (by omega) (fun vB wB oB xB _=>?_))|(refine at_EL ?_;first|refine eN ?_|refine eO Z Z ?_|refine eV Z Z (zA Z Z) ?_|refine eV Z Z (zB Z Z) ?_|(refine at_bin ?_;first|refine eD Z Z (zL Z Z Z) (fun hh=>?_) (fun hh=>?_)|refine eV Z Z (zU Z Z Z (by omega) (by omega)) ?_)|(refine at_call ?_;first|refine eV Z Z (zK Z Z) ?_)|refine eV Z Z (zC Z Z Z) ?_|refine eV Z Z (zD Z Z Z) ?_|refine eL Z Z Z Z Z Z Z Z (fun bS wS xS hbS rS=>?_))|(refine at_K ?_;first|refine K_then ?_|refine K_in ?_|refine K_then_exit ?_|refine K_in_exit ?_)|(refine at_E ?_;first|refine E_seq ?_|refine E_region ?_|refine E_cond_t Z ?_|refine E_cond_f Z ?_|refine E_block ?_|refine E_skip ?_|refine E_exit ?_)))
      all_goals (first|(exfalso;omega)|skip)
      refine K_rnd (i+1,vB) ⟨rfl,rfl,rfl,rfl,trivial⟩ ⟨by dsimp only;omega,xB,fun j hj q hq=>?_,?_⟩ (by dsimp only;omega)
      · dsimp only at hj
        by_cases hj2:j<i
        · exact hall j hj2 q hq
        · obtain rfl:j=i:=by omega
          rw [hz] at hq;cases hq
          exact decide_eq_true hzl
      · dsimp only
        obtain⟨hi2,rfl⟩:=List.getElem?_eq_some_iff.1 hz
        rw [List.take_succ_eq_append_getElem hi2,List.map_append]
        simpa [Value.cells] using oB
    have hw:=withN_of hall hi (fun z' hz'=>by rw [hz] at hz';cases hz';exact hzl)
    by_cases hze:z=n
    · have hval:=nput_at hw (by rw [hz,hze])
      obtain⟨kk,hkk0⟩:∃ kk,kk=i+1:=⟨_,rfl⟩
      rw [← hkk0] at hval
      have hkk:kk≤l.length:=by omega
      (repeat' (first|refine eV Z Z (val_indexAddr (m:=i) Z Z Z Z hlt) ?_|refine eV Z Z (val_load Z Z Z hcell) ?_|(refine EL_app (own_ext hown xS) (hx.trans xS) rS.at rfl rfl rfl rfl rfl rfl rfl rfl rfl (by omega) (by omega) (fun vB wB oB xB _=>?_);have hcell2:=(hv0.ext xB);replace hcell2:=int_elem hcell2 hz)|refine eV Z Z (val_load Z Z Z hcell2) ?_|refine eV Z Z (val_slice_l (b:=kk) Z Z Z (by omega) (by omega)) ?_|(refine at_EL ?_;first|refine eN ?_|refine eO Z Z ?_|refine eV Z Z (zA Z Z) ?_|refine eV Z Z (zB Z Z) ?_|(refine at_bin ?_;first|refine eD Z Z (zL Z Z Z) (fun hh=>?_) (fun hh=>?_)|refine eD Z Z (zM Z Z Z) (fun hh=>?_) (fun hh=>?_)|refine eV Z Z (zU Z Z Z (by omega) (by omega)) ?_)|(refine at_call ?_;first|refine eV Z Z (zK Z Z) ?_)|refine eV Z Z (zC Z Z Z) ?_|refine eV Z Z (zD Z Z Z) ?_|refine eL Z Z Z Z Z Z Z Z (fun bS wS xS hbS rS=>?_))|(refine at_K ?_;first|refine K_then ?_|refine K_in ?_|refine K_then_exit ?_|refine K_in_exit ?_)|(refine at_E ?_;first|refine E_seq ?_|refine E_region ?_|refine E_cond_t Z ?_|refine E_cond_f Z ?_|refine E_block ?_|refine E_skip ?_|refine E_exit ?_)))
      all_goals (first|(exfalso;omega)|skip)
      refine EL_appO (news:=(l.drop kk).map int) oB xB (fun h0=>ints_sub ((hv0.ext xB).drop hkk) (by simp;omega)) Z Z Z Z Z (by simp) (ints_one _) Z Z (by omega) (by omega) (fun vQ wQ oQ xQ _ _=>?_)
      (repeat' (first|(refine at_EL ?_;first|refine eN ?_|refine eV Z Z (zB Z Z) ?_)|(refine at_K ?_;first|refine K_then ?_)|(refine at_E ?_;first|refine E_ret ?_)))
      refine ret_1 Z Z ⟨xQ,?_⟩
      rw [hval]
      exact own_SlG (G:=fun b=>w.heap.size≤b) (css:=(l.take i++n::l.drop kk).map fun z=>[int z]) (by rw [ints_flat];simpa [show Rep.sz Int=1 from rfl,Value.cells] using oQ) (ints_ats _ _) (fun _ h=>h) (by simp;omega) (by simp;omega)
    · have hval:=nput_no hw (by rw [hz];simpa using hze)
      obtain⟨kk,hkk0⟩:∃ kk,kk=i:=⟨_,rfl⟩
      rw [show l.drop i=l.drop kk by rw [hkk0]] at hval
      have hkk:kk≤l.length:=by omega
      (repeat' (first|refine eV Z Z (val_indexAddr (m:=i) Z Z Z Z hlt) ?_|refine eV Z Z (val_load Z Z Z hcell) ?_|(refine EL_app (own_ext hown xS) (hx.trans xS) rS.at rfl rfl rfl rfl rfl rfl rfl rfl rfl (by omega) (by omega) (fun vB wB oB xB _=>?_);have hcell2:=(hv0.ext xB);replace hcell2:=int_elem hcell2 hz)|refine eV Z Z (val_load Z Z Z hcell2) ?_|refine eV Z Z (val_slice_l (b:=kk) Z Z Z (by omega) (by omega)) ?_|(refine at_EL ?_;first|refine eN ?_|refine eO Z Z ?_|refine eV Z Z (zA Z Z) ?_|refine eV Z Z (zB Z Z) ?_|(refine at_bin ?_;first|refine eD Z Z (zL Z Z Z) (fun hh=>?_) (fun hh=>?_)|refine eD Z Z (zM Z Z Z) (fun hh=>?_) (fun hh=>?_)|refine eV Z Z (zU Z Z Z (by omega) (by omega)) ?_)|(refine at_call ?_;first|refine eV Z Z (zK Z Z) ?_)|refine eV Z Z (zC Z Z Z) ?_|refine eV Z Z (zD Z Z Z) ?_|refine eL Z Z Z Z Z Z Z Z (fun bS wS xS hbS rS=>?_))|(refine at_K ?_;first|refine K_then ?_|refine K_in ?_|refine K_then_exit ?_|refine K_in_exit ?_)|(refine at_E ?_;first|refine E_seq ?_|refine E_region ?_|refine E_cond_t Z ?_|refine E_cond_f Z ?_|refine E_block ?_|refine E_skip ?_|refine E_exit ?_)))
      all_goals (first|(exfalso;omega)|skip)
      refine EL_appO (news:=(l.drop kk).map int) oB xB (fun h0=>ints_sub ((hv0.ext xB).drop hkk) (by simp;omega)) Z Z Z Z Z (by simp) (ints_one _) Z Z (by omega) (by omega) (fun vQ wQ oQ xQ _ _=>?_)
      (repeat' (first|(refine at_EL ?_;first|refine eN ?_|refine eV Z Z (zB Z Z) ?_)|(refine at_K ?_;first|refine K_then ?_)|(refine at_E ?_;first|refine E_ret ?_)))
      refine ret_1 Z Z ⟨xQ,?_⟩
      rw [hval]
      exact own_SlG (G:=fun b=>w.heap.size≤b) (css:=(l.take i++n::l.drop kk).map fun z=>[int z]) (by rw [ints_flat];simpa [show Rep.sz Int=1 from rfl,Value.cells] using oQ) (ints_ats _ _) (fun _ h=>h) (by simp;omega) (by simp;omega)
  · have hw:=withN_of (id:=n) hall hi (fun z' hz'=>by have:=(List.getElem?_eq_some_iff.1 hz').1;omega)
    have hval:=nput_no hw (by rw [List.getElem?_eq_none (by omega)];simp)
    obtain⟨kk,hkk0⟩:∃ kk,kk=i:=⟨_,rfl⟩
    rw [show l.drop i=l.drop kk by rw [hkk0]] at hval
    have hkk:kk≤l.length:=by omega
    (repeat' (first|(refine EL_app (own_ext hown xS) (hx.trans xS) rS.at rfl rfl rfl rfl rfl rfl rfl rfl rfl (by omega) (by omega) (fun vB wB oB xB _=>?_))|refine eV Z Z (val_slice_l (b:=kk) Z Z Z (by omega) (by omega)) ?_|(refine at_EL ?_;first|refine eN ?_|refine eO Z Z ?_|refine eV Z Z (zA Z Z) ?_|refine eV Z Z (zB Z Z) ?_|(refine at_bin ?_;first|refine eD Z Z (zL Z Z Z) (fun hh=>?_) (fun hh=>?_))|(refine at_call ?_;first|refine eV Z Z (zK Z Z) ?_)|refine eV Z Z (zD Z Z Z) ?_|refine eL Z Z Z Z Z Z Z Z (fun bS wS xS hbS rS=>?_))|(refine at_K ?_;first|refine K_then ?_|refine K_then_exit ?_|refine K_in_exit ?_)|(refine at_E ?_;first|refine E_seq ?_|refine E_region ?_|refine E_cond_f Z ?_|refine E_skip ?_|refine E_exit ?_)))
    all_goals (first|(exfalso;omega)|skip)
    refine EL_appO (news:=(l.drop kk).map int) oB xB (fun h0=>ints_sub ((hv0.ext xB).drop hkk) (by simp;omega)) Z Z Z Z Z (by simp) (ints_one _) Z Z (by omega) (by omega) (fun vQ wQ oQ xQ _ _=>?_)
    (repeat' (first|(refine at_EL ?_;first|refine eN ?_|refine eV Z Z (zB Z Z) ?_)|(refine at_K ?_;first|refine K_then ?_)|(refine at_E ?_;first|refine E_ret ?_)))
    refine ret_1 Z Z ⟨xQ,?_⟩
    rw [hval]
    exact own_SlG (G:=fun b=>w.heap.size≤b) (css:=(l.take i++n::l.drop kk).map fun z=>[int z]) (by rw [ints_flat];simpa [show Rep.sz Int=1 from rfl,Value.cells] using oQ) (ints_ats _ _) (fun _ h=>h) (by simp;omega) (by simp;omega)
theorem sortedW_any (l:List Int) (v:Value) (w:World) (hv:Sl w v l) (hlen:l.length≤1099511627776):Calls Tryz.prog 67 #[v] w (Rt fun u w'=>Ext w w'∧SlG (fun b=>w.heap.size≤b) w' u (sortedF l)):=by
  refine calls_E (n:=18) (args:=[v]) Tryz.func67 rfl Tryz.ntmps67 (by simp) ?_
  have hv0:=hv
  obtain⟨a,cap,rfl,hc,hm,hp⟩:=hv.sl
  (repeat' (first|(refine at_EL ?_;first|refine eN ?_|refine eV Z Z (zA Z Z) ?_|refine eV Z Z (zB Z Z) ?_|(refine at_call ?_;first|refine eV Z Z (zK Z Z) ?_))|(refine at_K ?_;first|refine K_then ?_)|(refine at_E ?_;first|refine E_seq ?_|refine E_region ?_|refine E_block ?_)))
  refine E_loop (ι:=Nat × Value) (fun x=>[(0,.slice a l.length cap),(3,x.2),(6,int l.length),(7,int x.1)])
    (fun x wr=>x.1≤l.length∧Ext w wr∧SlG (fun b=>w.heap.size≤b) wr x.2 ((l.take x.1).foldl nputF [])) (fun x=>l.length-x.1) (0,.slice none 0 0)
    ⟨rfl,rfl,rfl,rfl,trivial⟩ ⟨Nat.zero_le _,Ext.refl _,SlG.nil⟩ ?_
  rintro⟨i,vO⟩ wr ⟨hi,hx,hs⟩
  dsimp only at hi hx hs ⊢
  have hvr:=hv0.ext hx
  have hfl:=fold_len (l.take i) []
  rw [List.length_take] at hfl
  simp only [List.length_nil] at hfl
  by_cases hlt:i<l.length
  · obtain⟨b,off,rfl⟩:=hp (by omega)
    obtain⟨z,hz⟩:∃ z,l[i]?=some z:=⟨_,List.getElem?_eq_getElem hlt⟩
    have hcell:=int_elem hvr hz
    (repeat' (first|refine eV Z Z (val_indexAddr (m:=i) Z Z Z Z hlt) ?_|refine eV Z Z (val_load Z Z Z hcell) ?_|(refine EL_call Z Z (entersF Z Z en105) (nputW_any _ z vO _ hs.any (by omega)) (fun vC wC hC=>?_);obtain⟨xC,hC⟩:=hC)|(refine at_EL ?_;first|refine eN ?_|refine eV Z Z (zA Z Z) ?_|refine eV Z Z (zB Z Z) ?_|(refine at_bin ?_;first|refine eD Z Z (zL Z Z Z) (fun hh=>?_) (fun hh=>?_)|refine eV Z Z (zU Z Z Z (by omega) (by omega)) ?_))|(refine at_K ?_;first|refine K_then ?_|refine K_in ?_|refine K_then_exit ?_|refine K_in_exit ?_)|(refine at_E ?_;first|refine E_seq ?_|refine E_region ?_|refine E_cond_t Z ?_|refine E_cond_f Z ?_|refine E_block ?_|refine E_skip ?_|refine E_ret ?_|refine E_exit ?_)))
    all_goals (first|(exfalso;omega)|skip)
    exact K_rnd (i+1,vC) ⟨rfl,rfl,rfl,rfl,trivial⟩ ⟨by dsimp only;omega,hx.trans xC,by dsimp only;rw [fold_take hz];exact SlG.wk hC (fun b hb=>Nat.le_trans hx.size hb)⟩ (by dsimp only;omega)
  · obtain rfl:i=l.length:=by omega
    rw [List.take_length] at hs
    (repeat' (first|(refine at_EL ?_;first|refine eN ?_|refine eV Z Z (zA Z Z) ?_|refine eV Z Z (zB Z Z) ?_|(refine at_bin ?_;first|refine eD Z Z (zL Z Z Z) (fun hh=>?_) (fun hh=>?_)))|(refine at_K ?_;first|refine K_then ?_|refine K_then_exit ?_|refine K_in_exit ?_)|(refine at_E ?_;first|refine E_seq ?_|refine E_region ?_|refine E_cond_t Z ?_|refine E_cond_f Z ?_|refine E_block ?_|refine E_skip ?_|refine E_ret ?_|refine E_exit ?_)))
    all_goals (first|(exfalso;omega)|skip)
    exact ret_1 Z Z ⟨hx,hs⟩
theorem sorted_any (l:List Int) (v:Value) (w:World) (hv:Sl w v l) (hlen:l.length≤1099511627776):Calls Tryz.prog 67 #[v] w (Rt fun u w'=>Ext w w'∧Sl w' u (sortedF l)):=calls_mono (sortedW_any l v w hv hlen) (fun _ _ h=>⟨h.1,h.2.any⟩)
end Go.Proofs.YtjicdgejhkgpgaaGreatDoor
namespace Go.Proofs.YtjicdgejhkgpgaaGreatDoor
theorem withN_split {l : List Int} {n : Int} (h : Rise l) : ∃ s r, l = s ++ r ∧ withN l n = s.length ∧ (∀ x ∈ s, x < n) ∧ ∀ x ∈ r, n ≤ x := by
  refine⟨l.takeWhile (fun z=>decide (z<n)),l.dropWhile (fun z=>decide (z<n)),(List.takeWhile_append_dropWhile ..).symm,rfl,fun x hx=>?_,fun x hx=>?_⟩
  · have:=List.all_takeWhile (p:=fun z=>decide (z<n)) (l:=l)
    exact of_decide_eq_true (List.all_eq_true.1 this x hx)
  · have hr:Rise (l.dropWhile (fun z=>decide (z<n))):=h.sub (List.dropWhile_sublist _)
    cases hd:l.dropWhile (fun z=>decide (z<n)) with
    | nil=>rw [hd] at hx;cases hx
    | cons y r=>
      have hy:¬ y<n:=by
        have:=List.head?_dropWhile_not (fun z=>decide (z<n)) l
        rw [hd] at this
        simpa using this
      rw [hd] at hx hr
      obtain⟨h1,_⟩:=List.pairwise_cons.1 hr
      rcases List.mem_cons.1 hx with rfl|hx
      · omega
      · have:=h1 x hx;omega
theorem nput_rise {l : List Int} {n : Int} (h : Rise l) : Rise (nputF l n) ∧ ∀ x, x ∈ nputF l n ↔ x = n ∨ x ∈ l := by
  obtain⟨s,r,hl,hw,h1,h2⟩:=withN_split (n:=n) h
  have hs:Rise s:=h.sub (by rw [hl];exact List.sublist_append_left s r)
  have hr:Rise r:=h.sub (by rw [hl];exact List.sublist_append_right s r)
  have key:∀ t:List Int,Rise t→(∀ x∈t,n<x)→Rise (s++n::t):=fun t ht hn=>
    List.pairwise_append.2 ⟨hs,List.pairwise_cons.2 ⟨hn,ht⟩,fun a ha b hb=>by
      rcases List.mem_cons.1 hb with rfl|hb
      · exact h1 a ha
      · have:=h1 a ha;have:=hn b hb;omega⟩
  unfold nputF
  rw [hw]
  cases r with
  | nil=>
    rw [List.append_nil] at hl
    subst hl
    rw [if_neg (by simp),List.take_length,List.drop_length]
    exact⟨key [] (by simp [Rise]) (by simp),fun x=>by simp [or_comm]⟩
  | cons y r=>
    obtain⟨r1,r2⟩:=List.pairwise_cons.1 hr
    have hy:l[s.length]?=some y:=by rw [hl];simp
    have ht:l.take s.length=s:=by rw [hl];simp
    by_cases hyn:y=n
    · subst hyn
      rw [if_pos hy,ht,show l.drop (s.length+1)=r by rw [hl];simp]
      refine⟨key r r2 r1,fun x=>?_⟩
      rw [hl,List.mem_append]
      constructor
      · intro hx;exact .inr hx
      · rintro(rfl|hx)
        · exact .inr (.head _)
        · exact hx
    · rw [if_neg (fun e=>hyn (Option.some.inj (hy.symm.trans e))),ht,show l.drop s.length=y::r by rw [hl];simp]
      have hny:n<y:=by have:=h2 y (.head _);omega
      refine⟨key (y::r) hr fun x hx=>?_,fun x=>?_⟩
      rotate_left
      · simp only [hl,List.mem_append,List.mem_cons]
        constructor
        · rintro(hx|hx|hx)
          · exact .inr (.inl hx)
          · exact .inl hx
          · exact .inr (.inr hx)
        · rintro(hx|hx|hx)
          · exact .inr (.inl hx)
          · exact .inl hx
          · exact .inr (.inr hx)
      rcases List.mem_cons.1 hx with rfl|hx
      · exact hny
      · have:=r1 x hx;omega
theorem fold_rise:∀(l acc:List Int),Rise acc→Rise (l.foldl nputF acc)∧∀ x,x∈l.foldl nputF acc↔x∈acc∨x∈l
  | [],acc,h=>⟨h,fun x=>by simp⟩
  | z :: l, acc, h => by
    obtain⟨p1,p2⟩:=nput_rise (n:=z) h
    obtain⟨q1,q2⟩:=fold_rise l (nputF acc z) p1
    refine⟨q1,fun x=>?_⟩
    rw [List.foldl_cons,q2,p2,List.mem_cons]
    constructor
    · rintro((h|h)|h)
      · exact .inr (.inl h)
      · exact .inl h
      · exact .inr (.inr h)
    · rintro(h|h|h)
      · exact .inl (.inr h)
      · exact .inl (.inl h)
      · exact .inr h
theorem sorted_rise (l:List Int):Rise (sortedF l)∧∀ x,x∈sortedF l↔x∈l:=by
  obtain⟨h1,h2⟩:=fold_rise l [] (by simp [Rise])
  exact⟨h1,fun x=>by unfold sortedF;rw [h2];simp⟩
end Go.Proofs.YtjicdgejhkgpgaaGreatDoor
namespace Go.Proofs.YtjicdgejhkgpgaaGreatDoor
open Go.RowKit Go.En Go.Pv
end Go.Proofs.YtjicdgejhkgpgaaGreatDoor
namespace Go.Proofs.YtjicdgejhkgpgaaGreatDoor
open Go.RowKit Go.En Go.Pv
attribute [local irreducible] E EL K Val Enters Rt Calls bodyPost Code.wp RQ
end Go.Proofs.YtjicdgejhkgpgaaGreatDoor
namespace Go.Proofs.YtjicdgejhkgpgaaGreatDoor
open Go.RowKit Go.En Go.Pv
attribute [local irreducible] E EL K Val Enters Rt Calls bodyPost Code.wp RQ
end Go.Proofs.YtjicdgejhkgpgaaGreatDoor
namespace Go.Proofs.YtjicdgejhkgpgaaGreatDoor
open Go.RowKit Go.En Go.Pv
structure LgBd (g:Lg):Prop where
  segs:∀ p∈g.segs,p.name.length≤1048576
  units:∀ u∈g.units,u.graph.length≤1048576
  letters:∀ l∈g.letters,∀ t∈l,t.l.length≤1048576
  lettersL:∀ l∈g.letters,l.length≤1048576
  oname:g.oname.length≤1048576
  rules:∀ r∈g.rules,r.frm.length≤1048576
  gloss:∀ e∈g.lex,∀ x∈e.senses,x.gloss.length≤1048576
attribute [local irreducible] E EL K Val Enters Rt Calls bodyPost Code.wp RQ
end Go.Proofs.YtjicdgejhkgpgaaGreatDoor
