/-
  Walks: the reference's Points, Dangling, Uses. Walks of align: Next, of both. Documents, plainly: what lies below a note is found once. Maps whose keys are numbers: made, looked up, updated. A map's update, as a step of a region that draws its order. Walks of align: Under's closure. Walks of align: Under (but for its sorting). Walks of align: slices.Values, AppendSeq (the kit's worked text on a range over a function, turned to this program). The library's slices.Sort at []int, laid at this program: what the kit's one command prints, in plain words.
-/
import Derived.Test.YtjicdgejhkgpgaaGreatDoorYn
import Derived.Test.YtjicdgejhkgpgaaGreatDoorY0
import Derived.Test.YtjicdgejhkgpgaaGreatDoorYl
import Derived.Test.YtjicdgejhkgpgaaGreatDoorYr
import Derived.Test.YtjicdgejhkgpgaaGreatDoorYm
import Derived.Test.YtjicdgejhkgpgaaGreatDoorYe
import Derived.MapKept
import Derived.Test.YtjicdgejhkgpgaaGreatDoorYk
import Derived.RangeFuncNested
import Derived.RangeFuncBound
import Derived.RangeFuncCalls
import Derived.RangeFuncLeaves
import Derived.RangeFuncBox
import Derived.Shelf.Abstract
import Derived.Shelf.RegionOpen
import Derived.WalkKit
import Derived.OwnWalkIn
import Derived.TacticsInMore
import Derived.LoopNIn
import Derived.LoopIn
import Derived.Maps.AppendAt
import Derived.Lib.OthersKept
import Derived.Test.YtjicdgejhkgpgaaGreatDoorChecked
import Derived.Test.YtjicdgejhkgpgaaGreatDoorProg
import Derived.Shelf.Sort.Plain
import Derived.Shelf.Slices.In.SortNone
import Derived.Sort.OwnSortedInts
set_option linter.all false
namespace Go.Proofs.YtjicdgejhkgpgaaGreatDoor
open Go.RowKit Go.En Go.Pv
theorem pt_id {lab:List UInt8→Bool} {txt:List UInt8→Int} {lex:List En} {l:List Pnt} {i:Nat} {p:Pnt} (h:l[i]?=some p) (hi:identB p.id=false):pointAt lab txt lex l i=2:=by
  unfold pointAt;rw [h];dsimp only;rw [hi];rfl
theorem pt_zero {lab:List UInt8→Bool} {txt:List UInt8→Int} {lex:List En} {l:List Pnt} {p:Pnt} (h:l[0]?=some p) (hi:identB p.id=true):pointAt lab txt lex l 0=pointE lab txt lex p:=by
  unfold pointAt;rw [h];dsimp only;rw [hi];rfl
theorem pt_up {lab:List UInt8→Bool} {txt:List UInt8→Int} {lex:List En} {l:List Pnt} {i:Nat} {p q:Pnt} (h:l[i]?=some p) (hi:identB p.id=true) (h0:0<i) (hq:l[i-1]?=some q) (hlt:q.id<p.id):pointAt lab txt lex l i=pointE lab txt lex p:=by
  unfold pointAt;rw [h];dsimp only;rw [hi,if_pos h0,hq];simp [hlt]
theorem pt_ten {lab:List UInt8→Bool} {txt:List UInt8→Int} {lex:List En} {l:List Pnt} {i:Nat} {p q:Pnt} (h:l[i]?=some p) (hi:identB p.id=true) (h0:0<i) (hq:l[i-1]?=some q) (hlt:¬ q.id<p.id):pointAt lab txt lex l i=10:=by
  unfold pointAt;rw [h];dsimp only;rw [hi,if_pos h0,hq];simp [hlt]
attribute [local irreducible] E EL K Val Enters Rt Calls bodyPost Code.wp RQ
theorem usesL_len {l:List Pnt} {id:Int}:(usesL l id).length≤l.length:=by unfold usesL;rw [List.length_map];exact List.length_filter_le _ _
set_option maxHeartbeats 4000000 in
set_option maxRecDepth 8000 in
theorem uses32_any (l:List Pnt) (hn:l.length≤1000) (id:Int) (v:Value) (w:World) (hv:Sl w v l):Calls Tryz.prog 32 #[v,int id] w (Rt fun u w'=>Sl w' u (sortedF (usesL l id))∧Ext w w'):=by
  have hv0:=hv
  obtain⟨a,c,rfl,_,hm,hpp⟩:=hv.sl
  refine calls_E (n:=31) (args:=[.slice a l.length c,int id]) Tryz.func32 rfl Tryz.ntmps32 (by simp) ?_
  (repeat' (first|(refine at_EL ?_;first|refine eN ?_|refine eV Z Z (zB Z Z) ?_|refine eL Z Z Z Z Z Z Z Z (fun bS wS xS hbS rS=>?_))|(refine at_K ?_;first|refine K_then ?_)|(refine at_E ?_;first|refine E_seq ?_|refine E_region ?_|refine E_block ?_)))
  refine E_loop (ι:=Nat × Value) (fun z=>[(0,.slice a l.length c),(1,int id),(5,z.2),(6,int z.1)])
    (fun z wr=>z.1≤l.length∧Grow Tt w 3 (((l.take z.1).filter fun p=>p.entries.contains id).map (·.id)) z.2 wr) (fun z=>l.length-z.1) (0,.slice (some ⟨bS,0,none⟩) 0 0)
    ⟨rfl,rfl,rfl,rfl,trivial⟩ ⟨Nat.zero_le _,Grow.nil rS xS (by omega)⟩ ?_
  rintro⟨i,ov⟩ wr ⟨hi,hgr⟩
  dsimp only at hi hgr ⊢
  have hvr:=hv0.ext hgr.x
  by_cases hlt:i<l.length
  · obtain⟨b,off,rfl⟩:=hpp (by omega)
    obtain⟨p,hpi⟩:∃ p,l[i]?=some p:=⟨_,List.getElem?_eq_getElem hlt⟩
    have hft:=filter_take_map (p:=fun p:Pnt=>p.entries.contains id) (f:=(·.id)) hpi
    have hfl:=filter_take_len (p:=fun p:Pnt=>p.entries.contains id) (l:=l) (i:=i)
    have hml:(((l.take i).filter fun p=>p.entries.contains id).map (·.id)).length≤i:=by rw [List.length_map];exact hfl
    obtain⟨a0,c0,a1,c1,hat,_,he,_⟩:=pnt_elem hvr hpi
    have ch:=fun wz hz=>r1has_any p.entries id (.slice a0 p.entries.length c0) wz hz
    rw [← List.contains_eq_mem] at ch
    cases hb:p.entries.contains id with
    | true=>
      rw [hb] at ch hft
      rw [if_pos rfl] at hft
      (repeat' (first|refine eV Z Z (val_load Z Z Z (At.cellAt (by assumption) (by rfl))) ?_|refine eV Z Z (val_indexAddr (m:=i) Z Z Z (by first|rfl|omega) (by omega)) ?_|(refine EL_call Z Z (entersF Z Z en33) (ch _ he) (fun vC wC hC=>?_);obtain⟨rfl,xC⟩:=hC;replace hat:=hat.ext xC;replace hgr:=hgr.ext xC)|(refine EL_push (x:=p.id) (hgr.ext xS) rS rfl rfl rfl rfl rfl rfl rfl rfl (by omega) (by omega) (fun vK wK hK=>?_))|(refine at_EL ?_;first|refine eN ?_|refine eV Z Z (zA Z Z) ?_|refine eV Z Z (zB Z Z) ?_|(refine at_bin ?_;first|refine eD Z Z (zL Z Z Z) (fun hh=>?_) (fun hh=>?_)|refine eV Z Z (zU Z Z Z (by omega) (by omega)) ?_)|(refine at_call ?_;first|refine eV Z Z (zK Z Z) ?_)|refine eV Z Z (zH Z Z) ?_|refine eL Z Z Z Z Z Z Z Z (fun bS wS xS hbS rS=>?_))|(refine at_K ?_;first|refine K_then ?_|refine K_in ?_|refine K_then_exit ?_|refine K_in_exit ?_)|(refine at_E ?_;first|refine E_seq ?_|refine E_region ?_|refine E_cond_t Z ?_|refine E_cond_f Z ?_|refine E_block ?_|refine E_skip ?_|refine E_exit ?_)))
      all_goals (try (exfalso;omega))
      exact K_rnd (i+1,vK) ⟨rfl,rfl,rfl,rfl,trivial⟩ ⟨by dsimp only;omega,by dsimp only;rw [hft];exact hK⟩ (by dsimp only;omega)
    | false=>
      rw [hb] at ch hft
      rw [if_neg (by simp),List.append_nil] at hft
      (repeat' (first|refine eV Z Z (val_load Z Z Z (At.cellAt (by assumption) (by rfl))) ?_|refine eV Z Z (val_indexAddr (m:=i) Z Z Z (by first|rfl|omega) (by omega)) ?_|(refine EL_call Z Z (entersF Z Z en33) (ch _ he) (fun vC wC hC=>?_);obtain⟨rfl,xC⟩:=hC;replace hat:=hat.ext xC;replace hgr:=hgr.ext xC)|(refine at_EL ?_;first|refine eN ?_|refine eV Z Z (zA Z Z) ?_|refine eV Z Z (zB Z Z) ?_|(refine at_bin ?_;first|refine eD Z Z (zL Z Z Z) (fun hh=>?_) (fun hh=>?_)|refine eV Z Z (zU Z Z Z (by omega) (by omega)) ?_)|(refine at_call ?_;first|refine eV Z Z (zK Z Z) ?_)|refine eV Z Z (zH Z Z) ?_)|(refine at_K ?_;first|refine K_then ?_|refine K_in ?_|refine K_then_exit ?_|refine K_in_exit ?_)|(refine at_E ?_;first|refine E_seq ?_|refine E_region ?_|refine E_cond_t Z ?_|refine E_cond_f Z ?_|refine E_block ?_|refine E_skip ?_|refine E_exit ?_)))
      all_goals (try (exfalso;omega))
      exact K_rnd (i+1,ov) ⟨rfl,rfl,rfl,rfl,trivial⟩ ⟨by dsimp only;omega,by dsimp only;rw [hft];exact hgr⟩ (by dsimp only;omega)
  · obtain rfl:i=l.length:=by omega
    rw [List.take_length] at hgr
    have hul:=usesL_len (l:=l) (id:=id)
    have hso:Sl wr ov (usesL l id):=hgr.sl (fun _ _=>trivial) (by show(usesL l id).length≤_;omega)
    have hX:=hgr.x
    have cs:=sorted_any (usesL l id) ov wr hso (by omega)
    (repeat' (first|(refine EL_call Z Z (entersF Z Z en67) cs (fun vC wC hC=>?_))|(refine at_EL ?_;first|refine eN ?_|refine eV Z Z (zA Z Z) ?_|refine eV Z Z (zB Z Z) ?_|(refine at_bin ?_;first|refine eD Z Z (zL Z Z Z) (fun hh=>?_) (fun hh=>?_))|(refine at_call ?_;first|refine eV Z Z (zK Z Z) ?_))|(refine at_K ?_;first|refine K_then ?_|refine K_then_exit ?_|refine K_in_exit ?_)|(refine at_E ?_;first|refine E_seq ?_|refine E_region ?_|refine E_cond_t Z ?_|refine E_cond_f Z ?_|refine E_block ?_|refine E_skip ?_|refine E_ret ?_|refine E_exit ?_)))
    all_goals (try (exfalso;omega))
    first
      | (obtain⟨h1,h2⟩:=hC;exact ret_1 Z Z ⟨h1,hX.trans h2⟩)
      | (obtain⟨h2,h1⟩:=hC;exact ret_1 Z Z ⟨h1,hX.trans h2⟩)
end Go.Proofs.YtjicdgejhkgpgaaGreatDoor
namespace Go.Proofs.YtjicdgejhkgpgaaGreatDoor
open Go.RowKit Go.En
attribute [local irreducible] E EL K Val Enters Rt Calls bodyPost Code.wp RQ
end Go.Proofs.YtjicdgejhkgpgaaGreatDoor
namespace Go.Proofs.YtjicdgejhkgpgaaGreatDoor
open Go.RowKit Go.En
end Go.Proofs.YtjicdgejhkgpgaaGreatDoor
namespace Go.En
open Go.RowKit Go.MapKept
def MapF (w:World) (r:Nat) (f:Int→Option Value):Prop:=
  ∃ es clock,w.heap[r]?=some (.map es clock)∧Stamped es clock∧(∀ x∈es.toList,IsKey (.int .i64) x.key)∧∀ k v,f k=some v↔∃ e∈es.toList,e.key=int k∧e.val=v
theorem MapF.lt {w:World} {r:Nat} {f:Int→Option Value} (h:MapF w r f):r<w.heap.size:=by
  obtain⟨_,_,h,_⟩:=h;exact(Array.getElem?_eq_some_iff.1 h).1
theorem MapF.same {w w':World} {r:Nat} {f:Int→Option Value} (h:MapF w r f) (e:w'.heap[r]?=w.heap[r]?):MapF w' r f:=by
  obtain⟨es,c,h1,h2⟩:=h;exact⟨es,c,e.trans h1,h2⟩
theorem MapF.ext {w w':World} {r:Nat} {f:Int→Option Value} (h:MapF w r f) (x:Ext w w'):MapF w' r f:=h.same (x.block h.lt)
theorem MapF.kb {g:Option Nat} {w w':World} {r:Nat} {f:Int→Option Value} (h:MapF w r f) (k:Kb g w w') (hne:some r≠g):MapF w' r f:=h.same (World.grownBy.block k r h.lt hne)
section
variable {P : Program} {n : Nat} {Q : Post} {L : List (Nat × Value)} {w : World} {ops : List Oper} {o : Oper} {rest : List Oper}
end
end Go.En
namespace Go.En
open Go.RowKit Go.MapKept
end Go.En
namespace Go.Proofs.YtjicdgejhkgpgaaGreatDoor
open Go.RowKit Go.En
attribute [local irreducible] E EL K Val Enters Rt Calls bodyPost Code.wp RQ
end Go.Proofs.YtjicdgejhkgpgaaGreatDoor
namespace Go.Proofs.YtjicdgejhkgpgaaGreatDoor
open Go.RowKit Go.En
theorem filter_yes {α:Type} {p:α→Bool} {l:List α} {i:Nat} {x:α} (h:l[i]?=some x) (hp:p x=true):(l.take (i+1)).filter p=(l.take i).filter p++[x]:=by
  obtain⟨hi,rfl⟩:=List.getElem?_eq_some_iff.1 h
  rw [List.take_succ_eq_append_getElem hi,List.filter_append]
  simp [hp]
theorem filter_no {α:Type} {p:α→Bool} {l:List α} {i:Nat} {x:α} (h:l[i]?=some x) (hp:p x=false):(l.take (i+1)).filter p=(l.take i).filter p:=by
  obtain⟨hi,rfl⟩:=List.getElem?_eq_some_iff.1 h
  rw [List.take_succ_eq_append_getElem hi,List.filter_append]
  simp [hp]
def kidsT (d:Dc) (i:Nat) (k:Int):List Int:=((d.notes.take i).filter fun n=>decide (n.parent=k)).map fun n=>n.id
theorem kidsT_yes {d:Dc} {i:Nat} {q:Note} (h:d.notes[i]?=some q):kidsT d (i+1) q.parent=kidsT d i q.parent++[q.id]:=by
  unfold kidsT
  rw [filter_yes h (by simp),List.map_append];rfl
theorem kidsT_no {d:Dc} {i:Nat} {q:Note} {k:Int} (h:d.notes[i]?=some q) (hk:k≠q.parent):kidsT d (i+1) k=kidsT d i k:=by
  unfold kidsT
  rw [filter_no h (by simp;exact fun e=>hk e.symm)]
structure KF (d:Dc) (i:Nat) (Bw:Nat) (w:World) (f:Int→Option Value):Prop where
  none_:∀ k,f k=none→kidsT d i k=[]
  some_:∀ k v,f k=some v→w.ownsRow Bw 3 1 v (kidsT d i k).length ((kidsT d i k).map int)∧0<(kidsT d i k).length
  apart:∀ k k' v v',k≠k'→f k=some v→f k'=some v'→v.ownBlock≠v'.ownBlock
theorem own_some {w:World} {B:Nat} {e:TypeId} {size n:Nat} {v:Value} {xs:List Value} (h:w.ownsRow B e size v n xs) (h0:0<n):∃ b,v.ownBlock=some b:=by
  obtain⟨g,cap,tail,rfl,_⟩:=own_open h h0
  exact⟨g,rfl⟩
theorem KF.get {d:Dc} {i Bw:Nat} {w:World} {f:Int→Option Value} (h:KF d i Bw w f) (k:Int):w.ownsRow Bw 3 1 ((f k).getD (.slice none 0 0)) (kidsT d i k).length ((kidsT d i k).map int):=by
  cases hf:f k with
  | none=>rw [h.none_ k hf];exact World.ownsRow_nil _ _ _ _
  | some v=>exact(h.some_ k v hf).1
theorem KF.next {d : Dc} {i Bw r : Nat} {w w1 w2 w3 : World} {f : Int → Option Value} {q : Note} {v' : Value} (h : KF d i Bw w f) (hq : d.notes[i]? = some q) (hr : r < Bw) (x1 : Ext w w1) (k2 : Kb ((f q.parent).getD (.slice none 0 0)).ownBlock w1 w2) (k3 : Kb (some r) w2 w3)
    (ho:w2.ownsRow Bw 3 1 v' ((kidsT d i q.parent).length+1) ((kidsT d i q.parent).map int++[int q.id])) (hb:v'.ownBlock=((f q.parent).getD (.slice none 0 0)).ownBlock∨v'.ownBlock=some w1.heap.size):KF d (i+1) Bw w3 (fun j=>if j=q.parent then some v' else f j):=by
  have kept3:∀ {v:Value} {n:Nat} {xs:List Value},w2.ownsRow Bw 3 1 v n xs→w3.ownsRow Bw 3 1 v n xs:=fun {v n xs} hv=>hv.kept k3 (Or.inr (fun e=>by have:=(hv.lt r e).1;omega))
  have old:∀ k v,k≠q.parent→f k=some v→w3.ownsRow Bw 3 1 v (kidsT d i k).length ((kidsT d i k).map int):=fun k v hk hv=>by
    have h1:=own_ext (h.some_ k v hv).1 x1
    refine kept3 (h1.kept k2 ?_)
    cases hp:f q.parent with
    | none=>
      right
      obtain⟨b,hb'⟩:=own_some h1 (h.some_ k v hv).2
      rw [hb']
      intro e;cases e
    | some v0=>exact Or.inr (h.apart k q.parent v v0 hk hv hp)
  have sep:∀ k v,k≠q.parent→f k=some v→v.ownBlock≠v'.ownBlock:=fun k v hk hv e=>by
    have h1:=(h.some_ k v hv)
    obtain⟨b,hb'⟩:=own_some h1.1 h1.2
    rcases hb with hb|hb
    · cases hp:f q.parent with
      | none=>
        rw [hp] at hb
        rw [e,hb] at hb'
        cases hb'
      | some v0=>
        rw [hp] at hb
        exact h.apart k q.parent v v0 hk hv hp (e.trans hb)
    · rw [e,hb] at hb'
      have hlt:=(h1.1.lt b (by rw [e,hb];exact hb')).2
      have:=x1.size
      cases hb'
      omega
  refine⟨fun k hk=>?_,fun k v hv=>?_,fun k k' v u hne hv hu=>?_⟩
  · by_cases he:k=q.parent
    · rw [if_pos he] at hk;cases hk
    · rw [if_neg he] at hk
      rw [kidsT_no hq he];exact h.none_ k hk
  · by_cases he:k=q.parent
    · rw [if_pos he] at hv;cases hv
      subst he
      rw [kidsT_yes hq,List.length_append,List.map_append]
      exact⟨kept3 ho,by simp⟩
    · rw [if_neg he] at hv
      rw [kidsT_no hq he]
      exact⟨old k v he hv,(h.some_ k v hv).2⟩
  · by_cases he:k=q.parent
    · rw [if_pos he] at hv;cases hv
      by_cases he':k'=q.parent
      · exact absurd (he.trans he'.symm) hne
      · rw [if_neg he'] at hu
        exact fun e=>sep k' u he' hu e.symm
    · rw [if_neg he] at hv
      by_cases he':k'=q.parent
      · rw [if_pos he'] at hu;cases hu
        exact sep k v he hv
      · rw [if_neg he'] at hu
        exact h.apart k k' v u hne hv hu
theorem KF.ext {d:Dc} {i Bw:Nat} {w w':World} {f:Int→Option Value} (h:KF d i Bw w f) (x:Ext w w'):KF d i Bw w' f:=
  ⟨h.none_,fun k v hv=>⟨own_ext (h.some_ k v hv).1 x,(h.some_ k v hv).2⟩,h.apart⟩
attribute [local irreducible] E EL K Val Enters Rt Calls bodyPost Code.wp RQ
end Go.Proofs.YtjicdgejhkgpgaaGreatDoor
namespace Go.Proofs.YtjicdgejhkgpgaaGreatDoor
open Go.RowKit Go.Shelf Go.Lib
attribute [local go_sem] Oper.semAt_some
def upTo {α:Type} (f:Nat→α) (k:Nat):List α:=(List.range k).map f
theorem upTo_succ {α:Type} (f:Nat→α) (k:Nat):upTo f (k+1)=upTo f k++[f k]:=by simp [upTo,List.range_succ]
theorem upTo_length {α:Type} (f:Nat→α) (k:Nat):(upTo f k).length=k:=by simp [upTo]
theorem upTo_all (zs:List Int):upTo (fun j=>zs[j]?.getD 0) zs.length=zs:=by
  apply List.ext_getElem
  · simp [upTo]
  · intro i h1 h2
    simp [upTo,h2]
theorem info22:(Tryz.prog.info? 3).map (fun i=>(i.zero,i.size,i.bytes))=some (some (.int .i64 0),1,8):=by kernel_rfl
set_option maxRecDepth 100000 in
set_option maxHeartbeats 2000000 in
theorem values1_in (F : Fence) (n : Nat) (h7 : F.fn 137) (hro : F.round = none) (hn : 1 ≤ n) (l Bs n₀ b off len cap : Nat) (zs : List Int) (hreach : len * 8 ≤ 140737488351232) (hb : b < n₀) (J Jx : List Int → World → Prop)
    (hY:∀ pre x W,J pre W→pre.length<len→YieldAt F (n-1) Tryz.prog l #[.int .i64 x] W fun e W'=>
      (e=.returned (.bool true)∧J (pre++[x]) W'∧Below n₀ W W')∨(e=.returned (.bool false)∧Jx (pre++[x]) W'))
    (W:World) (hBs:W.cell? ⟨Bs,0,none⟩=some (.slice (some ⟨b,off,none⟩) len cap)) (hc:∀ j,j<len→W.cell? ⟨b,off+j,none⟩=some (.int .i64 (zs[j]?.getD 0))) (h0:J [] W) :
    CallsIn F n Tryz.prog 137 #[.func (.yield l) #[] #[],.pointer (some ⟨Bs,0,none⟩)] W fun e W'=>(∃ v,e=.returned v)∧
      ((∃ ys,ys=upTo (fun j=>zs[j]?.getD 0) len∧J ys W')∨(∃ pre,(∃ k,k≤len∧pre=upTo (fun j=>zs[j]?.getD 0) k)∧Jx pre W')):=by
  refine callsIn_of_wp Tryz.func137 rfl h7 ?_ hro
  simp only [Tryz.ntmps137,List.size_toArray,List.length_cons,List.length_nil,Nat.reduceAdd,Nat.reduceSub,Array.replicate_succ,Array.replicate_zero,List.push_toArray,List.append_toArray,List.nil_append,List.cons_append]
  gi_wp2
  gi_loopw [7] (fun i wr=>∃ k:Nat,k≤len∧i=.int .i64 k∧J (upTo (fun j=>zs[j]?.getD 0) k) wr∧Below n₀ W wr)
    (fun i _=>len-(intOf i).toNat)
  case atStart=>exact⟨0,Nat.zero_le _,rfl,h0,Below.refl _ _⟩
  case round=>
    obtain⟨k,hk,rfl,hJs,hnx⟩:=hrel
    have hcx:k<len→wr.cell? ⟨b,off+k,none⟩=some (.int .i64 (zs[k]?.getD 0)):=fun h=>(hnx.cell (p:=⟨b,off+k,none⟩) hb).trans (hc k h)
    by_cases hlt:k<len
    · obtain⟨fn,tmps,assign,body,hy,hR⟩:=hY _ (zs[k]?.getD 0) wr hJs (by rw [upTo_length];exact hlt)
      have hcx':=hcx hlt
      gi_wp2
      refine hR.mono ?_
      rintro e W3 (⟨rfl,hJ3,hk3⟩|⟨rfl,hJx3⟩)
      · gi_wp2
        go_roundw
        case rel=>exact⟨k+1,by omega,by simp,by rw [upTo_succ];exact hJ3,hnx.trans hk3⟩
        case measure=>simp [intOf];omega
      · gi_wp2
        refine bodyPost_ret (results_none rfl _ _ _) rfl ?_
        exact⟨⟨_,rfl⟩,.inr ⟨_,⟨k+1,by omega,(upTo_succ _ _).symm⟩,hJx3⟩⟩
    · obtain rfl:k=len:=by omega
      gi_wp2
      go_end0
      exact⟨⟨_,rfl⟩,.inl ⟨_,rfl,hJs⟩⟩
def Ints (n₀:Nat) (W:World) (sv:Value) (zs:List Int):Prop:=
  ((∃ a cap,sv=.slice a 0 cap)∧zs=[])∨∃ b off cap,sv=.slice (some ⟨b,off,none⟩) zs.length cap∧b<n₀∧∀ j,j<zs.length→W.cell? ⟨b,off+j,none⟩=some (.int .i64 (zs[j]?.getD 0))
theorem Ints.below {n₀:Nat} {A B:World} (h:Below n₀ A B) {sv:Value} {zs:List Int}:Ints n₀ A sv zs→Ints n₀ B sv zs
  | .inl e=>.inl e
  | .inr ⟨b,off,cap,e,hb,hc⟩=>.inr ⟨b,off,cap,e,hb,fun j hj=>(h.cell (p:=⟨b,off+j,none⟩) hb).trans (hc j hj)⟩
set_option maxRecDepth 100000 in
set_option maxHeartbeats 1000000 in
theorem values1_nil_in (F:Fence) (n:Nat) (h7:F.fn 137) (hro:F.round=none) (l Bs:Nat) (a:Option Addr) (cap:Nat) (J:List Int→World→Prop) (W:World) (hBs:W.cell? ⟨Bs,0,none⟩=some (.slice a 0 cap)) (h0:J [] W) :
    CallsIn F n Tryz.prog 137 #[.func (.yield l) #[] #[],.pointer (some ⟨Bs,0,none⟩)] W fun e W'=>(∃ v,e=.returned v)∧J [] W':=by
  refine callsIn_of_wp Tryz.func137 rfl h7 ?_ hro
  simp only [Tryz.ntmps137,List.size_toArray,List.length_cons,List.length_nil,Nat.reduceAdd,Nat.reduceSub,Array.replicate_succ,Array.replicate_zero,List.push_toArray,List.append_toArray,List.nil_append,List.cons_append]
  gi_wp2
  gi_loopw [7] (fun i wr=>i=.int .i64 0∧J [] wr) (fun _ _=>0)
  case atStart=>exact⟨rfl,h0⟩
  case round=>
    obtain⟨rfl,hJs⟩:=hrel
    gi_wp2
    go_end0
    exact⟨⟨_,rfl⟩,hJs⟩
theorem values_stops (F:Fence) (n:Nat) (h7:F.fn 137) (hro:F.round=none) (hn:1≤n) (Bs n₀:Nat) (sv:Value) (zs:List Int) (hreach:zs.length*8≤140737488351232) (w:World) (hBs:Bs<w.heap.size) (hn₀:n₀≤w.heap.size)
    (hc:w.cell? ⟨Bs,0,none⟩=some sv) (hI:Ints n₀ w sv zs) :
    SeqStopsK F n Tryz.prog 137 #[.pointer (some ⟨Bs,0,none⟩)] (fun x:Int=>#[Value.int .i64 x]) (Below n₀) (fun ys=>ys=zs) (fun _=>True) zs.length w:=fun l J Jx W hW _ _ hY h0=>by
  have hc':=(hW.cell (p:=⟨Bs,0,none⟩) hBs).trans hc
  rcases hI.below (hW.mono hn₀) with⟨⟨a,cap,rfl⟩,rfl⟩|⟨b,off,cap,rfl,hb,hcs⟩
  · exact(values1_nil_in F n h7 hro l Bs a cap J W hc' h0).mono fun e W' ⟨he,hj⟩=>⟨he,.inl ⟨_,rfl,hj⟩⟩
  · refine(values1_in F n h7 hro hn l Bs n₀ b off zs.length cap zs hreach hb J Jx hY W hc' hcs h0).mono ?_
    rintro e W' ⟨he,⟨ys,rfl,hj⟩|⟨pre,_,hj⟩⟩
    · exact⟨he,.inl ⟨_,upTo_all zs,hj⟩⟩
    · exact⟨he,.inr ⟨_,trivial,hj⟩⟩
set_option maxRecDepth 100000 in
set_option maxHeartbeats 4000000 in
theorem appendSeq_any (sv:Value) (zs:List Int) (hl:zs.length≤1048576) (Bs:Nat) (w:World) (hBs:Bs<w.heap.size) (hcell:w.cell? ⟨Bs,0,none⟩=some sv) (hI:Ints w.heap.size w sv zs) :
    Calls Tryz.prog 179 #[.slice none 0 0,.func (.func 137) #[] #[.pointer (some ⟨Bs,0,none⟩)] ] w fun e w'=>∃ v,e=.returned v∧w'.ownsRow w.heap.size 3 1 v zs.length (zs.map (.int .i64))∧Below w.heap.size w w':=by
  obtain⟨i0,hi,hz0,hz1,hz2⟩:=info_parts info22
  refine callsIn_wide (n:=5) |>.1 ?_
  refine callsIn_of_wp_marks Tryz.func179 rfl trivial ?_ rfl
  simp only [Tryz.ntmps179,List.size_toArray,List.length_cons,List.length_nil,Nat.reduceAdd,Nat.reduceSub,Array.replicate_succ,Array.replicate_zero,List.push_toArray,List.append_toArray,List.nil_append,List.cons_append]
  gi_wp2
  have bO:=Boxed.new w 32 (.slice none 0 0)
  have hB0:Below w.heap.size w (w.alloc (.cells #[.slice none 0 0] 32)):=(Below.refl _ w).alloc (Nat.le_refl _) _
  refine wpIn_rangeFunc_ownG rfl (by omega) (gf:=137) (lb:=#[.pointer (some ⟨Bs,0,none⟩)]) rfl trivial (enters_of Tryz.func137 (by kernel_rfl) rfl)
    (values_stops Fence.wide 4 trivial rfl (by omega) Bs w.heap.size sv zs (by omega) _ (by simp;omega) (by simp) ((hB0.cell (p:=⟨Bs,0,none⟩) hBs).trans hcell) (hI.below hB0)) belowK_t (belowK_b (by simp)) (Below.refl _ _) (fun _=>rfl)
    (fun pre W=>(∃ v,Boxed W w.heap.size 32 v∧W.ownsRow w.heap.size 3 1 v pre.length (pre.map fun x=>.int .i64 x)∧True)∧Below w.heap.size w W)
    (fun _ _ _=>False)
    (OwnFrom.and (Own.from (holdsRow_own w.heap.size w.heap.size 32 3 1 (fun pre:List Int=>pre.length) (fun pre=>pre.map fun x=>Value.int .i64 x) (fun pre v=>True)) _) (ownFrom_below (Nat.le_refl _) (by simp)))
    (fun _ _ _ _ _ hs _ _=>hs)
    ⟨⟨_,bO,World.ownsRow_nil _ _ _ _,trivial⟩,hB0⟩
    (fun x=>{ tmps:=#[.slice none 0 0,.func (.func 137) #[] #[.pointer (some ⟨Bs,0,none⟩)],.pointer (some ⟨w.heap.size,0,none⟩),undef,.slice none 0 0,.int .i64 x,.func (.func 137) #[] #[.pointer (some ⟨Bs,0,none⟩)],.int .i64 x,undef,undef,undef,undef,undef],defers:=[] }) ?assign ?body ?done ?stop
  case assign=>
    intro l x W K hK
    gi_wp2
    exact hK
  case body=>
    rintro lv pre x W ⟨⟨v,hv,hrow,-⟩,hB⟩ hlt
    have hc:=hv.cell
    gi_wp2_with (gi_at_builtin;refine wpListIn_append_own _ rfl _ _ 32 rfl w.heap.size 3 i0 (.int .i64 0) 1 8 Tryz.underlying32 hi hz0 hz1 hz2 rfl (by decide) _ _ _ rfl (hrow.alloc _) ⟨W.heap.size,0,none⟩ 1 1 [.int .i64 x] rfl rfl (cell_one_new _ _ _) (by simp [Value.oneCell']) (by unfold maxLen;omega) (by omega) (by have:=hB.size;simp;omega) ?_;intro v' w1 hown' hgrow _;obtain⟨g',cap',rfl⟩:=ownsRow_succ hown';obtain⟨hv1,hv2,hr2,hk2,hb2⟩:=hv.appended (by decide) hrow hB.size (by omega) hown' hgrow;have hc1:=hv1.cell;have hf1:=hv1.frozen)
    exact⟨hk2.from _,hb2,⟨_,hv2,by simpa using hr2,trivial⟩,hB.trans hb2⟩
  case done=>
    rintro D ys W hD rfl ⟨⟨v,hv,hrow,-⟩,hB⟩ hK
    have hc:=hv.cell
    gi_wp2
    refine⟨by simp,.inl ⟨_,_,rfl,run_takeDeferred hK,?_⟩⟩
    refine⟨_,results_tmp rfl _ _ _,v,rfl,?_,hB.trans (belowK_b (w:=w) (Nat.le_refl _) W D _ _ (by simp at hD;omega) hK rfl rfl)⟩
    exact ownsRow_putObj hrow _ hK rfl
  case stop=>
    rintro D c pre W _ _ h _
    exact h.elim
end Go.Proofs.YtjicdgejhkgpgaaGreatDoor
namespace Go.Proofs
open Go.RowKit Go.Shelf Go.Lib
def Tryz.laysSort_ren:Go.Shelf.Ren:=⟨fun|189=>136|125=>181|257=>180|128=>215|129=>216|294=>206|295=>207|296=>208|297=>209|298=>210|299=>211|216=>212|300=>213|301=>214|328=>229|329=>230|330=>231|331=>232|332=>233|215=>189|343=>243|n=>n,fun|28=>32|3=>3|46=>228|0=>0|51=>176|53=>258|4=>4|183=>264|182=>263|131=>268|5=>5|9=>9|218=>283|222=>287|228=>293|229=>230|n=>n,fun|n=>n⟩
theorem Tryz.laysSort:Go.Proofs.Lays.n189 Tryz.prog Tryz.laysSort_ren:={
  mixed:=by kernel_rfl
  f125:=Tryz.func181.trans (congrArg some (by kernel_rfl))
  f128:=Tryz.func215.trans (congrArg some (by kernel_rfl))
  f129:=Tryz.func216.trans (congrArg some (by kernel_rfl))
  f189:=Tryz.func136.trans (congrArg some (by kernel_rfl))
  f215:=Tryz.func189.trans (congrArg some (by kernel_rfl))
  f216:=Tryz.func212.trans (congrArg some (by kernel_rfl))
  f257:=Tryz.func180.trans (congrArg some (by kernel_rfl))
  f294:=Tryz.func206.trans (congrArg some (by kernel_rfl))
  f295:=Tryz.func207.trans (congrArg some (by kernel_rfl))
  f296:=Tryz.func208.trans (congrArg some (by kernel_rfl))
  f297:=Tryz.func209.trans (congrArg some (by kernel_rfl))
  f298:=Tryz.func210.trans (congrArg some (by kernel_rfl))
  f299:=Tryz.func211.trans (congrArg some (by kernel_rfl))
  f300:=Tryz.func213.trans (congrArg some (by kernel_rfl))
  f301:=Tryz.func214.trans (congrArg some (by kernel_rfl))
  f328:=Tryz.func229.trans (congrArg some (by kernel_rfl))
  f329:=Tryz.func230.trans (congrArg some (by kernel_rfl))
  f330:=Tryz.func231.trans (congrArg some (by kernel_rfl))
  f331:=Tryz.func232.trans (congrArg some (by kernel_rfl))
  f332:=Tryz.func233.trans (congrArg some (by kernel_rfl))
  f343:=Tryz.func243.trans (congrArg some (by kernel_rfl))
  t0:=Tryz.underlying0
  a0:=Tryz.isAgg0
  z0:=Tryz.sizeOf0
  v0:=Tryz.zeroValue0
  t3:=Tryz.underlying3
  a3:=Tryz.isAgg3
  z3:=Tryz.sizeOf3
  v3:=Tryz.zeroValue3
  t4:=Tryz.underlying4
  a4:=Tryz.isAgg4
  z4:=Tryz.sizeOf4
  v4:=Tryz.zeroValue4
  t5:=Tryz.underlying5
  a5:=Tryz.isAgg5
  z5:=Tryz.sizeOf5
  v5:=Tryz.zeroValue5
  t9:=Tryz.underlying9
  a9:=Tryz.isAgg9
  z9:=Tryz.sizeOf9
  v9:=Tryz.zeroValue9
  t28:=Tryz.underlying32
  a28:=Tryz.isAgg32
  z28:=Tryz.sizeOf32
  v28:=Tryz.zeroValue32
  t46:=Tryz.underlying228
  a46:=Tryz.isAgg228
  z46:=Tryz.sizeOf228
  v46:=Tryz.zeroValue228
  t51:=Tryz.underlying176
  a51:=Tryz.isAgg176
  z51:=Tryz.sizeOf176
  v51:=Tryz.zeroValue176
  t53:=Tryz.underlying258
  a53:=Tryz.isAgg258
  z53:=Tryz.sizeOf258
  v53:=Tryz.zeroValue258
  t131:=Tryz.underlying268
  a131:=Tryz.isAgg268
  z131:=Tryz.sizeOf268
  v131:=Tryz.zeroValue268
  t182:=Tryz.underlying263
  a182:=Tryz.isAgg263
  z182:=Tryz.sizeOf263
  v182:=Tryz.zeroValue263
  t183:=Tryz.underlying264
  a183:=Tryz.isAgg264
  z183:=Tryz.sizeOf264
  v183:=Tryz.zeroValue264
  t218:=Tryz.underlying283
  a218:=Tryz.isAgg283
  z218:=Tryz.sizeOf283
  v218:=Tryz.zeroValue283
  t222:=Tryz.underlying287
  a222:=Tryz.isAgg287
  z222:=Tryz.sizeOf287
  v222:=Tryz.zeroValue287
  t228:=Tryz.underlying293
  a228:=Tryz.isAgg293
  z228:=Tryz.sizeOf293
  v228:=Tryz.zeroValue293
  t229:=Tryz.underlying230
  a229:=Tryz.isAgg230
  z229:=Tryz.sizeOf230
  v229:=Tryz.zeroValue230 }
end Go.Proofs
namespace Go.Proofs.YtjicdgejhkgpgaaGreatDoor
open Go.RowKit Go.En Go.Sort
theorem sort71_any (l:List Int) (v:Value) (B:Nat) (w:World) (h:w.ownsRow B 3 1 v l.length (l.map int)) (hlen:l.length≤1000000):Calls Tryz.prog 136 #[v] w (Rt fun _ w'=>w'.ownsRow B 3 1 v l.length ((l.mergeSort (fun x y=>decide (x≤y))).map int)∧Kb v.ownBlock w w'):=by
  rcases h.2 with⟨rfl,h0⟩|⟨g,cap,cur,rfl,hb,hg,h1,h2,h3,h4⟩
  · have hl:l=[]:=List.length_eq_zero_iff.1 h0
    subst hl
    have c:=Any.slices_Sort_int_none Tryz.laysSort none 0 w
    refine Calls.mono c ?_
    rintro e w' ⟨rfl,rfl⟩
    exact⟨_,rfl,by simpa using h,Kb.refl _ _⟩
  · have hH:=holds_of_blockI (ss:=l) hg (by rw [Nat.mul_one] at h4;exact h4)
    have c:=Any.slices_Sort_int Tryz.laysSort g 0 cap l w hH (Array.getElem?_eq_some_iff.1 hg).1 (by omega)
    refine Calls.mono c ?_
    rintro e w' ⟨rfl,n,os,rfl⟩
    exact⟨_,rfl,ownsRow_sortedI (by simp) hb hg h1 h2 h3,grownBy_sortedI _⟩
theorem sl_Ints {w:World} {v:Value} {l:List Int} (h:Sl w v l):Ints w.heap.size w v l:=by
  obtain⟨a,cap,rfl,hc,hm,hp⟩:=h.sl
  by_cases h0:0<l.length
  · obtain⟨b,off,rfl,hat⟩:=sl_ints h h0
    refine .inr ⟨b,off,cap,rfl,hat.lt (by simpa using h0),fun j hj=>?_⟩
    have:=hat j (int (l[j]?.getD 0)) (by rw [List.getElem?_map,List.getElem?_eq_getElem hj];rfl)
    exact this
  · obtain rfl:l=[]:=List.length_eq_zero_iff.1 (by omega)
    exact .inl ⟨⟨a,cap,rfl⟩,rfl⟩
theorem seq_any (l:List Int) (v:Value) (b:Nat) (w:World) (hr:Row w b 32 [v]) (hv:Sl w v l) (hl:l.length≤1000000):Calls Tryz.prog 179 #[.slice none 0 0,.func (.func 137) #[] #[.pointer (some ⟨b,0,none⟩)] ] w (Rt fun u w'=>Ext w w'∧w'.ownsRow w.heap.size 3 1 u l.length (l.map int)):=by
  refine Calls.mono (appendSeq_any v l (by omega) b w hr.lt (hr.cellAt (j:=0) rfl) (sl_Ints hv)) ?_
  rintro e w' ⟨u,rfl,ho,hb⟩
  exact⟨u,rfl,hb,ho⟩
attribute [local irreducible] E EL K Val Enters Rt Calls bodyPost Code.wp RQ
set_option maxRecDepth 8000 in
theorem values_any (a:Option Addr) (n cap:Nat) (w:World):Calls Tryz.prog 104 #[.slice a n cap] w (Rt fun u w'=>∃ b,u=.func (.func 137) #[] #[.pointer (some ⟨b,0,none⟩)]∧Row w' b 32 [.slice a n cap]∧Ext w w'):=by
  refine calls_E (n:=4) (args:=[.slice a n cap]) Tryz.func104 rfl Tryz.ntmps104 (by simp) ?_
  refine E_seq ?_
  refine E_region ?_
  refine EL_box Z Z Z Z (fun bS wS xS hbS rS0=>?_)
  have rS:Row wS bS 32 [.slice a n cap]:=rS0
  (repeat' (first|refine eV Z Z (val_makeFunc (vs:=[.pointer (some ⟨bS,0,none⟩)]) Z Z) ?_|(refine at_EL ?_;first|refine eN ?_|refine eV Z Z (zB Z Z) ?_)|(refine at_K ?_;first|refine K_then ?_)|(refine at_E ?_;first|refine E_seq ?_|refine E_region ?_|refine E_ret ?_)))
  exact ret_1 Z Z ⟨bS,rfl,rS,xS⟩
set_option maxRecDepth 8000 in
theorem collect70_any (l:List Int) (v:Value) (b:Nat) (w:World) (hr:Row w b 32 [v]) (hv:Sl w v l) (hl:l.length≤1000000):Calls Tryz.prog 135 #[.func (.func 137) #[] #[.pointer (some ⟨b,0,none⟩)] ] w (Rt fun u w'=>Ext w w'∧w'.ownsRow w.heap.size 3 1 u l.length (l.map int)):=by
  refine calls_E (n:=5) (args:=[.func (.func 137) #[] #[.pointer (some ⟨b,0,none⟩)] ]) Tryz.func135 rfl Tryz.ntmps135 (by simp) ?_
  have c:=seq_any l v b w hr hv hl
  (repeat' (first|(refine EL_call Z Z (entersF Z Z en179) c (fun vC wC hC=>?_);obtain⟨xC,oC⟩:=hC)|(refine at_EL ?_;first|refine eN ?_|refine eV Z Z (zA Z Z) ?_|refine eV Z Z (zB Z Z) ?_)|(refine at_K ?_;first|refine K_then ?_)|(refine at_E ?_;first|refine E_seq ?_|refine E_region ?_|refine E_ret ?_)))
  exact ret_1 Z Z ⟨xC,oC⟩
set_option maxRecDepth 8000 in
theorem sorted54_any (l:List Int) (v:Value) (b:Nat) (w:World) (hr:Row w b 32 [v]) (hv:Sl w v l) (hl:l.length≤1000000):Calls Tryz.prog 103 #[.func (.func 137) #[] #[.pointer (some ⟨b,0,none⟩)] ] w (Rt fun u w'=>Ext w w'∧w'.ownsRow w.heap.size 3 1 u l.length ((l.mergeSort (fun x y=>decide (x≤y))).map int)):=by
  refine calls_E (n:=9) (args:=[.func (.func 137) #[] #[.pointer (some ⟨b,0,none⟩)] ]) Tryz.func103 rfl Tryz.ntmps103 (by simp) ?_
  have c:=collect70_any l v b w hr hv hl
  (repeat' (first|(refine EL_call Z Z (entersF Z Z en135) c (fun vC wC hC=>?_);obtain⟨xC,oC⟩:=hC)|(refine at_EL ?_;first|refine eN ?_|refine eV Z Z (zA Z Z) ?_|refine eV Z Z (zB Z Z) ?_)|(refine at_K ?_;first|refine K_then ?_)|(refine at_E ?_;first|refine E_seq ?_|refine E_region ?_)))
  have c2:=sort71_any l vC w.heap.size wC oC hl
  (repeat' (first|(refine EL_call Z Z (entersF Z Z en136) c2 (fun vD wD hD=>?_);obtain⟨oD,kD⟩:=hD)|(refine at_EL ?_;first|refine eN ?_|refine eV Z Z (zA Z Z) ?_|refine eV Z Z (zB Z Z) ?_)|(refine at_K ?_;first|refine K_then ?_)|(refine at_E ?_;first|refine E_seq ?_|refine E_region ?_|refine E_ret ?_)))
  exact ret_1 Z Z ⟨own_anchor oC xC kD,oD⟩
end Go.Proofs.YtjicdgejhkgpgaaGreatDoor
