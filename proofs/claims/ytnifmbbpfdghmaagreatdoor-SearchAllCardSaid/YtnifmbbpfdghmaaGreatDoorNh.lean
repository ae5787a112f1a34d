/-
  Walks of match: the tier of a role, notes, Eval with its closure, Holds.
-/
import Derived.Test.YtnifmbbpfdghmaaGreatDoorYt
import Derived.Test.YtnifmbbpfdghmaaGreatDoorYl
import Derived.Test.YtnifmbbpfdghmaaGreatDoorY1
set_option linter.all false
namespace Go.Proofs.YtnifmbbpfdghmaaGreatDoor
open Go.RowKit Go.En
theorem roleF_none {d:Dc} {role:Int} (h:role=0∨∀(j:Nat) (t:Tier),d.tiers[j]?=some t→t.role≠role):roleF d role = -1:=by
  unfold roleF
  by_cases h0:role=0
  · rw [if_pos h0]
  · rw [if_neg h0]
    have hn:d.tiers.findIdx? (fun t=>decide (t.role=role))=none:=by
      rw [List.findIdx?_eq_none_iff]
      intro t ht
      obtain⟨j,hj⟩:=List.getElem?_of_mem ht
      exact decide_eq_false ((h.resolve_left h0) j t hj)
    rw [hn]
theorem roleF_at {d:Dc} {role:Int} {i:Nat} {t:Tier} (h0:role≠0) (ht:d.tiers[i]?=some t) (hr:t.role=role) (hall:∀ j,j<i→∀ t,d.tiers[j]?=some t→t.role≠role):roleF d role=(i:Int):=by
  unfold roleF
  rw [if_neg h0]
  obtain⟨hi,rfl⟩:=List.getElem?_eq_some_iff.1 ht
  have hn:d.tiers.findIdx? (fun t=>decide (t.role=role))=some i:=by
    rw [List.findIdx?_eq_some_iff_getElem]
    refine⟨hi,decide_eq_true hr,fun j hj=>?_⟩
    have:=hall j hj _ (List.getElem?_eq_getElem (by omega))
    simpa using this
  rw [hn]
theorem cur_text {d:Dc} (h:LightD d) (x:Int):(curN d.notes x).text.length≤200:=by
  unfold curN
  cases hg:getF d.notes x with
  | none=>simp [zeroN]
  | some n=>
    obtain⟨hm,_⟩:=get_some hg
    obtain⟨i,hi⟩:=List.getElem?_of_mem hm
    exact(h.notes i n hi).text.1
def QAt (w:World) (v:Value) (q:Qy):Prop:=∃ kv,v=.agg #[int q.op,int q.role,str q.text,kv]∧Sl w kv q.kids
theorem QAt.ext {w w':World} {v:Value} {q:Qy} (h:QAt w v q) (x:Ext w w'):QAt w' v q:=by
  obtain⟨kv,e,hs⟩:=h
  exact⟨kv,e,hs.ext x⟩
theorem RQ_asgS {P:Program} {n:Nat} {ops:List Oper} {Q:Post} {o:Oper} {rest tl:List Oper} {G:List (Nat × Ent)} {w0:World} {α:Type} [Rep α] {d s:Nat} {g:Nat→Prop} {xs:List α} (hg:ggst ops G o=some true) (hd:odst n o.dst=some d) (ho:o.op=.assign (.tmp s)) (hr:gk G s=some (.r (fun u w'=>SlG g w' u xs)))
    (hl:∀ δ,lk (mat δ G) s=some (δ s)) (k:RQ P n ops w0 Q rest tl ((d,.r (fun u w'=>SlG g w' u xs))::G)):RQ P n ops w0 Q (o::rest) tl G:=
  RQ_valR (fun u w'=>SlG g w' u xs) hg hd (fun _ _ _ _ xe h=>SlG.ext h xe) (fun w δ _ hs=>⟨δ s,val_assign ho (hl δ),hs s (by rw [ho];simp [Op.operands,isT]) _ hr⟩) k
attribute [local irreducible] E EL K Val Enters Rt Calls bodyPost Code.wp RQ
end Go.Proofs.YtnifmbbpfdghmaaGreatDoor
