/-
  Walks: the reference's check of a lexicon. Walks: the reference's check of a net. Walks: the reference's check of an orthography. Walks: the reference's bounds of a lexicon. Lists of numbers that rise: each is told by its members; numbers put in, sorted, joined, taken out. Walks: the reference's Put and Sorted. Of numbers that are all different, as many stand in the list that is sorted. What Then, Within, Has and queries find, as lists of Ids that rise. Plain: distinct, out of the lengths. Walks: the reference's check of a rule. Walks: the reference's check of the rules of a language. Walks: the reference's check of a language; a language that is right and small.
-/
import Derived.Test.YtjicdgejhkgpgaaGreatDoorYo
import Derived.Test.YtjicdgejhkgpgaaGreatDoorYl
import Derived.Test.YtjicdgejhkgpgaaGreatDoorYi
import Derived.Test.YtjicdgejhkgpgaaGreatDoorYf
import Derived.Test.YtjicdgejhkgpgaaGreatDoorYg
import Derived.Test.YtjicdgejhkgpgaaGreatDoorYk
import Derived.Test.YtjicdgejhkgpgaaGreatDoorYe
set_option linter.all false
namespace Go.Proofs.YtjicdgejhkgpgaaGreatDoor
open Go.RowKit Go.En Go.Pv
attribute [local irreducible] E EL K Val Enters Rt Calls bodyPost Code.wp RQ
end Go.Proofs.YtjicdgejhkgpgaaGreatDoor
namespace Go.Proofs.YtjicdgejhkgpgaaGreatDoor
open Go.RowKit Go.En Go.Pv
attribute [local irreducible] E EL K Val Enters Rt Calls bodyPost Code.wp RQ
end Go.Proofs.YtjicdgejhkgpgaaGreatDoor
namespace Go.Proofs.YtjicdgejhkgpgaaGreatDoor
open Go.RowKit Go.En Go.Pv
attribute [local irreducible] E EL K Val Enters Rt Calls bodyPost Code.wp RQ
end Go.Proofs.YtjicdgejhkgpgaaGreatDoor
namespace Go.Proofs.YtjicdgejhkgpgaaGreatDoor
open Go.RowKit Go.En Go.Pv
attribute [local irreducible] E EL K Val Enters Rt Calls bodyPost Code.wp RQ
end Go.Proofs.YtjicdgejhkgpgaaGreatDoor
namespace Go.Proofs.YtjicdgejhkgpgaaGreatDoor
def Rise (l:List Int):Prop:=l.Pairwise (·<·)
theorem rise_ext : ∀ {a b : List Int}, Rise a → Rise b → (∀ x, x ∈ a ↔ x ∈ b) → a = b
  | [],[],_,_,_=>rfl
  | [],y::b,_,_,h=>absurd ((h y).2 (.head _)) (by simp)
  | x::a,[],_,_,h=>absurd ((h x).1 (.head _)) (by simp)
  | x :: a, y :: b, ha, hb, h => by
    obtain⟨a1,a2⟩:=List.pairwise_cons.1 ha
    obtain⟨b1,b2⟩:=List.pairwise_cons.1 hb
    have hxy:x=y:=by
      rcases List.mem_cons.1 ((h x).1 (.head _)) with e|h1
      · exact e
      · rcases List.mem_cons.1 ((h y).2 (.head _)) with e|h2
        · exact e.symm
        · have:=b1 x h1;have:=a1 y h2;omega
    subst hxy
    rw [rise_ext a2 b2 fun z=>?_]
    constructor
    · intro hz
      rcases List.mem_cons.1 ((h z).1 (.tail _ hz)) with e|h1
      · have:=a1 z hz;omega
      · exact h1
    · intro hz
      rcases List.mem_cons.1 ((h z).2 (.tail _ hz)) with e|h1
      · have:=b1 z hz;omega
      · exact h1
theorem Rise.filter {l:List Int} (h:Rise l) (p:Int→Bool):Rise (l.filter p):=List.Pairwise.filter _ h
theorem Rise.sub {l m:List Int} (h:Rise l) (s:m.Sublist l):Rise m:=List.Pairwise.sublist s h
end Go.Proofs.YtjicdgejhkgpgaaGreatDoor
namespace Go.Proofs.YtjicdgejhkgpgaaGreatDoor
open Go.RowKit Go.En
def withN (ids:List Int) (id:Int):Nat:=(ids.takeWhile fun z=>decide (z<id)).length
def nputF (l:List Int) (n:Int):List Int:=
  l.take (withN l n)++n::(if l[withN l n]?=some n then l.drop (withN l n+1) else l.drop (withN l n))
def sortedF (l:List Int):List Int:=l.foldl nputF []
attribute [local irreducible] E EL K Val Enters Rt Calls bodyPost Code.wp RQ
end Go.Proofs.YtjicdgejhkgpgaaGreatDoor
namespace Go.Proofs.YtjicdgejhkgpgaaGreatDoor
theorem withN_split {l : List Int} {n : Int} (h : Rise l) : ∃ s r, l = s ++ r ∧ withN l n = s.length ∧ (∀ x ∈ s, x < n) ∧ ∀ x ∈ r, n ≤ x := by
  refine⟨l.takeWhile (fun z=>decide (z<n)),l.dropWhile (fun z=>decide (z<n)),(List.takeWhile_append_dropWhile ..).symm,rfl,fun x hx=>?_,fun x hx=>?_⟩
  · have:=List.all_takeWhile (p:=fun z=>decide (z<n)) (l:=l)
    exact of_decide_eq_true (List.all_eq_true.1 this x hx)
  · have hr:Rise (l.dropWhile (fun z=>decide (z<n))):=h.sub (List.dropWhile_sublist _)
    cases hd:l.dropWhile (fun z=>decide (z<n)) with
    | nil=>rw [hd] at hx;cases hx
    | cons y r=>
      have hy:¬ y<n:=by
        have:=List.head?_dropWhile_not (fun z=>decide (z<n)) l
        rw [hd] at this
        simpa using this
      rw [hd] at hx hr
      obtain⟨h1,_⟩:=List.pairwise_cons.1 hr
      rcases List.mem_cons.1 hx with rfl|hx
      · omega
      · have:=h1 x hx;omega
theorem nput_rise {l : List Int} {n : Int} (h : Rise l) : Rise (nputF l n) ∧ ∀ x, x ∈ nputF l n ↔ x = n ∨ x ∈ l := by
  obtain⟨s,r,hl,hw,h1,h2⟩:=withN_split (n:=n) h
  have hs:Rise s:=h.sub (by rw [hl];exact List.sublist_append_left s r)
  have hr:Rise r:=h.sub (by rw [hl];exact List.sublist_append_right s r)
  have key:∀ t:List Int,Rise t→(∀ x∈t,n<x)→Rise (s++n::t):=fun t ht hn=>
    List.pairwise_append.2 ⟨hs,List.pairwise_cons.2 ⟨hn,ht⟩,fun a ha b hb=>by
      rcases List.mem_cons.1 hb with rfl|hb
      · exact h1 a ha
      · have:=h1 a ha;have:=hn b hb;omega⟩
  unfold nputF
  rw [hw]
  cases r with
  | nil=>
    rw [List.append_nil] at hl
    subst hl
    rw [if_neg (by simp),List.take_length,List.drop_length]
    exact⟨key [] (by simp [Rise]) (by simp),fun x=>by simp [or_comm]⟩
  | cons y r=>
    obtain⟨r1,r2⟩:=List.pairwise_cons.1 hr
    have hy:l[s.length]?=some y:=by rw [hl];simp
    have ht:l.take s.length=s:=by rw [hl];simp
    by_cases hyn:y=n
    · subst hyn
      rw [if_pos hy,ht,show l.drop (s.length+1)=r by rw [hl];simp]
      refine⟨key r r2 r1,fun x=>?_⟩
      rw [hl,List.mem_append]
      constructor
      · intro hx;exact .inr hx
      · rintro(rfl|hx)
        · exact .inr (.head _)
        · exact hx
    · rw [if_neg (fun e=>hyn (Option.some.inj (hy.symm.trans e))),ht,show l.drop s.length=y::r by rw [hl];simp]
      have hny:n<y:=by have:=h2 y (.head _);omega
      refine⟨key (y::r) hr fun x hx=>?_,fun x=>?_⟩
      rotate_left
      · simp only [hl,List.mem_append,List.mem_cons]
        constructor
        · rintro(hx|hx|hx)
          · exact .inr (.inl hx)
          · exact .inl hx
          · exact .inr (.inr hx)
        · rintro(hx|hx|hx)
          · exact .inr (.inl hx)
          · exact .inl hx
          · exact .inr (.inr hx)
      rcases List.mem_cons.1 hx with rfl|hx
      · exact hny
      · have:=r1 x hx;omega
theorem fold_rise:∀(l acc:List Int),Rise acc→Rise (l.foldl nputF acc)∧∀ x,x∈l.foldl nputF acc↔x∈acc∨x∈l
  | [],acc,h=>⟨h,fun x=>by simp⟩
  | z :: l, acc, h => by
    obtain⟨p1,p2⟩:=nput_rise (n:=z) h
    obtain⟨q1,q2⟩:=fold_rise l (nputF acc z) p1
    refine⟨q1,fun x=>?_⟩
    rw [List.foldl_cons,q2,p2,List.mem_cons]
    constructor
    · rintro((h|h)|h)
      · exact .inr (.inl h)
      · exact .inl h
      · exact .inr (.inr h)
    · rintro(h|h|h)
      · exact .inl (.inr h)
      · exact .inl (.inl h)
      · exact .inr h
theorem sorted_rise (l:List Int):Rise (sortedF l)∧∀ x,x∈sortedF l↔x∈l:=by
  obtain⟨h1,h2⟩:=fold_rise l [] (by simp [Rise])
  exact⟨h1,fun x=>by unfold sortedF;rw [h2];simp⟩
end Go.Proofs.YtjicdgejhkgpgaaGreatDoor
namespace Go.Proofs.YtjicdgejhkgpgaaGreatDoor
open Go.RowKit Go.En Go.Pv
end Go.Proofs.YtjicdgejhkgpgaaGreatDoor
namespace Go.Proofs.YtjicdgejhkgpgaaGreatDoor
open Go.RowKit Go.En Go.Pv
attribute [local irreducible] E EL K Val Enters Rt Calls bodyPost Code.wp RQ
end Go.Proofs.YtjicdgejhkgpgaaGreatDoor
namespace Go.Proofs.YtjicdgejhkgpgaaGreatDoor
open Go.RowKit Go.En Go.Pv
attribute [local irreducible] E EL K Val Enters Rt Calls bodyPost Code.wp RQ
end Go.Proofs.YtjicdgejhkgpgaaGreatDoor
namespace Go.Proofs.YtjicdgejhkgpgaaGreatDoor
open Go.RowKit Go.En Go.Pv
structure LgBd (g:Lg):Prop where
  segs:∀ p∈g.segs,p.name.length≤1048576
  units:∀ u∈g.units,u.graph.length≤1048576
  letters:∀ l∈g.letters,∀ t∈l,t.l.length≤1048576
  lettersL:∀ l∈g.letters,l.length≤1048576
  oname:g.oname.length≤1048576
  rules:∀ r∈g.rules,r.frm.length≤1048576
  gloss:∀ e∈g.lex,∀ x∈e.senses,x.gloss.length≤1048576
attribute [local irreducible] E EL K Val Enters Rt Calls bodyPost Code.wp RQ
end Go.Proofs.YtjicdgejhkgpgaaGreatDoor
