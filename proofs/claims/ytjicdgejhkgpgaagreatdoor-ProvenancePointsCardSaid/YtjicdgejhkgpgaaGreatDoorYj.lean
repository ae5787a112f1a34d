/-
  Walks: the reference's nets: sets of states. Walks: the reference's nets: both, reached, ends, run, Accepts, Follow. Walks: the reference's nets: Accepts, ends, Follow. Walks: the reference's rules (site, Apply, Last). Walks: the reference's Apply and Last. Walks: the reference's part, Right, Form, Licensed. Walks: the reference's Right, Form, Licensed.
-/
import Derived.Test.YtjicdgejhkgpgaaGreatDoorYf
import Derived.Test.YtjicdgejhkgpgaaGreatDoorYg
import Derived.Test.YtjicdgejhkgpgaaGreatDoorYh
import Derived.Test.YtjicdgejhkgpgaaGreatDoorYi
set_option linter.all false
namespace Go.Proofs.YtjicdgejhkgpgaaGreatDoor
open Go.RowKit Go.En Go.Pv
def blv (n:Nat) (S:Int→Bool):List Value:=(List.range n).map fun i:Nat=>.bool (S (i:Int))
theorem blv_ext {n:Nat} {S T:Int→Bool} (h:∀ i:Nat,i<n→S (i:Int)=T (i:Int)):blv n S=blv n T:=by
  unfold blv
  refine List.map_congr_left fun i hi=>?_
  rw [h i (List.mem_range.1 hi)]
def RB (B:Nat) (w:World) (v:Value) (n:Nat) (S:Int→Bool):Prop:=∃ b,v=.slice (some ⟨b,0,none⟩) n n∧B≤b∧Row w b 4 (blv n S)
theorem RB.ext {B:Nat} {w w':World} {v:Value} {n:Nat} {S:Int→Bool} (h:RB B w v n S) (x:Ext w w'):RB B w' v n S:=by
  obtain⟨b,e,hb,hr⟩:=h;exact⟨b,e,hb,hr.ext x⟩
theorem RB.wk {B B':Nat} {w:World} {v:Value} {n:Nat} {S:Int→Bool} (h:RB B w v n S) (hB:B'≤B):RB B' w v n S:=by
  obtain⟨b,e,hb,hr⟩:=h;exact⟨b,e,Nat.le_trans hB hb,hr⟩
theorem RB.same {B:Nat} {w:World} {v:Value} {n:Nat} {S T:Int→Bool} (h:RB B w v n S) (e:∀ i:Nat,i<n→S (i:Int)=T (i:Int)):RB B w v n T:=by
  rw [RB,← blv_ext e];exact h
attribute [local irreducible] E EL K Val Enters Rt Calls bodyPost Code.wp RQ
end Go.Proofs.YtjicdgejhkgpgaaGreatDoor
namespace Go.Proofs.YtjicdgejhkgpgaaGreatDoor
open Go.RowKit Go.En Go.Pv
attribute [local irreducible] E EL K Val Enters Rt Calls bodyPost Code.wp RQ
end Go.Proofs.YtjicdgejhkgpgaaGreatDoor
namespace Go.Proofs.YtjicdgejhkgpgaaGreatDoor
open Go.RowKit Go.En Go.Pv
attribute [local irreducible] E EL K Val Enters Rt Calls bodyPost Code.wp RQ
end Go.Proofs.YtjicdgejhkgpgaaGreatDoor
namespace Go.Proofs.YtjicdgejhkgpgaaGreatDoor
open Go.RowKit Go.En Go.Pv
def siteC (r:Rul) (n i:Nat):Prop:=r.left.length≤i∧i+1+r.right.length≤n∧(r.beg=true→i=r.left.length)∧(r.fin=true→i+1+r.right.length=n)
theorem site_no_mem {segs:List Ph} {r:Rul} {ws:List Int} {i:Nat} {x:Int} (hx:ws[i]?=some x) (h:x∉r.frm):siteB bandI segs r ws i=false:=by
  unfold siteB;rw [hx];simp [h]
theorem site_no {segs:List Ph} {r:Rul} {ws:List Int} {i:Nat} {x:Int} (hx:ws[i]?=some x) (h:¬ siteC r ws.length i):siteB bandI segs r ws i=false:=by
  unfold siteB;rw [hx];dsimp only
  cases hb:(r.frm.contains x&&decide (r.left.length≤i)&&decide (i+1+r.right.length≤ws.length)&&(!r.beg||i==r.left.length)&&(!r.fin||i+1+r.right.length==ws.length)) with
  | false=>rfl
  | true=>
    exfalso
    simp only [Bool.and_eq_true,decide_eq_true_eq,Bool.or_eq_true,Bool.not_eq_true',beq_iff_eq] at hb
    refine h ⟨hb.1.1.1.2,hb.1.1.2,fun e=>?_,fun e=>?_⟩
    · rcases hb.1.2 with h1|h1
      · rw [h1] at e;cases e
      · exact h1
    · rcases hb.2 with h1|h1
      · rw [h1] at e;cases e
      · exact h1
theorem site_yes {segs:List Ph} {r:Rul} {ws:List Int} {i:Nat} {x:Int} (hx:ws[i]?=some x) (hm:x∈r.frm) (h:siteC r ws.length i) :
    siteB bandI segs r ws i=(fitsB bandI segs r.left ((ws.drop (i-r.left.length)).take r.left.length)&&fitsB bandI segs r.right ((ws.drop (i+1)).take r.right.length)):=by
  unfold siteB;rw [hx];dsimp only
  obtain⟨h1,h2,h3,h4⟩:=h
  have e3:(!r.beg||i==r.left.length)=true:=by
    cases hb:r.beg with
    | false=>rfl
    | true=>simp [h3 hb]
  have e4:(!r.fin||i+1+r.right.length==ws.length)=true:=by
    cases hb:r.fin with
    | false=>rfl
    | true=>simp [h4 hb]
  rw [e3,e4,decide_eq_true h1,decide_eq_true h2]
  simp [hm]
theorem fits_yes {segs:List Ph} {cs:List Cls} {xs:List Int} (h:∀(j:Nat) (c:Cls) (y:Int),cs[j]?=some c→xs[j]?=some y→inC bandI segs y c=true):fitsB bandI segs cs xs=true:=by
  unfold fitsB
  rw [List.all_eq_true]
  intro p hp
  obtain⟨j,hj⟩:=List.getElem?_of_mem hp
  rw [List.getElem?_zip_eq_some] at hj
  exact h j p.1 p.2 hj.1 hj.2
theorem fits_no {segs:List Ph} {cs:List Cls} {xs:List Int} {j:Nat} {c:Cls} {y:Int} (hc:cs[j]?=some c) (hy:xs[j]?=some y) (h:inC bandI segs y c=false):fitsB bandI segs cs xs=false:=by
  unfold fitsB
  rw [List.all_eq_false]
  exact⟨(c,y),List.mem_of_getElem? (List.getElem?_zip_eq_some.2 ⟨hc,hy⟩),by simp [h]⟩
structure RulG (G:Nat→Prop) (w:World) (r:Rul) (fv tv lv rv:Value):Prop where
  frm:SlG G w fv r.frm
  to:SlG G w tv r.to
  left:SlG G w lv r.left
  right:SlG G w rv r.right
theorem RulG.ext {G:Nat→Prop} {w w':World} {r:Rul} {fv tv lv rv:Value} (h:RulG G w r fv tv lv rv) (x:Ext w w'):RulG G w' r fv tv lv rv:=⟨h.frm.ext x,h.to.ext x,h.left.ext x,h.right.ext x⟩
abbrev RulAt:=RulG Tt
structure RulOK (r:Rul):Prop where
  len:r.to.length=r.frm.length
  few:r.frm.length≤8
  nod:r.frm.Nodup
  left:r.left.length≤2
  right:r.right.length≤2
attribute [local irreducible] E EL K Val Enters Rt Calls bodyPost Code.wp RQ
end Go.Proofs.YtjicdgejhkgpgaaGreatDoor
namespace Go.Proofs.YtjicdgejhkgpgaaGreatDoor
open Go.RowKit Go.En Go.Pv
def upA (segs:List Ph) (r:Rul) (ws:List Int) (i:Nat):List Int:=(List.range i).filterMap (oneF bandI segs r ws)
theorem upA_succ (segs:List Ph) (r:Rul) (ws:List Int) (i:Nat):upA segs r ws (i+1)=upA segs r ws i++(match oneF bandI segs r ws i with|some y=>[y]|none=>[]):=by
  unfold upA;rw [List.range_succ,List.filterMap_append];congr 1
  cases h:oneF bandI segs r ws i <;> simp [h]
theorem upA_len (segs:List Ph) (r:Rul) (ws:List Int) (i:Nat):(upA segs r ws i).length≤i:=by
  have:=List.length_filterMap_le (oneF bandI segs r ws) (List.range i);simpa [upA] using this
theorem oneF_at {segs:List Ph} {r:Rul} {ws:List Int} {i:Nat} {x:Int} (hx:ws[i]?=some x):oneF bandI segs r ws i=if (if siteB bandI segs r ws i then newF r x else x)=0 then none else some (if siteB bandI segs r ws i then newF r x else x):=by
  have:ws.getD i 0=x:=by rw [List.getD_eq_getElem?_getD,hx];rfl
  unfold oneF;rw [this]
theorem site_mem {segs:List Ph} {r:Rul} {ws:List Int} {i:Nat} {x:Int} (hx:ws[i]?=some x) (h:siteB bandI segs r ws i=true):x∈r.frm:=by
  refine Classical.byContradiction fun hn=>?_
  rw [site_no_mem hx hn] at h;cases h
attribute [local irreducible] E EL K Val Enters Rt Calls bodyPost Code.wp RQ
end Go.Proofs.YtjicdgejhkgpgaaGreatDoor
namespace Go.Proofs.YtjicdgejhkgpgaaGreatDoor
open Go.RowKit Go.En Go.Pv
theorem LangOK.rul {g:Lg} (h:LangOK g):∀ r∈g.rules,RulOK r:=fun r hr=>by
  obtain⟨h1,h2,h3,h4,h5⟩:=h.rules r hr;exact⟨h1,h2,h3,h4,h5⟩
theorem LangOK.alts {g:Lg} (h:LangOK g):∀ e∈g.lex,e.alts.length≤1000000:=fun e he=>by have:=(h.lex e he).2.2.2.2.1;omega
theorem LangOK.forms {g:Lg} (h:LangOK g):∀ e∈g.lex,∀ f∈formsOf e,f.length≤1000:=fun e he f hf=>by have:=((h.lex e he).2.2.2.2.2.1 f hf).1;omega
theorem LangOK.cls {g : Lg} (h : LangOK g) (a : List Prt) : ∀ c ∈ classesOf g.lex a, 1 ≤ c := by
  intro c hc
  unfold classesOf at hc
  obtain⟨p,_,hp⟩:=List.mem_filterMap.1 hc
  cases hx:entOf g.lex p with
  | none=>rw [hx] at hp;cases hp
  | some x=>
    rw [hx] at hp
    cases hp
    unfold entOf at hx
    cases hg:getE g.lex p.entry with
    | none=>rw [hg] at hx;cases hx
    | some e=>
      rw [hg] at hx
      dsimp only at hx
      split at hx
      · split at hx
        · cases hx
          obtain⟨_,h1,_,_⟩:=getE_at hg
          exact(h.lex e (List.mem_of_getElem? h1)).2.1
        · cases hx
      · cases hx
attribute [local irreducible] E EL K Val Enters Rt Calls bodyPost Code.wp RQ
end Go.Proofs.YtjicdgejhkgpgaaGreatDoor
namespace Go.Proofs.YtjicdgejhkgpgaaGreatDoor
open Go.RowKit Go.En Go.Pv
attribute [local irreducible] E EL K Val Enters Rt Calls bodyPost Code.wp RQ
end Go.Proofs.YtjicdgejhkgpgaaGreatDoor
