/-
  Provenance, plainly: references in order. Provenance, plainly: the statements of a grammar. How the values of a language lie in memory. Bits: and, or, shifts; a mask as a set of states.
-/
import Derived.Test.YtjicdgejhkgpgaaGreatDoorYa
import Derived.Test.YtjicdgejhkgpgaaGreatDoorYb
set_option linter.all false
namespace Go.Pv
def ltR (a b:Rf):Prop:=a.rcd<b.rcd∨a.rcd=b.rcd∧a.note<b.note
instance (a b:Rf):Decidable (ltR a b):=inferInstanceAs (Decidable (_∨_∧_))
theorem ltR_trans {a b c:Rf} (h:ltR a b) (k:ltR b c):ltR a c:=by unfold ltR at *;omega
theorem ltR_irr (a:Rf):¬ ltR a a:=by unfold ltR;omega
theorem ltR_tri (a b:Rf):ltR a b∨a=b∨ltR b a:=by
  rcases a with⟨a1,a2⟩;rcases b with⟨b1,b2⟩
  unfold ltR
  by_cases h:a1=b1∧a2=b2
  · obtain⟨rfl,rfl⟩:=h;exact .inr (.inl rfl)
  · have:¬ (a1=b1∧a2=b2):=h
    dsimp only
    omega
def UpR (l:List Rf):Prop:=l.Pairwise ltR
def putR (l:List Rf) (r:Rf):List Rf:=if r∈l then l else l.takeWhile (fun x=>ltR x r)++r::l.dropWhile (fun x=>ltR x r)
theorem tw_all {l:List Rf} {r:Rf}:∀ x∈l.takeWhile (fun x=>decide (ltR x r)),ltR x r:=by
  intro x hx
  induction l with
  | nil=>cases hx
  | cons a t ih=>
    rw [List.takeWhile_cons] at hx
    split at hx
    · rename_i h
      rcases List.mem_cons.1 hx with rfl|hx
      · simpa using h
      · exact ih hx
    · cases hx
theorem dw_all {l:List Rf} (hu:UpR l) {r:Rf}:∀ x∈l.dropWhile (fun x=>decide (ltR x r)),¬ ltR x r:=by
  induction l with
  | nil=>intro x hx;cases hx
  | cons a t ih=>
    intro x hx
    unfold UpR at hu
    rw [List.pairwise_cons] at hu
    rw [List.dropWhile_cons] at hx
    split at hx
    · exact ih hu.2 x hx
    · rename_i h
      have ha:¬ ltR a r:=by simpa using h
      rcases List.mem_cons.1 hx with rfl|hx
      · exact ha
      · exact fun hxr=>ha (ltR_trans (hu.1 x hx) hxr)
theorem put_up {l : List Rf} (hu : UpR l) (r : Rf) : UpR (putR l r) := by
  unfold putR
  split
  · exact hu
  · rename_i hn
    unfold UpR
    rw [List.pairwise_append]
    refine⟨hu.sublist (List.takeWhile_sublist _),?_,?_⟩
    · rw [List.pairwise_cons]
      refine⟨fun x hx=>?_,hu.sublist (List.dropWhile_sublist _)⟩
      have h1:=dw_all hu x hx
      rcases ltR_tri x r with h|h|h
      · exact absurd h h1
      · exact absurd (h▸(List.dropWhile_sublist _).subset hx) hn
      · exact h
    · intro a ha b hb
      have h1:=tw_all a ha
      rcases List.mem_cons.1 hb with rfl|hb
      · exact h1
      · have h2:=dw_all hu b hb
        rcases ltR_tri b r with h|h|h
        · exact absurd h h2
        · exact h▸h1
        · exact ltR_trans h1 h
theorem put_mem {l : List Rf} {r x : Rf} : x ∈ putR l r ↔ x ∈ l ∨ x = r := by
  unfold putR
  split
  · rename_i h
    constructor
    · exact .inl
    · rintro(h'|rfl)
      · exact h'
      · exact h
  · have:=List.takeWhile_append_dropWhile (p:=fun x=>decide (ltR x r)) (l:=l)
    constructor
    · intro hx
      rcases List.mem_append.1 hx with hx|hx
      · exact .inl ((List.takeWhile_sublist _).subset hx)
      · rcases List.mem_cons.1 hx with rfl|hx
        · exact .inr rfl
        · exact .inl ((List.dropWhile_sublist _).subset hx)
    · rintro(hx|rfl)
      · rw [← this] at hx
        rcases List.mem_append.1 hx with hx|hx
        · exact List.mem_append.2 (.inl hx)
        · exact List.mem_append.2 (.inr (List.mem_cons_of_mem _ hx))
      · exact List.mem_append.2 (.inr List.mem_cons_self)
theorem put_len {l:List Rf} {r:Rf}:(putR l r).length≤l.length+1:=by
  unfold putR
  split
  · omega
  · have:=congrArg List.length (List.takeWhile_append_dropWhile (p:=fun x=>decide (ltR x r)) (l:=l))
    rw [List.length_append] at this
    rw [List.length_append,List.length_cons]
    omega
theorem put_at {l : List Rf} (hu : UpR l) {r : Rf} {i : Nat} (hi : i ≤ l.length) (hlow : ∀ j x, j < i → l[j]? = some x → ltR x r) (hup : ∀ x, l[i]? = some x → ¬ ltR x r) :
    putR l r=if l[i]?=some r then l else l.take i++r::l.drop i:=by
  have hsplit:l=l.take i++l.drop i:=(List.take_append_drop i l).symm
  have h1:∀ x∈l.take i,ltR x r:=by
    intro x hx
    obtain⟨j,hj⟩:=List.getElem?_of_mem hx
    have hjl:=(List.getElem?_eq_some_iff.1 hj).1
    have hji:j<i:=by simp at hjl;omega
    rw [List.getElem?_take_of_lt hji] at hj
    exact hlow j x hji hj
  have h2:∀ x∈l.drop i,¬ ltR x r:=by
    intro x hx
    obtain⟨j,hj⟩:=List.getElem?_of_mem hx
    rw [List.getElem?_drop] at hj
    cases j with
    | zero=>exact hup x hj
    | succ j=>
      obtain⟨y,hy⟩:∃ y,l[i]?=some y:=⟨_,List.getElem?_eq_getElem (by have:=(List.getElem?_eq_some_iff.1 hj).1;omega)⟩
      have:=hup y hy
      intro hxr
      refine this (ltR_trans ?_ hxr)
      obtain⟨g1,e1⟩:=List.getElem?_eq_some_iff.1 hy
      obtain⟨g2,e2⟩:=List.getElem?_eq_some_iff.1 hj
      rw [← e1,← e2]
      exact List.pairwise_iff_getElem.1 hu _ _ _ _ (by omega)
  have htw:l.takeWhile (fun x=>decide (ltR x r))=l.take i∧l.dropWhile (fun x=>decide (ltR x r))=l.drop i:=by
    have:∀(p q:List Rf),(∀ x∈p,ltR x r)→(∀ x∈q,¬ ltR x r)→(p++q).takeWhile (fun x=>decide (ltR x r))=p∧(p++q).dropWhile (fun x=>decide (ltR x r))=q:=by
      intro p q hp hq
      induction p with
      | nil=>
        cases q with
        | nil=>exact⟨rfl,rfl⟩
        | cons a t=>
          have:=hq a List.mem_cons_self
          simp [List.takeWhile_cons,List.dropWhile_cons,this]
      | cons a t ih=>
        have h:=ih (fun x hx=>hp x (List.mem_cons_of_mem _ hx))
        have ha:=hp a List.mem_cons_self
        simp [List.takeWhile_cons,List.dropWhile_cons,ha,h.1,h.2]
    have h:=this (l.take i) (l.drop i) h1 h2
    rwa [← hsplit] at h
  unfold putR
  have hmem:r∈l↔l[i]?=some r:=by
    constructor
    · intro hr
      rw [hsplit] at hr
      rcases List.mem_append.1 hr with hr|hr
      · exact absurd (h1 r hr) (ltR_irr r)
      · obtain⟨j,hj⟩:=List.getElem?_of_mem hr
        rw [List.getElem?_drop] at hj
        cases j with
        | zero=>exact hj
        | succ j=>
          exfalso
          obtain⟨y,hy⟩:∃ y,l[i]?=some y:=⟨_,List.getElem?_eq_getElem (by have:=(List.getElem?_eq_some_iff.1 hj).1;omega)⟩
          refine hup y hy ?_
          obtain⟨g1,e1⟩:=List.getElem?_eq_some_iff.1 hy
          obtain⟨g2,e2⟩:=List.getElem?_eq_some_iff.1 hj
          rw [← e1,← e2]
          exact List.pairwise_iff_getElem.1 hu _ _ _ _ (by omega)
    · intro h;exact List.mem_of_getElem? h
  rw [htw.1,htw.2]
  by_cases h:r∈l
  · rw [if_pos h,if_pos (hmem.1 h)]
  · rw [if_neg h,if_neg (fun e=>h (hmem.2 e))]
theorem put_end {l : List Rf} (hu : UpR l) {r : Rf} {i : Nat} (hi : i ≤ l.length) (hhigh : ∀ j x, i ≤ j → l[j]? = some x → ltR r x) (hlow : ∀ x, 0 < i → l[i - 1]? = some x → ¬ ltR r x) :
    putR l r=if 0<i∧l[i-1]?=some r then l else l.take i++r::l.drop i:=by
  by_cases h:0<i∧l[i-1]?=some r
  · rw [if_pos h,putR,if_pos (List.mem_of_getElem? h.2)]
  · rw [if_neg h]
    have hlt:∀ j x,j<i→l[j]?=some x→ltR x r:=by
      intro j x hj hx
      obtain⟨y,hy⟩:∃ y,l[i-1]?=some y:=⟨_,List.getElem?_eq_getElem (by omega)⟩
      have h1:=hlow y (by omega) hy
      have hyr:ltR y r:=by
        rcases ltR_tri y r with h2|h2|h2
        · exact h2
        · exact absurd ⟨by omega,h2▸hy⟩ h
        · exact absurd h2 h1
      by_cases e:j=i-1
      · subst e;rw [hy] at hx;cases hx;exact hyr
      · refine ltR_trans ?_ hyr
        obtain⟨g1,e1⟩:=List.getElem?_eq_some_iff.1 hx
        obtain⟨g2,e2⟩:=List.getElem?_eq_some_iff.1 hy
        rw [← e1,← e2]
        exact List.pairwise_iff_getElem.1 hu _ _ _ _ (by omega)
    rw [put_at hu hi hlt (fun x hx hr=>ltR_irr r (ltR_trans (hhigh i x (Nat.le_refl _) hx) hr))]
    rw [if_neg]
    intro e
    exact ltR_irr r (hhigh i r (Nat.le_refl _) e)
def putAll (l:List Rf) (rs:List Rf):List Rf:=rs.foldl putR l
theorem putAll_up {l:List Rf} (hu:UpR l):∀ rs:List Rf,UpR (putAll l rs)
  | []=>hu
  | r::rs=>putAll_up (put_up hu r) rs
theorem putAll_mem {x:Rf}:∀ {rs l:List Rf},x∈putAll l rs↔x∈l∨x∈rs
  | [],l=>by simp [putAll]
  | r::rs,l=>by
    show x∈putAll (putR l r) rs↔_
    rw [putAll_mem,put_mem,List.mem_cons,or_assoc]
theorem putAll_len:∀ {rs l:List Rf},(putAll l rs).length≤l.length+rs.length
  | [],l=>by simp [putAll]
  | r::rs,l=>by
    show(putAll (putR l r) rs).length≤_
    have:=putAll_len (rs:=rs) (l:=putR l r)
    have:=put_len (l:=l) (r:=r)
    rw [List.length_cons];omega
end Go.Pv
namespace Go.Pv
def firstE (n:Nat) (f:Nat→Int):Int:=match (List.range n).find? (fun i=>f i != 0) with|some i=>f i|none=>0
theorem firstE_all {n:Nat} {f:Nat→Int} (h:∀ i,i<n→f i=0):firstE n f=0:=by
  have:(List.range n).find? (fun i=>f i != 0)=none:=by
    rw [List.find?_eq_none]
    intro i hi
    rw [h i (List.mem_range.1 hi)];simp
  rw [firstE,this]
theorem firstE_at {n i:Nat} {f:Nat→Int} (h:∀ j,j<i→f j=0) (hi:i<n) (hf:f i≠0):firstE n f=f i:=by
  have:(List.range n).find? (fun i=>f i != 0)=some i:=by
    rw [List.find?_range_eq_some]
    refine⟨by simp [hf],by simpa using hi,fun j hj=>?_⟩
    simp [h j hj]
  rw [firstE,this]
theorem firstE_zero {n:Nat} {f:Nat→Int} (h:firstE n f=0):∀ i,i<n→f i=0:=by
  intro i hi
  cases hf:(List.range n).find? (fun i=>f i != 0) with
  | none=>
    rw [List.find?_eq_none] at hf
    have:=hf i (List.mem_range.2 hi)
    simpa using this
  | some k=>
    have hk:f k=0:=by rw [firstE,hf] at h;exact h
    have:=List.find?_some hf
    simp [hk] at this
def identB (n:Int):Bool:=decide (1≤n∧n≤1099511627776)
structure Pnt where
  id:Int
  title:List UInt8
  text:List UInt8
  entries:List Int
  refs:List Rf
def refAt (l:List Rf) (i:Nat):Int:=match l[i]? with
  | none=>0
  | some r=>if identB r.rcd&&identB r.note then (match (if 0<i then l[i-1]? else none) with|none=>0|some q=>if ltR q r then 0 else 10) else 2
def refsE (l:List Rf):Int:=if l.length=0∨12<l.length then 24 else firstE l.length (refAt l)
def upAt (l:List Int) (i:Nat):Int:=match l[i]?,(if 0<i then l[i-1]? else none) with
  | some x,some y=>if y<x then 0 else 10
  | _,_=>0
def noneAt (lex:List En) (l:List Int) (i:Nat):Int:=match l[i]? with
  | none=>0
  | some x=>if (getE lex x).isSome then 0 else 9
def entriesE (lex:List En) (l:List Int):Int:=if firstE l.length (upAt l)≠0 then firstE l.length (upAt l) else firstE l.length (noneAt lex l)
def pointE (lab:List UInt8→Bool) (txt:List UInt8→Int) (lex:List En) (p:Pnt):Int:=
  if lab p.title then (if txt p.text≠0 then txt p.text else if entriesE lex p.entries≠0 then entriesE lex p.entries else refsE p.refs) else 7
def pointAt (lab:List UInt8→Bool) (txt:List UInt8→Int) (lex:List En) (l:List Pnt) (i:Nat):Int:=match l[i]? with
  | none=>0
  | some p=>if identB p.id then (match (if 0<i then l[i-1]? else none) with|none=>pointE lab txt lex p|some q=>if q.id<p.id then pointE lab txt lex p else 10) else 2
def pointsF (lab:List UInt8→Bool) (txt:List UInt8→Int) (lex:List En) (l:List Pnt):Int:=if 40<l.length then 11 else firstE l.length (pointAt lab txt lex l)
theorem points_take {lab:List UInt8→Bool} {txt:List UInt8→Int} {lex:List En} {l:List Pnt} (h:pointsF lab txt lex l=0) (n:Nat):pointsF lab txt lex (l.take n)=0:=by
  unfold pointsF at h ⊢
  by_cases h40:40<l.length
  · rw [if_pos h40] at h;cases h
  · rw [if_neg h40] at h
    rw [if_neg (by rw [List.length_take];omega)]
    refine firstE_all fun i hi=>?_
    rw [List.length_take] at hi
    have hz:=firstE_zero h i (by omega)
    have e1:(l.take n)[i]?=l[i]?:=List.getElem?_take_of_lt (by omega)
    have e2:(if 0<i then (l.take n)[i-1]? else none)=(if 0<i then l[i-1]? else none):=by
      rw [List.getElem?_take_of_lt (by omega)]
    unfold pointAt at hz ⊢
    rw [e1,e2]
    exact hz
def danglF (leads:Rf→Bool) (l:List Pnt):List Rf:=putAll [] ((l.flatMap (·.refs)).filter fun r=>!leads r)
theorem dangl_mem {leads:Rf→Bool} {l:List Pnt} {r:Rf}:r∈danglF leads l↔(∃ p∈l,r∈p.refs)∧leads r=false:=by
  unfold danglF
  rw [putAll_mem,List.mem_filter,List.mem_flatMap]
  simp
def usesL (l:List Pnt) (id:Int):List Int:=(l.filter fun p=>p.entries.contains id).map (·.id)
end Go.Pv
namespace Go.Pv
open Go.RowKit Go.En
instance {α:Type} [Rep α]:Rep (List α) where
  sz:=1
  pos:=by decide
  at_ G w x cs:=∃ sv,cs=[sv]∧SlG G w sv x
  len h:=by obtain⟨sv,rfl,_⟩:=h;rfl
  one h:=by obtain⟨sv,rfl,⟨_,_,rfl,_⟩⟩:=h;rfl
  move h hm:=by obtain⟨sv,rfl,h1⟩:=h;exact⟨sv,rfl,h1.move hm⟩
theorem int_elem {G:Nat→Prop} {w:World} {b off n cap:Nat} {xs:List Int} (h:SlG G w (.slice (some ⟨b,off,none⟩) n cap) xs) {i:Nat} {x:Int} (hx:xs[i]?=some x):At w b (off+i*1) [int x]:=by
  obtain⟨cs,h1,h2⟩:=h.elem hx
  rw [show cs=_ from h1] at h2
  exact h2
theorem txt_elem {G:Nat→Prop} {w:World} {b off n cap:Nat} {xs:List Txt} (h:SlG G w (.slice (some ⟨b,off,none⟩) n cap) xs) {i:Nat} {x:Txt} (hx:xs[i]?=some x):At w b (off+i*1) [str x.l]:=by
  obtain⟨cs,h1,h2⟩:=h.elem hx
  rw [show cs=_ from h1] at h2
  exact h2
def phC (x:Ph):List Value:=[str x.name,int x.feat]
instance:Rep Ph where
  sz:=2
  pos:=by decide
  at_ _ _ x cs:=cs=phC x
  len h:=by rw [h];rfl
  one h:=by rw [h];rfl
  move h _:=h
theorem ph_elem {G:Nat→Prop} {w:World} {b off n cap:Nat} {xs:List Ph} (h:SlG G w (.slice (some ⟨b,off,none⟩) n cap) xs) {i:Nat} {x:Ph} (hx:xs[i]?=some x):At w b (off+i*2) [str x.name,int x.feat]:=by
  obtain⟨cs,h1,h2⟩:=h.elem hx
  rw [show cs=_ from h1] at h2
  exact h2
theorem ph_ats {G:Nat→Prop} (w:World):∀ l:List Ph,AtsG G w l (l.map phC)
  | []=>trivial
  | _::r=>⟨rfl,ph_ats w r⟩
def clsC (x:Cls):List Value:=[int x.mask,int x.val]
instance:Rep Cls where
  sz:=2
  pos:=by decide
  at_ _ _ x cs:=cs=clsC x
  len h:=by rw [h];rfl
  one h:=by rw [h];rfl
  move h _:=h
theorem cls_elem {G:Nat→Prop} {w:World} {b off n cap:Nat} {xs:List Cls} (h:SlG G w (.slice (some ⟨b,off,none⟩) n cap) xs) {i:Nat} {x:Cls} (hx:xs[i]?=some x):At w b (off+i*2) [int x.mask,int x.val]:=by
  obtain⟨cs,h1,h2⟩:=h.elem hx
  rw [show cs=_ from h1] at h2
  exact h2
instance:Rep Unt where
  sz:=2
  pos:=by decide
  at_ G w x cs:=∃ segsv,cs=[str x.graph,segsv]∧SlG G w segsv x.segs
  len h:=by obtain⟨segsv,rfl,_⟩:=h;rfl
  one h:=by obtain⟨segsv,rfl,⟨_,_,rfl,_⟩⟩:=h;rfl
  move h hm:=by obtain⟨segsv,rfl,h0⟩:=h;exact⟨segsv,rfl,h0.move hm⟩
theorem unt_elem {G:Nat→Prop} {w:World} {b off n cap:Nat} {xs:List Unt} (h:SlG G w (.slice (some ⟨b,off,none⟩) n cap) xs) {i:Nat} {x:Unt} (hx:xs[i]?=some x) :
    ∃ a0 c0,At w b (off+i*2) [str x.graph,.slice a0 x.segs.length c0]∧Rep.at_ G w x [str x.graph,.slice a0 x.segs.length c0]∧SlG G w (.slice a0 x.segs.length c0) x.segs:=by
  obtain⟨cs,⟨segsv,rfl,h0⟩,hat⟩:=h.elem hx
  obtain⟨a0,c0,rfl,_,_,_⟩:=h0.sl
  exact⟨a0,c0,hat,⟨_,rfl,h0⟩,h0⟩
instance:Rep Rul where
  sz:=6
  pos:=by decide
  at_ G w x cs:=∃ frmv tov leftv rightv,cs=[frmv,tov,leftv,rightv,.bool x.beg,.bool x.fin]∧SlG G w frmv x.frm∧SlG G w tov x.to∧SlG G w leftv x.left∧SlG G w rightv x.right
  len h:=by obtain⟨frmv,tov,leftv,rightv,rfl,_⟩:=h;rfl
  one h:=by obtain⟨frmv,tov,leftv,rightv,rfl,⟨_,_,rfl,_⟩,⟨_,_,rfl,_⟩,⟨_,_,rfl,_⟩,⟨_,_,rfl,_⟩⟩:=h;rfl
  move h hm:=by obtain⟨frmv,tov,leftv,rightv,rfl,h0,h1,h2,h3⟩:=h;exact⟨frmv,tov,leftv,rightv,rfl,h0.move hm,h1.move hm,h2.move hm,h3.move hm⟩
theorem rul_elem {G:Nat→Prop} {w:World} {b off n cap:Nat} {xs:List Rul} (h:SlG G w (.slice (some ⟨b,off,none⟩) n cap) xs) {i:Nat} {x:Rul} (hx:xs[i]?=some x) :
    ∃ a0 c0 a1 c1 a2 c2 a3 c3,At w b (off+i*6) [.slice a0 x.frm.length c0,.slice a1 x.to.length c1,.slice a2 x.left.length c2,.slice a3 x.right.length c3,.bool x.beg,.bool x.fin]∧Rep.at_ G w x [.slice a0 x.frm.length c0,.slice a1 x.to.length c1,.slice a2 x.left.length c2,.slice a3 x.right.length c3,.bool x.beg,.bool x.fin]∧SlG G w (.slice a0 x.frm.length c0) x.frm∧SlG G w (.slice a1 x.to.length c1) x.to∧SlG G w (.slice a2 x.left.length c2) x.left∧SlG G w (.slice a3 x.right.length c3) x.right:=by
  obtain⟨cs,⟨frmv,tov,leftv,rightv,rfl,h0,h1,h2,h3⟩,hat⟩:=h.elem hx
  obtain⟨a0,c0,rfl,_,_,_⟩:=h0.sl
  obtain⟨a1,c1,rfl,_,_,_⟩:=h1.sl
  obtain⟨a2,c2,rfl,_,_,_⟩:=h2.sl
  obtain⟨a3,c3,rfl,_,_,_⟩:=h3.sl
  exact⟨a0,c0,a1,c1,a2,c2,a3,c3,hat,⟨_,_,_,_,rfl,h0,h1,h2,h3⟩,h0,h1,h2,h3⟩
def stpC (x:Stp):List Value:=[int x.frm,int x.cls,int x.to]
instance:Rep Stp where
  sz:=3
  pos:=by decide
  at_ _ _ x cs:=cs=stpC x
  len h:=by rw [h];rfl
  one h:=by rw [h];rfl
  move h _:=h
theorem stp_elem {G:Nat→Prop} {w:World} {b off n cap:Nat} {xs:List Stp} (h:SlG G w (.slice (some ⟨b,off,none⟩) n cap) xs) {i:Nat} {x:Stp} (hx:xs[i]?=some x):At w b (off+i*3) [int x.frm,int x.cls,int x.to]:=by
  obtain⟨cs,h1,h2⟩:=h.elem hx
  rw [show cs=_ from h1] at h2
  exact h2
theorem stp_ats {G:Nat→Prop} (w:World):∀ l:List Stp,AtsG G w l (l.map stpC)
  | []=>trivial
  | _::r=>⟨rfl,stp_ats w r⟩
def snsC (x:Sns):List Value:=[str x.gloss,str x.dfn]
instance:Rep Sns where
  sz:=2
  pos:=by decide
  at_ _ _ x cs:=cs=snsC x
  len h:=by rw [h];rfl
  one h:=by rw [h];rfl
  move h _:=h
theorem sns_ats {G:Nat→Prop} (w:World):∀ l:List Sns,AtsG G w l (l.map snsC)
  | []=>trivial
  | _::r=>⟨rfl,sns_ats w r⟩
def lnkC (x:Lnk):List Value:=[int x.kind,int x.to]
instance:Rep Lnk where
  sz:=2
  pos:=by decide
  at_ _ _ x cs:=cs=lnkC x
  len h:=by rw [h];rfl
  one h:=by rw [h];rfl
  move h _:=h
def rfC (x:Rf):List Value:=[int x.rcd,int x.note]
instance:Rep Rf where
  sz:=2
  pos:=by decide
  at_ _ _ x cs:=cs=rfC x
  len h:=by rw [h];rfl
  one h:=by rw [h];rfl
  move h _:=h
theorem rf_elem {G:Nat→Prop} {w:World} {b off n cap:Nat} {xs:List Rf} (h:SlG G w (.slice (some ⟨b,off,none⟩) n cap) xs) {i:Nat} {x:Rf} (hx:xs[i]?=some x):At w b (off+i*2) [int x.rcd,int x.note]:=by
  obtain⟨cs,h1,h2⟩:=h.elem hx
  rw [show cs=_ from h1] at h2
  exact h2
theorem rf_ats {G:Nat→Prop} (w:World):∀ l:List Rf,AtsG G w l (l.map rfC)
  | []=>trivial
  | _::r=>⟨rfl,rf_ats w r⟩
theorem ats_rf {G:Nat→Prop} {w:World}:∀ {l:List Rf} {css:List (List Value)},AtsG G w l css→css=l.map rfC
  | [],[],_=>rfl
  | [],_::_,h=>h.elim
  | _::_,[],h=>h.elim
  | x::r,c::cs,h=>by rw [List.map_cons,ats_rf h.2,show c=rfC x from h.1]
instance:Rep En where
  sz:=8
  pos:=by decide
  at_ G w x cs:=∃ formv altsv sensesv linksv refsv,cs=[int x.id,formv,int x.cls,altsv,int x.main,sensesv,linksv,refsv]∧SlG G w formv x.form∧SlG G w altsv x.alts∧SlG G w sensesv x.senses∧SlG G w linksv x.links∧SlG G w refsv x.refs
  len h:=by obtain⟨formv,altsv,sensesv,linksv,refsv,rfl,_⟩:=h;rfl
  one h:=by obtain⟨formv,altsv,sensesv,linksv,refsv,rfl,⟨_,_,rfl,_⟩,⟨_,_,rfl,_⟩,⟨_,_,rfl,_⟩,⟨_,_,rfl,_⟩,⟨_,_,rfl,_⟩⟩:=h;rfl
  move h hm:=by obtain⟨formv,altsv,sensesv,linksv,refsv,rfl,h0,h1,h2,h3,h4⟩:=h;exact⟨formv,altsv,sensesv,linksv,refsv,rfl,h0.move hm,h1.move hm,h2.move hm,h3.move hm,h4.move hm⟩
theorem en_elem {G:Nat→Prop} {w:World} {b off n cap:Nat} {xs:List En} (h:SlG G w (.slice (some ⟨b,off,none⟩) n cap) xs) {i:Nat} {x:En} (hx:xs[i]?=some x) :
    ∃ a0 c0 a1 c1 a2 c2 a3 c3 a4 c4,At w b (off+i*8) [int x.id,.slice a0 x.form.length c0,int x.cls,.slice a1 x.alts.length c1,int x.main,.slice a2 x.senses.length c2,.slice a3 x.links.length c3,.slice a4 x.refs.length c4]∧Rep.at_ G w x [int x.id,.slice a0 x.form.length c0,int x.cls,.slice a1 x.alts.length c1,int x.main,.slice a2 x.senses.length c2,.slice a3 x.links.length c3,.slice a4 x.refs.length c4]∧SlG G w (.slice a0 x.form.length c0) x.form∧SlG G w (.slice a1 x.alts.length c1) x.alts∧SlG G w (.slice a2 x.senses.length c2) x.senses∧SlG G w (.slice a3 x.links.length c3) x.links∧SlG G w (.slice a4 x.refs.length c4) x.refs:=by
  obtain⟨cs,⟨formv,altsv,sensesv,linksv,refsv,rfl,h0,h1,h2,h3,h4⟩,hat⟩:=h.elem hx
  obtain⟨a0,c0,rfl,_,_,_⟩:=h0.sl
  obtain⟨a1,c1,rfl,_,_,_⟩:=h1.sl
  obtain⟨a2,c2,rfl,_,_,_⟩:=h2.sl
  obtain⟨a3,c3,rfl,_,_,_⟩:=h3.sl
  obtain⟨a4,c4,rfl,_,_,_⟩:=h4.sl
  exact⟨a0,c0,a1,c1,a2,c2,a3,c3,a4,c4,hat,⟨_,_,_,_,_,rfl,h0,h1,h2,h3,h4⟩,h0,h1,h2,h3,h4⟩
def prtC (x:Prt):List Value:=[int x.entry,int x.alt,int x.sense]
instance:Rep Prt where
  sz:=3
  pos:=by decide
  at_ _ _ x cs:=cs=prtC x
  len h:=by rw [h];rfl
  one h:=by rw [h];rfl
  move h _:=h
theorem prt_elem {G:Nat→Prop} {w:World} {b off n cap:Nat} {xs:List Prt} (h:SlG G w (.slice (some ⟨b,off,none⟩) n cap) xs) {i:Nat} {x:Prt} (hx:xs[i]?=some x):At w b (off+i*3) [int x.entry,int x.alt,int x.sense]:=by
  obtain⟨cs,h1,h2⟩:=h.elem hx
  rw [show cs=_ from h1] at h2
  exact h2
instance:Rep Pnt where
  sz:=5
  pos:=by decide
  at_ G w x cs:=∃ entriesv refsv,cs=[int x.id,str x.title,str x.text,entriesv,refsv]∧SlG G w entriesv x.entries∧SlG G w refsv x.refs
  len h:=by obtain⟨entriesv,refsv,rfl,_⟩:=h;rfl
  one h:=by obtain⟨entriesv,refsv,rfl,⟨_,_,rfl,_⟩,⟨_,_,rfl,_⟩⟩:=h;rfl
  move h hm:=by obtain⟨entriesv,refsv,rfl,h0,h1⟩:=h;exact⟨entriesv,refsv,rfl,h0.move hm,h1.move hm⟩
theorem pnt_elem {G:Nat→Prop} {w:World} {b off n cap:Nat} {xs:List Pnt} (h:SlG G w (.slice (some ⟨b,off,none⟩) n cap) xs) {i:Nat} {x:Pnt} (hx:xs[i]?=some x) :
    ∃ a0 c0 a1 c1,At w b (off+i*5) [int x.id,str x.title,str x.text,.slice a0 x.entries.length c0,.slice a1 x.refs.length c1]∧Rep.at_ G w x [int x.id,str x.title,str x.text,.slice a0 x.entries.length c0,.slice a1 x.refs.length c1]∧SlG G w (.slice a0 x.entries.length c0) x.entries∧SlG G w (.slice a1 x.refs.length c1) x.refs:=by
  obtain⟨cs,⟨entriesv,refsv,rfl,h0,h1⟩,hat⟩:=h.elem hx
  obtain⟨a0,c0,rfl,_,_,_⟩:=h0.sl
  obtain⟨a1,c1,rfl,_,_,_⟩:=h1.sl
  exact⟨a0,c0,a1,c1,hat,⟨_,_,rfl,h0,h1⟩,h0,h1⟩
structure Lg where
  segs:List Ph
  oname:List UInt8
  units:List Unt
  letters:List (List Txt)
  rules:List Rul
  net:Net
  lex:List En
structure LangG (G:Nat→Prop) (w:World) (g:Lg) (pv uv tv rv sv fv ev:Value):Prop where
  segs:SlG G w pv g.segs
  units:SlG G w uv g.units
  letters:SlG G w tv g.letters
  rules:SlG G w rv g.rules
  steps:SlG G w sv g.net.steps
  final:SlG G w fv g.net.final
  lex:SlG G w ev g.lex
theorem LangG.move {G G':Nat→Prop} {w w':World} {g:Lg} {pv uv tv rv sv fv ev:Value} (h:LangG G w g pv uv tv rv sv fv ev) (hm:∀ b,G b→b<w.heap.size→G' b∧w'.heap[b]?=w.heap[b]?):LangG G' w' g pv uv tv rv sv fv ev:=
  ⟨h.segs.move hm,h.units.move hm,h.letters.move hm,h.rules.move hm,h.steps.move hm,h.final.move hm,h.lex.move hm⟩
theorem LangG.ext {G:Nat→Prop} {w w':World} {g:Lg} {pv uv tv rv sv fv ev:Value} (h:LangG G w g pv uv tv rv sv fv ev) (x:Ext w w'):LangG G w' g pv uv tv rv sv fv ev:=h.move x.mv
theorem LangG.any {G:Nat→Prop} {w:World} {g:Lg} {pv uv tv rv sv fv ev:Value} (h:LangG G w g pv uv tv rv sv fv ev):LangG Tt w g pv uv tv rv sv fv ev:=h.move fun _ _ _=>⟨trivial,rfl⟩
abbrev LangAt:=LangG Tt
end Go.Pv
namespace Go.En
open Go.RowKit
def bandI (a b:Int):Int:=IntKind.i64.wrap ((BitVec.ofInt 64 a &&& BitVec.ofInt 64 b).toNat)
@[reducible] def u32 (m:Nat):Value:=.int .u32 (m:Int)
theorem wrap_u32 {m:Nat} (h:m<4294967296):IntKind.u32.wrap (m:Int)=(m:Int):=by
  simp [IntKind.wrap,IntKind.signed,IntKind.bits];omega
theorem ofInt_u32 {m:Nat} (h:m<4294967296):(BitVec.ofInt 32 (m:Int)).toNat=m:=by
  rw [BitVec.toNat_ofInt]
  have:((m:Int) % ((2 ^ 32:Nat):Int))=(m:Int):=Int.emod_eq_of_lt (by omega) (by simp;omega)
  rw [this];omega
section
variable {P : Program} {n : Nat} {Q : Post} {L : List (Nat × Value)} {w : World} {ops : List Oper} {o : Oper} {rest : List Oper}
theorem val_and {t u:TypeId} {x y:Operand} {a b:Int} (ho:o.op=.binOp .and t x y u) (hx:ev L x=some (int a)) (hy:ev L y=some (int b)):Val P L w o (int (bandI a b)):=
  val_arith ho hx hy rfl
theorem val_and32 {t u:TypeId} {x y:Operand} {a b:Nat} (ho:o.op=.binOp .and t x y u) (hx:ev L x=some (u32 a)) (hy:ev L y=some (u32 b)) (ha:a<4294967296) (hb:b<4294967296):Val P L w o (u32 (a &&& b)):=
  val_arith ho hx hy (by
    have h1:a &&& b<4294967296:=Nat.lt_of_le_of_lt Nat.and_le_left ha
    have h2:((BitVec.ofInt 32 (a:Int)) &&& (BitVec.ofInt 32 (b:Int))).toNat=a &&& b:=by rw [BitVec.toNat_and,ofInt_u32 ha,ofInt_u32 hb]
    have key:binOp .and t (u32 a) (u32 b)=pure (.int .u32 (IntKind.u32.wrap (((BitVec.ofInt 32 (a:Int)) &&& (BitVec.ofInt 32 (b:Int))).toNat:Int))):=rfl
    rw [key,h2,wrap_u32 h1])
theorem val_or32 {t u:TypeId} {x y:Operand} {a b:Nat} (ho:o.op=.binOp .or t x y u) (hx:ev L x=some (u32 a)) (hy:ev L y=some (u32 b)) (ha:a<4294967296) (hb:b<4294967296):Val P L w o (u32 (a ||| b)):=
  val_arith ho hx hy (by
    have h1:a ||| b<2 ^ 32:=Nat.or_lt_two_pow ha hb
    have h2:((BitVec.ofInt 32 (a:Int)) |||(BitVec.ofInt 32 (b:Int))).toNat=a ||| b:=by rw [BitVec.toNat_or,ofInt_u32 ha,ofInt_u32 hb]
    have key:binOp .or t (u32 a) (u32 b)=pure (.int .u32 (IntKind.u32.wrap (((BitVec.ofInt 32 (a:Int)) |||(BitVec.ofInt 32 (b:Int))).toNat:Int))):=rfl
    rw [key,h2,wrap_u32 h1])
theorem val_shift {op:BinOp} {t u:TypeId} {x y:Operand} {k k':IntKind} {a b z:Int} (ho:o.op=.binOp op t x y u) (hop:op=.shl∨op=.shr) (hx:ev L x=some (.int k a)) (hy:ev L y=some (.int k' b))
    (hz:Op.shift op k a k' b=pure (.int k z)):Val P L w o (.int k z):=fun ρ ha=>by
  have h1:=ha.ev (by rw [ho];simp [Op.operands]) hx
  have h2:=ha.ev (by rw [ho];simp [Op.operands]) hy
  rcases hop with rfl|rfl
  · simp only [execOp,ho,h1,h2,eqGuard,binOp,hz];rfl
  · simp only [execOp,ho,h1,h2,eqGuard,binOp,hz];rfl
theorem val_shl32 {t u:TypeId} {x y:Operand} {q:Nat} (ho:o.op=.binOp .shl t x y u) (hx:ev L x=some (u32 1)) (hy:ev L y=some (int q)) (hq:q<32):Val P L w o (u32 (2 ^ q)):=
  val_shift ho (.inl rfl) hx hy (by
    have h0:¬ ((q:Int)<0):=by omega
    have h2:(2:Nat) ^ q<4294967296:=Nat.pow_lt_pow_right (by omega) (m:=q) (n:=32) hq
    have h1:((1:Nat):Int)*2 ^ q=((2 ^ q:Nat):Int):=by simp
    unfold Op.shift
    rw [if_neg h0]
    simp only [IntKind.bits,Int.toNat_natCast]
    rw [Nat.min_eq_left (Nat.le_of_lt hq),h1,wrap_u32 h2])
theorem val_shr32 {t u:TypeId} {x y:Operand} {m q:Nat} (ho:o.op=.binOp .shr t x y u) (hx:ev L x=some (u32 m)) (hy:ev L y=some (int q)) (hq:q<32):Val P L w o (u32 (m >>> q)):=
  val_shift ho (.inr rfl) hx hy (by
    have h0:¬ ((q:Int)<0):=by omega
    unfold Op.shift
    rw [if_neg h0]
    simp only [IntKind.bits,Int.toNat_natCast]
    rw [Nat.min_eq_left (Nat.le_of_lt hq)]
    have:((m:Int)).fdiv (2 ^ q)=((m >>> q:Nat):Int):=by
      rw [Nat.shiftRight_eq_div_pow]
      rw [Int.fdiv_eq_ediv_of_nonneg _ (Int.pow_nonneg (by omega))]
      simp
    rw [this])
end
def MaskIs (m:Nat) (S:Int→Bool):Prop:=m<2 ^ 24∧∀ q:Nat,m.testBit q=S (q:Int)
theorem MaskIs.lt {m:Nat} {S:Int→Bool} (h:MaskIs m S):m<4294967296:=by have:=h.1;omega
theorem mask_zero:MaskIs 0 (fun _=>false):=⟨by decide,fun q=>by simp⟩
theorem mask_or {m t:Nat} {S:Int→Bool} (h:MaskIs m S) (ht:t<24):MaskIs (m ||| 2 ^ t) (fun q=>S q||q==(t:Int)):=by
  refine⟨Nat.or_lt_two_pow h.1 (Nat.pow_lt_pow_right (by omega) ht),fun q=>?_⟩
  rw [Nat.testBit_or,h.2 q,Nat.testBit_two_pow]
  congr 1
  by_cases e:t=q
  · subst e;simp
  · rw [decide_eq_false e];symm;simp;omega
theorem mask_bit {m q:Nat} {S:Int→Bool} (h:MaskIs m S):(m >>> q) &&& 1=if S (q:Int) then 1 else 0:=by
  rw [← h.2 q,Nat.testBit]
  rcases Nat.mod_two_eq_zero_or_one (m >>> q) with e|e
  · rw [Nat.and_one_is_mod,e];simp [Nat.one_and_eq_mod_two,e]
  · rw [Nat.and_one_is_mod,e];simp [Nat.one_and_eq_mod_two,e]
theorem mask_eq {m:Nat} {S T:Int→Bool} (h:MaskIs m S) (e:∀ q:Nat,S (q:Int)=T (q:Int)):MaskIs m T:=⟨h.1,fun q=>(h.2 q).trans (e q)⟩
theorem mask_ne {m:Nat} {S:Int→Bool} (h:MaskIs m S):m≠0↔∃ q:Nat,S (q:Int)=true:=by
  constructor
  · intro hm
    obtain⟨i,hi⟩:=Nat.exists_testBit_of_ne_zero hm
    exact⟨i,(h.2 i).symm.trans hi⟩
  · rintro⟨q,hq⟩ rfl
    rw [← h.2 q] at hq;simp at hq
theorem mask_and {m k:Nat} {S T:Int→Bool} (h:MaskIs m S) (h':MaskIs k T):MaskIs (m &&& k) (fun q=>S q&&T q):=
  ⟨Nat.lt_of_le_of_lt Nat.and_le_left h.1,fun q=>by rw [Nat.testBit_and,h.2 q,h'.2 q]⟩
end Go.En
