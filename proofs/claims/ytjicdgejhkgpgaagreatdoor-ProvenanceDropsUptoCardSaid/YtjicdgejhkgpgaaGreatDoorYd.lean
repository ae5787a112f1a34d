/-
  Own text of the proof.
-/
import Derived.Test.YtjicdgejhkgpgaaGreatDoorYc
import Derived.Test.YtjicdgejhkgpgaaGreatDoorYa
import Derived.Test.YtjicdgejhkgpgaaGreatDoorYb
set_option linter.all false
namespace Go.Proofs.YtjicdgejhkgpgaaGreatDoor
section
open Go.RowKit Go.En
def insR {α:Type} (lt:α→α→Bool) (l:List α) (x:α):List α:=
  match l with
  | []=>[x]
  | y::r=>if (y::r).all (fun z=>lt x z) then x::y::r else y::insR lt r x
def G1 {α:Type} (lt:α→α→Bool) (l:List α):List α:=l.foldl (insR lt) []
section
variable {α : Type} {lt : α → α → Bool}
theorem W9:∀(l:List α) (x:α),(insR lt l x).Perm (x::l)
  | [],x=>List.Perm.refl _
  | y::r,x=>by
    unfold insR
    split
    · exact List.Perm.refl _
    · exact((W9 r x).cons y).trans (List.Perm.swap x y r)
theorem A7b:∀(l acc:List α),(l.foldl (insR lt) acc).Perm (acc++l)
  | [],acc=>by simp
  | x::l,acc=>by
    rw [List.foldl_cons]
    refine(A7b l _).trans ?_
    refine((W9 acc x).append_right l).trans ?_
    rw [List.cons_append]
    exact List.perm_middle.symm
theorem H3 (l:List α):(G1 lt l).Perm l:=by simpa [G1] using A7b (lt:=lt) l []
theorem C0i {l p s:List α} {x:α} (hl:l=p++s) (hs:∀ z∈s,lt x z=true) (hp:∀ q z,p=q++[z]→lt x z=false):insR lt l x=p++x::s:=by
  subst hl
  induction p with
  | nil=>
    cases s with
    | nil=>rfl
    | cons y r=>
      simp only [List.nil_append]
      unfold insR
      rw [if_pos (List.all_eq_true.2 hs)]
  | cons y p ih=>
    rw [List.cons_append]
    unfold insR
    rw [if_neg,ih (fun q z h=>hp (y::q) z (by rw [h,List.cons_append])),List.cons_append]
    intro hall
    obtain⟨q,z,hqz⟩:∃ q z,y::p=q++[z]:=⟨(y::p).dropLast,(y::p).getLast (by simp),(List.dropLast_concat_getLast (by simp)).symm⟩
    have h1:=hp q z hqz
    have h2:=List.all_eq_true.1 hall z (by rw [← List.cons_append,hqz];simp)
    rw [h1] at h2;cases h2
theorem A7c {lt':α→α→Bool}:∀(l:List α) (x:α),(∀ y∈l,lt x y=lt' x y)→insR lt l x=insR lt' l x
  | [],_,_=>rfl
  | y :: r, x, h => by
    have h1:(y::r).all (fun z=>lt x z)=(y::r).all (fun z=>lt' x z):=by
      rw [Bool.eq_iff_iff,List.all_eq_true,List.all_eq_true]
      exact⟨fun k z hz=>by rw [← h z hz];exact k z hz,fun k z hz=>by rw [h z hz];exact k z hz⟩
    unfold insR
    rw [h1,A7c r x (fun z hz=>h z (List.mem_cons_of_mem _ hz))]
theorem A8t {lt':α→α→Bool} (l:List α) (h:∀ x∈l,∀ y∈l,lt x y=lt' x y):G1 lt l=G1 lt' l:=by
  have go:∀(r acc:List α),(∀ x∈r,x∈l)→(∀ x∈acc,x∈l)→r.foldl (insR lt) acc=r.foldl (insR lt') acc:=by
    intro r
    induction r with
    | nil=>intro acc _ _;rfl
    | cons x r ih=>
      intro acc h1 h2
      rw [List.foldl_cons,List.foldl_cons,A7c acc x (fun y hy=>h x (h1 x (List.mem_cons_self ..)) y (h2 y hy))]
      refine ih _ (fun y hy=>h1 y (List.mem_cons_of_mem _ hy)) (fun y hy=>?_)
      rcases List.mem_cons.1 ((W9 acc x).mem_iff.1 hy) with rfl|hy
      · exact h1 _ (List.mem_cons_self ..)
      · exact h2 y hy
  exact go l [] (fun _ h=>h) (fun _ h=>by simp at h)
structure Strict (lt:α→α→Bool) (l:List α):Prop where
  asymm:∀ x∈l,∀ y∈l,lt x y=true→lt y x=false
  trans:∀ x∈l,∀ y∈l,∀ z∈l,lt x y=true→lt y z=true→lt x z=true
  total:∀ x∈l,∀ y∈l,x≠y→lt x y=true∨lt y x=true
theorem B4u {l : List α} {x : α} {L : List α} (hS : Strict lt L) (hx : x ∈ L) (hl : ∀ y ∈ l, y ∈ L) (hxl : x ∉ l) (hs : l.Pairwise fun a b => lt a b = true) : (insR lt l x).Pairwise fun a b => lt a b = true := by
  induction l with
  | nil=>simp [insR]
  | cons y r ih=>
    unfold insR
    split
    · rename_i hall
      exact List.Pairwise.cons (List.all_eq_true.1 hall) hs
    · rename_i hall
      have hyx:lt y x=true:=by
        rcases hS.total x hx y (hl y (List.mem_cons_self ..)) (fun e=>hxl (by rw [e];exact List.mem_cons_self ..)) with h|h
        · exfalso
          refine hall (List.all_eq_true.2 fun z hz=>?_)
          rcases List.mem_cons.1 hz with rfl|hz
          · exact h
          · exact hS.trans x hx y (hl y (List.mem_cons_self ..)) z (hl z (List.mem_cons_of_mem _ hz)) h ((List.pairwise_cons.1 hs).1 z hz)
        · exact h
      refine List.Pairwise.cons (fun z hz=>?_) (ih (fun z hz=>hl z (List.mem_cons_of_mem _ hz)) (fun h=>hxl (List.mem_cons_of_mem _ h)) (List.pairwise_cons.1 hs).2)
      rcases List.mem_cons.1 ((W9 r x).mem_iff.1 hz) with rfl|hz
      · exact hyx
      · exact(List.pairwise_cons.1 hs).1 z hz
theorem S2 {l:List α} (hn:l.Nodup) (hS:Strict lt l):(G1 lt l).Pairwise fun a b=>lt a b=true:=by
  have go:∀(r acc:List α),(acc++r).Nodup→(∀ x∈acc++r,x∈l)→acc.Pairwise (fun a b=>lt a b=true)→(r.foldl (insR lt) acc).Pairwise fun a b=>lt a b=true:=by
    intro r
    induction r with
    | nil=>intro acc _ _ h;exact h
    | cons x r ih=>
      intro acc h1 h2 h3
      rw [List.foldl_cons]
      have hp:(insR lt acc x++r).Perm (acc++x::r):=((W9 acc x).append_right r).trans List.perm_middle.symm
      refine ih _ (hp.nodup_iff.2 h1) (fun y hy=>h2 y (hp.mem_iff.1 hy)) ?_
      refine B4u hS (h2 x (by simp)) (fun y hy=>h2 y (by simp [hy])) (fun hx=>?_) h3
      rw [List.nodup_append] at h1
      exact h1.2.2 x hx x (by simp) rfl
  exact go l [] (by simpa using hn) (by simp) List.Pairwise.nil
theorem A6f:∀ {l m:List α},l.Perm m→(∀ x∈l,∀ y∈l,lt x y=true→lt y x=false)→l.Pairwise (fun a b=>lt a b=true)→m.Pairwise (fun a b=>lt a b=true)→l=m
  | [],m,hp,_,_,_=>hp.nil_eq
  | x::l,[],hp,_,_,_=>hp.symm.nil_eq.symm
  | x :: l, y :: m, hp, ha, h1, h2 => by
    have hxy:x=y:=by
      have hy:y∈x::l:=hp.mem_iff.2 (List.mem_cons_self ..)
      have hx:x∈y::m:=hp.mem_iff.1 (List.mem_cons_self ..)
      rcases List.mem_cons.1 hy with h|hy'
      · exact h.symm
      rcases List.mem_cons.1 hx with h|hx'
      · exact h
      have e1:=(List.pairwise_cons.1 h1).1 y hy'
      have e2:=(List.pairwise_cons.1 h2).1 x hx'
      rw [ha x (List.mem_cons_self ..) y hy e1] at e2;cases e2
    subst hxy
    rw [A6f (List.Perm.cons_inv hp) (fun a h b k=>ha a (List.mem_cons_of_mem _ h) b (List.mem_cons_of_mem _ k)) (List.pairwise_cons.1 h1).2 (List.pairwise_cons.1 h2).2]
theorem B7y {l m:List α} (hn:l.Nodup) (hS:Strict lt l) (hp:m.Perm l) (hm:m.Pairwise fun a b=>lt a b=true):G1 lt l=m:=
  A6f ((H3 l).trans hp.symm) (fun x hx y hy=>hS.asymm x ((H3 l).mem_iff.1 hx) y ((H3 l).mem_iff.1 hy)) (S2 hn hS) hm
end
end
section
open Go.RowKit Go.En
theorem X0 {ns:List Note} {id:Int} {n:Note} (h:getF ns id=some n):n∈ns∧n.id=id:=by
  unfold getF at h
  exact⟨List.mem_of_find?_eq_some h,by simpa using List.find?_some h⟩
theorem Y7 {ns:List Note} (h:ns.Pairwise fun a b=>a.id<b.id) {a b:Note} (ha:a∈ns) (hb:b∈ns) (e:a.id=b.id):a=b:=by
  obtain⟨i,hi⟩:=List.getElem?_of_mem ha
  obtain⟨j,hj⟩:=List.getElem?_of_mem hb
  obtain⟨hi1,rfl⟩:=List.getElem?_eq_some_iff.1 hi
  obtain⟨hj1,rfl⟩:=List.getElem?_eq_some_iff.1 hj
  have hp:=List.pairwise_iff_getElem.1 h
  rcases Nat.lt_trichotomy i j with hlt|heq|hlt
  · have:=hp i j hi1 hj1 hlt;omega
  · subst heq;rfl
  · have:=hp j i hj1 hi1 hlt;omega
theorem A2x {ns:List Note} (h:ns.Pairwise fun a b=>a.id<b.id) {n:Note} (hn:n∈ns):getF ns n.id=some n:=by
  cases hg:getF ns n.id with
  | none=>
    unfold getF at hg
    have:=List.find?_eq_none.1 hg n hn
    simp at this
  | some m=>
    obtain⟨h1,h2⟩:=X0 hg
    rw [Y7 h h1 hn h2]
theorem J9 {d : Dc} (h : LightD d) : d.notes.Pairwise fun a b => a.id < b.id := by
  have step:∀(j i:Nat) (hj:j<d.notes.length) (hi:i<d.notes.length),i<j→d.notes[i].id<d.notes[j].id:=by
    intro j
    induction j with
    | zero=>intro i _ _ h;omega
    | succ j ih=>
      intro i hj hi hij
      have h1:=(h.notes (j+1) _ (List.getElem?_eq_getElem hj)).inc d.notes[j] (by omega) (by simp [List.getElem?_eq_getElem (show j<d.notes.length by omega)])
      by_cases he:i=j
      · subst he;exact h1
      · have:=ih i (by omega) hi (by omega)
        omega
  exact List.pairwise_iff_getElem.2 fun i j hi hj hij=>step j i hj hi hij
theorem T7 {d:Dc} (h:LightD d):d.notes.Nodup:=(J9 h).imp fun {a b} hab e=>by subst e;omega
theorem W4 {d:Dc} (h:LightD d) {n:Note} (hn:n∈d.notes):∃(k:Nat) (t:Tier),n.tier=(k:Int)∧d.tiers[k]?=some t∧PlacedOK d n t∧TierOK d.tiers k t∧SibsOK t.kind (sibs d.notes (k:Int) n.parent):=by
  obtain⟨i,hi⟩:=List.getElem?_of_mem hn
  obtain⟨t,k,h1,h2,h3⟩:=(h.notes i n hi).placed
  exact⟨k,t,h1,h2,h3,h.tiers k t h2,h.sib k t h2 n hn h1⟩
theorem O9 {d:Dc} (h:LightD d) {n:Note} {k:Nat} {t:Tier} (hn:n∈d.notes) (hk:n.tier=(k:Int)) (ht:d.tiers[k]?=some t):PlacedOK d n t∧TierOK d.tiers k t∧SibsOK t.kind (sibs d.notes (k:Int) n.parent):=by
  obtain⟨k',t',h1,h2,h3,h4,h5⟩:=W4 h hn
  have hkk:k'=k:=by omega
  subst hkk
  rw [ht] at h2;cases h2
  exact⟨h3,h4,h5⟩
def befF (d : Dc) : Nat → Note → Note → Bool
  | 0,_,_=>false
  | f + 1, a, b =>
    if a.parent ≠ b.parent then
      (match getF d.notes a.parent,getF d.notes b.parent with
       | some p,some q=>befF d f p q
       | _,_=>false)
    else if (match d.tiers[a.tier.toNat]? with|some t=>G4 t.kind|none=>false) then decide (a.frm<b.frm) else decide (a.rank<b.rank)
def N5 (d:Dc) (k:Int):List Note:=d.notes.filter fun n=>decide (n.tier=k)
theorem H0 {d:Dc} {k:Int} {n:Note}:n∈N5 d k↔n∈d.notes∧n.tier=k:=by simp [N5]
theorem P3 {ns:List Note} {k p:Int} {n:Note}:n∈sibs ns k p↔n∈ns∧n.tier=k∧n.parent=p:=by simp [sibs]
theorem cover {α : Type} (f : α → Int) : ∀ (m : Nat) (l : List α), (∀ n : Nat, n < m → ∃ x ∈ l, f x = (n : Int)) → m ≤ l.length
  | 0,_,_=>Nat.zero_le _
  | m + 1, l, h => by
    obtain⟨x,hx,hf⟩:=h m (by omega)
    obtain⟨s,t,rfl⟩:=List.append_of_mem hx
    have:=cover f m (s++t) fun n hn=>by
      obtain⟨y,hy,hfy⟩:=h n (by omega)
      refine⟨y,?_,hfy⟩
      rcases List.mem_append.1 hy with hy|hy
      · exact List.mem_append_left _ hy
      · rcases List.mem_cons.1 hy with rfl|hy
        · omega
        · exact List.mem_append_right _ hy
    simp only [List.length_append,List.length_cons] at this ⊢
    omega
theorem B7m {l:List Note} (h:Ranked l) {x y:Note} (hx:x∈l) (hy:y∈l) (e:x.rank=y.rank):x=y:=by
  apply Classical.byContradiction
  intro hne
  obtain⟨s,t,rfl⟩:=List.append_of_mem hy
  have hx2:x∈s++t:=by
    rcases List.mem_append.1 hx with hx|hx
    · exact List.mem_append_left _ hx
    · rcases List.mem_cons.1 hx with hx|hx
      · exact absurd hx hne
      · exact List.mem_append_right _ hx
  have:=cover (fun z:Note=>z.rank) (s++y::t).length (s++t) fun n hn=>by
    obtain⟨z,hz,hr⟩:=h n hn
    rcases List.mem_append.1 hz with hz|hz
    · exact⟨z,List.mem_append_left _ hz,hr⟩
    · rcases List.mem_cons.1 hz with rfl|hz
      · exact⟨x,hx2,by rw [e];exact hr⟩
      · exact⟨z,List.mem_append_right _ hz,hr⟩
  simp only [List.length_append,List.length_cons] at this
  omega
theorem C4d {d:Dc} (h:LightD d) {k:Nat} {t:Tier} {x y:Note} (ht:d.tiers[k]?=some t) (hx:x∈d.notes) (hy:y∈d.notes) (hxk:x.tier=(k:Int)) (hyk:y.tier=(k:Int)) (hp:x.parent=y.parent) (hne:x≠y) :
    (G4 t.kind=true→x.frm≠y.frm)∧(G4 t.kind=false→x.rank≠y.rank):=by
  obtain⟨px,tk,sx⟩:=O9 h hx hxk ht
  obtain⟨py,_,_⟩:=O9 h hy hyk ht
  have mx:x∈sibs d.notes (k:Int) x.parent:=P3.2 ⟨hx,hxk,rfl⟩
  have my:y∈sibs d.notes (k:Int) x.parent:=P3.2 ⟨hy,hyk,hp.symm⟩
  refine⟨fun htm e=>?_,fun htm e=>?_⟩
  · have rx:=px.on htm
    have ry:=py.on htm
    unfold A6m at rx ry
    simp only [Bool.and_eq_true,decide_eq_true_eq] at rx ry
    obtain⟨i,hi⟩:=List.getElem?_of_mem mx
    obtain⟨j,hj⟩:=List.getElem?_of_mem my
    rcases Nat.lt_trichotomy i j with hlt|heq|hlt
    · exact sx.apart htm j i y x hlt hj hi ⟨by omega,by omega⟩
    · subst heq;rw [hi] at hj;cases hj;exact hne rfl
    · exact sx.apart htm i j x y hlt hi hj ⟨by omega,by omega⟩
  · have hk34:t.kind=3∨t.kind=4:=by
      have:=tk.kind
      have h0:¬ (t.kind=0∨t.kind=1∨t.kind=2):=fun hh=>by rw [A3s.2 hh] at htm;cases htm
      omega
    rcases hk34 with h3|h4
    · exact hne (B7m (sx.series h3) mx my e)
    · have hl:=sx.label h4
      obtain⟨i,hi⟩:=List.getElem?_of_mem mx
      obtain⟨j,hj⟩:=List.getElem?_of_mem my
      have h1:=(List.getElem?_eq_some_iff.1 hi).1
      have h2:=(List.getElem?_eq_some_iff.1 hj).1
      have:i=j:=by omega
      subst this
      rw [hi] at hj;cases hj;exact hne rfl
theorem A3i {d:Dc} {k f:Nat} {t:Tier} {x y:Note} (ht:d.tiers[k]?=some t) (hxk:x.tier=(k:Int)) (hp:x.parent=y.parent):befF d (f+1) x y=if G4 t.kind then decide (x.frm<y.frm) else decide (x.rank<y.rank):=by
  simp only [befF]
  rw [if_neg (by simpa using hp),hxk,Int.toNat_natCast,ht]
theorem A0u {d:Dc} {f:Nat} {x y p q:Note} (hp:getF d.notes x.parent=some p) (hq:getF d.notes y.parent=some q) (hne:x.parent≠y.parent):befF d (f+1) x y=befF d f p q:=by
  simp only [befF]
  rw [if_pos hne,hp,hq]
theorem R1 {d:Dc} (h:LightD d) {k:Nat} {t:Tier} {x:Note} (ht:d.tiers[k]?=some t) (hx:x∈d.notes) (hxk:x.tier=(k:Int)) (h0:t.kind≠0) :
    ∃(j:Nat) (u:Tier) (p:Note),t.parent=(j:Int)∧j<k∧d.tiers[j]?=some u∧getF d.notes x.parent=some p∧p∈d.notes∧p.id=x.parent∧p.tier=(j:Int):=by
  obtain⟨px,tk,_⟩:=O9 h hx hxk ht
  obtain⟨p,hp,hpt⟩:=px.par h0
  have hr:=tk.par h0
  obtain⟨h1,h2⟩:=X0 hp
  have hk:=(List.getElem?_eq_some_iff.1 ht).1
  exact⟨t.parent.toNat,d.tiers[t.parent.toNat]'(by omega),p,by omega,by omega,List.getElem?_eq_getElem (by omega),hp,h1,h2,by omega⟩
theorem A7r {d:Dc} (h:LightD d):∀(k f g:Nat),k<f→k<g→∀ x∈d.notes,∀ y∈d.notes,x.tier=(k:Int)→y.tier=(k:Int)→befF d f x y=befF d g x y:=by
  intro k
  induction k using Nat.strongRecOn with
  | _ k ih =>
    intro f g hf hg x hx y hy hxk hyk
    obtain⟨f,rfl⟩:∃ f',f=f'+1:=⟨f-1,by omega⟩
    obtain⟨g,rfl⟩:∃ g',g=g'+1:=⟨g-1,by omega⟩
    obtain⟨k',t,h1,ht,_⟩:=W4 h hx
    have hkk:k'=k:=by omega
    subst hkk
    by_cases hp:x.parent=y.parent
    · rw [A3i ht hxk hp,A3i ht hxk hp]
    · have h0:t.kind≠0:=fun h0=>hp (by rw [(O9 h hx hxk ht).1.root h0,(O9 h hy hyk ht).1.root h0])
      obtain⟨j,u,p,e1,hj,_,gp,mp,_,tp⟩:=R1 h ht hx hxk h0
      obtain⟨j',u',q,e2,_,_,gq,mq,_,tq⟩:=R1 h ht hy hyk h0
      have hjj:j'=j:=by omega
      subst hjj
      rw [A0u gp gq hp,A0u gp gq hp]
      exact ih j' hj f g (by omega) (by omega) p mp q mq tp tq
theorem A1z {d : Dc} (h : LightD d) : ∀ k : Nat, Strict (befF d (k + 1)) (N5 d k) := by
  intro k
  induction k using Nat.strongRecOn with
  | _ k ih =>
    have key:∀ x∈N5 d k,∀ y∈N5 d k,(x.parent=y.parent∧∃ t,d.tiers[k]?=some t∧∀ z w:Note,z.tier=(k:Int)→z.parent=w.parent→befF d (k+1) z w=if G4 t.kind then decide (z.frm<w.frm) else decide (z.rank<w.rank))∨
        (x.parent≠y.parent∧∃(j:Nat) (p q:Note),j<k∧getF d.notes x.parent=some p∧getF d.notes y.parent=some q∧p∈N5 d j∧q∈N5 d j∧p≠q∧befF d (k+1) x y=befF d (j+1) p q∧befF d (k+1) y x=befF d (j+1) q p):=by
      intro x hx y hy
      obtain⟨hx1,hxk⟩:=H0.1 hx
      obtain⟨hy1,hyk⟩:=H0.1 hy
      obtain⟨k',t,h1,ht,_⟩:=W4 h hx1
      have hkk:k'=k:=by omega
      subst hkk
      by_cases hp:x.parent=y.parent
      · exact .inl ⟨hp,t,ht,fun z w hz hzw=>A3i ht hz hzw⟩
      · have h0:t.kind≠0:=fun h0=>hp (by rw [(O9 h hx1 hxk ht).1.root h0,(O9 h hy1 hyk ht).1.root h0])
        obtain⟨j,u,p,e1,hj,_,gp,mp,ip,tp⟩:=R1 h ht hx1 hxk h0
        obtain⟨j',u',q,e2,_,_,gq,mq,iq,tq⟩:=R1 h ht hy1 hyk h0
        have hjj:j'=j:=by omega
        subst hjj
        refine .inr ⟨hp,j',p,q,hj,gp,gq,H0.2 ⟨mp,tp⟩,H0.2 ⟨mq,tq⟩,fun e=>hp (by rw [← ip,← iq,e]),?_,?_⟩
        · rw [A0u gp gq hp]
          exact A7r h j' k' (j'+1) hj (by omega) p mp q mq tp tq
        · rw [A0u gq gp (fun e=>hp e.symm)]
          exact A7r h j' k' (j'+1) hj (by omega) q mq p mp tq tp
    refine⟨fun x hx y hy hxy=>?_,fun x hx y hy z hz hxy hyz=>?_,fun x hx y hy hne=>?_⟩
    · rcases key x hx y hy with⟨hp,t,ht,hb⟩|⟨hp,j,p,q,hj,_,_,mp,mq,_,e1,e2⟩
      · rw [hb x y (H0.1 hx).2 hp] at hxy
        rw [hb y x (H0.1 hy).2 hp.symm]
        split at hxy
        · rename_i htm
          rw [if_pos htm]
          simp only [decide_eq_true_eq] at hxy
          simp;omega
        · rename_i htm
          rw [if_neg htm]
          simp only [decide_eq_true_eq] at hxy
          simp;omega
      · rw [e1] at hxy
        rw [e2]
        exact(ih j hj).asymm p mp q mq hxy
    · rcases key x hx y hy with⟨hp,t,ht,hb⟩|⟨hp,j,p,q,hj,gp,gq,mp,mq,hpq,e1,e2⟩
      · rcases key y hy z hz with⟨hp2,t2,ht2,hb2⟩|⟨hp2,j2,p2,q2,hj2,gp2,gq2,mp2,mq2,hpq2,e12,e22⟩
        · rw [hb x y (H0.1 hx).2 hp] at hxy
          rw [hb y z (H0.1 hy).2 hp2] at hyz
          rw [hb x z (H0.1 hx).2 (hp.trans hp2)]
          split at hxy
          · rename_i htm
            rw [if_pos htm] at hyz ⊢
            simp only [decide_eq_true_eq] at hxy hyz ⊢
            omega
          · rename_i htm
            rw [if_neg htm] at hyz ⊢
            simp only [decide_eq_true_eq] at hxy hyz ⊢
            omega
        · rcases key x hx z hz with⟨hp3,_⟩|⟨hp3,j3,p3,q3,hj3,gp3,gq3,mp3,mq3,hpq3,e13,e23⟩
          · exact absurd (hp.symm.trans hp3) hp2
          · rw [hp,gp2] at gp3;cases gp3
            rw [gq2] at gq3;cases gq3
            have hjj:j3=j2:=by have:=(H0.1 mp2).2;have:=(H0.1 mp3).2;omega
            subst hjj
            rw [e13,← e12];exact hyz
      · rcases key y hy z hz with⟨hp2,t2,ht2,hb2⟩|⟨hp2,j2,p2,q2,hj2,gp2,gq2,mp2,mq2,hpq2,e12,e22⟩
        · rcases key x hx z hz with⟨hp3,_⟩|⟨hp3,j3,p3,q3,hj3,gp3,gq3,mp3,mq3,hpq3,e13,e23⟩
          · exact absurd (hp3.trans hp2.symm) hp
          · rw [gp] at gp3;cases gp3
            rw [← hp2,gq] at gq3;cases gq3
            have hjj:j3=j:=by have:=(H0.1 mp).2;have:=(H0.1 mp3).2;omega
            subst hjj
            rw [e13,← e1];exact hxy
        · rw [gq] at gp2;cases gp2
          have hjj:j2=j:=by have:=(H0.1 mq).2;have:=(H0.1 mp2).2;omega
          subst hjj
          rw [e1] at hxy
          rw [e12] at hyz
          rcases key x hx z hz with⟨hp3,_⟩|⟨hp3,j3,p3,q3,hj3,gp3,gq3,mp3,mq3,hpq3,e13,e23⟩
          · exfalso
            rw [hp3,gq2] at gp;cases gp
            have:=(ih j2 hj).asymm p mp q mq hxy
            rw [this] at hyz;cases hyz
          · rw [gp] at gp3;cases gp3
            rw [gq2] at gq3;cases gq3
            have hjj:j3=j2:=by have:=(H0.1 mp).2;have:=(H0.1 mp3).2;omega
            subst hjj
            rw [e13]
            exact(ih j3 hj).trans p mp q mq q2 mq2 hxy hyz
    · rcases key x hx y hy with⟨hp,t,ht,hb⟩|⟨hp,j,p,q,hj,_,_,mp,mq,hpq,e1,e2⟩
      · obtain⟨hx1,hxk⟩:=H0.1 hx
        obtain⟨hy1,hyk⟩:=H0.1 hy
        have hs:=C4d h ht hx1 hy1 hxk hyk hp hne
        rw [hb x y hxk hp,hb y x hyk hp.symm]
        cases htm:G4 t.kind with
        | true=>
          have:=hs.1 htm
          simp;omega
        | false=>
          have:=hs.2 htm
          simp;omega
      · rw [e1,e2]
        exact(ih j hj).total p mp q mq hpq
end
section
open Go.RowKit Go.En
def ordB (a b:Note):Bool:=decide (a.parent<b.parent)||(decide (a.parent=b.parent)&&(decide (a.frm<b.frm)||(decide (a.frm=b.frm)&&decide (a.rank<b.rank))))
def M8 (d:Dc) (id k:Int):List Note:=if 0≤k∧k<d.tiers.length then G1 ordB (sibs d.notes k id) else []
def ofN (d : Dc) : Nat → Int → List Note
  | 0,_=>[]
  | f + 1, k =>
    if 0 ≤ k ∧ k < d.tiers.length then
      (match d.tiers[k.toNat]? with
       | none=>[]
       | some t=>if t.kind=0 then M8 d 0 k else (ofN d f t.parent).flatMap fun p=>M8 d p.id k)
    else []
def ofR (d:Dc) (k:Int):List Note:=G1 (befF d (k.toNat+1)) (N5 d k)
theorem ord_bef {d:Dc} (h:LightD d) {k:Nat} {t:Tier} {x y:Note} (f:Nat) (ht:d.tiers[k]?=some t) (hx:x∈d.notes) (hy:y∈d.notes) (hxk:x.tier=(k:Int)) (hyk:y.tier=(k:Int)) (hp:x.parent=y.parent):ordB x y=befF d (f+1) x y:=by
  rw [A3i ht hxk hp]
  obtain⟨px,tk,sx⟩:=O9 h hx hxk ht
  obtain⟨py,_,_⟩:=O9 h hy hyk ht
  unfold ordB
  rw [decide_eq_false (show ¬ x.parent<y.parent by omega),decide_eq_true hp,Bool.false_or,Bool.true_and]
  cases htm:G4 t.kind with
  | true=>
    have h3:t.kind≠3:=fun e=>by rw [e] at htm;cases htm
    have rx:=px.rank.2 h3
    have ry:=py.rank.2 h3
    rw [if_pos rfl,decide_eq_false (show ¬ x.rank<y.rank by omega),Bool.and_false,Bool.or_false]
  | false=>
    have ox:=(px.off htm).1
    have oy:=(py.off htm).1
    rw [if_neg (by simp),decide_eq_false (show ¬ x.frm<y.frm by omega),decide_eq_true (show x.frm=y.frm by omega),Bool.false_or,Bool.true_and]
theorem Strict.sub {α:Type} {lt:α→α→Bool} {l m:List α} (h:Strict lt l) (hs:∀ x∈m,x∈l):Strict lt m:=
  ⟨fun x hx y hy=>h.asymm x (hs x hx) y (hs y hy),fun x hx y hy z hz=>h.trans x (hs x hx) y (hs y hy) z (hs z hz),fun x hx y hy=>h.total x (hs x hx) y (hs y hy)⟩
theorem sibs_of {d:Dc} {k p:Int} {x:Note} (hx:x∈sibs d.notes k p):x∈N5 d k:=H0.2 ⟨(P3.1 hx).1,(P3.1 hx).2.1⟩
theorem A5h {d:Dc} {k:Nat} {t:Tier} (ht:d.tiers[k]?=some t):k<d.tiers.length:=(List.getElem?_eq_some_iff.1 ht).1
theorem B1t {d:Dc} (h:LightD d) {k:Nat} {t:Tier} (ht:d.tiers[k]?=some t) (p:Int):M8 d p (k:Int)=G1 (befF d (k+1)) (sibs d.notes (k:Int) p):=by
  unfold M8
  rw [if_pos ⟨by omega,by have:=A5h ht;omega⟩]
  refine A8t _ fun x hx y hy=>?_
  obtain⟨hx1,hx2,hx3⟩:=P3.1 hx
  obtain⟨hy1,hy2,hy3⟩:=P3.1 hy
  exact ord_bef h k ht hx1 hy1 hx2 hy2 (by omega)
theorem B7b {d:Dc} (h:LightD d) (k p:Int):(sibs d.notes k p).Nodup:=(T7 h).filter _
theorem B4q {d:Dc} (h:LightD d) {k:Nat} {t:Tier} (ht:d.tiers[k]?=some t) (p:Int):(M8 d p (k:Int)).Pairwise fun a b=>befF d (k+1) a b=true:=by
  rw [B1t h ht]
  exact S2 (B7b h _ _) ((A1z h k).sub fun x hx=>sibs_of hx)
theorem A2w {d:Dc} (h:LightD d) {k:Nat} {t:Tier} (ht:d.tiers[k]?=some t) {p:Int} {x:Note}:x∈M8 d p (k:Int)↔x∈d.notes∧x.tier=(k:Int)∧x.parent=p:=by
  rw [B1t h ht,(H3 _).mem_iff,P3]
theorem A6s {α:Type} {lt:α→α→Bool} {l L:List α} (hS:Strict lt L) (hl:∀ x∈l,x∈L) (h:l.Pairwise fun a b=>lt a b=true):l.Nodup:=by
  refine List.Pairwise.imp_of_mem (fun {a b} ha hb hab e=>?_) h
  subst e
  have:=hS.asymm a (hl a ha) a (hl a ha) hab
  rw [this] at hab;cases hab
theorem perm_of {α:Type} {l m:List α} (hl:l.Nodup) (hm:m.Nodup) (h:∀ x,x∈l↔x∈m):l.Perm m:=(List.perm_ext_iff_of_nodup hl hm).2 h
theorem C4w {d : Dc} (h : LightD d) : ∀ (k f : Nat) (t : Tier), d.tiers[k]? = some t → k < f → ofN d f (k : Int) = ofR d (k : Int) := by
  intro k
  induction k using Nat.strongRecOn with
  | _ k ih =>
    intro f t ht hf
    obtain⟨f,rfl⟩:∃ f',f=f'+1:=⟨f-1,by omega⟩
    have hkl:=A5h ht
    have tk:=h.tiers k t ht
    have hS:=A1z h k
    have hnd:(N5 d (k:Int)).Nodup:=(T7 h).filter _
    simp only [ofN,Int.toNat_natCast]
    rw [if_pos ⟨by omega,by omega⟩,ht]
    dsimp only
    unfold ofR
    rw [Int.toNat_natCast]
    by_cases h0:t.kind=0
    · rw [if_pos h0,B1t h ht]
      congr 1
      unfold sibs N5
      refine List.filter_congr fun n hn=>?_
      by_cases hk:n.tier=(k:Int)
      · simp [hk,(O9 h hn hk ht).1.root h0]
      · simp [hk]
    · rw [if_neg h0]
      have hr:=tk.par h0
      obtain⟨j,hj⟩:∃ j:Nat,t.parent=(j:Int):=⟨t.parent.toNat,by omega⟩
      have hjk:j<k:=by omega
      obtain⟨u,hu⟩:∃ u,d.tiers[j]?=some u:=⟨_,List.getElem?_eq_getElem (by omega)⟩
      rw [hj,ih j hjk f u hu (by omega)]
      have hSj:=A1z h j
      have hndj:(N5 d (j:Int)).Nodup:=(T7 h).filter _
      have hso:(ofR d (j:Int)).Pairwise fun a b=>befF d (j+1) a b=true:=by
        unfold ofR;rw [Int.toNat_natCast];exact S2 hndj hSj
      have hmo:∀ p,p∈ofR d (j:Int)↔p∈N5 d (j:Int):=fun p=>by unfold ofR;exact(H3 _).mem_iff
      have hmem:∀ x,x∈(ofR d (j:Int)).flatMap (fun p=>M8 d p.id (k:Int))↔x∈N5 d (k:Int):=by
        intro x
        rw [List.mem_flatMap]
        constructor
        · rintro⟨p,_,hx⟩
          obtain⟨h1,h2,_⟩:=(A2w h ht).1 hx
          exact H0.2 ⟨h1,h2⟩
        · intro hx
          obtain⟨h1,h2⟩:=H0.1 hx
          obtain⟨j',u',p,e1,_,_,_,mp,ip,tp⟩:=R1 h ht h1 h2 h0
          have hjj:j'=j:=by omega
          subst hjj
          exact⟨p,(hmo p).2 (H0.2 ⟨mp,tp⟩),(A2w h ht).2 ⟨h1,h2,ip.symm⟩⟩
      have hsort:((ofR d (j:Int)).flatMap fun p=>M8 d p.id (k:Int)).Pairwise fun a b=>befF d (k+1) a b=true:=by
        rw [List.pairwise_flatMap]
        refine⟨fun p _=>B4q h ht p.id,?_⟩
        refine List.Pairwise.imp_of_mem (fun {p q} hp hq hpq=>?_) hso
        intro x hx y hy
        obtain⟨hp1,hp2⟩:=H0.1 ((hmo p).1 hp)
        obtain⟨hq1,hq2⟩:=H0.1 ((hmo q).1 hq)
        obtain⟨x1,x2,x3⟩:=(A2w h ht).1 hx
        obtain⟨y1,y2,y3⟩:=(A2w h ht).1 hy
        have hne:p.id≠q.id:=fun e=>by
          have:=Y7 (J9 h) hp1 hq1 e
          subst this
          have:=hSj.asymm p ((hmo p).1 hp) p ((hmo p).1 hp) hpq
          rw [this] at hpq;cases hpq
        have gp:getF d.notes x.parent=some p:=by rw [x3];exact A2x (J9 h) hp1
        have gq:getF d.notes y.parent=some q:=by rw [y3];exact A2x (J9 h) hq1
        rw [A0u gp gq (by rw [x3,y3];exact hne),A7r h j k (j+1) hjk (by omega) p hp1 q hq1 hp2 hq2]
        exact hpq
      exact(B7y hnd hS (perm_of (A6s hS (fun x hx=>(hmem x).1 hx) hsort) hnd hmem) hsort).symm
end
section
open Go.RowKit Go.En
def Q4 (ns : List Note) : Nat → Int → List Note
  | 0,_=>[]
  | f+1,id=>match getF ns id with
    | none=>[]
    | some n=>n::Q4 ns f n.parent
theorem B9q {d:Dc} (h:LightD d) {n:Note} {k:Nat} (hn:n∈d.notes) (hk:n.tier=(k:Int)):getF d.notes n.parent=none∨∃ p j,getF d.notes n.parent=some p∧p∈d.notes∧p.id=n.parent∧p.tier=((j:Nat):Int)∧j<k:=by
  obtain⟨k',t,h1,ht,px,tk,_⟩:=W4 h hn
  have hkk:k'=k:=by omega
  subst hkk
  by_cases h0:t.kind=0
  · refine .inl ?_
    have hp:=px.root h0
    cases hg:getF d.notes n.parent with
    | none=>rfl
    | some p=>
      obtain⟨m1,m2⟩:=X0 hg
      obtain⟨i,hi⟩:=List.getElem?_of_mem m1
      have:=(h.notes i p hi).id
      omega
  · obtain⟨j,u,p,_,hj,_,gp,mp,ip,tp⟩:=R1 h ht hn h1 h0
    exact .inr ⟨p,j,gp,mp,ip,tp,hj⟩
theorem B8w {d:Dc} (h:LightD d):∀(k f g:Nat) (n:Note),n∈d.notes→n.tier=(k:Int)→k<f→k<g→Q4 d.notes f n.id=Q4 d.notes g n.id:=by
  intro k
  induction k using Nat.strongRecOn with
  | _ k ih =>
    intro f g n hn hk hf hg
    obtain⟨f,rfl⟩:∃ f',f=f'+1:=⟨f-1,by omega⟩
    obtain⟨g,rfl⟩:∃ g',g=g'+1:=⟨g-1,by omega⟩
    simp only [Q4,A2x (J9 h) hn]
    congr 1
    rcases B9q h hn hk with h0|⟨p,j,gp,mp,ip,tp,hj⟩
    · cases f <;> cases g <;> simp [Q4,h0]
    · rw [← ip]
      exact ih j hj f g p mp tp (by omega) (by omega)
theorem B1m {d:Dc} (h:LightD d) {n:Note} (hn:n∈d.notes):∃ k:Nat,n.tier=(k:Int)∧k<d.tiers.length:=by
  obtain⟨k,t,h1,ht,_⟩:=W4 h hn
  exact⟨k,h1,A5h ht⟩
theorem C2w {d:Dc} (h:LightD d) (id:Int) (f g:Nat) (hf:d.tiers.length≤f) (hg:d.tiers.length≤g):Q4 d.notes f id=Q4 d.notes g id:=by
  cases hgt:getF d.notes id with
  | none=>cases f <;> cases g <;> simp [Q4,hgt]
  | some n=>
    obtain⟨hn,hid⟩:=X0 hgt
    obtain⟨k,hk,hlt⟩:=B1m h hn
    rw [← hid]
    exact B8w h k f g n hn hk (by omega) (by omega)
def A3z (d:Dc) (id:Int):List Note:=Q4 d.notes (d.tiers.length+1) id
theorem B8v {d:Dc} {id:Int} (hg:getF d.notes id=none):A3z d id=[]:=by simp [A3z,Q4,hg]
theorem A1x {d:Dc} (h:LightD d) {n:Note} (hn:n∈d.notes):A3z d n.id=n::A3z d n.parent:=by
  show Q4 d.notes (d.tiers.length+1) n.id=_
  simp only [Q4,A2x (J9 h) hn]
  congr 1
  exact C2w h _ _ _ (Nat.le_refl _) (by omega)
def K7 (d:Dc) (k:Int):Bool:=match d.tiers[k.toNat]? with
  | some t=>decide (0≤k)&&G4 t.kind
  | none=>false
def N1 (d:Dc) (id:Int):Option Note:=(A3z d id).find? fun n=>K7 d n.tier
end
section
open Go.RowKit Go.En
theorem B9b {d:Dc} {k:Nat} {t:Tier} (ht:d.tiers[k]?=some t):K7 d (k:Int)=G4 t.kind:=by
  unfold K7
  rw [Int.toNat_natCast,ht]
  simp
theorem C1h {d:Dc} (h:LightD d) {n:Note} (hn:n∈d.notes) (ha:K7 d n.tier=true):N1 d n.id=some n:=by
  unfold N1
  rw [A1x h hn]
  exact List.find?_cons_of_pos (p:=fun n:Note=>K7 d n.tier) ha
theorem C1i {d:Dc} (h:LightD d) {n:Note} (hn:n∈d.notes) (ha:K7 d n.tier=false):N1 d n.id=N1 d n.parent:=by
  unfold N1
  rw [A1x h hn]
  exact List.find?_cons_of_neg (p:=fun n:Note=>K7 d n.tier) (by simp [ha])
theorem B6e {d:Dc} {id:Int} (hg:getF d.notes id=none):N1 d id=none:=by unfold N1;rw [B8v hg];rfl
def behind (l:List Note) (id:Int):Option Note:=match l with
  | a::b::r=>if a.id=id then some b else behind (b::r) id
  | _=>none
end
section
open Go.RowKit Go.En
end
section
open Go.RowKit Go.En
def A2n (d:Dc) (id:Int):Int × Int:=match N1 d id with|some n=>(n.frm,n.til)|none=>(0,0)
def hitB (d:Dc) (ms:Int) (n:Note):Bool:=decide ((A2n d n.id).1≤ms)&&decide (ms<(A2n d n.id).2)
end
section
open Go.RowKit Go.En Go.Pv
structure LangOK (g:Lg):Prop where
  nsegs:g.segs.length≤8
  nunits:g.units.length≤10
  units:∀ u∈g.units,1≤u.graph.length∧u.graph.length≤32∧u.segs.length≤3
  nrules:g.rules.length≤2
  rules:∀ r∈g.rules,r.to.length=r.frm.length∧r.frm.length≤8∧r.frm.Nodup∧r.left.length≤2∧r.right.length≤2
  net:NetOK g.net
  states:g.net.states≤3
  nsteps:g.net.steps.length≤6
  nfinal:g.net.final.length≤3
  nlex:g.lex.length≤5
  ids:(g.lex.map (·.id)).Nodup
  lex:∀ e∈g.lex,1≤e.id∧1≤e.cls∧e.cls≤20∧e.form.length≤3∧e.alts.length≤1∧(∀ f∈D4 e,f.length≤3∧∀ x∈f,1≤x∧x≤8)∧e.refs.length≤12∧e.senses.length≤5∧e.links.length≤12
def shrB (rules:List Rul):Bool:=rules.any fun r=>r.to.contains 0
def lxOf (g:Lg) (w:List Int):Lx:=⟨g.net,g.lex,Z5 D1 g.segs g.rules,if shrB g.rules then 24 else w.length⟩
def A1f (g:Lg) (w:List Int) (id:Int):Bool:=(decide (w.length≠0)&&decide (w.length≤24))&&belB (lxOf g w) w id 4 [] (fun q=>q==0) []
def docF (docs:List Dc) (rec:Int):Option Dc:=docs.find? fun d=>decide (d.rid=rec)
structure LightDs (docs:List Dc):Prop where
  few:docs.length≤3
  each:∀ d∈docs,LightD d
  up:∀(i:Nat) (a b:Dc),docs[i]?=some a→docs[i+1]?=some b→a.rid<b.rid
def A3n (docs:List Dc) (r:Rf):Int × Int:=match docF docs r.rcd with|none=>(0,0)|some d=>A2n d r.note
def H6 (docs:List Dc) (r:Rf):Bool:=match docF docs r.rcd with|none=>false|some d=>(N1 d r.note).isSome
end
end Go.Proofs.YtjicdgejhkgpgaaGreatDoor