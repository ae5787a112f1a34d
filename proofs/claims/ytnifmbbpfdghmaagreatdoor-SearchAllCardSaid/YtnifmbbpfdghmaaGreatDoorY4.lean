/-
  Sorting by insertion, plainly: what is sorted is one list. Documents, plainly: the notes of a tier stand in one order. Documents, plainly: the program's Of and Kids are the reference's order. Documents, plainly: chains, what lies under a note, where a note is. Documents, plainly: where a note is, the next note, the order of all. Documents, plainly: Next, Order. Documents, plainly: what lies at a time, what is within. Documents, plainly: what lies below a note is found once. Documents, plainly: the chapter's example.
-/
import Derived.Test.YtnifmbbpfdghmaaGreatDoorDa
import Derived.KernelRfl
set_option linter.all false
namespace Go.Proofs.YtnifmbbpfdghmaaGreatDoor
open Go.RowKit Go.En
def insR {α:Type} (lt:α→α→Bool) (l:List α) (x:α):List α:=
  match l with
  | []=>[x]
  | y::r=>if (y::r).all (fun z=>lt x z) then x::y::r else y::insR lt r x
def insSort {α:Type} (lt:α→α→Bool) (l:List α):List α:=l.foldl (insR lt) []
section
variable {α : Type} {lt : α → α → Bool}
theorem insR_perm:∀(l:List α) (x:α),(insR lt l x).Perm (x::l)
  | [],x=>List.Perm.refl _
  | y::r,x=>by
    unfold insR
    split
    · exact List.Perm.refl _
    · exact((insR_perm r x).cons y).trans (List.Perm.swap x y r)
theorem insSort_go:∀(l acc:List α),(l.foldl (insR lt) acc).Perm (acc++l)
  | [],acc=>by simp
  | x::l,acc=>by
    rw [List.foldl_cons]
    refine(insSort_go l _).trans ?_
    refine((insR_perm acc x).append_right l).trans ?_
    rw [List.cons_append]
    exact List.perm_middle.symm
theorem insSort_perm (l:List α):(insSort lt l).Perm l:=by simpa [insSort] using insSort_go (lt:=lt) l []
theorem insR_at {l p s:List α} {x:α} (hl:l=p++s) (hs:∀ z∈s,lt x z=true) (hp:∀ q z,p=q++[z]→lt x z=false):insR lt l x=p++x::s:=by
  subst hl
  induction p with
  | nil=>
    cases s with
    | nil=>rfl
    | cons y r=>
      simp only [List.nil_append]
      unfold insR
      rw [if_pos (List.all_eq_true.2 hs)]
  | cons y p ih=>
    rw [List.cons_append]
    unfold insR
    rw [if_neg,ih (fun q z h=>hp (y::q) z (by rw [h,List.cons_append])),List.cons_append]
    intro hall
    obtain⟨q,z,hqz⟩:∃ q z,y::p=q++[z]:=⟨(y::p).dropLast,(y::p).getLast (by simp),(List.dropLast_concat_getLast (by simp)).symm⟩
    have h1:=hp q z hqz
    have h2:=List.all_eq_true.1 hall z (by rw [← List.cons_append,hqz];simp)
    rw [h1] at h2;cases h2
theorem insR_congr {lt':α→α→Bool}:∀(l:List α) (x:α),(∀ y∈l,lt x y=lt' x y)→insR lt l x=insR lt' l x
  | [],_,_=>rfl
  | y :: r, x, h => by
    have h1:(y::r).all (fun z=>lt x z)=(y::r).all (fun z=>lt' x z):=by
      rw [Bool.eq_iff_iff,List.all_eq_true,List.all_eq_true]
      exact⟨fun k z hz=>by rw [← h z hz];exact k z hz,fun k z hz=>by rw [h z hz];exact k z hz⟩
    unfold insR
    rw [h1,insR_congr r x (fun z hz=>h z (List.mem_cons_of_mem _ hz))]
theorem insSort_congr {lt':α→α→Bool} (l:List α) (h:∀ x∈l,∀ y∈l,lt x y=lt' x y):insSort lt l=insSort lt' l:=by
  have go:∀(r acc:List α),(∀ x∈r,x∈l)→(∀ x∈acc,x∈l)→r.foldl (insR lt) acc=r.foldl (insR lt') acc:=by
    intro r
    induction r with
    | nil=>intro acc _ _;rfl
    | cons x r ih=>
      intro acc h1 h2
      rw [List.foldl_cons,List.foldl_cons,insR_congr acc x (fun y hy=>h x (h1 x (List.mem_cons_self ..)) y (h2 y hy))]
      refine ih _ (fun y hy=>h1 y (List.mem_cons_of_mem _ hy)) (fun y hy=>?_)
      rcases List.mem_cons.1 ((insR_perm acc x).mem_iff.1 hy) with rfl|hy
      · exact h1 _ (List.mem_cons_self ..)
      · exact h2 y hy
  exact go l [] (fun _ h=>h) (fun _ h=>by simp at h)
structure Strict (lt:α→α→Bool) (l:List α):Prop where
  asymm:∀ x∈l,∀ y∈l,lt x y=true→lt y x=false
  trans:∀ x∈l,∀ y∈l,∀ z∈l,lt x y=true→lt y z=true→lt x z=true
  total:∀ x∈l,∀ y∈l,x≠y→lt x y=true∨lt y x=true
theorem insR_sorted {l : List α} {x : α} {L : List α} (hS : Strict lt L) (hx : x ∈ L) (hl : ∀ y ∈ l, y ∈ L) (hxl : x ∉ l) (hs : l.Pairwise fun a b => lt a b = true) : (insR lt l x).Pairwise fun a b => lt a b = true := by
  induction l with
  | nil=>simp [insR]
  | cons y r ih=>
    unfold insR
    split
    · rename_i hall
      exact List.Pairwise.cons (List.all_eq_true.1 hall) hs
    · rename_i hall
      have hyx:lt y x=true:=by
        rcases hS.total x hx y (hl y (List.mem_cons_self ..)) (fun e=>hxl (by rw [e];exact List.mem_cons_self ..)) with h|h
        · exfalso
          refine hall (List.all_eq_true.2 fun z hz=>?_)
          rcases List.mem_cons.1 hz with rfl|hz
          · exact h
          · exact hS.trans x hx y (hl y (List.mem_cons_self ..)) z (hl z (List.mem_cons_of_mem _ hz)) h ((List.pairwise_cons.1 hs).1 z hz)
        · exact h
      refine List.Pairwise.cons (fun z hz=>?_) (ih (fun z hz=>hl z (List.mem_cons_of_mem _ hz)) (fun h=>hxl (List.mem_cons_of_mem _ h)) (List.pairwise_cons.1 hs).2)
      rcases List.mem_cons.1 ((insR_perm r x).mem_iff.1 hz) with rfl|hz
      · exact hyx
      · exact(List.pairwise_cons.1 hs).1 z hz
theorem insSort_sorted {l:List α} (hn:l.Nodup) (hS:Strict lt l):(insSort lt l).Pairwise fun a b=>lt a b=true:=by
  have go:∀(r acc:List α),(acc++r).Nodup→(∀ x∈acc++r,x∈l)→acc.Pairwise (fun a b=>lt a b=true)→(r.foldl (insR lt) acc).Pairwise fun a b=>lt a b=true:=by
    intro r
    induction r with
    | nil=>intro acc _ _ h;exact h
    | cons x r ih=>
      intro acc h1 h2 h3
      rw [List.foldl_cons]
      have hp:(insR lt acc x++r).Perm (acc++x::r):=((insR_perm acc x).append_right r).trans List.perm_middle.symm
      refine ih _ (hp.nodup_iff.2 h1) (fun y hy=>h2 y (hp.mem_iff.1 hy)) ?_
      refine insR_sorted hS (h2 x (by simp)) (fun y hy=>h2 y (by simp [hy])) (fun hx=>?_) h3
      rw [List.nodup_append] at h1
      exact h1.2.2 x hx x (by simp) rfl
  exact go l [] (by simpa using hn) (by simp) List.Pairwise.nil
theorem sorted_one:∀ {l m:List α},l.Perm m→(∀ x∈l,∀ y∈l,lt x y=true→lt y x=false)→l.Pairwise (fun a b=>lt a b=true)→m.Pairwise (fun a b=>lt a b=true)→l=m
  | [],m,hp,_,_,_=>hp.nil_eq
  | x::l,[],hp,_,_,_=>hp.symm.nil_eq.symm
  | x :: l, y :: m, hp, ha, h1, h2 => by
    have hxy:x=y:=by
      have hy:y∈x::l:=hp.mem_iff.2 (List.mem_cons_self ..)
      have hx:x∈y::m:=hp.mem_iff.1 (List.mem_cons_self ..)
      rcases List.mem_cons.1 hy with h|hy'
      · exact h.symm
      rcases List.mem_cons.1 hx with h|hx'
      · exact h
      have e1:=(List.pairwise_cons.1 h1).1 y hy'
      have e2:=(List.pairwise_cons.1 h2).1 x hx'
      rw [ha x (List.mem_cons_self ..) y hy e1] at e2;cases e2
    subst hxy
    rw [sorted_one (List.Perm.cons_inv hp) (fun a h b k=>ha a (List.mem_cons_of_mem _ h) b (List.mem_cons_of_mem _ k)) (List.pairwise_cons.1 h1).2 (List.pairwise_cons.1 h2).2]
theorem insSort_eq {l m:List α} (hn:l.Nodup) (hS:Strict lt l) (hp:m.Perm l) (hm:m.Pairwise fun a b=>lt a b=true):insSort lt l=m:=
  sorted_one ((insSort_perm l).trans hp.symm) (fun x hx y hy=>hS.asymm x ((insSort_perm l).mem_iff.1 hx) y ((insSort_perm l).mem_iff.1 hy)) (insSort_sorted hn hS) hm
end
end Go.Proofs.YtnifmbbpfdghmaaGreatDoor
namespace Go.Proofs.YtnifmbbpfdghmaaGreatDoor
open Go.RowKit Go.En
theorem get_some {ns:List Note} {id:Int} {n:Note} (h:getF ns id=some n):n∈ns∧n.id=id:=by
  unfold getF at h
  exact⟨List.mem_of_find?_eq_some h,by simpa using List.find?_some h⟩
theorem ids_inj {ns:List Note} (h:ns.Pairwise fun a b=>a.id<b.id) {a b:Note} (ha:a∈ns) (hb:b∈ns) (e:a.id=b.id):a=b:=by
  obtain⟨i,hi⟩:=List.getElem?_of_mem ha
  obtain⟨j,hj⟩:=List.getElem?_of_mem hb
  obtain⟨hi1,rfl⟩:=List.getElem?_eq_some_iff.1 hi
  obtain⟨hj1,rfl⟩:=List.getElem?_eq_some_iff.1 hj
  have hp:=List.pairwise_iff_getElem.1 h
  rcases Nat.lt_trichotomy i j with hlt|heq|hlt
  · have:=hp i j hi1 hj1 hlt;omega
  · subst heq;rfl
  · have:=hp j i hj1 hi1 hlt;omega
theorem get_mem {ns:List Note} (h:ns.Pairwise fun a b=>a.id<b.id) {n:Note} (hn:n∈ns):getF ns n.id=some n:=by
  cases hg:getF ns n.id with
  | none=>
    unfold getF at hg
    have:=List.find?_eq_none.1 hg n hn
    simp at this
  | some m=>
    obtain⟨h1,h2⟩:=get_some hg
    rw [ids_inj h h1 hn h2]
theorem ids_rise {d : Dc} (h : LightD d) : d.notes.Pairwise fun a b => a.id < b.id := by
  have step:∀(j i:Nat) (hj:j<d.notes.length) (hi:i<d.notes.length),i<j→d.notes[i].id<d.notes[j].id:=by
    intro j
    induction j with
    | zero=>intro i _ _ h;omega
    | succ j ih=>
      intro i hj hi hij
      have h1:=(h.notes (j+1) _ (List.getElem?_eq_getElem hj)).inc d.notes[j] (by omega) (by simp [List.getElem?_eq_getElem (show j<d.notes.length by omega)])
      by_cases he:i=j
      · subst he;exact h1
      · have:=ih i (by omega) hi (by omega)
        omega
  exact List.pairwise_iff_getElem.2 fun i j hi hj hij=>step j i hj hi hij
theorem notes_nodup {d:Dc} (h:LightD d):d.notes.Nodup:=(ids_rise h).imp fun {a b} hab e=>by subst e;omega
theorem note_tier {d:Dc} (h:LightD d) {n:Note} (hn:n∈d.notes):∃(k:Nat) (t:Tier),n.tier=(k:Int)∧d.tiers[k]?=some t∧PlacedOK d n t∧TierOK d.tiers k t∧SibsOK t.kind (sibs d.notes (k:Int) n.parent):=by
  obtain⟨i,hi⟩:=List.getElem?_of_mem hn
  obtain⟨t,k,h1,h2,h3⟩:=(h.notes i n hi).placed
  exact⟨k,t,h1,h2,h3,h.tiers k t h2,h.sib k t h2 n hn h1⟩
theorem note_at {d:Dc} (h:LightD d) {n:Note} {k:Nat} {t:Tier} (hn:n∈d.notes) (hk:n.tier=(k:Int)) (ht:d.tiers[k]?=some t):PlacedOK d n t∧TierOK d.tiers k t∧SibsOK t.kind (sibs d.notes (k:Int) n.parent):=by
  obtain⟨k',t',h1,h2,h3,h4,h5⟩:=note_tier h hn
  have hkk:k'=k:=by omega
  subst hkk
  rw [ht] at h2;cases h2
  exact⟨h3,h4,h5⟩
def befF (d : Dc) : Nat → Note → Note → Bool
  | 0,_,_=>false
  | f + 1, a, b =>
    if a.parent ≠ b.parent then
      (match getF d.notes a.parent,getF d.notes b.parent with
       | some p,some q=>befF d f p q
       | _,_=>false)
    else if (match d.tiers[a.tier.toNat]? with|some t=>timedB t.kind|none=>false) then decide (a.frm<b.frm) else decide (a.rank<b.rank)
def ofTier (d:Dc) (k:Int):List Note:=d.notes.filter fun n=>decide (n.tier=k)
theorem of_mem {d:Dc} {k:Int} {n:Note}:n∈ofTier d k↔n∈d.notes∧n.tier=k:=by simp [ofTier]
theorem sibs_mem {ns:List Note} {k p:Int} {n:Note}:n∈sibs ns k p↔n∈ns∧n.tier=k∧n.parent=p:=by simp [sibs]
theorem cover {α : Type} (f : α → Int) : ∀ (m : Nat) (l : List α), (∀ n : Nat, n < m → ∃ x ∈ l, f x = (n : Int)) → m ≤ l.length
  | 0,_,_=>Nat.zero_le _
  | m + 1, l, h => by
    obtain⟨x,hx,hf⟩:=h m (by omega)
    obtain⟨s,t,rfl⟩:=List.append_of_mem hx
    have:=cover f m (s++t) fun n hn=>by
      obtain⟨y,hy,hfy⟩:=h n (by omega)
      refine⟨y,?_,hfy⟩
      rcases List.mem_append.1 hy with hy|hy
      · exact List.mem_append_left _ hy
      · rcases List.mem_cons.1 hy with rfl|hy
        · omega
        · exact List.mem_append_right _ hy
    simp only [List.length_append,List.length_cons] at this ⊢
    omega
theorem ranked_inj {l:List Note} (h:Ranked l) {x y:Note} (hx:x∈l) (hy:y∈l) (e:x.rank=y.rank):x=y:=by
  apply Classical.byContradiction
  intro hne
  obtain⟨s,t,rfl⟩:=List.append_of_mem hy
  have hx2:x∈s++t:=by
    rcases List.mem_append.1 hx with hx|hx
    · exact List.mem_append_left _ hx
    · rcases List.mem_cons.1 hx with hx|hx
      · exact absurd hx hne
      · exact List.mem_append_right _ hx
  have:=cover (fun z:Note=>z.rank) (s++y::t).length (s++t) fun n hn=>by
    obtain⟨z,hz,hr⟩:=h n hn
    rcases List.mem_append.1 hz with hz|hz
    · exact⟨z,List.mem_append_left _ hz,hr⟩
    · rcases List.mem_cons.1 hz with rfl|hz
      · exact⟨x,hx2,by rw [e];exact hr⟩
      · exact⟨z,List.mem_append_right _ hz,hr⟩
  simp only [List.length_append,List.length_cons] at this
  omega
theorem sib_keys {d:Dc} (h:LightD d) {k:Nat} {t:Tier} {x y:Note} (ht:d.tiers[k]?=some t) (hx:x∈d.notes) (hy:y∈d.notes) (hxk:x.tier=(k:Int)) (hyk:y.tier=(k:Int)) (hp:x.parent=y.parent) (hne:x≠y) :
    (timedB t.kind=true→x.frm≠y.frm)∧(timedB t.kind=false→x.rank≠y.rank):=by
  obtain⟨px,tk,sx⟩:=note_at h hx hxk ht
  obtain⟨py,_,_⟩:=note_at h hy hyk ht
  have mx:x∈sibs d.notes (k:Int) x.parent:=sibs_mem.2 ⟨hx,hxk,rfl⟩
  have my:y∈sibs d.notes (k:Int) x.parent:=sibs_mem.2 ⟨hy,hyk,hp.symm⟩
  refine⟨fun htm e=>?_,fun htm e=>?_⟩
  · have rx:=px.on htm
    have ry:=py.on htm
    unfold rightB at rx ry
    simp only [Bool.and_eq_true,decide_eq_true_eq] at rx ry
    obtain⟨i,hi⟩:=List.getElem?_of_mem mx
    obtain⟨j,hj⟩:=List.getElem?_of_mem my
    rcases Nat.lt_trichotomy i j with hlt|heq|hlt
    · exact sx.apart htm j i y x hlt hj hi ⟨by omega,by omega⟩
    · subst heq;rw [hi] at hj;cases hj;exact hne rfl
    · exact sx.apart htm i j x y hlt hi hj ⟨by omega,by omega⟩
  · have hk34:t.kind=3∨t.kind=4:=by
      have:=tk.kind
      have h0:¬ (t.kind=0∨t.kind=1∨t.kind=2):=fun hh=>by rw [timed_iff.2 hh] at htm;cases htm
      omega
    rcases hk34 with h3|h4
    · exact hne (ranked_inj (sx.series h3) mx my e)
    · have hl:=sx.label h4
      obtain⟨i,hi⟩:=List.getElem?_of_mem mx
      obtain⟨j,hj⟩:=List.getElem?_of_mem my
      have h1:=(List.getElem?_eq_some_iff.1 hi).1
      have h2:=(List.getElem?_eq_some_iff.1 hj).1
      have:i=j:=by omega
      subst this
      rw [hi] at hj;cases hj;exact hne rfl
theorem bef_same {d:Dc} {k f:Nat} {t:Tier} {x y:Note} (ht:d.tiers[k]?=some t) (hxk:x.tier=(k:Int)) (hp:x.parent=y.parent):befF d (f+1) x y=if timedB t.kind then decide (x.frm<y.frm) else decide (x.rank<y.rank):=by
  simp only [befF]
  rw [if_neg (by simpa using hp),hxk,Int.toNat_natCast,ht]
theorem bef_diff {d:Dc} {f:Nat} {x y p q:Note} (hp:getF d.notes x.parent=some p) (hq:getF d.notes y.parent=some q) (hne:x.parent≠y.parent):befF d (f+1) x y=befF d f p q:=by
  simp only [befF]
  rw [if_pos hne,hp,hq]
theorem parent_of {d:Dc} (h:LightD d) {k:Nat} {t:Tier} {x:Note} (ht:d.tiers[k]?=some t) (hx:x∈d.notes) (hxk:x.tier=(k:Int)) (h0:t.kind≠0) :
    ∃(j:Nat) (u:Tier) (p:Note),t.parent=(j:Int)∧j<k∧d.tiers[j]?=some u∧getF d.notes x.parent=some p∧p∈d.notes∧p.id=x.parent∧p.tier=(j:Int):=by
  obtain⟨px,tk,_⟩:=note_at h hx hxk ht
  obtain⟨p,hp,hpt⟩:=px.par h0
  have hr:=tk.par h0
  obtain⟨h1,h2⟩:=get_some hp
  have hk:=(List.getElem?_eq_some_iff.1 ht).1
  exact⟨t.parent.toNat,d.tiers[t.parent.toNat]'(by omega),p,by omega,by omega,List.getElem?_eq_getElem (by omega),hp,h1,h2,by omega⟩
theorem bef_fuel {d:Dc} (h:LightD d):∀(k f g:Nat),k<f→k<g→∀ x∈d.notes,∀ y∈d.notes,x.tier=(k:Int)→y.tier=(k:Int)→befF d f x y=befF d g x y:=by
  intro k
  induction k using Nat.strongRecOn with
  | _ k ih =>
    intro f g hf hg x hx y hy hxk hyk
    obtain⟨f,rfl⟩:∃ f',f=f'+1:=⟨f-1,by omega⟩
    obtain⟨g,rfl⟩:∃ g',g=g'+1:=⟨g-1,by omega⟩
    obtain⟨k',t,h1,ht,_⟩:=note_tier h hx
    have hkk:k'=k:=by omega
    subst hkk
    by_cases hp:x.parent=y.parent
    · rw [bef_same ht hxk hp,bef_same ht hxk hp]
    · have h0:t.kind≠0:=fun h0=>hp (by rw [(note_at h hx hxk ht).1.root h0,(note_at h hy hyk ht).1.root h0])
      obtain⟨j,u,p,e1,hj,_,gp,mp,_,tp⟩:=parent_of h ht hx hxk h0
      obtain⟨j',u',q,e2,_,_,gq,mq,_,tq⟩:=parent_of h ht hy hyk h0
      have hjj:j'=j:=by omega
      subst hjj
      rw [bef_diff gp gq hp,bef_diff gp gq hp]
      exact ih j' hj f g (by omega) (by omega) p mp q mq tp tq
theorem bef_strict {d : Dc} (h : LightD d) : ∀ k : Nat, Strict (befF d (k + 1)) (ofTier d k) := by
  intro k
  induction k using Nat.strongRecOn with
  | _ k ih =>
    have key:∀ x∈ofTier d k,∀ y∈ofTier d k,(x.parent=y.parent∧∃ t,d.tiers[k]?=some t∧∀ z w:Note,z.tier=(k:Int)→z.parent=w.parent→befF d (k+1) z w=if timedB t.kind then decide (z.frm<w.frm) else decide (z.rank<w.rank))∨
        (x.parent≠y.parent∧∃(j:Nat) (p q:Note),j<k∧getF d.notes x.parent=some p∧getF d.notes y.parent=some q∧p∈ofTier d j∧q∈ofTier d j∧p≠q∧befF d (k+1) x y=befF d (j+1) p q∧befF d (k+1) y x=befF d (j+1) q p):=by
      intro x hx y hy
      obtain⟨hx1,hxk⟩:=of_mem.1 hx
      obtain⟨hy1,hyk⟩:=of_mem.1 hy
      obtain⟨k',t,h1,ht,_⟩:=note_tier h hx1
      have hkk:k'=k:=by omega
      subst hkk
      by_cases hp:x.parent=y.parent
      · exact .inl ⟨hp,t,ht,fun z w hz hzw=>bef_same ht hz hzw⟩
      · have h0:t.kind≠0:=fun h0=>hp (by rw [(note_at h hx1 hxk ht).1.root h0,(note_at h hy1 hyk ht).1.root h0])
        obtain⟨j,u,p,e1,hj,_,gp,mp,ip,tp⟩:=parent_of h ht hx1 hxk h0
        obtain⟨j',u',q,e2,_,_,gq,mq,iq,tq⟩:=parent_of h ht hy1 hyk h0
        have hjj:j'=j:=by omega
        subst hjj
        refine .inr ⟨hp,j',p,q,hj,gp,gq,of_mem.2 ⟨mp,tp⟩,of_mem.2 ⟨mq,tq⟩,fun e=>hp (by rw [← ip,← iq,e]),?_,?_⟩
        · rw [bef_diff gp gq hp]
          exact bef_fuel h j' k' (j'+1) hj (by omega) p mp q mq tp tq
        · rw [bef_diff gq gp (fun e=>hp e.symm)]
          exact bef_fuel h j' k' (j'+1) hj (by omega) q mq p mp tq tp
    refine⟨fun x hx y hy hxy=>?_,fun x hx y hy z hz hxy hyz=>?_,fun x hx y hy hne=>?_⟩
    · rcases key x hx y hy with⟨hp,t,ht,hb⟩|⟨hp,j,p,q,hj,_,_,mp,mq,_,e1,e2⟩
      · rw [hb x y (of_mem.1 hx).2 hp] at hxy
        rw [hb y x (of_mem.1 hy).2 hp.symm]
        split at hxy
        · rename_i htm
          rw [if_pos htm]
          simp only [decide_eq_true_eq] at hxy
          simp;omega
        · rename_i htm
          rw [if_neg htm]
          simp only [decide_eq_true_eq] at hxy
          simp;omega
      · rw [e1] at hxy
        rw [e2]
        exact(ih j hj).asymm p mp q mq hxy
    · rcases key x hx y hy with⟨hp,t,ht,hb⟩|⟨hp,j,p,q,hj,gp,gq,mp,mq,hpq,e1,e2⟩
      · rcases key y hy z hz with⟨hp2,t2,ht2,hb2⟩|⟨hp2,j2,p2,q2,hj2,gp2,gq2,mp2,mq2,hpq2,e12,e22⟩
        · rw [hb x y (of_mem.1 hx).2 hp] at hxy
          rw [hb y z (of_mem.1 hy).2 hp2] at hyz
          rw [hb x z (of_mem.1 hx).2 (hp.trans hp2)]
          split at hxy
          · rename_i htm
            rw [if_pos htm] at hyz ⊢
            simp only [decide_eq_true_eq] at hxy hyz ⊢
            omega
          · rename_i htm
            rw [if_neg htm] at hyz ⊢
            simp only [decide_eq_true_eq] at hxy hyz ⊢
            omega
        · rcases key x hx z hz with⟨hp3,_⟩|⟨hp3,j3,p3,q3,hj3,gp3,gq3,mp3,mq3,hpq3,e13,e23⟩
          · exact absurd (hp.symm.trans hp3) hp2
          · rw [hp,gp2] at gp3;cases gp3
            rw [gq2] at gq3;cases gq3
            have hjj:j3=j2:=by have:=(of_mem.1 mp2).2;have:=(of_mem.1 mp3).2;omega
            subst hjj
            rw [e13,← e12];exact hyz
      · rcases key y hy z hz with⟨hp2,t2,ht2,hb2⟩|⟨hp2,j2,p2,q2,hj2,gp2,gq2,mp2,mq2,hpq2,e12,e22⟩
        · rcases key x hx z hz with⟨hp3,_⟩|⟨hp3,j3,p3,q3,hj3,gp3,gq3,mp3,mq3,hpq3,e13,e23⟩
          · exact absurd (hp3.trans hp2.symm) hp
          · rw [gp] at gp3;cases gp3
            rw [← hp2,gq] at gq3;cases gq3
            have hjj:j3=j:=by have:=(of_mem.1 mp).2;have:=(of_mem.1 mp3).2;omega
            subst hjj
            rw [e13,← e1];exact hxy
        · rw [gq] at gp2;cases gp2
          have hjj:j2=j:=by have:=(of_mem.1 mq).2;have:=(of_mem.1 mp2).2;omega
          subst hjj
          rw [e1] at hxy
          rw [e12] at hyz
          rcases key x hx z hz with⟨hp3,_⟩|⟨hp3,j3,p3,q3,hj3,gp3,gq3,mp3,mq3,hpq3,e13,e23⟩
          · exfalso
            rw [hp3,gq2] at gp;cases gp
            have:=(ih j2 hj).asymm p mp q mq hxy
            rw [this] at hyz;cases hyz
          · rw [gp] at gp3;cases gp3
            rw [gq2] at gq3;cases gq3
            have hjj:j3=j2:=by have:=(of_mem.1 mp).2;have:=(of_mem.1 mp3).2;omega
            subst hjj
            rw [e13]
            exact(ih j3 hj).trans p mp q mq q2 mq2 hxy hyz
    · rcases key x hx y hy with⟨hp,t,ht,hb⟩|⟨hp,j,p,q,hj,_,_,mp,mq,hpq,e1,e2⟩
      · obtain⟨hx1,hxk⟩:=of_mem.1 hx
        obtain⟨hy1,hyk⟩:=of_mem.1 hy
        have hs:=sib_keys h ht hx1 hy1 hxk hyk hp hne
        rw [hb x y hxk hp,hb y x hyk hp.symm]
        cases htm:timedB t.kind with
        | true=>
          have:=hs.1 htm
          simp;omega
        | false=>
          have:=hs.2 htm
          simp;omega
      · rw [e1,e2]
        exact(ih j hj).total p mp q mq hpq
end Go.Proofs.YtnifmbbpfdghmaaGreatDoor
namespace Go.Proofs.YtnifmbbpfdghmaaGreatDoor
open Go.RowKit Go.En
def ordB (a b:Note):Bool:=decide (a.parent<b.parent)||(decide (a.parent=b.parent)&&(decide (a.frm<b.frm)||(decide (a.frm=b.frm)&&decide (a.rank<b.rank))))
def kidsN (d:Dc) (id k:Int):List Note:=if 0≤k∧k<d.tiers.length then insSort ordB (sibs d.notes k id) else []
def ofR (d:Dc) (k:Int):List Note:=insSort (befF d (k.toNat+1)) (ofTier d k)
theorem ord_bef {d:Dc} (h:LightD d) {k:Nat} {t:Tier} {x y:Note} (f:Nat) (ht:d.tiers[k]?=some t) (hx:x∈d.notes) (hy:y∈d.notes) (hxk:x.tier=(k:Int)) (hyk:y.tier=(k:Int)) (hp:x.parent=y.parent):ordB x y=befF d (f+1) x y:=by
  rw [bef_same ht hxk hp]
  obtain⟨px,tk,sx⟩:=note_at h hx hxk ht
  obtain⟨py,_,_⟩:=note_at h hy hyk ht
  unfold ordB
  rw [decide_eq_false (show ¬ x.parent<y.parent by omega),decide_eq_true hp,Bool.false_or,Bool.true_and]
  cases htm:timedB t.kind with
  | true=>
    have h3:t.kind≠3:=fun e=>by rw [e] at htm;cases htm
    have rx:=px.rank.2 h3
    have ry:=py.rank.2 h3
    rw [if_pos rfl,decide_eq_false (show ¬ x.rank<y.rank by omega),Bool.and_false,Bool.or_false]
  | false=>
    have ox:=(px.off htm).1
    have oy:=(py.off htm).1
    rw [if_neg (by simp),decide_eq_false (show ¬ x.frm<y.frm by omega),decide_eq_true (show x.frm=y.frm by omega),Bool.false_or,Bool.true_and]
theorem Strict.sub {α:Type} {lt:α→α→Bool} {l m:List α} (h:Strict lt l) (hs:∀ x∈m,x∈l):Strict lt m:=
  ⟨fun x hx y hy=>h.asymm x (hs x hx) y (hs y hy),fun x hx y hy z hz=>h.trans x (hs x hx) y (hs y hy) z (hs z hz),fun x hx y hy=>h.total x (hs x hx) y (hs y hy)⟩
theorem sibs_of {d:Dc} {k p:Int} {x:Note} (hx:x∈sibs d.notes k p):x∈ofTier d k:=of_mem.2 ⟨(sibs_mem.1 hx).1,(sibs_mem.1 hx).2.1⟩
theorem tier_lt {d:Dc} {k:Nat} {t:Tier} (ht:d.tiers[k]?=some t):k<d.tiers.length:=(List.getElem?_eq_some_iff.1 ht).1
theorem kids_eq {d:Dc} (h:LightD d) {k:Nat} {t:Tier} (ht:d.tiers[k]?=some t) (p:Int):kidsN d p (k:Int)=insSort (befF d (k+1)) (sibs d.notes (k:Int) p):=by
  unfold kidsN
  rw [if_pos ⟨by omega,by have:=tier_lt ht;omega⟩]
  refine insSort_congr _ fun x hx y hy=>?_
  obtain⟨hx1,hx2,hx3⟩:=sibs_mem.1 hx
  obtain⟨hy1,hy2,hy3⟩:=sibs_mem.1 hy
  exact ord_bef h k ht hx1 hy1 hx2 hy2 (by omega)
theorem sibs_nodup {d:Dc} (h:LightD d) (k p:Int):(sibs d.notes k p).Nodup:=(notes_nodup h).filter _
theorem pairwise_nodup {α:Type} {lt:α→α→Bool} {l L:List α} (hS:Strict lt L) (hl:∀ x∈l,x∈L) (h:l.Pairwise fun a b=>lt a b=true):l.Nodup:=by
  refine List.Pairwise.imp_of_mem (fun {a b} ha hb hab e=>?_) h
  subst e
  have:=hS.asymm a (hl a ha) a (hl a ha) hab
  rw [this] at hab;cases hab
theorem perm_of {α:Type} {l m:List α} (hl:l.Nodup) (hm:m.Nodup) (h:∀ x,x∈l↔x∈m):l.Perm m:=(List.perm_ext_iff_of_nodup hl hm).2 h
theorem ofR_mem {d:Dc} {k:Int} {n:Note}:n∈ofR d k↔n∈d.notes∧n.tier=k:=by
  unfold ofR;rw [(insSort_perm _).mem_iff,of_mem]
theorem ofR_sorted {d:Dc} (h:LightD d) (k:Nat):(ofR d (k:Int)).Pairwise fun a b=>befF d (k+1) a b=true:=by
  unfold ofR;rw [Int.toNat_natCast];exact insSort_sorted ((notes_nodup h).filter _) (bef_strict h k)
end Go.Proofs.YtnifmbbpfdghmaaGreatDoor
namespace Go.Proofs.YtnifmbbpfdghmaaGreatDoor
open Go.RowKit Go.En
def chainN (ns : List Note) : Nat → Int → List Note
  | 0,_=>[]
  | f+1,id=>match getF ns id with
    | none=>[]
    | some n=>n::chainN ns f n.parent
theorem step_up {d:Dc} (h:LightD d) {n:Note} {k:Nat} (hn:n∈d.notes) (hk:n.tier=(k:Int)):getF d.notes n.parent=none∨∃ p j,getF d.notes n.parent=some p∧p∈d.notes∧p.id=n.parent∧p.tier=((j:Nat):Int)∧j<k:=by
  obtain⟨k',t,h1,ht,px,tk,_⟩:=note_tier h hn
  have hkk:k'=k:=by omega
  subst hkk
  by_cases h0:t.kind=0
  · refine .inl ?_
    have hp:=px.root h0
    cases hg:getF d.notes n.parent with
    | none=>rfl
    | some p=>
      obtain⟨m1,m2⟩:=get_some hg
      obtain⟨i,hi⟩:=List.getElem?_of_mem m1
      have:=(h.notes i p hi).id
      omega
  · obtain⟨j,u,p,_,hj,_,gp,mp,ip,tp⟩:=parent_of h ht hn h1 h0
    exact .inr ⟨p,j,gp,mp,ip,tp,hj⟩
theorem chain_fuel {d:Dc} (h:LightD d):∀(k f g:Nat) (n:Note),n∈d.notes→n.tier=(k:Int)→k<f→k<g→chainN d.notes f n.id=chainN d.notes g n.id:=by
  intro k
  induction k using Nat.strongRecOn with
  | _ k ih =>
    intro f g n hn hk hf hg
    obtain⟨f,rfl⟩:∃ f',f=f'+1:=⟨f-1,by omega⟩
    obtain⟨g,rfl⟩:∃ g',g=g'+1:=⟨g-1,by omega⟩
    simp only [chainN,get_mem (ids_rise h) hn]
    congr 1
    rcases step_up h hn hk with h0|⟨p,j,gp,mp,ip,tp,hj⟩
    · cases f <;> cases g <;> simp [chainN,h0]
    · rw [← ip]
      exact ih j hj f g p mp tp (by omega) (by omega)
theorem note_lt {d:Dc} (h:LightD d) {n:Note} (hn:n∈d.notes):∃ k:Nat,n.tier=(k:Int)∧k<d.tiers.length:=by
  obtain⟨k,t,h1,ht,_⟩:=note_tier h hn
  exact⟨k,h1,tier_lt ht⟩
theorem chain_all {d:Dc} (h:LightD d) (id:Int) (f g:Nat) (hf:d.tiers.length≤f) (hg:d.tiers.length≤g):chainN d.notes f id=chainN d.notes g id:=by
  cases hgt:getF d.notes id with
  | none=>cases f <;> cases g <;> simp [chainN,hgt]
  | some n=>
    obtain⟨hn,hid⟩:=get_some hgt
    obtain⟨k,hk,hlt⟩:=note_lt h hn
    rw [← hid]
    exact chain_fuel h k f g n hn hk (by omega) (by omega)
def chainF (d:Dc) (id:Int):List Note:=chainN d.notes (d.tiers.length+1) id
theorem chain_none {d:Dc} {id:Int} (hg:getF d.notes id=none):chainF d id=[]:=by simp [chainF,chainN,hg]
theorem chain_cons {d:Dc} (h:LightD d) {n:Note} (hn:n∈d.notes):chainF d n.id=n::chainF d n.parent:=by
  show chainN d.notes (d.tiers.length+1) n.id=_
  simp only [chainN,get_mem (ids_rise h) hn]
  congr 1
  exact chain_all h _ _ _ (Nat.le_refl _) (by omega)
theorem chain_len (ns:List Note):∀(f:Nat) (id:Int),(chainN ns f id).length≤f
  | 0,_=>Nat.le_refl _
  | f+1,id=>by
    simp only [chainN]
    cases getF ns id with
    | none=>simp
    | some n=>have:=chain_len ns f n.parent;simp;omega
theorem chain_up {d : Dc} (h : LightD d) : ∀ (k : Nat) (n : Note), n ∈ d.notes → n.tier = (k : Int) → (∀ m ∈ chainF d n.id, m ∈ d.notes ∧ m.tier ≤ n.tier) ∧ (∀ m ∈ chainF d n.parent, m.tier < n.tier) := by
  intro k
  induction k using Nat.strongRecOn with
  | _ k ih =>
    intro n hn hk
    have h2:∀ m∈chainF d n.parent,m∈d.notes∧m.tier<n.tier:=by
      intro m hm
      rcases step_up h hn hk with h0|⟨p,j,gp,mp,ip,tp,hj⟩
      · rw [chain_none h0] at hm;simp at hm
      · rw [← ip] at hm
        obtain⟨e1,e2⟩:=(ih j hj p mp tp).1 m hm
        exact⟨e1,by omega⟩
    refine⟨fun m hm=>?_,fun m hm=>(h2 m hm).2⟩
    rw [chain_cons h hn] at hm
    rcases List.mem_cons.1 hm with rfl|hm
    · exact⟨hn,Int.le_refl _⟩
    · obtain⟨e1,e2⟩:=h2 m hm
      exact⟨e1,by omega⟩
theorem chain_id {d:Dc} {id:Int}:∀(f:Nat) (m:Note),m∈chainN d.notes f id→m∈d.notes
  | 0,_,h=>by simp [chainN] at h
  | f + 1, m, h => by
    simp only [chainN] at h
    cases hg:getF d.notes id with
    | none=>rw [hg] at h;simp at h
    | some n=>
      rw [hg] at h
      rcases List.mem_cons.1 h with rfl|h
      · exact(get_some hg).1
      · exact chain_id f m h
def alignedB (d:Dc) (k:Int):Bool:=match d.tiers[k.toNat]? with
  | some t=>decide (0≤k)&&timedB t.kind
  | none=>false
def whereF (d:Dc) (id:Int):Option Note:=(chainF d id).find? fun n=>alignedB d n.tier
end Go.Proofs.YtnifmbbpfdghmaaGreatDoor
namespace Go.Proofs.YtnifmbbpfdghmaaGreatDoor
open Go.RowKit Go.En
theorem aligned_at {d:Dc} {k:Nat} {t:Tier} (ht:d.tiers[k]?=some t):alignedB d (k:Int)=timedB t.kind:=by
  unfold alignedB
  rw [Int.toNat_natCast,ht]
  simp
theorem where_pos {d:Dc} (h:LightD d) {n:Note} (hn:n∈d.notes) (ha:alignedB d n.tier=true):whereF d n.id=some n:=by
  unfold whereF
  rw [chain_cons h hn]
  exact List.find?_cons_of_pos (p:=fun n:Note=>alignedB d n.tier) ha
theorem where_neg {d:Dc} (h:LightD d) {n:Note} (hn:n∈d.notes) (ha:alignedB d n.tier=false):whereF d n.id=whereF d n.parent:=by
  unfold whereF
  rw [chain_cons h hn]
  exact List.find?_cons_of_neg (p:=fun n:Note=>alignedB d n.tier) (by simp [ha])
theorem where_none {d:Dc} {id:Int} (hg:getF d.notes id=none):whereF d id=none:=by unfold whereF;rw [chain_none hg];rfl
def behind (l:List Note) (id:Int):Option Note:=match l with
  | a::b::r=>if a.id=id then some b else behind (b::r) id
  | _=>none
def nextF (d:Dc) (id:Int):Int:=match getF d.notes id with
  | none=>0
  | some n=>match behind (kidsN d n.parent n.tier) id with|some m=>m.id|none=>0
def nextR (d:Dc) (id:Int):Int:=match getF d.notes id with
  | none=>0
  | some n=>match behind (ofR d n.tier) id with|some m=>if m.parent=n.parent then m.id else 0|none=>0
theorem behind_app {a b:Note} {s t:List Note} (hs:∀ x∈s++[a],x.id≠b.id→True) (h:∀ x∈s,x.id≠a.id):behind (s++a::b::t) a.id=some b:=by
  induction s with
  | nil=>simp [behind]
  | cons y s ih=>
    cases s with
    | nil=>
      have:=h y (List.mem_cons_self ..)
      simp [behind,this]
    | cons z s=>
      have:=h y (List.mem_cons_self ..)
      simp only [List.cons_append,behind]
      rw [if_neg this]
      exact ih (fun _ _ _=>trivial) (fun x hx=>h x (List.mem_cons_of_mem _ hx))
theorem behind_last {a:Note} {s:List Note} (h:∀ x∈s,x.id≠a.id):behind (s++[a]) a.id=none:=by
  induction s with
  | nil=>rfl
  | cons y s ih=>
    have hy:=h y (List.mem_cons_self ..)
    cases s with
    | nil=>simp [behind,hy]
    | cons z s=>
      simp only [List.cons_append,behind]
      rw [if_neg hy]
      exact ih (fun x hx=>h x (List.mem_cons_of_mem _ hx))
theorem contig {d:Dc} (h:LightD d) {k:Nat} {x y z:Note} (hx:x∈ofTier d k) (hy:y∈ofTier d k) (hz:z∈ofTier d k) (h1:befF d (k+1) x z=true) (h2:befF d (k+1) z y=true) (hp:x.parent=y.parent):z.parent=x.parent:=by
  apply Classical.byContradiction
  intro hne
  obtain⟨hx1,hxk⟩:=of_mem.1 hx
  obtain⟨hy1,hyk⟩:=of_mem.1 hy
  obtain⟨hz1,hzk⟩:=of_mem.1 hz
  obtain⟨k',t,e1,ht,_⟩:=note_tier h hx1
  have hkk:k'=k:=by omega
  subst hkk
  have h0:t.kind≠0:=fun h0=>hne (by rw [(note_at h hz1 hzk ht).1.root h0,(note_at h hx1 hxk ht).1.root h0])
  obtain⟨j,u,p,_,hj,_,gp,mp,ip,tp⟩:=parent_of h ht hx1 hxk h0
  obtain⟨j',u',q,_,_,_,gq,mq,iq,tq⟩:=parent_of h ht hz1 hzk h0
  have gp2:getF d.notes y.parent=some p:=by rw [← hp];exact gp
  rw [bef_diff gp gq (fun e=>hne e.symm)] at h1
  rw [bef_diff gq gp2 (fun e=>hne (by rw [e,hp]))] at h2
  have hjj:j'=j:=by
    obtain⟨_,_⟩:=note_at h hx1 hxk ht
    omega
  subst hjj
  rw [bef_fuel h j' k' (j'+1) hj (by omega) p mp q mq tp tq] at h1
  rw [bef_fuel h j' k' (j'+1) hj (by omega) q mq p mp tq tp] at h2
  have:=(bef_strict h j').asymm p (of_mem.2 ⟨mp,tp⟩) q (of_mem.2 ⟨mq,tq⟩) h1
  rw [this] at h2;cases h2
theorem kids_of {d:Dc} (h:LightD d) {k:Nat} {t:Tier} (ht:d.tiers[k]?=some t) (p:Int):kidsN d p (k:Int)=(ofR d (k:Int)).filter fun n=>decide (n.parent=p):=by
  rw [kids_eq h ht]
  have hS:=(bef_strict h k).sub fun x (hx:x∈sibs d.notes (k:Int) p)=>sibs_of hx
  refine insSort_eq (sibs_nodup h _ _) hS (perm_of (List.Pairwise.filter _ (pairwise_nodup (bef_strict h k) (fun x hx=>of_mem.2 (ofR_mem.1 hx)) (ofR_sorted h k))) (sibs_nodup h _ _) fun x=>?_) ((ofR_sorted h k).filter _)
  rw [List.mem_filter,ofR_mem,sibs_mem]
  simp [and_assoc]
end Go.Proofs.YtnifmbbpfdghmaaGreatDoor
namespace Go.Proofs.YtnifmbbpfdghmaaGreatDoor
open Go.RowKit Go.En
theorem ofR_nodup {d:Dc} (h:LightD d) (k:Nat):(ofR d (k:Int)).Nodup:=pairwise_nodup (bef_strict h k) (fun x hx=>of_mem.2 (ofR_mem.1 hx)) (ofR_sorted h k)
theorem next_split {d : Dc} (h : LightD d) {n : Note} {k : Nat} {t : Tier} (hn : n ∈ d.notes) (hk : n.tier = (k : Int)) (ht : d.tiers[k]? = some t) :
    ∃ s r, ofR d (k : Int) = s ++ n :: r ∧ (∀ x ∈ s, x.id ≠ n.id) ∧
      ((r=[]∧kidsN d n.parent (k:Int)=s.filter (fun m=>decide (m.parent=n.parent))++[n])∨
       ∃ w r',r=w::r'∧befF d (k+1) n w=true∧w∈d.notes∧w.tier=(k:Int)∧
        ((w.parent=n.parent∧kidsN d n.parent (k:Int)=s.filter (fun m=>decide (m.parent=n.parent))++n::w::r'.filter (fun m=>decide (m.parent=n.parent)))∨
         (w.parent≠n.parent∧kidsN d n.parent (k:Int)=s.filter (fun m=>decide (m.parent=n.parent))++[n]))):=by
  obtain⟨s,r,hsr⟩:=List.append_of_mem (ofR_mem.2 ⟨hn,hk⟩:n∈ofR d (k:Int))
  have hnd:=ofR_nodup h k
  have hso:=ofR_sorted h k
  have hmem:∀ x∈ofR d (k:Int),x∈d.notes∧x.tier=(k:Int):=fun x hx=>ofR_mem.1 hx
  have hkid:=kids_of h ht n.parent
  rw [hsr] at hnd hso hmem hkid
  rw [List.nodup_append] at hnd
  rw [List.pairwise_append] at hso
  refine⟨s,r,hsr,fun x hx e=>?_,?_⟩
  · have hx1:=(hmem x (by simp [hx])).1
    exact hnd.2.2 x hx n (List.mem_cons_self ..) (ids_inj (ids_rise h) hx1 hn e)
  · rw [List.filter_append,List.filter_cons_of_pos (by simp)] at hkid
    cases r with
    | nil=>exact .inl ⟨rfl,by rw [hkid];rfl⟩
    | cons w r'=>
      have h2:=List.pairwise_cons.1 hso.2.1
      have h3:=List.pairwise_cons.1 h2.2
      have hw:=hmem w (by simp)
      have hnw:=h2.1 w (List.mem_cons_self ..)
      refine .inr ⟨w,r',rfl,hnw,hw.1,hw.2,?_⟩
      by_cases hp:w.parent=n.parent
      · exact .inl ⟨hp,by rw [hkid,List.filter_cons_of_pos (by simp [hp])]⟩
      · refine .inr ⟨hp,?_⟩
        have hr0:r'.filter (fun m=>decide (m.parent=n.parent))=[]:=List.filter_eq_nil_iff.2 fun z hz hzp=>by
          simp only [decide_eq_true_eq] at hzp
          have hz1:=hmem z (by simp [hz])
          exact hp (contig h (of_mem.2 ⟨hn,hk⟩) (of_mem.2 hz1) (of_mem.2 hw) hnw (h3.1 z hz) hzp.symm)
        rw [hkid,List.filter_cons_of_neg (by simp [hp]),hr0]
theorem next_eq {d : Dc} (h : LightD d) (id : Int) : nextF d id = nextR d id := by
  unfold nextF nextR
  cases hg:getF d.notes id with
  | none=>rfl
  | some n=>
    dsimp only
    obtain⟨hn,hid⟩:=get_some hg
    obtain⟨k,t,hk,ht,_⟩:=note_tier h hn
    obtain⟨s,r,hsr,hs,hc⟩:=next_split h hn hk ht
    have hsf:∀ x∈s.filter (fun m=>decide (m.parent=n.parent)),x.id≠n.id:=fun x hx=>hs x (List.mem_filter.1 hx).1
    rw [hk,hsr,← hid]
    rcases hc with⟨rfl,e⟩|⟨w,r',rfl,_,hw,hwk,hc⟩
    · rw [e,behind_last hs,behind_last hsf]
    · rw [behind_app (fun _ _ _=>trivial) hs]
      rcases hc with⟨hp,e⟩|⟨hp,e⟩
      · rw [e,behind_app (fun _ _ _=>trivial) hsf]
        simp [hp]
      · rw [e,behind_last hsf]
        simp [hp]
end Go.Proofs.YtnifmbbpfdghmaaGreatDoor
namespace Go.Proofs.YtnifmbbpfdghmaaGreatDoor
open Go.RowKit Go.En
def spanF (d:Dc) (id:Int):Int × Int:=match whereF d id with|some n=>(n.frm,n.til)|none=>(0,0)
end Go.Proofs.YtnifmbbpfdghmaaGreatDoor
namespace Go.Proofs.YtnifmbbpfdghmaaGreatDoor
open Go.RowKit Go.En
end Go.Proofs.YtnifmbbpfdghmaaGreatDoor
namespace Go.Proofs.YtnifmbbpfdghmaaGreatDoor
open Go.RowKit Go.En
def exT:List Tier:=[⟨[116,101,120,116],0,1,-1⟩,⟨[119,111,114,100],2,2,0⟩,⟨[109,111,114,112,104],3,3,1⟩,⟨[103,108,111,115,115],4,4,2⟩,⟨[102,114,101,101],4,5,0⟩]
def exN:List Note:=[⟨1,0,0,0,900,0,[98,97,32,109,105]⟩,⟨2,1,1,400,900,0,[109,105]⟩,⟨3,1,1,0,300,0,[98,97]⟩,⟨4,2,3,0,0,0,[98,97]⟩,⟨5,3,4,0,0,0,[100,111,103]⟩]
def exD:Dc:=⟨1,[],1000,0,[],exT,exN⟩
end Go.Proofs.YtnifmbbpfdghmaaGreatDoor
