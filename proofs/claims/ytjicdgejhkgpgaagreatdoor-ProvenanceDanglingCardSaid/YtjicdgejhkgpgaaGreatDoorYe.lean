/-
  Documents, plainly: the notes of a tier stand in one order. Documents, plainly: the program's Of and Kids are the reference's order. Documents, plainly: chains, what lies under a note, where a note is. Documents, plainly: where a note is, the next note, the order of all. Documents, plainly: Next, Order. Documents, plainly: what lies at a time, what is within. Provenance, plainly: languages that are right and small; what attests an entry. The smaller and the greater of two numbers; two spans compared. The bounds of the integers' kinds.
-/
import Derived.Test.YtjicdgejhkgpgaaGreatDoorYd
import Derived.Test.YtjicdgejhkgpgaaGreatDoorYa
import Derived.Test.YtjicdgejhkgpgaaGreatDoorYc
import Derived.Test.YtjicdgejhkgpgaaGreatDoorYb
import Derived.Laws.StructEq
set_option linter.all false
namespace Go.Proofs.YtjicdgejhkgpgaaGreatDoor
open Go.RowKit Go.En
theorem get_some {ns:List Note} {id:Int} {n:Note} (h:getF ns id=some n):n∈ns∧n.id=id:=by
  unfold getF at h
  exact⟨List.mem_of_find?_eq_some h,by simpa using List.find?_some h⟩
theorem ids_inj {ns:List Note} (h:ns.Pairwise fun a b=>a.id<b.id) {a b:Note} (ha:a∈ns) (hb:b∈ns) (e:a.id=b.id):a=b:=by
  obtain⟨i,hi⟩:=List.getElem?_of_mem ha
  obtain⟨j,hj⟩:=List.getElem?_of_mem hb
  obtain⟨hi1,rfl⟩:=List.getElem?_eq_some_iff.1 hi
  obtain⟨hj1,rfl⟩:=List.getElem?_eq_some_iff.1 hj
  have hp:=List.pairwise_iff_getElem.1 h
  rcases Nat.lt_trichotomy i j with hlt|heq|hlt
  · have:=hp i j hi1 hj1 hlt;omega
  · subst heq;rfl
  · have:=hp j i hj1 hi1 hlt;omega
theorem get_mem {ns:List Note} (h:ns.Pairwise fun a b=>a.id<b.id) {n:Note} (hn:n∈ns):getF ns n.id=some n:=by
  cases hg:getF ns n.id with
  | none=>
    unfold getF at hg
    have:=List.find?_eq_none.1 hg n hn
    simp at this
  | some m=>
    obtain⟨h1,h2⟩:=get_some hg
    rw [ids_inj h h1 hn h2]
theorem ids_rise {d : Dc} (h : LightD d) : d.notes.Pairwise fun a b => a.id < b.id := by
  have step:∀(j i:Nat) (hj:j<d.notes.length) (hi:i<d.notes.length),i<j→d.notes[i].id<d.notes[j].id:=by
    intro j
    induction j with
    | zero=>intro i _ _ h;omega
    | succ j ih=>
      intro i hj hi hij
      have h1:=(h.notes (j+1) _ (List.getElem?_eq_getElem hj)).inc d.notes[j] (by omega) (by simp [List.getElem?_eq_getElem (show j<d.notes.length by omega)])
      by_cases he:i=j
      · subst he;exact h1
      · have:=ih i (by omega) hi (by omega)
        omega
  exact List.pairwise_iff_getElem.2 fun i j hi hj hij=>step j i hj hi hij
theorem notes_nodup {d:Dc} (h:LightD d):d.notes.Nodup:=(ids_rise h).imp fun {a b} hab e=>by subst e;omega
theorem note_tier {d:Dc} (h:LightD d) {n:Note} (hn:n∈d.notes):∃(k:Nat) (t:Tier),n.tier=(k:Int)∧d.tiers[k]?=some t∧PlacedOK d n t∧TierOK d.tiers k t∧SibsOK t.kind (sibs d.notes (k:Int) n.parent):=by
  obtain⟨i,hi⟩:=List.getElem?_of_mem hn
  obtain⟨t,k,h1,h2,h3⟩:=(h.notes i n hi).placed
  exact⟨k,t,h1,h2,h3,h.tiers k t h2,h.sib k t h2 n hn h1⟩
theorem note_at {d:Dc} (h:LightD d) {n:Note} {k:Nat} {t:Tier} (hn:n∈d.notes) (hk:n.tier=(k:Int)) (ht:d.tiers[k]?=some t):PlacedOK d n t∧TierOK d.tiers k t∧SibsOK t.kind (sibs d.notes (k:Int) n.parent):=by
  obtain⟨k',t',h1,h2,h3,h4,h5⟩:=note_tier h hn
  have hkk:k'=k:=by omega
  subst hkk
  rw [ht] at h2;cases h2
  exact⟨h3,h4,h5⟩
def befF (d : Dc) : Nat → Note → Note → Bool
  | 0,_,_=>false
  | f + 1, a, b =>
    if a.parent ≠ b.parent then
      (match getF d.notes a.parent,getF d.notes b.parent with
       | some p,some q=>befF d f p q
       | _,_=>false)
    else if (match d.tiers[a.tier.toNat]? with|some t=>timedB t.kind|none=>false) then decide (a.frm<b.frm) else decide (a.rank<b.rank)
def ofTier (d:Dc) (k:Int):List Note:=d.notes.filter fun n=>decide (n.tier=k)
theorem of_mem {d:Dc} {k:Int} {n:Note}:n∈ofTier d k↔n∈d.notes∧n.tier=k:=by simp [ofTier]
theorem sibs_mem {ns:List Note} {k p:Int} {n:Note}:n∈sibs ns k p↔n∈ns∧n.tier=k∧n.parent=p:=by simp [sibs]
theorem cover {α : Type} (f : α → Int) : ∀ (m : Nat) (l : List α), (∀ n : Nat, n < m → ∃ x ∈ l, f x = (n : Int)) → m ≤ l.length
  | 0,_,_=>Nat.zero_le _
  | m + 1, l, h => by
    obtain⟨x,hx,hf⟩:=h m (by omega)
    obtain⟨s,t,rfl⟩:=List.append_of_mem hx
    have:=cover f m (s++t) fun n hn=>by
      obtain⟨y,hy,hfy⟩:=h n (by omega)
      refine⟨y,?_,hfy⟩
      rcases List.mem_append.1 hy with hy|hy
      · exact List.mem_append_left _ hy
      · rcases List.mem_cons.1 hy with rfl|hy
        · omega
        · exact List.mem_append_right _ hy
    simp only [List.length_append,List.length_cons] at this ⊢
    omega
theorem ranked_inj {l:List Note} (h:Ranked l) {x y:Note} (hx:x∈l) (hy:y∈l) (e:x.rank=y.rank):x=y:=by
  apply Classical.byContradiction
  intro hne
  obtain⟨s,t,rfl⟩:=List.append_of_mem hy
  have hx2:x∈s++t:=by
    rcases List.mem_append.1 hx with hx|hx
    · exact List.mem_append_left _ hx
    · rcases List.mem_cons.1 hx with hx|hx
      · exact absurd hx hne
      · exact List.mem_append_right _ hx
  have:=cover (fun z:Note=>z.rank) (s++y::t).length (s++t) fun n hn=>by
    obtain⟨z,hz,hr⟩:=h n hn
    rcases List.mem_append.1 hz with hz|hz
    · exact⟨z,List.mem_append_left _ hz,hr⟩
    · rcases List.mem_cons.1 hz with rfl|hz
      · exact⟨x,hx2,by rw [e];exact hr⟩
      · exact⟨z,List.mem_append_right _ hz,hr⟩
  simp only [List.length_append,List.length_cons] at this
  omega
theorem sib_keys {d:Dc} (h:LightD d) {k:Nat} {t:Tier} {x y:Note} (ht:d.tiers[k]?=some t) (hx:x∈d.notes) (hy:y∈d.notes) (hxk:x.tier=(k:Int)) (hyk:y.tier=(k:Int)) (hp:x.parent=y.parent) (hne:x≠y) :
    (timedB t.kind=true→x.frm≠y.frm)∧(timedB t.kind=false→x.rank≠y.rank):=by
  obtain⟨px,tk,sx⟩:=note_at h hx hxk ht
  obtain⟨py,_,_⟩:=note_at h hy hyk ht
  have mx:x∈sibs d.notes (k:Int) x.parent:=sibs_mem.2 ⟨hx,hxk,rfl⟩
  have my:y∈sibs d.notes (k:Int) x.parent:=sibs_mem.2 ⟨hy,hyk,hp.symm⟩
  refine⟨fun htm e=>?_,fun htm e=>?_⟩
  · have rx:=px.on htm
    have ry:=py.on htm
    unfold rightB at rx ry
    simp only [Bool.and_eq_true,decide_eq_true_eq] at rx ry
    obtain⟨i,hi⟩:=List.getElem?_of_mem mx
    obtain⟨j,hj⟩:=List.getElem?_of_mem my
    rcases Nat.lt_trichotomy i j with hlt|heq|hlt
    · exact sx.apart htm j i y x hlt hj hi ⟨by omega,by omega⟩
    · subst heq;rw [hi] at hj;cases hj;exact hne rfl
    · exact sx.apart htm i j x y hlt hi hj ⟨by omega,by omega⟩
  · have hk34:t.kind=3∨t.kind=4:=by
      have:=tk.kind
      have h0:¬ (t.kind=0∨t.kind=1∨t.kind=2):=fun hh=>by rw [timed_iff.2 hh] at htm;cases htm
      omega
    rcases hk34 with h3|h4
    · exact hne (ranked_inj (sx.series h3) mx my e)
    · have hl:=sx.label h4
      obtain⟨i,hi⟩:=List.getElem?_of_mem mx
      obtain⟨j,hj⟩:=List.getElem?_of_mem my
      have h1:=(List.getElem?_eq_some_iff.1 hi).1
      have h2:=(List.getElem?_eq_some_iff.1 hj).1
      have:i=j:=by omega
      subst this
      rw [hi] at hj;cases hj;exact hne rfl
theorem bef_same {d:Dc} {k f:Nat} {t:Tier} {x y:Note} (ht:d.tiers[k]?=some t) (hxk:x.tier=(k:Int)) (hp:x.parent=y.parent):befF d (f+1) x y=if timedB t.kind then decide (x.frm<y.frm) else decide (x.rank<y.rank):=by
  simp only [befF]
  rw [if_neg (by simpa using hp),hxk,Int.toNat_natCast,ht]
theorem bef_diff {d:Dc} {f:Nat} {x y p q:Note} (hp:getF d.notes x.parent=some p) (hq:getF d.notes y.parent=some q) (hne:x.parent≠y.parent):befF d (f+1) x y=befF d f p q:=by
  simp only [befF]
  rw [if_pos hne,hp,hq]
theorem parent_of {d:Dc} (h:LightD d) {k:Nat} {t:Tier} {x:Note} (ht:d.tiers[k]?=some t) (hx:x∈d.notes) (hxk:x.tier=(k:Int)) (h0:t.kind≠0) :
    ∃(j:Nat) (u:Tier) (p:Note),t.parent=(j:Int)∧j<k∧d.tiers[j]?=some u∧getF d.notes x.parent=some p∧p∈d.notes∧p.id=x.parent∧p.tier=(j:Int):=by
  obtain⟨px,tk,_⟩:=note_at h hx hxk ht
  obtain⟨p,hp,hpt⟩:=px.par h0
  have hr:=tk.par h0
  obtain⟨h1,h2⟩:=get_some hp
  have hk:=(List.getElem?_eq_some_iff.1 ht).1
  exact⟨t.parent.toNat,d.tiers[t.parent.toNat]'(by omega),p,by omega,by omega,List.getElem?_eq_getElem (by omega),hp,h1,h2,by omega⟩
theorem bef_fuel {d:Dc} (h:LightD d):∀(k f g:Nat),k<f→k<g→∀ x∈d.notes,∀ y∈d.notes,x.tier=(k:Int)→y.tier=(k:Int)→befF d f x y=befF d g x y:=by
  intro k
  induction k using Nat.strongRecOn with
  | _ k ih =>
    intro f g hf hg x hx y hy hxk hyk
    obtain⟨f,rfl⟩:∃ f',f=f'+1:=⟨f-1,by omega⟩
    obtain⟨g,rfl⟩:∃ g',g=g'+1:=⟨g-1,by omega⟩
    obtain⟨k',t,h1,ht,_⟩:=note_tier h hx
    have hkk:k'=k:=by omega
    subst hkk
    by_cases hp:x.parent=y.parent
    · rw [bef_same ht hxk hp,bef_same ht hxk hp]
    · have h0:t.kind≠0:=fun h0=>hp (by rw [(note_at h hx hxk ht).1.root h0,(note_at h hy hyk ht).1.root h0])
      obtain⟨j,u,p,e1,hj,_,gp,mp,_,tp⟩:=parent_of h ht hx hxk h0
      obtain⟨j',u',q,e2,_,_,gq,mq,_,tq⟩:=parent_of h ht hy hyk h0
      have hjj:j'=j:=by omega
      subst hjj
      rw [bef_diff gp gq hp,bef_diff gp gq hp]
      exact ih j' hj f g (by omega) (by omega) p mp q mq tp tq
theorem bef_strict {d : Dc} (h : LightD d) : ∀ k : Nat, Strict (befF d (k + 1)) (ofTier d k) := by
  intro k
  induction k using Nat.strongRecOn with
  | _ k ih =>
    have key:∀ x∈ofTier d k,∀ y∈ofTier d k,(x.parent=y.parent∧∃ t,d.tiers[k]?=some t∧∀ z w:Note,z.tier=(k:Int)→z.parent=w.parent→befF d (k+1) z w=if timedB t.kind then decide (z.frm<w.frm) else decide (z.rank<w.rank))∨
        (x.parent≠y.parent∧∃(j:Nat) (p q:Note),j<k∧getF d.notes x.parent=some p∧getF d.notes y.parent=some q∧p∈ofTier d j∧q∈ofTier d j∧p≠q∧befF d (k+1) x y=befF d (j+1) p q∧befF d (k+1) y x=befF d (j+1) q p):=by
      intro x hx y hy
      obtain⟨hx1,hxk⟩:=of_mem.1 hx
      obtain⟨hy1,hyk⟩:=of_mem.1 hy
      obtain⟨k',t,h1,ht,_⟩:=note_tier h hx1
      have hkk:k'=k:=by omega
      subst hkk
      by_cases hp:x.parent=y.parent
      · exact .inl ⟨hp,t,ht,fun z w hz hzw=>bef_same ht hz hzw⟩
      · have h0:t.kind≠0:=fun h0=>hp (by rw [(note_at h hx1 hxk ht).1.root h0,(note_at h hy1 hyk ht).1.root h0])
        obtain⟨j,u,p,e1,hj,_,gp,mp,ip,tp⟩:=parent_of h ht hx1 hxk h0
        obtain⟨j',u',q,e2,_,_,gq,mq,iq,tq⟩:=parent_of h ht hy1 hyk h0
        have hjj:j'=j:=by omega
        subst hjj
        refine .inr ⟨hp,j',p,q,hj,gp,gq,of_mem.2 ⟨mp,tp⟩,of_mem.2 ⟨mq,tq⟩,fun e=>hp (by rw [← ip,← iq,e]),?_,?_⟩
        · rw [bef_diff gp gq hp]
          exact bef_fuel h j' k' (j'+1) hj (by omega) p mp q mq tp tq
        · rw [bef_diff gq gp (fun e=>hp e.symm)]
          exact bef_fuel h j' k' (j'+1) hj (by omega) q mq p mp tq tp
    refine⟨fun x hx y hy hxy=>?_,fun x hx y hy z hz hxy hyz=>?_,fun x hx y hy hne=>?_⟩
    · rcases key x hx y hy with⟨hp,t,ht,hb⟩|⟨hp,j,p,q,hj,_,_,mp,mq,_,e1,e2⟩
      · rw [hb x y (of_mem.1 hx).2 hp] at hxy
        rw [hb y x (of_mem.1 hy).2 hp.symm]
        split at hxy
        · rename_i htm
          rw [if_pos htm]
          simp only [decide_eq_true_eq] at hxy
          simp;omega
        · rename_i htm
          rw [if_neg htm]
          simp only [decide_eq_true_eq] at hxy
          simp;omega
      · rw [e1] at hxy
        rw [e2]
        exact(ih j hj).asymm p mp q mq hxy
    · rcases key x hx y hy with⟨hp,t,ht,hb⟩|⟨hp,j,p,q,hj,gp,gq,mp,mq,hpq,e1,e2⟩
      · rcases key y hy z hz with⟨hp2,t2,ht2,hb2⟩|⟨hp2,j2,p2,q2,hj2,gp2,gq2,mp2,mq2,hpq2,e12,e22⟩
        · rw [hb x y (of_mem.1 hx).2 hp] at hxy
          rw [hb y z (of_mem.1 hy).2 hp2] at hyz
          rw [hb x z (of_mem.1 hx).2 (hp.trans hp2)]
          split at hxy
          · rename_i htm
            rw [if_pos htm] at hyz ⊢
            simp only [decide_eq_true_eq] at hxy hyz ⊢
            omega
          · rename_i htm
            rw [if_neg htm] at hyz ⊢
            simp only [decide_eq_true_eq] at hxy hyz ⊢
            omega
        · rcases key x hx z hz with⟨hp3,_⟩|⟨hp3,j3,p3,q3,hj3,gp3,gq3,mp3,mq3,hpq3,e13,e23⟩
          · exact absurd (hp.symm.trans hp3) hp2
          · rw [hp,gp2] at gp3;cases gp3
            rw [gq2] at gq3;cases gq3
            have hjj:j3=j2:=by have:=(of_mem.1 mp2).2;have:=(of_mem.1 mp3).2;omega
            subst hjj
            rw [e13,← e12];exact hyz
      · rcases key y hy z hz with⟨hp2,t2,ht2,hb2⟩|⟨hp2,j2,p2,q2,hj2,gp2,gq2,mp2,mq2,hpq2,e12,e22⟩
        · rcases key x hx z hz with⟨hp3,_⟩|⟨hp3,j3,p3,q3,hj3,gp3,gq3,mp3,mq3,hpq3,e13,e23⟩
          · exact absurd (hp3.trans hp2.symm) hp
          · rw [gp] at gp3;cases gp3
            rw [← hp2,gq] at gq3;cases gq3
            have hjj:j3=j:=by have:=(of_mem.1 mp).2;have:=(of_mem.1 mp3).2;omega
            subst hjj
            rw [e13,← e1];exact hxy
        · rw [gq] at gp2;cases gp2
          have hjj:j2=j:=by have:=(of_mem.1 mq).2;have:=(of_mem.1 mp2).2;omega
          subst hjj
          rw [e1] at hxy
          rw [e12] at hyz
          rcases key x hx z hz with⟨hp3,_⟩|⟨hp3,j3,p3,q3,hj3,gp3,gq3,mp3,mq3,hpq3,e13,e23⟩
          · exfalso
            rw [hp3,gq2] at gp;cases gp
            have:=(ih j2 hj).asymm p mp q mq hxy
            rw [this] at hyz;cases hyz
          · rw [gp] at gp3;cases gp3
            rw [gq2] at gq3;cases gq3
            have hjj:j3=j2:=by have:=(of_mem.1 mp).2;have:=(of_mem.1 mp3).2;omega
            subst hjj
            rw [e13]
            exact(ih j3 hj).trans p mp q mq q2 mq2 hxy hyz
    · rcases key x hx y hy with⟨hp,t,ht,hb⟩|⟨hp,j,p,q,hj,_,_,mp,mq,hpq,e1,e2⟩
      · obtain⟨hx1,hxk⟩:=of_mem.1 hx
        obtain⟨hy1,hyk⟩:=of_mem.1 hy
        have hs:=sib_keys h ht hx1 hy1 hxk hyk hp hne
        rw [hb x y hxk hp,hb y x hyk hp.symm]
        cases htm:timedB t.kind with
        | true=>
          have:=hs.1 htm
          simp;omega
        | false=>
          have:=hs.2 htm
          simp;omega
      · rw [e1,e2]
        exact(ih j hj).total p mp q mq hpq
end Go.Proofs.YtjicdgejhkgpgaaGreatDoor
namespace Go.Proofs.YtjicdgejhkgpgaaGreatDoor
open Go.RowKit Go.En
def ordB (a b:Note):Bool:=decide (a.parent<b.parent)||(decide (a.parent=b.parent)&&(decide (a.frm<b.frm)||(decide (a.frm=b.frm)&&decide (a.rank<b.rank))))
def kidsN (d:Dc) (id k:Int):List Note:=if 0≤k∧k<d.tiers.length then insSort ordB (sibs d.notes k id) else []
def ofN (d : Dc) : Nat → Int → List Note
  | 0,_=>[]
  | f + 1, k =>
    if 0 ≤ k ∧ k < d.tiers.length then
      (match d.tiers[k.toNat]? with
       | none=>[]
       | some t=>if t.kind=0 then kidsN d 0 k else (ofN d f t.parent).flatMap fun p=>kidsN d p.id k)
    else []
def ofR (d:Dc) (k:Int):List Note:=insSort (befF d (k.toNat+1)) (ofTier d k)
theorem ord_bef {d:Dc} (h:LightD d) {k:Nat} {t:Tier} {x y:Note} (f:Nat) (ht:d.tiers[k]?=some t) (hx:x∈d.notes) (hy:y∈d.notes) (hxk:x.tier=(k:Int)) (hyk:y.tier=(k:Int)) (hp:x.parent=y.parent):ordB x y=befF d (f+1) x y:=by
  rw [bef_same ht hxk hp]
  obtain⟨px,tk,sx⟩:=note_at h hx hxk ht
  obtain⟨py,_,_⟩:=note_at h hy hyk ht
  unfold ordB
  rw [decide_eq_false (show ¬ x.parent<y.parent by omega),decide_eq_true hp,Bool.false_or,Bool.true_and]
  cases htm:timedB t.kind with
  | true=>
    have h3:t.kind≠3:=fun e=>by rw [e] at htm;cases htm
    have rx:=px.rank.2 h3
    have ry:=py.rank.2 h3
    rw [if_pos rfl,decide_eq_false (show ¬ x.rank<y.rank by omega),Bool.and_false,Bool.or_false]
  | false=>
    have ox:=(px.off htm).1
    have oy:=(py.off htm).1
    rw [if_neg (by simp),decide_eq_false (show ¬ x.frm<y.frm by omega),decide_eq_true (show x.frm=y.frm by omega),Bool.false_or,Bool.true_and]
theorem Strict.sub {α:Type} {lt:α→α→Bool} {l m:List α} (h:Strict lt l) (hs:∀ x∈m,x∈l):Strict lt m:=
  ⟨fun x hx y hy=>h.asymm x (hs x hx) y (hs y hy),fun x hx y hy z hz=>h.trans x (hs x hx) y (hs y hy) z (hs z hz),fun x hx y hy=>h.total x (hs x hx) y (hs y hy)⟩
theorem sibs_of {d:Dc} {k p:Int} {x:Note} (hx:x∈sibs d.notes k p):x∈ofTier d k:=of_mem.2 ⟨(sibs_mem.1 hx).1,(sibs_mem.1 hx).2.1⟩
theorem tier_lt {d:Dc} {k:Nat} {t:Tier} (ht:d.tiers[k]?=some t):k<d.tiers.length:=(List.getElem?_eq_some_iff.1 ht).1
theorem kids_eq {d:Dc} (h:LightD d) {k:Nat} {t:Tier} (ht:d.tiers[k]?=some t) (p:Int):kidsN d p (k:Int)=insSort (befF d (k+1)) (sibs d.notes (k:Int) p):=by
  unfold kidsN
  rw [if_pos ⟨by omega,by have:=tier_lt ht;omega⟩]
  refine insSort_congr _ fun x hx y hy=>?_
  obtain⟨hx1,hx2,hx3⟩:=sibs_mem.1 hx
  obtain⟨hy1,hy2,hy3⟩:=sibs_mem.1 hy
  exact ord_bef h k ht hx1 hy1 hx2 hy2 (by omega)
theorem sibs_nodup {d:Dc} (h:LightD d) (k p:Int):(sibs d.notes k p).Nodup:=(notes_nodup h).filter _
theorem kids_sorted {d:Dc} (h:LightD d) {k:Nat} {t:Tier} (ht:d.tiers[k]?=some t) (p:Int):(kidsN d p (k:Int)).Pairwise fun a b=>befF d (k+1) a b=true:=by
  rw [kids_eq h ht]
  exact insSort_sorted (sibs_nodup h _ _) ((bef_strict h k).sub fun x hx=>sibs_of hx)
theorem kids_mem {d:Dc} (h:LightD d) {k:Nat} {t:Tier} (ht:d.tiers[k]?=some t) {p:Int} {x:Note}:x∈kidsN d p (k:Int)↔x∈d.notes∧x.tier=(k:Int)∧x.parent=p:=by
  rw [kids_eq h ht,(insSort_perm _).mem_iff,sibs_mem]
theorem pairwise_nodup {α:Type} {lt:α→α→Bool} {l L:List α} (hS:Strict lt L) (hl:∀ x∈l,x∈L) (h:l.Pairwise fun a b=>lt a b=true):l.Nodup:=by
  refine List.Pairwise.imp_of_mem (fun {a b} ha hb hab e=>?_) h
  subst e
  have:=hS.asymm a (hl a ha) a (hl a ha) hab
  rw [this] at hab;cases hab
theorem perm_of {α:Type} {l m:List α} (hl:l.Nodup) (hm:m.Nodup) (h:∀ x,x∈l↔x∈m):l.Perm m:=(List.perm_ext_iff_of_nodup hl hm).2 h
theorem ofN_eq {d : Dc} (h : LightD d) : ∀ (k f : Nat) (t : Tier), d.tiers[k]? = some t → k < f → ofN d f (k : Int) = ofR d (k : Int) := by
  intro k
  induction k using Nat.strongRecOn with
  | _ k ih =>
    intro f t ht hf
    obtain⟨f,rfl⟩:∃ f',f=f'+1:=⟨f-1,by omega⟩
    have hkl:=tier_lt ht
    have tk:=h.tiers k t ht
    have hS:=bef_strict h k
    have hnd:(ofTier d (k:Int)).Nodup:=(notes_nodup h).filter _
    simp only [ofN,Int.toNat_natCast]
    rw [if_pos ⟨by omega,by omega⟩,ht]
    dsimp only
    unfold ofR
    rw [Int.toNat_natCast]
    by_cases h0:t.kind=0
    · rw [if_pos h0,kids_eq h ht]
      congr 1
      unfold sibs ofTier
      refine List.filter_congr fun n hn=>?_
      by_cases hk:n.tier=(k:Int)
      · simp [hk,(note_at h hn hk ht).1.root h0]
      · simp [hk]
    · rw [if_neg h0]
      have hr:=tk.par h0
      obtain⟨j,hj⟩:∃ j:Nat,t.parent=(j:Int):=⟨t.parent.toNat,by omega⟩
      have hjk:j<k:=by omega
      obtain⟨u,hu⟩:∃ u,d.tiers[j]?=some u:=⟨_,List.getElem?_eq_getElem (by omega)⟩
      rw [hj,ih j hjk f u hu (by omega)]
      have hSj:=bef_strict h j
      have hndj:(ofTier d (j:Int)).Nodup:=(notes_nodup h).filter _
      have hso:(ofR d (j:Int)).Pairwise fun a b=>befF d (j+1) a b=true:=by
        unfold ofR;rw [Int.toNat_natCast];exact insSort_sorted hndj hSj
      have hmo:∀ p,p∈ofR d (j:Int)↔p∈ofTier d (j:Int):=fun p=>by unfold ofR;exact(insSort_perm _).mem_iff
      have hmem:∀ x,x∈(ofR d (j:Int)).flatMap (fun p=>kidsN d p.id (k:Int))↔x∈ofTier d (k:Int):=by
        intro x
        rw [List.mem_flatMap]
        constructor
        · rintro⟨p,_,hx⟩
          obtain⟨h1,h2,_⟩:=(kids_mem h ht).1 hx
          exact of_mem.2 ⟨h1,h2⟩
        · intro hx
          obtain⟨h1,h2⟩:=of_mem.1 hx
          obtain⟨j',u',p,e1,_,_,_,mp,ip,tp⟩:=parent_of h ht h1 h2 h0
          have hjj:j'=j:=by omega
          subst hjj
          exact⟨p,(hmo p).2 (of_mem.2 ⟨mp,tp⟩),(kids_mem h ht).2 ⟨h1,h2,ip.symm⟩⟩
      have hsort:((ofR d (j:Int)).flatMap fun p=>kidsN d p.id (k:Int)).Pairwise fun a b=>befF d (k+1) a b=true:=by
        rw [List.pairwise_flatMap]
        refine⟨fun p _=>kids_sorted h ht p.id,?_⟩
        refine List.Pairwise.imp_of_mem (fun {p q} hp hq hpq=>?_) hso
        intro x hx y hy
        obtain⟨hp1,hp2⟩:=of_mem.1 ((hmo p).1 hp)
        obtain⟨hq1,hq2⟩:=of_mem.1 ((hmo q).1 hq)
        obtain⟨x1,x2,x3⟩:=(kids_mem h ht).1 hx
        obtain⟨y1,y2,y3⟩:=(kids_mem h ht).1 hy
        have hne:p.id≠q.id:=fun e=>by
          have:=ids_inj (ids_rise h) hp1 hq1 e
          subst this
          have:=hSj.asymm p ((hmo p).1 hp) p ((hmo p).1 hp) hpq
          rw [this] at hpq;cases hpq
        have gp:getF d.notes x.parent=some p:=by rw [x3];exact get_mem (ids_rise h) hp1
        have gq:getF d.notes y.parent=some q:=by rw [y3];exact get_mem (ids_rise h) hq1
        rw [bef_diff gp gq (by rw [x3,y3];exact hne),bef_fuel h j k (j+1) hjk (by omega) p hp1 q hq1 hp2 hq2]
        exact hpq
      exact(insSort_eq hnd hS (perm_of (pairwise_nodup hS (fun x hx=>(hmem x).1 hx) hsort) hnd hmem) hsort).symm
end Go.Proofs.YtjicdgejhkgpgaaGreatDoor
namespace Go.Proofs.YtjicdgejhkgpgaaGreatDoor
open Go.RowKit Go.En
def chainN (ns : List Note) : Nat → Int → List Note
  | 0,_=>[]
  | f+1,id=>match getF ns id with
    | none=>[]
    | some n=>n::chainN ns f n.parent
theorem step_up {d:Dc} (h:LightD d) {n:Note} {k:Nat} (hn:n∈d.notes) (hk:n.tier=(k:Int)):getF d.notes n.parent=none∨∃ p j,getF d.notes n.parent=some p∧p∈d.notes∧p.id=n.parent∧p.tier=((j:Nat):Int)∧j<k:=by
  obtain⟨k',t,h1,ht,px,tk,_⟩:=note_tier h hn
  have hkk:k'=k:=by omega
  subst hkk
  by_cases h0:t.kind=0
  · refine .inl ?_
    have hp:=px.root h0
    cases hg:getF d.notes n.parent with
    | none=>rfl
    | some p=>
      obtain⟨m1,m2⟩:=get_some hg
      obtain⟨i,hi⟩:=List.getElem?_of_mem m1
      have:=(h.notes i p hi).id
      omega
  · obtain⟨j,u,p,_,hj,_,gp,mp,ip,tp⟩:=parent_of h ht hn h1 h0
    exact .inr ⟨p,j,gp,mp,ip,tp,hj⟩
theorem chain_fuel {d:Dc} (h:LightD d):∀(k f g:Nat) (n:Note),n∈d.notes→n.tier=(k:Int)→k<f→k<g→chainN d.notes f n.id=chainN d.notes g n.id:=by
  intro k
  induction k using Nat.strongRecOn with
  | _ k ih =>
    intro f g n hn hk hf hg
    obtain⟨f,rfl⟩:∃ f',f=f'+1:=⟨f-1,by omega⟩
    obtain⟨g,rfl⟩:∃ g',g=g'+1:=⟨g-1,by omega⟩
    simp only [chainN,get_mem (ids_rise h) hn]
    congr 1
    rcases step_up h hn hk with h0|⟨p,j,gp,mp,ip,tp,hj⟩
    · cases f <;> cases g <;> simp [chainN,h0]
    · rw [← ip]
      exact ih j hj f g p mp tp (by omega) (by omega)
theorem note_lt {d:Dc} (h:LightD d) {n:Note} (hn:n∈d.notes):∃ k:Nat,n.tier=(k:Int)∧k<d.tiers.length:=by
  obtain⟨k,t,h1,ht,_⟩:=note_tier h hn
  exact⟨k,h1,tier_lt ht⟩
theorem chain_all {d:Dc} (h:LightD d) (id:Int) (f g:Nat) (hf:d.tiers.length≤f) (hg:d.tiers.length≤g):chainN d.notes f id=chainN d.notes g id:=by
  cases hgt:getF d.notes id with
  | none=>cases f <;> cases g <;> simp [chainN,hgt]
  | some n=>
    obtain⟨hn,hid⟩:=get_some hgt
    obtain⟨k,hk,hlt⟩:=note_lt h hn
    rw [← hid]
    exact chain_fuel h k f g n hn hk (by omega) (by omega)
def chainF (d:Dc) (id:Int):List Note:=chainN d.notes (d.tiers.length+1) id
theorem chain_none {d:Dc} {id:Int} (hg:getF d.notes id=none):chainF d id=[]:=by simp [chainF,chainN,hg]
theorem chain_cons {d:Dc} (h:LightD d) {n:Note} (hn:n∈d.notes):chainF d n.id=n::chainF d n.parent:=by
  show chainN d.notes (d.tiers.length+1) n.id=_
  simp only [chainN,get_mem (ids_rise h) hn]
  congr 1
  exact chain_all h _ _ _ (Nat.le_refl _) (by omega)
theorem chain_id {d:Dc} {id:Int}:∀(f:Nat) (m:Note),m∈chainN d.notes f id→m∈d.notes
  | 0,_,h=>by simp [chainN] at h
  | f + 1, m, h => by
    simp only [chainN] at h
    cases hg:getF d.notes id with
    | none=>rw [hg] at h;simp at h
    | some n=>
      rw [hg] at h
      rcases List.mem_cons.1 h with rfl|h
      · exact(get_some hg).1
      · exact chain_id f m h
def alignedB (d:Dc) (k:Int):Bool:=match d.tiers[k.toNat]? with
  | some t=>decide (0≤k)&&timedB t.kind
  | none=>false
def whereF (d:Dc) (id:Int):Option Note:=(chainF d id).find? fun n=>alignedB d n.tier
end Go.Proofs.YtjicdgejhkgpgaaGreatDoor
namespace Go.Proofs.YtjicdgejhkgpgaaGreatDoor
open Go.RowKit Go.En
theorem aligned_at {d:Dc} {k:Nat} {t:Tier} (ht:d.tiers[k]?=some t):alignedB d (k:Int)=timedB t.kind:=by
  unfold alignedB
  rw [Int.toNat_natCast,ht]
  simp
theorem where_pos {d:Dc} (h:LightD d) {n:Note} (hn:n∈d.notes) (ha:alignedB d n.tier=true):whereF d n.id=some n:=by
  unfold whereF
  rw [chain_cons h hn]
  exact List.find?_cons_of_pos (p:=fun n:Note=>alignedB d n.tier) ha
theorem where_neg {d:Dc} (h:LightD d) {n:Note} (hn:n∈d.notes) (ha:alignedB d n.tier=false):whereF d n.id=whereF d n.parent:=by
  unfold whereF
  rw [chain_cons h hn]
  exact List.find?_cons_of_neg (p:=fun n:Note=>alignedB d n.tier) (by simp [ha])
theorem where_none {d:Dc} {id:Int} (hg:getF d.notes id=none):whereF d id=none:=by unfold whereF;rw [chain_none hg];rfl
def behind (l:List Note) (id:Int):Option Note:=match l with
  | a::b::r=>if a.id=id then some b else behind (b::r) id
  | _=>none
end Go.Proofs.YtjicdgejhkgpgaaGreatDoor
namespace Go.Proofs.YtjicdgejhkgpgaaGreatDoor
open Go.RowKit Go.En
end Go.Proofs.YtjicdgejhkgpgaaGreatDoor
namespace Go.Proofs.YtjicdgejhkgpgaaGreatDoor
open Go.RowKit Go.En
def spanF (d:Dc) (id:Int):Int × Int:=match whereF d id with|some n=>(n.frm,n.til)|none=>(0,0)
def hitB (d:Dc) (ms:Int) (n:Note):Bool:=decide ((spanF d n.id).1≤ms)&&decide (ms<(spanF d n.id).2)
end Go.Proofs.YtjicdgejhkgpgaaGreatDoor
namespace Go.Proofs.YtjicdgejhkgpgaaGreatDoor
open Go.RowKit Go.En Go.Pv
structure LangOK (g:Lg):Prop where
  nsegs:g.segs.length≤8
  nunits:g.units.length≤10
  units:∀ u∈g.units,1≤u.graph.length∧u.graph.length≤32∧u.segs.length≤3
  nrules:g.rules.length≤2
  rules:∀ r∈g.rules,r.to.length=r.frm.length∧r.frm.length≤8∧r.frm.Nodup∧r.left.length≤2∧r.right.length≤2
  net:NetOK g.net
  states:g.net.states≤3
  nsteps:g.net.steps.length≤6
  nfinal:g.net.final.length≤3
  nlex:g.lex.length≤5
  ids:(g.lex.map (·.id)).Nodup
  lex:∀ e∈g.lex,1≤e.id∧1≤e.cls∧e.cls≤20∧e.form.length≤3∧e.alts.length≤1∧(∀ f∈formsOf e,f.length≤3∧∀ x∈f,1≤x∧x≤8)∧e.refs.length≤12∧e.senses.length≤5∧e.links.length≤12
def shrB (rules:List Rul):Bool:=rules.any fun r=>r.to.contains 0
def lxOf (g:Lg) (w:List Int):Lx:=⟨g.net,g.lex,lastF bandI g.segs g.rules,if shrB g.rules then 24 else w.length⟩
def usesF (g:Lg) (w:List Int) (id:Int):Bool:=(decide (w.length≠0)&&decide (w.length≤24))&&belB (lxOf g w) w id 4 [] (fun q=>q==0) []
def docF (docs:List Dc) (rec:Int):Option Dc:=docs.find? fun d=>decide (d.rid=rec)
structure LightDs (docs:List Dc):Prop where
  few:docs.length≤3
  each:∀ d∈docs,LightD d
  up:∀(i:Nat) (a b:Dc),docs[i]?=some a→docs[i+1]?=some b→a.rid<b.rid
def whereS (docs:List Dc) (r:Rf):Int × Int:=match docF docs r.rcd with|none=>(0,0)|some d=>spanF d r.note
def leadsB (docs:List Dc) (r:Rf):Bool:=match docF docs r.rcd with|none=>false|some d=>(whereF d r.note).isSome
end Go.Proofs.YtjicdgejhkgpgaaGreatDoor
namespace Go.En
open Go.RowKit
section
variable {P : Program} {L : List (Nat × Value)} {w : World} {o : Oper}
theorem val_max {t u:TypeId} {x y:Operand} {a b:Int} (ho:o.op=.call { callee:=.builtin .max,args:=#[x,y],argTypes:=#[t,u] }) (hx:ev L x=some (int a)) (hy:ev L y=some (int b)):Val P L w o (int (if b>a then b else a)):=fun ρ ha=>by
  have h1:=ha.ev (by rw [ho];simp [Op.operands,Call.operands]) hx
  have h2:=ha.ev (by rw [ho];simp [Op.operands,Call.operands]) hy
  simp [execOp,ho,resolve,invoke,builtin,Builtin.max_,Builtin.max2,h1,h2,go_sem]
theorem val_min {t u:TypeId} {x y:Operand} {a b:Int} (ho:o.op=.call { callee:=.builtin .min,args:=#[x,y],argTypes:=#[t,u] }) (hx:ev L x=some (int a)) (hy:ev L y=some (int b)):Val P L w o (int (if b<a then b else a)):=fun ρ ha=>by
  have h1:=ha.ev (by rw [ho];simp [Op.operands,Call.operands]) hx
  have h2:=ha.ev (by rw [ho];simp [Op.operands,Call.operands]) hy
  simp [execOp,ho,resolve,invoke,builtin,Builtin.min_,Builtin.min2,h1,h2,go_sem]
structure TwoInts (P:Program) (t e:TypeId):Prop where
  st:P.underlying t=some (.struct (P.fieldsOf t))
  hp:P.stoodInHeld t=false
  hg:P.eqGuardType P.depth t=false
  hf:((P.fieldsOf t).toList.map fun f=>(f.name== "_",f.type,f.offset))=[(false,e,0),(false,e,1)]
  he:P.underlying e=some (.int .i64)
theorem run_part_int {e:TypeId} {xs:Array Value} {off:Nat} {v:Value} (he:P.underlying e=some (.int .i64)) (hx:xs[off]?=some v):(part e xs off).run P w=.ok v w:=by
  have h3:(isAgg e).run P w=.ok false w:=by simp [isAgg,run_underlying he]
  simp [part,h3,hx]
theorem run_eq_two {t e : TypeId} (h : TwoInts P t e) (a b c d : Int) : (Op.equalIn 10000 t (.agg #[int a, int b]) (.agg #[int c, int d])).run P w = .ok (decide (a = c) && decide (b = d)) w := by
  rw [run_equalIn_struct w 9999 t _ _ h.st h.hp]
  have hf:=h.hf
  obtain⟨f,g,hl⟩:∃ f g,(P.fieldsOf t).toList=[f,g]:=by
    have:=congrArg List.length hf
    rw [List.length_map] at this
    generalize (P.fieldsOf t).toList=l at this ⊢
    cases l with
    | nil=>simp at this
    | cons f l=>cases l with
      | nil=>simp at this
      | cons g l=>cases l with
        | nil=>exact⟨f,g,rfl⟩
        | cons=>simp at this
  rw [hl] at hf ⊢
  ·
    simp only [List.map_cons,List.map_nil,List.cons.injEq,Prod.mk.injEq,and_true] at hf
    obtain⟨⟨n1,t1,o1⟩,n2,t2,o2⟩:=hf
    have m1:f.name≠ "_" := by simpa using n1
    have m2:g.name≠ "_" := by simpa using n2
    have p1:=fun(xs:Array Value) v (hx:xs[0]?=some v)=>run_part_int (P:=P) (w:=w) h.he hx
    have p2:=fun(xs:Array Value) v (hx:xs[1]?=some v)=>run_part_int (P:=P) (w:=w) h.he hx
    have q:=fun x y=>run_equalIn_int (P:=P) w 9998 e .i64 .i64 x y h.he
    simp only [Op.eqFields,t1,o1,t2,o2,m1,m2,ne_eq,not_false_eq_true,if_true,Sem.run_bind]
    rw [p1 _ (int a) rfl]
    simp only [Result.andThen_ok]
    rw [p1 _ (int c) rfl]
    simp only [Result.andThen_ok]
    rw [q]
    simp only [Result.andThen_ok]
    by_cases hac:a=c
    · subst hac
      simp only [beq_self_eq_true,Bool.not_true,Bool.false_eq_true,if_false,Sem.run_bind]
      rw [p2 _ (int b) rfl]
      simp only [Result.andThen_ok]
      rw [p2 _ (int d) rfl]
      simp only [Result.andThen_ok]
      rw [q]
      simp only [Result.andThen_ok]
      by_cases hbd:b=d
      · subst hbd;simp
      · simp [hbd]
    · simp [hac]
theorem val_ne_two {t e u:TypeId} {x y:Operand} {a b c d:Int} (h:TwoInts P t e) (ho:o.op=.binOp .neq t x y u) (hx:ev L x=some (.agg #[int a,int b])) (hy:ev L y=some (.agg #[int c,int d])):Val P L w o (.bool (!(decide (a=c)&&decide (b=d)))):=fun ρ ha=>by
  have h1:=ha.ev (by rw [ho];simp [Op.operands]) hx
  have h2:=ha.ev (by rw [ho];simp [Op.operands]) hy
  have h3:=run_eqGuard_agg (P:=P) w .neq t x y #[int a,int b] #[int c,int d] h.hg
  have h4:=run_neq_struct (P:=P) w t #[int a,int b] #[int c,int d]
  have h5:=run_eq_two (w:=w) h a b c d
  simp [execOp,ho,h1,h2,h3,h4,h5,go_sem]
theorem val_ne_two_b {t e u:TypeId} {x y:Operand} {a b c d:Int} {r:Bool} (h:TwoInts P t e) (ho:o.op=.binOp .neq t x y u) (hx:ev L x=some (.agg #[int a,int b])) (hy:ev L y=some (.agg #[int c,int d])) (hr:r=!(decide (a=c)&&decide (b=d))):Val P L w o (.bool r):=hr▸val_ne_two h ho hx hy
theorem val_eq_two {t e u:TypeId} {x y:Operand} {a b c d:Int} (h:TwoInts P t e) (ho:o.op=.binOp .eql t x y u) (hx:ev L x=some (.agg #[int a,int b])) (hy:ev L y=some (.agg #[int c,int d])):Val P L w o (.bool (decide (a=c)&&decide (b=d))):=fun ρ ha=>by
  have h1:=ha.ev (by rw [ho];simp [Op.operands]) hx
  have h2:=ha.ev (by rw [ho];simp [Op.operands]) hy
  have h3:=run_eqGuard_agg (P:=P) w .eql t x y #[int a,int b] #[int c,int d] h.hg
  have h4:=run_eql_struct (P:=P) w t #[int a,int b] #[int c,int d]
  have h5:=run_eq_two (w:=w) h a b c d
  simp [execOp,ho,h1,h2,h3,h4,h5,go_sem]
end
theorem ret_ct {P:Program} {n:Nat} {L:List (Nat × Value)} {w:World} {fn:Func} {S:Value→World→Prop} {s u:Tmp} {x:Value} {ty:TypeId} {d:TypeDesc} {b off:Nat} {cs:List Value} {z:Value} {size bytes:Nat} [UT P ty d] [TI P ty z size bytes] (hr:fn.results=#[.cell s ty,.tmp u])
    (hd:isAggD d=true) (hv:lk L s=some (.pointer (some ⟨b,off,none⟩))) (hc:At w b off cs) (hl:Nat.beq cs.length size=true) (hx:lk L u=some x) (hs:S (.tuple #[.agg cs.toArray,x]) w):K n (bodyPost P fn (Rt S)) .ret L w:=fun a ha=>by
  refine⟨ha.nod,.tuple #[.agg cs.toArray,x],?_,_,rfl,hs⟩
  have h1:=ha.get s _ hv
  have h2:=ha.get u _ hx
  have h3:=run_isAgg (P:=P) (t:=ty) w
  rw [hd] at h3
  obtain⟨i0,hi0,_,hsz,_⟩:=run_ti (P:=P) (t:=ty) w
  have h4:=run_loadCells_list (P:=P) w ⟨b,off,none⟩ cs (fun j v hv=>by rw [addr_add];exact hc j v hv)
  rw [Nat.eq_of_beq_eq_true hl] at h4
  unfold loadCells at h4
  simp [results,hr,Array.getD_eq_getD_getElem?,h1,h2,Instr.loadAt,Instr.sureAddr,loadVar,go_sem,h3,sizeOf,hi0,hsz,h4]
end Go.En
namespace Go.En
theorem kmin (k:IntKind):k.min=(match k with | .i8 => -128 | .i16 => -32768 | .i32 => -2147483648 | .i64 => -9223372036854775808 | .u8=>0 | .u16=>0 | .u32=>0 | .u64=>0:Int):=by cases k <;> rfl
theorem kmax (k:IntKind):k.max=(match k with | .i8=>127 | .i16=>32767 | .i32=>2147483647 | .i64=>9223372036854775807 | .u8=>255 | .u16=>65535 | .u32=>4294967295 | .u64=>18446744073709551615:Int):=by cases k <;> rfl
end Go.En
