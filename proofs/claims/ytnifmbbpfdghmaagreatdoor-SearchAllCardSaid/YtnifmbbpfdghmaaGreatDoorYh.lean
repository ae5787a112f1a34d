/-
  Walks: the program's Texts and Build. Right indexes, plainly: after any Puts and Takes. Indexes of documents, plainly: what is built, updated, counted.
-/
import Derived.Test.YtnifmbbpfdghmaaGreatDoorYg
import Derived.Test.YtnifmbbpfdghmaaGreatDoorYl
import Derived.Test.YtnifmbbpfdghmaaGreatDoorDa
set_option linter.all false
namespace Go.Proofs.YtnifmbbpfdghmaaGreatDoor.Ix
open Go.RowKit Go.En
def roleAt (ts:List Tier) (n:Note):Int:=match ts[n.tier.toNat]? with|some t=>t.role|none=>0
def putN (ts:List Tier) (xs:List Post) (n:Note):List Post:=putF xs (roleAt ts n) n.text n.id
def buildF (ts:List Tier) (ns:List Note):List Post:=ns.foldl (putN ts) []
theorem build_take {ts:List Tier} {ns:List Note} {i:Nat} {n:Note} (h:ns[i]?=some n):buildF ts (ns.take (i+1))=putF (buildF ts (ns.take i)) (roleAt ts n) n.text n.id:=by
  obtain⟨hi,rfl⟩:=List.getElem?_eq_some_iff.1 h
  unfold buildF
  rw [List.take_succ_eq_append_getElem hi,List.foldl_append];rfl
def Small (k:Nat) (xs:List Post):Prop:=xs.length≤k∧∀ p∈xs,p.ids.length≤k
theorem with_len (ids:List Int) (id:Int):(withF ids id).length≤ids.length+1:=by
  unfold withF
  split
  · omega
  · have:=withN_le ids id;simp;omega
theorem Small.put {k : Nat} {xs : List Post} (h : Small k xs) (r : Int) (t : List UInt8) (id : Int) : Small (k + 1) (putF xs r t id) := by
  have hpl:=placeN_le xs r t
  have new:Small (k+1) (xs.take (placeN xs r t)++⟨r,t,[id]⟩::xs.drop (placeN xs r t)):=by
    refine⟨by simp;have:=h.1;omega,fun p hp=>?_⟩
    rcases List.mem_append.1 hp with hp|hp
    · have:=h.2 p (List.mem_of_mem_take hp);omega
    · rcases List.mem_cons.1 hp with rfl|hp
      · simp
      · have:=h.2 p (List.mem_of_mem_drop hp);omega
  unfold putF
  split
  · split
    · rename_i p hp
      split
      · refine⟨by simp;have:=h.1;omega,fun q hq=>?_⟩
        rcases List.mem_or_eq_of_mem_set hq with hq|rfl
        · have:=h.2 q hq;omega
        · have:=with_len p.ids id
          have:=h.2 p (List.mem_of_getElem? hp)
          dsimp only;omega
      · exact new
    · exact new
  · exact⟨by have:=h.1;omega,fun p hp=>by have:=h.2 p hp;omega⟩
theorem Small.build (ts:List Tier) (ns:List Note):∀ i,Small i (buildF ts (ns.take i))
  | 0=>⟨by simp [buildF],by simp [buildF]⟩
  | i + 1 => by
    by_cases h:i<ns.length
    · rw [build_take (List.getElem?_eq_getElem h)]
      exact(Small.build ts ns i).put _ _ _
    · have:=Small.build ts ns i
      rw [List.take_of_length_le (by omega)] at this ⊢
      exact⟨by have:=this.1;omega,fun p hp=>by have:=this.2 p hp;omega⟩
attribute [local irreducible] E EL K Val Enters Rt Calls bodyPost Code.wp RQ
end Go.Proofs.YtnifmbbpfdghmaaGreatDoor.Ix
namespace Go.Proofs.YtnifmbbpfdghmaaGreatDoor.Ix
open Go.RowKit Go.En
structure Mv where
  put:Bool
  role:Int
  text:List UInt8
  id:Int
instance:Rep Mv where
  sz:=4
  pos:=by decide
  at_ _ _ m cs:=cs=[.bool m.put,int m.role,str m.text,int m.id]
  len h:=by rw [h];rfl
  one h:=by rw [h];rfl
  move h _:=h
theorem mem_find {xs:List Post} (ho:Ordered xs) {r:Int} {t:List UInt8} {k:Int}:k∈findF xs r t↔∃ p∈xs,p.role=r∧p.text=t∧k∈p.ids:=by
  obtain⟨A,B,_,hA,hc⟩:=split ho r t
  rcases hc with⟨rfl,hB⟩|⟨p,rfl,hr,ht,hB⟩
  · rw [find_c1 hA hB]
    refine⟨fun h=>by simp at h,?_⟩
    rintro⟨p,hp,h1,h2,_⟩
    rcases List.mem_append.1 hp with hp|hp
    · exact absurd ⟨h1,h2⟩ (low_key hA p hp)
    · exact absurd ⟨h1,h2⟩ (not_key (hB p hp))
  · rw [find_c2 hA ⟨hr,ht⟩]
    refine⟨fun h=>⟨p,by simp,hr,ht,h⟩,?_⟩
    rintro⟨q,hq,h1,h2,h3⟩
    rcases List.mem_append.1 hq with hq|hq
    · exact absurd ⟨h1,h2⟩ (low_key hA q hq)
    · rcases List.mem_cons.1 hq with rfl|hq
      · exact h3
      · exact absurd ⟨h1,h2⟩ (not_key (hB q hq))
theorem right_nil:Right []:=⟨fun p hp=>by simp at hp,fun i j p q _ hp=>by simp at hp⟩
theorem put_right {xs:List Post} (hR:Right xs) (r:Int) (t:List UInt8) (id:Int):Right (putF xs r t id):=(keeps hR r t id).1
theorem take_right {xs:List Post} (hR:Right xs) (r:Int) (t:List UInt8) (id:Int):Right (takeF xs r t id):=by
  obtain⟨A,B,_,hA,hc⟩:=split hR.2 r t
  rcases hc with⟨rfl,hB⟩|⟨p,rfl,hr,ht,hB⟩
  · rw [take_c1 hA hB];exact hR
  · obtain⟨hRA,hRB,hAB⟩:=right_app.1 hR
    have hgood:=hRB.1 p (List.mem_cons_self ..)
    have hBr:Right B:=⟨fun q hq=>hRB.1 q (List.mem_cons_of_mem _ hq),(ord_cons.1 hRB.2).2⟩
    have hAB':∀ p∈A,∀ q∈B,ltK p.role p.text q.role q.text:=fun a ha q hq=>hAB a ha q (List.mem_cons_of_mem _ hq)
    rw [take_c2 hA ⟨hr,ht⟩]
    split
    · exact right_app.2 ⟨hRA,hBr,hAB'⟩
    · rename_i hne
      exact right_mid hRA hBr hAB' ⟨by rw [← hr];exact hgood.1,hne,filter_rise hgood.2.2⟩ hA hB
theorem with_mem {ids:List Int} {id k:Int} (h:rise ids=true):k∈withF ids id↔k∈ids∨k=id:=by
  rcases with_val (id:=id) h with⟨hm,e⟩|⟨_,L,R,hx,e,_,_⟩
  · rw [e]
    exact⟨.inl,fun h=>h.elim (fun h=>h) (fun h=>h▸hm)⟩
  · rw [e,hx];simp only [List.mem_append,List.mem_cons]
    constructor
    · rintro(h|h|h)
      · exact .inl (.inl h)
      · exact .inr h
      · exact .inl (.inr h)
    · rintro((h|h)|h)
      · exact .inl h
      · exact .inr (.inr h)
      · exact .inr (.inl h)
theorem mem_mid {A B:List Post} {q:Post} {f:Post→Prop}:(∃ p∈A++q::B,f p)↔(∃ p∈A++B,f p)∨f q:=by
  constructor
  · rintro⟨p,hp,h⟩
    rcases List.mem_append.1 hp with hp|hp
    · exact .inl ⟨p,List.mem_append_left _ hp,h⟩
    · rcases List.mem_cons.1 hp with rfl|hp
      · exact .inr h
      · exact .inl ⟨p,List.mem_append_right _ hp,h⟩
  · rintro(⟨p,hp,h⟩|h)
    · rcases List.mem_append.1 hp with hp|hp
      · exact⟨p,by simp [hp],h⟩
      · exact⟨p,by simp [hp],h⟩
    · exact⟨q,by simp,h⟩
theorem mem_put {xs : List Post} (hR : Right xs) (r : Int) (t : List UInt8) (id : Int) {r' : Int} {t' : List UInt8} {k : Int} :
    k∈findF (putF xs r t id) r' t'↔k∈findF xs r' t'∨(isRole r=true∧r=r'∧t=t'∧id=k):=by
  by_cases hrole:isRole r=true
  · rw [mem_find (put_right hR r t id).2,mem_find hR.2]
    obtain⟨A,B,_,hA,hc⟩:=split hR.2 r t
    rcases hc with⟨rfl,hB⟩|⟨p,rfl,hr,ht,hB⟩
    · rw [put_c1 hA hB hrole,mem_mid]
      simp only [List.mem_singleton,hrole,true_and,eq_comm (a:=k)]
    · have hgood:=hR.1 p (by simp)
      rw [put_c2 hA ⟨hr,ht⟩ hrole,mem_mid,mem_mid]
      dsimp only
      rw [with_mem hgood.2.2,hr,ht]
      simp only [hrole,true_and,or_assoc]
      apply or_congr Iff.rfl
      constructor
      · rintro⟨h1,h2,h3|h3⟩
        · exact .inl ⟨h1,h2,h3⟩
        · exact .inr ⟨h1,h2,h3.symm⟩
      · rintro(⟨h1,h2,h3⟩|⟨h1,h2,h3⟩)
        · exact⟨h1,h2,.inl h3⟩
        · exact⟨h1,h2,.inr h3.symm⟩
  · have hp:putF xs r t id=xs:=by unfold putF;rw [if_neg hrole]
    rw [hp];simp [hrole]
theorem mem_take {xs : List Post} (hR : Right xs) (r : Int) (t : List UInt8) (id : Int) {r' : Int} {t' : List UInt8} {k : Int} :
    k∈findF (takeF xs r t id) r' t'↔k∈findF xs r' t'∧¬ (r=r'∧t=t'∧id=k):=by
  obtain⟨A,B,_,hA,hc⟩:=split hR.2 r t
  rcases hc with⟨rfl,hB⟩|⟨p,rfl,hr,ht,hB⟩
  · rw [take_c1 hA hB]
    refine⟨fun h=>⟨h,?_⟩,fun h=>h.1⟩
    rintro⟨rfl,rfl,rfl⟩
    rw [find_c1 hA hB] at h;simp at h
  · have ho':=(take_right hR r t id).2
    rw [mem_find ho',mem_find hR.2,take_c2 hA ⟨hr,ht⟩,mem_mid]
    have e:(∃ p_1∈A++((if (p.ids.filter fun n=>decide (n≠id))=[] then [] else [⟨r,t,p.ids.filter fun n=>decide (n≠id)⟩])++B),p_1.role=r'∧p_1.text=t'∧k∈p_1.ids)↔
        (∃ q∈A++B,q.role=r'∧q.text=t'∧k∈q.ids)∨(r=r'∧t=t'∧k∈p.ids∧k≠id):=by
      split
      · rename_i hf
        rw [List.nil_append]
        refine⟨.inl,fun h=>h.resolve_right ?_⟩
        rintro⟨_,_,h1,h2⟩
        have:k∈p.ids.filter fun n=>decide (n≠id):=List.mem_filter.2 ⟨h1,by simpa using h2⟩
        rw [hf] at this;simp at this
      · rw [List.singleton_append,mem_mid]
        dsimp only
        rw [List.mem_filter,decide_eq_true_eq]
    rw [e,hr,ht]
    have hne:∀ q∈A++B,¬ (q.role=r∧q.text=t):=fun q hq=>(List.mem_append.1 hq).elim (low_key hA q) (fun h=>not_key (hB q h))
    constructor
    · rintro(⟨q,hq,h1,h2,h3⟩|⟨h1,h2,h3,h4⟩)
      · refine⟨.inl ⟨q,hq,h1,h2,h3⟩,?_⟩
        rintro⟨rfl,rfl,_⟩;exact hne q hq ⟨h1,h2⟩
      · exact⟨.inr ⟨h1,h2,h3⟩,fun h=>h4 h.2.2.symm⟩
    · rintro⟨h|⟨h1,h2,h3⟩,hn⟩
      · exact .inl h
      · exact .inr ⟨h1,h2,h3,fun h=>hn ⟨h1,h2,h.symm⟩⟩
def moveF (xs:List Post) (m:Mv):List Post:=if m.put then putF xs m.role m.text m.id else takeF xs m.role m.text m.id
def movesF (l:List Mv):List Post:=l.foldl moveF []
def sameK (a b:Mv):Bool:=decide (a.role=b.role)&&(decide (a.text=b.text)&&decide (a.id=b.id))
def lastStep (k:Mv) (acc:Bool) (m:Mv):Bool:=if sameK m k then m.put else acc
theorem move_right {xs:List Post} (h:Right xs) (m:Mv):Right (moveF xs m):=by
  unfold moveF;split
  · exact put_right h _ _ _
  · exact take_right h _ _ _
theorem moves_right2:∀(l:List Mv) {xs:List Post},Right xs→Right (l.foldl moveF xs)
  | [],_,h=>h
  | m::l,_,h=>moves_right2 l (move_right h m)
theorem moves_go (k : Mv) (hk : isRole k.role = true) : ∀ (l : List Mv) {xs : List Post}, Right xs → decide (k.id ∈ findF (l.foldl moveF xs) k.role k.text) = l.foldl (lastStep k) (decide (k.id ∈ findF xs k.role k.text))
  | [],_,_=>rfl
  | m :: l, xs, h => by
    rw [List.foldl_cons,List.foldl_cons,moves_go k hk l (move_right h m)]
    congr 1
    unfold lastStep sameK moveF
    cases hp:m.put with
    | true=>
      simp only [if_true]
      have e:=mem_put h m.role m.text m.id (r':=k.role) (t':=k.text) (k:=k.id)
      by_cases hm:m.role=k.role∧m.text=k.text∧m.id=k.id
      · rw [decide_eq_true (e.2 (.inr ⟨by rw [hm.1];exact hk,hm.1,hm.2.1,hm.2.2⟩))]
        obtain⟨h1,h2,h3⟩:=hm
        simp [h1,h2,h3]
      · have hm2:(decide (m.role=k.role)&&(decide (m.text=k.text)&&decide (m.id=k.id)))=false:=by simpa [← Bool.decide_and] using hm
        rw [hm2]
        simp only [Bool.false_eq_true,if_false]
        exact decide_eq_decide.2 (e.trans ⟨fun h=>h.resolve_right fun h=>hm h.2,.inl⟩)
    | false=>
      simp only [Bool.false_eq_true,if_false]
      have e:=mem_take h m.role m.text m.id (r':=k.role) (t':=k.text) (k:=k.id)
      by_cases hm:m.role=k.role∧m.text=k.text∧m.id=k.id
      · rw [decide_eq_false (fun h=>(e.1 h).2 hm)]
        obtain⟨h1,h2,h3⟩:=hm
        simp [h1,h2,h3]
      · have hm2:(decide (m.role=k.role)&&(decide (m.text=k.text)&&decide (m.id=k.id)))=false:=by simpa [← Bool.decide_and] using hm
        rw [hm2]
        simp only [Bool.false_eq_true,if_false]
        exact decide_eq_decide.2 (e.trans ⟨fun h=>h.1,fun h=>⟨h,hm⟩⟩)
theorem moves_take {l:List Mv} {i:Nat} {m:Mv} (h:l[i]?=some m):movesF (l.take (i+1))=moveF (movesF (l.take i)) m:=by
  obtain⟨hi,rfl⟩:=List.getElem?_eq_some_iff.1 h
  unfold movesF
  rw [List.take_succ_eq_append_getElem hi,List.foldl_append];rfl
theorem Small.take3 {k : Nat} {xs : List Post} (h : Small k xs) (r : Int) (t : List UInt8) (id : Int) : Small k (takeF xs r t id) := by
  unfold takeF
  split
  · exact h
  · rename_i p hp
    have hlt:=(List.getElem?_eq_some_iff.1 hp).1
    have hpl:=placeN_le xs r t
    split
    · refine ⟨?_, fun q hq => ?_⟩
      · have:=h.1
        split <;> simp <;> omega
      · rcases List.mem_append.1 hq with hq|hq
        · exact h.2 q (List.mem_of_mem_take hq)
        · rcases List.mem_append.1 hq with hq|hq
          · split at hq
            · simp at hq
            · simp only [List.mem_singleton] at hq
              subst hq
              have:=h.2 p (List.mem_of_getElem? hp)
              have:=List.length_filter_le (fun n=>decide (n≠id)) p.ids
              dsimp only;omega
          · exact h.2 q (List.mem_of_mem_drop hq)
    · exact h
theorem Small.move {k:Nat} {xs:List Post} (h:Small k xs) (m:Mv):Small (k+1) (moveF xs m):=by
  unfold moveF;split
  · exact h.put _ _ _
  · have:=h.take3 m.role m.text m.id
    exact⟨by have:=this.1;omega,fun p hp=>by have:=this.2 p hp;omega⟩
theorem Small.moves (l:List Mv):∀ i,Small i (movesF (l.take i))
  | 0=>⟨by simp [movesF],by simp [movesF]⟩
  | i + 1 => by
    by_cases h:i<l.length
    · rw [moves_take (List.getElem?_eq_getElem h)]
      exact(Small.moves l i).move _
    · have:=Small.moves l i
      rw [List.take_of_length_le (by omega)] at this ⊢
      exact⟨by have:=this.1;omega,fun p hp=>by have:=this.2 p hp;omega⟩
end Go.Proofs.YtnifmbbpfdghmaaGreatDoor.Ix
namespace Go.Proofs.YtnifmbbpfdghmaaGreatDoor.Ix
open Go.RowKit Go.En
def mvN (b:Bool) (ts:List Tier) (n:Note):Mv:=⟨b,roleAt ts n,n.text,n.id⟩
def offF (ts:List Tier) (ns:List Note) (xs:List Post):List Post:=(ns.map (mvN false ts)).foldl moveF xs
def onF (ts:List Tier) (ns:List Note) (xs:List Post):List Post:=(ns.map (mvN true ts)).foldl moveF xs
def updF (xs:List Post) (o n:Dc):List Post:=onF n.tiers n.notes (offF o.tiers o.notes xs)
theorem build_on (ts:List Tier) (ns:List Note):buildF ts ns=onF ts ns []:=by
  unfold buildF onF
  rw [List.foldl_map];rfl
theorem off_right (ts:List Tier) (ns:List Note) {xs:List Post} (h:Right xs):Right (offF ts ns xs):=moves_right2 _ h
theorem on_right (ts:List Tier) (ns:List Note) {xs:List Post} (h:Right xs):Right (onF ts ns xs):=moves_right2 _ h
theorem build_right (ts:List Tier) (ns:List Note):Right (buildF ts ns):=by rw [build_on];exact on_right _ _ right_nil
theorem off_take {ts:List Tier} {ns:List Note} {xs:List Post} {i:Nat} {n:Note} (h:ns[i]?=some n):offF ts (ns.take (i+1)) xs=takeF (offF ts (ns.take i) xs) (roleAt ts n) n.text n.id:=by
  obtain⟨hi,rfl⟩:=List.getElem?_eq_some_iff.1 h
  unfold offF
  rw [List.take_succ_eq_append_getElem hi,List.map_append,List.foldl_append];rfl
theorem on_take {ts:List Tier} {ns:List Note} {xs:List Post} {i:Nat} {n:Note} (h:ns[i]?=some n):onF ts (ns.take (i+1)) xs=putF (onF ts (ns.take i) xs) (roleAt ts n) n.text n.id:=by
  obtain⟨hi,rfl⟩:=List.getElem?_eq_some_iff.1 h
  unfold onF
  rw [List.take_succ_eq_append_getElem hi,List.map_append,List.foldl_append];rfl
theorem last_ons (k:Mv):∀(l:List Mv) (acc:Bool),(∀ m∈l,m.put=true)→l.foldl (lastStep k) acc=(acc||l.any fun m=>sameK m k)
  | [],acc,_=>by simp
  | m::l,acc,h=>by
    rw [List.foldl_cons,last_ons k l _ (fun x hx=>h x (List.mem_cons_of_mem _ hx)),List.any_cons]
    unfold lastStep
    rw [h m (List.mem_cons_self ..)]
    cases sameK m k <;> simp
theorem mem_build (ts:List Tier) (ns:List Note) (k:Mv) (hk:isRole k.role=true):decide (k.id∈findF (buildF ts ns) k.role k.text)=(ns.map (mvN true ts)).any fun m=>sameK m k:=by
  rw [build_on]
  unfold onF
  rw [moves_go k hk _ right_nil,last_ons _ _ _ (fun m hm=>by obtain⟨n,_,rfl⟩:=List.mem_map.1 hm;rfl)]
  rw [show findF [] k.role k.text=[] from rfl,decide_eq_false (fun h:k.id∈([]:List Int)=>by cases h),Bool.false_or]
def sumIds (xs:List Post):Nat:=(xs.map fun p=>p.ids.length).sum
theorem sum_put {xs:List Post} (hR:Right xs) {r:Int} {t:List UInt8} {id:Int} (hr:isRole r=true) (hn:id∉findF xs r t):sumIds (putF xs r t id)=sumIds xs+1:=by
  obtain⟨A,B,_,hA,hc⟩:=split hR.2 r t
  rcases hc with⟨rfl,hB⟩|⟨p,rfl,hr',ht,hB⟩
  · rw [put_c1 hA hB hr]
    simp [sumIds];omega
  · have hgood:=hR.1 p (by simp)
    rw [find_c2 hA ⟨hr',ht⟩] at hn
    rw [put_c2 hA ⟨hr',ht⟩ hr]
    rcases with_val (id:=id) hgood.2.2 with⟨hm,_⟩|⟨_,L,R,hx,e,_,_⟩
    · exact absurd hm hn
    · simp only [sumIds,List.map_append,List.map_cons,List.sum_append,List.sum_cons]
      rw [e,hx];simp;omega
def cntF (ts:List Tier) (ns:List Note):Nat:=(ns.filter fun n=>!decide (roleAt ts n=0)).length
theorem cnt_take {ts:List Tier} {ns:List Note} {i:Nat} {n:Note} (h:ns[i]?=some n):cntF ts (ns.take (i+1))=cntF ts (ns.take i)+(if roleAt ts n=0 then 0 else 1):=by
  obtain⟨hi,rfl⟩:=List.getElem?_eq_some_iff.1 h
  unfold cntF
  rw [List.take_succ_eq_append_getElem hi,List.filter_append,List.length_append]
  split <;> simp [*]
theorem once (ts:List Tier) (ns:List Note) (hrole:∀ n∈ns,roleAt ts n=0∨isRole (roleAt ts n)=true) (hid:ns.Pairwise fun a b=>a.id<b.id) :
    ∀ i,i≤ns.length→sumIds (buildF ts (ns.take i))=cntF ts (ns.take i)
  | 0,_=>rfl
  | i + 1, hi => by
    have ih:=once ts ns hrole hid i (by omega)
    have hlt:i<ns.length:=by omega
    have hn:ns[i]?=some ns[i]:=List.getElem?_eq_getElem hlt
    rw [build_take hn,cnt_take hn]
    rcases hrole ns[i] (List.getElem_mem hlt) with h0|h1
    · rw [if_pos h0]
      have:isRole (roleAt ts ns[i])=false:=by rw [h0];rfl
      unfold putF
      rw [this];simpa using ih
    · have hne:roleAt ts ns[i]≠0:=fun h=>by rw [h] at h1;cases h1
      rw [if_neg hne,sum_put (build_right _ _) h1 ?_,ih]
      intro hm
      have hb:=mem_build ts (ns.take i) ⟨true,roleAt ts ns[i],ns[i].text,ns[i].id⟩ h1
      rw [decide_eq_true hm] at hb
      obtain⟨m,hm1,hm2⟩:=List.any_eq_true.1 hb.symm
      obtain⟨n,hn1,rfl⟩:=List.mem_map.1 hm1
      obtain⟨j,hj⟩:=List.getElem?_of_mem hn1
      have hji:j<i:=by have:=(List.getElem?_eq_some_iff.1 hj).1;rw [List.length_take] at this;omega
      rw [List.getElem?_take_of_lt hji] at hj
      obtain⟨hj1,rfl⟩:=List.getElem?_eq_some_iff.1 hj
      have hlt2:=List.pairwise_iff_getElem.1 hid j i hj1 hlt hji
      unfold sameK mvN at hm2
      simp at hm2
      omega
theorem Small.off (ts:List Tier) (ns:List Note) {k:Nat} {xs:List Post} (h:Small k xs):Small k (offF ts ns xs):=by
  unfold offF
  induction ns generalizing xs with
  | nil=>exact h
  | cons n r ih=>exact ih (h.take3 _ _ _)
theorem Small.on (ts:List Tier) (ns:List Note) {k:Nat} {xs:List Post} (h:Small k xs):Small (k+ns.length) (onF ts ns xs):=by
  unfold onF
  induction ns generalizing xs k with
  | nil=>exact h
  | cons n r ih=>
    have:=ih (k:=k+1) (h.put (roleAt ts n) n.text n.id)
    rw [List.length_cons,show k+(r.length+1)=k+1+r.length by omega]
    exact this
theorem Small.wk {k m:Nat} {xs:List Post} (h:Small k xs) (hkm:k≤m):Small m xs:=⟨by have:=h.1;omega,fun p hp=>by have:=h.2 p hp;omega⟩
end Go.Proofs.YtnifmbbpfdghmaaGreatDoor.Ix
