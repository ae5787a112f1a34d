/-
  Lists of numbers that rise: each is told by its members; numbers put in, sorted, joined, taken out. What Then, Within, Has and queries find, as lists of Ids that rise. What queries find in a document, as lists of Ids that rise: Then, Within, Has, And, Or, Not; the laws of logic. Laws of what queries find: the operators with two Kids find among what the first one finds, and no less if the Kids find more; And, Or, Not. What the steps of the program and of the reference come to, as lists of Ids that rise.
-/
import Derived.Test.YtnifmbbpfdghmaaGreatDoorY4
import Derived.Test.YtnifmbbpfdghmaaGreatDoorXa
import Derived.Test.YtnifmbbpfdghmaaGreatDoorY1
import Derived.Test.YtnifmbbpfdghmaaGreatDoorY8
set_option linter.all false
namespace Go.Proofs.YtnifmbbpfdghmaaGreatDoor
def Rise (l:List Int):Prop:=l.Pairwise (·<·)
theorem rise_ext : ∀ {a b : List Int}, Rise a → Rise b → (∀ x, x ∈ a ↔ x ∈ b) → a = b
  | [],[],_,_,_=>rfl
  | [],y::b,_,_,h=>absurd ((h y).2 (.head _)) (by simp)
  | x::a,[],_,_,h=>absurd ((h x).1 (.head _)) (by simp)
  | x :: a, y :: b, ha, hb, h => by
    obtain⟨a1,a2⟩:=List.pairwise_cons.1 ha
    obtain⟨b1,b2⟩:=List.pairwise_cons.1 hb
    have hxy:x=y:=by
      rcases List.mem_cons.1 ((h x).1 (.head _)) with e|h1
      · exact e
      · rcases List.mem_cons.1 ((h y).2 (.head _)) with e|h2
        · exact e.symm
        · have:=b1 x h1;have:=a1 y h2;omega
    subst hxy
    rw [rise_ext a2 b2 fun z=>?_]
    constructor
    · intro hz
      rcases List.mem_cons.1 ((h z).1 (.tail _ hz)) with e|h1
      · have:=a1 z hz;omega
      · exact h1
    · intro hz
      rcases List.mem_cons.1 ((h z).2 (.tail _ hz)) with e|h1
      · have:=b1 z hz;omega
      · exact h1
theorem Rise.nodup {l:List Int} (h:Rise l):l.Nodup:=h.imp fun {a b} hab e=>by omega
theorem Rise.filter {l:List Int} (h:Rise l) (p:Int→Bool):Rise (l.filter p):=List.Pairwise.filter _ h
theorem Rise.sub {l m:List Int} (h:Rise l) (s:m.Sublist l):Rise m:=List.Pairwise.sublist s h
theorem ids_Rise {d:Dc} (h:LightD d):Rise (d.notes.map fun n=>n.id):=List.pairwise_map.2 (ids_rise h)
def idsOf (d:Dc) (p:Int→Bool):List Int:=(d.notes.map fun n=>n.id).filter p
theorem idsOf_rise {d:Dc} (h:LightD d) (p:Int→Bool):Rise (idsOf d p):=(ids_Rise h).filter p
theorem idsOf_mem {d:Dc} {p:Int→Bool} {x:Int}:x∈idsOf d p↔(∃ n∈d.notes,n.id=x)∧p x=true:=by
  unfold idsOf
  rw [List.mem_filter,List.mem_map]
theorem idsOf_len {d:Dc} (p:Int→Bool):(idsOf d p).length≤d.notes.length:=by
  have:=List.length_filter_le p (d.notes.map fun n=>n.id)
  rw [List.length_map] at this
  exact this
theorem idsOf_eq {d:Dc} (h:LightD d) {p:Int→Bool} {l:List Int} (hl:Rise l) (hm:∀ x,x∈l↔(∃ n∈d.notes,n.id=x)∧p x=true):l=idsOf d p:=
  rise_ext hl (idsOf_rise h p) fun x=>(hm x).trans idsOf_mem.symm
end Go.Proofs.YtnifmbbpfdghmaaGreatDoor
namespace Go.Proofs.YtnifmbbpfdghmaaGreatDoor
theorem withN_split {l : List Int} {n : Int} (h : Rise l) : ∃ s r, l = s ++ r ∧ withN l n = s.length ∧ (∀ x ∈ s, x < n) ∧ ∀ x ∈ r, n ≤ x := by
  refine⟨l.takeWhile (fun z=>decide (z<n)),l.dropWhile (fun z=>decide (z<n)),(List.takeWhile_append_dropWhile ..).symm,rfl,fun x hx=>?_,fun x hx=>?_⟩
  · have:=List.all_takeWhile (p:=fun z=>decide (z<n)) (l:=l)
    exact of_decide_eq_true (List.all_eq_true.1 this x hx)
  · have hr:Rise (l.dropWhile (fun z=>decide (z<n))):=h.sub (List.dropWhile_sublist _)
    cases hd:l.dropWhile (fun z=>decide (z<n)) with
    | nil=>rw [hd] at hx;cases hx
    | cons y r=>
      have hy:¬ y<n:=by
        have:=List.head?_dropWhile_not (fun z=>decide (z<n)) l
        rw [hd] at this
        simpa using this
      rw [hd] at hx hr
      obtain⟨h1,_⟩:=List.pairwise_cons.1 hr
      rcases List.mem_cons.1 hx with rfl|hx
      · omega
      · have:=h1 x hx;omega
theorem nput_rise {l : List Int} {n : Int} (h : Rise l) : Rise (nputF l n) ∧ ∀ x, x ∈ nputF l n ↔ x = n ∨ x ∈ l := by
  obtain⟨s,r,hl,hw,h1,h2⟩:=withN_split (n:=n) h
  have hs:Rise s:=h.sub (by rw [hl];exact List.sublist_append_left s r)
  have hr:Rise r:=h.sub (by rw [hl];exact List.sublist_append_right s r)
  have key:∀ t:List Int,Rise t→(∀ x∈t,n<x)→Rise (s++n::t):=fun t ht hn=>
    List.pairwise_append.2 ⟨hs,List.pairwise_cons.2 ⟨hn,ht⟩,fun a ha b hb=>by
      rcases List.mem_cons.1 hb with rfl|hb
      · exact h1 a ha
      · have:=h1 a ha;have:=hn b hb;omega⟩
  unfold nputF
  rw [hw]
  cases r with
  | nil=>
    rw [List.append_nil] at hl
    subst hl
    rw [if_neg (by simp),List.take_length,List.drop_length]
    exact⟨key [] (by simp [Rise]) (by simp),fun x=>by simp [or_comm]⟩
  | cons y r=>
    obtain⟨r1,r2⟩:=List.pairwise_cons.1 hr
    have hy:l[s.length]?=some y:=by rw [hl];simp
    have ht:l.take s.length=s:=by rw [hl];simp
    by_cases hyn:y=n
    · subst hyn
      rw [if_pos hy,ht,show l.drop (s.length+1)=r by rw [hl];simp]
      refine⟨key r r2 r1,fun x=>?_⟩
      rw [hl,List.mem_append]
      constructor
      · intro hx;exact .inr hx
      · rintro(rfl|hx)
        · exact .inr (.head _)
        · exact hx
    · rw [if_neg (fun e=>hyn (Option.some.inj (hy.symm.trans e))),ht,show l.drop s.length=y::r by rw [hl];simp]
      have hny:n<y:=by have:=h2 y (.head _);omega
      refine⟨key (y::r) hr fun x hx=>?_,fun x=>?_⟩
      rotate_left
      · simp only [hl,List.mem_append,List.mem_cons]
        constructor
        · rintro(hx|hx|hx)
          · exact .inr (.inl hx)
          · exact .inl hx
          · exact .inr (.inr hx)
        · rintro(hx|hx|hx)
          · exact .inr (.inl hx)
          · exact .inl hx
          · exact .inr (.inr hx)
      rcases List.mem_cons.1 hx with rfl|hx
      · exact hny
      · have:=r1 x hx;omega
theorem fold_rise:∀(l acc:List Int),Rise acc→Rise (l.foldl nputF acc)∧∀ x,x∈l.foldl nputF acc↔x∈acc∨x∈l
  | [],acc,h=>⟨h,fun x=>by simp⟩
  | z :: l, acc, h => by
    obtain⟨p1,p2⟩:=nput_rise (n:=z) h
    obtain⟨q1,q2⟩:=fold_rise l (nputF acc z) p1
    refine⟨q1,fun x=>?_⟩
    rw [List.foldl_cons,q2,p2,List.mem_cons]
    constructor
    · rintro((h|h)|h)
      · exact .inr (.inl h)
      · exact .inl h
      · exact .inr (.inr h)
    · rintro(h|h|h)
      · exact .inl (.inr h)
      · exact .inl (.inl h)
      · exact .inr h
theorem sorted_rise (l:List Int):Rise (sortedF l)∧∀ x,x∈sortedF l↔x∈l:=by
  obtain⟨h1,h2⟩:=fold_rise l [] (by simp [Rise])
  exact⟨h1,fun x=>by unfold sortedF;rw [h2];simp⟩
end Go.Proofs.YtnifmbbpfdghmaaGreatDoor
namespace Go.Proofs.YtnifmbbpfdghmaaGreatDoor
open Go.En
def isId (d:Dc) (x:Int):Bool:=(getF d.notes x).isSome
theorem isId_iff {d:Dc} (h:LightD d) {x:Int}:isId d x=true↔∃ n∈d.notes,n.id=x:=by
  unfold isId
  constructor
  · intro hs
    cases hg:getF d.notes x with
    | none=>rw [hg] at hs;cases hs
    | some n=>exact⟨n,get_some hg⟩
  · rintro⟨n,hn,rfl⟩
    rw [get_mem (ids_rise h) hn];rfl
def thenP (d:Dc) (a b:List Int) (x:Int):Bool:=decide (x∈a)&&(decide (nextF d x∈b)&&isId d (nextF d x))
def withinP (d:Dc) (a b:List Int) (x:Int):Bool:=decide (x∈a)&&(d.notes.any fun n=>decide (n.id∈b)&&(decide (n.id≠x)&&(decide ((spanF d n.id).1≤(spanF d x).1)&&decide ((spanF d x).2≤(spanF d n.id).2))))
def hasP (d:Dc) (a b:List Int) (x:Int):Bool:=decide (x∈a)&&(d.notes.any fun n=>decide (n.id∈b)&&(decide (n.id≠x)&&decide (x∈(chainF d n.id).map fun m=>m.id)))
def roleF (d:Dc) (role:Int):Int:=if role=0 then -1 else match d.tiers.findIdx? (fun t=>decide (t.role=role)) with|some i=>(i:Int)|none => -1
def ofRoleP (d:Dc) (role:Int) (x:Int):Bool:=match getF d.notes x with|some n=>decide (n.tier=roleF d role)|none=>false
def textP (m:List UInt8→List UInt8→Bool) (d:Dc) (role:Int) (p:List UInt8) (x:Int):Bool:=match getF d.notes x with|some n=>decide (n.tier=roleF d role)&&m p n.text|none=>false
def opF (m:List UInt8→List UInt8→Bool) (d:Dc) (op role:Int) (text:List UInt8) (ks:List (List Int)):List Int:=
  if op=0 then idsOf d (textP m d role text)
  else if op=1 then idsOf d (fun x=>decide (x∈ks.getD 0 [])&&decide (x∈ks.getD 1 []))
  else if op=2 then idsOf d (fun x=>decide (x∈ks.getD 0 [])||decide (x∈ks.getD 1 []))
  else if op=3 then idsOf d (fun x=>ofRoleP d role x&&!decide (x∈ks.getD 0 []))
  else if op=4 then idsOf d (thenP d (ks.getD 0 []) (ks.getD 1 []))
  else if op=5 then idsOf d (withinP d (ks.getD 0 []) (ks.getD 1 []))
  else idsOf d (hasP d (ks.getD 0 []) (ks.getD 1 []))
mutual
def evF (m:List UInt8→List UInt8→Bool) (d:Dc):Qy→List Int
  | .mk op role text kids=>opF m d op role text (evAll m d kids)
def evAll (m:List UInt8→List UInt8→Bool) (d:Dc):List Qy→List (List Int)
  | []=>[]
  | q::qs=>evF m d q::evAll m d qs
end
theorem opF_ids (m:List UInt8→List UInt8→Bool) (d:Dc) (op role:Int) (text:List UInt8) (ks:List (List Int)):∃ p,opF m d op role text ks=idsOf d p:=by
  unfold opF
  repeat' split
  all_goals exact⟨_,rfl⟩
theorem evF_ids (m:List UInt8→List UInt8→Bool) (d:Dc) (q:Qy):∃ p,evF m d q=idsOf d p:=by
  cases q
  unfold evF
  exact opF_ids ..
end Go.Proofs.YtnifmbbpfdghmaaGreatDoor
namespace Go.Proofs.YtnifmbbpfdghmaaGreatDoor
open Go.En
theorem idsOf_congr {d:Dc} {p r:Int→Bool} (h:∀ n∈d.notes,p n.id=r n.id):idsOf d p=idsOf d r:=by
  unfold idsOf
  refine List.filter_congr fun x hx=>?_
  obtain⟨n,hn,rfl⟩:=List.mem_map.1 hx
  exact h n hn
theorem thenP_sub {d:Dc} {a b:List Int} {x:Int} (h:thenP d a b x=true):x∈a:=by
  unfold thenP at h
  simp only [Bool.and_eq_true,decide_eq_true_eq] at h
  exact h.1
theorem withinP_sub {d:Dc} {a b:List Int} {x:Int} (h:withinP d a b x=true):x∈a:=by
  unfold withinP at h
  simp only [Bool.and_eq_true,decide_eq_true_eq] at h
  exact h.1
theorem hasP_sub {d:Dc} {a b:List Int} {x:Int} (h:hasP d a b x=true):x∈a:=by
  unfold hasP at h
  simp only [Bool.and_eq_true,decide_eq_true_eq] at h
  exact h.1
end Go.Proofs.YtnifmbbpfdghmaaGreatDoor
namespace Go.Proofs.YtnifmbbpfdghmaaGreatDoor
open Go.En
theorem rise_sorted {l r:List Int} (hr:Rise r) (h:∀ x,x∈r↔x∈l):r=sortedF l:=rise_ext hr (sorted_rise l).1 fun x=>(h x).trans ((sorted_rise l).2 x).symm
def IdsIn (d:Dc) (l:List Int):Prop:=∀ x∈l,∃ n∈d.notes,n.id=x
theorem idsIn_of (d:Dc) (p:Int→Bool):IdsIn d (idsOf d p):=fun _ hx=>(idsOf_mem.1 hx).1
theorem evF_in (m:List UInt8→List UInt8→Bool) (d:Dc) (q:Qy):IdsIn d (evF m d q):=by
  obtain⟨p,hp⟩:=evF_ids m d q
  rw [hp];exact idsIn_of d p
theorem evF_len {d:Dc} (h:LightD d) (m:List UInt8→List UInt8→Bool) (q:Qy):(evF m d q).length≤14:=by
  obtain⟨p,hp⟩:=evF_ids m d q
  rw [hp];exact Nat.le_trans (idsOf_len p) h.nnotes
def bothF (a b:List Int):List Int:=sortedF (a.filter fun x=>decide (x∈b))
def minusS (a b:List Int):List Int:=sortedF (a.filter fun x=>!decide (x∈b))
def unionS (a b:List Int):List Int:=sortedF (a++b)
theorem both_ids {d:Dc} (h:LightD d) {a:List Int} (ha:IdsIn d a) (b:List Int):bothF a b=idsOf d (fun x=>decide (x∈a)&&decide (x∈b)):=
  idsOf_eq h (sorted_rise _).1 fun x=>by
    unfold bothF
    rw [(sorted_rise _).2,List.mem_filter,Bool.and_eq_true,decide_eq_true_eq,decide_eq_true_eq]
    exact⟨fun hx=>⟨ha x hx.1,hx⟩,fun hx=>hx.2⟩
theorem union_ids {d:Dc} (h:LightD d) {a b:List Int} (ha:IdsIn d a) (hb:IdsIn d b):unionS a b=idsOf d (fun x=>decide (x∈a)||decide (x∈b)):=
  idsOf_eq h (sorted_rise _).1 fun x=>by
    unfold unionS
    rw [(sorted_rise _).2,List.mem_append,Bool.or_eq_true,decide_eq_true_eq,decide_eq_true_eq]
    refine⟨fun hx=>⟨?_,hx⟩,fun hx=>hx.2⟩
    rcases hx with hx|hx
    · exact ha x hx
    · exact hb x hx
def roleL (d:Dc) (role:Int):List Int:=(ofR d (roleF d role)).map fun n=>n.id
theorem roleL_mem {d:Dc} {role x:Int}:x∈roleL d role↔∃ n∈d.notes,n.id=x∧n.tier=roleF d role:=by
  unfold roleL
  rw [List.mem_map]
  constructor
  · rintro⟨n,hn,rfl⟩;exact⟨n,(ofR_mem.1 hn).1,rfl,(ofR_mem.1 hn).2⟩
  · rintro⟨n,hn,rfl,ht⟩;exact⟨n,ofR_mem.2 ⟨hn,ht⟩,rfl⟩
theorem roleL_in (d:Dc) (role:Int):IdsIn d (roleL d role):=fun x hx=>by
  obtain⟨n,hn,e,_⟩:=roleL_mem.1 hx
  exact⟨n,hn,e⟩
theorem ofRole_iff {d:Dc} (h:LightD d) {role:Int} {n:Note} (hn:n∈d.notes):ofRoleP d role n.id=true↔n.tier=roleF d role:=by
  unfold ofRoleP
  rw [get_mem (ids_rise h) hn]
  exact decide_eq_true_iff
theorem roleL_iff {d:Dc} (h:LightD d) {role:Int} {n:Note} (hn:n∈d.notes):n.id∈roleL d role↔ofRoleP d role n.id=true:=by
  rw [roleL_mem,ofRole_iff h hn]
  constructor
  · rintro⟨m,hm,e,ht⟩
    rw [← ids_inj (ids_rise h) hm hn e];exact ht
  · intro ht;exact⟨n,hn,rfl,ht⟩
theorem role_ids {d:Dc} (h:LightD d) (role:Int):sortedF (roleL d role)=idsOf d (ofRoleP d role):=
  idsOf_eq h (sorted_rise _).1 fun x=>by
    rw [(sorted_rise _).2]
    constructor
    · intro hx
      obtain⟨n,hn,rfl⟩:=roleL_in d role x hx
      exact⟨⟨n,hn,rfl⟩,(roleL_iff h hn).1 hx⟩
    · rintro⟨⟨n,hn,rfl⟩,hx⟩
      exact(roleL_iff h hn).2 hx
theorem minus_ids {d:Dc} (h:LightD d) (role:Int) (b:List Int):minusS (roleL d role) b=idsOf d (fun x=>ofRoleP d role x&&!decide (x∈b)):=
  idsOf_eq h (sorted_rise _).1 fun x=>by
    unfold minusS
    rw [(sorted_rise _).2,List.mem_filter,Bool.and_eq_true]
    constructor
    · rintro⟨hx,hb⟩
      obtain⟨n,hn,rfl⟩:=roleL_in d role x hx
      exact⟨⟨n,hn,rfl⟩,(roleL_iff h hn).1 hx,hb⟩
    · rintro⟨⟨n,hn,rfl⟩,hx,hb⟩
      exact⟨(roleL_iff h hn).2 hx,hb⟩
theorem minus_role {d:Dc} (h:LightD d) (role:Int) (b:List Int):minusS (idsOf d (ofRoleP d role)) b=idsOf d (fun x=>ofRoleP d role x&&!decide (x∈b)):=by
  rw [← minus_ids h role b]
  unfold minusS
  refine rise_sorted (sorted_rise _).1 fun x=>?_
  rw [(sorted_rise _).2,List.mem_filter,List.mem_filter,← role_ids h,(sorted_rise _).2]
theorem cur_of {d:Dc} (h:LightD d) {n:Note} (hn:n∈d.notes):curN d.notes n.id=n:=by
  unfold curN
  rw [get_mem (ids_rise h) hn];rfl
theorem text_of {d:Dc} (h:LightD d) {m:List UInt8→List UInt8→Bool} {role:Int} {p:List UInt8} {n:Note} (hn:n∈d.notes):textP m d role p n.id=(ofRoleP d role n.id&&m p (curN d.notes n.id).text):=by
  unfold textP ofRoleP
  rw [cur_of h hn,get_mem (ids_rise h) hn]
theorem text_filter {d:Dc} (h:LightD d) (m:List UInt8→List UInt8→Bool) (role:Int) (p:List UInt8):(idsOf d (ofRoleP d role)).filter (fun x=>m p (curN d.notes x).text)=idsOf d (textP m d role p):=by
  rw [show idsOf d (textP m d role p)=idsOf d (fun x=>m p (curN d.notes x).text&&ofRoleP d role x) from idsOf_congr fun n hn=>by rw [text_of h hn,Bool.and_comm]]
  unfold idsOf
  rw [List.filter_filter]
theorem any_ids {d:Dc} (p f:Int→Bool):(idsOf d p).any f=d.notes.any fun n=>p n.id&&f n.id:=by
  rw [Bool.eq_iff_iff,List.any_eq_true,List.any_eq_true]
  constructor
  · rintro⟨x,hx,hf⟩
    obtain⟨⟨n,hn,rfl⟩,hp⟩:=idsOf_mem.1 hx
    exact⟨n,hn,by rw [hp,hf];rfl⟩
  · rintro⟨n,hn,h⟩
    rw [Bool.and_eq_true] at h
    exact⟨n.id,idsOf_mem.2 ⟨⟨n,hn,rfl⟩,h.1⟩,h.2⟩
theorem chain_rest {d:Dc} (h:LightD d) {n:Note} (hn:n∈d.notes):((chainF d n.id).map fun m=>m.id).drop 1=(chainF d n.parent).map fun m=>m.id:=by
  rw [chain_cons h hn];rfl
theorem chain_rest_mem {d:Dc} (h:LightD d) {n:Note} (hn:n∈d.notes) (x:Int):x∈(chainF d n.parent).map (fun m=>m.id)↔n.id≠x∧x∈(chainF d n.id).map (fun m=>m.id):=by
  obtain⟨k,hk,_⟩:=note_lt h hn
  have hup:=(chain_up h k n hn hk).2
  rw [chain_cons h hn,List.map_cons,List.mem_cons]
  constructor
  · intro hx
    refine⟨?_,.inr hx⟩
    obtain⟨m,hm,rfl⟩:=List.mem_map.1 hx
    intro e
    have hmn:=(chain_id _ m hm)
    have:=ids_inj (ids_rise h) hn hmn e
    subst this
    have:=hup _ hm
    omega
  · rintro⟨hne,e|hx⟩
    · exact absurd e.symm hne
    · exact hx
theorem has_ids {d:Dc} (h:LightD d) (b:List Int) (x:Int):(d.notes.any fun n=>decide (n.id∈b)&&(decide (n.id≠x)&&decide (x∈(chainF d n.id).map fun m=>m.id)))=d.notes.any fun n=>decide (n.id∈b)&&decide (x∈(chainF d n.parent).map fun m=>m.id):=by
  have key:∀ n∈d.notes,(decide (n.id≠x)&&decide (x∈(chainF d n.id).map fun m=>m.id))=decide (x∈(chainF d n.parent).map fun m=>m.id):=fun n hn=>by
    rw [Bool.eq_iff_iff,Bool.and_eq_true,decide_eq_true_eq,decide_eq_true_eq,decide_eq_true_eq]
    exact(chain_rest_mem h hn x).symm
  rw [Bool.eq_iff_iff,List.any_eq_true,List.any_eq_true]
  constructor
  · rintro⟨n,hn,hh⟩;exact⟨n,hn,by rw [← key n hn];exact hh⟩
  · rintro⟨n,hn,hh⟩;exact⟨n,hn,by rw [key n hn];exact hh⟩
def kidsC (op:Int):Nat:=if op=0 then 0 else if op=3 then 1 else 2
mutual
def okQ:Qy→Prop
  | .mk op role text kids=>0≤op∧op≤6∧kids.length=kidsC op∧okAll kids
def okAll:List Qy→Prop
  | []=>True
  | q::qs=>okQ q∧okAll qs
end
theorem okAll_get:∀ {qs:List Qy},okAll qs→∀ {i:Nat} {q:Qy},qs[i]?=some q→okQ q
  | [],_,i,q,h=>by simp at h
  | a::qs,ho,0,q,h=>by
    unfold okAll at ho
    simp at h;subst h;exact ho.1
  | a::qs,ho,i+1,q,h=>by
    unfold okAll at ho
    exact okAll_get ho.2 (by simpa using h)
theorem okAll_of:∀ {qs:List Qy},(∀(i:Nat) (q:Qy),qs[i]?=some q→okQ q)→okAll qs
  | [],_=>by unfold okAll;trivial
  | q::qs,h=>by
    unfold okAll
    exact⟨h 0 q rfl,okAll_of fun i r hr=>h (i+1) r (by simpa using hr)⟩
theorem evAll_map (m:List UInt8→List UInt8→Bool) (d:Dc):∀ qs:List Qy,evAll m d qs=qs.map (evF m d)
  | []=>by unfold evAll;rfl
  | q::qs=>by unfold evAll;rw [evAll_map m d qs];rfl
theorem evF_mk (m:List UInt8→List UInt8→Bool) (d:Dc) (op role:Int) (text:List UInt8) (kids:List Qy):evF m d (.mk op role text kids)=opF m d op role text (kids.map (evF m d)):=by
  rw [← evAll_map];unfold evF;rfl
end Go.Proofs.YtnifmbbpfdghmaaGreatDoor
