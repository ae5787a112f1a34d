/-
  Own text of the proof.
-/
import Derived.Test.YtjicdgejhkgpgaaGreatDoorYa
set_option linter.all false
namespace Go.Pv
def Ai (e:En):List (List Int):=e.form::e.alts
def getE (lex:List En) (id:Int):Option En:=lex.find? fun e=>e.id==id
def Jl (lex : List En) : Nat → Int → List Sns
  | 0,_=>[]
  | k+1,id=>match getE lex id with
    | none=>[]
    | some e=>if e.senses≠[] then e.senses else if e.main=0 then [] else Jl lex k e.main
def B6 (lex:List En) (id:Int):List Sns:=Jl lex (lex.length+1) id
structure Lx where
  net:Net
  lex:List En
  last:List Int→List Int
  most:Nat
def Ck (lex:List En) (p:Prt):Option (En × List Int):=
  match getE lex p.entry with
  | none=>none
  | some e=>if 0≤p.alt then (match (Ai e)[p.alt.toNat]? with|some f=>some (e,f)|none=>none) else none
def Aq (lex:List En) (a:List Prt):List Int:=a.filterMap fun p=>(Ck lex p).map (·.1.cls)
def Ar (lex:List En) (a:List Prt):List Int:=a.flatMap fun p=>match Ck lex p with|some (_,f)=>f|none=>[]
def Iw (lex:List En) (p:Prt):Bool:=(Ck lex p).isSome&&(0≤p.sense&&p.sense<((B6 lex p.entry).length:Int))
def licB (g:Lx) (w:List Int) (a:List Prt):Bool:=
  !a.isEmpty&&(a.length≤4&&(a.all (Iw g.lex)&&(Dt g.net (Aq g.lex a)&&((Ar g.lex a).length≤24&&((g.last (Ar g.lex a)).length≠0&&g.last (Ar g.lex a)=w)))))
def furL (g : Lx) (w : List Int) : Nat → List Prt → List (List Prt)
  | 0,_=>[]
  | k + 1, a => g.lex.flatMap fun e => if D2 g.net (Aq g.lex a) e.cls then
      (Ai e).zipIdx.flatMap fun fi=>
        let b:=a++[⟨e.id,(fi.2:Int),0⟩]
        let n:=(Ar g.lex b).length
        if n>g.most then [] else (if n≥w.length∧licB g w b=true then [b] else [])++furL g w k b
    else []
def hitB (id:Int) (a:List Prt):Bool:=a.any fun p=>p.entry==id
def hereB (g:Lx) (w:List Int) (id:Int) (a:List Prt) (S:Int→Bool) (base:List Int):Bool:=
  !a.isEmpty&&(C4 g.net.states.toNat S (finB g.net)&&(w.length≤base.length&&((g.last base).length≠0&&g.last base=w)))&&hitB id a
def belB (g:Lx) (w:List Int) (id:Int):Nat→List Prt→(Int→Bool)→List Int→Bool
  | 0,_,_,_=>false
  | k + 1, a, S, base => g.lex.any fun e => (C4 g.net.states.toNat (aftB g.net.steps S e.cls) (fun _ => true) && (B6 g.lex e.id).length ≠ 0) &&
      (Ai e).zipIdx.any fun fi=>
        let b:=a++[⟨e.id,(fi.2:Int),0⟩]
        base.length+fi.1.length≤g.most&&(hereB g w id b (aftB g.net.steps S e.cls) (base++fi.1)||belB g w id k b (aftB g.net.steps S e.cls) (base++fi.1))
structure LxOK (g:Lx):Prop where
  net:NetOK g.net
  ids:(g.lex.map (·.id)).Nodup
  cls:∀ e∈g.lex,1≤e.cls∧e.cls≤20
  most:g.most≤24
theorem getE_mem {lex : List En} (h : (lex.map (·.id)).Nodup) {e : En} (he : e ∈ lex) : getE lex e.id = some e := by
  unfold getE
  induction lex with
  | nil=>cases he
  | cons x r ih=>
    rw [List.map_cons,List.nodup_cons] at h
    rw [List.find?_cons]
    rcases List.mem_cons.1 he with rfl|he
    · simp
    · have:(x.id==e.id)=false:=by
        simp only [beq_eq_false_iff_ne]
        intro e'
        exact h.1 (e'▸List.mem_map.2 ⟨e,he,rfl⟩)
      rw [this]
      exact ih h.2 he
theorem Kg {α:Type} {l:List α} {x:α} {i:Nat} (h:(x,i)∈l.zipIdx):l[i]?=some x:=by
  have:=List.mem_zipIdx_iff_getElem?.1 h;simpa using this
theorem Mi {lex:List En} (h:(lex.map (·.id)).Nodup) {e:En} (he:e∈lex) {f:List Int} {i:Nat} (hf:(Ai e)[i]?=some f) (s:Int):Ck lex ⟨e.id,(i:Int),s⟩=some (e,f):=by
  simp [Ck,getE_mem h he,hf]
theorem classes_snoc {lex:List En} {a:List Prt} {p:Prt} {e:En} {f:List Int} (h:Ck lex p=some (e,f)):Aq lex (a++[p])=Aq lex a++[e.cls]:=by
  simp [Aq,List.filterMap_append,h]
theorem base_snoc {lex:List En} {a:List Prt} {p:Prt} {e:En} {f:List Int} (h:Ck lex p=some (e,f)):Ar lex (a++[p])=Ar lex a++f:=by
  simp [Ar,List.flatMap_append,h]
theorem bel_leads {g : Lx} (h : LxOK g) {w : List Int} {id : Int} : ∀ (k : Nat) (a : List Prt) (cs : List Int) (base : List Int), belB g w id k a (runB g.net.steps cs) base = true → Leads g.net (runB g.net.steps cs)
  | 0,_,_,_,hb=>by simp [belB] at hb
  | k + 1, a, cs, base, hb => by
    rw [belB,List.any_eq_true] at hb
    obtain⟨e,he,hb⟩:=hb
    rw [Bool.and_eq_true,List.any_eq_true] at hb
    obtain⟨_,fi,_,hb⟩:=hb
    rw [Bool.and_eq_true,Bool.or_eq_true] at hb
    rw [← Fz] at hb
    have hl:Leads g.net (runB g.net.steps (cs++[e.cls])):=by
      rcases hb.2 with hb|hb
      · unfold hereB at hb
        simp only [Bool.and_eq_true] at hb
        exact Ke h.net hb.1.2.1
      · exact bel_leads h k _ _ _ hb
    rw [Fz] at hl
    exact leads_back h.net hl
def Known (lex:List En) (a:List Prt):Prop:=∀ p∈a,(Ck lex p).isSome=true∧p.sense=0
theorem Km {lex:List En} {a:List Prt} {p:Prt} {e:En} {f:List Int} (h:Known lex a) (hp:Ck lex p=some (e,f)) (hs:p.sense=0):Known lex (a++[p]):=by
  intro q hq
  rcases List.mem_append.1 hq with hq|hq
  · exact h q hq
  · rw [List.mem_singleton.1 hq,hp];exact⟨rfl,hs⟩
def Sensed (lex:List En) (a:List Prt):Bool:=a.all fun p=>(B6 lex p.entry).length≠0
theorem Q6 {lex:List En} {a:List Prt} (h:Known lex a):a.all (Iw lex)=Sensed lex a:=by
  unfold Sensed
  induction a with
  | nil=>rfl
  | cons p r ih=>
    rw [List.all_cons,List.all_cons,ih (fun q hq=>h q (List.mem_cons_of_mem _ hq))]
    congr 1
    have:=h p List.mem_cons_self
    unfold Iw
    rw [this.1,this.2]
    by_cases h0:(B6 lex p.entry).length=0
    · simp [h0]
    · simp [h0];omega
theorem lic_here {g:Lx} {w:List Int} {a:List Prt} (hk:Known g.lex a) (hl:a.length≤4) (hb:(Ar g.lex a).length≤24) (hs:Sensed g.lex a=true) (id:Int) (hn:w.length≤(Ar g.lex a).length) :
    (licB g w a&&hitB id a)=hereB g w id a (runB g.net.steps (Aq g.lex a)) (Ar g.lex a):=by
  unfold licB hereB
  rw [Q6 hk,hs,decide_eq_true hl,decide_eq_true hb,decide_eq_true hn]
  simp only [Bool.true_and,Dt]
theorem Pb {g:Lx} {w:List Int} {a:List Prt} (hk:Known g.lex a) (h:licB g w a=true):Sensed g.lex a=true:=by
  unfold licB at h
  rw [Q6 hk] at h
  simp only [Bool.and_eq_true] at h
  exact h.2.2.1
theorem fur_none {g : Lx} (h : LxOK g) {w : List Int} : ∀ (k : Nat) (a : List Prt), Known g.lex a → Sensed g.lex a = false → furL g w k a = []
  | 0,_,_,_=>rfl
  | k + 1, a, hk, hs => by
    rw [furL,List.flatMap_eq_nil_iff]
    intro e he
    split
    · rw [List.flatMap_eq_nil_iff]
      intro fi hfi
      have hf:=Kg (x:=fi.1) (i:=fi.2) hfi
      have hent:=Mi h.ids he hf 0
      have hk':=Km hk hent rfl
      have hs':Sensed g.lex (a++[⟨e.id,(fi.2:Int),0⟩])=false:=by
        unfold Sensed at hs ⊢;rw [List.all_append,hs];rfl
      dsimp only
      split
      · rfl
      · rw [fur_none h k _ hk' hs',List.append_nil]
        split
        · rename_i hc
          have:=Pb hk' hc.2
          rw [hs'] at this;cases this
        · rfl
    · rfl
theorem Mm {α:Type} {p q:α→Bool}:∀ {l:List α},(∀ x∈l,p x=q x)→l.any p=l.any q
  | [],_=>rfl
  | a::r,h=>by rw [List.any_cons,List.any_cons,h a List.mem_cons_self,Mm fun x hx=>h x (List.mem_cons_of_mem _ hx)]
theorem fur_bel {g : Lx} (h : LxOK g) {w : List Int} {id : Int} : ∀ (k : Nat) (a : List Prt), Known g.lex a → Sensed g.lex a = true → a.length + k ≤ 4 →
    (furL g w k a).any (hitB id)=belB g w id k a (runB g.net.steps (Aq g.lex a)) (Ar g.lex a)
  | 0,_,_,_,_=>rfl
  | k + 1, a, hk, hs, hl => by
    rw [furL,belB,List.any_flatMap]
    refine Mm fun e he=>?_
    have hrun:=Fz g.net.steps (Aq g.lex a) e.cls
    rw [← hrun]
    cases hse:decide ((B6 g.lex e.id).length≠0) with
    | false =>
      rw [Bool.and_false,Bool.false_and]
      have hnil:∀ fi∈(Ai e).zipIdx,(if (Ar g.lex (a++[⟨e.id,(fi.2:Int),0⟩])).length>g.most then [] else (if (Ar g.lex (a++[⟨e.id,(fi.2:Int),0⟩])).length≥w.length∧licB g w (a++[⟨e.id,(fi.2:Int),0⟩])=true then [a++[⟨e.id,(fi.2:Int),0⟩]] else [])++furL g w k (a++[⟨e.id,(fi.2:Int),0⟩]))=([]:List (List Prt)):=by
        intro fi hfi
        have hf:=Kg (x:=fi.1) (i:=fi.2) hfi
        have hent:=Mi h.ids he hf 0
        have hk':=Km hk hent rfl
        have hs':Sensed g.lex (a++[⟨e.id,(fi.2:Int),0⟩])=false:=by
          unfold Sensed;rw [List.all_append]
          have:(List.all [(⟨e.id,(fi.2:Int),0⟩:Prt)] fun p=>decide ((B6 g.lex p.entry).length≠0))=false:=by
            rw [List.all_cons,List.all_nil,Bool.and_true];exact hse
          rw [this,Bool.and_false]
        rw [fur_none h k _ hk' hs',List.append_nil]
        split
        · rfl
        · split
          · rename_i hc
            have:=Pb hk' hc.2
            rw [hs'] at this;cases this
          · rfl
      split
      · rw [List.any_eq_false]
        intro x hx
        obtain⟨fi,hfi,hx⟩:=List.mem_flatMap.1 hx
        have hx':x∈(if (Ar g.lex (a++[⟨e.id,(fi.2:Int),0⟩])).length>g.most then [] else (if (Ar g.lex (a++[⟨e.id,(fi.2:Int),0⟩])).length≥w.length∧licB g w (a++[⟨e.id,(fi.2:Int),0⟩])=true then [a++[⟨e.id,(fi.2:Int),0⟩]] else [])++furL g w k (a++[⟨e.id,(fi.2:Int),0⟩])):=hx
        rw [hnil fi hfi] at hx'
        cases hx'
      · rfl
    | true=>
      rw [Bool.and_true]
      have hY:∀ fi∈(Ai e).zipIdx,(if (Ar g.lex (a++[⟨e.id,(fi.2:Int),0⟩])).length>g.most then [] else (if (Ar g.lex (a++[⟨e.id,(fi.2:Int),0⟩])).length≥w.length∧licB g w (a++[⟨e.id,(fi.2:Int),0⟩])=true then [a++[⟨e.id,(fi.2:Int),0⟩]] else [])++furL g w k (a++[⟨e.id,(fi.2:Int),0⟩])).any (hitB id)
          =(decide ((Ar g.lex a).length+fi.1.length≤g.most)&&(hereB g w id (a++[⟨e.id,(fi.2:Int),0⟩]) (runB g.net.steps (Aq g.lex a++[e.cls])) (Ar g.lex a++fi.1)||belB g w id k (a++[⟨e.id,(fi.2:Int),0⟩]) (runB g.net.steps (Aq g.lex a++[e.cls])) (Ar g.lex a++fi.1))):=by
        intro fi hfi
        have hf:=Kg (x:=fi.1) (i:=fi.2) hfi
        have hent:=Mi h.ids he hf 0
        have hk':=Km hk hent rfl
        have hs':Sensed g.lex (a++[⟨e.id,(fi.2:Int),0⟩])=true:=by
          unfold Sensed;rw [List.all_append]
          have:(List.all [(⟨e.id,(fi.2:Int),0⟩:Prt)] fun p=>decide ((B6 g.lex p.entry).length≠0))=true:=by
            rw [List.all_cons,List.all_nil,Bool.and_true];exact hse
          rw [this,Bool.and_true];exact hs
        have hlen:(a++[(⟨e.id,(fi.2:Int),0⟩:Prt)]).length+k≤4:=by simp;omega
        have ih:=fur_bel h (w:=w) (id:=id) k _ hk' hs' hlen
        have hb:=base_snoc (a:=a) hent
        have hc:=classes_snoc (a:=a) hent
        rw [hc,hb] at ih
        have hbl:(Ar g.lex (a++[⟨e.id,(fi.2:Int),0⟩])).length=(Ar g.lex a).length+fi.1.length:=by rw [hb,List.length_append]
        by_cases hm:(Ar g.lex a).length+fi.1.length≤g.most
        · rw [if_neg (by omega),decide_eq_true hm,Bool.true_and,List.any_append,ih]
          congr 1
          by_cases hn:w.length≤(Ar g.lex (a++[⟨e.id,(fi.2:Int),0⟩])).length
          · have hh:=lic_here (w:=w) hk' (by omega) (by have:=h.most;omega) hs' id hn
            rw [hc,hb] at hh
            rw [← hh]
            cases hL:licB g w (a++[⟨e.id,(fi.2:Int),0⟩]) with
            | true=>rw [if_pos ⟨hn,rfl⟩];simp
            | false=>rw [if_neg (fun h=>by cases h.2)];rfl
          · rw [if_neg (fun h=>hn h.1)]
            have hn2:¬ w.length≤(Ar g.lex a++fi.1).length:=by rw [← hb];exact hn
            unfold hereB
            rw [decide_eq_false hn2]
            simp
        · rw [if_pos (by omega),decide_eq_false hm];rfl
      cases hfo:D2 g.net (Aq g.lex a) e.cls with
      | true=>
        rw [if_pos rfl]
        obtain⟨q,hq,_⟩:=(Lt h.net).1 hfo
        have hin:=runs_in h.net _ q hq
        have hne:C4 g.net.states.toNat (runB g.net.steps (Aq g.lex a++[e.cls])) (fun _=>true)=true:=Ct.2 ⟨q,hin.1,by omega,hq,rfl⟩
        rw [hne,Bool.true_and,List.any_flatMap]
        exact Mm hY
      | false=>
        rw [if_neg (by simp)]
        symm
        rw [List.any_nil,Bool.and_eq_false_iff]
        refine .inr ?_
        rw [List.any_eq_false]
        intro fi hfi hb
        rw [Bool.and_eq_true,Bool.or_eq_true] at hb
        have hl:Leads g.net (runB g.net.steps (Aq g.lex a++[e.cls])):=by
          rcases hb.2 with hb|hb
          · unfold hereB at hb
            simp only [Bool.and_eq_true] at hb
            exact Ke h.net hb.1.2.1
          · exact bel_leads h k _ _ _ hb
        rw [(Lt h.net).2 hl] at hfo
        cases hfo
theorem uses_same {g:Lx} (h:LxOK g) (w:List Int) (id:Int):(furL g w 4 []).any (hitB id)=belB g w id 4 [] (fun q=>q==0) []:=
  fur_bel h 4 [] (fun _ hp=>by cases hp) rfl (by simp)
end Go.Pv
namespace Go.Pv
def ltR (a b:Rf):Prop:=a.rcd<b.rcd∨a.rcd=b.rcd∧a.note<b.note
instance (a b:Rf):Decidable (ltR a b):=inferInstanceAs (Decidable (_∨_∧_))
theorem Hi {a b c:Rf} (h:ltR a b) (k:ltR b c):ltR a c:=by unfold ltR at *;omega
theorem ltR_irr (a:Rf):¬ ltR a a:=by unfold ltR;omega
theorem ltR_tri (a b:Rf):ltR a b∨a=b∨ltR b a:=by
  rcases a with⟨a1,a2⟩;rcases b with⟨b1,b2⟩
  unfold ltR
  by_cases h:a1=b1∧a2=b2
  · obtain⟨rfl,rfl⟩:=h;exact .inr (.inl rfl)
  · have:¬ (a1=b1∧a2=b2):=h
    dsimp only
    omega
def UpR (l:List Rf):Prop:=l.Pairwise ltR
def putR (l:List Rf) (r:Rf):List Rf:=if r∈l then l else l.takeWhile (fun x=>ltR x r)++r::l.dropWhile (fun x=>ltR x r)
theorem tw_all {l:List Rf} {r:Rf}:∀ x∈l.takeWhile (fun x=>decide (ltR x r)),ltR x r:=by
  intro x hx
  induction l with
  | nil=>cases hx
  | cons a t ih=>
    rw [List.takeWhile_cons] at hx
    split at hx
    · rename_i h
      rcases List.mem_cons.1 hx with rfl|hx
      · simpa using h
      · exact ih hx
    · cases hx
theorem dw_all {l:List Rf} (hu:UpR l) {r:Rf}:∀ x∈l.dropWhile (fun x=>decide (ltR x r)),¬ ltR x r:=by
  induction l with
  | nil=>intro x hx;cases hx
  | cons a t ih=>
    intro x hx
    unfold UpR at hu
    rw [List.pairwise_cons] at hu
    rw [List.dropWhile_cons] at hx
    split at hx
    · exact ih hu.2 x hx
    · rename_i h
      have ha:¬ ltR a r:=by simpa using h
      rcases List.mem_cons.1 hx with rfl|hx
      · exact ha
      · exact fun hxr=>ha (Hi (hu.1 x hx) hxr)
theorem put_up {l : List Rf} (hu : UpR l) (r : Rf) : UpR (putR l r) := by
  unfold putR
  split
  · exact hu
  · rename_i hn
    unfold UpR
    rw [List.pairwise_append]
    refine⟨hu.sublist (List.takeWhile_sublist _),?_,?_⟩
    · rw [List.pairwise_cons]
      refine⟨fun x hx=>?_,hu.sublist (List.dropWhile_sublist _)⟩
      have h1:=dw_all hu x hx
      rcases ltR_tri x r with h|h|h
      · exact absurd h h1
      · exact absurd (h▸(List.dropWhile_sublist _).subset hx) hn
      · exact h
    · intro a ha b hb
      have h1:=tw_all a ha
      rcases List.mem_cons.1 hb with rfl|hb
      · exact h1
      · have h2:=dw_all hu b hb
        rcases ltR_tri b r with h|h|h
        · exact absurd h h2
        · exact h▸h1
        · exact Hi h1 h
theorem put_len {l:List Rf} {r:Rf}:(putR l r).length≤l.length+1:=by
  unfold putR
  split
  · omega
  · have:=congrArg List.length (List.takeWhile_append_dropWhile (p:=fun x=>decide (ltR x r)) (l:=l))
    rw [List.length_append] at this
    rw [List.length_append,List.length_cons]
    omega
theorem put_at {l : List Rf} (hu : UpR l) {r : Rf} {i : Nat} (hi : i ≤ l.length) (hlow : ∀ j x, j < i → l[j]? = some x → ltR x r) (hup : ∀ x, l[i]? = some x → ¬ ltR x r) :
    putR l r=if l[i]?=some r then l else l.take i++r::l.drop i:=by
  have hsplit:l=l.take i++l.drop i:=(List.take_append_drop i l).symm
  have h1:∀ x∈l.take i,ltR x r:=by
    intro x hx
    obtain⟨j,hj⟩:=List.getElem?_of_mem hx
    have hjl:=(List.getElem?_eq_some_iff.1 hj).1
    have hji:j<i:=by simp at hjl;omega
    rw [List.getElem?_take_of_lt hji] at hj
    exact hlow j x hji hj
  have h2:∀ x∈l.drop i,¬ ltR x r:=by
    intro x hx
    obtain⟨j,hj⟩:=List.getElem?_of_mem hx
    rw [List.getElem?_drop] at hj
    cases j with
    | zero=>exact hup x hj
    | succ j=>
      obtain⟨y,hy⟩:∃ y,l[i]?=some y:=⟨_,List.getElem?_eq_getElem (by have:=(List.getElem?_eq_some_iff.1 hj).1;omega)⟩
      have:=hup y hy
      intro hxr
      refine this (Hi ?_ hxr)
      obtain⟨g1,e1⟩:=List.getElem?_eq_some_iff.1 hy
      obtain⟨g2,e2⟩:=List.getElem?_eq_some_iff.1 hj
      rw [← e1,← e2]
      exact List.pairwise_iff_getElem.1 hu _ _ _ _ (by omega)
  have htw:l.takeWhile (fun x=>decide (ltR x r))=l.take i∧l.dropWhile (fun x=>decide (ltR x r))=l.drop i:=by
    have:∀(p q:List Rf),(∀ x∈p,ltR x r)→(∀ x∈q,¬ ltR x r)→(p++q).takeWhile (fun x=>decide (ltR x r))=p∧(p++q).dropWhile (fun x=>decide (ltR x r))=q:=by
      intro p q hp hq
      induction p with
      | nil=>
        cases q with
        | nil=>exact⟨rfl,rfl⟩
        | cons a t=>
          have:=hq a List.mem_cons_self
          simp [List.takeWhile_cons,List.dropWhile_cons,this]
      | cons a t ih=>
        have h:=ih (fun x hx=>hp x (List.mem_cons_of_mem _ hx))
        have ha:=hp a List.mem_cons_self
        simp [List.takeWhile_cons,List.dropWhile_cons,ha,h.1,h.2]
    have h:=this (l.take i) (l.drop i) h1 h2
    rwa [← hsplit] at h
  unfold putR
  have hmem:r∈l↔l[i]?=some r:=by
    constructor
    · intro hr
      rw [hsplit] at hr
      rcases List.mem_append.1 hr with hr|hr
      · exact absurd (h1 r hr) (ltR_irr r)
      · obtain⟨j,hj⟩:=List.getElem?_of_mem hr
        rw [List.getElem?_drop] at hj
        cases j with
        | zero=>exact hj
        | succ j=>
          exfalso
          obtain⟨y,hy⟩:∃ y,l[i]?=some y:=⟨_,List.getElem?_eq_getElem (by have:=(List.getElem?_eq_some_iff.1 hj).1;omega)⟩
          refine hup y hy ?_
          obtain⟨g1,e1⟩:=List.getElem?_eq_some_iff.1 hy
          obtain⟨g2,e2⟩:=List.getElem?_eq_some_iff.1 hj
          rw [← e1,← e2]
          exact List.pairwise_iff_getElem.1 hu _ _ _ _ (by omega)
    · intro h;exact List.mem_of_getElem? h
  rw [htw.1,htw.2]
  by_cases h:r∈l
  · rw [if_pos h,if_pos (hmem.1 h)]
  · rw [if_neg h,if_neg (fun e=>h (hmem.2 e))]
theorem put_end {l : List Rf} (hu : UpR l) {r : Rf} {i : Nat} (hi : i ≤ l.length) (hhigh : ∀ j x, i ≤ j → l[j]? = some x → ltR r x) (hlow : ∀ x, 0 < i → l[i - 1]? = some x → ¬ ltR r x) :
    putR l r=if 0<i∧l[i-1]?=some r then l else l.take i++r::l.drop i:=by
  by_cases h:0<i∧l[i-1]?=some r
  · rw [if_pos h,putR,if_pos (List.mem_of_getElem? h.2)]
  · rw [if_neg h]
    have hlt:∀ j x,j<i→l[j]?=some x→ltR x r:=by
      intro j x hj hx
      obtain⟨y,hy⟩:∃ y,l[i-1]?=some y:=⟨_,List.getElem?_eq_getElem (by omega)⟩
      have h1:=hlow y (by omega) hy
      have hyr:ltR y r:=by
        rcases ltR_tri y r with h2|h2|h2
        · exact h2
        · exact absurd ⟨by omega,h2▸hy⟩ h
        · exact absurd h2 h1
      by_cases e:j=i-1
      · subst e;rw [hy] at hx;cases hx;exact hyr
      · refine Hi ?_ hyr
        obtain⟨g1,e1⟩:=List.getElem?_eq_some_iff.1 hx
        obtain⟨g2,e2⟩:=List.getElem?_eq_some_iff.1 hy
        rw [← e1,← e2]
        exact List.pairwise_iff_getElem.1 hu _ _ _ _ (by omega)
    rw [put_at hu hi hlt (fun x hx hr=>ltR_irr r (Hi (hhigh i x (Nat.le_refl _) hx) hr))]
    rw [if_neg]
    intro e
    exact ltR_irr r (hhigh i r (Nat.le_refl _) e)
def Cj (l:List Rf) (rs:List Rf):List Rf:=rs.foldl putR l
theorem Mc {l:List Rf} (hu:UpR l):∀ rs:List Rf,UpR (Cj l rs)
  | []=>hu
  | r::rs=>Mc (put_up hu r) rs
theorem Hx:∀ {rs l:List Rf},(Cj l rs).length≤l.length+rs.length
  | [],l=>by simp [Cj]
  | r::rs,l=>by
    show(Cj (putR l r) rs).length≤_
    have:=Hx (rs:=rs) (l:=putR l r)
    have:=put_len (l:=l) (r:=r)
    rw [List.length_cons];omega
end Go.Pv
namespace Go.Pv
def D6 (n:Nat) (f:Nat→Int):Int:=match (List.range n).find? (fun i=>f i != 0) with|some i=>f i|none=>0
theorem Gj {n:Nat} {f:Nat→Int} (h:∀ i,i<n→f i=0):D6 n f=0:=by
  have:(List.range n).find? (fun i=>f i != 0)=none:=by
    rw [List.find?_eq_none]
    intro i hi
    rw [h i (List.mem_range.1 hi)];simp
  rw [D6,this]
theorem Bb {n i:Nat} {f:Nat→Int} (h:∀ j,j<i→f j=0) (hi:i<n) (hf:f i≠0):D6 n f=f i:=by
  have:(List.range n).find? (fun i=>f i != 0)=some i:=by
    rw [List.find?_range_eq_some]
    refine⟨by simp [hf],by simpa using hi,fun j hj=>?_⟩
    simp [h j hj]
  rw [D6,this]
def B0 (n:Int):Bool:=decide (1≤n∧n≤1099511627776)
structure Pnt where
  id:Int
  title:List UInt8
  text:List UInt8
  entries:List Int
  refs:List Rf
def Iq (l:List Rf) (i:Nat):Int:=match l[i]? with
  | none=>0
  | some r=>if B0 r.rcd&&B0 r.note then (match (if 0<i then l[i-1]? else none) with|none=>0|some q=>if ltR q r then 0 else 10) else 2
def K4 (l:List Rf):Int:=if l.length=0∨12<l.length then 24 else D6 l.length (Iq l)
def upAt (l:List Int) (i:Nat):Int:=match l[i]?,(if 0<i then l[i-1]? else none) with
  | some x,some y=>if y<x then 0 else 10
  | _,_=>0
def J0 (lex:List En) (l:List Int) (i:Nat):Int:=match l[i]? with
  | none=>0
  | some x=>if (getE lex x).isSome then 0 else 9
def Ca (lex:List En) (l:List Int):Int:=if D6 l.length (upAt l)≠0 then D6 l.length (upAt l) else D6 l.length (J0 lex l)
def F3 (lab:List UInt8→Bool) (txt:List UInt8→Int) (lex:List En) (p:Pnt):Int:=
  if lab p.title then (if txt p.text≠0 then txt p.text else if Ca lex p.entries≠0 then Ca lex p.entries else K4 p.refs) else 7
def D1 (lab:List UInt8→Bool) (txt:List UInt8→Int) (lex:List En) (l:List Pnt) (i:Nat):Int:=match l[i]? with
  | none=>0
  | some p=>if B0 p.id then (match (if 0<i then l[i-1]? else none) with|none=>F3 lab txt lex p|some q=>if q.id<p.id then F3 lab txt lex p else 10) else 2
def I0 (lab:List UInt8→Bool) (txt:List UInt8→Int) (lex:List En) (l:List Pnt):Int:=if 40<l.length then 11 else D6 l.length (D1 lab txt lex l)
def danglF (leads:Rf→Bool) (l:List Pnt):List Rf:=Cj [] ((l.flatMap (·.refs)).filter fun r=>!leads r)
def Oa (l:List Pnt) (id:Int):List Int:=(l.filter fun p=>p.entries.contains id).map (·.id)
end Go.Pv
