/-
  Search, plainly: Bound, and how it bounds what a query finds.
-/
import Derived.Test.YtnifmbbpfdghmaaGreatDoorYm
import Derived.Test.YtnifmbbpfdghmaaGreatDoorNl
import Derived.Test.YtnifmbbpfdghmaaGreatDoorY1
set_option linter.all false
namespace Go.Proofs.YtnifmbbpfdghmaaGreatDoor
open Go.RowKit Go.En
def bopF (n0 n1:Int) (op:Int) (ks:List Int):Int:=
  if op=0 then n0 else if op=3 then n1 else
  match ks with
  | []=>0
  | [a]=>a
  | a::b::_=>if op=1 then (if b<a then b else a) else if op=2 then wr64 (a+b) else a
mutual
def bndF (xs:List Ix.Post):Qy→Int
  | .mk op role text kids=>bopF (textX xs role (matchF text)).length (textX xs role (fun _=>true)).length op (bndA xs kids)
def bndA (xs:List Ix.Post):List Qy→List Int
  | []=>[]
  | q::qs=>bndF xs q::bndA xs qs
end
theorem bndA_map (xs:List Ix.Post):∀ qs:List Qy,bndA xs qs=qs.map (bndF xs)
  | []=>by unfold bndA;rfl
  | q::qs=>by unfold bndA;rw [bndA_map xs qs];rfl
theorem bnd_0 (xs:List Ix.Post) (role:Int) (t:List UInt8) (ks:List Qy):bndF xs (.mk 0 role t ks)=(textX xs role (matchF t)).length:=by unfold bndF;rfl
theorem bnd_3 (xs:List Ix.Post) (role:Int) (t:List UInt8) (ks:List Qy):bndF xs (.mk 3 role t ks)=(textX xs role (fun _=>true)).length:=by unfold bndF;rfl
theorem bnd_1 (xs:List Ix.Post) (role:Int) (t:List UInt8) (a b:Qy):bndF xs (.mk 1 role t [a,b])=if bndF xs b<bndF xs a then bndF xs b else bndF xs a:=by rw [bndF,bndA_map];rfl
theorem bnd_2 (xs:List Ix.Post) (role:Int) (t:List UInt8) (a b:Qy):bndF xs (.mk 2 role t [a,b])=wr64 (bndF xs a+bndF xs b):=by rw [bndF,bndA_map];rfl
theorem bnd_4 (xs:List Ix.Post) {op:Int} (role:Int) (t:List UInt8) (a b:Qy) (h:op=4∨op=5∨op=6):bndF xs (.mk op role t [a,b])=bndF xs a:=by
  rw [bndF,bndA_map]
  rcases h with rfl|rfl|rfl <;> rfl
mutual
def sizeQ:Qy→Nat
  | .mk _ _ _ kids=>1+sizeA kids
def sizeA:List Qy→Nat
  | []=>0
  | q::qs=>sizeQ q+sizeA qs
end
theorem size_two {op role:Int} {t:List UInt8} {a b:Qy}:sizeQ (.mk op role t [a,b])=1+(sizeQ a+sizeQ b):=by rw [sizeQ,sizeA,sizeA,sizeA,Nat.add_zero]
theorem len_two2 {α:Type}:∀ {l:List α},l.length=2→∃ a b,l=[a,b]
  | [a,b],_=>⟨a,b,rfl⟩
  | [],h=>by simp at h
  | [a],h=>by simp at h
  | a::b::c::l,h=>by simp at h
theorem idsOf_sub {d:Dc} {p r:Int→Bool} (h:∀ x,p x=true→r x=true):(idsOf d p).length≤(idsOf d r).length:=by
  unfold idsOf
  have:(d.notes.map fun n=>n.id).filter p=((d.notes.map fun n=>n.id).filter r).filter p:=by
    rw [List.filter_filter]
    refine List.filter_congr fun x _=>?_
    cases hp:p x with
    | false=>rfl
    | true=>rw [h x hp];rfl
  rw [this]
  exact List.length_filter_le _ _
theorem wr_small {z:Int} (h0:-9223372036854775808≤z) (h1:z≤9223372036854775807):wr64 z=z:=by
  unfold wr64
  exact wrap_in .i64 (by rw [kmin];exact h0) (by rw [kmax];exact h1)
theorem ok_shape {q:Qy} (hok:okQ q):(∃ r t ks,q=.mk 0 r t ks)∨(∃ r t a,q=.mk 3 r t [a]∧okQ a)∨∃ op r t a b,q=.mk op r t [a,b]∧okQ a∧okQ b∧(op=1∨op=2∨op=4∨op=5∨op=6):=by
  obtain⟨op,r,t,ks⟩:=q
  unfold okQ at hok
  obtain⟨h0,h1,h2,h3⟩:=hok
  by_cases e0:op=0
  · subst e0;exact .inl ⟨r,t,ks,rfl⟩
  by_cases e3:op=3
  · subst e3
    obtain⟨a,rfl⟩:=List.length_eq_one_iff.1 (show ks.length=1 from h2)
    exact .inr (.inl ⟨r,t,a,rfl,okAll_get h3 (i:=0) rfl⟩)
  · have hk:ks.length=2:=by rw [h2];unfold kidsC;rw [if_neg e0,if_neg e3]
    obtain⟨a,b,rfl⟩:=len_two2 hk
    exact .inr (.inr ⟨op,r,t,a,b,rfl,okAll_get h3 (i:=0) rfl,okAll_get h3 (i:=1) rfl,by omega⟩)
theorem bound_len {d:Dc} (h:LightD d) {xs:List Ix.Post} (hl:Linked xs d):∀(z:Nat) (q:Qy),SizeOf.sizeOf q<z→okQ q→sizeQ q≤100000000→((evF matchF d q).length:Int)≤bndF xs q∧bndF xs q≤14*(sizeQ q:Int):=by
  intro z
  induction z with
  | zero=>intro q hq;omega
  | succ z ih=>
  intro q hqz hok hs
  have h14:∀ p:Int→Bool,(idsOf d p).length≤14:=fun p=>Nat.le_trans (idsOf_len p) h.nnotes
  rcases ok_shape hok with⟨r,t,ks,rfl⟩|⟨r,t,a,rfl,ha⟩|⟨op,r,t,a,b,rfl,ha,hb,hop⟩
  · rw [bnd_0,hl.text,evF_mk]
    have:=h14 (textP matchF d r t)
    refine⟨Int.le_refl _,?_⟩
    have:1≤sizeQ (.mk 0 r t ks):=by unfold sizeQ;omega
    omega
  · rw [bnd_3,hl.all,evF_mk]
    have:=h14 (ofRoleP d r)
    refine ⟨?_, by have : 1 ≤ sizeQ (.mk 3 r t [a]) := by unfold sizeQ; omega
                   omega⟩
    have:=idsOf_sub (d:=d) (p:=fun x=>ofRoleP d r x&&!decide (x∈evF matchF d a)) (r:=ofRoleP d r) (fun x hx=>by rw [Bool.and_eq_true] at hx;exact hx.1)
    exact Int.ofNat_le.2 this
  · have za:SizeOf.sizeOf a<z:=by simp only [Qy.mk.sizeOf_spec,List.cons.sizeOf_spec] at hqz;omega
    have zb:SizeOf.sizeOf b<z:=by simp only [Qy.mk.sizeOf_spec,List.cons.sizeOf_spec] at hqz;omega
    rw [size_two] at hs
    obtain⟨a1,a2⟩:=ih a za ha (by omega)
    obtain⟨b1,b2⟩:=ih b zb hb (by omega)
    have hA:=evF_in matchF d a
    have hB:=evF_in matchF d b
    have hra:=evF_rise (m:=matchF) h a
    have hrb:=evF_rise (m:=matchF) h b
    have hia:evF matchF d a=idsOf d (fun x=>decide (x∈evF matchF d a)):=idsOf_eq h hra fun x=>⟨fun hx=>⟨hA x hx,decide_eq_true hx⟩,fun hx=>of_decide_eq_true hx.2⟩
    have hib:evF matchF d b=idsOf d (fun x=>decide (x∈evF matchF d b)):=idsOf_eq h hrb fun x=>⟨fun hx=>⟨hB x hx,decide_eq_true hx⟩,fun hx=>of_decide_eq_true hx.2⟩
    have sub:∀ p:Int→Bool,(∀ x,p x=true→x∈evF matchF d a)→(idsOf d p).length≤(evF matchF d a).length:=fun p hp=>by
      have:=idsOf_sub (d:=d) (p:=p) (r:=fun x=>decide (x∈evF matchF d a)) (fun x hx=>decide_eq_true (hp x hx))
      rwa [← hia] at this
    have subb:∀ p:Int→Bool,(∀ x,p x=true→x∈evF matchF d b)→(idsOf d p).length≤(evF matchF d b).length:=fun p hp=>by
      have:=idsOf_sub (d:=d) (p:=p) (r:=fun x=>decide (x∈evF matchF d b)) (fun x hx=>decide_eq_true (hp x hx))
      rwa [← hib] at this
    rw [size_two,evF_mk]
    rcases hop with rfl|rfl|rfl|rfl|rfl
    · rw [bnd_1]
      have e1:=sub (fun x=>decide (x∈evF matchF d a)&&decide (x∈evF matchF d b)) (fun x hx=>by rw [Bool.and_eq_true] at hx;exact of_decide_eq_true hx.1)
      have e2:=subb (fun x=>decide (x∈evF matchF d a)&&decide (x∈evF matchF d b)) (fun x hx=>by rw [Bool.and_eq_true] at hx;exact of_decide_eq_true hx.2)
      have e3:opF matchF d 1 r t (List.map (evF matchF d) [a,b])=idsOf d (fun x=>decide (x∈evF matchF d a)&&decide (x∈evF matchF d b)):=rfl
      rw [e3]
      split <;> constructor <;> omega
    · rw [bnd_2,wr_small (by omega) (by omega)]
      have e3:opF matchF d 2 r t (List.map (evF matchF d) [a,b])=idsOf d (fun x=>decide (x∈evF matchF d a)||decide (x∈evF matchF d b)):=rfl
      rw [e3]
      have e4:(idsOf d (fun x=>decide (x∈evF matchF d a)||decide (x∈evF matchF d b))).length≤(evF matchF d a).length+(evF matchF d b).length:=by
        rw [← union_ids h hA hB]
        unfold unionS
        have h1:=compG_len_le ((evF matchF d a++evF matchF d b).mergeSort (fun x y=>decide (x≤y)))
        rw [compG_sort] at h1
        simpa using h1
      constructor <;> omega
    · rw [bnd_4 xs r t a b (.inl rfl)]
      have e1:=sub (thenP d (evF matchF d a) (evF matchF d b)) (fun x hx=>thenP_sub hx)
      have e3:opF matchF d 4 r t (List.map (evF matchF d) [a,b])=idsOf d (thenP d (evF matchF d a) (evF matchF d b)):=rfl
      rw [e3]
      constructor <;> omega
    · rw [bnd_4 xs r t a b (.inr (.inl rfl))]
      have e1:=sub (withinP d (evF matchF d a) (evF matchF d b)) (fun x hx=>withinP_sub hx)
      have e3:opF matchF d 5 r t (List.map (evF matchF d) [a,b])=idsOf d (withinP d (evF matchF d a) (evF matchF d b)):=rfl
      rw [e3]
      constructor <;> omega
    · rw [bnd_4 xs r t a b (.inr (.inr rfl))]
      have e1:=sub (hasP d (evF matchF d a) (evF matchF d b)) (fun x hx=>hasP_sub hx)
      have e3:opF matchF d 6 r t (List.map (evF matchF d) [a,b])=idsOf d (hasP d (evF matchF d a) (evF matchF d b)):=rfl
      rw [e3]
      constructor <;> omega
end Go.Proofs.YtnifmbbpfdghmaaGreatDoor
