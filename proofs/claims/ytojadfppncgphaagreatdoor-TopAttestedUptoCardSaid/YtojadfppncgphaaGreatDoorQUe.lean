/- Own text. -/
import Derived.Test.YtojadfppncgphaaGreatDoorQY8
set_option linter.all false
set_option maxHeartbeats 16000000
namespace Go.Proofs.YtojadfppncgphaaGreatDoor
section
open Go.RowKit Go.En Go.Dl Go.Tp
def inT (l:List Spn)(t:Int):Prop:=∃ x∈l,x.frm≤t∧t<x.til
theorem G9 (s:Spn):A5 s=true↔0≤s.frm∧s.frm<s.til∧s.til≤86400000:=by
 unfold A5
 rw [Bool.and_eq_true,Bool.and_eq_true,decide_eq_true_iff,decide_eq_true_iff,decide_eq_true_iff]
theorem B3i {α : Type}(p : α → Bool)(l : List α) : ∀ k, insN p l k ≤ k ∧ (∀ i y, insN p l k ≤ i → i < k → l[i]? = some y → p y = true) ∧ (∀ y j, insN p l k = j + 1 → l[j]? = some y → p y = false)
 | 0=>⟨Nat.le_refl _,fun i y _ h=>absurd h (by omega),fun y j h=>by simp [insN] at h⟩
 | k + 1 => by
  obtain⟨h1,h2,h3⟩:=B3i p l k
  rw [insN]
  cases hg:l[k]? with
  | none=>
   dsimp only
   refine⟨Nat.le_refl _,fun i y h h'=>absurd h' (by omega),fun y j h hj=>?_⟩
   obtain rfl:k=j:=by omega
   rw [hg] at hj;cases hj
  | some y=>
   cases hp:p y with
   | true=>
    dsimp only
    rw [hp,if_pos rfl]
    refine⟨by omega,fun i z hi hi' hz=>?_,h3⟩
    by_cases e:i=k
    ·subst e;rw [hg] at hz;cases hz;exact hp
    ·exact h2 i z hi (by omega) hz
   | false=>
    dsimp only
    rw [hp,if_neg (by decide)]
    refine⟨Nat.le_refl _,fun i z h h'=>absurd h' (by omega),fun z j h hj=>?_⟩
    obtain rfl:k=j:=by omega
    rw [hg] at hj;cases hj;exact hp
theorem D0w {α:Type}(lt:α→α→Bool)(l:List α)(x y:α):y∈insL lt l x↔y=x∨y∈l:=by
 unfold insL
 rw [List.mem_append,List.mem_cons]
 have h:y∈l↔y∈l.take (insN (lt x) l l.length)∨y∈l.drop (insN (lt x) l l.length):=by
  rw [← List.mem_append,List.take_append_drop]
 rw [h]
 constructor
 ·rintro(h|h|h)
  ·exact .inr (.inl h)
  ·exact .inl h
  ·exact .inr (.inr h)
 ·rintro(h|h|h)
  ·exact .inr (.inl h)
  ·exact .inl h
  ·exact .inr (.inr h)
theorem B3g {α:Type}(lt:α→α→Bool)(y:α):∀ l acc:List α,y∈l.foldl (insL lt) acc↔y∈l∨y∈acc
 | [],acc=>by simp
 | x :: r, acc => by
  rw [List.foldl_cons,B3g lt y r,D0w,List.mem_cons]
  constructor
  ·rintro(h|h|h)
   ·exact .inl (.inr h)
   ·exact .inl (.inl h)
   ·exact .inr h
  ·rintro((h|h)|h)
   ·exact .inr (.inl h)
   ·exact .inl h
   ·exact .inr (.inr h)
theorem A4j {α:Type}(lt:α→α→Bool)(l:List α)(y:α):y∈isrt lt l↔y∈l:=by
 unfold isrt;rw [B3g];simp
abbrev ltS:Spn→Spn→Bool:=fun a b=>decide (a.frm<b.frm)
theorem D0v {l:List Spn}{x:Spn}(h:l.Pairwise fun a b=>a.frm≤b.frm):(insL ltS l x).Pairwise fun a b=>a.frm≤b.frm:=by
 obtain⟨h1,h2,h3⟩:=B3i (ltS x) l l.length
 unfold insL
 obtain⟨j,hj⟩:∃ j,insN (ltS x) l l.length=j:=⟨_,rfl⟩
 rw [hj] at h1 h2 h3 ⊢
 have hs:(l.take j++l.drop j).Pairwise fun a b=>a.frm≤b.frm:=by rw [List.take_append_drop];exact h
 rw [List.pairwise_append] at hs
 obtain⟨s1,s2,s3⟩:=hs
 have hd:∀ b∈l.drop j,x.frm≤b.frm:=fun b hb=>by
  obtain⟨i,hi⟩:=List.getElem?_of_mem hb
  rw [List.getElem?_drop] at hi
  have:=h2 (j+i) b (by omega) (List.getElem?_eq_some_iff.1 hi).1 hi
  have:=of_decide_eq_true this
  omega
 have ht : ∀ a ∈ l.take j, a.frm ≤ x.frm := fun a ha => by
  obtain⟨i,hi⟩:=List.getElem?_of_mem ha
  have hil:=(List.getElem?_eq_some_iff.1 hi).1
  rw [List.length_take] at hil
  rw [List.getElem?_take_of_lt (by omega)] at hi
  obtain⟨m,rfl⟩:∃ m,j=m+1:=⟨j-1,by omega⟩
  have hm:m<l.length:=by omega
  have h4:=h3 l[m] m rfl (List.getElem?_eq_getElem hm)
  have h5:=of_decide_eq_false h4
  have h6:a.frm≤l[m].frm:=by
   by_cases e:i=m
   ·subst e;rw [List.getElem?_eq_getElem hm] at hi;cases hi;omega
   ·exact List.pairwise_iff_getElem.1 h i m (by omega) hm (by omega) |> fun q=>by
     have hil2:i<l.length:=by omega
     rw [List.getElem?_eq_getElem hil2] at hi
     cases hi;exact q
  omega
 rw [List.pairwise_append]
 refine⟨s1,List.pairwise_cons.2 ⟨hd,s2⟩,fun a ha b hb=>?_⟩
 rcases List.mem_cons.1 hb with rfl|hb
 ·exact ht a ha
 ·exact s3 a ha b hb
theorem B3e:∀(l:List Spn) {acc:List Spn},(acc.Pairwise fun a b=>a.frm≤b.frm)→(l.foldl (insL ltS) acc).Pairwise fun a b=>a.frm≤b.frm
 | [],_,h=>h
 | _::r,_,h=>B3e r (D0v h)
structure Nrm (l:List Spn):Prop where
 sep:l.Pairwise fun a b=>a.til<b.frm
 pos:∀ x∈l,x.frm<x.til
theorem D6x (init:List Spn)(t s:Spn):mrg (init++[t]) s=if s.frm≤t.til then init++[⟨t.frm,max t.til s.til⟩] else init++[t]++[s]:=by
 unfold mrg
 rw [List.getLast?_concat]
 dsimp only
 rw [List.dropLast_concat]
theorem L5 (a b:List Spn)(t:Int):inT (a++b) t↔inT a t∨inT b t:=by
 unfold inT
 constructor
 ·rintro⟨x,hx,h⟩
  rcases List.mem_append.1 hx with hx|hx
  ·exact .inl ⟨x,hx,h⟩
  ·exact .inr ⟨x,hx,h⟩
 ·rintro(⟨x,hx,h⟩|⟨x,hx,h⟩)
  ·exact⟨x,List.mem_append_left _ hx,h⟩
  ·exact⟨x,List.mem_append_right _ hx,h⟩
theorem L4 (x:Spn)(t:Int):inT [x] t↔x.frm≤t∧t<x.til:=by
 unfold inT
 constructor
 ·rintro⟨y,hy,h⟩
  obtain rfl:=List.mem_singleton.1 hy
  exact h
 ·exact fun h=>⟨x,List.mem_singleton_self _,h⟩
theorem D6w {out : List Spn}{s : Spn}(hN : Nrm out)(hs : s.frm < s.til)(hle : ∀ x ∈ out, x.frm ≤ s.frm) : Nrm (mrg out s) ∧ (∀ t, inT (mrg out s) t ↔ inT out t ∨ (s.frm ≤ t ∧ t < s.til)) ∧ (∀ x ∈ mrg out s, x.frm ≤ s.frm) := by
 rcases List.eq_nil_or_concat out with rfl|⟨init,t,rfl⟩
 ·refine⟨⟨List.pairwise_singleton _ _,fun x hx=>?_⟩,fun t=>?_,fun x hx=>?_⟩
  ·obtain rfl:=List.mem_singleton.1 hx;exact hs
  ·show inT [s] t↔_
   rw [L4]
   constructor
   ·exact .inr
   ·rintro(⟨x,hx,_⟩|h)
    ·cases hx
    ·exact h
  ·obtain rfl:=List.mem_singleton.1 hx;exact Int.le_refl _
 ·rw [List.concat_eq_append] at hN hle ⊢
  rw [D6x]
  obtain⟨hsep,hpos⟩:=hN
  rw [List.pairwise_append] at hsep
  obtain⟨s1,_,s3⟩:=hsep
  have ht:t.frm≤s.frm:=hle t (List.mem_append_right _ (List.mem_singleton_self _))
  have htp:t.frm<t.til:=hpos t (List.mem_append_right _ (List.mem_singleton_self _))
  by_cases hc:s.frm≤t.til
  ·rw [if_pos hc]
   refine⟨⟨?_,fun x hx=>?_⟩,fun u=>?_,fun x hx=>?_⟩
   ·rw [List.pairwise_append]
    refine⟨s1,List.pairwise_singleton _ _,fun a ha b hb=>?_⟩
    obtain rfl:=List.mem_singleton.1 hb
    exact s3 a ha t (List.mem_singleton_self _)
   ·rcases List.mem_append.1 hx with hx|hx
    ·exact hpos x (List.mem_append_left _ hx)
    ·obtain rfl:=List.mem_singleton.1 hx
     show t.frm<max t.til s.til
     omega
   ·rw [L5,L5,L4,L4]
    dsimp only
    constructor
    ·rintro(h|⟨h1,h2⟩)
     ·exact .inl (.inl h)
     ·by_cases h3:u<t.til
      ·exact .inl (.inr ⟨h1,h3⟩)
      ·exact .inr ⟨by omega,by omega⟩
    ·rintro((h|h)|h)
     ·exact .inl h
     ·exact .inr ⟨h.1,by omega⟩
     ·exact .inr ⟨by omega,by omega⟩
   ·rcases List.mem_append.1 hx with hx|hx
    ·exact hle x (List.mem_append_left _ hx)
    ·obtain rfl:=List.mem_singleton.1 hx;exact ht
  ·rw [if_neg hc]
   refine⟨⟨?_,fun x hx=>?_⟩,fun u=>?_,fun x hx=>?_⟩
   ·rw [List.pairwise_append]
    refine⟨by rw [List.pairwise_append];exact⟨s1,List.pairwise_singleton _ _,s3⟩,List.pairwise_singleton _ _,fun a ha b hb=>?_⟩
    obtain rfl:=List.mem_singleton.1 hb
    rcases List.mem_append.1 ha with ha|ha
    ·have:=s3 a ha t (List.mem_singleton_self _);omega
    ·obtain rfl:=List.mem_singleton.1 ha;omega
   ·rcases List.mem_append.1 hx with hx|hx
    ·exact hpos x hx
    ·obtain rfl:=List.mem_singleton.1 hx;exact hs
   ·rw [L5,L4]
   ·rcases List.mem_append.1 hx with hx|hx
    ·exact hle x hx
    ·obtain rfl:=List.mem_singleton.1 hx;exact Int.le_refl _
theorem B8a:∀(l out:List Spn),Nrm out→(l.Pairwise fun a b=>a.frm≤b.frm)→(∀ x∈l,x.frm<x.til)→(∀ x∈out,∀ y∈l,x.frm≤y.frm)→Nrm (l.foldl mrg out)∧∀ t,inT (l.foldl mrg out) t↔inT out t∨inT l t
 | [],out,hN,_,_,_=>⟨hN,fun t=>by rw [List.foldl_nil];constructor;exact .inl;rintro(h|⟨x,hx,_⟩);exact h;cases hx⟩
 | s :: r, out, hN, hs, hp, hle => by
  rw [List.pairwise_cons] at hs
  obtain⟨m1,m2,m3⟩:=D6w hN (hp s (List.mem_cons_self ..)) (fun x hx=>hle x hx s (List.mem_cons_self ..))
  obtain⟨i1,i2⟩:=B8a r (mrg out s) m1 hs.2 (fun x hx=>hp x (List.mem_cons_of_mem _ hx)) (fun x hx y hy=>Int.le_trans (m3 x hx) (hs.1 y hy))
  refine⟨i1,fun t=>?_⟩
  rw [List.foldl_cons,i2,m2,show s::r=[s]++r from rfl,L5,L4]
  constructor
  ·rintro((h|h)|h)
   ·exact .inl h
   ·exact .inr (.inl h)
   ·exact .inr (.inr h)
  ·rintro(h|h|h)
   ·exact .inl (.inl h)
   ·exact .inl (.inr h)
   ·exact .inr h
theorem P9 (l:List Spn):Nrm (uniP l)∧∀ t,inT (uniP l) t↔inT (l.filter A5) t:=by
 unfold uniP
 have hm:=fun y=>A4j (fun a b:Spn=>decide (a.frm<b.frm)) (l.filter A5) y
 have hp:∀ x∈isrt (fun a b:Spn=>decide (a.frm<b.frm)) (l.filter A5),x.frm<x.til:=fun x hx=>((G9 x).1 (List.mem_filter.1 ((hm x).1 hx)).2).2.1
 obtain⟨h1,h2⟩:=B8a (isrt (fun a b:Spn=>decide (a.frm<b.frm)) (l.filter A5)) [] ⟨.nil,fun x hx=>by cases hx⟩ (B3e _ .nil) hp (fun x hx=>by cases hx)
 refine⟨h1,fun t=>?_⟩
 rw [h2]
 constructor
 ·rintro(⟨x,hx,_⟩|⟨x,hx,h⟩)
  ·cases hx
  ·exact⟨x,(hm x).1 hx,h⟩
 ·rintro⟨x,hx,h⟩
  exact .inr ⟨x,(hm x).2 hx,h⟩
theorem A5r : ∀ (n : Nat) (a b : List Spn) (t : Int), inT (N6 n a b) t → inT a t ∧ inT b t
 | 0,a,b,t,h=>by rw [N6] at h;obtain⟨x,hx,_⟩:=h;cases hx;intros;contradiction
 | n+1,[],b,t,h=>by rw [N6] at h;obtain⟨x,hx,_⟩:=h;cases hx;all_goals (intros;contradiction)
 | n+1,x::a,[],t,h=>by rw [N6] at h;obtain⟨x,hx,_⟩:=h;cases hx;all_goals (intros;contradiction)
 | n + 1, x :: a, y :: b, t, h => by
  rw [N6,L5] at h
  rcases h with h|h
  ·split at h
   ·rw [L4] at h
    dsimp only at h
    exact⟨⟨x,List.mem_cons_self ..,by omega⟩,⟨y,List.mem_cons_self ..,by omega⟩⟩
   ·obtain⟨z,hz,_⟩:=h;cases hz
  ·split at h
   ·obtain⟨⟨z,hz,h1⟩,h2⟩:=A5r n a (y::b) t h
    exact⟨⟨z,List.mem_cons_of_mem _ hz,h1⟩,h2⟩
   ·obtain⟨h1,⟨z,hz,h2⟩⟩:=A5r n (x::a) b t h
    exact⟨h1,⟨z,List.mem_cons_of_mem _ hz,h2⟩⟩
theorem B8u:∀(u:List Spn) (a t:Int),Nrm u→(∀ x∈u,a≤x.frm)→inT (Q9 a u) t→a≤t∧¬ inT u t
 | [],a,t,_,_,h=>by
  rw [Q9,L4] at h
  exact⟨h.1,fun⟨x,hx,_⟩=>by cases hx⟩
 | s :: r, a, t, hN, ha, h => by
  obtain⟨hsep,hpos⟩:=hN
  rw [List.pairwise_cons] at hsep
  have hsp:=hpos s (List.mem_cons_self ..)
  have has:=ha s (List.mem_cons_self ..)
  rw [Q9,show(⟨a,s.frm⟩:Spn)::Q9 s.til r=[⟨a,s.frm⟩]++Q9 s.til r from rfl,L5,L4] at h
  rcases h with h|h
  ·dsimp only at h
   refine⟨h.1,fun⟨x,hx,h1,h2⟩=>?_⟩
   rcases List.mem_cons.1 hx with rfl|hx
   ·omega
   ·have:=hsep.1 x hx;omega
  ·obtain⟨h1,h2⟩:=B8u r s.til t ⟨hsep.2,fun x hx=>hpos x (List.mem_cons_of_mem _ hx)⟩ (fun x hx=>by have:=hsep.1 x hx;omega) h
   refine⟨by omega,fun⟨x,hx,h3⟩=>?_⟩
   rcases List.mem_cons.1 hx with rfl|hx
   ·omega
   ·exact h2 ⟨x,hx,h3⟩
theorem A3a {l:List Spn}{t:Int}(h:inT (l.filter A5) t):inT l t:=by
 obtain⟨x,hx,h⟩:=h
 exact⟨x,(List.mem_filter.1 hx).1,h⟩
theorem D7u {a b:List Spn}{s:Spn}(h:covP (A2y a b) s=true):A5 s=true∧∀ t,s.frm≤t→t<s.til→inT (a.filter A5) t∧¬ inT (b.filter A5) t:=by
 unfold covP at h
 rw [Bool.and_eq_true,List.any_eq_true] at h
 obtain⟨hr,x,hx,hxs⟩:=h
 rw [Bool.and_eq_true,decide_eq_true_iff,decide_eq_true_iff] at hxs
 refine⟨hr,fun t h1 h2=>?_⟩
 have h3:inT (uniP (A2y a b)) t:=⟨x,hx,by omega,by omega⟩
 have h4:=A3a (((P9 _).2 t).1 h3)
 unfold A2y B9q at h4
 obtain⟨h5,h6⟩:=A5r _ _ _ t h4
 refine⟨((P9 a).2 t).1 h5,fun h7=>?_⟩
 have h8:=A3a (((P9 _).2 t).1 h6)
 refine(B8u _ 0 t (P9 b).1 (fun y hy=>?_) h8).2 (((P9 b).2 t).2 h7)
 obtain⟨z,hz,hz1,_⟩:=((P9 b).2 y.frm).1 ⟨y,hy,Int.le_refl _,(P9 b).1.pos y hy⟩
 have:=(G9 z).1 (List.mem_filter.1 hz).2
 omega
def Ovr (l:List Spn)(p:Int→Prop):Prop:=(∀ x∈l,A5 x=true)∧∀ t,p t→inT l t
theorem D5b {l : List Spn}{p : Int → Prop}(h : Ovr l p)(s : Spn) : Ovr (woS l s) fun t => p t ∧ ¬ (s.frm ≤ t ∧ t < s.til) := by
 obtain⟨h1,h2⟩:=h
 unfold woS
 refine⟨fun x hx=>?_,fun t ht=>?_⟩
 ·obtain⟨y,hy,hx⟩:=List.mem_flatMap.1 hx
  rcases List.mem_append.1 hx with hx|hx
  ·split at hx
   ·rename_i hc
    obtain rfl:=List.mem_singleton.1 hx;exact hc
   ·cases hx
  ·split at hx
   ·rename_i hc
    obtain rfl:=List.mem_singleton.1 hx;exact hc
   ·cases hx
 ·obtain⟨x,hx,hx1,hx2⟩:=h2 t ht.1
  have hr:=(G9 x).1 (h1 x hx)
  by_cases hl:t<s.frm
  ·refine⟨cutL x s,List.mem_flatMap.2 ⟨x,hx,List.mem_append_left _ ?_⟩,?_⟩
   ·rw [if_pos]
    ·exact List.mem_singleton_self _
    ·rw [G9];unfold cutL;dsimp only;omega
   ·unfold cutL;dsimp only;omega
  ·have hg:s.til≤t:=by have:=ht.2;omega
   refine⟨cutR x s,List.mem_flatMap.2 ⟨x,hx,List.mem_append_right _ ?_⟩,?_⟩
   ·rw [if_pos]
    ·exact List.mem_singleton_self _
    ·rw [G9];unfold cutR;dsimp only;omega
   ·unfold cutR;dsimp only;omega
theorem B8q : ∀ (l : List Spn) (q : List Spn × Spn × List Spn) (p : Int → Prop), (∀ x ∈ l, A5 x = true) → Ovr (q.1 ++ q.2.1 :: q.2.2) p →
  Ovr ((l.foldl (fun(q:List Spn × Spn × List Spn) x=>if x.til<q.2.1.frm then (q.1++[x],q.2.1,q.2.2) else if q.2.1.til<x.frm then (q.1,q.2.1,q.2.2++[x]) else (q.1,⟨min q.2.1.frm x.frm,max q.2.1.til x.til⟩,q.2.2)) q).1++
   (l.foldl (fun(q:List Spn × Spn × List Spn) x=>if x.til<q.2.1.frm then (q.1++[x],q.2.1,q.2.2) else if q.2.1.til<x.frm then (q.1,q.2.1,q.2.2++[x]) else (q.1,⟨min q.2.1.frm x.frm,max q.2.1.til x.til⟩,q.2.2)) q).2.1::
   (l.foldl (fun(q:List Spn × Spn × List Spn) x=>if x.til<q.2.1.frm then (q.1++[x],q.2.1,q.2.2) else if q.2.1.til<x.frm then (q.1,q.2.1,q.2.2++[x]) else (q.1,⟨min q.2.1.frm x.frm,max q.2.1.til x.til⟩,q.2.2)) q).2.2) fun t=>p t∨inT l t
 | [],q,p,_,h=>⟨h.1,fun t ht=>by rcases ht with ht|⟨x,hx,_⟩;exact h.2 t ht;cases hx⟩
 | x :: r, (bf, s, af), p, hl, h => by
  rw [List.foldl_cons]
  have hx:=hl x (List.mem_cons_self ..)
  have hxr:=(G9 x).1 hx
  have hsr:=(G9 s).1 (h.1 s (List.mem_append_right _ (List.mem_cons_self ..)))
  have key:∀ q2:List Spn × Spn × List Spn,Ovr (q2.1++q2.2.1::q2.2.2) (fun t=>p t∨(x.frm≤t∧t<x.til))→_:=fun q2 h2=>B8q r q2 _ (fun y hy=>hl y (List.mem_cons_of_mem _ hy)) h2
  have fin:∀ {l2:List Spn},Ovr l2 (fun t=>(p t∨(x.frm≤t∧t<x.til))∨inT r t)→Ovr l2 (fun t=>p t∨inT (x::r) t):=fun h2=>⟨h2.1,fun t ht=>h2.2 t (by
   rcases ht with ht|⟨y,hy,hy1⟩
   ·exact .inl (.inl ht)
   ·rcases List.mem_cons.1 hy with rfl|hy
    ·exact .inl (.inr hy1)
    ·exact .inr ⟨y,hy,hy1⟩)⟩
  refine fin (key _ ?_)
  dsimp only at h ⊢
  split
  ·refine⟨fun y hy=>?_,fun t ht=>?_⟩
   ·dsimp only at hy
    rcases List.mem_append.1 hy with hy|hy
    ·rcases List.mem_append.1 hy with hy|hy
     ·exact h.1 y (List.mem_append_left _ hy)
     ·obtain rfl:=List.mem_singleton.1 hy;exact hx
    ·exact h.1 y (List.mem_append_right _ hy)
   ·dsimp only
    rcases ht with ht|ht
    ·have:=h.2 t ht
     rw [L5] at this ⊢
     rw [L5]
     rcases this with h|h
     ·exact .inl (.inl h)
     ·exact .inr h
    ·rw [L5,L5,L4];exact .inl (.inr ht)
  ·split
   ·refine⟨fun y hy=>?_,fun t ht=>?_⟩
    ·dsimp only at hy
     rcases List.mem_append.1 hy with hy|hy
     ·exact h.1 y (List.mem_append_left _ hy)
     ·rcases List.mem_cons.1 hy with rfl|hy
      ·exact h.1 _ (List.mem_append_right _ (List.mem_cons_self ..))
      ·rcases List.mem_append.1 hy with hy|hy
       ·exact h.1 y (List.mem_append_right _ (List.mem_cons_of_mem _ hy))
       ·obtain rfl:=List.mem_singleton.1 hy;exact hx
    ·dsimp only
     rw [show bf++s::(af++[x])=(bf++s::af)++[x] by simp,L5,L4]
     rcases ht with ht|ht
     ·exact .inl (h.2 t ht)
     ·exact .inr ht
   ·refine⟨fun y hy=>?_,fun t ht=>?_⟩
    ·dsimp only at hy
     rcases List.mem_append.1 hy with hy|hy
     ·exact h.1 y (List.mem_append_left _ hy)
     ·rcases List.mem_cons.1 hy with rfl|hy
      ·rw [G9];dsimp only;omega
      ·exact h.1 y (List.mem_append_right _ (List.mem_cons_of_mem _ hy))
    ·dsimp only
     rw [show ∀ z:Spn,bf++z::af=bf++([z]++af) from fun _=>rfl,L5,L5,L4]
     dsimp only
     rcases ht with ht|ht
     ·have:=h.2 t ht
      rw [show bf++s::af=bf++([s]++af) from rfl,L5,L5,L4] at this
      rcases this with h|h|h
      ·exact .inl h
      ·exact .inr (.inl ⟨by omega,by omega⟩)
      ·exact .inr (.inr h)
     ·exact .inr (.inl ⟨by omega,by omega⟩)
theorem D0t {l:List Spn}{p:Int→Prop}(h:Ovr l p){s:Spn}(hs:A5 s=true):Ovr (insR l s) fun t=>p t∨(s.frm≤t∧t<s.til):=by
 have:=B8q l ([],s,[]) (fun t=>s.frm≤t∧t<s.til) h.1 ⟨fun x hx=>by obtain rfl:=List.mem_singleton.1 hx;exact hs,fun t ht=>(L4 s t).2 ht⟩
 refine⟨this.1,fun t ht=>this.2 t ?_⟩
 rcases ht with ht|ht
 ·exact .inr (h.2 t ht)
 ·exact .inl ht
theorem A5d : ∀ (l out : List Spn) (p : Int → Prop), Ovr out p → Ovr (l.foldl (fun out s => if A5 s then insR out s else out) out) fun t => p t ∨ inT (l.filter A5) t
 | [],out,p,h=>⟨h.1,fun t ht=>by rcases ht with ht|⟨x,hx,_⟩;exact h.2 t ht;cases hx⟩
 | s :: r, out, p, h => by
  rw [List.foldl_cons]
  cases hs:A5 s with
  | true=>
   rw [if_pos rfl]
   have:=A5d r _ _ (D0t h hs)
   refine⟨this.1,fun t ht=>this.2 t ?_⟩
   rcases ht with ht|⟨y,hy,hy1⟩
   ·exact .inl (.inl ht)
   ·rw [List.filter_cons_of_pos hs] at hy
    rcases List.mem_cons.1 hy with rfl|hy
    ·exact .inl (.inr hy1)
    ·exact .inr ⟨y,hy,hy1⟩
  | false=>
   rw [if_neg (by decide),List.filter_cons_of_neg (by rw [hs];decide)]
   exact A5d r out p h
theorem A8a (l:List Spn):Ovr (uniS l) fun t=>inT (l.filter A5) t:=by
 have:=A5d l [] (fun _=>False) ⟨fun x hx=>(by cases hx),fun t ht=>ht.elim⟩
 exact⟨this.1,fun t ht=>this.2 t (.inr ht)⟩
theorem C9z {l:List Spn}{p:Int→Prop}(h:Ovr l p)(s:Spn):Ovr (minS l [s]) fun t=>p t∧(A5 s=true→¬ (s.frm≤t∧t<s.til)):=by
 have hu:=A8a l
 have hf:l.filter A5=l:=List.filter_eq_self.2 h.1
 rw [hf] at hu
 have hu2:Ovr (uniS l) p:=⟨hu.1,fun t ht=>hu.2 t (h.2 t ht)⟩
 unfold minS
 rw [List.foldl_cons,List.foldl_nil]
 cases hs:A5 s with
 | true=>
  rw [if_pos rfl]
  have:=D5b hu2 s
  exact⟨this.1,fun t ht=>this.2 t ⟨ht.1,ht.2 rfl⟩⟩
 | false=>
  rw [if_neg (by decide)]
  exact⟨hu2.1,fun t ht=>hu2.2 t ht.1⟩
theorem A7n : ∀ (b l : List Spn) (z : Spn), (∀ x ∈ l, A5 x = true) → z ∈ b.foldl (fun out s => if A5 s then woS out s else out) l → A5 z = true ∧ (∃ x ∈ l, x.frm ≤ z.frm ∧ z.til ≤ x.til) ∧ ∀ y ∈ b, A5 y = true → z.til ≤ y.frm ∨ y.til ≤ z.frm
 | [],l,z,hl,h=>⟨hl z h,⟨z,h,Int.le_refl _,Int.le_refl _⟩,fun y hy=>by cases hy⟩
 | y :: b, l, z, hl, h => by
  rw [List.foldl_cons] at h
  cases hy:A5 y with
  | false=>
   rw [hy,if_neg (by decide)] at h
   obtain⟨h1,h2,h3⟩:=A7n b l z hl h
   refine⟨h1,h2,fun q hq hqr=>?_⟩
   rcases List.mem_cons.1 hq with rfl|hq
   ·rw [hy] at hqr;cases hqr
   ·exact h3 q hq hqr
  | true=>
   rw [hy,if_pos rfl] at h
   have hw:∀ x∈woS l y,A5 x=true∧(∃ u∈l,u.frm≤x.frm∧x.til≤u.til)∧(x.til≤y.frm∨y.til≤x.frm):=fun x hx=>by
    unfold woS at hx
    obtain⟨u,hu,hx⟩:=List.mem_flatMap.1 hx
    rcases List.mem_append.1 hx with hx|hx
    ·split at hx
     ·rename_i hc
      obtain rfl:=List.mem_singleton.1 hx
      refine⟨hc,⟨u,hu,?_⟩,.inl ?_⟩
      ·unfold cutL;dsimp only;omega
      ·unfold cutL;dsimp only;omega
     ·cases hx
    ·split at hx
     ·rename_i hc
      obtain rfl:=List.mem_singleton.1 hx
      refine⟨hc,⟨u,hu,?_⟩,.inr ?_⟩
      ·unfold cutR;dsimp only;omega
      ·unfold cutR;dsimp only;omega
     ·cases hx
   obtain⟨h1,⟨x,hx,h2,h3⟩,h4⟩:=A7n b (woS l y) z (fun x hx=>(hw x hx).1) h
   obtain⟨_,⟨u,hu,h5,h6⟩,h7⟩:=hw x hx
   refine⟨h1,⟨u,hu,by omega,by omega⟩,fun q hq hqr=>?_⟩
   rcases List.mem_cons.1 hq with rfl|hq
   ·rcases h7 with h|h
    ·exact .inl (by omega)
    ·exact .inr (by omega)
   ·exact h4 q hq hqr
theorem D7v {l:List Spn}{s:Spn}(hs:A5 s=true)(h:∀ t,s.frm≤t→t<s.til→inT (l.filter A5) t):covS l s=true:=by
 unfold covS
 rw [hs,Bool.true_and,decide_eq_true_iff]
 refine List.length_eq_zero_iff.2 (List.eq_nil_iff_forall_not_mem.2 fun z hz=>?_)
 have hu:uniS [s]=[s]:=by
  unfold uniS
  rw [List.foldl_cons,List.foldl_nil,if_pos hs]
  rfl
 unfold minS at hz
 rw [hu] at hz
 obtain⟨h1,⟨x,hx,h2,h3⟩,h4⟩:=A7n l [s] z (fun x hx=>by obtain rfl:=List.mem_singleton.1 hx;exact hs) hz
 obtain rfl:=List.mem_singleton.1 hx
 have h5:=(G9 z).1 h1
 obtain⟨y,hy,hy1⟩:=h z.frm h2 (by omega)
 have:=List.mem_filter.1 hy
 rcases h4 y this.1 this.2 with h|h
 ·omega
 ·omega
end
section
open Go.RowKit Go.En Go.Dl Go.Tp
def mayR (people:List Pers)(groups:List Grp)(p:Prot)(v:Vwr):Bool:=
 if v.day<p.til then false else if p.level=0 then true else if p.level=1 then mbrB people v.person else if p.level=2 then p.groups.anyB fun g=>hasR (memR groups g) v.person else false
def T8 (a:Rgts)(r:Rc)(v:Vwr):List Rul→List Spn→List Spn
 | [],out=>out
 | x::q,out=>if x.rcd≠r.id∨mayR a.people a.groups x.prot v=true then T8 a r v q out else if x.span.frm=0∧x.span.til=0 then [] else T8 a r v q (minS out [x.span])
def A8h (a:Rgts)(r:Rc)(v:Vwr):List Spn:=if S4 a r v≠0 then [] else T8 a r v a.rules [⟨0,r.len⟩]
def B8d (a:Rgts)(r:Rc)(s:Spn)(v:Vwr):Int:=
 if S4 a r v≠0 then S4 a r v else if A5 s=false∨r.len<s.til then 12 else if covS (A8h a r v) s=false then 25 else 0
theorem B6z (a b:List Int)(y:Int):y∈uniR a b↔y∈a∨y∈b:=by
 unfold uniR srtR
 rw [Y5,Y5]
 constructor
 ·rintro(h|h|h)
  ·exact .inr h
  ·exact .inl h
  ·cases h
 ·rintro(h|h)
  ·exact .inr (.inl h)
  ·exact .inl h
theorem A3p (l:List Int)(y:Int):y∈srtR l↔y∈l:=by
 unfold srtR;rw [Y5];simp
theorem B2l (l : List Grp)(y : Int) : ∀ (q acc : List Int), y ∈ q.foldl (fun more k => match grpF l k with | some g => uniR more g.subs | none => more) acc ↔ y ∈ acc ∨ ∃ k ∈ q, ∃ g, grpF l k = some g ∧ y ∈ g.subs
 | [],acc=>by simp
 | k :: q, acc => by
  rw [List.foldl_cons,B2l l y q]
  cases hg:grpF l k with
  | none=>
   dsimp only
   constructor
   ·rintro(h|⟨j,hj,h⟩)
    ·exact .inl h
    ·exact .inr ⟨j,List.mem_cons_of_mem _ hj,h⟩
   ·rintro(h|⟨j,hj,g,h1,h2⟩)
    ·exact .inl h
    ·rcases List.mem_cons.1 hj with rfl|hj
     ·rw [hg] at h1;cases h1
     ·exact .inr ⟨j,hj,g,h1,h2⟩
  | some g=>
   dsimp only
   rw [B6z]
   constructor
   ·rintro((h|h)|⟨j,hj,h⟩)
    ·exact .inl h
    ·exact .inr ⟨k,List.mem_cons_self ..,g,hg,h⟩
    ·exact .inr ⟨j,List.mem_cons_of_mem _ hj,h⟩
   ·rintro(h|⟨j,hj,g',h1,h2⟩)
    ·exact .inl (.inl h)
    ·rcases List.mem_cons.1 hj with rfl|hj
     ·rw [hg] at h1;cases h1;exact .inl (.inr h2)
     ·exact .inr ⟨j,hj,g',h1,h2⟩
theorem B2k (l:List Grp)(out:List Int)(y:Int):y∈S3 l out↔y∈out∨∃ k∈out,∃ g,grpF l k=some g∧y∈g.subs:=by
 unfold S3;exact B2l l y out out
theorem A7h {α:Type}(f:α→α):∀(n:Nat) (a:α),itr f (n+1) a=f (itr f n a)
 | 0,_=>rfl
 | n+1,a=>by rw [itr,A7h f n (f a)];rfl
theorem D0r (l:List Grp)(S:List Int)(y:Int):∀ {j k:Nat},j≤k→y∈itr (S3 l) j S→y∈itr (S3 l) k S:=fun {j k} h=>by
 induction h with
 | refl=>exact id
 | step h ih=>exact fun hy=>by rw [A7h,B2k];exact .inl (ih hy)
theorem C2g (l : List Grp)(S : List Int) : ∀ (n : Nat) (met : List Int) (u : Int) (j : Nat), (∀ g, grpF l u = some g → ∀ s ∈ g.subs, s ∈ itr (S3 l) j S) → ∀ x ∈ visG l n met u, x ∈ met ∨ x ∈ itr (S3 l) (j + n) S
 | 0,met,u,j,_,x,hx=>.inl hx
 | n + 1, met, u, j, hj, x, hx => by
  rw [visG] at hx
  have key:∀(q:List Int),(∀ s∈q,s∈itr (S3 l) j S)→∀ m,x∈q.foldl (fun met sub=>if (grpF l sub).isSome&&!hasI met sub then visG l n (met++[sub]) sub else met) m→x∈m∨x∈itr (S3 l) (j+(n+1)) S:=by
   intro q
   induction q with
   | nil=>exact fun _ m hm=>.inl hm
   | cons s q ih=>
    intro hq m hm
    rw [List.foldl_cons] at hm
    rcases ih (fun y hy=>hq y (List.mem_cons_of_mem _ hy)) _ hm with h|h
    ·split at h
     ·have hs:=hq s (List.mem_cons_self ..)
      rcases C2g l S n (m++[s]) s (j+1) (fun g hg y hy=>by rw [A7h,B2k];exact .inr ⟨s,hs,g,hg,hy⟩) x h with h|h
      ·rcases List.mem_append.1 h with h|h
       ·exact .inl h
       ·obtain rfl:=List.mem_singleton.1 h
        exact .inr (D0r l S _ (by omega) hs)
      ·exact .inr (D0r l S _ (by omega) h)
     ·exact .inl h
    ·exact .inr h
  refine key _ ?_ met hx
  cases hg:grpF l u with
  | none=>intro s hs;cases hs
  | some g=>exact fun s hs=>hj g hg s hs
theorem C5g {l:List Grp}{id x:Int}(h:x∈belP l id):x∈belR l id:=by
 unfold belP at h
 rw [A3p] at h
 unfold belR
 rcases C2g l (match grpF l id with|some g=>srtR g.subs|none=>[]) l.length [] id 0 (fun g hg s hs=>by rw [hg];exact(A3p _ _).2 hs) x h with h|h
 ·cases h
 ·rwa [Nat.zero_add] at h
theorem B7a (l : List Grp)(y : Int) : ∀ (q acc : List Int), y ∈ q.foldl (fun out k => match grpF l k with | some g => uniR out g.people | none => out) acc ↔ y ∈ acc ∨ ∃ k ∈ q, ∃ g, grpF l k = some g ∧ y ∈ g.people
 | [],acc=>by simp
 | k :: q, acc => by
  rw [List.foldl_cons,B7a l y q]
  cases hg:grpF l k with
  | none=>
   dsimp only
   constructor
   ·rintro(h|⟨j,hj,h⟩)
    ·exact .inl h
    ·exact .inr ⟨j,List.mem_cons_of_mem _ hj,h⟩
   ·rintro(h|⟨j,hj,g,h1,h2⟩)
    ·exact .inl h
    ·rcases List.mem_cons.1 hj with rfl|hj
     ·rw [hg] at h1;cases h1
     ·exact .inr ⟨j,hj,g,h1,h2⟩
  | some g=>
   dsimp only
   rw [B6z]
   constructor
   ·rintro((h|h)|⟨j,hj,h⟩)
    ·exact .inl h
    ·exact .inr ⟨k,List.mem_cons_self ..,g,hg,h⟩
    ·exact .inr ⟨j,List.mem_cons_of_mem _ hj,h⟩
   ·rintro(h|⟨j,hj,g',h1,h2⟩)
    ·exact .inl (.inl h)
    ·rcases List.mem_cons.1 hj with rfl|hj
     ·rw [hg] at h1;cases h1;exact .inl (.inr h2)
     ·exact .inr ⟨j,hj,g',h1,h2⟩
theorem D1d (l:List Int)(x:Int):hasR l x=true↔x∈l:=by
 unfold hasR
 rw [R5,List.any_eq_true]
 constructor
 ·rintro⟨y,hy,h⟩
  have:=of_decide_eq_true h
  rwa [← this]
 ·exact fun h=>⟨x,h,decide_eq_true rfl⟩
theorem D1e (s:List Int)(x:Int):hasI s x=true↔x∈s:=by
 unfold hasI
 rw [List.any_eq_true]
 constructor
 ·rintro⟨y,hy,h⟩
  have:=of_decide_eq_true h
  rwa [this]
 ·exact fun h=>⟨x,h,decide_eq_true rfl⟩
theorem D5u {l:List Grp}{y:Int}{q acc:List Int}{k:Int}{g:Grp}(hk:k∈q)(hg:grpF l k=some g)(hy:y∈g.people):y∈q.foldl (fun out k=>match grpF l k with|some g=>uniR out g.people|none=>out) acc:=(B7a l y q acc).2 (.inr ⟨k,hk,g,hg,hy⟩)
theorem G6o {l : List Grp}{id x : Int}(h : inP l id x = true) : hasR (memR l id) x = true := by
 unfold inP memP at h
 rw [D1e,A3p] at h
 obtain⟨k,hk,hx⟩:=List.mem_flatMap.1 h
 rw [D1d]
 unfold memR
 cases hg:grpF l id with
 | none=>
  exfalso
  rcases List.mem_cons.1 hk with rfl|hk
  ·rw [hg] at hx;cases hx
  ·have hb:=C5g hk
   unfold belR at hb
   rw [hg] at hb
   have:∀ n,itr (S3 l) n []=[]:=fun n=>by
    induction n with
    | zero=>rfl
    | succ n ih=>rw [A7h,ih];rfl
   dsimp only at hb
   rw [this] at hb;cases hb
 | some g0=>
  cases hgk:grpF l k with
  | none=>rw [hgk] at hx;cases hx
  | some g=>
   rw [hgk] at hx
   refine D5u (k:=k) ?_ hgk hx
   rw [A3t]
   rcases List.mem_cons.1 hk with rfl|hk
   ·exact .inl rfl
   ·exact .inr (C5g hk)
theorem G3o {people:List Pers}{groups:List Grp}{p:Prot}{v:Vwr}(h0:0≤p.level)(h3:p.level≤3)(h:mayP people groups p v=true):mayR people groups p v=true:=by
 unfold mayP at h
 unfold mayR
 by_cases hd:v.day<p.til
 ·rw [if_pos hd] at h;cases h
 rw [if_neg hd] at h ⊢
 by_cases h2:p.level=2
 ·rw [if_pos h2,List.any_eq_true] at h
  obtain⟨g,hg,h⟩:=h
  rw [if_neg (by omega),if_neg (by omega),if_pos h2,R5,List.any_eq_true]
  exact⟨g,hg,G6o h⟩
 rw [if_neg h2] at h
 by_cases h3:p.level=3
 ·rw [if_pos h3] at h;cases h
 rw [if_neg h3] at h
 by_cases h1:p.level=1
 ·rw [if_pos h1] at h
  rw [if_neg (by omega),if_pos h1];exact h
 ·rw [if_pos (by omega)]
theorem A2t {a : Rgts}{r : Rc}{v : Vwr} : ∀ (q : List Rul) (out : List Spn) (p : Int → Prop), (∀ x ∈ q, x.rcd = r.id → mayR a.people a.groups x.prot v = false → ¬ (x.span.frm = 0 ∧ x.span.til = 0)) → Ovr out p →
  Ovr (T8 a r v q out) fun t=>p t∧∀ x∈q,x.rcd=r.id→mayR a.people a.groups x.prot v=false→A5 x.span=true→¬ (x.span.frm≤t∧t<x.span.til)
 | [],out,p,_,h=>⟨h.1,fun t ht=>h.2 t ht.1⟩
 | x :: q, out, p, hz, h => by
  rw [T8]
  have hz2:∀ y∈q,y.rcd=r.id→mayR a.people a.groups y.prot v=false→¬ (y.span.frm=0∧y.span.til=0):=fun y hy=>hz y (List.mem_cons_of_mem _ hy)
  by_cases hc:x.rcd≠r.id∨mayR a.people a.groups x.prot v=true
  ·rw [if_pos hc]
   have:=A2t q out p hz2 h
   exact⟨this.1,fun t ht=>this.2 t ⟨ht.1,fun y hy=>ht.2 y (List.mem_cons_of_mem _ hy)⟩⟩
  ·rw [if_neg hc]
   have hc1:x.rcd=r.id:=Decidable.byContradiction fun e=>hc (.inl e)
   have hc2:mayR a.people a.groups x.prot v=false:=by
    cases hm:mayR a.people a.groups x.prot v with
    | false=>rfl
    | true=>exact absurd (.inr hm) hc
   rw [if_neg (hz x (List.mem_cons_self ..) hc1 hc2)]
   have:=A2t q _ _ hz2 (C9z h x.span)
   exact⟨this.1,fun t ht=>this.2 t ⟨⟨ht.1,ht.2 x (List.mem_cons_self ..) hc1 hc2⟩,fun y hy=>ht.2 y (List.mem_cons_of_mem _ hy)⟩⟩
theorem C6j {a:Rgts}{r:Rc}{s:Spn}{v:Vwr}(hg:∀ x∈a.rules,0≤x.prot.level∧x.prot.level≤3)(hr:1≤r.len∧r.len≤86400000)(h:mayA a r s v=0):B8d a r s v=0:=by
 unfold mayA at h
 unfold B8d
 by_cases hb:S4 a r v≠0
 ·rw [if_pos hb] at h;exact absurd h hb
 rw [if_neg hb] at h ⊢
 by_cases hs:A5 s=false∨r.len<s.til
 ·rw [if_pos hs] at h;cases h
 rw [if_neg hs] at h ⊢
 by_cases hc:covP (D4 a r v) s=false
 ·rw [if_pos hc] at h;cases h
 rw [Bool.not_eq_false] at hc
 have hrs:A5 s=true:=by
  cases hq:A5 s with
  | true=>rfl
  | false=>exact absurd (.inl hq) hs
 have hrS:=(G9 s).1 hrs
 rw [if_neg]
 rw [Bool.not_eq_false]
 unfold D4 at hc
 rw [if_neg hb] at hc
 by_cases hz:((ruls a r v).any fun x=>decide (x.span.frm=0)&&decide (x.span.til=0))=true
 ·rw [if_pos hz] at hc
  exfalso
  unfold covP at hc
  rw [Bool.and_eq_true,List.any_eq_true] at hc
  obtain⟨_,x,hx,_⟩:=hc
  obtain⟨z,hz,_⟩:=((P9 []).2 x.frm).1 ⟨x,hx,Int.le_refl _,(P9 []).1.pos x hx⟩
  cases hz
 rw [if_neg hz] at hc
 have hp:=(D7u hc).2
 have hin:∀ x∈a.rules,x.rcd=r.id→mayR a.people a.groups x.prot v=false→x∈ruls a r v:=fun x hx h1 h2=>by
  unfold ruls
  refine List.mem_filter.2 ⟨hx,?_⟩
  rw [h1,decide_eq_true rfl,Bool.true_and]
  cases hm:mayP a.people a.groups x.prot v with
  | false=>rfl
  | true=>
   have:=G3o (hg x hx).1 (hg x hx).2 hm
   rw [h2] at this;cases this
 unfold A8h
 rw [if_neg hb]
 have hov:Ovr [⟨0,r.len⟩] fun t=>0≤t∧t<r.len:=⟨fun x hx=>by
  obtain rfl:=List.mem_singleton.1 hx
  rw [G9];dsimp only;omega,fun t ht=>(L4 _ t).2 ht⟩
 have ho:=A2t (a:=a) (r:=r) (v:=v) a.rules _ _ (fun x hx h1 h2 h3=>hz (List.any_eq_true.2 ⟨x,hin x hx h1 h2,by rw [h3.1,h3.2];rfl⟩)) hov
 have hf:(T8 a r v a.rules [⟨0,r.len⟩]).filter A5=T8 a r v a.rules [⟨0,r.len⟩]:=List.filter_eq_self.2 ho.1
 refine D7v hrs fun t h1 h2=>?_
 rw [hf]
 obtain⟨h3,h4⟩:=hp t h1 h2
 refine ho.2 t ⟨?_,fun x hx h5 h6 h7 h8=>h4 ⟨x.span,List.mem_filter.2 ⟨List.mem_map_of_mem (hin x hx h5 h6),h7⟩,h8⟩⟩
 have:=A3a h3
 rw [L4] at this
 exact this
end
end Go.Proofs.YtojadfppncgphaaGreatDoor