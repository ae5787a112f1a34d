/-
  The reference's Of: a note put into a list of notes, in whatever order the parts are made ('append(append(append([]Note{}, l[:at]...), n), l[at:]...)').
-/
import Derived.Test.YtnifmbbpfdghmaaGreatDoorY9
import Derived.Test.YtnifmbbpfdghmaaGreatDoorY3
set_option linter.all false
namespace Go.Proofs.YtnifmbbpfdghmaaGreatDoor
open Go.RowKit Go.En
theorem ats_notes {G:Nat→Prop} {w:World}:∀ {ys:List Note} {css:List (List Value)},AtsG G w ys css→css=ys.map noteC
  | [],[],_=>rfl
  | z::r,c::cs,h=>by rw [List.map_cons,← ats_notes (ys:=r) (css:=cs) h.2,← show c=noteC z from h.1]
  | [],_::_,h=>h.elim
  | _::_,[],h=>h.elim
theorem notes_ones (ys:List Note):(ys.map noteC).flatten.all Value.oneCell'=true:=AtsG.ones (notes_ats (G:=Tt) (Classical.choice ⟨default⟩) ys)
theorem sl_notes {G:Nat→Prop} {w:World} {a:Option Addr} {n cap:Nat} {ys:List Note} (h:SlG G w (.slice a n cap) ys) (h0:0<n):∃ b off,a=some ⟨b,off,none⟩∧At w b off (ys.map noteC).flatten:=by
  have hn:n=ys.length:=by obtain⟨a',c',e,_⟩:=h;cases e;rfl
  obtain⟨css,h1,h2⟩:=h.css
  have hc:=ats_notes h1
  subst hc
  obtain⟨b,so,e,_,h3⟩:=h2 (by rw [notes_flat];omega)
  exact⟨b,so,e,h3⟩
theorem lk1 {δ:Nat→Value} {a:Nat} {v:Value} (h:δ a=v):∀ s u,lk [(a,v)] s=some u→δ s=u:=by
  intro s u hs
  simp only [lk] at hs
  cases hb:Nat.beq a s with
  | true=>rw [hb] at hs;have:=Nat.eq_of_beq_eq_true hb;subst this;simp at hs;rw [h,hs]
  | false=>rw [hb] at hs;simp at hs
theorem lk2 {δ:Nat→Value} {a b:Nat} {v x:Value} (h:δ a=v) (k:δ b=x):∀ s u,lk [(a,v),(b,x)] s=some u→δ s=u:=by
  intro s u hs
  rw [lk] at hs
  cases hb:Nat.beq a s with
  | true=>rw [hb] at hs;have:=Nat.eq_of_beq_eq_true hb;subst this;simp at hs;rw [h,hs]
  | false=>rw [hb] at hs;exact lk1 k s u hs
theorem lk0 {δ:Nat→Value}:∀ s u,lk [] s=some u→δ s=u:=fun s u h=>by simp [lk] at h
theorem lk_cons {L:List (Nat × Value)} {a s:Nat} {v u:Value} (h:lk L s=some u) (ha:lk L a=none):lk ((a,v)::L) s=some u:=by
  rw [lk]
  cases hb:Nat.beq a s with
  | true=>have:=Nat.eq_of_beq_eq_true hb;subst this;rw [ha] at h;cases h
  | false=>exact h
theorem frame_look {δ:Nat→Value} {n:Nat} {L:List (Nat × Value)} (h:∀ x∈L,x.1<n∧δ x.1=x.2):∀ s v,lk L s=some v→s<n∧δ s=v:=fun s v hs=>by
  obtain⟨j,hj⟩:=lk_get hs
  exact h _ (List.mem_of_getElem? hj)
abbrev Q3:=Nat × Nat × Value
theorem q_keep {QL:List Q3} {C C':Nat→Prop} {δ:Nat→Value} {i:Nat} {d:Option Tmp} {v:Value} (hq:∀ t∈QL,C t.1→δ t.2.1=t.2.2) (hC':∀ j,C' j↔j=i∨C j) (hnew:∀ t∈QL,t.1=i→d=some t.2.1∧v=t.2.2) (hold:∀ t∈QL,t.1≠i→d≠some t.2.1):∀ t∈QL,C' t.1→upd δ d v t.2.1=t.2.2:=by
  intro t ht hc
  unfold upd
  by_cases hi:t.1=i
  · obtain⟨h1,h2⟩:=hnew t ht hi
    rw [if_pos h1,h2]
  · rw [if_neg (hold t ht hi)]
    exact hq t ht (((hC' _).1 hc).resolve_left hi)
structure PhI (w0:World) (Lb:List (Nat × Value)) (QL:List Q3) (vO:Value) (tk dr:List Note) (nt:Note) (C:Nat→Prop) (δ:Nat→Value) (w:World):Prop where
  ext:Ext w0 w
  bs:∀ s v,lk Lb s=some v→δ s=v
  s5:¬ C 12→δ 5=vO
  qs:∀ t∈QL,C t.1→δ t.2.1=t.2.2
  a0:C 0→¬ C 4→w.ownsRow w0.heap.size 74 7 (δ 44) 0 []
  a6:C 6→¬ C 7→∃ b,δ 50=.slice (some ⟨b,0,none⟩) 1 1∧Row w b 74 (noteC nt)
  n06:C 0→¬ C 4→C 6→(δ 44).ownBlock≠(δ 50).ownBlock
  a4:C 4→¬ C 7→w.ownsRow w0.heap.size 74 7 (δ 48) tk.length (tk.map noteC).flatten
  n46:C 4→¬ C 7→C 6→(δ 48).ownBlock≠(δ 50).ownBlock
  a7:C 7→¬ C 11→w.ownsRow w0.heap.size 74 7 (δ 51) (tk.length+1) ((tk.map noteC).flatten++noteC nt)
  a11:C 11→w.ownsRow w0.heap.size 74 7 (δ 55) (tk.length+1+dr.length) ((tk.map noteC).flatten++noteC nt++(dr.map noteC).flatten)
  a12:C 12→δ 5=δ 55
theorem PhI.quiet {w0:World} {Lb:List (Nat × Value)} {QL:List Q3} {vO:Value} {tk dr:List Note} {nt:Note} {C C':Nat→Prop} {δ:Nat→Value} {w:World} {i:Nat} {d:Nat} {v:Value} (I:PhI w0 Lb QL vO tk dr nt C δ w) (hC':∀ j,C' j↔j=i∨C j)
    (hi:i≠0∧i≠4∧i≠6∧i≠7∧i≠11∧i≠12) (hd:d≠5∧d≠44∧d≠48∧d≠50∧d≠51∧d≠55) (hlb:lk Lb d=none)
    (hnew:∀ t∈QL,t.1=i→some d=some t.2.1∧v=t.2.2) (hold:∀ t∈QL,t.1≠i→some d≠some t.2.1):PhI w0 Lb QL vO tk dr nt C' (upd δ (some d) v) w:=by
  have e:∀ s,d≠s→upd δ (some d) v s=δ s:=fun s hs=>if_neg (fun h=>hs (Option.some.inj h))
  have c:∀ j,i≠j→(C' j↔C j):=fun j hj=>⟨fun h=>((hC' j).1 h).resolve_left (fun h=>hj h.symm),fun h=>(hC' j).2 (.inr h)⟩
  have c0:=c 0 (by omega)
  have c4:=c 4 (by omega)
  have c6:=c 6 (by omega)
  have c7:=c 7 (by omega)
  have c11:=c 11 (by omega)
  have c12:=c 12 (by omega)
  have d5:=e 5 (by omega)
  have d44:=e 44 (by omega)
  have d48:=e 48 (by omega)
  have d50:=e 50 (by omega)
  have d51:=e 51 (by omega)
  have d55:=e 55 (by omega)
  refine⟨I.ext,fun s u hs=>?_,?_,q_keep I.qs hC' hnew hold,?_,?_,?_,?_,?_,?_,?_,?_⟩
  · rw [e s (fun h=>by subst h;rw [hlb] at hs;cases hs)];exact I.bs s u hs
  · rw [c12,d5];exact I.s5
  · rw [c0,c4,d44];exact I.a0
  · rw [c6,c7,d50];exact I.a6
  · rw [c0,c4,c6,d44,d50];exact I.n06
  · rw [c4,c7,d48];exact I.a4
  · rw [c4,c7,c6,d48,d50];exact I.n46
  · rw [c7,c11,d51];exact I.a7
  · rw [c11,d55];exact I.a11
  · rw [c12,d5,d55];exact I.a12
theorem upd_eq (δ:Nat→Value) (d:Nat) (v:Value):upd δ (some d) v d=v:=if_pos rfl
theorem upd_ne {δ:Nat→Value} {d s:Nat} {v:Value} (h:d≠s):upd δ (some d) v s=δ s:=if_neg (fun e=>h (Option.some.inj e))
section
variable {w0 : World} {Lb : List (Nat × Value)} {QL : List Q3} {vO : Value} {tk dr : List Note} {nt : Note} {C C' : Nat → Prop} {δ : Nat → Value} {w w' : World} {v : Value}
theorem PhI.s0 (I:PhI w0 Lb QL vO tk dr nt C δ w) (hC':∀ j,C' j↔j=0∨C j) (h4:¬ C 4) (h7:¬ C 7) (h11:¬ C 11) (h12:¬ C 12) (hx:Ext w w') (hv:w'.ownsRow w0.heap.size 74 7 v 0 []) (hb:∃ b,v.ownBlock=some b∧w.heap.size≤b) (hlb:lk Lb 44=none) (hq:∀ t∈QL,t.1≠0∧t.2.1≠44):PhI w0 Lb QL vO tk dr nt C' (upd δ (some 44) v) w':=by
  have c:∀ j,j≠0→(C' j↔C j):=fun j hj=>⟨fun h=>((hC' j).1 h).resolve_left hj,fun h=>(hC' j).2 (.inr h)⟩
  refine⟨I.ext.trans hx,fun s u hs=>?_,?_,q_keep I.qs hC' (fun t ht h=>absurd h (hq t ht).1) (fun t ht _ e=>(hq t ht).2 (Option.some.inj e).symm),?_,?_,?_,?_,?_,?_,?_,?_⟩
  · rw [upd_ne (fun h=>by subst h;rw [hlb] at hs;cases hs)];exact I.bs s u hs
  · rw [upd_ne (by decide),c 12 (by decide)];exact I.s5
  · intro _ _;rw [upd_eq];exact hv
  · rw [c 6 (by decide),c 7 (by decide),upd_ne (by decide)]
    intro h1 h2
    obtain⟨b,e1,e2⟩:=I.a6 h1 h2
    exact⟨b,e1,e2.ext hx⟩
  · rw [c 6 (by decide),upd_eq,upd_ne (by decide)]
    intro _ _ h6 he
    obtain⟨b,e1,e2⟩:=hb
    obtain⟨b',e3,e4⟩:=I.a6 h6 h7
    rw [e1,e3] at he
    have he':b=b':=Option.some.inj he
    exact absurd e4.lt (by omega)
  · rw [c 4 (by decide)];exact fun h=>absurd h h4
  · rw [c 4 (by decide)];exact fun h=>absurd h h4
  · rw [c 7 (by decide)];exact fun h=>absurd h h7
  · rw [c 11 (by decide)];exact fun h=>absurd h h11
  · rw [c 12 (by decide)];exact fun h=>absurd h h12
theorem PhI.s6 {b:Nat} (I:PhI w0 Lb QL vO tk dr nt C δ w) (hC':∀ j,C' j↔j=6∨C j) (h7:¬ C 7) (h11:¬ C 11) (h12:¬ C 12) (hx:Ext w w') (hv:v=.slice (some ⟨b,0,none⟩) 1 1) (hr:Row w' b 74 (noteC nt)) (hb:w.heap.size≤b) (hlb:lk Lb 50=none) (hq:∀ t∈QL,t.1≠6∧t.2.1≠50):PhI w0 Lb QL vO tk dr nt C' (upd δ (some 50) v) w':=by
  have c:∀ j,j≠6→(C' j↔C j):=fun j hj=>⟨fun h=>((hC' j).1 h).resolve_left hj,fun h=>(hC' j).2 (.inr h)⟩
  subst hv
  have hap:∀ u:Value,(∀ b',u.ownBlock=some b'→b'<w.heap.size)→u.ownBlock≠(Value.slice (some ⟨b,0,none⟩) 1 1).ownBlock:=fun u hu e=>by
    have:=hu b e;omega
  refine⟨I.ext.trans hx,fun s u hs=>?_,?_,q_keep I.qs hC' (fun t ht h=>absurd h (hq t ht).1) (fun t ht _ e=>(hq t ht).2 (Option.some.inj e).symm),?_,?_,?_,?_,?_,?_,?_,?_⟩
  · rw [upd_ne (fun h=>by subst h;rw [hlb] at hs;cases hs)];exact I.bs s u hs
  · rw [upd_ne (by decide),c 12 (by decide)];exact I.s5
  · rw [c 0 (by decide),c 4 (by decide),upd_ne (by decide)];exact fun h1 h2=>own_ext (I.a0 h1 h2) hx
  · intro _ _;rw [upd_eq];exact⟨b,rfl,hr⟩
  · rw [c 0 (by decide),c 4 (by decide),upd_eq,upd_ne (by decide)]
    exact fun h1 h2 _=>hap _ fun b' e=>((I.a0 h1 h2).lt b' e).2
  · rw [c 4 (by decide),c 7 (by decide),upd_ne (by decide)];exact fun h1 h2=>own_ext (I.a4 h1 h2) hx
  · rw [c 4 (by decide),c 7 (by decide),upd_eq,upd_ne (by decide)]
    exact fun h1 h2 _=>hap _ fun b' e=>((I.a4 h1 h2).lt b' e).2
  · rw [c 7 (by decide)];exact fun h=>absurd h h7
  · rw [c 11 (by decide)];exact fun h=>absurd h h11
  · rw [c 12 (by decide)];exact fun h=>absurd h h12
theorem PhI.s4 (I:PhI w0 Lb QL vO tk dr nt C δ w) (hC':∀ j,C' j↔j=4∨C j) (h0:C 0) (h4:¬ C 4) (h7:¬ C 7) (h11:¬ C 11) (h12:¬ C 12) (hx:Ext w0 w') (hv:w'.ownsRow w0.heap.size 74 7 v tk.length (tk.map noteC).flatten) (hk:Kb (δ 44).ownBlock w w') (hb:v.ownBlock=(δ 44).ownBlock∨v.ownBlock=some w.heap.size) (hlb:lk Lb 48=none) (hq:∀ t∈QL,t.1≠4∧t.2.1≠48):PhI w0 Lb QL vO tk dr nt C' (upd δ (some 48) v) w':=by
  have c:∀ j,j≠4→(C' j↔C j):=fun j hj=>⟨fun h=>((hC' j).1 h).resolve_left hj,fun h=>(hC' j).2 (.inr h)⟩
  refine⟨hx,fun s u hs=>?_,?_,q_keep I.qs hC' (fun t ht h=>absurd h (hq t ht).1) (fun t ht _ e=>(hq t ht).2 (Option.some.inj e).symm),?_,?_,?_,?_,?_,?_,?_,?_⟩
  · rw [upd_ne (fun h=>by subst h;rw [hlb] at hs;cases hs)];exact I.bs s u hs
  · rw [upd_ne (by decide),c 12 (by decide)];exact I.s5
  · exact fun _ h=>absurd ((hC' 4).2 (.inl rfl)) h
  · rw [c 6 (by decide),c 7 (by decide),upd_ne (by decide)]
    intro h1 h2
    obtain⟨b,e1,e2⟩:=I.a6 h1 h2
    have:=I.n06 h0 h4 h1
    rw [e1] at this
    exact⟨b,e1,hk.row e2 (fun e=>this e.symm)⟩
  · exact fun _ h=>absurd ((hC' 4).2 (.inl rfl)) h
  · intro _ _;rw [upd_eq];exact hv
  · rw [c 6 (by decide),upd_eq,upd_ne (by decide)]
    intro _ _ h6 he
    have h1:=I.n06 h0 h4 h6
    obtain⟨b',e3,e4⟩:=I.a6 h6 h7
    rcases hb with hb|hb
    · exact h1 (hb.symm.trans he)
    · rw [hb,e3] at he
      have he':w.heap.size=b':=Option.some.inj he
      exact absurd e4.lt (by omega)
  · rw [c 7 (by decide)];exact fun h=>absurd h h7
  · rw [c 11 (by decide)];exact fun h=>absurd h h11
  · rw [c 12 (by decide)];exact fun h=>absurd h h12
theorem PhI.s7 (I:PhI w0 Lb QL vO tk dr nt C δ w) (hC':∀ j,C' j↔j=7∨C j) (h4:C 4) (h11:¬ C 11) (h12:¬ C 12) (hx:Ext w0 w') (hv:w'.ownsRow w0.heap.size 74 7 v (tk.length+1) ((tk.map noteC).flatten++noteC nt)) (hlb:lk Lb 51=none) (hq:∀ t∈QL,t.1≠7∧t.2.1≠51):PhI w0 Lb QL vO tk dr nt C' (upd δ (some 51) v) w':=by
  have c:∀ j,j≠7→(C' j↔C j):=fun j hj=>⟨fun h=>((hC' j).1 h).resolve_left hj,fun h=>(hC' j).2 (.inr h)⟩
  have h7':=(hC' 7).2 (.inl rfl)
  refine⟨hx,fun s u hs=>?_,?_,q_keep I.qs hC' (fun t ht h=>absurd h (hq t ht).1) (fun t ht _ e=>(hq t ht).2 (Option.some.inj e).symm),?_,?_,?_,?_,?_,?_,?_,?_⟩
  · rw [upd_ne (fun h=>by subst h;rw [hlb] at hs;cases hs)];exact I.bs s u hs
  · rw [upd_ne (by decide),c 12 (by decide)];exact I.s5
  · rw [c 4 (by decide)];exact fun _ h=>absurd h4 h
  · exact fun _ h=>absurd h7' h
  · rw [c 4 (by decide)];exact fun _ h=>absurd h4 h
  · exact fun _ h=>absurd h7' h
  · exact fun _ h=>absurd h7' h
  · intro _ _;rw [upd_eq];exact hv
  · rw [c 11 (by decide)];exact fun h=>absurd h h11
  · rw [c 12 (by decide)];exact fun h=>absurd h h12
theorem PhI.s11 (I:PhI w0 Lb QL vO tk dr nt C δ w) (hC':∀ j,C' j↔j=11∨C j) (h4:C 4) (h7:C 7) (h12:¬ C 12) (hx:Ext w0 w') (hv:w'.ownsRow w0.heap.size 74 7 v (tk.length+1+dr.length) ((tk.map noteC).flatten++noteC nt++(dr.map noteC).flatten)) (hlb:lk Lb 55=none) (hq:∀ t∈QL,t.1≠11∧t.2.1≠55):PhI w0 Lb QL vO tk dr nt C' (upd δ (some 55) v) w':=by
  have c:∀ j,j≠11→(C' j↔C j):=fun j hj=>⟨fun h=>((hC' j).1 h).resolve_left hj,fun h=>(hC' j).2 (.inr h)⟩
  have h11':=(hC' 11).2 (.inl rfl)
  refine⟨hx,fun s u hs=>?_,?_,q_keep I.qs hC' (fun t ht h=>absurd h (hq t ht).1) (fun t ht _ e=>(hq t ht).2 (Option.some.inj e).symm),?_,?_,?_,?_,?_,?_,?_,?_⟩
  · rw [upd_ne (fun h=>by subst h;rw [hlb] at hs;cases hs)];exact I.bs s u hs
  · rw [upd_ne (by decide),c 12 (by decide)];exact I.s5
  · rw [c 4 (by decide)];exact fun _ h=>absurd h4 h
  · rw [c 7 (by decide)];exact fun _ h=>absurd h7 h
  · rw [c 4 (by decide)];exact fun _ h=>absurd h4 h
  · rw [c 7 (by decide)];exact fun _ h=>absurd h7 h
  · rw [c 7 (by decide)];exact fun _ h=>absurd h7 h
  · exact fun _ h=>absurd h11' h
  · intro _;rw [upd_eq];exact hv
  · rw [c 12 (by decide)];exact fun h=>absurd h h12
theorem PhI.s12 (I:PhI w0 Lb QL vO tk dr nt C δ w) (hC':∀ j,C' j↔j=12∨C j) (h4:C 4) (h7:C 7) (h11:C 11) (hlb:lk Lb 5=none) (hq:∀ t∈QL,t.1≠12∧t.2.1≠5):PhI w0 Lb QL vO tk dr nt C' (upd δ (some 5) (δ 55)) w:=by
  have c:∀ j,j≠12→(C' j↔C j):=fun j hj=>⟨fun h=>((hC' j).1 h).resolve_left hj,fun h=>(hC' j).2 (.inr h)⟩
  have h12':=(hC' 12).2 (.inl rfl)
  refine⟨I.ext,fun s u hs=>?_,fun h=>absurd h12' h,q_keep I.qs hC' (fun t ht h=>absurd h (hq t ht).1) (fun t ht _ e=>(hq t ht).2 (Option.some.inj e).symm),?_,?_,?_,?_,?_,?_,?_,?_⟩
  · rw [upd_ne (fun h=>by subst h;rw [hlb] at hs;cases hs)];exact I.bs s u hs
  · rw [c 4 (by decide)];exact fun _ h=>absurd h4 h
  · rw [c 7 (by decide)];exact fun _ h=>absurd h7 h
  · rw [c 4 (by decide)];exact fun _ h=>absurd h4 h
  · rw [c 7 (by decide)];exact fun _ h=>absurd h7 h
  · rw [c 7 (by decide)];exact fun _ h=>absurd h7 h
  · rw [c 11 (by decide)];exact fun _ h=>absurd h11 h
  · rw [c 11 (by decide),upd_ne (by decide)];exact I.a11
  · intro _;rw [upd_eq,upd_ne (by decide)]
end
end Go.Proofs.YtnifmbbpfdghmaaGreatDoor
