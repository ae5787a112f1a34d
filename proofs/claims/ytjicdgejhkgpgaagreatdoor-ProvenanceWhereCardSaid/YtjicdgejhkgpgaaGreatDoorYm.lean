/-
  Walks: the reference's orthography: Units, Read. Walks of align: the insertion sort of notes. Walks of align: SortStableFunc of few notes, Kids. Walks of align: the program's Of. The reference's Of: a note put into a list of notes, in whatever order the parts are made ('append(append(append([]Note{}, l[:at]...), n), l[at:]...)'). Walks of align: the reference's Of. Walks of align: Where, of both.
-/
import Derived.Test.YtjicdgejhkgpgaaGreatDoorYl
import Derived.Test.YtjicdgejhkgpgaaGreatDoorYi
import Derived.Test.YtjicdgejhkgpgaaGreatDoorYj
import Derived.Test.YtjicdgejhkgpgaaGreatDoorYk
set_option linter.all false
namespace Go.Proofs.YtjicdgejhkgpgaaGreatDoor
open Go.RowKit Go.En Go.Pv
theorem units_len {us : List Unt} (hg : ∀ u ∈ us, 1 ≤ u.graph.length) : ∀ (k : Nat) (t : List UInt8), (unitsF us k t).1.length ≤ k ∧ ∀ z ∈ (unitsF us k t).1, 0 ≤ z ∧ z < (us.length : Int)
  | 0,_=>⟨Nat.le_refl _,fun z hz=>by cases hz⟩
  | k + 1, t => by
    rw [unitsF]
    split
    · exact⟨by simp,fun z hz=>by cases hz⟩
    · cases bestF us t with
      | none=>exact⟨by simp,fun z hz=>by cases hz⟩
      | some i=>
        dsimp only
        cases hi:us[i]? with
        | none=>exact⟨by simp,fun z hz=>by cases hz⟩
        | some u=>
          dsimp only
          obtain⟨h1,h2⟩:=units_len hg k (t.drop u.graph.length)
          refine⟨by rw [List.length_cons];omega,fun z hz=>?_⟩
          rcases List.mem_cons.1 hz with rfl|hz
          · have:=(List.getElem?_eq_some_iff.1 hi).1;omega
          · exact h2 z hz
theorem flat_le {α β:Type} {f:α→List β} {c:Nat}:∀ {l:List α},(∀ x∈l,(f x).length≤c)→(l.flatMap f).length≤l.length*c
  | [],_=>by simp
  | x::r,h=>by
    have:=flat_le (l:=r) (fun y hy=>h y (List.mem_cons_of_mem _ hy))
    have:=h x List.mem_cons_self
    rw [List.flatMap_cons,List.length_append,List.length_cons,Nat.add_mul];omega
attribute [local irreducible] E EL K Val Enters Rt Calls bodyPost Code.wp RQ
end Go.Proofs.YtjicdgejhkgpgaaGreatDoor
namespace Go.Proofs.YtjicdgejhkgpgaaGreatDoor
open Go.RowKit Go.En
theorem Kb.trans {g:Option Nat} {a b c:World} (h:Kb g a b) (k:Kb g b c):Kb g a c:=
  ⟨(World.grownBy.os k).trans (World.grownBy.os h),(World.grownBy.tape k).trans (World.grownBy.tape h),(World.grownBy.output k).trans (World.grownBy.output h),Nat.le_trans (Kb.size h) (Kb.size k),fun i hi hne=>(World.grownBy.block k i (Nat.lt_of_lt_of_le hi (Kb.size h)) hne).trans (World.grownBy.block h i hi hne)⟩
theorem Kb.refl (g:Option Nat) (w:World):Kb g w w:=(Ext.refl w).kb g
attribute [local irreducible] E EL K Val Enters Rt Calls bodyPost Code.wp RQ
end Go.Proofs.YtjicdgejhkgpgaaGreatDoor
namespace Go.Proofs.YtjicdgejhkgpgaaGreatDoor
open Go.RowKit Go.En
theorem own_open {w:World} {B:Nat} {e:TypeId} {size n:Nat} {v:Value} {xs:List Value} (h:w.ownsRow B e size v n xs) (h0:0<n):∃ g cap tail,v=.slice (some ⟨g,0,none⟩) n cap∧n≤cap∧cap≤maxLen∧B≤g∧Row w g e (xs++tail)∧(xs++tail).length=cap*size:=by
  rcases h.2 with⟨_,hn⟩|⟨g,cap,cur,rfl,hb,hg,h1,h2,h3,h4⟩
  · omega
  · refine⟨g,cap,cur.toList.drop (n*size),rfl,h1,h2,hb,?_,?_⟩
    · rw [← h4,List.take_append_drop];exact hg
    · rw [← h4,List.take_append_drop];simpa using h3
attribute [local irreducible] E EL K Val Enters Rt Calls bodyPost Code.wp RQ
end Go.Proofs.YtjicdgejhkgpgaaGreatDoor
namespace Go.Proofs.YtjicdgejhkgpgaaGreatDoor
open Go.RowKit Go.En
theorem sl_ints {G:Nat→Prop} {w:World} {a:Option Addr} {n cap:Nat} {ids:List Int} (h:SlG G w (.slice a n cap) ids) (h0:0<n):∃ b off,a=some ⟨b,off,none⟩∧At w b off (ids.map int):=by
  have hn:n=ids.length:=by obtain⟨a',c',e,_⟩:=h;cases e;rfl
  obtain⟨css,h1,h2⟩:=h.css
  have hc:=ats_ints h1
  subst hc
  rw [ints_flat] at h2
  obtain⟨b,so,e,_,h3⟩:=h2 (by simp;omega)
  exact⟨b,so,e,h3⟩
theorem of_below {d:Dc} (h:LightD d) {k:Nat} {t:Tier} (ht:d.tiers[k]?=some t) (h0:t.kind≠0):∃ j:Nat,t.parent=(j:Int)∧j<k∧ofR d (k:Int)=(ofR d (j:Int)).flatMap fun p=>kidsN d p.id (k:Int):=by
  have hl:=tier_lt ht
  have hr:=(h.tiers k t ht).par h0
  obtain⟨j,hj⟩:∃ j:Nat,t.parent=(j:Int):=⟨t.parent.toNat,by omega⟩
  obtain⟨u,hu⟩:∃ u,d.tiers[j]?=some u:=⟨_,List.getElem?_eq_getElem (by omega)⟩
  refine⟨j,hj,by omega,?_⟩
  rw [← ofN_eq h k (k+1) t ht (by omega)]
  simp only [ofN,Int.toNat_natCast]
  rw [if_pos ⟨by omega,by omega⟩,ht]
  dsimp only
  rw [if_neg h0,hj,ofN_eq h j k u hu (by omega)]
attribute [local irreducible] E EL K Val Enters Rt Calls bodyPost Code.wp RQ
end Go.Proofs.YtjicdgejhkgpgaaGreatDoor
namespace Go.Proofs.YtjicdgejhkgpgaaGreatDoor
open Go.RowKit Go.En
abbrev Q3:=Nat × Nat × Value
theorem q_keep {QL:List Q3} {C C':Nat→Prop} {δ:Nat→Value} {i:Nat} {d:Option Tmp} {v:Value} (hq:∀ t∈QL,C t.1→δ t.2.1=t.2.2) (hC':∀ j,C' j↔j=i∨C j) (hnew:∀ t∈QL,t.1=i→d=some t.2.1∧v=t.2.2) (hold:∀ t∈QL,t.1≠i→d≠some t.2.1):∀ t∈QL,C' t.1→upd δ d v t.2.1=t.2.2:=by
  intro t ht hc
  unfold upd
  by_cases hi:t.1=i
  · obtain⟨h1,h2⟩:=hnew t ht hi
    rw [if_pos h1,h2]
  · rw [if_neg (hold t ht hi)]
    exact hq t ht (((hC' _).1 hc).resolve_left hi)
structure PhI (w0:World) (Lb:List (Nat × Value)) (QL:List Q3) (vO:Value) (tk dr:List Note) (nt:Note) (C:Nat→Prop) (δ:Nat→Value) (w:World):Prop where
  ext:Ext w0 w
  bs:∀ s v,lk Lb s=some v→δ s=v
  s5:¬ C 12→δ 5=vO
  qs:∀ t∈QL,C t.1→δ t.2.1=t.2.2
  a0:C 0→¬ C 4→w.ownsRow w0.heap.size 80 7 (δ 44) 0 []
  a6:C 6→¬ C 7→∃ b,δ 50=.slice (some ⟨b,0,none⟩) 1 1∧Row w b 80 (noteC nt)
  n06:C 0→¬ C 4→C 6→(δ 44).ownBlock≠(δ 50).ownBlock
  a4:C 4→¬ C 7→w.ownsRow w0.heap.size 80 7 (δ 48) tk.length (tk.map noteC).flatten
  n46:C 4→¬ C 7→C 6→(δ 48).ownBlock≠(δ 50).ownBlock
  a7:C 7→¬ C 11→w.ownsRow w0.heap.size 80 7 (δ 51) (tk.length+1) ((tk.map noteC).flatten++noteC nt)
  a11:C 11→w.ownsRow w0.heap.size 80 7 (δ 55) (tk.length+1+dr.length) ((tk.map noteC).flatten++noteC nt++(dr.map noteC).flatten)
  a12:C 12→δ 5=δ 55
theorem PhI.quiet {w0:World} {Lb:List (Nat × Value)} {QL:List Q3} {vO:Value} {tk dr:List Note} {nt:Note} {C C':Nat→Prop} {δ:Nat→Value} {w:World} {i:Nat} {d:Nat} {v:Value} (I:PhI w0 Lb QL vO tk dr nt C δ w) (hC':∀ j,C' j↔j=i∨C j)
    (hi:i≠0∧i≠4∧i≠6∧i≠7∧i≠11∧i≠12) (hd:d≠5∧d≠44∧d≠48∧d≠50∧d≠51∧d≠55) (hlb:lk Lb d=none)
    (hnew:∀ t∈QL,t.1=i→some d=some t.2.1∧v=t.2.2) (hold:∀ t∈QL,t.1≠i→some d≠some t.2.1):PhI w0 Lb QL vO tk dr nt C' (upd δ (some d) v) w:=by
  have e:∀ s,d≠s→upd δ (some d) v s=δ s:=fun s hs=>if_neg (fun h=>hs (Option.some.inj h))
  have c:∀ j,i≠j→(C' j↔C j):=fun j hj=>⟨fun h=>((hC' j).1 h).resolve_left (fun h=>hj h.symm),fun h=>(hC' j).2 (.inr h)⟩
  have c0:=c 0 (by omega)
  have c4:=c 4 (by omega)
  have c6:=c 6 (by omega)
  have c7:=c 7 (by omega)
  have c11:=c 11 (by omega)
  have c12:=c 12 (by omega)
  have d5:=e 5 (by omega)
  have d44:=e 44 (by omega)
  have d48:=e 48 (by omega)
  have d50:=e 50 (by omega)
  have d51:=e 51 (by omega)
  have d55:=e 55 (by omega)
  refine⟨I.ext,fun s u hs=>?_,?_,q_keep I.qs hC' hnew hold,?_,?_,?_,?_,?_,?_,?_,?_⟩
  · rw [e s (fun h=>by subst h;rw [hlb] at hs;cases hs)];exact I.bs s u hs
  · rw [c12,d5];exact I.s5
  · rw [c0,c4,d44];exact I.a0
  · rw [c6,c7,d50];exact I.a6
  · rw [c0,c4,c6,d44,d50];exact I.n06
  · rw [c4,c7,d48];exact I.a4
  · rw [c4,c7,c6,d48,d50];exact I.n46
  · rw [c7,c11,d51];exact I.a7
  · rw [c11,d55];exact I.a11
  · rw [c12,d5,d55];exact I.a12
theorem upd_eq (δ:Nat→Value) (d:Nat) (v:Value):upd δ (some d) v d=v:=if_pos rfl
theorem upd_ne {δ:Nat→Value} {d s:Nat} {v:Value} (h:d≠s):upd δ (some d) v s=δ s:=if_neg (fun e=>h (Option.some.inj e))
section
variable {w0 : World} {Lb : List (Nat × Value)} {QL : List Q3} {vO : Value} {tk dr : List Note} {nt : Note} {C C' : Nat → Prop} {δ : Nat → Value} {w w' : World} {v : Value}
theorem PhI.s6 {b:Nat} (I:PhI w0 Lb QL vO tk dr nt C δ w) (hC':∀ j,C' j↔j=6∨C j) (h7:¬ C 7) (h11:¬ C 11) (h12:¬ C 12) (hx:Ext w w') (hv:v=.slice (some ⟨b,0,none⟩) 1 1) (hr:Row w' b 80 (noteC nt)) (hb:w.heap.size≤b) (hlb:lk Lb 50=none) (hq:∀ t∈QL,t.1≠6∧t.2.1≠50):PhI w0 Lb QL vO tk dr nt C' (upd δ (some 50) v) w':=by
  have c:∀ j,j≠6→(C' j↔C j):=fun j hj=>⟨fun h=>((hC' j).1 h).resolve_left hj,fun h=>(hC' j).2 (.inr h)⟩
  subst hv
  have hap:∀ u:Value,(∀ b',u.ownBlock=some b'→b'<w.heap.size)→u.ownBlock≠(Value.slice (some ⟨b,0,none⟩) 1 1).ownBlock:=fun u hu e=>by
    have:=hu b e;omega
  refine⟨I.ext.trans hx,fun s u hs=>?_,?_,q_keep I.qs hC' (fun t ht h=>absurd h (hq t ht).1) (fun t ht _ e=>(hq t ht).2 (Option.some.inj e).symm),?_,?_,?_,?_,?_,?_,?_,?_⟩
  · rw [upd_ne (fun h=>by subst h;rw [hlb] at hs;cases hs)];exact I.bs s u hs
  · rw [upd_ne (by decide),c 12 (by decide)];exact I.s5
  · rw [c 0 (by decide),c 4 (by decide),upd_ne (by decide)];exact fun h1 h2=>own_ext (I.a0 h1 h2) hx
  · intro _ _;rw [upd_eq];exact⟨b,rfl,hr⟩
  · rw [c 0 (by decide),c 4 (by decide),upd_eq,upd_ne (by decide)]
    exact fun h1 h2 _=>hap _ fun b' e=>((I.a0 h1 h2).lt b' e).2
  · rw [c 4 (by decide),c 7 (by decide),upd_ne (by decide)];exact fun h1 h2=>own_ext (I.a4 h1 h2) hx
  · rw [c 4 (by decide),c 7 (by decide),upd_eq,upd_ne (by decide)]
    exact fun h1 h2 _=>hap _ fun b' e=>((I.a4 h1 h2).lt b' e).2
  · rw [c 7 (by decide)];exact fun h=>absurd h h7
  · rw [c 11 (by decide)];exact fun h=>absurd h h11
  · rw [c 12 (by decide)];exact fun h=>absurd h h12
theorem PhI.s4 (I:PhI w0 Lb QL vO tk dr nt C δ w) (hC':∀ j,C' j↔j=4∨C j) (h0:C 0) (h4:¬ C 4) (h7:¬ C 7) (h11:¬ C 11) (h12:¬ C 12) (hx:Ext w0 w') (hv:w'.ownsRow w0.heap.size 80 7 v tk.length (tk.map noteC).flatten) (hk:Kb (δ 44).ownBlock w w') (hb:v.ownBlock=(δ 44).ownBlock∨v.ownBlock=some w.heap.size) (hlb:lk Lb 48=none) (hq:∀ t∈QL,t.1≠4∧t.2.1≠48):PhI w0 Lb QL vO tk dr nt C' (upd δ (some 48) v) w':=by
  have c:∀ j,j≠4→(C' j↔C j):=fun j hj=>⟨fun h=>((hC' j).1 h).resolve_left hj,fun h=>(hC' j).2 (.inr h)⟩
  refine⟨hx,fun s u hs=>?_,?_,q_keep I.qs hC' (fun t ht h=>absurd h (hq t ht).1) (fun t ht _ e=>(hq t ht).2 (Option.some.inj e).symm),?_,?_,?_,?_,?_,?_,?_,?_⟩
  · rw [upd_ne (fun h=>by subst h;rw [hlb] at hs;cases hs)];exact I.bs s u hs
  · rw [upd_ne (by decide),c 12 (by decide)];exact I.s5
  · exact fun _ h=>absurd ((hC' 4).2 (.inl rfl)) h
  · rw [c 6 (by decide),c 7 (by decide),upd_ne (by decide)]
    intro h1 h2
    obtain⟨b,e1,e2⟩:=I.a6 h1 h2
    have:=I.n06 h0 h4 h1
    rw [e1] at this
    exact⟨b,e1,hk.row e2 (fun e=>this e.symm)⟩
  · exact fun _ h=>absurd ((hC' 4).2 (.inl rfl)) h
  · intro _ _;rw [upd_eq];exact hv
  · rw [c 6 (by decide),upd_eq,upd_ne (by decide)]
    intro _ _ h6 he
    have h1:=I.n06 h0 h4 h6
    obtain⟨b',e3,e4⟩:=I.a6 h6 h7
    rcases hb with hb|hb
    · exact h1 (hb.symm.trans he)
    · rw [hb,e3] at he
      have he':w.heap.size=b':=Option.some.inj he
      exact absurd e4.lt (by omega)
  · rw [c 7 (by decide)];exact fun h=>absurd h h7
  · rw [c 11 (by decide)];exact fun h=>absurd h h11
  · rw [c 12 (by decide)];exact fun h=>absurd h h12
theorem PhI.s7 (I:PhI w0 Lb QL vO tk dr nt C δ w) (hC':∀ j,C' j↔j=7∨C j) (h4:C 4) (h11:¬ C 11) (h12:¬ C 12) (hx:Ext w0 w') (hv:w'.ownsRow w0.heap.size 80 7 v (tk.length+1) ((tk.map noteC).flatten++noteC nt)) (hlb:lk Lb 51=none) (hq:∀ t∈QL,t.1≠7∧t.2.1≠51):PhI w0 Lb QL vO tk dr nt C' (upd δ (some 51) v) w':=by
  have c:∀ j,j≠7→(C' j↔C j):=fun j hj=>⟨fun h=>((hC' j).1 h).resolve_left hj,fun h=>(hC' j).2 (.inr h)⟩
  have h7':=(hC' 7).2 (.inl rfl)
  refine⟨hx,fun s u hs=>?_,?_,q_keep I.qs hC' (fun t ht h=>absurd h (hq t ht).1) (fun t ht _ e=>(hq t ht).2 (Option.some.inj e).symm),?_,?_,?_,?_,?_,?_,?_,?_⟩
  · rw [upd_ne (fun h=>by subst h;rw [hlb] at hs;cases hs)];exact I.bs s u hs
  · rw [upd_ne (by decide),c 12 (by decide)];exact I.s5
  · rw [c 4 (by decide)];exact fun _ h=>absurd h4 h
  · exact fun _ h=>absurd h7' h
  · rw [c 4 (by decide)];exact fun _ h=>absurd h4 h
  · exact fun _ h=>absurd h7' h
  · exact fun _ h=>absurd h7' h
  · intro _ _;rw [upd_eq];exact hv
  · rw [c 11 (by decide)];exact fun h=>absurd h h11
  · rw [c 12 (by decide)];exact fun h=>absurd h h12
end
end Go.Proofs.YtjicdgejhkgpgaaGreatDoor
namespace Go.Proofs.YtjicdgejhkgpgaaGreatDoor
open Go.RowKit Go.En
attribute [local irreducible] E EL K Val Enters Rt Calls bodyPost Code.wp RQ
end Go.Proofs.YtjicdgejhkgpgaaGreatDoor
namespace Go.Proofs.YtjicdgejhkgpgaaGreatDoor
open Go.RowKit Go.En
def whereV (d:Dc) (id:Int):Value:=.tuple #[.agg #[int (spanF d id).1,int (spanF d id).2],.bool (whereF d id).isSome]
theorem span_some {d:Dc} {id:Int} {p:Note} (h:whereF d id=some p):whereV d id=.tuple #[.agg #[int p.frm,int p.til],.bool true]:=by
  unfold whereV spanF;rw [h];rfl
theorem span_none {d:Dc} {id:Int} (h:whereF d id=none):whereV d id=.tuple #[.agg #[int 0,int 0],.bool false]:=by
  unfold whereV spanF;rw [h];rfl
attribute [local irreducible] E EL K Val Enters Rt Calls bodyPost Code.wp RQ
set_option maxHeartbeats 4000000 in
set_option maxRecDepth 8000 in
theorem where_any {d:Dc} (h:LightD d) (v:Value) (id:Int) (w:World) (hv:DcAt w v d):Calls Tryz.prog 37 #[v,int id] w (Rt fun u w'=>u=whereV d id∧Ext w w'):=by
  have hd0:=hv
  obtain⟨sv,tv,nv,rfl,_,ht,hn⟩:=hv
  refine calls_E (n:=35) (args:=[.agg #[int d.rid,str d.rname,int d.len,int d.day,sv,tv,nv],int id]) Tryz.func37 rfl Tryz.ntmps37 (by simp) ?_
  refine E_seq ?_
  refine E_region ?_
  refine EL_box Z Z Z Z (fun bD wD xD hbD rD0=>?_)
  refine EL_alloc Z Z Z (fun bA wA xA hbA rA0=>?_)
  have rD:Row wA bD 72 [int d.rid,str d.rname,int d.len,int d.day,sv,tv,nv]:=rD0.ext xA
  have rA:Row wA bA 76 [int 0,int 0]:=rA0
  have hX:=xD.trans xA
  clear rD0 rA0
  have hbAw:w.heap.size≤bA:=by have:=xD.size;omega
  have cg:=tget_any d _ id wA (hd0.ext hX)
  rw [getR_cur] at cg
  (repeat' (first|refine eV Z Z (val_loadA Z Z Z rD.at rfl) ?_|(refine EL_call Z Z (entersF Z Z en36) cg (fun vC wC hC=>?_);obtain⟨rfl,xC⟩:=hC)|(refine at_EL ?_;first|refine eN ?_|refine eV Z Z (zA Z Z) ?_|refine eV Z Z (zB Z Z) ?_|refine eV Z Z (zF Z Z Z) ?_)|(refine at_K ?_;first|refine K_then ?_)|(refine at_E ?_;first|refine E_seq ?_|refine E_region ?_)))
  refine EL_alloc Z Z Z (fun bP wP xP hbP rP0=>?_)
  refine EL_storeP (cs:=noteC (curN d.notes id)) rP0 (xC.trans xP) (by have:=xC.size;omega) Z Z Z Z Z Z Z Z (Nat.le_refl _) (fun w3 rP1 x3 k3=>?_)
  have rP:Row w3 bP 80 (noteC (curN d.notes id)):=rP1
  have hbPA:wA.heap.size≤bP:=by have:=xC.size;omega
  clear rP0 rP1 k3 cg
  (repeat' (first|(refine at_EL ?_;first|refine eN ?_|refine eV Z Z (zB Z Z) ?_)|(refine at_K ?_;first|refine K_then ?_)|(refine at_E ?_;first|refine E_seq ?_|refine E_block ?_)))
  refine E_loop (ι:=Int) (fun q=>[(2,.pointer (some ⟨bD,0,none⟩)),(4,.pointer (some ⟨bA,0,none⟩)),(6,.pointer (some ⟨bP,0,none⟩)),(7,.bool (getF d.notes q).isSome)])
    (fun q wr=>Ext wA wr∧Row wr bP 80 (noteC (curN d.notes q))∧whereF d q=whereF d id) (fun q=>(chainF d q).length) id
    ⟨rfl,rfl,rfl,rfl,trivial⟩ ⟨x3,rP,rfl⟩ ?_
  rintro q wr ⟨hx,rPr,hwq⟩
  have rDr:=rD.ext hx
  have rAr:=rA.ext hx
  have hXr:=hX.trans hx
  cases hg:getF d.notes q with
  | none=>
    (repeat' (first|refine eV Z Z (val_build (vs:=[]) [int 0,int 0] rfl rfl rfl) ?_|(refine at_EL ?_;first|refine eN ?_|refine eO Z Z ?_|refine eV Z Z (zA Z Z) ?_|refine eV Z Z (zD Z Z Z) ?_|refine eV Z Z (zE Z Z) ?_)|(refine at_K ?_;first|refine K_then ?_|refine K_then_exit ?_|refine K_in_exit ?_)|(refine at_E ?_;first|refine E_seq ?_|refine E_region ?_|refine E_cond_t Z ?_|refine E_cond_f Z ?_|refine E_exit ?_)))
    refine EL_storeP (cs:=[int 0,int 0]) rAr hXr hbAw rfl rfl rfl rfl rfl rfl rfl rfl (Nat.le_refl _) (fun w9 r9 x9 k9=>?_)
    (repeat' (first|(refine at_EL ?_;first|refine eN ?_|refine eV Z Z (zB Z Z) ?_)|(refine at_K ?_;first|refine K_then ?_|refine K_then_ret ?_)|(refine at_E ?_;first|refine E_ret ?_)))
    exact ret_ct Z Z Z r9.at rfl rfl ⟨by rw [span_none (hwq▸where_none hg)];rfl,x9⟩
  | some p=>
    obtain⟨hpm,hpi⟩:=get_some hg
    have hcp:curN d.notes q=p:=by unfold curN;rw [hg];rfl
    rw [hcp] at rPr
    have ca:=ttAligned_any d tv p.tier wr (ht.ext hXr)
    cases hal:alignedB d p.tier with
    | true=>
      rw [hal] at ca
      (repeat' (first|refine eV Z Z (val_load Z Z Z (rDr.cellAt rfl)) ?_|refine eV Z Z (val_load Z Z Z (rPr.cellAt rfl)) ?_|(refine EL_call Z Z (entersF Z Z en68) ca (fun vE wE hE=>?_);obtain⟨rfl,xE⟩:=hE)|(refine at_EL ?_;first|refine eN ?_|refine eV Z Z (zA Z Z) ?_|refine eV Z Z (zC Z Z Z) ?_|refine eV Z Z (zE Z Z) ?_|refine eV Z Z (zH Z Z) ?_)|(refine at_K ?_;first|refine K_then ?_|refine K_then_exit ?_|refine K_in_exit ?_)|(refine at_E ?_;first|refine E_seq ?_|refine E_region ?_|refine E_cond_f Z ?_|refine E_skip ?_|refine E_exit ?_)))
      have rPe:=rPr.ext xE
      have at3:At wE bP (0+3) [int p.frm,int p.til]:=rPe.at.seg 3 (n:=2)
      (repeat' (first|refine eV Z Z (val_loadA Z Z Z at3 rfl) ?_))
      refine EL_storeP (cs:=[int p.frm,int p.til]) (rAr.ext xE) (hXr.trans xE) hbAw rfl rfl rfl rfl rfl rfl rfl rfl (Nat.le_refl _) (fun w9 r9 x9 k9=>?_)
      (repeat' (first|(refine at_EL ?_;first|refine eN ?_|refine eV Z Z (zB Z Z) ?_)|(refine at_K ?_;first|refine K_then ?_)|(refine at_E ?_;first|refine E_ret ?_)))
      refine ret_ct Z Z Z r9.at rfl rfl ⟨?_,x9⟩
      have:=where_pos h hpm hal
      rw [hpi,hwq] at this
      rw [span_some this];rfl
    | false=>
      rw [hal] at ca
      (repeat' (first|refine eV Z Z (val_load Z Z Z (rDr.cellAt rfl)) ?_|refine eV Z Z (val_load Z Z Z (rPr.cellAt rfl)) ?_|(refine EL_call Z Z (entersF Z Z en68) ca (fun vE wE hE=>?_);obtain⟨rfl,xE⟩:=hE)|(refine at_EL ?_;first|refine eN ?_|refine eV Z Z (zA Z Z) ?_|refine eV Z Z (zC Z Z Z) ?_|refine eV Z Z (zE Z Z) ?_|refine eV Z Z (zH Z Z) ?_)|(refine at_K ?_;first|refine K_then ?_)|(refine at_E ?_;first|refine E_seq ?_|refine E_region ?_|refine E_cond_t Z ?_|refine E_block ?_|refine E_skip ?_)))
      have rPe:=rPr.ext xE
      have rDe:=rDr.ext xE
      have cg2:=tget_any d _ p.parent wE (hd0.ext (hXr.trans xE))
      rw [getR_cur] at cg2
      (repeat' (first|refine eV Z Z (val_loadA Z Z Z rDe.at rfl) ?_|refine eV Z Z (val_load Z Z Z (rPe.cellAt rfl)) ?_|(refine EL_call Z Z (entersF Z Z en36) cg2 (fun vC wC2 hC=>?_);obtain⟨rfl,xC2⟩:=hC)|(refine at_EL ?_;first|refine eV Z Z (zA Z Z) ?_|refine eV Z Z (zF Z Z Z) ?_|refine eV Z Z (zH Z Z) ?_)))
      refine EL_storeP (cs:=noteC (curN d.notes p.parent)) (rPe.ext xC2) (hx.trans (xE.trans xC2)) hbPA rfl rfl rfl rfl rfl rfl rfl rfl (Nat.le_refl _) (fun w5 rP5 x5 k5=>?_)
      have rP5':Row w5 bP 80 (noteC (curN d.notes p.parent)):=rP5
      clear rP5
      (repeat' (first|(refine at_EL ?_;first|refine eN ?_|refine eV Z Z (zB Z Z) ?_)|(refine at_K ?_;first|refine K_in ?_)))
      refine K_rnd p.parent ⟨rfl,rfl,rfl,rfl,trivial⟩ ⟨x5,rP5',?_⟩ ?_
      · have:=where_neg h hpm hal
        rw [hpi] at this
        rw [← this,hwq]
      · have:=chain_cons h hpm
        rw [hpi] at this
        rw [this];simp
set_option maxHeartbeats 4000000 in
set_option maxRecDepth 8000 in
theorem refwhere_any {d:Dc} (h:LightD d) (v:Value) (id:Int) (w:World) (hv:DcAt w v d):Calls Tryz.prog 72 #[v,int id] w (Rt fun u w'=>u=whereV d id∧Ext w w'):=by
  have hd0:=hv
  obtain⟨sv,tv,nv,rfl,_,ht,hn⟩:=hv
  refine calls_E (n:=36) (args:=[.agg #[int d.rid,str d.rname,int d.len,int d.day,sv,tv,nv],int id]) Tryz.func72 rfl Tryz.ntmps72 (by simp) ?_
  refine E_seq ?_
  refine E_region ?_
  refine EL_box Z Z Z Z (fun bD wD xD hbD rD0=>?_)
  refine EL_alloc Z Z Z (fun bA wA xA hbA rA0=>?_)
  have rD:Row wA bD 72 [int d.rid,str d.rname,int d.len,int d.day,sv,tv,nv]:=rD0.ext xA
  have rA:Row wA bA 76 [int 0,int 0]:=rA0
  have hX:=xD.trans xA
  clear rD0 rA0
  have hbAw:w.heap.size≤bA:=by have:=xD.size;omega
  have cg:=refchain_any h _ id wA (hd0.ext hX)
  obtain⟨C,hC⟩:∃ C,C=chainF d id:=⟨_,rfl⟩
  obtain⟨I,hI⟩:∃ I:List Int,I=C.map (fun n=>n.id):=⟨_,rfl⟩
  rw [← hC,← hI] at cg
  have hIl:I.length=C.length:=by rw [hI,List.length_map]
  have hCm:∀ m∈C,m∈d.notes:=fun m hm=>chain_id _ m (by rw [hC] at hm;exact hm)
  (repeat' (first|refine eV Z Z (val_loadA Z Z Z rD.at rfl) ?_|(refine EL_call Z Z (entersF Z Z en109) cg (fun vC wC hC=>?_);obtain⟨xC,sC⟩:=hC)|(refine at_EL ?_;first|refine eN ?_|refine eV Z Z (zA Z Z) ?_|refine eV Z Z (zB Z Z) ?_)|(refine at_K ?_;first|refine K_then ?_)|(refine at_E ?_;first|refine E_seq ?_|refine E_region ?_|refine E_block ?_)))
  have sC0:=sC
  obtain⟨a,cap,rfl,hc,hm,hp⟩:=sC.sl
  refine E_loop (ι:=Nat) (fun i=>[(2,.pointer (some ⟨bD,0,none⟩)),(4,.pointer (some ⟨bA,0,none⟩)),(6,.slice a I.length cap),(7,int i)])
    (fun i wr=>i≤C.length∧Ext wC wr∧∀ j,j<i→∀ m,C[j]?=some m→alignedB d m.tier=false) (fun i=>C.length-i) 0
    ⟨rfl,rfl,rfl,rfl,trivial⟩ ⟨Nat.zero_le _,Ext.refl _,fun j hj=>by omega⟩ ?_
  rintro i wr ⟨hi,hx,hall⟩
  have rDr:=(rD.ext xC).ext hx
  have rAr:=(rA.ext xC).ext hx
  have hXr:=hX.trans (xC.trans hx)
  by_cases hlt:i<C.length
  · obtain⟨b,off,rfl⟩:=hp (by omega)
    obtain⟨m,hm1⟩:∃ m,C[i]?=some m:=⟨_,List.getElem?_eq_getElem hlt⟩
    have hmI:I[i]?=some m.id:=by rw [hI,List.getElem?_map,hm1];rfl
    have hmn:=hCm m (List.mem_of_getElem? hm1)
    have hcx:=int_elem (sC0.ext hx) hmI
    have cget:∀ wq,Ext wr wq→Calls Tryz.prog 52 #[.agg #[int d.rid,str d.rname,int d.len,int d.day,sv,tv,nv],int m.id] wq (Rt fun u w'=>u=.tuple #[.agg (noteC m).toArray,.bool true]∧Ext wq w'):=fun wq xq=>by
      have:=get_any d _ m.id wq (hd0.ext (hXr.trans xq))
      rw [getR_val (get_mem (ids_rise h) hmn)] at this
      exact this
    (repeat' ((fail_if_success (refine E_seq (x:=(Code.region 5 _ _)) ?_));first|(refine at_EL ?_;first|refine eN ?_|refine eV Z Z (zA Z Z) ?_|(refine at_bin ?_;first|refine eD Z Z (zL Z Z Z) (fun hh=>?_) (fun hh=>?_))|(refine at_call ?_;first|refine eV Z Z (zK Z Z) ?_))|(refine at_K ?_;first|refine K_then ?_|refine K_then_exit ?_|refine K_in_exit ?_)|(refine at_E ?_;first|refine E_seq ?_|refine E_region ?_|refine E_cond_t Z ?_|refine E_cond_f Z ?_|refine E_block ?_|refine E_skip ?_|refine E_exit ?_)))
    all_goals (first|(exfalso;omega)|skip)
    refine E_seq ?_
    refine E.sub (M:=[(2,.pointer (some ⟨bD,0,none⟩)),(4,.pointer (some ⟨bA,0,none⟩)),(6,.slice (some ⟨b,off,none⟩) I.length cap),(7,int i)]) ⟨rfl,rfl,rfl,rfl,trivial⟩ ?_
    refine E_one 9 10 8 26 (noteC m) [some (20,.agg #[int d.rid,str d.rname,int d.len,int d.day,sv,tv,nv]),some (21,.slice (some ⟨b,off,none⟩) I.length cap),some (22,int i),some (23,.pointer (some ⟨b,off+i*1,none⟩)),some (24,int m.id),
      some (25,.tuple #[.agg (noteC m).toArray,.bool true]),some (19,.tuple #[.agg (noteC m).toArray,.bool true]),some (26,.agg (noteC m).toArray),some (27,.bool true),none,none,some (9,.bool true)] mixedOk (by kernel_rfl) rfl rfl rfl rfl rfl rfl rfl rfl (by decide) rfl rfl rfl rfl rfl
      ⟨vcV fun wq xq=>val_loadA Z Z Z (rDr.ext xq).at rfl,vcV fun _ _=>zA Z Z,vcV fun _ _=>zA Z Z,vcV fun _ _=>val_indexAddr (m:=i) Z Z Z Z (by omega),vcV fun wq xq=>val_load Z Z Z (xq.cell hcx),
        vcC (fun _ _=>entersF Z Z en52) (fun wq xq=>cget wq xq),vcV fun _ _=>zA Z Z,vcV fun _ _=>zF Z Z Z,vcV fun _ _=>zF Z Z Z,vcV fun _ _=>zB Z Z,trivial⟩ (fun b8 w1 x1 hge8 r1=>?_)
    refine K.sub (M:=[(2,.pointer (some ⟨bD,0,none⟩)),(4,.pointer (some ⟨bA,0,none⟩)),(6,.slice (some ⟨b,off,none⟩) I.length cap),(7,int i),(8,.pointer (some ⟨b8,0,none⟩)),(9,.bool true)]) ⟨rfl,rfl,rfl,rfl,rfl,rfl,trivial⟩ ?_
    have r8':Row w1 b8 80 (noteC m):=r1
    clear r1
    have rD1:=rDr.ext x1
    have ca:=refAligned_any d tv m.tier w1 (ht.ext (hXr.trans x1))
    cases hal:alignedB d m.tier with
    | true=>
      rw [hal] at ca
      (repeat' (first|refine eV Z Z (val_load Z Z Z (rD1.cellAt rfl)) ?_|refine eV Z Z (val_load Z Z Z (r8'.cellAt rfl)) ?_|(refine EL_call Z Z (entersF Z Z en110) ca (fun vE wE hE=>?_);obtain⟨rfl,xE⟩:=hE)|(refine at_EL ?_;first|refine eN ?_|refine eV Z Z (zH Z Z) ?_)|(refine at_K ?_;first|refine K_then ?_)|(refine at_E ?_;first|refine E_seq ?_|refine E_region ?_|refine E_cond_t Z ?_)))
      have at3:At wE b8 (0+3) [int m.frm,int m.til]:=(r8'.ext xE).at.seg 3 (n:=2)
      (repeat' (first|refine eV Z Z (val_loadA Z Z Z at3 rfl) ?_))
      refine EL_storeP (cs:=[int m.frm,int m.til]) (rAr.ext (x1.trans xE)) (hXr.trans (x1.trans xE)) hbAw rfl rfl rfl rfl rfl rfl rfl rfl (Nat.le_refl _) (fun w9 r9 x9 k9=>?_)
      (repeat' (first|(refine at_EL ?_;first|refine eN ?_|refine eV Z Z (zB Z Z) ?_)|(refine at_K ?_;first|refine K_then ?_|refine K_then_ret ?_|refine K_in_ret ?_)|(refine at_E ?_;first|refine E_ret ?_)))
      refine ret_ct Z Z Z r9.at rfl rfl ⟨?_,x9⟩
      have hf:whereF d id=some m:=by
        unfold whereF
        rw [← hC]
        exact find_here hall hm1 hal
      rw [span_some hf];rfl
    | false=>
      rw [hal] at ca
      (repeat' (first|refine eV Z Z (val_load Z Z Z (rD1.cellAt rfl)) ?_|refine eV Z Z (val_load Z Z Z (r8'.cellAt rfl)) ?_|(refine EL_call Z Z (entersF Z Z en110) ca (fun vE wE hE=>?_);obtain⟨rfl,xE⟩:=hE)|(refine at_EL ?_;first|refine eN ?_|refine eV Z Z (zA Z Z) ?_|refine eV Z Z (zB Z Z) ?_|(refine at_bin ?_;first|refine eV Z Z (zU Z Z Z (by omega) (by omega)) ?_)|refine eV Z Z (zH Z Z) ?_)|(refine at_K ?_;first|refine K_then ?_|refine K_in ?_)|(refine at_E ?_;first|refine E_seq ?_|refine E_region ?_|refine E_cond_f Z ?_|refine E_skip ?_)))
      exact K_rnd (i+1) ⟨rfl,rfl,rfl,rfl,trivial⟩ ⟨by omega,hx.trans (x1.trans xE),fun j hj m' hm'=>by
        by_cases hj2:j<i
        · exact hall j hj2 m' hm'
        · obtain rfl:j=i:=by omega
          rw [hm1] at hm';cases hm'
          exact hal⟩ (by omega)
  · (repeat' (first|refine eV Z Z (val_build (vs:=[]) [int 0,int 0] rfl rfl rfl) ?_|(refine at_EL ?_;first|refine eN ?_|refine eV Z Z (zA Z Z) ?_|(refine at_bin ?_;first|refine eD Z Z (zL Z Z Z) (fun hh=>?_) (fun hh=>?_))|(refine at_call ?_;first|refine eV Z Z (zK Z Z) ?_))|(refine at_K ?_;first|refine K_then ?_|refine K_then_exit ?_|refine K_in_exit ?_)|(refine at_E ?_;first|refine E_seq ?_|refine E_region ?_|refine E_cond_t Z ?_|refine E_cond_f Z ?_|refine E_block ?_|refine E_skip ?_|refine E_exit ?_)))
    all_goals (first|(exfalso;omega)|skip)
    refine EL_storeP (cs:=[int 0,int 0]) rAr hXr hbAw rfl rfl rfl rfl rfl rfl rfl rfl (Nat.le_refl _) (fun w9 r9 x9 k9=>?_)
    (repeat' (first|(refine at_EL ?_;first|refine eN ?_|refine eV Z Z (zB Z Z) ?_)|(refine at_K ?_;first|refine K_then ?_)|(refine at_E ?_;first|refine E_ret ?_)))
    refine ret_ct Z Z Z r9.at rfl rfl ⟨?_,x9⟩
    have hf:whereF d id=none:=by
      unfold whereF
      rw [← hC,List.find?_eq_none]
      intro m hm2
      obtain⟨j,hj⟩:=List.getElem?_of_mem hm2
      have:=(List.getElem?_eq_some_iff.1 hj).1
      simpa using hall j (by omega) m hj
    rw [span_none hf];rfl
end Go.Proofs.YtjicdgejhkgpgaaGreatDoor
