/- Own text. -/
import Derived.Test.YtojadfppncgphaaGreatDoorQYb
import Derived.Maps.AppendAt
set_option linter.all false
namespace Go.Dl
open Go.RowKit Go.En
def upg (γ:Gh)(k:Nat)(p:Value × Nat):Gh:=fun j=>if j=k then p else γ j
theorem C3 (γ:Gh)(k:Nat)(p:Value × Nat):upg γ k p k=p:=by simp [upg]
theorem A7w (γ:Gh){k j:Nat}(p:Value × Nat)(h:j≠k):upg γ k p j=γ j:=by simp [upg,h]
theorem S2 {k:Nat}{ob:Ob}{j:Nat}:lo [(k,ob)] j=if k=j then some ob else none:=by rw [D3];rfl
section
variable {γ : Gh}{G : Nat → Prop}{w w' : World}{H : Hp}{ks : List Nat}{x : Option Lf}{v : Value}{k : Nat}{ob : Ob}
theorem Evo.new {p : Value × Nat}(hx : Ext w w')(hglt : ∀ b, G b → b < w.heap.size)(hk : k ∉ ks)(hob : OR (upg γ k p) G w' k ob)(hb : ∀ b, blk p.1 = some b → w.heap.size ≤ b ∧ b < w'.heap.size)(hl : ∀ y, x = some y → LR (upg γ k p) G w' y v) :
  Evo γ G w H ks [(k,ob)] x v (upg γ k p) G w' where
 kx:=Kx.of_ext hx
 gg _ h:=h
 gn b h:=⟨Nat.lt_of_lt_of_le (hglt b h) hx.size,.inl h⟩
 gh j hj:=A7w γ p fun e=>by subst e;rw [S2,if_pos rfl] at hj;cases hj
 gv j hj hm:=by
  rw [S2] at hj
  split at hj
  ·rename_i e;subst e;exact absurd hm hk
  ·exact absurd rfl hj
 ob j ob' hj:=by
  rw [S2] at hj
  split at hj
  ·rename_i e;subst e;cases hj;exact hob
  ·cases hj
 ow j ob' b hj hbb:=by
  rw [S2] at hj
  split at hj
  ·rename_i e;subst e;cases hj
   have:blk p.1=some b:=by
    cases ob <;> simp only [oblk,C3] at hbb <;> first|exact hbb|cases hbb
   have:=hb b this
   exact⟨this.2,fun hg=>by have:=hglt b hg;omega,.inl this.1⟩
  ·cases hj
 ds j j' ob1 ob2 b h1 h2 _ _:=by
  rw [S2] at h1 h2
  split at h1
  ·rename_i e;subst e
   split at h2
   ·rename_i e;exact e
   ·cases h2
  ·cases h1
 lr:=hl
theorem Evo.chg {p : Value × Nat}{ob0 : Ob}{b0 : Option Nat}(hkb : Kb b0 w w')(hglt : ∀ b, G b → b < w.heap.size)(hk : k ∈ ks)(h0 : lo H k = some ob0)(hb0 : b0 = oblk γ k ob0)(hto : p = γ k ∨ (γ k).2 < p.2)(hob : OR (upg γ k p) G w' k ob)
  (hG:∀ b,b0=some b→¬ G b∧b<w.heap.size) (hb:∀ b,blk p.1=some b→b0=some b∨(w.heap.size≤b∧b<w'.heap.size)) (hl:∀ y,x=some y→LR (upg γ k p) G w' y v) :
  Evo γ G w H ks [(k,ob)] x v (upg γ k p) G w' where
 kx:=Kx.of_kb hkb fun b hb=>⟨k,hk,ob0,h0,by rw [S2,if_pos rfl];simp,by rw [← hb0];exact hb⟩
 gg _ h:=h
 gn b h:=⟨Nat.lt_of_lt_of_le (hglt b h) hkb.size,.inl h⟩
 gh j hj:=A7w γ p fun e=>by subst e;rw [S2,if_pos rfl] at hj;cases hj
 gv j hj hm:=by
  rw [S2] at hj
  split at hj
  ·rename_i e;subst e;unfold Gh.to;rw [C3];exact hto
  ·exact absurd rfl hj
 ob j ob' hj:=by
  rw [S2] at hj
  split at hj
  ·rename_i e;subst e;cases hj;exact hob
  ·cases hj
 ow j ob' b hj hbb:=by
  rw [S2] at hj
  split at hj
  ·rename_i e;subst e;cases hj
   have h1:blk p.1=some b:=by
    cases ob <;> simp only [oblk,C3] at hbb <;> first|exact hbb|cases hbb
   rcases hb b h1 with h2|h2
   ·have:=hG b h2
    exact⟨Nat.lt_of_lt_of_le this.2 hkb.size,this.1,.inr ⟨k,hk,ob0,h0,by rw [S2,if_pos rfl];simp,by rw [← hb0];exact h2⟩⟩
   ·exact⟨h2.2,fun hg=>by have:=hglt b hg;omega,.inl h2.1⟩
  ·cases hj
 ds j j' ob1 ob2 b h1 h2 _ _:=by
  rw [S2] at h1 h2
  split at h1
  ·rename_i e;subst e
   split at h2
   ·rename_i e;exact e
   ·cases h2
  ·cases h1
 lr:=hl
end
def lcs:Lf→Option (List Lf)
 | .d (.v x)=>bif x.oneCell' then some [.d (.v x)] else none
 | .d (.s a b)=>some [.d (.s a b)]
 | .d (.p a)=>some [.d (.p a)]
 | .d (.i t a)=>some [.d (.i t a)]
 | .d (.g cs)=>some (cs.map .d)
 | .o k n=>some [.o k n]
 | .p k n off=>some [.p k n off]
 | .m k=>some [.m k]
 | .w k n sz a b=>some [.w k n sz a b]
 | .f a b=>some [.f a b]
 | .g cs=>some cs
 | _=>none
theorem G4n {u:Value}(h:u.oneCell'=true):u.cells=#[u]:=by cases u <;> first|rfl|simp [Value.oneCell'] at h
theorem S5 {γ:Gh}{G:Nat→Prop}{w:World}{y:Lf}{u:Value}(hu:u.oneCell'=true)(h:LR γ G w y u):LR.LsR γ G w true [y] u.cells.toList:=by
 rw [G4n hu,LR.LsR]
 exact⟨u,[],rfl,fun _=>hu,h,by rw [LR.LsR]⟩
theorem C3w {γ : Gh}{G : Nat → Prop}{w : World}{y : Lf}{u : Value}{cs : List Lf}(h : LR γ G w y u)(hc : lcs y = some cs) : LR.LsR γ G w true cs u.cells.toList := by
 have h0:=h
 cases y with
 | d x =>
  cases x with
  | v x =>
   simp only [lcs] at hc
   cases hx:x.oneCell' with
   | false=>rw [hx] at hc;simp at hc
   | true=>
    rw [hx] at hc;simp at hc;subst hc
    rw [LR,DR] at h
    subst h
    exact S5 hx h0
  | s a b=>
   simp only [lcs,Option.some.injEq] at hc;subst hc
   rw [LR,DR] at h
   obtain⟨_,_,rfl,_⟩:=h
   exact S5 rfl h0
  | p a=>
   simp only [lcs,Option.some.injEq] at hc;subst hc
   rw [LR,DR] at h
   obtain⟨_,_,rfl,_⟩:=h
   exact S5 rfl h0
  | i t a=>
   simp only [lcs,Option.some.injEq] at hc;subst hc
   rw [LR,DR] at h
   obtain⟨_,rfl,_⟩:=h
   exact S5 rfl h0
  | g a=>
   simp only [lcs,Option.some.injEq] at hc;subst hc
   rw [LR,DR] at h
   obtain⟨vs,rfl,h2⟩:=h
   exact B0n (by simpa [Value.cells] using h2)
  | t a=>simp [lcs] at hc
 | o k n=>simp only [lcs,Option.some.injEq] at hc;subst hc;rw [LR] at h;exact S5 h.1.2 h0
 | p k n off=>simp only [lcs,Option.some.injEq] at hc;subst hc;rw [LR] at h;exact S5 h.1.2 h0
 | m k=>simp only [lcs,Option.some.injEq] at hc;subst hc;rw [LR] at h;exact S5 h.1 h0
 | w k n sz a b=>simp only [lcs,Option.some.injEq] at hc;subst hc;rw [LR] at h;exact S5 h.1.2 h0
 | f a b=>
  simp only [lcs,Option.some.injEq] at hc;subst hc
  rw [LR] at h
  obtain⟨_,rfl,_⟩:=h
  exact S5 rfl h0
 | g a=>
  simp only [lcs,Option.some.injEq] at hc;subst hc
  rw [LR] at h
  obtain⟨vs,rfl,h2⟩:=h
  simpa [Value.cells] using h2
 | t a=>simp [lcs] at hc
theorem D4h {γ:Gh}{G:Nat→Prop}{w:World}:∀ {us:List Value},us.all Value.oneCell'=true→LR.LsR γ G w true (us.map fun u=>.d (.v u)) us
 | [],_=>by rw [List.map_nil,LR.LsR]
 | u::r,h=>by
  simp only [List.all_cons,Bool.and_eq_true] at h
  rw [List.map_cons,LR.LsR]
  exact⟨u,r,rfl,fun _=>h.1,by rw [LR,DR],D4h h.2⟩
theorem D4i {γ:Gh}{G:Nat→Prop}{w:World}{k:Nat}{p:Value × Nat}{one:Bool}{cs:List Lf}{us:List Value}(h:LR.LsR γ G w one cs us)(hn:nams k cs=false∨p=γ k∨(γ k).2<p.2):LR.LsR (upg γ k p) G w one cs us:=
 A1j (fun _ hb=>⟨hb,rfl⟩) one cs us (fun j hj=>by
  unfold Gh.to
  by_cases e:j=k
  ·subst e
   rw [C3]
   rcases hn with hn|hn|hn
   ·rw [hn] at hj;cases hj
   ·exact .inl hn
   ·exact .inr hn
  ·rw [A7w γ p e];exact .inl rfl) h
theorem Ls_w {γ:Gh}{G G':Nat→Prop}{w w':World}{one:Bool}{cs:List Lf}{us:List Value}(h:LR.LsR γ G w one cs us)(hG:∀ b,G b→G' b∧w'.heap[b]?=w.heap[b]?):LR.LsR γ G' w' one cs us:=
 A1j hG one cs us (fun _ _=>.inl rfl) h
theorem D1t {G:Nat→Prop}{w w':World}(x:Ext w w')(hg:∀ b,G b→b<w.heap.size):∀ b,G b→G b∧w'.heap[b]?=w.heap[b]?:=fun b hb=>⟨hb,x.block (hg b hb)⟩
section
variable {P : Program}{o : Oper}{F : Fr}{H : Hp}
theorem T9 {t:TypeId}{z:Value}{size bytes:Nat}[TI P t z size bytes](k:Nat)(ho:o.op=.alloc t)(hz:z.cells.toList.all Value.oneCell'=true):LS P o F H [] (some (.p k 0 0)) [(k,.box t (z.cells.toList.map fun u=>.d (.v u)))]:=fun γ G w a ha hw K Q hK=>by
 obtain⟨i,hi,hzz,_⟩:=Q0 (P:=P) (t:=t) w
 have hr:(execOp a.eval o).run P w=.ok (.value (.pointer (some ⟨w.heap.size,0,none⟩))) (w.alloc (.cells z.cells t)):=by
  simp [execOp,ho,Instr.alloc,newVar,newRow,newObj,zeroValue,go_sem,hi,hzz]
  rfl
 unfold Oper.wp
 rw [hr]
 refine hK _ _ _ _ (Evo.new (p:=(.pointer (some ⟨w.heap.size,0,none⟩),0)) (J1 _ _) hw.glt (by simp) ⟨by rw [C3],w.heap.size,z.cells.toList,by rw [C3],K4 _ _ _,D4h hz⟩ (fun b hb=>?_) fun y hy=>?_)
 ·cases hb;exact⟨Nat.le_refl _,(K4 w t _).lt⟩
 ·cases hy
  rw [LR,C3]
  exact⟨⟨Nat.le_refl _,rfl⟩,fun _=>⟨_,rfl,rfl⟩⟩
theorem D0h {t:TypeId}{x:Operand}{y:Lf}{cs:List Lf}(k:Nat)(ho:o.op=.box t x)(hx:ef F x=some y)(hc:lcs y=some cs)(hn:nams k cs=false):LS P o F H [] (some (.p k 0 0)) [(k,.box t cs)]:=fun γ G w a ha hw K Q hK=>by
 have hm:x∈o.op.operands:=by rw [ho];simp [Op.operands]
 have hcr:=C3w (ha x hm _ hx) hc
 have hr:(execOp a.eval o).run P w=.ok (.value (.pointer (some ⟨w.heap.size,0,none⟩))) (w.alloc (.cells (a.eval x).cells t)):=by
  simp [execOp,ho,Instr.box,newVar,newRow,newObj,go_sem]
  rfl
 unfold Oper.wp
 rw [hr]
 refine hK _ _ _ _ (Evo.new (p:=(.pointer (some ⟨w.heap.size,0,none⟩),0)) (J1 _ _) hw.glt (by simp) ⟨by rw [C3],w.heap.size,(a.eval x).cells.toList,by rw [C3],K4 _ _ _,Ls_w (D4i hcr (.inl hn)) (D1t (J1 _ _) hw.glt)⟩ (fun b hb=>?_) fun y hy=>?_)
 ·cases hb;exact⟨Nat.le_refl _,(K4 w t _).lt⟩
 ·cases hy
  rw [LR,C3]
  exact⟨⟨Nat.le_refl _,rfl⟩,fun _=>⟨_,rfl,rfl⟩⟩
theorem A4a {t e:TypeId}{x y:Operand}{z:Value}{size bytes k off:Nat}{cs ys:List Lf}{l:Lf}[TI P t z size bytes](ho:o.op=.store t x y)(hd:o.dst=none)(hx:ef F x=some (.p k 0 off))(hk:lo H k=some (.box e cs))(hy:ef F y=some l)(hc:lcs l=some ys)(hs:Nat.beq ys.length size=true)(hl:Nat.ble (off+size) cs.length=true) :
  LS P o F H [k] none [(k,.box e (cs.take off++ys++cs.drop (off+size)))]:=fun γ G w a ha hw K Q hK=>by
 have hm1:x∈o.op.operands:=by rw [ho];simp [Op.operands]
 have hm2:y∈o.op.operands:=by rw [ho];simp [Op.operands]
 have hOR:=hw.obj k (List.mem_singleton.2 rfl) _ hk
 have hp:=ha x hm1 _ hx
 obtain⟨h0,b,vs,h1,h2,h3⟩:=hOR
 rw [LR] at hp
 obtain⟨b',h4,h5⟩:=hp.2 h0.symm
 rw [h1] at h4
 cases h4
 have hcr:=C3w (ha y hm2 _ hy) hc
 have hsz:(a.eval y).cells.size=size:=by
  have:=A0c hcr
  rw [Array.length_toList] at this
  rw [this];exact Nat.eq_of_beq_eq_true hs
 have hle:off+size≤vs.length:=by rw [A0c h3];exact Nat.le_of_ble_eq_true hl
 have h1':(a.eval y).cells.toList.all Value.oneCell'=true:=D4j hcr
 have h:=run_storeCells_at (P:=P) b off e (a.eval y).cells.toList 0 vs.toArray w h2 (by simp [hsz];exact hle) (fun u hu=>List.all_eq_true.1 h1' u hu)
 have e1:(a.eval y).cells.toList.length=size:=by rw [Array.length_toList];exact hsz
 simp only [Nat.add_zero,e1] at h
 have hr:(execOp a.eval o).run P w=.ok .skip (w.setRow b (vs.take off++(a.eval y).cells.toList++vs.drop (off+size)).toArray):=by
  have h4:=Go.En.run_sizeOf (P:=P) (t:=t) w
  simp only [execOp,ho,h5,Instr.storeAt,Instr.sureAddr,storeVar,Sem.run_bind,Sem.run_pure,Result.andThen_ok,h4,hsz]
  rw [if_neg (by simp)]
  simp only [h,Result.andThen_ok]
 have hkb:Kb (some b) w (w.setRow b (vs.take off++(a.eval y).cells.toList++vs.drop (off+size)).toArray):=⟨rfl,rfl,rfl,by simp,fun k hk hne=>setRow_other w b k _ (fun e=>hne (by rw [e]))⟩
 unfold Oper.wp
 rw [hr]
 have hown:=hw.own k (List.mem_singleton.2 rfl) _ b hk (by simp [oblk,h1,blk])
 have hGn:∀ q,G q→G q∧(w.setRow b (vs.take off++(a.eval y).cells.toList++vs.drop (off+size)).toArray).heap[q]?=w.heap[q]?:=fun q hq=>⟨hq,World.grownBy.block hkb q (hw.glt q hq) fun e=>hown.2 (by cases e;exact hq)⟩
 have hrow:=setRow_heap w b vs.toArray (vs.take off++(a.eval y).cells.toList++vs.drop (off+size)).toArray e (0,0) h2
 have hevo:Evo γ G w H [k] [(k,.box e (cs.take off++ys++cs.drop (off+size)))] none undef (upg γ k (γ k)) G (w.setRow b (vs.take off++(a.eval y).cells.toList++vs.drop (off+size)).toArray):=by
  refine Evo.chg (b0:=some b) hkb hw.glt (List.mem_singleton.2 rfl) hk (by simp [oblk,h1,blk]) (.inl rfl) ⟨by rw [C3];exact h0,b,_,by rw [C3];exact h1,hrow,?_⟩ (fun q hq=>by cases hq;exact⟨hown.2,hown.1⟩) (fun q hq=>by rw [h1] at hq;cases hq;exact .inl rfl) (fun _ h=>by cases h)
  exact Ls_w (D4i (A5v (A5v (A4y h3) hcr) (A4z h3)) (.inr (.inl rfl))) hGn
 exact hK undef _ _ _ hevo
theorem B2n {t e:TypeId}{x y:Operand}{z:Value}{size bytes k:Nat}{cs ys:List Lf}{l:Lf}[TI P t z size bytes](ho:o.op=.store t x y)(hd:o.dst=none)(hx:ef F x=some (.p k 0 0))(hk:lo H k=some (.box e cs))(hy:ef F y=some l)(hc:lcs l=some ys)(hs:Nat.beq ys.length size=true)(hl:Nat.beq cs.length size=true) :
  LS P o F H [k] none [(k,.box e ys)]:=by
 have hle:=Nat.eq_of_beq_eq_true hl
 have h2:=Nat.eq_of_beq_eq_true hs
 have:=A4a (P:=P) (F:=F) (H:=H) (off:=0) ho hd hx hk hy hc hs (by rw [Nat.zero_add,hle];exact Nat.ble_eq_true_of_le (Nat.le_refl _))
 rwa [List.take_zero,List.nil_append,List.drop_eq_nil_of_le (by omega),List.append_nil] at this
theorem B2o {t e:TypeId}{x y:Operand}{z:Value}{bytes k off:Nat}{cs:List Lf}{l m:Lf}[TI P t z 1 bytes](ho:o.op=.store t x y)(hd:o.dst=none)(hx:ef F x=some (.p k 0 off))(hk:lo H k=some (.box e cs))(hy:ef F y=some l)(hc:lcs l=some [m])(hl:Nat.ble (off+1) cs.length=true) :
  LS P o F H [k] none [(k,.box e (cs.set off m))]:=by
 have:=A4a (P:=P) (F:=F) (H:=H) ho hd hx hk hy hc rfl hl
 have hlt:off<cs.length:=Nat.le_of_ble_eq_true hl
 rw [List.set_eq_take_append_cons_drop,if_pos hlt]
 rwa [List.append_assoc,List.singleton_append] at this
end
end Go.Dl
namespace Go.Dl
open Go.RowKit Go.En
theorem B5c {G : Nat → Prop}{w : World}{b sz : Nat} : ∀ {rows : List (List Dt)} {off : Nat}, DR.rowsR G w b sz off rows → ∃ us, At w b off us ∧ DR.valsR G w true rows.flatten us ∧ us.length = rows.length * sz
 | [],off,_=>⟨[],fun j v h=>by simp at h,by rw [List.flatten_nil,DR.valsR],by simp⟩
 | r :: rs, off, e => by
  rw [DR.rowsR] at e
  obtain⟨⟨h1,h2⟩,h3⟩:=e
  obtain⟨us,h4,h5⟩:=cells_at h2
  obtain⟨vs,h6,h7,h8⟩:=B5c h3
  have hl:=vals_len h5
  refine⟨us++vs,fun j v hj=>?_,?_,by rw [List.length_append,h8,hl,h1,List.length_cons,Nat.add_mul];omega⟩
  ·by_cases hlt:j<us.length
   ·rw [List.getElem?_append_left hlt] at hj
    exact h4 j v hj
   ·rw [List.getElem?_append_right (by omega)] at hj
    have:=h6 _ v hj
    rwa [show off+sz+(j-us.length)=off+j by omega] at this
  ·rw [List.flatten_cons]
   clear h1 h2 h3 h4 h6 h8 hl
   induction r generalizing us with
   | nil=>rw [DR.valsR] at h5;subst h5;exact h7
   | cons x r ih=>
    rw [DR.valsR] at h5
    obtain⟨u,us',rfl,g1,g2,g3⟩:=h5
    rw [List.cons_append,List.cons_append,DR.valsR]
    exact⟨u,_,rfl,g1,g2,ih us' g3⟩
theorem A2b {G : Nat → Prop}{w : World}{b sz : Nat} : ∀ {rows : List (List Dt)} {off : Nat} {us : List Value}, (∀ r ∈ rows, r.length = sz) → At w b off us → DR.valsR G w true rows.flatten us → DR.rowsR G w b sz off rows
 | [],_,_,_,_,_=>by rw [DR.rowsR];trivial
 | r :: rs, off, us, hsz, ha, hv => by
  rw [DR.rowsR]
  rw [List.flatten_cons] at hv
  have hr:=hsz r (List.mem_cons_self ..)
  have key:∀(r:List Dt) (q:List Dt) (us:List Value),DR.valsR G w true (r++q) us→DR.valsR G w true r (us.take r.length)∧DR.valsR G w true q (us.drop r.length):=by
   intro r q
   induction r with
   | nil=>intro us h;exact⟨by rw [List.length_nil,List.take_zero,DR.valsR],by simpa using h⟩
   | cons x r ih=>
    intro us h
    rw [List.cons_append,DR.valsR] at h
    obtain⟨u,us',rfl,g1,g2,g3⟩:=h
    obtain⟨i1,i2⟩:=ih us' g3
    refine⟨?_,by simpa using i2⟩
    rw [List.length_cons,List.take_succ_cons,DR.valsR]
    exact⟨u,_,rfl,g1,g2,i1⟩
  obtain⟨h1,h2⟩:=key r _ us hv
  refine⟨⟨hr,B9s (B6c ha _) h1⟩,A2b (fun q hq=>hsz q (List.mem_cons_of_mem _ hq)) (fun j v hj=>?_) h2⟩
  rw [List.getElem?_drop] at hj
  have:=ha _ v hj
  rwa [hr,← Nat.add_assoc] at this
theorem C2s {P:Program}{w:World}{t e ty:TypeId}{z:Value}{size bytes:Nat}[ut:UT P t (.slice e)][ti:TI P e z size bytes]{v:Value}{n:Nat}{xs:List Value}(hown:w.ownsRow 0 e size v n xs){a:Option Addr}{q c:Nat}{news:List Value}
  (hnews:0<q→∃ b off,a=some ⟨b,off,none⟩∧At w b off news) (hl:news.length=q*size) (h1:news.all Value.oneCell'=true) (hz:z.cells.size=size) (hsz:0<size) (hmax:(n+q)*bytes≤140737488355328) (hmax':n+q≤9223372036854775807) :
  ∃ v' w',(Builtin.append_ #[t,t] ty #[v,.slice a q c]).run P w=.ok v' w'∧w'.ownsRow 0 e size v' (n+q) (xs++news)∧Kb v.ownBlock w w'∧(v'.ownBlock=v.ownBlock∨v'.ownBlock=some w.heap.size)∧(q=0→v'=v):=by
 obtain⟨i0,hi,hz0,hz1,hz2⟩:=info_parts ti.i
 by_cases hq:q=0
 ·subst hq
  obtain rfl:news=[]:=List.length_eq_zero_iff.1 (by rw [hl,Nat.zero_mul])
  refine⟨v,w,?_,by simpa using hown,World.grownBy.refl _ _,.inl rfl,fun _=>rfl⟩
  rcases hown.2 with⟨rfl,rfl⟩|⟨g,cap,cur,rfl,_,_,hnc,_⟩
  ·cases a <;> simp [Builtin.append_,run_underlying ut.u,sizeOf,typeInfo,hi,Builtin.lenOf,Builtin.firstCells,loadCells,loadCellsFrom]
  ·cases a <;> simp [Builtin.append_,run_underlying ut.u,sizeOf,typeInfo,hi,Builtin.lenOf,Builtin.firstCells,hnc,storeCells,loadCells,loadCellsFrom]
 ·obtain⟨b,off,rfl,hat⟩:=hnews (by omega)
  obtain⟨v',w',hr,h2,h3,_,h4⟩:=run_append_own_at (P:=P) (w:=w) (ty:=ty) 0 t e i0 z size bytes ut.u hi hz0 hz1 hz2 hz hsz v n xs hown ⟨b,off,none⟩ q c news hl (fun j u hu=>by rw [D6];exact hat j u hu)
   (fun u hu=>List.all_eq_true.1 h1 u hu) (by unfold maxLen;omega) hmax (Nat.zero_le _)
  exact⟨v',w',hr,h2,h3,h4,fun e=>absurd e hq⟩
structure Src (G:Nat→Prop)(w:World)(size:Nat)(ys:List (List Dt))(u:Value):Prop where
 ex:∃ a c news,u=.slice a ys.length c∧(0<ys.length→∃ b off,a=some ⟨b,off,none⟩∧At w b off news)∧news.length=ys.length*size∧DR.valsR G w true ys.flatten news∧∀ r∈ys,r.length=size
theorem C2t {G:Nat→Prop}{w:World}{b sz:Nat}:∀ {rows:List (List Dt)} {off:Nat},DR.rowsR G w b sz off rows→∀ r∈rows,r.length=sz
 | [],_,_,_,h=>by simp at h
 | r::rs,off,e,q,h=>by
  rw [DR.rowsR] at e
  rcases List.mem_cons.1 h with rfl|h
  ·exact e.1.1
  ·exact C2t e.2 q h
theorem D9b {γ:Gh}{G:Nat→Prop}{w:World}{sz:Nat}{rows:List (List Dt)}{u:Value}(h:LR γ G w (.d (.s sz rows)) u):Src G w sz rows u:=by
 rw [LR,DR] at h
 obtain⟨a,cap,h2,_,_,h5⟩:=h
 by_cases h0:0<rows.length
 ·obtain⟨b,off,rfl,_,h6⟩:=h5 h0
  obtain⟨us,h7,h8,h9⟩:=B5c h6
  exact⟨_,_,us,h2,fun _=>⟨b,off,rfl,h7⟩,h9,h8,C2t h6⟩
 ·have:rows=[]:=List.length_eq_zero_iff.1 (by omega)
  subst this
  exact⟨_,_,[],h2,fun h=>absurd h (by simp),by simp,by rw [List.flatten_nil,DR.valsR],fun r hr=>by simp at hr⟩
section
variable {P : Program}{o : Oper}{F : Fr}{H : Hp}
theorem R7 {G:Nat→Prop}{w:World}{one:Bool}:∀ {cells cells':List Dt} {us us':List Value},DR.valsR G w one cells us→DR.valsR G w one cells' us'→DR.valsR G w one (cells++cells') (us++us')
 | [],_,_,_,e,e'=>by rw [DR.valsR] at e;subst e;exact e'
 | x::r,_,_,_,e,e'=>by
  rw [DR.valsR] at e
  obtain⟨u,us,rfl,h2,h3,h⟩:=e
  rw [List.cons_append,List.cons_append,DR.valsR]
  exact⟨u,_,rfl,h2,h3,R7 h e'⟩
theorem D8a {t e:TypeId}{s x:Operand}{z:Value}{size bytes:Nat}[ut:UT P t (.slice e)][ti:TI P e z size bytes]{k n:Nat}{rows ys:List (List Dt)}{ks:List Nat}(hks:k∈ks)(ho:o.op=.call { callee:=.builtin .append,args:=#[s,x],argTypes:=#[t,t] })
  (hs:ef F s=some (.o k n)) (hk:lo H k=some (.ls e size n rows)) (hsrc:∀ γ G w a,Args F o γ G w a→HW γ G ks H w→Src G w size ys (a.eval x)) (hz:Nat.beq z.cells.size size=true) (hsz:Nat.ble 1 size=true) (hmax:(rows.length+ys.length)*bytes≤140737488355328) (hmax':rows.length+ys.length≤9223372036854775807) :
  LS P o F H ks (some (.o k (n+1))) [(k,.ls e size (n+1) (rows++ys))]:=fun γ G w a ha hw K Q hK=>by
 have hm1:s∈o.op.operands:=by rw [ho];simp [Op.operands,Call.operands]
 obtain⟨A,c,news,hx,hnews,hl,hr,hys⟩:=(hsrc γ G w a ha hw).ex
 have hOR:=hw.obj k hks _ hk
 obtain⟨h1,vs,h2,h3⟩:=own_sl hOR (ha s hm1 _ hs)
 obtain⟨v',w',hrun,h4,h5,h6,h7⟩:=C2s (P:=P) (ut:=ut) (ti:=ti) (ty:=o.type) (c:=c) h2 hnews hl (A3k hr) (Nat.eq_of_beq_eq_true hz) (Nat.le_of_ble_eq_true hsz) hmax hmax'
 have hr':(execOp a.eval o).run P w=.ok (.value v') w':=by
  simp only [execOp,ho,resolve,invoke,builtin,Sem.run_bind,Sem.run_pure,Result.andThen_ok,List.map_toArray,List.map_cons,List.map_nil,hx,hrun]
 unfold Oper.wp
 rw [hr']
 have hown:=fun b=>hw.own k hks (.ls e size n rows) b
 have hg2:(γ k).2=n:=hOR.1
 have hpp:(v',n+1)=γ k∨(γ k).2<(v',n+1).2:=.inr (by show(γ k).2<n+1;omega)
 have hob0:(a.eval s).ownBlock=oblk γ k (.ls e size n rows):=by rw [A3v h2,h1];rfl
 have hGn:∀ b,G b→G b∧w'.heap[b]?=w.heap[b]?:=fun b hb=>⟨hb,World.grownBy.block h5 b (hw.glt b hb) fun e1=>(hown b hk (by rw [← hob0,← e1])).2 hb⟩
 refine hK _ _ _ _ (Evo.chg (p:=(v',n+1)) (b0:=(a.eval s).ownBlock) h5 hw.glt hks hk hob0 hpp ⟨by rw [C3],fun r hr=>?_,vs++news,by rw [C3,List.length_append];exact h4,by rw [List.flatten_append];exact G4 hGn true _ _ (R7 h3 hr)⟩
  (fun b hb=>have:=hown b hk (by rw [← hob0,hb]);⟨this.2,this.1⟩) (fun b hb=>?_) fun y hy=>?_)
 ·rcases List.mem_append.1 hr with hr|hr
  ·exact hOR.2.1 r hr
  ·exact hys r hr
 ·rw [show blk (v',n+1).1=v'.ownBlock from(A3v h4).symm] at hb
  rcases h6 with h6|h6
  ·exact .inl (by rw [← h6,hb])
  ·rw [h6] at hb;cases hb
   exact .inr ⟨Nat.le_refl _,(h4.lt _ h6).2⟩
 ·cases hy
  rw [LR,C3]
  refine⟨⟨Nat.le_refl _,?_⟩,fun _=>rfl⟩
  rcases h4.2 with⟨h8,_⟩|⟨_,_,_,h8,_⟩ <;> rw [h8] <;> rfl
theorem D8b {t e:TypeId}{s x:Operand}{z:Value}{size bytes:Nat}[ut:UT P t (.slice e)][ti:TI P e z size bytes](k:Nat){ys:List (List Dt)}{ks:List Nat}(hks:k∉ks)(ho:o.op=.call { callee:=.builtin .append,args:=#[s,x],argTypes:=#[t,t] })
  (hs:ef F s=some (.d (.v (.slice none 0 0)))) (hsrc:∀ γ G w a,Args F o γ G w a→HW γ G ks H w→Src G w size ys (a.eval x)) (hz:Nat.beq z.cells.size size=true) (hsz:Nat.ble 1 size=true) (hmax:ys.length*bytes≤140737488355328) (hmax':ys.length≤9223372036854775807) :
  LS P o F H ks (some (.o k 0)) [(k,.ls e size 0 ys)]:=fun γ G w a ha hw K Q hK=>by
 have hm1:s∈o.op.operands:=by rw [ho];simp [Op.operands,Call.operands]
 obtain⟨A,c,news,hx,hnews,hl,hr,hys⟩:=(hsrc γ G w a ha hw).ex
 have h1:=ha s hm1 _ hs
 rw [LR,DR] at h1
 obtain⟨v',w',hrun,h4,h5,h6,h7⟩:=C2s (P:=P) (ut:=ut) (ti:=ti) (ty:=o.type) (c:=c) (World.ownsRow_nil w 0 e size) hnews hl (A3k hr) (Nat.eq_of_beq_eq_true hz) (Nat.le_of_ble_eq_true hsz) (by rw [Nat.zero_add];exact hmax) (by rw [Nat.zero_add];exact hmax')
 have hr':(execOp a.eval o).run P w=.ok (.value v') w':=by
  simp only [execOp,ho,resolve,invoke,builtin,Sem.run_bind,Sem.run_pure,Result.andThen_ok,List.map_toArray,List.map_cons,List.map_nil,hx,h1,hrun]
 rw [Nat.zero_add,List.nil_append] at h4
 have hxt:Ext w w':=Kb.none_ext h5
 unfold Oper.wp
 rw [hr']
 refine hK _ _ _ _ (Evo.new (p:=(v',0)) hxt hw.glt hks ⟨by rw [C3],hys,news,by rw [C3];exact h4,G4 (D1t hxt hw.glt) true _ _ hr⟩ (fun b hb=>?_) fun y hy=>?_)
 ·rw [show blk (v',0).1=v'.ownBlock from(A3v h4).symm] at hb
  rcases h6 with h6|h6
  ·rw [hb] at h6;cases h6
  ·rw [h6] at hb;cases hb
   exact⟨Nat.le_refl _,(h4.lt _ h6).2⟩
 ·cases hy
  rw [LR,C3]
  refine⟨⟨Nat.le_refl _,?_⟩,fun _=>rfl⟩
  rcases h4.2 with⟨h8,_⟩|⟨_,_,_,h8,_⟩ <;> rw [h8] <;> rfl
theorem A9c {t e:TypeId}{s x:Operand}{z:Value}{size bytes:Nat}[ut:UT P t (.slice e)][ti:TI P e z size bytes]{k n:Nat}{rows ys:List (List Dt)}(ho:o.op=.call { callee:=.builtin .append,args:=#[s,x],argTypes:=#[t,t] })
  (hs:ef F s=some (.o k n)) (hk:lo H k=some (.ls e size n rows)) (hx:ef F x=some (.d (.s size ys))) (hz:Nat.beq z.cells.size size=true) (hsz:Nat.ble 1 size=true) (hmax:(rows.length+ys.length)*bytes≤140737488355328) (hmax':rows.length+ys.length≤9223372036854775807) :
  LS P o F H [k] (some (.o k (n+1))) [(k,.ls e size (n+1) (rows++ys))]:=
 D8a (ut:=ut) (ti:=ti) (List.mem_singleton.2 rfl) ho hs hk (fun γ G w a ha _=>D9b (ha x (by rw [ho];simp [Op.operands,Call.operands]) _ hx)) hz hsz hmax hmax'
theorem V9 {t e:TypeId}{s x:Operand}{z:Value}{size bytes:Nat}[ut:UT P t (.slice e)][ti:TI P e z size bytes](k:Nat){ys:List (List Dt)}(ho:o.op=.call { callee:=.builtin .append,args:=#[s,x],argTypes:=#[t,t] })
  (hs:ef F s=some (.d (.v (.slice none 0 0)))) (hx:ef F x=some (.d (.s size ys))) (hz:Nat.beq z.cells.size size=true) (hsz:Nat.ble 1 size=true) (hmax:ys.length*bytes≤140737488355328) (hmax':ys.length≤9223372036854775807) :
  LS P o F H [] (some (.o k 0)) [(k,.ls e size 0 ys)]:=
 D8b (ut:=ut) (ti:=ti) k (by simp) ho hs (fun γ G w a ha _=>D9b (ha x (by rw [ho];simp [Op.operands,Call.operands]) _ hx)) hz hsz hmax hmax'
end
end Go.Dl
