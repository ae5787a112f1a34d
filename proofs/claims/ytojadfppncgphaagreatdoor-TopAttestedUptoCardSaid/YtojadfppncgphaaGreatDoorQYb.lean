/- Own text. -/
import Derived.Test.YtojadfppncgphaaGreatDoorQYa
set_option linter.all false
namespace Go.Dl
open Go.RowKit Go.En
structure HW (γ:Gh)(G:Nat→Prop)(ks:List Nat)(H:Hp)(w:World):Prop where
 glt:∀ b,G b→b<w.heap.size
 obj:∀ k∈ks,∀ ob,lo H k=some ob→OR γ G w k ob
 own:∀ k∈ks,∀ ob b,lo H k=some ob→oblk γ k ob=some b→b<w.heap.size∧¬ G b
 dis:∀ k∈ks,∀ k'∈ks,∀ ob ob' b,lo H k=some ob→lo H k'=some ob'→oblk γ k ob=some b→oblk γ k' ob'=some b→k=k'
def Tb (γ:Gh)(ks:List Nat)(H he:Hp)(b:Nat):Prop:=∃ k∈ks,∃ ob,lo H k=some ob∧lo he k≠none∧oblk γ k ob=some b
structure Evo (γ:Gh)(G:Nat→Prop)(w:World)(H:Hp)(ks:List Nat)(he:Hp)(x:Option Lf)(v:Value)(γ':Gh)(G':Nat→Prop)(w':World):Prop where
 kx:Kx (Tb γ ks H he) w w'
 gg:∀ b,G b→G' b
 gn:∀ b,G' b→b<w'.heap.size∧(G b∨w.heap.size≤b∨Tb γ ks H he b)
 gh:∀ k,lo he k=none→γ' k=γ k
 gv:∀ k,lo he k≠none→k∈ks→γ.to γ' k
 ob:∀ k ob,lo he k=some ob→OR γ' G' w' k ob
 ow:∀ k ob b,lo he k=some ob→oblk γ' k ob=some b→b<w'.heap.size∧¬ G' b∧(w.heap.size≤b∨Tb γ ks H he b)
 ds:∀ k k' ob ob' b,lo he k=some ob→lo he k'=some ob'→oblk γ' k ob=some b→oblk γ' k' ob'=some b→k=k'
 lr:∀ y,x=some y→LR γ' G' w' y v
def Args (F:Fr)(o:Oper)(γ:Gh)(G:Nat→Prop)(w:World)(a:Act):Prop:=∀ y∈o.op.operands,∀ z,ef F y=some z→LR γ G w z (a.eval y)
def LS (P:Program)(o:Oper)(F:Fr)(H:Hp)(ks:List Nat)(x:Option Lf)(he:Hp):Prop:=
 ∀ γ G w a,Args F o γ G w a→HW γ G ks H w→∀(K:Act→World→Prop) (Q:Post),(∀ v w' γ' G',Evo γ G w H ks he x v γ' G' w'→K (a.put o.dst v) w')→o.wp P a w K Q
def frsh (k:Nat)(F:Fr)(H:Hp):Bool:=F.all (fun p=>!nam k p.2)&&H.all (fun p=>!namo k p.2)
def frs (he:Hp)(ks:List Nat)(F:Fr)(H:Hp):Bool:=he.all fun p=>ks.elem p.1||((Nat.blt p.1 1000&&frsh p.1 F H)&&(match lo H p.1 with|none=>true|some .dead=>true|_=>false))
theorem D0i:∀ {F:Fr} {s:Nat} {x:Lf},lf F s=some x→(s,x)∈F
 | [],_,_,h=>by simp [lf] at h
 | (k,v)::r,s,x,h=>by
  rw [J9] at h
  split at h
  ·rename_i e;subst e;cases h;exact List.mem_cons_self ..
  ·exact List.mem_cons_of_mem _ (D0i h)
theorem A2z:∀ {H:Hp} {s:Nat} {x:Ob},lo H s=some x→(s,x)∈H
 | [],_,_,h=>by simp [lo] at h
 | (k,v)::r,s,x,h=>by
  rw [D3] at h
  split at h
  ·rename_i e;subst e;cases h;exact List.mem_cons_self ..
  ·exact List.mem_cons_of_mem _ (A2z h)
theorem G4e {k:Nat}{F:Fr}{H:Hp}(h:frsh k F H=true){s:Nat}{x:Lf}(hx:lf F s=some x):nam k x=false:=by
 simp only [frsh,Bool.and_eq_true,List.all_eq_true] at h
 simpa using h.1 _ (D0i hx)
theorem G4d {k:Nat}{F:Fr}{H:Hp}(h:frsh k F H=true){s:Nat}{x:Ob}(hx:lo H s=some x):namo k x=false:=by
 simp only [frsh,Bool.and_eq_true,List.all_eq_true] at h
 simpa using h.2 _ (A2z hx)
def ptf (d:Option Tmp)(x:Option Lf)(F:Fr):Fr:=match d,x with|some d,some x=>(d,x)::F|_,_=>F
def dok (n:Nat):Option Tmp→Option Lf→Bool
 | some d,some _=>Nat.ble (d+1) n
 | none,_=>true
 | _,_=>false
theorem Rel.step {c:Cx}{n:Nat}{F:Fr}{H he:Hp}{ks:List Nat}{a:Act}{w w':World}{γ γ':Gh}{G G':Nat→Prop}{x:Option Lf}{v:Value}{d:Option Tmp}(hsz:a.tmps.size=n)(hnd:a.defers=[])
  (hw:Wf c γ G H w) (hs:∀ s y,lf F s=some y→∃ u,a.tmps[s]?=some u∧LR γ G w y u) (hd:dok n d x=true) (hf:frs he ks F H=true) (e:Evo γ G w H ks he x v γ' G' w') :
  Rel c n (ptf d x F) (he++H) (a.put d v) w':=by
 have hfr:∀ k,lo he k≠none→¬ k∈ks→frsh k F H=true∧(lo H k=none∨lo H k=some .dead)∧k<1000:=by
  intro k hk hkn
  obtain⟨ob,hob⟩:∃ ob,lo he k=some ob:=by
   cases h:lo he k with
   | none=>exact absurd h hk
   | some ob=>exact⟨ob,rfl⟩
  unfold frs at hf
  have:=List.all_eq_true.1 hf _ (A2z hob)
  simp only [Bool.or_eq_true,List.elem_iff,Bool.and_eq_true] at this
  rcases this with h|h
  ·exact absurd h hkn
  ·refine⟨h.1.2,?_,Nat.le_of_ble_eq_true h.1.1⟩
   have h2:=h.2
   split at h2
   ·rename_i e1;exact .inl e1
   ·rename_i e1;exact .inr e1
   ·exact absurd h2 (by simp)
 have htb:∀ b,Tb γ ks H he b→b<w.heap.size∧¬ G b∧(c.M b∨c.w0.heap.size≤b):=by
  rintro b ⟨k,_,ob,h1,_,h2⟩
  exact hw.own k ob b h1 h2
 have hG:∀ b,G b→G' b∧w'.heap[b]?=w.heap[b]?:=fun b hb=>⟨e.gg b hb,e.kx.block b (hw.glt b hb).1 fun ht=>(htb b ht).2.1 hb⟩
 have hto:∀(k:Nat),(lo he k≠none→¬ k∈ks→False)→γ.to γ' k:=by
  intro k hk
  cases h:lo he k with
  | none=>exact .inl (e.gh k h)
  | some ob=>
   by_cases h2:k∈ks
   ·exact e.gv k (by rw [h];simp) h2
   ·exact(hk (by rw [h];simp) h2).elim
 have hslot:∀ s y,lf F s=some y→∀ u,LR γ G w y u→LR γ' G' w' y u:=fun s y hy u hu=>
  LR.mv hG y u (fun k hk=>hto k fun h1 h2=>by
   have:=G4e (hfr k h1 h2).1 hy
   rw [hk] at this;cases this) hu
 refine⟨?_,?_,γ',G',⟨?_,?_,?_,?_,?_,?_,fun k hk=>Gh.to_trans (hw.lnk k hk) (hto k fun h1 h2=>by have:=(hfr k h1 h2).2.2;omega)⟩,?_⟩
 ·cases d <;> simp [Act.put,hsz]
 ·cases d <;> simp [Act.put,hnd]
 ·
  refine hw.off.trans' ?_ e.kx
  intro b hb ht
  have:=htb b ht
  rcases this.2.2 with h|h
  ·exact h
  ·exact absurd hb (by omega)
 ·exact fun b hb=>e.gg b (hw.g0 b hb)
 ·intro b hb
  obtain⟨h1,h2⟩:=e.gn b hb
  refine⟨h1,?_⟩
  rcases h2 with h2|h2|h2
  ·exact(hw.glt b h2).2
  ·exact .inr (.inl (Nat.le_trans hw.off.size h2))
  ·rcases (htb b h2).2.2 with h|h
   ·exact .inr (.inr h)
   ·exact .inr (.inl h)
 ·intro k ob hk
  rw [Z8] at hk
  cases h:lo he k with
  | some ob'=>rw [h] at hk;cases hk;exact e.ob k _ h
  | none=>
   rw [h,Option.none_or] at hk
   refine OR.mv hG (e.gh k h) (fun j hj=>hto j fun h1 h2=>?_) (fun b hb=>e.kx.block b (hw.own k ob b hk hb).1 ?_) (hw.obj k ob hk)
   ·have:=G4d (hfr j h1 h2).1 hk
    rw [hj] at this;cases this
   ·rintro⟨k',_,ob',h1,h2,h3⟩
    have:=hw.dis k k' ob ob' b hk h1 hb h3
    subst this
    exact h2 h
 ·intro k ob b hk hb
  rw [Z8] at hk
  cases h:lo he k with
  | some ob'=>
   rw [h] at hk;cases hk
   obtain⟨h1,h2,h3⟩:=e.ow k _ b h hb
   refine⟨h1,h2,?_⟩
   rcases h3 with h3|h3
   ·exact .inr (Nat.le_trans hw.off.size h3)
   ·exact(htb b h3).2.2
  | none=>
   rw [h,Option.none_or] at hk
   have hb':oblk γ k ob=some b:=by cases ob <;> simpa [oblk,e.gh k h] using hb
   obtain⟨h1,h2,h3⟩:=hw.own k ob b hk hb'
   refine⟨Nat.lt_of_lt_of_le h1 e.kx.size,fun hg=>?_,h3⟩
   rcases (e.gn b hg).2 with h4|h4|⟨k',_,ob',h5,h6,h7⟩
   ·exact h2 h4
   ·omega
   ·have:=hw.dis k k' ob ob' b hk h5 hb' h7
    subst this
    exact h6 h
 ·intro k k' ob ob' b hk hk' hb hb'
  rw [Z8] at hk hk'
  have key:∀ k k' ob ob',lo he k=some ob→lo he k'=none→lo H k'=some ob'→oblk γ' k ob=some b→oblk γ' k' ob'=some b→k=k':=by
   intro k k' ob ob' h1 h2 h3 h4 h5
   have h5':oblk γ k' ob'=some b:=by cases ob' <;> simpa [oblk,e.gh k' h2] using h5
   have h6:=hw.own k' ob' b h3 h5'
   rcases (e.ow k ob b h1 h4).2.2 with h7|⟨k0,_,ob0,h7,h9,h8⟩
   ·omega
   ·have:=hw.dis k0 k' ob0 ob' b h7 h3 h8 h5'
    subst this
    exact absurd h2 h9
  cases h:lo he k with
  | some q=>
   rw [h] at hk;cases hk
   cases h':lo he k' with
   | some q'=>rw [h'] at hk';cases hk';exact e.ds k k' _ _ b h h' hb hb'
   | none=>rw [h',Option.none_or] at hk';exact key k k' _ _ h h' hk' hb hb'
  | none=>
   rw [h,Option.none_or] at hk
   cases h':lo he k' with
   | some q'=>rw [h'] at hk';cases hk';exact(key k' k _ _ h' h hk hb' hb).symm
   | none=>
    rw [h',Option.none_or] at hk'
    have e1:oblk γ k ob=some b:=by cases ob <;> simpa [oblk,e.gh k h] using hb
    have e2:oblk γ k' ob'=some b:=by cases ob' <;> simpa [oblk,e.gh k' h'] using hb'
    exact hw.dis k k' ob ob' b hk hk' e1 e2
 ·intro s y hy
  cases d with
  | none=>
   have hy':lf F s=some y:=by cases x <;> simpa [ptf] using hy
   obtain⟨u,h1,h2⟩:=hs s y hy'
   exact⟨u,by simpa [Act.put] using h1,hslot s y hy' u h2⟩
  | some d=>
   cases x with
   | none=>simp [dok] at hd
   | some x=>
    have hdn:d<a.tmps.size:=by rw [hsz];exact Nat.le_of_ble_eq_true hd
    simp only [ptf] at hy
    rw [J9] at hy
    simp only [Act.put]
    split at hy
    ·rename_i e1;subst e1
     cases hy
     exact⟨v,by rw [Array.getElem?_setIfInBounds_self_of_lt hdn],e.lr _ rfl⟩
    ·rename_i e1
     obtain⟨u,h1,h2⟩:=hs s y hy
     exact⟨u,by rw [Array.getElem?_setIfInBounds_ne e1];exact h1,hslot s y hy u h2⟩
def gsf (ops : List Oper)(F : Fr)(o : Oper) : Option Bool :=
 match o.guard with
 | none=>some true
 | some (j,want)=>
  match nthd ops j with
  | none=>none
  | some d=>
   match lf F d with
   | some (.d (.v (.bool b)))=>some (b==want)
   | some (.d (.v _))=>some false
   | _=>none
def D3d:Value→Option Bool
 | .bool b=>some b
 | _=>none
theorem yld {ops:List Oper}{a:Act}{j d:Nat}{u:Value}(hj:nthd ops j=some d)(h1:a.tmps[d]?=some u):yielded ops.toArray a.tmps j=D3d u:=by
 unfold yielded
 rw [List.getElem?_toArray,A3x,hj,Option.bind_some,h1]
 cases u <;> rfl
theorem T5 {ops : List Oper}{F : Fr}{o : Oper}{γ : Gh}{G : Nat → Prop}{a : Act}{w : World}(hs : ∀ s x, lf F s = some x → ∃ u, a.tmps[s]? = some u ∧ LR γ G w x u){b : Bool}(h : gsf ops F o = some b) : Region.wanted o (yielded ops.toArray a.tmps) = b := by
 unfold gsf at h
 unfold Region.wanted
 cases hg:o.guard with
 | none=>rw [hg] at h;simpa using h
 | some p=>
  obtain⟨j,want⟩:=p
  rw [hg] at h
  dsimp only at h ⊢
  cases hj:nthd ops j with
  | none=>rw [hj] at h;simp at h
  | some d=>
   rw [hj] at h
   dsimp only at h
   cases hl:lf F d with
   | none=>rw [hl] at h;simp at h
   | some v=>
    rw [hl] at h
    obtain⟨u,h1,h2⟩:=hs d v hl
    rw [yld hj h1]
    cases v with
    | d y =>
     cases y with
     | v z=>
      rw [LR,DR] at h2
      subst h2
      cases u <;> simp [D3d] at h ⊢ <;> exact h
     | _=>simp at h
    | _=>simp at h
section
variable {P : Program}{c : Cx}{n : Nat}{Q : Post}{F : Fr}{H : Hp}{ops rest : List Oper}{o : Oper}
theorem G2u {x:Option Lf}{he:Hp}{ks:List Nat}(h:LS P o F H ks x he)(hg:gsf ops F o=some true)(hd:dok n o.dst x=true)(hf:frs he ks F H=true)(k:XL P c n ops Q rest (ptf o.dst x F) (he++H)):XL P c n ops Q (o::rest) F H:=by
 intro a w hr
 obtain⟨h1,h2,γ,G,hw,hs⟩:=hr
 refine wpList_step fun K hK=>?_
 rw [T5 hs hg,if_pos rfl]
 exact h γ G w a (fun y _ z hz=>Rel.ev hs hz) ⟨fun b hb=>(hw.glt b hb).1,fun k _ ob=>hw.obj k ob,fun k _ ob b hk hb=>⟨(hw.own k ob b hk hb).1,(hw.own k ob b hk hb).2.1⟩,fun k _ k' _=>hw.dis k k'⟩ K Q
  fun v w' γ' G' e=>hK _ _ (k _ _ (Rel.step h1 h2 hw hs hd hf e))
theorem Evo.none {γ:Gh}{G:Nat→Prop}{w:World}{H:Hp}{ks:List Nat}(hglt:∀ b,G b→b<w.heap.size){x:Option Lf}{v:Value}(h:∀ y,x=some y→LR γ G w y v):Evo γ G w H ks [] x v γ G w:=
 ⟨Kx.refl _ _,fun _ h=>h,fun b hb=>⟨hglt b hb,.inl hb⟩,fun _ _=>rfl,fun _ h=>absurd rfl h,fun k ob h=>by simp [lo] at h,fun k ob b h=>by simp [lo] at h,fun k k' ob ob' b h=>by simp [lo] at h,h⟩
theorem H1a {d:Nat}(hg:gsf ops F o=some false)(hd:odst n o.dst=some d)(k:XL P c n ops Q rest ((d,.d (.v undef))::F) H):XL P c n ops Q (o::rest) F H:=by
 intro a w hr
 obtain⟨h1,h2,γ,G,hw,hs⟩:=hr
 refine wpList_step fun K hK=>?_
 rw [T5 hs hg]
 have:=Rel.step (he:=[]) (ks:=[]) (x:=some (.d (.v undef))) (v:=undef) (d:=some d) h1 h2 hw hs (by
  have:=(D1 hd).2
  rw [(D1 hd).1] at this
  exact this) rfl (Evo.none (fun b hb=>(hw.glt b hb).1) fun y hy=>by cases hy;rw [LR,DR])
 rw [(D1 hd).1]
 exact hK _ _ (k _ _ this)
end
end Go.Dl
namespace Go.En
open Go.RowKit
def eN:=@D4t
def eO:=@H1f
def eV:=@C1v
def eD:=@G5b
def eL:=@G5a
def yN:=@G4v
def yV:=@A5u
def zA:=@A7t
def zB:=@A7v
def zC:=@A7r
def zD:=@A7s
def zE:=@D5g
def zF:=@A5y
def zG:=@Z1
def zH:=@W5
def zJ:=@B6s
def zK:=@Z2
def zL:=@D5k
def zM:=@D5o
def zN:=@D5l
def zO:=@D5m
def zP:=@C2i
def zQ:=@D5h
def zR:=@B6p
def zS:=@B6n
theorem B9p:∀(x y:List UInt8),Op.bytesLess x y=decide (x<y)
 | x,[]=>by simp [Op.bytesLess]
 | [],b::y=>by simp [Op.bytesLess]
 | a::x,b::y=>by
  simp only [Op.bytesLess,B9p x y,List.cons_lt_cons_iff,Bool.decide_or,Bool.decide_and]
  congr 2
section
variable {P : Program}{L : List (Nat × Value)}{w : World}{o : Oper}
theorem zT {t u:TypeId}{x y:Operand}{a b:List UInt8}(ho:o.op=.binOp .lss t x y u)(hx:ev L x=some (str a))(hy:ev L y=some (str b)):Val P L w o (.bool (decide (a<b))):=by
 have:=B6o (P:=P) (w:=w) ho hx hy
 rwa [B9p] at this
theorem zU {t u:TypeId}{x y:Operand}{a b:Int}(ho:o.op=.binOp .add t x y u)(hx:ev L x=some (int a))(hy:ev L y=some (int b))(h1:-9223372036854775808≤a+b)(h2:a+b≤9223372036854775807):Val P L w o (int (a+b)):=C2j ho hx hy h1 h2
theorem zV {t u:TypeId}{x y:Operand}{a b:Int}(ho:o.op=.binOp .sub t x y u)(hx:ev L x=some (int a))(hy:ev L y=some (int b))(h1:-9223372036854775808≤a-b)(h2:a-b≤9223372036854775807):Val P L w o (int (a-b)):=D5d ho hx hy h1 h2
theorem zW {t u:TypeId}{x y:Operand}{a b:Int}(ho:o.op=.binOp .mul t x y u)(hx:ev L x=some (int a))(hy:ev L y=some (int b))(h1:-9223372036854775808≤a*b)(h2:a*b≤9223372036854775807):Val P L w o (int (a*b)):=D5j ho hx hy h1 h2
end
theorem Row.cellAt {w:World}{b j:Nat}{e:TypeId}{cs:List Value}{v:Value}(h:Row w b e cs)(hv:cs[j]?=some v):w.cell? ⟨b,j,none⟩=some v:=by rw [h.cell,hv]
theorem At.cellAt {w:World}{b off j:Nat}{cs:List Value}{v:Value}(h:At w b off cs)(hv:cs[j]?=some v):w.cell? ⟨b,off+j,none⟩=some v:=h j v hv
section
theorem eqZ {P:Program}{n:Nat}{ops rest:List Oper}{Q:Post}{L:List (Nat × Value)}{w:World}{o:Oper}{d:Nat}{v:Value}(hg:gst ops L o=some true:=by exact rfl)(hd:odst n o.dst=some d:=by exact rfl)(h:Val P L w o v:=by first|exact zA rfl rfl|exact zB rfl rfl|exact zK rfl rfl|exact zJ rfl rfl|exact zC rfl rfl rfl|exact zD rfl rfl rfl|exact zE rfl rfl|exact zF rfl rfl rfl|exact zH rfl rfl|exact zG rfl rfl|exact zU rfl rfl rfl (by omega) (by omega)|exact zV rfl rfl rfl (by omega) (by omega)|exact zW rfl rfl rfl (by omega) (by omega)|exact zI rfl rfl rfl rfl):EL P n ops Q rest ((d,v)::L) w→EL P n ops Q (o::rest) L w:=eV hg hd h
theorem eqY {P:Program}{n:Nat}{ops rest:List Oper}{Q:Post}{L:List (Nat × Value)}{w:World}{o:Oper}{d:Nat}{v:Value}(hg:gst ops L o=some true:=by exact rfl)(hd:odst n o.dst=some d:=by exact rfl)(h:Val P L w o v:=by first|exact B5 rfl rfl rfl (Row.cellAt (by assumption) (by rfl))|exact M8 rfl rfl rfl (Row.at (by assumption)) (by rfl)|exact B5 rfl rfl rfl (At.cellAt (by assumption) (by rfl))|exact M8 rfl rfl rfl (by assumption) (by rfl)|exact B5 rfl rfl rfl (by assumption)):EL P n ops Q rest ((d,v)::L) w→EL P n ops Q (o::rest) L w:=eV hg hd h
theorem Sy {s g:Prop}(h:s)(hp:s→g:=by first|exact eN|exact eqZ|exact eO rfl rfl|exact B0q|exact K_in|exact B0p|exact A6y|exact A1k|exact B4d|exact K_in_exit' rfl|exact J2|exact H8|exact C0a rfl|exact C0b rfl|exact C5w|exact D4r|exact G2y|exact D4s|exact K_rnd_ret|exact K_rnd_exit|exact K_mid_ret|exact K_mid_exit):g:=hp h
theorem Ly {s g:Prop}(h:s)(hp:s→g:=by first|exact eN|exact eqY|exact eqZ|exact eO rfl rfl|exact B0q|exact K_in|exact B0p|exact A6y|exact A1k|exact B4d|exact K_in_exit' rfl|exact J2|exact H8|exact C0a rfl|exact C0b rfl|exact C5w|exact D4r|exact G2y|exact D4s|exact K_rnd_ret|exact K_rnd_exit|exact K_mid_ret|exact K_mid_exit):g:=hp h
theorem cqC {P:Program}{n:Nat}{ops rest:List Oper}{Q:Post}{L:List (Nat × Value)}{w:World}{o:Oper}{d:Nat}{f:FuncId}{v:Value}{vs:List Value}{xs:List Operand}{ts:Array TypeId}(hc:Calls P f vs.toArray w (Rt fun u w'=>u=v∧Ext w w'))(he:∀args w,(callFunc f args).run P w=.ok (.enter f args) w)(k:∀w',Ext w w'→EL P n ops Q rest ((d,v)::L) w')(hg:gst ops L o=some true:=by exact rfl)(hd:odst n o.dst=some d:=by exact rfl)(ho:o.op=.call {callee:=.value (.func f),args:=xs.toArray,argTypes:=ts}:=by exact rfl)(hx:evl L xs=some vs:=by exact rfl):EL P n ops Q (o::rest) L w:=D7 hg hd (D5 ho hx he) hc fun _ w' hh=>by obtain ⟨rfl,x⟩:=hh;exact k w' x
theorem Dy {P:Program}{n:Nat}{ops rest:List Oper}{Q:Post}{L:List (Nat × Value)}{w:World}{o:Oper}{d:Nat}{p:Prop}{dp:Decidable p}(ht:p→EL P n ops Q rest ((d,.bool true)::L) w)(hf:¬p→EL P n ops Q rest ((d,.bool false)::L) w)(hg:gst ops L o=some true:=by exact rfl)(hd:odst n o.dst=some d:=by exact rfl)(h:Val P L w o (.bool (@decide p dp)):=by first|exact zL rfl rfl rfl|exact zM rfl rfl rfl|exact zN rfl rfl rfl|exact zO rfl rfl rfl|exact zP rfl rfl rfl|exact zQ rfl rfl rfl|exact zR rfl rfl rfl|exact zS rfl rfl rfl|exact zT rfl rfl rfl):EL P n ops Q (o::rest) L w:=eD hg hd h ht hf
theorem yqZ {P:Program}{n:Nat}{ops rest tl:List Oper}{Q:Post}{G:List (Nat × Ent)}{w0:World}{o:Oper}{d:Nat}{v:Value}(k:RQ P n ops w0 Q rest tl ((d,.v v)::G))(hg:ggst ops G o=some true:=by exact rfl)(hd:odst n o.dst=some d:=by exact rfl)(h:∀w δ,Ext w0 w→Val P (mat δ G) w o v:=by intro _ _ _;first|exact zA rfl rfl|exact zB rfl rfl|exact zK rfl rfl|exact zJ rfl rfl|exact zC rfl rfl rfl|exact zD rfl rfl rfl|exact zE rfl rfl|exact zF rfl rfl rfl|exact zH rfl rfl|exact zG rfl rfl|exact zU rfl rfl rfl (by omega) (by omega)|exact zV rfl rfl rfl (by omega) (by omega)|exact zW rfl rfl rfl (by omega) (by omega)|exact zI rfl rfl rfl rfl):RQ P n ops w0 Q (o::rest) tl G:=yV hg hd h k
theorem yqY {P:Program}{n:Nat}{ops rest tl:List Oper}{Q:Post}{G:List (Nat × Ent)}{w0:World}{o:Oper}{d:Nat}{v:Value}(k:RQ P n ops w0 Q rest tl ((d,.v v)::G))(hg:ggst ops G o=some true:=by exact rfl)(hd:odst n o.dst=some d:=by exact rfl)(h:∀w δ,Ext w0 w→Val P (mat δ G) w o v:=by intro _ _ xq;first|exact B5 rfl rfl rfl ((Row.ext (by assumption) xq).cellAt (by rfl))|exact M8 rfl rfl rfl (Row.ext (by assumption) xq).at (by rfl)|exact B5 rfl rfl rfl ((At.ext (by assumption) xq).cellAt (by rfl))|exact M8 rfl rfl rfl (At.ext (by assumption) xq) (by rfl)|exact B5 rfl rfl rfl (Ext.cell xq (by assumption))):RQ P n ops w0 Q (o::rest) tl G:=yV hg hd h k
end
end Go.En
namespace Go.Dl
open Go.RowKit Go.En
def LA (o:Oper)(a:Act):List (Nat × Value):=o.op.operands.toList.filterMap fun | .tmp t=>some (t,a.eval (.tmp t))|_=>none
theorem B9x (f : Nat → Value) : ∀ (l : List Operand) (t : Nat), .tmp t ∈ l → lk (l.filterMap fun | .tmp t => some (t, f t) | _ => none) t = some (f t)
 | [],_,h=>by simp at h
 | x :: r, t, h => by
  cases x with
  | tmp s=>
   simp only [List.filterMap_cons,lk]
   cases hb:Nat.beq s t with
   | true=>have:=Nat.eq_of_beq_eq_true hb;subst this;rfl
   | false=>
    rcases List.mem_cons.1 h with h|h
    ·cases h;simp at hb
    ·exact B9x f r t h
  | const v=>exact B9x f r t (by simpa using h)
  | global g=>exact B9x f r t (by simpa using h)
  | func g=>exact B9x f r t (by simpa using h)
theorem C5 {o:Oper}{a:Act}{x:Operand}(hx:x∈o.op.operands):ev (LA o a) x=some (a.eval x):=by
 cases x with
 | tmp t=>exact B9x (fun t=>a.eval (.tmp t)) _ t (by simpa using hx)
 | const v=>rfl
 | global g=>rfl
 | func f=>rfl
theorem S1 (o:Oper)(a:Act):Agree (LA o a) o a.eval:=fun x hx v hv=>by
 rw [C5 hx] at hv
 exact Option.some.inj hv
def svs:List Lf→Option (List Value)
 | []=>some []
 | .d (.v v)::r=>match svs r with|some vs=>some (v::vs)|none=>none
 | _::_=>none
def sv:Lf→Option Value
 | .d (.v v)=>some v
 | .g cs=>match svs cs with|some vs=>some (.agg vs.toArray)|none=>none
 | _=>none
theorem D9a {γ:Gh}{G:Nat→Prop}{w:World}{one:Bool}:∀ {cs:List Lf} {vs us:List Value},svs cs=some vs→LR.LsR γ G w one cs us→us=vs
 | [],vs,us,h,e=>by simp only [svs,Option.some.injEq] at h;subst h;rw [LR.LsR] at e;exact e
 | .d (.v v)::r,vs,us,h,e=>by
  rw [svs] at h
  split at h
  ·rename_i q hq
   cases h
   rw [LR.LsR] at e
   obtain⟨u,us',rfl,_,h3,h4⟩:=e
   rw [LR,DR] at h3
   rw [h3,D9a hq h4]
  ·cases h
 | .d (.s _ _)::_,_,_,h,_=>by simp [svs] at h
 | .d (.p _)::_,_,_,h,_=>by simp [svs] at h
 | .d (.i _ _)::_,_,_,h,_=>by simp [svs] at h
 | .d (.g _)::_,_,_,h,_=>by simp [svs] at h
 | .d (.t _)::_,_,_,h,_=>by simp [svs] at h
 | .o _ _::_,_,_,h,_=>by simp [svs] at h
 | .p _ _ _::_,_,_,h,_=>by simp [svs] at h
 | .m _::_,_,_,h,_=>by simp [svs] at h
 | .w ..::_,_,_,h,_=>by simp [svs] at h
 | .f _ _::_,_,_,h,_=>by simp [svs] at h
 | .g _::_,_,_,h,_=>by simp [svs] at h
 | .t _::_,_,_,h,_=>by simp [svs] at h
theorem sv_r {γ:Gh}{G:Nat→Prop}{w:World}{x:Lf}{v u:Value}(h:sv x=some v)(e:LR γ G w x u):u=v:=by
 unfold sv at h
 split at h
 ·cases h;rw [LR,DR] at e;exact e
 ·split at h
  ·rename_i vs hvs
   cases h
   rw [LR] at e
   obtain⟨us,h1,h2⟩:=e
   rw [h1,D9a hvs h2]
  ·cases h
 ·cases h
def pk (F:Fr)(o:Oper):List (Nat × Value):=o.op.operands.toList.filterMap fun | .tmp t=>(match lf F t with|some x=>(match sv x with|some v=>some (t,v)|none=>none)|none=>none)|_=>none
theorem B2b (F : Fr) : ∀ (l : List Operand) (t : Nat) (v : Value), lk (l.filterMap fun | .tmp t => (match lf F t with | some x => (match sv x with | some v => some (t, v) | none => none) | none => none) | _ => none) t = some v → ∃ x, lf F t = some x ∧ sv x = some v
 | [],_,_,h=>by simp [lk] at h
 | x :: r, t, v, h => by
  cases x with
  | tmp s =>
   rw [List.filterMap_cons] at h
   dsimp only at h
   split at h
   ·exact B2b F r t v h
   ·rename_i y hy
    split at hy
    ·rename_i z hz
     split at hy
     ·rename_i q hq
      cases hy
      simp only [lk] at h
      cases hb:Nat.beq s t with
      | true=>have:=Nat.eq_of_beq_eq_true hb;subst this;rw [hb] at h;cases h;exact⟨z,hz,hq⟩
      | false=>rw [hb] at h;exact B2b F r t v h
     ·cases hy
    ·cases hy
  | const v=>exact B2b F r t _ (by simpa using h)
  | global g=>exact B2b F r t _ (by simpa using h)
  | func g=>exact B2b F r t _ (by simpa using h)
theorem A0q {F:Fr}{o:Oper}{γ:Gh}{G:Nat→Prop}{w:World}{a:Act}(h:Args F o γ G w a):Agree (pk F o) o a.eval:=fun x hx v hv=>by
 cases x with
 | tmp t=>
  obtain⟨y,h1,h2⟩:=B2b F _ t v hv
  exact sv_r h2 (h (.tmp t) hx y h1)
 | const u=>simp only [ev,Option.some.injEq] at hv;subst hv;rfl
 | global g=>simp only [ev,Option.some.injEq] at hv;subst hv;rfl
 | func g=>simp only [ev,Option.some.injEq] at hv;subst hv;rfl
section
variable {P : Program}{o : Oper}{F : Fr}{H : Hp}{ks : List Nat}
theorem LS_v {x:Lf}(h:∀ γ G w a,Args F o γ G w a→HW γ G ks H w→∃ v,Val P (LA o a) w o v∧LR γ G w x v):LS P o F H ks (some x) []:=fun γ G w a ha hw K Q hK=>by
 obtain⟨v,h1,h2⟩:=h γ G w a ha hw
 unfold Oper.wp
 rw [h1 a.eval (S1 o a)]
 exact hK _ _ _ _ (Evo.none hw.glt fun y hy=>by cases hy;exact h2)
theorem A7 {v:Value}(h:∀ w,Val P (pk F o) w o v):LS P o F H [] (some (.d (.v v))) []:=fun γ G w a ha hw K Q hK=>by
 unfold Oper.wp
 rw [h w a.eval (A0q ha)]
 exact hK _ _ _ _ (Evo.none hw.glt fun y hy=>by cases hy;rw [LR,DR])
theorem C3s {x:Operand}{y:Lf}(ho:o.op=.move x)(hx:ef F x=some y):LS P o F H [] (some y) []:=LS_v fun γ G w a ha _=>by
 have hm:x∈o.op.operands:=by rw [ho];simp [Op.operands]
 exact⟨_,A7t ho (C5 hm),ha x hm y hx⟩
theorem B2t {x:Operand}{y:Lf}(ho:o.op=.assign x)(hx:ef F x=some y):LS P o F H [] (some y) []:=LS_v fun γ G w a ha _=>by
 have hm:x∈o.op.operands:=by rw [ho];simp [Op.operands]
 exact⟨_,A7v ho (C5 hm),ha x hm y hx⟩
theorem C3q {c x z:Operand}{b:Bool}{y:Lf}(ho:o.op=.pick c x z)(hc:ef F c=some (.d (.v (.bool b))))(hx:(bif b then ef F x else ef F z)=some y):LS P o F H [] (some y) []:=LS_v fun γ G w a ha _=>by
 have hm:∀ q,q=c∨q=x∨q=z→q∈o.op.operands:=fun q hq=>by rw [ho];simpa [Op.operands] using hq
 have h1:=ha c (hm c (.inl rfl)) _ hc
 rw [LR,DR] at h1
 have h2:=C5 (a:=a) (hm c (.inl rfl))
 rw [h1] at h2
 cases b with
 | true=>exact⟨_,A7r ho h2 (C5 (hm x (.inr (.inl rfl)))),ha x (hm x (.inr (.inl rfl))) y hx⟩
 | false=>exact⟨_,A7s ho h2 (C5 (hm z (.inr (.inr rfl)))),ha z (hm z (.inr (.inr rfl))) y hx⟩
theorem C3t {t:TypeId}{d:TypeDesc}{x:Operand}{cells:List Dt}{y:Dt}[UT P t d](ho:o.op=.load t x)(hd:K1 d=false)(hx:ef F x=some (.d (.p cells)))(hc:cells[0]?=some y):LS P o F H [] (some (.d y)) []:=LS_v fun γ G w a ha _=>by
 have hm:x∈o.op.operands:=by rw [ho];simp [Op.operands]
 have h1:=ha x hm _ hx
 rw [LR,DR] at h1
 obtain⟨b,off,h2,_,h3⟩:=h1
 obtain⟨us,h4,h5⟩:=cells_at h3
 obtain⟨u,h6,_,h7⟩:=A7q h5 hc
 have h8:=C5 (a:=a) hm
 rw [h2] at h8
 refine⟨u,B5 ho hd h8 (by have:=h4 0 u h6;simpa using this),by rw [LR];exact h7⟩
theorem A9a {t:TypeId}{d:TypeDesc}{x:Operand}{cells:List Dt}{z:Value}{size bytes:Nat}[UT P t d][TI P t z size bytes](ho:o.op=.load t x)(hd:K1 d=true)(hx:ef F x=some (.d (.p cells)))(hl:Nat.ble size cells.length=true):LS P o F H [] (some (.g ((cells.take size).map .d))) []:=LS_v fun γ G w a ha _=>by
 have hm:x∈o.op.operands:=by rw [ho];simp [Op.operands]
 have h1:=ha x hm _ hx
 rw [LR,DR] at h1
 obtain⟨b,off,h2,_,h3⟩:=h1
 obtain⟨us,h4,h5⟩:=cells_at (C1r (k:=size) h3)
 have h8:=C5 (a:=a) hm
 rw [h2] at h8
 have hle:=Nat.le_of_ble_eq_true hl
 refine⟨_,M8 ho hd h8 h4 (by rw [vals_len h5,List.length_take,Nat.min_eq_left hle];try exact Nat.beq_refl _),?_⟩
 rw [LR]
 exact⟨us,rfl,B0n h5⟩
def obc:Ob→Option (Nat × List Lf)
 | .box _ cs=>some (0,cs)
 | .ls _ _ n rows=>some (n,rows.flatten.map .d)
 | _=>none
theorem C1b {γ:Gh}{G:Nat→Prop}{w:World}{k n:Nat}{ob:Ob}{cs:List Lf}(h:OR γ G w k ob)(hc:obc ob=some (n,cs)):(γ k).2=n∧∃ vs,LR.LsR γ G w true cs vs∧(blk (γ k).1=none→vs=[])∧∀ b,blk (γ k).1=some b→At w b 0 vs:=by
 cases ob with
 | box t cs'=>
  obtain⟨h1,b,vs,h2,h3,h4⟩:=h
  simp only [obc,Option.some.injEq,Prod.mk.injEq] at hc
  obtain⟨rfl,rfl⟩:=hc
  refine⟨h1,vs,h4,?_,?_⟩
  ·intro e
   rw [h2] at e;cases e
  ·intro b' hb
   rw [h2] at hb;cases hb;exact h3.at
 | ls t sz m rows=>
  obtain⟨h1,_,vs,h2,h4⟩:=h
  simp only [obc,Option.some.injEq,Prod.mk.injEq] at hc
  obtain⟨rfl,rfl⟩:=hc
  refine⟨h1,vs,B0n h4,?_,?_⟩
  ·intro e
   rcases O0 h2 with⟨_,_,h5⟩|⟨b,cap,h5,_⟩
   ·exact h5
   ·rw [h5] at e;cases e
  ·intro b hb
   rcases O0 h2 with⟨h5,_,_⟩|⟨b',cap,h5,_,_,_,h6⟩
   ·rw [h5] at hb;cases hb
   ·rw [h5] at hb;cases hb;exact h6
 | it l p=>cases hc
 | mp kd es=>cases hc
 | dead=>cases hc
theorem Z4 {γ:Gh}{G:Nat→Prop}{w:World}{k n off:Nat}{ob:Ob}{cs:List Lf}{u:Value}(h:OR γ G w k ob)(hc:obc ob=some (n,cs))(hu:LR γ G w (.p k n off) u):∃ b vs,blk (γ k).1=some b∧u=.pointer (some ⟨b,off,none⟩)∧LR.LsR γ G w true cs vs∧At w b 0 vs:=by
 obtain⟨h1,vs,h2,h3,h4⟩:=C1b h hc
 rw [LR] at hu
 obtain⟨b,h5,h6⟩:=hu.2 h1.symm
 exact⟨b,vs,h5,h6,h2,h4 b h5⟩
theorem C5j {w:World}{b:Nat}{vs:List Value}(h:At w b 0 vs)(k:Nat):At w b k (vs.drop k):=fun j v hv=>by
 have:=h (k+j) v (by rw [List.getElem?_drop] at hv;exact hv)
 rwa [Nat.zero_add] at this
theorem B6c {w:World}{b off:Nat}{vs:List Value}(h:At w b off vs)(k:Nat):At w b off (vs.take k):=fun j v hv=>by
 have hj:j<(vs.take k).length:=(List.getElem?_eq_some_iff.1 hv).1
 rw [List.getElem?_take_of_lt (by simp at hj;omega)] at hv
 exact h j v hv
theorem B8g {t:TypeId}{d:TypeDesc}{x:Operand}{k n off:Nat}{ob:Ob}{cs:List Lf}{y:Lf}[UT P t d](ho:o.op=.load t x)(hd:K1 d=false)(hx:ef F x=some (.p k n off))(hk:lo H k=some ob)(hob:obc ob=some (n,cs))(hc:cs[off]?=some y):LS P o F H [k] (some y) []:=LS_v fun γ G w a ha hw=>by
 have hm:x∈o.op.operands:=by rw [ho];simp [Op.operands]
 obtain⟨b,vs,h1,h2,h3,h4⟩:=Z4 (hw.obj k (List.mem_singleton.2 rfl) ob hk) hob (ha x hm _ hx)
 obtain⟨u,h6,_,h7⟩:=A1i h3 hc
 have h8:=C5 (a:=a) hm
 rw [h2] at h8
 exact⟨u,B5 ho hd h8 (by have:=h4 off u h6;simpa using this),h7⟩
theorem A1t {t:TypeId}{d:TypeDesc}{x:Operand}{k n off:Nat}{ob:Ob}{cs:List Lf}{z:Value}{size bytes:Nat}[UT P t d][TI P t z size bytes](ho:o.op=.load t x)(hd:K1 d=true)(hx:ef F x=some (.p k n off))(hk:lo H k=some ob)(hob:obc ob=some (n,cs))(hl:Nat.ble (off+size) cs.length=true):LS P o F H [k] (some (.g ((cs.drop off).take size))) []:=LS_v fun γ G w a ha hw=>by
 have hm:x∈o.op.operands:=by rw [ho];simp [Op.operands]
 obtain⟨b,vs,h1,h2,h3,h4⟩:=Z4 (hw.obj k (List.mem_singleton.2 rfl) ob hk) hob (ha x hm _ hx)
 have h8:=C5 (a:=a) hm
 rw [h2] at h8
 have hle:=Nat.le_of_ble_eq_true hl
 have h5:=A4y (k:=size) (A4z (k:=off) h3)
 refine⟨_,M8 ho hd h8 (B6c (C5j h4 off) size) (by rw [A0c h5,List.length_take,List.length_drop,Nat.min_eq_left (by omega)];try exact Nat.beq_refl _),?_⟩
 rw [LR]
 exact⟨_,rfl,h5⟩
theorem B8f {t:TypeId}{d:TypeDesc}{x:Operand}{k n:Nat}{ob:Ob}{cs:List Lf}{z:Value}{size bytes:Nat}[UT P t d][TI P t z size bytes](ho:o.op=.load t x)(hd:K1 d=true)(hx:ef F x=some (.p k n 0))(hk:lo H k=some ob)(hob:obc ob=some (n,cs))(hl:Nat.beq cs.length size=true):LS P o F H [k] (some (.g cs)) []:=by
 have h2:=Nat.eq_of_beq_eq_true hl
 have:=A1t (P:=P) (F:=F) (H:=H) ho hd hx hk hob (by rw [Nat.zero_add,h2];exact Nat.ble_eq_true_of_le (Nat.le_refl _))
 rwa [List.drop_zero,List.take_of_length_le (by omega)] at this
theorem B8h {t:TypeId}{d:TypeDesc}{x:Operand}{cells:List Dt}{z:Value}{size bytes:Nat}[UT P t d][TI P t z size bytes](ho:o.op=.load t x)(hd:K1 d=true)(hx:ef F x=some (.d (.p cells)))(hl:Nat.beq cells.length size=true):LS P o F H [] (some (.g (cells.map .d))) []:=by
 have h2:=Nat.eq_of_beq_eq_true hl
 have:=A9a (P:=P) (F:=F) (H:=H) ho hd hx (by rw [h2];exact Nat.ble_eq_true_of_le (Nat.le_refl _))
 rwa [List.take_of_length_le (by omega)] at this
theorem A4d {t:TypeId}{x:Operand}{f fo:Nat}{ft:TypeId}{z:Value}{size bytes:Nat}{cells:List Dt}[SF P t f fo ft][TI P ft z (size+1) bytes](ho:o.op=.fieldAddr t x f)(hx:ef F x=some (.d (.p cells))):LS P o F H [] (some (.d (.p (cells.drop fo)))) []:=LS_v fun γ G w a ha _=>by
 have hm:x∈o.op.operands:=by rw [ho];simp [Op.operands]
 have h1:=ha x hm _ hx
 rw [LR,DR] at h1
 obtain⟨b,off,h2,hG,h3⟩:=h1
 have h8:=C5 (a:=a) hm
 rw [h2] at h8
 refine⟨_,W5 (ft:=ft) ho h8,?_⟩
 rw [LR,DR]
 exact⟨b,off+fo,rfl,hG,C1s h3⟩
theorem A2p {t:TypeId}{x:Operand}{f fo:Nat}{ft:TypeId}{z:Value}{size bytes:Nat}{k n off:Nat}{ob:Ob}{cs:List Lf}[SF P t f fo ft][TI P ft z (size+1) bytes](ho:o.op=.fieldAddr t x f)(hx:ef F x=some (.p k n off))(hk:lo H k=some ob)(hob:obc ob=some (n,cs)):LS P o F H [k] (some (.p k n (off+fo))) []:=LS_v fun γ G w a ha hw=>by
 have hm:x∈o.op.operands:=by rw [ho];simp [Op.operands]
 obtain⟨b,vs,h1,h2,h3,h4⟩:=Z4 (hw.obj k (List.mem_singleton.2 rfl) ob hk) hob (ha x hm _ hx)
 have h8:=C5 (a:=a) hm
 rw [h2] at h8
 refine⟨_,W5 (ft:=ft) ho h8,?_⟩
 have h9:=(C1b (hw.obj k (List.mem_singleton.2 rfl) ob hk) hob).1
 rw [LR]
 exact⟨⟨Nat.le_of_eq h9.symm,rfl⟩,fun _=>⟨b,h1,rfl⟩⟩
theorem B8i {t:TypeId}{x:Operand}{cs:List Lf}{f fo:Nat}{ft:TypeId}{d:TypeDesc}{y:Lf}[SF P t f fo ft][UT P ft d](ho:o.op=.field t x f)(hd:K1 d=false)(hx:ef F x=some (.g cs))(hc:cs[fo]?=some y):LS P o F H [] (some y) []:=LS_v fun γ G w a ha _=>by
 have hm:x∈o.op.operands:=by rw [ho];simp [Op.operands]
 have h1:=ha x hm _ hx
 rw [LR] at h1
 obtain⟨vs,h2,h3⟩:=h1
 obtain⟨u,h6,_,h7⟩:=A1i h3 hc
 have h8:=C5 (a:=a) hm
 rw [h2] at h8
 exact⟨u,C6b ho hd h8 h6,h7⟩
theorem B2r {t:TypeId}{x:Operand}{cs:List Lf}{f fo:Nat}{ft:TypeId}{d:TypeDesc}{z:Value}{size bytes:Nat}[SF P t f fo ft][UT P ft d][TI P ft z size bytes](ho:o.op=.field t x f)(hd:K1 d=true)(hx:ef F x=some (.g cs)):LS P o F H [] (some (.g ((cs.drop fo).take size))) []:=LS_v fun γ G w a ha _=>by
 have hm:x∈o.op.operands:=by rw [ho];simp [Op.operands]
 have h1:=ha x hm _ hx
 rw [LR] at h1
 obtain⟨vs,h2,h3⟩:=h1
 have h8:=C5 (a:=a) hm
 rw [h2] at h8
 refine⟨_,C0k ho hd h8,?_⟩
 rw [LR]
 exact⟨_,rfl,A4y (A4z h3)⟩
theorem A9b {x:Operand}{i:Nat}{xs:List Lf}{y:Lf}(ho:o.op=.extract x i)(hx:ef F x=some (.t xs))(hv:xs[i]?=some y):LS P o F H [] (some y) []:=LS_v fun γ G w a ha _=>by
 have hm:x∈o.op.operands:=by rw [ho];simp [Op.operands]
 have h1:=ha x hm _ hx
 rw [LR] at h1
 obtain⟨vs,h2,h3⟩:=h1
 obtain⟨u,h6,_,h7⟩:=A1i h3 hv
 have h8:=C5 (a:=a) hm
 rw [h2] at h8
 exact⟨u,A5y ho h8 h6,h7⟩
theorem A4c {x:Operand}{k n off:Nat}{ob:Ob}{cs:List Lf}(ho:o.op=.nilCheck x)(hx:ef F x=some (.p k n off))(hk:lo H k=some ob)(hob:obc ob=some (n,cs)):LS P o F H [k] (some (.p k n off)) []:=LS_v fun γ G w a ha hw=>by
 have hm:x∈o.op.operands:=by rw [ho];simp [Op.operands]
 obtain⟨b,vs,h1,h2,h3,h4⟩:=Z4 (hw.obj k (List.mem_singleton.2 rfl) ob hk) hob (ha x hm _ hx)
 have h8:=C5 (a:=a) hm
 rw [h2] at h8
 have h9:=ha x hm _ hx
 rw [h2] at h9
 exact⟨_,Z1 ho h8,h9⟩
theorem A6h {x:Operand}{cells:List Dt}(ho:o.op=.nilCheck x)(hx:ef F x=some (.d (.p cells))):LS P o F H [] (some (.d (.p cells))) []:=LS_v fun γ G w a ha hw=>by
 have hm:x∈o.op.operands:=by rw [ho];simp [Op.operands]
 have h1:=ha x hm _ hx
 have h9:=h1
 rw [LR,DR] at h1
 obtain⟨b,off,h2,hG,h3⟩:=h1
 have h8:=C5 (a:=a) hm
 rw [h2] at h8 h9
 exact⟨_,Z1 ho h8,h9⟩
theorem A2 {t e:TypeId}{x i:Operand}{k:IntKind}{zi:Int}{m:Nat}{zv:Value}{bytes sz:Nat}{rows:List (List Dt)}{r:List Dt}[UT P t (.slice e)][TI P e zv sz bytes](ho:o.op=.indexAddr t x i)(hx:ef F x=some (.d (.s sz rows)))(hi:ef F i=some (.d (.v (.int k zi))))(hz:zi=(m:Int))(hr:rows[m]?=some r):LS P o F H [] (some (.d (.p r))) []:=LS_v fun γ G w a ha _=>by
 have hm:x∈o.op.operands:=by rw [ho];simp [Op.operands]
 have hm':i∈o.op.operands:=by rw [ho];simp [Op.operands]
 have h1:=ha x hm _ hx
 rw [LR,DR] at h1
 obtain⟨p,cap,h2,h3,h4,h5⟩:=h1
 have hlt:m<rows.length:=(List.getElem?_eq_some_iff.1 hr).1
 obtain⟨b,off,rfl,hG,h6⟩:=h5 (by omega)
 have h7:=ha i hm' _ hi
 rw [LR,DR] at h7
 have h8:=C5 (a:=a) hm
 have h9:=C5 (a:=a) hm'
 rw [h2] at h8
 rw [h7] at h9
 refine⟨_,B7 ho h8 h9 hz hlt,?_⟩
 rw [LR,DR]
 exact⟨b,_,rfl,hG,(A8o h6 hr).2⟩
theorem own_sl {γ:Gh}{G:Nat→Prop}{w:World}{k n:Nat}{t:TypeId}{sz:Nat}{rows:List (List Dt)}{u:Value}(h:OR γ G w k (.ls t sz n rows))(hu:LR γ G w (.o k n) u):u=(γ k).1∧∃ vs,w.ownsRow 0 t sz u rows.length vs∧DR.valsR G w true rows.flatten vs:=by
 obtain⟨h1,_,vs,h2,h3⟩:=h
 rw [LR] at hu
 have:=hu.2 h1.symm
 subst this
 exact⟨rfl,vs,h2,h3⟩
theorem A8 {t e:TypeId}{x i:Operand}{k:IntKind}{zi:Int}{m:Nat}{zv:Value}{bytes sz:Nat}{j n:Nat}{t':TypeId}{rows:List (List Dt)}[UT P t (.slice e)][TI P e zv sz bytes](ho:o.op=.indexAddr t x i)(hx:ef F x=some (.o j n))(hj:lo H j=some (.ls t' sz n rows))(hi:ef F i=some (.d (.v (.int k zi))))(hz:zi=(m:Int))(hlt:m<rows.length):LS P o F H [j] (some (.p j n (m*sz))) []:=LS_v fun γ G w a ha hw=>by
 have hm:x∈o.op.operands:=by rw [ho];simp [Op.operands]
 have hm':i∈o.op.operands:=by rw [ho];simp [Op.operands]
 have hOR:=hw.obj j (List.mem_singleton.2 rfl) _ hj
 obtain⟨h1,vs,h2,h3⟩:=own_sl hOR (ha x hm _ hx)
 have h7:=ha i hm' _ hi
 rw [LR,DR] at h7
 have h8:=C5 (a:=a) hm
 have h9:=C5 (a:=a) hm'
 rw [h7] at h9
 rcases O0 h2 with⟨_,h5,_⟩|⟨b,cap,h5,_,_,_,h6⟩
 ·omega
 ·rw [h5] at h8
  refine⟨_,B7 ho h8 h9 hz hlt,?_⟩
  rw [LR]
  refine⟨⟨Nat.le_of_eq hOR.1.symm,rfl⟩,fun _=>⟨b,by rw [← h1,h5];rfl,by simp⟩⟩
theorem C1e {t e:TypeId}{x:Operand}{sz m:Nat}{rows:List (List Dt)}[UT P t (.slice e)](ho:o.op=.call { callee:=.builtin .len,args:=#[x],argTypes:=#[t] })(hx:ef F x=some (.d (.s sz rows)))(hl:rows.length=m):LS P o F H [] (some (.d (.v (int m)))) []:=LS_v fun γ G w a ha _=>by
 have hm:x∈o.op.operands:=by rw [ho];simp [Op.operands,Call.operands]
 have h1:=ha x hm _ hx
 rw [LR,DR] at h1
 obtain⟨p,cap,h2,h3,h4,h5⟩:=h1
 have h8:=C5 (a:=a) hm
 rw [h2,hl] at h8
 exact⟨_,Z2 ho h8,by rw [LR,DR]⟩
theorem C3u {t e:TypeId}{x:Operand}{j n sz m:Nat}{t':TypeId}{rows:List (List Dt)}[UT P t (.slice e)](ho:o.op=.call { callee:=.builtin .len,args:=#[x],argTypes:=#[t] })(hx:ef F x=some (.o j n))(hj:lo H j=some (.ls t' sz n rows))(hl:rows.length=m):LS P o F H [j] (some (.d (.v (int m)))) []:=LS_v fun γ G w a ha hw=>by
 have hm:x∈o.op.operands:=by rw [ho];simp [Op.operands,Call.operands]
 obtain⟨h1,vs,h2,h3⟩:=own_sl (hw.obj j (List.mem_singleton.2 rfl) _ hj) (ha x hm _ hx)
 have h8:=C5 (a:=a) hm
 rw [hl] at h2
 rcases O0 h2 with⟨h5,h6,_⟩|⟨b,cap,h5,_⟩
 ·rw [h5] at h8
  rw [h6]
  exact⟨_,Z2 ho h8,by rw [LR,DR]⟩
 ·rw [h5] at h8
  exact⟨_,Z2 ho h8,by rw [LR,DR]⟩
end
end Go.Dl
