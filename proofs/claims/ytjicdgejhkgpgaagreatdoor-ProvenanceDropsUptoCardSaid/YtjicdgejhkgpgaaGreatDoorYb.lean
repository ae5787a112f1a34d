/-
  Own text of the proof.
-/
import Derived.Test.YtjicdgejhkgpgaaGreatDoorYa
import Derived.Test.YtjicdgejhkgpgaaGreatDoorG
set_option linter.all false
namespace Go.En
open Go.RowKit
def eN:=@A2b
def eO:=@EL_no
def eV:=@V5
def eD:=@EL_dec
def eL:=@EL_lit
def yN:=@RQ_fin
def yO:=@RQ_no
def yV:=@RQ_val
def yD:=@RQ_dec
def zA:=@B3e
def zB:=@M2
def zC:=@B6j
def zD:=@B6k
def zE:=@B9k
def zF:=@B3g
def zG:=@B0q
def zH:=@A8c
def zI:=@A3p
def zJ:=@B3f
def zK:=@A5x
def zL:=@val_lss
def zM:=@val_eql
def zN:=@val_leq
def zO:=@val_gtr
def zP:=@val_geq
def zQ:=@val_neq
def zR:=@B3b
def zS:=@B3a
section
variable {P : Program} {L : List (Nat × Value)} {w : World} {o : Oper}
theorem zU {t u:TypeId} {x y:Operand} {a b:Int} (ho:o.op=.binOp .add t x y u) (hx:ev L x=some (int a)) (hy:ev L y=some (int b)) (h1:-9223372036854775808≤a+b) (h2:a+b≤9223372036854775807):Val P L w o (int (a+b)):=A0x ho hx hy h1 h2
theorem zV {t u:TypeId} {x y:Operand} {a b:Int} (ho:o.op=.binOp .sub t x y u) (hx:ev L x=some (int a)) (hy:ev L y=some (int b)) (h1:-9223372036854775808≤a-b) (h2:a-b≤9223372036854775807):Val P L w o (int (a-b)):=B9h ho hx hy h1 h2
theorem zW {t u:TypeId} {x y:Operand} {a b:Int} (ho:o.op=.binOp .mul t x y u) (hx:ev L x=some (int a)) (hy:ev L y=some (int b)) (h1:-9223372036854775808≤a*b) (h2:a*b≤9223372036854775807):Val P L w o (int (a*b)):=B9l ho hx hy h1 h2
end
theorem Row.cellAt {w:World} {b j:Nat} {e:TypeId} {cs:List Value} {v:Value} (h:Row w b e cs) (hv:cs[j]?=some v):w.cell? ⟨b,j,none⟩=some v:=by rw [h.cell,hv]
theorem At.cellAt {w:World} {b off j:Nat} {cs:List Value} {v:Value} (h:At w b off cs) (hv:cs[j]?=some v):w.cell? ⟨b,off+j,none⟩=some v:=h j v hv
theorem A9m {P:Program} {n:Nat} {L:List (Nat × Value)} {w:World} {fn:Func} {S:Value→World→Prop} {s:Tmp} {ty:TypeId} {d:TypeDesc} {b off:Nat} {cs:List Value} {z:Value} {size bytes:Nat} [UT P ty d] [TI P ty z size bytes] (hr:fn.results=#[.cell s ty])
    (hd:Y6 d=true) (hv:lk L s=some (.pointer (some ⟨b,off,none⟩))) (hc:At w b off cs) (hl:Nat.beq cs.length size=true) (hs:S (.agg cs.toArray) w):K n (bodyPost P fn (Rt S)) .ret L w:=fun a ha=>by
  refine⟨ha.nod,.agg cs.toArray,?_,_,rfl,hs⟩
  have h1:=ha.get s _ hv
  have h3:=O0 (P:=P) (t:=ty) w
  rw [hd] at h3
  obtain⟨i0,hi0,_,hsz,_⟩:=Q1 (P:=P) (t:=ty) w
  have h4:=run_loadCells_list (P:=P) w ⟨b,off,none⟩ cs (fun j v hv=>by rw [D2];exact hc j v hv)
  rw [Nat.eq_of_beq_eq_true hl] at h4
  unfold loadCells at h4
  simp [results,hr,Array.getD_eq_getD_getElem?,h1,Instr.loadAt,Instr.sureAddr,loadVar,go_sem,h3,sizeOf,hi0,hsz,h4]
section
theorem eqZ {P:Program} {n:Nat} {ops rest:List Oper} {Q:Post} {L:List (Nat × Value)} {w:World} {o:Oper} {d:Nat} {v:Value} (hg:gst ops L o=some true:=by exact rfl) (hd:odst n o.dst=some d:=by exact rfl) (h:Val P L w o v:=by first|exact zA rfl rfl|exact zB rfl rfl|exact zK rfl rfl|exact zJ rfl rfl|exact zC rfl rfl rfl|exact zD rfl rfl rfl|exact zE rfl rfl|exact zF rfl rfl rfl|exact zH rfl rfl|exact zG rfl rfl|exact zU rfl rfl rfl (by omega) (by omega)|exact zV rfl rfl rfl (by omega) (by omega)|exact zW rfl rfl rfl (by omega) (by omega)|exact zI rfl rfl rfl rfl):EL P n ops Q rest ((d,v)::L) w→EL P n ops Q (o::rest) L w:=eV hg hd h
theorem eqY {P:Program} {n:Nat} {ops rest:List Oper} {Q:Post} {L:List (Nat × Value)} {w:World} {o:Oper} {d:Nat} {v:Value} (hg:gst ops L o=some true:=by exact rfl) (hd:odst n o.dst=some d:=by exact rfl) (h:Val P L w o v:=by first|exact A7 rfl rfl rfl (Row.cellAt (by assumption) (by rfl))|exact B8 rfl rfl rfl (Row.at (by assumption)) (by rfl)|exact A7 rfl rfl rfl (At.cellAt (by assumption) (by rfl))|exact B8 rfl rfl rfl (by assumption) (by rfl)|exact A7 rfl rfl rfl (by assumption)):EL P n ops Q rest ((d,v)::L) w→EL P n ops Q (o::rest) L w:=eV hg hd h
theorem Sy {s g:Prop} (h:s) (hp:s→g:=by first|exact eN|exact eqZ|exact eO rfl rfl|exact G8|exact K_in|exact A7t|exact A5g|exact A7u|exact B0l|exact A7v rfl|exact B4|exact A9|exact B5y rfl|exact B5z rfl|exact B2r|exact E_skip|exact C1g|exact E_exit|exact K_rnd_ret|exact K_rnd_exit|exact K_mid_ret|exact K_mid_exit):g:=hp h
theorem Ly {s g:Prop} (h:s) (hp:s→g:=by first|exact eN|exact eqY|exact eqZ|exact eO rfl rfl|exact G8|exact K_in|exact A7t|exact A5g|exact A7u|exact B0l|exact A7v rfl|exact B4|exact A9|exact B5y rfl|exact B5z rfl|exact B2r|exact E_skip|exact C1g|exact E_exit|exact K_rnd_ret|exact K_rnd_exit|exact K_mid_ret|exact K_mid_exit):g:=hp h
theorem cqC {P:Program} {n:Nat} {ops rest:List Oper} {Q:Post} {L:List (Nat × Value)} {w:World} {o:Oper} {d:Nat} {f:FuncId} {v:Value} {vs:List Value} {xs:List Operand} {ts:Array TypeId} (hc:Calls P f vs.toArray w (Rt fun u w'=>u=v∧Ext w w')) (he:∀args w,(callFunc f args).run P w=.ok (.enter f args) w) (k:∀w',Ext w w'→EL P n ops Q rest ((d,v)::L) w') (hg:gst ops L o=some true:=by exact rfl) (hd:odst n o.dst=some d:=by exact rfl) (ho:o.op=.call {callee:=.value (.func f),args:=xs.toArray,argTypes:=ts}:=by exact rfl) (hx:evl L xs=some vs:=by exact rfl):EL P n ops Q (o::rest) L w:=A8 hg hd (A5 ho hx he) hc fun _ w' hh=>by obtain ⟨rfl,x⟩:=hh;exact k w' x
theorem Dy {P:Program} {n:Nat} {ops rest:List Oper} {Q:Post} {L:List (Nat × Value)} {w:World} {o:Oper} {d:Nat} {p:Prop} {dp:Decidable p} (ht:p→EL P n ops Q rest ((d,.bool true)::L) w) (hf:¬p→EL P n ops Q rest ((d,.bool false)::L) w) (hg:gst ops L o=some true:=by exact rfl) (hd:odst n o.dst=some d:=by exact rfl) (h:Val P L w o (.bool (@decide p dp)):=by first|exact zL rfl rfl rfl|exact zM rfl rfl rfl|exact zN rfl rfl rfl|exact zO rfl rfl rfl|exact zP rfl rfl rfl|exact zQ rfl rfl rfl|exact zR rfl rfl rfl|exact zS rfl rfl rfl|exact zT rfl rfl rfl):EL P n ops Q (o::rest) L w:=eD hg hd h ht hf
theorem yqZ {P:Program} {n:Nat} {ops rest tl:List Oper} {Q:Post} {G:List (Nat × Ent)} {w0:World} {o:Oper} {d:Nat} {v:Value} (k:RQ P n ops w0 Q rest tl ((d,.v v)::G)) (hg:ggst ops G o=some true:=by exact rfl) (hd:odst n o.dst=some d:=by exact rfl) (h:∀w δ,Ext w0 w→Val P (mat δ G) w o v:=by intro _ _ _;first|exact zA rfl rfl|exact zB rfl rfl|exact zK rfl rfl|exact zJ rfl rfl|exact zC rfl rfl rfl|exact zD rfl rfl rfl|exact zE rfl rfl|exact zF rfl rfl rfl|exact zH rfl rfl|exact zG rfl rfl|exact zU rfl rfl rfl (by omega) (by omega)|exact zV rfl rfl rfl (by omega) (by omega)|exact zW rfl rfl rfl (by omega) (by omega)|exact zI rfl rfl rfl rfl):RQ P n ops w0 Q (o::rest) tl G:=yV hg hd h k
theorem yqY {P:Program} {n:Nat} {ops rest tl:List Oper} {Q:Post} {G:List (Nat × Ent)} {w0:World} {o:Oper} {d:Nat} {v:Value} (k:RQ P n ops w0 Q rest tl ((d,.v v)::G)) (hg:ggst ops G o=some true:=by exact rfl) (hd:odst n o.dst=some d:=by exact rfl) (h:∀w δ,Ext w0 w→Val P (mat δ G) w o v:=by intro _ _ xq;first|exact A7 rfl rfl rfl ((Row.ext (by assumption) xq).cellAt (by rfl))|exact B8 rfl rfl rfl (Row.ext (by assumption) xq).at (by rfl)|exact A7 rfl rfl rfl ((At.ext (by assumption) xq).cellAt (by rfl))|exact B8 rfl rfl rfl (At.ext (by assumption) xq) (by rfl)|exact A7 rfl rfl rfl (Ext.cell xq (by assumption))):RQ P n ops w0 Q (o::rest) tl G:=yV hg hd h k
theorem yqX {P:Program} {n:Nat} {ops rest tl:List Oper} {Q:Post} {G:List (Nat × Ent)} {w0:World} {o:Oper} {d:Nat} {p:Prop} {dp:Decidable p} (ht:p→RQ P n ops w0 Q rest tl ((d,.v (.bool true))::G)) (hf:¬p→RQ P n ops w0 Q rest tl ((d,.v (.bool false))::G)) (hg:ggst ops G o=some true:=by exact rfl) (hd:odst n o.dst=some d:=by exact rfl) (h:∀w δ,Ext w0 w→Val P (mat δ G) w o (.bool (@decide p dp)):=by intro _ _ _;first|exact zL rfl rfl rfl|exact zM rfl rfl rfl|exact zN rfl rfl rfl|exact zO rfl rfl rfl|exact zP rfl rfl rfl|exact zQ rfl rfl rfl|exact zR rfl rfl rfl|exact zS rfl rfl rfl|exact zT rfl rfl rfl):RQ P n ops w0 Q (o::rest) tl G:=yD hg hd h ht hf
end
end Go.En
namespace Go.Pv
def D4 (e:En):List (List Int):=e.form::e.alts
def getE (lex:List En) (id:Int):Option En:=lex.find? fun e=>e.id==id
def A5i (lex : List En) : Nat → Int → List Sns
  | 0,_=>[]
  | k+1,id=>match getE lex id with
    | none=>[]
    | some e=>if e.senses≠[] then e.senses else if e.main=0 then [] else A5i lex k e.main
def L6 (lex:List En) (id:Int):List Sns:=A5i lex (lex.length+1) id
structure Lx where
  net:Net
  lex:List En
  last:List Int→List Int
  most:Nat
def hitB (id:Int) (a:List Prt):Bool:=a.any fun p=>p.entry==id
def hereB (g:Lx) (w:List Int) (id:Int) (a:List Prt) (S:Int→Bool) (base:List Int):Bool:=
  !a.isEmpty&&(S6 g.net.states.toNat S (finB g.net)&&(w.length≤base.length&&((g.last base).length≠0&&g.last base=w)))&&hitB id a
def belB (g:Lx) (w:List Int) (id:Int):Nat→List Prt→(Int→Bool)→List Int→Bool
  | 0,_,_,_=>false
  | k + 1, a, S, base => g.lex.any fun e => (S6 g.net.states.toNat (aftB g.net.steps S e.cls) (fun _ => true) && (L6 g.lex e.id).length ≠ 0) &&
      (D4 e).zipIdx.any fun fi=>
        let b:=a++[⟨e.id,(fi.2:Int),0⟩]
        base.length+fi.1.length≤g.most&&(hereB g w id b (aftB g.net.steps S e.cls) (base++fi.1)||belB g w id k b (aftB g.net.steps S e.cls) (base++fi.1))
structure LxOK (g:Lx):Prop where
  net:NetOK g.net
  ids:(g.lex.map (·.id)).Nodup
  cls:∀ e∈g.lex,1≤e.cls∧e.cls≤20
  most:g.most≤24
end Go.Pv
namespace Go.Pv
def ltR (a b:Rf):Prop:=a.rcd<b.rcd∨a.rcd=b.rcd∧a.note<b.note
instance (a b:Rf):Decidable (ltR a b):=inferInstanceAs (Decidable (_∨_∧_))
theorem W5 {a b c:Rf} (h:ltR a b) (k:ltR b c):ltR a c:=by unfold ltR at *;omega
theorem B1q (a:Rf):¬ ltR a a:=by unfold ltR;omega
theorem B1p (a b:Rf):ltR a b∨a=b∨ltR b a:=by
  rcases a with⟨a1,a2⟩;rcases b with⟨b1,b2⟩
  unfold ltR
  by_cases h:a1=b1∧a2=b2
  · obtain⟨rfl,rfl⟩:=h;exact .inr (.inl rfl)
  · have:¬ (a1=b1∧a2=b2):=h
    dsimp only
    omega
def UpR (l:List Rf):Prop:=l.Pairwise ltR
def putR (l:List Rf) (r:Rf):List Rf:=if r∈l then l else l.takeWhile (fun x=>ltR x r)++r::l.dropWhile (fun x=>ltR x r)
theorem tw_all {l:List Rf} {r:Rf}:∀ x∈l.takeWhile (fun x=>decide (ltR x r)),ltR x r:=by
  intro x hx
  induction l with
  | nil=>cases hx
  | cons a t ih=>
    rw [List.takeWhile_cons] at hx
    split at hx
    · rename_i h
      rcases List.mem_cons.1 hx with rfl|hx
      · simpa using h
      · exact ih hx
    · cases hx
theorem C5x {l:List Rf} (hu:UpR l) {r:Rf}:∀ x∈l.dropWhile (fun x=>decide (ltR x r)),¬ ltR x r:=by
  induction l with
  | nil=>intro x hx;cases hx
  | cons a t ih=>
    intro x hx
    unfold UpR at hu
    rw [List.pairwise_cons] at hu
    rw [List.dropWhile_cons] at hx
    split at hx
    · exact ih hu.2 x hx
    · rename_i h
      have ha:¬ ltR a r:=by simpa using h
      rcases List.mem_cons.1 hx with rfl|hx
      · exact ha
      · exact fun hxr=>ha (W5 (hu.1 x hx) hxr)
theorem put_up {l : List Rf} (hu : UpR l) (r : Rf) : UpR (putR l r) := by
  unfold putR
  split
  · exact hu
  · rename_i hn
    unfold UpR
    rw [List.pairwise_append]
    refine⟨hu.sublist (List.takeWhile_sublist _),?_,?_⟩
    · rw [List.pairwise_cons]
      refine⟨fun x hx=>?_,hu.sublist (List.dropWhile_sublist _)⟩
      have h1:=C5x hu x hx
      rcases B1p x r with h|h|h
      · exact absurd h h1
      · exact absurd (h▸(List.dropWhile_sublist _).subset hx) hn
      · exact h
    · intro a ha b hb
      have h1:=tw_all a ha
      rcases List.mem_cons.1 hb with rfl|hb
      · exact h1
      · have h2:=C5x hu b hb
        rcases B1p b r with h|h|h
        · exact absurd h h2
        · exact h▸h1
        · exact W5 h1 h
theorem put_len {l:List Rf} {r:Rf}:(putR l r).length≤l.length+1:=by
  unfold putR
  split
  · omega
  · have:=congrArg List.length (List.takeWhile_append_dropWhile (p:=fun x=>decide (ltR x r)) (l:=l))
    rw [List.length_append] at this
    rw [List.length_append,List.length_cons]
    omega
theorem put_at {l : List Rf} (hu : UpR l) {r : Rf} {i : Nat} (hi : i ≤ l.length) (hlow : ∀ j x, j < i → l[j]? = some x → ltR x r) (hup : ∀ x, l[i]? = some x → ¬ ltR x r) :
    putR l r=if l[i]?=some r then l else l.take i++r::l.drop i:=by
  have hsplit:l=l.take i++l.drop i:=(List.take_append_drop i l).symm
  have h1:∀ x∈l.take i,ltR x r:=by
    intro x hx
    obtain⟨j,hj⟩:=List.getElem?_of_mem hx
    have hjl:=(List.getElem?_eq_some_iff.1 hj).1
    have hji:j<i:=by simp at hjl;omega
    rw [List.getElem?_take_of_lt hji] at hj
    exact hlow j x hji hj
  have h2:∀ x∈l.drop i,¬ ltR x r:=by
    intro x hx
    obtain⟨j,hj⟩:=List.getElem?_of_mem hx
    rw [List.getElem?_drop] at hj
    cases j with
    | zero=>exact hup x hj
    | succ j=>
      obtain⟨y,hy⟩:∃ y,l[i]?=some y:=⟨_,List.getElem?_eq_getElem (by have:=(List.getElem?_eq_some_iff.1 hj).1;omega)⟩
      have:=hup y hy
      intro hxr
      refine this (W5 ?_ hxr)
      obtain⟨g1,e1⟩:=List.getElem?_eq_some_iff.1 hy
      obtain⟨g2,e2⟩:=List.getElem?_eq_some_iff.1 hj
      rw [← e1,← e2]
      exact List.pairwise_iff_getElem.1 hu _ _ _ _ (by omega)
  have htw:l.takeWhile (fun x=>decide (ltR x r))=l.take i∧l.dropWhile (fun x=>decide (ltR x r))=l.drop i:=by
    have:∀(p q:List Rf),(∀ x∈p,ltR x r)→(∀ x∈q,¬ ltR x r)→(p++q).takeWhile (fun x=>decide (ltR x r))=p∧(p++q).dropWhile (fun x=>decide (ltR x r))=q:=by
      intro p q hp hq
      induction p with
      | nil=>
        cases q with
        | nil=>exact⟨rfl,rfl⟩
        | cons a t=>
          have:=hq a List.mem_cons_self
          simp [List.takeWhile_cons,List.dropWhile_cons,this]
      | cons a t ih=>
        have h:=ih (fun x hx=>hp x (List.mem_cons_of_mem _ hx))
        have ha:=hp a List.mem_cons_self
        simp [List.takeWhile_cons,List.dropWhile_cons,ha,h.1,h.2]
    have h:=this (l.take i) (l.drop i) h1 h2
    rwa [← hsplit] at h
  unfold putR
  have hmem:r∈l↔l[i]?=some r:=by
    constructor
    · intro hr
      rw [hsplit] at hr
      rcases List.mem_append.1 hr with hr|hr
      · exact absurd (h1 r hr) (B1q r)
      · obtain⟨j,hj⟩:=List.getElem?_of_mem hr
        rw [List.getElem?_drop] at hj
        cases j with
        | zero=>exact hj
        | succ j=>
          exfalso
          obtain⟨y,hy⟩:∃ y,l[i]?=some y:=⟨_,List.getElem?_eq_getElem (by have:=(List.getElem?_eq_some_iff.1 hj).1;omega)⟩
          refine hup y hy ?_
          obtain⟨g1,e1⟩:=List.getElem?_eq_some_iff.1 hy
          obtain⟨g2,e2⟩:=List.getElem?_eq_some_iff.1 hj
          rw [← e1,← e2]
          exact List.pairwise_iff_getElem.1 hu _ _ _ _ (by omega)
    · intro h;exact List.mem_of_getElem? h
  rw [htw.1,htw.2]
  by_cases h:r∈l
  · rw [if_pos h,if_pos (hmem.1 h)]
  · rw [if_neg h,if_neg (fun e=>h (hmem.2 e))]
theorem C0a {l : List Rf} (hu : UpR l) {r : Rf} {i : Nat} (hi : i ≤ l.length) (hhigh : ∀ j x, i ≤ j → l[j]? = some x → ltR r x) (hlow : ∀ x, 0 < i → l[i - 1]? = some x → ¬ ltR r x) :
    putR l r=if 0<i∧l[i-1]?=some r then l else l.take i++r::l.drop i:=by
  by_cases h:0<i∧l[i-1]?=some r
  · rw [if_pos h,putR,if_pos (List.mem_of_getElem? h.2)]
  · rw [if_neg h]
    have hlt:∀ j x,j<i→l[j]?=some x→ltR x r:=by
      intro j x hj hx
      obtain⟨y,hy⟩:∃ y,l[i-1]?=some y:=⟨_,List.getElem?_eq_getElem (by omega)⟩
      have h1:=hlow y (by omega) hy
      have hyr:ltR y r:=by
        rcases B1p y r with h2|h2|h2
        · exact h2
        · exact absurd ⟨by omega,h2▸hy⟩ h
        · exact absurd h2 h1
      by_cases e:j=i-1
      · subst e;rw [hy] at hx;cases hx;exact hyr
      · refine W5 ?_ hyr
        obtain⟨g1,e1⟩:=List.getElem?_eq_some_iff.1 hx
        obtain⟨g2,e2⟩:=List.getElem?_eq_some_iff.1 hy
        rw [← e1,← e2]
        exact List.pairwise_iff_getElem.1 hu _ _ _ _ (by omega)
    rw [put_at hu hi hlt (fun x hx hr=>B1q r (W5 (hhigh i x (Nat.le_refl _) hx) hr))]
    rw [if_neg]
    intro e
    exact B1q r (hhigh i r (Nat.le_refl _) e)
def K2 (l:List Rf) (rs:List Rf):List Rf:=rs.foldl putR l
theorem A3t {l:List Rf} (hu:UpR l):∀ rs:List Rf,UpR (K2 l rs)
  | []=>hu
  | r::rs=>A3t (put_up hu r) rs
theorem X8:∀ {rs l:List Rf},(K2 l rs).length≤l.length+rs.length
  | [],l=>by simp [K2]
  | r::rs,l=>by
    show(K2 (putR l r) rs).length≤_
    have:=X8 (rs:=rs) (l:=putR l r)
    have:=put_len (l:=l) (r:=r)
    rw [List.length_cons];omega
end Go.Pv
namespace Go.Pv
def M5 (n:Nat) (f:Nat→Int):Int:=match (List.range n).find? (fun i=>f i != 0) with|some i=>f i|none=>0
theorem S3 {n:Nat} {f:Nat→Int} (h:∀ i,i<n→f i=0):M5 n f=0:=by
  have:(List.range n).find? (fun i=>f i != 0)=none:=by
    rw [List.find?_eq_none]
    intro i hi
    rw [h i (List.mem_range.1 hi)];simp
  rw [M5,this]
theorem D9 {n i:Nat} {f:Nat→Int} (h:∀ j,j<i→f j=0) (hi:i<n) (hf:f i≠0):M5 n f=f i:=by
  have:(List.range n).find? (fun i=>f i != 0)=some i:=by
    rw [List.find?_range_eq_some]
    refine⟨by simp [hf],by simpa using hi,fun j hj=>?_⟩
    simp [h j hj]
  rw [M5,this]
def D0 (n:Int):Bool:=decide (1≤n∧n≤1099511627776)
structure Pnt where
  id:Int
  title:List UInt8
  text:List UInt8
  entries:List Int
  refs:List Rf
def A0g (l:List Rf) (i:Nat):Int:=match l[i]? with
  | none=>0
  | some r=>if D0 r.rcd&&D0 r.note then (match (if 0<i then l[i-1]? else none) with|none=>0|some q=>if ltR q r then 0 else 10) else 2
def A1h (l:List Rf):Int:=if l.length=0∨12<l.length then 24 else M5 l.length (A0g l)
def upAt (l:List Int) (i:Nat):Int:=match l[i]?,(if 0<i then l[i-1]? else none) with
  | some x,some y=>if y<x then 0 else 10
  | _,_=>0
def A0k (lex:List En) (l:List Int) (i:Nat):Int:=match l[i]? with
  | none=>0
  | some x=>if (getE lex x).isSome then 0 else 9
def J5 (lex:List En) (l:List Int):Int:=if M5 l.length (upAt l)≠0 then M5 l.length (upAt l) else M5 l.length (A0k lex l)
def O1 (lab:List UInt8→Bool) (txt:List UInt8→Int) (lex:List En) (p:Pnt):Int:=
  if lab p.title then (if txt p.text≠0 then txt p.text else if J5 lex p.entries≠0 then J5 lex p.entries else A1h p.refs) else 7
def L8 (lab:List UInt8→Bool) (txt:List UInt8→Int) (lex:List En) (l:List Pnt) (i:Nat):Int:=match l[i]? with
  | none=>0
  | some p=>if D0 p.id then (match (if 0<i then l[i-1]? else none) with|none=>O1 lab txt lex p|some q=>if q.id<p.id then O1 lab txt lex p else 10) else 2
def Y1 (lab:List UInt8→Bool) (txt:List UInt8→Int) (lex:List En) (l:List Pnt):Int:=if 40<l.length then 11 else M5 l.length (L8 lab txt lex l)
def B8q (leads:Rf→Bool) (l:List Pnt):List Rf:=K2 [] ((l.flatMap (·.refs)).filter fun r=>!leads r)
def A5z (l:List Pnt) (id:Int):List Int:=(l.filter fun p=>p.entries.contains id).map (·.id)
end Go.Pv
namespace Go.Pv
open Go.RowKit Go.En
instance {α:Type} [Rep α]:Rep (List α) where
  sz:=1
  pos:=by decide
  at_ G w x cs:=∃ sv,cs=[sv]∧SlG G w sv x
  len h:=by obtain⟨sv,rfl,_⟩:=h;rfl
  one h:=by obtain⟨sv,rfl,⟨_,_,rfl,_⟩⟩:=h;rfl
  move h hm:=by obtain⟨sv,rfl,h1⟩:=h;exact⟨sv,rfl,h1.move hm⟩
theorem R4 {α:Type} [Rep α] {G:Nat→Prop} {w:World} {b off n cap:Nat} {xs:List (List α)} (h:SlG G w (.slice (some ⟨b,off,none⟩) n cap) xs) {i:Nat} {x:List α} (hx:xs[i]?=some x) :
    ∃ a c,At w b (off+i*1) [.slice a x.length c]∧SlG G w (.slice a x.length c) x:=by
  obtain⟨cs,⟨sv,rfl,h1⟩,hat⟩:=h.elem hx
  obtain⟨a1,c1,rfl,_,_,_⟩:=h1.sl
  exact⟨a1,c1,hat,h1⟩
theorem int_elem {G:Nat→Prop} {w:World} {b off n cap:Nat} {xs:List Int} (h:SlG G w (.slice (some ⟨b,off,none⟩) n cap) xs) {i:Nat} {x:Int} (hx:xs[i]?=some x):At w b (off+i*1) [int x]:=by
  obtain⟨cs,h1,h2⟩:=h.elem hx
  rw [show cs=_ from h1] at h2
  exact h2
theorem txt_elem {G:Nat→Prop} {w:World} {b off n cap:Nat} {xs:List Txt} (h:SlG G w (.slice (some ⟨b,off,none⟩) n cap) xs) {i:Nat} {x:Txt} (hx:xs[i]?=some x):At w b (off+i*1) [str x.l]:=by
  obtain⟨cs,h1,h2⟩:=h.elem hx
  rw [show cs=_ from h1] at h2
  exact h2
def phC (x:Ph):List Value:=[str x.name,int x.feat]
instance:Rep Ph where
  sz:=2
  pos:=by decide
  at_ _ _ x cs:=cs=phC x
  len h:=by rw [h];rfl
  one h:=by rw [h];rfl
  move h _:=h
theorem B1j {G:Nat→Prop} {w:World} {b off n cap:Nat} {xs:List Ph} (h:SlG G w (.slice (some ⟨b,off,none⟩) n cap) xs) {i:Nat} {x:Ph} (hx:xs[i]?=some x):At w b (off+i*2) [str x.name,int x.feat]:=by
  obtain⟨cs,h1,h2⟩:=h.elem hx
  rw [show cs=_ from h1] at h2
  exact h2
theorem C4n {G:Nat→Prop} (w:World):∀ l:List Ph,AtsG G w l (l.map phC)
  | []=>trivial
  | _::r=>⟨rfl,C4n w r⟩
def clsC (x:Cls):List Value:=[int x.mask,int x.val]
instance:Rep Cls where
  sz:=2
  pos:=by decide
  at_ _ _ x cs:=cs=clsC x
  len h:=by rw [h];rfl
  one h:=by rw [h];rfl
  move h _:=h
theorem C6b {G:Nat→Prop} {w:World} {b off n cap:Nat} {xs:List Cls} (h:SlG G w (.slice (some ⟨b,off,none⟩) n cap) xs) {i:Nat} {x:Cls} (hx:xs[i]?=some x):At w b (off+i*2) [int x.mask,int x.val]:=by
  obtain⟨cs,h1,h2⟩:=h.elem hx
  rw [show cs=_ from h1] at h2
  exact h2
instance:Rep Unt where
  sz:=2
  pos:=by decide
  at_ G w x cs:=∃ segsv,cs=[str x.graph,segsv]∧SlG G w segsv x.segs
  len h:=by obtain⟨segsv,rfl,_⟩:=h;rfl
  one h:=by obtain⟨segsv,rfl,⟨_,_,rfl,_⟩⟩:=h;rfl
  move h hm:=by obtain⟨segsv,rfl,h0⟩:=h;exact⟨segsv,rfl,h0.move hm⟩
theorem V6 {G:Nat→Prop} {w:World} {b off n cap:Nat} {xs:List Unt} (h:SlG G w (.slice (some ⟨b,off,none⟩) n cap) xs) {i:Nat} {x:Unt} (hx:xs[i]?=some x) :
    ∃ a0 c0,At w b (off+i*2) [str x.graph,.slice a0 x.segs.length c0]∧Rep.at_ G w x [str x.graph,.slice a0 x.segs.length c0]∧SlG G w (.slice a0 x.segs.length c0) x.segs:=by
  obtain⟨cs,⟨segsv,rfl,h0⟩,hat⟩:=h.elem hx
  obtain⟨a0,c0,rfl,_,_,_⟩:=h0.sl
  exact⟨a0,c0,hat,⟨_,rfl,h0⟩,h0⟩
instance:Rep Rul where
  sz:=6
  pos:=by decide
  at_ G w x cs:=∃ frmv tov leftv rightv,cs=[frmv,tov,leftv,rightv,.bool x.beg,.bool x.fin]∧SlG G w frmv x.frm∧SlG G w tov x.to∧SlG G w leftv x.left∧SlG G w rightv x.right
  len h:=by obtain⟨frmv,tov,leftv,rightv,rfl,_⟩:=h;rfl
  one h:=by obtain⟨frmv,tov,leftv,rightv,rfl,⟨_,_,rfl,_⟩,⟨_,_,rfl,_⟩,⟨_,_,rfl,_⟩,⟨_,_,rfl,_⟩⟩:=h;rfl
  move h hm:=by obtain⟨frmv,tov,leftv,rightv,rfl,h0,h1,h2,h3⟩:=h;exact⟨frmv,tov,leftv,rightv,rfl,h0.move hm,h1.move hm,h2.move hm,h3.move hm⟩
theorem A0d {G:Nat→Prop} {w:World} {b off n cap:Nat} {xs:List Rul} (h:SlG G w (.slice (some ⟨b,off,none⟩) n cap) xs) {i:Nat} {x:Rul} (hx:xs[i]?=some x) :
    ∃ a0 c0 a1 c1 a2 c2 a3 c3,At w b (off+i*6) [.slice a0 x.frm.length c0,.slice a1 x.to.length c1,.slice a2 x.left.length c2,.slice a3 x.right.length c3,.bool x.beg,.bool x.fin]∧Rep.at_ G w x [.slice a0 x.frm.length c0,.slice a1 x.to.length c1,.slice a2 x.left.length c2,.slice a3 x.right.length c3,.bool x.beg,.bool x.fin]∧SlG G w (.slice a0 x.frm.length c0) x.frm∧SlG G w (.slice a1 x.to.length c1) x.to∧SlG G w (.slice a2 x.left.length c2) x.left∧SlG G w (.slice a3 x.right.length c3) x.right:=by
  obtain⟨cs,⟨frmv,tov,leftv,rightv,rfl,h0,h1,h2,h3⟩,hat⟩:=h.elem hx
  obtain⟨a0,c0,rfl,_,_,_⟩:=h0.sl
  obtain⟨a1,c1,rfl,_,_,_⟩:=h1.sl
  obtain⟨a2,c2,rfl,_,_,_⟩:=h2.sl
  obtain⟨a3,c3,rfl,_,_,_⟩:=h3.sl
  exact⟨a0,c0,a1,c1,a2,c2,a3,c3,hat,⟨_,_,_,_,rfl,h0,h1,h2,h3⟩,h0,h1,h2,h3⟩
def stpC (x:Stp):List Value:=[int x.frm,int x.cls,int x.to]
instance:Rep Stp where
  sz:=3
  pos:=by decide
  at_ _ _ x cs:=cs=stpC x
  len h:=by rw [h];rfl
  one h:=by rw [h];rfl
  move h _:=h
theorem A6d {G:Nat→Prop} {w:World} {b off n cap:Nat} {xs:List Stp} (h:SlG G w (.slice (some ⟨b,off,none⟩) n cap) xs) {i:Nat} {x:Stp} (hx:xs[i]?=some x):At w b (off+i*3) [int x.frm,int x.cls,int x.to]:=by
  obtain⟨cs,h1,h2⟩:=h.elem hx
  rw [show cs=_ from h1] at h2
  exact h2
theorem B9p {G:Nat→Prop} (w:World):∀ l:List Stp,AtsG G w l (l.map stpC)
  | []=>trivial
  | _::r=>⟨rfl,B9p w r⟩
def snsC (x:Sns):List Value:=[str x.gloss,str x.dfn]
instance:Rep Sns where
  sz:=2
  pos:=by decide
  at_ _ _ x cs:=cs=snsC x
  len h:=by rw [h];rfl
  one h:=by rw [h];rfl
  move h _:=h
theorem B3o {G:Nat→Prop} {w:World} {b off n cap:Nat} {xs:List Sns} (h:SlG G w (.slice (some ⟨b,off,none⟩) n cap) xs) {i:Nat} {x:Sns} (hx:xs[i]?=some x):At w b (off+i*2) [str x.gloss,str x.dfn]:=by
  obtain⟨cs,h1,h2⟩:=h.elem hx
  rw [show cs=_ from h1] at h2
  exact h2
theorem B0x {G:Nat→Prop} (w:World):∀ l:List Sns,AtsG G w l (l.map snsC)
  | []=>trivial
  | _::r=>⟨rfl,B0x w r⟩
def lnkC (x:Lnk):List Value:=[int x.kind,int x.to]
instance:Rep Lnk where
  sz:=2
  pos:=by decide
  at_ _ _ x cs:=cs=lnkC x
  len h:=by rw [h];rfl
  one h:=by rw [h];rfl
  move h _:=h
theorem W6 {G:Nat→Prop} {w:World} {b off n cap:Nat} {xs:List Lnk} (h:SlG G w (.slice (some ⟨b,off,none⟩) n cap) xs) {i:Nat} {x:Lnk} (hx:xs[i]?=some x):At w b (off+i*2) [int x.kind,int x.to]:=by
  obtain⟨cs,h1,h2⟩:=h.elem hx
  rw [show cs=_ from h1] at h2
  exact h2
def rfC (x:Rf):List Value:=[int x.rcd,int x.note]
instance:Rep Rf where
  sz:=2
  pos:=by decide
  at_ _ _ x cs:=cs=rfC x
  len h:=by rw [h];rfl
  one h:=by rw [h];rfl
  move h _:=h
theorem O8 {G:Nat→Prop} {w:World} {b off n cap:Nat} {xs:List Rf} (h:SlG G w (.slice (some ⟨b,off,none⟩) n cap) xs) {i:Nat} {x:Rf} (hx:xs[i]?=some x):At w b (off+i*2) [int x.rcd,int x.note]:=by
  obtain⟨cs,h1,h2⟩:=h.elem hx
  rw [show cs=_ from h1] at h2
  exact h2
theorem A0e {G:Nat→Prop} (w:World):∀ l:List Rf,AtsG G w l (l.map rfC)
  | []=>trivial
  | _::r=>⟨rfl,A0e w r⟩
theorem B8z {G:Nat→Prop} {w:World}:∀ {l:List Rf} {css:List (List Value)},AtsG G w l css→css=l.map rfC
  | [],[],_=>rfl
  | [],_::_,h=>h.elim
  | _::_,[],h=>h.elim
  | x::r,c::cs,h=>by rw [List.map_cons,B8z h.2,show c=rfC x from h.1]
instance:Rep En where
  sz:=8
  pos:=by decide
  at_ G w x cs:=∃ formv altsv sensesv linksv refsv,cs=[int x.id,formv,int x.cls,altsv,int x.main,sensesv,linksv,refsv]∧SlG G w formv x.form∧SlG G w altsv x.alts∧SlG G w sensesv x.senses∧SlG G w linksv x.links∧SlG G w refsv x.refs
  len h:=by obtain⟨formv,altsv,sensesv,linksv,refsv,rfl,_⟩:=h;rfl
  one h:=by obtain⟨formv,altsv,sensesv,linksv,refsv,rfl,⟨_,_,rfl,_⟩,⟨_,_,rfl,_⟩,⟨_,_,rfl,_⟩,⟨_,_,rfl,_⟩,⟨_,_,rfl,_⟩⟩:=h;rfl
  move h hm:=by obtain⟨formv,altsv,sensesv,linksv,refsv,rfl,h0,h1,h2,h3,h4⟩:=h;exact⟨formv,altsv,sensesv,linksv,refsv,rfl,h0.move hm,h1.move hm,h2.move hm,h3.move hm,h4.move hm⟩
theorem D3 {G:Nat→Prop} {w:World} {b off n cap:Nat} {xs:List En} (h:SlG G w (.slice (some ⟨b,off,none⟩) n cap) xs) {i:Nat} {x:En} (hx:xs[i]?=some x) :
    ∃ a0 c0 a1 c1 a2 c2 a3 c3 a4 c4,At w b (off+i*8) [int x.id,.slice a0 x.form.length c0,int x.cls,.slice a1 x.alts.length c1,int x.main,.slice a2 x.senses.length c2,.slice a3 x.links.length c3,.slice a4 x.refs.length c4]∧Rep.at_ G w x [int x.id,.slice a0 x.form.length c0,int x.cls,.slice a1 x.alts.length c1,int x.main,.slice a2 x.senses.length c2,.slice a3 x.links.length c3,.slice a4 x.refs.length c4]∧SlG G w (.slice a0 x.form.length c0) x.form∧SlG G w (.slice a1 x.alts.length c1) x.alts∧SlG G w (.slice a2 x.senses.length c2) x.senses∧SlG G w (.slice a3 x.links.length c3) x.links∧SlG G w (.slice a4 x.refs.length c4) x.refs:=by
  obtain⟨cs,⟨formv,altsv,sensesv,linksv,refsv,rfl,h0,h1,h2,h3,h4⟩,hat⟩:=h.elem hx
  obtain⟨a0,c0,rfl,_,_,_⟩:=h0.sl
  obtain⟨a1,c1,rfl,_,_,_⟩:=h1.sl
  obtain⟨a2,c2,rfl,_,_,_⟩:=h2.sl
  obtain⟨a3,c3,rfl,_,_,_⟩:=h3.sl
  obtain⟨a4,c4,rfl,_,_,_⟩:=h4.sl
  exact⟨a0,c0,a1,c1,a2,c2,a3,c3,a4,c4,hat,⟨_,_,_,_,_,rfl,h0,h1,h2,h3,h4⟩,h0,h1,h2,h3,h4⟩
def prtC (x:Prt):List Value:=[int x.entry,int x.alt,int x.sense]
instance:Rep Prt where
  sz:=3
  pos:=by decide
  at_ _ _ x cs:=cs=prtC x
  len h:=by rw [h];rfl
  one h:=by rw [h];rfl
  move h _:=h
theorem C4g {G:Nat→Prop} {w:World} {b off n cap:Nat} {xs:List Prt} (h:SlG G w (.slice (some ⟨b,off,none⟩) n cap) xs) {i:Nat} {x:Prt} (hx:xs[i]?=some x):At w b (off+i*3) [int x.entry,int x.alt,int x.sense]:=by
  obtain⟨cs,h1,h2⟩:=h.elem hx
  rw [show cs=_ from h1] at h2
  exact h2
instance:Rep Pnt where
  sz:=5
  pos:=by decide
  at_ G w x cs:=∃ entriesv refsv,cs=[int x.id,str x.title,str x.text,entriesv,refsv]∧SlG G w entriesv x.entries∧SlG G w refsv x.refs
  len h:=by obtain⟨entriesv,refsv,rfl,_⟩:=h;rfl
  one h:=by obtain⟨entriesv,refsv,rfl,⟨_,_,rfl,_⟩,⟨_,_,rfl,_⟩⟩:=h;rfl
  move h hm:=by obtain⟨entriesv,refsv,rfl,h0,h1⟩:=h;exact⟨entriesv,refsv,rfl,h0.move hm,h1.move hm⟩
theorem A0i {G:Nat→Prop} {w:World} {b off n cap:Nat} {xs:List Pnt} (h:SlG G w (.slice (some ⟨b,off,none⟩) n cap) xs) {i:Nat} {x:Pnt} (hx:xs[i]?=some x) :
    ∃ a0 c0 a1 c1,At w b (off+i*5) [int x.id,str x.title,str x.text,.slice a0 x.entries.length c0,.slice a1 x.refs.length c1]∧Rep.at_ G w x [int x.id,str x.title,str x.text,.slice a0 x.entries.length c0,.slice a1 x.refs.length c1]∧SlG G w (.slice a0 x.entries.length c0) x.entries∧SlG G w (.slice a1 x.refs.length c1) x.refs:=by
  obtain⟨cs,⟨entriesv,refsv,rfl,h0,h1⟩,hat⟩:=h.elem hx
  obtain⟨a0,c0,rfl,_,_,_⟩:=h0.sl
  obtain⟨a1,c1,rfl,_,_,_⟩:=h1.sl
  exact⟨a0,c0,a1,c1,hat,⟨_,_,rfl,h0,h1⟩,h0,h1⟩
structure Lg where
  segs:List Ph
  oname:List UInt8
  units:List Unt
  letters:List (List Txt)
  rules:List Rul
  net:Net
  lex:List En
structure LangG (G:Nat→Prop) (w:World) (g:Lg) (pv uv tv rv sv fv ev:Value):Prop where
  segs:SlG G w pv g.segs
  units:SlG G w uv g.units
  letters:SlG G w tv g.letters
  rules:SlG G w rv g.rules
  steps:SlG G w sv g.net.steps
  final:SlG G w fv g.net.final
  lex:SlG G w ev g.lex
theorem LangG.move {G G':Nat→Prop} {w w':World} {g:Lg} {pv uv tv rv sv fv ev:Value} (h:LangG G w g pv uv tv rv sv fv ev) (hm:∀ b,G b→b<w.heap.size→G' b∧w'.heap[b]?=w.heap[b]?):LangG G' w' g pv uv tv rv sv fv ev:=
  ⟨h.segs.move hm,h.units.move hm,h.letters.move hm,h.rules.move hm,h.steps.move hm,h.final.move hm,h.lex.move hm⟩
theorem LangG.ext {G:Nat→Prop} {w w':World} {g:Lg} {pv uv tv rv sv fv ev:Value} (h:LangG G w g pv uv tv rv sv fv ev) (x:Ext w w'):LangG G w' g pv uv tv rv sv fv ev:=h.move x.mv
theorem LangG.any {G:Nat→Prop} {w:World} {g:Lg} {pv uv tv rv sv fv ev:Value} (h:LangG G w g pv uv tv rv sv fv ev):LangG Tt w g pv uv tv rv sv fv ev:=h.move fun _ _ _=>⟨trivial,rfl⟩
abbrev LangAt:=LangG Tt
end Go.Pv
