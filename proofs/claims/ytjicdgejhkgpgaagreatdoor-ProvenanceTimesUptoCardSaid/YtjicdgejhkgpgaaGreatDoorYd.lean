/-
  Own text of the proof.
-/
import Derived.Test.YtjicdgejhkgpgaaGreatDoorYb
import Derived.Test.YtjicdgejhkgpgaaGreatDoorYc
import Derived.Lib.ValidLaws
import Derived.Lib.TrimUEq
set_option linter.all false
namespace Go.Pv
open Go.RowKit Go.En
instance {α:Type} [Rep α]:Rep (List α) where
  sz:=1
  pos:=by decide
  at_ G w x cs:=∃ sv,cs=[sv]∧SlG G w sv x
  len h:=by obtain⟨sv,rfl,_⟩:=h;rfl
  one h:=by obtain⟨sv,rfl,⟨_,_,rfl,_⟩⟩:=h;rfl
  move h hm:=by obtain⟨sv,rfl,h1⟩:=h;exact⟨sv,rfl,h1.move hm⟩
theorem Dh {α:Type} [Rep α] {G:Nat→Prop} {w:World} {b off n cap:Nat} {xs:List (List α)} (h:SlG G w (.slice (some ⟨b,off,none⟩) n cap) xs) {i:Nat} {x:List α} (hx:xs[i]?=some x) :
    ∃ a c,At w b (off+i*1) [.slice a x.length c]∧SlG G w (.slice a x.length c) x:=by
  obtain⟨cs,⟨sv,rfl,h1⟩,hat⟩:=h.elem hx
  obtain⟨a1,c1,rfl,_,_,_⟩:=h1.sl
  exact⟨a1,c1,hat,h1⟩
theorem int_elem {G:Nat→Prop} {w:World} {b off n cap:Nat} {xs:List Int} (h:SlG G w (.slice (some ⟨b,off,none⟩) n cap) xs) {i:Nat} {x:Int} (hx:xs[i]?=some x):At w b (off+i*1) [int x]:=by
  obtain⟨cs,h1,h2⟩:=h.elem hx
  rw [show cs=_ from h1] at h2
  exact h2
theorem txt_elem {G:Nat→Prop} {w:World} {b off n cap:Nat} {xs:List Txt} (h:SlG G w (.slice (some ⟨b,off,none⟩) n cap) xs) {i:Nat} {x:Txt} (hx:xs[i]?=some x):At w b (off+i*1) [str x.l]:=by
  obtain⟨cs,h1,h2⟩:=h.elem hx
  rw [show cs=_ from h1] at h2
  exact h2
def phC (x:Ph):List Value:=[str x.name,int x.feat]
instance:Rep Ph where
  sz:=2
  pos:=by decide
  at_ _ _ x cs:=cs=phC x
  len h:=by rw [h];rfl
  one h:=by rw [h];rfl
  move h _:=h
theorem Nm {G:Nat→Prop} {w:World} {b off n cap:Nat} {xs:List Ph} (h:SlG G w (.slice (some ⟨b,off,none⟩) n cap) xs) {i:Nat} {x:Ph} (hx:xs[i]?=some x):At w b (off+i*2) [str x.name,int x.feat]:=by
  obtain⟨cs,h1,h2⟩:=h.elem hx
  rw [show cs=_ from h1] at h2
  exact h2
theorem ph_ats {G:Nat→Prop} (w:World):∀ l:List Ph,AtsG G w l (l.map phC)
  | []=>trivial
  | _::r=>⟨rfl,ph_ats w r⟩
def clsC (x:Cls):List Value:=[int x.mask,int x.val]
instance:Rep Cls where
  sz:=2
  pos:=by decide
  at_ _ _ x cs:=cs=clsC x
  len h:=by rw [h];rfl
  one h:=by rw [h];rfl
  move h _:=h
theorem Q0 {G:Nat→Prop} {w:World} {b off n cap:Nat} {xs:List Cls} (h:SlG G w (.slice (some ⟨b,off,none⟩) n cap) xs) {i:Nat} {x:Cls} (hx:xs[i]?=some x):At w b (off+i*2) [int x.mask,int x.val]:=by
  obtain⟨cs,h1,h2⟩:=h.elem hx
  rw [show cs=_ from h1] at h2
  exact h2
instance:Rep Unt where
  sz:=2
  pos:=by decide
  at_ G w x cs:=∃ segsv,cs=[str x.graph,segsv]∧SlG G w segsv x.segs
  len h:=by obtain⟨segsv,rfl,_⟩:=h;rfl
  one h:=by obtain⟨segsv,rfl,⟨_,_,rfl,_⟩⟩:=h;rfl
  move h hm:=by obtain⟨segsv,rfl,h0⟩:=h;exact⟨segsv,rfl,h0.move hm⟩
theorem Cx {G:Nat→Prop} {w:World} {b off n cap:Nat} {xs:List Unt} (h:SlG G w (.slice (some ⟨b,off,none⟩) n cap) xs) {i:Nat} {x:Unt} (hx:xs[i]?=some x) :
    ∃ a0 c0,At w b (off+i*2) [str x.graph,.slice a0 x.segs.length c0]∧Rep.at_ G w x [str x.graph,.slice a0 x.segs.length c0]∧SlG G w (.slice a0 x.segs.length c0) x.segs:=by
  obtain⟨cs,⟨segsv,rfl,h0⟩,hat⟩:=h.elem hx
  obtain⟨a0,c0,rfl,_,_,_⟩:=h0.sl
  exact⟨a0,c0,hat,⟨_,rfl,h0⟩,h0⟩
instance:Rep Rul where
  sz:=6
  pos:=by decide
  at_ G w x cs:=∃ frmv tov leftv rightv,cs=[frmv,tov,leftv,rightv,.bool x.beg,.bool x.fin]∧SlG G w frmv x.frm∧SlG G w tov x.to∧SlG G w leftv x.left∧SlG G w rightv x.right
  len h:=by obtain⟨frmv,tov,leftv,rightv,rfl,_⟩:=h;rfl
  one h:=by obtain⟨frmv,tov,leftv,rightv,rfl,⟨_,_,rfl,_⟩,⟨_,_,rfl,_⟩,⟨_,_,rfl,_⟩,⟨_,_,rfl,_⟩⟩:=h;rfl
  move h hm:=by obtain⟨frmv,tov,leftv,rightv,rfl,h0,h1,h2,h3⟩:=h;exact⟨frmv,tov,leftv,rightv,rfl,h0.move hm,h1.move hm,h2.move hm,h3.move hm⟩
theorem Ga {G:Nat→Prop} {w:World} {b off n cap:Nat} {xs:List Rul} (h:SlG G w (.slice (some ⟨b,off,none⟩) n cap) xs) {i:Nat} {x:Rul} (hx:xs[i]?=some x) :
    ∃ a0 c0 a1 c1 a2 c2 a3 c3,At w b (off+i*6) [.slice a0 x.frm.length c0,.slice a1 x.to.length c1,.slice a2 x.left.length c2,.slice a3 x.right.length c3,.bool x.beg,.bool x.fin]∧Rep.at_ G w x [.slice a0 x.frm.length c0,.slice a1 x.to.length c1,.slice a2 x.left.length c2,.slice a3 x.right.length c3,.bool x.beg,.bool x.fin]∧SlG G w (.slice a0 x.frm.length c0) x.frm∧SlG G w (.slice a1 x.to.length c1) x.to∧SlG G w (.slice a2 x.left.length c2) x.left∧SlG G w (.slice a3 x.right.length c3) x.right:=by
  obtain⟨cs,⟨frmv,tov,leftv,rightv,rfl,h0,h1,h2,h3⟩,hat⟩:=h.elem hx
  obtain⟨a0,c0,rfl,_,_,_⟩:=h0.sl
  obtain⟨a1,c1,rfl,_,_,_⟩:=h1.sl
  obtain⟨a2,c2,rfl,_,_,_⟩:=h2.sl
  obtain⟨a3,c3,rfl,_,_,_⟩:=h3.sl
  exact⟨a0,c0,a1,c1,a2,c2,a3,c3,hat,⟨_,_,_,_,rfl,h0,h1,h2,h3⟩,h0,h1,h2,h3⟩
def stpC (x:Stp):List Value:=[int x.frm,int x.cls,int x.to]
instance:Rep Stp where
  sz:=3
  pos:=by decide
  at_ _ _ x cs:=cs=stpC x
  len h:=by rw [h];rfl
  one h:=by rw [h];rfl
  move h _:=h
theorem L8 {G:Nat→Prop} {w:World} {b off n cap:Nat} {xs:List Stp} (h:SlG G w (.slice (some ⟨b,off,none⟩) n cap) xs) {i:Nat} {x:Stp} (hx:xs[i]?=some x):At w b (off+i*3) [int x.frm,int x.cls,int x.to]:=by
  obtain⟨cs,h1,h2⟩:=h.elem hx
  rw [show cs=_ from h1] at h2
  exact h2
theorem stp_ats {G:Nat→Prop} (w:World):∀ l:List Stp,AtsG G w l (l.map stpC)
  | []=>trivial
  | _::r=>⟨rfl,stp_ats w r⟩
def snsC (x:Sns):List Value:=[str x.gloss,str x.dfn]
instance:Rep Sns where
  sz:=2
  pos:=by decide
  at_ _ _ x cs:=cs=snsC x
  len h:=by rw [h];rfl
  one h:=by rw [h];rfl
  move h _:=h
theorem sns_elem {G:Nat→Prop} {w:World} {b off n cap:Nat} {xs:List Sns} (h:SlG G w (.slice (some ⟨b,off,none⟩) n cap) xs) {i:Nat} {x:Sns} (hx:xs[i]?=some x):At w b (off+i*2) [str x.gloss,str x.dfn]:=by
  obtain⟨cs,h1,h2⟩:=h.elem hx
  rw [show cs=_ from h1] at h2
  exact h2
theorem sns_ats {G:Nat→Prop} (w:World):∀ l:List Sns,AtsG G w l (l.map snsC)
  | []=>trivial
  | _::r=>⟨rfl,sns_ats w r⟩
def lnkC (x:Lnk):List Value:=[int x.kind,int x.to]
instance:Rep Lnk where
  sz:=2
  pos:=by decide
  at_ _ _ x cs:=cs=lnkC x
  len h:=by rw [h];rfl
  one h:=by rw [h];rfl
  move h _:=h
theorem Hj {G:Nat→Prop} {w:World} {b off n cap:Nat} {xs:List Lnk} (h:SlG G w (.slice (some ⟨b,off,none⟩) n cap) xs) {i:Nat} {x:Lnk} (hx:xs[i]?=some x):At w b (off+i*2) [int x.kind,int x.to]:=by
  obtain⟨cs,h1,h2⟩:=h.elem hx
  rw [show cs=_ from h1] at h2
  exact h2
def rfC (x:Rf):List Value:=[int x.rcd,int x.note]
instance:Rep Rf where
  sz:=2
  pos:=by decide
  at_ _ _ x cs:=cs=rfC x
  len h:=by rw [h];rfl
  one h:=by rw [h];rfl
  move h _:=h
theorem Dk {G:Nat→Prop} {w:World} {b off n cap:Nat} {xs:List Rf} (h:SlG G w (.slice (some ⟨b,off,none⟩) n cap) xs) {i:Nat} {x:Rf} (hx:xs[i]?=some x):At w b (off+i*2) [int x.rcd,int x.note]:=by
  obtain⟨cs,h1,h2⟩:=h.elem hx
  rw [show cs=_ from h1] at h2
  exact h2
theorem Ip {G:Nat→Prop} (w:World):∀ l:List Rf,AtsG G w l (l.map rfC)
  | []=>trivial
  | _::r=>⟨rfl,Ip w r⟩
theorem ats_rf {G:Nat→Prop} {w:World}:∀ {l:List Rf} {css:List (List Value)},AtsG G w l css→css=l.map rfC
  | [],[],_=>rfl
  | [],_::_,h=>h.elim
  | _::_,[],h=>h.elim
  | x::r,c::cs,h=>by rw [List.map_cons,ats_rf h.2,show c=rfC x from h.1]
instance:Rep En where
  sz:=8
  pos:=by decide
  at_ G w x cs:=∃ formv altsv sensesv linksv refsv,cs=[int x.id,formv,int x.cls,altsv,int x.main,sensesv,linksv,refsv]∧SlG G w formv x.form∧SlG G w altsv x.alts∧SlG G w sensesv x.senses∧SlG G w linksv x.links∧SlG G w refsv x.refs
  len h:=by obtain⟨formv,altsv,sensesv,linksv,refsv,rfl,_⟩:=h;rfl
  one h:=by obtain⟨formv,altsv,sensesv,linksv,refsv,rfl,⟨_,_,rfl,_⟩,⟨_,_,rfl,_⟩,⟨_,_,rfl,_⟩,⟨_,_,rfl,_⟩,⟨_,_,rfl,_⟩⟩:=h;rfl
  move h hm:=by obtain⟨formv,altsv,sensesv,linksv,refsv,rfl,h0,h1,h2,h3,h4⟩:=h;exact⟨formv,altsv,sensesv,linksv,refsv,rfl,h0.move hm,h1.move hm,h2.move hm,h3.move hm,h4.move hm⟩
theorem B3 {G:Nat→Prop} {w:World} {b off n cap:Nat} {xs:List En} (h:SlG G w (.slice (some ⟨b,off,none⟩) n cap) xs) {i:Nat} {x:En} (hx:xs[i]?=some x) :
    ∃ a0 c0 a1 c1 a2 c2 a3 c3 a4 c4,At w b (off+i*8) [int x.id,.slice a0 x.form.length c0,int x.cls,.slice a1 x.alts.length c1,int x.main,.slice a2 x.senses.length c2,.slice a3 x.links.length c3,.slice a4 x.refs.length c4]∧Rep.at_ G w x [int x.id,.slice a0 x.form.length c0,int x.cls,.slice a1 x.alts.length c1,int x.main,.slice a2 x.senses.length c2,.slice a3 x.links.length c3,.slice a4 x.refs.length c4]∧SlG G w (.slice a0 x.form.length c0) x.form∧SlG G w (.slice a1 x.alts.length c1) x.alts∧SlG G w (.slice a2 x.senses.length c2) x.senses∧SlG G w (.slice a3 x.links.length c3) x.links∧SlG G w (.slice a4 x.refs.length c4) x.refs:=by
  obtain⟨cs,⟨formv,altsv,sensesv,linksv,refsv,rfl,h0,h1,h2,h3,h4⟩,hat⟩:=h.elem hx
  obtain⟨a0,c0,rfl,_,_,_⟩:=h0.sl
  obtain⟨a1,c1,rfl,_,_,_⟩:=h1.sl
  obtain⟨a2,c2,rfl,_,_,_⟩:=h2.sl
  obtain⟨a3,c3,rfl,_,_,_⟩:=h3.sl
  obtain⟨a4,c4,rfl,_,_,_⟩:=h4.sl
  exact⟨a0,c0,a1,c1,a2,c2,a3,c3,a4,c4,hat,⟨_,_,_,_,_,rfl,h0,h1,h2,h3,h4⟩,h0,h1,h2,h3,h4⟩
def prtC (x:Prt):List Value:=[int x.entry,int x.alt,int x.sense]
instance:Rep Prt where
  sz:=3
  pos:=by decide
  at_ _ _ x cs:=cs=prtC x
  len h:=by rw [h];rfl
  one h:=by rw [h];rfl
  move h _:=h
theorem Iu {G:Nat→Prop} {w:World} {b off n cap:Nat} {xs:List Prt} (h:SlG G w (.slice (some ⟨b,off,none⟩) n cap) xs) {i:Nat} {x:Prt} (hx:xs[i]?=some x):At w b (off+i*3) [int x.entry,int x.alt,int x.sense]:=by
  obtain⟨cs,h1,h2⟩:=h.elem hx
  rw [show cs=_ from h1] at h2
  exact h2
instance:Rep Pnt where
  sz:=5
  pos:=by decide
  at_ G w x cs:=∃ entriesv refsv,cs=[int x.id,str x.title,str x.text,entriesv,refsv]∧SlG G w entriesv x.entries∧SlG G w refsv x.refs
  len h:=by obtain⟨entriesv,refsv,rfl,_⟩:=h;rfl
  one h:=by obtain⟨entriesv,refsv,rfl,⟨_,_,rfl,_⟩,⟨_,_,rfl,_⟩⟩:=h;rfl
  move h hm:=by obtain⟨entriesv,refsv,rfl,h0,h1⟩:=h;exact⟨entriesv,refsv,rfl,h0.move hm,h1.move hm⟩
theorem Iv {G:Nat→Prop} {w:World} {b off n cap:Nat} {xs:List Pnt} (h:SlG G w (.slice (some ⟨b,off,none⟩) n cap) xs) {i:Nat} {x:Pnt} (hx:xs[i]?=some x) :
    ∃ a0 c0 a1 c1,At w b (off+i*5) [int x.id,str x.title,str x.text,.slice a0 x.entries.length c0,.slice a1 x.refs.length c1]∧Rep.at_ G w x [int x.id,str x.title,str x.text,.slice a0 x.entries.length c0,.slice a1 x.refs.length c1]∧SlG G w (.slice a0 x.entries.length c0) x.entries∧SlG G w (.slice a1 x.refs.length c1) x.refs:=by
  obtain⟨cs,⟨entriesv,refsv,rfl,h0,h1⟩,hat⟩:=h.elem hx
  obtain⟨a0,c0,rfl,_,_,_⟩:=h0.sl
  obtain⟨a1,c1,rfl,_,_,_⟩:=h1.sl
  exact⟨a0,c0,a1,c1,hat,⟨_,_,rfl,h0,h1⟩,h0,h1⟩
structure Lg where
  segs:List Ph
  oname:List UInt8
  units:List Unt
  letters:List (List Txt)
  rules:List Rul
  net:Net
  lex:List En
structure LangG (G:Nat→Prop) (w:World) (g:Lg) (pv uv tv rv sv fv ev:Value):Prop where
  segs:SlG G w pv g.segs
  units:SlG G w uv g.units
  letters:SlG G w tv g.letters
  rules:SlG G w rv g.rules
  steps:SlG G w sv g.net.steps
  final:SlG G w fv g.net.final
  lex:SlG G w ev g.lex
theorem LangG.move {G G':Nat→Prop} {w w':World} {g:Lg} {pv uv tv rv sv fv ev:Value} (h:LangG G w g pv uv tv rv sv fv ev) (hm:∀ b,G b→b<w.heap.size→G' b∧w'.heap[b]?=w.heap[b]?):LangG G' w' g pv uv tv rv sv fv ev:=
  ⟨h.segs.move hm,h.units.move hm,h.letters.move hm,h.rules.move hm,h.steps.move hm,h.final.move hm,h.lex.move hm⟩
theorem LangG.ext {G:Nat→Prop} {w w':World} {g:Lg} {pv uv tv rv sv fv ev:Value} (h:LangG G w g pv uv tv rv sv fv ev) (x:Ext w w'):LangG G w' g pv uv tv rv sv fv ev:=h.move x.mv
theorem LangG.any {G:Nat→Prop} {w:World} {g:Lg} {pv uv tv rv sv fv ev:Value} (h:LangG G w g pv uv tv rv sv fv ev):LangG Tt w g pv uv tv rv sv fv ev:=h.move fun _ _ _=>⟨trivial,rfl⟩
abbrev LangAt:=LangG Tt
end Go.Pv
namespace Go.En
open Go.RowKit
def As (a b:Int):Int:=IntKind.i64.wrap ((BitVec.ofInt 64 a &&& BitVec.ofInt 64 b).toNat)
@[reducible] def u32 (m:Nat):Value:=.int .u32 (m:Int)
theorem O0 {m:Nat} (h:m<4294967296):IntKind.u32.wrap (m:Int)=(m:Int):=by
  simp [IntKind.wrap,IntKind.signed,IntKind.bits];omega
theorem Jr {m:Nat} (h:m<4294967296):(BitVec.ofInt 32 (m:Int)).toNat=m:=by
  rw [BitVec.toNat_ofInt]
  have:((m:Int) % ((2 ^ 32:Nat):Int))=(m:Int):=Int.emod_eq_of_lt (by omega) (by simp;omega)
  rw [this];omega
section
variable {P : Program} {n : Nat} {Q : Post} {L : List (Nat × Value)} {w : World} {ops : List Oper} {o : Oper} {rest : List Oper}
theorem val_and {t u:TypeId} {x y:Operand} {a b:Int} (ho:o.op=.binOp .and t x y u) (hx:ev L x=some (int a)) (hy:ev L y=some (int b)):Val P L w o (int (As a b)):=
  D9 ho hx hy rfl
theorem M8 {t u:TypeId} {x y:Operand} {a b:Nat} (ho:o.op=.binOp .and t x y u) (hx:ev L x=some (u32 a)) (hy:ev L y=some (u32 b)) (ha:a<4294967296) (hb:b<4294967296):Val P L w o (u32 (a &&& b)):=
  D9 ho hx hy (by
    have h1:a &&& b<4294967296:=Nat.lt_of_le_of_lt Nat.and_le_left ha
    have h2:((BitVec.ofInt 32 (a:Int)) &&& (BitVec.ofInt 32 (b:Int))).toNat=a &&& b:=by rw [BitVec.toNat_and,Jr ha,Jr hb]
    have key:binOp .and t (u32 a) (u32 b)=pure (.int .u32 (IntKind.u32.wrap (((BitVec.ofInt 32 (a:Int)) &&& (BitVec.ofInt 32 (b:Int))).toNat:Int))):=rfl
    rw [key,h2,O0 h1])
theorem val_or32 {t u:TypeId} {x y:Operand} {a b:Nat} (ho:o.op=.binOp .or t x y u) (hx:ev L x=some (u32 a)) (hy:ev L y=some (u32 b)) (ha:a<4294967296) (hb:b<4294967296):Val P L w o (u32 (a ||| b)):=
  D9 ho hx hy (by
    have h1:a ||| b<2 ^ 32:=Nat.or_lt_two_pow ha hb
    have h2:((BitVec.ofInt 32 (a:Int)) |||(BitVec.ofInt 32 (b:Int))).toNat=a ||| b:=by rw [BitVec.toNat_or,Jr ha,Jr hb]
    have key:binOp .or t (u32 a) (u32 b)=pure (.int .u32 (IntKind.u32.wrap (((BitVec.ofInt 32 (a:Int)) |||(BitVec.ofInt 32 (b:Int))).toNat:Int))):=rfl
    rw [key,h2,O0 h1])
theorem val_shift {op:BinOp} {t u:TypeId} {x y:Operand} {k k':IntKind} {a b z:Int} (ho:o.op=.binOp op t x y u) (hop:op=.shl∨op=.shr) (hx:ev L x=some (.int k a)) (hy:ev L y=some (.int k' b))
    (hz:Op.shift op k a k' b=pure (.int k z)):Val P L w o (.int k z):=fun ρ ha=>by
  have h1:=ha.ev (by rw [ho];simp [Op.operands]) hx
  have h2:=ha.ev (by rw [ho];simp [Op.operands]) hy
  rcases hop with rfl|rfl
  · simp only [execOp,ho,h1,h2,eqGuard,binOp,hz];rfl
  · simp only [execOp,ho,h1,h2,eqGuard,binOp,hz];rfl
theorem val_shl32 {t u:TypeId} {x y:Operand} {q:Nat} (ho:o.op=.binOp .shl t x y u) (hx:ev L x=some (u32 1)) (hy:ev L y=some (int q)) (hq:q<32):Val P L w o (u32 (2 ^ q)):=
  val_shift ho (.inl rfl) hx hy (by
    have h0:¬ ((q:Int)<0):=by omega
    have h2:(2:Nat) ^ q<4294967296:=Nat.pow_lt_pow_right (by omega) (m:=q) (n:=32) hq
    have h1:((1:Nat):Int)*2 ^ q=((2 ^ q:Nat):Int):=by simp
    unfold Op.shift
    rw [if_neg h0]
    simp only [IntKind.bits,Int.toNat_natCast]
    rw [Nat.min_eq_left (Nat.le_of_lt hq),h1,O0 h2])
theorem val_shr32 {t u:TypeId} {x y:Operand} {m q:Nat} (ho:o.op=.binOp .shr t x y u) (hx:ev L x=some (u32 m)) (hy:ev L y=some (int q)) (hq:q<32):Val P L w o (u32 (m >>> q)):=
  val_shift ho (.inr rfl) hx hy (by
    have h0:¬ ((q:Int)<0):=by omega
    unfold Op.shift
    rw [if_neg h0]
    simp only [IntKind.bits,Int.toNat_natCast]
    rw [Nat.min_eq_left (Nat.le_of_lt hq)]
    have:((m:Int)).fdiv (2 ^ q)=((m >>> q:Nat):Int):=by
      rw [Nat.shiftRight_eq_div_pow]
      rw [Int.fdiv_eq_ediv_of_nonneg _ (Int.pow_nonneg (by omega))]
      simp
    rw [this])
end
def MaskIs (m:Nat) (S:Int→Bool):Prop:=m<2 ^ 24∧∀ q:Nat,m.testBit q=S (q:Int)
theorem MaskIs.lt {m:Nat} {S:Int→Bool} (h:MaskIs m S):m<4294967296:=by have:=h.1;omega
theorem Me:MaskIs 0 (fun _=>false):=⟨by decide,fun q=>by simp⟩
theorem mask_or {m t:Nat} {S:Int→Bool} (h:MaskIs m S) (ht:t<24):MaskIs (m ||| 2 ^ t) (fun q=>S q||q==(t:Int)):=by
  refine⟨Nat.or_lt_two_pow h.1 (Nat.pow_lt_pow_right (by omega) ht),fun q=>?_⟩
  rw [Nat.testBit_or,h.2 q,Nat.testBit_two_pow]
  congr 1
  by_cases e:t=q
  · subst e;simp
  · rw [decide_eq_false e];symm;simp;omega
theorem mask_bit {m q:Nat} {S:Int→Bool} (h:MaskIs m S):(m >>> q) &&& 1=if S (q:Int) then 1 else 0:=by
  rw [← h.2 q,Nat.testBit]
  rcases Nat.mod_two_eq_zero_or_one (m >>> q) with e|e
  · rw [Nat.and_one_is_mod,e];simp [Nat.one_and_eq_mod_two,e]
  · rw [Nat.and_one_is_mod,e];simp [Nat.one_and_eq_mod_two,e]
theorem I1 {m:Nat} {S T:Int→Bool} (h:MaskIs m S) (e:∀ q:Nat,S (q:Int)=T (q:Int)):MaskIs m T:=⟨h.1,fun q=>(h.2 q).trans (e q)⟩
theorem mask_ne {m:Nat} {S:Int→Bool} (h:MaskIs m S):m≠0↔∃ q:Nat,S (q:Int)=true:=by
  constructor
  · intro hm
    obtain⟨i,hi⟩:=Nat.exists_testBit_of_ne_zero hm
    exact⟨i,(h.2 i).symm.trans hi⟩
  · rintro⟨q,hq⟩ rfl
    rw [← h.2 q] at hq;simp at hq
theorem mask_and {m k:Nat} {S T:Int→Bool} (h:MaskIs m S) (h':MaskIs k T):MaskIs (m &&& k) (fun q=>S q&&T q):=
  ⟨Nat.lt_of_le_of_lt Nat.and_le_left h.1,fun q=>by rw [Nat.testBit_and,h.2 q,h'.2 q]⟩
end Go.En
namespace Go.Proofs.YtjicdgejhkgpgaaGreatDoor
open Go.Lib
def encN (p:Nat):List Nat:=
  if p<128 then [p]
  else if p<2048 then [192+p / 64,128+p % 64]
  else if p<65536 then [224+p / 4096,128+p / 64 % 64,128+p % 64]
  else [240+p / 262144,128+p / 4096 % 64,128+p / 64 % 64,128+p % 64]
def encB (p:Nat):List UInt8:=(encN p).map UInt8.ofNat
def scal (p:Nat):Bool:=decide (p≤1114111)&&(decide (p<55296)||decide (57343<p))
def K9 (b:Nat):Nat:=if 240≤b then b-240 else if 224≤b then b-224 else if 192≤b then b-192 else b
def Gf (b:Nat):Nat:=if 240≤b then 4 else if 224≤b then 3 else if 192≤b then 2 else 1
def accP (d:List UInt8):Nat→Nat
  | 0=>0
  | 1=>K9 (d.getD 0 0).toNat
  | k+1=>accP d k*64+(d.getD k 0).toNat % 64
def C3 (d:List UInt8):Option (Nat × Nat):=
  let n:=Gf (d.getD 0 0).toNat
  if d.length<n then none
  else if scal (accP d n)=true∧encB (accP d n)=d.take n then some (accP d n,n) else none
theorem Ny {p:Nat} (h:scal p=true):∀ x∈encN p,x<256:=by
  simp only [scal,Bool.and_eq_true,decide_eq_true_eq] at h
  intro x hx
  unfold encN at hx
  split at hx
  · simp at hx;omega
  · split at hx
    · simp at hx;omega
    · split at hx
      · simp at hx;omega
      · simp at hx;omega
theorem take1 {d:List UInt8} (h:1≤d.length):d.take 1=[d.getD 0 0]:=by
  match d,h with|a::r,_=>simp
theorem take2 {d:List UInt8} (h:2≤d.length):d.take 2=[d.getD 0 0,d.getD 1 0]:=by
  match d,h with|a::b::r,_=>simp
theorem take3 {d:List UInt8} (h:3≤d.length):d.take 3=[d.getD 0 0,d.getD 1 0,d.getD 2 0]:=by
  match d,h with|a::b::c::r,_=>simp
theorem take4 {d:List UInt8} (h:4≤d.length):d.take 4=[d.getD 0 0,d.getD 1 0,d.getD 2 0,d.getD 3 0]:=by
  match d,h with|a::b::c::e::r,_=>simp
theorem K7 {x:Nat} {b:UInt8} (h:x<256):UInt8.ofNat x=b↔x=b.toNat:=by
  rw [← UInt8.toNat_inj,UInt8.toNat_ofNat',Nat.mod_eq_of_lt h]
def firstN (n b0 b1 b2 b3:Nat):Option (Nat × Nat):=
  if b0<192 then (if b0<128 then some (b0,1) else none)
  else if b0<224 then (if n<2 then none else if b1 / 64=2∧128≤(b0-192)*64+b1 % 64 then some ((b0-192)*64+b1 % 64,2) else none)
  else if b0<240 then (if n<3 then none else if b1 / 64=2∧b2 / 64=2∧2048≤((b0-224)*64+b1 % 64)*64+b2 % 64∧(((b0-224)*64+b1 % 64)*64+b2 % 64<55296∨57343<((b0-224)*64+b1 % 64)*64+b2 % 64) then some (((b0-224)*64+b1 % 64)*64+b2 % 64,3) else none)
  else (if n<4 then none else if b1 / 64=2∧b2 / 64=2∧b3 / 64=2∧65536≤(((b0-240)*64+b1 % 64)*64+b2 % 64)*64+b3 % 64∧(((b0-240)*64+b1 % 64)*64+b2 % 64)*64+b3 % 64≤1114111 then some ((((b0-240)*64+b1 % 64)*64+b2 % 64)*64+b3 % 64,4) else none)
theorem encB_1 {p:Nat} {a:UInt8} (hs:scal p=true):encB p=[a]↔p<128∧p=a.toNat:=by
  have hlt:=Ny hs
  unfold encB
  unfold encN at hlt ⊢
  split
  · rename_i h;simp [h] at hlt ⊢;rw [K7 hlt]
  · split
    · simp;omega
    · split <;>(simp;omega)
theorem encB_2 {p:Nat} {a b:UInt8} (hs:scal p=true):encB p=[a,b]↔128≤p∧p<2048∧192+p / 64=a.toNat∧128+p % 64=b.toNat:=by
  have hlt:=Ny hs
  unfold encB
  unfold encN at hlt ⊢
  split
  · simp;omega
  · split
    · rename_i h1 h2;rw [if_neg h1,if_pos h2] at hlt
      simp at hlt
      simp only [List.map_cons,List.map_nil,List.cons.injEq,and_true]
      rw [K7 hlt.1,K7 hlt.2]
      omega
    · split <;>(simp;omega)
theorem encB_3 {p : Nat} {a b c : UInt8} (hs : scal p = true) : encB p = [a, b, c] ↔ 2048 ≤ p ∧ p < 65536 ∧ 224 + p / 4096 = a.toNat ∧ 128 + p / 64 % 64 = b.toNat ∧ 128 + p % 64 = c.toNat := by
  have hlt:=Ny hs
  unfold encB
  unfold encN at hlt ⊢
  split
  · simp;omega
  · split
    · simp;omega
    · split
      · rename_i h1 h2 h3;rw [if_neg h1,if_neg h2,if_pos h3] at hlt
        simp at hlt
        simp only [List.map_cons,List.map_nil,List.cons.injEq,and_true]
        rw [K7 hlt.1,K7 hlt.2.1,K7 hlt.2.2]
        omega
      · simp;omega
theorem encB_4 {p : Nat} {a b c d : UInt8} (hs : scal p = true) : encB p = [a, b, c, d] ↔ 65536 ≤ p ∧ 240 + p / 262144 = a.toNat ∧ 128 + p / 4096 % 64 = b.toNat ∧ 128 + p / 64 % 64 = c.toNat ∧ 128 + p % 64 = d.toNat := by
  have hlt:=Ny hs
  unfold encB
  unfold encN at hlt ⊢
  split
  · simp;omega
  · split
    · simp;omega
    · split
      · simp;omega
      · rename_i h1 h2 h3;rw [if_neg h1,if_neg h2,if_neg h3] at hlt
        simp at hlt
        simp only [List.map_cons,List.map_nil,List.cons.injEq,and_true]
        rw [K7 hlt.1,K7 hlt.2.1,K7 hlt.2.2.1,K7 hlt.2.2.2]
        omega
theorem Di {p:Nat}:scal p=true↔p≤1114111∧(p<55296∨57343<p):=by simp [scal]
theorem Nt {α:Type} {p q:Prop} [Decidable p] [Decidable q] (x y:α) (h:p↔q):(if p then x else y)=if q then x else y:=by
  by_cases hp:p
  · rw [if_pos hp,if_pos (h.1 hp)]
  · rw [if_neg hp,if_neg (fun hq=>hp (h.2 hq))]
theorem firstR_N (d : List UInt8) (hd : d ≠ []) : C3 d = firstN d.length (d.getD 0 0).toNat (d.getD 1 0).toNat (d.getD 2 0).toNat (d.getD 3 0).toNat := by
  have hlen:1≤d.length:=List.length_pos_iff.2 hd
  have h0:=UInt8.toNat_lt (d.getD 0 0)
  have h1:=UInt8.toNat_lt (d.getD 1 0)
  have h2:=UInt8.toNat_lt (d.getD 2 0)
  have h3:=UInt8.toNat_lt (d.getD 3 0)
  unfold C3 firstN
  by_cases c1:(d.getD 0 0).toNat<192
  · have hn:Gf (d.getD 0 0).toNat=1:=by unfold Gf;rw [if_neg (by omega),if_neg (by omega),if_neg (by omega)]
    have hp:accP d 1=(d.getD 0 0).toNat:=by simp only [accP];unfold K9;rw [if_neg (by omega),if_neg (by omega),if_neg (by omega)]
    simp only [hn,hp]
    rw [if_neg (by omega),if_pos c1,take1 hlen]
    have hs:scal (d.getD 0 0).toNat=true:=Di.2 (by omega)
    refine Nt _ _ ?_
    rw [encB_1 hs]
    exact⟨fun h=>h.2.1,fun h=>⟨hs,h,rfl⟩⟩
  · rw [if_neg c1]
    by_cases c2:(d.getD 0 0).toNat<224
    · have hn:Gf (d.getD 0 0).toNat=2:=by unfold Gf;rw [if_neg (by omega),if_neg (by omega),if_pos (by omega)]
      have hp:accP d 2=((d.getD 0 0).toNat-192)*64+(d.getD 1 0).toNat % 64:=by simp only [accP];unfold K9;rw [if_neg (by omega),if_neg (by omega),if_pos (by omega)]
      simp only [hn,hp]
      rw [if_pos c2]
      by_cases cl:d.length<2
      · rw [if_pos cl,if_pos cl]
      · rw [if_neg cl,if_neg cl,take2 (by omega)]
        generalize hq:((d.getD 0 0).toNat-192)*64+(d.getD 1 0).toNat % 64=p at*
        have hs:scal p=true:=Di.2 (by omega)
        refine Nt _ _ ?_
        rw [encB_2 hs]
        constructor
        · rintro⟨_,a,b,c,e⟩;omega
        · rintro⟨a,b⟩;exact⟨hs,by omega,by omega,by omega,by omega⟩
    · rw [if_neg c2]
      by_cases c3:(d.getD 0 0).toNat<240
      · have hn:Gf (d.getD 0 0).toNat=3:=by unfold Gf;rw [if_neg (by omega),if_pos (by omega)]
        have hp:accP d 3=(((d.getD 0 0).toNat-224)*64+(d.getD 1 0).toNat % 64)*64+(d.getD 2 0).toNat % 64:=by simp only [accP];unfold K9;rw [if_neg (by omega),if_pos (by omega)]
        simp only [hn,hp]
        rw [if_pos c3]
        by_cases cl:d.length<3
        · rw [if_pos cl,if_pos cl]
        · rw [if_neg cl,if_neg cl,take3 (by omega)]
          generalize hq:(((d.getD 0 0).toNat-224)*64+(d.getD 1 0).toNat % 64)*64+(d.getD 2 0).toNat % 64=p at*
          refine Nt _ _ ?_
          constructor
          · rintro⟨hs,hh⟩
            rw [encB_3 hs] at hh
            rw [Di] at hs
            omega
          · rintro⟨a,b,c,e⟩
            have hs:scal p=true:=Di.2 (by omega)
            exact⟨hs,(encB_3 hs).2 (by omega)⟩
      · have hn:Gf (d.getD 0 0).toNat=4:=by unfold Gf;rw [if_pos (by omega)]
        have hp:accP d 4=((((d.getD 0 0).toNat-240)*64+(d.getD 1 0).toNat % 64)*64+(d.getD 2 0).toNat % 64)*64+(d.getD 3 0).toNat % 64:=by simp only [accP];unfold K9;rw [if_pos (by omega)]
        simp only [hn,hp]
        rw [if_neg c3]
        by_cases cl:d.length<4
        · rw [if_pos cl,if_pos cl]
        · rw [if_neg cl,if_neg cl,take4 (by omega)]
          generalize hq:((((d.getD 0 0).toNat-240)*64+(d.getD 1 0).toNat % 64)*64+(d.getD 2 0).toNat % 64)*64+(d.getD 3 0).toNat % 64=p at*
          refine Nt _ _ ?_
          constructor
          · rintro⟨hs,hh⟩
            rw [encB_4 hs] at hh
            rw [Di] at hs
            omega
          · rintro⟨a,b,c,e,f⟩
            have hs:scal p=true:=Di.2 (by omega)
            exact⟨hs,(encB_4 hs).2 (by omega)⟩
theorem firstN_eq (n b0 b1 b2 b3 : Nat) (h0 : b0 < 256) (hn : 1 ≤ n) : firstN n b0 b1 b2 b3 = if (decodeN n b0 b1 b2 b3).1 = 65533 ∧ (decodeN n b0 b1 b2 b3).2 = 1 then none else some (decodeN n b0 b1 b2 b3) := by
  unfold firstN decodeN
  by_cases c0:b0<128
  · rw [if_pos (show b0<192 by omega),if_pos c0,if_pos c0,if_neg (show ¬ (b0=65533∧1=1) by omega)]
  · rw [if_neg c0,if_neg c0]
    by_cases c1:b0<192
    · rw [if_pos c1,if_neg (show ¬ (b0 / 32=6∧1<n∧b1 / 64=2) by omega),if_neg (show ¬ (b0 / 16=14∧(1<n∧b1 / 64=2)∧2<n∧b2 / 64=2) by omega),if_neg (show ¬ (b0 / 8=30∧(1<n∧b1 / 64=2)∧(2<n∧b2 / 64=2)∧3<n∧b3 / 64=2) by omega)];simp
    · rw [if_neg c1]
      by_cases c2:b0<224
      · rw [if_pos c2]
        have e:b0 % 32=b0-192:=by omega
        rw [e]
        by_cases cl:n<2
        · rw [if_pos cl,if_neg (show ¬ (b0 / 32=6∧1<n∧b1 / 64=2) by omega),if_neg (show ¬ (b0 / 16=14∧(1<n∧b1 / 64=2)∧2<n∧b2 / 64=2) by omega),if_neg (show ¬ (b0 / 8=30∧(1<n∧b1 / 64=2)∧(2<n∧b2 / 64=2)∧3<n∧b3 / 64=2) by omega)];simp
        · rw [if_neg cl]
          by_cases cb:b1 / 64=2
          · rw [if_pos (show b0 / 32=6∧1<n∧b1 / 64=2 by omega)]
            by_cases cp:128≤(b0-192)*64+b1 % 64
            · rw [if_pos ⟨cb,cp⟩,if_pos cp,if_neg (by simp)]
            · rw [if_neg (fun h=>cp h.2),if_neg cp];simp
          · rw [if_neg (fun h=>cb h.1),if_neg (show ¬ (b0 / 32=6∧1<n∧b1 / 64=2) by omega),if_neg (show ¬ (b0 / 16=14∧(1<n∧b1 / 64=2)∧2<n∧b2 / 64=2) by omega),if_neg (show ¬ (b0 / 8=30∧(1<n∧b1 / 64=2)∧(2<n∧b2 / 64=2)∧3<n∧b3 / 64=2) by omega)];simp
      · rw [if_neg c2,if_neg (show ¬ (b0 / 32=6∧1<n∧b1 / 64=2) by omega)]
        by_cases c3:b0<240
        · rw [if_pos c3]
          have e:b0 % 16*4096+b1 % 64*64+b2 % 64=((b0-224)*64+b1 % 64)*64+b2 % 64:=by omega
          rw [e]
          have hb:((b0-224)*64+b1 % 64)*64+b2 % 64≤1114111:=by omega
          generalize ((b0-224)*64+b1 % 64)*64+b2 % 64=p at*
          by_cases cl:n<3
          · rw [if_pos cl,if_neg (show ¬ (b0 / 16=14∧(1<n∧b1 / 64=2)∧2<n∧b2 / 64=2) by omega),if_neg (show ¬ (b0 / 8=30∧(1<n∧b1 / 64=2)∧(2<n∧b2 / 64=2)∧3<n∧b3 / 64=2) by omega)];simp
          · rw [if_neg cl]
            by_cases cb:b1 / 64=2∧b2 / 64=2
            · rw [if_pos (show b0 / 16=14∧(1<n∧b1 / 64=2)∧2<n∧b2 / 64=2 by omega)]
              by_cases cp:2048≤p∧(p<55296∨57343<p)
              · rw [if_pos ⟨cb.1,cb.2,cp⟩,if_pos (show p≥2048∧(p<55296∨57344≤p∧p≤1114111) by omega),if_neg (by simp)]
              · rw [if_neg (fun h=>cp h.2.2),if_neg (show ¬ (p≥2048∧(p<55296∨57344≤p∧p≤1114111)) by omega)];simp
            · rw [if_neg (fun h=>cb ⟨h.1,h.2.1⟩),if_neg (show ¬ (b0 / 16=14∧(1<n∧b1 / 64=2)∧2<n∧b2 / 64=2) by omega),if_neg (show ¬ (b0 / 8=30∧(1<n∧b1 / 64=2)∧(2<n∧b2 / 64=2)∧3<n∧b3 / 64=2) by omega)];simp
        · rw [if_neg c3,if_neg (show ¬ (b0 / 16=14∧(1<n∧b1 / 64=2)∧2<n∧b2 / 64=2) by omega)]
          by_cases c4:b0<248
          · have e:b0 % 8*262144+b1 % 64*4096+b2 % 64*64+b3 % 64=(((b0-240)*64+b1 % 64)*64+b2 % 64)*64+b3 % 64:=by omega
            rw [e]
            generalize (((b0-240)*64+b1 % 64)*64+b2 % 64)*64+b3 % 64=p at*
            by_cases cl:n<4
            · rw [if_pos cl,if_neg (show ¬ (b0 / 8=30∧(1<n∧b1 / 64=2)∧(2<n∧b2 / 64=2)∧3<n∧b3 / 64=2) by omega)];simp
            · rw [if_neg cl]
              by_cases cb:b1 / 64=2∧b2 / 64=2∧b3 / 64=2
              · rw [if_pos (show b0 / 8=30∧(1<n∧b1 / 64=2)∧(2<n∧b2 / 64=2)∧3<n∧b3 / 64=2 by omega)]
                by_cases cp:65536≤p∧p≤1114111
                · rw [if_pos ⟨cb.1,cb.2.1,cb.2.2,cp⟩,if_pos (show p≥65536∧(p<55296∨57344≤p∧p≤1114111) by omega),if_neg (by simp)]
                · rw [if_neg (fun h=>cp h.2.2.2),if_neg (show ¬ (p≥65536∧(p<55296∨57344≤p∧p≤1114111)) by omega)];simp
              · rw [if_neg (fun h=>cb ⟨h.1,h.2.1,h.2.2.1⟩),if_neg (show ¬ (b0 / 8=30∧(1<n∧b1 / 64=2)∧(2<n∧b2 / 64=2)∧3<n∧b3 / 64=2) by omega)];simp
          · rw [if_neg (show ¬ (b0 / 8=30∧(1<n∧b1 / 64=2)∧(2<n∧b2 / 64=2)∧3<n∧b3 / 64=2) by omega)]
            by_cases cl:n<4
            · rw [if_pos cl];simp
            · rw [if_neg cl,if_neg (fun h=>by have:=h.2.2.2.2;omega)];simp
theorem firstR_eq (d:List UInt8) (hd:d≠[]):C3 d=if (decodeL d).1=65533∧(decodeL d).2=1 then none else some (decodeL d):=by
  rw [firstR_N d hd,decodeL_N]
  exact firstN_eq _ _ _ _ _ (UInt8.toNat_lt _) (List.length_pos_iff.2 hd)
end Go.Proofs.YtjicdgejhkgpgaaGreatDoor
