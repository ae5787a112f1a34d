/-
  Walks of the law of match: its example, its small functions, awake.
-/
import Derived.Test.YtnifmbbpfdghmaaGreatDoorNl
import Derived.Test.YtnifmbbpfdghmaaGreatDoorYn
set_option linter.all false
namespace Go.Proofs.YtnifmbbpfdghmaaGreatDoor
open Go.RowKit Go.En
theorem RQ_valV {P:Program} {n:Nat} {ops:List Oper} {Q:Post} {o:Oper} {rest tl:List Oper} {G:List (Nat × Ent)} {w0:World} {d:Nat} {v:Value} (hg:ggst ops G o=some true) (hd:odst n o.dst=some d)
    (h:∀ w δ,Ext w0 w→SatO o δ G w→Val P (mat δ G) w o v) (k:RQ P n ops w0 Q rest tl ((d,.v v)::G)):RQ P n ops w0 Q (o::rest) tl G:=
  RW_op (T:=.v v) hg (odst_eq hd).2 (fun _ _ _ _ _ h=>h) (fun w δ hw hs ρ ha=>.inl ⟨v,w,h w δ hw hs ρ ha,rfl,Ext.refl w⟩) (by rw [(odst_eq hd).1];exact k)
attribute [local irreducible] E EL K Val Enters Rt Calls bodyPost Code.wp RQ
theorem lit_ints {w:World} {b:Nat} (l:List Int) (hl:l.length≤1000) (h:Row w b 3 (l.map int)):Sl w (.slice (some ⟨b,0,none⟩) l.length l.length) l:=
  row_Sl (css:=l.map fun z=>[int z]) (by rw [ints_flat];exact h) (ints_ats _ _) (Nat.le_refl _) (by omega)
theorem ok_text (role:Int) (p:List UInt8):okQ (textQ role p):=by
  unfold textQ okQ
  exact⟨by omega,by omega,rfl,by unfold okAll;trivial⟩
theorem ok_two {op:Int} {a b:Qy} (h0:op≠0) (h3:op≠3) (h1:0≤op) (h2:op≤6) (ha:okQ a) (hb:okQ b):okQ (twoQ op a b):=by
  unfold twoQ okQ
  exact⟨h1,h2,by unfold kidsC;rw [if_neg h0,if_neg h3];rfl,by unfold okAll okAll okAll;exact⟨ha,hb,trivial⟩⟩
def textV (role:Int) (p:List UInt8):Value:=.agg #[int 0,int role,str p,.slice none 0 0]
theorem qat_rep {w:World} {q:Qy} {kv:Value} (h:Sl w kv q.kids):Rep.at_ Tt w q [int q.op,int q.role,str q.text,kv]:=by
  cases q
  exact qy_of h
structure AW (w0 w:World) (V:Value) (CS:List Value) (b1 b2 b3 b4:Nat):Prop where
  x:Ext w0 w
  d:DcAt w V exD
  r1:Row w b1 28 CS
  r2:Row w b2 36 [int 0,int 2,str baT,.slice none 0 0]
  r3:Row w b3 36 [int 0,int 2,str miT,.slice none 0 0]
  r4:Row w b4 36 [int 0,int 4,str dogT,.slice none 0 0]
  t:Tabs w
theorem AW.ext {w0 w w':World} {V:Value} {CS:List Value} {b1 b2 b3 b4:Nat} (h:AW w0 w V CS b1 b2 b3 b4) (x:Ext w w'):AW w0 w' V CS b1 b2 b3 b4:=
  ⟨h.x.trans x,h.d.ext x,h.r1.ext x,h.r2.ext x,h.r3.ext x,h.r4.ext x,Tabs.ext h.t x⟩
theorem ok_two2 {op:Int} {ra rb:Int} {pa pb:List UInt8} (h:(op≠0∧op≠3)∧0≤op∧op≤6):okQ (twoQ op (textQ ra pa) (textQ rb pb)):=ok_two h.1.1 h.1.2 h.2.1 h.2.2 (ok_text _ _) (ok_text _ _)
end Go.Proofs.YtnifmbbpfdghmaaGreatDoor
