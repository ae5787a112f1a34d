/-
  Documents, plainly: what the reference's Light tells of a document.
-/
import Derived.Test.YtnifmbbpfdghmaaGreatDoorY1
import Derived.Test.YtnifmbbpfdghmaaGreatDoorY2
set_option linter.all false
namespace Go.Proofs.YtnifmbbpfdghmaaGreatDoor
open Go.RowKit Go.En
theorem find_here {α:Type} {f:α→Bool}:∀ {l:List α} {i:Nat} {a:α},(∀ j,j<i→∀ b,l[j]?=some b→f b=false)→l[i]?=some a→f a=true→l.find? f=some a
  | [],_,_,_,h,_=>by simp at h
  | b::l,0,a,_,h,hf=>by simp at h;subst h;rw [List.find?_cons_of_pos hf]
  | b::l,i+1,a,hall,h,hf=>by
    rw [List.find?_cons_of_neg (by simp [hall 0 (by omega) b rfl])]
    exact find_here (i:=i) (fun j hj c hc=>hall (j+1) (by omega) c (by simpa using hc)) (by simpa using h) hf
theorem calls_mono {P:Program} {f:FuncId} {args:Array Value} {w:World} {S S':Value→World→Prop} (h:Calls P f args w (Rt S)) (hi:∀ v w',S v w'→S' v w'):Calls P f args w (Rt S'):=
  h.mono fun _ _ ⟨v,he,hs⟩=>⟨v,he,hi _ _ hs⟩
structure Tier where
  name:List UInt8
  kind:Int
  role:Int
  parent:Int
structure Note where
  id:Int
  tier:Int
  parent:Int
  frm:Int
  til:Int
  rank:Int
  text:List UInt8
instance:Rep Tier where
  sz:=4
  pos:=by decide
  at_ _ _ t cs:=cs=[str t.name,int t.kind,int t.role,int t.parent]
  len h:=by rw [h];rfl
  one h:=by rw [h];rfl
  move h _:=h
instance:Rep Note where
  sz:=7
  pos:=by decide
  at_ _ _ t cs:=cs=[int t.id,int t.tier,int t.parent,int t.frm,int t.til,int t.rank,str t.text]
  len h:=by rw [h];rfl
  one h:=by rw [h];rfl
  move h _:=h
theorem tier_elem {G:Nat→Prop} {w:World} {b off n cap:Nat} {xs:List Tier} (h:SlG G w (.slice (some ⟨b,off,none⟩) n cap) xs) {i:Nat} {t:Tier} (hx:xs[i]?=some t):At w b (off+i*4) [str t.name,int t.kind,int t.role,int t.parent]:=by
  obtain⟨cs,h1,h2⟩:=h.elem hx
  rw [show cs=_ from h1] at h2
  exact h2
theorem note_elem {G:Nat→Prop} {w:World} {b off n cap:Nat} {xs:List Note} (h:SlG G w (.slice (some ⟨b,off,none⟩) n cap) xs) {i:Nat} {t:Note} (hx:xs[i]?=some t):At w b (off+i*7) [int t.id,int t.tier,int t.parent,int t.frm,int t.til,int t.rank,str t.text]:=by
  obtain⟨cs,h1,h2⟩:=h.elem hx
  rw [show cs=_ from h1] at h2
  exact h2
structure Dc where
  rid:Int
  rname:List UInt8
  len:Int
  day:Int
  sp:List Int
  tiers:List Tier
  notes:List Note
def DcAt (w:World) (v:Value) (d:Dc):Prop:=∃ sv tv nv,v=.agg #[int d.rid,str d.rname,int d.len,int d.day,sv,tv,nv]∧Sl w sv d.sp∧Sl w tv d.tiers∧Sl w nv d.notes
theorem DcAt.ext {w w':World} {v:Value} {d:Dc} (h:DcAt w v d) (x:Ext w w'):DcAt w' v d:=by
  obtain⟨sv,tv,nv,e,h1,h2,h3⟩:=h
  exact⟨sv,tv,nv,e,h1.ext x,h2.ext x,h3.ext x⟩
def tierC (t:Tier):List Value:=[str t.name,int t.kind,int t.role,int t.parent]
def noteC (n:Note):List Value:=[int n.id,int n.tier,int n.parent,int n.frm,int n.til,int n.rank,str n.text]
def timedB (k:Int):Bool:=decide (k=0)||(decide (k=1)||decide (k=2))
theorem timed_iff {k:Int}:timedB k=true↔k=0∨k=1∨k=2:=by simp [timedB]
def getF (ns:List Note) (id:Int):Option Note:=ns.find? fun n=>decide (n.id=id)
def rightB (a b:Int):Bool:=decide (0≤a)&&(decide (a<b)&&decide (b≤86400000))
structure Spn where
  frm:Int
  til:Int
instance:Rep Spn where
  sz:=2
  pos:=by decide
  at_ _ _ t cs:=cs=[int t.frm,int t.til]
  len h:=by rw [h];rfl
  one h:=by rw [h];rfl
  move h _:=h
theorem spn_elem {G:Nat→Prop} {w:World} {b off n cap:Nat} {xs:List Spn} (h:SlG G w (.slice (some ⟨b,off,none⟩) n cap) xs) {i:Nat} {t:Spn} (hx:xs[i]?=some t):At w b (off+i*2) [int t.frm,int t.til]:=by
  obtain⟨cs,h1,h2⟩:=h.elem hx
  rw [show cs=_ from h1] at h2
  exact h2
theorem spns_ats {G:Nat→Prop} (w:World):∀ l:List Spn,AtsG G w l (l.map fun t=>[int t.frm,int t.til])
  | []=>trivial
  | _::r=>⟨rfl,spns_ats w r⟩
theorem notes_ats {G:Nat→Prop} (w:World):∀ l:List Note,AtsG G w l (l.map noteC)
  | []=>trivial
  | _::r=>⟨rfl,notes_ats w r⟩
theorem tiers_ats {G:Nat→Prop} (w:World):∀ l:List Tier,AtsG G w l (l.map tierC)
  | []=>trivial
  | _::r=>⟨rfl,tiers_ats w r⟩
def zeroN:Note:=⟨0,0,0,0,0,0,[]⟩
def getR (ns:List Note) (id:Int):Value:=match getF ns id with|some n=>.tuple #[.agg (noteC n).toArray,.bool true]|none=>.tuple #[.agg (noteC zeroN).toArray,.bool false]
structure TierOK (ts:List Tier) (i:Nat) (t:Tier):Prop where
  kind:0≤t.kind∧t.kind≤4
  role:0≤t.role∧t.role≤5
  uniq:t.role≠0→∀ k p,k<i→ts[k]?=some p→p.role≠t.role
  root:t.kind=0→t.parent = -1
  par:t.kind≠0→0≤t.parent∧t.parent<i
  tim:t.kind=1∨t.kind=2→∃ p,ts[t.parent.toNat]?=some p∧timedB p.kind=true
  kr:(t.role=1→t.kind=0)∧(t.role=3→t.kind=3)∧(t.role=4∨t.role=5→t.kind=4)
  over:(t.role=2∨t.role=5→t.kind≠0∧∃ p,ts[t.parent.toNat]?=some p∧p.role=1)∧(t.role=3→∃ p,ts[t.parent.toNat]?=some p∧p.role=2)∧(t.role=4→∃ p,ts[t.parent.toNat]?=some p∧p.role=3)
structure PlacedOK (d:Dc) (n:Note) (t:Tier):Prop where
  root:t.kind=0→n.parent=0
  par:t.kind≠0→∃ p,getF d.notes n.parent=some p∧p.tier=t.parent
  off:timedB t.kind=false→n.frm=0∧n.til=0
  on:timedB t.kind=true→rightB n.frm n.til=true
  len:t.kind=0→n.til≤d.len
  inn:t.kind=1∨t.kind=2→∀ p,getF d.notes n.parent=some p→p.frm≤n.frm∧n.til≤p.til
  rank:0≤n.rank∧(t.kind≠3→n.rank=0)
def TextOK (s:List UInt8):Prop:=s.length≤200∧∃ zs,points s=some zs∧∀ z∈zs,32≤z∧z≠127
structure NoteOK (d:Dc) (i:Nat) (n:Note):Prop where
  id:1≤n.id∧n.id≤1099511627776
  inc:∀ m,0<i→d.notes[i-1]?=some m→m.id<n.id
  text:TextOK n.text
  placed:∃ t:Tier,∃ k:Nat,n.tier=(k:Int)∧d.tiers[k]?=some t∧PlacedOK d n t
def sibs (ns:List Note) (t p:Int):List Note:=ns.filter fun n=>decide (n.tier=t)&&decide (n.parent=p)
def NoOver (l:List Note):Prop:=∀(i k:Nat) (a b:Note),k<i→l[i]?=some a→l[k]?=some b→¬ (a.frm<b.til∧b.frm<a.til)
def Ranked (l:List Note):Prop:=∀ n:Nat,n<l.length→∃ x∈l,x.rank=(n:Int)
theorem sibs_take {ns:List Note} {t p:Int} {i:Nat} {x:Note} (h:ns[i]?=some x):sibs (ns.take (i+1)) t p=sibs (ns.take i) t p++(if x.tier=t∧x.parent=p then [x] else []):=by
  obtain⟨hi,rfl⟩:=List.getElem?_eq_some_iff.1 h
  unfold sibs
  rw [List.take_succ_eq_append_getElem hi,List.filter_append]
  congr 1
  by_cases h1:ns[i].tier=t <;> by_cases h2:ns[i].parent=p <;> simp [h1,h2]
theorem sibs_len (ns:List Note) (t p:Int):(sibs ns t p).length≤ns.length:=List.length_filter_le _ _
structure SibsOK (kind:Int) (l:List Note):Prop where
  apart:timedB kind=true→NoOver l
  series:kind=3→Ranked l
  label:kind=4→l.length≤1
def TierNotes (d:Dc) (k:Nat) (t:Tier):Prop:=∀ n∈d.notes,n.tier=(k:Int)→SibsOK t.kind (sibs d.notes (k:Int) n.parent)
structure LightD (d:Dc):Prop where
  nnotes:d.notes.length≤14
  ntiers:d.tiers.length≤6
  nsp:d.sp.length≤6
  tiers:∀ i t,d.tiers[i]?=some t→TierOK d.tiers i t
  len:0≤d.len∧d.len≤86400000
  notes:∀ i n,d.notes[i]?=some n→NoteOK d i n
  sib:∀ k t,d.tiers[k]?=some t→TierNotes d k t
end Go.Proofs.YtnifmbbpfdghmaaGreatDoor
