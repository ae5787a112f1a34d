/-
  Own text of the proof.
-/
import Derived.Test.YtjicdgejhkgpgaaGreatDoorYd
import Derived.Test.YtjicdgejhkgpgaaGreatDoorI
import Derived.Test.YtjicdgejhkgpgaaGreatDoorYb
set_option linter.all false
namespace Go.Proofs.YtjicdgejhkgpgaaGreatDoor
section
open Go.Lib
theorem Fj {d:List UInt8} {p n:Nat} (h:C3 d=some (p,n)):1≤n∧n≤d.length∧scal p=true∧encB p=d.take n:=by
  unfold C3 at h
  dsimp only at h
  split at h
  · cases h
  · split at h
    · rename_i h1 h2
      simp only [Option.some.injEq,Prod.mk.injEq] at h
      obtain⟨rfl,rfl⟩:=h
      refine⟨?_,by omega,h2.1,h2.2⟩
      unfold Gf;(repeat' split) <;> omega
    · cases h
def My:Nat→List UInt8→Option (List Nat)
  | 0,_=>some []
  | k+1,d=>if d=[] then some [] else match C3 d with|none=>none|some (p,n)=>(My k (d.drop n)).map (p::·)
def points (d:List UInt8):Option (List Nat):=My d.length d
theorem Jo (k:Nat):My k []=some []:=by cases k <;> simp [My]
theorem P1 : ∀ (k m : Nat) (d : List UInt8), d.length ≤ k → d.length ≤ m → My k d = My m d
  | 0,m,d,hk,_=>by
    have:d=[]:=List.eq_nil_of_length_eq_zero (by omega)
    subst this;rw [Jo,Jo]
  | k+1,0,d,_,hm=>by
    have:d=[]:=List.eq_nil_of_length_eq_zero (by omega)
    subst this;rw [Jo,Jo]
  | k + 1, m + 1, d, hk, hm => by
    simp only [My]
    by_cases hd:d=[]
    · rw [if_pos hd,if_pos hd]
    · rw [if_neg hd,if_neg hd]
      cases hf:C3 d with
      | none=>rfl
      | some q=>
        obtain⟨p,n⟩:=q
        have:=Fj hf
        dsimp only
        rw [P1 k m (d.drop n) (by rw [List.length_drop];omega) (by rw [List.length_drop];omega)]
theorem Hz:points []=some []:=rfl
theorem Gw {d:List UInt8} (hd:d≠[]):points d=match C3 d with|none=>none|some (p,n)=>(points (d.drop n)).map (p::·):=by
  have hl:0<d.length:=List.length_pos_iff.2 hd
  obtain⟨k,hk⟩:∃ k,d.length=k+1:=⟨d.length-1,by omega⟩
  unfold points
  rw [hk]
  simp only [My]
  rw [if_neg hd]
  cases hf:C3 d with
  | none=>rfl
  | some q=>
    obtain⟨p,n⟩:=q
    have:=Fj hf
    dsimp only
    rw [P1 k (d.drop n).length _ (by rw [List.length_drop];omega) (Nat.le_refl _)]
theorem Hy : ∀ (k : Nat) (d : List UInt8), d.length ≤ k → (points d).isSome = validD d
  | 0,d,h=>by
    have:d=[]:=List.eq_nil_of_length_eq_zero (by omega)
    subst this;rfl
  | k + 1, d, h => by
    by_cases hd:d=[]
    · subst hd;rfl
    · rw [Gw hd,validD_step d hd,firstR_eq d hd]
      by_cases hb:(decodeL d).1=65533∧(decodeL d).2=1
      · rw [if_pos hb,if_pos hb];rfl
      · rw [if_neg hb,if_neg hb]
        have hw:=decodeL_width d
        have:=Hy k (d.drop (decodeL d).2) (by rw [List.length_drop];omega)
        rw [← this]
        show((points (d.drop (decodeL d).2)).map _).isSome=_
        cases points (d.drop (decodeL d).2) <;> rfl
theorem Gc : ∀ (k : Nat) (d : List UInt8) (zs : List Nat), d.length ≤ k → points d = some zs → zs.length ≤ d.length ∧ (∀ z ∈ zs, scal z = true) ∧ (zs.map encB).flatten = d
  | 0,d,zs,h,hp=>by
    have:d=[]:=List.eq_nil_of_length_eq_zero (by omega)
    subst this;rw [Hz] at hp;cases hp;simp
  | k + 1, d, zs, h, hp => by
    by_cases hd:d=[]
    · subst hd;rw [Hz] at hp;cases hp;simp
    · rw [Gw hd] at hp
      cases hf:C3 d with
      | none=>rw [hf] at hp;cases hp
      | some q=>
        obtain⟨p,n⟩:=q
        have h1:=Fj hf
        rw [hf] at hp
        dsimp only at hp
        cases hr:points (d.drop n) with
        | none=>rw [hr] at hp;cases hp
        | some ys=>
          rw [hr] at hp
          simp only [Option.map_some,Option.some.injEq] at hp
          subst hp
          obtain⟨h2,h3,h4⟩:=Gc k (d.drop n) ys (by rw [List.length_drop];omega) hr
          rw [List.length_drop] at h2
          refine⟨by simp;omega,fun z hz=>?_,?_⟩
          · rcases List.mem_cons.1 hz with rfl|hz
            · exact h1.2.2.1
            · exact h3 z hz
          · simp only [List.map_cons,List.flatten_cons,h4,h1.2.2.2,List.take_append_drop]
end
section
open Go.RowKit Go.En
def specialI (a:Int):Bool:=decide (a=42)||decide (a=63)||decide (a=92)
def scalI (a:Int):Bool:=decide (0≤a)&&decide (a≤1114111)&&(decide (a<55296)||decide (57343<a))
theorem byte_of {x:Nat} (h:x<256):Value.int .u8 ((UInt8.ofNat x).toNat:Int)=.int .u8 (x:Int):=by
  rw [UInt8.toNat_ofNat',Nat.mod_eq_of_lt h]
theorem enc_cells {p:Nat} (hs:∀ x∈encN p,x<256):(encB p).map (fun b=>Value.int .u8 b.toNat)=(encN p).map fun(x:Nat)=>Value.int .u8 (x:Int):=by
  unfold encB
  rw [List.map_map]
  exact List.map_congr_left fun x hx=>byte_of (hs x hx)
theorem encN_256 {p:Nat} (hp:p≤1114111):∀ x∈encN p,x<256:=by
  intro x hx
  unfold encN at hx
  split at hx
  · simp at hx;omega
  · split at hx
    · simp at hx;omega
    · split at hx
      · simp at hx;omega
      · simp at hx;omega
theorem scalI_eq (p:Nat):scalI (p:Int)=scal p:=by
  unfold scalI scal
  rw [Bool.eq_iff_iff];simp
  omega
def fR (d:List UInt8):Int × Int:=match C3 d with|none=>(-1,0)|some (p,n)=>((p:Int),(n:Int))
theorem accP_le (d:List UInt8):∀ k,k≤4→accP d k≤67108863∧(k≤3→accP d k≤1048575):=by
  have h0:K9 (d.getD 0 0).toNat≤255:=by
    have:=UInt8.toNat_lt (d.getD 0 0)
    unfold K9;split <;>(try split) <;>(try split) <;> omega
  intro k hk
  have h1:accP d 1=K9 (d.getD 0 0).toNat:=rfl
  have h2:accP d 2=accP d 1*64+(d.getD 1 0).toNat % 64:=rfl
  have h3:accP d 3=accP d 2*64+(d.getD 2 0).toNat % 64:=rfl
  have h4:accP d 4=accP d 3*64+(d.getD 3 0).toNat % 64:=rfl
  have hz:accP d 0=0:=rfl
  match k,hk with
  | 0,_=>omega
  | 1,_=>omega
  | 2,_=>omega
  | 3,_=>omega
  | 4,_=>omega
theorem drop_get {l:List UInt8} {i j:Nat} (h:i+j<l.length):l[i+j]?=some ((l.drop i).getD j 0):=by
  rw [List.getElem?_eq_getElem h]
  simp [List.getD_eq_getElem?_getD,List.getElem?_drop,h]
theorem leadN_1 (b:Nat):1≤Gf b∧Gf b≤4:=by unfold Gf;split <;>(try split) <;>(try split) <;> omega
def IntsOwn (w0 w:World) (v:Value) (zs:List Nat):Prop:=w.ownsRow w0.heap.size 3 1 v zs.length (zs.map fun(z:Nat)=>int (z:Int))
def PointsR (w:World) (r:Option (List Nat)) (u:Value) (w':World):Prop:=Ext w w'∧match r with|none=>u=.tuple #[.slice none 0 0,.bool false]|some zs=>∃ v,u=.tuple #[v,.bool true]∧IntsOwn w w' v zs
def q1 (c:UInt8):List UInt8:=if specialI (c.toNat:Int) then [92,c] else [c]
theorem getD_some {α:Type} {l:List α} {i:Nat} {d:α} (h:i<l.length):l[i]?=some (l.getD i d):=by
  rw [List.getElem?_eq_getElem h];simp [List.getD_eq_getElem?_getD,h]
end
section
open Go.RowKit Go.En
theorem Mg {α:Type} {f:α→Bool}:∀ {l:List α} {i:Nat} {a:α},(∀ j,j<i→∀ b,l[j]?=some b→f b=false)→l[i]?=some a→f a=true→l.find? f=some a
  | [],_,_,_,h,_=>by simp at h
  | b::l,0,a,_,h,hf=>by simp at h;subst h;rw [List.find?_cons_of_pos hf]
  | b::l,i+1,a,hall,h,hf=>by
    rw [List.find?_cons_of_neg (by simp [hall 0 (by omega) b rfl])]
    exact Mg (i:=i) (fun j hj c hc=>hall (j+1) (by omega) c (by simpa using hc)) (by simpa using h) hf
theorem Ag {P:Program} {f:FuncId} {args:Array Value} {w:World} {S S':Value→World→Prop} (h:Calls P f args w (Rt S)) (hi:∀ v w',S v w'→S' v w'):Calls P f args w (Rt S'):=
  h.mono fun _ _ ⟨v,he,hs⟩=>⟨v,he,hi _ _ hs⟩
structure Tier where
  name:List UInt8
  kind:Int
  role:Int
  parent:Int
structure Note where
  id:Int
  tier:Int
  parent:Int
  frm:Int
  til:Int
  rank:Int
  text:List UInt8
instance:Rep Tier where
  sz:=4
  pos:=by decide
  at_ _ _ t cs:=cs=[str t.name,int t.kind,int t.role,int t.parent]
  len h:=by rw [h];rfl
  one h:=by rw [h];rfl
  move h _:=h
instance:Rep Note where
  sz:=7
  pos:=by decide
  at_ _ _ t cs:=cs=[int t.id,int t.tier,int t.parent,int t.frm,int t.til,int t.rank,str t.text]
  len h:=by rw [h];rfl
  one h:=by rw [h];rfl
  move h _:=h
theorem Cg {G:Nat→Prop} {w:World} {b off n cap:Nat} {xs:List Tier} (h:SlG G w (.slice (some ⟨b,off,none⟩) n cap) xs) {i:Nat} {t:Tier} (hx:xs[i]?=some t):At w b (off+i*4) [str t.name,int t.kind,int t.role,int t.parent]:=by
  obtain⟨cs,h1,h2⟩:=h.elem hx
  rw [show cs=_ from h1] at h2
  exact h2
theorem Ch {G:Nat→Prop} {w:World} {b off n cap:Nat} {xs:List Note} (h:SlG G w (.slice (some ⟨b,off,none⟩) n cap) xs) {i:Nat} {t:Note} (hx:xs[i]?=some t):At w b (off+i*7) [int t.id,int t.tier,int t.parent,int t.frm,int t.til,int t.rank,str t.text]:=by
  obtain⟨cs,h1,h2⟩:=h.elem hx
  rw [show cs=_ from h1] at h2
  exact h2
structure Dc where
  rid:Int
  rname:List UInt8
  len:Int
  day:Int
  sp:List Int
  tiers:List Tier
  notes:List Note
def DcAt (w:World) (v:Value) (d:Dc):Prop:=∃ sv tv nv,v=.agg #[int d.rid,str d.rname,int d.len,int d.day,sv,tv,nv]∧Sl w sv d.sp∧Sl w tv d.tiers∧Sl w nv d.notes
theorem DcAt.ext {w w':World} {v:Value} {d:Dc} (h:DcAt w v d) (x:Ext w w'):DcAt w' v d:=by
  obtain⟨sv,tv,nv,e,h1,h2,h3⟩:=h
  exact⟨sv,tv,nv,e,h1.ext x,h2.ext x,h3.ext x⟩
def tierC (t:Tier):List Value:=[str t.name,int t.kind,int t.role,int t.parent]
def Be (n:Note):List Value:=[int n.id,int n.tier,int n.parent,int n.frm,int n.til,int n.rank,str n.text]
def Bj (k:Int):Bool:=decide (k=0)||(decide (k=1)||decide (k=2))
theorem Jk {k:Int}:Bj k=true↔k=0∨k=1∨k=2:=by simp [Bj]
def getF (ns:List Note) (id:Int):Option Note:=ns.find? fun n=>decide (n.id=id)
def M9 (a b:Int):Bool:=decide (0≤a)&&(decide (a<b)&&decide (b≤86400000))
structure Spn where
  frm:Int
  til:Int
instance:Rep Spn where
  sz:=2
  pos:=by decide
  at_ _ _ t cs:=cs=[int t.frm,int t.til]
  len h:=by rw [h];rfl
  one h:=by rw [h];rfl
  move h _:=h
theorem L9 {G:Nat→Prop} {w:World} {b off n cap:Nat} {xs:List Spn} (h:SlG G w (.slice (some ⟨b,off,none⟩) n cap) xs) {i:Nat} {t:Spn} (hx:xs[i]?=some t):At w b (off+i*2) [int t.frm,int t.til]:=by
  obtain⟨cs,h1,h2⟩:=h.elem hx
  rw [show cs=_ from h1] at h2
  exact h2
theorem Hf {G:Nat→Prop} (w:World):∀ l:List Spn,AtsG G w l (l.map fun t=>[int t.frm,int t.til])
  | []=>trivial
  | _::r=>⟨rfl,Hf w r⟩
theorem Md {G:Nat→Prop} (w:World):∀ l:List Note,AtsG G w l (l.map Be)
  | []=>trivial
  | _::r=>⟨rfl,Md w r⟩
theorem tiers_ats {G:Nat→Prop} (w:World):∀ l:List Tier,AtsG G w l (l.map tierC)
  | []=>trivial
  | _::r=>⟨rfl,tiers_ats w r⟩
def K1:Note:=⟨0,0,0,0,0,0,[]⟩
def getR (ns:List Note) (id:Int):Value:=match getF ns id with|some n=>.tuple #[.agg (Be n).toArray,.bool true]|none=>.tuple #[.agg (Be K1).toArray,.bool false]
structure TierOK (ts:List Tier) (i:Nat) (t:Tier):Prop where
  kind:0≤t.kind∧t.kind≤4
  role:0≤t.role∧t.role≤5
  uniq:t.role≠0→∀ k p,k<i→ts[k]?=some p→p.role≠t.role
  root:t.kind=0→t.parent = -1
  par:t.kind≠0→0≤t.parent∧t.parent<i
  tim:t.kind=1∨t.kind=2→∃ p,ts[t.parent.toNat]?=some p∧Bj p.kind=true
  kr:(t.role=1→t.kind=0)∧(t.role=3→t.kind=3)∧(t.role=4∨t.role=5→t.kind=4)
  over:(t.role=2∨t.role=5→t.kind≠0∧∃ p,ts[t.parent.toNat]?=some p∧p.role=1)∧(t.role=3→∃ p,ts[t.parent.toNat]?=some p∧p.role=2)∧(t.role=4→∃ p,ts[t.parent.toNat]?=some p∧p.role=3)
structure PlacedOK (d:Dc) (n:Note) (t:Tier):Prop where
  root:t.kind=0→n.parent=0
  par:t.kind≠0→∃ p,getF d.notes n.parent=some p∧p.tier=t.parent
  off:Bj t.kind=false→n.frm=0∧n.til=0
  on:Bj t.kind=true→M9 n.frm n.til=true
  len:t.kind=0→n.til≤d.len
  inn:t.kind=1∨t.kind=2→∀ p,getF d.notes n.parent=some p→p.frm≤n.frm∧n.til≤p.til
  rank:0≤n.rank∧(t.kind≠3→n.rank=0)
def TextOK (s:List UInt8):Prop:=s.length≤200∧∃ zs,points s=some zs∧∀ z∈zs,32≤z∧z≠127
structure NoteOK (d:Dc) (i:Nat) (n:Note):Prop where
  id:1≤n.id∧n.id≤1099511627776
  inc:∀ m,0<i→d.notes[i-1]?=some m→m.id<n.id
  text:TextOK n.text
  placed:∃ t:Tier,∃ k:Nat,n.tier=(k:Int)∧d.tiers[k]?=some t∧PlacedOK d n t
def sibs (ns:List Note) (t p:Int):List Note:=ns.filter fun n=>decide (n.tier=t)&&decide (n.parent=p)
def NoOver (l:List Note):Prop:=∀(i k:Nat) (a b:Note),k<i→l[i]?=some a→l[k]?=some b→¬ (a.frm<b.til∧b.frm<a.til)
def Ranked (l:List Note):Prop:=∀ n:Nat,n<l.length→∃ x∈l,x.rank=(n:Int)
theorem sibs_take {ns:List Note} {t p:Int} {i:Nat} {x:Note} (h:ns[i]?=some x):sibs (ns.take (i+1)) t p=sibs (ns.take i) t p++(if x.tier=t∧x.parent=p then [x] else []):=by
  obtain⟨hi,rfl⟩:=List.getElem?_eq_some_iff.1 h
  unfold sibs
  rw [List.take_succ_eq_append_getElem hi,List.filter_append]
  congr 1
  by_cases h1:ns[i].tier=t <;> by_cases h2:ns[i].parent=p <;> simp [h1,h2]
theorem Oj (ns:List Note) (t p:Int):(sibs ns t p).length≤ns.length:=List.length_filter_le _ _
structure SibsOK (kind:Int) (l:List Note):Prop where
  apart:Bj kind=true→NoOver l
  series:kind=3→Ranked l
  label:kind=4→l.length≤1
def G5 (d:Dc) (k:Nat) (t:Tier):Prop:=∀ n∈d.notes,n.tier=(k:Int)→SibsOK t.kind (sibs d.notes (k:Int) n.parent)
structure LightD (d:Dc):Prop where
  nnotes:d.notes.length≤14
  ntiers:d.tiers.length≤6
  nsp:d.sp.length≤6
  tiers:∀ i t,d.tiers[i]?=some t→TierOK d.tiers i t
  len:0≤d.len∧d.len≤86400000
  notes:∀ i n,d.notes[i]?=some n→NoteOK d i n
  sib:∀ k t,d.tiers[k]?=some t→G5 d k t
end
section
open Go.RowKit Go.En
def insR {α:Type} (lt:α→α→Bool) (l:List α) (x:α):List α:=
  match l with
  | []=>[x]
  | y::r=>if (y::r).all (fun z=>lt x z) then x::y::r else y::insR lt r x
def Fr {α:Type} (lt:α→α→Bool) (l:List α):List α:=l.foldl (insR lt) []
section
variable {α : Type} {lt : α → α → Bool}
theorem Hm:∀(l:List α) (x:α),(insR lt l x).Perm (x::l)
  | [],x=>List.Perm.refl _
  | y::r,x=>by
    unfold insR
    split
    · exact List.Perm.refl _
    · exact((Hm r x).cons y).trans (List.Perm.swap x y r)
theorem Pg:∀(l acc:List α),(l.foldl (insR lt) acc).Perm (acc++l)
  | [],acc=>by simp
  | x::l,acc=>by
    rw [List.foldl_cons]
    refine(Pg l _).trans ?_
    refine((Hm acc x).append_right l).trans ?_
    rw [List.cons_append]
    exact List.perm_middle.symm
theorem Dp (l:List α):(Fr lt l).Perm l:=by simpa [Fr] using Pg (lt:=lt) l []
theorem Pi {lt':α→α→Bool}:∀(l:List α) (x:α),(∀ y∈l,lt x y=lt' x y)→insR lt l x=insR lt' l x
  | [],_,_=>rfl
  | y :: r, x, h => by
    have h1:(y::r).all (fun z=>lt x z)=(y::r).all (fun z=>lt' x z):=by
      rw [Bool.eq_iff_iff,List.all_eq_true,List.all_eq_true]
      exact⟨fun k z hz=>by rw [← h z hz];exact k z hz,fun k z hz=>by rw [h z hz];exact k z hz⟩
    unfold insR
    rw [h1,Pi r x (fun z hz=>h z (List.mem_cons_of_mem _ hz))]
theorem insSort_congr {lt':α→α→Bool} (l:List α) (h:∀ x∈l,∀ y∈l,lt x y=lt' x y):Fr lt l=Fr lt' l:=by
  have go:∀(r acc:List α),(∀ x∈r,x∈l)→(∀ x∈acc,x∈l)→r.foldl (insR lt) acc=r.foldl (insR lt') acc:=by
    intro r
    induction r with
    | nil=>intro acc _ _;rfl
    | cons x r ih=>
      intro acc h1 h2
      rw [List.foldl_cons,List.foldl_cons,Pi acc x (fun y hy=>h x (h1 x (List.mem_cons_self ..)) y (h2 y hy))]
      refine ih _ (fun y hy=>h1 y (List.mem_cons_of_mem _ hy)) (fun y hy=>?_)
      rcases List.mem_cons.1 ((Hm acc x).mem_iff.1 hy) with rfl|hy
      · exact h1 _ (List.mem_cons_self ..)
      · exact h2 y hy
  exact go l [] (fun _ h=>h) (fun _ h=>by simp at h)
structure Strict (lt:α→α→Bool) (l:List α):Prop where
  asymm:∀ x∈l,∀ y∈l,lt x y=true→lt y x=false
  trans:∀ x∈l,∀ y∈l,∀ z∈l,lt x y=true→lt y z=true→lt x z=true
  total:∀ x∈l,∀ y∈l,x≠y→lt x y=true∨lt y x=true
theorem insR_sorted {l : List α} {x : α} {L : List α} (hS : Strict lt L) (hx : x ∈ L) (hl : ∀ y ∈ l, y ∈ L) (hxl : x ∉ l) (hs : l.Pairwise fun a b => lt a b = true) : (insR lt l x).Pairwise fun a b => lt a b = true := by
  induction l with
  | nil=>simp [insR]
  | cons y r ih=>
    unfold insR
    split
    · rename_i hall
      exact List.Pairwise.cons (List.all_eq_true.1 hall) hs
    · rename_i hall
      have hyx:lt y x=true:=by
        rcases hS.total x hx y (hl y (List.mem_cons_self ..)) (fun e=>hxl (by rw [e];exact List.mem_cons_self ..)) with h|h
        · exfalso
          refine hall (List.all_eq_true.2 fun z hz=>?_)
          rcases List.mem_cons.1 hz with rfl|hz
          · exact h
          · exact hS.trans x hx y (hl y (List.mem_cons_self ..)) z (hl z (List.mem_cons_of_mem _ hz)) h ((List.pairwise_cons.1 hs).1 z hz)
        · exact h
      refine List.Pairwise.cons (fun z hz=>?_) (ih (fun z hz=>hl z (List.mem_cons_of_mem _ hz)) (fun h=>hxl (List.mem_cons_of_mem _ h)) (List.pairwise_cons.1 hs).2)
      rcases List.mem_cons.1 ((Hm r x).mem_iff.1 hz) with rfl|hz
      · exact hyx
      · exact(List.pairwise_cons.1 hs).1 z hz
theorem Gg {l:List α} (hn:l.Nodup) (hS:Strict lt l):(Fr lt l).Pairwise fun a b=>lt a b=true:=by
  have go:∀(r acc:List α),(acc++r).Nodup→(∀ x∈acc++r,x∈l)→acc.Pairwise (fun a b=>lt a b=true)→(r.foldl (insR lt) acc).Pairwise fun a b=>lt a b=true:=by
    intro r
    induction r with
    | nil=>intro acc _ _ h;exact h
    | cons x r ih=>
      intro acc h1 h2 h3
      rw [List.foldl_cons]
      have hp:(insR lt acc x++r).Perm (acc++x::r):=((Hm acc x).append_right r).trans List.perm_middle.symm
      refine ih _ (hp.nodup_iff.2 h1) (fun y hy=>h2 y (hp.mem_iff.1 hy)) ?_
      refine insR_sorted hS (h2 x (by simp)) (fun y hy=>h2 y (by simp [hy])) (fun hx=>?_) h3
      rw [List.nodup_append] at h1
      exact h1.2.2 x hx x (by simp) rfl
  exact go l [] (by simpa using hn) (by simp) List.Pairwise.nil
theorem Oi:∀ {l m:List α},l.Perm m→(∀ x∈l,∀ y∈l,lt x y=true→lt y x=false)→l.Pairwise (fun a b=>lt a b=true)→m.Pairwise (fun a b=>lt a b=true)→l=m
  | [],m,hp,_,_,_=>hp.nil_eq
  | x::l,[],hp,_,_,_=>hp.symm.nil_eq.symm
  | x :: l, y :: m, hp, ha, h1, h2 => by
    have hxy:x=y:=by
      have hy:y∈x::l:=hp.mem_iff.2 (List.mem_cons_self ..)
      have hx:x∈y::m:=hp.mem_iff.1 (List.mem_cons_self ..)
      rcases List.mem_cons.1 hy with h|hy'
      · exact h.symm
      rcases List.mem_cons.1 hx with h|hx'
      · exact h
      have e1:=(List.pairwise_cons.1 h1).1 y hy'
      have e2:=(List.pairwise_cons.1 h2).1 x hx'
      rw [ha x (List.mem_cons_self ..) y hy e1] at e2;cases e2
    subst hxy
    rw [Oi (List.Perm.cons_inv hp) (fun a h b k=>ha a (List.mem_cons_of_mem _ h) b (List.mem_cons_of_mem _ k)) (List.pairwise_cons.1 h1).2 (List.pairwise_cons.1 h2).2]
theorem insSort_eq {l m:List α} (hn:l.Nodup) (hS:Strict lt l) (hp:m.Perm l) (hm:m.Pairwise fun a b=>lt a b=true):Fr lt l=m:=
  Oi ((Dp l).trans hp.symm) (fun x hx y hy=>hS.asymm x ((Dp l).mem_iff.1 hx) y ((Dp l).mem_iff.1 hy)) (Gg hn hS) hm
end
end
section
open Go.RowKit Go.En
theorem Fh {ns:List Note} {id:Int} {n:Note} (h:getF ns id=some n):n∈ns∧n.id=id:=by
  unfold getF at h
  exact⟨List.mem_of_find?_eq_some h,by simpa using List.find?_some h⟩
theorem ids_inj {ns:List Note} (h:ns.Pairwise fun a b=>a.id<b.id) {a b:Note} (ha:a∈ns) (hb:b∈ns) (e:a.id=b.id):a=b:=by
  obtain⟨i,hi⟩:=List.getElem?_of_mem ha
  obtain⟨j,hj⟩:=List.getElem?_of_mem hb
  obtain⟨hi1,rfl⟩:=List.getElem?_eq_some_iff.1 hi
  obtain⟨hj1,rfl⟩:=List.getElem?_eq_some_iff.1 hj
  have hp:=List.pairwise_iff_getElem.1 h
  rcases Nat.lt_trichotomy i j with hlt|heq|hlt
  · have:=hp i j hi1 hj1 hlt;omega
  · subst heq;rfl
  · have:=hp j i hj1 hi1 hlt;omega
theorem Nu {ns:List Note} (h:ns.Pairwise fun a b=>a.id<b.id) {n:Note} (hn:n∈ns):getF ns n.id=some n:=by
  cases hg:getF ns n.id with
  | none=>
    unfold getF at hg
    have:=List.find?_eq_none.1 hg n hn
    simp at this
  | some m=>
    obtain⟨h1,h2⟩:=Fh hg
    rw [ids_inj h h1 hn h2]
theorem Ho {d : Dc} (h : LightD d) : d.notes.Pairwise fun a b => a.id < b.id := by
  have step:∀(j i:Nat) (hj:j<d.notes.length) (hi:i<d.notes.length),i<j→d.notes[i].id<d.notes[j].id:=by
    intro j
    induction j with
    | zero=>intro i _ _ h;omega
    | succ j ih=>
      intro i hj hi hij
      have h1:=(h.notes (j+1) _ (List.getElem?_eq_getElem hj)).inc d.notes[j] (by omega) (by simp [List.getElem?_eq_getElem (show j<d.notes.length by omega)])
      by_cases he:i=j
      · subst he;exact h1
      · have:=ih i (by omega) hi (by omega)
        omega
  exact List.pairwise_iff_getElem.2 fun i j hi hj hij=>step j i hj hi hij
theorem Iz {d:Dc} (h:LightD d):d.notes.Nodup:=(Ho h).imp fun {a b} hab e=>by subst e;omega
theorem F4 {d:Dc} (h:LightD d) {n:Note} (hn:n∈d.notes):∃(k:Nat) (t:Tier),n.tier=(k:Int)∧d.tiers[k]?=some t∧PlacedOK d n t∧TierOK d.tiers k t∧SibsOK t.kind (sibs d.notes (k:Int) n.parent):=by
  obtain⟨i,hi⟩:=List.getElem?_of_mem hn
  obtain⟨t,k,h1,h2,h3⟩:=(h.notes i n hi).placed
  exact⟨k,t,h1,h2,h3,h.tiers k t h2,h.sib k t h2 n hn h1⟩
theorem F8 {d:Dc} (h:LightD d) {n:Note} {k:Nat} {t:Tier} (hn:n∈d.notes) (hk:n.tier=(k:Int)) (ht:d.tiers[k]?=some t):PlacedOK d n t∧TierOK d.tiers k t∧SibsOK t.kind (sibs d.notes (k:Int) n.parent):=by
  obtain⟨k',t',h1,h2,h3,h4,h5⟩:=F4 h hn
  have hkk:k'=k:=by omega
  subst hkk
  rw [ht] at h2;cases h2
  exact⟨h3,h4,h5⟩
def befF (d : Dc) : Nat → Note → Note → Bool
  | 0,_,_=>false
  | f + 1, a, b =>
    if a.parent ≠ b.parent then
      (match getF d.notes a.parent,getF d.notes b.parent with
       | some p,some q=>befF d f p q
       | _,_=>false)
    else if (match d.tiers[a.tier.toNat]? with|some t=>Bj t.kind|none=>false) then decide (a.frm<b.frm) else decide (a.rank<b.rank)
def Dm (d:Dc) (k:Int):List Note:=d.notes.filter fun n=>decide (n.tier=k)
theorem Bq {d:Dc} {k:Int} {n:Note}:n∈Dm d k↔n∈d.notes∧n.tier=k:=by simp [Dm]
theorem G8 {ns:List Note} {k p:Int} {n:Note}:n∈sibs ns k p↔n∈ns∧n.tier=k∧n.parent=p:=by simp [sibs]
theorem cover {α : Type} (f : α → Int) : ∀ (m : Nat) (l : List α), (∀ n : Nat, n < m → ∃ x ∈ l, f x = (n : Int)) → m ≤ l.length
  | 0,_,_=>Nat.zero_le _
  | m + 1, l, h => by
    obtain⟨x,hx,hf⟩:=h m (by omega)
    obtain⟨s,t,rfl⟩:=List.append_of_mem hx
    have:=cover f m (s++t) fun n hn=>by
      obtain⟨y,hy,hfy⟩:=h n (by omega)
      refine⟨y,?_,hfy⟩
      rcases List.mem_append.1 hy with hy|hy
      · exact List.mem_append_left _ hy
      · rcases List.mem_cons.1 hy with rfl|hy
        · omega
        · exact List.mem_append_right _ hy
    simp only [List.length_append,List.length_cons] at this ⊢
    omega
theorem ranked_inj {l:List Note} (h:Ranked l) {x y:Note} (hx:x∈l) (hy:y∈l) (e:x.rank=y.rank):x=y:=by
  apply Classical.byContradiction
  intro hne
  obtain⟨s,t,rfl⟩:=List.append_of_mem hy
  have hx2:x∈s++t:=by
    rcases List.mem_append.1 hx with hx|hx
    · exact List.mem_append_left _ hx
    · rcases List.mem_cons.1 hx with hx|hx
      · exact absurd hx hne
      · exact List.mem_append_right _ hx
  have:=cover (fun z:Note=>z.rank) (s++y::t).length (s++t) fun n hn=>by
    obtain⟨z,hz,hr⟩:=h n hn
    rcases List.mem_append.1 hz with hz|hz
    · exact⟨z,List.mem_append_left _ hz,hr⟩
    · rcases List.mem_cons.1 hz with rfl|hz
      · exact⟨x,hx2,by rw [e];exact hr⟩
      · exact⟨z,List.mem_append_right _ hz,hr⟩
  simp only [List.length_append,List.length_cons] at this
  omega
theorem sib_keys {d:Dc} (h:LightD d) {k:Nat} {t:Tier} {x y:Note} (ht:d.tiers[k]?=some t) (hx:x∈d.notes) (hy:y∈d.notes) (hxk:x.tier=(k:Int)) (hyk:y.tier=(k:Int)) (hp:x.parent=y.parent) (hne:x≠y) :
    (Bj t.kind=true→x.frm≠y.frm)∧(Bj t.kind=false→x.rank≠y.rank):=by
  obtain⟨px,tk,sx⟩:=F8 h hx hxk ht
  obtain⟨py,_,_⟩:=F8 h hy hyk ht
  have mx:x∈sibs d.notes (k:Int) x.parent:=G8.2 ⟨hx,hxk,rfl⟩
  have my:y∈sibs d.notes (k:Int) x.parent:=G8.2 ⟨hy,hyk,hp.symm⟩
  refine⟨fun htm e=>?_,fun htm e=>?_⟩
  · have rx:=px.on htm
    have ry:=py.on htm
    unfold M9 at rx ry
    simp only [Bool.and_eq_true,decide_eq_true_eq] at rx ry
    obtain⟨i,hi⟩:=List.getElem?_of_mem mx
    obtain⟨j,hj⟩:=List.getElem?_of_mem my
    rcases Nat.lt_trichotomy i j with hlt|heq|hlt
    · exact sx.apart htm j i y x hlt hj hi ⟨by omega,by omega⟩
    · subst heq;rw [hi] at hj;cases hj;exact hne rfl
    · exact sx.apart htm i j x y hlt hi hj ⟨by omega,by omega⟩
  · have hk34:t.kind=3∨t.kind=4:=by
      have:=tk.kind
      have h0:¬ (t.kind=0∨t.kind=1∨t.kind=2):=fun hh=>by rw [Jk.2 hh] at htm;cases htm
      omega
    rcases hk34 with h3|h4
    · exact hne (ranked_inj (sx.series h3) mx my e)
    · have hl:=sx.label h4
      obtain⟨i,hi⟩:=List.getElem?_of_mem mx
      obtain⟨j,hj⟩:=List.getElem?_of_mem my
      have h1:=(List.getElem?_eq_some_iff.1 hi).1
      have h2:=(List.getElem?_eq_some_iff.1 hj).1
      have:i=j:=by omega
      subst this
      rw [hi] at hj;cases hj;exact hne rfl
theorem Lz {d:Dc} {k f:Nat} {t:Tier} {x y:Note} (ht:d.tiers[k]?=some t) (hxk:x.tier=(k:Int)) (hp:x.parent=y.parent):befF d (f+1) x y=if Bj t.kind then decide (x.frm<y.frm) else decide (x.rank<y.rank):=by
  simp only [befF]
  rw [if_neg (by simpa using hp),hxk,Int.toNat_natCast,ht]
theorem Jd {d:Dc} {f:Nat} {x y p q:Note} (hp:getF d.notes x.parent=some p) (hq:getF d.notes y.parent=some q) (hne:x.parent≠y.parent):befF d (f+1) x y=befF d f p q:=by
  simp only [befF]
  rw [if_pos hne,hp,hq]
theorem G2 {d:Dc} (h:LightD d) {k:Nat} {t:Tier} {x:Note} (ht:d.tiers[k]?=some t) (hx:x∈d.notes) (hxk:x.tier=(k:Int)) (h0:t.kind≠0) :
    ∃(j:Nat) (u:Tier) (p:Note),t.parent=(j:Int)∧j<k∧d.tiers[j]?=some u∧getF d.notes x.parent=some p∧p∈d.notes∧p.id=x.parent∧p.tier=(j:Int):=by
  obtain⟨px,tk,_⟩:=F8 h hx hxk ht
  obtain⟨p,hp,hpt⟩:=px.par h0
  have hr:=tk.par h0
  obtain⟨h1,h2⟩:=Fh hp
  have hk:=(List.getElem?_eq_some_iff.1 ht).1
  exact⟨t.parent.toNat,d.tiers[t.parent.toNat]'(by omega),p,by omega,by omega,List.getElem?_eq_getElem (by omega),hp,h1,h2,by omega⟩
theorem Q5 {d:Dc} (h:LightD d):∀(k f g:Nat),k<f→k<g→∀ x∈d.notes,∀ y∈d.notes,x.tier=(k:Int)→y.tier=(k:Int)→befF d f x y=befF d g x y:=by
  intro k
  induction k using Nat.strongRecOn with
  | _ k ih =>
    intro f g hf hg x hx y hy hxk hyk
    obtain⟨f,rfl⟩:∃ f',f=f'+1:=⟨f-1,by omega⟩
    obtain⟨g,rfl⟩:∃ g',g=g'+1:=⟨g-1,by omega⟩
    obtain⟨k',t,h1,ht,_⟩:=F4 h hx
    have hkk:k'=k:=by omega
    subst hkk
    by_cases hp:x.parent=y.parent
    · rw [Lz ht hxk hp,Lz ht hxk hp]
    · have h0:t.kind≠0:=fun h0=>hp (by rw [(F8 h hx hxk ht).1.root h0,(F8 h hy hyk ht).1.root h0])
      obtain⟨j,u,p,e1,hj,_,gp,mp,_,tp⟩:=G2 h ht hx hxk h0
      obtain⟨j',u',q,e2,_,_,gq,mq,_,tq⟩:=G2 h ht hy hyk h0
      have hjj:j'=j:=by omega
      subst hjj
      rw [Jd gp gq hp,Jd gp gq hp]
      exact ih j' hj f g (by omega) (by omega) p mp q mq tp tq
theorem Kt {d : Dc} (h : LightD d) : ∀ k : Nat, Strict (befF d (k + 1)) (Dm d k) := by
  intro k
  induction k using Nat.strongRecOn with
  | _ k ih =>
    have key:∀ x∈Dm d k,∀ y∈Dm d k,(x.parent=y.parent∧∃ t,d.tiers[k]?=some t∧∀ z w:Note,z.tier=(k:Int)→z.parent=w.parent→befF d (k+1) z w=if Bj t.kind then decide (z.frm<w.frm) else decide (z.rank<w.rank))∨
        (x.parent≠y.parent∧∃(j:Nat) (p q:Note),j<k∧getF d.notes x.parent=some p∧getF d.notes y.parent=some q∧p∈Dm d j∧q∈Dm d j∧p≠q∧befF d (k+1) x y=befF d (j+1) p q∧befF d (k+1) y x=befF d (j+1) q p):=by
      intro x hx y hy
      obtain⟨hx1,hxk⟩:=Bq.1 hx
      obtain⟨hy1,hyk⟩:=Bq.1 hy
      obtain⟨k',t,h1,ht,_⟩:=F4 h hx1
      have hkk:k'=k:=by omega
      subst hkk
      by_cases hp:x.parent=y.parent
      · exact .inl ⟨hp,t,ht,fun z w hz hzw=>Lz ht hz hzw⟩
      · have h0:t.kind≠0:=fun h0=>hp (by rw [(F8 h hx1 hxk ht).1.root h0,(F8 h hy1 hyk ht).1.root h0])
        obtain⟨j,u,p,e1,hj,_,gp,mp,ip,tp⟩:=G2 h ht hx1 hxk h0
        obtain⟨j',u',q,e2,_,_,gq,mq,iq,tq⟩:=G2 h ht hy1 hyk h0
        have hjj:j'=j:=by omega
        subst hjj
        refine .inr ⟨hp,j',p,q,hj,gp,gq,Bq.2 ⟨mp,tp⟩,Bq.2 ⟨mq,tq⟩,fun e=>hp (by rw [← ip,← iq,e]),?_,?_⟩
        · rw [Jd gp gq hp]
          exact Q5 h j' k' (j'+1) hj (by omega) p mp q mq tp tq
        · rw [Jd gq gp (fun e=>hp e.symm)]
          exact Q5 h j' k' (j'+1) hj (by omega) q mq p mp tq tp
    refine⟨fun x hx y hy hxy=>?_,fun x hx y hy z hz hxy hyz=>?_,fun x hx y hy hne=>?_⟩
    · rcases key x hx y hy with⟨hp,t,ht,hb⟩|⟨hp,j,p,q,hj,_,_,mp,mq,_,e1,e2⟩
      · rw [hb x y (Bq.1 hx).2 hp] at hxy
        rw [hb y x (Bq.1 hy).2 hp.symm]
        split at hxy
        · rename_i htm
          rw [if_pos htm]
          simp only [decide_eq_true_eq] at hxy
          simp;omega
        · rename_i htm
          rw [if_neg htm]
          simp only [decide_eq_true_eq] at hxy
          simp;omega
      · rw [e1] at hxy
        rw [e2]
        exact(ih j hj).asymm p mp q mq hxy
    · rcases key x hx y hy with⟨hp,t,ht,hb⟩|⟨hp,j,p,q,hj,gp,gq,mp,mq,hpq,e1,e2⟩
      · rcases key y hy z hz with⟨hp2,t2,ht2,hb2⟩|⟨hp2,j2,p2,q2,hj2,gp2,gq2,mp2,mq2,hpq2,e12,e22⟩
        · rw [hb x y (Bq.1 hx).2 hp] at hxy
          rw [hb y z (Bq.1 hy).2 hp2] at hyz
          rw [hb x z (Bq.1 hx).2 (hp.trans hp2)]
          split at hxy
          · rename_i htm
            rw [if_pos htm] at hyz ⊢
            simp only [decide_eq_true_eq] at hxy hyz ⊢
            omega
          · rename_i htm
            rw [if_neg htm] at hyz ⊢
            simp only [decide_eq_true_eq] at hxy hyz ⊢
            omega
        · rcases key x hx z hz with⟨hp3,_⟩|⟨hp3,j3,p3,q3,hj3,gp3,gq3,mp3,mq3,hpq3,e13,e23⟩
          · exact absurd (hp.symm.trans hp3) hp2
          · rw [hp,gp2] at gp3;cases gp3
            rw [gq2] at gq3;cases gq3
            have hjj:j3=j2:=by have:=(Bq.1 mp2).2;have:=(Bq.1 mp3).2;omega
            subst hjj
            rw [e13,← e12];exact hyz
      · rcases key y hy z hz with⟨hp2,t2,ht2,hb2⟩|⟨hp2,j2,p2,q2,hj2,gp2,gq2,mp2,mq2,hpq2,e12,e22⟩
        · rcases key x hx z hz with⟨hp3,_⟩|⟨hp3,j3,p3,q3,hj3,gp3,gq3,mp3,mq3,hpq3,e13,e23⟩
          · exact absurd (hp3.trans hp2.symm) hp
          · rw [gp] at gp3;cases gp3
            rw [← hp2,gq] at gq3;cases gq3
            have hjj:j3=j:=by have:=(Bq.1 mp).2;have:=(Bq.1 mp3).2;omega
            subst hjj
            rw [e13,← e1];exact hxy
        · rw [gq] at gp2;cases gp2
          have hjj:j2=j:=by have:=(Bq.1 mq).2;have:=(Bq.1 mp2).2;omega
          subst hjj
          rw [e1] at hxy
          rw [e12] at hyz
          rcases key x hx z hz with⟨hp3,_⟩|⟨hp3,j3,p3,q3,hj3,gp3,gq3,mp3,mq3,hpq3,e13,e23⟩
          · exfalso
            rw [hp3,gq2] at gp;cases gp
            have:=(ih j2 hj).asymm p mp q mq hxy
            rw [this] at hyz;cases hyz
          · rw [gp] at gp3;cases gp3
            rw [gq2] at gq3;cases gq3
            have hjj:j3=j2:=by have:=(Bq.1 mp).2;have:=(Bq.1 mp3).2;omega
            subst hjj
            rw [e13]
            exact(ih j3 hj).trans p mp q mq q2 mq2 hxy hyz
    · rcases key x hx y hy with⟨hp,t,ht,hb⟩|⟨hp,j,p,q,hj,_,_,mp,mq,hpq,e1,e2⟩
      · obtain⟨hx1,hxk⟩:=Bq.1 hx
        obtain⟨hy1,hyk⟩:=Bq.1 hy
        have hs:=sib_keys h ht hx1 hy1 hxk hyk hp hne
        rw [hb x y hxk hp,hb y x hyk hp.symm]
        cases htm:Bj t.kind with
        | true=>
          have:=hs.1 htm
          simp;omega
        | false=>
          have:=hs.2 htm
          simp;omega
      · rw [e1,e2]
        exact(ih j hj).total p mp q mq hpq
end
end Go.Proofs.YtjicdgejhkgpgaaGreatDoor