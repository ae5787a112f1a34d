/- Own text. -/
import Derived.Test.YtojadfppncgphaaGreatDoorQYd
set_option linter.all false
namespace Go.Dl
open Go.RowKit Go.En
structure Sp where
 x:Option Lf
 he:Hp
 ks:List Nat
abbrev Zs:=List (Oper × Sp)
def fS:Zs→(Nat→Bool)→Nat→Fr→Fr
 | [],_,_,F=>F
 | (o,sp)::r,S,i,F=>fS r S (i+1) (bif S i then ptf o.dst sp.x F else F)
def hS:Zs→(Nat→Bool)→Nat→Hp→Hp
 | [],_,_,H=>H
 | (_,sp)::r,S,i,H=>hS r S (i+1) (bif S i then sp.he++H else H)
def wrS (z:Oper × Sp)(s:Nat):Prop:=z.1.dst=some s∧z.2.x≠none
theorem A5h {d:Option Tmp}{x:Option Lf}{F:Fr}{s:Nat}:lf (ptf d x F) s=if d=some s∧x≠none then x else lf F s:=by
 cases d with
 | none=>simp [ptf]
 | some d=>
  cases x with
  | none=>simp [ptf]
  | some x=>
   simp only [ptf,J9]
   by_cases e:d=s
   ·simp [e]
   ·simp [e]
theorem A1c {s : Nat} : ∀ (l : Zs) (S S' : Nat → Bool) (i : Nat) (F F' : Fr), lf F s = lf F' s → (∀ j z, l[j]? = some z → wrS z s → S (i + j) = S' (i + j)) → lf (fS l S i F) s = lf (fS l S' i F') s
 | [],_,_,_,_,_,h,_=>h
 | (o, sp) :: r, S, S', i, F, F', h, hw => by
  simp only [fS]
  refine A1c r S S' (i+1) _ _ ?_ fun j z hj hz=>by
   have:=hw (j+1) z (by simpa using hj) hz
   rwa [show i+(j+1)=i+1+j by omega] at this
  by_cases hz:wrS (o,sp) s
  ·have:=hw 0 (o,sp) rfl hz
   rw [Nat.add_zero] at this
   rw [this]
   cases S' i <;> simp only [cond_true,cond_false]
   ·exact h
   ·rw [A5h,A5h,if_pos (show o.dst=some s∧sp.x≠none from hz),if_pos (show o.dst=some s∧sp.x≠none from hz)]
  ·have key:∀(b:Bool) (F:Fr),lf (bif b then ptf o.dst sp.x F else F) s=lf F s:=fun b F=>by
    cases b
    ·rfl
    ·rw [cond_true,A5h,if_neg (show ¬ (o.dst=some s∧sp.x≠none) from hz)]
   rw [key,key,h]
theorem Y4 {k : Nat} : ∀ (l : Zs) (S S' : Nat → Bool) (i : Nat) (H H' : Hp), lo H k = lo H' k → (∀ j z, l[j]? = some z → lo z.2.he k ≠ none → S (i + j) = S' (i + j)) → lo (hS l S i H) k = lo (hS l S' i H') k
 | [],_,_,_,_,_,h,_=>h
 | (o, sp) :: r, S, S', i, H, H', h, hw => by
  simp only [hS]
  refine Y4 r S S' (i+1) _ _ ?_ fun j z hj hz=>by
   have:=hw (j+1) z (by simpa using hj) hz
   rwa [show i+(j+1)=i+1+j by omega] at this
  by_cases hz:lo sp.he k=none
  ·have key:∀(b:Bool) (H:Hp),lo (bif b then sp.he++H else H) k=lo H k:=fun b H=>by
    cases b
    ·rfl
    ·rw [cond_true,Z8,hz,Option.none_or]
   rw [key,key,h]
  ·have:=hw 0 (o,sp) rfl hz
   rw [Nat.add_zero] at this
   rw [this]
   cases S' i <;> simp only [cond_true,cond_false]
   ·exact h
   ·rw [Z8,Z8]
    cases hh:lo sp.he k with
    | none=>exact absurd hh hz
    | some ob=>rfl
theorem C4n {s:Nat}:∀(l:Zs) (S:Nat→Bool) (i:Nat) (F:Fr) (j:Nat) (z:Oper × Sp),l[j]?=some z→wrS z s→S (i+j)=true→(∀ j' z',j<j'→l[j']?=some z'→wrS z' s→S (i+j')=false)→lf (fS l S i F) s=z.2.x
 | [],_,_,_,_,_,h,_,_,_=>by simp at h
 | (o,sp)::r,S,i,F,0,z,h,hz,hS,hl=>by
  simp at h
  subst h
  simp only [fS]
  rw [Nat.add_zero] at hS
  rw [hS,cond_true]
  have:lf (fS r S (i+1) (ptf o.dst sp.x F)) s=lf (fS r (fun _=>false) (i+1) (ptf o.dst sp.x F)) s:=A1c r _ _ _ _ _ rfl fun j' z' hj' hz'=>by
   have:=hl (j'+1) z' (by omega) (by simpa using hj') hz'
   rwa [show i+(j'+1)=i+1+j' by omega] at this
  rw [this]
  have key:∀(r:Zs) (i:Nat) (F:Fr),fS r (fun _=>false) i F=F:=by
   intro r
   induction r with
   | nil=>intro i F;rfl
   | cons q r ih=>intro i F;simp only [fS,cond_false];exact ih _ _
  rw [key,A5h,if_pos (show o.dst=some s∧sp.x≠none from hz)]
 | (o,sp)::r,S,i,F,j+1,z,h,hz,hS,hl=>by
  simp only [fS]
  exact C4n r S (i+1) _ j z (by simpa using h) hz (by rwa [show i+1+j=i+(j+1) by omega]) fun j' z' hj' hz' hw'=>by
   have:=hl (j'+1) z' (by omega) (by simpa using hz') hw'
   rwa [show i+1+j'=i+(j'+1) by omega]
theorem C4g {k:Nat}:∀(l:Zs) (S:Nat→Bool) (i:Nat) (H:Hp) (j:Nat) (z:Oper × Sp),l[j]?=some z→lo z.2.he k≠none→S (i+j)=true→(∀ j' z',j<j'→l[j']?=some z'→lo z'.2.he k≠none→S (i+j')=false)→lo (hS l S i H) k=lo z.2.he k
 | [],_,_,_,_,_,h,_,_,_=>by simp at h
 | (o,sp)::r,S,i,H,0,z,h,hz,hS',hl=>by
  simp at h
  subst h
  simp only [hS]
  rw [Nat.add_zero] at hS'
  rw [hS',cond_true]
  have:lo (hS r S (i+1) (sp.he++H)) k=lo (hS r (fun _=>false) (i+1) (sp.he++H)) k:=Y4 r _ _ _ _ _ rfl fun j' z' hj' hz'=>by
   have:=hl (j'+1) z' (by omega) (by simpa using hj') hz'
   rwa [show i+(j'+1)=i+1+j' by omega] at this
  rw [this]
  have key:∀(r:Zs) (i:Nat) (H:Hp),hS r (fun _=>false) i H=H:=by
   intro r
   induction r with
   | nil=>intro i H;rfl
   | cons q r ih=>intro i H;simp only [hS,cond_false];exact ih _ _
  rw [key,Z8]
  cases hh:lo sp.he k with
  | none=>exact absurd hh hz
  | some ob=>rfl
 | (o,sp)::r,S,i,H,j+1,z,h,hz,hS',hl=>by
  simp only [hS]
  exact C4g r S (i+1) _ j z (by simpa using h) hz (by rwa [show i+1+j=i+(j+1) by omega]) fun j' z' hj' hz' hw'=>by
   have:=hl (j'+1) z' (by omega) (by simpa using hz') hw'
   rwa [show i+1+j'=i+(j'+1) by omega]
theorem D1s {k : Nat} : ∀ (l : Zs) (S : Nat → Bool) (i : Nat) (F : Fr), F.all (fun p => !nam k p.2) = true → (∀ j z, l[j]? = some z → S (i + j) = true → ∀ y, z.2.x = some y → nam k y = false) → (fS l S i F).all (fun p => !nam k p.2) = true
 | [],_,_,_,h,_=>h
 | (o, sp) :: r, S, i, F, h, hw => by
  simp only [fS]
  refine D1s r S (i+1) _ ?_ fun j z hj hS=>hw (j+1) z (by simpa using hj) (by rwa [show i+(j+1)=i+1+j by omega])
  cases hS:S i
  ·exact h
  ·rw [cond_true]
   cases hd:o.dst with
   | none=>simpa [ptf] using h
   | some d=>
    cases hx:sp.x with
    | none=>simpa [ptf] using h
    | some x=>
     simp only [ptf,List.all_cons,Bool.and_eq_true]
     exact⟨by simp [hw 0 (o,sp) rfl (by simpa using hS) x hx],h⟩
theorem D1h {k:Nat}:∀(l:Zs) (S:Nat→Bool) (i:Nat) (H:Hp),H.all (fun p=>!namo k p.2)=true→(∀ j z,l[j]?=some z→S (i+j)=true→z.2.he.all (fun p=>!namo k p.2)=true)→(hS l S i H).all (fun p=>!namo k p.2)=true
 | [],_,_,_,h,_=>h
 | (o,sp)::r,S,i,H,h,hw=>by
  simp only [hS]
  refine D1h r S (i+1) _ ?_ fun j z hj hS'=>hw (j+1) z (by simpa using hj) (by rwa [show i+(j+1)=i+1+j by omega])
  cases hS':S i
  ·exact h
  ·rw [cond_true,List.all_append,Bool.and_eq_true]
   exact⟨hw 0 (o,sp) rfl (by simpa using hS'),h⟩
theorem Rel.same {c:Cx}{n:Nat}{F F':Fr}{H H':Hp}{a:Act}{w:World}(h:Rel c n F H a w)(hf:∀ s,lf F' s=lf F s)(hh:∀ k,lo H' k=lo H k):Rel c n F' H' a w:=by
 obtain⟨h1,h2,γ,G,hw,hs⟩:=h
 exact⟨h1,h2,γ,G,⟨hw.off,hw.g0,hw.glt,fun k ob hk=>hw.obj k ob (by rwa [hh] at hk),fun k ob b hk=>hw.own k ob b (by rwa [hh] at hk),fun k k' ob ob' b hk hk'=>hw.dis k k' ob ob' b (by rwa [hh] at hk) (by rwa [hh] at hk'),hw.lnk⟩,fun s x hx=>hs s x (by rwa [hf] at hx)⟩
def bhd (B:List Nat)(i j:Nat):Bool:=(B.getD i 0).testBit j
def H0t (B:List Nat)(l:List (Nat × Sp)):Bool:=l.all fun p=>l.all fun q=>!Nat.blt p.1 q.1||bhd B q.1 p.1||((p.2.he.all fun e=>!(q.2.ks.elem e.1||q.2.he.any fun f=>Nat.beq f.1 e.1))&&(q.2.he.all fun e=>!(p.2.ks.elem e.1||p.2.he.any fun f=>Nat.beq f.1 e.1)))
def H0u (B:List Nat)(F:Fr)(H:Hp)(l:List (Nat × Sp)):Bool:=l.all fun p=>p.2.he.all fun e=>p.2.ks.elem e.1||(((Nat.blt e.1 1000&&frsh e.1 F H)&&(match lo H e.1 with|none=>true|some .dead=>true|_=>false))&&
 l.all fun q=>Nat.beq p.1 q.1||bhd B q.1 p.1||((match q.2.x with|some y=>!nam e.1 y|none=>true)&&(q.2.he.all fun f=>!namo e.1 f.2&&!Nat.beq f.1 e.1)))
def idx:Nat→List Sp→List (Nat × Sp)
 | _,[]=>[]
 | i,s::r=>(i,s)::idx (i+1) r
theorem C4f:∀(l:List Sp) (i j:Nat) (s:Sp),l[j]?=some s→(i+j,s)∈idx i l
 | [],_,_,_,h=>by simp at h
 | x::r,i,0,s,h=>by simp at h;subst h;simp [idx]
 | x::r,i,j+1,s,h=>by
  have:=C4f r (i+1) j s (by simpa using h)
  rw [idx,show i+(j+1)=i+1+j by omega]
  exact List.mem_cons_of_mem _ this
def chkI (ops:List Oper)(F:Fr)(H:Hp)(sps:List Sp):Bool:=H0t (bf ops) (idx 0 sps)&&H0u (bf ops) F H (idx 0 sps)
def StS (P:Program)(n:Nat)(ops:List Oper)(o:Oper)(F:Fr)(H:Hp)(sp:Sp):Prop:=
 dok n o.dst sp.x=true∧((gsf ops F o=some true∧LS P o F H sp.ks sp.x sp.he)∨(gsf ops F o=some false∧sp=⟨some (.d (.v undef)),[],[]⟩))
def XW (P:Program)(c:Cx)(n:Nat)(ops:List Oper)(Q:Post)(F0:Fr)(H0:Hp):List Oper→Nat→List Sp→Fr→Hp→Prop
 | l,0,sps,F,H=>chkI ops F0 H0 sps=true∧XL P c n ops Q l F H
 | o::r,m+1,sps,F,H=>∃ sp,StS P n ops o F H sp∧XW P c n ops Q F0 H0 r m (sps++[sp]) (ptf o.dst sp.x F) (sp.he++H)
 | [],_+1,_,_,_=>False
theorem G2t {P : Program}{c : Cx}{n : Nat}{ops : List Oper}{Q : Post}{F0 : Fr}{H0 : Hp} : ∀ (l : List Oper) (m : Nat) (sps : List Sp) (F : Fr) (H : Hp), XW P c n ops Q F0 H0 l m sps F H →
  ∃ zs:Zs,zs.map (·.1)=l.take m∧zs.length=m∧chkI ops F0 H0 (sps++zs.map (·.2))=true∧(∀ k z,zs[k]?=some z→StS P n ops z.1 (fS zs (fun j=>Nat.blt j k) 0 F) (hS zs (fun j=>Nat.blt j k) 0 H) z.2)∧XL P c n ops Q (l.drop m) (fS zs (fun _=>true) 0 F) (hS zs (fun _=>true) 0 H)
 | l,0,sps,F,H,h=>by
  have h:chkI ops F0 H0 sps=true∧XL P c n ops Q l F H:=by cases l <;> exact h
  exact⟨[],by simp,rfl,by simpa using h.1,fun k z hz=>by simp at hz,by simpa [fS,hS] using h.2⟩
 | [],m+1,sps,F,H,h=>h.elim
 | o :: r, m + 1, sps, F, H, h => by
  obtain⟨sp,h1,h2⟩:=h
  obtain⟨zs,h3,h4,h5,h6,h7⟩:=G2t r m _ _ _ h2
  refine⟨(o,sp)::zs,by simp [h3],by simp [h4],by simpa using h5,fun k z hz=>?_,by
   have c1:∀(r:Zs) (i j:Nat) (F:Fr),fS r (fun _=>true) i F=fS r (fun _=>true) j F:=by
    intro r
    induction r with
    | nil=>intro i j F;rfl
    | cons q r ih=>intro i j F;simp only [fS,cond_true];exact ih _ _ _
   have c2:∀(r:Zs) (i j:Nat) (F:Hp),hS r (fun _=>true) i F=hS r (fun _=>true) j F:=by
    intro r
    induction r with
    | nil=>intro i j F;rfl
    | cons q r ih=>intro i j F;simp only [hS,cond_true];exact ih _ _ _
   simp only [fS,hS,cond_true,List.drop_succ_cons]
   rw [c1 zs (0+1) 0,c2 zs (0+1) 0]
   exact h7⟩
  cases k with
  | zero=>
   simp at hz
   subst hz
   have k1:∀(r:Zs) (i:Nat) (F:Fr),fS r (fun j=>Nat.blt j 0) i F=F:=by
    intro r
    induction r with
    | nil=>intro i F;rfl
    | cons q r ih=>intro i F;simp only [fS];rw [show Nat.blt i 0=false by simp [Nat.blt,Nat.ble]];exact ih _ _
   have k2:∀(r:Zs) (i:Nat) (F:Hp),hS r (fun j=>Nat.blt j 0) i F=F:=by
    intro r
    induction r with
    | nil=>intro i F;rfl
    | cons q r ih=>intro i F;simp only [hS];rw [show Nat.blt i 0=false by simp [Nat.blt,Nat.ble]];exact ih _ _
   rw [k1,k2]
   exact h1
  | succ k=>
   have:=h6 k z (by simpa using hz)
   have sh1:∀(r:Zs) (i:Nat) (F:Fr),fS r (fun j=>Nat.blt j (k+1)) (i+1) F=fS r (fun j=>Nat.blt j k) i F:=by
    intro r
    induction r with
    | nil=>intro i F;rfl
    | cons q r ih=>intro i F;simp only [fS];rw [show Nat.blt (i+1) (k+1)=Nat.blt i k by simp [Nat.blt,Nat.ble]];exact ih _ _
   have sh2:∀(r:Zs) (i:Nat) (F:Hp),hS r (fun j=>Nat.blt j (k+1)) (i+1) F=hS r (fun j=>Nat.blt j k) i F:=by
    intro r
    induction r with
    | nil=>intro i F;rfl
    | cons q r ih=>intro i F;simp only [hS];rw [show Nat.blt (i+1) (k+1)=Nat.blt i k by simp [Nat.blt,Nat.ble]];exact ih _ _
   simp only [fS,hS]
   rw [show Nat.blt 0 (k+1)=true by simp [Nat.blt,Nat.ble],cond_true,cond_true,sh1,sh2]
   exact this
end Go.Dl
namespace Go.Dl
open Go.RowKit Go.En
section
variable {P : Program}{c : Cx}{n : Nat}{ops : List Oper}{Q : Post}{F0 : Fr}{H0 : Hp}{m : Nat}{zs : Zs}
def lsb (listed:Array Bool)(i:Nat):Bool:=listed.getD i false
structure Iv (c:Cx)(n:Nat)(ops:List Oper)(m:Nat)(F0:Fr)(H0:Hp)(zs:Zs)(listed:Array Bool)(a:Act)(w:World):Prop where
 lsz:listed.size=ops.length
 clo:Clo ops (LsD listed)
 low:∀ i,LsD listed i→i<m
 rel:Rel c n (fS zs (lsb listed) 0 F0) (hS zs (lsb listed) 0 H0) a w
theorem D3e {i j:Nat}(h:bhd (bf ops) i j=true):Rch ops i j:=B0d h
theorem D8d (hchk : chk ops m = true)(hz : zs.map (·.1) = ops.take m)(hI : chkI ops F0 H0 (zs.map (·.2)) = true)
  (hC:∀ k z,zs[k]?=some z→StS P n ops z.1 (fS zs (fun j=>Nat.blt j k) 0 F0) (hS zs (fun j=>Nat.blt j k) 0 H0) z.2)
  (hF:XL P c n ops Q (ops.drop m) (fS zs (fun _=>true) 0 F0) (hS zs (fun _=>true) 0 H0)) :
  ∀(fuel:Nat) (listed:Array Bool) (a:Act) (w:World),Iv c n ops m F0 H0 zs listed a w→unl ops.length listed=fuel→wpAny P .any ops.toArray Q fuel listed a w:=by
 simp only [chk,Bool.and_eq_true] at hchk
 obtain⟨⟨⟨⟨hm,hlow⟩,hreads⟩,hdst⟩,htail⟩:=hchk
 have hm:m≤ops.length:=Nat.le_of_ble_eq_true hm
 have hzl:zs.length=m:=by have:=congrArg List.length hz;simpa [Nat.min_eq_left hm] using this
 have hzo:∀ {j z},zs[j]?=some z→j<m∧ops[j]?=some z.1:=fun {j z} h=>by
  have hj:j<zs.length:=(List.getElem?_eq_some_iff.1 h).1
  have h1:(zs.map (·.1))[j]?=some z.1:=by rw [List.getElem?_map,h];rfl
  rw [hz,List.getElem?_take_of_lt (by omega)] at h1
  exact⟨by omega,h1⟩
 have hoz:∀ {j o},j<m→ops[j]?=some o→∃ z,zs[j]?=some z∧z.1=o:=fun {j o} hj ho=>by
  obtain⟨z,h⟩:∃ z,zs[j]?=some z:=⟨_,List.getElem?_eq_getElem (by omega)⟩
  refine⟨z,h,?_⟩
  have:=(hzo h).2
  rw [ho] at this
  exact(Option.some.inj this).symm
 simp only [chkI,Bool.and_eq_true] at hI
 have hOb:=List.all_eq_true.1 hI.1
 have hFr:=List.all_eq_true.1 hI.2
 have hix:∀ {j z},zs[j]?=some z→(j,z.2)∈idx 0 (zs.map (·.2)):=fun {j z} h=>by
  have:=C4f (zs.map (·.2)) 0 j z.2 (by rw [List.getElem?_map,h];rfl)
  rwa [Nat.zero_add] at this
 have hord:∀ {i j z y k},i<j→zs[i]?=some z→zs[j]?=some y→((lo z.2.he k≠none∧(k∈y.2.ks∨lo y.2.he k≠none))∨(lo y.2.he k≠none∧(k∈z.2.ks∨lo z.2.he k≠none)))→Rch ops j i:=by
  intro i j z y k hij h1 h2 h3
  have:=List.all_eq_true.1 (hOb _ (hix h1)) _ (hix h2)
  simp only [Bool.or_eq_true,Bool.not_eq_true',Bool.and_eq_true] at this
  rcases this with(h|h)|h
  ·have hb:Nat.blt i j=true:=Nat.ble_eq_true_of_le hij
   rw [hb] at h;cases h
  ·exact D3e h
  ·exfalso
   have nn:∀ {he:Hp} {k:Nat},lo he k≠none→∃ ob,(k,ob)∈he:=fun {he k} hk=>by
    cases hh:lo he k with
    | none=>exact absurd hh hk
    | some ob=>exact⟨ob,A2z hh⟩
   rcases h3 with⟨g1,g2⟩|⟨g1,g2⟩
   ·obtain⟨ob,hob⟩:=nn g1
    have:=List.all_eq_true.1 h.1 _ hob
    simp only [Bool.not_eq_true',Bool.or_eq_false_iff] at this
    rcases g2 with g2|g2
    ·have:=this.1;simp [g2] at this
    ·obtain⟨ob',hob'⟩:=nn g2
     have:=List.any_eq_false.1 this.2 _ hob'
     simp at this
   ·obtain⟨ob,hob⟩:=nn g1
    have:=List.all_eq_true.1 h.2 _ hob
    simp only [Bool.not_eq_true',Bool.or_eq_false_iff] at this
    rcases g2 with g2|g2
    ·have:=this.1;simp [g2] at this
    ·obtain⟨ob',hob'⟩:=nn g2
     have:=List.any_eq_false.1 this.2 _ hob'
     simp at this
 have hfin:∀(listed:Array Bool) (a:Act) (w:World) (fuel:Nat),Iv c n ops m F0 H0 zs listed a w→(∀ j,j<m→LsD listed j)→unl ops.length listed=fuel→wpAny P .any ops.toArray Q fuel listed a w:=by
  intro listed a w fuel I hall hu
  have hp:∀ i,LsD listed i↔i<m:=fun i=>⟨I.low i,hall i⟩
  have:=R0 hm hp
  refine A8f hlow htail fuel m listed a w (Nat.le_refl _) (by omega) I.lsz hp (hF a w ?_)
  refine I.rel.same (fun s=>A1c _ _ _ _ _ _ rfl fun j z hj _=>?_) (fun k=>Y4 _ _ _ _ _ _ rfl fun j z hj _=>?_)
  ·rw [Nat.zero_add];exact(hall j (hzo hj).1).symm
  ·rw [Nat.zero_add];exact(hall j (hzo hj).1).symm
 have hleast:∀(listed:Array Bool) (a:Act) (w:World),Iv c n ops m F0 H0 zs listed a w→(¬ ∀ j,j<m→LsD listed j)→∃ i,i<m∧i∈Region.ready .any ops.toArray listed:=by
  intro listed a w I hn
  have:∃ i,i<m∧¬ LsD listed i:=by
   apply Classical.byContradiction
   intro h
   exact hn fun j hj=>Classical.byContradiction fun hj'=>h ⟨j,hj,hj'⟩
  obtain⟨i,h1,h2,h3⟩:=A1v (fun i=>by unfold LsD;infer_instance) m this
  obtain⟨o,ho⟩:∃ o,ops[i]?=some o:=⟨_,List.getElem?_eq_getElem (by omega)⟩
  exact⟨i,h1,(K2 I.lsz).2 ⟨h2,o,ho,fun e he hb=>h3 _ (Y8 hlow ho he hb)⟩⟩
 intro fuel
 induction fuel with
 | zero=>
  intro listed a w I hu
  by_cases hall:∀ j,j<m→LsD listed j
  ·exact hfin listed a w 0 I hall hu
  ·exfalso
   obtain⟨i,h1,h2⟩:=hleast listed a w I hall
   have:=A1o (N:=ops.length) (by omega) I.lsz ((K2 I.lsz).1 h2).1
   omega
 | succ fuel ih=>
  intro listed a w I hu
  by_cases hall:∀ j,j<m→LsD listed j
  ·exact hfin listed a w _ I hall hu
  ·obtain⟨i0,hi0m,hi0⟩:=hleast listed a w I hall
   refine⟨fun h0=>(by rw [h0] at hi0;cases hi0),fun i hi=>?_⟩
   obtain⟨hun,o,ho,hed⟩:=(K2 I.lsz).1 hi
   have hilt:=(List.getElem?_eq_some_iff.1 ho).1
   have hedge:∀ o',ops[i]?=some o'→∀ e∈o'.after,Region.binds .any e=true→LsD listed e.on:=fun o' ho'=>by rw [ho] at ho';cases ho';exact hed
   have him:i<m:=by
    apply Classical.byContradiction
    intro hge
    exact hall fun j hj=>(A3e htail hilt (by omega) (show j<i by omega)).clo I.clo hedge
   obtain⟨z,hzi,rfl⟩:=hoz him ho
   have hback:∀ {j},Rch ops j i→¬ LsD listed j:=fun {j} hr hlj=>by
    obtain⟨q,hq⟩:∃ q,ops[j]?=some q:=by
     cases hr with
     | one h9 _ _=>exact⟨_,h9⟩
     | more h9 _ _ _=>exact⟨_,h9⟩
    exact hun (hr.clo I.clo fun o' ho' e he hb=>I.clo j o' ho' hlj e he hb)
   have hahead:∀ {j},Rch ops i j→LsD listed j:=fun {j} hr=>hr.clo I.clo hedge
   have hslot:∀ s∈z.1.looksAt ops.toArray,lf (fS zs (lsb listed) 0 F0) s=lf (fS zs (fun j=>Nat.blt j i) 0 F0) s:=fun s hs=>by
    refine A1c _ _ _ _ _ _ rfl fun j y hj hw=>?_
    rw [Nat.zero_add]
    obtain⟨hjm,hjo⟩:=hzo hj
    have hr:=W0 hreads ho him hjo hjm hs hw.1
    by_cases hlt:j<i
    ·have h1:=hahead (hr.1 hlt)
     rw [show Nat.blt j i=true from Nat.ble_eq_true_of_le hlt]
     exact h1
    ·rw [show Nat.blt j i=false by cases hb:Nat.blt j i with
      | false=>rfl
      | true=>exact absurd (Nat.le_of_ble_eq_true (by simpa [Nat.blt] using hb)) (by omega)]
     have:¬ LsD listed j:=by
      by_cases hji:j=i
      ·subst hji;exact hun
      ·exact hback (hr.2 (by omega))
     simpa [LsD,lsb] using this
   have hobj:∀ k∈z.2.ks,lo (hS zs (lsb listed) 0 H0) k=lo (hS zs (fun j=>Nat.blt j i) 0 H0) k:=fun k hk=>by
    refine Y4 _ _ _ _ _ _ rfl fun j y hj hw=>?_
    rw [Nat.zero_add]
    by_cases hlt:j<i
    ·have h1:=hahead (hord hlt hj hzi (.inl ⟨hw,.inl hk⟩))
     rw [show Nat.blt j i=true from Nat.ble_eq_true_of_le hlt]
     exact h1
    ·rw [show Nat.blt j i=false by cases hb:Nat.blt j i with
      | false=>rfl
      | true=>exact absurd (Nat.le_of_ble_eq_true (by simpa [Nat.blt] using hb)) (by omega)]
     have:¬ LsD listed j:=by
      by_cases hji:j=i
      ·subst hji;exact hun
      ·exact hback (hord (show i<j by omega) hzi hj (.inr ⟨hw,.inl hk⟩))
     simpa [LsD,lsb] using this
   obtain⟨hdok,hst⟩:=hC i z hzi
   have hg:gsf ops (fS zs (lsb listed) 0 F0) z.1=gsf ops (fS zs (fun j=>Nat.blt j i) 0 F0) z.1:=by
    unfold gsf
    cases hgd:z.1.guard with
    | none=>rfl
    | some p=>
     obtain⟨j,want⟩:=p
     dsimp only
     cases hj:nthd ops j with
     | none=>rfl
     | some d=>dsimp only;rw [hslot d (A6j hgd hj)]
   have hfrs : frs z.2.he z.2.ks (fS zs (lsb listed) 0 F0) (hS zs (lsb listed) 0 H0) = true := by
    unfold frs
    rw [List.all_eq_true]
    intro e he
    have h1:=List.all_eq_true.1 (hFr _ (hix hzi)) e he
    simp only [Bool.or_eq_true,Bool.and_eq_true] at h1 ⊢
    rcases h1 with h1|⟨⟨⟨h0,h1⟩,h2⟩,h3⟩
    ·exact .inl h1
    ·have h3':=List.all_eq_true.1 h3
     have hoth:∀ j y,zs[j]?=some y→lsb listed (0+j)=true→(match y.2.x with|some q=>!nam e.1 q|none=>true)=true∧(y.2.he.all fun f=>!namo e.1 f.2&&!Nat.beq f.1 e.1)=true:=by
      intro j y hj hl
      rw [Nat.zero_add] at hl
      have:=h3' _ (hix hj)
      simp only [Bool.or_eq_true,Bool.and_eq_true] at this
      rcases this with(h|h)|h
      ·have:=Nat.eq_of_beq_eq_true h
       subst this
       exact absurd hl hun
      ·exact absurd hl (hback (D3e h))
      ·exact h
     have h4:frsh e.1 (fS zs (lsb listed) 0 F0) (hS zs (lsb listed) 0 H0)=true:=by
      simp only [frsh,Bool.and_eq_true] at h1 ⊢
      refine⟨D1s _ _ _ _ h1.1 fun j y hj hl q hq=>?_,D1h _ _ _ _ h1.2 fun j y hj hl=>?_⟩
      ·have:=(hoth j y hj hl).1
       rw [hq] at this
       simpa using this
      ·have:=(hoth j y hj hl).2
       rw [List.all_eq_true] at this ⊢
       exact fun f hf=>by have:=this f hf;simp only [Bool.and_eq_true] at this;exact this.1
     refine .inr ⟨⟨h0,h4⟩,?_⟩
     have h5 : lo (hS zs (lsb listed) 0 H0) e.1 = lo H0 e.1 := by
      have:lo (hS zs (lsb listed) 0 H0) e.1=lo (hS zs (fun _=>false) 0 H0) e.1:=Y4 _ _ _ _ _ _ rfl fun j y hj hw=>by
       cases hl:lsb listed (0+j) with
       | false=>rfl
       | true=>
        exfalso
        have h6:=(hoth j y hj hl).2
        cases hh:lo y.2.he e.1 with
        | none=>exact hw hh
        | some ob=>
         have:=List.all_eq_true.1 h6 _ (A2z hh)
         simp at this
      rw [this]
      have key:∀(r:Zs) (i:Nat) (H:Hp),hS r (fun _=>false) i H=H:=by
       intro r
       induction r with
       | nil=>intro i H;rfl
       | cons q r ih=>intro i H;simp only [hS,cond_false];exact ih _ _
      rw [key]
     rw [h5]
     exact h2
   have hnext:∀ v w',Rel c n (ptf z.1.dst z.2.x (fS zs (lsb listed) 0 F0)) (z.2.he++hS zs (lsb listed) 0 H0) (a.put z.1.dst v) w'→Iv c n ops m F0 H0 zs (listed.setIfInBounds i true) (a.put z.1.dst v) w':=by
    intro v w' hr
    have hset:∀ j,LsD (listed.setIfInBounds i true) j↔(j=i∨LsD listed j):=fun j=>by
     unfold LsD
     by_cases hij:i=j
     ·subst hij;simp [I.lsz,hilt]
     ·rw [getD_set_ne false hij];constructor
      ·exact .inr
      ·rintro(h|h)
       ·exact absurd h.symm hij
       ·exact h
    have hsb:∀ j,j≠i→lsb (listed.setIfInBounds i true) j=lsb listed j:=fun j hj=>by
     unfold lsb;rw [getD_set_ne false (fun e=>hj e.symm)]
    have hsi:lsb (listed.setIfInBounds i true) i=true:=by unfold lsb;simp [I.lsz,hilt]
    refine⟨by simpa using I.lsz,?_,?_,hr.same (fun s=>?_) (fun k=>?_)⟩
    ·intro k q hq hk e he hb
     rw [hset] at hk ⊢
     rcases hk with rfl|hk
     ·exact .inr (hedge q hq e he hb)
     ·exact .inr (I.clo k q hq hk e he hb)
    ·intro k hk
     rcases (hset k).1 hk with rfl|hk
     ·exact him
     ·exact I.low k hk
    ·by_cases hw:wrS z s
     ·rw [A5h,if_pos (show z.1.dst=some s∧z.2.x≠none from hw)]
      refine C4n zs _ 0 F0 i z hzi hw (by rw [Nat.zero_add];exact hsi) fun j y hij hj hw'=>?_
      obtain⟨hjm,hjo⟩:=hzo hj
      have:=A2a hdst ho him hjo hjm hw.1 hw'.1
      omega
     ·rw [A5h,if_neg (show ¬ (z.1.dst=some s∧z.2.x≠none) from hw)]
      refine A1c _ _ _ _ _ _ rfl fun j y hj hw'=>?_
      rw [Nat.zero_add]
      by_cases hji:j=i
      ·subst hji
       rw [hzi] at hj;cases hj
       exact absurd hw' hw
      ·exact hsb j hji
    ·rw [Z8]
     by_cases hw:lo z.2.he k=none
     ·rw [hw,Option.none_or]
      refine Y4 _ _ _ _ _ _ rfl fun j y hj hw'=>?_
      rw [Nat.zero_add]
      by_cases hji:j=i
      ·subst hji
       rw [hzi] at hj;cases hj
       exact absurd hw hw'
      ·exact hsb j hji
     ·rw [C4g zs _ 0 H0 i z hzi hw (by rw [Nat.zero_add];exact hsi) fun j y hij hj hw'=>?_]
      ·cases hh:lo z.2.he k with
       | none=>exact absurd hh hw
       | some ob=>rfl
      ·rw [Nat.zero_add,hsb j (by omega)]
       have:=hback (hord hij hzi hj (.inl ⟨hw,.inr hw'⟩))
       simpa [LsD,lsb] using this
   have hu':unl ops.length (listed.setIfInBounds i true)=fuel:=by
    have:=A1o (N:=ops.length) hilt I.lsz hun
    omega
   have hoa:ops.toArray[i]?=some z.1:=by simpa using ho
   obtain⟨r1,r2,γ,G,hw,hs⟩:=I.rel
   unfold wpOp
   simp only [hoa]
   rcases hst with⟨hg1,hls⟩|⟨hg1,hsp⟩
   ·rw [T5 hs (hg.trans hg1),if_pos rfl]
    have htb:∀ b,Tb γ z.2.ks (hS zs (fun j=>Nat.blt j i) 0 H0) z.2.he b→Tb γ z.2.ks (hS zs (lsb listed) 0 H0) z.2.he b:=by
     rintro b ⟨k,hk,ob,h1,h2,h3⟩
     exact⟨k,hk,ob,by rw [hobj k hk];exact h1,h2,h3⟩
    have hcv:∀ v w' γ' G',Evo γ G w (hS zs (fun j=>Nat.blt j i) 0 H0) z.2.ks z.2.he z.2.x v γ' G' w'→Evo γ G w (hS zs (lsb listed) 0 H0) z.2.ks z.2.he z.2.x v γ' G' w':=by
     intro v w' γ' G' e
     refine⟨e.kx.wk fun q _ h=>htb q h,e.gg,fun b hb=>?_,e.gh,e.gv,e.ob,fun k ob b h hb=>?_,e.ds,e.lr⟩
     ·obtain⟨g1,g2⟩:=e.gn b hb
      exact⟨g1,g2.imp id (Or.imp id (htb b))⟩
     ·obtain⟨g1,g2,g3⟩:=e.ow k ob b h hb
      exact⟨g1,g2,g3.imp id (htb b)⟩
    have harg:Args (fS zs (fun j=>Nat.blt j i) 0 F0) z.1 γ G w a:=by
     intro y hy q hq
     cases y with
     | tmp t=>exact Rel.ev hs (show ef (fS zs (lsb listed) 0 F0) (.tmp t)=some q by rw [ef,hslot t (A0w hy)];exact hq)
     | const v=>exact Rel.ev hs hq
     | global g=>exact Rel.ev hs hq
     | func g=>exact Rel.ev hs hq
    have hhw:HW γ G z.2.ks (hS zs (fun j=>Nat.blt j i) 0 H0) w:=by
     refine⟨fun b hb=>(hw.glt b hb).1,fun k hk ob h=>hw.obj k ob (by rw [hobj k hk];exact h),fun k hk ob b h hb=>?_,fun k hk k' hk' ob ob' b h h' hb hb'=>hw.dis k k' ob ob' b (by rw [hobj k hk];exact h) (by rw [hobj k' hk'];exact h') hb hb'⟩
     obtain⟨g1,g2,_⟩:=hw.own k ob b (by rw [hobj k hk];exact h) hb
     exact⟨g1,g2⟩
    exact .inl (hls γ G w a harg hhw _ _ fun v w' γ' G' e=>ih _ _ _ (hnext v w' (Rel.step r1 r2 hw hs hdok hfrs (hcv v w' γ' G' e))) hu')
   ·rw [T5 hs (hg.trans hg1)]
    rw [if_neg (by simp)]
    have hev:Evo γ G w (hS zs (lsb listed) 0 H0) z.2.ks z.2.he z.2.x undef γ G w:=by
     rw [hsp]
     exact Evo.none (fun b hb=>(hw.glt b hb).1) fun y hy=>by cases hy;rw [LR,DR]
    exact ih _ _ _ (hnext undef w (Rel.step r1 r2 hw hs hdok hfrs hev)) hu'
theorem G4p {id:Nat}{F:Fr}{H:Hp}(m:Nat)(hm:P.follows .mixedOrders=true)(hc:chk ops m=true)(h:XW P c n ops Q F H ops m [] F H):X P c n (.region id ops.toArray true) Q F H:=by
 intro a w hr
 obtain⟨zs,h1,h2,h3,h4,h5⟩:=G2t ops m [] F H h
 refine wp_region_any hm ?_
 rw [show ops.toArray.size=ops.length by simp]
 have hp:∀ i,LsD (Array.replicate ops.length false) i↔i<0:=fun i=>by
  unfold LsD;simp [Array.getElem?_replicate];split <;> rfl
 have hpb:lsb (Array.replicate ops.length false)=fun _=>false:=funext fun i=>by
  unfold lsb;simp [Array.getElem?_replicate];split <;> rfl
 have k1:∀(r:Zs) (i:Nat) (F:Fr),fS r (fun _=>false) i F=F:=by
  intro r
  induction r with
  | nil=>intro i H;rfl
  | cons q r ih=>intro i H;simp only [fS,cond_false];exact ih _ _
 have k2:∀(r:Zs) (i:Nat) (H:Hp),hS r (fun _=>false) i H=H:=by
  intro r
  induction r with
  | nil=>intro i H;rfl
  | cons q r ih=>intro i H;simp only [hS,cond_false];exact ih _ _
 have hdrew:Rel c n F H a w.drew:=by
  obtain⟨r1,r2,γ,G,hw,hs⟩:=hr
  have hG:∀ b,G b→G b∧w.drew.heap[b]?=w.heap[b]?:=fun b hb=>⟨hb,rfl⟩
  refine⟨r1,r2,γ,G,⟨hw.off.trans' (S:=fun _=>False) (fun _ _ h=>h.elim) (Kx.of_ext (V1 w)),hw.g0,hw.glt,fun k ob hk=>OR.mv hG rfl (fun _ _=>.inl rfl) (fun _ _=>rfl) (hw.obj k ob hk),hw.own,hw.dis,hw.lnk⟩,fun s x hx=>?_⟩
  obtain⟨u,g1,g2⟩:=hs s x hx
  exact⟨u,g1,LR.mv hG x u (fun _ _=>.inl rfl) g2⟩
 refine D8d hc h1 (by simpa using h3) h4 h5 _ _ a _ ⟨by simp,fun i o _ hi=>absurd ((hp i).1 hi) (Nat.not_lt_zero _),fun i hi=>absurd ((hp i).1 hi) (Nat.not_lt_zero _),by rw [hpb,k1,k2];exact hdrew⟩ ?_
 have:=R0 (N:=ops.length) (Nat.zero_le _) hp
 omega
end
end Go.Dl
namespace Go.Dl
open Go.RowKit Go.En
def XG (dr:Bool)(P:Program)(c:Cx)(n:Nat)(ops:List Oper)(Q:Post)(F0:Fr)(H0:Hp)(sps:List Sp)(l:List Oper)(F:Fr)(H:Hp):Prop:=
 match dr with
 | true=>XW P c n ops Q F0 H0 l l.length sps F H
 | false=>XL P c n ops Q l F H
section
variable {dr : Bool}{P : Program}{c : Cx}{n : Nat}{ops rest : List Oper}{Q : Post}{F0 F : Fr}{H0 H : Hp}{sps : List Sp}{o : Oper}
theorem G2q {id:Nat}{l:List Oper}(h:XG false P c n l Q F H [] l F H):X P c n (.region id l.toArray false) Q F H:=D3p h
theorem G2s {id:Nat}{l:List Oper}(hm:P.follows .mixedOrders=true)(hc:chk l l.length=true)(h:XG true P c n l Q F H [] l F H):X P c n (.region id l.toArray true) Q F H:=G4p l.length hm hc h
theorem G2x (h:XK c n Q .normal F H):XG false P c n ops Q F0 H0 sps [] F H:=D3s h
theorem C5u (hI:chkI ops F0 H0 sps=true)(h:XK c n Q .normal F H):XG true P c n ops Q F0 H0 sps [] F H:=⟨hI,D3s h⟩
theorem G_ls {x:Option Lf}{he:Hp}{ks:List Nat}(h:LS P o F H ks x he)(hg:gsf ops F o=some true)(hd:dok n o.dst x=true)(hf:frs he ks F H=true)(k:XG dr P c n ops Q F0 H0 (sps++[⟨x,he,ks⟩]) rest (ptf o.dst x F) (he++H)):XG dr P c n ops Q F0 H0 sps (o::rest) F H:=by
 cases dr with
 | false=>exact G2u h hg hd hf k
 | true=>exact⟨⟨x,he,ks⟩,⟨hd,.inl ⟨hg,h⟩⟩,k⟩
theorem G_x {x:Lf}{d:Nat}{ks:List Nat}(h:LS P o F H ks (some x) [])(hg:gsf ops F o=some true)(hd:odst n o.dst=some d)(k:XG dr P c n ops Q F0 H0 (sps++[⟨some x,[],ks⟩]) rest ((d,x)::F) H):XG dr P c n ops Q F0 H0 sps (o::rest) F H:=by
 have h2:=D1 hd
 refine G_ls h hg ?_ rfl ?_
 ·rw [h2.1];rw [h2.1] at h2;exact h2.2
 ·rw [h2.1];exact k
theorem G_no {d:Nat}(hg:gsf ops F o=some false)(hd:odst n o.dst=some d)(k:XG dr P c n ops Q F0 H0 (sps++[⟨some (.d (.v undef)),[],[]⟩]) rest ((d,.d (.v undef))::F) H):XG dr P c n ops Q F0 H0 sps (o::rest) F H:=by
 cases dr with
 | false=>exact H1a hg hd k
 | true=>
  have h2:=D1 hd
  refine⟨⟨some (.d (.v undef)),[],[]⟩,⟨?_,.inr ⟨hg,rfl⟩⟩,?_⟩
  ·rw [h2.1];rw [h2.1] at h2;exact h2.2
  ·rw [h2.1];exact k
theorem G_n {x:Lf}{d k:Nat}{ob:Ob}{ks:List Nat}(hg:gsf ops F o=some true)(hd:odst n o.dst=some d)(h:LS P o F H ks (some x) [(k,ob)])(hf:frs [(k,ob)] ks F H=true)(r:XG dr P c n ops Q F0 H0 (sps++[⟨some x,[(k,ob)],ks⟩]) rest ((d,x)::F) ((k,ob)::H)):XG dr P c n ops Q F0 H0 sps (o::rest) F H:=by
 have h2:=D1 hd
 refine G_ls h hg ?_ hf ?_
 ·rw [h2.1];rw [h2.1] at h2;exact h2.2
 ·rw [h2.1];exact r
theorem G_nd {x:Lf}{d:Nat}{ob:Ob}{ks:List Nat}(hg:gsf ops F o=some true)(hd:odst n o.dst=some d)(h:LS P o F H ks (some x) [(d,ob)])(hf:frs [(d,ob)] ks F H=true)(r:XG dr P c n ops Q F0 H0 (sps++[⟨some x,[(d,ob)],ks⟩]) rest ((d,x)::F) ((d,ob)::H)):XG dr P c n ops Q F0 H0 sps (o::rest) F H:=G_n hg hd h hf r
theorem G_s {k:Nat}{ob:Ob}{ks:List Nat}(h:LS P o F H ks none [(k,ob)])(hg:gsf ops F o=some true)(hd:o.dst=none)(hf:frs [(k,ob)] ks F H=true)(r:XG dr P c n ops Q F0 H0 (sps++[⟨none,[(k,ob)],ks⟩]) rest F ((k,ob)::H)):XG dr P c n ops Q F0 H0 sps (o::rest) F H:=by
 refine G_ls h hg ?_ hf ?_
 ·rw [hd];rfl
 ·rw [hd];exact r
theorem D2 {d:Nat}{p:Prop}{dp:Decidable p}(h:∀ w,Val P (pk F o) w o (.bool (@decide p dp)))(hg:gsf ops F o=some true)(hd:odst n o.dst=some d)
  (ht:p→XG dr P c n ops Q F0 H0 (sps++[⟨some (.d (.v (.bool true))),[],[]⟩]) rest ((d,.d (.v (.bool true)))::F) H) (hf:¬ p→XG dr P c n ops Q F0 H0 (sps++[⟨some (.d (.v (.bool false))),[],[]⟩]) rest ((d,.d (.v (.bool false)))::F) H):XG dr P c n ops Q F0 H0 sps (o::rest) F H:=by
 by_cases hp:p
 ·exact G_x (A7 (by simpa [hp] using h)) hg hd (ht hp)
 ·exact G_x (A7 (by simpa [hp] using h)) hg hd (hf hp)
theorem G4y {j d:Nat}{b e:Bool}(_hg:o.guard=some (j,e))(_hj:nthd ops j=some d)(_hl:lf F d=some (.d (.v (.bool b))))(ht:b=true→XG dr P c n ops Q F0 H0 sps (o::rest) F H)(hf:b=false→XG dr P c n ops Q F0 H0 sps (o::rest) F H):XG dr P c n ops Q F0 H0 sps (o::rest) F H:=by
 cases b
 ·exact hf rfl
 ·exact ht rfl
theorem K6 (s:Nat){k m:Nat}{t:TypeId}{sz:Nat}{rows:List (List Dt)}(hs:lf F s=some (.o k m))(hk:lo H k=some (.ls t sz m rows))(hl:rows.length≤140737488355328)(h:XG false P c n ops Q F0 H0 sps rest ((s,.d (.s sz rows))::F) ((k,.dead)::H)):XG false P c n ops Q F0 H0 sps rest F H:=D8j s hs hk hl h
theorem H1d {d:Nat}{t e:TypeId}{x:Operand}{sz m:Nat}{rows:List (List Dt)}[UT P t (.slice e)](ho:o.op=.call { callee:=.builtin .len,args:=#[x],argTypes:=#[t] })(hx:ef F x=some (.d (.s sz rows)))(hl:rows.length=m)(hg:gsf ops F o=some true)(hd:odst n o.dst=some d)
  (k:m≤140737488355328→XG false P c n ops Q F0 H0 sps rest ((d,.d (.v (int m)))::F) H):XG false P c n ops Q F0 H0 sps (o::rest) F H:=G4r ho hx hl hg hd k
theorem at_G (h:XG dr P c n ops Q F0 H0 sps rest F H):XG dr P c n ops Q F0 H0 sps rest F H:=h
theorem M0 {d:Option Tmp}{op:BinOp}{t u ty:TypeId}{x y:Operand}{pos:String}{after:Array Edge}{g:Option (Nat × Bool)}(h:XG dr P c n ops Q F0 H0 sps (⟨d,.binOp op t x y u,ty,pos,after,g⟩::rest) F H):XG dr P c n ops Q F0 H0 sps (⟨d,.binOp op t x y u,ty,pos,after,g⟩::rest) F H:=h
theorem W4 {d:Option Tmp}{e:Call}{ty:TypeId}{pos:String}{after:Array Edge}{g:Option (Nat × Bool)}(h:XG dr P c n ops Q F0 H0 sps (⟨d,.call e,ty,pos,after,g⟩::rest) F H):XG dr P c n ops Q F0 H0 sps (⟨d,.call e,ty,pos,after,g⟩::rest) F H:=h
theorem G2k {d:Option Tmp}{x:Operand}{ty:TypeId}{pos:String}{after:Array Edge}{g:Option (Nat × Bool)}(h:XG dr P c n ops Q F0 H0 sps (⟨d,.move x,ty,pos,after,g⟩::rest) F H):XG dr P c n ops Q F0 H0 sps (⟨d,.move x,ty,pos,after,g⟩::rest) F H:=h
theorem G2o {d:Option Tmp}{x:Operand}{ty:TypeId}{pos:String}{after:Array Edge}{g:Option (Nat × Bool)}(h:XG dr P c n ops Q F0 H0 sps (⟨d,.assign x,ty,pos,after,g⟩::rest) F H):XG dr P c n ops Q F0 H0 sps (⟨d,.assign x,ty,pos,after,g⟩::rest) F H:=h
theorem G2l {d:Option Tmp}{t:TypeId}{x:Operand}{ty:TypeId}{pos:String}{after:Array Edge}{g:Option (Nat × Bool)}(h:XG dr P c n ops Q F0 H0 sps (⟨d,.load t x,ty,pos,after,g⟩::rest) F H):XG dr P c n ops Q F0 H0 sps (⟨d,.load t x,ty,pos,after,g⟩::rest) F H:=h
theorem G2n {d:Option Tmp}{t:TypeId}{x:Operand}{f:Nat}{ty:TypeId}{pos:String}{after:Array Edge}{g:Option (Nat × Bool)}(h:XG dr P c n ops Q F0 H0 sps (⟨d,.fieldAddr t x f,ty,pos,after,g⟩::rest) F H):XG dr P c n ops Q F0 H0 sps (⟨d,.fieldAddr t x f,ty,pos,after,g⟩::rest) F H:=h
theorem G2i {d:Option Tmp}{t:TypeId}{x y:Operand}{ty:TypeId}{pos:String}{after:Array Edge}{g:Option (Nat × Bool)}(h:XG dr P c n ops Q F0 H0 sps (⟨d,.store t x y,ty,pos,after,g⟩::rest) F H):XG dr P c n ops Q F0 H0 sps (⟨d,.store t x y,ty,pos,after,g⟩::rest) F H:=h
theorem G2m {d:Option Tmp}{x y z:Operand}{ty:TypeId}{pos:String}{after:Array Edge}{g:Option (Nat × Bool)}(h:XG dr P c n ops Q F0 H0 sps (⟨d,.pick x y z,ty,pos,after,g⟩::rest) F H):XG dr P c n ops Q F0 H0 sps (⟨d,.pick x y z,ty,pos,after,g⟩::rest) F H:=h
theorem G2g {d:Option Tmp}{x:Operand}{f:Nat}{ty:TypeId}{pos:String}{after:Array Edge}{g:Option (Nat × Bool)}(h:XG dr P c n ops Q F0 H0 sps (⟨d,.extract x f,ty,pos,after,g⟩::rest) F H):XG dr P c n ops Q F0 H0 sps (⟨d,.extract x f,ty,pos,after,g⟩::rest) F H:=h
theorem G2j {d:Option Tmp}{x:Operand}{ty:TypeId}{pos:String}{after:Array Edge}{g:Option (Nat × Bool)}(h:XG dr P c n ops Q F0 H0 sps (⟨d,.nilCheck x,ty,pos,after,g⟩::rest) F H):XG dr P c n ops Q F0 H0 sps (⟨d,.nilCheck x,ty,pos,after,g⟩::rest) F H:=h
theorem G2h {d:Option Tmp}{u:UnOp}{t:TypeId}{x:Operand}{ty:TypeId}{pos:String}{after:Array Edge}{g:Option (Nat × Bool)}(h:XG dr P c n ops Q F0 H0 sps (⟨d,.unOp u t x,ty,pos,after,g⟩::rest) F H):XG dr P c n ops Q F0 H0 sps (⟨d,.unOp u t x,ty,pos,after,g⟩::rest) F H:=h
end
end Go.Dl
