/-
  The chapter's example: what its queries find. Search, plainly: the chapter's example; references.
-/
import Derived.Test.YtnifmbbpfdghmaaGreatDoorYc
import Derived.Test.YtnifmbbpfdghmaaGreatDoorY4
import Derived.Test.YtnifmbbpfdghmaaGreatDoorY2
import Derived.Test.YtnifmbbpfdghmaaGreatDoorTc
set_option linter.all false
namespace Go.Proofs.YtnifmbbpfdghmaaGreatDoor
open Go.RowKit Go.En
def baT:List UInt8:=[98,97]
def miT:List UInt8:=[109,105]
def dogT:List UInt8:=[100,42]
def textQ (role:Int) (p:List UInt8):Qy:=.mk 0 role p []
def twoQ (op:Int) (a b:Qy):Qy:=.mk op 0 [] [a,b]
end Go.Proofs.YtnifmbbpfdghmaaGreatDoor
namespace Go.Proofs.YtnifmbbpfdghmaaGreatDoor
open Go.RowKit Go.En
def smT:List Tier:=[⟨[116,101,120,116],0,1,-1⟩,⟨[119,111,114,100],2,2,0⟩]
def smN:List Note:=[⟨1,0,0,0,900,0,[]⟩,⟨2,1,1,0,300,0,[109,105]⟩,⟨3,1,1,300,600,0,[98,97]⟩,⟨5,1,1,600,900,0,[109,105]⟩]
def smD:Dc:=⟨4,[],900,0,[],smT,smN⟩
theorem sm_tier {k:Nat} {t:Tier} (h:smD.tiers[k]?=some t):(k=0∧t=⟨[116,101,120,116],0,1,-1⟩)∨(k=1∧t=⟨[119,111,114,100],2,2,0⟩):=by
  rcases k with _|_|k
  · exact .inl ⟨rfl,(Option.some.inj h).symm⟩
  · exact .inr ⟨rfl,(Option.some.inj h).symm⟩
  · cases h
theorem sm_note {k:Nat} {n:Note} (h:smD.notes[k]?=some n):(k=0∧n=⟨1,0,0,0,900,0,[]⟩)∨(k=1∧n=⟨2,1,1,0,300,0,[109,105]⟩)∨(k=2∧n=⟨3,1,1,300,600,0,[98,97]⟩)∨(k=3∧n=⟨5,1,1,600,900,0,[109,105]⟩):=by
  rcases k with _|_|_|_|k
  · exact .inl ⟨rfl,(Option.some.inj h).symm⟩
  · exact .inr (.inl ⟨rfl,(Option.some.inj h).symm⟩)
  · exact .inr (.inr (.inl ⟨rfl,(Option.some.inj h).symm⟩))
  · exact .inr (.inr (.inr ⟨rfl,(Option.some.inj h).symm⟩))
  · cases h
theorem sm_tiers (i : Nat) (t : Tier) (h : smD.tiers[i]? = some t) : TierOK smD.tiers i t := by
  rcases sm_tier h with⟨rfl,rfl⟩|⟨rfl,rfl⟩
  all_goals
    refine⟨by dsimp only;omega,by dsimp only;omega,fun _ k p hk hp=>?_,by dsimp only;omega,by dsimp only;omega,?_,by dsimp only;omega,?_⟩
    · rcases sm_tier hp with⟨rfl,rfl⟩|⟨rfl,rfl⟩ <;> dsimp only <;> omega
    · intro hk
      first
        | (exfalso;dsimp only at hk;omega)
        | exact⟨_,rfl,rfl⟩
    · refine⟨fun hk=>?_,fun hk=>?_,fun hk=>?_⟩
      all_goals
        first
          | (exfalso;dsimp only at hk;omega)
          | exact⟨_,rfl,rfl⟩
          | exact⟨by dsimp only;omega,_,rfl,rfl⟩
theorem sm_placed (n:Note) (t:Tier) (k:Nat) (hn:n∈smD.notes) (hk:n.tier=(k:Int)) (ht:smD.tiers[k]?=some t):PlacedOK smD n t:=by
  obtain⟨i,hi⟩:=List.getElem?_of_mem hn
  rcases sm_note hi with⟨rfl,rfl⟩|⟨rfl,rfl⟩|⟨rfl,rfl⟩|⟨rfl,rfl⟩
  all_goals
    rcases sm_tier ht with⟨rfl,rfl⟩|⟨rfl,rfl⟩
    all_goals first|(exfalso;dsimp only at hk;omega)|skip
  all_goals
    refine⟨by dsimp only;omega,fun hk0=>?_,fun hoff=>?_,fun hon=>?_,fun hk0=>?_,fun hk0 p hp=>?_,?_⟩
    · first|(exfalso;dsimp only at hk0;omega)|exact⟨_,rfl,rfl⟩
    · first|(exfalso;cases hoff;done)|exact⟨rfl,rfl⟩
    · first|(exfalso;cases hon;done)|rfl
    · first|(exfalso;dsimp only at hk0;omega)|(show(_:Int)≤900;dsimp only;omega)
    · first|(exfalso;dsimp only at hk0;omega)|(cases hp;exact⟨by dsimp only;omega,by dsimp only;omega⟩)
    · exact⟨by dsimp only;omega,fun _=>rfl⟩
theorem sm_notes (i:Nat) (n:Note) (h:smD.notes[i]?=some n):NoteOK smD i n:=by
  have hm:=List.mem_of_getElem? h
  refine⟨?_,fun m h0 hm'=>?_,?_,?_⟩
  · rcases sm_note h with⟨rfl,rfl⟩|⟨rfl,rfl⟩|⟨rfl,rfl⟩|⟨rfl,rfl⟩ <;> dsimp only <;> omega
  · rcases sm_note h with⟨rfl,rfl⟩|⟨rfl,rfl⟩|⟨rfl,rfl⟩|⟨rfl,rfl⟩
    all_goals rcases sm_note hm' with⟨e,rfl⟩|⟨e,rfl⟩|⟨e,rfl⟩|⟨e,rfl⟩ <;> dsimp only <;> omega
  · rcases sm_note h with⟨rfl,rfl⟩|⟨rfl,rfl⟩|⟨rfl,rfl⟩|⟨rfl,rfl⟩
    all_goals exact⟨by decide,_,rfl,by decide⟩
  · rcases sm_note h with⟨rfl,rfl⟩|⟨rfl,rfl⟩|⟨rfl,rfl⟩|⟨rfl,rfl⟩
    · exact⟨_,0,rfl,rfl,sm_placed _ _ 0 hm rfl rfl⟩
    · exact⟨_,1,rfl,rfl,sm_placed _ _ 1 hm rfl rfl⟩
    · exact⟨_,1,rfl,rfl,sm_placed _ _ 1 hm rfl rfl⟩
    · exact⟨_,1,rfl,rfl,sm_placed _ _ 1 hm rfl rfl⟩
theorem sm_sib (k : Nat) (t : Tier) (h : smD.tiers[k]? = some t) : TierNotes smD k t := by
  intro n hn hk
  obtain⟨i,hi⟩:=List.getElem?_of_mem hn
  rcases sm_note hi with⟨rfl,rfl⟩|⟨rfl,rfl⟩|⟨rfl,rfl⟩|⟨rfl,rfl⟩
  all_goals
    rcases sm_tier h with⟨rfl,rfl⟩|⟨rfl,rfl⟩
    all_goals first|(exfalso;dsimp only at hk;omega)|skip
  · refine⟨fun _ i k a b hlt ha hb=>?_,fun e=>by dsimp only at e;omega,fun e=>by dsimp only at e;omega⟩
    have e:sibs smD.notes ((0:Nat):Int) 0=[⟨1,0,0,0,900,0,[]⟩]:=rfl
    dsimp only at ha hb
    rw [e] at ha hb
    have:=(List.getElem?_eq_some_iff.1 ha).1
    simp at this;omega
  iterate 3
    · refine⟨fun _ i k a b hlt ha hb=>?_,fun e=>by dsimp only at e;omega,fun e=>by dsimp only at e;omega⟩
      have e:sibs smD.notes ((1:Nat):Int) 1=[⟨2,1,1,0,300,0,[109,105]⟩,⟨3,1,1,300,600,0,[98,97]⟩,⟨5,1,1,600,900,0,[109,105]⟩]:=rfl
      dsimp only at ha hb
      rw [e] at ha hb
      have h2:=(List.getElem?_eq_some_iff.1 ha).1
      simp at h2
      obtain⟨rfl,rfl⟩|⟨rfl,rfl⟩|⟨rfl,rfl⟩:(i=1∧k=0)∨(i=2∧k=0)∨(i=2∧k=1):=by omega
      all_goals
        cases ha;cases hb
        dsimp only;omega
theorem sm_light:LightD smD:=⟨by decide,by decide,by decide,sm_tiers,⟨by decide,by decide⟩,sm_notes,sm_sib⟩
def mstarT:List UInt8:=[109,42]
def thenQ:Qy:=twoQ 4 (textQ 2 baT) (textQ 2 miT)
def smX:List Ix.Post:=Ix.buildF smD.tiers smD.notes
theorem sm_linked:Linked smX smD:=build_linked sm_light
theorem sm_fits:Fits smX:=build_fits sm_light
theorem sm_then:evF matchF smD thenQ=[3]:=by kernel_rfl
theorem sm_text:textX smX 2 (matchF mstarT)=[2,5]:=by rw [sm_linked.text];kernel_rfl
theorem sm_count:(textX smX 2 fun _=>true).length=3:=by rw [sm_linked.all];kernel_rfl
theorem sm_bound:bndF smX (twoQ 1 (textQ 2 baT) (textQ 2 miT))=1:=by
  unfold twoQ textQ
  rw [bnd_1,bnd_0,bnd_0,sm_linked.text,sm_linked.text];kernel_rfl
structure Rf where
  rcd:Int
  note:Int
  deriving DecidableEq
def rfC (r:Rf):List Value:=[int r.rcd,int r.note]
instance:Rep Rf where
  sz:=2
  pos:=by decide
  at_ _ _ t cs:=cs=rfC t
  len h:=by rw [h];rfl
  one h:=by rw [h];rfl
  move h _:=h
theorem rf_elem {G:Nat→Prop} {w:World} {b off n cap:Nat} {xs:List Rf} (h:SlG G w (.slice (some ⟨b,off,none⟩) n cap) xs) {i:Nat} {t:Rf} (hx:xs[i]?=some t):At w b (off+i*2) [int t.rcd,int t.note]:=by
  obtain⟨cs,h1,h2⟩:=h.elem hx
  rw [show cs=_ from h1] at h2
  exact h2
theorem rfs_ats {G:Nat→Prop} (w:World):∀ l:List Rf,AtsG G w l (l.map rfC)
  | []=>trivial
  | _::r=>⟨rfl,rfs_ats w r⟩
instance:Rep Dc where
  sz:=7
  pos:=by decide
  at_ G w d cs:=∃ sv tv nv,cs=[int d.rid,str d.rname,int d.len,int d.day,sv,tv,nv]∧SlG G w sv d.sp∧SlG G w tv d.tiers∧SlG G w nv d.notes
  len h:=by obtain⟨sv,tv,nv,rfl,_⟩:=h;rfl
  one h:=by obtain⟨sv,tv,nv,rfl,⟨_,_,rfl,_⟩,⟨_,_,rfl,_⟩,⟨_,_,rfl,_⟩⟩:=h;rfl
  move h hm:=by obtain⟨sv,tv,nv,rfl,h1,h2,h3⟩:=h;exact⟨sv,tv,nv,rfl,h1.move hm,h2.move hm,h3.move hm⟩
theorem dc_elem {w:World} {b off n cap:Nat} {xs:List Dc} (h:Sl w (.slice (some ⟨b,off,none⟩) n cap) xs) {i:Nat} {d:Dc} (hx:xs[i]?=some d):∃ a1 c1 a2 c2 a3 c3,At w b (off+i*7) [int d.rid,str d.rname,int d.len,int d.day,.slice a1 d.sp.length c1,.slice a2 d.tiers.length c2,.slice a3 d.notes.length c3]∧DcAt w (.agg #[int d.rid,str d.rname,int d.len,int d.day,.slice a1 d.sp.length c1,.slice a2 d.tiers.length c2,.slice a3 d.notes.length c3]) d:=by
  obtain⟨cs,⟨sv,tv,nv,rfl,h1,h2,h3⟩,hat⟩:=h.elem hx
  obtain⟨a1,c1,rfl,_,_,_⟩:=h1.sl
  obtain⟨a2,c2,rfl,_,_,_⟩:=h2.sl
  obtain⟨a3,c3,rfl,_,_,_⟩:=h3.sl
  exact⟨a1,c1,a2,c2,a3,c3,hat,_,_,_,rfl,h1,h2,h3⟩
structure XsL where
  xs:List Ix.Post
instance:Rep XsL where
  sz:=1
  pos:=by decide
  at_ G w x cs:=∃ sv,cs=[sv]∧SlG G w sv x.xs
  len h:=by obtain⟨sv,rfl,_⟩:=h;rfl
  one h:=by obtain⟨sv,rfl,⟨_,_,rfl,_⟩⟩:=h;rfl
  move h hm:=by obtain⟨sv,rfl,h1⟩:=h;exact⟨sv,rfl,h1.move hm⟩
theorem xs_elem {w:World} {b off n cap:Nat} {xs:List XsL} (h:Sl w (.slice (some ⟨b,off,none⟩) n cap) xs) {i:Nat} {x:XsL} (hx:xs[i]?=some x):∃ a c,At w b (off+i*1) [.slice a x.xs.length c]∧Sl w (.slice a x.xs.length c) x.xs:=by
  obtain⟨cs,⟨sv,rfl,h1⟩,hat⟩:=h.elem hx
  obtain⟨a1,c1,rfl,_,_,_⟩:=h1.sl
  exact⟨a1,c1,hat,h1⟩
def oneF (d:Dc) (q:Qy):List Rf:=(evF matchF d q).map fun id=>⟨d.rid,id⟩
def allF (docs:List Dc) (q:Qy):List Rf:=docs.flatMap fun d=>oneF d q
theorem allF_snoc {docs:List Dc} {q:Qy} {i:Nat} {d:Dc} (h:docs[i]?=some d):allF (docs.take (i+1)) q=allF (docs.take i) q++oneF d q:=by
  obtain⟨hi,rfl⟩:=List.getElem?_eq_some_iff.1 h
  unfold allF
  rw [List.take_succ_eq_append_getElem hi,List.flatMap_append,List.flatMap_singleton]
theorem oneF_len {d:Dc} (h:LightD d) (q:Qy):(oneF d q).length≤14:=by
  unfold oneF
  rw [List.length_map];exact evF_len h matchF q
theorem allF_len {docs:List Dc} (h:∀ d∈docs,LightD d) (q:Qy):(allF docs q).length≤docs.length*14:=by
  induction docs with
  | nil=>simp [allF]
  | cons d r ih=>
    have h1:=oneF_len (h d (List.mem_cons_self ..)) q
    have h2:=ih fun e he=>h e (List.mem_cons_of_mem _ he)
    unfold allF at h2 ⊢
    rw [List.flatMap_cons,List.length_append,List.length_cons]
    omega
theorem one_snoc {d:Dc} {q:Qy} {k:Nat} {id:Int} (h:(evF matchF d q)[k]?=some id):(oneF d q).take (k+1)=(oneF d q).take k++[⟨d.rid,id⟩]:=by
  have h2:(oneF d q)[k]?=some ⟨d.rid,id⟩:=by unfold oneF;rw [List.getElem?_map,h];rfl
  obtain⟨hi,e⟩:=List.getElem?_eq_some_iff.1 h2
  rw [List.take_succ_eq_append_getElem hi,e]
end Go.Proofs.YtnifmbbpfdghmaaGreatDoor
