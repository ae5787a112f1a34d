/-
  Own text of the proof.
-/
import Derived.Test.YtjicdgejhkgpgaaGreatDoorYe
import Derived.Test.YtjicdgejhkgpgaaGreatDoorYa
import Derived.Test.YtjicdgejhkgpgaaGreatDoorYd
import Derived.Test.YtjicdgejhkgpgaaGreatDoorYb
import Derived.Laws.StructEq
set_option linter.all false
namespace Go.Proofs.YtjicdgejhkgpgaaGreatDoor
section
open Go.RowKit Go.En
def ordB (a b:Note):Bool:=decide (a.parent<b.parent)||(decide (a.parent=b.parent)&&(decide (a.frm<b.frm)||(decide (a.frm=b.frm)&&decide (a.rank<b.rank))))
def Ls (d:Dc) (id k:Int):List Note:=if 0≤k∧k<d.tiers.length then Fr ordB (sibs d.notes k id) else []
def ofN (d : Dc) : Nat → Int → List Note
  | 0,_=>[]
  | f + 1, k =>
    if 0 ≤ k ∧ k < d.tiers.length then
      (match d.tiers[k.toNat]? with
       | none=>[]
       | some t=>if t.kind=0 then Ls d 0 k else (ofN d f t.parent).flatMap fun p=>Ls d p.id k)
    else []
def ofR (d:Dc) (k:Int):List Note:=Fr (befF d (k.toNat+1)) (Dm d k)
theorem ord_bef {d:Dc} (h:LightD d) {k:Nat} {t:Tier} {x y:Note} (f:Nat) (ht:d.tiers[k]?=some t) (hx:x∈d.notes) (hy:y∈d.notes) (hxk:x.tier=(k:Int)) (hyk:y.tier=(k:Int)) (hp:x.parent=y.parent):ordB x y=befF d (f+1) x y:=by
  rw [Lz ht hxk hp]
  obtain⟨px,tk,sx⟩:=F8 h hx hxk ht
  obtain⟨py,_,_⟩:=F8 h hy hyk ht
  unfold ordB
  rw [decide_eq_false (show ¬ x.parent<y.parent by omega),decide_eq_true hp,Bool.false_or,Bool.true_and]
  cases htm:Bj t.kind with
  | true=>
    have h3:t.kind≠3:=fun e=>by rw [e] at htm;cases htm
    have rx:=px.rank.2 h3
    have ry:=py.rank.2 h3
    rw [if_pos rfl,decide_eq_false (show ¬ x.rank<y.rank by omega),Bool.and_false,Bool.or_false]
  | false=>
    have ox:=(px.off htm).1
    have oy:=(py.off htm).1
    rw [if_neg (by simp),decide_eq_false (show ¬ x.frm<y.frm by omega),decide_eq_true (show x.frm=y.frm by omega),Bool.false_or,Bool.true_and]
theorem Strict.sub {α:Type} {lt:α→α→Bool} {l m:List α} (h:Strict lt l) (hs:∀ x∈m,x∈l):Strict lt m:=
  ⟨fun x hx y hy=>h.asymm x (hs x hx) y (hs y hy),fun x hx y hy z hz=>h.trans x (hs x hx) y (hs y hy) z (hs z hz),fun x hx y hy=>h.total x (hs x hx) y (hs y hy)⟩
theorem sibs_of {d:Dc} {k p:Int} {x:Note} (hx:x∈sibs d.notes k p):x∈Dm d k:=Bq.2 ⟨(G8.1 hx).1,(G8.1 hx).2.1⟩
theorem Ni {d:Dc} {k:Nat} {t:Tier} (ht:d.tiers[k]?=some t):k<d.tiers.length:=(List.getElem?_eq_some_iff.1 ht).1
theorem kids_eq {d:Dc} (h:LightD d) {k:Nat} {t:Tier} (ht:d.tiers[k]?=some t) (p:Int):Ls d p (k:Int)=Fr (befF d (k+1)) (sibs d.notes (k:Int) p):=by
  unfold Ls
  rw [if_pos ⟨by omega,by have:=Ni ht;omega⟩]
  refine insSort_congr _ fun x hx y hy=>?_
  obtain⟨hx1,hx2,hx3⟩:=G8.1 hx
  obtain⟨hy1,hy2,hy3⟩:=G8.1 hy
  exact ord_bef h k ht hx1 hy1 hx2 hy2 (by omega)
theorem sibs_nodup {d:Dc} (h:LightD d) (k p:Int):(sibs d.notes k p).Nodup:=(Iz h).filter _
theorem kids_sorted {d:Dc} (h:LightD d) {k:Nat} {t:Tier} (ht:d.tiers[k]?=some t) (p:Int):(Ls d p (k:Int)).Pairwise fun a b=>befF d (k+1) a b=true:=by
  rw [kids_eq h ht]
  exact Gg (sibs_nodup h _ _) ((Kt h k).sub fun x hx=>sibs_of hx)
theorem Lq {d:Dc} (h:LightD d) {k:Nat} {t:Tier} (ht:d.tiers[k]?=some t) {p:Int} {x:Note}:x∈Ls d p (k:Int)↔x∈d.notes∧x.tier=(k:Int)∧x.parent=p:=by
  rw [kids_eq h ht,(Dp _).mem_iff,G8]
theorem P3 {α:Type} {lt:α→α→Bool} {l L:List α} (hS:Strict lt L) (hl:∀ x∈l,x∈L) (h:l.Pairwise fun a b=>lt a b=true):l.Nodup:=by
  refine List.Pairwise.imp_of_mem (fun {a b} ha hb hab e=>?_) h
  subst e
  have:=hS.asymm a (hl a ha) a (hl a ha) hab
  rw [this] at hab;cases hab
theorem perm_of {α:Type} {l m:List α} (hl:l.Nodup) (hm:m.Nodup) (h:∀ x,x∈l↔x∈m):l.Perm m:=(List.perm_ext_iff_of_nodup hl hm).2 h
theorem ofN_eq {d : Dc} (h : LightD d) : ∀ (k f : Nat) (t : Tier), d.tiers[k]? = some t → k < f → ofN d f (k : Int) = ofR d (k : Int) := by
  intro k
  induction k using Nat.strongRecOn with
  | _ k ih =>
    intro f t ht hf
    obtain⟨f,rfl⟩:∃ f',f=f'+1:=⟨f-1,by omega⟩
    have hkl:=Ni ht
    have tk:=h.tiers k t ht
    have hS:=Kt h k
    have hnd:(Dm d (k:Int)).Nodup:=(Iz h).filter _
    simp only [ofN,Int.toNat_natCast]
    rw [if_pos ⟨by omega,by omega⟩,ht]
    dsimp only
    unfold ofR
    rw [Int.toNat_natCast]
    by_cases h0:t.kind=0
    · rw [if_pos h0,kids_eq h ht]
      congr 1
      unfold sibs Dm
      refine List.filter_congr fun n hn=>?_
      by_cases hk:n.tier=(k:Int)
      · simp [hk,(F8 h hn hk ht).1.root h0]
      · simp [hk]
    · rw [if_neg h0]
      have hr:=tk.par h0
      obtain⟨j,hj⟩:∃ j:Nat,t.parent=(j:Int):=⟨t.parent.toNat,by omega⟩
      have hjk:j<k:=by omega
      obtain⟨u,hu⟩:∃ u,d.tiers[j]?=some u:=⟨_,List.getElem?_eq_getElem (by omega)⟩
      rw [hj,ih j hjk f u hu (by omega)]
      have hSj:=Kt h j
      have hndj:(Dm d (j:Int)).Nodup:=(Iz h).filter _
      have hso:(ofR d (j:Int)).Pairwise fun a b=>befF d (j+1) a b=true:=by
        unfold ofR;rw [Int.toNat_natCast];exact Gg hndj hSj
      have hmo:∀ p,p∈ofR d (j:Int)↔p∈Dm d (j:Int):=fun p=>by unfold ofR;exact(Dp _).mem_iff
      have hmem:∀ x,x∈(ofR d (j:Int)).flatMap (fun p=>Ls d p.id (k:Int))↔x∈Dm d (k:Int):=by
        intro x
        rw [List.mem_flatMap]
        constructor
        · rintro⟨p,_,hx⟩
          obtain⟨h1,h2,_⟩:=(Lq h ht).1 hx
          exact Bq.2 ⟨h1,h2⟩
        · intro hx
          obtain⟨h1,h2⟩:=Bq.1 hx
          obtain⟨j',u',p,e1,_,_,_,mp,ip,tp⟩:=G2 h ht h1 h2 h0
          have hjj:j'=j:=by omega
          subst hjj
          exact⟨p,(hmo p).2 (Bq.2 ⟨mp,tp⟩),(Lq h ht).2 ⟨h1,h2,ip.symm⟩⟩
      have hsort:((ofR d (j:Int)).flatMap fun p=>Ls d p.id (k:Int)).Pairwise fun a b=>befF d (k+1) a b=true:=by
        rw [List.pairwise_flatMap]
        refine⟨fun p _=>kids_sorted h ht p.id,?_⟩
        refine List.Pairwise.imp_of_mem (fun {p q} hp hq hpq=>?_) hso
        intro x hx y hy
        obtain⟨hp1,hp2⟩:=Bq.1 ((hmo p).1 hp)
        obtain⟨hq1,hq2⟩:=Bq.1 ((hmo q).1 hq)
        obtain⟨x1,x2,x3⟩:=(Lq h ht).1 hx
        obtain⟨y1,y2,y3⟩:=(Lq h ht).1 hy
        have hne:p.id≠q.id:=fun e=>by
          have:=ids_inj (Ho h) hp1 hq1 e
          subst this
          have:=hSj.asymm p ((hmo p).1 hp) p ((hmo p).1 hp) hpq
          rw [this] at hpq;cases hpq
        have gp:getF d.notes x.parent=some p:=by rw [x3];exact Nu (Ho h) hp1
        have gq:getF d.notes y.parent=some q:=by rw [y3];exact Nu (Ho h) hq1
        rw [Jd gp gq (by rw [x3,y3];exact hne),Q5 h j k (j+1) hjk (by omega) p hp1 q hq1 hp2 hq2]
        exact hpq
      exact(insSort_eq hnd hS (perm_of (P3 hS (fun x hx=>(hmem x).1 hx) hsort) hnd hmem) hsort).symm
end
section
open Go.RowKit Go.En
def D8 (ns : List Note) : Nat → Int → List Note
  | 0,_=>[]
  | f+1,id=>match getF ns id with
    | none=>[]
    | some n=>n::D8 ns f n.parent
theorem step_up {d:Dc} (h:LightD d) {n:Note} {k:Nat} (hn:n∈d.notes) (hk:n.tier=(k:Int)):getF d.notes n.parent=none∨∃ p j,getF d.notes n.parent=some p∧p∈d.notes∧p.id=n.parent∧p.tier=((j:Nat):Int)∧j<k:=by
  obtain⟨k',t,h1,ht,px,tk,_⟩:=F4 h hn
  have hkk:k'=k:=by omega
  subst hkk
  by_cases h0:t.kind=0
  · refine .inl ?_
    have hp:=px.root h0
    cases hg:getF d.notes n.parent with
    | none=>rfl
    | some p=>
      obtain⟨m1,m2⟩:=Fh hg
      obtain⟨i,hi⟩:=List.getElem?_of_mem m1
      have:=(h.notes i p hi).id
      omega
  · obtain⟨j,u,p,_,hj,_,gp,mp,ip,tp⟩:=G2 h ht hn h1 h0
    exact .inr ⟨p,j,gp,mp,ip,tp,hj⟩
theorem chain_fuel {d:Dc} (h:LightD d):∀(k f g:Nat) (n:Note),n∈d.notes→n.tier=(k:Int)→k<f→k<g→D8 d.notes f n.id=D8 d.notes g n.id:=by
  intro k
  induction k using Nat.strongRecOn with
  | _ k ih =>
    intro f g n hn hk hf hg
    obtain⟨f,rfl⟩:∃ f',f=f'+1:=⟨f-1,by omega⟩
    obtain⟨g,rfl⟩:∃ g',g=g'+1:=⟨g-1,by omega⟩
    simp only [D8,Nu (Ho h) hn]
    congr 1
    rcases step_up h hn hk with h0|⟨p,j,gp,mp,ip,tp,hj⟩
    · cases f <;> cases g <;> simp [D8,h0]
    · rw [← ip]
      exact ih j hj f g p mp tp (by omega) (by omega)
theorem note_lt {d:Dc} (h:LightD d) {n:Note} (hn:n∈d.notes):∃ k:Nat,n.tier=(k:Int)∧k<d.tiers.length:=by
  obtain⟨k,t,h1,ht,_⟩:=F4 h hn
  exact⟨k,h1,Ni ht⟩
theorem chain_all {d:Dc} (h:LightD d) (id:Int) (f g:Nat) (hf:d.tiers.length≤f) (hg:d.tiers.length≤g):D8 d.notes f id=D8 d.notes g id:=by
  cases hgt:getF d.notes id with
  | none=>cases f <;> cases g <;> simp [D8,hgt]
  | some n=>
    obtain⟨hn,hid⟩:=Fh hgt
    obtain⟨k,hk,hlt⟩:=note_lt h hn
    rw [← hid]
    exact chain_fuel h k f g n hn hk (by omega) (by omega)
def J9 (d:Dc) (id:Int):List Note:=D8 d.notes (d.tiers.length+1) id
theorem Q1 {d:Dc} {id:Int} (hg:getF d.notes id=none):J9 d id=[]:=by simp [J9,D8,hg]
theorem D7 {d:Dc} (h:LightD d) {n:Note} (hn:n∈d.notes):J9 d n.id=n::J9 d n.parent:=by
  show D8 d.notes (d.tiers.length+1) n.id=_
  simp only [D8,Nu (Ho h) hn]
  congr 1
  exact chain_all h _ _ _ (Nat.le_refl _) (by omega)
theorem chain_id {d:Dc} {id:Int}:∀(f:Nat) (m:Note),m∈D8 d.notes f id→m∈d.notes
  | 0,_,h=>by simp [D8] at h
  | f + 1, m, h => by
    simp only [D8] at h
    cases hg:getF d.notes id with
    | none=>rw [hg] at h;simp at h
    | some n=>
      rw [hg] at h
      rcases List.mem_cons.1 h with rfl|h
      · exact(Fh hg).1
      · exact chain_id f m h
def Br (d:Dc) (k:Int):Bool:=match d.tiers[k.toNat]? with
  | some t=>decide (0≤k)&&Bj t.kind
  | none=>false
def D4 (d:Dc) (id:Int):Option Note:=(J9 d id).find? fun n=>Br d n.tier
end
section
open Go.RowKit Go.En
theorem Ic {d:Dc} {k:Nat} {t:Tier} (ht:d.tiers[k]?=some t):Br d (k:Int)=Bj t.kind:=by
  unfold Br
  rw [Int.toNat_natCast,ht]
  simp
theorem aligned_up {d : Dc} (h : LightD d) : ∀ (k : Nat) (n : Note), n ∈ d.notes → n.tier = (k : Int) → Br d n.tier = true →
    (0≤n.frm∧n.frm<n.til∧n.til≤d.len)∧∀ m∈J9 d n.id,Br d m.tier=true∧m.frm≤n.frm∧n.til≤m.til:=by
  intro k
  induction k using Nat.strongRecOn with
  | _ k ih =>
    intro n hn hk ha
    obtain⟨k',t,h1,ht,px,tk,_⟩:=F4 h hn
    have hkk:k'=k:=by omega
    subst hkk
    have htm:Bj t.kind=true:=by rw [hk,Ic ht] at ha;exact ha
    have hr:=px.on htm
    unfold M9 at hr
    simp only [Bool.and_eq_true,decide_eq_true_eq] at hr
    by_cases h0:t.kind=0
    · have hlen:=px.len h0
      refine⟨by omega,fun m hm=>?_⟩
      rw [D7 h hn] at hm
      rcases List.mem_cons.1 hm with rfl|hm
      · exact⟨ha,Int.le_refl _,Int.le_refl _⟩
      · rcases step_up h hn hk with hg|⟨p,j,gp,mp,ip,tp,hj⟩
        · rw [Q1 hg] at hm;simp at hm
        · exfalso
          have hp0:=px.root h0
          obtain⟨i,hi⟩:=List.getElem?_of_mem mp
          have:=(h.notes i p hi).id
          omega
    · have hk12:t.kind=1∨t.kind=2:=by
        have:=Jk.1 htm;omega
      obtain⟨u,hu,hut⟩:=tk.tim hk12
      obtain⟨p,gp,tp⟩:=px.par h0
      obtain⟨mp,ip⟩:=Fh gp
      have hpar:=tk.par h0
      have hin:=px.inn hk12 p gp
      have tp2:p.tier=((t.parent.toNat:Nat):Int):=by omega
      have hpa:Br d p.tier=true:=by rw [tp2,Ic hu];exact hut
      obtain⟨e1,e2⟩:=ih t.parent.toNat (by omega) p mp tp2 hpa
      refine⟨by omega,fun m hm=>?_⟩
      rw [D7 h hn,← ip] at hm
      rcases List.mem_cons.1 hm with rfl|hm
      · exact⟨ha,Int.le_refl _,Int.le_refl _⟩
      · obtain⟨f1,f2,f3⟩:=e2 m hm
        exact⟨f1,by omega,by omega⟩
theorem where_pos {d:Dc} (h:LightD d) {n:Note} (hn:n∈d.notes) (ha:Br d n.tier=true):D4 d n.id=some n:=by
  unfold D4
  rw [D7 h hn]
  exact List.find?_cons_of_pos (p:=fun n:Note=>Br d n.tier) ha
theorem where_neg {d:Dc} (h:LightD d) {n:Note} (hn:n∈d.notes) (ha:Br d n.tier=false):D4 d n.id=D4 d n.parent:=by
  unfold D4
  rw [D7 h hn]
  exact List.find?_cons_of_neg (p:=fun n:Note=>Br d n.tier) (by simp [ha])
theorem O3 {d : Dc} (h : LightD d) : ∀ (k : Nat) (n : Note), n ∈ d.notes → n.tier = (k : Int) → ∃ m, D4 d n.id = some m ∧ m ∈ J9 d n.id ∧ Br d m.tier = true := by
  intro k
  induction k using Nat.strongRecOn with
  | _ k ih =>
    intro n hn hk
    obtain⟨k',t,h1,ht,px,tk,_⟩:=F4 h hn
    have hkk:k'=k:=by omega
    subst hkk
    cases ha:Br d n.tier with
    | true=>exact⟨n,where_pos h hn ha,by rw [D7 h hn];exact List.mem_cons_self ..,ha⟩
    | false=>
      have h0:t.kind≠0:=fun h0=>by
        rw [hk,Ic ht,h0] at ha;cases ha
      obtain⟨p,gp,tp⟩:=px.par h0
      obtain⟨mp,ip⟩:=Fh gp
      have hpar:=tk.par h0
      obtain⟨m,e1,e2,e3⟩:=ih t.parent.toNat (by omega) p mp (by omega)
      exact⟨m,by rw [where_neg h hn ha,← ip];exact e1,by rw [D7 h hn,← ip];exact List.mem_cons_of_mem _ e2,e3⟩
theorem O4 {d:Dc} {id:Int} (hg:getF d.notes id=none):D4 d id=none:=by unfold D4;rw [Q1 hg];rfl
def behind (l:List Note) (id:Int):Option Note:=match l with
  | a::b::r=>if a.id=id then some b else behind (b::r) id
  | _=>none
end
section
open Go.RowKit Go.En
end
section
open Go.RowKit Go.En
def G7 (d:Dc) (id:Int):Int × Int:=match D4 d id with|some n=>(n.frm,n.til)|none=>(0,0)
def hitB (d:Dc) (ms:Int) (n:Note):Bool:=decide ((G7 d n.id).1≤ms)&&decide (ms<(G7 d n.id).2)
theorem span_right {d:Dc} (h:LightD d) {n:Note} (hn:n∈d.notes):0≤(G7 d n.id).1∧(G7 d n.id).1<(G7 d n.id).2∧(G7 d n.id).2≤d.len:=by
  obtain⟨k,hk,_⟩:=note_lt h hn
  obtain⟨m,hm,hmc,hma⟩:=O3 h k n hn hk
  have hmn:=chain_id _ m hmc
  obtain⟨j,hj,_⟩:=note_lt h hmn
  have:=(aligned_up h j m hmn hj hma).1
  unfold G7;rw [hm]
  exact this
end
section
open Go.RowKit Go.En Go.Pv
structure LangOK (g:Lg):Prop where
  nsegs:g.segs.length≤8
  nunits:g.units.length≤10
  units:∀ u∈g.units,1≤u.graph.length∧u.graph.length≤32∧u.segs.length≤3
  nrules:g.rules.length≤2
  rules:∀ r∈g.rules,r.to.length=r.frm.length∧r.frm.length≤8∧r.frm.Nodup∧r.left.length≤2∧r.right.length≤2
  net:NetOK g.net
  states:g.net.states≤3
  nsteps:g.net.steps.length≤6
  nfinal:g.net.final.length≤3
  nlex:g.lex.length≤5
  ids:(g.lex.map (·.id)).Nodup
  lex:∀ e∈g.lex,1≤e.id∧1≤e.cls∧e.cls≤20∧e.form.length≤3∧e.alts.length≤1∧(∀ f∈Ai e,f.length≤3∧∀ x∈f,1≤x∧x≤8)∧e.refs.length≤12∧e.senses.length≤5∧e.links.length≤12
def shrB (rules:List Rul):Bool:=rules.any fun r=>r.to.contains 0
def lxOf (g:Lg) (w:List Int):Lx:=⟨g.net,g.lex,C9 As g.segs g.rules,if shrB g.rules then 24 else w.length⟩
theorem lx_ok {g:Lg} (h:LangOK g) {w:List Int} (hw:w.length≤24):LxOK (lxOf g w) where
  net:=h.net
  ids:=h.ids
  cls e he:=⟨(h.lex e he).2.1,(h.lex e he).2.2.1⟩
  most:=by unfold lxOf;dsimp only;split <;> omega
def Dw (g:Lg) (w:List Int) (id:Int):Bool:=(decide (w.length≠0)&&decide (w.length≤24))&&belB (lxOf g w) w id 4 [] (fun q=>q==0) []
def docF (docs:List Dc) (rec:Int):Option Dc:=docs.find? fun d=>decide (d.rid=rec)
structure LightDs (docs:List Dc):Prop where
  few:docs.length≤3
  each:∀ d∈docs,LightD d
  up:∀(i:Nat) (a b:Dc),docs[i]?=some a→docs[i+1]?=some b→a.rid<b.rid
def Mo (d:Dc) (n:Note):Bool:=match d.tiers[n.tier.toNat]? with|some t=>decide (t.role=2)|none=>false
def witB (g:Lg) (id:Int) (d:Dc) (n:Note):Bool:=Mo d n&&(decide ((Bm g.units n.text).2=0)&&Dw g (Bm g.units n.text).1 id)
def attF (docs:List Dc) (g:Lg) (id:Int) (r:Rf):Bool:=(getE g.lex id).isSome&&(match docF docs r.rcd with|none=>false|some d=>match getF d.notes r.note with|none=>false|some n=>witB g id d n)
def Cu (docs:List Dc) (g:Lg) (id:Int):List Rf:=match getE g.lex id with|none=>[]|some e=>e.refs.filter (attF docs g id)
def P9 (docs:List Dc) (g:Lg):List Int:=(g.lex.filter fun e=>(Cu docs g e.id).isEmpty).map (·.id)
def Cc (docs:List Dc) (r:Rf):Int × Int:=match docF docs r.rcd with|none=>(0,0)|some d=>G7 d r.note
def Bf (docs:List Dc) (r:Rf):Bool:=match docF docs r.rcd with|none=>false|some d=>(D4 d r.note).isSome
end
end Go.Proofs.YtjicdgejhkgpgaaGreatDoor
namespace Go.En
open Go.RowKit
section
variable {P : Program} {L : List (Nat × Value)} {w : World} {o : Oper}
theorem val_max {t u:TypeId} {x y:Operand} {a b:Int} (ho:o.op=.call { callee:=.builtin .max,args:=#[x,y],argTypes:=#[t,u] }) (hx:ev L x=some (int a)) (hy:ev L y=some (int b)):Val P L w o (int (if b>a then b else a)):=fun ρ ha=>by
  have h1:=ha.ev (by rw [ho];simp [Op.operands,Call.operands]) hx
  have h2:=ha.ev (by rw [ho];simp [Op.operands,Call.operands]) hy
  simp [execOp,ho,resolve,invoke,builtin,Builtin.max_,Builtin.max2,h1,h2,go_sem]
theorem val_min {t u:TypeId} {x y:Operand} {a b:Int} (ho:o.op=.call { callee:=.builtin .min,args:=#[x,y],argTypes:=#[t,u] }) (hx:ev L x=some (int a)) (hy:ev L y=some (int b)):Val P L w o (int (if b<a then b else a)):=fun ρ ha=>by
  have h1:=ha.ev (by rw [ho];simp [Op.operands,Call.operands]) hx
  have h2:=ha.ev (by rw [ho];simp [Op.operands,Call.operands]) hy
  simp [execOp,ho,resolve,invoke,builtin,Builtin.min_,Builtin.min2,h1,h2,go_sem]
structure TwoInts (P:Program) (t e:TypeId):Prop where
  st:P.underlying t=some (.struct (P.fieldsOf t))
  hp:P.stoodInHeld t=false
  hg:P.eqGuardType P.depth t=false
  hf:((P.fieldsOf t).toList.map fun f=>(f.name== "_",f.type,f.offset))=[(false,e,0),(false,e,1)]
  he:P.underlying e=some (.int .i64)
theorem Dj {e:TypeId} {xs:Array Value} {off:Nat} {v:Value} (he:P.underlying e=some (.int .i64)) (hx:xs[off]?=some v):(part e xs off).run P w=.ok v w:=by
  have h3:(isAgg e).run P w=.ok false w:=by simp [isAgg,run_underlying he]
  simp [part,h3,hx]
theorem Oo {t e : TypeId} (h : TwoInts P t e) (a b c d : Int) : (Op.equalIn 10000 t (.agg #[int a, int b]) (.agg #[int c, int d])).run P w = .ok (decide (a = c) && decide (b = d)) w := by
  rw [run_equalIn_struct w 9999 t _ _ h.st h.hp]
  have hf:=h.hf
  obtain⟨f,g,hl⟩:∃ f g,(P.fieldsOf t).toList=[f,g]:=by
    have:=congrArg List.length hf
    rw [List.length_map] at this
    generalize (P.fieldsOf t).toList=l at this ⊢
    cases l with
    | nil=>simp at this
    | cons f l=>cases l with
      | nil=>simp at this
      | cons g l=>cases l with
        | nil=>exact⟨f,g,rfl⟩
        | cons=>simp at this
  rw [hl] at hf ⊢
  ·
    simp only [List.map_cons,List.map_nil,List.cons.injEq,Prod.mk.injEq,and_true] at hf
    obtain⟨⟨n1,t1,o1⟩,n2,t2,o2⟩:=hf
    have m1:f.name≠ "_" := by simpa using n1
    have m2:g.name≠ "_" := by simpa using n2
    have p1:=fun(xs:Array Value) v (hx:xs[0]?=some v)=>Dj (P:=P) (w:=w) h.he hx
    have p2:=fun(xs:Array Value) v (hx:xs[1]?=some v)=>Dj (P:=P) (w:=w) h.he hx
    have q:=fun x y=>run_equalIn_int (P:=P) w 9998 e .i64 .i64 x y h.he
    simp only [Op.eqFields,t1,o1,t2,o2,m1,m2,ne_eq,not_false_eq_true,if_true,Sem.run_bind]
    rw [p1 _ (int a) rfl]
    simp only [Result.andThen_ok]
    rw [p1 _ (int c) rfl]
    simp only [Result.andThen_ok]
    rw [q]
    simp only [Result.andThen_ok]
    by_cases hac:a=c
    · subst hac
      simp only [beq_self_eq_true,Bool.not_true,Bool.false_eq_true,if_false,Sem.run_bind]
      rw [p2 _ (int b) rfl]
      simp only [Result.andThen_ok]
      rw [p2 _ (int d) rfl]
      simp only [Result.andThen_ok]
      rw [q]
      simp only [Result.andThen_ok]
      by_cases hbd:b=d
      · subst hbd;simp
      · simp [hbd]
    · simp [hac]
theorem val_ne_two {t e u:TypeId} {x y:Operand} {a b c d:Int} (h:TwoInts P t e) (ho:o.op=.binOp .neq t x y u) (hx:ev L x=some (.agg #[int a,int b])) (hy:ev L y=some (.agg #[int c,int d])):Val P L w o (.bool (!(decide (a=c)&&decide (b=d)))):=fun ρ ha=>by
  have h1:=ha.ev (by rw [ho];simp [Op.operands]) hx
  have h2:=ha.ev (by rw [ho];simp [Op.operands]) hy
  have h3:=run_eqGuard_agg (P:=P) w .neq t x y #[int a,int b] #[int c,int d] h.hg
  have h4:=run_neq_struct (P:=P) w t #[int a,int b] #[int c,int d]
  have h5:=Oo (w:=w) h a b c d
  simp [execOp,ho,h1,h2,h3,h4,h5,go_sem]
theorem Hs {t e u:TypeId} {x y:Operand} {a b c d:Int} {r:Bool} (h:TwoInts P t e) (ho:o.op=.binOp .neq t x y u) (hx:ev L x=some (.agg #[int a,int b])) (hy:ev L y=some (.agg #[int c,int d])) (hr:r=!(decide (a=c)&&decide (b=d))):Val P L w o (.bool r):=hr▸val_ne_two h ho hx hy
theorem val_eq_two {t e u:TypeId} {x y:Operand} {a b c d:Int} (h:TwoInts P t e) (ho:o.op=.binOp .eql t x y u) (hx:ev L x=some (.agg #[int a,int b])) (hy:ev L y=some (.agg #[int c,int d])):Val P L w o (.bool (decide (a=c)&&decide (b=d))):=fun ρ ha=>by
  have h1:=ha.ev (by rw [ho];simp [Op.operands]) hx
  have h2:=ha.ev (by rw [ho];simp [Op.operands]) hy
  have h3:=run_eqGuard_agg (P:=P) w .eql t x y #[int a,int b] #[int c,int d] h.hg
  have h4:=run_eql_struct (P:=P) w t #[int a,int b] #[int c,int d]
  have h5:=Oo (w:=w) h a b c d
  simp [execOp,ho,h1,h2,h3,h4,h5,go_sem]
end
theorem Co {P:Program} {n:Nat} {L:List (Nat × Value)} {w:World} {fn:Func} {S:Value→World→Prop} {s u:Tmp} {x:Value} {ty:TypeId} {d:TypeDesc} {b off:Nat} {cs:List Value} {z:Value} {size bytes:Nat} [UT P ty d] [TI P ty z size bytes] (hr:fn.results=#[.cell s ty,.tmp u])
    (hd:J4 d=true) (hv:lk L s=some (.pointer (some ⟨b,off,none⟩))) (hc:At w b off cs) (hl:Nat.beq cs.length size=true) (hx:lk L u=some x) (hs:S (.tuple #[.agg cs.toArray,x]) w):K n (bodyPost P fn (Rt S)) .ret L w:=fun a ha=>by
  refine⟨ha.nod,.tuple #[.agg cs.toArray,x],?_,_,rfl,hs⟩
  have h1:=ha.get s _ hv
  have h2:=ha.get u _ hx
  have h3:=Fy (P:=P) (t:=ty) w
  rw [hd] at h3
  obtain⟨i0,hi0,_,hsz,_⟩:=G9 (P:=P) (t:=ty) w
  have h4:=run_loadCells_list (P:=P) w ⟨b,off,none⟩ cs (fun j v hv=>by rw [B7];exact hc j v hv)
  rw [Nat.eq_of_beq_eq_true hl] at h4
  unfold loadCells at h4
  simp [results,hr,Array.getD_eq_getD_getElem?,h1,h2,Instr.loadAt,Instr.sureAddr,loadVar,go_sem,h3,sizeOf,hi0,hsz,h4]
end Go.En
namespace Go.En
theorem kmin (k:IntKind):k.min=(match k with | .i8 => -128 | .i16 => -32768 | .i32 => -2147483648 | .i64 => -9223372036854775808 | .u8=>0 | .u16=>0 | .u32=>0 | .u64=>0:Int):=by cases k <;> rfl
theorem kmax (k:IntKind):k.max=(match k with | .i8=>127 | .i16=>32767 | .i32=>2147483647 | .i64=>9223372036854775807 | .u8=>255 | .u16=>65535 | .u32=>4294967295 | .u64=>18446744073709551615:Int):=by cases k <;> rfl
end Go.En
