/-
  Documents, plainly: the program's Of and Kids are the reference's order. Documents, plainly: chains, what lies under a note, where a note is. Documents, plainly: where a note is, the next note, the order of all. Documents, plainly: Next, Order. Documents, plainly: what lies at a time, what is within. Provenance, plainly: languages that are right and small; what attests an entry. The smaller and the greater of two numbers; two spans compared. The bounds of the integers' kinds.
-/
import Derived.Test.YtjicdgejhkgpgaaGreatDoorYd
import Derived.Test.YtjicdgejhkgpgaaGreatDoorYa
import Derived.Test.YtjicdgejhkgpgaaGreatDoorYb
import Derived.Test.YtjicdgejhkgpgaaGreatDoorYc
import Derived.Laws.StructEq
set_option linter.all false
namespace Go.Proofs.YtjicdgejhkgpgaaGreatDoor
open Go.RowKit Go.En
def ordB (a b:Note):Bool:=decide (a.parent<b.parent)||(decide (a.parent=b.parent)&&(decide (a.frm<b.frm)||(decide (a.frm=b.frm)&&decide (a.rank<b.rank))))
def kidsN (d:Dc) (id k:Int):List Note:=if 0≤k∧k<d.tiers.length then insSort ordB (sibs d.notes k id) else []
def ofN (d : Dc) : Nat → Int → List Note
  | 0,_=>[]
  | f + 1, k =>
    if 0 ≤ k ∧ k < d.tiers.length then
      (match d.tiers[k.toNat]? with
       | none=>[]
       | some t=>if t.kind=0 then kidsN d 0 k else (ofN d f t.parent).flatMap fun p=>kidsN d p.id k)
    else []
def ofR (d:Dc) (k:Int):List Note:=insSort (befF d (k.toNat+1)) (ofTier d k)
theorem ord_bef {d:Dc} (h:LightD d) {k:Nat} {t:Tier} {x y:Note} (f:Nat) (ht:d.tiers[k]?=some t) (hx:x∈d.notes) (hy:y∈d.notes) (hxk:x.tier=(k:Int)) (hyk:y.tier=(k:Int)) (hp:x.parent=y.parent):ordB x y=befF d (f+1) x y:=by
  rw [bef_same ht hxk hp]
  obtain⟨px,tk,sx⟩:=note_at h hx hxk ht
  obtain⟨py,_,_⟩:=note_at h hy hyk ht
  unfold ordB
  rw [decide_eq_false (show ¬ x.parent<y.parent by omega),decide_eq_true hp,Bool.false_or,Bool.true_and]
  cases htm:timedB t.kind with
  | true=>
    have h3:t.kind≠3:=fun e=>by rw [e] at htm;cases htm
    have rx:=px.rank.2 h3
    have ry:=py.rank.2 h3
    rw [if_pos rfl,decide_eq_false (show ¬ x.rank<y.rank by omega),Bool.and_false,Bool.or_false]
  | false=>
    have ox:=(px.off htm).1
    have oy:=(py.off htm).1
    rw [if_neg (by simp),decide_eq_false (show ¬ x.frm<y.frm by omega),decide_eq_true (show x.frm=y.frm by omega),Bool.false_or,Bool.true_and]
theorem Strict.sub {α:Type} {lt:α→α→Bool} {l m:List α} (h:Strict lt l) (hs:∀ x∈m,x∈l):Strict lt m:=
  ⟨fun x hx y hy=>h.asymm x (hs x hx) y (hs y hy),fun x hx y hy z hz=>h.trans x (hs x hx) y (hs y hy) z (hs z hz),fun x hx y hy=>h.total x (hs x hx) y (hs y hy)⟩
theorem sibs_of {d:Dc} {k p:Int} {x:Note} (hx:x∈sibs d.notes k p):x∈ofTier d k:=of_mem.2 ⟨(sibs_mem.1 hx).1,(sibs_mem.1 hx).2.1⟩
theorem tier_lt {d:Dc} {k:Nat} {t:Tier} (ht:d.tiers[k]?=some t):k<d.tiers.length:=(List.getElem?_eq_some_iff.1 ht).1
theorem kids_eq {d:Dc} (h:LightD d) {k:Nat} {t:Tier} (ht:d.tiers[k]?=some t) (p:Int):kidsN d p (k:Int)=insSort (befF d (k+1)) (sibs d.notes (k:Int) p):=by
  unfold kidsN
  rw [if_pos ⟨by omega,by have:=tier_lt ht;omega⟩]
  refine insSort_congr _ fun x hx y hy=>?_
  obtain⟨hx1,hx2,hx3⟩:=sibs_mem.1 hx
  obtain⟨hy1,hy2,hy3⟩:=sibs_mem.1 hy
  exact ord_bef h k ht hx1 hy1 hx2 hy2 (by omega)
theorem sibs_nodup {d:Dc} (h:LightD d) (k p:Int):(sibs d.notes k p).Nodup:=(notes_nodup h).filter _
theorem kids_sorted {d:Dc} (h:LightD d) {k:Nat} {t:Tier} (ht:d.tiers[k]?=some t) (p:Int):(kidsN d p (k:Int)).Pairwise fun a b=>befF d (k+1) a b=true:=by
  rw [kids_eq h ht]
  exact insSort_sorted (sibs_nodup h _ _) ((bef_strict h k).sub fun x hx=>sibs_of hx)
theorem kids_mem {d:Dc} (h:LightD d) {k:Nat} {t:Tier} (ht:d.tiers[k]?=some t) {p:Int} {x:Note}:x∈kidsN d p (k:Int)↔x∈d.notes∧x.tier=(k:Int)∧x.parent=p:=by
  rw [kids_eq h ht,(insSort_perm _).mem_iff,sibs_mem]
theorem pairwise_nodup {α:Type} {lt:α→α→Bool} {l L:List α} (hS:Strict lt L) (hl:∀ x∈l,x∈L) (h:l.Pairwise fun a b=>lt a b=true):l.Nodup:=by
  refine List.Pairwise.imp_of_mem (fun {a b} ha hb hab e=>?_) h
  subst e
  have:=hS.asymm a (hl a ha) a (hl a ha) hab
  rw [this] at hab;cases hab
theorem perm_of {α:Type} {l m:List α} (hl:l.Nodup) (hm:m.Nodup) (h:∀ x,x∈l↔x∈m):l.Perm m:=(List.perm_ext_iff_of_nodup hl hm).2 h
theorem ofN_eq {d : Dc} (h : LightD d) : ∀ (k f : Nat) (t : Tier), d.tiers[k]? = some t → k < f → ofN d f (k : Int) = ofR d (k : Int) := by
  intro k
  induction k using Nat.strongRecOn with
  | _ k ih =>
    intro f t ht hf
    obtain⟨f,rfl⟩:∃ f',f=f'+1:=⟨f-1,by omega⟩
    have hkl:=tier_lt ht
    have tk:=h.tiers k t ht
    have hS:=bef_strict h k
    have hnd:(ofTier d (k:Int)).Nodup:=(notes_nodup h).filter _
    simp only [ofN,Int.toNat_natCast]
    rw [if_pos ⟨by omega,by omega⟩,ht]
    dsimp only
    unfold ofR
    rw [Int.toNat_natCast]
    by_cases h0:t.kind=0
    · rw [if_pos h0,kids_eq h ht]
      congr 1
      unfold sibs ofTier
      refine List.filter_congr fun n hn=>?_
      by_cases hk:n.tier=(k:Int)
      · simp [hk,(note_at h hn hk ht).1.root h0]
      · simp [hk]
    · rw [if_neg h0]
      have hr:=tk.par h0
      obtain⟨j,hj⟩:∃ j:Nat,t.parent=(j:Int):=⟨t.parent.toNat,by omega⟩
      have hjk:j<k:=by omega
      obtain⟨u,hu⟩:∃ u,d.tiers[j]?=some u:=⟨_,List.getElem?_eq_getElem (by omega)⟩
      rw [hj,ih j hjk f u hu (by omega)]
      have hSj:=bef_strict h j
      have hndj:(ofTier d (j:Int)).Nodup:=(notes_nodup h).filter _
      have hso:(ofR d (j:Int)).Pairwise fun a b=>befF d (j+1) a b=true:=by
        unfold ofR;rw [Int.toNat_natCast];exact insSort_sorted hndj hSj
      have hmo:∀ p,p∈ofR d (j:Int)↔p∈ofTier d (j:Int):=fun p=>by unfold ofR;exact(insSort_perm _).mem_iff
      have hmem:∀ x,x∈(ofR d (j:Int)).flatMap (fun p=>kidsN d p.id (k:Int))↔x∈ofTier d (k:Int):=by
        intro x
        rw [List.mem_flatMap]
        constructor
        · rintro⟨p,_,hx⟩
          obtain⟨h1,h2,_⟩:=(kids_mem h ht).1 hx
          exact of_mem.2 ⟨h1,h2⟩
        · intro hx
          obtain⟨h1,h2⟩:=of_mem.1 hx
          obtain⟨j',u',p,e1,_,_,_,mp,ip,tp⟩:=parent_of h ht h1 h2 h0
          have hjj:j'=j:=by omega
          subst hjj
          exact⟨p,(hmo p).2 (of_mem.2 ⟨mp,tp⟩),(kids_mem h ht).2 ⟨h1,h2,ip.symm⟩⟩
      have hsort:((ofR d (j:Int)).flatMap fun p=>kidsN d p.id (k:Int)).Pairwise fun a b=>befF d (k+1) a b=true:=by
        rw [List.pairwise_flatMap]
        refine⟨fun p _=>kids_sorted h ht p.id,?_⟩
        refine List.Pairwise.imp_of_mem (fun {p q} hp hq hpq=>?_) hso
        intro x hx y hy
        obtain⟨hp1,hp2⟩:=of_mem.1 ((hmo p).1 hp)
        obtain⟨hq1,hq2⟩:=of_mem.1 ((hmo q).1 hq)
        obtain⟨x1,x2,x3⟩:=(kids_mem h ht).1 hx
        obtain⟨y1,y2,y3⟩:=(kids_mem h ht).1 hy
        have hne:p.id≠q.id:=fun e=>by
          have:=ids_inj (ids_rise h) hp1 hq1 e
          subst this
          have:=hSj.asymm p ((hmo p).1 hp) p ((hmo p).1 hp) hpq
          rw [this] at hpq;cases hpq
        have gp:getF d.notes x.parent=some p:=by rw [x3];exact get_mem (ids_rise h) hp1
        have gq:getF d.notes y.parent=some q:=by rw [y3];exact get_mem (ids_rise h) hq1
        rw [bef_diff gp gq (by rw [x3,y3];exact hne),bef_fuel h j k (j+1) hjk (by omega) p hp1 q hq1 hp2 hq2]
        exact hpq
      exact(insSort_eq hnd hS (perm_of (pairwise_nodup hS (fun x hx=>(hmem x).1 hx) hsort) hnd hmem) hsort).symm
end Go.Proofs.YtjicdgejhkgpgaaGreatDoor
namespace Go.Proofs.YtjicdgejhkgpgaaGreatDoor
open Go.RowKit Go.En
def chainN (ns : List Note) : Nat → Int → List Note
  | 0,_=>[]
  | f+1,id=>match getF ns id with
    | none=>[]
    | some n=>n::chainN ns f n.parent
theorem step_up {d:Dc} (h:LightD d) {n:Note} {k:Nat} (hn:n∈d.notes) (hk:n.tier=(k:Int)):getF d.notes n.parent=none∨∃ p j,getF d.notes n.parent=some p∧p∈d.notes∧p.id=n.parent∧p.tier=((j:Nat):Int)∧j<k:=by
  obtain⟨k',t,h1,ht,px,tk,_⟩:=note_tier h hn
  have hkk:k'=k:=by omega
  subst hkk
  by_cases h0:t.kind=0
  · refine .inl ?_
    have hp:=px.root h0
    cases hg:getF d.notes n.parent with
    | none=>rfl
    | some p=>
      obtain⟨m1,m2⟩:=get_some hg
      obtain⟨i,hi⟩:=List.getElem?_of_mem m1
      have:=(h.notes i p hi).id
      omega
  · obtain⟨j,u,p,_,hj,_,gp,mp,ip,tp⟩:=parent_of h ht hn h1 h0
    exact .inr ⟨p,j,gp,mp,ip,tp,hj⟩
theorem chain_fuel {d:Dc} (h:LightD d):∀(k f g:Nat) (n:Note),n∈d.notes→n.tier=(k:Int)→k<f→k<g→chainN d.notes f n.id=chainN d.notes g n.id:=by
  intro k
  induction k using Nat.strongRecOn with
  | _ k ih =>
    intro f g n hn hk hf hg
    obtain⟨f,rfl⟩:∃ f',f=f'+1:=⟨f-1,by omega⟩
    obtain⟨g,rfl⟩:∃ g',g=g'+1:=⟨g-1,by omega⟩
    simp only [chainN,get_mem (ids_rise h) hn]
    congr 1
    rcases step_up h hn hk with h0|⟨p,j,gp,mp,ip,tp,hj⟩
    · cases f <;> cases g <;> simp [chainN,h0]
    · rw [← ip]
      exact ih j hj f g p mp tp (by omega) (by omega)
theorem note_lt {d:Dc} (h:LightD d) {n:Note} (hn:n∈d.notes):∃ k:Nat,n.tier=(k:Int)∧k<d.tiers.length:=by
  obtain⟨k,t,h1,ht,_⟩:=note_tier h hn
  exact⟨k,h1,tier_lt ht⟩
theorem chain_all {d:Dc} (h:LightD d) (id:Int) (f g:Nat) (hf:d.tiers.length≤f) (hg:d.tiers.length≤g):chainN d.notes f id=chainN d.notes g id:=by
  cases hgt:getF d.notes id with
  | none=>cases f <;> cases g <;> simp [chainN,hgt]
  | some n=>
    obtain⟨hn,hid⟩:=get_some hgt
    obtain⟨k,hk,hlt⟩:=note_lt h hn
    rw [← hid]
    exact chain_fuel h k f g n hn hk (by omega) (by omega)
def chainF (d:Dc) (id:Int):List Note:=chainN d.notes (d.tiers.length+1) id
theorem chain_none {d:Dc} {id:Int} (hg:getF d.notes id=none):chainF d id=[]:=by simp [chainF,chainN,hg]
theorem chain_cons {d:Dc} (h:LightD d) {n:Note} (hn:n∈d.notes):chainF d n.id=n::chainF d n.parent:=by
  show chainN d.notes (d.tiers.length+1) n.id=_
  simp only [chainN,get_mem (ids_rise h) hn]
  congr 1
  exact chain_all h _ _ _ (Nat.le_refl _) (by omega)
def alignedB (d:Dc) (k:Int):Bool:=match d.tiers[k.toNat]? with
  | some t=>decide (0≤k)&&timedB t.kind
  | none=>false
def whereF (d:Dc) (id:Int):Option Note:=(chainF d id).find? fun n=>alignedB d n.tier
end Go.Proofs.YtjicdgejhkgpgaaGreatDoor
namespace Go.Proofs.YtjicdgejhkgpgaaGreatDoor
open Go.RowKit Go.En
theorem aligned_at {d:Dc} {k:Nat} {t:Tier} (ht:d.tiers[k]?=some t):alignedB d (k:Int)=timedB t.kind:=by
  unfold alignedB
  rw [Int.toNat_natCast,ht]
  simp
theorem where_pos {d:Dc} (h:LightD d) {n:Note} (hn:n∈d.notes) (ha:alignedB d n.tier=true):whereF d n.id=some n:=by
  unfold whereF
  rw [chain_cons h hn]
  exact List.find?_cons_of_pos (p:=fun n:Note=>alignedB d n.tier) ha
theorem where_neg {d:Dc} (h:LightD d) {n:Note} (hn:n∈d.notes) (ha:alignedB d n.tier=false):whereF d n.id=whereF d n.parent:=by
  unfold whereF
  rw [chain_cons h hn]
  exact List.find?_cons_of_neg (p:=fun n:Note=>alignedB d n.tier) (by simp [ha])
theorem where_none {d:Dc} {id:Int} (hg:getF d.notes id=none):whereF d id=none:=by unfold whereF;rw [chain_none hg];rfl
def behind (l:List Note) (id:Int):Option Note:=match l with
  | a::b::r=>if a.id=id then some b else behind (b::r) id
  | _=>none
end Go.Proofs.YtjicdgejhkgpgaaGreatDoor
namespace Go.Proofs.YtjicdgejhkgpgaaGreatDoor
open Go.RowKit Go.En
end Go.Proofs.YtjicdgejhkgpgaaGreatDoor
namespace Go.Proofs.YtjicdgejhkgpgaaGreatDoor
open Go.RowKit Go.En
def spanF (d:Dc) (id:Int):Int × Int:=match whereF d id with|some n=>(n.frm,n.til)|none=>(0,0)
def hitB (d:Dc) (ms:Int) (n:Note):Bool:=decide ((spanF d n.id).1≤ms)&&decide (ms<(spanF d n.id).2)
end Go.Proofs.YtjicdgejhkgpgaaGreatDoor
namespace Go.Proofs.YtjicdgejhkgpgaaGreatDoor
open Go.RowKit Go.En Go.Pv
structure LangOK (g:Lg):Prop where
  nsegs:g.segs.length≤8
  nunits:g.units.length≤10
  units:∀ u∈g.units,1≤u.graph.length∧u.graph.length≤32∧u.segs.length≤3
  nrules:g.rules.length≤2
  rules:∀ r∈g.rules,r.to.length=r.frm.length∧r.frm.length≤8∧r.frm.Nodup∧r.left.length≤2∧r.right.length≤2
  net:NetOK g.net
  states:g.net.states≤3
  nsteps:g.net.steps.length≤6
  nfinal:g.net.final.length≤3
  nlex:g.lex.length≤5
  ids:(g.lex.map (·.id)).Nodup
  lex:∀ e∈g.lex,1≤e.id∧1≤e.cls∧e.cls≤20∧e.form.length≤3∧e.alts.length≤1∧(∀ f∈formsOf e,f.length≤3∧∀ x∈f,1≤x∧x≤8)∧e.refs.length≤12∧e.senses.length≤5∧e.links.length≤12
def shrB (rules:List Rul):Bool:=rules.any fun r=>r.to.contains 0
def lxOf (g:Lg) (w:List Int):Lx:=⟨g.net,g.lex,lastF bandI g.segs g.rules,if shrB g.rules then 24 else w.length⟩
def usesF (g:Lg) (w:List Int) (id:Int):Bool:=(decide (w.length≠0)&&decide (w.length≤24))&&belB (lxOf g w) w id 4 [] (fun q=>q==0) []
def docF (docs:List Dc) (rec:Int):Option Dc:=docs.find? fun d=>decide (d.rid=rec)
structure LightDs (docs:List Dc):Prop where
  few:docs.length≤3
  each:∀ d∈docs,LightD d
  up:∀(i:Nat) (a b:Dc),docs[i]?=some a→docs[i+1]?=some b→a.rid<b.rid
def whereS (docs:List Dc) (r:Rf):Int × Int:=match docF docs r.rcd with|none=>(0,0)|some d=>spanF d r.note
def leadsB (docs:List Dc) (r:Rf):Bool:=match docF docs r.rcd with|none=>false|some d=>(whereF d r.note).isSome
end Go.Proofs.YtjicdgejhkgpgaaGreatDoor
namespace Go.En
open Go.RowKit
section
variable {P : Program} {L : List (Nat × Value)} {w : World} {o : Oper}
theorem val_max {t u:TypeId} {x y:Operand} {a b:Int} (ho:o.op=.call { callee:=.builtin .max,args:=#[x,y],argTypes:=#[t,u] }) (hx:ev L x=some (int a)) (hy:ev L y=some (int b)):Val P L w o (int (if b>a then b else a)):=fun ρ ha=>by
  have h1:=ha.ev (by rw [ho];simp [Op.operands,Call.operands]) hx
  have h2:=ha.ev (by rw [ho];simp [Op.operands,Call.operands]) hy
  simp [execOp,ho,resolve,invoke,builtin,Builtin.max_,Builtin.max2,h1,h2,go_sem]
theorem val_min {t u:TypeId} {x y:Operand} {a b:Int} (ho:o.op=.call { callee:=.builtin .min,args:=#[x,y],argTypes:=#[t,u] }) (hx:ev L x=some (int a)) (hy:ev L y=some (int b)):Val P L w o (int (if b<a then b else a)):=fun ρ ha=>by
  have h1:=ha.ev (by rw [ho];simp [Op.operands,Call.operands]) hx
  have h2:=ha.ev (by rw [ho];simp [Op.operands,Call.operands]) hy
  simp [execOp,ho,resolve,invoke,builtin,Builtin.min_,Builtin.min2,h1,h2,go_sem]
structure TwoInts (P:Program) (t e:TypeId):Prop where
  st:P.underlying t=some (.struct (P.fieldsOf t))
  hp:P.stoodInHeld t=false
  hg:P.eqGuardType P.depth t=false
  hf:((P.fieldsOf t).toList.map fun f=>(f.name== "_",f.type,f.offset))=[(false,e,0),(false,e,1)]
  he:P.underlying e=some (.int .i64)
theorem run_part_int {e:TypeId} {xs:Array Value} {off:Nat} {v:Value} (he:P.underlying e=some (.int .i64)) (hx:xs[off]?=some v):(part e xs off).run P w=.ok v w:=by
  have h3:(isAgg e).run P w=.ok false w:=by simp [isAgg,run_underlying he]
  simp [part,h3,hx]
theorem run_eq_two {t e : TypeId} (h : TwoInts P t e) (a b c d : Int) : (Op.equalIn 10000 t (.agg #[int a, int b]) (.agg #[int c, int d])).run P w = .ok (decide (a = c) && decide (b = d)) w := by
  rw [run_equalIn_struct w 9999 t _ _ h.st h.hp]
  have hf:=h.hf
  obtain⟨f,g,hl⟩:∃ f g,(P.fieldsOf t).toList=[f,g]:=by
    have:=congrArg List.length hf
    rw [List.length_map] at this
    generalize (P.fieldsOf t).toList=l at this ⊢
    cases l with
    | nil=>simp at this
    | cons f l=>cases l with
      | nil=>simp at this
      | cons g l=>cases l with
        | nil=>exact⟨f,g,rfl⟩
        | cons=>simp at this
  rw [hl] at hf ⊢
  ·
    simp only [List.map_cons,List.map_nil,List.cons.injEq,Prod.mk.injEq,and_true] at hf
    obtain⟨⟨n1,t1,o1⟩,n2,t2,o2⟩:=hf
    have m1:f.name≠ "_" := by simpa using n1
    have m2:g.name≠ "_" := by simpa using n2
    have p1:=fun(xs:Array Value) v (hx:xs[0]?=some v)=>run_part_int (P:=P) (w:=w) h.he hx
    have p2:=fun(xs:Array Value) v (hx:xs[1]?=some v)=>run_part_int (P:=P) (w:=w) h.he hx
    have q:=fun x y=>run_equalIn_int (P:=P) w 9998 e .i64 .i64 x y h.he
    simp only [Op.eqFields,t1,o1,t2,o2,m1,m2,ne_eq,not_false_eq_true,if_true,Sem.run_bind]
    rw [p1 _ (int a) rfl]
    simp only [Result.andThen_ok]
    rw [p1 _ (int c) rfl]
    simp only [Result.andThen_ok]
    rw [q]
    simp only [Result.andThen_ok]
    by_cases hac:a=c
    · subst hac
      simp only [beq_self_eq_true,Bool.not_true,Bool.false_eq_true,if_false,Sem.run_bind]
      rw [p2 _ (int b) rfl]
      simp only [Result.andThen_ok]
      rw [p2 _ (int d) rfl]
      simp only [Result.andThen_ok]
      rw [q]
      simp only [Result.andThen_ok]
      by_cases hbd:b=d
      · subst hbd;simp
      · simp [hbd]
    · simp [hac]
theorem val_ne_two {t e u:TypeId} {x y:Operand} {a b c d:Int} (h:TwoInts P t e) (ho:o.op=.binOp .neq t x y u) (hx:ev L x=some (.agg #[int a,int b])) (hy:ev L y=some (.agg #[int c,int d])):Val P L w o (.bool (!(decide (a=c)&&decide (b=d)))):=fun ρ ha=>by
  have h1:=ha.ev (by rw [ho];simp [Op.operands]) hx
  have h2:=ha.ev (by rw [ho];simp [Op.operands]) hy
  have h3:=run_eqGuard_agg (P:=P) w .neq t x y #[int a,int b] #[int c,int d] h.hg
  have h4:=run_neq_struct (P:=P) w t #[int a,int b] #[int c,int d]
  have h5:=run_eq_two (w:=w) h a b c d
  simp [execOp,ho,h1,h2,h3,h4,h5,go_sem]
theorem val_ne_two_b {t e u:TypeId} {x y:Operand} {a b c d:Int} {r:Bool} (h:TwoInts P t e) (ho:o.op=.binOp .neq t x y u) (hx:ev L x=some (.agg #[int a,int b])) (hy:ev L y=some (.agg #[int c,int d])) (hr:r=!(decide (a=c)&&decide (b=d))):Val P L w o (.bool r):=hr▸val_ne_two h ho hx hy
theorem val_eq_two {t e u:TypeId} {x y:Operand} {a b c d:Int} (h:TwoInts P t e) (ho:o.op=.binOp .eql t x y u) (hx:ev L x=some (.agg #[int a,int b])) (hy:ev L y=some (.agg #[int c,int d])):Val P L w o (.bool (decide (a=c)&&decide (b=d))):=fun ρ ha=>by
  have h1:=ha.ev (by rw [ho];simp [Op.operands]) hx
  have h2:=ha.ev (by rw [ho];simp [Op.operands]) hy
  have h3:=run_eqGuard_agg (P:=P) w .eql t x y #[int a,int b] #[int c,int d] h.hg
  have h4:=run_eql_struct (P:=P) w t #[int a,int b] #[int c,int d]
  have h5:=run_eq_two (w:=w) h a b c d
  simp [execOp,ho,h1,h2,h3,h4,h5,go_sem]
end
theorem ret_ct {P:Program} {n:Nat} {L:List (Nat × Value)} {w:World} {fn:Func} {S:Value→World→Prop} {s u:Tmp} {x:Value} {ty:TypeId} {d:TypeDesc} {b off:Nat} {cs:List Value} {z:Value} {size bytes:Nat} [UT P ty d] [TI P ty z size bytes] (hr:fn.results=#[.cell s ty,.tmp u])
    (hd:isAggD d=true) (hv:lk L s=some (.pointer (some ⟨b,off,none⟩))) (hc:At w b off cs) (hl:Nat.beq cs.length size=true) (hx:lk L u=some x) (hs:S (.tuple #[.agg cs.toArray,x]) w):K n (bodyPost P fn (Rt S)) .ret L w:=fun a ha=>by
  refine⟨ha.nod,.tuple #[.agg cs.toArray,x],?_,_,rfl,hs⟩
  have h1:=ha.get s _ hv
  have h2:=ha.get u _ hx
  have h3:=run_isAgg (P:=P) (t:=ty) w
  rw [hd] at h3
  obtain⟨i0,hi0,_,hsz,_⟩:=run_ti (P:=P) (t:=ty) w
  have h4:=run_loadCells_list (P:=P) w ⟨b,off,none⟩ cs (fun j v hv=>by rw [addr_add];exact hc j v hv)
  rw [Nat.eq_of_beq_eq_true hl] at h4
  unfold loadCells at h4
  simp [results,hr,Array.getD_eq_getD_getElem?,h1,h2,Instr.loadAt,Instr.sureAddr,loadVar,go_sem,h3,sizeOf,hi0,hsz,h4]
end Go.En
namespace Go.En
theorem kmin (k:IntKind):k.min=(match k with | .i8 => -128 | .i16 => -32768 | .i32 => -2147483648 | .i64 => -9223372036854775808 | .u8=>0 | .u16=>0 | .u32=>0 | .u64=>0:Int):=by cases k <;> rfl
theorem kmax (k:IntKind):k.max=(match k with | .i8=>127 | .i16=>32767 | .i32=>2147483647 | .i64=>9223372036854775807 | .u8=>255 | .u16=>65535 | .u32=>4294967295 | .u64=>18446744073709551615:Int):=by cases k <;> rfl
end Go.En
