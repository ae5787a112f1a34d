/- Own text. -/
import Derived.Test.YtojadfppncgphaaGreatDoorQYs
set_option linter.all false
set_option maxHeartbeats 16000000
set_option maxRecDepth 8000
namespace Go.En
open Go.RowKit Go.MapKept
theorem C6k {P : Program}{w : World}{t kt et : TypeId}{r : Nat}{v : Value}{f : Int → Option Value}{k : Int}(um : UT P t (.map kt et))(uk : UT P kt (.int .i64))(hm : MapF w r f) :
  ∃ w',MapF w' r (fun j=>if j=k then some v else f j)∧Kb (some r) w w'∧∀(o:Oper) (L:List (Nat × Value)) (x i y:Operand),o.op=.mapUpdate t x i y→ev L x=some (.map (some r))→ev L i=some (int k)→ev L y=some v→∀ ρ,Agree L o ρ→(execOp ρ o).run P w=.ok .skip w':=by
 obtain⟨es,clock,hb,hs,hks,hf⟩:=hm
 have hik:IsKey (.int .i64) (int k):=rfl
 have h6:=run_checkKey (P:=P) (w:=w) uk.u hik false 9999
 have hkb:∀ o':Obj,Kb (some r) w { w with heap:=w.heap.setIfInBounds r o' }:=fun o'=>⟨rfl,rfl,rfl,by simp,fun b hlt hne=>(heap_set hb).2 b (fun e=>hne (by rw [e]))⟩
 rcases B3q hs hks hf k with⟨e1,e2,e3⟩|⟨j,e,e1,e2,e3,e4⟩
 ·have h7:=run_findKey (P:=P) (w:=w) uk.u e2
  refine⟨{ w with heap:=w.heap.setIfInBounds r (.map (es.push { key:=int k,val:=v,born:=clock }) (clock+1)) },⟨_,_,(heap_set hb).1,stamped_push hs e3,fun x hx=>?_,fun k' v'=>?_⟩,hkb _,fun o L x i y ho hx hi hy ρ ha=>?_⟩
  rotate_left 2
  ·have h1:=ha.ev (by rw [ho];simp [Op.operands]) hx
   have h2:=ha.ev (by rw [ho];simp [Op.operands]) hi
   have h3:=ha.ev (by rw [ho];simp [Op.operands]) hy
   simp only [execOp,ho,h1,h2,h3]
   simp [Instr.mapUpdate,run_underlying um.u,Go.MapKept.run_getObj_map hb,h6,h7,Go.MapKept.run_setObj_map _ hb,Result.andThen]
  ·simp only [Array.toList_push,List.mem_append,List.mem_singleton] at hx
   rcases hx with hx|rfl
   ·exact hks x hx
   ·exact hik
  ·simp only [Array.toList_push,List.mem_append,List.mem_singleton]
   by_cases hk:k'=k
   ·subst hk
    rw [if_pos rfl]
    constructor
    ·intro h;cases h;exact⟨_,.inr rfl,rfl,rfl⟩
    ·rintro⟨x,hx|rfl,h1,h2⟩
     ·exact absurd h1 (e3 x hx)
     ·rw [← h2]
   ·rw [if_neg hk,hf]
    constructor
    ·rintro⟨x,hx,h1,h2⟩;exact⟨x,.inl hx,h1,h2⟩
    ·rintro⟨x,hx|rfl,h1,h2⟩
     ·exact⟨x,hx,h1,h2⟩
     ·simp at h1;exact absurd h1.symm hk
 ·have h7 := run_findKey (P := P) (w := w) uk.u e2
  have hj:es[j]?=some e:=by simpa using e3
  have hst:=run_keyThatStays (P:=P) (w:=w) hik
  have hkey:∀ e',es[j]?=some e'→({ e' with key:=int k,val:=v }:MapEntry).key=e'.key:=fun e' he'=>by rw [hj] at he';cases he';exact e4.symm
  refine⟨{ w with heap:=w.heap.setIfInBounds r (.map (es.modify j fun e=>{ e with key:=int k,val:=v }) clock) },⟨_,_,(heap_set hb).1,stamped_modify hs _ _ (fun _ _=>rfl) (fun e' _ he'=>hkey e' he'),isKey_modify hks _ _ hkey,fun k' v'=>?_⟩,hkb _,fun o L x i y ho hx hi hy ρ ha=>?_⟩
  rotate_left 1
  ·have h1:=ha.ev (by rw [ho];simp [Op.operands]) hx
   have h2:=ha.ev (by rw [ho];simp [Op.operands]) hi
   have h3:=ha.ev (by rw [ho];simp [Op.operands]) hy
   simp only [execOp,ho,h1,h2,h3]
   simp [Instr.mapUpdate,run_underlying um.u,Go.MapKept.run_getObj_map hb,h6,h7,hj,e4,hst,Go.MapKept.run_setObj_map _ hb,Result.andThen]
  ·have hmem:∀ x:MapEntry,x∈(es.modify j fun e=>{ e with key:=int k,val:=v }).toList↔(x∈es.toList∧x.key≠int k)∨x={ e with key:=int k,val:=v }:=by
    intro x
    constructor
    ·intro hx
     obtain⟨i,hi⟩:=List.getElem?_of_mem hx
     rw [Array.getElem?_toList,Array.getElem?_modify] at hi
     by_cases hji:j=i
     ·subst hji
      rw [if_pos rfl,hj] at hi
      exact .inr (by simpa using hi.symm)
     ·rw [if_neg hji] at hi
      have hxm:x∈es.toList:=List.mem_of_getElem? (by rw [Array.getElem?_toList];exact hi)
      refine .inl ⟨hxm,fun hxk=>hji ?_⟩
      have h1:=(List.getElem?_eq_some_iff.1 e3).1
      have hi2:es.toList[i]?=some x:=by rw [Array.getElem?_toList];exact hi
      have h2:=(List.getElem?_eq_some_iff.1 hi2).1
      have hn:=hs.2.2
      have ha:(es.toList.map (·.key))[j]?=some (int k):=by rw [List.getElem?_map,e3];simp [e4]
      have hb':(es.toList.map (·.key))[i]?=some (int k):=by rw [List.getElem?_map,hi2];simp [hxk]
      exact(List.getElem?_inj (by simpa using h1) hn).1 (ha.trans hb'.symm)
    ·rintro(⟨hx,hxk⟩|rfl)
     ·obtain⟨i,hi⟩:=List.getElem?_of_mem hx
      refine List.mem_of_getElem? (i:=i) ?_
      rw [Array.getElem?_toList,Array.getElem?_modify]
      by_cases hji:j=i
      ·subst hji
       rw [e3] at hi;cases hi
       exact absurd e4 hxk
      ·rw [if_neg hji,← Array.getElem?_toList];exact hi
     ·refine List.mem_of_getElem? (i:=j) ?_
      rw [Array.getElem?_toList,Array.getElem?_modify,if_pos rfl,hj];rfl
   dsimp only
   by_cases hk:k'=k
   ·subst hk
    rw [if_pos rfl]
    constructor
    ·intro h;cases h;exact⟨_,(hmem _).2 (.inr rfl),rfl,rfl⟩
    ·rintro⟨x,hx,h1,h2⟩
     rcases (hmem x).1 hx with⟨_,hxk⟩|rfl
     ·exact absurd h1 hxk
     ·rw [← h2]
   ·rw [if_neg hk,hf]
    constructor
    ·rintro⟨x,hx,h1,h2⟩
     exact⟨x,(hmem x).2 (.inl ⟨hx,fun h=>hk (by rw [h1] at h;simpa using h)⟩),h1,h2⟩
    ·rintro⟨x,hx,h1,h2⟩
     rcases (hmem x).1 hx with⟨hx,_⟩|rfl
     ·exact⟨x,hx,h1,h2⟩
     ·simp at h1;exact absurd h1.symm hk
end Go.En
namespace Go.Proofs.YtojadfppncgphaaGreatDoor
section
open Go.RowKit Go.En Go.Dl Go.Tp
structure GR (d:Doc):Prop where
 g:GD d
 ids:(d.notes.map (·.id)).Pairwise (·<·)
theorem C3i {d:Doc}(h:GR d){a:Note}(ha:a∈d.notes):∃ k:Nat,a.tier=(k:Int)∧k<d.tiers.length:=by
 have:=h.g.tr a ha
 exact⟨a.tier.toNat,by omega,by omega⟩
theorem B8t {ns:List Note}{id:Int}{n:Note}(h:getN ns id=some n):n∈ns∧n.id=id:=H3 h
theorem D2z {d:Doc}(h:GR d){id:Int}{a c:Note}{k:Nat}(ha:getN d.notes id=some a)(hak:a.tier=(k:Int))(hc:c∈d.notes)(hp:c.parent=id):∃ kc:Nat,c.tier=(kc:Int)∧k<kc:=by
 obtain⟨ham,hai⟩:=H3 ha
 have h1:=h.g.up c hc a ham (by rw [hp,hai])
 have h2:=h.g.tr c hc
 exact⟨c.tier.toNat,by omega,by omega⟩
theorem D1b {d:Doc}(h:GR d):(d.notes.map (·.id)).Pairwise (·<·):=h.ids
theorem D7l {l:List Note}(h:(l.map (·.id)).Pairwise (·<·)){x:Note}(hx:x∈l):getN l x.id=some x:=by
 unfold getN
 induction l with
 | nil=>cases hx
 | cons a r ih=>
  rw [List.map_cons,List.pairwise_cons] at h
  rw [List.find?_cons]
  by_cases e:a.id=x.id
  ·rw [decide_eq_true e]
   rcases List.mem_cons.mp hx with rfl|hx
   ·rfl
   ·have:=h.1 x.id (List.mem_map_of_mem hx);omega
  ·rw [decide_eq_false e]
   rcases List.mem_cons.mp hx with rfl|hx
   ·exact absurd rfl e
   ·exact ih h.2 hx
theorem D0s {G:Nat→Prop}{w:World}{b off n cap:Nat}{xs:List Int}(h:SlG G w (.slice (some ⟨b,off,none⟩) n cap) xs){i:Nat}{x:Int}(hx:xs[i]?=some x):w.cell? ⟨b,off+i*1,none⟩=some (int x):=by
 obtain⟨cs,h1,h2⟩:=h.elem hx
 rw [show cs=[int x] from h1] at h2
 exact h2.one
theorem G5j {P:Program}{n:Nat}{L:List (Nat × Value)}{w:World}{fn:Func}{S:Value→World→Prop}(hr:fn.results=#[])(hs:S (.tuple #[]) w):K n (bodyPost P fn (Rt S)) .ret L w:=fun a ha=>by
 exact⟨ha.nod,.tuple #[],results_none hr _ _ _,_,rfl,hs⟩
theorem X8 {w:World}{B:Nat}{e:TypeId}{size n:Nat}{v:Value}{xs:List Value}(h:w.ownsRow B e size v n xs)(h0:0<n):∃ g cap tail,v=.slice (some ⟨g,0,none⟩) n cap∧n≤cap∧cap≤maxLen∧B≤g∧Row w g e (xs++tail)∧(xs++tail).length=cap*size:=by
 rcases h.2 with⟨_,hn⟩|⟨g,cap,cur,rfl,hb,hg,h1,h2,h3,h4⟩
 ·omega
 ·refine⟨g,cap,cur.toList.drop (n*size),rfl,h1,h2,hb,?_,?_⟩
  ·rw [← h4,List.take_append_drop];exact hg
  ·rw [← h4,List.take_append_drop];simpa using h3
def C3z (d:Doc)(k:Int):List Note:=d.notes.filter fun n=>decide (n.parent=k)
def B3b (d:Doc)(k:Int):List Int:=(C3z d k).map fun n=>n.id
structure CI (w0:World)(bM bO bF B2:Nat)(w:World)(acc:List Int)(v:Value):Prop where
 ext:Ext w0 w
 big:B2≤w.heap.size
 fn:Row w bF 294 [.func (.func 240) #[] #[.pointer (some ⟨bM,0,none⟩),.pointer (some ⟨bO,0,none⟩),.pointer (some ⟨bF,0,none⟩)] ]
 out:Row w bO 31 [v]
 own:w.ownsRow B2 3 1 v acc.length (acc.map int)
def A0z (d:Doc)(F:Nat)(l:List Note):List Int:=l.flatMap fun n=>n.id::undG d F n.id
theorem C1g {d:Doc}{F:Nat}{l:List Note}{i:Nat}{c:Note}(h:l[i]?=some c):A0z d F (l.take (i+1))=A0z d F (l.take i)++(c.id::undG d F c.id):=by
 obtain⟨hi,rfl⟩:=List.getElem?_eq_some_iff.1 h
 unfold A0z
 rw [List.take_succ_eq_append_getElem hi,List.flatMap_append,List.flatMap_singleton]
theorem C6u {d:Doc}{F:Nat}{l:List Note}(i:Nat):(A0z d F (l.take i)).length≤(A0z d F l).length:=by
 unfold A0z
 have:(l.flatMap fun n=>n.id::undG d F n.id)=((l.take i).flatMap fun n=>n.id::undG d F n.id)++((l.drop i).flatMap fun n=>n.id::undG d F n.id):=by
  rw [← List.flatMap_append,List.take_append_drop]
 rw [this,List.length_append];omega
attribute [local irreducible] E EL K Val Enters Rt Calls bodyPost Code.wp RQ
theorem B9m {d:Doc}(h:GR d){w0:World}{bM r bO bF B2:Nat}{f:Int→Option Value}(rM:Row w0 bM 347 [.map (some r)])(hm:MapF w0 r f)(hk:∀ k,Sl w0 ((f k).getD (.slice none 0 0)) (B3b d k))(h1:w0.heap.size≤bO)(h2:bO<B2)(h3:w0.heap.size≤bF)(h4:bF<B2)(hne:bO≠bF) :
  ∀(F:Nat) (id:Int) (a:Note) (k:Nat) (acc:List Int) (v:Value) (w:World),getN d.notes id=some a→a.tier=(k:Int)→d.tiers.length≤F+k→acc.length+(undG d F id).length≤600000→CI w0 bM bO bF B2 w acc v→
  Calls Tryz.prog 240 #[int id,.pointer (some ⟨bM,0,none⟩),.pointer (some ⟨bO,0,none⟩),.pointer (some ⟨bF,0,none⟩)] w (Rt fun _ w'=>∃ v',CI w0 bM bO bF B2 w' (acc++undG d F id) v'):=by
 intro F
 induction F with
 | zero=>
  intro id a k acc v w ha hak hF
  obtain⟨k',e1,e2⟩:=C3i h (B8t ha).1
  omega
 | succ F ih=>
 intro id a k acc v w ha hak hF hlen I
 refine G3 (n:=23) (args:=[int id,.pointer (some ⟨bM,0,none⟩),.pointer (some ⟨bO,0,none⟩),.pointer (some ⟨bF,0,none⟩)]) Tryz.func240 rfl Tryz.ntmps240 (by simp) ?_
 have hdfs:undG d (F+1) id=A0z d F (C3z d id):=rfl
 rw [hdfs] at hlen ⊢
 obtain⟨KS,hKS⟩:∃ KS,KS=C3z d id:=⟨_,rfl⟩
 obtain⟨KI,hKI⟩:∃ KI,KI=B3b d id:=⟨_,rfl⟩
 have hKIm:KI=KS.map fun n=>n.id:=by rw [hKI,hKS];rfl
 have hKil:KI.length=KS.length:=by rw [hKIm,List.length_map]
 rw [← hKS] at hlen ⊢
 have hS:=(hk id).ext I.ext
 rw [← hKI] at hS
 have hS0:=hS
 obtain⟨sa,cap,he,hc,hmx,hp⟩:=hS.sl
 rw [he] at hS0
 have rMw:=rM.ext I.ext
 have hmw:=hm.ext I.ext
 (repeat' (first|refine eV Z Z (B5 Z Z Z (rMw.cellAt rfl)) ?_|refine eV (v:=.slice sa KI.length cap) Z Z (by rw [← he];exact A2r hmw rfl rfl rfl) ?_|refine Sy ?_|fail))
 refine A0e (ι:=Nat × Value) (fun x=>[(1,.pointer (some ⟨bM,0,none⟩)),(2,.pointer (some ⟨bO,0,none⟩)),(3,.pointer (some ⟨bF,0,none⟩)),(9,.slice sa KI.length cap),(10,int KI.length),(11,int x.1)])
  (fun x wr=>x.1≤KS.length∧CI w0 bM bO bF B2 wr (acc++A0z d F (KS.take x.1)) x.2) (fun x=>KS.length-x.1) (0,v)
  ⟨rfl,rfl,rfl,rfl,rfl,rfl,trivial⟩ ⟨Nat.zero_le _,by simpa [A0z] using I⟩ ?_
 rintro⟨i,vO⟩ wr ⟨hi,J⟩
 dsimp only at hi J ⊢
 by_cases hlt:i<KS.length
 ·obtain⟨b,off,rfl⟩:=hp (by omega)
  obtain⟨c,hc1⟩:∃ c,KS[i]?=some c:=⟨_,List.getElem?_eq_getElem hlt⟩
  have hcI:KI[i]?=some c.id:=by rw [hKIm,List.getElem?_map,hc1];rfl
  have hS1:SlG Tt w0 (.slice (some ⟨b,off,none⟩) KI.length cap) KI:=by have:=hk id;rw [he,← hKI] at this;exact this
  have hcx:=D0s (hS1.ext J.ext) hcI
  obtain⟨hcm,hcp⟩:c∈d.notes∧c.parent=id:=by
   have:=List.mem_of_getElem? hc1
   rw [hKS] at this
   obtain⟨e1,e2⟩:=List.mem_filter.1 this
   exact⟨e1,by simpa using e2⟩
  obtain⟨kc,hkc,hlk⟩:=D2z h ha hak hcm hcp
  have hsn:=C1g (d:=d) (F:=F) hc1
  have hl1:=C6u (d:=d) (F:=F) (l:=KS) (i+1)
  rw [hsn,List.length_append,List.length_cons] at hl1
  have hJo:=J.out
  have hJf:=J.fn
  have hown:=J.own
  have hbig:=J.big
  (repeat' (first|refine eV Z Z (B7 (m:=i) Z Z Z Z (by omega)) ?_|refine eV Z Z (B5 Z Z Z hcx) ?_|refine eV Z Z (B5 Z Z Z (hJo.cellAt rfl)) ?_|(refine Z0 (news:=[int c.id]) Z Z Z Z (N0 hown xS) Z rS.at rfl rfl rfl (by omega) (by simp only [List.length_append];omega) (by simp only [List.length_append];omega) (by have:=xS.size;omega) (fun vJ wJ oJ kJ=>?_))|refine Sy ?_|refine Dy (fun hh=>?_) fun hh=>?_|refine eL Z Z Z Z Z Z Z Z (fun bS wS xS hbS rS=>?_)))
  all_goals (first|(exfalso;omega)|skip)
  have hkb:∀ bb,vO.ownBlock=some bb→B2≤bb:=fun bb e=>(hown.lt bb e).1
  have hno:some bO≠vO.ownBlock:=fun e=>by have:=hkb bO e.symm;omega
  have hnf:some bF≠vO.ownBlock:=fun e=>by have:=hkb bF e.symm;omega
  have rO:=kJ.row (hJo.ext xS) hno
  have rF:=kJ.row (hJf.ext xS) hnf
  have hsz:=J.ext.size
  have xJ:Ext w0 wJ:=kJ.ext (J.ext.trans xS) (fun bb e=>by have:=hkb bb e;omega)
  have hbigJ:B2≤wJ.heap.size:=by have:=Kb.size kJ;have:=xS.size;omega
  obtain⟨gJ,capJ,tJ,rfl,hJ1,hJ2,hJ3,hJ4,hJ5⟩:=X8 oJ (by omega)
  refine V3 (v:=.slice (some ⟨gJ,0,none⟩) _ capJ) Z Z Z Z Z Z Z rO (Nat.le_refl _) (fun w5 r5 k5 s5=>?_)
  have rO5:Row w5 bO 31 [.slice (some ⟨gJ,0,none⟩) _ capJ]:=r5
  have rF5:=k5.row rF (fun e=>hne (Option.some.inj e).symm)
  have o5:=oJ.kept k5 (Or.inr (fun e=>by have:gJ=bO:=Option.some.inj e;omega))
  have x5:Ext w0 w5:=k5.ext xJ (fun bb e=>by cases e;exact h1)
  have hI5:CI w0 bM bO bF B2 w5 (acc++A0z d F (KS.take i)++[c.id]) _:=⟨x5,by omega,rF5,rO5,by simpa [Nat.add_assoc] using o5⟩
  have cI:=ih c.id c kc (acc++A0z d F (KS.take i)++[c.id]) _ w5 (D7l (D1b h) hcm) hkc (by omega) (by simp only [List.length_append,List.length_cons,List.length_nil];omega) hI5
  (repeat' (first|refine eV Z Z (B5 Z Z Z (rF5.cellAt rfl)) ?_|(refine D7 Z Z (A1z (cap:=[.pointer (some ⟨bM,0,none⟩),.pointer (some ⟨bO,0,none⟩),.pointer (some ⟨bF,0,none⟩)]) Z Z Z G0t) cI (fun vC wC hC=>?_);obtain⟨v',J'⟩:=hC)|refine Sy ?_|fail))
  refine A2q (i+1,v') ⟨rfl,rfl,rfl,rfl,rfl,rfl,trivial⟩ ⟨by dsimp only;omega,?_⟩ (by dsimp only;omega)
  dsimp only
  rw [hsn]
  simpa using J'
 ·obtain rfl:i=KS.length:=by omega
  rw [List.take_length] at J
  (repeat' (first|refine Sy ?_|refine Dy (fun hh=>?_) fun hh=>?_))
  all_goals (first|(exfalso;omega)|skip)
  exact B1v (G5j Z ⟨_,J⟩)
end
section
open Go.RowKit Go.En Go.Dl Go.Tp
attribute [local irreducible] X XL XW XG XK Val LS Fp Fo Calls bodyPost Code.wp
abbrev covQ (s:Spn)(x:Spn):Bool:=decide (x.frm≤s.frm)&&decide (s.til≤x.til)
theorem c139 (x s:Spn):Fo Tryz.prog 139 [.g ((spnC x).map .d),.p 1000 0 0] [(1000,.box 82 ((spnC s).map .d))] (.d (dB (covQ s x))) [(1000,.box 82 ((spnC s).map .d))]:=by
 refine fo_X (n:=16) Tryz.func139 rfl Tryz.ntmps139 rfl fun c hM=>?_
 (repeat' (first|refine Wz ?_|apply Wd <;>intro hh))
 all_goals (try exact oMw)
 ·rw [show covQ s x=true by simp [covQ, *]];exact A9 hM Z Z Z ⟨rfl,trivial⟩ Z Z
 all_goals (rw [show covQ s x=false by simp [covQ];omega];exact A9 hM Z Z Z ⟨rfl,trivial⟩ Z Z)
theorem c205 (l:List Spn)(s:Spn):Fo Tryz.prog 205 [.d (spnD l),.f (.func 139) [.p 1000 0 0] ] [(1000,.box 82 ((spnC s).map .d))] (.d (dI (ixF (covQ s) l 0))) [(1000,.box 82 ((spnC s).map .d))]:=by
 refine fo_X (n:=19) Tryz.func205 rfl Tryz.ntmps205 rfl fun c hM=>?_
 (repeat' (first|refine Wz ?_|refine Wb fun hb=>?_))
 refine X_lp (ι:=Nat) 524080 [] (fun i=>[(8,.d (dI i))]) (fun _=>[]) (fun i=>i≤l.length∧ixF (covQ s) l 0=ixF (covQ s) (l.drop i) i) (fun i=>l.length-i) (0) ?_ ?_
 ·exact⟨zLw,rfl⟩
 rintro i ⟨hi,hq⟩
 by_cases hlt:i<l.length
 ·obtain⟨n,hn⟩:=gex hlt
  have cl:=c139 n s
  by_cases he:covQ s n=true
  ·rw [he] at cl
   (repeat' (first|refine iDw (gm hn) ?_|refine G_c (J8 [(1000,1000)] (cl) Z Z Z Z Z tRw G1q) Z Z Z ?_|refine Wz ?_|apply Wd <;>intro hh))
   all_goals (try exact oMw)
   rw [hq,drp hn,ixF,if_pos he]
   exact A9 hM Z Z Z ⟨rfl,trivial⟩ Z Z
  ·rw [Bool.not_eq_true] at he
   rw [he] at cl
   (repeat' (first|refine iDw (gm hn) ?_|refine G_c (J8 [(1000,1000)] (cl) Z Z Z Z Z tRw G1q) Z Z Z ?_|refine Wz ?_|apply Wd <;>intro hh))
   all_goals (try exact oMw)
   exact A0 (i+1) ⟨oEw,by rw [hq,drp hn,ixF,if_neg (by simp [he])];rfl⟩ oEw
 ·(repeat' (first|refine Wz ?_|apply Wd <;>intro hh))
  all_goals (try exact oMw)
  rw [hq,List.drop_eq_nil_of_le oEw]
  exact A9 hM Z Z Z ⟨rfl,trivial⟩ Z Z
theorem G4a {α:Type}(p:α→Bool)(l:List α):l.any p=decide (0≤ixF p l 0):=by
 rcases Q5 p l 0 with⟨h1,h2⟩|⟨i,x,h1,h2,h3⟩
 ·rw [show ixF p l 0 = -1 from h1]
  have:l.any p=false:=by
   rw [List.any_eq_false]
   intro x hx hp
   rw [List.find?_eq_none] at h2
   exact h2 x hx hp
  rw [this];rfl
 ·rw [show ixF p l 0=((0+i:Nat):Int) from h1,decide_eq_true oEw]
  rw [List.any_eq_true]
  exact⟨x,List.mem_of_getElem? h2,List.find?_some h3⟩
theorem c137 (l:List Spn)(s:Spn):Fo Tryz.prog 137 [.d (spnD l),.f (.func 139) [.p 1000 0 0] ] [(1000,.box 82 ((spnC s).map .d))] (.d (dB (l.any (covQ s)))) [(1000,.box 82 ((spnC s).map .d))]:=by
 rw [G4a]
 refine fo_X (n:=9) Tryz.func137 rfl Tryz.ntmps137 rfl fun c hM=>?_
 (repeat' (first|refine G_c (B4 [(1000,1000)] (c205 l s) Z Z Z Z tRw D2m) Z Z Z ?_|refine Wz ?_|apply Wd <;>intro hh))
 all_goals (try exact oMw)
 ·rw [decide_eq_true oEw];exact A9 hM Z Z Z ⟨rfl,trivial⟩ Z Z
 ·rw [decide_eq_false oEw];exact A9 hM Z Z Z ⟨rfl,trivial⟩ Z Z
theorem q37S {p:Prop}(h:p:=by first|(simp [one1, *,dB,dI,dS,List.anyB,List.allB];done)|(simp_all [one1,dB,dI,dS,List.anyB,List.allB];done)|(simp_all [one1,dB,dI,dS,List.anyB,List.allB];omega)):p:=h
theorem c208 (x:Spn):Fp Tryz.prog 208 [.g (spnC x)] (dB (!A5 x)):=by
 obtain⟨b,hb⟩:∃ b,A5 x=b:=⟨_,rfl⟩;have cb:=c56 x;rw [hb] at cb
 refine fXw Tryz.func208 Tryz.ntmps208 fun c hM=>?_
 (repeat' (first|refine cDw en56 cb ?_|refine Wz ?_|fail))
 all_goals (try exact oMw)
 all_goals (refine rEw hM ?_;exact q37S)
theorem c245 (a:Int):Fp Tryz.prog 245 [dI a] (dB false):=by
 refine fXw Tryz.func245 Tryz.ntmps245 fun c hM=>?_
 (repeat' (first|refine Wz ?_|apply Wd <;>intro hh))
 all_goals (try exact oMw)
 all_goals (refine rEw hM ?_;exact q37S)
theorem c197 (a b:Int):Fp Tryz.prog 197 [dI a,dI b] (dI (cmpI a b)):=by
 unfold cmpI
 refine fXw Tryz.func197 Tryz.ntmps197 fun c hM=>?_
 (repeat' (first|refine G_x (A3 Z Z Z G0s (c245 a) (.eq rfl)) Z Z ?_|refine G_x (A3 Z Z Z G0s (c245 b) (.eq rfl)) Z Z ?_|refine Wz ?_|apply Wd <;>intro hh))
 all_goals (try exact oMw)
 all_goals (refine rEw hM ?_;exact q37S)
theorem c210 (x y:Spn):Fp Tryz.prog 210 [.g (spnC x),.g (spnC y)] (dI (cmpI x.frm y.frm)):=by
 refine fXw Tryz.func210 Tryz.ntmps210 fun c hM=>?_
 (repeat' (first|refine cDw A6o (c197 x.frm y.frm) ?_|refine Wz ?_|fail))
 all_goals (try exact oMw)
 exact rXw hM
def cOr:List Int→Int
 | []=>0
 | x::r=>if x≠0 then x else cOr r
theorem q38S {p:Prop}(h:p:=by first|(simp [one1, *,dB,dI,dS,List.anyB,List.allB,cOr];done)|(simp_all [one1,dB,dI,dS,List.anyB,List.allB,cOr];done)|(simp_all [one1,dB,dI,dS,List.anyB,List.allB,cOr];omega)):p:=h
theorem c123 (l:List Int):Fp Tryz.prog 123 [ints l] (dI (cOr l)):=by
 refine fXw Tryz.func123 Tryz.ntmps123 fun c hM=>?_
 (repeat' (first|refine Wz ?_|refine Wb fun hb=>?_))
 refine X_lp (ι:=Nat) 130852 [] (fun i=>[(8,.d (dI i))]) (fun _=>[]) (fun i=>i≤(l).length∧(fun _ q=>cOr q) 0 (l)=(fun _ q=>cOr q) i ((l).drop i)) (fun i=>(l).length-i) (0) ?_ ?_
 ·exact⟨zLw,rfl⟩
 rintro i ⟨hi,hq⟩
 by_cases hlt:i<(l).length
 rotate_left
 ·have hz:i=(l).length:=oEw
  subst hz
  rw [List.drop_eq_nil_of_le (Nat.le_refl _)] at hq
  try dsimp only at hq
  ((repeat' (first|refine Wz ?_|apply Wd <;>intro hh)) <;> first|(exfalso;omega)|(all_goals (refine rEw hM ?_;(try rw [hq]);exact q38S)))
 obtain⟨n,hn⟩:=gex hlt
 obtain⟨pv,hp⟩:=gex (l:=l) (i:=i-1) oEw
 have hpr:=B6 hp
 have hmem:=List.mem_of_getElem? hn
 rw [drp hn] at hq
 try dsimp only at hq
 all_goals (repeat' (first|refine iDw (gm hn) ?_|refine Wz ?_|apply Wd <;>intro hh))
 all_goals (try exact oMw)
 all_goals first
  | exact A0 (i+1) ⟨oEw,by(try dsimp only);rw [hq];exact q38S⟩ oEw
  | (refine rEw hM ?_;(try rw [hq]);exact q38S)
theorem c201 (x y : Note) : Fp Tryz.prog 201 [.g (C4 x), .g (C4 y)] (dI (ordF x y)) := by
 have h:ordF x y=cOr [cmpI x.parent y.parent,cmpI x.frm y.frm,cmpI x.rank y.rank]:=by
  unfold ordF
  simp only [cOr]
  split
  ·rfl
  ·split
   ·rfl
   ·split
    ·rfl
    ·simp_all
 rw [h]
 refine fXw Tryz.func201 Tryz.ntmps201 fun c hM=>?_
 (repeat' (first|refine G_x (A3 Z Z Z A6o (c197 x.parent y.parent) (.eq rfl)) Z Z ?_|refine G_x (A3 Z Z Z A6o (c197 x.frm y.frm) (.eq rfl)) Z Z ?_|refine G_x (A3 Z Z Z A6o (c197 x.rank y.rank) (.eq rfl)) Z Z ?_|refine cDw G1v (c123 [cmpI x.parent y.parent,cmpI x.frm y.frm,cmpI x.rank y.rank]) ?_|refine Wz ?_|fail))
 all_goals (try exact oMw)
 exact rXw hM
theorem c202 (k:Int):Fp Tryz.prog 202 [dI k] (dB (J6 k)):=by
 unfold J6
 refine fXw Tryz.func202 Tryz.ntmps202 fun c hM=>?_
 (repeat' (first|refine Wz ?_|apply Wd <;>intro hh))
 all_goals (try exact oMw)
 all_goals (refine rEw hM ?_;(first|(simp [one1, *,dB,dI,dS,List.anyB,List.allB];done)|(simp_all [one1,dB,dI,dS,List.anyB,List.allB];done)|(simp_all [one1,dB,dI,dS,List.anyB,List.allB];omega)))
theorem c134 (l:List Tier)(i:Int):Fp Tryz.prog 134 [.s 4 (l.map A0g),dI i] (dB (alB l i)):=by
 unfold alB
 by_cases hi:0≤i∧i<(l.length:Int)
 ·obtain⟨n,hn⟩:=gex (l:=l) (i:=i.toNat) oEw
  rw [show tAt l i=n by unfold tAt;rw [hn];rfl]
  obtain⟨k,rfl⟩:∃ k:Nat,i=(k:Int):=⟨i.toNat,oEw⟩
  rw [Int.toNat_natCast] at hn
  rw [decide_eq_true hi.1,decide_eq_true hi.2]
  refine fXw Tryz.func134 Tryz.ntmps134 fun c hM=>?_
  (repeat' (first|refine iDw (gm hn) ?_|refine cDw G9m (c202 n.kind) ?_|refine Wz ?_|refine Wb fun hb=>?_|apply Wd <;>intro hh))
  all_goals (try exact oMw)
  refine rEw hM ?_
  simp [one1,dB]
 ·rw [show(decide (0≤i)&&(decide (i<(l.length:Int))&&J6 (tAt l i).kind))=false by simp;omega]
  refine fXw Tryz.func134 Tryz.ntmps134 fun c hM=>?_
  (repeat' (first|refine Wz ?_|refine Wb fun hb=>?_|apply Wd <;>intro hh))
  all_goals (try exact oMw)
  all_goals (refine rEw hM ?_;(first|(simp [one1, *,dB,dI,dS,List.anyB,List.allB];done)|(simp_all [one1,dB,dI,dS,List.anyB,List.allB];done)|(simp_all [one1,dB,dI,dS,List.anyB,List.allB];omega)))
def pkD:Option (List Prt)→Dt
 | none=>.t [.g [.v (.slice none 0 0)],dB false]
 | some q=>.t [.g [.s 3 (q.map prtC)],dB true]
theorem C1a (d:Dcn)(q:List Dcn)(r:Rf):A2l (d::q) r=if (decide (d.ref.rcd=r.rcd)&&(decide (d.ref.note=r.note)&&d.yes))=true then some d.pick else A2l q r:=by
 unfold A2l
 rw [List.find?_cons]
 split <;> simp [*]
theorem c114 (l:List Dcn)(r:Rf):Fp Tryz.prog 114 [dcns l,.g [dI r.rcd,dI r.note]] (pkD (A2l l r)):=by
 refine fXw Tryz.func114 Tryz.ntmps114 fun c hM=>?_
 (repeat' (first|refine Wz ?_|refine Wb fun hb=>?_))
 all_goals (try exact oMw)
 refine X_lp (ι:=Nat) 33553568 [] (fun i=>[(10,.d (dI i))]) (fun _=>[]) (fun i=>i≤(l).length∧(fun _ q=>pkD (A2l q r)) 0 (l)=(fun _ q=>pkD (A2l q r)) i ((l).drop i)) (fun i=>(l).length-i) (0) ?_ ?_
 ·exact⟨zLw,rfl⟩
 rintro i ⟨hi,hq⟩
 by_cases hlt:i<(l).length
 rotate_left
 ·have hz:i=(l).length:=oEw
  subst hz
  rw [List.drop_eq_nil_of_le (Nat.le_refl _)] at hq
  try dsimp only at hq
  ((repeat' (first|refine Wz ?_|apply Wd <;>intro hh));all_goals (first|(exfalso;omega)|(refine rEw hM ?_;rw [hq];rfl)))
 obtain⟨n,hn⟩:=gex hlt
 obtain⟨pv,hp⟩:=gex (l:=l) (i:=i-1) oEw
 have hpr:=B6 hp
 have hmem:=List.mem_of_getElem? hn
 rw [drp hn] at hq
 try dsimp only at hq
 rw [C1a] at hq
 rw [← Bool.and_assoc] at hq
 obtain⟨z,hz⟩:∃ z,(decide (n.ref.rcd=r.rcd)&&decide (n.ref.note=r.note))=z:=⟨_,rfl⟩
 obtain⟨y,hy⟩:∃ y,n.yes=y:=⟨_,rfl⟩
 rw [hz,hy] at hq
 have hyv:(dcnC n)[2]?=some (dB y):=by rw [← hy];rfl
 cases z <;> cases y
 all_goals (
  (repeat' (first|refine iDw (gm hn) ?_|refine G_x (Z7 C8b Z Z Z hz) Z Z ?_|refine Wz ?_|refine Wd (fun hh=>?_) fun hh=>?_|(refine Wc (fun hg=>?_) (fun hg=>?_) <;>(first|subst hg|(simp at hg;subst hg)|skip))))
  all_goals (try exact oMw)
  all_goals (first|exact absurd ‹n.yes=true› (by rw [hy];decide)|exact absurd ‹¬ n.yes=true› (by rw [hy];decide)|exact absurd ‹n.yes=false› (by rw [hy];decide)|exact A0 (i+1) ⟨oEw,hq⟩ oEw|(refine rEw hM ?_;rw [hq];rfl)))
def C4j (d:Doc):Option Note→Dt
 | none=>.t [.g (C4 L9),dB false]
 | some n=>.t [.g (C4 n),dB (decide (n.tier=H9 d.tiers 2))]
theorem n119 (d:Doc)(id:Int):Fp Tryz.prog 119 [.g (docC d),dI id] (fRes C4 L9 (getN d.notes id)):=c119 d id
theorem c187 (d:Doc)(id:Int):Fp Tryz.prog 187 [.g (docC d),dI id] (C4j d (getN d.notes id)):=by
 obtain⟨e,he⟩:∃ b,getN d.notes id=b:=⟨_,rfl⟩;have ce:=n119 d id;rw [he] at ce;cases e
 ·refine fXw Tryz.func187 Tryz.ntmps187 fun c hM=>?_
  (repeat' (first|refine cDw M7 ce ?_|refine Wz ?_|fail))
  all_goals (try exact oMw)
  all_goals (refine rEw hM ?_;rw [he];rfl)
 ·refine fXw Tryz.func187 Tryz.ntmps187 fun c hM=>?_
  (repeat' (first|refine cDw M7 ce ?_|refine cDw C4s (c188 d) ?_|refine Wz ?_|apply Wd <;>intro hh))
  all_goals (try exact oMw)
  all_goals (refine rEw hM ?_;simp [C4j,one1,C4,dB, *])
end
end Go.Proofs.YtojadfppncgphaaGreatDoor