/-
  Own text of the proof.
-/
import Derived.Test.YtjicdgejhkgpgaaGreatDoorYb
import Derived.OwnWalk
import Derived.Test.YtjicdgejhkgpgaaGreatDoorYe
import Derived.Test.YtjicdgejhkgpgaaGreatDoorYf
import Derived.Test.YtjicdgejhkgpgaaGreatDoorYg
set_option linter.all false
namespace Go.En
open Go.RowKit
section
variable {P : Program} {n : Nat} {ops rest : List Oper} {Q : Post} {L : List (Nat × Value)} {w : World} {o o2 : Oper}
theorem Ao {d:Nat} {t:TypeId} {x:Operand} {cs:List Value} (hg:gst ops L o=some true) (ho:o.op=.box t x) (hx:ev L x=some (.agg cs.toArray)) (hd:odst n o.dst=some d)
    (k:∀ b w',Ext w w'→b=w.heap.size→Row w' b t cs→EL P n ops Q rest ((d,(.pointer (some ⟨b,0,none⟩)))::L) w'):EL P n ops Q (o::rest) L w:=
  Aj hg ho hx hd (fun b w' x e r=>k b w' x e (by simpa [Value.cells] using r))
theorem Am {d:Nat} {t:TypeId} {y:Operand} {cs:List Value} {z:Value} {size bytes:Nat} [TI P t z size bytes] (hg:gst ops L o=some true) (ho:o.op=.alloc t) (hd:odst n o.dst=some d) (hz:Nat.beq z.cells.toList.length cs.length=true)
    (ho2:o2.op=.store t (.tmp d) y) (hd2:o2.dst=none) (hg2:gst ops ((d,(.pointer (some ⟨w.heap.size,0,none⟩)))::L) o2=some true) (hy:ev ((d,(.pointer (some ⟨w.heap.size,0,none⟩)))::L) y=some (.agg cs.toArray)) (hs:Nat.beq cs.length size=true) (h1:cs.all Value.oneCell'=true)
    (k:∀ b w',Ext w w'→b=w.heap.size→Row w' b t cs→EL P n ops Q rest ((d,(.pointer (some ⟨b,0,none⟩)))::L) w'):EL P n ops Q (o::o2::rest) L w:=
  Ap hg ho hd fun b w1 x1 hb r1=>by
    subst hb
    refine Ah (off:=0) (cs:=cs) r1 x1 (Nat.le_refl _) hg2 hd2 ho2 (by simp [ev,lk]) hy (by simp [Value.cells]) hs h1 (by have:=Nat.eq_of_beq_eq_true hz;omega) (fun w2 r2 x2 _=>?_)
    refine k _ w2 x2 rfl ?_
    have e:z.cells.toList.length=cs.length:=Nat.eq_of_beq_eq_true hz
    have:z.cells.toList.take 0++cs++z.cells.toList.drop (0+cs.length)=cs:=by rw [Nat.zero_add,← e];simp
    rw [this] at r2
    exact r2
end
end Go.En
namespace Go.En
open Go.RowKit
theorem K0 {P:Program} {n:Nat} {ops:List Oper} {Q:Post} {o:Oper} {rest tl:List Oper} {G:List (Nat × Ent)} {w0:World} {α:Type} [Rep α] {d s:Nat} {g:Nat→Prop} {xs:List α} (hg:ggst ops G o=some true) (hd:odst n o.dst=some d) (ho:o.op=.assign (.tmp s)) (hr:gk G s=some (.r (fun u w'=>SlG g w' u xs)))
    (hl:∀ δ,lk (mat δ G) s=some (δ s)) (k:RQ P n ops w0 Q rest tl ((d,.r (fun u w'=>SlG g w' u xs))::G)):RQ P n ops w0 Q (o::rest) tl G:=
  Cm (fun u w'=>SlG g w' u xs) hg hd (fun _ _ _ _ xe h=>SlG.ext h xe) (fun w δ _ hs=>⟨δ s,Cn ho (hl δ),hs s (by rw [ho];simp [Op.operands,isT]) _ hr⟩) k
theorem RQ_valV {P:Program} {n:Nat} {ops:List Oper} {Q:Post} {o:Oper} {rest tl:List Oper} {G:List (Nat × Ent)} {w0:World} {d:Nat} {v:Value} (hg:ggst ops G o=some true) (hd:odst n o.dst=some d)
    (h:∀ w δ,Ext w0 w→SatO o δ G w→Val P (mat δ G) w o v) (k:RQ P n ops w0 Q rest tl ((d,.v v)::G)):RQ P n ops w0 Q (o::rest) tl G:=
  Jg (T:=.v v) hg (Aw hd).2 (fun _ _ _ _ _ h=>h) (fun w δ hw hs ρ ha=>.inl ⟨v,w,h w δ hw hs ρ ha,rfl,Ext.refl w⟩) (by rw [(Aw hd).1];exact k)
theorem M0 {P:Program} {n:Nat} {ops:List Oper} {Q:Post} {o:Oper} {rest tl:List Oper} {G:List (Nat × Ent)} {w0:World} {α:Type} [Rep α] {d s:Nat} {g:Nat→Prop} {xs:List α} {t e:TypeId} [UT P t (.slice e)] (hg:ggst ops G o=some true) (hd:odst n o.dst=some d) (ho:o.op=.call { callee:=.builtin .len,args:=#[.tmp s],argTypes:=#[t] }) (hr:gk G s=some (.r (fun u w'=>SlG g w' u xs)))
    (hl:∀ δ,lk (mat δ G) s=some (δ s)) (k:RQ P n ops w0 Q rest tl ((d,.v (int xs.length))::G)):RQ P n ops w0 Q (o::rest) tl G:=
  RQ_valV hg hd (fun w δ _ hs=>by
    obtain⟨a,c,e1,_,_,_⟩:=(SlG.sl (hs s (by rw [ho];simp [Op.operands,Call.operands,isT]) _ hr))
    exact O8 ho ((hl δ).trans (by rw [e1]))) k
theorem Mw {P:Program} {n:Nat} {L:List (Nat × Value)} {w:World} {fn:Func} {S:Value→World→Prop} {t u s:Tmp} {v x y:Value} (hr:fn.results=#[.tmp t,.tmp u,.tmp s]) (hv:lk L t=some v) (hx:lk L u=some x) (hy:lk L s=some y) (hs:S (.tuple #[v,x,y]) w):K n (bodyPost P fn (Rt S)) .ret L w:=fun a ha=>by
  refine⟨ha.nod,.tuple #[v,x,y],?_,_,rfl,hs⟩
  have h1:=ha.get t v hv
  have h2:=ha.get u x hx
  have h3:=ha.get s y hy
  rw [results_tmp3 hr]
  simp [Array.getD_eq_getD_getElem?,h1,h2,h3]
end Go.En
namespace Go.Proofs.YtjicdgejhkgpgaaGreatDoor
section
open Go.RowKit Go.En
def N2 (r:Int):Int:=if r=1 then 0 else if r=3 then 3 else if r=4∨r=5 then 4 else -1
def P4 (r:Int):Int:=if r=2∨r=5 then 1 else if r=3 then 2 else if r=4 then 3 else -1
theorem span_two:TwoInts Tryz.prog 76 3:=⟨by kernel_rfl,by kernel_rfl,by kernel_rfl,by kernel_rfl,Tryz.underlying3⟩
attribute [local irreducible] E EL K Val Enters Rt Calls bodyPost Code.wp RQ
theorem timed_any (k:Int) (w:World):Calls Tryz.prog 142 #[int k] w (Rt fun u w'=>u=.bool (Bj k)∧Ext w w'):=by
  refine A7 (n:=13) (args:=[int k]) Tryz.func142 rfl Tryz.ntmps142 (by simp) ?_
  (repeat' (first|refine Sy ?_|refine Dy (fun hh=>?_) fun hh=>?_))
  all_goals (first|(exfalso;omega)|skip)
  all_goals exact A5 Z Z ⟨by simp [Bj, *],Ext.refl _⟩
theorem Ne (k:Int) (w:World):Calls Tryz.prog 174 #[int k] w (Rt fun u w'=>u=.bool (Bj k)∧Ext w w'):=by
  refine A7 (n:=13) (args:=[int k]) Tryz.func174 rfl Tryz.ntmps174 (by simp) ?_
  (repeat' (first|refine Sy ?_|refine Dy (fun hh=>?_) fun hh=>?_))
  all_goals (first|(exfalso;omega)|skip)
  all_goals exact A5 Z Z ⟨by simp [Bj, *],Ext.refl _⟩
theorem kind_any (k:Int) (w:World):Calls Tryz.prog 202 #[int k] w (Rt fun u w'=>u=int (N2 k)∧Ext w w'):=by
  refine A7 (n:=11) (args:=[int k]) Tryz.func202 rfl Tryz.ntmps202 (by simp) ?_
  (repeat' (first|refine Sy ?_|refine Dy (fun hh=>?_) fun hh=>?_))
  all_goals (first|(exfalso;omega)|skip)
  all_goals exact A5 Z Z ⟨by simp [N2, *],Ext.refl _⟩
theorem over_any (k:Int) (w:World):Calls Tryz.prog 203 #[int k] w (Rt fun u w'=>u=int (P4 k)∧Ext w w'):=by
  refine A7 (n:=11) (args:=[int k]) Tryz.func203 rfl Tryz.ntmps203 (by simp) ?_
  (repeat' (first|refine Sy ?_|refine Dy (fun hh=>?_) fun hh=>?_))
  all_goals (first|(exfalso;omega)|skip)
  all_goals exact A5 Z Z ⟨by simp [P4, *],Ext.refl _⟩
theorem Ot (a b:Int) (w:World):Calls Tryz.prog 204 #[.agg #[int a,int b]] w (Rt fun u w'=>u=.bool (M9 a b)∧Ext w w'):=by
  refine A7 (n:=18) (args:=[.agg #[int a,int b]]) Tryz.func204 rfl Tryz.ntmps204 (by simp) ?_
  refine Ac ?_
  refine A8 ?_
  refine Aj Z Z Z Z (fun bB wB xB hbB rB=>?_)
  (repeat' (first|refine eV Z Z (A6 Z Z Z (rB.cellAt rfl)) ?_|refine Sy ?_|refine Dy (fun hh=>?_) fun hh=>?_))
  all_goals (first|(exfalso;omega)|skip)
  all_goals exact A5 Z Z ⟨by unfold M9;congr 1;simp;omega,xB⟩
theorem rname_any (s:List UInt8) (w:World) (hl:s.length≤9223372036854775807):Calls Tryz.prog 147 #[str s] w (Rt fun u w'=>(∃ b,u=.bool b)∧Ext w w'):=by
  refine A7 (n:=59) (args:=[str s]) Tryz.func147 rfl Tryz.ntmps147 (by simp) ?_
  (repeat' (first|refine Sy ?_))
  refine Ae (ι:=Nat) (fun i=>[(0,str s),(3,int i)]) (fun i wr=>i≤s.length∧Ext w wr) (fun i=>s.length-i) 0
    ⟨rfl,rfl,trivial⟩ ⟨Nat.zero_le _,Ext.refl _⟩ ?_
  rintro i wr ⟨hi,hx⟩
  by_cases hlt:i<s.length
  · obtain⟨c,hc⟩:∃ c,s[i]?=some c:=⟨_,List.getElem?_eq_getElem hlt⟩
    (repeat' (first|refine eV Z Z (C2 (m:=i) Z Z Z Z hc) ?_|refine Sy ?_|refine Dy (fun hh=>?_) fun hh=>?_))
    all_goals (first|(exfalso;omega)|skip)
    all_goals (first|exact Ad (i+1) ⟨rfl,rfl,trivial⟩ ⟨by omega,hx⟩ (by omega)|exact A5 Z Z ⟨⟨_,rfl⟩,hx⟩)
  · (repeat' (first|refine Sy ?_|refine Dy (fun hh=>?_) fun hh=>?_))
    all_goals (first|(exfalso;omega)|skip)
    all_goals exact A5 Z Z ⟨⟨_,rfl⟩,hx⟩
end
section
open Go.RowKit Go.En
attribute [local irreducible] E EL K Val Enters Rt Calls bodyPost Code.wp RQ
theorem text_any (s : List UInt8) (w : World) : Calls Tryz.prog 97 #[str s] w (Rt fun u w' => (∃ e : Int, u = int e ∧ (e = 0 → TextOK s)) ∧ Ext w w') := by
  refine A7 (n:=34) (args:=[str s]) Tryz.func97 rfl Tryz.ntmps97 (by simp) ?_
  by_cases h200:s.length≤200
  · have hf:=Mx s (by omega) w
    cases hp:points s with
    | none=>
      rw [hp] at hf
      (repeat' (first|(refine A9 Z Z (A3 Z Z en130) hf (fun vC wC hC=>?_);obtain⟨xC,hv⟩:=hC;obtain rfl:=hv)|refine Sy ?_|refine Dy (fun hh=>?_) fun hh=>?_))
      all_goals (first|(exfalso;omega)|skip)
      exact A5 Z Z ⟨⟨_,rfl,fun h=>by omega⟩,xC⟩
    | some zs=>
      rw [hp] at hf
      (repeat' ((fail_if_success (refine Ac (x:=(Code.region 6 _ _)) ?_));first|(refine A9 Z Z (A3 Z Z en130) hf (fun vC wC hC=>?_);obtain⟨xC,v,hv,hown⟩:=hC;obtain rfl:=hv)|refine Sy ?_|refine Dy (fun hh=>?_) fun hh=>?_))
      all_goals (first|(exfalso;omega)|skip)
      obtain⟨a,cap,rfl,hc,hat⟩:=own_sl hown
      have hzl:=(Gc _ s zs (Nat.le_refl _) hp).1
      (repeat' (first|refine Sy ?_))
      refine Ae (ι:=Nat) (fun i=>[(3,.slice a zs.length cap),(5,int i)]) (fun i wr=>i≤zs.length∧Ext wC wr∧∀ j,j<i→∀ z,zs[j]?=some z→32≤z∧z≠127) (fun i=>zs.length-i) 0
        ⟨rfl,rfl,trivial⟩ ⟨Nat.zero_le _,Ext.refl _,fun j hj=>by omega⟩ ?_
      rintro i wr ⟨hi,hx,hall⟩
      by_cases hlt:i<zs.length
      · obtain⟨b,off,rfl,hat2⟩:=hat (by omega)
        obtain⟨z,hz⟩:∃ z,zs[i]?=some z:=⟨_,List.getElem?_eq_getElem hlt⟩
        have hcell:=(hat2.ext hx).ith hz
        (repeat' (first|refine eV Z Z (A0 (m:=i) Z Z Z Z (by omega)) ?_|refine eV Z Z (A6 Z Z Z hcell) ?_|refine Sy ?_|refine Dy (fun hh=>?_) fun hh=>?_))
        all_goals (first|(exfalso;omega)|skip)
        all_goals (first|exact A5 Z Z ⟨⟨_,rfl,fun h=>by omega⟩,xC.trans hx⟩|skip)
        refine Ad (i+1) ⟨rfl,rfl,trivial⟩ ⟨by omega,hx,fun j hj z' hz'=>?_⟩ (by omega)
        by_cases hj2:j<i
        · exact hall j hj2 z' hz'
        · obtain rfl:j=i:=by omega
          rw [hz] at hz';cases hz';omega
      · (repeat' (first|refine Sy ?_|refine Dy (fun hh=>?_) fun hh=>?_))
        all_goals (first|(exfalso;omega)|skip)
        refine A5 Z Z ⟨⟨_,rfl,fun _=>⟨h200,zs,hp,fun z hz=>?_⟩⟩,xC.trans hx⟩
        obtain⟨j,hj⟩:=List.getElem?_of_mem hz
        exact hall j (by have:=(List.getElem?_eq_some_iff.1 hj).1;omega) z hj
  · (repeat' (first|refine Sy ?_|refine Dy (fun hh=>?_) fun hh=>?_))
    all_goals (first|(exfalso;omega)|skip)
    exact A5 Z Z ⟨⟨_,rfl,fun h=>by omega⟩,Ext.refl _⟩
theorem get_any (d : Dc) (v : Value) (id : Int) (w : World) (hv : DcAt w v d) : Calls Tryz.prog 52 #[v, int id] w (Rt fun u w' => u = getR d.notes id ∧ Ext w w') := by
  obtain⟨sv,tv,nv,rfl,_,_,hn⟩:=hv
  refine A7 (n:=28) (args:=[.agg #[int d.rid,str d.rname,int d.len,int d.day,sv,tv,nv],int id]) Tryz.func52 rfl Tryz.ntmps52 (by simp) ?_
  have hn0:=hn
  obtain⟨a,cap,rfl,hc,hm,hp⟩:=hn.sl
  refine Ac ?_
  refine A8 ?_
  refine Aj Z Z Z Z (fun bB wB xB hbB rB0=>?_)
  refine Ap Z Z Z (fun bA wA xA hbA rA0=>?_)
  have rB:=rB0.ext xA
  have x0:=xB.trans xA
  have hwB:w.heap.size≤bA:=by have:=xB.size;omega
  (repeat' (first|refine Sy ?_))
  refine Ae (ι:=Nat) (fun i=>[(1,int id),(2,.pointer (some ⟨bB,0,none⟩)),(4,.pointer (some ⟨bA,0,none⟩)),(6,int i)])
    (fun i wr=>i≤d.notes.length∧Ext wA wr∧∀ j,j<i→∀ q,d.notes[j]?=some q→decide (q.id=id)=false) (fun i=>d.notes.length-i) 0
    ⟨rfl,rfl,rfl,rfl,trivial⟩ ⟨Nat.zero_le _,Ext.refl _,fun j hj=>by omega⟩ ?_
  rintro i wr ⟨hi,hx,hall⟩
  have rBr:=rB.ext hx
  by_cases hlt:i<d.notes.length
  · obtain⟨b,off,rfl⟩:=hp (by omega)
    obtain⟨q,hq⟩:∃ q,d.notes[i]?=some q:=⟨_,List.getElem?_eq_getElem hlt⟩
    have hat:=Ch (hn0.ext (x0.trans hx)) hq
    (repeat' (first|refine eV Z Z (A6 Z Z Z (rBr.cellAt rfl)) ?_|refine eV Z Z (A0 (m:=i) Z Z Z Z hlt) ?_|refine eV Z Z (A6 Z Z Z (hat.cellAt (j:=0) Z)) ?_|refine eV Z Z (Ab Z Z Z hat rfl) ?_|refine Sy ?_|refine Dy (fun hh=>?_) fun hh=>?_))
    all_goals (first|(exfalso;omega)|skip)
    · refine Ah (cs:=Be q) (rA0.ext hx) (x0.trans hx) hwB rfl rfl rfl rfl rfl rfl rfl rfl (Nat.le_refl _) (fun w9 r9 x9 k9=>?_)
      (repeat' (first|refine Sy ?_))
      refine Co Z Z Z r9.at rfl rfl ⟨?_,x9⟩
      unfold getR getF
      rw [Mg hall hq (by simpa using ‹q.id=id›)]
      rfl
    · refine Ad (i+1) ⟨rfl,rfl,rfl,rfl,trivial⟩ ⟨by omega,hx,fun j hj q' hq'=>?_⟩ (by omega)
      by_cases hj2:j<i
      · exact hall j hj2 q' hq'
      · obtain rfl:j=i:=by omega
        rw [hq] at hq';cases hq'
        exact decide_eq_false ‹_›
  · (repeat' (first|refine eV Z Z (A6 Z Z Z (rBr.cellAt rfl)) ?_|refine eV Z Z (Af (vs:=[]) (Be K1) Z Z Z) ?_|refine Sy ?_|refine Dy (fun hh=>?_) fun hh=>?_))
    all_goals (first|(exfalso;omega)|skip)
    refine Ah (cs:=Be K1) (rA0.ext hx) (x0.trans hx) hwB rfl rfl rfl rfl rfl rfl rfl rfl (Nat.le_refl _) (fun w9 r9 x9 k9=>?_)
    (repeat' (first|refine Sy ?_))
    refine Co Z Z Z r9.at rfl rfl ⟨?_,x9⟩
    unfold getR getF
    rw [List.find?_eq_none.2 fun q hq=>?_]
    · rfl
    · obtain⟨j,hj⟩:=List.getElem?_of_mem hq
      have:=(List.getElem?_eq_some_iff.1 hj).1
      simpa using hall j (by omega) q hj
end
section
open Go.RowKit Go.En
theorem int_elem {G:Nat→Prop} {w:World} {b off n cap:Nat} {xs:List Int} (h:SlG G w (.slice (some ⟨b,off,none⟩) n cap) xs) {i:Nat} {x:Int} (hx:xs[i]?=some x):w.cell? ⟨b,off+i*1,none⟩=some (int x):=by
  obtain⟨cs,h1,h2⟩:=h.elem hx
  rw [show cs=[int x] from h1] at h2
  exact h2.one
attribute [local irreducible] E EL K Val Enters Rt Calls bodyPost Code.wp RQ
theorem aligned56_any (k:Int) (w:World):Calls Tryz.prog 106 #[int k] w (Rt fun u w'=>u=.bool (Bj k)∧Ext w w'):=by
  refine A7 (n:=10) (args:=[int k]) Tryz.func106 rfl Tryz.ntmps106 (by simp) ?_
  (repeat' (first|refine Sy ?_|refine Dy (fun hh=>?_) fun hh=>?_))
  all_goals (first|(exfalso;omega)|skip)
  all_goals exact A5 Z Z ⟨by simp [Bj, *],Ext.refl _⟩
theorem ttAligned_any (d : Dc) (tv : Value) (k : Int) (w : World) (ht : Sl w tv d.tiers) : Calls Tryz.prog 68 #[tv, int k] w (Rt fun u w' => u = .bool (Br d k) ∧ Ext w w') := by
  refine A7 (n:=21) (args:=[tv,int k]) Tryz.func68 rfl Tryz.ntmps68 (by simp) ?_
  have ht0:=ht
  obtain⟨a,cap,rfl,hc,hm,hp⟩:=ht.sl
  by_cases hk:0≤k∧k<d.tiers.length
  · obtain⟨j,rfl⟩:∃ j:Nat,k=(j:Int):=⟨k.toNat,by omega⟩
    obtain⟨b,off,rfl⟩:=hp (by omega)
    obtain⟨t,htt⟩:∃ t,d.tiers[j]?=some t:=⟨_,List.getElem?_eq_getElem (by omega)⟩
    have hat:=Cg ht0 htt
    rw [Ic htt]
    have ca:=aligned56_any t.kind
    (repeat' (first|refine eV Z Z (A0 (m:=j) Z Z Z Z (by omega)) ?_|refine eV Z Z (A6 Z Z Z (hat.cellAt (j:=1) Z)) ?_|(refine cqC (ca _) en106 fun wC xC=>?_)|refine Sy ?_|refine Dy (fun hh=>?_) fun hh=>?_))
    all_goals (first|(exfalso;omega)|skip)
    exact A5 Z Z ⟨rfl,xC⟩
  · have hf:Br d k=false:=by
      unfold Br
      split
      · rename_i t h
        have:=(List.getElem?_eq_some_iff.1 h).1
        rw [decide_eq_false (by omega),Bool.false_and]
      · rfl
    rw [hf]
    (repeat' (first|refine Sy ?_|refine Dy (fun hh=>?_) fun hh=>?_))
    all_goals (first|(exfalso;omega)|skip)
    all_goals exact A5 Z Z ⟨rfl,Ext.refl _⟩
theorem Ij (d : Dc) (v : Value) (id : Int) (w : World) (hv : DcAt w v d) : Calls Tryz.prog 36 #[v, int id] w (Rt fun u w' => u = getR d.notes id ∧ Ext w w') := by
  obtain⟨sv,tv,nv,rfl,_,_,hn⟩:=hv
  refine A7 (n:=22) (args:=[.agg #[int d.rid,str d.rname,int d.len,int d.day,sv,tv,nv],int id]) Tryz.func36 rfl Tryz.ntmps36 (by simp) ?_
  have hn0:=hn
  obtain⟨a,cap,rfl,hc,hm,hp⟩:=hn.sl
  refine Ac ?_
  refine A8 ?_
  refine Aj Z Z Z Z (fun bB wB xB hbB rB0=>?_)
  refine Ap Z Z Z (fun bA wA xA hbA rA0=>?_)
  have rB:=rB0.ext xA
  have x0:=xB.trans xA
  have hwB:w.heap.size≤bA:=by have:=xB.size;omega
  (repeat' (first|refine eV Z Z (A6 Z Z Z (rB.cellAt rfl)) ?_|refine Sy ?_))
  refine Ae (ι:=Nat) (fun i=>[(1,int id),(4,.pointer (some ⟨bA,0,none⟩)),(9,.slice a d.notes.length cap),(10,int d.notes.length),(11,int i)])
    (fun i wr=>i≤d.notes.length∧Ext wA wr∧∀ j,j<i→∀ q,d.notes[j]?=some q→decide (q.id=id)=false) (fun i=>d.notes.length-i) 0
    ⟨rfl,rfl,rfl,rfl,rfl,trivial⟩ ⟨Nat.zero_le _,Ext.refl _,fun j hj=>by omega⟩ ?_
  rintro i wr ⟨hi,hx,hall⟩
  by_cases hlt:i<d.notes.length
  · obtain⟨b,off,rfl⟩:=hp (by omega)
    obtain⟨q,hq⟩:∃ q,d.notes[i]?=some q:=⟨_,List.getElem?_eq_getElem hlt⟩
    have hat:=Ch (hn0.ext (x0.trans hx)) hq
    (repeat' (first|refine eV Z Z (A0 (m:=i) Z Z Z Z hlt) ?_|refine eV Z Z (Ab Z Z Z hat rfl) ?_|refine Sy ?_|refine Dy (fun hh=>?_) fun hh=>?_))
    all_goals (first|(exfalso;omega)|skip)
    refine Ap Z Z Z (fun b7 w7 x7 hb7 r7=>?_)
    refine Ah (cs:=Be q) r7 x7 (by omega) Z Z Z Z Z Z Z Z (Nat.le_refl _) (fun w8 r8' x8 k8=>?_)
    have r8:Row w8 b7 80 (Be q):=r8'
    clear r8'
    (repeat' (first|refine eV Z Z (A6 Z Z Z (r8.cellAt rfl)) ?_|refine eV Z Z (Ab Z Z Z r8.at rfl) ?_|refine Sy ?_|refine Dy (fun hh=>?_) fun hh=>?_))
    · refine Ah (cs:=Be q) (rA0.ext (hx.trans x8)) (x0.trans (hx.trans x8)) hwB rfl rfl rfl rfl rfl rfl rfl rfl (Nat.le_refl _) (fun w9 r9 x9 k9=>?_)
      (repeat' (first|refine Sy ?_))
      refine Co Z Z Z r9.at rfl rfl ⟨?_,x9⟩
      unfold getR getF
      rw [Mg hall hq (by simpa using ‹q.id=id›)]
      rfl
    · exact Ad (i+1) ⟨rfl,rfl,rfl,rfl,rfl,trivial⟩ ⟨by omega,hx.trans x8,fun j hj q' hq'=>by
        by_cases hj2:j<i
        · exact hall j hj2 q' hq'
        · obtain rfl:j=i:=by omega
          rw [hq] at hq';cases hq'
          exact decide_eq_false ‹_›⟩ (by omega)
  · (repeat' (first|refine eV Z Z (Af (vs:=[]) (Be K1) Z Z Z) ?_|refine Sy ?_|refine Dy (fun hh=>?_) fun hh=>?_))
    all_goals (first|(exfalso;omega)|skip)
    refine Ah (cs:=Be K1) (rA0.ext hx) (x0.trans hx) hwB rfl rfl rfl rfl rfl rfl rfl rfl (Nat.le_refl _) (fun w9 r9 x9 k9=>?_)
    (repeat' (first|refine Sy ?_))
    refine Co Z Z Z r9.at rfl rfl ⟨?_,x9⟩
    unfold getR getF
    rw [List.find?_eq_none.2 fun q hq=>?_]
    · rfl
    · obtain⟨j,hj⟩:=List.getElem?_of_mem hq
      have:=(List.getElem?_eq_some_iff.1 hj).1
      simpa using hall j (by omega) q hj
end
section
open Go.RowKit Go.En
attribute [local irreducible] E EL K Val Enters Rt Calls bodyPost Code.wp RQ
end
section
open Go.RowKit Go.En
attribute [local irreducible] E EL K Val Enters Rt Calls bodyPost Code.wp RQ
end
section
open Go.RowKit Go.En
attribute [local irreducible] E EL K Val Enters Rt Calls bodyPost Code.wp RQ
end
section
open Go.RowKit Go.En
def curN (ns:List Note) (id:Int):Note:=(getF ns id).getD K1
theorem getR_cur (ns:List Note) (id:Int):getR ns id=.tuple #[.agg (Be (curN ns id)).toArray,.bool (getF ns id).isSome]:=by
  unfold getR curN
  cases getF ns id <;> rfl
attribute [local irreducible] E EL K Val Enters Rt Calls bodyPost Code.wp RQ
end
section
open Go.RowKit Go.En
attribute [local irreducible] E EL K Val Enters Rt Calls bodyPost Code.wp RQ
end
end Go.Proofs.YtjicdgejhkgpgaaGreatDoor
namespace Go.En
open Go.RowKit
section
variable {P : Program} {n : Nat} {Q : Post} {ops : List Oper}
theorem any_J (J:(Nat→Prop)→Act→World→Prop) (hlow:I9 ops=true) (hgd:∀ o∈ops,o.guard=none)
    (hstep:∀ C C' a w i o,J C a w→Clo ops C→¬ C i→ops[i]?=some o→(∀ e∈o.after,Region.binds .any e=true→C e.on)→(∀ j,C' j↔j=i∨C j)→∀ K Q',(∀ v w',J C' (a.put o.dst v) w'→K (a.put o.dst v) w')→o.wp P a w K Q')
    (hend:∀ C a w,(∀ j,j<ops.length→C j)→J C a w→Q .normal a w) :
    ∀(fuel:Nat) (listed:Array Bool) (a:Act) (w:World),listed.size=ops.length→Clo ops (LsD listed)→J (LsD listed) a w→unl ops.length listed=fuel→wpAny P .any ops.toArray Q fuel listed a w:=by
  have hleast:∀(listed:Array Bool),listed.size=ops.length→(¬ ∀ j,j<ops.length→LsD listed j)→∃ i,i<ops.length∧i∈Region.ready .any ops.toArray listed:=by
    intro listed hl hn
    have:∃ i,i<ops.length∧¬ LsD listed i:=by
      apply Classical.byContradiction
      intro h
      exact hn fun j hj=>Classical.byContradiction fun hj'=>h ⟨j,hj,hj'⟩
    obtain⟨i,h1,h2,h3⟩:=Hl (fun i=>by unfold LsD;infer_instance) ops.length this
    exact⟨i,h1,(Bk hl).2 ⟨h2,_,List.getElem?_eq_getElem h1,fun e he hb=>h3 _ (F6 hlow (List.getElem?_eq_getElem h1) he hb)⟩⟩
  intro fuel
  induction fuel with
  | zero=>
    intro listed a w hl hc hj hu
    have hall:∀ j,j<ops.length→LsD listed j:=by
      intro j hj
      apply Classical.byContradiction
      intro hn
      have:=Gu (N:=ops.length) hj hl hn
      omega
    refine⟨?_,hend _ a w hall hj⟩
    rw [List.eq_nil_iff_forall_not_mem]
    intro i hi
    obtain⟨h1,o,ho,_⟩:=(Bk hl).1 hi
    exact h1 (hall i (List.getElem?_eq_some_iff.1 ho).1)
  | succ fuel ih=>
    intro listed a w hl hc hj hu
    refine⟨fun h0=>?_,fun i hi=>?_⟩
    · refine hend _ a w (Classical.byContradiction fun hn=>?_) hj
      obtain⟨i,_,hi⟩:=hleast listed hl hn
      rw [h0] at hi;cases hi
    obtain⟨hun,o,ho,hed⟩:=(Bk hl).1 hi
    have hilt:=(List.getElem?_eq_some_iff.1 ho).1
    have hoa:ops.toArray[i]?=some o:=by simpa using ho
    have hset:∀ j,LsD (listed.setIfInBounds i true) j↔(j=i∨LsD listed j):=fun j=>by
      unfold LsD
      by_cases hij:i=j
      · subst hij;simp [hl,hilt]
      · rw [getD_set_ne false hij];constructor
        · exact .inr
        · rintro(h|h)
          · exact absurd h.symm hij
          · exact h
    unfold wpOp
    simp only [hoa]
    have hw:Region.wanted o (yielded ops.toArray a.tmps)=true:=by unfold Region.wanted;rw [hgd o (List.mem_of_getElem? ho)]
    rw [if_pos hw]
    refine .inl (hstep _ _ a w i o hj hc hun ho (fun e he hb=>hed e he hb) hset _ _ fun v w' hv=>?_)
    refine ih _ _ _ (by simpa using hl) ?_ hv ?_
    · intro k q hq hk e he hb
      rw [hset] at hk ⊢
      rcases hk with rfl|hk
      · rw [ho] at hq;cases hq;exact .inr (hed e he hb)
      · exact .inr (hc k q hq hk e he hb)
    · have:=Gu (N:=ops.length) hilt hl hun
      omega
theorem ev_of {L:List (Nat × Value)} {a:Act} {x:Operand} {v:Value} (h:∀ s u,x=.tmp s→lk L s=some u→a.tmps[s]?=some u) (hx:ev L x=some v):a.eval x=v:=by
  cases x with
  | tmp t=>simp only [En.ev] at hx;have:=h t v rfl hx;simp [Act.eval,Array.getD_eq_getD_getElem?,this]
  | const u=>simpa [En.ev,Act.eval] using hx
  | global g=>simpa [En.ev,Act.eval] using hx
  | func f=>simpa [En.ev,Act.eval] using hx
theorem lk_get {L:List (Nat × Value)} {s:Nat} {v:Value} (h:lk L s=some v):∃ j:Nat,L[j]?=some (s,v):=by
  induction L with
  | nil=>simp [lk] at h
  | cons x r ih=>
    obtain⟨k,u⟩:=x
    simp only [lk] at h
    cases hb:Nat.beq k s with
    | true=>
      rw [hb] at h;simp at h
      have:=Nat.eq_of_beq_eq_true hb
      subst this;subst h
      exact⟨0,rfl⟩
    | false=>
      rw [hb] at h;simp at h
      obtain⟨j,hj⟩:=ih h
      exact⟨j+1,by simpa using hj⟩
structure JP (n:Nat) (L0 Lr:List (Nat × Value)) (w0:World) (m p q:Nat) (t:TypeId) (Zc X Y:List Value) (C:Nat→Prop) (a:Act) (w:World):Prop where
  size:a.tmps.size=n
  nod:a.defers=[]
  ext:Ext w0 w
  base:∀ s v,lk L0 s=some v→a.tmps[s]?=some v
  reads:∀ j s v,C j→Lr[j]?=some (s,v)→a.tmps[s]?=some v
  hp:C m→∃ b,a.tmps[p]?=some (.pointer (some ⟨b,0,none⟩))∧w0.heap.size≤b∧(C (m+2)→Row w b t X)∧(¬ C (m+2)→Row w b t Zc)
  hq:C (m+1)→∃ b,a.tmps[q]?=some (.pointer (some ⟨b,0,none⟩))∧w0.heap.size≤b∧(C (m+3)→Row w b t Y)∧(¬ C (m+3)→Row w b t Zc)
  ne:C m→C (m+1)→a.tmps[p]?≠a.tmps[q]?
theorem Hw {a:Act} {d:Option Tmp} {v:Value} {s:Nat} (h:d≠some s):(a.put d v).tmps[s]?=a.tmps[s]?:=by
  cases d with
  | none=>rfl
  | some d=>exact Array.getElem?_setIfInBounds_ne (fun e=>h (by rw [e]))
theorem Mb {a:Act} {d:Nat} {v:Value} (h:d<a.tmps.size):(a.put (some d) v).tmps[d]?=some v:=by
  simp only [Act.put];exact Array.getElem?_setIfInBounds_self_of_lt h
theorem Cy {a:Act} {d:Option Tmp} {v:Value}:(a.put d v).tmps.size=a.tmps.size:=by cases d <;> simp [Act.put]
theorem F7 {a:Act} {d:Option Tmp} {v:Value}:(a.put d v).defers=a.defers:=by cases d <;> rfl
theorem Jm {t:TypeId} {z:Value} {size bytes:Nat} [TI P t z size bytes] {o:Oper} (ho:o.op=.alloc t) (ρ:Operand→Value) (w:World):(execOp ρ o).run P w=.ok (.value (.pointer (some ⟨w.heap.size,0,none⟩))) (w.alloc (.cells z.cells t)):=by
  obtain⟨i,hi,hz,_⟩:=G9 (P:=P) (t:=t) w
  simp [execOp,ho,Instr.alloc,newVar,newRow,newObj,zeroValue,go_sem,hi,hz]
  rfl
theorem Kl {t:TypeId} {z:Value} {size bytes:Nat} [TI P t z size bytes] {o:Oper} {x y:Operand} {b:Nat} {cs X:List Value} (ho:o.op=.store t x y) {ρ:Operand→Value} {w:World} (hx:ρ x=.pointer (some ⟨b,0,none⟩)) (hy:ρ y=.agg X.toArray)
    (hX:X.length=size) (h1:X.all Value.oneCell'=true) (hr:Row w b t cs) (hl:cs.length=size):∃ w',(execOp ρ o).run P w=.ok .skip w'∧Row w' b t X∧Kb (some b) w w'∧w'.heap.size=w.heap.size:=by
  have h:=run_storeCells_at (P:=P) b 0 t X 0 cs.toArray w hr (by simp [hX,hl]) (fun u hu=>List.all_eq_true.1 h1 u hu)
  simp only [Nat.add_zero,Nat.zero_add] at h
  have h4:=F1 (P:=P) (t:=t) w
  refine⟨w.setRow b (cs.take 0++X++cs.drop X.length).toArray,?_,?_,⟨rfl,rfl,rfl,by simp,fun k hk hne=>setRow_other w b k _ (fun e=>hne (by rw [e]))⟩,by simp⟩
  · simp only [execOp,ho,hx,hy,Instr.storeAt,Instr.sureAddr,storeVar,Sem.run_bind,Sem.run_pure,Result.andThen_ok,h4,Value.cells]
    rw [if_neg (by simp [hX])]
    simp only [h,Result.andThen_ok]
  · have e:(cs.take 0++X++cs.drop X.length)=X:=by rw [List.take_zero,List.nil_append,List.drop_eq_nil_of_le (by omega),List.append_nil]
    rw [e]
    exact setRow_heap w b cs.toArray X.toArray t (0,0) hr
end
end Go.En
namespace Go.En
open Go.RowKit
section
variable {P : Program} {n : Nat} {Q : Post} {ops : List Oper}
theorem E_dm {id:Nat} {L:List (Nat × Value)} {w:World} (m:Nat) (hm:P.follows .mixedOrders=true) (hc:chk ops m=true) (hdm:domb n L=true) (h:RQ P n ops w Q (ops.take m) (ops.drop m) (vG L)):E P n (.region id ops.toArray true) Q L w:=by
  refine E_dr m hm hc hdm ?_
  unfold RQ at h
  have hml:m≤ops.length:=by
    simp only [chk,Bool.and_eq_true] at hc
    exact Nat.le_of_ble_eq_true hc.1.1.1.1
  rw [List.take_append_drop,List.length_take,Nat.min_eq_left hml] at h
  exact h
theorem RQ_alloc {w0:World} {o:Oper} {rest tl:List Oper} {G:List (Nat × Ent)} {d:Nat} {t:TypeId} {z:Value} {size bytes:Nat} [TI P t z size bytes] (hg:ggst ops G o=some true) (hd:odst n o.dst=some d) (ho:o.op=.alloc t)
    (k:RQ P n ops w0 Q rest tl ((d,.r (fun u w=>∃ b,u=.pointer (some ⟨b,0,none⟩)∧w0.heap.size≤b∧Row w b t z.cells.toList))::G)):RQ P n ops w0 Q (o::rest) tl G:=
  Jg (T:=.r (fun u w=>∃ b,u=.pointer (some ⟨b,0,none⟩)∧w0.heap.size≤b∧Row w b t z.cells.toList)) hg (Aw hd).2 (fun _ _ _ _ xe h=>by obtain⟨b,e,h1,h2⟩:=h;exact⟨b,e,h1,h2.ext xe⟩)
    (fun w _ hw _ ρ _=>.inl ⟨_,_,Jm ho ρ w,⟨w.heap.size,rfl,hw.size,Bv _ _ _⟩,Bc _ _⟩) (by rw [(Aw hd).1];exact k)
end
end Go.En
namespace Go.En
open Go.RowKit
section
variable {P : Program} {n : Nat} {Q : Post} {ops : List Oper}
theorem run_lit {L : List (Nat × Value)} {w : World} {o : Oper} {t e : TypeId} {z : Value} {size bytes len : Nat} {ps : List (Nat × Operand)} {vs cs : List Value} [UT P t (.slice e)] [TI P e z size bytes] (ho : o.op = .buildSlice t len ps.toArray)
    (hps:evs L 0 ps=some vs) (hv:vs.all (fun v=>Nat.beq v.cells.size size)=true) (hl:Nat.beq vs.length len=true) (hsm:Nat.ble (len*size) 16777216=true) (hcs:(vs.map fun v=>v.cells.toList).flatten=cs) {ρ:Operand→Value} (ha:Agree L o ρ) :
    (execOp ρ o).run P w=.ok (.value (.slice (some ⟨w.heap.size,0,none⟩) len len)) (w.alloc (.cells cs.toArray e)):=by
  have hps':=evs_eq L ps 0 vs hps
  have hp:(ps.map fun p=>(p.1,ρ p.2))=(vs.zipIdx).map fun p=>(p.2,p.1):=by
    have hx:∀ p∈ps,∀ v,ev L p.2=some v→ρ p.2=v:=fun p hm v hv=>ha.ev (by rw [ho];simp [Op.operands];exact⟨p.1,hm⟩) hv
    clear ho hps
    generalize 0=j at hps' ⊢
    clear hl hv hcs ha
    induction ps generalizing vs j with
    | nil=>cases vs with|nil=>rfl|cons _ _=>simp at hps'
    | cons p r ih=>
      cases vs with
      | nil=>simp at hps'
      | cons v vr=>
        simp only [List.map_cons,List.zipIdx_cons,List.cons.injEq,Prod.mk.injEq] at hps' ⊢
        exact⟨⟨hps'.1.1,hx p (by simp) v hps'.1.2⟩,ih (fun q hm u hu=>hx q (by simp [hm]) u hu) (j+1) hps'.2⟩
  have:=Im (P:=P) (t:=t) (w:=w) (vs:=vs) (len:=len) (size:=size) (fun v hm=>Nat.eq_of_beq_eq_true (List.all_eq_true.1 hv v hm)) (Nat.eq_of_beq_eq_true hl) (Nat.le_of_ble_eq_true hsm)
  rw [hcs] at this
  simp only [execOp,ho,List.map_toArray,hp]
  rw [Sem.run_bind,this]
  rfl
theorem RQ_lit {w0:World} {o:Oper} {rest tl:List Oper} {G:List (Nat × Ent)} {d:Nat} {t e:TypeId} {z:Value} {size bytes len:Nat} {ps:List (Nat × Operand)} {vs cs:List Value} [UT P t (.slice e)] [TI P e z size bytes] (hg:ggst ops G o=some true) (hd:odst n o.dst=some d) (ho:o.op=.buildSlice t len ps.toArray)
    (hps:∀ δ,evs (mat δ G) 0 ps=some vs) (hv:vs.all (fun v=>Nat.beq v.cells.size size)=true) (hl:Nat.beq vs.length len=true) (hsm:Nat.ble (len*size) 16777216=true) (hcs:(vs.map fun v=>v.cells.toList).flatten=cs)
    (k:RQ P n ops w0 Q rest tl ((d,.r (fun u w=>∃ b,u=.slice (some ⟨b,0,none⟩) len len∧w0.heap.size≤b∧Row w b e cs))::G)):RQ P n ops w0 Q (o::rest) tl G:=
  Jg (T:=.r (fun u w=>∃ b,u=.slice (some ⟨b,0,none⟩) len len∧w0.heap.size≤b∧Row w b e cs)) hg (Aw hd).2 (fun _ _ _ _ xe h=>by obtain⟨b,e,h1,h2⟩:=h;exact⟨b,e,h1,h2.ext xe⟩)
    (fun w δ hw _ ρ ha=>.inl ⟨_,_,run_lit ho (hps δ) hv hl hsm hcs ha,⟨w.heap.size,rfl,hw.size,by have:=Bv w e cs.toArray;exact this⟩,Bc _ _⟩) (by rw [(Aw hd).1];exact k)
end
end Go.En
