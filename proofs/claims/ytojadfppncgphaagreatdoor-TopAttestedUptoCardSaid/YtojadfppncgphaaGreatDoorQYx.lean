/- Own text. -/
import Derived.Test.YtojadfppncgphaaGreatDoorQYw
set_option linter.all false
set_option maxHeartbeats 16000000
set_option maxRecDepth 8000
namespace Go.Proofs.YtojadfppncgphaaGreatDoor
section
open Go.RowKit Go.En Go.Dl Go.Tp
theorem A5l {A C:World}{r:Nat}(h:Ext A C):A.grownBy C (some r):=⟨h.os,h.tape,h.output,h.size,fun k hk _=>h.block hk⟩
theorem P4 {A C:World}{r b:Nat}{t:TypeId}{cs:List Value}(h:Row A b t cs)(g:A.grownBy C (some r))(hne:b≠r):Row C b t cs:=(g.block b h.lt (fun e=>hne (by cases e;rfl))).trans h
theorem T2 {w A C:World}{r:Nat}(h:Ext w A)(g:A.grownBy C (some r))(hr:w.heap.size≤r):Ext w C:=
 ⟨g.os.trans h.os,g.tape.trans h.tape,g.output.trans h.output,Nat.le_trans h.size g.size,fun k hk=>(g.block k (Nat.lt_of_lt_of_le hk h.size) (fun e=>by cases e;omega)).trans (h.block hk)⟩
theorem C7g {lex:List Entr}{pre zs:List Int}{k:Nat}{id:Int}{e:Entr}(h:pre++N5 lex (k+1) id=zs)(he:getE lex id=some e):pre++[id] <+: zs∧(e.main=0→pre++[id]=zs)∧(e.main≠0→pre++[id]++N5 lex k e.main=zs):=by
 rw [A1e he] at h
 refine⟨⟨if e.main=0 then [] else N5 lex k e.main,by rw [← h];simp⟩,fun h0=>?_,fun h0=>?_⟩
 ·rw [if_pos h0] at h;exact h
 ·rw [if_neg h0] at h;rw [← h];simp
attribute [local irreducible] E EL K Val Enters Rt Calls bodyPost Code.wp RQ EI YK
theorem D5c {G : Nat → Prop}(lex : List Entr)(hl : lex.length ≤ 1000000)(id0 : Int)(la : Option Addr)(lc : Nat)(w0 : World)(hv : SlG G w0 (.slice la lex.length lc) lex)(Xof : Int → List Value)(hrep : ∀ id, Rep.at_ G w0 (entD lex id) (Xof id))
  (hget:∀ id w',Ext w0 w'→Calls Tryz.prog 49 #[.slice la lex.length lc,int id] w' (Rt fun u w2=>u=.tuple #[.agg (Xof id).toArray,.bool (getE lex id).isSome]∧Ext w' w2))
  (Bl Bi B:Nat) (w:World) (hw0l:w0.heap.size≤Bl) (hw0:w0.heap.size≤Bi) (hBl:Bl<B) (hBi:Bi<B) (hne:Bl≠Bi) (hB:B≤w.heap.size) (hx:Ext w0 w) (rl:Row w Bl 34 [.slice la lex.length lc]) (ri:Row w Bi 3 [int id0]) :
  SeqX Fence.wide 4 Tryz.prog 401 #[.pointer (some ⟨Bl,0,none⟩),.pointer (some ⟨Bi,0,none⟩)] (fun x=>#[.agg (Xof x).toArray]) (N5 lex (lex.length+1) id0) Bi B w:=by
 intro l J Jx W hBle hlW hW hJ hY h0
 obtain⟨zs,hzs⟩:∃ zs,zs=N5 lex (lex.length+1) id0:=⟨_,rfl⟩
 rw [← hzs] at hY ⊢
 have c401:Calls Tryz.prog 401 #[.func (.yield l) #[] #[],.pointer (some ⟨Bl,0,none⟩),.pointer (some ⟨Bi,0,none⟩)] W (Rt fun _ W'=>J zs W'∨∃ pre,pre <+: zs∧Jx pre W'):=by
  have hxW:Ext w0 W:=⟨hW.os.trans hx.os,hW.tape.trans hx.tape,hW.output.trans hx.output,Nat.le_trans hx.size hW.size,fun k hk=>(hW.block k (by omega)).trans (hx.block hk)⟩
  have rlW:Row W Bl 34 [.slice la lex.length lc]:=(hW.block Bl hBl).trans rl
  have riW:Row W Bi 3 [int id0]:=(hW.block Bi hBi).trans ri
  refine G3 (n:=33) (args:=[.func (.yield l) #[] #[],.pointer (some ⟨Bl,0,none⟩),.pointer (some ⟨Bi,0,none⟩)]) Tryz.func401 rfl Tryz.ntmps401 (by simp) ?_
  (repeat' (first|refine Ly ?_|fail))
  refine A0e (ι:=Nat × List Int × Int) (fun z=>[(0,.func (.yield l) #[] #[]),(1,.pointer (some ⟨Bl,0,none⟩)),(2,.pointer (some ⟨Bi,0,none⟩)),(8,int ((lex.length:Int)+1)),(9,int z.1)])
   (fun z wr=>z.1≤lex.length+1∧Ext w0 wr∧W.heap.size≤wr.heap.size∧Row wr Bl 34 [.slice la lex.length lc]∧Row wr Bi 3 [int z.2.2]∧z.2.1++N5 lex (lex.length+1-z.1) z.2.2=zs∧J z.2.1 wr) (fun z=>lex.length+1-z.1) (0,[],id0)
   ⟨rfl,rfl,rfl,rfl,rfl,trivial⟩ ⟨Nat.zero_le _,hxW,Nat.le_refl _,rlW,riW,by rw [hzs];rfl,h0⟩ ?_
  rintro⟨i,pre,id⟩ wr ⟨hi,hxr,hsz,rlr,rir,hch,hj⟩
  dsimp only at hi hxr hsz rlr rir hch hj ⊢
  by_cases hlt:i<lex.length+1
  ·obtain⟨k,hk⟩:∃ k,lex.length+1-i=k+1:=⟨lex.length-i,by omega⟩
   rw [hk] at hch
   have cg:=hget id wr hxr
   have hrX:=hrep id
   obtain⟨e0,k0,e1,k1,e2,k2,e3,k3,e4,k4,hX,_⟩:=A4r hrX
   rw [hX] at cg
   cases hg:getE lex id with
   | none=>
    rw [hg] at cg
    rw [Option.isSome_none] at cg
    rw [A6q hg,List.append_nil] at hch
    (repeat' (first|(refine D7 Z Z (D5 Z Z en49) cg (fun vC wC hC=>?_);obtain⟨rfl,hxC⟩:=hC)|(refine B0r Z Z Z Z Z Z Z Z Z Z (fun bE wE xE hbE rE=>?_);replace hxC:=hxC.trans xE)|refine Ly ?_|refine Dy (fun hh=>?_) fun hh=>?_))
    all_goals (try (exfalso;omega))
    refine W7 Z (Or.inl ?_)
    rw [← hch]
    exact hJ _ _ _ hj (A5l hxC)
   | some e=>
    rw [hg] at cg
    rw [Option.isSome_some] at cg
    obtain⟨hp1,hp2,hp3⟩:=C7g hch hg
    have hem:(entD lex id).main=e.main:=by unfold entD;rw [hg];rfl
    (repeat' ((fail_if_success (refine J2 (x:=(Code.seq (Code.region 3 _ _) _)) ?_));first|(refine D7 Z Z (D5 Z Z en49) cg (fun vC wC hC=>?_);obtain⟨rfl,hxC⟩:=hC;replace rlr:=rlr.ext hxC;replace rir:=rir.ext hxC;have hsC:=hxC.size)|(refine B0r Z Z Z Z Z Z Z Z Z Z (fun bE wE xE hbE rE=>?_);replace hxC:=hxC.trans xE;replace rlr:=rlr.ext xE;replace rir:=rir.ext xE)|refine Ly ?_|refine Dy (fun hh=>?_) fun hh=>?_))
    all_goals (try (exfalso;omega))
    have hjE:=hJ _ _ _ hj (A5l hxC)
    have hsE:W.heap.size≤wE.heap.size:=by have:=hxC.size;omega
    have hxE:Ext w0 wE:=hxr.trans hxC
    have hlE:bE≠l:=by omega
    refine J2 ?_
    refine J2 ?_
    refine C1u (m:=4) (p:=5) (by repeat first|exact R2|apply C8|apply C6|apply S7) rfl ?_
    dsimp only [List.take]
    (repeat' (first|refine Ly ?_|fail))
    have hYx:=hY pre id wE hjE hp1
    dsimp only at hYx
    rw [hX] at hYx
    refine D8p (by repeat first|exact R2|apply C8|apply C6|apply S7) rfl rfl rfl rfl rfl rfl hYx (fun c w' hh=>by rcases hh with⟨h,_⟩|⟨h,_⟩ <;> cases h) (fun w' hh=>by rcases hh with⟨h,_⟩|⟨h,_⟩ <;> cases h) (fun u w' hh=>?_)
    rcases hh with⟨hu,hj2,hgr⟩|⟨hu,hjx⟩
    ·cases hu
     have rE2:=P4 rE hgr hlE
     have rl2:=P4 rlr hgr (by omega)
     have ri2:=P4 rir hgr (by omega)
     have hx2:=T2 hxE hgr (by omega)
     have hs2:=hgr.size
     by_cases hm0:(entD lex id).main=0
     ·have hz:=hp2 (by rw [← hem];exact hm0)
      (repeat' (first|refine Ly ?_|refine Dy (fun hh=>?_) fun hh=>?_))
      all_goals (try (exfalso;omega))
      refine W7 Z (Or.inl ?_)
      rw [← hz]
      exact hj2
     ·have hz:=hp3 (by rw [← hem];exact hm0)
      (repeat' (first|(refine J3 (cs:=[_]) ri2 hx2 hw0 rfl rfl rfl rfl rfl rfl rfl rfl (Nat.le_refl _) (fun wU rU0 xU kU=>?_);have rl3:=P4 rl2 kU hne;have hs3:=kU.size)|refine Ly ?_|refine Dy (fun hh=>?_) fun hh=>?_))
      all_goals (first|(exfalso;omega)|skip)
      all_goals first
       | exact absurd (by assumption) hm0
       | exact A2q (i+1,pre++[id],(entD lex id).main) ⟨rfl,rfl,rfl,rfl,rfl,trivial⟩ ⟨by dsimp only;omega,xU,by omega,rl3,rU0,by rw [show lex.length+1-(i+1)=k by omega,hem];exact hz,hJ _ _ _ hj2 kU⟩ (by dsimp only;omega)
    ·cases hu
     (repeat' (first|refine Sy ?_|fail))
     all_goals (first|(exfalso;omega)|skip)
     exact W7 Z (Or.inr ⟨_,hp1,hjx⟩)
  ·obtain rfl:i=lex.length+1:=by omega
   rw [Nat.sub_self] at hch
   (repeat' (first|refine Sy ?_|refine Dy (fun hh=>?_) fun hh=>?_))
   all_goals (try (exfalso;omega))
   refine B1v (W7 Z (Or.inl ?_))
   rw [← hch]
   unfold N5
   rw [List.append_nil]
   exact hj
 refine(callsIn_wide (n:=4)).2 (c401.mono ?_)
 rintro e W' h
 unfold Rt at h
 obtain⟨v,rfl,h⟩:=h
 exact⟨⟨v,rfl⟩,h⟩
theorem C0e (id:Int)(v:Value)(w:World):Calls Tryz.prog 398 #[v,int id] w (Rt fun u w'=>∃ Bl Bi,u=.func (.func 401) #[] #[.pointer (some ⟨Bl,0,none⟩),.pointer (some ⟨Bi,0,none⟩)]∧Row w' Bl 34 v.cells.toList∧Row w' Bi 3 [int id]∧Bl≠Bi∧w.heap.size≤Bl∧w.heap.size≤Bi∧Ext w w'):=by
 refine G3 (n:=6) (args:=[v,int id]) Tryz.func398 rfl Tryz.ntmps398 (by simp) ?_
 refine J2 ?_
 refine H8 ?_
 refine O9 Z Z Z Z (fun bL wL xL hbL rL=>?_)
 refine O9 Z Z Z Z (fun bI wI xI hbI rI=>?_)
 (repeat' (first|refine eV Z Z (J5 (vs:=[.pointer (some ⟨bL,0,none⟩),.pointer (some ⟨bI,0,none⟩)]) Z Z) ?_|refine Sy ?_|fail))
 have h1:=rL.lt
 have h2:=xL.size
 exact Q1 Z Z ⟨bL,bI,rfl,rL.ext xI,rI,by omega,by omega,by omega,xL.trans xI⟩
end
section
open Go.RowKit Go.En Go.Dl Go.Tp
theorem P5 {T:Nat→Prop}{I Ix:List Int→World→Prop}{xs:List Int}{W:World}:¬ LetsOut (B7r T I Ix xs W):=fun⟨_,_,h⟩=>h
theorem D1p {ok:Int→Bool}{zs pre:List Int}{x:Int}(h:pre++[x] <+: zs)(hx:ok x=true):pre.filter ok++[x] <+: zs.filter ok∧(pre++[x]).filter ok=pre.filter ok++[x]:=by
 have e:(pre++[x]).filter ok=pre.filter ok++[x]:=by rw [List.filter_append,List.filter_cons_of_pos hx,List.filter_nil]
 exact⟨by rw [← e];exact h.filter ok,e⟩
theorem C6z {ok:Int→Bool}{pre:List Int}{x:Int}(hx:ok x=false):(pre++[x]).filter ok=pre.filter ok:=by
 rw [List.filter_append,List.filter_cons_of_neg (by rw [hx];decide),List.filter_nil,List.append_nil]
theorem D0j {m:Nat}{fn:Func}{S:Value→World→Prop}{a:Act}{W:World}{D:Nat}(hr:fn.results=#[])(hD:W.heap[D]?=some (.deferred (some [])))(hd:a.defers=[])
  (hS:∀ W',W.grownBy W' (some D)→S (.tuple #[]) W'):bodyPostM Fence.wide m Tryz.prog fn (Rt S) .ret { a with defers:={ target:=.collected D,args:=#[] }::a.defers } W:=by
 refine⟨by simp,.inl ⟨_,_,rfl,run_takeDeferred hD,?_⟩⟩
 rw [hd]
 have hg:=C7 W D (.deferred none)
 exact⟨.tuple #[],results_none hr _ _ _,_,rfl,hS _ hg⟩
theorem G6i {F:Fence}{m:Nat}{P:Program}{fn:Func}{R:Ending→World→Prop}{a:Act}{w:World}(h:bodyPostM F m P fn R .ret a w):Exit.inBlock 0 (bodyPostM F m P fn R) .normal a w:=h
attribute [local irreducible] E EL K Val Enters Rt Calls bodyPost Code.wp RQ EI YK YI bodyPostM
theorem C6q (l : List Cons)(hl : l.length ≤ 1000000)(p r : Int){T G : Nat → Prop}{la : Option Addr}{lc b1 b2 b3 : Nat}{w : World}(hv : SlG G w (.slice la l.length lc) l)(hG : ∀ b, G b → ¬ T b ∧ b < w.heap.size)(hT : ∀ k, T k → k < w.heap.size)
  (r1:Row w b1 42 [.slice la l.length lc]) (r2:Row w b2 3 [int p]) (r3:Row w b3 3 [int r]) (t1:¬ T b1) (t2:¬ T b2) (t3:¬ T b3) (n:Nat) :
  SeqZ T n Tryz.prog 249 #[.pointer (some ⟨b1,0,none⟩),.pointer (some ⟨b2,0,none⟩),.pointer (some ⟨b3,0,none⟩)] (fun i=>#[.agg (A4u (cEl l i)).toArray]) ((dnI l.length).filter (okC l p r)) w:=by
 intro l1 J Jx W hlw hlW hxW hJ hJx hY h0
 obtain⟨zs,hzs⟩:∃ zs,zs=(dnI l.length).filter (okC l p r):=⟨_,rfl⟩
 rw [← hzs] at hY ⊢
 have c249:Calls Tryz.prog 249 #[.func (.yield l1) #[] #[],.pointer (some ⟨b1,0,none⟩),.pointer (some ⟨b2,0,none⟩),.pointer (some ⟨b3,0,none⟩)] W (Rt fun _ W'=>J zs W'∨∃ pre,pre <+: zs∧Jx pre W'):=by
  refine A1f (m:=5) (n:=32) (args:=[.func (.yield l1) #[] #[],.pointer (some ⟨b1,0,none⟩),.pointer (some ⟨b2,0,none⟩),.pointer (some ⟨b3,0,none⟩)]) Tryz.func249 rfl Tryz.ntmps249 (by simp) ?_
  have q1:=r1.ext hxW
  have q2:=r2.ext hxW
  have q3:=r3.ext hxW
  refine J2 ?_
  refine H8 ?_
  refine O9 Z Z Z Z (fun b4 w4 x4 hb4 r40=>?_)
  have r4:Row w4 b4 354 [.func (.yield l1) #[] #[]]:=r40
  clear r40
  replace q1:=q1.ext x4
  replace q2:=q2.ext x4
  replace q3:=q3.ext x4
  (repeat' ((fail_if_success (refine J2 (x:=(Code.block 0 _)) ?_));first|(refine D7 Z Z (D5 Z Z G8l) (B9r _ _) (fun vC wC hC=>?_);obtain⟨Bb,rfl,rb,hBb,xC⟩:=hC)|refine Ly ?_|fail))
  replace q1:=q1.ext xC
  replace q2:=q2.ext xC
  replace q3:=q3.ext xC
  replace r4:=r4.ext xC
  have hXC:Ext W wC:=x4.trans xC
  have hXw:Ext w wC:=hxW.trans hXC
  have s1:=r1.lt
  have s2:=r2.lt
  have s3:=r3.lt
  have s4:=r4.lt
  have s5:=rb.lt
  have s6:=hxW.size
  have s7:=hXC.size
  have s8:=x4.size
  have nT:∀ b,(b=b1∨b=b2∨b=b3)→¬ (b=l1∨T b):=fun b hb e=>by
   rcases e with e|e
   ·rcases hb with rfl|rfl|rfl <;> omega
   ·rcases hb with rfl|rfl|rfl
    ·exact t1 e
    ·exact t2 e
    ·exact t3 e
  have n4:¬ (b4=l1∨T b4):=fun e=>by
   rcases e with e|e
   ·omega
   ·have:=hT _ e;omega
  have nb:¬ (Bb=l1∨T Bb):=fun e=>by
   rcases e with e|e
   ·omega
   ·have:=hT _ e;omega
  refine E_in (m:=5) (fun a ha=>?_)
  refine X0 (by omega) (gf:=277) (lb:=#[.pointer (some ⟨Bb,0,none⟩)]) (ha.ev (x:=.tmp 8) rfl) G7v (T:=fun k=>k=l1∨T k) (fun k hk=>by rcases hk with hk|hk;omega;have:=hT k hk;omega)
   (D3g l hl (G:=G) (hv.move fun b hb hlt=>⟨hb,hXw.block hlt⟩) (fun b hb e=>by rcases e with e|e;(have:=(hG b hb).2;omega);exact(hG b hb).1 e) rb nb _) (fun _=>rfl)
   (fun s A=>J (s.filter (okC l p r)) A∧Kz (fun k=>k=l1∨T k) wC A)
   (fun s A=>Jx (s.filter (okC l p r)) A) ?hI ?hIx ⟨hJ _ _ _ h0 (Kz.of_ext hXC),Kz.refl _ _⟩
   (fun x a' W'=>∃ b,St 32 [(1,.pointer (some ⟨b1,0,none⟩)),(2,.pointer (some ⟨b2,0,none⟩)),(3,.pointer (some ⟨b3,0,none⟩)),(4,.pointer (some ⟨b4,0,none⟩)),(6,.pointer (some ⟨b,0,none⟩))] a'∧Row W' b 56 (A4u (cEl l x))∧wC.heap.size+2≤b) ?hAx ?assign ?body ?done ?stop
  case hI=>
   rintro s A C ⟨h1,h2⟩ hg
   exact⟨hJ _ _ _ h1 (hg.mono fun k hk=>by omega),h2.step hg fun i hi=>hi⟩
  case hIx=>
   rintro s A C h1 hg
   exact hJx _ _ _ h1 (hg.mono fun k hk=>by omega)
  case hAx=>
   rintro x a' A C ⟨b,h1,h2,h3⟩ hg
   exact⟨b,h1,hg.row (by omega) h2,h3⟩
  case assign=>
   intro l2 pre x W1 K hsz hi hpre hK
   refine W9 (H1 P6 rfl ?_) (ha.round2 (s1:=9) (s2:=10) rfl rfl (int x) (.agg (A4u (cEl l x)).toArray))
   refine B0r Z Z Z Z Z Z Z Z Z Z (fun b wV xV hb rV=>?_)
   refine eN (K_of fun a' ha'=>hK a' wV xV ⟨hJ _ _ _ hi.1 (Kz.of_ext xV),hi.2.trans (Kz.of_ext xV)⟩ ⟨b,ha'.sub ⟨rfl,rfl,rfl,rfl,rfl,trivial⟩,rV,by omega⟩)
  case body =>
   rintro l2 pre x a' W1 hsz ⟨hj,hkz⟩ ⟨b,ha',rb6,hb⟩ hpre
   have u1:=hkz.row (nT _ (.inl rfl)) q1
   have u2:=hkz.row (nT _ (.inr (.inl rfl))) q2
   have u3:=hkz.row (nT _ (.inr (.inr rfl))) q3
   have u4:=hkz.row n4 r4
   obtain⟨c,hc⟩:∃ c,c=cEl l x:=⟨_,rfl⟩
   have hok:okC l p r x=(decide (c.person=p)&&(decide (c.rcd=0)||decide (c.rcd=r))):=by rw [hc];rfl
   have hYx:=fun hp=>hY (pre.filter (okC l p r)) x W1 hj hp
   dsimp only at hYx
   rw [← hc] at rb6 hYx
   have rb7:Row W1 b 56 [int c.person,int c.rcd,int c.day,int c.kind]:=rb6
   refine W9 (A1m (A1l ?_)) ha'
   cases ho:okC l p r x with
   | false =>
    rw [hok] at ho
    have hfin:∀ a2,B7r (fun k=>k=l1∨T k) (fun s A=>J (s.filter (okC l p r)) A∧Kz (fun k=>k=l1∨T k) wC A) (fun s A=>Jx (s.filter (okC l p r)) A) (pre++[x]) W1 .normal a2 W1:=fun a2=>⟨Kz.refl _ _,by rw [C6z (by rw [hok];exact ho)];exact hj,hkz⟩
    by_cases h1:c.person=p
    ·by_cases h2:c.rcd=0
     ·simp [h1,h2] at ho
     ·by_cases h3:c.rcd=r
      ·simp [h1,h3] at ho
      ·refine H1 (C8 (C6 P5)) rfl ?_
       (repeat' (first|refine Ly ?_|refine Dy (fun hh=>?_) fun hh=>?_))
       all_goals (first|(exfalso;omega)|skip)
       all_goals first
        | exact absurd (by assumption) h3
        | exact absurd (by assumption) h2
        | exact absurd h1 (by assumption)
        | (refine N3 (T3 rfl (A2d (K_in (K_of fun a2 _=>hfin a2)))))
    ·refine H1 (C8 (C6 P5)) rfl ?_
     (repeat' (first|refine Ly ?_|refine Dy (fun hh=>?_) fun hh=>?_))
     all_goals (first|(exfalso;omega)|skip)
     all_goals first
      | exact absurd (by assumption) h1
      | (refine N3 (T3 rfl (A2d (K_in (K_of fun a2 _=>hfin a2)))))
   | true=>
    obtain⟨hp1,hp2⟩:=D1p (by rw [← hzs] at *;exact hpre) ho
    have hY2:=hYx (by rw [hzs];exact hp1)
    rw [hok] at ho
    have h1:c.person=p:=by
     by_cases e:c.person=p
     ·exact e
     ·simp [e] at ho
    have hfin:∀ a2 W2,J (pre.filter (okC l p r)++[x]) W2→Kz (fun k=>k=l1∨T k) W1 W2→B7r (fun k=>k=l1∨T k) (fun s A=>J (s.filter (okC l p r)) A∧Kz (fun k=>k=l1∨T k) wC A) (fun s A=>Jx (s.filter (okC l p r)) A) (pre++[x]) W1 .normal a2 W2:=fun a2 W2 h1 h2=>⟨h2,by rw [hp2];exact h1,hkz.trans h2⟩
    have hfix:∀ a2 W2,Jx (pre.filter (okC l p r)++[x]) W2→Kz (fun k=>k=l1∨T k) W1 W2→B7r (fun k=>k=l1∨T k) (fun s A=>J (s.filter (okC l p r)) A∧Kz (fun k=>k=l1∨T k) wC A) (fun s A=>Jx (s.filter (okC l p r)) A) (pre++[x]) W1 .ret a2 W2:=fun a2 W2 h1 h2=>⟨h2,by show Jx ((pre++[x]).filter (okC l p r)) W2;rw [hp2];exact h1⟩
    have h23:c.rcd=0∨(c.rcd≠0∧c.rcd=r):=by
     by_cases e:c.rcd=0
     ·exact .inl e
     ·by_cases e2:c.rcd=r
      ·exact .inr ⟨e,e2⟩
      ·simp [e,e2] at ho
    rcases h23 with h2|⟨h2,h3⟩
    all_goals
     refine D8t (p:=18) (C8 (C6 P5)) rfl rfl ?_
     dsimp only [List.take]
     (repeat' (first|refine Ly ?_|refine Dy (fun hh=>?_) fun hh=>?_))
     all_goals (first|(exfalso;omega)|(exact absurd h1 (by assumption))|(exact absurd h2 (by assumption))|(exact absurd h3 (by assumption))|(exact absurd (by assumption) h2)|skip)
     refine D4n (C8 (C6 P5)) rfl rfl rfl rfl rfl rfl rfl hY2 (fun c w' hh=>by rcases hh with⟨h,_⟩|⟨h,_⟩ <;> cases h) (fun w' hh=>by rcases hh with⟨h,_⟩|⟨h,_⟩ <;> cases h) (fun u w' hh=>?_)
     rcases hh with⟨hu,hj2,hgr⟩|⟨hu,hjx,hgr⟩
     ·cases hu
      (repeat' (first|refine Sy ?_|fail))
      refine N3 (T3 rfl (A2d (K_in (K_of fun a2 _=>hfin a2 _ hj2 hgr))))
     ·cases hu
      (repeat' (first|refine Sy ?_|fail))
      refine N3 (A2e rfl (C1z (A1k (K_of fun a2 _=>hfix a2 _ hjx hgr))))
  case done=>
   rintro W1 ⟨hj,hkz⟩ hD
   rw [← hzs] at hj
   exact G6i (D0j (m:=5) (fn:=Tryz.f249) (S:=fun _ W'=>J zs W'∨∃ pre,pre <+: zs∧Jx pre W') rfl hD ha.nod (fun W' hg=>.inl (hJ _ _ _ hj (Kz.of_grown hg (by omega)))))
  case stop=>
   rintro pre W1 hpre hj hD
   refine wpIn_ret ?_
   exact D0j (m:=5) (fn:=Tryz.f249) (S:=fun _ W'=>J zs W'∨∃ pre,pre <+: zs∧Jx pre W') rfl hD ha.nod (fun W' hg=>.inr ⟨_,by rw [hzs];exact hpre.filter _,hJx _ _ _ hj (Kz.of_grown hg (by omega))⟩)
 refine(callsIn_wide (n:=n)).2 (c249.mono ?_)
 rintro e W' h
 unfold Rt at h
 obtain⟨v,rfl,h⟩:=h
 exact⟨⟨v,rfl⟩,h⟩
end
section
open Go.RowKit Go.En Go.Dl Go.Tp
theorem D0k {m:Nat}{S:Value→World→Prop}{a:Act}{W:World}{bR D:Nat}{z:Int}(h4:a.tmps[8]?=some (.pointer (some ⟨bR,0,none⟩)))(hr:Row W bR 3 [int z])(hne:bR≠D)(hD:W.heap[D]?=some (.deferred (some [])))(hd:a.defers=[])
  (hS:∀ W',W.grownBy W' (some D)→S (int z) W'):bodyPostM Fence.wide m Tryz.prog Tryz.f135 (Rt S) .ret { a with defers:={ target:=.collected D,args:=#[] }::a.defers } W:=by
 refine⟨by simp,.inl ⟨_,_,rfl,run_takeDeferred hD,?_⟩⟩
 rw [hd]
 have hg:=C7 W D (.deferred none)
 have hc:=((Kz.of_grown (T:=fun k=>k=D) hg rfl).row hne hr).cellAt (j:=0) rfl
 exact⟨int z,B1x rfl rfl h4 hc,int z,rfl,hS _ hg⟩
theorem vI {G:Nat→Prop}{w:World}{x:Int}{u:Value}(h:DR G w (dI x) u):u=int x:=by
 have h2:DR G w (.v (int x)) u:=h
 rw [DR] at h2;exact h2
theorem D0y {F:Fence}{m:Nat}{P:Program}{o:Oper}{Q:Go.En.Post}{a:Act}{w:World}(hw:Region.wanted o (yielded #[o] a.tmps)=true)(h:Oper.wpIn F m P o a w (wpOpsIn F m P #[o] Q []) Q):wpOpsIn F m P #[o] Q [0] a w:=by
 have e:(#[o]:Array Oper)[0]?=some o:=rfl
 unfold wpOpsIn
 rw [e]
 dsimp only
 rw [if_pos hw]
 exact h
theorem A3b {w A C:World}{r:Nat}(h:Ext w A)(g:A.grownBy C (some r))(hr:w.heap.size≤r):Ext w C:=(Kz.of_grown (T:=fun k=>k=r) g rfl).ext h fun k hk=>by omega
attribute [local irreducible] E EL K Val Enters Rt Calls bodyPost Code.wp RQ EI YK YI bodyPostM
theorem C7h (l:List Cons)(hl:l.length≤1000000)(p r d:Int)(v:Value){G:Nat→Prop}(w:World)(hG:∀ b,G b→b<w.heap.size)(hv:SlG G w v l):Calls Tryz.prog 135 #[v,int p,int r,int d] w (Rt fun u w'=>u=int (atR p r d l)∧Ext w w'):=by
 have hv0:=hv
 obtain⟨la,lc,rfl,_,_,_⟩:=hv.sl
 refine A1f (m:=5) (n:=21) (args:=[.slice la l.length lc,int p,int r,int d]) Tryz.func135 rfl Tryz.ntmps135 (by simp) ?_
 refine J2 ?_
 refine H8 ?_
 refine O9 Z Z Z Z (fun bD wD xD hbD rD0=>?_)
 have rD:Row wD bD 3 [int d]:=rD0
 clear rD0
 have hDB:bD<wD.heap.size:=rD.lt
 refine J4 Z Z Z (fun bR wR xR hbR rR0=>?_)
 have rR:Row wR bR 3 [int 0]:=rR0
 clear rR0
 have hRB:bR<wR.heap.size:=rR.lt
 replace rD:=rD.ext xR
 have hXR:=xD.trans xR
 (repeat' ((fail_if_success (refine J2 (x:=(Code.block 0 _)) ?_));first|(refine D7 Z Z (D5 Z Z G9l) (B5p (.slice la l.length lc) p r _) (fun vC wC hC=>?_);obtain⟨b1,b2,b3,rfl,q1,q2,q3,hb1,hb2,hb3,xC⟩:=hC)|refine Sy ?_|fail))
 have hXC:Ext w wC:=hXR.trans xC
 replace rR:=rR.ext xC
 replace rD:=rD.ext xC
 have s1:=q1.lt
 have s2:=q2.lt
 have s3:=q3.lt
 have s4:=rR.lt
 have s5:=rD.lt
 have s6:=xD.size
 have s7:=xR.size
 have s8:=xC.size
 have s9:w.heap.size≤bD:=by omega
 have s10:w.heap.size≤bR:=by omega
 have hne:bD≠bR:=by omega
 refine E_in (m:=5) (fun a ha=>?_)
 refine X0 (by omega) (gf:=249) (lb:=#[.pointer (some ⟨b1,0,none⟩),.pointer (some ⟨b2,0,none⟩),.pointer (some ⟨b3,0,none⟩)]) (ha.ev (x:=.tmp 13) rfl) G8m (T:=fun k=>k=bR) (fun k hk=>by omega)
  (C6q l hl p r (G:=G) (hv.move fun b hb hlt=>⟨hb,hXC.block hlt⟩) (fun b hb=>⟨fun e=>by have:=hG b hb;omega,by have:=hG b hb;have:=hXC.size;omega⟩) (fun k hk=>by omega) q1 q2 q3 (by omega) (by omega) (by omega) _) (fun _=>rfl)
  (fun s A=>Ext w A∧Row A bD 3 [int d]∧Row A bR 3 [int 0]∧∀ y∈s,¬ (cEl l y).day≤d)
  (fun s A=>Ext w A∧Row A bR 3 [int (atR p r d l)]) ?hI ?hIx ⟨hXC,rD,rR,fun _ h=>by cases h⟩
  (fun x a' W'=>∃ b,St 21 [(7,.pointer (some ⟨bD,0,none⟩)),(8,.pointer (some ⟨bR,0,none⟩)),(9,.pointer (some ⟨b,0,none⟩))] a'∧Row W' b 56 (A4u (cEl l x))∧wC.heap.size+2≤b) ?hAx ?assign ?body ?done ?stop
 case hI=>
  rintro s A C ⟨h1,h2,h3,h4⟩ hg
  exact⟨hg.ext h1 fun k hk=>by omega,hg.row (by omega) h2,hg.row (by omega) h3,h4⟩
 case hIx=>
  rintro s A C ⟨h1,h2⟩ hg
  exact⟨hg.ext h1 fun k hk=>by omega,hg.row (by omega) h2⟩
 case hAx=>
  rintro x a' A C ⟨b,h1,h2,h3⟩ hg
  exact⟨b,h1,hg.row (by omega) h2,h3⟩
 case assign=>
  rintro l2 pre x W1 K hsz ⟨i1,i2,i3,i4⟩ hpre hK
  refine W9 (H1 P6 rfl ?_) (ha.round (s:=14) rfl (.agg (A4u (cEl l x)).toArray))
  refine B0r Z Z Z Z Z Z Z Z Z Z (fun b wV xV hb rV=>?_)
  refine eN (K_of fun a' ha'=>hK a' wV xV ⟨i1.trans xV,i2.ext xV,i3.ext xV,i4⟩ ⟨b,ha'.sub ⟨rfl,rfl,rfl,trivial⟩,rV,by omega⟩)
 case body=>
  rintro l2 pre x a' W1 hsz ⟨i1,i2,i3,i4⟩ ⟨b,ha',rb6,hb⟩ hpre
  obtain⟨c,hc⟩:∃ c,c=cEl l x:=⟨_,rfl⟩
  rw [← hc] at rb6
  have rb7:Row W1 b 56 [int c.person,int c.rcd,int c.day,int c.kind]:=rb6
  refine W9 (A1m (A1l (H1 (C8 (C6 P5)) rfl ?_))) ha'
  by_cases hday:c.day≤d
  ·(repeat' (first|refine Ly ?_|refine Dy (fun hh=>?_) fun hh=>?_))
   all_goals (first|(exfalso;omega)|skip)
   refine N3 (A2e rfl (A1l (H1 (C8 (C6 P5)) rfl ?_)))
   (repeat' (first|(refine J3 (cs:=[_]) i3 i1 s10 rfl rfl rfl rfl rfl rfl rfl rfl (Nat.le_refl _) (fun wU rU0 xU kU=>?_))|refine Ly ?_|fail))
   have hat:=B0f (l:=l) (p:=p) (r:=r) (d:=d) (x:=x) l.length pre (Nat.le_refl _) hpre i4 (by rw [← hc];exact hday)
   rw [List.take_length,← hc] at hat
   refine N3 (C1z (A1k (K_of fun a2 _=>⟨Kz.of_grown kU rfl,xU,?_⟩)))
   rw [hat]
   exact rU0
  ·(repeat' (first|refine Ly ?_|refine Dy (fun hh=>?_) fun hh=>?_))
   all_goals (first|(exfalso;omega)|skip)
   refine N3 (T3 rfl (A2d (K_in (K_of fun a2 _=>⟨Kz.refl _ _,i1,i2,i3,fun y hy=>?_⟩))))
   rcases List.mem_append.1 hy with hy|hy
   ·exact i4 y hy
   ·obtain rfl:=List.mem_singleton.1 hy
    rw [← hc];exact hday
 case done=>
  rintro W1 ⟨i1,i2,i3,i4⟩ hD
  have hat:=C5i (l:=l) (p:=p) (r:=r) (d:=d) l.length (Nat.le_refl _) i4
  rw [List.take_length] at hat
  obtain⟨wS,hrun,rS,gS⟩:=A8m (P:=Tryz.prog) (t:=3) (v:=int 0) (o:={ dst:=none,op:=Op.store 3 (Operand.tmp 8) (Operand.const (int 0)),type:=0,pos:= "consent.go:58",after:=#[],guard:=none })
   (ρ:=({ tmps:=a.tmps,defers:={ target:=Target.collected wC.heap.size,args:=#[] }::a.defers }:Act).eval) rfl (show a.eval (.tmp 8)=_ from ha.ev (x:=.tmp 8) rfl) rfl rfl rfl i3 (Nat.le_refl _)
  show Code.wp _ _ _ _ _
  refine(wpIn_wide (n:=5)).1 (wpIn_seq (wpIn_region ?_))
  show wpOpsIn _ _ _ _ _ [0] _ _
  refine D0y rfl ?_
  refine⟨fun _ _=>trivial,?_⟩
  rw [Oper.semAt_eq _ _ _ (fun c e=>by cases e)]
  rw [hrun]
  unfold Oper.uponIn
  dsimp only [Act.put]
  unfold wpOpsIn
  show Code.wpIn _ _ _ _ _ _ _
  refine wpIn_ret ?_
  refine D0k (ha.get _ _ rfl) rS (by omega) ((gS.block _ (by have:=(Array.getElem?_eq_some_iff.1 hD).1;exact this) (fun e=>by cases e;omega)).trans hD) ha.nod (fun W' hg=>?_)
  rw [hat]
  exact⟨rfl,A3b (A3b i1 gS s10) hg (by have:=hXC.size;omega)⟩
 case stop=>
  rintro pre W1 hpre ⟨i1,i2⟩ hD
  refine wpIn_ret ?_
  refine D0k (ha.get _ _ rfl) i2 (by omega) hD ha.nod (fun W' hg=>⟨rfl,A3b i1 hg (by have:=hXC.size;omega)⟩)
theorem u135 (l:List Cons)(p r d:Int)(hl:l.length≤1000):Fp Tryz.prog 135 [.s 4 (l.map Y7),dI p,dI r,dI d] (dI (atR p r d l)):=by
 intro w G us hG h
 rw [DR.valsR] at h
 obtain⟨u,us1,rfl,_,hu,h⟩:=h
 rw [DR.valsR] at h
 obtain⟨u2,us2,rfl,_,h2,h⟩:=h
 rw [DR.valsR] at h
 obtain⟨u3,us3,rfl,_,h3,h⟩:=h
 rw [DR.valsR] at h
 obtain⟨u4,us4,rfl,_,h4,h⟩:=h
 rw [DR.valsR] at h
 subst h
 have e2:=vI h2
 have e3:=vI h3
 have e4:=vI h4
 subst e2;subst e3;subst e4
 refine Calls.mono (C7h l (by omega) p r d u w hG (D3x hu)) ?_
 intro e w' h
 unfold Rt at h ⊢
 obtain⟨v,rfl,rfl,hx⟩:=h
 exact⟨_,rfl,hx,by show DR _ w' (.v (int _)) _;rw [DR]⟩
end
section
open Go.RowKit Go.En Go.Dl Go.Tp
theorem B5l {A C:World}{r B:Nat}(g:A.grownBy C (some r))(h:r<B):KeepUp B A C:=⟨g.size,fun k hB hk=>g.block k hk (fun e=>by cases e;omega)⟩
theorem A8x {B:Nat}{I Ix:List Int→World→Prop}{xs:List Int}{W:World}:¬ LetsOut (D9g B I Ix xs W):=fun⟨_,_,h⟩=>h
theorem B8z {lex:List Entr}(hs:∀ e∈lex,e.senses.length≤1000)(id:Int):(entD lex id).senses.length≤1000:=by
 unfold entD
 cases h:getE lex id with
 | none=>exact Nat.zero_le _
 | some e=>exact hs e (List.mem_of_find?_eq_some h)
theorem B8l {m:Nat}{S:Value→World→Prop}{a:Act}{W:World}{bR D:Nat}{u:Value}(h4:a.tmps[4]?=some (.pointer (some ⟨bR,0,none⟩)))(hr:Row W bR 96 [u])(hne:bR≠D)(hD:W.heap[D]?=some (.deferred (some [])))(hd:a.defers=[])
  (hS:∀ W',W.grownBy W' (some D)→S u W'):bodyPostM Fence.wide m Tryz.prog Tryz.f395 (Rt S) .ret { a with defers:={ target:=.collected D,args:=#[] }::a.defers } W:=by
 refine⟨by simp,.inl ⟨_,_,rfl,run_takeDeferred hD,?_⟩⟩
 rw [hd]
 have hg:=C7 W D (.deferred none)
 have hc:=(P4 hr hg hne).cellAt (j:=0) rfl
 exact⟨u,B1x rfl rfl h4 hc,u,rfl,hS _ hg⟩
def SnAt (G:Nat→Prop)(B:Nat)(w:World)(u:Value)(l:List Sns):Prop:=∃ G0:Nat→Prop,(∀ b,G0 b→(G b∨B≤b)∧b<w.heap.size)∧DR G0 w (.s 2 (l.map snC)) u
theorem SnAt.move {G:Nat→Prop}{B:Nat}{w w':World}{u:Value}{l:List Sns}(h:SnAt G B w u l)(hs:w.heap.size≤w'.heap.size)(hm:∀ b,(G b∨B≤b)→b<w.heap.size→w'.heap[b]?=w.heap[b]?):SnAt G B w' u l:=by
 obtain⟨G0,h1,h2⟩:=h
 refine⟨G0,fun b hb=>⟨(h1 b hb).1,Nat.lt_of_lt_of_le (h1 b hb).2 hs⟩,DR.mv (fun b hb=>⟨hb,hm b (h1 b hb).1 (h1 b hb).2⟩) _ _ h2⟩
theorem C7e (l:List Sns)(hl:l.length≤1000)(u:Value)(w0 w:World)(G G0:Nat→Prop)(hG:∀ b,G0 b→G b∧b<w0.heap.size)(hx:Ext w0 w)(h:DR G0 w0 (.s 2 (l.map snC)) u):Calls Tryz.prog 399 #[u] w (Rt fun v w'=>SnAt G w.heap.size w' v l∧Ext w w'):=by
 have h2:DR G0 w (.s 2 (l.map snC)) u:=DR.mv (fun b hb=>⟨hb,hx.block (hG b hb).2⟩) _ _ h
 refine Calls.mono (c399 l hl w G0 [u] (fun b hb=>Nat.lt_of_lt_of_le (hG b hb).2 hx.size) (by rw [DR.valsR];exact⟨u,[],rfl,fun e=>(by cases e),h2,by rw [DR.valsR]⟩)) ?_
 rintro e w' ⟨v,rfl,hx',hd⟩
 refine⟨v,rfl,⟨_,fun b hb=>?_,hd⟩,hx'⟩
 rcases hb with hb|hb
 ·exact⟨.inl (hG b hb).1,Nat.lt_of_lt_of_le (hG b hb).2 (Nat.le_trans hx.size hx'.size)⟩
 ·exact⟨.inr hb.1,hb.2⟩
attribute [local irreducible] E EL K Val Enters Rt Calls bodyPost Code.wp RQ EI YK bodyPostM
theorem B0t {G:Nat→Prop}{lex:List Entr}(hll:lex.length≤1000)(hse:∀ e∈lex,e.senses.length≤1000)(id:Int)(v:Value)(w:World)(hG:∀ b,G b→b<w.heap.size)(hv:SlG G w v lex):Calls Tryz.prog 395 #[v,int id] w (Rt fun u w'=>(∃ B,w.heap.size≤B∧SnAt G B w' u (senF lex id))∧Ext w w'):=by
 have hget0:=fun id=>C6s lex id v w hv
 obtain⟨Xof,hXof⟩:=Classical.axiomOfChoice hget0
 have hv0:=hv
 obtain⟨la,lc,rfl,_,_,_⟩:=hv.sl
 refine A1f (m:=5) (n:=17) (args:=[.slice la lex.length lc,int id]) Tryz.func395 rfl Tryz.ntmps395 (by simp) ?_
 refine J2 ?_
 refine H8 ?_
 refine J4 Z Z Z (fun bR wR xR hbR rR0=>?_)
 have rR:Row wR bR 96 [.slice none 0 0]:=rR0
 clear rR0
 (repeat' ((fail_if_success (refine J2 (x:=(Code.block 0 _)) ?_));first|(refine D7 Z Z (D5 Z Z G6w) (C0e id (.slice la lex.length lc) _) (fun vC wC hC=>?_);obtain⟨Bl,Bi,rfl,rl,ri,hne,hl1,hl2,xC⟩:=hC)|refine Sy ?_|fail))
 have hRB:bR<wR.heap.size:=rR.lt
 have hCs:=xC.size
 have hlB:=rl.lt
 have hiB:=ri.lt
 have hXC:Ext w wC:=xR.trans xC
 replace rR:=rR.ext xC
 have hx0:w.heap.size≤bR:=by omega
 have hRs:=xR.size
 have hIp:∀(s:List Int) (A C:World) (r:Nat),(Ext w A∧Row A bR 96 [.slice none 0 0]∧∀ y∈s,(entD lex y).senses.length=0)→A.grownBy C (some r)→(r=Bi∨r=wC.heap.size+1)→(Ext w C∧Row C bR 96 [.slice none 0 0]∧∀ y∈s,(entD lex y).senses.length=0):=by
  rintro s A C r ⟨h1,h2,h3⟩ hg hr
  exact⟨T2 h1 hg (by omega),P4 h2 hg (by omega),h3⟩
 refine E_in (m:=5) (fun a ha=>?_)
 refine A5b rfl (by omega) (gf:=401) (lb:=#[.pointer (some ⟨Bl,0,none⟩),.pointer (some ⟨Bi,0,none⟩)]) (ha.ev (x:=.tmp 8) rfl) trivial G6u (Bid:=Bi) ri.lt
  (D5c lex (by omega) id la lc w hv0 Xof (fun id=>(hXof id).1) (fun id w' hx=>(hXof id).2 w' hx) Bl Bi wC.heap.size wC (by omega) (by omega) rl.lt ri.lt hne (Nat.le_refl _) hXC rl ri) (fun _=>rfl)
  (fun s W=>Ext w W∧Row W bR 96 [.slice none 0 0]∧∀ y∈s,(entD lex y).senses.length=0)
  (fun s W=>Ext w W∧∃ u,Row W bR 96 [u]∧SnAt G (wC.heap.size+2) W u (senF lex id)) hIp ?hIx ⟨hXC,rR,fun _ h=>by cases h⟩
  (fun x a' W'=>∃ b,St 17 [(4,.pointer (some ⟨bR,0,none⟩)),(5,.pointer (some ⟨b,0,none⟩))] a'∧Row W' b 99 (Xof x)∧wC.heap.size+2≤b) ?hAx ?assign ?body ?done ?stop
 case hIx=>
  rintro s A C ⟨h1,u,h2,h3⟩ hg
  exact⟨T2 h1 hg (by omega),u,P4 h2 hg (by omega),h3.move hg.size fun b hb hlt=>hg.block b hlt (fun e=>by cases e;rcases hb with hb|hb;(have:=hG _ hb;omega);omega)⟩
 case hAx=>
  rintro x a' A C ⟨b,h1,h2,h3⟩ hg
  exact⟨b,h1,P4 h2 hg (by omega),h3⟩
 case assign=>
  intro l pre x W K hsz hi hpre hK
  obtain⟨e0,k0,e1,k1,e2,k2,e3,k3,e4,k4,hX,_⟩:=A4r (hXof x).1
  refine W9 (H1 P6 rfl ?_) (ha.round (s:=9) rfl (.agg (Xof x).toArray))
  rw [hX]
  refine B0r Z Z Z Z Z Z Z Z Z Z (fun b wV xV hb rV=>?_)
  refine eN (K_of fun a' ha'=>hK a' wV xV (hIp _ _ _ Bi hi (A5l xV) (.inl rfl)) ⟨b,ha'.sub ⟨rfl,rfl,trivial⟩,?_,by omega⟩)
  rw [hX]
  exact rV
 case body=>
  rintro l pre x a' W hsz hi ⟨b,ha',rb,hb⟩ hpre
  obtain⟨hxW,hrW,hnone⟩:=hi
  obtain⟨e0,k0,e1,k1,e2,k2,e3,k3,e4,k4,hX,G0,hG0,hsen⟩:=A4r (hXof x).1
  rw [hX] at rb
  have hs5:=B8z hse x
  refine W9 (A1m (A1l (H1 (C8 (C6 A8x)) rfl ?_))) ha'
  (repeat' (first|refine Ly ?_|refine Dy (fun hh=>?_) fun hh=>?_))
  all_goals refine N3 ?_
  ·refine A2e rfl (A1l (H1 (C8 (C6 A8x)) rfl ?_))
   have cc:=fun wz (hz:Ext w wz)=>C7e (entD lex x).senses hs5 (.slice e2 (entD lex x).senses.length k2) w wz G G0 hG0 hz hsen
   (repeat' (first|(refine D7 Z Z (D5 Z Z G6v) (cc _ hxW) (fun vC wD hC=>?_);obtain⟨sC,xD⟩:=hC;obtain⟨qa,qc,rfl⟩:∃ qa qc,vC=.slice qa ((entD lex x).senses.map snC).length qc:=(by obtain⟨_,_,q⟩:=sC;exact sv q);have rW2:=hrW.ext xD;have hxW2:=hxW.trans xD;have hsD:=xD.size)|(refine J3 (cs:=[_]) rW2 hxW2 hx0 rfl rfl rfl rfl rfl rfl rfl rfl (Nat.le_refl _) (fun wU rU0 xU kU=>?_))|refine Ly ?_|fail))
   refine N3 (C1z (A1k (K_of fun a2 _=>⟨?_,xU,_,rU0,?_⟩)))
   ·exact(KeepUp.of_below xD).trans (B5l kU (by omega))
   ·rw [show senF lex id=senG lex (lex.length+1) id from rfl,A3q hpre hnone (by omega)]
    obtain⟨GC,hGC,hdC⟩:=sC
    refine SnAt.move (w:=wD) ⟨GC,fun b hb=>⟨?_,(hGC b hb).2⟩,hdC⟩ (World.grownBy.size kU) fun b hb hlt=>World.grownBy.block kU b hlt (fun e=>by cases e;rcases hb with hb|hb;(have:=hG _ hb;omega);omega)
    rcases (hGC b hb).1 with h|h
    ·exact .inl h
    ·exact .inr (by omega)
  ·refine T3 rfl (A2d (K_in (K_of fun a2 _=>⟨Below.refl _ _,hxW,hrW,fun y hy=>?_⟩)))
   rcases List.mem_append.1 hy with hy|hy
   ·exact hnone y hy
   ·obtain rfl:=List.mem_singleton.1 hy
    omega
 case done=>
  rintro W ⟨hxW,hrW,hnone⟩ hD
  have hs:=A6c hnone
  have hDl:=hrW.lt
  obtain⟨wS,hrun,rS,gS⟩:=A8m (P:=Tryz.prog) (t:=96) (v:=.slice none 0 0) (o:={ dst:=none,op:=Op.store 96 (Operand.tmp 4) (Operand.const (Value.slice none 0 0)),type:=0,pos:= "variant.go:75",after:=#[],guard:=none })
   (ρ:=({ tmps:=a.tmps,defers:={ target:=Target.collected wC.heap.size,args:=#[] }::a.defers }:Act).eval) rfl (show a.eval (.tmp 4)=_ from ha.ev (x:=.tmp 4) rfl) rfl rfl rfl hrW (Nat.le_refl _)
  show Code.wp _ _ _ _ _
  refine(wpIn_wide (n:=5)).1 (wpIn_seq (wpIn_region ?_))
  show wpOpsIn _ _ _ _ _ [0] _ _
  refine D0y rfl ?_
  refine⟨fun _ _=>trivial,?_⟩
  rw [Oper.semAt_eq _ _ _ (fun c e=>by cases e)]
  rw [hrun]
  unfold Oper.uponIn
  dsimp only [Act.put]
  unfold wpOpsIn
  show Code.wpIn _ _ _ _ _ _ _
  refine wpIn_ret ?_
  refine B8l (ha.get _ _ rfl) rS (by omega) ((gS.block _ (by have:=(Array.getElem?_eq_some_iff.1 hD).1;exact this) (fun e=>by cases e;omega)).trans hD) ha.nod (fun W' hg=>?_)
  have hs2:senF lex id=[]:=hs
  rw [hs2]
  exact⟨⟨w.heap.size,Nat.le_refl _,fun _=>False,fun b h=>h.elim,A5j⟩,T2 (T2 hxW gS (by omega)) hg (by omega)⟩
 case stop=>
  rintro pre W hpre ⟨hxW,u,hrW,hsu⟩ hD
  refine wpIn_ret ?_
  refine B8l (ha.get _ _ rfl) hrW (by omega) hD ha.nod (fun W' hg=>?_)
  exact⟨⟨wC.heap.size+2,by omega,hsu.move hg.size (fun b hb hlt=>hg.block b hlt (fun e=>by cases e;rcases hb with hb|hb;(have:=hG _ hb;omega);omega))⟩,T2 hxW hg (by omega)⟩
theorem u395 (l:List Entr)(id:Int)(hl:l.length≤1000)(hs:∀ e∈l,e.senses.length≤1000):Fp Tryz.prog 395 [lexD l,dI id] (.s 2 ((senF l id).map snC)):=by
 intro w G us hG h
 rw [DR.valsR] at h
 obtain⟨u,us',rfl,_,hu,h2⟩:=h
 rw [DR.valsR] at h2
 obtain⟨i,us2,rfl,_,hi,h3⟩:=h2
 rw [DR.valsR] at h3
 subst h3
 have hi2:=vI hi
 subst hi2
 refine Calls.mono (B0t hl hs id u w hG (G4s hG hu)) ?_
 intro e w' h
 unfold Rt at h ⊢
 obtain⟨v,rfl,⟨B,hB,G2,hG2,hd⟩,hx⟩:=h
 refine⟨v,rfl,hx,DR.mv (fun b hb=>⟨?_,rfl⟩) _ _ hd⟩
 rcases (hG2 b hb).1 with h|h
 ·exact .inl h
 ·exact .inr ⟨by omega,(hG2 b hb).2⟩
end
section
open Go.RowKit Go.En Go.Dl Go.Tp
theorem c135 (l:List Cons)(person rec day:Int)(hl:l.length≤1000):Fp Tryz.prog 135 [.s 4 (l.map Y7),dI person,dI rec,dI day] (dI (atR person rec day l)):=u135 l person rec day hl
theorem c395 (l:List Entr)(id:Int)(hl:l.length≤1000)(hs:∀ e∈l,e.senses.length≤1000):Fp Tryz.prog 395 [lexD l,dI id] (.s 2 ((senF l id).map snC)):=u395 l id hl hs
theorem c189 (d:Doc)(id:Int)(hg:GD d):Fp Tryz.prog 189 [.g (docC d),dI id] (ints (K9 d id)):=u189 d id ⟨hg,hg.ids⟩
end
end Go.Proofs.YtojadfppncgphaaGreatDoor