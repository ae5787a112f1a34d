/-
  Own text of the proof.
-/
import Derived.Test.YtjicdgejhkgpgaaGreatDoorCards
import Derived.Test.YtjicdgejhkgpgaaGreatDoorProg
import Derived.JoinedCond
import Derived.SevenTiedAt
import Derived.KernelRfl
import Derived.Test.YtjicdgejhkgpgaaGreatDoorYh
import Derived.Test.YtjicdgejhkgpgaaGreatDoorYc
import Derived.Test.YtjicdgejhkgpgaaGreatDoorYe
import Derived.Test.YtjicdgejhkgpgaaGreatDoorYf
import Derived.Test.YtjicdgejhkgpgaaGreatDoorYg
import Derived.Test.YtjicdgejhkgpgaaGreatDoorYd
import Derived.Test.YtjicdgejhkgpgaaGreatDoorYj
set_option linter.all false
set_option maxHeartbeats 4000000
set_option maxRecDepth 8000
namespace Go.Proofs.YtjicdgejhkgpgaaGreatDoor
section
theorem band {a b:Bool} (ha:a=true) (hb:b=true):(a&&b)=true:=by rw [ha,hb];rfl
theorem pj_laid:laidOutB Tryz.pinned.checked.prog=true:=by kernel_rfl
theorem C4i:mapsRowed Tryz.pinned.checked.prog=true:=by kernel_rfl
theorem C4l:Tryz.pinned.checked.prog.stopsHeard=true:=by kernel_rfl
theorem C4m:Tryz.pinned.checked.prog.mayEnter=true:=by kernel_rfl
theorem C4k:(Rows.provenanceAttestsRow.lifted==Tryz.pinned.checked.prog.liftsFinal)=true:=by kernel_rfl
theorem pj_make:(Tryz.pinned.checked.prog.make==some Rows.provenanceAttestsRow.make)=true:=by kernel_rfl
theorem C4j:(Rows.provenanceAttestsRow.plainKeys==Tryz.pinned.checked.prog.plainKeys)=true:=by kernel_rfl
theorem pj_main:Tryz.pinned.checked.prog.mainIs=some (Rows.provenanceAttestsCard.stood.harness.1,Rows.provenanceAttestsCard.stood.harness.2.toList):=by kernel_rfl
end
end Go.Proofs.YtjicdgejhkgpgaaGreatDoor
namespace Go.En
open Go.RowKit
section
variable {P : Program} {n : Nat} {Q : Post} {L : List (Nat × Value)} {w : World} {ops : List Oper} {o : Oper} {rest : List Oper}
theorem EL_make0 {d:Nat} {t e:TypeId} {x y:Operand} {z:Value} {size bytes:Nat} [ut:UT P t (.slice e)] [ti:TI P e z size bytes] (hg:gst ops L o=some true) (hd:odst n o.dst=some d) (ho:o.op=.makeSlice t x y)
    {k1 k2:IntKind} {c:Nat} (hx:ev L x=some (.int k1 0)) (hy:ev L y=some (.int k2 (c:Int))) (hmax:bytes*c≤281474976710656) (hmax':c≤9223372036854775807)
    (k:∀ b w',b=w.heap.size→w'.ownsRow w.heap.size e size (.slice (some ⟨b,0,none⟩) 0 c) 0 []→Ext w w'→EL P n ops Q rest ((d,(.slice (some ⟨b,0,none⟩) 0 c))::L) w'):EL P n ops Q (o::rest) L w:=by
  obtain⟨i0,hi,hz0,hz1,hz2⟩:=info_parts ti.i
  obtain⟨w',hr,h2,h3⟩:=run_make_own (P:=P) w w.heap.size t e i0 z size ut.u hi hz0 hz1 k1 k2 c (by rw [hz2];exact hmax) (by unfold maxLen;omega) (Nat.le_refl _)
  refine M0 hg hd (fun ρ ha=>?_) (k _ w' rfl h2 (Kb.none_ext h3))
  have a1:=ha.ev (by rw [ho];simp [Op.operands]) hx
  have a2:=ha.ev (by rw [ho];simp [Op.operands]) hy
  simp only [execOp,ho,a1,a2,Sem.run_bind,hr,Result.andThen_ok]
  rfl
theorem A5y {t u:TypeId} {x y:Operand} {a b r:Nat} (ho:o.op=.binOp .and t x y u) (hx:ev L x=some (.int .u32 (a:Int))) (hy:ev L y=some (.int .u32 (b:Int))) (ha:a<4294967296) (hb:b<4294967296) (hr:a &&& b=r):Val P L w o (.int .u32 (r:Int)):=hr▸A3q ho hx hy ha hb
end
end Go.En
namespace Go.Proofs.YtjicdgejhkgpgaaGreatDoor
section
open Go.RowKit Go.En Go.Pv
attribute [local irreducible] E EL K Val Enters Rt Calls bodyPost Code.wp RQ
theorem B2e (xs ys:List Int) (u v:Value) (w:World) (hu:Sl w u xs) (hv:Sl w v ys):Calls Tryz.prog 184 #[u,v] w (Rt fun r w'=>r=.bool (decide (xs=ys))∧Ext w w'):=by
  have hu0:=hu
  have hv0:=hv
  obtain⟨a,ca,rfl,_,hm,hp⟩:=hu.sl
  obtain⟨b,cb,rfl,_,hm2,hp2⟩:=hv.sl
  refine A6 (n:=26) (args:=[.slice a xs.length ca,.slice b ys.length cb]) Tryz.func184 rfl Tryz.ntmps184 (by simp) ?_
  (repeat' (first|refine Sy ?_|refine Dy (fun hh=>?_) fun hh=>?_))
  · have:decide (xs=ys)=false:=decide_eq_false (fun e=>by subst e;omega)
    exact A4 Z Z ⟨by rw [this],Ext.refl _⟩
  have hl:xs.length=ys.length:=by omega
  refine B0 (ι:=Nat) (fun i=>[(0,.slice a xs.length ca),(1,.slice b ys.length cb),(12,int xs.length),(13,int i)]) (fun i wr=>i≤xs.length∧Ext w wr∧∀ j,j<i→xs[j]?=ys[j]?) (fun i=>xs.length-i) 0
    ⟨rfl,rfl,rfl,rfl,trivial⟩ ⟨Nat.zero_le _,Ext.refl _,fun _ h=>absurd h (by omega)⟩ ?_
  rintro i wr ⟨hi,hx,hall⟩
  replace hu0:=hu0.ext hx;replace hv0:=hv0.ext hx
  by_cases hlt:i<xs.length
  · obtain⟨b1,o1,rfl⟩:=hp (by omega)
    obtain⟨b2,o2,rfl⟩:=hp2 (by omega)
    obtain⟨x,hxi⟩:∃ x,xs[i]?=some x:=⟨_,List.getElem?_eq_getElem hlt⟩
    obtain⟨y,hyi⟩:∃ y,ys[i]?=some y:=⟨_,List.getElem?_eq_getElem (by omega)⟩
    have h1:=(Go.Pv.int_elem hu0 hxi).one
    have h2:=(Go.Pv.int_elem hv0 hyi).one
    (repeat' (first|refine yV Z Z (fun _ _ _=>A0 (m:=i) Z Z Z (by first|rfl|omega) (by omega)) ?_|refine Sy ?_|refine Dy (fun hh=>?_) fun hh=>?_|refine yqY ?_|refine yqZ ?_|refine yqX (fun hh=>?_) fun hh=>?_|refine E_dq B5 (by kernel_rfl) Z ?_|refine yN Z (fun wq xq=>?_)))
    all_goals (try (exfalso;omega))
    · have:decide (xs=ys)=false:=decide_eq_false (B1d hxi hyi (by assumption))
      rw [this]
      exact A4 Z Z ⟨rfl,hx.trans xq⟩
    · exact B3 (i+1) ⟨rfl,rfl,rfl,rfl,trivial⟩ ⟨by omega,hx.trans xq,B1c hxi hyi (by omega) hall⟩ (by omega)
  · have:decide (xs=ys)=true:=decide_eq_true (A6h hl (fun j hj=>hall j (by omega)))
    rw [this]
    (repeat' (first|refine Sy ?_|refine Dy (fun hh=>?_) fun hh=>?_))
    all_goals (try (exfalso;omega))
    exact A4 Z Z ⟨rfl,hx⟩
theorem B8c (l : List Int) (x : Int) (v : Value) (w : World) (hv : Sl w v l) : Calls Tryz.prog 138 #[v, int x] w (Rt fun u w' => u = .bool (l.contains x) ∧ Ext w w') := by
  have hv0:=hv
  obtain⟨a,cap,rfl,hc,hm,hp⟩:=hv.sl
  refine A6 (n:=17) (args:=[.slice a l.length cap,int x]) Tryz.func138 rfl Tryz.ntmps138 (by simp) ?_
  (repeat' (first|refine Sy ?_))
  refine B0 (ι:=Nat) (fun i=>[(1,int x),(7,.slice a l.length cap),(8,int l.length),(9,int i)])
    (fun i wr=>i≤l.length∧Ext w wr∧∀(j:Nat) (y:Int),j<i→l[j]?=some y→y≠x) (fun i=>l.length-i) 0
    ⟨rfl,rfl,rfl,rfl,trivial⟩ ⟨Nat.zero_le _,Ext.refl _,fun j x hj=>absurd hj (by omega)⟩ ?_
  rintro i wr ⟨hi,hx,hall⟩
  by_cases hlt:i<l.length
  · obtain⟨b,off,rfl⟩:=hp (by omega)
    obtain⟨y,hy1⟩:∃ y,l[i]?=some y:=⟨_,List.getElem?_eq_getElem (by omega)⟩
    have hcy:=(Go.Pv.int_elem (hv0.ext hx) hy1).one
    (repeat' (first|refine eV Z Z (A0 (m:=i) Z Z Z (by first|rfl|omega) (by omega)) ?_|refine Ly ?_|refine Dy (fun hh=>?_) fun hh=>?_))
    all_goals (try (exfalso;omega))
    · have:l.contains x=true:=by rw [List.contains_iff_mem];rw [show x=y by omega];exact List.mem_of_getElem? hy1
      rw [this]
      exact A4 Z Z ⟨rfl,hx⟩
    · refine B3 (i+1) ⟨rfl,rfl,rfl,rfl,trivial⟩ ⟨by omega,hx,fun j z hj hz=>?_⟩ (by omega)
      by_cases e:j=i
      · subst e;rw [hy1] at hz;cases hz;omega
      · exact hall j z (by omega) hz
  · have:l.contains x=false:=by
      cases hb:l.contains x with
      | false=>rfl
      | true=>
        rw [List.contains_iff_mem] at hb
        obtain⟨j,hj⟩:=List.getElem?_of_mem hb
        exact absurd rfl (hall j x (by have:=(List.getElem?_eq_some_iff.1 hj).1;omega) hj)
    rw [this]
    (repeat' (first|refine Sy ?_|refine Dy (fun hh=>?_) fun hh=>?_))
    all_goals (try (exfalso;omega))
    exact A4 Z Z ⟨rfl,hx⟩
theorem A6g (rules:List Rul) (rv:Value) (w:World) (hr:Sl w rv rules):Calls Tryz.prog 107 #[rv] w (Rt fun u w'=>u=.bool (shrB rules)∧Ext w w'):=by
  have hr0:=hr
  obtain⟨ra,rc,rfl,_,_,hp⟩:=hr.sl
  refine A6 (n:=15) (args:=[.slice ra rules.length rc]) Tryz.func107 rfl Tryz.ntmps107 (by simp) ?_
  (repeat' (first|refine Sy ?_))
  refine B0 (ι:=Nat) (fun i=>[(5,.slice ra rules.length rc),(6,int rules.length),(7,int i)])
    (fun i wr=>i≤rules.length∧Ext w wr∧∀(j:Nat) (r:Rul),j<i→rules[j]?=some r→r.to.contains 0=false) (fun i=>rules.length-i) 0
    ⟨rfl,rfl,rfl,trivial⟩ ⟨Nat.zero_le _,Ext.refl _,fun j x hj=>absurd hj (by omega)⟩ ?_
  rintro i wr ⟨hi,hx,hall⟩
  replace hr0:=hr0.ext hx
  by_cases hlt:i<rules.length
  · obtain⟨b,off,rfl⟩:=hp (by omega)
    obtain⟨r,hri⟩:∃ r,rules[i]?=some r:=⟨_,List.getElem?_eq_getElem hlt⟩
    obtain⟨f0,k0,f1,k1,f2,k2,f3,k3,hat,_,q0,q1,q2,q3⟩:=A0d hr0 hri
    have ch:=fun wz hz=>B8c r.to 0 (.slice f1 r.to.length k1) wz hz
    cases hb:r.to.contains 0 with
    | true=>
      rw [hb] at ch
      have:shrB rules=true:=by unfold shrB;rw [List.any_eq_true];exact⟨r,List.mem_of_getElem? hri,hb⟩
      rw [this]
      (repeat' (first|(refine C1 Z Z Z Z Z Z Z Z Z Z (fun bN wN xN hbN rN=>?_);replace hx:=hx.trans xN;replace q1:=q1.ext xN)|refine eV Z Z (A0 (m:=i) Z Z Z (by first|rfl|omega) (by omega)) ?_|(refine cqC (ch _ q1) en138 fun wC xC=>?_;replace hx:=hx.trans xC)|refine Ly ?_|refine Dy (fun hh=>?_) fun hh=>?_))
      all_goals (try (exfalso;omega))
      exact A4 Z Z ⟨rfl,hx⟩
    | false=>
      rw [hb] at ch
      (repeat' (first|(refine C1 Z Z Z Z Z Z Z Z Z Z (fun bN wN xN hbN rN=>?_);replace hx:=hx.trans xN;replace q1:=q1.ext xN)|refine eV Z Z (A0 (m:=i) Z Z Z (by first|rfl|omega) (by omega)) ?_|(refine cqC (ch _ q1) en138 fun wC xC=>?_;replace hx:=hx.trans xC)|refine Ly ?_|refine Dy (fun hh=>?_) fun hh=>?_))
      all_goals (try (exfalso;omega))
      refine B3 (i+1) ⟨rfl,rfl,rfl,trivial⟩ ⟨by omega,hx,fun j z hj hz=>?_⟩ (by omega)
      by_cases e:j=i
      · subst e;rw [hri] at hz;cases hz;exact hb
      · exact hall j z (by omega) hz
  · have:shrB rules=false:=by
      unfold shrB
      rw [List.any_eq_false]
      intro r hr
      obtain⟨j,hj⟩:=List.getElem?_of_mem hr
      rw [hall j r (by have:=(List.getElem?_eq_some_iff.1 hj).1;omega) hj];simp
    rw [this]
    (repeat' (first|refine Sy ?_|refine Dy (fun hh=>?_) fun hh=>?_))
    all_goals (try (exfalso;omega))
    exact A4 Z Z ⟨rfl,hx⟩
end
section
open Go.RowKit Go.En Go.Pv
def srC (g:Lg) (pv uv tv rv sv fv ev wv mv fnv:Value) (sh:Bool) (fin:Nat):List Value:=[pv,str g.oname,uv,tv,rv,int g.net.states,sv,fv,ev,wv,.bool sh,.int .u32 (fin:Int),mv,fnv]
theorem C6p {steps:List Stp} {S:Int→Bool} {c:Int} {i:Nat} {x:Stp} (h:steps[i]?=some x) (q:Int):aftB (steps.take (i+1)) S c q=(aftB (steps.take i) S c q||(S x.frm&&(c==0||x.cls==c)&&x.to==q)):=by
  obtain⟨h1,h2⟩:=List.getElem?_eq_some_iff.1 h
  unfold aftB
  rw [List.take_succ_eq_append_getElem h1,h2,List.any_append];simp
attribute [local irreducible] E EL K Val Enters Rt Calls bodyPost Code.wp RQ
theorem B2n (g : Lg) (hok : NetOK g.net) (pv uv tv rv sv fv ev wv mv fnv : Value) (sh : Bool) (fin : Nat) (bS m : Nat) (S : Int → Bool) (hm : MaskIs m S) (c : Int) (hc : 1 ≤ c) (w : World) (rS : Row w bS 178 (srC g pv uv tv rv sv fv ev wv mv fnv sh fin)) (hs : Sl w sv g.net.steps) :
    Calls Tryz.prog 140 #[.pointer (some ⟨bS,0,none⟩),.int .u32 (m:Int),int c] w (Rt fun u w'=>(∃ m':Nat,u=.int .u32 (m':Int)∧MaskIs m' (aftB g.net.steps S c))∧Ext w w'):=by
  have hs0:=hs
  obtain⟨sa,sc,rfl,_,hsm,hsp⟩:=hs.sl
  unfold srC at rS
  refine A6 (n:=40) (args:=[.pointer (some ⟨bS,0,none⟩),.int .u32 (m:Int),int c]) Tryz.func140 rfl Tryz.ntmps140 (by simp) ?_
  (repeat' (first|refine Ly ?_))
  refine B0 (ι:=Nat × Nat) (fun z=>[(1,.int .u32 (m:Int)),(2,int c),(7,.int .u32 (z.2:Int)),(15,.slice sa g.net.steps.length sc),(16,int g.net.steps.length),(17,int z.1)])
    (fun z wr=>z.1≤g.net.steps.length∧Ext w wr∧MaskIs z.2 (aftB (g.net.steps.take z.1) S c)) (fun z=>g.net.steps.length-z.1) (0,0)
    ⟨rfl,rfl,rfl,rfl,rfl,rfl,trivial⟩ ⟨Nat.zero_le _,Ext.refl _,Y2 A3u (fun q=>by simp [aftB])⟩ ?_
  rintro⟨i,mm⟩ wr ⟨hi,hx,hM⟩
  dsimp only at hi hx hM ⊢
  replace hs0:=hs0.ext hx
  by_cases hlt:i<g.net.steps.length
  · obtain⟨b,off,rfl⟩:=hsp (by omega)
    obtain⟨x,hxi⟩:∃ x,g.net.steps[i]?=some x:=⟨_,List.getElem?_eq_getElem hlt⟩
    have hat:=A6d hs0 hxi
    obtain⟨n1,n2,n3,n4,n5,n6⟩:=hok.steps x (List.mem_of_getElem? hxi)
    have nf:=hok.few
    obtain⟨kf,hkf⟩:∃ k:Nat,x.frm=(k:Int):=⟨x.frm.toNat,by omega⟩
    obtain⟨kt,hkt⟩:∃ k:Nat,x.to=(k:Int):=⟨x.to.toNat,by omega⟩
    have hsu:=fun q=>C6p (S:=S) (c:=c) hxi q
    rw [hkf,hkt] at hat
    simp only [hkf,hkt] at hsu
    have hc0:(c==0)=false:=by simp;omega
    have hbit:=C4z (q:=kf) hm
    have hml:=hm.lt
    have hsl:m >>> kf<4294967296:=Nat.lt_of_le_of_lt (Nat.shiftRight_le _ _) hml
    by_cases hcl:x.cls=c
    · have hcb:(x.cls==c)=true:=by simp [hcl]
      cases hS:S (kf:Int) with
      | true=>
        rw [hS,if_pos rfl] at hbit
        have hmor:=B1o hM (t:=kt) (by omega)
        have hfin:MaskIs (mm ||| 2 ^ kt) (aftB (g.net.steps.take (i+1)) S c):=Y2 hmor (fun q=>by
          rw [hsu,hS,hc0,hcb]
          simp only [Bool.false_or,Bool.true_and]
          congr 1
          rw [Bool.eq_iff_iff];simp;exact eq_comm)
        have hmm:=hM.lt
        have h2k:2 ^ kt<4294967296:=by
          have:2 ^ kt≤2 ^ 24:=Nat.pow_le_pow_right (by omega) (by omega)
          omega
        (repeat' (first|(refine C1 Z Z Z Z Z Z Z Z Z Z (fun bN wN xN hbN rN=>?_);replace hx:=hx.trans xN)|refine eV Z Z (A0 (m:=i) Z Z Z (by first|rfl|omega) (by omega)) ?_|refine eV Z Z (A9a (m:=m) (q:=kf) Z Z Z (by omega)) ?_|refine eV Z Z (A5y (a:=m >>> kf) (b:=1) Z Z Z hsl (by decide) hbit) ?_|refine eV Z Z (A9b (q:=kt) Z Z Z (by omega)) ?_|refine eV Z Z (B3d (a:=mm) (b:=2 ^ kt) Z Z Z hmm h2k) ?_|refine Ly ?_|refine Dy (fun hh=>?_) fun hh=>?_))
        all_goals (try (exfalso;omega))
        exact B3 (i+1,mm ||| 2 ^ kt) ⟨rfl,rfl,rfl,rfl,rfl,rfl,trivial⟩ ⟨by dsimp only;omega,hx,hfin⟩ (by dsimp only;omega)
      | false=>
        rw [hS,if_neg (by simp)] at hbit
        have hfin:MaskIs mm (aftB (g.net.steps.take (i+1)) S c):=Y2 hM (fun q=>by rw [hsu,hS];simp)
        (repeat' (first|(refine C1 Z Z Z Z Z Z Z Z Z Z (fun bN wN xN hbN rN=>?_);replace hx:=hx.trans xN)|refine eV Z Z (A0 (m:=i) Z Z Z (by first|rfl|omega) (by omega)) ?_|refine eV Z Z (A9a (m:=m) (q:=kf) Z Z Z (by omega)) ?_|refine eV Z Z (A5y (a:=m >>> kf) (b:=1) Z Z Z hsl (by decide) hbit) ?_|refine Ly ?_|refine Dy (fun hh=>?_) fun hh=>?_))
        all_goals (try (exfalso;omega))
        exact B3 (i+1,mm) ⟨rfl,rfl,rfl,rfl,rfl,rfl,trivial⟩ ⟨by dsimp only;omega,hx,hfin⟩ (by dsimp only;omega)
    · have hcb:(x.cls==c)=false:=by simp [hcl]
      have hfin:MaskIs mm (aftB (g.net.steps.take (i+1)) S c):=Y2 hM (fun q=>by rw [hsu,hc0,hcb];simp)
      (repeat' (first|(refine C1 Z Z Z Z Z Z Z Z Z Z (fun bN wN xN hbN rN=>?_);replace hx:=hx.trans xN)|refine eV Z Z (A0 (m:=i) Z Z Z (by first|rfl|omega) (by omega)) ?_|refine Ly ?_|refine Dy (fun hh=>?_) fun hh=>?_))
      all_goals (try (exfalso;omega))
      exact B3 (i+1,mm) ⟨rfl,rfl,rfl,rfl,rfl,rfl,trivial⟩ ⟨by dsimp only;omega,hx,hfin⟩ (by dsimp only;omega)
  · obtain rfl:i=g.net.steps.length:=by omega
    rw [List.take_length] at hM
    (repeat' (first|refine Sy ?_|refine Dy (fun hh=>?_) fun hh=>?_))
    all_goals (try (exfalso;omega))
    exact A4 Z Z ⟨⟨_,rfl,hM⟩,hx⟩
def keyF (l:List Int):List UInt8:=l.map fun x=>UInt8.ofNat x.toNat
theorem B4s:∀ {a b:List Int},(∀ x∈a,0≤x∧x<256)→(∀ x∈b,0≤x∧x<256)→keyF a=keyF b→a=b
  | [],[],_,_,_=>rfl
  | [],_::_,_,_,h=>by simp [keyF] at h
  | _::_,[],_,_,h=>by simp [keyF] at h
  | x :: r, y :: s, ha, hb, h => by
    simp only [keyF,List.map_cons,List.cons.injEq] at h
    have h1:=ha x List.mem_cons_self
    have h2:=hb y List.mem_cons_self
    have e:x.toNat=y.toNat:=by
      have:=congrArg UInt8.toNat h.1
      simp only [UInt8.toNat_ofNat'] at this
      omega
    rw [show x=y by omega,B4s (fun z hz=>ha z (List.mem_cons_of_mem _ hz)) (fun z hz=>hb z (List.mem_cons_of_mem _ hz)) h.2]
theorem C2b {l:List Int} (h:∀ x∈l,0≤x∧x<256):(l.map fun x=>Value.int .u8 x)=(keyF l).map fun b=>Value.int .u8 b.toNat:=by
  unfold keyF
  rw [List.map_map]
  refine List.map_congr_left fun x hx=>?_
  have:=h x hx
  simp only [Function.comp,UInt8.toNat_ofNat']
  congr 1
  omega
theorem B7w (l : List Int) (hb : ∀ x ∈ l, 0 ≤ x ∧ x < 256) (hl : l.length ≤ 1000) (v : Value) (w : World) (hv : Sl w v l) : Calls Tryz.prog 182 #[v] w (Rt fun u w' => u = str (keyF l) ∧ Ext w w') := by
  have hv0:=hv
  obtain⟨a,cap,rfl,hc,hm,hp⟩:=hv.sl
  refine A6 (n:=23) (args:=[.slice a l.length cap]) Tryz.func182 rfl Tryz.ntmps182 (by simp) ?_
  (repeat' (first|(refine EL_make0 (c:=l.length) Z Z Z Z Z (by omega) (by omega) (fun bM wM hbM oM xM=>?_))|refine Sy ?_))
  refine B0 (ι:=Nat × Value) (fun z=>[(3,z.2),(9,.slice a l.length cap),(10,int l.length),(11,int z.1)])
    (fun z wr=>z.1≤l.length∧Ext w wr∧wr.ownsRow w.heap.size 5 1 z.2 z.1 ((l.take z.1).map fun x=>Value.int .u8 x)) (fun z=>l.length-z.1) (0,.slice (some ⟨bM,0,none⟩) 0 l.length)
    ⟨rfl,rfl,rfl,rfl,trivial⟩ ⟨Nat.zero_le _,xM,oM⟩ ?_
  rintro⟨i,ov⟩ wr ⟨hi,hx,hown⟩
  dsimp only at hi hx hown ⊢
  by_cases hlt:i<l.length
  · obtain⟨b,off,rfl⟩:=hp (by omega)
    obtain⟨x,hxi⟩:∃ x,l[i]?=some x:=⟨_,List.getElem?_eq_getElem hlt⟩
    have hcx:=(Go.Pv.int_elem (hv0.ext hx) hxi).one
    have hbx:=hb x (List.mem_of_getElem? hxi)
    have htk:(l.take (i+1)).map (fun x=>Value.int .u8 x)=(l.take i).map (fun x=>Value.int .u8 x)++[.int .u8 x]:=by
      obtain⟨h1,h2⟩:=List.getElem?_eq_some_iff.1 hxi
      rw [List.take_succ_eq_append_getElem h1,h2,List.map_append];rfl
    (repeat' (first|refine eV Z Z (A0 (m:=i) Z Z Z (by first|rfl|omega) (by omega)) ?_|refine eV Z Z (Q8 (k':=.u8) Z Z (by rw [show IntKind.min .u8=0 from rfl];omega) (by rw [show IntKind.max .u8=255 from rfl];omega)) ?_|(refine D5 (news:=[.int .u8 x]) (C7 hown xS) (hx.trans xS) (fun _=>⟨_,_,rfl,rS.at⟩) Z Z Z Z Z Z Z Z Z (by omega) (by omega) (fun vJ wJ oJ xJ kJ hJ=>?_))|refine Ly ?_|refine Dy (fun hh=>?_) fun hh=>?_|refine eL Z Z Z Z Z Z Z Z (fun bS wS xS hbS rS=>?_)))
    all_goals (try (exfalso;omega))
    exact B3 (i+1,vJ) ⟨rfl,rfl,rfl,rfl,trivial⟩ ⟨by dsimp only;omega,xJ,by dsimp only;rw [htk];exact oJ⟩ (by dsimp only;omega)
  · obtain rfl:i=l.length:=by omega
    rw [List.take_length,C2b hb] at hown
    rcases W0 hown with⟨rfl,h0,h1⟩|⟨b,c2,rfl,_,_,_,hat⟩
    · have hk:keyF l=[]:=by
        have:l=[]:=List.length_eq_zero_iff.1 h0
        rw [this];rfl
      rw [hk]
      (repeat' (first|refine eV Z Z (A2k Z Z) ?_|refine Sy ?_|refine Dy (fun hh=>?_) fun hh=>?_))
      all_goals (try (exfalso;omega))
      exact A4 Z Z ⟨rfl,hx⟩
    · (repeat' (first|refine eV Z Z (L5 (l:=keyF l) Z Z (by simp [keyF]) hat) ?_|refine Sy ?_|refine Dy (fun hh=>?_) fun hh=>?_))
      all_goals (try (exfalso;omega))
      exact A4 Z Z ⟨rfl,hx⟩
end
section
open Go.RowKit Go.En Go.Pv
theorem SlG.mid {α:Type} [Rep α] {G:Nat→Prop} {w:World} {bl off n cap a b:Nat} {xs:List α} (h:SlG G w (.slice (some ⟨bl,off,none⟩) n cap) xs) (hab:a≤b) (hb:b≤xs.length) :
    SlG G w (.slice (some (if cap=a then ⟨bl,off,none⟩ else ⟨bl,off+a*Rep.sz α,none⟩)) (b-a) (cap-a)) ((xs.drop a).take (b-a)):=by
  have hn:n=xs.length:=by obtain⟨_,_,e,_,_,_⟩:=h.sl;cases e;rfl
  have h1:=SlG.drop h (k:=a) (by omega)
  have h2:=SlG.take h1 (k:=b-a) (by rw [List.length_drop];omega)
  by_cases hc:cap=a
  · rw [if_pos hc] at h2 ⊢;exact h2
  · rw [if_neg hc] at h2 ⊢
    simpa [D2] using h2
attribute [local irreducible] E EL K Val Enters Rt Calls bodyPost Code.wp RQ
theorem C2g (segs:List Ph) (cs:List Cls) (k:Nat) (c:Cls) (hk:cs[k]?=some c) (seg:Int) (v cv:Value) (w:World) (hv:Sl w v segs) (hc:Sl w cv cs):Calls Tryz.prog 245 #[.agg #[v,cv],int k,int seg] w (Rt fun u w'=>u=.bool (inC D1 segs seg c)∧Ext w w'):=by
  have hc0:=hc
  obtain⟨ca,cc,rfl,_,hm,hp⟩:=hc.sl
  have hkl:=(List.getElem?_eq_some_iff.1 hk).1
  obtain⟨cb,co,rfl⟩:=hp (by omega)
  refine A6 (n:=16) (args:=[.agg #[v,.slice (some ⟨cb,co,none⟩) cs.length cc],int k,int seg]) Tryz.func245 rfl Tryz.ntmps245 (by simp) ?_
  refine B4 ?_
  refine A9 ?_
  refine C2 Z Z Z Z (fun bX wX xX hbX rX=>?_)
  have hI:At wX bX (0+0) [v]:=At.sub (xs:=[]) (ys:=[v]) (zs:=[.slice (some ⟨cb,co,none⟩) cs.length cc]) rX.at
  have hat:=C6b (hc0.ext xX) hk
  (repeat' (first|refine yV Z Z (fun _ _ _=>A0 (m:=k) Z Z Z (by first|rfl|omega) (by omega)) ?_|refine C4 Z Z (fun _ _ _=>A5 Z Z en248) (fun wq xq=>C2f segs v seg c wq (hv.ext (xX.trans xq))) ?_|refine Sy ?_|refine yqY ?_|refine yqZ ?_|refine E_dq B5 (by kernel_rfl) Z ?_|refine yN Z (fun wq xq=>?_)))
  all_goals (try (exfalso;omega))
  exact A4 Z Z ⟨rfl,xX.trans xq⟩
theorem A4x (segs:List Ph) (cs:List Cls) (xs:List Int) (hl:xs.length=cs.length) (v cv xv:Value) (w:World) (hv:Sl w v segs) (gC:Sl w cv cs) (hx:Sl w xv xs):Calls Tryz.prog 244 #[.func (.func 245) #[] #[],.agg #[v,cv],xv] w (Rt fun u w'=>u=.bool (A0q D1 segs cs xs)∧Ext w w'):=by
  have hy0:=hx
  obtain⟨xa,xc,rfl,_,hm,hp⟩:=hx.sl
  refine A6 (n:=23) (args:=[.func (.func 245) #[] #[],.agg #[v,cv],.slice xa xs.length xc]) Tryz.func244 rfl Tryz.ntmps244 (by simp) ?_
  have hX:=Ext.refl w
  (repeat' (first|(refine C2 Z Z Z Z (fun bX wX xX hbX rX=>?_);replace hX:=hX.trans xX;replace hy0:=hy0.ext xX;replace hv:=hv.ext xX;replace gC:=gC.ext xX)|refine Sy ?_))
  refine B0 (ι:=Nat) (fun i=>[(0,.func (.func 245) #[] #[]),(4,.pointer (some ⟨bX,0,none⟩)),(9,.slice xa xs.length xc),(10,int xs.length),(11,int i)])
    (fun i wr=>i≤xs.length∧Ext wX wr∧∀(j:Nat) (c:Cls) (y:Int),j<i→cs[j]?=some c→xs[j]?=some y→inC D1 segs y c=true) (fun i=>xs.length-i) 0
    ⟨rfl,rfl,rfl,rfl,rfl,trivial⟩ ⟨Nat.zero_le _,Ext.refl _,fun _ _ _ h=>absurd h (by omega)⟩ ?_
  rintro i wr ⟨hi,hxr,hall⟩
  replace hX:=hX.trans hxr;replace hy0:=hy0.ext hxr;replace hv:=hv.ext hxr;replace gC:=gC.ext hxr;replace rX:=rX.ext hxr
  by_cases hlt:i<xs.length
  · obtain⟨b,off,rfl⟩:=hp (by omega)
    obtain⟨y,hyi⟩:∃ y,xs[i]?=some y:=⟨_,List.getElem?_eq_getElem hlt⟩
    obtain⟨c,hci⟩:∃ c,cs[i]?=some c:=⟨_,List.getElem?_eq_getElem (by omega)⟩
    have hcy:=(Go.Pv.int_elem hy0 hyi).one
    have ci:=C2g segs cs i c hci y v cv wr hv gC
    cases hb:inC D1 segs y c with
    | true=>
      rw [hb] at ci
      (repeat' (first|refine eV Z Z (A0 (m:=i) Z Z Z (by first|rfl|omega) (by omega)) ?_|(refine A8 Z Z (L2 (cap:=[]) Z Z Z en245) ci (fun vC wC hC=>?_);obtain⟨rfl,xC⟩:=hC;replace hX:=hX.trans xC;replace hxr:=hxr.trans xC)|refine Ly ?_|refine Dy (fun hh=>?_) fun hh=>?_))
      all_goals (try (exfalso;omega))
      refine B3 (i+1) ⟨rfl,rfl,rfl,rfl,rfl,trivial⟩ ⟨by omega,hxr,fun j c' y' hj hc' hy'=>?_⟩ (by omega)
      by_cases e:j=i
      · subst e;rw [hyi] at hy';rw [hci] at hc';cases hy';cases hc';exact hb
      · exact hall j c' y' (by omega) hc' hy'
    | false=>
      rw [hb] at ci
      rw [fits_no hci hyi hb]
      (repeat' (first|refine eV Z Z (A0 (m:=i) Z Z Z (by first|rfl|omega) (by omega)) ?_|(refine A8 Z Z (L2 (cap:=[]) Z Z Z en245) ci (fun vC wC hC=>?_);obtain⟨rfl,xC⟩:=hC;replace hX:=hX.trans xC;replace hxr:=hxr.trans xC)|refine Ly ?_|refine Dy (fun hh=>?_) fun hh=>?_))
      all_goals (try (exfalso;omega))
      exact A4 Z Z ⟨rfl,hX⟩
  · rw [C5j (fun j c y hc' hy'=>hall j c y (by have:=(List.getElem?_eq_some_iff.1 hy').1;omega) hc' hy')]
    (repeat' (first|refine Sy ?_|refine Dy (fun hh=>?_) fun hh=>?_))
    all_goals (try (exfalso;omega))
    exact A4 Z Z ⟨rfl,hX⟩
end
end Go.Proofs.YtjicdgejhkgpgaaGreatDoor