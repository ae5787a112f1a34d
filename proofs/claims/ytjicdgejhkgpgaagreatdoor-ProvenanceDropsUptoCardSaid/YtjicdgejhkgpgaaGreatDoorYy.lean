/-
  Own text of the proof.
-/
import Derived.Test.YtjicdgejhkgpgaaGreatDoorYx
import Derived.Test.YtjicdgejhkgpgaaGreatDoorYw
import Derived.Test.YtjicdgejhkgpgaaGreatDoorYi
set_option linter.all false
set_option maxHeartbeats 8000000
set_option maxRecDepth 8000
namespace Go.Proofs.YtjicdgejhkgpgaaGreatDoor
section
open Go.RowKit Go.En Go.Pv
def NtAt (w:World) (bN:Nat) (ns:List Note):Prop:=Row w bN 80 (ns.map B9).flatten
theorem NtAt.sl {w:World} {bN:Nat} {ns:List Note} (h:NtAt w bN ns) (hl:ns.length≤1000):Sl w (.slice (some ⟨bN,0,none⟩) ns.length ns.length) ns:=R5 h (O5 _ _) (Nat.le_refl _) (by omega)
theorem NtAt.ext {w w':World} {bN:Nat} {ns:List Note} (h:NtAt w bN ns) (x:Ext w w'):NtAt w' bN ns:=Row.ext h x
theorem A7i:∀ l:List Note,(l.map B9).flatten.length=l.length*7
  | []=>rfl
  | n::r=>by
    rw [List.map_cons,List.flatten_cons,List.length_append,A7i r,List.length_cons]
    show 7+r.length*7=_
    omega
attribute [local irreducible] E EL K Val Enters Rt Calls bodyPost Code.wp RQ
theorem A4q (F : FuncId) (caps : List Value) (he : ∀ args w, (Go.callFunc F args).run Tryz.prog w = .ok (.enter F args) w) (p : Note → Bool) (l : List Note) (v : Value) (w : World) (hv : Sl w v l)
    (hF:∀(x:Note) (wq:World),Ext w wq→Calls Tryz.prog F ([Value.agg #[int x.id,int x.tier,int x.parent,int x.frm,int x.til,int x.rank,str x.text] ]++caps).toArray wq (Rt fun u w'=>u=.bool (p x)∧Ext wq w')) :
    Calls Tryz.prog 115 #[v,.func (.func F) #[] caps.toArray] w (Rt fun u w'=>((u=int (-1)∧∀ x∈l,p x=false)∨∃(k:Nat) (x:Note),u=int (k:Int)∧k<l.length∧l[k]?=some x∧p x=true∧∀ j y,j<k→l[j]?=some y→p y=false)∧Ext w w'):=by
  have hv0:=hv
  obtain⟨a,cap,rfl,hc,hm,hp⟩:=hv.sl
  refine A6 (n:=19) (args:=[.slice a l.length cap,.func (.func F) #[] caps.toArray]) Tryz.func115 rfl Tryz.ntmps115 (by simp) ?_
  (repeat' (first|refine Sy ?_))
  refine B0 (ι:=Nat) (fun i=>[(0,.slice a l.length cap),(1,.func (.func F) #[] caps.toArray),(7,int l.length),(8,int i)])
    (fun i wr=>i≤l.length∧Ext w wr∧∀ j y,j<i→l[j]?=some y→p y=false) (fun i=>l.length-i) 0
    ⟨rfl,rfl,rfl,rfl,trivial⟩ ⟨Nat.zero_le _,Ext.refl _,fun j y hj=>absurd hj (by omega)⟩ ?_
  rintro i wr ⟨hi,hx,hno⟩
  by_cases hlt:i<l.length
  · obtain⟨b,off,rfl⟩:=hp (by omega)
    obtain⟨x,hx1⟩:∃ x,l[i]?=some x:=⟨_,List.getElem?_eq_getElem hlt⟩
    have hat:=D7 (hv0.ext hx) hx1
    have cF:=hF x wr hx
    cases hpx:p x with
    | true=>
      rw [hpx] at cF
      (repeat' (first|refine eV Z Z (A0 (m:=i) Z Z Z (by first|rfl|omega) (by omega)) ?_|(refine A8 Z Z (L2 (cap:=caps) Z Z Z he) cF (fun vC wC hC=>?_);obtain⟨rfl,xC⟩:=hC)|refine Ly ?_|refine Dy (fun hh=>?_) fun hh=>?_))
      all_goals (try (exfalso;omega))
      exact A4 Z Z ⟨.inr ⟨i,x,rfl,hlt,hx1,hpx,hno⟩,hx.trans xC⟩
    | false=>
      rw [hpx] at cF
      (repeat' (first|refine eV Z Z (A0 (m:=i) Z Z Z (by first|rfl|omega) (by omega)) ?_|(refine A8 Z Z (L2 (cap:=caps) Z Z Z he) cF (fun vC wC hC=>?_);obtain⟨rfl,xC⟩:=hC)|refine Ly ?_|refine Dy (fun hh=>?_) fun hh=>?_))
      all_goals (try (exfalso;omega))
      refine B3 (i+1) ⟨rfl,rfl,rfl,rfl,trivial⟩ ⟨by omega,hx.trans xC,fun j y hj hy=>?_⟩ (by omega)
      by_cases ee:j=i
      · subst ee
        rw [hx1] at hy
        cases hy
        exact hpx
      · exact hno j y (by omega) hy
  · obtain rfl:i=l.length:=by omega
    (repeat' (first|refine Sy ?_|refine Dy (fun hh=>?_) fun hh=>?_))
    all_goals (try (exfalso;omega))
    exact A4 Z Z ⟨.inl ⟨rfl,fun x hxm=>by
      obtain⟨j,hj⟩:=List.getElem?_of_mem hxm
      exact hno j x (List.getElem?_eq_some_iff.1 hj).1 hj⟩,hx⟩
theorem C3a (x:Note) (id:Int) (bI:Nat) (w:World) (rI:Row w bI 3 [int id]):Calls Tryz.prog 146 #[.agg #[int x.id,int x.tier,int x.parent,int x.frm,int x.til,int x.rank,str x.text],.pointer (some ⟨bI,0,none⟩)] w (Rt fun u w'=>u=.bool (decide (x.id=id))∧Ext w w'):=by
  refine A6 (n:=8) (args:=[.agg #[int x.id,int x.tier,int x.parent,int x.frm,int x.til,int x.rank,str x.text],.pointer (some ⟨bI,0,none⟩)]) Tryz.func146 rfl Tryz.ntmps146 (by simp) ?_
  refine B4 ?_
  refine A9 ?_
  refine C2 Z Z Z Z (fun bB wB xB hbB rB=>?_)
  replace rI:=rI.ext xB
  have hX:=xB
  by_cases hid:x.id=id
  · rw [decide_eq_true hid]
    (repeat' (first|refine Ly ?_|refine Dy (fun hh=>?_) fun hh=>?_))
    all_goals (try (exfalso;omega))
    exact A4 Z Z ⟨rfl,hX⟩
  · rw [decide_eq_false hid]
    (repeat' (first|refine Ly ?_|refine Dy (fun hh=>?_) fun hh=>?_))
    all_goals (try (exfalso;omega))
    exact A4 Z Z ⟨rfl,hX⟩
theorem C3c (d:Dc) (v:Value) (id:Int) (w:World) (hv:DcAt w v d) (hq:∃ q∈d.notes,q.id=id):Calls Tryz.prog 113 #[v,int id] w (Rt fun u w'=>(∃(i:Nat) (q:Note),u=int (i:Int)∧d.notes[i]?=some q∧q.id=id∧∀ j y,j<i→d.notes[j]?=some y→decide (y.id=id)=false)∧Ext w w'):=by
  obtain⟨sv,tv,nv,rfl,hs,ht,hn⟩:=hv
  obtain⟨sa,sc,rfl,_,_,_⟩:=hs.sl
  obtain⟨ta,tc,rfl,_,_,_⟩:=ht.sl
  have hn0:=hn
  obtain⟨na,nc,rfl,_,_,_⟩:=hn.sl
  refine A6 (n:=9) (args:=[.agg #[int d.rid,str d.rname,int d.len,int d.day,.slice sa d.sp.length sc,.slice ta d.tiers.length tc,.slice na d.notes.length nc],int id]) Tryz.func113 rfl Tryz.ntmps113 (by simp) ?_
  refine B4 ?_
  refine A9 ?_
  refine C2 Z Z Z Z (fun bB wB xB hbB rB=>?_)
  refine C6 Z Z Z Z (fun bI wI xI hbI rI=>?_)
  replace rI:Row wI bI 3 [int id]:=rI
  replace rB:=rB.ext xI
  have hX:=xB.trans xI
  have ci:=fun wz (hz:Ext wI wz)=>A4q 146 [.pointer (some ⟨bI,0,none⟩)] en146 (fun n=>decide (n.id=id)) d.notes _ wz (hn0.ext (hX.trans hz)) (fun x wq hx=>C3a x id bI wq (rI.ext (hz.trans hx)))
  have hxI:=Ext.refl wI
  (repeat' (first|refine eV Z Z (J6 (vs:=[.pointer (some ⟨bI,0,none⟩)]) Z Z) ?_|(refine A8 Z Z (A5 Z Z en115) (ci _ hxI) (fun vC wC hC=>?_);obtain⟨hC,xC⟩:=hC;replace hX:=hX.trans xC;rcases hC with⟨rfl,hC⟩|⟨k,q,rfl,hk,hkq,hpq,hno⟩)|refine Ly ?_))
  all_goals (try (exfalso;omega))
  · obtain⟨q,hqm,hqi⟩:=hq
    have:=hC q hqm
    rw [decide_eq_true hqi] at this
    cases this
  · exact A4 Z Z ⟨⟨k,q,rfl,hkq,of_decide_eq_true hpq,hno⟩,hX⟩
theorem C3b (d:Dc) (v:Value) (id:Int) (w:World) (hv:DcAt w v d) (hq:∃ q∈d.notes,q.id=id):Calls Tryz.prog 113 #[v,int id] w (Rt fun u w'=>u=int ((d.notes.findIdx fun n=>decide (n.id=id):Nat):Int)∧Ext w w'):=by
  refine C0 (C3c d v id w hv hq) (fun u w' hh=>?_)
  obtain⟨⟨i,q,rfl,hi,hid,hno⟩,x⟩:=hh
  refine⟨?_,x⟩
  have:d.notes.findIdx (fun n=>decide (n.id=id))=i:=by
    obtain⟨hl,he⟩:=List.getElem?_eq_some_iff.1 hi
    rw [List.findIdx_eq hl]
    refine⟨by rw [he];exact decide_eq_true hid,fun j hj=>?_⟩
    exact hno j _ hj (List.getElem?_eq_getElem (by omega))
  rw [this]
theorem B2g (d:Dc) (sv tv nv:Value) (w:World) (hs:Sl w sv d.sp) (ht:Sl w tv d.tiers) (hn:Sl w nv d.notes) (hl:d.notes.length≤1000) :
    Calls Tryz.prog 77 #[.agg #[int d.rid,str d.rname,int d.len,int d.day,sv,tv,nv] ] w (Rt fun u w'=>(∃ bN,w.heap.size≤bN∧u=.agg #[int d.rid,str d.rname,int d.len,int d.day,sv,tv,.slice (some ⟨bN,0,none⟩) d.notes.length d.notes.length]∧NtAt w' bN d.notes)∧Ext w w'):=by
  obtain⟨sa,sc,rfl,_,_,_⟩:=hs.sl
  obtain⟨ta,tc,rfl,_,_,_⟩:=ht.sl
  have hn0:=hn
  obtain⟨na,nc,rfl,_,_,_⟩:=hn.sl
  obtain⟨css,hA,hcs⟩:=hn0.css
  have hfl:=AtsG.flat hA
  have hfl':css.flatten.length=d.notes.length*7:=hfl
  have hcc:css.flatten=(d.notes.map B9).flatten:=by
    congr 1
    exact B0j hA
  refine A6 (n:=15) (args:=[.agg #[int d.rid,str d.rname,int d.len,int d.day,.slice sa d.sp.length sc,.slice ta d.tiers.length tc,.slice na d.notes.length nc] ]) Tryz.func77 rfl Tryz.ntmps77 (by simp) ?_
  refine B4 ?_
  refine A9 ?_
  refine C2 Z Z Z Z (fun bB wB xB hbB rB=>?_)
  have hX:=xB
  have rBb:=rB
  (repeat' (first|(refine C3 Z Z Z (fun bA wA xA hbA rA=>?_);replace hX:=hX.trans xA;replace rB:=rB.ext xA)|(refine EL_makeN (m:=d.notes.length) Z Z Z Z Z Z Z (by omega) (by omega) (fun bM wM cur hbM rM hcl xM=>?_);have rB0:=rB;have rA0:=rA;replace rB:=rB.ext xM;replace rA:=rA.ext xM;have hX0:=hX;replace hX:=hX.trans xM)|refine Ly ?_))
  have hge:w.heap.size≤bM:=by have:=hX0.size;omega
  have hBM:bB≠bM:=by have:=rB0.lt;omega
  have hAM:bA≠bM:=by have:=rA0.lt;omega
  have hAB:bA≠bB:=by have:=xB.size;have:=rBb.lt;omega
  refine B2u (cs:=css.flatten) (off:=0) rM hX hge rfl rfl rfl rfl rfl (q:=d.notes.length) (by omega) hfl' (fun h0=>⟨rfl,by obtain⟨b,so,e1,_,e2⟩:=hcs h0;exact⟨b,so,e1,e2.ext hX⟩⟩) (by omega) (by omega) (AtsG.ones hA) (fun w1 r1 x1 k1=>?_)
  have r1':NtAt w1 bM d.notes:=by
    rw [List.take_zero,List.nil_append,List.drop_eq_nil_of_le (by omega),List.append_nil,hcc] at r1
    exact r1
  have kb:∀ {q:Nat} {wa wb:World},Kb (some q) wa wb→Kx (fun b=>b=q) wa wb:=fun k=>Kx.of_kb k rfl
  have kt:Kx (fun b=>w.heap.size≤b) w w1:=(Kx.of_ext hX).trans ((kb k1).wk (fun _ e=>by subst e;exact hge))
  replace rB:=(kb k1).row rB hBM
  replace rA:=(kb k1).row rA hAM
  have hge1:w.heap.size≤w1.heap.size:=kt.size
  (repeat' (first|(refine J0 Z Z Z Z Z Z Z rB (Nat.le_of_ble_eq_true rfl) (fun wS rS kS _=>?_);replace rS:Row wS bB 72 [int d.rid,str d.rname,int d.len,int d.day,.slice sa d.sp.length sc,.slice ta d.tiers.length tc,.slice (some ⟨bM,0,none⟩) d.notes.length d.notes.length]:=rS;clear rB;replace kt:=kt.trans ((kb kS).wk (fun _ e=>by subst e;omega));replace r1':=(kb kS).row r1' (Ne.symm hBM);replace rA:=(kb kS).row rA hAB)|(refine J0 Z Z Z Z Z Z Z rA (Nat.le_of_ble_eq_true rfl) (fun wT rT kT _=>?_);replace rT:Row wT bA 72 [int d.rid,str d.rname,int d.len,int d.day,.slice sa d.sp.length sc,.slice ta d.tiers.length tc,.slice (some ⟨bM,0,none⟩) d.notes.length d.notes.length]:=rT;replace kt:=kt.trans ((kb kT).wk (fun _ e=>by subst e;have:=xB.size;omega));replace r1':=(kb kT).row r1' (Ne.symm hAM))|refine Ly ?_))
  exact A9m Z Z Z rT.at rfl ⟨⟨bM,hge,rfl,r1'⟩,kt.ext (fun b hb h=>by omega)⟩
end
section
open Go.RowKit Go.En Go.Pv
theorem Grow.lit {w0 w:World} {b:Nat} {x:Int} (hr:Row w b 3 [int x]) (h:Ext w0 w) (hb:w0.heap.size≤b):Grow (α:=Int) Tt w0 3 [x] (.slice (some ⟨b,0,none⟩) 1 1) w:=
  ⟨h,[[int x] ],K9 (n:=1) (size:=1) hr (by simp) hb (by omega),⟨rfl,trivial⟩⟩
attribute [local irreducible] E EL K Val Enters Rt Calls bodyPost Code.wp RQ
theorem A8g {d:Dc} (hL:LightD d) {n0:Note} (h0:n0∈d.notes) (v:Value) (w:World) (hv:DcAt w v d):Calls Tryz.prog 76 #[v,int n0.id] w (Rt fun u w'=>(∃ out:List Int,SlG (fun b=>w.heap.size≤b) w' u out)∧Ext w w'):=by
  have hnl:=hL.nnotes
  obtain⟨sv,tv,nv,rfl,hs,ht,hn⟩:=hv
  obtain⟨sa,sc,rfl,_,_,_⟩:=hs.sl
  obtain⟨ta,tc,rfl,_,_,_⟩:=ht.sl
  have hn0:=hn
  obtain⟨na,nc,rfl,_,_,hnp⟩:=hn.sl
  obtain⟨nb,no,rfl⟩:=hnp (List.length_pos_of_mem h0)
  refine A6 (n:=39) (args:=[.agg #[int d.rid,str d.rname,int d.len,int d.day,.slice sa d.sp.length sc,.slice ta d.tiers.length tc,.slice (some ⟨nb,no,none⟩) d.notes.length nc],int n0.id]) Tryz.func76 rfl Tryz.ntmps76 (by simp) ?_
  refine B4 ?_
  refine A9 ?_
  refine C2 Z Z Z Z (fun bB wB xB hbB rB=>?_)
  have hX:=xB
  (repeat' (first|refine Sy ?_|refine eL Z Z Z Z Z Z Z Z (fun bS wS xS hbS rS=>?_)))
  have hg0:=Grow.lit rS xS (by omega)
  refine B0 (ι:=Nat × List Int × Value) (fun z=>[(2,.pointer (some ⟨bB,0,none⟩)),(5,z.2.2),(6,int z.1)])
    (fun z wr=>Sub d n0 z.1 0 [] z.2.1∧Grow Tt wB 3 z.2.1 z.2.2 wr) (fun z=>d.notes.length-z.1) (0,[n0.id],.slice (some ⟨bS,0,none⟩) 1 1)
    ⟨rfl,rfl,rfl,trivial⟩ ⟨Sub.one h0,hg0⟩ ?_
  rintro⟨i,out,ov⟩ wr ⟨hS,hgr⟩
  dsimp only at hS hgr ⊢
  have hol:=hS.len
  have hsl:=hgr.sl (fun _ _=>trivial) (by omega)
  obtain⟨oa,oc,rfl,_,_,hop⟩:=hsl.sl
  have hil:=hS.hi
  by_cases hlt:i<out.length
  · obtain⟨c,hc⟩:∃ c,out[i]?=some c:=⟨_,List.getElem?_eq_getElem hlt⟩
    have rBr:=rB.ext hgr.x
    (repeat' (first|refine Ly ?_|refine Dy (fun hh=>?_) fun hh=>?_))
    all_goals (try (exfalso;omega))
    refine B0 (ι:=Nat × List Int × Value) (fun z=>[(2,.pointer (some ⟨bB,0,none⟩)),(5,z.2.2),(6,int i),(18,.slice (some ⟨nb,no,none⟩) d.notes.length nc),(19,int d.notes.length),(20,int z.1)])
      (fun z wr=>z.1≤d.notes.length∧Sub d n0 i c (d.notes.take z.1) z.2.1∧z.2.1[i]?=some c∧Grow Tt wB 3 z.2.1 z.2.2 wr) (fun z=>d.notes.length-z.1) (0,out,.slice oa out.length oc)
      ⟨rfl,rfl,rfl,rfl,rfl,rfl,trivial⟩ ⟨Nat.zero_le _,hS.re,hc,hgr⟩ ?_
    clear hsl hgr rBr hop
    rintro⟨j,out2,ov2⟩ wm ⟨hj,hS2,hc2,hgr⟩
    dsimp only at hj hS2 hc2 hgr ⊢
    have hol2:=hS2.len
    have hil2:=(List.getElem?_eq_some_iff.1 hc2).1
    have hsl:=hgr.sl (fun _ _=>trivial) (by omega)
    obtain⟨oa2,oc2,rfl,_,_,hop⟩:=hsl.sl
    obtain⟨ob,oo,rfl⟩:=hop (by omega)
    by_cases hjl:j<d.notes.length
    · obtain⟨n,hjn⟩:∃ n,d.notes[j]?=some n:=⟨_,List.getElem?_eq_getElem hjl⟩
      have rBr:=rB.ext hgr.x
      have hat:=D7 (hn0.ext (hX.trans hgr.x)) hjn
      have hci:=int_elem hsl hc2
      have hxm:=Ext.refl wm
      by_cases hp:n.parent=c
      · have hadd:=hS2.add hL h0 hc2 hjn hp
        (repeat' (first|(refine yN Z (fun wq xq=>?_);replace hxm:=hxm.trans xq;replace hgr:=hgr.ext xq;replace hat:=hat.ext xq;replace hci:=Ext.cell xq hci;replace rN:=rN.ext xq)|refine eV Z Z (A0 (m:=j) Z Z Z (by first|rfl|omega) (by omega)) ?_|refine yV Z Z (fun _ _ _=>A0 (m:=i) Z Z Z (by first|rfl|omega) (by omega)) ?_|(refine C1 Z Z Z Z Z Z Z Z Z Z (fun bN wN xN hbN rN=>?_);replace hxm:=hxm.trans xN;replace hgr:=hgr.ext xN;replace hat:=hat.ext xN;replace hci:=Ext.cell xN hci)|(refine M1 (x:=n.id) (hgr.ext xS) rS rfl rfl rfl rfl rfl rfl rfl rfl (by omega) (by omega) (fun vK wK hK=>?_))|refine Ly ?_|refine Dy (fun hh=>?_) fun hh=>?_|refine yqY ?_|refine yqZ ?_|refine yqX (fun hh=>?_) fun hh=>?_|refine eL Z Z Z Z Z Z Z Z (fun bS wS xS hbS rS=>?_)|refine E_dq B5 (by kernel_rfl) Z ?_))
        all_goals (try (exfalso;omega))
        exact B3 (j+1,out2++[n.id],vK) ⟨rfl,rfl,rfl,rfl,rfl,rfl,trivial⟩ ⟨by dsimp only;omega,hadd,by dsimp only;rw [List.getElem?_append_left hil2];exact hc2,hK⟩ (by dsimp only;omega)
      · have hskip:=hS2.skip hjn
        (repeat' (first|(refine yN Z (fun wq xq=>?_);replace hxm:=hxm.trans xq;replace hgr:=hgr.ext xq;replace hat:=hat.ext xq;replace hci:=Ext.cell xq hci;replace rN:=rN.ext xq)|refine eV Z Z (A0 (m:=j) Z Z Z (by first|rfl|omega) (by omega)) ?_|refine yV Z Z (fun _ _ _=>A0 (m:=i) Z Z Z (by first|rfl|omega) (by omega)) ?_|(refine C1 Z Z Z Z Z Z Z Z Z Z (fun bN wN xN hbN rN=>?_);replace hxm:=hxm.trans xN;replace hgr:=hgr.ext xN;replace hat:=hat.ext xN;replace hci:=Ext.cell xN hci)|refine Ly ?_|refine Dy (fun hh=>?_) fun hh=>?_|refine yqY ?_|refine yqZ ?_|refine yqX (fun hh=>?_) fun hh=>?_|refine eL Z Z Z Z Z Z Z Z (fun bS wS xS hbS rS=>?_)|refine E_dq B5 (by kernel_rfl) Z ?_))
        all_goals (try (exfalso;omega))
        exact B3 (j+1,out2,.slice (some ⟨ob,oo,none⟩) out2.length oc2) ⟨rfl,rfl,rfl,rfl,rfl,rfl,trivial⟩ ⟨by dsimp only;omega,hskip,hc2,hgr⟩ (by dsimp only;omega)
    · rw [List.take_of_length_le (by omega)] at hS2
      (repeat' (first|refine Sy ?_|refine Dy (fun hh=>?_) fun hh=>?_))
      all_goals (try (exfalso;omega))
      exact B3 (i+1,out2,.slice (some ⟨ob,oo,none⟩) out2.length oc2) ⟨rfl,rfl,rfl,trivial⟩ ⟨hS2.next hc2,hgr⟩ (by dsimp only;omega)
  · have cs:=A4i out (.slice oa out.length oc) wr hsl (by omega)
    replace hX:=hX.trans hgr.x
    have hXs:=hX.size
    (repeat' (first|(refine A8 Z Z (A5 Z Z en66) cs (fun vC wC hC=>?_);obtain⟨xC,sC⟩:=hC;replace hX:=hX.trans xC)|refine Sy ?_|refine Dy (fun hh=>?_) fun hh=>?_))
    all_goals (try (exfalso;omega))
    exact A4 Z Z ⟨⟨_,SlG.wk sC (fun b hb=>Nat.le_trans hXs hb)⟩,hX⟩
end
section
open Go.RowKit Go.En Go.Pv
theorem C5h {id:Int} {a:List Prt} {i:Nat} {p:Prt} (h:a[i]?=some p):Go.Pv.hitB id (a.take (i+1))=(Go.Pv.hitB id (a.take i)||p.entry==id):=by
  obtain⟨h1,h2⟩:=List.getElem?_eq_some_iff.1 h
  unfold Go.Pv.hitB
  rw [List.take_succ_eq_append_getElem h1,h2,List.any_append];simp
attribute [local irreducible] E EL K Val Enters Rt Calls bodyPost Code.wp RQ
theorem B6n (id:Int) (a:List Prt) (bI bU:Nat) (b0:Bool) (av bv:Value) (w:World) (hne:bI≠bU) (ha:SlG (fun b=>b≠bU) w av a) (hI:Row w bI 3 [int id]) (hU:Row w bU 4 [.bool b0]) :
    Calls Tryz.prog 71 #[av,bv,.pointer (some ⟨bI,0,none⟩),.pointer (some ⟨bU,0,none⟩)] w (Rt fun u w'=>u=.bool (!(b0||Go.Pv.hitB id a))∧Kx (fun b=>b=bU) w w'∧Row w' bU 4 [.bool (b0||Go.Pv.hitB id a)]):=by
  have ha0:=ha
  obtain⟨aa,ac,rfl,_,hm,hp⟩:=ha.sl
  refine A6 (n:=22) (args:=[.slice aa a.length ac,bv,.pointer (some ⟨bI,0,none⟩),.pointer (some ⟨bU,0,none⟩)]) Tryz.func71 rfl Tryz.ntmps71 (by simp) ?_
  (repeat' (first|refine Sy ?_))
  refine B0 (ι:=Nat) (fun i=>[(2,.pointer (some ⟨bI,0,none⟩)),(3,.pointer (some ⟨bU,0,none⟩)),(9,.slice aa a.length ac),(10,int a.length),(11,int i)])
    (fun i wr=>i≤a.length∧Kx (fun b=>b=bU) w wr∧Row wr bU 4 [.bool (b0||Go.Pv.hitB id (a.take i))]) (fun i=>a.length-i) 0
    ⟨rfl,rfl,rfl,rfl,rfl,trivial⟩ ⟨Nat.zero_le _,Kx.of_ext (Ext.refl _),by simpa [Go.Pv.hitB] using hU⟩ ?_
  rintro i wr ⟨hi,hk,hUr⟩
  have hIr:=hk.row hI hne
  have har:=ha0.move (hk.mv (fun b hb=>hb))
  by_cases hlt:i<a.length
  · obtain⟨b,off,rfl⟩:=hp (by omega)
    obtain⟨p,hpi⟩:∃ p,a[i]?=some p:=⟨_,List.getElem?_eq_getElem hlt⟩
    have hat:=C4g har hpi
    have hh2:=C5h (id:=id) hpi
    have hXr:=Ext.refl wr
    by_cases hpe:p.entry=id
    · have e1:(p.entry==id)=true:=by simpa using hpe
      rw [e1,Bool.or_true] at hh2
      (repeat' (first|(refine C1 Z Z Z Z Z Z Z Z Z Z (fun bN wN xN hbN rN=>?_);replace hXr:=hXr.trans xN;replace hIr:=hIr.ext xN;replace hUr:=hUr.ext xN)|refine eV Z Z (A0 (m:=i) Z Z Z (by first|rfl|omega) (by omega)) ?_|(refine J0 Z Z Z Z Z Z Z hUr (Nat.le_refl _) (fun wU rU kU _=>?_))|refine Ly ?_|refine Dy (fun hh=>?_) fun hh=>?_))
      all_goals (try (exfalso;omega))
      refine B3 (i+1) ⟨rfl,rfl,rfl,rfl,rfl,trivial⟩ ⟨by omega,hk.trans ((Kx.of_ext hXr).trans (Kx.of_kb kU rfl)),?_⟩ (by omega)
      rw [hh2,Bool.or_true]
      exact rU
    · have e1:(p.entry==id)=false:=by simpa using hpe
      rw [e1,Bool.or_false] at hh2
      (repeat' (first|(refine C1 Z Z Z Z Z Z Z Z Z Z (fun bN wN xN hbN rN=>?_);replace hXr:=hXr.trans xN;replace hIr:=hIr.ext xN;replace hUr:=hUr.ext xN)|refine eV Z Z (A0 (m:=i) Z Z Z (by first|rfl|omega) (by omega)) ?_|refine Ly ?_|refine Dy (fun hh=>?_) fun hh=>?_))
      all_goals (try (exfalso;omega))
      refine B3 (i+1) ⟨rfl,rfl,rfl,rfl,rfl,trivial⟩ ⟨by omega,hk.trans (Kx.of_ext hXr),?_⟩ (by omega)
      rw [hh2]
      exact hUr
  · obtain rfl:i=a.length:=by omega
    rw [List.take_length] at hUr
    (repeat' (first|refine Ly ?_|refine Dy (fun hh=>?_) fun hh=>?_))
    all_goals (try (exfalso;omega))
    exact A4 Z Z ⟨rfl,hk,hUr⟩
end
section
open Go.RowKit Go.En Go.Pv
structure Srch (g:Lg) (ws:List Int) (id:Int) (pv uv tv rv sv fv ev wv:Value) (fin:Nat) (bS bT bI bU:Nat) (w:World):Prop where
  row:Row w bS 178 (srC g pv uv tv rv sv fv ev wv (.map (some bT)) (.func (.func 71) #[] #[.pointer (some ⟨bI,0,none⟩),.pointer (some ⟨bU,0,none⟩)]) (shrB g.rules) fin)
  tried:Tried g ws w bT
  segs:SlG (fun b=>b≠bT∧b≠bU) w pv g.segs
  rules:SlG (fun b=>b≠bT∧b≠bU) w rv g.rules
  steps:SlG (fun b=>b≠bT∧b≠bU) w sv g.net.steps
  lex:SlG (fun b=>b≠bT∧b≠bU) w ev g.lex
  word:SlG (fun b=>b≠bT∧b≠bU) w wv ws
  idc:Row w bI 3 [int id]
  is:Row w bU 4 [.bool false]
  n1:bS≠bT∧bS≠bU
  n2:bI≠bT∧bI≠bU
  n3:bT≠bU
def TU (bT bU:Nat):Nat→Prop:=fun b=>b=bT∨b=bU
variable {g : Lg} {ws : List Int} {id : Int} {pv uv tv rv sv fv ev wv : Value} {fin bS bT bI bU : Nat} {w w' : World}
theorem Srch.tlt (h:Srch g ws id pv uv tv rv sv fv ev wv fin bS bT bI bU w):bT<w.heap.size:=by
  obtain⟨f,h1,_⟩:=h.tried
  exact h1.lt
theorem Srch.ext (h:Srch g ws id pv uv tv rv sv fv ev wv fin bS bT bI bU w) (x:Ext w w'):Srch g ws id pv uv tv rv sv fv ev wv fin bS bT bI bU w':=
  ⟨h.row.ext x,h.tried.ext x,h.segs.ext x,h.rules.ext x,h.steps.ext x,h.lex.ext x,h.word.ext x,h.idc.ext x,h.is.ext x,h.n1,h.n2,h.n3⟩
theorem gxT {bT bU b:Nat} (h:b≠bT∧b≠bU):¬ TU bT bU b:=fun h'=>by rcases h' with h'|h';exact h.1 h';exact h.2 h'
theorem Srch.kx (h:Srch g ws id pv uv tv rv sv fv ev wv fin bS bT bI bU w) (k:Kx (TU bT bU) w w') (ht:Tried g ws w' bT) (hu:Row w' bU 4 [.bool false]):Srch g ws id pv uv tv rv sv fv ev wv fin bS bT bI bU w':=
  ⟨k.row h.row (gxT h.n1),ht,h.segs.move (k.mv fun _ hb=>gxT hb),h.rules.move (k.mv fun _ hb=>gxT hb),h.steps.move (k.mv fun _ hb=>gxT hb),h.lex.move (k.mv fun _ hb=>gxT hb),h.word.move (k.mv fun _ hb=>gxT hb),k.row h.idc (gxT h.n2),hu,h.n1,h.n2,h.n3⟩
def SRes (g:Lg) (ws:List Int) (bT bU:Nat) (w:World) (r:Bool):Value→World→Prop:=fun u w'=>u=.bool (!r)∧Kx (TU bT bU) w w'∧Tried g ws w' bT∧Row w' bU 4 [.bool r]
def belX (L:Lx) (ws:List Int) (id:Int) (k:Nat) (a:List Prt) (S:Int→Bool) (base:List Int) (e:En):Bool:=
  decide ((L6 L.lex e.id).length≠0)&&(D4 e).zipIdx.any fun fi=>decide (base.length+fi.1.length≤L.most)&&(Go.Pv.hereB L ws id (a++[⟨e.id,(fi.2:Int),0⟩]) S (base++fi.1)||belB L ws id k (a++[⟨e.id,(fi.2:Int),0⟩]) S (base++fi.1))
theorem C6k (L:Lx) (ws:List Int) (id:Int) (k:Nat) (a:List Prt) (S:Int→Bool) (base:List Int):belB L ws id (k+1) a S base=L.lex.any fun e=>S6 L.net.states.toNat (aftB L.net.steps S e.cls) (fun _=>true)&&belX L ws id k a (aftB L.net.steps S e.cls) base e:=by
  rw [belB]
  congr 1
  funext e
  unfold belX
  rw [Bool.and_assoc]
def C6s (g : Lg) (ws : List Int) (id : Int) (pv uv tv rv sv fv ev wv : Value) (fin : Nat) (bS bT bI bU : Nat) (k : Nat) : Prop :=
  ∀(a:List Prt) (S:Int→Bool) (m:Nat) (base:List Int) (av bv:Value) (w:World),a.length+k=4→MaskIs m S→OKb base→base.length≤24→Srch g ws id pv uv tv rv sv fv ev wv fin bS bT bI bU w→SlG (fun b=>b≠bT∧b≠bU) w av a→SlG (fun b=>b≠bT∧b≠bU) w bv base→
    Calls Tryz.prog 108 #[.pointer (some ⟨bS,0,none⟩),av,.int .u32 (m:Int),bv] w (Rt (SRes g ws bT bU w (Go.Pv.hereB (lxOf g ws) ws id a S base||belB (lxOf g ws) ws id k a S base)))
def StepC (g : Lg) (ws : List Int) (id : Int) (pv uv tv rv sv fv ev wv : Value) (fin : Nat) (bS bT bI bU : Nat) (k : Nat) : Prop :=
  ∀(e:En) (a:List Prt) (S:Int→Bool) (m:Nat) (base:List Int) (X:List Value) (av bv:Value) (w:World),e∈g.lex→a.length+(k+1)=4→MaskIs m S→OKb base→base.length≤24→Srch g ws id pv uv tv rv sv fv ev wv fin bS bT bI bU w→Rep.at_ (fun b=>b≠bT∧b≠bU) w e X→SlG (fun b=>b≠bT∧b≠bU) w av a→SlG (fun b=>b≠bT∧b≠bU) w bv base→
    Calls Tryz.prog 141 #[.pointer (some ⟨bS,0,none⟩),.agg X.toArray,av,.int .u32 (m:Int),bv] w (Rt (SRes g ws bT bU w (belX (lxOf g ws) ws id k a S base e)))
theorem B5t {N:Net} (hok:NetOK N) {S:Int→Bool} {c:Int} {m:Nat} (h:MaskIs m (aftB N.steps S c)):(m≠0)↔S6 N.states.toNat (aftB N.steps S c) (fun _=>true)=true:=by
  rw [C0e h,B0i]
  constructor
  · rintro⟨q,hq⟩
    obtain⟨x,hx,_,_,ht⟩:=C6q.1 hq
    have:=hok.steps x hx
    exact⟨q,by omega,by omega,hq,rfl⟩
  · rintro⟨q,h0,_,hq,_⟩
    exact⟨q.toNat,by rw [Int.toNat_of_nonneg h0];exact hq⟩
theorem B5d {N:Net} (hok:NetOK N) {S:Int→Bool} {m fin:Nat} (h:MaskIs m S) (hf:MaskIs fin (finB N)):(m &&& fin≠0)↔S6 N.states.toNat S (finB N)=true:=by
  rw [C0e (C5a h hf),B0i]
  constructor
  · rintro⟨q,hq⟩
    rw [Bool.and_eq_true] at hq
    have hm:(q:Int)∈N.final:=by have:=hq.2;unfold finB at this;simpa using this
    have:=hok.final q hm
    exact⟨q,by omega,by omega,hq.1,hq.2⟩
  · rintro⟨q,h0,_,h1,h2⟩
    exact⟨q.toNat,by rw [Int.toNat_of_nonneg h0,h1,h2];rfl⟩
end
end Go.Proofs.YtjicdgejhkgpgaaGreatDoor