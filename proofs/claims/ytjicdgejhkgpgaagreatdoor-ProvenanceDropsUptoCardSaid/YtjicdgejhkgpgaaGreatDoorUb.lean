/-
  Own text of the proof.
-/
import Derived.Test.YtjicdgejhkgpgaaGreatDoorY1
import Derived.Test.YtjicdgejhkgpgaaGreatDoorYi
import Derived.Test.YtjicdgejhkgpgaaGreatDoorXTX
import Derived.Test.YtjicdgejhkgpgaaGreatDoorYh
import Derived.Test.YtjicdgejhkgpgaaGreatDoorYg
import Derived.Test.YtjicdgejhkgpgaaGreatDoorYj
import Derived.ArgAppend
import Derived.Deep.Upon
set_option linter.all false
set_option maxHeartbeats 8000000
set_option maxRecDepth 8000
namespace Go.En
open Go.RowKit
theorem B9w {P:Program} {n:Nat} {L:List (Nat × Value)} {w:World} {fn:Func} {S:Value→World→Prop} {s u t:Tmp} {x y:Value} {ty:TypeId} {d:TypeDesc} {b off:Nat} {cs:List Value} {z:Value} {size bytes:Nat} [UT P ty d] [TI P ty z size bytes] (hr:fn.results=#[.cell s ty,.tmp u,.tmp t])
    (hd:Y6 d=true) (hv:lk L s=some (.pointer (some ⟨b,off,none⟩))) (hc:At w b off cs) (hl:Nat.beq cs.length size=true) (hx:lk L u=some x) (hy:lk L t=some y) (hs:S (.tuple #[.agg cs.toArray,x,y]) w):K n (bodyPost P fn (Rt S)) .ret L w:=fun a ha=>by
  refine⟨ha.nod,.tuple #[.agg cs.toArray,x,y],?_,_,rfl,hs⟩
  have h1:=ha.get s _ hv
  have h2:=ha.get u _ hx
  have h5:=ha.get t _ hy
  have h3:=O0 (P:=P) (t:=ty) w
  rw [hd] at h3
  obtain⟨i0,hi0,_,hsz,_⟩:=Q1 (P:=P) (t:=ty) w
  have h4:=run_loadCells_list (P:=P) w ⟨b,off,none⟩ cs (fun j v hv=>by rw [D2];exact hc j v hv)
  rw [Nat.eq_of_beq_eq_true hl] at h4
  unfold loadCells at h4
  simp [results,hr,Array.getD_eq_getD_getElem?,h1,h2,h5,Instr.loadAt,Instr.sureAddr,loadVar,go_sem,h3,sizeOf,hi0,hsz,h4]
end Go.En
namespace Go.Proofs.YtjicdgejhkgpgaaGreatDoor
open Go.RowKit Go.En Go.Pv
attribute [local irreducible] E EL K Val Enters Rt Calls bodyPost Code.wp RQ
theorem NtAt.lt {w:World} {b:Nat} {ns:List Note} (h:NtAt w b ns):b<w.heap.size:=Row.lt h
theorem B8l (x:Note) (out:List Int) (ov:Value) (bO:Nat) (w:World) (rO:Row w bO 32 [ov]) (hO:Sl w ov out):Calls Tryz.prog 84 #[.agg #[int x.id,int x.tier,int x.parent,int x.frm,int x.til,int x.rank,str x.text],.pointer (some ⟨bO,0,none⟩)] w (Rt fun u w'=>u=.bool (decide (x.id∈out))∧Ext w w'):=by
  obtain⟨oa,oc,rfl,_,_,_⟩:=hO.sl
  refine A6 (n:=8) (args:=[.agg #[int x.id,int x.tier,int x.parent,int x.frm,int x.til,int x.rank,str x.text],.pointer (some ⟨bO,0,none⟩)]) Tryz.func84 rfl Tryz.ntmps84 (by simp) ?_
  refine B4 ?_
  refine A9 ?_
  refine C2 Z Z Z Z (fun bB wB xB hbB rB=>?_)
  replace rO:=rO.ext xB
  have hX:=xB
  have c85:=fun wz (hz:Ext w wz)=>C0j out x.id _ wz (hO.ext hz)
  obtain⟨bb,hbb⟩:∃ z,decide (x.id∈out)=z:=⟨_,rfl⟩
  rw [hbb] at c85 ⊢
  (repeat' (first|(refine cqC (c85 _ hX) en85 fun wC xC=>?_;replace hX:=hX.trans xC)|refine Ly ?_))
  all_goals (try (exfalso;omega))
  exact A4 Z Z ⟨rfl,hX⟩
theorem B8m {d:Dc} (hL:LightD d) (v:Value) (id:Int) (w:World) (hv:DcAt w v d):Calls Tryz.prog 43 #[v,int id] w (Rt fun u w'=>(∃(X:List Value) (oa:Option Addr) (on oc:Nat) (z:Int),u=.tuple #[.agg X.toArray,.slice oa on oc,int z]∧X.length=7∧X.all Value.oneCell'=true∧
    (z=0→∃(out:List Int) (ns:List Note),ns.map sk=(d.notes.map sk).filter (fun s=>!decide (s.1∈out))∧Rep.at_ Tt w' { d with notes:=ns } X∧Sl w' (.slice oa on oc) out))∧Ext w w'):=by
  have hv0:=hv
  have hnl:=hL.nnotes
  have htl:=hL.ntiers
  obtain⟨sv,tv,nv,rfl,hs,ht,hn⟩:=hv
  have hs0:=hs
  have ht0:=ht
  have hn0:=hn
  obtain⟨sa,sc,rfl,_,_,_⟩:=hs.sl
  obtain⟨ta,tc,rfl,_,_,_⟩:=ht.sl
  obtain⟨na,nc,rfl,_,_,_⟩:=hn.sl
  refine A6 (n:=83) (args:=[.agg #[int d.rid,str d.rname,int d.len,int d.day,.slice sa d.sp.length sc,.slice ta d.tiers.length tc,.slice na d.notes.length nc],int id]) Tryz.func43 rfl Tryz.ntmps43 (by simp) ?_
  refine B4 ?_
  refine A9 ?_
  refine C2 Z Z Z Z (fun bB wB xB hbB rB=>?_)
  refine C3 Z Z Z (fun bA wA xA hbA rA=>?_)
  have hBA:bA≠bB:=by have:=rB.lt;omega
  replace rB:=rB.ext xA
  have hX:=xB.trans xA
  have hwA:w.heap.size≤bA:=by have:=xB.size;omega
  have c36:=fun wz (hz:Ext w wz)=>A2l d _ id wz (hv0.ext hz)
  cases hg:getF d.notes id with
  | none=>
    have hgr:getR d.notes id=.tuple #[.agg #[int 0,int 0,int 0,int 0,int 0,int 0,str []],.bool false]:=by unfold getR;rw [hg];rfl
    rw [hgr] at c36
    (repeat' (first|(refine cqC (c36 _ hX) en36 fun wC xC=>?_;replace hX:=hX.trans xC;replace rA:=rA.ext xC)|(refine C1 Z Z Z Z Z Z Z Z Z Z (fun bN wN xN hbN rN=>?_);replace hX:=hX.trans xN;replace rA:=rA.ext xN)|refine eV Z Z (B6 (vs:=[]) [int 0,str [],int 0,int 0,.slice none 0 0,.slice none 0 0,.slice none 0 0] rfl rfl rfl) ?_|(refine B7 (cs:=[int 0,str [],int 0,int 0,.slice none 0 0,.slice none 0 0,.slice none 0 0]) rA hX (by omega) Z Z Z Z Z Z Z Z (Nat.le_of_ble_eq_true rfl) (fun wS rS xS kS=>?_))|refine Ly ?_))
    all_goals (try (exfalso;omega))
    all_goals
      replace rS:Row wS bA 72 [int 0,str [],int 0,int 0,.slice none 0 0,.slice none 0 0,.slice none 0 0]:=rS
      exact B9w Z Z Z rS.at rfl rfl rfl ⟨⟨_,none,0,0,9,rfl,rfl,rfl,fun h=>absurd h (by decide)⟩,xS⟩
  | some n=>
    have hgr:getR d.notes id=.tuple #[.agg #[int n.id,int n.tier,int n.parent,int n.frm,int n.til,int n.rank,str n.text],.bool true]:=by unfold getR;rw [hg];rfl
    rw [hgr] at c36
    obtain⟨hnm,hni⟩:=X0 hg
    subst hni
    have c76:=fun wz (hz:Ext w wz)=>A8g hL hnm _ wz (hv0.ext hz)
    (repeat' ((fail_if_success (refine B4 (x:=(Code.region 5 _ _)) ?_));first|(refine cqC (c36 _ hX) en36 fun wC xC=>?_;replace hX:=hX.trans xC;replace rA:=rA.ext xC;replace rB:=rB.ext xC;have hlB0:=rB.lt;have hlA0:=rA.lt)|(refine C1 Z Z Z Z Z Z Z Z Z Z (fun bN wN xN hbN rN=>?_);replace hX:=hX.trans xN;replace rA:=rA.ext xN;replace rB:=rB.ext xN)|(refine A8 Z Z (A5 Z Z en76) (c76 _ hX) (fun vS wS hS=>?_);obtain⟨⟨out,sS⟩,xS⟩:=hS;have hlA:=rA.lt;have hlB:=rB.lt;have hlN:=rN.lt;replace hX:=hX.trans xS;replace rA:=rA.ext xS;replace rB:=rB.ext xS;replace rN:=rN.ext xS;obtain⟨oa,oc,rfl,_,_,_⟩:=SlG.sl sS)|(refine C3 Z Z Z (fun bO wO xO hbO rO=>?_);refine B7 (cs:=[.slice oa out.length oc]) rO xO (by omega) Z Z Z Z Z Z Z Z (Nat.le_of_ble_eq_true rfl) (fun wP rP xP kP=>?_);replace hX:=hX.trans xP;replace rA:=rA.ext xP;replace rB:=rB.ext xP;replace rN:=rN.ext xP;replace sS:=SlG.ext sS xP;have hPl:=rP.lt;have hPs:=xP.size;have hSs:=xS.size)|refine Ly ?_))
    all_goals (try (exfalso;omega))
    obtain⟨w4,rfl⟩:∃ z,z=wP:=⟨_,rfl⟩
    replace rP:Row w4 bO 32 [.slice oa out.length oc]:=rP
    have hwB:w.heap.size≤bB:=by omega
    have hw4:w.heap.size≤w4.heap.size:=hX.size
    have sS1:SlG (fun b=>bA<b∧bB<b∧b<w4.heap.size) w4 (.slice oa out.length oc) out:=SlG.move sS (fun b hb hlt=>⟨⟨by omega,by omega,hlt⟩,rfl⟩)
    refine E.sub (M:=[(1,int n.id),(2,.pointer (some ⟨bB,0,none⟩)),(4,.pointer (some ⟨bA,0,none⟩)),(7,.pointer (some ⟨bN,0,none⟩)),(9,.pointer (some ⟨bO,0,none⟩))]) ⟨rfl,rfl,rfl,rfl,rfl,trivial⟩ ?_
    have c77:=B2g d _ _ _ w4 (hs0.ext hX) (ht0.ext hX) (hn0.ext hX) (by omega)
    (repeat' ((fail_if_success (refine B4 (x:=(Code.seq (Code.region 6 _ _) _)) ?_));first|(refine A8 Z Z (A5 Z Z en77) c77 (fun vM wM hM=>?_);obtain⟨⟨bM,hbM,rfl,hM⟩,xM⟩:=hM;replace rB:=rB.ext xM;have hlM:=NtAt.lt hM)|(refine J0 Z Z Z Z Z Z Z rB (Nat.le_of_ble_eq_true rfl) (fun w5 r5 k5 _=>?_))|refine Ly ?_))
    have hMB:bM≠bB:=by omega
    have hMA:bM≠bA:=by omega
    obtain⟨T4,hT4⟩:∃ T:Nat→Prop,T=fun b=>b=bB∨w4.heap.size≤b:=⟨_,rfl⟩
    have k4:Kx T4 w4 w5:=(Kx.of_ext xM).trans (Kx.of_kb k5 (by rw [hT4];exact .inl rfl))
    replace r5:Row w5 bB 72 [int d.rid,str d.rname,int d.len,int d.day,.slice sa d.sp.length sc,.slice ta d.tiers.length tc,.slice (some ⟨bM,0,none⟩) d.notes.length d.notes.length]:=r5
    replace hM:=(Kx.of_kb (T:=fun b=>b=bB) k5 rfl).row hM hMB
    replace hM:NtAt w5 bM d.notes:=hM
    have hXof:∀ wq,Kx T4 w4 wq→Ext w wq:=fun wq k=>Kx.from k hX (fun b hb h=>by rw [hT4] at h;omega)
    have hrow:∀ {wq:World} {b:Nat} {e:TypeId} {cs:List Value},Kx T4 w4 wq→Row w4 b e cs→b≠bB→Row wq b e cs:=fun k r h1=>k.row r (by have:=r.lt;rw [hT4];omega)
    have hNB:bN≠bB:=by omega
    have hNA:bN≠bA:=by omega
    have hOB:bO≠bB:=by omega
    have hOA:bO≠bA:=by omega
    clear rB xM
    have hSk:SkOK d d.notes:=⟨hnl,fun m hm=>by obtain⟨k,hk,hkl⟩:=B1m hL hm;omega,fun a ha b hb e=>by rw [Y7 (J9 hL) ha hb e]⟩
    have hT:∀(k:Nat) t,d.tiers[k]?=some t→t.parent<(k:Int):=fun k t hk=>by
      have:=hL.tiers k t hk
      by_cases h0:t.kind=0
      · have:=this.root h0;omega
      · exact(this.par h0).2
    have hdc:∀ wq,Kx T4 w4 wq→NtAt wq bM d.notes→DcAt wq (.agg #[int d.rid,str d.rname,int d.len,int d.day,.slice sa d.sp.length sc,.slice ta d.tiers.length tc,.slice (some ⟨bM,0,none⟩) d.notes.length d.notes.length]) d:=fun wq k h=>⟨_,_,_,rfl,hs0.ext (hXof wq k),ht0.ext (hXof wq k),NtAt.sl h (by omega)⟩
    have hwM:w.heap.size≤bM:=by omega
    have c82:=fun(y z:Int) (b:Bool) (wq:World) (k:Kx T4 w4 wq) (h:NtAt wq bM d.notes) (hy:∃ q∈d.notes,q.id=y)=>B0d d htl hT _ _ w hs0 ht0 bM hwM d.tiers.length d.notes y z b wq (hXof wq k) h hSk hy (fun q hq _=>by have:=(hSk.tier q hq).1;omega)
    obtain⟨L,hLe⟩:∃ l,(M8 d n.parent n.tier).map (·.id)=l:=⟨_,rfl⟩
    have hLm:∀ y∈L,∃ q∈d.notes,q.id=y:=fun y hy=>by
      rw [← hLe] at hy
      obtain⟨q,hq,rfl⟩:=List.mem_map.1 hy
      exact⟨q,(A9t hq).1,rfl⟩
    refine N8 (ι:=List Note) (fun _=>[(2,.pointer (some ⟨bB,0,none⟩)),(4,.pointer (some ⟨bA,0,none⟩)),(9,.pointer (some ⟨bO,0,none⟩))])
      (fun ns wr=>ns.map sk=d.notes.map sk∧NtAt wr bM ns∧Kx T4 w4 wr∧Row wr bB 72 [int d.rid,str d.rname,int d.len,int d.day,.slice sa d.sp.length sc,.slice ta d.tiers.length tc,.slice (some ⟨bM,0,none⟩) d.notes.length d.notes.length]) ?_ ?_
    · have hx5:=Ext.refl w5
      have r5':=hrow k4 rN hNB
      (repeat' ((fail_if_success (refine B4 (x:=(Code.region 7 _ _)) ?_));first|(refine A8 Z Z (A5 Z Z en78) (A6x d _ n.tier _ (hdc _ k4 hM)) (fun vZ wZ hZ=>?_);obtain⟨⟨zk,rfl⟩,xZ⟩:=hZ;replace k4:=k4.trans (Kx.of_ext xZ);replace r5:=r5.ext xZ;replace hM:=NtAt.ext hM xZ;replace hx5:=hx5.trans xZ;replace r5':=r5'.ext xZ)|refine Ly ?_))
      by_cases h3:zk=3
      · subst h3
        (repeat' (first|(refine A8 Z Z (A5 Z Z en79) (B3r d d.notes bM _ _ n.tier n.parent n.rank (-1) _ (hs0.ext (hXof _ k4)) (ht0.ext (hXof _ k4)) hM (by omega)) (fun vR wR hR=>?_);obtain⟨⟨m2,hm2,hN2⟩,kR⟩:=hR)|refine Ly ?_|refine Dy (fun hh=>?_) fun hh=>?_))
        all_goals (try (exfalso;omega))
        exact G6 m2 ⟨rfl,rfl,rfl,trivial⟩ ⟨hm2,hN2,k4.trans (Kx.wk kR (fun b hb=>by subst hb;rw [hT4];exact .inr (by omega))),(kR.row r5 (Ne.symm hMB))⟩
      · by_cases h1:zk=1
        · subst h1
          have c80:=fun wq (k:Kx T4 w4 wq) (h:NtAt wq bM d.notes)=>C5d hL _ n.parent n.tier wq (hdc wq k h)
          rw [hLe] at c80
          obtain⟨ix,hix⟩:∃ z,idxI L n.id=z:=⟨_,rfl⟩
          have hixb:ix = -1∨∃ k:Nat,ix=(k:Int)∧k<L.length:=by
            by_cases hm:n.id∈L
            · obtain⟨k,h1,h2,_⟩:=B4w hm
              exact .inr ⟨k,hix▸h1,h2⟩
            · exact .inl (hix▸B4v (fun j z _ hz e=>hm (by rw [← e];exact List.mem_of_getElem? hz)))
          have c81:=fun lv wq h=>A4v L n.id lv wq h
          rw [hix] at c81
          (repeat' ((fail_if_success (refine B4 (x:=(Code.region 12 _ _)) ?_));first|(refine A8 Z Z (A5 Z Z en80) (c80 _ k4 hM) (fun vL wL hL2=>?_);obtain⟨xL,sL⟩:=hL2;replace k4:=k4.trans (Kx.of_ext xL);replace r5:=r5.ext xL;replace hM:=NtAt.ext hM xL;replace r5':=r5'.ext xL;obtain⟨la,lc,rfl,_,hlm,hlp⟩:=SlG.sl sL)|(refine cqC (c81 _ _ sL) en81 fun wI xI=>?_;replace k4:=k4.trans (Kx.of_ext xI);replace r5:=r5.ext xI;replace hM:=NtAt.ext hM xI;replace r5':=r5'.ext xI;replace sL:=SlG.ext sL xI)|refine Ly ?_|refine Dy (fun hh=>?_) fun hh=>?_))
          all_goals (try (exfalso;omega))
          by_cases hi0:0<ix
          · obtain⟨k,rfl,hk⟩:∃ k:Nat,ix=(k:Int)∧k<L.length:=by
              rcases hixb with h|h
              · omega
              · exact h
            (repeat' (first|refine Sy ?_|refine Dy (fun hh=>?_) fun hh=>?_))
            all_goals (try (exfalso;omega))
            obtain⟨lb,lo,rfl⟩:=hlp (by omega)
            obtain⟨y,hy⟩:∃ y,L[k-1]?=some y:=⟨_,List.getElem?_eq_getElem (by omega)⟩
            have hcy:=int_elem sL hy
            try refine B4 ?_
            refine E_dm 9 B5 (by kernel_rfl) Z ?_
            (repeat' (first|refine yV Z Z (fun _ _ _=>A0 (m:=k-1) Z Z Z (by first|rfl|omega) (by omega)) ?_|(refine yN Z (fun wq xq=>?_);replace k4:=k4.trans (Kx.of_ext xq);replace r5:=r5.ext xq;replace hM:=NtAt.ext hM xq;replace r5':=r5'.ext xq)|(refine A8 Z Z (A5 Z Z en82) (c82 y n.til true _ k4 hM (hLm y (List.mem_of_getElem? hy))) (fun vR wR hR=>?_);obtain⟨⟨m2,hm2,hN2⟩,kR⟩:=hR)|refine Sy ?_|refine yqY ?_|refine yqZ ?_))
            all_goals (try (exfalso;omega))
            exact G6 m2 ⟨rfl,rfl,rfl,trivial⟩ ⟨hm2,hN2,k4.trans (Kx.wk kR (fun b hb=>by subst hb;rw [hT4];exact .inr (by omega))),(kR.row r5 (Ne.symm hMB))⟩
          · by_cases hl1:1<L.length
            · (repeat' (first|refine Sy ?_|refine Dy (fun hh=>?_) fun hh=>?_))
              all_goals (try (exfalso;omega))
              obtain⟨lb,lo,rfl⟩:=hlp (by omega)
              obtain⟨y,hy⟩:∃ y,L[1]?=some y:=⟨_,List.getElem?_eq_getElem (by omega)⟩
              have hcy:=int_elem sL hy
              try refine B4 ?_
              refine E_dm 7 B5 (by kernel_rfl) Z ?_
              (repeat' (first|refine yV Z Z (fun _ _ _=>A0 (m:=1) Z Z Z (by first|rfl|omega) (by omega)) ?_|(refine yN Z (fun wq xq=>?_);replace k4:=k4.trans (Kx.of_ext xq);replace r5:=r5.ext xq;replace hM:=NtAt.ext hM xq;replace r5':=r5'.ext xq)|(refine A8 Z Z (A5 Z Z en82) (c82 y n.frm false _ k4 hM (hLm y (List.mem_of_getElem? hy))) (fun vR wR hR=>?_);obtain⟨⟨m2,hm2,hN2⟩,kR⟩:=hR)|refine Sy ?_|refine yqY ?_|refine yqZ ?_))
              all_goals (try (exfalso;omega))
              exact G6 m2 ⟨rfl,rfl,rfl,trivial⟩ ⟨hm2,hN2,k4.trans (Kx.wk kR (fun b hb=>by subst hb;rw [hT4];exact .inr (by omega))),(kR.row r5 (Ne.symm hMB))⟩
            · (repeat' (first|refine Sy ?_|refine Dy (fun hh=>?_) fun hh=>?_))
              all_goals (try (exfalso;omega))
              exact G6 d.notes ⟨rfl,rfl,rfl,trivial⟩ ⟨rfl,hM,k4,r5⟩
        · (repeat' (first|refine Sy ?_|refine Dy (fun hh=>?_) fun hh=>?_))
          all_goals (try (exfalso;omega))
          exact G6 d.notes ⟨rfl,rfl,rfl,trivial⟩ ⟨rfl,hM,k4,r5⟩
    · rintro ns w6 ⟨hsk,hM,k6,r6⟩
      have hml:ns.length=d.notes.length:=by have:=congrArg List.length hsk;simpa using this
      have rO6:=hrow k6 rP hOB
      have rA6:=hrow k6 rA hBA
      have sS6:=SlG.move (G':=fun b=>bA<b∧bB<b∧b<w4.heap.size) sS1 (fun b hb hlt=>⟨hb,k6.block b hlt (by rw [hT4];omega)⟩)
      have hOM:bO≠bM:=by omega
      have c83:=fun wq (hq:Ext w6 wq)=>B7t 84 [.pointer (some ⟨bO,0,none⟩)] en84 (fun m=>decide (m.id∈out)) ns bM wq (NtAt.ext hM hq) (by omega) (fun x wz kz=>B8l x out _ bO wz (kz.row (rO6.ext hq) hOM) (SlG.any (SlG.move (G':=fun b=>bA<b∧bB<b∧b<w4.heap.size) (SlG.ext sS6 hq) (fun b hb hlt=>⟨hb,kz.block b hlt (by omega)⟩))))
      rw [hml] at c83
      obtain⟨FL,hFL⟩:∃ l,(ns.filter fun m=>!decide (m.id∈out))=l:=⟨_,rfl⟩
      rw [hFL] at c83
      have hx6:=Ext.refl w6
      (repeat' ((fail_if_success (refine B4 (x:=(Code.region 17 _ _)) ?_));first|refine eV Z Z (J6 (vs:=[.pointer (some ⟨bO,0,none⟩)]) Z Z) ?_|(refine A8 Z Z (A5 Z Z en83) (c83 _ hx6) (fun vV w7 hV=>?_);obtain⟨sV,kV⟩:=hV;replace r6:=kV.row r6 (Ne.symm hMB);replace rA6:=kV.row rA6 (Ne.symm hMA);replace rO6:=kV.row rO6 hOM;replace k6:=k6.trans (Kx.wk kV (fun b hb=>by subst hb;rw [hT4];exact .inr (by omega)));replace sS6:=SlG.move (G':=fun b=>bA<b∧bB<b∧b<w4.heap.size) sS6 (fun b hb hlt=>⟨hb,kV.block b hlt (by omega)⟩);obtain⟨va,vc,rfl,_,_,_⟩:=SlG.sl sV)|(refine J0 Z Z Z Z Z Z Z r6 (Nat.le_of_ble_eq_true rfl) (fun w8 r8 k8 _=>?_))|refine Ly ?_))
      all_goals (try (exfalso;omega))
      replace r8:Row w8 bB 72 [int d.rid,str d.rname,int d.len,int d.day,.slice sa d.sp.length sc,.slice ta d.tiers.length tc,.slice va FL.length vc]:=r8
      have kb8:=Kx.of_kb (T:=fun b=>b=bB) k8 rfl
      replace rA6:=kb8.row rA6 hBA
      replace rO6:=kb8.row rO6 hOB
      replace k6:=k6.trans (Kx.wk kb8 (fun b hb=>by rw [hT4];exact .inl hb))
      replace sS6:=SlG.move (G':=fun b=>bA<b∧bB<b∧b<w4.heap.size) sS6 (fun b hb hlt=>⟨hb,kb8.block b hlt (by omega)⟩)
      replace sV:=SlG.move (G':=fun b=>b=bM) sV (fun b hb hlt=>⟨hb,kb8.block b hlt (by omega)⟩)
      clear r6
      have xd:=P9 w8
      obtain⟨r9,k9⟩:=B0z [int d.rid,str d.rname,int d.len,int d.day,.slice sa d.sp.length sc,.slice ta d.tiers.length tc,.slice va FL.length vc] (rA6.ext xd)
      obtain⟨w9,hw9⟩:∃ z,z=w8.drew.setRow bA ([int d.rid,str d.rname,int d.len,int d.day,.slice sa d.sp.length sc,.slice ta d.tiers.length tc,.slice va FL.length vc]:List Value).toArray:=⟨_,rfl⟩
      rw [← hw9] at r9 k9
      have kb9:=Kx.of_kb (T:=fun b=>b=bA) k9 rfl
      have rO9:=kb9.row (rO6.ext xd) hOA
      refine B4 ?_
      refine E.sub (M:=[(2,.pointer (some ⟨bB,0,none⟩)),(4,.pointer (some ⟨bA,0,none⟩)),(9,.pointer (some ⟨bO,0,none⟩))]) ⟨rfl,rfl,rfl,trivial⟩ ?_
      refine C1f (fun p=>match p with|0=>w8.drew|_=>w9) [some (81,.agg #[int d.rid,str d.rname,int d.len,int d.day,.slice sa d.sp.length sc,.slice ta d.tiers.length tc,.slice va FL.length vc]),some (82,.slice oa out.length oc),none,some (5,.slice oa out.length oc),some (6,int 0)] [(0,0,true),(0,1,true),(0,0,false),(0,1,true),(0,1,true)]
        [2] B5 (by kernel_rfl) (by decide) rfl rfl rfl rfl
        ⟨fun p _ hp=>by
            obtain rfl:p=0:=by omega
            exact B8 Z Z Z (r8.ext xd).at rfl,
          fun p _ hp=>by
            rcases (show p=0∨p=1 by omega) with rfl|rfl
            · exact A7 Z Z Z ((rO6.ext xd).cellAt rfl)
            · exact A7 Z Z Z (rO9.cellAt rfl),
          fun ρ ha=>by
            show _=Result.ok _ w9
            rw [hw9]
            exact A0a (new:=[int d.rid,str d.rname,int d.len,int d.day,.slice sa d.sp.length sc,.slice ta d.tiers.length tc,.slice va FL.length vc]) rfl rfl rfl rfl rfl rfl (rA6.ext xd) (show 0+7≤7 from Nat.le_refl 7) rfl ρ ha,
          fun _ _ _=>zB Z Z,fun _ _ _=>zB Z Z,trivial⟩ ?_
      refine at_K (w:=w9) ?_
      (repeat' (first|refine Sy ?_))
      have hXf:Ext w w9:=Kx.from (T:=fun b=>w.heap.size≤b) ((Kx.wk k6 (fun b hb=>by rw [hT4] at hb;omega)).trans ((Kx.of_ext xd).trans (Kx.wk kb9 (fun b hb=>by omega)))) hX (fun b hb h=>by omega)
      have sV9:Sl w9 (.slice va FL.length vc) FL:=SlG.any (SlG.move (G':=fun b=>b=bM) (SlG.ext sV xd) (fun b hb hlt=>⟨hb,kb9.block b hlt (by omega)⟩))
      have sS9:Sl w9 (.slice oa out.length oc) out:=SlG.any (SlG.move (G':=fun b=>bA<b∧bB<b∧b<w4.heap.size) (SlG.ext sS6 xd) (fun b hb hlt=>⟨hb,kb9.block b hlt (by omega)⟩))
      refine B9w Z Z Z r9.at rfl rfl rfl ⟨⟨_,oa,out.length,oc,0,rfl,rfl,rfl,fun _=>⟨out,FL,?_,⟨_,_,_,rfl,hs0.ext hXf,ht0.ext hXf,sV9⟩,sS9⟩⟩,hXf⟩
      rw [← hFL,← hsk,List.filter_map];rfl
end Go.Proofs.YtjicdgejhkgpgaaGreatDoor
namespace Go.En
open Go.RowKit
section
variable {P : Program}
theorem cpy_ex {α:Type} [Rep α] [Flat α] {w:World} (t ty:TypeId) {e:TypeId} {z:Value} {size bytes:Nat} [ut:UT P t (.slice e)] [ti:TI P e z size bytes] {G G':Nat→Prop} {bS m c B:Nat} {a:Option Addr} {ys:List α}
    (hs:SlG G w (.slice a m c) ys) (hr:Row w bS e []) (hb:B≤bS) (hB:B≤w.heap.size) (hG:∀ b,B≤b→G' b) (hz:z.cells.size=size) (hsz:Nat.beq size (Rep.sz α)=true) (hmax:ys.length*bytes≤140737488355328) :
    ∃ v' w',(Builtin.append_ #[t,t] ty #[.slice (some ⟨bS,0,none⟩) 0 0,.slice a m c]).run P w=.ok v' w'∧SlG G' w' v' ys∧Ext w w':=by
  have e0:=Nat.eq_of_beq_eq_true hsz
  subst e0
  have hm:m=ys.length:=by obtain⟨_,_,e,_,_,_⟩:=hs.sl;cases e;rfl
  subst hm
  obtain⟨css,s1,s2⟩:=hs.css
  have hl:=AtsG.flat s1
  have hle:ys.length≤140737488355328:=by obtain⟨_,_,_,_,h,_⟩:=hs.sl;exact h
  have hp:0<Rep.sz α:=Rep.pos
  obtain⟨i0,hi,hz0,hz1,hz2⟩:=info_parts ti.i
  by_cases h0:0<ys.length
  · obtain⟨b,so,rfl,_,hat⟩:=s2 (by rw [hl];exact Nat.mul_pos h0 hp)
    obtain⟨v',w',hrun,r1,r2⟩:=run_append_arg_grows (P:=P) w t ty e i0 z (Rep.sz α) bytes ut.u hi hz0 hz1 hz2 hz hp ⟨bS,0,none⟩ 0 0 [] (by simp) (by simp) ⟨b,so,none⟩ ys.length c css.flatten hl (fun j u hu=>by rw [D2];exact hat j u hu) (by omega) (by unfold maxLen;omega) (by simpa using hmax)
    exact⟨v',w',hrun,L1 (B:=w.heap.size) (css:=css) (by simpa using r1) (AtsG.flat' s1) (fun b hb'=>hG b (by omega)) (by omega) hle,Kb.none_ext r2⟩
  · have hy:ys=[]:=List.length_eq_zero_iff.1 (by omega)
    subst hy
    obtain⟨_,_,ev',_,_,_⟩:=hs.sl
    have hsrc:Src P i0.size t (.slice a 0 c) 0 [] w:=by
      cases a with
      | none=>exact Src.ofNil w ut.u c
      | some ad=>exact Src.ofSlice w ut.u ad 0 c [] (by simp) (by simp) (by simp)
    have hrun:=run_append_nothing (P:=P) w t t ty e i0 ut.u hi (some ⟨bS,0,none⟩) 0 0 (Nat.le_refl _) (.slice a 0 c) hsrc
    exact⟨_,_,hrun,⟨some ⟨bS,0,none⟩,0,rfl,Nat.le_refl _,by simp,fun h=>absurd h (by simp)⟩,Ext.refl w⟩
end
section
variable {P : Program} {n : Nat} {ops : List Oper} {Q : Post} {w0 : World} {o : Oper} {rest tl : List Oper} {G : List (Nat × Ent)}
def RE0 (B:Nat) (e:TypeId):Value→World→Prop:=fun u w=>∃ b,u=.slice (some ⟨b,0,none⟩) 0 0∧B≤b∧Row w b e []
def RS {α:Type} [Rep α] (B:Nat) (ys:List α):Value→World→Prop:=fun u w=>SlG (fun b=>B≤b) w u ys
def RX {α:Type} [Rep α] (B:Nat) (x:α):Value→World→Prop:=fun u w=>Rep.at_ (fun b=>B≤b) w x u.cells.toList
def RL {α:Type} [Rep α] (B:Nat) (e:TypeId) (x:α):Value→World→Prop:=fun u w=>∃ b X,u=.slice (some ⟨b,0,none⟩) 1 1∧B≤b∧Row w b e X∧Rep.at_ (fun c=>B≤c) w x X
theorem B2o {d:Nat} {t e:TypeId} {z:Value} {size bytes:Nat} [UT P t (.slice e)] [TI P e z size bytes] (hg:ggst ops G o=some true) (hd:odst n o.dst=some d) (ho:o.op=.buildSlice t 0 #[])
    (k:RQ P n ops w0 Q rest tl ((d,.r (RE0 w0.heap.size e))::G)):RQ P n ops w0 Q (o::rest) tl G:=
  B9e (len:=0) (ps:=[]) (vs:=[]) (cs:=[]) hg hd ho (fun _=>rfl) Z Z (by simp) Z k
theorem A2a {α:Type} [Rep α] [Flat α] {d s m c:Nat} {t e:TypeId} {x:Operand} {z:Value} {size bytes:Nat} [ut:UT P t (.slice e)] [ti:TI P e z size bytes] {Gs:Nat→Prop} {a:Option Addr} {ys:List α}
    (hs:SlG Gs w0 (.slice a m c) ys) (hg:ggst ops G o=some true) (hd:odst n o.dst=some d) (ho:o.op=.call { callee:=.builtin .append,args:=#[.tmp s,x],argTypes:=#[t,t] }) (hr:gk G s=some (.r (RE0 w0.heap.size e)))
    (hl:∀ δ,lk (mat δ G) s=some (δ s)) (hx:∀ δ,ev (mat δ G) x=some (.slice a m c)) (hz:z.cells.size=size) (hsz:Nat.beq size (Rep.sz α)=true) (hmax:ys.length*bytes≤140737488355328)
    (k:RQ P n ops w0 Q rest tl ((d,.r (RS w0.heap.size ys))::G)):RQ P n ops w0 Q (o::rest) tl G:=
  A0v (T:=.r (RS w0.heap.size ys)) hg (C9 hd).2 (fun _ _ _ _ xe h=>SlG.ext h xe)
    (fun w δ hw hsat ρ ha=>by
      obtain⟨b,he,hb,hrow⟩:=hsat s (by rw [ho];simp [Op.operands,Call.operands,isT]) _ hr
      obtain⟨v',w',hrun,h1,h2⟩:=cpy_ex (P:=P) t o.type (G':=fun b=>w0.heap.size≤b) (hs.ext hw) hrow hb hw.size (fun _ h=>h) hz hsz hmax
      exact .inl ⟨v',w',A6e (L:=mat δ G) (s:=.tmp s) ho ((hl δ).trans (by rw [he])) (hx δ) hrun ρ ha,h1,h2⟩) (by rw [(C9 hd).1];exact k)
theorem C1c {α:Type} [Rep α] {d s:Nat} {t e:TypeId} {z:Value} {size bytes:Nat} [ut:UT P t (.slice e)] [ti:TI P e z size bytes] {x:α}
    (hg:ggst ops G o=some true) (hd:odst n o.dst=some d) (ho:o.op=.buildSlice t 1 #[(0,.tmp s)]) (hr:gk G s=some (.r (RX w0.heap.size x)))
    (hl:∀ δ,lk (mat δ G) s=some (δ s)) (hsz:Nat.beq size (Rep.sz α)=true) (hsm:Nat.ble (1*size) 16777216=true)
    (k:RQ P n ops w0 Q rest tl ((d,.r (RL w0.heap.size e x))::G)):RQ P n ops w0 Q (o::rest) tl G:=
  A0v (T:=.r (RL w0.heap.size e x)) hg (C9 hd).2 (fun _ _ _ _ xe h=>by obtain⟨b,X,e,h1,h2,h3⟩:=h;exact⟨b,X,e,h1,h2.ext xe,Rep.move h3 xe.mv⟩)
    (fun w δ hw hsat ρ ha=>by
      have e0:=Nat.eq_of_beq_eq_true hsz
      have hX:=hsat s (by rw [ho];simp [Op.operands,isT]) _ hr
      have hlen:(δ s).cells.size=size:=by rw [e0,← Array.length_toList];exact Rep.len hX
      have hrun:=B1f (P:=P) (L:=mat δ G) (w:=w) (o:=o) (t:=t) (e:=e) (z:=z) (size:=size) (bytes:=bytes) (len:=1) (ps:=[(0,.tmp s)]) (vs:=[δ s]) (cs:=(δ s).cells.toList) ho (by simp [evs,ev,hl δ]) (by simp [hlen]) rfl hsm (by simp) ha
      exact .inl ⟨_,_,hrun,⟨w.heap.size,_,rfl,hw.size,(by have:=K1 w e (δ s).cells;simpa using this),Rep.move hX (H5 _ _).mv⟩,H5 _ _⟩) (by rw [(C9 hd).1];exact k)
end
end Go.En
