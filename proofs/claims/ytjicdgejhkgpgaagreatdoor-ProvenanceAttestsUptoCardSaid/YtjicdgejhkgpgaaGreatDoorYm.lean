/-
  Own text of the proof.
-/
import Derived.Test.YtjicdgejhkgpgaaGreatDoorYl
import Derived.Test.YtjicdgejhkgpgaaGreatDoorYh
set_option linter.all false
set_option maxHeartbeats 4000000
set_option maxRecDepth 8000
namespace Go.Proofs.YtjicdgejhkgpgaaGreatDoor
section
open Go.RowKit Go.En Go.Pv
attribute [local irreducible] E EL K Val Enters Rt Calls bodyPost Code.wp RQ
theorem H3 (n : Nat) (S T : Int → Bool) (B C : Nat) (u v : Value) (w : World) (hu : RB B w u n S) (hv : RB C w v n T) (hn : n ≤ 1000) :
    Calls Tryz.prog 196 #[u,v] w (Rt fun r w'=>r=.bool (C4 n S T)∧Ext w w'):=by
  obtain⟨bS,rfl,_,rS⟩:=hu
  obtain⟨bT,rfl,_,rT⟩:=hv
  refine A7 (n:=22) (args:=[.slice (some ⟨bS,0,none⟩) n n,.slice (some ⟨bT,0,none⟩) n n]) Tryz.func196 rfl Tryz.ntmps196 (by simp) ?_
  (repeat' (first|refine Sy ?_))
  refine Ae (ι:=Nat) (fun i=>[(0,.slice (some ⟨bS,0,none⟩) n n),(1,.slice (some ⟨bT,0,none⟩) n n),(5,int i)])
    (fun i wr=>i≤n∧Ext w wr∧∀ j:Nat,j<i→(S (j:Int)&&T (j:Int))=false) (fun i=>n-i) 0
    ⟨rfl,rfl,rfl,trivial⟩ ⟨Nat.zero_le _,Ext.refl _,fun j hj=>absurd hj (by omega)⟩ ?_
  rintro i wr ⟨hi,hx,hall⟩
  replace rS:=rS.ext hx;replace rT:=rT.ext hx
  by_cases hlt:i<n
  · have c1:wr.cell? ⟨bS,0+i*1,none⟩=some (.bool (S i)):=rS.cellAt (by rw [show 0+i*1=i by omega];exact Fu hlt)
    have c2:wr.cell? ⟨bT,0+i*1,none⟩=some (.bool (T i)):=rT.cellAt (by rw [show 0+i*1=i by omega];exact Fu hlt)
    cases hS:S (i:Int) with
    | false=>
      rw [hS] at c1
      (repeat' (first|refine eV Z Z (A0 (m:=i) Z Z Z Z (by omega)) ?_|refine Ly ?_|refine Dy (fun hh=>?_) fun hh=>?_))
      all_goals (try (exfalso;omega))
      refine Ad (i+1) ⟨rfl,rfl,rfl,trivial⟩ ⟨by omega,hx,fun j hj=>?_⟩ (by omega)
      by_cases e:j=i
      · subst e;rw [hS];rfl
      · exact hall j (by omega)
    | true=>
      rw [hS] at c1
      cases hT:T (i:Int) with
      | false=>
        rw [hT] at c2
        (repeat' (first|refine eV Z Z (A0 (m:=i) Z Z Z Z (by omega)) ?_|refine Ly ?_|refine Dy (fun hh=>?_) fun hh=>?_))
        all_goals (try (exfalso;omega))
        refine Ad (i+1) ⟨rfl,rfl,rfl,trivial⟩ ⟨by omega,hx,fun j hj=>?_⟩ (by omega)
        by_cases e:j=i
        · subst e;rw [hT];simp
        · exact hall j (by omega)
      | true=>
        rw [hT] at c2
        (repeat' (first|refine eV Z Z (A0 (m:=i) Z Z Z Z (by omega)) ?_|refine Ly ?_|refine Dy (fun hh=>?_) fun hh=>?_))
        all_goals (try (exfalso;omega))
        have:C4 n S T=true:=Ct.2 ⟨i,by omega,by omega,hS,hT⟩
        exact A5 Z Z ⟨by rw [this],hx⟩
  · obtain rfl:i=n:=by omega
    have:C4 i S T=false:=by
      cases hb:C4 i S T with
      | false=>rfl
      | true=>
        obtain⟨q,h0,h1,h2,h3⟩:=Ct.1 hb
        have:=hall q.toNat (by omega)
        rw [Int.toNat_of_nonneg h0,h2,h3] at this;cases this
    (repeat' (first|refine Sy ?_|refine Dy (fun hh=>?_) fun hh=>?_))
    all_goals (try (exfalso;omega))
    exact A5 Z Z ⟨by rw [this],hx⟩
theorem P0 (n : Nat) (steps : List Stp) (sv fv : Value) (S : Int → Bool) (B : Nat) (tv : Value) (w : World) (hs : Sl w sv steps) (ht : RB B w tv n S) (hB : B ≤ w.heap.size) (hin : ∀ x ∈ steps, 0 ≤ x.frm ∧ x.frm < (n : Int) ∧ 0 ≤ x.to ∧ x.to < (n : Int)) (hn : n ≤ 1000) :
    Calls Tryz.prog 224 #[.agg #[int n,sv,fv],tv] w (Rt fun u w'=>Ext w w'∧RB B w' u n (C8 steps n S)):=by
  have hs0:=hs
  obtain⟨sa,sc,rfl,_,hsm,hsp⟩:=hs.sl
  refine A7 (n:=38) (args:=[.agg #[int n,.slice sa steps.length sc,fv],tv]) Tryz.func224 rfl Tryz.ntmps224 (by simp) ?_
  refine Ac ?_
  refine A8 ?_
  refine Aj Z Z Z Z (fun bX wX xX hbX rX0=>?_)
  have rX:Row wX bX 34 [int n,.slice sa steps.length sc,fv]:=rX0
  clear rX0
  have hXs:=xX.size
  (repeat' (first|refine Sy ?_))
  refine Ae (ι:=Nat × Value × (Int→Bool)) (fun z=>[(1,z.2.1),(2,.pointer (some ⟨bX,0,none⟩)),(5,int z.1)])
    (fun z wr=>z.1≤n∧Ext wX wr∧RB B wr z.2.1 n z.2.2∧C8 steps (n-z.1) z.2.2=C8 steps n S) (fun z=>n-z.1) (0,tv,S)
    ⟨rfl,rfl,rfl,trivial⟩ ⟨Nat.zero_le _,Ext.refl _,ht.ext xX,rfl⟩ ?_
  rintro⟨i,vF,F⟩ wr ⟨hi,hx,hF,hre⟩
  dsimp only at hi hx hF hre ⊢
  have hX:=xX.trans hx
  replace rX:=rX.ext hx
  by_cases hlt:i<n
  · have hF0:=hF
    have rXr:=rX
    have ca:=Fw n steps _ fv F B vF 0 wr (hs0.ext hX) hF hin hn
    (repeat' (first|(refine A9 Z Z (A3 Z Z en197) ca (fun vC wC hC=>?_);obtain⟨xC,hA⟩:=hC;replace rX:=rX.ext xC)|refine Ly ?_|refine Dy (fun hh=>?_) fun hh=>?_))
    all_goals (try (exfalso;omega))
    obtain⟨bA,rfl,hbA,rA⟩:=hA
    obtain⟨bF,rfl,hbF,rF⟩:=hF0
    have rFr:=rF
    replace rF:=rF.ext xC
    have hwr:=hX.size
    refine Ae (ι:=Nat) (fun k=>[(1,.slice (some ⟨bF,0,none⟩) n n),(2,.pointer (some ⟨bX,0,none⟩)),(5,int i),(6,.slice (some ⟨bA,0,none⟩) n n),(7,int k)])
      (fun k wk=>k≤n∧Ext wr wk∧Row wk bA 4 (blv n (fun p=>if p<(k:Int) then aftB steps F 0 p||F p else aftB steps F 0 p))) (fun k=>n-k) 0
      ⟨rfl,rfl,rfl,rfl,rfl,trivial⟩ ⟨Nat.zero_le _,xC,by
        rw [Ia (T:=aftB steps F 0) (fun i _=>by rw [if_neg (by omega)])];exact rA⟩ ?_
    rintro k wk ⟨hk,hxk,rK⟩
    have rXk:=rXr.ext hxk;have rFk:=rFr.ext hxk
    clear rX rF rA
    by_cases hlk:k<n
    · have cA:wk.cell? ⟨bA,0+k*1,none⟩=some (.bool (aftB steps F 0 k)):=rK.cellAt (by
        rw [show 0+k*1=k by omega,Fu hlk,if_neg (by omega)])
      have cF:wk.cell? ⟨bF,0+k*1,none⟩=some (.bool (F k)):=rFk.cellAt (by rw [show 0+k*1=k by omega];exact Fu hlk)
      have hset:(blv n (fun p=>if p<(k:Int) then aftB steps F 0 p||F p else aftB steps F 0 p)).set k (.bool (aftB steps F 0 k||F k))=blv n (fun p=>if p<((k+1:Nat):Int) then aftB steps F 0 p||F p else aftB steps F 0 p):=by
        rw [Jb]
        refine Ia fun j _=>?_
        by_cases e:(j:Int)=(k:Int)
        · rw [if_pos e,if_pos (by omega),e]
        · rw [if_neg e]
          by_cases h:(j:Int)<(k:Int)
          · rw [if_pos h,if_pos (by omega)]
          · rw [if_neg h,if_neg (by omega)]
      cases hA1:aftB steps F 0 (k:Int) with
      | true=>
        rw [hA1] at cA hset
        (repeat' (first|refine eV Z Z (A0 (m:=k) Z Z Z Z (by omega)) ?_|refine G6 rK hxk hbA rfl rfl rfl rfl rfl rfl rfl (by rw [Ft];omega) (fun wN rN xN _=>?_)|refine Ly ?_|refine Dy (fun hh=>?_) fun hh=>?_))
        all_goals (try (exfalso;omega))
        refine Ad (k+1) ⟨rfl,rfl,rfl,rfl,rfl,trivial⟩ ⟨by omega,xN,?_⟩ (by omega)
        rw [show 0+k*1=k by omega] at rN
        rw [← hset];exact rN
      | false=>
        rw [hA1] at cA hset
        (repeat' (first|refine eV Z Z (A0 (m:=k) Z Z Z Z (by omega)) ?_|refine G6 rK hxk hbA rfl rfl rfl rfl rfl rfl rfl (by rw [Ft];omega) (fun wN rN xN _=>?_)|refine Ly ?_|refine Dy (fun hh=>?_) fun hh=>?_))
        all_goals (try (exfalso;omega))
        refine Ad (k+1) ⟨rfl,rfl,rfl,rfl,rfl,trivial⟩ ⟨by omega,xN,?_⟩ (by omega)
        rw [show 0+k*1=k by omega] at rN
        rw [← hset];exact rN
    · obtain rfl:k=n:=by omega
      rw [Ia (T:=fun q=>aftB steps F 0 q||F q) (fun i hi=>by rw [if_pos (by omega)])] at rK
      (repeat' (first|refine Ly ?_|refine Dy (fun hh=>?_) fun hh=>?_))
      all_goals (try (exfalso;omega))
      refine Ad (i+1,_,fun q=>aftB steps F 0 q||F q) ⟨rfl,rfl,rfl,trivial⟩ ⟨by dsimp only;omega,hx.trans hxk,⟨bA,rfl,by omega,rK⟩,?_⟩ (by dsimp only;omega)
      dsimp only
      rw [← hre,show k-i=(k-(i+1))+1 by omega]
      rfl
  · obtain rfl:i=n:=by omega
    rw [Nat.sub_self] at hre
    (repeat' (first|refine Ly ?_|refine Dy (fun hh=>?_) fun hh=>?_))
    all_goals (try (exfalso;omega))
    exact A5 Z Z ⟨hX,by rw [← hre];exact hF⟩
theorem Oq (N:Net) (hN:NetOK N) (n:Nat) (hn:N.states=(n:Int)) (sv fv:Value) (l:List Int) (lv:Value) (w:World) (hs:Sl w sv N.steps) (hl:Sl w lv l) (hpos:∀ c∈l,1≤c) :
    Calls Tryz.prog 194 #[.agg #[int n,sv,fv],lv] w (Rt fun u w'=>Ext w w'∧RB w.heap.size w' u n (runB N.steps l)):=by
  have hin:∀ x∈N.steps,0≤x.frm∧x.frm<(n:Int)∧0≤x.to∧x.to<(n:Int):=fun x hx=>by
    have:=hN.steps x hx;rw [hn] at this;exact⟨this.1,this.2.1,this.2.2.1,this.2.2.2.1⟩
  have hpos':=hN.pos
  have hfew:=hN.few
  rw [hn] at hpos' hfew
  have hs0:=hs;have hl0:=hl
  obtain⟨la,lc,rfl,_,hlm,hlp⟩:=hl.sl
  refine A7 (n:=32) (args:=[.agg #[int n,sv,fv],.slice la l.length lc]) Tryz.func194 rfl Tryz.ntmps194 (by simp) ?_
  refine Ac ?_
  refine A8 ?_
  refine Aj Z Z Z Z (fun bX wX xX hbX rX0=>?_)
  have rX:Row wX bX 34 [int n,sv,fv]:=rX0
  clear rX0
  have hXs:=xX.size
  (repeat' ((fail_if_success (refine Ac (x:=(Code.region 2 _ _)) ?_));first|(refine A9 Z Z (A3 Z Z en223) (Hv n sv fv [0] _ _ (Gb (css:=[[int 0] ]) rS (B4 _ [0]) (Nat.le_refl _) (by decide)) (fun q hq=>by rw [List.mem_singleton.1 hq];omega) (by omega)) (fun vC wC hC=>?_);obtain⟨xC,hR⟩:=hC)|refine Ly ?_|refine eL Z Z Z Z Z Z Z Z (fun bS wS xS hbS rS=>?_)))
  have hX:=xX.trans (xS.trans xC)
  replace rX:=(rX.ext xS).ext xC
  replace hR:=hR.wk (show w.heap.size≤_ from Nat.le_trans hXs xS.size)
  replace hR:=hR.same (T:=runB N.steps []) (fun i _=>by
    show List.contains [0] (i:Int)=((i:Int)==0)
    rw [Bool.eq_iff_iff];simp)
  clear xX xS xC rS
  (repeat' (first|refine Sy ?_))
  refine Ae (ι:=Nat × Value) (fun z=>[(1,.slice la l.length lc),(2,.pointer (some ⟨bX,0,none⟩)),(5,z.2),(6,int z.1)])
    (fun z wr=>z.1≤l.length∧Ext wC wr∧RB w.heap.size wr z.2 n (runB N.steps (l.take z.1))) (fun z=>l.length-z.1) (0,vC)
    ⟨rfl,rfl,rfl,rfl,trivial⟩ ⟨Nat.zero_le _,Ext.refl _,by rw [List.take_zero];exact hR⟩ ?_
  rintro⟨i,vF⟩ wr ⟨hi,hx,hF⟩
  dsimp only at hi hx hF ⊢
  have hXr:=hX.trans hx
  replace rX:=rX.ext hx
  by_cases hlt:i<l.length
  · obtain⟨b,off,rfl⟩:=hlp (by omega)
    obtain⟨c,hc⟩:∃ c,l[i]?=some c:=⟨_,List.getElem?_eq_getElem hlt⟩
    have hatc:=int_elem (hl0.ext hXr) hc
    have hcp:=hpos c (List.mem_of_getElem? hc)
    have hsucc:runB N.steps (l.take (i+1))=aftB N.steps (runB N.steps (l.take i)) c:=by
      obtain⟨hi',he⟩:=List.getElem?_eq_some_iff.1 hc
      rw [List.take_succ_eq_append_getElem hi',he,Fz]
    have ca:=fun wz (xz:Ext wr wz)=>Fw n N.steps _ fv _ _ vF c wz (hs0.ext (hXr.trans xz)) (hF.ext xz) hin (by omega)
    (repeat' ((fail_if_success (refine Ac (x:=(Code.region 7 _ _)) ?_));first|refine eV Z Z (A0 (m:=i) Z Z Z Z (by omega)) ?_|refine Ly ?_|refine Dy (fun hh=>?_) fun hh=>?_))
    all_goals (try (exfalso;omega))
    (repeat' (first|refine yV Z Z (fun _ _ _=>A0 (m:=i) Z Z Z Z (by omega)) ?_|refine Al (f:=197) (fun u w'=>RB w.heap.size w' u n (runB N.steps (l.take (i+1)))) (fun _=>_) Z Z (fun _ _ _ _ xe h=>RB.ext h xe) (fun _ _ _=>A3 Z Z en197) (fun wq _ xq _=>Ag (ca wq xq) (fun _ _ hh=>⟨by rw [hsucc];exact hh.2.wk (Nat.le_trans hXr.size xq.size),hh.1⟩)) ?_|refine Cm (fun u w'=>RB w.heap.size w' u n (runB N.steps (l.take (i+1)))) Z Z (fun _ _ _ _ xe h=>RB.ext h xe) (fun w δ _ hs=>⟨δ 30,Cn Z Z,hs 30 rfl _ rfl⟩) ?_|refine B8 (fun wq δ xq hR=>?_)|refine Sy ?_|refine yqY ?_|refine yqZ ?_|refine E_dq Aa (by kernel_rfl) Z ?_))
    all_goals (try (exfalso;omega))
    refine Ad (i+1,_) ⟨rfl,rfl,rfl,rfl,trivial⟩ ⟨by dsimp only;omega,hx.trans xq,hR 5 _ rfl⟩ (by dsimp only;omega)
  · obtain rfl:i=l.length:=by omega
    rw [List.take_length] at hF
    (repeat' (first|refine Sy ?_|refine Dy (fun hh=>?_) fun hh=>?_))
    all_goals (try (exfalso;omega))
    exact A5 Z Z ⟨hXr,hF⟩
end
section
open Go.RowKit Go.En Go.Pv
attribute [local irreducible] E EL K Val Enters Rt Calls bodyPost Code.wp RQ
theorem Q7 (N:Net) (hN:NetOK N) (n:Nat) (hn:N.states=(n:Int)) (sv fv:Value) (l:List Int) (lv:Value) (w:World) (hs:Sl w sv N.steps) (hf:Sl w fv N.final) (hl:Sl w lv l) (hpos:∀ c∈l,1≤c) :
    Calls Tryz.prog 240 #[.agg #[int n,sv,fv],lv] w (Rt fun u w'=>u=.bool (Dt N l)∧Ext w w'):=by
  have hfew:=hN.few
  rw [hn] at hfew
  refine A7 (n:=13) (args:=[.agg #[int n,sv,fv],lv]) Tryz.func240 rfl Tryz.ntmps240 (by simp) ?_
  refine Ac ?_
  refine A8 ?_
  refine Aj Z Z Z Z (fun bX wX xX hbX rX0=>?_)
  have rX:Row wX bX 34 [int n,sv,fv]:=rX0
  clear rX0
  have hacc:Dt N l=C4 n (runB N.steps l) (finB N):=by unfold Dt;rw [hn];rfl
  rw [hacc]
  (repeat' (first|refine Al (f:=194) (fun u w'=>RB wX.heap.size w' u n (runB N.steps l)) (fun _=>#[.agg #[int n,sv,fv],lv]) Z Z (fun _ _ _ _ xe h=>RB.ext h xe) (fun _ _ _=>A3 Z Z en194) (fun wq _ xq _=>Ag (Oq N hN n hn sv fv l lv wq (hs.ext (xX.trans xq)) (hl.ext (xX.trans xq)) hpos) (fun _ _ hh=>⟨hh.2.wk xq.size,hh.1⟩)) ?_|refine Al (f:=223) (fun u w'=>RB wX.heap.size w' u n (finB N)) (fun _=>#[.agg #[int n,sv,fv],fv]) Z Z (fun _ _ _ _ xe h=>RB.ext h xe) (fun _ _ _=>A3 Z Z en223) (fun wq _ xq _=>Ag (Hv n sv fv N.final fv wq (hf.ext (xX.trans xq)) (fun q hq=>by have:=hN.final q hq;rw [hn] at this;exact this) (by omega)) (fun _ _ hh=>⟨hh.2.wk xq.size,hh.1⟩)) ?_|(refine B9 (f:=196) (v:=.bool (C4 n (runB N.steps l) (finB N))) (fun δ=>#[δ 7,δ 11]) Z Z (fun _ _ _=>A3 Z Z en196) (fun wq δ xq hd=>?_) ?_;exact H3 n _ _ _ _ _ _ wq (hd 7 rfl _ rfl) (hd 11 rfl _ rfl) (by omega))|refine B8 (fun wq δ xq hR=>?_)|refine Sy ?_|refine yqY ?_|refine yqZ ?_|refine E_dq Aa (by kernel_rfl) Z ?_))
  exact A5 Z Z ⟨rfl,xX.trans xq⟩
theorem ends195_any (N : Net) (hN : NetOK N) (n : Nat) (hn : N.states = (n : Int)) (sv fv : Value) (w : World) (hs : Sl w sv N.steps) (hf : Sl w fv N.final) :
    Calls Tryz.prog 195 #[.agg #[int n,sv,fv] ] w (Rt fun u w'=>Ext w w'∧RB w.heap.size w' u n (Dz N)):=by
  have hfew:=hN.few
  rw [hn] at hfew
  have hin:∀ x∈N.steps,0≤x.frm∧x.frm<(n:Int)∧0≤x.to∧x.to<(n:Int):=fun x hx=>by
    have:=hN.steps x hx;rw [hn] at this;exact⟨this.1,this.2.1,this.2.2.1,this.2.2.2.1⟩
  refine A7 (n:=29) (args:=[.agg #[int n,sv,fv] ]) Tryz.func195 rfl Tryz.ntmps195 (by simp) ?_
  refine Ac ?_
  refine A8 ?_
  refine Aj Z Z Z Z (fun bX wX xX hbX rX0=>?_)
  have rX:Row wX bX 34 [int n,sv,fv]:=rX0
  clear rX0
  have hXs:=xX.size
  (repeat' (first|refine M3 (m:=n) Z Z Z Z Z Z Z Z (by omega) (by omega) (fun bM wM hbM rM0 xM=>?_)|refine Ly ?_))
  rw [Jz] at rM0
  refine Ae (ι:=Nat) (fun i=>[(1,.pointer (some ⟨bX,0,none⟩)),(3,.slice (some ⟨bM,0,none⟩) n n),(4,int i)])
    (fun i wr=>i≤n∧Ext wX wr∧Row wr bM 4 (blv n (fun q=>if q<(i:Int) then Dz N q else false))) (fun i=>n-i) 0
    ⟨rfl,rfl,rfl,trivial⟩ ⟨Nat.zero_le _,xM,by rw [Ia (T:=fun _=>false) (fun i _=>by rw [if_neg (by omega)])];exact rM0⟩ ?_
  rintro i wr ⟨hi,hx,hr⟩
  have hX:=xX.trans hx
  replace rX:=rX.ext hx
  have hXr:=hX.size
  by_cases hlt:i<n
  · have hends:Dz N (i:Int)=C4 n (C8 N.steps n (fun q=>[(i:Int)].contains q)) (finB N):=by
      unfold Dz
      rw [hn]
      have:(fun p=>p==(i:Int))=(fun q=>[(i:Int)].contains q):=by funext q;rw [Bool.eq_iff_iff];simp
      rw [this];rfl
    (repeat' ((fail_if_success (refine Ac (x:=(Code.region 5 _ _)) ?_));first|refine Ly ?_|refine Dy (fun hh=>?_) fun hh=>?_))
    all_goals (try (exfalso;omega))
    (repeat' (first|refine E_dm (id:=5) 14 Aa (by kernel_rfl) Z ?_|refine RQ_lit Z Z Z (fun _=>rfl) Z Z Z Z ?_|refine yV Z Z (fun _ _ _=>A0 (m:=i) Z Z Z Z (by omega)) ?_|(refine Al (f:=223) (fun u w'=>RB wr.heap.size w' u n (fun q=>[(i:Int)].contains q)) (fun δ=>#[.agg #[int n,sv,fv],δ 19]) Z Z (fun _ _ _ _ xe h=>RB.ext h xe) (fun _ _ _=>A3 Z Z en223) (fun wq δ xq hd=>?_) ?_;(obtain⟨b,e,_,h2⟩:=hd 19 rfl _ rfl;rw [e];exact Ag (Hv n sv fv [(i:Int)] _ wq (Gb (css:=[[int i] ]) h2 (B4 _ [(i:Int)]) (Nat.le_refl _) (by simp)) (fun q hq=>by rw [List.mem_singleton.1 hq];omega) (by omega)) (fun _ _ hh=>⟨hh.2.wk xq.size,hh.1⟩)))|(refine Al (f:=224) (fun u w'=>RB wr.heap.size w' u n (C8 N.steps n (fun q=>[(i:Int)].contains q))) (fun δ=>#[.agg #[int n,sv,fv],δ 20]) Z Z (fun _ _ _ _ xe h=>RB.ext h xe) (fun _ _ _=>A3 Z Z en224) (fun wq δ xq hd=>?_) ?_;exact Ag (P0 n N.steps sv fv _ _ (δ 20) wq (hs.ext (hX.trans xq)) (hd 20 rfl _ rfl) xq.size hin (by omega)) (fun _ _ hh=>⟨hh.2,hh.1⟩))|refine Al (f:=223) (fun u w'=>RB wr.heap.size w' u n (finB N)) (fun _=>#[.agg #[int n,sv,fv],fv]) Z Z (fun _ _ _ _ xe h=>RB.ext h xe) (fun _ _ _=>A3 Z Z en223) (fun wq _ xq _=>Ag (Hv n sv fv N.final fv wq (hf.ext (hX.trans xq)) (fun q hq=>by have:=hN.final q hq;rw [hn] at this;exact this) (by omega)) (fun _ _ hh=>⟨hh.2.wk xq.size,hh.1⟩)) ?_|(refine B9 (f:=196) (v:=.bool (Dz N i)) (fun δ=>#[δ 21,δ 25]) Z Z (fun _ _ _=>A3 Z Z en196) (fun wq δ xq hd=>?_) ?_;(rw [hends];exact H3 n _ _ _ _ _ _ wq (hd 21 rfl _ rfl) (hd 25 rfl _ rfl) (by omega)))|refine B8 (fun wq δ xq hR=>?_)|refine G6 (hr.ext xq) (hx.trans xq) (by omega) Z Z Z Z Z Z Z (by rw [Ft];omega) (fun wN rN xN _=>?_)|refine Sy ?_|refine yqY ?_|refine yqZ ?_))
    all_goals (try (exfalso;omega))
    refine Ad (i+1) ⟨rfl,rfl,rfl,trivial⟩ ⟨by omega,xN,?_⟩ (by omega)
    rw [show 0+i*1=i by omega,Jb] at rN
    rw [Ia (T:=fun p=>if p=(i:Int) then Dz N i else if p<(i:Int) then Dz N p else false) (fun j _=>by
      by_cases e:(j:Int)=(i:Int)
      · rw [if_pos e,if_pos (by omega),e]
      · rw [if_neg e]
        by_cases h:(j:Int)<(i:Int)
        · rw [if_pos h,if_pos (by omega)]
        · rw [if_neg h,if_neg (by omega)])]
    exact rN
  · obtain rfl:i=n:=by omega
    rw [Ia (T:=Dz N) (fun j hj=>by rw [if_pos (by omega)])] at hr
    (repeat' (first|refine Ly ?_|refine Dy (fun hh=>?_) fun hh=>?_))
    all_goals (try (exfalso;omega))
    exact A5 Z Z ⟨hX,bM,rfl,by omega,hr⟩
def Cr (N:Net) (l:List Int) (k:Nat):List Int:=((List.range k).map fun i:Nat=>(i:Int)+1).filter fun c=>D2 N l c
theorem followL_succ (N:Net) (l:List Int) (k:Nat):Cr N l (k+1)=Cr N l k++if D2 N l ((k:Int)+1) then [(k:Int)+1] else []:=by
  unfold Cr
  rw [List.range_succ,List.map_append,List.filter_append]
  congr 1
  cases h:D2 N l ((k:Int)+1) <;> simp [h]
theorem followL_len (N:Net) (l:List Int) (k:Nat):(Cr N l k).length≤k:=by
  have:=List.length_filter_le (fun c=>D2 N l c) ((List.range k).map fun i:Nat=>(i:Int)+1)
  simpa [Cr] using this
theorem follow_mem {N:Net} {l:List Int} {c:Int} (h:1≤c∧c≤20):decide (c∈Cr N l 20)=D2 N l c:=by
  unfold Cr
  rw [Bool.eq_iff_iff,decide_eq_true_eq,List.mem_filter]
  constructor
  · exact fun h=>h.2
  · intro hf
    refine⟨List.mem_map.2 ⟨(c-1).toNat,List.mem_range.2 (by omega),by omega⟩,hf⟩
theorem follow163_any (N:Net) (hN:NetOK N) (n:Nat) (hn:N.states=(n:Int)) (sv fv:Value) (l:List Int) (lv:Value) (w:World) (hs:Sl w sv N.steps) (hf:Sl w fv N.final) (hl:Sl w lv l) (hpos:∀ c∈l,1≤c) :
    Calls Tryz.prog 163 #[.agg #[int n,sv,fv],lv] w (Rt fun u w'=>Ext w w'∧SlG (fun b=>w.heap.size≤b) w' u (Cr N l 20)):=by
  have hfew:=hN.few
  rw [hn] at hfew
  have hin:∀ x∈N.steps,0≤x.frm∧x.frm<(n:Int)∧0≤x.to∧x.to<(n:Int):=fun x hx=>by
    have:=hN.steps x hx;rw [hn] at this;exact⟨this.1,this.2.1,this.2.2.1,this.2.2.2.1⟩
  refine A7 (n:=29) (args:=[.agg #[int n,sv,fv],lv]) Tryz.func163 rfl Tryz.ntmps163 (by simp) ?_
  refine Ac ?_
  refine A8 ?_
  refine Aj Z Z Z Z (fun bX wX xX hbX rX0=>?_)
  have rX:Row wX bX 34 [int n,sv,fv]:=rX0
  clear rX0
  have hXs:=xX.size
  (repeat' (first|(refine A9 Z Z (A3 Z Z en194) (Oq N hN n hn sv fv l lv wX (hs.ext xX) (hl.ext xX) hpos) (fun vF wF hC=>?_);obtain⟨xF,hF⟩:=hC;replace rX:=rX.ext xF)|(refine A9 Z Z (A3 Z Z en195) (ends195_any N hN n hn sv fv wF (hs.ext (xX.trans xF)) (hf.ext (xX.trans xF))) (fun vG wG hC=>?_);obtain⟨xG,hG⟩:=hC;replace rX:=rX.ext xG;replace hF:=hF.ext xG)|refine Ly ?_))
  have hX:=xX.trans (xF.trans xG)
  clear xX xF xG
  refine Ae (ι:=Nat × Value) (fun z=>[(2,.pointer (some ⟨bX,0,none⟩)),(5,z.2),(6,vF),(7,vG),(8,int ((z.1:Int)+1))])
    (fun z wr=>z.1≤20∧Ext wG wr∧wr.ownsRow wG.heap.size 3 1 z.2 (Cr N l z.1).length ((Cr N l z.1).map int)) (fun z=>20-z.1) (0,.slice none 0 0)
    ⟨rfl,rfl,rfl,rfl,rfl,trivial⟩ ⟨Nat.zero_le _,Ext.refl _,World.ownsRow_nil _ _ _ _⟩ ?_
  rintro⟨i,vO⟩ wr ⟨hi,hx,hown⟩
  dsimp only at hi hx hown ⊢
  replace rX:=rX.ext hx
  have hol:=followL_len N l i
  by_cases hlt:i<20
  · have hsucc:=followL_succ N l i
    have hfo:D2 N l ((i:Int)+1)=C4 n (aftB N.steps (runB N.steps l) ((i:Int)+1)) (Dz N):=by unfold D2;rw [hn];rfl
    rw [hfo] at hsucc
    cases hb:C4 n (aftB N.steps (runB N.steps l) ((i:Int)+1)) (Dz N) with
    | true=>
      rw [hb,if_pos rfl] at hsucc
      (repeat' (first|(refine A9 Z Z (A3 Z Z en197) (Fw n N.steps sv fv _ _ vF ((i:Int)+1) _ (hs.ext (hX.trans hx)) (hF.ext hx) hin (by omega)) (fun vA wA hC=>?_);obtain⟨xA,hA⟩:=hC;replace rX:=rX.ext xA;replace hown:=Ak hown xA)|(refine A9 Z Z (A3 Z Z en196) (H3 n _ _ _ _ _ _ _ hA (hG.ext (hx.trans xA)) (by omega)) (fun vB wB hC=>?_);rw [hb] at hC;obtain⟨rfl,xB⟩:=hC;replace rX:=rX.ext xB;replace hown:=Ak hown xB)|(refine Ay (news:=[int ((i:Int)+1)]) (Ak hown xS) ((hx.trans (xA.trans xB)).trans xS) (fun _=>⟨_,_,rfl,rS.at⟩) Z Z Z Z Z Z Z Z Z (by omega) (by omega) (fun vJ wJ oJ xJ kJ hJ=>?_))|refine Ly ?_|refine Dy (fun hh=>?_) fun hh=>?_|refine eL Z Z Z Z Z Z Z Z (fun bS wS xS hbS rS=>?_)))
      all_goals (try (exfalso;omega))
      refine Ad (i+1,vJ) ⟨rfl,rfl,rfl,rfl,by rfl,trivial⟩ ⟨by dsimp only;omega,xJ,?_⟩ (by dsimp only;omega)
      dsimp only
      rw [hsucc]
      simpa using oJ
    | false=>
      rw [hb,if_neg (by simp),List.append_nil] at hsucc
      (repeat' (first|(refine A9 Z Z (A3 Z Z en197) (Fw n N.steps sv fv _ _ vF ((i:Int)+1) _ (hs.ext (hX.trans hx)) (hF.ext hx) hin (by omega)) (fun vA wA hC=>?_);obtain⟨xA,hA⟩:=hC;replace rX:=rX.ext xA;replace hown:=Ak hown xA)|(refine A9 Z Z (A3 Z Z en196) (H3 n _ _ _ _ _ _ _ hA (hG.ext (hx.trans xA)) (by omega)) (fun vB wB hC=>?_);rw [hb] at hC;obtain⟨rfl,xB⟩:=hC;replace rX:=rX.ext xB;replace hown:=Ak hown xB)|refine Ly ?_|refine Dy (fun hh=>?_) fun hh=>?_))
      all_goals (try (exfalso;omega))
      refine Ad (i+1,vO) ⟨rfl,rfl,rfl,rfl,by rfl,trivial⟩ ⟨by dsimp only;omega,hx.trans (xA.trans xB),?_⟩ (by dsimp only;omega)
      dsimp only
      rw [hsucc]
      exact hown
  · obtain rfl:i=20:=by omega
    (repeat' (first|refine Ly ?_|refine Dy (fun hh=>?_) fun hh=>?_))
    all_goals (try (exfalso;omega))
    exact A5 Z Z ⟨hX.trans hx,C5 (css:=(Cr N l 20).map fun z=>[int z]) (by rw [Av];exact hown) (B4 _ _) (fun b hb=>Nat.le_trans hX.size hb) Z (by omega)⟩
end
end Go.Proofs.YtjicdgejhkgpgaaGreatDoor