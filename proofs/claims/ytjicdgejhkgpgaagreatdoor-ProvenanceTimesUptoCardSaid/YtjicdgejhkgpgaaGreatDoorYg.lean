/-
  Own text of the proof.
-/
import Derived.Test.YtjicdgejhkgpgaaGreatDoorYf
import Derived.Test.YtjicdgejhkgpgaaGreatDoorI
import Derived.Test.YtjicdgejhkgpgaaGreatDoorYe
set_option linter.all false
set_option maxHeartbeats 4000000
set_option maxRecDepth 8000
namespace Go.Proofs.YtjicdgejhkgpgaaGreatDoor
section
open Go.RowKit Go.En Go.Pv
attribute [local irreducible] E EL K Val Enters Rt Calls bodyPost Code.wp RQ
def isB (segs:List Ph) (z:Int):Bool:=decide (1≤z∧z≤(segs.length:Int))
theorem Jt (segs:List Ph) (v:Value) (z:Int) (w:World) (hv:Sl w v segs):Calls Tryz.prog 190 #[.agg #[v],int z] w (Rt fun u w'=>u=.bool (isB segs z)∧Ext w w'):=by
  obtain⟨a,cap,rfl,hc,hm,hp⟩:=hv.sl
  refine A7 (n:=14) (args:=[.agg #[.slice a segs.length cap],int z]) Tryz.func190 rfl Tryz.ntmps190 (by simp) ?_
  refine Ac ?_
  refine A8 ?_
  refine Aj Z Z Z Z (fun bX wX xX hbX rX0=>?_)
  have rX:Row wX bX 25 [.slice a segs.length cap]:=rX0
  clear rX0
  (repeat' (first|refine Ly ?_|refine Dy (fun hh=>?_) fun hh=>?_))
  all_goals (first|(exfalso;omega)|skip)
  all_goals exact A5 Z Z ⟨by unfold isB;congr 1;first|exact(decide_eq_true (by omega)).symm|exact(decide_eq_false (by omega)).symm|(symm;simp only [decide_eq_decide];omega),xX⟩
theorem is250_any (segs:List Ph) (v:Value) (z:Int) (w:World) (hv:Sl w v segs):Calls Tryz.prog 250 #[.agg #[v],int z] w (Rt fun u w'=>u=.bool (isB segs z)∧Ext w w'):=by
  obtain⟨a,cap,rfl,hc,hm,hp⟩:=hv.sl
  refine A7 (n:=14) (args:=[.agg #[.slice a segs.length cap],int z]) Tryz.func250 rfl Tryz.ntmps250 (by simp) ?_
  refine Ac ?_
  refine A8 ?_
  refine Aj Z Z Z Z (fun bX wX xX hbX rX0=>?_)
  have rX:Row wX bX 25 [.slice a segs.length cap]:=rX0
  clear rX0
  (repeat' (first|refine Ly ?_|refine Dy (fun hh=>?_) fun hh=>?_))
  all_goals (first|(exfalso;omega)|skip)
  all_goals exact A5 Z Z ⟨by unfold isB;congr 1;first|exact(decide_eq_true (by omega)).symm|exact(decide_eq_false (by omega)).symm|(symm;simp only [decide_eq_decide];omega),xX⟩
theorem two301:TwoInts Tryz.prog 301 3:=⟨by kernel_rfl,by kernel_rfl,by kernel_rfl,by kernel_rfl,Tryz.underlying3⟩
theorem two39:TwoInts Tryz.prog 39 3:=⟨by kernel_rfl,by kernel_rfl,by kernel_rfl,by kernel_rfl,Tryz.underlying3⟩
theorem inC_no {segs:List Ph} {z:Int} {c:Cls} (h:isB segs z=false):inC As segs z c=false:=by
  unfold inC;unfold isB at h;rw [h];rfl
theorem inC_yes {segs:List Ph} {k:Nat} {c:Cls} {p:Ph} (hp:segs[k]?=some p):inC As segs ((k:Int)+1) c=decide (As p.feat c.mask=c.val):=by
  have hk:=(List.getElem?_eq_some_iff.1 hp).1
  unfold inC
  rw [decide_eq_true (by omega:1≤(k:Int)+1∧(k:Int)+1≤(segs.length:Int)),show((k:Int)+1-1).toNat=k by omega,hp]
  simp only [Bool.true_and]
  rfl
theorem in249_any (segs:List Ph) (v:Value) (z:Int) (c:Cls) (w:World) (hv:Sl w v segs):Calls Tryz.prog 249 #[.agg #[v],int z,.agg #[int c.mask,int c.val] ] w (Rt fun u w'=>u=.bool (inC As segs z c)∧Ext w w'):=by
  have hv0:=hv
  obtain⟨a,cap,rfl,hc,hm,hp⟩:=hv.sl
  refine A7 (n:=25) (args:=[.agg #[.slice a segs.length cap],int z,.agg #[int c.mask,int c.val] ]) Tryz.func249 rfl Tryz.ntmps249 (by simp) ?_
  refine Ac ?_
  refine A8 ?_
  refine Aj Z Z Z Z (fun bX wX xX hbX rX0=>?_)
  have rX1:Row wX bX 25 [.slice a segs.length cap]:=rX0
  refine Aj Z Z Z Z (fun bC wC xC hbC rC0=>?_)
  have rC:Row wC bC 301 [int c.mask,int c.val]:=rC0
  have rX:=rX1.ext xC
  clear rX0 rX1 rC0
  have hX:=xX.trans xC
  have hv1:=hv0.ext hX
  have ci:=fun wq (xq:Ext wC wq)=>Jt segs _ z wq (hv1.ext xq)
  cases hb:isB segs z with
  | false=>
    rw [inC_no hb]
    rw [hb] at ci
    (repeat' (first|refine An Z Z (fun _ _ _=>A3 Z Z en190) ci ?_|refine Sy ?_|refine yqY ?_|refine yqZ ?_|refine E_dq Aa (by kernel_rfl) Z ?_|refine yN Z (fun wq xq=>?_)|refine yO Z Z ?_))
    exact A5 Z Z ⟨rfl,hX.trans xq⟩
  | true=>
    rw [hb] at ci
    have hz:=of_decide_eq_true hb
    obtain⟨k,rfl⟩:∃ k:Nat,z=(k:Int)+1:=⟨(z-1).toNat,by omega⟩
    obtain⟨p,hp1⟩:∃ p,segs[k]?=some p:=⟨_,List.getElem?_eq_getElem (by omega)⟩
    obtain⟨b,off,rfl⟩:=hp (by omega)
    have hat:=Nm hv1 hp1
    rw [inC_yes hp1]
    (repeat' (first|refine An Z Z (fun _ _ _=>A3 Z Z en190) ci ?_|refine yV Z Z (fun _ _ _=>A0 (m:=k) Z Z Z (by omega) (by omega)) ?_|refine yV Z Z (fun _ _ _=>val_and Z Z Z) ?_|refine Sy ?_|refine yqY ?_|refine yqZ ?_|refine yqX (fun hh=>?_) fun hh=>?_|refine E_dq Aa (by kernel_rfl) Z ?_|refine yN Z (fun wq xq=>?_)))
    all_goals exact A5 Z Z ⟨by congr 1;first|exact(decide_eq_true (by assumption)).symm|exact(decide_eq_false (by assumption)).symm,hX.trans xq⟩
theorem in248_any (segs:List Ph) (v:Value) (z:Int) (c:Cls) (w:World) (hv:Sl w v segs):Calls Tryz.prog 248 #[.agg #[v],int z,.agg #[int c.mask,int c.val] ] w (Rt fun u w'=>u=.bool (inC As segs z c)∧Ext w w'):=by
  have hv0:=hv
  obtain⟨a,cap,rfl,hc,hm,hp⟩:=hv.sl
  refine A7 (n:=27) (args:=[.agg #[.slice a segs.length cap],int z,.agg #[int c.mask,int c.val] ]) Tryz.func248 rfl Tryz.ntmps248 (by simp) ?_
  refine Ac ?_
  refine A8 ?_
  refine Aj Z Z Z Z (fun bX wX xX hbX rX0=>?_)
  have rX1:Row wX bX 25 [.slice a segs.length cap]:=rX0
  refine Aj Z Z Z Z (fun bC wC xC hbC rC0=>?_)
  have rC:Row wC bC 301 [int c.mask,int c.val]:=rC0
  have rX:=rX1.ext xC
  clear rX0 rX1 rC0
  have hX:=xX.trans xC
  have hv1:=hv0.ext hX
  have ci:=fun wq (xq:Ext wC wq)=>is250_any segs _ z wq (hv1.ext xq)
  cases hb:isB segs z with
  | false=>
    rw [inC_no hb]
    rw [hb] at ci
    (repeat' (first|refine An Z Z (fun _ _ _=>A3 Z Z en250) ci ?_|refine Sy ?_|refine yqY ?_|refine yqZ ?_|refine E_dq Aa (by kernel_rfl) Z ?_|refine yN Z (fun wq xq=>?_)|refine yO Z Z ?_))
    exact A5 Z Z ⟨rfl,hX.trans xq⟩
  | true=>
    rw [hb] at ci
    have hz:=of_decide_eq_true hb
    obtain⟨k,rfl⟩:∃ k:Nat,z=(k:Int)+1:=⟨(z-1).toNat,by omega⟩
    obtain⟨p,hp1⟩:∃ p,segs[k]?=some p:=⟨_,List.getElem?_eq_getElem (by omega)⟩
    obtain⟨b,off,rfl⟩:=hp (by omega)
    have hat:=Nm hv1 hp1
    rw [inC_yes hp1]
    (repeat' (first|refine An Z Z (fun _ _ _=>A3 Z Z en250) ci ?_|refine yV Z Z (fun _ _ _=>A0 (m:=k) Z Z Z (by omega) (by omega)) ?_|refine yV Z Z (fun _ _ _=>val_and Z Z Z) ?_|refine yV Z Z (fun _ _ _=>Af (vs:=[(0,int c.mask),(1,int (As p.feat c.mask))]) [int c.mask,int (As p.feat c.mask)] rfl rfl rfl) ?_|refine yV Z Z (fun _ _ _=>val_eq_two two301 rfl rfl rfl) ?_|refine Sy ?_|refine yqY ?_|refine yqZ ?_|refine E_dq Aa (by kernel_rfl) Z ?_|refine yN Z (fun wq xq=>?_)))
    all_goals exact A5 Z Z ⟨by congr 1;rw [decide_eq_true rfl,Bool.true_and];simp only [decide_eq_decide];exact eq_comm,hX.trans xq⟩
theorem Dd (z:Int) (w:World):Calls Tryz.prog 61 #[int z] w (Rt fun u w'=>u=.bool (B0 z)∧Ext w w'):=by
  refine A7 (n:=9) (args:=[int z]) Tryz.func61 rfl Tryz.ntmps61 (by simp) ?_
  (repeat' (first|refine Sy ?_|refine Dy (fun hh=>?_) fun hh=>?_))
  all_goals exact A5 Z Z ⟨by unfold B0;congr 1;first|exact(decide_eq_true (by omega)).symm|exact(decide_eq_false (by omega)).symm|(simp only [decide_eq_decide];omega),Ext.refl _⟩
theorem Fg (z:Int) (w:World):Calls Tryz.prog 56 #[int z] w (Rt fun u w'=>u=.bool (B0 z)∧Ext w w'):=by
  refine A7 (n:=9) (args:=[int z]) Tryz.func56 rfl Tryz.ntmps56 (by simp) ?_
  (repeat' (first|refine Sy ?_|refine Dy (fun hh=>?_) fun hh=>?_))
  all_goals exact A5 Z Z ⟨by unfold B0;congr 1;first|exact(decide_eq_true (by omega)).symm|exact(decide_eq_false (by omega)).symm|(simp only [decide_eq_decide];omega),Ext.refl _⟩
theorem P2 (a b:Rf) (w:World):Calls Tryz.prog 64 #[.agg #[int a.rcd,int a.note],.agg #[int b.rcd,int b.note] ] w (Rt fun u w'=>u=.bool (decide (ltR a b))∧Ext w w'):=by
  refine A7 (n:=24) (args:=[.agg #[int a.rcd,int a.note],.agg #[int b.rcd,int b.note] ]) Tryz.func64 rfl Tryz.ntmps64 (by simp) ?_
  refine Ac ?_
  refine A8 ?_
  refine Aj Z Z Z Z (fun bX wX xX hbX rX0=>?_)
  have rX1:Row wX bX 39 [int a.rcd,int a.note]:=rX0
  refine Aj Z Z Z Z (fun bC wC xC hbC rC0=>?_)
  have rC:Row wC bC 39 [int b.rcd,int b.note]:=rC0
  have rX:=rX1.ext xC
  clear rX0 rX1 rC0
  have hX:=xX.trans xC
  (repeat' (first|refine Ly ?_|refine Dy (fun hh=>?_) fun hh=>?_))
  all_goals exact A5 Z Z ⟨by congr 1;unfold ltR;first|exact(decide_eq_true (by omega)).symm|exact(decide_eq_false (by omega)).symm|(simp only [decide_eq_decide];omega),hX⟩
theorem prec101_any (a b:Rf) (w:World):Calls Tryz.prog 101 #[.agg #[int a.rcd,int a.note],.agg #[int b.rcd,int b.note] ] w (Rt fun u w'=>u=.bool (decide (ltR a b))∧Ext w w'):=by
  refine A7 (n:=24) (args:=[.agg #[int a.rcd,int a.note],.agg #[int b.rcd,int b.note] ]) Tryz.func101 rfl Tryz.ntmps101 (by simp) ?_
  refine Ac ?_
  refine A8 ?_
  refine Aj Z Z Z Z (fun bX wX xX hbX rX0=>?_)
  have rX1:Row wX bX 39 [int a.rcd,int a.note]:=rX0
  refine Aj Z Z Z Z (fun bC wC xC hbC rC0=>?_)
  have rC:Row wC bC 39 [int b.rcd,int b.note]:=rC0
  have rX:=rX1.ext xC
  clear rX0 rX1 rC0
  have hX:=xX.trans xC
  (repeat' (first|refine Ly ?_|refine Dy (fun hh=>?_) fun hh=>?_))
  all_goals exact A5 Z Z ⟨by congr 1;unfold ltR;first|exact(decide_eq_true (by omega)).symm|exact(decide_eq_false (by omega)).symm|(simp only [decide_eq_decide];omega),hX⟩
theorem ref131_any (r:Rf) (w:World):Calls Tryz.prog 131 #[.agg #[int r.rcd,int r.note] ] w (Rt fun u w'=>u=.bool (B0 r.rcd&&B0 r.note)∧Ext w w'):=by
  refine A7 (n:=11) (args:=[.agg #[int r.rcd,int r.note] ]) Tryz.func131 rfl Tryz.ntmps131 (by simp) ?_
  refine Ac ?_
  refine A8 ?_
  refine Aj Z Z Z Z (fun bX wX xX hbX rX0=>?_)
  have rX:Row wX bX 39 [int r.rcd,int r.note]:=rX0
  clear rX0
  have c1:=Dd r.rcd wX
  cases hb:B0 r.rcd with
  | false=>
    rw [hb] at c1
    (repeat' (first|(refine cqC c1 en61 fun wC xC=>?_)|refine Ly ?_))
    exact A5 Z Z ⟨rfl,xX.trans xC⟩
  | true=>
    rw [hb] at c1
    (repeat' (first|(refine cqC c1 en61 fun wC xC=>?_;replace rX:=rX.ext xC)|(refine A9 Z Z (A3 Z Z en61) (Dd r.note _) (fun vC wD hC=>?_);obtain⟨rfl,xD⟩:=hC)|refine Ly ?_))
    exact A5 Z Z ⟨rfl,xX.trans (xC.trans xD)⟩
def Kj (n q:Int):Bool:=decide (0≤q∧q<n)
theorem Hu (n q:Int) (sv fv:Value) (w:World):Calls Tryz.prog 152 #[.agg #[int n,sv,fv],int q] w (Rt fun u w'=>u=.bool (Kj n q)∧Ext w w'):=by
  refine A7 (n:=13) (args:=[.agg #[int n,sv,fv],int q]) Tryz.func152 rfl Tryz.ntmps152 (by simp) ?_
  refine Ac ?_
  refine A8 ?_
  refine Aj Z Z Z Z (fun bX wX xX hbX rX0=>?_)
  have rX:Row wX bX 34 [int n,sv,fv]:=rX0
  clear rX0
  (repeat' (first|refine Ly ?_|refine Dy (fun hh=>?_) fun hh=>?_))
  all_goals exact A5 Z Z ⟨by unfold Kj;congr 1;first|exact(decide_eq_true (by omega)).symm|exact(decide_eq_false (by omega)).symm|(simp only [decide_eq_decide];omega),xX⟩
end
section
open Go.RowKit Go.En
attribute [local irreducible] E EL K Val Enters Rt Calls bodyPost Code.wp RQ
theorem Q9 (a:Int) (w:World):Calls Tryz.prog 200 #[int a] w (Rt fun u w'=>u=.bool (scalI a)∧Ext w w'):=by
  refine A7 (n:=17) (args:=[int a]) Tryz.func200 rfl Tryz.ntmps200 (by simp) ?_
  (repeat' (first|refine Sy ?_|refine Dy (fun hh=>?_) fun hh=>?_))
  all_goals exact A5 Z Z ⟨congrArg Value.bool (by simp [scalI, *]),Ext.refl w⟩
theorem encoded_any (p:Nat) (hp:p≤1114111) (w:World):Calls Tryz.prog 201 #[int p] w (Rt fun u w'=>u=str (encB p)∧Ext w w'):=by
  have hc:=enc_cells (encN_256 hp)
  unfold encN at hc
  refine A7 (n:=61) (args:=[int p]) Tryz.func201 rfl Tryz.ntmps201 (by simp) ?_
  (repeat' (first|refine Sy ?_|refine Dy (fun hh=>?_) fun hh=>?_|(refine eV Z Z (Jj Z Z Z ?_ ?_) ?_;(first|omega|(simp only [kmin,kmax];omega));(first|omega|(simp only [kmin,kmax];omega)))|(refine eV Z Z (val_quo Z Z Z ?_ ?_ ?_) ?_;(first|omega|(simp only [kmin,kmax];omega));(first|omega|(simp only [kmin,kmax];omega));(first|omega|(simp only [kmin,kmax];omega)))|(refine eV Z Z (val_rem Z Z Z ?_ ?_) ?_;(first|omega|(simp only [kmin,kmax];omega));(first|omega|(simp only [kmin,kmax];omega)))|(refine eV Z Z (Fq Z Z ?_ ?_) ?_;(first|omega|(simp only [kmin,kmax];omega));(first|omega|(simp only [kmin,kmax];omega)))|refine eL Z Z Z Z Z Z Z Z (fun bS wS xS hbS rS=>?_)))
  · rw [if_pos (by omega)] at hc
    have hat:At wS bS 0 ((encB p).map fun b=>Value.int .u8 b.toNat):=by rw [hc];exact rS.at
    refine Hc Z Z (Cw Z Z (by have:=congrArg List.length hc;simpa using this) hat) ?_
    (repeat' (first|refine Sy ?_))
    exact A5 Z Z ⟨rfl,xS⟩
  · rw [if_neg (by omega),if_pos (by omega)] at hc
    have hat:At wS bS 0 ((encB p).map fun b=>Value.int .u8 b.toNat):=by rw [hc];simpa [Value.cells] using rS.at
    refine Hc Z Z (Cw Z Z (by have:=congrArg List.length hc;simpa using this) hat) ?_
    (repeat' (first|refine Sy ?_))
    exact A5 Z Z ⟨rfl,xS⟩
  · rw [if_neg (by omega),if_neg (by omega),if_pos (by omega)] at hc
    have hat:At wS bS 0 ((encB p).map fun b=>Value.int .u8 b.toNat):=by rw [hc];simpa [Value.cells] using rS.at
    refine Hc Z Z (Cw Z Z (by have:=congrArg List.length hc;simpa using this) hat) ?_
    (repeat' (first|refine Sy ?_))
    exact A5 Z Z ⟨rfl,xS⟩
  · rw [if_neg (by omega),if_neg (by omega),if_neg (by omega)] at hc
    have hat:At wS bS 0 ((encB p).map fun b=>Value.int .u8 b.toNat):=by rw [hc];simpa [Value.cells] using rS.at
    refine Hc Z Z (Cw Z Z (by have:=congrArg List.length hc;simpa using this) hat) ?_
    (repeat' (first|refine Sy ?_))
    exact A5 Z Z ⟨rfl,xS⟩
theorem first_any (l : List UInt8) (i : Nat) (hi : i < l.length) (hl : l.length ≤ 1099511627776) (w : World) : Calls Tryz.prog 170 #[str l, int i] w (Rt fun u w' => u = .tuple #[int (fR (l.drop i)).1, int (fR (l.drop i)).2] ∧ Ext w w') := by
  have hc0:=drop_get (l:=l) (i:=i) (j:=0) hi
  rw [Nat.add_zero] at hc0
  have hdl:(l.drop i).length=l.length-i:=List.length_drop
  obtain⟨d,hd⟩:∃ d,d=l.drop i:=⟨_,rfl⟩
  rw [← hd] at hc0 hdl ⊢
  have hb:=UInt8.toNat_lt (d.getD 0 0)
  obtain⟨n,hn⟩:∃ n,n=Gf (d.getD 0 0).toNat:=⟨_,rfl⟩
  have hn1:=leadN_1 (d.getD 0 0).toNat
  rw [← hn] at hn1
  refine A7 (n:=65) (args:=[str l,int i]) Tryz.func170 rfl Tryz.ntmps170 (by simp) ?_
  (repeat' ((fail_if_success (refine Ac (x:=(Code.block 0 _)) ?_));first|refine Hc Z Z (C2 Z Z Z Z hc0) ?_|refine Sy ?_|(refine eV Z Z (Fq Z Z ?_ ?_) ?_;(first|omega|(simp only [kmin,kmax];omega));(first|omega|(simp only [kmin,kmax];omega)))))
  refine Fl (ι:=Unit) (fun _=>[(0,str l),(1,int i),(6,int (K9 (d.getD 0 0).toNat)),(7,int n)]) (fun _ w2=>w2=w) ?_ ?_
  · (repeat' (first|refine Sy ?_|refine Dy (fun hh=>?_) fun hh=>?_|(refine eV Z Z (val_sub Z Z Z ?_ ?_) ?_;(first|omega|(simp only [kmin,kmax];omega));(first|omega|(simp only [kmin,kmax];omega)))))
    all_goals exact Bx () ⟨rfl,rfl,congrArg some (congrArg (Value.int .i64) (by unfold K9;(repeat' split) <;> omega)),congrArg some (congrArg (Value.int .i64) (by rw [hn];unfold Gf;(repeat' split) <;> omega)),trivial⟩ rfl
  · rintro - w2 rfl
    have hstep:∀ k,k+1<n→accP d (k+2)=accP d (k+1)*64+(d.getD (k+1) 0).toNat % 64:=fun k _=>rfl
    (repeat' (first|refine Sy ?_|refine Dy (fun hh=>?_) fun hh=>?_|(refine eV Z Z (Jj Z Z Z ?_ ?_) ?_;(first|omega|(simp only [kmin,kmax];omega));(first|omega|(simp only [kmin,kmax];omega)))))
    · refine Hg Z Z Z ⟨?_,Ext.refl _⟩
      have:C3 d=none:=by unfold C3;rw [if_pos (by rw [← hn];omega)]
      simp [fR,this]
    · have hle:i+n≤l.length:=by omega
      refine Ae (ι:=Nat) (fun k=>[(0,str l),(1,int i),(6,int (accP d k)),(7,int n),(8,int k)]) (fun k w'=>1≤k∧k≤n∧w'=w2) (fun k=>n-k) 1 ⟨rfl,rfl,rfl,rfl,rfl,trivial⟩ ⟨Nat.le_refl _,hn1.1,rfl⟩ ?_
      rintro k w' ⟨hk1,hkn,rfl⟩
      have hac:=accP_le d k (by omega)
      have hck:k<n→l[i+k]?=some (d.getD k 0):=fun h=>by rw [hd];exact drop_get (by omega)
      have hbk:=UInt8.toNat_lt (d.getD k 0)
      refine Fl (ι:=Unit) (fun _=>[(0,str l),(1,int i),(6,int (accP d k)),(7,int n),(8,int k)]) (fun _ w2=>w2=w'∧k<n) ?_ ?_
      · (repeat' (first|refine Sy ?_|refine Dy (fun hh=>?_) fun hh=>?_|refine yqZ ?_|refine E_dq Aa (by kernel_rfl) Z ?_))
        · exact Bx () ⟨rfl,rfl,rfl,rfl,rfl,trivial⟩ ⟨rfl,by omega⟩
        · have hkn':k=n:=by omega
          subst hkn'
          have hsc:=scalI_eq (accP d k)
          cases hs:scal (accP d k) with
          | false=>
            rw [hs] at hsc
            (repeat' (first|refine An (v:=.bool false) Z Z (fun _ _ _=>A3 Z Z en200) (fun wq _=>hsc▸Q9 _ wq) ?_|refine Sy ?_|refine yqZ ?_|refine yN Z (fun wq xq=>?_)|refine yO Z Z ?_))
            refine Hg Z Z Z ⟨?_,xq⟩
            have:C3 d=none:=by
              unfold C3
              rw [← hn,if_neg (by omega),if_neg (by rw [hs];simp)]
            simp [fR,this]
          | true=>
            rw [hs] at hsc
            have hp:accP d k≤1114111:=(Di.1 hs).1
            have htake:(l.take (i+k)).drop i=d.take k:=by rw [hd,List.drop_take,Nat.add_sub_cancel_left]
            (repeat' (first|refine An (v:=.bool true) Z Z (fun _ _ _=>A3 Z Z en200) (fun wq _=>hsc▸Q9 _ wq) ?_|refine An Z Z (fun _ _ _=>A3 Z Z en201) (fun wq _=>encoded_any _ hp wq) ?_|refine RQ_val Z Z (fun _ _ _=>H5 Z Z Z Z Z (Int.natCast_add i k).symm (by omega) (by omega)) ?_|refine Sy ?_|refine yqZ ?_|refine yqX (fun hh=>?_) fun hh=>?_|refine yN Z (fun wq xq=>?_)|(refine yV Z Z (fun _ _ _=>Jj Z Z Z ?_ ?_) ?_;(first|omega|(simp only [kmin,kmax];omega));(first|omega|(simp only [kmin,kmax];omega)))))
            · have hne:¬ encB (accP d k)=d.take k:=by rw [← htake];assumption
              refine Hg Z Z Z ⟨?_,xq⟩
              have:C3 d=none:=by
                unfold C3
                rw [← hn,if_neg (by omega),if_neg (fun h=>hne h.2)]
              simp [fR,this]
            · have he:encB (accP d k)=d.take k:=by rw [← htake];exact Classical.not_not.1 (by assumption)
              refine Hg Z Z Z ⟨?_,xq⟩
              have:C3 d=some (accP d k,k):=by
                unfold C3
                rw [← hn,if_neg (by omega),if_pos ⟨hs,he⟩]
              simp [fR,this]
      · rintro-w2 ⟨rfl,hlt⟩
        have hstep:accP d (k+1)=accP d k*64+(d.getD k 0).toNat % 64:=by
          obtain⟨j,rfl⟩:∃ j,k=j+1:=⟨k-1,by omega⟩
          rfl
        (repeat' (first|refine Hc Z Z (C2 Z Z Z (Int.natCast_add i k).symm (hck hlt)) ?_|refine Sy ?_|(refine eV Z Z (Jj Z Z Z ?_ ?_) ?_;(first|omega|(simp only [kmin,kmax];omega));(first|omega|(simp only [kmin,kmax];omega)))|(refine eV Z Z (val_rem Z Z Z ?_ ?_) ?_;(first|omega|(simp only [kmin,kmax];omega));(first|omega|(simp only [kmin,kmax];omega)))|(refine eV Z Z (val_mul Z Z Z ?_ ?_) ?_;(first|omega|(simp only [kmin,kmax];omega));(first|omega|(simp only [kmin,kmax];omega)))|(refine eV Z Z (Fq Z Z ?_ ?_) ?_;(first|omega|(simp only [kmin,kmax];omega));(first|omega|(simp only [kmin,kmax];omega)))))
        exact Ad (k+1) ⟨rfl,rfl,congrArg some (congrArg (Value.int .i64) (by rw [hstep];omega)),rfl,rfl,trivial⟩ ⟨by omega,by omega,rfl⟩ (by omega)
end
section
open Go.RowKit Go.En
attribute [local irreducible] E EL K Val Enters Rt Calls bodyPost Code.wp RQ
theorem Mx (l : List UInt8) (hl : l.length ≤ 16777216) (w : World) : Calls Tryz.prog 130 #[str l] w (Rt (PointsR w (points l))) := by
  refine A7 (n:=28) (args:=[str l]) Tryz.func130 rfl Tryz.ntmps130 (by simp) ?_
  (repeat' (first|refine Sy ?_))
  refine Ae (ι:=Nat × Value × List Nat) (fun x=>[(0,str l),(4,x.2.1),(5,int x.1)]) (fun x wr=>x.1≤l.length∧x.2.2.length≤x.1∧points l=(points (l.drop x.1)).map (x.2.2++·)∧IntsOwn w wr x.2.1 x.2.2∧Ext w wr) (fun x=>l.length-x.1) (0,.slice none 0 0,[])
    ⟨rfl,rfl,rfl,trivial⟩ ⟨Nat.zero_le _,Nat.le_refl _,by simp,World.ownsRow_nil _ _ _ _,Ext.refl _⟩ ?_
  rintro⟨i,v,zs⟩ wr ⟨hi,hz,hp,hown,hx⟩
  dsimp only at hi hz hp hown hx ⊢
  by_cases hlt:i<l.length
  · have hne:l.drop i≠[]:=by intro h;have:=congrArg List.length h;simp at this;omega
    have hf:=first_any l i hlt (by omega) wr
    rw [Gw hne] at hp
    cases hfr:C3 (l.drop i) with
    | none=>
      rw [hfr] at hp
      simp only [fR,hfr] at hf
      (repeat' (first|(refine cqC hf en170 fun wC xC=>?_)|refine Sy ?_|refine Dy (fun hh=>?_) fun hh=>?_|refine eL Z Z Z Z Z Z Z Z (fun bS wS xS hbS rS=>?_)))
      · refine Hg Z Z Z ⟨hx.trans xC,?_⟩
        rw [hp];rfl
      all_goals omega
    | some q=>
      obtain⟨p,n⟩:=q
      have hq:=Fj hfr
      rw [List.length_drop] at hq
      rw [hfr] at hp
      simp only [fR,hfr] at hf
      (repeat' (first|(refine cqC hf en170 fun wC xC=>?_)|refine Sy ?_|refine Dy (fun hh=>?_) fun hh=>?_|refine eL Z Z Z Z Z Z Z Z (fun bS wS xS hbS rS=>?_)))
      all_goals (first|(exfalso;omega)|skip)
      refine Qf (Ak hown (xC.trans xS)) ((hx.trans xC).trans xS) rS.at rfl rfl rfl rfl rfl rfl rfl rfl rfl (by omega) (by omega) (fun vA wA oA xA _=>?_)
      (repeat' (first|refine Sy ?_|(refine eV Z Z (Jj Z Z Z ?_ ?_) ?_;(first|omega|(simp only [kmin,kmax];omega));(first|omega|(simp only [kmin,kmax];omega)))))
      refine Ad (i+n,vA,zs++[p]) ⟨rfl,rfl,rfl,trivial⟩ ⟨by dsimp only;omega,by simp;omega,?_,?_,xA⟩ (by dsimp only;omega)
      · rw [hp]
        simp only [List.drop_drop]
        cases points (l.drop (i+n)) <;> simp
      · unfold IntsOwn
        simpa [Value.cells] using oA
  · have hil:i=l.length:=by omega
    subst hil
    (repeat' (first|refine Sy ?_|refine Dy (fun hh=>?_) fun hh=>?_))
    all_goals (first|(exfalso;omega)|skip)
    rw [List.drop_length,Hz] at hp
    simp only [Option.map_some,List.append_nil] at hp
    refine Hg Z Z Z ⟨hx,?_⟩
    rw [hp]
    exact⟨v,rfl,hown⟩
end
section
open Go.RowKit Go.En Go.Pv
def ctlB (c:UInt8):Bool:=decide (c.toNat<32)||decide (c.toNat=127)
def labB (s:List UInt8):Bool:=!(s.any ctlB)&&((points s).isSome&&(decide (1≤s.length)&&decide (s.length≤32)))
theorem lab_len {s:List UInt8} (h:labB s=true):1≤s.length∧s.length≤32:=by
  unfold labB at h
  simp only [Bool.and_eq_true,decide_eq_true_eq] at h
  exact h.2.2
attribute [local irreducible] E EL K Val Enters Rt Calls bodyPost Code.wp RQ
theorem J2 (s:List UInt8) (hs:s.length≤1048576) (w:World):Calls Tryz.prog 96 #[str s] w (Rt fun u w'=>u=.bool (labB s)∧Ext w w'):=by
  refine A7 (n:=38) (args:=[str s]) Tryz.func96 rfl Tryz.ntmps96 (by simp) ?_
  (repeat' (first|refine Sy ?_))
  refine Ae (ι:=Nat) (fun i=>[(0,str s),(3,int i)]) (fun i wr=>i≤s.length∧Ext w wr∧∀(j:Nat) (c:UInt8),j<i→s[j]?=some c→ctlB c=false) (fun i=>s.length-i) 0
    ⟨rfl,rfl,trivial⟩ ⟨Nat.zero_le _,Ext.refl _,fun j c hj=>absurd hj (by omega)⟩ ?_
  rintro i wr ⟨hi,hx,hall⟩
  by_cases hlt:i<s.length
  · obtain ⟨c, hc⟩ : ∃ c, s[i]? = some c := ⟨_, List.getElem?_eq_getElem hlt⟩
    (repeat' (first|refine eV Z Z (C2 Z Z Z Z hc) ?_|refine Sy ?_|refine Dy (fun hh=>?_) fun hh=>?_))
    all_goals (try (exfalso;omega))
    all_goals first
      | (have hct : ctlB c = true := by unfold ctlB; simp; omega
         have:labB s=false:=by
           unfold labB
           rw [show s.any ctlB=true from List.any_eq_true.2 ⟨c,List.mem_of_getElem? hc,hct⟩];rfl
         rw [this]
         exact A5 Z Z ⟨rfl,hx⟩)
      | (have hct : ctlB c = false := by unfold ctlB; simp; omega
         refine Ad (i+1) ⟨rfl,rfl,trivial⟩ ⟨by omega,hx,fun j c' hj hc'=>?_⟩ (by omega)
         by_cases e:j=i
         · subst e;rw [hc] at hc';cases hc';exact hct
         · exact hall j c' (by omega) hc')
  · obtain rfl:i=s.length:=by omega
    have hany:s.any ctlB=false:=by
      rw [List.any_eq_false]
      intro c hc
      obtain⟨j,hj⟩:=List.getElem?_of_mem hc
      rw [hall j c (List.getElem?_eq_some_iff.1 hj).1 hj];simp
    have hf:=Mx s (by omega) wr
    cases hp:points s with
    | none=>
      have:labB s=false:=by unfold labB;rw [hp,hany];rfl
      rw [this]
      rw [hp] at hf
      (repeat' (first|(refine A9 Z Z (A3 Z Z en130) hf (fun vC wC hC=>?_);obtain⟨xC,hv⟩:=hC;obtain rfl:=hv)|refine Sy ?_|refine Dy (fun hh=>?_) fun hh=>?_))
      all_goals (try (exfalso;omega))
      exact A5 Z Z ⟨rfl,hx.trans xC⟩
    | some zs=>
      have hl:labB s=(decide (1≤s.length)&&decide (s.length≤32)):=by unfold labB;rw [hp,hany];rfl
      rw [hl]
      rw [hp] at hf
      (repeat' (first|(refine A9 Z Z (A3 Z Z en130) hf (fun vC wC hC=>?_);obtain⟨xC,v,hv,hown⟩:=hC;obtain rfl:=hv)|refine Sy ?_|refine Dy (fun hh=>?_) fun hh=>?_))
      all_goals (try (exfalso;omega))
      all_goals
        refine A5 Z Z ⟨?_,hx.trans xC⟩
        congr 1
        by_cases h1:1≤s.length <;> by_cases h2:s.length≤32 <;> simp [h1,h2] <;> omega
theorem Lp (s:List UInt8) (hs:s.length≤1048576) (w:World):Calls Tryz.prog 149 #[str s] w (Rt fun u w'=>(∃ b,u=.bool b∧(b=true→1≤s.length∧s.length≤32))∧Ext w w'):=by
  refine A7 (n:=16) (args:=[str s]) Tryz.func149 rfl Tryz.ntmps149 (by simp) ?_
  (repeat' (first|refine Sy ?_))
  refine Ae (ι:=Nat) (fun i=>[(0,str s),(3,int i)]) (fun i wr=>i≤s.length∧Ext w wr) (fun i=>s.length-i) 0
    ⟨rfl,rfl,trivial⟩ ⟨Nat.zero_le _,Ext.refl _⟩ ?_
  rintro i wr ⟨hi,hx⟩
  by_cases hlt:i<s.length
  · obtain⟨c,hc⟩:∃ c,s[i]?=some c:=⟨_,List.getElem?_eq_getElem hlt⟩
    (repeat' (first|refine eV Z Z (C2 Z Z Z Z hc) ?_|refine Sy ?_|refine Dy (fun hh=>?_) fun hh=>?_))
    all_goals (try (exfalso;omega))
    all_goals first
      | exact A5 Z Z ⟨⟨_,rfl,fun h=>by cases h⟩,hx⟩
      | exact Ad (i+1) ⟨rfl,rfl,trivial⟩ ⟨by omega,hx⟩ (by omega)
  · obtain rfl:i=s.length:=by omega
    (repeat' (first|(refine cqC (J2 s hs _) en96 fun wC xC=>?_)|refine Sy ?_|refine Dy (fun hh=>?_) fun hh=>?_))
    all_goals (try (exfalso;omega))
    exact A5 Z Z ⟨⟨_,rfl,lab_len⟩,hx.trans xC⟩
theorem has150_any (l:List Txt) (s:List UInt8) (v:Value) (w:World) (hv:Sl w v l):Calls Tryz.prog 150 #[v,str s] w (Rt fun u w'=>(∃ b,u=.bool b)∧Ext w w'):=by
  have hv0:=hv
  obtain⟨a,cap,rfl,hc,hm,hp⟩:=hv.sl
  refine A7 (n:=18) (args:=[.slice a l.length cap,str s]) Tryz.func150 rfl Tryz.ntmps150 (by simp) ?_
  (repeat' (first|refine Sy ?_))
  refine Ae (ι:=Nat) (fun i=>[(0,.slice a l.length cap),(1,str s),(5,int i)]) (fun i wr=>i≤l.length∧Ext w wr) (fun i=>l.length-i) 0
    ⟨rfl,rfl,rfl,trivial⟩ ⟨Nat.zero_le _,Ext.refl _⟩ ?_
  rintro i wr ⟨hi,hx⟩
  by_cases hlt:i<l.length
  · obtain⟨b,off,rfl⟩:=hp (by omega)
    obtain⟨x,hx1⟩:∃ x,l[i]?=some x:=⟨_,List.getElem?_eq_getElem hlt⟩
    have hat:=(Go.Pv.txt_elem (hv0.ext hx) hx1).one
    (repeat' (first|refine eV Z Z (A0 (m:=i) Z Z Z Z hlt) ?_|refine Ly ?_|refine Dy (fun hh=>?_) fun hh=>?_))
    all_goals (try (exfalso;omega))
    all_goals first
      | exact A5 Z Z ⟨⟨_,rfl⟩,hx⟩
      | exact Ad (i+1) ⟨rfl,rfl,rfl,trivial⟩ ⟨by omega,hx⟩ (by omega)
  · (repeat' (first|refine Sy ?_|refine Dy (fun hh=>?_) fun hh=>?_))
    all_goals (try (exfalso;omega))
    exact A5 Z Z ⟨⟨_,rfl⟩,hx⟩
theorem check117_any (segs : List Ph) (hn : ∀ p ∈ segs, p.name.length ≤ 1048576) (v : Value) (w : World) (hv : Sl w v segs) : Calls Tryz.prog 117 #[.agg #[v] ] w (Rt fun u w' => (∃ e : Int, u = int e) ∧ Ext w w') := by
  have hv0:=hv
  obtain⟨a,cap,rfl,hc,hm,hp⟩:=hv.sl
  refine A7 (n:=58) (args:=[.agg #[.slice a segs.length cap] ]) Tryz.func117 rfl Tryz.ntmps117 (by simp) ?_
  refine Ac ?_
  refine A8 ?_
  refine Aj Z Z Z Z (fun bX wX xX hbX rX0=>?_)
  have rX:Row wX bX 25 [.slice a segs.length cap]:=rX0
  clear rX0
  by_cases h60:segs.length>60
  · (repeat' (first|refine Ly ?_|refine Dy (fun hh=>?_) fun hh=>?_))
    all_goals (try (exfalso;omega))
    exact A5 Z Z ⟨⟨_,rfl⟩,xX⟩
  · (repeat' (first|refine Ly ?_|refine Dy (fun hh=>?_) fun hh=>?_))
    all_goals (try (exfalso;omega))
    refine Ae (ι:=Nat) (fun i=>[(1,.pointer (some ⟨bX,0,none⟩)),(11,int segs.length),(12,int i)]) (fun i wr=>i≤segs.length∧Ext wX wr) (fun i=>segs.length-i) 0
      ⟨rfl,rfl,rfl,trivial⟩ ⟨Nat.zero_le _,Ext.refl _⟩ ?_
    rintro i wr ⟨hi,hx⟩
    replace rX:=rX.ext hx
    have hX:=xX.trans hx
    by_cases hlt:i<segs.length
    · obtain⟨b,off,rfl⟩:=hp (by omega)
      obtain⟨p,hp1⟩:∃ p,segs[i]?=some p:=⟨_,List.getElem?_eq_getElem hlt⟩
      have hat:=Nm (hv0.ext hX) hp1
      have cl:=J2 p.name (hn p (List.mem_of_getElem? hp1)) wr
      cases hb:labB p.name with
      | false=>
        rw [hb] at cl
        (repeat' (first|refine eV Z Z (A0 (m:=i) Z Z Z Z hlt) ?_|(refine cqC cl en96 fun wC xC=>?_)|refine Ly ?_|refine Dy (fun hh=>?_) fun hh=>?_))
        all_goals (try (exfalso;omega))
        exact A5 Z Z ⟨⟨_,rfl⟩,hX.trans xC⟩
      | true=>
        rw [hb] at cl
        (repeat' (first|refine eV Z Z (A0 (m:=i) Z Z Z Z hlt) ?_|(refine cqC cl en96 fun wC xC=>?_)|refine Ly ?_|refine Dy (fun hh=>?_) fun hh=>?_))
        all_goals (try (exfalso;omega))
        refine Ae (ι:=Nat) (fun k=>[(1,.pointer (some ⟨bX,0,none⟩)),(3,int i),(4,int k),(11,int segs.length),(12,int i)]) (fun k wk=>k≤i∧Ext wC wk) (fun k=>i-k) 0
          ⟨rfl,rfl,rfl,rfl,rfl,trivial⟩ ⟨Nat.zero_le _,Ext.refl _⟩ ?_
        rintro k wk ⟨hk,hxk⟩
        have rXk:=(rX.ext xC).ext hxk
        have hatk:=(hat.ext xC).ext hxk
        by_cases hlk:k<i
        · obtain⟨q,hq1⟩:∃ q,segs[k]?=some q:=⟨_,List.getElem?_eq_getElem (by omega)⟩
          have hatq:=Nm (hv0.ext (hX.trans (xC.trans hxk))) hq1
          (repeat' (first|refine yV Z Z (fun _ _ _=>A0 (m:=i) Z Z Z Z hlt) ?_|refine yV Z Z (fun _ _ _=>A0 (m:=k) Z Z Z Z (by omega)) ?_|refine Sy ?_|refine Dy (fun hh=>?_) fun hh=>?_|refine yqY ?_|refine yqZ ?_|refine yqX (fun hh=>?_) fun hh=>?_|refine E_dq Aa (by kernel_rfl) Z ?_|refine yN Z (fun wq xq=>?_)))
          all_goals (try (exfalso;omega))
          all_goals first
            | exact A5 Z Z ⟨⟨_,rfl⟩,hX.trans (xC.trans (hxk.trans xq))⟩
            | exact Ad (k+1) ⟨rfl,rfl,rfl,rfl,rfl,trivial⟩ ⟨by omega,hxk.trans xq⟩ (by omega)
        · (repeat' (first|refine eV Z Z (A0 (m:=i) Z Z Z Z hlt) ?_|refine Ly ?_|refine Dy (fun hh=>?_) fun hh=>?_))
          all_goals (try (exfalso;omega))
          all_goals first
            | exact A5 Z Z ⟨⟨_,rfl⟩,hX.trans (xC.trans hxk)⟩
            | exact Ad (i+1) ⟨rfl,rfl,rfl,trivial⟩ ⟨by omega,hx.trans (xC.trans hxk)⟩ (by omega)
    · (repeat' (first|refine Ly ?_|refine Dy (fun hh=>?_) fun hh=>?_))
      all_goals (try (exfalso;omega))
      exact A5 Z Z ⟨⟨_,rfl⟩,hX⟩
end
end Go.Proofs.YtjicdgejhkgpgaaGreatDoor