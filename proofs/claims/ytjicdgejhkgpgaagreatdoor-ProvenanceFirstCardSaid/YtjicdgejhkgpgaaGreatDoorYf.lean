/-
  Walks: segments, identifiers, references, states. Walks of the layers runes and pattern. Walks of the layers runes and pattern. Walks: the reference's labels; its check of an inventory. A variable laid and filled at once; a box of a struct. Drawn regions: what is known of a slot by a relation alone, handed on; values told by such things.
-/
import Derived.Test.YtjicdgejhkgpgaaGreatDoorYe
import Derived.Test.YtjicdgejhkgpgaaGreatDoorI
import Derived.Test.YtjicdgejhkgpgaaGreatDoorYd
import Derived.Test.YtjicdgejhkgpgaaGreatDoorYb
import Derived.OwnWalk
set_option linter.all false
namespace Go.Proofs.YtjicdgejhkgpgaaGreatDoor
open Go.RowKit Go.En Go.Pv
attribute [local irreducible] E EL K Val Enters Rt Calls bodyPost Code.wp RQ
def isB (segs:List Ph) (z:Int):Bool:=decide (1≤z∧z≤(segs.length:Int))
theorem is250_any (segs:List Ph) (v:Value) (z:Int) (w:World) (hv:Sl w v segs):Calls Tryz.prog 250 #[.agg #[v],int z] w (Rt fun u w'=>u=.bool (isB segs z)∧Ext w w'):=by
  obtain⟨a,cap,rfl,hc,hm,hp⟩:=hv.sl
  refine calls_E (n:=14) (args:=[.agg #[.slice a segs.length cap],int z]) Tryz.func250 rfl Tryz.ntmps250 (by simp) ?_
  refine E_seq ?_
  refine E_region ?_
  refine EL_box Z Z Z Z (fun bX wX xX hbX rX0=>?_)
  have rX:Row wX bX 25 [.slice a segs.length cap]:=rX0
  clear rX0
  (repeat' (first|refine eV Z Z (val_load Z Z Z (Row.cellAt (by assumption) (by rfl))) ?_|(refine at_EL ?_;first|refine eN ?_|refine eO Z Z ?_|refine eV Z Z (zA Z Z) ?_|refine eV Z Z (zB Z Z) ?_|(refine at_bin ?_;first|refine eD Z Z (zN Z Z Z) (fun hh=>?_) (fun hh=>?_)|refine eD Z Z (zP Z Z Z) (fun hh=>?_) (fun hh=>?_))|(refine at_call ?_;first|refine eV Z Z (zK Z Z) ?_)|refine eV Z Z (zC Z Z Z) ?_|refine eV Z Z (zD Z Z Z) ?_|refine eV Z Z (zH Z Z) ?_)|(refine at_K ?_;first|refine K_then ?_)|(refine at_E ?_;first|refine E_seq ?_|refine E_region ?_|refine E_ret ?_)))
  all_goals (first|(exfalso;omega)|skip)
  all_goals exact ret_1 Z Z ⟨by unfold isB;congr 1;first|exact(decide_eq_true (by omega)).symm|exact(decide_eq_false (by omega)).symm|(symm;simp only [decide_eq_decide];omega),xX⟩
theorem two301:TwoInts Tryz.prog 301 3:=⟨by kernel_rfl,by kernel_rfl,by kernel_rfl,by kernel_rfl,Tryz.underlying3⟩
theorem two39:TwoInts Tryz.prog 39 3:=⟨by kernel_rfl,by kernel_rfl,by kernel_rfl,by kernel_rfl,Tryz.underlying3⟩
theorem inC_no {segs:List Ph} {z:Int} {c:Cls} (h:isB segs z=false):inC bandI segs z c=false:=by
  unfold inC;unfold isB at h;rw [h];rfl
theorem inC_yes {segs:List Ph} {k:Nat} {c:Cls} {p:Ph} (hp:segs[k]?=some p):inC bandI segs ((k:Int)+1) c=decide (bandI p.feat c.mask=c.val):=by
  have hk:=(List.getElem?_eq_some_iff.1 hp).1
  unfold inC
  rw [decide_eq_true (by omega:1≤(k:Int)+1∧(k:Int)+1≤(segs.length:Int)),show((k:Int)+1-1).toNat=k by omega,hp]
  simp only [Bool.true_and]
  rfl
theorem in248_any (segs:List Ph) (v:Value) (z:Int) (c:Cls) (w:World) (hv:Sl w v segs):Calls Tryz.prog 248 #[.agg #[v],int z,.agg #[int c.mask,int c.val] ] w (Rt fun u w'=>u=.bool (inC bandI segs z c)∧Ext w w'):=by
  have hv0:=hv
  obtain⟨a,cap,rfl,hc,hm,hp⟩:=hv.sl
  refine calls_E (n:=27) (args:=[.agg #[.slice a segs.length cap],int z,.agg #[int c.mask,int c.val] ]) Tryz.func248 rfl Tryz.ntmps248 (by simp) ?_
  refine E_seq ?_
  refine E_region ?_
  refine EL_box Z Z Z Z (fun bX wX xX hbX rX0=>?_)
  have rX1:Row wX bX 25 [.slice a segs.length cap]:=rX0
  refine EL_box Z Z Z Z (fun bC wC xC hbC rC0=>?_)
  have rC:Row wC bC 301 [int c.mask,int c.val]:=rC0
  have rX:=rX1.ext xC
  clear rX0 rX1 rC0
  have hX:=xX.trans xC
  have hv1:=hv0.ext hX
  have ci:=fun wq (xq:Ext wC wq)=>is250_any segs _ z wq (hv1.ext xq)
  cases hb:isB segs z with
  | false=>
    rw [inC_no hb]
    rw [hb] at ci
    (repeat' (first|refine yV Z Z (fun wq _ xq=>val_loadA Z Z Z (Row.ext (by assumption) xq).at (by rfl)) ?_|refine RQ_call Z Z (fun _ _ _=>entersF Z Z en250) ci ?_|(refine at_EL ?_;first|refine eN ?_|refine eV Z Z (zB Z Z) ?_)|(refine at_K ?_;first|refine K_then ?_)|(refine at_E ?_;first|refine E_seq ?_|refine E_ret ?_|refine E_dq mixedOk (by kernel_rfl) Z ?_)|(refine at_RQ ?_;first|refine yN Z (fun wq xq=>?_)|refine yO Z Z ?_|refine yV Z Z (fun _ _ _=>zA Z Z) ?_|refine yV Z Z (fun _ _ _=>zB Z Z) ?_|refine yV Z Z (fun _ _ _=>zD Z Z Z) ?_)))
    exact ret_1 Z Z ⟨rfl,hX.trans xq⟩
  | true=>
    rw [hb] at ci
    have hz:=of_decide_eq_true hb
    obtain⟨k,rfl⟩:∃ k:Nat,z=(k:Int)+1:=⟨(z-1).toNat,by omega⟩
    obtain⟨p,hp1⟩:∃ p,segs[k]?=some p:=⟨_,List.getElem?_eq_getElem (by omega)⟩
    obtain⟨b,off,rfl⟩:=hp (by omega)
    have hat:=ph_elem hv1 hp1
    rw [inC_yes hp1]
    (repeat' (first|refine yV Z Z (fun wq _ xq=>val_load Z Z Z ((Row.ext (by assumption) xq).cellAt (by rfl))) ?_|refine yV Z Z (fun wq _ xq=>val_loadA Z Z Z (Row.ext (by assumption) xq).at (by rfl)) ?_|refine yV Z Z (fun wq _ xq=>val_load Z Z Z ((At.ext (by assumption) xq).cellAt (by rfl))) ?_|refine RQ_call Z Z (fun _ _ _=>entersF Z Z en250) ci ?_|refine yV Z Z (fun _ _ _=>val_indexAddr (m:=k) Z Z Z (by omega) (by omega)) ?_|refine yV Z Z (fun _ _ _=>val_and Z Z Z) ?_|refine yV Z Z (fun _ _ _=>val_build (vs:=[(0,int c.mask),(1,int (bandI p.feat c.mask))]) [int c.mask,int (bandI p.feat c.mask)] rfl rfl rfl) ?_|refine yV Z Z (fun _ _ _=>val_eq_two two301 rfl rfl rfl) ?_|(refine at_EL ?_;first|refine eN ?_|refine eV Z Z (zB Z Z) ?_)|(refine at_K ?_;first|refine K_then ?_)|(refine at_E ?_;first|refine E_seq ?_|refine E_ret ?_|refine E_dq mixedOk (by kernel_rfl) Z ?_)|(refine at_RQ ?_;first|refine yN Z (fun wq xq=>?_)|refine yV Z Z (fun _ _ _=>zA Z Z) ?_|refine yV Z Z (fun _ _ _=>zB Z Z) ?_|(refine at_binR ?_;first|refine yV Z Z (fun _ _ _=>zV Z Z Z (by omega) (by omega)) ?_)|refine yV Z Z (fun _ _ _=>zC Z Z Z) ?_|refine yV Z Z (fun _ _ _=>zH Z Z) ?_)))
    all_goals exact ret_1 Z Z ⟨by congr 1;rw [decide_eq_true rfl,Bool.true_and];simp only [decide_eq_decide];exact eq_comm,hX.trans xq⟩
theorem ident56_any (z:Int) (w:World):Calls Tryz.prog 56 #[int z] w (Rt fun u w'=>u=.bool (identB z)∧Ext w w'):=by
  refine calls_E (n:=9) (args:=[int z]) Tryz.func56 rfl Tryz.ntmps56 (by simp) ?_
  (repeat' (first|(refine at_EL ?_;first|refine eN ?_|refine eO Z Z ?_|refine eV Z Z (zA Z Z) ?_|refine eV Z Z (zB Z Z) ?_|(refine at_bin ?_;first|refine eD Z Z (zN Z Z Z) (fun hh=>?_) (fun hh=>?_)|refine eD Z Z (zP Z Z Z) (fun hh=>?_) (fun hh=>?_))|refine eV Z Z (zC Z Z Z) ?_|refine eV Z Z (zD Z Z Z) ?_)|(refine at_K ?_;first|refine K_then ?_)|(refine at_E ?_;first|refine E_seq ?_|refine E_region ?_|refine E_ret ?_)))
  all_goals exact ret_1 Z Z ⟨by unfold identB;congr 1;first|exact(decide_eq_true (by omega)).symm|exact(decide_eq_false (by omega)).symm|(simp only [decide_eq_decide];omega),Ext.refl _⟩
theorem prec64_any (a b:Rf) (w:World):Calls Tryz.prog 64 #[.agg #[int a.rcd,int a.note],.agg #[int b.rcd,int b.note] ] w (Rt fun u w'=>u=.bool (decide (ltR a b))∧Ext w w'):=by
  refine calls_E (n:=24) (args:=[.agg #[int a.rcd,int a.note],.agg #[int b.rcd,int b.note] ]) Tryz.func64 rfl Tryz.ntmps64 (by simp) ?_
  refine E_seq ?_
  refine E_region ?_
  refine EL_box Z Z Z Z (fun bX wX xX hbX rX0=>?_)
  have rX1:Row wX bX 39 [int a.rcd,int a.note]:=rX0
  refine EL_box Z Z Z Z (fun bC wC xC hbC rC0=>?_)
  have rC:Row wC bC 39 [int b.rcd,int b.note]:=rC0
  have rX:=rX1.ext xC
  clear rX0 rX1 rC0
  have hX:=xX.trans xC
  (repeat' (first|refine eV Z Z (val_load Z Z Z (Row.cellAt (by assumption) (by rfl))) ?_|(refine at_EL ?_;first|refine eN ?_|refine eO Z Z ?_|refine eV Z Z (zA Z Z) ?_|refine eV Z Z (zB Z Z) ?_|(refine at_bin ?_;first|refine eD Z Z (zL Z Z Z) (fun hh=>?_) (fun hh=>?_)|refine eD Z Z (zM Z Z Z) (fun hh=>?_) (fun hh=>?_))|refine eV Z Z (zC Z Z Z) ?_|refine eV Z Z (zD Z Z Z) ?_|refine eV Z Z (zH Z Z) ?_)|(refine at_K ?_;first|refine K_then ?_)|(refine at_E ?_;first|refine E_seq ?_|refine E_region ?_|refine E_ret ?_)))
  all_goals exact ret_1 Z Z ⟨by congr 1;unfold ltR;first|exact(decide_eq_true (by omega)).symm|exact(decide_eq_false (by omega)).symm|(simp only [decide_eq_decide];omega),hX⟩
theorem prec101_any (a b:Rf) (w:World):Calls Tryz.prog 101 #[.agg #[int a.rcd,int a.note],.agg #[int b.rcd,int b.note] ] w (Rt fun u w'=>u=.bool (decide (ltR a b))∧Ext w w'):=by
  refine calls_E (n:=24) (args:=[.agg #[int a.rcd,int a.note],.agg #[int b.rcd,int b.note] ]) Tryz.func101 rfl Tryz.ntmps101 (by simp) ?_
  refine E_seq ?_
  refine E_region ?_
  refine EL_box Z Z Z Z (fun bX wX xX hbX rX0=>?_)
  have rX1:Row wX bX 39 [int a.rcd,int a.note]:=rX0
  refine EL_box Z Z Z Z (fun bC wC xC hbC rC0=>?_)
  have rC:Row wC bC 39 [int b.rcd,int b.note]:=rC0
  have rX:=rX1.ext xC
  clear rX0 rX1 rC0
  have hX:=xX.trans xC
  (repeat' (first|refine eV Z Z (val_load Z Z Z (Row.cellAt (by assumption) (by rfl))) ?_|(refine at_EL ?_;first|refine eN ?_|refine eO Z Z ?_|refine eV Z Z (zA Z Z) ?_|refine eV Z Z (zB Z Z) ?_|(refine at_bin ?_;first|refine eD Z Z (zL Z Z Z) (fun hh=>?_) (fun hh=>?_)|refine eD Z Z (zM Z Z Z) (fun hh=>?_) (fun hh=>?_))|refine eV Z Z (zC Z Z Z) ?_|refine eV Z Z (zD Z Z Z) ?_|refine eV Z Z (zH Z Z) ?_)|(refine at_K ?_;first|refine K_then ?_)|(refine at_E ?_;first|refine E_seq ?_|refine E_region ?_|refine E_ret ?_)))
  all_goals exact ret_1 Z Z ⟨by congr 1;unfold ltR;first|exact(decide_eq_true (by omega)).symm|exact(decide_eq_false (by omega)).symm|(simp only [decide_eq_decide];omega),hX⟩
end Go.Proofs.YtjicdgejhkgpgaaGreatDoor
namespace Go.Proofs.YtjicdgejhkgpgaaGreatDoor
open Go.RowKit Go.En
attribute [local irreducible] E EL K Val Enters Rt Calls bodyPost Code.wp RQ
theorem Scalar_any (a:Int) (w:World):Calls Tryz.prog 200 #[int a] w (Rt fun u w'=>u=.bool (scalI a)∧Ext w w'):=by
  refine calls_E (n:=17) (args:=[int a]) Tryz.func200 rfl Tryz.ntmps200 (by simp) ?_
  (repeat' (first|(refine at_EL ?_;first|refine eN ?_|refine eO Z Z ?_|refine eV Z Z (zA Z Z) ?_|refine eV Z Z (zB Z Z) ?_|(refine at_bin ?_;first|refine eD Z Z (zL Z Z Z) (fun hh=>?_) (fun hh=>?_)|refine eD Z Z (zN Z Z Z) (fun hh=>?_) (fun hh=>?_)|refine eD Z Z (zO Z Z Z) (fun hh=>?_) (fun hh=>?_)|refine eD Z Z (zP Z Z Z) (fun hh=>?_) (fun hh=>?_))|refine eV Z Z (zC Z Z Z) ?_|refine eV Z Z (zD Z Z Z) ?_)|(refine at_K ?_;first|refine K_then ?_)|(refine at_E ?_;first|refine E_seq ?_|refine E_region ?_|refine E_ret ?_)))
  all_goals exact ret_1 Z Z ⟨congrArg Value.bool (by simp [scalI, *]),Ext.refl w⟩
theorem encoded_any (p:Nat) (hp:p≤1114111) (w:World):Calls Tryz.prog 201 #[int p] w (Rt fun u w'=>u=str (encB p)∧Ext w w'):=by
  have hc:=enc_cells (encN_256 hp)
  unfold encN at hc
  refine calls_E (n:=61) (args:=[int p]) Tryz.func201 rfl Tryz.ntmps201 (by simp) ?_
  (repeat' (first|(refine at_EL ?_;first|refine eN ?_|refine eV Z Z (zA Z Z) ?_|refine eV Z Z (zB Z Z) ?_|(refine at_bin ?_;first|refine eD Z Z (zL Z Z Z) (fun hh=>?_) (fun hh=>?_)|(refine eV Z Z (val_add Z Z Z ?_ ?_) ?_;(first|omega|(simp only [kmin,kmax];omega));(first|omega|(simp only [kmin,kmax];omega)))|(refine eV Z Z (val_quo Z Z Z ?_ ?_ ?_) ?_;(first|omega|(simp only [kmin,kmax];omega));(first|omega|(simp only [kmin,kmax];omega));(first|omega|(simp only [kmin,kmax];omega)))|(refine eV Z Z (val_rem Z Z Z ?_ ?_) ?_;(first|omega|(simp only [kmin,kmax];omega));(first|omega|(simp only [kmin,kmax];omega))))|(refine eV Z Z (val_conv_int Z Z ?_ ?_) ?_;(first|omega|(simp only [kmin,kmax];omega));(first|omega|(simp only [kmin,kmax];omega)))|refine eL Z Z Z Z Z Z Z Z (fun bS wS xS hbS rS=>?_))|(refine at_K ?_;first|refine K_then ?_|refine K_in ?_)|(refine at_E ?_;first|refine E_seq ?_|refine E_region ?_|refine E_cond_t Z ?_|refine E_cond_f Z ?_|refine E_block ?_|refine E_skip ?_)))
  · rw [if_pos (by omega)] at hc
    have hat:At wS bS 0 ((encB p).map fun b=>Value.int .u8 b.toNat):=by rw [hc];exact rS.at
    refine EL_val Z Z (val_bytes_str Z Z (by have:=congrArg List.length hc;simpa using this) hat) ?_
    (repeat' (first|(refine at_EL ?_;first|refine eN ?_|refine eV Z Z (zB Z Z) ?_)|(refine at_K ?_;first|refine K_then ?_|refine K_then_ret ?_|refine K_in_ret ?_)|(refine at_E ?_;first|refine E_ret ?_)))
    exact ret_1 Z Z ⟨rfl,xS⟩
  · rw [if_neg (by omega),if_pos (by omega)] at hc
    have hat:At wS bS 0 ((encB p).map fun b=>Value.int .u8 b.toNat):=by rw [hc];simpa [Value.cells] using rS.at
    refine EL_val Z Z (val_bytes_str Z Z (by have:=congrArg List.length hc;simpa using this) hat) ?_
    (repeat' (first|(refine at_EL ?_;first|refine eN ?_|refine eV Z Z (zB Z Z) ?_)|(refine at_K ?_;first|refine K_then ?_|refine K_then_ret ?_|refine K_in_ret ?_)|(refine at_E ?_;first|refine E_ret ?_)))
    exact ret_1 Z Z ⟨rfl,xS⟩
  · rw [if_neg (by omega),if_neg (by omega),if_pos (by omega)] at hc
    have hat:At wS bS 0 ((encB p).map fun b=>Value.int .u8 b.toNat):=by rw [hc];simpa [Value.cells] using rS.at
    refine EL_val Z Z (val_bytes_str Z Z (by have:=congrArg List.length hc;simpa using this) hat) ?_
    (repeat' (first|(refine at_EL ?_;first|refine eN ?_|refine eV Z Z (zB Z Z) ?_)|(refine at_K ?_;first|refine K_then ?_|refine K_then_ret ?_|refine K_in_ret ?_)|(refine at_E ?_;first|refine E_ret ?_)))
    exact ret_1 Z Z ⟨rfl,xS⟩
  · rw [if_neg (by omega),if_neg (by omega),if_neg (by omega)] at hc
    have hat:At wS bS 0 ((encB p).map fun b=>Value.int .u8 b.toNat):=by rw [hc];simpa [Value.cells] using rS.at
    refine EL_val Z Z (val_bytes_str Z Z (by have:=congrArg List.length hc;simpa using this) hat) ?_
    (repeat' (first|(refine at_EL ?_;first|refine eN ?_|refine eV Z Z (zB Z Z) ?_)|(refine at_K ?_;first|refine K_then ?_)|(refine at_E ?_;first|refine E_ret ?_)))
    exact ret_1 Z Z ⟨rfl,xS⟩
set_option maxRecDepth 8000 in
theorem first_any (l : List UInt8) (i : Nat) (hi : i < l.length) (hl : l.length ≤ 1099511627776) (w : World) : Calls Tryz.prog 170 #[str l, int i] w (Rt fun u w' => u = .tuple #[int (fR (l.drop i)).1, int (fR (l.drop i)).2] ∧ Ext w w') := by
  have hc0:=drop_get (l:=l) (i:=i) (j:=0) hi
  rw [Nat.add_zero] at hc0
  have hdl:(l.drop i).length=l.length-i:=List.length_drop
  obtain⟨d,hd⟩:∃ d,d=l.drop i:=⟨_,rfl⟩
  rw [← hd] at hc0 hdl ⊢
  have hb:=UInt8.toNat_lt (d.getD 0 0)
  obtain⟨n,hn⟩:∃ n,n=leadN (d.getD 0 0).toNat:=⟨_,rfl⟩
  have hn1:=leadN_1 (d.getD 0 0).toNat
  rw [← hn] at hn1
  refine calls_E (n:=65) (args:=[str l,int i]) Tryz.func170 rfl Tryz.ntmps170 (by simp) ?_
  (repeat' ((fail_if_success (refine E_seq (x:=(Code.block 0 _)) ?_));first|refine EL_val Z Z (val_index_str Z Z Z Z hc0) ?_|(refine at_EL ?_;first|refine eN ?_|refine eV Z Z (zA Z Z) ?_|refine eV Z Z (zB Z Z) ?_|(refine eV Z Z (val_conv_int Z Z ?_ ?_) ?_;(first|omega|(simp only [kmin,kmax];omega));(first|omega|(simp only [kmin,kmax];omega))))|(refine at_K ?_;first|refine K_then ?_)|(refine at_E ?_;first|refine E_seq ?_|refine E_region ?_)))
  refine E_mid (ι:=Unit) (fun _=>[(0,str l),(1,int i),(6,int (leadP (d.getD 0 0).toNat)),(7,int n)]) (fun _ w2=>w2=w) ?_ ?_
  · (repeat' (first|(refine at_EL ?_;first|refine eN ?_|refine eV Z Z (zA Z Z) ?_|refine eV Z Z (zB Z Z) ?_|(refine at_bin ?_;first|refine eD Z Z (zP Z Z Z) (fun hh=>?_) (fun hh=>?_)|(refine eV Z Z (val_sub Z Z Z ?_ ?_) ?_;(first|omega|(simp only [kmin,kmax];omega));(first|omega|(simp only [kmin,kmax];omega)))))|(refine at_K ?_;first|refine K_then ?_|refine K_in ?_)|(refine at_E ?_;first|refine E_seq ?_|refine E_region ?_|refine E_cond_t Z ?_|refine E_cond_f Z ?_|refine E_block ?_|refine E_skip ?_)))
    all_goals exact K_mid () ⟨rfl,rfl,congrArg some (congrArg (Value.int .i64) (by unfold leadP;(repeat' split) <;> omega)),congrArg some (congrArg (Value.int .i64) (by rw [hn];unfold leadN;(repeat' split) <;> omega)),trivial⟩ rfl
  · rintro - w2 rfl
    have hstep:∀ k,k+1<n→accP d (k+2)=accP d (k+1)*64+(d.getD (k+1) 0).toNat % 64:=fun k _=>rfl
    (repeat' (first|(refine at_EL ?_;first|refine eN ?_|refine eV Z Z (zA Z Z) ?_|refine eV Z Z (zB Z Z) ?_|(refine at_bin ?_;first|refine eD Z Z (zO Z Z Z) (fun hh=>?_) (fun hh=>?_)|(refine eV Z Z (val_add Z Z Z ?_ ?_) ?_;(first|omega|(simp only [kmin,kmax];omega));(first|omega|(simp only [kmin,kmax];omega))))|(refine at_call ?_;first|refine eV Z Z (zJ Z Z) ?_))|(refine at_K ?_;first|refine K_then ?_|refine K_then_ret ?_)|(refine at_E ?_;first|refine E_seq ?_|refine E_region ?_|refine E_cond_t Z ?_|refine E_cond_f Z ?_|refine E_block ?_|refine E_skip ?_|refine E_ret ?_)))
    · refine ret_2 Z Z Z ⟨?_,Ext.refl _⟩
      have:firstR d=none:=by unfold firstR;rw [if_pos (by rw [← hn];omega)]
      simp [fR,this]
    · have hle:i+n≤l.length:=by omega
      refine E_loop (ι:=Nat) (fun k=>[(0,str l),(1,int i),(6,int (accP d k)),(7,int n),(8,int k)]) (fun k w'=>1≤k∧k≤n∧w'=w2) (fun k=>n-k) 1 ⟨rfl,rfl,rfl,rfl,rfl,trivial⟩ ⟨Nat.le_refl _,hn1.1,rfl⟩ ?_
      rintro k w' ⟨hk1,hkn,rfl⟩
      have hac:=accP_le d k (by omega)
      have hck:k<n→l[i+k]?=some (d.getD k 0):=fun h=>by rw [hd];exact drop_get (by omega)
      have hbk:=UInt8.toNat_lt (d.getD k 0)
      refine E_mid (ι:=Unit) (fun _=>[(0,str l),(1,int i),(6,int (accP d k)),(7,int n),(8,int k)]) (fun _ w2=>w2=w'∧k<n) ?_ ?_
      · (repeat' (first|(refine at_EL ?_;first|refine eN ?_|refine eV Z Z (zA Z Z) ?_|(refine at_bin ?_;first|refine eD Z Z (zL Z Z Z) (fun hh=>?_) (fun hh=>?_)))|(refine at_K ?_;first|refine K_then ?_|refine K_then_exit ?_|refine K_in_exit ?_)|(refine at_E ?_;first|refine E_seq ?_|refine E_region ?_|refine E_cond_t Z ?_|refine E_cond_f Z ?_|refine E_skip ?_|refine E_exit ?_|refine E_dq mixedOk (by kernel_rfl) Z ?_)|(refine at_RQ ?_;first|refine yV Z Z (fun _ _ _=>zA Z Z) ?_)))
        · exact K_mid () ⟨rfl,rfl,rfl,rfl,rfl,trivial⟩ ⟨rfl,by omega⟩
        · have hkn':k=n:=by omega
          subst hkn'
          have hsc:=scalI_eq (accP d k)
          cases hs:scal (accP d k) with
          | false=>
            rw [hs] at hsc
            (repeat' (first|refine RQ_call (v:=.bool false) Z Z (fun _ _ _=>entersF Z Z en200) (fun wq _=>hsc▸Scalar_any _ wq) ?_|(refine at_EL ?_;first|refine eN ?_|refine eV Z Z (zB Z Z) ?_)|(refine at_K ?_;first|refine K_then ?_|refine K_then_ret ?_)|(refine at_E ?_;first|refine E_seq ?_|refine E_region ?_|refine E_cond_t Z ?_|refine E_ret ?_)|(refine at_RQ ?_;first|refine yN Z (fun wq xq=>?_)|refine yO Z Z ?_|refine yV Z Z (fun _ _ _=>zA Z Z) ?_|refine yV Z Z (fun _ _ _=>zC Z Z Z) ?_|refine yV Z Z (fun _ _ _=>zE Z Z) ?_)))
            refine ret_2 Z Z Z ⟨?_,xq⟩
            have:firstR d=none:=by
              unfold firstR
              rw [← hn,if_neg (by omega),if_neg (by rw [hs];simp)]
            simp [fR,this]
          | true=>
            rw [hs] at hsc
            have hp:accP d k≤1114111:=(scal_iff.1 hs).1
            have htake:(l.take (i+k)).drop i=d.take k:=by rw [hd,List.drop_take,Nat.add_sub_cancel_left]
            (repeat' (first|refine RQ_call (v:=.bool true) Z Z (fun _ _ _=>entersF Z Z en200) (fun wq _=>hsc▸Scalar_any _ wq) ?_|refine RQ_call Z Z (fun _ _ _=>entersF Z Z en201) (fun wq _=>encoded_any _ hp wq) ?_|refine RQ_val Z Z (fun _ _ _=>val_slice_str Z Z Z Z Z (Int.natCast_add i k).symm (by omega) (by omega)) ?_|(refine at_EL ?_;first|refine eN ?_|refine eV Z Z (zA Z Z) ?_|refine eV Z Z (zB Z Z) ?_)|(refine at_K ?_;first|refine K_then ?_|refine K_then_ret ?_)|(refine at_E ?_;first|refine E_seq ?_|refine E_region ?_|refine E_cond_t Z ?_|refine E_cond_f Z ?_|refine E_skip ?_|refine E_ret ?_)|(refine at_RQ ?_;first|refine yN Z (fun wq xq=>?_)|refine yV Z Z (fun _ _ _=>zA Z Z) ?_|(refine at_binR ?_;first|refine yD Z Z (fun _ _ _=>zS Z Z Z) (fun hh=>?_) (fun hh=>?_)|(refine yV Z Z (fun _ _ _=>val_add Z Z Z ?_ ?_) ?_;(first|omega|(simp only [kmin,kmax];omega));(first|omega|(simp only [kmin,kmax];omega))))|refine yV Z Z (fun _ _ _=>zD Z Z Z) ?_|refine yV Z Z (fun _ _ _=>zE Z Z) ?_)))
            · have hne:¬ encB (accP d k)=d.take k:=by rw [← htake];assumption
              refine ret_2 Z Z Z ⟨?_,xq⟩
              have:firstR d=none:=by
                unfold firstR
                rw [← hn,if_neg (by omega),if_neg (fun h=>hne h.2)]
              simp [fR,this]
            · have he:encB (accP d k)=d.take k:=by rw [← htake];exact Classical.not_not.1 (by assumption)
              refine ret_2 Z Z Z ⟨?_,xq⟩
              have:firstR d=some (accP d k,k):=by
                unfold firstR
                rw [← hn,if_neg (by omega),if_pos ⟨hs,he⟩]
              simp [fR,this]
      · rintro-w2 ⟨rfl,hlt⟩
        have hstep:accP d (k+1)=accP d k*64+(d.getD k 0).toNat % 64:=by
          obtain⟨j,rfl⟩:∃ j,k=j+1:=⟨k-1,by omega⟩
          rfl
        (repeat' (first|refine EL_val Z Z (val_index_str Z Z Z (Int.natCast_add i k).symm (hck hlt)) ?_|(refine at_EL ?_;first|refine eN ?_|refine eV Z Z (zA Z Z) ?_|refine eV Z Z (zB Z Z) ?_|(refine at_bin ?_;first|(refine eV Z Z (val_add Z Z Z ?_ ?_) ?_;(first|omega|(simp only [kmin,kmax];omega));(first|omega|(simp only [kmin,kmax];omega)))|(refine eV Z Z (val_rem Z Z Z ?_ ?_) ?_;(first|omega|(simp only [kmin,kmax];omega));(first|omega|(simp only [kmin,kmax];omega)))|(refine eV Z Z (val_mul Z Z Z ?_ ?_) ?_;(first|omega|(simp only [kmin,kmax];omega));(first|omega|(simp only [kmin,kmax];omega))))|(refine eV Z Z (val_conv_int Z Z ?_ ?_) ?_;(first|omega|(simp only [kmin,kmax];omega));(first|omega|(simp only [kmin,kmax];omega))))|(refine at_K ?_;first|refine K_then ?_|refine K_in ?_)|(refine at_E ?_;first|refine E_seq ?_|refine E_region ?_|refine E_block ?_)))
        exact K_rnd (k+1) ⟨rfl,rfl,congrArg some (congrArg (Value.int .i64) (by rw [hstep];omega)),rfl,rfl,trivial⟩ ⟨by omega,by omega,rfl⟩ (by omega)
end Go.Proofs.YtjicdgejhkgpgaaGreatDoor
namespace Go.Proofs.YtjicdgejhkgpgaaGreatDoor
open Go.RowKit Go.En
attribute [local irreducible] E EL K Val Enters Rt Calls bodyPost Code.wp RQ
theorem rPoints_any (l : List UInt8) (hl : l.length ≤ 16777216) (w : World) : Calls Tryz.prog 130 #[str l] w (Rt (PointsR w (points l))) := by
  refine calls_E (n:=28) (args:=[str l]) Tryz.func130 rfl Tryz.ntmps130 (by simp) ?_
  (repeat' (first|(refine at_EL ?_;first|refine eN ?_|refine eV Z Z (zB Z Z) ?_)|(refine at_K ?_;first|refine K_then ?_)|(refine at_E ?_;first|refine E_seq ?_|refine E_region ?_|refine E_block ?_)))
  refine E_loop (ι:=Nat × Value × List Nat) (fun x=>[(0,str l),(4,x.2.1),(5,int x.1)]) (fun x wr=>x.1≤l.length∧x.2.2.length≤x.1∧points l=(points (l.drop x.1)).map (x.2.2++·)∧IntsOwn w wr x.2.1 x.2.2∧Ext w wr) (fun x=>l.length-x.1) (0,.slice none 0 0,[])
    ⟨rfl,rfl,rfl,trivial⟩ ⟨Nat.zero_le _,Nat.le_refl _,by simp,World.ownsRow_nil _ _ _ _,Ext.refl _⟩ ?_
  rintro⟨i,v,zs⟩ wr ⟨hi,hz,hp,hown,hx⟩
  dsimp only at hi hz hp hown hx ⊢
  by_cases hlt:i<l.length
  · have hne:l.drop i≠[]:=by intro h;have:=congrArg List.length h;simp at this;omega
    have hf:=first_any l i hlt (by omega) wr
    rw [points_step hne] at hp
    cases hfr:firstR (l.drop i) with
    | none=>
      rw [hfr] at hp
      simp only [fR,hfr] at hf
      (repeat' (first|(refine EL_call Z Z (entersF Z Z en170) hf (fun vC wC hC=>?_);obtain⟨rfl,xC⟩:=hC)|(refine at_EL ?_;first|refine eN ?_|refine eV Z Z (zA Z Z) ?_|refine eV Z Z (zB Z Z) ?_|(refine at_bin ?_;first|refine eD Z Z (zL Z Z Z) (fun hh=>?_) (fun hh=>?_)|refine eD Z Z (zM Z Z Z) (fun hh=>?_) (fun hh=>?_))|(refine at_call ?_;first|refine eV Z Z (zJ Z Z) ?_)|refine eV Z Z (zF Z Z Z) ?_|refine eL Z Z Z Z Z Z Z Z (fun bS wS xS hbS rS=>?_))|(refine at_K ?_;first|refine K_then ?_|refine K_then_ret ?_|refine K_then_exit ?_|refine K_in_ret ?_|refine K_in_exit ?_)|(refine at_E ?_;first|refine E_seq ?_|refine E_region ?_|refine E_cond_t Z ?_|refine E_cond_f Z ?_|refine E_block ?_|refine E_skip ?_|refine E_ret ?_|refine E_exit ?_)))
      · refine ret_2 Z Z Z ⟨hx.trans xC,?_⟩
        rw [hp];rfl
      all_goals omega
    | some q=>
      obtain⟨p,n⟩:=q
      have hq:=firstR_some hfr
      rw [List.length_drop] at hq
      rw [hfr] at hp
      simp only [fR,hfr] at hf
      (repeat' (first|(refine EL_call Z Z (entersF Z Z en170) hf (fun vC wC hC=>?_);obtain⟨rfl,xC⟩:=hC)|(refine at_EL ?_;first|refine eN ?_|refine eV Z Z (zA Z Z) ?_|refine eV Z Z (zB Z Z) ?_|(refine at_bin ?_;first|refine eD Z Z (zL Z Z Z) (fun hh=>?_) (fun hh=>?_)|refine eD Z Z (zM Z Z Z) (fun hh=>?_) (fun hh=>?_))|(refine at_call ?_;first|refine eV Z Z (zJ Z Z) ?_)|refine eV Z Z (zF Z Z Z) ?_|refine eL Z Z Z Z Z Z Z Z (fun bS wS xS hbS rS=>?_))|(refine at_K ?_;first|refine K_then ?_|refine K_then_ret ?_|refine K_then_exit ?_|refine K_in_ret ?_|refine K_in_exit ?_)|(refine at_E ?_;first|refine E_seq ?_|refine E_region ?_|refine E_cond_t Z ?_|refine E_cond_f Z ?_|refine E_block ?_|refine E_skip ?_|refine E_ret ?_|refine E_exit ?_)))
      all_goals (first|(exfalso;omega)|skip)
      refine EL_app (own_ext hown (xC.trans xS)) ((hx.trans xC).trans xS) rS.at rfl rfl rfl rfl rfl rfl rfl rfl rfl (by omega) (by omega) (fun vA wA oA xA _=>?_)
      (repeat' (first|(refine at_EL ?_;first|refine eN ?_|refine eV Z Z (zA Z Z) ?_|refine eV Z Z (zB Z Z) ?_|(refine at_bin ?_;first|(refine eV Z Z (val_add Z Z Z ?_ ?_) ?_;(first|omega|(simp only [kmin,kmax];omega));(first|omega|(simp only [kmin,kmax];omega)))))|(refine at_K ?_;first|refine K_then ?_|refine K_in ?_)|(refine at_E ?_;first|refine E_region ?_)))
      refine K_rnd (i+n,vA,zs++[p]) ⟨rfl,rfl,rfl,trivial⟩ ⟨by dsimp only;omega,by simp;omega,?_,?_,xA⟩ (by dsimp only;omega)
      · rw [hp]
        simp only [List.drop_drop]
        cases points (l.drop (i+n)) <;> simp
      · unfold IntsOwn
        simpa [Value.cells] using oA
  · have hil:i=l.length:=by omega
    subst hil
    (repeat' (first|(refine at_EL ?_;first|refine eN ?_|refine eV Z Z (zA Z Z) ?_|refine eV Z Z (zB Z Z) ?_|(refine at_bin ?_;first|refine eD Z Z (zL Z Z Z) (fun hh=>?_) (fun hh=>?_))|(refine at_call ?_;first|refine eV Z Z (zJ Z Z) ?_))|(refine at_K ?_;first|refine K_then ?_|refine K_then_exit ?_|refine K_in_exit ?_)|(refine at_E ?_;first|refine E_seq ?_|refine E_region ?_|refine E_cond_t Z ?_|refine E_cond_f Z ?_|refine E_block ?_|refine E_skip ?_|refine E_ret ?_|refine E_exit ?_)))
    all_goals (first|(exfalso;omega)|skip)
    rw [List.drop_length,points_nil] at hp
    simp only [Option.map_some,List.append_nil] at hp
    refine ret_2 Z Z Z ⟨hx,?_⟩
    rw [hp]
    exact⟨v,rfl,hown⟩
end Go.Proofs.YtjicdgejhkgpgaaGreatDoor
namespace Go.Proofs.YtjicdgejhkgpgaaGreatDoor
open Go.RowKit Go.En Go.Pv
def ctlB (c:UInt8):Bool:=decide (c.toNat<32)||decide (c.toNat=127)
def labB (s:List UInt8):Bool:=!(s.any ctlB)&&((points s).isSome&&(decide (1≤s.length)&&decide (s.length≤32)))
attribute [local irreducible] E EL K Val Enters Rt Calls bodyPost Code.wp RQ
end Go.Proofs.YtjicdgejhkgpgaaGreatDoor
namespace Go.En
open Go.RowKit
section
variable {P : Program} {n : Nat} {ops rest : List Oper} {Q : Post} {L : List (Nat × Value)} {w : World} {o o2 : Oper}
theorem EL_boxA {d:Nat} {t:TypeId} {x:Operand} {cs:List Value} (hg:gst ops L o=some true) (ho:o.op=.box t x) (hx:ev L x=some (.agg cs.toArray)) (hd:odst n o.dst=some d)
    (k:∀ b w',Ext w w'→b=w.heap.size→Row w' b t cs→EL P n ops Q rest ((d,(.pointer (some ⟨b,0,none⟩)))::L) w'):EL P n ops Q (o::rest) L w:=
  EL_box hg ho hx hd (fun b w' x e r=>k b w' x e (by simpa [Value.cells] using r))
theorem EL_var {d:Nat} {t:TypeId} {y:Operand} {cs:List Value} {z:Value} {size bytes:Nat} [TI P t z size bytes] (hg:gst ops L o=some true) (ho:o.op=.alloc t) (hd:odst n o.dst=some d) (hz:Nat.beq z.cells.toList.length cs.length=true)
    (ho2:o2.op=.store t (.tmp d) y) (hd2:o2.dst=none) (hg2:gst ops ((d,(.pointer (some ⟨w.heap.size,0,none⟩)))::L) o2=some true) (hy:ev ((d,(.pointer (some ⟨w.heap.size,0,none⟩)))::L) y=some (.agg cs.toArray)) (hs:Nat.beq cs.length size=true) (h1:cs.all Value.oneCell'=true)
    (k:∀ b w',Ext w w'→b=w.heap.size→Row w' b t cs→EL P n ops Q rest ((d,(.pointer (some ⟨b,0,none⟩)))::L) w'):EL P n ops Q (o::o2::rest) L w:=
  EL_alloc hg ho hd fun b w1 x1 hb r1=>by
    subst hb
    refine EL_storeP (off:=0) (cs:=cs) r1 x1 (Nat.le_refl _) hg2 hd2 ho2 (by simp [ev,lk]) hy (by simp [Value.cells]) hs h1 (by have:=Nat.eq_of_beq_eq_true hz;omega) (fun w2 r2 x2 _=>?_)
    refine k _ w2 x2 rfl ?_
    have e:z.cells.toList.length=cs.length:=Nat.eq_of_beq_eq_true hz
    have:z.cells.toList.take 0++cs++z.cells.toList.drop (0+cs.length)=cs:=by rw [Nat.zero_add,← e];simp
    rw [this] at r2
    exact r2
end
end Go.En
namespace Go.En
open Go.RowKit
theorem RQ_asgS {P:Program} {n:Nat} {ops:List Oper} {Q:Post} {o:Oper} {rest tl:List Oper} {G:List (Nat × Ent)} {w0:World} {α:Type} [Rep α] {d s:Nat} {g:Nat→Prop} {xs:List α} (hg:ggst ops G o=some true) (hd:odst n o.dst=some d) (ho:o.op=.assign (.tmp s)) (hr:gk G s=some (.r (fun u w'=>SlG g w' u xs)))
    (hl:∀ δ,lk (mat δ G) s=some (δ s)) (k:RQ P n ops w0 Q rest tl ((d,.r (fun u w'=>SlG g w' u xs))::G)):RQ P n ops w0 Q (o::rest) tl G:=
  RQ_valR (fun u w'=>SlG g w' u xs) hg hd (fun _ _ _ _ xe h=>SlG.ext h xe) (fun w δ _ hs=>⟨δ s,val_assign ho (hl δ),hs s (by rw [ho];simp [Op.operands,isT]) _ hr⟩) k
theorem RQ_valV {P:Program} {n:Nat} {ops:List Oper} {Q:Post} {o:Oper} {rest tl:List Oper} {G:List (Nat × Ent)} {w0:World} {d:Nat} {v:Value} (hg:ggst ops G o=some true) (hd:odst n o.dst=some d)
    (h:∀ w δ,Ext w0 w→SatO o δ G w→Val P (mat δ G) w o v) (k:RQ P n ops w0 Q rest tl ((d,.v v)::G)):RQ P n ops w0 Q (o::rest) tl G:=
  RW_op (T:=.v v) hg (odst_eq hd).2 (fun _ _ _ _ _ h=>h) (fun w δ hw hs ρ ha=>.inl ⟨v,w,h w δ hw hs ρ ha,rfl,Ext.refl w⟩) (by rw [(odst_eq hd).1];exact k)
theorem RQ_lenS {P:Program} {n:Nat} {ops:List Oper} {Q:Post} {o:Oper} {rest tl:List Oper} {G:List (Nat × Ent)} {w0:World} {α:Type} [Rep α] {d s:Nat} {g:Nat→Prop} {xs:List α} {t e:TypeId} [UT P t (.slice e)] (hg:ggst ops G o=some true) (hd:odst n o.dst=some d) (ho:o.op=.call { callee:=.builtin .len,args:=#[.tmp s],argTypes:=#[t] }) (hr:gk G s=some (.r (fun u w'=>SlG g w' u xs)))
    (hl:∀ δ,lk (mat δ G) s=some (δ s)) (k:RQ P n ops w0 Q rest tl ((d,.v (int xs.length))::G)):RQ P n ops w0 Q (o::rest) tl G:=
  RQ_valV hg hd (fun w δ _ hs=>by
    obtain⟨a,c,e1,_,_,_⟩:=(SlG.sl (hs s (by rw [ho];simp [Op.operands,Call.operands,isT]) _ hr))
    exact val_len_sl ho ((hl δ).trans (by rw [e1]))) k
theorem ret_3 {P:Program} {n:Nat} {L:List (Nat × Value)} {w:World} {fn:Func} {S:Value→World→Prop} {t u s:Tmp} {v x y:Value} (hr:fn.results=#[.tmp t,.tmp u,.tmp s]) (hv:lk L t=some v) (hx:lk L u=some x) (hy:lk L s=some y) (hs:S (.tuple #[v,x,y]) w):K n (bodyPost P fn (Rt S)) .ret L w:=fun a ha=>by
  refine⟨ha.nod,.tuple #[v,x,y],?_,_,rfl,hs⟩
  have h1:=ha.get t v hv
  have h2:=ha.get u x hx
  have h3:=ha.get s y hy
  rw [results_tmp3 hr]
  simp [Array.getD_eq_getD_getElem?,h1,h2,h3]
end Go.En
