/-
  Own text of the proof.
-/
import Derived.Test.YtjicdgejhkgpgaaGreatDoorYb
import Derived.Laws.StructEq
import Derived.Test.YtjicdgejhkgpgaaGreatDoorYd
import Derived.Test.YtjicdgejhkgpgaaGreatDoorI
import Derived.Test.YtjicdgejhkgpgaaGreatDoorYc
set_option linter.all false
namespace Go.En
open Go.RowKit
section
variable {P : Program} {L : List (Nat × Value)} {w : World} {o : Oper}
theorem B0t {t u:TypeId} {x y:Operand} {a b:Int} (ho:o.op=.call { callee:=.builtin .max,args:=#[x,y],argTypes:=#[t,u] }) (hx:ev L x=some (int a)) (hy:ev L y=some (int b)):Val P L w o (int (if b>a then b else a)):=fun ρ ha=>by
  have h1:=ha.ev (by rw [ho];simp [Op.operands,Call.operands]) hx
  have h2:=ha.ev (by rw [ho];simp [Op.operands,Call.operands]) hy
  simp [execOp,ho,resolve,invoke,builtin,Builtin.max_,Builtin.max2,h1,h2,go_sem]
theorem B0s {t u:TypeId} {x y:Operand} {a b:Int} (ho:o.op=.call { callee:=.builtin .min,args:=#[x,y],argTypes:=#[t,u] }) (hx:ev L x=some (int a)) (hy:ev L y=some (int b)):Val P L w o (int (if b<a then b else a)):=fun ρ ha=>by
  have h1:=ha.ev (by rw [ho];simp [Op.operands,Call.operands]) hx
  have h2:=ha.ev (by rw [ho];simp [Op.operands,Call.operands]) hy
  simp [execOp,ho,resolve,invoke,builtin,Builtin.min_,Builtin.min2,h1,h2,go_sem]
structure TwoInts (P:Program) (t e:TypeId):Prop where
  st:P.underlying t=some (.struct (P.fieldsOf t))
  hp:P.stoodInHeld t=false
  hg:P.eqGuardType P.depth t=false
  hf:((P.fieldsOf t).toList.map fun f=>(f.name== "_",f.type,f.offset))=[(false,e,0),(false,e,1)]
  he:P.underlying e=some (.int .i64)
theorem N3 {e:TypeId} {xs:Array Value} {off:Nat} {v:Value} (he:P.underlying e=some (.int .i64)) (hx:xs[off]?=some v):(part e xs off).run P w=.ok v w:=by
  have h3:(isAgg e).run P w=.ok false w:=by simp [isAgg,run_underlying he]
  simp [part,h3,hx]
theorem A6i {t e : TypeId} (h : TwoInts P t e) (a b c d : Int) : (Op.equalIn 10000 t (.agg #[int a, int b]) (.agg #[int c, int d])).run P w = .ok (decide (a = c) && decide (b = d)) w := by
  rw [run_equalIn_struct w 9999 t _ _ h.st h.hp]
  have hf:=h.hf
  obtain⟨f,g,hl⟩:∃ f g,(P.fieldsOf t).toList=[f,g]:=by
    have:=congrArg List.length hf
    rw [List.length_map] at this
    generalize (P.fieldsOf t).toList=l at this ⊢
    cases l with
    | nil=>simp at this
    | cons f l=>cases l with
      | nil=>simp at this
      | cons g l=>cases l with
        | nil=>exact⟨f,g,rfl⟩
        | cons=>simp at this
  rw [hl] at hf ⊢
  ·
    simp only [List.map_cons,List.map_nil,List.cons.injEq,Prod.mk.injEq,and_true] at hf
    obtain⟨⟨n1,t1,o1⟩,n2,t2,o2⟩:=hf
    have m1:f.name≠ "_" := by simpa using n1
    have m2:g.name≠ "_" := by simpa using n2
    have p1:=fun(xs:Array Value) v (hx:xs[0]?=some v)=>N3 (P:=P) (w:=w) h.he hx
    have p2:=fun(xs:Array Value) v (hx:xs[1]?=some v)=>N3 (P:=P) (w:=w) h.he hx
    have q:=fun x y=>run_equalIn_int (P:=P) w 9998 e .i64 .i64 x y h.he
    simp only [Op.eqFields,t1,o1,t2,o2,m1,m2,ne_eq,not_false_eq_true,if_true,Sem.run_bind]
    rw [p1 _ (int a) rfl]
    simp only [Result.andThen_ok]
    rw [p1 _ (int c) rfl]
    simp only [Result.andThen_ok]
    rw [q]
    simp only [Result.andThen_ok]
    by_cases hac:a=c
    · subst hac
      simp only [beq_self_eq_true,Bool.not_true,Bool.false_eq_true,if_false,Sem.run_bind]
      rw [p2 _ (int b) rfl]
      simp only [Result.andThen_ok]
      rw [p2 _ (int d) rfl]
      simp only [Result.andThen_ok]
      rw [q]
      simp only [Result.andThen_ok]
      by_cases hbd:b=d
      · subst hbd;simp
      · simp [hbd]
    · simp [hac]
theorem B6l {t e u:TypeId} {x y:Operand} {a b c d:Int} (h:TwoInts P t e) (ho:o.op=.binOp .neq t x y u) (hx:ev L x=some (.agg #[int a,int b])) (hy:ev L y=some (.agg #[int c,int d])):Val P L w o (.bool (!(decide (a=c)&&decide (b=d)))):=fun ρ ha=>by
  have h1:=ha.ev (by rw [ho];simp [Op.operands]) hx
  have h2:=ha.ev (by rw [ho];simp [Op.operands]) hy
  have h3:=run_eqGuard_agg (P:=P) w .neq t x y #[int a,int b] #[int c,int d] h.hg
  have h4:=run_neq_struct (P:=P) w t #[int a,int b] #[int c,int d]
  have h5:=A6i (w:=w) h a b c d
  simp [execOp,ho,h1,h2,h3,h4,h5,go_sem]
theorem X4 {t e u:TypeId} {x y:Operand} {a b c d:Int} {r:Bool} (h:TwoInts P t e) (ho:o.op=.binOp .neq t x y u) (hx:ev L x=some (.agg #[int a,int b])) (hy:ev L y=some (.agg #[int c,int d])) (hr:r=!(decide (a=c)&&decide (b=d))):Val P L w o (.bool r):=hr▸B6l h ho hx hy
theorem B6m {t e u:TypeId} {x y:Operand} {a b c d:Int} (h:TwoInts P t e) (ho:o.op=.binOp .eql t x y u) (hx:ev L x=some (.agg #[int a,int b])) (hy:ev L y=some (.agg #[int c,int d])):Val P L w o (.bool (decide (a=c)&&decide (b=d))):=fun ρ ha=>by
  have h1:=ha.ev (by rw [ho];simp [Op.operands]) hx
  have h2:=ha.ev (by rw [ho];simp [Op.operands]) hy
  have h3:=run_eqGuard_agg (P:=P) w .eql t x y #[int a,int b] #[int c,int d] h.hg
  have h4:=run_eql_struct (P:=P) w t #[int a,int b] #[int c,int d]
  have h5:=A6i (w:=w) h a b c d
  simp [execOp,ho,h1,h2,h3,h4,h5,go_sem]
end
theorem M4 {P:Program} {n:Nat} {L:List (Nat × Value)} {w:World} {fn:Func} {S:Value→World→Prop} {s u:Tmp} {x:Value} {ty:TypeId} {d:TypeDesc} {b off:Nat} {cs:List Value} {z:Value} {size bytes:Nat} [UT P ty d] [TI P ty z size bytes] (hr:fn.results=#[.cell s ty,.tmp u])
    (hd:Y6 d=true) (hv:lk L s=some (.pointer (some ⟨b,off,none⟩))) (hc:At w b off cs) (hl:Nat.beq cs.length size=true) (hx:lk L u=some x) (hs:S (.tuple #[.agg cs.toArray,x]) w):K n (bodyPost P fn (Rt S)) .ret L w:=fun a ha=>by
  refine⟨ha.nod,.tuple #[.agg cs.toArray,x],?_,_,rfl,hs⟩
  have h1:=ha.get s _ hv
  have h2:=ha.get u _ hx
  have h3:=O0 (P:=P) (t:=ty) w
  rw [hd] at h3
  obtain⟨i0,hi0,_,hsz,_⟩:=Q1 (P:=P) (t:=ty) w
  have h4:=run_loadCells_list (P:=P) w ⟨b,off,none⟩ cs (fun j v hv=>by rw [D2];exact hc j v hv)
  rw [Nat.eq_of_beq_eq_true hl] at h4
  unfold loadCells at h4
  simp [results,hr,Array.getD_eq_getD_getElem?,h1,h2,Instr.loadAt,Instr.sureAddr,loadVar,go_sem,h3,sizeOf,hi0,hsz,h4]
end Go.En
namespace Go.En
theorem kmin (k:IntKind):k.min=(match k with | .i8 => -128 | .i16 => -32768 | .i32 => -2147483648 | .i64 => -9223372036854775808 | .u8=>0 | .u16=>0 | .u32=>0 | .u64=>0:Int):=by cases k <;> rfl
theorem kmax (k:IntKind):k.max=(match k with | .i8=>127 | .i16=>32767 | .i32=>2147483647 | .i64=>9223372036854775807 | .u8=>255 | .u16=>65535 | .u32=>4294967295 | .u64=>18446744073709551615:Int):=by cases k <;> rfl
end Go.En
namespace Go.Proofs.YtjicdgejhkgpgaaGreatDoor
section
open Go.RowKit Go.En Go.Pv
attribute [local irreducible] E EL K Val Enters Rt Calls bodyPost Code.wp RQ
def isB (segs:List Ph) (z:Int):Bool:=decide (1≤z∧z≤(segs.length:Int))
theorem A3v (segs:List Ph) (v:Value) (z:Int) (w:World) (hv:Sl w v segs):Calls Tryz.prog 190 #[.agg #[v],int z] w (Rt fun u w'=>u=.bool (isB segs z)∧Ext w w'):=by
  obtain⟨a,cap,rfl,hc,hm,hp⟩:=hv.sl
  refine A6 (n:=14) (args:=[.agg #[.slice a segs.length cap],int z]) Tryz.func190 rfl Tryz.ntmps190 (by simp) ?_
  refine B4 ?_
  refine A9 ?_
  refine C6 Z Z Z Z (fun bX wX xX hbX rX0=>?_)
  have rX:Row wX bX 25 [.slice a segs.length cap]:=rX0
  clear rX0
  (repeat' (first|refine Ly ?_|refine Dy (fun hh=>?_) fun hh=>?_))
  all_goals (first|(exfalso;omega)|skip)
  all_goals exact A4 Z Z ⟨by unfold isB;congr 1;first|exact(decide_eq_true (by omega)).symm|exact(decide_eq_false (by omega)).symm|(symm;simp only [decide_eq_decide];omega),xX⟩
theorem C2d (segs:List Ph) (v:Value) (z:Int) (w:World) (hv:Sl w v segs):Calls Tryz.prog 250 #[.agg #[v],int z] w (Rt fun u w'=>u=.bool (isB segs z)∧Ext w w'):=by
  obtain⟨a,cap,rfl,hc,hm,hp⟩:=hv.sl
  refine A6 (n:=14) (args:=[.agg #[.slice a segs.length cap],int z]) Tryz.func250 rfl Tryz.ntmps250 (by simp) ?_
  refine B4 ?_
  refine A9 ?_
  refine C6 Z Z Z Z (fun bX wX xX hbX rX0=>?_)
  have rX:Row wX bX 25 [.slice a segs.length cap]:=rX0
  clear rX0
  (repeat' (first|refine Ly ?_|refine Dy (fun hh=>?_) fun hh=>?_))
  all_goals (first|(exfalso;omega)|skip)
  all_goals exact A4 Z Z ⟨by unfold isB;congr 1;first|exact(decide_eq_true (by omega)).symm|exact(decide_eq_false (by omega)).symm|(symm;simp only [decide_eq_decide];omega),xX⟩
theorem two301:TwoInts Tryz.prog 301 3:=⟨by kernel_rfl,by kernel_rfl,by kernel_rfl,by kernel_rfl,Tryz.underlying3⟩
theorem two39:TwoInts Tryz.prog 39 3:=⟨by kernel_rfl,by kernel_rfl,by kernel_rfl,by kernel_rfl,Tryz.underlying3⟩
theorem inC_no {segs:List Ph} {z:Int} {c:Cls} (h:isB segs z=false):inC D1 segs z c=false:=by
  unfold inC;unfold isB at h;rw [h];rfl
theorem inC_yes {segs:List Ph} {k:Nat} {c:Cls} {p:Ph} (hp:segs[k]?=some p):inC D1 segs ((k:Int)+1) c=decide (D1 p.feat c.mask=c.val):=by
  have hk:=(List.getElem?_eq_some_iff.1 hp).1
  unfold inC
  rw [decide_eq_true (by omega:1≤(k:Int)+1∧(k:Int)+1≤(segs.length:Int)),show((k:Int)+1-1).toNat=k by omega,hp]
  simp only [Bool.true_and]
  rfl
theorem C2f (segs:List Ph) (v:Value) (z:Int) (c:Cls) (w:World) (hv:Sl w v segs):Calls Tryz.prog 248 #[.agg #[v],int z,.agg #[int c.mask,int c.val] ] w (Rt fun u w'=>u=.bool (inC D1 segs z c)∧Ext w w'):=by
  have hv0:=hv
  obtain⟨a,cap,rfl,hc,hm,hp⟩:=hv.sl
  refine A6 (n:=27) (args:=[.agg #[.slice a segs.length cap],int z,.agg #[int c.mask,int c.val] ]) Tryz.func248 rfl Tryz.ntmps248 (by simp) ?_
  refine B4 ?_
  refine A9 ?_
  refine C6 Z Z Z Z (fun bX wX xX hbX rX0=>?_)
  have rX1:Row wX bX 25 [.slice a segs.length cap]:=rX0
  refine C6 Z Z Z Z (fun bC wC xC hbC rC0=>?_)
  have rC:Row wC bC 301 [int c.mask,int c.val]:=rC0
  have rX:=rX1.ext xC
  clear rX0 rX1 rC0
  have hX:=xX.trans xC
  have hv1:=hv0.ext hX
  have ci:=fun wq (xq:Ext wC wq)=>C2d segs _ z wq (hv1.ext xq)
  cases hb:isB segs z with
  | false=>
    rw [inC_no hb]
    rw [hb] at ci
    (repeat' (first|refine C4 Z Z (fun _ _ _=>A5 Z Z en250) ci ?_|refine Sy ?_|refine yqY ?_|refine yqZ ?_|refine E_dq B5 (by kernel_rfl) Z ?_|refine yN Z (fun wq xq=>?_)|refine yO Z Z ?_))
    exact A4 Z Z ⟨rfl,hX.trans xq⟩
  | true=>
    rw [hb] at ci
    have hz:=of_decide_eq_true hb
    obtain⟨k,rfl⟩:∃ k:Nat,z=(k:Int)+1:=⟨(z-1).toNat,by omega⟩
    obtain⟨p,hp1⟩:∃ p,segs[k]?=some p:=⟨_,List.getElem?_eq_getElem (by omega)⟩
    obtain⟨b,off,rfl⟩:=hp (by omega)
    have hat:=B1j hv1 hp1
    rw [inC_yes hp1]
    (repeat' (first|refine C4 Z Z (fun _ _ _=>A5 Z Z en250) ci ?_|refine yV Z Z (fun _ _ _=>A0 (m:=k) Z Z Z (by omega) (by omega)) ?_|refine yV Z Z (fun _ _ _=>val_and Z Z Z) ?_|refine yV Z Z (fun _ _ _=>B6 (vs:=[(0,int c.mask),(1,int (D1 p.feat c.mask))]) [int c.mask,int (D1 p.feat c.mask)] rfl rfl rfl) ?_|refine yV Z Z (fun _ _ _=>B6m two301 rfl rfl rfl) ?_|refine Sy ?_|refine yqY ?_|refine yqZ ?_|refine E_dq B5 (by kernel_rfl) Z ?_|refine yN Z (fun wq xq=>?_)))
    all_goals exact A4 Z Z ⟨by congr 1;rw [decide_eq_true rfl,Bool.true_and];simp only [decide_eq_decide];exact eq_comm,hX.trans xq⟩
theorem M9 (z:Int) (w:World):Calls Tryz.prog 61 #[int z] w (Rt fun u w'=>u=.bool (D0 z)∧Ext w w'):=by
  refine A6 (n:=9) (args:=[int z]) Tryz.func61 rfl Tryz.ntmps61 (by simp) ?_
  (repeat' (first|refine Sy ?_|refine Dy (fun hh=>?_) fun hh=>?_))
  all_goals exact A4 Z Z ⟨by unfold D0;congr 1;first|exact(decide_eq_true (by omega)).symm|exact(decide_eq_false (by omega)).symm|(simp only [decide_eq_decide];omega),Ext.refl _⟩
theorem P6 (z:Int) (w:World):Calls Tryz.prog 56 #[int z] w (Rt fun u w'=>u=.bool (D0 z)∧Ext w w'):=by
  refine A6 (n:=9) (args:=[int z]) Tryz.func56 rfl Tryz.ntmps56 (by simp) ?_
  (repeat' (first|refine Sy ?_|refine Dy (fun hh=>?_) fun hh=>?_))
  all_goals exact A4 Z Z ⟨by unfold D0;congr 1;first|exact(decide_eq_true (by omega)).symm|exact(decide_eq_false (by omega)).symm|(simp only [decide_eq_decide];omega),Ext.refl _⟩
theorem A6r (a b:Rf) (w:World):Calls Tryz.prog 64 #[.agg #[int a.rcd,int a.note],.agg #[int b.rcd,int b.note] ] w (Rt fun u w'=>u=.bool (decide (ltR a b))∧Ext w w'):=by
  refine A6 (n:=24) (args:=[.agg #[int a.rcd,int a.note],.agg #[int b.rcd,int b.note] ]) Tryz.func64 rfl Tryz.ntmps64 (by simp) ?_
  refine B4 ?_
  refine A9 ?_
  refine C6 Z Z Z Z (fun bX wX xX hbX rX0=>?_)
  have rX1:Row wX bX 39 [int a.rcd,int a.note]:=rX0
  refine C6 Z Z Z Z (fun bC wC xC hbC rC0=>?_)
  have rC:Row wC bC 39 [int b.rcd,int b.note]:=rC0
  have rX:=rX1.ext xC
  clear rX0 rX1 rC0
  have hX:=xX.trans xC
  (repeat' (first|refine Ly ?_|refine Dy (fun hh=>?_) fun hh=>?_))
  all_goals exact A4 Z Z ⟨by congr 1;unfold ltR;first|exact(decide_eq_true (by omega)).symm|exact(decide_eq_false (by omega)).symm|(simp only [decide_eq_decide];omega),hX⟩
theorem B3z (a b:Rf) (w:World):Calls Tryz.prog 101 #[.agg #[int a.rcd,int a.note],.agg #[int b.rcd,int b.note] ] w (Rt fun u w'=>u=.bool (decide (ltR a b))∧Ext w w'):=by
  refine A6 (n:=24) (args:=[.agg #[int a.rcd,int a.note],.agg #[int b.rcd,int b.note] ]) Tryz.func101 rfl Tryz.ntmps101 (by simp) ?_
  refine B4 ?_
  refine A9 ?_
  refine C6 Z Z Z Z (fun bX wX xX hbX rX0=>?_)
  have rX1:Row wX bX 39 [int a.rcd,int a.note]:=rX0
  refine C6 Z Z Z Z (fun bC wC xC hbC rC0=>?_)
  have rC:Row wC bC 39 [int b.rcd,int b.note]:=rC0
  have rX:=rX1.ext xC
  clear rX0 rX1 rC0
  have hX:=xX.trans xC
  (repeat' (first|refine Ly ?_|refine Dy (fun hh=>?_) fun hh=>?_))
  all_goals exact A4 Z Z ⟨by congr 1;unfold ltR;first|exact(decide_eq_true (by omega)).symm|exact(decide_eq_false (by omega)).symm|(simp only [decide_eq_decide];omega),hX⟩
theorem B7k (r:Rf) (w:World):Calls Tryz.prog 131 #[.agg #[int r.rcd,int r.note] ] w (Rt fun u w'=>u=.bool (D0 r.rcd&&D0 r.note)∧Ext w w'):=by
  refine A6 (n:=11) (args:=[.agg #[int r.rcd,int r.note] ]) Tryz.func131 rfl Tryz.ntmps131 (by simp) ?_
  refine B4 ?_
  refine A9 ?_
  refine C6 Z Z Z Z (fun bX wX xX hbX rX0=>?_)
  have rX:Row wX bX 39 [int r.rcd,int r.note]:=rX0
  clear rX0
  have c1:=M9 r.rcd wX
  cases hb:D0 r.rcd with
  | false=>
    rw [hb] at c1
    (repeat' (first|(refine cqC c1 en61 fun wC xC=>?_)|refine Ly ?_))
    exact A4 Z Z ⟨rfl,xX.trans xC⟩
  | true=>
    rw [hb] at c1
    (repeat' (first|(refine cqC c1 en61 fun wC xC=>?_;replace rX:=rX.ext xC)|(refine A8 Z Z (A5 Z Z en61) (M9 r.note _) (fun vC wD hC=>?_);obtain⟨rfl,xD⟩:=hC)|refine Ly ?_))
    exact A4 Z Z ⟨rfl,xX.trans (xC.trans xD)⟩
def A1q (n q:Int):Bool:=decide (0≤q∧q<n)
theorem X6 (n q:Int) (sv fv:Value) (w:World):Calls Tryz.prog 152 #[.agg #[int n,sv,fv],int q] w (Rt fun u w'=>u=.bool (A1q n q)∧Ext w w'):=by
  refine A6 (n:=13) (args:=[.agg #[int n,sv,fv],int q]) Tryz.func152 rfl Tryz.ntmps152 (by simp) ?_
  refine B4 ?_
  refine A9 ?_
  refine C6 Z Z Z Z (fun bX wX xX hbX rX0=>?_)
  have rX:Row wX bX 34 [int n,sv,fv]:=rX0
  clear rX0
  (repeat' (first|refine Ly ?_|refine Dy (fun hh=>?_) fun hh=>?_))
  all_goals exact A4 Z Z ⟨by unfold A1q;congr 1;first|exact(decide_eq_true (by omega)).symm|exact(decide_eq_false (by omega)).symm|(simp only [decide_eq_decide];omega),xX⟩
end
end Go.Proofs.YtjicdgejhkgpgaaGreatDoor
set_option maxRecDepth 8000
namespace Go.Proofs.YtjicdgejhkgpgaaGreatDoor
section
open Go.RowKit Go.En
attribute [local irreducible] E EL K Val Enters Rt Calls bodyPost Code.wp RQ
theorem A7s (a:Int) (w:World):Calls Tryz.prog 200 #[int a] w (Rt fun u w'=>u=.bool (B9t a)∧Ext w w'):=by
  refine A6 (n:=17) (args:=[int a]) Tryz.func200 rfl Tryz.ntmps200 (by simp) ?_
  (repeat' (first|refine Sy ?_|refine Dy (fun hh=>?_) fun hh=>?_))
  all_goals exact A4 Z Z ⟨congrArg Value.bool (by simp [B9t, *]),Ext.refl w⟩
theorem B5j (p:Nat) (hp:p≤1114111) (w:World):Calls Tryz.prog 201 #[int p] w (Rt fun u w'=>u=str (encB p)∧Ext w w'):=by
  have hc:=C2n (C5o hp)
  unfold encN at hc
  refine A6 (n:=61) (args:=[int p]) Tryz.func201 rfl Tryz.ntmps201 (by simp) ?_
  (repeat' (first|refine Sy ?_|refine Dy (fun hh=>?_) fun hh=>?_|(refine eV Z Z (A0x Z Z Z ?_ ?_) ?_;(first|omega|(simp only [kmin,kmax];omega));(first|omega|(simp only [kmin,kmax];omega)))|(refine eV Z Z (val_quo Z Z Z ?_ ?_ ?_) ?_;(first|omega|(simp only [kmin,kmax];omega));(first|omega|(simp only [kmin,kmax];omega));(first|omega|(simp only [kmin,kmax];omega)))|(refine eV Z Z (B9j Z Z Z ?_ ?_) ?_;(first|omega|(simp only [kmin,kmax];omega));(first|omega|(simp only [kmin,kmax];omega)))|(refine eV Z Z (Q8 Z Z ?_ ?_) ?_;(first|omega|(simp only [kmin,kmax];omega));(first|omega|(simp only [kmin,kmax];omega)))|refine eL Z Z Z Z Z Z Z Z (fun bS wS xS hbS rS=>?_)))
  · rw [if_pos (by omega)] at hc
    have hat:At wS bS 0 ((encB p).map fun b=>Value.int .u8 b.toNat):=by rw [hc];exact rS.at
    refine V5 Z Z (L5 Z Z (by have:=congrArg List.length hc;simpa using this) hat) ?_
    (repeat' (first|refine Sy ?_))
    exact A4 Z Z ⟨rfl,xS⟩
  · rw [if_neg (by omega),if_pos (by omega)] at hc
    have hat:At wS bS 0 ((encB p).map fun b=>Value.int .u8 b.toNat):=by rw [hc];simpa [Value.cells] using rS.at
    refine V5 Z Z (L5 Z Z (by have:=congrArg List.length hc;simpa using this) hat) ?_
    (repeat' (first|refine Sy ?_))
    exact A4 Z Z ⟨rfl,xS⟩
  · rw [if_neg (by omega),if_neg (by omega),if_pos (by omega)] at hc
    have hat:At wS bS 0 ((encB p).map fun b=>Value.int .u8 b.toNat):=by rw [hc];simpa [Value.cells] using rS.at
    refine V5 Z Z (L5 Z Z (by have:=congrArg List.length hc;simpa using this) hat) ?_
    (repeat' (first|refine Sy ?_))
    exact A4 Z Z ⟨rfl,xS⟩
  · rw [if_neg (by omega),if_neg (by omega),if_neg (by omega)] at hc
    have hat:At wS bS 0 ((encB p).map fun b=>Value.int .u8 b.toNat):=by rw [hc];simpa [Value.cells] using rS.at
    refine V5 Z Z (L5 Z Z (by have:=congrArg List.length hc;simpa using this) hat) ?_
    (repeat' (first|refine Sy ?_))
    exact A4 Z Z ⟨rfl,xS⟩
theorem C2l (l : List UInt8) (i : Nat) (hi : i < l.length) (hl : l.length ≤ 1099511627776) (w : World) : Calls Tryz.prog 170 #[str l, int i] w (Rt fun u w' => u = .tuple #[int (fR (l.drop i)).1, int (fR (l.drop i)).2] ∧ Ext w w') := by
  have hc0:=B5m (l:=l) (i:=i) (j:=0) hi
  rw [Nat.add_zero] at hc0
  have hdl:(l.drop i).length=l.length-i:=List.length_drop
  obtain⟨d,hd⟩:∃ d,d=l.drop i:=⟨_,rfl⟩
  rw [← hd] at hc0 hdl ⊢
  have hb:=UInt8.toNat_lt (d.getD 0 0)
  obtain⟨n,hn⟩:∃ n,n=S1 (d.getD 0 0).toNat:=⟨_,rfl⟩
  have hn1:=leadN_1 (d.getD 0 0).toNat
  rw [← hn] at hn1
  refine A6 (n:=65) (args:=[str l,int i]) Tryz.func170 rfl Tryz.ntmps170 (by simp) ?_
  (repeat' ((fail_if_success (refine B4 (x:=(Code.block 0 _)) ?_));first|refine V5 Z Z (J1 Z Z Z Z hc0) ?_|refine Sy ?_|(refine eV Z Z (Q8 Z Z ?_ ?_) ?_;(first|omega|(simp only [kmin,kmax];omega));(first|omega|(simp only [kmin,kmax];omega)))))
  refine N8 (ι:=Unit) (fun _=>[(0,str l),(1,int i),(6,int (A1k (d.getD 0 0).toNat)),(7,int n)]) (fun _ w2=>w2=w) ?_ ?_
  · (repeat' (first|refine Sy ?_|refine Dy (fun hh=>?_) fun hh=>?_|(refine eV Z Z (B9h Z Z Z ?_ ?_) ?_;(first|omega|(simp only [kmin,kmax];omega));(first|omega|(simp only [kmin,kmax];omega)))))
    all_goals exact G6 () ⟨rfl,rfl,congrArg some (congrArg (Value.int .i64) (by unfold A1k;(repeat' split) <;> omega)),congrArg some (congrArg (Value.int .i64) (by rw [hn];unfold S1;(repeat' split) <;> omega)),trivial⟩ rfl
  · rintro - w2 rfl
    have hstep:∀ k,k+1<n→accP d (k+2)=accP d (k+1)*64+(d.getD (k+1) 0).toNat % 64:=fun k _=>rfl
    (repeat' (first|refine Sy ?_|refine Dy (fun hh=>?_) fun hh=>?_|(refine eV Z Z (A0x Z Z Z ?_ ?_) ?_;(first|omega|(simp only [kmin,kmax];omega));(first|omega|(simp only [kmin,kmax];omega)))))
    · refine A4n Z Z Z ⟨?_,Ext.refl _⟩
      have:J2 d=none:=by unfold J2;rw [if_pos (by rw [← hn];omega)]
      simp [fR,this]
    · have hle:i+n≤l.length:=by omega
      refine B0 (ι:=Nat) (fun k=>[(0,str l),(1,int i),(6,int (accP d k)),(7,int n),(8,int k)]) (fun k w'=>1≤k∧k≤n∧w'=w2) (fun k=>n-k) 1 ⟨rfl,rfl,rfl,rfl,rfl,trivial⟩ ⟨Nat.le_refl _,hn1.1,rfl⟩ ?_
      rintro k w' ⟨hk1,hkn,rfl⟩
      have hac:=accP_le d k (by omega)
      have hck:k<n→l[i+k]?=some (d.getD k 0):=fun h=>by rw [hd];exact B5m (by omega)
      have hbk:=UInt8.toNat_lt (d.getD k 0)
      refine N8 (ι:=Unit) (fun _=>[(0,str l),(1,int i),(6,int (accP d k)),(7,int n),(8,int k)]) (fun _ w2=>w2=w'∧k<n) ?_ ?_
      · (repeat' (first|refine Sy ?_|refine Dy (fun hh=>?_) fun hh=>?_|refine yqZ ?_|refine E_dq B5 (by kernel_rfl) Z ?_))
        · exact G6 () ⟨rfl,rfl,rfl,rfl,rfl,trivial⟩ ⟨rfl,by omega⟩
        · have hkn':k=n:=by omega
          subst hkn'
          have hsc:=C4e (accP d k)
          cases hs:scal (accP d k) with
          | false=>
            rw [hs] at hsc
            (repeat' (first|refine C4 (v:=.bool false) Z Z (fun _ _ _=>A5 Z Z en200) (fun wq _=>hsc▸A7s _ wq) ?_|refine Sy ?_|refine yqZ ?_|refine yN Z (fun wq xq=>?_)|refine yO Z Z ?_))
            refine A4n Z Z Z ⟨?_,xq⟩
            have:J2 d=none:=by
              unfold J2
              rw [← hn,if_neg (by omega),if_neg (by rw [hs];simp)]
            simp [fR,this]
          | true=>
            rw [hs] at hsc
            have hp:accP d k≤1114111:=(N2.1 hs).1
            have htake:(l.take (i+k)).drop i=d.take k:=by rw [hd,List.drop_take,Nat.add_sub_cancel_left]
            (repeat' (first|refine C4 (v:=.bool true) Z Z (fun _ _ _=>A5 Z Z en200) (fun wq _=>hsc▸A7s _ wq) ?_|refine C4 Z Z (fun _ _ _=>A5 Z Z en201) (fun wq _=>B5j _ hp wq) ?_|refine RQ_val Z Z (fun _ _ _=>V1 Z Z Z Z Z (Int.natCast_add i k).symm (by omega) (by omega)) ?_|refine Sy ?_|refine yqZ ?_|refine yqX (fun hh=>?_) fun hh=>?_|refine yN Z (fun wq xq=>?_)|(refine yV Z Z (fun _ _ _=>A0x Z Z Z ?_ ?_) ?_;(first|omega|(simp only [kmin,kmax];omega));(first|omega|(simp only [kmin,kmax];omega)))))
            · have hne:¬ encB (accP d k)=d.take k:=by rw [← htake];assumption
              refine A4n Z Z Z ⟨?_,xq⟩
              have:J2 d=none:=by
                unfold J2
                rw [← hn,if_neg (by omega),if_neg (fun h=>hne h.2)]
              simp [fR,this]
            · have he:encB (accP d k)=d.take k:=by rw [← htake];exact Classical.not_not.1 (by assumption)
              refine A4n Z Z Z ⟨?_,xq⟩
              have:J2 d=some (accP d k,k):=by
                unfold J2
                rw [← hn,if_neg (by omega),if_pos ⟨hs,he⟩]
              simp [fR,this]
      · rintro-w2 ⟨rfl,hlt⟩
        have hstep:accP d (k+1)=accP d k*64+(d.getD k 0).toNat % 64:=by
          obtain⟨j,rfl⟩:∃ j,k=j+1:=⟨k-1,by omega⟩
          rfl
        (repeat' (first|refine V5 Z Z (J1 Z Z Z (Int.natCast_add i k).symm (hck hlt)) ?_|refine Sy ?_|(refine eV Z Z (A0x Z Z Z ?_ ?_) ?_;(first|omega|(simp only [kmin,kmax];omega));(first|omega|(simp only [kmin,kmax];omega)))|(refine eV Z Z (B9j Z Z Z ?_ ?_) ?_;(first|omega|(simp only [kmin,kmax];omega));(first|omega|(simp only [kmin,kmax];omega)))|(refine eV Z Z (B9l Z Z Z ?_ ?_) ?_;(first|omega|(simp only [kmin,kmax];omega));(first|omega|(simp only [kmin,kmax];omega)))|(refine eV Z Z (Q8 Z Z ?_ ?_) ?_;(first|omega|(simp only [kmin,kmax];omega));(first|omega|(simp only [kmin,kmax];omega)))))
        exact B3 (k+1) ⟨rfl,rfl,congrArg some (congrArg (Value.int .i64) (by rw [hstep];omega)),rfl,rfl,trivial⟩ ⟨by omega,by omega,rfl⟩ (by omega)
end
section
open Go.RowKit Go.En
attribute [local irreducible] E EL K Val Enters Rt Calls bodyPost Code.wp RQ
theorem A4o (l : List UInt8) (hl : l.length ≤ 16777216) (w : World) : Calls Tryz.prog 130 #[str l] w (Rt (C1d w (points l))) := by
  refine A6 (n:=28) (args:=[str l]) Tryz.func130 rfl Tryz.ntmps130 (by simp) ?_
  (repeat' (first|refine Sy ?_))
  refine B0 (ι:=Nat × Value × List Nat) (fun x=>[(0,str l),(4,x.2.1),(5,int x.1)]) (fun x wr=>x.1≤l.length∧x.2.2.length≤x.1∧points l=(points (l.drop x.1)).map (x.2.2++·)∧B2p w wr x.2.1 x.2.2∧Ext w wr) (fun x=>l.length-x.1) (0,.slice none 0 0,[])
    ⟨rfl,rfl,rfl,trivial⟩ ⟨Nat.zero_le _,Nat.le_refl _,by simp,World.ownsRow_nil _ _ _ _,Ext.refl _⟩ ?_
  rintro⟨i,v,zs⟩ wr ⟨hi,hz,hp,hown,hx⟩
  dsimp only at hi hz hp hown hx ⊢
  by_cases hlt:i<l.length
  · have hne:l.drop i≠[]:=by intro h;have:=congrArg List.length h;simp at this;omega
    have hf:=C2l l i hlt (by omega) wr
    rw [T6 hne] at hp
    cases hfr:J2 (l.drop i) with
    | none=>
      rw [hfr] at hp
      simp only [fR,hfr] at hf
      (repeat' (first|(refine cqC hf en170 fun wC xC=>?_)|refine Sy ?_|refine Dy (fun hh=>?_) fun hh=>?_|refine eL Z Z Z Z Z Z Z Z (fun bS wS xS hbS rS=>?_)))
      · refine A4n Z Z Z ⟨hx.trans xC,?_⟩
        rw [hp];rfl
      all_goals omega
    | some q=>
      obtain⟨p,n⟩:=q
      have hq:=P7 hfr
      rw [List.length_drop] at hq
      rw [hfr] at hp
      simp only [fR,hfr] at hf
      (repeat' (first|(refine cqC hf en170 fun wC xC=>?_)|refine Sy ?_|refine Dy (fun hh=>?_) fun hh=>?_|refine eL Z Z Z Z Z Z Z Z (fun bS wS xS hbS rS=>?_)))
      all_goals (first|(exfalso;omega)|skip)
      refine A7y (C7 hown (xC.trans xS)) ((hx.trans xC).trans xS) rS.at rfl rfl rfl rfl rfl rfl rfl rfl rfl (by omega) (by omega) (fun vA wA oA xA _=>?_)
      (repeat' (first|refine Sy ?_|(refine eV Z Z (A0x Z Z Z ?_ ?_) ?_;(first|omega|(simp only [kmin,kmax];omega));(first|omega|(simp only [kmin,kmax];omega)))))
      refine B3 (i+n,vA,zs++[p]) ⟨rfl,rfl,rfl,trivial⟩ ⟨by dsimp only;omega,by simp;omega,?_,?_,xA⟩ (by dsimp only;omega)
      · rw [hp]
        simp only [List.drop_drop]
        cases points (l.drop (i+n)) <;> simp
      · unfold B2p
        simpa [Value.cells] using oA
  · have hil:i=l.length:=by omega
    subst hil
    (repeat' (first|refine Sy ?_|refine Dy (fun hh=>?_) fun hh=>?_))
    all_goals (first|(exfalso;omega)|skip)
    rw [List.drop_length,Y0] at hp
    simp only [Option.map_some,List.append_nil] at hp
    refine A4n Z Z Z ⟨hx,?_⟩
    rw [hp]
    exact⟨v,rfl,hown⟩
end
end Go.Proofs.YtjicdgejhkgpgaaGreatDoor