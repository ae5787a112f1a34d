/-
  The engine, second part: slices that are read. Short names of the engine's rules (a hand-in's folder has a limit of size), and sums of the machine's own integers. The bounds of the integers' kinds. The smaller and the greater of two numbers; two spans compared. Shapes of what lies in memory: a class of types whose values lie in rows of cells, slices of them, and how an argument of the row is opened to them. A region that draws its order, reads two structs and defines two variables of them in memory ('p, q := x[i], y[i]'): in every order. Arguments of a row: structs opened. A region that draws its order and makes a variable of its own ('y := f(x)' where y's address is taken). A literal of a slice among the operations of a region that draws its order. Maps whose keys are numbers: made, looked up, updated. Trees that lie in memory (queries): a struct whose last field is a slice of its own kind.
-/
import Derived.Test.YtnifmbbpfdghmaaGreatDoorE
import Derived.Laws.StructEq
import Derived.ChangeArms
import Derived.SizedLaws
import Derived.Carry
import Derived.Maps.AppendAt
import Derived.MapKept
set_option linter.all false
namespace Go.En
open Go.RowKit
def SlC (w:World) (v:Value) (n:Nat) (cs:List Value):Prop:=∃ a cap,v=.slice a n cap∧n≤cap∧(0<n→∃ b off,a=some ⟨b,off,none⟩∧At w b off cs)
theorem SlC.ext {w w':World} {v:Value} {n:Nat} {cs:List Value} (h:SlC w v n cs) (x:Ext w w'):SlC w' v n cs:=by
  obtain⟨a,cap,hv,hc,h⟩:=h
  exact⟨a,cap,hv,hc,fun hn=>by obtain⟨b,off,ha,hat⟩:=h hn;exact⟨b,off,ha,hat.ext x⟩⟩
theorem own_sl {w:World} {B:Nat} {e:TypeId} {sz:Nat} {v:Value} {n:Nat} {xs:List Value} (h:w.ownsRow B e sz v n xs):SlC w v n xs:=by
  rcases own_read h with⟨rfl,rfl,rfl⟩|⟨b,cap,rfl,hc,_,_,hat⟩
  · exact⟨none,0,rfl,Nat.le_refl _,fun h=>absurd h (Nat.lt_irrefl 0)⟩
  · exact⟨_,cap,rfl,hc,fun _=>⟨b,0,rfl,hat⟩⟩
theorem own_weak {w:World} {B B':Nat} {e:TypeId} {sz:Nat} {v:Value} {n:Nat} {xs:List Value} (h:w.ownsRow B e sz v n xs) (hB:B'≤B):w.ownsRow B' e sz v n xs:=by
  refine⟨h.1,?_⟩
  rcases h.2 with h2|⟨g,cap,cur,hv,hb,r⟩
  · exact .inl h2
  · exact .inr ⟨g,cap,cur,hv,Nat.le_trans hB hb,r⟩
theorem At.ith {w:World} {b off:Nat} {α:Type} {f:α→Value} {zs:List α} (h:At w b off (zs.map f)) {i:Nat} {z:α} (hz:zs[i]?=some z):w.cell? ⟨b,off+i*1,none⟩=some (f z):=by
  rw [Nat.mul_one]
  exact h i _ (by rw [List.getElem?_map,hz];rfl)
theorem At.elem {w:World} {b:Nat} {α:Type} {f:α→List Value} {k:Nat}:∀ {zs:List α} {off:Nat},(∀ z∈zs,(f z).length=k)→At w b off (zs.map f).flatten→∀ {i:Nat} {z:α},zs[i]?=some z→At w b (off+i*k) (f z)
  | [],_,_,_,i,z,h=>by simp at h
  | y::r,off,hk,h,0,z,hz=>by
    simp at hz
    subst hz
    rw [Nat.zero_mul,Nat.add_zero]
    intro j v hv
    have hj:j<(f y).length:=(List.getElem?_eq_some_iff.1 hv).1
    exact h j v (by rw [List.map_cons,List.flatten_cons,List.getElem?_append_left hj];exact hv)
  | y :: r, off, hk, h, i + 1, z, hz => by
    have hy:=hk y (by simp)
    have h2:At w b (off+k) (r.map f).flatten:=by
      intro j v hv
      have:=h (k+j) v (by rw [List.map_cons,List.flatten_cons,List.getElem?_append_right (by omega),hy,Nat.add_sub_cancel_left];exact hv)
      rwa [← Nat.add_assoc] at this
    have h3:=At.elem (fun z hz=>hk z (by simp [hz])) h2 (i:=i) (z:=z) (by simpa using hz)
    rw [show off+(i+1)*k=off+k+i*k by rw [Nat.add_mul];omega]
    exact h3
section
variable {P : Program} {n : Nat} {Q : Post} {L : List (Nat × Value)} {w w0 : World} {ops l tl : List Oper} {o : Oper} {rest : List Oper} {G : List (Nat × Ent)}
theorem row_own {w:World} {B:Nat} {e:TypeId} {size n b:Nat} {xs:List Value} (h:w.ownsRow B e size (.slice (some ⟨b,0,none⟩) n n) n xs):Row w b e xs:=by
  rcases h.2 with⟨hv,_⟩|⟨g,cap,cur,hv,_,hg,_,_,hs,ht⟩
  · cases hv
  · simp only [Value.slice.injEq,Option.some.injEq,Addr.mk.injEq,and_true,true_and] at hv
    obtain⟨rfl,rfl⟩:=hv
    unfold Row
    rw [hg,← ht,List.take_of_length_le (by simp [hs])]
theorem EL_make1 {d:Nat} {t e:TypeId} {x y:Operand} {z:Value} {bytes:Nat} [ut:UT P t (.slice e)] [ti:TI P e z 1 bytes] (hg:gst ops L o=some true) (hd:odst n o.dst=some d) (ho:o.op=.makeSlice t x y)
    {k1 k2:IntKind} {zx zy:Int} {m:Nat} (hx:ev L x=some (.int k1 zx)) (hy:ev L y=some (.int k2 zy)) (hzx:zx=(m:Int)) (hzy:zy=(m:Int)) (hz:z.cells=#[z]) (hmax:bytes*m≤281474976710656) (hmax':m≤9223372036854775807)
    (k:∀ b w',b=w.heap.size→Row w' b e (List.replicate m z)→Ext w w'→EL P n ops Q rest ((d,.slice (some ⟨b,0,none⟩) m m)::L) w'):EL P n ops Q (o::rest) L w:=
  EL_makeSlice hg hd ho hx hy hzx hzy hmax hmax' fun b w' hb hown hx'=>k b w' hb (by
    have:=row_own hown
    rwa [hz,Nat.mul_one,toList_madeCells_one] at this) hx'
theorem EL_store1 {t:TypeId} {x y:Operand} {v z:Value} {bytes:Nat} {b off:Nat} {e:TypeId} {cs:List Value} [TI P t z 1 bytes] {w0:World} (hr:Row w b e cs) (x0:Ext w0 w) (hb:w0.heap.size≤b) (hg:gst ops L o=some true) (hd:o.dst=none) (ho:o.op=.store t x y)
    (hx:ev L x=some (.pointer (some ⟨b,off,none⟩))) (hy:ev L y=some v) (hs:v.cells=#[v]) (h1:v.oneCell'=true) (hl:off<cs.length)
    (k:∀ w',Row w' b e (cs.set off v)→Ext w0 w'→Kb (some b) w w'→EL P n ops Q rest L w'):EL P n ops Q (o::rest) L w:=
  EL_store hg hd ho hx hy (by rw [hs];rfl) (by rw [hs];simp [h1]) hr hl fun w' h2 h3 _=>k w' (by
    rw [hs] at h2
    rw [List.set_eq_take_append_cons_drop,if_pos hl];simpa using h2) (h3.ext x0 fun b' hb'=>by cases hb';exact hb) h3
end
section
variable {P : Program} {L : List (Nat × Value)} {w : World} {o : Oper}
theorem val_slice_h {t e:TypeId} {x q:Operand} {a:Option Addr} {len cap b:Nat} {kh:IntKind} {zb:Int} {zv:Value} {size bytes:Nat} [UT P t (.slice e)] [TI P e zv size bytes] (ho:o.op=.slice t x none (some q) none) (hx:ev L x=some (.slice a len cap))
    (hhi:ev L q=some (.int kh zb)) (hzb:zb=(b:Int)) (hb:b≤cap):Val P L w o (.slice a b cap):=fun ρ ha=>by
  have h1:=ha.ev (by rw [ho];simp [Op.operands]) hx
  have h4:=ha.ev (by rw [ho];simp [Op.operands]) hhi
  have h3:=run_ut (t:=t) (P:=P) w
  have h5:=run_sizeOf (P:=P) (t:=e) w
  subst hzb
  have hadd:∀ y:Addr,y.add 0=y:=fun _=>rfl
  simp only [execOp,ho,Instr.sliceAt,Instr.slice,Instr.sliceBounds,Instr.sliceBound,asIntOf,h1,h4,Option.map_some,Option.map_none]
  simp [go_sem,h3,h5,hb]
theorem val_slice_l {t e:TypeId} {x p:Operand} {a:Option Addr} {len cap b:Nat} {kl:IntKind} {za:Int} {zv:Value} {size bytes:Nat} [UT P t (.slice e)] [TI P e zv size bytes] (ho:o.op=.slice t x (some p) none none) (hx:ev L x=some (.slice a len cap))
    (hlo:ev L p=some (.int kl za)) (hza:za=(b:Int)) (hb:b≤len):Val P L w o (.slice (if cap=b then a else a.map (·.add (b*size))) (len-b) (cap-b)):=fun ρ ha=>by
  have h1:=ha.ev (by rw [ho];simp [Op.operands]) hx
  have h4:=ha.ev (by rw [ho];simp [Op.operands]) hlo
  have h3:=run_ut (t:=t) (P:=P) w
  have h5:=run_sizeOf (P:=P) (t:=e) w
  subst hza
  simp only [execOp,ho,Instr.sliceAt,Instr.slice,Instr.sliceBounds,Instr.sliceBound,asIntOf,h1,h4,Option.map_some,Option.map_none]
  simp [go_sem,h3,h5,hb]
end
theorem SlC.drop {w:World} {a:Option Addr} {n cap size b:Nat} {cs:List Value} (h:SlC w (.slice a n cap) n cs) (hb:b≤n):SlC w (.slice (if cap=b then a else a.map (·.add (b*size))) (n-b) (cap-b)) (n-b) (cs.drop (b*size)):=by
  obtain⟨a',cap',hv,hc,h⟩:=h
  cases hv
  refine⟨_,_,rfl,by omega,fun hn=>?_⟩
  obtain⟨bl,off,rfl,hat⟩:=h (by omega)
  rw [if_neg (by omega)]
  refine⟨bl,off+b*size,by simp [addr_add],fun j v hv=>?_⟩
  rw [List.getElem?_drop] at hv
  have:=hat _ _ hv
  rwa [← Nat.add_assoc] at this
theorem SlC.take {w:World} {a:Option Addr} {n cap b:Nat} {cs ds:List Value} (h:SlC w (.slice a n cap) n cs) (hb:b≤n) (hd:ds <+: cs):SlC w (.slice a b cap) b ds:=by
  obtain⟨a',cap',hv,hc,h⟩:=h
  cases hv
  refine⟨_,_,rfl,by omega,fun hn=>?_⟩
  obtain⟨bl,off,rfl,hat⟩:=h (by omega)
  refine⟨bl,off,rfl,fun j v hv=>hat j v ?_⟩
  obtain⟨r,rfl⟩:=hd
  rw [List.getElem?_append_left (List.getElem?_eq_some_iff.1 hv).1]
  exact hv
end Go.En
namespace Go.En
open Go.RowKit
def eN:=@EL_nil
def eO:=@EL_no
def eV:=@EL_val
def eD:=@EL_dec
def eL:=@EL_lit
def eG:=@EL_gcase
def yN:=@RQ_fin
def yO:=@RQ_no
def yV:=@RQ_val
def yD:=@RQ_dec
def zA:=@val_move
def zB:=@val_assign
def zC:=@val_pick_t
def zD:=@val_pick_f
def zE:=@val_not
def zF:=@val_extract
def zH:=@val_fieldAddr
def zJ:=@val_len_str
def zK:=@val_len_sl
def zL:=@val_lss
def zM:=@val_eql
def zN:=@val_leq
def zO:=@val_gtr
def zP:=@val_geq
def zQ:=@val_neq
def zR:=@val_str_eql
def zS:=@val_str_neq
theorem bytes_lt:∀(x y:List UInt8),Op.bytesLess x y=decide (x<y)
  | x,[]=>by simp [Op.bytesLess]
  | [],b::y=>by simp [Op.bytesLess]
  | a::x,b::y=>by
    simp only [Op.bytesLess,bytes_lt x y,List.cons_lt_cons_iff,Bool.decide_or,Bool.decide_and]
    congr 2
section
variable {P : Program} {L : List (Nat × Value)} {w : World} {o : Oper}
theorem zT {t u:TypeId} {x y:Operand} {a b:List UInt8} (ho:o.op=.binOp .lss t x y u) (hx:ev L x=some (str a)) (hy:ev L y=some (str b)):Val P L w o (.bool (decide (a<b))):=by
  have:=val_str_lss (P:=P) (w:=w) ho hx hy
  rwa [bytes_lt] at this
theorem zU {t u:TypeId} {x y:Operand} {a b:Int} (ho:o.op=.binOp .add t x y u) (hx:ev L x=some (int a)) (hy:ev L y=some (int b)) (h1:-9223372036854775808≤a+b) (h2:a+b≤9223372036854775807):Val P L w o (int (a+b)):=val_add ho hx hy h1 h2
theorem zV {t u:TypeId} {x y:Operand} {a b:Int} (ho:o.op=.binOp .sub t x y u) (hx:ev L x=some (int a)) (hy:ev L y=some (int b)) (h1:-9223372036854775808≤a-b) (h2:a-b≤9223372036854775807):Val P L w o (int (a-b)):=val_sub ho hx hy h1 h2
theorem zW {t u:TypeId} {x y:Operand} {a b:Int} (ho:o.op=.binOp .mul t x y u) (hx:ev L x=some (int a)) (hy:ev L y=some (int b)) (h1:-9223372036854775808≤a*b) (h2:a*b≤9223372036854775807):Val P L w o (int (a*b)):=val_mul ho hx hy h1 h2
end
theorem Row.cellAt {w:World} {b j:Nat} {e:TypeId} {cs:List Value} {v:Value} (h:Row w b e cs) (hv:cs[j]?=some v):w.cell? ⟨b,j,none⟩=some v:=by rw [h.cell,hv]
theorem At.cellAt {w:World} {b off j:Nat} {cs:List Value} {v:Value} (h:At w b off cs) (hv:cs[j]?=some v):w.cell? ⟨b,off+j,none⟩=some v:=h j v hv
theorem ret_c {P:Program} {n:Nat} {L:List (Nat × Value)} {w:World} {fn:Func} {S:Value→World→Prop} {s:Tmp} {ty:TypeId} {d:TypeDesc} {b off:Nat} {cs:List Value} {z:Value} {size bytes:Nat} [UT P ty d] [TI P ty z size bytes] (hr:fn.results=#[.cell s ty])
    (hd:isAggD d=true) (hv:lk L s=some (.pointer (some ⟨b,off,none⟩))) (hc:At w b off cs) (hl:Nat.beq cs.length size=true) (hs:S (.agg cs.toArray) w):K n (bodyPost P fn (Rt S)) .ret L w:=fun a ha=>by
  refine⟨ha.nod,.agg cs.toArray,?_,_,rfl,hs⟩
  have h1:=ha.get s _ hv
  have h3:=run_isAgg (P:=P) (t:=ty) w
  rw [hd] at h3
  obtain⟨i0,hi0,_,hsz,_⟩:=run_ti (P:=P) (t:=ty) w
  have h4:=run_loadCells_list (P:=P) w ⟨b,off,none⟩ cs (fun j v hv=>by rw [addr_add];exact hc j v hv)
  rw [Nat.eq_of_beq_eq_true hl] at h4
  unfold loadCells at h4
  simp [results,hr,Array.getD_eq_getD_getElem?,h1,Instr.loadAt,Instr.sureAddr,loadVar,go_sem,h3,sizeOf,hi0,hsz,h4]
end Go.En
namespace Go.En
theorem kmin (k:IntKind):k.min=(match k with | .i8 => -128 | .i16 => -32768 | .i32 => -2147483648 | .i64 => -9223372036854775808 | .u8=>0 | .u16=>0 | .u32=>0 | .u64=>0:Int):=by cases k <;> rfl
theorem kmax (k:IntKind):k.max=(match k with | .i8=>127 | .i16=>32767 | .i32=>2147483647 | .i64=>9223372036854775807 | .u8=>255 | .u16=>65535 | .u32=>4294967295 | .u64=>18446744073709551615:Int):=by cases k <;> rfl
end Go.En
namespace Go.En
open Go.RowKit
section
variable {P : Program} {L : List (Nat × Value)} {w : World} {o : Oper}
theorem val_max {t u:TypeId} {x y:Operand} {a b:Int} (ho:o.op=.call { callee:=.builtin .max,args:=#[x,y],argTypes:=#[t,u] }) (hx:ev L x=some (int a)) (hy:ev L y=some (int b)):Val P L w o (int (if b>a then b else a)):=fun ρ ha=>by
  have h1:=ha.ev (by rw [ho];simp [Op.operands,Call.operands]) hx
  have h2:=ha.ev (by rw [ho];simp [Op.operands,Call.operands]) hy
  simp [execOp,ho,resolve,invoke,builtin,Builtin.max_,Builtin.max2,h1,h2,go_sem]
theorem val_min {t u:TypeId} {x y:Operand} {a b:Int} (ho:o.op=.call { callee:=.builtin .min,args:=#[x,y],argTypes:=#[t,u] }) (hx:ev L x=some (int a)) (hy:ev L y=some (int b)):Val P L w o (int (if b<a then b else a)):=fun ρ ha=>by
  have h1:=ha.ev (by rw [ho];simp [Op.operands,Call.operands]) hx
  have h2:=ha.ev (by rw [ho];simp [Op.operands,Call.operands]) hy
  simp [execOp,ho,resolve,invoke,builtin,Builtin.min_,Builtin.min2,h1,h2,go_sem]
structure TwoInts (P:Program) (t e:TypeId):Prop where
  st:P.underlying t=some (.struct (P.fieldsOf t))
  hp:P.stoodInHeld t=false
  hg:P.eqGuardType P.depth t=false
  hf:((P.fieldsOf t).toList.map fun f=>(f.name== "_",f.type,f.offset))=[(false,e,0),(false,e,1)]
  he:P.underlying e=some (.int .i64)
theorem run_part_int {e:TypeId} {xs:Array Value} {off:Nat} {v:Value} (he:P.underlying e=some (.int .i64)) (hx:xs[off]?=some v):(part e xs off).run P w=.ok v w:=by
  have h3:(isAgg e).run P w=.ok false w:=by simp [isAgg,run_underlying he]
  simp [part,h3,hx]
theorem run_eq_two {t e : TypeId} (h : TwoInts P t e) (a b c d : Int) : (Op.equalIn 10000 t (.agg #[int a, int b]) (.agg #[int c, int d])).run P w = .ok (decide (a = c) && decide (b = d)) w := by
  rw [run_equalIn_struct w 9999 t _ _ h.st h.hp]
  have hf:=h.hf
  obtain⟨f,g,hl⟩:∃ f g,(P.fieldsOf t).toList=[f,g]:=by
    have:=congrArg List.length hf
    rw [List.length_map] at this
    generalize (P.fieldsOf t).toList=l at this ⊢
    cases l with
    | nil=>simp at this
    | cons f l=>cases l with
      | nil=>simp at this
      | cons g l=>cases l with
        | nil=>exact⟨f,g,rfl⟩
        | cons=>simp at this
  rw [hl] at hf ⊢
  ·
    simp only [List.map_cons,List.map_nil,List.cons.injEq,Prod.mk.injEq,and_true] at hf
    obtain⟨⟨n1,t1,o1⟩,n2,t2,o2⟩:=hf
    have m1:f.name≠ "_" := by simpa using n1
    have m2:g.name≠ "_" := by simpa using n2
    have p1:=fun(xs:Array Value) v (hx:xs[0]?=some v)=>run_part_int (P:=P) (w:=w) h.he hx
    have p2:=fun(xs:Array Value) v (hx:xs[1]?=some v)=>run_part_int (P:=P) (w:=w) h.he hx
    have q:=fun x y=>run_equalIn_int (P:=P) w 9998 e .i64 .i64 x y h.he
    simp only [Op.eqFields,t1,o1,t2,o2,m1,m2,ne_eq,not_false_eq_true,if_true,Sem.run_bind]
    rw [p1 _ (int a) rfl]
    simp only [Result.andThen_ok]
    rw [p1 _ (int c) rfl]
    simp only [Result.andThen_ok]
    rw [q]
    simp only [Result.andThen_ok]
    by_cases hac:a=c
    · subst hac
      simp only [beq_self_eq_true,Bool.not_true,Bool.false_eq_true,if_false,Sem.run_bind]
      rw [p2 _ (int b) rfl]
      simp only [Result.andThen_ok]
      rw [p2 _ (int d) rfl]
      simp only [Result.andThen_ok]
      rw [q]
      simp only [Result.andThen_ok]
      by_cases hbd:b=d
      · subst hbd;simp
      · simp [hbd]
    · simp [hac]
theorem val_ne_two {t e u:TypeId} {x y:Operand} {a b c d:Int} (h:TwoInts P t e) (ho:o.op=.binOp .neq t x y u) (hx:ev L x=some (.agg #[int a,int b])) (hy:ev L y=some (.agg #[int c,int d])):Val P L w o (.bool (!(decide (a=c)&&decide (b=d)))):=fun ρ ha=>by
  have h1:=ha.ev (by rw [ho];simp [Op.operands]) hx
  have h2:=ha.ev (by rw [ho];simp [Op.operands]) hy
  have h3:=run_eqGuard_agg (P:=P) w .neq t x y #[int a,int b] #[int c,int d] h.hg
  have h4:=run_neq_struct (P:=P) w t #[int a,int b] #[int c,int d]
  have h5:=run_eq_two (w:=w) h a b c d
  simp [execOp,ho,h1,h2,h3,h4,h5,go_sem]
theorem val_ne_two_b {t e u:TypeId} {x y:Operand} {a b c d:Int} {r:Bool} (h:TwoInts P t e) (ho:o.op=.binOp .neq t x y u) (hx:ev L x=some (.agg #[int a,int b])) (hy:ev L y=some (.agg #[int c,int d])) (hr:r=!(decide (a=c)&&decide (b=d))):Val P L w o (.bool r):=hr▸val_ne_two h ho hx hy
end
theorem ret_ct {P:Program} {n:Nat} {L:List (Nat × Value)} {w:World} {fn:Func} {S:Value→World→Prop} {s u:Tmp} {x:Value} {ty:TypeId} {d:TypeDesc} {b off:Nat} {cs:List Value} {z:Value} {size bytes:Nat} [UT P ty d] [TI P ty z size bytes] (hr:fn.results=#[.cell s ty,.tmp u])
    (hd:isAggD d=true) (hv:lk L s=some (.pointer (some ⟨b,off,none⟩))) (hc:At w b off cs) (hl:Nat.beq cs.length size=true) (hx:lk L u=some x) (hs:S (.tuple #[.agg cs.toArray,x]) w):K n (bodyPost P fn (Rt S)) .ret L w:=fun a ha=>by
  refine⟨ha.nod,.tuple #[.agg cs.toArray,x],?_,_,rfl,hs⟩
  have h1:=ha.get s _ hv
  have h2:=ha.get u _ hx
  have h3:=run_isAgg (P:=P) (t:=ty) w
  rw [hd] at h3
  obtain⟨i0,hi0,_,hsz,_⟩:=run_ti (P:=P) (t:=ty) w
  have h4:=run_loadCells_list (P:=P) w ⟨b,off,none⟩ cs (fun j v hv=>by rw [addr_add];exact hc j v hv)
  rw [Nat.eq_of_beq_eq_true hl] at h4
  unfold loadCells at h4
  simp [results,hr,Array.getD_eq_getD_getElem?,h1,h2,Instr.loadAt,Instr.sureAddr,loadVar,go_sem,h3,sizeOf,hi0,hsz,h4]
end Go.En
namespace Go.En
open Go.RowKit
def AllAt {α β:Type} (R:α→β→Prop):List α→List β→Prop
  | [],[]=>True
  | a::as,c::cs=>R a c∧AllAt R as cs
  | _,_=>False
theorem AllAt.len {α β:Type} {R:α→β→Prop}:∀ {as:List α} {cs:List β},AllAt R as cs→as.length=cs.length
  | [],[],_=>rfl
  | _::_,_::_,h=>by simp [AllAt.len h.2]
  | [],_::_,h=>h.elim
  | _::_,[],h=>h.elim
theorem AllAt.mono {α β:Type} {R S:α→β→Prop} (hi:∀ a c,R a c→S a c):∀ {as:List α} {cs:List β},AllAt R as cs→AllAt S as cs
  | [],[],_=>trivial
  | _::_,_::_,h=>⟨hi _ _ h.1,AllAt.mono hi h.2⟩
  | [],_::_,h=>h.elim
  | _::_,[],h=>h.elim
theorem AllAt.get {α β:Type} {R:α→β→Prop}:∀ {as:List α} {cs:List β},AllAt R as cs→∀ {i:Nat} {a:α},as[i]?=some a→∃ c,cs[i]?=some c∧R a c
  | [],[],_,_,_,hi=>by simp at hi
  | _::_,c::_,h,0,_,hi=>by simp at hi;subst hi;exact⟨c,rfl,h.1⟩
  | _::_,_::_,h,i+1,_,hi=>by simpa using AllAt.get h.2 (by simpa using hi)
  | [],_::_,h,_,_,_=>h.elim
  | _::_,[],h,_,_,_=>h.elim
theorem AllAt.append {α β:Type} {R:α→β→Prop}:∀ {as as':List α} {cs cs':List β},AllAt R as cs→AllAt R as' cs'→AllAt R (as++as') (cs++cs')
  | [],_,[],_,_,h'=>h'
  | _::_,_,_::_,_,h,h'=>⟨h.1,AllAt.append h.2 h'⟩
  | [],_,_::_,_,h,_=>h.elim
  | _::_,_,[],_,h,_=>h.elim
theorem AllAt.take {α β:Type} {R:α→β→Prop}:∀ {as:List α} {cs:List β} (k:Nat),AllAt R as cs→AllAt R (as.take k) (cs.take k)
  | [],[],k,_=>by simp [AllAt]
  | _::_,_::_,0,_=>trivial
  | _::_,_::_,k+1,h=>⟨h.1,AllAt.take k h.2⟩
  | [],_::_,_,h=>h.elim
  | _::_,[],_,h=>h.elim
theorem AllAt.drop {α β:Type} {R:α→β→Prop}:∀ {as:List α} {cs:List β} (k:Nat),AllAt R as cs→AllAt R (as.drop k) (cs.drop k)
  | [],[],k,_=>by simp [AllAt]
  | _::_,_::_,0,h=>h
  | _::_,_::_,k+1,h=>AllAt.drop k h.2
  | [],_::_,_,h=>h.elim
  | _::_,[],_,h=>h.elim
theorem AllAt.set {α β:Type} {R:α→β→Prop} {a:α} {c:β} (h0:R a c):∀ {as:List α} {cs:List β} (k:Nat),AllAt R as cs→AllAt R (as.set k a) (cs.set k c)
  | [],[],k,_=>by simp [AllAt]
  | _::_,_::_,0,h=>⟨h0,h.2⟩
  | _::_,_::_,k+1,h=>⟨h.1,AllAt.set h0 k h.2⟩
  | [],_::_,_,h=>h.elim
  | _::_,[],_,h=>h.elim
theorem AllAt.one {α β:Type} {R:α→β→Prop} {a:α} {c:β} (h:R a c):AllAt R [a] [c]:=⟨h,trivial⟩
theorem AllAt.all {α β:Type} {R:α→β→Prop} {q:β→Prop} (hq:∀ a c,R a c→q c):∀ {as:List α} {cs:List β},AllAt R as cs→∀ c∈cs,q c
  | [],[],_,_,hc=>by simp at hc
  | _::_,_::_,h,c,hc=>by
    rcases List.mem_cons.1 hc with rfl|hc
    · exact hq _ _ h.1
    · exact AllAt.all hq h.2 c hc
  | [],_::_,h,_,_=>h.elim
  | _::_,[],h,_,_=>h.elim
class Rep (α:Type) where
  sz:Nat
  pos:0<sz
  at_:(Nat→Prop)→World→α→List Value→Prop
  len:∀ {G w a cs},at_ G w a cs→cs.length=sz
  one:∀ {G w a cs},at_ G w a cs→cs.all Value.oneCell'=true
  move:∀ {G G':Nat→Prop} {w w':World} {a cs},at_ G w a cs→(∀ b,G b→b<w.heap.size→G' b∧w'.heap[b]?=w.heap[b]?)→at_ G' w' a cs
abbrev Tt:Nat→Prop:=fun _=>True
theorem flat_len2 {k:Nat}:∀ {css:List (List Value)},(∀ c∈css,c.length=k)→css.flatten.length=css.length*k
  | [],_=>by simp
  | c::css,h=>by simp [flat_len2 (css:=css) (fun c hc=>h c (List.mem_cons_of_mem _ hc)),h c (List.mem_cons_self ..),Nat.add_mul];omega
theorem flat_take2 {k:Nat}:∀ {css:List (List Value)} (i:Nat),(∀ c∈css,c.length=k)→(css.take i).flatten=css.flatten.take (i*k)
  | [],i,_=>by simp
  | c::css,0,_=>by simp
  | c::css,i+1,h=>by
    have hc:=h c (List.mem_cons_self ..)
    rw [List.take_succ_cons,List.flatten_cons,List.flatten_cons,flat_take2 i (fun c hc=>h c (List.mem_cons_of_mem _ hc)),List.take_append,List.take_of_length_le (l:=c) (by rw [hc,Nat.add_mul];omega)]
    congr 2
    rw [hc,Nat.add_mul];omega
theorem flat_drop2 {k:Nat}:∀ {css:List (List Value)} (i:Nat),(∀ c∈css,c.length=k)→(css.drop i).flatten=css.flatten.drop (i*k)
  | [],i,_=>by simp
  | c::css,0,_=>by simp
  | c::css,i+1,h=>by
    have hc:=h c (List.mem_cons_self ..)
    rw [List.drop_succ_cons,List.flatten_cons,flat_drop2 i (fun c hc=>h c (List.mem_cons_of_mem _ hc)),List.drop_append,List.drop_eq_nil_of_le (as:=c) (by rw [hc,Nat.add_mul];omega),List.nil_append]
    congr 1
    rw [hc,Nat.add_mul];omega
variable {α : Type} [Rep α]
abbrev AtsG (G:Nat→Prop) (w:World) (xs:List α) (css:List (List Value)):Prop:=AllAt (Rep.at_ G w) xs css
abbrev Ats (w:World) (xs:List α) (css:List (List Value)):Prop:=AtsG Tt w xs css
theorem AtsG.lens {G:Nat→Prop} {w:World} {xs:List α} {css:List (List Value)} (h:AtsG G w xs css):∀ c∈css,c.length=Rep.sz α:=AllAt.all (fun _ _ h=>Rep.len h) h
theorem AtsG.flat {G:Nat→Prop} {w:World} {xs:List α} {css:List (List Value)} (h:AtsG G w xs css):css.flatten.length=xs.length*Rep.sz α:=by rw [flat_len2 (AtsG.lens h),h.len]
theorem AtsG.move {G G':Nat→Prop} {w w':World} {xs:List α} {css:List (List Value)} (h:AtsG G w xs css) (hm:∀ b,G b→b<w.heap.size→G' b∧w'.heap[b]?=w.heap[b]?):AtsG G' w' xs css:=AllAt.mono (fun _ _ h=>Rep.move h hm) h
theorem Ext.mv {w w':World} (x:Ext w w') {G:Nat→Prop}:∀ b,G b→b<w.heap.size→G b∧w'.heap[b]?=w.heap[b]?:=fun _ hg hb=>⟨hg,x.block hb⟩
theorem AtsG.ext {G:Nat→Prop} {w w':World} {xs:List α} {css:List (List Value)} (h:AtsG G w xs css) (x:Ext w w'):AtsG G w' xs css:=AtsG.move h x.mv
theorem AtsG.ones {G:Nat→Prop} {w:World} {xs:List α} {css:List (List Value)} (h:AtsG G w xs css):css.flatten.all Value.oneCell'=true:=by
  rw [List.all_eq_true]
  intro v hv
  obtain⟨c,hc,hvc⟩:=List.mem_flatten.1 hv
  exact List.all_eq_true.1 (AllAt.all (fun _ _ h=>Rep.one h) h c hc) v hvc
def SlG (G:Nat→Prop) (w:World) (v:Value) (xs:List α):Prop:=
  ∃ a cap,v=.slice a xs.length cap∧xs.length≤cap∧xs.length≤140737488355328∧(0<xs.length→∃ b off,a=some ⟨b,off,none⟩∧G b∧∃ css,AtsG G w xs css∧At w b off css.flatten)
abbrev Sl (w:World) (v:Value) (xs:List α):Prop:=SlG Tt w v xs
theorem At.lt {w:World} {b off:Nat} {cs:List Value} (h:At w b off cs) (hp:0<cs.length):b<w.heap.size:=by
  obtain⟨v,hv⟩:∃ v,cs[0]?=some v:=⟨_,List.getElem?_eq_getElem hp⟩
  exact World.block_lt_of_cell? _ _ (h 0 v hv)
theorem At.same {w w':World} {b off:Nat} {cs:List Value} (h:At w b off cs) (hb:w'.heap[b]?=w.heap[b]?):At w' b off cs:=fun j v hv=>(World.cell?_of_block hb).trans (h j v hv)
theorem SlG.move {G G':Nat→Prop} {w w':World} {v:Value} {xs:List α} (h:SlG G w v xs) (hm:∀ b,G b→b<w.heap.size→G' b∧w'.heap[b]?=w.heap[b]?):SlG G' w' v xs:=by
  obtain⟨a,cap,hv,hc,hl,hp⟩:=h
  refine⟨a,cap,hv,hc,hl,fun h0=>?_⟩
  obtain⟨b,off,ha,hg,css,h1,h2⟩:=hp h0
  have hlt:=h2.lt (by rw [AtsG.flat h1];exact Nat.mul_pos h0 (Rep.pos))
  exact⟨b,off,ha,(hm b hg hlt).1,css,AtsG.move h1 hm,h2.same (hm b hg hlt).2⟩
theorem SlG.ext {G:Nat→Prop} {w w':World} {v:Value} {xs:List α} (h:SlG G w v xs) (x:Ext w w'):SlG G w' v xs:=h.move x.mv
theorem SlG.any {G:Nat→Prop} {w:World} {v:Value} {xs:List α} (h:SlG G w v xs):Sl w v xs:=h.move fun _ _ _=>⟨trivial,rfl⟩
theorem SlG.old {G:Nat→Prop} {w:World} {v:Value} {xs:List α} (h:SlG G w v xs):SlG (fun b=>b<w.heap.size) w v xs:=h.move fun _ _ h=>⟨h,rfl⟩
theorem SlG.wk {G G':Nat→Prop} {w:World} {v:Value} {xs:List α} (h:SlG G w v xs) (hg:∀ b,G b→G' b):SlG G' w v xs:=h.move fun b h _=>⟨hg b h,rfl⟩
theorem AtsG.any {G:Nat→Prop} {w:World} {xs:List α} {css:List (List Value)} (h:AtsG G w xs css):Ats w xs css:=AtsG.move h fun _ _ _=>⟨trivial,rfl⟩
theorem AtsG.old {G:Nat→Prop} {w:World} {xs:List α} {css:List (List Value)} (h:AtsG G w xs css):AtsG (fun b=>b<w.heap.size) w xs css:=AtsG.move h fun _ _ h=>⟨h,rfl⟩
theorem AtsG.wk {G G':Nat→Prop} {w:World} {xs:List α} {css:List (List Value)} (h:AtsG G w xs css) (hg:∀ b,G b→G' b):AtsG G' w xs css:=AtsG.move h fun b h _=>⟨hg b h,rfl⟩
theorem Kb.mv {w w':World} {g:Option Nat} (k:Kb g w w') {G:Nat→Prop} (hg:∀ b,G b→some b≠g):∀ b,G b→b<w.heap.size→G b∧w'.heap[b]?=w.heap[b]?:=fun b h hb=>⟨h,World.grownBy.block k b hb (hg b h)⟩
def Nb (v:Value):Nat→Prop:=fun b=>some b≠v.ownBlock
theorem Nb.mv {w w':World} {v v':Value} (k:Kb v.ownBlock w w') (h:v'.ownBlock=v.ownBlock∨v'.ownBlock=some w.heap.size):∀ b,Nb v b→b<w.heap.size→Nb v' b∧w'.heap[b]?=w.heap[b]?:=fun b hb hlt=>by
  refine⟨?_,World.grownBy.block k b hlt hb⟩
  unfold Nb at*
  rcases h with h|h
  · rw [h];exact hb
  · rw [h];intro he;cases he;omega
theorem SlG.sl {G:Nat→Prop} {w:World} {v:Value} {xs:List α} (h:SlG G w v xs):∃ a cap,v=.slice a xs.length cap∧xs.length≤cap∧xs.length≤140737488355328∧(0<xs.length→∃ b off,a=some ⟨b,off,none⟩):=by
  obtain⟨a,cap,hv,hc,hm,hp⟩:=h
  refine⟨a,cap,hv,hc,hm,fun h0=>?_⟩
  obtain⟨b,off,ha,_⟩:=hp h0
  exact⟨b,off,ha⟩
theorem SlG.nil {G:Nat→Prop} {w:World}:SlG G w (.slice none 0 0) ([]:List α):=⟨none,0,rfl,Nat.le_refl _,by simp,fun h=>absurd h (by simp)⟩
theorem SlG.ats {G:Nat→Prop} {w:World} {b off n cap:Nat} {xs:List α} (h:SlG G w (.slice (some ⟨b,off,none⟩) n cap) xs) (hp:0<xs.length):G b∧∃ css,AtsG G w xs css∧At w b off css.flatten:=by
  obtain⟨a,cap',hv,hc,hm,hq⟩:=h
  obtain⟨b',off',ha,hg,css,h1,h2⟩:=hq hp
  cases hv
  cases ha
  exact⟨hg,css,h1,h2⟩
theorem At.seg {w:World} {b off:Nat} {cs:List Value} (h:At w b off cs) (k:Nat) {n:Nat}:At w b (off+k) ((cs.drop k).take n):=fun j v hv=>by
  have hj:j<n:=by
    have:=(List.getElem?_eq_some_iff.1 hv).1
    simp at this;omega
  rw [List.getElem?_take_of_lt hj,List.getElem?_drop] at hv
  rw [Nat.add_assoc]
  exact h _ _ hv
theorem SlG.css {G:Nat→Prop} {w:World} {a:Option Addr} {n cap:Nat} {xs:List α} (h:SlG G w (.slice a n cap) xs):∃ css,AtsG G w xs css∧(0<css.flatten.length→∃ b so,a=some ⟨b,so,none⟩∧G b∧At w b so css.flatten):=by
  by_cases h0:0<xs.length
  · obtain⟨a',cap',hv,_,_,hp⟩:=h
    cases hv
    obtain⟨b,off,rfl,hg,css,h1,h2⟩:=hp h0
    exact⟨css,h1,fun _=>⟨b,off,rfl,hg,h2⟩⟩
  · obtain rfl:xs=[]:=List.length_eq_zero_iff.1 (by omega)
    exact⟨[],trivial,fun h=>absurd h (by simp)⟩
theorem SlG.elem {G:Nat→Prop} {w:World} {b off n cap:Nat} {xs:List α} (h:SlG G w (.slice (some ⟨b,off,none⟩) n cap) xs) {i:Nat} {x:α} (hx:xs[i]?=some x):∃ cs,Rep.at_ G w x cs∧At w b (off+i*Rep.sz α) cs:=by
  have hi:i<xs.length:=(List.getElem?_eq_some_iff.1 hx).1
  obtain⟨_,css,h1,h2⟩:=h.ats (by omega)
  obtain⟨c,hc,hr⟩:=AllAt.get h1 hx
  refine⟨c,hr,?_⟩
  have hs:=h2.seg (i*Rep.sz α) (n:=Rep.sz α)
  have he:(css.flatten.drop (i*Rep.sz α)).take (Rep.sz α)=c:=by
    rw [← flat_drop2 i (AtsG.lens h1)]
    obtain⟨hl,rfl⟩:=List.getElem?_eq_some_iff.1 hc
    rw [List.drop_eq_getElem_cons hl,List.flatten_cons,List.take_append_of_le_length (by rw [Rep.len hr];exact Nat.le_refl _),← Rep.len hr,List.take_length]
  rw [he] at hs
  exact hs
theorem own_SlG {G:Nat→Prop} {w:World} {B:Nat} {e:TypeId} {v:Value} {n:Nat} {xs:List α} {css:List (List Value)} (h:w.ownsRow B e (Rep.sz α) v n css.flatten) (hr:AtsG G w xs css) (hg:∀ b,B≤b→G b) (hn:n=xs.length) (hm:xs.length≤140737488355328):SlG G w v xs:=by
  subst hn
  rcases own_read h with⟨rfl,h0,_⟩|⟨b,cap,rfl,hc,hb,_,hat⟩
  · exact⟨none,0,by rw [h0],by omega,hm,fun h1=>by omega⟩
  · exact⟨_,cap,rfl,hc,hm,fun _=>⟨b,0,rfl,hg b hb,css,hr,hat⟩⟩
theorem own_Sl {w:World} {B:Nat} {e:TypeId} {v:Value} {n:Nat} {xs:List α} {css:List (List Value)} (h:w.ownsRow B e (Rep.sz α) v n css.flatten) (hr:Ats w xs css) (hn:n=xs.length) (hm:xs.length≤140737488355328):Sl w v xs:=own_SlG h hr (fun _ _=>trivial) hn hm
theorem row_SlG {G:Nat→Prop} {w:World} {b cap:Nat} {e:TypeId} {xs:List α} {css:List (List Value)} (h:Row w b e css.flatten) (hr:AtsG G w xs css) (hg:G b) (hc:xs.length≤cap) (hm:xs.length≤140737488355328):SlG G w (.slice (some ⟨b,0,none⟩) xs.length cap) xs:=
  ⟨_,cap,rfl,hc,hm,fun _=>⟨b,0,rfl,hg,css,hr,h.at⟩⟩
theorem row_Sl {w:World} {b cap:Nat} {e:TypeId} {xs:List α} {css:List (List Value)} (h:Row w b e css.flatten) (hr:Ats w xs css) (hc:xs.length≤cap) (hm:xs.length≤140737488355328):Sl w (.slice (some ⟨b,0,none⟩) xs.length cap) xs:=row_SlG h hr trivial hc hm
theorem SlG.take {G:Nat→Prop} {w:World} {a:Option Addr} {n cap k:Nat} {xs:List α} (h:SlG G w (.slice a n cap) xs) (hk:k≤xs.length):SlG G w (.slice a k cap) (xs.take k):=by
  obtain⟨a',cap',hv,hc,hm,hp⟩:=h
  cases hv
  have hl:(xs.take k).length=k:=by simp;omega
  refine⟨a,cap,by rw [hl],by omega,by omega,fun h0=>?_⟩
  obtain⟨b,off,ha,hg,css,h1,h2⟩:=hp (by omega)
  refine⟨b,off,ha,hg,css.take k,AllAt.take k h1,?_⟩
  rw [flat_take2 k (AtsG.lens h1)]
  have:=h2.seg 0 (n:=k*Rep.sz α)
  simpa using this
theorem SlG.drop {G:Nat→Prop} {w:World} {a:Option Addr} {n cap k:Nat} {xs:List α} (h:SlG G w (.slice a n cap) xs) (hk:k≤xs.length):SlG G w (.slice (if cap=k then a else a.map (·.add (k*Rep.sz α))) (n-k) (cap-k)) (xs.drop k):=by
  obtain⟨a',cap',hv,hc,hm,hp⟩:=h
  cases hv
  have hl:(xs.drop k).length=xs.length-k:=by simp
  refine⟨_,cap-k,by rw [hl],by omega,by omega,fun h0=>?_⟩
  obtain⟨b,off,rfl,hg,css,h1,h2⟩:=hp (by omega)
  rw [if_neg (by omega),Option.map_some,addr_add]
  refine⟨b,_,rfl,hg,css.drop k,AllAt.drop k h1,?_⟩
  rw [flat_drop2 k (AtsG.lens h1)]
  have:=h2.seg (k*Rep.sz α) (n:=css.flatten.length)
  rw [List.take_of_length_le (by simp)] at this
  exact this
instance:Rep Int where
  sz:=1
  pos:=by decide
  at_ _ _ z cs:=cs=[int z]
  len h:=by rw [h];rfl
  one h:=by rw [h];rfl
  move h _:=h
structure Txt where
  l:List UInt8
instance:DecidableEq Txt:=fun a b=>by
  cases a with|mk x=>cases b with|mk y=>
  exact decidable_of_iff (x=y) (by simp)
instance:Rep Txt where
  sz:=1
  pos:=by decide
  at_ _ _ t cs:=cs=[str t.l]
  len h:=by rw [h];rfl
  one h:=by rw [h];rfl
  move h _:=h
theorem ints_flat (ids:List Int):(ids.map fun z=>[int z]).flatten=ids.map int:=by induction ids with|nil=>rfl|cons z r ih=>simp [ih]
theorem ints_ats {G:Nat→Prop} (w:World):∀ ids:List Int,AtsG G w ids (ids.map fun z=>[int z])
  | []=>trivial
  | z::r=>⟨rfl,ints_ats w r⟩
theorem ats_ints {G:Nat→Prop} {w:World}:∀ {ids:List Int} {css:List (List Value)},AtsG G w ids css→css=ids.map fun z=>[int z]
  | [],[],_=>rfl
  | z::r,c::cs,h=>by rw [List.map_cons,← ats_ints (ids:=r) (css:=cs) h.2,← show c=[int z] from h.1]
  | [],_::_,h=>h.elim
  | _::_,[],h=>h.elim
theorem ints_one (xs:List Int):(xs.map int).all Value.oneCell'=true:=by rw [← ints_flat];exact AtsG.ones (ints_ats (G:=Tt) (Classical.choice ⟨default⟩) xs)
def Bd {H:Type} (P:Program) (t:TypeId) (d:DataW H):Prop:=(d.weights P t).all (·≤reachBytes)=true
class Opens (P:Program) (t:TypeId) (α:Type) [Rep α]:Prop where
  op:∀ {H:Type} {enc:TypeId × Value→H} {w:World} {sp:Nat→Bool} {held:Bool} {fuel:Nat} {cs:List Value} {x:DataW H × List MemPlace},DataW.trod enc P w 0 sp held fuel t cs=some x→Bd P t x.1→∃ a:α,Rep.at_ Tt w a cs
theorem cells_at {w:World} {b off n:Nat} {cs:List Value} (h:w.cells? 0 ⟨b,off,none⟩ n=some cs):cs.length=n∧At w b off cs:=by
  unfold World.cells? at h
  rw [if_pos (Nat.zero_le _)] at h
  have hl:=mapM_some_length h
  simp at hl
  refine⟨hl,fun j v hv=>?_⟩
  have hj:=(List.getElem?_eq_some_iff.1 hv).1
  have hr:(List.range n)[j]?=some j:=List.getElem?_range (by omega)
  have:=mapM_some_get h j j hr
  rw [addr_add] at this
  rw [this,hv]
theorem At.join {w:World} {b off:Nat} {xs ys:List Value} (h1:At w b off xs) (h2:At w b (off+xs.length) ys):At w b off (xs++ys):=fun j v hv=>by
  by_cases hj:j<xs.length
  · rw [List.getElem?_append_left hj] at hv;exact h1 j v hv
  · rw [List.getElem?_append_right (by omega)] at hv
    have:=h2 _ _ hv
    rwa [show off+xs.length+(j-xs.length)=off+j by omega] at this
theorem cell_spot {w:World} {a:Addr} {v:Value} (h:w.cell? a=some v):a=⟨a.block,a.off,none⟩:=by
  unfold World.cell? at h
  cases a with|mk b off s=>
  split at h
  · cases s with
    | none=>rfl
    | some s=>simp at h
  · cases h
theorem weightsAll_mem {H:Type} {P:Program} {e:TypeId} {q:Nat→Bool}:∀ {ds:List (DataW H)},(DataW.weightsAll P e ds).all q=true→∀ d∈ds,(d.weights P e).all q=true
  | [],_,d,hd=>by simp at hd
  | x::r,h,d,hd=>by
    simp only [DataW.weightsAll,List.all_append,Bool.and_eq_true] at h
    rcases List.mem_cons.1 hd with rfl|hd
    · exact h.1
    · exact weightsAll_mem h.2 d hd
theorem open_sl {H:Type} {enc:TypeId × Value→H} {P:Program} {w:World} {sp:Nat→Bool} {held:Bool} {fuel:Nat} {t e:TypeId} {cs:List Value} {x:DataW H × List MemPlace} [hO:Opens P e α]
    (ht:P.underlying t=some (.slice e)) (hc:P.cellsOf e=Rep.sz α) (hz:0<Rep.sz α) (hb:1≤P.bytesOf e) (h:DataW.trod enc P w 0 sp held fuel t cs=some x) (hbd:Bd P t x.1):∃ v,cs=[v]∧∃ xs:List α,Sl w v xs:=by
  rcases DataW.trod_slice ht h with⟨rfl,_⟩|⟨a,len,cap,elems,rest,n,_,rfl,rfl,_,hl,_,hlen,hel,_⟩
  · exact⟨_,rfl,[],SlG.nil⟩
  refine⟨_,rfl,?_⟩
  simp only [Bd,DataW.weights,ht,List.all_cons,List.all_append,Bool.and_eq_true,decide_eq_true_eq,List.length_map] at hbd
  obtain⟨hw1,hw2,_⟩:=hbd
  have hlm:len≤140737488355328:=by
    have h1:=reachBytes_lt
    have h2:elems.length*1≤(elems.length+rest.length)*P.bytesOf e:=Nat.mul_le_mul (by omega) hb
    omega
  have key:∀ i,i<len→∃ c x,w.cells? 0 (a.add (i*P.cellsOf e)) (P.cellsOf e)=some c∧Rep.at_ Tt w (x:α) c:=fun i hi=>by
    have h1:=hel i hi
    obtain⟨y,hy⟩:∃ y,elems[i]?=some y:=⟨_,List.getElem?_eq_getElem (by omega)⟩
    rw [hy,Option.bind_eq_some_iff] at h1
    obtain⟨c,hc1,hc2⟩:=h1
    obtain⟨x,hx⟩:=hO.op hc2 (weightsAll_mem hw2 y.1 (List.mem_map.2 ⟨y,List.mem_of_getElem? hy,rfl⟩))
    exact⟨c,x,hc1,hx⟩
  by_cases h0:len=0
  · subst h0
    exact⟨[],some a,cap,rfl,by simp,by simp,fun h=>absurd h (by simp)⟩
  have hsp:a=⟨a.block,a.off,none⟩:=by
    obtain⟨c,x,hc1,_⟩:=key 0 (by omega)
    unfold World.cells? at hc1
    rw [if_pos (Nat.zero_le _)] at hc1
    have hlc:=mapM_some_length hc1
    rw [List.length_range,hc] at hlc
    obtain⟨v,hv⟩:∃ v,c[0]?=some v:=⟨_,List.getElem?_eq_getElem (by omega)⟩
    have:=mapM_some_get hc1 0 0 (List.getElem?_range (by omega))
    rw [hv] at this
    simp only [Nat.zero_mul,show ∀ a:Addr,a.add 0=a from fun a=>by simp [Addr.add]] at this
    exact cell_spot this
  have all:∀ k,k≤len→∃(xs:List α) (css:List (List Value)),xs.length=k∧Ats w xs css∧At w a.block a.off css.flatten:=by
    intro k
    induction k with
    | zero=>exact fun _=>⟨[],[],rfl,trivial,fun j v hv=>by simp at hv⟩
    | succ k ih=>
      intro hk
      obtain⟨xs,css,h1,h2,h3⟩:=ih (by omega)
      obtain⟨c,x,hc1,hx⟩:=key k (by omega)
      rw [hsp,addr_add] at hc1
      obtain⟨_,h4⟩:=cells_at hc1
      refine⟨xs++[x],css++[c],by simp [h1],AllAt.append h2 (AllAt.one hx),?_⟩
      rw [List.flatten_append]
      refine At.join h3 ?_
      rw [AtsG.flat h2,h1,← hc]
      simpa using h4
  obtain⟨xs,css,h1,h2,h3⟩:=all len (Nat.le_refl _)
  exact⟨xs,some a,cap,by rw [h1],by omega,by omega,fun _=>⟨a.block,a.off,by rw [← hsp],trivial,css,h2,h3⟩⟩
theorem open_slT {H:Type} {enc:TypeId × Value→H} {P:Program} {w:World} {sp:Nat→Bool} {held:Bool} {t e:TypeId} {v:Value} {d:DataW H} {ps:List MemPlace} [hO:Opens P e α]
    (ht:P.underlying t=some (.slice e)) (hc:P.cellsOf e=Rep.sz α) (hz:0<Rep.sz α) (hb:1≤P.bytesOf e) (h:DataW.Trod enc P w 0 sp held t v d ps) (hbd:Bd P t d):∃ v',v.cells.toList=[v']∧∃ xs:List α,Sl w v' xs:=by
  obtain⟨fuel,h⟩:=h
  exact open_sl ht hc hz hb h hbd
section
variable {P : Program} {n : Nat} {Q : Post} {L : List (Nat × Value)} {w : World} {ops : List Oper} {o : Oper} {rest : List Oper}
theorem EL_storeP {t:TypeId} {x y:Operand} {v z:Value} {size bytes:Nat} {b off:Nat} {e:TypeId} {cur cs:List Value} [TI P t z size bytes] {w0:World} (hr:Row w b e cur) (x0:Ext w0 w) (hb:w0.heap.size≤b)
    (hg:gst ops L o=some true) (hd:o.dst=none) (ho:o.op=.store t x y)
    (hx:ev L x=some (.pointer (some ⟨b,off,none⟩))) (hy:ev L y=some v) (hc:v.cells.toList=cs) (hs:Nat.beq cs.length size=true) (h1:cs.all Value.oneCell'=true) (hl:off+cs.length≤cur.length)
    (k:∀ w',Row w' b e (cur.take off++cs++cur.drop (off+cs.length))→Ext w0 w'→Kb (some b) w w'→EL P n ops Q rest L w'):EL P n ops Q (o::rest) L w:=by
  have e1:=Nat.eq_of_beq_eq_true hs
  have hsz:v.cells.size=size:=by rw [← e1,← hc,Array.length_toList]
  refine EL_store hg hd ho hx hy hsz (by rw [hc];exact h1) hr (by omega) fun w' h2 h3 _=>k w' ?_ (h3.ext x0 fun b' hb'=>by cases hb';exact hb) h3
  rw [hc,← e1] at h2
  exact h2
theorem append_owned_none {P:Program} {w:World} {base:Nat} {t ty e:TypeId} {i:TypeInfo} {size c:Nat} (ht:P.underlying t=some (.slice e)) (hi:P.info? e=some i)
    {v:Value} {n:Nat} {xs:List Value} (hown:w.ownsRow base e size v n xs) :
    (Builtin.append_ #[t,t] ty #[v,.slice none 0 c]).run P w=.ok v w:=by
  rcases hown.2 with⟨rfl,rfl⟩|⟨g,cap,cur,rfl,_,_,hnc,_⟩
  · simp [Builtin.append_,run_underlying ht,sizeOf,typeInfo,hi,Builtin.lenOf,Builtin.firstCells]
  · simp [Builtin.append_,run_underlying ht,sizeOf,typeInfo,hi,Builtin.lenOf,Builtin.firstCells,hnc,storeCells]
theorem EL_appO {d : Nat} {t e : TypeId} {s x : Operand} {z : Value} {size bytes : Nat} [ut : UT P t (.slice e)] [ti : TI P e z size bytes] {v : Value} {w0 : World} {m : Nat} {xs : List Value} {a : Option Addr} {q c : Nat} {news : List Value}
    (hown:w.ownsRow w0.heap.size e size v m xs) (x0:Ext w0 w) (hnews:0<q→∃ b off,a=some ⟨b,off,none⟩∧At w b off news) (hg:gst ops L o=some true) (hd:odst n o.dst=some d) (ho:o.op=.call { callee:=.builtin .append,args:=#[s,x],argTypes:=#[t,t] })
    (hs:ev L s=some v) (hx:ev L x=some (.slice a q c)) (hl:news.length=q*size)
    (h1:news.all Value.oneCell'=true) (hz:z.cells.size=size) (hsz:Nat.ble 1 size=true) (hmax:(m+q)*bytes≤140737488355328) (hmax':m+q≤9223372036854775807)
    (k:∀ v' w',w'.ownsRow w0.heap.size e size v' (m+q) (xs++news)→Ext w0 w'→Kb v.ownBlock w w'→(v'.ownBlock=v.ownBlock∨v'.ownBlock=some w.heap.size)→EL P n ops Q rest ((d,v')::L) w'):EL P n ops Q (o::rest) L w:=by
  obtain⟨i0,hi,hz0,hz1,hz2⟩:=info_parts ti.i
  cases a with
  | none=>
    have hq:q=0:=by
      by_cases h0:0<q
      · obtain⟨_,_,e1,_⟩:=hnews h0;cases e1
      · omega
    subst hq
    obtain rfl:news=[]:=List.length_eq_zero_iff.1 (by rw [hl,Nat.zero_mul])
    have hr:=append_owned_none (P:=P) (w:=w) (ty:=o.type) (c:=c) ut.u hi hown
    refine EL_valw (w':=w) hg hd (fun ρ ha=>?_) (k v w (by simpa using hown) x0 (World.grownBy.refl _ _) (.inl rfl))
    have a1:=ha.ev (by rw [ho];simp [Op.operands,Call.operands]) hs
    have a2:=ha.ev (by rw [ho];simp [Op.operands,Call.operands]) hx
    simp only [execOp,ho,resolve,invoke,builtin,Sem.run_bind,Sem.run_pure,Result.andThen_ok,List.map_toArray,List.map_cons,List.map_nil,a1,a2,hr]
  | some ad=>
    have hat:∀ j u,news[j]?=some u→w.cell? (ad.add j)=some u:=by
      by_cases h0:0<q
      · obtain⟨b,off,e1,hat⟩:=hnews h0
        cases e1
        exact fun j u hu=>by rw [addr_add];exact hat j u hu
      · obtain rfl:news=[]:=List.length_eq_zero_iff.1 (by rw [hl,show q=0 by omega,Nat.zero_mul])
        exact fun j u hu=>by simp at hu
    obtain⟨v',w',hr,h2,h3,_,h4⟩:=run_append_own_at (P:=P) (w:=w) (ty:=o.type) w0.heap.size t e i0 z size bytes ut.u hi hz0 hz1 hz2 hz (Nat.le_of_ble_eq_true hsz) v m xs hown ad q c news hl hat
      (fun u hu=>List.all_eq_true.1 h1 u hu) (by unfold maxLen;omega) hmax x0.size
    refine EL_valw hg hd (fun ρ ha=>?_) (k v' w' h2 (own_anchor hown x0 h3) h3 h4)
    have a1:=ha.ev (by rw [ho];simp [Op.operands,Call.operands]) hs
    have a2:=ha.ev (by rw [ho];simp [Op.operands,Call.operands]) hx
    simp only [execOp,ho,resolve,invoke,builtin,Sem.run_bind,Sem.run_pure,Result.andThen_ok,List.map_toArray,List.map_cons,List.map_nil,a1,a2,hr]
end
end Go.En
namespace Go.En
open Go.RowKit
section
variable {P : Program} {n : Nat} {Q : Post} {ops : List Oper}
theorem any_J (J:(Nat→Prop)→Act→World→Prop) (hlow:chkLow ops=true) (hgd:∀ o∈ops,o.guard=none)
    (hstep:∀ C C' a w i o,J C a w→Clo ops C→¬ C i→ops[i]?=some o→(∀ e∈o.after,Region.binds .any e=true→C e.on)→(∀ j,C' j↔j=i∨C j)→∀ K Q',(∀ v w',J C' (a.put o.dst v) w'→K (a.put o.dst v) w')→o.wp P a w K Q')
    (hend:∀ C a w,(∀ j,j<ops.length→C j)→J C a w→Q .normal a w) :
    ∀(fuel:Nat) (listed:Array Bool) (a:Act) (w:World),listed.size=ops.length→Clo ops (LsD listed)→J (LsD listed) a w→unl ops.length listed=fuel→wpAny P .any ops.toArray Q fuel listed a w:=by
  have hleast:∀(listed:Array Bool),listed.size=ops.length→(¬ ∀ j,j<ops.length→LsD listed j)→∃ i,i<ops.length∧i∈Region.ready .any ops.toArray listed:=by
    intro listed hl hn
    have:∃ i,i<ops.length∧¬ LsD listed i:=by
      apply Classical.byContradiction
      intro h
      exact hn fun j hj=>Classical.byContradiction fun hj'=>h ⟨j,hj,hj'⟩
    obtain⟨i,h1,h2,h3⟩:=least_not (fun i=>by unfold LsD;infer_instance) ops.length this
    exact⟨i,h1,(ready_mem hl).2 ⟨h2,_,List.getElem?_eq_getElem h1,fun e he hb=>h3 _ (chkLow_ok hlow (List.getElem?_eq_getElem h1) he hb)⟩⟩
  intro fuel
  induction fuel with
  | zero=>
    intro listed a w hl hc hj hu
    have hall:∀ j,j<ops.length→LsD listed j:=by
      intro j hj
      apply Classical.byContradiction
      intro hn
      have:=unl_set (N:=ops.length) hj hl hn
      omega
    refine⟨?_,hend _ a w hall hj⟩
    rw [List.eq_nil_iff_forall_not_mem]
    intro i hi
    obtain⟨h1,o,ho,_⟩:=(ready_mem hl).1 hi
    exact h1 (hall i (List.getElem?_eq_some_iff.1 ho).1)
  | succ fuel ih=>
    intro listed a w hl hc hj hu
    refine⟨fun h0=>?_,fun i hi=>?_⟩
    · refine hend _ a w (Classical.byContradiction fun hn=>?_) hj
      obtain⟨i,_,hi⟩:=hleast listed hl hn
      rw [h0] at hi;cases hi
    obtain⟨hun,o,ho,hed⟩:=(ready_mem hl).1 hi
    have hilt:=(List.getElem?_eq_some_iff.1 ho).1
    have hoa:ops.toArray[i]?=some o:=by simpa using ho
    have hset:∀ j,LsD (listed.setIfInBounds i true) j↔(j=i∨LsD listed j):=fun j=>by
      unfold LsD
      by_cases hij:i=j
      · subst hij;simp [hl,hilt]
      · rw [getD_set_ne false hij];constructor
        · exact .inr
        · rintro(h|h)
          · exact absurd h.symm hij
          · exact h
    unfold wpOp
    simp only [hoa]
    have hw:Region.wanted o (yielded ops.toArray a.tmps)=true:=by unfold Region.wanted;rw [hgd o (List.mem_of_getElem? ho)]
    rw [if_pos hw]
    refine .inl (hstep _ _ a w i o hj hc hun ho (fun e he hb=>hed e he hb) hset _ _ fun v w' hv=>?_)
    refine ih _ _ _ (by simpa using hl) ?_ hv ?_
    · intro k q hq hk e he hb
      rw [hset] at hk ⊢
      rcases hk with rfl|hk
      · rw [ho] at hq;cases hq;exact .inr (hed e he hb)
      · exact .inr (hc k q hq hk e he hb)
    · have:=unl_set (N:=ops.length) hilt hl hun
      omega
theorem ev_of {L:List (Nat × Value)} {a:Act} {x:Operand} {v:Value} (h:∀ s u,x=.tmp s→lk L s=some u→a.tmps[s]?=some u) (hx:ev L x=some v):a.eval x=v:=by
  cases x with
  | tmp t=>simp only [En.ev] at hx;have:=h t v rfl hx;simp [Act.eval,Array.getD_eq_getD_getElem?,this]
  | const u=>simpa [En.ev,Act.eval] using hx
  | global g=>simpa [En.ev,Act.eval] using hx
  | func f=>simpa [En.ev,Act.eval] using hx
theorem lk_get {L:List (Nat × Value)} {s:Nat} {v:Value} (h:lk L s=some v):∃ j:Nat,L[j]?=some (s,v):=by
  induction L with
  | nil=>simp [lk] at h
  | cons x r ih=>
    obtain⟨k,u⟩:=x
    simp only [lk] at h
    cases hb:Nat.beq k s with
    | true=>
      rw [hb] at h;simp at h
      have:=Nat.eq_of_beq_eq_true hb
      subst this;subst h
      exact⟨0,rfl⟩
    | false=>
      rw [hb] at h;simp at h
      obtain⟨j,hj⟩:=ih h
      exact⟨j+1,by simpa using hj⟩
def VSeq (P:Program) (L:List (Nat × Value)) (w0:World):List Oper→List (Nat × Value)→Prop
  | o::r,x::xs=>(∀ w,Ext w0 w→Val P L w o x.2)∧VSeq P L w0 r xs
  | _,[]=>True
  | [],_::_=>False
theorem VSeq.get {L:List (Nat × Value)} {w0:World}:∀ {l:List Oper} {xs:List (Nat × Value)},VSeq P L w0 l xs→∀ {i:Nat} {x:Nat × Value} {o:Oper},xs[i]?=some x→l[i]?=some o→∀ w,Ext w0 w→Val P L w o x.2
  | _::_,_::_,h,0,_,_,hx,ho=>by simp at hx ho;subst hx;subst ho;exact h.1
  | _::_,_::_,h,i+1,_,_,hx,ho=>VSeq.get h.2 (by simpa using hx) (by simpa using ho)
  | _,[],_,_,_,_,hx,_=>by simp at hx
  | [],_::_,h,_,_,_,_,_=>h.elim
structure JP (n:Nat) (L0 Lr:List (Nat × Value)) (w0:World) (m p q:Nat) (t:TypeId) (Zc X Y:List Value) (C:Nat→Prop) (a:Act) (w:World):Prop where
  size:a.tmps.size=n
  nod:a.defers=[]
  ext:Ext w0 w
  base:∀ s v,lk L0 s=some v→a.tmps[s]?=some v
  reads:∀ j s v,C j→Lr[j]?=some (s,v)→a.tmps[s]?=some v
  hp:C m→∃ b,a.tmps[p]?=some (.pointer (some ⟨b,0,none⟩))∧w0.heap.size≤b∧(C (m+2)→Row w b t X)∧(¬ C (m+2)→Row w b t Zc)
  hq:C (m+1)→∃ b,a.tmps[q]?=some (.pointer (some ⟨b,0,none⟩))∧w0.heap.size≤b∧(C (m+3)→Row w b t Y)∧(¬ C (m+3)→Row w b t Zc)
  ne:C m→C (m+1)→a.tmps[p]?≠a.tmps[q]?
theorem put_ne {a:Act} {d:Option Tmp} {v:Value} {s:Nat} (h:d≠some s):(a.put d v).tmps[s]?=a.tmps[s]?:=by
  cases d with
  | none=>rfl
  | some d=>exact Array.getElem?_setIfInBounds_ne (fun e=>h (by rw [e]))
theorem put_eq {a:Act} {d:Nat} {v:Value} (h:d<a.tmps.size):(a.put (some d) v).tmps[d]?=some v:=by
  simp only [Act.put];exact Array.getElem?_setIfInBounds_self_of_lt h
theorem put_size {a:Act} {d:Option Tmp} {v:Value}:(a.put d v).tmps.size=a.tmps.size:=by cases d <;> simp [Act.put]
theorem put_nod {a:Act} {d:Option Tmp} {v:Value}:(a.put d v).defers=a.defers:=by cases d <;> rfl
theorem run_alloc {t:TypeId} {z:Value} {size bytes:Nat} [TI P t z size bytes] {o:Oper} (ho:o.op=.alloc t) (ρ:Operand→Value) (w:World):(execOp ρ o).run P w=.ok (.value (.pointer (some ⟨w.heap.size,0,none⟩))) (w.alloc (.cells z.cells t)):=by
  obtain⟨i,hi,hz,_⟩:=run_ti (P:=P) (t:=t) w
  simp [execOp,ho,Instr.alloc,newVar,newRow,newObj,zeroValue,go_sem,hi,hz]
  rfl
theorem run_storeA {t:TypeId} {z:Value} {size bytes:Nat} [TI P t z size bytes] {o:Oper} {x y:Operand} {b:Nat} {cs X:List Value} (ho:o.op=.store t x y) {ρ:Operand→Value} {w:World} (hx:ρ x=.pointer (some ⟨b,0,none⟩)) (hy:ρ y=.agg X.toArray)
    (hX:X.length=size) (h1:X.all Value.oneCell'=true) (hr:Row w b t cs) (hl:cs.length=size):∃ w',(execOp ρ o).run P w=.ok .skip w'∧Row w' b t X∧Kb (some b) w w'∧w'.heap.size=w.heap.size:=by
  have h:=run_storeCells_at (P:=P) b 0 t X 0 cs.toArray w hr (by simp [hX,hl]) (fun u hu=>List.all_eq_true.1 h1 u hu)
  simp only [Nat.add_zero,Nat.zero_add] at h
  have h4:=run_sizeOf (P:=P) (t:=t) w
  refine⟨w.setRow b (cs.take 0++X++cs.drop X.length).toArray,?_,?_,⟨rfl,rfl,rfl,by simp,fun k hk hne=>setRow_other w b k _ (fun e=>hne (by rw [e]))⟩,by simp⟩
  · simp only [execOp,ho,hx,hy,Instr.storeAt,Instr.sureAddr,storeVar,Sem.run_bind,Sem.run_pure,Result.andThen_ok,h4,Value.cells]
    rw [if_neg (by simp [hX])]
    simp only [h,Result.andThen_ok]
  · have e:(cs.take 0++X++cs.drop X.length)=X:=by rw [List.take_zero,List.nil_append,List.drop_eq_nil_of_le (by omega),List.append_nil]
    rw [e]
    exact setRow_heap w b cs.toArray X.toArray t (0,0) hr
end
end Go.En
namespace Go.En
open Go.RowKit
theorem bd_each {H:Type} {P:Program} {ts:List TypeId} {ds:List (DataW H)} (h:(DataW.weightsEach P ts ds).all (·≤reachBytes)=true) {j:Nat} {t:TypeId} {d:DataW H} (ht:ts[j]?=some t) (hd:ds[j]?=some d):Bd P t d:=
  List.all_eq_true.2 fun n hn=>List.all_eq_true.1 h n (DataW.weights_mem_each ht hd n hn)
theorem open_struct {H:Type} {enc:TypeId × Value→H} {P:Program} {w:World} {sp:Nat→Bool} {held:Bool} {fuel:Nat} {t:TypeId} {fs:Array Field} {tos:List (TypeId × Nat)} {cs:List Value} {x:DataW H × List MemPlace}
    (hu:P.underlying t=some (.struct fs)) (hfs:(fs.toList.map fun f=>(f.type,f.offset))=tos) (h:DataW.trod enc P w 0 sp held fuel t cs=some x) (hbd:Bd P t x.1) :
    cs.length=P.cellsOf t∧∀(i:Nat) (ty off:Nat),tos[i]?=some (ty,off)→∃ y n,DataW.trod enc P w 0 sp held n ty ((cs.drop off).take (P.cellsOf ty))=some y∧Bd P ty y.1:=by
  obtain⟨xs,n,_,rfl,hl,hlen,hf⟩:=DataW.trod_struct hu h
  refine⟨hl,fun i ty off hi=>?_⟩
  subst hfs
  rw [List.getElem?_map,Array.getElem?_toList] at hi
  cases hfi:fs[i]? with
  | none=>rw [hfi] at hi;cases hi
  | some f=>
    rw [hfi] at hi
    simp only [Option.map_some,Option.some.injEq,Prod.mk.injEq] at hi
    obtain⟨rfl,rfl⟩:=hi
    have hlt:=(Array.getElem?_eq_some_iff.1 hfi).1
    obtain⟨y,hy⟩:∃ y,xs[i]?=some y:=⟨_,List.getElem?_eq_getElem (by omega)⟩
    refine⟨y,n,by rw [hf i f hfi,hy],?_⟩
    simp only [Bd,DataW.weights,hu] at hbd
    exact bd_each hbd (j:=i) (by rw [List.getElem?_map,Array.getElem?_toList,hfi];rfl) (by rw [List.getElem?_map,hy];rfl)
theorem str_of (s:ByteArray):Value.string s=str s.data.toList:=by cases s;simp [str]
end Go.En
namespace Go.En
open Go.RowKit
section
variable {P : Program} {n : Nat} {Q : Post} {ops : List Oper}
theorem E_dm {id:Nat} {L:List (Nat × Value)} {w:World} (m:Nat) (hm:P.follows .mixedOrders=true) (hc:chk ops m=true) (hdm:domb n L=true) (h:RQ P n ops w Q (ops.take m) (ops.drop m) (vG L)):E P n (.region id ops.toArray true) Q L w:=by
  refine E_dr m hm hc hdm ?_
  unfold RQ at h
  have hml:m≤ops.length:=by
    simp only [chk,Bool.and_eq_true] at hc
    exact Nat.le_of_ble_eq_true hc.1.1.1.1
  rw [List.take_append_drop,List.length_take,Nat.min_eq_left hml] at h
  exact h
theorem RQ_alloc {w0:World} {o:Oper} {rest tl:List Oper} {G:List (Nat × Ent)} {d:Nat} {t:TypeId} {z:Value} {size bytes:Nat} [TI P t z size bytes] (hg:ggst ops G o=some true) (hd:odst n o.dst=some d) (ho:o.op=.alloc t)
    (k:RQ P n ops w0 Q rest tl ((d,.r (fun u w=>∃ b,u=.pointer (some ⟨b,0,none⟩)∧w0.heap.size≤b∧Row w b t z.cells.toList))::G)):RQ P n ops w0 Q (o::rest) tl G:=
  RW_op (T:=.r (fun u w=>∃ b,u=.pointer (some ⟨b,0,none⟩)∧w0.heap.size≤b∧Row w b t z.cells.toList)) hg (odst_eq hd).2 (fun _ _ _ _ xe h=>by obtain⟨b,e,h1,h2⟩:=h;exact⟨b,e,h1,h2.ext xe⟩)
    (fun w _ hw _ ρ _=>.inl ⟨_,_,run_alloc ho ρ w,⟨w.heap.size,rfl,hw.size,row_alloc _ _ _⟩,ext_alloc _ _⟩) (by rw [(odst_eq hd).1];exact k)
end
theorem val_bool_ne2 {P:Program} {L:List (Nat × Value)} {w:World} {o:Oper} {t u:TypeId} {x y:Operand} {a b:Bool} [ut:UT P t .bool] (ho:o.op=.binOp .neq t x y u) (hx:ev L x=some (.bool a)) (hy:ev L y=some (.bool b)):Val P L w o (.bool (!(a==b))):=fun ρ ha=>by
  have h1:=ha.ev (by rw [ho];simp [Op.operands]) hx
  have h2:=ha.ev (by rw [ho];simp [Op.operands]) hy
  have h3:=run_ut (t:=t) (P:=P) w
  have h4:=run_neq_bool (P:=P) w t a b ut.u
  simp [execOp,ho,h1,h2,go_sem,h3,h4]
end Go.En
namespace Go.En
open Go.RowKit
section
variable {P : Program} {n : Nat} {Q : Post} {ops : List Oper}
theorem run_lit {L : List (Nat × Value)} {w : World} {o : Oper} {t e : TypeId} {z : Value} {size bytes len : Nat} {ps : List (Nat × Operand)} {vs cs : List Value} [UT P t (.slice e)] [TI P e z size bytes] (ho : o.op = .buildSlice t len ps.toArray)
    (hps:evs L 0 ps=some vs) (hv:vs.all (fun v=>Nat.beq v.cells.size size)=true) (hl:Nat.beq vs.length len=true) (hsm:Nat.ble (len*size) 16777216=true) (hcs:(vs.map fun v=>v.cells.toList).flatten=cs) {ρ:Operand→Value} (ha:Agree L o ρ) :
    (execOp ρ o).run P w=.ok (.value (.slice (some ⟨w.heap.size,0,none⟩) len len)) (w.alloc (.cells cs.toArray e)):=by
  have hps':=evs_eq L ps 0 vs hps
  have hp:(ps.map fun p=>(p.1,ρ p.2))=(vs.zipIdx).map fun p=>(p.2,p.1):=by
    have hx:∀ p∈ps,∀ v,ev L p.2=some v→ρ p.2=v:=fun p hm v hv=>ha.ev (by rw [ho];simp [Op.operands];exact⟨p.1,hm⟩) hv
    clear ho hps
    generalize 0=j at hps' ⊢
    clear hl hv hcs ha
    induction ps generalizing vs j with
    | nil=>cases vs with|nil=>rfl|cons _ _=>simp at hps'
    | cons p r ih=>
      cases vs with
      | nil=>simp at hps'
      | cons v vr=>
        simp only [List.map_cons,List.zipIdx_cons,List.cons.injEq,Prod.mk.injEq] at hps' ⊢
        exact⟨⟨hps'.1.1,hx p (by simp) v hps'.1.2⟩,ih (fun q hm u hu=>hx q (by simp [hm]) u hu) (j+1) hps'.2⟩
  have:=run_buildSlice (P:=P) (t:=t) (w:=w) (vs:=vs) (len:=len) (size:=size) (fun v hm=>Nat.eq_of_beq_eq_true (List.all_eq_true.1 hv v hm)) (Nat.eq_of_beq_eq_true hl) (Nat.le_of_ble_eq_true hsm)
  rw [hcs] at this
  simp only [execOp,ho,List.map_toArray,hp]
  rw [Sem.run_bind,this]
  rfl
theorem RQ_lit {w0:World} {o:Oper} {rest tl:List Oper} {G:List (Nat × Ent)} {d:Nat} {t e:TypeId} {z:Value} {size bytes len:Nat} {ps:List (Nat × Operand)} {vs cs:List Value} [UT P t (.slice e)] [TI P e z size bytes] (hg:ggst ops G o=some true) (hd:odst n o.dst=some d) (ho:o.op=.buildSlice t len ps.toArray)
    (hps:∀ δ,evs (mat δ G) 0 ps=some vs) (hv:vs.all (fun v=>Nat.beq v.cells.size size)=true) (hl:Nat.beq vs.length len=true) (hsm:Nat.ble (len*size) 16777216=true) (hcs:(vs.map fun v=>v.cells.toList).flatten=cs)
    (k:RQ P n ops w0 Q rest tl ((d,.r (fun u w=>∃ b,u=.slice (some ⟨b,0,none⟩) len len∧w0.heap.size≤b∧Row w b e cs))::G)):RQ P n ops w0 Q (o::rest) tl G:=
  RW_op (T:=.r (fun u w=>∃ b,u=.slice (some ⟨b,0,none⟩) len len∧w0.heap.size≤b∧Row w b e cs)) hg (odst_eq hd).2 (fun _ _ _ _ xe h=>by obtain⟨b,e,h1,h2⟩:=h;exact⟨b,e,h1,h2.ext xe⟩)
    (fun w δ hw _ ρ ha=>.inl ⟨_,_,run_lit ho (hps δ) hv hl hsm hcs ha,⟨w.heap.size,rfl,hw.size,by have:=row_alloc w e cs.toArray;exact this⟩,ext_alloc _ _⟩) (by rw [(odst_eq hd).1];exact k)
end
end Go.En
namespace Go.En
open Go.RowKit Go.MapKept
def MapF (w:World) (r:Nat) (f:Int→Option Value):Prop:=
  ∃ es clock,w.heap[r]?=some (.map es clock)∧Stamped es clock∧(∀ x∈es.toList,IsKey (.int .i64) x.key)∧∀ k v,f k=some v↔∃ e∈es.toList,e.key=int k∧e.val=v
theorem MapF.lt {w:World} {r:Nat} {f:Int→Option Value} (h:MapF w r f):r<w.heap.size:=by
  obtain⟨_,_,h,_⟩:=h;exact(Array.getElem?_eq_some_iff.1 h).1
theorem MapF.same {w w':World} {r:Nat} {f:Int→Option Value} (h:MapF w r f) (e:w'.heap[r]?=w.heap[r]?):MapF w' r f:=by
  obtain⟨es,c,h1,h2⟩:=h;exact⟨es,c,e.trans h1,h2⟩
theorem MapF.ext {w w':World} {r:Nat} {f:Int→Option Value} (h:MapF w r f) (x:Ext w w'):MapF w' r f:=h.same (x.block h.lt)
theorem MapF.kb {g:Option Nat} {w w':World} {r:Nat} {f:Int→Option Value} (h:MapF w r f) (k:Kb g w w') (hne:some r≠g):MapF w' r f:=h.same (World.grownBy.block k r h.lt hne)
theorem find_mapF {es:Array MapEntry} {clock:Nat} {f:Int→Option Value} (hs:Stamped es clock) (hk:∀ x∈es.toList,IsKey (.int .i64) x.key) (hf:∀ k v,f k=some v↔∃ e∈es.toList,e.key=int k∧e.val=v) (k:Int) :
    (f k=none∧Instr.findNow (.int .i64) (int k) es.toList 0=some none∧∀ x∈es.toList,x.key≠int k)∨∃ j e,f k=some e.val∧Instr.findNow (.int .i64) (int k) es.toList 0=some (some (j,e.val))∧es.toList[j]?=some e∧e.key=int k:=by
  have hik:IsKey (.int .i64) (int k):=rfl
  rcases findNow_spec hik es.toList 0 hk with⟨h1,h2⟩|⟨j,e,h1,h2,h3⟩
  · refine .inl ⟨?_,h1,h2⟩
    cases hfk:f k with
    | none=>rfl
    | some v=>
      obtain⟨e,he,hek,_⟩:=(hf k v).1 hfk
      exact absurd hek (h2 e he)
  · rw [Nat.zero_add] at h1
    exact .inr ⟨j,e,(hf k e.val).2 ⟨e,List.mem_of_getElem? h2,h3,rfl⟩,h1,h2,h3⟩
section
variable {P : Program} {n : Nat} {Q : Post} {L : List (Nat × Value)} {w : World} {ops : List Oper} {o : Oper} {rest : List Oper}
theorem EL_makeMap {d:Nat} {t:TypeId} (hg:gst ops L o=some true) (hd:odst n o.dst=some d) (ho:o.op=.makeMap t none)
    (k:∀ r w',r=w.heap.size→MapF w' r (fun _=>none)→Ext w w'→EL P n ops Q rest ((d,.map (some r))::L) w'):EL P n ops Q (o::rest) L w:=by
  refine EL_valw (w':=w.alloc (.map #[] 0)) hg hd (fun ρ _=>?_) (k _ _ rfl ⟨#[],0,(heap_alloc w _).1,stamped_empty 0,by simp,by simp⟩ (ext_alloc _ _))
  simp [execOp,ho,Instr.makeMap,go_sem]
theorem val_lookup {t kt et:TypeId} {x i:Operand} {r:Nat} {z:Value} {size bytes:Nat} {f:Int→Option Value} {k:Int} [um:UT P t (.map kt et)] [uk:UT P kt (.int .i64)] [ti:TI P et z size bytes] (hm:MapF w r f) (ho:o.op=.lookup t x i false) (hx:ev L x=some (.map (some r))) (hi:ev L i=some (int k)) :
    Val P L w o ((f k).getD z):=fun ρ ha=>by
  have h1:=ha.ev (by rw [ho];simp [Op.operands]) hx
  have h2:=ha.ev (by rw [ho];simp [Op.operands]) hi
  obtain⟨es,clock,hb,hs,hks,hf⟩:=hm
  have hik:IsKey (.int .i64) (int k):=rfl
  obtain⟨i0,hi0,hz0,_,_⟩:=run_ti (P:=P) (t:=et) w
  have h5:(zeroValue et).run P w=.ok z w:=by simp [zeroValue,hi0,hz0]
  have h6:=run_checkKey (P:=P) (w:=w) uk.u hik (es.isEmpty) 9999
  rcases find_mapF hs hks hf k with⟨e1,e2,_⟩|⟨j,e,e1,e2,e3,e4⟩
  · have h7:=run_findKey (P:=P) (w:=w) uk.u e2
    rw [e1]
    simp only [execOp,ho,Instr.lookup,h1,h2]
    simp [run_underlying um.u,Go.MapKept.run_getObj_map hb,h6,h7,h5,Result.andThen]
  · have h7:=run_findKey (P:=P) (w:=w) uk.u e2
    rw [e1]
    simp only [execOp,ho,Instr.lookup,h1,h2]
    simp [run_underlying um.u,Go.MapKept.run_getObj_map hb,h6,h7,Result.andThen]
theorem EL_mapUpdate {t kt et : TypeId} {x i y : Operand} {r : Nat} {v : Value} {f : Int → Option Value} {k : Int} [um : UT P t (.map kt et)] [uk : UT P kt (.int .i64)] (hm : MapF w r f) (hg : gst ops L o = some true) (hd : o.dst = none) (ho : o.op = .mapUpdate t x i y)
    (hx:ev L x=some (.map (some r))) (hi:ev L i=some (int k)) (hy:ev L y=some v)
    (kk:∀ w',MapF w' r (fun j=>if j=k then some v else f j)→Kb (some r) w w'→EL P n ops Q rest L w'):EL P n ops Q (o::rest) L w:=by
  obtain⟨es,clock,hb,hs,hks,hf⟩:=hm
  have hik:IsKey (.int .i64) (int k):=rfl
  have h6:=run_checkKey (P:=P) (w:=w) uk.u hik false 9999
  have hkb:∀ o':Obj,Kb (some r) w { w with heap:=w.heap.setIfInBounds r o' }:=fun o'=>⟨rfl,rfl,rfl,by simp,fun b hlt hne=>(heap_set hb).2 b (fun e=>hne (by rw [e]))⟩
  rcases find_mapF hs hks hf k with⟨e1,e2,e3⟩|⟨j,e,e1,e2,e3,e4⟩
  · have h7:=run_findKey (P:=P) (w:=w) uk.u e2
    refine EL_unit (w':={ w with heap:=w.heap.setIfInBounds r (.map (es.push { key:=int k,val:=v,born:=clock }) (clock+1)) }) hg hd (fun ρ ha=>?_) (kk _ ⟨_,_,(heap_set hb).1,stamped_push hs e3,fun x hx=>?_,fun k' v'=>?_⟩ (hkb _))
    · have h1:=ha.ev (by rw [ho];simp [Op.operands]) hx
      have h2:=ha.ev (by rw [ho];simp [Op.operands]) hi
      have h3:=ha.ev (by rw [ho];simp [Op.operands]) hy
      simp only [execOp,ho,h1,h2,h3]
      simp [Instr.mapUpdate,run_underlying um.u,Go.MapKept.run_getObj_map hb,h6,h7,Go.MapKept.run_setObj_map _ hb,Result.andThen]
    · simp only [Array.toList_push,List.mem_append,List.mem_singleton] at hx
      rcases hx with hx|rfl
      · exact hks x hx
      · exact hik
    · simp only [Array.toList_push,List.mem_append,List.mem_singleton]
      by_cases hk:k'=k
      · subst hk
        rw [if_pos rfl]
        constructor
        · intro h;cases h;exact⟨_,.inr rfl,rfl,rfl⟩
        · rintro⟨x,hx|rfl,h1,h2⟩
          · exact absurd h1 (e3 x hx)
          · rw [← h2]
      · rw [if_neg hk,hf]
        constructor
        · rintro⟨x,hx,h1,h2⟩;exact⟨x,.inl hx,h1,h2⟩
        · rintro⟨x,hx|rfl,h1,h2⟩
          · exact⟨x,hx,h1,h2⟩
          · simp at h1;exact absurd h1.symm hk
  · have h7 := run_findKey (P := P) (w := w) uk.u e2
    have hj:es[j]?=some e:=by simpa using e3
    have hst:=run_keyThatStays (P:=P) (w:=w) hik
    have hkey:∀ e',es[j]?=some e'→({ e' with key:=int k,val:=v }:MapEntry).key=e'.key:=fun e' he'=>by rw [hj] at he';cases he';exact e4.symm
    refine EL_unit (w':={ w with heap:=w.heap.setIfInBounds r (.map (es.modify j fun e=>{ e with key:=int k,val:=v }) clock) }) hg hd (fun ρ ha=>?_)
      (kk _ ⟨_,_,(heap_set hb).1,stamped_modify hs _ _ (fun _ _=>rfl) (fun e' _ he'=>hkey e' he'),isKey_modify hks _ _ hkey,fun k' v'=>?_⟩ (hkb _))
    · have h1:=ha.ev (by rw [ho];simp [Op.operands]) hx
      have h2:=ha.ev (by rw [ho];simp [Op.operands]) hi
      have h3:=ha.ev (by rw [ho];simp [Op.operands]) hy
      simp only [execOp,ho,h1,h2,h3]
      simp [Instr.mapUpdate,run_underlying um.u,Go.MapKept.run_getObj_map hb,h6,h7,hj,e4,hst,Go.MapKept.run_setObj_map _ hb,Result.andThen]
    · have hmem:∀ x:MapEntry,x∈(es.modify j fun e=>{ e with key:=int k,val:=v }).toList↔(x∈es.toList∧x.key≠int k)∨x={ e with key:=int k,val:=v }:=by
        intro x
        constructor
        · intro hx
          obtain⟨i,hi⟩:=List.getElem?_of_mem hx
          rw [Array.getElem?_toList,Array.getElem?_modify] at hi
          by_cases hji:j=i
          · subst hji
            rw [if_pos rfl,hj] at hi
            exact .inr (by simpa using hi.symm)
          · rw [if_neg hji] at hi
            have hxm:x∈es.toList:=List.mem_of_getElem? (by rw [Array.getElem?_toList];exact hi)
            refine .inl ⟨hxm,fun hxk=>hji ?_⟩
            have h1:=(List.getElem?_eq_some_iff.1 e3).1
            have hi2:es.toList[i]?=some x:=by rw [Array.getElem?_toList];exact hi
            have h2:=(List.getElem?_eq_some_iff.1 hi2).1
            have hn:=hs.2.2
            have ha:(es.toList.map (·.key))[j]?=some (int k):=by rw [List.getElem?_map,e3];simp [e4]
            have hb':(es.toList.map (·.key))[i]?=some (int k):=by rw [List.getElem?_map,hi2];simp [hxk]
            exact(List.getElem?_inj (by simpa using h1) hn).1 (ha.trans hb'.symm)
        · rintro(⟨hx,hxk⟩|rfl)
          · obtain⟨i,hi⟩:=List.getElem?_of_mem hx
            refine List.mem_of_getElem? (i:=i) ?_
            rw [Array.getElem?_toList,Array.getElem?_modify]
            by_cases hji:j=i
            · subst hji
              rw [e3] at hi;cases hi
              exact absurd e4 hxk
            · rw [if_neg hji,← Array.getElem?_toList];exact hi
          · refine List.mem_of_getElem? (i:=j) ?_
            rw [Array.getElem?_toList,Array.getElem?_modify,if_pos rfl,hj];rfl
      dsimp only
      by_cases hk:k'=k
      · subst hk
        rw [if_pos rfl]
        constructor
        · intro h;cases h;exact⟨_,(hmem _).2 (.inr rfl),rfl,rfl⟩
        · rintro⟨x,hx,h1,h2⟩
          rcases (hmem x).1 hx with⟨_,hxk⟩|rfl
          · exact absurd h1 hxk
          · rw [← h2]
      · rw [if_neg hk,hf]
        constructor
        · rintro⟨x,hx,h1,h2⟩
          exact⟨x,(hmem x).2 (.inl ⟨hx,fun h=>hk (by rw [h1] at h;simpa using h)⟩),h1,h2⟩
        · rintro⟨x,hx,h1,h2⟩
          rcases (hmem x).1 hx with⟨hx,_⟩|rfl
          · exact⟨x,hx,h1,h2⟩
          · simp at h1;exact absurd h1.symm hk
end
end Go.En
namespace Go.En
open Go.RowKit
inductive Qy where
  | mk (op role:Int) (text:List UInt8) (kids:List Qy)
def Qy.op:Qy→Int | .mk o _ _ _=>o
def Qy.role:Qy→Int | .mk _ r _ _=>r
def Qy.text:Qy→List UInt8 | .mk _ _ t _=>t
def Qy.kids:Qy→List Qy | .mk _ _ _ k=>k
mutual
def Qy.lies (G:Nat→Prop) (w:World):Qy→List Value→Prop
  | .mk op role text kids,cs=>∃ a cap,cs=[int op,int role,str text,.slice a kids.length cap]∧kids.length≤cap∧kids.length≤140737488355328∧
      (0<kids.length→∃ b off,a=some ⟨b,off,none⟩∧G b∧∃ css,Qy.liesAll G w kids css∧At w b off css.flatten)
def Qy.liesAll (G:Nat→Prop) (w:World):List Qy→List (List Value)→Prop
  | [],[]=>True
  | q::qs,c::cs=>Qy.lies G w q c∧Qy.liesAll G w qs cs
  | _,_=>False
end
theorem Qy.lies_len {G:Nat→Prop} {w:World} {q:Qy} {cs:List Value} (h:Qy.lies G w q cs):cs.length=4:=by
  cases q
  unfold Qy.lies at h
  obtain⟨a,cap,rfl,_⟩:=h
  rfl
theorem Qy.liesAll_len {G:Nat→Prop} {w:World}:∀ {qs:List Qy} {css:List (List Value)},Qy.liesAll G w qs css→css.length=qs.length∧∀ c∈css,c.length=4
  | [],[],_=>by simp
  | [],_::_,h=>by unfold Qy.liesAll at h;exact h.elim
  | _::_,[],h=>by unfold Qy.liesAll at h;exact h.elim
  | q :: qs, c :: css, h => by
    unfold Qy.liesAll at h
    obtain⟨h1,h2⟩:=Qy.liesAll_len h.2
    exact⟨by simp [h1],fun x hx=>by
      rcases List.mem_cons.1 hx with rfl|hx
      · exact Qy.lies_len h.1
      · exact h2 x hx⟩
mutual
theorem Qy.lies_move {G G':Nat→Prop} {w w':World} (hm:∀ b,G b→b<w.heap.size→G' b∧w'.heap[b]?=w.heap[b]?):∀(q:Qy) (cs:List Value),Qy.lies G w q cs→Qy.lies G' w' q cs
  | .mk op role text kids,cs,h=>by
    unfold Qy.lies at h ⊢
    obtain⟨a,cap,hcs,hc,hl,hp⟩:=h
    refine⟨a,cap,hcs,hc,hl,fun h0=>?_⟩
    obtain⟨b,off,ha,hg,css,h1,h2⟩:=hp h0
    obtain⟨l1,l2⟩:=Qy.liesAll_len h1
    have hlt:=h2.lt (by rw [flat_len2 l2,l1];omega)
    exact⟨b,off,ha,(hm b hg hlt).1,css,Qy.liesAll_move hm kids css h1,h2.same (hm b hg hlt).2⟩
theorem Qy.liesAll_move {G G':Nat→Prop} {w w':World} (hm:∀ b,G b→b<w.heap.size→G' b∧w'.heap[b]?=w.heap[b]?):∀(qs:List Qy) (css:List (List Value)),Qy.liesAll G w qs css→Qy.liesAll G' w' qs css
  | [],[],_=>by unfold Qy.liesAll;trivial
  | [],_::_,h=>by unfold Qy.liesAll at h;exact h.elim
  | _::_,[],h=>by unfold Qy.liesAll at h;exact h.elim
  | q::qs,c::css,h=>by
    unfold Qy.liesAll at h ⊢
    exact⟨Qy.lies_move hm q c h.1,Qy.liesAll_move hm qs css h.2⟩
end
instance:Rep Qy where
  sz:=4
  pos:=by decide
  at_:=Qy.lies
  len h:=Qy.lies_len h
  one {G w q cs} h:=by
    cases q
    unfold Qy.lies at h
    obtain⟨a,cap,rfl,_⟩:=h
    rfl
  move {G G' w w' q cs} h hm:=Qy.lies_move hm q cs h
theorem liesAll_iff {G:Nat→Prop} {w:World}:∀ {qs:List Qy} {css:List (List Value)},Qy.liesAll G w qs css↔AtsG G w qs css
  | [],[]=>by unfold Qy.liesAll;exact⟨fun _=>trivial,fun _=>trivial⟩
  | [],_::_=>by unfold Qy.liesAll;exact⟨fun h=>h.elim,fun h=>h.elim⟩
  | _::_,[]=>by unfold Qy.liesAll;exact⟨fun h=>h.elim,fun h=>h.elim⟩
  | q::qs,c::css=>by
    unfold Qy.liesAll
    exact⟨fun h=>⟨h.1,liesAll_iff.1 h.2⟩,fun h=>⟨h.1,liesAll_iff.2 h.2⟩⟩
theorem qy_cells {G:Nat→Prop} {w:World} {q:Qy} {cs:List Value} (h:Rep.at_ G w q cs):∃ v,cs=[int q.op,int q.role,str q.text,v]∧SlG G w v q.kids:=by
  cases q with
  | mk op role text kids=>
    have h1:Qy.lies G w (.mk op role text kids) cs:=h
    unfold Qy.lies at h1
    obtain⟨a,cap,rfl,hc,hl,hp⟩:=h1
    refine⟨_,rfl,a,cap,rfl,hc,hl,fun h0=>?_⟩
    obtain⟨b,off,ha,hg,css,h2,h3⟩:=hp h0
    exact⟨b,off,ha,hg,css,liesAll_iff.1 h2,h3⟩
theorem qy_of {G:Nat→Prop} {w:World} {op role:Int} {text:List UInt8} {kids:List Qy} {v:Value} (h:SlG G w v kids):Rep.at_ G w (Qy.mk op role text kids) [int op,int role,str text,v]:=by
  show Qy.lies G w (.mk op role text kids) _
  unfold Qy.lies
  obtain⟨a,cap,rfl,hc,hl,hp⟩:=h
  refine⟨a,cap,rfl,hc,hl,fun h0=>?_⟩
  obtain⟨b,off,ha,hg,css,h2,h3⟩:=hp h0
  exact⟨b,off,ha,hg,css,liesAll_iff.2 h2,h3⟩
theorem open_structF {H:Type} {enc:TypeId × Value→H} {P:Program} {w:World} {sp:Nat→Bool} {held:Bool} {fuel:Nat} {t:TypeId} {fs:Array Field} {tos:List (TypeId × Nat)} {cs:List Value} {x:DataW H × List MemPlace}
    (hu:P.underlying t=some (.struct fs)) (hfs:(fs.toList.map fun f=>(f.type,f.offset))=tos) (h:DataW.trod enc P w 0 sp held fuel t cs=some x) (hbd:Bd P t x.1) :
    cs.length=P.cellsOf t∧∀(i:Nat) (ty off:Nat),tos[i]?=some (ty,off)→∃ y n,fuel=n+1∧DataW.trod enc P w 0 sp held n ty ((cs.drop off).take (P.cellsOf ty))=some y∧Bd P ty y.1:=by
  obtain⟨xs,n,hfu,rfl,hl,hlen,hf⟩:=DataW.trod_struct hu h
  refine⟨hl,fun i ty off hi=>?_⟩
  subst hfs
  rw [List.getElem?_map,Array.getElem?_toList] at hi
  cases hfi:fs[i]? with
  | none=>rw [hfi] at hi;cases hi
  | some f=>
    rw [hfi] at hi
    simp only [Option.map_some,Option.some.injEq,Prod.mk.injEq] at hi
    obtain⟨rfl,rfl⟩:=hi
    have hlt:=(Array.getElem?_eq_some_iff.1 hfi).1
    obtain⟨y,hy⟩:∃ y,xs[i]?=some y:=⟨_,List.getElem?_eq_getElem (by omega)⟩
    refine⟨y,n,hfu,by rw [hf i f hfi,hy],?_⟩
    simp only [Bd,DataW.weights,hu] at hbd
    exact bd_each hbd (j:=i) (by rw [List.getElem?_map,Array.getElem?_toList,hfi];rfl) (by rw [List.getElem?_map,hy];rfl)
theorem open_slF {α:Type} [Rep α] {H:Type} {enc:TypeId × Value→H} {P:Program} {w:World} {sp:Nat→Bool} {held:Bool} {fuel:Nat} {t e:TypeId} {cs:List Value} {x:DataW H × List MemPlace}
    (hO:∀(n:Nat) (cs:List Value) (x:DataW H × List MemPlace),fuel=n+1→DataW.trod enc P w 0 sp held n e cs=some x→Bd P e x.1→∃ a:α,Rep.at_ Tt w a cs) (ht:P.underlying t=some (.slice e)) (hc:P.cellsOf e=Rep.sz α) (hz:0<Rep.sz α) (hb:1≤P.bytesOf e) (h:DataW.trod enc P w 0 sp held fuel t cs=some x) (hbd:Bd P t x.1):∃ v,cs=[v]∧∃ xs:List α,Sl w v xs:=by
  rcases DataW.trod_slice ht h with⟨rfl,_⟩|⟨a,len,cap,elems,rest,n,hfu,rfl,rfl,_,hl,_,hlen,hel,_⟩
  · exact⟨_,rfl,[],SlG.nil⟩
  refine⟨_,rfl,?_⟩
  simp only [Bd,DataW.weights,ht,List.all_cons,List.all_append,Bool.and_eq_true,decide_eq_true_eq,List.length_map] at hbd
  obtain⟨hw1,hw2,_⟩:=hbd
  have hlm:len≤140737488355328:=by
    have h1:=reachBytes_lt
    have h2:elems.length*1≤(elems.length+rest.length)*P.bytesOf e:=Nat.mul_le_mul (by omega) hb
    omega
  have key:∀ i,i<len→∃ c x,w.cells? 0 (a.add (i*P.cellsOf e)) (P.cellsOf e)=some c∧Rep.at_ Tt w (x:α) c:=fun i hi=>by
    have h1:=hel i hi
    obtain⟨y,hy⟩:∃ y,elems[i]?=some y:=⟨_,List.getElem?_eq_getElem (by omega)⟩
    rw [hy,Option.bind_eq_some_iff] at h1
    obtain⟨c,hc1,hc2⟩:=h1
    obtain⟨x,hx⟩:=hO n _ _ hfu hc2 (weightsAll_mem hw2 y.1 (List.mem_map.2 ⟨y,List.mem_of_getElem? hy,rfl⟩))
    exact⟨c,x,hc1,hx⟩
  by_cases h0:len=0
  · subst h0
    exact⟨[],some a,cap,rfl,by simp,by simp,fun h=>absurd h (by simp)⟩
  have hsp:a=⟨a.block,a.off,none⟩:=by
    obtain⟨c,x,hc1,_⟩:=key 0 (by omega)
    unfold World.cells? at hc1
    rw [if_pos (Nat.zero_le _)] at hc1
    have hlc:=mapM_some_length hc1
    rw [List.length_range,hc] at hlc
    obtain⟨v,hv⟩:∃ v,c[0]?=some v:=⟨_,List.getElem?_eq_getElem (by omega)⟩
    have:=mapM_some_get hc1 0 0 (List.getElem?_range (by omega))
    rw [hv] at this
    simp only [Nat.zero_mul,show ∀ a:Addr,a.add 0=a from fun a=>by simp [Addr.add]] at this
    exact cell_spot this
  have all:∀ k,k≤len→∃(xs:List α) (css:List (List Value)),xs.length=k∧Ats w xs css∧At w a.block a.off css.flatten:=by
    intro k
    induction k with
    | zero=>exact fun _=>⟨[],[],rfl,trivial,fun j v hv=>by simp at hv⟩
    | succ k ih=>
      intro hk
      obtain⟨xs,css,h1,h2,h3⟩:=ih (by omega)
      obtain⟨c,x,hc1,hx⟩:=key k (by omega)
      rw [hsp,addr_add] at hc1
      obtain⟨_,h4⟩:=cells_at hc1
      refine⟨xs++[x],css++[c],by simp [h1],AllAt.append h2 (AllAt.one hx),?_⟩
      rw [List.flatten_append]
      refine At.join h3 ?_
      rw [AtsG.flat h2,h1,← hc]
      simpa using h4
  obtain⟨xs,css,h1,h2,h3⟩:=all len (Nat.le_refl _)
  exact⟨xs,some a,cap,by rw [h1],by omega,by omega,fun _=>⟨a.block,a.off,by rw [← hsp],trivial,css,h2,h3⟩⟩
theorem opens_qy {P:Program} {tq tk ti ts:TypeId} {fs:Array Field} (hu:P.underlying tq=some (.struct fs)) (hfs:(fs.toList.map fun f=>(f.type,f.offset))=[(ti,0),(ti,1),(ts,2),(tk,3)])
    (hi:P.underlying ti=some (.int .i64)) (hs:P.underlying ts=some .string) (hk:P.underlying tk=some (.slice tq)) (ci:P.cellsOf ti=1) (cs:P.cellsOf ts=1) (ck:P.cellsOf tk=1) (cq:P.cellsOf tq=4) (hb:1≤P.bytesOf tq):Opens P tq Qy:=⟨by
  intro H enc w sp held fuel
  induction fuel using Nat.strongRecOn with
  | _ fuel ih =>
    intro c x h hbd
    obtain⟨hl,hf⟩:=open_structF hu hfs h hbd
    rw [cq] at hl
    match c,hl with
    | [a,b,c,d],_=>
      obtain⟨y0,n0,_,h0,_⟩:=hf 0 ti 0 rfl
      obtain⟨y1,n1,_,h1,_⟩:=hf 1 ti 1 rfl
      obtain⟨y2,n2,_,h2,_⟩:=hf 2 ts 2 rfl
      obtain⟨y3,n3,hfu,h3,hb3⟩:=hf 3 tk 3 rfl
      rw [ci] at h0 h1
      rw [cs] at h2
      rw [ck] at h3
      obtain⟨z0,e0,_⟩:=DataW.trod_int hi h0
      obtain⟨z1,e1,_⟩:=DataW.trod_int hi h1
      obtain⟨s,e2,_⟩:=DataW.trod_string hs h2
      obtain⟨v,e3,ks,hks⟩:=open_slF (α:=Qy) (fun n c x hn hx hbx=>ih n (by omega) hx hbx) hk cq (by decide) hb h3 hb3
      simp at e0 e1 e2 e3
      subst e0 e1 e2 e3
      refine⟨.mk z0 z1 s.data.toList ks,?_⟩
      have:=qy_of (op:=z0) (role:=z1) (text:=s.data.toList) hks
      rw [← str_of] at this
      exact this⟩
end Go.En
