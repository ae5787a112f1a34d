/- Own text. -/
import Derived.Test.YtojadfppncgphaaGreatDoorQYg
import Derived.Laws.OwnMore
import Derived.Laws.Small
set_option linter.all false
namespace Go.Dl
open Go.RowKit Go.En
theorem flat_upd {α:Type}{sz j:Nat}{ys:List α}:∀ {rows:List (List α)} {m:Nat} {r:List α},rows[m]?=some r→(∀ x∈rows,x.length=sz)→j+ys.length≤sz→
  rows.flatten.take (m*sz+j)++ys++rows.flatten.drop (m*sz+j+ys.length)=(rows.set m (r.take j++ys++r.drop (j+ys.length))).flatten
 | [],_,_,h,_,_=>by simp at h
 | x::rs,0,r,h,hs,hj=>by
  simp at h
  subst h
  have hx:=hs x (List.mem_cons_self ..)
  simp only [Nat.zero_mul,Nat.zero_add,List.flatten_cons,List.set_cons_zero]
  rw [List.take_append_of_le_length (by omega),List.drop_append_of_le_length (by omega)]
  simp [List.append_assoc]
 | x::rs,m+1,r,h,hs,hj=>by
  have hx:=hs x (List.mem_cons_self ..)
  have ih:=flat_upd (ys:=ys) (j:=j) (rows:=rs) (m:=m) (r:=r) (by simpa using h) (fun q hq=>hs q (List.mem_cons_of_mem _ hq)) hj
  simp only [List.flatten_cons,List.set_cons_succ]
  rw [← ih,show(m+1)*sz+j=x.length+(m*sz+j) by rw [hx,Nat.add_mul];omega,List.take_length_add_append,show x.length+(m*sz+j)+ys.length=x.length+(m*sz+j+ys.length) by omega,List.drop_length_add_append]
  simp [List.append_assoc]
section
variable {G : Nat → Prop}{w : World}{one : Bool}
theorem X3 {k:Nat}:∀ {cells:List Dt} {us:List Value},DR.valsR G w one cells us→DR.valsR G w one (cells.take k) (us.take k):=by
 induction k with
 | zero=>intro cells us _;rw [List.take_zero,List.take_zero,DR.valsR]
 | succ k ih=>
  intro cells us e
  cases cells with
  | nil=>rw [DR.valsR] at e;subst e;rw [List.take_nil,List.take_nil,DR.valsR]
  | cons x r=>
   rw [DR.valsR] at e
   obtain⟨u,us,rfl,h2,h3,h⟩:=e
   rw [List.take_succ_cons,List.take_succ_cons,DR.valsR]
   exact⟨u,_,rfl,h2,h3,ih h⟩
theorem A5c {k:Nat}:∀ {cells:List Dt} {us:List Value},DR.valsR G w one cells us→DR.valsR G w one (cells.drop k) (us.drop k):=by
 induction k with
 | zero=>intro cells us e;simpa using e
 | succ k ih=>
  intro cells us e
  cases cells with
  | nil=>rw [DR.valsR] at e;subst e;rw [List.drop_nil,List.drop_nil,DR.valsR]
  | cons x r=>
   rw [DR.valsR] at e
   obtain⟨u,us,rfl,h2,h3,h⟩:=e
   exact ih h
end
section
variable {P : Program}{o : Oper}{F : Fr}{H : Hp}
theorem D6o {w w' : World}{e : TypeId}{size n g cap off : Nat}{xs ys : List Value}(h : w.ownsRow 0 e size (.slice (some ⟨g, 0, none⟩) n cap) n xs)(hle : off + ys.length ≤ xs.length) :
  ∃ cur:List Value,Row w g e cur∧off+ys.length≤cur.length∧(∀ w',Row w' g e (cur.take off++ys++cur.drop (off+ys.length))→w'.ownsRow 0 e size (.slice (some ⟨g,0,none⟩) n cap) n (xs.take off++ys++xs.drop (off+ys.length))):=by
 obtain⟨h1,h2⟩:=h
 rcases h2 with⟨h2,_⟩|⟨g',cap',cur,h2,h3,h4,h5,h6,h7,h8⟩
 ·cases h2
 ·simp only [Value.slice.injEq,Option.some.injEq,Addr.mk.injEq,and_true,true_and] at h2
  obtain⟨rfl,rfl⟩:=h2
  have hxl:xs.length≤cur.toList.length:=by rw [← h8,List.length_take];exact Nat.min_le_right ..
  refine⟨cur.toList,by unfold Row;simpa using h4,by omega,fun w' hr=>⟨?_,.inr ⟨g,cap,_,rfl,h3,hr,h5,h6,?_,?_⟩⟩⟩
  ·simp only [List.length_append,List.length_take,List.length_drop];omega
  ·simp only [List.size_toArray,List.length_append,List.length_take,List.length_drop,Array.length_toList] at hxl ⊢
   omega
  ·have hn:xs.length=n*size:=h1
   rw [List.toList_toArray,← h8,← hn]
   have hN:∀(c:List Value) (N:Nat),off+ys.length≤N→N≤c.length→(c.take off++ys++c.drop (off+ys.length)).take N=(c.take N).take off++ys++(c.take N).drop (off+ys.length):=by
    intro c N h1 h2
    rw [List.take_take,Nat.min_eq_left (by omega),List.take_append,List.take_of_length_le (by simp;omega),List.drop_take]
    congr 1
    simp only [List.length_append,List.length_take,Nat.min_eq_left (show off≤c.length by omega)]
   have:=hN cur.toList xs.length hle hxl
   rw [this]
theorem M1 {t e:TypeId}{x y:Operand}{z:Value}{size bytes k n off m j sz:Nat}{rows:List (List Dt)}{r ys:List Dt}{l:Lf}[TI P t z size bytes](ho:o.op=.store t x y)(hx:ef F x=some (.p k n off))(hk:lo H k=some (.ls e sz n rows))(hy:ef F y=some l)(hc:lds l=some ys)(hs:Nat.beq ys.length size=true)
  (hoff:off=m*sz+j) (hr:rows[m]?=some r) (hj:j+size≤sz) :
  LS P o F H [k] none [(k,.ls e sz n (rows.set m (r.take j++ys++r.drop (j+size))))]:=fun γ G w a ha hw K Q hK=>by
 have hm1:x∈o.op.operands:=by rw [ho];simp [Op.operands]
 have hm2:y∈o.op.operands:=by rw [ho];simp [Op.operands]
 have hOR:=hw.obj k (List.mem_singleton.2 rfl) _ hk
 have hp:=ha x hm1 _ hx
 obtain⟨h0,hsz,vs,h1,h2⟩:=hOR
 rw [LR] at hp
 obtain⟨b,h4,h5⟩:=hp.2 h0.symm
 have hcr:=D9o (ha y hm2 _ hy) hc
 have hq:=Nat.eq_of_beq_eq_true hs
 have hsz':(a.eval y).cells.toList.length=size:=by rw [vals_len hcr,hq]
 have hsz2:(a.eval y).cells.size=size:=by rw [← Array.length_toList];exact hsz'
 have hml:m<rows.length:=(List.getElem?_eq_some_iff.1 hr).1
 have hvl:vs.length=rows.length*sz:=by rw [vals_len h2];exact A1x hsz
 have hoffl:off+size≤vs.length:=by
  rw [hvl,hoff]
  have:(m+1)*sz≤rows.length*sz:=Nat.mul_le_mul_right _ hml
  rw [Nat.add_mul] at this
  omega
 rcases O0 h1 with⟨g1,_,_⟩|⟨g,cap,g1,_,_,_,_⟩
 ·rw [g1] at h4;cases h4
 ·rw [g1] at h1 h4
  cases h4
  obtain⟨cur,hrow,hcl,hset⟩:=D6o (w':=w) (off:=off) (ys:=(a.eval y).cells.toList) h1 (by rw [hsz'];exact hoffl)
  have h1':(a.eval y).cells.toList.all Value.oneCell'=true:=A3k hcr
  have h:=run_storeCells_at (P:=P) g off e (a.eval y).cells.toList 0 cur.toArray w hrow (by simp [hsz2];rw [hsz'] at hcl;exact hcl) (fun u hu=>List.all_eq_true.1 h1' u hu)
  simp only [Nat.add_zero,hsz'] at h
  rw [hsz'] at hset hcl
  have hrun:(execOp a.eval o).run P w=.ok .skip (w.setRow g (cur.take off++(a.eval y).cells.toList++cur.drop (off+size)).toArray):=by
   have h4:=Go.En.run_sizeOf (P:=P) (t:=t) w
   simp only [execOp,ho,h5,Instr.storeAt,Instr.sureAddr,storeVar,Sem.run_bind,Sem.run_pure,Result.andThen_ok,h4,hsz2]
   rw [if_neg (by simp)]
   simp only [h,Result.andThen_ok]
  have hkb:Kb (some g) w (w.setRow g (cur.take off++(a.eval y).cells.toList++cur.drop (off+size)).toArray):=⟨rfl,rfl,rfl,by simp,fun k hk hne=>setRow_other w g k _ (fun e=>hne (by rw [e]))⟩
  have hob:oblk γ k (.ls e sz n rows)=some g:=by simp [oblk,g1,blk]
  have hown:=hw.own k (List.mem_singleton.2 rfl) _ g hk hob
  have hGn:∀ q,G q→G q∧(w.setRow g (cur.take off++(a.eval y).cells.toList++cur.drop (off+size)).toArray).heap[q]?=w.heap[q]?:=fun q hq=>⟨hq,World.grownBy.block hkb q (hw.glt q hq) fun e=>hown.2 (by cases e;exact hq)⟩
  have hrow':=setRow_heap w g cur.toArray (cur.take off++(a.eval y).cells.toList++cur.drop (off+size)).toArray e (0,0) hrow
  have hor:=hset _ hrow'
  have hflat:=flat_upd (ys:=ys) (j:=j) hr hsz (by rw [hq];exact hj)
  rw [hq] at hflat
  unfold Oper.wp
  rw [hrun]
  refine hK undef _ _ _ (Evo.chg (p:=γ k) (b0:=some g) hkb hw.glt (List.mem_singleton.2 rfl) hk hob.symm (.inl rfl) ⟨by rw [C3];exact h0,fun q hq'=>?_,_,by rw [C3,g1,List.length_set];exact hor,?_⟩ (fun q hq'=>by cases hq';exact⟨hown.2,hown.1⟩) (fun q hq'=>by rw [g1] at hq';cases hq';exact .inl rfl) (fun _ h=>by cases h))
  ·rcases List.mem_or_eq_of_mem_set hq' with h|h
   ·exact hsz q h
   ·rw [h]
    have hrl:=hsz r (List.mem_of_getElem? hr)
    simp only [List.length_append,List.length_take,List.length_drop,hq]
    omega
  ·rw [← hflat,← hoff]
   exact G4 hGn true _ _ (R7 (R7 (X3 h2) hcr) (A5c h2))
theorem M6 {t : TypeId}{d : TypeDesc}{x : Operand}{k n off m j sz : Nat}{e : TypeId}{rows : List (List Dt)}{r : List Dt}{y : Dt}[UT P t d](ho : o.op = .load t x)(hd : K1 d = false)(hx : ef F x = some (.p k n off))(hk : lo H k = some (.ls e sz n rows))(hoff : off = m * sz + j)(hr : rows[m]? = some r)(hj : r[j]? = some y) : LS P o F H [k] (some (.d y)) [] := LS_v fun γ G w a ha hw => by
 have hm:x∈o.op.operands:=by rw [ho];simp [Op.operands]
 have hOR:=hw.obj k (List.mem_singleton.2 rfl) _ hk
 obtain⟨b,vs,h1,h2,h3,h4⟩:=Z4 hOR rfl (ha x hm _ hx)
 have hcell:(rows.flatten.map Lf.d)[off]?=some (.d y):=by
  rw [List.getElem?_map,hoff]
  have key:∀(rows:List (List Dt)) (m:Nat),(∀ x∈rows,x.length=sz)→rows[m]?=some r→rows.flatten[m*sz+j]?=some y:=by
   intro rows
   induction rows with
   | nil=>intro m _ h;simp at h
   | cons x rs ih=>
    intro m hs h
    have hx:=hs x (List.mem_cons_self ..)
    cases m with
    | zero=>
     simp at h
     subst h
     rw [List.flatten_cons,Nat.zero_mul,Nat.zero_add,List.getElem?_append_left (List.getElem?_eq_some_iff.1 hj).1]
     exact hj
    | succ m=>
     rw [List.flatten_cons,List.getElem?_append_right (by rw [hx,Nat.add_mul];omega),show(m+1)*sz+j-x.length=m*sz+j by rw [hx,Nat.add_mul];omega]
     exact ih m (fun q hq=>hs q (List.mem_cons_of_mem _ hq)) (by simpa using h)
  rw [key rows m hOR.2.1 hr]
  rfl
 obtain⟨u,h6,_,h7⟩:=A1i h3 hcell
 have h8:=C5 (a:=a) hm
 rw [h2] at h8
 exact⟨u,B5 ho hd h8 (by have:=h4 off u h6;simpa using this),h7⟩
end
end Go.Dl
namespace Go.En
open Go.RowKit
section
variable {P : Program}{L : List (Nat × Value)}{w : World}{o : Oper}
structure Ints (P:Program)(t e:TypeId)(m:Nat):Prop where
 st:P.underlying t=some (.struct (P.fieldsOf t))
 hp:P.stoodInHeld t=false
 hg:P.eqGuardType P.depth t=false
 hf:((P.fieldsOf t).toList.map fun f=>(f.name== "_",f.type,f.offset))=(List.range' 0 m).map fun i=>(false,e,i)
 he:P.underlying e=some (.int .i64)
theorem A2k {e:TypeId}(he:P.underlying e=some (.int .i64))(l1 l2:List Int):∀(fs:List Field) (k:Nat),(fs.map fun f=>(f.name== "_",f.type,f.offset))=(List.range' k fs.length).map (fun i=>(false,e,i))→l1.length=k+fs.length→l2.length=k+fs.length→
  (Op.eqFields 9999 (l1.map int).toArray (l2.map int).toArray fs).run P w=.ok (decide (l1.drop k=l2.drop k)) w
 | [],k,_,h1,h2=>by
  rw [List.drop_of_length_le (by simp at h1;omega),List.drop_of_length_le (by simp at h2;omega)]
  simp [Op.eqFields,go_sem]
 | f :: fs, k, h, h1, h2 => by
  rw [List.length_cons] at h1 h2
  rw [List.map_cons,List.length_cons,List.range'_succ,List.map_cons,List.cons.injEq] at h
  obtain⟨h0,hr⟩:=h
  simp only [Prod.mk.injEq] at h0
  obtain⟨n1,t1,o1⟩:=h0
  have m1:f.name≠ "_" := by simpa using n1
  have ih:=A2k he l1 l2 fs (k+1) hr (by omega) (by omega)
  obtain⟨a,ha⟩:∃ a,l1[k]?=some a:=⟨_,List.getElem?_eq_getElem (by omega)⟩
  obtain⟨b,hb⟩:∃ b,l2[k]?=some b:=⟨_,List.getElem?_eq_getElem (by omega)⟩
  have e1:l1.drop k=a::l1.drop (k+1):=by
   obtain⟨h3,h4⟩:=List.getElem?_eq_some_iff.1 ha
   rw [List.drop_eq_getElem_cons h3,h4]
  have e2:l2.drop k=b::l2.drop (k+1):=by
   obtain⟨h3,h4⟩:=List.getElem?_eq_some_iff.1 hb
   rw [List.drop_eq_getElem_cons h3,h4]
  have p1:=M9 (P:=P) (w:=w) (xs:=(l1.map int).toArray) (off:=k) (v:=int a) he (by simp [ha])
  have p2:=M9 (P:=P) (w:=w) (xs:=(l2.map int).toArray) (off:=k) (v:=int b) he (by simp [hb])
  have q:=run_equalIn_int (P:=P) w 9998 e .i64 .i64 a b he
  simp only [Op.eqFields,t1,o1,m1,ne_eq,not_false_eq_true,if_true,Sem.run_bind]
  rw [p1]
  simp only [Result.andThen_ok]
  rw [p2]
  simp only [Result.andThen_ok]
  rw [q]
  simp only [Result.andThen_ok]
  rw [e1,e2]
  by_cases hab:a=b
  ·subst hab
   simp only [beq_self_eq_true,Bool.not_true,Bool.false_eq_true,if_false]
   rw [ih]
   simp
  ·simp [hab,go_sem]
theorem A6e {t e:TypeId}{l1 l2:List Int}(h:Ints P t e l1.length)(hl:l2.length=l1.length):(Op.equalIn 10000 t (.agg (l1.map int).toArray) (.agg (l2.map int).toArray)).run P w=.ok (decide (l1=l2)) w:=by
 rw [run_equalIn_struct w 9999 t _ _ h.st h.hp]
 have hf:=h.hf
 have hn:(P.fieldsOf t).toList.length=l1.length:=by have:=congrArg List.length hf;simpa using this
 have:=A2k (P:=P) (w:=w) h.he l1 l2 (P.fieldsOf t).toList 0 (by rw [hn];exact hf) (by omega) (by omega)
 rw [List.drop_zero,List.drop_zero] at this
 exact this
theorem B6t {t e u:TypeId}{x y:Operand}(l1 l2:List Int){c1 c2:Array Value}{r:Bool}(h:Ints P t e l1.length)(hl:l2.length=l1.length)(ho:o.op=.binOp .eql t x y u)(hx:ev L x=some (.agg c1))(hy:ev L y=some (.agg c2))(e1:c1=(l1.map int).toArray)(e2:c2=(l2.map int).toArray)(er:decide (l1=l2)=r):Val P L w o (.bool r):=fun ρ ha=>by
 subst e1;subst e2;subst er
 have h1:=ha.ev (by rw [ho];simp [Op.operands]) hx
 have h2:=ha.ev (by rw [ho];simp [Op.operands]) hy
 have h3:=run_eqGuard_agg (P:=P) w .eql t x y (l1.map int).toArray (l2.map int).toArray h.hg
 have h4:=run_eql_struct (P:=P) w t (l1.map int).toArray (l2.map int).toArray
 have h5:=A6e (w:=w) h hl
 simp only [execOp,ho,h1,h2,Sem.run_bind]
 rw [h3]
 simp only [Result.andThen_ok]
 rw [h4,h5]
 rfl
end
end Go.En
namespace Go.En
open Go.RowKit
section
variable {P : Program}{L : List (Nat × Value)}{w : World}{o : Oper}
structure Shp (P:Program)(t:TypeId)(S:List (Bool × TypeId × Nat)):Prop where
 st:P.underlying t=some (.struct (P.fieldsOf t))
 hp:P.stoodInHeld t=false
 hg:P.eqGuardType P.depth t=false
 hf:((P.fieldsOf t).toList.map fun f=>(f.name== "_",f.type,f.offset))=S
end
end Go.En
namespace Go.En
open Go Go.RowKit
section
variable {P : Program}{n : Nat}{L : List (Nat × Value)}{w : World}{o : Oper}
theorem C6a {t:TypeId}{d:TypeDesc}{x:Operand}{v:Value}[UT P t d](hd:K1 d=true)(ho:o.op=.makeInterface t x)(hx:ev L x=some v):Val P L w o (.iface t v):=fun ρ ha=>by
 have h1:=ha.ev (by rw [ho];simp [Op.operands]) hx
 have h3:=G5 (t:=t) (P:=P) w
 cases d <;> first|(cases hd;done)|simp [execOp,ho,Instr.makeInterface,go_sem,h1,h3]
theorem D7p {f:FuncId}{t:TypeId}{r x:Operand}{name:String}{ts:Array TypeId}{v a:Value}(ho:o.op=.call { callee:=.invoke r name,args:=#[x],argTypes:=ts })
  (hr:ev L r=some (.iface t v)) (hx:ev L x=some a) (hm:∀ w,(method (P.types.size+Made.depth) t v name).run P w=.ok (f,v) w) (he:∀ args w,(callFunc f args).run P w=.ok (.enter f args) w):Enters P L w o f #[v,a]:=fun ρ ha=>by
 have h1:=ha.ev (by rw [ho];simp [Op.operands,Call.operands]) hr
 have h2:=ha.ev (by rw [ho];simp [Op.operands,Call.operands]) hx
 have hp:Sem.run P (Sem.program Sem.pure) w=.ok P w:=rfl
 have hm':∀ w,(method (P.types.size+100) t v name).run P w=.ok (f,v) w:=hm
 simp [execOp,ho,resolve,invoke,callMethod,go_sem,h1,h2,program,Sem.run_bind,hp,hm',he]
end
end Go.En
namespace Go.Dl
open Go.RowKit Go.En
section
variable {P : Program}{o : Oper}{F : Fr}{H : Hp}
theorem A0u {t:TypeId}{d:TypeDesc}{x:Operand}{y:Lf}{z:Dt}[UT P t d](ho:o.op=.makeInterface t x)(hd:K1 d=true)(hx:ef F x=some y)(hz:undt y=some z):LS P o F H [] (some (.d (.i t z))) []:=LS_v fun γ G w a ha _=>by
 have hm:x∈o.op.operands:=by rw [ho];simp [Op.operands]
 refine⟨_,C6a hd ho (C5 hm),?_⟩
 rw [LR,DR]
 exact⟨_,rfl,T7 hz (ha x hm _ hx)⟩
theorem B2q {f:FuncId}{t:TypeId}{r x:Operand}{nm:String}{ts:Array TypeId}{v z y:Dt}{l:Lf}(hc:Fp P f [v,z] y)(ho:o.op=.call { callee:=.invoke r nm,args:=#[x],argTypes:=ts })(hr:ef F r=some (.d (.i t v)))(hx:ef F x=some l)(hz:undt l=some z)
  (hm:∀ u w,(method (P.types.size+Made.depth) t u nm).run P w=.ok (f,u) w) (he:∀ args w,(callFunc f args).run P w=.ok (.enter f args) w):LS P o F H [] (some (ofd y)) []:=fun γ G w a ha hw K Q hK=>by
 have hm1:r∈o.op.operands:=by rw [ho];simp [Op.operands,Call.operands]
 have hm2:x∈o.op.operands:=by rw [ho];simp [Op.operands,Call.operands]
 have h1:=ha r hm1 _ hr
 rw [LR,DR] at h1
 obtain⟨u,h2,h3⟩:=h1
 have h4:=T7 hz (ha x hm2 _ hx)
 have hent:Enters P (LA o a) w o f #[u,a.eval x]:=D7p ho (by rw [C5 hm1,h2]) (C5 hm2) (fun w=>hm u w) he
 have hD:DR.valsR G w false [v,z] [u,a.eval x]:=by rw [DR.valsR];exact⟨u,_,rfl,fun h=>by(cases h),h3,by rw [DR.valsR];exact⟨_,_,rfl,fun h=>by(cases h),h4,by rw [DR.valsR]⟩⟩
 have hen:=hent a.eval (S1 o a)
 unfold Oper.wp
 rw [hen,Oper.upon_enter]
 refine(hc w G _ hw.glt hD).mono ?_
 rintro e w' ⟨v,rfl,hx,hv⟩
 exact hK _ _ _ _ (Evo.ext hw.glt hx fun y hy=>by cases hy;exact A3w hv)
theorem Q4 {f:FuncId}{g:Operand}{as:List Operand}{ts:Array TypeId}{ys:List Lf}{xs zs:List Dt}{x:Dt}(ho:o.op=.call { callee:=.value g,args:=as.toArray,argTypes:=ts })(hg:ef F g=some (.d (.v (.func (.func f) #[] #[]))))(hy:efl F as=some ys)(hu:undts ys=some xs)
  (he:∀ args w,(callFunc f args).run P w=.ok (.enter f args) w) (hc:Fp P f zs x)
  (hk:wk (.t xs) (.t zs):=by first|exact .eq rfl|(repeat (first|exact .eq rfl|exact .nil|refine .t1 ?_ ?_|refine .g1 ?_ ?_|exact .t0|exact .g0))):LS P o F H [] (some (ofd x)) []:=fun γ G w a ha hw K Q hK=>by
 have hmem:∀ x∈as,x∈o.op.operands:=fun x hx=>by rw [ho];simp [Op.operands,Call.operands,hx]
 have hmg:g∈o.op.operands:=by rw [ho];simp [Op.operands,Call.operands]
 have hL:=A9t (a:=a) hy fun x hx=>ha x (hmem x hx)
 have hgr:=ha g hmg _ hg
 rw [LR,DR] at hgr
 have hD:DR.valsR G w false zs (as.map a.eval):=by
  have h:=wk_r hk (u:=.tuple (as.map a.eval).toArray) (G:=G) (w:=w) (by rw [DR];exact⟨_,rfl,V6 hu hL⟩)
  rw [DR] at h
  obtain⟨q,e,h⟩:=h
  simp only [Value.tuple.injEq] at e
  have e:as.map a.eval=q:=by simpa using congrArg Array.toList e
  rw [e];exact h
 have hev:evl (LA o a) as=some (as.map a.eval):=by
  have:∀ x∈as,ev (LA o a) x=some (a.eval x):=fun x hx=>C5 (hmem x hx)
  clear ho hy hL ha hmem hmg hD
  induction as with
  | nil=>rfl
  | cons x r ih=>
   rw [evl,this x (List.mem_cons_self ..),ih fun x hx=>this x (List.mem_cons_of_mem _ hx)]
   rfl
 have hge:=C5 (a:=a) hmg
 rw [hgr] at hge
 have hen:=A1z (w:=w) (cap:=[]) ho hge hev he a.eval (S1 o a)
 unfold Oper.wp
 rw [hen,Oper.upon_enter,List.append_nil]
 refine(hc w G _ hw.glt hD).mono ?_
 rintro e w' ⟨v,rfl,hx,hv⟩
 exact hK _ _ _ _ (Evo.ext hw.glt hx fun y hy=>by cases hy;exact A3w hv)
theorem D5p {L:List (Nat × Value)}{w:World}{t u:TypeId}{x y:Operand}{a b:Bool}[ut:UT P t .bool](ho:o.op=.binOp .eql t x y u)(hx:ev L x=some (.bool a))(hy:ev L y=some (.bool b)):Val P L w o (.bool (a==b)):=fun ρ ha=>by
 have h1:=ha.ev (by rw [ho];simp [Op.operands]) hx
 have h2:=ha.ev (by rw [ho];simp [Op.operands]) hy
 have h4:=run_eql_bool (P:=P) w t a b ut.u
 simp [execOp,ho,h1,h2,h4,go_sem,eqGuard]
theorem D0f {t u:TypeId}{x y:Operand}{a:Bool}[ut:UT P t .bool](ho:o.op=.binOp .eql t x y u)(hx:ev (pk F o) x=some (.bool a))(hy:ev (pk F o) y=some (.bool a)):LS P o F H [] (some (.d (.v (.bool true)))) []:=A7 fun _=>by simpa using D5p ho hx hy
theorem D0g {t e u:TypeId}{x y:Operand}{a b c d:Int}(h:TwoInts P t e)(ho:o.op=.binOp .eql t x y u)(hx:ev (pk F o) x=some (.agg #[int a,int b]))(hy:ev (pk F o) y=some (.agg #[int c,int d])):LS P o F H [] (some (.d (.v (.bool (decide (a=c)&&decide (b=d)))))) []:=A7 fun _=>C0l h ho hx hy
theorem G3q {t e u:TypeId}{x y:Operand}{a b c d:Int}(h:TwoInts P t e)(ho:o.op=.binOp .neq t x y u)(hx:ev (pk F o) x=some (.agg #[int a,int b]))(hy:ev (pk F o) y=some (.agg #[int c,int d])):LS P o F H [] (some (.d (.v (.bool (!(decide (a=c)&&decide (b=d))))))) []:=A7 fun _=>C0j h ho hx hy
theorem C9h {w:World}{B:Nat}{e:TypeId}{size n:Nat}{v:Value}{xs:List Value}(h:w.ownsRow B e size v n xs):w.ownsRow 0 e size v n xs:=by
 refine⟨h.1,?_⟩
 rcases h.2 with h2|⟨g,cap,cur,rfl,h3,h4⟩
 ·exact .inl h2
 ·exact .inr ⟨g,cap,cur,rfl,Nat.zero_le _,h4⟩
theorem B8x {w w':World}{γ:Gh}{G:Nat→Prop}{k:Nat}{e:TypeId}{size m cap:Nat}{rows:List (List Dt)}{vs:List Value}(hglt:∀ b,G b→b<w.heap.size)(hx:Ext w w')(h:w'.ownsRow w.heap.size e size (.slice (some ⟨w.heap.size,0,none⟩) m cap) m vs)
  (hs:∀ r∈rows,r.length=size) (hm:rows.length=m) (hv:DR.valsR G w' true rows.flatten vs) (γ':Gh) (hγ:γ'=upg γ k (.slice (some ⟨w.heap.size,0,none⟩) m cap,0)) :
  Evo γ G w H [] [(k,.ls e size 0 rows)] (some (.o k 0)) (.slice (some ⟨w.heap.size,0,none⟩) m cap) γ' G w':=by
 subst hγ
 have hlt:w.heap.size<w'.heap.size:=by
  rcases h.2 with⟨h2,_⟩|⟨g,cap',cur,h2,_,h4,_⟩
  ·cases h2
  ·simp only [Value.slice.injEq,Option.some.injEq,Addr.mk.injEq] at h2
   rw [h2.1.1]
   exact(Array.getElem?_eq_some_iff.1 h4).1
 refine Evo.new (p:=(.slice (some ⟨w.heap.size,0,none⟩) m cap,0)) hx hglt (by simp) ⟨by rw [C3],hs,vs,?_,hv⟩ (fun b hb=>?_) fun y hy=>?_
 ·rw [C3,hm];exact C9h h
 ·cases hb;exact⟨Nat.le_refl _,hlt⟩
 ·cases hy
  rw [LR,C3]
  exact⟨⟨Nat.le_refl _,rfl⟩,fun _=>rfl⟩
theorem B6m {G:Nat→Prop}{w:World}{z:Value}(hz:z.oneCell'=true):∀ m,DR.valsR G w true (List.replicate m (.v z)) (List.replicate m z)
 | 0=>by rw [List.replicate_zero,List.replicate_zero,DR.valsR]
 | m+1=>by rw [List.replicate_succ,List.replicate_succ,DR.valsR];exact⟨_,_,rfl,fun _=>hz,by rw [DR],B6m hz m⟩
theorem B8e {t e:TypeId}{x y:Operand}{z:Value}{bytes:Nat}[ut:UT P t (.slice e)][ti:TI P e z 1 bytes](k m:Nat){k1 k2:IntKind}{zx zy:Int}(ho:o.op=.makeSlice t x y)(hx:ev (pk F o) x=some (.int k1 zx))(hy:ev (pk F o) y=some (.int k2 zy))(hzx:zx=(m:Int))(hzy:zy=(m:Int))(hz1:z.cells=#[z])(hz2:z.oneCell'=true)(hmax:bytes*m≤281474976710656)(hmax':m≤140737488355328) :
  LS P o F H [] (some (.o k 0)) [(k,.ls e 1 0 (List.replicate m [.v z]))]:=fun γ G w a ha hw K Q hK=>by
 obtain⟨i0,hi,hz0,hz1',hz2'⟩:=info_parts ti.i
 subst hzx;subst hzy
 obtain⟨w',hr,h2,h3⟩:=run_make_full (P:=P) w w.heap.size t e i0 z 1 ut.u hi hz0 hz1' k1 k2 m (by rw [hz2'];exact hmax) (by unfold maxLen;omega) (Nat.le_refl _)
 have a1:=(A0q ha).ev (by rw [ho];simp [Op.operands]) hx
 have a2:=(A0q ha).ev (by rw [ho];simp [Op.operands]) hy
 unfold Oper.wp
 rw [(by simp only [execOp,ho,a1,a2,Sem.run_bind,hr,Result.andThen_ok];rfl:(execOp a.eval o).run P w=.ok (.value (.slice (some ⟨w.heap.size,0,none⟩) m m)) w')]
 rw [hz1,Nat.mul_one,toList_madeCells_one] at h2
 have hfl:∀ m,(List.replicate m [Dt.v z]).flatten=List.replicate m (.v z):=fun m=>by
  induction m with
  | zero=>rfl
  | succ m ih=>rw [List.replicate_succ,List.flatten_cons,ih,List.replicate_succ];rfl
 refine hK _ _ _ _ (B8x hw.glt (Kb.none_ext h3) h2 (fun r hr=>by rw [List.eq_of_mem_replicate hr];rfl) (by simp) (by rw [hfl];exact B6m hz2 m) _ rfl)
theorem D0d {t e:TypeId}{x y:Operand}{z:Value}{size bytes:Nat}[ut:UT P t (.slice e)][ti:TI P e z size bytes](k c:Nat){k1 k2:IntKind}{zy:Int}(ho:o.op=.makeSlice t x y)(hx:ev (pk F o) x=some (.int k1 0))(hy:ev (pk F o) y=some (.int k2 zy))(hzy:zy=(c:Int))(hmax:bytes*c≤281474976710656)(hmax':c≤140737488355328) :
  LS P o F H [] (some (.o k 0)) [(k,.ls e size 0 [])]:=fun γ G w a ha hw K Q hK=>by
 obtain⟨i0,hi,hz0,hz1',hz2'⟩:=info_parts ti.i
 subst hzy
 obtain⟨w',hr,h2,h3⟩:=run_make_own (P:=P) w w.heap.size t e i0 z size ut.u hi hz0 hz1' k1 k2 c (by rw [hz2'];exact hmax) (by unfold maxLen;omega) (Nat.le_refl _)
 have a1:=(A0q ha).ev (by rw [ho];simp [Op.operands]) hx
 have a2:=(A0q ha).ev (by rw [ho];simp [Op.operands]) hy
 unfold Oper.wp
 rw [(by simp only [execOp,ho,a1,a2,Sem.run_bind,hr,Result.andThen_ok];rfl:(execOp a.eval o).run P w=.ok (.value (.slice (some ⟨w.heap.size,0,none⟩) 0 c)) w')]
 refine hK _ _ _ _ (B8x hw.glt (Kb.none_ext h3) h2 (fun r hr=>by cases hr) rfl (by rw [List.flatten_nil,DR.valsR]) _ rfl)
end
section
variable {P : Program}{c : Cx}{n : Nat}{Q : Post}{F : Fr}{H : Hp}
def Un (P:Program)(k:Code)(Q:Post)(a:Act)(w:World):Prop:=∀ b ks cs,∃ e a' w',Q e a' w'∧Arrives P (lone (b.at a (.code k::.inLoop k::ks)) cs w) b ks cs e a' w'
theorem D8x {k:Code}(h:X P c n k (Exit.then (Un P k Q) Q) F H){a:Act}{w:World}(hr:Rel c n F H a w):Un P k Q a w:=fun b ks cs=>by
 obtain⟨e,a₁,w₁,hq,harr⟩:=h a w hr b (.inLoop k::ks) cs
 cases e with
 | normal=>
  obtain⟨e₂,a₂,w₂,hq₂,harr₂⟩:=hq b ks cs
  exact⟨e₂,a₂,w₂,hq₂,.of_steps (Steps.trans harr (.one step_inLoop)) harr₂⟩
 | exit id=>exact⟨_,a₁,w₁,hq,.pass (x:=.inLoop k) rfl (fun _ _=>.inl (by simp)) harr⟩
 | goto l=>exact⟨_,a₁,w₁,hq,.pass (x:=.inLoop k) rfl (fun _ _=>.inl (by simp)) harr⟩
 | ret=>exact⟨_,a₁,w₁,hq,.pass (x:=.inLoop k) rfl (fun _ _=>.inl (by simp)) harr⟩
 | panic ch=>exact⟨_,a₁,w₁,hq,.pass (x:=.inLoop k) rfl (fun _ _=>.inl (by simp)) harr⟩
 | outgrown=>exact⟨_,a₁,w₁,hq,.pass (x:=.inLoop k) rfl (fun _ _=>.inl (by simp)) harr⟩
theorem X_un {k:Code}(h:X P c n k (Exit.then (Un P k Q) Q) F H):X P c n (.loop k) Q F H:=fun a w hr b ks cs=>by
 obtain⟨e,a',w',hq,harr⟩:=D8x h hr b ks cs
 exact⟨e,a',w',hq,.of_steps (.one step_loop) harr⟩
theorem H1b {k:Code}(h:X P c n k (Exit.then (Un P k Q) Q) F H):XK c n (Exit.then (Un P k Q) Q) .normal F H:=fun _ _ hr=>D8x h hr
end
end Go.Dl
namespace Go.Dl
open Go.RowKit Go.En
section
variable {P : Program}{L : List (Nat × Value)}{w : World}{o : Oper}{F : Fr}{H : Hp}
theorem zQ {t u:TypeId}{x y:Operand}{a b:Int}(ho:o.op=.binOp .quo t x y u)(hx:ev L x=some (int a))(hy:ev L y=some (int b))(h0:0≤a)(hb:1≤b)(h2:a≤9223372036854775807):Val P L w o (int (a / b)):=D5f (k:=.i64) ho hx hy h0 hb h2
theorem zRm {t u:TypeId}{x y:Operand}{a b:Int}(ho:o.op=.binOp .rem t x y u)(hx:ev L x=some (int a))(hy:ev L y=some (int b))(h0:0≤a)(hb:1≤b):Val P L w o (int (a % b)):=D5e (k:=.i64) ho hx hy h0 hb
theorem zCu {s d:TypeId}{x:Operand}{c:UInt8}{ds:TypeDesc}[UT P s ds][UT P d (.int .i64)](ho:o.op=.convert s d x)(hx:ev L x=some (.int .u8 (c.toNat:Int))):Val P L w o (int (c.toNat:Int)):=P8 (k:=.u8) (k':=.i64) ho hx (by have:=UInt8.toNat_lt c;rw [show IntKind.min .i64 = -9223372036854775808 from rfl];omega) (by have:=UInt8.toNat_lt c;rw [show IntKind.max .i64=9223372036854775807 from rfl];omega)
theorem zCb {s d:TypeId}{x:Operand}{a:Int}{ds:TypeDesc}[UT P s ds][UT P d (.int .u8)](ho:o.op=.convert s d x)(hx:ev L x=some (int a))(h1:0≤a)(h2:a≤255):Val P L w o (.int .u8 a):=P8 (k:=.i64) (k':=.u8) ho hx h1 h2
theorem B4l {G:Nat→Prop}{w:World}{one:Bool}:∀ {vs us:List Value},DR.valsR G w one (vs.map .v) us→us=vs
 | [],us,h=>by rw [List.map_nil,DR.valsR] at h;exact h
 | v::r,us,h=>by
  rw [List.map_cons,DR.valsR] at h
  obtain⟨u,q,rfl,_,h2,h3⟩:=h
  rw [DR] at h2
  rw [h2,B4l h3]
theorem D9t {α β:Type}(f:α→β):∀ l:List α,(l.map fun b=>[f b]).flatten=l.map f
 | []=>rfl
 | x::r=>by rw [List.map_cons,List.flatten_cons,D9t f r];rfl
theorem A4f {s d e:TypeId}{x:Operand}{l:List UInt8}{rows:List (List Dt)}[us:UT P s (.slice e)][ue:UT P e (.int .u8)][ud:UT P d .string](ho:o.op=.convert s d x)(hx:ef F x=some (.d (.s 1 rows)))(hr:rows=l.map fun b=>[.v (.int .u8 b.toNat)]) :
  LS P o F H [] (some (.d (.v (str l)))) []:=LS_v fun γ G w a ha _=>by
 have hm:x∈o.op.operands:=by rw [ho];simp [Op.operands]
 have h1:=ha x hm _ hx
 rw [LR,DR] at h1
 obtain⟨p,cap,h2,h3,h4,h5⟩:=h1
 have h6:=C5 (a:=a) hm
 rw [h2] at h6
 have hl:rows.length=l.length:=by rw [hr,List.length_map]
 refine⟨str l,?_,by rw [LR,DR]⟩
 by_cases h0:0<rows.length
 ·obtain⟨b,off,rfl,_,h7⟩:=h5 h0
  obtain⟨us',h8,h9,_⟩:=B5c h7
  have hv:us'=l.map fun b=>Value.int .u8 b.toNat:=by
   have:rows.flatten=(l.map fun b=>Value.int .u8 b.toNat).map Dt.v:=by rw [hr,D9t (fun b:UInt8=>Dt.v (.int .u8 b.toNat)),List.map_map];rfl
   rw [this] at h9
   exact B4l h9
  rw [hv] at h8
  exact B0s (us:=us) (ue:=ue) (ud:=ud) ho h6 hl.symm h8
 ·have h00:l=[]:=List.length_eq_zero_iff.1 (by omega)
  subst h00
  intro ρ hag
  have r1:=hag.ev hm h6
  have e0:rows.length=0:=by omega
  rw [e0] at r1
  have u1:=G5 (t:=s) (P:=P) w
  have u2:=G5 (t:=e) (P:=P) w
  have u3:=G5 (t:=d) (P:=P) w
  cases p
  ·simp [execOp,ho,r1,convert,u1,u2,u3,Conv.bytesToString,loadCells,loadCellsFrom,go_sem];rfl
  ·simp [execOp,ho,r1,convert,u1,u2,u3,Conv.bytesToString,loadCells,loadCellsFrom,go_sem];rfl
end
section
variable {P : Program}{c : Cx}{n : Nat}{Q : Post}{F : Fr}{H : Hp}{W : Nat}
theorem X_jn (W:Nat)(L:List Nat)(V:Fr)(O:Hp){x y:Code}(h1:X P c n x (Mid c n (fun _:Unit=>V++dr W F) (fun _=>O++dh W L H) (fun _=>True) Q) F H)(h2:X P c n y Q (V++dr W F) (O++dh W L H)):X P c n (.seq x y) Q F H:=
 G2r (ι:=Unit) (fun _=>V++dr W F) (fun _=>O++dh W L H) (fun _=>True) h1 fun _ _=>h2
theorem D3t {ι:Type}{Ff:ι→Fr}{Hf:ι→Hp}{M:ι→Prop}(i:ι)(hf:fle (Ff i) F)(hh:hle (Hf i) H)(hm:M i):XK c n (Mid c n Ff Hf M Q) .normal F H:=fun _ _ hr=>⟨i,hr.le hf hh,hm⟩
theorem A6w {L:List Nat}{V F0:Fr}{O H0:Hp}
  (hf:fle V F:=by(repeat (refine A6 (by first|rfl|simp) ?_));exact B8 _)
  (hh:hle O H:=by(repeat (refine A1 (by first|rfl|simp) ?_));exact A4 _)
  (hF:fle (dr W F0) F:=by(repeat (refine H5 rfl ?_));exact H4 _)
  (hH:hle (dh W L H0) H:=by(repeat (first|refine G8 rfl ?_|refine G7 rfl ?_));exact G6 _):XK c n (Mid c n (fun _:Unit=>V++dr W F0) (fun _=>O++dh W L H0) (fun _=>True) Q) .normal F H:=
 D3t () (B5q hf hF) (B5n hh hH) trivial
theorem D3q (s sz:Nat){k:Code}(hs:lf F s=some (.d (.v (.slice none 0 0))))(h:X P c n k Q ((s,.d (.s sz []))::F) H):X P c n k Q F H:=fun a w hr=>h a w (by
 obtain⟨h1,h2,γ,G,hw,hsl⟩:=hr
 refine⟨h1,h2,γ,G,hw,fun q x hq=>?_⟩
 rw [J9] at hq
 split at hq
 ·rename_i e;subst e
  cases hq
  obtain⟨u,h3,h4⟩:=hsl s _ hs
  refine⟨u,h3,?_⟩
  rw [LR] at h4 ⊢
  exact wk_r .nil h4
 ·exact hsl q x hq)
end
end Go.Dl
namespace Go.Dl
open Go.RowKit Go.En
section
variable {P : Program}{c : Cx}{n : Nat}{Q : Post}{F : Fr}{H : Hp}{W : Nat}
theorem X_jb (W:Nat)(L:List Nat)(s:Nat)(C:Prop){x y:Code}(h1:X P c n x (Mid c n (fun b:Bool=>(s,.d (.v (.bool b)))::dr W F) (fun _=>dh W L H) (fun b=>b=true↔C) Q) F H)(h2:∀ b,(b=true↔C)→X P c n y Q ((s,.d (.v (.bool b)))::dr W F) (dh W L H)):X P c n (.seq x y) Q F H:=
 G2r (ι:=Bool) (fun b=>(s,.d (.v (.bool b)))::dr W F) (fun _=>dh W L H) (fun b=>b=true↔C) h1 h2
theorem B0l {L:List Nat}{s:Nat}{C:Prop}{F0:Fr}{H0:Hp}(b:Bool)(hb:b=true↔C)
  (hf:lf F s=some (.d (.v (.bool b))):=by first|rfl|simp)
  (hF:fle (dr W F0) F:=by(repeat (refine H5 rfl ?_));exact H4 _)
  (hH:hle (dh W L H0) H:=by(repeat (first|refine G8 rfl ?_|refine G7 rfl ?_));exact G6 _):XK c n (Mid c n (fun b:Bool=>(s,.d (.v (.bool b)))::dr W F0) (fun _=>dh W L H0) (fun b=>b=true↔C) Q) .normal F H:=
 D3t b (A6 hf hF) hH hb
end
end Go.Dl
