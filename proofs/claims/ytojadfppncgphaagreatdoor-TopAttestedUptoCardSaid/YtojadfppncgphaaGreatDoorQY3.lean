/- Own text. -/
import Derived.Shelf.Strings.Builder1
import Derived.Test.YtojadfppncgphaaGreatDoorQYx
set_option linter.all false
set_option maxHeartbeats 16000000
set_option maxRecDepth 8000
namespace Go.Proofs.YtojadfppncgphaaGreatDoor
section
open Go.RowKit Go.En Go.Dl Go.Tp
def unOK (w:List Int)(u:Unt):Bool:=decide (u.segs.length≤w.length)&&decide (u.segs=w.take u.segs.length)
def unL (us:List Unt)(b:Int):Nat:=((us[b.toNat]?).map (·.segs.length)).getD 0
def unB (us:List Unt)(w:List Int)(b:Int)(i:Nat)(u:Unt):Int:=if unOK w u&&(decide (b<0)||decide (unL us b<u.segs.length)) then (i:Int) else b
def unG (us:List Unt)(w:List Int):Nat→Int→List Unt→Int
 | _,b,[]=>b
 | i,b,u::r=>unG us w (i+1) (unB us w b i u) r
def unF (us:List Unt)(w:List Int):Int:=unG us w 0 (-1) us
attribute [local irreducible] X XL XW XG XK Val LS Fp Fo Calls bodyPost Code.wp
theorem c88g (a b:List Int):Fp Tryz.prog 88 [ints a,ints b] (dB (decide (a=b))):=by
 by_cases hl:a.length=b.length
 rotate_left
 ·rw [decide_eq_false (fun e=>hl (by rw [e]))]
  refine fXw Tryz.func88 Tryz.ntmps88 fun c hM=>?_
  (repeat' (first|refine Wz ?_|refine Wb fun hb=>?_|apply Wd <;>intro hh))
  all_goals (try exact oMw)
  exact rXw hM
 refine fXw Tryz.func88 Tryz.ntmps88 fun c hM=>?_
 (repeat' (first|refine Wz ?_|refine Wb fun hb=>?_|apply Wd <;>intro hh))
 all_goals (try exact oMw)
 refine X_lp (ι:=Nat) 67100720 [] (fun i=>[(13,.d (dI i))]) (fun _=>[]) (fun i=>i≤a.length∧a.take i=b.take i) (fun i=>a.length-i) (0) ?_ ?_
 ·exact⟨zLw,rfl⟩
 rintro i ⟨hi,hq⟩
 by_cases hlt:i<a.length
 ·obtain⟨x,hx⟩:=gex hlt
  obtain⟨y,hy⟩:=gex (l:=b) (i:=i) oEw
  by_cases hxy:x=y
  ·subst hxy
   (repeat' (first|refine iDw (gm hx) ?_|refine iDw (gm hy) ?_|refine Wz ?_|apply Wd <;>intro hh))
   all_goals (try exact oMw)
   all_goals (first|exact absurd rfl (by assumption)|exact A0 (i+1) ⟨oEw,by rw [List.take_add_one,List.take_add_one,hx,hy,hq]⟩ oEw)
  ·have hne:a≠b:=fun e=>by subst e;rw [hx] at hy;exact hxy (Option.some.inj hy)
   rw [decide_eq_false hne]
   (repeat' (first|refine iDw (gm hx) ?_|refine iDw (gm hy) ?_|refine Wz ?_|apply Wd <;>intro hh))
   all_goals (try exact oMw)
   all_goals (first|exact absurd (by assumption) hxy|exact rXw hM)
 ·have he:a=b:=by rw [List.take_of_length_le oEw,List.take_of_length_le oEw] at hq;exact hq
  rw [decide_eq_true he]
  (repeat' (first|refine Wz ?_|apply Wd <;>intro hh))
  all_goals (try exact oMw)
  exact rXw hM
theorem C8a {us:List Unt}{w:List Int}{b:Int}{i:Nat}{u:Unt}(h:unOK w u=false):unB us w b i u=b:=by unfold unB;rw [h];rfl
theorem c192 (o:Orth)(w:List Int):Fp Tryz.prog 192 [.g (A0h o),ints w] (dI (unF o.units w)):=by
 unfold unF
 refine fXw Tryz.func192 Tryz.ntmps192 fun c hM=>?_
 (repeat' (first|refine Wz ?_|refine Wb fun hb=>?_))
 refine X_lp (ι:=Nat × Int) 1125899906840800 [] (fun s=>[(5,.d (dI s.2)),(11,.d (dI s.1))]) (fun _=>[]) (fun s=>s.1≤o.units.length∧(-1≤s.2∧s.2<o.units.length)∧unG o.units w 0 (-1) o.units=unG o.units w s.1 s.2 (o.units.drop s.1)) (fun s=>o.units.length-s.1) ((0,-1)) ?_ ?_
 ·exact⟨zLw,⟨oEw,oEw⟩,rfl⟩
 rintro⟨i,b⟩ ⟨hi,hb,hq⟩
 dsimp only at hi hb hq ⊢
 by_cases hlt:i<o.units.length
 rotate_left
 ·rw [List.drop_eq_nil_of_le oEw,unG] at hq
  (repeat' (first|refine Wz ?_|apply Wd <;>intro hh))
  all_goals (try exact oMw)
  refine rEw hM ?_
  rw [hq];rfl
 obtain⟨u,hx⟩:=gex hlt
 rw [drp hx,unG] at hq
 have e:=c88g u.segs (w.take u.segs.length)
 have eA:(w.map iC).take u.segs.length=(w.take u.segs.length).map iC:=by rw [List.map_take]
 by_cases hl:u.segs.length≤w.length
 rotate_left
 ·have hno:unOK w u=false:=by unfold unOK;rw [decide_eq_false hl];rfl
  rw [C8a hno] at hq
  (repeat' (first|refine iDw (gm hx) ?_|refine Wz ?_|apply Wd <;>intro hh))
  all_goals (try exact oMw)
  exact A0 (i+1,b) ⟨oDw,hb,hq⟩ (oDw)
 cases hs:decide (u.segs=w.take u.segs.length) with
 | false=>
  rw [hs] at e
  have hno:unOK w u=false:=by unfold unOK;rw [hs,Bool.and_false]
  rw [C8a hno] at hq
  (repeat' (first|refine G_x (A2 (m:=i) Z Z Z Z (gm hx)) Z Z ?_|refine G_x (M2 (b:=u.segs.length) Z Z Z oEw (by rw [List.length_map];omega)) Z Z ?_|refine G_x (A3 Z Z Z en88 e (.t1 (.eq rfl) (.t1 (.eq (congrArg (Dt.s 1) eA)) .t0))) Z Z ?_|refine Wz ?_|apply Wd <;>intro hh))
  all_goals (try exact oMw)
  exact A0 (i+1,b) ⟨oDw,hb,hq⟩ (oDw)
 | true=>
  rw [hs] at e
  have hyes:unOK w u=true:=by unfold unOK;rw [decide_eq_true hl,hs];rfl
  by_cases hb0:b<0
  ·have hB:unB o.units w b i u=i:=by unfold unB;rw [hyes,decide_eq_true hb0];rfl
   rw [hB] at hq
   (repeat' (first|refine G_x (A2 (m:=i) Z Z Z Z (gm hx)) Z Z ?_|refine G_x (M2 (b:=u.segs.length) Z Z Z oEw (by rw [List.length_map];omega)) Z Z ?_|refine G_x (A3 Z Z Z en88 e (.t1 (.eq rfl) (.t1 (.eq (congrArg (Dt.s 1) eA)) .t0))) Z Z ?_|refine Wz ?_|apply Wd <;>intro hh))
   all_goals (try exact oMw)
   exact A0 (i+1,(i:Int)) ⟨oDw,⟨oDw,oDw⟩,hq⟩ (oDw)
  obtain⟨m,hm⟩:∃ m:Nat,b=(m:Int):=⟨b.toNat,oEw⟩
  subst hm
  obtain⟨z,hz⟩:=gex (l:=o.units) (i:=m) oEw
  have hL:unL o.units (m:Int)=z.segs.length:=by unfold unL;rw [Int.toNat_natCast,hz];rfl
  by_cases hlen:z.segs.length<u.segs.length
  ·have hB:unB o.units w (m:Int) i u=i:=by unfold unB;rw [hyes,hL,decide_eq_true hlen,Bool.or_true];rfl
   rw [hB] at hq
   (repeat' (first|refine G_x (A2 (m:=i) Z Z Z Z (gm hx)) Z Z ?_|refine G_x (A2 (m:=m) Z Z Z Z (gm hz)) Z Z ?_|refine G_x (M2 (b:=u.segs.length) Z Z Z oEw (by rw [List.length_map];omega)) Z Z ?_|refine G_x (A3 Z Z Z en88 e (.t1 (.eq rfl) (.t1 (.eq (congrArg (Dt.s 1) eA)) .t0))) Z Z ?_|refine Wz ?_|apply Wd <;>intro hh))
   all_goals (try exact oMw)
   exact A0 (i+1,(i:Int)) ⟨oDw,⟨oDw,oDw⟩,hq⟩ (oDw)
  ·have hB:unB o.units w (m:Int) i u=m:=by unfold unB;rw [hyes,hL,decide_eq_false hlen,decide_eq_false hb0];rfl
   rw [hB] at hq
   (repeat' (first|refine G_x (A2 (m:=i) Z Z Z Z (gm hx)) Z Z ?_|refine G_x (A2 (m:=m) Z Z Z Z (gm hz)) Z Z ?_|refine G_x (M2 (b:=u.segs.length) Z Z Z oEw (by rw [List.length_map];omega)) Z Z ?_|refine G_x (A3 Z Z Z en88 e (.t1 (.eq rfl) (.t1 (.eq (congrArg (Dt.s 1) eA)) .t0))) Z Z ?_|refine Wz ?_|apply Wd <;>intro hh))
   all_goals (try exact oMw)
   exact A0 (i+1,(m:Int)) ⟨oDw,hb,hq⟩ (oDw)
end
end Go.Proofs.YtojadfppncgphaaGreatDoor
namespace Go.Proofs
open Go.RowKit Go.Shelf Go.Lib
def Tryz.laysBS_ren:Go.Shelf.Ren:=⟨fun|169=>194|n=>n,fun|70=>295|9=>9|0=>0|72=>297|37=>238|127=>348|3=>3|5=>5|n=>n,fun|n=>n⟩
theorem Tryz.laysBS:Go.Proofs.Lays.n169 Tryz.prog Tryz.laysBS_ren:={
 mixed:=by kernel_rfl
 f169:=Tryz.func194.trans (congrArg some (by kernel_rfl))
 t0:=Tryz.underlying0
 a0:=Tryz.isAgg0
 z0:=Tryz.sizeOf0
 v0:=Tryz.zeroValue0
 t3:=Tryz.underlying3
 a3:=Tryz.isAgg3
 z3:=Tryz.sizeOf3
 v3:=Tryz.zeroValue3
 t9:=Tryz.underlying9
 a9:=Tryz.isAgg9
 z9:=Tryz.sizeOf9
 v9:=Tryz.zeroValue9
 t37:=Tryz.underlying238
 a37:=Tryz.isAgg238
 z37:=Tryz.sizeOf238
 v37:=Tryz.zeroValue238
 t70:=Tryz.underlying295
 a70:=Tryz.isAgg295
 z70:=Tryz.sizeOf295
 v70:=Tryz.zeroValue295
 t72:=Tryz.underlying297
 a72:=Tryz.isAgg297
 z72:=Tryz.sizeOf297
 v72:=Tryz.zeroValue297
 t127:=Tryz.underlying348
 a127:=Tryz.isAgg348
 z127:=Tryz.sizeOf348
 v127:=Tryz.zeroValue348 }
theorem Tryz.extraBS:Go.Proofs.Builder.Extra Tryz.prog Tryz.laysBS_ren:={
 t5:=Tryz.underlying5
 a5:=Tryz.isAgg5
 z5:=Tryz.sizeOf5
 v5:=Tryz.zeroValue5
 infoByte:=by kernel_rfl
 cellsByte:=by kernel_rfl
 sizeByte:=by kernel_rfl
 neB5:=by decide
 sizeBuilder:=by kernel_rfl
 liesBuilder:=by kernel_rfl }
end Go.Proofs
namespace Go.En
open Go Go.RowKit
section
variable {P : Program}{n : Nat}{Q : Post}{L : List (Nat × Value)}{w : World}{ops rest : List Oper}{o : Oper}
theorem B5a {tp te:TypeId}{j:TypeInfo}(hp:P.underlying tp=some (.pointer te))(hte:P.info? te=some j):(binOp .eql tp (.pointer none) (.pointer none)).run P w=.ok (.bool true) w:=by
 have h:∀ d:Nat,(Op.equalIn (d+1) tp (.pointer none) (.pointer none)).run P w=.ok true w:=fun d=>by
  simp [Op.equalIn,run_underlying hp,sizeOf,typeInfo,hte]
 simp only [binOp]
 simp [Op.equal,Op.maxDepth,h 9999]
theorem B4z {tp te:TypeId}{j:TypeInfo}(a:Addr)(hp:P.underlying tp=some (.pointer te))(hte:P.info? te=some j):(binOp .eql tp (.pointer (some a)) (.pointer none)).run P w=.ok (.bool false) w:=by
 have h:∀ d:Nat,(Op.equalIn (d+1) tp (.pointer (some a)) (.pointer none)).run P w=.ok false w:=fun d=>by
  simp [Op.equalIn,run_underlying hp,sizeOf,typeInfo,hte]
 simp only [binOp]
 simp [Op.equal,Op.maxDepth,h 9999]
theorem C7u {tp te:TypeId}{j:TypeInfo}{x y:Operand}{u:TypeId}(hp:P.underlying tp=some (.pointer te))(hte:P.info? te=some j)(ho:o.op=.binOp .eql tp x y u)(hx:ev L x=some (.pointer none))(hy:ev L y=some (.pointer none)):Val P L w o (.bool true):=fun ρ ha=>by
 have h1:=ha.ev (by rw [ho];simp [Op.operands]) hx
 have h2:=ha.ev (by rw [ho];simp [Op.operands]) hy
 have h4:=B5a (P:=P) (w:=w) hp hte
 have h3:=run_underlying hp
 simp [execOp,ho,h1,h2,h3,h4,eqGuard]
theorem C7t {tp te:TypeId}{j:TypeInfo}{a:Addr}{x y:Operand}{u:TypeId}(hp:P.underlying tp=some (.pointer te))(hte:P.info? te=some j)(ho:o.op=.binOp .eql tp x y u)(hx:ev L x=some (.pointer (some a)))(hy:ev L y=some (.pointer none)):Val P L w o (.bool false):=fun ρ ha=>by
 have h1:=ha.ev (by rw [ho];simp [Op.operands]) hx
 have h2:=ha.ev (by rw [ho];simp [Op.operands]) hy
 have h4:=B4z (P:=P) (w:=w) a hp hte
 have h3:=run_underlying hp
 simp [execOp,ho,h1,h2,h3,h4,eqGuard]
theorem C7v {tp te:TypeId}{j:TypeInfo}{a:Addr}{x y:Operand}{u:TypeId}(hp:P.underlying tp=some (.pointer te))(hte:P.info? te=some j)(ho:o.op=.binOp .neq tp x y u)(hx:ev L x=some (.pointer (some a)))(hy:ev L y=some (.pointer (some a))):Val P L w o (.bool false):=fun ρ ha=>by
 have h1:=ha.ev (by rw [ho];simp [Op.operands]) hx
 have h2:=ha.ev (by rw [ho];simp [Op.operands]) hy
 have h4:=Lib.run_neq_ptr_same (P:=P) (w:=w) a hp hte
 have h3:=run_underlying hp
 simp [execOp,ho,h1,h2,h3,h4,eqGuard]
theorem B6u {s d:TypeId}{x:Operand}{v v':Value}(ho:o.op=.convert s d x)(hx:ev L x=some v)(hr:(convert s d v).run P w=.ok v' w):Val P L w o v':=fun ρ ha=>by
 have h1:=ha.ev (by rw [ho];simp [Op.operands]) hx
 simp [execOp,ho,h1,hr]
theorem D5n {f:FuncId}{x:Operand}{ty:Array TypeId}{v v':Value}(ho:o.op=.call { callee:=.value (.func f),args:=#[x],argTypes:=ty })(hx:ev L x=some v)(hr:(callFunc f #[v]).run P w=.ok (.value v') w):Val P L w o v':=fun ρ ha=>by
 have h1:=ha.ev (by rw [ho];simp [Op.operands,Call.operands]) hx
 have h2:=ha.ev (by rw [ho];simp [Op.operands,Call.operands]) (show ev L (.func f)=some (.func (.func f) #[] #[]) from rfl)
 simp [execOp,ho,resolve,invoke,go_sem,h1,h2,hr]
theorem D8s {d:Nat}{t u e:TypeId}{s x:Operand}[ut:UT P t (.slice e)][uu:UT P u .string][ti:TI P e (.int .u8 0) 1 1](hg:gst ops L o=some true)(hd:odst n o.dst=some d)(ho:o.op=.call { callee:=.builtin .append,args:=#[s,x],argTypes:=#[t,u] })
  {v:Value} {B m:Nat} {xs:List Value} (hs:ev L s=some v) (hown:w.ownsRow B e 1 v m xs) {b:ByteArray} (hx:ev L x=some (.string b)) (hmax:m+b.size≤140737488355328) (hB:B≤w.heap.size)
  (k:∀ v' w',w'.ownsRow B e 1 v' (m+b.size) (xs++Lib.strCells b)→Kb v.ownBlock w w'→EL P n ops Q rest ((d,v')::L) w'):EL P n ops Q (o::rest) L w:=by
 obtain⟨i0,hi,hz0,hz1,hz2⟩:=info_parts ti.i
 obtain⟨v',w',hr,h2,h3,_⟩:=Lib.run_append_own_string (P:=P) w B t u o.type e i0 ut.u uu.u hi hz0 hz1 hz2 v m xs hown b (by unfold maxLen;omega) hmax hB
 refine R6 hg hd (fun ρ ha=>?_) (k v' w' h2 h3)
 have a1:=ha.ev (by rw [ho];simp [Op.operands,Call.operands]) hs
 have a2:=ha.ev (by rw [ho];simp [Op.operands,Call.operands]) hx
 simp only [execOp,ho,resolve,invoke,builtin,Sem.run_bind,Sem.run_pure,Result.andThen_ok,List.map_toArray,List.map_cons,List.map_nil,a1,a2,hr]
end
end Go.En
namespace Go.Proofs.YtojadfppncgphaaGreatDoor
section
open Go.RowKit Go.En Go.Dl Go.Tp
def Bl (w0:World)(b:Nat)(l:List UInt8)(w:World):Prop:=w0.heap.size≤b∧Ext w0 w∧∃ p v,(p=.pointer none∨p=.pointer (some ⟨b,0,none⟩))∧Row w b 297 [p,v]∧w.ownsRow w0.heap.size 5 1 v l.length (Lib.byteCells l)∧v.ownBlock≠some b
def Bu (w0:World)(b:Nat)(l:List UInt8)(w:World):Prop:=w0.heap.size≤b∧Ext w0 w∧∃ v,Row w b 297 [.pointer (some ⟨b,0,none⟩),v]∧w.ownsRow w0.heap.size 5 1 v l.length (Lib.byteCells l)∧v.ownBlock≠some b
theorem Bu.bl {w0:World}{b:Nat}{l:List UInt8}{w:World}(h:Bu w0 b l w):Bl w0 b l w:=by
 obtain⟨h1,h2,v,h3,h4,h5⟩:=h
 exact⟨h1,h2,_,v,.inr rfl,h3,h4,h5⟩
theorem C9j {w w':World}{B:Nat}{e:TypeId}{sz n b:Nat}{v:Value}{xs:List Value}(h:w.ownsRow B e sz v n xs)(k:Kb (some b) w w')(hne:v.ownBlock≠some b):w'.ownsRow B e sz v n xs:=by
 refine A8r h fun g hg=>?_
 have:=A3v h
 exact World.grownBy.block k g (h.lt g (this.trans hg)).2 (fun e=>hne (by rw [this,hg,e]))
theorem G4g (v:Value)(w:World):(callFunc 273 #[v]).run Tryz.prog w=.ok (.value v) w:=by
 rw [run_callFunc_extern Tryz.func273 (by kernel_rfl) (by kernel_rfl) (by kernel_rfl) (e:=Extern.AbiNoEscape.same) (by kernel_rfl)]
 rw [Lib.run_noEscape]
 rfl
attribute [local irreducible] E EL K Val Enters Rt Calls bodyPost Code.wp RQ
theorem B9i {w0:World}{b:Nat}{l:List UInt8}{w:World}(h:Bl w0 b l w):Calls Tryz.prog 243 #[.pointer (some ⟨b,0,none⟩)] w (Rt fun _ w'=>Bu w0 b l w'):=by
 obtain⟨h1,h2,p,v,hp,h3,h4,h5⟩:=h
 obtain⟨j,hj,_,hjs,_⟩:=info_parts ii297.i
 have hsh:w.shape? b=some (297,2):=by
  have h30:w.heap[b]?=some (.cells #[p,v] 297 (0,0)):=h3
  simp [World.shape?,h30]
 refine G3 (n:=20) (args:=[.pointer (some ⟨b,0,none⟩)]) Tryz.func243 rfl Tryz.ntmps243 (by simp) ?_
 rcases hp with rfl|rfl
 ·(repeat' (first|refine eV Z Z (C7u Tryz.underlying295 hj rfl rfl rfl) ?_|refine eV Z Z (B6u (v':=.pointer (some ⟨b,0,none⟩)) Z Z (Lib.run_to_unsafe _ ⟨b,0,none⟩ Tryz.underlying295 Tryz.underlying377 hj (by rw [hjs];decide) hsh (Nat.zero_lt_succ 1))) ?_|refine eV Z Z (D5n (v':=.pointer (some ⟨b,0,none⟩)) Z Z (G4g _ _)) ?_|refine eV Z Z (B6u (v':=.pointer (some ⟨b,0,none⟩)) Z Z (Lib.run_from_unsafe _ ⟨b,0,none⟩ Tryz.underlying377 Tryz.underlying295 hj hsh (by kernel_rfl))) ?_|(refine J3 (cs:=[_]) h3 h2 h1 rfl rfl rfl rfl rfl rfl rfl rfl (Nat.le_of_ble_eq_true rfl) (fun wU rU0 xU kU=>?_))|refine Ly ?_|fail))
  exact B1v (W7 Z ⟨h1,xU,v,rU0,C9j h4 kU h5,h5⟩)
 ·(repeat' (first|refine eV Z Z (C7t Tryz.underlying295 hj rfl rfl rfl) ?_|refine eV Z Z (C7v Tryz.underlying295 hj rfl rfl rfl) ?_|refine Ly ?_|fail))
  exact B1v (W7 Z ⟨h1,h2,v,h3,h4,h5⟩)
theorem B1a {w0:World}{b:Nat}{l s:List UInt8}{w:World}(h:Bl w0 b l w)(hn:l.length+s.length≤140737488355328):Calls Tryz.prog 193 #[.pointer (some ⟨b,0,none⟩),str s] w (Rt fun _ w'=>Bl w0 b (l++s) w'):=by
 refine G3 (n:=19) (args:=[.pointer (some ⟨b,0,none⟩),str s]) Tryz.func193 rfl Tryz.ntmps193 (by simp) ?_
 (repeat' ((fail_if_success (refine J2 (x:=(Code.region 2 _ _)) ?_));first|(refine D7 Z Z (D5 Z Z G8o) (B9i h) (fun vC wC hC=>?_);obtain⟨h1,h2,v,h3,h4,h5⟩:=hC)|refine Sy ?_|fail))
 have hsz:=h2.size
 (repeat' (first|(refine D8s Z Z Z Z h4 rfl (by show l.length+s.toArray.size≤_;simpa using hn) hsz (fun vA wA oA kA=>?_);have h3A:=kA.row h3 (fun e=>h5 e.symm);have xA:Ext w0 wA:=kA.ext h2 (fun b' hb'=>(h4.lt b' hb').1);obtain⟨ao,na,ca,rfl⟩:∃ ao na ca,vA=.slice ao na ca:=(by rcases oA.2 with⟨hv,_⟩|⟨g,cap,cur,hv,_⟩;exact⟨_,_,_,hv⟩;exact⟨_,_,_,hv⟩))|(refine J3 (cs:=[_]) h3A xA h1 rfl rfl rfl rfl rfl rfl rfl rfl (Nat.le_of_ble_eq_true rfl) (fun wU rU0 xU kU=>?_))|refine Ly ?_|fail))
 have hbw:b<wC.heap.size:=h3.lt
 have hne:(Value.slice ao na ca).ownBlock≠some b:=fun e=>by
  rcases oA.2 with⟨hv,_⟩|⟨g,cap,cur,hv,_,hg,_⟩
  ·rw [hv] at e;cases e
  ·rw [hv] at e
   have hgb:g=b:=Option.some.inj e
   subst hgb
   have h3B:wA.heap[g]?=some (.cells _ 297 (0,0)):=h3A
   rw [hg] at h3B
   cases h3B
 refine G5i Z Z Z ⟨h1,xU,_,_,.inr rfl,rU0,?_,hne⟩
 have:=C9j oA kU hne
 rw [show(l++s).length=l.length+({ data:=s.toArray }:ByteArray).size by rw [List.length_append];rfl]
 rw [show Lib.byteCells (l++s)=Lib.byteCells l++Lib.strCells { data:=s.toArray } by unfold Lib.byteCells;rw [List.map_append];rfl]
 exact this
theorem B3v {w0:World}{b:Nat}{l:List UInt8}{w:World}(h:Bl w0 b l w):Calls Tryz.prog 194 #[.pointer (some ⟨b,0,none⟩)] w (Rt fun u w'=>u=str l∧Ext w0 w'):=by
 obtain⟨h1,h2,p,v,hp,h3,h4,h5⟩:=h
 have hB:Lib.BuilderAt 297 5 w0.heap.size b p (Lib.byteCells l) w:=⟨h1,v,h3,by rw [show(Lib.byteCells l).length=l.length by unfold Lib.byteCells;rw [List.length_map]];exact h4,h5⟩
 have hb:Lib.IsBuilder 297 5 w0.heap.size b (Lib.byteCells l) w:=by
  rcases hp with rfl|rfl
  ·exact .inl hB
  ·exact .inr hB
 refine Calls.mono (Any.Builder_String_any Tryz.laysBS Tryz.extraBS w0.heap.size b l w hb h2.size) ?_
 intro e w' hh
 obtain⟨rfl,hx⟩:=hh
 unfold Rt
 exact⟨_,rfl,rfl,⟨hx.os.trans h2.os,hx.tape.trans h2.tape,hx.output.trans h2.output,Nat.le_trans h2.size hx.size,fun k hk=>(hx.block k hk).trans (h2.block hk)⟩⟩
end
section
open Go.RowKit Go.En Go.Dl Go.Tp
def unGr (us:List Unt)(b:Int):Tx:=((us[b.toNat]?).map (·.graph)).getD []
def spG (us:List Unt):Nat→List Int→Tx→Int→Tx × Int × Int
 | 0,_,acc,_=>(acc,0,0)
 | k+1,q,acc,at_=>if q=[] then (acc,0,0) else if unF us q<0 then ([],at_,20) else spG us k (q.drop (unL us (unF us q))) (acc++unGr us (unF us q)) (at_+unL us (unF us q))
def spF (us:List Unt)(w:List Int):Tx × Int × Int:=if w.length=0 then ([],0,4) else if 24<w.length then ([],0,5) else spG us w.length w [] 0
theorem B7c (us : List Unt)(w : List Int) : ∀ (r : List Unt) (i : Nat) (b : Int), r = us.drop i → (b = -1 ∨ ∃ (m : Nat) (u : Unt), b = m ∧ us[m]? = some u ∧ unOK w u = true) → (unG us w i b r = -1 ∨ ∃ (m : Nat) (u : Unt), unG us w i b r = m ∧ us[m]? = some u ∧ unOK w u = true)
 | [],i,b,_,h=>h
 | u :: r, i, b, hr, h => by
  rw [unG]
  have hi:us[i]?=some u:=by
   have:=congrArg (fun l=>l[0]?) hr
   simpa using this.symm
  refine B7c us w r (i+1) _ ?_ ?_
  ·have:=congrArg List.tail hr
   simpa using this
  ·unfold unB
   split
   ·rename_i hc
    rw [Bool.and_eq_true] at hc
    exact .inr ⟨i,u,rfl,hi,hc.1⟩
   ·exact h
theorem C7z (us:List Unt)(w:List Int):unF us w = -1∨∃(m:Nat) (u:Unt),unF us w=m∧us[m]?=some u∧unOK w u=true:=B7c us w us 0 (-1) rfl (.inl rfl)
theorem D3w {G:Nat→Prop}{w:World}{u:Value}{l:List Int}(h:DR G w (ints l) u):SlG G w u l:=by
 rw [ints,DR] at h
 obtain⟨a,cap,h1,h2,h3,h4⟩:=h
 rw [List.length_map] at h1 h2 h3 h4
 refine⟨a,cap,h1,h2,h3,fun h0=>?_⟩
 obtain⟨b,off,h5,h6,h7⟩:=h4 h0
 exact⟨b,off,h5,h6,_,Y3 _ _,by rw [R4];exact B6g l off h7⟩
theorem sv2 {G:Nat→Prop}{w:World}{u:Value}{sz:Nat}{rows:List (List Dt)}(h:DR G w (.s sz rows) u):∃ a cap,u=.slice a rows.length cap:=by
 rw [DR] at h
 obtain⟨a,cap,h,_⟩:=h
 exact⟨a,cap,h⟩
theorem D5t {G:Nat→Prop}{w:World}{b off n cap:Nat}{us:List Unt}(h:DR G w (.s 2 (us.map untC)) (.slice (some ⟨b,off,none⟩) n cap)){i:Nat}{u:Unt}(hx:us[i]?=some u):∃ a c,At w b (off+i*2) [str u.graph,.slice a u.segs.length c]:=by
 rw [DR] at h
 obtain⟨a,c,h1,h2,h3,h4⟩:=h
 have hlt:=(List.getElem?_eq_some_iff.1 hx).1
 obtain⟨b',off',h5,h6,h7⟩:=h4 (by rw [List.length_map];omega)
 cases h1
 cases h5
 obtain⟨_,h8⟩:=A8o h7 (i:=i) (r:=untC u) (by rw [List.getElem?_map,hx];rfl)
 obtain⟨us2,h9,h10⟩:=cells_at h8
 replace h10:DR.valsR G w true [.v (str u.graph),.s 1 (u.segs.map iC)] us2:=h10
 rw [DR.valsR] at h10
 obtain⟨x1,r1,rfl,_,e1,h10⟩:=h10
 rw [DR.valsR] at h10
 obtain⟨x2,r2,rfl,_,e2,h10⟩:=h10
 rw [DR.valsR] at h10
 subst h10
 rw [DR] at e1
 subst e1
 obtain⟨a2,c2,rfl⟩:=sv2 e2
 rw [List.length_map] at h9
 exact⟨a2,c2,h9⟩
theorem D5x (us:List Unt)(k:Nat)(acc:Tx)(a:Int):spG us k [] acc a=(acc,0,0):=by cases k <;> simp [spG]
theorem C6c (o:Orth)(q:List Int){G:Nat→Prop}{w0 wq:World}(hG:∀ b,G b→b<w0.heap.size)(hx:Ext w0 wq){ov wv:Value}(ho:DR G w0 (.g (A0h o)) ov)(hw:SlG G w0 wv q):Calls Tryz.prog 192 #[ov,wv] wq (Rt fun u w'=>u=int (unF o.units q)∧Ext wq w'):=by
 have hm:∀ b,G b→G b∧wq.heap[b]?=w0.heap[b]?:=fun b hb=>⟨hb,hx.block (hG b hb)⟩
 have h1:=DR.mv hm _ _ ho
 have h2:DR G wq (ints q) wv:=DR.mv hm _ _ (D4y hw fun b hb _=>hb)
 refine Calls.mono (c192 o q wq G [ov,wv] (fun b hb=>Nat.lt_of_lt_of_le (hG b hb) hx.size) (by rw [DR.valsR];refine⟨ov,[wv],rfl,fun e=>(by cases e),h1,?_⟩;rw [DR.valsR];exact⟨wv,[],rfl,fun e=>(by cases e),h2,by rw [DR.valsR]⟩)) ?_
 intro e w' hh
 obtain⟨v,rfl,h3,h4⟩:=hh
 exact⟨v,rfl,vI h4,h3⟩
theorem C2w {P:Program}{n:Nat}{L:List (Nat × Value)}{w:World}{fn:Func}{S:Value→World→Prop}{t u s:Tmp}{v x y:Value}(hr:fn.results=#[.tmp t,.tmp u,.tmp s])(hv:lk L t=some v)(hx:lk L u=some x)(hy:lk L s=some y)(hs:S (.tuple #[v,x,y]) w):K n (bodyPost P fn (Rt S)) .ret L w:=fun a ha=>by
 refine⟨ha.nod,.tuple #[v,x,y],?_,_,rfl,hs⟩
 have h1:=ha.get t v hv
 have h2:=ha.get u x hx
 have h3:=ha.get s y hy
 rw [results_tmp3 hr]
 simp [Array.getD_eq_getD_getElem?,h1,h2,h3]
attribute [local irreducible] E EL K Val Enters Rt Calls bodyPost Code.wp RQ
theorem B4t (o:Orth)(ws:List Int)(hU:∀ u∈o.units,1≤u.segs.length∧u.graph.length≤1000000)(hol:o.units.length≤1000000){G:Nat→Prop}(ov wv:Value)(w0:World)(hG:∀ b,G b→b<w0.heap.size)(ho:DR G w0 (.g (A0h o)) ov)(hw:DR G w0 (ints ws) wv) :
  Calls Tryz.prog 120 #[ov,wv] w0 (Rt fun u w'=>u=.tuple #[str (spF o.units ws).1,int (spF o.units ws).2.1,int (spF o.units ws).2.2]∧Ext w0 w'):=by
 have ho0:=ho
 rw [DR] at ho
 obtain⟨vs,rfl,ho⟩:=ho
 replace ho:DR.valsR G w0 true [.v (str o.name),.s 2 (o.units.map untC),.s 1 (o.letters.map fun l=>[txts l])] vs:=ho
 rw [DR.valsR] at ho
 obtain⟨x1,r1,rfl,_,e1,ho⟩:=ho
 rw [DR.valsR] at ho
 obtain⟨x2,r2,rfl,_,e2,ho⟩:=ho
 rw [DR.valsR] at ho
 obtain⟨x3,r3,rfl,_,e3,ho⟩:=ho
 rw [DR.valsR] at ho
 subst ho
 rw [DR] at e1
 subst e1
 obtain⟨a1,c1,rfl⟩:=sv2 e2
 obtain⟨a2,c2,rfl⟩:=sv2 e3
 simp only [List.length_map] at e2 e3 ho0 ⊢
 have hS:=D3w hw
 have hS0:=hS
 obtain⟨aw,cw,rfl,hc,hmx,hp⟩:=hS.sl
 obtain⟨R,hR⟩:∃ R,spF o.units ws=R:=⟨_,rfl⟩
 rw [hR]
 unfold spF at hR
 refine G3 (n:=45) (args:=[.agg #[str o.name,.slice a1 o.units.length c1,.slice a2 o.letters.length c2],.slice aw ws.length cw]) Tryz.func120 rfl Tryz.ntmps120 (by simp) ?_
 by_cases h0:ws.length=0
 ·rw [if_pos h0] at hR
  subst hR
  have hX:=Ext.refl w0
  (repeat' (first|(refine A5a Z Z Z Z (fun bO wO xO hbO rO=>?_);replace hX:=hX.trans xO)|refine Sy ?_|refine Dy (fun hh=>?_) fun hh=>?_))
  all_goals (try (exfalso;omega))
  exact C2w Z Z Z Z ⟨rfl,hX⟩
 rw [if_neg h0] at hR
 by_cases h24:24<ws.length
 ·rw [if_pos h24] at hR
  subst hR
  have hX:=Ext.refl w0
  (repeat' (first|(refine A5a Z Z Z Z (fun bO wO xO hbO rO=>?_);replace hX:=hX.trans xO)|refine Sy ?_|refine Dy (fun hh=>?_) fun hh=>?_))
  all_goals (try (exfalso;omega))
  exact C2w Z Z Z Z ⟨rfl,hX⟩
 rw [if_neg h24] at hR
 obtain⟨b,off,rfl⟩:=hp (by omega)
 refine J2 ?_
 refine H8 ?_
 have hX:=Ext.refl w0
 (refine A5a Z Z Z Z (fun bO wO xO hbO rO=>?_);replace hX:=hX.trans xO)
 (repeat' (first|(refine J4 Z Z Z (fun bB wB xB hbB rB0=>?_);have rB:Row wB bB 297 [.pointer none,.slice none 0 0]:=rB0;clear rB0)|refine Sy ?_|refine Dy (fun hh=>?_) fun hh=>?_))
 all_goals (try (exfalso;omega))
 have hB0:Bl wO bB [] wB:=⟨by omega,xB,_,_,.inl rfl,rB,World.ownsRow_nil wB _ _ _,by simp [Value.ownBlock]⟩
 refine A0e (ι:=Nat × Tx × Nat) (fun z=>[(1,.slice (some ⟨b,off,none⟩) ws.length cw),(2,.pointer (some ⟨bO,0,none⟩)),(7,.pointer (some ⟨bB,0,none⟩)),(8,int z.1)])
  (fun z wr=>z.1≤ws.length∧ws.length-z.1≤z.2.2∧z.2.1.length≤z.1*1000000∧Bl wO bB z.2.1 wr∧spG o.units z.2.2 (ws.drop z.1) z.2.1 (z.1:Int)=R) (fun z=>ws.length-z.1) (0,[],ws.length)
  ⟨rfl,rfl,rfl,rfl,trivial⟩ ⟨Nat.zero_le _,Nat.le_refl _,Nat.zero_le _,hB0,hR⟩ ?_
 rintro⟨i,acc,k⟩ wr ⟨hi,hk,hal,hBl,hq⟩
 dsimp only at hi hk hal hBl hq ⊢
 have xr:Ext wO wr:=hBl.2.1
 have rr:=rO.ext xr
 have hX2:Ext w0 wr:=hX.trans xr
 by_cases hlt:i<ws.length
 rotate_left
 ·rw [List.drop_eq_nil_of_le (by omega),D5x] at hq
  subst hq
  (repeat' (first|(refine D7 Z Z (D5 Z Z G1d) (B3v hBl) (fun vC wC hC=>?_);obtain⟨rfl,xC⟩:=hC)|refine Sy ?_|refine Dy (fun hh=>?_) fun hh=>?_))
  all_goals (try (exfalso;omega))
  exact C2w Z Z Z Z ⟨rfl,hX.trans xC⟩
 obtain⟨k,rfl⟩:∃ j,k=j+1:=⟨k-1,by omega⟩
 have hne:ws.drop i≠[]:=fun e=>by
  have:=congrArg List.length e
  rw [List.length_drop] at this
  simp at this;omega
 rw [spG,if_neg hne] at hq
 have cu:=fun wq (hxq:Ext wr wq)=>C6c o (ws.drop i) hG (hX2.trans hxq) ho0 (hS0.drop (by omega:i≤ws.length))
 by_cases hneg:unF o.units (ws.drop i)<0
 ·rw [if_pos hneg] at hq
  subst hq
  (repeat' (first|refine yV Z Z (fun wq _ xq=>V4 (b:=i) Z Z Z Z (by omega)) ?_|refine C5q Z Z (fun _ _ _=>D5 Z Z G1f) (fun wq xq=>cu wq xq) ?_|refine Sy ?_|refine Dy (fun hh=>?_) fun hh=>?_|refine yqY ?_|refine yqZ ?_|refine E_dq Q3 (by kernel_rfl) Z ?_|refine yN Z (fun wq xq=>?_)))
  all_goals (try (exfalso;omega))
  exact C2w Z Z Z Z ⟨rfl,hX2.trans xq⟩
 rw [if_neg hneg] at hq
 rcases C7z o.units (ws.drop i) with h1|⟨m,u,hm,hu,hok⟩
 ·exact absurd h1 (by omega)
 have hun:=hU u (List.mem_of_getElem? hu)
 have hsl:u.segs.length≤ws.length-i:=by
  unfold unOK at hok
  rw [Bool.and_eq_true] at hok
  have:=of_decide_eq_true hok.1
  rwa [List.length_drop] at this
 have hL:unL o.units (m:Int)=u.segs.length:=by unfold unL;rw [Int.toNat_natCast,hu];rfl
 have hGr:unGr o.units (m:Int)=u.graph:=by unfold unGr;rw [Int.toNat_natCast,hu];rfl
 have hmu:=(List.getElem?_eq_some_iff.1 hu).1
 rw [hm,hL,hGr,List.drop_drop] at hq
 simp only [hm] at cu
 obtain⟨b1,o1,ha1⟩:∃ b1 o1,a1=some ⟨b1,o1,none⟩:=by
  have e2':=e2
  rw [DR] at e2'
  obtain⟨_,_,he,_,_,h4⟩:=e2'
  obtain⟨b',off',h5,_⟩:=h4 (by rw [List.length_map];omega)
  rw [List.length_map] at he
  cases he
  exact⟨_,_,h5⟩
 subst ha1
 obtain⟨a3,c3,hat⟩:=D5t e2 hu
 have hwn:(acc++u.graph).length≤(i+u.segs.length)*1000000:=by
  have h2:=hun.2
  have h1:=hun.1
  rw [List.length_append,Nat.add_mul]
  have:1*1000000≤u.segs.length*1000000:=Nat.mul_le_mul_right _ h1
  omega
 have hac:acc.length+u.graph.length≤140737488355328:=by
  rw [List.length_append] at hwn
  omega
 (repeat' ((fail_if_success (refine J2 (x:=(Code.region 11 _ _)) ?_));first|refine yV Z Z (fun wq _ xq=>V4 (b:=i) Z Z Z Z (by omega)) ?_|refine C5q Z Z (fun _ _ _=>D5 Z Z G1f) (fun wq xq=>cu wq xq) ?_|refine Sy ?_|refine Dy (fun hh=>?_) fun hh=>?_|refine yqY ?_|refine yqZ ?_|refine E_dq Q3 (by kernel_rfl) Z ?_|refine yN Z (fun wq xq=>?_)))
 all_goals (try (exfalso;omega))
 have hatq:=(hat.ext hX2).ext xq
 have rq:=rr.ext xq
 have hBq:Bl wO bB acc wq:=by
  obtain⟨g1,g2,p,v,g3,g4,g5,g6⟩:=hBl
  exact⟨g1,g2.trans xq,p,v,g3,g4.ext xq,A8r g5 (fun q hq=>xq.block ((g5.lt q ((A3v g5).trans hq)).2)),g6⟩
 (repeat' (first|refine eV Z Z (B7 (m:=m) Z Z Z (by first|rfl|omega) (by omega)) ?_|(refine D7 Z Z (D5 Z Z G1e) (B1a hBq hac) (fun vC wC hC=>?_);have xC:Ext wO wC:=hC.2.1;have rC:=rO.ext xC;have hatC:=(hat.ext hX).ext xC)|refine Ly ?_|fail))
 all_goals (try (exfalso;omega))
 refine A2q (i+u.segs.length,acc++u.graph,k) ⟨rfl,rfl,rfl,?_,trivial⟩ ⟨by dsimp only;omega,by dsimp only;omega,hwn,hC,?_⟩ (by dsimp only;have:=hun.1;omega)
 ·dsimp only
  rw [Int.natCast_add]
  rfl
 ·dsimp only
  rw [Int.natCast_add]
  exact hq
theorem u120 (o:Orth)(ws:List Int)(hU:∀ u∈o.units,1≤u.segs.length∧u.graph.length≤1000000)(hol:o.units.length≤1000000):Fp Tryz.prog 120 [.g (A0h o),ints ws] (.t [dS (spF o.units ws).1,dI (spF o.units ws).2.1,dI (spF o.units ws).2.2]):=by
 intro w G us hG h
 rw [DR.valsR] at h
 obtain⟨u,us',rfl,_,hu,h⟩:=h
 rw [DR.valsR] at h
 obtain⟨u2,us2,rfl,_,hu2,h⟩:=h
 rw [DR.valsR] at h
 subst h
 refine Calls.mono (B4t o ws hU hol u u2 w hG hu hu2) ?_
 intro e w' hh
 unfold Rt at hh ⊢
 obtain⟨v,rfl,rfl,hx⟩:=hh
 refine⟨_,rfl,hx,?_⟩
 rw [DR]
 refine⟨[str (spF o.units ws).1,int (spF o.units ws).2.1,int (spF o.units ws).2.2],rfl,?_⟩
 rw [DR.valsR];refine⟨_,_,rfl,fun _=>rfl,by show DR _ w' (.v _) _;rw [DR],?_⟩
 rw [DR.valsR];refine⟨_,_,rfl,fun _=>rfl,by show DR _ w' (.v _) _;rw [DR],?_⟩
 rw [DR.valsR];refine⟨_,_,rfl,fun _=>rfl,by show DR _ w' (.v _) _;rw [DR],?_⟩
 rw [DR.valsR]
end
end Go.Proofs.YtojadfppncgphaaGreatDoor
namespace Go.En
open Go Go.RowKit
theorem B4p {P:Program}{L:List (Nat × Value)}{w:World}{o:Oper}{t u:TypeId}{x y:Operand}{a b:List UInt8}[UT P t .string](ho:o.op=.binOp .add t x y u)(hx:ev L x=some (str a))(hy:ev L y=some (str b))(hl:a.length+b.length≤9223372036854775807):Val P L w o (str (a++b)):=fun ρ ha=>by
 have h1:=ha.ev (by rw [ho];simp [Op.operands]) hx
 have h2:=ha.ev (by rw [ho];simp [Op.operands]) hy
 have h3:=G5 (t:=t) (P:=P) w
 have h4:¬ ((9223372036854775807:Int)<((⟨a.toArray⟩:ByteArray).size:Int)+((⟨b.toArray⟩:ByteArray).size:Int)):=by
  show ¬ ((9223372036854775807:Int)<(a.toArray.size:Int)+(b.toArray.size:Int))
  simp only [List.size_toArray];omega
 have h5:(⟨a.toArray⟩:ByteArray)++⟨b.toArray⟩=⟨(a++b).toArray⟩:=by
  rw [ByteArray.ext_iff]
  simp
 simp [execOp,ho,h1,h2,h3,binOp,str,Op.stringOp,h4,h5,eqGuard]
end Go.En
namespace Go.Proofs.YtojadfppncgphaaGreatDoor
section
open Go.RowKit Go.En Go.Dl Go.Tp
def txF (segs:List Phn)(w:List Int):Tx:=w.flatMap fun s=>if K0 segs.length s then ((segs[(s-1).toNat]?).map (·.name)).getD [] else []
def spdF (g:Lng)(w:List Int):Tx:=if (spF g.ortho.units w).2.2≠0 then txF g.segs w else (spF g.ortho.units w).1
def pfxB (s t:Tx):Bool:=decide (t.length≤s.length)&&decide (s.take t.length=t)
attribute [local irreducible] X XL XW XG XK Val LS Fp Fo Calls bodyPost Code.wp
theorem c274 (s t:Tx):Fp Tryz.prog 274 [dS s,dS t] (dB (pfxB s t)):=by
 unfold pfxB
 by_cases h:t.length≤s.length
 ·rw [decide_eq_true h,Bool.true_and]
  obtain⟨b,hb⟩:∃ b,decide (s.take t.length=t)=b:=⟨_,rfl⟩
  rw [hb]
  refine fXw Tryz.func274 Tryz.ntmps274 fun c hM=>?_
  cases b with
  | true=>
   have hb:=of_decide_eq_true hb
   (repeat' (first|refine G_x (A7 fun _=>A0f (b:=t.length) Z Z Z Z h) Z Z ?_|refine Wz ?_|apply Wd <;>intro hh))
   all_goals (first|(exfalso;omega)|(exact absurd hb (by assumption))|skip)
   exact rXw hM
  | false=>
   have hb:=of_decide_eq_false hb
   (repeat' (first|refine G_x (A7 fun _=>A0f (b:=t.length) Z Z Z Z h) Z Z ?_|refine Wz ?_|apply Wd <;>intro hh))
   all_goals (first|(exfalso;omega)|(exact absurd (by assumption) hb)|skip)
   exact rXw hM
 ·rw [decide_eq_false h]
  refine fXw Tryz.func274 Tryz.ntmps274 fun c hM=>?_
  (repeat' (first|refine Wz ?_|apply Wd <;>intro hh))
  all_goals (try exact oMw)
  exact rXw hM
theorem c244 (s t:Tx):Fp Tryz.prog 244 [dS s,dS t] (dB (pfxB s t)):=by
 have c1:=c274 s t
 refine fXw Tryz.func244 Tryz.ntmps244 fun c hM=>?_
 (repeat' (first|refine cDw G7x c1 ?_|refine Wz ?_|fail))
 exact rXw hM
theorem D7n {α β:Type}{f:α→List β}{l:List α}{i:Nat}{x:α}(h:l[i]?=some x):(l.take (i+1)).flatMap f=(l.take i).flatMap f++f x:=by
 rw [List.take_add_one,h,List.flatMap_append];simp
theorem C1h {α β:Type}{f:α→List β}{m:Nat}:∀ l:List α,(∀ x∈l,(f x).length≤m)→(l.flatMap f).length≤m*l.length
 | [],_=>Nat.zero_le _
 | x::r,h=>by
  have h1:=C1h r (fun y hy=>h y (List.mem_cons_of_mem _ hy))
  have h2:=h x (List.mem_cons_self ..)
  rw [List.flatMap_cons,List.length_append,List.length_cons,Nat.mul_add,Nat.mul_one];omega
theorem c121 (segs:List Phn)(w:List Int)(hs:∀ p∈segs,p.name.length≤1000)(hn:segs.length≤1000)(hw:w.length≤1000):Fp Tryz.prog 121 [.g [segD segs],ints w] (dS (txF segs w)):=by
 obtain⟨f,hf⟩:∃ f:Int→List UInt8,f=fun s=>if K0 segs.length s then ((segs[(s-1).toNat]?).map (·.name)).getD [] else []:=⟨_,rfl⟩
 have hT:txF segs w=w.flatMap f:=by rw [hf];rfl
 have hfl:∀ x,(f x).length≤1000:=fun x=>by
  rw [hf]
  dsimp only
  split
  ·cases h:segs[(x-1).toNat]? with
   | none=>exact zLw
   | some p=>exact hs p (List.mem_of_getElem? h)
  ·exact zLw
 rw [hT]
 refine fXw Tryz.func121 Tryz.ntmps121 fun c hM=>?_
 (repeat' (first|refine Wz ?_|refine Wb fun hb=>?_))
 refine X_lp (ι:=Nat) 134216864 [] (fun i=>[(5,.d (dS ((w.take i).flatMap f))),(10,.d (dI i))]) (fun _=>[]) (fun i=>i≤w.length) (fun i=>w.length-i) (0) ?_ ?_
 ·exact zLw
 rintro i hi
 by_cases hlt:i<w.length
 rotate_left
 ·have hz:i=w.length:=oEw
  subst hz
  rw [List.take_length]
  (repeat' (first|refine Wz ?_|apply Wd <;>intro hh))
  all_goals (try exact oMw)
  exact rXw hM
 obtain⟨s,hx⟩:=gex hlt
 have ht:=D7n (f:=f) hx
 have hml:=C1h (f:=f) (m:=1000) (w.take i) (fun x _=>hfl x)
 rw [List.length_take] at hml
 have c1:=c195 segs s
 cases hb:K0 segs.length s with
 | false=>
  rw [hb] at c1
  have hfs:f s=[]:=by rw [hf];dsimp only;rw [hb];rfl
  rw [hfs,List.append_nil] at ht
  (repeat' (first|refine iDw (gm hx) ?_|refine cDw C4q c1 ?_|refine Wz ?_|apply Wd <;>intro hh))
  all_goals (try exact oMw)
  exact A0 (i+1) oEw oEw (by rw [ht];(repeat (refine A6 (by first|rfl|simp) ?_));exact B8 _)
 | true=>
  rw [hb] at c1
  have hseg:1≤s∧s≤(segs.length:Int):=by simpa [K0] using hb
  obtain⟨j,hj⟩:∃ j:Nat,s-1=(j:Int):=⟨(s-1).toNat,oEw⟩
  obtain⟨p,hp⟩:=gex (l:=segs) (i:=j) oEw
  have hfs:f s=p.name:=by rw [hf];dsimp only;rw [hb,if_pos rfl,hj,Int.toNat_natCast,hp];rfl
  rw [hfs] at ht
  have hpl:=hs p (List.mem_of_getElem? hp)
  have hcl:((w.take i).flatMap f).length+p.name.length≤9223372036854775807:=oEw
  (repeat' (first|refine G_x (A2 (m:=i) Z Z Z Z (gm hx)) Z Z ?_|refine G_x (A3 Z Z Z C4q (c1)) Z Z ?_|refine G_x (A2 (m:=j) Z Z Z oEw (gm hp)) Z Z ?_|refine G_x (A7 fun _=>B4p Z Z Z hcl) Z Z ?_|refine Wz ?_|apply Wd <;>intro hh))
  all_goals (try exact oMw)
  exact A0 (i+1) oEw oEw (by rw [ht];(repeat (refine A6 (by first|rfl|simp) ?_));exact B8 _)
structure LgW (g:Lng):Prop where
 units:∀ u∈g.ortho.units,1≤u.segs.length∧u.graph.length≤1000000
 nu:g.ortho.units.length≤1000000
 names:∀ p∈g.segs,p.name.length≤1000
 ns:g.segs.length≤1000
theorem c46 (g:Lng)(w:List Int)(h:LgW g)(hw:w.length≤1000):Fp Tryz.prog 46 [.g (lngC g),ints w] (dS (spdF g w)):=by
 have c1:=u120 g.ortho w h.units h.nu
 have c2:=c121 g.segs w h.names h.ns hw
 unfold spdF
 obtain⟨R,hR⟩:∃ R,spF g.ortho.units w=R:=⟨_,rfl⟩
 rw [hR] at c1 ⊢
 obtain⟨a,b,e⟩:=R
 dsimp only at c1 ⊢
 by_cases he:e=0
 ·subst he
  rw [if_neg (by simp)]
  refine fXw Tryz.func46 Tryz.ntmps46 fun c hM=>?_
  (repeat' (first|refine cDw G1x c1 ?_|refine Wz ?_|apply Wd <;>intro hh))
  all_goals (try exact oMw)
  all_goals (first|exact absurd rfl (by assumption)|exact rXw hM)
 ·rw [if_pos he]
  refine fXw Tryz.func46 Tryz.ntmps46 fun c hM=>?_
  (repeat' (first|refine cDw G1x c1 ?_|refine cDw H0o c2 ?_|refine Wz ?_|apply Wd <;>intro hh))
  all_goals (try exact oMw)
  all_goals (first|exact absurd (by assumption) he|exact rXw hM)
end
end Go.Proofs.YtojadfppncgphaaGreatDoor