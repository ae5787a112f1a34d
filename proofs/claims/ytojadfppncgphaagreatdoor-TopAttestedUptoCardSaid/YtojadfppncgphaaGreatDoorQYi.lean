/- Own text. -/
import Derived.Test.YtojadfppncgphaaGreatDoorQYh
set_option linter.all false
namespace Go.Dl
open Go.RowKit Go.En
theorem X7 {w:World}{B:Nat}{e:TypeId}{sz:Nat}{v:Value}{n:Nat}{xs:List Value}(h:w.ownsRow B e sz v n xs):∃ p cap,v=.slice p n cap∧n≤cap∧(p=none→n=0∧cap=0)∧∀ q,p=some q→q=⟨q.block,0,none⟩:=by
 rcases h.2 with⟨hv,hn⟩|⟨g,cap,cur,hv,hb,hg,hc,hm,hs,ht⟩
 ·exact⟨none,0,by rw [hv,hn],by omega,fun _=>⟨hn,rfl⟩,fun q h=>by cases h⟩
 ·exact⟨_,cap,hv,hc,(fun h=>by cases h),fun q h=>by cases h;rfl⟩
def cutv (v:Value)(b:Nat):Value:=match v with | .slice p _ cap=>.slice p b cap|v=>v
theorem B4f {w:World}{B:Nat}{e:TypeId}{sz:Nat}{v:Value}{n:Nat}{xs:List Value}(h:w.ownsRow B e sz v n xs)(b:Nat):win v sz 0 b=cutv v b:=by
 obtain⟨p,cap,rfl,h1,h2,h3⟩:=X7 h
 simp only [win,cutv,Nat.zero_mul,Nat.sub_zero]
 congr 1
 split
 ·rfl
 ·cases p with
  | none=>rfl
  | some q=>rw [h3 q rfl];simp [D6]
theorem C6f {w:World}{B:Nat}{e:TypeId}{sz:Nat}{v:Value}{n b:Nat}{xs:List Value}(h:w.ownsRow B e sz v n xs)(hb:b≤n):w.ownsRow B e sz (win v sz 0 b) b (xs.take (b*sz)):=by
 rw [B4f h]
 refine⟨?_,?_⟩
 ·rw [List.length_take,h.1,Nat.min_eq_left (Nat.mul_le_mul_right _ hb)]
 rcases h.2 with⟨rfl,hn⟩|⟨g,cap,cur,rfl,h1,hg,hc,hm,hs,ht⟩
 ·exact .inl ⟨by rw [show b=0 by omega];rfl,by omega⟩
 ·refine .inr ⟨g,cap,cur,rfl,h1,hg,by omega,hm,hs,?_⟩
  rw [← ht,List.take_take,Nat.min_eq_left (Nat.mul_le_mul_right _ hb)]
theorem D7z {w:World}{B:Nat}{e:TypeId}{sz:Nat}{v:Value}{n:Nat}{xs:List Value}(h:w.ownsRow B e sz v n xs)(b:Nat):blk (win v sz 0 b)=blk v:=by
 rw [B4f h]
 obtain⟨p,cap,rfl,_⟩:=X7 h
 cases p <;> rfl
theorem Y6 {α:Type}{sz:Nat}:∀ {rows:List (List α)} (b:Nat),(∀ r∈rows,r.length=sz)→rows.flatten.take (b*sz)=(rows.take b).flatten
 | [],b,_=>by simp
 | r::rs,0,_=>by simp
 | r::rs,b+1,h=>by
  rw [List.flatten_cons,List.take_succ_cons,List.flatten_cons,show(b+1)*sz=r.length+b*sz by rw [h r (List.mem_cons_self ..),Nat.add_mul];omega,List.take_length_add_append,Y6 b fun q hq=>h q (List.mem_cons_of_mem _ hq)]
theorem Rel.trim {c:Cx}{n:Nat}{F:Fr}{H:Hp}{a:Act}{w:World}{s k m b:Nat}{t:TypeId}{sz:Nat}{rows:List (List Dt)}(h:Rel c n F H a w)(hs:lf F s=some (.w k m sz 0 b))(hk:lo H k=some (.ls t sz m rows))(hb:b≤rows.length):Rel c n ((s,.o k (m+1))::F) ((k,.ls t sz (m+1) (rows.take b))::H) a w:=by
 obtain⟨h1,h2,γ,G,hw,hsl⟩:=h
 obtain⟨u,h3,h4⟩:=hsl s _ hs
 have hlt:s<a.tmps.size:=(Array.getElem?_eq_some_iff.1 h3).1
 obtain⟨h5,h6,vs,h7,h8⟩:=hw.obj k _ hk
 rw [LR] at h4
 have hu:=h4.2 h5.symm
 have hevo:Evo γ G w H [k] [(k,.ls t sz (m+1) (rows.take b))] (some (.o k (m+1))) u (upg γ k (u,m+1)) G w:=by
  refine Evo.chg (p:=(u,m+1)) (ob0:=.ls t sz m rows) (b0:=oblk γ k (.ls t sz m rows)) ?_ (fun b hb=>(hw.glt b hb).1) (List.mem_singleton.2 rfl) hk rfl (.inr (by dsimp only;omega)) ⟨by rw [C3],fun r hr=>h6 r (List.mem_of_mem_take hr),vs.take (b*sz),?_,?_⟩ (fun q hq=>?_) (fun q hq=>.inl ?_) (fun y hy=>?_)
  ·exact⟨rfl,rfl,rfl,Nat.le_refl _,fun _ _ _=>rfl⟩
  ·rw [C3,List.length_take,Nat.min_eq_left hb,hu]
   exact C6f h7 hb
  ·rw [← Y6 b h6]
   exact X3 h8
  ·obtain⟨g1,g2,_⟩:=hw.own k _ q hk hq
   exact⟨g2,g1⟩
  ·dsimp only at hq
   rw [hu,D7z h7] at hq
   exact hq
  ·cases hy
   rw [LR,C3]
   exact⟨⟨Nat.le_refl _,h4.1.2⟩,fun _=>rfl⟩
 have:=Rel.step (d:=some s) (v:=u) h1 h2 hw hsl (by unfold dok;rw [← h1];exact Nat.ble_eq_true_of_le hlt) (by simp [frs]) hevo
 have he:a.put (some s) u=a:=by
  simp only [Act.put]
  have:a.tmps.setIfInBounds s u=a.tmps:=by
   apply Array.ext_getElem?
   intro i
   by_cases e:s=i
   ·subst e;rw [Array.getElem?_setIfInBounds_self_of_lt hlt,h3]
   ·rw [Array.getElem?_setIfInBounds_ne e]
  rw [this]
 rw [he] at this
 exact this
theorem Rel.whole {c:Cx}{n:Nat}{F:Fr}{H:Hp}{a:Act}{w:World}{s k m:Nat}{t:TypeId}{sz:Nat}{rows:List (List Dt)}(h:Rel c n F H a w)(hs:lf F s=some (.o k m))(hk:lo H k=some (.ls t sz m rows)):Rel c n ((s,.w k m sz 0 rows.length)::F) H a w:=by
 obtain⟨h1,h2,γ,G,hw,hsl⟩:=h
 refine⟨h1,h2,γ,G,hw,fun q x hq=>?_⟩
 rw [J9] at hq
 split at hq
 ·rename_i e;subst e
  cases hq
  obtain⟨u,h3,h4⟩:=hsl s _ hs
  obtain⟨h5,h6,vs,h7,h8⟩:=hw.obj k _ hk
  refine⟨u,h3,?_⟩
  have h9:(m≤(γ k).2∧u.oneCell'=true)∧(m=(γ k).2→u=(γ k).1):=by rw [LR] at h4;exact h4
  show(m≤(γ k).2∧u.oneCell'=true)∧(m=(γ k).2→u=win (γ k).1 sz 0 rows.length)
  refine⟨h9.1,fun e=>?_⟩
  rw [h9.2 e,B4f h7]
  obtain⟨p,cap,e1,_⟩:=X7 h7
  rw [e1];rfl
 ·exact hsl q x hq
section
variable {P : Program}{c : Cx}{n : Nat}{Q : Post}{F : Fr}{H : Hp}
theorem D8k {e:Exit}(s:Nat){k m b:Nat}{t:TypeId}{sz:Nat}{rows:List (List Dt)}(hs:lf F s=some (.w k m sz 0 b))(hk:lo H k=some (.ls t sz m rows))(hb:b≤rows.length)(h:XK c n Q e ((s,.o k (m+1))::F) ((k,.ls t sz (m+1) (rows.take b))::H)):XK c n Q e F H:=fun a w hr=>h a w (hr.trim hs hk hb)
theorem C5o {e:Exit}(s:Nat){k m:Nat}{t:TypeId}{sz:Nat}{rows:List (List Dt)}(hs:lf F s=some (.o k m))(hk:lo H k=some (.ls t sz m rows))(h:XK c n Q e ((s,.o k (m+1))::F) ((k,.ls t sz (m+1) rows)::H)):XK c n Q e F H:=fun a w hr=>by
 have h1:=(hr.whole hs hk).trim (s:=s) (b:=rows.length) (by simp [J9]) hk (Nat.le_refl _)
 rw [List.take_length] at h1
 refine h a w (h1.le (fun q v hq=>?_) (G6 _))
 rw [J9] at hq ⊢
 split at hq
 ·rw [if_pos (by assumption)];exact hq
 ·rw [if_neg (by assumption),J9,if_neg (by assumption)];exact hq
end
section
variable {P : Program}{L : List (Nat × Value)}{w : World}{o : Oper}
theorem val_nil_eq {t e u:TypeId}{x y:Operand}{a:Option Addr}{m c:Nat}[ut:UT P t (.slice e)](ho:o.op=.binOp .eql t x y u)(hx:ev L x=some (.slice a m c))(hy:ev L y=some (.slice none 0 0)):Val P L w o (.bool a.isNone):=fun ρ ha=>by
 have h1:=ha.ev (by rw [ho];simp [Op.operands]) hx
 have h2:=ha.ev (by rw [ho];simp [Op.operands]) hy
 have h3:=G5 (t:=t) (P:=P) w
 have h4:=Lib.run_eql_slice_nil (P:=P) w t e a m c 0 0 ut.u
 simp [execOp,ho,h1,h2,h3,h4,eqGuard]
end
section
variable {P : Program}{o : Oper}{F : Fr}{H : Hp}
theorem A3z {t e:TypeId}{x p:Operand}{a sz k n:Nat}{kl:IntKind}{za:Int}{zv:Value}{bytes:Nat}{t':TypeId}{rows:List (List Dt)}[UT P t (.slice e)][TI P e zv sz bytes](ho:o.op=.slice t x (some p) none none)(hx:ef F x=some (.o k n))(hk:lo H k=some (.ls t' sz n rows))
  (hlo:ef F p=some (.d (.v (.int kl za)))) (hza:za=(a:Int)) (hab:a≤rows.length):LS P o F H [k] (some (.w k n sz a rows.length)) []:=LS_v fun γ G w A ha hw=>by
 have hm:∀ y,y=x∨y=p→y∈o.op.operands:=fun y hy=>by rw [ho];simpa [Op.operands] using hy
 have hOR:=hw.obj k (List.mem_singleton.2 rfl) _ hk
 obtain⟨h1,vs,h2,_⟩:=own_sl hOR (ha x (hm x (.inl rfl)) _ hx)
 obtain⟨pp,cap,h3,h4,_⟩:=X7 h2
 have g1:=C5 (a:=A) (hm x (.inl rfl))
 have g2:=C5 (a:=A) (hm p (.inr rfl))
 have k2:=ha p (hm p (.inr rfl)) _ hlo
 rw [LR,DR] at k2
 rw [h3] at g1
 rw [k2] at g2
 refine⟨win (γ k).1 sz a rows.length,fun ρ hag=>?_,?_⟩
 ·have r1:=hag.ev (hm x (.inl rfl)) g1
  have r2:=hag.ev (hm p (.inr rfl)) g2
  have r4:=G5 (t:=t) (P:=P) w
  have r5:=Go.En.run_sizeOf (P:=P) (t:=e) w
  subst hza
  rw [← h1,h3]
  simp only [execOp,ho,Instr.sliceAt,Instr.slice,Instr.sliceBounds,Instr.sliceBound,asIntOf,r1,r2,Option.map_some,Option.map_none]
  simp [go_sem,r4,hab,h4,r5,win]
 ·rw [LR]
  exact⟨⟨Nat.le_of_eq hOR.1.symm,by rw [← h1,h3];rfl⟩,fun _=>rfl⟩
theorem D7e {t e:TypeId}{x q:Operand}{b sz k n:Nat}{kh:IntKind}{zb:Int}{zv:Value}{bytes:Nat}{t':TypeId}{rows:List (List Dt)}[UT P t (.slice e)][TI P e zv sz bytes](ho:o.op=.slice t x none (some q) none)(hx:ef F x=some (.o k n))(hk:lo H k=some (.ls t' sz n rows))
  (hhi:ef F q=some (.d (.v (.int kh zb)))) (hzb:zb=(b:Int)) (hb:b≤rows.length):LS P o F H [k] (some (.w k n sz 0 b)) []:=LS_v fun γ G w A ha hw=>by
 have hm:∀ y,y=x∨y=q→y∈o.op.operands:=fun y hy=>by rw [ho];simpa [Op.operands] using hy
 have hOR:=hw.obj k (List.mem_singleton.2 rfl) _ hk
 obtain⟨h1,vs,h2,_⟩:=own_sl hOR (ha x (hm x (.inl rfl)) _ hx)
 obtain⟨pp,cap,h3,h4,_⟩:=X7 h2
 have g1:=C5 (a:=A) (hm x (.inl rfl))
 have g3:=C5 (a:=A) (hm q (.inr rfl))
 have k3:=ha q (hm q (.inr rfl)) _ hhi
 rw [LR,DR] at k3
 rw [h3] at g1
 rw [k3] at g3
 refine⟨win (γ k).1 sz 0 b,fun ρ hag=>?_,?_⟩
 ·have r1:=hag.ev (hm x (.inl rfl)) g1
  have r3:=hag.ev (hm q (.inr rfl)) g3
  have r4:=G5 (t:=t) (P:=P) w
  have r5:=Go.En.run_sizeOf (P:=P) (t:=e) w
  subst hzb
  have hb':b≤cap:=by omega
  rw [← h1,h3]
  simp only [execOp,ho,Instr.sliceAt,Instr.slice,Instr.sliceBounds,Instr.sliceBound,asIntOf,r1,r3,Option.map_some,Option.map_none]
  simp [go_sem,r4,hb',r5,win]
 ·rw [LR]
  exact⟨⟨Nat.le_of_eq hOR.1.symm,by rw [← h1,h3];rfl⟩,fun _=>rfl⟩
theorem A2f (z:Array Value):∀ m,(Builtin.zeroCells z m).toList=(List.replicate m z.toList).flatten
 | 0=>by simp [Builtin.zeroCells]
 | m + 1 => by
  have ih:=A2f z m
  unfold Builtin.zeroCells at ih ⊢
  rw [List.replicate_succ',List.flatten_append,← ih,Array.toList_map,Array.toList_range,Array.toList_map,Array.toList_range,show(m+1)*z.size=m*z.size+z.size by rw [Nat.add_mul,Nat.one_mul],List.range_add,List.map_append,List.map_map]
  congr 1
  rw [List.flatten_cons,List.flatten_nil,List.append_nil]
  apply List.ext_getElem
  ·simp
  ·intro i h1 h2
   have hi:i<z.size:=by simpa using h2
   have hz:0<z.size:=by omega
   have hm:(m*z.size+i) % z.size=i:=by rw [Nat.mul_comm,Nat.mul_add_mod,Nat.mod_eq_of_lt hi]
   simp [hm,getElem!_pos,hi]
theorem A1y {α:Type}{sz:Nat}:∀ {rows:List (List α)} (b:Nat),(∀ r∈rows,r.length=sz)→rows.flatten.drop (b*sz)=(rows.drop b).flatten
 | [],b,_=>by simp
 | r::rs,0,_=>by simp
 | r::rs,b+1,h=>by
  rw [List.flatten_cons,List.drop_succ_cons,show(b+1)*sz=r.length+b*sz by rw [h r (List.mem_cons_self ..),Nat.add_mul];omega,← List.drop_drop,List.drop_left,A1y b fun q hq=>h q (List.mem_cons_of_mem _ hq)]
theorem B1b {G:Nat→Prop}{w:World}{one:Bool}:∀ {vs:List Value},(one=true→vs.all Value.oneCell'=true)→DR.valsR G w one (vs.map .v) vs
 | [],_=>by rw [List.map_nil,DR.valsR]
 | v::r,h=>by
  rw [List.map_cons,DR.valsR]
  refine⟨v,r,rfl,fun ho=>?_,by rw [DR],B1b fun ho=>?_⟩
  ·have:=h ho;simp only [List.all_cons,Bool.and_eq_true] at this;exact this.1
  ·have:=h ho;simp only [List.all_cons,Bool.and_eq_true] at this;exact this.2
theorem C2y {α:Type}(l:List α):∀ m,(List.replicate m l).flatten.length=m*l.length
 | 0=>by simp
 | m+1=>by rw [List.replicate_succ,List.flatten_cons,List.length_append,C2y l m,Nat.add_mul];omega
theorem C6m {t e e':TypeId}{x:Operand}{z:Value}{sz bytes k n a b:Nat}{rows:List (List Dt)}[UT P t (.slice e)][ti:TI P e z sz bytes](ho:o.op=.call { callee:=.builtin .clear,args:=#[x],argTypes:=#[t] })(hx:ef F x=some (.w k n sz a b))(hk:lo H k=some (.ls e' sz n rows))
  (hz:Nat.beq z.cells.size sz=true) (h1:z.cells.toList.all Value.oneCell'=true) (hab:a<b) (hb:b≤rows.length):LS P o F H [k] none [(k,.ls e' sz n (rows.take a++List.replicate (b-a) (z.cells.toList.map .v)++rows.drop b))]:=fun γ G w A ha hw K Q hK=>by
 have hm:x∈o.op.operands:=by rw [ho];simp [Op.operands,Call.operands]
 have hq:=Nat.eq_of_beq_eq_true hz
 obtain⟨i0,hi,hz0,hz1,hz2⟩:=info_parts ti.i
 have hOR:=hw.obj k (List.mem_singleton.2 rfl) _ hk
 obtain⟨h5,h6,vs,h7,h8⟩:=hOR
 have hw1:=ha x hm _ hx
 rw [LR] at hw1
 have hv:=hw1.2 h5.symm
 have hzv:(zeroValue e).run P w=.ok z w:=N9 (P:=P) (t:=e) w
 have hu:=G5 (t:=t) (P:=P) w
 have hrz:(z.cells.toList.map Dt.v).length=sz:=by rw [List.length_map,Array.length_toList,hq]
 have hsz':∀ r∈rows.take a++List.replicate (b-a) (z.cells.toList.map .v)++rows.drop b,r.length=sz:=fun r hr=>by
  rcases List.mem_append.1 hr with hr|hr
  ·rcases List.mem_append.1 hr with hr|hr
   ·exact h6 r (List.mem_of_mem_take hr)
   ·rw [(List.mem_replicate.1 hr).2];exact hrz
  ·exact h6 r (List.mem_of_mem_drop hr)
 have hlen':(rows.take a++List.replicate (b-a) (z.cells.toList.map Dt.v)++rows.drop b).length=rows.length:=by simp;omega
 have hvl:vs.length=rows.length*sz:=by rw [vals_len h8];exact A1x h6
 obtain⟨zs,hzs⟩:∃ l,(List.replicate (b-a) z.cells.toList).flatten=l:=⟨_,rfl⟩
 have hzl:zs.length=(b-a)*sz:=by rw [← hzs,C2y,Array.length_toList,hq]
 have hzd:(List.replicate (b-a) (z.cells.toList.map Dt.v)).flatten=zs.map Dt.v:=by rw [← hzs,List.map_flatten,List.map_replicate]
 have hz1':∀ u∈zs,u.oneCell'=true:=fun u hu=>by
  rw [← hzs] at hu
  obtain⟨l,hl,hu⟩:=List.mem_flatten.1 hu
  rw [(List.mem_replicate.1 hl).2] at hu
  exact List.all_eq_true.1 h1 u hu
 have hval:∀ {w':World},(∀ q,G q→G q∧w'.heap[q]?=w.heap[q]?)→DR.valsR G w' true (rows.take a++List.replicate (b-a) (z.cells.toList.map Dt.v)++rows.drop b).flatten (vs.take (a*sz)++zs++vs.drop (b*sz)):=fun hG=>by
  rw [List.flatten_append,List.flatten_append,← Y6 a h6,← A1y b h6,hzd]
  exact R7 (R7 (G4 hG true _ _ (X3 h8)) (B1b fun _=>List.all_eq_true.2 hz1')) (G4 hG true _ _ (A5c h8))
 rcases h7.2 with⟨g1,g2⟩|⟨g,cap,cur,g1,g2,g3,g4,g5,g6,g7⟩
 ·omega
 ·have hcl:cur.toList.length=cap*sz:=by rw [Array.length_toList];exact g6
  have hvs:∀ i,i≤rows.length→(cur.toList.take (i*sz))=vs.take (i*sz):=fun i hi=>by
   rw [← g7,List.take_take,Nat.min_eq_left (Nat.mul_le_mul_right _ hi)]
  have hac:a*sz≤cap*sz:=Nat.mul_le_mul_right _ (by omega)
  have hbc:b*sz≤cap*sz:=Nat.mul_le_mul_right _ (by omega)
  have hbr:b*sz≤rows.length*sz:=Nat.mul_le_mul_right _ hb
  have hrc:rows.length*sz≤cap*sz:=Nat.mul_le_mul_right _ g4
  have hab':a*sz+(b-a)*sz=b*sz:=by rw [← Nat.add_mul];congr 1;omega
  have hst:=run_storeCells_at (P:=P) g (a*sz) e' zs 0 cur w g3 (by rw [hzl];omega) hz1'
  simp only [Nat.add_zero] at hst
  rw [hzl,hab'] at hst
  have hkb:Kb (some g) w (w.setRow g (cur.toList.take (a*sz)++zs++cur.toList.drop (b*sz)).toArray):=⟨rfl,rfl,rfl,by simp,fun j hj hne=>setRow_other w g j _ (fun e=>hne (by rw [e]))⟩
  have hx9:A.eval x=.slice (some ⟨g,a*sz,none⟩) (b-a) (cap-a):=by
   rw [hv,g1]
   simp only [win]
   rw [if_neg (by omega)]
   simp [D6]
  obtain⟨m',hm'⟩:∃ m',b-a=m'+1:=⟨b-a-1,by omega⟩
  have hrep:(Builtin.zeroCells z.cells (m'+1)).toList=zs:=by rw [A2f,← hm',hzs]
  have hrun:(execOp A.eval o).run P w=.ok (.value (.tuple #[])) (w.setRow g (cur.toList.take (a*sz)++zs++cur.toList.drop (b*sz)).toArray):=by
   rw [hm'] at hx9
   simp only [execOp,ho,resolve,invoke,builtin,Builtin.clear_,Sem.run_bind,Sem.run_pure,Result.andThen_ok,List.map_toArray,List.map_cons,List.map_nil,hx9,hu,hzv,hrep]
   simp [hu,hzv,hrep,hst]
  have hob:oblk γ k (.ls e' sz n rows)=some g:=by simp [oblk,g1,blk]
  have hown:=hw.own k (List.mem_singleton.2 rfl) _ g hk hob
  have hGn:∀ q,G q→G q∧(w.setRow g (cur.toList.take (a*sz)++zs++cur.toList.drop (b*sz)).toArray).heap[q]?=w.heap[q]?:=fun q hq=>⟨hq,World.grownBy.block hkb q (hw.glt q hq) fun e=>hown.2 (by cases e;exact hq)⟩
  have hrow':=setRow_heap w g cur (cur.toList.take (a*sz)++zs++cur.toList.drop (b*sz)).toArray e' (0,0) g3
  unfold Oper.wp
  rw [hrun]
  refine hK (.tuple #[]) _ _ _ (Evo.chg (p:=γ k) (b0:=some g) hkb hw.glt (List.mem_singleton.2 rfl) hk hob.symm (.inl rfl) ⟨by rw [C3];exact h5,hsz',vs.take (a*sz)++zs++vs.drop (b*sz),?_,hval hGn⟩ (fun q hq'=>by cases hq';exact⟨hown.2,hown.1⟩) (fun q hq'=>by rw [g1] at hq';cases hq';exact .inl rfl) (fun _ h=>by cases h))
  rw [C3,g1,hlen']
  refine⟨by rw [List.length_append,List.length_append,List.length_take,List.length_drop,hzl,hvl];omega,.inr ⟨g,cap,_,rfl,g2,hrow',g4,g5,by simp [hzl];omega,?_⟩⟩
  rw [List.toList_toArray,hvs a (by omega),List.take_append,List.take_of_length_le (by rw [List.length_append,List.length_take,hvl,hzl];omega)]
  congr 1
  rw [List.length_append,List.length_take,hvl,hzl,Nat.min_eq_left (by omega),hab',← g7,List.drop_take]
theorem N1 {α:Type}{C:α→List Dt}{l:List α}{q q':α}{t e:TypeId}{x y:Operand}{z:Value}{size bytes k n off m j sz:Nat}{ys:List Dt}{lf':Lf}[TI P t z size bytes](ho:o.op=.store t x y)(hx:ef F x=some (.p k n off))(hk:lo H k=some (.ls e sz n (l.map C)))(hy:ef F y=some lf')(hc:lds lf'=some ys)(hs:Nat.beq ys.length size=true)
  (hoff:off=m*sz+j) (hr:l[m]?=some q) (hj:j+size≤sz) (hC:(C q).take j++ys++(C q).drop (j+size)=C q'):LS P o F H [k] none [(k,.ls e sz n ((l.set m q').map C))]:=by
 have:=M1 (P:=P) (F:=F) (H:=H) ho hx hk hy hc hs hoff (by rw [List.getElem?_map,hr];rfl) hj
 rwa [hC,← List.map_set] at this
theorem J7 {t:TypeId}{d:TypeDesc}{x:Operand}{k n off m sz:Nat}{e:TypeId}{rows:List (List Dt)}{r:List Dt}{z:Value}{bytes:Nat}[UT P t d][TI P t z sz bytes](ho:o.op=.load t x)(hd:K1 d=true)(hx:ef F x=some (.p k n off))(hk:lo H k=some (.ls e sz n rows))(hoff:off=m*sz)(hr:rows[m]?=some r):LS P o F H [k] (some (.g (r.map .d))) []:=fun γ G w a ha hw=>by
 have hOR:=hw.obj k (List.mem_singleton.2 rfl) _ hk
 have hml:m<rows.length:=(List.getElem?_eq_some_iff.1 hr).1
 have h1:((rows.flatten.map Lf.d).drop off).take sz=r.map .d:=by
  rw [hoff,← List.map_drop,A1y m hOR.2.1,List.drop_eq_getElem_cons hml,List.flatten_cons,show rows[m]=r from(List.getElem?_eq_some_iff.1 hr).2,← List.map_take,List.take_left' (hOR.2.1 r (List.mem_of_getElem? hr))]
 have:=A1t (P:=P) (F:=F) (H:=H) ho hd hx hk rfl (by
  rw [List.length_map,A1x hOR.2.1,hoff]
  have:(m+1)*sz≤rows.length*sz:=Nat.mul_le_mul_right _ hml
  rw [Nat.add_mul] at this
  exact Nat.ble_eq_true_of_le (by omega))
 rw [h1] at this
 exact this γ G w a ha hw
end
theorem C1t {γ:Gh}{G:Nat→Prop}{w:World}{y:Lf}:∀ {cs:List Lf} {us:List Value} {i:Nat} {u:Value},LR.LsR γ G w true cs us→us[i]?=some u→LR γ G w y u→LR.LsR γ G w true (cs.set i y) us
 | [],us,i,u,h,hu,hy=>by rw [LR.LsR] at h;subst h;simp at hu
 | x::r,us,0,u,h,hu,hy=>by
  rw [LR.LsR] at h
  obtain⟨v,q,rfl,h2,h3,h4⟩:=h
  simp at hu
  subst hu
  rw [List.set_cons_zero,LR.LsR]
  exact⟨v,q,rfl,h2,hy,h4⟩
 | x::r,us,i+1,u,h,hu,hy=>by
  rw [LR.LsR] at h
  obtain⟨v,q,rfl,h2,h3,h4⟩:=h
  rw [List.set_cons_succ,LR.LsR]
  exact⟨v,q,rfl,h2,h3,C1t h4 (by simpa using hu) hy⟩
theorem Rel.takeB {c : Cx}{n : Nat}{F : Fr}{H : Hp}{a : Act}{w : World}(k i j : Nat)(t : TypeId)(sz : Nat){e : TypeId}{cs : List Lf}(h : Rel c n F H a w)(hk : lo H k = some (.box e cs))(hi : cs[i]? = some (.d (.v (.slice none 0 0))))(hj : Nat.beq k j = false)(hf : frs [(k, .box e (cs.set i (.o j 0))), (j, .ls t sz 0 [])] [k] F H = true)(hn : nams j cs = false) :
  Rel c n F ((k,.box e (cs.set i (.o j 0)))::(j,.ls t sz 0 [])::H) a w:=by
 obtain⟨h1,h2,γ,G,hw,hsl⟩:=h
 have hjk:k≠j:=fun e=>by subst e;simp at hj
 obtain⟨g1,b,vs,g2,g3,g4⟩:=hw.obj k _ hk
 have hevo:Evo γ G w H [k] [(k,.box e (cs.set i (.o j 0))),(j,.ls t sz 0 [])] none undef (upg γ j (.slice none 0 0,0)) G w:=by
  have gk:upg γ j (.slice none 0 0,0) k=γ k:=A7w γ _ hjk
  have hlo:∀ q,lo [(k,Ob.box e (cs.set i (.o j 0))),(j,.ls t sz 0 [])] q=if k=q then some (.box e (cs.set i (.o j 0))) else if j=q then some (.ls t sz 0 []) else none:=fun q=>by
   rw [D3,D3];rfl
  refine⟨Kx.refl _ _,fun _ h=>h,fun b hb=>⟨(hw.glt b hb).1,.inl hb⟩,fun q hq=>?_,fun q hq hm=>?_,fun q ob hq=>?_,fun q ob b' hq hb=>?_,fun q q' ob ob' b' hq hq' hb hb'=>?_,fun y hy=>by cases hy⟩
  ·refine A7w γ _ fun e=>?_
   subst e
   rw [hlo,if_neg hjk,if_pos rfl] at hq;cases hq
  ·rw [List.mem_singleton.1 hm];exact .inl gk
  ·rw [hlo] at hq
   split at hq
   ·rename_i e1;subst e1
    cases hq
    obtain⟨u,hu,_,hu2⟩:=A1i g4 hi
    rw [LR,DR] at hu2
    refine⟨by rw [gk];exact g1,b,vs,by rw [gk];exact g2,g3,C1t (D4i g4 (.inl hn)) hu ?_⟩
    rw [LR,C3,hu2]
    exact⟨⟨Nat.le_refl _,rfl⟩,fun _=>rfl⟩
   ·split at hq
    ·rename_i e1;subst e1
     cases hq
     exact⟨by rw [C3],fun r hr=>by simp at hr,[],by rw [C3];exact World.ownsRow_nil w 0 t sz,by rw [List.flatten_nil,DR.valsR]⟩
    ·cases hq
  ·rw [hlo] at hq
   split at hq
   ·rename_i e1;subst e1
    cases hq
    have hb':oblk γ k (.box e cs)=some b':=by simpa [oblk,gk] using hb
    obtain⟨q1,q2,_⟩:=hw.own k _ b' hk hb'
    exact⟨q1,q2,.inr ⟨k,List.mem_singleton.2 rfl,_,hk,by rw [hlo,if_pos rfl];simp,hb'⟩⟩
   ·split at hq
    ·rename_i e1;subst e1
     cases hq
     simp [oblk,C3,blk] at hb
    ·cases hq
  ·rw [hlo] at hq hq'
   split at hq
   ·rename_i e1;subst e1
    split at hq'
    ·assumption
    ·split at hq'
     ·rename_i e1;subst e1
      cases hq'
      simp [oblk,C3,blk] at hb'
     ·cases hq'
   ·split at hq
    ·rename_i e1;subst e1
     cases hq
     simp [oblk,C3,blk] at hb
    ·cases hq
 have:=Rel.step (d:=none) (v:=undef) h1 h2 hw hsl rfl hf hevo
 exact this
theorem A4w {P:Program}{c:Cx}{n:Nat}{Q:Post}{F:Fr}{H:Hp}{x:Code}(k i j:Nat)(t:TypeId)(sz:Nat){e:TypeId}{cs:List Lf}(hk:lo H k=some (.box e cs))(hi:cs[i]?=some (.d (.v (.slice none 0 0))))(hj:Nat.beq k j=false)(hf:frs [(k,.box e (cs.set i (.o j 0))),(j,.ls t sz 0 [])] [k] F H=true)(hn:nams j cs=false)
  (h:X P c n x Q F ((k,.box e (cs.set i (.o j 0)))::(j,.ls t sz 0 [])::H)):X P c n x Q F H:=fun a w hr=>h a w (hr.takeB k i j t sz hk hi hj hf hn)
section
variable {P : Program}{c : Cx}{n : Nat}{Q : Post}{F F0 : Fr}{H H0 : Hp}{ops rest : List Oper}{o : Oper}{sps : List Sp}
theorem D4o {d:Nat}{t e u:TypeId}{x y:Operand}{sz:Nat}{rows:List (List Dt)}[UT P t (.slice e)](ho:o.op=.binOp .eql t x y u)(hx:ef F x=some (.d (.s sz rows)))(hy:ef F y=some (.d (.v (.slice none 0 0))))(hg:gsf ops F o=some true)(hd:odst n o.dst=some d)
  (k:∀ b,(0<rows.length→b=false)→XG false P c n ops Q F0 H0 sps rest ((d,.d (.v (.bool b)))::F) H):XG false P c n ops Q F0 H0 sps (o::rest) F H:=by
 intro a w hr
 obtain⟨h1,h2,γ,G,hw,hs⟩:=hr
 have hxr:=Rel.ev hs hx
 have hyr:=Rel.ev hs hy
 rw [LR] at hxr hyr
 rw [DR.eq_def] at hxr hyr
 dsimp only at hxr hyr
 obtain⟨p,cap,e1,_,_,h4⟩:=hxr
 have hmx:x∈o.op.operands:=by rw [ho];simp [Op.operands]
 have hmy:y∈o.op.operands:=by rw [ho];simp [Op.operands]
 refine wpList_step fun K hK=>?_
 rw [T5 hs hg,if_pos rfl]
 have l1:=C5 (a:=a) hmx
 have l2:=C5 (a:=a) hmy
 rw [e1] at l1
 rw [hyr] at l2
 unfold Oper.wp
 rw [val_nil_eq (w:=w) ho l1 l2 a.eval (S1 o a)]
 have hd':=D1 hd
 refine hK _ _ (k p.isNone (fun h0=>by obtain⟨b,off,rfl,_⟩:=h4 h0;rfl) _ _ ?_)
 rw [hd'.1]
 exact Rel.step (he:=[]) (ks:=[]) (x:=some (.d (.v (.bool p.isNone)))) (d:=some d) h1 h2 hw hs (by have:=hd'.2;rw [hd'.1] at this;exact this) rfl (Evo.none (fun b hb=>(hw.glt b hb).1) fun y hy=>by cases hy;rw [LR,DR])
theorem C0 {fn:Func}{R:Ending→World→Prop}(h:XK c n (bodyPost P fn R) .ret F H):XK c n (bodyPost P fn R) .normal F H:=h
end
end Go.Dl
namespace Go.Dl
open Go.RowKit Go.En
theorem A9o {p q:Nat→Option (Nat × Nat)}:∀(vs:List (Nat × Value)) (cs:Array Value),(∀ v∈vs,p v.1=q v.1)→Instr.fill p cs vs=Instr.fill q cs vs
 | [],_,_=>rfl
 | (i,v)::r,cs,h=>by
  simp only [Instr.fill]
  rw [h (i,v) (List.mem_cons_self ..)]
  cases q i with
  | none=>rfl
  | some x=>
   dsimp only
   rw [A9o r _ fun v hv=>h v (List.mem_cons_of_mem _ hv)]
theorem C0m {P : Program}{L : List (Nat × Value)}{w : World}{o : Oper}{t e : TypeId}{m : Nat}{z ze : Value}{size bytes es eb : Nat}{ps : List (Nat × Nat)}[UT P t (.array m e)][TI P t z size bytes][TI P e ze es eb]{qs : List (Nat × Operand)}{vs : List (Nat × Value)}(cs : List Value)(ho : o.op = .build t qs.toArray)
  (hq:qs.map (fun q=>(q.1,ev L q.2))=vs.map fun v=>(v.1,some v.2)) (hps:∀ q∈qs,ps[q.1]?=some (q.1*es,es)) (hf:A6n ps z.cells.toList vs=some cs):Val P L w o (.agg cs.toArray):=fun ρ ha=>by
 have h3:=G5 (t:=t) (P:=P) w
 have hz:=N9 (P:=P) (t:=t) w
 obtain⟨i0,hi0,_,hs,_⟩:=Q0 (P:=P) (t:=e) w
 have hps2:∀ v∈vs,ps[v.1]?=some (v.1*es,es):=by
  intro v hv
  have h1:(v.1,some v.2)∈qs.map (fun q=>(q.1,ev L q.2)):=by rw [hq];exact List.mem_map.2 ⟨v,hv,rfl⟩
  obtain⟨q,h2,h4⟩:=List.mem_map.1 h1
  have h5:q.1=v.1:=congrArg Prod.fst h4
  rw [← h5];exact hps q h2
 have hp:(qs.map fun p=>(p.1,ρ p.2))=vs:=by
  have hx:∀ p∈qs,∀ v,ev L p.2=some v→ρ p.2=v:=fun p hm v hv=>ha.ev (by rw [ho];simp [Op.operands];exact⟨p.1,hm⟩) hv
  clear ho ha hf hps hps2
  induction qs generalizing vs with
  | nil=>cases vs with|nil=>rfl|cons _ _=>simp at hq
  | cons p r ih=>
   cases vs with
   | nil=>simp at hq
   | cons v vr=>
    simp only [List.map_cons,List.cons.injEq,Prod.mk.injEq] at hq ⊢
    refine⟨?_,ih hq.2 (fun q hm u hu=>hx q (by simp [hm]) u hu)⟩
    rw [hx p (by simp) v.2 hq.1.2,hq.1.1]
 have hfill:=A9p ps vs z.cells.toList cs hf
 rw [Array.toArray_toList,A9o (q:=fun i=>some (i*es,es)) vs _ hps2] at hfill
 have hse:(sizeOf e).run P w=.ok es w:=by simp [sizeOf,go_sem,hi0,hs]
 simp only [execOp,ho,List.map_toArray,hp,Instr.build,Sem.run_bind,hz,h3,Result.andThen_ok,hse,hfill,map_eq_pure_bind,Sem.run_pure]
 try rfl
theorem C6n {P:Program}{o:Oper}{F:Fr}{H:Hp}{t e:TypeId}{m:Nat}{z ze:Value}{size bytes es eb:Nat}(ps:List (Nat × Nat))[UT P t (.array m e)][TI P t z size bytes][TI P e ze es eb]{qs:List (Nat × Operand)}{cs:List Lf}(ho:o.op=.build t qs.toArray)(hps:∀ q∈qs,ps[q.1]?=some (q.1*es,es))(hz:z.cells.toList.all Value.oneCell'=true)(hf:B3r F ps (z.cells.toList.map fun u=>.d (.v u)) qs=some cs) :
  LS P o F H [] (some (.g cs)) []:=LS_v fun γ G w a ha _=>by
 have hmem:∀ q∈qs,q.2∈o.op.operands:=fun q hq=>by rw [ho];simp [Op.operands];exact⟨q.1,hq⟩
 obtain⟨vs,h1,h2⟩:=B5r (f:=a.eval) hf (C5r hz) fun q hq z hz=>ha q.2 (hmem q hq) z hz
 refine⟨_,C0m (z:=z) (ps:=ps) (vs:=qs.map fun q=>(q.1,a.eval q.2)) vs ho ?_ hps h1,by rw [LR];exact⟨vs,rfl,h2⟩⟩
 rw [List.map_map]
 exact List.map_congr_left fun q hq=>by simp [C5 (a:=a) (hmem q hq)]
theorem A7u {P:Program}{L:List (Nat × Value)}{w:World}{o:Oper}{t e:TypeId}{x i:Operand}{b off n:Nat}{k:IntKind}{z:Int}{m:Nat}{zv:Value}{size bytes:Nat}[UT P t (.array n e)][TI P e zv size bytes](ho:o.op=.indexAddr t x i)
  (hx:ev L x=some (.pointer (some ⟨b,off,none⟩))) (hi:ev L i=some (.int k z)) (hz:z=(m:Int)) (hm:m<n):Val P L w o (.pointer (some ⟨b,off+m*size,none⟩)):=fun ρ ha=>by
 have h1:=ha.ev (by rw [ho];simp [Op.operands]) hx
 have h2:=ha.ev (by rw [ho];simp [Op.operands]) hi
 have h3:=G5 (t:=t) (P:=P) w
 obtain⟨i0,hi0,_,hs,_⟩:=Q0 (P:=P) (t:=e) w
 subst hz
 have h5:(0:Int)≤(m:Int)∧(m:Int)<(n:Int):=by omega
 simp [execOp,ho,Instr.indexAt,Instr.sureAddr,go_sem,h1,h2,h3,asIntOf,sizeOf,hi0,hs,hm,D6]
theorem A2o {P:Program}{o:Oper}{F:Fr}{H:Hp}{t e:TypeId}{x i:Operand}{kk:IntKind}{zi:Int}{zv:Value}{size bytes k n off m l:Nat}{ob:Ob}{cs:List Lf}[UT P t (.array l e)][TI P e zv size bytes](ho:o.op=.indexAddr t x i)(hx:ef F x=some (.p k n off))(hk:lo H k=some ob)(hob:obc ob=some (n,cs))
  (hi:ef F i=some (.d (.v (.int kk zi)))) (hz:zi=(m:Int)) (hm:m<l):LS P o F H [k] (some (.p k n (off+m*size))) []:=LS_v fun γ G w a ha hw=>by
 have hmx:x∈o.op.operands:=by rw [ho];simp [Op.operands]
 have hmi:i∈o.op.operands:=by rw [ho];simp [Op.operands]
 obtain⟨b,vs,h1,h2,h3,h4⟩:=Z4 (hw.obj k (List.mem_singleton.2 rfl) ob hk) hob (ha x hmx _ hx)
 have h7:=ha i hmi _ hi
 rw [LR,DR] at h7
 have h8:=C5 (a:=a) hmx
 rw [h2] at h8
 have h10:=C5 (a:=a) hmi
 rw [h7] at h10
 refine⟨_,A7u ho h8 h10 hz hm,?_⟩
 have h9:=(C1b (hw.obj k (List.mem_singleton.2 rfl) ob hk) hob).1
 rw [LR]
 exact⟨⟨Nat.le_of_eq h9.symm,rfl⟩,fun _=>⟨b,h1,rfl⟩⟩
theorem C8l {G:Nat→Prop}{w:World}{sz a b:Nat}{rows:List (List Dt)}{p:Option Addr}{cap:Nat}(h:DR G w (.s sz rows) (.slice p rows.length cap))(hab:a≤b)(hb:b≤rows.length):DR G w (.s sz ((rows.take b).drop a)) (.slice (if b=a then p else p.map (·.add (a*sz))) (b-a) (b-a)):=by
 rw [DR] at h ⊢
 obtain⟨p',cap',h1,h2,h3,h4⟩:=h
 simp only [Value.slice.injEq,true_and] at h1
 obtain⟨rfl,rfl⟩:=h1
 have hl:((rows.take b).drop a).length=b-a:=by rw [List.length_drop,List.length_take,Nat.min_eq_left hb]
 refine⟨_,_,by rw [hl],by omega,by omega,fun h0=>?_⟩
 rw [hl] at h0
 obtain⟨B,off,rfl,hG,h5⟩:=h4 (by omega)
 have h6:=A5g a (A5f b h5)
 by_cases hc:b=a
 ·omega
 ·rw [if_neg hc]
  exact⟨B,off+a*sz,by simp [D6],hG,h6⟩
theorem C6l {P:Program}{o:Oper}{F:Fr}{H:Hp}{t e:TypeId}{x p q r:Operand}{a b sz:Nat}{kl kh kr:IntKind}{za zb zr:Int}{zv:Value}{bytes:Nat}{rows:List (List Dt)}[UT P t (.slice e)][TI P e zv sz bytes](ho:o.op=.slice t x (some p) (some q) (some r))(hx:ef F x=some (.d (.s sz rows)))
  (hlo:ef F p=some (.d (.v (.int kl za)))) (hhi:ef F q=some (.d (.v (.int kh zb)))) (hmx:ef F r=some (.d (.v (.int kr zr)))) (hza:za=(a:Int)) (hzb:zb=(b:Int)) (hzr:zr=(b:Int)) (hab:a≤b) (hb:b≤rows.length):LS P o F H [] (some (.d (.s sz ((rows.take b).drop a)))) []:=LS_v fun γ G w A ha _=>by
 have hm:∀ y,y=x∨y=p∨y=q∨y=r→y∈o.op.operands:=fun y hy=>by rw [ho];simpa [Op.operands] using hy
 have h1:=ha x (hm x (.inl rfl)) _ hx
 rw [LR] at h1
 have h0:=h1
 rw [DR] at h0
 obtain⟨P',cap,h2,h3,h4,h5⟩:=h0
 rw [h2] at h1
 have g1:=C5 (a:=A) (hm x (.inl rfl))
 have g2:=C5 (a:=A) (hm p (.inr (.inl rfl)))
 have g3:=C5 (a:=A) (hm q (.inr (.inr (.inl rfl))))
 have g4:=C5 (a:=A) (hm r (.inr (.inr (.inr rfl))))
 have k2:=ha p (hm p (.inr (.inl rfl))) _ hlo
 have k3:=ha q (hm q (.inr (.inr (.inl rfl)))) _ hhi
 have k4:=ha r (hm r (.inr (.inr (.inr rfl)))) _ hmx
 rw [LR,DR] at k2 k3 k4
 rw [h2] at g1
 rw [k2] at g2
 rw [k3] at g3
 rw [k4] at g4
 refine⟨_,fun ρ hag=>?_,by rw [LR];exact C8l h1 hab hb⟩
 have r1:=hag.ev (hm x (.inl rfl)) g1
 have r2:=hag.ev (hm p (.inr (.inl rfl))) g2
 have r3:=hag.ev (hm q (.inr (.inr (.inl rfl)))) g3
 have r6:=hag.ev (hm r (.inr (.inr (.inr rfl)))) g4
 have r4:=G5 (t:=t) (P:=P) w
 have r5:=Go.En.run_sizeOf (P:=P) (t:=e) w
 subst hza;subst hzb;subst hzr
 have hb':b≤cap:=by omega
 simp only [execOp,ho,Instr.sliceAt,Instr.slice,Instr.sliceBounds,Instr.sliceBound,asIntOf,r1,r2,r3,r6,Option.map_some]
 simp [go_sem,r4,hab,hb',r5]
end Go.Dl
