/-
  Walks of align: the insertion sort of notes. Walks of align: SortStableFunc of few notes, Kids. Walks of align: the program's Of.
-/
import Derived.Test.YtnifmbbpfdghmaaGreatDoorY8
import Derived.Test.YtnifmbbpfdghmaaGreatDoorY3
set_option linter.all false
namespace Go.Proofs.YtnifmbbpfdghmaaGreatDoor
open Go.RowKit Go.En
theorem Kb.trans {g:Option Nat} {a b c:World} (h:Kb g a b) (k:Kb g b c):Kb g a c:=
  ⟨(World.grownBy.os k).trans (World.grownBy.os h),(World.grownBy.tape k).trans (World.grownBy.tape h),(World.grownBy.output k).trans (World.grownBy.output h),Nat.le_trans (Kb.size h) (Kb.size k),fun i hi hne=>(World.grownBy.block k i (Nat.lt_of_lt_of_le hi (Kb.size h)) hne).trans (World.grownBy.block h i hi hne)⟩
theorem Kb.refl (g:Option Nat) (w:World):Kb g w w:=(Ext.refl w).kb g
def cellsN (ys:List Note) (tail:List Value):List Value:=(ys.map noteC).flatten++tail
theorem notes_lens (ys:List Note):∀ c∈ys.map noteC,c.length=7:=by
  intro c hc
  obtain⟨y,_,rfl⟩:=List.mem_map.1 hc
  rfl
theorem notes_flat (ys:List Note):(ys.map noteC).flatten.length=ys.length*7:=by rw [flat_len2 (notes_lens ys),List.length_map]
theorem row_note {w:World} {b:Nat} {e:TypeId} {ys:List Note} {tail:List Value} (h:Row w b e (cellsN ys tail)) {i:Nat} {y:Note} (hy:ys[i]?=some y):At w b (i*7) (noteC y):=by
  have h1:At w b 0 (ys.map noteC).flatten:=fun j v hv=>h.at j v (by
    unfold cellsN
    rw [List.getElem?_append_left (List.getElem?_eq_some_iff.1 hv).1];exact hv)
  have:=At.elem (f:=noteC) (k:=7) (fun _ _=>rfl) h1 hy
  rwa [Nat.zero_add] at this
theorem cells_set {ys:List Note} {tail:List Value} {i:Nat} {y:Note} (hi:i<ys.length):(cellsN ys tail).take (i*7)++noteC y++(cellsN ys tail).drop (i*7+7)=cellsN (ys.set i y) tail:=by
  have hl:=notes_flat ys
  unfold cellsN
  rw [List.take_append_of_le_length (by omega),List.drop_append_of_le_length (by omega),show i*7+7=(i+1)*7 by omega,← flat_take2 i (notes_lens ys),← flat_drop2 (i+1) (notes_lens ys),← List.map_take,← List.map_drop,List.set_eq_take_append_cons_drop,if_pos hi]
  simp
theorem insSort_take {α:Type} {lt:α→α→Bool} {xs:List α} {i:Nat} {x:α} (h:xs[i]?=some x):insSort lt (xs.take (i+1))=insR lt (insSort lt (xs.take i)) x:=by
  obtain⟨hi,rfl⟩:=List.getElem?_eq_some_iff.1 h
  unfold insSort
  rw [List.take_succ_eq_append_getElem hi,List.foldl_append]
  rfl
theorem set_mid {α:Type} {p t:List α} {a b:α} {j:Nat} (h:p.length=j):(p++a::t).set j b=p++b::t:=by
  subst h
  rw [List.set_append_right _ _ (Nat.le_refl _),Nat.sub_self,List.set_cons_zero]
theorem ret_0 {P:Program} {n:Nat} {L:List (Nat × Value)} {w:World} {fn:Func} {S:Value→World→Prop} (hr:fn.results=#[]) (hs:S (.tuple #[]) w):K n (bodyPost P fn (Rt S)) .ret L w:=fun a ha=>by
  exact⟨ha.nod,.tuple #[],results_none hr _ _ _,_,rfl,hs⟩
attribute [local irreducible] E EL K Val Enters Rt Calls bodyPost Code.wp RQ
set_option maxRecDepth 8000 in
set_option maxHeartbeats 4000000 in
theorem ins_row (xs : List Note) (tail : List Value) (b cap : Nat) (w : World) (h0 : 0 < xs.length) (hlen : xs.length ≤ 1000) (hr : Row w b 74 (cellsN xs tail)) : Calls Tryz.prog 179 #[.slice (some ⟨b, 0, none⟩) xs.length cap, int 0, int xs.length, .func (.func 134) #[] #[] ] w (Rt fun _ w' => Row w' b 74 (cellsN (insSort ordB xs) tail) ∧ Kb (some b) w w') := by
  refine calls_E (n:=53) (args:=[.slice (some ⟨b,0,none⟩) xs.length cap,int 0,int xs.length,.func (.func 134) #[] #[] ]) Tryz.func179 rfl Tryz.ntmps179 (by simp) ?_
  (repeat' (first|(refine at_EL ?_;first|refine eN ?_|refine eV Z Z (zA Z Z) ?_|refine eV Z Z (zB Z Z) ?_|(refine at_bin ?_;first|refine eV Z Z (zU Z Z Z (by omega) (by omega)) ?_))|(refine at_K ?_;first|refine K_then ?_)|(refine at_E ?_;first|refine E_seq ?_|refine E_region ?_|refine E_block ?_)))
  refine E_loop (ι:=Nat) (fun i=>[(0,.slice (some ⟨b,0,none⟩) xs.length cap),(1,int 0),(2,int xs.length),(3,.func (.func 134) #[] #[]),(8,int i)])
    (fun i wr=>1≤i∧i≤xs.length∧Row wr b 74 (cellsN (insSort ordB (xs.take i)++xs.drop i) tail)∧Kb (some b) w wr) (fun i=>xs.length-i) 1
    ⟨rfl,rfl,rfl,rfl,rfl,trivial⟩ ⟨Nat.le_refl _,h0,by
      obtain⟨x,r,rfl⟩:∃ x r,xs=x::r:=by cases xs with|nil=>simp at h0|cons x r=>exact⟨x,r,rfl⟩
      exact hr,Kb.refl _ _⟩ ?_
  rintro i wr ⟨hi1,hi,rr,hk⟩
  by_cases hlt:i<xs.length
  · obtain⟨x,hx⟩:∃ x,xs[i]?=some x:=⟨_,List.getElem?_eq_getElem hlt⟩
    have hd:xs.drop i=x::xs.drop (i+1):=by
      obtain⟨h1,rfl⟩:=List.getElem?_eq_some_iff.1 hx
      exact List.drop_eq_getElem_cons h1
    have hSl:(insSort ordB (xs.take i)).length=i:=by rw [(insSort_perm _).length_eq,List.length_take];omega
    obtain⟨S,hS⟩:∃ S,S=insSort ordB (xs.take i):=⟨_,rfl⟩
    have hnext:=insSort_take (lt:=ordB) hx
    rw [← hS] at rr hSl hnext
    rw [hd] at rr
    (repeat' (first|(refine at_EL ?_;first|refine eN ?_|refine eV Z Z (zA Z Z) ?_|refine eV Z Z (zB Z Z) ?_|(refine at_bin ?_;first|refine eD Z Z (zL Z Z Z) (fun hh=>?_) (fun hh=>?_)))|(refine at_K ?_;first|refine K_then ?_|refine K_then_exit ?_|refine K_in_exit ?_)|(refine at_E ?_;first|refine E_seq ?_|refine E_region ?_|refine E_cond_t Z ?_|refine E_cond_f Z ?_|refine E_block ?_|refine E_skip ?_|refine E_exit ?_)))
    all_goals (first|(exfalso;omega)|skip)
    refine E_loop (ι:=Nat × List Note × List Note) (fun s=>[(0,.slice (some ⟨b,0,none⟩) xs.length cap),(1,int 0),(2,int xs.length),(3,.func (.func 134) #[] #[]),(8,int i),(9,int s.1)])
      (fun s wr=>S=s.2.1++s.2.2∧s.2.1.length=s.1∧(∀ z∈s.2.2,ordB x z=true)∧Row wr b 74 (cellsN (s.2.1++x::s.2.2++xs.drop (i+1)) tail)∧Kb (some b) w wr) (fun s=>s.1) (i,S,[])
      ⟨rfl,rfl,rfl,rfl,rfl,rfl,trivial⟩ ⟨by simp,hSl,by simp,by simpa using rr,hk⟩ ?_
    rintro⟨j,p,s⟩ wq ⟨hps,hpl,hall,rq,hkq⟩
    dsimp only at hps hpl hall rq hkq ⊢
    have hjl:j+s.length=i:=by rw [← hSl,hps,List.length_append,hpl]
    by_cases hj:0<j
    · obtain⟨q,z,rfl⟩:∃ q z,p=q++[z]:=⟨p.dropLast,p.getLast (by intro e;rw [e] at hpl;simp at hpl;omega),(List.dropLast_concat_getLast _).symm⟩
      have hql:q.length=j-1:=by simp at hpl;omega
      have a1:(q++[z]++x::s++xs.drop (i+1))[j]?=some x:=by
        rw [List.append_assoc,List.getElem?_append_right (by omega),hpl];simp
      have a0:(q++[z]++x::s++xs.drop (i+1))[j-1]?=some z:=by
        rw [List.append_assoc,List.append_assoc,List.getElem?_append_right (by omega),hql];simp
      have atx:=row_note rq a1
      have atz:=row_note rq a0
      have hjm:((j:Int)-1)=((j-1:Nat):Int):=by omega
      by_cases ho:ordI x z<0
      · (repeat' ((fail_if_success (refine E_seq (x:=(Code.block 3 _)) ?_));first|refine yV Z Z (fun _ _ _=>val_indexAddr (m:=j) Z Z Z Z (by omega)) ?_|refine yV Z Z (fun _ _ _=>val_indexAddr (m:=j-1) Z Z Z (by omega) (by omega)) ?_|refine yV Z Z (fun wq _ xq=>val_loadA Z Z Z (cs:=noteC x) (by simpa using atx.ext xq) Z) ?_|refine yV Z Z (fun wq _ xq=>val_loadA Z Z Z (cs:=noteC z) (by simpa using atz.ext xq) Z) ?_|refine RQ_call Z Z (fun _ _ _=>entersC Z Z Z en134) (fun wq _=>order_any _ _ wq) ?_|(refine at_EL ?_;first|refine eN ?_|refine eV Z Z (zA Z Z) ?_|refine eV Z Z (zB Z Z) ?_|(refine at_bin ?_;first|refine eV Z Z (zU Z Z Z (by omega) (by omega)) ?_))|(refine at_K ?_;first|refine K_then ?_|refine K_in ?_|refine K_then_exit ?_|refine K_in_exit ?_)|(refine at_E ?_;first|refine E_seq ?_|refine E_region ?_|refine E_cond_t Z ?_|refine E_cond_f Z ?_|refine E_skip ?_|refine E_exit ?_|refine E_dq mixedOk (by kernel_rfl) Z ?_)|(refine at_RQ ?_;first|refine yN Z (fun wq xq=>?_)|refine yO Z Z ?_|refine yV Z Z (fun _ _ _=>zA Z Z) ?_|(refine at_binR ?_;first|refine yD Z Z (fun _ _ _=>zL Z Z Z) (fun hh=>?_) (fun hh=>?_)|refine yD Z Z (fun _ _ _=>zO Z Z Z) (fun hh=>?_) (fun hh=>?_)|refine yV Z Z (fun _ _ _=>zV Z Z Z (by omega) (by omega)) ?_)|refine yV Z Z (fun _ _ _=>zC Z Z Z) ?_|refine yV Z Z (fun _ _ _=>zD Z Z Z) ?_)))
        all_goals (first|(exfalso;omega)|skip)
        replace atx:=atx.ext xq
        replace atz:=atz.ext xq
        replace rq:=rq.ext xq
        replace hkq:=Kb.trans hkq (xq.kb _)
        clear xq
        have hlen2:(q++[z]++x::s++xs.drop (i+1)).length=xs.length:=by simp only [List.length_append,List.length_cons,List.length_nil,List.length_drop] at hpl ⊢;omega
        have hlen3:(q++[z]++z::s++xs.drop (i+1)).length=xs.length:=by simp only [List.length_append,List.length_cons,List.length_nil,List.length_drop] at hlen2 ⊢;omega
        have xd:=ext_drew wq
        have rd:=rq.ext xd
        have e1:(cellsN (q++[z]++x::s++xs.drop (i+1)) tail).take (0+j*7)++noteC z++(cellsN (q++[z]++x::s++xs.drop (i+1)) tail).drop (0+j*7+7)=cellsN (q++[z]++z::s++xs.drop (i+1)) tail:=by
          have e1:=cells_set (ys:=q++[z]++x::s++xs.drop (i+1)) (tail:=tail) (y:=z) (i:=j) (by omega)
          rw [Nat.zero_add,e1,List.append_assoc,List.cons_append,set_mid hpl,List.append_assoc _ (z::s),List.cons_append]
        have e2:(cellsN (q++[z]++z::s++xs.drop (i+1)) tail).take (0+(j-1)*7)++noteC x++(cellsN (q++[z]++z::s++xs.drop (i+1)) tail).drop (0+(j-1)*7+7)=cellsN (q++x::(z::s)++xs.drop (i+1)) tail:=by
          have e1:=cells_set (ys:=q++[z]++z::s++xs.drop (i+1)) (tail:=tail) (y:=x) (i:=j-1) (by omega)
          have e3:q++[z]++z::s++xs.drop (i+1)=q++z::(z::s++xs.drop (i+1)):=by simp
          rw [Nat.zero_add,e1,e3,set_mid hql];simp
        obtain⟨r1,k1⟩:=set_row (cellsN (q++[z]++z::s++xs.drop (i+1)) tail) rd
        obtain⟨r2,k2⟩:=set_row (cellsN (q++x::(z::s)++xs.drop (i+1)) tail) r1
        obtain⟨w1,hw1⟩:∃ w1,w1=wq.drew.setRow b (cellsN (q++[z]++z::s++xs.drop (i+1)) tail).toArray:=⟨_,rfl⟩
        rw [← hw1] at r1 k1 r2 k2
        obtain⟨w2,hw2⟩:∃ w2,w2=w1.setRow b (cellsN (q++x::(z::s)++xs.drop (i+1)) tail).toArray:=⟨_,rfl⟩
        rw [← hw2] at r2 k2
        have hc1:0+j*7+7≤(cellsN (q++[z]++x::s++xs.drop (i+1)) tail).length:=by unfold cellsN;rw [List.length_append,notes_flat,hlen2];omega
        have hc2:0+(j-1)*7+7≤(cellsN (q++[z]++z::s++xs.drop (i+1)) tail).length:=by unfold cellsN;rw [List.length_append,notes_flat,hlen3];omega
        refine E_seq ?_
        refine E_block ?_
        refine E.sub (M:=[(0,.slice (some ⟨b,0,none⟩) xs.length cap),(1,int 0),(2,int xs.length),(3,.func (.func 134) #[] #[]),(8,int i),(9,int j)]) ⟨rfl,rfl,rfl,rfl,rfl,rfl,trivial⟩ ?_
        refine E_steps (fun p=>match p with|0=>wq.drew|1=>w1|_=>w2)
          [some (37,.slice (some ⟨b,0,none⟩) xs.length cap),some (38,int j),some (39,.slice (some ⟨b,0,none⟩) xs.length cap),some (40,int j),some (41,int ((j:Int)-1)),some (42,.slice (some ⟨b,0,none⟩) xs.length cap),some (43,int j),some (44,int ((j:Int)-1)),
            some (45,.pointer (some ⟨b,0+(j-1)*7,none⟩)),some (46,.agg (noteC z).toArray),some (47,.slice (some ⟨b,0,none⟩) xs.length cap),some (48,int j),some (49,.pointer (some ⟨b,0+j*7,none⟩)),some (50,.agg (noteC x).toArray),some (51,.pointer (some ⟨b,0+j*7,none⟩)),none,
            some (52,.pointer (some ⟨b,0+(j-1)*7,none⟩)),none]
          [(0,2,true),(0,2,true),(0,2,true),(0,2,true),(0,2,true),(0,2,true),(0,2,true),(0,2,true),(0,2,true),(0,0,true),(0,2,true),(0,2,true),(0,2,true),(0,0,true),(0,2,true),(0,0,false),(0,2,true),(1,0,false)]
          [15,17] mixedOk (by kernel_rfl) (by decide) rfl rfl rfl rfl
          ⟨fun _ _ _=>zA Z Z,fun _ _ _=>zA Z Z,fun _ _ _=>zA Z Z,fun _ _ _=>zA Z Z,fun _ _ _=>zV Z Z Z (by omega) (by omega),fun _ _ _=>zA Z Z,fun _ _ _=>zA Z Z,fun _ _ _=>zV Z Z Z (by omega) (by omega),
            fun _ _ _=>val_indexAddr (m:=j-1) Z Z Z (by omega) (by omega),fun p _ hp=>by
              obtain rfl:p=0:=by omega
              exact val_loadA Z Z Z (cs:=noteC z) (by simpa using atz.ext xd) Z,
            fun _ _ _=>zA Z Z,fun _ _ _=>zA Z Z,fun _ _ _=>val_indexAddr (m:=j) Z Z Z Z (by omega),fun p _ hp=>by
              obtain rfl:p=0:=by omega
              exact val_loadA Z Z Z (cs:=noteC x) (by simpa using atx.ext xd) Z,
            fun _ _ _=>val_indexAddr (m:=j) Z Z Z Z (by omega),fun ρ ha=>by
              show _=Result.ok _ w1
              rw [hw1]
              exact step_store' (new:=noteC z) rfl rfl rfl rfl rfl rfl rd hc1 e1 ρ ha,
            fun _ _ _=>val_indexAddr (m:=j-1) Z Z Z (by omega) (by omega),fun ρ ha=>by
              show _=Result.ok _ w2
              rw [hw2]
              exact step_store' (new:=noteC x) rfl rfl rfl rfl rfl rfl r1 hc2 e2 ρ ha,trivial⟩ ?_
        refine at_K (w:=w2) ?_
        (repeat' (first|(refine at_EL ?_;first|refine eN ?_|refine eV Z Z (zA Z Z) ?_|refine eV Z Z (zB Z Z) ?_|(refine at_bin ?_;first|refine eV Z Z (zV Z Z Z (by omega) (by omega)) ?_))|(refine at_K ?_;first|refine K_then ?_|refine K_in ?_)|(refine at_E ?_;first|refine E_region ?_)))
        refine K_rnd (j-1,q,z::s) ⟨rfl,rfl,rfl,rfl,rfl,by dsimp only;rw [← hjm];rfl,trivial⟩ ⟨by dsimp only;rw [hps];simp,hql,fun y hy=>?_,r2,hkq.trans ((xd.kb _).trans (k1.trans k2))⟩ (by dsimp only;omega)
        rcases List.mem_cons.1 hy with rfl|hy
        · have:=ordI_neg x y
          rw [← this];exact decide_eq_true ho
        · exact hall y hy
      · (repeat' ((fail_if_success (refine E_seq (x:=(Code.block 3 _)) ?_));first|refine yV Z Z (fun _ _ _=>val_indexAddr (m:=j) Z Z Z Z (by omega)) ?_|refine yV Z Z (fun _ _ _=>val_indexAddr (m:=j-1) Z Z Z (by omega) (by omega)) ?_|refine yV Z Z (fun wq _ xq=>val_loadA Z Z Z (cs:=noteC x) (by simpa using atx.ext xq) Z) ?_|refine yV Z Z (fun wq _ xq=>val_loadA Z Z Z (cs:=noteC z) (by simpa using atz.ext xq) Z) ?_|refine RQ_call Z Z (fun _ _ _=>entersC Z Z Z en134) (fun wq _=>order_any _ _ wq) ?_|(refine at_EL ?_;first|refine eN ?_|refine eV Z Z (zA Z Z) ?_|refine eV Z Z (zB Z Z) ?_|(refine at_bin ?_;first|refine eV Z Z (zU Z Z Z (by omega) (by omega)) ?_))|(refine at_K ?_;first|refine K_then ?_|refine K_in ?_|refine K_then_exit ?_|refine K_in_exit ?_)|(refine at_E ?_;first|refine E_seq ?_|refine E_region ?_|refine E_cond_t Z ?_|refine E_cond_f Z ?_|refine E_skip ?_|refine E_exit ?_|refine E_dq mixedOk (by kernel_rfl) Z ?_)|(refine at_RQ ?_;first|refine yN Z (fun wq xq=>?_)|refine yO Z Z ?_|refine yV Z Z (fun _ _ _=>zA Z Z) ?_|(refine at_binR ?_;first|refine yD Z Z (fun _ _ _=>zL Z Z Z) (fun hh=>?_) (fun hh=>?_)|refine yD Z Z (fun _ _ _=>zO Z Z Z) (fun hh=>?_) (fun hh=>?_)|refine yV Z Z (fun _ _ _=>zV Z Z Z (by omega) (by omega)) ?_)|refine yV Z Z (fun _ _ _=>zC Z Z Z) ?_|refine yV Z Z (fun _ _ _=>zD Z Z Z) ?_)))
        all_goals (first|(exfalso;omega)|skip)
        have he:insSort ordB (xs.take (i+1))=q++[z]++x::s:=by
          rw [hnext]
          refine insR_at hps hall (fun q' z' e=>?_)
          obtain⟨_,e2⟩:=List.append_inj' e rfl
          cases e2
          rw [← ordI_neg];exact decide_eq_false ho
        exact K_rnd (i+1) ⟨rfl,rfl,rfl,rfl,rfl,trivial⟩ ⟨by omega,by omega,by rw [he];exact rq.ext xq,hkq.trans (xq.kb _)⟩ (by omega)
    · (repeat' ((fail_if_success (refine E_seq (x:=(Code.block 3 _)) ?_));first|(refine at_EL ?_;first|refine eN ?_|refine eV Z Z (zA Z Z) ?_|refine eV Z Z (zB Z Z) ?_|(refine at_bin ?_;first|refine eV Z Z (zU Z Z Z (by omega) (by omega)) ?_))|(refine at_K ?_;first|refine K_then ?_|refine K_in ?_|refine K_then_exit ?_|refine K_in_exit ?_)|(refine at_E ?_;first|refine E_seq ?_|refine E_region ?_|refine E_cond_f Z ?_|refine E_exit ?_|refine E_dq mixedOk (by kernel_rfl) Z ?_)|(refine at_RQ ?_;first|refine yN Z (fun wq xq=>?_)|refine yO Z Z ?_|refine yV Z Z (fun _ _ _=>zA Z Z) ?_|(refine at_binR ?_;first|refine yD Z Z (fun _ _ _=>zO Z Z Z) (fun hh=>?_) (fun hh=>?_))|refine yV Z Z (fun _ _ _=>zD Z Z Z) ?_)))
      all_goals (first|(exfalso;omega)|skip)
      obtain rfl:p=[]:=List.length_eq_zero_iff.1 (by omega)
      have he:insSort ordB (xs.take (i+1))=[]++x::s:=by
        rw [hnext]
        exact insR_at hps hall (fun q' z' e=>by simp at e)
      exact K_rnd (i+1) ⟨rfl,rfl,rfl,rfl,rfl,trivial⟩ ⟨by omega,by omega,by rw [he];exact rq.ext xq,hkq.trans (xq.kb _)⟩ (by omega)
  · (repeat' (first|(refine at_EL ?_;first|refine eN ?_|refine eV Z Z (zA Z Z) ?_|refine eV Z Z (zB Z Z) ?_|(refine at_bin ?_;first|refine eD Z Z (zL Z Z Z) (fun hh=>?_) (fun hh=>?_)))|(refine at_K ?_;first|refine K_then ?_|refine K_then_exit ?_|refine K_in_exit ?_)|(refine at_E ?_;first|refine E_seq ?_|refine E_region ?_|refine E_cond_t Z ?_|refine E_cond_f Z ?_|refine E_block ?_|refine E_skip ?_|refine E_exit ?_)))
    all_goals (first|(exfalso;omega)|skip)
    obtain rfl:i=xs.length:=by omega
    rw [List.take_length,List.drop_length,List.append_nil] at rr
    exact ret_n (ret_0 Z ⟨rr,hk⟩)
end Go.Proofs.YtnifmbbpfdghmaaGreatDoor
namespace Go.Proofs.YtnifmbbpfdghmaaGreatDoor
open Go.RowKit Go.En
theorem own_open {w:World} {B:Nat} {e:TypeId} {size n:Nat} {v:Value} {xs:List Value} (h:w.ownsRow B e size v n xs) (h0:0<n):∃ g cap tail,v=.slice (some ⟨g,0,none⟩) n cap∧n≤cap∧cap≤maxLen∧B≤g∧Row w g e (xs++tail)∧(xs++tail).length=cap*size:=by
  rcases h.2 with⟨_,hn⟩|⟨g,cap,cur,rfl,hb,hg,h1,h2,h3,h4⟩
  · omega
  · refine⟨g,cap,cur.toList.drop (n*size),rfl,h1,h2,hb,?_,?_⟩
    · rw [← h4,List.take_append_drop];exact hg
    · rw [← h4,List.take_append_drop];simpa using h3
theorem own_shut {w:World} {B g cap:Nat} {e:TypeId} {size n:Nat} {xs tail:List Value} (h1:n≤cap) (h2:cap≤maxLen) (h3:B≤g) (hr:Row w g e (xs++tail)) (hl:xs.length=n*size) (hc:(xs++tail).length=cap*size):w.ownsRow B e size (.slice (some ⟨g,0,none⟩) n cap) n xs:=
  ⟨hl,.inr ⟨g,cap,(xs++tail).toArray,rfl,h3,hr,h1,h2,by simpa using hc,by rw [← hl];simp⟩⟩
attribute [local irreducible] E EL K Val Enters Rt Calls bodyPost Code.wp RQ
theorem ins_zero (a:Option Addr) (cap:Nat) (w:World):Calls Tryz.prog 179 #[.slice a 0 cap,int 0,int 0,.func (.func 134) #[] #[] ] w (Rt fun _ w'=>w'=w):=by
  refine calls_E (n:=53) (args:=[.slice a 0 cap,int 0,int 0,.func (.func 134) #[] #[] ]) Tryz.func179 rfl Tryz.ntmps179 (by simp) ?_
  (repeat' (first|(refine at_EL ?_;first|refine eN ?_|refine eV Z Z (zA Z Z) ?_|refine eV Z Z (zB Z Z) ?_|(refine at_bin ?_;first|refine eV Z Z (zU Z Z Z (by omega) (by omega)) ?_))|(refine at_K ?_;first|refine K_then ?_)|(refine at_E ?_;first|refine E_seq ?_|refine E_region ?_|refine E_block ?_)))
  refine E_loop (ι:=Unit) (fun _=>[(2,int 0),(8,int 1)]) (fun _ wr=>wr=w) (fun _=>0) () ⟨rfl,rfl,trivial⟩ rfl ?_
  rintro _ wr rfl
  (repeat' ((fail_if_success (refine E_seq (x:=(Code.block 1 _)) ?_));first|(refine at_EL ?_;first|refine eN ?_|refine eV Z Z (zA Z Z) ?_|(refine at_bin ?_;first|refine eD Z Z (zL Z Z Z) (fun hh=>?_) (fun hh=>?_)))|(refine at_K ?_;first|refine K_then ?_|refine K_then_exit ?_|refine K_in_exit ?_)|(refine at_E ?_;first|refine E_seq ?_|refine E_region ?_|refine E_cond_t Z ?_|refine E_cond_f Z ?_|refine E_skip ?_|refine E_exit ?_)))
  all_goals (first|(exfalso;omega)|skip)
  exact ret_n (ret_0 Z Z)
theorem ins_any (xs:List Note) (v:Value) (B:Nat) (w:World) (hlen:xs.length≤19) (h:w.ownsRow B 74 7 v xs.length (xs.map noteC).flatten):Calls Tryz.prog 179 #[v,int 0,int xs.length,.func (.func 134) #[] #[] ] w (Rt fun _ w'=>w'.ownsRow B 74 7 v xs.length ((insSort ordB xs).map noteC).flatten∧Kb v.ownBlock w w'):=by
  by_cases h0:0<xs.length
  · obtain⟨g,cap,tail,rfl,h1,h2,h3,hr,hc⟩:=own_open h h0
    have hp:(insSort ordB xs).length=xs.length:=(insSort_perm xs).length_eq
    refine calls_mono (ins_row xs tail g cap w h0 (by omega) hr) fun _ w' hh=>⟨own_shut h1 h2 h3 hh.1 (by rw [notes_flat,hp]) ?_,hh.2⟩
    rw [← hc,List.length_append,List.length_append,notes_flat,notes_flat,hp]
  · obtain rfl:xs=[]:=List.length_eq_zero_iff.1 (by omega)
    obtain⟨a,cap,rfl⟩:∃ a cap,v=.slice a 0 cap:=by
      rcases h.2 with⟨rfl,_⟩|⟨g,cap,cur,rfl,_⟩
      · exact⟨none,0,rfl⟩
      · exact⟨_,cap,rfl⟩
    refine calls_mono (ins_zero a cap w) fun _ w' hh=>?_
    subst hh
    exact⟨h,Kb.refl _ _⟩
theorem stable_any (xs:List Note) (v:Value) (B:Nat) (w:World) (hlen:xs.length≤19) (h:w.ownsRow B 74 7 v xs.length (xs.map noteC).flatten):Calls Tryz.prog 163 #[v,int xs.length,.func (.func 134) #[] #[] ] w (Rt fun _ w'=>w'.ownsRow B 74 7 v xs.length ((insSort ordB xs).map noteC).flatten∧Kb v.ownBlock w w'):=by
  refine calls_E (n:=63) (args:=[v,int xs.length,.func (.func 134) #[] #[] ]) Tryz.func163 rfl Tryz.ntmps163 (by simp) ?_
  (repeat' (first|(refine at_EL ?_;first|refine eN ?_|refine eV Z Z (zA Z Z) ?_|refine eV Z Z (zB Z Z) ?_)|(refine at_K ?_;first|refine K_then ?_)|(refine at_E ?_;first|refine E_seq ?_|refine E_region ?_|refine E_block ?_)))
  refine E_loop (ι:=Unit) (fun _=>[(0,v),(1,int xs.length),(2,.func (.func 134) #[] #[]),(6,int 20),(7,int 0),(8,int 20)]) (fun _ wr=>wr=w) (fun _=>0) () ⟨rfl,rfl,rfl,rfl,rfl,rfl,trivial⟩ rfl ?_
  rintro _ wr rfl
  have ci:=ins_any xs v B wr hlen h
  (repeat' ((fail_if_success (refine E_seq (x:=(Code.block 1 _)) ?_));first|(refine EL_call Z Z (entersF Z Z en179) ci (fun vC wC hC=>?_);obtain⟨hO,kC⟩:=hC)|(refine at_EL ?_;first|refine eN ?_|refine eV Z Z (zA Z Z) ?_|(refine at_bin ?_;first|refine eD Z Z (zN Z Z Z) (fun hh=>?_) (fun hh=>?_)))|(refine at_K ?_;first|refine K_then ?_|refine K_then_exit ?_|refine K_in_exit ?_)|(refine at_E ?_;first|refine E_seq ?_|refine E_region ?_|refine E_cond_t Z ?_|refine E_cond_f Z ?_|refine E_block ?_|refine E_skip ?_|refine E_exit ?_)))
  all_goals (first|(exfalso;omega)|skip)
  refine E_loop (ι:=Unit) (fun _=>[(1,int xs.length),(6,int 20)]) (fun _ wr=>wr=wC) (fun _=>0) () ⟨rfl,rfl,trivial⟩ rfl ?_
  rintro _ w2 rfl
  (repeat' ((fail_if_success (refine E_seq (x:=(Code.block 3 _)) ?_));first|(refine at_EL ?_;first|refine eN ?_|refine eV Z Z (zA Z Z) ?_|refine eV Z Z (zB Z Z) ?_|(refine at_bin ?_;first|refine eD Z Z (zL Z Z Z) (fun hh=>?_) (fun hh=>?_)|refine eV Z Z (zW Z Z Z (by omega) (by omega)) ?_))|(refine at_K ?_;first|refine K_then ?_|refine K_then_exit ?_|refine K_in_exit ?_)|(refine at_E ?_;first|refine E_seq ?_|refine E_region ?_|refine E_cond_t Z ?_|refine E_cond_f Z ?_|refine E_block ?_|refine E_skip ?_|refine E_exit ?_)))
  all_goals (first|(exfalso;omega)|skip)
  exact ret_n (ret_0 Z ⟨hO,kC⟩)
theorem sortN_any (xs:List Note) (v:Value) (B:Nat) (w:World) (hlen:xs.length≤19) (h:w.ownsRow B 74 7 v xs.length (xs.map noteC).flatten):Calls Tryz.prog 133 #[v,.func (.func 134) #[] #[] ] w (Rt fun _ w'=>w'.ownsRow B 74 7 v xs.length ((insSort ordB xs).map noteC).flatten∧Kb v.ownBlock w w'):=by
  refine calls_E (n:=9) (args:=[v,.func (.func 134) #[] #[] ]) Tryz.func133 rfl Tryz.ntmps133 (by simp) ?_
  have ci:=stable_any xs v B w hlen h
  obtain⟨a,cap,rfl⟩:∃ a cap,v=.slice a xs.length cap:=by
    rcases h.2 with⟨rfl,h0⟩|⟨g,cap,cur,rfl,_⟩
    · exact⟨none,0,by rw [h0]⟩
    · exact⟨_,cap,rfl⟩
  (repeat' (first|(refine EL_call Z Z (entersF Z Z en163) ci (fun vC wC hC=>?_);obtain⟨hO,kC⟩:=hC)|(refine at_EL ?_;first|refine eN ?_|refine eV Z Z (zA Z Z) ?_|(refine at_call ?_;first|refine eV Z Z (zK Z Z) ?_))|(refine at_E ?_;first|refine E_region ?_)))
  exact ret_n (ret_0 Z ⟨hO,kC⟩)
def accN (d:Dc) (id k:Int) (l:List Note):List Note:=if 0≤k∧k<d.tiers.length then sibs l k id else []
theorem kids_acc (d:Dc) (id k:Int):kidsN d id k=insSort ordB (accN d id k d.notes):=by
  unfold kidsN accN
  split <;> rfl
theorem acc_len (d:Dc) (id k:Int) (l:List Note):(accN d id k l).length≤l.length:=by
  unfold accN
  split
  · exact sibs_len _ _ _
  · simp
theorem acc_take {d:Dc} {id k:Int} {i:Nat} {x:Note} (h:d.notes[i]?=some x):accN d id k (d.notes.take (i+1))=accN d id k (d.notes.take i)++(if x.tier=k∧x.parent=id∧0≤k∧k<d.tiers.length then [x] else []):=by
  unfold accN
  by_cases hk:0≤k∧k<d.tiers.length
  · rw [if_pos hk,if_pos hk,sibs_take h]
    congr 1
    by_cases h1:x.tier=k∧x.parent=id
    · rw [if_pos h1,if_pos ⟨h1.1,h1.2,hk⟩]
    · rw [if_neg h1,if_neg (fun e=>h1 ⟨e.1,e.2.1⟩)]
  · rw [if_neg hk,if_neg hk,if_neg (fun e=>hk e.2.2)];rfl
set_option maxHeartbeats 4000000 in
set_option maxRecDepth 8000 in
theorem kids_any {d:Dc} (h:LightD d) (v:Value) (id k:Int) (w:World) (hv:DcAt w v d):Calls Tryz.prog 104 #[v,int id,int k] w (Rt fun u w'=>Ext w w'∧Sl w' u ((kidsN d id k).map (·.id))):=by
  have hnl:=h.nnotes
  obtain⟨sv,tv,nv,rfl,_,ht,hn⟩:=hv
  refine calls_E (n:=61) (args:=[.agg #[int d.rid,str d.rname,int d.len,int d.day,sv,tv,nv],int id,int k]) Tryz.func104 rfl Tryz.ntmps104 (by simp) ?_
  have hn0:=hn
  obtain⟨a,cap,rfl,hc,hm,hp⟩:=hn.sl
  obtain⟨ta,tcap,rfl,thc,thm,thp⟩:=ht.sl
  refine E_seq ?_
  refine E_region ?_
  refine EL_box Z Z Z Z (fun bB wB xB hbB rB0=>?_)
  have rB:Row wB bB 28 [int d.rid,str d.rname,int d.len,int d.day,sv,.slice ta d.tiers.length tcap,.slice a d.notes.length cap]:=rB0
  clear rB0
  (repeat' (first|refine eV Z Z (val_load Z Z Z (rB.cellAt rfl)) ?_|(refine at_EL ?_;first|refine eN ?_|refine eV Z Z (zA Z Z) ?_|refine eV Z Z (zB Z Z) ?_|(refine at_call ?_;first|refine eV Z Z (zK Z Z) ?_)|refine eV Z Z (zH Z Z) ?_)|(refine at_K ?_;first|refine K_then ?_)|(refine at_E ?_;first|refine E_seq ?_|refine E_region ?_|refine E_block ?_)))
  refine E_loop (ι:=Nat × Value) (fun x=>[(1,int id),(2,int k),(3,.pointer (some ⟨bB,0,none⟩)),(7,x.2),(14,.slice a d.notes.length cap),(15,int d.notes.length),(16,int x.1)])
    (fun x wr=>x.1≤d.notes.length∧Ext wB wr∧wr.ownsRow wB.heap.size 74 7 x.2 (accN d id k (d.notes.take x.1)).length ((accN d id k (d.notes.take x.1)).map noteC).flatten) (fun x=>d.notes.length-x.1) (0,.slice none 0 0)
    ⟨rfl,rfl,rfl,rfl,rfl,rfl,rfl,trivial⟩ ⟨Nat.zero_le _,Ext.refl _,by
      have:accN d id k (d.notes.take 0)=[]:=by unfold accN;split <;> rfl
      dsimp only
      rw [this]
      exact World.ownsRow_nil _ _ _ _⟩ ?_
  rintro⟨i,vO⟩ wr ⟨hi,hx,hown⟩
  dsimp only at hi hx hown ⊢
  have rBr:=rB.ext hx
  have hol:=acc_len d id k (d.notes.take i)
  rw [List.length_take] at hol
  by_cases hlt:i<d.notes.length
  · obtain⟨b,off,rfl⟩:=hp (by omega)
    obtain⟨q,hq⟩:∃ q,d.notes[i]?=some q:=⟨_,List.getElem?_eq_getElem hlt⟩
    have hat:=note_elem (hn0.ext (xB.trans hx)) hq
    have htk:=acc_take (id:=id) (k:=k) hq
    (repeat' (first|refine eV Z Z (val_indexAddr (m:=i) Z Z Z Z (by omega)) ?_|refine eV Z Z (val_loadA Z Z Z hat rfl) ?_|(refine at_EL ?_;first|refine eN ?_|refine eV Z Z (zA Z Z) ?_|(refine at_bin ?_;first|refine eD Z Z (zL Z Z Z) (fun hh=>?_) (fun hh=>?_)))|(refine at_K ?_;first|refine K_then ?_|refine K_then_exit ?_|refine K_in_exit ?_)|(refine at_E ?_;first|refine E_seq ?_|refine E_region ?_|refine E_cond_t Z ?_|refine E_cond_f Z ?_|refine E_block ?_|refine E_skip ?_|refine E_exit ?_)))
    all_goals (first|(exfalso;omega)|skip)
    refine EL_alloc Z Z Z (fun b7 w7 x7 hb7 r7=>?_)
    refine EL_storeP (cs:=noteC q) r7 x7 (by omega) Z Z Z Z Z Z Z Z (Nat.le_refl _) (fun w8 r8' x8 k8=>?_)
    have r8:Row w8 b7 74 (noteC q):=r8'
    clear r8' r7 k8
    have rB8:=rBr.ext x8
    have hown8:=own_ext hown x8
    have hx8:=hx.trans x8
    (repeat' (first|refine eV Z Z (val_load Z Z Z (r8.cellAt rfl)) ?_|refine eV Z Z (val_load Z Z Z (rB8.cellAt rfl)) ?_|refine eV Z Z (val_loadA Z Z Z r8.at rfl) ?_|(refine EL_appO (news:=noteC q) (own_ext hown8 xS) (hx8.trans xS) (fun _=>⟨_,_,rfl,rS.at⟩) Z Z Z Z Z Z Z Z Z (by omega) (by omega) (fun vJ wJ oJ xJ kJ hJ=>?_))|(refine at_EL ?_;first|refine eN ?_|refine eO Z Z ?_|refine eV Z Z (zA Z Z) ?_|refine eV Z Z (zB Z Z) ?_|(refine at_bin ?_;first|refine eD Z Z (zL Z Z Z) (fun hh=>?_) (fun hh=>?_)|refine eD Z Z (zM Z Z Z) (fun hh=>?_) (fun hh=>?_)|refine eD Z Z (zP Z Z Z) (fun hh=>?_) (fun hh=>?_)|refine eV Z Z (zU Z Z Z (by omega) (by omega)) ?_)|(refine at_call ?_;first|refine eV Z Z (zK Z Z) ?_)|refine eV Z Z (zC Z Z Z) ?_|refine eV Z Z (zD Z Z Z) ?_|refine eV Z Z (zH Z Z) ?_|refine eL Z Z Z Z Z Z Z Z (fun bS wS xS hbS rS=>?_))|(refine at_K ?_;first|refine K_then ?_|refine K_in ?_)|(refine at_E ?_;first|refine E_seq ?_|refine E_region ?_|refine E_cond_t Z ?_|refine E_cond_f Z ?_|refine E_skip ?_)))
    all_goals (first|(exfalso;omega)|skip)
    · rw [if_pos ⟨by assumption,by assumption,by assumption,by assumption⟩] at htk
      refine K_rnd (i+1,vJ) ⟨rfl,rfl,rfl,rfl,rfl,rfl,rfl,trivial⟩ ⟨by dsimp only;omega,xJ,?_⟩ (by dsimp only;omega)
      dsimp only
      rw [htk]
      simpa using oJ
    all_goals
      rw [if_neg (by rintro⟨h1,h2,h3,h4⟩;first|exact absurd h1 ‹_› | exact absurd h2 ‹_› | exact absurd h3 ‹_› | exact absurd h4 ‹_›),List.append_nil] at htk
      refine K_rnd (i+1,vO) ⟨rfl,rfl,rfl,rfl,rfl,rfl,rfl,trivial⟩ ⟨by dsimp only;omega,hx8,?_⟩ (by dsimp only;omega)
      dsimp only
      rw [htk]
      exact hown8
  · rw [List.take_of_length_le (by omega)] at hown
    have hal:=acc_len d id k d.notes
    have cS:=sortN_any (accN d id k d.notes) vO wB.heap.size wr (by omega) hown
    rw [← kids_acc] at cS
    have hkl:(kidsN d id k).length=(accN d id k d.notes).length:=by rw [kids_acc];exact(insSort_perm _).length_eq
    rw [← hkl] at cS
    (repeat' (first|(refine EL_call Z Z (entersF Z Z en133) cS (fun vC wC hC=>?_);obtain⟨hO,kC⟩:=hC)|(refine at_EL ?_;first|refine eN ?_|refine eV Z Z (zA Z Z) ?_|refine eV Z Z (zB Z Z) ?_|(refine at_bin ?_;first|refine eD Z Z (zL Z Z Z) (fun hh=>?_) (fun hh=>?_)))|(refine at_K ?_;first|refine K_then ?_|refine K_then_exit ?_|refine K_in_exit ?_)|(refine at_E ?_;first|refine E_seq ?_|refine E_region ?_|refine E_cond_t Z ?_|refine E_cond_f Z ?_|refine E_block ?_|refine E_skip ?_|refine E_exit ?_)))
    all_goals (first|(exfalso;omega)|skip)
    have xC:Ext wB wC:=own_anchor hown hx kC
    have hSl:Sl wC vO (kidsN d id k):=own_Sl hO (notes_ats _ _) rfl (by omega)
    obtain⟨K,hK⟩:∃ K,K=kidsN d id k:=⟨_,rfl⟩
    rw [← hK] at hSl hO hkl ⊢
    have hS0:=hSl
    clear hown cS kC hO
    obtain⟨a2,cap2,rfl,hc2,hm2,hp2⟩:=hSl.sl
    (repeat' (first|(refine at_EL ?_;first|refine eN ?_|refine eV Z Z (zA Z Z) ?_|(refine at_call ?_;first|refine eV Z Z (zK Z Z) ?_))|(refine at_K ?_;first|refine K_then ?_)|(refine at_E ?_;first|refine E_block ?_)))
    refine E_loop (ι:=Nat × Value) (fun x=>[(10,x.2),(48,.slice a2 K.length cap2),(49,int K.length),(50,int x.1)])
      (fun x wr=>x.1≤K.length∧Ext wC wr∧wr.ownsRow wC.heap.size 3 1 x.2 x.1 (((K.take x.1).map (·.id)).map int)) (fun x=>K.length-x.1) (0,.slice none 0 0)
      ⟨rfl,rfl,rfl,rfl,trivial⟩ ⟨Nat.zero_le _,Ext.refl _,World.ownsRow_nil _ _ _ _⟩ ?_
    rintro⟨j,vP⟩ wq ⟨hj,hxq,hoq⟩
    dsimp only at hj hxq hoq ⊢
    by_cases hjl:j<K.length
    · obtain⟨b,off,rfl⟩:=hp2 (by omega)
      obtain⟨q,hq⟩:∃ q,K[j]?=some q:=⟨_,List.getElem?_eq_getElem hjl⟩
      have hat:=note_elem (hS0.ext hxq) hq
      (repeat' (first|refine eV Z Z (val_indexAddr (m:=j) Z Z Z Z (by omega)) ?_|refine eV Z Z (val_loadA Z Z Z hat rfl) ?_|(refine at_EL ?_;first|refine eN ?_|refine eV Z Z (zA Z Z) ?_|refine eV Z Z (zB Z Z) ?_|(refine at_bin ?_;first|refine eD Z Z (zL Z Z Z) (fun hh=>?_) (fun hh=>?_)))|(refine at_K ?_;first|refine K_then ?_|refine K_then_exit ?_|refine K_in_exit ?_)|(refine at_E ?_;first|refine E_seq ?_|refine E_region ?_|refine E_cond_t Z ?_|refine E_cond_f Z ?_|refine E_block ?_|refine E_skip ?_|refine E_ret ?_|refine E_exit ?_)))
      all_goals (first|(exfalso;omega)|skip)
      refine EL_alloc Z Z Z (fun b7 w7 x7 hb7 r7=>?_)
      refine EL_storeP (cs:=noteC q) r7 x7 (by omega) Z Z Z Z Z Z Z Z (Nat.le_refl _) (fun w8 r8' x8 k8=>?_)
      have r8:Row w8 b7 74 (noteC q):=r8'
      clear r8' r7 k8
      have hown8:=own_ext hoq x8
      have hx8:=hxq.trans x8
      (repeat' (first|refine eV Z Z (val_load Z Z Z (r8.cellAt rfl)) ?_|(refine EL_appO (news:=[int q.id]) (own_ext hown8 xS) (hx8.trans xS) (fun _=>⟨_,_,rfl,rS.at⟩) Z Z Z Z Z Z Z Z Z (by omega) (by omega) (fun vJ wJ oJ xJ kJ hJ=>?_))|(refine at_EL ?_;first|refine eN ?_|refine eV Z Z (zA Z Z) ?_|refine eV Z Z (zB Z Z) ?_|(refine at_bin ?_;first|refine eV Z Z (zU Z Z Z (by omega) (by omega)) ?_)|refine eV Z Z (zH Z Z) ?_|refine eL Z Z Z Z Z Z Z Z (fun bS wS xS hbS rS=>?_))|(refine at_K ?_;first|refine K_then ?_|refine K_in ?_)|(refine at_E ?_;first|refine E_region ?_)))
      refine K_rnd (j+1,vJ) ⟨rfl,rfl,rfl,rfl,trivial⟩ ⟨by dsimp only;omega,xJ,?_⟩ (by dsimp only;omega)
      dsimp only
      obtain⟨hj2,rfl⟩:=List.getElem?_eq_some_iff.1 hq
      rw [List.take_succ_eq_append_getElem hj2,List.map_append,List.map_append]
      exact oJ
    · obtain rfl:j=K.length:=by omega
      rw [List.take_length] at hoq
      (repeat' (first|(refine at_EL ?_;first|refine eN ?_|refine eV Z Z (zA Z Z) ?_|refine eV Z Z (zB Z Z) ?_|(refine at_bin ?_;first|refine eD Z Z (zL Z Z Z) (fun hh=>?_) (fun hh=>?_)))|(refine at_K ?_;first|refine K_then ?_|refine K_then_exit ?_|refine K_in_exit ?_)|(refine at_E ?_;first|refine E_seq ?_|refine E_region ?_|refine E_cond_t Z ?_|refine E_cond_f Z ?_|refine E_block ?_|refine E_skip ?_|refine E_ret ?_|refine E_exit ?_)))
      all_goals (first|(exfalso;omega)|skip)
      refine ret_1 Z Z ⟨xB.trans (xC.trans hxq),?_⟩
      exact own_Sl (css:=(K.map (·.id)).map fun z=>[int z]) (by rw [ints_flat];exact hoq) (ints_ats _ _) (by simp) (by simp;omega)
end Go.Proofs.YtnifmbbpfdghmaaGreatDoor
namespace Go.Proofs.YtnifmbbpfdghmaaGreatDoor
open Go.RowKit Go.En
theorem sl_ints {G:Nat→Prop} {w:World} {a:Option Addr} {n cap:Nat} {ids:List Int} (h:SlG G w (.slice a n cap) ids) (h0:0<n):∃ b off,a=some ⟨b,off,none⟩∧At w b off (ids.map int):=by
  have hn:n=ids.length:=by obtain⟨a',c',e,_⟩:=h;cases e;rfl
  obtain⟨css,h1,h2⟩:=h.css
  have hc:=ats_ints h1
  subst hc
  rw [ints_flat] at h2
  obtain⟨b,so,e,_,h3⟩:=h2 (by simp;omega)
  exact⟨b,so,e,h3⟩
theorem ofR_len {d:Dc} (h:LightD d) (k:Int):(ofR d k).length≤14:=by
  unfold ofR
  rw [(insSort_perm _).length_eq]
  have h1:(ofTier d k).length≤d.notes.length:=List.length_filter_le _ _
  have h2:=h.nnotes
  omega
attribute [local irreducible] E EL K Val Enters Rt Calls bodyPost Code.wp RQ
end Go.Proofs.YtnifmbbpfdghmaaGreatDoor
