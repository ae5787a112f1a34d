/-
  Own text of the proof.
-/
import Derived.Test.YtjicdgejhkgpgaaGreatDoorYk
import Derived.Test.YtjicdgejhkgpgaaGreatDoorYg
import Derived.Test.YtjicdgejhkgpgaaGreatDoorYj
set_option linter.all false
set_option maxHeartbeats 4000000
set_option maxRecDepth 8000
namespace Go.Proofs.YtjicdgejhkgpgaaGreatDoor
section
open Go.RowKit Go.En Go.Pv
theorem A3r {us : List Unt} (hg : ∀ u ∈ us, 1 ≤ u.graph.length) : ∀ (k : Nat) (t : List UInt8), (G3 us k t).1.length ≤ k ∧ ∀ z ∈ (G3 us k t).1, 0 ≤ z ∧ z < (us.length : Int)
  | 0,_=>⟨Nat.le_refl _,fun z hz=>by cases hz⟩
  | k + 1, t => by
    rw [G3]
    split
    · exact⟨by simp,fun z hz=>by cases hz⟩
    · cases A5c us t with
      | none=>exact⟨by simp,fun z hz=>by cases hz⟩
      | some i=>
        dsimp only
        cases hi:us[i]? with
        | none=>exact⟨by simp,fun z hz=>by cases hz⟩
        | some u=>
          dsimp only
          obtain⟨h1,h2⟩:=A3r hg k (t.drop u.graph.length)
          refine⟨by rw [List.length_cons];omega,fun z hz=>?_⟩
          rcases List.mem_cons.1 hz with rfl|hz
          · have:=(List.getElem?_eq_some_iff.1 hi).1;omega
          · exact h2 z hz
theorem C0n {α β:Type} {f:α→List β} {c:Nat}:∀ {l:List α},(∀ x∈l,(f x).length≤c)→(l.flatMap f).length≤l.length*c
  | [],_=>by simp
  | x::r,h=>by
    have:=C0n (l:=r) (fun y hy=>h y (List.mem_cons_of_mem _ hy))
    have:=h x List.mem_cons_self
    rw [List.flatMap_cons,List.length_append,List.length_cons,Nat.add_mul];omega
attribute [local irreducible] E EL K Val Enters Rt Calls bodyPost Code.wp RQ
end
section
open Go.RowKit Go.En
theorem Kb.trans {g:Option Nat} {a b c:World} (h:Kb g a b) (k:Kb g b c):Kb g a c:=
  ⟨(World.grownBy.os k).trans (World.grownBy.os h),(World.grownBy.tape k).trans (World.grownBy.tape h),(World.grownBy.output k).trans (World.grownBy.output h),Nat.le_trans (Kb.size h) (Kb.size k),fun i hi hne=>(World.grownBy.block k i (Nat.lt_of_lt_of_le hi (Kb.size h)) hne).trans (World.grownBy.block h i hi hne)⟩
theorem Kb.refl (g:Option Nat) (w:World):Kb g w w:=(Ext.refl w).kb g
def H4 (ys:List Note) (tail:List Value):List Value:=(ys.map B9).flatten++tail
theorem A1s (ys:List Note):∀ c∈ys.map B9,c.length=7:=by
  intro c hc
  obtain⟨y,_,rfl⟩:=List.mem_map.1 hc
  rfl
theorem O4 (ys:List Note):(ys.map B9).flatten.length=ys.length*7:=by rw [N0 (A1s ys),List.length_map]
theorem B3v {w:World} {b:Nat} {e:TypeId} {ys:List Note} {tail:List Value} (h:Row w b e (H4 ys tail)) {i:Nat} {y:Note} (hy:ys[i]?=some y):At w b (i*7) (B9 y):=by
  have h1:At w b 0 (ys.map B9).flatten:=fun j v hv=>h.at j v (by
    unfold H4
    rw [List.getElem?_append_left (List.getElem?_eq_some_iff.1 hv).1];exact hv)
  have:=At.elem (f:=B9) (k:=7) (fun _ _=>rfl) h1 hy
  rwa [Nat.zero_add] at this
theorem B0h {ys:List Note} {tail:List Value} {i:Nat} {y:Note} (hi:i<ys.length):(H4 ys tail).take (i*7)++B9 y++(H4 ys tail).drop (i*7+7)=H4 (ys.set i y) tail:=by
  have hl:=O4 ys
  unfold H4
  rw [List.take_append_of_le_length (by omega),List.drop_append_of_le_length (by omega),show i*7+7=(i+1)*7 by omega,← A1t i (A1s ys),← Y8 (i+1) (A1s ys),← List.map_take,← List.map_drop,List.set_eq_take_append_cons_drop,if_pos hi]
  simp
theorem B1w {α:Type} {lt:α→α→Bool} {xs:List α} {i:Nat} {x:α} (h:xs[i]?=some x):G1 lt (xs.take (i+1))=insR lt (G1 lt (xs.take i)) x:=by
  obtain⟨hi,rfl⟩:=List.getElem?_eq_some_iff.1 h
  unfold G1
  rw [List.take_succ_eq_append_getElem hi,List.foldl_append]
  rfl
theorem B9s {α:Type} {p t:List α} {a b:α} {j:Nat} (h:p.length=j):(p++a::t).set j b=p++b::t:=by
  subst h
  rw [List.set_append_right _ _ (Nat.le_refl _),Nat.sub_self,List.set_cons_zero]
theorem B9y {P:Program} {n:Nat} {L:List (Nat × Value)} {w:World} {fn:Func} {S:Value→World→Prop} (hr:fn.results=#[]) (hs:S (.tuple #[]) w):K n (bodyPost P fn (Rt S)) .ret L w:=fun a ha=>by
  exact⟨ha.nod,.tuple #[],results_none hr _ _ _,_,rfl,hs⟩
attribute [local irreducible] E EL K Val Enters Rt Calls bodyPost Code.wp RQ
theorem ins_row (xs : List Note) (tail : List Value) (b cap : Nat) (w : World) (h0 : 0 < xs.length) (hlen : xs.length ≤ 1000) (hr : Row w b 80 (H4 xs tail)) : Calls Tryz.prog 187 #[.slice (some ⟨b, 0, none⟩) xs.length cap, int 0, int xs.length, .func (.func 112) #[] #[] ] w (Rt fun _ w' => Row w' b 80 (H4 (G1 ordB xs) tail) ∧ Kb (some b) w w') := by
  refine A6 (n:=53) (args:=[.slice (some ⟨b,0,none⟩) xs.length cap,int 0,int xs.length,.func (.func 112) #[] #[] ]) Tryz.func187 rfl Tryz.ntmps187 (by simp) ?_
  (repeat' (first|refine Sy ?_))
  refine B0 (ι:=Nat) (fun i=>[(0,.slice (some ⟨b,0,none⟩) xs.length cap),(1,int 0),(2,int xs.length),(3,.func (.func 112) #[] #[]),(8,int i)])
    (fun i wr=>1≤i∧i≤xs.length∧Row wr b 80 (H4 (G1 ordB (xs.take i)++xs.drop i) tail)∧Kb (some b) w wr) (fun i=>xs.length-i) 1
    ⟨rfl,rfl,rfl,rfl,rfl,trivial⟩ ⟨Nat.le_refl _,h0,by
      obtain⟨x,r,rfl⟩:∃ x r,xs=x::r:=by cases xs with|nil=>simp at h0|cons x r=>exact⟨x,r,rfl⟩
      exact hr,Kb.refl _ _⟩ ?_
  rintro i wr ⟨hi1,hi,rr,hk⟩
  by_cases hlt:i<xs.length
  · obtain⟨x,hx⟩:∃ x,xs[i]?=some x:=⟨_,List.getElem?_eq_getElem hlt⟩
    have hd:xs.drop i=x::xs.drop (i+1):=by
      obtain⟨h1,rfl⟩:=List.getElem?_eq_some_iff.1 hx
      exact List.drop_eq_getElem_cons h1
    have hSl:(G1 ordB (xs.take i)).length=i:=by rw [(H3 _).length_eq,List.length_take];omega
    obtain⟨S,hS⟩:∃ S,S=G1 ordB (xs.take i):=⟨_,rfl⟩
    have hnext:=B1w (lt:=ordB) hx
    rw [← hS] at rr hSl hnext
    rw [hd] at rr
    (repeat' (first|refine Sy ?_|refine Dy (fun hh=>?_) fun hh=>?_))
    all_goals (first|(exfalso;omega)|skip)
    refine B0 (ι:=Nat × List Note × List Note) (fun s=>[(0,.slice (some ⟨b,0,none⟩) xs.length cap),(1,int 0),(2,int xs.length),(3,.func (.func 112) #[] #[]),(8,int i),(9,int s.1)])
      (fun s wr=>S=s.2.1++s.2.2∧s.2.1.length=s.1∧(∀ z∈s.2.2,ordB x z=true)∧Row wr b 80 (H4 (s.2.1++x::s.2.2++xs.drop (i+1)) tail)∧Kb (some b) w wr) (fun s=>s.1) (i,S,[])
      ⟨rfl,rfl,rfl,rfl,rfl,rfl,trivial⟩ ⟨by simp,hSl,by simp,by simpa using rr,hk⟩ ?_
    rintro⟨j,p,s⟩ wq ⟨hps,hpl,hall,rq,hkq⟩
    dsimp only at hps hpl hall rq hkq ⊢
    have hjl:j+s.length=i:=by rw [← hSl,hps,List.length_append,hpl]
    by_cases hj:0<j
    · obtain⟨q,z,rfl⟩:∃ q z,p=q++[z]:=⟨p.dropLast,p.getLast (by intro e;rw [e] at hpl;simp at hpl;omega),(List.dropLast_concat_getLast _).symm⟩
      have hql:q.length=j-1:=by simp at hpl;omega
      have a1:(q++[z]++x::s++xs.drop (i+1))[j]?=some x:=by
        rw [List.append_assoc,List.getElem?_append_right (by omega),hpl];simp
      have a0:(q++[z]++x::s++xs.drop (i+1))[j-1]?=some z:=by
        rw [List.append_assoc,List.append_assoc,List.getElem?_append_right (by omega),hql];simp
      have atx:=B3v rq a1
      have atz:=B3v rq a0
      have hjm:((j:Int)-1)=((j-1:Nat):Int):=by omega
      by_cases ho:ordI x z<0
      · (repeat' ((fail_if_success (refine B4 (x:=(Code.block 3 _)) ?_));first|refine yV Z Z (fun _ _ _=>A0 (m:=j) Z Z Z Z (by omega)) ?_|refine yV Z Z (fun _ _ _=>A0 (m:=j-1) Z Z Z (by omega) (by omega)) ?_|refine yV Z Z (fun wq _ xq=>B8 Z Z Z (cs:=B9 x) (by simpa using atx.ext xq) Z) ?_|refine yV Z Z (fun wq _ xq=>B8 Z Z Z (cs:=B9 z) (by simpa using atz.ext xq) Z) ?_|refine C4 Z Z (fun _ _ _=>L2 Z Z Z en112) (fun wq _=>A9o _ _ wq) ?_|refine Sy ?_|refine yqZ ?_|refine yqX (fun hh=>?_) fun hh=>?_|refine E_dq B5 (by kernel_rfl) Z ?_|refine yN Z (fun wq xq=>?_)|refine yO Z Z ?_))
        all_goals (first|(exfalso;omega)|skip)
        replace atx:=atx.ext xq
        replace atz:=atz.ext xq
        replace rq:=rq.ext xq
        replace hkq:=Kb.trans hkq (xq.kb _)
        clear xq
        have hlen2:(q++[z]++x::s++xs.drop (i+1)).length=xs.length:=by simp only [List.length_append,List.length_cons,List.length_nil,List.length_drop] at hpl ⊢;omega
        have hlen3:(q++[z]++z::s++xs.drop (i+1)).length=xs.length:=by simp only [List.length_append,List.length_cons,List.length_nil,List.length_drop] at hlen2 ⊢;omega
        have xd:=P9 wq
        have rd:=rq.ext xd
        have e1:(H4 (q++[z]++x::s++xs.drop (i+1)) tail).take (0+j*7)++B9 z++(H4 (q++[z]++x::s++xs.drop (i+1)) tail).drop (0+j*7+7)=H4 (q++[z]++z::s++xs.drop (i+1)) tail:=by
          have e1:=B0h (ys:=q++[z]++x::s++xs.drop (i+1)) (tail:=tail) (y:=z) (i:=j) (by omega)
          rw [Nat.zero_add,e1,List.append_assoc,List.cons_append,B9s hpl,List.append_assoc _ (z::s),List.cons_append]
        have e2:(H4 (q++[z]++z::s++xs.drop (i+1)) tail).take (0+(j-1)*7)++B9 x++(H4 (q++[z]++z::s++xs.drop (i+1)) tail).drop (0+(j-1)*7+7)=H4 (q++x::(z::s)++xs.drop (i+1)) tail:=by
          have e1:=B0h (ys:=q++[z]++z::s++xs.drop (i+1)) (tail:=tail) (y:=x) (i:=j-1) (by omega)
          have e3:q++[z]++z::s++xs.drop (i+1)=q++z::(z::s++xs.drop (i+1)):=by simp
          rw [Nat.zero_add,e1,e3,B9s hql];simp
        obtain⟨r1,k1⟩:=B0z (H4 (q++[z]++z::s++xs.drop (i+1)) tail) rd
        obtain⟨r2,k2⟩:=B0z (H4 (q++x::(z::s)++xs.drop (i+1)) tail) r1
        obtain⟨w1,hw1⟩:∃ w1,w1=wq.drew.setRow b (H4 (q++[z]++z::s++xs.drop (i+1)) tail).toArray:=⟨_,rfl⟩
        rw [← hw1] at r1 k1 r2 k2
        obtain⟨w2,hw2⟩:∃ w2,w2=w1.setRow b (H4 (q++x::(z::s)++xs.drop (i+1)) tail).toArray:=⟨_,rfl⟩
        rw [← hw2] at r2 k2
        have hc1:0+j*7+7≤(H4 (q++[z]++x::s++xs.drop (i+1)) tail).length:=by unfold H4;rw [List.length_append,O4,hlen2];omega
        have hc2:0+(j-1)*7+7≤(H4 (q++[z]++z::s++xs.drop (i+1)) tail).length:=by unfold H4;rw [List.length_append,O4,hlen3];omega
        refine B4 ?_
        refine B2r ?_
        refine E.sub (M:=[(0,.slice (some ⟨b,0,none⟩) xs.length cap),(1,int 0),(2,int xs.length),(3,.func (.func 112) #[] #[]),(8,int i),(9,int j)]) ⟨rfl,rfl,rfl,rfl,rfl,rfl,trivial⟩ ?_
        refine C1f (fun p=>match p with|0=>wq.drew|1=>w1|_=>w2)
          [some (37,.slice (some ⟨b,0,none⟩) xs.length cap),some (38,int j),some (39,.slice (some ⟨b,0,none⟩) xs.length cap),some (40,int j),some (41,int ((j:Int)-1)),some (42,.slice (some ⟨b,0,none⟩) xs.length cap),some (43,int j),some (44,int ((j:Int)-1)),
            some (45,.pointer (some ⟨b,0+(j-1)*7,none⟩)),some (46,.agg (B9 z).toArray),some (47,.slice (some ⟨b,0,none⟩) xs.length cap),some (48,int j),some (49,.pointer (some ⟨b,0+j*7,none⟩)),some (50,.agg (B9 x).toArray),some (51,.pointer (some ⟨b,0+j*7,none⟩)),none,
            some (52,.pointer (some ⟨b,0+(j-1)*7,none⟩)),none]
          [(0,2,true),(0,2,true),(0,2,true),(0,2,true),(0,2,true),(0,2,true),(0,2,true),(0,2,true),(0,2,true),(0,0,true),(0,2,true),(0,2,true),(0,2,true),(0,0,true),(0,2,true),(0,0,false),(0,2,true),(1,0,false)]
          [15,17] B5 (by kernel_rfl) (by decide) rfl rfl rfl rfl
          ⟨fun _ _ _=>zA Z Z,fun _ _ _=>zA Z Z,fun _ _ _=>zA Z Z,fun _ _ _=>zA Z Z,fun _ _ _=>zV Z Z Z (by omega) (by omega),fun _ _ _=>zA Z Z,fun _ _ _=>zA Z Z,fun _ _ _=>zV Z Z Z (by omega) (by omega),
            fun _ _ _=>A0 (m:=j-1) Z Z Z (by omega) (by omega),fun p _ hp=>by
              obtain rfl:p=0:=by omega
              exact B8 Z Z Z (cs:=B9 z) (by simpa using atz.ext xd) Z,
            fun _ _ _=>zA Z Z,fun _ _ _=>zA Z Z,fun _ _ _=>A0 (m:=j) Z Z Z Z (by omega),fun p _ hp=>by
              obtain rfl:p=0:=by omega
              exact B8 Z Z Z (cs:=B9 x) (by simpa using atx.ext xd) Z,
            fun _ _ _=>A0 (m:=j) Z Z Z Z (by omega),fun ρ ha=>by
              show _=Result.ok _ w1
              rw [hw1]
              exact A0a (new:=B9 z) rfl rfl rfl rfl rfl rfl rd hc1 e1 ρ ha,
            fun _ _ _=>A0 (m:=j-1) Z Z Z (by omega) (by omega),fun ρ ha=>by
              show _=Result.ok _ w2
              rw [hw2]
              exact A0a (new:=B9 x) rfl rfl rfl rfl rfl rfl r1 hc2 e2 ρ ha,trivial⟩ ?_
        refine at_K (w:=w2) ?_
        (repeat' (first|refine Sy ?_))
        refine B3 (j-1,q,z::s) ⟨rfl,rfl,rfl,rfl,rfl,by dsimp only;rw [← hjm];rfl,trivial⟩ ⟨by dsimp only;rw [hps];simp,hql,fun y hy=>?_,r2,hkq.trans ((xd.kb _).trans (k1.trans k2))⟩ (by dsimp only;omega)
        rcases List.mem_cons.1 hy with rfl|hy
        · have:=B4e x y
          rw [← this];exact decide_eq_true ho
        · exact hall y hy
      · (repeat' ((fail_if_success (refine B4 (x:=(Code.block 3 _)) ?_));first|refine yV Z Z (fun _ _ _=>A0 (m:=j) Z Z Z Z (by omega)) ?_|refine yV Z Z (fun _ _ _=>A0 (m:=j-1) Z Z Z (by omega) (by omega)) ?_|refine yV Z Z (fun wq _ xq=>B8 Z Z Z (cs:=B9 x) (by simpa using atx.ext xq) Z) ?_|refine yV Z Z (fun wq _ xq=>B8 Z Z Z (cs:=B9 z) (by simpa using atz.ext xq) Z) ?_|refine C4 Z Z (fun _ _ _=>L2 Z Z Z en112) (fun wq _=>A9o _ _ wq) ?_|refine Sy ?_|refine yqZ ?_|refine yqX (fun hh=>?_) fun hh=>?_|refine E_dq B5 (by kernel_rfl) Z ?_|refine yN Z (fun wq xq=>?_)|refine yO Z Z ?_))
        all_goals (first|(exfalso;omega)|skip)
        have he:G1 ordB (xs.take (i+1))=q++[z]++x::s:=by
          rw [hnext]
          refine C0i hps hall (fun q' z' e=>?_)
          obtain⟨_,e2⟩:=List.append_inj' e rfl
          cases e2
          rw [← B4e];exact decide_eq_false ho
        exact B3 (i+1) ⟨rfl,rfl,rfl,rfl,rfl,trivial⟩ ⟨by omega,by omega,by rw [he];exact rq.ext xq,hkq.trans (xq.kb _)⟩ (by omega)
    · (repeat' ((fail_if_success (refine B4 (x:=(Code.block 3 _)) ?_));first|refine Sy ?_|refine yqZ ?_|refine yqX (fun hh=>?_) fun hh=>?_|refine E_dq B5 (by kernel_rfl) Z ?_|refine yN Z (fun wq xq=>?_)|refine yO Z Z ?_))
      all_goals (first|(exfalso;omega)|skip)
      obtain rfl:p=[]:=List.length_eq_zero_iff.1 (by omega)
      have he:G1 ordB (xs.take (i+1))=[]++x::s:=by
        rw [hnext]
        exact C0i hps hall (fun q' z' e=>by simp at e)
      exact B3 (i+1) ⟨rfl,rfl,rfl,rfl,rfl,trivial⟩ ⟨by omega,by omega,by rw [he];exact rq.ext xq,hkq.trans (xq.kb _)⟩ (by omega)
  · (repeat' (first|refine Sy ?_|refine Dy (fun hh=>?_) fun hh=>?_))
    all_goals (first|(exfalso;omega)|skip)
    obtain rfl:i=xs.length:=by omega
    rw [List.take_length,List.drop_length,List.append_nil] at rr
    exact A4m (B9y Z ⟨rr,hk⟩)
end
section
open Go.RowKit Go.En
theorem C4r {w:World} {B:Nat} {e:TypeId} {size n:Nat} {v:Value} {xs:List Value} (h:w.ownsRow B e size v n xs) (h0:0<n):∃ g cap tail,v=.slice (some ⟨g,0,none⟩) n cap∧n≤cap∧cap≤maxLen∧B≤g∧Row w g e (xs++tail)∧(xs++tail).length=cap*size:=by
  rcases h.2 with⟨_,hn⟩|⟨g,cap,cur,rfl,hb,hg,h1,h2,h3,h4⟩
  · omega
  · refine⟨g,cap,cur.toList.drop (n*size),rfl,h1,h2,hb,?_,?_⟩
    · rw [← h4,List.take_append_drop];exact hg
    · rw [← h4,List.take_append_drop];simpa using h3
theorem C4p {w:World} {B g cap:Nat} {e:TypeId} {size n:Nat} {xs tail:List Value} (h1:n≤cap) (h2:cap≤maxLen) (h3:B≤g) (hr:Row w g e (xs++tail)) (hl:xs.length=n*size) (hc:(xs++tail).length=cap*size):w.ownsRow B e size (.slice (some ⟨g,0,none⟩) n cap) n xs:=
  ⟨hl,.inr ⟨g,cap,(xs++tail).toArray,rfl,h3,hr,h1,h2,by simpa using hc,by rw [← hl];simp⟩⟩
attribute [local irreducible] E EL K Val Enters Rt Calls bodyPost Code.wp RQ
theorem C5f (a:Option Addr) (cap:Nat) (w:World):Calls Tryz.prog 187 #[.slice a 0 cap,int 0,int 0,.func (.func 112) #[] #[] ] w (Rt fun _ w'=>w'=w):=by
  refine A6 (n:=53) (args:=[.slice a 0 cap,int 0,int 0,.func (.func 112) #[] #[] ]) Tryz.func187 rfl Tryz.ntmps187 (by simp) ?_
  (repeat' (first|refine Sy ?_))
  refine B0 (ι:=Unit) (fun _=>[(2,int 0),(8,int 1)]) (fun _ wr=>wr=w) (fun _=>0) () ⟨rfl,rfl,trivial⟩ rfl ?_
  rintro _ wr rfl
  (repeat' ((fail_if_success (refine B4 (x:=(Code.block 1 _)) ?_));first|refine Sy ?_|refine Dy (fun hh=>?_) fun hh=>?_))
  all_goals (first|(exfalso;omega)|skip)
  exact A4m (B9y Z Z)
theorem ins_any (xs:List Note) (v:Value) (B:Nat) (w:World) (hlen:xs.length≤19) (h:w.ownsRow B 80 7 v xs.length (xs.map B9).flatten):Calls Tryz.prog 187 #[v,int 0,int xs.length,.func (.func 112) #[] #[] ] w (Rt fun _ w'=>w'.ownsRow B 80 7 v xs.length ((G1 ordB xs).map B9).flatten∧Kb v.ownBlock w w'):=by
  by_cases h0:0<xs.length
  · obtain⟨g,cap,tail,rfl,h1,h2,h3,hr,hc⟩:=C4r h h0
    have hp:(G1 ordB xs).length=xs.length:=(H3 xs).length_eq
    refine C0 (ins_row xs tail g cap w h0 (by omega) hr) fun _ w' hh=>⟨C4p h1 h2 h3 hh.1 (by rw [O4,hp]) ?_,hh.2⟩
    rw [← hc,List.length_append,List.length_append,O4,O4,hp]
  · obtain rfl:xs=[]:=List.length_eq_zero_iff.1 (by omega)
    obtain⟨a,cap,rfl⟩:∃ a cap,v=.slice a 0 cap:=by
      rcases h.2 with⟨rfl,_⟩|⟨g,cap,cur,rfl,_⟩
      · exact⟨none,0,rfl⟩
      · exact⟨_,cap,rfl⟩
    refine C0 (C5f a cap w) fun _ w' hh=>?_
    subst hh
    exact⟨h,Kb.refl _ _⟩
theorem B6v (xs:List Note) (v:Value) (B:Nat) (w:World) (hlen:xs.length≤19) (h:w.ownsRow B 80 7 v xs.length (xs.map B9).flatten):Calls Tryz.prog 143 #[v,int xs.length,.func (.func 112) #[] #[] ] w (Rt fun _ w'=>w'.ownsRow B 80 7 v xs.length ((G1 ordB xs).map B9).flatten∧Kb v.ownBlock w w'):=by
  refine A6 (n:=63) (args:=[v,int xs.length,.func (.func 112) #[] #[] ]) Tryz.func143 rfl Tryz.ntmps143 (by simp) ?_
  (repeat' (first|refine Sy ?_))
  refine B0 (ι:=Unit) (fun _=>[(0,v),(1,int xs.length),(2,.func (.func 112) #[] #[]),(6,int 20),(7,int 0),(8,int 20)]) (fun _ wr=>wr=w) (fun _=>0) () ⟨rfl,rfl,rfl,rfl,rfl,rfl,trivial⟩ rfl ?_
  rintro _ wr rfl
  have ci:=ins_any xs v B wr hlen h
  (repeat' ((fail_if_success (refine B4 (x:=(Code.block 1 _)) ?_));first|(refine A8 Z Z (A5 Z Z en187) ci (fun vC wC hC=>?_);obtain⟨hO,kC⟩:=hC)|refine Sy ?_|refine Dy (fun hh=>?_) fun hh=>?_))
  all_goals (first|(exfalso;omega)|skip)
  refine B0 (ι:=Unit) (fun _=>[(1,int xs.length),(6,int 20)]) (fun _ wr=>wr=wC) (fun _=>0) () ⟨rfl,rfl,trivial⟩ rfl ?_
  rintro _ w2 rfl
  (repeat' ((fail_if_success (refine B4 (x:=(Code.block 3 _)) ?_));first|refine Sy ?_|refine Dy (fun hh=>?_) fun hh=>?_))
  all_goals (first|(exfalso;omega)|skip)
  exact A4m (B9y Z ⟨hO,kC⟩)
theorem C1o (xs:List Note) (v:Value) (B:Nat) (w:World) (hlen:xs.length≤19) (h:w.ownsRow B 80 7 v xs.length (xs.map B9).flatten):Calls Tryz.prog 111 #[v,.func (.func 112) #[] #[] ] w (Rt fun _ w'=>w'.ownsRow B 80 7 v xs.length ((G1 ordB xs).map B9).flatten∧Kb v.ownBlock w w'):=by
  refine A6 (n:=9) (args:=[v,.func (.func 112) #[] #[] ]) Tryz.func111 rfl Tryz.ntmps111 (by simp) ?_
  have ci:=B6v xs v B w hlen h
  obtain⟨a,cap,rfl⟩:∃ a cap,v=.slice a xs.length cap:=by
    rcases h.2 with⟨rfl,h0⟩|⟨g,cap,cur,rfl,_⟩
    · exact⟨none,0,by rw [h0]⟩
    · exact⟨_,cap,rfl⟩
  (repeat' (first|(refine A8 Z Z (A5 Z Z en143) ci (fun vC wC hC=>?_);obtain⟨hO,kC⟩:=hC)|refine Sy ?_))
  exact A4m (B9y Z ⟨hO,kC⟩)
def accN (d:Dc) (id k:Int) (l:List Note):List Note:=if 0≤k∧k<d.tiers.length then sibs l k id else []
theorem B4r (d:Dc) (id k:Int):M8 d id k=G1 ordB (accN d id k d.notes):=by
  unfold M8 accN
  split <;> rfl
theorem C0z (d:Dc) (id k:Int) (l:List Note):(accN d id k l).length≤l.length:=by
  unfold accN
  split
  · exact A2o _ _ _
  · simp
theorem C6r {d:Dc} {id k:Int} {i:Nat} {x:Note} (h:d.notes[i]?=some x):accN d id k (d.notes.take (i+1))=accN d id k (d.notes.take i)++(if x.tier=k∧x.parent=id∧0≤k∧k<d.tiers.length then [x] else []):=by
  unfold accN
  by_cases hk:0≤k∧k<d.tiers.length
  · rw [if_pos hk,if_pos hk,A9j h]
    congr 1
    by_cases h1:x.tier=k∧x.parent=id
    · rw [if_pos h1,if_pos ⟨h1.1,h1.2,hk⟩]
    · rw [if_neg h1,if_neg (fun e=>h1 ⟨e.1,e.2.1⟩)]
  · rw [if_neg hk,if_neg hk,if_neg (fun e=>hk e.2.2)];rfl
theorem A9u {d:Dc} (hnl:d.notes.length≤14) (v:Value) (id k:Int) (w:World) (hv:DcAt w v d):Calls Tryz.prog 80 #[v,int id,int k] w (Rt fun u w'=>Ext w w'∧Sl w' u ((M8 d id k).map (·.id))):=by
  obtain⟨sv,tv,nv,rfl,_,ht,hn⟩:=hv
  refine A6 (n:=61) (args:=[.agg #[int d.rid,str d.rname,int d.len,int d.day,sv,tv,nv],int id,int k]) Tryz.func80 rfl Tryz.ntmps80 (by simp) ?_
  have hn0:=hn
  obtain⟨a,cap,rfl,hc,hm,hp⟩:=hn.sl
  obtain⟨ta,tcap,rfl,thc,thm,thp⟩:=ht.sl
  refine B4 ?_
  refine A9 ?_
  refine C6 Z Z Z Z (fun bB wB xB hbB rB0=>?_)
  have rB:Row wB bB 72 [int d.rid,str d.rname,int d.len,int d.day,sv,.slice ta d.tiers.length tcap,.slice a d.notes.length cap]:=rB0
  clear rB0
  (repeat' (first|refine eV Z Z (A7 Z Z Z (rB.cellAt rfl)) ?_|refine Sy ?_))
  refine B0 (ι:=Nat × Value) (fun x=>[(1,int id),(2,int k),(3,.pointer (some ⟨bB,0,none⟩)),(7,x.2),(14,.slice a d.notes.length cap),(15,int d.notes.length),(16,int x.1)])
    (fun x wr=>x.1≤d.notes.length∧Ext wB wr∧wr.ownsRow wB.heap.size 80 7 x.2 (accN d id k (d.notes.take x.1)).length ((accN d id k (d.notes.take x.1)).map B9).flatten) (fun x=>d.notes.length-x.1) (0,.slice none 0 0)
    ⟨rfl,rfl,rfl,rfl,rfl,rfl,rfl,trivial⟩ ⟨Nat.zero_le _,Ext.refl _,by
      have:accN d id k (d.notes.take 0)=[]:=by unfold accN;split <;> rfl
      dsimp only
      rw [this]
      exact World.ownsRow_nil _ _ _ _⟩ ?_
  rintro⟨i,vO⟩ wr ⟨hi,hx,hown⟩
  dsimp only at hi hx hown ⊢
  have rBr:=rB.ext hx
  have hol:=C0z d id k (d.notes.take i)
  rw [List.length_take] at hol
  by_cases hlt:i<d.notes.length
  · obtain⟨b,off,rfl⟩:=hp (by omega)
    obtain⟨q,hq⟩:∃ q,d.notes[i]?=some q:=⟨_,List.getElem?_eq_getElem hlt⟩
    have hat:=D7 (hn0.ext (xB.trans hx)) hq
    have htk:=C6r (id:=id) (k:=k) hq
    (repeat' (first|refine eV Z Z (A0 (m:=i) Z Z Z Z (by omega)) ?_|refine eV Z Z (B8 Z Z Z hat rfl) ?_|refine Sy ?_|refine Dy (fun hh=>?_) fun hh=>?_))
    all_goals (first|(exfalso;omega)|skip)
    refine C3 Z Z Z (fun b7 w7 x7 hb7 r7=>?_)
    refine B7 (cs:=B9 q) r7 x7 (by omega) Z Z Z Z Z Z Z Z (Nat.le_refl _) (fun w8 r8' x8 k8=>?_)
    have r8:Row w8 b7 80 (B9 q):=r8'
    clear r8' r7 k8
    have rB8:=rBr.ext x8
    have hown8:=C7 hown x8
    have hx8:=hx.trans x8
    (repeat' (first|refine eV Z Z (A7 Z Z Z (r8.cellAt rfl)) ?_|refine eV Z Z (A7 Z Z Z (rB8.cellAt rfl)) ?_|refine eV Z Z (B8 Z Z Z r8.at rfl) ?_|(refine D5 (news:=B9 q) (C7 hown8 xS) (hx8.trans xS) (fun _=>⟨_,_,rfl,rS.at⟩) Z Z Z Z Z Z Z Z Z (by omega) (by omega) (fun vJ wJ oJ xJ kJ hJ=>?_))|refine Sy ?_|refine Dy (fun hh=>?_) fun hh=>?_|refine eL Z Z Z Z Z Z Z Z (fun bS wS xS hbS rS=>?_)))
    all_goals (first|(exfalso;omega)|skip)
    · rw [if_pos ⟨by assumption,by assumption,by assumption,by assumption⟩] at htk
      refine B3 (i+1,vJ) ⟨rfl,rfl,rfl,rfl,rfl,rfl,rfl,trivial⟩ ⟨by dsimp only;omega,xJ,?_⟩ (by dsimp only;omega)
      dsimp only
      rw [htk]
      simpa using oJ
    all_goals
      rw [if_neg (by rintro⟨h1,h2,h3,h4⟩;first|exact absurd h1 ‹_› | exact absurd h2 ‹_› | exact absurd h3 ‹_› | exact absurd h4 ‹_›),List.append_nil] at htk
      refine B3 (i+1,vO) ⟨rfl,rfl,rfl,rfl,rfl,rfl,rfl,trivial⟩ ⟨by dsimp only;omega,hx8,?_⟩ (by dsimp only;omega)
      dsimp only
      rw [htk]
      exact hown8
  · rw [List.take_of_length_le (by omega)] at hown
    have hal:=C0z d id k d.notes
    have cS:=C1o (accN d id k d.notes) vO wB.heap.size wr (by omega) hown
    rw [← B4r] at cS
    have hkl:(M8 d id k).length=(accN d id k d.notes).length:=by rw [B4r];exact(H3 _).length_eq
    rw [← hkl] at cS
    (repeat' (first|(refine A8 Z Z (A5 Z Z en111) cS (fun vC wC hC=>?_);obtain⟨hO,kC⟩:=hC)|refine Sy ?_|refine Dy (fun hh=>?_) fun hh=>?_))
    all_goals (first|(exfalso;omega)|skip)
    have xC:Ext wB wC:=O3 hown hx kC
    have hSl:Sl wC vO (M8 d id k):=N4 hO (O5 _ _) rfl (by omega)
    obtain⟨K,hK⟩:∃ K,K=M8 d id k:=⟨_,rfl⟩
    rw [← hK] at hSl hO hkl ⊢
    have hS0:=hSl
    clear hown cS kC hO
    obtain⟨a2,cap2,rfl,hc2,hm2,hp2⟩:=hSl.sl
    (repeat' (first|refine Sy ?_))
    refine B0 (ι:=Nat × Value) (fun x=>[(10,x.2),(48,.slice a2 K.length cap2),(49,int K.length),(50,int x.1)])
      (fun x wr=>x.1≤K.length∧Ext wC wr∧wr.ownsRow wC.heap.size 3 1 x.2 x.1 (((K.take x.1).map (·.id)).map int)) (fun x=>K.length-x.1) (0,.slice none 0 0)
      ⟨rfl,rfl,rfl,rfl,trivial⟩ ⟨Nat.zero_le _,Ext.refl _,World.ownsRow_nil _ _ _ _⟩ ?_
    rintro⟨j,vP⟩ wq ⟨hj,hxq,hoq⟩
    dsimp only at hj hxq hoq ⊢
    by_cases hjl:j<K.length
    · obtain⟨b,off,rfl⟩:=hp2 (by omega)
      obtain⟨q,hq⟩:∃ q,K[j]?=some q:=⟨_,List.getElem?_eq_getElem hjl⟩
      have hat:=D7 (hS0.ext hxq) hq
      (repeat' (first|refine eV Z Z (A0 (m:=j) Z Z Z Z (by omega)) ?_|refine eV Z Z (B8 Z Z Z hat rfl) ?_|refine Sy ?_|refine Dy (fun hh=>?_) fun hh=>?_))
      all_goals (first|(exfalso;omega)|skip)
      refine C3 Z Z Z (fun b7 w7 x7 hb7 r7=>?_)
      refine B7 (cs:=B9 q) r7 x7 (by omega) Z Z Z Z Z Z Z Z (Nat.le_refl _) (fun w8 r8' x8 k8=>?_)
      have r8:Row w8 b7 80 (B9 q):=r8'
      clear r8' r7 k8
      have hown8:=C7 hoq x8
      have hx8:=hxq.trans x8
      (repeat' (first|refine eV Z Z (A7 Z Z Z (r8.cellAt rfl)) ?_|(refine D5 (news:=[int q.id]) (C7 hown8 xS) (hx8.trans xS) (fun _=>⟨_,_,rfl,rS.at⟩) Z Z Z Z Z Z Z Z Z (by omega) (by omega) (fun vJ wJ oJ xJ kJ hJ=>?_))|refine Sy ?_|refine eL Z Z Z Z Z Z Z Z (fun bS wS xS hbS rS=>?_)))
      refine B3 (j+1,vJ) ⟨rfl,rfl,rfl,rfl,trivial⟩ ⟨by dsimp only;omega,xJ,?_⟩ (by dsimp only;omega)
      dsimp only
      obtain⟨hj2,rfl⟩:=List.getElem?_eq_some_iff.1 hq
      rw [List.take_succ_eq_append_getElem hj2,List.map_append,List.map_append]
      exact oJ
    · obtain rfl:j=K.length:=by omega
      rw [List.take_length] at hoq
      (repeat' (first|refine Sy ?_|refine Dy (fun hh=>?_) fun hh=>?_))
      all_goals (first|(exfalso;omega)|skip)
      refine A4 Z Z ⟨xB.trans (xC.trans hxq),?_⟩
      exact N4 (css:=(K.map (·.id)).map fun z=>[int z]) (by rw [D8];exact hoq) (H1 _ _) (by simp) (by simp;omega)
theorem C5d {d:Dc} (h:LightD d) (v:Value) (id k:Int) (w:World) (hv:DcAt w v d):Calls Tryz.prog 80 #[v,int id,int k] w (Rt fun u w'=>Ext w w'∧Sl w' u ((M8 d id k).map (·.id))):=A9u h.nnotes v id k w hv
end
section
open Go.RowKit Go.En
theorem sl_ints {G:Nat→Prop} {w:World} {a:Option Addr} {n cap:Nat} {ids:List Int} (h:SlG G w (.slice a n cap) ids) (h0:0<n):∃ b off,a=some ⟨b,off,none⟩∧At w b off (ids.map int):=by
  have hn:n=ids.length:=by obtain⟨a',c',e,_⟩:=h;cases e;rfl
  obtain⟨css,h1,h2⟩:=h.css
  have hc:=A3j h1
  subst hc
  rw [D8] at h2
  obtain⟨b,so,e,_,h3⟩:=h2 (by simp;omega)
  exact⟨b,so,e,h3⟩
theorem of_below {d:Dc} (h:LightD d) {k:Nat} {t:Tier} (ht:d.tiers[k]?=some t) (h0:t.kind≠0):∃ j:Nat,t.parent=(j:Int)∧j<k∧ofR d (k:Int)=(ofR d (j:Int)).flatMap fun p=>M8 d p.id (k:Int):=by
  have hl:=A5h ht
  have hr:=(h.tiers k t ht).par h0
  obtain⟨j,hj⟩:∃ j:Nat,t.parent=(j:Int):=⟨t.parent.toNat,by omega⟩
  obtain⟨u,hu⟩:∃ u,d.tiers[j]?=some u:=⟨_,List.getElem?_eq_getElem (by omega)⟩
  refine⟨j,hj,by omega,?_⟩
  rw [← C4w h k (k+1) t ht (by omega)]
  simp only [ofN,Int.toNat_natCast]
  rw [if_pos ⟨by omega,by omega⟩,ht]
  dsimp only
  rw [if_neg h0,hj,C4w h j k u hu (by omega)]
attribute [local irreducible] E EL K Val Enters Rt Calls bodyPost Code.wp RQ
end
section
open Go.RowKit Go.En
theorem B0j {G:Nat→Prop} {w:World}:∀ {ys:List Note} {css:List (List Value)},AtsG G w ys css→css=ys.map B9
  | [],[],_=>rfl
  | z::r,c::cs,h=>by rw [List.map_cons,← B0j (ys:=r) (css:=cs) h.2,← show c=B9 z from h.1]
  | [],_::_,h=>h.elim
  | _::_,[],h=>h.elim
abbrev Q3:=Nat × Nat × Value
structure PhI (w0:World) (Lb:List (Nat × Value)) (QL:List Q3) (vO:Value) (tk dr:List Note) (nt:Note) (C:Nat→Prop) (δ:Nat→Value) (w:World):Prop where
  ext:Ext w0 w
  bs:∀ s v,lk Lb s=some v→δ s=v
  s5:¬ C 12→δ 5=vO
  qs:∀ t∈QL,C t.1→δ t.2.1=t.2.2
  a0:C 0→¬ C 4→w.ownsRow w0.heap.size 80 7 (δ 44) 0 []
  a6:C 6→¬ C 7→∃ b,δ 50=.slice (some ⟨b,0,none⟩) 1 1∧Row w b 80 (B9 nt)
  n06:C 0→¬ C 4→C 6→(δ 44).ownBlock≠(δ 50).ownBlock
  a4:C 4→¬ C 7→w.ownsRow w0.heap.size 80 7 (δ 48) tk.length (tk.map B9).flatten
  n46:C 4→¬ C 7→C 6→(δ 48).ownBlock≠(δ 50).ownBlock
  a7:C 7→¬ C 11→w.ownsRow w0.heap.size 80 7 (δ 51) (tk.length+1) ((tk.map B9).flatten++B9 nt)
  a11:C 11→w.ownsRow w0.heap.size 80 7 (δ 55) (tk.length+1+dr.length) ((tk.map B9).flatten++B9 nt++(dr.map B9).flatten)
  a12:C 12→δ 5=δ 55
section
variable {w0 : World} {Lb : List (Nat × Value)} {QL : List Q3} {vO : Value} {tk dr : List Note} {nt : Note} {C C' : Nat → Prop} {δ : Nat → Value} {w w' : World} {v : Value}
end
end
section
open Go.RowKit Go.En
attribute [local irreducible] E EL K Val Enters Rt Calls bodyPost Code.wp RQ
end
end Go.Proofs.YtjicdgejhkgpgaaGreatDoor