/-
  Own text of the proof.
-/
import Derived.Test.YtjicdgejhkgpgaaGreatDoorYw
import Derived.Test.YtjicdgejhkgpgaaGreatDoorYs
import Derived.Test.YtjicdgejhkgpgaaGreatDoorYh
import Derived.Test.YtjicdgejhkgpgaaGreatDoorYt
import Derived.Test.YtjicdgejhkgpgaaGreatDoorYl
import Derived.Test.YtjicdgejhkgpgaaGreatDoorYd
import Derived.Test.YtjicdgejhkgpgaaGreatDoorYm
set_option linter.all false
set_option maxHeartbeats 4000000
set_option maxRecDepth 8000
namespace Go.Proofs.YtjicdgejhkgpgaaGreatDoor
open Go.RowKit Go.En
def cstep (acc:List Int) (x:Int):List Int:=if acc.getLast?=some x then acc else acc++[x]
def G7 (l:List Int):List Int:=l.foldl cstep []
theorem Z0 (l:List Int) (x:Int):G7 (l++[x])=cstep (G7 l) x:=by unfold G7;rw [List.foldl_append];rfl
theorem B8r (acc:List Int) (x:Int):(cstep acc x).getLast?=some x:=by
  unfold cstep
  by_cases h:acc.getLast?=some x
  · rw [if_pos h];exact h
  · rw [if_neg h];simp
theorem B8u {l:List Int} {i:Nat} {x:Int} (hx:l[i]?=some x):(G7 (l.take (i+1))).getLast?=some x:=by
  obtain⟨hi,rfl⟩:=List.getElem?_eq_some_iff.1 hx
  rw [List.take_succ_eq_append_getElem hi,Z0,B8r]
theorem A7n {l:List Int} {i:Nat} {x y:Int} (hx:l[i]?=some x) (hy:l[i+1]?=some y):G7 (l.take (i+2))=if x=y then G7 (l.take (i+1)) else G7 (l.take (i+1))++[y]:=by
  obtain⟨hi,rfl⟩:=List.getElem?_eq_some_iff.1 hy
  rw [List.take_succ_eq_append_getElem hi,Z0]
  unfold cstep
  rw [B8u hx]
  simp
theorem A3d (l:List Int):(G7 l).length≤l.length:=by
  rw [← List.reverse_reverse l]
  induction l.reverse with
  | nil=>simp [G7]
  | cons a t ih=>
    rw [List.reverse_cons,Z0]
    unfold cstep
    split
    · simp at ih ⊢;omega
    · simp at ih ⊢;omega
theorem C2t {l:List Int} {x:Int} (hx:l[0]?=some x):G7 (l.take 1)=[x]:=by
  cases l with
  | nil=>simp at hx
  | cons a t=>simp at hx;subst hx;rfl
theorem B5r {l:List Int} (h:l.length<2):G7 l=l:=by
  match l,h with
  | [],_=>rfl
  | [a],_=>rfl
theorem B8t : ∀ l : List Int, l.Pairwise (· ≤ ·) → Rise (G7 l) ∧ (∀ x, x ∈ G7 l ↔ x ∈ l) := by
  have key:∀ r:List Int,r.reverse.Pairwise (·≤·)→Rise (G7 r.reverse)∧(∀ x,x∈G7 r.reverse↔x∈r.reverse):=by
    intro r
    induction r with
    | nil=>intro _;exact⟨by simp [G7,Rise],by simp [G7]⟩
    | cons a t ih=>
      intro h
      rw [List.reverse_cons] at h ⊢
      obtain⟨h1,_,h3⟩:=List.pairwise_append.1 h
      obtain⟨q1,q2⟩:=ih h1
      have hle:∀ x∈G7 t.reverse,x≤a:=fun x hx=>h3 x ((q2 x).1 hx) a (by simp)
      rw [Z0]
      unfold cstep
      by_cases hl:(G7 t.reverse).getLast?=some a
      · rw [if_pos hl]
        refine⟨q1,fun x=>?_⟩
        rw [List.mem_append,List.mem_singleton,← q2 x]
        exact⟨.inl,fun hx=>by
          rcases hx with hx|rfl
          · exact hx
          · exact List.mem_of_getLast? hl⟩
      · rw [if_neg hl]
        have hlt:∀ x∈G7 t.reverse,x<a:=fun x hx=>by
          have h5:=hle x hx
          by_cases e:x=a
          · subst e
            exfalso
            apply hl
            obtain⟨s,r,hs⟩:=List.append_of_mem hx
            have hr:r=[]:=by
              cases r with
              | nil=>rfl
              | cons b r=>
                have h6:b∈G7 t.reverse:=by rw [hs];simp
                have h7:=hle b h6
                rw [hs] at q1
                have:=(List.pairwise_cons.1 (List.pairwise_append.1 q1).2.1).1 b (by simp)
                omega
            rw [hs,hr];simp
          · omega
        refine⟨List.pairwise_append.2 ⟨q1,by simp,fun x hx y hy=>by rw [List.mem_singleton] at hy;subst hy;exact hlt x hx⟩,fun x=>?_⟩
        rw [List.mem_append,List.mem_append,q2 x]
  intro l h
  have:=key l.reverse (by rwa [List.reverse_reverse])
  rwa [List.reverse_reverse] at this
theorem A7o (l:List Int):G7 (l.mergeSort (fun x y=>decide (x≤y)))=L7 l:=by
  have hs:=List.pairwise_mergeSort (le:=fun x y:Int=>decide (x≤y)) (fun a b c h1 h2=>by simp at h1 h2 ⊢;omega) (fun a b=>by simp;omega) l
  obtain⟨h1,h2⟩:=B8t _ (hs.imp fun {a b} hab=>by simpa using hab)
  exact B3w h1 (A0b l).1 fun x=>(h2 x).trans (((List.mergeSort_perm l _).mem_iff).trans ((A0b l).2 x).symm)
theorem rowI {w:World} {b:Nat} {e:TypeId} {cs:List Value} (h:Row w b e cs) {i:Nat} {v:Value} (hv:cs[i]?=some v):w.cell? ⟨b,0+i*1,none⟩=some v:=by rw [Nat.zero_add,Nat.mul_one];exact h.cellAt hv
theorem rowO {w:World} {b:Nat} {e:TypeId} {cs:List Value} (h:Row w b e cs) {k i:Nat} {v:Value} (hv:cs[k+i]?=some v):w.cell? ⟨b,k+i*1,none⟩=some v:=by rw [Nat.mul_one];exact h.cellAt hv
theorem A2i {P:Program} {L:List (Nat × Value)} {w:World} {o:Oper} {t e:TypeId} {x p:Operand} {b len cap k:Nat} {kl:IntKind} {za:Int} {zv:Value} {bytes:Nat} [UT P t (.slice e)] [TI P e zv 1 bytes] (ho:o.op=.slice t x (some p) none none) (hx:ev L x=some (.slice (some ⟨b,0,none⟩) len cap))
    (hlo:ev L p=some (.int kl za)) (hza:za=(k:Int)) (hk:k≤len) (hc:k<cap):Val P L w o (.slice (some ⟨b,k,none⟩) (len-k) (cap-k)):=by
  have:=H8 (P:=P) (L:=L) (w:=w) ho hx hlo hza hk
  rw [if_neg (by omega)] at this
  simpa [D2] using this
attribute [local irreducible] E EL K Val Enters Rt Calls bodyPost Code.wp RQ
theorem B5q (l : List Int) (v : Value) (B : Nat) (w : World) (h : w.ownsRow B 3 1 v l.length (l.map int)) (hlen : l.length ≤ 1099511627776) : Calls Tryz.prog 102 #[v] w (Rt fun u w' => w'.ownsRow B 3 1 u (G7 l).length ((G7 l).map int) ∧ Kb v.ownBlock w w' ∧ u.ownBlock = v.ownBlock) := by
  by_cases h2:l.length<2
  · obtain⟨a,cap,rfl⟩:∃ a cap,v=.slice a l.length cap:=by
      rcases h.2 with⟨rfl,h0⟩|⟨g,cap,cur,rfl,_⟩
      · exact⟨none,0,by rw [h0]⟩
      · exact⟨_,_,rfl⟩
    refine A6 (n:=61) (args:=[.slice a l.length cap]) Tryz.func102 rfl Tryz.ntmps102 (by simp) ?_
    (repeat' ((fail_if_success (refine B4 (x:=(Code.block 0 _)) ?_));first|refine Sy ?_|refine Dy (fun hh=>?_) fun hh=>?_))
    all_goals (first|(exfalso;omega)|skip)
    all_goals exact A4 Z Z ⟨by rw [B5r h2];exact h,Kb.refl _ _,rfl⟩
  · rcases h.2 with⟨rfl,h0⟩|⟨g,cap,cur,rfl,hb,hg,h1,hcm,h3,h4⟩
    · exact absurd h0 (by omega)
    obtain⟨C,hC⟩:∃ C,C=cur.toList:=⟨_,rfl⟩
    have hR:Row w g 3 C:=by rw [hC];exact hg
    have hCl:C.length=cap:=by rw [hC,Array.length_toList,h3,Nat.mul_one]
    have hCt:C.take l.length=l.map int:=by rw [hC,← h4,Nat.mul_one]
    have hCi:∀ {i:Nat} {x:Int},l[i]?=some x→C[i]?=some (int x):=fun {i x} hx=>by
      have hi:=(List.getElem?_eq_some_iff.1 hx).1
      have:(C.take l.length)[i]?=some (int x):=by rw [hCt,List.getElem?_map,hx];rfl
      rwa [List.getElem?_take_of_lt hi] at this
    refine A6 (n:=61) (args:=[.slice (some ⟨g,0,none⟩) l.length cap]) Tryz.func102 rfl Tryz.ntmps102 (by simp) ?_
    (repeat' ((fail_if_success (refine B4 (x:=(Code.block 0 _)) ?_));first|refine Sy ?_|refine Dy (fun hh=>?_) fun hh=>?_))
    all_goals (first|(exfalso;omega)|skip)
    refine B0 (ι:=Nat) (fun i=>[(0,.slice (some ⟨g,0,none⟩) l.length cap),(3,int i)])
      (fun i wr=>1≤i∧i≤l.length∧Ext w wr∧G7 (l.take i)=l.take i) (fun i=>l.length-i) 1
      ⟨rfl,rfl,trivial⟩ ⟨Nat.le_refl _,by omega,Ext.refl _,by
        obtain⟨x,hx⟩:∃ x,l[0]?=some x:=⟨_,List.getElem?_eq_getElem (by omega)⟩
        rw [C2t hx]
        cases l with
        | nil=>simp at hx
        | cons a t=>simp at hx;subst hx;rfl⟩ ?_
    rintro i wr ⟨hi1,hi,hx,hcomp⟩
    by_cases hlt:i<l.length
    · obtain ⟨x, hxl⟩ : ∃ x, l[i - 1]? = some x := ⟨_, List.getElem?_eq_getElem (by omega)⟩
      obtain⟨y,hyl⟩:∃ y,l[i]?=some y:=⟨_,List.getElem?_eq_getElem hlt⟩
      have hRr:=hR.ext hx
      have cx:=rowI hRr (hCi hxl)
      have cy:=rowI hRr (hCi hyl)
      have hstep:G7 (l.take (i+1))=if x=y then G7 (l.take i) else G7 (l.take i)++[y]:=by
        have:=A7n (l:=l) (i:=i-1) (x:=x) (y:=y) hxl (by rw [show i-1+1=i by omega];exact hyl)
        rwa [show i-1+2=i+1 by omega,show i-1+1=i by omega] at this
      by_cases hxy:y=x
      · have hdec:decide (y=x)=true:=decide_eq_true hxy
        (repeat' (first|refine yV Z Z (fun _ _ _=>A0 (m:=i) Z Z Z Z (by omega)) ?_|refine yV Z Z (fun _ _ _=>A0 (m:=i-1) Z Z Z (by omega) (by omega)) ?_|refine yV Z Z (fun wq _ xq=>A7 Z Z Z (xq.cell cx)) ?_|refine yV Z Z (fun wq _ xq=>A7 Z Z Z (xq.cell cy)) ?_|refine yV (v:=.bool true) Z Z (fun _ _ _=>by rw [← hdec];exact zM Z Z Z) ?_|refine eV Z Z (A2i (k:=i) Z Z Z Z (by omega) (by omega)) ?_|refine Sy ?_|refine Dy (fun hh=>?_) fun hh=>?_|refine yqZ ?_|refine E_dq B5 (by kernel_rfl) Z ?_|refine yN Z (fun wq xq=>?_)))
        all_goals (first|(exfalso;omega)|skip)
        have hxq:=hx.trans xq
        have hRq:=hR.ext hxq
        refine B0 (ι:=Nat × Nat × List Value) (fun s=>[(0,.slice (some ⟨g,0,none⟩) l.length cap),(3,int s.2.1),(4,.slice (some ⟨g,i,none⟩) (l.length-i) (cap-i)),(5,int s.1)])
          (fun s ww=>1≤s.1∧i+s.1≤l.length∧s.2.1=(G7 (l.take (i+s.1))).length∧i≤s.2.1∧s.2.1<i+s.1∧s.2.2.length=cap∧Row ww g 3 s.2.2∧Kb (some g) w ww∧s.2.2.take s.2.1=(G7 (l.take (i+s.1))).map int∧∀ j z,i+s.1≤j+1→l[j]?=some z→s.2.2[j]?=some (int z)) (fun s=>l.length-(i+s.1)) (1,i,C)
          ⟨rfl,rfl,rfl,rfl,trivial⟩ ⟨Nat.le_refl _,by omega,by
            show i=(G7 (l.take (i+1))).length
            rw [hstep,if_pos hxy.symm,hcomp,List.length_take];omega,Nat.le_refl _,by show i<i+1;omega,hCl,hRq,hxq.kb _,by
            show C.take i=(G7 (l.take (i+1))).map int
            rw [hstep,if_pos hxy.symm,hcomp,List.map_take,← hCt,List.take_take,Nat.min_eq_left hi],fun j z _ hz=>hCi hz⟩ ?_
        rintro⟨k2,k,D⟩ ww ⟨hk1,hkl,hkk,hik,hki,hDl,hRD,hKb,hpre,hrest⟩
        dsimp only at hk1 hkl hkk hik hki hDl hRD hKb hpre hrest ⊢
        by_cases hlt2:i+k2<l.length
        · obtain⟨p,hpl⟩:∃ p,l[i+(k2-1)]?=some p:=⟨_,List.getElem?_eq_getElem (by omega)⟩
          obtain⟨q,hql⟩:∃ q,l[i+k2]?=some q:=⟨_,List.getElem?_eq_getElem hlt2⟩
          have cp:=rowO hRD (k:=i) (i:=k2-1) (hrest _ _ (by omega) hpl)
          have cq:=rowO hRD (k:=i) (i:=k2) (hrest _ _ (by omega) hql)
          have hst2:G7 (l.take (i+k2+1))=if p=q then G7 (l.take (i+k2)) else G7 (l.take (i+k2))++[q]:=by
            have:=A7n (l:=l) (i:=i+(k2-1)) (x:=p) (y:=q) hpl (by rw [show i+(k2-1)+1=i+k2 by omega];exact hql)
            rwa [show i+(k2-1)+2=i+k2+1 by omega,show i+(k2-1)+1=i+k2 by omega] at this
          by_cases hpq:q=p
          · have hdec2:decide (q≠p)=false:=decide_eq_false (fun e=>e hpq)
            (repeat' (first|refine yV Z Z (fun _ _ _=>A0 (m:=k2) Z Z Z Z (by omega)) ?_|refine yV Z Z (fun _ _ _=>A0 (m:=k2-1) Z Z Z (by omega) (by omega)) ?_|refine yV Z Z (fun wq _ xq=>A7 Z Z Z (xq.cell cp)) ?_|refine yV Z Z (fun wq _ xq=>A7 Z Z Z (xq.cell cq)) ?_|refine yV (v:=.bool false) Z Z (fun _ _ _=>by rw [← hdec2];exact zQ Z Z Z) ?_|refine Sy ?_|refine Dy (fun hh=>?_) fun hh=>?_|refine yqZ ?_|refine E_dq B5 (by kernel_rfl) Z ?_|refine yN Z (fun wq xq=>?_)))
            all_goals (first|(exfalso;omega)|skip)
            refine B3 (k2+1,k,D) ⟨rfl,rfl,rfl,rfl,trivial⟩ ⟨by dsimp only;omega,by dsimp only;omega,?_,hik,by dsimp only;omega,hDl,hRD.ext xq,hKb.trans (xq.kb _),?_,fun j z hj hz=>hrest j z (by dsimp only at hj;omega) hz⟩ (by dsimp only;omega)
            · dsimp only
              rw [← Nat.add_assoc,hst2,if_pos hpq.symm];exact hkk
            · dsimp only
              rw [← Nat.add_assoc,hst2,if_pos hpq.symm];exact hpre
          · have hdec2:decide (q≠p)=true:=decide_eq_true hpq
            have hgq:∀ w2,Row w2 g 3 D→w2.cell? ⟨g,i+k2*1,none⟩=some (int q):=fun w2 h2=>rowO h2 (k:=i) (i:=k2) (hrest _ _ (by omega) hql)
            (repeat' (first|refine yV Z Z (fun _ _ _=>A0 (m:=k2) Z Z Z Z (by omega)) ?_|refine yV Z Z (fun _ _ _=>A0 (m:=k2-1) Z Z Z (by omega) (by omega)) ?_|refine yV Z Z (fun wq _ xq=>A7 Z Z Z (xq.cell cp)) ?_|refine yV Z Z (fun wq _ xq=>A7 Z Z Z (xq.cell cq)) ?_|refine yV (v:=.bool true) Z Z (fun _ _ _=>by rw [← hdec2];exact zQ Z Z Z) ?_|refine eV Z Z (A0 (m:=k2) Z Z Z Z (by omega)) ?_|refine eV Z Z (A0 (m:=k) Z Z Z Z (by omega)) ?_|refine eV Z Z (A7 Z Z Z (hgq _ (hRD.ext (by assumption)))) ?_|refine Sy ?_|refine Dy (fun hh=>?_) fun hh=>?_|refine yqZ ?_|refine E_dq B5 (by kernel_rfl) Z ?_|refine yN Z (fun wq xq=>?_)))
            all_goals (first|(exfalso;omega)|skip)
            have hkD:k<D.length:=by omega
            refine J0 (cs:=D) Z Z Z Z Z Z Z (hRD.ext xq) (by show 0+k*1+1≤D.length;omega) (fun wS rS kS _=>?_)
            have rS':Row wS g 3 (D.take k++[int q]++D.drop (k+1)):=by
              have:=rS
              rw [show 0+k*1=k by omega] at this
              exact this
            (repeat' (first|refine Sy ?_))
            refine B3 (k2+1,k+1,D.take k++[int q]++D.drop (k+1)) ⟨rfl,rfl,rfl,rfl,trivial⟩ ⟨by dsimp only;omega,by dsimp only;omega,?_,by dsimp only;omega,by dsimp only;omega,?_,rS',(hKb.trans (xq.kb _)).trans kS,?_,fun j z hj hz=>?_⟩ (by dsimp only;omega)
            · dsimp only
              rw [← Nat.add_assoc,hst2,if_neg (fun e=>hpq e.symm),List.length_append,← hkk];rfl
            · dsimp only
              simp only [List.length_append,List.length_take,List.length_drop,List.length_singleton];omega
            · dsimp only
              rw [← Nat.add_assoc,hst2,if_neg (fun e=>hpq e.symm),List.map_append,← hpre,List.take_append_of_le_length (by simp;omega),List.take_of_length_le (by simp;omega)];rfl
            · dsimp only at hj ⊢
              rw [List.getElem?_append_right (by simp;omega),List.getElem?_drop]
              have:k+1+(j-(D.take k++[int q]).length)=j:=by simp only [List.length_append,List.length_take,List.length_singleton];omega
              rw [this]
              exact hrest j z (by omega) hz
        · have hk2e:i+k2=l.length:=by omega
          rw [hk2e,List.take_length] at hkk hpre
          have hkl2:=A3d l
          (repeat' (first|refine eV Z Z (A2i (k:=k) Z Z Z Z (by omega) (by omega)) ?_|refine eV Z Z (Z9 (b:=k) Z Z Z Z (by omega)) ?_|refine EL_clear (m:=l.length-k) hRD rfl rfl rfl rfl rfl rfl (by omega) (fun wC rC kC=>?_)|refine Sy ?_|refine Dy (fun hh=>?_) fun hh=>?_))
          all_goals (first|(exfalso;omega)|skip)
          refine A4 Z Z ⟨⟨by simp,.inr ⟨g,cap,(D.take k++List.replicate (l.length-k) (int 0)++D.drop (k+(l.length-k))).toArray,by rw [hkk],hb,rC,by omega,hcm,?_,?_⟩⟩,hKb.trans kC,rfl⟩
          · simp only [List.size_toArray,List.length_append,List.length_take,List.length_drop,List.length_replicate];omega
          · rw [Nat.mul_one,← hkk,← hpre,List.append_assoc,List.take_append_of_le_length (by simp;omega),List.take_of_length_le (by rw [List.length_take];omega)]
      · have hdec:decide (y=x)=false:=decide_eq_false hxy
        (repeat' (first|refine yV Z Z (fun _ _ _=>A0 (m:=i) Z Z Z Z (by omega)) ?_|refine yV Z Z (fun _ _ _=>A0 (m:=i-1) Z Z Z (by omega) (by omega)) ?_|refine yV Z Z (fun wq _ xq=>A7 Z Z Z (xq.cell cx)) ?_|refine yV Z Z (fun wq _ xq=>A7 Z Z Z (xq.cell cy)) ?_|refine yV (v:=.bool false) Z Z (fun _ _ _=>by rw [← hdec];exact zM Z Z Z) ?_|refine Sy ?_|refine Dy (fun hh=>?_) fun hh=>?_|refine yqZ ?_|refine E_dq B5 (by kernel_rfl) Z ?_|refine yN Z (fun wq xq=>?_)))
        all_goals (first|(exfalso;omega)|skip)
        refine B3 (i+1) ⟨rfl,rfl,trivial⟩ ⟨by omega,by omega,hx.trans xq,?_⟩ (by omega)
        rw [hstep,if_neg (fun e=>hxy e.symm),hcomp]
        obtain⟨hi,rfl⟩:=List.getElem?_eq_some_iff.1 hyl
        exact(List.take_succ_eq_append_getElem hi).symm
    · obtain rfl:i=l.length:=by omega
      rw [List.take_length] at hcomp
      (repeat' (first|refine Sy ?_|refine Dy (fun hh=>?_) fun hh=>?_))
      all_goals (first|(exfalso;omega)|skip)
      exact A4 Z Z ⟨by rw [hcomp];exact C7 h hx,hx.kb _,rfl⟩
def Nw (w:World):Nat→Prop:=fun b=>w.heap.size≤b
theorem own_Nw {w w':World} {v:Value} {l:List Int} (h:w'.ownsRow w.heap.size 3 1 v l.length (l.map int)) (hl:l.length≤140737488355328):SlG (Nw w) w' v l:=
  L1 (css:=l.map fun z=>[int z]) (by rw [D8];exact h) (H1 _ _) (fun _ hb=>hb) rfl hl
theorem A4i (l:List Int) (v:Value) (w:World) (hv:Sl w v l) (hl:l.length≤1000000):Calls Tryz.prog 66 #[v] w (Rt fun u w'=>Ext w w'∧SlG (Nw w) w' u (L7 l)):=by
  have hv0:=hv
  obtain⟨a,cap,rfl,hc,hm,hp⟩:=hv.sl
  refine A6 (n:=7) (args:=[.slice a l.length cap]) Tryz.func66 rfl Tryz.ntmps66 (by simp) ?_
  have c1:=B6h a l.length cap w
  (repeat' (first|(refine A8 Z Z (A5 Z Z en104) c1 (fun vC wC hC=>?_);obtain⟨b,rfl,rB,xC⟩:=hC)|refine Sy ?_))
  have c2:=B0w l _ b wC rB (hv0.ext xC) (by omega)
  have hsl:(l.mergeSort (fun x y=>decide (x≤y))).length=l.length:=by simp
  (repeat' (first|(refine A8 Z Z (A5 Z Z en103) c2 (fun vD wD hD=>?_);obtain⟨xD,oD⟩:=hD)))
  rw [← hsl] at oD
  have c3:=B5q _ vD wC.heap.size wD oD (by omega)
  rw [A7o] at c3
  (repeat' (first|(refine A8 Z Z (A5 Z Z en102) c3 (fun vE wE hE=>?_);obtain⟨oE,kE,_⟩:=hE)|refine Sy ?_))
  have hle:(L7 l).length≤1000000:=by
    have:=A3d (l.mergeSort (fun x y=>decide (x≤y)))
    rw [A7o] at this
    omega
  exact A4 Z Z ⟨xC.trans (O3 oD xD kE),own_Nw (C4o oE xC.size) (by omega)⟩
end Go.Proofs.YtjicdgejhkgpgaaGreatDoor
namespace Go.En
open Go.RowKit
theorem A7w {α:Type} [Rep α] {Gx:Nat→Prop} {u0 w:World} {e:TypeId} {xs:List α} {ov:Value} {P:Program} {n:Nat} {ops rest:List Oper} {Q:Post} {L:List (Nat × Value)} {o:Oper} {d bS:Nat} {t:TypeId} {s y:Operand} {z:Value} {size bytes:Nat} {x:α} {X:List Value} [ut:UT P t (.slice e)] [ti:TI P e z size bytes]
    (h:Grow Gx u0 e xs ov w) (hr:Row w bS e X) (hx:Rep.at_ (Gq Gx ov) w x X) (hg:gst ops L o=some true) (hd:odst n o.dst=some d) (ho:o.op=.call { callee:=.builtin .append,args:=#[s,y],argTypes:=#[t,t] })
    (hsv:ev L s=some ov) (hy:ev L y=some (.slice (some ⟨bS,0,none⟩) 1 1)) (hz:z.cells.size=size) (hsz:Nat.beq size (Rep.sz α)=true) (hmax:(xs.length+1)*bytes≤140737488355328) (hmax':xs.length+1≤140737488355328)
    (k:∀ v' w',Grow Gx u0 e (xs++[x]) v' w'→Kb ov.ownBlock w w'→(v'.ownBlock=ov.ownBlock∨v'.ownBlock=some w.heap.size)→EL P n ops Q rest ((d,v')::L) w'):EL P n ops Q (o::rest) L w:=by
  have e0:=Nat.eq_of_beq_eq_true hsz
  subst e0
  obtain⟨h1,css,h2,h3⟩:=h
  have hp:0<Rep.sz α:=Rep.pos
  have hl:X.length=Rep.sz α:=Rep.len hx
  refine D5 (w0:=u0) (news:=X) (q:=1) (c:=1) h2 h1 (fun _=>⟨bS,0,rfl,hr.at⟩) hg hd ho hsv hy (by simp [hl]) (Rep.one hx) hz (Nat.ble_eq_true_of_le hp) hmax (by omega) (fun vJ wJ oJ xJ kJ hJ=>?_)
  have mv:∀ b,Gq Gx ov b→b<w.heap.size→Gq Gx vJ b∧wJ.heap[b]?=w.heap[b]?:=fun b hb hlt=>⟨⟨hb.1,(Nb.mv kJ hJ b hb.2 hlt).1⟩,(Nb.mv kJ hJ b hb.2 hlt).2⟩
  refine k vJ wJ ⟨xJ,css++[X],?_,AllAt.append (AtsG.move h3 mv) (AllAt.one (Rep.move hx mv))⟩ kJ hJ
  rw [List.flatten_append,List.length_append]
  simpa using oJ
end Go.En
namespace Go.Proofs.YtjicdgejhkgpgaaGreatDoor
open Go.RowKit Go.En Go.Pv
theorem note_up {d:Dc} (h:LightD d) {n q:Note} (hn:n∈d.notes) (hq:q∈d.notes) (e:q.id=n.parent):q.tier<n.tier:=by
  obtain⟨k,hk,hkl⟩:=B1m h hn
  rcases B9q h hn hk with hg|⟨p,j,hg,hp,hid,hj,hlt⟩
  · rw [← e,A2x (J9 h) hq] at hg;cases hg
  · have:p=q:=Y7 (J9 h) hp hq (hid.trans e.symm)
    subst this
    omega
structure Sub (d:Dc) (n0:Note) (i:Nat) (c:Int) (J:List Note) (out:List Int):Prop where
  nd:out.Nodup
  hd:out[0]?=some n0.id
  hi:i≤out.length
  low:∀ x∈out,∃ n∈d.notes,n.id=x∧n0.tier≤n.tier
  from_:∀ x∈out,x≠n0.id→∃ n∈d.notes,n.id=x∧(n.parent∈out.take i∨(n.parent=c∧n∈J))
theorem Sub.len {d:Dc} {n0:Note} {i:Nat} {c:Int} {J:List Note} {out:List Int} (h:Sub d n0 i c J out):out.length≤d.notes.length:=by
  have:=C4y (b:=d.notes.map (·.id)) h.nd fun x hx=>by
    obtain⟨n,hn,e,_⟩:=h.low x hx
    exact List.mem_map.2 ⟨n,hn,e⟩
  rwa [List.length_map] at this
theorem Sub.one {d:Dc} {n0:Note} (h0:n0∈d.notes) {c:Int}:Sub d n0 0 c [] [n0.id] where
  nd:=by simp
  hd:=rfl
  hi:=by simp
  low x hx:=by rw [List.mem_singleton] at hx;subst hx;exact⟨n0,h0,rfl,Int.le_refl _⟩
  from_ x hx hne:=absurd (List.mem_singleton.1 hx) hne
theorem Sub.re {d:Dc} {n0:Note} {i:Nat} {c c':Int} {out:List Int} (h:Sub d n0 i c [] out):Sub d n0 i c' [] out:=
  ⟨h.nd,h.hd,h.hi,h.low,fun x hx hne=>by
    obtain⟨n,hn,e,h1|h1⟩:=h.from_ x hx hne
    · exact⟨n,hn,e,.inl h1⟩
    · exact absurd h1.2 (by simp)⟩
theorem Sub.skip {d:Dc} {n0 n:Note} {i j:Nat} {c:Int} {out:List Int} (h:Sub d n0 i c (d.notes.take j) out) (hj:d.notes[j]?=some n):Sub d n0 i c (d.notes.take (j+1)) out:=
  ⟨h.nd,h.hd,h.hi,h.low,fun x hx hne=>by
    obtain⟨m,hm,e,h1|⟨h1,h2⟩⟩:=h.from_ x hx hne
    · exact⟨m,hm,e,.inl h1⟩
    · exact⟨m,hm,e,.inr ⟨h1,by rw [List.take_add_one];exact List.mem_append_left _ h2⟩⟩⟩
theorem Sub.add {d : Dc} (hL : LightD d) {n0 n : Note} {i j : Nat} {c : Int} {out : List Int} (h : Sub d n0 i c (d.notes.take j) out) (h0 : n0 ∈ d.notes) (hc : out[i]? = some c) (hj : d.notes[j]? = some n) (hp : n.parent = c) : Sub d n0 i c (d.notes.take (j + 1)) (out ++ [n.id]) := by
  have hn:=List.mem_of_getElem? hj
  have hil:=(List.getElem?_eq_some_iff.1 hc).1
  have hcm:c∈out:=List.mem_of_getElem? hc
  obtain⟨q,hq,hqe,hqt⟩:=h.low c hcm
  have hqn:=note_up hL hn hq (hqe.trans hp.symm)
  have hnot:n.id∉out:=fun hin=>by
    by_cases e0:n.id=n0.id
    · have:=Y7 (J9 hL) hn h0 e0
      subst this
      omega
    · obtain⟨m,hm,e,h1|⟨h1,h2⟩⟩:=h.from_ n.id hin e0
      · have:=Y7 (J9 hL) hm hn e
        subst this
        rw [hp] at h1
        obtain⟨k,hk⟩:=List.getElem?_of_mem h1
        have hki:k<i:=by
          have:=(List.getElem?_eq_some_iff.1 hk).1
          rw [List.length_take] at this;omega
        rw [List.getElem?_take_of_lt hki] at hk
        have hkl:k<out.length:=by omega
        have:=(List.getElem?_inj hkl h.nd).1 (hk.trans hc.symm)
        omega
      · have:=Y7 (J9 hL) hm hn e
        subst this
        obtain⟨k,hk⟩:=List.getElem?_of_mem h2
        have hkj:k<j:=by
          have:=(List.getElem?_eq_some_iff.1 hk).1
          rw [List.length_take] at this;omega
        rw [List.getElem?_take_of_lt hkj] at hk
        have hkl:=(List.getElem?_eq_some_iff.1 hk).1
        have:=(List.getElem?_inj hkl (T7 hL)).1 (hk.trans hj.symm)
        omega
  refine⟨?_,?_,by rw [List.length_append];have:=h.hi;omega,?_,?_⟩
  · rw [List.nodup_append]
    refine⟨h.nd,by simp,fun a ha b hb e=>hnot ?_⟩
    rw [List.mem_singleton] at hb
    rw [← hb,← e];exact ha
  · rw [List.getElem?_append_left (by omega)];exact h.hd
  · intro x hx
    rcases List.mem_append.1 hx with hx|hx
    · exact h.low x hx
    · rw [List.mem_singleton] at hx
      exact⟨n,hn,hx.symm,by omega⟩
  · intro x hx hne
    rw [List.take_append_of_le_length (by omega)]
    rcases List.mem_append.1 hx with hx|hx
    · obtain⟨m,hm,e,h1|⟨h1,h2⟩⟩:=h.from_ x hx hne
      · exact⟨m,hm,e,.inl h1⟩
      · exact⟨m,hm,e,.inr ⟨h1,by rw [List.take_add_one];exact List.mem_append_left _ h2⟩⟩
    · rw [List.mem_singleton] at hx
      exact⟨n,hn,hx.symm,.inr ⟨hp,by rw [List.take_add_one,hj];simp⟩⟩
theorem Sub.next {d:Dc} {n0:Note} {i:Nat} {c c':Int} {out:List Int} (h:Sub d n0 i c d.notes out) (hc:out[i]?=some c):Sub d n0 (i+1) c' [] out:=by
  have hil:=(List.getElem?_eq_some_iff.1 hc).1
  refine⟨h.nd,h.hd,by omega,h.low,fun x hx hne=>?_⟩
  obtain⟨n,hn,e,h1|⟨h1,_⟩⟩:=h.from_ x hx hne
  · exact⟨n,hn,e,.inl (by rw [List.take_add_one];exact List.mem_append_left _ h1)⟩
  · exact⟨n,hn,e,.inl (by rw [List.take_add_one,hc,h1];simp)⟩
attribute [local irreducible] E EL K Val Enters Rt Calls bodyPost Code.wp RQ
theorem A6x (d:Dc) (v:Value) (k:Int) (w:World) (hv:DcAt w v d):Calls Tryz.prog 78 #[v,int k] w (Rt fun u w'=>(∃ z,u=int z)∧Ext w w'):=by
  obtain⟨sv,tv,nv,rfl,hs,ht,hn⟩:=hv
  obtain⟨sa,sc,rfl,_,_,_⟩:=hs.sl
  have ht0:=ht
  obtain⟨ta,tc,rfl,_,_,htp⟩:=ht.sl
  obtain⟨na,nc,rfl,_,_,_⟩:=hn.sl
  refine A6 (n:=20) (args:=[.agg #[int d.rid,str d.rname,int d.len,int d.day,.slice sa d.sp.length sc,.slice ta d.tiers.length tc,.slice na d.notes.length nc],int k]) Tryz.func78 rfl Tryz.ntmps78 (by simp) ?_
  refine B4 ?_
  refine A9 ?_
  refine C2 Z Z Z Z (fun bB wB xB hbB rB=>?_)
  have hX:=xB
  by_cases hk:0≤k∧k<d.tiers.length
  · obtain⟨i,rfl⟩:∃ i:Nat,k=(i:Int):=⟨k.toNat,by omega⟩
    obtain⟨b,off,rfl⟩:=htp (by omega)
    obtain⟨t,ht1⟩:∃ t,d.tiers[i]?=some t:=⟨_,List.getElem?_eq_getElem (by omega)⟩
    have hat:=K0 (ht0.ext xB) ht1
    (repeat' (first|refine eV Z Z (A0 (m:=i) Z Z Z (by first|rfl|omega) (by omega)) ?_|refine Ly ?_|refine Dy (fun hh=>?_) fun hh=>?_))
    all_goals (try (exfalso;omega))
    all_goals exact A4 Z Z ⟨⟨_,rfl⟩,hX⟩
  · (repeat' (first|refine Ly ?_|refine Dy (fun hh=>?_) fun hh=>?_))
    all_goals (try (exfalso;omega))
    all_goals exact A4 Z Z ⟨⟨_,rfl⟩,hX⟩
def tkF (ts:List Tier) (i:Int) (n:Nat):List Int:=((List.range n).filter fun k=>match ts[k]? with|some t=>decide (t.parent=i)|none=>false).map fun k:Nat=>Int.ofNat k
theorem C3u {ts:List Tier} {i:Int} {n:Nat} {t:Tier} (h:ts[n]?=some t):tkF ts i (n+1)=tkF ts i n++if t.parent=i then [(n:Int)] else []:=by
  unfold tkF
  rw [List.range_succ,List.filter_append,List.map_append]
  congr 1
  by_cases hp:t.parent=i <;> simp [h,hp]
theorem tkF_mem {ts:List Tier} {i:Int} {n:Nat} {k:Int} (h:k∈tkF ts i n):∃(j:Nat) (t:Tier),k=(j:Int)∧ts[j]?=some t∧t.parent=i:=by
  unfold tkF at h
  obtain⟨j,hj,rfl⟩:=List.mem_map.1 h
  have:=(List.mem_filter.1 hj).2
  cases ht:ts[j]? with
  | none=>rw [ht] at this;cases this
  | some t=>rw [ht] at this;exact⟨j,t,rfl,ht,of_decide_eq_true this⟩
theorem B9o (ts:List Tier) (i:Int) (n:Nat):(tkF ts i n).length≤n:=by
  unfold tkF
  rw [List.length_map]
  exact Nat.le_trans (List.length_filter_le _ _) (by simp)
theorem B0u (ts : List Tier) (v : Value) (k : Int) (w : World) (hv : Sl w v ts) (hl : ts.length ≤ 1000) : Calls Tryz.prog 114 #[v, int k] w (Rt fun u w' => SlG (fun b => w.heap.size ≤ b) w' u (if 0 ≤ k ∧ k < ts.length then tkF ts k ts.length else []) ∧ Ext w w') := by
  have hv0:=hv
  obtain⟨a,c,rfl,_,hm,hpp⟩:=hv.sl
  refine A6 (n:=34) (args:=[.slice a ts.length c,int k]) Tryz.func114 rfl Tryz.ntmps114 (by simp) ?_
  have hX:=Ext.refl w
  by_cases hk:0≤k∧k<ts.length
  · (repeat' (first|refine Sy ?_|refine Dy (fun hh=>?_) fun hh=>?_))
    all_goals (try (exfalso;omega))
    refine B0 (ι:=Nat × Value) (fun z=>[(1,int k),(5,z.2),(17,.slice a ts.length c),(18,int ts.length),(19,int z.1)])
      (fun z wr=>z.1≤ts.length∧Grow (fun b=>w.heap.size≤b) w 3 (tkF ts k z.1) z.2 wr) (fun z=>ts.length-z.1) (0,.slice none 0 0)
      ⟨rfl,rfl,rfl,rfl,rfl,trivial⟩ ⟨Nat.zero_le _,(by have h0:tkF ts k 0=[]:=rfl;dsimp only;rw [h0];exact Grow.none)⟩ ?_
    rintro⟨i,ov⟩ wr ⟨hi,hgr⟩
    dsimp only at hi hgr ⊢
    have hvr:=hv0.ext hgr.x
    have hfl:=B9o ts k i
    by_cases hlt:i<ts.length
    · obtain⟨b,off,rfl⟩:=hpp (by omega)
      obtain⟨t,hti⟩:∃ t,ts[i]?=some t:=⟨_,List.getElem?_eq_getElem hlt⟩
      have hst:=C3u (i:=k) hti
      have hat:=K0 hvr hti
      by_cases hp:t.parent=k
      · rw [if_pos hp] at hst
        (repeat' (first|refine eV Z Z (A0 (m:=i) Z Z Z (by first|rfl|omega) (by omega)) ?_|(refine K5 Z Z Z Z Z Z Z Z Z Z Z Z Z Z Z (fun bT wT xT hbT rT=>?_);replace hgr:=hgr.ext xT)|(refine M1 (x:=(i:Int)) (hgr.ext xS) rS rfl rfl rfl rfl rfl rfl rfl rfl (by omega) (by omega) (fun vK wK hK=>?_))|refine Ly ?_|refine Dy (fun hh=>?_) fun hh=>?_|refine eL Z Z Z Z Z Z Z Z (fun bS wS xS hbS rS=>?_)))
        all_goals (try (exfalso;omega))
        exact B3 (i+1,vK) ⟨rfl,rfl,rfl,rfl,rfl,trivial⟩ ⟨by dsimp only;omega,by dsimp only;rw [hst];exact hK⟩ (by dsimp only;omega)
      · rw [if_neg hp,List.append_nil] at hst
        (repeat' (first|refine eV Z Z (A0 (m:=i) Z Z Z (by first|rfl|omega) (by omega)) ?_|(refine K5 Z Z Z Z Z Z Z Z Z Z Z Z Z Z Z (fun bT wT xT hbT rT=>?_);replace hgr:=hgr.ext xT)|refine Ly ?_|refine Dy (fun hh=>?_) fun hh=>?_|refine eL Z Z Z Z Z Z Z Z (fun bS wS xS hbS rS=>?_)))
        all_goals (try (exfalso;omega))
        exact B3 (i+1,ov) ⟨rfl,rfl,rfl,rfl,rfl,trivial⟩ ⟨by dsimp only;omega,by dsimp only;rw [hst];exact hgr⟩ (by dsimp only;omega)
    · obtain rfl:i=ts.length:=by omega
      (repeat' (first|refine Sy ?_|refine Dy (fun hh=>?_) fun hh=>?_))
      all_goals (try (exfalso;omega))
      exact A4 Z Z ⟨by rw [if_pos hk];exact hgr.sl (fun _ h=>h) (by omega),hgr.x⟩
  · (repeat' (first|refine Sy ?_|refine Dy (fun hh=>?_) fun hh=>?_))
    all_goals (try (exfalso;omega))
    all_goals exact A4 Z Z ⟨by rw [if_neg hk];exact⟨none,0,rfl,Nat.le_refl _,by simp,fun h=>absurd h (by simp)⟩,hX⟩
end Go.Proofs.YtjicdgejhkgpgaaGreatDoor
