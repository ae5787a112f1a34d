/-
  Own text of the proof.
-/
import Derived.Test.YtjicdgejhkgpgaaGreatDoorUd
import Derived.Test.YtjicdgejhkgpgaaGreatDoorY4
import Derived.Test.YtjicdgejhkgpgaaGreatDoorYz
import Derived.Test.YtjicdgejhkgpgaaGreatDoorYw
import Derived.Test.YtjicdgejhkgpgaaGreatDoorUc
import Derived.Test.YtjicdgejhkgpgaaGreatDoorYh
set_option linter.all false
set_option maxHeartbeats 4000000
set_option maxRecDepth 8000
namespace Go.Proofs.YtjicdgejhkgpgaaGreatDoor
open Go.RowKit Go.En
def cstep (acc:List Int) (x:Int):List Int:=if acc.getLast?=some x then acc else acc++[x]
def Bo (l:List Int):List Int:=l.foldl cstep []
theorem I8 (l:List Int) (x:Int):Bo (l++[x])=cstep (Bo l) x:=by unfold Bo;rw [List.foldl_append];rfl
theorem cstep_last (acc:List Int) (x:Int):(cstep acc x).getLast?=some x:=by
  unfold cstep
  by_cases h:acc.getLast?=some x
  · rw [if_pos h];exact h
  · rw [if_neg h];simp
theorem compG_last {l:List Int} {i:Nat} {x:Int} (hx:l[i]?=some x):(Bo (l.take (i+1))).getLast?=some x:=by
  obtain⟨hi,rfl⟩:=List.getElem?_eq_some_iff.1 hx
  rw [List.take_succ_eq_append_getElem hi,I8,cstep_last]
theorem Py {l:List Int} {i:Nat} {x y:Int} (hx:l[i]?=some x) (hy:l[i+1]?=some y):Bo (l.take (i+2))=if x=y then Bo (l.take (i+1)) else Bo (l.take (i+1))++[y]:=by
  obtain⟨hi,rfl⟩:=List.getElem?_eq_some_iff.1 hy
  rw [List.take_succ_eq_append_getElem hi,I8]
  unfold cstep
  rw [compG_last hx]
  simp
theorem Lw (l:List Int):(Bo l).length≤l.length:=by
  rw [← List.reverse_reverse l]
  induction l.reverse with
  | nil=>simp [Bo]
  | cons a t ih=>
    rw [List.reverse_cons,I8]
    unfold cstep
    split
    · simp at ih ⊢;omega
    · simp at ih ⊢;omega
theorem compG_one {l:List Int} {x:Int} (hx:l[0]?=some x):Bo (l.take 1)=[x]:=by
  cases l with
  | nil=>simp at hx
  | cons a t=>simp at hx;subst hx;rfl
theorem compG_small {l:List Int} (h:l.length<2):Bo l=l:=by
  match l,h with
  | [],_=>rfl
  | [a],_=>rfl
theorem compG_rise : ∀ l : List Int, l.Pairwise (· ≤ ·) → Rise (Bo l) ∧ (∀ x, x ∈ Bo l ↔ x ∈ l) := by
  have key:∀ r:List Int,r.reverse.Pairwise (·≤·)→Rise (Bo r.reverse)∧(∀ x,x∈Bo r.reverse↔x∈r.reverse):=by
    intro r
    induction r with
    | nil=>intro _;exact⟨by simp [Bo,Rise],by simp [Bo]⟩
    | cons a t ih=>
      intro h
      rw [List.reverse_cons] at h ⊢
      obtain⟨h1,_,h3⟩:=List.pairwise_append.1 h
      obtain⟨q1,q2⟩:=ih h1
      have hle:∀ x∈Bo t.reverse,x≤a:=fun x hx=>h3 x ((q2 x).1 hx) a (by simp)
      rw [I8]
      unfold cstep
      by_cases hl:(Bo t.reverse).getLast?=some a
      · rw [if_pos hl]
        refine⟨q1,fun x=>?_⟩
        rw [List.mem_append,List.mem_singleton,← q2 x]
        exact⟨.inl,fun hx=>by
          rcases hx with hx|rfl
          · exact hx
          · exact List.mem_of_getLast? hl⟩
      · rw [if_neg hl]
        have hlt:∀ x∈Bo t.reverse,x<a:=fun x hx=>by
          have h5:=hle x hx
          by_cases e:x=a
          · subst e
            exfalso
            apply hl
            obtain⟨s,r,hs⟩:=List.append_of_mem hx
            have hr:r=[]:=by
              cases r with
              | nil=>rfl
              | cons b r=>
                have h6:b∈Bo t.reverse:=by rw [hs];simp
                have h7:=hle b h6
                rw [hs] at q1
                have:=(List.pairwise_cons.1 (List.pairwise_append.1 q1).2.1).1 b (by simp)
                omega
            rw [hs,hr];simp
          · omega
        refine⟨List.pairwise_append.2 ⟨q1,by simp,fun x hx y hy=>by rw [List.mem_singleton] at hy;subst hy;exact hlt x hx⟩,fun x=>?_⟩
        rw [List.mem_append,List.mem_append,q2 x]
  intro l h
  have:=key l.reverse (by rwa [List.reverse_reverse])
  rwa [List.reverse_reverse] at this
theorem Pz (l:List Int):Bo (l.mergeSort (fun x y=>decide (x≤y)))=D0 l:=by
  have hs:=List.pairwise_mergeSort (le:=fun x y:Int=>decide (x≤y)) (fun a b c h1 h2=>by simp at h1 h2 ⊢;omega) (fun a b=>by simp;omega) l
  obtain⟨h1,h2⟩:=compG_rise _ (hs.imp fun {a b} hab=>by simpa using hab)
  exact rise_ext h1 (Ik l).1 fun x=>(h2 x).trans (((List.mergeSort_perm l _).mem_iff).trans ((Ik l).2 x).symm)
theorem rowI {w:World} {b:Nat} {e:TypeId} {cs:List Value} (h:Row w b e cs) {i:Nat} {v:Value} (hv:cs[i]?=some v):w.cell? ⟨b,0+i*1,none⟩=some v:=by rw [Nat.zero_add,Nat.mul_one];exact h.cellAt hv
theorem rowO {w:World} {b:Nat} {e:TypeId} {cs:List Value} (h:Row w b e cs) {k i:Nat} {v:Value} (hv:cs[k+i]?=some v):w.cell? ⟨b,k+i*1,none⟩=some v:=by rw [Nat.mul_one];exact h.cellAt hv
theorem L4 {P:Program} {L:List (Nat × Value)} {w:World} {o:Oper} {t e:TypeId} {x p:Operand} {b len cap k:Nat} {kl:IntKind} {za:Int} {zv:Value} {bytes:Nat} [UT P t (.slice e)] [TI P e zv 1 bytes] (ho:o.op=.slice t x (some p) none none) (hx:ev L x=some (.slice (some ⟨b,0,none⟩) len cap))
    (hlo:ev L p=some (.int kl za)) (hza:za=(k:Int)) (hk:k≤len) (hc:k<cap):Val P L w o (.slice (some ⟨b,k,none⟩) (len-k) (cap-k)):=by
  have:=Cb (P:=P) (L:=L) (w:=w) ho hx hlo hza hk
  rw [if_neg (by omega)] at this
  simpa [B7] using this
attribute [local irreducible] E EL K Val Enters Rt Calls bodyPost Code.wp RQ
theorem compact_own (l : List Int) (v : Value) (B : Nat) (w : World) (h : w.ownsRow B 3 1 v l.length (l.map int)) (hlen : l.length ≤ 1099511627776) : Calls Tryz.prog 102 #[v] w (Rt fun u w' => w'.ownsRow B 3 1 u (Bo l).length ((Bo l).map int) ∧ Kb v.ownBlock w w' ∧ u.ownBlock = v.ownBlock) := by
  by_cases h2:l.length<2
  · obtain⟨a,cap,rfl⟩:∃ a cap,v=.slice a l.length cap:=by
      rcases h.2 with⟨rfl,h0⟩|⟨g,cap,cur,rfl,_⟩
      · exact⟨none,0,by rw [h0]⟩
      · exact⟨_,_,rfl⟩
    refine A7 (n:=61) (args:=[.slice a l.length cap]) Tryz.func102 rfl Tryz.ntmps102 (by simp) ?_
    (repeat' ((fail_if_success (refine Ac (x:=(Code.block 0 _)) ?_));first|refine Sy ?_|refine Dy (fun hh=>?_) fun hh=>?_))
    all_goals (first|(exfalso;omega)|skip)
    all_goals exact A5 Z Z ⟨by rw [compG_small h2];exact h,Kb.refl _ _,rfl⟩
  · rcases h.2 with⟨rfl,h0⟩|⟨g,cap,cur,rfl,hb,hg,h1,hcm,h3,h4⟩
    · exact absurd h0 (by omega)
    obtain⟨C,hC⟩:∃ C,C=cur.toList:=⟨_,rfl⟩
    have hR:Row w g 3 C:=by rw [hC];exact hg
    have hCl:C.length=cap:=by rw [hC,Array.length_toList,h3,Nat.mul_one]
    have hCt:C.take l.length=l.map int:=by rw [hC,← h4,Nat.mul_one]
    have hCi:∀ {i:Nat} {x:Int},l[i]?=some x→C[i]?=some (int x):=fun {i x} hx=>by
      have hi:=(List.getElem?_eq_some_iff.1 hx).1
      have:(C.take l.length)[i]?=some (int x):=by rw [hCt,List.getElem?_map,hx];rfl
      rwa [List.getElem?_take_of_lt hi] at this
    refine A7 (n:=61) (args:=[.slice (some ⟨g,0,none⟩) l.length cap]) Tryz.func102 rfl Tryz.ntmps102 (by simp) ?_
    (repeat' ((fail_if_success (refine Ac (x:=(Code.block 0 _)) ?_));first|refine Sy ?_|refine Dy (fun hh=>?_) fun hh=>?_))
    all_goals (first|(exfalso;omega)|skip)
    refine Ae (ι:=Nat) (fun i=>[(0,.slice (some ⟨g,0,none⟩) l.length cap),(3,int i)])
      (fun i wr=>1≤i∧i≤l.length∧Ext w wr∧Bo (l.take i)=l.take i) (fun i=>l.length-i) 1
      ⟨rfl,rfl,trivial⟩ ⟨Nat.le_refl _,by omega,Ext.refl _,by
        obtain⟨x,hx⟩:∃ x,l[0]?=some x:=⟨_,List.getElem?_eq_getElem (by omega)⟩
        rw [compG_one hx]
        cases l with
        | nil=>simp at hx
        | cons a t=>simp at hx;subst hx;rfl⟩ ?_
    rintro i wr ⟨hi1,hi,hx,hcomp⟩
    by_cases hlt:i<l.length
    · obtain ⟨x, hxl⟩ : ∃ x, l[i - 1]? = some x := ⟨_, List.getElem?_eq_getElem (by omega)⟩
      obtain⟨y,hyl⟩:∃ y,l[i]?=some y:=⟨_,List.getElem?_eq_getElem hlt⟩
      have hRr:=hR.ext hx
      have cx:=rowI hRr (hCi hxl)
      have cy:=rowI hRr (hCi hyl)
      have hstep:Bo (l.take (i+1))=if x=y then Bo (l.take i) else Bo (l.take i)++[y]:=by
        have:=Py (l:=l) (i:=i-1) (x:=x) (y:=y) hxl (by rw [show i-1+1=i by omega];exact hyl)
        rwa [show i-1+2=i+1 by omega,show i-1+1=i by omega] at this
      by_cases hxy:y=x
      · have hdec:decide (y=x)=true:=decide_eq_true hxy
        (repeat' (first|refine yV Z Z (fun _ _ _=>A0 (m:=i) Z Z Z Z (by omega)) ?_|refine yV Z Z (fun _ _ _=>A0 (m:=i-1) Z Z Z (by omega) (by omega)) ?_|refine yV Z Z (fun wq _ xq=>A6 Z Z Z (xq.cell cx)) ?_|refine yV Z Z (fun wq _ xq=>A6 Z Z Z (xq.cell cy)) ?_|refine yV (v:=.bool true) Z Z (fun _ _ _=>by rw [← hdec];exact zM Z Z Z) ?_|refine eV Z Z (L4 (k:=i) Z Z Z Z (by omega) (by omega)) ?_|refine Sy ?_|refine Dy (fun hh=>?_) fun hh=>?_|refine yqZ ?_|refine E_dq Aa (by kernel_rfl) Z ?_|refine yN Z (fun wq xq=>?_)))
        all_goals (first|(exfalso;omega)|skip)
        have hxq:=hx.trans xq
        have hRq:=hR.ext hxq
        refine Ae (ι:=Nat × Nat × List Value) (fun s=>[(0,.slice (some ⟨g,0,none⟩) l.length cap),(3,int s.2.1),(4,.slice (some ⟨g,i,none⟩) (l.length-i) (cap-i)),(5,int s.1)])
          (fun s ww=>1≤s.1∧i+s.1≤l.length∧s.2.1=(Bo (l.take (i+s.1))).length∧i≤s.2.1∧s.2.1<i+s.1∧s.2.2.length=cap∧Row ww g 3 s.2.2∧Kb (some g) w ww∧s.2.2.take s.2.1=(Bo (l.take (i+s.1))).map int∧∀ j z,i+s.1≤j+1→l[j]?=some z→s.2.2[j]?=some (int z)) (fun s=>l.length-(i+s.1)) (1,i,C)
          ⟨rfl,rfl,rfl,rfl,trivial⟩ ⟨Nat.le_refl _,by omega,by
            show i=(Bo (l.take (i+1))).length
            rw [hstep,if_pos hxy.symm,hcomp,List.length_take];omega,Nat.le_refl _,by show i<i+1;omega,hCl,hRq,hxq.kb _,by
            show C.take i=(Bo (l.take (i+1))).map int
            rw [hstep,if_pos hxy.symm,hcomp,List.map_take,← hCt,List.take_take,Nat.min_eq_left hi],fun j z _ hz=>hCi hz⟩ ?_
        rintro⟨k2,k,D⟩ ww ⟨hk1,hkl,hkk,hik,hki,hDl,hRD,hKb,hpre,hrest⟩
        dsimp only at hk1 hkl hkk hik hki hDl hRD hKb hpre hrest ⊢
        by_cases hlt2:i+k2<l.length
        · obtain⟨p,hpl⟩:∃ p,l[i+(k2-1)]?=some p:=⟨_,List.getElem?_eq_getElem (by omega)⟩
          obtain⟨q,hql⟩:∃ q,l[i+k2]?=some q:=⟨_,List.getElem?_eq_getElem hlt2⟩
          have cp:=rowO hRD (k:=i) (i:=k2-1) (hrest _ _ (by omega) hpl)
          have cq:=rowO hRD (k:=i) (i:=k2) (hrest _ _ (by omega) hql)
          have hst2:Bo (l.take (i+k2+1))=if p=q then Bo (l.take (i+k2)) else Bo (l.take (i+k2))++[q]:=by
            have:=Py (l:=l) (i:=i+(k2-1)) (x:=p) (y:=q) hpl (by rw [show i+(k2-1)+1=i+k2 by omega];exact hql)
            rwa [show i+(k2-1)+2=i+k2+1 by omega,show i+(k2-1)+1=i+k2 by omega] at this
          by_cases hpq:q=p
          · have hdec2:decide (q≠p)=false:=decide_eq_false (fun e=>e hpq)
            (repeat' (first|refine yV Z Z (fun _ _ _=>A0 (m:=k2) Z Z Z Z (by omega)) ?_|refine yV Z Z (fun _ _ _=>A0 (m:=k2-1) Z Z Z (by omega) (by omega)) ?_|refine yV Z Z (fun wq _ xq=>A6 Z Z Z (xq.cell cp)) ?_|refine yV Z Z (fun wq _ xq=>A6 Z Z Z (xq.cell cq)) ?_|refine yV (v:=.bool false) Z Z (fun _ _ _=>by rw [← hdec2];exact zQ Z Z Z) ?_|refine Sy ?_|refine Dy (fun hh=>?_) fun hh=>?_|refine yqZ ?_|refine E_dq Aa (by kernel_rfl) Z ?_|refine yN Z (fun wq xq=>?_)))
            all_goals (first|(exfalso;omega)|skip)
            refine Ad (k2+1,k,D) ⟨rfl,rfl,rfl,rfl,trivial⟩ ⟨by dsimp only;omega,by dsimp only;omega,?_,hik,by dsimp only;omega,hDl,hRD.ext xq,hKb.trans (xq.kb _),?_,fun j z hj hz=>hrest j z (by dsimp only at hj;omega) hz⟩ (by dsimp only;omega)
            · dsimp only
              rw [← Nat.add_assoc,hst2,if_pos hpq.symm];exact hkk
            · dsimp only
              rw [← Nat.add_assoc,hst2,if_pos hpq.symm];exact hpre
          · have hdec2:decide (q≠p)=true:=decide_eq_true hpq
            have hgq:∀ w2,Row w2 g 3 D→w2.cell? ⟨g,i+k2*1,none⟩=some (int q):=fun w2 h2=>rowO h2 (k:=i) (i:=k2) (hrest _ _ (by omega) hql)
            (repeat' (first|refine yV Z Z (fun _ _ _=>A0 (m:=k2) Z Z Z Z (by omega)) ?_|refine yV Z Z (fun _ _ _=>A0 (m:=k2-1) Z Z Z (by omega) (by omega)) ?_|refine yV Z Z (fun wq _ xq=>A6 Z Z Z (xq.cell cp)) ?_|refine yV Z Z (fun wq _ xq=>A6 Z Z Z (xq.cell cq)) ?_|refine yV (v:=.bool true) Z Z (fun _ _ _=>by rw [← hdec2];exact zQ Z Z Z) ?_|refine eV Z Z (A0 (m:=k2) Z Z Z Z (by omega)) ?_|refine eV Z Z (A0 (m:=k) Z Z Z Z (by omega)) ?_|refine eV Z Z (A6 Z Z Z (hgq _ (hRD.ext (by assumption)))) ?_|refine Sy ?_|refine Dy (fun hh=>?_) fun hh=>?_|refine yqZ ?_|refine E_dq Aa (by kernel_rfl) Z ?_|refine yN Z (fun wq xq=>?_)))
            all_goals (first|(exfalso;omega)|skip)
            have hkD:k<D.length:=by omega
            refine Jh (cs:=D) Z Z Z Z Z Z Z (hRD.ext xq) (by show 0+k*1+1≤D.length;omega) (fun wS rS kS _=>?_)
            have rS':Row wS g 3 (D.take k++[int q]++D.drop (k+1)):=by
              have:=rS
              rw [show 0+k*1=k by omega] at this
              exact this
            (repeat' (first|refine Sy ?_))
            refine Ad (k2+1,k+1,D.take k++[int q]++D.drop (k+1)) ⟨rfl,rfl,rfl,rfl,trivial⟩ ⟨by dsimp only;omega,by dsimp only;omega,?_,by dsimp only;omega,by dsimp only;omega,?_,rS',(hKb.trans (xq.kb _)).trans kS,?_,fun j z hj hz=>?_⟩ (by dsimp only;omega)
            · dsimp only
              rw [← Nat.add_assoc,hst2,if_neg (fun e=>hpq e.symm),List.length_append,← hkk];rfl
            · dsimp only
              simp only [List.length_append,List.length_take,List.length_drop,List.length_singleton];omega
            · dsimp only
              rw [← Nat.add_assoc,hst2,if_neg (fun e=>hpq e.symm),List.map_append,← hpre,List.take_append_of_le_length (by simp;omega),List.take_of_length_le (by simp;omega)];rfl
            · dsimp only at hj ⊢
              rw [List.getElem?_append_right (by simp;omega),List.getElem?_drop]
              have:k+1+(j-(D.take k++[int q]).length)=j:=by simp only [List.length_append,List.length_take,List.length_singleton];omega
              rw [this]
              exact hrest j z (by omega) hz
        · have hk2e:i+k2=l.length:=by omega
          rw [hk2e,List.take_length] at hkk hpre
          have hkl2:=Lw l
          (repeat' (first|refine eV Z Z (L4 (k:=k) Z Z Z Z (by omega) (by omega)) ?_|refine eV Z Z (Ms (b:=k) Z Z Z Z (by omega)) ?_|refine EL_clear (m:=l.length-k) hRD rfl rfl rfl rfl rfl rfl (by omega) (fun wC rC kC=>?_)|refine Sy ?_|refine Dy (fun hh=>?_) fun hh=>?_))
          all_goals (first|(exfalso;omega)|skip)
          refine A5 Z Z ⟨⟨by simp,.inr ⟨g,cap,(D.take k++List.replicate (l.length-k) (int 0)++D.drop (k+(l.length-k))).toArray,by rw [hkk],hb,rC,by omega,hcm,?_,?_⟩⟩,hKb.trans kC,rfl⟩
          · simp only [List.size_toArray,List.length_append,List.length_take,List.length_drop,List.length_replicate];omega
          · rw [Nat.mul_one,← hkk,← hpre,List.append_assoc,List.take_append_of_le_length (by simp;omega),List.take_of_length_le (by rw [List.length_take];omega)]
      · have hdec:decide (y=x)=false:=decide_eq_false hxy
        (repeat' (first|refine yV Z Z (fun _ _ _=>A0 (m:=i) Z Z Z Z (by omega)) ?_|refine yV Z Z (fun _ _ _=>A0 (m:=i-1) Z Z Z (by omega) (by omega)) ?_|refine yV Z Z (fun wq _ xq=>A6 Z Z Z (xq.cell cx)) ?_|refine yV Z Z (fun wq _ xq=>A6 Z Z Z (xq.cell cy)) ?_|refine yV (v:=.bool false) Z Z (fun _ _ _=>by rw [← hdec];exact zM Z Z Z) ?_|refine Sy ?_|refine Dy (fun hh=>?_) fun hh=>?_|refine yqZ ?_|refine E_dq Aa (by kernel_rfl) Z ?_|refine yN Z (fun wq xq=>?_)))
        all_goals (first|(exfalso;omega)|skip)
        refine Ad (i+1) ⟨rfl,rfl,trivial⟩ ⟨by omega,by omega,hx.trans xq,?_⟩ (by omega)
        rw [hstep,if_neg (fun e=>hxy e.symm),hcomp]
        obtain⟨hi,rfl⟩:=List.getElem?_eq_some_iff.1 hyl
        exact(List.take_succ_eq_append_getElem hi).symm
    · obtain rfl:i=l.length:=by omega
      rw [List.take_length] at hcomp
      (repeat' (first|refine Sy ?_|refine Dy (fun hh=>?_) fun hh=>?_))
      all_goals (first|(exfalso;omega)|skip)
      exact A5 Z Z ⟨by rw [hcomp];exact Ak h hx,hx.kb _,rfl⟩
def Nw (w:World):Nat→Prop:=fun b=>w.heap.size≤b
theorem own_Nw {w w':World} {v:Value} {l:List Int} (h:w'.ownsRow w.heap.size 3 1 v l.length (l.map int)) (hl:l.length≤140737488355328):SlG (Nw w) w' v l:=
  C5 (css:=l.map fun z=>[int z]) (by rw [Av];exact h) (B4 _ _) (fun _ hb=>hb) rfl hl
theorem sortedN_any (l:List Int) (v:Value) (w:World) (hv:Sl w v l) (hl:l.length≤1000000):Calls Tryz.prog 66 #[v] w (Rt fun u w'=>Ext w w'∧SlG (Nw w) w' u (D0 l)):=by
  have hv0:=hv
  obtain⟨a,cap,rfl,hc,hm,hp⟩:=hv.sl
  refine A7 (n:=7) (args:=[.slice a l.length cap]) Tryz.func66 rfl Tryz.ntmps66 (by simp) ?_
  have c1:=values_any a l.length cap w
  (repeat' (first|(refine A9 Z Z (A3 Z Z en104) c1 (fun vC wC hC=>?_);obtain⟨b,rfl,rB,xC⟩:=hC)|refine Sy ?_))
  have c2:=sorted54_any l _ b wC rB (hv0.ext xC) (by omega)
  have hsl:(l.mergeSort (fun x y=>decide (x≤y))).length=l.length:=by simp
  (repeat' (first|(refine A9 Z Z (A3 Z Z en103) c2 (fun vD wD hD=>?_);obtain⟨xD,oD⟩:=hD)))
  rw [← hsl] at oD
  have c3:=compact_own _ vD wC.heap.size wD oD (by omega)
  rw [Pz] at c3
  (repeat' (first|(refine A9 Z Z (A3 Z Z en102) c3 (fun vE wE hE=>?_);obtain⟨oE,kE,_⟩:=hE)|refine Sy ?_))
  have hle:(D0 l).length≤1000000:=by
    have:=Lw (l.mergeSort (fun x y=>decide (x≤y)))
    rw [Pz] at this
    omega
  exact A5 Z Z ⟨xC.trans (Gd oD xD kE),own_Nw (own_weak oE xC.size) (by omega)⟩
end Go.Proofs.YtjicdgejhkgpgaaGreatDoor
namespace Go.En
open Go.RowKit
section
variable {P : Program} {L : List (Nat × Value)} {w : World} {o : Oper}
def EqS (P:Program) (d:Nat) (t:TypeId) (v:Value):Prop:=∀ w,(Op.equalIn d t v v).run P w=.ok true w
theorem eqS_int {d:Nat} {t:TypeId} {k k':IntKind} {a:Int} (h:P.underlying t=some (.int k')):EqS P (d+1) t (.int k a):=fun w=>by
  have:=run_equalIn_int (P:=P) w d t k k' a a h
  simpa using this
def FSS (P:Program) (d:Nat) (cs:Array Value):List (Bool × TypeId × Nat)→Prop
  | []=>True
  | (b,t,o)::r=>b=false∧(∃ v,(∀ w,(part t cs o).run P w=.ok v w)∧EqS P d t v)∧FSS P d cs r
theorem Ih {d:Nat} {cs:Array Value}:∀(fs:List Field) (S:List (Bool × TypeId × Nat)),(fs.map fun f=>(f.name== "_",f.type,f.offset))=S→FSS P d cs S→(Op.eqFields d cs cs fs).run P w=.ok true w
  | [],_,_,_=>by simp [Op.eqFields,go_sem]
  | f::fs,S,h,hS=>by
    rw [List.map_cons] at h
    subst h
    obtain⟨n1,⟨v,hp,he⟩,hr⟩:=hS
    have m1:f.name≠ "_" := by simpa using n1
    have ih:=Ih (d:=d) (cs:=cs) fs _ rfl hr
    simp only [Op.eqFields,m1,ne_eq,not_false_eq_true,if_true,Sem.run_bind]
    rw [hp]
    simp only [Result.andThen_ok]
    rw [hp]
    simp only [Result.andThen_ok]
    rw [he]
    simp only [Result.andThen_ok,Bool.not_true,Bool.false_eq_true,if_false]
    exact ih
structure Shp (P:Program) (t:TypeId) (S:List (Bool × TypeId × Nat)):Prop where
  st:P.underlying t=some (.struct (P.fieldsOf t))
  hp:P.stoodInHeld t=false
  hg:P.eqGuardType P.depth t=false
  hf:((P.fieldsOf t).toList.map fun f=>(f.name== "_",f.type,f.offset))=S
theorem eqS_struct {d:Nat} {t:TypeId} {cs:Array Value} {S:List (Bool × TypeId × Nat)} (h:Shp P t S) (hS:FSS P d cs S):EqS P (d+1) t (.agg cs):=fun w=>by
  rw [run_equalIn_struct w d t _ _ h.st h.hp]
  exact Ih _ _ h.hf hS
theorem part_int {e:TypeId} {xs:Array Value} {off:Nat} {v:Value} (he:P.underlying e=some (.int .i64)) (hx:xs[off]?=some v) (w:World):(part e xs off).run P w=.ok v w:=Dj he hx
theorem Fp {t u:TypeId} {x y:Operand} {c:Array Value} {S:List (Bool × TypeId × Nat)} (h:Shp P t S) (hE:EqS P 10000 t (.agg c)) (ho:o.op=.binOp .eql t x y u) (hx:ev L x=some (.agg c)) (hy:ev L y=some (.agg c)):Val P L w o (.bool true):=fun ρ ha=>by
  have h1:=ha.ev (by rw [ho];simp [Op.operands]) hx
  have h2:=ha.ev (by rw [ho];simp [Op.operands]) hy
  have h3:=run_eqGuard_agg (P:=P) w .eql t x y c c h.hg
  have h4:=run_eql_struct (P:=P) w t c c
  simp only [execOp,ho,h1,h2,Sem.run_bind]
  rw [h3]
  simp only [Result.andThen_ok]
  rw [h4,hE]
  rfl
theorem L5 {t u:TypeId} {x y:Operand} {c:Array Value} {S:List (Bool × TypeId × Nat)} (h:Shp P t S) (hE:EqS P 10000 t (.agg c)) (ho:o.op=.binOp .neq t x y u) (hx:ev L x=some (.agg c)) (hy:ev L y=some (.agg c)):Val P L w o (.bool false):=fun ρ ha=>by
  have h1:=ha.ev (by rw [ho];simp [Op.operands]) hx
  have h2:=ha.ev (by rw [ho];simp [Op.operands]) hy
  have h3:=run_eqGuard_agg (P:=P) w .neq t x y c c h.hg
  have h4:=run_neq_struct (P:=P) w t c c
  simp only [execOp,ho,h1,h2,Sem.run_bind]
  rw [h3]
  simp only [Result.andThen_ok]
  rw [h4,hE]
  rfl
end
end Go.En
namespace Go.Proofs.YtjicdgejhkgpgaaGreatDoor
open Go.RowKit Go.En Go.Pv
attribute [local irreducible] E EL K Val Enters Rt Calls bodyPost Code.wp RQ
theorem uses31_any (l : List Pnt) (hn : l.length ≤ 1000) (id : Int) (v : Value) (w : World) (hv : Sl w v l) : Calls Tryz.prog 31 #[v, int id] w (Rt fun u w' => Sl w' u (D0 (Oa l id)) ∧ Ext w w') := by
  have hv0:=hv
  obtain⟨a,c,rfl,_,hm,hpp⟩:=hv.sl
  refine A7 (n:=35) (args:=[.slice a l.length c,int id]) Tryz.func31 rfl Tryz.ntmps31 (by simp) ?_
  (repeat' (first|refine Sy ?_))
  refine Ae (ι:=Nat × Value) (fun z=>[(1,int id),(5,z.2),(10,.slice a l.length c),(11,int l.length),(12,int z.1)])
    (fun z wr=>z.1≤l.length∧Grow Tt w 3 (((l.take z.1).filter fun p=>p.entries.contains id).map (·.id)) z.2 wr) (fun z=>l.length-z.1) (0,.slice none 0 0)
    ⟨rfl,rfl,rfl,rfl,rfl,trivial⟩ ⟨Nat.zero_le _,Grow.none⟩ ?_
  rintro⟨i,ov⟩ wr ⟨hi,hgr⟩
  dsimp only at hi hgr ⊢
  have hvr:=hv0.ext hgr.x
  by_cases hlt:i<l.length
  · obtain⟨b,off,rfl⟩:=hpp (by omega)
    obtain⟨p,hpi⟩:∃ p,l[i]?=some p:=⟨_,List.getElem?_eq_getElem hlt⟩
    have hft:=Fo (p:=fun p:Pnt=>p.entries.contains id) (f:=(·.id)) hpi
    have hfl:=C0 (p:=fun p:Pnt=>p.entries.contains id) (l:=l) (i:=i)
    have hml:(((l.take i).filter fun p=>p.entries.contains id).map (·.id)).length≤i:=by rw [List.length_map];exact hfl
    obtain⟨a0,c0,a1,c1,hat,_,he,_⟩:=Iv hvr hpi
    obtain⟨_,_,ee,_,_,hep⟩:=he.sl
    cases ee
    (repeat' (first|refine eV Z Z (A0 (m:=i) Z Z Z (by first|rfl|omega) (by omega)) ?_|(refine Am Z Z Z Z Z Z Z Z Z Z (fun bP wP xP hbP rP=>?_);replace hgr:=hgr.ext xP;replace he:=he.ext xP)|refine Ly ?_|refine Dy (fun hh=>?_) fun hh=>?_))
    all_goals (try (exfalso;omega))
    refine Ae (ι:=Nat) (fun k=>[(1,int id),(5,ov),(7,.pointer (some ⟨bP,0,none⟩)),(10,.slice (some ⟨b,off,none⟩) l.length c),(11,int l.length),(12,int i),(17,.slice a0 p.entries.length c0),(18,int p.entries.length),(19,int k)])
      (fun k wk=>k≤p.entries.length∧Ext wP wk∧∀(q:Nat) (x:Int),q<k→p.entries[q]?=some x→x≠id) (fun k=>p.entries.length-k) 0
      ⟨rfl,rfl,rfl,rfl,rfl,rfl,rfl,rfl,rfl,trivial⟩ ⟨Nat.zero_le _,Ext.refl _,fun _ _ h=>absurd h (by omega)⟩ ?_
    rintro k wk ⟨hk,hxk,hall⟩
    replace hgr:=hgr.ext hxk
    replace rP:=rP.ext hxk
    replace he:=he.ext hxk
    by_cases hlk:k<p.entries.length
    · obtain⟨rb,ro,rfl⟩:=hep (by omega)
      obtain⟨x,hxi⟩:∃ x,p.entries[k]?=some x:=⟨_,List.getElem?_eq_getElem hlk⟩
      have hcx:=(Go.Pv.int_elem he hxi).one
      by_cases hid:x=id
      · have hb:p.entries.contains id=true:=by
          rw [List.contains_eq_mem];exact decide_eq_true (hid▸List.mem_of_getElem? hxi)
        rw [hb,if_pos rfl] at hft
        (repeat' (first|refine eV Z Z (A0 (m:=k) Z Z Z (by first|rfl|omega) (by omega)) ?_|(refine Dv (x:=p.id) (hgr.ext xS) rS rfl rfl rfl rfl rfl rfl rfl rfl (by omega) (by omega) (fun vK wK hK=>?_))|refine Ly ?_|refine Dy (fun hh=>?_) fun hh=>?_|refine eL Z Z Z Z Z Z Z Z (fun bS wS xS hbS rS=>?_)))
        all_goals (try (exfalso;omega))
        exact Ad (i+1,vK) ⟨rfl,rfl,rfl,rfl,rfl,trivial⟩ ⟨by dsimp only;omega,by dsimp only;rw [hft];exact hK⟩ (by dsimp only;omega)
      · (repeat' (first|refine eV Z Z (A0 (m:=k) Z Z Z (by first|rfl|omega) (by omega)) ?_|refine Ly ?_|refine Dy (fun hh=>?_) fun hh=>?_|refine eL Z Z Z Z Z Z Z Z (fun bS wS xS hbS rS=>?_)))
        all_goals (try (exfalso;omega))
        refine Ad (k+1) ⟨rfl,rfl,rfl,rfl,rfl,rfl,rfl,rfl,rfl,trivial⟩ ⟨by omega,hxk,fun q y hq hy=>?_⟩ (by omega)
        by_cases e:q=k
        · subst e;rw [hxi] at hy;cases hy;exact hid
        · exact hall q y (by omega) hy
    · have hb:p.entries.contains id=false:=by
        rw [List.contains_eq_mem]
        refine decide_eq_false (fun hm=>?_)
        obtain⟨q,hq⟩:=List.getElem?_of_mem hm
        exact hall q id (by have:=(List.getElem?_eq_some_iff.1 hq).1;omega) hq rfl
      rw [hb,if_neg (by simp),List.append_nil] at hft
      (repeat' (first|refine Sy ?_|refine Dy (fun hh=>?_) fun hh=>?_))
      all_goals (try (exfalso;omega))
      exact Ad (i+1,ov) ⟨rfl,rfl,rfl,rfl,rfl,trivial⟩ ⟨by dsimp only;omega,by dsimp only;rw [hft];exact hgr⟩ (by dsimp only;omega)
  · obtain rfl:i=l.length:=by omega
    rw [List.take_length] at hgr
    have hul:=usesL_len (l:=l) (id:=id)
    have hso:Sl wr ov (Oa l id):=hgr.sl (fun _ _=>trivial) (by show(Oa l id).length≤_;omega)
    have hX:=hgr.x
    have cs:=sortedN_any (Oa l id) ov wr hso (by omega)
    (repeat' (first|(refine A9 Z Z (A3 Z Z en66) cs (fun vC wC hC=>?_))|refine Sy ?_|refine Dy (fun hh=>?_) fun hh=>?_))
    all_goals (try (exfalso;omega))
    obtain⟨h2,h1⟩:=hC
    exact A5 Z Z ⟨h1.any,hX.trans h2⟩
theorem Ol:Shp Tryz.prog 76 [(false,3,0),(false,3,1)]:=⟨by kernel_rfl,by kernel_rfl,by kernel_rfl,by kernel_rfl⟩
end Go.Proofs.YtjicdgejhkgpgaaGreatDoor
