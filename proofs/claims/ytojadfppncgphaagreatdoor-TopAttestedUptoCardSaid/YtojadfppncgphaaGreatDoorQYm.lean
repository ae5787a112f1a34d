/- Own text. -/
import Derived.Test.YtojadfppncgphaaGreatDoorQYl
import Derived.Lib.SliceRun
import Derived.Test.YtojadfppncgphaaGreatDoorQV5
set_option linter.all false
set_option maxHeartbeats 16000000
set_option maxRecDepth 8000
namespace Go.En
open Go.RowKit
section
variable {P : Program}{n : Nat}{Q : Post}{L : List (Nat × Value)}{w : World}{ops : List Oper}{o : Oper}{rest : List Oper}
theorem C5x {v:Value}{w':World}(hg:gst ops L o=some true)(hd:o.dst=none)(h:∀ ρ,Agree L o ρ→(execOp ρ o).run P w=.ok (.value v) w')(k:EL P n ops Q rest L w'):EL P n ops Q (o::rest) L w:=
 fun a ha=>wpList_step fun K hK=>by
  rw [M4 ha hg,if_pos rfl]
  unfold Oper.wp
  rw [h a.eval (ha.agree o)]
  refine hK _ _ (k _ ?_)
  rw [hd]
  exact ha
theorem A2g (z:Value)(n:Nat):(Builtin.zeroCells #[z] n).toList=List.replicate n z:=by
 unfold Builtin.zeroCells
 apply List.ext_getElem?
 intro i
 simp only [Array.toList_map,Array.toList_range,List.getElem?_map,List.getElem?_replicate]
 by_cases hi:i<n
 ·rw [List.getElem?_range (by simpa using hi),if_pos hi]
  simp [Nat.mod_one]
 ·rw [if_neg hi,List.getElem?_eq_none (by simpa using hi)]
  rfl
theorem D4u {t e:TypeId}{x:Operand}{z:Value}{bytes:Nat}{b off m cap:Nat}{cur:List Value}[ut:UT P t (.slice e)][ti:TI P e z 1 bytes](hr:Row w b e cur)(hg:gst ops L o=some true)(hd:o.dst=none)(ho:o.op=.call { callee:=.builtin .clear,args:=#[x],argTypes:=#[t] })
  (hx:ev L x=some (.slice (some ⟨b,off,none⟩) m cap)) (hz:z.cells=#[z]) (h1:z.oneCell'=true) (hfit:off+m≤cur.length)
  (k:∀ w',Row w' b e (cur.take off++List.replicate m z++cur.drop (off+m))→Kb (some b) w w'→EL P n ops Q rest L w'):EL P n ops Q (o::rest) L w:=by
 obtain⟨i0,hi,hz0,hz1,hz2⟩:=info_parts ti.i
 have hzv:(zeroValue e).run P w=.ok z w:=N9 (P:=P) (t:=e) w
 have hu:=G5 (t:=t) (P:=P) w
 by_cases h0:m=0
 ·subst h0
  refine C5x (w':=w) (v:=.tuple #[]) hg hd (fun ρ ha=>?_) (k w (by simpa using hr) (World.grownBy.refl _ _))
  have a1:=ha.ev (by rw [ho];simp [Op.operands,Call.operands]) hx
  simp [execOp,ho,resolve,invoke,builtin,Builtin.clear_,a1,hu]
 ·have hst:=run_storeCells_at (P:=P) b off e (List.replicate m z) 0 cur.toArray w hr (by simp;omega) (fun u hu=>by rw [List.eq_of_mem_replicate hu];exact h1)
  simp only [Nat.add_zero] at hst
  have hkb:Kb (some b) w (w.setRow b (cur.take off++List.replicate m z++cur.drop (off+m)).toArray):=⟨rfl,rfl,rfl,by simp,fun k hk hne=>setRow_other w b k _ (fun e=>hne (by rw [e]))⟩
  refine C5x (w':=w.setRow b (cur.take off++List.replicate m z++cur.drop (off+m)).toArray) (v:=.tuple #[]) hg hd (fun ρ ha=>?_) (k _ (setRow_heap w b cur.toArray _ e (0,0) hr) hkb)
  have a1:=ha.ev (by rw [ho];simp [Op.operands,Call.operands]) hx
  obtain⟨m',rfl⟩:∃ m',m=m'+1:=⟨m-1,by omega⟩
  simp only [execOp,ho,resolve,invoke,builtin,Builtin.clear_,Sem.run_bind,Sem.run_pure,Result.andThen_ok,List.map_toArray,List.map_cons,List.map_nil,a1,hu,hzv,hz,A2g]
  simp [hu,hzv,hz,A2g,hst]
end
section
variable {P : Program}{L : List (Nat × Value)}{w : World}{o : Oper}
theorem val_nil_eq {t e u:TypeId}{x y:Operand}{a:Option Addr}{m c:Nat}[ut:UT P t (.slice e)](ho:o.op=.binOp .eql t x y u)(hx:ev L x=some (.slice a m c))(hy:ev L y=some (.slice none 0 0)):Val P L w o (.bool a.isNone):=fun ρ ha=>by
 have h1:=ha.ev (by rw [ho];simp [Op.operands]) hx
 have h2:=ha.ev (by rw [ho];simp [Op.operands]) hy
 have h3:=G5 (t:=t) (P:=P) w
 have h4:=Lib.run_eql_slice_nil (P:=P) w t e a m c 0 0 ut.u
 simp [execOp,ho,h1,h2,h3,h4,eqGuard]
end
end Go.En
namespace Go.Proofs.YtojadfppncgphaaGreatDoor
section
open Go.RowKit Go.En Go.Dl Go.Tp
def Rise (l:List Int):Prop:=l.Pairwise (·<·)
theorem B7m : ∀ {a b : List Int}, Rise a → Rise b → (∀ x, x ∈ a ↔ x ∈ b) → a = b
 | [],[],_,_,_=>rfl
 | [],y::b,_,_,h=>absurd ((h y).2 (.head _)) (by simp)
 | x::a,[],_,_,h=>absurd ((h x).1 (.head _)) (by simp)
 | x :: a, y :: b, ha, hb, h => by
  obtain⟨a1,a2⟩:=List.pairwise_cons.1 ha
  obtain⟨b1,b2⟩:=List.pairwise_cons.1 hb
  have hxy:x=y:=by
   rcases List.mem_cons.1 ((h x).1 (.head _)) with e|h1
   ·exact e
   ·rcases List.mem_cons.1 ((h y).2 (.head _)) with e|h2
    ·exact e.symm
    ·have:=b1 x h1;have:=a1 y h2;omega
  subst hxy
  rw [B7m a2 b2 fun z=>?_]
  constructor
  ·intro hz
   rcases List.mem_cons.1 ((h z).1 (.tail _ hz)) with e|h1
   ·have:=a1 z hz;omega
   ·exact h1
  ·intro hz
   rcases List.mem_cons.1 ((h z).2 (.tail _ hz)) with e|h1
   ·have:=b1 z hz;omega
   ·exact h1
def cstep (acc:List Int)(x:Int):List Int:=if acc.getLast?=some x then acc else acc++[x]
def H6 (l:List Int):List Int:=l.foldl cstep []
theorem A0a (l:List Int)(x:Int):H6 (l++[x])=cstep (H6 l) x:=by unfold H6;rw [List.foldl_append];rfl
theorem C1m (acc:List Int)(x:Int):(cstep acc x).getLast?=some x:=by
 unfold cstep
 by_cases h:acc.getLast?=some x
 ·rw [if_pos h];exact h
 ·rw [if_neg h];simp
theorem C1o {l:List Int}{i:Nat}{x:Int}(hx:l[i]?=some x):(H6 (l.take (i+1))).getLast?=some x:=by
 obtain⟨hi,rfl⟩:=List.getElem?_eq_some_iff.1 hx
 rw [List.take_succ_eq_append_getElem hi,A0a,C1m]
theorem A9v {l:List Int}{i:Nat}{x y:Int}(hx:l[i]?=some x)(hy:l[i+1]?=some y):H6 (l.take (i+2))=if x=y then H6 (l.take (i+1)) else H6 (l.take (i+1))++[y]:=by
 obtain⟨hi,rfl⟩:=List.getElem?_eq_some_iff.1 hy
 rw [List.take_succ_eq_append_getElem hi,A0a]
 unfold cstep
 rw [C1o hx]
 simp
theorem A4v (l:List Int):(H6 l).length≤l.length:=by
 rw [← List.reverse_reverse l]
 induction l.reverse with
 | nil=>simp [H6]
 | cons a t ih=>
  rw [List.reverse_cons,A0a]
  unfold cstep
  split
  ·simp at ih ⊢;omega
  ·simp at ih ⊢;omega
theorem C7d {l:List Int}{x:Int}(hx:l[0]?=some x):H6 (l.take 1)=[x]:=by
 cases l with
 | nil=>simp at hx
 | cons a t=>simp at hx;subst hx;rfl
theorem B9l {l:List Int}(h:l.length<2):H6 l=l:=by
 match l,h with
 | [],_=>rfl
 | [a],_=>rfl
theorem C1n : ∀ l : List Int, l.Pairwise (· ≤ ·) → Rise (H6 l) ∧ (∀ x, x ∈ H6 l ↔ x ∈ l) := by
 have key:∀ r:List Int,r.reverse.Pairwise (·≤·)→Rise (H6 r.reverse)∧(∀ x,x∈H6 r.reverse↔x∈r.reverse):=by
  intro r
  induction r with
  | nil=>intro _;exact⟨by simp [H6,Rise],by simp [H6]⟩
  | cons a t ih=>
   intro h
   rw [List.reverse_cons] at h ⊢
   obtain⟨h1,_,h3⟩:=List.pairwise_append.1 h
   obtain⟨q1,q2⟩:=ih h1
   have hle:∀ x∈H6 t.reverse,x≤a:=fun x hx=>h3 x ((q2 x).1 hx) a (by simp)
   rw [A0a]
   unfold cstep
   by_cases hl:(H6 t.reverse).getLast?=some a
   ·rw [if_pos hl]
    refine⟨q1,fun x=>?_⟩
    rw [List.mem_append,List.mem_singleton,← q2 x]
    exact⟨.inl,fun hx=>by
     rcases hx with hx|rfl
     ·exact hx
     ·exact List.mem_of_getLast? hl⟩
   ·rw [if_neg hl]
    have hlt:∀ x∈H6 t.reverse,x<a:=fun x hx=>by
     have h5:=hle x hx
     by_cases e:x=a
     ·subst e
      exfalso
      apply hl
      obtain⟨s,r,hs⟩:=List.append_of_mem hx
      have hr:r=[]:=by
       cases r with
       | nil=>rfl
       | cons b r=>
        have h6:b∈H6 t.reverse:=by rw [hs];simp
        have h7:=hle b h6
        rw [hs] at q1
        have:=(List.pairwise_cons.1 (List.pairwise_append.1 q1).2.1).1 b (by simp)
        omega
      rw [hs,hr];simp
     ·omega
    refine⟨List.pairwise_append.2 ⟨q1,by simp,fun x hx y hy=>by rw [List.mem_singleton] at hy;subst hy;exact hlt x hx⟩,fun x=>?_⟩
    rw [List.mem_append,List.mem_append,q2 x]
 intro l h
 have:=key l.reverse (by rwa [List.reverse_reverse])
 rwa [List.reverse_reverse] at this
theorem B1z {n : Int} : ∀ {l : List Int}, Rise l → Rise (putI l n) ∧ ∀ x, x ∈ putI l n ↔ x = n ∨ x ∈ l
 | [],_=>⟨by simp [putI,Rise],fun x=>by simp [putI]⟩
 | a :: r, h => by
  obtain⟨h1,h2⟩:=List.pairwise_cons.1 h
  obtain⟨i1,i2⟩:=B1z (n:=n) (l:=r) h2
  unfold putI
  by_cases c:a<n
  ·rw [if_pos c]
   refine⟨List.pairwise_cons.2 ⟨fun x hx=>?_,i1⟩,fun x=>?_⟩
   ·rcases (i2 x).1 hx with e|e
    ·omega
    ·exact h1 x e
   ·rw [List.mem_cons,i2,List.mem_cons]
    constructor
    ·rintro(h|h|h)
     ·exact .inr (.inl h)
     ·exact .inl h
     ·exact .inr (.inr h)
    ·rintro(h|h|h)
     ·exact .inr (.inl h)
     ·exact .inl h
     ·exact .inr (.inr h)
  ·rw [if_neg c]
   by_cases e:a=n
   ·rw [if_pos e]
    subst e
    refine⟨h,fun x=>?_⟩
    rw [List.mem_cons]
    exact⟨.inr,fun q=>q.elim .inl id⟩
   ·rw [if_neg e]
    refine⟨List.pairwise_cons.2 ⟨fun x hx=>?_,h⟩,fun x=>by rw [List.mem_cons]⟩
    rcases List.mem_cons.1 hx with q|q
    ·omega
    ·have:=h1 x q;omega
theorem B2a:∀(l acc:List Int),Rise acc→Rise (l.foldl putI acc)∧∀ x,x∈l.foldl putI acc↔x∈acc∨x∈l
 | [],acc,h=>⟨h,fun x=>by simp⟩
 | z :: l, acc, h => by
  obtain⟨p1,p2⟩:=B1z (n:=z) h
  obtain⟨q1,q2⟩:=B2a l (putI acc z) p1
  refine⟨q1,fun x=>?_⟩
  rw [List.foldl_cons,q2,p2,List.mem_cons]
  constructor
  ·rintro((h|h)|h)
   ·exact .inr (.inl h)
   ·exact .inl h
   ·exact .inr (.inr h)
  ·rintro(h|h|h)
   ·exact .inl (.inr h)
   ·exact .inl (.inl h)
   ·exact .inr h
theorem B1m (l:List Int):Rise (srtR l)∧∀ x,x∈srtR l↔x∈l:=by
 obtain⟨h1,h2⟩:=B2a l [] (by simp [Rise])
 exact⟨h1,fun x=>by unfold srtR;rw [h2];simp⟩
theorem A9w (l:List Int):H6 (l.mergeSort (fun x y=>decide (x≤y)))=srtR l:=by
 have hs:=List.pairwise_mergeSort (le:=fun x y:Int=>decide (x≤y)) (fun a b c h1 h2=>by simp at h1 h2 ⊢;omega) (fun a b=>by simp;omega) l
 obtain⟨h1,h2⟩:=C1n _ (hs.imp fun {a b} hab=>by simpa using hab)
 exact B7m h1 (B1m l).1 fun x=>(h2 x).trans (((List.mergeSort_perm l _).mem_iff).trans ((B1m l).2 x).symm)
theorem rowI {w:World}{b:Nat}{e:TypeId}{cs:List Value}(h:Row w b e cs){i:Nat}{v:Value}(hv:cs[i]?=some v):w.cell? ⟨b,0+i*1,none⟩=some v:=by rw [Nat.zero_add,Nat.mul_one];exact h.cellAt hv
theorem rowO {w:World}{b:Nat}{e:TypeId}{cs:List Value}(h:Row w b e cs){k i:Nat}{v:Value}(hv:cs[k+i]?=some v):w.cell? ⟨b,k+i*1,none⟩=some v:=by rw [Nat.mul_one];exact h.cellAt hv
theorem A3l {P:Program}{L:List (Nat × Value)}{w:World}{o:Oper}{t e:TypeId}{x p:Operand}{b len cap k:Nat}{kl:IntKind}{za:Int}{zv:Value}{bytes:Nat}[UT P t (.slice e)][TI P e zv 1 bytes](ho:o.op=.slice t x (some p) none none)(hx:ev L x=some (.slice (some ⟨b,0,none⟩) len cap))
  (hlo:ev L p=some (.int kl za)) (hza:za=(k:Int)) (hk:k≤len) (hc:k<cap):Val P L w o (.slice (some ⟨b,k,none⟩) (len-k) (cap-k)):=by
 have:=V4 (P:=P) (L:=L) (w:=w) ho hx hlo hza hk
 rw [if_neg (by omega)] at this
 simpa [D6] using this
attribute [local irreducible] E EL K Val Enters Rt Calls bodyPost Code.wp RQ
theorem B9k (l : List Int)(v : Value)(B : Nat)(w : World)(h : w.ownsRow B 3 1 v l.length (l.map int))(hlen : l.length ≤ 1099511627776) : Calls Tryz.prog 270 #[v] w (Rt fun u w' => w'.ownsRow B 3 1 u (H6 l).length ((H6 l).map int) ∧ Kb v.ownBlock w w' ∧ u.ownBlock = v.ownBlock) := by
 by_cases h2:l.length<2
 ·obtain⟨a,cap,rfl⟩:∃ a cap,v=.slice a l.length cap:=by
   rcases h.2 with⟨rfl,h0⟩|⟨g,cap,cur,rfl,_⟩
   ·exact⟨none,0,by rw [h0]⟩
   ·exact⟨_,_,rfl⟩
  refine G3 (n:=61) (args:=[.slice a l.length cap]) Tryz.func270 rfl Tryz.ntmps270 (by simp) ?_
  (repeat' ((fail_if_success (refine J2 (x:=(Code.block 0 _)) ?_));first|refine Sy ?_|refine Dy (fun hh=>?_) fun hh=>?_))
  all_goals (first|(exfalso;omega)|skip)
  all_goals exact Q1 Z Z ⟨by rw [B9l h2];exact h,((Ext.refl _).kb _),rfl⟩
 ·rcases h.2 with⟨rfl,h0⟩|⟨g,cap,cur,rfl,hb,hg,h1,hcm,h3,h4⟩
  ·exact absurd h0 (by omega)
  obtain⟨C,hC⟩:∃ C,C=cur.toList:=⟨_,rfl⟩
  have hR:Row w g 3 C:=by rw [hC];exact hg
  have hCl:C.length=cap:=by rw [hC,Array.length_toList,h3,Nat.mul_one]
  have hCt:C.take l.length=l.map int:=by rw [hC,← h4,Nat.mul_one]
  have hCi:∀ {i:Nat} {x:Int},l[i]?=some x→C[i]?=some (int x):=fun {i x} hx=>by
   have hi:=(List.getElem?_eq_some_iff.1 hx).1
   have:(C.take l.length)[i]?=some (int x):=by rw [hCt,List.getElem?_map,hx];rfl
   rwa [List.getElem?_take_of_lt hi] at this
  refine G3 (n:=61) (args:=[.slice (some ⟨g,0,none⟩) l.length cap]) Tryz.func270 rfl Tryz.ntmps270 (by simp) ?_
  (repeat' ((fail_if_success (refine J2 (x:=(Code.block 0 _)) ?_));first|refine Sy ?_|refine Dy (fun hh=>?_) fun hh=>?_))
  all_goals (first|(exfalso;omega)|skip)
  refine A0e (ι:=Nat) (fun i=>[(0,.slice (some ⟨g,0,none⟩) l.length cap),(3,int i)])
   (fun i wr=>1≤i∧i≤l.length∧Ext w wr∧H6 (l.take i)=l.take i) (fun i=>l.length-i) 1
   ⟨rfl,rfl,trivial⟩ ⟨Nat.le_refl _,by omega,Ext.refl _,by
    obtain⟨x,hx⟩:∃ x,l[0]?=some x:=⟨_,List.getElem?_eq_getElem (by omega)⟩
    rw [C7d hx]
    cases l with
    | nil=>simp at hx
    | cons a t=>simp at hx;subst hx;rfl⟩ ?_
  rintro i wr ⟨hi1,hi,hx,hcomp⟩
  by_cases hlt:i<l.length
  ·obtain ⟨x, hxl⟩ : ∃ x, l[i - 1]? = some x := ⟨_, List.getElem?_eq_getElem (by omega)⟩
   obtain⟨y,hyl⟩:∃ y,l[i]?=some y:=⟨_,List.getElem?_eq_getElem hlt⟩
   have hRr:=hR.ext hx
   have cx:=rowI hRr (hCi hxl)
   have cy:=rowI hRr (hCi hyl)
   have hstep:H6 (l.take (i+1))=if x=y then H6 (l.take i) else H6 (l.take i)++[y]:=by
    have:=A9v (l:=l) (i:=i-1) (x:=x) (y:=y) hxl (by rw [show i-1+1=i by omega];exact hyl)
    rwa [show i-1+2=i+1 by omega,show i-1+1=i by omega] at this
   by_cases hxy:y=x
   ·have hdec:decide (y=x)=true:=decide_eq_true hxy
    (repeat' (first|refine yV Z Z (fun _ _ _=>B7 (m:=i) Z Z Z Z (by omega)) ?_|refine yV Z Z (fun _ _ _=>B7 (m:=i-1) Z Z Z (by omega) (by omega)) ?_|refine yV Z Z (fun wq _ xq=>B5 Z Z Z (xq.cell cx)) ?_|refine yV Z Z (fun wq _ xq=>B5 Z Z Z (xq.cell cy)) ?_|refine yV (v:=.bool true) Z Z (fun _ _ _=>by rw [← hdec];exact zM Z Z Z) ?_|refine eV Z Z (A3l (k:=i) Z Z Z Z (by omega) (by omega)) ?_|refine Sy ?_|refine Dy (fun hh=>?_) fun hh=>?_|refine yqZ ?_|refine E_dq Q3 (by kernel_rfl) Z ?_|refine yN Z (fun wq xq=>?_)))
    all_goals (first|(exfalso;omega)|skip)
    have hxq:=hx.trans xq
    have hRq:=hR.ext hxq
    refine A0e (ι:=Nat × Nat × List Value) (fun s=>[(0,.slice (some ⟨g,0,none⟩) l.length cap),(3,int s.2.1),(4,.slice (some ⟨g,i,none⟩) (l.length-i) (cap-i)),(5,int s.1)])
     (fun s ww=>1≤s.1∧i+s.1≤l.length∧s.2.1=(H6 (l.take (i+s.1))).length∧i≤s.2.1∧s.2.1<i+s.1∧s.2.2.length=cap∧Row ww g 3 s.2.2∧Kb (some g) w ww∧s.2.2.take s.2.1=(H6 (l.take (i+s.1))).map int∧∀ j z,i+s.1≤j+1→l[j]?=some z→s.2.2[j]?=some (int z)) (fun s=>l.length-(i+s.1)) (1,i,C)
     ⟨rfl,rfl,rfl,rfl,trivial⟩ ⟨Nat.le_refl _,by omega,by
      show i=(H6 (l.take (i+1))).length
      rw [hstep,if_pos hxy.symm,hcomp,List.length_take];omega,Nat.le_refl _,by show i<i+1;omega,hCl,hRq,hxq.kb _,by
      show C.take i=(H6 (l.take (i+1))).map int
      rw [hstep,if_pos hxy.symm,hcomp,List.map_take,← hCt,List.take_take,Nat.min_eq_left hi],fun j z _ hz=>hCi hz⟩ ?_
    rintro⟨k2,k,D⟩ ww ⟨hk1,hkl,hkk,hik,hki,hDl,hRD,hKb,hpre,hrest⟩
    dsimp only at hk1 hkl hkk hik hki hDl hRD hKb hpre hrest ⊢
    by_cases hlt2:i+k2<l.length
    ·obtain⟨p,hpl⟩:∃ p,l[i+(k2-1)]?=some p:=⟨_,List.getElem?_eq_getElem (by omega)⟩
     obtain⟨q,hql⟩:∃ q,l[i+k2]?=some q:=⟨_,List.getElem?_eq_getElem hlt2⟩
     have cp:=rowO hRD (k:=i) (i:=k2-1) (hrest _ _ (by omega) hpl)
     have cq:=rowO hRD (k:=i) (i:=k2) (hrest _ _ (by omega) hql)
     have hst2:H6 (l.take (i+k2+1))=if p=q then H6 (l.take (i+k2)) else H6 (l.take (i+k2))++[q]:=by
      have:=A9v (l:=l) (i:=i+(k2-1)) (x:=p) (y:=q) hpl (by rw [show i+(k2-1)+1=i+k2 by omega];exact hql)
      rwa [show i+(k2-1)+2=i+k2+1 by omega,show i+(k2-1)+1=i+k2 by omega] at this
     by_cases hpq:q=p
     ·have hdec2:decide (q≠p)=false:=decide_eq_false (fun e=>e hpq)
      (repeat' (first|refine yV Z Z (fun _ _ _=>B7 (m:=k2) Z Z Z Z (by omega)) ?_|refine yV Z Z (fun _ _ _=>B7 (m:=k2-1) Z Z Z (by omega) (by omega)) ?_|refine yV Z Z (fun wq _ xq=>B5 Z Z Z (xq.cell cp)) ?_|refine yV Z Z (fun wq _ xq=>B5 Z Z Z (xq.cell cq)) ?_|refine yV (v:=.bool false) Z Z (fun _ _ _=>by rw [← hdec2];exact zQ Z Z Z) ?_|refine Sy ?_|refine Dy (fun hh=>?_) fun hh=>?_|refine yqZ ?_|refine E_dq Q3 (by kernel_rfl) Z ?_|refine yN Z (fun wq xq=>?_)))
      all_goals (first|(exfalso;omega)|skip)
      refine A2q (k2+1,k,D) ⟨rfl,rfl,rfl,rfl,trivial⟩ ⟨by dsimp only;omega,by dsimp only;omega,?_,hik,by dsimp only;omega,hDl,hRD.ext xq,hKb.trans (xq.kb _),?_,fun j z hj hz=>hrest j z (by dsimp only at hj;omega) hz⟩ (by dsimp only;omega)
      ·dsimp only
       rw [← Nat.add_assoc,hst2,if_pos hpq.symm];exact hkk
      ·dsimp only
       rw [← Nat.add_assoc,hst2,if_pos hpq.symm];exact hpre
     ·have hdec2:decide (q≠p)=true:=decide_eq_true hpq
      have hgq:∀ w2,Row w2 g 3 D→w2.cell? ⟨g,i+k2*1,none⟩=some (int q):=fun w2 h2=>rowO h2 (k:=i) (i:=k2) (hrest _ _ (by omega) hql)
      (repeat' (first|refine yV Z Z (fun _ _ _=>B7 (m:=k2) Z Z Z Z (by omega)) ?_|refine yV Z Z (fun _ _ _=>B7 (m:=k2-1) Z Z Z (by omega) (by omega)) ?_|refine yV Z Z (fun wq _ xq=>B5 Z Z Z (xq.cell cp)) ?_|refine yV Z Z (fun wq _ xq=>B5 Z Z Z (xq.cell cq)) ?_|refine yV (v:=.bool true) Z Z (fun _ _ _=>by rw [← hdec2];exact zQ Z Z Z) ?_|refine eV Z Z (B7 (m:=k2) Z Z Z Z (by omega)) ?_|refine eV Z Z (B7 (m:=k) Z Z Z Z (by omega)) ?_|refine eV Z Z (B5 Z Z Z (hgq _ (hRD.ext (by assumption)))) ?_|refine Sy ?_|refine Dy (fun hh=>?_) fun hh=>?_|refine yqZ ?_|refine E_dq Q3 (by kernel_rfl) Z ?_|refine yN Z (fun wq xq=>?_)))
      all_goals (first|(exfalso;omega)|skip)
      have hkD:k<D.length:=by omega
      refine V3 (cs:=D) Z Z Z Z Z Z Z (hRD.ext xq) (by show 0+k*1+1≤D.length;omega) (fun wS rS kS _=>?_)
      have rS':Row wS g 3 (D.take k++[int q]++D.drop (k+1)):=by
       have:=rS
       rw [show 0+k*1=k by omega] at this
       exact this
      (repeat' (first|refine Sy ?_|fail))
      refine A2q (k2+1,k+1,D.take k++[int q]++D.drop (k+1)) ⟨rfl,rfl,rfl,rfl,trivial⟩ ⟨by dsimp only;omega,by dsimp only;omega,?_,by dsimp only;omega,by dsimp only;omega,?_,rS',(hKb.trans (xq.kb _)).trans kS,?_,fun j z hj hz=>?_⟩ (by dsimp only;omega)
      ·dsimp only
       rw [← Nat.add_assoc,hst2,if_neg (fun e=>hpq e.symm),List.length_append,← hkk];rfl
      ·dsimp only
       simp only [List.length_append,List.length_take,List.length_drop,List.length_singleton];omega
      ·dsimp only
       rw [← Nat.add_assoc,hst2,if_neg (fun e=>hpq e.symm),List.map_append,← hpre,List.take_append_of_le_length (by simp;omega),List.take_of_length_le (by simp;omega)];rfl
      ·dsimp only at hj ⊢
       rw [List.getElem?_append_right (by simp;omega),List.getElem?_drop]
       have:k+1+(j-(D.take k++[int q]).length)=j:=by simp only [List.length_append,List.length_take,List.length_singleton];omega
       rw [this]
       exact hrest j z (by omega) hz
    ·have hk2e:i+k2=l.length:=by omega
     rw [hk2e,List.take_length] at hkk hpre
     have hkl2:=A4v l
     (repeat' (first|refine eV Z Z (A3l (k:=k) Z Z Z Z (by omega) (by omega)) ?_|refine eV Z Z (A5x (b:=k) Z Z Z Z (by omega)) ?_|refine D4u (m:=l.length-k) hRD rfl rfl rfl rfl rfl rfl (by omega) (fun wC rC kC=>?_)|refine Sy ?_|refine Dy (fun hh=>?_) fun hh=>?_))
     all_goals (first|(exfalso;omega)|skip)
     refine Q1 Z Z ⟨⟨by simp,.inr ⟨g,cap,(D.take k++List.replicate (l.length-k) (int 0)++D.drop (k+(l.length-k))).toArray,by rw [hkk],hb,rC,by omega,hcm,?_,?_⟩⟩,hKb.trans kC,rfl⟩
     ·simp only [List.size_toArray,List.length_append,List.length_take,List.length_drop,List.length_replicate];omega
     ·rw [Nat.mul_one,← hkk,← hpre,List.append_assoc,List.take_append_of_le_length (by simp;omega),List.take_of_length_le (by rw [List.length_take];omega)]
   ·have hdec:decide (y=x)=false:=decide_eq_false hxy
    (repeat' (first|refine yV Z Z (fun _ _ _=>B7 (m:=i) Z Z Z Z (by omega)) ?_|refine yV Z Z (fun _ _ _=>B7 (m:=i-1) Z Z Z (by omega) (by omega)) ?_|refine yV Z Z (fun wq _ xq=>B5 Z Z Z (xq.cell cx)) ?_|refine yV Z Z (fun wq _ xq=>B5 Z Z Z (xq.cell cy)) ?_|refine yV (v:=.bool false) Z Z (fun _ _ _=>by rw [← hdec];exact zM Z Z Z) ?_|refine Sy ?_|refine Dy (fun hh=>?_) fun hh=>?_|refine yqZ ?_|refine E_dq Q3 (by kernel_rfl) Z ?_|refine yN Z (fun wq xq=>?_)))
    all_goals (first|(exfalso;omega)|skip)
    refine A2q (i+1) ⟨rfl,rfl,trivial⟩ ⟨by omega,by omega,hx.trans xq,?_⟩ (by omega)
    rw [hstep,if_neg (fun e=>hxy e.symm),hcomp]
    obtain⟨hi,rfl⟩:=List.getElem?_eq_some_iff.1 hyl
    exact(List.take_succ_eq_append_getElem hi).symm
  ·obtain rfl:i=l.length:=by omega
   rw [List.take_length] at hcomp
   (repeat' (first|refine Sy ?_|refine Dy (fun hh=>?_) fun hh=>?_))
   all_goals (first|(exfalso;omega)|skip)
   exact Q1 Z Z ⟨by rw [hcomp];exact N0 h hx,hx.kb _,rfl⟩
def Nw (w:World):Nat→Prop:=fun b=>w.heap.size≤b
theorem G3g {w w':World}{v:Value}{l:List Int}(h:w'.ownsRow w.heap.size 3 1 v l.length (l.map int))(hl:l.length≤140737488355328):SlG (Nw w) w' v l:=
 C3h (css:=l.map fun z=>[int z]) (by rw [R4];exact h) (Y3 _ _) (fun _ hb=>hb) rfl hl
theorem A6b (l:List Int)(v:Value)(w:World)(hv:Sl w v l)(hl:l.length≤1000000):Calls Tryz.prog 241 #[v] w (Rt fun u w'=>Ext w w'∧SlG (Nw w) w' u (srtR l)):=by
 have hv0:=hv
 obtain⟨a,cap,rfl,hc,hm,hp⟩:=hv.sl
 refine G3 (n:=7) (args:=[.slice a l.length cap]) Tryz.func241 rfl Tryz.ntmps241 (by simp) ?_
 have c1:=C0h a l.length cap w
 (repeat' (first|(refine D7 Z Z (D5 Z Z G7y) c1 (fun vC wC hC=>?_);obtain⟨b,rfl,rB,xC⟩:=hC)|refine Sy ?_|fail))
 have c2:=B4u l _ b wC rB (D5z (hv0.ext xC)) (by omega)
 have hsl:(l.mergeSort (fun x y=>decide (x≤y))).length=l.length:=by simp
 (repeat' (first|(refine D7 Z Z (D5 Z Z G7z) c2 (fun vD wD hD=>?_);obtain⟨xD,oD⟩:=hD)))
 rw [← hsl] at oD
 have c3:=B9k _ vD wC.heap.size wD oD (by omega)
 rw [A9w] at c3
 (repeat' (first|(refine D7 Z Z (D5 Z Z G8a) c3 (fun vE wE hE=>?_);obtain⟨oE,kE,_⟩:=hE)|refine Sy ?_|fail))
 have hle:(srtR l).length≤1000000:=by
  have:=A4v (l.mergeSort (fun x y=>decide (x≤y)))
  rw [A9w] at this
  omega
 exact Q1 Z Z ⟨xC.trans (A8s oD xD kE),G3g (C9i oE xC.size) (by omega)⟩
end
section
open Go.RowKit Go.En Go.Dl Go.Tp
attribute [local irreducible] X XL XW XG XK Val LS Fp Fo Calls bodyPost Code.wp
theorem c79 (n:Int):Fp Tryz.prog 79 [dI n] (dB (idB n)):=by
 refine fXw Tryz.func79 Tryz.ntmps79 fun c hM=>?_
 (repeat' (first|refine Wz ?_|apply Wd <;>intro hh))
 all_goals (refine rEw hM ?_;(first|(simp [one1, *,dB,dI,dS,List.anyB,List.allB,idB];done)|(simp_all [one1,dB,dI,dS,List.anyB,List.allB,idB];done)|(simp_all [one1,dB,dI,dS,List.anyB,List.allB,idB];omega)))
def B1q (a:Int):Bool:=decide (0≤a)&&decide (a≤1114111)&&(decide (a<55296)||decide (57343<a))
theorem C8n (p:Nat):B1q (p:Int)=scal p:=by
 unfold B1q scal
 rw [Bool.eq_iff_iff];simp
 omega
theorem c301 (n:Int):Fp Tryz.prog 301 [dI n] (dB (B1q n)):=by
 refine fXw Tryz.func301 Tryz.ntmps301 fun c hM=>?_
 (repeat' (first|refine Wz ?_|apply Wd <;>intro hh))
 all_goals (refine rEw hM ?_;(first|(simp [one1, *,dB,dI,dS,List.anyB,List.allB,B1q];done)|(simp_all [one1,dB,dI,dS,List.anyB,List.allB,B1q];done)|(simp_all [one1,dB,dI,dS,List.anyB,List.allB,B1q];omega)))
theorem D7y {x:Nat}(h:x<256):Value.int .u8 ((UInt8.ofNat x).toNat:Int)=.int .u8 (x:Int):=by
 rw [UInt8.toNat_ofNat',Nat.mod_eq_of_lt h]
theorem D1y {p:Nat}(hp:p≤1114111):∀ x∈encN p,x<256:=by
 intro x hx
 unfold encN at hx
 split at hx
 ·simp at hx;omega
 ·split at hx
  ·simp at hx;omega
  ·split at hx
   ·simp at hx;omega
   ·simp at hx;omega
theorem D1x {p:Nat}(hs:∀ x∈encN p,x<256):(encB p).map (fun b=>[Dt.v (.int .u8 b.toNat)])=(encN p).map fun(x:Nat)=>[Dt.v (.int .u8 (x:Int))]:=by
 unfold encB
 rw [List.map_map]
 exact List.map_congr_left fun x hx=>congrArg (fun v=>[Dt.v v]) (D7y (hs x hx))
theorem c302 (p:Nat)(hp:p≤1114111):Fp Tryz.prog 302 [dI p] (dS (encB p)):=by
 have hc:=D1x (D1y hp)
 unfold encN at hc
 refine fXw Tryz.func302 Tryz.ntmps302 fun c hM=>?_
 (repeat' (first|refine Wz ?_|apply Wd <;>intro hh))
 ·rw [if_pos oEw] at hc
  (repeat' (first|refine G_x (A4f Z Z (l:=encB p) (by rw [hc];simp)) Z Z ?_|refine Wz ?_|fail))
  exact rXw hM
 ·rw [if_neg oEw,if_pos oEw] at hc
  (repeat' (first|refine G_x (A4f Z Z (l:=encB p) (by rw [hc];simp)) Z Z ?_|refine Wz ?_|fail))
  exact rXw hM
 ·rw [if_neg oEw,if_neg oEw,if_pos oEw] at hc
  (repeat' (first|refine G_x (A4f Z Z (l:=encB p) (by rw [hc];simp)) Z Z ?_|refine Wz ?_|fail))
  exact rXw hM
 ·rw [if_neg oEw,if_neg oEw,if_neg oEw] at hc
  (repeat' (first|refine G_x (A4f Z Z (l:=encB p) (by rw [hc];simp)) Z Z ?_|refine Wz ?_|fail))
  exact rXw hM
theorem q3S {p:Prop}(h:p:=by first|(simp [one1, *,dB,dI,dS,List.anyB,List.allB,allI,nmB,B4v];done)|(simp_all [one1,dB,dI,dS,List.anyB,List.allB,allI,nmB,B4v];done)|(simp_all [one1,dB,dI,dS,List.anyB,List.allB,allI,nmB,B4v];omega)):p:=h
theorem c150 (s:Tx)(hs:s.length≤1048576):Fp Tryz.prog 150 [dS s] ((fun i l=>dB (allI nmB i l&&(decide (1≤(s.length:Int))&&decide ((s.length:Int)≤32)))) 0 s):=by
 refine fXw Tryz.func150 Tryz.ntmps150 fun c hM=>?_
 (repeat' (first|refine Wz ?_|fail))
 refine X_lp (ι:=Nat) 2251799813685244 [] (fun i=>[(3,.d (dI i))]) (fun _=>[]) (fun i=>i≤s.length∧(fun i l=>dB (allI nmB i l&&(decide (1≤(s.length:Int))&&decide ((s.length:Int)≤32)))) 0 s=(fun i l=>dB (allI nmB i l&&(decide (1≤(s.length:Int))&&decide ((s.length:Int)≤32)))) i (s.drop i)) (fun i=>s.length-i) (0) ?_ ?_
 ·exact⟨zLw,rfl⟩
 rintro i ⟨hi,hq⟩
 by_cases hlt:i<s.length
 ·obtain⟨n,hn⟩:=gex hlt
  (repeat' (first|refine G_x (A7 fun _=>D8 (m:=i) Z Z Z (by first|rfl|omega) hn) Z Z ?_|refine Wz ?_|apply Wd <;>intro hh))
  all_goals (try exact oMw)
  all_goals first
   | (rw [hq,drp hn];refine rEw hM ?_;exact q3S)
   | exact A0 (i+1) ⟨oEw,by rw [hq,drp hn];exact q3S⟩ oEw
 ·(repeat' (first|refine Wz ?_|apply Wd <;>intro hh))
  all_goals (try exact oMw)
  all_goals rw [hq,List.drop_eq_nil_of_le oEw]
  all_goals (refine rEw hM ?_;exact q3S)
def fR (d:Tx):Int × Int:=match N4 d with|none=>(-1,0)|some (p,n)=>((p:Int),(n:Int))
theorem D8f (d:Tx):∀ k,k≤4→accP d k≤67108863∧(k≤3→accP d k≤1048575):=by
 have h0:B2v (d.getD 0 0).toNat≤255:=by
  have:=UInt8.toNat_lt (d.getD 0 0)
  unfold B2v;split <;>(try split) <;>(try split) <;> omega
 intro k hk
 have h1:accP d 1=B2v (d.getD 0 0).toNat:=rfl
 have h2:accP d 2=accP d 1*64+(d.getD 1 0).toNat % 64:=rfl
 have h3:accP d 3=accP d 2*64+(d.getD 2 0).toNat % 64:=rfl
 have h4:accP d 4=accP d 3*64+(d.getD 3 0).toNat % 64:=rfl
 have hz:accP d 0=0:=rfl
 match k,hk with
 | 0,_=>omega
 | 1,_=>omega
 | 2,_=>omega
 | 3,_=>omega
 | 4,_=>omega
theorem B9f {l:Tx}{i j:Nat}(h:i+j<l.length):l[i+j]?=some ((l.drop i).getD j 0):=by
 rw [List.getElem?_eq_getElem h]
 simp [List.getD_eq_getElem?_getD,List.getElem?_drop,h]
theorem D6e {p:Nat}(h:scal p=true):p≤1114111:=by simp [scal] at h;exact h.1
theorem c265 (l:Tx)(i:Nat)(hi:i<l.length)(hl:l.length≤1048576):Fp Tryz.prog 265 [dS l,dI i] (.t [dI (fR (l.drop i)).1,dI (fR (l.drop i)).2]):=by
 have hc0:=B9f (l:=l) (i:=i) (j:=0) hi
 rw [Nat.add_zero] at hc0
 have hdl:(l.drop i).length=l.length-i:=List.length_drop
 obtain⟨d,hd⟩:∃ d,d=l.drop i:=⟨_,rfl⟩
 rw [← hd] at hc0 hdl ⊢
 have hb:=UInt8.toNat_lt (d.getD 0 0)
 obtain⟨n,hn⟩:∃ n,n=A0x (d.getD 0 0).toNat:=⟨_,rfl⟩
 have hn1:=B2w (d.getD 0 0).toNat
 rw [← hn] at hn1
 refine fXw Tryz.func265 Tryz.ntmps265 fun c hM=>?_
 (repeat' ((fail_if_success (refine H7 (x:=(Code.block 0 _)) ?_));first|refine G_x (A7 fun _=>D8 (m:=i) Z Z Z (by first|rfl|omega) hc0) Z Z ?_|refine Wz ?_|fail))
 refine X_jn 268427456 [] [(6,.d (dI (B2v (d.getD 0 0).toNat))),(7,.d (dI n))] [] ?_ ?_
 ·(repeat' (first|refine Wz ?_|apply Wd <;>intro hh))
  all_goals exact A6w (hf:=A6 (congrArg (fun z:Int=>some (Lf.d (dI z))) (by unfold B2v;(repeat' split) <;> omega)) (A6 (congrArg (fun z:Int=>some (Lf.d (dI z))) (by rw [hn];unfold A0x;(repeat' split) <;> omega)) (B8 _)))
 (repeat' (first|refine Wz ?_|apply Wd <;>intro hh))
 ·have:N4 d=none:=by unfold N4;rw [if_pos (by rw [← hn];omega)]
  simp only [fR,this]
  exact rXw hM
 have hle:i+n≤l.length:=oEw
 refine X_lp (ι:=Nat) 562932773552448 [] (fun k=>[(6,.d (dI (accP d k))),(8,.d (dI k))]) (fun _=>[]) (fun k=>1≤k∧k≤n) (fun k=>n-k) (1) ?_ ?_
 ·exact⟨Nat.le_refl _,hn1.1⟩
 rintro k ⟨hk1,hkn⟩
 have hac:=D8f d k oEw
 have hbk:=UInt8.toNat_lt (d.getD k 0)
 by_cases hlt:k<n
 ·have hck:l[i+k]?=some (d.getD k 0):=by rw [hd];exact B9f oEw
  have hstep:accP d (k+1)=accP d k*64+(d.getD k 0).toNat % 64:=by
   obtain⟨j,rfl⟩:∃ j,k=j+1:=⟨k-1,oEw⟩
   rfl
  (repeat' (first|refine G_x (A7 fun _=>D8 (m:=i+k) Z Z Z (by first|rfl|omega) hck) Z Z ?_|refine Wz ?_|apply Wd <;>intro hh))
  all_goals (try exact oMw)
  exact A0 (k+1) ⟨oEw,oEw⟩ oEw (A6 (congrArg (fun z:Int=>some (Lf.d (dI z))) (by rw [hstep];omega)) (A6 Z (B8 _)))
 ·have hkn':k=n:=oEw
  subst hkn'
  have hsc:=C8n (accP d k)
  have c3:=c301 (accP d k)
  rw [hsc] at c3
  cases hs:scal (accP d k) with
  | false=>
   rw [hs] at c3
   (repeat' (first|refine cDw G0j c3 ?_|refine Wz ?_|apply Wd <;>intro hh))
   all_goals (try exact oMw)
   have:N4 d=none:=by
    unfold N4
    rw [← hn,if_neg oEw,if_neg (by rw [hs];simp)]
   simp only [fR,this]
   exact rXw hM
  | true=>
   rw [hs] at c3
   have htake:(l.take (i+k)).drop i=d.take k:=by rw [hd,List.drop_take,Nat.add_sub_cancel_left]
   (repeat' (first|refine G_x (A3 Z Z Z G0j (c3)) Z Z ?_|refine G_x (A3 Z Z Z G7n (c302 _ (D6e hs))) Z Z ?_|refine G_x (A7 fun _=>N8 (a:=i) (b:=i+k) Z Z Z Z Z oEw oEw oEw) Z Z ?_|refine Wz ?_|apply Wd <;>intro hh))
   all_goals (try exact oMw)
   ·have hne:¬ encB (accP d k)=d.take k:=by rw [← htake];assumption
    have:N4 d=none:=by
     unfold N4
     rw [← hn,if_neg oEw,if_neg (fun h=>hne h.2)]
    simp only [fR,this]
    exact rXw hM
   ·have he:encB (accP d k)=d.take k:=by rw [← htake];exact Classical.not_not.1 (by assumption)
    have:N4 d=some (accP d k,k):=by
     unfold N4
     rw [← hn,if_neg oEw,if_pos ⟨hs,he⟩]
    simp only [fR,this]
    exact rXw hM
end
end Go.Proofs.YtojadfppncgphaaGreatDoor