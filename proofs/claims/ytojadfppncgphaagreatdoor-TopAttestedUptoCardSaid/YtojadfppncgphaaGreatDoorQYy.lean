/- Own text. -/
import Derived.Test.YtojadfppncgphaaGreatDoorQYx
set_option linter.all false
set_option maxHeartbeats 16000000
set_option maxRecDepth 8000
namespace Go.Proofs.YtojadfppncgphaaGreatDoor
section
open Go.RowKit Go.En Go.Dl Go.Tp
theorem A8k {α:Type}(f:Nat→α→Tr→Bool × Tr)(i:Nat)(x:α)(r:List α)(tr:Tr):Q8 f i (x::r) tr=if (f i x tr).1 then (true,(f i x tr).2) else Q8 f (i+1) r (f i x tr).2:=rfl
theorem C4l {l:List Int}(h:∀ q∈l,0≤q∧q<32):∀ {o:Nat},o<4294967296→l.foldl (fun out q=>out ||| 2 ^ q.toNat) o<4294967296:=by
 induction l with
 | nil=>intro o h;exact h
 | cons x r ih=>
  intro o ho
  rw [List.foldl_cons]
  exact ih (fun y hy=>h y (List.mem_cons_of_mem _ hy)) (C9l ho (by have:=h x (List.mem_cons_self ..);omega))
attribute [local irreducible] X XL XW XG XK Val LS Fp Fo Calls bodyPost Code.wp
abbrev prts (l:List Prt):Dt:=.s 3 (l.map prtC)
theorem c385 (parts:List Prt)(base:List Int)(id:Int):Fo Tryz.prog 385 [.d (prts parts),.d (ints base),.p 1002 0 0,.p 1003 0 0] [(1002,.box 3 [.d (dI id)]),(1003,.box 4 [.d (dB false)])] (.d (dB (!(parts.anyB fun p=>decide (p.entry=id))))) [(1002,.box 3 [.d (dI id)]),(1003,.box 4 [.d (dB (parts.anyB fun p=>decide (p.entry=id)))])]:=by
 refine fo_X (n:=22) Tryz.func385 rfl Tryz.ntmps385 rfl fun c hM=>?_
 (repeat' (first|refine Wz ?_|refine Wb fun hb=>?_))
 refine X_lp (ι:=Nat × Bool) 1046784 [1003] (fun s=>[(11,.d (dI s.1))]) (fun s=>[(1003,.box 4 [.d (dB s.2)])]) (fun s=>s.1≤parts.length∧(parts.anyB fun p=>decide (p.entry=id))=(s.2||(parts.drop s.1).anyB fun p=>decide (p.entry=id))) (fun s=>parts.length-s.1) ((0,false)) ?_ ?_
 ·exact⟨zLw,rfl⟩
 rintro⟨i,b⟩ ⟨hi,hq⟩
 dsimp only at hi hq ⊢
 by_cases hlt:i<parts.length
 ·obtain⟨x,hx⟩:=gex hlt
  rw [drp hx,List.anyB] at hq
  by_cases he:x.entry=id
  ·rw [decide_eq_true he] at hq
   (repeat' (first|refine iDw (gm hx) ?_|refine Wz ?_|apply Wd <;>intro hh))
   all_goals (try exact oMw)
   all_goals (first|exact absurd he (by assumption)|exact A0 (i+1,true) ⟨oDw,by dsimp only;rw [hq];simp⟩ (oDw))
  ·rw [decide_eq_false he,Bool.false_or] at hq
   (repeat' (first|refine iDw (gm hx) ?_|refine Wz ?_|apply Wd <;>intro hh))
   all_goals (try exact oMw)
   all_goals (first|exact absurd (by assumption) he|exact A0 (i+1,b) ⟨oDw,hq⟩ (oDw))
 ·rw [List.drop_eq_nil_of_le oEw,List.anyB,Bool.or_false] at hq
  rw [hq]
  (repeat' (first|refine Wz ?_|apply Wd <;>intro hh))
  all_goals (try exact oMw)
  (first|exact A9 hM Z Z Z tRw Z Z|exact C0 (A9 hM Z Z Z tRw Z Z))
section
variable (g : Lng)(w : List Int)(id : Int)
def C5p (k : Nat) : Prop := ∀ (parts : List Prt) (st : Nat) (base : List Int) (tr : Tr), parts.length + k = 4 → st < 4294967296 → base.length ≤ 24 → (∀ x ∈ base, 0 ≤ x ∧ x ≤ 255) →
 Fo Tryz.prog 387 [.p 1000 0 0,.d (prts parts),.d (.v (u32 st)),.d (ints base)] (srcH g w (shrB g.rules) (finP g.net.final) id false tr) (.d (dB (!(P0 g w id k parts st base tr).1)))
  (srcH g w (shrB g.rules) (finP g.net.final) id (P0 g w id k parts st base tr).1 (P0 g w id k parts st base tr).2)
def D3u (k : Nat) : Prop := ∀ (e : Entr) (parts : List Prt) (nx : Nat) (base : List Int) (tr : Tr), e ∈ g.lex → parts.length + k = 3 → nx < 4294967296 → base.length ≤ 24 → (∀ x ∈ base, 0 ≤ x ∧ x ≤ 255) →
 Fo Tryz.prog 391 [.p 1000 0 0,.g ((entC e).map .d),.d (prts parts),.d (.v (u32 nx)),.d (ints base)] (srcH g w (shrB g.rules) (finP g.net.final) id false tr) (.d (dB (!(A0n g w (P0 g w id k) e parts nx base tr).1)))
  (srcH g w (shrB g.rules) (finP g.net.final) id (A0n g w (P0 g w id k) e parts nx base tr).1 (A0n g w (P0 g w id k) e parts nx base tr).2)
variable {g w id}
theorem B4s (hg:LgS g)(hw:w.length≤24){k:Nat}(ih:C5p g w id k):D3u g w id k:=by
 intro e parts nx base tr he hpl hnx hbl hbx
 have cs:=c395 g.lex e.id (Nat.le_trans hg.lex oEw) hg.sens
 have cf:=c396 e (hg.alts e he)
 unfold A0n
 obtain⟨S,hS⟩:∃ S,senF g.lex e.id=S:=⟨_,rfl⟩
 rw [hS] at cs ⊢
 by_cases h0:S.length=0
 ·rw [if_pos h0]
  refine fo_X (n:=78) Tryz.func391 rfl Tryz.ntmps391 rfl fun c hM=>?_
  (repeat' (first|refine cDw D9y cs ?_|refine Wz ?_|apply Wd <;>intro hh))
  all_goals (try exact oMw)
  (first|exact A9 hM Z Z Z tRw Z Z|exact C0 (A9 hM Z Z Z tRw Z Z))
 rw [if_neg h0]
 obtain⟨shr,hshr⟩:∃ s,shrB g.rules=s:=⟨_,rfl⟩
 unfold C5p at ih
 rw [hshr] at ih ⊢
 obtain⟨W,hW⟩:∃ W,P0 g w id k=W:=⟨_,rfl⟩
 rw [hW] at ih ⊢
 obtain⟨f,hf⟩:∃ f:Nat→List Int→Tr→Bool × Tr,f=fun i f t=>if 24<base.length+f.length∨(shr=false∧w.length<base.length+f.length) then (false,t) else W (parts++[⟨e.id,(i:Int),0⟩]) nx (base++f) t:=⟨_,rfl⟩
 rw [← hf]
 obtain⟨fin,hfin⟩:∃ fin,finP g.net.final=fin:=⟨_,rfl⟩
 rw [hfin] at ih ⊢
 obtain⟨L,hL⟩:∃ L,A5n e=L:=⟨_,rfl⟩
 have hLf:∀ q∈L,q.length≤1000∧∀ x∈q,0≤x∧x≤255:=by rw [← hL];exact hg.forms e he
 rw [hL] at cf ⊢
 refine fo_X (n:=78) Tryz.func391 rfl Tryz.ntmps391 rfl fun c hM=>?_
 (repeat' (first|refine cDw D9y cs ?_|refine cDw G6y cf ?_|refine Wz ?_|refine Wb fun hb=>?_|apply Wd <;>intro hh))
 all_goals (try exact oMw)
 refine X_lp (ι:=Nat × Tr) 302231454903656756870144 [1001,1003] (fun s=>[(29,.d (dI s.1))]) (fun s=>[(1001,.mp 1 (s.2.map trD)),(1003,.box 4 [.d (dB false)])]) (fun s=>s.1≤L.length∧Q8 f s.1 (L.drop s.1) s.2=Q8 f 0 L tr) (fun s=>L.length-s.1) ((0,tr)) ?_ ?_
 ·exact⟨zLw,rfl⟩
 rintro⟨i,t⟩ ⟨hi,hq⟩
 dsimp only at hi hq ⊢
 by_cases hlt:i<L.length
 rotate_left
 ·rw [List.drop_eq_nil_of_le oEw,Q8] at hq
  rw [← hq]
  (repeat' (first|refine Wz ?_|apply Wd <;>intro hh))
  all_goals (try exact oMw)
  (first|exact A9 hM Z Z Z tRw Z Z|exact C0 (A9 hM Z Z Z tRw Z Z))
 obtain⟨q,hx⟩:=gex hlt
 have hqf:=hLf q (List.mem_of_getElem? hx)
 rw [drp hx,A8k] at hq
 by_cases hlong:24<base.length+q.length∨(shr=false∧w.length<base.length+q.length)
 ·have hfi:f i q t=(false,t):=by rw [hf];exact if_pos hlong
  rw [hfi,if_neg (by simp)] at hq
  cases shr
  all_goals (
   (repeat' (first|refine iDw (gm hx) ?_|refine Wz ?_|refine Wb fun hb=>?_|apply Wd <;>intro hh))
   all_goals (try exact oMw)
   all_goals (try (exfalso;simp at hlong;omega))
   all_goals exact A0 (i+1,t) ⟨oDw,hq⟩ (oDw))
 have hfi:f i q t=W (parts++[⟨e.id,(i:Int),0⟩]) nx (base++q) t:=by rw [hf];exact if_neg hlong
 rw [hfi] at hq
 have hbx2:∀ x∈base++q,0≤x∧x≤255:=fun x hx=>(List.mem_append.1 hx).elim (hbx x) (hqf.2 x)
 have hbl2:(base++q).length≤24:=by rw [List.length_append];omega
 have cr:=ih (parts++[⟨e.id,(i:Int),0⟩]) nx (base++q) t (by rw [List.length_append];simp;omega) hnx hbl2 hbx2
 obtain⟨R,hR⟩:∃ R,W (parts++[⟨e.id,(i:Int),0⟩]) nx (base++q) t=R:=⟨_,rfl⟩
 rw [hR] at cr hq
 have e1:prts (parts++[⟨e.id,(i:Int),0⟩])=.s 3 (([]++parts.map prtC)++[[dI e.id,dI i,dI 0]]):=by simp [prts,prtC]
 have e2:ints (base++q)=.s 1 (([]++base.map iC)++q.map iC):=by simp [ints]
 rw [e1,e2] at cr
 have hpl2:parts.length≤4:=oEw
 obtain⟨r1,r2⟩:=R
 dsimp only at cr hq
 cases r1 with
 | true=>
  rw [if_pos rfl] at hq
  rw [← hq]
  cases shr
  all_goals (
   (repeat' (first|refine iDw (gm hx) ?_|refine G_nd Z Z (L1 (len:=0) _ Z Z Z Z Z) Z ?_|(refine K6 72 Z Z (by simp;omega) ?_)|(refine K6 74 Z Z (by simp;omega) ?_)|refine G_c (B4 [(1000,1000),(1001,1001),(1002,1002),(1003,1003)] (cr) Z Z Z Z tRw D2c) Z Z Z ?_|refine Wz ?_|refine Wb fun hb=>?_|apply Wd <;>intro hh))
   all_goals (try exact oMw)
   all_goals (try (exfalso;simp at hlong;omega))
   all_goals (first|exact A9 hM Z Z Z tRw Z Z|exact C0 (A9 hM Z Z Z tRw Z Z)))
 | false=>
  rw [if_neg (by simp)] at hq
  cases shr
  all_goals (
   (repeat' (first|refine iDw (gm hx) ?_|refine G_nd Z Z (L1 (len:=0) _ Z Z Z Z Z) Z ?_|(refine K6 72 Z Z (by simp;omega) ?_)|(refine K6 74 Z Z (by simp;omega) ?_)|refine G_c (B4 [(1000,1000),(1001,1001),(1002,1002),(1003,1003)] (cr) Z Z Z Z tRw D2c) Z Z Z ?_|refine Wz ?_|refine Wb fun hb=>?_|apply Wd <;>intro hh))
   all_goals (try exact oMw)
   all_goals (try (exfalso;simp at hlong;omega))
   all_goals exact A0 (i+1,r2) ⟨oDw,hq⟩ (oDw) (hh':=hSw))
end
end
section
open Go.RowKit Go.En Go.Dl Go.Tp
attribute [local irreducible] X XL XW XG XK Val LS Fp Fo Calls bodyPost Code.wp
section
variable {g : Lng}{w : List Int}{id : Int}
def C2x (g:Lng)(w:List Int)(id:Int):Nat→List Prt→Nat→List Int→Bool × Tr→Bool × Tr
 | 0,_,_,_,hd=>hd
 | k + 1, parts, st, base, hd => if hd.1 then (true, hd.2) else
   Q8 (fun _ e t=>if aftP g.net.steps st e.cls≠0 then A0n g w (P0 g w id k) e parts (aftP g.net.steps st e.cls) base t else (false,t)) 0 g.lex hd.2
theorem C0f (k:Nat)(parts:List Prt)(st:Nat)(base:List Int)(tr:Tr):P0 g w id k parts st base tr=C2x g w id k parts st base (A4l g w id parts st base tr):=by cases k <;> rfl
theorem C0x (k:Nat)(parts:List Prt)(st:Nat)(base:List Int)(t:Tr):C2x g w id k parts st base (true,t)=(true,t):=by cases k <;> rfl
theorem A3j (hg:LgS g)(hw:w.length≤24){k:Nat}(ih:∀ k',k=k'+1→D3u g w id k'):C5p g w id k:=by
 intro parts st base tr hpl hst hbl hbx
 rw [C0f]
 have hfl:=C4l (l:=g.net.final) hg.final (o:=0) oEw
 obtain⟨shr,hshr⟩:∃ s,shrB g.rules=s:=⟨_,rfl⟩
 obtain⟨fin,hfin⟩:∃ fin,finP g.net.final=fin:=⟨_,rfl⟩
 have hfl:fin<4294967296:=by rw [← hfin];exact hfl
 have hcf:=c389 g w fin id false tr shr hg base hbl hbx
 have hcd:=c385 parts base id
 obtain⟨hd,hhd⟩:∃ hd,A4l g w id parts st base tr=hd:=⟨_,rfl⟩
 rw [hhd]
 unfold A4l at hhd
 rw [hfin] at hhd
 obtain⟨fd,hfd⟩:∃ fd,(parts.anyB fun p=>decide (p.entry=id))=fd:=⟨_,rfl⟩
 obtain⟨fs,hfs⟩:∃ fs,B3p g w base tr=fs:=⟨_,rfl⟩
 rw [hfd] at hcd hhd
 rw [hfs] at hcf hhd
 unfold D3u at ih
 rw [hshr,hfin] at ih ⊢
 have hand:st &&& fin<4294967296:=Nat.lt_of_le_of_lt Nat.and_le_left hst
 refine fo_X (n:=79) Tryz.func387 rfl Tryz.ntmps387 rfl fun c hM=>?_
 (repeat' ((fail_if_success (refine H7 (x:=(Code.region 1 _ _)) ?_));first|refine Wz ?_|fail))
 refine X_jn 562949953417216 [1001,1003] [(48,.d (dB hd.1))] [(1001,.mp 1 (hd.2.map trD)),(1003,.box 4 [.d (dB hd.1)])] ?_ ?_
 ·by_cases h0:parts.length=0
  ·rw [if_neg (fun h=>h.1 h0)] at hhd
   rw [← hhd]
   (repeat' (first|refine Wz ?_|refine Wb fun hb=>?_|apply Wd <;>intro hh))
   all_goals (try exact oMw)
   exact A6w (hF:=by(repeat (refine H5 Z ?_));first|exact H4 _|exact O7) (hH:=by(repeat (first|refine G8 Z ?_|refine G7 Z ?_));first|exact G6 _|exact O6)
  by_cases h1:st &&& fin=0
  ·rw [if_neg (fun h=>h.2.1 h1)] at hhd
   rw [← hhd]
   (repeat' (first|refine G_x (A7 fun _=>X4 (a:=st) (b:=fin) Z Z Z hst hfl) Z Z ?_|refine Wz ?_|refine Wb fun hb=>?_|apply Wd <;>intro hh))
   all_goals (try exact oMw)
   exact A6w (hF:=by(repeat (refine H5 Z ?_));first|exact H4 _|exact O7) (hH:=by(repeat (first|refine G8 Z ?_|refine G7 Z ?_));first|exact G6 _|exact O6)
  by_cases h2:w.length≤base.length
  rotate_left
  ·rw [if_neg (fun h=>h2 h.2.2)] at hhd
   rw [← hhd]
   (repeat' (first|refine G_x (A7 fun _=>X4 (a:=st) (b:=fin) Z Z Z hst hfl) Z Z ?_|refine Wz ?_|refine Wb fun hb=>?_|apply Wd <;>intro hh))
   all_goals (try exact oMw)
   exact A6w (hF:=by(repeat (refine H5 Z ?_));first|exact H4 _|exact O7) (hH:=by(repeat (first|refine G8 Z ?_|refine G7 Z ?_));first|exact G6 _|exact O6)
  rw [if_pos ⟨h0,h1,h2⟩] at hhd
  obtain⟨f1,f2⟩:=fs
  dsimp only at hhd hcf
  rw [← hhd]
  cases f1
  ·(repeat' (first|refine G_x (A7 fun _=>X4 (a:=st) (b:=fin) Z Z Z hst hfl) Z Z ?_|refine G_c (B4 [(1000,1000),(1001,1001),(1002,1002),(1003,1003)] (hcf) Z Z Z Z tRw G0c) Z Z Z ?_|refine Wz ?_|refine Wb fun hb=>?_|apply Wd <;>intro hh))
   all_goals (try exact oMw)
   exact A6w (hF:=by(repeat (refine H5 Z ?_));first|exact H4 _|exact O7) (hH:=by(repeat (first|refine G8 Z ?_|refine G7 Z ?_));first|exact G6 _|exact O6)
  ·cases fd
   all_goals (
    (repeat' (first|refine G_x (A7 fun _=>X4 (a:=st) (b:=fin) Z Z Z hst hfl) Z Z ?_|refine G_c (B4 [(1000,1000),(1001,1001),(1002,1002),(1003,1003)] (hcf) Z Z Z Z tRw G0c) Z Z Z ?_|refine G_c (J8 [(1002,1002),(1003,1003)] (hcd) Z Z Z Z Z tRw G7b) Z Z Z ?_|refine Wz ?_|refine Wb fun hb=>?_|apply Wd <;>intro hh))
    all_goals (try exact oMw)
    exact A6w (hF:=by(repeat (refine H5 Z ?_));first|exact H4 _|exact O7) (hH:=by(repeat (first|refine G8 Z ?_|refine G7 Z ?_));first|exact G6 _|exact O6))
 obtain⟨h1,h2⟩:=hd
 dsimp only
 cases h1 with
 | true=>
  rw [C0x]
  (repeat' (first|refine Wz ?_|fail))
  (first|exact A9 hM Z Z Z tRw Z Z|exact C0 (A9 hM Z Z Z tRw Z Z))
 | false=>
  cases k with
  | zero=>
   rw [show C2x g w id 0 parts st base (false,h2)=(false,h2) from rfl]
   (repeat' (first|refine Wz ?_|refine Wb fun hb=>?_|apply Wd <;>intro hh))
   all_goals (try exact oMw)
   (first|exact A9 hM Z Z Z tRw Z Z|exact C0 (A9 hM Z Z Z tRw Z Z))
  | succ k=>
   have ihk:=ih k rfl
   obtain⟨f,hf⟩:∃ f:Nat→Entr→Tr→Bool × Tr,f=fun _ e t=>if aftP g.net.steps st e.cls≠0 then A0n g w (P0 g w id k) e parts (aftP g.net.steps st e.cls) base t else (false,t):=⟨_,rfl⟩
   rw [show C2x g w id (k+1) parts st base (false,h2)=Q8 f 0 g.lex h2 by rw [hf];rfl]
   (repeat' (first|refine Wz ?_|refine Wb fun hb=>?_|apply Wd <;>intro hh))
   all_goals (try exact oMw)
   refine X_lp (ι:=Nat × Tr) 604462621576938435644672 [1001,1003] (fun s=>[(58,.d (dI s.1))]) (fun s=>[(1001,.mp 1 (s.2.map trD)),(1003,.box 4 [.d (dB false)])]) (fun s=>s.1≤g.lex.length∧Q8 f s.1 (g.lex.drop s.1) s.2=Q8 f 0 g.lex h2) (fun s=>g.lex.length-s.1) ((0,h2)) ?_ ?_
   ·exact⟨zLw,rfl⟩
   rintro⟨i,t⟩ ⟨hi,hq⟩
   dsimp only at hi hq ⊢
   by_cases hlt:i<g.lex.length
   rotate_left
   ·rw [List.drop_eq_nil_of_le oEw,Q8] at hq
    rw [← hq]
    (repeat' (first|refine Wz ?_|apply Wd <;>intro hh))
    all_goals (try exact oMw)
    (first|exact A9 hM Z Z Z tRw Z Z|exact C0 (A9 hM Z Z Z tRw Z Z))
   obtain⟨e,hx⟩:=gex hlt
   have hmem:=List.mem_of_getElem? hx
   rw [drp hx,A8k] at hq
   have ca:=c390 g w shr fin id false t hg st e.cls hst
   have hnl:=D8e hg st e.cls
   obtain⟨nx,hnx⟩:∃ nx,aftP g.net.steps st e.cls=nx:=⟨_,rfl⟩
   have hfi:f i e t=if nx≠0 then A0n g w (P0 g w id k) e parts nx base t else (false,t):=by rw [hf,← hnx]
   rw [hnx] at ca hnl
   by_cases hn0:nx=0
   ·rw [if_neg (by simp [hn0])] at hfi
    rw [hfi,if_neg (by simp)] at hq
    (repeat' (first|refine iDw (gm hx) ?_|refine G_c (B4 [(1000,1000),(1001,1001),(1002,1002),(1003,1003)] (ca) Z Z Z Z tRw D2b) Z Z Z ?_|refine Wz ?_|apply Wd <;>intro hh))
    all_goals (try exact oMw)
    exact A0 (i+1,t) ⟨oDw,hq⟩ (oDw) (hh':=hSw)
   ·rw [if_pos hn0] at hfi
    rw [hfi] at hq
    have cs:=ihk e parts nx base t hmem oEw hnl hbl hbx
    obtain⟨R,hR⟩:∃ R,A0n g w (P0 g w id k) e parts nx base t=R:=⟨_,rfl⟩
    rw [hR] at cs hq
    obtain⟨r1,r2⟩:=R
    dsimp only at cs hq
    cases r1 with
    | true=>
     rw [if_pos rfl] at hq
     rw [← hq]
     (repeat' (first|refine iDw (gm hx) ?_|refine G_c (B4 [(1000,1000),(1001,1001),(1002,1002),(1003,1003)] (ca) Z Z Z Z tRw D2b) Z Z Z ?_|refine G_c (B4 [(1000,1000),(1001,1001),(1002,1002),(1003,1003)] (cs) Z Z Z Z tRw G0b) Z Z Z ?_|refine Wz ?_|apply Wd <;>intro hh))
     all_goals (try exact oMw)
     (first|exact A9 hM Z Z Z tRw Z Z|exact C0 (A9 hM Z Z Z tRw Z Z))
    | false=>
     rw [if_neg (by simp)] at hq
     (repeat' (first|refine iDw (gm hx) ?_|refine G_c (B4 [(1000,1000),(1001,1001),(1002,1002),(1003,1003)] (ca) Z Z Z Z tRw D2b) Z Z Z ?_|refine G_c (B4 [(1000,1000),(1001,1001),(1002,1002),(1003,1003)] (cs) Z Z Z Z tRw G0b) Z Z Z ?_|refine Wz ?_|apply Wd <;>intro hh))
     all_goals (try exact oMw)
     exact A0 (i+1,r2) ⟨oDw,hq⟩ (oDw) (hh':=hSw)
theorem c387 (hg:LgS g)(hw:w.length≤24):∀ k,C5p g w id k
 | 0=>A3j hg hw fun _ h=>by cases h
 | k+1=>A3j hg hw fun k' h=>by cases h;exact B4s hg hw (c387 hg hw k)
end
end
end Go.Proofs.YtojadfppncgphaaGreatDoor
namespace Go.Dl
open Go.RowKit Go.En
theorem Fo.sub {P:Program}{f:FuncId}{ys ys':List Lf}{H he:Hp}{x:Lf}(h:Fo P f ys H x he)(hs:∀ γ G w us,LR.LsR γ G w false ys' us→LR.LsR γ G w false ys us):Fo P f ys' H x he:=fun γ G w us hw hv=>h γ G w us hw (hs γ G w us hv)
theorem C5s {γ:Gh}{G:Nat→Prop}{w:World}{x y:Lf}{xs ys:List Lf}(h:∀ u,LR γ G w x u→LR γ G w y u)(k:∀ us,LR.LsR γ G w false xs us→LR.LsR γ G w false ys us):∀ us,LR.LsR γ G w false (x::xs) us→LR.LsR γ G w false (y::ys) us:=fun us e=>by
 rw [LR.LsR] at e ⊢
 obtain⟨u,q,h1,h2,h3,h4⟩:=e
 exact⟨u,q,h1,h2,h u h3,k q h4⟩
theorem D4m {γ:Gh}{G:Nat→Prop}{w:World}{sz:Nat}:∀ u,LR γ G w (.d (.v (.slice none 0 0))) u→LR γ G w (.d (.s sz [])) u:=fun u h=>by
 rw [LR] at h ⊢
 exact wk_r .nil h
end Go.Dl
namespace Go.Proofs.YtojadfppncgphaaGreatDoor
section
open Go.RowKit Go.En Go.Dl Go.Tp
attribute [local irreducible] X XL XW XG XK Val LS Fp Fo Calls bodyPost Code.wp
theorem c384 (g:Lng)(w:List Int)(id:Int)(hg:LgS g):Fo Tryz.prog 384 [.g ((lngC g).map .d),.d (ints w),.f (.func 385) [.p 1000 0 0,.p 1001 0 0] ] [(1000,.box 3 [.d (dI id)]),(1001,.box 4 [.d (dB false)])] (.t []) [(1000,.box 3 [.d (dI id)]),(1001,.box 4 [.d (dB (A3m g w id))])]:=by
 unfold A3m
 by_cases hw:w.length=0∨24<w.length
 ·rw [if_pos hw]
  refine fo_X (n:=46) Tryz.func384 rfl Tryz.ntmps384 rfl fun c hM=>?_
  (repeat' (first|refine Wz ?_|refine Wb fun hb=>?_|apply Wd <;>intro hh))
  all_goals (try exact oMw)
  all_goals (first|exact A9 hM Z Z Z tRw Z Z|exact C0 (A9 hM Z Z Z tRw Z Z))
 rw [if_neg hw]
 have cm:=c386 g.rules
 have cw:=c387 (id:=id) hg (show w.length≤24 by omega) 4 [] 1 [] [] rfl oEw (by simp) (fun x hx=>by cases hx)
 obtain⟨R,hR⟩:∃ R,P0 g w id 4 [] 1 [] []=R:=⟨_,rfl⟩
 rw [hR] at cw ⊢
 obtain⟨shr,hshr⟩:∃ s,shrB g.rules=s:=⟨_,rfl⟩
 rw [hshr] at cm cw
 obtain⟨r1,r2⟩:=R
 dsimp only at cw ⊢
 have cw':=cw.sub (ys':=[.p 1000 0 0,.d (.v (.slice none 0 0)),.d (.v (u32 1)),.d (.v (.slice none 0 0))]) (fun γ G wo=>C5s (fun _ h=>h) (C5s D4m (C5s (fun _ h=>h) (C5s D4m fun _ h=>h))))
 have hfe:finP g.net.final=g.net.final.foldl (fun out q=>out ||| 2 ^ q.toNat) 0:=rfl
 rw [hfe] at cw'
 refine fo_X (n:=46) Tryz.func384 rfl Tryz.ntmps384 rfl fun c hM=>?_
 (repeat' (first|refine cDw G7a cm ?_|refine G_nd Z Z (Z6 _ 1 rfl) Z ?_|refine Wz ?_|refine Wb fun hb=>?_|apply Wd <;>intro hh))
 all_goals (try exact oMw)
 refine X_lp (ι:=Nat) 17591112302848 [25] (fun i=>[(30,.d (dI i))]) (fun i=>[(25,.box 478 ((lngC g).map .d++[.d (ints w),.d (dB shr),.d (.v (u32 ((g.net.final.take i).foldl (fun out q=>out ||| 2 ^ q.toNat) 0))),.m 22,.f (.func 385) [.p 1000 0 0,.p 1001 0 0] ]))]) (fun i=>i≤g.net.final.length) (fun i=>g.net.final.length-i) (0) ?_ ?_
 ·exact zLw
 rintro i hi
 by_cases hlt:i<g.net.final.length
 rotate_left
 ·have hz:i=g.net.final.length:=oEw
  subst hz
  rw [List.take_length]
  (repeat' (first|refine G_c (B4 [(1000,25),(1001,22),(1002,1000),(1003,1001)] (cw') Z Z Z Z tRw D2c) Z Z Z ?_|refine Wz ?_|apply Wd <;>intro hh))
  all_goals (try exact oMw)
  (first|exact A9 hM Z Z Z tRw Z Z|exact C0 (A9 hM Z Z Z tRw Z Z))
 obtain⟨x,hx⟩:=gex hlt
 have hxf:=hg.final x (List.mem_of_getElem? hx)
 have hfold:=J0 (f:=fun(out:Nat) (q:Int)=>out ||| 2 ^ q.toNat) (b:=0) hx
 have hol:=C4l (l:=g.net.final.take i) (fun y hy=>hg.final y (List.mem_of_mem_take hy)) (o:=0) oEw
 obtain⟨o,ho⟩:∃ o,(g.net.final.take i).foldl (fun out q=>out ||| 2 ^ q.toNat) 0=o:=⟨_,rfl⟩
 rw [ho] at hfold hol ⊢
 obtain⟨q,rfl⟩:∃ q:Nat,x=(q:Int):=⟨x.toNat,oEw⟩
 have hpow:2 ^ q<4294967296:=Nat.pow_lt_pow_right (m:=q) (n:=32) oEw oEw
 simp only [Int.toNat_natCast] at hfold
 (repeat' (first|refine G_x (A2 (m:=i) Z Z Z Z (gm hx)) Z Z ?_|refine G_x (A7 fun _=>B1e (q:=q) Z Z Z oEw) Z Z ?_|refine G_x (A7 fun _=>B6r (a:=o) (b:=2 ^ q) Z Z Z hol hpow) Z Z ?_|refine Wz ?_|apply Wd <;>intro hh))
 all_goals (try exact oMw)
 exact A0 (i+1) oEw oEw (hh:=A1 (by rw [hfold];rfl) (A4 _))
theorem c383 (g:Lng)(w:List Int)(id:Int)(hg:LgS g):Fp Tryz.prog 383 [.g (lngC g),ints w,dI id] (dB (A3m g w id)):=by
 have c1:=c384 g w id hg
 refine fXw Tryz.func383 Tryz.ntmps383 fun c hM=>?_
 (repeat' (first|refine G_c (B4 [(1000,5),(1001,7)] (c1) Z Z Z Z tRw G7c) Z Z Z ?_|refine Wz ?_|fail))
 exact rXw hM
theorem c49 (l:List Entr)(id:Int):Fp Tryz.prog 49 [.s 8 (l.map entC),dI id] (fRes entC ent0 (getE l id)):=by
 refine fXw Tryz.func49 Tryz.ntmps49 fun c hM=>?_
 have hx:=Q5 (fun e=>decide (e.id=id)) l 0
 unfold getE
 rcases hx with⟨h1,h2⟩|⟨i,x,h1,h2,h3⟩
 ·have cl:=c126 l id
  rw [show ixF (fun e=>decide (e.id=id)) l 0 = -1 from h1] at cl
  rw [h2]
  (repeat' (first|refine G_c (B4 [(1000,3)] (cl) Z Z Z Z tRw C4z) Z Z Z ?_|refine Wz ?_|apply Wd <;>intro hh))
  all_goals (try exact oMw)
  exact rXw hM
 ·have cl:=c126 l id
  rw [Nat.zero_add] at h1
  rw [show ixF (fun e=>decide (e.id=id)) l 0=(i:Int) from h1] at cl
  rw [h3]
  (repeat' (first|refine G_c (B4 [(1000,3)] (cl) Z Z Z Z tRw C4z) Z Z Z ?_|refine iDw (gm h2) ?_|refine Wz ?_|apply Wd <;>intro hh))
  all_goals (try exact oMw)
  exact rXw hM
structure OrS (o:Orth):Prop where
 graph:∀ u∈o.units,u.graph.length≤1000000
 segs:∀ u∈o.units,u.segs.length≤1000
abbrev read3 (r:List Int × Int × Int):Dt:=.t [ints r.1,dI r.2.1,dI r.2.2]
theorem c199 (o : Orth)(s : Tx)(ho : OrS o)(hs : s.length ≤ 1000) : Fp Tryz.prog 199 [.g (A0h o), dS s] (read3 (A3s o.units s)) := by
 unfold A3s
 by_cases h0:s=[]
 ·rw [if_pos h0]
  subst h0
  refine fXw Tryz.func199 Tryz.ntmps199 fun c hM=>?_
  (repeat' (first|refine Wz ?_|apply Wd <;>intro hh))
  all_goals (first|exact absurd rfl (by assumption)|exact rXw hM)
 rw [if_neg h0]
 have cu:=c247 o s oEw ho.graph
 have hix:=A7y o.units s.length s
 obtain⟨U,hU⟩:∃ U,O4 o.units s=U:=⟨_,rfl⟩
 have hix:(∀ i∈U.1,i<o.units.length)∧U.1.length≤s.length:=by rw [← hU];exact hix
 rw [hU] at cu ⊢
 obtain⟨l,z⟩:=U
 dsimp only at cu hix ⊢
 by_cases h1:z<s.length
 ·rw [if_pos h1]
  refine fXw Tryz.func199 Tryz.ntmps199 fun c hM=>?_
  (repeat' (first|refine cDw G0q cu ?_|refine Wz ?_|refine Wb fun hb=>?_|apply Wd <;>intro hh))
  all_goals (first|exact absurd (by assumption) h0|(exfalso;omega)|exact rXw hM)
 rw [if_neg h1]
 have hnl:(natI l).length=l.length:=by simp [natI]
 refine fXw Tryz.func199 Tryz.ntmps199 fun c hM=>?_
 (repeat' (first|refine cDw G0q cu ?_|refine Wz ?_|refine Wb fun hb=>?_|apply Wd <;>intro hh))
 all_goals (try (exact absurd (by assumption) h0))
 all_goals (try exact oMw)
 refine D0 9 9 3 1 Z Z ?_
 refine X_lp (ι:=Nat × Nat) 1099377412608 [9] (fun q=>[(9,.o 9 q.2),(27,.d (dI q.1))]) (fun q=>[(9,.ls 3 1 q.2 ((outU o.units (l.take q.1)).map iC))]) (fun q=>q.1≤l.length) (fun q=>l.length-q.1) ((0,0)) ?_ ?_
 ·exact zLw
 rintro⟨i,v⟩ hi
 dsimp only at hi ⊢
 have hol:(outU o.units (l.take i)).length≤1000*i:=by
  have:∀ q:List Nat,(outU o.units q).length≤1000*q.length:=by
   intro q
   induction q with
   | nil=>exact Nat.le_refl _
   | cons j r ih=>
    unfold outU at ih ⊢
    rw [List.flatMap_cons,List.length_append,List.length_cons]
    have:(((o.units[j]?).map (·.segs)).getD []).length≤1000:=by
     cases hj:o.units[j]? with
     | none=>exact zLw
     | some u=>exact ho.segs u (List.mem_of_getElem? hj)
    omega
  have:=this (l.take i)
  rw [List.length_take] at this
  omega
 by_cases hlt:i<l.length
 ·obtain⟨j,hj⟩:=gex hlt
  have hjl:=hix.1 j (List.mem_of_getElem? hj)
  obtain⟨u,hu⟩:=gex hjl
  have hus:=ho.segs u (List.mem_of_getElem? hu)
  have hjI:(natI l)[i]?=some (j:Int):=by unfold natI;rw [List.getElem?_map,hj];rfl
  have hrow:(outU o.units (l.take (i+1))).map iC=(outU o.units (l.take i)).map iC++u.segs.map iC:=by
   unfold outU
   rw [List.take_add_one,hj,List.flatMap_append]
   simp [hu]
  obtain⟨A,hA⟩:∃ A,outU o.units (l.take i)=A:=⟨_,rfl⟩
  rw [hA] at hol hrow ⊢
  (repeat' (first|refine iDw (gm hjI) ?_|refine iDw (gm hu) ?_|refine Wz ?_|apply Wd <;>intro hh))
  all_goals (try exact oMw)
  exact A0 (i+1,v+1) (oDw) (oDw) (hh:=A1 (by dsimp only;rw [hrow];rfl) (A4 _))
 ·have hz:i=l.length:=oEw
  subst hz
  rw [List.take_length] at hol ⊢
  obtain⟨A,hA⟩:∃ A,outU o.units l=A:=⟨_,rfl⟩
  rw [hA] at hol ⊢
  by_cases h2:24<A.length
  ·rw [if_pos h2]
   (repeat' (first|refine Wz ?_|apply Wd <;>intro hh))
   all_goals (try exact oMw)
   exact rXw hM
  ·rw [if_neg h2]
   (repeat' (first|refine Wz ?_|apply Wd <;>intro hh))
   all_goals (try exact oMw)
   refine B9 4 Z Z lOw ?_
   exact rXw hM
theorem c381 (id:Int):Fp Tryz.prog 381 [.g [],dI id] (dB false):=by
 refine fXw Tryz.func381 Tryz.ntmps381 fun c hM=>?_
 (repeat' (first|refine Wz ?_|fail))
 exact rXw hM
theorem c382 (g:Lng)(w:List Int)(id:Int)(hg:LgS g):Fp Tryz.prog 382 [.g (lngC g++[ints w]),dI id] (dB (A3m g w id)):=by
 have c1:=c383 g w id hg
 refine fXw Tryz.func382 Tryz.ntmps382 fun c hM=>?_
 (repeat' (first|refine cDw G7d c1 ?_|refine Wz ?_|fail))
 exact rXw hM
abbrev lt275 (x y:Note):Bool:=decide (ordF x y<0)
theorem c275 (l:List Note)(n:Nat)(hl:l.length≤1000):Fo Tryz.prog 275 [.o 1000 n,.d (dI 0),.d (dI l.length),.d (.v (.func (.func 201) #[] #[]))] [(1000,.ls 142 7 n (l.map C4))] (.t []) [(1000,.ls 142 7 n ((isrt lt275 l).map C4))]:=by
 refine fo_X (n:=53) Tryz.func275 rfl Tryz.ntmps275 rfl fun c hM=>?_
 (repeat' (first|refine Wz ?_|fail))
 refine X_lp (ι:=Nat × List Note) 9007199254737664 [1000] (fun s=>[(8,.d (dI s.1))]) (fun s=>[(1000,.ls 142 7 n (s.2.map C4))]) (fun s=>1≤s.1∧(s.1≤l.length∨s.1=1)∧s.2=isrt lt275 (l.take s.1)++l.drop s.1) (fun s=>l.length-s.1) ((1,l)) ?_ ?_
 ·exact⟨Nat.le_refl _,.inr rfl,by rw [B8p,List.take_append_drop]⟩
 rintro⟨i,D⟩ ⟨hi1,hi,hD⟩
 dsimp only at hi1 hi hD ⊢
 obtain⟨pre,hpre⟩:∃ pre,isrt lt275 (l.take i)=pre:=⟨_,rfl⟩
 rw [hpre] at hD
 by_cases hlt:i<l.length
 rotate_left
 ·(repeat' (first|refine Wz ?_|apply Wd <;>intro hh))
  all_goals (try exact oMw)
  rw [hD,← hpre,List.take_of_length_le oEw,List.drop_eq_nil_of_le oEw,List.append_nil]
  (first|exact A9 hM Z Z Z tRw Z Z|exact C0 (A9 hM Z Z Z tRw Z Z))
 obtain⟨x,hx⟩:=gex hlt
 have hpl:pre.length=i:=by rw [← hpre,S0,List.length_take];omega
 rw [B1l hx hpl] at hD
 have hnx:=B3d lt275 hx
 rw [hpre] at hnx
 obtain⟨rest,hrest⟩:∃ rest,l.drop (i+1)=rest:=⟨_,rfl⟩
 rw [hrest] at hD
 have hrl:rest.length=l.length-(i+1):=by rw [← hrest,List.length_drop]
 subst hD
 (repeat' (first|refine Wz ?_|apply Wd <;>intro hh))
 all_goals (try exact oMw)
 refine X_lp (ι:=Nat) 9007199254479360 [1000] (fun j=>[(9,.d (dI j))]) (fun j=>[(1000,.ls 142 7 n ((swp pre x rest j).map C4))]) (fun j=>j≤i∧insN (lt275 x) pre pre.length=insN (lt275 x) pre j) (fun j=>j) (i) ?_ ?_
 ·exact⟨Nat.le_refl _,by rw [hpl]⟩
 rintro j ⟨hj,hins⟩
 have hfin:∀ k,insN (lt275 x) pre pre.length=k→insL lt275 pre x++rest=isrt lt275 (l.take (i+1))++l.drop (i+1):=fun k _=>by rw [hnx,hrest]
 cases j with
 | zero=>
  (repeat' (first|refine Wz ?_|apply Wd <;>intro hh))
  all_goals (try exact oMw)
  rw [A7c lt275 (show insN (lt275 x) pre pre.length=0 from hins)]
  skip
  exact A0 (i+1,insL lt275 pre x++rest) ⟨oDw,.inl (oDw),hfin _ hins⟩ (oDw)
 | succ j=>
  obtain⟨y,hy⟩:=gex (l:=pre) (i:=j) oEw
  have hsl:(swp pre x rest (j+1)).length=l.length:=by rw [C2n,hrl,hpl];omega
  have h1:=D8z (pre:=pre) (x:=x) (rest:=rest) (j:=j+1) oEw
  have h2:=D8y (x:=x) (rest:=rest) hy
  obtain⟨D,hDD⟩:∃ D,swp pre x rest (j+1)=D:=⟨_,rfl⟩
  have hnext:=B7e (x:=x) (rest:=rest) hy
  have hend:=A7c (rest:=rest) lt275 (pre:=pre) (x:=x) (j:=j+1)
  rw [hDD] at hsl h1 h2 hnext hend ⊢
  have cc:=c201 x y
  obtain⟨z,hz⟩:∃ z,ordF x y=z:=⟨_,rfl⟩
  rw [hz] at cc
  by_cases hc:z<0
  ·have hi2:=A9f (p:=lt275 x) hy (by show decide (ordF x y<0)=true;rw [hz];exact decide_eq_true hc)
   have h3:(D.set (j+1) y)[j]?=some y:=by rw [List.getElem?_set_ne oEw];exact h2
   (repeat' (first|refine G_x (A8 (m:=j+1) Z Z Z Z (by first|rfl|omega) lOw) Z Z ?_|refine G_x (A8 (m:=j) Z Z Z Z (by first|rfl|omega) lOw) Z Z ?_|refine G_x (J7 (m:=j+1) Z Z Z Z (by first|rfl|omega) (gm h1)) Z Z ?_|refine G_x (J7 (m:=j) Z Z Z Z (by first|rfl|omega) (gm h2)) Z Z ?_|refine G_x (Q4 Z Z Z Z G0z (cc)) Z Z ?_|refine G_s (N1 (m:=j+1) (j:=0) (q':=y) Z Z Z Z Z Z (by first|rfl|omega) h1 (by decide) rfl) Z Z Z ?_|refine G_s (N1 (m:=j) (j:=0) (q':=x) Z Z Z Z Z Z (by first|rfl|omega) h3 (by decide) rfl) Z Z Z ?_|refine Wz ?_|apply Wd <;>intro hh))
   all_goals (try exact oMw)
   rw [hnext]
   exact A0 j ⟨oEw,by rw [hins,hi2]⟩ oEw (hf:=A6 (congrArg (fun z:Int=>some (Lf.d (dI z))) oEw) (B8 _))
  ·have hi2:=B5m (p:=lt275 x) hy (by show decide (ordF x y<0)=false;rw [hz];exact decide_eq_false hc)
   (repeat' (first|refine G_x (A8 (m:=j+1) Z Z Z Z (by first|rfl|omega) lOw) Z Z ?_|refine G_x (A8 (m:=j) Z Z Z Z (by first|rfl|omega) lOw) Z Z ?_|refine G_x (J7 (m:=j+1) Z Z Z Z (by first|rfl|omega) (gm h1)) Z Z ?_|refine G_x (J7 (m:=j) Z Z Z Z (by first|rfl|omega) (gm h2)) Z Z ?_|refine G_x (Q4 Z Z Z Z G0z (cc)) Z Z ?_|refine Wz ?_|apply Wd <;>intro hh))
   all_goals (try exact oMw)
   rw [hend (hins.trans hi2)]
   exact A0 (i+1,insL lt275 pre x++rest) ⟨oDw,.inl (oDw),hfin _ (hins.trans hi2)⟩ (oDw)
abbrev lt278 (x y:Spn):Bool:=decide (cmpI x.frm y.frm<0)
theorem c278 (l:List Spn)(n:Nat)(hl:l.length≤1000):Fo Tryz.prog 278 [.o 1000 n,.d (dI 0),.d (dI l.length),.d (.v (.func (.func 210) #[] #[]))] [(1000,.ls 82 2 n (l.map spnC))] (.t []) [(1000,.ls 82 2 n ((isrt lt278 l).map spnC))]:=by
 refine fo_X (n:=53) Tryz.func278 rfl Tryz.ntmps278 rfl fun c hM=>?_
 (repeat' (first|refine Wz ?_|fail))
 refine X_lp (ι:=Nat × List Spn) 9007199254737664 [1000] (fun s=>[(8,.d (dI s.1))]) (fun s=>[(1000,.ls 82 2 n (s.2.map spnC))]) (fun s=>1≤s.1∧(s.1≤l.length∨s.1=1)∧s.2=isrt lt278 (l.take s.1)++l.drop s.1) (fun s=>l.length-s.1) ((1,l)) ?_ ?_
 ·exact⟨Nat.le_refl _,.inr rfl,by rw [B8p,List.take_append_drop]⟩
 rintro⟨i,D⟩ ⟨hi1,hi,hD⟩
 dsimp only at hi1 hi hD ⊢
 obtain⟨pre,hpre⟩:∃ pre,isrt lt278 (l.take i)=pre:=⟨_,rfl⟩
 rw [hpre] at hD
 by_cases hlt:i<l.length
 rotate_left
 ·(repeat' (first|refine Wz ?_|apply Wd <;>intro hh))
  all_goals (try exact oMw)
  rw [hD,← hpre,List.take_of_length_le oEw,List.drop_eq_nil_of_le oEw,List.append_nil]
  (first|exact A9 hM Z Z Z tRw Z Z|exact C0 (A9 hM Z Z Z tRw Z Z))
 obtain⟨x,hx⟩:=gex hlt
 have hpl:pre.length=i:=by rw [← hpre,S0,List.length_take];omega
 rw [B1l hx hpl] at hD
 have hnx:=B3d lt278 hx
 rw [hpre] at hnx
 obtain⟨rest,hrest⟩:∃ rest,l.drop (i+1)=rest:=⟨_,rfl⟩
 rw [hrest] at hD
 have hrl:rest.length=l.length-(i+1):=by rw [← hrest,List.length_drop]
 subst hD
 (repeat' (first|refine Wz ?_|apply Wd <;>intro hh))
 all_goals (try exact oMw)
 refine X_lp (ι:=Nat) 9007199254479360 [1000] (fun j=>[(9,.d (dI j))]) (fun j=>[(1000,.ls 82 2 n ((swp pre x rest j).map spnC))]) (fun j=>j≤i∧insN (lt278 x) pre pre.length=insN (lt278 x) pre j) (fun j=>j) (i) ?_ ?_
 ·exact⟨Nat.le_refl _,by rw [hpl]⟩
 rintro j ⟨hj,hins⟩
 have hfin:∀ k,insN (lt278 x) pre pre.length=k→insL lt278 pre x++rest=isrt lt278 (l.take (i+1))++l.drop (i+1):=fun k _=>by rw [hnx,hrest]
 cases j with
 | zero=>
  (repeat' (first|refine Wz ?_|apply Wd <;>intro hh))
  all_goals (try exact oMw)
  rw [A7c lt278 (show insN (lt278 x) pre pre.length=0 from hins)]
  skip
  exact A0 (i+1,insL lt278 pre x++rest) ⟨oDw,.inl (oDw),hfin _ hins⟩ (oDw)
 | succ j=>
  obtain⟨y,hy⟩:=gex (l:=pre) (i:=j) oEw
  have hsl:(swp pre x rest (j+1)).length=l.length:=by rw [C2n,hrl,hpl];omega
  have h1:=D8z (pre:=pre) (x:=x) (rest:=rest) (j:=j+1) oEw
  have h2:=D8y (x:=x) (rest:=rest) hy
  obtain⟨D,hDD⟩:∃ D,swp pre x rest (j+1)=D:=⟨_,rfl⟩
  have hnext:=B7e (x:=x) (rest:=rest) hy
  have hend:=A7c (rest:=rest) lt278 (pre:=pre) (x:=x) (j:=j+1)
  rw [hDD] at hsl h1 h2 hnext hend ⊢
  have cc:=c210 x y
  obtain⟨z,hz⟩:∃ z,cmpI x.frm y.frm=z:=⟨_,rfl⟩
  rw [hz] at cc
  by_cases hc:z<0
  ·have hi2:=A9f (p:=lt278 x) hy (by show decide (cmpI x.frm y.frm<0)=true;rw [hz];exact decide_eq_true hc)
   have h3:(D.set (j+1) y)[j]?=some y:=by rw [List.getElem?_set_ne oEw];exact h2
   (repeat' (first|refine G_x (A8 (m:=j+1) Z Z Z Z (by first|rfl|omega) lOw) Z Z ?_|refine G_x (A8 (m:=j) Z Z Z Z (by first|rfl|omega) lOw) Z Z ?_|refine G_x (J7 (m:=j+1) Z Z Z Z (by first|rfl|omega) (gm h1)) Z Z ?_|refine G_x (J7 (m:=j) Z Z Z Z (by first|rfl|omega) (gm h2)) Z Z ?_|refine G_x (Q4 Z Z Z Z G0x (cc)) Z Z ?_|refine G_s (N1 (m:=j+1) (j:=0) (q':=y) Z Z Z Z Z Z (by first|rfl|omega) h1 (by decide) rfl) Z Z Z ?_|refine G_s (N1 (m:=j) (j:=0) (q':=x) Z Z Z Z Z Z (by first|rfl|omega) h3 (by decide) rfl) Z Z Z ?_|refine Wz ?_|apply Wd <;>intro hh))
   all_goals (try exact oMw)
   rw [hnext]
   exact A0 j ⟨oEw,by rw [hins,hi2]⟩ oEw (hf:=A6 (congrArg (fun z:Int=>some (Lf.d (dI z))) oEw) (B8 _))
  ·have hi2:=B5m (p:=lt278 x) hy (by show decide (cmpI x.frm y.frm<0)=false;rw [hz];exact decide_eq_false hc)
   (repeat' (first|refine G_x (A8 (m:=j+1) Z Z Z Z (by first|rfl|omega) lOw) Z Z ?_|refine G_x (A8 (m:=j) Z Z Z Z (by first|rfl|omega) lOw) Z Z ?_|refine G_x (J7 (m:=j+1) Z Z Z Z (by first|rfl|omega) (gm h1)) Z Z ?_|refine G_x (J7 (m:=j) Z Z Z Z (by first|rfl|omega) (gm h2)) Z Z ?_|refine G_x (Q4 Z Z Z Z G0x (cc)) Z Z ?_|refine Wz ?_|apply Wd <;>intro hh))
   all_goals (try exact oMw)
   rw [hend (hins.trans hi2)]
   exact A0 (i+1,insL lt278 pre x++rest) ⟨oDw,.inl (oDw),hfin _ (hins.trans hi2)⟩ (oDw)
theorem H0w (l:List Spn):Fp Tryz.prog 205 [spnD l,.v (.func (.func 208) #[] #[])] (dI (ixF (fun x=>!A5 x) l 0)):=by
 refine fXw Tryz.func205 Tryz.ntmps205 fun c hM=>?_
 (repeat' (first|refine Wz ?_|refine Wb fun hb=>?_))
 refine X_lp (ι:=Nat) 524080 [] (fun i=>[(8,.d (dI i))]) (fun _=>[]) (fun i=>i≤l.length∧ixF (fun x=>!A5 x) l 0=ixF (fun x=>!A5 x) (l.drop i) i) (fun i=>l.length-i) (0) ?_ ?_
 ·exact⟨zLw,rfl⟩
 rintro i ⟨hi,hq⟩
 by_cases hlt:i<l.length
 ·obtain⟨n,hn⟩:=gex hlt
  have cl:=c208 n
  obtain⟨b,hb⟩:∃ b,(!A5 n)=b:=⟨_,rfl⟩
  rw [hb] at cl
  rw [drp hn,ixF,hb] at hq
  cases b
  all_goals (
   (repeat' (first|refine iDw (gm hn) ?_|refine G_x (Q4 Z Z Z Z D2l (cl)) Z Z ?_|refine Wz ?_|apply Wd <;>intro hh))
   all_goals (try exact oMw)
   all_goals (first|exact A0 (i+1) ⟨oEw,by rw [hq];rfl⟩ oEw|(refine rEw hM ?_;rw [hq];rfl)))
 ·(repeat' (first|refine Wz ?_|apply Wd <;>intro hh))
  all_goals (try exact oMw)
  rw [hq,List.drop_eq_nil_of_le oEw]
  refine rEw hM ?_
  rfl
end
end Go.Proofs.YtojadfppncgphaaGreatDoor