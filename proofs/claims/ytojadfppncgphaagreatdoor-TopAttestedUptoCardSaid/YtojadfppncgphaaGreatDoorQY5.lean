/- Own text. -/
import Derived.Test.YtojadfppncgphaaGreatDoorQYw
import Derived.Lib.TrimAscii
set_option linter.all false
set_option maxHeartbeats 16000000
set_option maxRecDepth 8000
namespace Go.Proofs.YtojadfppncgphaaGreatDoor
section
open Go.RowKit Go.En Go.Dl Go.Tp
def jE1 (l:List Rf):Entr:=⟨1,[1,2],1,[],0,[⟨[100,111,103],[]⟩],[],l⟩
def jE2 (l:List Rf):Entr:=⟨2,[3,4],2,[],0,[⟨[80,76],[]⟩],[],l⟩
def jO:Orth:=⟨[109,97,105,110],[⟨[98],[1]⟩,⟨[97],[2]⟩,⟨[112],[3]⟩,⟨[105],[4]⟩],[]⟩
def jG (a b:List Rf):Lng:=⟨[⟨[98],2⟩,⟨[97],3⟩,⟨[112],0⟩,⟨[105],11⟩],jO,[⟨[3],[1],[⟨1,1⟩],[⟨1,1⟩],false,false⟩],⟨2,[⟨0,1,1⟩,⟨1,2,1⟩],[1]⟩,[jE1 a,jE2 b]⟩
def jD:Doc:=⟨⟨5,[116],1000,1,[1]⟩,[⟨[116,101,120,116],0,1,-1⟩,⟨[119,111,114,100],2,2,0⟩,⟨[109,111,114,112,104],3,3,1⟩,⟨[103,108,111,115,115],4,4,2⟩],[⟨1,0,0,0,900,0,[]⟩,⟨2,1,1,0,400,0,[98,97,98,105]⟩]⟩
def jDcn:Dcn:=⟨⟨5,2⟩,true,[⟨1,0,0⟩,⟨2,0,0⟩]⟩
def jPt:Pnt:=⟨1,[112,108,117,114,97,108],[],[],[⟨5,2⟩]⟩
def jR:Rgts:=⟨[⟨1,[65,110,97],true⟩],[],[⟨1,0,10,2⟩],[]⟩
def jP (b:List Rf):Prj:=⟨jG [⟨5,2⟩] b,[jD],[jDcn],[jPt],jR⟩
def jV:Vwr:=⟨0,10⟩
theorem D0q:prjL (jP [])=true:=by kernel_rfl
theorem D0p:prjL (jP [⟨5,2⟩])=true:=by kernel_rfl
theorem j_q0:(P1 (jP []) jV).lang.lex.length=0∧(P1 (jP []) jV).dcns.length=0∧(P1 (jP []) jV).docs.length=1:=by
 have h:((P1 (jP []) jV).lang.lex.length,(P1 (jP []) jV).dcns.length,(P1 (jP []) jV).docs.length)=(0,0,1):=by kernel_rfl
 simp only [Prod.mk.injEq] at h
 exact h
theorem j_q1:P1 (jP [⟨5,2⟩]) jV=jP [⟨5,2⟩]:=by kernel_rfl
end
end Go.Proofs.YtojadfppncgphaaGreatDoor
namespace Go.Dl
open Go.RowKit Go.En
def wq (x y:Dt):Prop:=∀(G:Nat→Prop) (w:World) (u:Value),DR G w x u→DR G w y u
def wqs (a b:List Dt):Prop:=a.length=b.length∧(∀(G:Nat→Prop) (w:World) (bl off:Nat),DR.cellsR G w bl off a→DR.cellsR G w bl off b)∧∀(G:Nat→Prop) (w:World) (one:Bool) (vs:List Value),DR.valsR G w one a vs→DR.valsR G w one b vs
def wqr (A B:List (List Dt)):Prop:=A.length=B.length∧∀(G:Nat→Prop) (w:World) (b sz off:Nat),DR.rowsR G w b sz off A→DR.rowsR G w b sz off B
theorem B6i {x y:Dt}(h:x=y):wq x y:=fun _ _ _ e=>h▸e
theorem A7l {sz:Nat}:wq (.v (.slice none 0 0)) (.s sz []):=fun _ _ _ h=>wk_r .nil h
theorem C2a:wqs [] []:=⟨rfl,fun _ _ _ _ h=>h,fun _ _ _ _ h=>h⟩
theorem T4 {x y:Dt}{a b:List Dt}(h:wq x y)(k:wqs a b):wqs (x::a) (y::b):=by
 refine⟨by rw [List.length_cons,List.length_cons,k.1],fun G w bl off e=>?_,fun G w one vs e=>?_⟩
 ·rw [DR.cellsR] at e ⊢
  obtain⟨⟨u,h1,h2,h3⟩,h4⟩:=e
  exact⟨⟨u,h1,h2,h _ _ _ h3⟩,k.2.1 _ _ _ _ h4⟩
 ·rw [DR.valsR] at e ⊢
  obtain⟨u,us,h1,h2,h3,h4⟩:=e
  exact⟨u,us,h1,h2,h _ _ _ h3,k.2.2 _ _ _ _ h4⟩
theorem G2z {a b:List Dt}(h:a=b):wqs a b:=by subst h;exact⟨rfl,fun _ _ _ _ h=>h,fun _ _ _ _ h=>h⟩
theorem D5a:wqr [] []:=⟨rfl,fun _ _ _ _ _ h=>h⟩
theorem C7m {a b:List Dt}{A B:List (List Dt)}(h:wqs a b)(k:wqr A B):wqr (a::A) (b::B):=by
 refine⟨by rw [List.length_cons,List.length_cons,k.1],fun G w bl sz off e=>?_⟩
 rw [DR.rowsR] at e ⊢
 obtain⟨⟨h1,h2⟩,h3⟩:=e
 exact⟨⟨by rw [← h.1];exact h1,h.2.1 _ _ _ _ h2⟩,k.2 _ _ _ _ _ h3⟩
theorem wq_s {sz:Nat}{A B:List (List Dt)}(h:wqr A B):wq (.s sz A) (.s sz B):=fun G w u e=>by
 rw [DR] at e ⊢
 rw [← h.1]
 obtain⟨a,cap,h1,h2,h3,h4⟩:=e
 refine⟨a,cap,h1,h2,h3,fun h0=>?_⟩
 obtain⟨b,off,h5,h6,h7⟩:=h4 h0
 exact⟨b,off,h5,h6,h.2 _ _ _ _ _ h7⟩
def wL (x y:Lf):Prop:=∀(γ:Gh) (G:Nat→Prop) (w:World) (u:Value),LR γ G w x u→LR γ G w y u
def wLs (a b:List Lf):Prop:=∀(γ:Gh) (G:Nat→Prop) (w:World) (one:Bool) (vs:List Value),LR.LsR γ G w one a vs→LR.LsR γ G w one b vs
theorem N7 {x y:Lf}(h:x=y):wL x y:=fun _ _ _ _ e=>h▸e
theorem wL_d {x y:Dt}(h:wq x y):wL (.d x) (.d y):=fun γ G w u e=>by
 rw [LR] at e ⊢;exact h _ _ _ e
theorem C2f:wLs [] []:=fun _ _ _ _ _ h=>h
theorem C9 {x y:Lf}{a b:List Lf}(h:wL x y)(k:wLs a b):wLs (x::a) (y::b):=fun γ G w one vs e=>by
 rw [LR.LsR] at e ⊢
 obtain⟨u,us,h1,h2,h3,h4⟩:=e
 exact⟨u,us,h1,h2,h _ _ _ _ h3,k _ _ _ _ _ h4⟩
theorem wL_g {a b:List Lf}(h:wLs a b):wL (.g a) (.g b):=fun γ G w u e=>by
 rw [LR] at e ⊢
 obtain⟨vs,h1,h2⟩:=e
 exact⟨vs,h1,h _ _ _ _ _ h2⟩
theorem Fo.wq {P:Program}{f:FuncId}{ys:List Lf}{x y:Lf}{k sz n:Nat}{e:TypeId}{A B:List (List Dt)}(h:Fo P f ys [] x [(k,.ls e sz n A)])(hx:wL x y)(hr:wqs A.flatten B.flatten)(hl:B.length=A.length)(hs:∀ r∈B,r.length=sz):Fo P f ys [] y [(k,.ls e sz n B)]:=fun γ G w us hw hu=>by
 refine Calls.mono (h γ G w us hw hu) ?_
 intro en w' hh
 obtain⟨v,rfl,γ',G',E⟩:=hh
 have hlo:∀ j (R:List (List Dt)),lo [(k,Ob.ls e sz n R)] j=if k=j then some (.ls e sz n R) else none:=fun j R=>by rw [D3];rfl
 have hsome:∀ j ob,lo [(k,Ob.ls e sz n B)] j=some ob→j=k∧ob=.ls e sz n B∧lo [(k,Ob.ls e sz n A)] j=some (.ls e sz n A):=fun j ob h1=>by
  rw [hlo] at h1
  split at h1
  ·rename_i hkj
   cases h1
   exact⟨hkj.symm,rfl,by rw [hlo,if_pos hkj]⟩
  ·cases h1
 have hnone:∀ j,lo [(k,Ob.ls e sz n B)] j=none↔lo [(k,Ob.ls e sz n A)] j=none:=fun j=>by
  rw [hlo,hlo];split <;> simp
 refine⟨v,rfl,γ',G',?_⟩
 have hTb:∀ b,Tb γ (dom []) [] [(k,Ob.ls e sz n A)] b→Tb γ (dom []) [] [(k,Ob.ls e sz n B)] b:=fun b ⟨j,hj,_⟩=>by cases hj
 have hTb2:∀ b,Tb γ (dom []) [] [(k,Ob.ls e sz n B)] b→Tb γ (dom []) [] [(k,Ob.ls e sz n A)] b:=fun b ⟨j,hj,_⟩=>by cases hj
 exact {
  kx:=E.kx.wk fun q _=>hTb q
  gg:=E.gg
  gn:=fun b hb=>by
   obtain⟨h1,h2⟩:=E.gn b hb
   refine⟨h1,?_⟩
   rcases h2 with h2|h2|h2
   ·exact .inl h2
   ·exact .inr (.inl h2)
   ·exact .inr (.inr (hTb b h2))
  gh:=fun j hj=>E.gh j ((hnone j).1 hj)
  gv:=fun j hj hk=>by cases hk
  ob:=fun j ob hj=>by
   obtain⟨rfl,rfl,h3⟩:=hsome j ob hj
   obtain⟨h4,h5,vs,h6,h7⟩:=E.ob _ _ h3
   exact⟨h4,hs,vs,by rw [hl];exact h6,hr.2.2 _ _ _ _ h7⟩
  ow:=fun j ob b hj hb=>by
   obtain⟨rfl,rfl,h3⟩:=hsome j ob hj
   obtain⟨h4,h5,h6⟩:=E.ow _ _ b h3 hb
   refine⟨h4,h5,?_⟩
   rcases h6 with h6|h6
   ·exact .inl h6
   ·exact .inr (hTb b h6)
  ds:=fun j j' ob ob' b hj hj' hb hb'=>by
   obtain⟨rfl,rfl,h3⟩:=hsome j ob hj
   obtain⟨rfl,rfl,h4⟩:=hsome j' ob' hj'
   rfl
  lr:=fun z hz=>by
   cases hz
   exact hx _ _ _ _ (E.lr _ rfl) }
end Go.Dl
namespace Go.Proofs.YtojadfppncgphaaGreatDoor
section
open Go.RowKit Go.En Go.Dl Go.Tp
abbrev lngJ (g:Lng)(k n:Nat):Lf:=.g (((lngC g).take 8).map .d++[.o k n])
abbrev nilD:Dt:=.v (.slice none 0 0)
def rE1:List Dt:=[dI 1,ints [1,2],dI 1,nilD,dI 0,.s 2 [[dS [100,111,103],dS []]],nilD,nilD]
def rE2:List Dt:=[dI 2,ints [3,4],dI 2,nilD,dI 0,.s 2 [[dS [80,76],dS []]],nilD,nilD]
abbrev rG:Lf:=.g [.d (.s 2 ((jG [] []).segs.map phC)),.d (dS jO.name),.d (.s 2 (jO.units.map untC)),.d nilD,.d (.s 6 ((jG [] []).rules.map rewC)),.d (dI 2),.d (.s 3 ((jG [] []).net.steps.map stC)),.d (ints [1]),.o 44 0]
attribute [local irreducible] X XL XW XG XK Val LS Fp Fo Calls bodyPost Code.wp
theorem c64r:Fo Tryz.prog 64 [] [] rG [(44,.ls 99 8 0 [rE1,rE2])]:=by
 refine fo_X (n:=47) Tryz.func64 rfl Tryz.ntmps64 rfl fun c hM=>?_
 (repeat' (first|(refine G_nd Z Z (L1 (t:=34) _ Z Z Z Z Z) Z ?_)|refine Wz ?_|fail))
 all_goals (try exact oMw)
 (first|exact A9 hM Z Z Z tRw Z Z|exact C0 (A9 hM Z Z Z tRw Z Z))
theorem c65:Fp Tryz.prog 65 [] (.t [.g (docC jD),dcns [jDcn]]):=by
 refine fXw Tryz.func65 Tryz.ntmps65 fun c hM=>?_
 (repeat' (first|refine Wz ?_|fail))
 all_goals (try exact oMw)
 exact rXw hM
theorem c64o:Fo Tryz.prog 64 [] [] (lngJ (jG [] []) 44 0) [(44,.ls 99 8 0 ([jE1 [],jE2 []].map entC))]:=
 Fo.wq c64r (wL_g (C9 (N7 rfl) (C9 (N7 rfl) (C9 (N7 rfl) (C9 (wL_d A7l) (C9 (N7 rfl) (C9 (N7 rfl) (C9 (N7 rfl) (C9 (N7 rfl) (C9 (N7 rfl) C2f))))))))))
  (by
   show wqs (rE1++(rE2++[])) (entC (jE1 [])++(entC (jE2 [])++[]))
   unfold rE1 rE2
   repeat (first|exact C2a|refine T4 (B6i rfl) ?_|refine T4 A7l ?_)) rfl
  (fun r hr=>by
   rcases List.mem_cons.1 hr with rfl|hr
   ·rfl
   ·obtain rfl:=List.mem_singleton.1 hr;rfl)
abbrev prjJ (p:Prj)(k n:Nat):Lf:=.g (((prjC p).take 8).map .d++[.o k n]++((prjC p).drop 9).map .d)
abbrev rP:Lf:=.g (((lngC (jG [] [])).take 8).map .d++[.o 905 0]++[.d (docs [jD]),.d (dcns [jDcn]),.d (.s 5 [[dI 1,dS jPt.title,dS [],nilD,refs [⟨5,2⟩]]]),.d (.s 3 (jR.people.map M5)),.d nilD,.d (.s 4 (jR.consents.map Y7)),.d nilD])
abbrev jrf:List Rf:=[⟨5,2⟩]
theorem c25r:Fo Tryz.prog 25 [] [] rP [(905,.ls 99 8 0 ([jE1 jrf,jE2 []].map entC))]:=by
 have h0:([jE1 [],jE2 []]:List Entr)[0]?=some (jE1 []):=rfl
 refine fo_X (n:=33) Tryz.func25 rfl Tryz.ntmps25 rfl fun c hM=>?_
 (repeat' (first|refine G_c (B4 [(44,905)] (c64o) Z Z Z Z tRw en64) Z Z Z ?_|refine cDw en65 c65 ?_|refine G_x (A8 (m:=0) Z Z Z Z (by first|rfl|omega) lOw) Z Z ?_|refine G_s (N1 (m:=0) (j:=7) (q':=jE1 jrf) Z Z Z Z Z Z (by first|rfl|omega) h0 (by decide) rfl) Z Z Z ?_|refine Wz ?_|fail))
 all_goals (try exact oMw)
 (first|exact A9 hM Z Z Z tRw Z Z|exact C0 (A9 hM Z Z Z tRw Z Z))
theorem c25o:Fo Tryz.prog 25 [] [] (prjJ (jP []) 905 0) [(905,.ls 99 8 0 ([jE1 jrf,jE2 []].map entC))]:=
 Fo.wq c25r (wL_g (C9 (N7 rfl) (C9 (N7 rfl) (C9 (N7 rfl) (C9 (N7 rfl) (C9 (N7 rfl) (C9 (N7 rfl) (C9 (N7 rfl) (C9 (N7 rfl) (C9 (N7 rfl)
  (C9 (N7 rfl) (C9 (N7 rfl) (C9 (wL_d (wq_s (C7m (T4 (B6i rfl) (T4 (B6i rfl) (T4 (B6i rfl) (T4 A7l (T4 (B6i rfl) C2a))))) D5a))) (C9 (N7 rfl) (C9 (wL_d A7l) (C9 (N7 rfl) (C9 (wL_d A7l) C2f)))))))))))))))))
  (G2z rfl) rfl
  (fun r hr=>by
   rcases List.mem_cons.1 hr with rfl|hr
   ·rfl
   ·obtain rfl:=List.mem_singleton.1 hr;rfl)
end
end Go.Proofs.YtojadfppncgphaaGreatDoor
namespace Go.En
open Go Go.RowKit
structure Kv (S:Nat→Prop)(A C:World):Prop where
 os:C.os=A.os
 tape:C.tape=A.tape
 output:C.output=A.output
 size:A.heap.size≤C.heap.size
 same:∀ k o,A.heap[k]?=some o→¬ (S k∧o.isCells=true)→C.heap[k]?=some o
structure Ki (N:Nat)(A C:World):Prop where
 os:C.os=A.os
 tape:C.tape=A.tape
 output:C.output=A.output
 size:A.heap.size≤C.heap.size
 same:∀ k o,A.heap[k]?=some o→(k<N∨o.isCells=true)→C.heap[k]?=some o
structure Kl (S:Nat→Prop)(l:Nat)(A C:World):Prop where
 os:C.os=A.os
 tape:C.tape=A.tape
 output:C.output=A.output
 size:A.heap.size≤C.heap.size
 same:∀ k o,k≠l→A.heap[k]?=some o→¬ (S k∧o.isCells=true)→C.heap[k]?=some o
theorem Kl.trans {S:Nat→Prop}{l:Nat}{A B C:World}(h:Kl S l A B)(k:Kl S l B C):Kl S l A C:=⟨k.os.trans h.os,k.tape.trans h.tape,k.output.trans h.output,Nat.le_trans h.size k.size,fun i o hl hi hn=>k.same i o hl (h.same i o hl hi hn) hn⟩
theorem Kl.of {S:Nat→Prop}{l:Nat}{A C:World}(h:Kv S A C):Kl S l A C:=⟨h.os,h.tape,h.output,h.size,fun k o _ ho hn=>h.same k o ho hn⟩
theorem Kl.put (S:Nat→Prop)(W:World)(l:Nat)(o:Obj):Kl S l W (W.putObj l o):=⟨rfl,rfl,rfl,by simp,fun k q hk hq _=>(World.putObj_heap_other hk).trans hq⟩
theorem Kv.refl (S:Nat→Prop)(A:World):Kv S A A:=⟨rfl,rfl,rfl,Nat.le_refl _,fun _ _ h _=>h⟩
theorem Kv.trans {S:Nat→Prop}{A B C:World}(h:Kv S A B)(k:Kv S B C):Kv S A C:=⟨k.os.trans h.os,k.tape.trans h.tape,k.output.trans h.output,Nat.le_trans h.size k.size,fun i o hi hn=>k.same i o (h.same i o hi hn) hn⟩
theorem A9q {A C:World}(h:Ext A C){k:Nat}{o:Obj}(ho:A.heap[k]?=some o):C.heap[k]?=some o:=(h.block (Array.getElem?_eq_some_iff.1 ho).1).trans ho
theorem Kv.of_ext {S:Nat→Prop}{A C:World}(h:Ext A C):Kv S A C:=⟨h.os,h.tape,h.output,h.size,fun _ _ ho _=>A9q h ho⟩
theorem Ki.of_ext {N:Nat}{A C:World}(h:Ext A C):Ki N A C:=⟨h.os,h.tape,h.output,h.size,fun _ _ ho _=>A9q h ho⟩
theorem Ki.mono {N M:Nat}{A C:World}(h:Ki N A C)(hM:M≤N):Ki M A C:=⟨h.os,h.tape,h.output,h.size,fun k o ho hk=>h.same k o ho (hk.imp (fun e=>Nat.lt_of_lt_of_le e hM) id)⟩
theorem Ki.trans {N:Nat}{A B C:World}(h:Ki N A B)(k:Ki N B C):Ki N A C:=⟨k.os.trans h.os,k.tape.trans h.tape,k.output.trans h.output,Nat.le_trans h.size k.size,fun i o hi hn=>k.same i o (h.same i o hi hn) hn⟩
theorem Ki.put {N l:Nat}{W:World}{o o':Obj}(hl:N≤l)(ho:W.heap[l]?=some o)(hc:o.isCells=false):Ki N W (W.putObj l o'):=⟨rfl,rfl,rfl,by simp,fun k q hq hk=>by
 by_cases e:k=l
 ·subst e;rw [ho] at hq;cases hq
  rcases hk with h|h
  ·omega
  ·rw [hc] at h;cases h
 ·exact(World.putObj_heap_other e).trans hq⟩
theorem Ki.row {N:Nat}{A C:World}{b:Nat}{t:TypeId}{cs:List Value}(h:Ki N A C)(hr:Row A b t cs):Row C b t cs:=h.same b _ hr (.inr rfl)
theorem Ki.ext {N:Nat}{w A C:World}(h:Ki N A C)(hx:Ext w A)(hN:w.heap.size≤N):Ext w C:=⟨h.os.trans hx.os,h.tape.trans hx.tape,h.output.trans hx.output,Nat.le_trans hx.size h.size,fun k hk=>by
 have h1:=hx.block hk
 have h2:w.heap[k]?=some w.heap[k]:=Array.getElem?_eq_getElem hk
 rw [h2] at h1 ⊢
 exact h.same k _ h1 (.inl (by omega))⟩
theorem Kv.ext {S:Nat→Prop}{w A C:World}(h:Kv S A C)(hx:Ext w A)(hS:∀ k,S k→w.heap.size≤k):Ext w C:=⟨h.os.trans hx.os,h.tape.trans hx.tape,h.output.trans hx.output,Nat.le_trans hx.size h.size,fun k hk=>by
 have h1:=hx.block hk
 have h2:w.heap[k]?=some w.heap[k]:=Array.getElem?_eq_getElem hk
 rw [h2] at h1 ⊢
 exact h.same k _ h1 fun e=>by have:=hS k e.1;omega⟩
theorem Ki.own {N:Nat}{A C:World}{B:Nat}{e:TypeId}{sz n:Nat}{v:Value}{xs:List Value}(h:Ki N A C)(ho:A.ownsRow B e sz v n xs):C.ownsRow B e sz v n xs:=by
 refine⟨ho.1,?_⟩
 rcases ho.2 with h2|⟨g,cap,cur,rfl,h3,h4,h5⟩
 ·exact .inl h2
 ·exact .inr ⟨g,cap,cur,rfl,h3,h.same g _ h4 (.inr rfl),h5⟩
def SeqV (T : Nat → Prop)(n : Nat)(P : Program)(g : Nat)(lb : Array Value)(encs : Int → Array Value)(zs : List Int)(w : World) : Prop :=
 ∀(l:Nat) (J Jx:List Int→World→Prop) (W:World),w.heap.size≤l→l<W.heap.size→Ext w W→(∀ s A C,J s A→Ki W.heap.size A C→J s C)→(∀ s A C,Jx s A→Ki W.heap.size A C→Jx s C)→
  (∀ pre x W1,J pre W1→pre++[x] <+: zs→YieldAt Fence.wide (n-1) P l (encs x) W1 fun e W'=>
   (e=.returned (.bool true)∧J (pre++[x]) W'∧Kl T l W1 W')∨(e=.returned (.bool false)∧Jx (pre++[x]) W'∧Kl T l W1 W'))→
  J [] W→
  CallsIn Fence.wide n P g (#[.func (.yield l) #[] #[]]++lb) W fun e W'=>(∃ v,e=.returned v)∧(J zs W'∨∃ pre,pre <+: zs∧Jx pre W')
def D9h (T:Nat→Prop)(I Ix:List Int→World→Prop)(xs:List Int)(W:World):Exit→Act→World→Prop
 | .normal,_,W'=>Kv T W W'∧I xs W'
 | .ret,_,W'=>Kv T W W'∧Ix xs W'
 | .exit _,_,_=>False
 | .goto _,_,_=>False
 | .panic _,_,_=>False
 | .outgrown,_,_=>False
theorem X1 {P : Program}{n : Nat}{g : Operand}{ps : Array Tmp}{assign body : Code}{Q : Exit → Act → World → Prop}{a : Act}{w : World}
  (h1:1≤n) {gf:Nat} {lb:Array Value} (hg:a.eval g=.func (.func gf) #[] lb) (eg:∀ args w,(callFunc gf args).run P w=.ok (.enter gf args) w)
  {encs:Int→Array Value} {zs:List Int} {T:Nat→Prop} (hseq:SeqV T (n-1) P gf lb encs zs w) (hps:∀ x,(encs x).size=ps.size)
  (I Ix:List Int→World→Prop) (hI:∀ s A C,I s A→Ki w.heap.size A C→I s C) (hIx:∀ s A C,Ix s A→Ki w.heap.size A C→Ix s C) (h0:I [] w)
  (Ax:Int→Act→World→Prop) (hAx:∀ x a' A C,Ax x a' A→Ki w.heap.size A C→Ax x a' C)
  (hassign:∀(l:Nat) (pre:List Int) (x:Int) (W:World) (K:Act→World→Prop),w.heap.size+2≤W.heap.size→I pre W→pre++[x] <+: zs→(∀ a' W',Ext W W'→I pre W'→Ax x a' W'→K a' W')→
   assign.wpIn (Fence.wide.inRound l) (n-1-1) P (Exit.then K (fun _ _ _=>False)) { tmps:=(ps.zip (encs x)).foldl (fun t (p,v)=>t.setIfInBounds p v) a.tmps,defers:=[] } W)
  (hbody:∀(l:Nat) (pre:List Int) (x:Int) (a':Act) (W:World),w.heap.size+2≤W.heap.size→I pre W→Ax x a' W→pre++[x] <+: zs→body.wpIn (Fence.wide.inRound l) (n-1-1) P (D9h T I Ix (pre++[x]) W) a' W)
  (hdone:∀(W:World),I zs W→W.heap[w.heap.size]?=some (.deferred (some []))→Q .normal { a with defers:={ target:=.collected w.heap.size,args:=#[] }::a.defers } W)
  (hstop:∀(pre:List Int) (W:World),pre <+: zs→Ix pre W→W.heap[w.heap.size]?=some (.deferred (some []))→Code.ret.wpIn Fence.wide n P Q { a with defers:={ target:=.collected w.heap.size,args:=#[] }::a.defers } W) :
  (Code.rangeFunc g ps assign body).wpIn Fence.wide n P Q a w:=by
 refine wpIn_rangeFunc ?_
 intro fn hfn
 have hro:Fence.wide.round=none:=rfl
 rw [hro]
 obtain⟨rec,hrec⟩:∃ rec:LoopState→Option Code→Loop,rec=fun st pe=>{ state:=st,pending:=pe,fn,tmps:=a.tmps,params:=ps,assign,body,defers:=w.heap.size }:=⟨_,rfl⟩
 obtain⟨W1,hW1⟩:∃ W1,(w.alloc (.deferred (some []))).alloc (.loop (rec .ready none))=W1:=⟨_,rfl⟩
 have hL1:W1.heap[w.heap.size+1]?=some (.loop (rec .ready none)):=by
  rw [← hW1];have:=World.alloc_heap_new (w.alloc (.deferred (some []))) (.loop (rec .ready none));rwa [World.size_alloc] at this
 have hK1:W1.heap[w.heap.size]?=some (.deferred (some [])):=by
  rw [← hW1];exact(Below.heap_alloc _ _ _ (by simp)).trans (World.alloc_heap_new w _)
 have hxW:Ext w W1:=by
  rw [← hW1];exact((Below.refl _ w).alloc (Nat.le_refl _) _).alloc (by simp) _
 have hI1:I [] W1:=hI _ _ _ h0 (Ki.of_ext hxW)
 refine⟨w.heap.size+1,[{ target:=.collected w.heap.size,args:=#[] }],W1,{ target:=.fn (.func gf) lb,args:=#[.func (.yield (w.heap.size+1)) #[] #[]] },W1,gf,
  #[.func (.yield (w.heap.size+1)) #[] #[]]++lb,W1,?_,?_,?_,?_,fun _=>h1,?_⟩
 ·rw [← hW1,hrec];exact run_enterLoop_outer _ _ _ _ _
 ·simp only [resolve,hg]
  simp [go_sem]
 ·intro f' hf';trivial
 ·simp [invoke,go_sem,eg]
 ·have hs1:w.heap.size+1<W1.heap.size:=(Array.getElem?_eq_some_iff.1 hL1).1
  have hS1:∀(X:List Int→World→Prop) (st:LoopState) (pe:Option Code),(∀ s A C,X s A→Ki w.heap.size A C→X s C)→∀ s A C,(X s A∧A.heap[w.heap.size+1]?=some (.loop (rec st pe))∧A.heap[w.heap.size]?=some (.deferred (some [])))→Ki W1.heap.size A C→
    (X s C∧C.heap[w.heap.size+1]?=some (.loop (rec st pe))∧C.heap[w.heap.size]?=some (.deferred (some []))):=fun X st pe hX s A C hs hx=>
   ⟨hX s A C hs.1 (hx.mono (by omega)),hx.same _ _ hs.2.1 (.inl hs1),hx.same _ _ hs.2.2 (.inl (by omega))⟩
  have kzp:∀(W:World) (q:Loop) (o:Obj),W.heap[w.heap.size+1]?=some (.loop q)→Ki w.heap.size W (W.putObj (w.heap.size+1) o):=fun W q o ho=>Ki.put (by omega) ho rfl
  refine(hseq (w.heap.size+1)
   (fun pre W=>I pre W∧W.heap[w.heap.size+1]?=some (.loop (rec .ready none))∧W.heap[w.heap.size]?=some (.deferred (some [])))
   (fun pre W=>Ix pre W∧W.heap[w.heap.size+1]?=some (.loop (rec .done (some .ret)))∧W.heap[w.heap.size]?=some (.deferred (some [])))
   W1 (by omega) (Array.getElem?_eq_some_iff.1 hL1).1 hxW (hS1 I _ _ hI) (hS1 Ix _ _ hIx) ?_ ⟨hI1,hL1,hK1⟩).mono ?_
  ·rintro pre x W ⟨hi,hl,hk⟩ hpre
   have hlt:w.heap.size+1<W.heap.size:=(Array.getElem?_eq_some_iff.1 hl).1
   have hy:=run_yield (P:=P) (args:=encs x) hl (by rw [hrec];exact hps x)
   rw [hrec] at hy
   refine⟨fn,_,assign,body,hy,roundIn_of_wpIn hfn (hassign _ pre x W _ (by omega) hi hpre ?_)⟩
   clear hy
   intro a' Wa hbl hia hax
   replace hl:=(hbl.block (Array.getElem?_eq_some_iff.1 hl).1).trans hl
   replace hk:=(hbl.block (Array.getElem?_eq_some_iff.1 hk).1).trans hk
   replace hlt:w.heap.size+1<Wa.heap.size:=(Array.getElem?_eq_some_iff.1 hl).1
   refine⟨_,run_beginRound hl (by rw [hrec]),?_⟩
   have hl2:(Wa.putObj (w.heap.size+1) (.loop { rec .ready none with state:=.busy })).heap[w.heap.size+1]?=some (.loop { rec .ready none with state:=.busy }):=World.putObj_heap_same hlt
   have hk2:(Wa.putObj (w.heap.size+1) (.loop { rec .ready none with state:=.busy })).heap[w.heap.size]?=some (.deferred (some [])):=(World.putObj_heap_other (by omega)).trans hk
   refine wpIn_mono (hbody _ pre x a' _ (by simp;omega) (hI _ _ _ hia (kzp _ _ _ hl)) (hAx _ _ _ _ hax (kzp _ _ _ hl)) hpre) ?_
   have fin:∀(jump:Option Code) (W3:World),Kv T (Wa.putObj (w.heap.size+1) (.loop { rec .ready none with state:=.busy })) W3→
     (Instr.endRound (w.heap.size+1) jump).run P W3=.ok (.bool jump.isNone) (W3.putObj (w.heap.size+1) (.loop (rec (if jump.isNone then .ready else .done) jump)))∧
     W3.heap[w.heap.size+1]?=some (.loop { rec .ready none with state:=.busy })∧
     (W3.putObj (w.heap.size+1) (.loop (rec (if jump.isNone then .ready else .done) jump))).heap[w.heap.size+1]?=some (.loop (rec (if jump.isNone then .ready else .done) jump))∧
     (W3.putObj (w.heap.size+1) (.loop (rec (if jump.isNone then .ready else .done) jump))).heap[w.heap.size]?=some (.deferred (some [])):=fun jump W3 hk3=>by
    have hl3:=hk3.same _ _ hl2 (fun e=>by cases e.2)
    have:=run_endRound (P:=P) jump hl3
    rw [hrec] at this hl3 ⊢
    exact⟨this,hl3,World.putObj_heap_same (Array.getElem?_eq_some_iff.1 hl3).1,(World.putObj_heap_other (by omega)).trans (hk3.same _ _ hk2 (fun e=>by cases e.2))⟩
   rintro e a3 W3 hp
   cases e with
   | normal=>
    obtain⟨hb3,hi3⟩:=hp
    obtain⟨hr,hl30,hl4,hk4⟩:=fin none W3 hb3
    refine⟨_,_,hr,.inl ⟨rfl,⟨hI _ _ _ hi3 (kzp _ _ _ hl30),hl4,hk4⟩,?_⟩⟩
    exact(((Kl.of (Kv.of_ext hbl)).trans (Kl.put T Wa _ _)).trans (Kl.of hb3)).trans (Kl.put T W3 _ _)
   | ret=>
    obtain⟨hk3,hi3⟩:=hp
    obtain⟨hr,hl30,hl4,hk4⟩:=fin (some .ret) W3 hk3
    refine⟨_,_,hr,.inr ⟨rfl,⟨hIx _ _ _ hi3 (kzp _ _ _ hl30),hl4,hk4⟩,?_⟩⟩
    exact(((Kl.of (Kv.of_ext hbl)).trans (Kl.put T Wa _ _)).trans (Kl.of hk3)).trans (Kl.put T W3 _ _)
   | exit id=>exact hp.elim
   | goto t=>exact hp.elim
   | panic ch=>exact hp.elim
   | outgrown=>exact hp.elim
  ·rintro e W2 ⟨⟨v,rfl⟩,(⟨hi,hl,hk⟩|⟨pre,hSp,hi,hl,hk⟩)⟩
   ·exact⟨none,_,by have:=run_endLoop (P:=P) hl (by rw [hrec];simp);rw [hrec] at this;exact this,hdone _ (hI _ _ _ hi (kzp _ _ _ hl)) ((World.putObj_heap_other (by omega)).trans hk)⟩
   ·exact⟨some .ret,_,by have:=run_endLoop (P:=P) hl (by rw [hrec];simp);rw [hrec] at this;exact this,hstop pre _ hSp (hIx _ _ _ hi (kzp _ _ _ hl)) ((World.putObj_heap_other (by omega)).trans hk)⟩
end Go.En
namespace Go.Proofs.YtojadfppncgphaaGreatDoor
section
open Go.RowKit Go.En Go.Dl Go.Tp
attribute [local irreducible] X XL XW XG XK Val LS Fp Fo Calls bodyPost Code.wp
theorem c323 (c:Int)(h0:0≤c)(h:c<128):Fp Tryz.prog 323 [dI c] (dB false):=by
 refine fXw Tryz.func323 Tryz.ntmps323 fun c hM=>?_
 (repeat' (first|refine Wz ?_|apply Wd <;>intro hh))
 all_goals (try exact oMw)
 exact rXw hM
theorem c321 (s:Tx)(h:∀ c∈s,c.toNat<128)(hl:s.length≤8):Fp Tryz.prog 321 [dS s] (dB true):=by
 refine fXw Tryz.func321 Tryz.ntmps321 fun c hM=>?_
 (repeat' (first|refine Wz ?_|fail))
 refine X_lp (ι:=Tx) 748288838313422294120286634350736906063837462003709 [] (fun z=>[(0,.d (dS z))]) (fun _=>[]) (fun z=>z.length≤8∧∀ c∈z,c.toNat<128) (fun z=>z.length) (s) ?_ ?_
 ·exact⟨hl,h⟩
 rintro z ⟨hz,hc⟩
 cases z with
 | nil=>
  (repeat' (first|refine Wz ?_|apply Wd <;>intro hh))
  all_goals (first|(exfalso;omega)|(exfalso;simp_all;done)|skip)
  exact rXw hM
 | cons c r=>
  have h0:(c::r)[0]?=some c:=rfl
  have hs1:1≤(c::r).length:=by simp only [List.length_cons];omega
  have hc1:=hc c (List.mem_cons_self ..)
  simp only [List.length_cons] at hz
  have hd1:(List.drop 1 (c::r)).length≤7:=by rw [List.length_drop,List.length_cons];omega
  (repeat' (first|refine G_x (A7 fun _=>D8 (m:=0) Z Z Z (by first|rfl|omega) h0) Z Z ?_|refine G_x (A7 fun _=>O2 (a:=1) Z Z Z Z hs1) Z Z ?_|refine Wz ?_|apply Wd <;>intro hh))
  all_goals (first|(exfalso;omega)|(exfalso;simp_all;done)|skip)
  exact A0 r ⟨oEw,fun d hd=>hc d (List.mem_cons_of_mem _ hd)⟩ (by simp only [List.length_cons];omega)
end
section
open Go.RowKit Go.En Go.Dl Go.Tp
def upI:Nat→Nat→List Int
 | _,0=>[]
 | i,n+1=>(i:Int)::upI (i+1) n
theorem B4q:∀ i n,(upI i n).length=n
 | _,0=>rfl
 | i,n+1=>by rw [upI,List.length_cons,B4q]
def chI (l:Tx)(i:Int):Int:=(((l[i.toNat]?).getD 0).toNat:Int)
theorem G6j {N r:Nat}{A C:World}{l:Tx}{p:Nat}(h:Kb (some r) A C)(hr:N≤r)(hi:It A r l p):Ki N A C:=⟨h.os,h.tape,h.output,Kb.size h,fun k o ho hk=>by
 refine(World.grownBy.block h k (Array.getElem?_eq_some_iff.1 ho).1 (fun e=>?_)).trans ho
 cases e
 unfold It at hi
 rw [hi] at ho
 cases ho
 rcases hk with hk|hk
 ·omega
 ·cases hk⟩
theorem B8n {S:Nat→Prop}{g:Option Nat}{A C:World}(h:Kb g A C)(hg:∀ b,g=some b→S b∧∃ cs t fz,A.heap[b]?=some (.cells cs t fz)):Kv S A C:=⟨h.os,h.tape,h.output,Kb.size h,fun k o ho hn=>by
 refine(World.grownBy.block h k (Array.getElem?_eq_some_iff.1 ho).1 (fun e=>?_)).trans ho
 obtain⟨h1,cs,t,fz,h2⟩:=hg k e.symm
 rw [h2] at ho
 cases ho
 exact hn ⟨h1,rfl⟩⟩
theorem A5i {w:World}{B:Nat}{e:TypeId}{sz n:Nat}{v:Value}{xs:List Value}(h:w.ownsRow B e sz v n xs){b:Nat}(hb:v.ownBlock=some b):B≤b∧∃ cs t fz,w.heap[b]?=some (.cells cs t fz):=by
 refine⟨(h.lt b hb).1,?_⟩
 rcases h.2 with⟨rfl,_⟩|⟨g,cap,cur,rfl,h3,h4,_⟩
 ·cases hb
 ·cases hb;exact⟨_,_,_,h4⟩
attribute [local irreducible] E EL K Val Enters Rt Calls bodyPost Code.wp RQ EI YK YI bodyPostM
theorem B7k (l:Tx)(h:∀ c∈l,c.toNat<128)(hl:l.length≤1000){S:Nat→Prop}{Bs:Nat}{w:World}(rb:Row w Bs 9 [str l])(hS:¬ S Bs)(n:Nat) :
  SeqV S n Tryz.prog 339 #[.pointer (some ⟨Bs,0,none⟩)] (fun i=>#[int i,int (chI l i)]) (upI 0 l.length) w:=by
 intro l1 J Jx W hlw hlW hxW hJ hJx hY h0
 obtain⟨zs,hzs⟩:∃ zs,zs=upI 0 l.length:=⟨_,rfl⟩
 rw [← hzs] at hY ⊢
 have c339:Calls Tryz.prog 339 #[.func (.yield l1) #[] #[],.pointer (some ⟨Bs,0,none⟩)] W (Rt fun _ W'=>J zs W'∨∃ pre,pre <+: zs∧Jx pre W'):=by
  have rW:=rb.ext hxW
  refine G3 (n:=17) (args:=[.func (.yield l1) #[] #[],.pointer (some ⟨Bs,0,none⟩)]) Tryz.func339 rfl Tryz.ntmps339 (by simp) ?_
  (repeat' (first|(refine C0c Z Z Z Z (fun r wI xI hr itI=>?_))|refine Ly ?_|fail))
  refine A0e (ι:=Nat × List Int) (fun z=>[(0,.func (.yield l1) #[] #[]),(6,.pointer (some ⟨r,0,none⟩))])
   (fun z wr=>z.1≤l.length∧It wr r l z.1∧z.2++upI z.1 (l.length-z.1)=zs∧J z.2 wr) (fun z=>l.length-z.1) (0,[])
   ⟨rfl,rfl,trivial⟩ ⟨Nat.zero_le _,itI,by rw [hzs];rfl,hJ _ _ _ h0 (Ki.of_ext xI)⟩ ?_
  rintro⟨i,pre⟩ wr ⟨hi,hit,hch,hj⟩
  dsimp only at hi hit hch hj ⊢
  by_cases hlt:i<l.length
  rotate_left
  ·(repeat' (first|(refine C1x Z Z Z Z hit hlt ?_)|refine Sy ?_|fail))
   all_goals (try (exfalso;omega))
   refine B1v (W7 Z (Or.inl ?_))
   rw [show l.length-i=0 by omega,upI,List.append_nil] at hch
   rw [← hch]
   exact hj
  obtain⟨c,hc⟩:∃ c,l[i]?=some c:=⟨_,List.getElem?_eq_getElem hlt⟩
  have hc7:=h c (List.mem_of_getElem? hc)
  have hd:Lib.decodeL (l.drop i)=(c.toNat,1):=by
   rw [drp hc];exact Lib.decodeL_ascii c _ hc7
  have hci:chI l (i:Int)=(c.toNat:Int):=by unfold chI;rw [Int.toNat_natCast,hc];rfl
  obtain⟨k,hk⟩:∃ k,l.length-i=k+1:=⟨l.length-i-1,by omega⟩
  rw [hk,upI] at hch
  have hp1:pre++[(i:Int)] <+: zs:=⟨upI (i+1) k,by rw [← hch];simp⟩
  have hp2:pre++[(i:Int)]++upI (i+1) k=zs:=by rw [← hch];simp
  (repeat' ((fail_if_success (refine J2 (x:=(Code.region 3 _ _)) ?_));first|(refine C1w Z Z Z Z hit hlt (fun wN itN kN=>?_);rw [hd] at itN;rw [hd])|refine Sy ?_|fail))
  all_goals (try (exfalso;omega))
  have hjN:=hJ _ _ _ hj (G6j kN (by omega) hit)
  refine J2 ?_
  refine C1u (m:=n) (p:=4) (by repeat first|exact R2|apply C8|apply C6|apply S7) rfl ?_
  dsimp only [List.take]
  (repeat' (first|refine eV Z Z (P8 (k:=.i32) (k':=.i64) Z Z (by show(-9223372036854775808:Int)≤_;omega) (by show _≤(9223372036854775807:Int);omega)) ?_|refine Sy ?_|fail))
  have hYx:=hY pre i wN hjN hp1
  dsimp only at hYx
  rw [hci] at hYx
  refine B9y (by repeat first|exact R2|apply C8|apply C6|apply S7) rfl rfl rfl rfl rfl rfl rfl hYx (fun c w' hh=>by rcases hh with⟨h,_⟩|⟨h,_⟩ <;> cases h) (fun w' hh=>by rcases hh with⟨h,_⟩|⟨h,_⟩ <;> cases h) (fun u w' hh=>?_)
  rcases hh with⟨hu,hj2,hgr⟩|⟨hu,hjx,_⟩
  ·cases hu
   have it2:It w' r l (i+1):=hgr.same r _ (by omega) itN (fun e=>by cases e.2)
   (repeat' (first|refine Sy ?_|fail))
   all_goals (first|(exfalso;omega)|skip)
   exact A2q (i+1,pre++[(i:Int)]) ⟨rfl,rfl,trivial⟩ ⟨by dsimp only;omega,it2,by dsimp only;rw [show l.length-(i+1)=k by omega];exact hp2,hj2⟩ (by dsimp only;omega)
  ·cases hu
   (repeat' (first|refine Sy ?_|fail))
   all_goals (first|(exfalso;omega)|skip)
   exact W7 Z (Or.inr ⟨_,hp1,hjx⟩)
 refine(callsIn_wide (n:=n)).2 (c339.mono ?_)
 rintro e W' h
 unfold Rt at h
 obtain⟨v,rfl,h⟩:=h
 exact⟨⟨v,rfl⟩,h⟩
theorem A6d (v:Value)(w:World):Calls Tryz.prog 322 #[v] w (Rt fun u w'=>∃ Bb,u=.func (.func 339) #[] #[.pointer (some ⟨Bb,0,none⟩)]∧Row w' Bb 9 v.cells.toList∧w.heap.size≤Bb∧Ext w w'):=by
 refine G3 (n:=4) (args:=[v]) Tryz.func322 rfl Tryz.ntmps322 (by simp) ?_
 refine J2 ?_
 refine H8 ?_
 refine O9 Z Z Z Z (fun bL wL xL hbL rL=>?_)
 (repeat' (first|refine eV Z Z (J5 (vs:=[.pointer (some ⟨bL,0,none⟩)]) Z Z) ?_|refine Sy ?_|fail))
 exact Q1 Z Z ⟨bL,rfl,rL,by omega,xL⟩
end
end Go.Proofs.YtojadfppncgphaaGreatDoor