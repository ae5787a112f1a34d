/- Own text. -/
import Derived.Laws.IdiomStrings
import Derived.Test.YtojadfppncgphaaGreatDoorQY3
import Derived.Laws.IdiomCopy
import Derived.Laws.CopyRow
set_option linter.all false
set_option maxHeartbeats 16000000
set_option maxRecDepth 8000
namespace Go.Dl
open Go.RowKit Go.En
section
variable {P : Program}{o : Oper}{F : Fr}{H : Hp}
abbrev byC (b:UInt8):List Dt:=[.v (.int .u8 b.toNat)]
theorem C5d {G:Nat→Prop}{w:World}:∀ l:List UInt8,DR.valsR G w true (l.map byC).flatten (l.map fun c=>Value.int .u8 c.toNat)
 | []=>by show DR.valsR G w true [] [];rw [DR.valsR]
 | c::r=>by
  show DR.valsR G w true (.v (.int .u8 c.toNat)::(r.map byC).flatten) (_::_)
  rw [DR.valsR]
  exact⟨_,_,rfl,fun _=>rfl,by rw [DR],C5d r⟩
theorem B2p {s d e:TypeId}{x:Operand}{l:List UInt8}[us:UT P s .string][ud:UT P d (.slice e)][ue:UT P e (.int .u8)](ho:o.op=.convert s d x)(hx:ef F x=some (.d (.v (str l))))(hl:l.length≤140737488355328) :
  LS P o F H [] (some (.d (.s 1 (l.map byC)))) []:=fun γ G w a ha hw K Q hK=>by
 have hm:x∈o.op.operands:=by rw [ho];simp [Op.operands]
 have h1:=ha x hm _ hx
 rw [LR,DR] at h1
 have hsz:(ByteArray.mk l.toArray).size=l.length:=by simp [ByteArray.size]
 have h:=run_bytes_of_string (P:=P) w s d e ⟨l.toArray⟩ us.u ud.u ue.u
 rw [hsz] at h
 obtain⟨w',hw'⟩:∃ w',w'=w.drew.alloc (.cells (bytesRow ⟨l.toArray⟩ (grownCap w l.length 0 e)) e ((bytesRow ⟨l.toArray⟩ (grownCap w l.length 0 e)).size,(bytesRow ⟨l.toArray⟩ (grownCap w l.length 0 e)).size+1)):=⟨_,rfl⟩
 have hext:Ext w w':=by rw [hw'];exact(V1 w).trans (J1 _ _)
 have hr:(execOp a.eval o).run P w=.ok (.value (.slice (some ⟨w.heap.size,0,none⟩) l.length (grownCap w l.length 0 e))) w':=by
  rw [hw']
  simp only [execOp,ho,h1,str,h,Sem.run_bind,Result.andThen_ok]
  rfl
 have hat:At w' w.heap.size 0 (l.map fun c=>Value.int .u8 c.toNat):=by
  intro j v hv
  have hj:=(List.getElem?_eq_some_iff.1 hv).1
  rw [Nat.zero_add]
  have:=heap_alloc_new w.drew (.cells (bytesRow ⟨l.toArray⟩ (grownCap w l.length 0 e)) e ((bytesRow ⟨l.toArray⟩ (grownCap w l.length 0 e)).size,(bytesRow ⟨l.toArray⟩ (grownCap w l.length 0 e)).size+1))
  rw [hw']
  simp only [World.cell?]
  rw [show w.drew.heap.size=w.heap.size from rfl] at this
  rw [this]
  dsimp only
  unfold bytesRow
  rw [Array.getElem?_append_left (by simpa using hj)]
  simpa using hv
 have hlt:w.heap.size<w'.heap.size:=by rw [hw',World.size_alloc];exact Nat.lt_succ_self w.heap.size
 unfold Oper.wp
 rw [hr]
 refine hK _ _ _ _ (Evo.ext hw.glt hext fun y hy=>?_)
 cases hy
 rw [LR,DR,List.length_map]
 refine⟨_,_,rfl,grownCap_ge w l.length 0 e,hl,fun _=>⟨_,_,rfl,.inr ⟨Nat.le_refl _,hlt⟩,?_⟩⟩
 exact A2b (fun r hr=>by obtain⟨b,_,rfl⟩:=List.mem_map.1 hr;rfl) hat (C5d l)
end
end Go.Dl
namespace Go.Proofs.YtojadfppncgphaaGreatDoor
section
open Go.RowKit Go.En Go.Dl Go.Tp
abbrev FSt:=Int × Int × Int × Bool
def fsV (s:Tx)(i:Nat)(k:Nat)(st:FSt)(v:Tx):FSt:=if decide (st.2.2.1<(v.length:Int))&&pfxB s v then ((i:Int),(k:Int),(v.length:Int),true) else st
def fsW (s:Tx)(i:Nat):Nat→FSt→List Tx→FSt
 | _,st,[]=>st
 | k,st,v::r=>fsW s i (k+1) (fsV s i k st v) r
def fsL (s:Tx):Nat→FSt→List (List Tx)→FSt
 | _,st,[]=>st
 | i,st,l::r=>fsL s (i+1) (fsW s i 0 st l) r
def A1b (L:List (List Tx))(s:Tx):FSt:=fsL s 0 (0,0,0,false) L
abbrev fD (st:FSt):Dt:=.t [dI st.1,dI st.2.1,dI st.2.2.1,dB st.2.2.2]
def fsOK (s:Tx)(st:FSt):Prop:=(st.2.2.2=false∧st.2.2.1=0)∨(st.2.2.2=true∧1≤st.2.2.1∧st.2.2.1≤(s.length:Int)∧0≤st.1)
def cmpL:List Int→List Int→Int
 | x::r,y::q=>if cmpI x y≠0 then cmpI x y else cmpL r q
 | a,b=>cmpI a.length b.length
theorem D2y (x y:Nat)(i:Nat)(hx:i≤x)(hy:i≤y):cmpI ((x-i:Nat):Int) ((y-i:Nat):Int)=cmpI x y:=by
 unfold cmpI
 by_cases h1:(x:Int)<y
 ·rw [if_pos h1,if_pos oEw]
 ·rw [if_neg h1,if_neg oEw]
  by_cases h2:(y:Int)<x
  ·rw [if_pos h2,if_pos oEw]
  ·rw [if_neg h2,if_neg oEw]
theorem D2x {a b:List Int}(h:a=[]∨b=[]):cmpL a b=cmpI a.length b.length:=by
 cases a with
 | nil=>rw [cmpL];intro x r y q h1;cases h1
 | cons x r=>
  rcases h with h|h
  ·cases h
  ·subst h;rw [cmpL];intro x r y q _ h1;cases h1
theorem B3u {a b:List Int}{i:Nat}(hi:i≤a.length)(hj:i≤b.length)(h:¬ (i<a.length∧i<b.length)):cmpL (a.drop i) (b.drop i)=cmpI a.length b.length:=by
 rw [D2x,List.length_drop,List.length_drop,D2y _ _ _ hi hj]
 by_cases h1:i<a.length
 ·exact .inr (List.drop_eq_nil_of_le oEw)
 ·exact .inl (List.drop_eq_nil_of_le oEw)
def byI (l:Tx):List Int:=l.map fun c=>(c.toNat:Int)
theorem G4c {s:Tx}{i k:Nat}{st:FSt}{v:Tx}(h:fsOK s st):fsOK s (fsV s i k st v):=by
 unfold fsV
 split
 ·rename_i hc
  rw [Bool.and_eq_true] at hc
  have h1:=of_decide_eq_true hc.1
  have h2:=hc.2
  unfold pfxB at h2
  rw [Bool.and_eq_true] at h2
  have h3:=of_decide_eq_true h2.1
  refine .inr ⟨rfl,?_,oDw,oDw⟩
  dsimp only
  rcases h with h|h
  ·omega
  ·omega
 ·exact h
theorem D1j {s:Tx}{i:Nat}:∀(l:List Tx) (k:Nat) (st:FSt),fsOK s st→fsOK s (fsW s i k st l)
 | [],_,_,h=>h
 | _::r,k,_,h=>D1j r (k+1) _ (G4c h)
theorem D1k {s:Tx}:∀(l:List (List Tx)) (i:Nat) (st:FSt),fsOK s st→fsOK s (fsL s i st l)
 | [],_,_,h=>h
 | x::r,i,_,h=>D1k r (i+1) _ (D1j x 0 _ h)
theorem D1n (L:List (List Tx))(s:Tx):fsOK s (A1b L s):=D1k L 0 _ (.inl ⟨rfl,rfl⟩)
def ltG (L : List (List Tx)) : Nat → Tx → List Int → List Int → Bool → List Int × List Int × Bool
 | 0,_,a,b,all=>(a,b,all)
 | _+1,[],a,b,all=>(a,b,all)
 | k+1,c::r,a,b,all=>
  if (A1b L (c::r)).2.2.2 then ltG L k ((c::r).drop (A1b L (c::r)).2.2.1.toNat) (a++[(A1b L (c::r)).1]) (b++[(A1b L (c::r)).2.1]) all
  else ltG L k r (a++[(L.length:Int)+c.toNat]) (b++[0]) false
def ltF (L:List (List Tx))(s:Tx):List Int × List Int × Bool:=ltG L s.length s [] [] true
def A9x (L:List (List Tx))(s t:Tx):Int:=cOr [cmpL (ltF L s).1 (ltF L t).1,cmpL (ltF L s).2.1 (ltF L t).2.1,cmpL (byI s) (byI t)]
attribute [local irreducible] X XL XW XG XK Val LS Fp Fo Calls bodyPost Code.wp
theorem c246 (a:UInt8):Fp Tryz.prog 246 [.v (.int .u8 a.toNat)] (dB false):=by
 refine fXw Tryz.func246 Tryz.ntmps246 fun c hM=>?_
 (repeat' (first|refine Wz ?_|apply Wd <;>intro hh))
 all_goals (try exact oMw)
 exact rXw hM
theorem c124 (a b:List Int):Fp Tryz.prog 124 [ints a,ints b] (dI (cmpL a b)):=by
 refine fXw Tryz.func124 Tryz.ntmps124 fun c hM=>?_
 (repeat' (first|(refine W4 ?_;first|refine G_x (A7 fun _=>zMn Z Z Z) Z Z ?_)|refine Wz ?_|refine Wb fun hb=>?_))
 refine X_lp (ι:=Nat) 268431472 [] (fun i=>[(12,.d (dI i))]) (fun _=>[]) (fun i=>i≤a.length∧i≤b.length∧cmpL a b=cmpL (a.drop i) (b.drop i)) (fun i=>a.length-i) (0) ?_ ?_
 ·exact⟨zLw,zLw,rfl⟩
 rintro i ⟨hi,hj,hq⟩
 by_cases hlt:i<a.length∧i<b.length
 rotate_left
 ·rw [B3u hi hj hlt] at hq
  have c1:=c197 a.length b.length
  (repeat' (first|refine G_x (A3 Z Z Z A6o (c1) (.eq rfl)) Z Z ?_|refine Wz ?_|refine Wb fun hb=>?_|apply Wd <;>intro hh))
  all_goals (try exact oMw)
  refine rEw hM ?_
  rw [hq];rfl
 obtain⟨x,hx⟩:=gex hlt.1
 obtain⟨y,hy⟩:=gex hlt.2
 rw [drp hx,drp hy,cmpL] at hq
 have c1:=c197 x y
 obtain⟨z,hz⟩:∃ z,cmpI x y=z:=⟨_,rfl⟩
 rw [hz] at c1 hq
 by_cases h0:z=0
 ·rw [if_neg (by simpa using h0)] at hq
  (repeat' (first|refine iDw (gm hx) ?_|refine iDw (gm hy) ?_|refine G_x (A3 Z Z Z A6o (c1) (.eq rfl)) Z Z ?_|refine Wz ?_|refine Wb fun hb=>?_|apply Wd <;>intro hh))
  all_goals (first|(exfalso;omega)|(exact absurd h0 (by assumption))|skip)
  exact A0 (i+1) ⟨oEw,oEw,hq⟩ oEw
 ·rw [if_pos h0] at hq
  (repeat' (first|refine iDw (gm hx) ?_|refine iDw (gm hy) ?_|refine G_x (A3 Z Z Z A6o (c1) (.eq rfl)) Z Z ?_|refine Wz ?_|refine Wb fun hb=>?_|apply Wd <;>intro hh))
  all_goals (first|(exfalso;omega)|(exact absurd (by assumption) h0)|skip)
  refine rEw hM ?_
  rw [hq];rfl
theorem c198 (a b:UInt8):Fp Tryz.prog 198 [.v (.int .u8 a.toNat),.v (.int .u8 b.toNat)] (dI (cmpI a.toNat b.toNat)):=by
 unfold cmpI
 refine fXw Tryz.func198 Tryz.ntmps198 fun c hM=>?_
 (repeat' (first|refine G_x (A3 Z Z Z G0r (c246 a) (.eq rfl)) Z Z ?_|refine G_x (A3 Z Z Z G0r (c246 b) (.eq rfl)) Z Z ?_|refine Wz ?_|apply Wd <;>intro hh))
 all_goals (try exact oMw)
 all_goals (refine rEw hM ?_;(first|(simp [one1, *,dB,dI,dS,List.anyB,List.allB];done)|(simp_all [one1,dB,dI,dS,List.anyB,List.allB];done)|(simp_all [one1,dB,dI,dS,List.anyB,List.allB];omega)))
theorem c125 (a b:Tx):Fp Tryz.prog 125 [.s 1 (a.map byC),.s 1 (b.map byC)] (dI (cmpL (byI a) (byI b))):=by
 have la:(byI a).length=a.length:=List.length_map ..
 have lb:(byI b).length=b.length:=List.length_map ..
 refine fXw Tryz.func125 Tryz.ntmps125 fun c hM=>?_
 (repeat' (first|(refine W4 ?_;first|refine G_x (A7 fun _=>zMn Z Z Z) Z Z ?_)|refine Wz ?_|refine Wb fun hb=>?_))
 refine X_lp (ι:=Nat) 268431472 [] (fun i=>[(12,.d (dI i))]) (fun _=>[]) (fun i=>i≤a.length∧i≤b.length∧cmpL (byI a) (byI b)=cmpL ((byI a).drop i) ((byI b).drop i)) (fun i=>a.length-i) (0) ?_ ?_
 ·exact⟨zLw,zLw,rfl⟩
 rintro i ⟨hi,hj,hq⟩
 by_cases hlt:i<a.length∧i<b.length
 rotate_left
 ·rw [B3u oEw oEw oEw,la,lb] at hq
  have c1:=c197 a.length b.length
  (repeat' (first|refine G_x (A3 Z Z Z A6o (c1) (.eq rfl)) Z Z ?_|refine Wz ?_|refine Wb fun hb=>?_|apply Wd <;>intro hh))
  all_goals (try exact oMw)
  refine rEw hM ?_
  rw [hq];rfl
 obtain⟨x,hx⟩:=gex hlt.1
 obtain⟨y,hy⟩:=gex hlt.2
 have hx2:(byI a)[i]?=some (x.toNat:Int):=by unfold byI;rw [List.getElem?_map,hx];rfl
 have hy2:(byI b)[i]?=some (y.toNat:Int):=by unfold byI;rw [List.getElem?_map,hy];rfl
 rw [drp hx2,drp hy2,cmpL] at hq
 have c1:=c198 x y
 obtain⟨z,hz⟩:∃ z,cmpI x.toNat y.toNat=z:=⟨_,rfl⟩
 rw [hz] at c1 hq
 by_cases h0:z=0
 ·rw [if_neg (by simpa using h0)] at hq
  (repeat' (first|refine iDw (gm hx) ?_|refine iDw (gm hy) ?_|refine G_x (A3 Z Z Z G1b (c1) (.eq rfl)) Z Z ?_|refine Wz ?_|refine Wb fun hb=>?_|apply Wd <;>intro hh))
  all_goals (first|(exfalso;omega)|(exact absurd h0 (by assumption))|skip)
  exact A0 (i+1) ⟨oEw,oEw,hq⟩ oEw
 ·rw [if_pos h0] at hq
  (repeat' (first|refine iDw (gm hx) ?_|refine iDw (gm hy) ?_|refine G_x (A3 Z Z Z G1b (c1) (.eq rfl)) Z Z ?_|refine Wz ?_|refine Wb fun hb=>?_|apply Wd <;>intro hh))
  all_goals (first|(exfalso;omega)|(exact absurd (by assumption) h0)|skip)
  refine rEw hM ?_
  rw [hq];rfl
theorem c196 (o:Orth)(s:Tx)(hl:o.letters.length≤1000000)(hv:∀ l∈o.letters,l.length≤1048576):Fp Tryz.prog 196 [.g (A0h o),dS s] (fD (A1b o.letters s)):=by
 unfold A1b
 refine fXw Tryz.func196 Tryz.ntmps196 fun c hM=>?_
 (repeat' (first|refine Wz ?_|refine Wb fun hb=>?_))
 refine X_lp (ι:=Nat × FSt) 4398046482416 [] (fun z=>[(4,.d (dI z.2.1)),(5,.d (dI z.2.2.1)),(6,.d (dI z.2.2.2.1)),(7,.d (dB z.2.2.2.2)),(15,.d (dI z.1))]) (fun _=>[]) (fun z=>z.1≤o.letters.length∧fsL s 0 (0,0,0,false) o.letters=fsL s z.1 z.2 (o.letters.drop z.1)) (fun z=>o.letters.length-z.1) ((0,0,0,0,false)) ?_ ?_
 ·exact⟨zLw,rfl⟩
 rintro⟨i,st⟩ ⟨hi,hq⟩
 dsimp only at hi hq ⊢
 by_cases hlt:i<o.letters.length
 rotate_left
 ·rw [List.drop_eq_nil_of_le oEw,fsL] at hq
  (repeat' (first|refine Wz ?_|apply Wd <;>intro hh))
  all_goals (try exact oMw)
  refine rEw hM ?_
  rw [hq];rfl
 obtain⟨l,hx⟩:=gex hlt
 have hvl:=hv l (List.mem_of_getElem? hx)
 rw [drp hx,fsL] at hq
 (repeat' (first|refine iDw (gm hx) ?_|refine Wz ?_|refine Wb fun hb=>?_|apply Wd <;>intro hh))
 all_goals (try exact oMw)
 refine X_lp (ι:=Nat × FSt) 2199019064560 [] (fun z=>[(4,.d (dI z.2.1)),(5,.d (dI z.2.2.1)),(6,.d (dI z.2.2.2.1)),(7,.d (dB z.2.2.2.2)),(22,.d (dI z.1))]) (fun _=>[]) (fun z=>z.1≤l.length∧fsW s i 0 st l=fsW s i z.1 z.2 (l.drop z.1)) (fun z=>l.length-z.1) ((0,st)) ?_ ?_
 ·exact⟨zLw,rfl⟩
 rintro⟨k,su⟩ ⟨hk,hw⟩
 dsimp only at hk hw ⊢
 by_cases hkl:k<l.length
 rotate_left
 ·rw [List.drop_eq_nil_of_le oEw,fsW] at hw
  rw [hw] at hq
  (repeat' (first|refine Wz ?_|apply Wd <;>intro hh))
  all_goals (try exact oMw)
  exact A0 (i+1,su) ⟨oDw,hq⟩ (oDw)
 obtain⟨v,hy⟩:=gex hkl
 rw [drp hy,fsW] at hw
 have c1:=c244 s v
 by_cases hn:su.2.2.1<(v.length:Int)
 rotate_left
 ·have e:fsV s i k su v=su:=by unfold fsV;rw [decide_eq_false hn];rfl
  rw [e] at hw
  (repeat' (first|refine iDw (gm hy) ?_|refine cDw D2e c1 ?_|refine Wz ?_|refine Wd (fun hh=>?_) fun hh=>?_|(refine Wc (fun hg=>?_) (fun hg=>?_) <;>(first|subst hg|(simp at hg;subst hg)|skip))))
  all_goals (try exact oMw)
  exact A0 (k+1,su) ⟨oDw,hw⟩ (oDw)
 cases hb:pfxB s v with
 | false=>
  rw [hb] at c1
  have e:fsV s i k su v=su:=by unfold fsV;rw [hb,Bool.and_false];rfl
  rw [e] at hw
  (repeat' (first|refine iDw (gm hy) ?_|refine cDw D2e c1 ?_|refine Wz ?_|apply Wd <;>intro hh))
  all_goals (try exact oMw)
  exact A0 (k+1,su) ⟨oDw,hw⟩ (oDw)
 | true=>
  rw [hb] at c1
  have e:fsV s i k su v=((i:Int),(k:Int),(v.length:Int),true):=by unfold fsV;rw [hb,decide_eq_true hn];rfl
  rw [e] at hw
  (repeat' (first|refine iDw (gm hy) ?_|refine cDw D2e c1 ?_|refine Wz ?_|apply Wd <;>intro hh))
  all_goals (try exact oMw)
  exact A0 (k+1,(i:Int),(k:Int),(v.length:Int),true) ⟨oDw,hw⟩ (oDw)
structure OrW (o:Orth):Prop where
 nl:o.letters.length≤1000000
 vl:∀ l∈o.letters,l.length≤1048576
theorem D7d (L:List (List Tx))(k:Nat)(a b:List Int)(all:Bool):ltG L k [] a b all=(a,b,all):=by cases k <;> rfl
theorem c122 (o:Orth)(s0:Tx)(h:OrW o)(hs:s0.length≤1000000000):Fp Tryz.prog 122 [.g (A0h o),dS s0] (.t [ints (ltF o.letters s0).1,ints (ltF o.letters s0).2.1,dB (ltF o.letters s0).2.2]):=by
 obtain⟨R,hR⟩:∃ R,ltF o.letters s0=R:=⟨_,rfl⟩
 rw [hR]
 unfold ltF at hR
 have hnl:=h.nl
 refine fXw Tryz.func122 Tryz.ntmps122 fun c hM=>?_
 (repeat' (first|refine Wz ?_|fail))
 refine D0 7 7 3 1 Z Z ?_
 refine D0 8 8 3 1 Z Z ?_
 refine X_lp (ι:=Nat × Tx × List Int × List Int × Bool × Nat × Nat) 17592186044290 [7,8] (fun z=>[(1,.d (dS z.2.1)),(7,.o 7 z.2.2.2.2.2.1),(8,.o 8 z.2.2.2.2.2.2),(9,.d (dB z.2.2.2.2.1))]) (fun z=>[(7,.ls 3 1 z.2.2.2.2.2.1 (z.2.2.1.map iC)),(8,.ls 3 1 z.2.2.2.2.2.2 (z.2.2.2.1.map iC))]) (fun z=>z.2.1.length≤z.1∧z.2.2.1.length+z.2.1.length≤s0.length∧z.2.2.2.1.length+z.2.1.length≤s0.length∧ltG o.letters z.1 z.2.1 z.2.2.1 z.2.2.2.1 z.2.2.2.2.1=R) (fun z=>z.2.1.length) ((s0.length,s0,[],[],true,0,0)) ?_ ?_
 ·exact⟨Nat.le_refl _,by simp,by simp,hR⟩
 rintro⟨k,s,a,b,all,va,vb⟩ ⟨hk,hal,hbl,hq⟩
 dsimp only at hk hal hbl hq ⊢
 cases s with
 | nil=>
  rw [D7d] at hq
  subst hq
  (repeat' (first|refine Wz ?_|apply Wd <;>intro hh))
  all_goals (first|(exfalso;omega)|(exfalso;simp_all;done)|skip)
  refine B9 4 Z Z lOw ?_
  refine B9 5 Z Z lOw ?_
  exact rXw hM
 | cons c r=>
  obtain⟨k,rfl⟩:∃ j,k=j+1:=⟨k-1,by simp only [List.length_cons] at hk;omega⟩
  rw [ltG] at hq
  have c1:=c196 o (c::r) h.nl h.vl
  have hok:=D1n o.letters (c::r)
  obtain⟨⟨x,y,n,ok⟩,hst⟩:∃ st,A1b o.letters (c::r)=st:=⟨_,rfl⟩
  rw [hst] at c1 hok hq
  have h0:(c::r)[0]?=some c:=rfl
  have hcl:=UInt8.toNat_lt c
  simp only [List.length_cons] at hk hal hbl
  cases ok with
  | false=>
   rw [if_neg (by simp)] at hq
   have e1:((c::r).drop 1)=r:=rfl
   have hs1:1≤(c::r).length:=by simp only [List.length_cons];omega
   (repeat' (first|refine G_x (A3 Z Z Z G1c (c1)) Z Z ?_|refine G_x (A7 fun _=>D8 (m:=0) Z Z Z (by first|rfl|omega) h0) Z Z ?_|refine G_x (A7 fun _=>zCu Z Z) Z Z ?_|refine G_x (A7 fun _=>O2 (a:=1) Z Z Z Z hs1) Z Z ?_|refine Wz ?_|apply Wd <;>intro hh))
   all_goals (first|(exfalso;omega)|(exfalso;simp_all;done)|skip)
   exact A0 (k,r,a++[(o.letters.length:Int)+c.toNat],b++[0],false,va+1,vb+1) ⟨oDw,by dsimp only;rw [List.length_append];simp only [List.length_cons,List.length_nil];omega,by dsimp only;rw [List.length_append];simp only [List.length_cons,List.length_nil];omega,hq⟩ (by dsimp only;simp only [List.length_cons];omega) (hh:=A1 (by dsimp only;rw [List.map_append];rfl) (A1 (by dsimp only;rw [List.map_append];rfl) (A4 _))) (hh':=hSw)
  | true=>
   rw [if_pos rfl] at hq
   rcases hok with⟨h1,_⟩|⟨_,h1,h2,_⟩
   ·cases h1
   dsimp only at h1 h2
   obtain⟨m,rfl⟩:∃ m:Nat,n=(m:Int):=⟨n.toNat,oEw⟩
   have hm:m≤(c::r).length:=oEw
   rw [show((x,y,(m:Int),true):FSt).2.2.1.toNat=m from Int.toNat_natCast m] at hq
   have hdl:((c::r).drop m).length+1≤r.length+1:=by rw [List.length_drop,List.length_cons];omega
   (repeat' (first|refine G_x (A3 Z Z Z G1c (c1)) Z Z ?_|refine G_x (A7 fun _=>O2 (a:=m) Z Z Z Z hm) Z Z ?_|refine Wz ?_|apply Wd <;>intro hh))
   all_goals (first|(exfalso;omega)|(exfalso;simp_all;done)|skip)
   exact A0 (k,(c::r).drop m,a++[x],b++[y],all,va+1,vb+1) ⟨oDw,by dsimp only;rw [List.length_append];simp only [List.length_cons,List.length_nil];omega,by dsimp only;rw [List.length_append];simp only [List.length_cons,List.length_nil];omega,hq⟩ (by dsimp only;simp only [List.length_cons];omega) (hh:=A1 (by dsimp only;rw [List.map_append];rfl) (A1 (by dsimp only;rw [List.map_append];rfl) (A4 _))) (hh':=hSw)
end
end Go.Proofs.YtojadfppncgphaaGreatDoor
namespace Go.Dl
open Go.RowKit Go.En
section
variable {P : Program}{o : Oper}{F : Fr}{H : Hp}
theorem A4e {dT sT e e':TypeId}{x y:Operand}{z:Value}{bytes k n i b b':Nat}{rows:List (List Dt)}[UT P dT (.slice e)][ti:TI P e z 1 bytes](ho:o.op=.call { callee:=.builtin .copy,args:=#[x,y],argTypes:=#[dT,sT] })(hx:ef F x=some (.w k n 1 (i+1) b))(hy:ef F y=some (.w k n 1 i b'))(hk:lo H k=some (.ls e' 1 n rows))
  (hb:b=rows.length) (hb':b'=rows.length) (hi:i<rows.length):LS P o F H [k] (some (.d (.v (int ((rows.length-(i+1):Nat):Int))))) [(k,.ls e' 1 n (rows.take (i+1)++(rows.drop i).take (rows.length-(i+1))))]:=fun γ G w A ha hw K Q hK=>by
 subst hb;subst hb'
 have hmx:x∈o.op.operands:=by rw [ho];simp [Op.operands,Call.operands]
 have hmy:y∈o.op.operands:=by rw [ho];simp [Op.operands,Call.operands]
 obtain⟨i0,hi0,hz0,hz1,hz2⟩:=info_parts ti.i
 have hs1:(P.info? e).map (·.size)=some 1:=by rw [hi0];simp [hz1]
 have hOR:=hw.obj k (List.mem_singleton.2 rfl) _ hk
 obtain⟨h5,h6,vs,h7,h8⟩:=hOR
 have hw1:=ha x hmx _ hx
 rw [LR] at hw1
 have hv:=hw1.2 h5.symm
 have hw2:=ha y hmy _ hy
 rw [LR] at hw2
 have hv2:=hw2.2 h5.symm
 have hu:=UT.u (P:=P) (t:=dT) (d:=.slice e)
 obtain⟨N,hN⟩:∃ N,rows.length=N:=⟨_,rfl⟩
 obtain⟨R,hR⟩:∃ R,rows.take (i+1)++(rows.drop i).take (N-(i+1))=R:=⟨_,rfl⟩
 rw [hN] at hi hv hv2 h7 hK
 rw [hR] at hK
 have hsz':∀ r∈R,r.length=1:=fun r hr=>by
  rw [← hR] at hr
  rcases List.mem_append.1 hr with hr|hr
  ·exact h6 r (List.mem_of_mem_take hr)
  ·exact h6 r (List.mem_of_mem_drop (List.mem_of_mem_take hr))
 have hlen':R.length=N:=by rw [← hR,List.length_append,List.length_take,List.length_take,List.length_drop,hN];omega
 have hvl:vs.length=N:=by rw [vals_len h8,A1x h6,hN,Nat.mul_one]
 have hdl:∀ r∈rows.drop i,r.length=1:=fun r hr=>h6 r (List.mem_of_mem_drop hr)
 have hfl:R.flatten=rows.flatten.take (i+1)++(rows.flatten.drop i).take (N-(i+1)):=by
  rw [← hR,List.flatten_append]
  have e1:=Y6 (rows:=rows) (i+1) h6
  have e2:=A1y (rows:=rows) i h6
  have e3:=Y6 (rows:=rows.drop i) (N-(i+1)) hdl
  rw [Nat.mul_one] at e1 e2 e3
  rw [e1,e2,e3]
 obtain⟨V,hV⟩:∃ V,vs.take (i+1)++(vs.drop i).take (N-(i+1))=V:=⟨_,rfl⟩
 have hval:∀ {w':World},(∀ q,G q→G q∧w'.heap[q]?=w.heap[q]?)→DR.valsR G w' true R.flatten V:=fun hG=>by
  rw [hfl,← hV]
  exact R7 (G4 hG true _ _ (X3 h8)) (G4 hG true _ _ (X3 (A5c h8)))
 have hVl:V.length=N:=by rw [← hV,List.length_append,List.length_take,List.length_take,List.length_drop,hvl];omega
 rcases h7.2 with⟨g1,g2⟩|⟨g,cap,cur,g1,g2,g3,g4,g5,g6,g7⟩
 ·omega
 ·rw [Nat.mul_one] at g6 g7
  have hob:oblk γ k (.ls e' 1 n rows)=some g:=by simp [oblk,g1,blk]
  have hown:=hw.own k (List.mem_singleton.2 rfl) _ g hk hob
  have hy9:A.eval y=.slice (some ⟨g,i,none⟩) (N-i) (cap-i):=by
   rw [hv2,g1]
   simp only [win]
   rw [if_neg (by omega)]
   simp [D6]
  have hcl:cur.toList.length=cap:=by rw [Array.length_toList];exact g6
  have hcv:∀ j,j≤N→cur.toList.take j=vs.take j:=fun j hj=>by rw [← g7,List.take_take,Nat.min_eq_left hj]
  have hone:∀ u∈vs,u.oneCell'=true:=fun u hu=>by
   obtain⟨j,hj⟩:=List.getElem?_of_mem hu
   have hjl:j<rows.flatten.length:=by rw [← vals_len h8];exact(List.getElem?_eq_some_iff.1 hj).1
   obtain⟨u',h10,h11,_⟩:=A7q h8 (List.getElem?_eq_getElem hjl)
   rw [hj] at h10
   cases h10
   exact h11 rfl
  obtain⟨cs,hcs⟩:∃ cs,(vs.drop i).take (N-(i+1))=cs:=⟨_,rfl⟩
  have hcsl:cs.length=N-(i+1):=by rw [← hcs,List.length_take,List.length_drop,hvl];omega
  have fin:∀ cur':Array Value,cur'.size=cap→cur'.toList.take N=V→∀ w',w'.heap[g]?=some (.cells cur' e' (0,0))→Kb (some g) w w'→(execOp A.eval o).run P w=.ok (.value (int ((N-(i+1):Nat):Int))) w'→o.wp P A w K Q:=fun cur' h1 h2 w' h3 hkb hrun=>by
   unfold Oper.wp
   rw [hrun]
   have hGn:∀ q,G q→G q∧w'.heap[q]?=w.heap[q]?:=fun q hq=>⟨hq,World.grownBy.block hkb q (hw.glt q hq) fun e=>hown.2 (by cases e;exact hq)⟩
   refine hK _ _ _ _ (Evo.chg (p:=γ k) (b0:=some g) hkb hw.glt (List.mem_singleton.2 rfl) hk hob.symm (.inl rfl) ⟨by rw [C3];exact h5,hsz',V,?_,hval hGn⟩ (fun q hq'=>by cases hq';exact⟨hown.2,hown.1⟩) (fun q hq'=>by rw [g1] at hq';cases hq';exact .inl rfl) (fun _ h=>by cases h;rw [LR,DR]))
   rw [C3,g1,hlen']
   exact⟨by rw [hVl,Nat.mul_one],.inr ⟨g,cap,cur',rfl,g2,h3,g4,g5,by rw [h1,Nat.mul_one],by rw [Nat.mul_one];exact h2⟩⟩
  by_cases hm:N-(i+1)=0
  ·have hV2:V=vs:=by
    rw [← hV,hm,List.take_zero,List.append_nil,List.take_of_length_le (by omega)]
   have hx9:∃ p,A.eval x=.slice p (N-(i+1)) (cap-(i+1)):=by
    rw [hv,g1]
    simp only [win]
    exact⟨_,rfl⟩
   obtain⟨p,hx9⟩:=hx9
   refine fin cur g6 (by rw [hV2,g7]) w g3 ⟨rfl,rfl,rfl,Nat.le_refl _,fun _ _ _=>rfl⟩ ?_
   have h:=run_copy_none (P:=P) w dT sT o.type e p (some ⟨g,i,none⟩) (N-(i+1)) (cap-(i+1)) (N-i) (cap-i) hu hs1 (by rw [hm];exact Nat.min_eq_right (Nat.zero_le _))
   simp only [execOp,ho,resolve,invoke,builtin,Sem.run_bind,Sem.run_pure,Result.andThen_ok,List.map_toArray,List.map_cons,List.map_nil,hx9,hy9,h]
   rw [hm]
   rfl
  ·have hx9:A.eval x=.slice (some ⟨g,i+1,none⟩) (N-(i+1)) (cap-(i+1)):=by
    rw [hv,g1]
    simp only [win]
    rw [if_neg (by omega)]
    simp [D6]
   have hsrc:∀ j v,cs[j]?=some v→w.cell? ((⟨g,i,none⟩:Addr).add j)=some v:=fun j v hj=>by
    have hjl:=(List.getElem?_eq_some_iff.1 hj).1
    rw [← hcs,List.getElem?_take_of_lt (by omega),List.getElem?_drop,← g7,List.getElem?_take_of_lt (by omega)] at hj
    rw [D6]
    simp only [World.cell?,g3]
    simpa using hj
   have h:=run_copy_row (P:=P) w dT sT o.type e g (i+1) (N-(i+1)) (cap-(i+1)) ⟨g,i,none⟩ (N-i) (cap-i) cur e' cs hu hs1 g3 (by rw [hcsl];exact(Nat.min_eq_right (by omega)).symm) hsrc (by rw [hcsl,g6];omega) (fun v hv=>hone v (by rw [← hcs] at hv;exact List.mem_of_mem_drop (List.mem_of_mem_take hv)))
   refine fin (cur.toList.take (i+1)++cs++cur.toList.drop (i+1+cs.length)).toArray ?_ ?_ (w.setRow g (cur.toList.take (i+1)++cs++cur.toList.drop (i+1+cs.length)).toArray) (setRow_heap w g cur _ e' (0,0) g3) ⟨rfl,rfl,rfl,by simp,fun j hj hne=>setRow_other w g j _ (fun e=>hne (by rw [e]))⟩ ?_
   ·rw [List.size_toArray,List.length_append,List.length_append,List.length_take,List.length_drop,hcl,hcsl];omega
   ·rw [List.toList_toArray,hcv (i+1) (by omega),List.take_append_of_le_length (by rw [List.length_append,List.length_take,hvl,hcsl];omega),List.take_of_length_le (by rw [List.length_append,List.length_take,hvl,hcsl];omega),← hV,hcs]
   ·simp only [execOp,ho,resolve,invoke,builtin,Sem.run_bind,Sem.run_pure,Result.andThen_ok,List.map_toArray,List.map_cons,List.map_nil,hx9,hy9,h,hcsl]
    rfl
end
end Go.Dl
namespace Go.Proofs.YtojadfppncgphaaGreatDoor
section
open Go.RowKit Go.En Go.Dl Go.Tp
theorem C3l {α:Type}{C:α→List Dt}{l:List α}{x:α}{z r:List Dt}{y:Dt}{i:Nat}(hi:i≤l.length)(hr:(l.map C++[z])[i]?=some r)(h1:r.length=1)(hx:C x=[y]) :
  ((l.map C++[z]).take (i+1)++((l.map C++[z]).drop i).take ((l.map C++[z]).length-(i+1))).set i (r.take 0++[y]++r.drop (0+1))=(l.take i++x::l.drop i).map C:=by
 have hl:(l.map C++[z]).length=l.length+1:=by rw [List.length_append,List.length_map];rfl
 have e1:(l.map C++[z]).take (i+1)=(l.map C).take i++[r]:=by
  rw [List.take_add_one,hr,List.take_append_of_le_length (by rw [List.length_map];exact hi)];rfl
 have e2:((l.map C++[z]).drop i).take (l.length+1-(i+1))=(l.map C).drop i:=by
  rw [List.drop_append_of_le_length (by rw [List.length_map];exact hi),List.take_append_of_le_length (by rw [List.length_drop,List.length_map];omega),List.take_of_length_le (by rw [List.length_drop,List.length_map];omega)]
 have e3:r.drop (0+1)=[]:=List.drop_eq_nil_of_le oEw
 have h3:((l.map C).take i).length=i:=by rw [List.length_take,List.length_map];omega
 rw [hl,e1,e2,e3,List.append_assoc,List.set_append_right _ _ oEw,h3,Nat.sub_self]
 rw [List.map_append,List.map_cons,List.map_take,List.map_drop,hx]
 rfl
theorem D9n {α:Type}{A:List α}{i:Nat}{r:α}{m:Nat}(hr:A[i]?=some r):(A.take (i+1)++(A.drop i).take m)[i]?=some r:=by
 have hi:=(List.getElem?_eq_some_iff.1 hr).1
 rw [List.getElem?_append_left (by rw [List.length_take];omega),List.getElem?_take_of_lt oEw,hr]
def Y2 (L:List (List Tx))(s t:Tx):Bool:=decide (A9x L s t<0)
def ordS (g:Lng)(st:List Int × List Tx)(e:Entr):List Int × List Tx:=
  (st.1.take (insN (Y2 g.ortho.letters (spdF g e.form)) st.2 st.2.length)++e.id::st.1.drop (insN (Y2 g.ortho.letters (spdF g e.form)) st.2 st.2.length),
   st.2.take (insN (Y2 g.ortho.letters (spdF g e.form)) st.2 st.2.length)++spdF g e.form::st.2.drop (insN (Y2 g.ortho.letters (spdF g e.form)) st.2 st.2.length))
def ordE (g:Lng):List Int:=(g.lex.foldl (ordS g) ([],[])).1
theorem C2p (us : List Unt)(hU : ∀ u ∈ us, u.graph.length ≤ 1000000) : ∀ (k : Nat) (q : List Int) (acc : Tx) (a : Int), (spG us k q acc a).1.length ≤ acc.length + k * 1000000
 | 0,q,acc,a=>by rw [spG];dsimp only;omega
 | k + 1, q, acc, a => by
  rw [spG]
  split
  ·dsimp only;omega
  ·split
   ·exact zLw
   ·have h1:=C2p us hU k (q.drop (unL us (unF us q))) (acc++unGr us (unF us q)) (a+unL us (unF us q))
    have h2:(unGr us (unF us q)).length≤1000000:=by
     unfold unGr
     cases h:us[(unF us q).toNat]? with
     | none=>exact zLw
     | some u=>exact hU u (List.mem_of_getElem? h)
    rw [List.length_append] at h1
    rw [Nat.add_mul]
    omega
theorem D5w {g : Lng}(h : LgW g){w : List Int}(hw : w.length ≤ 1000) : (spdF g w).length ≤ 1000000000 := by
 unfold spdF
 split
 ·have:=C1h (f:=fun s=>if K0 g.segs.length s then ((g.segs[(s-1).toNat]?).map (·.name)).getD [] else []) (m:=1000) w (fun x _=>by
   split
   ·cases h2:g.segs[(x-1).toNat]? with
    | none=>exact zLw
    | some p=>exact h.names p (List.mem_of_getElem? h2)
   ·exact zLw)
  unfold txF
  have h3:1000*w.length≤1000*1000:=Nat.mul_le_mul_left _ hw
  omega
 ·unfold spF
  split
  ·exact zLw
  ·split
   ·exact zLw
   ·rename_i h24
    have h1:=C2p g.ortho.units (fun u hu=>(h.units u hu).2) w.length w [] 0
    have h2:w.length*1000000≤24*1000000:=Nat.mul_le_mul_right _ oEw
    simp only [List.length_nil] at h1
    omega
attribute [local irreducible] X XL XW XG XK Val LS Fp Fo Calls bodyPost Code.wp
theorem c47 (o:Orth)(s t:Tx)(h:OrW o)(hs:s.length≤1000000000)(ht:t.length≤1000000000):Fp Tryz.prog 47 [.g (A0h o),dS s,dS t] (dI (A9x o.letters s t)):=by
 have c1:=c122 o s h hs
 have c2:=c122 o t h ht
 have hs2:s.length≤140737488355328:=oEw
 have ht2:t.length≤140737488355328:=oEw
 unfold A9x
 obtain⟨A,hA⟩:∃ A,ltF o.letters s=A:=⟨_,rfl⟩
 obtain⟨B,hB⟩:∃ B,ltF o.letters t=B:=⟨_,rfl⟩
 rw [hA] at c1 ⊢
 rw [hB] at c2 ⊢
 obtain⟨a,x,d⟩:=A
 obtain⟨b,y,e⟩:=B
 dsimp only at c1 c2 ⊢
 have c3:=c124 a b
 have c4:=c124 x y
 have c5:=c125 s t
 obtain⟨z1,hz1⟩:∃ z,cmpL a b=z:=⟨_,rfl⟩
 obtain⟨z2,hz2⟩:∃ z,cmpL x y=z:=⟨_,rfl⟩
 obtain⟨z3,hz3⟩:∃ z,cmpL (byI s) (byI t)=z:=⟨_,rfl⟩
 rw [hz1] at c3 ⊢
 rw [hz2] at c4 ⊢
 rw [hz3] at c5 ⊢
 have c6:=c123 [z1,z2,z3]
 refine fXw Tryz.func47 Tryz.ntmps47 fun c hM=>?_
 (repeat' (first|refine G_x (A3 Z Z Z G1w (c1) (.eq rfl)) Z Z ?_|refine G_x (A3 Z Z Z G1w (c2) (.eq rfl)) Z Z ?_|refine G_x (A3 Z Z Z G1u (c3) (.eq rfl)) Z Z ?_|refine G_x (A3 Z Z Z G1u (c4) (.eq rfl)) Z Z ?_|refine G_x (B2p Z Z hs2) Z Z ?_|refine G_x (B2p Z Z ht2) Z Z ?_|refine G_x (A3 Z Z Z H0n (c5) (.eq rfl)) Z Z ?_|refine G_x (A3 Z Z Z G1v (c6) (.eq rfl)) Z Z ?_|refine Wz ?_|fail))
 all_goals (try exact oMw)
 exact rXw hM
theorem B7x {g:Lng}(st:List Int × List Tx)(e:Entr):(ordS g st e).1.length=st.1.length+1∧(ordS g st e).2.length=st.2.length+1:=by
 unfold ordS
 dsimp only
 constructor
 ·rw [List.length_append,List.length_cons,List.length_take,List.length_drop];omega
 ·rw [List.length_append,List.length_cons,List.length_take,List.length_drop];omega
theorem C6g {g:Lng}{st:List Int × List Tx}{e:Entr}{B:Nat}(h:∀ t∈st.2,t.length≤B)(he:(spdF g e.form).length≤B):∀ t∈(ordS g st e).2,t.length≤B:=by
 intro t ht
 unfold ordS at ht
 dsimp only at ht
 rcases List.mem_append.1 ht with ht|ht
 ·exact h t (List.mem_of_mem_take ht)
 ·rcases List.mem_cons.1 ht with rfl|ht
  ·exact he
  ·exact h t (List.mem_of_mem_drop ht)
theorem c11 (g:Lng)(h:LgW g)(ho:OrW g.ortho)(hl:g.lex.length≤1000)(hf:∀ e∈g.lex,e.form.length≤1000):Fp Tryz.prog 11 [.g (lngC g)] (ints (ordE g)):=by
 unfold ordE
 refine fXw Tryz.func11 Tryz.ntmps11 fun c hM=>?_
 (repeat' (first|refine Wz ?_|refine Wb fun hb=>?_))
 refine D0 3 3 3 1 Z Z ?_
 refine D0 4 4 9 1 Z Z ?_
 refine X_lp (ι:=Nat × (List Int × List Tx) × Nat × Nat) 1180591620717411299800 [3,4] (fun z=>[(3,.o 3 z.2.2.1),(4,.o 4 z.2.2.2),(12,.d (dI z.1))]) (fun z=>[(3,.ls 3 1 z.2.2.1 (z.2.1.1.map iC)),(4,.ls 9 1 z.2.2.2 (z.2.1.2.map tC))]) (fun z=>z.1≤g.lex.length∧z.2.1=(g.lex.take z.1).foldl (ordS g) ([],[])∧z.2.1.1.length=z.1∧z.2.1.2.length=z.1∧(∀ t∈z.2.1.2,t.length≤1000000000)) (fun z=>g.lex.length-z.1) ((0,([],[]),0,0)) ?_ ?_
 ·exact⟨zLw,rfl,rfl,rfl,fun t ht=>by cases ht⟩
 rintro⟨i,⟨ids,keys⟩,v,w⟩ ⟨hi,hst,hn1,hn2,hkl⟩
 dsimp only at hi hst hn1 hn2 hkl ⊢
 by_cases hlt:i<g.lex.length
 rotate_left
 ·have hz:i=g.lex.length:=oEw
  subst hz
  rw [List.take_length] at hst
  rw [← hst]
  (repeat' (first|refine Wz ?_|apply Wd <;>intro hh))
  all_goals (try exact oMw)
  refine B9 2 Z Z lOw ?_
  exact rXw hM
 obtain⟨e,hx⟩:=gex hlt
 have hfe:=hf e (List.mem_of_getElem? hx)
 have c1:=c46 g e.form h hfe
 have hsl:=D5w h hfe
 have hnx:(g.lex.take (i+1)).foldl (ordS g) ([],[])=ordS g (ids,keys) e:=by
  rw [List.take_add_one,hx,List.foldl_append,← hst];rfl
 have hlen:=B7x (g:=g) (ids,keys) e
 have hkn:=C6g (g:=g) (st:=(ids,keys)) (e:=e) hkl hsl
 obtain⟨s,hs⟩:∃ s,spdF g e.form=s:=⟨_,rfl⟩
 have hS:ordS g (ids,keys) e=(ids.take (insN (Y2 g.ortho.letters s) keys keys.length)++e.id::ids.drop (insN (Y2 g.ortho.letters s) keys keys.length),keys.take (insN (Y2 g.ortho.letters s) keys keys.length)++s::keys.drop (insN (Y2 g.ortho.letters s) keys keys.length)):=by
  rw [← hs];rfl
 rw [hs] at c1 hsl
 (repeat' (first|refine iDw (gm hx) ?_|refine cDw en46 c1 ?_|refine Wz ?_|apply Wd <;>intro hh))
 all_goals (try exact oMw)
 refine X_lp (ι:=Nat) 274873712896 [] (fun j=>[(8,.d (dI j))]) (fun _=>[]) (fun j=>j≤keys.length∧insN (Y2 g.ortho.letters s) keys keys.length=insN (Y2 g.ortho.letters s) keys j) (fun j=>j) (ids.length) ?_ ?_
 ·exact⟨oEw,by rw [hn1,hn2]⟩
 rintro j ⟨hj,hq⟩
 by_cases hgo:∃ m k,j=m+1∧keys[m]?=some k∧A9x g.ortho.letters s k<0
 ·obtain⟨m,k,rfl,hk,hz⟩:=hgo
  have c2:=c47 g.ortho s k ho hsl (hkl k (List.mem_of_getElem? hk))
  rw [A9f hk (show Y2 g.ortho.letters s k=true from decide_eq_true hz)] at hq
  obtain⟨z,hz2⟩:∃ z,A9x g.ortho.letters s k=z:=⟨_,rfl⟩
  rw [hz2] at c2 hz
  (repeat' (first|refine G_x (A8 (m:=m) Z Z Z Z (by first|rfl|omega) lOw) Z Z ?_|refine G_x (M6 (m:=m) (j:=0) Z Z Z Z (by first|rfl|omega) (gm hk) rfl) Z Z ?_|refine G_x (A3 Z Z Z en47 (c2) (.eq rfl)) Z Z ?_|refine Wz ?_|apply Wd <;>intro hh))
  all_goals (try exact oMw)
  exact A0 m ⟨oEw,hq⟩ oEw (by rw [show(((m+1:Nat):Int)-1)=(m:Int) by omega];(repeat (refine A6 (by first|rfl|simp) ?_));exact B8 _)
 have hpos:insN (Y2 g.ortho.letters s) keys j=j:=by
  cases j with
  | zero=>rfl
  | succ m=>
   obtain⟨k,hk⟩:=gex (l:=keys) (i:=m) oEw
   have:Y2 g.ortho.letters s k=false:=decide_eq_false fun hz=>hgo ⟨m,k,rfl,hk,hz⟩
   exact B5m hk this
 rw [hpos] at hq
 rw [hq] at hS
 rw [hS] at hnx hlen hkn
 clear hpos hS hst
 obtain⟨r1,hr1⟩:∃ r,(ids.map iC++[[dI 0]])[j]?=some r:=⟨_,List.getElem?_eq_getElem (by rw [List.length_append,List.length_map];simp only [List.length_cons,List.length_nil];omega)⟩
 obtain⟨r2,hr2⟩:∃ r,(keys.map tC++[[dS []]])[j]?=some r:=⟨_,List.getElem?_eq_getElem (by rw [List.length_append,List.length_map];simp only [List.length_cons,List.length_nil];omega)⟩
 have hl1:r1.length=1:=by
  have:=List.mem_of_getElem? hr1
  rcases List.mem_append.1 this with h|h
  ·obtain⟨x,_,rfl⟩:=List.mem_map.1 h;rfl
  ·obtain rfl:=List.mem_singleton.1 h;rfl
 have hl2:r2.length=1:=by
  have:=List.mem_of_getElem? hr2
  rcases List.mem_append.1 this with h|h
  ·obtain⟨x,_,rfl⟩:=List.mem_map.1 h;rfl
  ·obtain rfl:=List.mem_singleton.1 h;rfl
 have hm1:=C3l (C:=iC) (x:=e.id) (by omega:j≤ids.length) hr1 hl1 (rfl:iC e.id=[dI e.id])
 have hm2:=C3l (C:=tC) (x:=s) (by omega:j≤keys.length) hr2 hl2 (rfl:tC s=[dS s])
 have ha1:=D9n (m:=(ids.map iC++[[dI 0]]).length-(j+1)) hr1
 have ha2:=D9n (m:=(keys.map tC++[[dS []]]).length-(j+1)) hr2
 have hj1:j<(ids.map iC++[[dI 0]]).length:=(List.getElem?_eq_some_iff.1 hr1).1
 have hj2:j<(keys.map tC++[[dS []]]).length:=(List.getElem?_eq_some_iff.1 hr2).1
 cases j with
 | zero=>
  (repeat' (first|refine G_x (A3z (a:=0+1) Z Z Z Z oEw (by first|exact hj1|exact hj2)) Z Z ?_|refine G_x (A3z (a:=0) Z Z Z Z (by first|rfl|omega) (by first|exact Nat.le_of_lt hj1|exact Nat.le_of_lt hj2)) Z Z ?_|refine G_n Z Z (A4e (i:=0) Z Z Z Z Z Z hj1) Z ?_|refine G_n Z Z (A4e (i:=0) Z Z Z Z Z Z hj2) Z ?_|refine G_x (A8 (m:=0) Z Z Z Z (by first|rfl|omega) lOw) Z Z ?_|refine G_s (M1 (m:=0) (j:=0) Z Z Z Z Z Z oEw ha1 (by decide)) Z Z Z ?_|refine G_s (M1 (m:=0) (j:=0) Z Z Z Z Z Z oEw ha2 (by decide)) Z Z Z ?_|refine Wz ?_|apply Wd <;>intro hh))
  all_goals (try exact oMw)
  exact A0 (i+1,(ids.take (0)++e.id::ids.drop (0),keys.take (0)++s::keys.drop (0)),v+1,w+1) ⟨oDw,hnx.symm,by dsimp only;have:=hlen.1;dsimp only at this;omega,by dsimp only;have:=hlen.2;dsimp only at this;omega,hkn⟩ (oDw) (hh:=A1 (by dsimp only;rw [← hm1];rfl) (A1 (by dsimp only;rw [← hm2];rfl) (A4 _))) (hh':=hSw)
 | succ m=>
  obtain⟨k,hk⟩:=gex (l:=keys) (i:=m) oEw
  have c2:=c47 g.ortho s k ho hsl (hkl k (List.mem_of_getElem? hk))
  have hz:¬ A9x g.ortho.letters s k<0:=fun hz=>hgo ⟨m,k,rfl,hk,hz⟩
  obtain⟨z,hz2⟩:∃ z,A9x g.ortho.letters s k=z:=⟨_,rfl⟩
  rw [hz2] at c2 hz
  (repeat' (first|refine G_x (A8 (m:=m) Z Z Z Z (by first|rfl|omega) lOw) Z Z ?_|refine G_x (M6 (m:=m) (j:=0) Z Z Z Z (by first|rfl|omega) (gm hk) rfl) Z Z ?_|refine G_x (A3 Z Z Z en47 (c2) (.eq rfl)) Z Z ?_|refine G_x (A3z (a:=m+1+1) Z Z Z Z oEw (by first|exact hj1|exact hj2)) Z Z ?_|refine G_x (A3z (a:=m+1) Z Z Z Z (by first|rfl|omega) (by first|exact Nat.le_of_lt hj1|exact Nat.le_of_lt hj2)) Z Z ?_|refine G_n Z Z (A4e (i:=m+1) Z Z Z Z Z Z hj1) Z ?_|refine G_n Z Z (A4e (i:=m+1) Z Z Z Z Z Z hj2) Z ?_|refine G_x (A8 (m:=m+1) Z Z Z Z (by first|rfl|omega) lOw) Z Z ?_|refine G_s (M1 (m:=m+1) (j:=0) Z Z Z Z Z Z oEw ha1 (by decide)) Z Z Z ?_|refine G_s (M1 (m:=m+1) (j:=0) Z Z Z Z Z Z oEw ha2 (by decide)) Z Z Z ?_|refine Wz ?_|apply Wd <;>intro hh))
  all_goals (try exact oMw)
  exact A0 (i+1,(ids.take (m+1)++e.id::ids.drop (m+1),keys.take (m+1)++s::keys.drop (m+1)),v+1,w+1) ⟨oDw,hnx.symm,by dsimp only;have:=hlen.1;dsimp only at this;omega,by dsimp only;have:=hlen.2;dsimp only at this;omega,hkn⟩ (oDw) (hh:=A1 (by dsimp only;rw [← hm1];rfl) (A1 (by dsimp only;rw [← hm2];rfl) (A4 _))) (hh':=hSw)
end
end Go.Proofs.YtojadfppncgphaaGreatDoor