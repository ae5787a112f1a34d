/- Own text. -/
import Derived.Test.YtojadfppncgphaaGreatDoorY5
set_option linter.all false
set_option maxHeartbeats 16000000
set_option maxRecDepth 8000
namespace Go.Proofs.YtojadfppncgphaaGreatDoor
open Go.RowKit Go.En Go.Dl Go.Tp
theorem C7t {g:Lng} (st:List Int × List Tx) (e:Entr):(ordS g st e).1.length=st.1.length+1∧(ordS g st e).2.length=st.2.length+1:=by
 unfold ordS
 dsimp only
 constructor
 ·rw [List.length_append,List.length_cons,List.length_take,List.length_drop];omega
 ·rw [List.length_append,List.length_cons,List.length_take,List.length_drop];omega
theorem C4a {g:Lng} {st:List Int × List Tx} {e:Entr} {B:Nat} (h:∀ t∈st.2,t.length≤B) (he:(spdF g e.form).length≤B):∀ t∈(ordS g st e).2,t.length≤B:=by
 intro t ht
 unfold ordS at ht
 dsimp only at ht
 rcases List.mem_append.1 ht with ht|ht
 ·exact h t (List.mem_of_mem_take ht)
 ·rcases List.mem_cons.1 ht with rfl|ht
  ·exact he
  ·exact h t (List.mem_of_mem_drop ht)
attribute [local irreducible] X XL XW XG XK Val LS Fp Fo Calls bodyPost Code.wp
theorem c11 (g:Lng) (h:LgW g) (ho:OrW g.ortho) (hl:g.lex.length≤1000) (hf:∀ e∈g.lex,e.form.length≤1000):Fp Tryz.prog 11 [.g (lngC g)] (ints (ordE g)):=by
 unfold ordE
 refine fXw Tryz.func11 Tryz.ntmps11 fun c hM=>?_
 (repeat' (first|refine Wz ?_|refine Wb fun hb=>?_))
 refine D5 3 3 3 1 rfl rfl ?_
 refine D5 4 4 9 1 rfl rfl ?_
 refine X_lp (ι:=Nat × (List Int × List Tx) × Nat × Nat) 1180591620717411299800 [3,4] (fun z=>[(3,.o 3 z.2.2.1),(4,.o 4 z.2.2.2),(12,.d (dI z.1))]) (fun z=>[(3,.ls 3 1 z.2.2.1 (z.2.1.1.map iC)),(4,.ls 9 1 z.2.2.2 (z.2.1.2.map tC))]) (fun z=>z.1≤g.lex.length∧z.2.1=(g.lex.take z.1).foldl (ordS g) ([],[])∧z.2.1.1.length=z.1∧z.2.1.2.length=z.1∧(∀ t∈z.2.1.2,t.length≤1000000000)) (fun z=>g.lex.length-z.1) ((0,([],[]),0,0)) ?_ ?_
 ·exact⟨Nat.zero_le _,rfl,rfl,rfl,fun t ht=>by cases ht⟩
 rintro⟨i,⟨ids,keys⟩,v,w⟩ ⟨hi,hst,hn1,hn2,hkl⟩
 dsimp only at hi hst hn1 hn2 hkl ⊢
 by_cases hlt:i<g.lex.length
 rotate_left
 ·have hz:i=g.lex.length:=by omega
  subst hz
  rw [List.take_length] at hst
  rw [← hst]
  (repeat' (first|refine Wz ?_|refine Wd (fun hh=>?_) fun hh=>?_))
  all_goals (try exact oMw)
  refine C3 2 rfl rfl lOw ?_
  exact rXw hM
 obtain⟨e,hx⟩:=gex hlt
 have hfe:=hf e (List.mem_of_getElem? hx)
 have c1:=c46 g e.form h hfe
 have hsl:=D3t h hfe
 have hnx:(g.lex.take (i+1)).foldl (ordS g) ([],[])=ordS g (ids,keys) e:=by
  rw [List.take_add_one,hx,List.foldl_append,← hst];rfl
 have hlen:=C7t (g:=g) (ids,keys) e
 have hkn:=C4a (g:=g) (st:=(ids,keys)) (e:=e) hkl hsl
 obtain⟨s,hs⟩:∃ s,spdF g e.form=s:=⟨_,rfl⟩
 have hS:ordS g (ids,keys) e=(ids.take (insN (W7 g.ortho.letters s) keys keys.length)++e.id::ids.drop (insN (W7 g.ortho.letters s) keys keys.length),keys.take (insN (W7 g.ortho.letters s) keys keys.length)++s::keys.drop (insN (W7 g.ortho.letters s) keys keys.length)):=by
  rw [← hs];rfl
 rw [hs] at c1 hsl
 (repeat' (first|refine iDw (gm hx) ?_|refine cDw en46 c1 ?_|refine Wz ?_|refine Wd (fun hh=>?_) fun hh=>?_))
 all_goals (try exact oMw)
 refine X_lp (ι:=Nat) 274873712896 [] (fun j=>[(8,.d (dI j))]) (fun _=>[]) (fun j=>j≤keys.length∧insN (W7 g.ortho.letters s) keys keys.length=insN (W7 g.ortho.letters s) keys j) (fun j=>j) (ids.length) ?_ ?_
 ·exact⟨by omega,by rw [hn1,hn2]⟩
 rintro j ⟨hj,hq⟩
 by_cases hgo:∃ m k,j=m+1∧keys[m]?=some k∧A8w g.ortho.letters s k<0
 ·obtain⟨m,k,rfl,hk,hz⟩:=hgo
  have c2:=c47 g.ortho s k ho hsl (hkl k (List.mem_of_getElem? hk))
  rw [A7z hk (show W7 g.ortho.letters s k=true from decide_eq_true hz)] at hq
  obtain⟨z,hz2⟩:∃ z,A8w g.ortho.letters s k=z:=⟨_,rfl⟩
  rw [hz2] at c2 hz
  (repeat' (first|refine G_x (A7 (m:=m) rfl rfl rfl rfl (by first|rfl|omega) lOw) rfl rfl ?_|refine G_x (L6 (m:=m) (j:=0) rfl rfl rfl rfl (by first|rfl|omega) (gm hk) rfl) rfl rfl ?_|refine G_x (A1 rfl rfl rfl en47 (c2) (.eq rfl)) rfl rfl ?_|refine Wz ?_|refine Wd (fun hh=>?_) fun hh=>?_))
  all_goals (try exact oMw)
  exact A0 m ⟨by omega,hq⟩ (by omega) (by rw [show(((m+1:Nat):Int)-1)=(m:Int) by omega];(repeat (refine A6 (by first|rfl|simp) ?_));exact B9 _)
 have hpos:insN (W7 g.ortho.letters s) keys j=j:=by
  cases j with
  | zero=>rfl
  | succ m=>
   obtain⟨k,hk⟩:=gex (l:=keys) (i:=m) (by omega)
   have:W7 g.ortho.letters s k=false:=decide_eq_false fun hz=>hgo ⟨m,k,rfl,hk,hz⟩
   exact B4a hk this
 rw [hpos] at hq
 rw [hq] at hS
 rw [hS] at hnx hlen hkn
 clear hpos hS hst
 obtain⟨r1,hr1⟩:∃ r,(ids.map iC++[[dI 0]])[j]?=some r:=⟨_,List.getElem?_eq_getElem (by rw [List.length_append,List.length_map];simp only [List.length_cons,List.length_nil];omega)⟩
 obtain⟨r2,hr2⟩:∃ r,(keys.map tC++[[dS []]])[j]?=some r:=⟨_,List.getElem?_eq_getElem (by rw [List.length_append,List.length_map];simp only [List.length_cons,List.length_nil];omega)⟩
 have hl1:r1.length=1:=by
  have:=List.mem_of_getElem? hr1
  rcases List.mem_append.1 this with h|h
  ·obtain⟨x,_,rfl⟩:=List.mem_map.1 h;rfl
  ·obtain rfl:=List.mem_singleton.1 h;rfl
 have hl2:r2.length=1:=by
  have:=List.mem_of_getElem? hr2
  rcases List.mem_append.1 this with h|h
  ·obtain⟨x,_,rfl⟩:=List.mem_map.1 h;rfl
  ·obtain rfl:=List.mem_singleton.1 h;rfl
 have hm1:=C1f (C:=iC) (x:=e.id) (by omega:j≤ids.length) hr1 hl1 (rfl:iC e.id=[dI e.id])
 have hm2:=C1f (C:=tC) (x:=s) (by omega:j≤keys.length) hr2 hl2 (rfl:tC s=[dS s])
 have ha1:=D6x (m:=(ids.map iC++[[dI 0]]).length-(j+1)) hr1
 have ha2:=D6x (m:=(keys.map tC++[[dS []]]).length-(j+1)) hr2
 have hj1:j<(ids.map iC++[[dI 0]]).length:=(List.getElem?_eq_some_iff.1 hr1).1
 have hj2:j<(keys.map tC++[[dS []]]).length:=(List.getElem?_eq_some_iff.1 hr2).1
 cases j with
 | zero=>
  (repeat' (first|refine G_x (A3g (a:=0+1) rfl rfl rfl rfl (by omega) (by first|exact hj1|exact hj2)) rfl rfl ?_|refine G_x (A3g (a:=0) rfl rfl rfl rfl (by first|rfl|omega) (by first|exact Nat.le_of_lt hj1|exact Nat.le_of_lt hj2)) rfl rfl ?_|refine G_n rfl rfl (A3l (i:=0) rfl rfl rfl rfl rfl rfl hj1) rfl ?_|refine G_n rfl rfl (A3l (i:=0) rfl rfl rfl rfl rfl rfl hj2) rfl ?_|refine G_x (A7 (m:=0) rfl rfl rfl rfl (by first|rfl|omega) lOw) rfl rfl ?_|refine G_s (K9 (m:=0) (j:=0) rfl rfl rfl rfl rfl rfl (by omega) ha1 (by decide)) rfl rfl rfl ?_|refine G_s (K9 (m:=0) (j:=0) rfl rfl rfl rfl rfl rfl (by omega) ha2 (by decide)) rfl rfl rfl ?_|refine Wz ?_|refine Wd (fun hh=>?_) fun hh=>?_))
  all_goals (try exact oMw)
  exact A0 (i+1,(ids.take (0)++e.id::ids.drop (0),keys.take (0)++s::keys.drop (0)),v+1,w+1) ⟨by dsimp only;omega,hnx.symm,by dsimp only;have:=hlen.1;dsimp only at this;omega,by dsimp only;have:=hlen.2;dsimp only at this;omega,hkn⟩ (by dsimp only;omega) (hh:=A3 (by dsimp only;rw [← hm1];rfl) (A3 (by dsimp only;rw [← hm2];rfl) (A4 _))) (hh':=hSw)
 | succ m=>
  obtain⟨k,hk⟩:=gex (l:=keys) (i:=m) (by omega)
  have c2:=c47 g.ortho s k ho hsl (hkl k (List.mem_of_getElem? hk))
  have hz:¬ A8w g.ortho.letters s k<0:=fun hz=>hgo ⟨m,k,rfl,hk,hz⟩
  obtain⟨z,hz2⟩:∃ z,A8w g.ortho.letters s k=z:=⟨_,rfl⟩
  rw [hz2] at c2 hz
  (repeat' (first|refine G_x (A7 (m:=m) rfl rfl rfl rfl (by first|rfl|omega) lOw) rfl rfl ?_|refine G_x (L6 (m:=m) (j:=0) rfl rfl rfl rfl (by first|rfl|omega) (gm hk) rfl) rfl rfl ?_|refine G_x (A1 rfl rfl rfl en47 (c2) (.eq rfl)) rfl rfl ?_|refine G_x (A3g (a:=m+1+1) rfl rfl rfl rfl (by omega) (by first|exact hj1|exact hj2)) rfl rfl ?_|refine G_x (A3g (a:=m+1) rfl rfl rfl rfl (by first|rfl|omega) (by first|exact Nat.le_of_lt hj1|exact Nat.le_of_lt hj2)) rfl rfl ?_|refine G_n rfl rfl (A3l (i:=m+1) rfl rfl rfl rfl rfl rfl hj1) rfl ?_|refine G_n rfl rfl (A3l (i:=m+1) rfl rfl rfl rfl rfl rfl hj2) rfl ?_|refine G_x (A7 (m:=m+1) rfl rfl rfl rfl (by first|rfl|omega) lOw) rfl rfl ?_|refine G_s (K9 (m:=m+1) (j:=0) rfl rfl rfl rfl rfl rfl (by omega) ha1 (by decide)) rfl rfl rfl ?_|refine G_s (K9 (m:=m+1) (j:=0) rfl rfl rfl rfl rfl rfl (by omega) ha2 (by decide)) rfl rfl rfl ?_|refine Wz ?_|refine Wd (fun hh=>?_) fun hh=>?_))
  all_goals (try exact oMw)
  exact A0 (i+1,(ids.take (m+1)++e.id::ids.drop (m+1),keys.take (m+1)++s::keys.drop (m+1)),v+1,w+1) ⟨by dsimp only;omega,hnx.symm,by dsimp only;have:=hlen.1;dsimp only at this;omega,by dsimp only;have:=hlen.2;dsimp only at this;omega,hkn⟩ (by dsimp only;omega) (hh:=A3 (by dsimp only;rw [← hm1];rfl) (A3 (by dsimp only;rw [← hm2];rfl) (A4 _))) (hh':=hSw)
end Go.Proofs.YtojadfppncgphaaGreatDoor
