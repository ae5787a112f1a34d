/- Own text. -/
import Derived.Test.YtojadfppncgphaaGreatDoorQY1
set_option linter.all false
set_option maxHeartbeats 16000000
set_option maxRecDepth 8000
namespace Go.Proofs.YtojadfppncgphaaGreatDoor
section
open Go.RowKit Go.En Go.Dl Go.Tp
theorem C1d (x:Int):∀ s:List Int,s.Nodup→mdel (s.map bT) (.i x)=(delI s x).map bT
 | [],_=>rfl
 | a :: r, h => by
  rw [List.nodup_cons] at h
  rw [List.map_cons,mdel,delI,List.filter_cons]
  by_cases e:a=x
  ·subst e
   rw [if_pos rfl,if_neg (by simp)]
   rw [List.filter_eq_self.mpr (fun y hy=>by simp;intro e;subst e;exact h.1 hy)]
  ·rw [if_neg (by simpa using e),if_pos (by simpa using e),C1d x r h.2];rfl
theorem C5c (s:List Int)(x:Int):(delI s x).length≤s.length:=List.length_filter_le _ _
theorem B5w {s:List Int}(x:Int)(h:s.Nodup):(delI s x).Nodup:=h.filter _
theorem D1f (s:List Int)(x:Int):hasI s x=true↔x∈s:=by
 induction s with
 | nil=>simp [hasI]
 | cons a r ih=>rw [A1w,Bool.or_eq_true,ih];simp
theorem D7t {s:List Int}{x:Int}(h:hasI s x=true):(delI s x).length<s.length:=by
 induction s with
 | nil=>cases h
 | cons a r ih=>
  rw [A1w,Bool.or_eq_true] at h
  rw [delI,List.filter_cons]
  by_cases e:a=x
  ·subst e
   rw [if_neg (by simp),List.length_cons]
   exact Nat.lt_succ_of_le (List.length_filter_le _ _)
  ·rw [if_pos (by simpa using e),List.length_cons,List.length_cons]
   have:=ih (h.resolve_left (by simpa using fun q=>e q.symm))
   exact Nat.succ_lt_succ this
def A0r (s:List Int)(e:Entr):List Int:=if C9g s e then delI s e.id else s
theorem C9f (lex:List Entr)(s:List Int):A2m lex s=lex.foldl A0r s:=rfl
theorem C4k {α:Type}{f:List Int→α→List Int}(hf:∀ s x,s.Nodup→(f s x).Nodup∧(f s x).length≤s.length):∀(l:List α) (s:List Int),s.Nodup→(l.foldl f s).Nodup∧(l.foldl f s).length≤s.length
 | [],s,h=>⟨h,Nat.le_refl _⟩
 | a::r,s,h=>by
  have h1:=hf s a h
  have h2:=C4k hf r (f s a) h1.1
  exact⟨h2.1,Nat.le_trans h2.2 h1.2⟩
theorem C9d (s:List Int)(e:Entr)(h:s.Nodup):(A0r s e).Nodup∧(A0r s e).length≤s.length:=by
 unfold A0r
 cases C9g s e
 ·exact⟨h,Nat.le_refl _⟩
 ·exact⟨B5w _ h,C5c _ _⟩
theorem C9e (lex:List Entr)(s:List Int)(h:s.Nodup):(A2m lex s).Nodup∧(A2m lex s).length≤s.length:=by
 rw [C9f];exact C4k C9d lex s h
theorem B1o (lex:List Entr):∀(k:Nat) (s:List Int),s.Nodup→(settle lex k s).Nodup∧(settle lex k s).length≤s.length
 | 0,s,h=>⟨h,Nat.le_refl _⟩
 | k + 1, s, h => by
  have h1:=C9e lex s h
  rw [settle]
  by_cases e:(A2m lex s).length=s.length
  ·rw [if_pos e];exact h1
  ·rw [if_neg e]
   have h2:=B1o lex k (A2m lex s) h1.1
   exact⟨h2.1,Nat.le_trans h2.2 h1.2⟩
structure LgX (g:Lng):Prop where
 links:∀ e∈g.lex,e.links.length≤1000
 ids:(g.lex.map (·.id)).Nodup
theorem B0o {g:Lng}(hg:LgS g)(s:List Int):LgS (K8 g s) where
 segs:=hg.segs
 rules:=hg.rules
 steps:=hg.steps
 final:=hg.final
 lex:=by
  show((g.lex.filter fun e=>hasI s e.id).map (R9 s)).length≤100
  rw [List.length_map];exact Nat.le_trans (List.length_filter_le _ _) hg.lex
 sens:=by
  intro e he
  obtain⟨a,ha,rfl⟩:=List.mem_map.mp (show e∈(g.lex.filter fun e=>hasI s e.id).map (R9 s) from he)
  exact hg.sens a (List.mem_filter.mp ha).1
 alts:=by
  intro e he
  obtain⟨a,ha,rfl⟩:=List.mem_map.mp (show e∈(g.lex.filter fun e=>hasI s e.id).map (R9 s) from he)
  exact hg.alts a (List.mem_filter.mp ha).1
 forms:=by
  intro e he
  obtain⟨a,ha,rfl⟩:=List.mem_map.mp (show e∈(g.lex.filter fun e=>hasI s e.id).map (R9 s) from he)
  exact hg.forms a (List.mem_filter.mp ha).1
theorem D1a {g:Lng}(h:(g.lex.map (·.id)).Nodup){i:Nat}{e:Entr}(hx:g.lex[i]?=some e):hasI ((g.lex.take i).map (·.id)) e.id=false:=by
 rw [← Bool.not_eq_true,D1f]
 intro hm
 have hd:=drp hx
 have e2:g.lex.map (·.id)=(g.lex.take i).map (·.id)++(e.id::(g.lex.drop (i+1)).map (·.id)):=by
  rw [← List.map_cons (f:=fun x:Entr=>x.id),← hd,← List.map_append,List.take_append_drop]
 rw [e2,List.nodup_append] at h
 exact h.2.2 _ hm _ (List.mem_cons_self ..) rfl
def rndU (p:Prj)(v:Vwr)(g:Lng)(s:List Int)(e:Entr):List Int:=if A0k p v g e then s else delI s e.id
attribute [local irreducible] X XL XW XG XK Val LS Fp Fo Calls bodyPost Code.wp
theorem c39 (p:Prj)(v:Vwr)(hp:PrW p)(hx:LgX p.lang):Fo Tryz.prog 39 [.g ((prjC p).map .d),.g ((vwrC v).map .d)] [] (.m 15) [(15,.mp 0 ((L8 p v).map bT))]:=by
 obtain⟨R,hR⟩:∃ R,L8 p v=R:=⟨_,rfl⟩
 have hR0:A6a p v (p.lang.lex.length+1) (p.lang.lex.map (·.id))=R:=hR
 have hL:=hp.lang.lex
 rw [hR]
 clear hR
 refine fo_X (n:=86) Tryz.func39 rfl Tryz.ntmps39 rfl fun c hM=>?_
 (repeat' (first|refine G_nd Z Z (Z6 _ 0 rfl) Z ?_|refine Wz ?_|refine Wb fun hb=>?_))
 refine X_lp (ι:=Nat) 267387008 [15] (fun i=>[(20,.d (dI i))]) (fun i=>[(15,.mp 0 (((p.lang.lex.take i).map (·.id)).map bT))]) (fun i=>i≤p.lang.lex.length) (fun i=>p.lang.lex.length-i) (0) ?_ ?_
 ·exact zLw
 rintro i hi
 by_cases hlt:i<p.lang.lex.length
 ·obtain⟨e,hxe⟩:=gex hlt
  have hst:=C1c e.id _ (D1a hx.ids hxe)
  have hrow:(p.lang.lex.take (i+1)).map (·.id)=(p.lang.lex.take i).map (·.id)++[e.id]:=by rw [List.take_succ,hxe];simp
  (repeat' (first|refine iDw (gm hxe) ?_|refine G_s (N2 (ky:=.i (e.id)) Z Z Z Z Z Z Z Z) Z Z Z ?_|refine Wz ?_|apply Wd <;>intro hh))
  all_goals (try exact oMw)
  exact A0 (i+1) oEw oEw (hh:=A1 (by rw [hrow,← hst];rfl) (A4 _))
 have hz:i=p.lang.lex.length:=oEw
 subst hz
 rw [List.take_length]
 (repeat' (first|refine Wz ?_|apply Wd <;>intro hh))
 all_goals (try exact oMw)
 refine X_lp (ι:=Nat × List Int) 77371252455336266912783120 [15] (fun _=>[]) (fun s=>[(15,.mp 0 (s.2.map bT))]) (fun s=>s.2.length<s.1∧s.2.Nodup∧s.2.length≤100∧A6a p v s.1 s.2=R) (fun s=>s.2.length) ((p.lang.lex.length+1,p.lang.lex.map (·.id))) ?_ ?_
 ·refine⟨?_,hx.ids,?_,hR0⟩
  ·rw [List.length_map];exact Nat.lt_succ_self _
  ·rw [List.length_map];exact hL
 rintro⟨k,s⟩ ⟨hk,hnd,h100,hq⟩
 dsimp only at hk hnd h100 hq ⊢
 clear hR0
 cases k with
 | zero=>exfalso;omega
 | succ k=>
 rw [A6a] at hq
 obtain⟨S,hS⟩:∃ S,settle p.lang.lex (s.length+1) s=S:=⟨_,rfl⟩
 have hSnd:=B1o p.lang.lex (s.length+1) s hnd
 rw [hS] at hq hSnd
 have hs0:S=settle p.lang.lex (s.length+1) s:=hS.symm
 (repeat' (first|(refine G_x (B5j (m:=s.length) Z Z Z (List.length_map ..)) Z Z ?_)|refine Wz ?_|fail))
 all_goals (try exact oMw)
 refine X_lp (ι:=Bool × Nat × List Int) 1152921503533107712 [15] (fun g=>[(9,.d (dB g.1))]) (fun g=>[(15,.mp 0 (g.2.2.map bT))]) (fun g=>g.2.2.Nodup∧g.2.2.length≤s.length∧(g.1=true→settle p.lang.lex g.2.1 g.2.2=S∧g.2.2.length<g.2.1)∧(g.1=false→g.2.2=S)) (fun g=>if g.1 then g.2.1+1 else 0) ((true,s.length+1,s)) ?_ ?_
 ·exact⟨hnd,Nat.le_refl _,fun _=>⟨hS,Nat.lt_succ_self _⟩,fun h=>Bool.noConfusion h⟩
 rintro⟨b,k2,t⟩ ⟨htn,hts,hb1,hb2⟩
 dsimp only at htn hts hb1 hb2 ⊢
 clear hs0
 cases b with
 | true=>
  obtain⟨hq2,hk2⟩:=hb1 rfl
  clear hb1 hb2
  cases k2 with
  | zero=>exfalso;omega
  | succ k2=>
  rw [settle] at hq2
  (repeat' (first|refine Wz ?_|refine Wb fun hb=>?_))
  all_goals (try exact oMw)
  refine X_lp (ι:=Nat × Bool × List Int) 1152921470247111168 [15] (fun g=>[(9,.d (dB g.2.1)),(35,.d (dI g.1))]) (fun g=>[(15,.mp 0 (g.2.2.map bT))]) (fun g=>g.1≤p.lang.lex.length∧g.2.2.Nodup∧g.2.2.length≤t.length∧(g.2.1=true↔g.2.2.length<t.length)∧(p.lang.lex.drop g.1).foldl A0r g.2.2=A2m p.lang.lex t) (fun g=>p.lang.lex.length-g.1) ((0,false,t)) ?_ ?_
  ·exact⟨zLw,htn,Nat.le_refl _,⟨fun h=>Bool.noConfusion h,fun h=>absurd h (Nat.lt_irrefl _)⟩,rfl⟩
  rintro⟨i,c2,u⟩ ⟨hi,hun,hut,hc2,hq3⟩
  dsimp only at hi hun hut hc2 hq3 ⊢
  by_cases hlt:i<p.lang.lex.length
  rotate_left
  ·have hz:i=p.lang.lex.length:=oEw
   subst hz
   rw [List.drop_eq_nil_of_le (Nat.le_refl _),List.foldl] at hq3
   rw [← hq3] at hq2
   (repeat' (first|refine Wz ?_|apply Wd <;>intro hh))
   all_goals (try exact oMw)
   have hA:c2=true→settle p.lang.lex k2 u=S∧u.length<k2:=fun h=>by
    have h5:=hc2.1 h
    rw [if_neg oEw] at hq2
    exact⟨hq2,oEw⟩
   have hB:c2=false→u=S:=fun h=>by
    have h5:¬ u.length<t.length:=fun q=>by rw [hc2.2 q] at h;cases h
    rw [if_pos oEw] at hq2
    exact hq2
   exact A0 (c2,k2,u) ⟨hun,oDw,hA,hB⟩ (by dsimp only;cases c2 <;> simp)
  obtain⟨e,hxe⟩:=gex hlt
  rw [drp hxe,List.foldl] at hq3
  have m1:=O5 e.id u
  have m2:=O5 e.main u
  have hdm:=C1d e.id u hun
  have hpu:A0r u e=if (hasI u e.id&&(decide (e.senses.length=0)&&!hasI u e.main)) then delI u e.id else u:=rfl
  obtain⟨u2,hu2⟩:∃ u2,A0r u e=u2:=⟨_,rfl⟩
  cases h1:hasI u e.id with
  | false=>
   rw [h1] at m1 hpu
   have h3:A0r u e=u:=hpu
   rw [h3] at hq3
   (repeat' (first|refine iDw (gm hxe) ?_|refine G_x (B0 (ky:=.i (e.id)) Z Z Z Z Z Z Z (by exact(m1))) Z Z ?_|refine Wz ?_|apply Wd <;>intro hh))
   all_goals (try exact oMw)
   exact A0 (i+1,c2,u) ⟨oDw,hun,hut,hc2,hq3⟩ (oDw)
  | true=>
   rw [h1] at m1 hpu
   by_cases h2:e.senses.length=0
   ·cases h3:hasI u e.main with
    | false=>
     rw [h3] at m2 hpu
     have h4:A0r u e=delI u e.id:=by rw [hpu];simp [h2]
     rw [h4] at hq3
     have hlt2:=D7t h1
     (repeat' (first|refine iDw (gm hxe) ?_|refine G_x (B0 (ky:=.i (e.id)) Z Z Z Z Z Z Z (by exact(m1))) Z Z ?_|refine G_x (B0 (ky:=.i (e.main)) Z Z Z Z Z Z Z (by exact(m2))) Z Z ?_|refine G_s (B2s (ky:=.i (e.id)) Z Z Z Z Z Z) Z Z Z ?_|refine Wz ?_|refine Wb fun hb=>?_|apply Wd <;>intro hh))
     all_goals (try exact oMw)
     exact A0 (i+1,true,delI u e.id) ⟨oDw,B5w _ hun,oDw,⟨fun _=>oDw,fun _=>rfl⟩,hq3⟩ (oDw) (hh:=A1 (by dsimp only;rw [← hdm];rfl) (A4 _))
    | true=>
     rw [h3] at m2 hpu
     have h4:A0r u e=u:=by rw [hpu];simp
     rw [h4] at hq3
     (repeat' (first|refine iDw (gm hxe) ?_|refine G_x (B0 (ky:=.i (e.id)) Z Z Z Z Z Z Z (by exact(m1))) Z Z ?_|refine G_x (B0 (ky:=.i (e.main)) Z Z Z Z Z Z Z (by exact(m2))) Z Z ?_|refine Wz ?_|refine Wb fun hb=>?_|apply Wd <;>intro hh))
     all_goals (try exact oMw)
     exact A0 (i+1,c2,u) ⟨oDw,hun,hut,hc2,hq3⟩ (oDw)
   ·have h4:A0r u e=u:=by rw [hpu];simp [h2]
    rw [h4] at hq3
    (repeat' (first|refine iDw (gm hxe) ?_|refine G_x (B0 (ky:=.i (e.id)) Z Z Z Z Z Z Z (by exact(m1))) Z Z ?_|refine Wz ?_|refine Wb fun hb=>?_|apply Wd <;>intro hh))
    all_goals (try exact oMw)
    exact A0 (i+1,c2,u) ⟨oDw,hun,hut,hc2,hq3⟩ (oDw)
 | false=>
  have hz:=hb2 rfl
  subst hz
  clear hb1 hb2
  have c4:=c40 p.lang t oEw hx.links
  obtain⟨g2,hg2⟩:∃ g2,K8 p.lang t=g2:=⟨_,rfl⟩
  have hgS:=B0o hp.lang t
  have hrd:rndF p v t=g2.lex.foldl (rndU p v g2) t:=by rw [← hg2];rfl
  have ho:OrS g2.ortho:=by rw [← hg2];exact hp.orth
  rw [hg2] at c4 hgS
  rw [hrd] at hq
  clear hrd hg2 hS
  obtain⟨V,hV⟩:∃ V,g2.lex.foldl (rndU p v g2) t=V:=⟨_,rfl⟩
  rw [hV] at hq
  (repeat' (first|refine G_c (B4 [(1000,15)] (c4) Z Z Z Z tRw en40) Z Z Z ?_|refine Wz ?_|refine Wb fun hb=>?_))
  all_goals (try exact oMw)
  refine X_lp (ι:=Nat × List Int) 2417704065276668673015808 [15] (fun g=>[(67,.d (dI g.1))]) (fun g=>[(15,.mp 0 (g.2.map bT))]) (fun g=>g.1≤g2.lex.length∧g.2.Nodup∧g.2.length≤t.length∧(g2.lex.drop g.1).foldl (rndU p v g2) g.2=V) (fun g=>g2.lex.length-g.1) ((0,t)) ?_ ?_
  ·exact⟨zLw,htn,Nat.le_refl _,hV⟩
  rintro⟨i,u⟩ ⟨hi,hun,hut,hq3⟩
  dsimp only at hi hun hut hq3 ⊢
  by_cases hlt:i<g2.lex.length
  rotate_left
  ·have hz:i=g2.lex.length:=oEw
   subst hz
   rw [List.drop_eq_nil_of_le (Nat.le_refl _),List.foldl] at hq3
   subst hq3
   by_cases he:u.length=s.length
   ·rw [if_pos he] at hq
    subst hq
    (repeat' (first|(refine G_x (B5j (m:=u.length) Z Z Z (List.length_map ..)) Z Z ?_)|refine Wz ?_|apply Wd <;>intro hh))
    all_goals (try exact oMw)
    (first|exact A9 hM Z Z Z tRw Z Z|exact C0 (A9 hM Z Z Z tRw Z Z))
   ·rw [if_neg he] at hq
    (repeat' (first|(refine G_x (B5j (m:=u.length) Z Z Z (List.length_map ..)) Z Z ?_)|refine Wz ?_|apply Wd <;>intro hh))
    all_goals (try exact oMw)
    exact A0 (k,u) ⟨oDw,hun,oDw,hq⟩ (oDw)
  obtain⟨e,hxe⟩:=gex hlt
  rw [drp hxe,List.foldl] at hq3
  have ca:=c110 p v g2 e hp hgS ho
  have hdm:=C1d e.id u hun
  have hru:rndU p v g2 u e=if A0k p v g2 e then u else delI u e.id:=rfl
  cases ha:A0k p v g2 e with
  | true=>
   rw [ha] at ca hru
   have h4:rndU p v g2 u e=u:=hru
   rw [h4] at hq3
   (repeat' (first|refine iDw (gm hxe) ?_|refine cDw G1z ca ?_|refine Wz ?_|apply Wd <;>intro hh))
   all_goals (try exact oMw)
   exact A0 (i+1,u) ⟨oDw,hun,hut,hq3⟩ (oDw)
  | false=>
   rw [ha] at ca hru
   have h4:rndU p v g2 u e=delI u e.id:=hru
   have hle:=C5c u e.id
   rw [h4] at hq3
   (repeat' (first|refine iDw (gm hxe) ?_|refine cDw G1z ca ?_|refine G_s (B2s (ky:=.i (e.id)) Z Z Z Z Z Z) Z Z Z ?_|refine Wz ?_|apply Wd <;>intro hh))
   all_goals (try exact oMw)
   exact A0 (i+1,delI u e.id) ⟨oDw,B5w _ hun,oDw,hq3⟩ (oDw) (hh:=A1 (by dsimp only;rw [← hdm];rfl) (A4 _))
theorem A8b {d:Doc}(hg:GD d)(id:Int):(K9 d id).length≤579194:=by
 unfold K9
 cases h:getN d.notes id with
 | none=>exact zLw
 | some n=>
  have hm:=H3 h
  have ht:=hg.tr n hm.1
  have h1:=A8c hg d.tiers.length 5 id ⟨n,hm.1,hm.2,by have:=hg.nt;omega⟩
  have h5:szU 5=579194:=by decide
  rw [h5] at h1
  exact Nat.le_trans (B7i _) h1
theorem D4p {d:Doc}(hg:GD d)(l:List Note)(hl:l.length≤d.notes.length)(h:∀ n∈l,∃ m∈d.notes,m.id=n.id∧m.tier=n.tier∧m.parent=n.parent)(hi:(l.map (·.id)).Pairwise (·<·)):GD ⟨d.rc,d.tiers,l⟩ where
 nn:=Nat.le_trans hl hg.nn
 nt:=hg.nt
 tr:=fun n hn=>by
  obtain⟨m,hm,_,h2,_⟩:=h n hn
  rw [← h2];exact hg.tr m hm
 up:=fun n hn m hm e=>by
  obtain⟨n',hn',_,h2,h3⟩:=h n hn
  obtain⟨m',hm',h4,h5,_⟩:=h m hm
  rw [← h2,← h5];exact hg.up n' hn' m' hm' (by rw [h3,h4];exact e)
 tp:=hg.tp
 ids:=hi
theorem A9g {l:List Note}(h:(l.map (·.id)).Pairwise (·<·))(p:Note→Bool):((l.filter p).map (·.id)).Pairwise (·<·):=h.sublist (List.filter_sublist.map _)
def clrW (d:Doc):Int:=if A2x d=false then 14 else 9
def clrD (d:Doc)(w:Int):Dt:=match O8 d w with
 | none=>.t [.g (docC doc0),dI (clrW d)]
 | some x=>.t [.g (docC x),dI 0]
theorem c115 (d:Doc)(w:Int)(hg:GD d):Fp Tryz.prog 115 [.g (docC d),dI w] (clrD d w):=by
 have c6:=c186 d
 unfold clrD O8 clrW
 cases hr:A2x d with
 | false=>
  rw [hr] at c6
  refine fXw Tryz.func115 Tryz.ntmps115 fun c hM=>?_
  (repeat' (first|refine cDw B9b c6 ?_|refine Wz ?_|fail))
  all_goals (try exact oMw)
  exact rXw hM
 | true=>
 rw [hr] at c6
 have c7:=c187 d w
 rw [if_neg (by decide),if_neg (by decide)]
 cases hn:getN d.notes w with
 | none=>
  rw [hn] at c7
  refine fXw Tryz.func115 Tryz.ntmps115 fun c hM=>?_
  (repeat' (first|refine cDw B9b c6 ?_|refine cDw C4t c7 ?_|refine Wz ?_|fail))
  all_goals (try exact oMw)
  exact rXw hM
 | some n=>
 rw [hn] at c7
 dsimp only
 by_cases ht:n.tier≠H9 d.tiers 2
 ·rw [if_pos ht]
  have h3:decide (n.tier=H9 d.tiers 2)=false:=decide_eq_false ht
  rw [C4j,h3] at c7
  refine fXw Tryz.func115 Tryz.ntmps115 fun c hM=>?_
  (repeat' (first|refine cDw B9b c6 ?_|refine cDw C4t c7 ?_|refine Wz ?_|fail))
  all_goals (try exact oMw)
  exact rXw hM
 rw [if_neg ht]
 have h3:decide (n.tier=H9 d.tiers 2)=true:=decide_eq_true (Decidable.not_not.mp ht)
 rw [C4j,h3] at c7
 dsimp only
 have c8:=c188 d
 have c9:=c129 d w (H9 d.tiers 3) hg
 have hKl:=T0 hg w (H9 d.tiers 3)
 obtain⟨K,hK⟩:∃ K,K5 d w (H9 d.tiers 3)=K:=⟨_,rfl⟩
 rw [hK] at c9 hKl ⊢
 refine fXw Tryz.func115 Tryz.ntmps115 fun c hM=>?_
 (repeat' (first|refine cDw B9b c6 ?_|refine cDw C4t c7 ?_|refine cDw C4s c8 ?_|refine cDw B3t c9 ?_|refine Wz ?_|fail))
 all_goals (try exact oMw)
 refine D0 8 8 3 1 Z Z ?_
 refine X_lp (ι:=Nat × Nat) 140720308487424 [8] (fun s=>[(8,.o 8 s.2),(34,.d (dI s.1))]) (fun s=>[(8,.ls 3 1 s.2 (((K.take s.1).flatMap fun id=>id::K9 d id).map iC))]) (fun s=>s.1≤K.length) (fun s=>K.length-s.1) ((0,0)) ?_ ?_
 ·exact zLw
 rintro⟨i,u⟩ hi
 dsimp only at hi ⊢
 have hfl:=A4o (m:=579195) (f:=fun id=>id::K9 d id) (fun x=>by rw [List.length_cons];exact Nat.succ_le_succ (A8b hg x)) (K.take i)
 rw [List.length_take] at hfl
 by_cases hlt:i<K.length
 ·obtain⟨x,hx⟩:=gex hlt
  have cx:=c189 d x hg
  have hul:=A8b hg x
  have hrow:((K.take (i+1)).flatMap fun id=>id::K9 d id).map iC=(((K.take i).flatMap fun id=>id::K9 d id).map iC++[iC x])++(K9 d x).map iC:=by rw [List.take_add_one,hx];simp
  obtain⟨A,hA⟩:∃ A,((K.take i).flatMap fun id=>id::K9 d id)=A:=⟨_,rfl⟩
  obtain⟨U,hU⟩:∃ U,K9 d x=U:=⟨_,rfl⟩
  rw [hU] at cx hul hrow
  rw [hA] at hfl hrow ⊢
  (repeat' (first|refine iDw (gm hx) ?_|refine cDw G9o cx ?_|refine Wz ?_|refine Wb fun hb=>?_|apply Wd <;>intro hh))
  all_goals (try exact oMw)
  exact A0 (i+1,u+1+1) (oDw) (oDw) (hh:=A1 (by dsimp only;rw [hrow];rfl) (A4 _))
 have hz:i=K.length:=oEw
 subst hz
 rw [List.take_length] at hfl ⊢
 obtain⟨A,hA⟩:∃ A,(K.flatMap fun id=>id::K9 d id)=A:=⟨_,rfl⟩
 rw [hA] at hfl ⊢
 (repeat' (first|refine Wz ?_|refine Wb fun hb=>?_|apply Wd <;>intro hh))
 all_goals (try exact oMw)
 refine B0h 8 Z Z lOw ?_
 refine D0 11 11 142 7 Z Z ?_
 obtain⟨q,hq⟩:∃ q:Note→Bool,q=fun n=>!hasI A n.id:=⟨_,rfl⟩
 rw [← hq]
 have hnn:=hg.nn
 refine X_lp (ι:=Nat × Nat) 18445618173802719232 [11] (fun s=>[(11,.o 11 s.2),(50,.d (dI s.1))]) (fun s=>[(11,.ls 142 7 s.2 (((d.notes.take s.1).filter q).map C4))]) (fun s=>s.1≤d.notes.length) (fun s=>d.notes.length-s.1) ((0,0)) ?_ ?_
 ·exact zLw
 rintro⟨i,m⟩ hi
 dsimp only at hi ⊢
 by_cases hlt:i<d.notes.length
 rotate_left
 ·have hz:i=d.notes.length:=oEw
  subst hz
  rw [List.take_length]
  have hfl:=List.length_filter_le q d.notes
  (repeat' (first|(refine K6 64 Z Z (by rw [List.length_map];omega) ?_)|refine Wz ?_|apply Wd <;>intro hh))
  all_goals (try exact oMw)
  exact rXw hM
 obtain⟨n2,hx⟩:=gex hlt
 have c9:=c190 A n2.id
 have hqn:q n2=!hasI A n2.id:=by rw [hq]
 have hle:((d.notes.take i).filter q).length≤14:=Nat.le_trans (List.length_filter_le _ _) (by rw [List.length_take];omega)
 cases hb:hasI A n2.id with
 | true=>
  rw [hb] at c9 hqn
  have hb2:q n2=false:=hqn
  (repeat' (first|refine iDw (gm hx) ?_|refine cDw A9r c9 ?_|refine Wz ?_|apply Wd <;>intro hh))
  all_goals (try exact oMw)
  exact A0 (i+1,m) (oDw) (oDw) (hh:=A1 (by dsimp only;rw [G1 hx hb2];rfl) (A4 _))
 | false=>
  rw [hb] at c9 hqn
  have hb2:q n2=true:=hqn
  have hrow:((d.notes.take (i+1)).filter q).map C4=((d.notes.take i).filter q).map C4++[C4 n2]:=by rw [D9 hx hb2];simp
  (repeat' (first|refine iDw (gm hx) ?_|refine cDw A9r c9 ?_|refine Wz ?_|apply Wd <;>intro hh))
  all_goals (try exact oMw)
  exact A0 (i+1,m+1) (oDw) (oDw) (hh:=A1 (by dsimp only;rw [hrow];rfl) (A4 _))
theorem B9z {d : Doc}(hg : GD d){w : Int}{y : Doc}(h : O8 d w = some y) : GD y ∧ y.rc = d.rc ∧ y.tiers = d.tiers := by
 unfold O8 at h
 cases hr:A2x d with
 | false=>rw [hr,if_pos rfl] at h;cases h
 | true=>
  rw [hr,if_neg (by decide)] at h
  cases hn:getN d.notes w with
  | none=>rw [hn] at h;cases h
  | some n=>
   rw [hn] at h
   dsimp only at h
   split at h
   ·cases h
   ·have h2:=Option.some.inj h
    rw [← h2]
    refine⟨D4p hg _ (List.length_filter_le _ _) ?_ (A9g hg.ids _),rfl,rfl⟩
    intro n hn
    exact⟨n,(List.mem_filter.mp hn).1,rfl,rfl,rfl⟩
def clrU (p:Prj)(st:List Int)(id:Int)(x:Doc)(k:Int):Doc:=match A2l p.dcns ⟨id,k⟩ with|none=>x|some a=>if T6 a st then x else (O8 x k).getD x
theorem B5y (p:Prj)(st:List Int)(d:Doc):clrF p st d=(ofF d (d.tiers.length+1) (H9 d.tiers 2)).foldl (clrU p st d.rc.id) d:=rfl
theorem c42 (p:Prj)(st:List Int)(d:Doc)(hg:GD d):Fo Tryz.prog 42 [.g ((prjC p).map .d),.g ((docC d).map .d),.m 1000] (stH st) (.g ((docC (clrF p st d)).map .d)) (stH st):=by
 rw [B5y]
 have c3:=n113 d.tiers 2
 have c2:=c112 d hg (d.tiers.length+1) (H9 d.tiers 2) (by have:=hg.nt;omega) oEw (fun _ h=>by omega)
 have hWl:=B5h hg (d.tiers.length+1) (H9 d.tiers 2)
 have hpw:14 ^ (d.tiers.length+1)≤14 ^ 7:=Nat.pow_le_pow_right oEw (by have:=hg.nt;omega)
 have h7:14 ^ 7=105413504:=rfl
 obtain⟨W,hW⟩:∃ W,ofF d (d.tiers.length+1) (H9 d.tiers 2)=W:=⟨_,rfl⟩
 rw [hW] at c2 hWl ⊢
 have hWm:W.length≤105413504:=oEw
 clear hpw h7 hWl hW
 obtain⟨R,hR⟩:∃ R,W.foldl (clrU p st d.rc.id) d=R:=⟨_,rfl⟩
 rw [hR]
 refine fo_X (n:=52) Tryz.func42 rfl Tryz.ntmps42 rfl fun c hM=>?_
 (repeat' (first|refine cDw A4s c3 ?_|refine cDw C5b c2 ?_|refine Wz ?_|fail))
 all_goals (try exact oMw)
 refine X_lp (ι:=Nat × Doc) 2251799813168896 [4] (fun s=>[(19,.d (dI s.1))]) (fun s=>[(4,.box 62 ((docC s.2).map .d))]) (fun s=>s.1≤W.length∧GD s.2∧s.2.rc=d.rc∧(W.drop s.1).foldl (clrU p st d.rc.id) s.2=R) (fun s=>W.length-s.1) ((0,d)) ?_ ?_
 ·exact⟨zLw,hg,rfl,hR⟩
 rintro⟨i,x⟩ ⟨hi,hgx,hrc,hq⟩
 dsimp only at hi hgx hrc hq ⊢
 clear hR
 by_cases hlt:i<W.length
 rotate_left
 ·have hz:i=W.length:=oEw
  subst hz
  rw [List.drop_eq_nil_of_le (Nat.le_refl _),List.foldl] at hq
  subst hq
  (repeat' (first|refine Wz ?_|apply Wd <;>intro hh))
  all_goals (try exact oMw)
  (first|exact A9 hM Z Z Z tRw Z Z|exact C0 (A9 hM Z Z Z tRw Z Z))
 obtain⟨w,hw⟩:=gex hlt
 rw [drp hw,List.foldl] at hq
 have c4:=c114 p.dcns ⟨x.rc.id,w⟩
 have hu:clrU p st d.rc.id x w=match A2l p.dcns ⟨x.rc.id,w⟩ with|none=>x|some a=>if T6 a st then x else (O8 x w).getD x:=by rw [hrc];rfl
 cases hp:A2l p.dcns ⟨x.rc.id,w⟩ with
 | none=>
  rw [hp] at c4 hu
  have hu2:clrU p st d.rc.id x w=x:=hu
  rw [hu2] at hq
  (repeat' (first|refine iDw (gm hw) ?_|refine cDw C5a c4 ?_|refine Wz ?_|apply Wd <;>intro hh))
  all_goals (try exact oMw)
  exact A0 (i+1,x) ⟨oDw,hgx,hrc,hq⟩ (oDw)
 | some a=>
  rw [hp] at c4 hu
  dsimp only at hu
  have c5:=c45 a st
  cases hb:T6 a st with
  | true=>
   rw [hb] at c5 hu
   have hu2:clrU p st d.rc.id x w=x:=hu
   rw [hu2] at hq
   (repeat' (first|refine iDw (gm hw) ?_|refine cDw C5a c4 ?_|refine G_c (B4 [(1000,1000)] (c5) Z Z Z Z tRw en45) Z Z Z ?_|refine Wz ?_|apply Wd <;>intro hh))
   all_goals (try exact oMw)
   exact A0 (i+1,x) ⟨oDw,hgx,hrc,hq⟩ (oDw)
  | false=>
   rw [hb] at c5 hu
   have cc:=c115 x w hgx
   unfold clrD at cc
   cases hc:O8 x w with
   | none=>
    rw [hc] at cc hu
    have hu2:clrU p st d.rc.id x w=x:=hu
    rw [hu2] at hq
    have hcw:clrW x≠0:=by unfold clrW;split <;> decide
    obtain⟨q,hq9⟩:∃ q,clrW x=q:=⟨_,rfl⟩
    rw [hq9] at cc hcw
    (repeat' (first|refine iDw (gm hw) ?_|refine cDw C5a c4 ?_|refine G_c (B4 [(1000,1000)] (c5) Z Z Z Z tRw en45) Z Z Z ?_|refine cDw G1y cc ?_|refine Wz ?_|apply Wd <;>intro hh))
    all_goals (try exact oMw)
    exact A0 (i+1,x) ⟨oDw,hgx,hrc,hq⟩ (oDw)
   | some y=>
    rw [hc] at cc hu
    have hu2:clrU p st d.rc.id x w=y:=hu
    rw [hu2] at hq
    have hgy:=B9z hgx hc
    (repeat' (first|refine iDw (gm hw) ?_|refine cDw C5a c4 ?_|refine G_c (B4 [(1000,1000)] (c5) Z Z Z Z tRw en45) Z Z Z ?_|refine cDw G1y cc ?_|refine Wz ?_|apply Wd <;>intro hh))
    all_goals (try exact oMw)
    exact A0 (i+1,y) ⟨oDw,hgy.1,by dsimp only;rw [hgy.2.1,hrc],hq⟩ (oDw)
abbrev lngO (g:Lng)(k n:Nat):Lf:=.g (((lngC g).take 8).map .d++[.o k n])
theorem c40o (g:Lng)(st:List Int)(hl:g.lex.length≤1000)(hk:∀ e∈g.lex,e.links.length≤1000):Fo Tryz.prog 40 [.g ((lngC g).map .d),.m 1000] (stH st) (lngO (K8 g st) 5 (K8 g st).lex.length) (stH st++[(5,.ls 99 8 (K8 g st).lex.length ((K8 g st).lex.map entC))]):=by
 obtain⟨P,hP⟩:∃ P:Entr→Bool,P=fun e=>hasI st e.id:=⟨_,rfl⟩
 have hlF:K8 g st={ g with lex:=(g.lex.filter P).map (R9 st) }:=by rw [hP];rfl
 have hlen:(K8 g st).lex.length=(g.lex.filter P).length:=by rw [hlF];exact List.length_map ..
 rw [hlen,hlF]
 clear hlen
 refine fo_X (n:=55) Tryz.func40 rfl Tryz.ntmps40 rfl fun c hM=>?_
 (repeat' (first|refine Wz ?_|refine Wb fun hb=>?_))
 refine D0 5 5 99 8 Z Z ?_
 refine X_lp (ι:=Nat × Nat) 4503599627355552 [5] (fun s=>[(5,.o 5 s.2),(14,.d (dI s.1))]) (fun s=>[(5,.ls 99 8 s.2 ((((g.lex.take s.1).filter P).map (R9 st)).map entC))]) (fun s=>s.1≤g.lex.length∧s.2=((g.lex.take s.1).filter P).length) (fun s=>g.lex.length-s.1) ((0,0)) ?_ ?_
 ·exact⟨zLw,rfl⟩
 rintro⟨i,v⟩ ⟨hi,hv⟩
 dsimp only at hi hv ⊢
 have hle:((g.lex.take i).filter P).length≤1000:=Nat.le_trans (List.length_filter_le _ _) (by rw [List.length_take];omega)
 by_cases hlt:i<g.lex.length
 rotate_left
 ·have hz:i=g.lex.length:=oEw
  subst hz
  rw [List.take_length] at hle hv ⊢
  subst hv
  (repeat' (first|refine Wz ?_|apply Wd <;>intro hh))
  all_goals (try exact oMw)
  (first|exact A9 hM Z Z Z tRw Z Z|exact C0 (A9 hM Z Z Z tRw Z Z))
 obtain⟨e,hx⟩:=gex hlt
 have hem:=List.mem_of_getElem? hx
 have hel:=hk e hem
 have hm1:=O5 e.id st
 have hPe:P e=hasI st e.id:=by rw [hP]
 rw [← hPe] at hm1
 cases hb:P e with
 | false=>
  rw [hb] at hm1
  (repeat' (first|refine iDw (gm hx) ?_|refine G_x (B0 (ky:=.i (e.id)) Z Z Z Z Z Z Z (by exact(hm1))) Z Z ?_|refine Wz ?_|apply Wd <;>intro hh))
  all_goals (try exact oMw)
  exact A0 (i+1,v) ⟨oDw,by dsimp only;rw [G1 hx hb];exact hv⟩ (oDw) (hh:=A1 (by dsimp only;rw [G1 hx hb];rfl) (A4 _))
 | true=>
  have hPt:P e=true:=hb
  rw [hb] at hm1
  have hm2:=O5 e.main st
  obtain⟨m2,hmm⟩:∃ m2,(if hasI st e.main then e.main else 0)=m2:=⟨_,rfl⟩
  obtain⟨Q,hQ⟩:∃ Q:Lnk→Bool,Q=fun x=>hasI st x.to:=⟨_,rfl⟩
  have hke:R9 st e={ e with main:=m2,links:=e.links.filter Q }:=by rw [← hmm,hQ];rfl
  have hrow:(((g.lex.take (i+1)).filter P).map (R9 st)).map entC=(((g.lex.take i).filter P).map (R9 st)).map entC++[entC { e with main:=m2,links:=e.links.filter Q }]:=by rw [D9 hx hb,← hke];simp
  cases hs:hasI st e.main with
  | true=>
   rw [hs] at hm2 hmm
   have hmm2:e.main=m2:=hmm
   subst hmm2
   (repeat' (first|refine iDw (gm hx) ?_|refine G_x (B0 (ky:=.i (e.id)) Z Z Z Z Z Z Z (by exact(hm1))) Z Z ?_|refine G_x (B0 (ky:=.i (e.main)) Z Z Z Z Z Z Z (by exact(hm2))) Z Z ?_|refine Wz ?_|refine Wb fun hb=>?_|apply Wd <;>intro hh))
   all_goals (try exact oMw)
   refine D0 8 8 220 2 Z Z ?_
   refine X_lp (ι:=Nat × Nat) 35180077122816 [8] (fun s=>[(8,.o 8 s.2),(32,.d (dI s.1))]) (fun s=>[(8,.ls 220 2 s.2 (((e.links.take s.1).filter Q).map lkC))]) (fun s=>s.1≤e.links.length) (fun s=>e.links.length-s.1) ((0,0)) ?_ ?_
   ·exact zLw
   rintro⟨j,u⟩ hj
   dsimp only at hj ⊢
   by_cases hjl:j<e.links.length
   rotate_left
   ·have hz:j=e.links.length:=oEw
    subst hz
    rw [List.take_length]
    have hle2:(e.links.filter Q).length≤1000:=Nat.le_trans (List.length_filter_le _ _) hel
    (repeat' (first|(refine K6 45 Z Z (by rw [List.length_map];omega) ?_)|refine Wz ?_|apply Wd <;>intro hh))
    all_goals (try exact oMw)
    exact A0 (i+1,v+1) ⟨oDw,by dsimp only;rw [D9 hx hPt,List.length_append,← hv];rfl⟩ (oDw) (hh:=A1 (by dsimp only;rw [hrow];rfl) (A4 _))
   obtain⟨x,hx2⟩:=gex hjl
   have hm3:=O5 x.to st
   have hQx:Q x=hasI st x.to:=by rw [hQ]
   rw [← hQx] at hm3
   have hle2:((e.links.take j).filter Q).length≤1000:=Nat.le_trans (List.length_filter_le _ _) (by rw [List.length_take];omega)
   cases hq:Q x with
   | false=>
    rw [hq] at hm3
    (repeat' (first|refine iDw (gm hx2) ?_|refine G_x (B0 (ky:=.i (x.to)) Z Z Z Z Z Z Z (by exact(hm3))) Z Z ?_|refine Wz ?_|apply Wd <;>intro hh))
    all_goals (try exact oMw)
    exact A0 (j+1,u) (oDw) (oDw) (hh:=A1 (by dsimp only;rw [G1 hx2 hq];rfl) (A4 _))
   | true=>
    rw [hq] at hm3
    have hrow2:((e.links.take (j+1)).filter Q).map lkC=((e.links.take j).filter Q).map lkC++[lkC x]:=by rw [D9 hx2 hq];simp
    (repeat' (first|refine iDw (gm hx2) ?_|refine G_x (B0 (ky:=.i (x.to)) Z Z Z Z Z Z Z (by exact(hm3))) Z Z ?_|refine Wz ?_|apply Wd <;>intro hh))
    all_goals (try exact oMw)
    exact A0 (j+1,u+1) (oDw) (oDw) (hh:=A1 (by dsimp only;rw [hrow2];rfl) (A4 _))
  | false=>
   rw [hs] at hm2 hmm
   have hmm2:0=m2:=hmm
   subst hmm2
   (repeat' (first|refine iDw (gm hx) ?_|refine G_x (B0 (ky:=.i (e.id)) Z Z Z Z Z Z Z (by exact(hm1))) Z Z ?_|refine G_x (B0 (ky:=.i (e.main)) Z Z Z Z Z Z Z (by exact(hm2))) Z Z ?_|refine Wz ?_|refine Wb fun hb=>?_|apply Wd <;>intro hh))
   all_goals (try exact oMw)
   refine D0 8 8 220 2 Z Z ?_
   refine X_lp (ι:=Nat × Nat) 35180077122816 [8] (fun s=>[(8,.o 8 s.2),(32,.d (dI s.1))]) (fun s=>[(8,.ls 220 2 s.2 (((e.links.take s.1).filter Q).map lkC))]) (fun s=>s.1≤e.links.length) (fun s=>e.links.length-s.1) ((0,0)) ?_ ?_
   ·exact zLw
   rintro⟨j,u⟩ hj
   dsimp only at hj ⊢
   by_cases hjl:j<e.links.length
   rotate_left
   ·have hz:j=e.links.length:=oEw
    subst hz
    rw [List.take_length]
    have hle2:(e.links.filter Q).length≤1000:=Nat.le_trans (List.length_filter_le _ _) hel
    (repeat' (first|(refine K6 45 Z Z (by rw [List.length_map];omega) ?_)|refine Wz ?_|apply Wd <;>intro hh))
    all_goals (try exact oMw)
    exact A0 (i+1,v+1) ⟨oDw,by dsimp only;rw [D9 hx hPt,List.length_append,← hv];rfl⟩ (oDw) (hh:=A1 (by dsimp only;rw [hrow];rfl) (A4 _))
   obtain⟨x,hx2⟩:=gex hjl
   have hm3:=O5 x.to st
   have hQx:Q x=hasI st x.to:=by rw [hQ]
   rw [← hQx] at hm3
   have hle2:((e.links.take j).filter Q).length≤1000:=Nat.le_trans (List.length_filter_le _ _) (by rw [List.length_take];omega)
   cases hq:Q x with
   | false=>
    rw [hq] at hm3
    (repeat' (first|refine iDw (gm hx2) ?_|refine G_x (B0 (ky:=.i (x.to)) Z Z Z Z Z Z Z (by exact(hm3))) Z Z ?_|refine Wz ?_|apply Wd <;>intro hh))
    all_goals (try exact oMw)
    exact A0 (j+1,u) (oDw) (oDw) (hh:=A1 (by dsimp only;rw [G1 hx2 hq];rfl) (A4 _))
   | true=>
    rw [hq] at hm3
    have hrow2:((e.links.take (j+1)).filter Q).map lkC=((e.links.take j).filter Q).map lkC++[lkC x]:=by rw [D9 hx2 hq];simp
    (repeat' (first|refine iDw (gm hx2) ?_|refine G_x (B0 (ky:=.i (x.to)) Z Z Z Z Z Z Z (by exact(hm3))) Z Z ?_|refine Wz ?_|apply Wd <;>intro hh))
    all_goals (try exact oMw)
    exact A0 (j+1,u+1) (oDw) (oDw) (hh:=A1 (by dsimp only;rw [hrow2];rfl) (A4 _))
end
end Go.Proofs.YtojadfppncgphaaGreatDoor