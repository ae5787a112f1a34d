/-
  Own text of the proof.
-/
import Derived.Test.YtjicdgejhkgpgaaGreatDoorYn
import Derived.Test.YtjicdgejhkgpgaaGreatDoorYk
set_option linter.all false
set_option maxHeartbeats 4000000
set_option maxRecDepth 8000
namespace Go.Proofs.YtjicdgejhkgpgaaGreatDoor
open Go.RowKit Go.En Go.Pv
attribute [local irreducible] E EL K Val Enters Rt Calls bodyPost Code.wp RQ
theorem right225_any (g:Lg) (hok:LangOK g) (n:Nat) (hn:g.net.states=(n:Int)) (pv uv tv rv sv fv ev:Value) (a:List Prt) (av:Value) (w:World) (hg:LangG Tt w g pv uv tv rv sv fv ev) (ha:Sl w av a) (hal:a.length≤1000) :
    Calls Tryz.prog 225 #[.agg #[pv,str g.oname,uv,tv,rv,int n,sv,fv,ev],.agg #[av] ] w (Rt fun u w'=>(∃ e:Int,u=int e∧(e=0↔Lc g a))∧Ext w w'):=by
  have ha0:=ha
  obtain⟨aa,ac,rfl,_,_,hap⟩:=ha.sl
  refine A7 (n:=44) (args:=[.agg #[pv,str g.oname,uv,tv,rv,int n,sv,fv,ev],.agg #[.slice aa a.length ac] ]) Tryz.func225 rfl Tryz.ntmps225 (by simp) ?_
  refine Ac ?_
  refine A8 ?_
  refine Aj Z Z Z Z (fun bG wG xG hbG rG0=>?_)
  have rG1:Row wG bG 37 [pv,str g.oname,uv,tv,rv,int n,sv,fv,ev]:=rG0
  refine Aj Z Z Z Z (fun bA wA xA hbA rA0=>?_)
  have rA:Row wA bA 159 [.slice aa a.length ac]:=rA0
  have rG:=rG1.ext xA
  have hX:=xG.trans xA
  clear rG0 rA0 rG1
  by_cases h0:a.length=0
  · (repeat' (first|refine Ly ?_|refine Dy (fun hh=>?_) fun hh=>?_))
    all_goals (try (exfalso;omega))
    exact A5 Z Z ⟨⟨_,rfl,⟨fun h=>absurd h (by decide),fun h=>absurd h0 h.1⟩⟩,hX⟩
  by_cases h4:¬ a.length≤4
  · (repeat' (first|refine Ly ?_|refine Dy (fun hh=>?_) fun hh=>?_))
    all_goals (try (exfalso;omega))
    exact A5 Z Z ⟨⟨_,rfl,⟨fun h=>absurd h (by decide),fun h=>absurd h.2.1 h4⟩⟩,hX⟩
  replace h4:=Classical.not_not.1 h4
  (repeat' (first|refine Ly ?_|refine Dy (fun hh=>?_) fun hh=>?_))
  all_goals (try (exfalso;omega))
  refine Ae (ι:=Nat) (fun i=>[(2,.pointer (some ⟨bG,0,none⟩)),(3,.pointer (some ⟨bA,0,none⟩)),(5,int i)])
    (fun i wr=>i≤a.length∧Ext wA wr∧∀(j:Nat) (p:Prt),j<i→a[j]?=some p→Iw g.lex p=true) (fun i=>a.length-i) 0
    ⟨rfl,rfl,rfl,trivial⟩ ⟨Nat.zero_le _,Ext.refl _,fun j p hj=>absurd hj (by omega)⟩ ?_
  rintro i wr ⟨hi,hx,hall⟩
  replace rG:=rG.ext hx;replace rA:=rA.ext hx
  have hXr:=hX.trans hx
  by_cases hlt:i<a.length
  · obtain⟨b,off,rfl⟩:=hap (by omega)
    obtain⟨p,hp⟩:∃ p,a[i]?=some p:=⟨_,List.getElem?_eq_getElem hlt⟩
    have hatp:=Iu (ha0.ext hXr) hp
    have cp:=fun wq (xq:Ext wr wq)=>part239_any g hok n pv uv tv rv sv fv ev p wq (hg.lex.ext (hXr.trans xq))
    obtain⟨pe,hpe⟩:∃ pe,pe=K6 g.lex p:=⟨_,rfl⟩
    have hpz:=partE_zero (lex:=g.lex) (p:=p)
    rw [← hpe] at cp hpz
    (repeat' (first|(refine yN Z (fun wq xq=>?_);replace rG:=rG.ext xq;replace rA:=rA.ext xq;replace hx:=hx.trans xq)|refine yV Z Z (fun _ _ _=>A0 (m:=i) Z Z Z Z (by omega)) ?_|refine An Z Z (fun _ _ _=>A3 Z Z en239) cp ?_|refine Ly ?_|refine Dy (fun hh=>?_) fun hh=>?_|refine yqY ?_|refine yqZ ?_|refine E_dq Aa (by kernel_rfl) Z ?_))
    all_goals (try (exfalso;omega))
    · have hne:pe≠0:=hh
      exact A5 Z Z ⟨⟨pe,rfl,by
        constructor
        · intro h;exact absurd h hne
        · intro h
          have:=List.all_eq_true.1 h.2.2.1 p (List.mem_of_getElem? hp)
          exact hpz.2 this⟩,hX.trans hx⟩
    · have he:pe=0:=Classical.not_not.1 hh
      refine Ad (i+1) ⟨rfl,rfl,rfl,trivial⟩ ⟨by omega,hx,fun j q hj hq=>?_⟩ (by omega)
      by_cases e:j=i
      · subst e;rw [hp] at hq;cases hq;exact hpz.1 he
      · exact hall j q (by omega) hq
  · obtain rfl:i=a.length:=by omega
    have hpall:a.all (Iw g.lex)=true:=by
      rw [List.all_eq_true]
      intro p hp
      obtain⟨j,hj⟩:=List.getElem?_of_mem hp
      exact hall j p (List.getElem?_eq_some_iff.1 hj).1 hj
    have hN:At wr bG (0+5) [int n,sv,fv]:=At.sub (xs:=[pv,str g.oname,uv,tv,rv]) (ys:=[int n,sv,fv]) (zs:=[ev]) rG.at
    obtain⟨T,hT⟩:∃ T,T=Dt g.net (Aq g.lex a):=⟨_,rfl⟩
    have cA:=fun wq (xq:Ext wr wq)=>Je g n pv uv tv rv sv fv ev a _ wq (hg.lex.ext (hXr.trans xq)) (ha0.ext (hXr.trans xq)) hal hok.alts hok.forms
    (repeat' ((fail_if_success (refine Ac (x:=(Code.region 13 _ _)) ?_));first|(refine B8 (fun wq δ xq hR=>?_);replace rG:=rG.ext xq;replace rA:=rA.ext xq;replace hx:=hx.trans xq;replace cA:=fun wz (xz:Ext wq wz)=>cA wz (xq.trans xz))|refine Al (f:=164) (fun u w'=>Sl w' u (Aq g.lex a)) (fun _=>#[.agg #[pv,str g.oname,uv,tv,rv,int n,sv,fv,ev],.agg #[.slice aa a.length ac] ]) Z Z (fun _ _ _ _ xe h=>SlG.ext h xe) (fun _ _ _=>A3 Z Z en164) (fun wq _ xq _=>Ag (J8 g n pv uv tv rv sv fv ev a _ wq (hg.lex.ext (hXr.trans xq)) (ha0.ext (hXr.trans xq)) hal hok.alts) (fun _ _ hh=>⟨hh.2,hh.1⟩)) ?_|(refine B9 (f:=240) (v:=.bool T) (fun δ=>#[.agg #[int n,sv,fv],δ 36]) Z Z (fun _ _ _=>A3 Z Z en240) (fun wq δ xq hd=>?_) ?_;(rw [hT];exact Q7 g.net hok.net n hn sv fv _ _ wq (hg.steps.ext (hXr.trans xq)) (hg.final.ext (hXr.trans xq)) (hd 36 rfl _ rfl) (hok.cls a)))|refine Ly ?_|refine Dy (fun hh=>?_) fun hh=>?_|refine yqY ?_|refine yqZ ?_|refine E_dq Aa (by kernel_rfl) Z ?_))
    all_goals (try (exfalso;omega))
    · cases T with
      | false=>
        (repeat' (first|refine Sy ?_))
        exact A5 Z Z ⟨⟨_,rfl,⟨fun h=>absurd h (by decide),fun h=>by rw [h.2.2.2.1] at hT;cases hT⟩⟩,hX.trans hx⟩
      | true=>
        have cb:=cA _ (Ext.refl _)
        (repeat' (first|(refine A9 Z Z (A3 Z Z en166) cb (fun vC wC hC=>?_);obtain⟨xC,sC⟩:=hC;obtain⟨ca,cc,rfl,_,_,_⟩:=sC.sl)|refine Ly ?_|refine Dy (fun hh=>?_) fun hh=>?_))
        all_goals (try (exfalso;omega))
        · exact A5 Z Z ⟨⟨_,rfl,⟨fun h=>absurd h (by decide),fun h=>absurd h.2.2.2.2 (by omega)⟩⟩,(hX.trans hx).trans xC⟩
        · exact A5 Z Z ⟨⟨_,rfl,⟨fun _=>⟨h0,h4,hpall,hT.symm,by omega⟩,fun _=>rfl⟩⟩,(hX.trans hx).trans xC⟩
theorem form199_any (g:Lg) (hok:LangOK g) (n:Nat) (hn:g.net.states=(n:Int)) (pv uv tv rv sv fv ev:Value) (a:List Prt) (av:Value) (w:World) (hg:LangG Tt w g pv uv tv rv sv fv ev) (ha:Sl w av a) (hal:a.length≤1000) :
    Calls Tryz.prog 199 #[.agg #[pv,str g.oname,uv,tv,rv,int n,sv,fv,ev],.agg #[av] ] w (Rt fun u w'=>(∃(v:Value) (e:Int),u=.tuple #[v,int e]∧((e=0∧Sl w' v (C9 As g.segs g.rules (Ar g.lex a))∧Lc g a∧(C9 As g.segs g.rules (Ar g.lex a)).length≠0)
      ∨ (e≠0∧v=.slice none 0 0∧¬ (Lc g a∧(C9 As g.segs g.rules (Ar g.lex a)).length≠0))))∧Ext w w'):=by
  have ha0:=ha
  refine A7 (n:=26) (args:=[.agg #[pv,str g.oname,uv,tv,rv,int n,sv,fv,ev],.agg #[av] ]) Tryz.func199 rfl Tryz.ntmps199 (by simp) ?_
  refine Ac ?_
  refine A8 ?_
  refine Aj Z Z Z Z (fun bG wG xG hbG rG0=>?_)
  have rG1:Row wG bG 37 [pv,str g.oname,uv,tv,rv,int n,sv,fv,ev]:=rG0
  refine Aj Z Z Z Z (fun bA wA xA hbA rA0=>?_)
  have rA:Row wA bA 159 [av]:=rA0
  have rG:=rG1.ext xA
  have hX:=xG.trans xA
  clear rG0 rA0 rG1
  (repeat' ((fail_if_success (refine Ac (x:=(Code.region 2 _ _)) ?_));first|(refine A9 Z Z (A3 Z Z en225) (right225_any g hok n hn pv uv tv rv sv fv ev a av wA (hg.ext hX) (ha0.ext hX) hal) (fun vC wC hC=>?_);obtain⟨⟨e,rfl,he⟩,xC⟩:=hC)|refine Ly ?_))
  replace rG:=rG.ext xC;replace rA:=rA.ext xC;replace hX:=hX.trans xC
  by_cases h0:e≠0
  · (repeat' (first|refine Sy ?_|refine Dy (fun hh=>?_) fun hh=>?_))
    all_goals (try (exfalso;omega))
    exact Hg Z Z Z ⟨⟨_,_,rfl,.inr ⟨h0,rfl,fun h=>h0 (he.2 h.1)⟩⟩,hX⟩
  · have h0':e=0:=Classical.not_not.1 h0
    subst h0'
    have hr:=he.1 rfl
    have hbl:=hr.2.2.2.2
    have hI:At wC bG (0+0) [pv]:=At.sub (xs:=[]) (ys:=[pv]) (zs:=[str g.oname,uv,tv,rv,int n,sv,fv,ev]) rG.at
    have hk:=hok.rul
    (repeat' ((fail_if_success (refine Ac (x:=(Code.region 5 _ _)) ?_));first|refine Al (f:=166) (fun u w'=>Sl w' u (Ar g.lex a)) (fun _=>#[.agg #[pv,str g.oname,uv,tv,rv,int n,sv,fv,ev],.agg #[av] ]) Z Z (fun _ _ _ _ xe h=>SlG.ext h xe) (fun _ _ _=>A3 Z Z en166) (fun wq _ xq _=>Ag (Je g n pv uv tv rv sv fv ev a _ wq (hg.lex.ext (hX.trans xq)) (ha0.ext (hX.trans xq)) hal hok.alts hok.forms) (fun _ _ hh=>⟨hh.2,hh.1⟩)) ?_|(refine Al (f:=226) (fun u w'=>Sl w' u (C9 As g.segs g.rules (Ar g.lex a))) (fun δ=>#[.agg #[pv],rv,δ 20]) Z Z (fun _ _ _ _ xe h=>SlG.ext h xe) (fun _ _ _=>A3 Z Z en226) (fun wq δ xq hd=>?_) ?_;exact Ag (last226_any g.segs pv g.rules rv _ _ wq (hg.segs.ext (hX.trans xq)) (hg.rules.ext (hX.trans xq)) (hd 20 rfl _ rfl) hk (by omega)) (fun _ _ hh=>⟨hh.2,hh.1⟩))|refine K0 Z Z Z Z (fun _=>rfl) ?_|(refine B8 (fun wq δ xq hR=>?_);have hS:=hR 7 _ rfl)|refine Sy ?_|refine Dy (fun hh=>?_) fun hh=>?_|refine yqY ?_|refine yqZ ?_|refine E_dq Aa (by kernel_rfl) Z ?_))
    all_goals (try (exfalso;omega))
    obtain⟨qa,qc,e7,_,_,_⟩:=SlG.sl hS
    rw [e7] at hS
    refine E.sub (M:=[(7,.slice qa (C9 As g.segs g.rules (Ar g.lex a)).length qc)]) ⟨congrArg some e7,trivial⟩ ?_
    (repeat' (first|refine Sy ?_|refine Dy (fun hh=>?_) fun hh=>?_))
    all_goals (try (exfalso;omega))
    · exact Hg Z Z Z ⟨⟨_,_,rfl,.inr ⟨by decide,rfl,fun h=>h.2 (by omega)⟩⟩,hX.trans xq⟩
    · exact Hg Z Z Z ⟨⟨_,_,rfl,.inl ⟨rfl,hS,hr,by omega⟩⟩,hX.trans xq⟩
theorem lic_eq {g:Lg} {ws w0:List Int} {a:List Prt} (h:Lc g a∧(C9 As g.segs g.rules (Ar g.lex a)).length≠0):licB (lxOf g w0) ws a=decide (C9 As g.segs g.rules (Ar g.lex a)=ws):=by
  obtain⟨⟨h1,h2,h3,h4,h5⟩,h6⟩:=h
  have e1:a.isEmpty=false:=by cases a with|nil=>exact absurd rfl h1|cons _ _=>rfl
  unfold licB lxOf
  dsimp only
  rw [e1,decide_eq_true h2,h3,h4,decide_eq_true h5,decide_eq_true h6]
  rfl
theorem lic_no {g:Lg} {ws w0:List Int} {a:List Prt} (h:¬ (Lc g a∧(C9 As g.segs g.rules (Ar g.lex a)).length≠0)):licB (lxOf g w0) ws a=false:=by
  cases hb:licB (lxOf g w0) ws a with
  | false=>rfl
  | true=>
    exfalso
    unfold licB lxOf at hb
    dsimp only at hb
    simp only [Bool.and_eq_true,decide_eq_true_eq,Bool.not_eq_true'] at hb
    obtain⟨h1,h2,h3,h4,h5,h6,_⟩:=hb
    exact h ⟨⟨(fun e=>by rw [List.length_eq_zero_iff.1 e] at h1;cases h1),h2,h3,h4,h5⟩,h6⟩
theorem Nh (g:Lg) (hok:LangOK g) (n:Nat) (hn:g.net.states=(n:Int)) (pv uv tv rv sv fv ev:Value) (a:List Prt) (av:Value) (ws w0:List Int) (wv:Value) (w:World) (hg:LangG Tt w g pv uv tv rv sv fv ev) (ha:Sl w av a) (hw:Sl w wv ws) (hal:a.length≤1000) :
    Calls Tryz.prog 167 #[.agg #[pv,str g.oname,uv,tv,rv,int n,sv,fv,ev],wv,.agg #[av] ] w (Rt fun u w'=>u=.bool (licB (lxOf g w0) ws a)∧Ext w w'):=by
  refine A7 (n:=22) (args:=[.agg #[pv,str g.oname,uv,tv,rv,int n,sv,fv,ev],wv,.agg #[av] ]) Tryz.func167 rfl Tryz.ntmps167 (by simp) ?_
  refine Ac ?_
  refine A8 ?_
  refine Aj Z Z Z Z (fun bG wG xG hbG rG0=>?_)
  have rG1:Row wG bG 37 [pv,str g.oname,uv,tv,rv,int n,sv,fv,ev]:=rG0
  refine Aj Z Z Z Z (fun bA wA xA hbA rA0=>?_)
  have rA:Row wA bA 159 [av]:=rA0
  have rG:=rG1.ext xA
  have hX:=xG.trans xA
  clear rG0 rA0 rG1
  (repeat' ((fail_if_success (refine Ac (x:=(Code.region 2 _ _)) ?_));first|(refine A9 Z Z (A3 Z Z en199) (form199_any g hok n hn pv uv tv rv sv fv ev a av wA (hg.ext hX) (ha.ext hX) hal) (fun vC wC hC=>?_);obtain⟨⟨v,e,rfl,he⟩,xC⟩:=hC)|refine Ly ?_))
  replace hX:=hX.trans xC
  rcases he with⟨rfl,hs,hr,hl0⟩|⟨h0,rfl,hno⟩
  · rw [lic_eq ⟨hr,hl0⟩]
    (repeat' (first|(refine A9 Z Z (A3 Z Z en21) (F2 _ ws v wv wC hs (hw.ext hX)) (fun vD wD hC=>?_);obtain⟨rfl,xD⟩:=hC)|refine Sy ?_|refine Dy (fun hh=>?_) fun hh=>?_))
    all_goals (try (exfalso;omega))
    all_goals exact A5 Z Z ⟨rfl,hX.trans xD⟩
  · rw [lic_no hno]
    (repeat' (first|refine Sy ?_|refine Dy (fun hh=>?_) fun hh=>?_))
    all_goals (try (exfalso;omega))
    exact A5 Z Z ⟨rfl,hX⟩
end Go.Proofs.YtjicdgejhkgpgaaGreatDoor
namespace Go.En
open Go.RowKit
section
variable {P : Program} {n : Nat} {Q : Post} {ops : List Oper}
inductive Pd where
  | v (s:Nat) (x:Value)
  | r (d:Option Nat) (s:Nat) (R:(Nat→Prop)→Value→World→Prop) (con:List Nat)
def Pd.dst:Pd→Option Nat
  | .v s _=>some s
  | .r d _ _ _=>d
def Pd.slot:Pd→Nat
  | .v s _=>s
  | .r _ s _ _=>s
def Pd.con:Pd→List Nat
  | .v _ _=>[]
  | .r _ _ _ c=>c
def Pd.isV:Pd→Bool
  | .v _ _=>true
  | .r ..=>false
def frV:List (Nat × Value)→List Pd→List (Nat × Value)
  | L,[]=>L
  | L,.v s x::r=>frV ((s,x)::L) r
  | L,.r ..::r=>frV L r
theorem frV_lk : ∀ {its : List Pd} {L : List (Nat × Value)} {s : Nat} {u : Value}, lk (frV L its) s = some u → (∃ j : Nat, its[j]? = some (Pd.v s u)) ∨ lk L s = some u
  | [],_,_,_,h=>.inr h
  | .v t x::r,L,s,u,h=>by
    rcases frV_lk (its:=r) h with⟨j,hj⟩|h1
    · exact .inl ⟨j+1,by simpa using hj⟩
    · rw [lk] at h1
      cases hb:Nat.beq t s with
      | true=>
        rw [hb] at h1
        have:=Nat.eq_of_beq_eq_true hb
        subst this
        simp at h1;subst h1
        exact .inl ⟨0,rfl⟩
      | false=>rw [hb] at h1;exact .inr (by simpa using h1)
  | .r d t R c::r,L,s,u,h=>by
    rcases frV_lk (its:=r) h with⟨j,hj⟩|h1
    · exact .inl ⟨j+1,by simpa using hj⟩
    · exact .inr h1
def sk (its:List Pd):List (Option Nat × Nat × Bool × List Nat):=its.map fun p=>(p.dst,p.slot,p.isV,p.con)
abbrev SK:=List (Option Nat × Nat × Bool × List Nat)
def Kc (k:SK) (i:Nat):Option Nat:=(k.getD i (none,0,true,[])).1
def Az (k:SK) (i:Nat):Nat:=(k.getD i (none,0,true,[])).2.1
def isVAt (k:SK) (i:Nat):Bool:=(k.getD i (none,0,true,[])).2.2.1
def Hp (k:SK) (i:Nat):List Nat:=(k.getD i (none,0,true,[])).2.2.2
theorem Mu {its:List Pd} {i:Nat} {p:Pd} (h:its[i]?=some p):Kc (sk its) i=p.dst∧Az (sk its) i=p.slot∧isVAt (sk its) i=p.isV∧Hp (sk its) i=p.con:=by
  have:(sk its).getD i (none,0,true,[])=(p.dst,p.slot,p.isV,p.con):=by
    rw [List.getD_eq_getElem?_getD,sk,List.getElem?_map,h];rfl
  unfold Kc Az isVAt Hp
  rw [this];exact⟨rfl,rfl,rfl,rfl⟩
def planB (n:Nat) (ops:List Oper) (k:SK) (bs:List Nat) (fin:List Nat):Bool:=
  decide (k.length=ops.length)&&(decide (∀ i,i<ops.length→some (Kc k i)=ops[i]?.map (·.dst))&&
  (decide (∀ i,i<ops.length→∀ j,j<ops.length→i=j∨Kc k i≠some (Az k j)∨(Kc k j=none∧i∈Hp k j))&&
  (decide (∀ i,i<ops.length→∀ s∈bs,Kc k i≠some s)&&
  (decide (∀ i,i<ops.length→∀ j∈Hp k i,((bf ops).getD i 0).testBit j=true∧isVAt k j=false∧j<ops.length)&&
  (decide (∀ i,i<ops.length→∀ m,m<ops.length→i=m∨∀ j∈Hp k i,j∉Hp k m)&&
  (decide (∀ i,i<ops.length→Kc k i=none∨Kc k i=some (Az k i))&&
  (decide (∀ i,i<ops.length→Az k i<n)&&
  decide (∀ j∈fin,j<ops.length∧isVAt k j=false∧∀ m,m<ops.length→j∉Hp k m))))))))
def conL (k:SK) (δ:Nat→Value) (con:List Nat):List (Nat × Value):=con.map fun j=>(Az k j,δ (Az k j))
theorem conL_lk {k:SK} {δ:Nat→Value} {L:List (Nat × Value)}:∀ {con:List Nat} {s:Nat} {u:Value},lk (conL k δ con++L) s=some u→(u=δ s∧∃ j∈con,Az k j=s)∨lk L s=some u
  | [],_,_,h=>.inr h
  | j :: r, s, u, h => by
    have h':lk ((Az k j,δ (Az k j))::(conL k δ r++L)) s=some u:=h
    rw [lk] at h'
    cases hb:Nat.beq (Az k j) s with
    | true=>
      rw [hb] at h'
      have:=Nat.eq_of_beq_eq_true hb
      subst this
      simp at h'
      exact .inl ⟨h'.symm,j,List.mem_cons_self,rfl⟩
    | false=>
      rw [hb] at h'
      rcases conL_lk (con:=r) h' with⟨h1,m,hm,h2⟩|h1
      · exact .inl ⟨h1,m,List.mem_cons_of_mem _ hm,h2⟩
      · exact .inr h1
def Mv (w0:World) (R:(Nat→Prop)→Value→World→Prop):Prop:=∀ G u w w',R G u w→Ext w0 w→Ext w0 w'→w.heap.size≤w'.heap.size→(∀ b,G b→b<w.heap.size→w'.heap[b]?=w.heap[b]?)→R G u w'
def Ri (its:List Pd) (i:Nat) (G:Nat→Prop) (u:Value) (w:World):Prop:=match its[i]? with|some (.r _ _ R _)=>R G u w|_=>True
theorem Qa {its:List Pd} {i:Nat} {d:Option Nat} {s:Nat} {R:(Nat→Prop)→Value→World→Prop} {c:List Nat} (h:its[i]?=some (.r d s R c)) (G:Nat→Prop) (u:Value) (w:World):Ri its i G u w=R G u w:=by
  unfold Ri;rw [h]
def StepR (P:Program) (L:List (Nat × Value)) (w:World) (o:Oper) (S:Value→World→Prop):Prop:=
  (∃ v w',(∀ ρ,Agree L o ρ→(execOp ρ o).run P w=.ok (.value v) w')∧S v w')∨(∃ w',o.dst=none∧(∀ ρ,Agree L o ρ→(execOp ρ o).run P w=.ok .skip w')∧S undef w')∨(∃ f args,Enters P L w o f args∧Calls P f args w (Rt S))
def Jf (P : Program) (Lb : List (Nat × Value)) (w0 : World) (its : List Pd) (i : Nat) (o : Oper) (d : Option Nat) (s : Nat) (R : (Nat → Prop) → Value → World → Prop) (con : List Nat) : Prop :=
  Mv w0 R∧∀(w:World) (δ:Nat→Value) (Gs:Nat→Nat→Prop),Ext w0 w→(∀ j∈con,Ri its j (Gs j) (δ (Az (sk its) j)) w∧∀ b,Gs j b→w0.heap.size≤b∧b<w.heap.size)→(∀ j∈con,∀ m∈con,j≠m→∀ b,Gs j b→¬ Gs m b)→
    StepR P (conL (sk its) δ con++frV Lb (its.take i)) w o (fun u w'=>Ext w0 w'∧w.heap.size≤w'.heap.size∧(∀ b,b<w.heap.size→(∀ j∈con,¬ Gs j b)→w'.heap[b]?=w.heap[b]?)∧
      ∃ G',R G' (if d.isSome then u else δ s) w'∧∀ b,G' b→w0.heap.size≤b∧b<w'.heap.size∧(w.heap.size≤b∨∃ j∈con,Gs j b))
def RSq (P:Program) (Lb:List (Nat × Value)) (w0:World) (its:List Pd):Nat→List Oper→List Pd→Prop
  | i,o::r,.v _ x::xs=>VC P (frV Lb (its.take i)) w0 o x∧RSq P Lb w0 its (i+1) r xs
  | i,o::r,.r d s R con::xs=>Jf P Lb w0 its i o d s R con∧RSq P Lb w0 its (i+1) r xs
  | _,[],[]=>True
  | _,_,_=>False
theorem RSq.get {Lb:List (Nat × Value)} {w0:World} {its:List Pd}:∀ {k:Nat} {os:List Oper} {xs:List Pd},RSq P Lb w0 its k os xs→∀ {i:Nat} {o:Oper} {p:Pd},os[i]?=some o→xs[i]?=some p→
    match p with | .v _ x=>VC P (frV Lb (its.take (k+i))) w0 o x | .r d s R con=>Jf P Lb w0 its (k+i) o d s R con
  | k,o::r,.v s x::xs,h,0,o',p,ho,hp=>by simp at ho hp;subst ho;subst hp;exact h.1
  | k,o::r,.r d s R con::xs,h,0,o',p,ho,hp=>by simp at ho hp;subst ho;subst hp;exact h.1
  | k,o::r,.v s x::xs,h,i+1,o',p,ho,hp=>by
    have:=RSq.get (k:=k+1) h.2 (i:=i) (by simpa using ho) (by simpa using hp)
    rwa [show k+1+i=k+(i+1) by omega] at this
  | k,o::r,.r d s R con::xs,h,i+1,o',p,ho,hp=>by
    have:=RSq.get (k:=k+1) h.2 (i:=i) (by simpa using ho) (by simpa using hp)
    rwa [show k+1+i=k+(i+1) by omega] at this
  | _,[],_,_,_,_,_,ho,_=>by simp at ho
  | _,_::_,[],h,_,_,_,_,_=>h.elim
def Live (m:Nat) (k:SK) (C:Nat→Prop) (i:Nat):Prop:=i<m∧C i∧isVAt k i=false∧∀ j,j<m→C j→i∉Hp k j
structure JR (n:Nat) (Lb:List (Nat × Value)) (w0:World) (its:List Pd) (ops:List Oper) (C:Nat→Prop) (a:Act) (w:World):Prop where
  size:a.tmps.size=n
  nod:a.defers=[]
  ext:Ext w0 w
  base:∀ s v,lk Lb s=some v→a.tmps[s]?=some v
  vals:∀ i s x,C i→its[i]?=some (.v s x)→a.tmps[s]?=some x
  res:∃ Gs:Nat→Nat→Prop,(∀ i,Live ops.length (sk its) C i→Ri its i (Gs i) (a.tmps.getD (Az (sk its) i) undef) w∧∀ b,Gs i b→w0.heap.size≤b∧b<w.heap.size)∧
    ∀ i j,Live ops.length (sk its) C i→Live ops.length (sk its) C j→i≠j→∀ b,Gs i b→¬ Gs j b
theorem getD_put_ne {a:Act} {d:Option Tmp} {v:Value} {s:Nat} (h:d≠some s):(a.put d v).tmps.getD s undef=a.tmps.getD s undef:=by
  rw [Array.getD_eq_getD_getElem?,Hw h,← Array.getD_eq_getD_getElem?]
theorem E_res {id:Nat} {Lb:List (Nat × Value)} {w0:World} (its:List Pd) (fin:List Nat) (hm:P.follows .mixedOrders=true) (hc:(I9 ops&&Gm ops ops.length)=true) (hgd:ops.all (fun o=>o.guard.isNone)=true)
    (hp:planB n ops (sk its) (Lb.map Prod.fst) fin=true) (hV:RSq P Lb w0 its 0 ops its)
    (k:∀(w:World) (δ:Nat→Value) (Gs:Nat→Nat→Prop),Ext w0 w→(∀ i∈fin,Ri its i (Gs i) (δ (Az (sk its) i)) w∧∀ b,Gs i b→w0.heap.size≤b∧b<w.heap.size)→(∀ i∈fin,∀ j∈fin,i≠j→∀ b,Gs i b→¬ Gs j b)→K n Q .normal (conL (sk its) δ fin++frV Lb its) w) :
    E P n (.region id ops.toArray true) Q Lb w0:=by
  intro a ha
  simp only [Bool.and_eq_true] at hc
  obtain⟨hlow,hreads⟩:=hc
  simp only [planB,Bool.and_eq_true,decide_eq_true_eq] at hp
  obtain⟨p1,p2,p3',p4,p5,p6',p7,p8,p9⟩:=hp
  have p3:∀ i,i<ops.length→∀ j,j<ops.length→i≠j→Kc (sk its) i=some (Az (sk its) j)→Kc (sk its) j=none∧i∈Hp (sk its) j:=fun i hi j hj hne he=>by
    rcases p3' i hi j hj with h|h|h
    · exact absurd h hne
    · exact absurd he h
    · exact h
  have p6:∀ i,i<ops.length→∀ m,m<ops.length→i≠m→∀ j∈Hp (sk its) i,j∉Hp (sk its) m:=fun i hi m hm hne=>by
    rcases p6' i hi m hm with h|h
    · exact absurd h hne
    · exact h
  have hlen:its.length=ops.length:=by rw [← p1];simp [sk]
  have item:∀ {i:Nat} {o:Oper},ops[i]?=some o→∃ p,its[i]?=some p∧o.dst=p.dst:=fun {i o} ho=>by
    have hi:=(List.getElem?_eq_some_iff.1 ho).1
    obtain⟨p,hp⟩:∃ p,its[i]?=some p:=⟨_,List.getElem?_eq_getElem (by omega)⟩
    refine⟨p,hp,?_⟩
    have:=p2 i hi
    rw [ho,Option.map_some,(Mu hp).1] at this
    exact(Option.some.inj this).symm
  have op_at:∀ {i:Nat} {p:Pd},its[i]?=some p→∃ o,ops[i]?=some o∧o.dst=p.dst:=fun {i p} hp=>by
    have hi:=(List.getElem?_eq_some_iff.1 hp).1
    obtain⟨o,ho⟩:∃ o,ops[i]?=some o:=⟨_,List.getElem?_eq_getElem (by omega)⟩
    obtain⟨p',hp',hd⟩:=item ho
    rw [hp] at hp';cases hp'
    exact⟨o,ho,hd⟩
  have hbs:∀ {s:Nat} {v:Value},lk Lb s=some v→s∈Lb.map Prod.fst:=fun h=>by
    obtain⟨j,hj⟩:=lk_get h
    exact List.mem_map.2 ⟨_,List.mem_of_getElem? hj,rfl⟩
  refine wp_region_any hm ?_
  rw [show ops.toArray.size=ops.length by simp]
  have hfl:∀ i,¬ LsD (Array.replicate ops.length false) i:=fun i=>by
    unfold LsD;simp [Array.getElem?_replicate];split <;> simp
  refine any_J (J:=JR n Lb w0 its ops) hlow (fun o ho=>by have:=List.all_eq_true.1 hgd o ho;simpa using this) ?_ ?_ _ _ a _ (by simp) (fun i o _ hi=>absurd hi (hfl i))
    ⟨ha.size,ha.nod,Gk w0,fun s v hs=>ha.get s v hs,fun i s x hi=>absurd hi (hfl i),⟨fun _ _=>False,fun i h=>absurd h.2.1 (hfl i),fun i j h=>absurd h.2.1 (hfl i)⟩⟩ (by
      have:=Cd (N:=ops.length) (Nat.zero_le _) (listed:=Array.replicate ops.length false) (fun i=>⟨fun h=>absurd h (hfl i),fun h=>absurd h (Nat.not_lt_zero _)⟩)
      omega)
  · intro C C' a w i o I hcl hi ho hed hC' K Q' hK
    have hil:=(List.getElem?_eq_some_iff.1 ho).1
    have hreach:∀ {j:Nat},Rch ops i j→C j:=fun hr=>hr.clo hcl (fun o2 ho2=>by rw [ho] at ho2;cases ho2;exact hed)
    have hbit:∀ {j:Nat},((bf ops).getD i 0).testBit j=true→C j:=fun h=>hreach (Na h)
    have hnbit:∀ {j:Nat},C j→((bf ops).getD j 0).testBit i=true→False:=fun {j} hj h=>hi ((Na h).clo hcl (fun o3 ho3 e he hb=>hcl _ _ ho3 hj e he hb))
    obtain⟨p,hpi,hdp⟩:=item ho
    obtain⟨k1,k2,k3,k4⟩:=Mu hpi
    have hfr:∀ {t:Nat} {u:Value},.tmp t∈o.op.operands→lk (frV Lb (its.take i)) t=some u→a.tmps[t]?=some u:=fun {t u} hx hl=>by
      rcases frV_lk hl with⟨j,hj⟩|h1
      · have hji:j<i:=by have:=(List.getElem?_eq_some_iff.1 hj).1;simp at this;omega
        rw [List.getElem?_take_of_lt hji] at hj
        obtain⟨o2,ho2,hd2⟩:=op_at hj
        have hr:=Bu hreads ho hil ho2 (List.getElem?_eq_some_iff.1 ho2).1 (Dn hx) hd2
        exact I.vals j t u (hreach (hr.1 hji)) hj
      · exact I.base t u h1
    have hag:∀ {M:List (Nat × Value)},(∀ t u,.tmp t∈o.op.operands→lk M t=some u→a.tmps.getD t undef=u)→Agree M o a.eval:=fun {M} h x hx u hu=>by
      cases x with
      | tmp t=>simp only [En.ev] at hu;exact h t u hx hu
      | const u'=>simpa [En.ev,Act.eval] using hu
      | global g=>simpa [En.ev,Act.eval] using hu
      | func f=>simpa [En.ev,Act.eval] using hu
    have hgetD:∀ {t:Nat} {u:Value},a.tmps[t]?=some u→a.tmps.getD t undef=u:=fun h=>by rw [Array.getD_eq_getD_getElem?,h];rfl
    have hslot:∀ {s:Nat},o.dst=some s→s<a.tmps.size:=fun {s} hs=>by
      rw [I.size]
      have h7:=p7 i hil
      have h8:=p8 i hil
      rw [k1,← hdp,hs] at h7
      rcases h7 with h7|h7
      · cases h7
      · have:=Option.some.inj h7;omega
    have hbase:∀(u:Value) s v,lk Lb s=some v→(a.put o.dst u).tmps[s]?=some v:=fun u s v hs=>by
      rw [Hw (fun e=>p4 i hil s (hbs hs) (by rw [k1,← hdp];exact e))]
      exact I.base s v hs
    have hC1:C' i:=(hC' i).2 (.inl rfl)
    have hC2:∀ {j:Nat},C j→C' j:=fun h=>(hC' _).2 (.inr h)
    have hvals:∀(u:Value),(∀ s x,p=Pd.v s x→u=x)→∀ j s x,C' j→its[j]?=some (Pd.v s x)→(a.put o.dst u).tmps[s]?=some x:=fun u hu j s x hj hjs=>by
      by_cases e:j=i
      · subst e
        rw [hpi] at hjs
        have hpe:=Option.some.inj hjs
        have hd:o.dst=some s:=by rw [hdp,hpe];rfl
        rw [hd,hu s x hpe]
        exact Mb (hslot hd)
      · have hjl:j<ops.length:=by have:=(List.getElem?_eq_some_iff.1 hjs).1;omega
        obtain⟨m1,m2,_,_⟩:=Mu hjs
        rw [Hw (fun e2=>by
          have:=(p3 i hil j hjl (fun e3=>e e3.symm) (by rw [k1,← hdp,e2,m2];rfl)).1
          rw [m1] at this;cases this)]
        exact I.vals j s x (((hC' j).1 hj).resolve_left e) hjs
    obtain⟨Gs,hG1,hG2⟩:=I.res
    have hget:=RSq.get hV ho hpi
    rw [Nat.zero_add] at hget
    have hMv:∀(j:Nat) d s R c,its[j]?=some (Pd.r d s R c)→Mv w0 R:=fun j d s R c hj=>by
      obtain⟨o2,ho2,_⟩:=op_at hj
      have:=RSq.get hV ho2 hj
      exact this.1
    have hstay:∀ {j:Nat} {u:Value} {w':World},Live ops.length (sk its) C j→j≠i→(o.dst≠some (Az (sk its) j))→Ext w0 w'→w.heap.size≤w'.heap.size→(∀ b,Gs j b→w'.heap[b]?=w.heap[b]?)→
        Ri its j (Gs j) ((a.put o.dst u).tmps.getD (Az (sk its) j) undef) w'∧∀ b,Gs j b→w0.heap.size≤b∧b<w'.heap.size:=fun {j u w'} hj hji hds hx hs hsame=>by
      obtain⟨g1,g2⟩:=hG1 j hj
      refine⟨?_,fun b hb=>⟨(g2 b hb).1,by have:=(g2 b hb).2;omega⟩⟩
      rw [getD_put_ne hds]
      obtain⟨q,hq⟩:∃ q,its[j]?=some q:=⟨_,List.getElem?_eq_getElem (by have:=hj.1;omega)⟩
      cases q with
      | v s x=>unfold Ri;rw [hq];trivial
      | r d s R c=>
        rw [Qa hq] at g1 ⊢
        exact hMv j d s R c hq _ _ _ _ g1 I.ext hx hs (fun b hb _=>hsame b hb)
    cases p with
    | v s x =>
      have hd:o.dst=some s:=hdp
      have hcon:Hp (sk its) i=[]:=k4
      have hlive:∀ {j},Live ops.length (sk its) C' j→Live ops.length (sk its) C j∧j≠i:=fun {j} h=>by
        have hji:j≠i:=fun e=>by subst e;have:=h.2.2.1;rw [k3] at this;cases this
        exact⟨⟨h.1,((hC' j).1 h.2.1).resolve_left hji,h.2.2.1,fun m hm hcm=>h.2.2.2 m hm (hC2 hcm)⟩,hji⟩
      have hds:∀ {j},Live ops.length (sk its) C j→j≠i→o.dst≠some (Az (sk its) j):=fun {j} h hji e=>by
        have:=p3 i hil j h.1 (fun e=>hji e.symm) (by rw [k1,← hdp];exact e)
        have h5:=(p5 j h.1 i this.2).2.1
        rw [k3] at h5;cases h5
      have fin_:∀(w':World),Ext w w'→JR n Lb w0 its ops C' (a.put o.dst x) w':=fun w' xw=>
        ⟨by rw [Cy];exact I.size,by rw [F7];exact I.nod,I.ext.trans xw,hbase x,hvals x (fun s' x' e=>by cases e;rfl),⟨Gs,fun j hj=>by
          obtain⟨h1,h2⟩:=hlive hj
          exact hstay h1 h2 (hds h1 h2) (I.ext.trans xw) xw.size (fun b hb=>xw.block ((hG1 j h1).2 b hb).2),fun j m hj hm=>hG2 j m (hlive hj).1 (hlive hm).1⟩⟩
      have hA:Agree (frV Lb (its.take i)) o a.eval:=hag fun t u hx hl=>hgetD (hfr hx hl)
      rcases hget with hval|⟨f,args,hent,hcall⟩
      · unfold Oper.wp
        rw [hval w I.ext a.eval hA]
        exact hK x w (fin_ w (Ext.refl w))
      · unfold Oper.wp
        rw [hent w I.ext a.eval hA,Oper.upon_enter]
        refine(hcall w I.ext).mono ?_
        rintro e w' ⟨v,rfl,rfl,xw⟩
        exact hK v w' (fin_ w' xw)
    | r d s R con =>
      have hcon:Hp (sk its) i=con:=k4
      have hconL:∀ j∈con,Live ops.length (sk its) C j:=fun j hj=>by
        obtain⟨h1,h2,h3⟩:=p5 i hil j (by rw [hcon];exact hj)
        refine⟨h3,hbit h1,h2,fun m hm hcm hin=>?_⟩
        by_cases e:m=i
        · subst e;exact hi hcm
        · exact p6 i hil m hm (fun e'=>e e'.symm) j (by rw [hcon];exact hj) hin
      have hlive:∀ {j},Live ops.length (sk its) C' j→j≠i→Live ops.length (sk its) C j∧j∉con:=fun {j} h hji=>
        ⟨⟨h.1,((hC' j).1 h.2.1).resolve_left hji,h.2.2.1,fun m hm hcm=>h.2.2.2 m hm (hC2 hcm)⟩,fun hin=>h.2.2.2 i hil hC1 (by rw [hcon];exact hin)⟩
      have hds:∀ {j},Live ops.length (sk its) C j→j≠i→o.dst≠some (Az (sk its) j):=fun {j} h hji e=>by
        have:=p3 i hil j h.1 (fun e=>hji e.symm) (by rw [k1,← hdp];exact e)
        exact hnbit h.2.1 (p5 j h.1 i this.2).1
      obtain⟨_,hst⟩:=hget
      have hstep:=hst w (fun t=>a.tmps.getD t undef) Gs I.ext (fun j hj=>hG1 j (hconL j hj)) (fun j hj m hm hne=>hG2 j m (hconL j hj) (hconL m hm) hne)
      have hA:Agree (conL (sk its) (fun t=>a.tmps.getD t undef) con++frV Lb (its.take i)) o a.eval:=hag fun t u hx hl=>by
        rcases conL_lk hl with⟨h1,_⟩|h1
        · exact h1.symm
        · exact hgetD (hfr hx h1)
      have fin_ : ∀ (u : Value) (w' : World), (o.dst = none ∨ True) → (Ext w0 w' ∧ w.heap.size ≤ w'.heap.size ∧ (∀ b, b < w.heap.size → (∀ j ∈ con, ¬ Gs j b) → w'.heap[b]? = w.heap[b]?) ∧
          ∃ G',R G' (if d.isSome then u else a.tmps.getD s undef) w'∧∀ b,G' b→w0.heap.size≤b∧b<w'.heap.size∧(w.heap.size≤b∨∃ j∈con,Gs j b))→JR n Lb w0 its ops C' (a.put o.dst u) w':=by
        rintro u w' _ ⟨hx,hs,hsame,G',hR,hG'⟩
        refine⟨by rw [Cy];exact I.size,by rw [F7];exact I.nod,hx,hbase u,hvals u (fun s' x' e=>by cases e),⟨fun j=>if j=i then G' else Gs j,fun j hj=>?_,fun j m hj hm hne b=>?_⟩⟩
        · dsimp only
          by_cases e:j=i
          · subst e
            rw [if_pos rfl]
            refine⟨?_,fun b hb=>⟨(hG' b hb).1,(hG' b hb).2.1⟩⟩
            rw [Qa hpi,k2]
            show R G' ((a.put o.dst u).tmps.getD s undef) w'
            cases d with
            | none=>
              rw [show o.dst=none from hdp]
              simpa [Act.put] using hR
            | some d0=>
              have h7:=p7 j hil
              rw [k1,k2] at h7
              have hd0:d0=s:=by
                rcases h7 with h7|h7
                · cases h7
                · exact Option.some.inj h7
              subst hd0
              have hd:o.dst=some d0:=hdp
              have:(a.put o.dst u).tmps.getD d0 undef=u:=by
                rw [hd,Array.getD_eq_getD_getElem?,Mb (hslot hd)];rfl
              rw [this]
              simpa using hR
          · rw [if_neg e]
            obtain⟨h1,h2⟩:=hlive hj e
            refine hstay h1 e (hds h1 e) hx hs (fun b hb=>hsame b ((hG1 j h1).2 b hb).2 (fun m hm hgm=>?_))
            exact hG2 j m h1 (hconL m hm) (fun e'=>h2 (e'▸hm)) b hb hgm
        · dsimp only
          by_cases e:j=i
          · subst e
            rw [if_pos rfl,if_neg (fun e'=>hne e'.symm)]
            intro hb hbm
            obtain⟨h1,h2⟩:=hlive hm (fun e'=>hne e'.symm)
            rcases (hG' b hb).2.2 with h|⟨q,hq,hgq⟩
            · have:=((hG1 m h1).2 b hbm).2;omega
            · exact hG2 m q h1 (hconL q hq) (fun e'=>h2 (e'▸hq)) b hbm hgq
          · rw [if_neg e]
            obtain⟨h1,h2⟩:=hlive hj e
            by_cases e2:m=i
            · subst e2
              rw [if_pos rfl]
              intro hb hbm
              rcases (hG' b hbm).2.2 with h|⟨q,hq,hgq⟩
              · have:=((hG1 j h1).2 b hb).2;omega
              · exact hG2 j q h1 (hconL q hq) (fun e'=>h2 (e'▸hq)) b hb hgq
            · rw [if_neg e2]
              exact hG2 j m h1 (hlive hm e2).1 hne b
      rcases hstep with⟨v,w',hrun,hS⟩|⟨w',hdn,hrun,hS⟩|⟨f,args,hent,hcall⟩
      · unfold Oper.wp
        rw [hrun a.eval hA]
        exact hK v w' (fin_ v w' (.inr trivial) hS)
      · unfold Oper.wp
        rw [hrun a.eval hA]
        exact hK undef w' (fin_ undef w' (.inl hdn) hS)
      · unfold Oper.wp
        rw [hent a.eval hA,Oper.upon_enter]
        refine hcall.mono ?_
        rintro e w' ⟨v,rfl,hS⟩
        exact hK v w' (fin_ v w' (.inr trivial) hS)
  · intro C a w hall I
    obtain⟨Gs,hG1,hG2⟩:=I.res
    have hlf:∀ i∈fin,Live ops.length (sk its) C i:=fun i hi=>by
      obtain⟨h1,h2,h3⟩:=p9 i hi
      exact⟨h1,hall i h1,h2,fun m hm _=>h3 m hm⟩
    refine k w (fun t=>a.tmps.getD t undef) Gs I.ext (fun i hi=>hG1 i (hlf i hi)) (fun i hi j hj hne=>hG2 i j (hlf i hi) (hlf j hj) hne) a ⟨I.size,I.nod,fun s v hs=>?_⟩
    rcases conL_lk hs with⟨h1,j,hj,h2⟩|h1
    · have hsn:s<a.tmps.size:=by rw [I.size,← h2];exact p8 j (p9 j hj).1
      rw [h1,Array.getD_eq_getD_getElem?,Array.getElem?_eq_getElem hsn];rfl
    · rcases frV_lk h1 with⟨j,hj⟩|h3
      · exact I.vals j s v (hall j (by have:=(List.getElem?_eq_some_iff.1 hj).1;omega)) hj
      · exact I.base s v h3
end
end Go.En
