/-
  Own text of the proof.
-/
import Derived.Test.YtjicdgejhkgpgaaGreatDoorYj
import Derived.Test.YtjicdgejhkgpgaaGreatDoorYh
set_option linter.all false
set_option maxHeartbeats 4000000
set_option maxRecDepth 8000
namespace Go.Proofs.YtjicdgejhkgpgaaGreatDoor
open Go.RowKit Go.En Go.Pv
def idxE (lex:List En) (id:Int):Int:=match lex.findIdx? (fun e=>e.id==id) with|some i=>(i:Int)|none => -1
theorem Hn {lex:List En} {id:Int} {e:En} (h:getE lex id=some e):∃ i:Nat,idxE lex id=(i:Int)∧lex[i]?=some e:=by
  obtain⟨i,hi,he,hall⟩:=Fs h
  refine⟨i,?_,hi⟩
  unfold idxE
  obtain⟨hl,hx⟩:=List.getElem?_eq_some_iff.1 hi
  have:lex.findIdx? (fun e=>e.id==id)=some i:=by
    rw [List.findIdx?_eq_some_iff_getElem]
    refine⟨hl,by rw [hx];simpa using he,fun j hj=>?_⟩
    have:=hall j _ hj (List.getElem?_eq_getElem (by omega))
    simpa using this
  rw [this]
theorem Ff {lex:List En} {id:Int} (h:getE lex id=none):idxE lex id = -1:=by
  unfold idxE
  have:lex.findIdx? (fun e=>e.id==id)=none:=by
    rw [List.findIdx?_eq_none_iff]
    intro x hx
    simpa using getE_none h x hx
  rw [this]
def wayL (lex : List En) : Nat → Int → List Int
  | 0,_=>[]
  | k+1,id=>match getE lex id with
    | none=>[]
    | some e=>e.id::(if e.main=0 then [] else wayL lex k e.main)
def sWay (lex : List En) : List Int → List Sns
  | []=>[]
  | x::r=>match getE lex x with
    | none=>sWay lex r
    | some e=>if e.senses≠[] then e.senses else sWay lex r
theorem Om (lex : List En) : ∀ (k : Nat) (id : Int), sWay lex (wayL lex k id) = Jl lex k id
  | 0,_=>rfl
  | k + 1, id => by
    rw [wayL,Jl]
    cases h:getE lex id with
    | none=>rfl
    | some e=>
      have hid:e.id=id:=by obtain⟨_,_,he,_⟩:=Fs h;exact he
      show sWay lex (e.id::_)=_
      rw [sWay,hid,h]
      dsimp only
      split
      · rfl
      · split
        · rfl
        · exact Om lex k e.main
theorem way_known (lex : List En) : ∀ (k : Nat) (id : Int), ∀ x ∈ wayL lex k id, ∃ e, getE lex x = some e
  | 0,_,_,h=>by cases h
  | k + 1, id, x, hx => by
    rw [wayL] at hx
    cases h:getE lex id with
    | none=>rw [h] at hx;cases hx
    | some e=>
      rw [h] at hx
      have hid:e.id=id:=by obtain⟨_,_,he,_⟩:=Fs h;exact he
      rcases List.mem_cons.1 hx with rfl|hx
      · exact⟨e,by rw [hid];exact h⟩
      · split at hx
        · cases hx
        · exact way_known lex k e.main x hx
theorem way_len (lex:List En):∀(k:Nat) (id:Int),(wayL lex k id).length≤k
  | 0,_=>Nat.le_refl _
  | k + 1, id => by
    rw [wayL]
    cases getE lex id with
    | none=>simp
    | some e=>
      show(e.id::_).length≤_
      rw [List.length_cons]
      split
      · simp
      · have:=way_len lex k e.main;omega
attribute [local irreducible] E EL K Val Enters Rt Calls bodyPost Code.wp RQ
theorem H0 (lex : List En) (id : Int) (ev : Value) (w : World) (hv : Sl w ev lex) : Calls Tryz.prog 160 #[ev, int id] w (Rt fun u w' => u = int (idxE lex id) ∧ Ext w w') := by
  have hv0:=hv
  obtain⟨a,cap,rfl,hc,hm,hp⟩:=hv.sl
  refine A7 (n:=20) (args:=[.slice a lex.length cap,int id]) Tryz.func160 rfl Tryz.ntmps160 (by simp) ?_
  (repeat' (first|refine Sy ?_))
  refine Ae (ι:=Nat) (fun i=>[(0,.slice a lex.length cap),(1,int id),(5,int i)])
    (fun i wr=>i≤lex.length∧Ext w wr∧∀(j:Nat) (x:En),j<i→lex[j]?=some x→x.id≠id) (fun i=>lex.length-i) 0
    ⟨rfl,rfl,rfl,trivial⟩ ⟨Nat.zero_le _,Ext.refl _,fun j x hj=>absurd hj (by omega)⟩ ?_
  rintro i wr ⟨hi,hx,hall⟩
  by_cases hlt:i<lex.length
  · obtain⟨b,off,rfl⟩:=hp (by omega)
    obtain⟨x,hx1⟩:∃ x,lex[i]?=some x:=⟨_,List.getElem?_eq_getElem (by omega)⟩
    obtain⟨d0,f0,d1,f1,d2,f2,d3,f3,d4,f4,hat2,_⟩:=B3 (hv0.ext hx) hx1
    (repeat' (first|refine eV Z Z (A0 (m:=i) Z Z Z Z (by omega)) ?_|refine Ly ?_|refine Dy (fun hh=>?_) fun hh=>?_))
    all_goals (try (exfalso;omega))
    · have:idxE lex id=(i:Int):=by
        unfold idxE
        obtain⟨hl,he⟩:=List.getElem?_eq_some_iff.1 hx1
        have:lex.findIdx? (fun e=>e.id==id)=some i:=by
          rw [List.findIdx?_eq_some_iff_getElem]
          refine⟨hl,by rw [he];simpa using hh,fun j hj=>?_⟩
          have:=hall j _ hj (List.getElem?_eq_getElem (by omega))
          simpa using this
        rw [this]
      exact A5 Z Z ⟨by rw [this],hx⟩
    · have hne:¬ x.id=id:=hh
      refine Ad (i+1) ⟨rfl,rfl,rfl,trivial⟩ ⟨by omega,hx,fun j y hj hy=>?_⟩ (by omega)
      by_cases e:j=i
      · subst e;rw [hx1] at hy;cases hy;exact hne
      · exact hall j y (by omega) hy
  · have:idxE lex id = -1:=Ff (by
      unfold getE
      rw [List.find?_eq_none]
      intro x hx
      obtain⟨j,hj⟩:=List.getElem?_of_mem hx
      have:=hall j x (by have:=(List.getElem?_eq_some_iff.1 hj).1;omega) hj
      simpa using this)
    (repeat' (first|refine Sy ?_|refine Dy (fun hh=>?_) fun hh=>?_))
    all_goals (try (exfalso;omega))
    exact A5 Z Z ⟨by rw [this],hx⟩
theorem O5 (lex:List En) (id:Int) (ev:Value) (w:World) (hv:Sl w ev lex) (hl:lex.length≤1000000):Calls Tryz.prog 161 #[ev,int id] w (Rt fun u w'=>Ext w w'∧Sl w' u (wayL lex (lex.length+1) id)):=by
  have hv0:=hv
  obtain⟨a,cap,rfl,hc,hm,hp⟩:=hv.sl
  refine A7 (n:=42) (args:=[.slice a lex.length cap,int id]) Tryz.func161 rfl Tryz.ntmps161 (by simp) ?_
  (repeat' (first|(refine cqC (H0 lex id _ _ (hv0.ext xS)) en160 fun wC xC=>?_)|refine Sy ?_|refine eL Z Z Z Z Z Z Z Z (fun bS wS xS hbS rS=>?_)))
  refine Ae (ι:=Value × List Int × Int) (fun z=>[(0,.slice a lex.length cap),(5,z.1),(6,int (idxE lex z.2.2))])
    (fun z wr=>Ext w wr∧wr.ownsRow w.heap.size 3 1 z.1 z.2.1.length (z.2.1.map int)∧z.2.1.length≤lex.length+1∧wayL lex (lex.length+1) id=z.2.1++wayL lex (lex.length+1-z.2.1.length) z.2.2) (fun z=>lex.length+1-z.2.1.length) (_,[],id)
    ⟨rfl,rfl,rfl,trivial⟩ ⟨xS.trans xC,Ak (Cq (n:=0) (size:=1) rS rfl (by omega) (by omega)) xC,Nat.zero_le _,rfl⟩ ?_
  rintro⟨vO,o,q⟩ wr ⟨hx,hown,hol,hway⟩
  dsimp only at hx hown hol hway ⊢
  cases hq:getE lex q with
  | none=>
    rw [Ff hq]
    have h0:wayL lex (lex.length+1-o.length) q=[]:=by
      cases lex.length+1-o.length with
      | zero=>rfl
      | succ k=>rw [wayL,hq]
    rw [h0,List.append_nil] at hway
    (repeat' (first|refine Sy ?_|refine Dy (fun hh=>?_) fun hh=>?_))
    all_goals (try (exfalso;omega))
    rw [hway]
    exact A5 Z Z ⟨hx,Ce (css:=o.map fun z=>[int z]) (by rw [Av];exact hown) (B4 _ _) Z (by omega)⟩
  | some e=>
    obtain⟨k,hk,hke⟩:=Hn hq
    rw [hk]
    have hkl:=(List.getElem?_eq_some_iff.1 hke).1
    obtain⟨b,off,rfl⟩:=hp (by omega)
    obtain⟨va,vc,hvo⟩:∃ va vc,vO=.slice va o.length vc:=by
      rcases Dl hown with⟨h1,h2,_⟩|⟨b,cap,h1,_⟩
      · exact⟨none,0,by rw [h1,h2]⟩
      · exact⟨_,_,h1⟩
    subst hvo
    by_cases hfull:o.length=lex.length+1
    · have h0:wayL lex (lex.length+1-o.length) q=[]:=by rw [hfull,Nat.sub_self];rfl
      rw [h0,List.append_nil] at hway
      (repeat' (first|refine Sy ?_|refine Dy (fun hh=>?_) fun hh=>?_))
      all_goals (try (exfalso;omega))
      rw [hway]
      exact A5 Z Z ⟨hx,Ce (css:=o.map fun z=>[int z]) (by rw [Av];exact hown) (B4 _ _) Z (by omega)⟩
    · obtain⟨m,hm1⟩:∃ m,lex.length+1-o.length=m+1:=⟨lex.length-o.length,by omega⟩
      have hw1:wayL lex (m+1) q=e.id::(if e.main=0 then [] else wayL lex m e.main):=by rw [wayL,hq]
      rw [hm1,hw1] at hway
      obtain⟨d0,f0,d1,f1,d2,f2,d3,f3,d4,f4,hat2,_⟩:=B3 (hv0.ext hx) hke
      (repeat' (first|refine eV Z Z (A0 (m:=k) Z Z Z Z (by omega)) ?_|(refine eL Z Z Z Z Z Z Z Z (fun bS wS xS hbS rS=>?_))|(refine Ay (news:=[int e.id]) (Ak hown xS) (hx.trans xS) (fun _=>⟨_,_,rfl,rS.at⟩) Z Z Z Z Z Z Z Z Z (by omega) (by omega) (fun vJ wJ oJ xJ kJ hJ=>?_);obtain⟨d0',f0',d1',f1',d2',f2',d3',f3',d4',f4',hat3,_⟩:=B3 (hv0.ext xJ) hke)|(refine cqC (H0 lex e.main _ _ (hv0.ext xJ)) en160 fun wC xC=>?_)|refine Ly ?_|refine Dy (fun hh=>?_) fun hh=>?_))
      all_goals (try (exfalso;omega))
      · rw [if_pos (by assumption)] at hway
        rw [hway]
        exact A5 Z Z ⟨xJ,Ce (css:=(o++[e.id]).map fun z=>[int z]) (by rw [Av,List.map_append];exact oJ) (B4 _ _) (by simp) (by simp;omega)⟩
      · rw [if_neg (by assumption)] at hway
        refine Ad (vJ,o++[e.id],e.main) ⟨rfl,rfl,rfl,trivial⟩ ⟨xJ.trans xC,?_,?_,?_⟩ ?_
        · dsimp only
          have:=Ak oJ xC
          simpa using this
        · dsimp only;rw [List.length_append];simp;omega
        · dsimp only
          rw [hway,show lex.length+1-(o++[e.id]).length=m by rw [List.length_append];simp;omega]
          simp
        · dsimp only;rw [List.length_append];simp;omega
theorem senses246_any (lex:List En) (id:Int) (ev:Value) (w:World) (hv:Sl w ev lex) (hl:lex.length≤1000000):Calls Tryz.prog 246 #[ev,int id] w (Rt fun u w'=>Ext w w'∧Sl w' u (B6 lex id)):=by
  have hv0:=hv
  obtain⟨a,cap,rfl,hc,hm,hp⟩:=hv.sl
  have hsw:=Om lex (lex.length+1) id
  have hkn:=way_known lex (lex.length+1) id
  have hwl:=way_len lex (lex.length+1) id
  have hgoal:B6 lex id=sWay lex (wayL lex (lex.length+1) id):=hsw.symm
  rw [hgoal]
  have cw:=O5 lex id _ w hv0 hl
  obtain⟨W,hW⟩:∃ W,W=wayL lex (lex.length+1) id:=⟨_,rfl⟩
  rw [← hW] at hkn hwl cw ⊢
  refine A7 (n:=32) (args:=[.slice a lex.length cap,int id]) Tryz.func246 rfl Tryz.ntmps246 (by simp) ?_
  (repeat' (first|(refine A9 Z Z (A3 Z Z en161) cw (fun vC wC hC=>?_);obtain⟨xC,sC⟩:=hC)|refine Sy ?_))
  have sC0:=sC
  obtain⟨wa,wcap,rfl,_,_,hwp⟩:=sC.sl
  refine Ae (ι:=Nat) (fun i=>[(0,.slice a lex.length cap),(5,.slice wa W.length wcap),(6,int i)])
    (fun i wr=>i≤W.length∧Ext wC wr∧sWay lex (W.drop i)=sWay lex W) (fun i=>W.length-i) 0
    ⟨rfl,rfl,rfl,trivial⟩ ⟨Nat.zero_le _,Ext.refl _,by rw [List.drop_zero]⟩ ?_
  rintro i wr ⟨hi,hx,hsd⟩
  have hX:=xC.trans hx
  by_cases hlt:i<W.length
  · obtain⟨wb,woff,rfl⟩:=hwp (by omega)
    obtain⟨x,hx1⟩:∃ x,W[i]?=some x:=⟨_,List.getElem?_eq_getElem hlt⟩
    have hatx:=int_elem (sC0.ext hx) hx1
    obtain⟨e,he⟩:=hkn x (List.mem_of_getElem? hx1)
    obtain⟨k,hk,hke⟩:=Hn he
    have hkl:=(List.getElem?_eq_some_iff.1 hke).1
    obtain⟨b,off,rfl⟩:=hp (by omega)
    have hdrop:W.drop i=x::W.drop (i+1):=by
      obtain⟨h1,h2⟩:=List.getElem?_eq_some_iff.1 hx1
      rw [List.drop_eq_getElem_cons h1,h2]
    rw [hdrop,sWay,he] at hsd
    dsimp only at hsd
    have cf:=H0 lex x _ wr (hv0.ext hX)
    rw [hk] at cf
    (repeat' (first|refine eV Z Z (A0 (m:=i) Z Z Z Z (by omega)) ?_|refine eV Z Z (A0 (m:=k) Z Z Z Z (by omega)) ?_|(refine A9 Z Z (A3 Z Z en160) cf (fun vC wD hC=>?_);obtain⟨rfl,xD⟩:=hC;obtain⟨d0,f0,d1,f1,d2,f2,d3,f3,d4,f4,hat2,hrep,_,_,hsn,_⟩:=B3 (hv0.ext (hX.trans xD)) hke)|refine Ap Z Z Z (fun bA wA xA hbA rA=>?_)|refine Ly ?_|refine Dy (fun hh=>?_) fun hh=>?_))
    all_goals (try (exfalso;omega))
    refine Ah (cs:=[_,_,_,_,_,_,_,_]) rA xA (Nat.le_of_eq hbA.symm) Z Z Z Z Z Z Z Z (Nat.le_refl _) (fun w3 rA1 x3 k3=>?_)
    have rA3:Row w3 bA 65 [int e.id,.slice d0 e.form.length f0,int e.cls,.slice d1 e.alts.length f1,int e.main,.slice d2 e.senses.length f2,.slice d3 e.links.length f3,.slice d4 e.refs.length f4]:=rA1
    have hX3:=hX.trans (xD.trans x3)
    (repeat' (first|refine Ly ?_|refine Dy (fun hh=>?_) fun hh=>?_))
    all_goals (try (exfalso;omega))
    · rw [if_pos (by intro h0;rw [h0] at hh;simp at hh)] at hsd
      rw [← hsd]
      exact A5 Z Z ⟨hX3,hsn.ext x3⟩
    · rw [if_neg (by
        intro h0;refine h0 (List.length_eq_zero_iff.1 ?_);omega)] at hsd
      exact Ad (i+1) ⟨rfl,rfl,rfl,trivial⟩ ⟨by omega,hx.trans (xD.trans x3),hsd⟩ (by omega)
  · obtain rfl:i=W.length:=by omega
    rw [List.drop_length] at hsd
    rw [← hsd]
    (repeat' (first|refine Sy ?_|refine Dy (fun hh=>?_) fun hh=>?_))
    all_goals (try (exfalso;omega))
    exact A5 Z Z ⟨hX,SlG.nil⟩
end Go.Proofs.YtjicdgejhkgpgaaGreatDoor
namespace Go.En
open Go.RowKit
section
variable {P : Program} {n : Nat} {Q : Post} {ops : List Oper}
def pushF (x:Option (Nat × Value)) (L:List (Nat × Value)):List (Nat × Value):=match x with|some y=>y::L|none=>L
def frame:List (Nat × Value)→List (Option (Nat × Value))→Nat→List (Nat × Value)
  | L,x::xs,i+1=>frame (pushF x L) xs i
  | L,_,_=>L
theorem J5 : ∀ {xs : List (Option (Nat × Value))} {L : List (Nat × Value)} {i s : Nat} {v : Value}, lk (frame L xs i) s = some v → (∃ j, j < i ∧ xs[j]? = some (some (s, v))) ∨ (lk L s = some v ∧ ∀ j, j < i → ∀ u, xs[j]? ≠ some (some (s, u)))
  | [],L,i,s,v,h=>.inr ⟨by simpa [frame] using h,fun j _ u=>by simp⟩
  | x::xs,L,0,s,v,h=>.inr ⟨by simpa [frame] using h,fun j hj=>absurd hj (Nat.not_lt_zero _)⟩
  | x :: xs, L, i + 1, s, v, h => by
    rcases J5 (xs:=xs) (i:=i) (show lk (frame (pushF x L) xs i) s=some v from h) with⟨j,h1,h2⟩|⟨h1,h2⟩
    · exact .inl ⟨j+1,by omega,by simpa using h2⟩
    · cases x with
      | none=>exact .inr ⟨h1,fun j hj u=>by cases j with|zero=>simp|succ j=>simpa using h2 j (by omega) u⟩
      | some y=>
        obtain⟨k,z⟩:=y
        simp only [pushF,lk] at h1
        cases hb:Nat.beq k s with
        | true=>
          rw [hb] at h1;simp at h1
          have:=Nat.eq_of_beq_eq_true hb
          subst this;subst h1
          exact .inl ⟨0,by omega,rfl⟩
        | false=>
          rw [hb] at h1;simp at h1
          refine .inr ⟨h1,fun j hj u=>?_⟩
          cases j with
          | zero=>intro e;simp at e;rw [e.1] at hb;simp at hb
          | succ j=>simpa using h2 j (by omega) u
structure JS (n:Nat) (L0:List (Nat × Value)) (Lr:List (Option (Nat × Value))) (ss:List Nat) (ws:Nat→World) (ops:List Oper) (C:Nat→Prop) (a:Act) (w:World):Prop where
  size:a.tmps.size=n
  nod:a.defers=[]
  base:∀ s v,lk L0 s=some v→(∀ j o,C j→ops[j]?=some o→o.dst≠some s)→a.tmps[s]?=some v
  reads:∀ j s v,C j→Lr[j]?=some (some (s,v))→a.tmps[s]?=some v
  ph:∃ p,p≤ss.length∧(∀ q i,ss[q]?=some i→(C i↔q<p))∧w=ws p
theorem getD_of {α:Type} {l:List α} {i:Nat} {x d:α} (h:l[i]?=some x):l.getD i d=x:=by rw [List.getD_eq_getElem?_getD,h];rfl
theorem Oh {L:List (Nat × Value)} {w w':World} {o:Oper} {t:TypeId} {s x:Operand} {v v' u:Value} (ho:o.op=.call { callee:=.builtin .append,args:=#[s,x],argTypes:=#[t,t] }) (hs:ev L s=some v) (hx:ev L x=some u)
    (hr:(Builtin.append_ #[t,t] o.type #[v,u]).run P w=.ok v' w'):∀ ρ,Agree L o ρ→(execOp ρ o).run P w=.ok (.value v') w':=fun ρ ha=>by
  have a1:=ha.ev (by rw [ho];simp [Op.operands,Call.operands]) hs
  have a2:=ha.ev (by rw [ho];simp [Op.operands,Call.operands]) hx
  simp only [execOp,ho,resolve,invoke,builtin,Sem.run_bind,Sem.run_pure,Result.andThen_ok,List.map_toArray,List.map_cons,List.map_nil,a1,a2,hr]
end
end Go.En
namespace Go.En
open Go.RowKit
section
variable {P : Program} {n : Nat} {Q : Post} {ops : List Oper}
def upd (δ:Nat→Value) (d:Option Tmp) (v:Value):Nat→Value:=fun s=>if d=some s then v else δ s
structure JU (n:Nat) (Φ:(Nat→Prop)→(Nat→Value)→World→Prop) (C:Nat→Prop) (a:Act) (w:World):Prop where
  size:a.tmps.size=n
  nod:a.defers=[]
  phi:Φ C (fun s=>a.tmps.getD s undef) w
theorem app_exO {w : World} (t ty : TypeId) {e : TypeId} {z : Value} {size bytes : Nat} [ut : UT P t (.slice e)] [ti : TI P e z size bytes] {v : Value} {w0 : World} {m : Nat} {xs : List Value} {a : Option Addr} {q : Nat} (c : Nat) {news : List Value}
    (hown:w.ownsRow w0.heap.size e size v m xs) (x0:Ext w0 w) (hnews:0<q→∃ b off,a=some ⟨b,off,none⟩∧At w b off news) (hl:news.length=q*size)
    (h1:news.all Value.oneCell'=true) (hz:z.cells.size=size) (hsz:Nat.ble 1 size=true) (hmax:(m+q)*bytes≤140737488355328) (hmax':m+q≤9223372036854775807) :
    ∃ v' w',(Builtin.append_ #[t,t] ty #[v,.slice a q c]).run P w=.ok v' w'∧w'.ownsRow w0.heap.size e size v' (m+q) (xs++news)∧Ext w0 w'∧Kb v.ownBlock w w'∧(v'.ownBlock=v.ownBlock∨v'.ownBlock=some w.heap.size):=by
  obtain⟨i0,hi,hz0,hz1,hz2⟩:=info_parts ti.i
  cases a with
  | none=>
    have hq:q=0:=by
      by_cases h0:0<q
      · obtain⟨_,_,e1,_⟩:=hnews h0;cases e1
      · omega
    subst hq
    obtain rfl:news=[]:=List.length_eq_zero_iff.1 (by rw [hl,Nat.zero_mul])
    have hr:=H4 (P:=P) (w:=w) (ty:=ty) (c:=c) ut.u hi hown
    exact⟨v,w,hr,by simpa using hown,x0,World.grownBy.refl _ _,.inl rfl⟩
  | some ad=>
    have hat:∀ j u,news[j]?=some u→w.cell? (ad.add j)=some u:=by
      by_cases h0:0<q
      · obtain⟨b,off,e1,hat⟩:=hnews h0
        cases e1
        exact fun j u hu=>by rw [B7];exact hat j u hu
      · obtain rfl:news=[]:=List.length_eq_zero_iff.1 (by rw [hl,show q=0 by omega,Nat.zero_mul])
        exact fun j u hu=>by simp at hu
    obtain⟨v',w',hr,h2,h3,_,h4⟩:=run_append_own_at (P:=P) (w:=w) (ty:=ty) w0.heap.size t e i0 z size bytes ut.u hi hz0 hz1 hz2 hz (Nat.le_of_ble_eq_true hsz) v m xs hown ad q c news hl hat
      (fun u hu=>List.all_eq_true.1 h1 u hu) (by unfold maxLen;omega) hmax x0.size
    exact⟨v',w',hr,h2,Gd hown x0 h3,h3,h4⟩
end
end Go.En
namespace Go.En
open Go.RowKit
section
variable {P : Program} {n : Nat} {Q : Post} {ops : List Oper}
def VC (P:Program) (L:List (Nat × Value)) (w0:World) (o:Oper) (v:Value):Prop:=
  (∀ w,Ext w0 w→Val P L w o v)∨(∃ f args,(∀ w,Ext w0 w→Enters P L w o f args)∧∀ w,Ext w0 w→Calls P f args w (Rt fun u w'=>u=v∧Ext w w'))
theorem vcV {L:List (Nat × Value)} {w0:World} {o:Oper} {v:Value} (h:∀ w,Ext w0 w→Val P L w o v):VC P L w0 o v:=.inl h
theorem vcC {L:List (Nat × Value)} {w0:World} {o:Oper} {v:Value} {f:FuncId} {args:Array Value} (h:∀ w,Ext w0 w→Enters P L w o f args) (hc:∀ w,Ext w0 w→Calls P f args w (Rt fun u w'=>u=v∧Ext w w')):VC P L w0 o v:=.inr ⟨f,args,h,hc⟩
def VSq (P:Program) (w0:World):List (Nat × Value)→List Oper→List (Option (Nat × Value))→Prop
  | L,o::r,some x::xs=>VC P L w0 o x.2∧VSq P w0 (x::L) r xs
  | L,_::r,none::xs=>VSq P w0 L r xs
  | _,[],[]=>True
  | _,_,_=>False
theorem VSq.get {w0:World}:∀ {ops:List Oper} {L:List (Nat × Value)} {xs:List (Option (Nat × Value))},VSq P w0 L ops xs→∀ {i:Nat} {o:Oper} {y:Nat × Value},ops[i]?=some o→xs[i]?=some (some y)→VC P (frame L xs i) w0 o y.2
  | o::r,L,some x::xs,h,0,o',y,ho,hy=>by
    simp at ho hy;subst ho;subst hy
    exact h.1
  | o::r,L,some x::xs,h,i+1,o',y,ho,hy=>VSq.get (L:=x::L) h.2 (i:=i) (by simpa using ho) (by simpa using hy)
  | o::r,L,none::xs,h,0,o',y,ho,hy=>by simp at hy
  | o::r,L,none::xs,h,i+1,o',y,ho,hy=>VSq.get (ops:=r) (xs:=xs) (L:=L) (show VSq P w0 L r xs from h) (i:=i) (by simpa using ho) (by simpa using hy)
  | [],_,_,_,i,_,_,ho,_=>by simp at ho
  | _::_,_,[],h,_,_,_,_,_=>h.elim
structure JO (n:Nat) (L0:List (Nat × Value)) (Lr:List (Option (Nat × Value))) (w0:World) (ops:List Oper) (ia is p:Nat) (t:TypeId) (Zc X:List Value) (C:Nat→Prop) (a:Act) (w:World):Prop where
  size:a.tmps.size=n
  nod:a.defers=[]
  ext:Ext w0 w
  base:∀ s v,lk L0 s=some v→(∀ j o,C j→ops[j]?=some o→o.dst≠some s)→a.tmps[s]?=some v
  reads:∀ j s v,C j→Lr[j]?=some (some (s,v))→a.tmps[s]?=some v
  hp:C ia→∃ b,a.tmps[p]?=some (.pointer (some ⟨b,0,none⟩))∧w0.heap.size≤b∧(C is→Row w b t X)∧(¬ C is→Row w b t Zc)
def oneOk (ops:List Oper) (Lr:List (Option (Nat × Value))) (ia is:Nat):Bool:=
  Nat.beq Lr.length ops.length&&(List.range ops.length).all fun i=>Nat.beq i ia||Nat.beq i is||(Lr.getD i none).isSome
theorem E_one {id:Nat} {L0:List (Nat × Value)} {w0:World} (ia is p sx:Nat) {t:TypeId} {z:Value} {size bytes:Nat} (X:List Value) (Lr:List (Option (Nat × Value))) [TI P t z size bytes] (hm:P.follows .mixedOrders=true)
    (hc:(I9 ops&&Gm ops ops.length&&Mk ops ops.length)=true) (hgd:ops.all (fun o=>o.guard.isNone)=true) (hds:ops.all (fun o=>okd n o.dst)=true)
    (h0:ops[ia]?.map (fun o=>(o.op,o.dst))=some (.alloc t,some p)) (h1:ops[is]?.map (fun o=>(o.op,o.dst))=some (.store t (.tmp p) (.tmp sx),none))
    (hLa:Lr[ia]?=some none) (hLs:Lr[is]?=some none) (hLd:(ops.map (·.dst)).set ia none=Lr.map (Option.map Prod.fst)) (hok:oneOk ops Lr ia is=true) (hias:ia<is) (hp0:lk L0 p=none)
    (hX:lk (frame L0 Lr is) sx=some (.agg X.toArray)) (hXs:X.length=size) (hX1:X.all Value.oneCell'=true) (hz:z.cells.size=size)
    (hV:VSq P w0 L0 ops Lr)
    (k:∀ b w,Ext w0 w→w0.heap.size≤b→Row w b t X→K n Q .normal ((p,.pointer (some ⟨b,0,none⟩))::frame L0 Lr Lr.length) w):E P n (.region id ops.toArray true) Q L0 w0:=by
  intro a ha
  simp only [Bool.and_eq_true] at hc
  obtain⟨⟨hlow,hreads⟩,hdst⟩:=hc
  simp only [oneOk,Bool.and_eq_true] at hok
  have hll:Lr.length=ops.length:=Nat.eq_of_beq_eq_true hok.1
  have op_of:∀ {i:Nat} {x:Op × Option Tmp},ops[i]?.map (fun o=>(o.op,o.dst))=some x→∀ {o},ops[i]?=some o→o.op=x.1∧o.dst=x.2:=fun {i x} hx {o} ho=>by
    rw [ho] at hx;simp at hx;rw [← hx];exact⟨rfl,rfl⟩
  obtain⟨oa,hoa⟩:∃ o,ops[ia]?=some o:=by cases ho:ops[ia]? with|none=>rw [ho] at h0;cases h0|some o=>exact⟨o,rfl⟩
  obtain⟨os,hos⟩:∃ o,ops[is]?=some o:=by cases ho:ops[is]? with|none=>rw [ho] at h1;cases h1|some o=>exact⟨o,rfl⟩
  obtain⟨ha1,ha2⟩:=op_of h0 hoa
  obtain⟨hs1,hs2⟩:=op_of h1 hos
  dsimp only at ha1 ha2 hs1 hs2
  have hlr:∀ {i:Nat} {o:Oper},ops[i]?=some o→i≠ia→∃ x,Lr[i]?=some x∧o.dst=x.map Prod.fst:=fun {i o} ho hia=>by
    have e:=congrArg (·[i]?) hLd
    simp only [List.getElem?_map] at e
    rw [List.getElem?_set_ne (fun h=>hia h.symm),List.getElem?_map,ho,Option.map_some] at e
    cases hx:Lr[i]? with
    | none=>rw [hx] at e;cases e
    | some x=>rw [hx] at e;exact⟨x,rfl,by simpa using e⟩
  have rd_dst:∀ {j s:Nat} {v:Value},Lr[j]?=some (some (s,v))→j≠ia∧∃ o,ops[j]?=some o∧o.dst=some s:=fun {j s v} hj=>by
    have hjl:=(List.getElem?_eq_some_iff.1 hj).1
    have hji:j≠ia:=fun e=>by subst e;rw [hLa] at hj;cases hj
    obtain⟨o,ho⟩:∃ o,ops[j]?=some o:=⟨_,List.getElem?_eq_getElem (by omega)⟩
    obtain⟨x,hx,hd⟩:=hlr ho hji
    rw [hj] at hx;cases hx
    exact⟨hji,o,ho,hd⟩
  have dst_j:∀ {i j:Nat} {o o':Oper} {s:Nat},ops[i]?=some o→ops[j]?=some o'→o.dst=some s→o'.dst=some s→i=j:=fun ho ho' hd hd'=>
    Cs hdst ho (List.getElem?_eq_some_iff.1 ho).1 ho' (List.getElem?_eq_some_iff.1 ho').1 hd hd'
  have hpn:p<n:=by have:=List.all_eq_true.1 hds oa (List.mem_of_getElem? hoa);rw [ha2] at this;exact Nat.le_of_ble_eq_true this
  have hzl:z.cells.toList.length=size:=by simpa using hz
  refine wp_region_any hm ?_
  rw [show ops.toArray.size=ops.length by simp]
  have hfl:∀ i,¬ LsD (Array.replicate ops.length false) i:=fun i=>by
    unfold LsD;simp [Array.getElem?_replicate];split <;> simp
  have look : ∀ {C : Nat → Prop} {a : Act} {w : World} {i : Nat} {o : Oper} {s : Nat} {u : Value}, JO n L0 Lr w0 ops ia is p t z.cells.toList X C a w → Clo ops C → ops[i]? = some o → ¬ C i → (∀ e ∈ o.after, Region.binds .any e = true → C e.on) → .tmp s ∈ o.op.operands → lk (frame L0 Lr i) s = some u → a.tmps[s]? = some u := by
    intro C a w i o s u I hcl ho hi hed hxo hl
    have hil:=(List.getElem?_eq_some_iff.1 ho).1
    have hreach:∀ {j:Nat},Rch ops i j→C j:=fun hr=>hr.clo hcl (fun o2 ho2=>by rw [ho] at ho2;cases ho2;exact hed)
    rcases J5 hl with⟨j,h1,h2⟩|⟨h1,h2⟩
    · obtain⟨_,o2,ho2,hd2⟩:=rd_dst h2
      have hr:=Bu hreads ho hil ho2 (List.getElem?_eq_some_iff.1 ho2).1 (Dn hxo) hd2
      exact I.reads j s u (hreach (hr.1 (by assumption))) h2
    · refine I.base s u h1 (fun j o2 hj ho2 hd2=>?_)
      by_cases hja:j=ia
      · subst hja
        rw [hoa] at ho2;cases ho2
        rw [ha2] at hd2;cases hd2
        rw [hp0] at h1;cases h1
      · obtain⟨x2,hx2,hx3⟩:=hlr ho2 hja
        rw [hd2] at hx3
        by_cases hji:j<i
        · cases x2 with
          | none=>cases hx3
          | some y=>
            obtain⟨s2,v2⟩:=y
            simp at hx3;subst hx3
            exact h2 j hji _ hx2
        · by_cases hje:j=i
          · subst hje;exact hi hj
          · have hr:=Bu hreads ho hil ho2 (List.getElem?_eq_some_iff.1 ho2).1 (Dn hxo) hd2
            exact hi ((hr.2 (by omega)).clo hcl (fun o3 ho3 e he hb=>hcl _ _ ho3 hj e he hb))
  have hp_reads:∀ {C:Nat→Prop} {i:Nat} {o:Oper},Clo ops C→ops[i]?=some o→(∀ e∈o.after,Region.binds .any e=true→C e.on)→ia<i→.tmp p∈o.op.operands→C ia:=fun {C i o} hcl ho hed hlt hxo=>by
    have hr:=Bu hreads ho (List.getElem?_eq_some_iff.1 ho).1 hoa (List.getElem?_eq_some_iff.1 hoa).1 (Dn hxo) ha2
    exact(hr.1 hlt).clo hcl (fun o2 ho2=>by rw [ho] at ho2;cases ho2;exact hed)
  have hs_after:∀ {C:Nat→Prop},Clo ops C→C is→C ia:=fun {C} hcl h=>hp_reads hcl hos (fun e he hb=>hcl _ _ hos h e he hb) hias (by rw [hs1];simp [Op.operands])
  refine any_J (J:=JO n L0 Lr w0 ops ia is p t z.cells.toList X) hlow (fun o ho=>by have:=List.all_eq_true.1 hgd o ho;simpa using this) ?_ ?_ _ _ a _ (by simp) (fun i o _ hi=>absurd hi (hfl i))
    ⟨ha.size,ha.nod,Gk w0,fun s v hs _=>ha.get s v hs,fun j s v hj=>absurd hj (hfl j),fun hj=>absurd hj (hfl _)⟩ (by
      have:=Cd (N:=ops.length) (Nat.zero_le _) (listed:=Array.replicate ops.length false) (fun i=>⟨fun h=>absurd h (hfl i),fun h=>absurd h (Nat.not_lt_zero _)⟩)
      omega)
  · intro C C' a w i o I hcl hi ho hed hC' K Q' hK
    have hil:=(List.getElem?_eq_some_iff.1 ho).1
    have stepB:∀(v:Value),(∀ s u,lk L0 s=some u→(∀ j q,C' j→ops[j]?=some q→q.dst≠some s)→(a.put o.dst v).tmps[s]?=some u):=fun v s u hs hno=>by
      rw [Hw (hno i o ((hC' i).2 (.inl rfl)) ho)]
      exact I.base s u hs (fun j o2 hj ho2=>hno j o2 ((hC' j).2 (.inr hj)) ho2)
    have stepR:∀(v:Value),(∀ y,Lr[i]?=some (some y)→v=y.2)→∀ j s u,C' j→Lr[j]?=some (some (s,u))→(a.put o.dst v).tmps[s]?=some u:=fun v hv j s u hj hju=>by
      obtain⟨hja,o2,ho2,hd2⟩:=rd_dst hju
      by_cases hji:j=i
      · subst hji
        rw [ho] at ho2;cases ho2
        have hsn:s<n:=by have:=List.all_eq_true.1 hds o (List.mem_of_getElem? ho);rw [hd2] at this;exact Nat.le_of_ble_eq_true this
        rw [hd2,hv _ hju]
        exact Mb (by rw [I.size];exact hsn)
      · rw [Hw (fun e=>hji (dst_j ho2 ho hd2 e))]
        exact I.reads j s u (((hC' j).1 hj).resolve_left hji) hju
    by_cases hia:i=ia
    · subst hia
      rw [hoa] at ho;cases ho
      have hrun:=Jm (P:=P) ha1 a.eval w
      have hx:=Bc w (.cells z.cells t)
      unfold Oper.wp
      rw [hrun]
      refine hK _ _ ⟨by rw [Cy];exact I.size,by rw [F7];exact I.nod,I.ext.trans hx,stepB _,stepR _ (fun y hy=>by rw [hLa] at hy;cases hy),fun _=>?_⟩
      refine⟨w.heap.size,by rw [ha2];exact Mb (by rw [I.size];exact hpn),I.ext.size,fun h=>?_,fun _=>Bv _ _ _⟩
      exact absurd (hs_after hcl (((hC' _).1 h).resolve_left (by omega))) hi
    by_cases his:i=is
    · subst his
      rw [hos] at ho;cases ho
      have hca:C ia:=hp_reads hcl hos hed hias (by rw [hs1];simp [Op.operands])
      obtain⟨b,e1,e2,e3,e4⟩:=I.hp hca
      have hpv:a.eval (.tmp p)=.pointer (some ⟨b,0,none⟩):=by simp [Act.eval,Array.getD_eq_getD_getElem?,e1]
      have hxv:a.eval (.tmp sx)=.agg X.toArray:=by
        have:=look I hcl hos hi hed (by rw [hs1];simp [Op.operands]) hX
        simp [Act.eval,Array.getD_eq_getD_getElem?,this]
      obtain⟨w',hrun,r1,k1,hsz1⟩:=Kl (P:=P) hs1 (ρ:=a.eval) (w:=w) hpv hxv hXs hX1 (e4 hi) hzl
      unfold Oper.wp
      rw [hrun]
      refine hK _ _ ⟨by rw [Cy];exact I.size,by rw [F7];exact I.nod,k1.ext I.ext (fun b' hb'=>by cases hb';exact e2),stepB _,stepR _ (fun y hy=>by rw [hLs] at hy;cases hy),fun _=>?_⟩
      rw [hs2]
      exact⟨b,e1,e2,fun _=>r1,fun h=>absurd ((hC' _).2 (.inl rfl)) h⟩
    · obtain⟨x,hx⟩:∃ x,Lr[i]?=some x:=⟨_,List.getElem?_eq_getElem (by omega)⟩
      have hsm:=List.all_eq_true.1 hok.2 i (by simpa using hil)
      rw [getD_of hx] at hsm
      have hsm':x.isSome=true:=by
        simp only [Bool.or_eq_true] at hsm
        rcases hsm with(h|h)|h
        · exact absurd (Nat.eq_of_beq_eq_true h) hia
        · exact absurd (Nat.eq_of_beq_eq_true h) his
        · exact h
      obtain⟨y,rfl⟩:=Option.isSome_iff_exists.1 hsm'
      have hag:Agree (frame L0 Lr i) o a.eval:=fun x hxo u hu=>ev_of (fun s u he hl=>by
        subst he
        exact look I hcl ho hi hed hxo hl) hu
      have hpk:∀(v:Value) (w':World),Ext w w'→C' ia→∃ b,(a.put o.dst v).tmps[p]?=some (.pointer (some ⟨b,0,none⟩))∧w0.heap.size≤b∧(C' is→Row w' b t X)∧(¬ C' is→Row w' b t z.cells.toList):=fun v w' hx' hca=>by
        obtain⟨b,e1,e2,e3,e4⟩:=I.hp (((hC' _).1 hca).resolve_left (fun e=>hia e.symm))
        refine⟨b,?_,e2,fun h=>(e3 (((hC' _).1 h).resolve_left (fun e=>his e.symm))).ext hx',fun h=>(e4 fun h'=>h ((hC' _).2 (.inr h'))).ext hx'⟩
        rw [Hw (fun e=>hia (dst_j ho hoa e ha2))]
        exact e1
      rcases VSq.get hV ho hx with hval|⟨f,args,hen,hca⟩
      · have hrun:=hval w I.ext a.eval hag
        unfold Oper.wp
        rw [hrun]
        exact hK y.2 w ⟨by rw [Cy];exact I.size,by rw [F7];exact I.nod,I.ext,stepB _,stepR _ (fun y' hy=>by rw [hx] at hy;cases hy;rfl),hpk _ _ (Ext.refl w)⟩
      · have hrun:=hen w I.ext a.eval hag
        unfold Oper.wp
        rw [hrun,Oper.upon_enter]
        refine(hca w I.ext).mono ?_
        rintro e w' ⟨v,rfl,rfl,hxx⟩
        exact hK y.2 w' ⟨by rw [Cy];exact I.size,by rw [F7];exact I.nod,I.ext.trans hxx,stepB _,stepR _ (fun y' hy=>by rw [hx] at hy;cases hy;rfl),hpk _ _ hxx⟩
  · intro C a w hall I
    obtain⟨b,e1,e2,e3,_⟩:=I.hp (hall _ (List.getElem?_eq_some_iff.1 hoa).1)
    refine k b w I.ext e2 (e3 (hall _ (List.getElem?_eq_some_iff.1 hos).1)) a ⟨I.size,I.nod,fun s v hs=>?_⟩
    simp only [lk] at hs
    cases hb:Nat.beq p s with
    | true=>
      rw [hb] at hs;simp at hs
      have:=Nat.eq_of_beq_eq_true hb
      subst this;rw [e1,hs]
    | false =>
      rw [hb] at hs
      simp only [cond_false] at hs
      rcases J5 hs with⟨j,h1,h2⟩|⟨h1,h2⟩
      · exact I.reads j s v (hall j (by omega)) h2
      · refine I.base s v h1 (fun j o2 hj ho2 hd2=>?_)
        by_cases hja:j=ia
        · subst hja
          rw [hoa] at ho2;cases ho2
          rw [ha2] at hd2;cases hd2
          rw [hp0] at h1;cases h1
        · obtain⟨x2,hx2,hx3⟩:=hlr ho2 hja
          rw [hd2] at hx3
          cases x2 with
          | none=>cases hx3
          | some y=>
            obtain⟨s2,v2⟩:=y
            simp at hx3;subst hx3
            exact h2 j (by have:=(List.getElem?_eq_some_iff.1 hx2).1;omega) _ hx2
end
end Go.En
