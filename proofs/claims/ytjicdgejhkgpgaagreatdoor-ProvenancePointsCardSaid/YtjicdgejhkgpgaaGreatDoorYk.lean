/-
  Drawn regions with things of their own: literals, appends, cells that are made and filled. The reference's search for the analyses of a word: what stays while a list of one's own grows; a part put behind an analysis. The reference's search for the analyses of a word, walked. Walks: the reference's deletes, plain, Uses. Walks: the reference's Uses. Walks: the reference's orthography: begins, longest, Units. Walks: the reference's orthography: Units, Read. Walks of align: the insertion sort of notes. Walks of align: SortStableFunc of few notes, Kids. Walks of align: the program's Of. The reference's Of: a note put into a list of notes, in whatever order the parts are made ('append(append(append([]Note{}, l[:at]...), n), l[at:]...)'). Walks of align: the reference's Of.
-/
import Derived.Test.YtjicdgejhkgpgaaGreatDoorHq
import Derived.Test.YtjicdgejhkgpgaaGreatDoorYj
import Derived.Test.YtjicdgejhkgpgaaGreatDoorYf
import Derived.Test.YtjicdgejhkgpgaaGreatDoorYg
import Derived.Test.YtjicdgejhkgpgaaGreatDoorYh
import Derived.Test.YtjicdgejhkgpgaaGreatDoorYi
set_option linter.all false
namespace Go.En
open Go.RowKit
section
variable {P : Program} {n : Nat} {Q : Post} {ops : List Oper}
theorem own_same {w w':World} {B:Nat} {e:TypeId} {sz:Nat} {v:Value} {m:Nat} {xs:List Value} (h:w.ownsRow B e sz v m xs) (hs:∀ b,v.ownBlock=some b→w'.heap[b]?=w.heap[b]?):w'.ownsRow B e sz v m xs:=by
  obtain⟨h1,h2⟩:=h
  refine⟨h1,?_⟩
  rcases h2 with h2|⟨g,cap,cur,rfl,h3,h4,h5⟩
  · exact .inl h2
  · exact .inr ⟨g,cap,cur,rfl,h3,by rw [hs g rfl];exact h4,h5⟩
def ROwn (B:Nat) (e:TypeId) (sz m:Nat) (xs:List Value):(Nat→Prop)→Value→World→Prop:=fun G u w=>w.ownsRow B e sz u m xs∧∀ b,u.ownBlock=some b→G b
theorem mv_own {w0:World} {B:Nat} {e:TypeId} {sz m:Nat} {xs:List Value}:Mv w0 (ROwn B e sz m xs):=fun G u w w' h _ _ _ hs=>
  ⟨own_same h.1 (fun b hb=>hs b (h.2 b hb) (h.1.lt b hb).2),h.2⟩
variable {w0 : World} {Lb : List (Nat × Value)} {its : List Pd} {i : Nat} {o : Oper}
theorem st_lit {d:Nat} {t e:TypeId} {z:Value} {size bytes len:Nat} {ps:List (Nat × Operand)} {vs cs:List Value} [UT P t (.slice e)] [TI P e z size bytes] (ho:o.op=.buildSlice t len ps.toArray)
    (hps:evs (frV Lb (its.take i)) 0 ps=some vs) (hv:vs.all (fun v=>Nat.beq v.cells.size size)=true) (hl:Nat.beq vs.length len=true) (hsm:Nat.ble (len*size) 16777216=true) (hcs:(vs.map fun v=>v.cells.toList).flatten=cs) (hlen:cs.length=len*size) (hb:len≤9223372036854775807) :
    StepOK P Lb w0 its i o (some d) d (ROwn w0.heap.size e size len cs) []:=
  ⟨mv_own,fun w δ Gs hx _ _=>.inl ⟨.slice (some ⟨w.heap.size,0,none⟩) len len,w.alloc (.cells cs.toArray e),fun ρ ha=>run_lit ho hps hv hl hsm hcs ha,hx.trans (ext_alloc _ _),(ext_alloc w (.cells cs.toArray e)).size,fun b hb _=>(ext_alloc w (.cells cs.toArray e)).block hb,
    fun b=>b=w.heap.size,⟨own_row (by have:=row_alloc w e cs.toArray;exact this) hlen hx.size hb,fun b hb=>(Option.some.inj hb).symm⟩,fun b hb=>by
      subst hb
      refine⟨hx.size,?_,.inl (Nat.le_refl _)⟩
      have:=(row_alloc w e cs.toArray).lt;exact this⟩⟩
theorem own_news {w:World} {v v':Value} {G:Nat→Prop} (h1:v'.ownBlock=v.ownBlock∨v'.ownBlock=some w.heap.size) (hG:∀ b,v.ownBlock=some b→G b):∀ b,v'.ownBlock=some b→w.heap.size≤b∨G b:=fun b hb=>by
  rcases h1 with h1|h1
  · exact .inr (hG b (by rw [← h1];exact hb))
  · rw [h1] at hb;cases hb;exact .inl (Nat.le_refl _)
theorem st_app {d j sj m q c:Nat} {dj:Option Nat} {cj:List Nat} {t e:TypeId} {z:Value} {size bytes:Nat} {x:Operand} {xs news:List Value} {a:Option Addr} [ut:UT P t (.slice e)] [ti:TI P e z size bytes] (hj:its[j]?=some (.r dj sj (ROwn w0.heap.size e size m xs) cj))
    (ho:o.op=.call { callee:=.builtin .append,args:=#[.tmp sj,x],argTypes:=#[t,t] }) (hx:∀ δ,ev (conL (sk its) δ [j]++frV Lb (its.take i)) x=some (.slice a q c))
    (hnews:∀ w,Ext w0 w→0<q→∃ b off,a=some ⟨b,off,none⟩∧At w b off news) (hl:news.length=q*size) (h1:news.all Value.oneCell'=true) (hz:z.cells.size=size) (hsz:Nat.ble 1 size=true) (hmax:(m+q)*bytes≤140737488355328) (hmax':m+q≤9223372036854775807) :
    StepOK P Lb w0 its i o (some d) d (ROwn w0.heap.size e size (m+q) (xs++news)) [j]:=by
  refine⟨mv_own,fun w δ Gs hxw hres _=>?_⟩
  obtain⟨hR,hG⟩:=hres j (List.mem_singleton.2 rfl)
  have hsl:slotAt (sk its) j=sj:=(sk_at hj).2.1
  rw [Ri_of hj,hsl] at hR
  obtain⟨v',w',hrun,hown,hx',hk,hb⟩:=app_exO (P:=P) t o.type (e:=e) c (a:=a) (q:=q) (news:=news) hR.1 hxw (hnews w hxw) hl h1 hz hsz hmax hmax'
  have hs:ev (conL (sk its) δ [j]++frV Lb (its.take i)) (.tmp sj)=some (δ sj):=by
    show lk ((slotAt (sk its) j,δ (slotAt (sk its) j))::_) sj=_
    rw [hsl,lk];simp
  refine .inl ⟨v',w',fun ρ ha=>step_app ho hs (hx δ) hrun ρ ha,hx',hk.size,fun b hb hn=>World.grownBy.block hk b hb (fun e=>hn j (List.mem_singleton.2 rfl) (hR.2 b e.symm)),fun b=>v'.ownBlock=some b,⟨hown,fun b hb=>hb⟩,fun b hbb=>?_⟩
  have:=hown.lt b hbb
  refine⟨this.1,this.2,?_⟩
  rcases own_news hb hR.2 b hbb with h|h
  · exact .inl h
  · exact .inr ⟨j,List.mem_singleton.2 rfl,h⟩
theorem st_app2 {d j l sj sl m q:Nat} {dj dl:Option Nat} {cj cl:List Nat} {t e:TypeId} {z:Value} {size bytes:Nat} {xs news:List Value} [ut:UT P t (.slice e)] [ti:TI P e z size bytes] (hj:its[j]?=some (.r dj sj (ROwn w0.heap.size e size m xs) cj)) (hl0:its[l]?=some (.r dl sl (ROwn w0.heap.size e size q news) cl))
    (ho:o.op=.call { callee:=.builtin .append,args:=#[.tmp sj,.tmp sl],argTypes:=#[t,t] }) (hne:sj≠sl) (h1:news.all Value.oneCell'=true) (hz:z.cells.size=size) (hsz:Nat.ble 1 size=true) (hmax:(m+q)*bytes≤140737488355328) (hmax':m+q≤9223372036854775807) :
    StepOK P Lb w0 its i o (some d) d (ROwn w0.heap.size e size (m+q) (xs++news)) [j,l]:=by
  refine⟨mv_own,fun w δ Gs hxw hres _=>?_⟩
  obtain⟨hR,hG⟩:=hres j (by simp)
  obtain⟨hR2,hG2⟩:=hres l (by simp)
  have hsl:slotAt (sk its) j=sj:=(sk_at hj).2.1
  have hsl2:slotAt (sk its) l=sl:=(sk_at hl0).2.1
  rw [Ri_of hj,hsl] at hR
  rw [Ri_of hl0,hsl2] at hR2
  obtain⟨a,c,hu,hat⟩:∃ a c,δ sl=.slice a q c∧(0<q→∃ b off,a=some ⟨b,off,none⟩∧At w b off news):=by
    rcases own_read hR2.1 with⟨e1,e2,_⟩|⟨b,cap,e1,_,_,_,e2⟩
    · exact⟨none,0,by rw [e1,e2],fun h=>by omega⟩
    · exact⟨_,cap,e1,fun _=>⟨b,0,rfl,e2⟩⟩
  obtain⟨v',w',hrun,hown,hx',hk,hb⟩:=app_exO (P:=P) t o.type (e:=e) c (a:=a) (q:=q) (news:=news) hR.1 hxw hat hR2.1.1 h1 hz hsz hmax hmax'
  have hs:ev (conL (sk its) δ [j,l]++frV Lb (its.take i)) (.tmp sj)=some (δ sj):=by
    show lk ((slotAt (sk its) j,δ (slotAt (sk its) j))::_) sj=_
    rw [hsl,lk];simp
  have hs2:ev (conL (sk its) δ [j,l]++frV Lb (its.take i)) (.tmp sl)=some (.slice a q c):=by
    show lk ((slotAt (sk its) j,δ (slotAt (sk its) j))::(slotAt (sk its) l,δ (slotAt (sk its) l))::_) sl=_
    rw [hsl,hsl2,lk,lk]
    have:Nat.beq sj sl=false:=by
      cases hb:Nat.beq sj sl with
      | false=>rfl
      | true=>exact absurd (Nat.eq_of_beq_eq_true hb) hne
    rw [this];simp [hu]
  refine .inl ⟨v',w',fun ρ ha=>step_app ho hs hs2 hrun ρ ha,hx',hk.size,fun b hb hn=>World.grownBy.block hk b hb (fun e=>hn j (by simp) (hR.2 b e.symm)),fun b=>v'.ownBlock=some b,⟨hown,fun b hb=>hb⟩,fun b hbb=>?_⟩
  have:=hown.lt b hbb
  refine⟨this.1,this.2,?_⟩
  rcases own_news hb hR.2 b hbb with h|h
  · exact .inl h
  · exact .inr ⟨j,by simp,h⟩
theorem st_val {d:Nat} {R:(Nat→Prop)→Value→World→Prop} {con:List Nat} (hmv:Mv w0 R)
    (h:∀(w:World) (δ:Nat→Value) (Gs:Nat→Nat→Prop),Ext w0 w→(∀ j∈con,Ri its j (Gs j) (δ (slotAt (sk its) j)) w)→∃ v,Val P (conL (sk its) δ con++frV Lb (its.take i)) w o v∧R (fun b=>∃ j∈con,Gs j b) v w) :
    StepOK P Lb w0 its i o (some d) d R con:=
  ⟨hmv,fun w δ Gs hxw hres _=>by
    obtain⟨v,hv,hR⟩:=h w δ Gs hxw (fun j hj=>(hres j hj).1)
    exact .inl ⟨v,w,hv,hxw,Nat.le_refl _,fun _ _ _=>rfl,_,hR,fun b ⟨j,hj,hb⟩=>⟨((hres j hj).2 b hb).1,((hres j hj).2 b hb).2,.inr ⟨j,hj,hb⟩⟩⟩⟩
end
end Go.En
namespace Go.Proofs.YtjicdgejhkgpgaaGreatDoor
open Go.RowKit Go.En Go.Pv
def Kp (v v':Value) (w w':World):Prop:=Kb v.ownBlock w w'∧(v'.ownBlock=v.ownBlock∨∃ b,v'.ownBlock=some b∧w.heap.size≤b)
theorem Kp.of_ext {v:Value} {w w':World} (x:Ext w w'):Kp v v w w':=⟨x.kb _,.inl rfl⟩
theorem Kp.trans {a b c:Value} {w w1 w2:World} (h:Kp a b w w1) (k:Kp b c w1 w2):Kp a c w w2:=by
  obtain⟨h1,h2⟩:=h
  obtain⟨k1,k2⟩:=k
  refine⟨⟨k1.os.trans h1.os,k1.tape.trans h1.tape,k1.output.trans h1.output,Nat.le_trans h1.size k1.size,fun q hq hne=>?_⟩,?_⟩
  · rw [World.grownBy.block k1 q (Nat.lt_of_lt_of_le hq h1.size) (by
      rcases h2 with h2|⟨b',e,hb⟩
      · rw [h2];exact hne
      · rw [e];intro e';cases e';omega)]
    exact World.grownBy.block h1 q hq hne
  · have hs:=h1.size
    rcases k2 with k2|⟨b',e,hb⟩
    · rw [k2];exact h2
    · exact .inr ⟨b',e,by omega⟩
theorem Kp.mv {v v':Value} {w w':World} (h:Kp v v' w w'):∀ b,Nb v b→b<w.heap.size→Nb v' b∧w'.heap[b]?=w.heap[b]?:=fun b hb hlt=>by
  refine⟨?_,World.grownBy.block h.1 b hlt hb⟩
  unfold Nb at*
  rcases h.2 with h2|⟨b',e,hb'⟩
  · rw [h2];exact hb
  · rw [e];intro e';cases e';omega
theorem Kp.row {v v':Value} {w w':World} (h:Kp v v' w w') {b:Nat} {e:TypeId} {cs:List Value} (hr:Row w b e cs) (hb:Nb v b):Row w' b e cs∧Nb v' b:=by
  obtain⟨h1,h2⟩:=h.mv b hb hr.lt
  exact⟨h2.trans hr,h1⟩
theorem Kp.size {v v':Value} {w w':World} (h:Kp v v' w w'):w.heap.size≤w'.heap.size:=h.1.size
attribute [local irreducible] E EL K Val Enters Rt Calls bodyPost Code.wp RQ
end Go.Proofs.YtjicdgejhkgpgaaGreatDoor
namespace Go.Proofs.YtjicdgejhkgpgaaGreatDoor
open Go.RowKit Go.En Go.Pv
attribute [local irreducible] E EL K Val Enters Rt Calls bodyPost Code.wp RQ
end Go.Proofs.YtjicdgejhkgpgaaGreatDoor
namespace Go.Proofs.YtjicdgejhkgpgaaGreatDoor
open Go.RowKit Go.En Go.Pv
attribute [local irreducible] E EL K Val Enters Rt Calls bodyPost Code.wp RQ
end Go.Proofs.YtjicdgejhkgpgaaGreatDoor
namespace Go.Proofs.YtjicdgejhkgpgaaGreatDoor
open Go.RowKit Go.En Go.Pv
attribute [local irreducible] E EL K Val Enters Rt Calls bodyPost Code.wp RQ
end Go.Proofs.YtjicdgejhkgpgaaGreatDoor
namespace Go.Proofs.YtjicdgejhkgpgaaGreatDoor
open Go.RowKit Go.En Go.Pv
theorem units_fuel {us : List Unt} (hg : ∀ u ∈ us, 1 ≤ u.graph.length) : ∀ (n k : Nat) (t : List UInt8), t.length ≤ n → t.length ≤ k → unitsF us k t = unitsF us n t
  | 0,0,_,_,_=>rfl
  | 0,k+1,t,h,_=>by
    have:t=[]:=List.length_eq_zero_iff.1 (by omega)
    subst this;rw [unitsF,unitsF,if_pos rfl]
  | n+1,0,t,_,h=>by
    have:t=[]:=List.length_eq_zero_iff.1 (by omega)
    subst this;rw [unitsF,unitsF,if_pos rfl]
  | n + 1, k + 1, t, h1, h2 => by
    rw [unitsF,unitsF]
    by_cases ht:t=[]
    · rw [if_pos ht,if_pos ht]
    · rw [if_neg ht,if_neg ht]
      have hpos:0<t.length:=List.length_pos_iff.2 ht
      cases bestF us t with
      | none=>rfl
      | some i=>
        dsimp only
        cases hi:us[i]? with
        | none=>rfl
        | some u=>
          dsimp only
          have hu:=hg u (List.mem_of_getElem? hi)
          have hd:(t.drop u.graph.length).length≤t.length-1:=by rw [List.length_drop];omega
          rw [units_fuel hg n k _ (by omega) (by omega)]
theorem units_step {us:List Unt} (hg:∀ u∈us,1≤u.graph.length) {t:List UInt8} {i:Nat} {u:Unt} (ht:t≠[]) (hb:bestF us t=some i) (hi:us[i]?=some u) :
    unitsF us t.length t=((i:Int)::(unitsF us (t.drop u.graph.length).length (t.drop u.graph.length)).1,u.graph.length+(unitsF us (t.drop u.graph.length).length (t.drop u.graph.length)).2):=by
  have hpos:0<t.length:=List.length_pos_iff.2 ht
  obtain⟨m,hm⟩:∃ m,t.length=m+1:=⟨t.length-1,by omega⟩
  have hu:=hg u (List.mem_of_getElem? hi)
  have hf:=units_fuel hg (t.drop u.graph.length).length m (t.drop u.graph.length) (Nat.le_refl _) (by rw [List.length_drop];omega)
  rw [hm,unitsF,if_neg ht,hb]
  dsimp only
  rw [hi]
  dsimp only
  rw [hf]
theorem units_stop {us:List Unt} {t:List UInt8} (h:t=[]∨bestF us t=none):unitsF us t.length t=([],0):=by
  cases hl:t.length with
  | zero=>rfl
  | succ m=>
    rw [unitsF]
    rcases h with h|h
    · rw [if_pos h]
    · by_cases ht:t=[]
      · rw [if_pos ht]
      · rw [if_neg ht,h]
attribute [local irreducible] E EL K Val Enters Rt Calls bodyPost Code.wp RQ
end Go.Proofs.YtjicdgejhkgpgaaGreatDoor
namespace Go.Proofs.YtjicdgejhkgpgaaGreatDoor
open Go.RowKit Go.En Go.Pv
theorem units_len {us : List Unt} (hg : ∀ u ∈ us, 1 ≤ u.graph.length) : ∀ (k : Nat) (t : List UInt8), (unitsF us k t).1.length ≤ k ∧ ∀ z ∈ (unitsF us k t).1, 0 ≤ z ∧ z < (us.length : Int)
  | 0,_=>⟨Nat.le_refl _,fun z hz=>by cases hz⟩
  | k + 1, t => by
    rw [unitsF]
    split
    · exact⟨by simp,fun z hz=>by cases hz⟩
    · cases bestF us t with
      | none=>exact⟨by simp,fun z hz=>by cases hz⟩
      | some i=>
        dsimp only
        cases hi:us[i]? with
        | none=>exact⟨by simp,fun z hz=>by cases hz⟩
        | some u=>
          dsimp only
          obtain⟨h1,h2⟩:=units_len hg k (t.drop u.graph.length)
          refine⟨by rw [List.length_cons];omega,fun z hz=>?_⟩
          rcases List.mem_cons.1 hz with rfl|hz
          · have:=(List.getElem?_eq_some_iff.1 hi).1;omega
          · exact h2 z hz
theorem flat_le {α β:Type} {f:α→List β} {c:Nat}:∀ {l:List α},(∀ x∈l,(f x).length≤c)→(l.flatMap f).length≤l.length*c
  | [],_=>by simp
  | x::r,h=>by
    have:=flat_le (l:=r) (fun y hy=>h y (List.mem_cons_of_mem _ hy))
    have:=h x List.mem_cons_self
    rw [List.flatMap_cons,List.length_append,List.length_cons,Nat.add_mul];omega
attribute [local irreducible] E EL K Val Enters Rt Calls bodyPost Code.wp RQ
end Go.Proofs.YtjicdgejhkgpgaaGreatDoor
namespace Go.Proofs.YtjicdgejhkgpgaaGreatDoor
open Go.RowKit Go.En
theorem Kb.trans {g:Option Nat} {a b c:World} (h:Kb g a b) (k:Kb g b c):Kb g a c:=
  ⟨(World.grownBy.os k).trans (World.grownBy.os h),(World.grownBy.tape k).trans (World.grownBy.tape h),(World.grownBy.output k).trans (World.grownBy.output h),Nat.le_trans (Kb.size h) (Kb.size k),fun i hi hne=>(World.grownBy.block k i (Nat.lt_of_lt_of_le hi (Kb.size h)) hne).trans (World.grownBy.block h i hi hne)⟩
theorem Kb.refl (g:Option Nat) (w:World):Kb g w w:=(Ext.refl w).kb g
attribute [local irreducible] E EL K Val Enters Rt Calls bodyPost Code.wp RQ
end Go.Proofs.YtjicdgejhkgpgaaGreatDoor
namespace Go.Proofs.YtjicdgejhkgpgaaGreatDoor
open Go.RowKit Go.En
theorem own_open {w:World} {B:Nat} {e:TypeId} {size n:Nat} {v:Value} {xs:List Value} (h:w.ownsRow B e size v n xs) (h0:0<n):∃ g cap tail,v=.slice (some ⟨g,0,none⟩) n cap∧n≤cap∧cap≤maxLen∧B≤g∧Row w g e (xs++tail)∧(xs++tail).length=cap*size:=by
  rcases h.2 with⟨_,hn⟩|⟨g,cap,cur,rfl,hb,hg,h1,h2,h3,h4⟩
  · omega
  · refine⟨g,cap,cur.toList.drop (n*size),rfl,h1,h2,hb,?_,?_⟩
    · rw [← h4,List.take_append_drop];exact hg
    · rw [← h4,List.take_append_drop];simpa using h3
attribute [local irreducible] E EL K Val Enters Rt Calls bodyPost Code.wp RQ
end Go.Proofs.YtjicdgejhkgpgaaGreatDoor
namespace Go.Proofs.YtjicdgejhkgpgaaGreatDoor
open Go.RowKit Go.En
theorem sl_ints {G:Nat→Prop} {w:World} {a:Option Addr} {n cap:Nat} {ids:List Int} (h:SlG G w (.slice a n cap) ids) (h0:0<n):∃ b off,a=some ⟨b,off,none⟩∧At w b off (ids.map int):=by
  have hn:n=ids.length:=by obtain⟨a',c',e,_⟩:=h;cases e;rfl
  obtain⟨css,h1,h2⟩:=h.css
  have hc:=ats_ints h1
  subst hc
  rw [ints_flat] at h2
  obtain⟨b,so,e,_,h3⟩:=h2 (by simp;omega)
  exact⟨b,so,e,h3⟩
theorem of_below {d:Dc} (h:LightD d) {k:Nat} {t:Tier} (ht:d.tiers[k]?=some t) (h0:t.kind≠0):∃ j:Nat,t.parent=(j:Int)∧j<k∧ofR d (k:Int)=(ofR d (j:Int)).flatMap fun p=>kidsN d p.id (k:Int):=by
  have hl:=tier_lt ht
  have hr:=(h.tiers k t ht).par h0
  obtain⟨j,hj⟩:∃ j:Nat,t.parent=(j:Int):=⟨t.parent.toNat,by omega⟩
  obtain⟨u,hu⟩:∃ u,d.tiers[j]?=some u:=⟨_,List.getElem?_eq_getElem (by omega)⟩
  refine⟨j,hj,by omega,?_⟩
  rw [← ofN_eq h k (k+1) t ht (by omega)]
  simp only [ofN,Int.toNat_natCast]
  rw [if_pos ⟨by omega,by omega⟩,ht]
  dsimp only
  rw [if_neg h0,hj,ofN_eq h j k u hu (by omega)]
attribute [local irreducible] E EL K Val Enters Rt Calls bodyPost Code.wp RQ
end Go.Proofs.YtjicdgejhkgpgaaGreatDoor
namespace Go.Proofs.YtjicdgejhkgpgaaGreatDoor
open Go.RowKit Go.En
abbrev Q3:=Nat × Nat × Value
theorem q_keep {QL:List Q3} {C C':Nat→Prop} {δ:Nat→Value} {i:Nat} {d:Option Tmp} {v:Value} (hq:∀ t∈QL,C t.1→δ t.2.1=t.2.2) (hC':∀ j,C' j↔j=i∨C j) (hnew:∀ t∈QL,t.1=i→d=some t.2.1∧v=t.2.2) (hold:∀ t∈QL,t.1≠i→d≠some t.2.1):∀ t∈QL,C' t.1→upd δ d v t.2.1=t.2.2:=by
  intro t ht hc
  unfold upd
  by_cases hi:t.1=i
  · obtain⟨h1,h2⟩:=hnew t ht hi
    rw [if_pos h1,h2]
  · rw [if_neg (hold t ht hi)]
    exact hq t ht (((hC' _).1 hc).resolve_left hi)
structure PhI (w0:World) (Lb:List (Nat × Value)) (QL:List Q3) (vO:Value) (tk dr:List Note) (nt:Note) (C:Nat→Prop) (δ:Nat→Value) (w:World):Prop where
  ext:Ext w0 w
  bs:∀ s v,lk Lb s=some v→δ s=v
  s5:¬ C 12→δ 5=vO
  qs:∀ t∈QL,C t.1→δ t.2.1=t.2.2
  a0:C 0→¬ C 4→w.ownsRow w0.heap.size 80 7 (δ 44) 0 []
  a6:C 6→¬ C 7→∃ b,δ 50=.slice (some ⟨b,0,none⟩) 1 1∧Row w b 80 (noteC nt)
  n06:C 0→¬ C 4→C 6→(δ 44).ownBlock≠(δ 50).ownBlock
  a4:C 4→¬ C 7→w.ownsRow w0.heap.size 80 7 (δ 48) tk.length (tk.map noteC).flatten
  n46:C 4→¬ C 7→C 6→(δ 48).ownBlock≠(δ 50).ownBlock
  a7:C 7→¬ C 11→w.ownsRow w0.heap.size 80 7 (δ 51) (tk.length+1) ((tk.map noteC).flatten++noteC nt)
  a11:C 11→w.ownsRow w0.heap.size 80 7 (δ 55) (tk.length+1+dr.length) ((tk.map noteC).flatten++noteC nt++(dr.map noteC).flatten)
  a12:C 12→δ 5=δ 55
theorem PhI.quiet {w0:World} {Lb:List (Nat × Value)} {QL:List Q3} {vO:Value} {tk dr:List Note} {nt:Note} {C C':Nat→Prop} {δ:Nat→Value} {w:World} {i:Nat} {d:Nat} {v:Value} (I:PhI w0 Lb QL vO tk dr nt C δ w) (hC':∀ j,C' j↔j=i∨C j)
    (hi:i≠0∧i≠4∧i≠6∧i≠7∧i≠11∧i≠12) (hd:d≠5∧d≠44∧d≠48∧d≠50∧d≠51∧d≠55) (hlb:lk Lb d=none)
    (hnew:∀ t∈QL,t.1=i→some d=some t.2.1∧v=t.2.2) (hold:∀ t∈QL,t.1≠i→some d≠some t.2.1):PhI w0 Lb QL vO tk dr nt C' (upd δ (some d) v) w:=by
  have e:∀ s,d≠s→upd δ (some d) v s=δ s:=fun s hs=>if_neg (fun h=>hs (Option.some.inj h))
  have c:∀ j,i≠j→(C' j↔C j):=fun j hj=>⟨fun h=>((hC' j).1 h).resolve_left (fun h=>hj h.symm),fun h=>(hC' j).2 (.inr h)⟩
  have c0:=c 0 (by omega)
  have c4:=c 4 (by omega)
  have c6:=c 6 (by omega)
  have c7:=c 7 (by omega)
  have c11:=c 11 (by omega)
  have c12:=c 12 (by omega)
  have d5:=e 5 (by omega)
  have d44:=e 44 (by omega)
  have d48:=e 48 (by omega)
  have d50:=e 50 (by omega)
  have d51:=e 51 (by omega)
  have d55:=e 55 (by omega)
  refine⟨I.ext,fun s u hs=>?_,?_,q_keep I.qs hC' hnew hold,?_,?_,?_,?_,?_,?_,?_,?_⟩
  · rw [e s (fun h=>by subst h;rw [hlb] at hs;cases hs)];exact I.bs s u hs
  · rw [c12,d5];exact I.s5
  · rw [c0,c4,d44];exact I.a0
  · rw [c6,c7,d50];exact I.a6
  · rw [c0,c4,c6,d44,d50];exact I.n06
  · rw [c4,c7,d48];exact I.a4
  · rw [c4,c7,c6,d48,d50];exact I.n46
  · rw [c7,c11,d51];exact I.a7
  · rw [c11,d55];exact I.a11
  · rw [c12,d5,d55];exact I.a12
theorem upd_eq (δ:Nat→Value) (d:Nat) (v:Value):upd δ (some d) v d=v:=if_pos rfl
theorem upd_ne {δ:Nat→Value} {d s:Nat} {v:Value} (h:d≠s):upd δ (some d) v s=δ s:=if_neg (fun e=>h (Option.some.inj e))
section
variable {w0 : World} {Lb : List (Nat × Value)} {QL : List Q3} {vO : Value} {tk dr : List Note} {nt : Note} {C C' : Nat → Prop} {δ : Nat → Value} {w w' : World} {v : Value}
theorem PhI.s6 {b:Nat} (I:PhI w0 Lb QL vO tk dr nt C δ w) (hC':∀ j,C' j↔j=6∨C j) (h7:¬ C 7) (h11:¬ C 11) (h12:¬ C 12) (hx:Ext w w') (hv:v=.slice (some ⟨b,0,none⟩) 1 1) (hr:Row w' b 80 (noteC nt)) (hb:w.heap.size≤b) (hlb:lk Lb 50=none) (hq:∀ t∈QL,t.1≠6∧t.2.1≠50):PhI w0 Lb QL vO tk dr nt C' (upd δ (some 50) v) w':=by
  have c:∀ j,j≠6→(C' j↔C j):=fun j hj=>⟨fun h=>((hC' j).1 h).resolve_left hj,fun h=>(hC' j).2 (.inr h)⟩
  subst hv
  have hap:∀ u:Value,(∀ b',u.ownBlock=some b'→b'<w.heap.size)→u.ownBlock≠(Value.slice (some ⟨b,0,none⟩) 1 1).ownBlock:=fun u hu e=>by
    have:=hu b e;omega
  refine⟨I.ext.trans hx,fun s u hs=>?_,?_,q_keep I.qs hC' (fun t ht h=>absurd h (hq t ht).1) (fun t ht _ e=>(hq t ht).2 (Option.some.inj e).symm),?_,?_,?_,?_,?_,?_,?_,?_⟩
  · rw [upd_ne (fun h=>by subst h;rw [hlb] at hs;cases hs)];exact I.bs s u hs
  · rw [upd_ne (by decide),c 12 (by decide)];exact I.s5
  · rw [c 0 (by decide),c 4 (by decide),upd_ne (by decide)];exact fun h1 h2=>own_ext (I.a0 h1 h2) hx
  · intro _ _;rw [upd_eq];exact⟨b,rfl,hr⟩
  · rw [c 0 (by decide),c 4 (by decide),upd_eq,upd_ne (by decide)]
    exact fun h1 h2 _=>hap _ fun b' e=>((I.a0 h1 h2).lt b' e).2
  · rw [c 4 (by decide),c 7 (by decide),upd_ne (by decide)];exact fun h1 h2=>own_ext (I.a4 h1 h2) hx
  · rw [c 4 (by decide),c 7 (by decide),upd_eq,upd_ne (by decide)]
    exact fun h1 h2 _=>hap _ fun b' e=>((I.a4 h1 h2).lt b' e).2
  · rw [c 7 (by decide)];exact fun h=>absurd h h7
  · rw [c 11 (by decide)];exact fun h=>absurd h h11
  · rw [c 12 (by decide)];exact fun h=>absurd h h12
theorem PhI.s4 (I:PhI w0 Lb QL vO tk dr nt C δ w) (hC':∀ j,C' j↔j=4∨C j) (h0:C 0) (h4:¬ C 4) (h7:¬ C 7) (h11:¬ C 11) (h12:¬ C 12) (hx:Ext w0 w') (hv:w'.ownsRow w0.heap.size 80 7 v tk.length (tk.map noteC).flatten) (hk:Kb (δ 44).ownBlock w w') (hb:v.ownBlock=(δ 44).ownBlock∨v.ownBlock=some w.heap.size) (hlb:lk Lb 48=none) (hq:∀ t∈QL,t.1≠4∧t.2.1≠48):PhI w0 Lb QL vO tk dr nt C' (upd δ (some 48) v) w':=by
  have c:∀ j,j≠4→(C' j↔C j):=fun j hj=>⟨fun h=>((hC' j).1 h).resolve_left hj,fun h=>(hC' j).2 (.inr h)⟩
  refine⟨hx,fun s u hs=>?_,?_,q_keep I.qs hC' (fun t ht h=>absurd h (hq t ht).1) (fun t ht _ e=>(hq t ht).2 (Option.some.inj e).symm),?_,?_,?_,?_,?_,?_,?_,?_⟩
  · rw [upd_ne (fun h=>by subst h;rw [hlb] at hs;cases hs)];exact I.bs s u hs
  · rw [upd_ne (by decide),c 12 (by decide)];exact I.s5
  · exact fun _ h=>absurd ((hC' 4).2 (.inl rfl)) h
  · rw [c 6 (by decide),c 7 (by decide),upd_ne (by decide)]
    intro h1 h2
    obtain⟨b,e1,e2⟩:=I.a6 h1 h2
    have:=I.n06 h0 h4 h1
    rw [e1] at this
    exact⟨b,e1,hk.row e2 (fun e=>this e.symm)⟩
  · exact fun _ h=>absurd ((hC' 4).2 (.inl rfl)) h
  · intro _ _;rw [upd_eq];exact hv
  · rw [c 6 (by decide),upd_eq,upd_ne (by decide)]
    intro _ _ h6 he
    have h1:=I.n06 h0 h4 h6
    obtain⟨b',e3,e4⟩:=I.a6 h6 h7
    rcases hb with hb|hb
    · exact h1 (hb.symm.trans he)
    · rw [hb,e3] at he
      have he':w.heap.size=b':=Option.some.inj he
      exact absurd e4.lt (by omega)
  · rw [c 7 (by decide)];exact fun h=>absurd h h7
  · rw [c 11 (by decide)];exact fun h=>absurd h h11
  · rw [c 12 (by decide)];exact fun h=>absurd h h12
theorem PhI.s7 (I:PhI w0 Lb QL vO tk dr nt C δ w) (hC':∀ j,C' j↔j=7∨C j) (h4:C 4) (h11:¬ C 11) (h12:¬ C 12) (hx:Ext w0 w') (hv:w'.ownsRow w0.heap.size 80 7 v (tk.length+1) ((tk.map noteC).flatten++noteC nt)) (hlb:lk Lb 51=none) (hq:∀ t∈QL,t.1≠7∧t.2.1≠51):PhI w0 Lb QL vO tk dr nt C' (upd δ (some 51) v) w':=by
  have c:∀ j,j≠7→(C' j↔C j):=fun j hj=>⟨fun h=>((hC' j).1 h).resolve_left hj,fun h=>(hC' j).2 (.inr h)⟩
  have h7':=(hC' 7).2 (.inl rfl)
  refine⟨hx,fun s u hs=>?_,?_,q_keep I.qs hC' (fun t ht h=>absurd h (hq t ht).1) (fun t ht _ e=>(hq t ht).2 (Option.some.inj e).symm),?_,?_,?_,?_,?_,?_,?_,?_⟩
  · rw [upd_ne (fun h=>by subst h;rw [hlb] at hs;cases hs)];exact I.bs s u hs
  · rw [upd_ne (by decide),c 12 (by decide)];exact I.s5
  · rw [c 4 (by decide)];exact fun _ h=>absurd h4 h
  · exact fun _ h=>absurd h7' h
  · rw [c 4 (by decide)];exact fun _ h=>absurd h4 h
  · exact fun _ h=>absurd h7' h
  · exact fun _ h=>absurd h7' h
  · intro _ _;rw [upd_eq];exact hv
  · rw [c 11 (by decide)];exact fun h=>absurd h h11
  · rw [c 12 (by decide)];exact fun h=>absurd h h12
end
end Go.Proofs.YtjicdgejhkgpgaaGreatDoor
namespace Go.Proofs.YtjicdgejhkgpgaaGreatDoor
open Go.RowKit Go.En
attribute [local irreducible] E EL K Val Enters Rt Calls bodyPost Code.wp RQ
end Go.Proofs.YtjicdgejhkgpgaaGreatDoor
