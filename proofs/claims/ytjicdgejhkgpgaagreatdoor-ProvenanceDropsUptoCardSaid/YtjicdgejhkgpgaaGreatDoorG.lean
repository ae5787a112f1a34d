/-
  Own text of the proof.
-/
import Derived.Test.YtjicdgejhkgpgaaGreatDoorYa
import Derived.ChangeArms
import Derived.SizedLaws
import Derived.Carry
import Derived.Maps.AppendAt
set_option linter.all false
namespace Go.En
open Go.RowKit
def AllAt {α β:Type} (R:α→β→Prop):List α→List β→Prop
  | [],[]=>True
  | a::as,c::cs=>R a c∧AllAt R as cs
  | _,_=>False
theorem AllAt.len {α β:Type} {R:α→β→Prop}:∀ {as:List α} {cs:List β},AllAt R as cs→as.length=cs.length
  | [],[],_=>rfl
  | _::_,_::_,h=>by simp [AllAt.len h.2]
  | [],_::_,h=>h.elim
  | _::_,[],h=>h.elim
theorem AllAt.mono {α β:Type} {R S:α→β→Prop} (hi:∀ a c,R a c→S a c):∀ {as:List α} {cs:List β},AllAt R as cs→AllAt S as cs
  | [],[],_=>trivial
  | _::_,_::_,h=>⟨hi _ _ h.1,AllAt.mono hi h.2⟩
  | [],_::_,h=>h.elim
  | _::_,[],h=>h.elim
theorem AllAt.get {α β:Type} {R:α→β→Prop}:∀ {as:List α} {cs:List β},AllAt R as cs→∀ {i:Nat} {a:α},as[i]?=some a→∃ c,cs[i]?=some c∧R a c
  | [],[],_,_,_,hi=>by simp at hi
  | _::_,c::_,h,0,_,hi=>by simp at hi;subst hi;exact⟨c,rfl,h.1⟩
  | _::_,_::_,h,i+1,_,hi=>by simpa using AllAt.get h.2 (by simpa using hi)
  | [],_::_,h,_,_,_=>h.elim
  | _::_,[],h,_,_,_=>h.elim
theorem AllAt.append {α β:Type} {R:α→β→Prop}:∀ {as as':List α} {cs cs':List β},AllAt R as cs→AllAt R as' cs'→AllAt R (as++as') (cs++cs')
  | [],_,[],_,_,h'=>h'
  | _::_,_,_::_,_,h,h'=>⟨h.1,AllAt.append h.2 h'⟩
  | [],_,_::_,_,h,_=>h.elim
  | _::_,_,[],_,h,_=>h.elim
theorem AllAt.take {α β:Type} {R:α→β→Prop}:∀ {as:List α} {cs:List β} (k:Nat),AllAt R as cs→AllAt R (as.take k) (cs.take k)
  | [],[],k,_=>by simp [AllAt]
  | _::_,_::_,0,_=>trivial
  | _::_,_::_,k+1,h=>⟨h.1,AllAt.take k h.2⟩
  | [],_::_,_,h=>h.elim
  | _::_,[],_,h=>h.elim
theorem AllAt.drop {α β:Type} {R:α→β→Prop}:∀ {as:List α} {cs:List β} (k:Nat),AllAt R as cs→AllAt R (as.drop k) (cs.drop k)
  | [],[],k,_=>by simp [AllAt]
  | _::_,_::_,0,h=>h
  | _::_,_::_,k+1,h=>AllAt.drop k h.2
  | [],_::_,_,h=>h.elim
  | _::_,[],_,h=>h.elim
theorem AllAt.set {α β:Type} {R:α→β→Prop} {a:α} {c:β} (h0:R a c):∀ {as:List α} {cs:List β} (k:Nat),AllAt R as cs→AllAt R (as.set k a) (cs.set k c)
  | [],[],k,_=>by simp [AllAt]
  | _::_,_::_,0,h=>⟨h0,h.2⟩
  | _::_,_::_,k+1,h=>⟨h.1,AllAt.set h0 k h.2⟩
  | [],_::_,_,h=>h.elim
  | _::_,[],_,h=>h.elim
theorem AllAt.one {α β:Type} {R:α→β→Prop} {a:α} {c:β} (h:R a c):AllAt R [a] [c]:=⟨h,trivial⟩
theorem AllAt.all {α β:Type} {R:α→β→Prop} {q:β→Prop} (hq:∀ a c,R a c→q c):∀ {as:List α} {cs:List β},AllAt R as cs→∀ c∈cs,q c
  | [],[],_,_,hc=>by simp at hc
  | _::_,_::_,h,c,hc=>by
    rcases List.mem_cons.1 hc with rfl|hc
    · exact hq _ _ h.1
    · exact AllAt.all hq h.2 c hc
  | [],_::_,h,_,_=>h.elim
  | _::_,[],h,_,_=>h.elim
class Rep (α:Type) where
  sz:Nat
  pos:0<sz
  at_:(Nat→Prop)→World→α→List Value→Prop
  len:∀ {G w a cs},at_ G w a cs→cs.length=sz
  one:∀ {G w a cs},at_ G w a cs→cs.all Value.oneCell'=true
  move:∀ {G G':Nat→Prop} {w w':World} {a cs},at_ G w a cs→(∀ b,G b→b<w.heap.size→G' b∧w'.heap[b]?=w.heap[b]?)→at_ G' w' a cs
abbrev Tt:Nat→Prop:=fun _=>True
theorem N0 {k:Nat}:∀ {css:List (List Value)},(∀ c∈css,c.length=k)→css.flatten.length=css.length*k
  | [],_=>by simp
  | c::css,h=>by simp [N0 (css:=css) (fun c hc=>h c (List.mem_cons_of_mem _ hc)),h c (List.mem_cons_self ..),Nat.add_mul];omega
theorem A1t {k:Nat}:∀ {css:List (List Value)} (i:Nat),(∀ c∈css,c.length=k)→(css.take i).flatten=css.flatten.take (i*k)
  | [],i,_=>by simp
  | c::css,0,_=>by simp
  | c::css,i+1,h=>by
    have hc:=h c (List.mem_cons_self ..)
    rw [List.take_succ_cons,List.flatten_cons,List.flatten_cons,A1t i (fun c hc=>h c (List.mem_cons_of_mem _ hc)),List.take_append,List.take_of_length_le (l:=c) (by rw [hc,Nat.add_mul];omega)]
    congr 2
    rw [hc,Nat.add_mul];omega
theorem Y8 {k:Nat}:∀ {css:List (List Value)} (i:Nat),(∀ c∈css,c.length=k)→(css.drop i).flatten=css.flatten.drop (i*k)
  | [],i,_=>by simp
  | c::css,0,_=>by simp
  | c::css,i+1,h=>by
    have hc:=h c (List.mem_cons_self ..)
    rw [List.drop_succ_cons,List.flatten_cons,Y8 i (fun c hc=>h c (List.mem_cons_of_mem _ hc)),List.drop_append,List.drop_eq_nil_of_le (as:=c) (by rw [hc,Nat.add_mul];omega),List.nil_append]
    congr 1
    rw [hc,Nat.add_mul];omega
variable {α : Type} [Rep α]
abbrev AtsG (G:Nat→Prop) (w:World) (xs:List α) (css:List (List Value)):Prop:=AllAt (Rep.at_ G w) xs css
abbrev Ats (w:World) (xs:List α) (css:List (List Value)):Prop:=AtsG Tt w xs css
theorem AtsG.lens {G:Nat→Prop} {w:World} {xs:List α} {css:List (List Value)} (h:AtsG G w xs css):∀ c∈css,c.length=Rep.sz α:=AllAt.all (fun _ _ h=>Rep.len h) h
theorem AtsG.flat {G:Nat→Prop} {w:World} {xs:List α} {css:List (List Value)} (h:AtsG G w xs css):css.flatten.length=xs.length*Rep.sz α:=by rw [N0 (AtsG.lens h),h.len]
theorem AtsG.move {G G':Nat→Prop} {w w':World} {xs:List α} {css:List (List Value)} (h:AtsG G w xs css) (hm:∀ b,G b→b<w.heap.size→G' b∧w'.heap[b]?=w.heap[b]?):AtsG G' w' xs css:=AllAt.mono (fun _ _ h=>Rep.move h hm) h
theorem Ext.mv {w w':World} (x:Ext w w') {G:Nat→Prop}:∀ b,G b→b<w.heap.size→G b∧w'.heap[b]?=w.heap[b]?:=fun _ hg hb=>⟨hg,x.block hb⟩
theorem AtsG.ext {G:Nat→Prop} {w w':World} {xs:List α} {css:List (List Value)} (h:AtsG G w xs css) (x:Ext w w'):AtsG G w' xs css:=AtsG.move h x.mv
theorem AtsG.ones {G:Nat→Prop} {w:World} {xs:List α} {css:List (List Value)} (h:AtsG G w xs css):css.flatten.all Value.oneCell'=true:=by
  rw [List.all_eq_true]
  intro v hv
  obtain⟨c,hc,hvc⟩:=List.mem_flatten.1 hv
  exact List.all_eq_true.1 (AllAt.all (fun _ _ h=>Rep.one h) h c hc) v hvc
def SlG (G:Nat→Prop) (w:World) (v:Value) (xs:List α):Prop:=
  ∃ a cap,v=.slice a xs.length cap∧xs.length≤cap∧xs.length≤140737488355328∧(0<xs.length→∃ b off,a=some ⟨b,off,none⟩∧G b∧∃ css,AtsG G w xs css∧At w b off css.flatten)
abbrev Sl (w:World) (v:Value) (xs:List α):Prop:=SlG Tt w v xs
theorem At.lt {w:World} {b off:Nat} {cs:List Value} (h:At w b off cs) (hp:0<cs.length):b<w.heap.size:=by
  obtain⟨v,hv⟩:∃ v,cs[0]?=some v:=⟨_,List.getElem?_eq_getElem hp⟩
  exact World.block_lt_of_cell? _ _ (h 0 v hv)
theorem At.same {w w':World} {b off:Nat} {cs:List Value} (h:At w b off cs) (hb:w'.heap[b]?=w.heap[b]?):At w' b off cs:=fun j v hv=>(World.cell?_of_block hb).trans (h j v hv)
theorem SlG.move {G G':Nat→Prop} {w w':World} {v:Value} {xs:List α} (h:SlG G w v xs) (hm:∀ b,G b→b<w.heap.size→G' b∧w'.heap[b]?=w.heap[b]?):SlG G' w' v xs:=by
  obtain⟨a,cap,hv,hc,hl,hp⟩:=h
  refine⟨a,cap,hv,hc,hl,fun h0=>?_⟩
  obtain⟨b,off,ha,hg,css,h1,h2⟩:=hp h0
  have hlt:=h2.lt (by rw [AtsG.flat h1];exact Nat.mul_pos h0 (Rep.pos))
  exact⟨b,off,ha,(hm b hg hlt).1,css,AtsG.move h1 hm,h2.same (hm b hg hlt).2⟩
theorem SlG.ext {G:Nat→Prop} {w w':World} {v:Value} {xs:List α} (h:SlG G w v xs) (x:Ext w w'):SlG G w' v xs:=h.move x.mv
theorem SlG.any {G:Nat→Prop} {w:World} {v:Value} {xs:List α} (h:SlG G w v xs):Sl w v xs:=h.move fun _ _ _=>⟨trivial,rfl⟩
theorem SlG.wk {G G':Nat→Prop} {w:World} {v:Value} {xs:List α} (h:SlG G w v xs) (hg:∀ b,G b→G' b):SlG G' w v xs:=h.move fun b h _=>⟨hg b h,rfl⟩
theorem AtsG.any {G:Nat→Prop} {w:World} {xs:List α} {css:List (List Value)} (h:AtsG G w xs css):Ats w xs css:=AtsG.move h fun _ _ _=>⟨trivial,rfl⟩
theorem AtsG.wk {G G':Nat→Prop} {w:World} {xs:List α} {css:List (List Value)} (h:AtsG G w xs css) (hg:∀ b,G b→G' b):AtsG G' w xs css:=AtsG.move h fun b h _=>⟨hg b h,rfl⟩
theorem Kb.mv {w w':World} {g:Option Nat} (k:Kb g w w') {G:Nat→Prop} (hg:∀ b,G b→some b≠g):∀ b,G b→b<w.heap.size→G b∧w'.heap[b]?=w.heap[b]?:=fun b h hb=>⟨h,World.grownBy.block k b hb (hg b h)⟩
def Nb (v:Value):Nat→Prop:=fun b=>some b≠v.ownBlock
theorem Nb.mv {w w':World} {v v':Value} (k:Kb v.ownBlock w w') (h:v'.ownBlock=v.ownBlock∨v'.ownBlock=some w.heap.size):∀ b,Nb v b→b<w.heap.size→Nb v' b∧w'.heap[b]?=w.heap[b]?:=fun b hb hlt=>by
  refine⟨?_,World.grownBy.block k b hlt hb⟩
  unfold Nb at*
  rcases h with h|h
  · rw [h];exact hb
  · rw [h];intro he;cases he;omega
theorem SlG.sl {G:Nat→Prop} {w:World} {v:Value} {xs:List α} (h:SlG G w v xs):∃ a cap,v=.slice a xs.length cap∧xs.length≤cap∧xs.length≤140737488355328∧(0<xs.length→∃ b off,a=some ⟨b,off,none⟩):=by
  obtain⟨a,cap,hv,hc,hm,hp⟩:=h
  refine⟨a,cap,hv,hc,hm,fun h0=>?_⟩
  obtain⟨b,off,ha,_⟩:=hp h0
  exact⟨b,off,ha⟩
theorem SlG.nil {G:Nat→Prop} {w:World}:SlG G w (.slice none 0 0) ([]:List α):=⟨none,0,rfl,Nat.le_refl _,by simp,fun h=>absurd h (by simp)⟩
theorem SlG.ats {G:Nat→Prop} {w:World} {b off n cap:Nat} {xs:List α} (h:SlG G w (.slice (some ⟨b,off,none⟩) n cap) xs) (hp:0<xs.length):G b∧∃ css,AtsG G w xs css∧At w b off css.flatten:=by
  obtain⟨a,cap',hv,hc,hm,hq⟩:=h
  obtain⟨b',off',ha,hg,css,h1,h2⟩:=hq hp
  cases hv
  cases ha
  exact⟨hg,css,h1,h2⟩
theorem At.seg {w:World} {b off:Nat} {cs:List Value} (h:At w b off cs) (k:Nat) {n:Nat}:At w b (off+k) ((cs.drop k).take n):=fun j v hv=>by
  have hj:j<n:=by
    have:=(List.getElem?_eq_some_iff.1 hv).1
    simp at this;omega
  rw [List.getElem?_take_of_lt hj,List.getElem?_drop] at hv
  rw [Nat.add_assoc]
  exact h _ _ hv
theorem SlG.css {G:Nat→Prop} {w:World} {a:Option Addr} {n cap:Nat} {xs:List α} (h:SlG G w (.slice a n cap) xs):∃ css,AtsG G w xs css∧(0<css.flatten.length→∃ b so,a=some ⟨b,so,none⟩∧G b∧At w b so css.flatten):=by
  by_cases h0:0<xs.length
  · obtain⟨a',cap',hv,_,_,hp⟩:=h
    cases hv
    obtain⟨b,off,rfl,hg,css,h1,h2⟩:=hp h0
    exact⟨css,h1,fun _=>⟨b,off,rfl,hg,h2⟩⟩
  · obtain rfl:xs=[]:=List.length_eq_zero_iff.1 (by omega)
    exact⟨[],trivial,fun h=>absurd h (by simp)⟩
theorem SlG.elem {G:Nat→Prop} {w:World} {b off n cap:Nat} {xs:List α} (h:SlG G w (.slice (some ⟨b,off,none⟩) n cap) xs) {i:Nat} {x:α} (hx:xs[i]?=some x):∃ cs,Rep.at_ G w x cs∧At w b (off+i*Rep.sz α) cs:=by
  have hi:i<xs.length:=(List.getElem?_eq_some_iff.1 hx).1
  obtain⟨_,css,h1,h2⟩:=h.ats (by omega)
  obtain⟨c,hc,hr⟩:=AllAt.get h1 hx
  refine⟨c,hr,?_⟩
  have hs:=h2.seg (i*Rep.sz α) (n:=Rep.sz α)
  have he:(css.flatten.drop (i*Rep.sz α)).take (Rep.sz α)=c:=by
    rw [← Y8 i (AtsG.lens h1)]
    obtain⟨hl,rfl⟩:=List.getElem?_eq_some_iff.1 hc
    rw [List.drop_eq_getElem_cons hl,List.flatten_cons,List.take_append_of_le_length (by rw [Rep.len hr];exact Nat.le_refl _),← Rep.len hr,List.take_length]
  rw [he] at hs
  exact hs
theorem L1 {G:Nat→Prop} {w:World} {B:Nat} {e:TypeId} {v:Value} {n:Nat} {xs:List α} {css:List (List Value)} (h:w.ownsRow B e (Rep.sz α) v n css.flatten) (hr:AtsG G w xs css) (hg:∀ b,B≤b→G b) (hn:n=xs.length) (hm:xs.length≤140737488355328):SlG G w v xs:=by
  subst hn
  rcases W0 h with⟨rfl,h0,_⟩|⟨b,cap,rfl,hc,hb,_,hat⟩
  · exact⟨none,0,by rw [h0],by omega,hm,fun h1=>by omega⟩
  · exact⟨_,cap,rfl,hc,hm,fun _=>⟨b,0,rfl,hg b hb,css,hr,hat⟩⟩
theorem N4 {w:World} {B:Nat} {e:TypeId} {v:Value} {n:Nat} {xs:List α} {css:List (List Value)} (h:w.ownsRow B e (Rep.sz α) v n css.flatten) (hr:Ats w xs css) (hn:n=xs.length) (hm:xs.length≤140737488355328):Sl w v xs:=L1 h hr (fun _ _=>trivial) hn hm
theorem G9 {G:Nat→Prop} {w:World} {b cap:Nat} {e:TypeId} {xs:List α} {css:List (List Value)} (h:Row w b e css.flatten) (hr:AtsG G w xs css) (hg:G b) (hc:xs.length≤cap) (hm:xs.length≤140737488355328):SlG G w (.slice (some ⟨b,0,none⟩) xs.length cap) xs:=
  ⟨_,cap,rfl,hc,hm,fun _=>⟨b,0,rfl,hg,css,hr,h.at⟩⟩
theorem R5 {w:World} {b cap:Nat} {e:TypeId} {xs:List α} {css:List (List Value)} (h:Row w b e css.flatten) (hr:Ats w xs css) (hc:xs.length≤cap) (hm:xs.length≤140737488355328):Sl w (.slice (some ⟨b,0,none⟩) xs.length cap) xs:=G9 h hr trivial hc hm
theorem SlG.take {G:Nat→Prop} {w:World} {a:Option Addr} {n cap k:Nat} {xs:List α} (h:SlG G w (.slice a n cap) xs) (hk:k≤xs.length):SlG G w (.slice a k cap) (xs.take k):=by
  obtain⟨a',cap',hv,hc,hm,hp⟩:=h
  cases hv
  have hl:(xs.take k).length=k:=by simp;omega
  refine⟨a,cap,by rw [hl],by omega,by omega,fun h0=>?_⟩
  obtain⟨b,off,ha,hg,css,h1,h2⟩:=hp (by omega)
  refine⟨b,off,ha,hg,css.take k,AllAt.take k h1,?_⟩
  rw [A1t k (AtsG.lens h1)]
  have:=h2.seg 0 (n:=k*Rep.sz α)
  simpa using this
theorem SlG.drop {G:Nat→Prop} {w:World} {a:Option Addr} {n cap k:Nat} {xs:List α} (h:SlG G w (.slice a n cap) xs) (hk:k≤xs.length):SlG G w (.slice (if cap=k then a else a.map (·.add (k*Rep.sz α))) (n-k) (cap-k)) (xs.drop k):=by
  obtain⟨a',cap',hv,hc,hm,hp⟩:=h
  cases hv
  have hl:(xs.drop k).length=xs.length-k:=by simp
  refine⟨_,cap-k,by rw [hl],by omega,by omega,fun h0=>?_⟩
  obtain⟨b,off,rfl,hg,css,h1,h2⟩:=hp (by omega)
  rw [if_neg (by omega),Option.map_some,D2]
  refine⟨b,_,rfl,hg,css.drop k,AllAt.drop k h1,?_⟩
  rw [Y8 k (AtsG.lens h1)]
  have:=h2.seg (k*Rep.sz α) (n:=css.flatten.length)
  rw [List.take_of_length_le (by simp)] at this
  exact this
instance:Rep Int where
  sz:=1
  pos:=by decide
  at_ _ _ z cs:=cs=[int z]
  len h:=by rw [h];rfl
  one h:=by rw [h];rfl
  move h _:=h
structure Txt where
  l:List UInt8
instance:DecidableEq Txt:=fun a b=>by
  cases a with|mk x=>cases b with|mk y=>
  exact decidable_of_iff (x=y) (by simp)
instance:Rep Txt where
  sz:=1
  pos:=by decide
  at_ _ _ t cs:=cs=[str t.l]
  len h:=by rw [h];rfl
  one h:=by rw [h];rfl
  move h _:=h
theorem D8 (ids:List Int):(ids.map fun z=>[int z]).flatten=ids.map int:=by induction ids with|nil=>rfl|cons z r ih=>simp [ih]
theorem H1 {G:Nat→Prop} (w:World):∀ ids:List Int,AtsG G w ids (ids.map fun z=>[int z])
  | []=>trivial
  | z::r=>⟨rfl,H1 w r⟩
theorem A3j {G:Nat→Prop} {w:World}:∀ {ids:List Int} {css:List (List Value)},AtsG G w ids css→css=ids.map fun z=>[int z]
  | [],[],_=>rfl
  | z::r,c::cs,h=>by rw [List.map_cons,← A3j (ids:=r) (css:=cs) h.2,← show c=[int z] from h.1]
  | [],_::_,h=>h.elim
  | _::_,[],h=>h.elim
theorem A7a (xs:List Int):(xs.map int).all Value.oneCell'=true:=by rw [← D8];exact AtsG.ones (H1 (G:=Tt) (Classical.choice ⟨default⟩) xs)
def Bd {H:Type} (P:Program) (t:TypeId) (d:DataW H):Prop:=(d.weights P t).all (·≤reachBytes)=true
class Opens (P:Program) (t:TypeId) (α:Type) [Rep α]:Prop where
  op:∀ {H:Type} {enc:TypeId × Value→H} {w:World} {sp:Nat→Bool} {held:Bool} {fuel:Nat} {cs:List Value} {x:DataW H × List MemPlace},DataW.trod enc P w 0 sp held fuel t cs=some x→Bd P t x.1→∃ a:α,Rep.at_ Tt w a cs
theorem C6d {w:World} {b off n:Nat} {cs:List Value} (h:w.cells? 0 ⟨b,off,none⟩ n=some cs):cs.length=n∧At w b off cs:=by
  unfold World.cells? at h
  rw [if_pos (Nat.zero_le _)] at h
  have hl:=mapM_some_length h
  simp at hl
  refine⟨hl,fun j v hv=>?_⟩
  have hj:=(List.getElem?_eq_some_iff.1 hv).1
  have hr:(List.range n)[j]?=some j:=List.getElem?_range (by omega)
  have:=mapM_some_get h j j hr
  rw [D2] at this
  rw [this,hv]
theorem At.join {w:World} {b off:Nat} {xs ys:List Value} (h1:At w b off xs) (h2:At w b (off+xs.length) ys):At w b off (xs++ys):=fun j v hv=>by
  by_cases hj:j<xs.length
  · rw [List.getElem?_append_left hj] at hv;exact h1 j v hv
  · rw [List.getElem?_append_right (by omega)] at hv
    have:=h2 _ _ hv
    rwa [show off+xs.length+(j-xs.length)=off+j by omega] at this
theorem cell_spot {w:World} {a:Addr} {v:Value} (h:w.cell? a=some v):a=⟨a.block,a.off,none⟩:=by
  unfold World.cell? at h
  cases a with|mk b off s=>
  split at h
  · cases s with
    | none=>rfl
    | some s=>simp at h
  · cases h
theorem Z8 {H:Type} {P:Program} {e:TypeId} {q:Nat→Bool}:∀ {ds:List (DataW H)},(DataW.weightsAll P e ds).all q=true→∀ d∈ds,(d.weights P e).all q=true
  | [],_,d,hd=>by simp at hd
  | x::r,h,d,hd=>by
    simp only [DataW.weightsAll,List.all_append,Bool.and_eq_true] at h
    rcases List.mem_cons.1 hd with rfl|hd
    · exact h.1
    · exact Z8 h.2 d hd
section
variable {P : Program} {n : Nat} {Q : Post} {L : List (Nat × Value)} {w : World} {ops : List Oper} {o : Oper} {rest : List Oper}
theorem A8m {w:World} {dT sT ty elem:TypeId} {g off dLen dCap:Nat} {a:Addr} {sLen sCap:Nat} {cur:List Value} {t:TypeId} {cs:List Value} {size:Nat} {i:TypeInfo}
    (hu:P.underlying dT=some (.slice elem)) (hi:P.info? elem=some i) (hs:i.size=size)
    (hg:w.heap[g]?=some (.cells cur.toArray t (0,0))) (hn:cs.length=Nat.min sLen dLen*size)
    (hsrc:∀ j v,cs[j]?=some v→w.cell? (a.add j)=some v) (hfit:off+cs.length≤cur.length) (h1:∀ v∈cs,v.oneCell'=true) :
    (Builtin.copy_ #[dT,sT] ty #[.slice (some ⟨g,off,none⟩) dLen dCap,.slice (some a) sLen sCap]).run P w=
      .ok (goInt (Nat.min sLen dLen)) (w.setRow g (cur.take off++cs++cur.drop (off+cs.length)).toArray):=by
  have hl:=run_loadCells_list (P:=P) w a cs hsrc
  have hst:=run_storeCells_at P g off t cs 0 cur.toArray w hg (by simpa using hfit) h1
  rw [hn] at hl
  simp only [Nat.add_zero] at hst
  simp [Builtin.copy_,run_underlying hu,Builtin.lenOf,Builtin.firstCells,sizeOf,typeInfo,hi,hs,hl,hst]
theorem A8l {w:World} {dT sT ty elem:TypeId} {dp sp:Option Addr} {dLen dCap sLen sCap:Nat} {i:TypeInfo}
    (hu:P.underlying dT=some (.slice elem)) (hi:P.info? elem=some i) (hn:Nat.min sLen dLen=0) :
    (Builtin.copy_ #[dT,sT] ty #[.slice dp dLen dCap,.slice sp sLen sCap]).run P w=.ok (goInt 0) w:=by
  have hl:∀ a:Addr,(loadCells a 0).run P w=.ok #[] w:=fun a=>run_loadCells_list (P:=P) w a [] (by simp)
  cases dp <;> cases sp <;> simp [Builtin.copy_,run_underlying hu,Builtin.lenOf,Builtin.firstCells,sizeOf,typeInfo,hi,hn,hl,storeCells]
theorem B2u {d:Nat} {dT sT e:TypeId} {x y:Operand} {z:Value} {size bytes:Nat} [ut:UT P dT (.slice e)] [ti:TI P e z size bytes] {dp sp:Option Addr} {dLen dCap sLen sCap g off:Nat} {cur cs:List Value} {w0:World}
    (hr:Row w g e cur) (x0:Ext w0 w) (hb:w0.heap.size≤g)
    (hg:gst ops L o=some true) (hd:odst n o.dst=some d) (ho:o.op=.call { callee:=.builtin .copy,args:=#[x,y],argTypes:=#[dT,sT] })
    (hx:ev L x=some (.slice dp dLen dCap)) (hy:ev L y=some (.slice sp sLen sCap)) {q:Nat} (hq:min sLen dLen=q) (hn:cs.length=q*size)
    (hpos:0<cs.length→dp=some ⟨g,off,none⟩∧∃ b so,sp=some ⟨b,so,none⟩∧At w b so cs) (hsz:0<size) (hfit:off+cs.length≤cur.length) (h1:cs.all Value.oneCell'=true)
    (k:∀ w',Row w' g e (cur.take off++cs++cur.drop (off+cs.length))→Ext w0 w'→Kb (some g) w w'→EL P n ops Q rest ((d,int (q:Nat))::L) w'):EL P n ops Q (o::rest) L w:=by
  obtain⟨i0,hi,hz0,hz1,hz2⟩:=info_parts ti.i
  have hq':Nat.min sLen dLen=q:=hq
  subst hq'
  by_cases h0:Nat.min sLen dLen=0
  · have hcs:cs=[]:=List.length_eq_zero_iff.1 (by rw [hn,h0,Nat.zero_mul])
    subst hcs
    have hrun:=A8l (P:=P) (w:=w) (dT:=dT) (sT:=sT) (ty:=o.type) (elem:=e) (dp:=dp) (sp:=sp) (dLen:=dLen) (dCap:=dCap) (sLen:=sLen) (sCap:=sCap) ut.u hi h0
    refine M0 (w':=w) hg hd (fun ρ ha=>?_) (h0▸k w (by simpa using hr) x0 (World.grownBy.refl _ _))
    have a1:=ha.ev (by rw [ho];simp [Op.operands,Call.operands]) hx
    have a2:=ha.ev (by rw [ho];simp [Op.operands,Call.operands]) hy
    simp only [execOp,ho,resolve,invoke,builtin,Sem.run_bind,Sem.run_pure,Result.andThen_ok,List.map_toArray,List.map_cons,List.map_nil,a1,a2,hrun]
    simp [goInt,h0]
  · have hp:0<cs.length:=by rw [hn];exact Nat.mul_pos (Nat.pos_of_ne_zero h0) hsz
    obtain⟨rfl,b,so,rfl,hat⟩:=hpos hp
    have hrun:=A8m (P:=P) (w:=w) (dT:=dT) (sT:=sT) (ty:=o.type) (elem:=e) (g:=g) (off:=off) (dLen:=dLen) (dCap:=dCap) (a:=⟨b,so,none⟩) (sLen:=sLen) (sCap:=sCap) (cs:=cs) (size:=size) ut.u hi hz1
      (show w.heap[g]?=some (.cells cur.toArray e (0,0)) from hr) hn (fun j v hv=>by rw [D2];exact hat j v hv) hfit (fun v hv=>List.all_eq_true.1 h1 v hv)
    have hkb:Kb (some g) w (w.setRow g (cur.take off++cs++cur.drop (off+cs.length)).toArray):=⟨rfl,rfl,rfl,by simp,fun k hk hne=>setRow_other w g k _ (fun e=>hne (by rw [e]))⟩
    refine M0 (w':=w.setRow g (cur.take off++cs++cur.drop (off+cs.length)).toArray) hg hd (fun ρ ha=>?_) (k _ (setRow_heap w g cur.toArray _ e (0,0) hr) (hkb.ext x0 fun b' hb'=>by cases hb';exact hb) hkb)
    have a1:=ha.ev (by rw [ho];simp [Op.operands,Call.operands]) hx
    have a2:=ha.ev (by rw [ho];simp [Op.operands,Call.operands]) hy
    simp only [execOp,ho,resolve,invoke,builtin,Sem.run_bind,Sem.run_pure,Result.andThen_ok,List.map_toArray,List.map_cons,List.map_nil,a1,a2,hrun]
    rfl
theorem B7 {t:TypeId} {x y:Operand} {v z:Value} {size bytes:Nat} {b off:Nat} {e:TypeId} {cur cs:List Value} [TI P t z size bytes] {w0:World} (hr:Row w b e cur) (x0:Ext w0 w) (hb:w0.heap.size≤b)
    (hg:gst ops L o=some true) (hd:o.dst=none) (ho:o.op=.store t x y)
    (hx:ev L x=some (.pointer (some ⟨b,off,none⟩))) (hy:ev L y=some v) (hc:v.cells.toList=cs) (hs:Nat.beq cs.length size=true) (h1:cs.all Value.oneCell'=true) (hl:off+cs.length≤cur.length)
    (k:∀ w',Row w' b e (cur.take off++cs++cur.drop (off+cs.length))→Ext w0 w'→Kb (some b) w w'→EL P n ops Q rest L w'):EL P n ops Q (o::rest) L w:=by
  have e1:=Nat.eq_of_beq_eq_true hs
  have hsz:v.cells.size=size:=by rw [← e1,← hc,Array.length_toList]
  refine J0 hg hd ho hx hy hsz (by rw [hc];exact h1) hr (by omega) fun w' h2 h3 _=>k w' ?_ (h3.ext x0 fun b' hb'=>by cases hb';exact hb) h3
  rw [hc,← e1] at h2
  exact h2
theorem EL_makeN {d:Nat} {t e:TypeId} {x y:Operand} {z:Value} {size bytes:Nat} [ut:UT P t (.slice e)] [ti:TI P e z size bytes] (hg:gst ops L o=some true) (hd:odst n o.dst=some d) (ho:o.op=.makeSlice t x y)
    {k1 k2:IntKind} {zx zy:Int} {m:Nat} (hx:ev L x=some (.int k1 zx)) (hy:ev L y=some (.int k2 zy)) (hzx:zx=(m:Int)) (hzy:zy=(m:Int)) (hmax:bytes*m≤281474976710656) (hmax':m≤9223372036854775807)
    (k:∀ b w' cur,b=w.heap.size→Row w' b e cur→cur.length=m*size→Ext w w'→EL P n ops Q rest ((d,.slice (some ⟨b,0,none⟩) m m)::L) w'):EL P n ops Q (o::rest) L w:=
  A3l hg hd ho hx hy hzx hzy hmax hmax' fun b w' hb hown hx'=>k b w' _ hb (B9v hown) hown.1 hx'
theorem V0 {P:Program} {w:World} {base:Nat} {t ty e:TypeId} {i:TypeInfo} {size c:Nat} (ht:P.underlying t=some (.slice e)) (hi:P.info? e=some i)
    {v:Value} {n:Nat} {xs:List Value} (hown:w.ownsRow base e size v n xs) :
    (Builtin.append_ #[t,t] ty #[v,.slice none 0 c]).run P w=.ok v w:=by
  rcases hown.2 with⟨rfl,rfl⟩|⟨g,cap,cur,rfl,_,_,hnc,_⟩
  · simp [Builtin.append_,run_underlying ht,sizeOf,typeInfo,hi,Builtin.lenOf,Builtin.firstCells]
  · simp [Builtin.append_,run_underlying ht,sizeOf,typeInfo,hi,Builtin.lenOf,Builtin.firstCells,hnc,storeCells]
theorem D5 {d : Nat} {t e : TypeId} {s x : Operand} {z : Value} {size bytes : Nat} [ut : UT P t (.slice e)] [ti : TI P e z size bytes] {v : Value} {w0 : World} {m : Nat} {xs : List Value} {a : Option Addr} {q c : Nat} {news : List Value}
    (hown:w.ownsRow w0.heap.size e size v m xs) (x0:Ext w0 w) (hnews:0<q→∃ b off,a=some ⟨b,off,none⟩∧At w b off news) (hg:gst ops L o=some true) (hd:odst n o.dst=some d) (ho:o.op=.call { callee:=.builtin .append,args:=#[s,x],argTypes:=#[t,t] })
    (hs:ev L s=some v) (hx:ev L x=some (.slice a q c)) (hl:news.length=q*size)
    (h1:news.all Value.oneCell'=true) (hz:z.cells.size=size) (hsz:Nat.ble 1 size=true) (hmax:(m+q)*bytes≤140737488355328) (hmax':m+q≤9223372036854775807)
    (k:∀ v' w',w'.ownsRow w0.heap.size e size v' (m+q) (xs++news)→Ext w0 w'→Kb v.ownBlock w w'→(v'.ownBlock=v.ownBlock∨v'.ownBlock=some w.heap.size)→EL P n ops Q rest ((d,v')::L) w'):EL P n ops Q (o::rest) L w:=by
  obtain⟨i0,hi,hz0,hz1,hz2⟩:=info_parts ti.i
  cases a with
  | none=>
    have hq:q=0:=by
      by_cases h0:0<q
      · obtain⟨_,_,e1,_⟩:=hnews h0;cases e1
      · omega
    subst hq
    obtain rfl:news=[]:=List.length_eq_zero_iff.1 (by rw [hl,Nat.zero_mul])
    have hr:=V0 (P:=P) (w:=w) (ty:=o.type) (c:=c) ut.u hi hown
    refine M0 (w':=w) hg hd (fun ρ ha=>?_) (k v w (by simpa using hown) x0 (World.grownBy.refl _ _) (.inl rfl))
    have a1:=ha.ev (by rw [ho];simp [Op.operands,Call.operands]) hs
    have a2:=ha.ev (by rw [ho];simp [Op.operands,Call.operands]) hx
    simp only [execOp,ho,resolve,invoke,builtin,Sem.run_bind,Sem.run_pure,Result.andThen_ok,List.map_toArray,List.map_cons,List.map_nil,a1,a2,hr]
  | some ad=>
    have hat:∀ j u,news[j]?=some u→w.cell? (ad.add j)=some u:=by
      by_cases h0:0<q
      · obtain⟨b,off,e1,hat⟩:=hnews h0
        cases e1
        exact fun j u hu=>by rw [D2];exact hat j u hu
      · obtain rfl:news=[]:=List.length_eq_zero_iff.1 (by rw [hl,show q=0 by omega,Nat.zero_mul])
        exact fun j u hu=>by simp at hu
    obtain⟨v',w',hr,h2,h3,_,h4⟩:=run_append_own_at (P:=P) (w:=w) (ty:=o.type) w0.heap.size t e i0 z size bytes ut.u hi hz0 hz1 hz2 hz (Nat.le_of_ble_eq_true hsz) v m xs hown ad q c news hl hat
      (fun u hu=>List.all_eq_true.1 h1 u hu) (by unfold maxLen;omega) hmax x0.size
    refine M0 hg hd (fun ρ ha=>?_) (k v' w' h2 (O3 hown x0 h3) h3 h4)
    have a1:=ha.ev (by rw [ho];simp [Op.operands,Call.operands]) hs
    have a2:=ha.ev (by rw [ho];simp [Op.operands,Call.operands]) hx
    simp only [execOp,ho,resolve,invoke,builtin,Sem.run_bind,Sem.run_pure,Result.andThen_ok,List.map_toArray,List.map_cons,List.map_nil,a1,a2,hr]
end
end Go.En
