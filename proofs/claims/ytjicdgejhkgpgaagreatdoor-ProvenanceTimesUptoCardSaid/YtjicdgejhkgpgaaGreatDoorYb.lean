/-
  Own text of the proof.
-/
import Derived.Test.YtjicdgejhkgpgaaGreatDoorYa
import Derived.ChangeArms
import Derived.SizedLaws
import Derived.Carry
import Derived.Maps.AppendAt
set_option linter.all false
namespace Go.En
open Go.RowKit
def AllAt {α β:Type} (R:α→β→Prop):List α→List β→Prop
  | [],[]=>True
  | a::as,c::cs=>R a c∧AllAt R as cs
  | _,_=>False
theorem AllAt.len {α β:Type} {R:α→β→Prop}:∀ {as:List α} {cs:List β},AllAt R as cs→as.length=cs.length
  | [],[],_=>rfl
  | _::_,_::_,h=>by simp [AllAt.len h.2]
  | [],_::_,h=>h.elim
  | _::_,[],h=>h.elim
theorem AllAt.mono {α β:Type} {R S:α→β→Prop} (hi:∀ a c,R a c→S a c):∀ {as:List α} {cs:List β},AllAt R as cs→AllAt S as cs
  | [],[],_=>trivial
  | _::_,_::_,h=>⟨hi _ _ h.1,AllAt.mono hi h.2⟩
  | [],_::_,h=>h.elim
  | _::_,[],h=>h.elim
theorem AllAt.get {α β:Type} {R:α→β→Prop}:∀ {as:List α} {cs:List β},AllAt R as cs→∀ {i:Nat} {a:α},as[i]?=some a→∃ c,cs[i]?=some c∧R a c
  | [],[],_,_,_,hi=>by simp at hi
  | _::_,c::_,h,0,_,hi=>by simp at hi;subst hi;exact⟨c,rfl,h.1⟩
  | _::_,_::_,h,i+1,_,hi=>by simpa using AllAt.get h.2 (by simpa using hi)
  | [],_::_,h,_,_,_=>h.elim
  | _::_,[],h,_,_,_=>h.elim
theorem AllAt.append {α β:Type} {R:α→β→Prop}:∀ {as as':List α} {cs cs':List β},AllAt R as cs→AllAt R as' cs'→AllAt R (as++as') (cs++cs')
  | [],_,[],_,_,h'=>h'
  | _::_,_,_::_,_,h,h'=>⟨h.1,AllAt.append h.2 h'⟩
  | [],_,_::_,_,h,_=>h.elim
  | _::_,_,[],_,h,_=>h.elim
theorem AllAt.take {α β:Type} {R:α→β→Prop}:∀ {as:List α} {cs:List β} (k:Nat),AllAt R as cs→AllAt R (as.take k) (cs.take k)
  | [],[],k,_=>by simp [AllAt]
  | _::_,_::_,0,_=>trivial
  | _::_,_::_,k+1,h=>⟨h.1,AllAt.take k h.2⟩
  | [],_::_,_,h=>h.elim
  | _::_,[],_,h=>h.elim
theorem AllAt.drop {α β:Type} {R:α→β→Prop}:∀ {as:List α} {cs:List β} (k:Nat),AllAt R as cs→AllAt R (as.drop k) (cs.drop k)
  | [],[],k,_=>by simp [AllAt]
  | _::_,_::_,0,h=>h
  | _::_,_::_,k+1,h=>AllAt.drop k h.2
  | [],_::_,_,h=>h.elim
  | _::_,[],_,h=>h.elim
theorem AllAt.one {α β:Type} {R:α→β→Prop} {a:α} {c:β} (h:R a c):AllAt R [a] [c]:=⟨h,trivial⟩
theorem AllAt.all {α β:Type} {R:α→β→Prop} {q:β→Prop} (hq:∀ a c,R a c→q c):∀ {as:List α} {cs:List β},AllAt R as cs→∀ c∈cs,q c
  | [],[],_,_,hc=>by simp at hc
  | _::_,_::_,h,c,hc=>by
    rcases List.mem_cons.1 hc with rfl|hc
    · exact hq _ _ h.1
    · exact AllAt.all hq h.2 c hc
  | [],_::_,h,_,_=>h.elim
  | _::_,[],h,_,_=>h.elim
class Rep (α:Type) where
  sz:Nat
  pos:0<sz
  at_:(Nat→Prop)→World→α→List Value→Prop
  len:∀ {G w a cs},at_ G w a cs→cs.length=sz
  one:∀ {G w a cs},at_ G w a cs→cs.all Value.oneCell'=true
  move:∀ {G G':Nat→Prop} {w w':World} {a cs},at_ G w a cs→(∀ b,G b→b<w.heap.size→G' b∧w'.heap[b]?=w.heap[b]?)→at_ G' w' a cs
abbrev Tt:Nat→Prop:=fun _=>True
theorem F5 {k:Nat}:∀ {css:List (List Value)},(∀ c∈css,c.length=k)→css.flatten.length=css.length*k
  | [],_=>by simp
  | c::css,h=>by simp [F5 (css:=css) (fun c hc=>h c (List.mem_cons_of_mem _ hc)),h c (List.mem_cons_self ..),Nat.add_mul];omega
theorem Po {k:Nat}:∀ {css:List (List Value)} (i:Nat),(∀ c∈css,c.length=k)→(css.take i).flatten=css.flatten.take (i*k)
  | [],i,_=>by simp
  | c::css,0,_=>by simp
  | c::css,i+1,h=>by
    have hc:=h c (List.mem_cons_self ..)
    rw [List.take_succ_cons,List.flatten_cons,List.flatten_cons,Po i (fun c hc=>h c (List.mem_cons_of_mem _ hc)),List.take_append,List.take_of_length_le (l:=c) (by rw [hc,Nat.add_mul];omega)]
    congr 2
    rw [hc,Nat.add_mul];omega
theorem Kn {k:Nat}:∀ {css:List (List Value)} (i:Nat),(∀ c∈css,c.length=k)→(css.drop i).flatten=css.flatten.drop (i*k)
  | [],i,_=>by simp
  | c::css,0,_=>by simp
  | c::css,i+1,h=>by
    have hc:=h c (List.mem_cons_self ..)
    rw [List.drop_succ_cons,List.flatten_cons,Kn i (fun c hc=>h c (List.mem_cons_of_mem _ hc)),List.drop_append,List.drop_eq_nil_of_le (as:=c) (by rw [hc,Nat.add_mul];omega),List.nil_append]
    congr 1
    rw [hc,Nat.add_mul];omega
variable {α : Type} [Rep α]
abbrev AtsG (G:Nat→Prop) (w:World) (xs:List α) (css:List (List Value)):Prop:=AllAt (Rep.at_ G w) xs css
abbrev Ats (w:World) (xs:List α) (css:List (List Value)):Prop:=AtsG Tt w xs css
theorem AtsG.lens {G:Nat→Prop} {w:World} {xs:List α} {css:List (List Value)} (h:AtsG G w xs css):∀ c∈css,c.length=Rep.sz α:=AllAt.all (fun _ _ h=>Rep.len h) h
theorem AtsG.flat {G:Nat→Prop} {w:World} {xs:List α} {css:List (List Value)} (h:AtsG G w xs css):css.flatten.length=xs.length*Rep.sz α:=by rw [F5 (AtsG.lens h),h.len]
theorem AtsG.move {G G':Nat→Prop} {w w':World} {xs:List α} {css:List (List Value)} (h:AtsG G w xs css) (hm:∀ b,G b→b<w.heap.size→G' b∧w'.heap[b]?=w.heap[b]?):AtsG G' w' xs css:=AllAt.mono (fun _ _ h=>Rep.move h hm) h
theorem Ext.mv {w w':World} (x:Ext w w') {G:Nat→Prop}:∀ b,G b→b<w.heap.size→G b∧w'.heap[b]?=w.heap[b]?:=fun _ hg hb=>⟨hg,x.block hb⟩
theorem AtsG.ext {G:Nat→Prop} {w w':World} {xs:List α} {css:List (List Value)} (h:AtsG G w xs css) (x:Ext w w'):AtsG G w' xs css:=AtsG.move h x.mv
theorem AtsG.ones {G:Nat→Prop} {w:World} {xs:List α} {css:List (List Value)} (h:AtsG G w xs css):css.flatten.all Value.oneCell'=true:=by
  rw [List.all_eq_true]
  intro v hv
  obtain⟨c,hc,hvc⟩:=List.mem_flatten.1 hv
  exact List.all_eq_true.1 (AllAt.all (fun _ _ h=>Rep.one h) h c hc) v hvc
def SlG (G:Nat→Prop) (w:World) (v:Value) (xs:List α):Prop:=
  ∃ a cap,v=.slice a xs.length cap∧xs.length≤cap∧xs.length≤140737488355328∧(0<xs.length→∃ b off,a=some ⟨b,off,none⟩∧G b∧∃ css,AtsG G w xs css∧At w b off css.flatten)
abbrev Sl (w:World) (v:Value) (xs:List α):Prop:=SlG Tt w v xs
theorem At.lt {w:World} {b off:Nat} {cs:List Value} (h:At w b off cs) (hp:0<cs.length):b<w.heap.size:=by
  obtain⟨v,hv⟩:∃ v,cs[0]?=some v:=⟨_,List.getElem?_eq_getElem hp⟩
  exact World.block_lt_of_cell? _ _ (h 0 v hv)
theorem At.same {w w':World} {b off:Nat} {cs:List Value} (h:At w b off cs) (hb:w'.heap[b]?=w.heap[b]?):At w' b off cs:=fun j v hv=>(World.cell?_of_block hb).trans (h j v hv)
theorem SlG.move {G G':Nat→Prop} {w w':World} {v:Value} {xs:List α} (h:SlG G w v xs) (hm:∀ b,G b→b<w.heap.size→G' b∧w'.heap[b]?=w.heap[b]?):SlG G' w' v xs:=by
  obtain⟨a,cap,hv,hc,hl,hp⟩:=h
  refine⟨a,cap,hv,hc,hl,fun h0=>?_⟩
  obtain⟨b,off,ha,hg,css,h1,h2⟩:=hp h0
  have hlt:=h2.lt (by rw [AtsG.flat h1];exact Nat.mul_pos h0 (Rep.pos))
  exact⟨b,off,ha,(hm b hg hlt).1,css,AtsG.move h1 hm,h2.same (hm b hg hlt).2⟩
theorem SlG.ext {G:Nat→Prop} {w w':World} {v:Value} {xs:List α} (h:SlG G w v xs) (x:Ext w w'):SlG G w' v xs:=h.move x.mv
theorem SlG.any {G:Nat→Prop} {w:World} {v:Value} {xs:List α} (h:SlG G w v xs):Sl w v xs:=h.move fun _ _ _=>⟨trivial,rfl⟩
theorem SlG.wk {G G':Nat→Prop} {w:World} {v:Value} {xs:List α} (h:SlG G w v xs) (hg:∀ b,G b→G' b):SlG G' w v xs:=h.move fun b h _=>⟨hg b h,rfl⟩
theorem AtsG.any {G:Nat→Prop} {w:World} {xs:List α} {css:List (List Value)} (h:AtsG G w xs css):Ats w xs css:=AtsG.move h fun _ _ _=>⟨trivial,rfl⟩
theorem AtsG.wk {G G':Nat→Prop} {w:World} {xs:List α} {css:List (List Value)} (h:AtsG G w xs css) (hg:∀ b,G b→G' b):AtsG G' w xs css:=AtsG.move h fun b h _=>⟨hg b h,rfl⟩
theorem Kb.mv {w w':World} {g:Option Nat} (k:Kb g w w') {G:Nat→Prop} (hg:∀ b,G b→some b≠g):∀ b,G b→b<w.heap.size→G b∧w'.heap[b]?=w.heap[b]?:=fun b h hb=>⟨h,World.grownBy.block k b hb (hg b h)⟩
def Nb (v:Value):Nat→Prop:=fun b=>some b≠v.ownBlock
theorem Nb.mv {w w':World} {v v':Value} (k:Kb v.ownBlock w w') (h:v'.ownBlock=v.ownBlock∨v'.ownBlock=some w.heap.size):∀ b,Nb v b→b<w.heap.size→Nb v' b∧w'.heap[b]?=w.heap[b]?:=fun b hb hlt=>by
  refine⟨?_,World.grownBy.block k b hlt hb⟩
  unfold Nb at*
  rcases h with h|h
  · rw [h];exact hb
  · rw [h];intro he;cases he;omega
theorem SlG.sl {G:Nat→Prop} {w:World} {v:Value} {xs:List α} (h:SlG G w v xs):∃ a cap,v=.slice a xs.length cap∧xs.length≤cap∧xs.length≤140737488355328∧(0<xs.length→∃ b off,a=some ⟨b,off,none⟩):=by
  obtain⟨a,cap,hv,hc,hm,hp⟩:=h
  refine⟨a,cap,hv,hc,hm,fun h0=>?_⟩
  obtain⟨b,off,ha,_⟩:=hp h0
  exact⟨b,off,ha⟩
theorem SlG.nil {G:Nat→Prop} {w:World}:SlG G w (.slice none 0 0) ([]:List α):=⟨none,0,rfl,Nat.le_refl _,by simp,fun h=>absurd h (by simp)⟩
theorem SlG.ats {G:Nat→Prop} {w:World} {b off n cap:Nat} {xs:List α} (h:SlG G w (.slice (some ⟨b,off,none⟩) n cap) xs) (hp:0<xs.length):G b∧∃ css,AtsG G w xs css∧At w b off css.flatten:=by
  obtain⟨a,cap',hv,hc,hm,hq⟩:=h
  obtain⟨b',off',ha,hg,css,h1,h2⟩:=hq hp
  cases hv
  cases ha
  exact⟨hg,css,h1,h2⟩
theorem At.seg {w:World} {b off:Nat} {cs:List Value} (h:At w b off cs) (k:Nat) {n:Nat}:At w b (off+k) ((cs.drop k).take n):=fun j v hv=>by
  have hj:j<n:=by
    have:=(List.getElem?_eq_some_iff.1 hv).1
    simp at this;omega
  rw [List.getElem?_take_of_lt hj,List.getElem?_drop] at hv
  rw [Nat.add_assoc]
  exact h _ _ hv
theorem SlG.css {G:Nat→Prop} {w:World} {a:Option Addr} {n cap:Nat} {xs:List α} (h:SlG G w (.slice a n cap) xs):∃ css,AtsG G w xs css∧(0<css.flatten.length→∃ b so,a=some ⟨b,so,none⟩∧G b∧At w b so css.flatten):=by
  by_cases h0:0<xs.length
  · obtain⟨a',cap',hv,_,_,hp⟩:=h
    cases hv
    obtain⟨b,off,rfl,hg,css,h1,h2⟩:=hp h0
    exact⟨css,h1,fun _=>⟨b,off,rfl,hg,h2⟩⟩
  · obtain rfl:xs=[]:=List.length_eq_zero_iff.1 (by omega)
    exact⟨[],trivial,fun h=>absurd h (by simp)⟩
theorem SlG.elem {G:Nat→Prop} {w:World} {b off n cap:Nat} {xs:List α} (h:SlG G w (.slice (some ⟨b,off,none⟩) n cap) xs) {i:Nat} {x:α} (hx:xs[i]?=some x):∃ cs,Rep.at_ G w x cs∧At w b (off+i*Rep.sz α) cs:=by
  have hi:i<xs.length:=(List.getElem?_eq_some_iff.1 hx).1
  obtain⟨_,css,h1,h2⟩:=h.ats (by omega)
  obtain⟨c,hc,hr⟩:=AllAt.get h1 hx
  refine⟨c,hr,?_⟩
  have hs:=h2.seg (i*Rep.sz α) (n:=Rep.sz α)
  have he:(css.flatten.drop (i*Rep.sz α)).take (Rep.sz α)=c:=by
    rw [← Kn i (AtsG.lens h1)]
    obtain⟨hl,rfl⟩:=List.getElem?_eq_some_iff.1 hc
    rw [List.drop_eq_getElem_cons hl,List.flatten_cons,List.take_append_of_le_length (by rw [Rep.len hr];exact Nat.le_refl _),← Rep.len hr,List.take_length]
  rw [he] at hs
  exact hs
theorem C5 {G:Nat→Prop} {w:World} {B:Nat} {e:TypeId} {v:Value} {n:Nat} {xs:List α} {css:List (List Value)} (h:w.ownsRow B e (Rep.sz α) v n css.flatten) (hr:AtsG G w xs css) (hg:∀ b,B≤b→G b) (hn:n=xs.length) (hm:xs.length≤140737488355328):SlG G w v xs:=by
  subst hn
  rcases Dl h with⟨rfl,h0,_⟩|⟨b,cap,rfl,hc,hb,_,hat⟩
  · exact⟨none,0,by rw [h0],by omega,hm,fun h1=>by omega⟩
  · exact⟨_,cap,rfl,hc,hm,fun _=>⟨b,0,rfl,hg b hb,css,hr,hat⟩⟩
theorem Ce {w:World} {B:Nat} {e:TypeId} {v:Value} {n:Nat} {xs:List α} {css:List (List Value)} (h:w.ownsRow B e (Rep.sz α) v n css.flatten) (hr:Ats w xs css) (hn:n=xs.length) (hm:xs.length≤140737488355328):Sl w v xs:=C5 h hr (fun _ _=>trivial) hn hm
theorem Bt {G:Nat→Prop} {w:World} {b cap:Nat} {e:TypeId} {xs:List α} {css:List (List Value)} (h:Row w b e css.flatten) (hr:AtsG G w xs css) (hg:G b) (hc:xs.length≤cap) (hm:xs.length≤140737488355328):SlG G w (.slice (some ⟨b,0,none⟩) xs.length cap) xs:=
  ⟨_,cap,rfl,hc,hm,fun _=>⟨b,0,rfl,hg,css,hr,h.at⟩⟩
theorem Gb {w:World} {b cap:Nat} {e:TypeId} {xs:List α} {css:List (List Value)} (h:Row w b e css.flatten) (hr:Ats w xs css) (hc:xs.length≤cap) (hm:xs.length≤140737488355328):Sl w (.slice (some ⟨b,0,none⟩) xs.length cap) xs:=Bt h hr trivial hc hm
theorem SlG.take {G:Nat→Prop} {w:World} {a:Option Addr} {n cap k:Nat} {xs:List α} (h:SlG G w (.slice a n cap) xs) (hk:k≤xs.length):SlG G w (.slice a k cap) (xs.take k):=by
  obtain⟨a',cap',hv,hc,hm,hp⟩:=h
  cases hv
  have hl:(xs.take k).length=k:=by simp;omega
  refine⟨a,cap,by rw [hl],by omega,by omega,fun h0=>?_⟩
  obtain⟨b,off,ha,hg,css,h1,h2⟩:=hp (by omega)
  refine⟨b,off,ha,hg,css.take k,AllAt.take k h1,?_⟩
  rw [Po k (AtsG.lens h1)]
  have:=h2.seg 0 (n:=k*Rep.sz α)
  simpa using this
theorem SlG.drop {G:Nat→Prop} {w:World} {a:Option Addr} {n cap k:Nat} {xs:List α} (h:SlG G w (.slice a n cap) xs) (hk:k≤xs.length):SlG G w (.slice (if cap=k then a else a.map (·.add (k*Rep.sz α))) (n-k) (cap-k)) (xs.drop k):=by
  obtain⟨a',cap',hv,hc,hm,hp⟩:=h
  cases hv
  have hl:(xs.drop k).length=xs.length-k:=by simp
  refine⟨_,cap-k,by rw [hl],by omega,by omega,fun h0=>?_⟩
  obtain⟨b,off,rfl,hg,css,h1,h2⟩:=hp (by omega)
  rw [if_neg (by omega),Option.map_some,B7]
  refine⟨b,_,rfl,hg,css.drop k,AllAt.drop k h1,?_⟩
  rw [Kn k (AtsG.lens h1)]
  have:=h2.seg (k*Rep.sz α) (n:=css.flatten.length)
  rw [List.take_of_length_le (by simp)] at this
  exact this
instance:Rep Int where
  sz:=1
  pos:=by decide
  at_ _ _ z cs:=cs=[int z]
  len h:=by rw [h];rfl
  one h:=by rw [h];rfl
  move h _:=h
structure Txt where
  l:List UInt8
instance:DecidableEq Txt:=fun a b=>by
  cases a with|mk x=>cases b with|mk y=>
  exact decidable_of_iff (x=y) (by simp)
instance:Rep Txt where
  sz:=1
  pos:=by decide
  at_ _ _ t cs:=cs=[str t.l]
  len h:=by rw [h];rfl
  one h:=by rw [h];rfl
  move h _:=h
theorem Av (ids:List Int):(ids.map fun z=>[int z]).flatten=ids.map int:=by induction ids with|nil=>rfl|cons z r ih=>simp [ih]
theorem B4 {G:Nat→Prop} (w:World):∀ ids:List Int,AtsG G w ids (ids.map fun z=>[int z])
  | []=>trivial
  | z::r=>⟨rfl,B4 w r⟩
theorem Hq {G:Nat→Prop} {w:World}:∀ {ids:List Int} {css:List (List Value)},AtsG G w ids css→css=ids.map fun z=>[int z]
  | [],[],_=>rfl
  | z::r,c::cs,h=>by rw [List.map_cons,← Hq (ids:=r) (css:=cs) h.2,← show c=[int z] from h.1]
  | [],_::_,h=>h.elim
  | _::_,[],h=>h.elim
theorem Pf (xs:List Int):(xs.map int).all Value.oneCell'=true:=by rw [← Av];exact AtsG.ones (B4 (G:=Tt) (Classical.choice ⟨default⟩) xs)
def Bd {H:Type} (P:Program) (t:TypeId) (d:DataW H):Prop:=(d.weights P t).all (·≤reachBytes)=true
class Opens (P:Program) (t:TypeId) (α:Type) [Rep α]:Prop where
  op:∀ {H:Type} {enc:TypeId × Value→H} {w:World} {sp:Nat→Bool} {held:Bool} {fuel:Nat} {cs:List Value} {x:DataW H × List MemPlace},DataW.trod enc P w 0 sp held fuel t cs=some x→Bd P t x.1→∃ a:α,Rep.at_ Tt w a cs
theorem cells_at {w:World} {b off n:Nat} {cs:List Value} (h:w.cells? 0 ⟨b,off,none⟩ n=some cs):cs.length=n∧At w b off cs:=by
  unfold World.cells? at h
  rw [if_pos (Nat.zero_le _)] at h
  have hl:=mapM_some_length h
  simp at hl
  refine⟨hl,fun j v hv=>?_⟩
  have hj:=(List.getElem?_eq_some_iff.1 hv).1
  have hr:(List.range n)[j]?=some j:=List.getElem?_range (by omega)
  have:=mapM_some_get h j j hr
  rw [B7] at this
  rw [this,hv]
theorem At.join {w:World} {b off:Nat} {xs ys:List Value} (h1:At w b off xs) (h2:At w b (off+xs.length) ys):At w b off (xs++ys):=fun j v hv=>by
  by_cases hj:j<xs.length
  · rw [List.getElem?_append_left hj] at hv;exact h1 j v hv
  · rw [List.getElem?_append_right (by omega)] at hv
    have:=h2 _ _ hv
    rwa [show off+xs.length+(j-xs.length)=off+j by omega] at this
theorem cell_spot {w:World} {a:Addr} {v:Value} (h:w.cell? a=some v):a=⟨a.block,a.off,none⟩:=by
  unfold World.cell? at h
  cases a with|mk b off s=>
  split at h
  · cases s with
    | none=>rfl
    | some s=>simp at h
  · cases h
theorem Ii {H:Type} {P:Program} {e:TypeId} {q:Nat→Bool}:∀ {ds:List (DataW H)},(DataW.weightsAll P e ds).all q=true→∀ d∈ds,(d.weights P e).all q=true
  | [],_,d,hd=>by simp at hd
  | x::r,h,d,hd=>by
    simp only [DataW.weightsAll,List.all_append,Bool.and_eq_true] at h
    rcases List.mem_cons.1 hd with rfl|hd
    · exact h.1
    · exact Ii h.2 d hd
section
variable {P : Program} {n : Nat} {Q : Post} {L : List (Nat × Value)} {w : World} {ops : List Oper} {o : Oper} {rest : List Oper}
theorem run_copy_some {w:World} {dT sT ty elem:TypeId} {g off dLen dCap:Nat} {a:Addr} {sLen sCap:Nat} {cur:List Value} {t:TypeId} {cs:List Value} {size:Nat} {i:TypeInfo}
    (hu:P.underlying dT=some (.slice elem)) (hi:P.info? elem=some i) (hs:i.size=size)
    (hg:w.heap[g]?=some (.cells cur.toArray t (0,0))) (hn:cs.length=Nat.min sLen dLen*size)
    (hsrc:∀ j v,cs[j]?=some v→w.cell? (a.add j)=some v) (hfit:off+cs.length≤cur.length) (h1:∀ v∈cs,v.oneCell'=true) :
    (Builtin.copy_ #[dT,sT] ty #[.slice (some ⟨g,off,none⟩) dLen dCap,.slice (some a) sLen sCap]).run P w=
      .ok (goInt (Nat.min sLen dLen)) (w.setRow g (cur.take off++cs++cur.drop (off+cs.length)).toArray):=by
  have hl:=run_loadCells_list (P:=P) w a cs hsrc
  have hst:=run_storeCells_at P g off t cs 0 cur.toArray w hg (by simpa using hfit) h1
  rw [hn] at hl
  simp only [Nat.add_zero] at hst
  simp [Builtin.copy_,run_underlying hu,Builtin.lenOf,Builtin.firstCells,sizeOf,typeInfo,hi,hs,hl,hst]
theorem run_copy_zero {w:World} {dT sT ty elem:TypeId} {dp sp:Option Addr} {dLen dCap sLen sCap:Nat} {i:TypeInfo}
    (hu:P.underlying dT=some (.slice elem)) (hi:P.info? elem=some i) (hn:Nat.min sLen dLen=0) :
    (Builtin.copy_ #[dT,sT] ty #[.slice dp dLen dCap,.slice sp sLen sCap]).run P w=.ok (goInt 0) w:=by
  have hl:∀ a:Addr,(loadCells a 0).run P w=.ok #[] w:=fun a=>run_loadCells_list (P:=P) w a [] (by simp)
  cases dp <;> cases sp <;> simp [Builtin.copy_,run_underlying hu,Builtin.lenOf,Builtin.firstCells,sizeOf,typeInfo,hi,hn,hl,storeCells]
theorem EL_copy {d:Nat} {dT sT e:TypeId} {x y:Operand} {z:Value} {size bytes:Nat} [ut:UT P dT (.slice e)] [ti:TI P e z size bytes] {dp sp:Option Addr} {dLen dCap sLen sCap g off:Nat} {cur cs:List Value} {w0:World}
    (hr:Row w g e cur) (x0:Ext w0 w) (hb:w0.heap.size≤g)
    (hg:gst ops L o=some true) (hd:odst n o.dst=some d) (ho:o.op=.call { callee:=.builtin .copy,args:=#[x,y],argTypes:=#[dT,sT] })
    (hx:ev L x=some (.slice dp dLen dCap)) (hy:ev L y=some (.slice sp sLen sCap)) {q:Nat} (hq:min sLen dLen=q) (hn:cs.length=q*size)
    (hpos:0<cs.length→dp=some ⟨g,off,none⟩∧∃ b so,sp=some ⟨b,so,none⟩∧At w b so cs) (hsz:0<size) (hfit:off+cs.length≤cur.length) (h1:cs.all Value.oneCell'=true)
    (k:∀ w',Row w' g e (cur.take off++cs++cur.drop (off+cs.length))→Ext w0 w'→Kb (some g) w w'→EL P n ops Q rest ((d,int (q:Nat))::L) w'):EL P n ops Q (o::rest) L w:=by
  obtain⟨i0,hi,hz0,hz1,hz2⟩:=info_parts ti.i
  have hq':Nat.min sLen dLen=q:=hq
  subst hq'
  by_cases h0:Nat.min sLen dLen=0
  · have hcs:cs=[]:=List.length_eq_zero_iff.1 (by rw [hn,h0,Nat.zero_mul])
    subst hcs
    have hrun:=run_copy_zero (P:=P) (w:=w) (dT:=dT) (sT:=sT) (ty:=o.type) (elem:=e) (dp:=dp) (sp:=sp) (dLen:=dLen) (dCap:=dCap) (sLen:=sLen) (sCap:=sCap) ut.u hi h0
    refine D3 (w':=w) hg hd (fun ρ ha=>?_) (h0▸k w (by simpa using hr) x0 (World.grownBy.refl _ _))
    have a1:=ha.ev (by rw [ho];simp [Op.operands,Call.operands]) hx
    have a2:=ha.ev (by rw [ho];simp [Op.operands,Call.operands]) hy
    simp only [execOp,ho,resolve,invoke,builtin,Sem.run_bind,Sem.run_pure,Result.andThen_ok,List.map_toArray,List.map_cons,List.map_nil,a1,a2,hrun]
    simp [goInt,h0]
  · have hp:0<cs.length:=by rw [hn];exact Nat.mul_pos (Nat.pos_of_ne_zero h0) hsz
    obtain⟨rfl,b,so,rfl,hat⟩:=hpos hp
    have hrun:=run_copy_some (P:=P) (w:=w) (dT:=dT) (sT:=sT) (ty:=o.type) (elem:=e) (g:=g) (off:=off) (dLen:=dLen) (dCap:=dCap) (a:=⟨b,so,none⟩) (sLen:=sLen) (sCap:=sCap) (cs:=cs) (size:=size) ut.u hi hz1
      (show w.heap[g]?=some (.cells cur.toArray e (0,0)) from hr) hn (fun j v hv=>by rw [B7];exact hat j v hv) hfit (fun v hv=>List.all_eq_true.1 h1 v hv)
    have hkb:Kb (some g) w (w.setRow g (cur.take off++cs++cur.drop (off+cs.length)).toArray):=⟨rfl,rfl,rfl,by simp,fun k hk hne=>setRow_other w g k _ (fun e=>hne (by rw [e]))⟩
    refine D3 (w':=w.setRow g (cur.take off++cs++cur.drop (off+cs.length)).toArray) hg hd (fun ρ ha=>?_) (k _ (setRow_heap w g cur.toArray _ e (0,0) hr) (hkb.ext x0 fun b' hb'=>by cases hb';exact hb) hkb)
    have a1:=ha.ev (by rw [ho];simp [Op.operands,Call.operands]) hx
    have a2:=ha.ev (by rw [ho];simp [Op.operands,Call.operands]) hy
    simp only [execOp,ho,resolve,invoke,builtin,Sem.run_bind,Sem.run_pure,Result.andThen_ok,List.map_toArray,List.map_cons,List.map_nil,a1,a2,hrun]
    rfl
theorem Ah {t:TypeId} {x y:Operand} {v z:Value} {size bytes:Nat} {b off:Nat} {e:TypeId} {cur cs:List Value} [TI P t z size bytes] {w0:World} (hr:Row w b e cur) (x0:Ext w0 w) (hb:w0.heap.size≤b)
    (hg:gst ops L o=some true) (hd:o.dst=none) (ho:o.op=.store t x y)
    (hx:ev L x=some (.pointer (some ⟨b,off,none⟩))) (hy:ev L y=some v) (hc:v.cells.toList=cs) (hs:Nat.beq cs.length size=true) (h1:cs.all Value.oneCell'=true) (hl:off+cs.length≤cur.length)
    (k:∀ w',Row w' b e (cur.take off++cs++cur.drop (off+cs.length))→Ext w0 w'→Kb (some b) w w'→EL P n ops Q rest L w'):EL P n ops Q (o::rest) L w:=by
  have e1:=Nat.eq_of_beq_eq_true hs
  have hsz:v.cells.size=size:=by rw [← e1,← hc,Array.length_toList]
  refine Jh hg hd ho hx hy hsz (by rw [hc];exact h1) hr (by omega) fun w' h2 h3 _=>k w' ?_ (h3.ext x0 fun b' hb'=>by cases hb';exact hb) h3
  rw [hc,← e1] at h2
  exact h2
theorem H4 {P:Program} {w:World} {base:Nat} {t ty e:TypeId} {i:TypeInfo} {size c:Nat} (ht:P.underlying t=some (.slice e)) (hi:P.info? e=some i)
    {v:Value} {n:Nat} {xs:List Value} (hown:w.ownsRow base e size v n xs) :
    (Builtin.append_ #[t,t] ty #[v,.slice none 0 c]).run P w=.ok v w:=by
  rcases hown.2 with⟨rfl,rfl⟩|⟨g,cap,cur,rfl,_,_,hnc,_⟩
  · simp [Builtin.append_,run_underlying ht,sizeOf,typeInfo,hi,Builtin.lenOf,Builtin.firstCells]
  · simp [Builtin.append_,run_underlying ht,sizeOf,typeInfo,hi,Builtin.lenOf,Builtin.firstCells,hnc,storeCells]
theorem Ay {d : Nat} {t e : TypeId} {s x : Operand} {z : Value} {size bytes : Nat} [ut : UT P t (.slice e)] [ti : TI P e z size bytes] {v : Value} {w0 : World} {m : Nat} {xs : List Value} {a : Option Addr} {q c : Nat} {news : List Value}
    (hown:w.ownsRow w0.heap.size e size v m xs) (x0:Ext w0 w) (hnews:0<q→∃ b off,a=some ⟨b,off,none⟩∧At w b off news) (hg:gst ops L o=some true) (hd:odst n o.dst=some d) (ho:o.op=.call { callee:=.builtin .append,args:=#[s,x],argTypes:=#[t,t] })
    (hs:ev L s=some v) (hx:ev L x=some (.slice a q c)) (hl:news.length=q*size)
    (h1:news.all Value.oneCell'=true) (hz:z.cells.size=size) (hsz:Nat.ble 1 size=true) (hmax:(m+q)*bytes≤140737488355328) (hmax':m+q≤9223372036854775807)
    (k:∀ v' w',w'.ownsRow w0.heap.size e size v' (m+q) (xs++news)→Ext w0 w'→Kb v.ownBlock w w'→(v'.ownBlock=v.ownBlock∨v'.ownBlock=some w.heap.size)→EL P n ops Q rest ((d,v')::L) w'):EL P n ops Q (o::rest) L w:=by
  obtain⟨i0,hi,hz0,hz1,hz2⟩:=info_parts ti.i
  cases a with
  | none=>
    have hq:q=0:=by
      by_cases h0:0<q
      · obtain⟨_,_,e1,_⟩:=hnews h0;cases e1
      · omega
    subst hq
    obtain rfl:news=[]:=List.length_eq_zero_iff.1 (by rw [hl,Nat.zero_mul])
    have hr:=H4 (P:=P) (w:=w) (ty:=o.type) (c:=c) ut.u hi hown
    refine D3 (w':=w) hg hd (fun ρ ha=>?_) (k v w (by simpa using hown) x0 (World.grownBy.refl _ _) (.inl rfl))
    have a1:=ha.ev (by rw [ho];simp [Op.operands,Call.operands]) hs
    have a2:=ha.ev (by rw [ho];simp [Op.operands,Call.operands]) hx
    simp only [execOp,ho,resolve,invoke,builtin,Sem.run_bind,Sem.run_pure,Result.andThen_ok,List.map_toArray,List.map_cons,List.map_nil,a1,a2,hr]
  | some ad=>
    have hat:∀ j u,news[j]?=some u→w.cell? (ad.add j)=some u:=by
      by_cases h0:0<q
      · obtain⟨b,off,e1,hat⟩:=hnews h0
        cases e1
        exact fun j u hu=>by rw [B7];exact hat j u hu
      · obtain rfl:news=[]:=List.length_eq_zero_iff.1 (by rw [hl,show q=0 by omega,Nat.zero_mul])
        exact fun j u hu=>by simp at hu
    obtain⟨v',w',hr,h2,h3,_,h4⟩:=run_append_own_at (P:=P) (w:=w) (ty:=o.type) w0.heap.size t e i0 z size bytes ut.u hi hz0 hz1 hz2 hz (Nat.le_of_ble_eq_true hsz) v m xs hown ad q c news hl hat
      (fun u hu=>List.all_eq_true.1 h1 u hu) (by unfold maxLen;omega) hmax x0.size
    refine D3 hg hd (fun ρ ha=>?_) (k v' w' h2 (Gd hown x0 h3) h3 h4)
    have a1:=ha.ev (by rw [ho];simp [Op.operands,Call.operands]) hs
    have a2:=ha.ev (by rw [ho];simp [Op.operands,Call.operands]) hx
    simp only [execOp,ho,resolve,invoke,builtin,Sem.run_bind,Sem.run_pure,Result.andThen_ok,List.map_toArray,List.map_cons,List.map_nil,a1,a2,hr]
end
end Go.En
namespace Go.En
open Go.RowKit
def eN:=@Kv
def eO:=@EL_no
def eV:=@Hc
def eD:=@EL_dec
def eL:=@EL_lit
def yN:=@RQ_fin
def yO:=@RQ_no
def yV:=@RQ_val
def yD:=@RQ_dec
def yG:=@RQ_gcase
def zA:=@val_move
def zB:=@Cn
def zC:=@val_pick_t
def zD:=@val_pick_f
def zE:=@val_not
def zF:=@val_extract
def zG:=@val_nilCheck
def zH:=@val_fieldAddr
def zI:=@M7
def zJ:=@val_len_str
def zK:=@O8
def zL:=@val_lss
def zM:=@val_eql
def zN:=@val_leq
def zO:=@val_gtr
def zP:=@val_geq
def zQ:=@val_neq
def zR:=@val_str_eql
def zS:=@val_str_neq
section
variable {P : Program} {L : List (Nat × Value)} {w : World} {o : Oper}
theorem zU {t u:TypeId} {x y:Operand} {a b:Int} (ho:o.op=.binOp .add t x y u) (hx:ev L x=some (int a)) (hy:ev L y=some (int b)) (h1:-9223372036854775808≤a+b) (h2:a+b≤9223372036854775807):Val P L w o (int (a+b)):=Jj ho hx hy h1 h2
theorem zV {t u:TypeId} {x y:Operand} {a b:Int} (ho:o.op=.binOp .sub t x y u) (hx:ev L x=some (int a)) (hy:ev L y=some (int b)) (h1:-9223372036854775808≤a-b) (h2:a-b≤9223372036854775807):Val P L w o (int (a-b)):=val_sub ho hx hy h1 h2
end
theorem Row.cellAt {w:World} {b j:Nat} {e:TypeId} {cs:List Value} {v:Value} (h:Row w b e cs) (hv:cs[j]?=some v):w.cell? ⟨b,j,none⟩=some v:=by rw [h.cell,hv]
theorem At.cellAt {w:World} {b off j:Nat} {cs:List Value} {v:Value} (h:At w b off cs) (hv:cs[j]?=some v):w.cell? ⟨b,off+j,none⟩=some v:=h j v hv
theorem ret_c {P:Program} {n:Nat} {L:List (Nat × Value)} {w:World} {fn:Func} {S:Value→World→Prop} {s:Tmp} {ty:TypeId} {d:TypeDesc} {b off:Nat} {cs:List Value} {z:Value} {size bytes:Nat} [UT P ty d] [TI P ty z size bytes] (hr:fn.results=#[.cell s ty])
    (hd:J4 d=true) (hv:lk L s=some (.pointer (some ⟨b,off,none⟩))) (hc:At w b off cs) (hl:Nat.beq cs.length size=true) (hs:S (.agg cs.toArray) w):K n (bodyPost P fn (Rt S)) .ret L w:=fun a ha=>by
  refine⟨ha.nod,.agg cs.toArray,?_,_,rfl,hs⟩
  have h1:=ha.get s _ hv
  have h3:=Fy (P:=P) (t:=ty) w
  rw [hd] at h3
  obtain⟨i0,hi0,_,hsz,_⟩:=G9 (P:=P) (t:=ty) w
  have h4:=run_loadCells_list (P:=P) w ⟨b,off,none⟩ cs (fun j v hv=>by rw [B7];exact hc j v hv)
  rw [Nat.eq_of_beq_eq_true hl] at h4
  unfold loadCells at h4
  simp [results,hr,Array.getD_eq_getD_getElem?,h1,Instr.loadAt,Instr.sureAddr,loadVar,go_sem,h3,sizeOf,hi0,hsz,h4]
section
theorem eqZ {P:Program} {n:Nat} {ops rest:List Oper} {Q:Post} {L:List (Nat × Value)} {w:World} {o:Oper} {d:Nat} {v:Value} (hg:gst ops L o=some true:=by exact rfl) (hd:odst n o.dst=some d:=by exact rfl) (h:Val P L w o v:=by first|exact zA rfl rfl|exact zB rfl rfl|exact zK rfl rfl|exact zJ rfl rfl|exact zC rfl rfl rfl|exact zD rfl rfl rfl|exact zE rfl rfl|exact zF rfl rfl rfl|exact zH rfl rfl|exact zG rfl rfl|exact zU rfl rfl rfl (by omega) (by omega)|exact zV rfl rfl rfl (by omega) (by omega)|exact zW rfl rfl rfl (by omega) (by omega)|exact zI rfl rfl rfl rfl):EL P n ops Q rest ((d,v)::L) w→EL P n ops Q (o::rest) L w:=eV hg hd h
theorem eqY {P:Program} {n:Nat} {ops rest:List Oper} {Q:Post} {L:List (Nat × Value)} {w:World} {o:Oper} {d:Nat} {v:Value} (hg:gst ops L o=some true:=by exact rfl) (hd:odst n o.dst=some d:=by exact rfl) (h:Val P L w o v:=by first|exact A6 rfl rfl rfl (Row.cellAt (by assumption) (by rfl))|exact Ab rfl rfl rfl (Row.at (by assumption)) (by rfl)|exact A6 rfl rfl rfl (At.cellAt (by assumption) (by rfl))|exact Ab rfl rfl rfl (by assumption) (by rfl)|exact A6 rfl rfl rfl (by assumption)):EL P n ops Q rest ((d,v)::L) w→EL P n ops Q (o::rest) L w:=eV hg hd h
theorem Sy {s g:Prop} (h:s) (hp:s→g:=by first|exact eN|exact eqZ|exact eO rfl rfl|exact Ba|exact K_in|exact Qb|exact Nf|exact Qc|exact K_in_exit|exact Qd rfl|exact Ac|exact A8|exact E_cond_t rfl|exact E_cond_f rfl|exact E_block|exact E_skip|exact E_ret|exact E_exit|exact K_rnd_ret|exact K_rnd_exit|exact K_mid_ret|exact K_mid_exit):g:=hp h
theorem Ly {s g:Prop} (h:s) (hp:s→g:=by first|exact eN|exact eqY|exact eqZ|exact eO rfl rfl|exact Ba|exact K_in|exact Qb|exact Nf|exact Qc|exact K_in_exit|exact Qd rfl|exact Ac|exact A8|exact E_cond_t rfl|exact E_cond_f rfl|exact E_block|exact E_skip|exact E_ret|exact E_exit|exact K_rnd_ret|exact K_rnd_exit|exact K_mid_ret|exact K_mid_exit):g:=hp h
theorem cqC {P:Program} {n:Nat} {ops rest:List Oper} {Q:Post} {L:List (Nat × Value)} {w:World} {o:Oper} {d:Nat} {f:FuncId} {v:Value} {vs:List Value} {xs:List Operand} {ts:Array TypeId} (hc:Calls P f vs.toArray w (Rt fun u w'=>u=v∧Ext w w')) (he:∀args w,(callFunc f args).run P w=.ok (.enter f args) w) (k:∀w',Ext w w'→EL P n ops Q rest ((d,v)::L) w') (hg:gst ops L o=some true:=by exact rfl) (hd:odst n o.dst=some d:=by exact rfl) (ho:o.op=.call {callee:=.value (.func f),args:=xs.toArray,argTypes:=ts}:=by exact rfl) (hx:evl L xs=some vs:=by exact rfl):EL P n ops Q (o::rest) L w:=A9 hg hd (A3 ho hx he) hc fun _ w' hh=>by obtain ⟨rfl,x⟩:=hh;exact k w' x
theorem Dy {P:Program} {n:Nat} {ops rest:List Oper} {Q:Post} {L:List (Nat × Value)} {w:World} {o:Oper} {d:Nat} {p:Prop} {dp:Decidable p} (ht:p→EL P n ops Q rest ((d,.bool true)::L) w) (hf:¬p→EL P n ops Q rest ((d,.bool false)::L) w) (hg:gst ops L o=some true:=by exact rfl) (hd:odst n o.dst=some d:=by exact rfl) (h:Val P L w o (.bool (@decide p dp)):=by first|exact zL rfl rfl rfl|exact zM rfl rfl rfl|exact zN rfl rfl rfl|exact zO rfl rfl rfl|exact zP rfl rfl rfl|exact zQ rfl rfl rfl|exact zR rfl rfl rfl|exact zS rfl rfl rfl|exact zT rfl rfl rfl):EL P n ops Q (o::rest) L w:=eD hg hd h ht hf
theorem yqZ {P:Program} {n:Nat} {ops rest tl:List Oper} {Q:Post} {G:List (Nat × Ent)} {w0:World} {o:Oper} {d:Nat} {v:Value} (k:RQ P n ops w0 Q rest tl ((d,.v v)::G)) (hg:ggst ops G o=some true:=by exact rfl) (hd:odst n o.dst=some d:=by exact rfl) (h:∀w δ,Ext w0 w→Val P (mat δ G) w o v:=by intro _ _ _;first|exact zA rfl rfl|exact zB rfl rfl|exact zK rfl rfl|exact zJ rfl rfl|exact zC rfl rfl rfl|exact zD rfl rfl rfl|exact zE rfl rfl|exact zF rfl rfl rfl|exact zH rfl rfl|exact zG rfl rfl|exact zU rfl rfl rfl (by omega) (by omega)|exact zV rfl rfl rfl (by omega) (by omega)|exact zW rfl rfl rfl (by omega) (by omega)|exact zI rfl rfl rfl rfl):RQ P n ops w0 Q (o::rest) tl G:=yV hg hd h k
theorem yqY {P:Program} {n:Nat} {ops rest tl:List Oper} {Q:Post} {G:List (Nat × Ent)} {w0:World} {o:Oper} {d:Nat} {v:Value} (k:RQ P n ops w0 Q rest tl ((d,.v v)::G)) (hg:ggst ops G o=some true:=by exact rfl) (hd:odst n o.dst=some d:=by exact rfl) (h:∀w δ,Ext w0 w→Val P (mat δ G) w o v:=by intro _ _ xq;first|exact A6 rfl rfl rfl ((Row.ext (by assumption) xq).cellAt (by rfl))|exact Ab rfl rfl rfl (Row.ext (by assumption) xq).at (by rfl)|exact A6 rfl rfl rfl ((At.ext (by assumption) xq).cellAt (by rfl))|exact Ab rfl rfl rfl (At.ext (by assumption) xq) (by rfl)|exact A6 rfl rfl rfl (Ext.cell xq (by assumption))):RQ P n ops w0 Q (o::rest) tl G:=yV hg hd h k
theorem yqX {P:Program} {n:Nat} {ops rest tl:List Oper} {Q:Post} {G:List (Nat × Ent)} {w0:World} {o:Oper} {d:Nat} {p:Prop} {dp:Decidable p} (ht:p→RQ P n ops w0 Q rest tl ((d,.v (.bool true))::G)) (hf:¬p→RQ P n ops w0 Q rest tl ((d,.v (.bool false))::G)) (hg:ggst ops G o=some true:=by exact rfl) (hd:odst n o.dst=some d:=by exact rfl) (h:∀w δ,Ext w0 w→Val P (mat δ G) w o (.bool (@decide p dp)):=by intro _ _ _;first|exact zL rfl rfl rfl|exact zM rfl rfl rfl|exact zN rfl rfl rfl|exact zO rfl rfl rfl|exact zP rfl rfl rfl|exact zQ rfl rfl rfl|exact zR rfl rfl rfl|exact zS rfl rfl rfl|exact zT rfl rfl rfl):RQ P n ops w0 Q (o::rest) tl G:=yD hg hd h ht hf
end
end Go.En
