/-
  Own text of the proof.
-/
import Derived.Test.YtjicdgejhkgpgaaGreatDoorYo
set_option linter.all false
namespace Go.En
open Go.RowKit
section
variable {P : Program} {n : Nat} {Q : Post} {ops : List Oper}
theorem own_same {w w':World} {B:Nat} {e:TypeId} {sz:Nat} {v:Value} {m:Nat} {xs:List Value} (h:w.ownsRow B e sz v m xs) (hs:∀ b,v.ownBlock=some b→w'.heap[b]?=w.heap[b]?):w'.ownsRow B e sz v m xs:=by
  obtain⟨h1,h2⟩:=h
  refine⟨h1,?_⟩
  rcases h2 with h2|⟨g,cap,cur,rfl,h3,h4,h5⟩
  · exact .inl h2
  · exact .inr ⟨g,cap,cur,rfl,h3,by rw [hs g rfl];exact h4,h5⟩
def ROwn (B:Nat) (e:TypeId) (sz m:Nat) (xs:List Value):(Nat→Prop)→Value→World→Prop:=fun G u w=>w.ownsRow B e sz u m xs∧∀ b,u.ownBlock=some b→G b
theorem P8 {w0:World} {B:Nat} {e:TypeId} {sz m:Nat} {xs:List Value}:Mv w0 (ROwn B e sz m xs):=fun G u w w' h _ _ _ hs=>
  ⟨own_same h.1 (fun b hb=>hs b (h.2 b hb) (h.1.lt b hb).2),h.2⟩
variable {w0 : World} {Lb : List (Nat × Value)} {its : List Pd} {i : Nat} {o : Oper}
theorem st_lit {d:Nat} {t e:TypeId} {z:Value} {size bytes len:Nat} {ps:List (Nat × Operand)} {vs cs:List Value} [UT P t (.slice e)] [TI P e z size bytes] (ho:o.op=.buildSlice t len ps.toArray)
    (hps:evs (frV Lb (its.take i)) 0 ps=some vs) (hv:vs.all (fun v=>Nat.beq v.cells.size size)=true) (hl:Nat.beq vs.length len=true) (hsm:Nat.ble (len*size) 16777216=true) (hcs:(vs.map fun v=>v.cells.toList).flatten=cs) (hlen:cs.length=len*size) (hb:len≤9223372036854775807) :
    Jf P Lb w0 its i o (some d) d (ROwn w0.heap.size e size len cs) []:=
  ⟨P8,fun w δ Gs hx _ _=>.inl ⟨.slice (some ⟨w.heap.size,0,none⟩) len len,w.alloc (.cells cs.toArray e),fun ρ ha=>run_lit ho hps hv hl hsm hcs ha,hx.trans (Bc _ _),(Bc w (.cells cs.toArray e)).size,fun b hb _=>(Bc w (.cells cs.toArray e)).block hb,
    fun b=>b=w.heap.size,⟨Cq (by have:=Bv w e cs.toArray;exact this) hlen hx.size hb,fun b hb=>(Option.some.inj hb).symm⟩,fun b hb=>by
      subst hb
      refine⟨hx.size,?_,.inl (Nat.le_refl _)⟩
      have:=(Bv w e cs.toArray).lt;exact this⟩⟩
theorem own_news {w:World} {v v':Value} {G:Nat→Prop} (h1:v'.ownBlock=v.ownBlock∨v'.ownBlock=some w.heap.size) (hG:∀ b,v.ownBlock=some b→G b):∀ b,v'.ownBlock=some b→w.heap.size≤b∨G b:=fun b hb=>by
  rcases h1 with h1|h1
  · exact .inr (hG b (by rw [← h1];exact hb))
  · rw [h1] at hb;cases hb;exact .inl (Nat.le_refl _)
theorem st_app {d j sj m q c:Nat} {dj:Option Nat} {cj:List Nat} {t e:TypeId} {z:Value} {size bytes:Nat} {x:Operand} {xs news:List Value} {a:Option Addr} [ut:UT P t (.slice e)] [ti:TI P e z size bytes] (hj:its[j]?=some (.r dj sj (ROwn w0.heap.size e size m xs) cj))
    (ho:o.op=.call { callee:=.builtin .append,args:=#[.tmp sj,x],argTypes:=#[t,t] }) (hx:∀ δ,ev (conL (sk its) δ [j]++frV Lb (its.take i)) x=some (.slice a q c))
    (hnews:∀ w,Ext w0 w→0<q→∃ b off,a=some ⟨b,off,none⟩∧At w b off news) (hl:news.length=q*size) (h1:news.all Value.oneCell'=true) (hz:z.cells.size=size) (hsz:Nat.ble 1 size=true) (hmax:(m+q)*bytes≤140737488355328) (hmax':m+q≤9223372036854775807) :
    Jf P Lb w0 its i o (some d) d (ROwn w0.heap.size e size (m+q) (xs++news)) [j]:=by
  refine⟨P8,fun w δ Gs hxw hres _=>?_⟩
  obtain⟨hR,hG⟩:=hres j (List.mem_singleton.2 rfl)
  have hsl:Az (sk its) j=sj:=(Mu hj).2.1
  rw [Qa hj,hsl] at hR
  obtain⟨v',w',hrun,hown,hx',hk,hb⟩:=app_exO (P:=P) t o.type (e:=e) c (a:=a) (q:=q) (news:=news) hR.1 hxw (hnews w hxw) hl h1 hz hsz hmax hmax'
  have hs:ev (conL (sk its) δ [j]++frV Lb (its.take i)) (.tmp sj)=some (δ sj):=by
    show lk ((Az (sk its) j,δ (Az (sk its) j))::_) sj=_
    rw [hsl,lk];simp
  refine .inl ⟨v',w',fun ρ ha=>Oh ho hs (hx δ) hrun ρ ha,hx',hk.size,fun b hb hn=>World.grownBy.block hk b hb (fun e=>hn j (List.mem_singleton.2 rfl) (hR.2 b e.symm)),fun b=>v'.ownBlock=some b,⟨hown,fun b hb=>hb⟩,fun b hbb=>?_⟩
  have:=hown.lt b hbb
  refine⟨this.1,this.2,?_⟩
  rcases own_news hb hR.2 b hbb with h|h
  · exact .inl h
  · exact .inr ⟨j,List.mem_singleton.2 rfl,h⟩
theorem st_app2 {d j l sj sl m q:Nat} {dj dl:Option Nat} {cj cl:List Nat} {t e:TypeId} {z:Value} {size bytes:Nat} {xs news:List Value} [ut:UT P t (.slice e)] [ti:TI P e z size bytes] (hj:its[j]?=some (.r dj sj (ROwn w0.heap.size e size m xs) cj)) (hl0:its[l]?=some (.r dl sl (ROwn w0.heap.size e size q news) cl))
    (ho:o.op=.call { callee:=.builtin .append,args:=#[.tmp sj,.tmp sl],argTypes:=#[t,t] }) (hne:sj≠sl) (h1:news.all Value.oneCell'=true) (hz:z.cells.size=size) (hsz:Nat.ble 1 size=true) (hmax:(m+q)*bytes≤140737488355328) (hmax':m+q≤9223372036854775807) :
    Jf P Lb w0 its i o (some d) d (ROwn w0.heap.size e size (m+q) (xs++news)) [j,l]:=by
  refine⟨P8,fun w δ Gs hxw hres _=>?_⟩
  obtain⟨hR,hG⟩:=hres j (by simp)
  obtain⟨hR2,hG2⟩:=hres l (by simp)
  have hsl:Az (sk its) j=sj:=(Mu hj).2.1
  have hsl2:Az (sk its) l=sl:=(Mu hl0).2.1
  rw [Qa hj,hsl] at hR
  rw [Qa hl0,hsl2] at hR2
  obtain⟨a,c,hu,hat⟩:∃ a c,δ sl=.slice a q c∧(0<q→∃ b off,a=some ⟨b,off,none⟩∧At w b off news):=by
    rcases Dl hR2.1 with⟨e1,e2,_⟩|⟨b,cap,e1,_,_,_,e2⟩
    · exact⟨none,0,by rw [e1,e2],fun h=>by omega⟩
    · exact⟨_,cap,e1,fun _=>⟨b,0,rfl,e2⟩⟩
  obtain⟨v',w',hrun,hown,hx',hk,hb⟩:=app_exO (P:=P) t o.type (e:=e) c (a:=a) (q:=q) (news:=news) hR.1 hxw hat hR2.1.1 h1 hz hsz hmax hmax'
  have hs:ev (conL (sk its) δ [j,l]++frV Lb (its.take i)) (.tmp sj)=some (δ sj):=by
    show lk ((Az (sk its) j,δ (Az (sk its) j))::_) sj=_
    rw [hsl,lk];simp
  have hs2:ev (conL (sk its) δ [j,l]++frV Lb (its.take i)) (.tmp sl)=some (.slice a q c):=by
    show lk ((Az (sk its) j,δ (Az (sk its) j))::(Az (sk its) l,δ (Az (sk its) l))::_) sl=_
    rw [hsl,hsl2,lk,lk]
    have:Nat.beq sj sl=false:=by
      cases hb:Nat.beq sj sl with
      | false=>rfl
      | true=>exact absurd (Nat.eq_of_beq_eq_true hb) hne
    rw [this];simp [hu]
  refine .inl ⟨v',w',fun ρ ha=>Oh ho hs hs2 hrun ρ ha,hx',hk.size,fun b hb hn=>World.grownBy.block hk b hb (fun e=>hn j (by simp) (hR.2 b e.symm)),fun b=>v'.ownBlock=some b,⟨hown,fun b hb=>hb⟩,fun b hbb=>?_⟩
  have:=hown.lt b hbb
  refine⟨this.1,this.2,?_⟩
  rcases own_news hb hR.2 b hbb with h|h
  · exact .inl h
  · exact .inr ⟨j,by simp,h⟩
theorem st_val {d:Nat} {R:(Nat→Prop)→Value→World→Prop} {con:List Nat} (hmv:Mv w0 R)
    (h:∀(w:World) (δ:Nat→Value) (Gs:Nat→Nat→Prop),Ext w0 w→(∀ j∈con,Ri its j (Gs j) (δ (Az (sk its) j)) w)→∃ v,Val P (conL (sk its) δ con++frV Lb (its.take i)) w o v∧R (fun b=>∃ j∈con,Gs j b) v w) :
    Jf P Lb w0 its i o (some d) d R con:=
  ⟨hmv,fun w δ Gs hxw hres _=>by
    obtain⟨v,hv,hR⟩:=h w δ Gs hxw (fun j hj=>(hres j hj).1)
    exact .inl ⟨v,w,hv,hxw,Nat.le_refl _,fun _ _ _=>rfl,_,hR,fun b ⟨j,hj,hb⟩=>⟨((hres j hj).2 b hb).1,((hres j hj).2 b hb).2,.inr ⟨j,hj,hb⟩⟩⟩⟩
def RPtr (t:TypeId) (X:List Value):(Nat→Prop)→Value→World→Prop:=fun G u w=>∃ b,u=.pointer (some ⟨b,0,none⟩)∧G b∧Row w b t X
theorem mv_ptr {t:TypeId} {X:List Value}:Mv w0 (RPtr t X):=fun G u w w' h _ _ _ hs=>by
  obtain⟨b,e,hg,hr⟩:=h
  exact⟨b,e,hg,(hs b hg hr.lt).trans hr⟩
theorem st_alloc {d:Nat} {t:TypeId} {z:Value} {size bytes:Nat} {X:List Value} [TI P t z size bytes] (ho:o.op=.alloc t) (hz:z.cells.toList=X):Jf P Lb w0 its i o (some d) d (RPtr t X) []:=
  hz▸⟨mv_ptr,fun w δ Gs hx _ _=>.inl ⟨.pointer (some ⟨w.heap.size,0,none⟩),w.alloc (.cells z.cells t),fun ρ _=>Jm ho ρ w,hx.trans (Bc _ _),(Bc w (.cells z.cells t)).size,fun b hb _=>(Bc w (.cells z.cells t)).block hb,
    fun b=>b=w.heap.size,⟨w.heap.size,rfl,rfl,Bv w t z.cells⟩,fun b hb=>by
      subst hb
      exact⟨hx.size,(Bv w t z.cells).lt,.inl (Nat.le_refl _)⟩⟩⟩
def Mz (s:Nat) (u v:Value):Operand→Value
  | .tmp t=>if t=s then u else v
  | _=>v
def RBox (t:TypeId) (R:(Nat→Prop)→Value→World→Prop):(Nat→Prop)→Value→World→Prop:=fun G u w=>∃ b X G1,u=.pointer (some ⟨b,0,none⟩)∧G b∧Row w b t X∧R G1 (.agg X.toArray) w∧∀ c,G1 c→G c
theorem mv_box {t:TypeId} {R:(Nat→Prop)→Value→World→Prop} (h:Mv w0 R):Mv w0 (RBox t R):=fun G u w w' hb hx hx' hs hsame=>by
  obtain⟨b,X,G1,e,hg,hr,h1,h2⟩:=hb
  exact⟨b,X,G1,e,hg,(hsame b hg hr.lt).trans hr,h G1 _ w w' h1 hx hx' hs (fun c hc hlt=>hsame c (h2 c hc) hlt),h2⟩
theorem st_store {ja jl sp sl:Nat} {da dl:Option Nat} {ca cl:List Nat} {t:TypeId} {z:Value} {size bytes:Nat} {Zq:List Value} {R:(Nat→Prop)→Value→World→Prop} [TI P t z size bytes] (hja:its[ja]?=some (.r da sp (RPtr t Zq) ca)) (hjl:its[jl]?=some (.r dl sl R cl)) (hne:ja≠jl) (hsp:sp≠sl)
    (ho:o.op=.store t (.tmp sp) (.tmp sl)) (hdst:o.dst=none) (hmv:Mv w0 R) (hZ:Zq.length=size) (hR:∀ G u w,R G u w→∃ X:List Value,u=.agg X.toArray∧X.length=size∧X.all Value.oneCell'=true) :
    Jf P Lb w0 its i o none sp (RBox t R) [ja,jl]:=by
  refine⟨mv_box hmv,fun w δ Gs hxw hres hdis=>?_⟩
  obtain⟨hA,hGA⟩:=hres ja (by simp)
  obtain⟨hL,hGL⟩:=hres jl (by simp)
  have hs1:Az (sk its) ja=sp:=(Mu hja).2.1
  have hs2:Az (sk its) jl=sl:=(Mu hjl).2.1
  rw [Qa hja,hs1] at hA
  rw [Qa hjl,hs2] at hL
  obtain⟨b,hp,hgb,hrow⟩:=hA
  obtain⟨X,hu,hX,hX1⟩:=hR _ _ _ hL
  have e1:ev (conL (sk its) δ [ja,jl]++frV Lb (its.take i)) (.tmp sp)=some (.pointer (some ⟨b,0,none⟩)):=by
    show lk ((Az (sk its) ja,δ (Az (sk its) ja))::_) sp=_
    rw [hs1,lk];simp [hp]
  have e2:ev (conL (sk its) δ [ja,jl]++frV Lb (its.take i)) (.tmp sl)=some (.agg X.toArray):=by
    show lk ((Az (sk its) ja,δ (Az (sk its) ja))::(Az (sk its) jl,δ (Az (sk its) jl))::_) sl=_
    rw [hs1,hs2,lk,lk]
    have:Nat.beq sp sl=false:=by
      cases hb:Nat.beq sp sl with
      | false=>rfl
      | true=>exact absurd (Nat.eq_of_beq_eq_true hb) hsp
    rw [this];simp [hu]
  have hrun:=fun(ρ:Operand→Value) (h1:ρ (.tmp sp)=.pointer (some ⟨b,0,none⟩)) (h2:ρ (.tmp sl)=.agg X.toArray)=>Kl (P:=P) ho h1 h2 hX hX1 hrow hZ
  obtain⟨w',hw1,hw2,hw3,hw4⟩:=hrun (Mz sp (.pointer (some ⟨b,0,none⟩)) (.agg X.toArray)) (by simp [Mz]) (by simp [Mz];exact fun e=>hsp e.symm)
  have hxw':Ext w0 w':=hw3.ext hxw (fun c hc=>by cases hc;exact(hGA b hgb).1)
  refine .inr (.inl ⟨w',hdst,fun ρ ha=>?_,hxw',by omega,fun c hc hn=>World.grownBy.block hw3 c hc (fun e=>by cases e;exact hn ja (by simp) hgb),fun c=>Gs ja c∨Gs jl c,?_,fun c hc=>?_⟩)
  · have h1:=ha.ev (by rw [ho];simp [Op.operands]) e1
    have h2:=ha.ev (by rw [ho];simp [Op.operands]) e2
    obtain⟨w2,q1,q2,q3,q4⟩:=hrun ρ h1 h2
    have:(execOp ρ o).run P w=(execOp (Mz sp (.pointer (some ⟨b,0,none⟩)) (.agg X.toArray)) o).run P w:=by
      have g1:Mz sp (.pointer (some ⟨b,0,none⟩)) (.agg X.toArray) (.tmp sp)=.pointer (some ⟨b,0,none⟩):=by simp [Mz]
      have g2:Mz sp (.pointer (some ⟨b,0,none⟩)) (.agg X.toArray) (.tmp sl)=.agg X.toArray:=by simp [Mz];exact fun e=>hsp e.symm
      simp only [execOp,ho,h1,h2,g1,g2]
    rw [this];exact hw1
  · show RBox t R _ (δ sp) w'
    rw [hp]
    refine⟨b,X,Gs jl,rfl,.inl hgb,hw2,?_,fun c hc=>.inr hc⟩
    rw [hu] at hL
    refine hmv _ _ _ _ hL hxw hxw' (by omega) (fun c hc hlt=>World.grownBy.block hw3 c hlt (fun e=>by
      cases e
      exact hdis ja (by simp) jl (by simp) hne b hgb hc))
  · rcases hc with hc|hc
    · exact⟨(hGA c hc).1,by have:=(hGA c hc).2;omega,.inr ⟨ja,by simp,hc⟩⟩
    · exact⟨(hGL c hc).1,by have:=(hGL c hc).2;omega,.inr ⟨jl,by simp,hc⟩⟩
end
end Go.En
namespace Go.Proofs.YtjicdgejhkgpgaaGreatDoor
open Go.RowKit Go.En Go.Pv
def Kp (v v':Value) (w w':World):Prop:=Kb v.ownBlock w w'∧(v'.ownBlock=v.ownBlock∨∃ b,v'.ownBlock=some b∧w.heap.size≤b)
theorem Kp.of_ext {v:Value} {w w':World} (x:Ext w w'):Kp v v w w':=⟨x.kb _,.inl rfl⟩
theorem Kp.trans {a b c:Value} {w w1 w2:World} (h:Kp a b w w1) (k:Kp b c w1 w2):Kp a c w w2:=by
  obtain⟨h1,h2⟩:=h
  obtain⟨k1,k2⟩:=k
  refine⟨⟨k1.os.trans h1.os,k1.tape.trans h1.tape,k1.output.trans h1.output,Nat.le_trans h1.size k1.size,fun q hq hne=>?_⟩,?_⟩
  · rw [World.grownBy.block k1 q (Nat.lt_of_lt_of_le hq h1.size) (by
      rcases h2 with h2|⟨b',e,hb⟩
      · rw [h2];exact hne
      · rw [e];intro e';cases e';omega)]
    exact World.grownBy.block h1 q hq hne
  · have hs:=h1.size
    rcases k2 with k2|⟨b',e,hb⟩
    · rw [k2];exact h2
    · exact .inr ⟨b',e,by omega⟩
theorem Kp.mv {v v':Value} {w w':World} (h:Kp v v' w w'):∀ b,Nb v b→b<w.heap.size→Nb v' b∧w'.heap[b]?=w.heap[b]?:=fun b hb hlt=>by
  refine⟨?_,World.grownBy.block h.1 b hlt hb⟩
  unfold Nb at*
  rcases h.2 with h2|⟨b',e,hb'⟩
  · rw [h2];exact hb
  · rw [e];intro e';cases e';omega
theorem Kp.row {v v':Value} {w w':World} (h:Kp v v' w w') {b:Nat} {e:TypeId} {cs:List Value} (hr:Row w b e cs) (hb:Nb v b):Row w' b e cs∧Nb v' b:=by
  obtain⟨h1,h2⟩:=h.mv b hb hr.lt
  exact⟨h2.trans hr,h1⟩
theorem Kp.size {v v':Value} {w w':World} (h:Kp v v' w w'):w.heap.size≤w'.heap.size:=h.1.size
def furY (g:Lx) (w:List Int) (k:Nat) (a:List Prt) (e:En) (fi:List Int × Nat):List (List Prt):=
  if (Ar g.lex (a++[⟨e.id,(fi.2:Int),0⟩])).length>g.most then [] else (if (Ar g.lex (a++[⟨e.id,(fi.2:Int),0⟩])).length≥w.length∧licB g w (a++[⟨e.id,(fi.2:Int),0⟩])=true then [a++[⟨e.id,(fi.2:Int),0⟩]] else [])++furL g w k (a++[⟨e.id,(fi.2:Int),0⟩])
def furX (g:Lx) (w:List Int) (k:Nat) (a:List Prt) (e:En):List (List Prt):=if D2 g.net (Aq g.lex a) e.cls then (Ai e).zipIdx.flatMap (furY g w k a e) else []
theorem Pm (g:Lx) (w:List Int) (k:Nat) (a:List Prt):furL g w (k+1) a=g.lex.flatMap (furX g w k a):=rfl
def nFur:Nat→Nat
  | 0=>0
  | k+1=>10*(1+nFur k)
theorem Fi {α β:Type} {f:α→List β} {c:Nat}:∀ {l:List α},(∀ x∈l,(f x).length≤c)→(l.flatMap f).length≤l.length*c
  | [],_=>by simp
  | x::r,h=>by
    have:=Fi (l:=r) (fun y hy=>h y (List.mem_cons_of_mem _ hy))
    have:=h x List.mem_cons_self
    rw [List.flatMap_cons,List.length_append,List.length_cons,Nat.add_mul];omega
theorem N4 {L:Lx} {ws:List Int} {k c:Nat} (h:∀ a,(furL L ws k a).length≤c) (a:List Prt) (e:En) (fi:List Int × Nat):(furY L ws k a e fi).length≤1+c:=by
  unfold furY
  have:=h (a++[⟨e.id,(fi.2:Int),0⟩])
  split
  · simp
  · rw [List.length_append]
    split <;> simp <;> omega
theorem N5 {g:Lg} (hok:LangOK g) {ws:List Int} {k c:Nat} (h:∀ a,(furL (lxOf g ws) ws k a).length≤c) (a:List Prt) (e:En) (he:e∈g.lex):(furX (lxOf g ws) ws k a e).length≤2*(1+c):=by
  unfold furX
  split
  · have h1:=Fi (l:=(Ai e).zipIdx) (fun fi _=>N4 h a e fi)
    have h2:(Ai e).zipIdx.length≤2:=by
      rw [List.length_zipIdx];simp [Ai];have:=(hok.lex e he).2.2.2.2.1;omega
    exact Nat.le_trans h1 (Nat.mul_le_mul_right _ h2)
  · simp
theorem Nx {g:Lg} (hok:LangOK g) (ws:List Int):∀(k:Nat) (a:List Prt),(furL (lxOf g ws) ws k a).length≤nFur k
  | 0,_=>Nat.le_refl _
  | k+1,a=>by
    rw [Pm]
    have h1:=Fi (l:=(lxOf g ws).lex) (f:=furX (lxOf g ws) ws k a) (fun e he=>N5 hok (Nx hok ws k) a e he)
    have h2:(lxOf g ws).lex.length≤5:=hok.nlex
    refine Nat.le_trans h1 (Nat.le_trans (Nat.mul_le_mul_right _ h2) ?_)
    show 5*(2*(1+nFur k))≤10*(1+nFur k)
    omega
theorem furY_len {g:Lg} (hok:LangOK g) (ws:List Int) (k:Nat) (a:List Prt) (e:En) (fi:List Int × Nat):(furY (lxOf g ws) ws k a e fi).length≤1+nFur k:=N4 (Nx hok ws k) a e fi
theorem furX_len {g:Lg} (hok:LangOK g) (ws:List Int) (k:Nat) (a:List Prt) (e:En) (he:e∈g.lex):(furX (lxOf g ws) ws k a e).length≤2*(1+nFur k):=N5 hok (Nx hok ws k) a e he
def RAn (B m:Nat) (cs:List Value):(Nat→Prop)→Value→World→Prop:=fun G u w=>∃ v,u=.agg #[v]∧ROwn B 129 3 m cs G v w
theorem mv_an {w0:World} {B m:Nat} {cs:List Value}:Mv w0 (RAn B m cs):=fun G u w w' h h1 h2 h3 h4=>by
  obtain⟨v,e,hv⟩:=h
  exact⟨v,e,P8 G v w w' hv h1 h2 h3 h4⟩
attribute [local irreducible] E EL K Val Enters Rt Calls bodyPost Code.wp RQ
end Go.Proofs.YtjicdgejhkgpgaaGreatDoor
