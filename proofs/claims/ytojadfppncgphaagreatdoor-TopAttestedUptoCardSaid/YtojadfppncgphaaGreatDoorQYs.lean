/- Own text. -/
import Derived.Test.YtojadfppncgphaaGreatDoorQYr
set_option linter.all false
set_option maxHeartbeats 16000000
set_option maxRecDepth 8000
namespace Go.Proofs.YtojadfppncgphaaGreatDoor
section
open Go.RowKit Go.En Go.Dl Go.Tp
abbrev trD (p:Tx × Bool):Ky × Dt:=(.s p.1,dB p.2)
abbrev srcC (g:Lng)(w:List Int)(shr:Bool)(fin:Nat):List Lf:=(lngC g).map .d++[.d (ints w),.d (dB shr),.d (.v (u32 fin)),.m 1001,.f (.func 385) [.p 1002 0 0,.p 1003 0 0] ]
abbrev srcH (g:Lng)(w:List Int)(shr:Bool)(fin:Nat)(id:Int)(is:Bool)(tr:Tr):Hp:=
 [(1000,.box 478 (srcC g w shr fin)),(1001,.mp 1 (tr.map trD)),(1002,.box 3 [.d (dI id)]),(1003,.box 4 [.d (dB is)])]
theorem D0b (x:Tx):∀ tr:Tr,mget (tr.map trD) (.s x)=(trG tr x).map dB
 | []=>rfl
 | (k,b)::r=>by
  rw [List.map_cons,mget,trG]
  by_cases h:k=x
  ·rw [if_pos (by rw [h]),if_pos h];rfl
  ·rw [if_neg (by simpa using h),if_neg h,D0b x r]
theorem C9t (x:Tx)(b:Bool):∀ tr:Tr,trG tr x=none→mset (tr.map trD) (.s x) (dB b)=(tr++[(x,b)]).map trD
 | [],_=>rfl
 | (k,c)::r,h=>by
  rw [trG] at h
  by_cases e:k=x
  ·rw [if_pos e] at h;cases h
  ·rw [if_neg e] at h
   rw [List.map_cons,mset,if_neg (by simpa using e),C9t x b r h];rfl
structure LgS (g:Lng):Prop where
 segs:g.segs.length≤60
 rules:∀ r∈g.rules,RewS r
 steps:∀ x∈g.net.steps,0≤x.frm∧x.frm<32∧0≤x.til∧x.til<32
 final:∀ q∈g.net.final,0≤q∧q<32
 lex:g.lex.length≤100
 sens:∀ e∈g.lex,e.senses.length≤1000
 alts:∀ e∈g.lex,e.alts.length≤1000
 forms:∀ e∈g.lex,∀ f∈A5n e,f.length≤1000∧∀ x∈f,0≤x∧x≤255
theorem C9l {a q:Nat}(ha:a<4294967296)(hq:q<32):a ||| 2 ^ q<4294967296:=by
 have h2:2 ^ q<2 ^ 32:=Nat.pow_lt_pow_right oEw hq
 exact Nat.or_lt_two_pow (n:=32) ha h2
def aftS (st:Nat)(cls:Int)(out:Nat)(x:Stp):Nat:=if x.cls=cls∧(st >>> x.frm.toNat) &&& 1=1 then out ||| 2 ^ x.til.toNat else out
theorem C5l {l:List Stp}{st:Nat}{cls:Int}(hs:∀ x∈l,0≤x.frm∧x.frm<32∧0≤x.til∧x.til<32):∀ {o:Nat},o<4294967296→l.foldl (aftS st cls) o<4294967296:=by
 induction l with
 | nil=>intro o h;exact h
 | cons x r ih=>
  intro o h
  rw [List.foldl_cons]
  refine ih (fun y hy=>hs y (List.mem_cons_of_mem _ hy)) ?_
  unfold aftS
  split
  ·exact C9l h (by have:=hs x (List.mem_cons_self ..);omega)
  ·exact h
theorem D8e {g:Lng}(hg:LgS g)(st:Nat)(cls:Int):aftP g.net.steps st cls<4294967296:=C5l (st:=st) (cls:=cls) hg.steps oEw
attribute [local irreducible] X XL XW XG XK Val LS Fp Fo Calls bodyPost Code.wp
theorem c390 (g:Lng)(w:List Int)(shr:Bool)(fin:Nat)(id:Int)(is:Bool)(tr:Tr)(hg:LgS g)(st:Nat)(cls:Int)(hst:st<4294967296) :
    Fo Tryz.prog 390 [.p 1000 0 0,.d (.v (u32 st)),.d (dI cls)] (srcH g w shr fin id is tr) (.d (.v (u32 (aftP g.net.steps st cls)))) (srcH g w shr fin id is tr):=by
  have e:aftP g.net.steps st cls=g.net.steps.foldl (aftS st cls) 0:=rfl
  rw [e]
  refine fo_X (n:=40) Tryz.func390 rfl Tryz.ntmps390 rfl fun c hM=>?_
  (repeat' (first|refine Wz ?_|refine Wb fun hb=>?_))
  refine X_lp (ι:=Nat) 549755683456 [] (fun i=>[(7,.d (.v (u32 ((g.net.steps.take i).foldl (aftS st cls) 0)))),(17,.d (dI i))]) (fun _=>[]) (fun i=>i≤g.net.steps.length) (fun i=>g.net.steps.length-i) (0) ?_ ?_
  · exact zLw
  rintro i hi
  by_cases hlt:i<g.net.steps.length
  rotate_left
  · have hz:i=g.net.steps.length:=oEw
    subst hz
    rw [List.take_length]
    (repeat' (first|refine Wz ?_|apply Wd <;>intro hh))
    all_goals (try exact oMw)
    (first|exact A9 hM Z Z Z tRw Z Z|exact C0 (A9 hM Z Z Z tRw Z Z))
  obtain⟨x,hx⟩:=gex hlt
  have hxs:=hg.steps x (List.mem_of_getElem? hx)
  have hfold:=J0 (f:=aftS st cls) (b:=0) hx
  have hol:=C5l (l:=g.net.steps.take i) (st:=st) (cls:=cls) (fun y hy=>hg.steps y (List.mem_of_mem_take hy)) (o:=0) oEw
  obtain⟨o,ho⟩:∃ o,(g.net.steps.take i).foldl (aftS st cls) 0=o:=⟨_,rfl⟩
  rw [ho] at hfold hol ⊢
  obtain⟨xf,xc,xt⟩:=x
  dsimp only at hxs hfold
  obtain⟨qf,rfl⟩:∃ q:Nat,xf=(q:Int):=⟨xf.toNat,oEw⟩
  obtain⟨qt,rfl⟩:∃ q:Nat,xt=(q:Int):=⟨xt.toNat,oEw⟩
  have hsh:st >>> qf<4294967296:=Nat.lt_of_le_of_lt (Nat.shiftRight_le _ _) hst
  have hol2:=C9l hol (show qt<32 by omega)
  have hpow:2 ^ qt<4294967296:=Nat.pow_lt_pow_right (m:=qt) (n:=32) oEw oEw
  simp only [aftS,Int.toNat_natCast] at hfold
  (repeat' (first|refine G_x (A2 (m:=i) Z Z Z Z (gm hx)) Z Z ?_|refine G_x (A7 fun _=>C5z (m:=st) (q:=qf) Z Z Z oEw) Z Z ?_|refine G_x (A7 fun _=>X4 (a:=st >>> qf) (b:=1) Z Z Z hsh (by decide)) Z Z ?_|refine G_x (A7 fun _=>B1e (q:=qt) Z Z Z oEw) Z Z ?_|refine G_x (A7 fun _=>B6r (a:=o) (b:=2 ^ qt) Z Z Z hol hpow) Z Z ?_|refine Wz ?_|apply Wd <;>intro hh))
  all_goals (try exact oMw)
  all_goals first
    | (rw [if_pos (by constructor <;> first | assumption | omega)] at hfold
       exact A0 (i+1) oEw oEw (hf:=A6 (by rw [hfold];rfl) (A6 Z (B8 _))))
    | (rw [if_neg (fun h => by first | exact absurd h.1 (by assumption) | (have := h.2; omega))] at hfold
       exact A0 (i+1) oEw oEw (hf:=A6 (by rw [hfold];rfl) (A6 Z (B8 _))))
theorem c389 (g:Lng)(w:List Int)(fin:Nat)(id:Int)(is:Bool)(tr:Tr)(shr:Bool)(hg:LgS g)(base:List Int)(hbl:base.length≤24)(hbx:∀ x∈base,0≤x∧x≤255) :
  Fo Tryz.prog 389 [.p 1000 0 0,.d (ints base)] (srcH g w shr fin id is tr) (.d (dB (B3p g w base tr).1)) (srcH g w shr fin id is (B3p g w base tr).2):=by
 have ck:=c392 base hbx oEw
 have hm:=D0b (keyT base) tr
 unfold B3p
 cases ht:trG tr (keyT base) with
 | some b=>
  rw [ht] at hm
  dsimp only
  refine fo_X (n:=53) Tryz.func389 rfl Tryz.ntmps389 rfl fun c hM=>?_
  (repeat' (first|refine cDw D2a ck ?_|refine G_x (A0t (ky:=.s (keyT base)) Z Z Z Z Z Z Z (by exact hm)) Z Z ?_|refine Wz ?_|fail))
  all_goals (try exact oMw)
  (first|exact A9 hM Z Z Z tRw Z Z|exact C0 (A9 hM Z Z Z tRw Z Z))
 | none=>
  rw [ht] at hm
  dsimp only
  have hms:=fun b=>C9t (keyT base) b tr ht
  have cl:=c393 g.segs g.rules base oEw hg.rules (Nat.le_trans hg.segs oEw)
  obtain⟨v,hv⟩:∃ v,B8m g.segs g.rules base=v:=⟨_,rfl⟩
  have hfit:fitB g w base=(decide (v.length≠0)&&decide (v=w)):=by unfold fitB;rw [hv]
  rw [hv] at cl
  rw [hfit]
  have ce:=c394 v w
  obtain⟨q,hq⟩:∃ q,decide (v=w)=q:=⟨_,rfl⟩
  rw [hq] at ce ⊢
  by_cases h0:v.length=0
  ·rw [decide_eq_false (show ¬ v.length≠0 by omega),Bool.false_and]
   have hms0:mset (tr.map trD) (.s (keyT base)) (.v (.bool false))=(tr++[(keyT base,false)]).map trD:=hms false
   refine fo_X (n:=53) Tryz.func389 rfl Tryz.ntmps389 rfl fun c hM=>?_
   (repeat' (first|refine cDw D2a ck ?_|refine G_x (A0t (ky:=.s (keyT base)) Z Z Z Z Z Z Z (by exact hm)) Z Z ?_|refine cDw G0a cl ?_|refine cDw D9z ce ?_|(refine G_s (N2 (ky:=.s (keyT base)) Z Z Z Z Z Z Z Z) Z Z Z ?_;rw [hms0])|refine Wz ?_|refine Wb fun hb=>?_|apply Wd <;>intro hh))
   all_goals (try exact oMw)
   (first|exact A9 hM Z Z Z tRw Z Z|exact C0 (A9 hM Z Z Z tRw Z Z))
  ·rw [decide_eq_true (show v.length≠0 by omega),Bool.true_and]
   have hmsq:mset (tr.map trD) (.s (keyT base)) (dB q)=(tr++[(keyT base,q)]).map trD:=hms q
   refine fo_X (n:=53) Tryz.func389 rfl Tryz.ntmps389 rfl fun c hM=>?_
   (repeat' (first|refine cDw D2a ck ?_|refine G_x (A0t (ky:=.s (keyT base)) Z Z Z Z Z Z Z (by exact hm)) Z Z ?_|refine cDw G0a cl ?_|refine cDw D9z ce ?_|(refine G_s (N2 (ky:=.s (keyT base)) Z Z Z Z Z Z Z Z) Z Z Z ?_;rw [hmsq])|refine Wz ?_|refine Wb fun hb=>?_|apply Wd <;>intro hh))
   all_goals (try exact oMw)
   (first|exact A9 hM Z Z Z tRw Z Z|exact C0 (A9 hM Z Z Z tRw Z Z))
end
section
open Go.RowKit Go.En Go.Dl Go.Tp
structure GD (d:Doc):Prop where
 nn:d.notes.length≤14
 nt:d.tiers.length≤6
 tr:∀ n∈d.notes,0≤n.tier∧n.tier<(d.tiers.length:Int)
 up:∀ n∈d.notes,∀ m∈d.notes,n.parent=m.id→m.tier<n.tier
 tp:∀(i:Nat) (t:Tier),d.tiers[i]?=some t→t.kind≠0→0≤t.parent∧t.parent<(i:Int)
 ids:(d.notes.map (·.id)).Pairwise (·<·)
theorem H3 {l:List Note}{id:Int}{n:Note}(h:getN l id=some n):n∈l∧n.id=id:=by
 unfold getN at h
 exact⟨List.mem_of_find?_eq_some h,by have:=List.find?_some h;simpa using this⟩
def wO (d:Doc):Nat→Option Note→Option Spn
 | 0,_=>none
 | _+1,none=>none
 | k+1,some n=>if alB d.tiers n.tier then some (spOf n) else wO d k (getN d.notes n.parent)
theorem C7p (d:Doc):∀(k:Nat) (id:Int),whrF d k id=wO d k (getN d.notes id)
 | 0,_=>rfl
 | k+1,id=>by
  rw [whrF]
  cases h:getN d.notes id with
  | none=>rfl
  | some n=>rw [wO];simp only [C7p d k]
def wM:Option Note→Nat
 | none=>0
 | some n=>n.tier.toNat+1
theorem C2e {d : Doc}(hg : GD d) : ∀ (k k' : Nat) (o : Option Note), (∀ n, o = some n → n ∈ d.notes) → wM o ≤ k → wM o ≤ k' → wO d k o = wO d k' o
 | 0,0,_,_,_,_=>rfl
 | 0,k'+1,none,_,_,_=>rfl
 | 0,_+1,some n,_,h,_=>by simp [wM] at h
 | k+1,0,none,_,_,_=>rfl
 | _+1,0,some n,_,_,h=>by simp [wM] at h
 | k+1,k'+1,none,_,_,_=>rfl
 | k + 1, k' + 1, some n, hm, h1, h2 => by
  rw [wO,wO]
  split
  ·rfl
  ·have hn:=hm n rfl
   have hm':∀ m,getN d.notes n.parent=some m→m∈d.notes:=fun m h=>(H3 h).1
   have hlt:wM (getN d.notes n.parent)≤n.tier.toNat:=by
    cases hp:getN d.notes n.parent with
    | none=>exact Nat.zero_le _
    | some m=>
     have hmm:=H3 hp
     have h3:=hg.up n hn m hmm.1 hmm.2.symm
     have h4:=hg.tr m hmm.1
     simp only [wM];omega
   simp only [wM] at h1 h2
   exact C2e hg k k' _ hm' (by omega) (by omega)
theorem G5d {d:Doc}(hg:GD d){o:Option Note}(hm:∀ n,o=some n→n∈d.notes):wM o≤d.tiers.length:=by
 cases o with
 | none=>exact Nat.zero_le _
 | some n=>have:=hg.tr n (hm n rfl);simp only [wM];omega
def spn0:Spn:=⟨0,0⟩
end
section
open Go.RowKit Go.En Go.Dl Go.Tp
theorem B9n {G:Nat→Prop}{w:World}{b:Nat}:∀(vs:List Value) (off:Nat),DR.cellsR G w b off (vs.map Dt.v)→At w b off vs
 | [],_,_=>fun j v hv=>by simp at hv
 | x :: r, off, h => by
  rw [List.map_cons,DR.cellsR] at h
  obtain⟨⟨u,h3,_,h4⟩,h5⟩:=h
  rw [DR] at h4
  subst h4
  have ih:=B9n r (off+1) h5
  intro j v hv
  cases j with
  | zero=>cases hv;exact h3
  | succ j=>
   have:=ih j v hv
   rwa [show off+1+j=off+(j+1) by omega] at this
theorem D4z {w:World}{b off:Nat}{xs ys:List Value}(h:At w b off xs)(k:At w b (off+xs.length) ys):At w b off (xs++ys):=by
 intro j v hv
 by_cases hj:j<xs.length
 ·rw [List.getElem?_append_left hj] at hv;exact h j v hv
 ·rw [List.getElem?_append_right (by omega)] at hv
  have:=k (j-xs.length) v hv
  rwa [show off+xs.length+(j-xs.length)=off+j by omega] at this
theorem A8p {α:Type}{C:α→List Dt}{V:α→List Value}{n:Nat}(hC:∀ a,C a=(V a).map Dt.v)(hn:∀ a,(V a).length=n){G:Nat→Prop}{w:World}{b:Nat}:∀(l:List α) (off:Nat),DR.rowsR G w b n off (l.map C)→At w b off (l.map V).flatten
 | [],_,_=>fun j v hv=>by simp at hv
 | x::r,off,h=>by
  rw [List.map_cons,DR.rowsR] at h
  obtain⟨⟨_,h1⟩,h2⟩:=h
  rw [hC] at h1
  rw [List.map_cons,List.flatten_cons]
  exact D4z (B9n _ _ h1) (by rw [hn];exact A8p hC hn r (off+n) h2)
def A0i (n:Note):List Value:=[int n.id,int n.tier,int n.parent,int n.frm,int n.til,int n.rank,str n.text]
theorem C3j (n:Note):C4 n=(A0i n).map Dt.v:=rfl
instance:Rep Note where
 sz:=7
 pos:=by decide
 at_ _ _ n cs:=cs=A0i n
 len h:=by rw [h];rfl
 one h:=by rw [h];rfl
 move h _:=h
theorem B2i {G:Nat→Prop}(w:World):∀ l:List Note,AtsG G w l (l.map A0i)
 | []=>trivial
 | _::r=>⟨rfl,B2i w r⟩
theorem D3v {G:Nat→Prop}{w:World}{u:Value}{l:List Note}(h:DR G w (.s 7 (l.map C4)) u):Sl w u l:=by
 rw [DR] at h
 obtain⟨a,cap,h1,h2,h3,h4⟩:=h
 rw [List.length_map] at h1 h2 h3 h4
 refine⟨a,cap,h1,h2,h3,fun h0=>?_⟩
 obtain⟨b,off,h5,_,h7⟩:=h4 h0
 exact⟨b,off,h5,trivial,_,B2i w l,A8p C3j (fun _=>rfl) l off h7⟩
end
end Go.Proofs.YtojadfppncgphaaGreatDoor
namespace Go.En
open Go.RowKit Go.MapKept
def MapF (w:World)(r:Nat)(f:Int→Option Value):Prop:=
 ∃ es clock,w.heap[r]?=some (.map es clock)∧Stamped es clock∧(∀ x∈es.toList,IsKey (.int .i64) x.key)∧∀ k v,f k=some v↔∃ e∈es.toList,e.key=int k∧e.val=v
theorem MapF.lt {w:World}{r:Nat}{f:Int→Option Value}(h:MapF w r f):r<w.heap.size:=by
 obtain⟨_,_,h,_⟩:=h;exact(Array.getElem?_eq_some_iff.1 h).1
theorem MapF.same {w w':World}{r:Nat}{f:Int→Option Value}(h:MapF w r f)(e:w'.heap[r]?=w.heap[r]?):MapF w' r f:=by
 obtain⟨es,c,h1,h2⟩:=h;exact⟨es,c,e.trans h1,h2⟩
theorem MapF.ext {w w':World}{r:Nat}{f:Int→Option Value}(h:MapF w r f)(x:Ext w w'):MapF w' r f:=h.same (x.block h.lt)
theorem MapF.kb {g:Option Nat}{w w':World}{r:Nat}{f:Int→Option Value}(h:MapF w r f)(k:Kb g w w')(hne:some r≠g):MapF w' r f:=h.same (World.grownBy.block k r h.lt hne)
theorem B3q {es:Array MapEntry}{clock:Nat}{f:Int→Option Value}(hs:Stamped es clock)(hk:∀ x∈es.toList,IsKey (.int .i64) x.key)(hf:∀ k v,f k=some v↔∃ e∈es.toList,e.key=int k∧e.val=v)(k:Int) :
  (f k=none∧Instr.findNow (.int .i64) (int k) es.toList 0=some none∧∀ x∈es.toList,x.key≠int k)∨∃ j e,f k=some e.val∧Instr.findNow (.int .i64) (int k) es.toList 0=some (some (j,e.val))∧es.toList[j]?=some e∧e.key=int k:=by
 have hik:IsKey (.int .i64) (int k):=rfl
 rcases findNow_spec hik es.toList 0 hk with⟨h1,h2⟩|⟨j,e,h1,h2,h3⟩
 ·refine .inl ⟨?_,h1,h2⟩
  cases hfk:f k with
  | none=>rfl
  | some v=>
   obtain⟨e,he,hek,_⟩:=(hf k v).1 hfk
   exact absurd hek (h2 e he)
 ·rw [Nat.zero_add] at h1
  exact .inr ⟨j,e,(hf k e.val).2 ⟨e,List.mem_of_getElem? h2,h3,rfl⟩,h1,h2,h3⟩
section
variable {P : Program}{n : Nat}{Q : Post}{L : List (Nat × Value)}{w : World}{ops : List Oper}{o : Oper}{rest : List Oper}
theorem C1y {d:Nat}{t:TypeId}(hg:gst ops L o=some true)(hd:odst n o.dst=some d)(ho:o.op=.makeMap t none)
  (k:∀ r w',r=w.heap.size→MapF w' r (fun _=>none)→Ext w w'→EL P n ops Q rest ((d,.map (some r))::L) w'):EL P n ops Q (o::rest) L w:=by
 refine R6 (w':=w.alloc (.map #[] 0)) hg hd (fun ρ _=>?_) (k _ _ rfl ⟨#[],0,(heap_alloc w _).1,stamped_empty 0,by simp,by simp⟩ (J1 _ _))
 simp [execOp,ho,Instr.makeMap,go_sem]
theorem A2r {t kt et:TypeId}{x i:Operand}{r:Nat}{z:Value}{size bytes:Nat}{f:Int→Option Value}{k:Int}[um:UT P t (.map kt et)][uk:UT P kt (.int .i64)][ti:TI P et z size bytes](hm:MapF w r f)(ho:o.op=.lookup t x i false)(hx:ev L x=some (.map (some r)))(hi:ev L i=some (int k)) :
  Val P L w o ((f k).getD z):=fun ρ ha=>by
 have h1:=ha.ev (by rw [ho];simp [Op.operands]) hx
 have h2:=ha.ev (by rw [ho];simp [Op.operands]) hi
 obtain⟨es,clock,hb,hs,hks,hf⟩:=hm
 have hik:IsKey (.int .i64) (int k):=rfl
 obtain⟨i0,hi0,hz0,_,_⟩:=Q0 (P:=P) (t:=et) w
 have h5:(zeroValue et).run P w=.ok z w:=by simp [zeroValue,hi0,hz0]
 have h6:=run_checkKey (P:=P) (w:=w) uk.u hik (es.isEmpty) 9999
 rcases B3q hs hks hf k with⟨e1,e2,_⟩|⟨j,e,e1,e2,e3,e4⟩
 ·have h7:=run_findKey (P:=P) (w:=w) uk.u e2
  rw [e1]
  simp only [execOp,ho,Instr.lookup,h1,h2]
  simp [run_underlying um.u,Go.MapKept.run_getObj_map hb,h6,h7,h5,Result.andThen]
 ·have h7:=run_findKey (P:=P) (w:=w) uk.u e2
  rw [e1]
  simp only [execOp,ho,Instr.lookup,h1,h2]
  simp [run_underlying um.u,Go.MapKept.run_getObj_map hb,h6,h7,Result.andThen]
end
end Go.En
namespace Go.En
open Go.RowKit
section
variable {P : Program}{n : Nat}{Q : Post}{ops : List Oper}
theorem run_lit {L : List (Nat × Value)}{w : World}{o : Oper}{t e : TypeId}{z : Value}{size bytes len : Nat}{ps : List (Nat × Operand)}{vs cs : List Value}[UT P t (.slice e)][TI P e z size bytes](ho : o.op = .buildSlice t len ps.toArray)
  (hps:evs L 0 ps=some vs) (hv:vs.all (fun v=>Nat.beq v.cells.size size)=true) (hl:Nat.beq vs.length len=true) (hsm:Nat.ble (len*size) 16777216=true) (hcs:(vs.map fun v=>v.cells.toList).flatten=cs) {ρ:Operand→Value} (ha:Agree L o ρ) :
  (execOp ρ o).run P w=.ok (.value (.slice (some ⟨w.heap.size,0,none⟩) len len)) (w.alloc (.cells cs.toArray e)):=by
 have hps':=C1j L ps 0 vs hps
 have hp:(ps.map fun p=>(p.1,ρ p.2))=(vs.zipIdx).map fun p=>(p.2,p.1):=by
  have hx:∀ p∈ps,∀ v,ev L p.2=some v→ρ p.2=v:=fun p hm v hv=>ha.ev (by rw [ho];simp [Op.operands];exact⟨p.1,hm⟩) hv
  clear ho hps
  generalize 0=j at hps' ⊢
  clear hl hv hcs ha
  induction ps generalizing vs j with
  | nil=>cases vs with|nil=>rfl|cons _ _=>simp at hps'
  | cons p r ih=>
   cases vs with
   | nil=>simp at hps'
   | cons v vr=>
    simp only [List.map_cons,List.zipIdx_cons,List.cons.injEq,Prod.mk.injEq] at hps' ⊢
    exact⟨⟨hps'.1.1,hx p (by simp) v hps'.1.2⟩,ih (fun q hm u hu=>hx q (by simp [hm]) u hu) (j+1) hps'.2⟩
 have:=run_buildSlice (P:=P) (t:=t) (w:=w) (vs:=vs) (len:=len) (size:=size) (fun v hm=>Nat.eq_of_beq_eq_true (List.all_eq_true.1 hv v hm)) (Nat.eq_of_beq_eq_true hl) (Nat.le_of_ble_eq_true hsm)
 rw [hcs] at this
 simp only [execOp,ho,List.map_toArray,hp]
 rw [Sem.run_bind,this]
 rfl
theorem D4c {w0:World}{o:Oper}{rest tl:List Oper}{G:List (Nat × Ent)}{d:Nat}{t e:TypeId}{z:Value}{size bytes len:Nat}{ps:List (Nat × Operand)}{vs cs:List Value}[UT P t (.slice e)][TI P e z size bytes](hg:ggst ops G o=some true)(hd:odst n o.dst=some d)(ho:o.op=.buildSlice t len ps.toArray)
  (hps:∀ δ,evs (mat δ G) 0 ps=some vs) (hv:vs.all (fun v=>Nat.beq v.cells.size size)=true) (hl:Nat.beq vs.length len=true) (hsm:Nat.ble (len*size) 16777216=true) (hcs:(vs.map fun v=>v.cells.toList).flatten=cs)
  (k:RQ P n ops w0 Q rest tl ((d,.r (fun u w=>∃ b,u=.slice (some ⟨b,0,none⟩) len len∧w0.heap.size≤b∧Row w b e cs))::G)):RQ P n ops w0 Q (o::rest) tl G:=
 D3y (T:=.r (fun u w=>∃ b,u=.slice (some ⟨b,0,none⟩) len len∧w0.heap.size≤b∧Row w b e cs)) hg (D1 hd).2 (fun _ _ _ _ xe h=>by obtain⟨b,e,h1,h2⟩:=h;exact⟨b,e,h1,h2.ext xe⟩)
  (fun w δ hw _ ρ ha=>.inl ⟨_,_,run_lit ho (hps δ) hv hl hsm hcs ha,⟨w.heap.size,rfl,hw.size,by have:=K4 w e cs.toArray;exact this⟩,J1 _ _⟩) (by rw [(D1 hd).1];exact k)
end
end Go.En
namespace Go.En
open Go.RowKit
section
variable {P : Program}{n : Nat}{Q : Post}{ops : List Oper}
abbrev Rg:=Nat × Nat × Bool
def C3c (x:Option (Nat × Value))(L:List (Nat × Value)):List (Nat × Value):=match x with|some y=>y::L|none=>L
def frame:List (Nat × Value)→List (Option (Nat × Value))→Nat→List (Nat × Value)
 | L,x::xs,i+1=>frame (C3c x L) xs i
 | L,_,_=>L
def VClause (P:Program)(ws:Nat→World)(L:List (Nat × Value))(o:Oper)(x:Option (Nat × Value))(g:Rg):Prop:=
 match g,x with
 | (lo,hi,true),some y=>∀ p,lo≤p→p≤hi→Val P L (ws p) o y.2
 | (_,_,true),none=>False
 | (q,_,false),some y=>∀ ρ,Agree L o ρ→(execOp ρ o).run P (ws q)=.ok (.value y.2) (ws (q+1))
 | (q,_,false),none=>∀ ρ,Agree L o ρ→(execOp ρ o).run P (ws q)=.ok .skip (ws (q+1))
def VQ (P:Program)(ws:Nat→World):List (Nat × Value)→List Oper→List (Option (Nat × Value))→List Rg→Prop
 | L,o::r,x::xs,g::gs=>VClause P ws L o x g∧VQ P ws (C3c x L) r xs gs
 | _,[],[],[]=>True
 | _,_,_,_=>False
theorem VQ.get {ws:Nat→World}:∀ {ops:List Oper} {L:List (Nat × Value)} {xs:List (Option (Nat × Value))} {gs:List Rg},VQ P ws L ops xs gs→∀ {i:Nat} {o:Oper},ops[i]?=some o→∃ x g,xs[i]?=some x∧gs[i]?=some g∧VClause P ws (frame L xs i) o x g
 | o::r,L,x::xs,g::gs,h,0,o',ho=>by
  simp at ho;subst ho
  exact⟨x,g,rfl,rfl,h.1⟩
 | o::r,L,x::xs,g::gs,h,i+1,o',ho=>by
  obtain⟨x',g',h1,h2,h3⟩:=VQ.get h.2 (i:=i) (by simpa using ho)
  exact⟨x',g',by simpa using h1,by simpa using h2,h3⟩
 | [],_,_,_,_,i,_,ho=>by simp at ho
 | _::_,_,[],_,h,_,_,_=>h.elim
 | _::_,_,_::_,[],h,_,_,_=>h.elim
theorem A9k : ∀ {xs : List (Option (Nat × Value))} {L : List (Nat × Value)} {i s : Nat} {v : Value}, lk (frame L xs i) s = some v → (∃ j, j < i ∧ xs[j]? = some (some (s, v))) ∨ (lk L s = some v ∧ ∀ j, j < i → ∀ u, xs[j]? ≠ some (some (s, u)))
 | [],L,i,s,v,h=>.inr ⟨by simpa [frame] using h,fun j _ u=>by simp⟩
 | x::xs,L,0,s,v,h=>.inr ⟨by simpa [frame] using h,fun j hj=>absurd hj (Nat.not_lt_zero _)⟩
 | x :: xs, L, i + 1, s, v, h => by
  rcases A9k (xs:=xs) (i:=i) (show lk (frame (C3c x L) xs i) s=some v from h) with⟨j,h1,h2⟩|⟨h1,h2⟩
  ·exact .inl ⟨j+1,by omega,by simpa using h2⟩
  ·cases x with
   | none=>exact .inr ⟨h1,fun j hj u=>by cases j with|zero=>simp|succ j=>simpa using h2 j (by omega) u⟩
   | some y=>
    obtain⟨k,z⟩:=y
    simp only [C3c,lk] at h1
    cases hb:Nat.beq k s with
    | true=>
     rw [hb] at h1;simp at h1
     have:=Nat.eq_of_beq_eq_true hb
     subst this;subst h1
     exact .inl ⟨0,by omega,rfl⟩
    | false=>
     rw [hb] at h1;simp at h1
     refine .inr ⟨h1,fun j hj u=>?_⟩
     cases j with
     | zero=>intro e;simp at e;rw [e.1] at hb;simp at hb
     | succ j=>simpa using h2 j (by omega) u
def rgOk (ops : List Oper)(ss : List Nat)(rg : List Rg) : Bool :=
 let b:=bf ops
 (List.range ops.length).all (fun i=>match rg.getD i (0,0,true) with
  | (lo,hi,true)=>Nat.ble lo ss.length&&(Nat.beq lo 0||(b.getD i 0).testBit (ss.getD (lo-1) 0))&&(Nat.ble ss.length hi||(b.getD (ss.getD hi 0) 0).testBit i)&&!(ss.any (Nat.beq i))
  | (q,_,false)=>Nat.blt q ss.length&&Nat.beq (ss.getD q 0) i)&&
 ss.all (fun i=>Nat.blt i ops.length)&&(List.range ss.length).all (fun q=>Nat.beq q 0||(b.getD (ss.getD q 0) 0).testBit (ss.getD (q-1) 0))
structure JS (n:Nat)(L0:List (Nat × Value))(Lr:List (Option (Nat × Value)))(ss:List Nat)(ws:Nat→World)(ops:List Oper)(C:Nat→Prop)(a:Act)(w:World):Prop where
 size:a.tmps.size=n
 nod:a.defers=[]
 base:∀ s v,lk L0 s=some v→(∀ j o,C j→ops[j]?=some o→o.dst≠some s)→a.tmps[s]?=some v
 reads:∀ j s v,C j→Lr[j]?=some (some (s,v))→a.tmps[s]?=some v
 ph:∃ p,p≤ss.length∧(∀ q i,ss[q]?=some i→(C i↔q<p))∧w=ws p
theorem A4m {α:Type}{l:List α}{i:Nat}{x d:α}(h:l[i]?=some x):l.getD i d=x:=by rw [List.getD_eq_getElem?_getD,h];rfl
theorem D8q {id:Nat}{L0:List (Nat × Value)}{w0:World}(ws:Nat→World)(Lr:List (Option (Nat × Value)))(rg:List Rg)(ss:List Nat)(hm:P.follows .mixedOrders=true)
  (hc:(A9z ops&&A9y ops ops.length&&C1q ops ops.length&&rgOk ops ss rg)=true) (hnd:ss.Nodup) (hgd:ops.all (fun o=>o.guard.isNone)=true) (hds:ops.all (fun o=>okd n o.dst)=true)
  (hLr:ops.map (·.dst)=Lr.map (Option.map Prod.fst)) (h0:ws 0=w0.drew) (hV:VQ P ws L0 ops Lr rg) (k:K n Q .normal (frame L0 Lr Lr.length) (ws ss.length)):E P n (.region id ops.toArray true) Q L0 w0:=by
 intro a ha
 simp only [Bool.and_eq_true] at hc
 obtain⟨⟨⟨hlow,hreads⟩,hdst⟩,hrg⟩:=hc
 simp only [rgOk,Bool.and_eq_true] at hrg
 obtain⟨⟨hrg1,hrg3⟩,hrg2⟩:=hrg
 have hlr:∀ {i:Nat} {o:Oper},ops[i]?=some o→∃ x,Lr[i]?=some x∧o.dst=x.map Prod.fst:=fun {i o} ho=>by
  have e:=congrArg (·[i]?) hLr
  simp only [List.getElem?_map,ho,Option.map_some] at e
  cases hx:Lr[i]? with
  | none=>rw [hx] at e;cases e
  | some x=>rw [hx] at e;exact⟨x,rfl,by simpa using e⟩
 have hll:Lr.length=ops.length:=by have:=congrArg List.length hLr;simpa using this.symm
 have rd_dst:∀ {j s:Nat} {v:Value},Lr[j]?=some (some (s,v))→∃ o,ops[j]?=some o∧o.dst=some s:=fun {j s v} hj=>by
  have hjl:=(List.getElem?_eq_some_iff.1 hj).1
  obtain⟨o,ho⟩:∃ o,ops[j]?=some o:=⟨_,List.getElem?_eq_getElem (by omega)⟩
  obtain⟨x,hx,hd⟩:=hlr ho
  rw [hj] at hx;cases hx
  exact⟨o,ho,hd⟩
 have dst_j:∀ {i j:Nat} {o o':Oper} {s:Nat},ops[i]?=some o→ops[j]?=some o'→o.dst=some s→o'.dst=some s→i=j:=fun ho ho' hd hd'=>
  A2a hdst ho (List.getElem?_eq_some_iff.1 ho).1 ho' (List.getElem?_eq_some_iff.1 ho').1 hd hd'
 refine wp_region_any hm ?_
 rw [show ops.toArray.size=ops.length by simp]
 have hfl:∀ i,¬ LsD (Array.replicate ops.length false) i:=fun i=>by
  unfold LsD;simp [Array.getElem?_replicate];split <;> simp
 refine H0y (J:=JS n L0 Lr ss ws ops) hlow (fun o ho=>by have:=List.all_eq_true.1 hgd o ho;simpa using this) ?_ ?_ _ _ a _ (by simp) (fun i o _ hi=>absurd hi (hfl i))
  ⟨ha.size,ha.nod,fun s v hs _=>ha.get s v hs,fun j s v hj=>absurd hj (hfl j),0,Nat.zero_le _,fun q i _=>⟨fun h=>absurd h (hfl i),fun h=>absurd h (Nat.not_lt_zero _)⟩,h0.symm⟩ (by
   have:=R0 (N:=ops.length) (Nat.zero_le _) (listed:=Array.replicate ops.length false) (fun i=>⟨fun h=>absurd h (hfl i),fun h=>absurd h (Nat.not_lt_zero _)⟩)
   omega)
 ·intro C C' a w i o I hcl hi ho hed hC' K Q' hK
  have hil:=(List.getElem?_eq_some_iff.1 ho).1
  obtain⟨p,hp1,hp2,hp3⟩:=I.ph
  subst hp3
  have hreach:∀ {j:Nat},Rch ops i j→C j:=fun hr=>hr.clo hcl (fun o2 ho2=>by rw [ho] at ho2;cases ho2;exact hed)
  have hag:Agree (frame L0 Lr i) o a.eval:=fun x hxo u hu=>G6s (fun s u he hl=>by
   subst he
   rcases A9k hl with⟨j,h1,h2⟩|⟨h1,h2⟩
   ·obtain⟨o2,ho2,hd2⟩:=rd_dst h2
    have hr:=W0 hreads ho hil ho2 (List.getElem?_eq_some_iff.1 ho2).1 (A0w hxo) hd2
    exact I.reads j s u (hreach (hr.1 h1)) h2
   ·refine I.base s u h1 (fun j o2 hj ho2 hd2=>?_)
    obtain⟨x2,hx2,hx3⟩:=hlr ho2
    rw [hd2] at hx3
    by_cases hji:j<i
    ·cases x2 with
     | none=>cases hx3
     | some y=>
      obtain⟨s2,v2⟩:=y
      simp at hx3;subst hx3
      exact h2 j hji _ hx2
    ·by_cases hje:j=i
     ·subst hje;exact hi hj
     ·have hr:=W0 hreads ho hil ho2 (List.getElem?_eq_some_iff.1 ho2).1 (A0w hxo) hd2
      exact hi ((hr.2 (by omega)).clo hcl (fun o3 ho3 e he hb=>hcl _ _ ho3 hj e he hb))) hu
  obtain⟨x,g,hx,hg,hcl2⟩:=hV.get ho
  obtain⟨x',hx',hdx⟩:=hlr ho
  rw [hx] at hx';cases hx'
  have hgd2:=List.all_eq_true.1 hrg1 i (by simpa using hil)
  rw [A4m hg] at hgd2
  have step:∀(v:Value) (w':World),(∀ y,x=some y→v=y.2)→(∃ p,p≤ss.length∧(∀ q i,ss[q]?=some i→(C' i↔q<p))∧w'=ws p)→JS n L0 Lr ss ws ops C' (a.put o.dst v) w':=by
   intro v w' hv hph
   have hsn:∀ {s:Nat},o.dst=some s→s<n:=fun hd=>by have:=List.all_eq_true.1 hds o (List.mem_of_getElem? ho);rw [hd] at this;exact Nat.le_of_ble_eq_true this
   refine⟨by rw [C8u];exact I.size,by rw [D6i];exact I.nod,fun s u hs hno=>?_,fun j s u hj hju=>?_,hph⟩
   ·rw [C8v (hno i o ((hC' i).2 (.inl rfl)) ho)]
    exact I.base s u hs (fun j o2 hj ho2=>hno j o2 ((hC' j).2 (.inr hj)) ho2)
   ·by_cases hji:j=i
    ·subst hji
     rw [hx] at hju;cases hju
     rw [hdx,hv _ rfl]
     exact G3f (by rw [I.size];exact hsn hdx)
    ·obtain⟨o2,ho2,hd2⟩:=rd_dst hju
     rw [C8v (fun e=>hji (dst_j ho2 ho hd2 e))]
     exact I.reads j s u (((hC' j).1 hj).resolve_left hji) hju
  obtain⟨lo,hi2,fl⟩:=g
  cases fl with
  | true=>
   simp only [Bool.and_eq_true,Bool.or_eq_true,Bool.not_eq_true'] at hgd2
   obtain⟨⟨⟨g1,g2⟩,g3⟩,g4⟩:=hgd2
   have g1':=Nat.le_of_ble_eq_true g1
   have hnotin:∀ q,ss[q]?≠some i:=fun q hq=>by
    have:ss.any (Nat.beq i)=true:=List.any_eq_true.2 ⟨i,List.mem_of_getElem? hq,Nat.beq_refl i⟩
    rw [this] at g4;cases g4
   have hlop:lo≤p:=by
    rcases g2 with g2|g2
    ·have:=Nat.eq_of_beq_eq_true g2;omega
    ·by_cases h00:lo=0
     ·omega
     ·obtain⟨z,hz⟩:∃ z,ss[lo-1]?=some z:=⟨_,List.getElem?_eq_getElem (by omega)⟩
      rw [A4m hz] at g2
      have:=(hp2 _ _ hz).1 (hreach (B0d g2))
      omega
   have hphi:p≤hi2:=by
    rcases g3 with g3|g3
    ·have:=Nat.le_of_ble_eq_true g3;omega
    ·apply Classical.byContradiction
     intro hn
     obtain⟨z,hz⟩:∃ z,ss[hi2]?=some z:=⟨_,List.getElem?_eq_getElem (by omega)⟩
     rw [A4m hz] at g3
     have hcz:=(hp2 _ _ hz).2 (by omega)
     exact hi ((B0d g3).clo hcl (fun o3 ho3 e he hb=>hcl _ _ ho3 hcz e he hb))
   cases x with
   | none=>exact hcl2.elim
   | some y=>
    have hrun:=hcl2 p hlop hphi a.eval hag
    unfold Oper.wp
    rw [hrun]
    refine hK y.2 (ws p) (step _ _ (fun y' e=>by cases e;rfl) ⟨p,hp1,fun q z hz=>?_,rfl⟩)
    rw [hC',← hp2 q z hz]
    exact⟨fun h=>h.resolve_left (fun e=>hnotin q (e▸hz)),.inr⟩
  | false =>
   simp only [Bool.and_eq_true] at hgd2
   obtain⟨g1,g2⟩:=hgd2
   have g1':lo<ss.length:=Nat.le_of_ble_eq_true g1
   have hq:ss[lo]?=some i:=by
    rw [List.getElem?_eq_getElem g1']
    have:=Nat.eq_of_beq_eq_true g2
    rw [List.getD_eq_getElem?_getD,List.getElem?_eq_getElem g1'] at this
    simpa using this
   have hpl:p=lo:=by
    have h1:¬ lo<p:=fun h=>hi ((hp2 _ _ hq).2 h)
    by_cases h00:lo=0
    ·omega
    ·have hb:=List.all_eq_true.1 hrg2 lo (by simpa using g1')
     simp only [Bool.or_eq_true] at hb
     rcases hb with hb|hb
     ·exact absurd (Nat.eq_of_beq_eq_true hb) h00
     ·obtain⟨z,hz⟩:∃ z,ss[lo-1]?=some z:=⟨_,List.getElem?_eq_getElem (by omega)⟩
      rw [A4m hq,A4m hz] at hb
      have:=(hp2 _ _ hz).1 (hreach (B0d hb))
      omega
   subst hpl
   have hph:∃ p',p'≤ss.length∧(∀ q i,ss[q]?=some i→(C' i↔q<p'))∧ws (p+1)=ws p':=by
    refine⟨p+1,g1',fun q z hz=>?_,rfl⟩
    rw [hC',hp2 q z hz]
    have hqz:z=i↔q=p:=by
     constructor
     ·intro e
      subst e
      exact(List.getElem?_inj (List.getElem?_eq_some_iff.1 hz).1 hnd).1 (hz.trans hq.symm)
     ·intro e
      subst e
      rw [hz] at hq;cases hq;rfl
    rw [hqz]
    omega
   cases x with
   | none=>
    have hrun:=hcl2 a.eval hag
    unfold Oper.wp
    rw [hrun]
    exact hK undef (ws (p+1)) (step _ _ (fun y' e=>by cases e) hph)
   | some y=>
    have hrun:=hcl2 a.eval hag
    unfold Oper.wp
    rw [hrun]
    exact hK y.2 (ws (p+1)) (step _ _ (fun y' e=>by cases e;rfl) hph)
 ·intro C a w hall I
  obtain⟨p,hp1,hp2,hp3⟩:=I.ph
  have hpe:p=ss.length:=by
   apply Classical.byContradiction
   intro hn
   obtain⟨z,hz⟩:∃ z,ss[p]?=some z:=⟨_,List.getElem?_eq_getElem (by omega)⟩
   have hzl:z<ops.length:=by
    exact Nat.le_of_ble_eq_true (List.all_eq_true.1 hrg3 z (List.mem_of_getElem? hz))
   have:=(hp2 _ _ hz).1 (hall z hzl)
   omega
  subst hpe
  subst hp3
  refine k a ⟨I.size,I.nod,fun s v hs=>?_⟩
  rcases A9k hs with⟨j,h1,h2⟩|⟨h1,h2⟩
  ·exact I.reads j s v (hall j (by omega)) h2
  ·refine I.base s v h1 (fun j o2 hj ho2 hd2=>?_)
   obtain⟨x2,hx2,hx3⟩:=hlr ho2
   rw [hd2] at hx3
   cases x2 with
   | none=>cases hx3
   | some y=>
    obtain⟨s2,v2⟩:=y
    simp at hx3;subst hx3
    exact h2 j (by have:=(List.getElem?_eq_some_iff.1 hx2).1;omega) _ hx2
theorem C8j {L:List (Nat × Value)}{w w':World}{o:Oper}{t:TypeId}{s x:Operand}{v v' u:Value}(ho:o.op=.call { callee:=.builtin .append,args:=#[s,x],argTypes:=#[t,t] })(hs:ev L s=some v)(hx:ev L x=some u)
  (hr:(Builtin.append_ #[t,t] o.type #[v,u]).run P w=.ok v' w'):∀ ρ,Agree L o ρ→(execOp ρ o).run P w=.ok (.value v') w':=fun ρ ha=>by
 have a1:=ha.ev (by rw [ho];simp [Op.operands,Call.operands]) hs
 have a2:=ha.ev (by rw [ho];simp [Op.operands,Call.operands]) hx
 simp only [execOp,ho,resolve,invoke,builtin,Sem.run_bind,Sem.run_pure,Result.andThen_ok,List.map_toArray,List.map_cons,List.map_nil,a1,a2,hr]
end
end Go.En
namespace Go.En
open Go.RowKit
section
variable {P : Program}{n : Nat}{Q : Post}{ops : List Oper}
structure JU (n:Nat)(Φ:(Nat→Prop)→(Nat→Value)→World→Prop)(C:Nat→Prop)(a:Act)(w:World):Prop where
 size:a.tmps.size=n
 nod:a.defers=[]
 phi:Φ C (fun s=>a.tmps.getD s undef) w
end
end Go.En
namespace Go.En
open Go.RowKit
section
variable {P : Program}{n : Nat}{Q : Post}{ops : List Oper}
structure JO (n:Nat)(L0:List (Nat × Value))(Lr:List (Option (Nat × Value)))(w0:World)(ops:List Oper)(ia is p:Nat)(t:TypeId)(Zc X:List Value)(C:Nat→Prop)(a:Act)(w:World):Prop where
 size:a.tmps.size=n
 nod:a.defers=[]
 ext:Ext w0 w
 base:∀ s v,lk L0 s=some v→(∀ j o,C j→ops[j]?=some o→o.dst≠some s)→a.tmps[s]?=some v
 reads:∀ j s v,C j→Lr[j]?=some (some (s,v))→a.tmps[s]?=some v
 hp:C ia→∃ b,a.tmps[p]?=some (.pointer (some ⟨b,0,none⟩))∧w0.heap.size≤b∧(C is→Row w b t X)∧(¬ C is→Row w b t Zc)
end
end Go.En
