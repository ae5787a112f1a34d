/- Own text. -/
import Derived.Test.YtojadfppncgphaaGreatDoorQYt
set_option linter.all false
set_option maxHeartbeats 8000000
set_option maxRecDepth 8000
namespace Go.En
open Go.RowKit
theorem D8c {P:Program}{w:World}(t ty:TypeId){e:TypeId}{z:Value}{size bytes:Nat}[ut:UT P t (.slice e)][ti:TI P e z size bytes]{v:Value}{B m:Nat}{xs:List Value}{b off q:Nat}(c:Nat){news:List Value}
  (hown:w.ownsRow B e size v m xs) (hB:B≤w.heap.size) (hat:At w b off news) (hl:news.length=q*size)
  (h1:news.all Value.oneCell'=true) (hz:z.cells.size=size) (hsz:Nat.ble 1 size=true) (hmax:(m+q)*bytes≤140737488355328) (hmax':m+q≤9223372036854775807) :
  ∃ v' w',(Builtin.append_ #[t,t] ty #[v,.slice (some ⟨b,off,none⟩) q c]).run P w=.ok v' w'∧w'.ownsRow B e size v' (m+q) (xs++news)∧Kb v.ownBlock w w'∧(v'.ownBlock=v.ownBlock∨v'.ownBlock=some w.heap.size):=by
 obtain⟨i0,hi,hz0,hz1,hz2⟩:=info_parts ti.i
 obtain⟨v',w',hr,h2,h3,_,h4⟩:=run_append_own_at (P:=P) (w:=w) (ty:=ty) B t e i0 z size bytes ut.u hi hz0 hz1 hz2 hz (Nat.le_of_ble_eq_true hsz) v m xs hown ⟨b,off,none⟩ q c news hl (fun j u hu=>by rw [D6];exact hat j u hu)
  (fun u hu=>List.all_eq_true.1 h1 u hu) (by unfold maxLen;omega) hmax hB
 exact⟨v',w',hr,h2,h3,h4⟩
end Go.En
namespace Go.Proofs.YtojadfppncgphaaGreatDoor
section
open Go.RowKit Go.En Go.Dl Go.Tp
theorem B3n {α β:Type}{f:α→List β}{m:Nat}:∀ l:List α,(∀ x∈l,(f x).length≤m)→(l.flatMap f).length≤m*l.length
 | [],_=>Nat.zero_le _
 | x::r,h=>by
  have h1:=B3n r (fun y hy=>h y (List.mem_cons_of_mem _ hy))
  have h2:=h x (List.mem_cons_self ..)
  rw [List.flatMap_cons,List.length_append,List.length_cons,Nat.mul_add,Nat.mul_one];omega
def szU:Nat→Nat
 | 0=>0
 | r+1=>14*(1+szU r)
theorem A8c {d:Doc}(hg:GD d):∀(k r:Nat) (id:Int),(∃ m∈d.notes,m.id=id∧(d.tiers.length:Int)≤m.tier+r+1)→(undG d k id).length≤szU r
 | 0,r,id,_=>Nat.zero_le _
 | k + 1, 0, id, ⟨m, hm, hid, hr⟩ => by
  rw [undG]
  have e:(d.notes.filter fun n=>decide (n.parent=id))=[]:=by
   rw [List.filter_eq_nil_iff]
   intro n hn hp
   have hp2:n.parent=id:=of_decide_eq_true hp
   have h1:=hg.up n hn m hm (by rw [hp2,hid])
   have h2:=(hg.tr n hn).2
   omega
  rw [e];exact Nat.zero_le _
 | k + 1, r + 1, id, ⟨m, hm, hid, hr⟩ => by
  rw [undG]
  have h1:=B3n (m:=1+szU r) (f:=fun n:Note=>n.id::undG d k n.id) (d.notes.filter fun n=>decide (n.parent=id)) (fun n hn=>by
   have hn2:=List.mem_filter.mp hn
   have hp2:n.parent=id:=of_decide_eq_true hn2.2
   have h1:=hg.up n hn2.1 m hm (by rw [hp2,hid])
   have h2:=A8c hg k r n.id ⟨n,hn2.1,rfl,by omega⟩
   rw [List.length_cons];omega)
  have h2:(d.notes.filter fun n=>decide (n.parent=id)).length≤14:=Nat.le_trans (List.length_filter_le _ _) hg.nn
  have h3:=Nat.mul_le_mul_left (1+szU r) h2
  rw [szU];omega
def DcAt (w:World)(v:Value)(d:Doc):Prop:=∃ sv tv nv,v=.agg #[int d.rc.id,str d.rc.name,int d.rc.len,int d.rc.day,sv,tv,nv]∧Sl w nv d.notes∧∃ G:Nat→Prop,(∀ b,G b→b<w.heap.size)∧DR G w (.g (docC d)) v
theorem DcAt.ext {w w':World}{v:Value}{d:Doc}(h:DcAt w v d)(x:Ext w w'):DcAt w' v d:=by
 obtain⟨sv,tv,nv,h1,h2,G,h3,h4⟩:=h
 exact⟨sv,tv,nv,h1,h2.ext x,G,fun b hb=>Nat.lt_of_lt_of_le (h3 b hb) x.size,h4.mv (fun b hb=>⟨hb,x.block (h3 b hb)⟩)⟩
def getR (l:List Note)(id:Int):Value:=match getN l id with
 | some p=>.tuple #[.agg (A0i p).toArray,.bool true]
 | none=>.tuple #[.agg (A0i L9).toArray,.bool false]
theorem D1i {l:List Note}{id:Int}{p:Note}(h:getN l id=some p):getR l id=.tuple #[.agg (A0i p).toArray,.bool true]:=by unfold getR;rw [h]
theorem C6r {l:List Note}{id:Int}(h:getN l id=none):getR l id=.tuple #[.agg (A0i L9).toArray,.bool false]:=by unfold getR;rw [h]
theorem B7y {G:Nat→Prop}{w:World}{n:Note}{b:Bool}{u:Value}(h:DR G w (.t [.g (C4 n),dB b]) u):u=.tuple #[.agg (A0i n).toArray,.bool b]:=by
 rw [DR] at h
 obtain⟨vs,rfl,h⟩:=h
 rw [DR.valsR] at h
 obtain⟨a,r,rfl,_,h1,h2⟩:=h
 rw [DR.valsR] at h2
 obtain⟨c,r2,rfl,_,h3,h4⟩:=h2
 rw [DR.valsR] at h4
 subst h4
 replace h3:DR G w (.v (.bool b)) c:=h3
 rw [DR] at h3
 subst h3
 rw [DR] at h1
 obtain⟨xs,rfl,h1⟩:=h1
 rw [C3j] at h1
 have:=B4l h1
 subst this
 rfl
theorem C8g (d:Doc)(v:Value)(id:Int)(w:World)(hv:DcAt w v d):Calls Tryz.prog 119 #[v,int id] w (Rt fun u w'=>u=getR d.notes id∧Ext w w'):=by
 obtain⟨_,_,_,_,_,G,h3,h4⟩:=hv
 refine Calls.mono (n119 d id w G [v,int id] h3 ?_) ?_
 ·rw [DR.valsR]
  refine⟨_,_,rfl,fun h=>Bool.noConfusion h,h4,?_⟩
  rw [DR.valsR]
  refine⟨_,_,rfl,fun h=>Bool.noConfusion h,?_,by rw [DR.valsR]⟩
  show DR G w (.v (int id)) (int id)
  rw [DR]
 ·rintro e w' ⟨u,rfl,hx,hd⟩
  refine⟨u,rfl,?_,hx⟩
  unfold getR
  cases hg:getN d.notes id with
  | none=>rw [hg] at hd;exact B7y hd
  | some p=>rw [hg] at hd;exact B7y hd
theorem C0n {d:Doc}{id:Int}{p:Note}(h:getN d.notes id=some p):K9 d id=srtR (undG d d.tiers.length id):=by unfold K9;rw [h]
theorem C0o {d:Doc}{id:Int}(h:getN d.notes id=none):K9 d id=[]:=by unfold K9;rw [h]
theorem C6d {d:Doc}(hg:GD d)(k:Nat){id:Int}{n:Note}(h:getN d.notes id=some n):(undG d k id).length≤579194:=by
 have hm:=H3 h
 have ht:=hg.tr n hm.1
 have h1:=A8c hg k 5 id ⟨n,hm.1,hm.2,by have:=hg.nt;omega⟩
 have h5:szU 5=579194:=by decide
 omega
theorem C1i {α:Type}{p:α→Bool}{l:List α}{i:Nat}{x:α}(h:l[i]?=some x)(hp:p x=true):(l.take (i+1)).filter p=(l.take i).filter p++[x]:=by
 obtain⟨hi,rfl⟩:=List.getElem?_eq_some_iff.1 h
 rw [List.take_succ_eq_append_getElem hi,List.filter_append]
 simp [hp]
theorem C6x {α:Type}{p:α→Bool}{l:List α}{i:Nat}{x:α}(h:l[i]?=some x)(hp:p x=false):(l.take (i+1)).filter p=(l.take i).filter p:=by
 obtain⟨hi,rfl⟩:=List.getElem?_eq_some_iff.1 h
 rw [List.take_succ_eq_append_getElem hi,List.filter_append]
 simp [hp]
theorem C6i {G:Nat→Prop}{w:World}{b off n cap:Nat}{xs:List Note}(h:SlG G w (.slice (some ⟨b,off,none⟩) n cap) xs){i:Nat}{t:Note}(hx:xs[i]?=some t):At w b (off+i*7) [int t.id,int t.tier,int t.parent,int t.frm,int t.til,int t.rank,str t.text]:=by
 obtain⟨cs,h1,h2⟩:=h.elem hx
 rw [show cs=_ from h1] at h2
 exact h2
def P7 (d:Doc)(i:Nat)(k:Int):List Int:=((d.notes.take i).filter fun n=>decide (n.parent=k)).map fun n=>n.id
theorem B3a (d:Doc)(k:Int):P7 d d.notes.length k=B3b d k:=by
 unfold P7 B3b C3z
 rw [List.take_length]
theorem C6p {d:Doc}{i:Nat}{q:Note}(h:d.notes[i]?=some q):P7 d (i+1) q.parent=P7 d i q.parent++[q.id]:=by
 unfold P7
 rw [C1i h (by simp),List.map_append];rfl
theorem B8o {d:Doc}{i:Nat}{q:Note}{k:Int}(h:d.notes[i]?=some q)(hk:k≠q.parent):P7 d (i+1) k=P7 d i k:=by
 unfold P7
 rw [C6x h (by simp;exact fun e=>hk e.symm)]
theorem B2z (d:Doc)(i:Nat)(k:Int):(P7 d i k).length≤d.notes.length:=by
 unfold P7
 rw [List.length_map]
 exact Nat.le_trans (List.length_filter_le _ _) (by rw [List.length_take];omega)
structure KF (d:Doc)(i:Nat)(Bw:Nat)(w:World)(f:Int→Option Value):Prop where
 none_:∀ k,f k=none→P7 d i k=[]
 some_:∀ k v,f k=some v→w.ownsRow Bw 3 1 v (P7 d i k).length ((P7 d i k).map int)∧0<(P7 d i k).length
 apart:∀ k k' v v',k≠k'→f k=some v→f k'=some v'→v.ownBlock≠v'.ownBlock
theorem B7t {w:World}{B:Nat}{e:TypeId}{size n:Nat}{v:Value}{xs:List Value}(h:w.ownsRow B e size v n xs)(h0:0<n):∃ b,v.ownBlock=some b:=by
 obtain⟨g,cap,tail,rfl,_⟩:=X8 h h0
 exact⟨g,rfl⟩
theorem KF.get {d:Doc}{i Bw:Nat}{w:World}{f:Int→Option Value}(h:KF d i Bw w f)(k:Int):w.ownsRow Bw 3 1 ((f k).getD (.slice none 0 0)) (P7 d i k).length ((P7 d i k).map int):=by
 cases hf:f k with
 | none=>rw [h.none_ k hf];exact World.ownsRow_nil _ _ _ _
 | some v=>exact(h.some_ k v hf).1
theorem KF.next {d : Doc}{i Bw r : Nat}{w w1 w2 w3 : World}{f : Int → Option Value}{q : Note}{v' : Value}(h : KF d i Bw w f)(hq : d.notes[i]? = some q)(hr : r < Bw)(x1 : Ext w w1)(k2 : Kb ((f q.parent).getD (.slice none 0 0)).ownBlock w1 w2)(k3 : Kb (some r) w2 w3)
  (ho:w2.ownsRow Bw 3 1 v' ((P7 d i q.parent).length+1) ((P7 d i q.parent).map int++[int q.id])) (hb:v'.ownBlock=((f q.parent).getD (.slice none 0 0)).ownBlock∨v'.ownBlock=some w1.heap.size):KF d (i+1) Bw w3 (fun j=>if j=q.parent then some v' else f j):=by
 have kept3:∀ {v:Value} {n:Nat} {xs:List Value},w2.ownsRow Bw 3 1 v n xs→w3.ownsRow Bw 3 1 v n xs:=fun {v n xs} hv=>hv.kept k3 (Or.inr (fun e=>by have:=(hv.lt r e).1;omega))
 have old:∀ k v,k≠q.parent→f k=some v→w3.ownsRow Bw 3 1 v (P7 d i k).length ((P7 d i k).map int):=fun k v hk hv=>by
  have h1:=N0 (h.some_ k v hv).1 x1
  refine kept3 (h1.kept k2 ?_)
  cases hp:f q.parent with
  | none=>
   right
   obtain⟨b,hb'⟩:=B7t h1 (h.some_ k v hv).2
   rw [hb']
   intro e;cases e
  | some v0=>exact Or.inr (h.apart k q.parent v v0 hk hv hp)
 have sep:∀ k v,k≠q.parent→f k=some v→v.ownBlock≠v'.ownBlock:=fun k v hk hv e=>by
  have h1:=(h.some_ k v hv)
  obtain⟨b,hb'⟩:=B7t h1.1 h1.2
  rcases hb with hb|hb
  ·cases hp:f q.parent with
   | none=>
    rw [hp] at hb
    rw [e,hb] at hb'
    cases hb'
   | some v0=>
    rw [hp] at hb
    exact h.apart k q.parent v v0 hk hv hp (e.trans hb)
  ·rw [e,hb] at hb'
   have hlt:=(h1.1.lt b (by rw [e,hb];exact hb')).2
   have:=x1.size
   cases hb'
   omega
 refine⟨fun k hk=>?_,fun k v hv=>?_,fun k k' v u hne hv hu=>?_⟩
 ·by_cases he:k=q.parent
  ·rw [if_pos he] at hk;cases hk
  ·rw [if_neg he] at hk
   rw [B8o hq he];exact h.none_ k hk
 ·by_cases he:k=q.parent
  ·rw [if_pos he] at hv;cases hv
   subst he
   rw [C6p hq,List.length_append,List.map_append]
   exact⟨kept3 ho,by simp⟩
  ·rw [if_neg he] at hv
   rw [B8o hq he]
   exact⟨old k v he hv,(h.some_ k v hv).2⟩
 ·by_cases he:k=q.parent
  ·rw [if_pos he] at hv;cases hv
   by_cases he':k'=q.parent
   ·exact absurd (he.trans he'.symm) hne
   ·rw [if_neg he'] at hu
    exact fun e=>sep k' u he' hu e.symm
  ·rw [if_neg he] at hv
   by_cases he':k'=q.parent
   ·rw [if_pos he'] at hu;cases hu
    exact sep k v he hv
   ·rw [if_neg he'] at hu
    exact h.apart k k' v u hne hv hu
theorem KF.ext {d:Doc}{i Bw:Nat}{w w':World}{f:Int→Option Value}(h:KF d i Bw w f)(x:Ext w w'):KF d i Bw w' f:=
 ⟨h.none_,fun k v hv=>⟨N0 (h.some_ k v hv).1 x,(h.some_ k v hv).2⟩,h.apart⟩
attribute [local irreducible] E EL K Val Enters Rt Calls bodyPost Code.wp RQ
theorem C6e {d:Doc}(h:GR d)(v:Value)(id:Int)(w:World)(hv:DcAt w v d):Calls Tryz.prog 189 #[v,int id] w (Rt fun u w'=>Ext w w'∧SlG (Nw w) w' u (K9 d id)):=by
 have hd0:=hv
 have hN:=h.g.nn
 obtain⟨sv,tv,nv,rfl,hn,_⟩:=hv
 refine G3 (n:=46) (args:=[.agg #[int d.rc.id,str d.rc.name,int d.rc.len,int d.rc.day,sv,tv,nv],int id]) Tryz.func189 rfl Tryz.ntmps189 (by simp) ?_
 have hn0:=hn
 obtain⟨a,cap,rfl,hc,hm,hp⟩:=hn.sl
 refine J2 ?_
 refine H8 ?_
 refine O9 Z Z Z Z (fun bD wD xD hbD rD0=>?_)
 have rD:Row wD bD 62 [int d.rc.id,str d.rc.name,int d.rc.len,int d.rc.day,sv,tv,.slice a d.notes.length cap]:=rD0
 clear rD0
 (repeat' (first|refine C1y Z Z Z (fun r wR hr mR xR=>?_)|refine Sy ?_|fail))
 refine J4 Z Z Z (fun bM wM xM hbM rM0=>?_)
 refine J3 (cs:=[.map (some r)]) rM0 (xR.trans xM) (by have:=xR.size;omega) Z Z Z Z Z Z Z Z (Nat.le_refl _) (fun w3 rM1 x3 k3=>?_)
 have rM:Row w3 bM 347 [.map (some r)]:=rM1
 have hrM:r≠bM:=fun e=>by have:=mR.lt;omega
 have mM:MapF w3 r (fun _=>none):=(mR.ext xM).kb k3 (fun e=>hrM (Option.some.inj e))
 have hrlt:r<w3.heap.size:=mM.lt
 have hblt:bM<w3.heap.size:=rM.lt
 have hrD:wD.heap.size≤r:=by omega
 have hbD2:wD.heap.size≤bM:=by have:=xR.size;omega
 clear rM0 rM1 k3 mR
 have rD3:=rD.ext x3
 (repeat' (first|refine eV Z Z (B5 Z Z Z (rD3.cellAt rfl)) ?_|refine Sy ?_|fail))
 obtain⟨Bw,hBw⟩:∃ Bw,Bw=w3.heap.size:=⟨_,rfl⟩
 rw [← hBw] at hrlt hblt
 refine A0e (ι:=Nat × (Int→Option Value)) (fun x=>[(1,int id),(2,.pointer (some ⟨bD,0,none⟩)),(5,.pointer (some ⟨bM,0,none⟩)),(14,.slice a d.notes.length cap),(15,int d.notes.length),(16,int x.1)])
  (fun x wr=>x.1≤d.notes.length∧Ext wD wr∧Bw≤wr.heap.size∧Row wr bM 347 [.map (some r)]∧MapF wr r x.2∧KF d x.1 Bw wr x.2) (fun x=>d.notes.length-x.1) (0,fun _=>none)
  ⟨rfl,rfl,rfl,rfl,rfl,rfl,trivial⟩ ⟨Nat.zero_le _,x3,by omega,rM,mM,⟨fun _ _=>rfl,fun _ _ e=>(by cases e),fun _ _ _ _ _ e=>(by cases e)⟩⟩ ?_
 rintro⟨i,f⟩ wr ⟨hi,hx,hBr,rMr,mr,kf⟩
 dsimp only at hi hx rMr mr kf ⊢
 have rDr:=rD.ext hx
 have hXr:=xD.trans hx
 by_cases hlt:i<d.notes.length
 ·obtain⟨b,off,rfl⟩:=hp (by omega)
  obtain⟨q,hq⟩:∃ q,d.notes[i]?=some q:=⟨_,List.getElem?_eq_getElem hlt⟩
  have hat:=C6i (hn0.ext hXr) hq
  (repeat' (first|refine eV Z Z (B7 (m:=i) Z Z Z Z (by omega)) ?_|refine eV Z Z (M8 Z Z Z hat rfl) ?_|refine Sy ?_|refine Dy (fun hh=>?_) fun hh=>?_))
  all_goals (first|(exfalso;omega)|skip)
  refine J4 Z Z Z (fun b7 w7 x7 hb7 r7=>?_)
  refine J3 (cs:=A0i q) r7 x7 (by omega) Z Z Z Z Z Z Z Z (Nat.le_refl _) (fun w8 r8' x8 k8=>?_)
  have r8:Row w8 b7 142 (A0i q):=r8'
  have hb78:b7<w8.heap.size:=r8.lt
  have hb7r:wr.heap.size≤b7:=by omega
  clear r8' r7 k8
  have rM8:=rMr.ext x8
  have m8:=mr.ext x8
  have kf8:=kf.ext x8
  have hx8:=hx.trans x8
  have hB8:Bw≤w8.heap.size:=by have:=x8.size;omega
  refine D4t ?_
  refine B0q ?_
  obtain⟨v0,hv0⟩:∃ v0,v0=(f q.parent).getD (.slice none 0 0):=⟨_,rfl⟩
  have own0:=kf.get q.parent
  rw [← hv0] at own0
  have hol:=B2z d i q.parent
  have xd:=V1 w8
  obtain⟨w1,hw1⟩:∃ w1,w1=w8.drew.alloc (.cells [int q.id].toArray 3):=⟨_,rfl⟩
  have x1:Ext w8.drew w1:=hw1▸J1 _ _
  have rL:Row w1 w8.drew.heap.size 3 [int q.id]:=by rw [hw1];exact K4 _ _ _
  have x81:=xd.trans x1
  have own1:=N0 own0 (x8.trans x81)
  obtain⟨v',w2,hrun,ho2,k2,hb2⟩:=D8c (P:=Tryz.prog) 31 31 1 (news:=[int q.id]) own1 (by have:=x81.size;omega) rL.at rfl rfl rfl rfl (by omega) (by omega)
  have hrne:∀ bb,bb<Bw→some bb≠v0.ownBlock:=fun bb hlt e=>by have:=(own0.lt bb e.symm).1;omega
  have h7ne:some b7≠v0.ownBlock:=fun e=>by have:=(own0.lt b7 e.symm).2;omega
  have m2:=(m8.ext x81).kb k2 (hrne r hrlt)
  obtain⟨w4,mu,k4,hst⟩:=C6k (P:=Tryz.prog) (t:=347) (v:=v') (k:=q.parent) inferInstance inferInstance m2
  have rMd:=rM8.ext xd
  have rM1:=rM8.ext x81
  have rM2:=k2.row rM1 (hrne bM hblt)
  have r7d:=r8.ext xd
  have r71:=r8.ext x81
  have r72:=k2.row r71 h7ne
  have rM4:=k4.row rM2 (fun e=>hrM (Option.some.inj e).symm)
  have hx4:Ext wD w4:=k4.ext (k2.ext (hx8.trans x81) (fun bb e=>by have:=(own0.lt bb e).1;omega)) (fun bb e=>by cases e;omega)
  have kf4:=kf.next hq hrlt (x8.trans x81) (hv0▸k2) k4 (by simpa using ho2) (hv0▸hb2)
  have hB4:Bw≤w4.heap.size:=by have:=Kb.size k4;have:=Kb.size k2;have:=x81.size;omega
  refine E.sub (M:=[(1,int id),(2,.pointer (some ⟨bD,0,none⟩)),(5,.pointer (some ⟨bM,0,none⟩)),(7,.pointer (some ⟨b7,0,none⟩)),(14,.slice (some ⟨b,off,none⟩) d.notes.length cap),(15,int d.notes.length),(16,int i)]) ⟨rfl,rfl,rfl,rfl,rfl,rfl,rfl,trivial⟩ ?_
  refine D8q (fun p=>match p with|0=>w8.drew|1=>w1|2=>w2|_=>w4)
   [some (20,.map (some r)),some (21,.pointer (some ⟨b7,0+2,none⟩)),some (22,int q.parent),some (23,.map (some r)),some (24,.pointer (some ⟨b7,0+2,none⟩)),some (25,int q.parent),some (26,v0),some (27,.pointer (some ⟨b7,0+0,none⟩)),some (28,int q.id),some (29,.slice (some ⟨w8.drew.heap.size,0,none⟩) 1 1),some (30,v'),none]
   [(0,2,true),(0,2,true),(0,2,true),(0,1,true),(0,1,true),(0,1,true),(0,1,true),(0,0,true),(0,0,true),(0,0,false),(1,0,false),(2,0,false)]
   [9,10,11] Q3 (by kernel_rfl) (by decide) rfl rfl rfl rfl
   ⟨fun p _ hp=>(match p,hp with
     | 0,_=>B5 Z Z Z (rMd.cellAt rfl)
     | 1,_=>B5 Z Z Z (rM1.cellAt rfl)
     | 2,_=>B5 Z Z Z (rM2.cellAt rfl)
     | p+3,hp=>absurd hp (by omega)),
    fun _ _ _=>zH Z Z,
    fun p _ hp=>(match p,hp with
     | 0,_=>B5 Z Z Z (r7d.cellAt rfl)
     | 1,_=>B5 Z Z Z (r71.cellAt rfl)
     | 2,_=>B5 Z Z Z (r72.cellAt rfl)
     | p+3,hp=>absurd hp (by omega)),
    fun p _ hp=>(match p,hp with
     | 0,_=>B5 Z Z Z (rMd.cellAt rfl)
     | 1,_=>B5 Z Z Z (rM1.cellAt rfl)
     | p+2,hp=>absurd hp (by omega)),
    fun _ _ _=>zH Z Z,
    fun p _ hp=>(match p,hp with
     | 0,_=>B5 Z Z Z (r7d.cellAt rfl)
     | 1,_=>B5 Z Z Z (r71.cellAt rfl)
     | p+2,hp=>absurd hp (by omega)),
    fun p _ hp=>(match p,hp with
     | 0,_=>hv0▸A2r (m8.ext xd) Z Z rfl
     | 1,_=>hv0▸A2r (m8.ext x81) Z Z rfl
     | p+2,hp=>absurd hp (by omega)),
    fun _ _ _=>zH Z Z,
    fun p _ hp=>(match p,hp with
     | 0,_=>B5 Z Z Z (r7d.cellAt rfl)
     | p+1,hp=>absurd hp (by omega)),
    fun ρ ha=>hw1▸run_lit (vs:=[int q.id]) (cs:=[int q.id]) rfl rfl rfl rfl rfl rfl ha,
    C8j rfl rfl rfl hrun,
    hst _ _ _ _ _ rfl rfl rfl rfl,trivial⟩ ?_
  refine at_K (w:=w4) ?_
  (repeat' (first|refine Sy ?_|fail))
  exact A2q (i+1,fun j=>if j=q.parent then some v' else f j) ⟨rfl,rfl,rfl,rfl,rfl,rfl,trivial⟩ ⟨by dsimp only;omega,hx4,hB4,rM4,mu,kf4⟩ (by dsimp only;omega)
 ·obtain rfl:i=d.notes.length:=by omega
  have cg:=C8g d _ id wr (hd0.ext hXr)
  cases hg:getN d.notes id with
  | none=>
   rw [C6r hg] at cg
   (repeat' (first|refine eV Z Z (M8 Z Z Z rDr.at rfl) ?_|(refine cqC cg M7 fun wC xC=>?_)|refine Sy ?_|refine Dy (fun hh=>?_) fun hh=>?_))
   all_goals (first|(exfalso;omega)|skip)
   refine J4 Z Z Z (fun bP wP xP hbP rP0=>?_)
   refine J3 (cs:=A0i L9) rP0 xP (by omega) Z Z Z Z Z Z Z Z (Nat.le_refl _) (fun w4 rP1 x4 k4=>?_)
   (repeat' (first|refine Sy ?_|fail))
   exact Q1 Z Z ⟨hXr.trans (xC.trans x4),by rw [C0o hg];exact SlG.nil⟩
  | some p=>
   rw [D1i hg] at cg
   (repeat' (first|refine eV Z Z (M8 Z Z Z rDr.at rfl) ?_|(refine cqC cg M7 fun wC xC=>?_)|refine Sy ?_|refine Dy (fun hh=>?_) fun hh=>?_))
   all_goals (first|(exfalso;omega)|skip)
   refine J4 Z Z Z (fun bP wP xP hbP rP0=>?_)
   refine J3 (cs:=A0i p) rP0 xP (by omega) Z Z Z Z Z Z Z Z (Nat.le_refl _) (fun w4 rP1 x4 k4=>?_)
   have x4r:=xC.trans x4
   clear rP0 rP1 k4
   (repeat' (first|refine Sy ?_|fail))
   refine J4 Z Z Z (fun bO w5 x5 hbO rO0=>?_)
   have rO:Row w5 bO 31 [.slice none 0 0]:=rO0
   (repeat' (first|refine Sy ?_|fail))
   refine J4 Z Z Z (fun bF w6 x6 hbF rF0=>?_)
   have rF:Row w6 bF 294 [.nilFunc]:=rF0
   clear rO0 rF0
   obtain⟨k0,hk0,hk0l⟩:=C3i h (B8t hg).1
   have x46:=x5.trans x6
   (repeat' (first|refine eV Z Z (J5 (vs:=[.pointer (some ⟨bM,0,none⟩),.pointer (some ⟨bO,0,none⟩),.pointer (some ⟨bF,0,none⟩)]) Z Z) ?_|refine Sy ?_|fail))
   refine J3 (cs:=[.func (.func 240) #[] #[.pointer (some ⟨bM,0,none⟩),.pointer (some ⟨bO,0,none⟩),.pointer (some ⟨bF,0,none⟩)] ]) rF x6 (by omega) Z Z Z Z Z Z Z Z (Nat.le_refl _) (fun w7 rF7 x7 k7=>?_)
   have rF7':Row w7 bF 294 [.func (.func 240) #[] #[.pointer (some ⟨bM,0,none⟩),.pointer (some ⟨bO,0,none⟩),.pointer (some ⟨bF,0,none⟩)] ]:=rF7
   have rO7:=rO.ext x7
   have x47:=x5.trans x7
   have hO4:w4.heap.size≤bO:=by omega
   have hF4:w4.heap.size≤bF:=by have:=x5.size;omega
   have hO7:bO<w7.heap.size:=rO7.lt
   have hF7:bF<w7.heap.size:=rF7'.lt
   have hOF:bO≠bF:=fun e=>by have:=rO.lt;omega
   have hkk:∀ k,Sl w4 ((f k).getD (.slice none 0 0)) (B3b d k):=fun k=>by
    have:=N0 (kf.get k) x4r
    rw [B3a] at this
    exact C9k (css:=(B3b d k).map fun z=>[int z]) (by rw [R4];exact this) (Y3 _ _) rfl (by have:=B2z d d.notes.length k;rw [B3a] at this;omega)
   have hdl:(undG d d.tiers.length id).length≤579194:=C6d h.g d.tiers.length hg
   have cC:=B9m h (rMr.ext x4r) (mr.ext x4r) hkk hO4 hO7 hF4 hF7 hOF d.tiers.length id p k0 [] (.slice none 0 0) w7 hg hk0 (by omega) (by simp;omega) ⟨x47,Nat.le_refl _,rF7',rO7,World.ownsRow_nil _ _ _ _⟩
   (repeat' (first|refine eV Z Z (B5 Z Z Z (rF7'.cellAt rfl)) ?_|(refine D7 Z Z (A1z (cap:=[.pointer (some ⟨bM,0,none⟩),.pointer (some ⟨bO,0,none⟩),.pointer (some ⟨bF,0,none⟩)]) Z Z Z G0t) cC (fun vC wE hE=>?_);obtain⟨v',J⟩:=hE)|refine Sy ?_|fail))
   have hJ:=J.own
   rw [List.nil_append] at hJ
   have hJo:=J.out
   have sJ:Sl wE v' (undG d d.tiers.length id):=C9k (css:=(undG d d.tiers.length id).map fun z=>[int z]) (by rw [R4];exact hJ) (Y3 _ _) (by simp) (by omega)
   have cS:=A6b _ v' wE sJ (by omega)
   have xE:=J.ext
   (repeat' (first|refine eV Z Z (B5 Z Z Z (hJo.cellAt rfl)) ?_|(refine D7 Z Z (D5 Z Z D2f) cS (fun vS wS hS=>?_);obtain⟨xS,sS⟩:=hS)|refine Sy ?_|fail))
   refine Q1 Z Z ⟨hXr.trans (x4r.trans (xE.trans xS)),?_⟩
   rw [C0n hg]
   exact sS.move fun b hb _=>⟨by have:=(hXr.trans (x4r.trans xE)).size;unfold Nw at hb ⊢;omega,rfl⟩
end
section
open Go.RowKit Go.En Go.Dl Go.Tp
theorem v_of {G:Nat→Prop}{w:World}{x u:Value}(h:DR G w (.v x) u):u=x:=by rw [DR] at h;exact h
theorem D8u {G:Nat→Prop}{w:World}{v:Value}{d:Doc}(hG:∀ b,G b→b<w.heap.size)(h:DR G w (.g (docC d)) v):DcAt w v d:=by
 have h0:=h
 rw [DR] at h
 obtain⟨vs,rfl,h⟩:=h
 replace h:DR.valsR G w true [.v (int d.rc.id),.v (str d.rc.name),.v (int d.rc.len),.v (int d.rc.day),ints d.rc.sp,.s 4 (d.tiers.map A0g),.s 7 (d.notes.map C4)] vs:=h
 rw [DR.valsR] at h
 obtain⟨a1,r1,rfl,_,e1,h⟩:=h
 rw [DR.valsR] at h
 obtain⟨a2,r2,rfl,_,e2,h⟩:=h
 rw [DR.valsR] at h
 obtain⟨a3,r3,rfl,_,e3,h⟩:=h
 rw [DR.valsR] at h
 obtain⟨a4,r4,rfl,_,e4,h⟩:=h
 rw [DR.valsR] at h
 obtain⟨a5,r5,rfl,_,e5,h⟩:=h
 rw [DR.valsR] at h
 obtain⟨a6,r6,rfl,_,e6,h⟩:=h
 rw [DR.valsR] at h
 obtain⟨a7,r7,rfl,_,e7,h⟩:=h
 rw [DR.valsR] at h
 subst h
 have q1:=v_of e1
 have q2:=v_of e2
 have q3:=v_of e3
 have q4:=v_of e4
 subst q1;subst q2;subst q3;subst q4
 exact⟨a5,a6,a7,rfl,D3v e7,G,hG,h0⟩
theorem u189 (d:Doc)(id:Int)(hg:GR d):Fp Tryz.prog 189 [.g (docC d),dI id] (ints (K9 d id)):=by
 intro w G us hG h
 rw [DR.valsR] at h
 obtain⟨u,us',rfl,_,hu,h2⟩:=h
 rw [DR.valsR] at h2
 obtain⟨i,us2,rfl,_,hi,h3⟩:=h2
 rw [DR.valsR] at h3
 subst h3
 have hi2:=v_of (show DR G w (.v (int id)) i from hi)
 subst hi2
 refine Calls.mono (C6e hg u id w (D8u hG hu)) ?_
 rintro e w' ⟨v,rfl,hx,hs⟩
 exact⟨v,rfl,hx,D4y hs fun b hb hlt=>.inr ⟨hb,hlt⟩⟩
end
section
open Go.RowKit Go.En Go.Dl Go.Tp
theorem vals_len {G:Nat→Prop}{w:World}:∀ {xs:List Dt} {vs:List Value},DR.valsR G w true xs vs→vs.length=xs.length∧vs.all Value.oneCell'=true
 | [],vs,h=>by
  rw [DR.valsR] at h
  subst h
  exact⟨rfl,rfl⟩
 | x::r,vs,h=>by
  rw [DR.valsR] at h
  obtain⟨u,us,rfl,h1,_,h2⟩:=h
  obtain⟨i1,i2⟩:=vals_len h2
  refine⟨by rw [List.length_cons,List.length_cons,i1],?_⟩
  rw [List.all_cons,h1 rfl,i2];rfl
theorem B0a {G:Nat→Prop}{w:World}{b:Nat}:∀(xs:List Dt) (off:Nat),DR.cellsR G w b off xs→∃ vs,DR.valsR G w true xs vs∧At w b off vs
 | [],_,_=>⟨[],by rw [DR.valsR],fun j v hv=>by simp at hv⟩
 | x :: r, off, h => by
  rw [DR.cellsR] at h
  obtain⟨⟨u,h3,h4,h5⟩,h6⟩:=h
  obtain⟨vs,i1,i2⟩:=B0a r (off+1) h6
  refine⟨u::vs,by rw [DR.valsR];exact⟨u,vs,rfl,fun _=>h4,h5,i1⟩,?_⟩
  intro j v hv
  cases j with
  | zero=>cases hv;exact h3
  | succ j=>
   have:=i2 j v hv
   rwa [show off+1+j=off+(j+1) by omega] at this
theorem D1w (e:Entr):(entC e).length=8:=rfl
instance:Rep Entr where
 sz:=8
 pos:=by decide
 at_ G w e cs:=∃ G0:Nat→Prop,(∀ b,G0 b→G b∧b<w.heap.size)∧DR.valsR G0 w true (entC e) cs
 len h:=by obtain⟨_,_,h⟩:=h;exact(vals_len h).1
 one h:=by obtain⟨_,_,h⟩:=h;exact(vals_len h).2
 move h hm:=by
  obtain⟨G0,h1,h2⟩:=h
  refine⟨G0,fun b hb=>?_,G4 (fun b hb=>⟨hb,(hm b (h1 b hb).1 (h1 b hb).2).2⟩) true _ _ h2⟩
  obtain⟨q1,q2⟩:=hm b (h1 b hb).1 (h1 b hb).2
  refine⟨q1,?_⟩
  have h3:=Array.getElem?_eq_getElem (h1 b hb).2
  rw [h3] at q2
  exact(Array.getElem?_eq_some_iff.1 q2).1
theorem B1r {G:Nat→Prop}{w:World}(hG:∀ b,G b→b<w.heap.size){b:Nat}:∀(l:List Entr) (off:Nat),DR.rowsR G w b 8 off (l.map entC)→∃ css,AtsG G w l css∧At w b off css.flatten
 | [],_,_=>⟨[],trivial,fun j v hv=>by simp at hv⟩
 | x::r,off,h=>by
  rw [List.map_cons,DR.rowsR] at h
  obtain⟨⟨_,h1⟩,h2⟩:=h
  obtain⟨vs,i1,i2⟩:=B0a _ _ h1
  obtain⟨css,j1,j2⟩:=B1r hG r (off+8) h2
  refine⟨vs::css,⟨⟨G,fun b hb=>⟨hb,hG b hb⟩,i1⟩,j1⟩,?_⟩
  rw [List.flatten_cons]
  exact D4z i2 (by rw [(vals_len i1).1,D1w];exact j2)
theorem G4s {G:Nat→Prop}{w:World}(hG:∀ b,G b→b<w.heap.size){u:Value}{l:List Entr}(h:DR G w (lexD l) u):SlG G w u l:=by
 rw [lexD,DR] at h
 obtain⟨a,cap,h1,h2,h3,h4⟩:=h
 rw [List.length_map] at h1 h2 h3 h4
 refine⟨a,cap,h1,h2,h3,fun h0=>?_⟩
 obtain⟨b,off,h5,h6,h7⟩:=h4 h0
 obtain⟨css,h8,h9⟩:=B1r hG l off h7
 exact⟨b,off,h5,h6,css,h8,h9⟩
end
section
open Go.RowKit Go.En Go.Dl Go.Tp
def D9v:Entr:=⟨0,[],0,[],0,[],[],[]⟩
def entD (lex:List Entr)(id:Int):Entr:=(getE lex id).getD D9v
theorem A5p {lex:List Entr}{id:Int}{e:Entr}(h:getE lex id=some e):entD lex id=e:=by unfold entD;rw [h];rfl
def N5 (lex : List Entr) : Nat → Int → List Int
 | 0,_=>[]
 | k+1,id=>match getE lex id with
  | none=>[]
  | some e=>id::if e.main=0 then [] else N5 lex k e.main
theorem A1e {lex:List Entr}{k:Nat}{id:Int}{e:Entr}(h:getE lex id=some e):N5 lex (k+1) id=id::if e.main=0 then [] else N5 lex k e.main:=by
 rw [N5,h]
theorem A6q {lex:List Entr}{k:Nat}{id:Int}(h:getE lex id=none):N5 lex (k+1) id=[]:=by
 rw [N5,h]
theorem A6c {lex : List Entr} : ∀ {n : Nat} {id : Int}, (∀ x ∈ N5 lex n id, (entD lex x).senses.length = 0) → senG lex n id = []
 | 0,_,_=>rfl
 | n + 1, id, h => by
  rw [senG]
  cases hg:getE lex id with
  | none=>rfl
  | some e=>
   rw [A1e hg] at h
   have h1:=h id (List.mem_cons_self ..)
   rw [A5p hg] at h1
   dsimp only
   rw [if_neg (by omega)]
   by_cases h0:e.main=0
   ·rw [if_pos h0]
   ·rw [if_neg h0]
    rw [if_neg h0] at h
    exact A6c fun x hx=>h x (List.mem_cons_of_mem _ hx)
theorem A3q {lex : List Entr} : ∀ {n : Nat} {id x : Int} {pre : List Int}, pre ++ [x] <+: N5 lex n id → (∀ y ∈ pre, (entD lex y).senses.length = 0) → 0 < (entD lex x).senses.length → senG lex n id = (entD lex x).senses
 | 0,_,x,pre,hp,_,_=>by
  have:=hp.length_le
  simp [N5] at this
 | n + 1, id, x, pre, hp, h, hx => by
  rw [senG]
  cases hg:getE lex id with
  | none=>
   rw [A6q hg] at hp
   have:=hp.length_le
   simp at this
  | some e=>
   rw [A1e hg] at hp
   dsimp only
   cases pre with
   | nil=>
    rw [List.nil_append] at hp
    obtain⟨r,hr⟩:=hp
    rw [List.singleton_append,List.cons.injEq] at hr
    have hxi:=hr.1
    subst hxi
    rw [A5p hg] at hx ⊢
    rw [if_pos (by omega)]
   | cons a q=>
    obtain⟨r,hr⟩:=hp
    rw [List.cons_append,List.cons_append,List.cons.injEq] at hr
    obtain⟨ha,hr⟩:=hr
    subst ha
    have h1:=h a (List.mem_cons_self ..)
    rw [A5p hg] at h1
    rw [if_neg (by omega)]
    by_cases h0:e.main=0
    ·rw [if_pos h0] at hr
     simp at hr
    ·rw [if_neg h0] at hr ⊢
     exact A3q ⟨r,hr⟩ (fun y hy=>h y (List.mem_cons_of_mem _ hy)) hx
end
section
open Go.RowKit Go.En Go.Dl Go.Tp
theorem vv {G:Nat→Prop}{w:World}{x u:Value}(h:DR G w (.v x) u):u=x:=by rw [DR] at h;exact h
theorem sv {G:Nat→Prop}{w:World}{u:Value}{sz:Nat}{rows:List (List Dt)}(h:DR G w (.s sz rows) u):∃ a cap,u=.slice a rows.length cap:=by
 rw [DR] at h
 obtain⟨a,cap,h,_⟩:=h
 exact⟨a,cap,h⟩
theorem D7r {G:Nat→Prop}{w:World}{e:Entr}{X:List Value}(h:DR.valsR G w true (entC e) X):∃ a1 c1 a3 c3 a5 c5 a6 c6 a7 c7,X=[int e.id,.slice a1 e.form.length c1,int e.cls,.slice a3 e.alts.length c3,int e.main,.slice a5 e.senses.length c5,.slice a6 e.links.length c6,.slice a7 e.refs.length c7]∧DR G w (.s 2 (e.senses.map snC)) (.slice a5 e.senses.length c5):=by
 replace h:DR.valsR G w true [.v (int e.id),.s 1 (e.form.map iC),.v (int e.cls),.s 1 (e.alts.map fun a=>[ints a]),.v (int e.main),.s 2 (e.senses.map snC),.s 2 (e.links.map lkC),.s 2 (e.refs.map rfC)] X:=h
 rw [DR.valsR] at h
 obtain⟨a1,r1,rfl,_,e1,h⟩:=h
 rw [DR.valsR] at h
 obtain⟨a2,r2,rfl,_,e2,h⟩:=h
 rw [DR.valsR] at h
 obtain⟨a3,r3,rfl,_,e3,h⟩:=h
 rw [DR.valsR] at h
 obtain⟨a4,r4,rfl,_,e4,h⟩:=h
 rw [DR.valsR] at h
 obtain⟨a5,r5,rfl,_,e5,h⟩:=h
 rw [DR.valsR] at h
 obtain⟨a6,r6,rfl,_,e6,h⟩:=h
 rw [DR.valsR] at h
 obtain⟨a7,r7,rfl,_,e7,h⟩:=h
 rw [DR.valsR] at h
 obtain⟨a8,r8,rfl,_,e8,h⟩:=h
 rw [DR.valsR] at h
 subst h
 rw [vv e1,vv e3,vv e5]
 obtain⟨p2,q2,rfl⟩:=sv e2
 obtain⟨p4,q4,rfl⟩:=sv e4
 obtain⟨p6,q6,rfl⟩:=sv e6
 obtain⟨p7,q7,rfl⟩:=sv e7
 obtain⟨p8,q8,rfl⟩:=sv e8
 rw [List.length_map] at e6 ⊢
 rw [List.length_map,List.length_map,List.length_map,List.length_map]
 exact⟨p2,q2,p4,q4,p6,q6,p7,q7,p8,q8,rfl,e6⟩
theorem A4r {G:Nat→Prop}{w:World}{e:Entr}{X:List Value}(h:Rep.at_ G w e X):∃ a1 c1 a3 c3 a5 c5 a6 c6 a7 c7,X=[int e.id,.slice a1 e.form.length c1,int e.cls,.slice a3 e.alts.length c3,int e.main,.slice a5 e.senses.length c5,.slice a6 e.links.length c6,.slice a7 e.refs.length c7]∧∃ G0:Nat→Prop,(∀ b,G0 b→G b∧b<w.heap.size)∧DR G0 w (.s 2 (e.senses.map snC)) (.slice a5 e.senses.length c5):=by
 obtain⟨G0,hG,h⟩:=h
 obtain⟨a1,c1,a3,c3,a5,c5,a6,c6,a7,c7,h1,h2⟩:=D7r h
 exact⟨a1,c1,a3,c3,a5,c5,a6,c6,a7,c7,h1,G0,hG,h2⟩
theorem C4p {G:Nat→Prop}{w:World}{b off n cap:Nat}{xs:List Entr}(h:SlG G w (.slice (some ⟨b,off,none⟩) n cap) xs){i:Nat}{x:Entr}(hx:xs[i]?=some x) :
  ∃ a1 c1 a3 c3 a5 c5 a6 c6 a7 c7,At w b (off+i*8) [int x.id,.slice a1 x.form.length c1,int x.cls,.slice a3 x.alts.length c3,int x.main,.slice a5 x.senses.length c5,.slice a6 x.links.length c6,.slice a7 x.refs.length c7]∧Rep.at_ G w x [int x.id,.slice a1 x.form.length c1,int x.cls,.slice a3 x.alts.length c3,int x.main,.slice a5 x.senses.length c5,.slice a6 x.links.length c6,.slice a7 x.refs.length c7]:=by
 obtain⟨cs,h1,hat⟩:=h.elem hx
 obtain⟨a1,c1,a3,c3,a5,c5,a6,c6,a7,c7,rfl,_⟩:=A4r h1
 exact⟨a1,c1,a3,c3,a5,c5,a6,c6,a7,c7,hat,h1⟩
def B6h:List Value:=[int 0,.slice none 0 0,int 0,.slice none 0 0,int 0,.slice none 0 0,.slice none 0 0,.slice none 0 0]
theorem A5j {G:Nat→Prop}{w:World}{sz:Nat}:DR G w (.s sz []) (.slice none 0 0):=by
 rw [DR]
 exact⟨none,0,rfl,Nat.le_refl _,by decide,fun h=>absurd h (by simp)⟩
theorem C7l {G:Nat→Prop}(w:World):Rep.at_ G w D9v B6h:=by
 refine⟨fun _=>False,fun b h=>h.elim,?_⟩
 show DR.valsR _ w true [.v (int 0),.s 1 [],.v (int 0),.s 1 [],.v (int 0),.s 2 [],.s 2 [],.s 2 []] B6h
 have hv:∀ x:Int,DR (fun _=>False) w (.v (int x)) (int x):=fun x=>by rw [DR]
 rw [DR.valsR];refine⟨_,_,rfl,fun _=>rfl,hv _,?_⟩
 rw [DR.valsR];refine⟨_,_,rfl,fun _=>rfl,A5j,?_⟩
 rw [DR.valsR];refine⟨_,_,rfl,fun _=>rfl,hv _,?_⟩
 rw [DR.valsR];refine⟨_,_,rfl,fun _=>rfl,A5j,?_⟩
 rw [DR.valsR];refine⟨_,_,rfl,fun _=>rfl,hv _,?_⟩
 rw [DR.valsR];refine⟨_,_,rfl,fun _=>rfl,A5j,?_⟩
 rw [DR.valsR];refine⟨_,_,rfl,fun _=>rfl,A5j,?_⟩
 rw [DR.valsR];refine⟨_,_,rfl,fun _=>rfl,A5j,?_⟩
 rw [DR.valsR]
def idxE (lex:List Entr)(id:Int):Int:=match lex.findIdx? (fun e=>decide (e.id=id)) with|some i=>(i:Int)|none => -1
theorem B8s {lex:List Entr}{id:Int}{i:Nat}{x:Entr}(hx:lex[i]?=some x)(he:x.id=id)(hall:∀(j:Nat) (y:Entr),j<i→lex[j]?=some y→y.id≠id):idxE lex id=(i:Int):=by
 unfold idxE
 obtain⟨hl,he2⟩:=List.getElem?_eq_some_iff.1 hx
 have:lex.findIdx? (fun e=>decide (e.id=id))=some i:=by
  rw [List.findIdx?_eq_some_iff_getElem]
  refine⟨hl,by rw [he2];simpa using he,fun j hj=>?_⟩
  have:=hall j _ hj (List.getElem?_eq_getElem (by omega))
  simpa using this
 rw [this]
theorem B8r {lex:List Entr}{id:Int}(h:getE lex id=none):idxE lex id = -1:=by
 unfold idxE
 have:lex.findIdx? (fun e=>decide (e.id=id))=none:=by
  rw [List.findIdx?_eq_none_iff]
  intro x hx
  have:=List.find?_eq_none.1 h x hx
  simpa using this
 rw [this]
theorem D7k {lex:List Entr}{id:Int}(hall:∀(j:Nat) (y:Entr),j<lex.length→lex[j]?=some y→y.id≠id):idxE lex id = -1:=B8r (by
 unfold getE
 rw [List.find?_eq_none]
 intro x hx
 obtain⟨j,hj⟩:=List.getElem?_of_mem hx
 have:=hall j x (List.getElem?_eq_some_iff.1 hj).1 hj
 simpa using this)
theorem D0z {lex:List Entr}{id:Int}{e:Entr}(h:getE lex id=some e):∃ i:Nat,idxE lex id=(i:Int)∧lex[i]?=some e:=by
 unfold getE at h
 obtain⟨h1,us,bs,h2,h3⟩:=List.find?_eq_some_iff_append.1 h
 refine⟨us.length,?_,by rw [h2];simp⟩
 refine B8s (x:=e) (by rw [h2];simp) (by simpa using h1) fun j y hj hy=>?_
 rw [h2,List.getElem?_append_left hj] at hy
 have:=h3 y (List.mem_of_getElem? hy)
 simpa using this
end
end Go.Proofs.YtojadfppncgphaaGreatDoor
namespace Go.En
open Go.RowKit
section
variable {P : Program}{n : Nat}{ops rest : List Oper}{Q : Post}{L : List (Nat × Value)}{w : World}{o o2 : Oper}
theorem A5a {d:Nat}{t:TypeId}{x:Operand}{cs:List Value}(hg:gst ops L o=some true)(ho:o.op=.box t x)(hx:ev L x=some (.agg cs.toArray))(hd:odst n o.dst=some d)
  (k:∀ b w',Ext w w'→b=w.heap.size→Row w' b t cs→EL P n ops Q rest ((d,(.pointer (some ⟨b,0,none⟩)))::L) w'):EL P n ops Q (o::rest) L w:=
 O9 hg ho hx hd (fun b w' x e r=>k b w' x e (by simpa [Value.cells] using r))
theorem B0r {d:Nat}{t:TypeId}{y:Operand}{cs:List Value}{z:Value}{size bytes:Nat}[TI P t z size bytes](hg:gst ops L o=some true)(ho:o.op=.alloc t)(hd:odst n o.dst=some d)(hz:Nat.beq z.cells.toList.length cs.length=true)
  (ho2:o2.op=.store t (.tmp d) y) (hd2:o2.dst=none) (hg2:gst ops ((d,(.pointer (some ⟨w.heap.size,0,none⟩)))::L) o2=some true) (hy:ev ((d,(.pointer (some ⟨w.heap.size,0,none⟩)))::L) y=some (.agg cs.toArray)) (hs:Nat.beq cs.length size=true) (h1:cs.all Value.oneCell'=true)
  (k:∀ b w',Ext w w'→b=w.heap.size→Row w' b t cs→EL P n ops Q rest ((d,(.pointer (some ⟨b,0,none⟩)))::L) w'):EL P n ops Q (o::o2::rest) L w:=
 J4 hg ho hd fun b w1 x1 hb r1=>by
  subst hb
  refine J3 (off:=0) (cs:=cs) r1 x1 (Nat.le_refl _) hg2 hd2 ho2 (by simp [ev,lk]) hy (by simp [Value.cells]) hs h1 (by have:=Nat.eq_of_beq_eq_true hz;omega) (fun w2 r2 x2 _=>?_)
  refine k _ w2 x2 rfl ?_
  have e:z.cells.toList.length=cs.length:=Nat.eq_of_beq_eq_true hz
  have:z.cells.toList.take 0++cs++z.cells.toList.drop (0+cs.length)=cs:=by rw [Nat.zero_add,← e];simp
  rw [this] at r2
  exact r2
end
end Go.En
