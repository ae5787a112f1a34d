/-
  Own text of the proof.
-/
import Derived.Test.YtjicdgejhkgpgaaGreatDoorYl
import Derived.Test.YtjicdgejhkgpgaaGreatDoorYj
import Derived.Test.YtjicdgejhkgpgaaGreatDoorYi
import Derived.Test.YtjicdgejhkgpgaaGreatDoorYk
import Derived.Test.YtjicdgejhkgpgaaGreatDoorYf
import Derived.Test.YtjicdgejhkgpgaaGreatDoorYg
import Derived.Test.YtjicdgejhkgpgaaGreatDoorG
import Derived.Test.YtjicdgejhkgpgaaGreatDoorYb
import Derived.Laws.IdiomStrings
import Derived.Test.YtjicdgejhkgpgaaGreatDoorProg
import Derived.Shelf.Unicode.ValidAny
import Derived.Test.YtjicdgejhkgpgaaGreatDoorYc
import Derived.RangeFuncNested
import Derived.RangeFuncBound
import Derived.RangeFuncCalls
import Derived.RangeFuncLeaves
import Derived.Shelf.Abstract
import Derived.Shelf.RegionOpen
import Derived.WalkKit
import Derived.OwnWalkIn
import Derived.TacticsInMore
import Derived.LoopNIn
import Derived.LoopIn
import Derived.Maps.AppendAt
import Derived.Lib.OthersKept
set_option linter.all false
set_option maxHeartbeats 4000000
set_option maxRecDepth 100000
namespace Go.Proofs.YtjicdgejhkgpgaaGreatDoor
section
open Go.RowKit Go.En
def A1p (d:Dc) (id:Int):Value:=.tuple #[.agg #[int (A2n d id).1,int (A2n d id).2],.bool (N1 d id).isSome]
theorem C1m {d:Dc} {id:Int} {p:Note} (h:N1 d id=some p):A1p d id=.tuple #[.agg #[int p.frm,int p.til],.bool true]:=by
  unfold A1p A2n;rw [h];rfl
theorem C1n {d:Dc} {id:Int} (h:N1 d id=none):A1p d id=.tuple #[.agg #[int 0,int 0],.bool false]:=by
  unfold A1p A2n;rw [h];rfl
attribute [local irreducible] E EL K Val Enters Rt Calls bodyPost Code.wp RQ
theorem C1j {d:Dc} (h:LightD d) (v:Value) (id:Int) (w:World) (hv:DcAt w v d):Calls Tryz.prog 37 #[v,int id] w (Rt fun u w'=>u=A1p d id∧Ext w w'):=by
  have hd0:=hv
  obtain⟨sv,tv,nv,rfl,_,ht,hn⟩:=hv
  refine A6 (n:=35) (args:=[.agg #[int d.rid,str d.rname,int d.len,int d.day,sv,tv,nv],int id]) Tryz.func37 rfl Tryz.ntmps37 (by simp) ?_
  refine B4 ?_
  refine A9 ?_
  refine C6 Z Z Z Z (fun bD wD xD hbD rD0=>?_)
  refine C3 Z Z Z (fun bA wA xA hbA rA0=>?_)
  have rD:Row wA bD 72 [int d.rid,str d.rname,int d.len,int d.day,sv,tv,nv]:=rD0.ext xA
  have rA:Row wA bA 76 [int 0,int 0]:=rA0
  have hX:=xD.trans xA
  clear rD0 rA0
  have hbAw:w.heap.size≤bA:=by have:=xD.size;omega
  have cg:=A2l d _ id wA (hd0.ext hX)
  rw [B4y] at cg
  (repeat' (first|refine eV Z Z (B8 Z Z Z rD.at rfl) ?_|(refine cqC cg en36 fun wC xC=>?_)|refine Sy ?_))
  refine C3 Z Z Z (fun bP wP xP hbP rP0=>?_)
  refine B7 (cs:=B9 (curN d.notes id)) rP0 (xC.trans xP) (by have:=xC.size;omega) Z Z Z Z Z Z Z Z (Nat.le_refl _) (fun w3 rP1 x3 k3=>?_)
  have rP:Row w3 bP 80 (B9 (curN d.notes id)):=rP1
  have hbPA:wA.heap.size≤bP:=by have:=xC.size;omega
  clear rP0 rP1 k3 cg
  (repeat' (first|refine Sy ?_))
  refine B0 (ι:=Int) (fun q=>[(2,.pointer (some ⟨bD,0,none⟩)),(4,.pointer (some ⟨bA,0,none⟩)),(6,.pointer (some ⟨bP,0,none⟩)),(7,.bool (getF d.notes q).isSome)])
    (fun q wr=>Ext wA wr∧Row wr bP 80 (B9 (curN d.notes q))∧N1 d q=N1 d id) (fun q=>(A3z d q).length) id
    ⟨rfl,rfl,rfl,rfl,trivial⟩ ⟨x3,rP,rfl⟩ ?_
  rintro q wr ⟨hx,rPr,hwq⟩
  have rDr:=rD.ext hx
  have rAr:=rA.ext hx
  have hXr:=hX.trans hx
  cases hg:getF d.notes q with
  | none=>
    (repeat' (first|refine eV Z Z (B6 (vs:=[]) [int 0,int 0] rfl rfl rfl) ?_|refine Sy ?_))
    refine B7 (cs:=[int 0,int 0]) rAr hXr hbAw rfl rfl rfl rfl rfl rfl rfl rfl (Nat.le_refl _) (fun w9 r9 x9 k9=>?_)
    (repeat' (first|refine Sy ?_))
    exact M4 Z Z Z r9.at rfl rfl ⟨by rw [C1n (hwq▸B6e hg)];rfl,x9⟩
  | some p=>
    obtain⟨hpm,hpi⟩:=X0 hg
    have hcp:curN d.notes q=p:=by unfold curN;rw [hg];rfl
    rw [hcp] at rPr
    have ca:=A8e d tv p.tier wr (ht.ext hXr)
    cases hal:K7 d p.tier with
    | true=>
      rw [hal] at ca
      (repeat' (first|refine eV Z Z (A7 Z Z Z (rDr.cellAt rfl)) ?_|refine eV Z Z (A7 Z Z Z (rPr.cellAt rfl)) ?_|(refine cqC ca en68 fun wE xE=>?_)|refine Sy ?_))
      have rPe:=rPr.ext xE
      have at3:At wE bP (0+3) [int p.frm,int p.til]:=rPe.at.seg 3 (n:=2)
      (repeat' (first|refine eV Z Z (B8 Z Z Z at3 rfl) ?_))
      refine B7 (cs:=[int p.frm,int p.til]) (rAr.ext xE) (hXr.trans xE) hbAw rfl rfl rfl rfl rfl rfl rfl rfl (Nat.le_refl _) (fun w9 r9 x9 k9=>?_)
      (repeat' (first|refine Sy ?_))
      refine M4 Z Z Z r9.at rfl rfl ⟨?_,x9⟩
      have:=C1h h hpm hal
      rw [hpi,hwq] at this
      rw [C1m this];rfl
    | false=>
      rw [hal] at ca
      (repeat' (first|refine eV Z Z (A7 Z Z Z (rDr.cellAt rfl)) ?_|refine eV Z Z (A7 Z Z Z (rPr.cellAt rfl)) ?_|(refine cqC ca en68 fun wE xE=>?_)|refine Sy ?_))
      have rPe:=rPr.ext xE
      have rDe:=rDr.ext xE
      have cg2:=A2l d _ p.parent wE (hd0.ext (hXr.trans xE))
      rw [B4y] at cg2
      (repeat' (first|refine eV Z Z (B8 Z Z Z rDe.at rfl) ?_|refine eV Z Z (A7 Z Z Z (rPe.cellAt rfl)) ?_|(refine A8 Z Z (A5 Z Z en36) cg2 (fun vC wC2 hC=>?_);obtain⟨rfl,xC2⟩:=hC)|refine Sy ?_))
      refine B7 (cs:=B9 (curN d.notes p.parent)) (rPe.ext xC2) (hx.trans (xE.trans xC2)) hbPA rfl rfl rfl rfl rfl rfl rfl rfl (Nat.le_refl _) (fun w5 rP5 x5 k5=>?_)
      have rP5':Row w5 bP 80 (B9 (curN d.notes p.parent)):=rP5
      clear rP5
      (repeat' (first|refine Sy ?_))
      refine B3 p.parent ⟨rfl,rfl,rfl,rfl,trivial⟩ ⟨x5,rP5',?_⟩ ?_
      · have:=C1i h hpm hal
        rw [hpi] at this
        rw [← this,hwq]
      · have:=A1x h hpm
        rw [hpi] at this
        rw [this];simp
end
section
open Go.RowKit Go.En Go.Pv
def zeroD:List Value:=[int 0,str [],int 0,int 0,.slice none 0 0,.slice none 0 0,.slice none 0 0]
theorem A3x {ds:List Dc} {rec:Int} {d:Dc} (h:docF ds rec=some d):∃ i,ds[i]?=some d∧d.rid=rec∧∀(j:Nat) (x:Dc),j<i→ds[j]?=some x→x.rid≠rec:=by
  unfold docF at h
  obtain⟨h1,i,hi,h2,h3⟩:=List.find?_eq_some_iff_getElem.1 h
  refine⟨i,by rw [List.getElem?_eq_getElem hi,h2],by simpa using h1,fun j x hj hx=>?_⟩
  have:=h3 j hj
  obtain⟨h4,h5⟩:=List.getElem?_eq_some_iff.1 hx
  rw [h5] at this
  simpa using this
theorem C2p {ds:List Dc} {rec:Int} (h:docF ds rec=none):∀ x∈ds,x.rid≠rec:=by
  unfold docF at h
  rw [List.find?_eq_none] at h
  intro x hx
  simpa using h x hx
attribute [local irreducible] E EL K Val Enters Rt Calls bodyPost Code.wp RQ
def S8 (ds:List Dc) (r:Rf):Value:=.tuple #[.agg #[int (A3n ds r).1,int (A3n ds r).2],.bool (H6 ds r)]
theorem wd_none {ds:List Dc} {r:Rf} (h:docF ds r.rcd=none):S8 ds r=.tuple #[.agg #[int 0,int 0],.bool false]:=by unfold S8 A3n H6;rw [h]
theorem wd_some {ds:List Dc} {r:Rf} {d:Dc} (h:docF ds r.rcd=some d):S8 ds r=A1p d r.note:=by unfold S8 A3n H6 A1p;rw [h]
theorem B0f {ds:List Dc} (h:LightDs ds) {rec:Int} {d:Dc} (hg:docF ds rec=some d):LightD d:=h.each d (by obtain⟨_,h1,_⟩:=A3x hg;exact List.mem_of_getElem? h1)
def B6a:Dc:=⟨0,[],0,0,[],[],[]⟩
def docD (ds:List Dc) (rec:Int):Dc:=(docF ds rec).getD B6a
theorem C3m (w:World):Rep.at_ Tt w B6a zeroD:=⟨_,_,_,rfl,SlG.nil,SlG.nil,SlG.nil⟩
def A5s:En:=⟨0,[],0,[],0,[],[],[]⟩
def entD (lex:List En) (id:Int):En:=(getE lex id).getD A5s
theorem C3l (w:World):Rep.at_ Tt w A5s zeroE:=⟨_,_,_,_,_,rfl,SlG.nil,SlG.nil,SlG.nil,SlG.nil,SlG.nil⟩
def Q7 (ns:List Note) (id:Int):Note:=(getF ns id).getD A1d
theorem getR_eq (ns:List Note) (id:Int):getR ns id=.tuple #[.agg #[int (Q7 ns id).id,int (Q7 ns id).tier,int (Q7 ns id).parent,int (Q7 ns id).frm,int (Q7 ns id).til,int (Q7 ns id).rank,str (Q7 ns id).text],.bool (getF ns id).isSome]:=by
  unfold getR Q7
  cases getF ns id <;> rfl
theorem A3c {G:Nat→Prop} {w:World} {d:Dc} {X:List Value} (h:Rep.at_ G w d X):∃ a1 c1 a2 c2 a3 c3,X=[int d.rid,str d.rname,int d.len,int d.day,.slice a1 d.sp.length c1,.slice a2 d.tiers.length c2,.slice a3 d.notes.length c3]∧SlG G w (.slice a1 d.sp.length c1) d.sp∧SlG G w (.slice a2 d.tiers.length c2) d.tiers∧SlG G w (.slice a3 d.notes.length c3) d.notes:=by
  obtain⟨sv,tv,nv,rfl,h1,h2,h3⟩:=h
  obtain⟨a1,c1,rfl,_⟩:=h1.sl
  obtain⟨a2,c2,rfl,_⟩:=h2.sl
  obtain⟨a3,c3,rfl,_⟩:=h3.sl
  exact⟨a1,c1,a2,c2,a3,c3,rfl,h1,h2,h3⟩
theorem C2j {ns:List Note} {id:Int} {n:Note} (h:getF ns id=some n):n∈ns:=List.mem_of_find?_eq_some h
end
section
open Go.RowKit Go.En Go.Pv
theorem A2r {l:List Rf} {i:Nat} {r:Rf} (h:l[i]?=some r) (hi:D0 r.rcd=true∧D0 r.note=true) (hp:i=0∨∃ q,l[i-1]?=some q∧ltR q r):A0g l i=0:=by
  unfold A0g
  rw [h]
  dsimp only
  rw [hi.1,hi.2]
  rcases hp with rfl|⟨q,hq,hl⟩
  · rfl
  · by_cases h0:0<i
    · rw [if_pos h0,hq];simp [hl]
    · rw [if_neg h0];rfl
theorem V9 {l:List Rf} {i:Nat} {r:Rf} (h:l[i]?=some r) (hi:(D0 r.rcd&&D0 r.note)=false):A0g l i=2:=by
  unfold A0g
  rw [h]
  dsimp only
  rw [hi];rfl
theorem A2q {l:List Rf} {i:Nat} {r q:Rf} (h:l[i]?=some r) (hi:(D0 r.rcd&&D0 r.note)=true) (h0:0<i) (hq:l[i-1]?=some q) (hl:¬ ltR q r):A0g l i=10:=by
  unfold A0g
  rw [h]
  dsimp only
  rw [hi,if_pos h0,hq];simp [hl]
attribute [local irreducible] E EL K Val Enters Rt Calls bodyPost Code.wp RQ
theorem B7j (l : List Rf) (v : Value) (w : World) (hv : Sl w v l) : Calls Tryz.prog 99 #[v, int 12] w (Rt fun u w' => u = int (if 12 < l.length then 11 else M5 l.length (A0g l)) ∧ Ext w w') := by
  have hv0:=hv
  obtain⟨a,c,rfl,_,hm,hpp⟩:=hv.sl
  refine A6 (n:=37) (args:=[.slice a l.length c,int 12]) Tryz.func99 rfl Tryz.ntmps99 (by simp) ?_
  (repeat' (first|refine Sy ?_|refine Dy (fun hh=>?_) fun hh=>?_))
  all_goals (try (exfalso;omega))
  · exact A4 Z Z ⟨by rw [if_pos (by omega)],Ext.refl _⟩
  rw [if_neg (show ¬ 12<l.length by omega)]
  refine B0 (ι:=Nat) (fun i=>[(0,.slice a l.length c),(5,int i)]) (fun i wr=>i≤l.length∧Ext w wr∧∀ j,j<i→A0g l j=0) (fun i=>l.length-i) 0
    ⟨rfl,rfl,trivial⟩ ⟨Nat.zero_le _,Ext.refl _,fun _ h=>absurd h (by omega)⟩ ?_
  rintro i wr ⟨hi,hx,hall⟩
  replace hv0:=hv0.ext hx
  by_cases hlt:i<l.length
  · obtain ⟨b, off, rfl⟩ := hpp (by omega)
    obtain⟨x,hxi⟩:∃ x,l[i]?=some x:=⟨_,List.getElem?_eq_getElem hlt⟩
    have hat:=O8 hv0 hxi
    have c1:=fun wz=>B7k x wz
    cases hid:(D0 x.rcd&&D0 x.note) with
    | false=>
      rw [hid] at c1
      (repeat' (first|refine eV Z Z (A0 (m:=i) Z Z Z (by first|rfl|omega) (by omega)) ?_|(refine cqC (c1 _) C0s fun wC xC=>?_;replace hx:=hx.trans xC)|refine Ly ?_|refine Dy (fun hh=>?_) fun hh=>?_))
      all_goals (try (exfalso;omega))
      refine A4 Z Z ⟨?_,hx⟩
      rw [D9 hall hlt (by rw [V9 hxi hid];decide),V9 hxi hid]
    | true=>
      rw [hid] at c1
      by_cases h0:i=0
      · subst h0
        (repeat' (first|refine eV Z Z (A0 (m:=0) Z Z Z (by first|rfl|omega) (by omega)) ?_|(refine cqC (c1 _) C0s fun wC xC=>?_;replace hx:=hx.trans xC)|refine Ly ?_|refine Dy (fun hh=>?_) fun hh=>?_|refine yqZ ?_|refine yqX (fun hh=>?_) fun hh=>?_|refine E_dq B5 (by kernel_rfl) Z ?_|refine yN Z (fun wq xq=>?_)|refine yO Z Z ?_))
        all_goals (try (exfalso;omega))
        refine B3 (0+1) ⟨rfl,rfl,trivial⟩ ⟨by omega,hx.trans xq,fun j hj=>?_⟩ (by omega)
        obtain rfl:j=0:=by omega
        rw [Bool.and_eq_true] at hid
        exact A2r hxi hid (.inl rfl)
      · obtain⟨y,hyi⟩:∃ y,l[i-1]?=some y:=⟨_,List.getElem?_eq_getElem (by omega)⟩
        have haty:=O8 hv0 hyi
        have c2:=fun wz=>B3z y x wz
        by_cases hlr:ltR y x
        · rw [decide_eq_true hlr] at c2
          (repeat' (first|refine eV Z Z (A0 (m:=i) Z Z Z (by first|rfl|omega) (by omega)) ?_|refine yV Z Z (fun _ _ _=>A0 (m:=i) Z Z Z (by first|rfl|omega) (by omega)) ?_|refine yV Z Z (fun _ _ _=>A0 (m:=i-1) Z Z Z (by first|rfl|omega) (by omega)) ?_|refine C4 Z Z (fun _ _ _=>A5 Z Z en101) (fun wq _=>c2 wq) ?_|(refine cqC (c1 _) C0s fun wC xC=>?_;replace hx:=hx.trans xC;replace hat:=hat.ext xC;replace haty:=haty.ext xC)|refine Ly ?_|refine Dy (fun hh=>?_) fun hh=>?_|refine yqY ?_|refine yqZ ?_|refine yqX (fun hh=>?_) fun hh=>?_|refine E_dq B5 (by kernel_rfl) Z ?_|refine yN Z (fun wq xq=>?_)|refine yO Z Z ?_))
          all_goals (try (exfalso;omega))
          refine B3 (i+1) ⟨rfl,rfl,trivial⟩ ⟨by omega,hx.trans xq,fun j hj=>?_⟩ (by omega)
          by_cases e:j=i
          · subst e
            rw [Bool.and_eq_true] at hid
            exact A2r hxi hid (.inr ⟨y,hyi,hlr⟩)
          · exact hall j (by omega)
        · rw [decide_eq_false hlr] at c2
          (repeat' (first|refine eV Z Z (A0 (m:=i) Z Z Z (by first|rfl|omega) (by omega)) ?_|refine yV Z Z (fun _ _ _=>A0 (m:=i) Z Z Z (by first|rfl|omega) (by omega)) ?_|refine yV Z Z (fun _ _ _=>A0 (m:=i-1) Z Z Z (by first|rfl|omega) (by omega)) ?_|refine C4 Z Z (fun _ _ _=>A5 Z Z en101) (fun wq _=>c2 wq) ?_|(refine cqC (c1 _) C0s fun wC xC=>?_;replace hx:=hx.trans xC;replace hat:=hat.ext xC;replace haty:=haty.ext xC)|refine Ly ?_|refine Dy (fun hh=>?_) fun hh=>?_|refine yqY ?_|refine yqZ ?_|refine yqX (fun hh=>?_) fun hh=>?_|refine E_dq B5 (by kernel_rfl) Z ?_|refine yN Z (fun wq xq=>?_)|refine yO Z Z ?_))
          all_goals (try (exfalso;omega))
          refine A4 Z Z ⟨?_,hx.trans xq⟩
          rw [D9 hall hlt (by rw [A2q hxi hid (by omega) hyi hlr];decide),A2q hxi hid (by omega) hyi hlr]
  · (repeat' (first|refine Sy ?_|refine Dy (fun hh=>?_) fun hh=>?_))
    all_goals (try (exfalso;omega))
    exact A4 Z Z ⟨by rw [S3 (fun j hj=>hall j (by omega))],hx⟩
end
section
open Go.RowKit Go.En Go.Pv
def ctlN (z:Nat):Bool:=decide (z<32)||decide (z=127)
def txtF (s:List UInt8):Int:=if 200<s.length then 5 else match points s with|none=>3|some zs=>if zs.any ctlN then 3 else 0
theorem up_zero {l:List Int} {i:Nat} {x y:Int} (hx:l[i]?=some x) (h0:0<i) (hy:l[i-1]?=some y) (h:y<x):upAt l i=0:=by
  unfold upAt;rw [hx,if_pos h0,hy];simp [h]
theorem C3p {l:List Int} {i:Nat} {x y:Int} (hx:l[i]?=some x) (h0:0<i) (hy:l[i-1]?=some y) (h:¬ y<x):upAt l i=10:=by
  unfold upAt;rw [hx,if_pos h0,hy];simp [h]
theorem C3q {l:List Int}:upAt l 0=0:=by unfold upAt;cases l[0]? <;> rfl
theorem C1x {lex:List En} {l:List Int} {i:Nat} {x:Int} (hx:l[i]?=some x) (h:(getE lex x).isSome=true):A0k lex l i=0:=by unfold A0k;rw [hx];simp [h]
theorem A9p {lex:List En} {l:List Int} {i:Nat} {x:Int} (hx:l[i]?=some x) (h:(getE lex x).isSome=false):A0k lex l i=9:=by unfold A0k;rw [hx];simp [h]
attribute [local irreducible] E EL K Val Enters Rt Calls bodyPost Code.wp RQ
end
end Go.Proofs.YtjicdgejhkgpgaaGreatDoor
namespace Go.En
open Go.RowKit
theorem A7x {P:Program} {n:Nat} {Q:Post} {L:List (Nat × Value)} {w:World} {ops:List Oper} {o:Oper} {rest:List Oper} {c:Nat} {s d e:TypeId} {x:Operand} {l:List UInt8} [us:UT P s .string] [ud:UT P d (.slice e)] [ue:UT P e (.int .u8)]
    (hg:gst ops L o=some true) (hd:odst n o.dst=some c) (ho:o.op=.convert s d x) (hx:ev L x=some (str l))
    (k:∀ b cap w',Ext w w'→b=w.heap.size→l.length≤cap→At w' b 0 (l.map fun c=>Value.int .u8 c.toNat)→EL P n ops Q rest ((c,.slice (some ⟨b,0,none⟩) l.length cap)::L) w'):EL P n ops Q (o::rest) L w:=by
  have hsz:(ByteArray.mk l.toArray).size=l.length:=by simp [ByteArray.size]
  have h:=run_bytes_of_string (P:=P) w s d e ⟨l.toArray⟩ us.u ud.u ue.u
  rw [hsz] at h
  refine M0 hg hd (fun ρ ha=>?_) (k w.heap.size _ (w.drew.alloc (.cells (bytesRow ⟨l.toArray⟩ (grownCap w l.length 0 e)) e ((bytesRow ⟨l.toArray⟩ (grownCap w l.length 0 e)).size,(bytesRow ⟨l.toArray⟩ (grownCap w l.length 0 e)).size+1))) ((P9 w).trans (H5 _ _)) Z (grownCap_ge w l.length 0 e) ?_)
  · have h0:=ha.ev (by rw [ho];simp [Op.operands]) hx
    simp only [execOp,ho,h0,h,Sem.run_bind,Result.andThen_ok]
    rfl
  · intro j v hv
    have hj:=(List.getElem?_eq_some_iff.1 hv).1
    rw [Nat.zero_add]
    have:=heap_alloc_new w.drew (.cells (bytesRow ⟨l.toArray⟩ (grownCap w l.length 0 e)) e ((bytesRow ⟨l.toArray⟩ (grownCap w l.length 0 e)).size,(bytesRow ⟨l.toArray⟩ (grownCap w l.length 0 e)).size+1))
    simp only [World.cell?]
    rw [show w.drew.heap.size=w.heap.size from rfl] at this
    rw [this]
    dsimp only
    unfold bytesRow
    rw [Array.getElem?_append_left (by simpa using hj)]
    simpa using hv
theorem K5 {P:Program} {n:Nat} {ops rest:List Oper} {Q:Post} {L:List (Nat × Value)} {w:World} {o o1 o2:Oper} {d d1:Nat} {t:TypeId} {y y1:Operand} {v1:Value} {cs:List Value} {z:Value} {size bytes:Nat} [TI P t z size bytes] (hg:gst ops L o=some true) (ho:o.op=.alloc t) (hd:odst n o.dst=some d) (hz:Nat.beq z.cells.toList.length cs.length=true)
    (ho1:o1.op=.assign y1) (hd1:odst n o1.dst=some d1) (hg1:gst ops ((d,(.pointer (some ⟨w.heap.size,0,none⟩)))::L) o1=some true) (hy1:ev ((d,(.pointer (some ⟨w.heap.size,0,none⟩)))::L) y1=some v1)
    (ho2:o2.op=.store t (.tmp d) y) (hd2:o2.dst=none) (hg2:gst ops ((d1,v1)::(d,(.pointer (some ⟨w.heap.size,0,none⟩)))::L) o2=some true) (hne:Nat.beq d1 d=false) (hy:ev ((d1,v1)::(d,(.pointer (some ⟨w.heap.size,0,none⟩)))::L) y=some (.agg cs.toArray)) (hs:Nat.beq cs.length size=true) (h1:cs.all Value.oneCell'=true)
    (k:∀ b w',Ext w w'→b=w.heap.size→Row w' b t cs→EL P n ops Q rest ((d1,v1)::(d,(.pointer (some ⟨b,0,none⟩)))::L) w'):EL P n ops Q (o::o1::o2::rest) L w:=
  C3 hg ho hd fun b w1 x1 hb r1=>by
    subst hb
    refine V5 hg1 hd1 (M2 ho1 hy1) ?_
    refine B7 (off:=0) (cs:=cs) r1 x1 (Nat.le_refl _) hg2 hd2 ho2 (by simp only [ev,lk];rw [hne];simp) hy (by simp [Value.cells]) hs h1 (by have:=Nat.eq_of_beq_eq_true hz;omega) (fun w2 r2 x2 _=>?_)
    refine k _ w2 x2 rfl ?_
    have e:z.cells.toList.length=cs.length:=Nat.eq_of_beq_eq_true hz
    have:z.cells.toList.take 0++cs++z.cells.toList.drop (0+cs.length)=cs:=by rw [Nat.zero_add,← e];simp
    rw [this] at r2
    exact r2
end Go.En
namespace Go.Proofs
open Go.RowKit Go.Shelf Go.Lib
def Tryz.laysValid_ren:Go.Shelf.Ren:=⟨fun|196=>128|259=>168|n=>n,fun|9=>9|4=>4|3=>3|5=>5|12=>12|119=>224|0=>0|46=>228|139=>227|138=>226|53=>258|n=>n,fun|3=>0|4=>1|n=>n⟩
theorem Tryz.laysValid:Go.Proofs.Lays.n196 Tryz.prog Tryz.laysValid_ren:={
  mixed:=by kernel_rfl
  f196:=Tryz.func128.trans (congrArg some (by kernel_rfl))
  f259:=Tryz.func168.trans (congrArg some (by kernel_rfl))
  t0:=Tryz.underlying0
  a0:=Tryz.isAgg0
  z0:=Tryz.sizeOf0
  v0:=Tryz.zeroValue0
  t3:=Tryz.underlying3
  a3:=Tryz.isAgg3
  z3:=Tryz.sizeOf3
  v3:=Tryz.zeroValue3
  t4:=Tryz.underlying4
  a4:=Tryz.isAgg4
  z4:=Tryz.sizeOf4
  v4:=Tryz.zeroValue4
  t5:=Tryz.underlying5
  a5:=Tryz.isAgg5
  z5:=Tryz.sizeOf5
  v5:=Tryz.zeroValue5
  t9:=Tryz.underlying9
  a9:=Tryz.isAgg9
  z9:=Tryz.sizeOf9
  v9:=Tryz.zeroValue9
  t12:=Tryz.underlying12
  a12:=Tryz.isAgg12
  z12:=Tryz.sizeOf12
  v12:=Tryz.zeroValue12
  t46:=Tryz.underlying228
  a46:=Tryz.isAgg228
  z46:=Tryz.sizeOf228
  v46:=Tryz.zeroValue228
  t53:=Tryz.underlying258
  a53:=Tryz.isAgg258
  z53:=Tryz.sizeOf258
  v53:=Tryz.zeroValue258
  t119:=Tryz.underlying224
  a119:=Tryz.isAgg224
  z119:=Tryz.sizeOf224
  t138:=Tryz.underlying226
  a138:=Tryz.isAgg226
  z138:=Tryz.sizeOf226
  v138:=Tryz.zeroValue226
  t139:=Tryz.underlying227
  a139:=Tryz.isAgg227
  z139:=Tryz.sizeOf227
  v139:=Tryz.zeroValue227
  g3:=by kernel_rfl
  g4:=by kernel_rfl }
end Go.Proofs
namespace Go.Proofs.YtjicdgejhkgpgaaGreatDoor
section
open Go.Lib
theorem C5y {d:List UInt8} {zs:List Nat} (hd:d≠[]) (hp:points d=some zs):∃ z r n,zs=z::r∧decodeL d=(z,n)∧1≤n∧n≤d.length∧points (d.drop n)=some r∧scal z=true:=by
  have h:=T6 hd
  rw [hp] at h
  cases hf:J2 d with
  | none=>rw [hf] at h;cases h
  | some q=>
    obtain⟨z,n⟩:=q
    rw [hf] at h
    dsimp only at h
    have hs:=P7 hf
    cases hr:points (d.drop n) with
    | none=>rw [hr] at h;cases h
    | some r=>
      rw [hr] at h
      simp at h
      refine⟨z,r,n,h,?_,hs.1,hs.2.1,hr,hs.2.2.1⟩
      rw [B0b d hd] at hf
      split at hf
      · cases hf
      · exact Option.some.inj hf
end
section
open Go.RowKit Go.Shelf Go.Lib
attribute [local go_sem] Oper.semAt_some
def enc2 (x:Int × Int):Array Value:=#[.int .i64 x.1,.int .i64 x.2]
theorem B1v (w:World) (k:Nat) (s:ByteArray) (p:Nat):w.grownBy (w.iterAt k s p) (some k):=
  ⟨rfl,rfl,rfl,by rw [Lib.iterAt_size];exact Nat.le_refl _,fun b _ hne=>Lib.iterAt_other w k b s p (fun e=>hne (by rw [e]))⟩
theorem B3t (n : Nat) (hn : 1 ≤ n) (lv Bn : Nat) (l : List UInt8) (zs : List Nat) (hp : points l = some zs) (J Jx : List (Int × Int) → World → Prop) (W : World) (hJ : AbidesFrom W.heap.size J)
    (hY:∀ pre x W1,J pre W1→pre.length<zs.length→YieldAt Fence.wide (n-1) Tryz.prog lv (enc2 x) W1 fun e W'=>
      (e=.returned (.bool true)∧J (pre++[x]) W'∧KeepsWalks W1 W')∨(e=.returned (.bool false)∧Jx (pre++[x]) W'))
    (hBn:W.cell? ⟨Bn,0,none⟩=some (.string ⟨l.toArray⟩)) (h0:J [] W) :
    CallsIn Fence.wide n Tryz.prog 169 #[.func (.yield lv) #[] #[],.pointer (some ⟨Bn,0,none⟩)] W fun e W'=>(∃ v,e=.returned v)∧
      ((∃ ys,ys.map (·.2)=zs.map Int.ofNat∧J ys W')∨(∃ pre,True∧Jx pre W')):=by
  refine callsIn_of_wp Tryz.func169 rfl trivial ?_ rfl
  simp only [Tryz.ntmps169,List.size_toArray,List.length_cons,List.length_nil,Nat.reduceAdd,Nat.reduceSub,Array.replicate_succ,Array.replicate_zero,List.push_toArray,List.append_toArray,List.nil_append,List.cons_append]
  gi_wp2
  have hsz:(ByteArray.mk l.toArray).size=l.length:=by simp [ByteArray.size]
  gi_loopw [] (fun wr=>∃(pos:Nat) (pre:List (Int × Int)) (rest:List Nat),wr.heap[W.heap.size]?=some (.stringIter ⟨l.toArray⟩ pos)∧pos≤l.length∧points (l.drop pos)=some rest∧pre.map (·.2)++rest.map Int.ofNat=zs.map Int.ofNat∧J pre wr)
    (fun wr=>l.length-wr.iterPos W.heap.size)
  case atStart=>
    exact⟨0,[],zs,World.iter_heap W _ 0,Nat.zero_le _,hp,rfl,hJ [] W _ none h0 (World.grownBy_alloc W _ none) (fun r e=>by cases e)⟩
  case round=>
    obtain⟨pos,pre,rest,hit,hpos,hpt,hx,hJs⟩:=hrel
    by_cases hlt:pos<l.length
    · have hne:l.drop pos≠[]:=by intro h;have:=congrArg List.length h;simp at this;omega
      obtain⟨z,r,m,rfl,hdec,hn1,hn2,hpr,hz⟩:=C5y hne hpt
      have hdd:=Lib.decodeL_drop ⟨l.toArray⟩ pos
      simp only [List.toList_toArray] at hdd
      rw [hdec] at hdd
      have hd1:(Utf8.decode ⟨l.toArray⟩ pos).1=z:=by rw [← hdd]
      have hd2:(Utf8.decode ⟨l.toArray⟩ pos).2=m:=by rw [← hdd]
      have hnx:∀ ty,(Instr.next (.pointer (some ⟨W.heap.size,0,none⟩)) true ty).run Tryz.prog wr=_:=fun ty=>Lib.run_next_any_at wr W.heap.size ⟨l.toArray⟩ pos ty hit (by rw [hsz];exact hlt)
      rw [hd1,hd2] at hnx
      have hit2:=Lib.iterAt_heap wr W.heap.size ⟨l.toArray⟩ pos (pos+m) hit
      have hJ2:J pre (wr.iterAt W.heap.size ⟨l.toArray⟩ (pos+m)):=hJ pre wr _ (some W.heap.size) hJs (B1v _ _ _ _) (fun r e=>by cases e;exact⟨Nat.le_refl _,_,hit,rfl⟩)
      have hlen:=congrArg List.length hx
      simp only [List.length_append,List.length_map,List.length_cons] at hlen
      obtain⟨fn,tmps,assign,body,hy,hR⟩:=hY pre ((pos:Int),(z:Int)) _ hJ2 (by omega)
      dsimp only [enc2] at hy
      have hz2:=(N2.1 hz).1
      gi_wp2
      rw [List.length_drop] at hn2
      rw [List.drop_drop] at hpr
      refine hR.mono ?_
      rintro e W3 (⟨rfl,hJ3,hk3⟩|⟨rfl,hJx3⟩)
      · have hit3:W3.heap[W.heap.size]?=some (.stringIter ⟨l.toArray⟩ (pos+m)):=hk3.same _ _ hit2 rfl
        gi_wp2
        go_roundw
        case rel=>exact⟨pos+m,pre++[((pos:Int),(z:Int))],r,hit3,by omega,hpr,by rw [← hx];simp,hJ3⟩
        case measure=>simp only [World.iterPos,hit3,hit];omega
      · gi_wp2
        refine bodyPost_ret (results_none rfl _ _ _) rfl ?_
        exact⟨⟨_,rfl⟩,.inr ⟨pre++[((pos:Int),(z:Int))],trivial,hJx3⟩⟩
    · have:pos=l.length:=by omega
      subst this
      rw [List.drop_length,Y0] at hpt
      cases hpt
      have hnx:∀ ty,(Instr.next (.pointer (some ⟨W.heap.size,0,none⟩)) true ty).run Tryz.prog wr=_:=fun ty=>Lib.run_next_end_at wr W.heap.size ⟨l.toArray⟩ l.length ty hit (by rw [hsz];omega)
      gi_wp2
      go_end0
      exact⟨⟨_,rfl⟩,.inl ⟨pre,by simpa using hx,hJs⟩⟩
theorem A8j (n:Nat) (hn:1≤n) (Bn:Nat) (l:List UInt8) (zs:List Nat) (hp:points l=some zs) (w:World) (hBn:Bn<w.heap.size) (hc:w.cell? ⟨Bn,0,none⟩=some (.string ⟨l.toArray⟩)) :
    SeqStopsK Fence.wide n Tryz.prog 169 #[.pointer (some ⟨Bn,0,none⟩)] enc2 KeepsWalks (fun ys=>ys.map (·.2)=zs.map Int.ofNat) (fun _=>True) zs.length w:=fun lv J Jx W hW hJ _ hY h0=>
  B3t n hn lv Bn l zs hp J Jx W hJ hY ((hW.cell (p:=⟨Bn,0,none⟩) hBn).trans hc) h0
theorem B7c (l:List UInt8) (w:World) :
    Calls Tryz.prog 129 #[.string ⟨l.toArray⟩] w fun e w'=>e=.returned (.func (.func 169) #[] #[.pointer (some ⟨w.heap.size,0,none⟩)])∧w'=w.alloc (.cells #[.string ⟨l.toArray⟩] 9):=by
  refine callsIn_wide (n:=1) |>.1 ?_
  refine callsIn_of_wp Tryz.func129 rfl trivial ?_ rfl
  simp only [Tryz.ntmps129,List.size_toArray,List.length_cons,List.length_nil,Nat.reduceAdd,Nat.reduceSub,Array.replicate_succ,Array.replicate_zero,List.push_toArray,List.append_toArray,List.nil_append,List.cons_append]
  gi_wp2
  go_ret
  exact⟨rfl,rfl⟩
end
section
open Go.RowKit Go.Shelf Go.Lib
attribute [local go_sem] Oper.semAt_some
def Tabs (w:World):Prop:=Lib.Utf8Tabs (Tryz.laysValid_ren.g 3) (Tryz.laysValid_ren.g 4) w
theorem info3:(Tryz.prog.info? 3).map (fun i=>(i.zero,i.size,i.bytes))=some (some (.int .i64 0),1,8):=by kernel_rfl
theorem B1k (l:List UInt8) (hl:l.length≤1048576) (zs:List Nat) (hp:points l=some zs) (w:World) (hT:Tabs w) :
    Calls Tryz.prog 95 #[.string ⟨l.toArray⟩] w fun e w'=>∃ v,e=.returned (.tuple #[v,.bool true])∧w'.ownsRow w.heap.size 3 1 v zs.length (zs.map fun(z:Nat)=>.int .i64 (z:Int))∧Below w.heap.size w w':=by
  have hzl:=(R8 _ l zs (Nat.le_refl _) hp).1
  have hval:Lib.validD l=true:=by rw [← X9 _ l (Nat.le_refl _),hp];rfl
  have hsz:(ByteArray.mk l.toArray).size=l.length:=by simp [ByteArray.size]
  have cV:Calls Tryz.prog 128 #[.string ⟨l.toArray⟩] w _:=Any.utf8_ValidString Tryz.laysValid ⟨l.toArray⟩ w (by rw [hsz];omega) hT
  simp only [List.toList_toArray,hval] at cV
  obtain⟨i0,hi,hz0,hz1,hz2⟩:=info_parts info3
  refine callsIn_wide (n:=5) |>.1 ?_
  refine callsIn_of_wp_marks Tryz.func95 rfl trivial ?_ rfl
  simp only [Tryz.ntmps95,List.size_toArray,List.length_cons,List.length_nil,Nat.reduceAdd,Nat.reduceSub,Array.replicate_succ,Array.replicate_zero,List.push_toArray,List.append_toArray,List.nil_append,List.cons_append]
  gi_wp2_with first|(refine⟨trivial,?_⟩;gi_at_call 128;refine(callsIn_wide.2 cV).mono ?_;rintro e w1 ⟨rfl,hb1⟩;have hs1:=hb1.size)|(refine⟨trivial,?_⟩;gi_at_call 129;refine(callsIn_wide.2 (B7c l _)).mono ?_;rintro e w2 ⟨rfl,rfl⟩)
  have bO:=Boxed.new w1 32 (.slice none 0 0)
  have bN:=Boxed.new (w1.alloc (.cells #[.slice none 0 0] 32)) 9 (.string ⟨l.toArray⟩)
  rw [World.size_alloc] at bN
  have hB0:Below w.heap.size w ((w1.alloc (.cells #[.slice none 0 0] 32)).alloc (.cells #[.string ⟨l.toArray⟩] 9)):=(hb1.alloc hs1 _).alloc (by simp;omega) _
  refine wpIn_rangeFunc_ownG rfl (by omega) (gf:=169) (lb:=#[.pointer (some ⟨w1.heap.size+1,0,none⟩)]) rfl trivial (enters_of Tryz.func169 (by kernel_rfl) rfl)
    (A8j 4 (by omega) (w1.heap.size+1) l zs hp _ (by simp) bN.cell) walksK_t walksK_b (Below.refl _ _) (fun _=>rfl)
    (fun pre W=>(∃ v,Boxed W w1.heap.size 32 v∧W.ownsRow w.heap.size 3 1 v pre.length (pre.map fun x=>.int .i64 x.2)∧True)∧Below w.heap.size w W)
    (fun _ _ _=>False)
    (OwnFrom.and (Own.from (holdsRow_own w.heap.size w1.heap.size 32 3 1 (fun pre:List (Int × Int)=>pre.length) (fun pre=>pre.map fun x=>Value.int .i64 x.2) (fun pre v=>True)) _) (ownFrom_below (Nat.le_refl _) (by simp;omega)))
    (fun _ _ _ _ _ hs _ _=>hs)
    ⟨⟨_,bO.alloc _,World.ownsRow_nil _ _ _ _,trivial⟩,hB0⟩
    (fun x=>{ tmps:=#[.string ⟨l.toArray⟩,undef,.slice none 0 0,.bool false,.pointer (some ⟨w1.heap.size,0,none⟩),undef,.int .i64 x.2,.string ⟨l.toArray⟩,.bool true,.bool false,.string ⟨l.toArray⟩,.func (.func 169) #[] #[.pointer (some ⟨w1.heap.size+1,0,none⟩)],.int .i64 x.1,.int .i64 x.2,undef,undef,undef,undef,undef],defers:=[] }) ?assign ?body ?done ?stop
  case assign=>
    intro l x W K hK
    dsimp only [enc2]
    gi_wp2
    exact hK
  case body=>
    rintro lv pre x W ⟨⟨v,hv,hrow,-⟩,hB⟩ hlt
    have hc:=hv.cell
    gi_wp2_with (gi_at_builtin;refine wpListIn_append_own _ rfl _ _ 32 rfl w.heap.size 3 i0 (.int .i64 0) 1 8 Tryz.underlying32 hi hz0 hz1 hz2 rfl (by decide) _ _ _ rfl (hrow.alloc _) ⟨W.heap.size,0,none⟩ 1 1 [.int .i64 x.2] rfl rfl (cell_one_new _ _ _) (by simp [Value.oneCell']) (by unfold maxLen;omega) (by omega) (by have:=hB.size;simp;omega) ?_;intro v' w1 hown' hgrow _;obtain⟨g',cap',rfl⟩:=ownsRow_succ hown';obtain⟨hv1,hv2,hr2,hk2,hb2⟩:=hv.appended (by decide) hrow hB.size (by omega) hown' hgrow;have hc1:=hv1.cell;have hf1:=hv1.frozen)
    exact⟨hk2.from _,hk2.walks,⟨_,hv2,by simpa using hr2,trivial⟩,hB.trans hb2⟩
  case done=>
    rintro D ys W hD hys ⟨⟨v,hv,hrow,-⟩,hB⟩ hK
    have hc:=hv.cell
    have hyl:ys.length=zs.length:=by have:=congrArg List.length hys;simpa using this
    have hyc:ys.map (fun x=>Value.int .i64 x.2)=zs.map fun(z:Nat)=>Value.int .i64 (z:Int):=by
      have:=congrArg (List.map (Value.int .i64)) hys
      simpa [Function.comp_def] using this
    gi_wp2
    refine⟨by simp,.inl ⟨_,_,rfl,run_takeDeferred hK,?_⟩⟩
    refine⟨_,results_tmp2 rfl _ _ _,v,rfl,?_,hB.trans (belowK_b (w:=w) (Nat.le_refl _) W D _ _ (by simp at hD;omega) hK rfl rfl)⟩
    rw [← hyl,← hyc]
    exact ownsRow_putObj hrow _ hK rfl
  case stop=>
    rintro D c pre W _ _ h _
    exact h.elim
theorem B1l (l:List UInt8) (hl:l.length≤1048576) (hp:points l=none) (w:World) (hT:Tabs w) :
    Calls Tryz.prog 95 #[.string ⟨l.toArray⟩] w fun e w'=>e=.returned (.tuple #[.slice none 0 0,.bool false])∧Below w.heap.size w w':=by
  have hval:Lib.validD l=false:=by rw [← X9 _ l (Nat.le_refl _),hp];rfl
  have hsz:(ByteArray.mk l.toArray).size=l.length:=by simp [ByteArray.size]
  have cV:Calls Tryz.prog 128 #[.string ⟨l.toArray⟩] w _:=Any.utf8_ValidString Tryz.laysValid ⟨l.toArray⟩ w (by rw [hsz];omega) hT
  simp only [List.toList_toArray,hval] at cV
  refine callsIn_wide (n:=5) |>.1 ?_
  refine callsIn_of_wp_marks Tryz.func95 rfl trivial ?_ rfl
  simp only [Tryz.ntmps95,List.size_toArray,List.length_cons,List.length_nil,Nat.reduceAdd,Nat.reduceSub,Array.replicate_succ,Array.replicate_zero,List.push_toArray,List.append_toArray,List.nil_append,List.cons_append]
  gi_wp2_with (refine⟨trivial,?_⟩;gi_at_call 128;refine(callsIn_wide.2 cV).mono ?_;rintro e w1 ⟨rfl,hb1⟩;have hs1:=hb1.size)
  exact⟨_,results_tmp2 rfl _ _ _,rfl,hb1⟩
open Go.En in
theorem A0j (l:List UInt8) (hl:l.length≤1048576) (w:World) (hT:Tabs w):Calls Tryz.prog 95 #[str l] w (Rt (C1d w (points l))):=by
  cases hp:points l with
  | none=>
    refine(B1l l hl hp w hT).mono ?_
    rintro e w' ⟨rfl,hb⟩
    exact⟨_,rfl,hb,rfl⟩
  | some zs=>
    refine(B1k l hl zs hp w hT).mono ?_
    rintro e w' ⟨v,rfl,ho,hb⟩
    exact⟨_,rfl,hb,v,rfl,ho⟩
end
end Go.Proofs.YtjicdgejhkgpgaaGreatDoor