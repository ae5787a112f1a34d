/-
  Walks of the layers runes and pattern. Walks: the reference's labels; its check of an inventory. A variable laid and filled at once; a box of a struct. Drawn regions: what is known of a slot by a relation alone, handed on; values told by such things. Walks: the small functions under the reference's Light (names, kinds, spans, texts). Walks: the reference's Text, Get, siblings, overlap, spans, ranked. Walks of align: Get, Aligned, Right, comparisons, in. Walks of align: Right of a span, cmp.Or, Contains, Has. Walks of align: the reference's Aligned and in. Walks of align: the reference's before. Walks of align: the reference's Chain. Walks of align: the program's Chain.
-/
import Derived.Test.YtjicdgejhkgpgaaGreatDoorYf
import Derived.Test.YtjicdgejhkgpgaaGreatDoorG
import Derived.Test.YtjicdgejhkgpgaaGreatDoorYb
import Derived.OwnWalk
import Derived.Test.YtjicdgejhkgpgaaGreatDoorYd
import Derived.Test.YtjicdgejhkgpgaaGreatDoorYe
import Derived.Test.YtjicdgejhkgpgaaGreatDoorYc
set_option linter.all false
namespace Go.Proofs.YtjicdgejhkgpgaaGreatDoor
open Go.RowKit Go.En
attribute [local irreducible] E EL K Val Enters Rt Calls bodyPost Code.wp RQ
theorem rPoints_any (l : List UInt8) (hl : l.length ≤ 16777216) (w : World) : Calls Tryz.prog 130 #[str l] w (Rt (PointsR w (points l))) := by
  refine calls_E (n:=28) (args:=[str l]) Tryz.func130 rfl Tryz.ntmps130 (by simp) ?_
  (repeat' (first|(refine at_EL ?_;first|refine eN ?_|refine eV Z Z (zB Z Z) ?_)|(refine at_K ?_;first|refine K_then ?_)|(refine at_E ?_;first|refine E_seq ?_|refine E_region ?_|refine E_block ?_)))
  refine E_loop (ι:=Nat × Value × List Nat) (fun x=>[(0,str l),(4,x.2.1),(5,int x.1)]) (fun x wr=>x.1≤l.length∧x.2.2.length≤x.1∧points l=(points (l.drop x.1)).map (x.2.2++·)∧IntsOwn w wr x.2.1 x.2.2∧Ext w wr) (fun x=>l.length-x.1) (0,.slice none 0 0,[])
    ⟨rfl,rfl,rfl,trivial⟩ ⟨Nat.zero_le _,Nat.le_refl _,by simp,World.ownsRow_nil _ _ _ _,Ext.refl _⟩ ?_
  rintro⟨i,v,zs⟩ wr ⟨hi,hz,hp,hown,hx⟩
  dsimp only at hi hz hp hown hx ⊢
  by_cases hlt:i<l.length
  · have hne:l.drop i≠[]:=by intro h;have:=congrArg List.length h;simp at this;omega
    have hf:=first_any l i hlt (by omega) wr
    rw [points_step hne] at hp
    cases hfr:firstR (l.drop i) with
    | none=>
      rw [hfr] at hp
      simp only [fR,hfr] at hf
      (repeat' (first|(refine EL_call Z Z (entersF Z Z en170) hf (fun vC wC hC=>?_);obtain⟨rfl,xC⟩:=hC)|(refine at_EL ?_;first|refine eN ?_|refine eV Z Z (zA Z Z) ?_|refine eV Z Z (zB Z Z) ?_|(refine at_bin ?_;first|refine eD Z Z (zL Z Z Z) (fun hh=>?_) (fun hh=>?_)|refine eD Z Z (zM Z Z Z) (fun hh=>?_) (fun hh=>?_))|(refine at_call ?_;first|refine eV Z Z (zJ Z Z) ?_)|refine eV Z Z (zF Z Z Z) ?_|refine eL Z Z Z Z Z Z Z Z (fun bS wS xS hbS rS=>?_))|(refine at_K ?_;first|refine K_then ?_|refine K_then_ret ?_|refine K_then_exit ?_|refine K_in_ret ?_|refine K_in_exit ?_)|(refine at_E ?_;first|refine E_seq ?_|refine E_region ?_|refine E_cond_t Z ?_|refine E_cond_f Z ?_|refine E_block ?_|refine E_skip ?_|refine E_ret ?_|refine E_exit ?_)))
      · refine ret_2 Z Z Z ⟨hx.trans xC,?_⟩
        rw [hp];rfl
      all_goals omega
    | some q=>
      obtain⟨p,n⟩:=q
      have hq:=firstR_some hfr
      rw [List.length_drop] at hq
      rw [hfr] at hp
      simp only [fR,hfr] at hf
      (repeat' (first|(refine EL_call Z Z (entersF Z Z en170) hf (fun vC wC hC=>?_);obtain⟨rfl,xC⟩:=hC)|(refine at_EL ?_;first|refine eN ?_|refine eV Z Z (zA Z Z) ?_|refine eV Z Z (zB Z Z) ?_|(refine at_bin ?_;first|refine eD Z Z (zL Z Z Z) (fun hh=>?_) (fun hh=>?_)|refine eD Z Z (zM Z Z Z) (fun hh=>?_) (fun hh=>?_))|(refine at_call ?_;first|refine eV Z Z (zJ Z Z) ?_)|refine eV Z Z (zF Z Z Z) ?_|refine eL Z Z Z Z Z Z Z Z (fun bS wS xS hbS rS=>?_))|(refine at_K ?_;first|refine K_then ?_|refine K_then_ret ?_|refine K_then_exit ?_|refine K_in_ret ?_|refine K_in_exit ?_)|(refine at_E ?_;first|refine E_seq ?_|refine E_region ?_|refine E_cond_t Z ?_|refine E_cond_f Z ?_|refine E_block ?_|refine E_skip ?_|refine E_ret ?_|refine E_exit ?_)))
      all_goals (first|(exfalso;omega)|skip)
      refine EL_app (own_ext hown (xC.trans xS)) ((hx.trans xC).trans xS) rS.at rfl rfl rfl rfl rfl rfl rfl rfl rfl (by omega) (by omega) (fun vA wA oA xA _=>?_)
      (repeat' (first|(refine at_EL ?_;first|refine eN ?_|refine eV Z Z (zA Z Z) ?_|refine eV Z Z (zB Z Z) ?_|(refine at_bin ?_;first|(refine eV Z Z (val_add Z Z Z ?_ ?_) ?_;(first|omega|(simp only [kmin,kmax];omega));(first|omega|(simp only [kmin,kmax];omega)))))|(refine at_K ?_;first|refine K_then ?_|refine K_in ?_)|(refine at_E ?_;first|refine E_region ?_)))
      refine K_rnd (i+n,vA,zs++[p]) ⟨rfl,rfl,rfl,trivial⟩ ⟨by dsimp only;omega,by simp;omega,?_,?_,xA⟩ (by dsimp only;omega)
      · rw [hp]
        simp only [List.drop_drop]
        cases points (l.drop (i+n)) <;> simp
      · unfold IntsOwn
        simpa [Value.cells] using oA
  · have hil:i=l.length:=by omega
    subst hil
    (repeat' (first|(refine at_EL ?_;first|refine eN ?_|refine eV Z Z (zA Z Z) ?_|refine eV Z Z (zB Z Z) ?_|(refine at_bin ?_;first|refine eD Z Z (zL Z Z Z) (fun hh=>?_) (fun hh=>?_))|(refine at_call ?_;first|refine eV Z Z (zJ Z Z) ?_))|(refine at_K ?_;first|refine K_then ?_|refine K_then_exit ?_|refine K_in_exit ?_)|(refine at_E ?_;first|refine E_seq ?_|refine E_region ?_|refine E_cond_t Z ?_|refine E_cond_f Z ?_|refine E_block ?_|refine E_skip ?_|refine E_ret ?_|refine E_exit ?_)))
    all_goals (first|(exfalso;omega)|skip)
    rw [List.drop_length,points_nil] at hp
    simp only [Option.map_some,List.append_nil] at hp
    refine ret_2 Z Z Z ⟨hx,?_⟩
    rw [hp]
    exact⟨v,rfl,hown⟩
end Go.Proofs.YtjicdgejhkgpgaaGreatDoor
namespace Go.Proofs.YtjicdgejhkgpgaaGreatDoor
open Go.RowKit Go.En Go.Pv
def ctlB (c:UInt8):Bool:=decide (c.toNat<32)||decide (c.toNat=127)
def labB (s:List UInt8):Bool:=!(s.any ctlB)&&((points s).isSome&&(decide (1≤s.length)&&decide (s.length≤32)))
attribute [local irreducible] E EL K Val Enters Rt Calls bodyPost Code.wp RQ
set_option maxHeartbeats 4000000 in
set_option maxRecDepth 8000 in
theorem label96_any (s:List UInt8) (hs:s.length≤1048576) (w:World):Calls Tryz.prog 96 #[str s] w (Rt fun u w'=>u=.bool (labB s)∧Ext w w'):=by
  refine calls_E (n:=38) (args:=[str s]) Tryz.func96 rfl Tryz.ntmps96 (by simp) ?_
  (repeat' (first|(refine at_EL ?_;first|refine eN ?_|refine eV Z Z (zB Z Z) ?_)|(refine at_K ?_;first|refine K_then ?_)|(refine at_E ?_;first|refine E_seq ?_|refine E_region ?_|refine E_block ?_)))
  refine E_loop (ι:=Nat) (fun i=>[(0,str s),(3,int i)]) (fun i wr=>i≤s.length∧Ext w wr∧∀(j:Nat) (c:UInt8),j<i→s[j]?=some c→ctlB c=false) (fun i=>s.length-i) 0
    ⟨rfl,rfl,trivial⟩ ⟨Nat.zero_le _,Ext.refl _,fun j c hj=>absurd hj (by omega)⟩ ?_
  rintro i wr ⟨hi,hx,hall⟩
  by_cases hlt:i<s.length
  · obtain ⟨c, hc⟩ : ∃ c, s[i]? = some c := ⟨_, List.getElem?_eq_getElem hlt⟩
    (repeat' (first|refine eV Z Z (val_index_str Z Z Z Z hc) ?_|(refine at_EL ?_;first|refine eN ?_|refine eO Z Z ?_|refine eV Z Z (zA Z Z) ?_|refine eV Z Z (zB Z Z) ?_|(refine at_bin ?_;first|refine eD Z Z (zL Z Z Z) (fun hh=>?_) (fun hh=>?_)|refine eD Z Z (zM Z Z Z) (fun hh=>?_) (fun hh=>?_)|refine eV Z Z (zU Z Z Z (by omega) (by omega)) ?_)|(refine at_call ?_;first|refine eV Z Z (zJ Z Z) ?_)|refine eV Z Z (zC Z Z Z) ?_|refine eV Z Z (zD Z Z Z) ?_)|(refine at_K ?_;first|refine K_then ?_|refine K_in ?_|refine K_then_ret ?_|refine K_then_exit ?_|refine K_in_ret ?_|refine K_in_exit ?_)|(refine at_E ?_;first|refine E_seq ?_|refine E_region ?_|refine E_cond_t Z ?_|refine E_cond_f Z ?_|refine E_block ?_|refine E_skip ?_|refine E_ret ?_|refine E_exit ?_)))
    all_goals (try (exfalso;omega))
    all_goals first
      | (have hct : ctlB c = true := by unfold ctlB; simp; omega
         have:labB s=false:=by
           unfold labB
           rw [show s.any ctlB=true from List.any_eq_true.2 ⟨c,List.mem_of_getElem? hc,hct⟩];rfl
         rw [this]
         exact ret_1 Z Z ⟨rfl,hx⟩)
      | (have hct : ctlB c = false := by unfold ctlB; simp; omega
         refine K_rnd (i+1) ⟨rfl,rfl,trivial⟩ ⟨by omega,hx,fun j c' hj hc'=>?_⟩ (by omega)
         by_cases e:j=i
         · subst e;rw [hc] at hc';cases hc';exact hct
         · exact hall j c' (by omega) hc')
  · obtain rfl:i=s.length:=by omega
    have hany:s.any ctlB=false:=by
      rw [List.any_eq_false]
      intro c hc
      obtain⟨j,hj⟩:=List.getElem?_of_mem hc
      rw [hall j c (List.getElem?_eq_some_iff.1 hj).1 hj];simp
    have hf:=rPoints_any s (by omega) wr
    cases hp:points s with
    | none=>
      have:labB s=false:=by unfold labB;rw [hp,hany];rfl
      rw [this]
      rw [hp] at hf
      (repeat' (first|(refine EL_call Z Z (entersF Z Z en130) hf (fun vC wC hC=>?_);obtain⟨xC,hv⟩:=hC;obtain rfl:=hv)|(refine at_EL ?_;first|refine eN ?_|refine eO Z Z ?_|refine eV Z Z (zA Z Z) ?_|refine eV Z Z (zB Z Z) ?_|(refine at_bin ?_;first|refine eD Z Z (zL Z Z Z) (fun hh=>?_) (fun hh=>?_))|(refine at_call ?_;first|refine eV Z Z (zJ Z Z) ?_)|refine eV Z Z (zD Z Z Z) ?_|refine eV Z Z (zF Z Z Z) ?_)|(refine at_K ?_;first|refine K_then ?_|refine K_then_exit ?_|refine K_in_exit ?_)|(refine at_E ?_;first|refine E_seq ?_|refine E_region ?_|refine E_cond_t Z ?_|refine E_cond_f Z ?_|refine E_block ?_|refine E_skip ?_|refine E_ret ?_|refine E_exit ?_)))
      all_goals (try (exfalso;omega))
      exact ret_1 Z Z ⟨rfl,hx.trans xC⟩
    | some zs=>
      have hl:labB s=(decide (1≤s.length)&&decide (s.length≤32)):=by unfold labB;rw [hp,hany];rfl
      rw [hl]
      rw [hp] at hf
      (repeat' (first|(refine EL_call Z Z (entersF Z Z en130) hf (fun vC wC hC=>?_);obtain⟨xC,v,hv,hown⟩:=hC;obtain rfl:=hv)|(refine at_EL ?_;first|refine eN ?_|refine eO Z Z ?_|refine eV Z Z (zA Z Z) ?_|refine eV Z Z (zB Z Z) ?_|(refine at_bin ?_;first|refine eD Z Z (zL Z Z Z) (fun hh=>?_) (fun hh=>?_)|refine eD Z Z (zN Z Z Z) (fun hh=>?_) (fun hh=>?_)|refine eD Z Z (zP Z Z Z) (fun hh=>?_) (fun hh=>?_))|(refine at_call ?_;first|refine eV Z Z (zJ Z Z) ?_)|refine eV Z Z (zC Z Z Z) ?_|refine eV Z Z (zD Z Z Z) ?_|refine eV Z Z (zF Z Z Z) ?_)|(refine at_K ?_;first|refine K_then ?_|refine K_then_exit ?_|refine K_in_exit ?_)|(refine at_E ?_;first|refine E_seq ?_|refine E_region ?_|refine E_cond_t Z ?_|refine E_cond_f Z ?_|refine E_block ?_|refine E_skip ?_|refine E_ret ?_|refine E_exit ?_)))
      all_goals (try (exfalso;omega))
      all_goals
        refine ret_1 Z Z ⟨?_,hx.trans xC⟩
        congr 1
        by_cases h1:1≤s.length <;> by_cases h2:s.length≤32 <;> simp [h1,h2] <;> omega
end Go.Proofs.YtjicdgejhkgpgaaGreatDoor
namespace Go.En
open Go.RowKit
section
variable {P : Program} {n : Nat} {ops rest : List Oper} {Q : Post} {L : List (Nat × Value)} {w : World} {o o2 : Oper}
theorem EL_boxA {d:Nat} {t:TypeId} {x:Operand} {cs:List Value} (hg:gst ops L o=some true) (ho:o.op=.box t x) (hx:ev L x=some (.agg cs.toArray)) (hd:odst n o.dst=some d)
    (k:∀ b w',Ext w w'→b=w.heap.size→Row w' b t cs→EL P n ops Q rest ((d,(.pointer (some ⟨b,0,none⟩)))::L) w'):EL P n ops Q (o::rest) L w:=
  EL_box hg ho hx hd (fun b w' x e r=>k b w' x e (by simpa [Value.cells] using r))
theorem EL_var {d:Nat} {t:TypeId} {y:Operand} {cs:List Value} {z:Value} {size bytes:Nat} [TI P t z size bytes] (hg:gst ops L o=some true) (ho:o.op=.alloc t) (hd:odst n o.dst=some d) (hz:Nat.beq z.cells.toList.length cs.length=true)
    (ho2:o2.op=.store t (.tmp d) y) (hd2:o2.dst=none) (hg2:gst ops ((d,(.pointer (some ⟨w.heap.size,0,none⟩)))::L) o2=some true) (hy:ev ((d,(.pointer (some ⟨w.heap.size,0,none⟩)))::L) y=some (.agg cs.toArray)) (hs:Nat.beq cs.length size=true) (h1:cs.all Value.oneCell'=true)
    (k:∀ b w',Ext w w'→b=w.heap.size→Row w' b t cs→EL P n ops Q rest ((d,(.pointer (some ⟨b,0,none⟩)))::L) w'):EL P n ops Q (o::o2::rest) L w:=
  EL_alloc hg ho hd fun b w1 x1 hb r1=>by
    subst hb
    refine EL_storeP (off:=0) (cs:=cs) r1 x1 (Nat.le_refl _) hg2 hd2 ho2 (by simp [ev,lk]) hy (by simp [Value.cells]) hs h1 (by have:=Nat.eq_of_beq_eq_true hz;omega) (fun w2 r2 x2 _=>?_)
    refine k _ w2 x2 rfl ?_
    have e:z.cells.toList.length=cs.length:=Nat.eq_of_beq_eq_true hz
    have:z.cells.toList.take 0++cs++z.cells.toList.drop (0+cs.length)=cs:=by rw [Nat.zero_add,← e];simp
    rw [this] at r2
    exact r2
end
end Go.En
namespace Go.En
open Go.RowKit
theorem RQ_asgS {P:Program} {n:Nat} {ops:List Oper} {Q:Post} {o:Oper} {rest tl:List Oper} {G:List (Nat × Ent)} {w0:World} {α:Type} [Rep α] {d s:Nat} {g:Nat→Prop} {xs:List α} (hg:ggst ops G o=some true) (hd:odst n o.dst=some d) (ho:o.op=.assign (.tmp s)) (hr:gk G s=some (.r (fun u w'=>SlG g w' u xs)))
    (hl:∀ δ,lk (mat δ G) s=some (δ s)) (k:RQ P n ops w0 Q rest tl ((d,.r (fun u w'=>SlG g w' u xs))::G)):RQ P n ops w0 Q (o::rest) tl G:=
  RQ_valR (fun u w'=>SlG g w' u xs) hg hd (fun _ _ _ _ xe h=>SlG.ext h xe) (fun w δ _ hs=>⟨δ s,val_assign ho (hl δ),hs s (by rw [ho];simp [Op.operands,isT]) _ hr⟩) k
theorem RQ_valV {P:Program} {n:Nat} {ops:List Oper} {Q:Post} {o:Oper} {rest tl:List Oper} {G:List (Nat × Ent)} {w0:World} {d:Nat} {v:Value} (hg:ggst ops G o=some true) (hd:odst n o.dst=some d)
    (h:∀ w δ,Ext w0 w→SatO o δ G w→Val P (mat δ G) w o v) (k:RQ P n ops w0 Q rest tl ((d,.v v)::G)):RQ P n ops w0 Q (o::rest) tl G:=
  RW_op (T:=.v v) hg (odst_eq hd).2 (fun _ _ _ _ _ h=>h) (fun w δ hw hs ρ ha=>.inl ⟨v,w,h w δ hw hs ρ ha,rfl,Ext.refl w⟩) (by rw [(odst_eq hd).1];exact k)
theorem RQ_lenS {P:Program} {n:Nat} {ops:List Oper} {Q:Post} {o:Oper} {rest tl:List Oper} {G:List (Nat × Ent)} {w0:World} {α:Type} [Rep α] {d s:Nat} {g:Nat→Prop} {xs:List α} {t e:TypeId} [UT P t (.slice e)] (hg:ggst ops G o=some true) (hd:odst n o.dst=some d) (ho:o.op=.call { callee:=.builtin .len,args:=#[.tmp s],argTypes:=#[t] }) (hr:gk G s=some (.r (fun u w'=>SlG g w' u xs)))
    (hl:∀ δ,lk (mat δ G) s=some (δ s)) (k:RQ P n ops w0 Q rest tl ((d,.v (int xs.length))::G)):RQ P n ops w0 Q (o::rest) tl G:=
  RQ_valV hg hd (fun w δ _ hs=>by
    obtain⟨a,c,e1,_,_,_⟩:=(SlG.sl (hs s (by rw [ho];simp [Op.operands,Call.operands,isT]) _ hr))
    exact val_len_sl ho ((hl δ).trans (by rw [e1]))) k
theorem ret_3 {P:Program} {n:Nat} {L:List (Nat × Value)} {w:World} {fn:Func} {S:Value→World→Prop} {t u s:Tmp} {v x y:Value} (hr:fn.results=#[.tmp t,.tmp u,.tmp s]) (hv:lk L t=some v) (hx:lk L u=some x) (hy:lk L s=some y) (hs:S (.tuple #[v,x,y]) w):K n (bodyPost P fn (Rt S)) .ret L w:=fun a ha=>by
  refine⟨ha.nod,.tuple #[v,x,y],?_,_,rfl,hs⟩
  have h1:=ha.get t v hv
  have h2:=ha.get u x hx
  have h3:=ha.get s y hy
  rw [results_tmp3 hr]
  simp [Array.getD_eq_getD_getElem?,h1,h2,h3]
end Go.En
namespace Go.Proofs.YtjicdgejhkgpgaaGreatDoor
open Go.RowKit Go.En
attribute [local irreducible] E EL K Val Enters Rt Calls bodyPost Code.wp RQ
end Go.Proofs.YtjicdgejhkgpgaaGreatDoor
namespace Go.Proofs.YtjicdgejhkgpgaaGreatDoor
open Go.RowKit Go.En
attribute [local irreducible] E EL K Val Enters Rt Calls bodyPost Code.wp RQ
end Go.Proofs.YtjicdgejhkgpgaaGreatDoor
namespace Go.Proofs.YtjicdgejhkgpgaaGreatDoor
open Go.RowKit Go.En
theorem int_elem {G:Nat→Prop} {w:World} {b off n cap:Nat} {xs:List Int} (h:SlG G w (.slice (some ⟨b,off,none⟩) n cap) xs) {i:Nat} {x:Int} (hx:xs[i]?=some x):w.cell? ⟨b,off+i*1,none⟩=some (int x):=by
  obtain⟨cs,h1,h2⟩:=h.elem hx
  rw [show cs=[int x] from h1] at h2
  exact h2.one
attribute [local irreducible] E EL K Val Enters Rt Calls bodyPost Code.wp RQ
theorem aligned56_any (k:Int) (w:World):Calls Tryz.prog 106 #[int k] w (Rt fun u w'=>u=.bool (timedB k)∧Ext w w'):=by
  refine calls_E (n:=10) (args:=[int k]) Tryz.func106 rfl Tryz.ntmps106 (by simp) ?_
  (repeat' (first|(refine at_EL ?_;first|refine eN ?_|refine eV Z Z (zA Z Z) ?_|refine eV Z Z (zB Z Z) ?_|(refine at_bin ?_;first|refine eD Z Z (zM Z Z Z) (fun hh=>?_) (fun hh=>?_)))|(refine at_K ?_;first|refine K_then ?_|refine K_in ?_|refine K_then_ret ?_|refine K_then_exit ?_|refine K_in_ret ?_|refine K_in_exit ?_|refine K_in_exit' Z ?_)|(refine at_E ?_;first|refine E_seq ?_|refine E_region ?_|refine E_cond_t Z ?_|refine E_cond_f Z ?_|refine E_block ?_|refine E_skip ?_|refine E_ret ?_|refine E_exit ?_)))
  all_goals (first|(exfalso;omega)|skip)
  all_goals exact ret_1 Z Z ⟨by simp [timedB, *],Ext.refl _⟩
theorem ttAligned_any (d : Dc) (tv : Value) (k : Int) (w : World) (ht : Sl w tv d.tiers) : Calls Tryz.prog 68 #[tv, int k] w (Rt fun u w' => u = .bool (alignedB d k) ∧ Ext w w') := by
  refine calls_E (n:=21) (args:=[tv,int k]) Tryz.func68 rfl Tryz.ntmps68 (by simp) ?_
  have ht0:=ht
  obtain⟨a,cap,rfl,hc,hm,hp⟩:=ht.sl
  by_cases hk:0≤k∧k<d.tiers.length
  · obtain⟨j,rfl⟩:∃ j:Nat,k=(j:Int):=⟨k.toNat,by omega⟩
    obtain⟨b,off,rfl⟩:=hp (by omega)
    obtain⟨t,htt⟩:∃ t,d.tiers[j]?=some t:=⟨_,List.getElem?_eq_getElem (by omega)⟩
    have hat:=tier_elem ht0 htt
    rw [aligned_at htt]
    have ca:=aligned56_any t.kind
    (repeat' (first|refine eV Z Z (val_indexAddr (m:=j) Z Z Z Z (by omega)) ?_|refine eV Z Z (val_load Z Z Z (hat.cellAt (j:=1) Z)) ?_|(refine EL_call Z Z (entersF Z Z en106) (ca _) (fun vC wC hC=>?_);obtain⟨rfl,xC⟩:=hC)|(refine at_EL ?_;first|refine eN ?_|refine eO Z Z ?_|refine eV Z Z (zA Z Z) ?_|refine eV Z Z (zB Z Z) ?_|(refine at_bin ?_;first|refine eD Z Z (zL Z Z Z) (fun hh=>?_) (fun hh=>?_)|refine eD Z Z (zP Z Z Z) (fun hh=>?_) (fun hh=>?_))|(refine at_call ?_;first|refine eV Z Z (zK Z Z) ?_)|refine eV Z Z (zC Z Z Z) ?_|refine eV Z Z (zD Z Z Z) ?_|refine eV Z Z (zH Z Z) ?_)|(refine at_K ?_;first|refine K_then ?_)|(refine at_E ?_;first|refine E_seq ?_|refine E_region ?_|refine E_ret ?_)))
    all_goals (first|(exfalso;omega)|skip)
    exact ret_1 Z Z ⟨rfl,xC⟩
  · have hf:alignedB d k=false:=by
      unfold alignedB
      split
      · rename_i t h
        have:=(List.getElem?_eq_some_iff.1 h).1
        rw [decide_eq_false (by omega),Bool.false_and]
      · rfl
    rw [hf]
    (repeat' (first|(refine at_EL ?_;first|refine eN ?_|refine eO Z Z ?_|refine eV Z Z (zA Z Z) ?_|refine eV Z Z (zB Z Z) ?_|(refine at_bin ?_;first|refine eD Z Z (zL Z Z Z) (fun hh=>?_) (fun hh=>?_)|refine eD Z Z (zP Z Z Z) (fun hh=>?_) (fun hh=>?_))|(refine at_call ?_;first|refine eV Z Z (zK Z Z) ?_)|refine eV Z Z (zC Z Z Z) ?_|refine eV Z Z (zD Z Z Z) ?_)|(refine at_K ?_;first|refine K_then ?_)|(refine at_E ?_;first|refine E_seq ?_|refine E_region ?_|refine E_ret ?_)))
    all_goals (first|(exfalso;omega)|skip)
    all_goals exact ret_1 Z Z ⟨rfl,Ext.refl _⟩
theorem tget_any (d : Dc) (v : Value) (id : Int) (w : World) (hv : DcAt w v d) : Calls Tryz.prog 36 #[v, int id] w (Rt fun u w' => u = getR d.notes id ∧ Ext w w') := by
  obtain⟨sv,tv,nv,rfl,_,_,hn⟩:=hv
  refine calls_E (n:=22) (args:=[.agg #[int d.rid,str d.rname,int d.len,int d.day,sv,tv,nv],int id]) Tryz.func36 rfl Tryz.ntmps36 (by simp) ?_
  have hn0:=hn
  obtain⟨a,cap,rfl,hc,hm,hp⟩:=hn.sl
  refine E_seq ?_
  refine E_region ?_
  refine EL_box Z Z Z Z (fun bB wB xB hbB rB0=>?_)
  refine EL_alloc Z Z Z (fun bA wA xA hbA rA0=>?_)
  have rB:=rB0.ext xA
  have x0:=xB.trans xA
  have hwB:w.heap.size≤bA:=by have:=xB.size;omega
  (repeat' (first|refine eV Z Z (val_load Z Z Z (rB.cellAt rfl)) ?_|(refine at_EL ?_;first|refine eN ?_|refine eV Z Z (zA Z Z) ?_|refine eV Z Z (zB Z Z) ?_|(refine at_call ?_;first|refine eV Z Z (zK Z Z) ?_)|refine eV Z Z (zH Z Z) ?_)|(refine at_K ?_;first|refine K_then ?_)|(refine at_E ?_;first|refine E_seq ?_|refine E_region ?_|refine E_block ?_)))
  refine E_loop (ι:=Nat) (fun i=>[(1,int id),(4,.pointer (some ⟨bA,0,none⟩)),(9,.slice a d.notes.length cap),(10,int d.notes.length),(11,int i)])
    (fun i wr=>i≤d.notes.length∧Ext wA wr∧∀ j,j<i→∀ q,d.notes[j]?=some q→decide (q.id=id)=false) (fun i=>d.notes.length-i) 0
    ⟨rfl,rfl,rfl,rfl,rfl,trivial⟩ ⟨Nat.zero_le _,Ext.refl _,fun j hj=>by omega⟩ ?_
  rintro i wr ⟨hi,hx,hall⟩
  by_cases hlt:i<d.notes.length
  · obtain⟨b,off,rfl⟩:=hp (by omega)
    obtain⟨q,hq⟩:∃ q,d.notes[i]?=some q:=⟨_,List.getElem?_eq_getElem hlt⟩
    have hat:=note_elem (hn0.ext (x0.trans hx)) hq
    (repeat' (first|refine eV Z Z (val_indexAddr (m:=i) Z Z Z Z hlt) ?_|refine eV Z Z (val_loadA Z Z Z hat rfl) ?_|(refine at_EL ?_;first|refine eN ?_|(refine at_bin ?_;first|refine eD Z Z (zL Z Z Z) (fun hh=>?_) (fun hh=>?_)))|(refine at_K ?_;first|refine K_then ?_|refine K_then_exit ?_|refine K_in_exit ?_)|(refine at_E ?_;first|refine E_seq ?_|refine E_region ?_|refine E_cond_t Z ?_|refine E_cond_f Z ?_|refine E_block ?_|refine E_skip ?_|refine E_exit ?_)))
    all_goals (first|(exfalso;omega)|skip)
    refine EL_alloc Z Z Z (fun b7 w7 x7 hb7 r7=>?_)
    refine EL_storeP (cs:=noteC q) r7 x7 (by omega) Z Z Z Z Z Z Z Z (Nat.le_refl _) (fun w8 r8' x8 k8=>?_)
    have r8:Row w8 b7 80 (noteC q):=r8'
    clear r8'
    (repeat' (first|refine eV Z Z (val_load Z Z Z (r8.cellAt rfl)) ?_|refine eV Z Z (val_loadA Z Z Z r8.at rfl) ?_|(refine at_EL ?_;first|refine eN ?_|refine eV Z Z (zA Z Z) ?_|(refine at_bin ?_;first|refine eD Z Z (zM Z Z Z) (fun hh=>?_) (fun hh=>?_)|refine eV Z Z (zU Z Z Z (by omega) (by omega)) ?_)|refine eV Z Z (zH Z Z) ?_)|(refine at_K ?_;first|refine K_then ?_|refine K_in ?_)|(refine at_E ?_;first|refine E_seq ?_|refine E_region ?_|refine E_cond_t Z ?_|refine E_cond_f Z ?_|refine E_skip ?_)))
    · refine EL_storeP (cs:=noteC q) (rA0.ext (hx.trans x8)) (x0.trans (hx.trans x8)) hwB rfl rfl rfl rfl rfl rfl rfl rfl (Nat.le_refl _) (fun w9 r9 x9 k9=>?_)
      (repeat' (first|(refine at_EL ?_;first|refine eN ?_|refine eV Z Z (zB Z Z) ?_)|(refine at_K ?_;first|refine K_then ?_|refine K_then_ret ?_|refine K_in_ret ?_)|(refine at_E ?_;first|refine E_ret ?_)))
      refine ret_ct Z Z Z r9.at rfl rfl ⟨?_,x9⟩
      unfold getR getF
      rw [find_here hall hq (by simpa using ‹q.id=id›)]
      rfl
    · exact K_rnd (i+1) ⟨rfl,rfl,rfl,rfl,rfl,trivial⟩ ⟨by omega,hx.trans x8,fun j hj q' hq'=>by
        by_cases hj2:j<i
        · exact hall j hj2 q' hq'
        · obtain rfl:j=i:=by omega
          rw [hq] at hq';cases hq'
          exact decide_eq_false ‹_›⟩ (by omega)
  · (repeat' (first|refine eV Z Z (val_build (vs:=[]) (noteC zeroN) Z Z Z) ?_|(refine at_EL ?_;first|refine eN ?_|(refine at_bin ?_;first|refine eD Z Z (zL Z Z Z) (fun hh=>?_) (fun hh=>?_)))|(refine at_K ?_;first|refine K_then ?_|refine K_then_exit ?_|refine K_in_exit ?_)|(refine at_E ?_;first|refine E_seq ?_|refine E_region ?_|refine E_cond_t Z ?_|refine E_cond_f Z ?_|refine E_block ?_|refine E_skip ?_|refine E_exit ?_)))
    all_goals (first|(exfalso;omega)|skip)
    refine EL_storeP (cs:=noteC zeroN) (rA0.ext hx) (x0.trans hx) hwB rfl rfl rfl rfl rfl rfl rfl rfl (Nat.le_refl _) (fun w9 r9 x9 k9=>?_)
    (repeat' (first|(refine at_EL ?_;first|refine eN ?_|refine eV Z Z (zB Z Z) ?_)|(refine at_K ?_;first|refine K_then ?_)|(refine at_E ?_;first|refine E_ret ?_)))
    refine ret_ct Z Z Z r9.at rfl rfl ⟨?_,x9⟩
    unfold getR getF
    rw [List.find?_eq_none.2 fun q hq=>?_]
    · rfl
    · obtain⟨j,hj⟩:=List.getElem?_of_mem hq
      have:=(List.getElem?_eq_some_iff.1 hj).1
      simpa using hall j (by omega) q hj
end Go.Proofs.YtjicdgejhkgpgaaGreatDoor
namespace Go.Proofs.YtjicdgejhkgpgaaGreatDoor
open Go.RowKit Go.En
attribute [local irreducible] E EL K Val Enters Rt Calls bodyPost Code.wp RQ
end Go.Proofs.YtjicdgejhkgpgaaGreatDoor
namespace Go.Proofs.YtjicdgejhkgpgaaGreatDoor
open Go.RowKit Go.En
attribute [local irreducible] E EL K Val Enters Rt Calls bodyPost Code.wp RQ
end Go.Proofs.YtjicdgejhkgpgaaGreatDoor
namespace Go.Proofs.YtjicdgejhkgpgaaGreatDoor
open Go.RowKit Go.En
attribute [local irreducible] E EL K Val Enters Rt Calls bodyPost Code.wp RQ
end Go.Proofs.YtjicdgejhkgpgaaGreatDoor
namespace Go.Proofs.YtjicdgejhkgpgaaGreatDoor
open Go.RowKit Go.En
def curN (ns:List Note) (id:Int):Note:=(getF ns id).getD zeroN
theorem getR_cur (ns:List Note) (id:Int):getR ns id=.tuple #[.agg (noteC (curN ns id)).toArray,.bool (getF ns id).isSome]:=by
  unfold getR curN
  cases getF ns id <;> rfl
attribute [local irreducible] E EL K Val Enters Rt Calls bodyPost Code.wp RQ
end Go.Proofs.YtjicdgejhkgpgaaGreatDoor
namespace Go.Proofs.YtjicdgejhkgpgaaGreatDoor
open Go.RowKit Go.En
attribute [local irreducible] E EL K Val Enters Rt Calls bodyPost Code.wp RQ
end Go.Proofs.YtjicdgejhkgpgaaGreatDoor
