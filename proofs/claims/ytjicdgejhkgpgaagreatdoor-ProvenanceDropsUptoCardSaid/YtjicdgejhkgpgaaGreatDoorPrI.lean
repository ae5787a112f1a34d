/-
  Own text of the proof.
-/
import Derived.Test.YtjicdgejhkgpgaaGreatDoorPp
import Derived.Test.YtjicdgejhkgpgaaGreatDoorYu
import Derived.Test.YtjicdgejhkgpgaaGreatDoorXUM
import Derived.OpenShut
set_option linter.all false
set_option maxHeartbeats 2000000
set_option maxRecDepth 100000
namespace Go.Proofs.YtjicdgejhkgpgaaGreatDoor.provenanceDropsUpto
open Go.Shelf Go.ChangeShapes Go.WideShapes Go.ChangeAt Go.RowKit Go.Lib Go.En Go.Pv
open Go.ChangeMaps (open_string shut_string)
theorem laid_met (os:Os) (args:Array Value):laidMet Tryz.prog Rows.provenanceDropsUptoRow.laid ((laidWorld os).forCall (fun _ _=>0) ⟨#[],args,[]⟩).memory:=
  (LaidIn.of_run (l:=Rows.provenanceDropsUptoRow.laid) [1,0] 8 (by kernel_rfl) (by kernel_rfl) (by kernel_rfl) (by kernel_rfl)).met
theorem witness_row (os:Os) {H:Type} (enc:TypeId × Value→H) :
    (Rows.OpenSpec.upto Rows.provenanceDropsSpec).preRow enc Tryz.prog Tryz.f11 Rows.provenanceDropsUptoRow.domain false Rows.provenanceDropsUptoRow.laid ((laidWorld os).forCall (fun _ _=>0) ⟨#[],#[.slice none 0 0,.agg #[.slice none 0 0,.string ⟨#[]⟩,.slice none 0 0,.slice none 0 0,.slice none 0 0,.int .i64 0,.slice none 0 0,.slice none 0 0,.slice none 0 0],.agg #[.int .i64 0,.int .i64 0]],[]⟩).memory #[.slice none 0 0,.agg #[.slice none 0 0,.string ⟨#[]⟩,.slice none 0 0,.slice none 0 0,.slice none 0 0,.int .i64 0,.slice none 0 0,.slice none 0 0,.slice none 0 0],.agg #[.int .i64 0,.int .i64 0]]:=by
  have hw:(DataW.whole enc Tryz.prog ((laidWorld os).forCall (fun _ _=>0) ⟨#[],#[.slice none 0 0,.agg #[.slice none 0 0,.string ⟨#[]⟩,.slice none 0 0,.slice none 0 0,.slice none 0 0,.int .i64 0,.slice none 0 0,.slice none 0 0,.slice none 0 0],.agg #[.int .i64 0,.int .i64 0]],[]⟩).memory Tryz.f11.params.toList Rows.provenanceDropsSpec.vars false #[Value.slice none 0 0,Value.agg #[Value.slice none 0 0,.string ⟨#[]⟩,.slice none 0 0,.slice none 0 0,.slice none 0 0,.int .i64 0,.slice none 0 0,.slice none 0 0,.slice none 0 0],Value.agg #[.int .i64 0,.int .i64 0]].toList 8).map (fun x=>(x.1,x.2.1))=
      some ([.nil,.agg [.agg [.nil],.agg [.lit (.string []),.nil,.nil],.nil,.agg [.lit (.int .i64 0),.nil,.nil],.nil],.agg [.lit (.int .i64 0),.lit (.int .i64 0)]],[]):=by kernel_rfl
  obtain⟨⟨x1,x2,x3⟩,hx,hx1⟩:=Option.map_eq_some_iff.1 hw
  simp only [Prod.mk.injEq] at hx1
  obtain⟨rfl,rfl⟩:=hx1
  exact OpenSpec.preRow_of_cond 8 hx (by kernel_rfl) (fun k hk=>by cases hk;kernel_rfl) (by kernel_rfl) (laid_met os _)
theorem lifted (os:Os) (started:os.Started) (H:Type) (enc:TypeId × Value→H) (F:Stop.Interp) :
    ReturnsInHanded {} Tryz.checked os 11 .any ((Rows.OpenSpec.upto Rows.provenanceDropsSpec).preRow enc Tryz.prog Tryz.f11 Rows.provenanceDropsUptoRow.domain false Rows.provenanceDropsUptoRow.laid) (((Rows.OpenSpec.upto Rows.provenanceDropsSpec).at F).post enc Tryz.prog Tryz.f11 false true false false):=by
  refine returnsInHanded_of_row (C:=Tryz.checked) (s:=(Rows.OpenSpec.upto Rows.provenanceDropsSpec)) own started (by kernel_rfl) Tryz.func11
    (witness_row_atRef (enc:=enc) (C:=Tryz.checked) false (laidWorld os) #[.slice none 0 0,.agg #[.slice none 0 0,.string ⟨#[]⟩,.slice none 0 0,.slice none 0 0,.slice none 0 0,.int .i64 0,.slice none 0 0,.slice none 0 0,.slice none 0 0],.agg #[.int .i64 0,.int .i64 0]] rfl (by kernel_rfl) (by kernel_rfl) (by kernel_rfl) (witness_row os enc)) ?_
  intro W base args ds gs before hval0 hW hcnd1 hcond hcnd3 hL _ _
  have hval:∀(j:Nat) t v,Tryz.f11.params[j]?=some t→args[j]?=some v→Value.okWide Tryz.prog W .any base t v:=hval0
  have hW':=hW
  obtain⟨p,q,hA0,hV0,rfl,_,_⟩:=hW
  have hA:DataW.TrodAll enc Tryz.prog W 0 (fun _=>true) true Tryz.f11.params.toList args.toList ds p:=hA0
  rw [Tryz.params11] at hA hval
  obtain⟨v0,vs0,d0,ds0,p0,q0,hargs0,rfl,rfl,h0,r0⟩:=trodAll_cons hA
  obtain⟨v1,vs1,d1,ds1,p1,q1,hargs1,rfl,rfl,h1,r1⟩:=trodAll_cons r0
  obtain⟨v2,vs2,d2,ds2,p2,q2,hargs2,rfl,rfl,h2,r2⟩:=trodAll_cons r1
  obtain⟨rfl,rfl,rfl⟩:=trodAll_nil r2
  obtain rfl:args=#[v0,v1,v2]:=by cases args;simp_all
  obtain⟨rfl,rfl⟩:=trodVars_none hV0
  obtain⟨x0,hx0,hb0⟩:=C1u (hval 0 22 v0 rfl rfl) h0 (A5q hcnd3 (j:=0) rfl rfl)
  obtain⟨g1,pv1,uv1,tv1,rv1,sv1,fv1,ev1,rfl,hg1,hk1⟩:=C1t (hval 1 37 v1 rfl rfl) h1 (A5q hcnd3 (j:=1) rfl rfl)
  obtain⟨x2,rfl⟩:=open_rf (hval 2 39 v2 rfl rfl) h2 (A5q hcnd3 (j:=2) rfl rfl)
  clear hA0 hV0 hval0
  have htab:Tabs W:=C2a hL
  have hk:=of_decide_eq_true (hcond _ rfl)
  simp only [List.append_nil,Rows.uptoBulkAll] at hk
  have walk:=C1z x0 (B8n hb0) g1 (lgBd_of (hk1.mono (by omega))) (Nat.le_trans (hk1.letters.1) (by omega)) x2 v0 pv1 uv1 tv1 rv1 sv1 fv1 ev1 W htab hx0 hg1
  have hlt:=fun x hx=>hW'.lt x hx
  refine walk.mono ?_
  rintro e W' ⟨u,rfl,rfl,bel⟩
  refine⟨_,rfl,_,_,_,[],(p0++(p1++(p2++[]))),[],hW',?_,?_,?_,Below.frame bel _,fun h=>by cases h⟩
  · exact trodAll_mk1 (shut_bool Tryz.underlying4 _)
  · exact trodAll_cons_mk (Below.trod B1s (by kernel_rfl) (of_decide_eq_true (by kernel_rfl)) h0 bel fun x hx=>hlt x (by simp [hx])) (trodAll_cons_mk (Below.trod B1s (by kernel_rfl) (of_decide_eq_true (by kernel_rfl)) h1 bel fun x hx=>hlt x (by simp [hx])) (trodAll_cons_mk (Below.trod B1s (by kernel_rfl) (of_decide_eq_true (by kernel_rfl)) h2 bel fun x hx=>hlt x (by simp [hx])) (trodAll_mk0)))
  · rfl
theorem jf1:(Rows.provenanceDropsUptoRow.inPlace==Tryz.pinned.checked.prog.inPlace 11)=true:=by kernel_rfl
theorem jf2:(Rows.provenanceDropsUptoRow.unfollowed==Tryz.pinned.checked.prog.unfollowed 11)=true:=by kernel_rfl
theorem jf3:(Rows.provenanceDropsUptoRow.recurses==Tryz.pinned.checked.prog.recurses 11)=true:=by kernel_rfl
theorem jf4:(Rows.provenanceDropsUptoRow.named==Tryz.pinned.checked.prog.varsNamed 11)=true:=by kernel_rfl
theorem said:Rows.ProvenanceDropsUptoSaid:=
  OpenClaim.holds_of_cond 11 Tryz.f11 rfl rfl rfl rfl rfl rfl rfl ⟨rfl,rfl,rfl,rfl,rfl⟩ rfl rfl rfl rfl rfl (by kernel_rfl) Tryz.func11
    (by unfold joinedFacts;exact band (band (band (band (band (band (band (band (band (band (band (band (band (band (band (band (band (band (band (band (band (band (band (band (band (band (band (band (band (band (band (by kernel_rfl) pj_laid) C4i) (by kernel_rfl)) (by kernel_rfl)) (by kernel_rfl)) (by kernel_rfl)) (by kernel_rfl)) (by kernel_rfl)) jf1) jf2) jf3) jf4) (by kernel_rfl)) (by kernel_rfl)) (by kernel_rfl)) (by kernel_rfl)) (by kernel_rfl)) (by kernel_rfl)) (by kernel_rfl)) (by kernel_rfl)) (by kernel_rfl)) C4j) (by kernel_rfl)) C4l) C4m) C4k) pj_make) (by kernel_rfl)) (by kernel_rfl)) (by kernel_rfl)) (by kernel_rfl))
    (of_decide_eq_true (by kernel_rfl)) (by unfold Func.isWrapper;first|(rw [if_pos (by decide +kernel)];kernel_rfl)|(rw [if_neg (by decide +kernel)];exact⟨rfl,rfl⟩))
    (fun os started H enc _ F=>by rw [OpenClaim.pre_eq_preRow];exact lifted os started H enc F)
theorem plain (f:FuncId) (fn:Func) (hf:Tryz.pinned.checked.prog.funcNamed Rows.provenanceDropsUptoRow.func=some f) (hfn:Tryz.pinned.checked.prog.funcs[f]?=some fn) :
    false=Tryz.pinned.checked.prog.looks []∧∀(j:Nat) t,fn.params[j]?=some t→Tryz.pinned.checked.prog.wantsStandIn t=false:=by
  obtain rfl:f=11:=Option.some.inj ((show Tryz.prog.funcNamed Rows.provenanceDropsUptoRow.func=some 11 by kernel_rfl).symm.trans hf) |>.symm
  obtain rfl:fn=Tryz.f11:=(Option.some.inj (Tryz.func11.symm.trans hfn)).symm
  refine⟨by kernel_rfl,fun j t ht=>?_⟩
  rw [Tryz.params11] at ht
  have hm:=Array.mem_of_getElem? ht
  rcases (show t=22∨t=37∨t=39 by simpa using hm) with rfl|rfl|rfl
  · exact(show Tryz.prog.wantsStandIn 22=false by kernel_rfl)
  · exact(show Tryz.prog.wantsStandIn 37=false by kernel_rfl)
  · exact(show Tryz.prog.wantsStandIn 39=false by kernel_rfl)
theorem goes:false=Rows.provenanceDropsUptoRow.goesBy Tryz.pinned.checked.prog:=by kernel_rfl
theorem card:Rows.ProvenanceDropsUptoCardSaid:=
  Claim7.holds_tied_plain_at .later [] _ _ _ _ said (fun _ h=>by cases h) (by kernel_rfl) (fun _ h=>by cases h) provenanceDropsUpto_row_tie rfl ⟨rfl,rfl⟩ pj_main rfl plain goes
end Go.Proofs.YtjicdgejhkgpgaaGreatDoor.provenanceDropsUpto
