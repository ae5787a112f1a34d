/-
  Own text of the proof.
-/
import Derived.Test.YtjicdgejhkgpgaaGreatDoorY8
import Derived.Test.YtjicdgejhkgpgaaGreatDoorYx
import Derived.Test.YtjicdgejhkgpgaaGreatDoorYg
set_option linter.all false
set_option maxHeartbeats 4000000
set_option maxRecDepth 8000
namespace Go.Proofs.YtjicdgejhkgpgaaGreatDoor
section
open Go.RowKit Go.En Go.Pv
attribute [local irreducible] E EL K Val Enters Rt Calls bodyPost Code.wp RQ
theorem B6p (l : List Pnt) (hn : l.length ≤ 1000) (id : Int) (v : Value) (w : World) (hv : Sl w v l) : Calls Tryz.prog 31 #[v, int id] w (Rt fun u w' => Sl w' u (L7 (A5z l id)) ∧ Ext w w') := by
  have hv0:=hv
  obtain⟨a,c,rfl,_,hm,hpp⟩:=hv.sl
  refine A6 (n:=35) (args:=[.slice a l.length c,int id]) Tryz.func31 rfl Tryz.ntmps31 (by simp) ?_
  (repeat' (first|refine Sy ?_))
  refine B0 (ι:=Nat × Value) (fun z=>[(1,int id),(5,z.2),(10,.slice a l.length c),(11,int l.length),(12,int z.1)])
    (fun z wr=>z.1≤l.length∧Grow Tt w 3 (((l.take z.1).filter fun p=>p.entries.contains id).map (·.id)) z.2 wr) (fun z=>l.length-z.1) (0,.slice none 0 0)
    ⟨rfl,rfl,rfl,rfl,rfl,trivial⟩ ⟨Nat.zero_le _,Grow.none⟩ ?_
  rintro⟨i,ov⟩ wr ⟨hi,hgr⟩
  dsimp only at hi hgr ⊢
  have hvr:=hv0.ext hgr.x
  by_cases hlt:i<l.length
  · obtain⟨b,off,rfl⟩:=hpp (by omega)
    obtain⟨p,hpi⟩:∃ p,l[i]?=some p:=⟨_,List.getElem?_eq_getElem hlt⟩
    have hft:=Z6 (p:=fun p:Pnt=>p.entries.contains id) (f:=(·.id)) hpi
    have hfl:=L9 (p:=fun p:Pnt=>p.entries.contains id) (l:=l) (i:=i)
    have hml:(((l.take i).filter fun p=>p.entries.contains id).map (·.id)).length≤i:=by rw [List.length_map];exact hfl
    obtain⟨a0,c0,a1,c1,hat,_,he,_⟩:=A0i hvr hpi
    obtain⟨_,_,ee,_,_,hep⟩:=he.sl
    cases ee
    (repeat' (first|refine eV Z Z (A0 (m:=i) Z Z Z (by first|rfl|omega) (by omega)) ?_|(refine C1 Z Z Z Z Z Z Z Z Z Z (fun bP wP xP hbP rP=>?_);replace hgr:=hgr.ext xP;replace he:=he.ext xP)|refine Ly ?_|refine Dy (fun hh=>?_) fun hh=>?_))
    all_goals (try (exfalso;omega))
    refine B0 (ι:=Nat) (fun k=>[(1,int id),(5,ov),(7,.pointer (some ⟨bP,0,none⟩)),(10,.slice (some ⟨b,off,none⟩) l.length c),(11,int l.length),(12,int i),(17,.slice a0 p.entries.length c0),(18,int p.entries.length),(19,int k)])
      (fun k wk=>k≤p.entries.length∧Ext wP wk∧∀(q:Nat) (x:Int),q<k→p.entries[q]?=some x→x≠id) (fun k=>p.entries.length-k) 0
      ⟨rfl,rfl,rfl,rfl,rfl,rfl,rfl,rfl,rfl,trivial⟩ ⟨Nat.zero_le _,Ext.refl _,fun _ _ h=>absurd h (by omega)⟩ ?_
    rintro k wk ⟨hk,hxk,hall⟩
    replace hgr:=hgr.ext hxk
    replace rP:=rP.ext hxk
    replace he:=he.ext hxk
    by_cases hlk:k<p.entries.length
    · obtain⟨rb,ro,rfl⟩:=hep (by omega)
      obtain⟨x,hxi⟩:∃ x,p.entries[k]?=some x:=⟨_,List.getElem?_eq_getElem hlk⟩
      have hcx:=(Go.Pv.int_elem he hxi).one
      by_cases hid:x=id
      · have hb:p.entries.contains id=true:=by
          rw [List.contains_eq_mem];exact decide_eq_true (hid▸List.mem_of_getElem? hxi)
        rw [hb,if_pos rfl] at hft
        (repeat' (first|refine eV Z Z (A0 (m:=k) Z Z Z (by first|rfl|omega) (by omega)) ?_|(refine M1 (x:=p.id) (hgr.ext xS) rS rfl rfl rfl rfl rfl rfl rfl rfl (by omega) (by omega) (fun vK wK hK=>?_))|refine Ly ?_|refine Dy (fun hh=>?_) fun hh=>?_|refine eL Z Z Z Z Z Z Z Z (fun bS wS xS hbS rS=>?_)))
        all_goals (try (exfalso;omega))
        exact B3 (i+1,vK) ⟨rfl,rfl,rfl,rfl,rfl,trivial⟩ ⟨by dsimp only;omega,by dsimp only;rw [hft];exact hK⟩ (by dsimp only;omega)
      · (repeat' (first|refine eV Z Z (A0 (m:=k) Z Z Z (by first|rfl|omega) (by omega)) ?_|refine Ly ?_|refine Dy (fun hh=>?_) fun hh=>?_|refine eL Z Z Z Z Z Z Z Z (fun bS wS xS hbS rS=>?_)))
        all_goals (try (exfalso;omega))
        refine B3 (k+1) ⟨rfl,rfl,rfl,rfl,rfl,rfl,rfl,rfl,rfl,trivial⟩ ⟨by omega,hxk,fun q y hq hy=>?_⟩ (by omega)
        by_cases e:q=k
        · subst e;rw [hxi] at hy;cases hy;exact hid
        · exact hall q y (by omega) hy
    · have hb:p.entries.contains id=false:=by
        rw [List.contains_eq_mem]
        refine decide_eq_false (fun hm=>?_)
        obtain⟨q,hq⟩:=List.getElem?_of_mem hm
        exact hall q id (by have:=(List.getElem?_eq_some_iff.1 hq).1;omega) hq rfl
      rw [hb,if_neg (by simp),List.append_nil] at hft
      (repeat' (first|refine Sy ?_|refine Dy (fun hh=>?_) fun hh=>?_))
      all_goals (try (exfalso;omega))
      exact B3 (i+1,ov) ⟨rfl,rfl,rfl,rfl,rfl,trivial⟩ ⟨by dsimp only;omega,by dsimp only;rw [hft];exact hgr⟩ (by dsimp only;omega)
  · obtain rfl:i=l.length:=by omega
    rw [List.take_length] at hgr
    have hul:=C1k (l:=l) (id:=id)
    have hso:Sl wr ov (A5z l id):=hgr.sl (fun _ _=>trivial) (by show(A5z l id).length≤_;omega)
    have hX:=hgr.x
    have cs:=A4i (A5z l id) ov wr hso (by omega)
    (repeat' (first|(refine A8 Z Z (A5 Z Z en66) cs (fun vC wC hC=>?_))|refine Sy ?_|refine Dy (fun hh=>?_) fun hh=>?_))
    all_goals (try (exfalso;omega))
    obtain⟨h2,h1⟩:=hC
    exact A4 Z Z ⟨h1.any,hX.trans h2⟩
theorem shp76:Shp Tryz.prog 76 [(false,3,0),(false,3,1)]:=⟨by kernel_rfl,by kernel_rfl,by kernel_rfl,by kernel_rfl⟩
end
section
open Go.RowKit Go.En Go.Pv
def xE1:En:=⟨1,[2,1],1,[],0,[⟨[100,111,103],[]⟩],[],[⟨3,5⟩]⟩
def xE2:En:=⟨2,[4,3],2,[],0,[⟨[80,76],[]⟩],[],[⟨3,5⟩,⟨3,7⟩]⟩
def xE1n:En:=⟨1,[2,1],1,[],0,[⟨[100,111,103],[]⟩],[],[]⟩
def xSegs:List Ph:=[⟨[97],0⟩,⟨[98],0⟩,⟨[105],0⟩,⟨[112],0⟩]
def xUnits:List Unt:=[⟨[97],[1]⟩,⟨[98],[2]⟩,⟨[105],[3]⟩,⟨[112],[4]⟩]
def xSteps:List Stp:=[⟨0,1,1⟩,⟨1,2,1⟩]
def xNet:Net:=⟨2,xSteps,[1]⟩
def xG:Lg:={ segs:=xSegs,oname:=[111,110,101],units:=xUnits,letters:=[],rules:=[],net:=xNet,lex:=[xE1,xE2] }
def xGn:Lg:={ segs:=xSegs,oname:=[111,110,101],units:=xUnits,letters:=[],rules:=[],net:=xNet,lex:=[xE1n,xE2] }
def xT:List Tier:=[⟨[116,101,120,116],0,1,-1⟩,⟨[119,111,114,100],2,2,0⟩,⟨[109,111,114,112,104],3,3,1⟩]
def xN:List Note:=[⟨2,0,0,0,900,0,[]⟩,⟨5,1,2,0,300,0,[98,97]⟩,⟨7,1,2,300,500,0,[98,97,112,105]⟩,⟨8,2,7,0,0,0,[98,97]⟩]
def xD:Dc:=⟨3,[],900,0,[],xT,xN⟩
def xP:Pnt:=⟨1,[112,108,117,114,97,108],[],[2],[⟨3,7⟩,⟨3,9⟩]⟩
def xQ:Pnt:=⟨1,[112,108,117,114,97,108],[],[2],[]⟩
theorem x_att1:attP [xD] xG 2 ⟨3,7⟩=true:=by kernel_rfl
theorem x_att2:attP [xD] xG 2 ⟨3,5⟩=false:=by kernel_rfl
theorem x_att3:attP [xD] xG 1 ⟨3,8⟩=false:=by kernel_rfl
theorem x_ent:K3 [xD] xG 2=[⟨3,7⟩]:=by kernel_rfl
theorem x_miss:A0l [xD] xG=[]:=by kernel_rfl
theorem x_missn:A0l [xD] xGn=[1]:=by kernel_rfl
theorem x_pts:Y1 labB txtF xG.lex [xP]=0:=by kernel_rfl
theorem x_ptsq:Y1 labB txtF xG.lex [xQ]=24:=by kernel_rfl
theorem x_dang:B8q (H6 [xD]) [xP]=[⟨3,9⟩]:=by kernel_rfl
theorem x_uses:L7 (A5z [xP] 2)=[1]:=by kernel_rfl
theorem x_where:S8 [xD] ⟨3,8⟩=.tuple #[.agg #[int 300,int 500],.bool true]:=by kernel_rfl
theorem x_no:S8 [xD] ⟨4,8⟩=.tuple #[.agg #[int 0,int 0],.bool false]:=by kernel_rfl
theorem x_doc:docF [xD] 3=some xD:=by kernel_rfl
theorem B0m {k:Nat} {t:Tier} (h:xD.tiers[k]?=some t):(k=0∧t=⟨[116,101,120,116],0,1,-1⟩)∨(k=1∧t=⟨[119,111,114,100],2,2,0⟩)∨(k=2∧t=⟨[109,111,114,112,104],3,3,1⟩):=by
  rcases k with _|_|_|k
  · exact .inl ⟨rfl,(Option.some.inj h).symm⟩
  · exact .inr (.inl ⟨rfl,(Option.some.inj h).symm⟩)
  · exact .inr (.inr ⟨rfl,(Option.some.inj h).symm⟩)
  · cases h
theorem A1o {k:Nat} {n:Note} (h:xD.notes[k]?=some n):(k=0∧n=⟨2,0,0,0,900,0,[]⟩)∨(k=1∧n=⟨5,1,2,0,300,0,[98,97]⟩)∨(k=2∧n=⟨7,1,2,300,500,0,[98,97,112,105]⟩)∨(k=3∧n=⟨8,2,7,0,0,0,[98,97]⟩):=by
  rcases k with _|_|_|_|k
  · exact .inl ⟨rfl,(Option.some.inj h).symm⟩
  · exact .inr (.inl ⟨rfl,(Option.some.inj h).symm⟩)
  · exact .inr (.inr (.inl ⟨rfl,(Option.some.inj h).symm⟩))
  · exact .inr (.inr (.inr ⟨rfl,(Option.some.inj h).symm⟩))
  · cases h
theorem x_tiers (i : Nat) (t : Tier) (h : xD.tiers[i]? = some t) : TierOK xD.tiers i t := by
  rcases B0m h with⟨rfl,rfl⟩|⟨rfl,rfl⟩|⟨rfl,rfl⟩
  all_goals
    refine⟨by dsimp only;omega,by dsimp only;omega,fun _ k p hk hp=>?_,by dsimp only;omega,by dsimp only;omega,?_,by dsimp only;omega,?_⟩
    · rcases B0m hp with⟨rfl,rfl⟩|⟨rfl,rfl⟩|⟨rfl,rfl⟩ <;> dsimp only <;> omega
    · intro hk
      first
        | (exfalso;dsimp only at hk;omega)
        | exact⟨_,rfl,rfl⟩
    · refine⟨fun hk=>?_,fun hk=>?_,fun hk=>?_⟩
      all_goals
        first
          | (exfalso;dsimp only at hk;omega)
          | exact⟨_,rfl,rfl⟩
          | exact⟨by dsimp only;omega,_,rfl,rfl⟩
theorem A2d (n:Note) (t:Tier) (k:Nat) (hn:n∈xD.notes) (hk:n.tier=(k:Int)) (ht:xD.tiers[k]?=some t):PlacedOK xD n t:=by
  obtain⟨i,hi⟩:=List.getElem?_of_mem hn
  rcases A1o hi with⟨rfl,rfl⟩|⟨rfl,rfl⟩|⟨rfl,rfl⟩|⟨rfl,rfl⟩
  all_goals
    rcases B0m ht with⟨rfl,rfl⟩|⟨rfl,rfl⟩|⟨rfl,rfl⟩
    all_goals first|(exfalso;dsimp only at hk;omega)|skip
  all_goals
    refine⟨by dsimp only;omega,fun hk0=>?_,fun hoff=>?_,fun hon=>?_,fun hk0=>?_,fun hk0 p hp=>?_,?_⟩
    · first|(exfalso;dsimp only at hk0;omega)|exact⟨_,rfl,rfl⟩
    · first|(exfalso;cases hoff;done)|exact⟨rfl,rfl⟩
    · first|(exfalso;cases hon;done)|rfl
    · first|(exfalso;dsimp only at hk0;omega)|(show(_:Int)≤900;dsimp only;omega)
    · first|(exfalso;dsimp only at hk0;omega)|(cases hp;exact⟨by dsimp only;omega,by dsimp only;omega⟩)
    · exact⟨by dsimp only;omega,fun _=>rfl⟩
theorem x_notes (i:Nat) (n:Note) (h:xD.notes[i]?=some n):NoteOK xD i n:=by
  have hm:=List.mem_of_getElem? h
  refine⟨?_,fun m h0 hm'=>?_,?_,?_⟩
  · rcases A1o h with⟨rfl,rfl⟩|⟨rfl,rfl⟩|⟨rfl,rfl⟩|⟨rfl,rfl⟩ <;> dsimp only <;> omega
  · rcases A1o h with⟨rfl,rfl⟩|⟨rfl,rfl⟩|⟨rfl,rfl⟩|⟨rfl,rfl⟩
    all_goals rcases A1o hm' with⟨e,rfl⟩|⟨e,rfl⟩|⟨e,rfl⟩|⟨e,rfl⟩ <;> dsimp only <;> omega
  · rcases A1o h with⟨rfl,rfl⟩|⟨rfl,rfl⟩|⟨rfl,rfl⟩|⟨rfl,rfl⟩
    all_goals exact⟨by decide,_,rfl,by decide⟩
  · rcases A1o h with⟨rfl,rfl⟩|⟨rfl,rfl⟩|⟨rfl,rfl⟩|⟨rfl,rfl⟩
    · exact⟨_,0,rfl,rfl,A2d _ _ 0 hm rfl rfl⟩
    · exact⟨_,1,rfl,rfl,A2d _ _ 1 hm rfl rfl⟩
    · exact⟨_,1,rfl,rfl,A2d _ _ 1 hm rfl rfl⟩
    · exact⟨_,2,rfl,rfl,A2d _ _ 2 hm rfl rfl⟩
theorem x_sib (k:Nat) (t:Tier) (h:xD.tiers[k]?=some t):R3 xD k t:=by
  intro n hn hk
  obtain⟨i,hi⟩:=List.getElem?_of_mem hn
  rcases A1o hi with⟨rfl,rfl⟩|⟨rfl,rfl⟩|⟨rfl,rfl⟩|⟨rfl,rfl⟩
  all_goals
    rcases B0m h with⟨rfl,rfl⟩|⟨rfl,rfl⟩|⟨rfl,rfl⟩
    all_goals first|(exfalso;dsimp only at hk;omega)|skip
  · refine⟨fun _ i k a b hlt ha hb=>?_,fun e=>by dsimp only at e;omega,fun e=>by dsimp only at e;omega⟩
    have e:sibs xD.notes ((0:Nat):Int) 0=[⟨2,0,0,0,900,0,[]⟩]:=rfl
    dsimp only at ha hb
    rw [e] at ha hb
    have:=(List.getElem?_eq_some_iff.1 ha).1
    simp at this;omega
  iterate 2
    · refine⟨fun _ i k a b hlt ha hb=>?_,fun e=>by dsimp only at e;omega,fun e=>by dsimp only at e;omega⟩
      have e:sibs xD.notes ((1:Nat):Int) 2=[⟨5,1,2,0,300,0,[98,97]⟩,⟨7,1,2,300,500,0,[98,97,112,105]⟩]:=rfl
      dsimp only at ha hb
      rw [e] at ha hb
      have h2:=(List.getElem?_eq_some_iff.1 ha).1
      simp at h2
      obtain⟨rfl,rfl⟩:i=1∧k=0:=by omega
      cases ha;cases hb
      dsimp only;omega
  · refine⟨fun e=>(by cases e),fun _ m hm=>?_,fun e=>(by dsimp only at e;omega)⟩
    have e:sibs xD.notes ((2:Nat):Int) 7=[⟨8,2,7,0,0,0,[98,97]⟩]:=rfl
    dsimp only at hm ⊢
    rw [e] at hm ⊢
    simp at hm
    subst hm
    exact⟨_,List.mem_singleton.2 rfl,rfl⟩
theorem x_light:LightD xD:=⟨by decide,by decide,by decide,x_tiers,⟨by decide,by decide⟩,x_notes,x_sib⟩
theorem A2e:LightDs [xD]:=⟨by decide,fun d hd=>by rw [List.mem_singleton] at hd;subst hd;exact x_light,fun i a b _ hb=>by simp at hb⟩
theorem x_net:NetOK xNet:=⟨by decide,by decide,by decide,by decide⟩
theorem A5t:LangOK xG:={ nsegs:=by decide,nunits:=by decide,units:=by decide,nrules:=by decide,rules:=by decide,net:=x_net,states:=by decide,nsteps:=by decide,nfinal:=by decide,nlex:=by decide,ids:=by decide,lex:=by decide }
theorem x_langn:LangOK xGn:={ nsegs:=by decide,nunits:=by decide,units:=by decide,nrules:=by decide,rules:=by decide,net:=x_net,states:=by decide,nsteps:=by decide,nfinal:=by decide,nlex:=by decide,ids:=by decide,lex:=by decide }
end
end Go.Proofs.YtjicdgejhkgpgaaGreatDoor