/-
  A query that came in, with a bound on its nodes: no more than the bulk of what was read.
-/
import Derived.Test.YtnifmbbpfdghmaaGreatDoorYp
import Derived.Test.YtnifmbbpfdghmaaGreatDoorTc
set_option linter.all false
namespace Go.Proofs.YtnifmbbpfdghmaaGreatDoor
open Go.Shelf Go.ChangeShapes Go.WideShapes Go.ChangeAt Go.RowKit Go.Lib Go.En
open Go.ChangeMaps (open_string shut_string)
theorem open_slM {α:Type} [Rep α] {H:Type} {enc:TypeId × Value→H} {P:Program} {w:World} {sp:Nat→Bool} {held:Bool} {fuel:Nat} {t e:TypeId} {cs:List Value} {x:DataW H × List MemPlace} (M:α→DataW H→Prop)
    (hO:∀(n:Nat) (cs:List Value) (x:DataW H × List MemPlace),fuel=n+1→DataW.trod enc P w 0 sp held n e cs=some x→Bd P e x.1→∃ a:α,Rep.at_ Tt w a cs∧M a x.1) (ht:P.underlying t=some (.slice e)) (hc:P.cellsOf e=Rep.sz α) (hz:0<Rep.sz α) (hb:1≤P.bytesOf e) (h:DataW.trod enc P w 0 sp held fuel t cs=some x) (hbd:Bd P t x.1) :
    ∃ v,cs=[v]∧∃ xs:List α,Sl w v xs∧(xs=[]∨∃ elems spare,x.1=.slice elems spare∧xs.length=elems.length∧∀(i:Nat) (a:α),xs[i]?=some a→∃ d,elems[i]?=some d∧M a d):=by
  rcases DataW.trod_slice ht h with⟨rfl,_⟩|⟨a,len,cap,elems,rest,n,hfu,rfl,rfl,_,hl,_,hlen,hel,_⟩
  · exact⟨_,rfl,[],SlG.nil,.inl rfl⟩
  refine⟨_,rfl,?_⟩
  simp only [Bd,DataW.weights,ht,List.all_cons,List.all_append,Bool.and_eq_true,decide_eq_true_eq,List.length_map] at hbd
  obtain⟨hw1,hw2,_⟩:=hbd
  have hlm:len≤140737488355328:=by
    have h1:=reachBytes_lt
    have h2:elems.length*1≤(elems.length+rest.length)*P.bytesOf e:=Nat.mul_le_mul (by omega) hb
    omega
  have key:∀ i,i<len→∃ c x y,w.cells? 0 (a.add (i*P.cellsOf e)) (P.cellsOf e)=some c∧Rep.at_ Tt w (x:α) c∧elems[i]?=some y∧M x y.1:=fun i hi=>by
    have h1:=hel i hi
    obtain⟨y,hy⟩:∃ y,elems[i]?=some y:=⟨_,List.getElem?_eq_getElem (by omega)⟩
    rw [hy,Option.bind_eq_some_iff] at h1
    obtain⟨c,hc1,hc2⟩:=h1
    obtain⟨x,hx,hm⟩:=hO n _ _ hfu hc2 (weightsAll_mem hw2 y.1 (List.mem_map.2 ⟨y,List.mem_of_getElem? hy,rfl⟩))
    exact⟨c,x,y,hc1,hx,hy,hm⟩
  by_cases h0:len=0
  · subst h0
    exact⟨[],⟨some a,cap,rfl,by simp,by simp,fun h=>absurd h (by simp)⟩,.inl rfl⟩
  have hsp:a=⟨a.block,a.off,none⟩:=by
    obtain⟨c,x,_,hc1,_⟩:=key 0 (by omega)
    unfold World.cells? at hc1
    rw [if_pos (Nat.zero_le _)] at hc1
    have hlc:=mapM_some_length hc1
    rw [List.length_range,hc] at hlc
    obtain⟨v,hv⟩:∃ v,c[0]?=some v:=⟨_,List.getElem?_eq_getElem (by omega)⟩
    have:=mapM_some_get hc1 0 0 (List.getElem?_range (by omega))
    rw [hv] at this
    simp only [Nat.zero_mul,show ∀ a:Addr,a.add 0=a from fun a=>by simp [Addr.add]] at this
    exact Go.En.cell_spot this
  have all:∀ k,k≤len→∃(xs:List α) (css:List (List Value)),xs.length=k∧Ats w xs css∧At w a.block a.off css.flatten∧∀(i:Nat) (x:α),xs[i]?=some x→∃ y,elems[i]?=some y∧M x y.1:=by
    intro k
    induction k with
    | zero=>exact fun _=>⟨[],[],rfl,trivial,fun j v hv=>by simp at hv,fun i x hx=>by simp at hx⟩
    | succ k ih=>
      intro hk
      obtain⟨xs,css,h1,h2,h3,h5⟩:=ih (by omega)
      obtain⟨c,x,y,hc1,hx,hy,hm⟩:=key k (by omega)
      rw [hsp,addr_add] at hc1
      obtain⟨_,h4⟩:=cells_at hc1
      refine⟨xs++[x],css++[c],by simp [h1],AllAt.append h2 (AllAt.one hx),?_,fun i z hz=>?_⟩
      · rw [List.flatten_append]
        refine At.join h3 ?_
        rw [AtsG.flat h2,h1,← hc]
        simpa using h4
      · by_cases hi:i<k
        · rw [List.getElem?_append_left (by omega)] at hz
          exact h5 i z hz
        · have:=(List.getElem?_eq_some_iff.1 hz).1
          simp at this
          obtain rfl:i=k:=by omega
          rw [List.getElem?_append_right (by omega),h1,Nat.sub_self] at hz
          simp at hz
          subst hz
          exact⟨y,hy,hm⟩
  obtain⟨xs,css,h1,h2,h3,h5⟩:=all len (Nat.le_refl _)
  refine⟨xs,⟨some a,cap,by rw [h1],by omega,by omega,fun _=>⟨a.block,a.off,by rw [← hsp],trivial,css,h2,h3⟩⟩,.inr ⟨_,_,rfl,by rw [List.length_map,h1,hlen],fun i z hz=>?_⟩⟩
  obtain⟨y,hy,hm⟩:=h5 i z hz
  exact⟨y.1,by rw [List.getElem?_map,hy];rfl,hm⟩
theorem bulk_mem {H:Type} {d:DataW H}:∀ {ds:List (DataW H)},d∈ds→Rows.uptoBulk d≤Rows.uptoBulkAll ds
  | [],h=>by cases h
  | e :: r, h => by
    unfold Rows.uptoBulkAll
    rcases List.mem_cons.1 h with rfl|h
    · omega
    · have:=bulk_mem h
      omega
theorem size_bulk {H:Type}:∀ {xs:List Qy} {ds:List (DataW H)},xs.length=ds.length→(∀(i:Nat) (a:Qy),xs[i]?=some a→∃ d,ds[i]?=some d∧sizeQ a≤Rows.uptoBulk d)→sizeA xs≤Rows.uptoBulkAll ds
  | [],_,_,_=>by unfold sizeA;omega
  | x::xs,[],h,_=>by simp at h
  | x::xs,d::ds,h,hm=>by
    unfold sizeA Rows.uptoBulkAll
    obtain⟨d',e,h1⟩:=hm 0 x rfl
    simp at e
    subst e
    have:=size_bulk (xs:=xs) (ds:=ds) (by simpa using h) (fun i a ha=>by simpa using hm (i+1) a (by simpa using ha))
    omega
set_option maxRecDepth 100000 in
theorem opens_qM {H : Type} {enc : TypeId × Value → H} {w : World} {sp : Nat → Bool} {held : Bool} : ∀ (fuel : Nat) (c : List Value) (x : DataW H × List MemPlace), DataW.trod enc Tryz.prog w 0 sp held fuel 36 c = some x → Bd Tryz.prog 36 x.1 → ∃ q : Qy, Rep.at_ Tt w q c ∧ sizeQ q ≤ Rows.uptoBulk x.1 := by
  obtain⟨fs,hu,hfs⟩:∃ fs,Tryz.prog.underlying 36=some (.struct fs)∧(fs.toList.map fun f=>(f.type,f.offset))=[(3,0),(3,1),(9,2),(34,3)]:=⟨_,Tryz.underlying36,by kernel_rfl⟩
  intro fuel
  induction fuel using Nat.strongRecOn with
  | _ fuel ih =>
    intro c x h hbd
    obtain⟨hl,hf⟩:=open_structF hu hfs h hbd
    obtain⟨ys,n,hfu0,hxe,_,hlen,hg⟩:=DataW.trod_struct hu h
    rw [show Tryz.prog.cellsOf 36=4 by kernel_rfl] at hl
    match c,hl with
    | [a, b, c, d], _ =>
      obtain⟨y0,n0,_,h0,_⟩:=hf 0 3 0 rfl
      obtain⟨y1,n1,_,h1,_⟩:=hf 1 3 1 rfl
      obtain⟨y2,n2,_,h2,_⟩:=hf 2 9 2 rfl
      obtain⟨y3,n3,hfu,h3,hb3⟩:=hf 3 34 3 rfl
      have hy3:y3∈ys:=by
        obtain⟨f,hf3,ht3,ho3⟩:∃ f,fs[3]?=some f∧f.type=34∧f.offset=3:=by
          have e3:(fs.toList.map fun f=>(f.type,f.offset))[3]?=some (34,3):=by rw [hfs];rfl
          rw [List.getElem?_map,Array.getElem?_toList] at e3
          cases hfi:fs[3]? with
          | none=>rw [hfi] at e3;cases e3
          | some f=>
            rw [hfi] at e3
            simp only [Option.map_some,Option.some.injEq,Prod.mk.injEq] at e3
            exact⟨f,rfl,e3.1,e3.2⟩
        have e:=hg 3 f hf3
        rw [ht3,ho3] at e
        obtain rfl:n=n3:=by omega
        rw [h3] at e
        exact List.mem_of_getElem? e.symm
      rw [show Tryz.prog.cellsOf 3=1 by kernel_rfl] at h0 h1
      rw [show Tryz.prog.cellsOf 9=1 by kernel_rfl] at h2
      rw [show Tryz.prog.cellsOf 34=1 by kernel_rfl] at h3
      obtain⟨z0,e0,_⟩:=DataW.trod_int Tryz.underlying3 h0
      obtain⟨z1,e1,_⟩:=DataW.trod_int Tryz.underlying3 h1
      obtain⟨s,e2,_⟩:=DataW.trod_string Tryz.underlying9 h2
      obtain⟨v,e3,ks,hks,hsz⟩:=open_slM (α:=Qy) (fun q d=>sizeQ q≤Rows.uptoBulk d) (fun n c x hn hx hbx=>ih n (by omega) c x hx hbx) Tryz.underlying34 (by kernel_rfl) (by decide) (of_decide_eq_true (by kernel_rfl)) h3 hb3
      simp at e0 e1 e2 e3
      subst e0 e1 e2 e3
      refine⟨.mk z0 z1 s.data.toList ks,?_,?_⟩
      · have:=qy_of (op:=z0) (role:=z1) (text:=s.data.toList) hks
        rw [← str_of] at this
        exact this
      · have hA:sizeA ks≤Rows.uptoBulk y3.1:=by
          rcases hsz with rfl|⟨elems,spare,e,hl2,hm⟩
          · unfold sizeA;omega
          · rw [e]
            unfold Rows.uptoBulk
            have:=size_bulk hl2 hm
            omega
        have hB:=bulk_mem (List.mem_map.2 ⟨y3,hy3,rfl⟩:y3.1∈ys.map (·.1))
        rw [hxe]
        unfold sizeQ Rows.uptoBulk
        omega
set_option maxRecDepth 100000 in
theorem open_qU {H:Type} {enc:TypeId × Value→H} {W:World} {base:Nat} {v:Value} {d:DataW H} {ps:List MemPlace} {sp:Nat→Bool} {held:Bool} (hval:Value.okWide Tryz.prog W .any base 36 v) (h:DataW.Trod enc Tryz.prog W 0 sp held 36 v d ps) (hbd:Bd Tryz.prog 36 d) :
    ∃ q:Qy,QAt W v q∧sizeQ q≤Rows.uptoBulk d:=by
  obtain⟨fs,hu,hfs⟩:∃ fs,Tryz.prog.underlying 36=some (.struct fs)∧(fs.toList.map fun f=>(f.type,f.offset))=[(3,0),(3,1),(9,2),(34,3)]:=⟨_,Tryz.underlying36,by kernel_rfl⟩
  obtain⟨cs,rfl,hcs⟩:=okWide_struct hu hval
  obtain⟨fuel,h⟩:=h
  obtain⟨q,hq,hs⟩:=opens_qM fuel _ _ h hbd
  obtain⟨kv,e,hk⟩:=qy_cells hq
  refine⟨q,⟨kv,?_,hk⟩,hs⟩
  obtain⟨l⟩:=cs
  have e':l=[int q.op,int q.role,str q.text,kv]:=e
  rw [e']
end Go.Proofs.YtnifmbbpfdghmaaGreatDoor
