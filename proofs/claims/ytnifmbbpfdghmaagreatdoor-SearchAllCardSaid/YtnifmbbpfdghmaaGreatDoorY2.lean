/-
  Walks of the layers runes and pattern. Walks of the layers runes and pattern. Runes and patterns, plainly. Walks of the layers runes and pattern. Walks of the layers runes and pattern.
-/
import Derived.Lib.ValidLaws
import Derived.Lib.TrimUEq
import Derived.Test.YtnifmbbpfdghmaaGreatDoorI
set_option linter.all false
namespace Go.Proofs.YtnifmbbpfdghmaaGreatDoor
open Go.Lib
def encN (p:Nat):List Nat:=
  if p<128 then [p]
  else if p<2048 then [192+p / 64,128+p % 64]
  else if p<65536 then [224+p / 4096,128+p / 64 % 64,128+p % 64]
  else [240+p / 262144,128+p / 4096 % 64,128+p / 64 % 64,128+p % 64]
def encB (p:Nat):List UInt8:=(encN p).map UInt8.ofNat
def scal (p:Nat):Bool:=decide (p≤1114111)&&(decide (p<55296)||decide (57343<p))
def leadP (b:Nat):Nat:=if 240≤b then b-240 else if 224≤b then b-224 else if 192≤b then b-192 else b
def leadN (b:Nat):Nat:=if 240≤b then 4 else if 224≤b then 3 else if 192≤b then 2 else 1
def accP (d:List UInt8):Nat→Nat
  | 0=>0
  | 1=>leadP (d.getD 0 0).toNat
  | k+1=>accP d k*64+(d.getD k 0).toNat % 64
def firstR (d:List UInt8):Option (Nat × Nat):=
  let n:=leadN (d.getD 0 0).toNat
  if d.length<n then none
  else if scal (accP d n)=true∧encB (accP d n)=d.take n then some (accP d n,n) else none
theorem encN_lt {p:Nat} (h:scal p=true):∀ x∈encN p,x<256:=by
  simp only [scal,Bool.and_eq_true,decide_eq_true_eq] at h
  intro x hx
  unfold encN at hx
  split at hx
  · simp at hx;omega
  · split at hx
    · simp at hx;omega
    · split at hx
      · simp at hx;omega
      · simp at hx;omega
theorem take1 {d:List UInt8} (h:1≤d.length):d.take 1=[d.getD 0 0]:=by
  match d,h with|a::r,_=>simp
theorem take2 {d:List UInt8} (h:2≤d.length):d.take 2=[d.getD 0 0,d.getD 1 0]:=by
  match d,h with|a::b::r,_=>simp
theorem take3 {d:List UInt8} (h:3≤d.length):d.take 3=[d.getD 0 0,d.getD 1 0,d.getD 2 0]:=by
  match d,h with|a::b::c::r,_=>simp
theorem take4 {d:List UInt8} (h:4≤d.length):d.take 4=[d.getD 0 0,d.getD 1 0,d.getD 2 0,d.getD 3 0]:=by
  match d,h with|a::b::c::e::r,_=>simp
theorem of_eq {x:Nat} {b:UInt8} (h:x<256):UInt8.ofNat x=b↔x=b.toNat:=by
  rw [← UInt8.toNat_inj,UInt8.toNat_ofNat',Nat.mod_eq_of_lt h]
def firstN (n b0 b1 b2 b3:Nat):Option (Nat × Nat):=
  if b0<192 then (if b0<128 then some (b0,1) else none)
  else if b0<224 then (if n<2 then none else if b1 / 64=2∧128≤(b0-192)*64+b1 % 64 then some ((b0-192)*64+b1 % 64,2) else none)
  else if b0<240 then (if n<3 then none else if b1 / 64=2∧b2 / 64=2∧2048≤((b0-224)*64+b1 % 64)*64+b2 % 64∧(((b0-224)*64+b1 % 64)*64+b2 % 64<55296∨57343<((b0-224)*64+b1 % 64)*64+b2 % 64) then some (((b0-224)*64+b1 % 64)*64+b2 % 64,3) else none)
  else (if n<4 then none else if b1 / 64=2∧b2 / 64=2∧b3 / 64=2∧65536≤(((b0-240)*64+b1 % 64)*64+b2 % 64)*64+b3 % 64∧(((b0-240)*64+b1 % 64)*64+b2 % 64)*64+b3 % 64≤1114111 then some ((((b0-240)*64+b1 % 64)*64+b2 % 64)*64+b3 % 64,4) else none)
theorem encB_1 {p:Nat} {a:UInt8} (hs:scal p=true):encB p=[a]↔p<128∧p=a.toNat:=by
  have hlt:=encN_lt hs
  unfold encB
  unfold encN at hlt ⊢
  split
  · rename_i h;simp [h] at hlt ⊢;rw [of_eq hlt]
  · split
    · simp;omega
    · split <;>(simp;omega)
theorem encB_2 {p:Nat} {a b:UInt8} (hs:scal p=true):encB p=[a,b]↔128≤p∧p<2048∧192+p / 64=a.toNat∧128+p % 64=b.toNat:=by
  have hlt:=encN_lt hs
  unfold encB
  unfold encN at hlt ⊢
  split
  · simp;omega
  · split
    · rename_i h1 h2;rw [if_neg h1,if_pos h2] at hlt
      simp at hlt
      simp only [List.map_cons,List.map_nil,List.cons.injEq,and_true]
      rw [of_eq hlt.1,of_eq hlt.2]
      omega
    · split <;>(simp;omega)
theorem encB_3 {p : Nat} {a b c : UInt8} (hs : scal p = true) : encB p = [a, b, c] ↔ 2048 ≤ p ∧ p < 65536 ∧ 224 + p / 4096 = a.toNat ∧ 128 + p / 64 % 64 = b.toNat ∧ 128 + p % 64 = c.toNat := by
  have hlt:=encN_lt hs
  unfold encB
  unfold encN at hlt ⊢
  split
  · simp;omega
  · split
    · simp;omega
    · split
      · rename_i h1 h2 h3;rw [if_neg h1,if_neg h2,if_pos h3] at hlt
        simp at hlt
        simp only [List.map_cons,List.map_nil,List.cons.injEq,and_true]
        rw [of_eq hlt.1,of_eq hlt.2.1,of_eq hlt.2.2]
        omega
      · simp;omega
theorem encB_4 {p : Nat} {a b c d : UInt8} (hs : scal p = true) : encB p = [a, b, c, d] ↔ 65536 ≤ p ∧ 240 + p / 262144 = a.toNat ∧ 128 + p / 4096 % 64 = b.toNat ∧ 128 + p / 64 % 64 = c.toNat ∧ 128 + p % 64 = d.toNat := by
  have hlt:=encN_lt hs
  unfold encB
  unfold encN at hlt ⊢
  split
  · simp;omega
  · split
    · simp;omega
    · split
      · simp;omega
      · rename_i h1 h2 h3;rw [if_neg h1,if_neg h2,if_neg h3] at hlt
        simp at hlt
        simp only [List.map_cons,List.map_nil,List.cons.injEq,and_true]
        rw [of_eq hlt.1,of_eq hlt.2.1,of_eq hlt.2.2.1,of_eq hlt.2.2.2]
        omega
theorem scal_iff {p:Nat}:scal p=true↔p≤1114111∧(p<55296∨57343<p):=by simp [scal]
theorem ite_iff {α:Type} {p q:Prop} [Decidable p] [Decidable q] (x y:α) (h:p↔q):(if p then x else y)=if q then x else y:=by
  by_cases hp:p
  · rw [if_pos hp,if_pos (h.1 hp)]
  · rw [if_neg hp,if_neg (fun hq=>hp (h.2 hq))]
theorem firstR_N (d : List UInt8) (hd : d ≠ []) : firstR d = firstN d.length (d.getD 0 0).toNat (d.getD 1 0).toNat (d.getD 2 0).toNat (d.getD 3 0).toNat := by
  have hlen:1≤d.length:=List.length_pos_iff.2 hd
  have h0:=UInt8.toNat_lt (d.getD 0 0)
  have h1:=UInt8.toNat_lt (d.getD 1 0)
  have h2:=UInt8.toNat_lt (d.getD 2 0)
  have h3:=UInt8.toNat_lt (d.getD 3 0)
  unfold firstR firstN
  by_cases c1:(d.getD 0 0).toNat<192
  · have hn:leadN (d.getD 0 0).toNat=1:=by unfold leadN;rw [if_neg (by omega),if_neg (by omega),if_neg (by omega)]
    have hp:accP d 1=(d.getD 0 0).toNat:=by simp only [accP];unfold leadP;rw [if_neg (by omega),if_neg (by omega),if_neg (by omega)]
    simp only [hn,hp]
    rw [if_neg (by omega),if_pos c1,take1 hlen]
    have hs:scal (d.getD 0 0).toNat=true:=scal_iff.2 (by omega)
    refine ite_iff _ _ ?_
    rw [encB_1 hs]
    exact⟨fun h=>h.2.1,fun h=>⟨hs,h,rfl⟩⟩
  · rw [if_neg c1]
    by_cases c2:(d.getD 0 0).toNat<224
    · have hn:leadN (d.getD 0 0).toNat=2:=by unfold leadN;rw [if_neg (by omega),if_neg (by omega),if_pos (by omega)]
      have hp:accP d 2=((d.getD 0 0).toNat-192)*64+(d.getD 1 0).toNat % 64:=by simp only [accP];unfold leadP;rw [if_neg (by omega),if_neg (by omega),if_pos (by omega)]
      simp only [hn,hp]
      rw [if_pos c2]
      by_cases cl:d.length<2
      · rw [if_pos cl,if_pos cl]
      · rw [if_neg cl,if_neg cl,take2 (by omega)]
        generalize hq:((d.getD 0 0).toNat-192)*64+(d.getD 1 0).toNat % 64=p at*
        have hs:scal p=true:=scal_iff.2 (by omega)
        refine ite_iff _ _ ?_
        rw [encB_2 hs]
        constructor
        · rintro⟨_,a,b,c,e⟩;omega
        · rintro⟨a,b⟩;exact⟨hs,by omega,by omega,by omega,by omega⟩
    · rw [if_neg c2]
      by_cases c3:(d.getD 0 0).toNat<240
      · have hn:leadN (d.getD 0 0).toNat=3:=by unfold leadN;rw [if_neg (by omega),if_pos (by omega)]
        have hp:accP d 3=(((d.getD 0 0).toNat-224)*64+(d.getD 1 0).toNat % 64)*64+(d.getD 2 0).toNat % 64:=by simp only [accP];unfold leadP;rw [if_neg (by omega),if_pos (by omega)]
        simp only [hn,hp]
        rw [if_pos c3]
        by_cases cl:d.length<3
        · rw [if_pos cl,if_pos cl]
        · rw [if_neg cl,if_neg cl,take3 (by omega)]
          generalize hq:(((d.getD 0 0).toNat-224)*64+(d.getD 1 0).toNat % 64)*64+(d.getD 2 0).toNat % 64=p at*
          refine ite_iff _ _ ?_
          constructor
          · rintro⟨hs,hh⟩
            rw [encB_3 hs] at hh
            rw [scal_iff] at hs
            omega
          · rintro⟨a,b,c,e⟩
            have hs:scal p=true:=scal_iff.2 (by omega)
            exact⟨hs,(encB_3 hs).2 (by omega)⟩
      · have hn:leadN (d.getD 0 0).toNat=4:=by unfold leadN;rw [if_pos (by omega)]
        have hp:accP d 4=((((d.getD 0 0).toNat-240)*64+(d.getD 1 0).toNat % 64)*64+(d.getD 2 0).toNat % 64)*64+(d.getD 3 0).toNat % 64:=by simp only [accP];unfold leadP;rw [if_pos (by omega)]
        simp only [hn,hp]
        rw [if_neg c3]
        by_cases cl:d.length<4
        · rw [if_pos cl,if_pos cl]
        · rw [if_neg cl,if_neg cl,take4 (by omega)]
          generalize hq:((((d.getD 0 0).toNat-240)*64+(d.getD 1 0).toNat % 64)*64+(d.getD 2 0).toNat % 64)*64+(d.getD 3 0).toNat % 64=p at*
          refine ite_iff _ _ ?_
          constructor
          · rintro⟨hs,hh⟩
            rw [encB_4 hs] at hh
            rw [scal_iff] at hs
            omega
          · rintro⟨a,b,c,e,f⟩
            have hs:scal p=true:=scal_iff.2 (by omega)
            exact⟨hs,(encB_4 hs).2 (by omega)⟩
theorem firstN_eq (n b0 b1 b2 b3 : Nat) (h0 : b0 < 256) (hn : 1 ≤ n) : firstN n b0 b1 b2 b3 = if (decodeN n b0 b1 b2 b3).1 = 65533 ∧ (decodeN n b0 b1 b2 b3).2 = 1 then none else some (decodeN n b0 b1 b2 b3) := by
  unfold firstN decodeN
  by_cases c0:b0<128
  · rw [if_pos (show b0<192 by omega),if_pos c0,if_pos c0,if_neg (show ¬ (b0=65533∧1=1) by omega)]
  · rw [if_neg c0,if_neg c0]
    by_cases c1:b0<192
    · rw [if_pos c1,if_neg (show ¬ (b0 / 32=6∧1<n∧b1 / 64=2) by omega),if_neg (show ¬ (b0 / 16=14∧(1<n∧b1 / 64=2)∧2<n∧b2 / 64=2) by omega),if_neg (show ¬ (b0 / 8=30∧(1<n∧b1 / 64=2)∧(2<n∧b2 / 64=2)∧3<n∧b3 / 64=2) by omega)];simp
    · rw [if_neg c1]
      by_cases c2:b0<224
      · rw [if_pos c2]
        have e:b0 % 32=b0-192:=by omega
        rw [e]
        by_cases cl:n<2
        · rw [if_pos cl,if_neg (show ¬ (b0 / 32=6∧1<n∧b1 / 64=2) by omega),if_neg (show ¬ (b0 / 16=14∧(1<n∧b1 / 64=2)∧2<n∧b2 / 64=2) by omega),if_neg (show ¬ (b0 / 8=30∧(1<n∧b1 / 64=2)∧(2<n∧b2 / 64=2)∧3<n∧b3 / 64=2) by omega)];simp
        · rw [if_neg cl]
          by_cases cb:b1 / 64=2
          · rw [if_pos (show b0 / 32=6∧1<n∧b1 / 64=2 by omega)]
            by_cases cp:128≤(b0-192)*64+b1 % 64
            · rw [if_pos ⟨cb,cp⟩,if_pos cp,if_neg (by simp)]
            · rw [if_neg (fun h=>cp h.2),if_neg cp];simp
          · rw [if_neg (fun h=>cb h.1),if_neg (show ¬ (b0 / 32=6∧1<n∧b1 / 64=2) by omega),if_neg (show ¬ (b0 / 16=14∧(1<n∧b1 / 64=2)∧2<n∧b2 / 64=2) by omega),if_neg (show ¬ (b0 / 8=30∧(1<n∧b1 / 64=2)∧(2<n∧b2 / 64=2)∧3<n∧b3 / 64=2) by omega)];simp
      · rw [if_neg c2,if_neg (show ¬ (b0 / 32=6∧1<n∧b1 / 64=2) by omega)]
        by_cases c3:b0<240
        · rw [if_pos c3]
          have e:b0 % 16*4096+b1 % 64*64+b2 % 64=((b0-224)*64+b1 % 64)*64+b2 % 64:=by omega
          rw [e]
          have hb:((b0-224)*64+b1 % 64)*64+b2 % 64≤1114111:=by omega
          generalize ((b0-224)*64+b1 % 64)*64+b2 % 64=p at*
          by_cases cl:n<3
          · rw [if_pos cl,if_neg (show ¬ (b0 / 16=14∧(1<n∧b1 / 64=2)∧2<n∧b2 / 64=2) by omega),if_neg (show ¬ (b0 / 8=30∧(1<n∧b1 / 64=2)∧(2<n∧b2 / 64=2)∧3<n∧b3 / 64=2) by omega)];simp
          · rw [if_neg cl]
            by_cases cb:b1 / 64=2∧b2 / 64=2
            · rw [if_pos (show b0 / 16=14∧(1<n∧b1 / 64=2)∧2<n∧b2 / 64=2 by omega)]
              by_cases cp:2048≤p∧(p<55296∨57343<p)
              · rw [if_pos ⟨cb.1,cb.2,cp⟩,if_pos (show p≥2048∧(p<55296∨57344≤p∧p≤1114111) by omega),if_neg (by simp)]
              · rw [if_neg (fun h=>cp h.2.2),if_neg (show ¬ (p≥2048∧(p<55296∨57344≤p∧p≤1114111)) by omega)];simp
            · rw [if_neg (fun h=>cb ⟨h.1,h.2.1⟩),if_neg (show ¬ (b0 / 16=14∧(1<n∧b1 / 64=2)∧2<n∧b2 / 64=2) by omega),if_neg (show ¬ (b0 / 8=30∧(1<n∧b1 / 64=2)∧(2<n∧b2 / 64=2)∧3<n∧b3 / 64=2) by omega)];simp
        · rw [if_neg c3,if_neg (show ¬ (b0 / 16=14∧(1<n∧b1 / 64=2)∧2<n∧b2 / 64=2) by omega)]
          by_cases c4:b0<248
          · have e:b0 % 8*262144+b1 % 64*4096+b2 % 64*64+b3 % 64=(((b0-240)*64+b1 % 64)*64+b2 % 64)*64+b3 % 64:=by omega
            rw [e]
            generalize (((b0-240)*64+b1 % 64)*64+b2 % 64)*64+b3 % 64=p at*
            by_cases cl:n<4
            · rw [if_pos cl,if_neg (show ¬ (b0 / 8=30∧(1<n∧b1 / 64=2)∧(2<n∧b2 / 64=2)∧3<n∧b3 / 64=2) by omega)];simp
            · rw [if_neg cl]
              by_cases cb:b1 / 64=2∧b2 / 64=2∧b3 / 64=2
              · rw [if_pos (show b0 / 8=30∧(1<n∧b1 / 64=2)∧(2<n∧b2 / 64=2)∧3<n∧b3 / 64=2 by omega)]
                by_cases cp:65536≤p∧p≤1114111
                · rw [if_pos ⟨cb.1,cb.2.1,cb.2.2,cp⟩,if_pos (show p≥65536∧(p<55296∨57344≤p∧p≤1114111) by omega),if_neg (by simp)]
                · rw [if_neg (fun h=>cp h.2.2.2),if_neg (show ¬ (p≥65536∧(p<55296∨57344≤p∧p≤1114111)) by omega)];simp
              · rw [if_neg (fun h=>cb ⟨h.1,h.2.1,h.2.2.1⟩),if_neg (show ¬ (b0 / 8=30∧(1<n∧b1 / 64=2)∧(2<n∧b2 / 64=2)∧3<n∧b3 / 64=2) by omega)];simp
          · rw [if_neg (show ¬ (b0 / 8=30∧(1<n∧b1 / 64=2)∧(2<n∧b2 / 64=2)∧3<n∧b3 / 64=2) by omega)]
            by_cases cl:n<4
            · rw [if_pos cl];simp
            · rw [if_neg cl,if_neg (fun h=>by have:=h.2.2.2.2;omega)];simp
theorem firstR_eq (d:List UInt8) (hd:d≠[]):firstR d=if (decodeL d).1=65533∧(decodeL d).2=1 then none else some (decodeL d):=by
  rw [firstR_N d hd,decodeL_N]
  exact firstN_eq _ _ _ _ _ (UInt8.toNat_lt _) (List.length_pos_iff.2 hd)
end Go.Proofs.YtnifmbbpfdghmaaGreatDoor
namespace Go.Proofs.YtnifmbbpfdghmaaGreatDoor
open Go.Lib
theorem firstR_some {d:List UInt8} {p n:Nat} (h:firstR d=some (p,n)):1≤n∧n≤d.length∧scal p=true∧encB p=d.take n:=by
  unfold firstR at h
  dsimp only at h
  split at h
  · cases h
  · split at h
    · rename_i h1 h2
      simp only [Option.some.injEq,Prod.mk.injEq] at h
      obtain⟨rfl,rfl⟩:=h
      refine⟨?_,by omega,h2.1,h2.2⟩
      unfold leadN;(repeat' split) <;> omega
    · cases h
def ptsGo:Nat→List UInt8→Option (List Nat)
  | 0,_=>some []
  | k+1,d=>if d=[] then some [] else match firstR d with|none=>none|some (p,n)=>(ptsGo k (d.drop n)).map (p::·)
def points (d:List UInt8):Option (List Nat):=ptsGo d.length d
theorem ptsGo_nil (k:Nat):ptsGo k []=some []:=by cases k <;> simp [ptsGo]
theorem ptsGo_fuel : ∀ (k m : Nat) (d : List UInt8), d.length ≤ k → d.length ≤ m → ptsGo k d = ptsGo m d
  | 0,m,d,hk,_=>by
    have:d=[]:=List.eq_nil_of_length_eq_zero (by omega)
    subst this;rw [ptsGo_nil,ptsGo_nil]
  | k+1,0,d,_,hm=>by
    have:d=[]:=List.eq_nil_of_length_eq_zero (by omega)
    subst this;rw [ptsGo_nil,ptsGo_nil]
  | k + 1, m + 1, d, hk, hm => by
    simp only [ptsGo]
    by_cases hd:d=[]
    · rw [if_pos hd,if_pos hd]
    · rw [if_neg hd,if_neg hd]
      cases hf:firstR d with
      | none=>rfl
      | some q=>
        obtain⟨p,n⟩:=q
        have:=firstR_some hf
        dsimp only
        rw [ptsGo_fuel k m (d.drop n) (by rw [List.length_drop];omega) (by rw [List.length_drop];omega)]
theorem points_nil:points []=some []:=rfl
theorem points_step {d:List UInt8} (hd:d≠[]):points d=match firstR d with|none=>none|some (p,n)=>(points (d.drop n)).map (p::·):=by
  have hl:0<d.length:=List.length_pos_iff.2 hd
  obtain⟨k,hk⟩:∃ k,d.length=k+1:=⟨d.length-1,by omega⟩
  unfold points
  rw [hk]
  simp only [ptsGo]
  rw [if_neg hd]
  cases hf:firstR d with
  | none=>rfl
  | some q=>
    obtain⟨p,n⟩:=q
    have:=firstR_some hf
    dsimp only
    rw [ptsGo_fuel k (d.drop n).length _ (by rw [List.length_drop];omega) (Nat.le_refl _)]
theorem points_valid : ∀ (k : Nat) (d : List UInt8), d.length ≤ k → (points d).isSome = validD d
  | 0,d,h=>by
    have:d=[]:=List.eq_nil_of_length_eq_zero (by omega)
    subst this;rfl
  | k + 1, d, h => by
    by_cases hd:d=[]
    · subst hd;rfl
    · rw [points_step hd,validD_step d hd,firstR_eq d hd]
      by_cases hb:(decodeL d).1=65533∧(decodeL d).2=1
      · rw [if_pos hb,if_pos hb];rfl
      · rw [if_neg hb,if_neg hb]
        have hw:=decodeL_width d
        have:=points_valid k (d.drop (decodeL d).2) (by rw [List.length_drop];omega)
        rw [← this]
        show((points (d.drop (decodeL d).2)).map _).isSome=_
        cases points (d.drop (decodeL d).2) <;> rfl
theorem points_len : ∀ (k : Nat) (d : List UInt8) (zs : List Nat), d.length ≤ k → points d = some zs → zs.length ≤ d.length ∧ (∀ z ∈ zs, scal z = true) ∧ (zs.map encB).flatten = d
  | 0,d,zs,h,hp=>by
    have:d=[]:=List.eq_nil_of_length_eq_zero (by omega)
    subst this;rw [points_nil] at hp;cases hp;simp
  | k + 1, d, zs, h, hp => by
    by_cases hd:d=[]
    · subst hd;rw [points_nil] at hp;cases hp;simp
    · rw [points_step hd] at hp
      cases hf:firstR d with
      | none=>rw [hf] at hp;cases hp
      | some q=>
        obtain⟨p,n⟩:=q
        have h1:=firstR_some hf
        rw [hf] at hp
        dsimp only at hp
        cases hr:points (d.drop n) with
        | none=>rw [hr] at hp;cases hp
        | some ys=>
          rw [hr] at hp
          simp only [Option.map_some,Option.some.injEq] at hp
          subst hp
          obtain⟨h2,h3,h4⟩:=points_len k (d.drop n) ys (by rw [List.length_drop];omega) hr
          rw [List.length_drop] at h2
          refine⟨by simp;omega,fun z hz=>?_,?_⟩
          · rcases List.mem_cons.1 hz with rfl|hz
            · exact h1.2.2.1
            · exact h3 z hz
          · simp only [List.map_cons,List.flatten_cons,h4,h1.2.2.2,List.take_append_drop]
end Go.Proofs.YtnifmbbpfdghmaaGreatDoor
namespace Go.Proofs.YtnifmbbpfdghmaaGreatDoor
open Go.RowKit Go.En
def specialI (a:Int):Bool:=decide (a=42)||decide (a=63)||decide (a=92)
def scalI (a:Int):Bool:=decide (0≤a)&&decide (a≤1114111)&&(decide (a<55296)||decide (57343<a))
theorem byte_of {x:Nat} (h:x<256):Value.int .u8 ((UInt8.ofNat x).toNat:Int)=.int .u8 (x:Int):=by
  rw [UInt8.toNat_ofNat',Nat.mod_eq_of_lt h]
theorem enc_cells {p:Nat} (hs:∀ x∈encN p,x<256):(encB p).map (fun b=>Value.int .u8 b.toNat)=(encN p).map fun(x:Nat)=>Value.int .u8 (x:Int):=by
  unfold encB
  rw [List.map_map]
  exact List.map_congr_left fun x hx=>byte_of (hs x hx)
theorem encN_256 {p:Nat} (hp:p≤1114111):∀ x∈encN p,x<256:=by
  intro x hx
  unfold encN at hx
  split at hx
  · simp at hx;omega
  · split at hx
    · simp at hx;omega
    · split at hx
      · simp at hx;omega
      · simp at hx;omega
theorem scalI_eq (p:Nat):scalI (p:Int)=scal p:=by
  unfold scalI scal
  rw [Bool.eq_iff_iff];simp
  omega
def fR (d:List UInt8):Int × Int:=match firstR d with|none=>(-1,0)|some (p,n)=>((p:Int),(n:Int))
theorem accP_le (d:List UInt8):∀ k,k≤4→accP d k≤67108863∧(k≤3→accP d k≤1048575):=by
  have h0:leadP (d.getD 0 0).toNat≤255:=by
    have:=UInt8.toNat_lt (d.getD 0 0)
    unfold leadP;split <;>(try split) <;>(try split) <;> omega
  intro k hk
  have h1:accP d 1=leadP (d.getD 0 0).toNat:=rfl
  have h2:accP d 2=accP d 1*64+(d.getD 1 0).toNat % 64:=rfl
  have h3:accP d 3=accP d 2*64+(d.getD 2 0).toNat % 64:=rfl
  have h4:accP d 4=accP d 3*64+(d.getD 3 0).toNat % 64:=rfl
  have hz:accP d 0=0:=rfl
  match k,hk with
  | 0,_=>omega
  | 1,_=>omega
  | 2,_=>omega
  | 3,_=>omega
  | 4,_=>omega
theorem drop_get {l:List UInt8} {i j:Nat} (h:i+j<l.length):l[i+j]?=some ((l.drop i).getD j 0):=by
  rw [List.getElem?_eq_getElem h]
  simp [List.getD_eq_getElem?_getD,List.getElem?_drop,h]
theorem leadN_1 (b:Nat):1≤leadN b∧leadN b≤4:=by unfold leadN;split <;>(try split) <;>(try split) <;> omega
def IntsOwn (w0 w:World) (v:Value) (zs:List Nat):Prop:=w.ownsRow w0.heap.size 3 1 v zs.length (zs.map fun(z:Nat)=>int (z:Int))
def PointsR (w:World) (r:Option (List Nat)) (u:Value) (w':World):Prop:=Ext w w'∧match r with|none=>u=.tuple #[.slice none 0 0,.bool false]|some zs=>∃ v,u=.tuple #[v,.bool true]∧IntsOwn w w' v zs
def tokGo : List Nat → Option (List Int)
  | []=>some []
  | z::r=>if z<32∨z=127 then none
    else if z=92 then (match r with | []=>none|y::r'=>if specialI y=true then (tokGo r').map ((y:Int)::·) else none)
    else (tokGo r).map ((if z=42 then -1 else if z=63 then -2 else (z:Int))::·)
def tokens (p:List UInt8):Except Int (List Int):=
  if p=[] then .error 4 else if 64<p.length then .error 5
  else match points p with|none=>.error 3|some zs=>(match tokGo zs with|none=>.error 3|some ts=>.ok ts)
def IntsOwnZ (w0 w:World) (v:Value) (zs:List Int):Prop:=w.ownsRow w0.heap.size 3 1 v zs.length (zs.map int)
def TokR (w:World) (r:Except Int (List Int)) (u:Value) (w':World):Prop:=Ext w w'∧match r with | .error e=>u=.tuple #[.slice none 0 0,int e] | .ok ts=>∃ v,u=.tuple #[v,int 0]∧IntsOwnZ w w' v ts
theorem drop_ith {α:Type} {l:List α} {i:Nat} {z:α} (h:l[i]?=some z):l.drop i=z::l.drop (i+1):=by
  obtain⟨hi,rfl⟩:=List.getElem?_eq_some_iff.1 h
  exact List.drop_eq_getElem_cons hi
theorem tokGo_cons (z:Nat) (r:List Nat):tokGo (z::r)=if z<32∨z=127 then none
    else if z=92 then (match r with | []=>none|y::r'=>if specialI y=true then (tokGo r').map ((y:Int)::·) else none)
    else (tokGo r).map ((if z=42 then -1 else if z=63 then -2 else (z:Int))::·):=by
  cases r <;> rfl
def checkF (p:List UInt8):Int:=match tokens p with | .error e=>e | .ok _=>0
def TokOk (t:Int):Prop:=t = -1∨t = -2∨(0≤t∧scal t.toNat=true)
theorem tokGo_ok : ∀ (n : Nat) (zs : List Nat) (ts : List Int), zs.length ≤ n → (∀ z ∈ zs, scal z = true) → tokGo zs = some ts → ts.length ≤ zs.length ∧ ∀ t ∈ ts, TokOk t
  | 0,zs,ts,hn,_,h=>by
    have:zs=[]:=List.eq_nil_of_length_eq_zero (by omega)
    subst this;simp [tokGo] at h;subst h;simp
  | n+1,[],ts,_,_,h=>by simp [tokGo] at h;subst h;simp
  | n + 1, z :: r, ts, hn, hs, h => by
    simp only [List.length_cons] at hn
    rw [tokGo_cons] at h
    split at h
    · cases h
    · split at h
      · split at h
        · cases h
        · rename_i y r'
          split at h
          · cases hr:tokGo r' with
            | none=>rw [hr] at h;cases h
            | some us=>
              rw [hr] at h
              simp at h
              subst h
              simp only [List.length_cons] at hn
              obtain⟨h1,h2⟩:=tokGo_ok n r' us (by omega) (fun z hz=>hs z (by simp [hz])) hr
              refine⟨by simp;omega,fun t ht=>?_⟩
              rcases List.mem_cons.1 ht with rfl|ht
              · exact .inr (.inr ⟨by omega,by simpa using hs y (by simp)⟩)
              · exact h2 t ht
          · cases h
      · cases hr : tokGo r with
        | none=>rw [hr] at h;cases h
        | some us=>
          rw [hr] at h
          simp at h
          subst h
          obtain⟨h1,h2⟩:=tokGo_ok n r us (by omega) (fun z hz=>hs z (by simp [hz])) hr
          refine⟨by simp;omega,fun t ht=>?_⟩
          rcases List.mem_cons.1 ht with rfl|ht
          · split
            · exact .inl rfl
            · split
              · exact .inr (.inl rfl)
              · exact .inr (.inr ⟨by omega,by simpa using hs z (by simp)⟩)
          · exact h2 t ht
theorem tokens_ok {p : List UInt8} {ts : List Int} (h : tokens p = .ok ts) : ts.length ≤ 64 ∧ (∀ t ∈ ts, TokOk t) ∧ p.length ≤ 64 := by
  unfold tokens at h
  split at h
  · cases h
  · split at h
    · cases h
    · split at h
      · cases h
      · rename_i zs hz
        obtain⟨h1,h2,_⟩:=points_len _ p zs (Nat.le_refl _) hz
        split at h
        · cases h
        · rename_i us hu
          cases h
          obtain⟨h3,h4⟩:=tokGo_ok _ zs _ (Nat.le_refl _) h2 hu
          exact⟨by omega,h4,by omega⟩
theorem err_ne {p:List UInt8} {e:Int} (h:tokens p=.error e):e≠0:=by
  unfold tokens at h
  (repeat' split at h) <;> cases h <;> simp
def q1 (c:UInt8):List UInt8:=if specialI (c.toNat:Int) then [92,c] else [c]
def nextAt (t:Int) (row:List Bool) (zs:List Nat) (prev:List Bool):Bool:=
  if t = -1 then (row.getD prev.length false||(decide (0<prev.length)&&prev.getD (prev.length-1) false))
  else decide (0<prev.length)&&row.getD (prev.length-1) false&&(decide (t = -2)||decide (t=((zs.getD (prev.length-1) 0:Nat):Int)))
def buildN (t:Int) (row:List Bool) (zs:List Nat):Nat→List Bool
  | 0=>[]
  | k+1=>buildN t row zs k++[nextAt t row zs (buildN t row zs k)]
theorem buildN_len (t:Int) (row:List Bool) (zs:List Nat) (k:Nat):(buildN t row zs k).length=k:=by
  induction k with
  | zero=>rfl
  | succ k ih=>simp [buildN,ih]
def stepRow (zs:List Nat) (row:List Bool) (t:Int):List Bool:=buildN t row zs (zs.length+1)
def row0 (zs:List Nat):List Bool:=true::List.replicate zs.length false
def matchT (ts:List Int) (zs:List Nat):Bool:=(ts.foldl (stepRow zs) (row0 zs)).getD zs.length false
def matchF (p s:List UInt8):Bool:=match tokens p,points s with
  | .ok ts,some zs=>matchT ts zs
  | _,_=>false
theorem rows_len (zs:List Nat) (ts:List Int):(ts.foldl (stepRow zs) (row0 zs)).length=zs.length+1:=by
  have:∀(ts:List Int) (row:List Bool),row.length=zs.length+1→(ts.foldl (stepRow zs) row).length=zs.length+1:=by
    intro ts
    induction ts with
    | nil=>intro row h;exact h
    | cons t r ih=>intro row _;exact ih _ (buildN_len _ _ _ _)
  exact this ts _ (by simp [row0])
def partRow (t:Int) (row:List Bool) (zs:List Nat) (k:Nat):List Bool:=buildN t row zs k++List.replicate (zs.length+1-k) false
theorem partRow_len (t:Int) (row:List Bool) (zs:List Nat) (k:Nat) (hk:k≤zs.length+1):(partRow t row zs k).length=zs.length+1:=by
  simp [partRow,buildN_len];omega
theorem partRow_set (t:Int) (row:List Bool) (zs:List Nat) (k:Nat) (hk:k<zs.length+1):(partRow t row zs k).set k (nextAt t row zs (buildN t row zs k))=partRow t row zs (k+1):=by
  unfold partRow
  obtain⟨j,hj⟩:∃ j,zs.length+1-k=j+1:=⟨zs.length-k,by omega⟩
  rw [List.set_append_right _ _ (by rw [buildN_len];exact Nat.le_refl _),buildN_len,hj,show zs.length+1-(k+1)=j by omega]
  simp [List.replicate_succ,buildN]
theorem partRow_prev (t:Int) (row:List Bool) (zs:List Nat) (k:Nat) (hk:0<k):(partRow t row zs k)[k-1]?=some ((buildN t row zs k).getD (k-1) false):=by
  unfold partRow
  have h:k-1<(buildN t row zs k).length:=by rw [buildN_len];omega
  rw [List.getElem?_append_left h,List.getElem?_eq_getElem h]
  simp [List.getD_eq_getElem?_getD,h]
theorem next_many {row:List Bool} {zs:List Nat} {k:Nat} {c1:Bool} (hc1:row[k]?=some c1):nextAt (-1) row zs (buildN (-1) row zs k)=(c1||(decide (0<k)&&(buildN (-1) row zs k).getD (k-1) false)):=by
  unfold nextAt
  rw [if_pos rfl,buildN_len]
  simp [List.getD_eq_getElem?_getD,hc1]
theorem next_other {t:Int} {row:List Bool} {zs:List Nat} {k:Nat} (ht:t ≠ -1):nextAt t row zs (buildN t row zs k)=(decide (0<k)&&row.getD (k-1) false&&(decide (t = -2)||decide (t=((zs.getD (k-1) 0:Nat):Int)))):=by
  unfold nextAt
  rw [if_neg ht,buildN_len]
theorem partRow_false {t:Int} {row:List Bool} {zs:List Nat} {k:Nat} (hk:k<zs.length+1) (h:nextAt t row zs (buildN t row zs k)=false):partRow t row zs (k+1)=partRow t row zs k:=by
  unfold partRow
  obtain⟨j,hj⟩:∃ j,zs.length+1-k=j+1:=⟨zs.length-k,by omega⟩
  rw [hj,show zs.length+1-(k+1)=j by omega]
  simp [List.replicate_succ,buildN,h]
theorem getD_some {α:Type} {l:List α} {i:Nat} {d:α} (h:i<l.length):l[i]?=some (l.getD i d):=by
  rw [List.getElem?_eq_getElem h];simp [List.getD_eq_getElem?_getD,h]
theorem row_ith {w:World} {b:Nat} {e:TypeId} {α:Type} {f:α→Value} {zs:List α} (h:Row w b e (zs.map f)) {i:Nat} {z:α} (hz:zs[i]?=some z):w.cell? ⟨b,0+i*1,none⟩=some (f z):=by
  rw [Nat.mul_one,Nat.zero_add,h.cell,List.getElem?_map,hz];rfl
end Go.Proofs.YtnifmbbpfdghmaaGreatDoor
namespace Go.Proofs.YtnifmbbpfdghmaaGreatDoor
open Go.Lib
abbrev ItSt:=List (Int × Nat) × Bool
def itStep (st:ItSt) (z:Nat):Option ItSt:=
  if st.2=true∧¬ specialI z=true then none
  else if st.2=true∨¬ specialI z=true then some (st.1++[(0,z)],false)
  else if z=42 then some (st.1++[(2,0)],false)
  else if z=63 then some (st.1++[(1,0)],false)
  else some (st.1,true)
def itGo:ItSt→List Nat→Option ItSt
  | st,[]=>some st
  | st,z::r=>match itStep st z with|none=>none|some s=>itGo s r
def tokOf (x:Int × Nat):Int:=if x.1=0 then (x.2:Int) else if x.1=1 then -2 else -1
def ctl (z:Nat):Bool:=decide (z<32)||decide (z=127)
theorem special_nat (z:Nat):specialI (z:Int)=(decide (z=42)||decide (z=63)||decide (z=92)):=by
  unfold specialI
  rw [Bool.eq_iff_iff];simp;omega
theorem kinds_cons {z:Nat} {a:Int} {ys:List (Int × Nat)} (ha:a=0∨a=1∨a=2) (hy:∀(a:Int) (b:Nat),(a,b)∈ys→a=0∨a=1∨a=2):∀ y∈(a,z)::ys,y.1=0∨y.1=1∨y.1=2:=by
  rintro⟨c,d⟩ hm
  rcases List.mem_cons.1 hm with hm|hm
  · cases hm;exact ha
  · exact hy c d hm
theorem itGo_tok : ∀ (n : Nat) (zs : List Nat) (acc : List (Int × Nat)), zs.length ≤ n → zs.any ctl = false →
    match itGo (acc,false) zs,tokGo zs with
    | some (xs,false),some ts=>∃ ys,xs=acc++ys∧ts=ys.map tokOf∧(∀ y∈ys,y.1=0∨y.1=1∨y.1=2)
    | some (_,true),none=>True
    | none,none=>True
    | _,_=>False
  | 0,zs,acc,h,_=>by
    have:zs=[]:=List.eq_nil_of_length_eq_zero (by omega)
    subst this
    exact⟨[],by simp,rfl,by simp⟩
  | n+1,[],acc,_,_=>⟨[],by simp,rfl,by simp⟩
  | n + 1, z :: r, acc, h, hc => by
    simp only [List.length_cons] at h
    simp only [List.any_cons,Bool.or_eq_false_iff] at hc
    have hz:=hc.1
    simp only [ctl,Bool.or_eq_false_iff,decide_eq_false_iff_not] at hz
    rw [tokGo_cons,if_neg (by omega)]
    simp only [itGo,itStep]
    by_cases hs:specialI (z:Int)=true
    · rw [if_neg (by simp),if_neg (by simp [hs])]
      have hs':=hs
      rw [special_nat] at hs'
      simp only [Bool.or_eq_true,decide_eq_true_eq] at hs'
      by_cases h42:z=42
      · have ih:=itGo_tok n r (acc++[(2,0)]) (by omega) hc.2
        rw [if_pos h42,if_neg (by omega),if_pos h42]
        revert ih
        dsimp only
        cases itGo (acc++[(2,0)],false) r with
        | none=>cases tokGo r <;> simp
        | some p=>
          obtain⟨xs,b⟩:=p
          cases b <;> cases tokGo r <;> simp
          rintro ys rfl rfl hy
          exact⟨(2,0)::ys,by simp,by simp [tokOf],fun a b hm=>kinds_cons (by simp) hy (a,b) hm⟩
      · rw [if_neg h42]
        by_cases h63:z=63
        · have ih:=itGo_tok n r (acc++[(1,0)]) (by omega) hc.2
          rw [if_pos h63,if_neg (by omega),if_neg h42,if_pos h63]
          revert ih
          dsimp only
          cases itGo (acc++[(1,0)],false) r with
          | none=>cases tokGo r <;> simp
          | some p=>
            obtain⟨xs,b⟩:=p
            cases b <;> cases tokGo r <;> simp
            rintro ys rfl rfl hy
            exact⟨(1,0)::ys,by simp,by simp [tokOf],fun a b hm=>kinds_cons (by simp) hy (a,b) hm⟩
        · rw [if_neg h63,if_pos (by omega)]
          dsimp only
          cases r with
          | nil=>simp [itGo]
          | cons y r'=>
            simp only [itGo,itStep]
            by_cases hy:specialI (y:Int)=true
            · rw [if_neg (by simp [hy]),if_pos (by simp),if_pos hy]
              simp only [List.length_cons] at h
              have hc2:=hc.2
              simp only [List.any_cons,Bool.or_eq_false_iff] at hc2
              have ih:=itGo_tok n r' (acc++[(0,y)]) (by omega) hc2.2
              revert ih
              dsimp only
              cases itGo (acc++[(0,y)],false) r' with
              | none=>cases tokGo r' <;> simp
              | some p=>
                obtain⟨xs,b⟩:=p
                cases b <;> cases tokGo r' <;> simp
                rintro ys rfl rfl hy
                exact⟨(0,y)::ys,by simp,by simp [tokOf],fun a b hm=>kinds_cons (by simp) hy (a,b) hm⟩
            · rw [if_pos (by simp [hy]),if_neg hy]
              simp
    · rw [if_neg (by simp),if_pos (.inr hs)]
      have hs':=hs
      rw [special_nat] at hs'
      simp only [Bool.or_eq_true,decide_eq_true_eq] at hs'
      have ih:=itGo_tok n r (acc++[(0,z)]) (by omega) hc.2
      rw [if_neg (by omega),if_neg (by omega),if_neg (by omega)]
      revert ih
      dsimp only
      cases itGo (acc++[(0,z)],false) r with
      | none=>cases tokGo r <;> simp
      | some p=>
        obtain⟨xs,b⟩:=p
        cases b <;> cases tokGo r <;> simp
        rintro ys rfl rfl hy
        exact⟨(0,z)::ys,by simp,by simp [tokOf],fun a b hm=>kinds_cons (by simp) hy (a,b) hm⟩
theorem dec_step {d:List UInt8} {zs:List Nat} (hd:d≠[]) (hp:points d=some zs):∃ z r n,zs=z::r∧decodeL d=(z,n)∧1≤n∧n≤d.length∧points (d.drop n)=some r∧scal z=true:=by
  have h:=points_step hd
  rw [hp] at h
  cases hf:firstR d with
  | none=>rw [hf] at h;cases h
  | some q=>
    obtain⟨z,n⟩:=q
    rw [hf] at h
    dsimp only at h
    have hs:=firstR_some hf
    cases hr:points (d.drop n) with
    | none=>rw [hr] at h;cases h
    | some r=>
      rw [hr] at h
      simp at h
      refine⟨z,r,n,h,?_,hs.1,hs.2.1,hr,hs.2.2.1⟩
      rw [firstR_eq d hd] at hf
      split at hf
      · cases hf
      · exact Option.some.inj hf
end Go.Proofs.YtnifmbbpfdghmaaGreatDoor
namespace Go.Proofs.YtnifmbbpfdghmaaGreatDoor
open Go.RowKit Go.En
theorem runes_from {l:List UInt8}:∀(k pos:Nat) (acc:Array Value) (rest:List Nat),l.length≤pos+k→points (l.drop pos)=some rest→Conv.runesFrom ⟨l.toArray⟩ k pos acc=acc++(rest.map fun(z:Nat)=>Value.int .i32 (z:Int)).toArray
  | 0,pos,acc,rest,hk,hp=>by
    rw [List.drop_eq_nil_of_le (by omega),points_nil] at hp
    cases hp
    simp [Conv.runesFrom]
  | k + 1, pos, acc, rest, hk, hp => by
    have hsz:(ByteArray.mk l.toArray).size=l.length:=by simp [ByteArray.size]
    unfold Conv.runesFrom
    rw [hsz]
    by_cases hlt:pos<l.length
    · rw [if_pos hlt]
      have hne:l.drop pos≠[]:=by intro h;have:=congrArg List.length h;simp at this;omega
      obtain⟨z,r,m,rfl,hdec,hn1,hn2,hpr,hz⟩:=dec_step hne hp
      have hdd:=Lib.decodeL_drop ⟨l.toArray⟩ pos
      simp only [List.toList_toArray] at hdd
      rw [hdec] at hdd
      rw [← hdd]
      dsimp only
      rw [List.drop_drop] at hpr
      rw [runes_from k (pos+m) _ r (by omega) hpr]
      simp
    · rw [if_neg hlt]
      rw [List.drop_eq_nil_of_le (by omega),points_nil] at hp
      cases hp
      simp
theorem EL_runes {P:Program} {n:Nat} {Q:Post} {L:List (Nat × Value)} {w:World} {ops:List Oper} {o:Oper} {rest:List Oper} {c s d e:TypeId} {x:Operand} {l:List UInt8} {zs:List Nat} [us:UT P s .string] [ud:UT P d (.slice e)] [ue:UT P e (.int .i32)]
    (hp:points l=some zs) (hl:zs.length≤1048576) (hg:gst ops L o=some true) (hd:odst n o.dst=some c) (ho:o.op=.convert s d x) (hx:ev L x=some (str l))
    (k:∀ b cap w',Ext w w'→b=w.heap.size→zs.length≤cap→At w' b 0 (zs.map fun(z:Nat)=>Value.int .i32 (z:Int))→EL P n ops Q rest ((c,.slice (some ⟨b,0,none⟩) zs.length cap)::L) w'):EL P n ops Q (o::rest) L w:=by
  have hsz:(ByteArray.mk l.toArray).size=l.length:=by simp [ByteArray.size]
  have hr:Conv.runesFrom ⟨l.toArray⟩ (ByteArray.mk l.toArray).size 0 #[]=(zs.map fun(z:Nat)=>Value.int .i32 (z:Int)).toArray:=by
    rw [runes_from _ 0 #[] zs (by omega) hp];simp
  have h:=run_runes_of_string (P:=P) w s d e ⟨l.toArray⟩ us.u ud.u ue.u (by rw [hr];simp;omega)
  rw [hr] at h
  simp only [List.size_toArray,List.length_map] at h
  refine EL_valw hg hd (fun ρ ha=>?_) (k w.heap.size _ (w.drew.alloc (.cells ((zs.map fun(z:Nat)=>Value.int .i32 (z:Int)).toArray++Array.replicate (grownCap w zs.length 0 e-zs.length) (.int .i32 0)) e)) ((ext_drew w).trans (ext_alloc _ _)) Z (grownCap_ge w zs.length 0 e) ?_)
  · have h0:=ha.ev (by rw [ho];simp [Op.operands]) hx
    simp only [execOp,ho,h0,h,Sem.run_bind,Result.andThen_ok]
    rfl
  · intro j v hv
    have hj:=(List.getElem?_eq_some_iff.1 hv).1
    rw [Nat.zero_add]
    have:=heap_alloc_new w.drew (.cells ((zs.map fun(z:Nat)=>Value.int .i32 (z:Int)).toArray++Array.replicate (grownCap w zs.length 0 e-zs.length) (.int .i32 0)) e)
    simp only [World.cell?]
    rw [show w.drew.heap.size=w.heap.size from rfl] at this
    rw [this]
    dsimp only
    rw [Array.getElem?_append_left (by simpa using hj)]
    simpa using hv
theorem EL_storeA {P:Program} {n:Nat} {Q:Post} {L:List (Nat × Value)} {w:World} {ops:List Oper} {o:Oper} {rest:List Oper} {t:TypeId} {x y:Operand} {z:Value} {size bytes:Nat} {b:Nat} {e:TypeId} {cs cs0:List Value} [TI P t z size bytes] {w0:World}
    (hr:Row w b e cs0) (x0:Ext w0 w) (hb:w0.heap.size≤b) (hg:gst ops L o=some true) (hd:o.dst=none) (ho:o.op=.store t x y)
    (hx:ev L x=some (.pointer (some ⟨b,0,none⟩))) (hy:ev L y=some (.agg cs.toArray)) (hs:Nat.beq cs.length size=true) (hs0:Nat.beq cs0.length size=true) (h1:cs.all Value.oneCell'=true)
    (k:∀ w',Row w' b e cs→Ext w0 w'→EL P n ops Q rest L w'):EL P n ops Q (o::rest) L w:=by
  have e1:=Nat.eq_of_beq_eq_true hs
  have e0:=Nat.eq_of_beq_eq_true hs0
  refine EL_store hg hd ho hx hy (by simpa [Value.cells] using e1) (by simpa [Value.cells] using h1) hr (by omega) fun w' h2 h3 _=>k w' ?_ (h3.ext x0 fun b' hb'=>by cases hb';exact hb)
  rw [show cs0.take 0=[] by simp,show cs0.drop (0+size)=[] by apply List.drop_eq_nil_of_le;omega] at h2
  simpa [Value.cells] using h2
end Go.Proofs.YtnifmbbpfdghmaaGreatDoor
