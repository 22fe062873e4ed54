/- The text of a term, read: the term comes back. -/
import Derived.Test.YtdeacbdpmdfgdaaDoorKx
namespace Go.Proofs.YtdeacbdpmdfgdaaDoor
open Go.RowKit
set_option linter.unusedVariables false
set_option maxRecDepth 100000
def cutB (c:UInt8):List UInt8→Option (List UInt8 × List UInt8)
 | []=>none
 | x::l=>if x=c then some ([],l) else match cutB c l with
  | none=>none
  | some (a,b)=>some (x::a,b)
theorem cut_at {c:UInt8}:∀ {a r:List UInt8},c ∉ a→cutB c (a++c::r)=some (a,r)
 | [],r,_=>by simp [cutB]
 | x::a,r,h=>by
  rw [List.mem_cons,not_or] at h
  rw [List.cons_append,cutB,if_neg (fun hc=>h.1 hc.symm),cut_at h.2]
theorem cut_len {c:UInt8}:∀ {l a b:List UInt8},cutB c l=some (a,b)→l=a++c::b∧c ∉ a
 | [],a,b,h=>by cases h
 | x::l,a,b,h=>by
  rw [cutB] at h
  split at h
  · rename_i hx
    cases h
    exact ⟨by rw [hx]; rfl,by simp⟩
  · rename_i hx
    split at h
    · cases h
    · rename_i a' b' hc
      cases h
      obtain ⟨h1,h2⟩:=cut_len hc
      exact ⟨by rw [h1]; rfl,by rw [List.mem_cons,not_or]; exact ⟨fun hc=>hx hc.symm,h2⟩⟩
def numW (m:Nat) (s:List UInt8):Option Nat:=if Lib.decDigits (valC s)=s∧valC s≤m then some (valC s) else none
theorem num_at {m n:Nat} (h:n≤m):numW m (Lib.decDigits n)=some n:=by
 unfold numW
 rw [valC_dec,if_pos ⟨rfl,h⟩]
def limbW:Nat→List UInt8→Option (List Nat)
 | _,[]=>some []
 | 0,_=>none
 | f+1,x::l=>match cutB 46 (x::l) with
  | none=>none
  | some (d,r)=>match numW 4294967295 d,limbW f r with
   | some n,some k=>some (n::k)
   | _,_=>none
def negW:List UInt8→Bool × List UInt8
 | []=>(false,[])
 | x::l=>if x=45 then (true,l) else (false,x::l)
mutual
def readT:Nat→List UInt8→Option (Tw × List UInt8)
 | 0,_=>none
 | f+1,s=>match cutB 32 s with
  | none=>none
  | some (kd,r1)=>match cutB 58 r1 with
   | none=>none
   | some (lg,r2)=>match numW 255 kd,numW 2147483647 lg with
    | some k,some n=>if n<r2.length∧r2.getD n 0=32 then
      match cutB 32 (r2.drop (n+1)) with
      | none=>none
      | some (dg,r4)=>match limbW (negW dg).2.length (negW dg).2,cutB 59 r4 with
       | some ds,some (mn,r5)=>match numW 2147483647 mn with
        | some m=>match readL f m r5 with
         | some (l,r6)=>some (.mk k ⟨⟨r2.take n⟩⟩ (negW dg).1 ds l,r6)
         | none=>none
        | none=>none
       | _,_=>none
     else none
    | _,_=>none
def readL:Nat→Nat→List UInt8→Option (List Tw × List UInt8)
 | _,0,s=>some ([],s)
 | 0,_+1,_=>none
 | f+1,m+1,s=>match readT f s with
  | none=>none
  | some (t,r)=>match readL f m r with
   | none=>none
   | some (l,r')=>some (t::l,r')
end
mutual
def shortT:Tw→Prop
 | .mk _ n _ _ l=>(n.size≤2147483647∧l.length≤2147483647)∧shortTL l
def shortTL:List Tw→Prop
 | []=>True
 | t::l=>shortT t∧shortTL l
end
theorem dec_no {c:UInt8} (hc:digC c=false) (u:Nat):c ∉ Lib.decDigits u:=fun h=>by
 have:=decC_all u c h
 rw [hc] at this; cases this
theorem digs_no {c:UInt8} (hc:digC c=false) (h46:c≠46):∀ l:List Nat,c ∉ digsC l
 | [],h=>by simp [digsC] at h
 | d::l,h=>by
  rw [digsC] at h
  rcases List.mem_append.1 h with h | h
  · exact dec_no hc d h
  · rcases List.mem_cons.1 h with h | h
    · exact h46 h
    · exact digs_no hc h46 l h
theorem limb_at:∀ (l:List Nat) (f:Nat),(∀ x∈l,x<4294967296)→l.length≤f→limbW f (digsC l)=some l
 | [],f,_,_=>by cases f <;> rfl
 | d::l,0,_,hf=>by simp at hf
 | d::l,f+1,h,hf=>by
  have h1:=limb_at l f (fun x hx=>h x (by simp [hx])) (by simpa using hf)
  have e:digsC (d::l)=Lib.decDigits d++46::digsC l:=rfl
  have hcut:cutB 46 (digsC (d::l))=some (Lib.decDigits d,digsC l):=by rw [e]; exact cut_at (dec_no (by decide) d)
  cases hs:digsC (d::l) with
  | nil=>rw [e] at hs; simp at hs
  | cons x s =>
   rw [hs] at hcut
   rw [limbW,hcut]
   dsimp only
   rw [num_at (by have:=h d (by simp); omega),h1]
theorem digs_len:∀ l:List Nat,l.length≤(digsC l).length
 | []=>Nat.le_refl _
 | d::l=>by
  have:=digs_len l
  rw [digsC,List.length_append,List.length_cons,List.length_cons]
  omega
theorem neg_at (b:Bool) (d:List Nat):negW ((if b=true then [45] else [])++digsC d)=(b,digsC d):=by
 cases b with
 | true=>rfl
 | false =>
  show negW (digsC d)=_
  cases d with
  | nil=>rfl
  | cons x d =>
   rw [digsC]
   cases hx:Lib.decDigits x with
   | nil=>exact absurd hx (decC_ne x)
   | cons c k =>
    have:=decC_all x c (by rw [hx]; simp)
    rw [List.cons_append,negW,if_neg (fun hc=>by rw [hc] at this; revert this; decide)]
mutual
theorem read_at:∀ (t:Tw) (f:Nat) (r:List UInt8),kindR t→shortT t→2 * t.size≤f→readT f (keyB t++r)=some (t,r)
 | .mk k n b d l,0,r,_,_,hf=>by simp [Tw.size] at hf
 | .mk k n b d l,f+1,r,hk,hs,hf=>by
  obtain ⟨⟨⟨k0,k1⟩,hd⟩,hkl⟩:=hk
  obtain ⟨⟨hn,hl⟩,hsl⟩:=hs
  have hL:=readL_at l f r hkl hsl (by simp only [Tw.size] at hf; omega)
  have e:keyB (.mk k n b d l)++r=Lib.decDigits k.toNat++32::(Lib.decDigits n.size++58::(n.data.toList++32::(((if b=true then [45] else [])++digsC d)++32::(Lib.decDigits l.length++59::(keyBL l++r))))):=by
   rw [keyB]; simp only [List.append_assoc,List.cons_append]
  have hz:n.data.toList.length=n.size:=by cases n; rfl
  rw [e,readT,cut_at (dec_no (by decide) _)]
  dsimp only
  rw [cut_at (dec_no (by decide) _)]
  dsimp only
  rw [num_at (by omega),num_at hn]
  dsimp only
  have g1:n.size<(n.data.toList++32::(((if b=true then [45] else [])++digsC d)++32::(Lib.decDigits l.length++59::(keyBL l++r)))).length:=by
   rw [List.length_append,hz,List.length_cons]; omega
  have g2:∀ X:List UInt8,(n.data.toList++32::X).getD n.size 0=32:=fun X=>by
   rw [List.getD_eq_getElem?_getD,← hz,List.getElem?_append_right (Nat.le_refl _),Nat.sub_self]; rfl
  have g3:∀ X:List UInt8,(n.data.toList++32::X).drop (n.size+1)=X:=fun X=>by
   rw [show n.size+1=(n.data.toList++[32]).length by rw [List.length_append,hz]; rfl,show n.data.toList++32::X=(n.data.toList++[32])++X by rw [List.append_assoc]; rfl,List.drop_left]
  have g4:∀ X:List UInt8,(n.data.toList++32::X).take n.size=n.data.toList:=fun X=>by
   rw [← hz,List.take_left]
  rw [if_pos ⟨g1,g2 _⟩,g3,g4]
  have g5:(32:UInt8) ∉ (if b=true then [45] else [])++digsC d:=fun h=>by
   rcases List.mem_append.1 h with h | h
   · cases b
     · simp at h
     · rw [if_pos rfl,List.mem_singleton] at h; revert h; decide
   · exact digs_no (by decide) (by decide) d h
  rw [cut_at g5]
  dsimp only
  rw [neg_at]
  dsimp only
  rw [limb_at d _ hd (digs_len d),cut_at (dec_no (by decide) _)]
  dsimp only
  rw [num_at hl]
  dsimp only
  rw [hL]
  dsimp only
  rw [Int.toNat_of_nonneg k0]
theorem readL_at:∀ (l:List Tw) (f:Nat) (r:List UInt8),kindRL l→shortTL l→2 * szL l+1≤f→readL f l.length (keyBL l++r)=some (l,r)
 | [],f,r,_,_,hf=>by cases f <;> rfl
 | t::l,0,r,_,_,hf=>by omega
 | t::l,f+1,r,hk,hs,hf=>by
  have h1:=read_at t f (keyBL l++r) hk.1 hs.1 (by simp only [szL] at hf; omega)
  have h2:=readL_at l f r hk.2 hs.2 (by have:=Tw.size_pos t; simp only [szL] at hf; omega)
  rw [keyBL,List.append_assoc,List.length_cons,readL,h1]
  dsimp only
  rw [h2]
end
end Go.Proofs.YtdeacbdpmdfgdaaDoor
