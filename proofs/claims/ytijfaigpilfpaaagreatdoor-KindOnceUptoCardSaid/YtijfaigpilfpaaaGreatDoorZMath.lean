/- Whole numbers with a sign: what the sign and the size make; quotients rounded down; texts. No program in sight. -/
namespace Go.Proofs.YtijfaigpilfpaaaGreatDoor
def val (b:Nat):List Nat→Nat
 | []=>0
 | x::l=>x+b * val b l
def QiX (b:Nat):Nat→Nat→List Nat
 | 0,_=>[]
 | f+1,n=>if n=0 then [] else n % b::QiX b f (n / b)
def digs (b n:Nat):List Nat:=QiX b n n
def dg (l:List Nat) (k:Nat):Nat:=l.getD k 0
theorem Qgd (l:List Nat) (k:Nat) (h:k<l.length):dg l k=l[k]:=by simp [dg,List.getD,h]
theorem Qi0 (l:List Nat) (k:Nat) (h:l.length≤k):dg l k=0:=by simp [dg,List.getD,h]
theorem dg_get? (l:List Nat) (k:Nat) (h:k<l.length):l[k]?=some (dg l k):=by simp [dg,List.getD,h]
theorem Qgj (b:Nat) (l m:List Nat):val b (l++m)=val b l+b ^ l.length * val b m:=by
 induction l with
 | nil=>simp [val]
 | cons x l ih=>simp only [List.cons_append,val,ih,List.length_cons,Nat.pow_succ,Nat.mul_add]; rw [Nat.mul_comm (b ^ l.length) b,Nat.mul_assoc]; omega
theorem QgW (b:Nat) (l:List Nat) (x:Nat):val b (l++[x])=val b l+b ^ l.length * x:=by
 rw [Qgj]; simp [val]
theorem QgV (b:Nat) (l:List Nat) (k:Nat) (h:k<l.length):val b (l.take (k+1))=val b (l.take k)+b ^ k * dg l k:=by
 rw [List.take_succ_eq_append_getElem h,QgW]
 simp [dg,List.getD,h,Nat.min_eq_left (Nat.le_of_lt h)]
theorem QmT (b:Nat) (hb:2≤b):∀ (f g n:Nat),n≤f→n≤g→QiX b f n=QiX b g n:=by
 intro f
 induction f with
 | zero => intro g n h1 h2; obtain rfl : n = 0 := by omega
           cases g <;> simp [QiX]
 | succ f ih =>
  intro g n h1 h2
  cases g with
  | zero => obtain rfl : n = 0 := by omega
            simp [QiX]
  | succ g =>
   simp only [QiX]
   by_cases hn:n=0
   · simp [hn]
   · have:n / b<n:=Nat.div_lt_self (by omega) (by omega)
     rw [if_neg hn,if_neg hn,ih g (n / b) (by omega) (by omega)]
theorem Qbx (b:Nat):digs b 0=[]:=rfl
theorem Qce (b:Nat) (hb:2≤b) (n:Nat) (hn:n≠0):digs b n=n % b::digs b (n / b):=by
 obtain ⟨m,rfl⟩:∃ m,n=m+1:=⟨n - 1,by omega⟩
 unfold digs
 rw [QiX,if_neg hn]
 have:(m+1) / b<m+1:=Nat.div_lt_self (by omega) (by omega)
 rw [QmT b hb m ((m+1) / b) _ (by omega) (Nat.le_refl _)]
theorem QgX (b:Nat) (hb:2≤b) (n:Nat):val b (digs b n)=n:=by
 induction n using Nat.strongRecOn with
 | _ n ih =>
  by_cases hn:n=0
  · subst hn; rfl
  · rw [Qce b hb n hn,val,ih _ (Nat.div_lt_self (by omega) (by omega))]
    exact Nat.mod_add_div n b
theorem Qkh (b:Nat) (hb:2≤b) (n:Nat):∀ x∈digs b n,x<b:=by
 induction n using Nat.strongRecOn with
 | _ n ih =>
  by_cases hn:n=0
  · subst hn; intro x hx; cases hx
  · rw [Qce b hb n hn]
    intro x hx
    cases hx with
    | head=>exact Nat.mod_lt _ (by omega)
    | tail _ hx=>exact ih _ (Nat.div_lt_self (by omega) (by omega)) x hx
def Rgt (b:Nat) (l:List Nat):Prop:=(∀ x∈l,x<b)∧l.getLast?≠some 0
theorem Rgt.tail {b x:Nat} {l:List Nat} (h:Rgt b (x::l)):Rgt b l:=by
 refine ⟨fun y hy=>h.1 y (List.mem_cons_of_mem _ hy),?_⟩
 cases l with
 | nil=>simp
 | cons y l=>have:=h.2; simpa [List.getLast?_cons_cons] using this
theorem Rgt.digs {b:Nat} (hb:2≤b) {l:List Nat} (h:Rgt b l):l=Go.Proofs.YtijfaigpilfpaaaGreatDoor.digs b (val b l):=by
 induction l with
 | nil=>rfl
 | cons x l ih =>
  have ih':=ih h.tail
  have hx:=h.1 x List.mem_cons_self
  by_cases h0:val b (x::l)=0
  · exfalso
    simp only [val] at h0
    have hv:val b l=0:=by
     rcases Nat.mul_eq_zero.1 (show b * val b l=0 by omega) with h | h <;> omega
    rw [hv,Qbx] at ih'
    subst ih'
    have:=h.2
    simp at this; omega
  · rw [Qce b hb _ h0]
    have e1:val b (x::l) % b=x:=by simp only [val]; rw [Nat.add_mul_mod_self_left,Nat.mod_eq_of_lt hx]
    have e2:val b (x::l) / b=val b l:=by simp only [val]; rw [Nat.add_mul_div_left _ _ (by omega),Nat.div_eq_of_lt hx,Nat.zero_add]
    rw [e1,e2,← ih']
theorem Qq0 (b:Nat) (hb:2≤b) (n:Nat):Rgt b (digs b n):=by
 refine ⟨Qkh b hb n,?_⟩
 induction n using Nat.strongRecOn with
 | _ n ih =>
  by_cases hn:n=0
  · subst hn; simp [Qbx]
  · rw [Qce b hb n hn]
    by_cases hq:n / b=0
    · rw [hq,Qbx]
      have hlt:n<b:=by rcases Nat.div_eq_zero_iff.1 hq with h | h <;> omega
      have:n % b=n:=Nat.mod_eq_of_lt hlt
      simp; omega
    · have:=ih (n / b) (Nat.div_lt_self (by omega) hb)
      rw [Qce b hb _ hq] at this ⊢
      simpa [List.getLast?_cons_cons] using this
theorem Qdm (b:Nat) (hb:2≤b) (n k:Nat) (h:n<b ^ k):(digs b n).length≤k:=by
 induction k generalizing n with
 | zero => obtain rfl : n = 0 := by simp at h; omega
           simp [Qbx]
 | succ k ih =>
  by_cases hn:n=0
  · subst hn; simp [Qbx]
  · rw [Qce b hb n hn,List.length_cons]
    have:=ih (n / b) (by rw [Nat.pow_succ] at h; exact Nat.div_lt_of_lt_mul (by rw [Nat.mul_comm]; exact h))
    omega
theorem dg_lt {l:List Nat} {c:Nat} (h:∀ x∈l,x<c) (hc:0<c) (k:Nat):dg l k<c:=by
 by_cases hk:k<l.length
 · rw [Qgd l k hk]; exact h _ (List.getElem_mem hk)
 · rw [Qi0 l k (by omega)]; exact hc
theorem dg_le {l:List Nat} {c:Nat} (h:∀ x∈l,x≤c) (k:Nat):dg l k≤c:=by
 by_cases hk:k<l.length
 · rw [Qgd l k hk]; exact h _ (List.getElem_mem hk)
 · rw [Qi0 l k (by omega)]; exact Nat.zero_le _
theorem Qid (b:Nat) (l:List Nat) (h:0<l.length) (h0:dg l (l.length - 1)=0):val b l.dropLast=val b l:=by
 have hl:l≠[]:=by intro h; subst h; simp at h
 have e1:l.dropLast++[l.getLast hl]=l:=List.dropLast_concat_getLast hl
 have e2:l.getLast hl=0:=by rw [Qgd l _ (by omega)] at h0; rw [List.getLast_eq_getElem]; exact h0
 rw [e2] at e1
 have:=QgW b l.dropLast 0
 rw [e1] at this; omega
theorem Qfm {b:Nat} {l:List Nat} (hx:∀ x∈l,x<b) (h:l.length=0∨dg l (l.length - 1)≠0):Rgt b l:=by
 refine ⟨hx,?_⟩
 rcases h with h | h
 · have:l=[]:=List.eq_nil_of_length_eq_zero h
   subst this; simp
 · intro hc
   by_cases hl:l=[]
   · subst hl; simp at hc
   · rw [List.getLast?_eq_some_getLast hl] at hc
     have hp:=List.length_pos_iff.2 hl
     rw [Qgd l _ (by omega),← List.getLast_eq_getElem hl] at h
     simp at hc; exact h hc
end Go.Proofs.YtijfaigpilfpaaaGreatDoor
namespace Go.Proofs.YtijfaigpilfpaaaGreatDoor
def zOf (neg:Bool) (n:Nat):Int:=if neg then -(n:Int) else n
def zNeg (z:Int):Bool:=decide (z<0)
theorem QgR (neg:Bool) (n:Nat):(zOf neg n).natAbs=n:=by cases neg <;> simp [zOf]
theorem Qh7 (n:Nat):zOf false n=n:=rfl
theorem QkD (n:Nat):zOf true n=-(n:Int):=rfl
theorem Qng (y z:Int):(y+z).natAbs≤y.natAbs+z.natAbs:=Int.natAbs_add_le y z
end Go.Proofs.YtijfaigpilfpaaaGreatDoor
