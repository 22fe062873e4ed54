/- Plain numbers: digits to a base, what they stand for. No program in sight. -/
namespace Go.Proofs.YtemhncjjiomppaaDoor
def val (b:Nat):List Nat→Nat
 | []=>0
 | x::l=>x+b * val b l
def Qhl (b:Nat):Nat→Nat→List Nat
 | 0,_=>[]
 | f+1,n=>if n=0 then [] else n % b::Qhl b f (n / b)
def digs (b n:Nat):List Nat:=Qhl b n n
def dg (l:List Nat) (k:Nat):Nat:=l.getD k 0
theorem Ql3 (l:List Nat) (k:Nat) (h:k<l.length):dg l k=l[k]:=by simp [dg,List.getD,h]
theorem dg_get? (l:List Nat) (k:Nat) (h:k<l.length):l[k]?=some (dg l k):=by simp [dg,List.getD,h]
theorem Qkf (b:Nat) (hb:2≤b):∀ (f g n:Nat),n≤f→n≤g→Qhl b f n=Qhl b g n:=by
 intro f
 induction f with
 | zero => intro g n h1 h2; obtain rfl : n = 0 := by omega
           cases g <;> simp [Qhl]
 | succ f ih =>
  intro g n h1 h2
  cases g with
  | zero => obtain rfl : n = 0 := by omega
            simp [Qhl]
  | succ g =>
   simp only [Qhl]
   by_cases hn:n=0
   · simp [hn]
   · have:n / b<n:=Nat.div_lt_self (by omega) (by omega)
     rw [if_neg hn,if_neg hn,ih g (n / b) (by omega) (by omega)]
theorem Qcj (b:Nat):digs b 0=[]:=rfl
theorem Qck (b:Nat) (hb:2≤b) (n:Nat) (hn:n≠0):digs b n=n % b::digs b (n / b):=by
 obtain ⟨m,rfl⟩:∃ m,n=m+1:=⟨n - 1,by omega⟩
 unfold digs
 rw [Qhl,if_neg hn]
 have:(m+1) / b<m+1:=Nat.div_lt_self (by omega) (by omega)
 rw [Qkf b hb m ((m+1) / b) _ (by omega) (Nat.le_refl _)]
theorem QiA (b:Nat) (hb:2≤b) (n:Nat):val b (digs b n)=n:=by
 induction n using Nat.strongRecOn with
 | _ n ih =>
  by_cases hn:n=0
  · subst hn; rfl
  · rw [Qck b hb n hn,val,ih _ (Nat.div_lt_self (by omega) (by omega))]
    exact Nat.mod_add_div n b
theorem Ql2 (b:Nat) (hb:2≤b) (n:Nat):∀ x∈digs b n,x<b:=by
 induction n using Nat.strongRecOn with
 | _ n ih =>
  by_cases hn:n=0
  · subst hn; intro x hx; cases hx
  · rw [Qck b hb n hn]
    intro x hx
    cases hx with
    | head=>exact Nat.mod_lt _ (by omega)
    | tail _ hx=>exact ih _ (Nat.div_lt_self (by omega) (by omega)) x hx
def Rgt (b:Nat) (l:List Nat):Prop:=(∀ x∈l,x<b)∧l.getLast?≠some 0
theorem Rgt.tail {b x:Nat} {l:List Nat} (h:Rgt b (x::l)):Rgt b l:=by
 refine ⟨fun y hy=>h.1 y (List.mem_cons_of_mem _ hy),?_⟩
 cases l with
 | nil=>simp
 | cons y l=>have:=h.2; simpa [List.getLast?_cons_cons] using this
theorem Qnt (b:Nat) (hb:2≤b) (n:Nat):Rgt b (digs b n):=by
 refine ⟨Ql2 b hb n,?_⟩
 induction n using Nat.strongRecOn with
 | _ n ih =>
  by_cases hn:n=0
  · subst hn; simp [Qcj]
  · rw [Qck b hb n hn]
    by_cases hq:n / b=0
    · rw [hq,Qcj]
      have hlt:n<b:=by rcases Nat.div_eq_zero_iff.1 hq with h | h <;> omega
      have:n % b=n:=Nat.mod_eq_of_lt hlt
      simp; omega
    · have:=ih (n / b) (Nat.div_lt_self (by omega) hb)
      rw [Qck b hb _ hq] at this ⊢
      simpa [List.getLast?_cons_cons] using this
theorem Qfb (b:Nat) (hb:2≤b) (n k:Nat) (h:n<b ^ k):(digs b n).length≤k:=by
 induction k generalizing n with
 | zero => obtain rfl : n = 0 := by simp at h; omega
           simp [Qcj]
 | succ k ih =>
  by_cases hn:n=0
  · subst hn; simp [Qcj]
  · rw [Qck b hb n hn,List.length_cons]
    have:=ih (n / b) (by rw [Nat.pow_succ] at h; exact Nat.div_lt_of_lt_mul (by rw [Nat.mul_comm]; exact h))
    omega
theorem QhZ {b:Nat} {l:List Nat} (hx:∀ x∈l,x<b) (h:l.length=0∨dg l (l.length - 1)≠0):Rgt b l:=by
 refine ⟨hx,?_⟩
 rcases h with h | h
 · have:l=[]:=List.eq_nil_of_length_eq_zero h
   subst this; simp
 · intro hc
   by_cases hl:l=[]
   · subst hl; simp at hc
   · rw [List.getLast?_eq_some_getLast hl] at hc
     have hp:=List.length_pos_iff.2 hl
     rw [Ql3 l _ (by omega),← List.getLast_eq_getElem hl] at h
     simp at hc; exact h hc
end Go.Proofs.YtemhncjjiomppaaDoor
