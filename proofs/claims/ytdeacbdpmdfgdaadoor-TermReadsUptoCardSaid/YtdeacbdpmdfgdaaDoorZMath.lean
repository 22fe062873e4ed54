/- Whole numbers with a sign: what the sign and the size make; quotients rounded down; texts. No program in sight. -/
namespace Go.Proofs.YtdeacbdpmdfgdaaDoor
def val (b:Nat):List Nat→Nat
 | []=>0
 | x::l=>x+b * val b l
def digsF (b:Nat):Nat→Nat→List Nat
 | 0,_=>[]
 | f+1,n=>if n=0 then [] else n % b::digsF b f (n / b)
def digs (b n:Nat):List Nat:=digsF b n n
def dg (l:List Nat) (k:Nat):Nat:=l.getD k 0
theorem dg_eq (l:List Nat) (k:Nat) (h:k<l.length):dg l k=l[k]:=by simp [dg,List.getD,h]
theorem digsF_fuel (b:Nat) (hb:2≤b):∀ (f g n:Nat),n≤f→n≤g→digsF b f n=digsF b g n:=by
 intro f
 induction f with
 | zero => intro g n h1 h2; obtain rfl : n = 0 := by omega
           cases g <;> simp [digsF]
 | succ f ih =>
  intro g n h1 h2
  cases g with
  | zero => obtain rfl : n = 0 := by omega
            simp [digsF]
  | succ g =>
   simp only [digsF]
   by_cases hn:n=0
   · simp [hn]
   · have:n / b<n:=Nat.div_lt_self (by omega) (by omega)
     rw [if_neg hn,if_neg hn,ih g (n / b) (by omega) (by omega)]
theorem digs_zero (b:Nat):digs b 0=[]:=rfl
theorem digs_cons (b:Nat) (hb:2≤b) (n:Nat) (hn:n≠0):digs b n=n % b::digs b (n / b):=by
 obtain ⟨m,rfl⟩:∃ m,n=m+1:=⟨n - 1,by omega⟩
 unfold digs
 rw [digsF,if_neg hn]
 have:(m+1) / b<m+1:=Nat.div_lt_self (by omega) (by omega)
 rw [digsF_fuel b hb m ((m+1) / b) _ (by omega) (Nat.le_refl _)]
theorem val_digs (b:Nat) (hb:2≤b) (n:Nat):val b (digs b n)=n:=by
 induction n using Nat.strongRecOn with
 | _ n ih =>
  by_cases hn:n=0
  · subst hn; rfl
  · rw [digs_cons b hb n hn,val,ih _ (Nat.div_lt_self (by omega) (by omega))]
    exact Nat.mod_add_div n b
theorem digs_lt (b:Nat) (hb:2≤b) (n:Nat):∀ x∈digs b n,x<b:=by
 induction n using Nat.strongRecOn with
 | _ n ih =>
  by_cases hn:n=0
  · subst hn; intro x hx; cases hx
  · rw [digs_cons b hb n hn]
    intro x hx
    cases hx with
    | head=>exact Nat.mod_lt _ (by omega)
    | tail _ hx=>exact ih _ (Nat.div_lt_self (by omega) (by omega)) x hx
def Rgt (b:Nat) (l:List Nat):Prop:=(∀ x∈l,x<b)∧l.getLast?≠some 0
theorem Rgt.tail {b x:Nat} {l:List Nat} (h:Rgt b (x::l)):Rgt b l:=by
 refine ⟨fun y hy=>h.1 y (List.mem_cons_of_mem _ hy),?_⟩
 cases l with
 | nil=>simp
 | cons y l=>have:=h.2; simpa [List.getLast?_cons_cons] using this
theorem digs_rgt (b:Nat) (hb:2≤b) (n:Nat):Rgt b (digs b n):=by
 refine ⟨digs_lt b hb n,?_⟩
 induction n using Nat.strongRecOn with
 | _ n ih =>
  by_cases hn:n=0
  · subst hn; simp [digs_zero]
  · rw [digs_cons b hb n hn]
    by_cases hq:n / b=0
    · rw [hq,digs_zero]
      have hlt:n<b:=by rcases Nat.div_eq_zero_iff.1 hq with h | h <;> omega
      have:n % b=n:=Nat.mod_eq_of_lt hlt
      simp; omega
    · have:=ih (n / b) (Nat.div_lt_self (by omega) hb)
      rw [digs_cons b hb _ hq] at this ⊢
      simpa [List.getLast?_cons_cons] using this
theorem digs_length_le (b:Nat) (hb:2≤b) (n k:Nat) (h:n<b ^ k):(digs b n).length≤k:=by
 induction k generalizing n with
 | zero => obtain rfl : n = 0 := by simp at h; omega
           simp [digs_zero]
 | succ k ih =>
  by_cases hn:n=0
  · subst hn; simp [digs_zero]
  · rw [digs_cons b hb n hn,List.length_cons]
    have:=ih (n / b) (by rw [Nat.pow_succ] at h; exact Nat.div_lt_of_lt_mul (by rw [Nat.mul_comm]; exact h))
    omega
end Go.Proofs.YtdeacbdpmdfgdaaDoor
namespace Go.Proofs.YtdeacbdpmdfgdaaDoor
def zOf (neg:Bool) (n:Nat):Int:=if neg then -(n:Int) else n
def zNeg (z:Int):Bool:=decide (z<0)
theorem zOf_abs (neg:Bool) (n:Nat):(zOf neg n).natAbs=n:=by cases neg <;> simp [zOf]
theorem abs_add_le (y z:Int):(y+z).natAbs≤y.natAbs+z.natAbs:=Int.natAbs_add_le y z
end Go.Proofs.YtdeacbdpmdfgdaaDoor
