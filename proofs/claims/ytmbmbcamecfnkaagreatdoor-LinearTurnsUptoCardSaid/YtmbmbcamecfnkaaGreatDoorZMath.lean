/- Whole numbers with a sign: what the sign and the size make; quotients rounded down; texts. No program in sight. -/
namespace Go.Proofs.YtmbmbcamecfnkaaGreatDoor
def val (b:Nat):List Nat→Nat
 | []=>0
 | x::l=>x+b * val b l
def Qj6 (b:Nat):Nat→Nat→List Nat
 | 0,_=>[]
 | f+1,n=>if n=0 then [] else n % b::Qj6 b f (n / b)
def digs (b n:Nat):List Nat:=Qj6 b n n
def dg (l:List Nat) (k:Nat):Nat:=l.getD k 0
theorem QcN (l:List Nat) (k:Nat) (h:k<l.length):dg l k=l[k]:=by simp [dg,List.getD,h]
theorem QcM (l:List Nat) (k:Nat) (h:l.length≤k):dg l k=0:=by simp [dg,List.getD,h]
theorem dg_get? (l:List Nat) (k:Nat) (h:k<l.length):l[k]?=some (dg l k):=by simp [dg,List.getD,h]
theorem Qb3 (b:Nat) (l m:List Nat):val b (l++m)=val b l+b ^ l.length * val b m:=by
 induction l with
 | nil=>simp [val]
 | cons x l ih=>simp only [List.cons_append,val,ih,List.length_cons,Nat.pow_succ,Nat.mul_add]; rw [Nat.mul_comm (b ^ l.length) b,Nat.mul_assoc]; omega
theorem Qbb (b:Nat) (l:List Nat) (x:Nat):val b (l++[x])=val b l+b ^ l.length * x:=by
 rw [Qb3]; simp [val]
theorem Qby (b:Nat) (l:List Nat) (h:∀ x∈l,x<b):val b l<b ^ l.length:=by
 induction l with
 | nil=>simp [val]
 | cons x l ih =>
  have h1:=ih (fun y hy=>h y (List.mem_cons_of_mem _ hy))
  have h2:=h x List.mem_cons_self
  simp only [val,List.length_cons,Nat.pow_succ]
  have:b * (val b l+1)≤b * b ^ l.length:=Nat.mul_le_mul_left _ h1
  rw [Nat.mul_comm (b ^ l.length) b]
  rw [Nat.mul_add] at this; omega
theorem QbA (b:Nat) (l:List Nat) (k:Nat) (h:k<l.length):val b (l.take (k+1))=val b (l.take k)+b ^ k * dg l k:=by
 rw [List.take_succ_eq_append_getElem h,Qbb]
 simp [dg,List.getD,h,Nat.min_eq_left (Nat.le_of_lt h)]
theorem Qoc (b:Nat) (hb:2≤b):∀ (f g n:Nat),n≤f→n≤g→Qj6 b f n=Qj6 b g n:=by
 intro f
 induction f with
 | zero => intro g n h1 h2; obtain rfl : n = 0 := by omega
           cases g <;> simp [Qj6]
 | succ f ih =>
  intro g n h1 h2
  cases g with
  | zero => obtain rfl : n = 0 := by omega
            simp [Qj6]
  | succ g =>
   simp only [Qj6]
   by_cases hn:n=0
   · simp [hn]
   · have:n / b<n:=Nat.div_lt_self (by omega) (by omega)
     rw [if_neg hn,if_neg hn,ih g (n / b) (by omega) (by omega)]
theorem Qav (b:Nat):digs b 0=[]:=rfl
theorem QbP (b:Nat) (hb:2≤b) (n:Nat) (hn:n≠0):digs b n=n % b::digs b (n / b):=by
 obtain ⟨m,rfl⟩:∃ m,n=m+1:=⟨n - 1,by omega⟩
 unfold digs
 rw [Qj6,if_neg hn]
 have:(m+1) / b<m+1:=Nat.div_lt_self (by omega) (by omega)
 rw [Qoc b hb m ((m+1) / b) _ (by omega) (Nat.le_refl _)]
theorem Qah (b:Nat) (hb:2≤b) (n:Nat):val b (digs b n)=n:=by
 induction n using Nat.strongRecOn with
 | _ n ih =>
  by_cases hn:n=0
  · subst hn; rfl
  · rw [QbP b hb n hn,val,ih _ (Nat.div_lt_self (by omega) (by omega))]
    exact Nat.mod_add_div n b
theorem Qau (b:Nat) (hb:2≤b) (n:Nat):∀ x∈digs b n,x<b:=by
 induction n using Nat.strongRecOn with
 | _ n ih =>
  by_cases hn:n=0
  · subst hn; intro x hx; cases hx
  · rw [QbP b hb n hn]
    intro x hx
    cases hx with
    | head=>exact Nat.mod_lt _ (by omega)
    | tail _ hx=>exact ih _ (Nat.div_lt_self (by omega) (by omega)) x hx
def Rgt (b:Nat) (l:List Nat):Prop:=(∀ x∈l,x<b)∧l.getLast?≠some 0
theorem Rgt.tail {b x:Nat} {l:List Nat} (h:Rgt b (x::l)):Rgt b l:=by
 refine ⟨fun y hy=>h.1 y (List.mem_cons_of_mem _ hy),?_⟩
 cases l with
 | nil=>simp
 | cons y l=>have:=h.2; simpa [List.getLast?_cons_cons] using this
theorem Rgt.digs {b:Nat} (hb:2≤b) {l:List Nat} (h:Rgt b l):l=Go.Proofs.YtmbmbcamecfnkaaGreatDoor.digs b (val b l):=by
 induction l with
 | nil=>rfl
 | cons x l ih =>
  have ih':=ih h.tail
  have hx:=h.1 x List.mem_cons_self
  by_cases h0:val b (x::l)=0
  · exfalso
    simp only [val] at h0
    have hv:val b l=0:=by
     rcases Nat.mul_eq_zero.1 (show b * val b l=0 by omega) with h | h <;> omega
    rw [hv,Qav] at ih'
    subst ih'
    have:=h.2
    simp at this; omega
  · rw [QbP b hb _ h0]
    have e1:val b (x::l) % b=x:=by simp only [val]; rw [Nat.add_mul_mod_self_left,Nat.mod_eq_of_lt hx]
    have e2:val b (x::l) / b=val b l:=by simp only [val]; rw [Nat.add_mul_div_left _ _ (by omega),Nat.div_eq_of_lt hx,Nat.zero_add]
    rw [e1,e2,← ih']
theorem QaP (b:Nat) (hb:2≤b) (n:Nat):Rgt b (digs b n):=by
 refine ⟨Qau b hb n,?_⟩
 induction n using Nat.strongRecOn with
 | _ n ih =>
  by_cases hn:n=0
  · subst hn; simp [Qav]
  · rw [QbP b hb n hn]
    by_cases hq:n / b=0
    · rw [hq,Qav]
      have hlt:n<b:=by rcases Nat.div_eq_zero_iff.1 hq with h | h <;> omega
      have:n % b=n:=Nat.mod_eq_of_lt hlt
      simp; omega
    · have:=ih (n / b) (Nat.div_lt_self (by omega) hb)
      rw [QbP b hb _ hq] at this ⊢
      simpa [List.getLast?_cons_cons] using this
theorem Qay (b:Nat) (hb:2≤b) (n k:Nat) (h:n<b ^ k):(digs b n).length≤k:=by
 induction k generalizing n with
 | zero => obtain rfl : n = 0 := by simp at h; omega
           simp [Qav]
 | succ k ih =>
  by_cases hn:n=0
  · subst hn; simp [Qav]
  · rw [QbP b hb n hn,List.length_cons]
    have:=ih (n / b) (by rw [Nat.pow_succ] at h; exact Nat.div_lt_of_lt_mul (by rw [Nat.mul_comm]; exact h))
    omega
theorem Qbv {l:List Nat} {c:Nat} (h:∀ x∈l,x<c) (hc:0<c) (k:Nat):dg l k<c:=by
 by_cases hk:k<l.length
 · rw [QcN l k hk]; exact h _ (List.getElem_mem hk)
 · rw [QcM l k (by omega)]; exact hc
theorem dg_le {l:List Nat} {c:Nat} (h:∀ x∈l,x≤c) (k:Nat):dg l k≤c:=by
 by_cases hk:k<l.length
 · rw [QcN l k hk]; exact h _ (List.getElem_mem hk)
 · rw [QcM l k (by omega)]; exact Nat.zero_le _
theorem Qfr (b:Nat) (l:List Nat) (h:0<l.length) (h0:dg l (l.length - 1)=0):val b l.dropLast=val b l:=by
 have hl:l≠[]:=by intro h; subst h; simp at h
 have e1:l.dropLast++[l.getLast hl]=l:=List.dropLast_concat_getLast hl
 have e2:l.getLast hl=0:=by rw [QcN l _ (by omega)] at h0; rw [List.getLast_eq_getElem]; exact h0
 rw [e2] at e1
 have:=Qbb b l.dropLast 0
 rw [e1] at this; omega
theorem QcS {b:Nat} {l:List Nat} (hx:∀ x∈l,x<b) (h:l.length=0∨dg l (l.length - 1)≠0):Rgt b l:=by
 refine ⟨hx,?_⟩
 rcases h with h | h
 · have:l=[]:=List.eq_nil_of_length_eq_zero h
   subst this; simp
 · intro hc
   by_cases hl:l=[]
   · subst hl; simp at hc
   · rw [List.getLast?_eq_some_getLast hl] at hc
     have hp:=List.length_pos_iff.2 hl
     rw [QcN l _ (by omega),← List.getLast_eq_getElem hl] at h
     simp at hc; exact h hc
theorem Qdg (b:Nat) (l:List Nat) (j:Nat) (h:j≤l.length):val b l=val b (l.take j)+b ^ j * val b (l.drop j):=by
 have:=Qb3 b (l.take j) (l.drop j)
 rw [List.take_append_drop,List.length_take,Nat.min_eq_left h] at this
 exact this
theorem Qa4 (l:List Nat) (j:Nat) (h:j<l.length):l.drop j=dg l j::l.drop (j+1):=by
 rw [QcN l j h]; exact List.drop_eq_getElem_cons h
theorem Qe7 (b:Nat) {l m:List Nat} (hl:∀ x∈l,x<b) {j:Nat} (h1:j<l.length) (h2:j<m.length) (he:l.drop (j+1)=m.drop (j+1)) (hd:dg l j<dg m j):val b l<val b m:=by
 rw [Qdg b l j (by omega),Qdg b m j (by omega),Qa4 l j h1,Qa4 m j h2,he]
 have h3:=Qby b (l.take j) (fun x hx=>hl x (List.mem_of_mem_take hx))
 rw [List.length_take,Nat.min_eq_left (by omega)] at h3
 simp only [val]
 have h4:b ^ j * (dg l j+b * val b (m.drop (j+1))+1)≤b ^ j * (dg m j+b * val b (m.drop (j+1))):=Nat.mul_le_mul_left _ (by omega)
 rw [Nat.mul_add,Nat.mul_one] at h4
 omega
theorem QdQ {b:Nat} {l:List Nat} (h:Rgt b l) (h0:0<l.length):b ^ (l.length - 1)≤val b l:=by
 have hl:l≠[]:=by intro h; subst h; simp at h0
 have e1:=Qbb b l.dropLast (l.getLast hl)
 rw [List.dropLast_concat_getLast hl,List.length_dropLast] at e1
 have h2:l.getLast hl≠0:=by
  intro h3
  apply h.2
  rw [List.getLast?_eq_some_getLast hl,h3]
 have:b ^ (l.length - 1) * 1≤b ^ (l.length - 1) * l.getLast hl:=Nat.mul_le_mul_left _ (by omega)
 omega
theorem Qe8 {b:Nat} (hb:2≤b) {l m:List Nat} (hl:Rgt b l) (hm:Rgt b m) (h:l.length<m.length):val b l<val b m:=by
 have h1:=Qby b l hl.1
 have h2:=QdQ hm (by omega)
 have h3:b ^ l.length≤b ^ (m.length - 1):=Nat.pow_le_pow_right (by omega) (by omega)
 omega
theorem Qar (b:Nat) (hb:2≤b) {m n:Nat} (h:m≤n):(digs b m).length≤(digs b n).length:=by
 refine Qay b hb m _ ?_
 have:=Qby b (digs b n) (Qau b hb n)
 rw [Qah b hb] at this
 omega
end Go.Proofs.YtmbmbcamecfnkaaGreatDoor
namespace Go.Proofs.YtmbmbcamecfnkaaGreatDoor
def zOf (neg:Bool) (n:Nat):Int:=if neg then -(n:Int) else n
def zNeg (z:Int):Bool:=decide (z<0)
theorem Qbn (neg:Bool) (n:Nat):(zOf neg n).natAbs=n:=by cases neg <;> simp [zOf]
theorem Qs5 (neg:Bool) (n:Nat):zNeg (zOf neg n)=(neg && decide (0<n)):=by
 cases neg
 · simp [zOf,zNeg]
 · simp [zOf,zNeg]
theorem QaV (z:Int):zOf (zNeg z) z.natAbs=z:=by
 by_cases h:z<0
 · simp [zOf,zNeg,h]; omega
 · simp [zOf,zNeg,h]; omega
theorem QdI {z:Int} (h:0≤z):zNeg z=false:=by simp [zNeg]; omega
theorem QdJ {z:Int} (h:z<0):zNeg z=true:=by simp [zNeg]; omega
theorem QlK (neg:Bool):zOf neg 0=0:=by cases neg <;> simp [zOf]
theorem Qa5 (n:Nat):zOf false n=n:=rfl
theorem QdH (n:Nat):zOf true n=-(n:Int):=rfl
theorem Qe5 (neg:Bool) (a b:Nat):zOf neg (a+b)=zOf neg a+zOf neg b:=by cases neg <;> simp [zOf]; omega
theorem Qox (neg:Bool) {a b:Nat} (h:b≤a):zOf neg (a - b)=zOf neg a - zOf neg b:=by cases neg <;> simp [zOf] <;> omega
theorem Qgf (neg:Bool) (n:Nat):zOf (!neg) n=-zOf neg n:=by cases neg <;> simp [zOf]
theorem Qkr (s t:Bool) (a b:Nat):zOf (s != t) (a * b)=zOf s a * zOf t b:=by
 cases s <;> cases t <;> simp [zOf,Int.neg_mul,Int.mul_neg]
theorem Qch {z:Int}:zNeg z=true↔z<0:=by simp [zNeg]
theorem QhH {y z:Int} (h:zNeg y≠zNeg z) (hl:z.natAbs≤y.natAbs):zOf (zNeg y) (y.natAbs - z.natAbs)=y+z:=by
 by_cases hy:y<0
 · have hz:¬ z<0:=fun hz=>h (by rw [QdJ hy,QdJ hz])
   rw [QdJ hy,QdH]; omega
 · have hz:z<0:=Decidable.byContradiction fun hz=>h (by rw [QdI (by omega),QdI (by omega)])
   rw [QdI (by omega),Qa5]; omega
theorem turned (z:Int):zOf (!zNeg z) z.natAbs=-z:=by rw [Qgf,QaV]
theorem QoH (y z:Int):zOf (zNeg y != zNeg z) (y.natAbs * z.natAbs)=y * z:=by
 rw [Qkr,QaV,QaV]
theorem Qoo (y z:Int):(y+z).natAbs≤y.natAbs+z.natAbs:=Int.natAbs_add_le y z
theorem QuG (y z:Int):(y * z).natAbs=y.natAbs * z.natAbs:=Int.natAbs_mul y z
theorem QpN {b d:Int} (h:b * d<b.natAbs) (h2:-(b.natAbs:Int)<b * d) (_hb:b≠0):d=0:=by
 have h3:(b * d).natAbs<b.natAbs:=by omega
 rw [Int.natAbs_mul] at h3
 have hb':0<b.natAbs:=by omega
 have h4:d.natAbs<1:=by
  refine Decidable.byContradiction fun hn=>?_
  have:=Nat.mul_le_mul_left b.natAbs (show 1≤d.natAbs by omega)
  omega
 omega
theorem QjY (a:Int) {b:Int} (hb:b≠0):(0<b∧0≤Int.fmod a b∧Int.fmod a b<b)∨(b<0∧b<Int.fmod a b∧Int.fmod a b≤0):=by
 rcases Int.lt_or_gt_of_ne hb with h0 | h0
 · right
   have h1:=@Int.fmod_eq_emod a b
   have h2:=Int.emod_nonneg a hb
   have h3:=Int.emod_lt a hb
   refine ⟨h0,?_⟩
   rw [h1]
   split
   · rename_i hd
     rcases hd with hd | hd
     · omega
     · have:=Int.emod_eq_zero_of_dvd hd; omega
   · rename_i hd
     have:a % b≠0:=fun h=>hd (.inr (Int.dvd_of_emod_eq_zero h))
     omega
 · left
   exact ⟨h0,Int.fmod_nonneg_of_pos a h0,Int.fmod_lt_of_pos a h0⟩
theorem QcK {a b q r:Int} (hb:b≠0) (h:q * b+r=a) (hr:(0<b∧0≤r∧r<b)∨(b<0∧b<r∧r≤0)):q=Int.fdiv a b∧r=Int.fmod a b:=by
 have e1:=Int.mul_fdiv_add_fmod a b
 have e2:=QjY a hb
 have e4:b * (Int.fdiv a b - q)=r - Int.fmod a b:=by rw [Int.mul_sub,Int.mul_comm b q]; omega
 have e5:=QpN (b:=b) (d:=Int.fdiv a b - q) (by rw [e4]; omega) (by rw [e4]; omega) hb
 have e3:q=Int.fdiv a b:=by omega
 refine ⟨e3,?_⟩
 rw [e5,Int.mul_zero] at e4
 omega
theorem Qo6 {s t:Bool} (h:s≠t):s=!t:=by cases s <;> cases t <;> simp_all
theorem Qtm {s t:Bool}:((s != t) != t)=s:=by cases s <;> cases t <;> rfl
theorem Qoy (s:Bool) (d:Nat) (z:Int):zOf (s != zNeg z) d * z=zOf s (d * z.natAbs):=by
 conv=>lhs; arg 2; rw [← QaV z]
 rw [← Qkr,Qtm]
theorem QmO {y z:Int} (hz:z≠0) (h:zNeg y=zNeg z):zOf (zNeg y != zNeg z) (y.natAbs / z.natAbs)=Int.fdiv y z∧zOf (zNeg z) (y.natAbs % z.natAbs)=Int.fmod y z:=by
 have h1:=Nat.div_add_mod' y.natAbs z.natAbs
 have h2:=Nat.mod_lt y.natAbs (show 0<z.natAbs by omega)
 rw [h,show (zNeg z != zNeg z)=false by simp,Qa5]
 generalize y.natAbs / z.natAbs=d at *
 generalize y.natAbs % z.natAbs=m at *
 refine QcK hz ?_ ?_
 · have e1:=Qoy (zNeg z) d z
   rw [show (zNeg z != zNeg z)=false by simp,Qa5] at e1
   rw [e1,← Qe5,h1,← h,QaV]
 · by_cases h0:z<0
   · rw [QdJ h0,QdH]; omega
   · rw [QdI (by omega),Qa5]; omega
theorem QhQ {y z:Int} (hz:z≠0) (h0:y.natAbs % z.natAbs=0):zOf (zNeg y != zNeg z) (y.natAbs / z.natAbs)=Int.fdiv y z∧zOf (zNeg z) (y.natAbs % z.natAbs)=Int.fmod y z:=by
 have h1:=Nat.div_add_mod' y.natAbs z.natAbs
 rw [h0] at h1 ⊢
 generalize y.natAbs / z.natAbs=d at *
 refine QcK hz ?_ ?_
 · rw [QlK,Int.add_zero,Qoy,show d * z.natAbs=y.natAbs by omega,QaV]
 · rw [QlK]; omega
theorem QjZ {y z:Int} (hz:z≠0) (h:zNeg y≠zNeg z) (h0:0<y.natAbs % z.natAbs):zOf (zNeg y != zNeg z) (y.natAbs / z.natAbs) + -1=Int.fdiv y z∧z + -zOf (zNeg z) (y.natAbs % z.natAbs)=Int.fmod y z:=by
 have h1:=Nat.div_add_mod' y.natAbs z.natAbs
 have h2:=Nat.mod_lt y.natAbs (show 0<z.natAbs by omega)
 generalize y.natAbs / z.natAbs=d at *
 generalize y.natAbs % z.natAbs=m at *
 refine QcK hz ?_ ?_
 · have e1:=Qoy (zNeg y) d z
   have e2:y=zOf (zNeg y) (d * z.natAbs)+zOf (zNeg y) m:=by rw [← Qe5,h1,QaV]
   have e3:zOf (zNeg y) m=-zOf (zNeg z) m:=by rw [Qo6 h,Qgf]
   rw [Int.add_mul,e1]
   omega
 · by_cases h0:z<0
   · rw [QdJ h0,QdH]; omega
   · rw [QdI (by omega),Qa5]; omega
theorem QrQ (y:Int) {z:Int} (hz:z≠0):(Int.fdiv y z).natAbs≤y.natAbs+1:=by
 by_cases h:zNeg y=zNeg z
 · rw [← (QmO hz h).1,Qbn]
   exact Nat.le_succ_of_le (Nat.div_le_self _ _)
 · have:=Nat.div_le_self y.natAbs z.natAbs
   by_cases h0:y.natAbs % z.natAbs=0
   · rw [← (QhQ hz h0).1,Qbn]; omega
   · rw [← (QjZ hz h (by omega)).1]
     have:=Qbn (zNeg y != zNeg z) (y.natAbs / z.natAbs)
     omega
theorem QrM (y:Int) {z:Int} (hz:z≠0):(Int.fmod y z).natAbs<z.natAbs:=by
 have:=QjY y hz; omega
end Go.Proofs.YtmbmbcamecfnkaaGreatDoor
