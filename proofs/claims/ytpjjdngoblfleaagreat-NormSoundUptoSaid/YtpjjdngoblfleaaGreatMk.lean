/- How much there is, as far as it is asked: words. -/
import Derived.Test.YtpjjdngoblfleaaGreatMj
namespace Go.Proofs.YtpjjdngoblfleaaGreat
open Go.RowKit
set_option linter.unusedVariables false
set_option maxRecDepth 100000
mutual
def capT:Int→Tw→Int
 | m,.mk _ n _ d l=>1+(n.size / 8:Nat)+(d.length:Nat)+capTL (m - 1) l
def capTL:Int→List Tw→Int
 | _,[]=>0
 | m,t::l=>if 0≤m then capT m t+capTL (m - capT m t) l else 0
end
theorem capT_eq (m:Int) (t:Tw):capT m t=1+(t.name.size / 8:Nat)+(t.digits.length:Nat)+capTL (m - 1) t.kids:=by cases t; rw [capT]; rfl
mutual
theorem capT_rng:∀ (t:Tw) (m:Int),1≤capT m t∧capT m t≤cntT t
 | .mk k n b d l,m=>by
  have:=capTL_rng l (m - 1)
  rw [capT,cntT]; omega
theorem capTL_rng:∀ (l:List Tw) (m:Int),0≤capTL m l∧capTL m l≤cntTL l
 | [],m=>by simp [capTL,cntTL]
 | t::l,m=>by
  have h1:=capT_rng t m
  have h2:=capTL_rng l (m - capT m t)
  rw [capTL,cntTL]
  split <;> omega
end
mutual
theorem capT_exact:∀ (t:Tw) (m:Int),capT m t≤m→capT m t=cntT t
 | .mk k n b d l,m,h=>by
  rw [capT] at h ⊢
  rw [capTL_exact l (m - 1) (by omega),cntT]; omega
theorem capTL_exact:∀ (l:List Tw) (m:Int),capTL m l≤m→capTL m l=cntTL l
 | [],m,_=>by simp [capTL,cntTL]
 | t::l,m,h=>by
  have h1:=capT_rng t m
  have h2:=capTL_rng l (m - capT m t)
  rw [capTL] at h ⊢
  by_cases h0:0≤m
  · rw [if_pos h0] at h ⊢
    rw [capTL_exact l _ (by omega),capT_exact t m (by omega),cntTL]; omega
  · rw [if_neg h0] at h; omega
end
def cntK:List Cn→Nat
 | []=>0
 | c::l=>1+c.name.size / 8+c.fields.length+cntK l
def capK:Int→List Cn→Int
 | _,[]=>0
 | m,c::l=>if 0≤m then ((1+c.name.size / 8+c.fields.length:Nat):Int)+capK (m - ((1+c.name.size / 8+c.fields.length:Nat):Int)) l else 0
theorem capK_rng:∀ (l:List Cn) (m:Int),0≤capK m l∧capK m l≤cntK l
 | [],m=>by simp [capK,cntK]
 | c::l,m=>by
  have h2:=capK_rng l (m - ((1+c.name.size / 8+c.fields.length:Nat):Int))
  rw [capK,cntK]
  split <;> omega
theorem capK_exact:∀ (l:List Cn) (m:Int),capK m l≤m→capK m l=cntK l
 | [],m,_=>by simp [capK,cntK]
 | c::l,m,h=>by
  have h2:=capK_rng l (m - ((1+c.name.size / 8+c.fields.length:Nat):Int))
  rw [capK] at h ⊢
  by_cases h0:0≤m
  · rw [if_pos h0] at h ⊢
    rw [capK_exact l _ (by omega),cntK]; omega
  · rw [if_neg h0] at h; omega
def cntD:List Dat→Nat
 | []=>0
 | d::l=>1+d.name.size / 8+cntK d.cons+cntD l
def capD1 (m:Int) (d:Dat):Int:=((1+d.name.size / 8:Nat):Int)+capK (m - ((1+d.name.size / 8:Nat):Int)) d.cons
def capD:Int→List Dat→Int
 | _,[]=>0
 | m,d::l=>if 0≤m then capD1 m d+capD (m - capD1 m d) l else 0
theorem capD1_rng (m:Int) (d:Dat):1≤capD1 m d∧capD1 m d≤((1+d.name.size / 8+cntK d.cons:Nat):Int):=by
 have h1:=capK_rng d.cons (m - ((1+d.name.size / 8:Nat):Int))
 unfold capD1
 omega
theorem capD_rng:∀ (l:List Dat) (m:Int),0≤capD m l∧capD m l≤cntD l
 | [],m=>by simp [capD,cntD]
 | d::l,m=>by
  have h1:=capD1_rng m d
  have h2:=capD_rng l (m - capD1 m d)
  rw [capD,cntD]
  split <;> omega
theorem capD_exact:∀ (l:List Dat) (m:Int),capD m l≤m→capD m l=cntD l
 | [],m,_=>by simp [capD,cntD]
 | d::l,m,h=>by
  have h1:=capD1_rng m d
  have h2:=capD_rng l (m - capD1 m d)
  rw [capD] at h ⊢
  by_cases h0:0≤m
  · rw [if_pos h0] at h ⊢
    have h3:=capK_exact d.cons (m - ((1+d.name.size / 8:Nat):Int)) (by unfold capD1 at h h2; omega)
    have h4:capD1 m d=((1+d.name.size / 8+cntK d.cons:Nat):Int):=by unfold capD1; omega
    rw [capD_exact l _ (by omega),h4,cntD]; omega
  · rw [if_neg h0] at h; omega
theorem capTL_at:∀ (l:List Tw) (i:Nat) (m n:Int),capTL m l=n+capTL (m - n) (l.drop i)→i<l.length→n≤m→capTL m l=(n+capT (m - n) (l.getD i Sh.tm.nil))+capTL (m - (n+capT (m - n) (l.getD i Sh.tm.nil))) (l.drop (i+1)):=by
 intro l i m n h hi hn
 rw [h]
 have e:l.drop i=l.getD i Sh.tm.nil::l.drop (i+1):=by
  rw [List.getD_eq_getElem?_getD,List.getElem?_eq_getElem hi,Option.getD_some,List.drop_eq_getElem_cons hi]
 rw [e,capTL,if_pos (by omega),Int.add_assoc,show m - n - capT (m - n) (l.getD i Sh.tm.nil)=m - (n+capT (m - n) (l.getD i Sh.tm.nil)) by omega]
theorem capTL_stop {l:List Tw} {i:Nat} {m n:Int} (h:capTL m l=n+capTL (m - n) (l.drop i)) (hi:¬ i<l.length∨¬ n≤m):capTL m l=n:=by
 rw [h]
 rcases hi with hi | hi
 · rw [List.drop_eq_nil_of_le (by omega),capTL]; omega
 · cases hd:l.drop i with
   | nil=>rw [capTL]; omega
   | cons t r=>rw [capTL,if_neg (by omega)]; omega
theorem capK_at:∀ (l:List Cn) (i:Nat) (m n:Int) (c:Int),c=n+capK (m - n) (l.drop i)→i<l.length→n≤m→c=(n+((1+(Cn.name (l.getD i Sh.con.nil)).size / 8+(Cn.fields (l.getD i Sh.con.nil)).length:Nat):Int))+capK (m - (n+((1+(Cn.name (l.getD i Sh.con.nil)).size / 8+(Cn.fields (l.getD i Sh.con.nil)).length:Nat):Int))) (l.drop (i+1)):=by
 intro l i m n c h hi hn
 rw [h]
 have e:l.drop i=l.getD i Sh.con.nil::l.drop (i+1):=by
  rw [List.getD_eq_getElem?_getD,List.getElem?_eq_getElem hi,Option.getD_some,List.drop_eq_getElem_cons hi]
 rw [e,capK,if_pos (by omega),Int.add_assoc,Int.sub_sub]
theorem capK_stop {l:List Cn} {i:Nat} {m n c:Int} (h:c=n+capK (m - n) (l.drop i)) (hi:¬ i<l.length∨¬ n≤m):c=n:=by
 rw [h]
 rcases hi with hi | hi
 · rw [List.drop_eq_nil_of_le (by omega),capK]; omega
 · cases hd:l.drop i with
   | nil=>rw [capK]; omega
   | cons t r=>rw [capK,if_neg (by omega)]; omega
theorem capD_at:∀ (l:List Dat) (i:Nat) (m n:Int),capD m l=n+capD (m - n) (l.drop i)→i<l.length→n≤m→capD m l=(n+capD1 (m - n) (l.getD i Sh.dat.nil))+capD (m - (n+capD1 (m - n) (l.getD i Sh.dat.nil))) (l.drop (i+1)):=by
 intro l i m n h hi hn
 rw [h]
 have e:l.drop i=l.getD i Sh.dat.nil::l.drop (i+1):=by
  rw [List.getD_eq_getElem?_getD,List.getElem?_eq_getElem hi,Option.getD_some,List.drop_eq_getElem_cons hi]
 rw [e,capD,if_pos (by omega),Int.add_assoc,Int.sub_sub]
theorem capD_stop {l:List Dat} {i:Nat} {m n:Int} (h:capD m l=n+capD (m - n) (l.drop i)) (hi:¬ i<l.length∨¬ n≤m):capD m l=n:=by
 rw [h]
 rcases hi with hi | hi
 · rw [List.drop_eq_nil_of_le (by omega),capD]; omega
 · cases hd:l.drop i with
   | nil=>rw [capD]; omega
   | cons t r=>rw [capD,if_neg (by omega)]; omega
theorem cntTL_app:∀ l m:List Tw,cntTL (l++m)=cntTL l+cntTL m
 | [],m=>by simp [cntTL]
 | x::l,m=>by
  have:=cntTL_app l m
  simp only [List.cons_append,cntTL,this]
  omega
theorem cntTL_take (l:List Tw) (i:Nat):cntTL (l.take i)≤cntTL l:=by
 have:=cntTL_app (l.take i) (l.drop i)
 rw [List.take_append_drop] at this
 omega
theorem cntTL_next {l:List Tw} {i:Nat} (h:i<l.length):cntTL (l.take (i+1))=cntTL (l.take i)+cntT (l.getD i Sh.tm.nil):=by
 rw [List.take_add_one,cntTL_app,List.getElem?_eq_getElem h,List.getD_eq_getElem?_getD,List.getElem?_eq_getElem h]
 simp only [Option.toList_some,Option.getD_some,cntTL]
 omega
theorem cntK_app:∀ l m:List Cn,cntK (l++m)=cntK l+cntK m
 | [],m=>by simp [cntK]
 | x::l,m=>by
  have:=cntK_app l m
  simp only [List.cons_append,cntK,this]
  omega
theorem cntK_take (l:List Cn) (i:Nat):cntK (l.take i)≤cntK l:=by
 have:=cntK_app (l.take i) (l.drop i)
 rw [List.take_append_drop] at this
 omega
theorem cntK_next {l:List Cn} {i:Nat} (h:i<l.length):cntK (l.take (i+1))=cntK (l.take i)+(1+(Cn.name (l.getD i Sh.con.nil)).size / 8+(Cn.fields (l.getD i Sh.con.nil)).length):=by
 rw [List.take_add_one,cntK_app,List.getElem?_eq_getElem h,List.getD_eq_getElem?_getD,List.getElem?_eq_getElem h]
 simp only [Option.toList_some,Option.getD_some,cntK]
 omega
theorem cntD_app:∀ l m:List Dat,cntD (l++m)=cntD l+cntD m
 | [],m=>by simp [cntD]
 | x::l,m=>by
  have:=cntD_app l m
  simp only [List.cons_append,cntD,this]
  omega
theorem cntD_take (l:List Dat) (i:Nat):cntD (l.take i)≤cntD l:=by
 have:=cntD_app (l.take i) (l.drop i)
 rw [List.take_append_drop] at this
 omega
theorem cntD_next {l:List Dat} {i:Nat} (h:i<l.length):cntD (l.take (i+1))=cntD (l.take i)+(1+(Dat.name (l.getD i Sh.dat.nil)).size / 8+cntK (Dat.cons (l.getD i Sh.dat.nil))):=by
 rw [List.take_add_one,cntD_app,List.getElem?_eq_getElem h,List.getD_eq_getElem?_getD,List.getElem?_eq_getElem h]
 simp only [Option.toList_some,Option.getD_some,cntD]
 omega
mutual
theorem cntT_size:∀ v:Tw,v.size≤cntT v
 | .mk _ _ _ _ l=>by
  have:=cntTL_size l
  rw [Tw.size_eq,cntT]
  simp only [Tw.kids]; omega
theorem cntTL_size:∀ l:List Tw,szL l≤cntTL l
 | []=>by simp [szL]
 | v::l=>by
  have:=cntT_size v
  have:=cntTL_size l
  rw [szL,cntTL]; omega
end
theorem capD_in {l:List Dat} {i:Nat} {m n n':Int} (h:capD m l=n+capD (m - n) (l.drop i)) (hi:i<l.length) (hn:n≤m)
  (hk:(n+((1+(Dat.name (l.getD i Sh.dat.nil)).size / 8:Nat):Int))+capK (m - (n+((1+(Dat.name (l.getD i Sh.dat.nil)).size / 8:Nat):Int))) ((Dat.cons (l.getD i Sh.dat.nil)).drop 0)=n'):capD m l=n'+capD (m - n') (l.drop (i+1)):=by
 rw [capD_at l i m n h hi hn]
 have e:n+capD1 (m - n) (l.getD i Sh.dat.nil)=n':=by
  unfold capD1
  rw [List.drop_zero] at hk
  rw [← hk,Int.add_assoc,Int.sub_sub]
 rw [e]
theorem cntK_len:∀ l:List Cn,l.length≤cntK l
 | []=>Nat.le_refl _
 | t::l=>by
  have:=cntK_len l
  simp only [List.length_cons,cntK]; omega
end Go.Proofs.YtpjjdngoblfleaaGreat
