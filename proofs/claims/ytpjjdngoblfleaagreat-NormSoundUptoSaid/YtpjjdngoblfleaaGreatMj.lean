/- The layer model: how great what a term comes to may be. -/
import Derived.Test.YtpjjdngoblfleaaGreatMh
namespace Go.Proofs.YtpjjdngoblfleaaGreat
open Go.RowKit
set_option linter.unusedVariables false
set_option maxRecDepth 100000
mutual
def cntT:Tw→Nat
 | .mk _ n _ d l=>1+n.size / 8+d.length+cntTL l
def cntTL:List Tw→Nat
 | []=>0
 | t::l=>cntT t+cntTL l
end
mutual
def cntV:Vw→Nat
 | .mk _ _ d _ n l=>1+d.length+n.size / 8+cntVL l
def cntVL:List Vw→Nat
 | []=>0
 | t::l=>cntV t+cntVL l
end
mutual
def bigT:Tw→Nat
 | .mk k _ _ d l=>(if k=2∨k=5∨k=6∨k=7 then 1+d.length else 0)+bigM l
def bigM:List Tw→Nat
 | []=>0
 | t::l=>max (bigT t) (bigM l)
end
mutual
theorem bigT_cnt:∀ t:Tw,bigT t≤cntT t
 | .mk k n b d l=>by
  have:=bigM_cnt l
  unfold bigT cntT
  split <;> omega
theorem bigM_cnt:∀ l:List Tw,bigM l≤cntTL l
 | []=>Nat.le_refl _
 | t::l=>by
  have:=bigT_cnt t
  have:=bigM_cnt l
  unfold bigM cntTL
  omega
end
theorem bigT_eq (t:Tw):bigT t=(if t.kind=2∨t.kind=5∨t.kind=6∨t.kind=7 then 1+t.digits.length else 0)+bigM t.kids:=by cases t; rfl
theorem bigT_num {t:Tw} (h:t.kind=2∨t.kind=5∨t.kind=6∨t.kind=7):bigT t=1+t.digits.length+bigM t.kids:=by rw [bigT_eq,if_pos h]
theorem bigM_kids (t:Tw):bigM t.kids≤bigT t:=by rw [bigT_eq]; omega
theorem bigM_at:∀ {l:List Tw} {i:Nat} (d:Tw),i<l.length→bigT (l.getD i d)≤bigM l
 | t::l,0,d,_=>by simp only [List.getD_cons_zero,bigM]; omega
 | t::l,i+1,d,h=>by
  have:=bigM_at (l:=l) (i:=i) d (by simpa using h)
  simp only [List.getD_cons_succ,bigM]; omega
theorem bigM_take:∀ (l:List Tw) (i:Nat),bigM (l.take i)≤bigM l
 | [],i=>by simp
 | t::l,0=>by simp [bigM]
 | t::l,i+1=>by
  have:=bigM_take l i
  simp only [List.take_succ_cons,bigM]; omega
theorem cntT_eq (t:Tw):cntT t=1+t.name.size / 8+t.digits.length+cntTL t.kids:=by cases t; rfl
theorem cntV_eq (t:Vw):cntV t=1+t.digits.length+t.name.size / 8+cntVL t.fields:=by cases t; rfl
theorem cntT_pos (t:Tw):1≤cntT t:=by rw [cntT_eq]; omega
theorem cntV_pos (t:Vw):1≤cntV t:=by rw [cntV_eq]; omega
theorem cntTL_len:∀ l:List Tw,l.length≤cntTL l
 | []=>Nat.le_refl _
 | t::l=>by
  have:=cntTL_len l
  have:=cntT_pos t
  simp only [List.length_cons,cntTL]; omega
theorem cntVL_len:∀ l:List Vw,l.length≤cntVL l
 | []=>Nat.le_refl _
 | t::l=>by
  have:=cntVL_len l
  have:=cntV_pos t
  simp only [List.length_cons,cntVL]; omega
theorem cntTL_at:∀ {l:List Tw} {i:Nat} (d:Tw),i<l.length→cntT (l.getD i d)≤cntTL l
 | t::l,0,d,_=>by simp [cntTL]
 | t::l,i+1,d,h=>by
  have:=cntTL_at (l:=l) (i:=i) d (by simpa using h)
  simp only [List.getD_cons_succ,cntTL]; omega
mutual
theorem cntV_fit:∀ (v:Vw) (m:Nat),cntV v≤m→m≤100000000→v.fitV m
 | .mk k b d t n l,m,h,hm=>by
  unfold cntV at h
  have h1:=cntVL_len l
  exact ⟨by omega,by omega,by omega,cntVL_fit l m (by omega) hm⟩
theorem cntVL_fit:∀ (l:List Vw) (m:Nat),cntVL l≤m→m≤100000000→fitVL m l
 | [],_,_,_=>trivial
 | v::l,m,h,hm=>by
  unfold cntVL at h
  exact ⟨cntV_fit v m (by omega) hm,cntVL_fit l m (by omega) hm⟩
end
mutual
theorem Vw.fitV.mono:∀ {v:Vw} {m m':Nat},v.fitV m→m≤m'→v.fitV m'
 | .mk k b d t n l,m,m',h,hm=>⟨h.1,Nat.le_trans h.2.1 hm,h.2.2.1,fitVL_mono h.2.2.2 hm⟩
theorem fitVL_mono:∀ {l:List Vw} {m m':Nat},fitVL m l→m≤m'→fitVL m' l
 | [],_,_,_,_=>trivial
 | v::l,m,m',h,hm=>⟨h.1.mono hm,fitVL_mono h.2 hm⟩
end
theorem fitVL_of:∀ {l:List Vw} {m:Nat},(∀ v∈l,v.fitV m)→fitVL m l
 | [],_,_=>trivial
 | v::l,m,h=>⟨h v (by simp),fitVL_of fun u hu=>h u (by simp [hu])⟩
theorem fitVL_mem:∀ {l:List Vw} {m:Nat},fitVL m l→∀ v∈l,v.fitV m
 | v::l,m,h,u,hu=>by
  rcases List.mem_cons.1 hu with rfl | hu
  · exact h.1
  · exact fitVL_mem h.2 u hu
mutual
def okW (D:List Dat):Vw→Prop
 | .mk k b d t n l=>okV D (.mk k b d t n l)∧(rightZ b d=true∧noneB (.mk k b d t n l)=true)∧okWL D l
def okWL (D:List Dat):List Vw→Prop
 | []=>True
 | v::l=>okW D v∧okWL D l
end
theorem okW_eq {D:List Dat} {v:Vw}:okW D v↔okV D v∧(rightZ v.neg v.digits=true∧noneB v=true)∧okWL D v.fields:=by cases v; exact Iff.rfl
theorem okWL_mem {D:List Dat}:∀ {l:List Vw},okWL D l→∀ v∈l,okW D v
 | v::l,h,u,hu=>by
  rcases List.mem_cons.1 hu with rfl | hu
  · exact h.1
  · exact okWL_mem h.2 u hu
theorem noneB_right {v:Vw} (h:noneB v=true) (hk:¬ v.kind=1):rightZ v.neg v.digits=true:=by
 cases v with
 | mk k b d t n l =>
  simp only [noneB,Vw.kind,Vw.neg,Vw.digits,Bool.and_eq_true,Bool.or_eq_true,decide_eq_true_eq] at h hk
  obtain ⟨⟨h1,-⟩,-⟩:=h
  rcases h1 with h1 | ⟨h1,h2⟩
  · exact absurd (of_decide_eq_true h1) hk
  · have:d=[]:=List.eq_nil_of_length_eq_zero (of_decide_eq_true h1)
    subst this
    have hb:b=false:=by simpa using h2
    subst hb
    rfl
theorem noneB_flds {v:Vw} (h:noneB v=true) (hk:¬ v.kind=3):v.fields=[]:=by
 cases v with
 | mk k b d t n l =>
  simp only [noneB,Vw.kind,Vw.fields,Bool.and_eq_true,Bool.or_eq_true,decide_eq_true_eq] at h hk ⊢
  obtain ⟨-,h1⟩:=h
  rcases h1 with h1 | ⟨-,h2⟩
  · exact absurd (of_decide_eq_true h1) hk
  · exact List.eq_nil_of_length_eq_zero (of_decide_eq_true h2)
mutual
theorem ofV_ok {D:List Dat}:∀ {v:Vw} {s:ByteArray},ofV D s v=true→okW D v
 | .mk k b d t n l,s,h=>by
  rw [ofV,Bool.and_eq_true] at h
  obtain ⟨h0,h⟩:=h
  by_cases h1:k=1
  · rw [if_pos h1,Bool.and_eq_true] at h
    have hf:=noneB_flds h0 (by show ¬ k=3; omega)
    refine ⟨fun h3=>absurd h3 (by show ¬ k=3; omega),⟨h.2,h0⟩,?_⟩
    have hf:l=[]:=hf
    rw [hf]; trivial
  · rw [if_neg h1] at h
    have hr:=noneB_right h0 h1
    by_cases h2:k=2
    · have hf:l=[]:=noneB_flds h0 (by show ¬ k=3; omega)
      refine ⟨fun h3=>absurd h3 (by show ¬ k=3; omega),⟨hr,h0⟩,?_⟩
      rw [hf]; trivial
    · rw [if_neg h2] at h
      by_cases h3:k=3
      · rw [if_pos h3,Bool.and_eq_true] at h
        obtain ⟨-,h⟩:=h
        by_cases h4:n=⟨#[]⟩
        · rw [if_pos h4] at h
          have hf:l=[]:=List.eq_nil_of_length_eq_zero (by simpa using h)
          refine ⟨fun _ h5=>absurd h4 h5,⟨hr,h0⟩,?_⟩
          rw [hf]; trivial
        · rw [if_neg h4] at h
          split at h
          · cases h
          · rename_i p hp
            simp only [Bool.and_eq_true,decide_eq_true_eq] at h
            exact ⟨fun _ _=>⟨p,hp,h.2.1.symm⟩,⟨hr,h0⟩,ofVL_ok h.2.2 (Nat.le_of_eq h.2.1.symm)⟩
      · rw [if_neg h3] at h; cases h
theorem ofVL_ok {D:List Dat}:∀ {l:List Vw} {m:List ByteArray},ofVL D m l=true→l.length≤m.length→okWL D l
 | [],_,_,_=>trivial
 | v::l,[],_,h=>by simp at h
 | v::l,s::m,h,hl=>by
  rw [ofVL,Bool.and_eq_true] at h
  exact ⟨ofV_ok h.1,ofVL_ok h.2 (by simpa using hl)⟩
end
theorem anyB_get {α:Type} {l:List α} {f:α→Bool} (h:0≤anyB l f):∃ x∈l,f x=true:=by
 unfold anyB at h
 cases hc:l.findIdx? f with
 | none=>rw [hc] at h; exact absurd h (by decide)
 | some i =>
  rw [List.findIdx?_eq_some_iff_getElem] at hc
  obtain ⟨hi,h1,-⟩:=hc
  exact ⟨_,List.getElem_mem hi,h1⟩
theorem someV_ok {D:List Dat} {v:Vw} (h:someV D v=true):okW D v:=by
 simp only [someV,Bool.or_eq_true,decide_eq_true_eq] at h
 rcases h with h | h | h
 · exact ofV_ok h
 · exact ofV_ok h
 · obtain ⟨d,-,h⟩:=anyB_get h
   exact ofV_ok h
theorem right_zb {b:Bool} {d:List Nat} (h:rightZ b d=true):ZB (zV b d) d.length:=by
 unfold rightZ at h
 rw [Bool.and_eq_true] at h
 have:=val_lt 1000000000 d ((rgtB_iff d).1 h.1).1
 unfold ZB zV zOf
 cases b <;> simpa using this
theorem numV_ok (D:List Dat) (z:Int):okW D (numV z):=⟨fun h=>absurd h (by show ¬ (1:Int)=3; decide),⟨rightZ_of z,rfl⟩,trivial⟩
theorem numV_fit {z:Int} {k m:Nat} (h:ZB z k) (hk:k≤m):(numV z).fitV m:=⟨Nat.zero_le _,Nat.le_trans h.len hk,Nat.zero_le _,trivial⟩
theorem boolV_ok (D:List Dat) (b:Bool):okW D (boolV b):=⟨fun h=>absurd h (by show ¬ (2:Int)=3; decide),⟨rfl,rfl⟩,trivial⟩
theorem boolV_fit (b:Bool) (m:Nat):(boolV b).fitV m:=⟨Nat.zero_le _,Nat.zero_le _,Nat.zero_le _,trivial⟩
theorem zero_cases (s:ByteArray):(if (zeroW s).kind=0 then nilV else zeroW s)=boolV false∨(if (zeroW s).kind=0 then nilV else zeroW s)=numV 0∨(if (zeroW s).kind=0 then nilV else zeroW s)=nilV:=by
 have h0:digs 1000000000 0=[]:=digs_zero _
 by_cases h1:s=bBool
 · refine .inl ?_
   unfold zeroW; rw [if_pos h1]; rfl
 · by_cases h2:s=bInt
   · refine .inr (.inl ?_)
     unfold zeroW numV; rw [if_neg h1,if_pos h2]
     show Vw.mk 1 false [] false ⟨#[]⟩ []=Vw.mk 1 (zNeg 0) (digs 1000000000 0) false ⟨#[]⟩ []
     rw [h0]; rfl
   · refine .inr (.inr ?_)
     unfold zeroW; rw [if_neg h1,if_neg h2]; rfl
theorem nilV_ok (D:List Dat):okW D nilV:=⟨fun _ h=>absurd rfl h,⟨rfl,rfl⟩,trivial⟩
theorem nilV_fit (m:Nat):nilV.fitV m:=⟨Nat.zero_le _,Nat.zero_le _,Nat.zero_le _,trivial⟩
theorem zero_ok (D:List Dat) (s:ByteArray):okW D (if (zeroW s).kind=0 then nilV else zeroW s):=by
 rcases zero_cases s with h | h | h <;> rw [h]
 · exact boolV_ok D _
 · exact numV_ok D _
 · exact nilV_ok D
theorem zero_fit (s:ByteArray) (m:Nat):(if (zeroW s).kind=0 then nilV else zeroW s).fitV m:=by
 rcases zero_cases s with h | h | h <;> rw [h]
 · exact boolV_fit _ _
 · exact numV_fit (k:=0) (by unfold ZB; decide) (Nat.zero_le _)
 · exact nilV_fit m
theorem sumW_abs {b:Nat}:∀ {l:List Vw} {a:Int},(∀ v∈l,(zV v.neg v.digits).natAbs≤b)→(sumW l a).natAbs≤a.natAbs+l.length * b
 | [],a,_=>by simp [sumW]
 | v::l,a,h=>by
  have h1:=sumW_abs (l:=l) (a:=a+zV v.neg v.digits) fun u hu=>h u (by simp [hu])
  have h2:=h v (by simp)
  have h3:(a+zV v.neg v.digits).natAbs≤a.natAbs+b:=by omega
  unfold sumW
  simp only [List.length_cons,Nat.add_mul,Nat.one_mul]
  omega
theorem sumW_zb {l:List Vw} {k:Nat} (h:∀ v∈l,ZB (zV v.neg v.digits) k) (hl:l.length≤100000000):ZB (sumW l 0) (k+1):=by
 have h1:=sumW_abs (l:=l) (a:=0) (b:=1000000000 ^ k) fun v hv=>Nat.le_of_lt (h v hv)
 have h2:l.length * 1000000000 ^ k≤100000000 * 1000000000 ^ k:=Nat.mul_le_mul_right _ hl
 have h3:0<1000000000 ^ k:=Nat.pow_pos (by omega)
 unfold ZB
 rw [Nat.pow_succ]
 simp only [Int.natAbs_zero] at h1
 omega
theorem appV_fit {D:List Dat} {t:Tw} {l:List Vw} {m:Nat} (hD:fitD D) (hl:l.length=1) (h:∀ v∈l,v.fitV m∧okW D v) (hok:(appV D t l).2=true):(appV D t l).1.fitV (m+1)∧okW D (appV D t l).1:=by
 have h0:=h _ (getD_in (i:=0) (by omega))
 unfold appV at hok ⊢
 split
 · rename_i hc; rw [if_pos hc] at hok; cases hok
 rename_i hc1
 rw [if_neg hc1] at hok
 split
 · exact ⟨numV_fit (k:=1) (by unfold ZB; decide) (by omega),numV_ok D _⟩
 rename_i hc2
 rw [if_neg hc2] at hok
 split
 · refine ⟨numV_fit (k:=1) ?_ (by omega),numV_ok D _⟩
   have:=conM_small hD (Vw.name (l.getD 0 Sh.vl.nil))
   unfold ZB
   simp only [Int.natAbs_natCast,Nat.pow_one]
   omega
 rename_i hc3
 rw [if_neg hc3] at hok
 split
 · rename_i hc; rw [if_pos hc] at hok; cases hok
 rename_i hc4
 rw [if_neg hc4] at hok
 split
 · rename_i hc; rw [if_pos hc] at hok; cases hok
 rename_i hc5
 split
 · rename_i hc6
   have h4:(fieldM D t.name).2.2=true:=by simpa using hc4
   obtain ⟨-,-,h5,h6⟩:=fieldM_ok h4
   have hv3:(l.getD 0 Sh.vl.nil).kind=3:=allV_iff.1 (by simpa using hc1) _ (getD_in (by omega))
   obtain ⟨p,hp1,hp2⟩:=(okW_eq.1 h0.2).1 hv3 hc6.1
   have hp3:=hc6.2
   rw [hp1] at hp3
   have hp3:p=(fieldM D t.name).1:=hp3
   subst hp3
   have hi:(fieldM D t.name).2.1.toNat<(Vw.fields (l.getD 0 Sh.vl.nil)).length:=by omega
   refine ⟨?_,okWL_mem (okW_eq.1 h0.2).2.2 _ (getD_in hi)⟩
   exact (fitVL_mem ((Vw.fitV_eq m _).1 h0.1).2.2.2 _ (getD_in hi)).mono (by omega)
 · exact ⟨zero_fit _ _,zero_ok D _⟩
theorem varE_ok {D:List Dat} {nm:ByteArray}:∀ {B:List Bnd} {v:Vw},varE D nm B=.ok v→∃ b∈B,b.value=v∧someV D v=true:=by
 intro B
 unfold varE
 suffices h:∀ (B:List Bnd) (r:Except Int Vw) (v:Vw),B.foldl (fun r b=>if b.name=nm then (if someV D b.value=true then .ok b.value else .error 23) else r) r=.ok v→(∃ b∈B,b.value=v∧someV D v=true)∨r=.ok v by
  intro v hv
  rcases h B _ v hv with h | h
  · exact h
  · cases h
 intro B
 induction B with
 | nil=>intro r v h; exact .inr h
 | cons b B ih =>
  intro r v h
  rw [List.foldl_cons] at h
  rcases ih _ v h with ⟨c,hc,h1⟩ | h1
  · exact .inl ⟨c,by simp [hc],h1⟩
  · split at h1
    · split at h1
      · rename_i hs
        cases h1
        exact .inl ⟨b,by simp,rfl,hs⟩
      · cases h1
    · exact .inr h1
def fitB (m:Nat) (B:List Bnd):Prop:=∀ b∈B,Vw.fitV m b.value
theorem evalL_len {D:List Dat} {B:List Bnd}:∀ {l:List Tw} {m:List Vw},evalL D B l=.ok m→m.length=l.length
 | [],m,h=>by rw [evalL] at h; cases h; rfl
 | t::l,m,h=>by
  rw [evalL] at h
  split at h
  · cases h
  · split at h
    · cases h
    · rename_i hm
      cases h
      simp [evalL_len hm]
set_option maxHeartbeats 4000000 in
theorem opW_fit {D:List Dat} {t:Tw} {l:List Vw} {m:Nat} (hD:fitD D) (hc:t.kids.length≤100000000) (hlen:l.length=t.kids.length) (hmany:0≤(manyM t.kind).1→(t.kids.length:Int)=(manyM t.kind).1)
  (h:∀ v∈l,v.fitV (m+bigM t.kids)∧okW D v) (hok:(opW D t l).2=true):(opW D t l).1.fitV (m+bigT t)∧okW D (opW D t l).1:=by
 have hcnt:=bigT_num (t:=t)
 have hzb:∀ v∈l,ZB (zV v.neg v.digits) (m+bigM t.kids):=fun v hv=>(right_zb (okW_eq.1 (h v hv).2).2.1.1).mono ((Vw.fitV_eq _ v).1 (h v hv).1).2.1
 unfold opW at hok ⊢
 split
 · rename_i hk; rw [if_pos hk] at hok
   have:=hcnt (by omega)
   exact ⟨numV_fit (right_zb hok) (by omega),numV_ok D _⟩
 rename_i hk; rw [if_neg hk] at hok
 split
 · exact ⟨boolV_fit _ _,boolV_ok D _⟩
 rename_i hk; rw [if_neg hk] at hok
 split
 · exact ⟨boolV_fit _ _,boolV_ok D _⟩
 rename_i hk; rw [if_neg hk] at hok
 split
 · rename_i hk
   have:=hcnt (by omega)
   exact ⟨numV_fit (sumW_zb hzb (by omega)) (by omega),numV_ok D _⟩
 rename_i hk; rw [if_neg hk] at hok
 split
 · rename_i hk; rw [if_pos hk,Bool.and_eq_true] at hok
   refine ⟨?_,numV_ok D _⟩
   have:=hcnt (by omega)
   have h1:=hmany (by rw [hk]; decide)
   have h1:t.kids.length=1:=by
    rw [hk] at h1
    have:(manyM 6).1=1:=by decide
    rw [this] at h1; omega
   match l,hlen with
   | [v],_ =>
    refine numV_fit (k:=(m+bigM t.kids)+t.digits.length) ?_ (by omega)
    refine ZB.mul ?_ (right_zb hok.2)
    have:=hzb v (by simp)
    show ZB (1 * zV v.neg v.digits) _
    rwa [Int.one_mul]
   | [],hl=>simp at hl; omega
   | _::_::_,hl=>simp at hl; omega
 rename_i hk; rw [if_neg hk] at hok
 split
 · rename_i hk; rw [if_pos hk] at hok
   have:=hcnt (by omega)
   have h1:=hmany (by rw [hk]; decide)
   have h1:t.kids.length=1:=by
    rw [hk] at h1
    have:(manyM 7).1=1:=by decide
    rw [this] at h1; omega
   have:=appV_fit hD (by omega) h hok
   exact ⟨this.1.mono (by omega),this.2⟩
 split
 · exact ⟨boolV_fit _ _,boolV_ok D _⟩
 split
 · exact ⟨boolV_fit _ _,boolV_ok D _⟩
 split
 · exact ⟨boolV_fit _ _,boolV_ok D _⟩
 split
 · exact ⟨boolV_fit _ _,boolV_ok D _⟩
 split
 · exact ⟨boolV_fit _ _,boolV_ok D _⟩
 · exact ⟨boolV_fit _ _,boolV_ok D _⟩
mutual
theorem evalT_fit {D:List Dat} {B:List Bnd} {m:Nat} (hB:fitB m B) (hD:fitD D):∀ {t:Tw} {v:Vw},t.fitT→evalT D B t=.ok v→v.fitV (m+bigT t)∧okW D v
 | .mk k nm neg dg kids,v,hc,h=>by
  rw [evalT] at h
  split at h
  · obtain ⟨b,hb,rfl,hs⟩:=varE_ok h
    exact ⟨(hB b hb).mono (Nat.le_add_right _ _),someV_ok hs⟩
  · split at h
    · cases h
    · split at h
      · cases h
      · rename_i h1
        split at h
        · cases h
        · rename_i l hl
          split at h
          · rename_i hok
            cases h
            refine opW_fit hD hc.2.2.1 (evalL_len hl) ?_ (evalL_fit hB hD hc.2.2.2 hl) hok
            intro h0
            exact Classical.byContradiction fun h2=>h1 ⟨h0,h2⟩
          · cases h
theorem evalL_fit {D:List Dat} {B:List Bnd} {m:Nat} (hB:fitB m B) (hD:fitD D):∀ {l:List Tw} {vs:List Vw},fitTL l→evalL D B l=.ok vs→∀ v∈vs,v.fitV (m+bigM l)∧okW D v
 | [],vs,_,h,v,hv=>by rw [evalL] at h; cases h; cases hv
 | t::l,vs,hc,h,v,hv=>by
  rw [evalL] at h
  split at h
  · cases h
  · rename_i u hu
    split at h
    · cases h
    · rename_i us hus
      cases h
      unfold bigM
      rcases List.mem_cons.1 hv with rfl | hv
      · have:=evalT_fit hB hD hc.1 hu
        exact ⟨this.1.mono (by omega),this.2⟩
      · have:=evalL_fit hB hD hc.2 hus v hv
        exact ⟨this.1.mono (by omega),this.2⟩
end
theorem Tw.fitT.nm {t:Tw} (h:t.fitT):t.name.size≤4611686018427387904:=((Tw.fitT_eq t).1 h).1
theorem fitTL_take:∀ {l:List Tw} (i:Nat),fitTL l→fitTL (l.take i)
 | [],i,_=>by rw [List.take_nil]; trivial
 | t::l,0,_=>trivial
 | t::l,i+1,h=>⟨h.1,fitTL_take i h.2⟩
end Go.Proofs.YtpjjdngoblfleaaGreat
