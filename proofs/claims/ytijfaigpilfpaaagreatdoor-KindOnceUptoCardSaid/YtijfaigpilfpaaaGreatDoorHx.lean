/- What With makes of a refinement: no more than there is. -/
import Derived.Test.YtijfaigpilfpaaaGreatDoorHz
import Derived.Test.YtijfaigpilfpaaaGreatDoorRowY
namespace Go.Proofs.YtijfaigpilfpaaaGreatDoor
open Go.RowKit
set_option linter.unusedVariables false
set_option maxRecDepth 100000
mutual
theorem QhK:∀ (t:Tw),Qat (conj t)≤cntT t
 | .mk k n b d l=>by
  rw [conj]
  split
  · rw [Qat]; exact Nat.zero_le _
  · split
    · have:=Qi2 l
      rw [cntT]; omega
    · rw [Qat,Qat]; exact Nat.le_refl _
theorem Qi2:∀ (l:List Tw),Qat (Qa6 l)≤Qat l
 | []=>by rw [Qa6]; exact Nat.le_refl _
 | t::l=>by
  have h1:=QhK t
  have h2:=Qi2 l
  rw [Qa6,QcU,Qat]; omega
end
theorem Qh4:∀ (m:List Tw) (ks:List (List UInt8)),Qat (addK ks m)≤Qat m
 | [],ks=>by rw [addK]; exact Nat.le_refl _
 | c::m,ks=>by
  rw [addK]
  split
  · have:=Qh4 m ks
    rw [Qat]; omega
  · have:=Qh4 m (keyB c::ks)
    rw [Qat,Qat]; omega
theorem Qnt (l:List Tw):cntT (Qaw l)≤1+Qat l:=by
 match l with
 | [] =>
  rw [Qaw,cntT,Qat]
  decide
 | [x]=>rw [Qaw,Qat,Qat]; omega
 | x::y::l =>
  rw [Qaw,cntT]
  show 1+0+0+Qat (x::y::l)≤_
  omega
theorem QkG (t:Yw) (m:Tw):cntT (QaB t m).ref≤1+cntT t.ref+cntT m:=by
 rcases Qb9 t m with h | ⟨hb,h⟩
 · rw [h]; omega
 · rw [h]
   have h1:=Qnt (allK (conj t.ref) (conj m))
   have h2:=QhK t.ref
   have h3:=QhK m
   have h4:=Qh4 (conj m) ((conj t.ref).map keyB)
   rw [allK,QcU] at h1
   show cntT (Qaw (allK (conj t.ref) (conj m)))≤_
   rw [allK]
   omega
theorem Qei:∀ {l:List Tw},QdI l↔∀ x∈l,QaQ x
 | []=>⟨(fun _ x hx=>by cases hx),fun _=>trivial⟩
 | t::l=>by
  constructor
  · rintro ⟨h1,h2⟩ x hx
    rcases List.mem_cons.1 hx with rfl | hx
    · exact h1
    · exact Qei.1 h2 x hx
  · intro h
    exact ⟨h t (List.mem_cons_self ..),Qei.2 fun x hx=>h x (List.mem_cons_of_mem _ hx)⟩
mutual
theorem QfW:∀ (t:Tw),QaQ t→∀ x∈conj t,QaQ x
 | .mk k n b d l,h,x,hx=>by
  rw [conj] at hx
  split at hx
  · cases hx
  · split at hx
    · exact QgE l h.2 x hx
    · cases List.mem_singleton.1 hx; exact h
theorem QgE:∀ (l:List Tw),QdI l→∀ x∈Qa6 l,QaQ x
 | t::l,h,x,hx=>by
  rw [Qa6,List.mem_append] at hx
  rcases hx with hx | hx
  · exact QfW t h.1 x hx
  · exact QgE l h.2 x hx
end
theorem Qmq {l:List Tw} (h:∀ x∈l,QaQ x):QaQ (Qaw l):=by
 match l with
 | []=>exact ⟨⟨by decide,fun x hx=>by cases hx⟩,trivial⟩
 | [x]=>exact h x (List.mem_cons_self ..)
 | x::y::l=>exact ⟨⟨by decide,fun x hx=>by cases hx⟩,Qei.2 h⟩
theorem QpU {t:Yw} {m:Tw} (hf:t.fit) (hm:QaQ m) (hc:cntT t.ref+cntT m≤3000000):(QaB t m).fit:=by
 have h0:=QkG t m
 rcases Qb9 t m with h | ⟨hb,h⟩
 · rw [h]; exact hf
 · have f2:=(Yw.fit_eq t).1 hf
   have h9:=QhC (QaB t m).ref (by omega)
   rw [h] at h9 ⊢
   refine (Yw.fit_eq _).2 ⟨⟨f2.1.1,h9,Qmq fun x hx=>?_⟩,⟨Nat.zero_le _,Nat.zero_le _⟩,trivial,trivial⟩
   rw [allK,List.mem_append] at hx
   rcases hx with hx | hx
   · exact QfW _ f2.1.2.2 x hx
   · exact QfW _ hm x (Qh3 hx)
mutual
theorem Qhv:∀ t:Tw,QaQ t→(∀ x∈[t],cntT x≤100000000000000000)→(keyB t).length≤64 * cntT t
 | .mk k n b d l,hk,hc=>by
  have h0:=hc _ (List.mem_singleton.2 rfl)
  rw [cntT] at h0
  have h1:=QdV 2 k.toNat (by have:=hk.1.1; omega)
  have h2:=QdV 18 n.size (by omega)
  have h3:=QdV 18 l.length (by have:=Qi4 l; omega)
  have h4:=QiY hk.1.2
  have h5:=QiM l hk.2 (by omega)
  have h6:(if b=true then [(45:UInt8)] else []).length≤1:=by split <;> simp
  have h7:(n.data.toList.length:Int)=n.size:=by rw [Array.length_toList]; rfl
  rw [keyB,cntT]
  simp only [List.length_append,List.length_cons]
  omega
theorem QiM:∀ l:List Tw,QdI l→Qat l≤100000000000000000→(Qdh l).length≤64 * Qat l
 | [],_,_=>by simp [Qdh]
 | t::l,hk,hc=>by
  rw [Qat] at hc
  have h1:=Qhv t hk.1 fun x hx=>by cases List.mem_singleton.1 hx; omega
  have h2:=QiM l hk.2 (by omega)
  rw [Qdh,Qat,List.length_append]
  omega
end
theorem QrJ {t:Yw} {m:Tw} (hf:t.fit) (hm:QaQ m) (hc:cntT t.ref+cntT m≤3000000):okWt t m:=by
 have f2:=(Yw.fit_eq t).1 hf
 have h1:=Qhv t.ref f2.1.2.2 fun x hx=>by cases List.mem_singleton.1 hx; omega
 have h2:=Qhv m hm fun x hx=>by cases List.mem_singleton.1 hx; omega
 have h3:=Qcf t.ref
 have h4:=Qcf m
 exact ⟨hf,⟨QhC m (by omega),hm⟩,⟨by omega,by omega⟩,by omega,by omega⟩
theorem Qqm {t:Yw} {m:Tw} (hf:t.fit) (hm:QaQ m) (hc:cntT t.ref+cntT m≤1400000):okWt t m∧okWt (QaB t m) m:=by
 have h0:=QkG t m
 exact ⟨QrJ hf hm (by omega),QrJ (QpU hf hm (by omega)) hm (by omega)⟩
theorem QsS (y:Yw):cntT y.ref≤cntY y:=by
 obtain ⟨f,s,t,p,r⟩:=y
 rw [cntY]
 show cntT t≤_
 omega
end Go.Proofs.YtijfaigpilfpaaaGreatDoor
