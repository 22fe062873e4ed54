/- Terms put for names: what becomes of sorts and of the names that stand. -/
import Derived.Test.YtemhncjjiomppaaDoorUa
import Derived.Test.YtemhncjjiomppaaDoorKf
namespace Go.Proofs.YtemhncjjiomppaaDoor
open Go.RowKit
set_option linter.unusedVariables false
set_option maxRecDepth 100000
section
variable {D : List Dat} {S : List Srt} {l : List ByteArray} {ts : List Tw}
def varN (s:ByteArray):Tw:=.mk 1 s false [] []
theorem QkP (s:ByteArray):Qak D S (varN s)=varS D S s:=by
 unfold varN
 rw [Qak]
 simp [Qar]
theorem QmL {n:ByteArray} {b:Bool} {d:List Nat} {kids:List Tw} {s:ByteArray} (h:Qak D S (.mk 1 n b d kids)=.ok s):varS D S n=.ok s:=by
 rw [Qak] at h
 split at h
 · cases h
 split at h
 · cases h
 split at h
 · cases h
 rw [if_pos rfl] at h
 exact h
mutual
theorem Qfh (hn:∀ i,i<l.length→i<ts.length→∃ x,Qak D S (varN (l.getD i Sh.str.nil))=.ok x∧Qak D S (ts.getD i Sh.tm.nil)=.ok x):∀ (t:Tw) {s:ByteArray},Qak D S t=.ok s→Qak D S (Qac l ts t)=.ok s
 | .mk k n b d kids,s,h=>by
  cases hp:putW l ts k n with
  | some u =>
   rw [QaY (t:=.mk k n b d kids) hp]
   obtain ⟨rfl,i,h1,h2,h3,rfl⟩:=Qfq hp
   obtain ⟨x,hx,hy⟩:=hn i h1 h2
   rw [QkP,h3,QmL h] at hx
   cases hx
   exact hy
  | none =>
   rw [Qbk (t:=.mk k n b d kids) hp]
   show Qak D S (.mk k n b d (Qae l ts kids))=.ok s
   rw [Qak] at h ⊢
   rw [Qcs]
   split at h
   · cases h
   rename_i c1
   rw [if_neg c1]
   split at h
   · cases h
   rename_i c2
   rw [if_neg c2]
   split at h
   · cases h
   rename_i c3
   rw [if_neg c3]
   split at h
   · rename_i c4
     rw [if_pos c4]; exact h
   rename_i c4
   rw [if_neg c4]
   split at h
   · rename_i m hm
     rw [Qef hn kids hm]; exact h
   · cases h
theorem Qef (hn:∀ i,i<l.length→i<ts.length→∃ x,Qak D S (varN (l.getD i Sh.str.nil))=.ok x∧Qak D S (ts.getD i Sh.tm.nil)=.ok x):∀ (m:List Tw) {r:List ByteArray},QaO D S m=.ok r→QaO D S (Qae l ts m)=.ok r
 | [],r,h=>h
 | t::m,r,h=>by
  rw [QaO] at h
  split at h
  · rename_i s hs
    split at h
    · rename_i q hq
      cases h
      rw [Qae,QaO,Qfh hn t hs]
      dsimp only
      rw [Qef hn m hq]
    · cases h
  · cases h
end
mutual
theorem Qee:∀ (t:Tw) {x:ByteArray},x∈Qab (Qac l ts t)→(∃ i,i<l.length∧i<ts.length∧x∈Qab (ts.getD i Sh.tm.nil))∨(x∈Qab t∧∀ i,i<l.length→i<ts.length→¬ l.getD i Sh.str.nil=x)
 | .mk k n b d kids,x,h=>by
  cases hp:putW l ts k n with
  | some u =>
   rw [QaY (t:=.mk k n b d kids) hp] at h
   obtain ⟨rfl,i,h1,h2,h3,rfl⟩:=Qfq hp
   exact .inl ⟨i,h1,h2,h⟩
  | none =>
   rw [Qbk (t:=.mk k n b d kids) hp] at h
   have h':x∈(if k=1 then [n] else [])++Qau (Qae l ts kids):=h
   rw [List.mem_append] at h'
   rcases h' with h' | h'
   · split at h'
     · rename_i hk
       obtain rfl:=List.mem_singleton.1 h'
       refine .inr ⟨?_,QoD hp hk⟩
       rw [Qab,if_pos hk]
       exact List.mem_append_left _ (List.mem_singleton.2 rfl)
     · cases h'
   · rcases QdE kids h' with c | c
     · exact .inl c
     · refine .inr ⟨?_,c.2⟩
       rw [Qab]
       exact List.mem_append_right _ c.1
theorem QdE:∀ (m:List Tw) {x:ByteArray},x∈Qau (Qae l ts m)→(∃ i,i<l.length∧i<ts.length∧x∈Qab (ts.getD i Sh.tm.nil))∨(x∈Qau m∧∀ i,i<l.length→i<ts.length→¬ l.getD i Sh.str.nil=x)
 | [],x,h=>by cases h
 | t::m,x,h=>by
  rw [Qae,Qau,List.mem_append] at h
  rcases h with h | h
  · rcases Qee t h with c | c
    · exact .inl c
    · exact .inr ⟨by rw [Qau]; exact List.mem_append_left _ c.1,c.2⟩
  · rcases QdE m h with c | c
    · exact .inl c
    · exact .inr ⟨by rw [Qau]; exact List.mem_append_right _ c.1,c.2⟩
end
mutual
theorem Qfi:∀ (t:Tw),(∀ i,i<l.length→¬ l.getD i Sh.str.nil∈Qab t)→Qac l ts t=t
 | .mk k n b d kids,h=>by
  rw [Qab] at h
  cases hp:putW l ts k n with
  | some u =>
   obtain ⟨rfl,i,h1,h2,h3,rfl⟩:=Qfq hp
   refine absurd ?_ (h i h1)
   rw [h3,if_pos rfl]
   exact List.mem_append_left _ (List.mem_singleton.2 rfl)
  | none =>
   rw [Qbk (t:=.mk k n b d kids) hp]
   show Tw.mk k n b d (Qae l ts kids)=_
   rw [Qeh kids fun i hi hc=>h i hi (List.mem_append_right _ hc)]
theorem Qeh:∀ (m:List Tw),(∀ i,i<l.length→¬ l.getD i Sh.str.nil∈Qau m)→Qae l ts m=m
 | [],h=>rfl
 | t::m,h=>by
  rw [Qau] at h
  rw [Qae,Qfi t fun i hi hc=>h i hi (List.mem_append_left _ hc),Qeh m fun i hi hc=>h i hi (List.mem_append_right _ hc)]
end
mutual
def QaC:Tw→Bool
 | .mk k n b d kids=>!(decide (k=1) && (!decide (kids.length=0) || (!decide (d.length=0) || b))) && Qbq kids
def Qbq:List Tw→Bool
 | []=>true
 | t::m=>QaC t && Qbq m
end
theorem QnP {i:Nat} (hi:i<l.length):(l.map varN).getD i Sh.tm.nil=varN (l.getD i Sh.str.nil):=by
 rw [List.getD_eq_getElem?_getD,List.getD_eq_getElem?_getD,List.getElem?_map,List.getElem?_eq_getElem hi]
 rfl
mutual
theorem QgR:∀ (t:Tw),QaC t=true→Qac l (l.map varN) t=t
 | .mk k n b d kids,h=>by
  rw [QaC,Bool.and_eq_true] at h
  cases hp:putW l (l.map varN) k n with
  | some u =>
   rw [QaY (t:=.mk k n b d kids) hp]
   obtain ⟨rfl,i,h1,h2,h3,rfl⟩:=Qfq hp
   rw [QnP h1,h3]
   obtain ⟨h4,-⟩:=h
   rw [decide_eq_true rfl,Bool.true_and] at h4
   simp only [Bool.not_eq_true',Bool.or_eq_false_iff,Bool.not_eq_false',decide_eq_true_eq] at h4
   obtain ⟨hk,hd,hb⟩:=h4
   obtain rfl:=List.length_eq_zero_iff.1 hk
   obtain rfl:=List.length_eq_zero_iff.1 hd
   subst hb
   rfl
  | none =>
   rw [Qbk (t:=.mk k n b d kids) hp]
   show Tw.mk k n b d (Qae l _ kids)=_
   rw [Qfj kids h.2]
theorem Qfj:∀ (m:List Tw),Qbq m=true→Qae l (l.map varN) m=m
 | [],h=>rfl
 | t::m,h=>by
  rw [Qbq,Bool.and_eq_true] at h
  rw [Qae,QgR t h.1,Qfj m h.2]
end
mutual
theorem Qi1:∀ (t:Tw),(Qac l (l.map varN) t).size≤t.size
 | .mk k n b d kids=>by
  cases hp:putW l (l.map varN) k n with
  | some u =>
   rw [QaY (t:=.mk k n b d kids) hp]
   obtain ⟨rfl,i,h1,h2,h3,rfl⟩:=Qfq hp
   rw [QnP h1]
   have:=(Tw.mk 1 n b d kids).size_pos
   exact this
  | none =>
   rw [QkU (t:=.mk k n b d kids) hp]
   have:=Qg5 kids
   rw [Tw.size]
   show szL (Qae l _ kids)+1≤_
   omega
theorem Qg5:∀ (m:List Tw),szL (Qae l (l.map varN) m)≤szL m
 | []=>Nat.le_refl _
 | t::m=>by
  have h1:=Qi1 t
  have h2:=Qg5 m
  rw [Qae,szL,szL]
  omega
end
end
end Go.Proofs.YtemhncjjiomppaaDoor
