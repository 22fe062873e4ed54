/- Terms put for names: what becomes of sorts and of the names that stand. -/
import Derived.Test.YtijfaigpilfpaaaGreatDoorUa
import Derived.Test.YtijfaigpilfpaaaGreatDoorTe
namespace Go.Proofs.YtijfaigpilfpaaaGreatDoor
open Go.RowKit
set_option linter.unusedVariables false
set_option maxRecDepth 100000
section
variable {D : List Dat} {S : List Srt} {l : List ByteArray} {ts : List Tw}
def varN (s:ByteArray):Tw:=.mk 1 s false [] []
mutual
def Qaz:Tw→Bool
 | .mk k n b d kids=>!(decide (k=1) && (!decide (kids.length=0) || (!decide (d.length=0) || b))) && QbU kids
def QbU:List Tw→Bool
 | []=>true
 | t::m=>Qaz t && QbU m
end
theorem own_at {i:Nat} (hi:i<l.length):(l.map varN).getD i Sh.tm.nil=varN (l.getD i Sh.str.nil):=by
 rw [List.getD_eq_getElem?_getD,List.getD_eq_getElem?_getD,List.getElem?_map,List.getElem?_eq_getElem hi]
 rfl
mutual
theorem Qih:∀ (t:Tw),Qaz t=true→Qam l (l.map varN) t=t
 | .mk k n b d kids,h=>by
  rw [Qaz,Bool.and_eq_true] at h
  cases hp:putW l (l.map varN) k n with
  | some u =>
   rw [Qc0 (t:=.mk k n b d kids) hp]
   obtain ⟨rfl,i,h1,h2,h3,rfl⟩:=QrE hp
   rw [own_at h1,h3]
   obtain ⟨h4,-⟩:=h
   rw [decide_eq_true rfl,Bool.true_and] at h4
   simp only [Bool.not_eq_true',Bool.or_eq_false_iff,Bool.not_eq_false',decide_eq_true_eq] at h4
   obtain ⟨hk,hd,hb⟩:=h4
   obtain rfl:=List.length_eq_zero_iff.1 hk
   obtain rfl:=List.length_eq_zero_iff.1 hd
   subst hb
   rfl
  | none =>
   rw [QdA (t:=.mk k n b d kids) hp]
   show Tw.mk k n b d (Qax l _ kids)=_
   rw [Qgl kids h.2]
theorem Qgl:∀ (m:List Tw),QbU m=true→Qax l (l.map varN) m=m
 | [],h=>rfl
 | t::m,h=>by
  rw [QbU,Bool.and_eq_true] at h
  rw [Qax,Qih t h.1,Qgl m h.2]
end
end
end Go.Proofs.YtijfaigpilfpaaaGreatDoor
