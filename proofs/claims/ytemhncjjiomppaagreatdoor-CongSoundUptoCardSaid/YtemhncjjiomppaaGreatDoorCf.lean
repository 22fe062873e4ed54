/- The law CongBack: a path turned round; two paths, one behind the other; an edge. -/
import Derived.Test.YtemhncjjiomppaaGreatDoorCe
import Derived.Test.YtemhncjjiomppaaGreatDoorNw
set_option linter.unusedSimpArgs false
namespace Go.Proofs.YtemhncjjiomppaaGreatDoor
open Go.RowKit
set_option linter.unusedVariables false
set_option maxRecDepth 100000
theorem QqA {L M:List Tw} (h:great8 L M=false):QaF L≤2000∧QaF M≤2000:=by
 simp only [great8,Bool.or_eq_false_iff,decide_eq_false_iff_not] at h
 have h1:=QcD L 2000 (by omega)
 have h2:=QcD M 2000 (by omega)
 omega
mutual
theorem QjN:∀ t:Tw,nodW t≤11 * cntT t
 | .mk k n b d l=>by
  have:=Qhi l
  rw [nodW,cntT]
  omega
theorem Qhi:∀ l:List Tw,Qc4 l≤11 * QaF l
 | []=>by rw [Qc4]; omega
 | t::l=>by
  have h1:=QjN t
  have h2:=Qhi l
  rw [Qc4,QaF]
  omega
end
theorem Qf8 {t:Tw} (k:QaZ t) (h:cntT t≤5000):QaH t:=by
 have f:=Qeo t (by omega)
 have h1:=QjN t
 have h2:=Qkk t
 refine ⟨k,f,Nat.le_trans (Qfq t k f) (Nat.le_trans (Nat.mul_le_mul (Nat.le_trans h2 h) (Nat.add_le_add_right (Nat.le_trans h1 (Nat.mul_le_mul_left 11 h)) 60)) (by decide))⟩
theorem Qdy:∀ {l:List Tw} {t:Tw},t∈l→cntT t≤QaF l
 | u::l,t,h=>by
  rw [QaF]
  rcases List.mem_cons.1 h with rfl | h
  · omega
  · have:=Qdy h; omega
theorem Qjy {L:List Tw} {a b:Tw} {l:List Int} (h:errE (Qbd L a b l)=0):Qbd L a b l=.ok (eqT a b):=by
 cases hh:Qbd L a b l with
 | error e =>
  rw [hh] at h
  rw [Qt5 hh] at h
  cases h
 | ok x=>rw [(Qpj hh).1]
end Go.Proofs.YtemhncjjiomppaaGreatDoor
