/- A range over a function that goes through a slice from its end: the pure run of it. -/
import Derived.Test.YtemhncjjiomppaaGreatDoorVc
import Derived.RangeFuncRecord
import Derived.TacticsIn
namespace Go.Proofs.YtemhncjjiomppaaGreatDoor
set_option linter.unusedVariables false
open Go.RowKit
section
variable {P : Program} {F : Fence} {n : Nat}
end
section
variable {P : Program} {Γ : Specs} {Λ : Loops} {m n0 n : Nat} {w0 : Cx} {H0 : Hp} {F : Fence}
end
section
variable {P : Program} {F : Fence} {n m : Nat} {w0 : Cx} {H0 : Hp}
structure XL (l:Nat) (r:Obj) (g:Gh) (w:World):Prop where
 at_:w.heap[l]?=some r
 ob:∀ o u,g.B o=some u→blk u≠some l
 no:∀ j,g.H l j=none
theorem XL.lt {l:Nat} {r:Obj} {g:Gh} {w:World} (h:XL l r g w):l<w.heap.size:=(Array.getElem?_eq_some_iff.1 h.at_).1
structure ItA (yl pv:Value) (i:Int) (a:Act):Prop where
 sz:a.tmps.size=19
 dfr:a.defers=[]
 t0:a.tmps.getD 0 undef=yl
 t1:a.tmps.getD 1 undef=pv
 t3:a.tmps.getD 3 undef=.int .i64 i
theorem ItA.put {yl pv v:Value} {j:Int} {a:Act} {d:Nat} (h:ItA yl pv j a) (h0:d≠0) (h1:d≠1) (h3:d≠3):ItA yl pv j (a.put (some d) v):=by
 refine ⟨by simp [Act.put,h.sz],h.dfr,?_,?_,?_⟩
 · rw [Qam,if_neg (fun hc=>h0 hc.1.symm)]; exact h.t0
 · rw [Qam,if_neg (fun hc=>h1 hc.1.symm)]; exact h.t1
 · rw [Qam,if_neg (fun hc=>h3 hc.1.symm)]; exact h.t3
end
end Go.Proofs.YtemhncjjiomppaaGreatDoor
