/- Functions that range over a slice from its end: their contracts, by pure runs. -/
import Derived.Test.YtmbmbcamecfnkaaGreatDoorVb
import Derived.Recover
import Derived.RangeFuncRecord
import Derived.TacticsIn
import Derived.RangeFuncOwn
namespace Go.Proofs.YtmbmbcamecfnkaaGreatDoor
set_option linter.unusedVariables false
open Go.RowKit
section
variable {P : Program} {F : Fence} {n : Nat}
end
section
variable {P : Program} {Γ : Specs} {Λ : Loops} {m n0 n : Nat} {w0 : Cx} {H0 : Hp} {F : Fence}
end
section
variable {P : Program} {F : Fence} {n m : Nat} {w0 : Cx} {H0 : Hp}
structure XL (l:Nat) (r:Obj) (g:Gh) (w:World):Prop where
 at_:w.heap[l]?=some r
 ob:∀ o u,g.B o=some u→blk u≠some l
 no:∀ j,g.H l j=none
theorem XL.lt {l:Nat} {r:Obj} {g:Gh} {w:World} (h:XL l r g w):l<w.heap.size:=(Array.getElem?_eq_some_iff.1 h.at_).1
structure ItA (yl pv:Value) (i:Int) (a:Act):Prop where
 sz:a.tmps.size=19
 dfr:a.defers=[]
 t0:a.tmps.getD 0 undef=yl
 t1:a.tmps.getD 1 undef=pv
 t3:a.tmps.getD 3 undef=.int .i64 i
theorem ItA.put {yl pv v:Value} {j:Int} {a:Act} {d:Nat} (h:ItA yl pv j a) (h0:d≠0) (h1:d≠1) (h3:d≠3):ItA yl pv j (a.put (some d) v):=by
 refine ⟨by simp [Act.put,h.sz],h.dfr,?_,?_,?_⟩
 · rw [QaO,if_neg (fun hc=>h0 hc.1.symm)]; exact h.t0
 · rw [QaO,if_neg (fun hc=>h1 hc.1.symm)]; exact h.t1
 · rw [QaO,if_neg (fun hc=>h3 hc.1.symm)]; exact h.t3
end
end Go.Proofs.YtmbmbcamecfnkaaGreatDoor
namespace Go.Proofs.YtmbmbcamecfnkaaGreatDoor
set_option linter.unusedVariables false
open Go.RowKit
section
variable {P : Program} {f0 : FuncId} {n : Nat} {Q : Exit → Act → World → Prop} {a : Act} {w : World}
end
structure AnnR:Type 1 where
 α:Type
 e:List (Nat × PV)
 ob:α→List PO
 n0:Nat
 I:Nat→α→Prop
abbrev Backs:=FuncId→Option (TypeId × TypeId)
section
variable {P : Program} {w0 : Cx} {H0 : Hp} {m : Nat} {s : PS} {g : Gh} {a : Act} {w : World}
end
abbrev Rngs:=Nat→Option AnnR
section
variable {P : Program} {Γ : Specs} {Δ : Specs2} {Λ : Loops} {bk : Backs} {Ω : Rngs} {m : Nat} {q : PV → PS → Prop} {E : Env} {w0 : Cx} {H0 : Hp} {f0 : FuncId}
end
def Ql0:List PO→Prop
 | []=>True
 | .cells l::t=>Qfu l∧Ql0 t
 | _::t=>Ql0 t
theorem Qb8:∀ {ob:List PO},(∀ (i:Nat) l,ob[i]?=some (.cells l)→Qfu l)→Ql0 ob
 | [],_=>trivial
 | .cells l::t,h=>⟨h 0 l rfl,Qb8 fun i l hl=>h (i+1) l (by simpa using hl)⟩
 | .own ..::t,h=>Qb8 (ob:=t) fun i l hl=>h (i+1) l (by simpa using hl)
 | .tail ..::t,h=>Qb8 (ob:=t) fun i l hl=>h (i+1) l (by simpa using hl)
 | .gone::t,h=>Qb8 (ob:=t) fun i l hl=>h (i+1) l (by simpa using hl)
 | .map ..::t,h=>Qb8 (ob:=t) fun i l hl=>h (i+1) l (by simpa using hl)
 | .bld ..::t,h=>Qb8 (ob:=t) fun i l hl=>h (i+1) l (by simpa using hl)
theorem Obs.short {K:Nat→Prop} {ob:List PO} {g:Gh} {w:World} (hO:Obs K ob g w) (hf:∀ i,i<ob.length→∃ u,g.B i=some u):Ql0 ob:=by
 refine Qb8 fun i l hl=>?_
 obtain ⟨u,hu⟩:=hf i (List.getElem?_eq_some_iff.1 hl).1
 obtain ⟨b,vs,rfl,h1,h2,h3,h4,h5⟩:=hO.hold i _ u hl hu
 exact PRs.short (vs:=vs) ⟨h2,h3⟩
end Go.Proofs.YtmbmbcamecfnkaaGreatDoor
