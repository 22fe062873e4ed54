/- Functions that range over a slice from its end: their contracts, by pure runs. -/
import Derived.Test.YtdeacbdpmdfgdaaDoorVd
import Derived.RangeFuncOwn
namespace Go.Proofs.YtdeacbdpmdfgdaaDoor
set_option linter.unusedVariables false
open Go.RowKit
section
variable {P : Program} {f0 : FuncId} {n : Nat} {Q : Exit → Act → World → Prop} {a : Act} {w : World}
end
structure AnnR:Type 1 where
 α:Type
 e:List (Nat × PV)
 ob:α→List PO
 n0:Nat
 I:Nat→α→Prop
abbrev Backs:=FuncId→Option (TypeId × TypeId)
section
variable {P : Program} {w0 : Cx} {H0 : Hp} {m : Nat} {s : PS} {g : Gh} {a : Act} {w : World}
end
abbrev Rngs:=Nat→Option AnnR
section
variable {P : Program} {Γ : Specs} {Δ : Specs2} {Λ : Loops} {bk : Backs} {Ω : Rngs} {m : Nat} {q : PV → PS → Prop} {E : Env} {w0 : Cx} {H0 : Hp} {f0 : FuncId}
end
def shortB:List PO→Prop
 | []=>True
 | .cells l::t=>shortA l∧shortB t
 | _::t=>shortB t
theorem shortB_of:∀ {ob:List PO},(∀ (i:Nat) l,ob[i]?=some (.cells l)→shortA l)→shortB ob
 | [],_=>trivial
 | .cells l::t,h=>⟨h 0 l rfl,shortB_of fun i l hl=>h (i+1) l (by simpa using hl)⟩
 | .own ..::t,h=>shortB_of (ob:=t) fun i l hl=>h (i+1) l (by simpa using hl)
 | .tail ..::t,h=>shortB_of (ob:=t) fun i l hl=>h (i+1) l (by simpa using hl)
 | .gone::t,h=>shortB_of (ob:=t) fun i l hl=>h (i+1) l (by simpa using hl)
 | .map ..::t,h=>shortB_of (ob:=t) fun i l hl=>h (i+1) l (by simpa using hl)
 | .bld ..::t,h=>shortB_of (ob:=t) fun i l hl=>h (i+1) l (by simpa using hl)
theorem Obs.short {K:Nat→Prop} {ob:List PO} {g:Gh} {w:World} (hO:Obs K ob g w) (hf:∀ i,i<ob.length→∃ u,g.B i=some u):shortB ob:=by
 refine shortB_of fun i l hl=>?_
 obtain ⟨u,hu⟩:=hf i (List.getElem?_eq_some_iff.1 hl).1
 obtain ⟨b,vs,rfl,h1,h2,h3,h4,h5⟩:=hO.hold i _ u hl hu
 exact PRs.short (vs:=vs) ⟨h2,h3⟩
end Go.Proofs.YtdeacbdpmdfgdaaDoor
