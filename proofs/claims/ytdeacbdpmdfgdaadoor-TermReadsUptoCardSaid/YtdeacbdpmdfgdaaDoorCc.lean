/- The layer cong: Same. -/
import Derived.Test.YtdeacbdpmdfgdaaDoorFa
import Derived.Test.YtdeacbdpmdfgdaaDoorVr
import Derived.Test.YtdeacbdpmdfgdaaDoorKx
import Derived.Test.YtdeacbdpmdfgdaaDoorKd
import Derived.Test.YtdeacbdpmdfgdaaDoorEz
import Derived.Test.YtdeacbdpmdfgdaaDoorVc
namespace Go.Proofs.YtdeacbdpmdfgdaaDoor
open Go.RowKit
set_option linter.unusedVariables false
set_option maxRecDepth 100000
theorem okE_ex {α:Type} {z:Except Int α} (h:okE z=true):∃ p,z=.ok p:=by
 cases z with
 | ok p=>exact ⟨p,rfl⟩
 | error e=>cases h
end Go.Proofs.YtdeacbdpmdfgdaaDoor
namespace Go.Proofs.YtdeacbdpmdfgdaaDoor
open Go.RowKit
set_option linter.unusedVariables false
set_option maxRecDepth 100000
theorem tupBs {l m:List PV} (h:SubsB l m):SubB (.tup l) (.tup m):=⟨fun H B v hv=>by
 obtain ⟨vs,rfl,h1⟩:=PRs.of_tup hv
 have h2:=h.prs h1
 exact .tup (by simpa using h2.1) fun i u x hu hx=>h2.2 i u x (by simpa using hu) hx⟩
end Go.Proofs.YtdeacbdpmdfgdaaDoor
