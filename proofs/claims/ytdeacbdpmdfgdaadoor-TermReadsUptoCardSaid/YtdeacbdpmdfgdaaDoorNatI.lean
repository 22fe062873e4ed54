/- nat: Right; DivMod. -/
import Derived.Test.YtdeacbdpmdfgdaaDoorChecked
import Derived.Test.YtdeacbdpmdfgdaaDoorBase
import Derived.Deep.RegionHeld3
import Derived.Deep.DrawnRows
import Derived.StillTailTactics
import Derived.Deep.DeepCutAuto
import Derived.Deep.RegionLaw
namespace Go.Proofs.YtdeacbdpmdfgdaaDoor
open Go.RowKit
attribute [local go_sem ↓] Go.wp_at_zero Go.wp_at_succ
def rowOf (ls:List (List Nat)) (k:Nat):List Nat:=ls.getD k []
def RdRows (w:World) (v:Value) (k:IntKind) (ls:List (List Nat)):Prop :=
 ∃ ao cap,v=.slice ao ls.length cap∧ls.length≤cap∧cap≤maxLen ∧
  ∀ i,i<ls.length→∃ ad row,ao=some ad∧w.cell? (ad.add i)=some row∧RdI w row k (rowOf ls i)
theorem RdRows.keep {w w':World} {v:Value} {k:IntKind} {ls:List (List Nat)} (h:RdRows w v k ls) (hb:Below w.heap.size w w'):RdRows w' v k ls:=by
 obtain ⟨ao,cap,h1,h2,h3,h4⟩:=h
 refine ⟨ao,cap,h1,h2,h3,fun i hi=>?_⟩
 obtain ⟨ad,row,h5,h6,h7⟩:=h4 i hi
 exact ⟨ad,row,h5,by rw [hb.cell (World.block_lt_of_cell? w _ h6)]; exact h6,h7.keep hb⟩
end Go.Proofs.YtdeacbdpmdfgdaaDoor
namespace Go.Proofs.YtdeacbdpmdfgdaaDoor
open Go.RowKit
attribute [local go_sem ↓] Go.wp_at_zero Go.wp_at_succ
def rgtB (l:List Nat):Bool:=l.all (fun x=>decide (x<1000000000)) && (l.getLast? != some 0)
end Go.Proofs.YtdeacbdpmdfgdaaDoor
