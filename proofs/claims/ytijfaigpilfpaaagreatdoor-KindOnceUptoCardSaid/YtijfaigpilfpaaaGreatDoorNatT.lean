/- nat.Text. -/
import Derived.Test.YtijfaigpilfpaaaGreatDoorNatI
import Derived.Test.YtijfaigpilfpaaaGreatDoorText
namespace Go.Proofs.YtijfaigpilfpaaaGreatDoor
open Go.RowKit
theorem Rgt.drop {b:Nat} {l:List Nat} (h:Rgt b l) (j:Nat):Rgt b (l.drop j):=by
 induction j generalizing l with
 | zero=>simpa using h
 | succ j ih =>
  cases l with
  | nil=>simpa using h
  | cons x l=>simpa using ih h.tail
theorem Qnx : ∃ g, Tryz.prog.globalNamed "internal/strconv.uint64pow10" = some g := ⟨0, by kernel_rfl⟩
theorem Tab.keep {w w':World} (h:Tab w) (hb:Below w.heap.size w w'):Tab w':=by
 obtain ⟨g,hg⟩:=Qnx
 refine var?_below hb hg ?_ h
 unfold Tab Lib.TabIs World.var? at h
 simp only [hg,Option.bind_some] at h
 rcases Nat.lt_or_ge g w.heap.size with h1 | h1
 · exact h1
 · rw [Array.getElem?_eq_none h1] at h; cases h
end Go.Proofs.YtijfaigpilfpaaaGreatDoor
