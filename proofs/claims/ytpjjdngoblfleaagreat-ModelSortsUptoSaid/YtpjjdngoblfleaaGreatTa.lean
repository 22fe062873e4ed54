/- The layer term: errors, sorts that there are. -/
import Derived.Test.YtpjjdngoblfleaaGreatTp
namespace Go.Proofs.YtpjjdngoblfleaaGreat
open Go.RowKit
set_option linter.unusedVariables false
set_option maxRecDepth 100000
def iV (n : Int) : PV := .f (.v (.int .i64 n))
def bV (b : Bool) : PV := .f (.v (.bool b))
def sV (s : ByteArray) : PV := .f (.v (.string s))
theorem subB_b {n m : Bool} (h : n = m) : SubB (bV n) (bV m) := by subst h; exact .refl _
theorem subB_i {n m : Int} (h : n = m) : SubB (iV n) (iV m) := by subst h; exact .refl _
theorem short_row {s : Sh} {l : List s.T} (h : shortP (.f (.dt s l))) : l.length ≤ 9223372036854775807 := by
 have h' : l.length ≤ maxLen := h.1
 unfold maxLen at h'
 omega
theorem short_deep {s : Sh} {l : List s.T} (h : shortP (.f (.dt s l))) {i j : Nat} {s' : Sh} {m : List s'.T} (hi : i < l.length) (hj : (s.cells (l.getD i s.nil))[j]? = some (.dt s' m)) : m.length ≤ 9223372036854775807 := by
 have h' : m.length ≤ maxLen := h.2 i hi j _ hj
 unfold maxLen at h'
 omega
def anyD (D : List Dat) (s : ByteArray) : Int := anyB D fun d => decide (d.name = s)
end Go.Proofs.YtpjjdngoblfleaaGreat
