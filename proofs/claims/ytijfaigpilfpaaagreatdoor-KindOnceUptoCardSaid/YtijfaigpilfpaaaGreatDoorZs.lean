/- What is known of whole numbers and their limbs, beside the walks. -/
import Derived.Test.YtijfaigpilfpaaaGreatDoorNatI
import Derived.Test.YtijfaigpilfpaaaGreatDoorZBase
import Derived.Test.YtijfaigpilfpaaaGreatDoorOp
namespace Go.Proofs.YtijfaigpilfpaaaGreatDoor
open Go.RowKit
set_option linter.unusedSimpArgs false
set_option linter.unusedVariables false
theorem ZB.le {m n k:Nat} (h:ZB (n:Nat) k) (hm:m≤n):ZB (m:Nat) k:=by unfold ZB at *; simp only [Int.natAbs_natCast] at *; omega
theorem NB.nil (w:World) (B:Nat) (e:TypeId):NB w B e (.agg #[.slice none 0 0,.bool false]) 0:=⟨_,rfl,World.ownsRow_nil _ _ _ _⟩
theorem IO.nil (w:World) (B:Nat) (e:TypeId):IO w B e (.agg #[.bool false,.slice none 0 0]) 0:=⟨_,rfl,World.ownsRow_nil _ _ _ _⟩
def Qbv (neg:Bool) (l:List Nat):Bool:=rgtB l && (!neg || decide (0<l.length))
def eqB (l m:List Nat):Bool:=decide (l=m)
theorem Qtn {l m:List Nat} (h:l.length≠m.length):eqB l m=false:=by
 simp only [eqB,decide_eq_false_iff_not]; intro e; exact h (by rw [e])
theorem eqB_at {l m:List Nat} {k:Nat} (h:dg l k≠dg m k):eqB l m=false:=by
 simp only [eqB,decide_eq_false_iff_not]; intro e; exact h (by rw [e])
theorem QlW (l:List Nat):eqB l l=true:=by simp [eqB]
theorem Qif {l m:List Nat} {k:Nat} (h:l.take k=m.take k) (hd:dg l k=dg m k) (hl:k<l.length) (hm:k<m.length):l.take (k+1)=m.take (k+1):=by
 rw [List.take_succ_eq_append_getElem hl,List.take_succ_eq_append_getElem hm,h,← Qgd l k hl,← Qgd m k hm,hd]
theorem bseq (l m:List UInt8) (b:Bool) (h:decide (l=m)=b):((⟨l.toArray⟩:ByteArray).toList==(⟨m.toArray⟩:ByteArray).toList)=b:=by
 rw [ByteArray.toList_mk,ByteArray.toList_mk,← h,Bool.eq_iff_iff]; simp
theorem I2.sl {w:World} {b:Bool} {s:Value} {z:Int} (h:I2 w (.agg #[.bool b,s]) z):∃ ao n ac,s=.slice ao n ac:=by
 obtain ⟨ao,ac,h⟩:=h.one
 injection h with h
 have:s=.slice ao (digs 1000000000 z.natAbs).length ac:=by injection h with h; injection h with _ h; injection h
 exact ⟨_,_,_,this⟩
def Bel (w0 w:World):Prop:=Below w0.heap.size w0 w
theorem Bel.keep {w0 w w':World} (h:Bel w0 w) (hb:Below w.heap.size w w'):Bel w0 w':=QhV h hb
end Go.Proofs.YtijfaigpilfpaaaGreatDoor
