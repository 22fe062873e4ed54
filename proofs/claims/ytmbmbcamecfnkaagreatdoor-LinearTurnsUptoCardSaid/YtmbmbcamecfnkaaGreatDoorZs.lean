/- What is known of whole numbers and their limbs, beside the walks. -/
import Derived.Test.YtmbmbcamecfnkaaGreatDoorNatI
import Derived.Test.YtmbmbcamecfnkaaGreatDoorZBase
import Derived.Test.YtmbmbcamecfnkaaGreatDoorOp
namespace Go.Proofs.YtmbmbcamecfnkaaGreatDoor
open Go.RowKit
set_option linter.unusedSimpArgs false
set_option linter.unusedVariables false
theorem ZB.le {m n k:Nat} (h:ZB (n:Nat) k) (hm:m≤n):ZB (m:Nat) k:=by unfold ZB at *; simp only [Int.natAbs_natCast] at *; omega
theorem ZB.gcd {y z:Int} {a b:Nat} (h1:ZB y a) (h2:ZB z b):ZB ((Nat.gcd y.natAbs z.natAbs:Nat):Int) (a+b+1):=by
 unfold ZB
 simp only [Int.natAbs_natCast]
 refine Nat.lt_of_le_of_lt ?_ (Qfh h1 h2)
 rcases Nat.eq_zero_or_pos y.natAbs with h | h
 · rw [h,Nat.gcd_zero_left]; omega
 · have:=Nat.gcd_le_left z.natAbs h; omega
theorem NB.nil (w:World) (B:Nat) (e:TypeId):NB w B e (.agg #[.slice none 0 0,.bool false]) 0:=⟨_,rfl,World.ownsRow_nil _ _ _ _⟩
theorem IO.nil (w:World) (B:Nat) (e:TypeId):IO w B e (.agg #[.bool false,.slice none 0 0]) 0:=⟨_,rfl,World.ownsRow_nil _ _ _ _⟩
def Qak (neg:Bool) (l:List Nat):Bool:=rgtB l && (!neg || decide (0<l.length))
theorem Qa6 (z:Int):Qak (zNeg z) (digs 1000000000 z.natAbs)=true:=by
 have h1:=(QfT _).2 (QaP 1000000000 (by omega) z.natAbs)
 unfold Qak
 rw [h1]
 by_cases h:z<0
 · have h2:=Qqp z.natAbs
   have h3:0<z.natAbs:=by omega
   simp only [h3,decide_true,Bool.not_true] at h2
   have:0<(digs 1000000000 z.natAbs).length:=by
    refine Decidable.byContradiction fun hc=>?_
    rw [show (digs 1000000000 z.natAbs).length=0 by omega] at h2
    simp at h2
   simp [this]
 · rw [QdI (by omega)]; rfl
theorem QkQ {neg:Bool} {l:List Nat} (h:Qak neg l=true):neg=zNeg (zV neg l)∧l=digs 1000000000 (zV neg l).natAbs:=by
 unfold Qak at h
 rw [Bool.and_eq_true] at h
 have h1:=(QfT l).1 h.1
 have h2:l=digs 1000000000 (zV neg l).natAbs:=by rw [zV,Qbn]; exact h1.digs (by omega)
 refine ⟨?_,h2⟩
 rw [zV,Qs5]
 cases neg
 · rfl
 · have h3:0<l.length:=by simpa using h.2
   have:0<val 1000000000 l:=Nat.lt_of_lt_of_le (Nat.pow_pos (by omega)) (QdQ h1 h3)
   simp [this]
def eqB (l m:List Nat):Bool:=decide (l=m)
theorem Qub {l m:List Nat} (h:l.length≠m.length):eqB l m=false:=by
 simp only [eqB,decide_eq_false_iff_not]; intro e; exact h (by rw [e])
theorem eqB_at {l m:List Nat} {k:Nat} (h:dg l k≠dg m k):eqB l m=false:=by
 simp only [eqB,decide_eq_false_iff_not]; intro e; exact h (by rw [e])
theorem QrS (l:List Nat):eqB l l=true:=by simp [eqB]
theorem Qjj {l m:List Nat} {k:Nat} (h:l.take k=m.take k) (hd:dg l k=dg m k) (hl:k<l.length) (hm:k<m.length):l.take (k+1)=m.take (k+1):=by
 rw [List.take_succ_eq_append_getElem hl,List.take_succ_eq_append_getElem hm,h,← QcN l k hl,← QcN m k hm,hd]
def gcd2 (a b:Int):Int:=((Nat.gcd a.natAbs b.natAbs:Nat):Int)
theorem Qs4 {y z:Int} {a b:Nat} (h1:ZB y a) (h2:ZB z b):ZB (gcd2 y z) (a+b+1):=by
 have h3:(gcd2 y z).natAbs≤y.natAbs+z.natAbs:=by
  unfold gcd2
  rw [Int.natAbs_natCast]
  rcases Nat.eq_zero_or_pos y.natAbs with h | h
  · rw [h,Nat.gcd_zero_left]; omega
  · have:=Nat.gcd_le_left z.natAbs h; omega
 exact Nat.lt_of_le_of_lt h3 (Qfh h1 h2)
theorem bseq (l m:List UInt8) (b:Bool) (h:decide (l=m)=b):((⟨l.toArray⟩:ByteArray).toList==(⟨m.toArray⟩:ByteArray).toList)=b:=by
 rw [ByteArray.toList_mk,ByteArray.toList_mk,← h,Bool.eq_iff_iff]; simp
theorem I2.sl {w:World} {b:Bool} {s:Value} {z:Int} (h:I2 w (.agg #[.bool b,s]) z):∃ ao n ac,s=.slice ao n ac:=by
 obtain ⟨ao,ac,h⟩:=h.one
 injection h with h
 have:s=.slice ao (digs 1000000000 z.natAbs).length ac:=by injection h with h; injection h with _ h; injection h
 exact ⟨_,_,_,this⟩
def Bel (w0 w:World):Prop:=Below w0.heap.size w0 w
theorem Bel.keep {w0 w w':World} (h:Bel w0 w) (hb:Below w.heap.size w w'):Bel w0 w':=Qi1 h hb
end Go.Proofs.YtmbmbcamecfnkaaGreatDoor
