/- The document's answer of layer 1: order. -/
import Derived.Test.YtjfncepmpabcnaaGreatDoorRefE
namespace Go.Proofs.YtjfncepmpabcnaaGreatDoor
open Go.RowKit

theorem digs_lt_of_len {A C : Nat} (h : (digs 10 A).length < (digs 10 C).length) : A < C := by
  have := val_lt_len (b := 10) (by omega) (digs_rgt 10 (by omega) A) (digs_rgt 10 (by omega) C) h
  rwa [val_digs _ (by omega), val_digs _ (by omega)] at this
theorem digs_lt_of_top {A C k : Nat} (h1 : k < (digs 10 A).length) (h2 : k < (digs 10 C).length) (he : (digs 10 A).drop (k + 1) = (digs 10 C).drop (k + 1)) (hd : dg (digs 10 A) k < dg (digs 10 C) k) : A < C := by
  have := val_lt_top 10 (digs_lt 10 (by omega) A) h1 h2 he hd
  rwa [val_digs _ (by omega), val_digs _ (by omega)] at this
theorem digs10_inj {A C : Nat} (h : digs 10 A = digs 10 C) : A = C := by
  have := congrArg (val 10) h
  rwa [val_digs _ (by omega), val_digs _ (by omega)] at this

end Go.Proofs.YtjfncepmpabcnaaGreatDoor
