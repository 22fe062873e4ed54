/- The layer num by the pure run: its numbers. -/
import Derived.Test.YtdeacbdpmdfgdaaGreatDoorPm
namespace Go.Proofs.YtdeacbdpmdfgdaaGreatDoor
open Go.RowKit
set_option linter.unusedVariables false
set_option maxRecDepth 100000
def nP (z:Int) (k:Nat):PV:=.agg [.f (.zd z k),.f (.zn z)]
def QmH:Spec
 | [.agg [.f x]]=>match limL x with
  | some (l,k)=>some (none,.one (.f (.v (.bool (((l.length:Nat):Int)==0)))))
  | none=>none
 | _=>none
def Qq2:Spec
 | [.f x,.f (.v (.bool n))]=>match limL x with
  | some (l,k)=>some (some (k≤100000000),.nm Int (zV n l) fun z=>nP z (k+1))
  | none=>none
 | _=>none
theorem QqN {a b:Int} {k:Nat} (h:a.natAbs=b.natAbs):Sub (.f (.zd a k)) (.f (.zd b k)):=⟨fun H v hv=>by
 have hr:=hv.rd
 have hg:ZB a k:=hr.good'
 refine .f ?_
 cases hr with
 | sl hv2 hgd hc hm h0 bb o val hb hcell hkk hrec=>exact .sl (f:=.zd b k) (by rw [← hv2]; simp only [Lf.view,h]) (show ZB b k by unfold ZB at hg ⊢; rw [← h]; exact hg) hc hm h0 bb o val hb hcell hkk hrec⟩
theorem Qqh {a z:Int} {b:Bool} {k:Nat} (hz:a.natAbs=z.natAbs) (hb:b=zNeg z):Sub (.agg [.f (.zd a k),.f (.v (.bool b))]) (.agg [.f (.zd z k),.f (.zn z)]):=by
 subst hb
 refine ⟨fun H v hv=>?_⟩
 obtain ⟨vs,rfl,h1⟩:=PRs.of_agg hv
 match vs,h1.1 with
 | [p,q],_ =>
  have a1:=(h1.2 1 _ _ rfl rfl).val
  subst a1
  exact (PRs.cons ((QqN hz).out _ _ (h1.2 0 _ _ rfl rfl)) (.cons (.f (.zn _)) .nil)).agg
theorem Qpf (n:Nat):(((digs 1000000000 n).length:Int)==0)=decide (n=0):=by
 rw [Bool.eq_iff_iff,beq_iff_eq,decide_eq_true_eq]
 constructor
 · intro h
   have h1:=QoJ 1000000000 (by omega) n
   rw [List.length_eq_zero_iff.1 (show (digs 1000000000 n).length=0 by omega)] at h1
   exact h1.symm
 · intro h; subst h; rw [Qbl]; rfl
def Qq1:Spec
 | [.agg [.f (.zd z k),.f (.zn z')]]=>some (some (z=z'),.one (zP z k))
 | _=>none
theorem Qri {z:Int} {k k':Nat} (h:ZB z k'):Sub (nP z k) (nP z k'):=by
 refine ⟨fun H v hv=>?_⟩
 obtain ⟨vs,rfl,h1⟩:=PRs.of_agg hv
 match vs,h1.1 with
 | [p,q],_=>exact (PRs.cons ((sub_zd h).out _ _ (h1.2 0 _ _ rfl rfl)) (.cons (h1.2 1 _ _ rfl rfl) .nil)).agg
section
variable {E : Env} (hU : Up E)
include hU
theorem cZeroN:Contract Tryz.prog E 85 QmH:=by
 refine QaJ [] Tryz.ntmps85 Tryz.func85 (by kernel_rfl) (by kernel_rfl) hU trivial ?_
 intro xs p r hs hp
 unfold QmH at hs
 split at hs
 · rename_i x
   split at hs
   · rename_i l k hx
     cases hs
     refine ⟨[.agg [.f (.lr l k)]],[],.cons ⟨fun H v hv=>by
      obtain ⟨vs,rfl,h1⟩:=PRs.of_agg hv
      match vs,h1.1 with
      | [p],_=>exact (PRs.cons ((QkD hx).out _ _ (h1.2 0 _ _ rfl rfl)) .nil).agg⟩ .nil,rfl,fun hgx hg=>?_⟩
     refine Qab (p:=true=true∧Sub (PV.f (Lf.v (Value.bool ((↑l.length:Int)==(0:Int))))) (PV.f (Lf.v (Value.bool ((↑l.length:Int)==(0:Int)))))) (by kernel_rfl) ?_
     refine ⟨rfl,?m0⟩
     case m0=>exact .refl _
   · cases hs
 · cases hs
theorem cMade:Contract Tryz.prog E 66 Qq2:=by
 refine QaJ [(84,QmK),(85,QmH)] Tryz.ntmps66 Tryz.func66 (by kernel_rfl) (by kernel_rfl) hU ⟨cTrimN,cZeroN hU,trivial⟩ ?_
 intro xs p r hs hp
 unfold Qq2 at hs
 split at hs
 · rename_i x n
   split at hs
   · rename_i l k hx
     cases hs
     have hk:=hp _ rfl
     refine ⟨[.f (.lr l k),.f (.v (.bool n))],[],.cons (QkD hx) (.cons (.refl _) .nil),rfl,fun hgx hg=>?_⟩
     refine Qab (p:=k≤100000000∧∀ (z1:Nat),z1=vB l→ifB n (true=true∧Sub (PV.agg [PV.f (Lf.zd (↑z1:Int) (k+1)),PV.f (Lf.v (Value.bool !(↑(digs 1000000000 (↑z1:Int).natAbs).length:Int)==(0:Int)))]) (PV.agg [PV.f (Lf.zd (zV n l) (k+1)),PV.f (Lf.zn (zV n l))])) (true=true∧Sub (PV.agg [PV.f (Lf.zd (↑z1:Int) (k+1)),PV.f (Lf.v (Value.bool false))]) (PV.agg [PV.f (Lf.zd (zV n l) (k+1)),PV.f (Lf.zn (zV n l))]))) (by kernel_rfl) ?_
     refine ⟨?s0,fun z1=>fun hz1=>Qaa.2 ⟨fun hb0=>⟨rfl,?m0⟩,fun hb0=>⟨rfl,?m1⟩⟩⟩
     case s0=>exact hk
     case m0 =>
      subst hb0
      rw [show zV true l=zOf true (vB l) from rfl,← hz1,QjV]
      refine Qqh (by rw [Int.natAbs_neg]) ?_
      rw [Int.natAbs_natCast,Qpf]
      unfold zNeg
      rw [Bool.eq_iff_iff,Bool.not_eq_true',decide_eq_false_iff_not,decide_eq_true_eq]
      omega
     case m1 =>
      subst hb0
      rw [show zV false l=zOf false (vB l) from rfl,← hz1,QhF]
      exact Qqh rfl (by unfold zNeg; rw [decide_eq_false (by omega)])
   · cases hs
 · cases hs
theorem cOutN:Contract Tryz.prog E 54 Qq1:=by
 refine QaJ [] Tryz.ntmps54 Tryz.func54 (by kernel_rfl) (by kernel_rfl) hU trivial ?_
 intro xs p r hs hp
 unfold Qq1 at hs
 split at hs
 · rename_i z k z'
   cases hs
   obtain rfl:=hp _ rfl
   refine ⟨[nP z k],[],.cons (.refl _) .nil,rfl,fun hgx hg=>?_⟩
   refine Qab (p:=true=true∧Sub (PV.agg [PV.f (Lf.v (Value.bool (zNeg z))),PV.f (Lf.zd z k)]) (PV.agg [PV.f (Lf.zn z),PV.f (Lf.zd z k)])) (by kernel_rfl) ?_
   refine ⟨rfl,?m0⟩
   case m0 =>
    refine ⟨fun H v hv=>?_⟩
    obtain ⟨vs,rfl,h1⟩:=PRs.of_agg hv
    match vs,h1.1 with
    | [p,q],_ =>
     have a0:=(h1.2 0 _ _ rfl rfl).val
     subst a0
     exact (PRs.cons (.f (.zn _)) (.cons (h1.2 1 _ _ rfl rfl) .nil)).agg
 · cases hs
end
end Go.Proofs.YtdeacbdpmdfgdaaGreatDoor
