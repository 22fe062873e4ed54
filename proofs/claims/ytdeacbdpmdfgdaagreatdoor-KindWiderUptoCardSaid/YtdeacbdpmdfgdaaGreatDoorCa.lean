/- The layer cong: errors, copies, edges. -/
import Derived.Test.YtdeacbdpmdfgdaaGreatDoorFa
import Derived.Test.YtdeacbdpmdfgdaaGreatDoorVt
import Derived.Test.YtdeacbdpmdfgdaaGreatDoorKx
namespace Go.Proofs.YtdeacbdpmdfgdaaGreatDoor
open Go.RowKit
set_option linter.unusedVariables false
set_option maxRecDepth 100000
def Qi5:Spec2
 | [.f (.dt .tm l)],[]=>some (.need (l.length≤100000000) (.br (decide (l.length=0)) (.ret (.f (.dt .tm [])) []) (.ret (.wr 0) [.own 31 (.dt .tm l)])))
 | _,_=>none
theorem Qr8 {E:Env} (hU:Up E):Contract2 Tryz.prog E 26 Qi5:=by
 refine QjC [] [(Qh5,fun _ _=>none)] Tryz.ntmps26 Tryz.func26 (by kernel_rfl) (by kernel_rfl) hU trivial ⟨Qrf,trivial⟩ ?_
 intro xs ob o hs hok
 unfold Qi5 at hs
 split at hs
 · rename_i l
   cases hs
   have hl:=hok.1
   by_cases hl0:l=[]
   · subst hl0
     refine ⟨[.f (.dt .tm [])],[],.cons (.refl _) .nil,rfl,fun hg hsh=>?_⟩
     refine Qab (p:=((0:Nat)=0→QjT Tryz.prog Tryz.f26.results.toList (0:Nat) (Out.need ((0:Nat)≤100000000) (Out.br (decide ((0:Nat)=0)) (Out.ret (PV.f (Lf.dt Sh.tm [])) []) (Out.ret (PV.wr 0) [PO.own 31 (Lf.dt Sh.tm [])]))).fin Exit.ret (PS.mk [(2,PV.f (Lf.v (Value.slice none 0 0))),(4,bV true),(4,bV true),(3,PV.f (Lf.dt Sh.tm [])),(2,PV.f (Lf.v (Value.slice none 0 0))),(0,PV.f (Lf.dt Sh.tm []))] [])∨Ends2 Tryz.prog Tryz.f26.results.toList (0:Nat) (Out.need ((0:Nat)≤100000000) (Out.br (decide ((0:Nat)=0)) (Out.ret (PV.f (Lf.dt Sh.tm [])) []) (Out.ret (PV.wr 0) [PO.own 31 (Lf.dt Sh.tm [])]))).fin Exit.ret (PS.mk [(2,PV.f (Lf.v (Value.slice none 0 0))),(4,bV true),(4,bV true),(3,PV.f (Lf.dt Sh.tm [])),(2,PV.f (Lf.v (Value.slice none 0 0))),(0,PV.f (Lf.dt Sh.tm []))] []))∧(0≤9223372036854775807∧0≤140737488355328)∧(QjT Tryz.prog Tryz.f26.results.toList (0:Nat) (Out.need ((0:Nat)≤100000000) (Out.br (decide ((0:Nat)=0)) (Out.ret (PV.f (Lf.dt Sh.tm [])) []) (Out.ret (PV.wr 0) [PO.own 31 (Lf.dt Sh.tm [])]))).fin Exit.ret (PS.mk [(2,PV.wr 0),(7,PV.wr 0),(6,PV.f (Lf.dt Sh.tm [])),(5,PV.any),(5+1000000,PV.any),(4,bV false),(4,bV (!true)),(3,PV.f (Lf.dt Sh.tm [])),(2,PV.f (Lf.v (Value.slice none 0 0))),(0,PV.f (Lf.dt Sh.tm []))] [PO.own 31 (Lf.dt Sh.tm [])])∨Ends2 Tryz.prog Tryz.f26.results.toList (0:Nat) (Out.need ((0:Nat)≤100000000) (Out.br (decide ((0:Nat)=0)) (Out.ret (PV.f (Lf.dt Sh.tm [])) []) (Out.ret (PV.wr 0) [PO.own 31 (Lf.dt Sh.tm [])]))).fin Exit.ret (PS.mk [(2,PV.wr 0),(7,PV.wr 0),(6,PV.f (Lf.dt Sh.tm [])),(5,PV.any),(5+1000000,PV.any),(4,bV false),(4,bV (!true)),(3,PV.f (Lf.dt Sh.tm [])),(2,PV.f (Lf.v (Value.slice none 0 0))),(0,PV.f (Lf.dt Sh.tm []))] [PO.own 31 (Lf.dt Sh.tm [])]))) ?kr ?_
     case kr=>kernel_rfl
     refine ⟨fun hq0=>?m0,⟨?s0,?m1⟩⟩
     case m0=>exact Qqp (x:=.f (.v (.slice none 0 0))) (ob:=[]) (by kernel_rfl) (by kernel_rfl) (Qav (endU (ob:=[]) (r:=[]) (y:=.f (.dt .tm [])) rfl ⟨fun H B v hv=>.f (hv.sval rfl ▸ Qd1 (x:=.dt .tm []) rfl (fun _=>rfl) trivial)⟩ rfl rfl rfl))
     case s0=>decide
     case m1=>exact endV_F (x:=.f (.dt .tm [])) (ob:=[.gone]) (by kernel_rfl) (by kernel_rfl) (Qav (endU (ob:=[]) (r:=[.gone]) (y:=.f (.dt .tm [])) rfl (.refl _) rfl rfl rfl))
   · have hl1:decide (l.length=0)=false:=decide_eq_false fun h=>hl0 (List.length_eq_zero_iff.1 h)
     refine ⟨[.f (.dt .tm l)],[],.cons (.refl _) .nil,rfl,fun hg hsh=>?_⟩
     refine Qab (p:=(l.length=0→QjT Tryz.prog Tryz.f26.results.toList (0:Nat) (Out.need (l.length≤100000000) (Out.br (decide (l.length=0)) (Out.ret (PV.f (Lf.dt Sh.tm [])) []) (Out.ret (PV.wr 0) [PO.own 31 (Lf.dt Sh.tm l)]))).fin Exit.ret (PS.mk [(2,PV.f (Lf.v (Value.slice none 0 0))),(4,bV true),(4,bV true),(3,PV.f (Lf.dt Sh.tm l)),(2,PV.f (Lf.v (Value.slice none 0 0))),(0,PV.f (Lf.dt Sh.tm l))] [])∨Ends2 Tryz.prog Tryz.f26.results.toList (0:Nat) (Out.need (l.length≤100000000) (Out.br (decide (l.length=0)) (Out.ret (PV.f (Lf.dt Sh.tm [])) []) (Out.ret (PV.wr 0) [PO.own 31 (Lf.dt Sh.tm l)]))).fin Exit.ret (PS.mk [(2,PV.f (Lf.v (Value.slice none 0 0))),(4,bV true),(4,bV true),(3,PV.f (Lf.dt Sh.tm l)),(2,PV.f (Lf.v (Value.slice none 0 0))),(0,PV.f (Lf.dt Sh.tm l))] []))∧(l.length≤9223372036854775807∧l.length * 80≤140737488355328)∧(QjT Tryz.prog Tryz.f26.results.toList (0:Nat) (Out.need (l.length≤100000000) (Out.br (decide (l.length=0)) (Out.ret (PV.f (Lf.dt Sh.tm [])) []) (Out.ret (PV.wr 0) [PO.own 31 (Lf.dt Sh.tm l)]))).fin Exit.ret (PS.mk [(2,PV.wr 0),(7,PV.wr 0),(6,PV.f (Lf.dt Sh.tm l)),(5,PV.any),(5+1000000,PV.any),(4,bV false),(4,bV (!true)),(3,PV.f (Lf.dt Sh.tm l)),(2,PV.f (Lf.v (Value.slice none 0 0))),(0,PV.f (Lf.dt Sh.tm l))] [PO.own 31 (Lf.dt Sh.tm l)])∨Ends2 Tryz.prog Tryz.f26.results.toList (0:Nat) (Out.need (l.length≤100000000) (Out.br (decide (l.length=0)) (Out.ret (PV.f (Lf.dt Sh.tm [])) []) (Out.ret (PV.wr 0) [PO.own 31 (Lf.dt Sh.tm l)]))).fin Exit.ret (PS.mk [(2,PV.wr 0),(7,PV.wr 0),(6,PV.f (Lf.dt Sh.tm l)),(5,PV.any),(5+1000000,PV.any),(4,bV false),(4,bV (!true)),(3,PV.f (Lf.dt Sh.tm l)),(2,PV.f (Lf.v (Value.slice none 0 0))),(0,PV.f (Lf.dt Sh.tm l))] [PO.own 31 (Lf.dt Sh.tm l)]))) ?kr ?_
     case kr=>kernel_rfl
     refine ⟨fun hq0=>?m0,⟨?s0,?m1⟩⟩
     case m0=>exact absurd (List.length_eq_zero_iff.1 hq0) hl0
     case s0=>omega
     case m1=>exact Qqp (x:=.wr 0) (ob:=[.own 31 (.dt .tm l)]) (by kernel_rfl) (by kernel_rfl) (Qav (endU (ob:=[.own 31 (.dt .tm l)]) (r:=[]) (y:=.wr 0) (by
      show (match decide (l.length=0) with | true=>_ | false=>_)=_
      rw [hl1]; rfl) (.refl _) rfl rfl rfl))
 · cases hs
end Go.Proofs.YtdeacbdpmdfgdaaGreatDoor
