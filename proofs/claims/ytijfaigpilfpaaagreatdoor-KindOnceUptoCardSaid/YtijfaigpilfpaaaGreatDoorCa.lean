/- The layer cong: errors, copies, edges. -/
import Derived.Test.YtijfaigpilfpaaaGreatDoorFa
import Derived.Test.YtijfaigpilfpaaaGreatDoorVt
import Derived.Test.YtijfaigpilfpaaaGreatDoorKx
namespace Go.Proofs.YtijfaigpilfpaaaGreatDoor
open Go.RowKit
set_option linter.unusedVariables false
set_option maxRecDepth 100000
def QjK:Spec2
 | [.f (.dt .tm l)],[]=>some (.need (l.length≤100000000) (.br (decide (l.length=0)) (.ret (.f (.dt .tm [])) []) (.ret (.wr 0) [.own 28 (.dt .tm l)])))
 | _,_=>none
theorem QtT {E:Env} (hU:Up E):Contract2 Tryz.prog E 40 QjK:=by
 refine Qkj [] [(QiF,fun _ _=>none)] Tryz.ntmps40 Tryz.func40 (by kernel_rfl) (by kernel_rfl) hU trivial ⟨QsZ,trivial⟩ ?_
 intro xs ob o hs hok
 unfold QjK at hs
 split at hs
 · rename_i l
   cases hs
   have hl:=hok.1
   by_cases hl0:l=[]
   · subst hl0
     refine ⟨[.f (.dt .tm [])],[],.cons (.refl _) .nil,rfl,fun hg hsh=>?_⟩
     refine Qab (p:=((0:Nat)=0→QkB Tryz.prog Tryz.f40.results.toList (0:Nat) (Out.need ((0:Nat)≤100000000) (Out.br (decide ((0:Nat)=0)) (Out.ret (dP Sh.tm []) []) (Out.ret (PV.wr 0) [PO.own 28 (Lf.dt Sh.tm [])]))).fin Exit.ret (PS.mk [(2,nlP),(4,bV true),(4,bV true),(3,dP Sh.tm []),(2,nlP),(0,dP Sh.tm [])] [])∨Ends2 Tryz.prog Tryz.f40.results.toList (0:Nat) (Out.need ((0:Nat)≤100000000) (Out.br (decide ((0:Nat)=0)) (Out.ret (dP Sh.tm []) []) (Out.ret (PV.wr 0) [PO.own 28 (Lf.dt Sh.tm [])]))).fin Exit.ret (PS.mk [(2,nlP),(4,bV true),(4,bV true),(3,dP Sh.tm []),(2,nlP),(0,dP Sh.tm [])] []))∧(0≤9223372036854775807∧0≤140737488355328)∧(QkB Tryz.prog Tryz.f40.results.toList (0:Nat) (Out.need ((0:Nat)≤100000000) (Out.br (decide ((0:Nat)=0)) (Out.ret (dP Sh.tm []) []) (Out.ret (PV.wr 0) [PO.own 28 (Lf.dt Sh.tm [])]))).fin Exit.ret (PS.mk [(2,PV.wr 0),(7,PV.wr 0),(6,dP Sh.tm []),(5,PV.any),(5+1000000,PV.any),(4,bV false),(4,bV (!true)),(3,dP Sh.tm []),(2,nlP),(0,dP Sh.tm [])] [PO.own 28 (Lf.dt Sh.tm [])])∨Ends2 Tryz.prog Tryz.f40.results.toList (0:Nat) (Out.need ((0:Nat)≤100000000) (Out.br (decide ((0:Nat)=0)) (Out.ret (dP Sh.tm []) []) (Out.ret (PV.wr 0) [PO.own 28 (Lf.dt Sh.tm [])]))).fin Exit.ret (PS.mk [(2,PV.wr 0),(7,PV.wr 0),(6,dP Sh.tm []),(5,PV.any),(5+1000000,PV.any),(4,bV false),(4,bV (!true)),(3,dP Sh.tm []),(2,nlP),(0,dP Sh.tm [])] [PO.own 28 (Lf.dt Sh.tm [])]))) ?kr ?_
     case kr=>kernel_rfl
     refine ⟨fun hq0=>?m0,⟨?s0,?m1⟩⟩
     case m0=>exact QrT (x:=.f (.v (.slice none 0 0))) (ob:=[]) (by kernel_rfl) (by kernel_rfl) (Qaq (endU (ob:=[]) (r:=[]) (y:=.f (.dt .tm [])) rfl ⟨fun H B v hv=>.f (hv.sval rfl ▸ Qeg (x:=.dt .tm []) rfl (fun _=>rfl) trivial)⟩ rfl rfl rfl))
     case s0=>decide
     case m1=>exact endV_F (x:=.f (.dt .tm [])) (ob:=[.gone]) (by kernel_rfl) (by kernel_rfl) (Qaq (endU (ob:=[]) (r:=[.gone]) (y:=.f (.dt .tm [])) rfl (.refl _) rfl rfl rfl))
   · have hl1:decide (l.length=0)=false:=decide_eq_false fun h=>hl0 (List.length_eq_zero_iff.1 h)
     refine ⟨[.f (.dt .tm l)],[],.cons (.refl _) .nil,rfl,fun hg hsh=>?_⟩
     refine Qab (p:=(l.length=0→QkB Tryz.prog Tryz.f40.results.toList (0:Nat) (Out.need (l.length≤100000000) (Out.br (decide (l.length=0)) (Out.ret (dP Sh.tm []) []) (Out.ret (PV.wr 0) [PO.own 28 (Lf.dt Sh.tm l)]))).fin Exit.ret (PS.mk [(2,nlP),(4,bV true),(4,bV true),(3,dP Sh.tm l),(2,nlP),(0,dP Sh.tm l)] [])∨Ends2 Tryz.prog Tryz.f40.results.toList (0:Nat) (Out.need (l.length≤100000000) (Out.br (decide (l.length=0)) (Out.ret (dP Sh.tm []) []) (Out.ret (PV.wr 0) [PO.own 28 (Lf.dt Sh.tm l)]))).fin Exit.ret (PS.mk [(2,nlP),(4,bV true),(4,bV true),(3,dP Sh.tm l),(2,nlP),(0,dP Sh.tm l)] []))∧(l.length≤9223372036854775807∧l.length * 80≤140737488355328)∧(QkB Tryz.prog Tryz.f40.results.toList (0:Nat) (Out.need (l.length≤100000000) (Out.br (decide (l.length=0)) (Out.ret (dP Sh.tm []) []) (Out.ret (PV.wr 0) [PO.own 28 (Lf.dt Sh.tm l)]))).fin Exit.ret (PS.mk [(2,PV.wr 0),(7,PV.wr 0),(6,dP Sh.tm l),(5,PV.any),(5+1000000,PV.any),(4,bV false),(4,bV (!true)),(3,dP Sh.tm l),(2,nlP),(0,dP Sh.tm l)] [PO.own 28 (Lf.dt Sh.tm l)])∨Ends2 Tryz.prog Tryz.f40.results.toList (0:Nat) (Out.need (l.length≤100000000) (Out.br (decide (l.length=0)) (Out.ret (dP Sh.tm []) []) (Out.ret (PV.wr 0) [PO.own 28 (Lf.dt Sh.tm l)]))).fin Exit.ret (PS.mk [(2,PV.wr 0),(7,PV.wr 0),(6,dP Sh.tm l),(5,PV.any),(5+1000000,PV.any),(4,bV false),(4,bV (!true)),(3,dP Sh.tm l),(2,nlP),(0,dP Sh.tm l)] [PO.own 28 (Lf.dt Sh.tm l)]))) ?kr ?_
     case kr=>kernel_rfl
     refine ⟨fun hq0=>?m0,⟨?s0,?m1⟩⟩
     case m0=>exact absurd (List.length_eq_zero_iff.1 hq0) hl0
     case s0=>omega
     case m1=>exact QrT (x:=.wr 0) (ob:=[.own 28 (.dt .tm l)]) (by kernel_rfl) (by kernel_rfl) (Qaq (endU (ob:=[.own 28 (.dt .tm l)]) (r:=[]) (y:=.wr 0) (by
      show (match decide (l.length=0) with | true=>_ | false=>_)=_
      rw [hl1]; rfl) (.refl _) rfl rfl rfl))
 · cases hs
end Go.Proofs.YtijfaigpilfpaaaGreatDoor
