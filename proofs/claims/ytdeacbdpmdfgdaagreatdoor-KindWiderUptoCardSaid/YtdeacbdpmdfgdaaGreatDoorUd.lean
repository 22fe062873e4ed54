/- Terms put for names: the contract of Subst. -/
import Derived.Test.YtdeacbdpmdfgdaaGreatDoorUc
import Derived.Test.YtdeacbdpmdfgdaaGreatDoorCc
namespace Go.Proofs.YtdeacbdpmdfgdaaGreatDoor
open Go.RowKit
set_option linter.unusedVariables false
set_option maxRecDepth 100000
def Qi2:Spec2
 | [.f (.dt .str l),.f (.dt .tm ts)],[]=>some (.ret (.bp 3 0) [.cells [.f (.dt .str l)],.cells [.f (.dt .tm ts)],.cells [iV (min (l.length:Int) ts.length)],.cells [iV 0,.fn 77 [] [.bp 2 0,.bp 0 0,.bp 1 0]]])
 | _,_=>none
theorem Qr3 {E:Env} (hU:Up E):Contract2 Tryz.prog E 59 Qi2:=by
 refine contract2 [] [] Tryz.ntmps59 Tryz.func59 (by kernel_rfl) (by kernel_rfl) hU trivial trivial ?_
 intro xs ob o hs hok
 unfold Qi2 at hs
 split at hs
 · rename_i l ts
   cases hs
   refine ⟨[.f (.dt .str l),.f (.dt .tm ts)],[],.cons (.refl _) (.cons (.refl _) .nil),rfl,fun _ hsh=>?_⟩
   have h0:=hsh
   refine Qab (p:=EndU 0 (Out.ret (PV.bp 3 0) [PO.cells [PV.f (Lf.dt Sh.str l)],PO.cells [PV.f (Lf.dt Sh.tm ts)],PO.cells [iV (min (↑l.length:Int) (↑ts.length:Int))],PO.cells [iV (0:Int),PV.fn 77 [] [PV.bp 2 0,PV.bp 0 0,PV.bp 1 0]]]).fin true (PV.bp 3 0) [PO.cells [PV.f (Lf.dt Sh.str l)],PO.cells [PV.f (Lf.dt Sh.tm ts)],PO.cells [iV (min (↑l.length:Int) (↑ts.length:Int))],PO.cells [iV 0,PV.fn 77 [] [PV.bp 2 0,PV.bp 0 0,PV.bp 1 0]]]) ?kr ?_
   case kr=>kernel_rfl
   refine ?m0
   case m0 =>
    generalize min (l.length:Int) ts.length=n
    exact endU rfl (.refl _) rfl rfl rfl
 · cases hs
def sOfU:Spec2
 | [.bp 0 0,x],[.cells [.f (.v (.int .i64 m)),.fn 77 [] [.bp 1 0,.bp 2 0,.bp 3 0]],.cells [.f (.v (.int .i64 n))],.cells [.f (.dt .str l)],.cells [.f (.dt .tm ts)]]=>match tmOf x with
  | some t=>some (.need ((t.fitT∧∀ u∈ts,u.fitT)∧(l.length≤100000000∧ts.length≤100000000)∧n=(min l.length ts.length:Nat)∧0≤m∧m≤20000) (.br (decide (m+(Qah l ts t).size≤20000)) (.ret (tmP (Qah l ts t)) [.cells [iV (m+(Qah l ts t).size),.fn 77 [] [.bp 1 0,.bp 2 0,.bp 3 0]],.cells [iV n],.cells [.f (.dt .str l)],.cells [.f (.dt .tm ts)]]) (.pan (eP 34) [.cells [iV 20001,.fn 77 [] [.bp 1 0,.bp 2 0,.bp 3 0]],.cells [iV n],.cells [.f (.dt .str l)],.cells [.f (.dt .tm ts)]])))
  | none=>none
 | _,_=>none
theorem cOfU {E:Env} (hU:Up E):Contract2 Tryz.prog E 62 sOfU:=by
 intro xs ob o hs hok
 unfold sOfU at hs
 split at hs
 · rename_i x m n l ts
   split at hs
   · rename_i t ht
     cases hs
     refine cOfUN hU (t.size+1) [.bp 0 0,x] _ (.need (t.size<t.size+1∧(t.fitT∧∀ u∈ts,u.fitT)∧(l.length≤100000000∧ts.length≤100000000)∧n=(min l.length ts.length:Nat)∧0≤m∧m≤20000) (.br (decide (m+(Qah l ts t).size≤20000)) (.ret (tmP (Qah l ts t)) [.cells [iV (m+(Qah l ts t).size),.fn 77 [] [.bp 1 0,.bp 2 0,.bp 3 0]],.cells [iV n],.cells [.f (.dt .str l)],.cells [.f (.dt .tm ts)]]) (.pan (eP 34) [.cells [iV 20001,.fn 77 [] [.bp 1 0,.bp 2 0,.bp 3 0]],.cells [iV n],.cells [.f (.dt .str l)],.cells [.f (.dt .tm ts)]]))) (by simp only [QmP,ht]) ⟨⟨Nat.lt_succ_self _,hok.1⟩,hok.2⟩
   · cases hs
 · cases hs
end Go.Proofs.YtdeacbdpmdfgdaaGreatDoor
