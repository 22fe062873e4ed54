/- The reference of chapter 7: Push of towers; the law's small functions. -/
import Derived.Test.YtpjjdngoblfleaaGreatFe
namespace Go.Proofs.YtpjjdngoblfleaaGreat
open Go.RowKit
set_option linter.unusedVariables false
set_option maxRecDepth 100000
def varT (s:ByteArray):Tw:=.mk 1 s false [] []
def sNameL:Spec
 | [.f (.v (.string s))]=>some (none,.nm Tw (varT s) tmP)
 | _=>none
theorem cNameL {E:Env} (hU:Up E):Contract Tryz.prog E 54 sNameL:=by
 refine contract_D [] [] Tryz.ntmps54 Tryz.func54 (by kernel_rfl) (by kernel_rfl) hU trivial trivial ?_
 intro xs p r hs hp
 unfold sNameL at hs
 split at hs
 · rename_i s
   cases hs
   refine ⟨[.f (.v (.string s))],[],.cons (.refl _) .nil,rfl,fun _ hsh=>?_⟩
   refine cast_rfl (p:=true=true∧Sub (PV.agg [PV.f (Lf.v (Value.int IntKind.u8 1)),sV s,bV false,PV.f (Lf.v (Value.slice none 0 0)),PV.f (Lf.v (Value.slice none 0 0))]) (PV.agg [PV.f (Lf.v (Value.int IntKind.u8 (varT s).kind)),sV ((varT s).name),bV ((varT s).neg),PV.f (Lf.lr (varT s).digits 0),PV.f (Lf.dt Sh.tm [])])) ?kr ?_
   case kr=>kernel_rfl
   refine ⟨rfl,?m0⟩
   case m0=>exact (tm_sub (t:=varT s) rfl).sub
 · cases hs
theorem cConL {E:Env} (hU:Up E):Contract Tryz.prog E 53 sConT:=by
 refine contract_D [] [] Tryz.ntmps53 Tryz.func53 (by kernel_rfl) (by kernel_rfl) hU trivial trivial ?_
 intro xs p r hs hp
 unfold sConT at hs
 split at hs
 · rename_i k x
   split at hs
   · rename_i l h1
     cases hs
     refine ⟨[.f (.v (.int .u8 k)),.f (.dt .tm l)],[],.cons (.refl _) (.cons (dt_sub h1).sub .nil),rfl,fun _ hsh=>?_⟩
     refine cast_rfl (p:=true=true∧Sub (PV.agg [PV.f (Lf.v (Value.int IntKind.u8 k)),sV (ByteArray.mk #[]),bV false,PV.f (Lf.v (Value.slice none 0 0)),PV.f (Lf.dt Sh.tm l)]) (PV.agg [PV.f (Lf.v (Value.int IntKind.u8 (conT k l).kind)),sV ((conT k l).name),bV ((conT k l).neg),PV.f (Lf.lr (conT k l).digits 0),PV.f (Lf.dt Sh.tm (conT k l).kids)])) ?kr ?_
     case kr=>kernel_rfl
     refine ⟨rfl,?m0⟩
     case m0=>exact (tm_sub (t:=conT k l) rfl).sub
   · cases hs
 · cases hs
end Go.Proofs.YtpjjdngoblfleaaGreat
