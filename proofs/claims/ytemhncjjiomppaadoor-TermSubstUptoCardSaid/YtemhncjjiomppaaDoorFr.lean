/- The names of a term: the contract of Free. -/
import Derived.Test.YtemhncjjiomppaaDoorFs
namespace Go.Proofs.YtemhncjjiomppaaDoor
open Go.RowKit
set_option linter.unusedVariables false
set_option maxRecDepth 100000
def Qk1:Spec2
 | [x,.bp 0 0,.bp 1 0],[.cells [.tl 2 (.dt .str L)],.cells [.fn 35 [] [.bp 0 0,.bp 1 0]],.tail 9 1]=>match tmOf x with
  | some t=>some (.need (t.fitT∧L.length+t.size≤100000000) (.ret (.tup []) [.cells [.tl 2 (.dt .str (L++Qab t))],.cells [.fn 35 [] [.bp 0 0,.bp 1 0]],.tail 9 1]))
  | none=>none
 | _,_=>none
theorem cFree1 {E:Env} (hU:Up E):Contract2 Tryd.prog E 35 Qk1:=by
 intro xs ob o hs hok
 unfold Qk1 at hs
 split at hs
 · rename_i x L
   split at hs
   · rename_i t ht
     cases hs
     exact Qml hU (t.size+1) [x,.bp 0 0,.bp 1 0] _ (.need (t.size<t.size+1∧t.fitT∧L.length+t.size≤100000000) (.ret (.tup []) [.cells [.tl 2 (.dt .str (L++Qab t))],.cells [.fn 35 [] [.bp 0 0,.bp 1 0]],.tail 9 1])) (by simp only [Qep,ht]) ⟨⟨Nat.lt_succ_self _,hok.1⟩,hok.2⟩
   · cases hs
 · cases hs
def QmN:Spec
 | [x]=>match tmOf x with
  | some t=>some (some (t.fitT∧t.size≤100000000),.one (.f (.dt .str (Qah (Qab t)))))
  | none=>none
 | _=>none
theorem cFree {E:Env} (hU:Up E):Contract Tryd.prog E 11 QmN:=by
 refine Qki 5 [] [(35,Qk1)] Tryd.ntmps11 Tryd.func11 (by kernel_rfl) (by kernel_rfl) hU trivial ⟨cFree1 hU,trivial⟩ ?_
 intro xs p r hs hp
 unfold QmN at hs
 split at hs
 · rename_i x
   split at hs
   · rename_i t ht
     cases hs
     obtain ⟨hft,hsz⟩:=hp _ rfl
     have hnl:=Qc0 t
     refine ⟨[tmP t],[(1000004,.s ⟨Unit,fun _=>⟨[(1,.bp 0 0),(3,.bp 1 0),(4,.bp 2 0)],[.cells (Qad (tmC t)),.cells [.tl 3 (.dt .str [])],.cells [.fn 35 [] [.bp 1 0,.bp 2 0]],.tail 9 1]⟩,fun _=>True,fun _=>0⟩)],Qoa t (Qab t),.cons (QaK ht).sub .nil,rfl,fun w0 H0 s g a w hK hB0 hs hR=>Qnm (by omega) hK hB0 hs hR,fun _ hsh=>?_⟩
     have h0:=hft
     refine Qag (p:=(∃ (x1:Unit),(((SubB (PV.f (Lf.v (Value.int IntKind.u8 t.kind))) (PV.f (Lf.v (Value.int IntKind.u8 t.kind)))∧SubB (sV t.name) (sV t.name)∧SubB (bV t.neg) (bV t.neg)∧SubB (PV.f (Lf.lr t.digits t.digits.length)) (PV.f (Lf.lr t.digits t.digits.length))∧SubB (PV.f (Lf.dt Sh.tm t.kids)) (PV.f (Lf.dt Sh.tm t.kids))∧True)∧(Qch (PV.tl 3 (Lf.dt Sh.str []))∧True)∧(SubB (PV.fn 35 [] [PV.bp 1 0,PV.bp 2 0]) (PV.fn 35 [] [PV.bp 1 0,PV.bp 2 0])∧True)∧True)∧SubB (PV.bp 0 0) (PV.bp 0 0)∧SubB (PV.bp 1 0) (PV.bp 1 0)∧SubB (PV.bp 2 0) (PV.bp 2 0)∧True)∧True)∧∀ (z1:Unit),True→((Tw.mk t.kind t.name t.neg t.digits t.kids).fitT∧0+(Tw.mk t.kind t.name t.neg t.digits t.kids).size≤100000000)∧[PO.cells (Qad (tmC t)),PO.cells [PV.tl 3 (Lf.dt Sh.str ([]++Qab (Tw.mk t.kind t.name t.neg t.digits t.kids)))],PO.cells [PV.fn 35 [] [PV.bp 1 0,PV.bp 2 0]],PO.tail 9 1]=[PO.cells (Qad (tmC t)),PO.cells [PV.tl 3 (Lf.dt Sh.str (Qab t))],PO.cells [PV.fn 35 [] [PV.bp 1 0,PV.bp 2 0]],PO.tail 9 1]∧some (PV.bp 1 0)=some (PV.bp 1 0)) ?kr ?_
     case kr=>kernel_rfl
     refine ⟨⟨?x0,⟨?s0,trivial⟩⟩,fun z1=>fun _=>⟨?s1,⟨?s2,rfl⟩⟩⟩
     case x0=>exact ()
     case s0=>repeat' first | exact SubB.refl _ | exact trivial | exact rfl | refine And.intro ?_ ?_
     case s1=>rw [Tw.eta]; exact ⟨hft,by omega⟩
     case s2=>rw [Tw.eta,List.nil_append]
   · cases hs
 · cases hs
end Go.Proofs.YtemhncjjiomppaaDoor
