/- The layer norm: its words, the small functions. -/
import Derived.Test.YtijfaigpilfpaaaGreatDoorTf
namespace Go.Proofs.YtijfaigpilfpaaaGreatDoor
open Go.RowKit
set_option linter.unusedVariables false
set_option maxRecDepth 100000
mutual
theorem Qfg {D:List Dat} {S:List Srt}:∀ {t:Tw} {e:Int},QaK D S t=.error e→e≠0
 | .mk k n b d l,e,h=>by
  rw [QaK] at h
  split at h
  · cases h; decide
  split at h
  · cases h; decide
  split at h
  · cases h; decide
  split at h
  · unfold varS at h
    split at h
    · split at h
      · cases h
      · cases h; decide
    · cases h; decide
  · cases hl:Qbb D S l with
    | error e'=>rw [hl] at h; cases h; exact Qil hl
    | ok m =>
     rw [hl] at h
     dsimp only at h
     unfold Qco funS at h
     repeat' split at h
     all_goals first | (cases h; decide) | cases h
theorem Qil {D:List Dat} {S:List Srt}:∀ {l:List Tw} {e:Int},Qbb D S l=.error e→e≠0
 | [],e,h=>by cases h
 | t::l,e,h=>by
  simp only [Qbb] at h
  cases ht:QaK D S t with
  | error e'=>rw [ht] at h; cases h; exact Qfg ht
  | ok s =>
   rw [ht] at h
   cases hl:Qbb D S l with
   | error e'=>rw [hl] at h; cases h; exact Qil hl
   | ok m=>rw [hl] at h; cases h
end
theorem Qa9 {s:Sh} {x:Lf} {l:List s.T} (h:dtOf s x=some l):SubB (.f x) (.f (.dt s l)):=⟨fun H B v hv=>.f (Qa5 h _ _ hv.rd)⟩
def Qn0:Spec
 | [.f (.lr d m)]=>some (some (d.length≤40000000),.one (.f (.lr d d.length)))
 | _=>none
theorem QsZ {P:Program} {E:Env}:Contract2 P E QiF (fun _ _=>none):=fun _ _ _ h=>by cases h
theorem is_lr {d:List Nat} (h:∀ x∈d,x<4294967296):SubB (.f (.is .u32 ([]++d.map Int.ofNat))) (.f (.lr d d.length)):=⟨fun H B v hv=>.f (QjP (f:=.is .u32 ([]++d.map Int.ofNat)) (k:=1) (n:=d.length) (get:=fun i=>[.v (.int .u32 (([]++d.map Int.ofNat).getD i 0))]) (by rw [Lf.view,List.nil_append,List.length_map]) rfl ⟨Nat.le_refl _,h⟩ (Nat.le_refl _) (fun i hi=>by
  have hi:i<d.length:=hi
  rw [List.nil_append,List.getD_eq_getElem?_getD,List.getD_eq_getElem?_getD,List.getElem?_map,List.getElem?_eq_getElem hi]; rfl) hv.rd)⟩
theorem cClone {E:Env} (hU:Up E):Contract Tryz.prog E 256 Qn0:=by
 refine Qac [] [(QiF,fun _ _=>none)] Tryz.ntmps256 Tryz.func256 (by kernel_rfl) (by kernel_rfl) hU trivial ⟨QsZ,trivial⟩ ?_
 intro xs p r hs hp
 unfold Qn0 at hs
 split at hs
 · rename_i d m
   cases hs
   have hd:=hp _ rfl
   refine ⟨[.f (.lr d m)],[],.cons (.refl _) .nil,rfl,fun hg hsh=>?_⟩
   have hgd:∀ x∈d,x<4294967296:=hg.1.1.2
   refine Qab (p:=(d.length=0→true=true∧Sub (nlP) (PV.f (Lf.lr d d.length)))∧(0+d.length≤9223372036854775807∧(0+d.length) * 4≤140737488355328)∧true=true∧Sub (PV.f (Lf.is IntKind.u32 ([]++List.map Int.ofNat d))) (PV.f (Lf.lr d d.length))) ?kr ?_
   case kr=>kernel_rfl
   refine ⟨fun hq0=>⟨rfl,?m0⟩,⟨?s0,⟨rfl,?m1⟩⟩⟩
   case m0 =>
    obtain rfl:d=[]:=List.length_eq_zero_iff.1 hq0
    exact ⟨fun H v hv=>.f (hv.rd.val rfl ▸ Qor (k:=1) rfl ⟨Nat.le_refl _,fun x hx=>by cases hx⟩)⟩
   case s0=>omega
   case m1=>exact (is_lr hgd).sub
 · cases hs
end Go.Proofs.YtijfaigpilfpaaaGreatDoor
