/- The layer norm: its words, the small functions. -/
import Derived.Test.YtemhncjjiomppaaGreatDoorTf
namespace Go.Proofs.YtemhncjjiomppaaGreatDoor
open Go.RowKit
set_option linter.unusedVariables false
set_option maxRecDepth 100000
theorem QlO {l:List PV} {m M:List Lf} (hm:leafs l=some m) (hs:SubL m M):SubB (.agg l) (.agg (Qaf M)):=by
 obtain ⟨h1,h2⟩:=QbF hm
 refine ⟨fun H B v hv=>?_⟩
 obtain ⟨vs,rfl,h3⟩:=PRs.of_agg hv
 refine PRs.agg ⟨by rw [h3.1,← h1,QdG,hs.len],fun i u y hu hy=>?_⟩
 rw [Qe1] at hy
 cases hc:M[i]? with
 | none=>rw [hc] at hy; cases hy
 | some z =>
  rw [hc] at hy
  cases hy
  obtain ⟨x,h4,h5⟩:=hs.at hc
  exact .f (h5 _ _ (h3.2 i u _ hu (h2 i x h4)).rd)
theorem Qgn {s:Sh} {x:Lf} {l:List s.T} (h:dtOf s x=some l):SubB (.f x) (.f (.dt s l)):=⟨fun H B v hv=>.f (Qbp h _ _ hv.rd)⟩
def Qey:Spec
 | [.f (.lr d m)]=>some (some (d.length≤40000000),.one (.f (.lr d d.length)))
 | _=>none
theorem noNil {P:Program} {E:Env}:Contract2 P E Qkd (fun _ _=>none):=fun _ _ _ h=>by cases h
theorem Qnw {d:List Nat} (h:∀ x∈d,x<4294967296):SubB (.f (.is .u32 ([]++d.map Int.ofNat))) (.f (.lr d d.length)):=⟨fun H B v hv=>.f (QjX (f:=.is .u32 ([]++d.map Int.ofNat)) (k:=1) (n:=d.length) (get:=fun i=>[.v (.int .u32 (([]++d.map Int.ofNat).getD i 0))]) (by rw [Lf.view,List.nil_append,List.length_map]) rfl ⟨Nat.le_refl _,h⟩ (Nat.le_refl _) (fun i hi=>by
  have hi:i<d.length:=hi
  rw [List.nil_append,List.getD_eq_getElem?_getD,List.getD_eq_getElem?_getD,List.getElem?_map,List.getElem?_eq_getElem hi]; rfl) hv.rd)⟩
theorem cClone {E:Env} (hU:Up E):Contract Tryz.prog E 138 Qey:=by
 refine Qak [] [(Qkd,fun _ _=>none)] Tryz.ntmps138 Tryz.func138 (by kernel_rfl) (by kernel_rfl) hU trivial ⟨noNil,trivial⟩ ?_
 intro xs p r hs hp
 unfold Qey at hs
 split at hs
 · rename_i d m
   cases hs
   have hd:=hp _ rfl
   refine ⟨[.f (.lr d m)],[],.cons (.refl _) .nil,rfl,fun hg hsh=>?_⟩
   have hgd:∀ x∈d,x<4294967296:=hg.1.1.2
   refine Qah (p:=(d.length=0→true=true∧Sub (PV.f (Lf.v (Value.slice none 0 0))) (PV.f (Lf.lr d d.length)))∧(0+d.length≤9223372036854775807∧(0+d.length) * 4≤140737488355328)∧true=true∧Sub (PV.f (Lf.is IntKind.u32 ([]++List.map Int.ofNat d))) (PV.f (Lf.lr d d.length))) ?kr ?_
   case kr=>kernel_rfl
   refine ⟨fun hq0=>⟨rfl,?m0⟩,⟨?s0,⟨rfl,?m1⟩⟩⟩
   case m0 =>
    obtain rfl:d=[]:=List.length_eq_zero_iff.1 hq0
    exact ⟨fun H v hv=>.f (hv.rd.val rfl ▸ nil_rd (k:=1) rfl ⟨Nat.le_refl _,fun x hx=>by cases hx⟩)⟩
   case s0=>omega
   case m1=>exact (Qnw hgd).sub
 · cases hs
end Go.Proofs.YtemhncjjiomppaaGreatDoor
