/- The layer norm: its words, the small functions. -/
import Derived.Test.YtdeacbdpmdfgdaaDoorTf
namespace Go.Proofs.YtdeacbdpmdfgdaaDoor
open Go.RowKit
set_option linter.unusedVariables false
set_option maxRecDepth 100000
theorem leaf_sub {l:List PV} {m M:List Lf} (hm:leafs l=some m) (hs:SubL m M):SubB (.agg l) (.agg (wrapF M)):=by
 obtain ⟨h1,h2⟩:=leafs_at hm
 refine ⟨fun H B v hv=>?_⟩
 obtain ⟨vs,rfl,h3⟩:=PRs.of_agg hv
 refine PRs.agg ⟨by rw [h3.1,← h1,wrapF_len,hs.len],fun i u y hu hy=>?_⟩
 rw [wrapF_at] at hy
 cases hc:M[i]? with
 | none=>rw [hc] at hy; cases hy
 | some z =>
  rw [hc] at hy
  cases hy
  obtain ⟨x,h4,h5⟩:=hs.at hc
  exact .f (h5 _ _ (h3.2 i u _ hu (h2 i x h4)).rd)
theorem dt_sub {s:Sh} {x:Lf} {l:List s.T} (h:dtOf s x=some l):SubB (.f x) (.f (.dt s l)):=⟨fun H B v hv=>.f (dtOf_rd h _ _ hv.rd)⟩
def sClone:Spec
 | [.f (.lr d m)]=>some (some (d.length≤40000000),.one (.f (.lr d d.length)))
 | _=>none
theorem noNil {P:Program} {E:Env}:Contract2 P E nilKey (fun _ _=>none):=fun _ _ _ h=>by cases h
theorem is_lr {d:List Nat} (h:∀ x∈d,x<4294967296):SubB (.f (.is .u32 ([]++d.map Int.ofNat))) (.f (.lr d d.length)):=⟨fun H B v hv=>.f (rd_view (f:=.is .u32 ([]++d.map Int.ofNat)) (k:=1) (n:=d.length) (get:=fun i=>[.v (.int .u32 (([]++d.map Int.ofNat).getD i 0))]) (by rw [Lf.view,List.nil_append,List.length_map]) rfl ⟨Nat.le_refl _,h⟩ (Nat.le_refl _) (fun i hi=>by
  have hi:i<d.length:=hi
  rw [List.nil_append,List.getD_eq_getElem?_getD,List.getD_eq_getElem?_getD,List.getElem?_map,List.getElem?_eq_getElem hi]; rfl) hv.rd)⟩
theorem cClone {E:Env} (hU:Up E):Contract Tryd.prog E 79 sClone:=by
 refine contract_D [] [(nilKey,fun _ _=>none)] Tryd.ntmps79 Tryd.func79 (by kernel_rfl) (by kernel_rfl) hU trivial ⟨noNil,trivial⟩ ?_
 intro xs p r hs hp
 unfold sClone at hs
 split at hs
 · rename_i d m
   cases hs
   have hd:=hp _ rfl
   refine ⟨[.f (.lr d m)],[],.cons (.refl _) .nil,rfl,fun hg hsh=>?_⟩
   have hgd:∀ x∈d,x<4294967296:=hg.1.1.2
   refine cast_rfl (p:=(d.length=0→true=true∧Sub (PV.f (Lf.v (Value.slice none 0 0))) (PV.f (Lf.lr d d.length)))∧(0+d.length≤9223372036854775807∧(0+d.length) * 4≤140737488355328)∧true=true∧Sub (PV.f (Lf.is IntKind.u32 ([]++List.map Int.ofNat d))) (PV.f (Lf.lr d d.length))) ?kr ?_
   case kr=>kernel_rfl
   refine ⟨fun hq0=>⟨rfl,?m0⟩,⟨?s0,⟨rfl,?m1⟩⟩⟩
   case m0 =>
    obtain rfl:d=[]:=List.length_eq_zero_iff.1 hq0
    exact ⟨fun H v hv=>.f (hv.rd.val rfl ▸ nil_rd (k:=1) rfl ⟨Nat.le_refl _,fun x hx=>by cases hx⟩)⟩
   case s0=>omega
   case m1=>exact (is_lr hgd).sub
 · cases hs
end Go.Proofs.YtdeacbdpmdfgdaaDoor
