/- The layer model: a term at work. -/
import Derived.Test.YtpjjdngoblfleaaGreatMn
namespace Go.Proofs.YtpjjdngoblfleaaGreat
open Go.RowKit
set_option linter.unusedVariables false
set_option maxRecDepth 100000
def wkC (D:List Dat) (t:Tw) (l:List Vw):List Lf:=.dt .dat D::(tmC t++[.dt .vl l])
def wkP (D:List Dat) (t:Tw) (l:List Vw):PV:=.agg (wrapF (wkC D t l))
def wkOf:PV→Option (List Dat × Tw × List Vw)
 | .agg l=>match leafs l with
  | some [d,k,n,b,g,x,v]=>match dtOf .dat d,toTm [k,n,b,g,x],dtOf .vl v with
   | some D,some t,some m=>some (D,t,m)
   | _,_,_=>none
  | _=>none
 | _=>none
theorem wk_sub {x:PV} {D:List Dat} {t:Tw} {l:List Vw} (h:wkOf x=some (D,t,l)):SubB x (wkP D t l):=by
 unfold wkOf at h
 split at h
 · split at h
   · rename_i d k n b g x v hm
     split at h
     · rename_i D t m hd ht hv
       cases h
       have h5:=toTm_sub ht
       unfold tmC at h5
       cases h5 with
       | cons h1 h5=>cases h5 with
        | cons h2 h5=>cases h5 with
         | cons h3 h5=>cases h5 with
          | cons h4 h5=>cases h5 with
           | cons h6 _=>exact leaf_sub hm (.cons (dtOf_rd hd) (.cons h1 (.cons h2 (.cons h3 (.cons h4 (.cons h6 (.cons (dtOf_rd hv) .nil)))))))
     · cases h
   · cases h
 · cases h
def numV (z:Int):Vw:=.mk 1 (zNeg z) (digs 1000000000 z.natAbs) false ⟨#[]⟩ []
def boolV (b:Bool):Vw:=.mk 2 false [] b ⟨#[]⟩ []
def anyK (l:List Vw) (k:Int):Int:=anyB l fun v=>decide (v.kind≠k)
def anyT (l:List Vw) (b:Bool):Int:=anyB l fun v=>decide (v.truth≠b)
def hasK (l:List Vw) (k:Int):Bool:=decide (0≤anyK l k)
def hasT (l:List Vw) (b:Bool):Bool:=decide (0≤anyT l b)
def allV (l:List Vw) (k:Int):Bool:=!hasK l k
def eachV (l:List Vw) (b:Bool):Bool:=!hasT l b
def sAllF:Spec2
 | [x,.bp 0 0],[.cells [.f (.v (.int .u8 k))]]=>match vlOf x with
  | some v=>some (.ret (bV (decide (v.kind≠k))) [.cells [.f (.v (.int .u8 k))]])
  | none=>none
 | _,_=>none
theorem cAllF {E:Env} (hU:Up E):Contract2 Tryz.prog E 119 sAllF:=by
 refine contract2 [] [] Tryz.ntmps119 Tryz.func119 (by kernel_rfl) (by kernel_rfl) hU trivial trivial ?_
 intro xs ob o hs hok
 unfold sAllF at hs
 split at hs
 · rename_i x k
   split at hs
   · rename_i v hv
     cases hs
     refine ⟨[vlP v,.bp 0 0],[],.cons (vl_sub hv) (.cons (.refl _) .nil),rfl,fun _ hsh=>?_⟩
     refine cast_rfl (p:=EndU 1 (Out.ret (bV (decide (v.kind≠k))) [PO.cells [PV.f (Lf.v (Value.int IntKind.u8 k))]]).fin true (bV (v.kind != k)) [PO.cells [PV.f (Lf.v (Value.int IntKind.u8 k))],PO.cells (wrapF (vlC v))]) ?kr ?_
     case kr=>kernel_rfl
     refine ?m0
     case m0=>exact endU rfl (subB_b (by by_cases h:v.kind=k <;> simp [h])) rfl rfl (r:=[.cells (wrapF (vlC v))]) rfl
   · cases hs
 · cases hs
def sEachF:Spec2
 | [x,.bp 0 0],[.cells [.f (.v (.bool k))]]=>match vlOf x with
  | some v=>some (.ret (bV (decide (v.truth≠k))) [.cells [.f (.v (.bool k))]])
  | none=>none
 | _,_=>none
theorem cEachF {E:Env} (hU:Up E):Contract2 Tryz.prog E 124 sEachF:=by
 refine contract2 [] [] Tryz.ntmps124 Tryz.func124 (by kernel_rfl) (by kernel_rfl) hU trivial trivial ?_
 intro xs ob o hs hok
 unfold sEachF at hs
 split at hs
 · rename_i x k
   split at hs
   · rename_i v hv
     cases hs
     refine ⟨[vlP v,.bp 0 0],[],.cons (vl_sub hv) (.cons (.refl _) .nil),rfl,fun _ hsh=>?_⟩
     refine cast_rfl (p:=EndU 1 (Out.ret (bV (decide (v.truth≠k))) [PO.cells [bV k]]).fin true (bV (!v.truth==k)) [PO.cells [bV k],PO.cells (wrapF (vlC v))]) ?kr ?_
     case kr=>kernel_rfl
     refine ?m0
     case m0=>exact endU rfl (subB_b (by cases v.truth <;> cases k <;> rfl)) rfl rfl (r:=[.cells (wrapF (vlC v))]) rfl
   · cases hs
 · cases hs
def sIndexA:Spec2
 | [.f (.dt .vl l),.fn f [] [.bp 0 0]],[.cells [.f (.v (.int .u8 k))]]=>match Nat.beq f 119 with
  | true=>some (.ret (iV (anyK l k)) [.cells [.f (.v (.int .u8 k))]])
  | false=>none
 | _,_=>none
theorem cIndexA {E:Env} (hU:Up E):Contract2 Tryz.prog E 133 sIndexA:=by
 refine contract2 [] [(119,sAllF)] Tryz.ntmps133 Tryz.func133 (by kernel_rfl) (by kernel_rfl) hU trivial ⟨cAllF hU,trivial⟩ ?_
 intro xs ob o hs hok
 unfold sIndexA at hs
 split at hs
 · rename_i l f k
   split at hs
   · rename_i hf
     cases hs
     have hf:=Nat.eq_of_beq_eq_true hf
     subst hf
     refine ⟨[.f (.dt .vl l),.fn 119 [] [.bp 0 0]],[(2,.s ⟨Nat,fun i=>⟨[(0,.f (.dt .vl l)),(1,.fn 119 [] [.bp 0 0]),(7,iV l.length),(8,iV i)],[.cells [.f (.v (.int .u8 k))]]⟩,fun i=>i≤l.length∧∀ j,j<i→(Vw.kind (l.getD j Sh.vl.nil)=k),fun i=>l.length - i⟩)],.cons (.refl _) (.cons (.refl _) .nil),rfl,fun _ hsh=>?_⟩
     have hl:=short_row hsh.1
     refine cast_rfl (p:=∃ (x1:Nat),(((SubB (PV.f (Lf.v (Value.int IntKind.u8 k))) (PV.f (Lf.v (Value.int IntKind.u8 k)))∧True)∧True)∧SubB (PV.f (Lf.dt Sh.vl l)) (PV.f (Lf.dt Sh.vl l))∧SubB (PV.fn 119 [] [PV.bp 0 0]) (PV.fn 119 [] [PV.bp 0 0])∧SubB (iV (↑l.length:Int)) (iV (↑l.length:Int))∧SubB (iV 0) (iV (↑x1:Int))∧True)∧(x1≤l.length∧∀ (j:Nat),j<x1→Vw.kind (l.getD j Sh.vl.nil)=k)∧True∧∀ (z2:Nat),(z2≤l.length∧∀ (j:Nat),j<z2→Vw.kind (l.getD j Sh.vl.nil)=k)→True→ifB (decide ((↑z2:Int)<(↑l.length:Int))) (((0:Int)≤(↑z2:Int)∧(↑z2:Int)<(↑l.length:Int))∧ifB (decide ((Vw.mk (Vw.kind (l.getD (↑z2:Int).toNat Sh.vl.nil)) (Vw.neg (l.getD (↑z2:Int).toNat Sh.vl.nil)) (Vw.digits (l.getD (↑z2:Int).toNat Sh.vl.nil)) (Vw.truth (l.getD (↑z2:Int).toNat Sh.vl.nil)) (Vw.name (l.getD (↑z2:Int).toNat Sh.vl.nil)) (Vw.fields (l.getD (↑z2:Int).toNat Sh.vl.nil))).kind≠k)) (EndU 1 (Out.ret (iV (anyK l k)) [PO.cells [PV.f (Lf.v (Value.int IntKind.u8 k))]]).fin true (iV (↑z2:Int)) [PO.cells [PV.f (Lf.v (Value.int IntKind.u8 k))]]) (∃ (x3:Nat),(((SubB (PV.f (Lf.v (Value.int IntKind.u8 k))) (PV.f (Lf.v (Value.int IntKind.u8 k)))∧True)∧True)∧SubB (PV.f (Lf.dt Sh.vl l)) (PV.f (Lf.dt Sh.vl l))∧SubB (PV.fn 119 [] [PV.bp 0 0]) (PV.fn 119 [] [PV.bp 0 0])∧SubB (iV (↑l.length:Int)) (iV (↑l.length:Int))∧SubB (iV (IntKind.i64.wrap ((↑z2:Int)+(1:Int)))) (iV (↑x3:Int))∧True)∧(x3≤l.length∧∀ (j:Nat),j<x3→Vw.kind (l.getD j Sh.vl.nil)=k)∧True∧(l.length - x3).succ.le (l.length - z2))) (EndU 1 (Out.ret (iV (anyK l k)) [PO.cells [PV.f (Lf.v (Value.int IntKind.u8 k))]]).fin true (iV (-1:Int)) [PO.cells [PV.f (Lf.v (Value.int IntKind.u8 k))]])) ?kr ?_
     case kr=>kernel_rfl
     refine ⟨?x0,⟨⟨⟨⟨.refl _,trivial⟩,trivial⟩,⟨.refl _,⟨.refl _,⟨.refl _,⟨?m0,trivial⟩⟩⟩⟩⟩,⟨?s0,⟨trivial,fun z2=>fun hq0=>fun _=>ifB_iff.2 ⟨fun hb1=>⟨?s1,ifB_iff.2 ⟨fun hb2=>?m1,fun hb2=>⟨?x1,⟨⟨⟨⟨.refl _,trivial⟩,trivial⟩,⟨.refl _,⟨.refl _,⟨.refl _,⟨?m2,trivial⟩⟩⟩⟩⟩,⟨?s2,⟨trivial,?m3⟩⟩⟩⟩⟩⟩,fun hb1=>?m4⟩⟩⟩⟩⟩
     case x0=>exact 0
     case x1=>exact z2+1
     all_goals try simp only [Vw.eta,ne_eq,decide_eq_true_eq,decide_eq_false_iff_not,Decidable.not_not,Int.toNat_natCast] at *
     case m0=>exact .refl _
     case s0=>exact ⟨Nat.zero_le _,fun k hk=>by omega⟩
     case s1=>omega
     case m1=>exact endU rfl (subB_i (anyB_hit Sh.vl.nil (by omega) (by simpa using hb2) (fun j hj=>by simpa using hq0.2 j hj)).symm) rfl rfl (r:=[]) rfl
     case m2=>exact subB_i (by rw [wJ _ (by omega) (by omega)]; omega)
     case s2 =>
      refine ⟨by omega,fun j hj=>?_⟩
      by_cases hjz:j=z2
      · subst hjz; exact hb2
      · exact hq0.2 j (by omega)
     case m3=>exact (by omega:l.length - (z2+1)<l.length - z2)
     case m4=>exact endU rfl (subB_i (anyB_miss Sh.vl.nil fun j hj=>by simpa using hq0.2 j (by omega)).symm) rfl rfl (r:=[]) rfl
   · cases hs
 · cases hs
def sIndexE:Spec2
 | [.f (.dt .vl l),.fn f [] [.bp 0 0]],[.cells [.f (.v (.bool k))]]=>match Nat.beq f 124 with
  | true=>some (.ret (iV (anyT l k)) [.cells [.f (.v (.bool k))]])
  | false=>none
 | _,_=>none
theorem cIndexE {E:Env} (hU:Up E):Contract2 Tryz.prog E 133 sIndexE:=by
 refine contract2 [] [(124,sEachF)] Tryz.ntmps133 Tryz.func133 (by kernel_rfl) (by kernel_rfl) hU trivial ⟨cEachF hU,trivial⟩ ?_
 intro xs ob o hs hok
 unfold sIndexE at hs
 split at hs
 · rename_i l f k
   split at hs
   · rename_i hf
     cases hs
     have hf:=Nat.eq_of_beq_eq_true hf
     subst hf
     refine ⟨[.f (.dt .vl l),.fn 124 [] [.bp 0 0]],[(2,.s ⟨Nat,fun i=>⟨[(0,.f (.dt .vl l)),(1,.fn 124 [] [.bp 0 0]),(7,iV l.length),(8,iV i)],[.cells [.f (.v (.bool k))]]⟩,fun i=>i≤l.length∧∀ j,j<i→(Vw.truth (l.getD j Sh.vl.nil)=k),fun i=>l.length - i⟩)],.cons (.refl _) (.cons (.refl _) .nil),rfl,fun _ hsh=>?_⟩
     have hl:=short_row hsh.1
     refine cast_rfl (p:=∃ (x1:Nat),(((SubB (bV k) (bV k)∧True)∧True)∧SubB (PV.f (Lf.dt Sh.vl l)) (PV.f (Lf.dt Sh.vl l))∧SubB (PV.fn 124 [] [PV.bp 0 0]) (PV.fn 124 [] [PV.bp 0 0])∧SubB (iV (↑l.length:Int)) (iV (↑l.length:Int))∧SubB (iV 0) (iV (↑x1:Int))∧True)∧(x1≤l.length∧∀ (j:Nat),j<x1→Vw.truth (l.getD j Sh.vl.nil)=k)∧True∧∀ (z2:Nat),(z2≤l.length∧∀ (j:Nat),j<z2→Vw.truth (l.getD j Sh.vl.nil)=k)→True→ifB (decide ((↑z2:Int)<(↑l.length:Int))) (((0:Int)≤(↑z2:Int)∧(↑z2:Int)<(↑l.length:Int))∧ifB (decide ((Vw.mk (Vw.kind (l.getD (↑z2:Int).toNat Sh.vl.nil)) (Vw.neg (l.getD (↑z2:Int).toNat Sh.vl.nil)) (Vw.digits (l.getD (↑z2:Int).toNat Sh.vl.nil)) (Vw.truth (l.getD (↑z2:Int).toNat Sh.vl.nil)) (Vw.name (l.getD (↑z2:Int).toNat Sh.vl.nil)) (Vw.fields (l.getD (↑z2:Int).toNat Sh.vl.nil))).truth≠k)) (EndU 1 (Out.ret (iV (anyT l k)) [PO.cells [bV k]]).fin true (iV (↑z2:Int)) [PO.cells [bV k]]) (∃ (x3:Nat),(((SubB (bV k) (bV k)∧True)∧True)∧SubB (PV.f (Lf.dt Sh.vl l)) (PV.f (Lf.dt Sh.vl l))∧SubB (PV.fn 124 [] [PV.bp 0 0]) (PV.fn 124 [] [PV.bp 0 0])∧SubB (iV (↑l.length:Int)) (iV (↑l.length:Int))∧SubB (iV (IntKind.i64.wrap ((↑z2:Int)+(1:Int)))) (iV (↑x3:Int))∧True)∧(x3≤l.length∧∀ (j:Nat),j<x3→Vw.truth (l.getD j Sh.vl.nil)=k)∧True∧(l.length - x3).succ.le (l.length - z2))) (EndU 1 (Out.ret (iV (anyT l k)) [PO.cells [bV k]]).fin true (iV (-1:Int)) [PO.cells [bV k]])) ?kr ?_
     case kr=>kernel_rfl
     refine ⟨?x0,⟨⟨⟨⟨.refl _,trivial⟩,trivial⟩,⟨.refl _,⟨.refl _,⟨.refl _,⟨?m0,trivial⟩⟩⟩⟩⟩,⟨?s0,⟨trivial,fun z2=>fun hq0=>fun _=>ifB_iff.2 ⟨fun hb1=>⟨?s1,ifB_iff.2 ⟨fun hb2=>?m1,fun hb2=>⟨?x1,⟨⟨⟨⟨.refl _,trivial⟩,trivial⟩,⟨.refl _,⟨.refl _,⟨.refl _,⟨?m2,trivial⟩⟩⟩⟩⟩,⟨?s2,⟨trivial,?m3⟩⟩⟩⟩⟩⟩,fun hb1=>?m4⟩⟩⟩⟩⟩
     case x0=>exact 0
     case x1=>exact z2+1
     all_goals try simp only [Vw.eta,ne_eq,decide_eq_true_eq,decide_eq_false_iff_not,Decidable.not_not,Int.toNat_natCast] at *
     case m0=>exact .refl _
     case s0=>exact ⟨Nat.zero_le _,fun k hk=>by omega⟩
     case s1=>omega
     case m1=>exact endU rfl (subB_i (anyB_hit Sh.vl.nil (by omega) (by simpa using hb2) (fun j hj=>by simpa using hq0.2 j hj)).symm) rfl rfl (r:=[]) rfl
     case m2=>exact subB_i (by rw [wJ _ (by omega) (by omega)]; omega)
     case s2 =>
      refine ⟨by omega,fun j hj=>?_⟩
      by_cases hjz:j=z2
      · subst hjz; exact hb2
      · exact hq0.2 j (by omega)
     case m3=>exact (by omega:l.length - (z2+1)<l.length - z2)
     case m4=>exact endU rfl (subB_i (anyB_miss Sh.vl.nil fun j hj=>by simpa using hq0.2 j (by omega)).symm) rfl rfl (r:=[]) rfl
   · cases hs
 · cases hs
def sContA:Spec2
 | [.f (.dt .vl l),.fn f [] [.bp 0 0]],[.cells [.f (.v (.int .u8 k))]]=>match Nat.beq f 119 with
  | true=>some (.ret (bV (hasK l k)) [.cells [.f (.v (.int .u8 k))]])
  | false=>none
 | _,_=>none
theorem cContA {E:Env} (hU:Up E):Contract2 Tryz.prog E 118 sContA:=by
 refine contract2 [] [(133,sIndexA)] Tryz.ntmps118 Tryz.func118 (by kernel_rfl) (by kernel_rfl) hU trivial ⟨cIndexA hU,trivial⟩ ?_
 intro xs ob o hs hok
 unfold sContA at hs
 split at hs
 · rename_i l f k
   split at hs
   · rename_i hf
     cases hs
     have hf:=Nat.eq_of_beq_eq_true hf
     subst hf
     refine ⟨[.f (.dt .vl l),.fn 119 [] [.bp 0 0]],[],.cons (.refl _) (.cons (.refl _) .nil),rfl,fun _ hsh=>?_⟩
     refine cast_rfl (p:=EndU 1 (Out.ret (bV (hasK l k)) [PO.cells [PV.f (Lf.v (Value.int IntKind.u8 k))]]).fin true (bV (decide (anyK l k ≥ (0:Int)))) [PO.cells [PV.f (Lf.v (Value.int IntKind.u8 k))]]) ?kr ?_
     case kr=>kernel_rfl
     refine ?m0
     case m0=>exact endU rfl (subB_b rfl) rfl rfl (r:=[]) rfl
   · cases hs
 · cases hs
def sContE:Spec2
 | [.f (.dt .vl l),.fn f [] [.bp 0 0]],[.cells [.f (.v (.bool k))]]=>match Nat.beq f 124 with
  | true=>some (.ret (bV (hasT l k)) [.cells [.f (.v (.bool k))]])
  | false=>none
 | _,_=>none
theorem cContE {E:Env} (hU:Up E):Contract2 Tryz.prog E 118 sContE:=by
 refine contract2 [] [(133,sIndexE)] Tryz.ntmps118 Tryz.func118 (by kernel_rfl) (by kernel_rfl) hU trivial ⟨cIndexE hU,trivial⟩ ?_
 intro xs ob o hs hok
 unfold sContE at hs
 split at hs
 · rename_i l f k
   split at hs
   · rename_i hf
     cases hs
     have hf:=Nat.eq_of_beq_eq_true hf
     subst hf
     refine ⟨[.f (.dt .vl l),.fn 124 [] [.bp 0 0]],[],.cons (.refl _) (.cons (.refl _) .nil),rfl,fun _ hsh=>?_⟩
     refine cast_rfl (p:=EndU 1 (Out.ret (bV (hasT l k)) [PO.cells [bV k]]).fin true (bV (decide (anyT l k ≥ (0:Int)))) [PO.cells [bV k]]) ?kr ?_
     case kr=>kernel_rfl
     refine ?m0
     case m0=>exact endU rfl (subB_b rfl) rfl rfl (r:=[]) rfl
   · cases hs
 · cases hs
def sAllM:Spec
 | [x,.f (.v (.int .u8 k))]=>match wkOf x with
  | some (D,t,l)=>some (none,.nm Bool (allV l k) bV)
  | none=>none
 | _=>none
theorem cAllM {E:Env} (hU:Up E):Contract Tryz.prog E 85 sAllM:=by
 refine contract_D [] [(118,sContA)] Tryz.ntmps85 Tryz.func85 (by kernel_rfl) (by kernel_rfl) hU trivial ⟨cContA hU,trivial⟩ ?_
 intro xs p r hs hp
 unfold sAllM at hs
 split at hs
 · rename_i x k
   split at hs
   · rename_i D t l hv
     cases hs
     refine ⟨[wkP D t l,.f (.v (.int .u8 k))],[],.cons (wk_sub hv).sub (.cons (.refl _) .nil),rfl,fun _ hsh=>?_⟩
     have h0:=hv
     refine cast_rfl (p:=true=true∧Sub (bV (!hasK l k)) (bV (allV l k))) ?kr ?_
     case kr=>kernel_rfl
     refine ⟨rfl,?m0⟩
     case m0=>exact .refl _
   · cases hs
 · cases hs
def sEachM:Spec
 | [x,.f (.v (.bool k))]=>match wkOf x with
  | some (D,t,l)=>some (none,.nm Bool (eachV l k) bV)
  | none=>none
 | _=>none
theorem cEachM {E:Env} (hU:Up E):Contract Tryz.prog E 91 sEachM:=by
 refine contract_D [] [(118,sContE)] Tryz.ntmps91 Tryz.func91 (by kernel_rfl) (by kernel_rfl) hU trivial ⟨cContE hU,trivial⟩ ?_
 intro xs p r hs hp
 unfold sEachM at hs
 split at hs
 · rename_i x k
   split at hs
   · rename_i D t l hv
     cases hs
     refine ⟨[wkP D t l,.f (.v (.bool k))],[],.cons (wk_sub hv).sub (.cons (.refl _) .nil),rfl,fun _ hsh=>?_⟩
     have h0:=hv
     refine cast_rfl (p:=true=true∧Sub (bV (!hasT l k)) (bV (eachV l k))) ?kr ?_
     case kr=>kernel_rfl
     refine ⟨rfl,?m0⟩
     case m0=>exact .refl _
   · cases hs
 · cases hs
end Go.Proofs.YtpjjdngoblfleaaGreat
