/- The layer model: of some sort; memory of its own; sameness. -/
import Derived.Test.YtpjjdngoblfleaaGreatMb
namespace Go.Proofs.YtpjjdngoblfleaaGreat
open Go.RowKit
set_option linter.unusedVariables false
set_option maxRecDepth 100000
def vlO (D:List Dat) (v:Vw):List PO:=[.cells [.f (.dt .dat D)],.cells (wrapF (vlC v))]
def sSomeF:Spec2
 | [.agg [.f (.v (.string n)),.f (.dt .con l)],.bp 0 0,.bp 1 0],[.cells [.f (.dt .dat D)],.cells [.f (.v (.int .u8 k)),.f (.v (.bool g)),.f (.lr dg m),.f (.v (.bool tr)),.f (.v (.string nm)),.f (.dt .vl fs)]] =>
  some (.need (m=dg.length∧(Vw.mk k g dg tr nm fs).fitV 40000000) (.nm Bool (ofV D n (.mk k g dg tr nm fs)) fun z=>.ret (bV z) (vlO D (.mk k g dg tr nm fs))))
 | _,_=>none
theorem cSomeF {E:Env} (hU:Up E):Contract2 Tryz.prog E 79 sSomeF:=by
 refine contract2 [(26,sOfM)] [] Tryz.ntmps79 Tryz.func79 (by kernel_rfl) (by kernel_rfl) hU ⟨cOfM hU,trivial⟩ trivial ?_
 intro xs ob o hs hok
 unfold sSomeF at hs
 split at hs
 · rename_i n l D k g dg m tr nm fs
   cases hs
   obtain ⟨⟨rfl,hf⟩,-⟩:=hok
   refine ⟨[.agg [.f (.v (.string n)),.f (.dt .con l)],.bp 0 0,.bp 1 0],[],.cons (.refl _) (.cons (.refl _) (.cons (.refl _) .nil)),rfl,fun _ hsh=>?_⟩
   refine cast_rfl (p:=Vw.fitV 40000000 (Vw.mk k g dg tr nm fs)∧∀ (z1:Bool),z1=ofV D n (Vw.mk k g dg tr nm fs)→EndU 2 (Out.need (dg.length=dg.length∧Vw.fitV 40000000 (Vw.mk k g dg tr nm fs)) (Out.nm Bool (ofV D n (Vw.mk k g dg tr nm fs)) fun (z:Bool)=>Out.ret (bV z) (vlO D (Vw.mk k g dg tr nm fs)))).fin true (bV z1) [PO.cells [PV.f (Lf.dt Sh.dat D)],PO.cells [PV.f (Lf.v (Value.int IntKind.u8 k)),bV g,PV.f (Lf.lr dg dg.length),bV tr,sV nm,PV.f (Lf.dt Sh.vl fs)],PO.cells [sV n,PV.f (Lf.dt Sh.con l)]]) ?kr ?_
   case kr=>kernel_rfl
   refine ⟨?s0,fun z1=>fun hz1=>?m0⟩
   case s0=>exact hf
   case m0=>exact endU rfl (subB_b hz1) rfl rfl (r:=[.cells [sV n,.f (.dt .con l)]]) rfl
 · cases hs
def sIndexS:Spec2
 | [.f (.dt .dat D),.fn f [] [.bp 0 0,.bp 1 0]],[.cells [.f (.dt .dat D')],.cells [.f (.v (.int .u8 k)),.f (.v (.bool g)),.f (.lr dg m),.f (.v (.bool tr)),.f (.v (.string nm)),.f (.dt .vl fs)]]=>match Nat.beq f 79 with
  | true=>some (.need (m=dg.length∧(Vw.mk k g dg tr nm fs).fitV 40000000) (.nm Int (anyB D fun d=>ofV D' d.name (.mk k g dg tr nm fs)) fun z=>.ret (iV z) (vlO D' (.mk k g dg tr nm fs))))
  | false=>none
 | _,_=>none
theorem cIndexS {E:Env} (hU:Up E):Contract2 Tryz.prog E 115 sIndexS:=by
 refine contract2 [] [(79,sSomeF)] Tryz.ntmps115 Tryz.func115 (by kernel_rfl) (by kernel_rfl) hU trivial ⟨cSomeF hU,trivial⟩ ?_
 intro xs ob o hs hok
 unfold sIndexS at hs
 split at hs
 · rename_i D f D' k g dg m tr nm fs
   split at hs
   · rename_i hf
     cases hs
     have hf:=Nat.eq_of_beq_eq_true hf
     subst hf
     obtain ⟨⟨rfl,hf⟩,-⟩:=hok
     refine ⟨[.f (.dt .dat D),.fn 79 [] [.bp 0 0,.bp 1 0]],[(2,.s ⟨Nat,fun i=>⟨[(0,.f (.dt .dat D)),(1,.fn 79 [] [.bp 0 0,.bp 1 0]),(7,iV D.length),(8,iV i)],[.cells [.f (.dt .dat D')],.cells (wrapF (vlC (.mk k g dg tr nm fs)))]⟩,fun i=>i≤D.length∧∀ j,j<i→¬ (ofV D' (Dat.name (D.getD j Sh.dat.nil)) (.mk k g dg tr nm fs)=true),fun i=>D.length - i⟩)],.cons (.refl _) (.cons (.refl _) .nil),rfl,fun _ hsh=>?_⟩
     have hl:=short_row hsh.1
     refine cast_rfl (p:=∃ (x1:Nat),(((SubB (PV.f (Lf.dt Sh.dat D')) (PV.f (Lf.dt Sh.dat D'))∧True)∧(SubB (PV.f (Lf.v (Value.int IntKind.u8 k))) (PV.f (Lf.v (Value.int IntKind.u8 (Vw.mk k g dg tr nm fs).kind)))∧SubB (bV g) (bV ((Vw.mk k g dg tr nm fs).neg))∧SubB (PV.f (Lf.lr dg dg.length)) (PV.f (Lf.lr (Vw.mk k g dg tr nm fs).digits (Vw.mk k g dg tr nm fs).digits.length))∧SubB (bV tr) (bV ((Vw.mk k g dg tr nm fs).truth))∧SubB (sV nm) (sV ((Vw.mk k g dg tr nm fs).name))∧SubB (PV.f (Lf.dt Sh.vl fs)) (PV.f (Lf.dt Sh.vl (Vw.mk k g dg tr nm fs).fields))∧True)∧True)∧SubB (PV.f (Lf.dt Sh.dat D)) (PV.f (Lf.dt Sh.dat D))∧SubB (PV.fn 79 [] [PV.bp 0 0,PV.bp 1 0]) (PV.fn 79 [] [PV.bp 0 0,PV.bp 1 0])∧SubB (iV (↑D.length:Int)) (iV (↑D.length:Int))∧SubB (iV 0) (iV (↑x1:Int))∧True)∧(x1≤D.length∧∀ (j:Nat),j<x1→¬ofV D' (D.getD j Sh.dat.nil).name (Vw.mk k g dg tr nm fs)=true)∧True∧∀ (z2:Nat),(z2≤D.length∧∀ (j:Nat),j<z2→¬ofV D' (D.getD j Sh.dat.nil).name (Vw.mk k g dg tr nm fs)=true)→True→ifB (decide ((↑z2:Int)<(↑D.length:Int))) (((0:Int)≤(↑z2:Int)∧(↑z2:Int)<(↑D.length:Int))∧((Vw.mk k g dg tr nm fs).digits.length=(Vw.mk k g dg tr nm fs).digits.length∧Vw.fitV 40000000 (Vw.mk (Vw.mk k g dg tr nm fs).kind (Vw.mk k g dg tr nm fs).neg (Vw.mk k g dg tr nm fs).digits (Vw.mk k g dg tr nm fs).truth (Vw.mk k g dg tr nm fs).name (Vw.mk k g dg tr nm fs).fields))∧∀ (z3:Bool),z3=ofV D' (D.getD (↑z2:Int).toNat Sh.dat.nil).name (Vw.mk (Vw.mk k g dg tr nm fs).kind (Vw.mk k g dg tr nm fs).neg (Vw.mk k g dg tr nm fs).digits (Vw.mk k g dg tr nm fs).truth (Vw.mk k g dg tr nm fs).name (Vw.mk k g dg tr nm fs).fields)→ifB z3 (EndU 2 (Out.need (dg.length=dg.length∧Vw.fitV 40000000 (Vw.mk k g dg tr nm fs)) (Out.nm Int (anyB D fun (d:Sh.dat.T)=>ofV D' d.name (Vw.mk k g dg tr nm fs)) fun (z:Int)=>Out.ret (iV z) (vlO D' (Vw.mk k g dg tr nm fs)))).fin true (iV (↑z2:Int)) [PO.cells [PV.f (Lf.dt Sh.dat D')],PO.cells (wrapF (vlC (Vw.mk (Vw.mk k g dg tr nm fs).kind (Vw.mk k g dg tr nm fs).neg (Vw.mk k g dg tr nm fs).digits (Vw.mk k g dg tr nm fs).truth (Vw.mk k g dg tr nm fs).name (Vw.mk k g dg tr nm fs).fields)))]) (∃ (x4:Nat),(((SubB (PV.f (Lf.dt Sh.dat D')) (PV.f (Lf.dt Sh.dat D'))∧True)∧(SubB (PV.f (Lf.v (Value.int IntKind.u8 (Vw.mk (Vw.mk k g dg tr nm fs).kind (Vw.mk k g dg tr nm fs).neg (Vw.mk k g dg tr nm fs).digits (Vw.mk k g dg tr nm fs).truth (Vw.mk k g dg tr nm fs).name (Vw.mk k g dg tr nm fs).fields).kind))) (PV.f (Lf.v (Value.int IntKind.u8 (Vw.mk k g dg tr nm fs).kind)))∧SubB (bV ((Vw.mk (Vw.mk k g dg tr nm fs).kind (Vw.mk k g dg tr nm fs).neg (Vw.mk k g dg tr nm fs).digits (Vw.mk k g dg tr nm fs).truth (Vw.mk k g dg tr nm fs).name (Vw.mk k g dg tr nm fs).fields).neg)) (bV ((Vw.mk k g dg tr nm fs).neg))∧SubB (PV.f (Lf.lr (Vw.mk (Vw.mk k g dg tr nm fs).kind (Vw.mk k g dg tr nm fs).neg (Vw.mk k g dg tr nm fs).digits (Vw.mk k g dg tr nm fs).truth (Vw.mk k g dg tr nm fs).name (Vw.mk k g dg tr nm fs).fields).digits (Vw.mk (Vw.mk k g dg tr nm fs).kind (Vw.mk k g dg tr nm fs).neg (Vw.mk k g dg tr nm fs).digits (Vw.mk k g dg tr nm fs).truth (Vw.mk k g dg tr nm fs).name (Vw.mk k g dg tr nm fs).fields).digits.length)) (PV.f (Lf.lr (Vw.mk k g dg tr nm fs).digits (Vw.mk k g dg tr nm fs).digits.length))∧SubB (bV ((Vw.mk (Vw.mk k g dg tr nm fs).kind (Vw.mk k g dg tr nm fs).neg (Vw.mk k g dg tr nm fs).digits (Vw.mk k g dg tr nm fs).truth (Vw.mk k g dg tr nm fs).name (Vw.mk k g dg tr nm fs).fields).truth)) (bV ((Vw.mk k g dg tr nm fs).truth))∧SubB (sV ((Vw.mk (Vw.mk k g dg tr nm fs).kind (Vw.mk k g dg tr nm fs).neg (Vw.mk k g dg tr nm fs).digits (Vw.mk k g dg tr nm fs).truth (Vw.mk k g dg tr nm fs).name (Vw.mk k g dg tr nm fs).fields).name)) (sV ((Vw.mk k g dg tr nm fs).name))∧SubB (PV.f (Lf.dt Sh.vl (Vw.mk (Vw.mk k g dg tr nm fs).kind (Vw.mk k g dg tr nm fs).neg (Vw.mk k g dg tr nm fs).digits (Vw.mk k g dg tr nm fs).truth (Vw.mk k g dg tr nm fs).name (Vw.mk k g dg tr nm fs).fields).fields)) (PV.f (Lf.dt Sh.vl (Vw.mk k g dg tr nm fs).fields))∧True)∧True)∧SubB (PV.f (Lf.dt Sh.dat D)) (PV.f (Lf.dt Sh.dat D))∧SubB (PV.fn 79 [] [PV.bp 0 0,PV.bp 1 0]) (PV.fn 79 [] [PV.bp 0 0,PV.bp 1 0])∧SubB (iV (↑D.length:Int)) (iV (↑D.length:Int))∧SubB (iV (IntKind.i64.wrap ((↑z2:Int)+(1:Int)))) (iV (↑x4:Int))∧True)∧(x4≤D.length∧∀ (j:Nat),j<x4→¬ofV D' (D.getD j Sh.dat.nil).name (Vw.mk k g dg tr nm fs)=true)∧True∧(D.length - x4).succ.le (D.length - z2))) (EndU 2 (Out.need (dg.length=dg.length∧Vw.fitV 40000000 (Vw.mk k g dg tr nm fs)) (Out.nm Int (anyB D fun (d:Sh.dat.T)=>ofV D' d.name (Vw.mk k g dg tr nm fs)) fun (z:Int)=>Out.ret (iV z) (vlO D' (Vw.mk k g dg tr nm fs)))).fin true (iV (-1:Int)) [PO.cells [PV.f (Lf.dt Sh.dat D')],PO.cells (wrapF (vlC (Vw.mk k g dg tr nm fs)))])) ?kr ?_
     case kr=>kernel_rfl
     refine ⟨?x0,⟨⟨⟨⟨.refl _,trivial⟩,⟨⟨?m0,⟨?m1,⟨?m2,⟨?m3,⟨?m4,⟨?m5,trivial⟩⟩⟩⟩⟩⟩,trivial⟩⟩,⟨.refl _,⟨.refl _,⟨.refl _,⟨?m6,trivial⟩⟩⟩⟩⟩,⟨?s0,⟨trivial,fun z2=>fun hq0=>fun _=>ifB_iff.2 ⟨fun hb1=>⟨?s1,⟨?s2,fun z3=>fun hz3=>ifB_iff.2 ⟨fun hb2=>?m7,fun hb2=>⟨?x1,⟨⟨⟨⟨.refl _,trivial⟩,⟨⟨?m8,⟨?m9,⟨?m10,⟨?m11,⟨?m12,⟨?m13,trivial⟩⟩⟩⟩⟩⟩,trivial⟩⟩,⟨.refl _,⟨.refl _,⟨.refl _,⟨?m14,trivial⟩⟩⟩⟩⟩,⟨?s3,⟨trivial,?m15⟩⟩⟩⟩⟩⟩⟩,fun hb1=>?m16⟩⟩⟩⟩⟩
     case x0=>exact 0
     case x1=>exact z2+1
     all_goals try simp only [Vw.eta,decide_eq_true_eq,decide_eq_false_iff_not,Int.toNat_natCast] at *
     all_goals try exact .refl _
     case s0=>exact ⟨Nat.zero_le _,fun k hk=>by omega⟩
     case s1=>omega
     case s2=>exact ⟨trivial,hf⟩
     case m7=>exact endU rfl (subB_i (anyB_hit Sh.dat.nil (by omega) (by rw [← hz3,hb2]) (fun k hk=>by simpa using hq0.2 k hk)).symm) rfl rfl (r:=[]) rfl
     case m14=>exact subB_i (by rw [wJ _ (by omega) (by omega)]; omega)
     case s3 =>
      refine ⟨by omega,fun k hk=>?_⟩
      by_cases hkz:k=z2
      · subst hkz; rw [← hz3,hb2]; decide
      · exact hq0.2 k (by omega)
     case m15=>exact (by omega:D.length - (z2+1)<D.length - z2)
     case m16=>exact endU rfl (subB_i (anyB_miss Sh.dat.nil fun k hk=>by simpa using hq0.2 k (by omega)).symm) rfl rfl (r:=[]) rfl
   · cases hs
 · cases hs
def sContS:Spec2
 | [.f (.dt .dat D),.fn f [] [.bp 0 0,.bp 1 0]],[.cells [.f (.dt .dat D')],.cells [.f (.v (.int .u8 k)),.f (.v (.bool g)),.f (.lr dg m),.f (.v (.bool tr)),.f (.v (.string nm)),.f (.dt .vl fs)]]=>match Nat.beq f 79 with
  | true=>some (.need (m=dg.length∧(Vw.mk k g dg tr nm fs).fitV 40000000) (.nm Int (anyB D fun d=>ofV D' d.name (.mk k g dg tr nm fs)) fun z=>.ret (bV (decide (0≤z))) (vlO D' (.mk k g dg tr nm fs))))
  | false=>none
 | _,_=>none
theorem cContS {E:Env} (hU:Up E):Contract2 Tryz.prog E 78 sContS:=by
 refine contract2 [] [(115,sIndexS)] Tryz.ntmps78 Tryz.func78 (by kernel_rfl) (by kernel_rfl) hU trivial ⟨cIndexS hU,trivial⟩ ?_
 intro xs ob o hs hok
 unfold sContS at hs
 split at hs
 · rename_i D f D' k g dg m tr nm fs
   split at hs
   · rename_i hf
     cases hs
     have hf:=Nat.eq_of_beq_eq_true hf
     subst hf
     obtain ⟨⟨rfl,hf⟩,-⟩:=hok
     refine ⟨[.f (.dt .dat D),.fn 79 [] [.bp 0 0,.bp 1 0]],[],.cons (.refl _) (.cons (.refl _) .nil),rfl,fun _ hsh=>?_⟩
     refine cast_rfl (p:=(dg.length=dg.length∧Vw.fitV 40000000 (Vw.mk k g dg tr nm fs))∧∀ (z1:Int),(z1=anyB D fun (d:Sh.dat.T)=>ofV D' d.name (Vw.mk k g dg tr nm fs))→EndU 2 (Out.need (dg.length=dg.length∧Vw.fitV 40000000 (Vw.mk k g dg tr nm fs)) (Out.nm Int (anyB D fun (d:Sh.dat.T)=>ofV D' d.name (Vw.mk k g dg tr nm fs)) fun (z:Int)=>Out.ret (bV (decide ((0:Int)≤z))) (vlO D' (Vw.mk k g dg tr nm fs)))).fin true (bV (decide (z1 ≥ (0:Int)))) [PO.cells [PV.f (Lf.dt Sh.dat D')],PO.cells (wrapF (vlC (Vw.mk k g dg tr nm fs)))]) ?kr ?_
     case kr=>kernel_rfl
     refine ⟨?s0,fun z1=>fun hz1=>?m0⟩
     case s0=>exact ⟨rfl,hf⟩
     case m0=>exact endU rfl (subB_b (by rw [hz1])) rfl rfl (r:=[]) rfl
   · cases hs
 · cases hs
def sSomeM:Spec
 | [.f (.dt .dat D),x]=>match vlOf x with
  | some v=>some (some (v.fitV 40000000),.nm Bool (someV D v) bV)
  | none=>none
 | _=>none
theorem cSomeM {E:Env} (hU:Up E):Contract Tryz.prog E 38 sSomeM:=by
 refine contract_D [(26,sOfM)] [(78,sContS)] Tryz.ntmps38 Tryz.func38 (by kernel_rfl) (by kernel_rfl) hU ⟨cOfM hU,trivial⟩ ⟨cContS hU,trivial⟩ ?_
 intro xs p r hs hp
 unfold sSomeM at hs
 split at hs
 · rename_i D x
   split at hs
   · rename_i v hv
     cases hs
     have hf:=hp _ rfl
     refine ⟨[.f (.dt .dat D),vlP v],[],.cons (.refl _) (.cons (vl_sub hv).sub .nil),rfl,fun _ hsh=>?_⟩
     refine cast_rfl (p:=Vw.fitV 40000000 (Vw.mk v.kind v.neg v.digits v.truth v.name v.fields)∧∀ (z1:Bool),z1=ofV D (ByteArray.mk #[(105:UInt8),(110:UInt8),(116:UInt8)]) (Vw.mk v.kind v.neg v.digits v.truth v.name v.fields)→ifB z1 (true=true∧Sub (bV true) (bV (someV D v))) (Vw.fitV 40000000 (Vw.mk v.kind v.neg v.digits v.truth v.name v.fields)∧∀ (z2:Bool),z2=ofV D (ByteArray.mk #[(98:UInt8),(111:UInt8),(111:UInt8),(108:UInt8)]) (Vw.mk v.kind v.neg v.digits v.truth v.name v.fields)→ifB z2 (true=true∧Sub (bV true) (bV (someV D v))) ((v.digits.length=v.digits.length∧Vw.fitV 40000000 (Vw.mk v.kind v.neg v.digits v.truth v.name v.fields))∧∀ (z3:Int),(z3=anyB D fun (d:Sh.dat.T)=>ofV D d.name (Vw.mk v.kind v.neg v.digits v.truth v.name v.fields))→true=true∧Sub (bV (decide ((0:Int)≤z3))) (bV (someV D v))))) ?kr ?_
     case kr=>kernel_rfl
     refine ⟨?s0,fun z1=>fun hz1=>ifB_iff.2 ⟨fun hb0=>⟨rfl,?m0⟩,fun hb0=>⟨?s1,fun z2=>fun hz2=>ifB_iff.2 ⟨fun hb1=>⟨rfl,?m1⟩,fun hb1=>⟨?s2,fun z3=>fun hz3=>⟨rfl,?m2⟩⟩⟩⟩⟩⟩
     all_goals try simp only [Vw.eta] at *
     case s0=>exact hf
     all_goals have e1:ofV D bInt v=z1:=hz1.symm
     case m0=>exact (subB_b (by unfold someV; rw [e1,hb0]; rfl)).sub
     case s1=>exact hf
     all_goals have e2:ofV D bBool v=z2:=hz2.symm
     case m1=>exact (subB_b (by unfold someV; rw [e1,e2,hb0,hb1]; rfl)).sub
     case s2=>exact ⟨trivial,hf⟩
     case m2=>exact (subB_b (by unfold someV; rw [e1,e2,hb0,hb1,← hz3]; rfl)).sub
   · cases hs
 · cases hs
def sCopyN (n:Nat):Spec
 | [x]=>match vlOf x with
  | some v=>some (some (v.size<n∧v.fitV 40000000),.one (vlP v))
  | none=>none
 | _=>none
theorem cCopyN {E:Env} (hU:Up E):∀ n,Contract Tryz.prog E 39 (sCopyN n)
 | 0=>by
  intro xs p r hs hp
  unfold sCopyN at hs
  split at hs
  · split at hs
    · cases hs
      exact absurd (hp _ rfl).1 (Nat.not_lt_zero _)
    · cases hs
  · cases hs
 | n+1=>by
  refine contract_D [(80,sClone),(39,sCopyN n)] [] Tryz.ntmps39 Tryz.func39 (by kernel_rfl) (by kernel_rfl) hU ⟨cClone hU,cCopyN hU n,trivial⟩ trivial ?_
  intro xs p r hs hp
  unfold sCopyN at hs
  split at hs
  · rename_i x
    split at hs
    · rename_i v hv
      cases hs
      obtain ⟨hn,hf⟩:=hp _ rfl
      have f2:=(Vw.fitV_eq _ v).1 hf
      refine ⟨[vlP v],[(4,.s ⟨Nat,fun i=>⟨[(1,.bp 0 0),(2,.bp 1 0),(3,.tl 2 (.dt .vl (v.fields.take i))),(13,.f (.dt .vl v.fields)),(14,iV v.fields.length),(15,iV i)],[.cells (wrapF (vlC v)),.cells [.f (.v (.int .u8 0)),.f (.v (.bool false)),.f (.v (.slice none 0 0)),.f (.v (.bool false)),.f (.v (.string ⟨#[]⟩)),.f (.v (.slice none 0 0))],.tail 29 6]⟩,fun i=>i≤v.fields.length,fun i=>v.fields.length - i⟩)],.cons (vl_sub hv).sub .nil,rfl,fun _ hsh=>?_⟩
      refine cast_rfl (p:=v.digits.length≤40000000∧∃ (x1:Nat),(((SubB (PV.f (Lf.v (Value.int IntKind.u8 v.kind))) (PV.f (Lf.v (Value.int IntKind.u8 v.kind)))∧SubB (bV v.neg) (bV v.neg)∧SubB (PV.f (Lf.lr v.digits v.digits.length)) (PV.f (Lf.lr v.digits v.digits.length))∧SubB (bV v.truth) (bV v.truth)∧SubB (sV v.name) (sV v.name)∧SubB (PV.f (Lf.dt Sh.vl v.fields)) (PV.f (Lf.dt Sh.vl v.fields))∧True)∧(SubB (PV.f (Lf.v (Value.int IntKind.u8 0))) (PV.f (Lf.v (Value.int IntKind.u8 0)))∧SubB (bV false) (bV false)∧SubB (PV.f (Lf.v (Value.slice none 0 0))) (PV.f (Lf.v (Value.slice none 0 0)))∧SubB (bV false) (bV false)∧SubB (sV (ByteArray.mk #[])) (sV (ByteArray.mk #[]))∧SubB (PV.f (Lf.v (Value.slice none 0 0))) (PV.f (Lf.v (Value.slice none 0 0)))∧True)∧True)∧SubB (PV.bp 0 0) (PV.bp 0 0)∧SubB (PV.bp 1 0) (PV.bp 1 0)∧emptyT (PV.tl 2 (Lf.dt Sh.vl (List.take x1 v.fields)))∧SubB (PV.f (Lf.dt Sh.vl v.fields)) (PV.f (Lf.dt Sh.vl v.fields))∧SubB (iV (↑v.fields.length:Int)) (iV (↑v.fields.length:Int))∧SubB (iV 0) (iV (↑x1:Int))∧True)∧x1≤v.fields.length∧True∧∀ (z2:Nat),z2≤v.fields.length→True→ifB (decide ((↑z2:Int)<(↑v.fields.length:Int))) (((0:Int)≤(↑z2:Int)∧(↑z2:Int)<(↑v.fields.length:Int))∧((Vw.mk (Vw.kind (v.fields.getD (↑z2:Int).toNat Sh.vl.nil)) (Vw.neg (v.fields.getD (↑z2:Int).toNat Sh.vl.nil)) (Vw.digits (v.fields.getD (↑z2:Int).toNat Sh.vl.nil)) (Vw.truth (v.fields.getD (↑z2:Int).toNat Sh.vl.nil)) (Vw.name (v.fields.getD (↑z2:Int).toNat Sh.vl.nil)) (Vw.fields (v.fields.getD (↑z2:Int).toNat Sh.vl.nil))).size<n∧Vw.fitV 40000000 (Vw.mk (Vw.kind (v.fields.getD (↑z2:Int).toNat Sh.vl.nil)) (Vw.neg (v.fields.getD (↑z2:Int).toNat Sh.vl.nil)) (Vw.digits (v.fields.getD (↑z2:Int).toNat Sh.vl.nil)) (Vw.truth (v.fields.getD (↑z2:Int).toNat Sh.vl.nil)) (Vw.name (v.fields.getD (↑z2:Int).toNat Sh.vl.nil)) (Vw.fields (v.fields.getD (↑z2:Int).toNat Sh.vl.nil))))∧((List.take z2 v.fields).length+1≤9223372036854775807∧((List.take z2 v.fields).length+1) * 88≤140737488355328)∧∃ (x3:Nat),(((SubB (PV.f (Lf.v (Value.int IntKind.u8 v.kind))) (PV.f (Lf.v (Value.int IntKind.u8 v.kind)))∧SubB (bV v.neg) (bV v.neg)∧SubB (PV.f (Lf.lr v.digits v.digits.length)) (PV.f (Lf.lr v.digits v.digits.length))∧SubB (bV v.truth) (bV v.truth)∧SubB (sV v.name) (sV v.name)∧SubB (PV.f (Lf.dt Sh.vl v.fields)) (PV.f (Lf.dt Sh.vl v.fields))∧True)∧(SubB (PV.f (Lf.v (Value.int IntKind.u8 0))) (PV.f (Lf.v (Value.int IntKind.u8 0)))∧SubB (bV false) (bV false)∧SubB (PV.f (Lf.v (Value.slice none 0 0))) (PV.f (Lf.v (Value.slice none 0 0)))∧SubB (bV false) (bV false)∧SubB (sV (ByteArray.mk #[])) (sV (ByteArray.mk #[]))∧SubB (PV.f (Lf.v (Value.slice none 0 0))) (PV.f (Lf.v (Value.slice none 0 0)))∧True)∧True)∧SubB (PV.bp 0 0) (PV.bp 0 0)∧SubB (PV.bp 1 0) (PV.bp 1 0)∧SubB (PV.tl 2 (Lf.dt Sh.vl (List.take z2 v.fields++[Vw.mk (Vw.mk (Vw.kind (v.fields.getD (↑z2:Int).toNat Sh.vl.nil)) (Vw.neg (v.fields.getD (↑z2:Int).toNat Sh.vl.nil)) (Vw.digits (v.fields.getD (↑z2:Int).toNat Sh.vl.nil)) (Vw.truth (v.fields.getD (↑z2:Int).toNat Sh.vl.nil)) (Vw.name (v.fields.getD (↑z2:Int).toNat Sh.vl.nil)) (Vw.fields (v.fields.getD (↑z2:Int).toNat Sh.vl.nil))).kind (Vw.mk (Vw.kind (v.fields.getD (↑z2:Int).toNat Sh.vl.nil)) (Vw.neg (v.fields.getD (↑z2:Int).toNat Sh.vl.nil)) (Vw.digits (v.fields.getD (↑z2:Int).toNat Sh.vl.nil)) (Vw.truth (v.fields.getD (↑z2:Int).toNat Sh.vl.nil)) (Vw.name (v.fields.getD (↑z2:Int).toNat Sh.vl.nil)) (Vw.fields (v.fields.getD (↑z2:Int).toNat Sh.vl.nil))).neg (Vw.mk (Vw.kind (v.fields.getD (↑z2:Int).toNat Sh.vl.nil)) (Vw.neg (v.fields.getD (↑z2:Int).toNat Sh.vl.nil)) (Vw.digits (v.fields.getD (↑z2:Int).toNat Sh.vl.nil)) (Vw.truth (v.fields.getD (↑z2:Int).toNat Sh.vl.nil)) (Vw.name (v.fields.getD (↑z2:Int).toNat Sh.vl.nil)) (Vw.fields (v.fields.getD (↑z2:Int).toNat Sh.vl.nil))).digits (Vw.mk (Vw.kind (v.fields.getD (↑z2:Int).toNat Sh.vl.nil)) (Vw.neg (v.fields.getD (↑z2:Int).toNat Sh.vl.nil)) (Vw.digits (v.fields.getD (↑z2:Int).toNat Sh.vl.nil)) (Vw.truth (v.fields.getD (↑z2:Int).toNat Sh.vl.nil)) (Vw.name (v.fields.getD (↑z2:Int).toNat Sh.vl.nil)) (Vw.fields (v.fields.getD (↑z2:Int).toNat Sh.vl.nil))).truth (Vw.mk (Vw.kind (v.fields.getD (↑z2:Int).toNat Sh.vl.nil)) (Vw.neg (v.fields.getD (↑z2:Int).toNat Sh.vl.nil)) (Vw.digits (v.fields.getD (↑z2:Int).toNat Sh.vl.nil)) (Vw.truth (v.fields.getD (↑z2:Int).toNat Sh.vl.nil)) (Vw.name (v.fields.getD (↑z2:Int).toNat Sh.vl.nil)) (Vw.fields (v.fields.getD (↑z2:Int).toNat Sh.vl.nil))).name (Vw.mk (Vw.kind (v.fields.getD (↑z2:Int).toNat Sh.vl.nil)) (Vw.neg (v.fields.getD (↑z2:Int).toNat Sh.vl.nil)) (Vw.digits (v.fields.getD (↑z2:Int).toNat Sh.vl.nil)) (Vw.truth (v.fields.getD (↑z2:Int).toNat Sh.vl.nil)) (Vw.name (v.fields.getD (↑z2:Int).toNat Sh.vl.nil)) (Vw.fields (v.fields.getD (↑z2:Int).toNat Sh.vl.nil))).fields]))) (PV.tl 2 (Lf.dt Sh.vl (List.take x3 v.fields)))∧SubB (PV.f (Lf.dt Sh.vl v.fields)) (PV.f (Lf.dt Sh.vl v.fields))∧SubB (iV (↑v.fields.length:Int)) (iV (↑v.fields.length:Int))∧SubB (iV (IntKind.i64.wrap ((↑z2:Int)+(1:Int)))) (iV (↑x3:Int))∧True)∧x3≤v.fields.length∧True∧(v.fields.length - x3).succ.le (v.fields.length - z2)) (true=true∧Sub (PV.agg [PV.f (Lf.v (Value.int IntKind.u8 v.kind)),bV v.neg,PV.f (Lf.lr v.digits v.digits.length),bV v.truth,sV v.name,PV.f (Lf.dt Sh.vl (List.take z2 v.fields))]) (PV.agg (wrapF (vlC v))))) ?kr ?_
      case kr=>kernel_rfl
      refine ⟨?s0,⟨?x0,⟨?s1,⟨?s2,⟨trivial,fun z2=>fun hq0=>fun _=>ifB_iff.2 ⟨fun hb1=>⟨?s3,⟨?s4,⟨?s5,⟨?x1,⟨⟨⟨⟨.refl _,⟨.refl _,⟨.refl _,⟨.refl _,⟨.refl _,⟨.refl _,trivial⟩⟩⟩⟩⟩⟩,⟨⟨.refl _,⟨.refl _,⟨.refl _,⟨.refl _,⟨.refl _,⟨.refl _,trivial⟩⟩⟩⟩⟩⟩,trivial⟩⟩,⟨.refl _,⟨.refl _,⟨?m0,⟨.refl _,⟨.refl _,⟨?m1,trivial⟩⟩⟩⟩⟩⟩⟩,⟨?s6,⟨trivial,?m2⟩⟩⟩⟩⟩⟩⟩,fun hb1=>⟨rfl,?m3⟩⟩⟩⟩⟩⟩⟩
      case x0=>exact 0
      case x1=>exact z2+1
      all_goals try simp only [decide_eq_true_eq,decide_eq_false_iff_not,Int.toNat_natCast,Vw.eta] at *
      case s0=>exact f2.2.1
      case s1=>exact ⟨⟨⟨.refl _,.refl _,.refl _,.refl _,.refl _,.refl _,trivial⟩,⟨.refl _,.refl _,.refl _,.refl _,.refl _,.refl _,trivial⟩,trivial⟩,.refl _,.refl _,rfl,.refl _,.refl _,.refl _,trivial⟩
      case s2=>exact Nat.zero_le _
      case m3 =>
       rw [List.take_of_length_le (by omega)]
       exact .refl _
      all_goals have hz:z2<v.fields.length:=by omega
      case s3=>omega
      case s4 =>
       have h1:=fld_size (t:=v) (i:=z2) Sh.vl.nil hz
       exact ⟨by omega,fitVL_at _ f2.2.2.2 hz⟩
      case s5 =>
       rw [List.length_take]
       have:=f2.2.2.1
       omega
      case m0 =>
       rw [List.take_add_one,List.getElem?_eq_getElem hz,List.getD_eq_getElem?_getD,List.getElem?_eq_getElem hz]
       exact .refl _
      case m1=>exact subB_i (by rw [wJ _ (by omega) (by have:=f2.2.2.1; omega)]; rfl)
      case s6=>exact hz
      case m2=>exact (by omega:v.fields.length - (z2+1)<v.fields.length - z2)
    · cases hs
  · cases hs
def sEqD:Spec
 | [.f x,.f y]=>match digsOf x,digsOf y with
  | some l,some m=>some (some (l.length≤40000000),.nm Bool (decide (l=m)) bV)
  | _,_=>none
 | _=>none
theorem digs_sub {x:Lf} {l:List Nat} (h:digsOf x=some l):SubB (.f x) (.f (.lr l l.length)):=⟨fun H B v hv=>.f (digsOf_rd h H v hv.rd)⟩
theorem cEqD {E:Env} (hU:Up E):Contract Tryz.prog E 31 sEqD:=by
 refine contract_D [] [] Tryz.ntmps31 Tryz.func31 (by kernel_rfl) (by kernel_rfl) hU trivial trivial ?_
 intro xs p r hs hp
 unfold sEqD at hs
 split at hs
 · rename_i x y
   split at hs
   · rename_i l m hl hm
     cases hs
     have hf:=hp _ rfl
     refine ⟨[.f (.lr l l.length),.f (.lr m m.length)],[(4,.s ⟨Nat,fun i=>⟨[(0,.f (.lr l l.length)),(1,.f (.lr m m.length)),(12,iV l.length),(13,iV i)],[]⟩,fun i=>i≤l.length∧l.length=m.length∧l.take i=m.take i,fun i=>l.length - i⟩)],.cons (digs_sub hl).sub (.cons (digs_sub hm).sub .nil),rfl,fun _ hsh=>?_⟩
     refine cast_rfl (p:=ifB ((↑l.length:Int) != (↑m.length:Int)) (true=true∧Sub (bV false) (bV (decide (l=m)))) (∃ (x1:Nat),(True∧SubB (PV.f (Lf.lr l l.length)) (PV.f (Lf.lr l l.length))∧SubB (PV.f (Lf.lr m m.length)) (PV.f (Lf.lr m m.length))∧SubB (iV (↑l.length:Int)) (iV (↑l.length:Int))∧SubB (iV 0) (iV (↑x1:Int))∧True)∧(x1≤l.length∧l.length=m.length∧List.take x1 l=List.take x1 m)∧True∧∀ (z2:Nat),z2≤l.length∧l.length=m.length∧List.take z2 l=List.take z2 m→True→ifB (decide ((↑z2:Int)<(↑l.length:Int))) (((0:Int)≤(↑z2:Int)∧(↑z2:Int)<(↑l.length:Int))∧((0:Int)≤(↑z2:Int)∧(↑z2:Int)<(↑m.length:Int))∧ifB ((↑(l.getD (↑z2:Int).toNat 0):Int) != (↑(m.getD (↑z2:Int).toNat 0):Int)) (true=true∧Sub (bV false) (bV (decide (l=m)))) (∃ (x3:Nat),(True∧SubB (PV.f (Lf.lr l l.length)) (PV.f (Lf.lr l l.length))∧SubB (PV.f (Lf.lr m m.length)) (PV.f (Lf.lr m m.length))∧SubB (iV (↑l.length:Int)) (iV (↑l.length:Int))∧SubB (iV (IntKind.i64.wrap ((↑z2:Int)+(1:Int)))) (iV (↑x3:Int))∧True)∧(x3≤l.length∧l.length=m.length∧List.take x3 l=List.take x3 m)∧True∧(l.length - x3).succ.le (l.length - z2))) (true=true∧Sub (bV true) (bV (decide (l=m)))))) ?kr ?_
     case kr=>kernel_rfl
     refine ifB_iff.2 ⟨fun hb0=>⟨rfl,?m0⟩,fun hb0=>⟨?x0,⟨⟨trivial,⟨.refl _,⟨.refl _,⟨.refl _,⟨?m1,trivial⟩⟩⟩⟩⟩,⟨?s0,⟨trivial,fun z2=>fun hq1=>fun _=>ifB_iff.2 ⟨fun hb2=>⟨?s1,⟨?s2,ifB_iff.2 ⟨fun hb3=>⟨rfl,?m2⟩,fun hb3=>⟨?x1,⟨⟨trivial,⟨.refl _,⟨.refl _,⟨.refl _,⟨?m3,trivial⟩⟩⟩⟩⟩,⟨?s3,⟨trivial,?m4⟩⟩⟩⟩⟩⟩⟩,fun hb2=>⟨rfl,?m5⟩⟩⟩⟩⟩⟩⟩
     case x0=>exact 0
     case x1=>exact z2+1
     all_goals try simp only [bne_iff_ne,ne_eq,bne_eq_false_iff_eq,decide_eq_true_eq,decide_eq_false_iff_not,Int.toNat_natCast,Int.natCast_inj] at *
     case m0=>exact (subB_b (decide_eq_false fun h=>hb0 (by rw [h])).symm).sub
     case m1=>exact .refl _
     case s0=>exact ⟨Nat.zero_le _,hb0,rfl⟩
     case m5 =>
      refine (subB_b (decide_eq_true ?_).symm).sub
      have h:=hq1.2.2
      rwa [List.take_of_length_le (by omega),List.take_of_length_le (by omega)] at h
     case s1=>omega
     case s2=>have:=hq1.2.1; omega
     case m2=>exact (subB_b (decide_eq_false fun h=>hb3 (by rw [h])).symm).sub
     case m3=>exact subB_i (by rw [wJ _ (by omega) (by omega)]; rfl)
     case s3=>exact ⟨by omega,hq1.2.1,take_next 0 (by omega) (by have:=hq1.2.1; omega) hq1.2.2 hb3⟩
     case m4=>exact (by omega:l.length - (z2+1)<l.length - z2)
   · cases hs
 · cases hs
noncomputable def sameV (t u:Vw):Bool:=@decide (t=u) (Classical.propDecidable _)
noncomputable def sameVL (l m:List Vw):Bool:=@decide (l=m) (Classical.propDecidable _)
theorem sameV_iff {t u:Vw}:sameV t u=true↔t=u:=by simp [sameV]
theorem sameVL_iff {l m:List Vw}:sameVL l m=true↔l=m:=by simp [sameVL]
theorem Vw.ext {t u:Vw} (h1:t.kind=u.kind) (h2:t.neg=u.neg) (h3:t.digits=u.digits) (h4:t.truth=u.truth) (h5:t.name=u.name) (h6:t.fields=u.fields):t=u:=by
 rw [← t.eta,← u.eta,h1,h2,h3,h4,h5,h6]
noncomputable def sSameVN (n:Nat):Spec
 | [x,y]=>match vlOf x,vlOf y with
  | some t,some u=>some (some (2 * t.size<n∧t.fitV 40000000∧u.fitV 40000000),.nm Bool (sameV t u) bV)
  | _,_=>none
 | _=>none
noncomputable def sSameVLN (n:Nat):Spec
 | [.f (.dt .vl l),.f (.dt .vl m),.f (.v (.func (.func f) ⟨[]⟩ ⟨[]⟩))]=>match Nat.beq f 10 with
  | true=>some (some (2 * szVL l+1<n∧fitVL 40000000 l∧fitVL 40000000 m),.nm Bool (sameVL l m) bV)
  | false=>none
 | _=>none
noncomputable def sSameV:Spec
 | [x,y]=>match vlOf x,vlOf y with
  | some t,some u=>some (some (t.fitV 40000000∧u.fitV 40000000),.nm Bool (sameV t u) bV)
  | _,_=>none
 | _=>none
theorem cSameVN {E:Env} (hU:Up E):∀ n,Contract Tryz.prog E 10 (sSameVN n)∧Contract Tryz.prog E 32 (sSameVLN n)
 | 0=>by
  refine ⟨?_,?_⟩
  · intro xs p r hs hp
    unfold sSameVN at hs
    split at hs
    · split at hs
      · cases hs
        exact absurd (hp _ rfl).1 (Nat.not_lt_zero _)
      · cases hs
    · cases hs
  · intro xs p r hs hp
    unfold sSameVLN at hs
    split at hs
    · split at hs
      · cases hs
        exact absurd (hp _ rfl).1 (Nat.not_lt_zero _)
      · cases hs
    · cases hs
 | n+1=>by
  refine ⟨?_,?_⟩
  · refine contract_D [(31,sEqD),(32,sSameVLN n)] [] Tryz.ntmps10 Tryz.func10 (by kernel_rfl) (by kernel_rfl) hU ⟨cEqD hU,(cSameVN hU n).2,trivial⟩ trivial ?_
    intro xs p r hs hp
    unfold sSameVN at hs
    split at hs
    · rename_i x y
      split at hs
      · rename_i t u ht hu
        cases hs
        obtain ⟨hn,hf,hg⟩:=hp _ rfl
        refine ⟨[vlP t,vlP u],[],.cons (vl_sub ht).sub (.cons (vl_sub hu).sub .nil),rfl,fun _ hsh=>?_⟩
        have e2:=t.size_eq
        have f2:=(Vw.fitV_eq _ t).1 hf
        have g2:=(Vw.fitV_eq _ u).1 hg
        refine cast_rfl (p:=ifB (t.kind==u.kind) (ifB (t.truth==u.truth) (ifB (t.name.toList==u.name.toList) (ifB (t.neg==u.neg) (t.digits.length≤40000000∧∀ (z1:Bool),z1=decide (t.digits=u.digits)→ifB z1 ((2 * szVL t.fields+1<n∧fitVL 40000000 t.fields∧fitVL 40000000 u.fields)∧∀ (z2:Bool),z2=sameVL t.fields u.fields→true=true∧Sub (bV z2) (bV (sameV t u))) (true=true∧Sub (bV false) (bV (sameV t u)))) (true=true∧Sub (bV false) (bV (sameV t u)))) (true=true∧Sub (bV false) (bV (sameV t u)))) (true=true∧Sub (bV false) (bV (sameV t u)))) (true=true∧Sub (bV false) (bV (sameV t u)))) ?kr ?_
        case kr=>kernel_rfl
        refine ifB_iff.2 ⟨fun hb0=>ifB_iff.2 ⟨fun hb1=>ifB_iff.2 ⟨fun hb2=>ifB_iff.2 ⟨fun hb3=>⟨?s0,fun z1=>fun hz1=>ifB_iff.2 ⟨fun hb4=>⟨?s1,fun z2=>fun hz2=>⟨rfl,?m0⟩⟩,fun hb4=>⟨rfl,?m1⟩⟩⟩,fun hb3=>⟨rfl,?m2⟩⟩,fun hb2=>⟨rfl,?m3⟩⟩,fun hb1=>⟨rfl,?m4⟩⟩,fun hb0=>⟨rfl,?m5⟩⟩
        all_goals try simp only [bs_l,decide_eq_true_eq,decide_eq_false_iff_not,beq_iff_eq,beq_eq_false_iff_ne,ne_eq] at *
        case s0=>exact f2.2.1
        case s1=>exact ⟨by omega,f2.2.2.2,g2.2.2.2⟩
        case m0 =>
         rw [hb4] at hz1
         refine (subB_b ?_).sub
         rw [hz2]
         exact b_iff (by rw [sameVL_iff,sameV_iff]; exact ⟨fun h=>Vw.ext hb0 hb3 (of_decide_eq_true hz1.symm) hb1 hb2 h,fun h=>by rw [h]⟩)
        all_goals refine (subB_b ?_).sub
        all_goals refine (Bool.eq_false_iff.2 fun h=>?_).symm
        all_goals rw [sameV_iff] at h
        all_goals subst h
        case m1=>rw [hb4] at hz1; simp at hz1
        case m2=>exact hb3 rfl
        case m3=>exact hb2 rfl
        case m4=>exact hb1 rfl
        case m5=>exact hb0 rfl
      · cases hs
    · cases hs
  · refine contract_D [(10,sSameVN n)] [] Tryz.ntmps32 Tryz.func32 (by kernel_rfl) (by kernel_rfl) hU ⟨(cSameVN hU n).1,trivial⟩ trivial ?_
    intro xs p r hs hp
    unfold sSameVLN at hs
    split at hs
    · rename_i l m f
      split at hs
      · rename_i hfn
        cases hs
        have hfn:=Nat.eq_of_beq_eq_true hfn
        subst hfn
        obtain ⟨hn,hf,hg⟩:=hp _ rfl
        refine ⟨[.f (.dt .vl l),.f (.dt .vl m),.f (.v (.func (.func 10) ⟨[]⟩ ⟨[]⟩))],[(4,.s ⟨Nat,fun i=>⟨[(0,.f (.dt .vl l)),(1,.f (.dt .vl m)),(2,.f (.v (.func (.func 10) ⟨[]⟩ ⟨[]⟩))),(15,.f (.dt .vl l)),(16,iV l.length),(17,iV i)],[]⟩,fun i=>i≤l.length∧l.length=m.length∧l.take i=m.take i,fun i=>l.length - i⟩)],.cons (.refl _) (.cons (.refl _) (.cons (.refl _) .nil)),rfl,fun _ hsh=>?_⟩
        have hl:=short_row hsh.1
        refine cast_rfl (p:=ifB ((↑l.length:Int) != (↑m.length:Int)) (true=true∧Sub (bV false) (bV (sameVL l m))) (∃ (x1:Nat),(True∧SubB (PV.f (Lf.dt Sh.vl l)) (PV.f (Lf.dt Sh.vl l))∧SubB (PV.f (Lf.dt Sh.vl m)) (PV.f (Lf.dt Sh.vl m))∧SubB (PV.f (Lf.v (Value.func (Fn.func 10) (Array.mk []) (Array.mk [])))) (PV.f (Lf.v (Value.func (Fn.func 10) (Array.mk []) (Array.mk []))))∧SubB (PV.f (Lf.dt Sh.vl l)) (PV.f (Lf.dt Sh.vl l))∧SubB (iV (↑l.length:Int)) (iV (↑l.length:Int))∧SubB (iV 0) (iV (↑x1:Int))∧True)∧(x1≤l.length∧l.length=m.length∧List.take x1 l=List.take x1 m)∧True∧∀ (z2:Nat),z2≤l.length∧l.length=m.length∧List.take z2 l=List.take z2 m→True→ifB (decide ((↑z2:Int)<(↑l.length:Int))) (((0:Int)≤(↑z2:Int)∧(↑z2:Int)<(↑l.length:Int))∧((0:Int)≤(↑z2:Int)∧(↑z2:Int)<(↑m.length:Int))∧(2 * (Vw.mk (Vw.kind (l.getD (↑z2:Int).toNat Sh.vl.nil)) (Vw.neg (l.getD (↑z2:Int).toNat Sh.vl.nil)) (Vw.digits (l.getD (↑z2:Int).toNat Sh.vl.nil)) (Vw.truth (l.getD (↑z2:Int).toNat Sh.vl.nil)) (Vw.name (l.getD (↑z2:Int).toNat Sh.vl.nil)) (Vw.fields (l.getD (↑z2:Int).toNat Sh.vl.nil))).size<n∧Vw.fitV 40000000 (Vw.mk (Vw.kind (l.getD (↑z2:Int).toNat Sh.vl.nil)) (Vw.neg (l.getD (↑z2:Int).toNat Sh.vl.nil)) (Vw.digits (l.getD (↑z2:Int).toNat Sh.vl.nil)) (Vw.truth (l.getD (↑z2:Int).toNat Sh.vl.nil)) (Vw.name (l.getD (↑z2:Int).toNat Sh.vl.nil)) (Vw.fields (l.getD (↑z2:Int).toNat Sh.vl.nil)))∧Vw.fitV 40000000 (Vw.mk (Vw.kind (m.getD (↑z2:Int).toNat Sh.vl.nil)) (Vw.neg (m.getD (↑z2:Int).toNat Sh.vl.nil)) (Vw.digits (m.getD (↑z2:Int).toNat Sh.vl.nil)) (Vw.truth (m.getD (↑z2:Int).toNat Sh.vl.nil)) (Vw.name (m.getD (↑z2:Int).toNat Sh.vl.nil)) (Vw.fields (m.getD (↑z2:Int).toNat Sh.vl.nil))))∧∀ (z3:Bool),z3=sameV (Vw.mk (Vw.kind (l.getD (↑z2:Int).toNat Sh.vl.nil)) (Vw.neg (l.getD (↑z2:Int).toNat Sh.vl.nil)) (Vw.digits (l.getD (↑z2:Int).toNat Sh.vl.nil)) (Vw.truth (l.getD (↑z2:Int).toNat Sh.vl.nil)) (Vw.name (l.getD (↑z2:Int).toNat Sh.vl.nil)) (Vw.fields (l.getD (↑z2:Int).toNat Sh.vl.nil))) (Vw.mk (Vw.kind (m.getD (↑z2:Int).toNat Sh.vl.nil)) (Vw.neg (m.getD (↑z2:Int).toNat Sh.vl.nil)) (Vw.digits (m.getD (↑z2:Int).toNat Sh.vl.nil)) (Vw.truth (m.getD (↑z2:Int).toNat Sh.vl.nil)) (Vw.name (m.getD (↑z2:Int).toNat Sh.vl.nil)) (Vw.fields (m.getD (↑z2:Int).toNat Sh.vl.nil)))→ifB (!z3) (true=true∧Sub (bV false) (bV (sameVL l m))) (∃ (x4:Nat),(True∧SubB (PV.f (Lf.dt Sh.vl l)) (PV.f (Lf.dt Sh.vl l))∧SubB (PV.f (Lf.dt Sh.vl m)) (PV.f (Lf.dt Sh.vl m))∧SubB (PV.f (Lf.v (Value.func (Fn.func 10) (Array.mk []) (Array.mk [])))) (PV.f (Lf.v (Value.func (Fn.func 10) (Array.mk []) (Array.mk []))))∧SubB (PV.f (Lf.dt Sh.vl l)) (PV.f (Lf.dt Sh.vl l))∧SubB (iV (↑l.length:Int)) (iV (↑l.length:Int))∧SubB (iV (IntKind.i64.wrap ((↑z2:Int)+(1:Int)))) (iV (↑x4:Int))∧True)∧(x4≤l.length∧l.length=m.length∧List.take x4 l=List.take x4 m)∧True∧(l.length - x4).succ.le (l.length - z2))) (true=true∧Sub (bV true) (bV (sameVL l m))))) ?kr ?_
        case kr=>kernel_rfl
        refine ifB_iff.2 ⟨fun hb0=>⟨rfl,?m0⟩,fun hb0=>⟨?x0,⟨⟨trivial,⟨.refl _,⟨.refl _,⟨.refl _,⟨.refl _,⟨.refl _,⟨?m1,trivial⟩⟩⟩⟩⟩⟩⟩,⟨?s0,⟨trivial,fun z2=>fun hq1=>fun _=>ifB_iff.2 ⟨fun hb2=>⟨?s1,⟨?s2,⟨?s3,fun z3=>fun hz3=>ifB_iff.2 ⟨fun hb3=>⟨rfl,?m2⟩,fun hb3=>⟨?x1,⟨⟨trivial,⟨.refl _,⟨.refl _,⟨.refl _,⟨.refl _,⟨.refl _,⟨?m3,trivial⟩⟩⟩⟩⟩⟩⟩,⟨?s4,⟨trivial,?m4⟩⟩⟩⟩⟩⟩⟩⟩,fun hb2=>⟨rfl,?m5⟩⟩⟩⟩⟩⟩⟩
        case x0=>exact 0
        case x1=>exact z2+1
        all_goals try simp only [Vw.eta,bne_iff_ne,ne_eq,bne_eq_false_iff_eq,decide_eq_true_eq,decide_eq_false_iff_not,Int.toNat_natCast,Int.natCast_inj,Bool.not_eq_true',Bool.not_eq_false'] at *
        case m0=>exact (subB_b (Bool.eq_false_iff.2 fun h=>hb0 (by rw [sameVL_iff.1 h])).symm).sub
        case m1=>exact .refl _
        case s0=>exact ⟨Nat.zero_le _,hb0,rfl⟩
        case m5 =>
         refine (subB_b (sameVL_iff.2 ?_).symm).sub
         have h:=hq1.2.2
         rwa [List.take_of_length_le (by omega),List.take_of_length_le (by omega)] at h
        all_goals have hz:z2<l.length:=by omega
        all_goals have hm:z2<m.length:=by have:=hq1.2.1; omega
        case s1=>omega
        case s2=>omega
        case s3=>exact ⟨by have:=szVL_le (l:=l) (i:=z2) Sh.vl.nil hz; omega,fitVL_at _ hf hz,fitVL_at _ hg hm⟩
        case m2 =>
         refine (subB_b (Bool.eq_false_iff.2 fun h=>?_).symm).sub
         rw [sameVL_iff] at h
         subst h
         rw [hb3] at hz3
         exact absurd (sameV_iff.2 rfl) (Bool.eq_false_iff.1 hz3.symm)
        case m3=>exact subB_i (by rw [wJ _ (by omega) (by omega)]; rfl)
        case s4 =>
         rw [hb3] at hz3
         exact ⟨by omega,hq1.2.1,take_next Sh.vl.nil hz hm hq1.2.2 (sameV_iff.1 hz3.symm)⟩
        case m4=>exact (by omega:l.length - (z2+1)<l.length - z2)
      · cases hs
    · cases hs
theorem cSameV {E:Env} (hU:Up E):Contract Tryz.prog E 10 sSameV:=by
 intro xs p r hs hp
 unfold sSameV at hs
 split at hs
 · rename_i x y
   split at hs
   · rename_i t u ht hu
     cases hs
     exact (cSameVN hU (2 * t.size+1)).1 [x,y] _ _ (by simp only [sSameVN,ht,hu]; rfl) (fun q hq=>by cases hq; exact ⟨Nat.lt_succ_self _,hp _ rfl⟩)
   · cases hs
 · cases hs
def sCopy:Spec
 | [x]=>match vlOf x with
  | some v=>some (some (v.fitV 40000000),.one (vlP v))
  | none=>none
 | _=>none
theorem cCopy {E:Env} (hU:Up E):Contract Tryz.prog E 39 sCopy:=by
 intro xs p r hs hp
 unfold sCopy at hs
 split at hs
 · rename_i x
   split at hs
   · rename_i v hv
     cases hs
     exact cCopyN hU (v.size+1) [x] _ _ (by simp only [sCopyN,hv]; rfl) (fun q hq=>by cases hq; exact ⟨Nat.lt_succ_self _,hp _ rfl⟩)
   · cases hs
 · cases hs
end Go.Proofs.YtpjjdngoblfleaaGreat
