/- The names that stand in a term. -/
import Derived.Test.YtemhncjjiomppaaDoorTe
namespace Go.Proofs.YtemhncjjiomppaaDoor
open Go.RowKit
set_option linter.unusedVariables false
set_option maxRecDepth 100000
mutual
def Qab:Tw→List ByteArray
 | .mk k n _ _ l=>(if k=1 then [n] else [])++Qau l
def Qau:List Tw→List ByteArray
 | []=>[]
 | t::l=>Qab t++Qau l
end
theorem Qg9 (t:Tw):Qab t=(if t.kind=1 then [t.name] else [])++Qau t.kids:=by cases t; rfl
theorem Qcd:∀ {l:List Tw} {i:Nat},i<l.length→Qau (l.take i)++Qab (l.getD i Sh.tm.nil)=Qau (l.take (i+1))
 | t::l,0,_=>by simp [Qau]
 | t::l,i+1,h=>by
  have:=Qcd (l:=l) (i:=i) (by simpa using h)
  simp only [List.take_succ_cons,Qau,List.getD_cons_succ,List.append_assoc,this]
mutual
theorem Qc0:∀ t:Tw,(Qab t).length≤t.size
 | .mk k n b d l=>by
  have:=Qft l
  rw [Qab,Tw.size,List.length_append]
  split
  · simp only [List.length_singleton]; omega
  · simp only [List.length_nil]; omega
theorem Qft:∀ l:List Tw,(Qau l).length≤szL l
 | []=>Nat.le_refl _
 | t::l=>by
  have h1:=Qc0 t
  have h2:=Qft l
  rw [Qau,szL,List.length_append]
  omega
end
theorem Qdt:∀ {l:List Tw} {i:Nat},i<l.length→(Qau (l.take i)).length+(l.getD i Sh.tm.nil).size≤szL l
 | t::l,0,_=>by simp [Qau,szL]
 | t::l,i+1,h=>by
  have h1:=Qdt (l:=l) (i:=i) (by simpa using h)
  have h2:=Qc0 t
  simp only [List.take_succ_cons,Qau,List.getD_cons_succ,List.length_append,szL]
  omega
theorem Qlo (t:Tw):(if t.kind=1 then [t.name] else []).length≤1:=by split <;> simp
theorem QfU {o:Nat} {x y:Lf} (h:x=y):SubB (.tl o x) (.tl o y):=by subst h; exact .refl _
def Qep (n:Nat):Spec2
 | [x,.bp 0 0,.bp 1 0],[.cells [.tl 2 (.dt .str L)],.cells [.fn 35 [] [.bp 0 0,.bp 1 0]],.tail 9 1]=>match tmOf x with
  | some t=>some (.need (t.size<n∧t.fitT∧L.length+t.size≤100000000) (.ret (.tup []) [.cells [.tl 2 (.dt .str (L++Qab t))],.cells [.fn 35 [] [.bp 0 0,.bp 1 0]],.tail 9 1]))
  | none=>none
 | _,_=>none
theorem Qml {E:Env} (hU:Up E):∀ n,Contract2 Tryd.prog E 35 (Qep n)
 | 0=>by
  intro xs ob o hs hok
  unfold Qep at hs
  split at hs
  · split at hs
    · cases hs
      exact absurd hok.1.1 (Nat.not_lt_zero _)
    · cases hs
  · cases hs
 | n+1=>by
  refine contract2 [] [(35,Qep n)] Tryd.ntmps35 Tryd.func35 (by kernel_rfl) (by kernel_rfl) hU trivial ⟨Qml hU n,trivial⟩ ?_
  intro xs ob o hs hok
  unfold Qep at hs
  split at hs
  · rename_i x L
    split at hs
    · rename_i t h1
      cases hs
      obtain ⟨⟨hn,hft,hL⟩,-⟩:=hok
      refine ⟨[tmP t,.bp 0 0,.bp 1 0],[(4,.s ⟨Nat,fun i=>⟨[(1,.bp 0 0),(2,.bp 1 0),(3,.bp 3 0),(15,.f (.dt .tm t.kids)),(16,iV t.kids.length),(17,iV i)],[.cells [.tl 2 (.dt .str (L++((if t.kind=1 then [t.name] else [])++Qau (t.kids.take i))))],.cells [.fn 35 [] [.bp 0 0,.bp 1 0]],.tail 9 1,.cells (Qad (tmC t))]⟩,fun i=>i≤t.kids.length,fun i=>t.kids.length - i⟩)],.cons (QaK h1) (.cons (.refl _) (.cons (.refl _) .nil)),rfl,fun _ hsh=>?_⟩
      have h0:=hft
      refine Qag (p:=ifB (t.kind==(1:Int)) ((L.length+1≤9223372036854775807∧(L.length+1) * 16≤140737488355328)∧∃ (x1:Nat),(((SubB (PV.tl 2 (Lf.dt Sh.str (L++[t.name]))) (PV.tl 2 (Lf.dt Sh.str (L++((if t.kind=(1:Int) then [t.name] else [])++Qau (List.take x1 t.kids)))))∧True)∧(SubB (PV.fn 35 [] [PV.bp 0 0,PV.bp 1 0]) (PV.fn 35 [] [PV.bp 0 0,PV.bp 1 0])∧True)∧(SubB (PV.f (Lf.v (Value.int IntKind.u8 t.kind))) (PV.f (Lf.v (Value.int IntKind.u8 t.kind)))∧SubB (sV t.name) (sV t.name)∧SubB (bV t.neg) (bV t.neg)∧SubB (PV.f (Lf.lr t.digits t.digits.length)) (PV.f (Lf.lr t.digits t.digits.length))∧SubB (PV.f (Lf.dt Sh.tm t.kids)) (PV.f (Lf.dt Sh.tm t.kids))∧True)∧True)∧SubB (PV.bp 0 0) (PV.bp 0 0)∧SubB (PV.bp 1 0) (PV.bp 1 0)∧SubB (PV.bp 3 0) (PV.bp 3 0)∧SubB (PV.f (Lf.dt Sh.tm t.kids)) (PV.f (Lf.dt Sh.tm t.kids))∧SubB (iV (↑t.kids.length:Int)) (iV (↑t.kids.length:Int))∧SubB (iV 0) (iV (↑x1:Int))∧True)∧x1≤t.kids.length∧True∧∀ (z2:Nat),z2≤t.kids.length→True→ifB (decide ((↑z2:Int)<(↑t.kids.length:Int))) (((0:Int)≤(↑z2:Int)∧(↑z2:Int)<(↑t.kids.length:Int))∧((Tw.mk (Tw.kind (t.kids.getD (↑z2:Int).toNat Sh.tm.nil)) (Tw.name (t.kids.getD (↑z2:Int).toNat Sh.tm.nil)) (Tw.neg (t.kids.getD (↑z2:Int).toNat Sh.tm.nil)) (Tw.digits (t.kids.getD (↑z2:Int).toNat Sh.tm.nil)) (Tw.kids (t.kids.getD (↑z2:Int).toNat Sh.tm.nil))).size<n∧(Tw.mk (Tw.kind (t.kids.getD (↑z2:Int).toNat Sh.tm.nil)) (Tw.name (t.kids.getD (↑z2:Int).toNat Sh.tm.nil)) (Tw.neg (t.kids.getD (↑z2:Int).toNat Sh.tm.nil)) (Tw.digits (t.kids.getD (↑z2:Int).toNat Sh.tm.nil)) (Tw.kids (t.kids.getD (↑z2:Int).toNat Sh.tm.nil))).fitT∧(L++((if t.kind=(1:Int) then [t.name] else [])++Qau (List.take z2 t.kids))).length+(Tw.mk (Tw.kind (t.kids.getD (↑z2:Int).toNat Sh.tm.nil)) (Tw.name (t.kids.getD (↑z2:Int).toNat Sh.tm.nil)) (Tw.neg (t.kids.getD (↑z2:Int).toNat Sh.tm.nil)) (Tw.digits (t.kids.getD (↑z2:Int).toNat Sh.tm.nil)) (Tw.kids (t.kids.getD (↑z2:Int).toNat Sh.tm.nil))).size≤100000000)∧∃ (x3:Nat),(((SubB (PV.tl 2 (Lf.dt Sh.str (L++((if t.kind=(1:Int) then [t.name] else [])++Qau (List.take z2 t.kids))++Qab (Tw.mk (Tw.kind (t.kids.getD (↑z2:Int).toNat Sh.tm.nil)) (Tw.name (t.kids.getD (↑z2:Int).toNat Sh.tm.nil)) (Tw.neg (t.kids.getD (↑z2:Int).toNat Sh.tm.nil)) (Tw.digits (t.kids.getD (↑z2:Int).toNat Sh.tm.nil)) (Tw.kids (t.kids.getD (↑z2:Int).toNat Sh.tm.nil)))))) (PV.tl 2 (Lf.dt Sh.str (L++((if t.kind=(1:Int) then [t.name] else [])++Qau (List.take x3 t.kids)))))∧True)∧(SubB (PV.fn 35 [] [PV.bp 0 0,PV.bp 1 0]) (PV.fn 35 [] [PV.bp 0 0,PV.bp 1 0])∧True)∧(SubB (PV.f (Lf.v (Value.int IntKind.u8 t.kind))) (PV.f (Lf.v (Value.int IntKind.u8 t.kind)))∧SubB (sV t.name) (sV t.name)∧SubB (bV t.neg) (bV t.neg)∧SubB (PV.f (Lf.lr t.digits t.digits.length)) (PV.f (Lf.lr t.digits t.digits.length))∧SubB (PV.f (Lf.dt Sh.tm t.kids)) (PV.f (Lf.dt Sh.tm t.kids))∧True)∧True)∧SubB (PV.bp 0 0) (PV.bp 0 0)∧SubB (PV.bp 1 0) (PV.bp 1 0)∧SubB (PV.bp 3 0) (PV.bp 3 0)∧SubB (PV.f (Lf.dt Sh.tm t.kids)) (PV.f (Lf.dt Sh.tm t.kids))∧SubB (iV (↑t.kids.length:Int)) (iV (↑t.kids.length:Int))∧SubB (iV (IntKind.i64.wrap ((↑z2:Int)+(1:Int)))) (iV (↑x3:Int))∧True)∧x3≤t.kids.length∧True∧(t.kids.length - x3).succ.le (t.kids.length - z2)) (EndU 3 (Out.need (t.size<n+1∧t.fitT∧L.length+t.size≤100000000) (Out.ret (PV.tup []) [PO.cells [PV.tl 2 (Lf.dt Sh.str (L++Qab t))],PO.cells [PV.fn 35 [] [PV.bp 0 0,PV.bp 1 0]],PO.tail 9 1])).fin true (PV.tup []) [PO.cells [PV.tl 2 (Lf.dt Sh.str (L++((if t.kind=(1:Int) then [t.name] else [])++Qau (List.take z2 t.kids))))],PO.cells [PV.fn 35 [] [PV.bp 0 0,PV.bp 1 0]],PO.tail 9 1,PO.cells (Qad (tmC t))])) (∃ (x1:Nat),(((SubB (PV.tl 2 (Lf.dt Sh.str L)) (PV.tl 2 (Lf.dt Sh.str (L++((if t.kind=(1:Int) then [t.name] else [])++Qau (List.take x1 t.kids)))))∧True)∧(SubB (PV.fn 35 [] [PV.bp 0 0,PV.bp 1 0]) (PV.fn 35 [] [PV.bp 0 0,PV.bp 1 0])∧True)∧(SubB (PV.f (Lf.v (Value.int IntKind.u8 t.kind))) (PV.f (Lf.v (Value.int IntKind.u8 t.kind)))∧SubB (sV t.name) (sV t.name)∧SubB (bV t.neg) (bV t.neg)∧SubB (PV.f (Lf.lr t.digits t.digits.length)) (PV.f (Lf.lr t.digits t.digits.length))∧SubB (PV.f (Lf.dt Sh.tm t.kids)) (PV.f (Lf.dt Sh.tm t.kids))∧True)∧True)∧SubB (PV.bp 0 0) (PV.bp 0 0)∧SubB (PV.bp 1 0) (PV.bp 1 0)∧SubB (PV.bp 3 0) (PV.bp 3 0)∧SubB (PV.f (Lf.dt Sh.tm t.kids)) (PV.f (Lf.dt Sh.tm t.kids))∧SubB (iV (↑t.kids.length:Int)) (iV (↑t.kids.length:Int))∧SubB (iV 0) (iV (↑x1:Int))∧True)∧x1≤t.kids.length∧True∧∀ (z2:Nat),z2≤t.kids.length→True→ifB (decide ((↑z2:Int)<(↑t.kids.length:Int))) (((0:Int)≤(↑z2:Int)∧(↑z2:Int)<(↑t.kids.length:Int))∧((Tw.mk (Tw.kind (t.kids.getD (↑z2:Int).toNat Sh.tm.nil)) (Tw.name (t.kids.getD (↑z2:Int).toNat Sh.tm.nil)) (Tw.neg (t.kids.getD (↑z2:Int).toNat Sh.tm.nil)) (Tw.digits (t.kids.getD (↑z2:Int).toNat Sh.tm.nil)) (Tw.kids (t.kids.getD (↑z2:Int).toNat Sh.tm.nil))).size<n∧(Tw.mk (Tw.kind (t.kids.getD (↑z2:Int).toNat Sh.tm.nil)) (Tw.name (t.kids.getD (↑z2:Int).toNat Sh.tm.nil)) (Tw.neg (t.kids.getD (↑z2:Int).toNat Sh.tm.nil)) (Tw.digits (t.kids.getD (↑z2:Int).toNat Sh.tm.nil)) (Tw.kids (t.kids.getD (↑z2:Int).toNat Sh.tm.nil))).fitT∧(L++((if t.kind=(1:Int) then [t.name] else [])++Qau (List.take z2 t.kids))).length+(Tw.mk (Tw.kind (t.kids.getD (↑z2:Int).toNat Sh.tm.nil)) (Tw.name (t.kids.getD (↑z2:Int).toNat Sh.tm.nil)) (Tw.neg (t.kids.getD (↑z2:Int).toNat Sh.tm.nil)) (Tw.digits (t.kids.getD (↑z2:Int).toNat Sh.tm.nil)) (Tw.kids (t.kids.getD (↑z2:Int).toNat Sh.tm.nil))).size≤100000000)∧∃ (x3:Nat),(((SubB (PV.tl 2 (Lf.dt Sh.str (L++((if t.kind=(1:Int) then [t.name] else [])++Qau (List.take z2 t.kids))++Qab (Tw.mk (Tw.kind (t.kids.getD (↑z2:Int).toNat Sh.tm.nil)) (Tw.name (t.kids.getD (↑z2:Int).toNat Sh.tm.nil)) (Tw.neg (t.kids.getD (↑z2:Int).toNat Sh.tm.nil)) (Tw.digits (t.kids.getD (↑z2:Int).toNat Sh.tm.nil)) (Tw.kids (t.kids.getD (↑z2:Int).toNat Sh.tm.nil)))))) (PV.tl 2 (Lf.dt Sh.str (L++((if t.kind=(1:Int) then [t.name] else [])++Qau (List.take x3 t.kids)))))∧True)∧(SubB (PV.fn 35 [] [PV.bp 0 0,PV.bp 1 0]) (PV.fn 35 [] [PV.bp 0 0,PV.bp 1 0])∧True)∧(SubB (PV.f (Lf.v (Value.int IntKind.u8 t.kind))) (PV.f (Lf.v (Value.int IntKind.u8 t.kind)))∧SubB (sV t.name) (sV t.name)∧SubB (bV t.neg) (bV t.neg)∧SubB (PV.f (Lf.lr t.digits t.digits.length)) (PV.f (Lf.lr t.digits t.digits.length))∧SubB (PV.f (Lf.dt Sh.tm t.kids)) (PV.f (Lf.dt Sh.tm t.kids))∧True)∧True)∧SubB (PV.bp 0 0) (PV.bp 0 0)∧SubB (PV.bp 1 0) (PV.bp 1 0)∧SubB (PV.bp 3 0) (PV.bp 3 0)∧SubB (PV.f (Lf.dt Sh.tm t.kids)) (PV.f (Lf.dt Sh.tm t.kids))∧SubB (iV (↑t.kids.length:Int)) (iV (↑t.kids.length:Int))∧SubB (iV (IntKind.i64.wrap ((↑z2:Int)+(1:Int)))) (iV (↑x3:Int))∧True)∧x3≤t.kids.length∧True∧(t.kids.length - x3).succ.le (t.kids.length - z2)) (EndU 3 (Out.need (t.size<n+1∧t.fitT∧L.length+t.size≤100000000) (Out.ret (PV.tup []) [PO.cells [PV.tl 2 (Lf.dt Sh.str (L++Qab t))],PO.cells [PV.fn 35 [] [PV.bp 0 0,PV.bp 1 0]],PO.tail 9 1])).fin true (PV.tup []) [PO.cells [PV.tl 2 (Lf.dt Sh.str (L++((if t.kind=(1:Int) then [t.name] else [])++Qau (List.take z2 t.kids))))],PO.cells [PV.fn 35 [] [PV.bp 0 0,PV.bp 1 0]],PO.tail 9 1,PO.cells (Qad (tmC t))]))) ?kr ?_
      case kr=>kernel_rfl
      refine Qaa.2 ⟨fun hb0=>⟨?s0,⟨?x0,⟨⟨⟨⟨?m0,trivial⟩,⟨⟨?m1,trivial⟩,⟨⟨.refl _,⟨.refl _,⟨.refl _,⟨.refl _,⟨.refl _,trivial⟩⟩⟩⟩⟩,trivial⟩⟩⟩,⟨.refl _,⟨.refl _,⟨.refl _,⟨.refl _,⟨?m2,⟨?m3,trivial⟩⟩⟩⟩⟩⟩⟩,⟨?s1,⟨trivial,fun z2=>fun hq1=>fun _=>Qaa.2 ⟨fun hb2=>⟨?s2,⟨?s3,⟨?x1,⟨⟨⟨⟨?m4,trivial⟩,⟨⟨.refl _,trivial⟩,⟨⟨.refl _,⟨.refl _,⟨.refl _,⟨.refl _,⟨.refl _,trivial⟩⟩⟩⟩⟩,trivial⟩⟩⟩,⟨.refl _,⟨.refl _,⟨.refl _,⟨.refl _,⟨.refl _,⟨?m5,trivial⟩⟩⟩⟩⟩⟩⟩,⟨?s4,⟨trivial,?m6⟩⟩⟩⟩⟩⟩,fun hb2=>?m7⟩⟩⟩⟩⟩⟩,fun hb0=>⟨?x2,⟨⟨⟨⟨?m8,trivial⟩,⟨⟨?m9,trivial⟩,⟨⟨.refl _,⟨.refl _,⟨.refl _,⟨.refl _,⟨.refl _,trivial⟩⟩⟩⟩⟩,trivial⟩⟩⟩,⟨.refl _,⟨.refl _,⟨.refl _,⟨.refl _,⟨?m10,⟨?m11,trivial⟩⟩⟩⟩⟩⟩⟩,⟨?s5,⟨trivial,fun z2=>fun hq3=>fun _=>Qaa.2 ⟨fun hb4=>⟨?s6,⟨?s7,⟨?x3,⟨⟨⟨⟨?m12,trivial⟩,⟨⟨.refl _,trivial⟩,⟨⟨.refl _,⟨.refl _,⟨.refl _,⟨.refl _,⟨.refl _,trivial⟩⟩⟩⟩⟩,trivial⟩⟩⟩,⟨.refl _,⟨.refl _,⟨.refl _,⟨.refl _,⟨.refl _,⟨?m13,trivial⟩⟩⟩⟩⟩⟩⟩,⟨?s8,⟨trivial,?m14⟩⟩⟩⟩⟩⟩,fun hb4=>?m15⟩⟩⟩⟩⟩⟩
      case x0=>exact 0
      case x1=>exact z2+1
      case x2=>exact 0
      case x3=>exact z2+1
      all_goals try simp only [Tw.eta,Int.toNat_natCast,beq_iff_eq,beq_eq_false_iff_ne,ne_eq,decide_eq_true_eq,decide_eq_false_iff_not,Int.ofNat_lt] at *
      all_goals have hsz:t.size=szL t.kids+1:=Tw.size_eq t
      case s0=>have:=t.size_pos; omega
      case m0=>rw [if_pos hb0]; exact QfU (by simp [Qau])
      case m8=>rw [if_neg hb0]; exact QfU (by simp [Qau])
      case m1=>exact .refl _
      case m2=>exact .refl _
      case m3=>exact .refl _
      case m9=>exact .refl _
      case m10=>exact .refl _
      case m11=>exact .refl _
      case s1=>exact Nat.zero_le _
      case s5=>exact Nat.zero_le _
      case m7 =>
       have e:z2=t.kids.length:=by omega
       rw [e,List.take_length,← Qg9]
       exact Qaw (endU rfl (.refl _) rfl rfl rfl)
      case m15 =>
       have e:z2=t.kids.length:=by omega
       rw [e,List.take_length,← Qg9]
       exact Qaw (endU rfl (.refl _) rfl rfl rfl)
      case s2=>omega
      case s6=>omega
      case s3 =>
       have h3:=Qdt hb2
       have h4:=Qlo t
       exact ⟨by omega,QaU _ ((Tw.fitT_eq t).1 hft).2.2.2 hb2,by rw [List.length_append,List.length_append]; omega⟩
      case s7 =>
       have h3:=Qdt hb4
       have h4:=Qlo t
       exact ⟨by omega,QaU _ ((Tw.fitT_eq t).1 hft).2.2.2 hb4,by rw [List.length_append,List.length_append]; omega⟩
      case m4=>exact QfU (by rw [List.append_assoc,List.append_assoc,Qcd hb2])
      case m12=>exact QfU (by rw [List.append_assoc,List.append_assoc,Qcd hb4])
      case m5=>have:=((Tw.fitT_eq t).1 hft).2.2.1; rw [wJ _ (by omega) (by omega)]; exact .refl _
      case m13=>have:=((Tw.fitT_eq t).1 hft).2.2.1; rw [wJ _ (by omega) (by omega)]; exact .refl _
      case s4=>omega
      case s8=>omega
      case m6=>exact (by omega:t.kids.length - (z2+1)<t.kids.length - z2)
      case m14=>exact (by omega:t.kids.length - (z2+1)<t.kids.length - z2)
    · cases hs
  · cases hs
end Go.Proofs.YtemhncjjiomppaaDoor
