/- The layer kind: shapes; some together; conjuncts. -/
import Derived.Test.YtijfaigpilfpaaaGreatDoorHc
import Derived.Test.YtijfaigpilfpaaaGreatDoorCa
set_option linter.unusedSimpArgs false
namespace Go.Proofs.YtijfaigpilfpaaaGreatDoor
open Go.RowKit
set_option linter.unusedVariables false
set_option maxRecDepth 100000
def Qiu:Spec
 | [x]=>match tyOf x with
  | some t=>some (none,.nm Bool (Qbf t) bV)
  | none=>none
 | _=>none
theorem Qpw {E:Env} (hU:Up E):Contract Tryz.prog E 41 Qiu:=by
 refine Qac [] [] Tryz.ntmps41 Tryz.func41 (by kernel_rfl) (by kernel_rfl) hU trivial trivial ?_
 intro xs p r hs hp
 unfold Qiu at hs
 split at hs
 · rename_i x
   split at hs
   · rename_i t ht
     cases hs
     refine ⟨[tyP t],[],.cons (Qbp ht).sub .nil,rfl,fun _ hsh=>?_⟩
     have h0:=ht
     refine Qab (p:=ifB (!t.fn) (ifB ((↑t.params.length:Int)==(0:Int)) (true=true∧Sub (bV ((↑t.result.length:Int)==(0:Int))) (bV (Qbf t))) (true=true∧Sub (bV false) (bV (Qbf t)))) (true=true∧Sub (bV false) (bV (Qbf t)))) ?kr ?_
     case kr=>kernel_rfl
     refine Qaa.2 ⟨fun hb0=>Qaa.2 ⟨fun hb1=>⟨rfl,?m0⟩,fun hb1=>⟨rfl,?m1⟩⟩,fun hb0=>⟨rfl,?m2⟩⟩
     all_goals try simp only [Bool.not_eq_true',Bool.not_eq_false',beq_iff_eq,beq_eq_false_iff_ne,ne_eq] at *
     all_goals refine (Qah ?_).sub
     all_goals unfold Qbf
     case m0 =>
      have h1:t.params.length=0:=by omega
      rw [hb0,h1]
      rw [show ((t.result.length:Int)==0)=decide (t.result.length=0) by rw [Bool.eq_iff_iff,beq_iff_eq,decide_eq_true_eq]; omega]
      rfl
     case m1 =>
      have h1:¬ t.params.length=0:=by omega
      rw [hb0,decide_eq_false h1]
      rfl
     case m2=>rw [hb0]; rfl
   · cases hs
 · cases hs
noncomputable def sFunsY:Spec
 | [x]=>match tyOf x with
  | some t=>some (some t.ref.fitT,.nm Bool (funsY t) bV)
  | none=>none
 | _=>none
theorem Qr3 {E:Env} (hU:Up E):Contract Tryz.prog E 50 sFunsY:=by
 refine Qac [(43,sSameK)] [] Tryz.ntmps50 Tryz.func50 (by kernel_rfl) (by kernel_rfl) hU ⟨Qr0 hU,trivial⟩ trivial ?_
 intro xs p r hs hp
 unfold sFunsY at hs
 split at hs
 · rename_i x
   split at hs
   · rename_i t ht
     cases hs
     have hf:=hp _ rfl
     refine ⟨[tyP t],[],.cons (Qbp ht).sub .nil,rfl,fun _ hsh=>?_⟩
     have h0:=ht
     refine Qab (p:=ifB t.fn (ifB ((↑t.result.length:Int)==(1:Int)) (ifB (t.sort.toList==(ByteArray.mk #[]).toList) (((etaT t.ref).fitT∧(Tw.mk (0:Int) (ByteArray.mk #[]) false [] []).fitT)∧∀ (z1:Bool),z1=sameT (etaT t.ref) (Tw.mk (0:Int) (ByteArray.mk #[]) false [] [])→true=true∧Sub (bV z1) (bV (funsY t))) (true=true∧Sub (bV false) (bV (funsY t)))) (true=true∧Sub (bV false) (bV (funsY t)))) (true=true∧Sub (bV false) (bV (funsY t)))) ?kr ?_
     case kr=>kernel_rfl
     refine Qaa.2 ⟨fun hb0=>Qaa.2 ⟨fun hb1=>Qaa.2 ⟨fun hb2=>⟨?s0,fun z1=>fun hz1=>⟨rfl,?m0⟩⟩,fun hb2=>⟨rfl,?m1⟩⟩,fun hb1=>⟨rfl,?m2⟩⟩,fun hb0=>⟨rfl,?m3⟩⟩
     all_goals try simp only [etaT] at *
     all_goals try simp only [bs_l,Tw.eta,beq_iff_eq,beq_eq_false_iff_ne,ne_eq,decide_eq_true_eq,decide_eq_false_iff_not] at *
     case s0=>exact ⟨hf,Nat.zero_le _,Nat.zero_le _,Nat.zero_le _,trivial⟩
     all_goals refine (Qah ?_).sub
     all_goals unfold funsY
     case m0 =>
      have h1:t.result.length=1:=by omega
      rw [hb0,decide_eq_true h1,decide_eq_true hb2,hz1]
      rfl
     case m1=>rw [hb0,decide_eq_false hb2]; cases decide (t.result.length=1) <;> rfl
     case m2 =>
      have h1:¬ t.result.length=1:=by omega
      rw [hb0,decide_eq_false h1]
      rfl
     case m3=>rw [hb0]; rfl
   · cases hs
 · cases hs
def Qjz:Spec
 | [.f x]=>match dtOf .tm x with
  | some l=>some (some (l.length≤100000000),.one (tmP (Qaw l)))
  | none=>none
 | _=>none
theorem QtE {E:Env} (hU:Up E):Contract Tryz.prog E 52 Qjz:=by
 refine Qac [] [(40,QjK)] Tryz.ntmps52 Tryz.func52 (by kernel_rfl) (by kernel_rfl) hU trivial ⟨QtT hU,trivial⟩ ?_
 intro xs p r hs hp
 unfold Qjz at hs
 split at hs
 · rename_i x
   split at hs
   · rename_i l hl
     cases hs
     have hn:=hp _ rfl
     refine ⟨[.f (.dt .tm l)],[],.cons (Qa9 hl).sub .nil,rfl,fun _ hsh=>?_⟩
     have h0:=hn
     refine Qab (p:=ifB ((↑l.length:Int)==(0:Int)) (true=true∧Sub (PV.agg [uV 3,sV (ByteArray.mk #[]),bV false,nlP,nlP]) (PV.agg (Qae (tmC (Qaw l))))) (ifB ((↑l.length:Int)==(1:Int)) (((0:Int)≤(0:Int)∧(0:Int)<(↑l.length:Int))∧true=true∧Sub (PV.agg (Qae (tmC (l.getD (Int.toNat (0:Int)) Sh.tm.nil)))) (PV.agg (Qae (tmC (Qaw l))))) (l.length≤100000000∧ifB (decide (l.length=0)) (true=true∧Sub (PV.agg [uV 11,sV (ByteArray.mk #[]),bV false,nlP,dP Sh.tm []]) (PV.agg (Qae (tmC (Qaw l))))) (true=true∧Sub (PV.agg [uV 11,sV (ByteArray.mk #[]),bV false,nlP,dP Sh.tm l]) (PV.agg (Qae (tmC (Qaw l)))))))) ?kr ?_
     case kr=>kernel_rfl
     refine Qaa.2 ⟨fun hb0=>⟨rfl,?m0⟩,fun hb0=>Qaa.2 ⟨fun hb1=>⟨?s0,⟨rfl,?m1⟩⟩,fun hb1=>⟨?s1,Qaa.2 ⟨fun hb2=>⟨rfl,?m2⟩,fun hb2=>⟨rfl,?m3⟩⟩⟩⟩⟩
     all_goals try simp only [beq_iff_eq,beq_eq_false_iff_ne,ne_eq,decide_eq_true_eq,decide_eq_false_iff_not] at *
     case m0 =>
      obtain rfl:l=[]:=List.length_eq_zero_iff.1 (by omega)
      exact (QaG (t:=Qaw []) rfl).sub
     case s0=>exact ⟨by omega,by omega⟩
     case m1 =>
      match l,hb1 with
      | [x],_=>exact .refl (tmP x)
     case s1=>exact hn
     case m2=>omega
     case m3 =>
      match l,hb0,hb1 with
      | [],h,_=>exact absurd rfl h
      | [x],_,h=>exact absurd rfl h
      | x::y::l,_,_=>exact (QaG (t:=.mk 11 ⟨#[]⟩ false [] (x::y::l)) rfl).sub
   · cases hs
 · cases hs
theorem nil_dt {s:Sh}:SubB (.f (.v (.slice none 0 0))) (.f (.dt s [])):=⟨fun H B v hv=>.f (hv.sval rfl ▸ Qeg (x:=.dt s []) rfl (fun _=>rfl) trivial)⟩
theorem Qsh (f:Bool) (s:ByteArray) (t:Tw):SubB (.agg [bV f,sV s,.f (.v (.int .u8 t.kind)),sV t.name,bV t.neg,.f (.lr t.digits t.digits.length),.f (.dt .tm t.kids),.f (.v (.slice none 0 0)),.f (.v (.slice none 0 0))]) (tyP (.mk f s t [] [])):=by
 obtain ⟨k,n,b,d,l⟩:=t
 exact Qbp rfl
def Qk5:Spec
 | [.f (.v (.string s)),.f x]=>match dtOf .tm x with
  | some l=>some (some (l.length≤100000000),.one (tyP (.mk false s (Qaw l) [] [])))
  | none=>none
 | _=>none
theorem Qr5 {E:Env} (hU:Up E):Contract Tryz.prog E 15 Qk5:=by
 refine Qac [(52,Qjz)] [] Tryz.ntmps15 Tryz.func15 (by kernel_rfl) (by kernel_rfl) hU ⟨QtE hU,trivial⟩ trivial ?_
 intro xs p r hs hp
 unfold Qk5 at hs
 split at hs
 · rename_i s x
   split at hs
   · rename_i l hl
     cases hs
     have hn:=hp _ rfl
     refine ⟨[.f (.v (.string s)),.f (.dt .tm l)],[],.cons (.refl _) (.cons (Qa9 hl).sub .nil),rfl,fun _ hsh=>?_⟩
     have h0:=hn
     refine Qab (p:=l.length≤100000000∧true=true∧Sub (PV.agg ([bV false,sV s]++(Qae (tmC (Qaw l))++[nlP,nlP]))) (PV.agg [bV ((Yw.mk false s (Qaw l) [] []).fn),sV ((Yw.mk false s (Qaw l) [] []).sort),uV ((Yw.mk false s (Qaw l) [] []).ref.kind),sV ((Yw.mk false s (Qaw l) [] []).ref.name),bV ((Yw.mk false s (Qaw l) [] []).ref.neg),PV.f (Lf.lr (Yw.mk false s (Qaw l) [] []).ref.digits (Yw.mk false s (Qaw l) [] []).ref.digits.length),dP Sh.tm (Yw.mk false s (Qaw l) [] []).ref.kids,dP Sh.prm [],dP Sh.ty []])) ?kr ?_
     case kr=>kernel_rfl
     refine ⟨?s0,⟨rfl,?m0⟩⟩
     case s0=>exact hn
     case m0=>exact (Qsh false s (Qaw l)).sub
   · cases hs
 · cases hs
mutual
theorem Qe6:∀ t:Tw,(conj t).length≤t.size
 | .mk k n b d l=>by
  have h:=QfX l
  rw [conj,Tw.size]
  split
  · exact Nat.zero_le _
  · split
    · omega
    · show 1≤_; omega
theorem QfX:∀ l:List Tw,(Qa6 l).length≤szL l
 | []=>Nat.le_refl _
 | t::l=>by
  have h1:=Qe6 t
  have h2:=QfX l
  rw [Qa6,szL,List.length_append]
  omega
end
theorem Qpa (l m:List Tw):Qa6 (l++m)=Qa6 l++Qa6 m:=by
 induction l with
 | nil=>rfl
 | cons t l ih=>rw [List.cons_append,Qa6,Qa6,ih,List.append_assoc]
theorem QmY {l:List Tw} {i:Nat} (h:i<l.length):Qa6 (l.take (i+1))=Qa6 (l.take i)++conj (l.getD i Sh.tm.nil):=by
 rw [List.take_add_one,List.getElem?_eq_getElem h,List.getD_eq_getElem?_getD,List.getElem?_eq_getElem h,Qpa]
 simp [Qa6]
theorem QhJ (t:Tw):conj t=if t.kind=3∧t.kids.length=0 then [] else if t.kind=11 then Qa6 t.kids else [t]:=by cases t; rw [conj]; rfl
def Qit (n:Nat):Spec
 | [x]=>match tmOf x with
  | some t=>some (some (t.size<n∧t.fitT∧t.size≤100000000),.one (.f (.dt .tm (conj t))))
  | none=>none
 | _=>none
theorem Qr4 {E:Env} (hU:Up E):∀ n,Contract Tryz.prog E 38 (Qit n)
 | 0=>by
  intro xs p r hs hp
  unfold Qit at hs
  split at hs
  · split at hs
    · cases hs
      exact absurd (hp _ rfl).1 (Nat.not_lt_zero _)
    · cases hs
  · cases hs
 | n+1=>by
  refine Qac [(38,Qit n)] [] Tryz.ntmps38 Tryz.func38 (by kernel_rfl) (by kernel_rfl) hU ⟨Qr4 hU n,trivial⟩ trivial ?_
  intro xs p r hs hp
  unfold Qit at hs
  split at hs
  · rename_i x
    split at hs
    · rename_i t ht
      cases hs
      obtain ⟨hn,hf,hsz⟩:=hp _ rfl
      have f2:=(Tw.fitT_eq t).1 hf
      refine ⟨[tmP t],[(1000005,.s ⟨Unit,fun _=>⟨[(1,.bp 0 0)],[.cells [.f (.v (.int .u8 t.kind)),.f (.v (.string t.name)),.f (.v (.bool t.neg)),.f (.lr t.digits t.digits.length),.f (.dt .tm t.kids)]]⟩,fun _=>t.kind=11,fun _=>0⟩),(7,.s ⟨Nat,fun i=>⟨[(1,.bp 0 0),(3,.tl 1 (.dt .tm (Qa6 (t.kids.take i)))),(23,.f (.dt .tm t.kids)),(24,iV t.kids.length),(25,iV i)],[.cells [.f (.v (.int .u8 t.kind)),.f (.v (.string t.name)),.f (.v (.bool t.neg)),.f (.lr t.digits t.digits.length),.f (.dt .tm t.kids)],.tail 28 5]⟩,fun i=>i≤t.kids.length,fun i=>t.kids.length - i⟩)],.cons (QaG ht).sub .nil,rfl,fun _ hsh=>?_⟩
      have h0:=hn
      refine Qab (p:=ifB (t.kind==(3:Int)) (ifB ((↑t.kids.length:Int)==(0:Int)) (true=true∧Sub (nlP) (dP Sh.tm (conj t))) (ifB (t.kind != (11:Int)) (true=true∧Sub (dP Sh.tm [etaT t]) (dP Sh.tm (conj t))) (∃ (x1:Unit),(((rfB (uV t.kind)∧rfB (sV t.name)∧rfB (bV t.neg)∧rfB (PV.f (Lf.lr t.digits t.digits.length))∧rfB (dP Sh.tm t.kids)∧True)∧True)∧rfB (PV.bp 0 0)∧True)∧t.kind=(11:Int)))) (ifB (t.kind != (11:Int)) (true=true∧Sub (dP Sh.tm [etaT t]) (dP Sh.tm (conj t))) (∃ (x1:Unit),(((rfB (uV t.kind)∧rfB (sV t.name)∧rfB (bV t.neg)∧rfB (PV.f (Lf.lr t.digits t.digits.length))∧rfB (dP Sh.tm t.kids)∧True)∧True)∧rfB (PV.bp 0 0)∧True)∧t.kind=(11:Int)))∧∀ (z1:Unit),t.kind=(11:Int)→∃ (x2:Nat),(((rfB (uV t.kind)∧rfB (sV t.name)∧rfB (bV t.neg)∧rfB (PV.f (Lf.lr t.digits t.digits.length))∧rfB (dP Sh.tm t.kids)∧True)∧True)∧rfB (PV.bp 0 0)∧Qbg (PV.tl 1 (Lf.dt Sh.tm (Qa6 (List.take x2 t.kids))))∧rfB (dP Sh.tm t.kids)∧rfB (iV (↑t.kids.length:Int))∧SubB (iV 0) (iV (↑x2:Int))∧True)∧x2≤t.kids.length∧True∧∀ (z3:Nat),z3≤t.kids.length→True→ifB (decide ((↑z3:Int)<(↑t.kids.length:Int))) (((0:Int)≤(↑z3:Int)∧(↑z3:Int)<(↑t.kids.length:Int))∧((etaT (t.kids.getD (↑z3:Int).toNat Sh.tm.nil)).size<n∧(etaT (t.kids.getD (↑z3:Int).toNat Sh.tm.nil)).fitT∧(etaT (t.kids.getD (↑z3:Int).toNat Sh.tm.nil)).size≤100000000)∧((Qa6 (List.take z3 t.kids)).length+(conj (etaT (t.kids.getD (↑z3:Int).toNat Sh.tm.nil))).length≤9223372036854775807∧((Qa6 (List.take z3 t.kids)).length+(conj (etaT (t.kids.getD (↑z3:Int).toNat Sh.tm.nil))).length) * 80≤140737488355328)∧∃ (x4:Nat),(((rfB (uV t.kind)∧rfB (sV t.name)∧rfB (bV t.neg)∧rfB (PV.f (Lf.lr t.digits t.digits.length))∧rfB (dP Sh.tm t.kids)∧True)∧True)∧rfB (PV.bp 0 0)∧SubB (PV.tl 1 (Lf.dt Sh.tm (Qa6 (List.take z3 t.kids)++conj (etaT (t.kids.getD (↑z3:Int).toNat Sh.tm.nil))))) (PV.tl 1 (Lf.dt Sh.tm (Qa6 (List.take x4 t.kids))))∧rfB (dP Sh.tm t.kids)∧rfB (iV (↑t.kids.length:Int))∧SubB (iV (IntKind.i64.wrap ((↑z3:Int)+(1:Int)))) (iV (↑x4:Int))∧True)∧x4≤t.kids.length∧True∧(t.kids.length - x4).succ.le (t.kids.length - z3)) (true=true∧Sub (dP Sh.tm (Qa6 (List.take z3 t.kids))) (dP Sh.tm (conj t)))) ?kr ?_
      case kr=>kernel_rfl
      refine ⟨Qaa.2 ⟨fun hb0=>Qaa.2 ⟨fun hb1=>⟨rfl,?m0⟩,fun hb1=>Qaa.2 ⟨fun hb2=>⟨rfl,?m1⟩,fun hb2=>⟨?x0,⟨⟨⟨⟨.refl _,⟨.refl _,⟨.refl _,⟨.refl _,⟨.refl _,trivial⟩⟩⟩⟩⟩,trivial⟩,⟨.refl _,trivial⟩⟩,?m2⟩⟩⟩⟩,fun hb0=>Qaa.2 ⟨fun hb3=>⟨rfl,?m3⟩,fun hb3=>⟨?x1,⟨⟨⟨⟨.refl _,⟨.refl _,⟨.refl _,⟨.refl _,⟨.refl _,trivial⟩⟩⟩⟩⟩,trivial⟩,⟨.refl _,trivial⟩⟩,?m4⟩⟩⟩⟩,fun z1=>fun hq4=>⟨?x2,⟨?s0,⟨?s1,⟨trivial,fun z3=>fun hq5=>fun _=>Qaa.2 ⟨fun hb6=>⟨?s2,⟨?s3,⟨?s4,⟨?x3,⟨⟨⟨⟨.refl _,⟨.refl _,⟨.refl _,⟨.refl _,⟨.refl _,trivial⟩⟩⟩⟩⟩,trivial⟩,⟨.refl _,⟨?m5,⟨.refl _,⟨.refl _,⟨?m6,trivial⟩⟩⟩⟩⟩⟩,⟨?s5,⟨trivial,?m7⟩⟩⟩⟩⟩⟩⟩,fun hb6=>⟨rfl,?m8⟩⟩⟩⟩⟩⟩⟩
      all_goals try simp only [etaT] at *
      case x0=>exact ()
      case x1=>exact ()
      case x2=>exact 0
      case x3=>exact z3+1
      all_goals try simp only [Tw.eta,Int.toNat_natCast,bne_iff_ne,bne_eq_false_iff_eq,beq_iff_eq,beq_eq_false_iff_ne,ne_eq,decide_eq_true_eq,decide_eq_false_iff_not,Int.ofNat_lt] at *
      case m0 =>
       rw [QhJ,if_pos ⟨hb0,by omega⟩]
       exact nil_dt.sub
      case m1 =>
       rw [QhJ,if_neg (fun h=>hb1 (by omega)),if_neg hb2]
       exact .refl _
      case m2=>exact hb2
      case m3 =>
       rw [QhJ,if_neg (fun h=>hb0 h.1),if_neg hb3]
       exact .refl _
      case m4=>exact hb3
      case s0=>repeat' first | exact SubB.refl _ | exact trivial | exact rfl | refine And.intro ?_ ?_
      case s1=>exact Nat.zero_le _
      case m8 =>
       rw [QhJ,if_neg (fun h=>by rw [hq4] at h; cases h.1),if_pos hq4,List.take_of_length_le (by omega)]
       exact .refl _
      all_goals have hz2:=t.size_eq
      all_goals have hin:=QkT (gotD Sh.tm.nil hb6)
      case s2=>exact ⟨by omega,hb6⟩
      case s3=>exact ⟨by omega,QaR _ f2.2.2.2 hb6,by omega⟩
      case s4 =>
       have h1:=QfX (t.kids.take z3)
       have h2:=Qe6 (t.kids.getD z3 Sh.tm.nil)
       have h3:=QeQ t.kids z3
       omega
      case m5=>rw [QmY hb6]; exact .refl _
      case m6=>exact Qad (by rw [wJ _ (by omega) (by omega)]; rfl)
      case s5=>exact hb6
      case m7=>exact (by omega:t.kids.length - (z3+1)<t.kids.length - z3)
    · cases hs
  · cases hs
end Go.Proofs.YtijfaigpilfpaaaGreatDoor
