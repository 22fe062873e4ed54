/- The layer cong: paths. -/
import Derived.Test.YtemhncjjiomppaaGreatDoorCa
import Derived.Test.YtemhncjjiomppaaGreatDoorKd
import Derived.Test.YtemhncjjiomppaaGreatDoorEz
namespace Go.Proofs.YtemhncjjiomppaaGreatDoor
open Go.RowKit
set_option linter.unusedVariables false
set_option maxRecDepth 100000
def Qld:Spec
 | [x]=>match tmOf x with
  | some t=>some (some t.fitT,.one (tmP t))
  | none=>none
 | _=>none
theorem QvH {E:Env} (hU:Up E):Contract Tryz.prog E 103 Qld:=by
 intro xs p r hs hp
 unfold Qld at hs
 split at hs
 · rename_i x
   split at hs
   · rename_i t ht
     cases hs
     exact Qrb hU (t.size+1) [x] _ _ (by simp only [QfM,ht]; rfl) (fun q hq=>by cases hq; exact ⟨Nat.lt_succ_self _,hp _ rfl⟩)
   · cases hs
 · cases hs
def sOfC:Spec
 | [.f (.v (.int .u8 k)),.f x]=>match dtOf .tm x with
  | some l=>some (some (l.length≤100000000∧Qcg l),.one (tmP (conT k l)))
  | none=>none
 | _=>none
theorem cOfC {E:Env} (hU:Up E):Contract Tryz.prog E 58 sOfC:=by
 refine Qad [(103,Qld)] [] Tryz.ntmps58 Tryz.func58 (by kernel_rfl) (by kernel_rfl) hU ⟨QvH hU,trivial⟩ trivial ?_
 intro xs p r hs hp
 unfold sOfC at hs
 split at hs
 · rename_i k x
   split at hs
   · rename_i l h1
     cases hs
     obtain ⟨hl,hf⟩:=hp _ rfl
     refine ⟨[.f (.v (.int .u8 k)),.f (.dt .tm l)],[(3,.s ⟨Nat,fun i=>⟨[(4,.bp 0 0),(5,.bp 1 0),(10,.f (.dt .tm l)),(11,iV l.length),(12,iV i)],[.cells [.f (.v (.int .u8 0)),.f (.v (.string ⟨#[]⟩)),.f (.v (.bool false)),.f (.v (.slice none 0 0)),.f (.v (.slice none 0 0))],.cells [.f (.v (.int .u8 k)),.f (.v (.string ⟨#[]⟩)),.f (.v (.bool false)),.f (.v (.slice none 0 0)),.tl 2 (.dt .tm (l.take i))],.tail 28 5]⟩,fun i=>i≤l.length,fun i=>l.length - i⟩)],.cons (.refl _) (.cons (Qby h1).sub .nil),rfl,fun _ hsh=>?_⟩
     refine Qab (p:=∃ (x1:Nat),(((rfB (uV 0)∧rfB (sV (ByteArray.mk #[]))∧rfB (bV false)∧rfB (nlP)∧rfB (nlP)∧True)∧(rfB (uV k)∧rfB (sV (ByteArray.mk #[]))∧rfB (bV false)∧rfB (nlP)∧QcK (PV.tl 2 (Lf.dt Sh.tm (List.take x1 l)))∧True)∧True)∧rfB (PV.bp 0 0)∧rfB (PV.bp 1 0)∧rfB (dP Sh.tm l)∧rfB (iV (↑l.length:Int))∧SubB (iV 0) (iV (↑x1:Int))∧True)∧x1≤l.length∧True∧∀ (z2:Nat),z2≤l.length→True→ifB (decide ((↑z2:Int)<(↑l.length:Int))) (((0:Int)≤(↑z2:Int)∧(↑z2:Int)<(↑l.length:Int))∧(etaT (l.getD (↑z2:Int).toNat Sh.tm.nil)).fitT∧((List.take z2 l).length+1≤9223372036854775807∧((List.take z2 l).length+1) * 80≤140737488355328)∧∃ (x3:Nat),(((rfB (uV 0)∧rfB (sV (ByteArray.mk #[]))∧rfB (bV false)∧rfB (nlP)∧rfB (nlP)∧True)∧(rfB (uV k)∧rfB (sV (ByteArray.mk #[]))∧rfB (bV false)∧rfB (nlP)∧SubB (PV.tl 2 (Lf.dt Sh.tm (List.take z2 l++[etaT (etaT (l.getD (↑z2:Int).toNat Sh.tm.nil))]))) (PV.tl 2 (Lf.dt Sh.tm (List.take x3 l)))∧True)∧True)∧rfB (PV.bp 0 0)∧rfB (PV.bp 1 0)∧rfB (dP Sh.tm l)∧rfB (iV (↑l.length:Int))∧SubB (iV (IntKind.i64.wrap ((↑z2:Int)+(1:Int)))) (iV (↑x3:Int))∧True)∧x3≤l.length∧True∧(l.length - x3).succ.le (l.length - z2)) (true=true∧Sub (PV.agg [uV k,sV (ByteArray.mk #[]),bV false,nlP,dP Sh.tm (List.take z2 l)]) (PV.agg [uV ((conT k l).kind),sV ((conT k l).name),bV ((conT k l).neg),PV.f (Lf.lr (conT k l).digits 0),dP Sh.tm (conT k l).kids]))) ?kr ?_
     case kr=>kernel_rfl
     refine ⟨?x0,⟨?s0,⟨?s1,⟨trivial,fun z2=>fun hq0=>fun _=>Qaa.2 ⟨fun hb1=>⟨?s2,⟨?s3,⟨?s4,⟨?x1,⟨⟨⟨⟨.refl _,⟨.refl _,⟨.refl _,⟨.refl _,⟨.refl _,trivial⟩⟩⟩⟩⟩,⟨⟨.refl _,⟨.refl _,⟨.refl _,⟨.refl _,⟨?m0,trivial⟩⟩⟩⟩⟩,trivial⟩⟩,⟨.refl _,⟨.refl _,⟨.refl _,⟨.refl _,⟨?m1,trivial⟩⟩⟩⟩⟩⟩,⟨?s5,⟨trivial,?m2⟩⟩⟩⟩⟩⟩⟩,fun hb1=>⟨rfl,?m3⟩⟩⟩⟩⟩⟩
     all_goals try simp only [etaT] at *
     case x0=>exact 0
     case x1=>exact z2+1
     all_goals try simp only [Int.toNat_natCast,decide_eq_true_eq,decide_eq_false_iff_not,Int.ofNat_lt,Tw.eta] at *
     case s0=>repeat' first | exact SubB.refl _ | exact trivial | exact rfl | refine And.intro ?_ ?_
     case s1=>exact Nat.zero_le _
     case m3=>rw [List.take_of_length_le (by omega)]; exact (QaS (t:=conT k l) rfl).sub
     all_goals have hz:z2<l.length:=by omega
     case s2=>omega
     case s3=>exact QbK _ hf hz
     case s4=>rw [List.length_take]; exact ⟨by omega,by omega⟩
     case m0=>rw [List.take_add_one,List.getElem?_eq_getElem hz,List.getD_eq_getElem?_getD,List.getElem?_eq_getElem hz]; exact .refl _
     case m1=>exact Qai (by rw [wJ _ (by omega) (by omega)]; rfl)
     case s5=>omega
     case m2=>exact (by omega:l.length - (z2+1)<l.length - z2)
   · cases hs
 · cases hs
def QaH (t:Tw):Prop:=QaZ t∧t.fitT∧(keyB t).length≤140737488355328
theorem QjU:∀ {l:List Tw} {a:Tw},a∈l→(keyB a).length≤(Qcf l).length
 | t::l,a,h=>by
  simp only [Qcf,List.length_append]
  rcases List.mem_cons.1 h with rfl | h
  · omega
  · have:=QjU h; omega
theorem Qgi {l:List Tw} {a:Tw} (h:Qcg l) (ha:a∈l):a.fitT:=by
 obtain ⟨i,hi,rfl⟩:=List.getElem_of_mem ha
 have:=QbK (default:Tw) h hi
 rwa [List.getD_eq_getElem?_getD,List.getElem?_eq_getElem hi] at this
theorem QjT {t a:Tw} (h:QaH t) (ha:a∈t.kids):QaH a:=by
 obtain ⟨h1,h2,h3⟩:=h
 refine ⟨Qbs ((Qiy t).1 h1).2 ha,Qgi ((Tw.fitT_eq t).1 h2).2.2.2 ha,?_⟩
 have h4:=QjU ha
 have h5:=congrArg List.length (Qqs t)
 simp only [List.length_append,List.length_cons] at h5
 omega
theorem Qlx {l:List Tw} {i:Nat} (h:i<l.length):l.getD i Sh.tm.nil∈l:=by
 rw [List.getD_eq_getElem?_getD,List.getElem?_eq_getElem h]; exact List.getElem_mem h
def QaI (L:List Tw) (n:Int):Except Int (Tw × Tw):=match Qgs L n with
 | some p=>.ok p
 | none=>.error 31
def Qe9 (p:Tw × Tw):PV:=.tup [tmP p.1,tmP p.2]
theorem QqO {L:List Tw} {n:Int} (h0:0≤n) (h1:n<L.length) (h2:(L.getD n.toNat Sh.tm.nil).kind=8) (h3:((L.getD n.toNat Sh.tm.nil).kids.length:Int)=2):QaI L n=.ok ((L.getD n.toNat Sh.tm.nil).kids.getD 0 Sh.tm.nil,(L.getD n.toNat Sh.tm.nil).kids.getD 1 Sh.tm.nil):=by
 unfold QaI Qgs
 rw [if_pos ⟨h0,h1⟩,if_pos ⟨h2,by omega⟩]
theorem Qdd {L:List Tw} {n:Int} (h:0≤n→n<L.length→(L.getD n.toNat Sh.tm.nil).kind=8→¬ ((L.getD n.toNat Sh.tm.nil).kids.length:Int)=2):QaI L n=.error 31:=by
 unfold QaI Qgs
 split
 · rename_i h0
   split at h0
   · rename_i h1
     split at h0
     · rename_i h2
       exact absurd (by omega) (h h1.1 h1.2 h2.1)
     · cases h0
   · cases h0
 · rfl
theorem QiK {L:List Tw} {n:Int} {a b:Tw} (h:QaI L n=.ok (a,b)):Qgs L n=some (a,b)∧∃ t∈L,a∈t.kids∧b∈t.kids:=by
 unfold QaI at h
 split at h
 · rename_i p hp
   cases h
   refine ⟨hp,?_⟩
   unfold Qgs at hp
   split at hp
   · rename_i h1
     split at hp
     · rename_i h2
       cases hp
       exact ⟨_,Qlx (by omega),Qlx (by omega),Qlx (by omega)⟩
     · cases hp
   · cases hp
 · cases h
def QrP:Spec2
 | [.bp 0 0,.f (.v (.int .i64 n))],[.cells [.f (.dt .tm L)]]=>some (outE (Sh.tm.nil,Sh.tm.nil) Qe9 (QaI L n) [.cells [.f (.dt .tm L)]])
 | [.bp 0 0,.f (.v (.int .i64 n))],[.cells [.f (.dt .tm L),.f (.v (.string s))]]=>some (outE (Sh.tm.nil,Sh.tm.nil) Qe9 (QaI L n) [.cells [.f (.dt .tm L),.f (.v (.string s))]])
 | _,_=>none
theorem cEdge {E:Env} (hU:Up E):Contract2 Tryz.prog E 60 QrP:=by
 refine contract2 [] [(57,QfL)] Tryz.ntmps60 Tryz.func60 (by kernel_rfl) (by kernel_rfl) hU trivial ⟨Qq9 hU,trivial⟩ ?_
 intro xs ob o hs hok
 unfold QrP at hs
 split at hs
 · rename_i n L
   cases hs
   refine ⟨[.bp 0 0,.f (.v (.int .i64 n))],[],.cons (.refl _) (.cons (.refl _) .nil),rfl,fun _ hsh=>?_⟩
   refine Qab (p:=ifB (decide (n ≥ (0:Int))) (ifB (decide (n<(↑L.length:Int))) (((0:Int)≤n∧n<(↑L.length:Int))∧ifB (Tw.kind (L.getD n.toNat Sh.tm.nil)==(8:Int)) (ifB ((↑(Tw.kids (L.getD n.toNat Sh.tm.nil)).length:Int)==(2:Int)) ((((0:Int)≤(0:Int)∧(0:Int)<(↑(Tw.kids (L.getD n.toNat Sh.tm.nil)).length:Int))∧((0:Int)≤(1:Int)∧(1:Int)<(↑(Tw.kids (L.getD n.toNat Sh.tm.nil)).length:Int))∧SameL [PV.bp 3 4,dP Sh.tm (Tw.kids (L.getD n.toNat Sh.tm.nil)),PV.ep [Lf.v (Value.int IntKind.u8 (Tw.kind ((Tw.kids (L.getD n.toNat Sh.tm.nil)).getD (Int.toNat (0:Int)) Sh.tm.nil))),Lf.v (Value.string (Tw.name ((Tw.kids (L.getD n.toNat Sh.tm.nil)).getD (Int.toNat (0:Int)) Sh.tm.nil))),Lf.v (Value.bool (Tw.neg ((Tw.kids (L.getD n.toNat Sh.tm.nil)).getD (Int.toNat (0:Int)) Sh.tm.nil))),Lf.lr (Tw.digits ((Tw.kids (L.getD n.toNat Sh.tm.nil)).getD (Int.toNat (0:Int)) Sh.tm.nil)) (Tw.digits ((Tw.kids (L.getD n.toNat Sh.tm.nil)).getD (Int.toNat (0:Int)) Sh.tm.nil)).length,Lf.dt Sh.tm (Tw.kids ((Tw.kids (L.getD n.toNat Sh.tm.nil)).getD (Int.toNat (0:Int)) Sh.tm.nil))],PV.agg (Qac (tmC ((Tw.kids (L.getD n.toNat Sh.tm.nil)).getD (Int.toNat (0:Int)) Sh.tm.nil))),PV.bp 3 4,dP Sh.tm (Tw.kids (L.getD n.toNat Sh.tm.nil)),PV.ep [Lf.v (Value.int IntKind.u8 (Tw.kind ((Tw.kids (L.getD n.toNat Sh.tm.nil)).getD (Int.toNat (1:Int)) Sh.tm.nil))),Lf.v (Value.string (Tw.name ((Tw.kids (L.getD n.toNat Sh.tm.nil)).getD (Int.toNat (1:Int)) Sh.tm.nil))),Lf.v (Value.bool (Tw.neg ((Tw.kids (L.getD n.toNat Sh.tm.nil)).getD (Int.toNat (1:Int)) Sh.tm.nil))),Lf.lr (Tw.digits ((Tw.kids (L.getD n.toNat Sh.tm.nil)).getD (Int.toNat (1:Int)) Sh.tm.nil)) (Tw.digits ((Tw.kids (L.getD n.toNat Sh.tm.nil)).getD (Int.toNat (1:Int)) Sh.tm.nil)).length,Lf.dt Sh.tm (Tw.kids ((Tw.kids (L.getD n.toNat Sh.tm.nil)).getD (Int.toNat (1:Int)) Sh.tm.nil))],PV.agg (Qac (tmC ((Tw.kids (L.getD n.toNat Sh.tm.nil)).getD (Int.toNat (1:Int)) Sh.tm.nil)))] [PV.bp 3 4,dP Sh.tm (Tw.kids (L.getD n.toNat Sh.tm.nil)),PV.ep [Lf.v (Value.int IntKind.u8 (Tw.kind ((Tw.kids (L.getD n.toNat Sh.tm.nil)).getD (Int.toNat (0:Int)) Sh.tm.nil))),Lf.v (Value.string (Tw.name ((Tw.kids (L.getD n.toNat Sh.tm.nil)).getD (Int.toNat (0:Int)) Sh.tm.nil))),Lf.v (Value.bool (Tw.neg ((Tw.kids (L.getD n.toNat Sh.tm.nil)).getD (Int.toNat (0:Int)) Sh.tm.nil))),Lf.lr (Tw.digits ((Tw.kids (L.getD n.toNat Sh.tm.nil)).getD (Int.toNat (0:Int)) Sh.tm.nil)) (Tw.digits ((Tw.kids (L.getD n.toNat Sh.tm.nil)).getD (Int.toNat (0:Int)) Sh.tm.nil)).length,Lf.dt Sh.tm (Tw.kids ((Tw.kids (L.getD n.toNat Sh.tm.nil)).getD (Int.toNat (0:Int)) Sh.tm.nil))],PV.agg (Qac (tmC ((Tw.kids (L.getD n.toNat Sh.tm.nil)).getD (Int.toNat (0:Int)) Sh.tm.nil))),PV.bp 3 4,dP Sh.tm (Tw.kids (L.getD n.toNat Sh.tm.nil)),PV.ep [Lf.v (Value.int IntKind.u8 (Tw.kind ((Tw.kids (L.getD n.toNat Sh.tm.nil)).getD (Int.toNat (1:Int)) Sh.tm.nil))),Lf.v (Value.string (Tw.name ((Tw.kids (L.getD n.toNat Sh.tm.nil)).getD (Int.toNat (1:Int)) Sh.tm.nil))),Lf.v (Value.bool (Tw.neg ((Tw.kids (L.getD n.toNat Sh.tm.nil)).getD (Int.toNat (1:Int)) Sh.tm.nil))),Lf.lr (Tw.digits ((Tw.kids (L.getD n.toNat Sh.tm.nil)).getD (Int.toNat (1:Int)) Sh.tm.nil)) (Tw.digits ((Tw.kids (L.getD n.toNat Sh.tm.nil)).getD (Int.toNat (1:Int)) Sh.tm.nil)).length,Lf.dt Sh.tm (Tw.kids ((Tw.kids (L.getD n.toNat Sh.tm.nil)).getD (Int.toNat (1:Int)) Sh.tm.nil))],PV.agg (Qac (tmC ((Tw.kids (L.getD n.toNat Sh.tm.nil)).getD (Int.toNat (1:Int)) Sh.tm.nil)))])∧(((0:Int)≤(1:Int)∧(1:Int)<(↑(Tw.kids (L.getD n.toNat Sh.tm.nil)).length:Int))∧SameL [PV.any,PV.any,PV.any,PV.any,PV.bp 3 4,dP Sh.tm (Tw.kids (L.getD n.toNat Sh.tm.nil)),PV.ep [Lf.v (Value.int IntKind.u8 (Tw.kind ((Tw.kids (L.getD n.toNat Sh.tm.nil)).getD (Int.toNat (1:Int)) Sh.tm.nil))),Lf.v (Value.string (Tw.name ((Tw.kids (L.getD n.toNat Sh.tm.nil)).getD (Int.toNat (1:Int)) Sh.tm.nil))),Lf.v (Value.bool (Tw.neg ((Tw.kids (L.getD n.toNat Sh.tm.nil)).getD (Int.toNat (1:Int)) Sh.tm.nil))),Lf.lr (Tw.digits ((Tw.kids (L.getD n.toNat Sh.tm.nil)).getD (Int.toNat (1:Int)) Sh.tm.nil)) (Tw.digits ((Tw.kids (L.getD n.toNat Sh.tm.nil)).getD (Int.toNat (1:Int)) Sh.tm.nil)).length,Lf.dt Sh.tm (Tw.kids ((Tw.kids (L.getD n.toNat Sh.tm.nil)).getD (Int.toNat (1:Int)) Sh.tm.nil))],PV.agg (Qac (tmC ((Tw.kids (L.getD n.toNat Sh.tm.nil)).getD (Int.toNat (1:Int)) Sh.tm.nil)))] [PV.any,PV.any,PV.any,PV.any,PV.bp 3 4,dP Sh.tm (Tw.kids (L.getD n.toNat Sh.tm.nil)),PV.ep [Lf.v (Value.int IntKind.u8 (Tw.kind ((Tw.kids (L.getD n.toNat Sh.tm.nil)).getD (Int.toNat (1:Int)) Sh.tm.nil))),Lf.v (Value.string (Tw.name ((Tw.kids (L.getD n.toNat Sh.tm.nil)).getD (Int.toNat (1:Int)) Sh.tm.nil))),Lf.v (Value.bool (Tw.neg ((Tw.kids (L.getD n.toNat Sh.tm.nil)).getD (Int.toNat (1:Int)) Sh.tm.nil))),Lf.lr (Tw.digits ((Tw.kids (L.getD n.toNat Sh.tm.nil)).getD (Int.toNat (1:Int)) Sh.tm.nil)) (Tw.digits ((Tw.kids (L.getD n.toNat Sh.tm.nil)).getD (Int.toNat (1:Int)) Sh.tm.nil)).length,Lf.dt Sh.tm (Tw.kids ((Tw.kids (L.getD n.toNat Sh.tm.nil)).getD (Int.toNat (1:Int)) Sh.tm.nil))],PV.agg (Qac (tmC ((Tw.kids (L.getD n.toNat Sh.tm.nil)).getD (Int.toNat (1:Int)) Sh.tm.nil)))])∧SameL [PV.any,PV.any,PV.any,PV.any,PV.any,PV.any,PV.any,PV.any] [PV.any,PV.any,PV.any,PV.any,PV.any,PV.any,PV.any,PV.any]∧EndU 1 (outE (Sh.tm.nil,Sh.tm.nil) Qe9 (QaI L n) [PO.cells [dP Sh.tm L]]).fin true (PV.tup [PV.agg (Qac (tmC ((Tw.kids (L.getD n.toNat Sh.tm.nil)).getD (Int.toNat (0:Int)) Sh.tm.nil))),PV.agg (Qac (tmC ((Tw.kids (L.getD n.toNat Sh.tm.nil)).getD (Int.toNat (1:Int)) Sh.tm.nil)))]) [PO.cells [dP Sh.tm L],PO.cells (Qac (tmC ((Tw.kids (L.getD n.toNat Sh.tm.nil)).getD (Int.toNat (0:Int)) Sh.tm.nil))),PO.cells (Qac (tmC ((Tw.kids (L.getD n.toNat Sh.tm.nil)).getD (Int.toNat (1:Int)) Sh.tm.nil))),PO.cells (Qac (tmC (L.getD n.toNat Sh.tm.nil)))]) (EndU 1 (outE (Sh.tm.nil,Sh.tm.nil) Qe9 (QaI L n) [PO.cells [dP Sh.tm L]]).fin false (PV.ifc 49 (iV 31)) [PO.cells [dP Sh.tm L],PO.cells zTP,PO.cells zTP,PO.cells (Qac (tmC (L.getD n.toNat Sh.tm.nil)))])) (EndU 1 (outE (Sh.tm.nil,Sh.tm.nil) Qe9 (QaI L n) [PO.cells [dP Sh.tm L]]).fin false (PV.ifc 49 (iV 31)) [PO.cells [dP Sh.tm L],PO.cells zTP,PO.cells zTP,PO.cells (Qac (tmC (L.getD n.toNat Sh.tm.nil)))])) (EndU 1 (outE (Sh.tm.nil,Sh.tm.nil) Qe9 (QaI L n) [PO.cells [dP Sh.tm L]]).fin false (PV.ifc 49 (iV 31)) [PO.cells [dP Sh.tm L],PO.cells zTP,PO.cells zTP])) (EndU 1 (outE (Sh.tm.nil,Sh.tm.nil) Qe9 (QaI L n) [PO.cells [dP Sh.tm L]]).fin false (PV.ifc 49 (iV 31)) [PO.cells [dP Sh.tm L],PO.cells zTP,PO.cells zTP])) ?kr ?_
   case kr=>kernel_rfl
   refine Qaa.2 ⟨fun hb0=>Qaa.2 ⟨fun hb1=>⟨?s0,Qaa.2 ⟨fun hb2=>Qaa.2 ⟨fun hb3=>⟨⟨?s1,⟨?s2,⟨rfl⟩⟩⟩,⟨⟨?s3,⟨rfl⟩⟩,⟨⟨rfl⟩,?m0⟩⟩⟩,fun hb3=>?m1⟩,fun hb2=>?m2⟩⟩,fun hb1=>?m3⟩,fun hb0=>?m4⟩
   all_goals try simp only [beq_iff_eq,beq_eq_false_iff_ne,ne_eq,decide_eq_true_eq,decide_eq_false_iff_not,ge_iff_le,Int.toNat_zero,Int.toNat_one] at *
   case s0=>exact ⟨hb0,hb1⟩
   case s1=>omega
   case s2=>omega
   case s3=>omega
   case m0=>exact endU (Qce (QqO hb0 hb1 hb2 hb3)) (.refl _) rfl rfl rfl
   case m1=>exact endU (Qav (Qdd fun _ _ _=>hb3)) (.refl _) rfl rfl rfl
   case m2=>exact endU (Qav (Qdd fun _ _ h=>absurd h hb2)) (.refl _) rfl rfl rfl
   case m3=>exact endU (Qav (Qdd fun _ h=>absurd h hb1)) (.refl _) rfl rfl rfl
   case m4=>exact endU (Qav (Qdd fun h=>absurd h hb0)) (.refl _) rfl rfl rfl
 · rename_i n L s
   cases hs
   refine ⟨[.bp 0 0,.f (.v (.int .i64 n))],[],.cons (.refl _) (.cons (.refl _) .nil),rfl,fun _ hsh=>?_⟩
   refine Qab (p:=ifB (decide (n ≥ (0:Int))) (ifB (decide (n<(↑L.length:Int))) (((0:Int)≤n∧n<(↑L.length:Int))∧ifB (Tw.kind (L.getD n.toNat Sh.tm.nil)==(8:Int)) (ifB ((↑(Tw.kids (L.getD n.toNat Sh.tm.nil)).length:Int)==(2:Int)) ((((0:Int)≤(0:Int)∧(0:Int)<(↑(Tw.kids (L.getD n.toNat Sh.tm.nil)).length:Int))∧((0:Int)≤(1:Int)∧(1:Int)<(↑(Tw.kids (L.getD n.toNat Sh.tm.nil)).length:Int))∧SameL [PV.bp 3 4,dP Sh.tm (Tw.kids (L.getD n.toNat Sh.tm.nil)),PV.ep [Lf.v (Value.int IntKind.u8 (Tw.kind ((Tw.kids (L.getD n.toNat Sh.tm.nil)).getD (Int.toNat (0:Int)) Sh.tm.nil))),Lf.v (Value.string (Tw.name ((Tw.kids (L.getD n.toNat Sh.tm.nil)).getD (Int.toNat (0:Int)) Sh.tm.nil))),Lf.v (Value.bool (Tw.neg ((Tw.kids (L.getD n.toNat Sh.tm.nil)).getD (Int.toNat (0:Int)) Sh.tm.nil))),Lf.lr (Tw.digits ((Tw.kids (L.getD n.toNat Sh.tm.nil)).getD (Int.toNat (0:Int)) Sh.tm.nil)) (Tw.digits ((Tw.kids (L.getD n.toNat Sh.tm.nil)).getD (Int.toNat (0:Int)) Sh.tm.nil)).length,Lf.dt Sh.tm (Tw.kids ((Tw.kids (L.getD n.toNat Sh.tm.nil)).getD (Int.toNat (0:Int)) Sh.tm.nil))],PV.agg (Qac (tmC ((Tw.kids (L.getD n.toNat Sh.tm.nil)).getD (Int.toNat (0:Int)) Sh.tm.nil))),PV.bp 3 4,dP Sh.tm (Tw.kids (L.getD n.toNat Sh.tm.nil)),PV.ep [Lf.v (Value.int IntKind.u8 (Tw.kind ((Tw.kids (L.getD n.toNat Sh.tm.nil)).getD (Int.toNat (1:Int)) Sh.tm.nil))),Lf.v (Value.string (Tw.name ((Tw.kids (L.getD n.toNat Sh.tm.nil)).getD (Int.toNat (1:Int)) Sh.tm.nil))),Lf.v (Value.bool (Tw.neg ((Tw.kids (L.getD n.toNat Sh.tm.nil)).getD (Int.toNat (1:Int)) Sh.tm.nil))),Lf.lr (Tw.digits ((Tw.kids (L.getD n.toNat Sh.tm.nil)).getD (Int.toNat (1:Int)) Sh.tm.nil)) (Tw.digits ((Tw.kids (L.getD n.toNat Sh.tm.nil)).getD (Int.toNat (1:Int)) Sh.tm.nil)).length,Lf.dt Sh.tm (Tw.kids ((Tw.kids (L.getD n.toNat Sh.tm.nil)).getD (Int.toNat (1:Int)) Sh.tm.nil))],PV.agg (Qac (tmC ((Tw.kids (L.getD n.toNat Sh.tm.nil)).getD (Int.toNat (1:Int)) Sh.tm.nil)))] [PV.bp 3 4,dP Sh.tm (Tw.kids (L.getD n.toNat Sh.tm.nil)),PV.ep [Lf.v (Value.int IntKind.u8 (Tw.kind ((Tw.kids (L.getD n.toNat Sh.tm.nil)).getD (Int.toNat (0:Int)) Sh.tm.nil))),Lf.v (Value.string (Tw.name ((Tw.kids (L.getD n.toNat Sh.tm.nil)).getD (Int.toNat (0:Int)) Sh.tm.nil))),Lf.v (Value.bool (Tw.neg ((Tw.kids (L.getD n.toNat Sh.tm.nil)).getD (Int.toNat (0:Int)) Sh.tm.nil))),Lf.lr (Tw.digits ((Tw.kids (L.getD n.toNat Sh.tm.nil)).getD (Int.toNat (0:Int)) Sh.tm.nil)) (Tw.digits ((Tw.kids (L.getD n.toNat Sh.tm.nil)).getD (Int.toNat (0:Int)) Sh.tm.nil)).length,Lf.dt Sh.tm (Tw.kids ((Tw.kids (L.getD n.toNat Sh.tm.nil)).getD (Int.toNat (0:Int)) Sh.tm.nil))],PV.agg (Qac (tmC ((Tw.kids (L.getD n.toNat Sh.tm.nil)).getD (Int.toNat (0:Int)) Sh.tm.nil))),PV.bp 3 4,dP Sh.tm (Tw.kids (L.getD n.toNat Sh.tm.nil)),PV.ep [Lf.v (Value.int IntKind.u8 (Tw.kind ((Tw.kids (L.getD n.toNat Sh.tm.nil)).getD (Int.toNat (1:Int)) Sh.tm.nil))),Lf.v (Value.string (Tw.name ((Tw.kids (L.getD n.toNat Sh.tm.nil)).getD (Int.toNat (1:Int)) Sh.tm.nil))),Lf.v (Value.bool (Tw.neg ((Tw.kids (L.getD n.toNat Sh.tm.nil)).getD (Int.toNat (1:Int)) Sh.tm.nil))),Lf.lr (Tw.digits ((Tw.kids (L.getD n.toNat Sh.tm.nil)).getD (Int.toNat (1:Int)) Sh.tm.nil)) (Tw.digits ((Tw.kids (L.getD n.toNat Sh.tm.nil)).getD (Int.toNat (1:Int)) Sh.tm.nil)).length,Lf.dt Sh.tm (Tw.kids ((Tw.kids (L.getD n.toNat Sh.tm.nil)).getD (Int.toNat (1:Int)) Sh.tm.nil))],PV.agg (Qac (tmC ((Tw.kids (L.getD n.toNat Sh.tm.nil)).getD (Int.toNat (1:Int)) Sh.tm.nil)))])∧(((0:Int)≤(1:Int)∧(1:Int)<(↑(Tw.kids (L.getD n.toNat Sh.tm.nil)).length:Int))∧SameL [PV.any,PV.any,PV.any,PV.any,PV.bp 3 4,dP Sh.tm (Tw.kids (L.getD n.toNat Sh.tm.nil)),PV.ep [Lf.v (Value.int IntKind.u8 (Tw.kind ((Tw.kids (L.getD n.toNat Sh.tm.nil)).getD (Int.toNat (1:Int)) Sh.tm.nil))),Lf.v (Value.string (Tw.name ((Tw.kids (L.getD n.toNat Sh.tm.nil)).getD (Int.toNat (1:Int)) Sh.tm.nil))),Lf.v (Value.bool (Tw.neg ((Tw.kids (L.getD n.toNat Sh.tm.nil)).getD (Int.toNat (1:Int)) Sh.tm.nil))),Lf.lr (Tw.digits ((Tw.kids (L.getD n.toNat Sh.tm.nil)).getD (Int.toNat (1:Int)) Sh.tm.nil)) (Tw.digits ((Tw.kids (L.getD n.toNat Sh.tm.nil)).getD (Int.toNat (1:Int)) Sh.tm.nil)).length,Lf.dt Sh.tm (Tw.kids ((Tw.kids (L.getD n.toNat Sh.tm.nil)).getD (Int.toNat (1:Int)) Sh.tm.nil))],PV.agg (Qac (tmC ((Tw.kids (L.getD n.toNat Sh.tm.nil)).getD (Int.toNat (1:Int)) Sh.tm.nil)))] [PV.any,PV.any,PV.any,PV.any,PV.bp 3 4,dP Sh.tm (Tw.kids (L.getD n.toNat Sh.tm.nil)),PV.ep [Lf.v (Value.int IntKind.u8 (Tw.kind ((Tw.kids (L.getD n.toNat Sh.tm.nil)).getD (Int.toNat (1:Int)) Sh.tm.nil))),Lf.v (Value.string (Tw.name ((Tw.kids (L.getD n.toNat Sh.tm.nil)).getD (Int.toNat (1:Int)) Sh.tm.nil))),Lf.v (Value.bool (Tw.neg ((Tw.kids (L.getD n.toNat Sh.tm.nil)).getD (Int.toNat (1:Int)) Sh.tm.nil))),Lf.lr (Tw.digits ((Tw.kids (L.getD n.toNat Sh.tm.nil)).getD (Int.toNat (1:Int)) Sh.tm.nil)) (Tw.digits ((Tw.kids (L.getD n.toNat Sh.tm.nil)).getD (Int.toNat (1:Int)) Sh.tm.nil)).length,Lf.dt Sh.tm (Tw.kids ((Tw.kids (L.getD n.toNat Sh.tm.nil)).getD (Int.toNat (1:Int)) Sh.tm.nil))],PV.agg (Qac (tmC ((Tw.kids (L.getD n.toNat Sh.tm.nil)).getD (Int.toNat (1:Int)) Sh.tm.nil)))])∧SameL [PV.any,PV.any,PV.any,PV.any,PV.any,PV.any,PV.any,PV.any] [PV.any,PV.any,PV.any,PV.any,PV.any,PV.any,PV.any,PV.any]∧EndU 1 (outE (Sh.tm.nil,Sh.tm.nil) Qe9 (QaI L n) [PO.cells [dP Sh.tm L,sV s]]).fin true (PV.tup [PV.agg (Qac (tmC ((Tw.kids (L.getD n.toNat Sh.tm.nil)).getD (Int.toNat (0:Int)) Sh.tm.nil))),PV.agg (Qac (tmC ((Tw.kids (L.getD n.toNat Sh.tm.nil)).getD (Int.toNat (1:Int)) Sh.tm.nil)))]) [PO.cells [dP Sh.tm L,sV s],PO.cells (Qac (tmC ((Tw.kids (L.getD n.toNat Sh.tm.nil)).getD (Int.toNat (0:Int)) Sh.tm.nil))),PO.cells (Qac (tmC ((Tw.kids (L.getD n.toNat Sh.tm.nil)).getD (Int.toNat (1:Int)) Sh.tm.nil))),PO.cells (Qac (tmC (L.getD n.toNat Sh.tm.nil)))]) (EndU 1 (outE (Sh.tm.nil,Sh.tm.nil) Qe9 (QaI L n) [PO.cells [dP Sh.tm L,sV s]]).fin false (PV.ifc 49 (iV 31)) [PO.cells [dP Sh.tm L,sV s],PO.cells zTP,PO.cells zTP,PO.cells (Qac (tmC (L.getD n.toNat Sh.tm.nil)))])) (EndU 1 (outE (Sh.tm.nil,Sh.tm.nil) Qe9 (QaI L n) [PO.cells [dP Sh.tm L,sV s]]).fin false (PV.ifc 49 (iV 31)) [PO.cells [dP Sh.tm L,sV s],PO.cells zTP,PO.cells zTP,PO.cells (Qac (tmC (L.getD n.toNat Sh.tm.nil)))])) (EndU 1 (outE (Sh.tm.nil,Sh.tm.nil) Qe9 (QaI L n) [PO.cells [dP Sh.tm L,sV s]]).fin false (PV.ifc 49 (iV 31)) [PO.cells [dP Sh.tm L,sV s],PO.cells zTP,PO.cells zTP])) (EndU 1 (outE (Sh.tm.nil,Sh.tm.nil) Qe9 (QaI L n) [PO.cells [dP Sh.tm L,sV s]]).fin false (PV.ifc 49 (iV 31)) [PO.cells [dP Sh.tm L,sV s],PO.cells zTP,PO.cells zTP])) ?kr ?_
   case kr=>kernel_rfl
   refine Qaa.2 ⟨fun hb0=>Qaa.2 ⟨fun hb1=>⟨?s0,Qaa.2 ⟨fun hb2=>Qaa.2 ⟨fun hb3=>⟨⟨?s1,⟨?s2,⟨rfl⟩⟩⟩,⟨⟨?s3,⟨rfl⟩⟩,⟨⟨rfl⟩,?m0⟩⟩⟩,fun hb3=>?m1⟩,fun hb2=>?m2⟩⟩,fun hb1=>?m3⟩,fun hb0=>?m4⟩
   all_goals try simp only [beq_iff_eq,beq_eq_false_iff_ne,ne_eq,decide_eq_true_eq,decide_eq_false_iff_not,ge_iff_le,Int.toNat_zero,Int.toNat_one] at *
   case s0=>exact ⟨hb0,hb1⟩
   case s1=>omega
   case s2=>omega
   case s3=>omega
   case m0=>exact endU (Qce (QqO hb0 hb1 hb2 hb3)) (.refl _) rfl rfl rfl
   case m1=>exact endU (Qav (Qdd fun _ _ _=>hb3)) (.refl _) rfl rfl rfl
   case m2=>exact endU (Qav (Qdd fun _ _ h=>absurd h hb2)) (.refl _) rfl rfl rfl
   case m3=>exact endU (Qav (Qdd fun _ h=>absurd h hb1)) (.refl _) rfl rfl rfl
   case m4=>exact endU (Qav (Qdd fun h=>absurd h hb0)) (.refl _) rfl rfl rfl
 · cases hs
def Qca (L:List Tw) (s:ByteArray) (n:Int):Except Int ByteArray:=match Qbp L s n with
 | some s=>.ok s
 | none=>.error 31
def QpO:Spec2
 | [.bp 0 0,.f (.v (.int .i64 n))],[.cells [.f (.dt .tm L),.f (.v (.string s))]]=>some (.need (∀ t∈L,QaH t) (.nm (Except Int ByteArray) (Qca L s n) fun z=>.br (okE z) (.ret (.tup []) [.cells [.f (.dt .tm L),sV (valE ⟨#[]⟩ z)]]) (.pan (eP (errE z)) [.cells [.f (.dt .tm L),.f (.v (.string s))]])))
 | _,_=>none
theorem QjK {α:Type} {z:Except Int α} (h:okE z=true):∃ p,z=.ok p:=by
 cases z with
 | ok p=>exact ⟨p,rfl⟩
 | error e=>cases h
theorem QnG {L:List Tw} {s x:ByteArray} {n:Int} (h:Qbp L s n=some x):Qca L s n=.ok x:=by unfold Qca; rw [h]
theorem QnH {L:List Tw} {s:ByteArray} {n:Int} (h:Qbp L s n=none):Qca L s n=.error 31:=by unfold Qca; rw [h]
theorem Qv0 {L:List Tw} {s:ByteArray} {n:Int} {a b:Tw} (h:Qgs L n=some (a,b)) (h1:s=keyS a):Qbp L s n=some (keyS b):=by unfold Qbp; rw [h]; exact if_pos h1
theorem QvZ {L:List Tw} {s:ByteArray} {n:Int} {a b:Tw} (h:Qgs L n=some (a,b)) (h1:¬ s=keyS a) (h2:s=keyS b):Qbp L s n=some (keyS a):=by
 unfold Qbp; rw [h]; dsimp only; rw [if_neg h1,if_pos h2]
theorem QvY {L:List Tw} {s:ByteArray} {n:Int} {a b:Tw} (h:Qgs L n=some (a,b)) (h1:¬ s=keyS a) (h2:¬ s=keyS b):Qbp L s n=none:=by
 unfold Qbp; rw [h]; dsimp only; rw [if_neg h1,if_neg h2]
theorem QvX {L:List Tw} {s:ByteArray} {n e:Int} (h:QaI L n=.error e):e=31∧Qbp L s n=none:=by
 unfold QaI at h
 split at h
 · cases h
 · rename_i h1
   cases h
   refine ⟨rfl,?_⟩
   unfold Qbp; rw [h1]
theorem Qnb {p:Prop} {L:List Tw} {s x:ByteArray} {e:Except Int ByteArray} {r:List PO} (h:e=.ok x):EndU 1 (Out.need p (.nm (Except Int ByteArray) e fun z=>.br (okE z) (.ret (.tup []) [.cells [.f (.dt .tm L),sV (valE ⟨#[]⟩ z)]]) (.pan (eP (errE z)) [.cells [.f (.dt .tm L),.f (.v (.string s))]]))).fin true (.tup []) (.cells [.f (.dt .tm L),sV x]::r):=by
 subst h
 exact Qaj (endU (ob:=[.cells [.f (.dt .tm L),sV x]]) rfl (.refl _) rfl rfl rfl)
theorem Qnc {p:Prop} {L:List Tw} {s:ByteArray} {x:Int} {e:Except Int ByteArray} {r:List PO} (h:e=.error x):EndU 1 (Out.need p (.nm (Except Int ByteArray) e fun z=>.br (okE z) (.ret (.tup []) [.cells [.f (.dt .tm L),sV (valE ⟨#[]⟩ z)]]) (.pan (eP (errE z)) [.cells [.f (.dt .tm L),.f (.v (.string s))]]))).fin false (eP x) (.cells [.f (.dt .tm L),.f (.v (.string s))]::r):=by
 subst h
 exact Qaj (endU (ob:=[.cells [.f (.dt .tm L),.f (.v (.string s))]]) rfl (.refl _) rfl rfl rfl)
theorem cAlong {E:Env} (hU:Up E) (hT:∀ K w H,E K w H→Tab w):Contract2 Tryz.prog E 56 QpO:=by
 refine contract2 [(8,sKey)] [(60,QrP)] Tryz.ntmps56 Tryz.func56 (by kernel_rfl) (by kernel_rfl) hU ⟨cKey hU hT,trivial⟩ ⟨cEdge hU,trivial⟩ ?_
 intro xs ob o hs hok
 unfold QpO at hs
 split at hs
 · rename_i n L s
   cases hs
   have hL:=hok.1
   refine ⟨[.bp 0 0,.f (.v (.int .i64 n))],[],.cons (.refl _) (.cons (.refl _) .nil),rfl,fun _ hsh=>?_⟩
   refine Qab (p:=∀ (z1:Except Int (Sh.tm.T × Sh.tm.T)),z1=QaI L n→ifB (okE z1) ((QaZ (etaT ((valE (Sh.tm.nil,Sh.tm.nil) z1).fst))∧(etaT ((valE (Sh.tm.nil,Sh.tm.nil) z1).fst)).fitT∧(keyB (etaT ((valE (Sh.tm.nil,Sh.tm.nil) z1).fst))).length≤140737488355328)∧(QaZ (etaT ((valE (Sh.tm.nil,Sh.tm.nil) z1).snd))∧(etaT ((valE (Sh.tm.nil,Sh.tm.nil) z1).snd)).fitT∧(keyB (etaT ((valE (Sh.tm.nil,Sh.tm.nil) z1).snd))).length≤140737488355328)∧ifB (s.toList==(keyS (etaT ((valE (Sh.tm.nil,Sh.tm.nil) z1).fst))).toList) (EndU 1 (Out.need (∀ (t:Sh.tm.T),t∈L→QaH t) (Out.nm (Except Int ByteArray) (Qca L s n) fun (z:Except Int ByteArray)=>Out.br (okE z) (Out.ret (PV.tup []) [PO.cells [dP Sh.tm L,sV (valE (ByteArray.mk #[]) z)]]) (Out.pan (eP (errE z)) [PO.cells [dP Sh.tm L,sV s]]))).fin true (PV.tup []) [PO.cells [dP Sh.tm L,sV (keyS (etaT ((valE (Sh.tm.nil,Sh.tm.nil) z1).snd)))],PO.cells (Qac (tmC ((valE (Sh.tm.nil,Sh.tm.nil) z1).fst))),PO.cells (Qac (tmC ((valE (Sh.tm.nil,Sh.tm.nil) z1).snd)))]) (ifB (s.toList==(keyS (etaT ((valE (Sh.tm.nil,Sh.tm.nil) z1).snd))).toList) (EndU 1 (Out.need (∀ (t:Sh.tm.T),t∈L→QaH t) (Out.nm (Except Int ByteArray) (Qca L s n) fun (z:Except Int ByteArray)=>Out.br (okE z) (Out.ret (PV.tup []) [PO.cells [dP Sh.tm L,sV (valE (ByteArray.mk #[]) z)]]) (Out.pan (eP (errE z)) [PO.cells [dP Sh.tm L,sV s]]))).fin true (PV.tup []) [PO.cells [dP Sh.tm L,sV (keyS (etaT ((valE (Sh.tm.nil,Sh.tm.nil) z1).fst)))],PO.cells (Qac (tmC ((valE (Sh.tm.nil,Sh.tm.nil) z1).fst))),PO.cells (Qac (tmC ((valE (Sh.tm.nil,Sh.tm.nil) z1).snd)))]) (EndU 1 (Out.need (∀ (t:Sh.tm.T),t∈L→QaH t) (Out.nm (Except Int ByteArray) (Qca L s n) fun (z:Except Int ByteArray)=>Out.br (okE z) (Out.ret (PV.tup []) [PO.cells [dP Sh.tm L,sV (valE (ByteArray.mk #[]) z)]]) (Out.pan (eP (errE z)) [PO.cells [dP Sh.tm L,sV s]]))).fin false (PV.ifc 49 (iV 31)) [PO.cells [dP Sh.tm L,sV s],PO.cells (Qac (tmC ((valE (Sh.tm.nil,Sh.tm.nil) z1).fst))),PO.cells (Qac (tmC ((valE (Sh.tm.nil,Sh.tm.nil) z1).snd)))]))) (EndU 1 (Out.need (∀ (t:Sh.tm.T),t∈L→QaH t) (Out.nm (Except Int ByteArray) (Qca L s n) fun (z:Except Int ByteArray)=>Out.br (okE z) (Out.ret (PV.tup []) [PO.cells [dP Sh.tm L,sV (valE (ByteArray.mk #[]) z)]]) (Out.pan (eP (errE z)) [PO.cells [dP Sh.tm L,sV s]]))).fin false (PV.ifc 49 (iV (errE z1))) [PO.cells [dP Sh.tm L,sV s]])) ?kr ?_
   case kr=>kernel_rfl
   refine fun z1=>fun hz1=>Qaa.2 ⟨fun hb0=>⟨?s0,⟨?s1,Qaa.2 ⟨fun hb1=>?m0,fun hb1=>Qaa.2 ⟨fun hb2=>?m1,fun hb2=>?m2⟩⟩⟩⟩,fun hb0=>?m3⟩
   all_goals try simp only [etaT] at *
   all_goals try simp only [Tw.eta,bs_l,decide_eq_true_eq,decide_eq_false_iff_not] at *
   case m3 =>
    obtain e | p:=z1
    · obtain ⟨rfl,h1⟩:=QvX (s:=s) hz1.symm
      exact Qnc (QnH h1)
    · cases hb0
   all_goals obtain ⟨⟨a,b⟩,rfl⟩:=QjK hb0
   all_goals obtain ⟨h1,t,ht,ha,hb⟩:=QiK hz1.symm
   case s0=>exact QjT (hL t ht) ha
   case s1=>exact QjT (hL t ht) hb
   case m0=>exact Qnb (QnG (Qv0 h1 hb1))
   case m1=>exact Qnb (QnG (QvZ h1 hb1 hb2))
   case m2=>exact Qnc (QnH (QvY h1 hb1 hb2))
 · cases hs
end Go.Proofs.YtemhncjjiomppaaGreatDoor
