/- The layer cong: paths. -/
import Derived.Test.YtdjnlgkpnjdchaaDoorCa
import Derived.Test.YtdjnlgkpnjdchaaDoorKd
import Derived.Test.YtdjnlgkpnjdchaaDoorEz
namespace Go.Proofs.YtdjnlgkpnjdchaaDoor
open Go.RowKit
set_option linter.unusedVariables false
set_option maxRecDepth 100000
def sCopyTC:Spec
 | [x]=>match tmOf x with
  | some t=>some (some t.fitT,.one (tmP t))
  | none=>none
 | _=>none
theorem cCopyTC {E:Env} (hU:Up E):Contract Tryd.prog E 91 sCopyTC:=by
 intro xs p r hs hp
 unfold sCopyTC at hs
 split at hs
 · rename_i x
   split at hs
   · rename_i t ht
     cases hs
     exact cCopyTN hU (t.size+1) [x] _ _ (by simp only [sCopyTN,ht]; rfl) (fun q hq=>by cases hq; exact ⟨Nat.lt_succ_self _,hp _ rfl⟩)
   · cases hs
 · cases hs
def sOfC:Spec
 | [.f (.v (.int .u8 k)),.f x]=>match dtOf .tm x with
  | some l=>some (some (l.length≤100000000∧fitTL l),.one (tmP (conT k l)))
  | none=>none
 | _=>none
theorem cOfC {E:Env} (hU:Up E):Contract Tryd.prog E 42 sOfC:=by
 refine contract_D [(91,sCopyTC)] [] Tryd.ntmps42 Tryd.func42 (by kernel_rfl) (by kernel_rfl) hU ⟨cCopyTC hU,trivial⟩ trivial ?_
 intro xs p r hs hp
 unfold sOfC at hs
 split at hs
 · rename_i k x
   split at hs
   · rename_i l h1
     cases hs
     obtain ⟨hl,hf⟩:=hp _ rfl
     refine ⟨[.f (.v (.int .u8 k)),.f (.dt .tm l)],[(3,.s ⟨Nat,fun i=>⟨[(4,.bp 0 0),(5,.bp 1 0),(10,.f (.dt .tm l)),(11,iV l.length),(12,iV i)],[.cells [.f (.v (.int .u8 0)),.f (.v (.string ⟨#[]⟩)),.f (.v (.bool false)),.f (.v (.slice none 0 0)),.f (.v (.slice none 0 0))],.cells [.f (.v (.int .u8 k)),.f (.v (.string ⟨#[]⟩)),.f (.v (.bool false)),.f (.v (.slice none 0 0)),.tl 2 (.dt .tm (l.take i))],.tail 28 5]⟩,fun i=>i≤l.length,fun i=>l.length - i⟩)],.cons (.refl _) (.cons (dt_sub h1).sub .nil),rfl,fun _ hsh=>?_⟩
     refine cast_rfl (p:=∃ (x1:Nat),(((SubB (PV.f (Lf.v (Value.int IntKind.u8 0))) (PV.f (Lf.v (Value.int IntKind.u8 0)))∧SubB (sV (ByteArray.mk #[])) (sV (ByteArray.mk #[]))∧SubB (bV false) (bV false)∧SubB (PV.f (Lf.v (Value.slice none 0 0))) (PV.f (Lf.v (Value.slice none 0 0)))∧SubB (PV.f (Lf.v (Value.slice none 0 0))) (PV.f (Lf.v (Value.slice none 0 0)))∧True)∧(SubB (PV.f (Lf.v (Value.int IntKind.u8 k))) (PV.f (Lf.v (Value.int IntKind.u8 k)))∧SubB (sV (ByteArray.mk #[])) (sV (ByteArray.mk #[]))∧SubB (bV false) (bV false)∧SubB (PV.f (Lf.v (Value.slice none 0 0))) (PV.f (Lf.v (Value.slice none 0 0)))∧emptyT (PV.tl 2 (Lf.dt Sh.tm (List.take x1 l)))∧True)∧True)∧SubB (PV.bp 0 0) (PV.bp 0 0)∧SubB (PV.bp 1 0) (PV.bp 1 0)∧SubB (PV.f (Lf.dt Sh.tm l)) (PV.f (Lf.dt Sh.tm l))∧SubB (iV (↑l.length:Int)) (iV (↑l.length:Int))∧SubB (iV 0) (iV (↑x1:Int))∧True)∧x1≤l.length∧True∧∀ (z2:Nat),z2≤l.length→True→ifB (decide ((↑z2:Int)<(↑l.length:Int))) (((0:Int)≤(↑z2:Int)∧(↑z2:Int)<(↑l.length:Int))∧(Tw.mk (Tw.kind (l.getD (↑z2:Int).toNat Sh.tm.nil)) (Tw.name (l.getD (↑z2:Int).toNat Sh.tm.nil)) (Tw.neg (l.getD (↑z2:Int).toNat Sh.tm.nil)) (Tw.digits (l.getD (↑z2:Int).toNat Sh.tm.nil)) (Tw.kids (l.getD (↑z2:Int).toNat Sh.tm.nil))).fitT∧((List.take z2 l).length+1≤9223372036854775807∧((List.take z2 l).length+1) * 80≤140737488355328)∧∃ (x3:Nat),(((SubB (PV.f (Lf.v (Value.int IntKind.u8 0))) (PV.f (Lf.v (Value.int IntKind.u8 0)))∧SubB (sV (ByteArray.mk #[])) (sV (ByteArray.mk #[]))∧SubB (bV false) (bV false)∧SubB (PV.f (Lf.v (Value.slice none 0 0))) (PV.f (Lf.v (Value.slice none 0 0)))∧SubB (PV.f (Lf.v (Value.slice none 0 0))) (PV.f (Lf.v (Value.slice none 0 0)))∧True)∧(SubB (PV.f (Lf.v (Value.int IntKind.u8 k))) (PV.f (Lf.v (Value.int IntKind.u8 k)))∧SubB (sV (ByteArray.mk #[])) (sV (ByteArray.mk #[]))∧SubB (bV false) (bV false)∧SubB (PV.f (Lf.v (Value.slice none 0 0))) (PV.f (Lf.v (Value.slice none 0 0)))∧SubB (PV.tl 2 (Lf.dt Sh.tm (List.take z2 l++[Tw.mk (Tw.mk (Tw.kind (l.getD (↑z2:Int).toNat Sh.tm.nil)) (Tw.name (l.getD (↑z2:Int).toNat Sh.tm.nil)) (Tw.neg (l.getD (↑z2:Int).toNat Sh.tm.nil)) (Tw.digits (l.getD (↑z2:Int).toNat Sh.tm.nil)) (Tw.kids (l.getD (↑z2:Int).toNat Sh.tm.nil))).kind (Tw.mk (Tw.kind (l.getD (↑z2:Int).toNat Sh.tm.nil)) (Tw.name (l.getD (↑z2:Int).toNat Sh.tm.nil)) (Tw.neg (l.getD (↑z2:Int).toNat Sh.tm.nil)) (Tw.digits (l.getD (↑z2:Int).toNat Sh.tm.nil)) (Tw.kids (l.getD (↑z2:Int).toNat Sh.tm.nil))).name (Tw.mk (Tw.kind (l.getD (↑z2:Int).toNat Sh.tm.nil)) (Tw.name (l.getD (↑z2:Int).toNat Sh.tm.nil)) (Tw.neg (l.getD (↑z2:Int).toNat Sh.tm.nil)) (Tw.digits (l.getD (↑z2:Int).toNat Sh.tm.nil)) (Tw.kids (l.getD (↑z2:Int).toNat Sh.tm.nil))).neg (Tw.mk (Tw.kind (l.getD (↑z2:Int).toNat Sh.tm.nil)) (Tw.name (l.getD (↑z2:Int).toNat Sh.tm.nil)) (Tw.neg (l.getD (↑z2:Int).toNat Sh.tm.nil)) (Tw.digits (l.getD (↑z2:Int).toNat Sh.tm.nil)) (Tw.kids (l.getD (↑z2:Int).toNat Sh.tm.nil))).digits (Tw.mk (Tw.kind (l.getD (↑z2:Int).toNat Sh.tm.nil)) (Tw.name (l.getD (↑z2:Int).toNat Sh.tm.nil)) (Tw.neg (l.getD (↑z2:Int).toNat Sh.tm.nil)) (Tw.digits (l.getD (↑z2:Int).toNat Sh.tm.nil)) (Tw.kids (l.getD (↑z2:Int).toNat Sh.tm.nil))).kids]))) (PV.tl 2 (Lf.dt Sh.tm (List.take x3 l)))∧True)∧True)∧SubB (PV.bp 0 0) (PV.bp 0 0)∧SubB (PV.bp 1 0) (PV.bp 1 0)∧SubB (PV.f (Lf.dt Sh.tm l)) (PV.f (Lf.dt Sh.tm l))∧SubB (iV (↑l.length:Int)) (iV (↑l.length:Int))∧SubB (iV (IntKind.i64.wrap ((↑z2:Int)+(1:Int)))) (iV (↑x3:Int))∧True)∧x3≤l.length∧True∧(l.length - x3).succ.le (l.length - z2)) (true=true∧Sub (PV.agg [PV.f (Lf.v (Value.int IntKind.u8 k)),sV (ByteArray.mk #[]),bV false,PV.f (Lf.v (Value.slice none 0 0)),PV.f (Lf.dt Sh.tm (List.take z2 l))]) (PV.agg [PV.f (Lf.v (Value.int IntKind.u8 (conT k l).kind)),sV ((conT k l).name),bV ((conT k l).neg),PV.f (Lf.lr (conT k l).digits 0),PV.f (Lf.dt Sh.tm (conT k l).kids)]))) ?kr ?_
     case kr=>kernel_rfl
     refine ⟨?x0,⟨?s0,⟨?s1,⟨trivial,fun z2=>fun hq0=>fun _=>ifB_iff.2 ⟨fun hb1=>⟨?s2,⟨?s3,⟨?s4,⟨?x1,⟨⟨⟨⟨.refl _,⟨.refl _,⟨.refl _,⟨.refl _,⟨.refl _,trivial⟩⟩⟩⟩⟩,⟨⟨.refl _,⟨.refl _,⟨.refl _,⟨.refl _,⟨?m0,trivial⟩⟩⟩⟩⟩,trivial⟩⟩,⟨.refl _,⟨.refl _,⟨.refl _,⟨.refl _,⟨?m1,trivial⟩⟩⟩⟩⟩⟩,⟨?s5,⟨trivial,?m2⟩⟩⟩⟩⟩⟩⟩,fun hb1=>⟨rfl,?m3⟩⟩⟩⟩⟩⟩
     case x0=>exact 0
     case x1=>exact z2+1
     all_goals try simp only [Int.toNat_natCast,decide_eq_true_eq,decide_eq_false_iff_not,Int.ofNat_lt,Tw.eta] at *
     case s0=>repeat' first | exact SubB.refl _ | exact trivial | exact rfl | refine And.intro ?_ ?_
     case s1=>exact Nat.zero_le _
     case m3=>rw [List.take_of_length_le (by omega)]; exact (tm_sub (t:=conT k l) rfl).sub
     all_goals have hz:z2<l.length:=by omega
     case s2=>omega
     case s3=>exact fitTL_at _ hf hz
     case s4=>rw [List.length_take]; exact ⟨by omega,by omega⟩
     case m0=>rw [List.take_add_one,List.getElem?_eq_getElem hz,List.getD_eq_getElem?_getD,List.getElem?_eq_getElem hz]; exact .refl _
     case m1=>exact subB_i (by rw [wJ _ (by omega) (by omega)]; rfl)
     case s5=>omega
     case m2=>exact (by omega:l.length - (z2+1)<l.length - z2)
   · cases hs
 · cases hs
def keyOk (t:Tw):Prop:=kindR t∧t.fitT∧(keyB t).length≤140737488355328
theorem keyBL_mem:∀ {l:List Tw} {a:Tw},a∈l→(keyB a).length≤(keyBL l).length
 | t::l,a,h=>by
  simp only [keyBL,List.length_append]
  rcases List.mem_cons.1 h with rfl | h
  · omega
  · have:=keyBL_mem h; omega
theorem fitTL_mem {l:List Tw} {a:Tw} (h:fitTL l) (ha:a∈l):a.fitT:=by
 obtain ⟨i,hi,rfl⟩:=List.getElem_of_mem ha
 have:=fitTL_at (default:Tw) h hi
 rwa [List.getD_eq_getElem?_getD,List.getElem?_eq_getElem hi] at this
theorem keyOk_kid {t a:Tw} (h:keyOk t) (ha:a∈t.kids):keyOk a:=by
 obtain ⟨h1,h2,h3⟩:=h
 refine ⟨kindRL_mem ((kindR_eq t).1 h1).2 ha,fitTL_mem ((Tw.fitT_eq t).1 h2).2.2.2 ha,?_⟩
 have h4:=keyBL_mem ha
 have h5:=congrArg List.length (keyB_eq t)
 simp only [List.length_append,List.length_cons] at h5
 omega
theorem getD_tm {l:List Tw} {i:Nat} (h:i<l.length):l.getD i Sh.tm.nil∈l:=by
 rw [List.getD_eq_getElem?_getD,List.getElem?_eq_getElem h]; exact List.getElem_mem h
def edgeE (L:List Tw) (n:Int):Except Int (Tw × Tw):=match edgeW L n with
 | some p=>.ok p
 | none=>.error 31
def pairP (p:Tw × Tw):PV:=.tup [tmP p.1,tmP p.2]
theorem edge_ok {L:List Tw} {n:Int} (h0:0≤n) (h1:n<L.length) (h2:(L.getD n.toNat Sh.tm.nil).kind=8) (h3:((L.getD n.toNat Sh.tm.nil).kids.length:Int)=2):edgeE L n=.ok ((L.getD n.toNat Sh.tm.nil).kids.getD 0 Sh.tm.nil,(L.getD n.toNat Sh.tm.nil).kids.getD 1 Sh.tm.nil):=by
 unfold edgeE edgeW
 rw [if_pos ⟨h0,h1⟩,if_pos ⟨h2,by omega⟩]
theorem edge_no {L:List Tw} {n:Int} (h:0≤n→n<L.length→(L.getD n.toNat Sh.tm.nil).kind=8→¬ ((L.getD n.toNat Sh.tm.nil).kids.length:Int)=2):edgeE L n=.error 31:=by
 unfold edgeE edgeW
 split
 · rename_i h0
   split at h0
   · rename_i h1
     split at h0
     · rename_i h2
       exact absurd (by omega) (h h1.1 h1.2 h2.1)
     · cases h0
   · cases h0
 · rfl
theorem edge_in {L:List Tw} {n:Int} {a b:Tw} (h:edgeE L n=.ok (a,b)):edgeW L n=some (a,b)∧∃ t∈L,a∈t.kids∧b∈t.kids:=by
 unfold edgeE at h
 split at h
 · rename_i p hp
   cases h
   refine ⟨hp,?_⟩
   unfold edgeW at hp
   split at hp
   · rename_i h1
     split at hp
     · rename_i h2
       cases hp
       exact ⟨_,getD_tm (by omega),getD_tm (by omega),getD_tm (by omega)⟩
     · cases hp
   · cases hp
 · cases h
def sEdge:Spec2
 | [.bp 0 0,.f (.v (.int .i64 n))],[.cells [.f (.dt .tm L)]]=>some (outE (Sh.tm.nil,Sh.tm.nil) pairP (edgeE L n) [.cells [.f (.dt .tm L)]])
 | [.bp 0 0,.f (.v (.int .i64 n))],[.cells [.f (.dt .tm L),.f (.v (.string s))]]=>some (outE (Sh.tm.nil,Sh.tm.nil) pairP (edgeE L n) [.cells [.f (.dt .tm L),.f (.v (.string s))]])
 | _,_=>none
theorem cEdge {E:Env} (hU:Up E):Contract2 Tryd.prog E 85 sEdge:=by
 refine contract2 [] [(41,sMust)] Tryd.ntmps85 Tryd.func85 (by kernel_rfl) (by kernel_rfl) hU trivial ⟨cMustC hU,trivial⟩ ?_
 intro xs ob o hs hok
 unfold sEdge at hs
 split at hs
 · rename_i n L
   cases hs
   refine ⟨[.bp 0 0,.f (.v (.int .i64 n))],[],.cons (.refl _) (.cons (.refl _) .nil),rfl,fun _ hsh=>?_⟩
   refine cast_rfl (p:=ifB (decide (n ≥ (0:Int))) (ifB (decide (n<(↑L.length:Int))) (((0:Int)≤n∧n<(↑L.length:Int))∧ifB (Tw.kind (L.getD n.toNat Sh.tm.nil)==(8:Int)) (ifB ((↑(Tw.kids (L.getD n.toNat Sh.tm.nil)).length:Int)==(2:Int)) ((((0:Int)≤(0:Int)∧(0:Int)<(↑(Tw.kids (L.getD n.toNat Sh.tm.nil)).length:Int))∧((0:Int)≤(1:Int)∧(1:Int)<(↑(Tw.kids (L.getD n.toNat Sh.tm.nil)).length:Int))∧SameL [PV.bp 3 4,PV.f (Lf.dt Sh.tm (Tw.kids (L.getD n.toNat Sh.tm.nil))),PV.ep [Lf.v (Value.int IntKind.u8 (Tw.kind ((Tw.kids (L.getD n.toNat Sh.tm.nil)).getD (Int.toNat (0:Int)) Sh.tm.nil))),Lf.v (Value.string (Tw.name ((Tw.kids (L.getD n.toNat Sh.tm.nil)).getD (Int.toNat (0:Int)) Sh.tm.nil))),Lf.v (Value.bool (Tw.neg ((Tw.kids (L.getD n.toNat Sh.tm.nil)).getD (Int.toNat (0:Int)) Sh.tm.nil))),Lf.lr (Tw.digits ((Tw.kids (L.getD n.toNat Sh.tm.nil)).getD (Int.toNat (0:Int)) Sh.tm.nil)) (Tw.digits ((Tw.kids (L.getD n.toNat Sh.tm.nil)).getD (Int.toNat (0:Int)) Sh.tm.nil)).length,Lf.dt Sh.tm (Tw.kids ((Tw.kids (L.getD n.toNat Sh.tm.nil)).getD (Int.toNat (0:Int)) Sh.tm.nil))],PV.agg (wrapF (tmC ((Tw.kids (L.getD n.toNat Sh.tm.nil)).getD (Int.toNat (0:Int)) Sh.tm.nil))),PV.bp 3 4,PV.f (Lf.dt Sh.tm (Tw.kids (L.getD n.toNat Sh.tm.nil))),PV.ep [Lf.v (Value.int IntKind.u8 (Tw.kind ((Tw.kids (L.getD n.toNat Sh.tm.nil)).getD (Int.toNat (1:Int)) Sh.tm.nil))),Lf.v (Value.string (Tw.name ((Tw.kids (L.getD n.toNat Sh.tm.nil)).getD (Int.toNat (1:Int)) Sh.tm.nil))),Lf.v (Value.bool (Tw.neg ((Tw.kids (L.getD n.toNat Sh.tm.nil)).getD (Int.toNat (1:Int)) Sh.tm.nil))),Lf.lr (Tw.digits ((Tw.kids (L.getD n.toNat Sh.tm.nil)).getD (Int.toNat (1:Int)) Sh.tm.nil)) (Tw.digits ((Tw.kids (L.getD n.toNat Sh.tm.nil)).getD (Int.toNat (1:Int)) Sh.tm.nil)).length,Lf.dt Sh.tm (Tw.kids ((Tw.kids (L.getD n.toNat Sh.tm.nil)).getD (Int.toNat (1:Int)) Sh.tm.nil))],PV.agg (wrapF (tmC ((Tw.kids (L.getD n.toNat Sh.tm.nil)).getD (Int.toNat (1:Int)) Sh.tm.nil)))] [PV.bp 3 4,PV.f (Lf.dt Sh.tm (Tw.kids (L.getD n.toNat Sh.tm.nil))),PV.ep [Lf.v (Value.int IntKind.u8 (Tw.kind ((Tw.kids (L.getD n.toNat Sh.tm.nil)).getD (Int.toNat (0:Int)) Sh.tm.nil))),Lf.v (Value.string (Tw.name ((Tw.kids (L.getD n.toNat Sh.tm.nil)).getD (Int.toNat (0:Int)) Sh.tm.nil))),Lf.v (Value.bool (Tw.neg ((Tw.kids (L.getD n.toNat Sh.tm.nil)).getD (Int.toNat (0:Int)) Sh.tm.nil))),Lf.lr (Tw.digits ((Tw.kids (L.getD n.toNat Sh.tm.nil)).getD (Int.toNat (0:Int)) Sh.tm.nil)) (Tw.digits ((Tw.kids (L.getD n.toNat Sh.tm.nil)).getD (Int.toNat (0:Int)) Sh.tm.nil)).length,Lf.dt Sh.tm (Tw.kids ((Tw.kids (L.getD n.toNat Sh.tm.nil)).getD (Int.toNat (0:Int)) Sh.tm.nil))],PV.agg (wrapF (tmC ((Tw.kids (L.getD n.toNat Sh.tm.nil)).getD (Int.toNat (0:Int)) Sh.tm.nil))),PV.bp 3 4,PV.f (Lf.dt Sh.tm (Tw.kids (L.getD n.toNat Sh.tm.nil))),PV.ep [Lf.v (Value.int IntKind.u8 (Tw.kind ((Tw.kids (L.getD n.toNat Sh.tm.nil)).getD (Int.toNat (1:Int)) Sh.tm.nil))),Lf.v (Value.string (Tw.name ((Tw.kids (L.getD n.toNat Sh.tm.nil)).getD (Int.toNat (1:Int)) Sh.tm.nil))),Lf.v (Value.bool (Tw.neg ((Tw.kids (L.getD n.toNat Sh.tm.nil)).getD (Int.toNat (1:Int)) Sh.tm.nil))),Lf.lr (Tw.digits ((Tw.kids (L.getD n.toNat Sh.tm.nil)).getD (Int.toNat (1:Int)) Sh.tm.nil)) (Tw.digits ((Tw.kids (L.getD n.toNat Sh.tm.nil)).getD (Int.toNat (1:Int)) Sh.tm.nil)).length,Lf.dt Sh.tm (Tw.kids ((Tw.kids (L.getD n.toNat Sh.tm.nil)).getD (Int.toNat (1:Int)) Sh.tm.nil))],PV.agg (wrapF (tmC ((Tw.kids (L.getD n.toNat Sh.tm.nil)).getD (Int.toNat (1:Int)) Sh.tm.nil)))])∧(((0:Int)≤(1:Int)∧(1:Int)<(↑(Tw.kids (L.getD n.toNat Sh.tm.nil)).length:Int))∧SameL [PV.any,PV.any,PV.any,PV.any,PV.bp 3 4,PV.f (Lf.dt Sh.tm (Tw.kids (L.getD n.toNat Sh.tm.nil))),PV.ep [Lf.v (Value.int IntKind.u8 (Tw.kind ((Tw.kids (L.getD n.toNat Sh.tm.nil)).getD (Int.toNat (1:Int)) Sh.tm.nil))),Lf.v (Value.string (Tw.name ((Tw.kids (L.getD n.toNat Sh.tm.nil)).getD (Int.toNat (1:Int)) Sh.tm.nil))),Lf.v (Value.bool (Tw.neg ((Tw.kids (L.getD n.toNat Sh.tm.nil)).getD (Int.toNat (1:Int)) Sh.tm.nil))),Lf.lr (Tw.digits ((Tw.kids (L.getD n.toNat Sh.tm.nil)).getD (Int.toNat (1:Int)) Sh.tm.nil)) (Tw.digits ((Tw.kids (L.getD n.toNat Sh.tm.nil)).getD (Int.toNat (1:Int)) Sh.tm.nil)).length,Lf.dt Sh.tm (Tw.kids ((Tw.kids (L.getD n.toNat Sh.tm.nil)).getD (Int.toNat (1:Int)) Sh.tm.nil))],PV.agg (wrapF (tmC ((Tw.kids (L.getD n.toNat Sh.tm.nil)).getD (Int.toNat (1:Int)) Sh.tm.nil)))] [PV.any,PV.any,PV.any,PV.any,PV.bp 3 4,PV.f (Lf.dt Sh.tm (Tw.kids (L.getD n.toNat Sh.tm.nil))),PV.ep [Lf.v (Value.int IntKind.u8 (Tw.kind ((Tw.kids (L.getD n.toNat Sh.tm.nil)).getD (Int.toNat (1:Int)) Sh.tm.nil))),Lf.v (Value.string (Tw.name ((Tw.kids (L.getD n.toNat Sh.tm.nil)).getD (Int.toNat (1:Int)) Sh.tm.nil))),Lf.v (Value.bool (Tw.neg ((Tw.kids (L.getD n.toNat Sh.tm.nil)).getD (Int.toNat (1:Int)) Sh.tm.nil))),Lf.lr (Tw.digits ((Tw.kids (L.getD n.toNat Sh.tm.nil)).getD (Int.toNat (1:Int)) Sh.tm.nil)) (Tw.digits ((Tw.kids (L.getD n.toNat Sh.tm.nil)).getD (Int.toNat (1:Int)) Sh.tm.nil)).length,Lf.dt Sh.tm (Tw.kids ((Tw.kids (L.getD n.toNat Sh.tm.nil)).getD (Int.toNat (1:Int)) Sh.tm.nil))],PV.agg (wrapF (tmC ((Tw.kids (L.getD n.toNat Sh.tm.nil)).getD (Int.toNat (1:Int)) Sh.tm.nil)))])∧SameL [PV.any,PV.any,PV.any,PV.any,PV.any,PV.any,PV.any,PV.any] [PV.any,PV.any,PV.any,PV.any,PV.any,PV.any,PV.any,PV.any]∧EndU 1 (outE (Sh.tm.nil,Sh.tm.nil) pairP (edgeE L n) [PO.cells [PV.f (Lf.dt Sh.tm L)]]).fin true (PV.tup [PV.agg (wrapF (tmC ((Tw.kids (L.getD n.toNat Sh.tm.nil)).getD (Int.toNat (0:Int)) Sh.tm.nil))),PV.agg (wrapF (tmC ((Tw.kids (L.getD n.toNat Sh.tm.nil)).getD (Int.toNat (1:Int)) Sh.tm.nil)))]) [PO.cells [PV.f (Lf.dt Sh.tm L)],PO.cells (wrapF (tmC ((Tw.kids (L.getD n.toNat Sh.tm.nil)).getD (Int.toNat (0:Int)) Sh.tm.nil))),PO.cells (wrapF (tmC ((Tw.kids (L.getD n.toNat Sh.tm.nil)).getD (Int.toNat (1:Int)) Sh.tm.nil))),PO.cells (wrapF (tmC (L.getD n.toNat Sh.tm.nil)))]) (EndU 1 (outE (Sh.tm.nil,Sh.tm.nil) pairP (edgeE L n) [PO.cells [PV.f (Lf.dt Sh.tm L)]]).fin false (PV.ifc 32 (iV 31)) [PO.cells [PV.f (Lf.dt Sh.tm L)],PO.cells [PV.f (Lf.v (Value.int IntKind.u8 0)),sV (ByteArray.mk #[]),bV false,PV.f (Lf.v (Value.slice none 0 0)),PV.f (Lf.v (Value.slice none 0 0))],PO.cells [PV.f (Lf.v (Value.int IntKind.u8 0)),sV (ByteArray.mk #[]),bV false,PV.f (Lf.v (Value.slice none 0 0)),PV.f (Lf.v (Value.slice none 0 0))],PO.cells (wrapF (tmC (L.getD n.toNat Sh.tm.nil)))])) (EndU 1 (outE (Sh.tm.nil,Sh.tm.nil) pairP (edgeE L n) [PO.cells [PV.f (Lf.dt Sh.tm L)]]).fin false (PV.ifc 32 (iV 31)) [PO.cells [PV.f (Lf.dt Sh.tm L)],PO.cells [PV.f (Lf.v (Value.int IntKind.u8 0)),sV (ByteArray.mk #[]),bV false,PV.f (Lf.v (Value.slice none 0 0)),PV.f (Lf.v (Value.slice none 0 0))],PO.cells [PV.f (Lf.v (Value.int IntKind.u8 0)),sV (ByteArray.mk #[]),bV false,PV.f (Lf.v (Value.slice none 0 0)),PV.f (Lf.v (Value.slice none 0 0))],PO.cells (wrapF (tmC (L.getD n.toNat Sh.tm.nil)))])) (EndU 1 (outE (Sh.tm.nil,Sh.tm.nil) pairP (edgeE L n) [PO.cells [PV.f (Lf.dt Sh.tm L)]]).fin false (PV.ifc 32 (iV 31)) [PO.cells [PV.f (Lf.dt Sh.tm L)],PO.cells [PV.f (Lf.v (Value.int IntKind.u8 0)),sV (ByteArray.mk #[]),bV false,PV.f (Lf.v (Value.slice none 0 0)),PV.f (Lf.v (Value.slice none 0 0))],PO.cells [PV.f (Lf.v (Value.int IntKind.u8 0)),sV (ByteArray.mk #[]),bV false,PV.f (Lf.v (Value.slice none 0 0)),PV.f (Lf.v (Value.slice none 0 0))]])) (EndU 1 (outE (Sh.tm.nil,Sh.tm.nil) pairP (edgeE L n) [PO.cells [PV.f (Lf.dt Sh.tm L)]]).fin false (PV.ifc 32 (iV 31)) [PO.cells [PV.f (Lf.dt Sh.tm L)],PO.cells [PV.f (Lf.v (Value.int IntKind.u8 0)),sV (ByteArray.mk #[]),bV false,PV.f (Lf.v (Value.slice none 0 0)),PV.f (Lf.v (Value.slice none 0 0))],PO.cells [PV.f (Lf.v (Value.int IntKind.u8 0)),sV (ByteArray.mk #[]),bV false,PV.f (Lf.v (Value.slice none 0 0)),PV.f (Lf.v (Value.slice none 0 0))]])) ?kr ?_
   case kr=>kernel_rfl
   refine ifB_iff.2 ⟨fun hb0=>ifB_iff.2 ⟨fun hb1=>⟨?s0,ifB_iff.2 ⟨fun hb2=>ifB_iff.2 ⟨fun hb3=>⟨⟨?s1,⟨?s2,⟨rfl⟩⟩⟩,⟨⟨?s3,⟨rfl⟩⟩,⟨⟨rfl⟩,?m0⟩⟩⟩,fun hb3=>?m1⟩,fun hb2=>?m2⟩⟩,fun hb1=>?m3⟩,fun hb0=>?m4⟩
   all_goals try simp only [beq_iff_eq,beq_eq_false_iff_ne,ne_eq,decide_eq_true_eq,decide_eq_false_iff_not,ge_iff_le,Int.toNat_zero,Int.toNat_one] at *
   case s0=>exact ⟨hb0,hb1⟩
   case s1=>omega
   case s2=>omega
   case s3=>omega
   case m0=>exact endU (outE_ok (edge_ok hb0 hb1 hb2 hb3)) (.refl _) rfl rfl rfl
   case m1=>exact endU (outE_err (edge_no fun _ _ _=>hb3)) (.refl _) rfl rfl rfl
   case m2=>exact endU (outE_err (edge_no fun _ _ h=>absurd h hb2)) (.refl _) rfl rfl rfl
   case m3=>exact endU (outE_err (edge_no fun _ h=>absurd h hb1)) (.refl _) rfl rfl rfl
   case m4=>exact endU (outE_err (edge_no fun h=>absurd h hb0)) (.refl _) rfl rfl rfl
 · rename_i n L s
   cases hs
   refine ⟨[.bp 0 0,.f (.v (.int .i64 n))],[],.cons (.refl _) (.cons (.refl _) .nil),rfl,fun _ hsh=>?_⟩
   refine cast_rfl (p:=ifB (decide (n ≥ (0:Int))) (ifB (decide (n<(↑L.length:Int))) (((0:Int)≤n∧n<(↑L.length:Int))∧ifB (Tw.kind (L.getD n.toNat Sh.tm.nil)==(8:Int)) (ifB ((↑(Tw.kids (L.getD n.toNat Sh.tm.nil)).length:Int)==(2:Int)) ((((0:Int)≤(0:Int)∧(0:Int)<(↑(Tw.kids (L.getD n.toNat Sh.tm.nil)).length:Int))∧((0:Int)≤(1:Int)∧(1:Int)<(↑(Tw.kids (L.getD n.toNat Sh.tm.nil)).length:Int))∧SameL [PV.bp 3 4,PV.f (Lf.dt Sh.tm (Tw.kids (L.getD n.toNat Sh.tm.nil))),PV.ep [Lf.v (Value.int IntKind.u8 (Tw.kind ((Tw.kids (L.getD n.toNat Sh.tm.nil)).getD (Int.toNat (0:Int)) Sh.tm.nil))),Lf.v (Value.string (Tw.name ((Tw.kids (L.getD n.toNat Sh.tm.nil)).getD (Int.toNat (0:Int)) Sh.tm.nil))),Lf.v (Value.bool (Tw.neg ((Tw.kids (L.getD n.toNat Sh.tm.nil)).getD (Int.toNat (0:Int)) Sh.tm.nil))),Lf.lr (Tw.digits ((Tw.kids (L.getD n.toNat Sh.tm.nil)).getD (Int.toNat (0:Int)) Sh.tm.nil)) (Tw.digits ((Tw.kids (L.getD n.toNat Sh.tm.nil)).getD (Int.toNat (0:Int)) Sh.tm.nil)).length,Lf.dt Sh.tm (Tw.kids ((Tw.kids (L.getD n.toNat Sh.tm.nil)).getD (Int.toNat (0:Int)) Sh.tm.nil))],PV.agg (wrapF (tmC ((Tw.kids (L.getD n.toNat Sh.tm.nil)).getD (Int.toNat (0:Int)) Sh.tm.nil))),PV.bp 3 4,PV.f (Lf.dt Sh.tm (Tw.kids (L.getD n.toNat Sh.tm.nil))),PV.ep [Lf.v (Value.int IntKind.u8 (Tw.kind ((Tw.kids (L.getD n.toNat Sh.tm.nil)).getD (Int.toNat (1:Int)) Sh.tm.nil))),Lf.v (Value.string (Tw.name ((Tw.kids (L.getD n.toNat Sh.tm.nil)).getD (Int.toNat (1:Int)) Sh.tm.nil))),Lf.v (Value.bool (Tw.neg ((Tw.kids (L.getD n.toNat Sh.tm.nil)).getD (Int.toNat (1:Int)) Sh.tm.nil))),Lf.lr (Tw.digits ((Tw.kids (L.getD n.toNat Sh.tm.nil)).getD (Int.toNat (1:Int)) Sh.tm.nil)) (Tw.digits ((Tw.kids (L.getD n.toNat Sh.tm.nil)).getD (Int.toNat (1:Int)) Sh.tm.nil)).length,Lf.dt Sh.tm (Tw.kids ((Tw.kids (L.getD n.toNat Sh.tm.nil)).getD (Int.toNat (1:Int)) Sh.tm.nil))],PV.agg (wrapF (tmC ((Tw.kids (L.getD n.toNat Sh.tm.nil)).getD (Int.toNat (1:Int)) Sh.tm.nil)))] [PV.bp 3 4,PV.f (Lf.dt Sh.tm (Tw.kids (L.getD n.toNat Sh.tm.nil))),PV.ep [Lf.v (Value.int IntKind.u8 (Tw.kind ((Tw.kids (L.getD n.toNat Sh.tm.nil)).getD (Int.toNat (0:Int)) Sh.tm.nil))),Lf.v (Value.string (Tw.name ((Tw.kids (L.getD n.toNat Sh.tm.nil)).getD (Int.toNat (0:Int)) Sh.tm.nil))),Lf.v (Value.bool (Tw.neg ((Tw.kids (L.getD n.toNat Sh.tm.nil)).getD (Int.toNat (0:Int)) Sh.tm.nil))),Lf.lr (Tw.digits ((Tw.kids (L.getD n.toNat Sh.tm.nil)).getD (Int.toNat (0:Int)) Sh.tm.nil)) (Tw.digits ((Tw.kids (L.getD n.toNat Sh.tm.nil)).getD (Int.toNat (0:Int)) Sh.tm.nil)).length,Lf.dt Sh.tm (Tw.kids ((Tw.kids (L.getD n.toNat Sh.tm.nil)).getD (Int.toNat (0:Int)) Sh.tm.nil))],PV.agg (wrapF (tmC ((Tw.kids (L.getD n.toNat Sh.tm.nil)).getD (Int.toNat (0:Int)) Sh.tm.nil))),PV.bp 3 4,PV.f (Lf.dt Sh.tm (Tw.kids (L.getD n.toNat Sh.tm.nil))),PV.ep [Lf.v (Value.int IntKind.u8 (Tw.kind ((Tw.kids (L.getD n.toNat Sh.tm.nil)).getD (Int.toNat (1:Int)) Sh.tm.nil))),Lf.v (Value.string (Tw.name ((Tw.kids (L.getD n.toNat Sh.tm.nil)).getD (Int.toNat (1:Int)) Sh.tm.nil))),Lf.v (Value.bool (Tw.neg ((Tw.kids (L.getD n.toNat Sh.tm.nil)).getD (Int.toNat (1:Int)) Sh.tm.nil))),Lf.lr (Tw.digits ((Tw.kids (L.getD n.toNat Sh.tm.nil)).getD (Int.toNat (1:Int)) Sh.tm.nil)) (Tw.digits ((Tw.kids (L.getD n.toNat Sh.tm.nil)).getD (Int.toNat (1:Int)) Sh.tm.nil)).length,Lf.dt Sh.tm (Tw.kids ((Tw.kids (L.getD n.toNat Sh.tm.nil)).getD (Int.toNat (1:Int)) Sh.tm.nil))],PV.agg (wrapF (tmC ((Tw.kids (L.getD n.toNat Sh.tm.nil)).getD (Int.toNat (1:Int)) Sh.tm.nil)))])∧(((0:Int)≤(1:Int)∧(1:Int)<(↑(Tw.kids (L.getD n.toNat Sh.tm.nil)).length:Int))∧SameL [PV.any,PV.any,PV.any,PV.any,PV.bp 3 4,PV.f (Lf.dt Sh.tm (Tw.kids (L.getD n.toNat Sh.tm.nil))),PV.ep [Lf.v (Value.int IntKind.u8 (Tw.kind ((Tw.kids (L.getD n.toNat Sh.tm.nil)).getD (Int.toNat (1:Int)) Sh.tm.nil))),Lf.v (Value.string (Tw.name ((Tw.kids (L.getD n.toNat Sh.tm.nil)).getD (Int.toNat (1:Int)) Sh.tm.nil))),Lf.v (Value.bool (Tw.neg ((Tw.kids (L.getD n.toNat Sh.tm.nil)).getD (Int.toNat (1:Int)) Sh.tm.nil))),Lf.lr (Tw.digits ((Tw.kids (L.getD n.toNat Sh.tm.nil)).getD (Int.toNat (1:Int)) Sh.tm.nil)) (Tw.digits ((Tw.kids (L.getD n.toNat Sh.tm.nil)).getD (Int.toNat (1:Int)) Sh.tm.nil)).length,Lf.dt Sh.tm (Tw.kids ((Tw.kids (L.getD n.toNat Sh.tm.nil)).getD (Int.toNat (1:Int)) Sh.tm.nil))],PV.agg (wrapF (tmC ((Tw.kids (L.getD n.toNat Sh.tm.nil)).getD (Int.toNat (1:Int)) Sh.tm.nil)))] [PV.any,PV.any,PV.any,PV.any,PV.bp 3 4,PV.f (Lf.dt Sh.tm (Tw.kids (L.getD n.toNat Sh.tm.nil))),PV.ep [Lf.v (Value.int IntKind.u8 (Tw.kind ((Tw.kids (L.getD n.toNat Sh.tm.nil)).getD (Int.toNat (1:Int)) Sh.tm.nil))),Lf.v (Value.string (Tw.name ((Tw.kids (L.getD n.toNat Sh.tm.nil)).getD (Int.toNat (1:Int)) Sh.tm.nil))),Lf.v (Value.bool (Tw.neg ((Tw.kids (L.getD n.toNat Sh.tm.nil)).getD (Int.toNat (1:Int)) Sh.tm.nil))),Lf.lr (Tw.digits ((Tw.kids (L.getD n.toNat Sh.tm.nil)).getD (Int.toNat (1:Int)) Sh.tm.nil)) (Tw.digits ((Tw.kids (L.getD n.toNat Sh.tm.nil)).getD (Int.toNat (1:Int)) Sh.tm.nil)).length,Lf.dt Sh.tm (Tw.kids ((Tw.kids (L.getD n.toNat Sh.tm.nil)).getD (Int.toNat (1:Int)) Sh.tm.nil))],PV.agg (wrapF (tmC ((Tw.kids (L.getD n.toNat Sh.tm.nil)).getD (Int.toNat (1:Int)) Sh.tm.nil)))])∧SameL [PV.any,PV.any,PV.any,PV.any,PV.any,PV.any,PV.any,PV.any] [PV.any,PV.any,PV.any,PV.any,PV.any,PV.any,PV.any,PV.any]∧EndU 1 (outE (Sh.tm.nil,Sh.tm.nil) pairP (edgeE L n) [PO.cells [PV.f (Lf.dt Sh.tm L),sV s]]).fin true (PV.tup [PV.agg (wrapF (tmC ((Tw.kids (L.getD n.toNat Sh.tm.nil)).getD (Int.toNat (0:Int)) Sh.tm.nil))),PV.agg (wrapF (tmC ((Tw.kids (L.getD n.toNat Sh.tm.nil)).getD (Int.toNat (1:Int)) Sh.tm.nil)))]) [PO.cells [PV.f (Lf.dt Sh.tm L),sV s],PO.cells (wrapF (tmC ((Tw.kids (L.getD n.toNat Sh.tm.nil)).getD (Int.toNat (0:Int)) Sh.tm.nil))),PO.cells (wrapF (tmC ((Tw.kids (L.getD n.toNat Sh.tm.nil)).getD (Int.toNat (1:Int)) Sh.tm.nil))),PO.cells (wrapF (tmC (L.getD n.toNat Sh.tm.nil)))]) (EndU 1 (outE (Sh.tm.nil,Sh.tm.nil) pairP (edgeE L n) [PO.cells [PV.f (Lf.dt Sh.tm L),sV s]]).fin false (PV.ifc 32 (iV 31)) [PO.cells [PV.f (Lf.dt Sh.tm L),sV s],PO.cells [PV.f (Lf.v (Value.int IntKind.u8 0)),sV (ByteArray.mk #[]),bV false,PV.f (Lf.v (Value.slice none 0 0)),PV.f (Lf.v (Value.slice none 0 0))],PO.cells [PV.f (Lf.v (Value.int IntKind.u8 0)),sV (ByteArray.mk #[]),bV false,PV.f (Lf.v (Value.slice none 0 0)),PV.f (Lf.v (Value.slice none 0 0))],PO.cells (wrapF (tmC (L.getD n.toNat Sh.tm.nil)))])) (EndU 1 (outE (Sh.tm.nil,Sh.tm.nil) pairP (edgeE L n) [PO.cells [PV.f (Lf.dt Sh.tm L),sV s]]).fin false (PV.ifc 32 (iV 31)) [PO.cells [PV.f (Lf.dt Sh.tm L),sV s],PO.cells [PV.f (Lf.v (Value.int IntKind.u8 0)),sV (ByteArray.mk #[]),bV false,PV.f (Lf.v (Value.slice none 0 0)),PV.f (Lf.v (Value.slice none 0 0))],PO.cells [PV.f (Lf.v (Value.int IntKind.u8 0)),sV (ByteArray.mk #[]),bV false,PV.f (Lf.v (Value.slice none 0 0)),PV.f (Lf.v (Value.slice none 0 0))],PO.cells (wrapF (tmC (L.getD n.toNat Sh.tm.nil)))])) (EndU 1 (outE (Sh.tm.nil,Sh.tm.nil) pairP (edgeE L n) [PO.cells [PV.f (Lf.dt Sh.tm L),sV s]]).fin false (PV.ifc 32 (iV 31)) [PO.cells [PV.f (Lf.dt Sh.tm L),sV s],PO.cells [PV.f (Lf.v (Value.int IntKind.u8 0)),sV (ByteArray.mk #[]),bV false,PV.f (Lf.v (Value.slice none 0 0)),PV.f (Lf.v (Value.slice none 0 0))],PO.cells [PV.f (Lf.v (Value.int IntKind.u8 0)),sV (ByteArray.mk #[]),bV false,PV.f (Lf.v (Value.slice none 0 0)),PV.f (Lf.v (Value.slice none 0 0))]])) (EndU 1 (outE (Sh.tm.nil,Sh.tm.nil) pairP (edgeE L n) [PO.cells [PV.f (Lf.dt Sh.tm L),sV s]]).fin false (PV.ifc 32 (iV 31)) [PO.cells [PV.f (Lf.dt Sh.tm L),sV s],PO.cells [PV.f (Lf.v (Value.int IntKind.u8 0)),sV (ByteArray.mk #[]),bV false,PV.f (Lf.v (Value.slice none 0 0)),PV.f (Lf.v (Value.slice none 0 0))],PO.cells [PV.f (Lf.v (Value.int IntKind.u8 0)),sV (ByteArray.mk #[]),bV false,PV.f (Lf.v (Value.slice none 0 0)),PV.f (Lf.v (Value.slice none 0 0))]])) ?kr ?_
   case kr=>kernel_rfl
   refine ifB_iff.2 ⟨fun hb0=>ifB_iff.2 ⟨fun hb1=>⟨?s0,ifB_iff.2 ⟨fun hb2=>ifB_iff.2 ⟨fun hb3=>⟨⟨?s1,⟨?s2,⟨rfl⟩⟩⟩,⟨⟨?s3,⟨rfl⟩⟩,⟨⟨rfl⟩,?m0⟩⟩⟩,fun hb3=>?m1⟩,fun hb2=>?m2⟩⟩,fun hb1=>?m3⟩,fun hb0=>?m4⟩
   all_goals try simp only [beq_iff_eq,beq_eq_false_iff_ne,ne_eq,decide_eq_true_eq,decide_eq_false_iff_not,ge_iff_le,Int.toNat_zero,Int.toNat_one] at *
   case s0=>exact ⟨hb0,hb1⟩
   case s1=>omega
   case s2=>omega
   case s3=>omega
   case m0=>exact endU (outE_ok (edge_ok hb0 hb1 hb2 hb3)) (.refl _) rfl rfl rfl
   case m1=>exact endU (outE_err (edge_no fun _ _ _=>hb3)) (.refl _) rfl rfl rfl
   case m2=>exact endU (outE_err (edge_no fun _ _ h=>absurd h hb2)) (.refl _) rfl rfl rfl
   case m3=>exact endU (outE_err (edge_no fun _ h=>absurd h hb1)) (.refl _) rfl rfl rfl
   case m4=>exact endU (outE_err (edge_no fun h=>absurd h hb0)) (.refl _) rfl rfl rfl
 · cases hs
def alongE (L:List Tw) (s:ByteArray) (n:Int):Except Int ByteArray:=match alongW L s n with
 | some s=>.ok s
 | none=>.error 31
def sAlong:Spec2
 | [.bp 0 0,.f (.v (.int .i64 n))],[.cells [.f (.dt .tm L),.f (.v (.string s))]]=>some (.need (∀ t∈L,keyOk t) (.nm (Except Int ByteArray) (alongE L s n) fun z=>.br (okE z) (.ret (.tup []) [.cells [.f (.dt .tm L),sV (valE ⟨#[]⟩ z)]]) (.pan (eP (errE z)) [.cells [.f (.dt .tm L),.f (.v (.string s))]])))
 | _,_=>none
theorem okE_ex {α:Type} {z:Except Int α} (h:okE z=true):∃ p,z=.ok p:=by
 cases z with
 | ok p=>exact ⟨p,rfl⟩
 | error e=>cases h
theorem along_ok {L:List Tw} {s x:ByteArray} {n:Int} (h:alongW L s n=some x):alongE L s n=.ok x:=by unfold alongE; rw [h]
theorem along_no {L:List Tw} {s:ByteArray} {n:Int} (h:alongW L s n=none):alongE L s n=.error 31:=by unfold alongE; rw [h]
theorem along_a {L:List Tw} {s:ByteArray} {n:Int} {a b:Tw} (h:edgeW L n=some (a,b)) (h1:s=keyS a):alongW L s n=some (keyS b):=by unfold alongW; rw [h]; exact if_pos h1
theorem along_b {L:List Tw} {s:ByteArray} {n:Int} {a b:Tw} (h:edgeW L n=some (a,b)) (h1:¬ s=keyS a) (h2:s=keyS b):alongW L s n=some (keyS a):=by
 unfold alongW; rw [h]; dsimp only; rw [if_neg h1,if_pos h2]
theorem along_c {L:List Tw} {s:ByteArray} {n:Int} {a b:Tw} (h:edgeW L n=some (a,b)) (h1:¬ s=keyS a) (h2:¬ s=keyS b):alongW L s n=none:=by
 unfold alongW; rw [h]; dsimp only; rw [if_neg h1,if_neg h2]
theorem along_d {L:List Tw} {s:ByteArray} {n e:Int} (h:edgeE L n=.error e):e=31∧alongW L s n=none:=by
 unfold edgeE at h
 split at h
 · cases h
 · rename_i h1
   cases h
   refine ⟨rfl,?_⟩
   unfold alongW; rw [h1]
theorem endAl_ok {p:Prop} {L:List Tw} {s x:ByteArray} {e:Except Int ByteArray} {r:List PO} (h:e=.ok x):EndU 1 (Out.need p (.nm (Except Int ByteArray) e fun z=>.br (okE z) (.ret (.tup []) [.cells [.f (.dt .tm L),sV (valE ⟨#[]⟩ z)]]) (.pan (eP (errE z)) [.cells [.f (.dt .tm L),.f (.v (.string s))]]))).fin true (.tup []) (.cells [.f (.dt .tm L),sV x]::r):=by
 subst h
 exact endU_need (endU (ob:=[.cells [.f (.dt .tm L),sV x]]) rfl (.refl _) rfl rfl rfl)
theorem endAl_no {p:Prop} {L:List Tw} {s:ByteArray} {x:Int} {e:Except Int ByteArray} {r:List PO} (h:e=.error x):EndU 1 (Out.need p (.nm (Except Int ByteArray) e fun z=>.br (okE z) (.ret (.tup []) [.cells [.f (.dt .tm L),sV (valE ⟨#[]⟩ z)]]) (.pan (eP (errE z)) [.cells [.f (.dt .tm L),.f (.v (.string s))]]))).fin false (eP x) (.cells [.f (.dt .tm L),.f (.v (.string s))]::r):=by
 subst h
 exact endU_need (endU (ob:=[.cells [.f (.dt .tm L),.f (.v (.string s))]]) rfl (.refl _) rfl rfl rfl)
theorem cAlong {E:Env} (hU:Up E) (hT:∀ K w H,E K w H→Tab w):Contract2 Tryd.prog E 40 sAlong:=by
 refine contract2 [(16,sKey)] [(85,sEdge)] Tryd.ntmps40 Tryd.func40 (by kernel_rfl) (by kernel_rfl) hU ⟨cKey hU hT,trivial⟩ ⟨cEdge hU,trivial⟩ ?_
 intro xs ob o hs hok
 unfold sAlong at hs
 split at hs
 · rename_i n L s
   cases hs
   have hL:=hok.1
   refine ⟨[.bp 0 0,.f (.v (.int .i64 n))],[],.cons (.refl _) (.cons (.refl _) .nil),rfl,fun _ hsh=>?_⟩
   refine cast_rfl (p:=∀ (z1:Except Int (Sh.tm.T × Sh.tm.T)),z1=edgeE L n→ifB (okE z1) ((kindR (Tw.mk (valE (Sh.tm.nil,Sh.tm.nil) z1).fst.kind (valE (Sh.tm.nil,Sh.tm.nil) z1).fst.name (valE (Sh.tm.nil,Sh.tm.nil) z1).fst.neg (valE (Sh.tm.nil,Sh.tm.nil) z1).fst.digits (valE (Sh.tm.nil,Sh.tm.nil) z1).fst.kids)∧(Tw.mk (valE (Sh.tm.nil,Sh.tm.nil) z1).fst.kind (valE (Sh.tm.nil,Sh.tm.nil) z1).fst.name (valE (Sh.tm.nil,Sh.tm.nil) z1).fst.neg (valE (Sh.tm.nil,Sh.tm.nil) z1).fst.digits (valE (Sh.tm.nil,Sh.tm.nil) z1).fst.kids).fitT∧(keyB (Tw.mk (valE (Sh.tm.nil,Sh.tm.nil) z1).fst.kind (valE (Sh.tm.nil,Sh.tm.nil) z1).fst.name (valE (Sh.tm.nil,Sh.tm.nil) z1).fst.neg (valE (Sh.tm.nil,Sh.tm.nil) z1).fst.digits (valE (Sh.tm.nil,Sh.tm.nil) z1).fst.kids)).length≤140737488355328)∧(kindR (Tw.mk (valE (Sh.tm.nil,Sh.tm.nil) z1).snd.kind (valE (Sh.tm.nil,Sh.tm.nil) z1).snd.name (valE (Sh.tm.nil,Sh.tm.nil) z1).snd.neg (valE (Sh.tm.nil,Sh.tm.nil) z1).snd.digits (valE (Sh.tm.nil,Sh.tm.nil) z1).snd.kids)∧(Tw.mk (valE (Sh.tm.nil,Sh.tm.nil) z1).snd.kind (valE (Sh.tm.nil,Sh.tm.nil) z1).snd.name (valE (Sh.tm.nil,Sh.tm.nil) z1).snd.neg (valE (Sh.tm.nil,Sh.tm.nil) z1).snd.digits (valE (Sh.tm.nil,Sh.tm.nil) z1).snd.kids).fitT∧(keyB (Tw.mk (valE (Sh.tm.nil,Sh.tm.nil) z1).snd.kind (valE (Sh.tm.nil,Sh.tm.nil) z1).snd.name (valE (Sh.tm.nil,Sh.tm.nil) z1).snd.neg (valE (Sh.tm.nil,Sh.tm.nil) z1).snd.digits (valE (Sh.tm.nil,Sh.tm.nil) z1).snd.kids)).length≤140737488355328)∧ifB (s.toList==(keyS (Tw.mk (valE (Sh.tm.nil,Sh.tm.nil) z1).fst.kind (valE (Sh.tm.nil,Sh.tm.nil) z1).fst.name (valE (Sh.tm.nil,Sh.tm.nil) z1).fst.neg (valE (Sh.tm.nil,Sh.tm.nil) z1).fst.digits (valE (Sh.tm.nil,Sh.tm.nil) z1).fst.kids)).toList) (EndU 1 (Out.need (∀ (t:Sh.tm.T),t∈L→keyOk t) (Out.nm (Except Int ByteArray) (alongE L s n) fun (z:Except Int ByteArray)=>Out.br (okE z) (Out.ret (PV.tup []) [PO.cells [PV.f (Lf.dt Sh.tm L),sV (valE (ByteArray.mk #[]) z)]]) (Out.pan (eP (errE z)) [PO.cells [PV.f (Lf.dt Sh.tm L),sV s]]))).fin true (PV.tup []) [PO.cells [PV.f (Lf.dt Sh.tm L),sV (keyS (Tw.mk (valE (Sh.tm.nil,Sh.tm.nil) z1).snd.kind (valE (Sh.tm.nil,Sh.tm.nil) z1).snd.name (valE (Sh.tm.nil,Sh.tm.nil) z1).snd.neg (valE (Sh.tm.nil,Sh.tm.nil) z1).snd.digits (valE (Sh.tm.nil,Sh.tm.nil) z1).snd.kids))],PO.cells [PV.f (Lf.v (Value.int IntKind.u8 (valE (Sh.tm.nil,Sh.tm.nil) z1).fst.kind)),sV ((valE (Sh.tm.nil,Sh.tm.nil) z1).fst.name),bV ((valE (Sh.tm.nil,Sh.tm.nil) z1).fst.neg),PV.f (Lf.lr (valE (Sh.tm.nil,Sh.tm.nil) z1).fst.digits (valE (Sh.tm.nil,Sh.tm.nil) z1).fst.digits.length),PV.f (Lf.dt Sh.tm (valE (Sh.tm.nil,Sh.tm.nil) z1).fst.kids)],PO.cells [PV.f (Lf.v (Value.int IntKind.u8 (valE (Sh.tm.nil,Sh.tm.nil) z1).snd.kind)),sV ((valE (Sh.tm.nil,Sh.tm.nil) z1).snd.name),bV ((valE (Sh.tm.nil,Sh.tm.nil) z1).snd.neg),PV.f (Lf.lr (valE (Sh.tm.nil,Sh.tm.nil) z1).snd.digits (valE (Sh.tm.nil,Sh.tm.nil) z1).snd.digits.length),PV.f (Lf.dt Sh.tm (valE (Sh.tm.nil,Sh.tm.nil) z1).snd.kids)]]) (ifB (s.toList==(keyS (Tw.mk (valE (Sh.tm.nil,Sh.tm.nil) z1).snd.kind (valE (Sh.tm.nil,Sh.tm.nil) z1).snd.name (valE (Sh.tm.nil,Sh.tm.nil) z1).snd.neg (valE (Sh.tm.nil,Sh.tm.nil) z1).snd.digits (valE (Sh.tm.nil,Sh.tm.nil) z1).snd.kids)).toList) (EndU 1 (Out.need (∀ (t:Sh.tm.T),t∈L→keyOk t) (Out.nm (Except Int ByteArray) (alongE L s n) fun (z:Except Int ByteArray)=>Out.br (okE z) (Out.ret (PV.tup []) [PO.cells [PV.f (Lf.dt Sh.tm L),sV (valE (ByteArray.mk #[]) z)]]) (Out.pan (eP (errE z)) [PO.cells [PV.f (Lf.dt Sh.tm L),sV s]]))).fin true (PV.tup []) [PO.cells [PV.f (Lf.dt Sh.tm L),sV (keyS (Tw.mk (valE (Sh.tm.nil,Sh.tm.nil) z1).fst.kind (valE (Sh.tm.nil,Sh.tm.nil) z1).fst.name (valE (Sh.tm.nil,Sh.tm.nil) z1).fst.neg (valE (Sh.tm.nil,Sh.tm.nil) z1).fst.digits (valE (Sh.tm.nil,Sh.tm.nil) z1).fst.kids))],PO.cells [PV.f (Lf.v (Value.int IntKind.u8 (valE (Sh.tm.nil,Sh.tm.nil) z1).fst.kind)),sV ((valE (Sh.tm.nil,Sh.tm.nil) z1).fst.name),bV ((valE (Sh.tm.nil,Sh.tm.nil) z1).fst.neg),PV.f (Lf.lr (valE (Sh.tm.nil,Sh.tm.nil) z1).fst.digits (valE (Sh.tm.nil,Sh.tm.nil) z1).fst.digits.length),PV.f (Lf.dt Sh.tm (valE (Sh.tm.nil,Sh.tm.nil) z1).fst.kids)],PO.cells [PV.f (Lf.v (Value.int IntKind.u8 (valE (Sh.tm.nil,Sh.tm.nil) z1).snd.kind)),sV ((valE (Sh.tm.nil,Sh.tm.nil) z1).snd.name),bV ((valE (Sh.tm.nil,Sh.tm.nil) z1).snd.neg),PV.f (Lf.lr (valE (Sh.tm.nil,Sh.tm.nil) z1).snd.digits (valE (Sh.tm.nil,Sh.tm.nil) z1).snd.digits.length),PV.f (Lf.dt Sh.tm (valE (Sh.tm.nil,Sh.tm.nil) z1).snd.kids)]]) (EndU 1 (Out.need (∀ (t:Sh.tm.T),t∈L→keyOk t) (Out.nm (Except Int ByteArray) (alongE L s n) fun (z:Except Int ByteArray)=>Out.br (okE z) (Out.ret (PV.tup []) [PO.cells [PV.f (Lf.dt Sh.tm L),sV (valE (ByteArray.mk #[]) z)]]) (Out.pan (eP (errE z)) [PO.cells [PV.f (Lf.dt Sh.tm L),sV s]]))).fin false (PV.ifc 32 (iV 31)) [PO.cells [PV.f (Lf.dt Sh.tm L),sV s],PO.cells [PV.f (Lf.v (Value.int IntKind.u8 (valE (Sh.tm.nil,Sh.tm.nil) z1).fst.kind)),sV ((valE (Sh.tm.nil,Sh.tm.nil) z1).fst.name),bV ((valE (Sh.tm.nil,Sh.tm.nil) z1).fst.neg),PV.f (Lf.lr (valE (Sh.tm.nil,Sh.tm.nil) z1).fst.digits (valE (Sh.tm.nil,Sh.tm.nil) z1).fst.digits.length),PV.f (Lf.dt Sh.tm (valE (Sh.tm.nil,Sh.tm.nil) z1).fst.kids)],PO.cells [PV.f (Lf.v (Value.int IntKind.u8 (valE (Sh.tm.nil,Sh.tm.nil) z1).snd.kind)),sV ((valE (Sh.tm.nil,Sh.tm.nil) z1).snd.name),bV ((valE (Sh.tm.nil,Sh.tm.nil) z1).snd.neg),PV.f (Lf.lr (valE (Sh.tm.nil,Sh.tm.nil) z1).snd.digits (valE (Sh.tm.nil,Sh.tm.nil) z1).snd.digits.length),PV.f (Lf.dt Sh.tm (valE (Sh.tm.nil,Sh.tm.nil) z1).snd.kids)]]))) (EndU 1 (Out.need (∀ (t:Sh.tm.T),t∈L→keyOk t) (Out.nm (Except Int ByteArray) (alongE L s n) fun (z:Except Int ByteArray)=>Out.br (okE z) (Out.ret (PV.tup []) [PO.cells [PV.f (Lf.dt Sh.tm L),sV (valE (ByteArray.mk #[]) z)]]) (Out.pan (eP (errE z)) [PO.cells [PV.f (Lf.dt Sh.tm L),sV s]]))).fin false (PV.ifc 32 (iV (errE z1))) [PO.cells [PV.f (Lf.dt Sh.tm L),sV s]])) ?kr ?_
   case kr=>kernel_rfl
   refine fun z1=>fun hz1=>ifB_iff.2 ⟨fun hb0=>⟨?s0,⟨?s1,ifB_iff.2 ⟨fun hb1=>?m0,fun hb1=>ifB_iff.2 ⟨fun hb2=>?m1,fun hb2=>?m2⟩⟩⟩⟩,fun hb0=>?m3⟩
   all_goals try simp only [Tw.eta,bs_l,decide_eq_true_eq,decide_eq_false_iff_not] at *
   case m3 =>
    obtain e | p:=z1
    · obtain ⟨rfl,h1⟩:=along_d (s:=s) hz1.symm
      exact endAl_no (along_no h1)
    · cases hb0
   all_goals obtain ⟨⟨a,b⟩,rfl⟩:=okE_ex hb0
   all_goals obtain ⟨h1,t,ht,ha,hb⟩:=edge_in hz1.symm
   case s0=>exact keyOk_kid (hL t ht) ha
   case s1=>exact keyOk_kid (hL t ht) hb
   case m0=>exact endAl_ok (along_ok (along_a h1 hb1))
   case m1=>exact endAl_ok (along_ok (along_b h1 hb1 hb2))
   case m2=>exact endAl_no (along_no (along_c h1 hb1 hb2))
 · cases hs
end Go.Proofs.YtdjnlgkpnjdchaaDoor
