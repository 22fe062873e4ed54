/- The law TermSubst: the sorts hold; the names that are met stood. -/
import Derived.Test.YtemhncjjiomppaaDoorKm
import Derived.Test.YtemhncjjiomppaaDoorUp
import Derived.Test.YtemhncjjiomppaaDoorCn
import Derived.Test.YtemhncjjiomppaaDoorNw
set_option linter.unusedSimpArgs false
namespace Go.Proofs.YtemhncjjiomppaaDoor
open Go.RowKit
set_option linter.unusedVariables false
set_option maxRecDepth 100000
def QhR:Spec
 | [.f x,.f y,u,v,.f z,.f w]=>match dtOf .dat x,dtOf .srt y,tmOf u,tmOf v,dtOf .str z,dtOf .tm w with
  | some D,some S,some t,some a,some l,some ts=>some (some ((t.fitT∧a.fitT∧∀ u∈ts,u.fitT)∧(∀ s∈l,ByteArray.size s≤4611686018427387904)∧a=Qac l ts t∧l.length≤ts.length),.one (bV true))
  | _,_,_,_,_,_=>none
 | _=>none
def Qcq (D:List Dat) (S:List Srt) (l:List ByteArray) (ts:List Tw) (i:Nat):Prop:=∀ j,j<i→∃ x,Qak D S (varN (l.getD j Sh.str.nil))=.ok x∧Qak D S (ts.getD j Sh.tm.nil)=.ok x
theorem QjQ {D:List Dat} {S:List Srt} {l:List ByteArray} {ts:List Tw}:Qcq D S l ts 0:=fun j hj=>absurd hj (Nat.not_lt_zero j)
theorem QjR {D:List Dat} {S:List Srt} {l:List ByteArray} {ts:List Tw} {i:Nat} (h:Qcq D S l ts i) {x:ByteArray} (hx:Qak D S (varN (l.getD i Sh.str.nil))=.ok x) (hy:Qak D S (ts.getD i Sh.tm.nil)=.ok x):Qcq D S l ts (i+1):=fun j hj=>by
 by_cases hji:j=i
 · subst hji; exact ⟨x,hx,hy⟩
 · exact h j (by omega)
theorem QkO {D:List Dat} {S:List Srt} {l:List ByteArray} {ts:List Tw} {i:Nat} {a t:Tw} {c:ByteArray} (ha:a=Qac l ts t) (h:Qcq D S l ts i) (hi:l.length≤i) (h7:Qak D S t=.ok c):Qak D S a=.ok c:=by
 rw [ha]
 exact Qfh (fun j h8 _=>h j (by omega)) t h7
theorem QkJ {L:List ByteArray} {i:Nat} (h:i<L.length):L.getD i Sh.str.nil∈L:=by
 rw [List.getD_eq_getElem?_getD,List.getElem?_eq_getElem h]
 exact List.getElem_mem _
theorem QiE {ts:List Tw} {i:Nat} (h:i<ts.length):ts.getD i Sh.tm.nil∈ts:=by
 rw [List.getD_eq_getElem?_getD,List.getElem?_eq_getElem h]
 exact List.getElem_mem _
theorem Qpg {E:Env} (hU:Up E):Contract Tryd.prog E 13 QhR:=by
 refine Qaq [(38,Qov),(10,sV4)] [] Tryd.ntmps13 Tryd.func13 (by kernel_rfl) (by kernel_rfl) hU ⟨cSort hU,cV4 hU,trivial⟩ trivial ?_
 intro xs p r hs hp
 unfold QhR at hs
 split at hs
 · rename_i x y u v z w
   split at hs
   · rename_i D S t a l ts h1 h2 h3 h4 h5 h6
     cases hs
     obtain ⟨⟨ft,fa,fts⟩,hns,ha,hl⟩:=hp _ rfl
     refine ⟨[.f (.dt .dat D),.f (.dt .srt S),tmP t,tmP a,.f (.dt .str l),.f (.dt .tm ts)],[(5,.s ⟨Nat,fun i=>⟨[(0,.f (.dt .dat D)),(1,.f (.dt .srt S)),(4,.f (.dt .str l)),(5,.f (.dt .tm ts)),(9,.bp 1 0),(13,sV (valE ⟨#[]⟩ (Qak D S t))),(15,iV i)],[.cells (Qad (tmC t)),.cells (Qad (tmC a))]⟩,fun i=>i≤l.length∧Qcq D S l ts i,fun i=>l.length - i⟩)],.cons (Qbt h1).sub (.cons (Qbt h2).sub (.cons (QaK h3).sub (.cons (QaK h4).sub (.cons (Qbt h5).sub (.cons (Qbt h6).sub .nil))))),rfl,fun _ hsh=>?_⟩
     have hSl:=QaE hsh.2.2.2.2.1
     refine Qag (p:=(Tw.mk t.kind t.name t.neg t.digits t.kids).fitT∧∀ (z1:Except Int ByteArray),z1=Qak D S (Tw.mk t.kind t.name t.neg t.digits t.kids)→ifB (errE z1 != (0:Int)) (true=true∧Sub (bV true) (bV true)) (∃ (x2:Nat),(((SubB (PV.f (Lf.v (Value.int IntKind.u8 t.kind))) (PV.f (Lf.v (Value.int IntKind.u8 t.kind)))∧SubB (sV t.name) (sV t.name)∧SubB (bV t.neg) (bV t.neg)∧SubB (PV.f (Lf.lr t.digits t.digits.length)) (PV.f (Lf.lr t.digits t.digits.length))∧SubB (PV.f (Lf.dt Sh.tm t.kids)) (PV.f (Lf.dt Sh.tm t.kids))∧True)∧(SubB (PV.f (Lf.v (Value.int IntKind.u8 a.kind))) (PV.f (Lf.v (Value.int IntKind.u8 a.kind)))∧SubB (sV a.name) (sV a.name)∧SubB (bV a.neg) (bV a.neg)∧SubB (PV.f (Lf.lr a.digits a.digits.length)) (PV.f (Lf.lr a.digits a.digits.length))∧SubB (PV.f (Lf.dt Sh.tm a.kids)) (PV.f (Lf.dt Sh.tm a.kids))∧True)∧True)∧SubB (PV.f (Lf.dt Sh.dat D)) (PV.f (Lf.dt Sh.dat D))∧SubB (PV.f (Lf.dt Sh.srt S)) (PV.f (Lf.dt Sh.srt S))∧SubB (PV.f (Lf.dt Sh.str l)) (PV.f (Lf.dt Sh.str l))∧SubB (PV.f (Lf.dt Sh.tm ts)) (PV.f (Lf.dt Sh.tm ts))∧SubB (PV.bp 1 0) (PV.bp 1 0)∧SubB (sV (valE (ByteArray.mk #[]) z1)) (sV (valE (ByteArray.mk #[]) (Qak D S t)))∧SubB (iV 0) (iV (↑x2:Int))∧True)∧(x2≤l.length∧Qcq D S l ts x2)∧True∧∀ (z3:Nat),z3≤l.length∧Qcq D S l ts z3→True→ifB (decide ((↑z3:Int)<(↑l.length:Int))) (((0:Int)≤(↑z3:Int)∧(↑z3:Int)<(↑l.length:Int))∧(Tw.mk (varN (l.getD (↑z3:Int).toNat Sh.str.nil)).kind (varN (l.getD (↑z3:Int).toNat Sh.str.nil)).name (varN (l.getD (↑z3:Int).toNat Sh.str.nil)).neg (varN (l.getD (↑z3:Int).toNat Sh.str.nil)).digits (varN (l.getD (↑z3:Int).toNat Sh.str.nil)).kids).fitT∧∀ (z4:Except Int ByteArray),z4=Qak D S (Tw.mk (varN (l.getD (↑z3:Int).toNat Sh.str.nil)).kind (varN (l.getD (↑z3:Int).toNat Sh.str.nil)).name (varN (l.getD (↑z3:Int).toNat Sh.str.nil)).neg (varN (l.getD (↑z3:Int).toNat Sh.str.nil)).digits (varN (l.getD (↑z3:Int).toNat Sh.str.nil)).kids)→((0:Int)≤(↑z3:Int)∧(↑z3:Int)<(↑ts.length:Int))∧(Tw.mk (Tw.kind (ts.getD (↑z3:Int).toNat Sh.tm.nil)) (Tw.name (ts.getD (↑z3:Int).toNat Sh.tm.nil)) (Tw.neg (ts.getD (↑z3:Int).toNat Sh.tm.nil)) (Tw.digits (ts.getD (↑z3:Int).toNat Sh.tm.nil)) (Tw.kids (ts.getD (↑z3:Int).toNat Sh.tm.nil))).fitT∧∀ (z5:Except Int ByteArray),z5=Qak D S (Tw.mk (Tw.kind (ts.getD (↑z3:Int).toNat Sh.tm.nil)) (Tw.name (ts.getD (↑z3:Int).toNat Sh.tm.nil)) (Tw.neg (ts.getD (↑z3:Int).toNat Sh.tm.nil)) (Tw.digits (ts.getD (↑z3:Int).toNat Sh.tm.nil)) (Tw.kids (ts.getD (↑z3:Int).toNat Sh.tm.nil)))→ifB (errE z4 != (0:Int)) (true=true∧Sub (bV true) (bV true)) (ifB (errE z5 != (0:Int)) (true=true∧Sub (bV true) (bV true)) (ifB (!(valE (ByteArray.mk #[]) z4).toList==(valE (ByteArray.mk #[]) z5).toList) (true=true∧Sub (bV true) (bV true)) (∃ (x6:Nat),(((SubB (PV.f (Lf.v (Value.int IntKind.u8 t.kind))) (PV.f (Lf.v (Value.int IntKind.u8 t.kind)))∧SubB (sV t.name) (sV t.name)∧SubB (bV t.neg) (bV t.neg)∧SubB (PV.f (Lf.lr t.digits t.digits.length)) (PV.f (Lf.lr t.digits t.digits.length))∧SubB (PV.f (Lf.dt Sh.tm t.kids)) (PV.f (Lf.dt Sh.tm t.kids))∧True)∧(SubB (PV.f (Lf.v (Value.int IntKind.u8 a.kind))) (PV.f (Lf.v (Value.int IntKind.u8 a.kind)))∧SubB (sV a.name) (sV a.name)∧SubB (bV a.neg) (bV a.neg)∧SubB (PV.f (Lf.lr a.digits a.digits.length)) (PV.f (Lf.lr a.digits a.digits.length))∧SubB (PV.f (Lf.dt Sh.tm a.kids)) (PV.f (Lf.dt Sh.tm a.kids))∧True)∧True)∧SubB (PV.f (Lf.dt Sh.dat D)) (PV.f (Lf.dt Sh.dat D))∧SubB (PV.f (Lf.dt Sh.srt S)) (PV.f (Lf.dt Sh.srt S))∧SubB (PV.f (Lf.dt Sh.str l)) (PV.f (Lf.dt Sh.str l))∧SubB (PV.f (Lf.dt Sh.tm ts)) (PV.f (Lf.dt Sh.tm ts))∧SubB (PV.bp 1 0) (PV.bp 1 0)∧SubB (sV (valE (ByteArray.mk #[]) (Qak D S t))) (sV (valE (ByteArray.mk #[]) (Qak D S t)))∧SubB (iV (IntKind.i64.wrap ((↑z3:Int)+(1:Int)))) (iV (↑x6:Int))∧True)∧(x6≤l.length∧Qcq D S l ts x6)∧True∧(l.length - x6).succ.le (l.length - z3))))) ((Tw.mk a.kind a.name a.neg a.digits a.kids).fitT∧∀ (z4:Except Int ByteArray),z4=Qak D S (Tw.mk a.kind a.name a.neg a.digits a.kids)→ifB (errE z4==(0:Int)) (true=true∧Sub (bV ((valE (ByteArray.mk #[]) z4).toList==(valE (ByteArray.mk #[]) (Qak D S t)).toList)) (bV true)) (true=true∧Sub (bV false) (bV true))))) ?kr ?_
     case kr=>kernel_rfl
     refine ⟨?s0,fun z1=>fun hz1=>Qaa.2 ⟨fun hb0=>⟨rfl,?m0⟩,fun hb0=>⟨?x0,⟨⟨⟨⟨.refl _,⟨.refl _,⟨.refl _,⟨.refl _,⟨.refl _,trivial⟩⟩⟩⟩⟩,⟨⟨.refl _,⟨.refl _,⟨.refl _,⟨.refl _,⟨.refl _,trivial⟩⟩⟩⟩⟩,trivial⟩⟩,⟨.refl _,⟨.refl _,⟨.refl _,⟨.refl _,⟨.refl _,⟨?m1,⟨?m2,trivial⟩⟩⟩⟩⟩⟩⟩⟩,⟨?s1,⟨trivial,fun z3=>fun hq1=>fun _=>Qaa.2 ⟨fun hb2=>⟨?s2,⟨?s3,fun z4=>fun hz4=>⟨?s4,⟨?s5,fun z5=>fun hz5=>Qaa.2 ⟨fun hb3=>⟨rfl,?m3⟩,fun hb3=>Qaa.2 ⟨fun hb4=>⟨rfl,?m4⟩,fun hb4=>Qaa.2 ⟨fun hb5=>⟨rfl,?m5⟩,fun hb5=>⟨?x1,⟨⟨⟨⟨.refl _,⟨.refl _,⟨.refl _,⟨.refl _,⟨.refl _,trivial⟩⟩⟩⟩⟩,⟨⟨.refl _,⟨.refl _,⟨.refl _,⟨.refl _,⟨.refl _,trivial⟩⟩⟩⟩⟩,trivial⟩⟩,⟨.refl _,⟨.refl _,⟨.refl _,⟨.refl _,⟨.refl _,⟨.refl _,⟨?m6,trivial⟩⟩⟩⟩⟩⟩⟩⟩,⟨?s6,⟨trivial,?m7⟩⟩⟩⟩⟩⟩⟩⟩⟩⟩⟩,fun hb2=>⟨?s7,fun z4=>fun hz4=>Qaa.2 ⟨fun hb6=>⟨rfl,?m8⟩,fun hb6=>⟨rfl,?m9⟩⟩⟩⟩⟩⟩⟩⟩⟩⟩
     case x0=>exact 0
     case x1=>exact z3+1
     all_goals try simp only [Tw.eta,Int.toNat_natCast,decide_eq_true_eq,decide_eq_false_iff_not,Int.ofNat_lt,bne_iff_ne,ne_eq,bne_eq_false_iff_eq,beq_iff_eq,beq_eq_false_iff_ne,Bool.not_eq_false',bs_l] at *
     case s0=>exact ft
     case m0=>exact .refl _
     case m1=>subst hz1; exact .refl _
     case m2=>exact .refl _
     case s1=>exact ⟨Nat.zero_le _,QjQ⟩
     case s2=>omega
     case s3=>exact QbL (hns _ (QkJ hb2))
     case s4=>omega
     case s5=>exact fts _ (QiE (by omega))
     case m3=>exact .refl _
     case m4=>exact .refl _
     case m5=>exact .refl _
     case m6=>exact Qao (by rw [wJ _ (by omega) (by omega)]; rfl)
     case s6 =>
      obtain ⟨c,h7,rfl⟩:=Qej hz4 hb3
      obtain ⟨d,h8,rfl⟩:=Qej hz5 hb4
      have e:c=d:=hb5
      subst e
      exact ⟨hb2,QjR hq1.2 h7 h8⟩
     case m7=>exact (by omega:l.length - (z3+1)<l.length - z3)
     case s7=>exact fa
     all_goals obtain ⟨c,h7,rfl⟩:=Qej hz1 hb0
     all_goals have hs7:=QkO ha hq1.2 (by omega) h7
     case m8 =>
      refine (QaI (decide_eq_true ?_)).sub
      rw [hz4,hs7,h7]
     case m9=>exact absurd (by rw [hz4,hs7]; rfl) hb6
   · cases hs
 · cases hs
noncomputable def met0 (t:Tw) (n:Nat):ByteArray→Option Bool:=putSt (fun _=>none) ((Qah (Qab t)).take n) true
noncomputable def met1 (t:Tw) (l:List ByteArray) (n:Nat):ByteArray→Option Bool:=putSt (putSt (fun _=>none) (Qah (Qab t)) true) (l.take n) false
noncomputable def met2 (t:Tw) (l:List ByteArray) (ts:List Tw) (n:Nat):ByteArray→Option Bool:=putTs (putSt (putSt (fun _=>none) (Qah (Qab t)) true) l false) ts n
noncomputable def met3 (t:Tw) (l:List ByteArray) (ts:List Tw) (i n:Nat):ByteArray→Option Bool:=putSt (met2 t l ts i) ((Qah (Qab (ts.getD i Sh.tm.nil))).take n) true
theorem QoK {a t:Tw} {l:List ByteArray} {ts:List Tw} {x:ByteArray} (ha:a=Qac l ts t) (hl:l.length≤ts.length) (hx:x∈Qah (Qab a)):met2 t l ts l.length x=some true:=by
 have h:=Qc5.1 hx
 rw [ha] at h
 refine QiY ?_
 rcases Qee t h with ⟨i,h1,h2,h3⟩ | ⟨h1,h2⟩
 · exact .inr ⟨i,h1,h3⟩
 · refine .inl ?_
   rw [putSt,if_neg,putSt,if_pos (Qc5.2 h1)]
   intro hc
   obtain ⟨i,hi,he⟩:=List.getElem_of_mem hc
   exact h2 i hi (by omega) (by rw [List.getD_eq_getElem?_getD,List.getElem?_eq_getElem hi]; exact he)
theorem met_01 {t:Tw} {l:List ByteArray} {n:Nat} (h:(Qah (Qab t)).length≤n):met1 t l 0=met0 t n:=by
 unfold met0 met1
 rw [List.take_of_length_le h]
 exact QcZ _ _
theorem met_12 {t:Tw} {l:List ByteArray} {ts:List Tw} {n:Nat} (h:l.length≤n):met1 t l n=met2 t l ts 0:=by
 unfold met1
 rw [List.take_of_length_le h]
 rfl
theorem met_23 (t:Tw) (l:List ByteArray) (ts:List Tw) (n:Nat):met2 t l ts n=met3 t l ts n 0:=(QcZ _ _).symm
theorem met_32 {t:Tw} {l:List ByteArray} {ts:List Tw} {i n:Nat} (h:(Qah (Qab (ts.getD i Sh.tm.nil))).length≤n):met3 t l ts i n=met2 t l ts (i+1):=by
 unfold met3
 rw [List.take_of_length_le h]
 rfl
def QoA:Spec
 | [u,v,.f z,.f w]=>match tmOf u,tmOf v,dtOf .str z,dtOf .tm w with
  | some a,some t,some l,some ts=>some (some ((t.fitT∧a.fitT∧∀ u∈ts,u.fitT)∧(t.size≤100000000∧a.size≤100000000∧∀ u∈ts,Tw.size u≤100000000)∧a=Qac l ts t∧l.length≤ts.length),.one (bV true))
  | _,_,_,_=>none
 | _=>none
theorem cMet4 {E:Env} (hU:Up E):Contract Tryd.prog E 14 QoA:=by
 refine Qaq [(11,QmN)] [] Tryd.ntmps14 Tryd.func14 (by kernel_rfl) (by kernel_rfl) hU ⟨cFree hU,trivial⟩ trivial ?_
 intro xs p r hs hp
 unfold QoA at hs
 split at hs
 · rename_i u v z w
   split at hs
   · rename_i a t l ts h1 h2 h3 h4
     cases hs
     obtain ⟨⟨ft,fa,fts⟩,⟨zt,za,zts⟩,ha,hl⟩:=hp _ rfl
     refine ⟨[tmP a,tmP t,.f (.dt .str l),.f (.dt .tm ts)],[
      (4,.s ⟨Nat,fun i=>⟨[(2,.f (.dt .str l)),(3,.f (.dt .tm ts)),(4,.bp 0 0),(9,.wr 2),(10,.f (.dt .str (Qah (Qab t)))),(11,iV i)],[.cells (Qad (tmC a)),.cells (Qad (tmC t)),.map .str (hasF (met0 t i)) (getF (met0 t i)) [] []]⟩,fun i=>i≤(Qah (Qab t)).length,fun i=>(Qah (Qab t)).length - i⟩),
      (8,.s ⟨Nat,fun i=>⟨[(2,.f (.dt .str l)),(3,.f (.dt .tm ts)),(4,.bp 0 0),(9,.wr 2),(12,iV i)],[.cells (Qad (tmC a)),.cells (Qad (tmC t)),.map .str (hasF (met1 t l i)) (getF (met1 t l i)) [] []]⟩,fun i=>i≤l.length,fun i=>l.length - i⟩),
      (12,.s ⟨Nat,fun i=>⟨[(2,.f (.dt .str l)),(3,.f (.dt .tm ts)),(4,.bp 0 0),(9,.wr 2),(13,iV i)],[.cells (Qad (tmC a)),.cells (Qad (tmC t)),.map .str (hasF (met2 t l ts i)) (getF (met2 t l ts i)) [] []]⟩,fun i=>i≤l.length,fun i=>l.length - i⟩),
      (16,⟨Nat × Nat,fun q=>⟨[(2,.f (.dt .str l)),(3,.f (.dt .tm ts)),(4,.bp 0 0),(9,.wr 2),(13,iV q.1),(14,.f (.dt .str (Qah (Qab (ts.getD q.1 Sh.tm.nil))))),(15,iV q.2)],[.cells (Qad (tmC a)),.cells (Qad (tmC t)),.map .str (hasF (met3 t l ts q.1 q.2)) (getF (met3 t l ts q.1 q.2)) [] []]⟩,fun q=>q.1<l.length∧q.2≤(Qah (Qab (ts.getD q.1 Sh.tm.nil))).length,fun q=>(Qah (Qab (ts.getD q.1 Sh.tm.nil))).length - q.2,fun x y=>y.1=x.1⟩),
      (21,.s ⟨Nat,fun i=>⟨[(9,.wr 2),(16,.f (.dt .str (Qah (Qab a)))),(17,iV i)],[.cells (Qad (tmC a)),.cells (Qad (tmC t)),.map .str (hasF (met2 t l ts l.length)) (getF (met2 t l ts l.length)) [] []]⟩,fun i=>i≤(Qah (Qab a)).length,fun i=>(Qah (Qab a)).length - i⟩)],.cons (QaK h1).sub (.cons (QaK h2).sub (.cons (Qbt h3).sub (.cons (Qbt h4).sub .nil))),rfl,fun _ hsh=>?_⟩
     have hSl:=QaE hsh.2.2.1
     refine Qag (p:=((Tw.mk t.kind t.name t.neg t.digits t.kids).fitT∧(Tw.mk t.kind t.name t.neg t.digits t.kids).size≤100000000)∧∃ (x1:Nat),(((SubB (PV.f (Lf.v (Value.int IntKind.u8 a.kind))) (PV.f (Lf.v (Value.int IntKind.u8 a.kind)))∧SubB (sV a.name) (sV a.name)∧SubB (bV a.neg) (bV a.neg)∧SubB (PV.f (Lf.lr a.digits a.digits.length)) (PV.f (Lf.lr a.digits a.digits.length))∧SubB (PV.f (Lf.dt Sh.tm a.kids)) (PV.f (Lf.dt Sh.tm a.kids))∧True)∧(SubB (PV.f (Lf.v (Value.int IntKind.u8 t.kind))) (PV.f (Lf.v (Value.int IntKind.u8 t.kind)))∧SubB (sV t.name) (sV t.name)∧SubB (bV t.neg) (bV t.neg)∧SubB (PV.f (Lf.lr t.digits t.digits.length)) (PV.f (Lf.lr t.digits t.digits.length))∧SubB (PV.f (Lf.dt Sh.tm t.kids)) (PV.f (Lf.dt Sh.tm t.kids))∧True)∧MapW Kt.str (fun (x:Kt.str.T)=>false) (fun (x:Kt.str.T)=>[]) [] [] Kt.str (fun (s:Kt.str.T)=>(met0 t x1 s).isSome) (fun (s:Kt.str.T)=>[Lf.v (Value.bool ((met0 t x1 s).getD false))]) [] []∧True)∧SubB (PV.f (Lf.dt Sh.str l)) (PV.f (Lf.dt Sh.str l))∧SubB (PV.f (Lf.dt Sh.tm ts)) (PV.f (Lf.dt Sh.tm ts))∧SubB (PV.bp 0 0) (PV.bp 0 0)∧SubB (PV.wr 2) (PV.wr 2)∧SubB (PV.f (Lf.dt Sh.str (Qah (Qab (Tw.mk t.kind t.name t.neg t.digits t.kids))))) (PV.f (Lf.dt Sh.str (Qah (Qab t))))∧SubB (iV 0) (iV (↑x1:Int))∧True)∧x1≤(Qah (Qab t)).length∧True∧∀ (z2:Nat),z2≤(Qah (Qab t)).length→True→ifB (decide ((↑z2:Int)<(↑(Qah (Qab t)).length:Int))) (((0:Int)≤(↑z2:Int)∧(↑z2:Int)<(↑(Qah (Qab t)).length:Int))∧∃ (x3:Nat),(((SubB (PV.f (Lf.v (Value.int IntKind.u8 a.kind))) (PV.f (Lf.v (Value.int IntKind.u8 a.kind)))∧SubB (sV a.name) (sV a.name)∧SubB (bV a.neg) (bV a.neg)∧SubB (PV.f (Lf.lr a.digits a.digits.length)) (PV.f (Lf.lr a.digits a.digits.length))∧SubB (PV.f (Lf.dt Sh.tm a.kids)) (PV.f (Lf.dt Sh.tm a.kids))∧True)∧(SubB (PV.f (Lf.v (Value.int IntKind.u8 t.kind))) (PV.f (Lf.v (Value.int IntKind.u8 t.kind)))∧SubB (sV t.name) (sV t.name)∧SubB (bV t.neg) (bV t.neg)∧SubB (PV.f (Lf.lr t.digits t.digits.length)) (PV.f (Lf.lr t.digits t.digits.length))∧SubB (PV.f (Lf.dt Sh.tm t.kids)) (PV.f (Lf.dt Sh.tm t.kids))∧True)∧MapW Kt.str (fun (s:Kt.str.T)=>(met0 t z2 s).isSome) (fun (s:Kt.str.T)=>[Lf.v (Value.bool ((met0 t z2 s).getD false))]) [(Qah (Qab t)).getD (↑z2:Int).toNat Sh.str.nil] [bV true] Kt.str (fun (s:Kt.str.T)=>(met0 t x3 s).isSome) (fun (s:Kt.str.T)=>[Lf.v (Value.bool ((met0 t x3 s).getD false))]) [] []∧True)∧SubB (PV.f (Lf.dt Sh.str l)) (PV.f (Lf.dt Sh.str l))∧SubB (PV.f (Lf.dt Sh.tm ts)) (PV.f (Lf.dt Sh.tm ts))∧SubB (PV.bp 0 0) (PV.bp 0 0)∧SubB (PV.wr 2) (PV.wr 2)∧SubB (PV.f (Lf.dt Sh.str (Qah (Qab t)))) (PV.f (Lf.dt Sh.str (Qah (Qab t))))∧SubB (iV (IntKind.i64.wrap ((↑z2:Int)+(1:Int)))) (iV (↑x3:Int))∧True)∧x3≤(Qah (Qab t)).length∧True∧((Qah (Qab t)).length - x3).succ.le ((Qah (Qab t)).length - z2)) (∃ (x3:Nat),(((SubB (PV.f (Lf.v (Value.int IntKind.u8 a.kind))) (PV.f (Lf.v (Value.int IntKind.u8 a.kind)))∧SubB (sV a.name) (sV a.name)∧SubB (bV a.neg) (bV a.neg)∧SubB (PV.f (Lf.lr a.digits a.digits.length)) (PV.f (Lf.lr a.digits a.digits.length))∧SubB (PV.f (Lf.dt Sh.tm a.kids)) (PV.f (Lf.dt Sh.tm a.kids))∧True)∧(SubB (PV.f (Lf.v (Value.int IntKind.u8 t.kind))) (PV.f (Lf.v (Value.int IntKind.u8 t.kind)))∧SubB (sV t.name) (sV t.name)∧SubB (bV t.neg) (bV t.neg)∧SubB (PV.f (Lf.lr t.digits t.digits.length)) (PV.f (Lf.lr t.digits t.digits.length))∧SubB (PV.f (Lf.dt Sh.tm t.kids)) (PV.f (Lf.dt Sh.tm t.kids))∧True)∧MapW Kt.str (fun (s:Kt.str.T)=>(met0 t z2 s).isSome) (fun (s:Kt.str.T)=>[Lf.v (Value.bool ((met0 t z2 s).getD false))]) [] [] Kt.str (fun (s:Kt.str.T)=>(met1 t l x3 s).isSome) (fun (s:Kt.str.T)=>[Lf.v (Value.bool ((met1 t l x3 s).getD false))]) [] []∧True)∧SubB (PV.f (Lf.dt Sh.str l)) (PV.f (Lf.dt Sh.str l))∧SubB (PV.f (Lf.dt Sh.tm ts)) (PV.f (Lf.dt Sh.tm ts))∧SubB (PV.bp 0 0) (PV.bp 0 0)∧SubB (PV.wr 2) (PV.wr 2)∧SubB (iV 0) (iV (↑x3:Int))∧True)∧x3≤l.length∧True∧∀ (z4:Nat),z4≤l.length→True→ifB (decide ((↑z4:Int)<(↑l.length:Int))) (((0:Int)≤(↑z4:Int)∧(↑z4:Int)<(↑l.length:Int))∧∃ (x5:Nat),(((SubB (PV.f (Lf.v (Value.int IntKind.u8 a.kind))) (PV.f (Lf.v (Value.int IntKind.u8 a.kind)))∧SubB (sV a.name) (sV a.name)∧SubB (bV a.neg) (bV a.neg)∧SubB (PV.f (Lf.lr a.digits a.digits.length)) (PV.f (Lf.lr a.digits a.digits.length))∧SubB (PV.f (Lf.dt Sh.tm a.kids)) (PV.f (Lf.dt Sh.tm a.kids))∧True)∧(SubB (PV.f (Lf.v (Value.int IntKind.u8 t.kind))) (PV.f (Lf.v (Value.int IntKind.u8 t.kind)))∧SubB (sV t.name) (sV t.name)∧SubB (bV t.neg) (bV t.neg)∧SubB (PV.f (Lf.lr t.digits t.digits.length)) (PV.f (Lf.lr t.digits t.digits.length))∧SubB (PV.f (Lf.dt Sh.tm t.kids)) (PV.f (Lf.dt Sh.tm t.kids))∧True)∧MapW Kt.str (fun (s:Kt.str.T)=>(met1 t l z4 s).isSome) (fun (s:Kt.str.T)=>[Lf.v (Value.bool ((met1 t l z4 s).getD false))]) [l.getD (↑z4:Int).toNat Sh.str.nil] [bV false] Kt.str (fun (s:Kt.str.T)=>(met1 t l x5 s).isSome) (fun (s:Kt.str.T)=>[Lf.v (Value.bool ((met1 t l x5 s).getD false))]) [] []∧True)∧SubB (PV.f (Lf.dt Sh.str l)) (PV.f (Lf.dt Sh.str l))∧SubB (PV.f (Lf.dt Sh.tm ts)) (PV.f (Lf.dt Sh.tm ts))∧SubB (PV.bp 0 0) (PV.bp 0 0)∧SubB (PV.wr 2) (PV.wr 2)∧SubB (iV (IntKind.i64.wrap ((↑z4:Int)+(1:Int)))) (iV (↑x5:Int))∧True)∧x5≤l.length∧True∧(l.length - x5).succ.le (l.length - z4)) (∃ (x5:Nat),(((SubB (PV.f (Lf.v (Value.int IntKind.u8 a.kind))) (PV.f (Lf.v (Value.int IntKind.u8 a.kind)))∧SubB (sV a.name) (sV a.name)∧SubB (bV a.neg) (bV a.neg)∧SubB (PV.f (Lf.lr a.digits a.digits.length)) (PV.f (Lf.lr a.digits a.digits.length))∧SubB (PV.f (Lf.dt Sh.tm a.kids)) (PV.f (Lf.dt Sh.tm a.kids))∧True)∧(SubB (PV.f (Lf.v (Value.int IntKind.u8 t.kind))) (PV.f (Lf.v (Value.int IntKind.u8 t.kind)))∧SubB (sV t.name) (sV t.name)∧SubB (bV t.neg) (bV t.neg)∧SubB (PV.f (Lf.lr t.digits t.digits.length)) (PV.f (Lf.lr t.digits t.digits.length))∧SubB (PV.f (Lf.dt Sh.tm t.kids)) (PV.f (Lf.dt Sh.tm t.kids))∧True)∧MapW Kt.str (fun (s:Kt.str.T)=>(met1 t l z4 s).isSome) (fun (s:Kt.str.T)=>[Lf.v (Value.bool ((met1 t l z4 s).getD false))]) [] [] Kt.str (fun (s:Kt.str.T)=>(met2 t l ts x5 s).isSome) (fun (s:Kt.str.T)=>[Lf.v (Value.bool ((met2 t l ts x5 s).getD false))]) [] []∧True)∧SubB (PV.f (Lf.dt Sh.str l)) (PV.f (Lf.dt Sh.str l))∧SubB (PV.f (Lf.dt Sh.tm ts)) (PV.f (Lf.dt Sh.tm ts))∧SubB (PV.bp 0 0) (PV.bp 0 0)∧SubB (PV.wr 2) (PV.wr 2)∧SubB (iV 0) (iV (↑x5:Int))∧True)∧x5≤l.length∧True∧∀ (z6:Nat),z6≤l.length→True→ifB (decide ((↑z6:Int)<(↑l.length:Int))) (((0:Int)≤(↑z6:Int)∧(↑z6:Int)<(↑ts.length:Int))∧((Tw.mk (Tw.kind (ts.getD (↑z6:Int).toNat Sh.tm.nil)) (Tw.name (ts.getD (↑z6:Int).toNat Sh.tm.nil)) (Tw.neg (ts.getD (↑z6:Int).toNat Sh.tm.nil)) (Tw.digits (ts.getD (↑z6:Int).toNat Sh.tm.nil)) (Tw.kids (ts.getD (↑z6:Int).toNat Sh.tm.nil))).fitT∧(Tw.mk (Tw.kind (ts.getD (↑z6:Int).toNat Sh.tm.nil)) (Tw.name (ts.getD (↑z6:Int).toNat Sh.tm.nil)) (Tw.neg (ts.getD (↑z6:Int).toNat Sh.tm.nil)) (Tw.digits (ts.getD (↑z6:Int).toNat Sh.tm.nil)) (Tw.kids (ts.getD (↑z6:Int).toNat Sh.tm.nil))).size≤100000000)∧∃ (x7:Nat × Nat),(((SubB (PV.f (Lf.v (Value.int IntKind.u8 a.kind))) (PV.f (Lf.v (Value.int IntKind.u8 a.kind)))∧SubB (sV a.name) (sV a.name)∧SubB (bV a.neg) (bV a.neg)∧SubB (PV.f (Lf.lr a.digits a.digits.length)) (PV.f (Lf.lr a.digits a.digits.length))∧SubB (PV.f (Lf.dt Sh.tm a.kids)) (PV.f (Lf.dt Sh.tm a.kids))∧True)∧(SubB (PV.f (Lf.v (Value.int IntKind.u8 t.kind))) (PV.f (Lf.v (Value.int IntKind.u8 t.kind)))∧SubB (sV t.name) (sV t.name)∧SubB (bV t.neg) (bV t.neg)∧SubB (PV.f (Lf.lr t.digits t.digits.length)) (PV.f (Lf.lr t.digits t.digits.length))∧SubB (PV.f (Lf.dt Sh.tm t.kids)) (PV.f (Lf.dt Sh.tm t.kids))∧True)∧MapW Kt.str (fun (s:Kt.str.T)=>(met2 t l ts z6 s).isSome) (fun (s:Kt.str.T)=>[Lf.v (Value.bool ((met2 t l ts z6 s).getD false))]) [] [] Kt.str (fun (s:Kt.str.T)=>(met3 t l ts x7.fst x7.snd s).isSome) (fun (s:Kt.str.T)=>[Lf.v (Value.bool ((met3 t l ts x7.fst x7.snd s).getD false))]) [] []∧True)∧SubB (PV.f (Lf.dt Sh.str l)) (PV.f (Lf.dt Sh.str l))∧SubB (PV.f (Lf.dt Sh.tm ts)) (PV.f (Lf.dt Sh.tm ts))∧SubB (PV.bp 0 0) (PV.bp 0 0)∧SubB (PV.wr 2) (PV.wr 2)∧SubB (iV (↑z6:Int)) (iV (↑x7.fst:Int))∧SubB (PV.f (Lf.dt Sh.str (Qah (Qab (Tw.mk (Tw.kind (ts.getD (↑z6:Int).toNat Sh.tm.nil)) (Tw.name (ts.getD (↑z6:Int).toNat Sh.tm.nil)) (Tw.neg (ts.getD (↑z6:Int).toNat Sh.tm.nil)) (Tw.digits (ts.getD (↑z6:Int).toNat Sh.tm.nil)) (Tw.kids (ts.getD (↑z6:Int).toNat Sh.tm.nil))))))) (PV.f (Lf.dt Sh.str (Qah (Qab (ts.getD x7.fst Sh.tm.nil)))))∧SubB (iV 0) (iV (↑x7.snd:Int))∧True)∧(x7.fst<l.length∧x7.snd≤(Qah (Qab (ts.getD x7.fst Sh.tm.nil))).length)∧x7.fst=x7.fst∧∀ (z8:Nat × Nat),z8.fst<l.length∧z8.snd≤(Qah (Qab (ts.getD z8.fst Sh.tm.nil))).length→z8.fst=x7.fst→ifB (decide ((↑z8.snd:Int)<(↑(Qah (Qab (ts.getD z8.fst Sh.tm.nil))).length:Int))) (((0:Int)≤(↑z8.snd:Int)∧(↑z8.snd:Int)<(↑(Qah (Qab (ts.getD z8.fst Sh.tm.nil))).length:Int))∧∃ (x9:Nat × Nat),(((SubB (PV.f (Lf.v (Value.int IntKind.u8 a.kind))) (PV.f (Lf.v (Value.int IntKind.u8 a.kind)))∧SubB (sV a.name) (sV a.name)∧SubB (bV a.neg) (bV a.neg)∧SubB (PV.f (Lf.lr a.digits a.digits.length)) (PV.f (Lf.lr a.digits a.digits.length))∧SubB (PV.f (Lf.dt Sh.tm a.kids)) (PV.f (Lf.dt Sh.tm a.kids))∧True)∧(SubB (PV.f (Lf.v (Value.int IntKind.u8 t.kind))) (PV.f (Lf.v (Value.int IntKind.u8 t.kind)))∧SubB (sV t.name) (sV t.name)∧SubB (bV t.neg) (bV t.neg)∧SubB (PV.f (Lf.lr t.digits t.digits.length)) (PV.f (Lf.lr t.digits t.digits.length))∧SubB (PV.f (Lf.dt Sh.tm t.kids)) (PV.f (Lf.dt Sh.tm t.kids))∧True)∧MapW Kt.str (fun (s:Kt.str.T)=>(met3 t l ts z8.fst z8.snd s).isSome) (fun (s:Kt.str.T)=>[Lf.v (Value.bool ((met3 t l ts z8.fst z8.snd s).getD false))]) [(Qah (Qab (ts.getD z8.fst Sh.tm.nil))).getD (↑z8.snd:Int).toNat Sh.str.nil] [bV true] Kt.str (fun (s:Kt.str.T)=>(met3 t l ts x9.fst x9.snd s).isSome) (fun (s:Kt.str.T)=>[Lf.v (Value.bool ((met3 t l ts x9.fst x9.snd s).getD false))]) [] []∧True)∧SubB (PV.f (Lf.dt Sh.str l)) (PV.f (Lf.dt Sh.str l))∧SubB (PV.f (Lf.dt Sh.tm ts)) (PV.f (Lf.dt Sh.tm ts))∧SubB (PV.bp 0 0) (PV.bp 0 0)∧SubB (PV.wr 2) (PV.wr 2)∧SubB (iV (↑z8.fst:Int)) (iV (↑x9.fst:Int))∧SubB (PV.f (Lf.dt Sh.str (Qah (Qab (ts.getD z8.fst Sh.tm.nil))))) (PV.f (Lf.dt Sh.str (Qah (Qab (ts.getD x9.fst Sh.tm.nil)))))∧SubB (iV (IntKind.i64.wrap ((↑z8.snd:Int)+(1:Int)))) (iV (↑x9.snd:Int))∧True)∧(x9.fst<l.length∧x9.snd≤(Qah (Qab (ts.getD x9.fst Sh.tm.nil))).length)∧x9.fst=x7.fst∧((Qah (Qab (ts.getD x9.fst Sh.tm.nil))).length - x9.snd).succ.le ((Qah (Qab (ts.getD z8.fst Sh.tm.nil))).length - z8.snd)) (∃ (x9:Nat),(((SubB (PV.f (Lf.v (Value.int IntKind.u8 a.kind))) (PV.f (Lf.v (Value.int IntKind.u8 a.kind)))∧SubB (sV a.name) (sV a.name)∧SubB (bV a.neg) (bV a.neg)∧SubB (PV.f (Lf.lr a.digits a.digits.length)) (PV.f (Lf.lr a.digits a.digits.length))∧SubB (PV.f (Lf.dt Sh.tm a.kids)) (PV.f (Lf.dt Sh.tm a.kids))∧True)∧(SubB (PV.f (Lf.v (Value.int IntKind.u8 t.kind))) (PV.f (Lf.v (Value.int IntKind.u8 t.kind)))∧SubB (sV t.name) (sV t.name)∧SubB (bV t.neg) (bV t.neg)∧SubB (PV.f (Lf.lr t.digits t.digits.length)) (PV.f (Lf.lr t.digits t.digits.length))∧SubB (PV.f (Lf.dt Sh.tm t.kids)) (PV.f (Lf.dt Sh.tm t.kids))∧True)∧MapW Kt.str (fun (s:Kt.str.T)=>(met3 t l ts z8.fst z8.snd s).isSome) (fun (s:Kt.str.T)=>[Lf.v (Value.bool ((met3 t l ts z8.fst z8.snd s).getD false))]) [] [] Kt.str (fun (s:Kt.str.T)=>(met2 t l ts x9 s).isSome) (fun (s:Kt.str.T)=>[Lf.v (Value.bool ((met2 t l ts x9 s).getD false))]) [] []∧True)∧SubB (PV.f (Lf.dt Sh.str l)) (PV.f (Lf.dt Sh.str l))∧SubB (PV.f (Lf.dt Sh.tm ts)) (PV.f (Lf.dt Sh.tm ts))∧SubB (PV.bp 0 0) (PV.bp 0 0)∧SubB (PV.wr 2) (PV.wr 2)∧SubB (iV (IntKind.i64.wrap ((↑z8.fst:Int)+(1:Int)))) (iV (↑x9:Int))∧True)∧x9≤l.length∧True∧(l.length - x9).succ.le (l.length - z6))) (((Tw.mk a.kind a.name a.neg a.digits a.kids).fitT∧(Tw.mk a.kind a.name a.neg a.digits a.kids).size≤100000000)∧∃ (x7:Nat),(((SubB (PV.f (Lf.v (Value.int IntKind.u8 a.kind))) (PV.f (Lf.v (Value.int IntKind.u8 a.kind)))∧SubB (sV a.name) (sV a.name)∧SubB (bV a.neg) (bV a.neg)∧SubB (PV.f (Lf.lr a.digits a.digits.length)) (PV.f (Lf.lr a.digits a.digits.length))∧SubB (PV.f (Lf.dt Sh.tm a.kids)) (PV.f (Lf.dt Sh.tm a.kids))∧True)∧(SubB (PV.f (Lf.v (Value.int IntKind.u8 t.kind))) (PV.f (Lf.v (Value.int IntKind.u8 t.kind)))∧SubB (sV t.name) (sV t.name)∧SubB (bV t.neg) (bV t.neg)∧SubB (PV.f (Lf.lr t.digits t.digits.length)) (PV.f (Lf.lr t.digits t.digits.length))∧SubB (PV.f (Lf.dt Sh.tm t.kids)) (PV.f (Lf.dt Sh.tm t.kids))∧True)∧MapW Kt.str (fun (s:Kt.str.T)=>(met2 t l ts z6 s).isSome) (fun (s:Kt.str.T)=>[Lf.v (Value.bool ((met2 t l ts z6 s).getD false))]) [] [] Kt.str (fun (s:Kt.str.T)=>(met2 t l ts l.length s).isSome) (fun (s:Kt.str.T)=>[Lf.v (Value.bool ((met2 t l ts l.length s).getD false))]) [] []∧True)∧SubB (PV.wr 2) (PV.wr 2)∧SubB (PV.f (Lf.dt Sh.str (Qah (Qab (Tw.mk a.kind a.name a.neg a.digits a.kids))))) (PV.f (Lf.dt Sh.str (Qah (Qab a))))∧SubB (iV 0) (iV (↑x7:Int))∧True)∧x7≤(Qah (Qab a)).length∧True∧∀ (z8:Nat),z8≤(Qah (Qab a)).length→True→ifB (decide ((↑z8:Int)<(↑(Qah (Qab a)).length:Int))) (((0:Int)≤(↑z8:Int)∧(↑z8:Int)<(↑(Qah (Qab a)).length:Int))∧ifB (hasF (met2 t l ts l.length) ((Qah (Qab a)).getD (↑z8:Int).toNat Sh.str.nil)) (ifB (!(met2 t l ts l.length ((Qah (Qab a)).getD (↑z8:Int).toNat Sh.str.nil)).getD false) (true=true∧Sub (bV false) (bV true)) (∃ (x9:Nat),(((SubB (PV.f (Lf.v (Value.int IntKind.u8 a.kind))) (PV.f (Lf.v (Value.int IntKind.u8 a.kind)))∧SubB (sV a.name) (sV a.name)∧SubB (bV a.neg) (bV a.neg)∧SubB (PV.f (Lf.lr a.digits a.digits.length)) (PV.f (Lf.lr a.digits a.digits.length))∧SubB (PV.f (Lf.dt Sh.tm a.kids)) (PV.f (Lf.dt Sh.tm a.kids))∧True)∧(SubB (PV.f (Lf.v (Value.int IntKind.u8 t.kind))) (PV.f (Lf.v (Value.int IntKind.u8 t.kind)))∧SubB (sV t.name) (sV t.name)∧SubB (bV t.neg) (bV t.neg)∧SubB (PV.f (Lf.lr t.digits t.digits.length)) (PV.f (Lf.lr t.digits t.digits.length))∧SubB (PV.f (Lf.dt Sh.tm t.kids)) (PV.f (Lf.dt Sh.tm t.kids))∧True)∧MapW Kt.str (fun (s:Kt.str.T)=>(met2 t l ts l.length s).isSome) (fun (s:Kt.str.T)=>[Lf.v (Value.bool ((met2 t l ts l.length s).getD false))]) [] [] Kt.str (fun (s:Kt.str.T)=>(met2 t l ts l.length s).isSome) (fun (s:Kt.str.T)=>[Lf.v (Value.bool ((met2 t l ts l.length s).getD false))]) [] []∧True)∧SubB (PV.wr 2) (PV.wr 2)∧SubB (PV.f (Lf.dt Sh.str (Qah (Qab a)))) (PV.f (Lf.dt Sh.str (Qah (Qab a))))∧SubB (iV (IntKind.i64.wrap ((↑z8:Int)+(1:Int)))) (iV (↑x9:Int))∧True)∧x9≤(Qah (Qab a)).length∧True∧((Qah (Qab a)).length - x9).succ.le ((Qah (Qab a)).length - z8))) (true=true∧Sub (bV false) (bV true))) (true=true∧Sub (bV true) (bV true)))))) ?kr ?_
     case kr=>kernel_rfl
     refine ⟨?s0,⟨?x0,⟨⟨⟨⟨.refl _,⟨.refl _,⟨.refl _,⟨.refl _,⟨.refl _,trivial⟩⟩⟩⟩⟩,⟨⟨.refl _,⟨.refl _,⟨.refl _,⟨.refl _,⟨.refl _,trivial⟩⟩⟩⟩⟩,⟨?m0,trivial⟩⟩⟩,⟨.refl _,⟨.refl _,⟨.refl _,⟨.refl _,⟨?m1,⟨?m2,trivial⟩⟩⟩⟩⟩⟩⟩,⟨?s1,⟨trivial,fun z2=>fun hq0=>fun _=>Qaa.2 ⟨fun hb1=>⟨?s2,⟨?x1,⟨⟨⟨⟨.refl _,⟨.refl _,⟨.refl _,⟨.refl _,⟨.refl _,trivial⟩⟩⟩⟩⟩,⟨⟨.refl _,⟨.refl _,⟨.refl _,⟨.refl _,⟨.refl _,trivial⟩⟩⟩⟩⟩,⟨?m3,trivial⟩⟩⟩,⟨.refl _,⟨.refl _,⟨.refl _,⟨.refl _,⟨.refl _,⟨?m4,trivial⟩⟩⟩⟩⟩⟩⟩,⟨?s3,⟨trivial,?m5⟩⟩⟩⟩⟩,fun hb1=>⟨?x2,⟨⟨⟨⟨.refl _,⟨.refl _,⟨.refl _,⟨.refl _,⟨.refl _,trivial⟩⟩⟩⟩⟩,⟨⟨.refl _,⟨.refl _,⟨.refl _,⟨.refl _,⟨.refl _,trivial⟩⟩⟩⟩⟩,⟨?m6,trivial⟩⟩⟩,⟨.refl _,⟨.refl _,⟨.refl _,⟨.refl _,⟨?m7,trivial⟩⟩⟩⟩⟩⟩,⟨?s4,⟨trivial,fun z4=>fun hq2=>fun _=>Qaa.2 ⟨fun hb3=>⟨?s5,⟨?x3,⟨⟨⟨⟨.refl _,⟨.refl _,⟨.refl _,⟨.refl _,⟨.refl _,trivial⟩⟩⟩⟩⟩,⟨⟨.refl _,⟨.refl _,⟨.refl _,⟨.refl _,⟨.refl _,trivial⟩⟩⟩⟩⟩,⟨?m8,trivial⟩⟩⟩,⟨.refl _,⟨.refl _,⟨.refl _,⟨.refl _,⟨?m9,trivial⟩⟩⟩⟩⟩⟩,⟨?s6,⟨trivial,?m10⟩⟩⟩⟩⟩,fun hb3=>⟨?x4,⟨⟨⟨⟨.refl _,⟨.refl _,⟨.refl _,⟨.refl _,⟨.refl _,trivial⟩⟩⟩⟩⟩,⟨⟨.refl _,⟨.refl _,⟨.refl _,⟨.refl _,⟨.refl _,trivial⟩⟩⟩⟩⟩,⟨?m11,trivial⟩⟩⟩,⟨.refl _,⟨.refl _,⟨.refl _,⟨.refl _,⟨?m12,trivial⟩⟩⟩⟩⟩⟩,⟨?s7,⟨trivial,fun z6=>fun hq4=>fun _=>Qaa.2 ⟨fun hb5=>⟨?s8,⟨?s9,⟨?x5,⟨⟨⟨⟨.refl _,⟨.refl _,⟨.refl _,⟨.refl _,⟨.refl _,trivial⟩⟩⟩⟩⟩,⟨⟨.refl _,⟨.refl _,⟨.refl _,⟨.refl _,⟨.refl _,trivial⟩⟩⟩⟩⟩,⟨?m13,trivial⟩⟩⟩,⟨.refl _,⟨.refl _,⟨.refl _,⟨.refl _,⟨?m14,⟨?m15,⟨?m16,trivial⟩⟩⟩⟩⟩⟩⟩⟩,⟨?s10,⟨rfl,fun z8=>fun hq6=>fun hq7=>Qaa.2 ⟨fun hb8=>⟨?s11,⟨?x6,⟨⟨⟨⟨.refl _,⟨.refl _,⟨.refl _,⟨.refl _,⟨.refl _,trivial⟩⟩⟩⟩⟩,⟨⟨.refl _,⟨.refl _,⟨.refl _,⟨.refl _,⟨.refl _,trivial⟩⟩⟩⟩⟩,⟨?m17,trivial⟩⟩⟩,⟨.refl _,⟨.refl _,⟨.refl _,⟨.refl _,⟨?m18,⟨?m19,⟨?m20,trivial⟩⟩⟩⟩⟩⟩⟩⟩,⟨?s12,⟨?s13,?m21⟩⟩⟩⟩⟩,fun hb8=>⟨?x7,⟨⟨⟨⟨.refl _,⟨.refl _,⟨.refl _,⟨.refl _,⟨.refl _,trivial⟩⟩⟩⟩⟩,⟨⟨.refl _,⟨.refl _,⟨.refl _,⟨.refl _,⟨.refl _,trivial⟩⟩⟩⟩⟩,⟨?m22,trivial⟩⟩⟩,⟨.refl _,⟨.refl _,⟨.refl _,⟨.refl _,⟨?m23,trivial⟩⟩⟩⟩⟩⟩,⟨?s14,⟨trivial,?m24⟩⟩⟩⟩⟩⟩⟩⟩⟩⟩⟩,fun hb5=>⟨?s15,⟨?x8,⟨⟨⟨⟨.refl _,⟨.refl _,⟨.refl _,⟨.refl _,⟨.refl _,trivial⟩⟩⟩⟩⟩,⟨⟨.refl _,⟨.refl _,⟨.refl _,⟨.refl _,⟨.refl _,trivial⟩⟩⟩⟩⟩,⟨?m25,trivial⟩⟩⟩,⟨.refl _,⟨?m26,⟨?m27,trivial⟩⟩⟩⟩,⟨?s16,⟨trivial,fun z8=>fun hq9=>fun _=>Qaa.2 ⟨fun hb10=>⟨?s17,Qaa.2 ⟨fun hb11=>Qaa.2 ⟨fun hb12=>⟨rfl,?m28⟩,fun hb12=>⟨?x9,⟨⟨⟨⟨.refl _,⟨.refl _,⟨.refl _,⟨.refl _,⟨.refl _,trivial⟩⟩⟩⟩⟩,⟨⟨.refl _,⟨.refl _,⟨.refl _,⟨.refl _,⟨.refl _,trivial⟩⟩⟩⟩⟩,⟨.refl _ _ _ _ _,trivial⟩⟩⟩,⟨.refl _,⟨.refl _,⟨?m29,trivial⟩⟩⟩⟩,⟨?s18,⟨trivial,?m30⟩⟩⟩⟩⟩,fun hb11=>⟨rfl,?m31⟩⟩⟩,fun hb10=>⟨rfl,?m32⟩⟩⟩⟩⟩⟩⟩⟩⟩⟩⟩⟩⟩⟩⟩⟩⟩⟩⟩⟩⟩⟩⟩
     case x0=>exact 0
     case x1=>exact z2+1
     case x2=>exact 0
     case x3=>exact z4+1
     case x4=>exact 0
     case x5=>exact (z6,0)
     case x6=>exact (z8.1,z8.2+1)
     case x7=>exact z8.1+1
     case x8=>exact 0
     case x9=>exact z8+1
     all_goals try simp only [Tw.eta,Int.toNat_natCast,decide_eq_true_eq,decide_eq_false_iff_not,Int.ofNat_lt,bne_iff_ne,ne_eq,bne_eq_false_iff_eq,beq_iff_eq,beq_eq_false_iff_ne,Bool.not_eq_true',Bool.not_eq_false',bs_l] at *
     case s0=>exact ⟨ft,zt⟩
     case m0=>exact Qha (QcZ _ _)
     case m1=>exact .refl _
     case m2=>exact .refl _
     case s1=>exact Nat.zero_le _
     case s2=>omega
     case m3=>exact Qd1 (Qcx (by omega) true)
     case m4 =>
      have:=Qgh t
      exact Qao (by rw [wJ _ (by omega) (by omega)]; rfl)
     case s3=>omega
     case m5=>exact (by omega:(Qah (Qab t)).length - (z2+1)<(Qah (Qab t)).length - z2)
     case m6=>exact QbF (met_01 (by omega)).symm
     case m7=>exact .refl _
     case s4=>exact Nat.zero_le _
     case s5=>omega
     case m8=>exact Qd1 (Qcx (by omega) false)
     case m9=>exact Qao (by rw [wJ _ (by omega) (by omega)]; rfl)
     case s6=>omega
     case m10=>exact (by omega:l.length - (z4+1)<l.length - z4)
     case m11=>exact QbF (met_12 (by omega))
     case m12=>exact .refl _
     case s7=>exact Nat.zero_le _
     case s8=>omega
     case s9=>exact ⟨fts _ (QiE (by omega)),zts _ (QiE (by omega))⟩
     case m13=>exact QbF (met_23 _ _ _ _)
     case m14=>exact .refl _
     case m15=>exact .refl _
     case m16=>exact .refl _
     case s10=>exact ⟨by omega,Nat.zero_le _⟩
     case s11=>omega
     case m17=>exact Qd1 (Qcx (by omega) true)
     case m18=>exact .refl _
     case m19=>exact .refl _
     case m20 =>
      have:=Qgh (ts.getD z8.1 Sh.tm.nil)
      have:=zts _ (QiE (by omega:z8.1<ts.length))
      exact Qao (by rw [wJ _ (by omega) (by omega)]; rfl)
     case s12=>exact ⟨by omega,by omega⟩
     case s13=>omega
     case m21=>exact (by omega:(Qah (Qab (ts.getD z8.1 Sh.tm.nil))).length - (z8.2+1)<(Qah (Qab (ts.getD z8.1 Sh.tm.nil))).length - z8.2)
     case m22=>exact QbF (met_32 (by omega))
     case m23=>exact Qao (by rw [wJ _ (by omega) (by omega)]; rfl)
     case s14=>omega
     case m24=>exact (by omega:l.length - (z8.1+1)<l.length - z6)
     case s15=>exact ⟨fa,za⟩
     case m25=>exact QbF (by rw [show z6=l.length by omega])
     case m26=>exact .refl _
     case m27=>exact .refl _
     case s16=>exact Nat.zero_le _
     case s17=>omega
     case m29 =>
      have:=Qgh a
      exact Qao (by rw [wJ _ (by omega) (by omega)]; rfl)
     case s18=>omega
     case m30=>exact (by omega:(Qah (Qab a)).length - (z8+1)<(Qah (Qab a)).length - z8)
     case m32=>exact .refl _
     all_goals have he:=QoK ha hl (QkJ (L:=Qah (Qab a)) (i:=z8) (by omega))
     case m28=>rw [he] at hb12; cases hb12
     case m31 =>
      have h9:=QlN hb11
      rw [he] at h9; cases h9
   · cases hs
 · cases hs
end Go.Proofs.YtemhncjjiomppaaDoor
