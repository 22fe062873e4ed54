/- The law CongSound: where all facts come to true, so does what Same and Apply tell. -/
import Derived.Test.YtemhncjjiomppaaGreatDoorCg
import Derived.Test.YtemhncjjiomppaaGreatDoorCf
import Derived.Test.YtemhncjjiomppaaGreatDoorCn
set_option linter.unusedSimpArgs false
namespace Go.Proofs.YtemhncjjiomppaaGreatDoor
open Go.RowKit
set_option linter.unusedVariables false
set_option maxRecDepth 100000
theorem Qi2:∀ {l:List Tw} {t:Tw},t∈l→bigT t≤bigM l
 | u::l,t,h=>by
  rw [bigM]
  rcases List.mem_cons.1 h with rfl | h
  · exact Nat.le_max_left _ _
  · exact Nat.le_trans (Qi2 h) (Nat.le_max_right _ _)
theorem QlU (s:ByteArray) (t:Tw):bigT (appT s t)=1+bigT t:=by
 show (if _ then _ else 0)+bigM [t]=_
 rw [if_pos (.inr (.inr (.inr rfl)))]
 show 1+0+max (bigT t) 0=_
 omega
theorem Qi0 {k:Int} (h:¬ (k=2∨k=5∨k=6∨k=7)) (l:List Tw):bigT (conT k l)=bigM l:=by
 show (if _ then _ else 0)+bigM l=bigM l
 rw [if_neg h,Nat.zero_add]
theorem Qtk {a b:Tw} (ha:a.fitT) (hb:b.fitT):(eqT a b).fitT:=QeT (k:=8) (l:=[a,b]) (by show (2:Nat)≤_; decide) ⟨ha,hb,trivial⟩
theorem Qtw (a b:Tw):bigT (eqT a b)=max (bigT a) (bigT b):=by
 show bigT (conT 8 [a,b])=_
 rw [Qi0 (by decide)]
 simp only [bigM]
 omega
theorem QoK (a b:Tw):bigT (Qam a b)=max (bigT a) (bigT b):=by
 unfold Qam
 rw [Qi0 (by decide)]
 simp only [bigM]
 rw [Qi0 (by decide)]
 simp only [bigM]
 omega
theorem Qrl {D:List Dat} {S:List Srt} {L:List Tw} {n:Int} {s:ByteArray} {y:Tw} {m:Nat} (hL:∀ t∈L,t.fitT) (hm:∀ t∈L,bigT t≤m) (hs:s.size≤4611686018427387904) (h:Qax D S L n s=.ok y):y.fitT∧bigT y≤m+1:=by
 unfold Qax at h
 split at h
 · cases h
 · rename_i a b he
   obtain ⟨f1,f2⟩:=Qa9 hL he
   obtain ⟨-,t,ht,ha,hb⟩:=QiK he
   have b1:bigT a≤m:=Nat.le_trans (Qi2 ha) (Nat.le_trans (QgP t) (hm t ht))
   have b2:bigT b≤m:=Nat.le_trans (Qi2 hb) (Nat.le_trans (QgP t) (hm t ht))
   split at h
   · split at h
     · cases h
     · split at h
       · split at h
         · split at h
           · cases h
             refine ⟨QeT (by show (2:Nat)≤_; decide) ⟨Qdx (QaW hs f1) (QaW hs f2),Qdx (QaW hs f2) (QaW hs f1),trivial⟩,?_⟩
             rw [Qi0 (by decide)]
             simp only [bigM,QoK,QlU]
             omega
           · cases h
             refine ⟨Qtk (QaW hs f1) (QaW hs f2),?_⟩
             rw [Qtw,QlU,QlU]
             omega
         · cases h
       · cases h
   · cases h
theorem Qss {D:List Dat} {S:List Srt} {B:List Bnd} (h:Qrw D S B):B=QcQ S (B.map Bnd.value)∧(B.map Bnd.value).length=S.length∧∀ i,i<S.length→ofV D (Srt.sort (S.getD i Sh.srt.nil)) ((B.map Bnd.value).getD i Sh.vl.nil)=true:=by
 have hl:(B.map Bnd.value).length=S.length:=by rw [List.length_map]; exact h.1.symm
 have hat:∀ i,i<S.length→(B.map Bnd.value).getD i Sh.vl.nil=Bnd.value (B.getD i Sh.bnd.nil):=fun i hi=>by
  have hi':i<B.length:=by rw [← h.1]; exact hi
  rw [List.getD_eq_getElem?_getD,List.getD_eq_getElem?_getD,List.getElem?_map,List.getElem?_eq_getElem hi']
  rfl
 refine ⟨?_,hl,fun i hi=>by rw [hat i hi]; exact (h.2 i hi).2⟩
 have hbl:=QgN S (B.map Bnd.value) hl
 apply List.ext_getElem (by rw [hbl]; exact h.1.symm)
 intro i h1 h2
 have hi:i<S.length:=by rw [h.1]; exact h1
 have e1:B[i]=B.getD i Sh.bnd.nil:=by rw [List.getD_eq_getElem?_getD,List.getElem?_eq_getElem h1]; rfl
 have e2:(QcQ S (B.map Bnd.value))[i]=(QcQ S (B.map Bnd.value)).getD i Sh.bnd.nil:=by rw [List.getD_eq_getElem?_getD,List.getElem?_eq_getElem h2]; rfl
 rw [e1,e2,Qnz hl hi,hat i hi,(h.2 i hi).1]
theorem QhL {D:List Dat} {S:List Srt} {L:List Tw} {n:Int} {s:ByteArray} {z:Except Int Tw} (hz:z=Qax D S L n s) (h:errE z=0):∃ y,Qax D S L n s=.ok y∧z=.ok y:=by
 subst hz
 cases hc:Qax D S L n s with
 | ok y=>exact ⟨y,rfl,rfl⟩
 | error e =>
  exfalso
  rw [hc] at h
  have he:e=0:=h
  subst he
  unfold Qax at hc
  split at hc
  · rename_i e' he'
    unfold QaI at he'
    split at he' <;> first | (cases he'; done) | (cases he'; simp at hc)
  · split at hc
    · split at hc
      · cases hc
      · split at hc
        · split at hc
          · split at hc <;> cases hc
          · cases hc
        · cases hc
    · cases hc
theorem Qos {D:List Dat} {S:List Srt} {B:List Bnd} {V:List Vw} {L:List Tw} {i:Nat} (kL:QdG L) (eB:B=QcQ S V) (h:∀ j,j<i→QdW D B (L.getD j Sh.tm.nil)) (hi:L.length≤i):∀ t∈L,QaZ t∧QdW D (QcQ S V) t:=fun t ht=>by
 refine ⟨Qbs kL ht,?_⟩
 obtain ⟨j,hj,rfl⟩:=List.getElem_of_mem ht
 have h9:=h j (by omega)
 rw [List.getD_eq_getElem?_getD,List.getElem?_eq_getElem hj] at h9
 rw [← eB]
 exact h9
noncomputable def sSound8:Spec
 | [.f x0,.f x1,.f x2,.f x3,u,v,.f y,.f (.v (.string nm))]=>match dtOf .dat x0,dtOf .srt x1,dtOf .bnd x2,dtOf .tm x3,tmOf u,tmOf v,i64Of y with
  | some D,some S,some B,some L,some a,some b,some l=>some (some ((cntD D≤4000000∧cntB B≤1100000∧QaF L≤4000000∧cntT a≤1200000∧cntT b≤1200000)∧(QdG L∧QaZ a∧QaZ b)∧l.length≤4000000),.one (bV true))
  | _,_,_,_,_,_,_=>none
 | _=>none
set_option maxHeartbeats 8000000 in
theorem Qvo:Contract Tryz.prog EZ 4 sSound8:=by
 refine Qad [(14,Qpn),(15,Qla),(16,Qh9),(17,QfN),(18,sFits),(19,sApart),(21,sTruth8),(20,QrO),(22,Qmf),(23,Qmi)] [] Tryz.ntmps4 Tryz.func4 (by kernel_rfl) (by kernel_rfl) EZ.up ⟨QvO EZ.up EZ.tab,QvC EZ.up,QsM EZ.up,Qrc EZ.up,cFits EZ.up,cApart EZ.up,Qvj EZ.up,cSort EZ.up,Qtp EZ.up EZ.tab,Qtu EZ.up,trivial⟩ trivial ?_
 intro xs p r hs hp
 unfold sSound8 at hs
 split at hs
 · rename_i x0 x1 x2 x3 u v y nm
   split at hs
   · rename_i D S B L a b l h1 h2 h3 h4 h5 h6 h7
     cases hs
     obtain ⟨⟨nD,nB,nL,na,nb⟩,⟨kL,ka,kb⟩,nl⟩:=hp _ rfl
     refine ⟨[.f (.dt .dat D),.f (.dt .srt S),.f (.dt .bnd B),.f (.dt .tm L),tmP a,tmP b,.f (.is .i64 l),.f (.v (.string nm))],[(6,.s ⟨Nat,fun i=>⟨[(0,.f (.dt .dat D)),(1,.f (.dt .srt S)),(2,.f (.dt .bnd B)),(3,.f (.dt .tm L)),(6,.f (.is .i64 l)),(7,.f (.v (.string nm))),(12,.bp 0 0),(13,.bp 1 0),(17,iV i)],[.cells (Qac (tmC a)),.cells (Qac (tmC b))]⟩,fun i=>i≤L.length∧∀ j,j<i→QdW D B (L.getD j Sh.tm.nil),fun i=>L.length - i⟩),(1000016,.s ⟨Unit,fun _=>⟨[(0,.f (.dt .dat D)),(1,.f (.dt .srt S)),(2,.f (.dt .bnd B)),(3,.f (.dt .tm L)),(6,.f (.is .i64 l)),(7,.f (.v (.string nm)))],[.cells (Qac (tmC a)),.cells (Qac (tmC b))]⟩,fun _=>True,fun _=>0⟩),(17,.s ⟨Nat,fun i=>⟨[(0,.f (.dt .dat D)),(1,.f (.dt .srt S)),(2,.f (.dt .bnd B)),(3,.f (.dt .tm L)),(6,.f (.is .i64 l)),(7,.f (.v (.string nm))),(26,iV i)],[.cells (Qac (tmC a)),.cells (Qac (tmC b))]⟩,fun i=>i≤l.length,fun i=>l.length - i⟩)],.cons (Qby h1).sub (.cons (Qby h2).sub (.cons (Qby h3).sub (.cons (Qby h4).sub (.cons (QaS h5).sub (.cons (QaS h6).sub (.cons (Qj1 h7).sub (.cons (.refl _) .nil))))))),rfl,fun _ hsh=>?_⟩
     have h0:=nL
     refine Qab (p:=(QaF L≤4000000∧QaF [etaT a,etaT b]≤4000000)∧∀ (z1:Bool),z1=great8 L [etaT a,etaT b]→ifB z1 (true=true∧rfS (bV true)) (ifB (decide ((↑l.length:Int) > (200:Int))) (true=true∧rfS (bV true)) ((cntD D≤4000000∧(0:Int)≤(300:Int)∧(300:Int)≤(4000000:Int))∧∀ (z2:Int),z2=capD (300:Int) D→ifB (decide (z2 > (300:Int))) (true=true∧rfS (bV true)) ((cntB B≤4000000∧(0:Int)≤(2000:Int)∧(2000:Int)≤(4000000:Int))∧∀ (z3:Int),z3=capB (2000:Int) B→ifB (decide (z3 > (2000:Int))) (true=true∧rfS (bV true)) (fitB 40000000 B∧∀ (z4:Bool),z4=fitsB D S B→ifB (!z4) (true=true∧rfS (bV true)) (ifB (decide ((↑nm.size:Int) > (300:Int))) (true=true∧rfS (bV true)) (cntD D≤4000000∧∀ (z5:Bool),z5=apartB D→ifB (!z5) (true=true∧rfS (bV true)) (∃ (x6:Nat),(((rfB (uV a.kind)∧rfB (sV a.name)∧rfB (bV a.neg)∧rfB (PV.f (Lf.lr a.digits a.digits.length))∧rfB (dP Sh.tm a.kids)∧True)∧(rfB (uV b.kind)∧rfB (sV b.name)∧rfB (bV b.neg)∧rfB (PV.f (Lf.lr b.digits b.digits.length))∧rfB (dP Sh.tm b.kids)∧True)∧True)∧rfB (dP Sh.dat D)∧rfB (dP Sh.srt S)∧rfB (dP Sh.bnd B)∧rfB (dP Sh.tm L)∧rfB (PV.f (Lf.is IntKind.i64 l))∧rfB (sV nm)∧rfB (PV.bp 0 0)∧rfB (PV.bp 1 0)∧SubB (iV 0) (iV (↑x6:Int))∧True)∧(x6≤L.length∧∀ (j:Nat),j<x6→QdW D B (L.getD j Sh.tm.nil))∧True∧∀ (z7:Nat),(z7≤L.length∧∀ (j:Nat),j<z7→QdW D B (L.getD j Sh.tm.nil))→True→ifB (decide ((↑z7:Int)<(↑L.length:Int))) (((0:Int)≤(↑z7:Int)∧(↑z7:Int)<(↑L.length:Int))∧(etaT (L.getD (↑z7:Int).toNat Sh.tm.nil)).fitT∧∀ (z8:Except Int ByteArray),z8=Qap D S (etaT (L.getD (↑z7:Int).toNat Sh.tm.nil))→ifB (errE z8 != (0:Int)) (true=true∧rfS (bV true)) (ifB (!(valE (ByteArray.mk #[]) z8).toList==(ByteArray.mk #[(98:UInt8),(111:UInt8),(111:UInt8),(108:UInt8)]).toList) (true=true∧rfS (bV true)) (((0:Int)≤(↑z7:Int)∧(↑z7:Int)<(↑L.length:Int))∧(((etaT (L.getD (↑z7:Int).toNat Sh.tm.nil)).fitT∧bigT (etaT (L.getD (↑z7:Int).toNat Sh.tm.nil))≤9000)∧fitB 1100000 B∧fitD D)∧∀ (z9:Int),z9=truth8 D B (etaT (L.getD (↑z7:Int).toNat Sh.tm.nil))→ifB (z9 != (0:Int)) (true=true∧rfS (bV true)) (∃ (x10:Nat),(((rfB (uV a.kind)∧rfB (sV a.name)∧rfB (bV a.neg)∧rfB (PV.f (Lf.lr a.digits a.digits.length))∧rfB (dP Sh.tm a.kids)∧True)∧(rfB (uV b.kind)∧rfB (sV b.name)∧rfB (bV b.neg)∧rfB (PV.f (Lf.lr b.digits b.digits.length))∧rfB (dP Sh.tm b.kids)∧True)∧True)∧rfB (dP Sh.dat D)∧rfB (dP Sh.srt S)∧rfB (dP Sh.bnd B)∧rfB (dP Sh.tm L)∧rfB (PV.f (Lf.is IntKind.i64 l))∧rfB (sV nm)∧rfB (PV.bp 0 0)∧rfB (PV.bp 1 0)∧SubB (iV (IntKind.i64.wrap ((↑z7:Int)+(1:Int)))) (iV (↑x10:Int))∧True)∧(x10≤L.length∧∀ (j:Nat),j<x10→QdW D B (L.getD j Sh.tm.nil))∧True∧(L.length - x10).succ.le (L.length - z7))))) ((l.length≤100000000∧(∀ (t:Sh.tm.T),t∈L→QaH t)∧QaH (etaT a)∧QaH (etaT b))∧∀ (z8:Except Int Tw),z8=Qbd L (etaT a) (etaT b) l→(etaT a).fitT∧∀ (z9:Except Int ByteArray),z9=Qap D S (etaT a)→(etaT b).fitT∧∀ (z10:Except Int ByteArray),z10=Qap D S (etaT b)→ifB (errE z8==(0:Int)) (ifB (errE z9==(0:Int)) (ifB (errE z10==(0:Int)) (ifB ((valE (ByteArray.mk #[]) z9).toList==(valE (ByteArray.mk #[]) z10).toList) (ifB (!(valE (ByteArray.mk #[]) z9).toList==(ByteArray.mk #[(98:UInt8),(111:UInt8),(111:UInt8),(108:UInt8)]).toList) ((((etaT (valE Sh.tm.nil z8)).fitT∧bigT (etaT (valE Sh.tm.nil z8))≤9000)∧fitB 1100000 B∧fitD D)∧∀ (z11:Int),z11=truth8 D B (etaT (valE Sh.tm.nil z8))→ifB (z11 != (0:Int)) (true=true∧Sub (bV false) (bV true)) (∃ (x12:Unit),(((rfB (uV a.kind)∧rfB (sV a.name)∧rfB (bV a.neg)∧rfB (PV.f (Lf.lr a.digits a.digits.length))∧rfB (dP Sh.tm a.kids)∧True)∧(rfB (uV b.kind)∧rfB (sV b.name)∧rfB (bV b.neg)∧rfB (PV.f (Lf.lr b.digits b.digits.length))∧rfB (dP Sh.tm b.kids)∧True)∧True)∧rfB (dP Sh.dat D)∧rfB (dP Sh.srt S)∧rfB (dP Sh.bnd B)∧rfB (dP Sh.tm L)∧rfB (PV.f (Lf.is IntKind.i64 l))∧rfB (sV nm)∧True)∧True)) (∃ (x11:Unit),(((rfB (uV a.kind)∧rfB (sV a.name)∧rfB (bV a.neg)∧rfB (PV.f (Lf.lr a.digits a.digits.length))∧rfB (dP Sh.tm a.kids)∧True)∧(rfB (uV b.kind)∧rfB (sV b.name)∧rfB (bV b.neg)∧rfB (PV.f (Lf.lr b.digits b.digits.length))∧rfB (dP Sh.tm b.kids)∧True)∧True)∧rfB (dP Sh.dat D)∧rfB (dP Sh.srt S)∧rfB (dP Sh.bnd B)∧rfB (dP Sh.tm L)∧rfB (PV.f (Lf.is IntKind.i64 l))∧rfB (sV nm)∧True)∧True)) (∃ (x11:Unit),(((rfB (uV a.kind)∧rfB (sV a.name)∧rfB (bV a.neg)∧rfB (PV.f (Lf.lr a.digits a.digits.length))∧rfB (dP Sh.tm a.kids)∧True)∧(rfB (uV b.kind)∧rfB (sV b.name)∧rfB (bV b.neg)∧rfB (PV.f (Lf.lr b.digits b.digits.length))∧rfB (dP Sh.tm b.kids)∧True)∧True)∧rfB (dP Sh.dat D)∧rfB (dP Sh.srt S)∧rfB (dP Sh.bnd B)∧rfB (dP Sh.tm L)∧rfB (PV.f (Lf.is IntKind.i64 l))∧rfB (sV nm)∧True)∧True)) (∃ (x11:Unit),(((rfB (uV a.kind)∧rfB (sV a.name)∧rfB (bV a.neg)∧rfB (PV.f (Lf.lr a.digits a.digits.length))∧rfB (dP Sh.tm a.kids)∧True)∧(rfB (uV b.kind)∧rfB (sV b.name)∧rfB (bV b.neg)∧rfB (PV.f (Lf.lr b.digits b.digits.length))∧rfB (dP Sh.tm b.kids)∧True)∧True)∧rfB (dP Sh.dat D)∧rfB (dP Sh.srt S)∧rfB (dP Sh.bnd B)∧rfB (dP Sh.tm L)∧rfB (PV.f (Lf.is IntKind.i64 l))∧rfB (sV nm)∧True)∧True)) (∃ (x11:Unit),(((rfB (uV a.kind)∧rfB (sV a.name)∧rfB (bV a.neg)∧rfB (PV.f (Lf.lr a.digits a.digits.length))∧rfB (dP Sh.tm a.kids)∧True)∧(rfB (uV b.kind)∧rfB (sV b.name)∧rfB (bV b.neg)∧rfB (PV.f (Lf.lr b.digits b.digits.length))∧rfB (dP Sh.tm b.kids)∧True)∧True)∧rfB (dP Sh.dat D)∧rfB (dP Sh.srt S)∧rfB (dP Sh.bnd B)∧rfB (dP Sh.tm L)∧rfB (PV.f (Lf.is IntKind.i64 l))∧rfB (sV nm)∧True)∧True)) (∃ (x11:Unit),(((rfB (uV a.kind)∧rfB (sV a.name)∧rfB (bV a.neg)∧rfB (PV.f (Lf.lr a.digits a.digits.length))∧rfB (dP Sh.tm a.kids)∧True)∧(rfB (uV b.kind)∧rfB (sV b.name)∧rfB (bV b.neg)∧rfB (PV.f (Lf.lr b.digits b.digits.length))∧rfB (dP Sh.tm b.kids)∧True)∧True)∧rfB (dP Sh.dat D)∧rfB (dP Sh.srt S)∧rfB (dP Sh.bnd B)∧rfB (dP Sh.tm L)∧rfB (PV.f (Lf.is IntKind.i64 l))∧rfB (sV nm)∧True)∧True)∧∀ (z11:Unit),True→∃ (x12:Nat),(((rfB (uV a.kind)∧rfB (sV a.name)∧rfB (bV a.neg)∧rfB (PV.f (Lf.lr a.digits a.digits.length))∧rfB (dP Sh.tm a.kids)∧True)∧(rfB (uV b.kind)∧rfB (sV b.name)∧rfB (bV b.neg)∧rfB (PV.f (Lf.lr b.digits b.digits.length))∧rfB (dP Sh.tm b.kids)∧True)∧True)∧rfB (dP Sh.dat D)∧rfB (dP Sh.srt S)∧rfB (dP Sh.bnd B)∧rfB (dP Sh.tm L)∧rfB (PV.f (Lf.is IntKind.i64 l))∧rfB (sV nm)∧SubB (iV 0) (iV (↑x12:Int))∧True)∧x12≤l.length∧True∧∀ (z13:Nat),z13≤l.length→True→ifB (decide ((↑z13:Int)<(↑l.length:Int))) (((0:Int)≤(↑z13:Int)∧(↑z13:Int)<(↑l.length:Int))∧(nm.size≤(4611686018427387904:Nat)∧∀ (t:Sh.tm.T),t∈L→Tw.fitT t)∧∀ (z14:Except Int Tw),z14=Qax D S L (l.getD (↑z13:Int).toNat (0:Int)) nm→ifB (errE z14==(0:Int)) ((((etaT (valE Sh.tm.nil z14)).fitT∧bigT (etaT (valE Sh.tm.nil z14))≤(9000:Nat))∧fitB (1100000:Nat) B∧fitD D)∧∀ (z15:Int),z15=truth8 D B (etaT (valE Sh.tm.nil z14))→ifB (z15 != (0:Int)) (true=true∧Sub (bV false) (bV true)) (∃ (x16:Nat),(((rfB (uV a.kind)∧rfB (sV a.name)∧rfB (bV a.neg)∧rfB (PV.f (Lf.lr a.digits a.digits.length))∧rfB (dP Sh.tm a.kids)∧True)∧(rfB (uV b.kind)∧rfB (sV b.name)∧rfB (bV b.neg)∧rfB (PV.f (Lf.lr b.digits b.digits.length))∧rfB (dP Sh.tm b.kids)∧True)∧True)∧rfB (dP Sh.dat D)∧rfB (dP Sh.srt S)∧rfB (dP Sh.bnd B)∧rfB (dP Sh.tm L)∧rfB (PV.f (Lf.is IntKind.i64 l))∧rfB (sV nm)∧SubB (iV (IntKind.i64.wrap ((↑z13:Int)+(1:Int)))) (iV (↑x16:Int))∧True)∧x16≤l.length∧True∧(l.length - x16).succ.le (l.length - z13))) (∃ (x15:Nat),(((rfB (uV a.kind)∧rfB (sV a.name)∧rfB (bV a.neg)∧rfB (PV.f (Lf.lr a.digits a.digits.length))∧rfB (dP Sh.tm a.kids)∧True)∧(rfB (uV b.kind)∧rfB (sV b.name)∧rfB (bV b.neg)∧rfB (PV.f (Lf.lr b.digits b.digits.length))∧rfB (dP Sh.tm b.kids)∧True)∧True)∧rfB (dP Sh.dat D)∧rfB (dP Sh.srt S)∧rfB (dP Sh.bnd B)∧rfB (dP Sh.tm L)∧rfB (PV.f (Lf.is IntKind.i64 l))∧rfB (sV nm)∧SubB (iV (IntKind.i64.wrap ((↑z13:Int)+(1:Int)))) (iV (↑x15:Int))∧True)∧x15≤l.length∧True∧(l.length - x15).succ.le (l.length - z13))) (true=true∧rfS (bV true))))))))))) ?kr ?_
     case kr=>kernel_rfl
     refine ⟨?s0,fun z1=>fun hz1=>Qaa.2 ⟨fun hb0=>⟨rfl,?m0⟩,fun hb0=>Qaa.2 ⟨fun hb1=>⟨rfl,?m1⟩,fun hb1=>⟨?s1,fun z2=>fun hz2=>Qaa.2 ⟨fun hb2=>⟨rfl,?m2⟩,fun hb2=>⟨?s2,fun z3=>fun hz3=>Qaa.2 ⟨fun hb3=>⟨rfl,?m3⟩,fun hb3=>⟨?s3,fun z4=>fun hz4=>Qaa.2 ⟨fun hb4=>⟨rfl,?m4⟩,fun hb4=>Qaa.2 ⟨fun hb5=>⟨rfl,?m5⟩,fun hb5=>⟨?s4,fun z5=>fun hz5=>Qaa.2 ⟨fun hb6=>⟨rfl,?m6⟩,fun hb6=>⟨?x0,⟨⟨⟨⟨.refl _,⟨.refl _,⟨.refl _,⟨.refl _,⟨.refl _,trivial⟩⟩⟩⟩⟩,⟨⟨.refl _,⟨.refl _,⟨.refl _,⟨.refl _,⟨.refl _,trivial⟩⟩⟩⟩⟩,trivial⟩⟩,⟨.refl _,⟨.refl _,⟨.refl _,⟨.refl _,⟨.refl _,⟨.refl _,⟨.refl _,⟨.refl _,⟨?m7,trivial⟩⟩⟩⟩⟩⟩⟩⟩⟩⟩,⟨?s5,⟨trivial,fun z7=>fun hq7=>fun _=>Qaa.2 ⟨fun hb8=>⟨?s6,⟨?s7,fun z8=>fun hz8=>Qaa.2 ⟨fun hb9=>⟨rfl,?m8⟩,fun hb9=>Qaa.2 ⟨fun hb10=>⟨rfl,?m9⟩,fun hb10=>⟨?s8,⟨?s9,fun z9=>fun hz9=>Qaa.2 ⟨fun hb11=>⟨rfl,?m10⟩,fun hb11=>⟨?x1,⟨⟨⟨⟨.refl _,⟨.refl _,⟨.refl _,⟨.refl _,⟨.refl _,trivial⟩⟩⟩⟩⟩,⟨⟨.refl _,⟨.refl _,⟨.refl _,⟨.refl _,⟨.refl _,trivial⟩⟩⟩⟩⟩,trivial⟩⟩,⟨.refl _,⟨.refl _,⟨.refl _,⟨.refl _,⟨.refl _,⟨.refl _,⟨.refl _,⟨.refl _,⟨?m11,trivial⟩⟩⟩⟩⟩⟩⟩⟩⟩⟩,⟨?s10,⟨trivial,?m12⟩⟩⟩⟩⟩⟩⟩⟩⟩⟩⟩,fun hb8=>⟨?s11,fun z8=>fun hz8=>⟨?s12,fun z9=>fun hz9=>⟨?s13,fun z10=>fun hz10=>⟨Qaa.2 ⟨fun hb12=>Qaa.2 ⟨fun hb13=>Qaa.2 ⟨fun hb14=>Qaa.2 ⟨fun hb15=>Qaa.2 ⟨fun hb16=>⟨?s14,fun z11=>fun hz11=>Qaa.2 ⟨fun hb17=>⟨rfl,?m13⟩,fun hb17=>⟨?x2,⟨⟨⟨⟨.refl _,⟨.refl _,⟨.refl _,⟨.refl _,⟨.refl _,trivial⟩⟩⟩⟩⟩,⟨⟨.refl _,⟨.refl _,⟨.refl _,⟨.refl _,⟨.refl _,trivial⟩⟩⟩⟩⟩,trivial⟩⟩,⟨.refl _,⟨.refl _,⟨.refl _,⟨.refl _,⟨.refl _,⟨.refl _,trivial⟩⟩⟩⟩⟩⟩⟩,trivial⟩⟩⟩⟩,fun hb16=>⟨?x3,⟨⟨⟨⟨.refl _,⟨.refl _,⟨.refl _,⟨.refl _,⟨.refl _,trivial⟩⟩⟩⟩⟩,⟨⟨.refl _,⟨.refl _,⟨.refl _,⟨.refl _,⟨.refl _,trivial⟩⟩⟩⟩⟩,trivial⟩⟩,⟨.refl _,⟨.refl _,⟨.refl _,⟨.refl _,⟨.refl _,⟨.refl _,trivial⟩⟩⟩⟩⟩⟩⟩,trivial⟩⟩⟩,fun hb15=>⟨?x4,⟨⟨⟨⟨.refl _,⟨.refl _,⟨.refl _,⟨.refl _,⟨.refl _,trivial⟩⟩⟩⟩⟩,⟨⟨.refl _,⟨.refl _,⟨.refl _,⟨.refl _,⟨.refl _,trivial⟩⟩⟩⟩⟩,trivial⟩⟩,⟨.refl _,⟨.refl _,⟨.refl _,⟨.refl _,⟨.refl _,⟨.refl _,trivial⟩⟩⟩⟩⟩⟩⟩,trivial⟩⟩⟩,fun hb14=>⟨?x5,⟨⟨⟨⟨.refl _,⟨.refl _,⟨.refl _,⟨.refl _,⟨.refl _,trivial⟩⟩⟩⟩⟩,⟨⟨.refl _,⟨.refl _,⟨.refl _,⟨.refl _,⟨.refl _,trivial⟩⟩⟩⟩⟩,trivial⟩⟩,⟨.refl _,⟨.refl _,⟨.refl _,⟨.refl _,⟨.refl _,⟨.refl _,trivial⟩⟩⟩⟩⟩⟩⟩,trivial⟩⟩⟩,fun hb13=>⟨?x6,⟨⟨⟨⟨.refl _,⟨.refl _,⟨.refl _,⟨.refl _,⟨.refl _,trivial⟩⟩⟩⟩⟩,⟨⟨.refl _,⟨.refl _,⟨.refl _,⟨.refl _,⟨.refl _,trivial⟩⟩⟩⟩⟩,trivial⟩⟩,⟨.refl _,⟨.refl _,⟨.refl _,⟨.refl _,⟨.refl _,⟨.refl _,trivial⟩⟩⟩⟩⟩⟩⟩,trivial⟩⟩⟩,fun hb12=>⟨?x7,⟨⟨⟨⟨.refl _,⟨.refl _,⟨.refl _,⟨.refl _,⟨.refl _,trivial⟩⟩⟩⟩⟩,⟨⟨.refl _,⟨.refl _,⟨.refl _,⟨.refl _,⟨.refl _,trivial⟩⟩⟩⟩⟩,trivial⟩⟩,⟨.refl _,⟨.refl _,⟨.refl _,⟨.refl _,⟨.refl _,⟨.refl _,trivial⟩⟩⟩⟩⟩⟩⟩,trivial⟩⟩⟩,fun z11=>fun _=>⟨?x8,⟨⟨⟨⟨.refl _,⟨.refl _,⟨.refl _,⟨.refl _,⟨.refl _,trivial⟩⟩⟩⟩⟩,⟨⟨.refl _,⟨.refl _,⟨.refl _,⟨.refl _,⟨.refl _,trivial⟩⟩⟩⟩⟩,trivial⟩⟩,⟨.refl _,⟨.refl _,⟨.refl _,⟨.refl _,⟨.refl _,⟨.refl _,⟨?m14,trivial⟩⟩⟩⟩⟩⟩⟩⟩,⟨?s15,⟨trivial,fun z13=>fun hq18=>fun _=>Qaa.2 ⟨fun hb19=>⟨?s16,⟨?s17,fun z14=>fun hz14=>Qaa.2 ⟨fun hb20=>⟨?s18,fun z15=>fun hz15=>Qaa.2 ⟨fun hb21=>⟨rfl,?m15⟩,fun hb21=>⟨?x9,⟨⟨⟨⟨.refl _,⟨.refl _,⟨.refl _,⟨.refl _,⟨.refl _,trivial⟩⟩⟩⟩⟩,⟨⟨.refl _,⟨.refl _,⟨.refl _,⟨.refl _,⟨.refl _,trivial⟩⟩⟩⟩⟩,trivial⟩⟩,⟨.refl _,⟨.refl _,⟨.refl _,⟨.refl _,⟨.refl _,⟨.refl _,⟨?m16,trivial⟩⟩⟩⟩⟩⟩⟩⟩,⟨?s19,⟨trivial,?m17⟩⟩⟩⟩⟩⟩,fun hb20=>⟨?x10,⟨⟨⟨⟨.refl _,⟨.refl _,⟨.refl _,⟨.refl _,⟨.refl _,trivial⟩⟩⟩⟩⟩,⟨⟨.refl _,⟨.refl _,⟨.refl _,⟨.refl _,⟨.refl _,trivial⟩⟩⟩⟩⟩,trivial⟩⟩,⟨.refl _,⟨.refl _,⟨.refl _,⟨.refl _,⟨.refl _,⟨.refl _,⟨?m18,trivial⟩⟩⟩⟩⟩⟩⟩⟩,⟨?s20,⟨trivial,?m19⟩⟩⟩⟩⟩⟩⟩,fun hb19=>⟨rfl,?m20⟩⟩⟩⟩⟩⟩⟩⟩⟩⟩⟩⟩⟩⟩⟩⟩⟩⟩⟩⟩⟩⟩⟩⟩⟩⟩⟩
     all_goals try simp only [etaT] at *
     case x0=>exact 0
     case x1=>exact z7+1
     case x2=>exact ()
     case x3=>exact ()
     case x4=>exact ()
     case x5=>exact ()
     case x6=>exact ()
     case x7=>exact ()
     case x8=>exact 0
     case x9=>exact z13+1
     case x10=>exact z13+1
     all_goals try simp only [bs_l,Tw.eta,Int.toNat_natCast,decide_eq_true_eq,decide_eq_false_iff_not,Int.ofNat_lt,bne_iff_ne,ne_eq,bne_eq_false_iff_eq,beq_iff_eq,beq_eq_false_iff_ne,Int.natCast_inj,Bool.not_eq_true',Bool.not_eq_false'] at *
     all_goals try exact .refl _
     case s0=>exact ⟨nL,by simp only [QaF]; omega⟩
     case s1=>exact ⟨nD,by decide,by decide⟩
     case s2=>exact ⟨by omega,by decide,by decide⟩
     case s3 =>
      exact fun b hb=>QiO _ _ (Nat.le_trans (Qnp hb) (by omega:cntB B≤40000000)) (by decide)
     case s4=>exact nD
     case s5=>exact ⟨Nat.zero_le _,fun j hj=>absurd hj (Nat.not_lt_zero j)⟩
     case s15=>exact Nat.zero_le _
     all_goals have hLl:=Nat.le_trans (Qo4 L) (Qck L)
     all_goals obtain ⟨gL,gab⟩:=QqA (hz1.symm.trans hb0)
     all_goals simp only [QaF] at gab
     all_goals have hLf:∀ t∈L,t.fitT:=fun t ht=>Qeo t (by have:=Qdy ht; omega)
     all_goals have hLb:∀ t∈L,bigT t≤2000:=fun t ht=>by have:=Qdy ht; have:=Qfx t; omega
     all_goals have hx:capB 2000 B=cntB B:=QhI B 2000 (by omega)
     all_goals have hfB:fitB 1100000 B:=fun b hb=>QiO _ _ (Nat.le_trans (Qnp hb) (by omega)) (by decide)
     all_goals have hxD:capD 300 D=cntD D:=QhH D 300 (by omega)
     all_goals have hfD:fitD D:=QuY (by omega)
     all_goals have haf:a.fitT:=Qeo a (by omega)
     all_goals have hbf:b.fitT:=Qeo b (by omega)
     all_goals obtain ⟨eB,hVl,hVo⟩:=Qss (Qgh.1 (hz4.symm.trans hb4))
     case s6=>omega
     case s7=>exact hLf _ (by rw [List.getD_eq_getElem?_getD,List.getElem?_eq_getElem hb8]; exact List.getElem_mem _)
     case s8=>omega
     case s9 =>
      have hm:L.getD z7 Sh.tm.nil∈L:=by rw [List.getD_eq_getElem?_getD,List.getElem?_eq_getElem hb8]; exact List.getElem_mem _
      exact ⟨⟨hLf _ hm,by have:=hLb _ hm; omega⟩,hfB,hfD⟩
     case m11=>exact Qai (by rw [wJ _ (by omega) (by omega)]; rfl)
     case s10 =>
      refine ⟨hb8,fun j hj=>?_⟩
      by_cases hjz:j=z7
      · subst hjz; exact QeC.1 (hz9.symm.trans hb11)
      · exact hq7.2 j (by omega)
     case m12=>exact (by omega:L.length - (z7+1)<L.length - z7)
     all_goals have hLT:=Qos kL eB hq7.2 (by omega)
     case s11=>exact ⟨by omega,fun t ht=>Qf8 (Qbs kL ht) (by have:=Qdy ht; omega),Qf8 ka (by omega),Qf8 kb (by omega)⟩
     case s12=>exact haf
     case s13=>exact hbf
     case s14 =>
      have e:=Qjy (hz8 ▸ hb12)
      rw [hz8,e]
      refine ⟨⟨Qtk haf hbf,?_⟩,hfB,hfD⟩
      show bigT (eqT a b)≤9000
      have h8:=Qfx a
      have h9:=Qfx b
      rw [Qtw]
      omega
     case m13 =>
      exfalso
      have e:=Qjy (hz8 ▸ hb12)
      obtain ⟨s,hs,hs9⟩:=Qjp hz9 hb13
      have h8:=Qph hVl hVo hLT ka kb e hs (by rw [hs9] at hb16; exact hb16)
      rw [← eB] at h8
      refine hb17 (hz11.trans ?_)
      rw [hz8,e]
      exact QeC.2 h8
     case s16=>omega
     case s17=>exact ⟨by omega,hLf⟩
     case s18 =>
      obtain ⟨y,hy,hy2⟩:=QhL hz14 hb20
      rw [hy2]
      obtain ⟨f1,f2⟩:=Qrl hLf hLb (by omega) hy
      exact ⟨⟨f1,by show bigT y≤9000; omega⟩,hfB,hfD⟩
     case m15 =>
      exfalso
      obtain ⟨y,hy,hy2⟩:=QhL hz14 hb20
      have h8:=QoM hVl hVo hLT hy
      rw [← eB] at h8
      refine hb21 (hz15.trans ?_)
      rw [hy2]
      exact QeC.2 h8
     case m16=>exact Qai (by rw [wJ _ (by omega) (by omega)]; rfl)
     case s19=>exact hb19
     case m17=>exact (by omega:l.length - (z13+1)<l.length - z13)
     case m18=>exact Qai (by rw [wJ _ (by omega) (by omega)]; rfl)
     case s20=>exact hb19
     case m19=>exact (by omega:l.length - (z13+1)<l.length - z13)
   · cases hs
 · cases hs
end Go.Proofs.YtemhncjjiomppaaGreatDoor
