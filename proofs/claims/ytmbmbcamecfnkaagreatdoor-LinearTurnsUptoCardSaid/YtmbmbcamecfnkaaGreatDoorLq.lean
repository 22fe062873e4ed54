/- What a term is a sum of: linear.Of. -/
import Derived.Test.YtmbmbcamecfnkaaGreatDoorLk
import Derived.Test.YtmbmbcamecfnkaaGreatDoorHz
import Derived.Test.YtmbmbcamecfnkaaGreatDoorKz
namespace Go.Proofs.YtmbmbcamecfnkaaGreatDoor
open Go.RowKit
set_option linter.unusedVariables false
set_option linter.unusedSimpArgs false
set_option maxRecDepth 100000
structure Ln where
 K:List ByteArray
 C:List Ze
 n:Bool
 l:List Nat
 k:Nat
 deriving Inhabited
def lnC (x:Ln):List Lf:=[.dt .str x.K,.zs x.C,.v (.bool x.n),.lr x.l x.k]
def QpW:List (List Lf)→Option (List Ln)
 | []=>some []
 | [.dt .str K,.zs C,.v (.bool n),.lr l k]::R=>match QpW R with
  | some X=>some (⟨K,C,n,l,k⟩::X)
  | none=>none
 | _::_=>none
theorem QmB:∀ {R:List (List Lf)} {X:List Ln},QpW R=some X→R=X.map lnC
 | [],X,h=>by cases h; rfl
 | r::R,X,h=>by
  unfold QpW at h
  split at h
  · rename_i h1; cases h1
  · rename_i K C n l k R' h1
    cases h1
    split at h
    · rename_i X' hX
      cases h
      rw [QmB hX]; rfl
    · cases h
  · cases h
theorem QtH {k n:Nat} {L:List (List Lf)} {get:Nat→List Lf} (hn:L.length=n) (h:∀ i,i<n→L.getD i []=get i):SubB (.f (.row k L)) (.f (.gen k n get)):=⟨fun H B v hv=>by
 have hr:=hv.rd
 cases hr with
 | @sl _ a m g ao cap hview hg hc hm h0 b o val hb hcell hk hrec =>
  simp only [Lf.view,Option.some.injEq,Prod.mk.injEq] at hview
  obtain ⟨rfl,rfl,rfl⟩:=hview
  subst hn
  exact .f (.slf (fun _=>rfl) (f:=.gen k L.length get) rfl trivial hc hm h0 b o val hb hcell (fun i hi=>by show (get i).length=_; rw [← h i hi]; exact hk i hi) (fun i hi j x hx=>hrec i hi j x (by show (L.getD i [])[j]?=some x; rw [h i hi]; exact hx)))⟩
def lnAt (X:List Ln) (i:Nat):Ln:=X.getD i default
def lnG (X:List Ln):Lf:=.gen 4 X.length fun i=>[.dt .str (lnAt X i).K,.zs (lnAt X i).C,.v (.bool (lnAt X i).n),.lr (lnAt X i).l (lnAt X i).k]
theorem ln_sub {R:List (List Lf)} {X:List Ln} (h:QpW R=some X):SubB (.f (.row 4 R)) (.f (lnG X)):=by
 rw [QmB h]
 refine QtH (List.length_map ..) fun i hi=>?_
 rw [List.getD_eq_getElem?_getD,List.getElem?_map,List.getElem?_eq_getElem hi]
 unfold lnAt
 rw [List.getD_eq_getElem?_getD,List.getElem?_eq_getElem hi]
 rfl
def qAt (Q:List QE) (i:Nat):QE:=Q.getD i ((false,[],0),(false,[],0))
def zAt (C:List Ze) (k:Nat):Ze:=C.getD k (false,[],0)
def atL (A:Lz) (c:Rat) (x:Ln):Nat→Lz
 | 0=>A
 | k+1=>addL (atL A c x k) (x.K.getD k Sh.str.nil) (c * ((zV (zAt x.C k).1 (zAt x.C k).2.1:Int):Rat))
def Qa2 (Q:List QE) (X:List Ln):Nat→Lz
 | 0=>[]
 | i+1=>atL (Qa2 Q X i) (ofE (qAt Q i)) (lnAt X i) (lnAt X i).K.length
def QaD (Q:List QE) (X:List Ln):Nat→Rat
 | 0=>0
 | i+1=>ofE (qAt Q i) * ((zV (lnAt X i).n (lnAt X i).l:Int):Rat)+QaD Q X i
def QeA (e:QE):Bool:=Qa7 e.1.1 e.1.2.1 e.2.1 e.2.2.1
def Qcn (x:Ln):Bool:=QaX x.K x.C x.n x.l
def allR (Q:List QE) (X:List Ln) (i:Nat):Prop:=∀ j,j<i→QeA (qAt Q j)=true∧Qcn (lnAt X j)=true
open Classical in
noncomputable def sumF (Q:List QE) (X:List Ln):Option (Lz × Rat):=if Q.length=X.length∧allR Q X X.length then some (Qa2 Q X X.length,QaD Q X X.length) else none
def Qcb:Option (Lz × Rat)→List ByteArray
 | some p=>p.1.map (·.1)
 | none=>[]
def Qbh:Option (Lz × Rat)→List QE
 | some p=>p.1.map fun x=>rawE 5000 x.2
 | none=>[]
def numO:Option (Lz × Rat)→Rat
 | some p=>p.2
 | none=>0
structure FitS (Q:List QE) (X:List Ln):Prop where
 q:∀ e∈Q,e.1.2.2≤2100∧e.2.2.2≤2100
 x:∀ x∈X,x.k≤2100∧(∀ c∈x.C,c.2.2≤2100)∧x.C.length≤1000000∧x.K.length≤1000000
 len:Q.length≤1000000∧X.length≤1000000
 fit:∀ i k,i<X.length→k≤(lnAt X i).K.length→fitL 5000 (atL (Qa2 Q X i) (ofE (qAt Q i)) (lnAt X i) k)
 num:∀ i,i≤X.length→ZB (QaD Q X i).num 5000∧ZB (QaD Q X i).den 5000
 key:(Qa2 Q X X.length).length≤1000000∧∀ x∈Qa2 Q X X.length,x.1.size≤maxLen
noncomputable def sSumL:Spec
 | [.f y,.f (.row 4 R)]=>match Qgo y,QpW R with
  | some Q,some X=>some (some (FitS Q X),.nm (Option (Lz × Rat)) (sumF Q X) fun z=>.tup [.f (.dt .str (Qcb z)),.f (.qs (Qbh z)),.agg (QaU (qC 5000 (numO z))),bV z.isSome])
  | _,_=>none
 | _=>none
theorem QbW {A:Lz} {c:Rat} {x:Ln} (h:canL A):∀ k,canL (atL A c x k)
 | 0=>h
 | k+1=>Qb2 (QbW h k)
theorem Qcj {Q:List QE} {X:List Ln}:∀ i,canL (Qa2 Q X i)
 | 0=>trivial
 | i+1=>QbW (Qcj i) _
theorem nil_qs:SubB (.f (.v (.slice none 0 0))) (.f (.qs [])):=⟨fun H B v h=>by
 have:=h.val
 subst this
 exact .f (QgQ rfl trivial)⟩
theorem Qfa {Q:List QE} {X:List Ln} (h:¬ (Q.length=X.length∧allR Q X X.length)):sumF Q X=none:=if_neg h
theorem Qck {Q:List QE} {X:List Ln} (h:Q.length=X.length∧allR Q X X.length):sumF Q X=some (Qa2 Q X X.length,QaD Q X X.length):=if_pos h
theorem Qqm {Q:List QE} {X:List Ln} {z:Rat} {k j:Nat} (h:¬ (Q.length=X.length∧allR Q X X.length)) (hz:z=0) :
  Sub (.tup [.f (.v (.slice none 0 0)),.f (.v (.slice none 0 0)),.agg [.f (.zn z.num),.f (.zd z.num k),.f (.zn z.den),.f (.zd z.den j)],.f (.v (.bool false))]) (.tup [.f (.dt .str (Qcb (sumF Q X))),.f (.qs (Qbh (sumF Q X))),.agg (QaU (qC 5000 (numO (sumF Q X)))),bV (sumF Q X).isSome]):=by
 rw [Qfa h]
 subst hz
 exact (Qnq (.cons (Qie .str) (.cons nil_qs (.cons (Qht (.cons (.refl _) (.cons (Qai rfl zb0L) (.cons (.refl _) (.cons (Qai rfl (zb1L (by omega))) .nil))))) (.cons (.refl _) .nil))))).sub
theorem Quc {Q:List QE} {X:List Ln} (h:Q.length=X.length∧allR Q X X.length) :
  Sub (.tup [.f (.dt .str ((Qa2 Q X X.length).map (·.1))),.f (.qs ((Qa2 Q X X.length).map fun x=>rawE 5000 x.2)),.agg [.f (.zn (QaD Q X X.length).num),.f (.zd (QaD Q X X.length).num 5000),.f (.zn (QaD Q X X.length).den),.f (.zd (QaD Q X X.length).den 5000)],.f (.v (.bool true))]) (.tup [.f (.dt .str (Qcb (sumF Q X))),.f (.qs (Qbh (sumF Q X))),.agg (QaU (qC 5000 (numO (sumF Q X)))),bV (sumF Q X).isSome]):=by
 rw [Qck h]
 exact .refl _
theorem q_mem {Q:List QE} {i:Nat} (h:i<Q.length):Q.getD i ((false,[],0),(false,[],0))∈Q:=gotD _ h
theorem Qsx {X:List Ln} {i:Nat} (h:i<X.length):lnAt X i∈X:=gotD _ h
theorem QnH {x:Ln} (h:Qcn x=true):x.K.length=x.C.length∧Qak x.n x.l=true∧∀ k,k<x.C.length→Qak (zAt x.C k).1 (zAt x.C k).2.1=true:=by
 unfold Qcn QaX at h
 simp only [Bool.and_eq_true,decide_eq_true_eq,Bool.not_eq_true'] at h
 refine ⟨h.2.1,h.2.2.1,fun k hk=>?_⟩
 have h1:=List.any_eq_false.1 h.2.2.2 _ (gotD (false,[],0) hk)
 unfold oddZ at h1
 simp only [Bool.or_eq_true,not_or,Bool.not_eq_true',Bool.not_eq_false] at h1
 exact h1.1
theorem QkZ {e:QE} {z w:Rat} {k j:Nat} (h:w=List.foldl (fun (a:Rat) e=>a * ofE e) (1:Rat) [((e.1.1,e.1.2.1,e.1.2.2),e.2.1,e.2.2.1,e.2.2.2),((zNeg z.num,digs 1000000000 z.num.natAbs,k),zNeg (z.den:Int),digs 1000000000 (z.den:Int).natAbs,j)]):w=ofE e * z:=by
 rw [h]
 show (1:Rat) * ofE e * Qaw _ _ _ _=_
 rw [Qaz,Rat.one_mul]
theorem FitS.sum {Q:List QE} {X:List Ln} (h:FitS Q X):∀ i,i≤X.length→fitL 5000 (Qa2 Q X i)
 | 0,_=>fun x hx=>by cases hx
 | i+1,hi=>h.fit i _ (by omega) (Nat.le_refl _)
def zeroQ:List PV:=[.f (.v (.bool false)),.f (.v (.slice none 0 0)),.f (.v (.bool false)),.f (.v (.slice none 0 0))]
def sumO (q:Rat):PO:=.cells [.f (.zn q.num),.f (.zd q.num 5000),.f (.zn q.den),.f (.zd q.den 5000),.wr 1]
set_option maxHeartbeats 8000000 in
theorem cSumL {E:Env} (hU:Up E):Contract Tryz.prog E 14 sSumL:=by
 refine Qan [(16,Qgu),(15,QfP),(67,Qcx),(69,Qjx (fun a b=>a * b) 1 (6,6) bTi)] [(66,Qmb),(68,sAtom),(70,Ql6 5000),(71,sParts)] Tryz.ntmps14 Tryz.func14 (by kernel_rfl) (by kernel_rfl) hU ⟨Qlw hU,Qm9 hU,Qi0 hU,cMulQ hU,trivial⟩ ⟨Qs0 hU,cAtom hU,QsV hU 5000,QqI hU,trivial⟩ ?_
 intro xs p r hs hp
 unfold sSumL at hs
 split at hs
 · rename_i y R
   split at hs
   · rename_i Q X hQ hX
     cases hs
     have hF:=hp _ rfl
     refine ⟨[.f (.qs Q),.f (lnG X)],[
      (5,.s ⟨Nat,fun i=>⟨[(0,.f (.qs Q)),(1,.f (lnG X)),(6,.bp 0 0),(8,.bp 2 0),(24,.f (lnG X)),(25,iV X.length),(26,iV i)],[.cells zeroQ,.map .str (hasL (Qa2 Q X i)) (getL 5000 (Qa2 Q X i)) [] [],sumO (QaD Q X i)]⟩,fun i=>i≤X.length∧allR Q X i,fun i=>X.length - i⟩),
      (10,⟨Nat × Nat,fun q=>⟨[(0,.f (.qs Q)),(1,.f (lnG X)),(6,.bp 0 0),(8,.bp 2 0),(9,iV q.1),(10,.bp 3 0),(24,.f (lnG X)),(25,iV X.length),(26,iV q.1),(45,.f (.dt .str (lnAt X q.1).K)),(46,iV (lnAt X q.1).K.length),(47,iV q.2)],[.cells zeroQ,.map .str (hasL (atL (Qa2 Q X q.1) (ofE (qAt Q q.1)) (lnAt X q.1) q.2)) (getL 5000 (atL (Qa2 Q X q.1) (ofE (qAt Q q.1)) (lnAt X q.1) q.2)) [] [],sumO (QaD Q X q.1),.cells [.f (.dt .str (lnAt X q.1).K),.f (.zs (lnAt X q.1).C),.f (.v (.bool (lnAt X q.1).n)),.f (.lr (lnAt X q.1).l (lnAt X q.1).k)]]⟩,fun q=>q.1<X.length∧q.2≤(lnAt X q.1).K.length∧allR Q X (q.1+1),fun q=>(lnAt X q.1).K.length - q.2,fun x y=>y.1=x.1⟩)],.cons (Qhy hQ) (.cons (ln_sub hX).sub .nil),rfl,fun _ hsh=>?_⟩
     have h0:=hF
     refine Qag (p:=let A0:=PV.tup [dP Sh.str (Qcb (sumF Q X)),PV.f (Lf.qs (Qbh (sumF Q X))),PV.agg [PV.f (Lf.zn (numO (sumF Q X)).num),PV.f (Lf.zd (numO (sumF Q X)).num 5000),PV.f (Lf.zn (↑(numO (sumF Q X)).den:Int)),PV.f (Lf.zd (↑(numO (sumF Q X)).den:Int) 5000)],bV ((sumF Q X).isSome)]; let A3:=fun (z3:Lz)=>(Lf.qs (List.map (fun (x:ByteArray × Rat)=>rawE 5000 x.snd) z3)); let A5:=PV.f (Lf.gen 4 X.length fun (i:Nat)=>[Lf.dt Sh.str (lnAt X i).K,Lf.zs (lnAt X i).C,Lf.v (Value.bool (lnAt X i).n),Lf.lr (lnAt X i).l (lnAt X i).k]); let A8:=fun (z3:Lz)=>(List.map (fun (x:ByteArray × Rat)=>x.fst) z3); let A10:= ((false,[],0),false,[],0); let A11:=0≤95000∧∀ (z3:Rat),(z3=match Qak false [] with | true=>(↑(zV false []):Rat) | false=>(0:Rat))→true=true∧Sub (PV.tup [nlP,nlP,PV.agg [PV.f (Lf.zn z3.num),PV.f (Lf.zd z3.num 3),PV.f (Lf.zn (↑z3.den:Int)),PV.f (Lf.zd (↑z3.den:Int) 6)],bV false]) A0; let A13:=fun (z2:Nat)=>(lnAt X (↑z2:Int).toNat); let A16:=rfB (bV false)∧rfB (nlP)∧rfB (bV false)∧rfB (nlP)∧True; let A17:=fun (z4:Nat × Nat)=>(↑(QaD Q X z4.fst).den:Int); let A18:=fun (z4:Nat × Nat)=>(lnAt X z4.fst); let A19:=fun (z4:Nat × Nat)=>(Q.getD (↑z4.fst:Int).toNat A10); let A20:=(↑X.length:Int); let A21:=fun (z2:Nat)=>(Q.getD (↑z2:Int).toNat A10); let A1:=fun (z3:Lz) (z2:Nat)=>(PV.tup [dP Sh.str (A8 z3),PV.f (A3 z3),PV.agg [PV.f (Lf.zn (QaD Q X z2).num),PV.f (Lf.zd (QaD Q X z2).num 5000),PV.f (Lf.zn (↑(QaD Q X z2).den:Int)),PV.f (Lf.zd (↑(QaD Q X z2).den:Int) 5000)],bV true]); let A2:=fun (z4:Nat × Nat)=>(((A19 z4).fst.fst,(A19 z4).fst.snd.fst,(A19 z4).fst.snd.snd),(A19 z4).snd.fst,(A19 z4).snd.snd.fst,(A19 z4).snd.snd.snd); let A7:=fun (z5:Rat) (z4:Nat × Nat)=>((zNeg z5.num,digs 1000000000 z5.num.natAbs,(A18 z4).k+3),zNeg (↑z5.den:Int),digs 1000000000 (↑z5.den:Int).natAbs,6); let A12:=fun (z4:Nat × Nat)=>(atL (Qa2 Q X z4.fst) (ofE (qAt Q z4.fst)) (A18 z4) z4.snd); let A14:=fun (z4:Nat × Nat)=>((A18 z4).C.getD (↑z4.snd:Int).toNat (false,[],0)); let A15:=fun (z3:Lz) (z2:Nat)=>(SameL [PV.any,PV.f (A3 z3),PV.any] [PV.any,PV.f (A3 z3),PV.any]∧SameL [PV.any,PV.any,PV.any] [PV.any,PV.any,PV.any]∧SameL [PV.any,PV.any,PV.any] [PV.any,PV.any,PV.any]∧SameL [PV.any,PV.any,PV.any] [PV.any,PV.any,PV.any]∧true=true∧Sub (A1 z3 z2) A0); let A4:=fun (z3:Lz) (z2:Nat)=>(SameL [PV.any,PV.f (A3 z3),PV.any] [PV.any,PV.f (A3 z3),PV.any]∧(A15 z3 z2)∧SameL [PV.any,PV.any,PV.any] [PV.any,PV.any,PV.any]∧SameL [PV.any,PV.any,PV.any] [PV.any,PV.any,PV.any]∧SameL [PV.any,PV.any,PV.any] [PV.any,PV.any,PV.any]∧SameL [PV.any,PV.any,PV.any] [PV.any,PV.any,PV.any]∧true=true∧Sub (A1 z3 z2) A0); let A6:=fun (z5:Rat) (z4:Nat × Nat)=>((zNeg z5.num,digs 1000000000 z5.num.natAbs,(A14 z4).snd.snd+3),zNeg (↑z5.den:Int),digs 1000000000 (↑z5.den:Int).natAbs,6); let A9:=fun (z3:Lz) (z2:Nat)=>(SameL [PV.any,PV.f (A3 z3),PV.any] [PV.any,PV.f (A3 z3),PV.any]∧(A4 z3 z2)∧SameL [PV.any,PV.any,PV.any] [PV.any,PV.any,PV.any]∧SameL [PV.any,PV.any,PV.any] [PV.any,PV.any,PV.any]∧SameL [PV.any,PV.any,PV.any] [PV.any,PV.any,PV.any]∧SameL [PV.any,PV.any,PV.any] [PV.any,PV.any,PV.any]∧SameL [PV.any,PV.any,PV.any] [PV.any,PV.any,PV.any]∧true=true∧Sub (A1 z3 z2) A0); ifB ((↑Q.length:Int) != A20) (true=true∧Sub (PV.tup [nlP,nlP,PV.agg [PV.f (Lf.zn (0:Int)),PV.f (Lf.zd (0:Int) 5000),PV.f (Lf.zn (1:Int)),PV.f (Lf.zd (1:Int) 5000)],bV false]) A0) (∃ (x1:Nat),((A16∧MapW Kt.str (fun (s:Kt.str.T)=>[].any fun (x:ByteArray × Rat)=>decide (x.fst=s)) (fun (s:Kt.str.T)=>qC 5000 (valL [] s)) [] [] Kt.str (fun (s:Kt.str.T)=>List.any (Qa2 Q X x1) fun (x:ByteArray × Rat)=>decide (x.fst=s)) (fun (s:Kt.str.T)=>qC 5000 (valL (Qa2 Q X x1) s)) [] []∧(SubB (PV.f (Lf.zn (0:Int))) (PV.f (Lf.zn (QaD Q X x1).num))∧SubB (PV.f (Lf.zd (0:Int) 5000)) (PV.f (Lf.zd (QaD Q X x1).num 5000))∧SubB (PV.f (Lf.zn (1:Int))) (PV.f (Lf.zn (↑(QaD Q X x1).den:Int)))∧SubB (PV.f (Lf.zd (1:Int) 5000)) (PV.f (Lf.zd (↑(QaD Q X x1).den:Int) 5000))∧rfB (PV.wr 1)∧True)∧True)∧rfB (PV.f (Lf.qs Q))∧rfB A5∧rfB (PV.bp 0 0)∧rfB (PV.bp 2 0)∧rfB A5∧rfB (iV A20)∧SubB (iV 0) (iV (↑x1:Int))∧True)∧(x1≤X.length∧allR Q X x1)∧True∧∀ (z2:Nat),z2≤X.length∧allR Q X z2→True→ifB (decide ((↑z2:Int)<A20)) (((0:Int)≤(↑z2:Int)∧(↑z2:Int)<A20)∧((0:Int)≤(↑z2:Int)∧(↑z2:Int)<(↑Q.length:Int))∧((A21 z2).fst.snd.snd≤435000∧(A21 z2).snd.snd.snd≤435000)∧ifB (!Qa7 (A21 z2).fst.fst (A21 z2).fst.snd.fst (A21 z2).snd.fst (A21 z2).snd.snd.fst) A11 (((∀ (c:Bool × List Nat × Nat),c∈(A13 z2).C→c.snd.snd≤1000000)∧((A13 z2).C.length≤100000000∧(A13 z2).K.length≤100000000)∧(A13 z2).k≤1000000)∧ifB (!QaX (A13 z2).K (A13 z2).C (A13 z2).n (A13 z2).l) A11 (∃ (x3:Nat × Nat),((A16∧MapW Kt.str (fun (s:Kt.str.T)=>List.any (Qa2 Q X z2) fun (x:ByteArray × Rat)=>decide (x.fst=s)) (fun (s:Kt.str.T)=>qC 5000 (valL (Qa2 Q X z2) s)) [] [] Kt.str (fun (s:Kt.str.T)=>List.any (atL (Qa2 Q X x3.fst) (ofE (qAt Q x3.fst)) (lnAt X x3.fst) x3.snd) fun (x:ByteArray × Rat)=>decide (x.fst=s)) (fun (s:Kt.str.T)=>qC 5000 (valL (atL (Qa2 Q X x3.fst) (ofE (qAt Q x3.fst)) (lnAt X x3.fst) x3.snd) s)) [] []∧(SubB (PV.f (Lf.zn (QaD Q X z2).num)) (PV.f (Lf.zn (QaD Q X x3.fst).num))∧SubB (PV.f (Lf.zd (QaD Q X z2).num 5000)) (PV.f (Lf.zd (QaD Q X x3.fst).num 5000))∧SubB (PV.f (Lf.zn (↑(QaD Q X z2).den:Int))) (PV.f (Lf.zn (↑(QaD Q X x3.fst).den:Int)))∧SubB (PV.f (Lf.zd (↑(QaD Q X z2).den:Int) 5000)) (PV.f (Lf.zd (↑(QaD Q X x3.fst).den:Int) 5000))∧rfB (PV.wr 1)∧True)∧(SubB (dP Sh.str (A13 z2).K) (dP Sh.str (lnAt X x3.fst).K)∧SubB (PV.f (Lf.zs (A13 z2).C)) (PV.f (Lf.zs (lnAt X x3.fst).C))∧SubB (bV ((A13 z2).n)) (bV ((lnAt X x3.fst).n))∧SubB (PV.f (Lf.lr (A13 z2).l (A13 z2).k)) (PV.f (Lf.lr (lnAt X x3.fst).l (lnAt X x3.fst).k))∧True)∧True)∧rfB (PV.f (Lf.qs Q))∧rfB A5∧rfB (PV.bp 0 0)∧rfB (PV.bp 2 0)∧SubB (iV (↑z2:Int)) (iV (↑x3.fst:Int))∧rfB (PV.bp 3 0)∧rfB A5∧rfB (iV A20)∧SubB (iV (↑z2:Int)) (iV (↑x3.fst:Int))∧SubB (dP Sh.str (A13 z2).K) (dP Sh.str (lnAt X x3.fst).K)∧SubB (iV (↑(A13 z2).K.length:Int)) (iV (↑(lnAt X x3.fst).K.length:Int))∧SubB (iV 0) (iV (↑x3.snd:Int))∧True)∧(x3.fst<X.length∧x3.snd≤(lnAt X x3.fst).K.length∧allR Q X (x3.fst+1))∧x3.fst=x3.fst∧∀ (z4:Nat × Nat),z4.fst<X.length∧z4.snd≤(A18 z4).K.length∧allR Q X (z4.fst+1)→z4.fst=x3.fst→ifB (decide ((↑z4.snd:Int)<(↑(A18 z4).K.length:Int))) (((0:Int)≤(↑z4.snd:Int)∧(↑z4.snd:Int)<(↑(A18 z4).K.length:Int))∧((0:Int)≤(↑z4.fst:Int)∧(↑z4.fst:Int)<(↑Q.length:Int))∧((0:Int)≤(↑z4.snd:Int)∧(↑z4.snd:Int)<(↑(A18 z4).C.length:Int))∧(A14 z4).snd.snd≤95000∧∀ (z5:Rat),(z5=match Qak (A14 z4).fst (A14 z4).snd.fst with | true=>(↑(zV (A14 z4).fst (A14 z4).snd.fst):Rat) | false=>(0:Rat))→((List.foldl bTi (6,6) [(A2 z4),(A6 z5 z4)]).fst≤95000∧(List.foldl bTi (6,6) [(A2 z4),(A6 z5 z4)]).snd≤95000∧2≤1000000)∧∀ (z6:Rat),z6=List.foldl (fun (a:Rat) (e:QE)=>a * ofE e) (1:Rat) [(A2 z4),(A6 z5 z4)]→(isQ z6.num z6.num (↑z6.den:Int) (↑z6.den:Int)∧((List.foldl bTi (6,6) [(A2 z4),(A6 z5 z4)]).fst≤15000∧(List.foldl bTi (6,6) [(A2 z4),(A6 z5 z4)]).snd≤15000)∧∃ (A:Lz),canL A∧fitL 5000 A∧hasL (A12 z4)=hasL A∧getL 5000 (A12 z4)=getL 5000 A∧fitL 5000 (addL A ((A18 z4).K.getD (↑z4.snd:Int).toNat Sh.str.nil) (Rat.divInt z6.num (↑z6.den:Int))))∧∀ (z7:Lz),z7=addL (lzOf 5000 (hasL (A12 z4)) (getL 5000 (A12 z4))) ((A18 z4).K.getD (↑z4.snd:Int).toNat Sh.str.nil) (Rat.divInt z6.num (↑z6.den:Int))→∃ (x8:Nat × Nat),((A16∧MapW Kt.str (fun (s:Kt.str.T)=>List.any z7 fun (x:ByteArray × Rat)=>decide (x.fst=s)) (fun (s:Kt.str.T)=>qC 5000 (valL z7 s)) [] [] Kt.str (fun (s:Kt.str.T)=>List.any (atL (Qa2 Q X x8.fst) (ofE (qAt Q x8.fst)) (lnAt X x8.fst) x8.snd) fun (x:ByteArray × Rat)=>decide (x.fst=s)) (fun (s:Kt.str.T)=>qC 5000 (valL (atL (Qa2 Q X x8.fst) (ofE (qAt Q x8.fst)) (lnAt X x8.fst) x8.snd) s)) [] []∧(SubB (PV.f (Lf.zn (QaD Q X z4.fst).num)) (PV.f (Lf.zn (QaD Q X x8.fst).num))∧SubB (PV.f (Lf.zd (QaD Q X z4.fst).num 5000)) (PV.f (Lf.zd (QaD Q X x8.fst).num 5000))∧SubB (PV.f (Lf.zn (A17 z4))) (PV.f (Lf.zn (↑(QaD Q X x8.fst).den:Int)))∧SubB (PV.f (Lf.zd (A17 z4) 5000)) (PV.f (Lf.zd (↑(QaD Q X x8.fst).den:Int) 5000))∧rfB (PV.wr 1)∧True)∧(SubB (dP Sh.str (A18 z4).K) (dP Sh.str (lnAt X x8.fst).K)∧SubB (PV.f (Lf.zs (A18 z4).C)) (PV.f (Lf.zs (lnAt X x8.fst).C))∧SubB (bV ((A18 z4).n)) (bV ((lnAt X x8.fst).n))∧SubB (PV.f (Lf.lr (A18 z4).l (A18 z4).k)) (PV.f (Lf.lr (lnAt X x8.fst).l (lnAt X x8.fst).k))∧True)∧True)∧rfB (PV.f (Lf.qs Q))∧rfB A5∧rfB (PV.bp 0 0)∧rfB (PV.bp 2 0)∧SubB (iV (↑z4.fst:Int)) (iV (↑x8.fst:Int))∧rfB (PV.bp 3 0)∧rfB A5∧rfB (iV A20)∧SubB (iV (↑z4.fst:Int)) (iV (↑x8.fst:Int))∧SubB (dP Sh.str (A18 z4).K) (dP Sh.str (lnAt X x8.fst).K)∧SubB (iV (↑(A18 z4).K.length:Int)) (iV (↑(lnAt X x8.fst).K.length:Int))∧SubB (iV (IntKind.i64.wrap ((↑z4.snd:Int)+(1:Int)))) (iV (↑x8.snd:Int))∧True)∧(x8.fst<X.length∧x8.snd≤(lnAt X x8.fst).K.length∧allR Q X (x8.fst+1))∧x8.fst=x3.fst∧((lnAt X x8.fst).K.length - x8.snd).succ.le ((A18 z4).K.length - z4.snd)) (((0:Int)≤(↑z4.fst:Int)∧(↑z4.fst:Int)<(↑Q.length:Int))∧(A18 z4).k≤95000∧∀ (z5:Rat),(z5=match Qak (A18 z4).n (A18 z4).l with | true=>(↑(zV (A18 z4).n (A18 z4).l):Rat) | false=>(0:Rat))→((List.foldl bTi (6,6) [(A2 z4),(A7 z5 z4)]).fst≤95000∧(List.foldl bTi (6,6) [(A2 z4),(A7 z5 z4)]).snd≤95000∧2≤1000000)∧∀ (z6:Rat),z6=List.foldl (fun (a:Rat) (e:QE)=>a * ofE e) (1:Rat) [(A2 z4),(A7 z5 z4)]→((isQ (QaD Q X z4.fst).num (QaD Q X z4.fst).num (A17 z4) (A17 z4)∧isQ z6.num z6.num (↑z6.den:Int) (↑z6.den:Int))∧(5000≤15000∧5000≤15000∧(List.foldl bTi (6,6) [(A2 z4),(A7 z5 z4)]).fst≤15000∧(List.foldl bTi (6,6) [(A2 z4),(A7 z5 z4)]).snd≤15000)∧ZB (Rat.divInt z6.num (↑z6.den:Int)+Rat.divInt (QaD Q X z4.fst).num (A17 z4)).num 5000∧ZB (↑(Rat.divInt z6.num (↑z6.den:Int)+Rat.divInt (QaD Q X z4.fst).num (A17 z4)).den:Int) 5000)∧∀ (z7:Rat),z7=Rat.divInt z6.num (↑z6.den:Int)+Rat.divInt (QaD Q X z4.fst).num (A17 z4)→∃ (x8:Nat),((A16∧MapW Kt.str (fun (s:Kt.str.T)=>List.any (A12 z4) fun (x:ByteArray × Rat)=>decide (x.fst=s)) (fun (s:Kt.str.T)=>qC 5000 (valL (A12 z4) s)) [] [] Kt.str (fun (s:Kt.str.T)=>List.any (Qa2 Q X x8) fun (x:ByteArray × Rat)=>decide (x.fst=s)) (fun (s:Kt.str.T)=>qC 5000 (valL (Qa2 Q X x8) s)) [] []∧(SubB (PV.f (Lf.zn z7.num)) (PV.f (Lf.zn (QaD Q X x8).num))∧SubB (PV.f (Lf.zd z7.num 5000)) (PV.f (Lf.zd (QaD Q X x8).num 5000))∧SubB (PV.f (Lf.zn (↑z7.den:Int))) (PV.f (Lf.zn (↑(QaD Q X x8).den:Int)))∧SubB (PV.f (Lf.zd (↑z7.den:Int) 5000)) (PV.f (Lf.zd (↑(QaD Q X x8).den:Int) 5000))∧rfB (PV.wr 1)∧True)∧True)∧rfB (PV.f (Lf.qs Q))∧rfB A5∧rfB (PV.bp 0 0)∧rfB (PV.bp 2 0)∧rfB A5∧rfB (iV A20)∧SubB (iV (IntKind.i64.wrap ((↑z4.fst:Int)+(1:Int)))) (iV (↑x8:Int))∧True)∧(x8≤X.length∧allR Q X x8)∧True∧(X.length - x8).succ.le (X.length - z2))))) (isL (hasL (Qa2 Q X z2)) (getL 5000 (Qa2 Q X z2))∧∀ (z3:Lz),z3=lzOf 5000 (hasL (Qa2 Q X z2)) (getL 5000 (Qa2 Q X z2))→SameL [dP Sh.str (A8 z3),PV.f (A3 z3),PV.bp 2 0] [dP Sh.str (A8 z3),PV.f (A3 z3),PV.bp 2 0]∧(SameL [dP Sh.str (A8 z3),PV.f (A3 z3),PV.any] [dP Sh.str (A8 z3),PV.f (A3 z3),PV.any]∧(SameL [dP Sh.str (A8 z3),PV.f (A3 z3),PV.any] [dP Sh.str (A8 z3),PV.f (A3 z3),PV.any]∧(SameL [dP Sh.str (A8 z3),PV.f (A3 z3),PV.any] [dP Sh.str (A8 z3),PV.f (A3 z3),PV.any]∧(SameL [dP Sh.str (A8 z3),PV.f (A3 z3),PV.any] [dP Sh.str (A8 z3),PV.f (A3 z3),PV.any]∧SameL [PV.any,PV.f (A3 z3),PV.any] [PV.any,PV.f (A3 z3),PV.any]∧SameL [PV.any,PV.any,PV.any] [PV.any,PV.any,PV.any]∧SameL [PV.any,PV.any,PV.any] [PV.any,PV.any,PV.any]∧SameL [PV.any,PV.any,PV.any] [PV.any,PV.any,PV.any]∧true=true∧Sub (A1 z3 z2) A0)∧SameL [PV.any,PV.f (A3 z3),PV.any] [PV.any,PV.f (A3 z3),PV.any]∧(A15 z3 z2)∧SameL [PV.any,PV.any,PV.any] [PV.any,PV.any,PV.any]∧SameL [PV.any,PV.any,PV.any] [PV.any,PV.any,PV.any]∧SameL [PV.any,PV.any,PV.any] [PV.any,PV.any,PV.any]∧SameL [PV.any,PV.any,PV.any] [PV.any,PV.any,PV.any]∧true=true∧Sub (A1 z3 z2) A0)∧SameL [PV.any,PV.f (A3 z3),PV.any] [PV.any,PV.f (A3 z3),PV.any]∧(A4 z3 z2)∧SameL [PV.any,PV.any,PV.any] [PV.any,PV.any,PV.any]∧SameL [PV.any,PV.any,PV.any] [PV.any,PV.any,PV.any]∧SameL [PV.any,PV.any,PV.any] [PV.any,PV.any,PV.any]∧SameL [PV.any,PV.any,PV.any] [PV.any,PV.any,PV.any]∧SameL [PV.any,PV.any,PV.any] [PV.any,PV.any,PV.any]∧true=true∧Sub (A1 z3 z2) A0)∧SameL [PV.any,PV.f (A3 z3),PV.any] [PV.any,PV.f (A3 z3),PV.any]∧(A9 z3 z2)∧SameL [PV.any,PV.any,PV.any] [PV.any,PV.any,PV.any]∧SameL [PV.any,PV.any,PV.any] [PV.any,PV.any,PV.any]∧SameL [PV.any,PV.any,PV.any] [PV.any,PV.any,PV.any]∧SameL [PV.any,PV.any,PV.any] [PV.any,PV.any,PV.any]∧SameL [PV.any,PV.any,PV.any] [PV.any,PV.any,PV.any]∧SameL [PV.any,PV.any,PV.any] [PV.any,PV.any,PV.any]∧true=true∧Sub (A1 z3 z2) A0)∧SameL [PV.any,PV.f (A3 z3),PV.bp 2 0] [PV.any,PV.f (A3 z3),PV.bp 2 0]∧(SameL [PV.any,PV.f (A3 z3),PV.any] [PV.any,PV.f (A3 z3),PV.any]∧(A9 z3 z2)∧SameL [PV.any,PV.any,PV.any] [PV.any,PV.any,PV.any]∧SameL [PV.any,PV.any,PV.any] [PV.any,PV.any,PV.any]∧SameL [PV.any,PV.any,PV.any] [PV.any,PV.any,PV.any]∧SameL [PV.any,PV.any,PV.any] [PV.any,PV.any,PV.any]∧SameL [PV.any,PV.any,PV.any] [PV.any,PV.any,PV.any]∧SameL [PV.any,PV.any,PV.any] [PV.any,PV.any,PV.any]∧true=true∧Sub (A1 z3 z2) A0)∧SameL [PV.any,PV.any,PV.bp 2 0] [PV.any,PV.any,PV.bp 2 0]∧SameL [PV.any,PV.any,PV.any] [PV.any,PV.any,PV.any]∧SameL [PV.any,PV.any,PV.any] [PV.any,PV.any,PV.any]∧SameL [PV.any,PV.any,PV.any] [PV.any,PV.any,PV.any]∧SameL [PV.any,PV.any,PV.any] [PV.any,PV.any,PV.any]∧SameL [PV.any,PV.any,PV.any] [PV.any,PV.any,PV.any]∧SameL [PV.any,PV.any,PV.any] [PV.any,PV.any,PV.any]∧true=true∧Sub (A1 z3 z2) A0))) ?kr ?_
     case kr=>kernel_rfl
     conv=>zeta
     refine Qae.2 ⟨fun hb0=>⟨rfl,?m0⟩,fun hb0=>⟨?x0,⟨⟨⟨⟨.refl _,⟨.refl _,⟨.refl _,⟨.refl _,trivial⟩⟩⟩⟩,⟨?m1,⟨⟨?m2,⟨?m3,⟨?m4,⟨?m5,⟨.refl _,trivial⟩⟩⟩⟩⟩,trivial⟩⟩⟩,⟨.refl _,⟨.refl _,⟨.refl _,⟨.refl _,⟨.refl _,⟨.refl _,⟨?m6,trivial⟩⟩⟩⟩⟩⟩⟩⟩,⟨?s0,⟨trivial,fun z2=>fun hq1=>fun _=>Qae.2 ⟨fun hb2=>⟨?s1,⟨?s2,⟨?s3,Qae.2 ⟨fun hb3=>⟨?s4,fun z3=>fun hz3=>⟨rfl,?m7⟩⟩,fun hb3=>⟨?s5,Qae.2 ⟨fun hb4=>⟨?s6,fun z3=>fun hz3=>⟨rfl,?m8⟩⟩,fun hb4=>⟨?x1,⟨⟨⟨⟨.refl _,⟨.refl _,⟨.refl _,⟨.refl _,trivial⟩⟩⟩⟩,⟨?m9,⟨⟨?m10,⟨?m11,⟨?m12,⟨?m13,⟨.refl _,trivial⟩⟩⟩⟩⟩,⟨⟨?m14,⟨?m15,⟨?m16,⟨?m17,trivial⟩⟩⟩⟩,trivial⟩⟩⟩⟩,⟨.refl _,⟨.refl _,⟨.refl _,⟨.refl _,⟨?m18,⟨.refl _,⟨.refl _,⟨.refl _,⟨?m19,⟨?m20,⟨?m21,⟨?m22,trivial⟩⟩⟩⟩⟩⟩⟩⟩⟩⟩⟩⟩⟩,⟨?s7,⟨rfl,fun z4=>fun hq5=>fun hq6=>Qae.2 ⟨fun hb7=>⟨?s8,⟨?s9,⟨?s10,⟨?s11,fun z5=>fun hz5=>⟨?s12,fun z6=>fun hz6=>⟨⟨?s13,⟨?s14,⟨?x2,⟨?s15,⟨?s16,⟨?s17,⟨?s18,?m23⟩⟩⟩⟩⟩⟩⟩,fun z7=>fun hz7=>⟨?x3,⟨⟨⟨⟨.refl _,⟨.refl _,⟨.refl _,⟨.refl _,trivial⟩⟩⟩⟩,⟨?m24,⟨⟨?m25,⟨?m26,⟨?m27,⟨?m28,⟨.refl _,trivial⟩⟩⟩⟩⟩,⟨⟨?m29,⟨?m30,⟨?m31,⟨?m32,trivial⟩⟩⟩⟩,trivial⟩⟩⟩⟩,⟨.refl _,⟨.refl _,⟨.refl _,⟨.refl _,⟨?m33,⟨.refl _,⟨.refl _,⟨.refl _,⟨?m34,⟨?m35,⟨?m36,⟨?m37,trivial⟩⟩⟩⟩⟩⟩⟩⟩⟩⟩⟩⟩⟩,⟨?s19,⟨?s20,?m38⟩⟩⟩⟩⟩⟩⟩⟩⟩⟩,fun hb7=>⟨?s21,⟨?s22,fun z5=>fun hz5=>⟨?s23,fun z6=>fun hz6=>⟨?s24,fun z7=>fun hz7=>⟨?x4,⟨⟨⟨⟨.refl _,⟨.refl _,⟨.refl _,⟨.refl _,trivial⟩⟩⟩⟩,⟨?m39,⟨⟨?m40,⟨?m41,⟨?m42,⟨?m43,⟨.refl _,trivial⟩⟩⟩⟩⟩,trivial⟩⟩⟩,⟨.refl _,⟨.refl _,⟨.refl _,⟨.refl _,⟨.refl _,⟨.refl _,⟨?m44,trivial⟩⟩⟩⟩⟩⟩⟩⟩,⟨?s25,⟨trivial,?m45⟩⟩⟩⟩⟩⟩⟩⟩⟩⟩⟩⟩⟩⟩⟩⟩⟩⟩⟩,fun hb2=>⟨?s26,fun z3=>fun hz3=>⟨⟨rfl⟩,⟨⟨⟨rfl⟩,⟨⟨⟨rfl⟩,⟨⟨⟨rfl⟩,⟨⟨⟨rfl⟩,⟨⟨rfl⟩,⟨⟨rfl⟩,⟨⟨rfl⟩,⟨⟨rfl⟩,⟨rfl,?m46⟩⟩⟩⟩⟩⟩,⟨⟨rfl⟩,⟨⟨⟨rfl⟩,⟨⟨rfl⟩,⟨⟨rfl⟩,⟨⟨rfl⟩,⟨rfl,?m47⟩⟩⟩⟩⟩,⟨⟨rfl⟩,⟨⟨rfl⟩,⟨⟨rfl⟩,⟨⟨rfl⟩,⟨rfl,?m48⟩⟩⟩⟩⟩⟩⟩⟩⟩,⟨⟨rfl⟩,⟨⟨⟨rfl⟩,⟨⟨⟨rfl⟩,⟨⟨rfl⟩,⟨⟨rfl⟩,⟨⟨rfl⟩,⟨rfl,?m49⟩⟩⟩⟩⟩,⟨⟨rfl⟩,⟨⟨rfl⟩,⟨⟨rfl⟩,⟨⟨rfl⟩,⟨rfl,?m50⟩⟩⟩⟩⟩⟩⟩,⟨⟨rfl⟩,⟨⟨rfl⟩,⟨⟨rfl⟩,⟨⟨rfl⟩,⟨⟨rfl⟩,⟨rfl,?m51⟩⟩⟩⟩⟩⟩⟩⟩⟩⟩,⟨⟨rfl⟩,⟨⟨⟨rfl⟩,⟨⟨⟨rfl⟩,⟨⟨⟨rfl⟩,⟨⟨rfl⟩,⟨⟨rfl⟩,⟨⟨rfl⟩,⟨rfl,?m52⟩⟩⟩⟩⟩,⟨⟨rfl⟩,⟨⟨rfl⟩,⟨⟨rfl⟩,⟨⟨rfl⟩,⟨rfl,?m53⟩⟩⟩⟩⟩⟩⟩,⟨⟨rfl⟩,⟨⟨rfl⟩,⟨⟨rfl⟩,⟨⟨rfl⟩,⟨⟨rfl⟩,⟨rfl,?m54⟩⟩⟩⟩⟩⟩⟩⟩,⟨⟨rfl⟩,⟨⟨rfl⟩,⟨⟨rfl⟩,⟨⟨rfl⟩,⟨⟨rfl⟩,⟨⟨rfl⟩,⟨rfl,?m55⟩⟩⟩⟩⟩⟩⟩⟩⟩⟩⟩,⟨⟨rfl⟩,⟨⟨⟨rfl⟩,⟨⟨⟨rfl⟩,⟨⟨⟨rfl⟩,⟨⟨⟨rfl⟩,⟨⟨rfl⟩,⟨⟨rfl⟩,⟨⟨rfl⟩,⟨rfl,?m56⟩⟩⟩⟩⟩,⟨⟨rfl⟩,⟨⟨rfl⟩,⟨⟨rfl⟩,⟨⟨rfl⟩,⟨rfl,?m57⟩⟩⟩⟩⟩⟩⟩,⟨⟨rfl⟩,⟨⟨rfl⟩,⟨⟨rfl⟩,⟨⟨rfl⟩,⟨⟨rfl⟩,⟨rfl,?m58⟩⟩⟩⟩⟩⟩⟩⟩,⟨⟨rfl⟩,⟨⟨rfl⟩,⟨⟨rfl⟩,⟨⟨rfl⟩,⟨⟨rfl⟩,⟨⟨rfl⟩,⟨rfl,?m59⟩⟩⟩⟩⟩⟩⟩⟩⟩,⟨⟨rfl⟩,⟨⟨rfl⟩,⟨⟨rfl⟩,⟨⟨rfl⟩,⟨⟨rfl⟩,⟨⟨rfl⟩,⟨⟨rfl⟩,⟨rfl,?m60⟩⟩⟩⟩⟩⟩⟩⟩⟩⟩⟩⟩⟩⟩⟩⟩⟩⟩⟩
     case x0=>exact 0
     case x1=>exact (z2,0)
     case x2=>exact atL (Qa2 Q X z4.1) (ofE (qAt Q z4.1)) (lnAt X z4.1) z4.2
     case x3=>exact (z4.1,z4.2+1)
     case x4=>exact z4.1+1
     all_goals try simp only [Int.toNat_natCast,decide_eq_true_eq,decide_eq_false_iff_not,Int.ofNat_lt,bne_iff_ne,bne_eq_false_iff_eq,ne_eq,Bool.not_eq_true',Bool.not_eq_false',Int.natCast_inj] at *
     case m0=>exact Qqm (z:=0) (k:=5000) (j:=5000) (fun h=>hb0 h.1) rfl
     case m1=>exact MapW.refl _ _ _ _ _
     case m2=>exact .refl _
     case m3=>exact .refl _
     case m4=>exact .refl _
     case m5=>exact .refl _
     case m6=>exact .refl _
     case s0=>exact ⟨Nat.zero_le _,fun j hj=>absurd hj (Nat.not_lt_zero j)⟩
     case s26 =>
      have hz:z2=X.length:=by omega
      subst hz
      exact ⟨_,Qcj _,hF.sum _ (Nat.le_refl _),hF.key,rfl,rfl⟩
     all_goals try (
      have hz:z2=X.length:=by omega
      subst hz
      have h3:=hz3.trans (Qbe (Qcj _))
      clear hz3
      subst h3
      exact Quc ⟨hb0,hq1.2⟩)
     case s1=>omega
     case s2=>omega
     case s3=>have:=hF.q _ (q_mem (i:=z2) (by omega)); exact ⟨by omega,by omega⟩
     case s4=>omega
     case m7=>exact Qqm (fun h=>Bool.false_ne_true (hb3.symm.trans (h.2 z2 hb2).1)) (by rw [hz3]; rfl)
     case s5=>have hx:=hF.x _ (Qsx hb2); exact ⟨fun c hc=>by have:=hx.2.1 c hc; omega,⟨by omega,by omega⟩,by omega⟩
     case s6=>omega
     case m8=>exact Qqm (fun h=>Bool.false_ne_true (hb4.symm.trans (h.2 z2 hb2).2)) (by rw [hz3]; rfl)
     case m9=>exact MapW.refl _ _ _ _ _
     case s7 =>
      refine ⟨hb2,Nat.zero_le _,fun j hj=>?_⟩
      by_cases hjz:j=z2
      · subst hjz; exact ⟨hb3,hb4⟩
      · exact hq1.2 j (by have:j<z2+1:=hj; omega)
     all_goals try exact SubB.refl _
     all_goals have hq6':z4.1=z2:=hq6
     all_goals have hR:=hq5.2.2 z4.1 (Nat.lt_succ_self _)
     all_goals have hL:=QnH hR.2
     all_goals have bQ:=hF.q _ (q_mem (i:=z4.1) (by omega))
     all_goals have bX:=hF.x _ (Qsx hq5.1)
     all_goals have bl:=hF.len
     case s8=>omega
     case s9=>omega
     case s10=>have:=hL.1; omega
     case s21=>omega
     case s22=>omega
     case s20=>exact hq6
     case s19=>exact ⟨hq5.1,by show z4.2+1≤_; omega,hq5.2.2⟩
     case m38=>exact (by omega:(lnAt X z4.1).K.length - (z4.2+1)<(lnAt X z4.1).K.length - z4.2)
     case m37=>exact QaM (by rw [wJ _ (by omega) (by omega)]; rfl)
     case m44=>exact QaM (by rw [wJ _ (by omega) (by omega)]; rfl)
     case s25=>exact ⟨hq5.1,hq5.2.2⟩
     case m45=>exact (by omega:X.length - (z4.1+1)<X.length - z2)
     case s23=>refine ⟨?_,?_,by omega⟩ <;> simp only [List.foldl,bTi] <;> omega
     case s15=>exact QbW (Qcj _) _
     case s16=>exact hF.fit z4.1 z4.2 hq5.1 (by omega)
     case s13=>exact QeK z6
     case m39 =>
      rw [show z4.2=(lnAt X z4.1).K.length by omega]
      exact MapW.refl _ _ _ _ _
     case s24 =>
      have h5:z5=((zV (lnAt X z4.1).n (lnAt X z4.1).l:Int):Rat):=by rw [hz5,hL.2.1]
      have h6:=QkZ (e:=Q.getD z4.1 ((false,[],0),(false,[],0))) hz6
      have h7:Rat.divInt z6.num z6.den+Rat.divInt (QaD Q X z4.1).num (QaD Q X z4.1).den=QaD Q X (z4.1+1):=by
       rw [Rat.num_divInt_den,Rat.num_divInt_den,h6,h5]; rfl
      rw [h7]
      refine ⟨⟨QeK _,QeK _⟩,⟨by omega,by omega,?_,?_⟩,hF.num _ hq5.1⟩ <;> simp only [List.foldl,bTi] <;> omega
     all_goals try (
      have h5:z5=((zV (lnAt X z4.1).n (lnAt X z4.1).l:Int):Rat):=by rw [hz5,hL.2.1]
      have h6:=QkZ (e:=Q.getD z4.1 ((false,[],0),(false,[],0))) hz6
      have h7:z7=QaD Q X (z4.1+1):=by rw [hz7,Rat.num_divInt_den,Rat.num_divInt_den,h6,h5]; rfl
      clear hz7
      subst h7
      exact SubB.refl _)
     all_goals have hkc:z4.2<(lnAt X z4.1).C.length:=by have:=hL.1; omega
     all_goals have bC:=bX.2.1 _ (gotD (false,[],0) hkc)
     case s11=>omega
     case s12=>refine ⟨?_,?_,by omega⟩ <;> simp only [List.foldl,bTi] <;> omega
     case s14=>refine ⟨?_,?_⟩ <;> simp only [List.foldl,bTi] <;> omega
     all_goals have h5:z5=((zV (zAt (lnAt X z4.1).C z4.2).1 (zAt (lnAt X z4.1).C z4.2).2.1:Int):Rat):=by have h:=hL.2.2 z4.2 hkc; unfold zAt at h ⊢; rw [hz5,h]
     all_goals have h6:=QkZ (e:=Q.getD z4.1 ((false,[],0),(false,[],0))) hz6
     case m23 =>
      rw [Rat.num_divInt_den,h6,h5]
      exact hF.fit z4.1 (z4.2+1) hq5.1 (by omega)
     case m24 =>
      have h7:z7=atL (Qa2 Q X z4.1) (ofE (qAt Q z4.1)) (lnAt X z4.1) (z4.2+1):=by
       rw [hz7,Qbe (QbW (Qcj _) _),Rat.num_divInt_den,h6,h5]; rfl
      clear hz7
      subst h7
      exact MapW.refl _ _ _ _ _
   · cases hs
 · cases hs
end Go.Proofs.YtmbmbcamecfnkaaGreatDoor
namespace Go.Proofs.YtmbmbcamecfnkaaGreatDoor
open Go.RowKit
set_option linter.unusedVariables false
set_option linter.unusedSimpArgs false
set_option maxRecDepth 100000
def Ql9:Spec
 | [.agg [.f (.v (.bool n)),.f (.lr l k)]]=>some (some (l.length≤1000000000),.one (iV ((1+l.length:Nat):Int)))
 | _=>none
theorem QsY {E:Env} (hU:Up E):Contract Tryz.prog E 65 Ql9:=by
 refine Qan [] [] Tryz.ntmps65 Tryz.func65 (by kernel_rfl) (by kernel_rfl) hU trivial trivial ?_
 intro xs p r hs hp
 unfold Ql9 at hs
 split at hs
 · rename_i n l k
   cases hs
   refine ⟨[.agg [.f (.v (.bool n)),.f (.lr l k)]],[],.cons (.refl _) .nil,rfl,fun _ hsh=>?_⟩
   have h0:=hp _ rfl
   refine Qag (p:=true=true∧Sub (iV (IntKind.i64.wrap ((1:Int)+(↑l.length:Int)))) (iV (↑(1+l.length):Int))) ?kr ?_
   case kr=>kernel_rfl
   refine ⟨rfl,?m0⟩
   case m0=>exact (QaM (by rw [wJ _ (by omega) (by omega)]; omega)).sub
 · cases hs
def Qpf:Spec
 | [.agg [.f (.v (.bool n)),.f (.lr l k),.f (.v (.bool n')),.f (.lr l' k')]]=>some (some (l.length≤1000000000∧l'.length≤1000000000),.one (iV ((1+l.length+(1+l'.length):Nat):Int)))
 | _=>none
theorem cRatOf {E:Env} (hU:Up E):Contract Tryz.prog E 13 Qpf:=by
 refine Qan [(65,Ql9)] [] Tryz.ntmps13 Tryz.func13 (by kernel_rfl) (by kernel_rfl) hU ⟨QsY hU,trivial⟩ trivial ?_
 intro xs p r hs hp
 unfold Qpf at hs
 split at hs
 · rename_i n l k n' l' k'
   cases hs
   refine ⟨[.agg [.f (.v (.bool n)),.f (.lr l k),.f (.v (.bool n')),.f (.lr l' k')]],[],.cons (.refl _) .nil,rfl,fun _ hsh=>?_⟩
   have h0:=hp _ rfl
   refine Qag (p:=l.length≤1000000000∧l'.length≤1000000000∧true=true∧Sub (iV (IntKind.i64.wrap ((↑(1+l.length):Int)+(↑(1+l'.length):Int)))) (iV (↑(1+l.length+(1+l'.length)):Int))) ?kr ?_
   case kr=>kernel_rfl
   refine ⟨?s0,⟨?s1,⟨rfl,?m0⟩⟩⟩
   case s0=>exact h0.1
   case s1=>exact h0.2
   case m0=>exact (QaM (by rw [wJ _ (by omega) (by omega)]; omega)).sub
 · cases hs
def cap6K (m:Nat):Nat→List ByteArray→Nat
 | n,[]=>n
 | n,s::K=>if n≤m then cap6K m (n+1+s.size / 8) K else n
def cap6C (m:Nat):Nat→List Ze→Nat
 | n,[]=>n
 | n,c::C=>if n≤m then cap6C m (n+(1+c.2.1.length)) C else n
def Qc2 (m:Nat) (x:Ln):Nat:=cap6C m (cap6K m (1+x.l.length) x.K) x.C
theorem QhX {m n:Nat} {K:List ByteArray} (h:K=[]∨¬ n≤m):cap6K m n K=n:=by
 cases K with
 | nil=>rfl
 | cons s K =>
  rcases h with h | h
  · cases h
  · exact if_neg h
theorem Qd3 {m n:Nat} {K:List Ze} (h:K=[]∨¬ n≤m):cap6C m n K=n:=by
 cases K with
 | nil=>rfl
 | cons s K =>
  rcases h with h | h
  · cases h
  · exact if_neg h
theorem Qd1 {α:Type} {K:List α} {i:Nat} (d:α) (h:i<K.length):K.drop i=K.getD i d::K.drop (i+1):=by
 rw [List.drop_eq_getElem_cons h,List.getD_eq_getElem?_getD,List.getElem?_eq_getElem h]; rfl
structure FitN (x:Ln):Prop where
 l:x.l.length≤1000000000
 K:x.K.length≤100000000∧∀ s∈x.K,s.size≤4611686018427387904
 C:x.C.length≤100000000∧∀ c∈x.C,c.2.1.length≤1000000000
def Qty:Spec
 | [.agg [.f (.dt .str K),.f (.zs C),.f (.v (.bool n)),.f (.lr l k)],.f (.v (.int .i64 m))]=>some (some (FitN ⟨K,C,n,l,k⟩∧0≤m∧m≤1000000),.nm Nat (Qc2 m.toNat ⟨K,C,n,l,k⟩) fun z=>iV (z:Int))
 | _=>none
set_option maxHeartbeats 4000000 in
theorem cLnOf {E:Env} (hU:Up E):Contract Tryz.prog E 12 Qty:=by
 refine Qan [(65,Ql9)] [] Tryz.ntmps12 Tryz.func12 (by kernel_rfl) (by kernel_rfl) hU ⟨QsY hU,trivial⟩ trivial ?_
 intro xs p r hs hp
 unfold Qty at hs
 split at hs
 · rename_i K C n l k m0
   cases hs
   obtain ⟨hF,hm0,hm1⟩:=hp _ rfl
   obtain ⟨m,rfl⟩:∃ m:Nat,m0=(m:Int):=⟨m0.toNat,by omega⟩
   refine ⟨[lnP K C n l k,iV m],[
    (3,.s ⟨Nat × Nat,fun q=>⟨[(1,iV m),(2,.bp 0 0),(5,iV q.2),(6,iV q.1)],[.cells [.f (.dt .str K),.f (.zs C),.f (.v (.bool n)),.f (.lr l k)]]⟩,fun q=>q.1≤K.length∧cap6K m (1+l.length) K=cap6K m q.2 (K.drop q.1)∧q.2≤1152921504606846976,fun q=>K.length - q.1⟩),
    (7,.s ⟨Nat × Nat,fun q=>⟨[(1,iV m),(2,.bp 0 0),(5,iV q.2),(7,iV q.1)],[.cells [.f (.dt .str K),.f (.zs C),.f (.v (.bool n)),.f (.lr l k)]]⟩,fun q=>q.1≤C.length∧Qc2 m ⟨K,C,n,l,k⟩=cap6C m q.2 (C.drop q.1)∧q.2≤1252921504606846976,fun q=>C.length - q.1⟩)],.cons (.refl _) (.cons (.refl _) .nil),rfl,fun _ hsh=>?_⟩
   have h0:=hF
   refine Qag (p:=let A1:=(rfB (dP Sh.str K)∧rfB (PV.f (Lf.zs C))∧rfB (bV n)∧rfB (PV.f (Lf.lr l k))∧True)∧True; let A0:=fun (z2:Nat × Nat)=>(∃ (x3:Nat × Nat),(A1∧rfB (iV (↑m:Int))∧rfB (PV.bp 0 0)∧SubB (iV (↑z2.snd:Int)) (iV (↑x3.snd:Int))∧SubB (iV 0) (iV (↑x3.fst:Int))∧True)∧(x3.fst≤C.length∧Qc2 m (Ln.mk K C n l k)=cap6C m x3.snd (List.drop x3.fst C)∧x3.snd≤1252921504606846976)∧True∧∀ (z4:Nat × Nat),z4.fst≤C.length∧Qc2 m (Ln.mk K C n l k)=cap6C m z4.snd (List.drop z4.fst C)∧z4.snd≤1252921504606846976→True→ifB (decide ((↑z4.fst:Int)<(↑C.length:Int))) (ifB (decide ((↑z4.snd:Int)≤(↑m:Int))) (((0:Int)≤(↑z4.fst:Int)∧(↑z4.fst:Int)<(↑C.length:Int))∧(C.getD (↑z4.fst:Int).toNat (false,[],0)).snd.fst.length≤1000000000∧∃ (x5:Nat × Nat),(A1∧rfB (iV (↑m:Int))∧rfB (PV.bp 0 0)∧SubB (iV (IntKind.i64.wrap ((↑z4.snd:Int)+(↑(1+(C.getD (↑z4.fst:Int).toNat (false,[],0)).snd.fst.length):Int)))) (iV (↑x5.snd:Int))∧SubB (iV (IntKind.i64.wrap ((↑z4.fst:Int)+(1:Int)))) (iV (↑x5.fst:Int))∧True)∧(x5.fst≤C.length∧Qc2 m (Ln.mk K C n l k)=cap6C m x5.snd (List.drop x5.fst C)∧x5.snd≤1252921504606846976)∧True∧(C.length - x5.fst).succ.le (C.length - z4.fst)) (true=true∧Sub (iV (↑z4.snd:Int)) (iV (↑(Qc2 (↑m:Int).toNat (Ln.mk K C n l k)):Int)))) (true=true∧Sub (iV (↑z4.snd:Int)) (iV (↑(Qc2 (↑m:Int).toNat (Ln.mk K C n l k)):Int)))); l.length≤1000000000∧∃ (x1:Nat × Nat),(A1∧rfB (iV (↑m:Int))∧rfB (PV.bp 0 0)∧SubB (iV (↑(1+l.length):Int)) (iV (↑x1.snd:Int))∧SubB (iV 0) (iV (↑x1.fst:Int))∧True)∧(x1.fst≤K.length∧cap6K m (1+l.length) K=cap6K m x1.snd (List.drop x1.fst K)∧x1.snd≤1152921504606846976)∧True∧∀ (z2:Nat × Nat),z2.fst≤K.length∧cap6K m (1+l.length) K=cap6K m z2.snd (List.drop z2.fst K)∧z2.snd≤1152921504606846976→True→ifB (decide ((↑z2.fst:Int)<(↑K.length:Int))) (ifB (decide ((↑z2.snd:Int)≤(↑m:Int))) (((0:Int)≤(↑z2.fst:Int)∧(↑z2.fst:Int)<(↑K.length:Int))∧∃ (x3:Nat × Nat),(A1∧rfB (iV (↑m:Int))∧rfB (PV.bp 0 0)∧SubB (iV (IntKind.i64.wrap (IntKind.i64.wrap ((↑z2.snd:Int)+(1:Int))+IntKind.i64.wrap ((↑(ByteArray.size (K.getD (↑z2.fst:Int).toNat Sh.str.nil)):Int).tdiv (8:Int))))) (iV (↑x3.snd:Int))∧SubB (iV (IntKind.i64.wrap ((↑z2.fst:Int)+(1:Int)))) (iV (↑x3.fst:Int))∧True)∧(x3.fst≤K.length∧cap6K m (1+l.length) K=cap6K m x3.snd (List.drop x3.fst K)∧x3.snd≤1152921504606846976)∧True∧(K.length - x3.fst).succ.le (K.length - z2.fst)) (A0 z2)) (A0 z2)) ?kr ?_
   case kr=>kernel_rfl
   conv=>zeta
   refine ⟨?s0,⟨?x0,⟨⟨⟨⟨.refl _,⟨.refl _,⟨.refl _,⟨.refl _,trivial⟩⟩⟩⟩,trivial⟩,⟨.refl _,⟨.refl _,⟨?m0,⟨?m1,trivial⟩⟩⟩⟩⟩,⟨?s1,⟨trivial,fun z2=>fun hq0=>fun _=>Qae.2 ⟨fun hb1=>Qae.2 ⟨fun hb2=>⟨?s2,⟨?x1,⟨⟨⟨⟨.refl _,⟨.refl _,⟨.refl _,⟨.refl _,trivial⟩⟩⟩⟩,trivial⟩,⟨.refl _,⟨.refl _,⟨?m2,⟨?m3,trivial⟩⟩⟩⟩⟩,⟨?s3,⟨trivial,?m4⟩⟩⟩⟩⟩,fun hb2=>⟨?x2,⟨⟨⟨⟨.refl _,⟨.refl _,⟨.refl _,⟨.refl _,trivial⟩⟩⟩⟩,trivial⟩,⟨.refl _,⟨.refl _,⟨?m5,⟨?m6,trivial⟩⟩⟩⟩⟩,⟨?s4,⟨trivial,fun z4=>fun hq3=>fun _=>Qae.2 ⟨fun hb4=>Qae.2 ⟨fun hb5=>⟨?s5,⟨?s6,⟨?x3,⟨⟨⟨⟨.refl _,⟨.refl _,⟨.refl _,⟨.refl _,trivial⟩⟩⟩⟩,trivial⟩,⟨.refl _,⟨.refl _,⟨?m7,⟨?m8,trivial⟩⟩⟩⟩⟩,⟨?s7,⟨trivial,?m9⟩⟩⟩⟩⟩⟩,fun hb5=>⟨rfl,?m10⟩⟩,fun hb4=>⟨rfl,?m11⟩⟩⟩⟩⟩⟩⟩,fun hb1=>⟨?x4,⟨⟨⟨⟨.refl _,⟨.refl _,⟨.refl _,⟨.refl _,trivial⟩⟩⟩⟩,trivial⟩,⟨.refl _,⟨.refl _,⟨?m12,⟨?m13,trivial⟩⟩⟩⟩⟩,⟨?s8,⟨trivial,fun z4=>fun hq6=>fun _=>Qae.2 ⟨fun hb7=>Qae.2 ⟨fun hb8=>⟨?s9,⟨?s10,⟨?x5,⟨⟨⟨⟨.refl _,⟨.refl _,⟨.refl _,⟨.refl _,trivial⟩⟩⟩⟩,trivial⟩,⟨.refl _,⟨.refl _,⟨?m14,⟨?m15,trivial⟩⟩⟩⟩⟩,⟨?s11,⟨trivial,?m16⟩⟩⟩⟩⟩⟩,fun hb8=>⟨rfl,?m17⟩⟩,fun hb7=>⟨rfl,?m18⟩⟩⟩⟩⟩⟩⟩⟩⟩⟩⟩⟩
   case x0=>exact (0,1+l.length)
   case x1=>exact (z2.1+1,z2.2+1+(K.getD z2.1 Sh.str.nil).size / 8)
   case x2=>exact (0,z2.2)
   case x3=>exact (z4.1+1,z4.2+(1+(C.getD z4.1 (false,[],0)).2.1.length))
   case x4=>exact (0,z2.2)
   case x5=>exact (z4.1+1,z4.2+(1+(C.getD z4.1 (false,[],0)).2.1.length))
   all_goals try simp only [Int.toNat_natCast,decide_eq_true_eq,decide_eq_false_iff_not,Int.ofNat_lt,Int.ofNat_le] at *
   case s0=>exact hF.l
   case m0=>exact .refl _
   case m1=>exact .refl _
   case s1=>exact ⟨Nat.zero_le _,rfl,by have:=hF.l; show 1+l.length≤_; dsimp only at this; omega⟩
   case s2=>omega
   case m2 =>
    have hs:=hF.K.2 _ (gotD Sh.str.nil hb1)
    dsimp only at hs
    have hK:=hF.K.1
    dsimp only at hK
    refine QaM ?_
    rw [Int.tdiv_eq_ediv_of_nonneg (by omega),wJ (_+1) (by omega) (by omega),wJ (_ / 8) (by omega) (by omega),wJ _ (by omega) (by omega)]
    show _=((z2.2+1+(K.getD z2.1 Sh.str.nil).size / 8:Nat):Int)
    omega
   case m3 =>
    have hK:=hF.K.1
    dsimp only at hK
    exact QaM (by rw [wJ _ (by omega) (by omega)]; rfl)
   case s3 =>
    have hs:=hF.K.2 _ (gotD Sh.str.nil hb1)
    dsimp only at hs
    refine ⟨hb1,hq0.2.1.trans ?_,by show z2.2+1+_≤_; omega⟩
    rw [Qd1 Sh.str.nil hb1,cap6K,if_pos hb2]
   case m4=>exact (by omega:K.length - (z2.1+1)<K.length - z2.1)
   case m5=>exact .refl _
   case m6=>exact .refl _
   case m12=>exact .refl _
   case m13=>exact .refl _
   case s4 =>
    refine ⟨Nat.zero_le _,?_,by show z2.2≤_; omega⟩
    show cap6C m (cap6K m (1+l.length) K) C=cap6C m z2.2 (C.drop 0)
    rw [hq0.2.1,QhX (.inr hb2),List.drop_zero]
   case s8 =>
    refine ⟨Nat.zero_le _,?_,by show z2.2≤_; omega⟩
    show cap6C m (cap6K m (1+l.length) K) C=cap6C m z2.2 (C.drop 0)
    rw [hq0.2.1,QhX (.inl (List.drop_eq_nil_of_le (by omega))),List.drop_zero]
   all_goals have hC:=hF.C.1
   all_goals dsimp only at hC
   case s5=>omega
   case s9=>omega
   case s6=>exact hF.C.2 _ (gotD (false,[],0) hb4)
   case s10=>exact hF.C.2 _ (gotD (false,[],0) hb7)
   case m7 =>
    have hs:=hF.C.2 _ (gotD (false,[],0) hb4)
    dsimp only at hs
    exact QaM (by rw [wJ _ (by omega) (by omega)]; rfl)
   case m14 =>
    have hs:=hF.C.2 _ (gotD (false,[],0) hb7)
    dsimp only at hs
    exact QaM (by rw [wJ _ (by omega) (by omega)]; rfl)
   case m8=>exact QaM (by rw [wJ _ (by omega) (by omega)]; rfl)
   case m15=>exact QaM (by rw [wJ _ (by omega) (by omega)]; rfl)
   case s7 =>
    have hs:=hF.C.2 _ (gotD (false,[],0) hb4)
    dsimp only at hs
    refine ⟨hb4,hq3.2.1.trans ?_,by show z4.2+(1+_)≤_; omega⟩
    rw [Qd1 (false,[],0) hb4,cap6C,if_pos hb5]
   case s11 =>
    have hs:=hF.C.2 _ (gotD (false,[],0) hb7)
    dsimp only at hs
    refine ⟨hb7,hq6.2.1.trans ?_,by show z4.2+(1+_)≤_; omega⟩
    rw [Qd1 (false,[],0) hb7,cap6C,if_pos hb8]
   case m9=>exact (by omega:C.length - (z4.1+1)<C.length - z4.1)
   case m16=>exact (by omega:C.length - (z4.1+1)<C.length - z4.1)
   case m10=>exact (QaM (by rw [hq3.2.1,Qd3 (.inr hb5)])).sub
   case m11=>exact (QaM (by rw [hq3.2.1,Qd3 (.inl (List.drop_eq_nil_of_le (by omega)))])).sub
   case m17=>exact (QaM (by rw [hq6.2.1,Qd3 (.inr hb8)])).sub
   case m18=>exact (QaM (by rw [hq6.2.1,Qd3 (.inl (List.drop_eq_nil_of_le (by omega)))])).sub
 · cases hs
end Go.Proofs.YtmbmbcamecfnkaaGreatDoor
namespace Go.Proofs.YtmbmbcamecfnkaaGreatDoor
open Go.RowKit
set_option linter.unusedVariables false
set_option linter.unusedSimpArgs false
set_option maxRecDepth 100000
def QkE (e f:QE):Bool:=((e.1.1==f.1.1) && eqB e.1.2.1 f.1.2.1) && ((e.2.1==f.2.1) && eqB e.2.2.1 f.2.2.1)
def Qgs (A B:List QE):Bool:=decide (A.length=B.length∧∀ j,j<A.length→QkE (qAt A j) (qAt B j)=true)
def QkK:Spec
 | [.f (.qs A),.f (.qs B)]=>some (some (A.length≤1000000000∧∀ e∈A++B,e.1.2.2≤100000∧e.2.2.2≤100000),.nm Bool (Qgs A B) bV)
 | _=>none
theorem Qus {E:Env} (hU:Up E):Contract Tryz.prog E 18 QkK:=by
 refine Qan [(19,Ql3)] [] Tryz.ntmps18 Tryz.func18 (by kernel_rfl) (by kernel_rfl) hU ⟨QsS hU,trivial⟩ trivial ?_
 intro xs p r hs hp
 unfold QkK at hs
 split at hs
 · rename_i A B
   cases hs
   have hF:=hp _ rfl
   refine ⟨[.f (.qs A),.f (.qs B)],[(4,.s ⟨Nat,fun i=>⟨[(0,.f (.qs A)),(1,.f (.qs B)),(5,iV i)],[]⟩,fun i=>i≤A.length∧A.length=B.length∧∀ j,j<i→QkE (qAt A j) (qAt B j)=true,fun i=>A.length - i⟩)],.cons (.refl _) (.cons (.refl _) .nil),rfl,fun _ hsh=>?_⟩
   refine Qag (p:=ifB ((↑A.length:Int) != (↑B.length:Int)) (true=true∧Sub (bV false) (bV (Qgs A B))) (∃ (x1:Nat),(True∧rfB (PV.f (Lf.qs A))∧rfB (PV.f (Lf.qs B))∧SubB (iV 0) (iV (↑x1:Int))∧True)∧(x1≤A.length∧A.length=B.length∧∀ (j:Nat),j<x1→QkE (qAt A j) (qAt B j)=true)∧True∧∀ (z2:Nat),(z2≤A.length∧A.length=B.length∧∀ (j:Nat),j<z2→QkE (qAt A j) (qAt B j)=true)→True→ifB (decide ((↑z2:Int)<(↑A.length:Int))) (((0:Int)≤(↑z2:Int)∧(↑z2:Int)<(↑A.length:Int))∧((0:Int)≤(↑z2:Int)∧(↑z2:Int)<(↑B.length:Int))∧(A.getD (↑z2:Int).toNat ((false,[],0),false,[],0)).fst.snd.snd+(A.getD (↑z2:Int).toNat ((false,[],0),false,[],0)).snd.snd.snd+(B.getD (↑z2:Int).toNat ((false,[],0),false,[],0)).fst.snd.snd+(B.getD (↑z2:Int).toNat ((false,[],0),false,[],0)).snd.snd.snd≤800000∧ifB (!((A.getD (↑z2:Int).toNat ((false,[],0),false,[],0)).fst.fst==(B.getD (↑z2:Int).toNat ((false,[],0),false,[],0)).fst.fst && eqB (A.getD (↑z2:Int).toNat ((false,[],0),false,[],0)).fst.snd.fst (B.getD (↑z2:Int).toNat ((false,[],0),false,[],0)).fst.snd.fst && ((A.getD (↑z2:Int).toNat ((false,[],0),false,[],0)).snd.fst==(B.getD (↑z2:Int).toNat ((false,[],0),false,[],0)).snd.fst && eqB (A.getD (↑z2:Int).toNat ((false,[],0),false,[],0)).snd.snd.fst (B.getD (↑z2:Int).toNat ((false,[],0),false,[],0)).snd.snd.fst))) (true=true∧Sub (bV false) (bV (Qgs A B))) (∃ (x3:Nat),(True∧rfB (PV.f (Lf.qs A))∧rfB (PV.f (Lf.qs B))∧SubB (iV (IntKind.i64.wrap ((↑z2:Int)+(1:Int)))) (iV (↑x3:Int))∧True)∧(x3≤A.length∧A.length=B.length∧∀ (j:Nat),j<x3→QkE (qAt A j) (qAt B j)=true)∧True∧(A.length - x3).succ.le (A.length - z2))) (true=true∧Sub (bV true) (bV (Qgs A B))))) ?kr ?_
   case kr=>kernel_rfl
   refine Qae.2 ⟨fun hb0=>⟨rfl,?m0⟩,fun hb0=>⟨?x0,⟨⟨trivial,⟨.refl _,⟨.refl _,⟨?m1,trivial⟩⟩⟩⟩,⟨?s0,⟨trivial,fun z2=>fun hq1=>fun _=>Qae.2 ⟨fun hb2=>⟨?s1,⟨?s2,⟨?s3,Qae.2 ⟨fun hb3=>⟨rfl,?m2⟩,fun hb3=>⟨?x1,⟨⟨trivial,⟨.refl _,⟨.refl _,⟨?m3,trivial⟩⟩⟩⟩,⟨?s4,⟨trivial,?m4⟩⟩⟩⟩⟩⟩⟩⟩,fun hb2=>⟨rfl,?m5⟩⟩⟩⟩⟩⟩⟩
   case x0=>exact 0
   case x1=>exact z2+1
   all_goals try simp only [Int.toNat_natCast,decide_eq_true_eq,decide_eq_false_iff_not,Int.ofNat_lt,bne_iff_ne,ne_eq,bne_eq_false_iff_eq,Int.natCast_inj,Bool.not_eq_true',Bool.not_eq_false'] at *
   case m0=>exact (QaT (decide_eq_false fun h=>hb0 h.1).symm).sub
   case m1=>exact .refl _
   case s0=>exact ⟨Nat.zero_le _,hb0,fun j hj=>absurd hj (Nat.not_lt_zero j)⟩
   case s1=>omega
   case s2=>omega
   case s3 =>
    have h1:=hF.2 _ (List.mem_append_left B (gotD (l:=A) ((false,[],0),(false,[],0)) hb2))
    have h2:=hF.2 _ (List.mem_append_right A (gotD (l:=B) ((false,[],0),(false,[],0)) (by omega:z2<B.length)))
    omega
   case m2=>exact (QaT (decide_eq_false fun h=>Bool.noConfusion ((h.2 z2 hb2).symm.trans hb3)).symm).sub
   case m3 =>
    have:=hF.1
    exact QaM (by rw [wJ _ (by omega) (by omega)]; rfl)
   case s4 =>
    refine ⟨hb2,hb0,fun j hj=>?_⟩
    by_cases hjz:j=z2
    · subst hjz; exact hb3
    · exact hq1.2.2 j (by omega)
   case m4=>exact (by omega:A.length - (z2+1)<A.length - z2)
   case m5 =>
    have hz:z2=A.length:=by omega
    subst hz
    exact (QaT (decide_eq_true ⟨hb0,hq1.2.2⟩).symm).sub
 · cases hs
end Go.Proofs.YtmbmbcamecfnkaaGreatDoor
namespace Go.Proofs.YtmbmbcamecfnkaaGreatDoor
open Go.RowKit
set_option linter.unusedVariables false
set_option linter.unusedSimpArgs false
set_option maxRecDepth 100000
abbrev St6:=Lz × Rat
noncomputable section
def sumK (f:Tw→St6→Bool × St6):List Tw→St6→Bool × St6
 | [],s=>(true,s)
 | t::l,s=>if (f t s).1=true then sumK f l (f t s).2 else (false,(f t s).2)
def idxK (f:Tw→St6→Bool × St6):List Tw→St6→Nat→Int
 | [],_,_=>-1
 | t::l,s,i=>if (f t s).1=true then idxK f l (f t s).2 (i+1) else i
def FitK (P:Tw→St6→Prop) (f:Tw→St6→Bool × St6):List Tw→St6→Prop
 | [],_=>True
 | t::l,s=>P t s∧((f t s).1=true→FitK P f l (f t s).2)
def zT (t:Tw):Rat:=((zV t.neg t.digits:Int):Rat)
def sumT:Nat→Tw→Rat→St6→Bool × St6
 | 0,_,_,s=>(false,s)
 | n+1,t,c,s =>
  if t.kind=1∨t.kind=7 then (true,(addL s.1 (keyS t) c,s.2))
  else if t.kind=5 then sumK (fun k s=>sumT n k c s) t.kids s
  else if t.kind=2∨t.kind=6 then
   if Qak t.neg t.digits=true then
    if t.kind=6 then (if t.kids.length=1 then sumT n (t.kids.getD 0 Sh.tm.nil) (c * zT t) s else (false,s))
    else (decide (t.kids.length=0),(s.1,c * zT t+s.2))
   else (false,s)
  else (false,s)
def ZQ (q:Rat):Prop:=ZB q.num 5000∧ZB q.den 5000
def OkS (s:St6):Prop:=canL s.1∧fitL 5000 s.1∧ZQ s.2
def FitT:Nat→Tw→Rat→St6→Prop
 | 0,_,_,_=>False
 | n+1,t,c,s =>
  ((t.kind=1∨t.kind=7)→fitL 5000 (addL s.1 (keyS t) c)∧QbN t∧t.fitT∧(keyB t).length≤140737488355328) ∧
  (t.kind=5→FitK (fun k s=>FitT n k c s) (fun k s=>sumT n k c s) t.kids s) ∧
  ((t.kind=2∨t.kind=6)→t.digits.length≤5000∧ZQ (c * zT t) ∧
   (t.kind=6→t.kids.length=1→FitT n (t.kids.getD 0 Sh.tm.nil) (c * zT t) s) ∧
   (t.kind=2→ZQ (c * zT t+s.2)))
theorem QoP {P:Tw→St6→Prop} {f:Tw→St6→Bool × St6} (h:∀ t s,P t s→OkS s→OkS (f t s).2):∀ {l:List Tw} {s:St6},FitK P f l s→OkS s→OkS (sumK f l s).2
 | [],s,_,hs=>hs
 | t::l,s,hf,hs=>by
  rw [sumK]
  split
  · rename_i h1
    exact QoP h (hf.2 h1) (h t s hf.1 hs)
  · exact h t s hf.1 hs
theorem Qic:∀ {n:Nat} {t:Tw} {c:Rat} {s:St6},FitT n t c s→OkS s→OkS (sumT n t c s).2
 | 0,t,c,s,h,_=>h.elim
 | n+1,t,c,s,h,hs=>by
  rw [FitT] at h
  rw [sumT]
  split
  · rename_i h1; exact ⟨Qb2 hs.1,(h.1 h1).1,hs.2.2⟩
  · split
    · rename_i h1; exact QoP (fun t s hf ho=>Qic hf ho) (h.2.1 h1) hs
    · split
      · rename_i h1
        split
        · split
          · rename_i h6
            split
            · rename_i h7; exact Qic ((h.2.2 h1).2.2.1 h6 h7) hs
            · exact hs
          · rename_i h6
            exact ⟨hs.1,hs.2.1,(h.2.2 h1).2.2.2 (h1.resolve_right h6)⟩
        · exact hs
      · exact hs
def Qtx:Spec
 | [.f y]=>match Qgo y with
  | some L=>some (some (((L.foldl bTi (6,6)).1≤95000∧(L.foldl bTi (6,6)).2≤95000∧L.length≤1000000)∧ZQ (L.foldl (fun a e=>a * ofE e) 1)),.nm Rat (L.foldl (fun a e=>a * ofE e) 1) fun r=>qP r 5000 5000)
  | none=>none
 | _=>none
end
theorem cMul6 {E:Env} (hU:Up E):Contract Tryz.prog E 69 Qtx:=by
 refine (cMulQ hU).weaken fun xs p r hs hp=>?_
 unfold Qtx at hs
 split at hs
 · rename_i y
   split at hs
   · rename_i L hL
     cases hs
     have h0:=hp _ rfl
     refine ⟨[.f y],_,_,.cons (.refl _) .nil,by simp only [Qjx,hL]; rfl,fun q hq=>by cases hq; exact h0.1,?_⟩
     exact (Qht (.cons (.refl _) (.cons (Qai rfl h0.2.1) (.cons (.refl _) (.cons (Qai rfl h0.2.2) .nil))))).sub
   · cases hs
 · cases hs
end Go.Proofs.YtmbmbcamecfnkaaGreatDoor
namespace Go.Proofs.YtmbmbcamecfnkaaGreatDoor
open Go.RowKit
set_option linter.unusedVariables false
set_option linter.unusedSimpArgs false
set_option maxRecDepth 100000
noncomputable section
def Qem (n:Nat) (P:Rat→St6→Prop) (c c' d d' a b e f:Int) (k2 j2 k3 j3:Nat) (has:ByteArray→Bool) (get:ByteArray→List Lf):Prop :=
 isQ c c' d d'∧isQ a b e f∧(k2≤15000∧j2≤15000∧k3≤15000∧j3≤15000)∧∃ A,OkS (A,Rat.divInt a e)∧has=hasL A∧get=getL 5000 A∧P (Rat.divInt c d) (A,Rat.divInt a e)
def Qij (n:Nat):Spec2
 | [.bp 0 0,x,.agg [.f (.zn c),.f (.zd c' k2),.f (.zn d),.f (.zd d' j2)]],[.cells [.f (.zn a),.f (.zd b k3),.f (.zn e),.f (.zd f j3),.wr 1],.map .str has get [] []]=>match tmOf x with
  | some t=>some (.need (Qem n (FitT n t) c c' d d' a b e f k2 j2 k3 j3 has get) (.nm (Bool × St6) (sumT n t (Rat.divInt c d) (lzOf 5000 has get,Rat.divInt a e)) fun z=>.ret (bV z.1) [.cells [.f (.zn z.2.2.num),.f (.zd z.2.2.num 5000),.f (.zn z.2.2.den),.f (.zd z.2.2.den 5000),.wr 1],.map .str (hasL z.2.1) (getL 5000 z.2.1) [] []]))
  | none=>none
 | _,_=>none
def Qq9 (n:Nat):Spec2
 | [x,.bp 0 0,.bp 1 0],[.cells [.bp 2 0],.cells [.f (.zn c),.f (.zd c' k2),.f (.zn d),.f (.zd d' j2)],.cells [.f (.zn a),.f (.zd b k3),.f (.zn e),.f (.zd f j3),.wr 3],.map .str has get [] []]=>match tmOf x with
  | some t=>some (.need (Qem n (FitT n t) c c' d d' a b e f k2 j2 k3 j3 has get) (.nm (Bool × St6) (sumT n t (Rat.divInt c d) (lzOf 5000 has get,Rat.divInt a e)) fun z=>.ret (bV (!z.1)) [.cells [.bp 2 0],.cells [.f (.zn c),.f (.zd c' k2),.f (.zn d),.f (.zd d' j2)],.cells [.f (.zn z.2.2.num),.f (.zd z.2.2.num 5000),.f (.zn z.2.2.den),.f (.zd z.2.2.den 5000),.wr 3],.map .str (hasL z.2.1) (getL 5000 z.2.1) [] []]))
  | none=>none
 | _,_=>none
def QaZ (n:Nat) (c:Rat):Tw→St6→Bool × St6:=fun k s=>sumT n k c s
def Qhm (n:Nat) (c:Rat):Tw→St6→Prop:=fun k s=>FitT n k c s
def Qq7 (n:Nat):Spec2
 | [.f (.dt .tm l),.fn g [] [.bp 0 0,.bp 1 0]],[.cells [.bp 2 0],.cells [.f (.zn c),.f (.zd c' k2),.f (.zn d),.f (.zd d' j2)],.cells [.f (.zn a),.f (.zd b k3),.f (.zn e),.f (.zd f j3),.wr 3],.map .str has get [] []]=>match Nat.beq g 158 with
  | true=>some (.need (Qem n (fun q s=>FitK (Qhm n q) (QaZ n q) l s) c c' d d' a b e f k2 j2 k3 j3 has get) (.nm (Int × St6) (idxK (QaZ n (Rat.divInt c d)) l (lzOf 5000 has get,Rat.divInt a e) 0,(sumK (QaZ n (Rat.divInt c d)) l (lzOf 5000 has get,Rat.divInt a e)).2) fun z=>.ret (iV z.1) [.cells [.bp 2 0],.cells [.f (.zn c),.f (.zd c' k2),.f (.zn d),.f (.zd d' j2)],.cells [.f (.zn z.2.2.num),.f (.zd z.2.2.num 5000),.f (.zn z.2.2.den),.f (.zd z.2.2.den 5000),.wr 3],.map .str (hasL z.2.1) (getL 5000 z.2.1) [] []]))
  | false=>none
 | _,_=>none
def Qq8 (n:Nat):Spec2
 | [.f (.dt .tm l),.fn g [] [.bp 0 0,.bp 1 0]],[.cells [.bp 2 0],.cells [.f (.zn c),.f (.zd c' k2),.f (.zn d),.f (.zd d' j2)],.cells [.f (.zn a),.f (.zd b k3),.f (.zn e),.f (.zd f j3),.wr 3],.map .str has get [] []]=>match Nat.beq g 158 with
  | true=>some (.need (Qem n (fun q s=>FitK (Qhm n q) (QaZ n q) l s) c c' d d' a b e f k2 j2 k3 j3 has get) (.nm (Bool × St6) (sumK (QaZ n (Rat.divInt c d)) l (lzOf 5000 has get,Rat.divInt a e)) fun z=>.ret (bV (!z.1)) [.cells [.bp 2 0],.cells [.f (.zn c),.f (.zd c' k2),.f (.zn d),.f (.zd d' j2)],.cells [.f (.zn z.2.2.num),.f (.zd z.2.2.num 5000),.f (.zn z.2.2.den),.f (.zd z.2.2.den 5000),.wr 3],.map .str (hasL z.2.1) (getL 5000 z.2.1) [] []]))
  | false=>none
 | _,_=>none
end
theorem QdU {n:Nat} {P:Rat→St6→Prop} {q p:Rat} {A:Lz} {k2 j2 k3 j3:Nat} (hk:k2≤15000∧j2≤15000∧k3≤15000∧j3≤15000) (hA:OkS (A,p)) (hP:P q (A,p)):Qem n P q.num q.num q.den q.den p.num p.num p.den p.den k2 j2 k3 j3 (hasL A) (getL 5000 A) :=
 ⟨QeK q,QeK p,hk,A,by rw [Rat.num_divInt_den]; exact hA,rfl,rfl,by rw [Rat.num_divInt_den,Rat.num_divInt_den]; exact hP⟩
theorem QlV {n:Nat} {t:Tw} {c:Rat} {s:St6} (h:t.kind=1∨t.kind=7):sumT (n+1) t c s=(true,(addL s.1 (keyS t) c,s.2)):=by rw [sumT,if_pos h]
theorem Qq2 {n:Nat} {t:Tw} {c:Rat} {s:St6} (h:t.kind=5):sumT (n+1) t c s=sumK (QaZ n c) t.kids s:=by
 rw [sumT,if_neg (by omega),if_pos h]; rfl
theorem QlU {n:Nat} {t:Tw} {c:Rat} {s:St6} (h:t.kind=2∨t.kind=6) (hr:Qak t.neg t.digits=false):sumT (n+1) t c s=(false,s):=by
 rw [sumT,if_neg (by omega),if_neg (by omega),if_pos h,if_neg (by rw [hr]; exact Bool.false_ne_true)]
theorem Qnw {n:Nat} {t:Tw} {c:Rat} {s:St6} (h:t.kind=6) (hr:Qak t.neg t.digits=true) (hl:t.kids.length=1):sumT (n+1) t c s=sumT n (t.kids.getD 0 Sh.tm.nil) (c * zT t) s:=by
 rw [sumT,if_neg (by omega),if_neg (by omega),if_pos (.inr h),if_pos hr,if_pos h,if_pos hl]
theorem QoN {n:Nat} {t:Tw} {c:Rat} {s:St6} (h:t.kind=6) (hr:Qak t.neg t.digits=true) (hl:¬ t.kids.length=1):sumT (n+1) t c s=(false,s):=by
 rw [sumT,if_neg (by omega),if_neg (by omega),if_pos (.inr h),if_pos hr,if_pos h,if_neg hl]
theorem Qq1 {n:Nat} {t:Tw} {c:Rat} {s:St6} (h:t.kind=2) (hr:Qak t.neg t.digits=true):sumT (n+1) t c s=(decide (t.kids.length=0),(s.1,c * zT t+s.2)):=by
 rw [sumT,if_neg (by omega),if_neg (by omega),if_pos (.inl h),if_pos hr,if_neg (by omega)]
theorem QoM {n:Nat} {t:Tw} {c:Rat} {s:St6} (h1:¬ t.kind=1) (h2:¬ t.kind=7) (h3:¬ t.kind=5) (h4:¬ t.kind=2) (h5:¬ t.kind=6):sumT (n+1) t c s=(false,s):=by
 rw [sumT,if_neg (by omega),if_neg h3,if_neg (by omega)]
theorem fold2 {q z:Rat} {k2 j2 k j:Nat}:List.foldl (fun (a:Rat) e=>a * ofE e) (1:Rat) [((zNeg q.num,digs 1000000000 q.num.natAbs,k2),(zNeg (q.den:Int),digs 1000000000 (q.den:Int).natAbs,j2)),((zNeg z.num,digs 1000000000 z.num.natAbs,k),(zNeg (z.den:Int),digs 1000000000 (z.den:Int).natAbs,j))]=q * z:=by
 show (1:Rat) * Qaw _ _ _ _ * Qaw _ _ _ _=_
 rw [Qaz,Qaz,Rat.one_mul]
theorem QmJ {f:Tw→St6→Bool × St6}:∀ {l:List Tw} {s:St6} {i:Nat},decide (0≤idxK f l s i)=!(sumK f l s).1
 | [],s,i=>rfl
 | t::l,s,i=>by
  rw [idxK,sumK]
  split
  · exact QmJ
  · exact decide_eq_true (Int.natCast_nonneg i)
set_option maxHeartbeats 8000000 in
theorem cTm61 {E:Env} (hU:Up E) {n:Nat} (hR:Contract2 Tryz.prog E 85 (Qij n)):Contract2 Tryz.prog E 158 (Qq9 n):=by
 refine contract2 [] [(85,Qij n)] Tryz.ntmps158 Tryz.func158 (by kernel_rfl) (by kernel_rfl) hU trivial ⟨hR,trivial⟩ ?_
 intro xs ob o hs hok
 unfold Qq9 at hs
 split at hs
 · rename_i x c c' k2 d d' j2 a b k3 e f j3 has get
   split at hs
   · rename_i t ht
     cases hs
     obtain ⟨⟨i1,i2,hk,A,hA,rfl,rfl,hF⟩,-⟩:=hok
     obtain ⟨q,rfl,rfl,rfl,rfl,e1⟩:=Qdy i1
     obtain ⟨p,rfl,rfl,rfl,rfl,e2⟩:=Qdy i2
     rw [e1] at hF ⊢
     rw [e2] at hF hA ⊢
     rw [Qbe hA.1]
     refine ⟨[tmP t,.bp 0 0,.bp 1 0],[],.cons (Qfs ht) (.cons (.refl _) (.cons (.refl _) .nil)),rfl,fun _ hsh=>?_⟩
     have h0:=hk
     refine Qag (p:=Qem n (FitT n (etaT t)) q.num q.num (↑q.den:Int) (↑q.den:Int) p.num p.num (↑p.den:Int) (↑p.den:Int) k2 j2 k3 j3 (hasL A) (getL 5000 A)∧∀ (z1:Bool × St6),z1=sumT n (etaT t) (Rat.divInt q.num (↑q.den:Int)) (lzOf 5000 (hasL A) (getL 5000 A),Rat.divInt p.num (↑p.den:Int))→EndU 4 (Out.need (Qem n (FitT n t) q.num q.num (↑q.den:Int) (↑q.den:Int) p.num p.num (↑p.den:Int) (↑p.den:Int) k2 j2 k3 j3 (hasL A) (getL 5000 A)) (Out.nm (Bool × St6) (sumT n t q (A,p)) fun (z:Bool × St6)=>Out.ret (bV !z.fst) [PO.cells [PV.bp 2 0],PO.cells [PV.f (Lf.zn q.num),PV.f (Lf.zd q.num k2),PV.f (Lf.zn (↑q.den:Int)),PV.f (Lf.zd (↑q.den:Int) j2)],PO.cells [PV.f (Lf.zn z.snd.snd.num),PV.f (Lf.zd z.snd.snd.num 5000),PV.f (Lf.zn (↑z.snd.snd.den:Int)),PV.f (Lf.zd (↑z.snd.snd.den:Int) 5000),PV.wr 3],PO.map Kt.str (hasL z.snd.fst) (getL 5000 z.snd.fst) [] []])).fin true (bV (!z1.fst)) [PO.cells [PV.bp 2 0],PO.cells [PV.f (Lf.zn q.num),PV.f (Lf.zd q.num k2),PV.f (Lf.zn (↑q.den:Int)),PV.f (Lf.zd (↑q.den:Int) j2)],PO.cells [PV.f (Lf.zn z1.snd.snd.num),PV.f (Lf.zd z1.snd.snd.num 5000),PV.f (Lf.zn (↑z1.snd.snd.den:Int)),PV.f (Lf.zd (↑z1.snd.snd.den:Int) 5000),PV.wr 3],PO.map Kt.str (hasL z1.snd.fst) (getL 5000 z1.snd.fst) [] [],PO.cells (QaU (tmC t))]) ?kr ?_
     case kr=>kernel_rfl
     refine ⟨?s0,fun z1=>fun hz1=>?m0⟩
     all_goals try simp only [etaT] at *
     all_goals try simp only [Tw.eta,Rat.num_divInt_den,Qbe hA.1,Int.toNat_natCast,decide_eq_true_eq,decide_eq_false_iff_not,Int.ofNat_lt,beq_iff_eq,beq_eq_false_iff_ne,ne_eq,Bool.not_eq_true',Bool.not_eq_false'] at *
     case s0=>exact QdU hk hA hF
     case m0 =>
      subst hz1
      exact QaA (endU rfl (.refl _) rfl rfl (r:=[_]) rfl)
   · cases hs
 · cases hs
set_option maxHeartbeats 8000000 in
theorem cTm6I {E:Env} (hU:Up E) {n:Nat} (hR:Contract2 Tryz.prog E 158 (Qq9 n)):Contract2 Tryz.prog E 233 (Qq7 n):=by
 refine contract2 [] [(158,Qq9 n)] Tryz.ntmps233 Tryz.func233 (by kernel_rfl) (by kernel_rfl) hU trivial ⟨hR,trivial⟩ ?_
 intro xs ob o hs hok
 unfold Qq7 at hs
 split at hs
 · rename_i l g c c' k2 d d' j2 a b k3 e f j3 has get
   split at hs
   · rename_i hg
     cases hs
     have hg:=Nat.eq_of_beq_eq_true hg
     subst hg
     obtain ⟨⟨i1,i2,hk,A,hA,rfl,rfl,hF⟩,-⟩:=hok
     obtain ⟨q,rfl,rfl,rfl,rfl,e1⟩:=Qdy i1
     obtain ⟨p,rfl,rfl,rfl,rfl,e2⟩:=Qdy i2
     rw [e1] at hF ⊢
     rw [e2] at hF hA ⊢
     rw [Qbe hA.1]
     refine ⟨[.f (.dt .tm l),.fn 158 [] [.bp 0 0,.bp 1 0]],[(2,.s ⟨Nat × St6,fun r=>⟨[(0,.f (.dt .tm l)),(1,.fn 158 [] [.bp 0 0,.bp 1 0]),(7,iV l.length),(8,iV r.1)],[.cells [.bp 2 0],.cells [.f (.zn q.num),.f (.zd q.num k2),.f (.zn q.den),.f (.zd q.den j2)],.cells [.f (.zn r.2.2.num),.f (.zd r.2.2.num 15000),.f (.zn r.2.2.den),.f (.zd r.2.2.den 15000),.wr 3],.map .str (hasL r.2.1) (getL 5000 r.2.1) [] []]⟩,fun r=>r.1≤l.length∧OkS r.2∧FitK (Qhm n q) (QaZ n q) (l.drop r.1) r.2∧sumK (QaZ n q) l (A,p)=sumK (QaZ n q) (l.drop r.1) r.2∧idxK (QaZ n q) l (A,p) 0=idxK (QaZ n q) (l.drop r.1) r.2 r.1,fun r=>l.length - r.1⟩)],.cons (.refl _) (.cons (.refl _) .nil),rfl,fun _ hsh=>?_⟩
     have hl:=Qgq hsh.1
     refine Qag (p:=let A1:=(↑q.den:Int); let A2:=rfB (PV.f (Lf.zn q.num))∧rfB (PV.f (Lf.zd q.num k2))∧rfB (PV.f (Lf.zn A1))∧rfB (PV.f (Lf.zd A1 j2))∧True; let A0:=Out.need (Qem n (fun (q:Rat) (s:St6)=>FitK (Qhm n q) (QaZ n q) l s) q.num q.num A1 A1 p.num p.num (↑p.den:Int) (↑p.den:Int) k2 j2 k3 j3 (hasL A) (getL 5000 A)) (Out.nm (Int × St6) (idxK (QaZ n q) l (A,p) 0,(sumK (QaZ n q) l (A,p)).snd) fun (z:Int × St6)=>Out.ret (iV z.fst) [PO.cells [PV.bp 2 0],PO.cells [PV.f (Lf.zn q.num),PV.f (Lf.zd q.num k2),PV.f (Lf.zn A1),PV.f (Lf.zd A1 j2)],PO.cells [PV.f (Lf.zn z.snd.snd.num),PV.f (Lf.zd z.snd.snd.num 5000),PV.f (Lf.zn (↑z.snd.snd.den:Int)),PV.f (Lf.zd (↑z.snd.snd.den:Int) 5000),PV.wr 3],PO.map Kt.str (hasL z.snd.fst) (getL 5000 z.snd.fst) [] []]); ∃ (x1:Nat × St6),(((rfB (PV.bp 2 0)∧True)∧A2∧(SubB (PV.f (Lf.zn p.num)) (PV.f (Lf.zn x1.snd.snd.num))∧SubB (PV.f (Lf.zd p.num k3)) (PV.f (Lf.zd x1.snd.snd.num 15000))∧SubB (PV.f (Lf.zn (↑p.den:Int))) (PV.f (Lf.zn (↑x1.snd.snd.den:Int)))∧SubB (PV.f (Lf.zd (↑p.den:Int) j3)) (PV.f (Lf.zd (↑x1.snd.snd.den:Int) 15000))∧rfB (PV.wr 3)∧True)∧MapW Kt.str (fun (s:Kt.str.T)=>List.any A fun (x:ByteArray × Rat)=>decide (x.fst=s)) (fun (s:Kt.str.T)=>qC 5000 (valL A s)) [] [] Kt.str (fun (s:Kt.str.T)=>List.any x1.snd.fst fun (x:ByteArray × Rat)=>decide (x.fst=s)) (fun (s:Kt.str.T)=>qC 5000 (valL x1.snd.fst s)) [] []∧True)∧rfB (dP Sh.tm l)∧rfB (PV.fn 158 [] [PV.bp 0 0,PV.bp 1 0])∧rfB (iV (↑l.length:Int))∧SubB (iV 0) (iV (↑x1.fst:Int))∧True)∧(x1.fst≤l.length∧OkS x1.snd∧FitK (Qhm n q) (QaZ n q) (List.drop x1.fst l) x1.snd∧sumK (QaZ n q) l (A,p)=sumK (QaZ n q) (List.drop x1.fst l) x1.snd∧idxK (QaZ n q) l (A,p) 0=idxK (QaZ n q) (List.drop x1.fst l) x1.snd x1.fst)∧True∧∀ (z2:Nat × St6),z2.fst≤l.length∧OkS z2.snd∧FitK (Qhm n q) (QaZ n q) (List.drop z2.fst l) z2.snd∧sumK (QaZ n q) l (A,p)=sumK (QaZ n q) (List.drop z2.fst l) z2.snd∧idxK (QaZ n q) l (A,p) 0=idxK (QaZ n q) (List.drop z2.fst l) z2.snd z2.fst→True→ifB (decide ((↑z2.fst:Int)<(↑l.length:Int))) (((0:Int)≤(↑z2.fst:Int)∧(↑z2.fst:Int)<(↑l.length:Int))∧Qem n (FitT n (etaT (l.getD (↑z2.fst:Int).toNat Sh.tm.nil))) q.num q.num A1 A1 z2.snd.snd.num z2.snd.snd.num (↑z2.snd.snd.den:Int) (↑z2.snd.snd.den:Int) k2 j2 15000 15000 (hasL z2.snd.fst) (getL 5000 z2.snd.fst)∧∀ (z3:Bool × St6),z3=sumT n (etaT (l.getD (↑z2.fst:Int).toNat Sh.tm.nil)) (Rat.divInt q.num A1) (lzOf 5000 (hasL z2.snd.fst) (getL 5000 z2.snd.fst),Rat.divInt z2.snd.snd.num (↑z2.snd.snd.den:Int))→ifB (!z3.fst) (EndU 4 A0.fin true (iV (↑z2.fst:Int)) [PO.cells [PV.bp 2 0],PO.cells [PV.f (Lf.zn q.num),PV.f (Lf.zd q.num k2),PV.f (Lf.zn A1),PV.f (Lf.zd A1 j2)],PO.cells [PV.f (Lf.zn z3.snd.snd.num),PV.f (Lf.zd z3.snd.snd.num 5000),PV.f (Lf.zn (↑z3.snd.snd.den:Int)),PV.f (Lf.zd (↑z3.snd.snd.den:Int) 5000),PV.wr 3],PO.map Kt.str (hasL z3.snd.fst) (getL 5000 z3.snd.fst) [] []]) (∃ (x4:Nat × St6),(((rfB (PV.bp 2 0)∧True)∧A2∧(SubB (PV.f (Lf.zn z3.snd.snd.num)) (PV.f (Lf.zn x4.snd.snd.num))∧SubB (PV.f (Lf.zd z3.snd.snd.num 5000)) (PV.f (Lf.zd x4.snd.snd.num 15000))∧SubB (PV.f (Lf.zn (↑z3.snd.snd.den:Int))) (PV.f (Lf.zn (↑x4.snd.snd.den:Int)))∧SubB (PV.f (Lf.zd (↑z3.snd.snd.den:Int) 5000)) (PV.f (Lf.zd (↑x4.snd.snd.den:Int) 15000))∧rfB (PV.wr 3)∧True)∧MapW Kt.str (fun (s:Kt.str.T)=>List.any z3.snd.fst fun (x:ByteArray × Rat)=>decide (x.fst=s)) (fun (s:Kt.str.T)=>qC 5000 (valL z3.snd.fst s)) [] [] Kt.str (fun (s:Kt.str.T)=>List.any x4.snd.fst fun (x:ByteArray × Rat)=>decide (x.fst=s)) (fun (s:Kt.str.T)=>qC 5000 (valL x4.snd.fst s)) [] []∧True)∧rfB (dP Sh.tm l)∧rfB (PV.fn 158 [] [PV.bp 0 0,PV.bp 1 0])∧rfB (iV (↑l.length:Int))∧SubB (iV (IntKind.i64.wrap ((↑z2.fst:Int)+(1:Int)))) (iV (↑x4.fst:Int))∧True)∧(x4.fst≤l.length∧OkS x4.snd∧FitK (Qhm n q) (QaZ n q) (List.drop x4.fst l) x4.snd∧sumK (QaZ n q) l (A,p)=sumK (QaZ n q) (List.drop x4.fst l) x4.snd∧idxK (QaZ n q) l (A,p) 0=idxK (QaZ n q) (List.drop x4.fst l) x4.snd x4.fst)∧True∧(l.length - x4.fst).succ.le (l.length - z2.fst))) (EndU 4 A0.fin true (iV (-1:Int)) [PO.cells [PV.bp 2 0],PO.cells [PV.f (Lf.zn q.num),PV.f (Lf.zd q.num k2),PV.f (Lf.zn A1),PV.f (Lf.zd A1 j2)],PO.cells [PV.f (Lf.zn z2.snd.snd.num),PV.f (Lf.zd z2.snd.snd.num 15000),PV.f (Lf.zn (↑z2.snd.snd.den:Int)),PV.f (Lf.zd (↑z2.snd.snd.den:Int) 15000),PV.wr 3],PO.map Kt.str (hasL z2.snd.fst) (getL 5000 z2.snd.fst) [] []])) ?kr ?_
     case kr=>kernel_rfl
     conv=>zeta
     refine ⟨?x0,⟨⟨⟨⟨.refl _,trivial⟩,⟨⟨.refl _,⟨.refl _,⟨.refl _,⟨.refl _,trivial⟩⟩⟩⟩,⟨⟨?m0,⟨?m1,⟨?m2,⟨?m3,⟨.refl _,trivial⟩⟩⟩⟩⟩,⟨?m4,trivial⟩⟩⟩⟩,⟨.refl _,⟨.refl _,⟨.refl _,⟨?m5,trivial⟩⟩⟩⟩⟩,⟨?s0,⟨trivial,fun z2=>fun hq0=>fun _=>Qae.2 ⟨fun hb1=>⟨?s1,⟨?s2,fun z3=>fun hz3=>Qae.2 ⟨fun hb2=>?m6,fun hb2=>⟨?x1,⟨⟨⟨⟨.refl _,trivial⟩,⟨⟨.refl _,⟨.refl _,⟨.refl _,⟨.refl _,trivial⟩⟩⟩⟩,⟨⟨?m7,⟨?m8,⟨?m9,⟨?m10,⟨.refl _,trivial⟩⟩⟩⟩⟩,⟨?m11,trivial⟩⟩⟩⟩,⟨.refl _,⟨.refl _,⟨.refl _,⟨?m12,trivial⟩⟩⟩⟩⟩,⟨?s3,⟨trivial,?m13⟩⟩⟩⟩⟩⟩⟩,fun hb1=>?m14⟩⟩⟩⟩⟩
     all_goals try simp only [etaT] at *
     case x0=>exact (0,(A,p))
     case x1=>exact (z2.1+1,z3.2)
     all_goals try simp only [Tw.eta,Rat.num_divInt_den,Qbe hA.1,Int.toNat_natCast,decide_eq_true_eq,decide_eq_false_iff_not,Int.ofNat_lt,beq_iff_eq,beq_eq_false_iff_ne,ne_eq,Bool.not_eq_true',Bool.not_eq_false'] at *
     case m0=>exact .refl _
     case m1=>exact Qnn hk.2.2.1
     case m2=>exact .refl _
     case m3=>exact Qnn hk.2.2.2
     case m4=>exact MapW.refl _ _ _ _ _
     case m5=>exact .refl _
     case s0=>exact ⟨Nat.zero_le _,hA,hF,rfl,rfl⟩
     case s1=>omega
     case m14 =>
      have hd:List.drop z2.1 l=[]:=List.drop_eq_nil_of_le (by omega)
      have hZ:=hq0.2.1.2.2
      rw [hq0.2.2.2.1,hq0.2.2.2.2,hd]
      refine QaA (Qd9 rfl (.refl _) rfl rfl rfl ?_)
      repeat' first | exact SubB.refl _ | exact trivial | exact MapW.refl _ _ _ _ _ | exact Qai rfl hZ.1 | exact Qai rfl hZ.2 | refine And.intro ?_ ?_
     all_goals have hd:=Qd1 Sh.tm.nil hb1
     all_goals have hG:=hq0.2.2.1
     all_goals rw [hd] at hG
     case s2=>exact QdU ⟨hk.1,hk.2.1,Nat.le_refl _,Nat.le_refl _⟩ hq0.2.1 hG.1
     all_goals have h3:z3=QaZ n q (l.getD z2.1 Sh.tm.nil) z2.2:=hz3.trans (by rw [Qbe hq0.2.1.1]; rfl)
     all_goals have hO:OkS z3.2:=by rw [h3]; exact Qic hG.1 hq0.2.1
     case m6 =>
      have hZ:=hO.2.2
      have e1:idxK (QaZ n q) l (A,p) 0=z2.1:=by rw [hq0.2.2.2.2,hd,idxK,if_neg (by rw [← h3,hb2]; exact Bool.false_ne_true)]
      have e2:sumK (QaZ n q) l (A,p)=(false,z3.2):=by rw [hq0.2.2.2.1,hd,sumK,if_neg (by rw [← h3,hb2]; exact Bool.false_ne_true),← h3]
      rw [e1,e2]
      refine QaA (Qd9 rfl (.refl _) rfl rfl rfl ?_)
      repeat' first | exact SubB.refl _ | exact trivial | exact MapW.refl _ _ _ _ _ | exact Qai rfl hZ.1 | exact Qai rfl hZ.2 | refine And.intro ?_ ?_
     case m7=>exact .refl _
     case m8=>exact Qnn (by omega)
     case m9=>exact .refl _
     case m10=>exact Qnn (by omega)
     case m11=>exact MapW.refl _ _ _ _ _
     case m12=>exact QaM (by rw [wJ _ (by omega) (by omega)]; rfl)
     case s3 =>
      refine ⟨hb1,hO,?_,?_,?_⟩
      · have h:=hG.2 (by rw [show QaZ n q (l.getD z2.1 Sh.tm.nil) z2.2=z3 from h3.symm]; exact hb2)
        rw [← h3] at h; exact h
      · rw [hq0.2.2.2.1,hd,sumK,if_pos (by rw [← h3]; exact hb2),← h3]
      · rw [hq0.2.2.2.2,hd,idxK,if_pos (by rw [← h3]; exact hb2),← h3]
     case m13=>exact (by omega:l.length - (z2.1+1)<l.length - z2.1)
   · cases hs
 · cases hs
set_option maxHeartbeats 8000000 in
theorem cTm6C {E:Env} (hU:Up E) {n:Nat} (hR:Contract2 Tryz.prog E 233 (Qq7 n)):Contract2 Tryz.prog E 157 (Qq8 n):=by
 refine contract2 [] [(233,Qq7 n)] Tryz.ntmps157 Tryz.func157 (by kernel_rfl) (by kernel_rfl) hU trivial ⟨hR,trivial⟩ ?_
 intro xs ob o hs hok
 unfold Qq8 at hs
 split at hs
 · rename_i l g c c' k2 d d' j2 a b k3 e f j3 has get
   split at hs
   · rename_i hg
     cases hs
     have hg:=Nat.eq_of_beq_eq_true hg
     subst hg
     obtain ⟨⟨i1,i2,hk,A,hA,rfl,rfl,hF⟩,-⟩:=hok
     obtain ⟨q,rfl,rfl,rfl,rfl,e1⟩:=Qdy i1
     obtain ⟨p,rfl,rfl,rfl,rfl,e2⟩:=Qdy i2
     rw [e1] at hF ⊢
     rw [e2] at hF hA ⊢
     rw [Qbe hA.1]
     refine ⟨[.f (.dt .tm l),.fn 158 [] [.bp 0 0,.bp 1 0]],[],.cons (.refl _) (.cons (.refl _) .nil),rfl,fun _ hsh=>?_⟩
     have h0:=hk
     refine Qag (p:=let A0:=(↑q.den:Int); Qem n (fun (q:Rat) (s:St6)=>FitK (Qhm n q) (QaZ n q) l s) q.num q.num A0 A0 p.num p.num (↑p.den:Int) (↑p.den:Int) k2 j2 k3 j3 (hasL A) (getL 5000 A)∧∀ (z1:Int × St6),z1=(idxK (QaZ n (Rat.divInt q.num A0)) l (lzOf 5000 (hasL A) (getL 5000 A),Rat.divInt p.num (↑p.den:Int)) 0,(sumK (QaZ n (Rat.divInt q.num A0)) l (lzOf 5000 (hasL A) (getL 5000 A),Rat.divInt p.num (↑p.den:Int))).snd)→EndU 4 (Out.need (Qem n (fun (q:Rat) (s:St6)=>FitK (Qhm n q) (QaZ n q) l s) q.num q.num A0 A0 p.num p.num (↑p.den:Int) (↑p.den:Int) k2 j2 k3 j3 (hasL A) (getL 5000 A)) (Out.nm (Bool × St6) (sumK (QaZ n q) l (A,p)) fun (z:Bool × St6)=>Out.ret (bV !z.fst) [PO.cells [PV.bp 2 0],PO.cells [PV.f (Lf.zn q.num),PV.f (Lf.zd q.num k2),PV.f (Lf.zn A0),PV.f (Lf.zd A0 j2)],PO.cells [PV.f (Lf.zn z.snd.snd.num),PV.f (Lf.zd z.snd.snd.num 5000),PV.f (Lf.zn (↑z.snd.snd.den:Int)),PV.f (Lf.zd (↑z.snd.snd.den:Int) 5000),PV.wr 3],PO.map Kt.str (hasL z.snd.fst) (getL 5000 z.snd.fst) [] []])).fin true (bV (decide (z1.fst ≥ (0:Int)))) [PO.cells [PV.bp 2 0],PO.cells [PV.f (Lf.zn q.num),PV.f (Lf.zd q.num k2),PV.f (Lf.zn A0),PV.f (Lf.zd A0 j2)],PO.cells [PV.f (Lf.zn z1.snd.snd.num),PV.f (Lf.zd z1.snd.snd.num 5000),PV.f (Lf.zn (↑z1.snd.snd.den:Int)),PV.f (Lf.zd (↑z1.snd.snd.den:Int) 5000),PV.wr 3],PO.map Kt.str (hasL z1.snd.fst) (getL 5000 z1.snd.fst) [] []]) ?kr ?_
     case kr=>kernel_rfl
     conv=>zeta
     refine ⟨?s0,fun z1=>fun hz1=>?m0⟩
     all_goals try simp only [Tw.eta,Rat.num_divInt_den,Qbe hA.1,Int.toNat_natCast,decide_eq_true_eq,decide_eq_false_iff_not,Int.ofNat_lt,beq_iff_eq,beq_eq_false_iff_ne,ne_eq,Bool.not_eq_true',Bool.not_eq_false'] at *
     case s0=>exact QdU hk hA hF
     case m0 =>
      subst hz1
      exact QaA (endU rfl (QaT QmJ) rfl rfl (r:=[]) rfl)
   · cases hs
 · cases hs
set_option maxHeartbeats 16000000 in
theorem cTm6S {E:Env} (hU:Up E) (hT:∀ K w H,E K w H→Tab w) {n:Nat} (hR:Contract2 Tryz.prog E 85 (Qij n)) (hC:Contract2 Tryz.prog E 157 (Qq8 n)):Contract2 Tryz.prog E 85 (Qij (n+1)):=by
 refine contract2 [(98,sKey),(73,Qgw),(67,Qcx),(69,Qtx)] [(68,sAtom),(157,Qq8 n),(85,Qij n),(70,Ql6 5000)] Tryz.ntmps85 Tryz.func85 (by kernel_rfl) (by kernel_rfl) hU ⟨cKey hU hT,Qna hU,Qi0 hU,cMul6 hU,trivial⟩ ⟨cAtom hU,hC,hR,QsV hU 5000,trivial⟩ ?_
 intro xs ob o hs hok
 unfold Qij at hs
 split at hs
 · rename_i x c c' k2 d d' j2 a b k3 e f j3 has get
   split at hs
   · rename_i t ht
     cases hs
     obtain ⟨⟨i1,i2,hk,A,hA,rfl,rfl,hF⟩,-⟩:=hok
     obtain ⟨q,rfl,rfl,rfl,rfl,e1⟩:=Qdy i1
     obtain ⟨p,rfl,rfl,rfl,rfl,e2⟩:=Qdy i2
     rw [e1] at hF ⊢
     rw [e2] at hF hA ⊢
     rw [Qbe hA.1]
     refine ⟨[.bp 0 0,tmP t,.agg [.f (.zn q.num),.f (.zd q.num k2),.f (.zn q.den),.f (.zd q.den j2)]],[],.cons (.refl _) (.cons (Qfs ht) (.cons (.refl _) .nil)),rfl,fun _ hsh=>?_⟩
     have h0:=hk
     refine Qag (p:=let A4:=(↑q.den:Int); let A5:=fun (z1:Rat)=>((zNeg z1.num,digs 1000000000 z1.num.natAbs,t.digits.length+3),zNeg (↑z1.den:Int),digs 1000000000 (↑z1.den:Int).natAbs,6); let A6:= ((zNeg q.num,digs 1000000000 q.num.natAbs,k2),zNeg A4,digs 1000000000 A4.natAbs,j2); let A7:=(↑p.den:Int); let A8:=fun (z2:Rat)=>(↑z2.den:Int); let A0:=Out.need (Qem (n+1) (FitT (n+1) t) q.num q.num A4 A4 p.num p.num A7 A7 k2 j2 k3 j3 (hasL A) (getL 5000 A)) (Out.nm (Bool × St6) (sumT (n+1) t q (A,p)) fun (z:Bool × St6)=>Out.ret (bV z.fst) [PO.cells [PV.f (Lf.zn z.snd.snd.num),PV.f (Lf.zd z.snd.snd.num 5000),PV.f (Lf.zn (↑z.snd.snd.den:Int)),PV.f (Lf.zd (↑z.snd.snd.den:Int) 5000),PV.wr 1],PO.map Kt.str (hasL z.snd.fst) (getL 5000 z.snd.fst) [] []]); let A1:=t.digits.length≤95000∧∀ (z1:Rat),(z1=match Qak t.neg t.digits with | true=>(↑(zV t.neg t.digits):Rat) | false=>(0:Rat))→(((List.foldl bTi (6,6) [A6,(A5 z1)]).fst≤95000∧(List.foldl bTi (6,6) [A6,(A5 z1)]).snd≤95000∧2≤1000000)∧ZQ (List.foldl (fun (a:Rat) (e:QE)=>a * ofE e) (1:Rat) [A6,(A5 z1)]))∧∀ (z2:Rat),z2=List.foldl (fun (a:Rat) (e:QE)=>a * ofE e) (1:Rat) [A6,(A5 z1)]→ifB (t.kind==(6:Int)) (ifB ((↑t.kids.length:Int)==(1:Int)) (((0:Int)≤(0:Int)∧(0:Int)<(↑t.kids.length:Int))∧Qem n (FitT n (etaT (t.kids.getD (Int.toNat (0:Int)) Sh.tm.nil))) z2.num z2.num (A8 z2) (A8 z2) p.num p.num A7 A7 5000 5000 k3 j3 (hasL A) (getL 5000 A)∧∀ (z3:Bool × St6),z3=sumT n (etaT (t.kids.getD (Int.toNat (0:Int)) Sh.tm.nil)) (Rat.divInt z2.num (A8 z2)) (lzOf 5000 (hasL A) (getL 5000 A),Rat.divInt p.num A7)→EndU 2 A0.fin true (bV z3.fst) [PO.cells [PV.f (Lf.zn z3.snd.snd.num),PV.f (Lf.zd z3.snd.snd.num 5000),PV.f (Lf.zn (↑z3.snd.snd.den:Int)),PV.f (Lf.zd (↑z3.snd.snd.den:Int) 5000),PV.wr 1],PO.map Kt.str (hasL z3.snd.fst) (getL 5000 z3.snd.fst) [] [],PO.cells [PV.bp 0 0],PO.cells (QaU (tmC t)),PO.cells [PV.f (Lf.zn q.num),PV.f (Lf.zd q.num k2),PV.f (Lf.zn A4),PV.f (Lf.zd A4 j2)],PO.cells [PV.f (Lf.zn z2.num),PV.f (Lf.zd z2.num 5000),PV.f (Lf.zn (A8 z2)),PV.f (Lf.zd (A8 z2) 5000)]]) (EndU 2 A0.fin true (bV false) [PO.cells [PV.f (Lf.zn p.num),PV.f (Lf.zd p.num k3),PV.f (Lf.zn A7),PV.f (Lf.zd A7 j3),PV.wr 1],PO.map Kt.str (hasL A) (getL 5000 A) [] [],PO.cells [PV.bp 0 0],PO.cells (QaU (tmC t)),PO.cells [PV.f (Lf.zn q.num),PV.f (Lf.zd q.num k2),PV.f (Lf.zn A4),PV.f (Lf.zd A4 j2)],PO.cells [PV.f (Lf.zn z2.num),PV.f (Lf.zd z2.num 5000),PV.f (Lf.zn (A8 z2)),PV.f (Lf.zd (A8 z2) 5000)]])) (((isQ p.num p.num A7 A7∧isQ z2.num z2.num (A8 z2) (A8 z2))∧(k3≤15000∧j3≤15000∧5000≤15000∧5000≤15000)∧ZB (Rat.divInt z2.num (A8 z2)+Rat.divInt p.num A7).num 5000∧ZB (↑(Rat.divInt z2.num (A8 z2)+Rat.divInt p.num A7).den:Int) 5000)∧∀ (z3:Rat),z3=Rat.divInt z2.num (A8 z2)+Rat.divInt p.num A7→EndU 2 A0.fin true (bV ((↑t.kids.length:Int)==(0:Int))) [PO.cells [PV.f (Lf.zn z3.num),PV.f (Lf.zd z3.num 5000),PV.f (Lf.zn (↑z3.den:Int)),PV.f (Lf.zd (↑z3.den:Int) 5000),PV.wr 1],PO.map Kt.str (hasL A) (getL 5000 A) [] [],PO.cells [PV.bp 0 0],PO.cells (QaU (tmC t)),PO.cells [PV.f (Lf.zn q.num),PV.f (Lf.zd q.num k2),PV.f (Lf.zn A4),PV.f (Lf.zd A4 j2)],PO.cells [PV.f (Lf.zn z2.num),PV.f (Lf.zd z2.num 5000),PV.f (Lf.zn (A8 z2)),PV.f (Lf.zd (A8 z2) 5000)],PO.gone]); let A2:=(QbN (etaT t)∧(etaT t).fitT∧(keyB (etaT t)).length≤140737488355328)∧(isQ q.num q.num A4 A4∧(k2≤15000∧j2≤15000)∧∃ (A_1:Lz),canL A_1∧fitL 5000 A_1∧hasL A=hasL A_1∧getL 5000 A=getL 5000 A_1∧fitL 5000 (addL A_1 (keyS (etaT t)) (Rat.divInt q.num A4)))∧∀ (z1:Lz),z1=addL (lzOf 5000 (hasL A) (getL 5000 A)) (keyS (etaT t)) (Rat.divInt q.num A4)→EndU 2 A0.fin true (bV true) [PO.cells [PV.f (Lf.zn p.num),PV.f (Lf.zd p.num k3),PV.f (Lf.zn A7),PV.f (Lf.zd A7 j3),PV.wr 1],PO.map Kt.str (hasL z1) (getL 5000 z1) [] [],PO.cells [PV.bp 0 0],PO.cells (QaU (tmC t)),PO.cells [PV.f (Lf.zn q.num),PV.f (Lf.zd q.num k2),PV.f (Lf.zn A4),PV.f (Lf.zd A4 j2)]]; let A3:=EndU 2 A0.fin true (bV false) [PO.cells [PV.f (Lf.zn p.num),PV.f (Lf.zd p.num k3),PV.f (Lf.zn A7),PV.f (Lf.zd A7 j3),PV.wr 1],PO.map Kt.str (hasL A) (getL 5000 A) [] [],PO.cells [PV.bp 0 0],PO.cells (QaU (tmC t)),PO.cells [PV.f (Lf.zn q.num),PV.f (Lf.zd q.num k2),PV.f (Lf.zn A4),PV.f (Lf.zd A4 j2)]]; ifB (t.kind==(1:Int)) A2 (ifB (t.kind==(7:Int)) A2 (ifB (t.kind==(5:Int)) (Qem n (fun (q:Rat) (s:St6)=>FitK (Qhm n q) (QaZ n q) t.kids s) q.num q.num A4 A4 p.num p.num A7 A7 k2 j2 k3 j3 (hasL A) (getL 5000 A)∧∀ (z1:Bool × St6),z1=sumK (QaZ n (Rat.divInt q.num A4)) t.kids (lzOf 5000 (hasL A) (getL 5000 A),Rat.divInt p.num A7)→EndU 2 A0.fin true (bV (!!z1.fst)) [PO.cells [PV.f (Lf.zn z1.snd.snd.num),PV.f (Lf.zd z1.snd.snd.num 5000),PV.f (Lf.zn (↑z1.snd.snd.den:Int)),PV.f (Lf.zd (↑z1.snd.snd.den:Int) 5000),PV.wr 1],PO.map Kt.str (hasL z1.snd.fst) (getL 5000 z1.snd.fst) [] [],PO.cells [PV.bp 0 0],PO.cells (QaU (tmC t)),PO.cells [PV.f (Lf.zn q.num),PV.f (Lf.zd q.num k2),PV.f (Lf.zn A4),PV.f (Lf.zd A4 j2)]]) (ifB (t.kind==(2:Int)) (t.digits.length≤100000000∧ifB (!Qak t.neg t.digits) A3 A1) (ifB (t.kind==(6:Int)) (t.digits.length≤100000000∧ifB (!Qak t.neg t.digits) A3 A1) A3))))) ?kr ?_
     case kr=>kernel_rfl
     conv=>zeta
     refine Qae.2 ⟨fun hb0=>⟨?s0,⟨⟨?s1,⟨?s2,⟨?x0,⟨?s3,⟨?s4,⟨?s5,⟨?s6,?m0⟩⟩⟩⟩⟩⟩⟩,fun z1=>fun hz1=>?m1⟩⟩,fun hb0=>Qae.2 ⟨fun hb1=>⟨?s7,⟨⟨?s8,⟨?s9,⟨?x1,⟨?s10,⟨?s11,⟨?s12,⟨?s13,?m2⟩⟩⟩⟩⟩⟩⟩,fun z1=>fun hz1=>?m3⟩⟩,fun hb1=>Qae.2 ⟨fun hb2=>⟨?s14,fun z1=>fun hz1=>?m4⟩,fun hb2=>Qae.2 ⟨fun hb3=>⟨?s15,Qae.2 ⟨fun hb4=>?m5,fun hb4=>⟨?s16,fun z1=>fun hz1=>⟨?s17,fun z2=>fun hz2=>Qae.2 ⟨fun hb5=>Qae.2 ⟨fun hb6=>⟨?s18,⟨?s19,fun z3=>fun hz3=>?m6⟩⟩,fun hb6=>?m7⟩,fun hb5=>⟨?s20,fun z3=>fun hz3=>?m8⟩⟩⟩⟩⟩⟩,fun hb3=>Qae.2 ⟨fun hb7=>⟨?s21,Qae.2 ⟨fun hb8=>?m9,fun hb8=>⟨?s22,fun z1=>fun hz1=>⟨?s23,fun z2=>fun hz2=>Qae.2 ⟨fun hb9=>Qae.2 ⟨fun hb10=>⟨?s24,⟨?s25,fun z3=>fun hz3=>?m10⟩⟩,fun hb10=>?m11⟩,fun hb9=>⟨?s26,fun z3=>fun hz3=>?m12⟩⟩⟩⟩⟩⟩,fun hb7=>?m13⟩⟩⟩⟩⟩
     all_goals try simp only [etaT] at *
     case x0=>exact A
     case x1=>exact A
     all_goals try simp only [Tw.eta,Rat.num_divInt_den,Qbe hA.1,Int.toNat_natCast,decide_eq_true_eq,decide_eq_false_iff_not,Int.ofNat_lt,beq_iff_eq,beq_eq_false_iff_ne,ne_eq,Bool.not_eq_true',Bool.not_eq_false'] at *
     all_goals rw [FitT] at hF
     case s1=>exact QeK q
     case s2=>exact ⟨hk.1,hk.2.1⟩
     case s3=>exact hA.1
     case s4=>exact hA.2.1
     case s8=>exact QeK q
     case s9=>exact ⟨hk.1,hk.2.1⟩
     case s10=>exact hA.1
     case s11=>exact hA.2.1
     case s0=>exact (hF.1 (.inl hb0)).2
     case s7=>exact (hF.1 (.inr hb1)).2
     case m0=>exact (hF.1 (.inl hb0)).1
     case m2=>exact (hF.1 (.inr hb1)).1
     case m1 =>
      have hZ:=hA.2.2
      subst hz1
      rw [QlV (.inl hb0)]
      refine QaA (Qd9 rfl (.refl _) rfl rfl rfl ?_)
      repeat' first | exact SubB.refl _ | exact trivial | exact MapW.refl _ _ _ _ _ | exact Qai rfl hZ.1 | exact Qai rfl hZ.2 | refine And.intro ?_ ?_
     case m3 =>
      have hZ:=hA.2.2
      subst hz1
      rw [QlV (.inr hb1)]
      refine QaA (Qd9 rfl (.refl _) rfl rfl rfl ?_)
      repeat' first | exact SubB.refl _ | exact trivial | exact MapW.refl _ _ _ _ _ | exact Qai rfl hZ.1 | exact Qai rfl hZ.2 | refine And.intro ?_ ?_
     case s14=>exact QdU hk hA (hF.2.1 hb2)
     case m4 =>
      subst hz1
      rw [Qq2 hb2]
      exact QaA (Qd9 rfl (QaT (Bool.not_not _)) rfl rfl rfl (by repeat' first | exact SubB.refl _ | exact trivial | exact MapW.refl _ _ _ _ _ | refine And.intro ?_ ?_))
     case m13 =>
      have hZ:=hA.2.2
      rw [QoM hb0 hb1 hb2 hb3 hb7]
      refine QaA (Qd9 rfl (.refl _) rfl rfl rfl ?_)
      repeat' first | exact SubB.refl _ | exact trivial | exact MapW.refl _ _ _ _ _ | exact Qai rfl hZ.1 | exact Qai rfl hZ.2 | refine And.intro ?_ ?_
     all_goals have hK:t.kind=2∨t.kind=6:=by first | exact .inl hb3 | exact .inr hb7
     all_goals have hN:=hF.2.2 hK
     case s15=>omega
     case s21=>omega
     case s16=>omega
     case s22=>omega
     case m5 =>
      have hZ:=hA.2.2
      rw [QlU hK hb4]
      refine QaA (Qd9 rfl (.refl _) rfl rfl rfl ?_)
      repeat' first | exact SubB.refl _ | exact trivial | exact MapW.refl _ _ _ _ _ | exact Qai rfl hZ.1 | exact Qai rfl hZ.2 | refine And.intro ?_ ?_
     case m9 =>
      have hZ:=hA.2.2
      rw [QlU hK hb8]
      refine QaA (Qd9 rfl (.refl _) rfl rfl rfl ?_)
      repeat' first | exact SubB.refl _ | exact trivial | exact MapW.refl _ _ _ _ _ | exact Qai rfl hZ.1 | exact Qai rfl hZ.2 | refine And.intro ?_ ?_
     all_goals have hr:Qak t.neg t.digits=true:=by first | exact hb4 | exact hb8
     all_goals have h1:z1=zT t:=by rw [hz1,hr]; rfl
     case s17 =>
      refine ⟨?_,?_⟩
      · refine ⟨?_,?_,by simp⟩ <;> simp only [List.foldl,bTi] <;> omega
      · rw [fold2,h1]; exact hN.2.1
     case s23 =>
      refine ⟨?_,?_⟩
      · refine ⟨?_,?_,by simp⟩ <;> simp only [List.foldl,bTi] <;> omega
      · rw [fold2,h1]; exact hN.2.1
     all_goals have h2:z2=q * zT t:=by rw [hz2,fold2,h1]
     case s18=>omega
     case s24=>omega
     case s19=>omega
     case m6=>omega
     case m7=>omega
     case s26=>omega
     case m12=>omega
     case s25 =>
      rw [h2]
      exact QdU ⟨by omega,by omega,hk.2.2.1,hk.2.2.2⟩ hA (hN.2.2.1 hb7 (by omega))
     case m10 =>
      rw [Qnw hb7 hr (by omega),← h2]
      subst hz3
      exact QaA (Qd9 rfl (.refl _) rfl rfl rfl (by repeat' first | exact SubB.refl _ | exact trivial | exact MapW.refl _ _ _ _ _ | refine And.intro ?_ ?_))
     case m11 =>
      have hZ:=hA.2.2
      rw [QoN hb7 hr (by omega)]
      refine QaA (Qd9 rfl (.refl _) rfl rfl rfl ?_)
      repeat' first | exact SubB.refl _ | exact trivial | exact MapW.refl _ _ _ _ _ | exact Qai rfl hZ.1 | exact Qai rfl hZ.2 | refine And.intro ?_ ?_
     case s20 =>
      rw [h2]
      exact ⟨⟨QeK _,QeK _⟩,⟨hk.2.2.1,hk.2.2.2,by omega,by omega⟩,hN.2.2.2 hb3⟩
     case m8 =>
      rw [Qq1 hb3 hr,← h2,← hz3]
      refine QaA (Qd9 rfl (QaT (by rw [Bool.eq_iff_iff,beq_iff_eq,decide_eq_true_eq]; omega)) rfl rfl rfl ?_)
      repeat' first | exact SubB.refl _ | exact trivial | exact MapW.refl _ _ _ _ _ | refine And.intro ?_ ?_
   · cases hs
 · cases hs
theorem Qun {E:Env} (hU:Up E) (hT:∀ K w H,E K w H→Tab w):∀ n,Contract2 Tryz.prog E 85 (Qij n)
 | 0=>by
  intro xs ob o hs hok
  unfold Qij at hs
  split at hs
  · split at hs
    · cases hs
      obtain ⟨⟨_,_,_,A,_,_,_,hF⟩,-⟩:=hok
      exact hF.elim
    · cases hs
  · cases hs
 | n+1=>cTm6S hU hT (Qun hU hT n) (cTm6C hU (cTm6I hU (cTm61 hU (Qun hU hT n))))
end Go.Proofs.YtmbmbcamecfnkaaGreatDoor
namespace Go.Proofs.YtmbmbcamecfnkaaGreatDoor
open Go.RowKit
set_option linter.unusedVariables false
set_option linter.unusedSimpArgs false
set_option maxRecDepth 100000
noncomputable section
def ofO (n:Nat) (t:Tw):Option St6:=if (sumT n t 1 ([],0)).1=true then some (sumT n t 1 ([],0)).2 else none
def keys6:Option St6→List ByteArray
 | some p=>p.1.map (·.1)
 | none=>[]
def ze6 (x:ByteArray × Rat):Ze:=(zNeg x.2.num,digs 1000000000 x.2.num.natAbs,5000)
def coef6:Option St6→List Ze
 | some p=>p.1.map ze6
 | none=>[]
def con6:Option St6→Int
 | some p=>p.2.num
 | none=>0
structure FitO (n:Nat) (t:Tw):Prop where
 fit:FitT n t 1 ([],0)
 len:(sumT n t 1 ([],0)).2.1.length≤1000000
 key:∀ x∈(sumT n t 1 ([],0)).2.1,x.1.size≤maxLen
def sOf6 (n:Nat):Spec
 | [x]=>match tmOf x with
  | some t=>some (some (FitO n t),.nm (Option St6) (ofO n t) fun z=>.tup [.agg [.f (.dt .str (keys6 z)),.f (.zs (coef6 z)),.f (.zn (con6 z)),.f (.zd (con6 z) 5000)],bV z.isSome])
  | none=>none
 | _=>none
end
theorem FitO.ok {n:Nat} {t:Tw} (h:FitO n t):OkS (sumT n t 1 ([],0)).2 :=
 Qic h.fit ⟨trivial,(fun x hx=>nomatch hx),zb0L,zb1L (by omega)⟩
theorem QtO {n:Nat} {t:Tw} (h:(sumT n t 1 ([],0)).1=true):ofO n t=some (sumT n t 1 ([],0)).2:=if_pos h
theorem ofO_no {n:Nat} {t:Tw} (h:(sumT n t 1 ([],0)).1=false):ofO n t=none:=if_neg (by rw [h]; exact Bool.false_ne_true)
theorem FitO.lenO {n:Nat} {t:Tw} {A:Lz} {c:Rat} (hF:FitO n t) (h:ofO n t=some (A,c)):A.length≤1000000:=by
 unfold ofO at h
 split at h
 · have e:=Option.some.inj h
   have h2:=hF.len
   rw [e] at h2
   exact h2
 · cases h
theorem QuB:SubB (.f (.v (.bool false))) (.f (.zn 0)):=⟨fun H B v h=>by
 have:=h.val
 subst this
 exact .f (.zn 0)⟩
theorem nil_zs:SubB (.f (.v (.slice none 0 0))) (.f (.zs [])):=⟨fun H B v h=>by
 have:=h.val
 subst this
 exact .f (QgQ rfl trivial)⟩
theorem Qs3 (L:List Ze):SubB (.f (.row 2 (Qd6 L))) (.f (.zs L)):=by
 have h:=Qdb (y:=.row 2 (Qd6 L)) (Qmd L)
 have e:zsOf (L.map fun e=>((e.1,e.2.1),e.2.2,e.2.2+1))=L:=by
  unfold zsOf
  rw [List.map_map]
  exact (List.map_congr_left fun x _=>rfl).trans (List.map_id _)
 rw [e] at h
 exact Qgn h
theorem Qnl {L:List Ze} {i:Nat} (h:i<L.length):Qd6 (L.take (i+1))=Qd6 (L.take i)++[[.v (.bool (L.getD i (false,[],0)).1),.lr (L.getD i (false,[],0)).2.1 (L.getD i (false,[],0)).2.2]]:=by
 unfold Qd6
 rw [List.take_add_one,List.getElem?_eq_getElem h,List.map_append,List.getD_eq_getElem?_getD,List.getElem?_eq_getElem h]; rfl
theorem ze_raw (A:Lz) (i:Nat):((A.map fun x=>rawE 5000 x.2).getD i ((false,[],0),(false,[],0))).1=(A.map ze6).getD i (false,[],0):=by
 rw [List.getD_eq_getElem?_getD,List.getD_eq_getElem?_getD,List.getElem?_map,List.getElem?_map]
 cases A[i]? <;> rfl
set_option maxHeartbeats 8000000 in
theorem cOf6 {E:Env} (hU:Up E) (hT:∀ K w H,E K w H→Tab w) (n:Nat):Contract Tryz.prog E 27 (sOf6 n):=by
 refine Qan [(21,sOf),(67,Qcx)] [(66,Qmb),(85,Qij n),(71,sParts)] Tryz.ntmps27 Tryz.func27 (by kernel_rfl) (by kernel_rfl) hU ⟨cOf hU,Qi0 hU,trivial⟩ ⟨Qs0 hU,Qun hU hT n,QqI hU,trivial⟩ ?_
 intro xs p r hs hp
 unfold sOf6 at hs
 split at hs
 · rename_i x
   split at hs
   · rename_i t ht
     cases hs
     have hF:=hp _ rfl
     refine ⟨[tmP t],[(7,.s ⟨Lz × Rat × Nat,fun i=>⟨[(2,.bp 1 0),(7,.bp 4 0),(31,.f (.qs (i.1.map fun x=>rawE 5000 x.2))),(32,iV i.1.length),(33,iV i.2.2)],[.cells (QaU (tmC t)),.cells [.f (.v (.slice none 0 0)),.f (.v (.slice none 0 0)),.f (.v (.bool false)),.f (.v (.slice none 0 0))],.map .str (hasL i.1) (getL 5000 i.1) [] [],.cells [.f (.zn i.2.1.num),.f (.zd i.2.1.num 5000),.f (.zn i.2.1.den),.f (.zd i.2.1.den 5000),.wr 2],.cells [.f (.dt .str (i.1.map (·.1))),.tl 5 (.row 2 (Qd6 ((i.1.map ze6).take i.2.2))),.f (.zn i.2.1.num),.f (.zd i.2.1.num 5000)],.tail 26 2]⟩,fun i=>i.2.2≤i.1.length∧ofO n t=some (i.1,i.2.1),fun i=>i.1.length - i.2.2⟩)],.cons (Qfs ht).sub .nil,rfl,fun _ hsh=>?_⟩
     have h0:=hF
     refine Qag (p:=let A0:=fun (x:ByteArray × Rat)=>rawE 5000 x.snd; let A1:=PV.tup [PV.agg [dP Sh.str (keys6 (ofO n t)),PV.f (Lf.zs (coef6 (ofO n t))),PV.f (Lf.zn (con6 (ofO n t))),PV.f (Lf.zd (con6 (ofO n t)) 5000)],bV ((ofO n t).isSome)]; let A2:=fun (x:ByteArray × Rat)=>x.fst; let A3:=rfB (uV t.kind)∧rfB (sV t.name)∧rfB (bV t.neg)∧rfB (PV.f (Lf.lr t.digits t.digits.length))∧rfB (dP Sh.tm t.kids)∧True; let A4:=fun (z6:Lz × Rat × Nat)=>((List.map A0 z6.fst).getD (↑z6.snd.snd:Int).toNat ((false,[],0),false,[],0)); let A5:=fun (z6:Lz × Rat × Nat)=>(List.take z6.snd.snd (List.map ze6 z6.fst)); ((-9223372036854775808:Int)≤(1:Int)∧(1:Int)≤(9223372036854775807:Int))∧∀ (z1:Int),z1=(1:Int)→3≤95000∧∀ (z2:Rat),(z2=match Qak (zNeg z1) (digs 1000000000 z1.natAbs) with | true=>(↑(zV (zNeg z1) (digs 1000000000 z1.natAbs)):Rat) | false=>(0:Rat))→Qem n (FitT n (etaT t)) z2.num z2.num (↑z2.den:Int) (↑z2.den:Int) (0:Int) (0:Int) (1:Int) (1:Int) (3+3) 6 5000 5000 (hasL []) (getL 5000 [])∧∀ (z3:Bool × St6),z3=sumT n (etaT t) (Rat.divInt z2.num (↑z2.den:Int)) (lzOf 5000 (hasL []) (getL 5000 []),Rat.divInt (0:Int) (1:Int))→ifB (!z3.fst) (true=true∧Sub (PV.tup [PV.agg [nlP,nlP,bV false,nlP],bV false]) A1) (isL (hasL z3.snd.fst) (getL 5000 z3.snd.fst)∧∀ (z4:Lz),z4=lzOf 5000 (hasL z3.snd.fst) (getL 5000 z3.snd.fst)→∃ (x5:Lz × Rat × Nat),((A3∧(rfB (nlP)∧rfB (nlP)∧rfB (bV false)∧rfB (nlP)∧True)∧MapW Kt.str (fun (s:Kt.str.T)=>List.any z3.snd.fst fun (x:ByteArray × Rat)=>decide (x.fst=s)) (fun (s:Kt.str.T)=>qC 5000 (valL z3.snd.fst s)) [] [] Kt.str (fun (s:Kt.str.T)=>List.any x5.fst fun (x:ByteArray × Rat)=>decide (x.fst=s)) (fun (s:Kt.str.T)=>qC 5000 (valL x5.fst s)) [] []∧(SubB (PV.f (Lf.zn z3.snd.snd.num)) (PV.f (Lf.zn x5.snd.fst.num))∧SubB (PV.f (Lf.zd z3.snd.snd.num 5000)) (PV.f (Lf.zd x5.snd.fst.num 5000))∧SubB (PV.f (Lf.zn (↑z3.snd.snd.den:Int))) (PV.f (Lf.zn (↑x5.snd.fst.den:Int)))∧SubB (PV.f (Lf.zd (↑z3.snd.snd.den:Int) 5000)) (PV.f (Lf.zd (↑x5.snd.fst.den:Int) 5000))∧rfB (PV.wr 2)∧True)∧(SubB (dP Sh.str (List.map A2 z4)) (dP Sh.str (List.map A2 x5.fst))∧QdA (PV.tl 5 (Lf.row 2 (Qd6 (List.take x5.snd.snd (List.map ze6 x5.fst)))))∧SubB (PV.f (Lf.zn z3.snd.snd.num)) (PV.f (Lf.zn x5.snd.fst.num))∧SubB (PV.f (Lf.zd z3.snd.snd.num 5000)) (PV.f (Lf.zd x5.snd.fst.num 5000))∧True)∧True)∧rfB (PV.bp 1 0)∧rfB (PV.bp 4 0)∧SubB (PV.f (Lf.qs (List.map A0 z4))) (PV.f (Lf.qs (List.map A0 x5.fst)))∧SubB (iV (↑(List.map A0 z4).length:Int)) (iV (↑(List.length x5.fst):Int))∧SubB (iV 0) (iV (↑x5.snd.snd:Int))∧True)∧(x5.snd.snd≤List.length x5.fst∧ofO n t=some (x5.fst,x5.snd.fst))∧True∧∀ (z6:Lz × Rat × Nat),z6.snd.snd≤List.length z6.fst∧ofO n t=some (z6.fst,z6.snd.fst)→True→ifB (decide ((↑z6.snd.snd:Int)<(↑(List.length z6.fst):Int))) (((0:Int)≤(↑z6.snd.snd:Int)∧(↑z6.snd.snd:Int)<(↑(List.map A0 z6.fst).length:Int))∧((Qd6 (A5 z6)).length+1≤9223372036854775807∧((Qd6 (A5 z6)).length+1) * 32≤140737488355328)∧∃ (x7:Lz × Rat × Nat),((A3∧(rfB (nlP)∧rfB (nlP)∧rfB (bV false)∧rfB (nlP)∧True)∧MapW Kt.str (fun (s:Kt.str.T)=>List.any z6.fst fun (x:ByteArray × Rat)=>decide (x.fst=s)) (fun (s:Kt.str.T)=>qC 5000 (valL z6.fst s)) [] [] Kt.str (fun (s:Kt.str.T)=>List.any x7.fst fun (x:ByteArray × Rat)=>decide (x.fst=s)) (fun (s:Kt.str.T)=>qC 5000 (valL x7.fst s)) [] []∧(SubB (PV.f (Lf.zn z6.snd.fst.num)) (PV.f (Lf.zn x7.snd.fst.num))∧SubB (PV.f (Lf.zd z6.snd.fst.num 5000)) (PV.f (Lf.zd x7.snd.fst.num 5000))∧SubB (PV.f (Lf.zn (↑z6.snd.fst.den:Int))) (PV.f (Lf.zn (↑x7.snd.fst.den:Int)))∧SubB (PV.f (Lf.zd (↑z6.snd.fst.den:Int) 5000)) (PV.f (Lf.zd (↑x7.snd.fst.den:Int) 5000))∧rfB (PV.wr 2)∧True)∧(SubB (dP Sh.str (List.map A2 z6.fst)) (dP Sh.str (List.map A2 x7.fst))∧SubB (PV.tl 5 (Lf.row 2 (Qd6 (A5 z6)++[[Lf.v (Value.bool (A4 z6).fst.fst),Lf.lr (A4 z6).fst.snd.fst (A4 z6).fst.snd.snd]]))) (PV.tl 5 (Lf.row 2 (Qd6 (List.take x7.snd.snd (List.map ze6 x7.fst)))))∧SubB (PV.f (Lf.zn z6.snd.fst.num)) (PV.f (Lf.zn x7.snd.fst.num))∧SubB (PV.f (Lf.zd z6.snd.fst.num 5000)) (PV.f (Lf.zd x7.snd.fst.num 5000))∧True)∧True)∧rfB (PV.bp 1 0)∧rfB (PV.bp 4 0)∧SubB (PV.f (Lf.qs (List.map A0 z6.fst))) (PV.f (Lf.qs (List.map A0 x7.fst)))∧SubB (iV (↑(List.length z6.fst):Int)) (iV (↑(List.length x7.fst):Int))∧SubB (iV (IntKind.i64.wrap ((↑z6.snd.snd:Int)+(1:Int)))) (iV (↑x7.snd.snd:Int))∧True)∧(x7.snd.snd≤List.length x7.fst∧ofO n t=some (x7.fst,x7.snd.fst))∧True∧(List.length x7.fst - x7.snd.snd).succ.le (List.length z6.fst - z6.snd.snd)) (true=true∧Sub (PV.tup [PV.agg [dP Sh.str (List.map A2 z6.fst),PV.f (Lf.row 2 (Qd6 (A5 z6))),PV.f (Lf.zn z6.snd.fst.num),PV.f (Lf.zd z6.snd.fst.num 5000)],bV true]) A1))) ?kr ?_
     case kr=>kernel_rfl
     conv=>zeta
     refine ⟨?s0,fun z1=>fun hz1=>⟨?s1,fun z2=>fun hz2=>⟨?s2,fun z3=>fun hz3=>Qae.2 ⟨fun hb0=>⟨rfl,?m0⟩,fun hb0=>⟨?s3,fun z4=>fun hz4=>⟨?x0,⟨?s4,⟨?s5,⟨trivial,fun z6=>fun hq1=>fun _=>Qae.2 ⟨fun hb2=>⟨?s6,⟨?s7,⟨?x1,⟨⟨⟨⟨.refl _,⟨.refl _,⟨.refl _,⟨.refl _,⟨.refl _,trivial⟩⟩⟩⟩⟩,⟨⟨.refl _,⟨.refl _,⟨.refl _,⟨.refl _,trivial⟩⟩⟩⟩,⟨?m1,⟨⟨?m2,⟨?m3,⟨?m4,⟨?m5,⟨.refl _,trivial⟩⟩⟩⟩⟩,⟨⟨?m6,⟨?m7,⟨?m8,⟨?m9,trivial⟩⟩⟩⟩,trivial⟩⟩⟩⟩⟩,⟨.refl _,⟨.refl _,⟨?m10,⟨?m11,⟨?m12,trivial⟩⟩⟩⟩⟩⟩,⟨?s8,⟨trivial,?m13⟩⟩⟩⟩⟩⟩,fun hb2=>⟨rfl,?m14⟩⟩⟩⟩⟩⟩⟩⟩⟩⟩⟩
     all_goals try simp only [etaT] at *
     case x0=>exact (z4,z3.2.2,0)
     case x1=>exact (z6.1,z6.2.1,z6.2.2+1)
     all_goals try simp only [Tw.eta,Rat.num_divInt_den,Int.toNat_natCast,decide_eq_true_eq,decide_eq_false_iff_not,Int.ofNat_lt,Bool.not_eq_true',Bool.not_eq_false',List.length_map] at *
     case s0=>omega
     case s1=>omega
     all_goals have h1:z2=1:=by rw [hz2,hz1]; rfl
     all_goals have hl0:lzOf 5000 (hasL []) (getL 5000 [])=[]:=Qbe (A:=[]) trivial
     case s2 =>
      rw [h1]
      exact QdU (q:=1) (p:=0) ⟨by omega,by omega,by omega,by omega⟩ ⟨trivial,(fun x hx=>nomatch hx),zb0L,zb1L (by omega)⟩ hF.fit
     all_goals have h3:z3=sumT n t 1 ([],0):=by rw [hz3,h1,hl0]; rfl
     all_goals have hO:OkS z3.2:=by rw [h3]; exact hF.ok
     case m0 =>
      rw [ofO_no (by rw [← h3]; exact hb0)]
      exact (Qnq (.cons (Qht (.cons (Qie .str) (.cons nil_zs (.cons QuB (.cons (Qgn (QfN 5000)) .nil))))) (.cons (.refl _) .nil))).sub
     all_goals have hY:ofO n t=some z3.2:=by rw [h3]; exact QtO (by rw [← h3]; exact hb0)
     case s3=>exact ⟨z3.2.1,hO.1,hO.2.1,⟨by rw [h3]; exact hF.len,by rw [h3]; exact hF.key⟩,rfl,rfl⟩
     all_goals (obtain rfl:z4=z3.2.1:=hz4.trans (Qbe hO.1))
     case s4=>repeat' first | exact SubB.refl _ | exact MapW.refl _ _ _ _ _ | exact trivial | exact rfl | refine And.intro ?_ ?_
     case s5=>exact ⟨Nat.zero_le _,hY⟩
     all_goals have hL:=FitO.lenO hF hq1.2
     case s6=>omega
     case s7 =>
      have hz:(Qd6 (List.take z6.2.2 (List.map ze6 z6.1))).length≤z6.2.2:=by unfold Qd6; rw [List.length_map,List.length_take]; omega
      omega
     case m1=>exact MapW.refl _ _ _ _ _
     case m7 =>
      refine QoX ?_
      rw [Qnl (by rw [List.length_map]; exact hb2),← ze_raw]
     case m12=>exact QaM (by rw [wJ _ (by omega) (by omega)]; rfl)
     case s8=>exact ⟨hb2,hq1.2⟩
     case m13=>exact (by omega:z6.1.length - (z6.2.2+1)<z6.1.length - z6.2.2)
     case m14 =>
      rw [hq1.2]
      have hz:z6.2.2=z6.1.length:=by omega
      rw [hz,List.take_of_length_le (by rw [List.length_map]; exact Nat.le_refl _)]
      exact (Qnq (.cons (Qht (.cons (.refl _) (.cons (Qs3 _) (.cons (.refl _) (.cons (.refl _) .nil))))) (.cons (.refl _) .nil))).sub
     all_goals exact SubB.refl _
   · cases hs
 · cases hs
end Go.Proofs.YtmbmbcamecfnkaaGreatDoor
