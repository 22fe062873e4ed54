/- The layer norm: how many parts a formula has. -/
import Derived.Test.YtdjnlgkpnjdchaaDoorFb
namespace Go.Proofs.YtdjnlgkpnjdchaaDoor
open Go.RowKit
set_option linter.unusedVariables false
set_option maxRecDepth 100000
def sSizFN (n:Nat):Spec
 | [x]=>match forOf x with
  | some (D,S,t)=>some (some (t.size<n∧t.size≤1000000000000∧t.fitT∧sortT D S t=.ok bBool),.nm (Int × Int) (sizT D S t) fun p=>.tup [iV p.1,iV p.2])
  | none=>none
 | _=>none
theorem sumOk2 {a b:Int} (h:(0≤a∧a≤4611686018427387904)∧0≤b∧b≤4611686018427387904):sumOk [a,b]:=fun k hk=>by
 simp only [List.mem_cons,List.not_mem_nil,or_false] at hk
 rcases hk with rfl | rfl
 · exact h.1
 · exact h.2
theorem sumOk3 {a b c:Int} (h:(0≤a∧a≤4611686018427387904)∧(0≤b∧b≤4611686018427387904)∧0≤c∧c≤4611686018427387904):sumOk [a,b,c]:=fun k hk=>by
 simp only [List.mem_cons,List.not_mem_nil,or_false] at hk
 rcases hk with rfl | rfl | rfl
 · exact h.1
 · exact h.2.1
 · exact h.2.2
theorem cSizFN {E:Env} (hU:Up E):∀ n,Contract Tryd.prog E 50 (sSizFN n)
 | 0=>by
  intro xs p r hs hp
  unfold sSizFN at hs
  split at hs
  · split at hs
    · cases hs
      exact absurd (hp _ rfl).1 (Nat.not_lt_zero _)
    · cases hs
  · cases hs
 | n+1=>by
  refine contract_D [(71,sSize),(98,sKid),(50,sSizFN n),(99,sSum),(100,sWhole)] [] Tryd.ntmps50 Tryd.func50 (by kernel_rfl) (by kernel_rfl) hU ⟨cSize hU,cKid hU,cSizFN hU n,cSum hU,cWhole hU,trivial⟩ trivial ?_
  intro xs p r hs hp
  unfold sSizFN at hs
  split at hs
  · rename_i x
    split at hs
    · rename_i D S t ht
      cases hs
      obtain ⟨hn,hb,hf,hs⟩:=hp _ rfl
      have f2:=(Tw.fitT_eq t).1 hf
      have m2:=sort_many hs
      refine ⟨[forP D S t],[(1000014,.s ⟨Unit,fun _=>⟨[(1,.bp 0 0),(4,iV t.size),(34,bV (decide (t.kind=11∨t.kind=12∨t.kind=13)))],[.cells (wrapF (.dt .dat D::.dt .srt S::tmC t))]⟩,fun _=>t.kind≠3∧t.kind≠4∧t.kind≠9∧t.kind≠10,fun _=>0⟩),
       (16,.s ⟨Nat,fun i=>⟨[(1,.bp 0 0),(2,iV (sizF (sizL D S (t.kids.take i))).1),(3,iV (sizF (sizL D S (t.kids.take i))).2),(41,iV t.kids.length),(42,iV i)],[.cells (wrapF (.dt .dat D::.dt .srt S::tmC t))]⟩,fun i=>i≤t.kids.length,fun i=>t.kids.length - i⟩)],.cons (for_sub ht).sub .nil,rfl,fun _ hsh=>?_⟩
      have e1:szL [t]=t.size:=by simp [szL]
      have fin:∀ (p:Int × Int) (a b:Int),sizT D S t=p→a=p.1→b=p.2→Sub (.tup [iV a,iV b]) (.tup [iV (sizT D S t).1,iV (sizT D S t).2]):=by
       rintro p a b rfl rfl rfl; exact .refl _
      have hfold:∀ i,(0≤(sizF (sizL D S (t.kids.take i))).1∧(sizF (sizL D S (t.kids.take i))).1≤20001)∧0≤(sizF (sizL D S (t.kids.take i))).2∧(sizF (sizL D S (t.kids.take i))).2≤20001:=fun i=>sizF_rng (fun p hp=>⟨(sizL_rng _ p hp).1.1,(sizL_rng _ p hp).2.1⟩)
      have hkid:∀ i,i<t.kids.length→(kidT t i).size<n∧(kidT t i).size≤1000000000000∧(kidT t i).fitT:=fun i hi=>by
       have:=kidT_size hi
       exact ⟨by omega,by omega,kidT_fit hf hi⟩
      have hrng:=sizT_rng (D:=D) (S:=S)
      have hq:=sizT_eq D S t
      refine cast_rfl (p:=szL [Tw.mk t.kind t.name t.neg t.digits t.kids]≤4611686018427387904∧ifB (t.kind==(3:Int)) (true=true∧Sub (PV.tup [iV 1,iV 1]) (PV.tup [iV ((sizT D S t).fst),iV ((sizT D S t).snd)])) (ifB (t.kind==(4:Int)) (true=true∧Sub (PV.tup [iV 1,iV 1]) (PV.tup [iV ((sizT D S t).fst),iV ((sizT D S t).snd)])) (ifB (t.kind==(9:Int)) (true=true∧Sub (PV.tup [iV (↑(szL [Tw.mk t.kind t.name t.neg t.digits t.kids]):Int),iV (IntKind.i64.wrap ((↑(szL [Tw.mk t.kind t.name t.neg t.digits t.kids]):Int)+(2:Int)))]) (PV.tup [iV ((sizT D S t).fst),iV ((sizT D S t).snd)])) (ifB (t.kind==(10:Int)) (((0:Int)≤(0:Int)∧(0:Int)<(↑(Tw.mk t.kind t.name t.neg t.digits t.kids).kids.length:Int))∧((Tw.mk (kidT (Tw.mk t.kind t.name t.neg t.digits t.kids) (Int.toNat (0:Int))).kind (kidT (Tw.mk t.kind t.name t.neg t.digits t.kids) (Int.toNat (0:Int))).name (kidT (Tw.mk t.kind t.name t.neg t.digits t.kids) (Int.toNat (0:Int))).neg (kidT (Tw.mk t.kind t.name t.neg t.digits t.kids) (Int.toNat (0:Int))).digits (kidT (Tw.mk t.kind t.name t.neg t.digits t.kids) (Int.toNat (0:Int))).kids).size<n∧(Tw.mk (kidT (Tw.mk t.kind t.name t.neg t.digits t.kids) (Int.toNat (0:Int))).kind (kidT (Tw.mk t.kind t.name t.neg t.digits t.kids) (Int.toNat (0:Int))).name (kidT (Tw.mk t.kind t.name t.neg t.digits t.kids) (Int.toNat (0:Int))).neg (kidT (Tw.mk t.kind t.name t.neg t.digits t.kids) (Int.toNat (0:Int))).digits (kidT (Tw.mk t.kind t.name t.neg t.digits t.kids) (Int.toNat (0:Int))).kids).size≤1000000000000∧(Tw.mk (kidT (Tw.mk t.kind t.name t.neg t.digits t.kids) (Int.toNat (0:Int))).kind (kidT (Tw.mk t.kind t.name t.neg t.digits t.kids) (Int.toNat (0:Int))).name (kidT (Tw.mk t.kind t.name t.neg t.digits t.kids) (Int.toNat (0:Int))).neg (kidT (Tw.mk t.kind t.name t.neg t.digits t.kids) (Int.toNat (0:Int))).digits (kidT (Tw.mk t.kind t.name t.neg t.digits t.kids) (Int.toNat (0:Int))).kids).fitT∧sortT D S (Tw.mk (kidT (Tw.mk t.kind t.name t.neg t.digits t.kids) (Int.toNat (0:Int))).kind (kidT (Tw.mk t.kind t.name t.neg t.digits t.kids) (Int.toNat (0:Int))).name (kidT (Tw.mk t.kind t.name t.neg t.digits t.kids) (Int.toNat (0:Int))).neg (kidT (Tw.mk t.kind t.name t.neg t.digits t.kids) (Int.toNat (0:Int))).digits (kidT (Tw.mk t.kind t.name t.neg t.digits t.kids) (Int.toNat (0:Int))).kids)=Except.ok bBool)∧∀ (z1:Int × Int),z1=sizT D S (Tw.mk (kidT (Tw.mk t.kind t.name t.neg t.digits t.kids) (Int.toNat (0:Int))).kind (kidT (Tw.mk t.kind t.name t.neg t.digits t.kids) (Int.toNat (0:Int))).name (kidT (Tw.mk t.kind t.name t.neg t.digits t.kids) (Int.toNat (0:Int))).neg (kidT (Tw.mk t.kind t.name t.neg t.digits t.kids) (Int.toNat (0:Int))).digits (kidT (Tw.mk t.kind t.name t.neg t.digits t.kids) (Int.toNat (0:Int))).kids)→true=true∧Sub (PV.tup [iV z1.snd,iV z1.fst]) (PV.tup [iV ((sizT D S t).fst),iV ((sizT D S t).snd)])) (ifB (t.kind==(11:Int)) (∃ (x1:Unit),(((SubB (PV.f (Lf.dt Sh.dat D)) (PV.f (Lf.dt Sh.dat D))∧SubB (PV.f (Lf.dt Sh.srt S)) (PV.f (Lf.dt Sh.srt S))∧SubB (PV.f (Lf.v (Value.int IntKind.u8 t.kind))) (PV.f (Lf.v (Value.int IntKind.u8 t.kind)))∧SubB (sV t.name) (sV t.name)∧SubB (bV t.neg) (bV t.neg)∧SubB (PV.f (Lf.lr t.digits t.digits.length)) (PV.f (Lf.lr t.digits t.digits.length))∧SubB (PV.f (Lf.dt Sh.tm t.kids)) (PV.f (Lf.dt Sh.tm t.kids))∧True)∧True)∧SubB (PV.bp 0 0) (PV.bp 0 0)∧SubB (iV (↑(szL [Tw.mk t.kind t.name t.neg t.digits t.kids]):Int)) (iV (↑t.size:Int))∧SubB (bV true) (bV (decide (t.kind=(11:Int)∨t.kind=(12:Int)∨t.kind=(13:Int))))∧True)∧t.kind≠(3:Int)∧t.kind≠(4:Int)∧t.kind≠(9:Int)∧(t.kind=(10:Int)→False)) (ifB (t.kind==(12:Int)) (∃ (x1:Unit),(((SubB (PV.f (Lf.dt Sh.dat D)) (PV.f (Lf.dt Sh.dat D))∧SubB (PV.f (Lf.dt Sh.srt S)) (PV.f (Lf.dt Sh.srt S))∧SubB (PV.f (Lf.v (Value.int IntKind.u8 t.kind))) (PV.f (Lf.v (Value.int IntKind.u8 t.kind)))∧SubB (sV t.name) (sV t.name)∧SubB (bV t.neg) (bV t.neg)∧SubB (PV.f (Lf.lr t.digits t.digits.length)) (PV.f (Lf.lr t.digits t.digits.length))∧SubB (PV.f (Lf.dt Sh.tm t.kids)) (PV.f (Lf.dt Sh.tm t.kids))∧True)∧True)∧SubB (PV.bp 0 0) (PV.bp 0 0)∧SubB (iV (↑(szL [Tw.mk t.kind t.name t.neg t.digits t.kids]):Int)) (iV (↑t.size:Int))∧SubB (bV true) (bV (decide (t.kind=(11:Int)∨t.kind=(12:Int)∨t.kind=(13:Int))))∧True)∧t.kind≠(3:Int)∧t.kind≠(4:Int)∧t.kind≠(9:Int)∧(t.kind=(10:Int)→False)) (∃ (x1:Unit),(((SubB (PV.f (Lf.dt Sh.dat D)) (PV.f (Lf.dt Sh.dat D))∧SubB (PV.f (Lf.dt Sh.srt S)) (PV.f (Lf.dt Sh.srt S))∧SubB (PV.f (Lf.v (Value.int IntKind.u8 t.kind))) (PV.f (Lf.v (Value.int IntKind.u8 t.kind)))∧SubB (sV t.name) (sV t.name)∧SubB (bV t.neg) (bV t.neg)∧SubB (PV.f (Lf.lr t.digits t.digits.length)) (PV.f (Lf.lr t.digits t.digits.length))∧SubB (PV.f (Lf.dt Sh.tm t.kids)) (PV.f (Lf.dt Sh.tm t.kids))∧True)∧True)∧SubB (PV.bp 0 0) (PV.bp 0 0)∧SubB (iV (↑(szL [Tw.mk t.kind t.name t.neg t.digits t.kids]):Int)) (iV (↑t.size:Int))∧SubB (bV (t.kind==(13:Int))) (bV (decide (t.kind=(11:Int)∨t.kind=(12:Int)∨t.kind=(13:Int))))∧True)∧t.kind≠(3:Int)∧t.kind≠(4:Int)∧t.kind≠(9:Int)∧(t.kind=(10:Int)→False)))∧∀ (z1:Unit),t.kind≠(3:Int)∧t.kind≠(4:Int)∧t.kind≠(9:Int)∧t.kind≠(10:Int)→ifB (decide (t.kind=(11:Int)∨t.kind=(12:Int)∨t.kind=(13:Int))) (∃ (x2:Nat),(((SubB (PV.f (Lf.dt Sh.dat D)) (PV.f (Lf.dt Sh.dat D))∧SubB (PV.f (Lf.dt Sh.srt S)) (PV.f (Lf.dt Sh.srt S))∧SubB (PV.f (Lf.v (Value.int IntKind.u8 t.kind))) (PV.f (Lf.v (Value.int IntKind.u8 t.kind)))∧SubB (sV t.name) (sV t.name)∧SubB (bV t.neg) (bV t.neg)∧SubB (PV.f (Lf.lr t.digits t.digits.length)) (PV.f (Lf.lr t.digits t.digits.length))∧SubB (PV.f (Lf.dt Sh.tm t.kids)) (PV.f (Lf.dt Sh.tm t.kids))∧True)∧True)∧SubB (PV.bp 0 0) (PV.bp 0 0)∧SubB (iV 1) (iV ((sizF (sizL D S (List.take x2 t.kids))).fst))∧SubB (iV 1) (iV ((sizF (sizL D S (List.take x2 t.kids))).snd))∧SubB (iV (↑t.kids.length:Int)) (iV (↑t.kids.length:Int))∧SubB (iV 0) (iV (↑x2:Int))∧True)∧x2≤t.kids.length∧True∧∀ (z3:Nat),z3≤t.kids.length→True→ifB (decide ((↑z3:Int)<(↑t.kids.length:Int))) (((0:Int)≤(↑z3:Int)∧(↑z3:Int)<(↑(Tw.mk t.kind t.name t.neg t.digits t.kids).kids.length:Int))∧((Tw.mk (kidT (Tw.mk t.kind t.name t.neg t.digits t.kids) (↑z3:Int).toNat).kind (kidT (Tw.mk t.kind t.name t.neg t.digits t.kids) (↑z3:Int).toNat).name (kidT (Tw.mk t.kind t.name t.neg t.digits t.kids) (↑z3:Int).toNat).neg (kidT (Tw.mk t.kind t.name t.neg t.digits t.kids) (↑z3:Int).toNat).digits (kidT (Tw.mk t.kind t.name t.neg t.digits t.kids) (↑z3:Int).toNat).kids).size<n∧(Tw.mk (kidT (Tw.mk t.kind t.name t.neg t.digits t.kids) (↑z3:Int).toNat).kind (kidT (Tw.mk t.kind t.name t.neg t.digits t.kids) (↑z3:Int).toNat).name (kidT (Tw.mk t.kind t.name t.neg t.digits t.kids) (↑z3:Int).toNat).neg (kidT (Tw.mk t.kind t.name t.neg t.digits t.kids) (↑z3:Int).toNat).digits (kidT (Tw.mk t.kind t.name t.neg t.digits t.kids) (↑z3:Int).toNat).kids).size≤1000000000000∧(Tw.mk (kidT (Tw.mk t.kind t.name t.neg t.digits t.kids) (↑z3:Int).toNat).kind (kidT (Tw.mk t.kind t.name t.neg t.digits t.kids) (↑z3:Int).toNat).name (kidT (Tw.mk t.kind t.name t.neg t.digits t.kids) (↑z3:Int).toNat).neg (kidT (Tw.mk t.kind t.name t.neg t.digits t.kids) (↑z3:Int).toNat).digits (kidT (Tw.mk t.kind t.name t.neg t.digits t.kids) (↑z3:Int).toNat).kids).fitT∧sortT D S (Tw.mk (kidT (Tw.mk t.kind t.name t.neg t.digits t.kids) (↑z3:Int).toNat).kind (kidT (Tw.mk t.kind t.name t.neg t.digits t.kids) (↑z3:Int).toNat).name (kidT (Tw.mk t.kind t.name t.neg t.digits t.kids) (↑z3:Int).toNat).neg (kidT (Tw.mk t.kind t.name t.neg t.digits t.kids) (↑z3:Int).toNat).digits (kidT (Tw.mk t.kind t.name t.neg t.digits t.kids) (↑z3:Int).toNat).kids)=Except.ok bBool)∧∀ (z4:Int × Int),z4=sizT D S (Tw.mk (kidT (Tw.mk t.kind t.name t.neg t.digits t.kids) (↑z3:Int).toNat).kind (kidT (Tw.mk t.kind t.name t.neg t.digits t.kids) (↑z3:Int).toNat).name (kidT (Tw.mk t.kind t.name t.neg t.digits t.kids) (↑z3:Int).toNat).neg (kidT (Tw.mk t.kind t.name t.neg t.digits t.kids) (↑z3:Int).toNat).digits (kidT (Tw.mk t.kind t.name t.neg t.digits t.kids) (↑z3:Int).toNat).kids)→sumOk [(sizF (sizL D S (List.take z3 t.kids))).fst,z4.fst]∧∀ (z5:Int),z5=sumC [(sizF (sizL D S (List.take z3 t.kids))).fst,z4.fst]→sumOk [(sizF (sizL D S (List.take z3 t.kids))).snd,z4.snd]∧∀ (z6:Int),z6=sumC [(sizF (sizL D S (List.take z3 t.kids))).snd,z4.snd]→∃ (x7:Nat),(((SubB (PV.f (Lf.dt Sh.dat D)) (PV.f (Lf.dt Sh.dat D))∧SubB (PV.f (Lf.dt Sh.srt S)) (PV.f (Lf.dt Sh.srt S))∧SubB (PV.f (Lf.v (Value.int IntKind.u8 t.kind))) (PV.f (Lf.v (Value.int IntKind.u8 t.kind)))∧SubB (sV t.name) (sV t.name)∧SubB (bV t.neg) (bV t.neg)∧SubB (PV.f (Lf.lr t.digits t.digits.length)) (PV.f (Lf.lr t.digits t.digits.length))∧SubB (PV.f (Lf.dt Sh.tm t.kids)) (PV.f (Lf.dt Sh.tm t.kids))∧True)∧True)∧SubB (PV.bp 0 0) (PV.bp 0 0)∧SubB (iV z5) (iV ((sizF (sizL D S (List.take x7 t.kids))).fst))∧SubB (iV z6) (iV ((sizF (sizL D S (List.take x7 t.kids))).snd))∧SubB (iV (↑t.kids.length:Int)) (iV (↑t.kids.length:Int))∧SubB (iV (IntKind.i64.wrap ((↑z3:Int)+(1:Int)))) (iV (↑x7:Int))∧True)∧x7≤t.kids.length∧True∧(t.kids.length - x7).succ.le (t.kids.length - z3)) (ifB (t.kind==(13:Int)) (sumOk [(sizF (sizL D S (List.take z3 t.kids))).fst,(sizF (sizL D S (List.take z3 t.kids))).snd,(1:Int)]∧∀ (z4:Int),z4=sumC [(sizF (sizL D S (List.take z3 t.kids))).fst,(sizF (sizL D S (List.take z3 t.kids))).snd,(1:Int)]→true=true∧Sub (PV.tup [iV z4,iV z4]) (PV.tup [iV ((sizT D S t).fst),iV ((sizT D S t).snd)])) (true=true∧Sub (PV.tup [iV ((sizF (sizL D S (List.take z3 t.kids))).fst),iV ((sizF (sizL D S (List.take z3 t.kids))).snd)]) (PV.tup [iV ((sizT D S t).fst),iV ((sizT D S t).snd)])))) (ifB (t.kind==(8:Int)) (((0:Int)≤(0:Int)∧(0:Int)<(↑t.kids.length:Int))∧(Tw.mk (Tw.kind (t.kids.getD (Int.toNat (0:Int)) Sh.tm.nil)) (Tw.name (t.kids.getD (Int.toNat (0:Int)) Sh.tm.nil)) (Tw.neg (t.kids.getD (Int.toNat (0:Int)) Sh.tm.nil)) (Tw.digits (t.kids.getD (Int.toNat (0:Int)) Sh.tm.nil)) (Tw.kids (t.kids.getD (Int.toNat (0:Int)) Sh.tm.nil))).fitT∧∀ (z2:Bool),z2=wholeB D S (Tw.mk (Tw.kind (t.kids.getD (Int.toNat (0:Int)) Sh.tm.nil)) (Tw.name (t.kids.getD (Int.toNat (0:Int)) Sh.tm.nil)) (Tw.neg (t.kids.getD (Int.toNat (0:Int)) Sh.tm.nil)) (Tw.digits (t.kids.getD (Int.toNat (0:Int)) Sh.tm.nil)) (Tw.kids (t.kids.getD (Int.toNat (0:Int)) Sh.tm.nil)))→ifB z2 (sumOk [(↑t.size:Int),(↑t.size:Int),(5:Int)]∧∀ (z3:Int),z3=sumC [(↑t.size:Int),(↑t.size:Int),(5:Int)]→true=true∧Sub (PV.tup [iV (↑t.size:Int),iV z3]) (PV.tup [iV ((sizT D S t).fst),iV ((sizT D S t).snd)])) (true=true∧Sub (PV.tup [iV (↑t.size:Int),iV (IntKind.i64.wrap ((↑t.size:Int)+(1:Int)))]) (PV.tup [iV ((sizT D S t).fst),iV ((sizT D S t).snd)]))) (true=true∧Sub (PV.tup [iV (↑t.size:Int),iV (IntKind.i64.wrap ((↑t.size:Int)+(1:Int)))]) (PV.tup [iV ((sizT D S t).fst),iV ((sizT D S t).snd)])))))))) ?kr ?_
      case kr=>kernel_rfl
      refine ⟨?s0,ifB_iff.2 ⟨fun hb0=>⟨rfl,?m0⟩,fun hb0=>ifB_iff.2 ⟨fun hb1=>⟨rfl,?m1⟩,fun hb1=>ifB_iff.2 ⟨fun hb2=>⟨rfl,?m2⟩,fun hb2=>ifB_iff.2 ⟨fun hb3=>⟨?s1,⟨?s2,fun z1=>fun hz1=>⟨rfl,?m3⟩⟩⟩,fun hb3=>⟨ifB_iff.2 ⟨fun hb4=>⟨?x0,⟨⟨⟨⟨.refl _,⟨.refl _,⟨.refl _,⟨.refl _,⟨.refl _,⟨.refl _,⟨.refl _,trivial⟩⟩⟩⟩⟩⟩⟩,trivial⟩,⟨.refl _,⟨?m4,⟨?m5,trivial⟩⟩⟩⟩,⟨?s3,⟨?s4,⟨?s5,fun hq5=>?m6⟩⟩⟩⟩⟩,fun hb4=>ifB_iff.2 ⟨fun hb6=>⟨?x1,⟨⟨⟨⟨.refl _,⟨.refl _,⟨.refl _,⟨.refl _,⟨.refl _,⟨.refl _,⟨.refl _,trivial⟩⟩⟩⟩⟩⟩⟩,trivial⟩,⟨.refl _,⟨?m7,⟨?m8,trivial⟩⟩⟩⟩,⟨?s6,⟨?s7,⟨?s8,fun hq7=>?m9⟩⟩⟩⟩⟩,fun hb6=>⟨?x2,⟨⟨⟨⟨.refl _,⟨.refl _,⟨.refl _,⟨.refl _,⟨.refl _,⟨.refl _,⟨.refl _,trivial⟩⟩⟩⟩⟩⟩⟩,trivial⟩,⟨.refl _,⟨?m10,⟨?m11,trivial⟩⟩⟩⟩,⟨?s9,⟨?s10,⟨?s11,fun hq8=>?m12⟩⟩⟩⟩⟩⟩⟩,fun z1=>fun hq9=>ifB_iff.2 ⟨fun hb10=>⟨?x3,⟨⟨⟨⟨.refl _,⟨.refl _,⟨.refl _,⟨.refl _,⟨.refl _,⟨.refl _,⟨.refl _,trivial⟩⟩⟩⟩⟩⟩⟩,trivial⟩,⟨.refl _,⟨?m13,⟨?m14,⟨?m15,⟨?m16,trivial⟩⟩⟩⟩⟩⟩,⟨?s12,⟨trivial,fun z3=>fun hq11=>fun _=>ifB_iff.2 ⟨fun hb12=>⟨?s13,⟨?s14,fun z4=>fun hz4=>⟨?s15,fun z5=>fun hz5=>⟨?s16,fun z6=>fun hz6=>⟨?x4,⟨⟨⟨⟨.refl _,⟨.refl _,⟨.refl _,⟨.refl _,⟨.refl _,⟨.refl _,⟨.refl _,trivial⟩⟩⟩⟩⟩⟩⟩,trivial⟩,⟨.refl _,⟨?m17,⟨?m18,⟨.refl _,⟨?m19,trivial⟩⟩⟩⟩⟩⟩,⟨?s17,⟨trivial,?m20⟩⟩⟩⟩⟩⟩⟩⟩,fun hb12=>ifB_iff.2 ⟨fun hb13=>⟨?s18,fun z4=>fun hz4=>⟨rfl,?m21⟩⟩,fun hb13=>⟨rfl,?m22⟩⟩⟩⟩⟩⟩⟩,fun hb10=>ifB_iff.2 ⟨fun hb14=>⟨?s19,⟨?s20,fun z2=>fun hz2=>ifB_iff.2 ⟨fun hb15=>⟨?s21,fun z3=>fun hz3=>⟨rfl,?m23⟩⟩,fun hb15=>⟨rfl,?m24⟩⟩⟩⟩,fun hb14=>⟨rfl,?m25⟩⟩⟩⟩⟩⟩⟩⟩⟩
      case x0=>exact ()
      case x1=>exact ()
      case x2=>exact ()
      case x3=>exact 0
      case x4=>exact z3+1
      all_goals try simp only [decide_eq_true_eq,decide_eq_false_iff_not,Int.toNat_natCast,Int.toNat_zero,Tw.eta,beq_iff_eq,beq_eq_false_iff_ne,ne_eq,e1] at *
      case s0=>omega
      case m0=>exact fin _ _ _ (by rw [hq,if_pos (.inl hb0)]) rfl rfl
      case m1=>exact fin _ _ _ (by rw [hq,if_pos (.inr hb1)]) rfl rfl
      case m2=>exact fin _ _ _ (by rw [hq,if_neg (by omega),if_pos hb2]) rfl (by rw [wJ _ (by omega) (by omega)])
      case s1=>have:=m2.1 hb3; omega
      case s2 =>
       have h1:=m2.1 hb3
       have h2:=hkid 0 (by omega)
       exact ⟨h2.1,h2.2.1,h2.2.2,sort_bools hs (.inl hb3) (by omega)⟩
      case m3 =>
       have h1:=m2.1 hb3
       rw [if_neg (by omega),if_neg hb2,if_pos hb3] at hq
       refine fin _ _ _ hq ?_ ?_
       · rw [sizL_at D S (by omega) _ Sh.tm.nil,hz1]; rfl
       · rw [sizL_at D S (by omega) _ Sh.tm.nil,hz1]; rfl
      case m4=>exact .refl _
      case m5=>exact subB_b (decide_eq_true (.inl hb4)).symm
      case s3=>exact hb0
      case s4=>exact hb1
      case s5=>exact hb2
      case m6=>exact hb3 hq5
      case m7=>exact .refl _
      case m8=>exact subB_b (decide_eq_true (.inr (.inl hb6))).symm
      case s6=>exact hb0
      case s7=>exact hb1
      case s8=>exact hb2
      case m9=>exact hb3 hq7
      case m10=>exact .refl _
      case m11 =>
       refine subB_b (b_iff ?_)
       rw [beq_iff_eq,decide_eq_true_eq]
       exact ⟨fun h=>.inr (.inr h),fun h=>(h.resolve_left hb4).resolve_left hb6⟩
      case s9=>exact hb0
      case s10=>exact hb1
      case s11=>exact hb2
      case m12=>exact hb3 hq8
      case m13=>exact .refl _
      case m14=>exact .refl _
      case m15=>exact .refl _
      case m16=>exact .refl _
      case s12=>exact Nat.zero_le _
      case s13=>omega
      case s14=>exact ⟨(hkid z3 (by omega)).1,(hkid z3 (by omega)).2.1,(hkid z3 (by omega)).2.2,sort_bools hs (.inr hb10) (by omega)⟩
      case s15 =>
       have h1:=hfold z3
       have h2:=hrng (kidT t z3)
       have h3:=(hkid z3 (by omega)).2.1
       rw [hz4]
       exact sumOk2 ⟨by omega,by omega⟩
      case s16 =>
       have h1:=hfold z3
       have h2:=hrng (kidT t z3)
       have h3:=(hkid z3 (by omega)).2.1
       rw [hz4]
       exact sumOk2 ⟨by omega,by omega⟩
      case m17 =>
       rw [sizF_snoc D S (by omega) Sh.tm.nil]
       exact subB_i (by rw [hz5,hz4]; rfl)
      case m18 =>
       rw [sizF_snoc D S (by omega) Sh.tm.nil]
       exact subB_i (by rw [hz6,hz4]; rfl)
      case m19 =>
       have:=f2.2.2.1
       exact subB_i (by rw [wJ _ (by omega) (by omega)]; rfl)
      case s17=>omega
      case m20 =>
       have:t.kids.length - (z3+1)<t.kids.length - z3:=by omega
       exact this
      case s18 =>
       have h1:=hfold z3
       exact sumOk3 ⟨by omega,by omega,by omega⟩
      case m21 =>
       rw [List.take_of_length_le (by omega)] at hz4
       rw [if_neg (by omega),if_neg hb2,if_neg hb3,if_neg (by omega),if_pos hb13] at hq
       exact fin _ _ _ hq hz4 hz4
      case m22 =>
       rw [List.take_of_length_le (by omega)]
       rw [if_neg (by omega),if_neg hb2,if_neg hb3,if_pos (by omega)] at hq
       exact fin _ _ _ hq rfl rfl
      case s19=>have:=m2.2.1 (.inl hb14); omega
      case s20=>exact (hkid 0 (by have:=m2.2.1 (.inl hb14); omega)).2.2
      case s21=>exact sumOk3 ⟨by omega,by omega,by omega⟩
      all_goals rw [if_neg (by omega),if_neg hb2,if_neg hb3,if_neg (by omega),if_neg (by omega)] at hq
      case m23 =>
       rw [if_pos ⟨hb14,by rw [← hb15,hz2]; rfl⟩] at hq
       exact fin _ _ _ hq rfl hz3
      case m24 =>
       rw [if_neg (fun h=>by have h3:=h.2; unfold kidT at h3; rw [← hz2,hb15] at h3; cases h3)] at hq
       exact fin _ _ _ hq rfl (by rw [wJ _ (by omega) (by omega)])
      case m25 =>
       rw [if_neg (fun h=>hb14 h.1)] at hq
       exact fin _ _ _ hq rfl (by rw [wJ _ (by omega) (by omega)])
    · cases hs
  · cases hs
def sSizF:Spec
 | [x]=>match forOf x with
  | some (D,S,t)=>some (some (t.size≤1000000000000∧t.fitT∧sortT D S t=.ok bBool),.nm (Int × Int) (sizT D S t) fun p=>.tup [iV p.1,iV p.2])
  | none=>none
 | _=>none
theorem cSizF {E:Env} (hU:Up E):Contract Tryd.prog E 50 sSizF:=by
 intro xs p r hs hp
 unfold sSizF at hs
 split at hs
 · rename_i x
   split at hs
   · rename_i D S t ht
     cases hs
     exact cSizFN hU (t.size+1) [x] _ _ (by simp only [sSizFN,ht]; rfl) (fun q hq=>by cases hq; exact ⟨Nat.lt_succ_self _,hp _ rfl⟩)
   · cases hs
 · cases hs
end Go.Proofs.YtdjnlgkpnjdchaaDoor
