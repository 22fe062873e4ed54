/- The law NormGrown: whatever the number and the sign, it returns true. -/
import Derived.Test.YtdjnlgkpnjdchaaDoorFe
namespace Go.Proofs.YtdjnlgkpnjdchaaDoor
open Go.RowKit
set_option linter.unusedVariables false
set_option maxRecDepth 100000
def varT (s:ByteArray):Tw:=.mk 1 s false [] []
def sNameL:Spec
 | [.f (.v (.string s))]=>some (none,.nm Tw (varT s) tmP)
 | _=>none
theorem cNameL {E:Env} (hU:Up E):Contract Tryd.prog E 47 sNameL:=by
 refine contract_D [] [] Tryd.ntmps47 Tryd.func47 (by kernel_rfl) (by kernel_rfl) hU trivial trivial ?_
 intro xs p r hs hp
 unfold sNameL at hs
 split at hs
 · rename_i s
   cases hs
   refine ⟨[.f (.v (.string s))],[],.cons (.refl _) .nil,rfl,fun _ hsh=>?_⟩
   refine cast_rfl (p:=true=true∧Sub (PV.agg [PV.f (Lf.v (Value.int IntKind.u8 1)),sV s,bV false,PV.f (Lf.v (Value.slice none 0 0)),PV.f (Lf.v (Value.slice none 0 0))]) (PV.agg [PV.f (Lf.v (Value.int IntKind.u8 (varT s).kind)),sV ((varT s).name),bV ((varT s).neg),PV.f (Lf.lr (varT s).digits 0),PV.f (Lf.dt Sh.tm [])])) ?kr ?_
   case kr=>kernel_rfl
   refine ⟨rfl,?m0⟩
   case m0=>exact (tm_sub (t:=varT s) rfl).sub
 · cases hs
theorem cConL {E:Env} (hU:Up E):Contract Tryd.prog E 46 sConT:=by
 refine contract_D [] [] Tryd.ntmps46 Tryd.func46 (by kernel_rfl) (by kernel_rfl) hU trivial trivial ?_
 intro xs p r hs hp
 unfold sConT at hs
 split at hs
 · rename_i k x
   split at hs
   · rename_i l h1
     cases hs
     refine ⟨[.f (.v (.int .u8 k)),.f (.dt .tm l)],[],.cons (.refl _) (.cons (dt_sub h1).sub .nil),rfl,fun _ hsh=>?_⟩
     refine cast_rfl (p:=true=true∧Sub (PV.agg [PV.f (Lf.v (Value.int IntKind.u8 k)),sV (ByteArray.mk #[]),bV false,PV.f (Lf.v (Value.slice none 0 0)),PV.f (Lf.dt Sh.tm l)]) (PV.agg [PV.f (Lf.v (Value.int IntKind.u8 (conT k l).kind)),sV ((conT k l).name),bV ((conT k l).neg),PV.f (Lf.lr (conT k l).digits 0),PV.f (Lf.dt Sh.tm (conT k l).kids)])) ?kr ?_
     case kr=>kernel_rfl
     refine ⟨rfl,?m0⟩
     case m0=>exact (tm_sub (t:=conT k l) rfl).sub
   · cases hs
 · cases hs
end Go.Proofs.YtdjnlgkpnjdchaaDoor
namespace Go.Proofs.YtdjnlgkpnjdchaaDoor
open Go.RowKit
set_option linter.unusedVariables false
set_option maxRecDepth 100000
def bX:ByteArray:=⟨#[120]⟩
def bP:ByteArray:=⟨#[112]⟩
def bQ:ByteArray:=⟨#[113]⟩
def threeT:Tw:=.mk 2 ⟨#[]⟩ (zNeg 3) (digs 1000000000 (3:Int).natAbs) []
def scopeA:List Srt:=[⟨bX,bInt⟩,⟨bP,bBool⟩,⟨bQ,bBool⟩]
theorem var_fit (s:ByteArray) (h:s.size≤4611686018427387904):(varT s).fitT:=⟨h,Nat.zero_le _,Nat.zero_le _,trivial⟩
theorem wake_le:normE [] scopeA (conT 9 [varT bX,threeT]) false=.ok (aboveT threeT (varT bX)):=by kernel_rfl
theorem wake_iff:normE [] scopeA (conT 13 [varT bP,varT bQ]) false=.ok (conT 11 [conT 12 [varT bP,varT bQ],conT 12 [conT 10 [varT bP],conT 10 [varT bQ]]]):=by kernel_rfl
theorem three_fit:threeT.fitT:=⟨Nat.zero_le _,by show (digs 1000000000 3).length≤40000000; rw [show digs 1000000000 3=[3] from by decide]; decide,Nat.zero_le _,trivial⟩
theorem bX_fit:(varT bX).fitT:=var_fit _ (by decide)
theorem bP_fit:(varT bP).fitT:=var_fit _ (by decide)
theorem bQ_fit:(varT bQ).fitT:=var_fit _ (by decide)
theorem sameT_self (t:Tw):sameT t t=true:=sameT_iff.2 rfl
def sTrueL:Spec
 | []=>some (none,.one (bV true))
 | _=>none
theorem cAwake7 {E:Env} (hU:Up E):Contract Tryd.prog E 13 sTrueL:=by
 refine contract_D [(45,sOf),(47,sNameL),(46,sConT),(15,sNorm),(11,sSameT)] [] Tryd.ntmps13 Tryd.func13 (by kernel_rfl) (by kernel_rfl) hU ⟨cOf hU,cNameL hU,cConL hU,cNorm hU,cSameT hU,trivial⟩ trivial ?_
 intro xs p r hs hp
 unfold sTrueL at hs
 split at hs
 · cases hs
   refine ⟨[],[],.nil,rfl,fun _ hsh=>?_⟩
   refine cast_rfl (p:=((-9223372036854775808:Int)≤(3:Int)∧(3:Int)≤(9223372036854775807:Int))∧∀ (z1:Int),z1=(3:Int)→∀ (z2:Tw),z2=varT (ByteArray.mk #[(120:UInt8)])→∀ (z3:Tw),z3=conT (9:Int) [Tw.mk z2.kind z2.name z2.neg z2.digits z2.kids,Tw.mk (2:Int) (ByteArray.mk #[]) (zNeg z1) (digs 1000000000 z1.natAbs) []]→((Tw.mk z3.kind z3.name z3.neg z3.digits z3.kids).fitT∧(Tw.mk z3.kind z3.name z3.neg z3.digits z3.kids).size≤1000000000000)∧∀ (z4:Except Int Tw),z4=normE [] [Srt.mk (ByteArray.mk #[(120:UInt8)]) (ByteArray.mk #[(105:UInt8),(110:UInt8),(116:UInt8)]),Srt.mk (ByteArray.mk #[(112:UInt8)]) (ByteArray.mk #[(98:UInt8),(111:UInt8),(111:UInt8),(108:UInt8)]),Srt.mk (ByteArray.mk #[(113:UInt8)]) (ByteArray.mk #[(98:UInt8),(111:UInt8),(111:UInt8),(108:UInt8)])] (Tw.mk z3.kind z3.name z3.neg z3.digits z3.kids) false→∀ (z5:Tw),z5=varT (ByteArray.mk #[(112:UInt8)])→∀ (z6:Tw),z6=varT (ByteArray.mk #[(113:UInt8)])→∀ (z7:Tw),z7=conT (13:Int) [Tw.mk z5.kind z5.name z5.neg z5.digits z5.kids,Tw.mk z6.kind z6.name z6.neg z6.digits z6.kids]→((Tw.mk z7.kind z7.name z7.neg z7.digits z7.kids).fitT∧(Tw.mk z7.kind z7.name z7.neg z7.digits z7.kids).size≤1000000000000)∧∀ (z8:Except Int Tw),z8=normE [] [Srt.mk (ByteArray.mk #[(120:UInt8)]) (ByteArray.mk #[(105:UInt8),(110:UInt8),(116:UInt8)]),Srt.mk (ByteArray.mk #[(112:UInt8)]) (ByteArray.mk #[(98:UInt8),(111:UInt8),(111:UInt8),(108:UInt8)]),Srt.mk (ByteArray.mk #[(113:UInt8)]) (ByteArray.mk #[(98:UInt8),(111:UInt8),(111:UInt8),(108:UInt8)])] (Tw.mk z7.kind z7.name z7.neg z7.digits z7.kids) false→((-9223372036854775808:Int)≤(1:Int)∧(1:Int)≤(9223372036854775807:Int))∧∀ (z9:Int),z9=(1:Int)→∀ (z10:Tw),z10=conT (5:Int) [Tw.mk (2:Int) (ByteArray.mk #[]) (zNeg z1) (digs 1000000000 z1.natAbs) [],Tw.mk (2:Int) (ByteArray.mk #[]) (zNeg z9) (digs 1000000000 z9.natAbs) []]→∀ (z11:Tw),z11=varT (ByteArray.mk #[(120:UInt8)])→∀ (z12:Tw),z12=conT (9:Int) [Tw.mk z10.kind z10.name z10.neg z10.digits z10.kids,Tw.mk z11.kind z11.name z11.neg z11.digits z11.kids]→∀ (z13:Tw),z13=varT (ByteArray.mk #[(112:UInt8)])→∀ (z14:Tw),z14=varT (ByteArray.mk #[(113:UInt8)])→∀ (z15:Tw),z15=conT (12:Int) [Tw.mk z13.kind z13.name z13.neg z13.digits z13.kids,Tw.mk z14.kind z14.name z14.neg z14.digits z14.kids]→∀ (z16:Tw),z16=varT (ByteArray.mk #[(112:UInt8)])→∀ (z17:Tw),z17=conT (10:Int) [Tw.mk z16.kind z16.name z16.neg z16.digits z16.kids]→∀ (z18:Tw),z18=varT (ByteArray.mk #[(113:UInt8)])→∀ (z19:Tw),z19=conT (10:Int) [Tw.mk z18.kind z18.name z18.neg z18.digits z18.kids]→∀ (z20:Tw),z20=conT (12:Int) [Tw.mk z17.kind z17.name z17.neg z17.digits z17.kids,Tw.mk z19.kind z19.name z19.neg z19.digits z19.kids]→∀ (z21:Tw),z21=conT (11:Int) [Tw.mk z15.kind z15.name z15.neg z15.digits z15.kids,Tw.mk z20.kind z20.name z20.neg z20.digits z20.kids]→ifB (errE z4==(0:Int)) (ifB (errE z8==(0:Int)) (((Tw.mk (valE Sh.tm.nil z4).kind (valE Sh.tm.nil z4).name (valE Sh.tm.nil z4).neg (valE Sh.tm.nil z4).digits (valE Sh.tm.nil z4).kids).fitT∧(Tw.mk z12.kind z12.name z12.neg z12.digits z12.kids).fitT)∧∀ (z22:Bool),z22=sameT (Tw.mk (valE Sh.tm.nil z4).kind (valE Sh.tm.nil z4).name (valE Sh.tm.nil z4).neg (valE Sh.tm.nil z4).digits (valE Sh.tm.nil z4).kids) (Tw.mk z12.kind z12.name z12.neg z12.digits z12.kids)→ifB z22 (((Tw.mk (valE Sh.tm.nil z8).kind (valE Sh.tm.nil z8).name (valE Sh.tm.nil z8).neg (valE Sh.tm.nil z8).digits (valE Sh.tm.nil z8).kids).fitT∧(Tw.mk z21.kind z21.name z21.neg z21.digits z21.kids).fitT)∧∀ (z23:Bool),z23=sameT (Tw.mk (valE Sh.tm.nil z8).kind (valE Sh.tm.nil z8).name (valE Sh.tm.nil z8).neg (valE Sh.tm.nil z8).digits (valE Sh.tm.nil z8).kids) (Tw.mk z21.kind z21.name z21.neg z21.digits z21.kids)→true=true∧Sub (bV z23) (bV true)) (true=true∧Sub (bV false) (bV true))) (true=true∧Sub (bV false) (bV true))) (true=true∧Sub (bV false) (bV true))) ?kr ?_
   case kr=>kernel_rfl
   refine ⟨?s0,fun z1=>fun hz1=>fun z2=>fun hz2=>fun z3=>fun hz3=>⟨?s1,fun z4=>fun hz4=>fun z5=>fun hz5=>fun z6=>fun hz6=>fun z7=>fun hz7=>⟨?s2,fun z8=>fun hz8=>⟨?s3,fun z9=>fun hz9=>fun z10=>fun hz10=>fun z11=>fun hz11=>fun z12=>fun hz12=>fun z13=>fun hz13=>fun z14=>fun hz14=>fun z15=>fun hz15=>fun z16=>fun hz16=>fun z17=>fun hz17=>fun z18=>fun hz18=>fun z19=>fun hz19=>fun z20=>fun hz20=>fun z21=>fun hz21=>ifB_iff.2 ⟨fun hb0=>ifB_iff.2 ⟨fun hb1=>⟨?s4,fun z22=>fun hz22=>ifB_iff.2 ⟨fun hb2=>⟨?s5,fun z23=>fun hz23=>⟨rfl,?m0⟩⟩,fun hb2=>⟨rfl,?m1⟩⟩⟩,fun hb1=>⟨rfl,?m2⟩⟩,fun hb0=>⟨rfl,?m3⟩⟩⟩⟩⟩⟩
   all_goals try simp only [Tw.eta,beq_iff_eq,beq_eq_false_iff_ne,ne_eq] at *
   case s0=>omega
   case s3=>omega
   all_goals subst hz1 hz2 hz3
   case s1=>exact ⟨conT_fit (two_ok _ _) ⟨bX_fit,three_fit,trivial⟩,by show (3:Nat)≤_; omega⟩
   all_goals have e4:=hz4.trans wake_le
   all_goals subst e4
   case m3=>exact absurd rfl hb0
   all_goals subst hz5 hz6 hz7
   case s2=>exact ⟨conT_fit (two_ok _ _) ⟨bP_fit,bQ_fit,trivial⟩,by show (3:Nat)≤_; omega⟩
   all_goals have e8:=hz8.trans wake_iff
   all_goals subst e8
   case m2=>exact absurd rfl hb1
   all_goals subst hz9 hz10 hz11 hz12
   case s4=>exact ⟨above_fit three_fit bX_fit,above_fit three_fit bX_fit⟩
   case m1=>rw [hb2] at hz22; exact absurd (hz22.trans (sameT_self _)) (by decide)
   all_goals subst hz13 hz14 hz15 hz16 hz17 hz18 hz19 hz20 hz21
   case s5 =>
    have h:(conT 11 [conT 12 [varT bP,varT bQ],conT 12 [conT 10 [varT bP],conT 10 [varT bQ]]]).fitT:=conT_fit (two_ok _ _) ⟨conT_fit (two_ok _ _) ⟨bP_fit,bQ_fit,trivial⟩,conT_fit (two_ok _ _) ⟨conT_fit (one_ok _) ⟨bP_fit,trivial⟩,conT_fit (one_ok _) ⟨bQ_fit,trivial⟩,trivial⟩,trivial⟩
    exact ⟨h,h⟩
   case m0=>exact (subB_b (hz23.trans (sameT_self _))).sub
 · cases hs
end Go.Proofs.YtdjnlgkpnjdchaaDoor
