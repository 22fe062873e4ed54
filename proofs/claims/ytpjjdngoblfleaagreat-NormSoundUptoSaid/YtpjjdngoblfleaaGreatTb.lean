/- The layer term: a name's sort, a function's. -/
import Derived.Test.YtpjjdngoblfleaaGreatTa
namespace Go.Proofs.YtpjjdngoblfleaaGreat
open Go.RowKit
set_option linter.unusedVariables false
set_option maxRecDepth 100000
def sBackS:Spec2
 | [.f (.dt .srt l)],[]=>some (.ret (.fn 128 [] [.bp 0 0]) [.cells [.f (.dt .srt l)]])
 | _,_=>none
theorem cBackS {E:Env} (hU:Up E):Contract2 Tryz.prog E 111 sBackS:=by
 refine contract2 [] [] Tryz.ntmps111 Tryz.func111 (by kernel_rfl) (by kernel_rfl) hU trivial trivial ?_
 intro xs ob o hs hok
 unfold sBackS at hs
 split at hs
 · rename_i l
   cases hs
   refine ⟨[.f (.dt .srt l)],[],.cons (.refl _) .nil,rfl,fun _ _=>?_⟩
   refine cast_rfl (p:=EndU 0 (Out.ret (PV.fn 128 [] [PV.bp 0 0]) [PO.cells [PV.f (Lf.dt Sh.srt l)]]).fin true (PV.fn 128 [] [PV.bp 0 0]) [PO.cells [PV.f (Lf.dt Sh.srt l)]]) (by kernel_rfl) ?_
   refine ?m0
   case m0=>exact endU rfl (.refl _) rfl rfl (r:=[]) rfl
 · cases hs
def bkS:Backs:=bkL [(128,38,44)]
theorem bkS_ok:BackOk Tryz.prog bkS :=
 backOk1 (tI:=3) (tB:=4) (ts:=#[3,44]) Tryz.func128 (by kernel_rfl) (by kernel_rfl) Tryz.ntmps128 (by kernel_rfl) (by kernel_rfl) (by kernel_rfl) (by kernel_rfl) (by kernel_rfl) (by kernel_rfl) (by kernel_rfl)
def sVar:Spec2
 | [.bp 0 0,.f (.v (.string s))],[.cells [.f (.dt .dat D),.f (.dt .srt S)]]=>some (outE ⟨#[]⟩ sV (varS D S s) (soO D S))
 | _,_=>none
theorem cVar {E:Env} (hU:Up E):Contract2 Tryz.prog E 74 sVar:=by
 refine contract2_X (bk:=bkS) bkS_ok [] [(111,sBackS),(112,sBase),(73,sMust)] Tryz.ntmps74 Tryz.func74 (by kernel_rfl) (by kernel_rfl) hU trivial ⟨cBackS hU,cBase hU,cMust hU,trivial⟩ ?_
 intro xs ob o hs hok
 unfold sVar at hs
 split at hs
 · rename_i s D S
   cases hs
   refine ⟨[.bp 0 0,.f (.v (.string s))],[],rgL [(3,⟨Unit,[(2,.bp 1 0),(3,.bp 2 0),(4,.bp 3 0)],fun _=>[.cells [.f (.dt .dat D),.f (.dt .srt S)],.cells [.bp 0 0],.cells [sV s],.cells [sV ⟨#[]⟩],.cells [.f (.dt .srt S)]],5,fun i _=>varS D (S.take i) s=varS D S s⟩)],.cons (.refl _) (.cons (.refl _) .nil),rfl,fun _ _ hsh=>?_⟩
   have hl:=short_row hsh.1.2.1
   refine cast_rfl (p:=S.length≤9223372036854775807∧(∀ (z1:Unit),[PO.cells [PV.f (Lf.dt Sh.dat D),PV.f (Lf.dt Sh.srt S)],PO.cells [PV.bp 0 0],PO.cells [sV s],PO.cells [sV (ByteArray.mk #[])],PO.cells [PV.f (Lf.dt Sh.srt S)]].length=5∧some (PO.cells [PV.f (Lf.dt Sh.srt S)])=some (PO.cells [PV.f (Lf.dt Sh.srt S)]))∧(∃ (x1:Unit),(((SubB (PV.f (Lf.dt Sh.dat D)) (PV.f (Lf.dt Sh.dat D))∧SubB (PV.f (Lf.dt Sh.srt S)) (PV.f (Lf.dt Sh.srt S))∧True)∧(SubB (PV.bp 0 0) (PV.bp 0 0)∧True)∧(SubB (sV s) (sV s)∧True)∧(SubB (sV (ByteArray.mk #[])) (sV (ByteArray.mk #[]))∧True)∧(SubB (PV.f (Lf.dt Sh.srt S)) (PV.f (Lf.dt Sh.srt S))∧True)∧True)∧SubB (PV.fn 128 [] [PV.bp 4 0]) (PV.fn 128 [] [PV.bp 4 0])∧SubB (PV.bp 1 0) (PV.bp 1 0)∧SubB (PV.bp 2 0) (PV.bp 2 0)∧SubB (PV.bp 3 0) (PV.bp 3 0)∧True)∧varS D (List.take S.length S) s=varS D S s)∧(∀ (z1:Nat),z1<S.length→∀ (z2:Unit),varS D (List.take (z1+1) S) s=varS D S s→ifB ((S.getD z1 Sh.srt.nil).name.toList==s.toList) (ifB (baseB D (S.getD z1 Sh.srt.nil).sort) (EndU 1 (outE (ByteArray.mk #[]) sV (varS D S s) (soO D S)).fin true (sV ((S.getD z1 Sh.srt.nil).sort)) [PO.cells [PV.f (Lf.dt Sh.dat D),PV.f (Lf.dt Sh.srt S)],PO.cells [PV.bp 0 0],PO.cells [sV s],PO.cells [sV ((S.getD z1 Sh.srt.nil).sort)],PO.cells [PV.f (Lf.dt Sh.srt S)],PO.cells [sV ((S.getD z1 Sh.srt.nil).name),sV ((S.getD z1 Sh.srt.nil).sort)]]) (EndU 1 (outE (ByteArray.mk #[]) sV (varS D S s) (soO D S)).fin false (PV.ifc 45 (iV 23)) [PO.cells [PV.f (Lf.dt Sh.dat D),PV.f (Lf.dt Sh.srt S)],PO.cells [PV.bp 0 0],PO.cells [sV s],PO.cells [sV (ByteArray.mk #[])],PO.cells [PV.f (Lf.dt Sh.srt S)],PO.cells [sV ((S.getD z1 Sh.srt.nil).name),sV ((S.getD z1 Sh.srt.nil).sort)]])) (∃ (x3:Unit),(((SubB (PV.f (Lf.dt Sh.dat D)) (PV.f (Lf.dt Sh.dat D))∧SubB (PV.f (Lf.dt Sh.srt S)) (PV.f (Lf.dt Sh.srt S))∧True)∧(SubB (PV.bp 0 0) (PV.bp 0 0)∧True)∧(SubB (sV s) (sV s)∧True)∧(SubB (sV (ByteArray.mk #[])) (sV (ByteArray.mk #[]))∧True)∧(SubB (PV.f (Lf.dt Sh.srt S)) (PV.f (Lf.dt Sh.srt S))∧True)∧True)∧True)∧varS D (List.take z1 S) s=varS D S s))∧∀ (z1:Unit),varS D (List.take 0 S) s=varS D S s→EndU 1 (outE (ByteArray.mk #[]) sV (varS D S s) (soO D S)).fin false (PV.ifc 45 (iV 21)) [PO.cells [PV.f (Lf.dt Sh.dat D),PV.f (Lf.dt Sh.srt S)],PO.cells [PV.bp 0 0],PO.cells [sV s],PO.cells [sV (ByteArray.mk #[])],PO.cells [PV.f (Lf.dt Sh.srt S)]]) (by kernel_rfl) ?_
   refine ⟨?s0,⟨fun z1=>⟨?s1,rfl⟩,⟨⟨?x0,⟨⟨⟨⟨.refl _,⟨.refl _,trivial⟩⟩,⟨⟨.refl _,trivial⟩,⟨⟨.refl _,trivial⟩,⟨⟨.refl _,trivial⟩,⟨⟨.refl _,trivial⟩,trivial⟩⟩⟩⟩⟩,⟨.refl _,⟨.refl _,⟨.refl _,⟨.refl _,trivial⟩⟩⟩⟩⟩,?m0⟩⟩,⟨fun z1=>fun hq0=>fun z2=>fun hq1=>ifB_iff.2 ⟨fun hb2=>ifB_iff.2 ⟨fun hb3=>?m1,fun hb3=>?m2⟩,fun hb2=>⟨?x1,⟨⟨⟨⟨.refl _,⟨.refl _,trivial⟩⟩,⟨⟨.refl _,trivial⟩,⟨⟨.refl _,trivial⟩,⟨⟨.refl _,trivial⟩,⟨⟨.refl _,trivial⟩,trivial⟩⟩⟩⟩⟩,trivial⟩,?m3⟩⟩⟩,fun z1=>fun hq4=>?m4⟩⟩⟩⟩
   case s0=>exact hl
   case s1=>rfl
   case x0=>exact ()
   case x1=>exact ()
   all_goals try simp only [bs_l,decide_eq_true_eq,decide_eq_false_iff_not] at *
   case m0=>rw [List.take_length]
   case m1 =>
    rw [varS_snoc D Sh.srt.nil hq0,if_pos hb2,if_pos hb3] at hq1
    exact endU (outE_ok hq1.symm) (.refl _) rfl rfl rfl
   case m2 =>
    rw [varS_snoc D Sh.srt.nil hq0,if_pos hb2,if_neg (by rw [hb3]; simp)] at hq1
    exact endU (outE_err hq1.symm) (.refl _) rfl rfl rfl
   case m3 =>
    rw [varS_snoc D Sh.srt.nil hq0,if_neg hb2] at hq1
    exact hq1
   case m4=>exact endU (outE_err (by rw [← hq4]; rfl)) (.refl _) rfl rfl rfl
 · cases hs
end Go.Proofs.YtpjjdngoblfleaaGreat
