/- The laws of chapter 5: what they are made of: values, counts. -/
import Derived.Test.YtpjjdngoblfleaaGreatMl
import Derived.Test.YtpjjdngoblfleaaGreatCn
import Derived.Test.YtpjjdngoblfleaaGreatGc
import Derived.Test.YtpjjdngoblfleaaGreatPn
namespace Go.Proofs.YtpjjdngoblfleaaGreat
open Go.RowKit
set_option linter.unusedVariables false
set_option maxRecDepth 100000
def sName5 : Spec
 | [.f (.v (.string s))] => some (none, .nm Tw (varT s) tmP)
 | _ => none
theorem cName5 {E : Env} (hU : Up E) : Contract Tryz.prog E 22 sName5 := by
 refine contract_D [] [] Tryz.ntmps22 Tryz.func22 (by kernel_rfl) (by kernel_rfl) hU trivial trivial ?_
 intro xs p r hs hp
 unfold sName5 at hs
 split at hs
 · rename_i s
   cases hs
   refine ⟨[.f (.v (.string s))], [], .cons (.refl _) .nil, rfl, fun _ hsh => ?_⟩
   refine cast_rfl (p := true = true ∧ Sub (PV.agg [PV.f (Lf.v (Value.int IntKind.u8 1)), sV s, bV false, PV.f (Lf.v (Value.slice none 0 0)), PV.f (Lf.v (Value.slice none 0 0))]) (PV.agg [PV.f (Lf.v (Value.int IntKind.u8 (varT s).kind)), sV ((varT s).name), bV ((varT s).neg), PV.f (Lf.lr (varT s).digits 0), PV.f (Lf.dt Sh.tm [])])) ?kr ?_
   case kr => kernel_rfl
   refine ⟨rfl, ?m0⟩
   case m0 => exact (tm_sub (t := varT s) rfl).sub
 · cases hs
def appT (s : ByteArray) (t : Tw) : Tw := .mk 7 s false [] [t]
def sApp5 : Spec
 | [.f (.v (.string s)), x] => match tmOf x with
  | some t => some (none, .nm Tw (appT s t) tmP)
  | none => none
 | _ => none
theorem cApp5 {E : Env} (hU : Up E) : Contract Tryz.prog E 21 sApp5 := by
 refine contract_D [] [] Tryz.ntmps21 Tryz.func21 (by kernel_rfl) (by kernel_rfl) hU trivial trivial ?_
 intro xs p r hs hp
 unfold sApp5 at hs
 split at hs
 · rename_i s x
   split at hs
   · rename_i t ht
     cases hs
     refine ⟨[.f (.v (.string s)), tmP t], [], .cons (.refl _) (.cons (tm_sub ht).sub .nil), rfl, fun _ hsh => ?_⟩
     refine cast_rfl (p := true = true ∧ Sub (PV.agg [PV.f (Lf.v (Value.int IntKind.u8 7)), sV s, bV false, PV.f (Lf.v (Value.slice none 0 0)), PV.f (Lf.dt Sh.tm [Tw.mk t.kind t.name t.neg t.digits t.kids])]) (PV.agg [PV.f (Lf.v (Value.int IntKind.u8 (appT s t).kind)), sV ((appT s t).name), bV ((appT s t).neg), PV.f (Lf.lr (appT s t).digits 0), PV.f (Lf.dt Sh.tm [t])])) ?kr ?_
     case kr => kernel_rfl
     refine ⟨rfl, ?m0⟩
     case m0 =>
      simp only [Tw.eta]
      exact (tm_sub (t := appT s t) rfl).sub
   · cases hs
 · cases hs
def sWhole5 : Spec
 | [.f (.v (.int .i64 n))] => some (some (-9223372036854775808 ≤ n ∧ n ≤ 9223372036854775807), .nm Vw (numV n) vlP)
 | _ => none
theorem cWhole5 {E : Env} (hU : Up E) : Contract Tryz.prog E 19 sWhole5 := by
 refine contract_D [(52, sOf)] [] Tryz.ntmps19 Tryz.func19 (by kernel_rfl) (by kernel_rfl) hU ⟨cOf hU, trivial⟩ trivial ?_
 intro xs p r hs hp
 unfold sWhole5 at hs
 split at hs
 · rename_i n
   cases hs
   have hn := hp _ rfl
   refine ⟨[.f (.v (.int .i64 n))], [], .cons (.refl _) .nil, rfl, fun _ hsh => ?_⟩
   refine cast_rfl (p := ((-9223372036854775808 : Int) ≤ n ∧ n ≤ (9223372036854775807 : Int)) ∧ ∀ (z1 : Int), z1 = n → true = true ∧ Sub (PV.agg [PV.f (Lf.v (Value.int IntKind.u8 1)), PV.f (Lf.zn z1), PV.f (Lf.zd z1 3), bV false, sV (ByteArray.mk #[]), PV.f (Lf.v (Value.slice none 0 0))]) (PV.agg [PV.f (Lf.v (Value.int IntKind.u8 (numV n).kind)), bV ((numV n).neg), PV.f (Lf.lr (numV n).digits (numV n).digits.length), bV ((numV n).truth), sV ((numV n).name), PV.f (Lf.dt Sh.vl [])])) ?kr ?_
   case kr => kernel_rfl
   refine ⟨?s0, fun z1 => fun hz1 => ⟨rfl, ?m0⟩⟩
   case s0 => exact hn
   case m0 =>
    subst hz1
    exact (vl_sub (t := numV z1) rfl).sub
 · cases hs
def dataV (s : ByteArray) (l : List Vw) : Vw := .mk 3 false [] false s l
def sData5 : Spec
 | [.f (.v (.string s)), .f x] => match dtOf .vl x with
  | some l => some (none, .nm Vw (dataV s l) vlP)
  | none => none
 | _ => none
theorem cData5 {E : Env} (hU : Up E) : Contract Tryz.prog E 18 sData5 := by
 refine contract_D [] [] Tryz.ntmps18 Tryz.func18 (by kernel_rfl) (by kernel_rfl) hU trivial trivial ?_
 intro xs p r hs hp
 unfold sData5 at hs
 split at hs
 · rename_i s x
   split at hs
   · rename_i l h1
     cases hs
     refine ⟨[.f (.v (.string s)), .f (.dt .vl l)], [], .cons (.refl _) (.cons (dt_sub h1).sub .nil), rfl, fun _ hsh => ?_⟩
     refine cast_rfl (p := true = true ∧ Sub (PV.agg [PV.f (Lf.v (Value.int IntKind.u8 3)), bV false, PV.f (Lf.v (Value.slice none 0 0)), bV false, sV s, PV.f (Lf.dt Sh.vl l)]) (PV.agg [PV.f (Lf.v (Value.int IntKind.u8 (dataV s l).kind)), bV ((dataV s l).neg), PV.f (Lf.lr (dataV s l).digits 0), bV ((dataV s l).truth), sV ((dataV s l).name), PV.f (Lf.dt Sh.vl (dataV s l).fields)])) ?kr ?_
     case kr => kernel_rfl
     refine ⟨rfl, ?m0⟩
     case m0 => exact (vl_sub (t := dataV s l) rfl).sub
   · cases hs
 · cases hs
def bList : ByteArray := ⟨#[108, 105, 115, 116]⟩
def bNil : ByteArray := ⟨#[110, 105, 108]⟩
def bCons : ByteArray := ⟨#[99, 111, 110, 115]⟩
def listD : List Dat := [⟨bList, [⟨bNil, []⟩, ⟨bCons, [bInt, bList]⟩]⟩]
theorem row_dt {s : Sh} {L : List (List Lf)} {l : List s.T} (hn : L.length = l.length) (h : ∀ i, i < l.length → SubL (L.getD i []) (s.cells (l.getD i s.nil))) : ∀ H v, Rd H v (.row s.k L) → Rd H v (.dt s l) := fun H v hv =>
 hv.seen (k := s.k) (n := l.length) (get := fun i => L.getD i []) (get' := fun i => s.cells (l.getD i s.nil)) (by rw [← hn]; rfl) (fun _ => rfl) rfl (fun _ => rfl) (fun _ => trivial) h
def sLists5 : Spec
 | [] => some (none, .nm (List Dat) listD fun l => .f (.dt .dat l))
 | _ => none
theorem cLists5 {E : Env} (hU : Up E) : Contract Tryz.prog E 20 sLists5 := by
 refine contract_D [] [] Tryz.ntmps20 Tryz.func20 (by kernel_rfl) (by kernel_rfl) hU trivial trivial ?_
 intro xs p r hs hp
 unfold sLists5 at hs
 split at hs
 · cases hs
   refine ⟨[], [], .nil, rfl, fun _ hsh => ?_⟩
   refine cast_rfl (p := true = true ∧ Sub (PV.f (Lf.row 2 [[Lf.v (Value.string (ByteArray.mk #[(108 : UInt8), (105 : UInt8), (115 : UInt8), (116 : UInt8)])), Lf.row 2 [[Lf.v (Value.string (ByteArray.mk #[(110 : UInt8), (105 : UInt8), (108 : UInt8)])), Lf.v (Value.slice none 0 0)], [Lf.v (Value.string (ByteArray.mk #[(99 : UInt8), (111 : UInt8), (110 : UInt8), (115 : UInt8)])), Lf.dt Sh.str [ByteArray.mk #[(105 : UInt8), (110 : UInt8), (116 : UInt8)], ByteArray.mk #[(108 : UInt8), (105 : UInt8), (115 : UInt8), (116 : UInt8)]]]]]])) (PV.f (Lf.dt Sh.dat [Dat.mk bList [Cn.mk bNil [], Cn.mk bCons [bInt, bList]]]))) ?kr ?_
   case kr => kernel_rfl
   refine ⟨rfl, ?m0⟩
   case m0 =>
    refine (SubB.mk fun H B v hv => .f ?_ : SubB _ (.f (.dt .dat listD))).sub
    refine row_dt (s := .dat) rfl (fun i hi => ?_) H v hv.rd
    match i, hi with
    | 0, _ =>
     refine .cons (fun _ _ h => h) (.cons (fun H v h => ?_) .nil)
     refine row_dt (s := .con) (l := [⟨bNil, []⟩, ⟨bCons, [bInt, bList]⟩]) rfl (fun i hi => ?_) H v h
     match i, hi with
     | 0, _ => exact .cons (fun _ _ h => h) (.cons (dtOf_rd (s := .str) rfl) .nil)
     | 1, _ => exact .cons (fun _ _ h => h) (.cons (fun _ _ h => h) .nil)
 · cases hs
def greatE (D : List Dat) (B : List Bnd) (l : List Tw) : Bool := decide (capD 600 D > 600) || (decide (capB 600 B > 600) || decide (capTL 600 l > 600))
def sGreat5 : Spec
 | [.f x, .f y, .f z] => match dtOf .dat x, dtOf .bnd y, dtOf .tm z with
  | some D, some B, some l => some (some (cntD D ≤ 4000000 ∧ cntB B ≤ 4000000 ∧ cntTL l ≤ 4000000), .nm Bool (greatE D B l) bV)
  | _, _, _ => none
 | _ => none
theorem cGreat5 {E : Env} (hU : Up E) : Contract Tryz.prog E 7 sGreat5 := by
 refine contract_D [(23, sDatasOf), (24, sBoundsOf), (25, sTermsOfN 9000000)] [] Tryz.ntmps7 Tryz.func7 (by kernel_rfl) (by kernel_rfl) hU ⟨cDatasOf hU, cBoundsOf hU, (cCntN hU _).2, trivial⟩ trivial ?_
 intro xs p r hs hp
 unfold sGreat5 at hs
 split at hs
 · rename_i x y z
   split at hs
   · rename_i D B l h1 h2 h3
     cases hs
     obtain ⟨hD, hB, hl⟩ := hp _ rfl
     refine ⟨[.f (.dt .dat D), .f (.dt .bnd B), .f (.dt .tm l)], [], .cons (dt_sub h1).sub (.cons (dt_sub h2).sub (.cons (dt_sub h3).sub .nil)), rfl, fun _ hsh => ?_⟩
     refine cast_rfl (p := (cntD D ≤ 4000000 ∧ (0 : Int) ≤ (600 : Int) ∧ (600 : Int) ≤ (4000000 : Int)) ∧ ∀ (z1 : Int), z1 = capD (600 : Int) D → ifB (decide (z1 > (600 : Int))) (true = true ∧ Sub (bV true) (bV (greatE D B l))) ((cntB B ≤ 4000000 ∧ (0 : Int) ≤ (600 : Int) ∧ (600 : Int) ≤ (4000000 : Int)) ∧ ∀ (z2 : Int), z2 = capB (600 : Int) B → ifB (decide (z2 > (600 : Int))) (true = true ∧ Sub (bV true) (bV (greatE D B l))) ((2 * szL l + 1 < 9000000 ∧ cntTL l ≤ 4000000 ∧ (-1 : Int) ≤ (600 : Int) ∧ (600 : Int) ≤ (4000000 : Int)) ∧ ∀ (z3 : Int), z3 = capTL (600 : Int) l → true = true ∧ Sub (bV (decide (z3 > (600 : Int)))) (bV (greatE D B l))))) ?kr ?_
     case kr => kernel_rfl
     refine ⟨?s0, fun z1 => fun hz1 => ifB_iff.2 ⟨fun hb0 => ⟨rfl, ?m0⟩, fun hb0 => ⟨?s1, fun z2 => fun hz2 => ifB_iff.2 ⟨fun hb1 => ⟨rfl, ?m1⟩, fun hb1 => ⟨?s2, fun z3 => fun hz3 => ⟨rfl, ?m2⟩⟩⟩⟩⟩⟩
     all_goals try simp only [decide_eq_true_eq, decide_eq_false_iff_not] at *
     case s0 => exact ⟨hD, by omega, by omega⟩
     case m0 => exact (subB_b (by unfold greatE; rw [← hz1, decide_eq_true hb0]; rfl)).sub
     case s1 => exact ⟨hB, by omega, by omega⟩
     case m1 => exact (subB_b (by unfold greatE; rw [← hz1, ← hz2, decide_eq_false hb0, decide_eq_true hb1]; rfl)).sub
     case s2 => have hsz := cntTL_size l; exact ⟨by omega, hl, by omega, by omega⟩
     case m2 => exact (subB_b (by unfold greatE; rw [← hz1, ← hz2, ← hz3, decide_eq_false hb0, decide_eq_false hb1]; rfl)).sub
   · cases hs
 · cases hs
end Go.Proofs.YtpjjdngoblfleaaGreat
