/- The law ModelSorts returns true for any data, sort and two values: PROVED as the given statement says it, where what it reads is of bulk at most 1048576; no other condition. -/
import Derived.Test.YtpjjdngoblfleaaGreatNq
import Derived.Test.YtpjjdngoblfleaaGreatRowI
import Derived.LaidMore
import Derived.Carry
import Derived.Deep.DeepWitnessRowRef
namespace Go.Proofs.YtpjjdngoblfleaaGreat.rowModelSorts
open Go.ChangeShapes Go.WideShapes Go.ChangeAt Go.RowKit
set_option maxRecDepth 100000 in
theorem contract (H : Type) (enc : TypeId × Value → H) (W : World) (base : Nat) (args : Array Value) (ds gs : List (DataW H)) (before : List MemPlace)
  (hval : ∀ (j : Nat) t v, Tryz.f3.params[j]? = some t → args[j]? = some v → Value.okWide Tryz.prog W .any base t v)
  (hW : DataW.Whole enc Tryz.prog Tryz.f3.params.toList Rows.modelSortsSpec.vars false W args.toList ds gs before) (hK : Rows.uptoBulkAll (ds ++ gs) ≤ 1048576) :
  Calls Tryz.prog 3 args W fun e W' => ∃ v, e = .returned v ∧ Rows.modelSortsSpec.post enc Tryz.prog Tryz.f3 false true false false W args v W' := by
 have hW' := hW
 obtain ⟨p, q, hA0, hV, rfl, _, _⟩ := hW
 have hA : DataW.TrodAll enc Tryz.prog W 0 (fun _ => true) true Tryz.f3.params.toList args.toList ds p := hA0
 rw [Tryz.params3] at hA hval
 obtain ⟨v0, v1, v2, v3, d0, d1, d2, d3, p0, p1, p2, p3, rfl, rfl, hp, h0, h1, h2, h3⟩ := trodAll_four hA
 obtain ⟨rfl, rfl⟩ := trodVars_none hV
 clear hA0
 subst hp
 simp only [List.append_nil] at hW'
 have hlt : ∀ x ∈ p0 ++ p1 ++ p2 ++ p3, x.block < W.heap.size := fun x hx => by simpa using hW'.lt x (by simpa using hx)
 obtain ⟨a0, r0, b0⟩ := dats_at (hval 0 22 v0 rfl rfl) h0
 obtain ⟨a1, r1, b1⟩ := str_at (hval 1 9 v1 rfl rfl) h1
 obtain ⟨a2, r2, b2⟩ := val_at (hval 2 29 v2 rfl rfl) h2
 obtain ⟨a3, r3, b3⟩ := val_at (hval 3 29 v3 rfl rfl) h3
 simp only [List.append_nil, Rows.uptoBulkAll] at hK
 refine (cLawO E0_up [.f (.dt .dat a0), .f (.v (.string a1)), vlP a2, vlP a3] _ _ rfl (by exact fun q hq => by cases hq; (try simp only [Tw.eta]); (try simp only [Vw.eta]); exact ⟨by omega, by omega, by omega, by omega⟩) W (H0 W) [v0, v1, v2, v3] (fro0 W) trivial (.cons r0 (.cons r1 (.cons r2 (.cons r3 .nil))))).mono fun e W' ⟨H', v, he, hx, hv⟩ => ?_
 subst he
 have hv' := hv.val
 subst hv'
 have hb := hx.bel
 refine ⟨_, rfl, _, _, _, [], _, [], hW', trodAll_mk1 (shut_bool Tryz.underlying4 _), trodAll_mk4 (args_keep' 22 (by kernel_rfl) (of_decide_eq_true (by kernel_rfl)) h0 (fun x hx => hlt x (by simp [hx])) hb) (args_keep' 9 (by kernel_rfl) (of_decide_eq_true (by kernel_rfl)) h1 (fun x hx => hlt x (by simp [hx])) hb) (args_keep' 29 (by kernel_rfl) (of_decide_eq_true (by kernel_rfl)) h2 (fun x hx => hlt x (by simp [hx])) hb) (args_keep' 29 (by kernel_rfl) (of_decide_eq_true (by kernel_rfl)) h3 (fun x hx => hlt x (by simp [hx])) hb), rfl, hb.frame _, fun h => by cases h⟩
theorem laid_none (W : World) : laidMetH Tryz.prog [] W := ⟨[], (by first | rfl | exact ⟨0, rfl⟩), List.nodup_nil, fun b off h => by cases h⟩
theorem reads (os : Os) {H : Type} (enc : TypeId × Value → H) : ∃ places, DataW.whole enc Tryz.prog ((World.doorLaid Tryz.prog 400 os).forCall (fun _ _ => 0) ⟨#[], #[.slice none 0 0, .string ⟨#[]⟩, .agg #[.int .u8 0, .bool false, .slice none 0 0, .bool false, .string ⟨#[]⟩, .slice none 0 0], .agg #[.int .u8 0, .bool false, .slice none 0 0, .bool false, .string ⟨#[]⟩, .slice none 0 0]], []⟩).memory Tryz.f3.params.toList (Rows.OpenSpec.upto Rows.modelSortsSpec).vars false (#[.slice none 0 0, .string ⟨#[]⟩, .agg #[.int .u8 0, .bool false, .slice none 0 0, .bool false, .string ⟨#[]⟩, .slice none 0 0], .agg #[.int .u8 0, .bool false, .slice none 0 0, .bool false, .string ⟨#[]⟩, .slice none 0 0]] : Array Value).toList 8 = some ([.nil, .lit (.string []), .agg [.lit (.int .u8 0), .agg [.lit (.bool false), .nil], .lit (.bool false), .lit (.string []), .nil], .agg [.lit (.int .u8 0), .agg [.lit (.bool false), .nil], .lit (.bool false), .lit (.string []), .nil]], [], places) :=
 ⟨[], by kernel_rfl⟩
set_option maxRecDepth 100000 in
theorem lifted (os : Os) (started : os.Started) (H : Type) (enc : TypeId × Value → H) (F : Stop.Interp) :
  ReturnsInHanded {} Tryz.checked os 3 .any ((Rows.OpenSpec.upto Rows.modelSortsSpec).preRow enc Tryz.prog Tryz.f3 Rows.modelSortsUptoRow.domain false Rows.modelSortsUptoRow.laid) (((Rows.OpenSpec.upto Rows.modelSortsSpec).at F).post enc Tryz.prog Tryz.f3 false true false false) := by
 obtain ⟨places, hx⟩ := reads os enc
 refine returnsInHanded_of_row (C := Tryz.checked) (s := Rows.OpenSpec.upto Rows.modelSortsSpec) own' started (by kernel_rfl) Tryz.func3
  (witness_row_atRef (enc := enc) (C := Tryz.checked) false (World.doorLaid Tryz.prog 400 os) #[.slice none 0 0, .string ⟨#[]⟩, .agg #[.int .u8 0, .bool false, .slice none 0 0, .bool false, .string ⟨#[]⟩, .slice none 0 0], .agg #[.int .u8 0, .bool false, .slice none 0 0, .bool false, .string ⟨#[]⟩, .slice none 0 0]] rfl (by kernel_rfl) (by kernel_rfl) (by kernel_rfl)
   (OpenSpec.preRow_of_cond 8 hx (by kernel_rfl) (fun k hk => by cases hk; rfl) (by kernel_rfl) (laid_none _))) ?_
 intro W base args ds gs before hval hW _ hK _ _ _ _
 exact contract H enc W base args ds gs before hval hW (of_decide_eq_true (hK _ rfl))
theorem said : Rows.ModelSortsUptoSaid :=
 OpenClaim.holds_of_cond 3 Tryz.f3 rfl rfl rfl rfl rfl rfl rfl ⟨rfl, rfl, rfl, rfl, rfl⟩ rfl rfl rfl rfl rfl (by kernel_rfl) Tryz.func3 (by kernel_rfl)
  (of_decide_eq_true (by kernel_rfl)) (by unfold Func.isWrapper; first | (rw [if_pos (by decide +kernel)]; kernel_rfl) | (rw [if_neg (by decide +kernel)]; exact ⟨rfl, rfl⟩))
  (fun os started H enc _ F => by rw [OpenClaim.pre_eq_preRow]; exact lifted os started H enc F)
end Go.Proofs.YtpjjdngoblfleaaGreat.rowModelSorts
