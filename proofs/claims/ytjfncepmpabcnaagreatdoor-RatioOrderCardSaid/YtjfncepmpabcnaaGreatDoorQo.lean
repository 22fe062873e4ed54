/- The law RatioOrder, by the pure run. -/
import Derived.Test.YtjfncepmpabcnaaGreatDoorQf
namespace Go.Proofs.YtjfncepmpabcnaaGreatDoor
open Go.RowKit
set_option linter.unusedVariables false
set_option maxRecDepth 100000

theorem indexByte_at (u v : List UInt8) (h : ∀ x ∈ u, x ≠ 47) : Lib.indexByte (u ++ 47 :: v) 47 = u.length := by
  induction u with
  | nil => simp [Lib.indexByte]
  | cons x u ih =>
    have h1 := ih fun y hy => h y (List.mem_cons_of_mem _ hy)
    have h2 : (x == 47) = false := by simpa using h x (List.mem_cons_self ..)
    simp only [List.cons_append, Lib.indexByte, h2, h1, Bool.false_eq_true, if_false, List.length_cons]
    rw [if_neg (by simp)]
    omega
theorem indexByte_no (u : List UInt8) (h : ∀ x ∈ u, x ≠ 47) : Lib.indexByte u 47 = -1 := by
  induction u with
  | nil => rfl
  | cons x u ih =>
    have h1 := ih fun y hy => h y (List.mem_cons_of_mem _ hy)
    have h2 : (x == 47) = false := by simpa using h x (List.mem_cons_self ..)
    simp [Lib.indexByte, h2, h1]
theorem cut_at (u v : List UInt8) (h : ∀ x ∈ u, x ≠ 47) : Lib.cut (u ++ 47 :: v) [47] = (u, v, true) := by
  unfold Lib.cut
  rw [Lib.index_one, indexByte_at u v h, if_pos (by omega), Int.toNat_natCast]
  simp
theorem cut_no (u : List UInt8) (h : ∀ x ∈ u, x ≠ 47) : Lib.cut u [47] = (u, [], false) := by
  unfold Lib.cut
  rw [Lib.index_one, indexByte_no u h]
  rfl
theorem dec47 (n : Nat) : ∀ x ∈ Lib.decDigits n, x ≠ 47 := by
  intro x hx h
  have h1 := dec_decB n
  unfold decB at h1
  rw [List.all_eq_true] at h1
  have h2 := h1 x hx
  subst h
  revert h2; decide
theorem zText47 (z : Int) : ∀ x ∈ zText z, x ≠ 47 := by
  intro x hx
  unfold zText at hx
  split at hx
  · rcases List.mem_cons.1 hx with rfl | hx
    · decide
    · exact dec47 _ x hx
  · exact dec47 _ x hx
/-- A ratio's text is taken back. -/
theorem cut_text (r : Rat) : cutN (textQ r) = r.num ∧ cutD (textQ r) = r.den ∧ cutOk (textQ r) = true := by
  unfold textQ cutN cutD cutOk
  by_cases h : (r.den : Int) = 1
  · rw [if_pos h, cut_no _ (zText47 _)]
    dsimp only
    rw [parZ_text, okZ_text, h]
    exact ⟨rfl, rfl, rfl⟩
  · rw [if_neg h, cut_at _ _ (zText47 _)]
    dsimp only
    rw [parZ_text, parZ_text, okZ_text, okZ_text]
    exact ⟨rfl, rfl, rfl⟩
theorem okQ_text (r : Rat) : okQ (textQ r) = true := by
  obtain ⟨h1, h2, h3⟩ := cut_text r
  have h4 := r.den_pos
  have h5 := rightQ_canon r
  rw [rightQ_int] at h5
  unfold okQ
  rw [h1, h2, h3, h5, Rat.num_divInt_den]
  simp
theorem parQ_text (r : Rat) : parQ (textQ r) = r := by
  obtain ⟨h1, h2, h3⟩ := cut_text r
  unfold parQ
  rw [okQ_text, h1, h2]
  exact Rat.num_divInt_den r
theorem textQ_inj {r s : Rat} (h : textQ r = textQ s) : r = s := by rw [← parQ_text r, h, parQ_text]
theorem textQ_len {r : Rat} {k j : Nat} (h : ZB r.num k) (h' : ZB (r.den : Int) j) : (textQ r).length ≤ 9 * k + 9 * j + 5 := by
  have h1 := zText_len h
  have h2 := zText_len h'
  unfold textQ
  split
  · omega
  · simp; omega
/-- -1, 0, 1. -/
def cmpR (r s : Rat) : Int := if r < s then -1 else if s < r then 1 else 0
theorem cmpI_rat (r s : Rat) : cmpI (r.num * s.den) (s.num * r.den) = cmpR r s := by
  unfold cmpI cmpR
  simp only [Rat.lt_iff]
theorem cmpR_wrap (r s : Rat) : IntKind.i64.wrap (0 - cmpR r s) = -cmpR r s := by
  unfold cmpR
  split
  · decide
  · split <;> decide
theorem textQ_eq (r s : Rat) : ((⟨(textQ r).toArray⟩ : ByteArray).toList == (⟨(textQ s).toArray⟩ : ByteArray).toList) = decide (r = s) := by
  rw [ByteArray.toList_mk, ByteArray.toList_mk, Bool.eq_iff_iff, beq_iff_eq, decide_eq_true_eq]
  exact ⟨fun h => textQ_inj h, fun h => by rw [h]⟩
theorem sub_true {b : Bool} (h : b = true) : Sub (.f (.v (.bool b))) (.f (.v (.bool true))) := by subst h; exact .refl _
theorem zb_len {z : Int} {k : Nat} (h : (digs 1000000000 z.natAbs).length ≤ k) : ZB z k := by
  have := zb_of_len (neg := zNeg z) h
  rwa [zOf_self] at this
theorem text_less {r : Rat} (h : (digs 1000000000 r.num.natAbs).length ≤ 8) (h' : (digs 1000000000 (r.den : Int).natAbs).length ≤ 8) : (zText r.num).length ≤ 1000000 ∧ (zText (r.den : Int)).length ≤ 1000000 ∧ (textQ r).length ≤ 1000 := by
  have h1 := zText_len (zb_len h)
  have h2 := zText_len (zb_len h')
  have h3 := textQ_len (zb_len h) (zb_len h')
  exact ⟨by omega, by omega, by omega⟩
theorem floor_bounds (r : Rat) : (r.floor : Rat) ≤ r ∧ r < (r.floor : Rat) + 1 := by
  have h := Rat.lt_floor_add_one r
  rw [Rat.intCast_add, Rat.intCast_one] at h
  exact ⟨Rat.floor_le r, h⟩
def lawO (b : Bool) : List (FuncId × Spec) := (26, sCmpQ) :: (29, sFloor) :: (32, sTextQ) :: (21, sParseQ) :: lawL b
theorem lawOC (b : Bool) : AllC Tryz.prog EQ (lawO b) := ⟨cCmpQ EQ.up, cFloor EQ.up, cTextQ.env (fun _ _ h => h.1), cParseQ, lawC b⟩
theorem cOrder : Contract Tryz.prog EQ 5 sLaw3 := by
  refine contract_each Tryz.ntmps5 Tryz.func5 (by kernel_rfl) (by kernel_rfl) EQ.up ?_
  intro xs p r hs hp
  unfold sLaw3 at hs
  split at hs
  · rename_i x y z
    split at hs
    · rename_i X Y Z hx hy hz
      cases hs
      obtain ⟨⟨⟨na, la⟩, ka, ja⟩, ⟨⟨na', la'⟩, ka', ja'⟩⟩ := X
      obtain ⟨⟨⟨nb, lb⟩, kb, jb⟩, ⟨⟨nb', lb'⟩, kb', jb'⟩⟩ := Y
      obtain ⟨⟨⟨nc, lc⟩, kc, jc⟩, ⟨⟨nc', lc'⟩, kc', jc'⟩⟩ := Z
      by_cases hf : (la.length ≤ 8 ∧ la'.length ≤ 8) ∧ (lb.length ≤ 8 ∧ lb'.length ≤ 8) ∧ lc.length ≤ 8 ∧ lc'.length ≤ 8
      · obtain ⟨⟨f1, f2⟩, ⟨f3, f4⟩, f5, f6⟩ := hf
        refine ⟨lawO true, lawOC true, [rawQ na la 8 na' la' 8, rawQ nb lb 8 nb' lb' 8, rawQ nc lc 8 nc' lc' 8], .cons ((sub_rawQ hx).trans (rawQ_less f1 f2)) (.cons ((sub_rawQ hy).trans (rawQ_less f3 f4)) (.cons ((sub_rawQ hz).trans (rawQ_less f5 f6)) .nil)), rfl, ?_⟩
        have hw : ([((na, la, 8), (na', la', 8)), ((nb, lb, 8), (nb', lb', 8)), ((nc, lc, 8), (nc', lc', 8))] : List QE).all fewE = true := by
          simp only [List.all_cons, List.all_nil, Bool.and_true, Bool.and_eq_true, fewE_big]
          omega
        refine cast_rfl (p := (3 ≤ 1000000 ∧ ([((na, la, 8), na', la', 8), ((nb, lb, 8), nb', lb', 8), ((nc, lc, 8), nc', lc', 8)].all fewE && decide ([((na, la, 8), na', la', 8), ((nb, lb, 8), nb', lb', 8), ((nc, lc, 8), nc', lc', 8)].length ≤ 6)) = true) ∧ (8 ≤ 10000 ∧ 8 ≤ 10000) ∧ ifB (!rightQ na la na' la') (true = true ∧ Sub (PV.f (Lf.v (Value.bool true))) (PV.f (Lf.v (Value.bool true)))) ((8 ≤ 10000 ∧ 8 ≤ 10000) ∧ ifB (!rightQ nb lb nb' lb') (true = true ∧ Sub (PV.f (Lf.v (Value.bool true))) (PV.f (Lf.v (Value.bool true)))) ((8 ≤ 10000 ∧ 8 ≤ 10000) ∧ ifB (!rightQ nc lc nc' lc') (true = true ∧ Sub (PV.f (Lf.v (Value.bool true))) (PV.f (Lf.v (Value.bool true)))) ((8 ≤ 1900 ∧ 8 ≤ 1900 ∧ 8 ≤ 1900 ∧ 8 ≤ 1900) ∧ (8 ≤ 1900 ∧ 8 ≤ 1900 ∧ 8 ≤ 1900 ∧ 8 ≤ 1900) ∧ ifB (cmpI ((takeQ nb lb nb' lb').num * (↑(takeQ na la na' la').den : Int)) ((takeQ na la na' la').num * (↑(takeQ nb lb nb' lb').den : Int)) != IntKind.i64.wrap ((0 : Int) - cmpI ((takeQ na la na' la').num * (↑(takeQ nb lb nb' lb').den : Int)) ((takeQ nb lb nb' lb').num * (↑(takeQ na la na' la').den : Int)))) (true = true ∧ Sub (PV.f (Lf.v (Value.bool false))) (PV.f (Lf.v (Value.bool true)))) (32 ≤ 800000 ∧ ifB (!(cmpI ((takeQ na la na' la').num * (↑(takeQ nb lb nb' lb').den : Int)) ((takeQ nb lb nb' lb').num * (↑(takeQ na la na' la').den : Int)) == (0 : Int)) == (na == nb && eqB la lb && (na' == nb' && eqB la' lb'))) (true = true ∧ Sub (PV.f (Lf.v (Value.bool false))) (PV.f (Lf.v (Value.bool true)))) (ifB (decide (cmpI ((takeQ na la na' la').num * (↑(takeQ nb lb nb' lb').den : Int)) ((takeQ nb lb nb' lb').num * (↑(takeQ na la na' la').den : Int)) ≤ (0 : Int))) ((8 ≤ 1900 ∧ 8 ≤ 1900 ∧ 8 ≤ 1900 ∧ 8 ≤ 1900) ∧ ifB (decide (cmpI ((takeQ nb lb nb' lb').num * (↑(takeQ nc lc nc' lc').den : Int)) ((takeQ nc lc nc' lc').num * (↑(takeQ nb lb nb' lb').den : Int)) ≤ (0 : Int))) ((8 ≤ 1900 ∧ 8 ≤ 1900 ∧ 8 ≤ 1900 ∧ 8 ≤ 1900) ∧ ifB (decide (cmpI ((takeQ na la na' la').num * (↑(takeQ nc lc nc' lc').den : Int)) ((takeQ nc lc nc' lc').num * (↑(takeQ na la na' la').den : Int)) > (0 : Int))) (true = true ∧ Sub (PV.f (Lf.v (Value.bool false))) (PV.f (Lf.v (Value.bool true)))) ((124 ≤ 1900 ∧ 65 ≤ 1900 ∧ 2 ≤ 1000000) ∧ ∀ (z1 : Rat), z1 = List.foldl (fun (a : Rat) (e : QE) => a + ofE e) (0 : Rat) [((na, la, 8), na', la', 8), ((nc, lc, 8), nc', lc', 8)] → (124 ≤ 1900 ∧ 65 ≤ 1900 ∧ 2 ≤ 1000000) ∧ ∀ (z2 : Rat), z2 = List.foldl (fun (a : Rat) (e : QE) => a + ofE e) (0 : Rat) [((nb, lb, 8), nb', lb', 8), ((nc, lc, 8), nc', lc', 8)] → (124 ≤ 1900 ∧ 65 ≤ 1900 ∧ 124 ≤ 1900 ∧ 65 ≤ 1900) ∧ ifB (cmpI ((takeQ (zNeg z1.num) (digs 1000000000 z1.num.natAbs) (zNeg (↑z1.den : Int)) (digs 1000000000 (↑z1.den : Int).natAbs)).num * (↑(takeQ (zNeg z2.num) (digs 1000000000 z2.num.natAbs) (zNeg (↑z2.den : Int)) (digs 1000000000 (↑z2.den : Int).natAbs)).den : Int)) ((takeQ (zNeg z2.num) (digs 1000000000 z2.num.natAbs) (zNeg (↑z2.den : Int)) (digs 1000000000 (↑z2.den : Int).natAbs)).num * (↑(takeQ (zNeg z1.num) (digs 1000000000 z1.num.natAbs) (zNeg (↑z1.den : Int)) (digs 1000000000 (↑z1.den : Int).natAbs)).den : Int)) != cmpI ((takeQ na la na' la').num * (↑(takeQ nb lb nb' lb').den : Int)) ((takeQ nb lb nb' lb').num * (↑(takeQ na la na' la').den : Int))) (true = true ∧ Sub (PV.f (Lf.v (Value.bool false))) (PV.f (Lf.v (Value.bool true)))) ((8 ≤ 1900 ∧ 8 ≤ 1900) ∧ ∀ (z3 : Int), z3 = (takeQ na la na' la').floor → 12 ≤ 1900 ∧ ∀ (z4 : Rat), (z4 = match rightZ (zNeg z3) (digs 1000000000 z3.natAbs) with | true => (↑(zV (zNeg z3) (digs 1000000000 z3.natAbs)) : Rat) | false => (0 : Rat)) → (8 ≤ 300 ∧ 8 ≤ 300 ∧ 15 ≤ 300 ∧ 6 ≤ 300) ∧ ∀ (z5 : Rat), z5 = takeQ na la na' la' - takeQ (zNeg z4.num) (digs 1000000000 z4.num.natAbs) (zNeg (↑z4.den : Int)) (digs 1000000000 (↑z4.den : Int).natAbs) → (15 ≤ 1900 ∧ 6 ≤ 1900 ∧ 8 ≤ 1900 ∧ 8 ≤ 1900) ∧ ifB (decide (cmpI ((takeQ (zNeg z4.num) (digs 1000000000 z4.num.natAbs) (zNeg (↑z4.den : Int)) (digs 1000000000 (↑z4.den : Int).natAbs)).num * (↑(takeQ na la na' la').den : Int)) ((takeQ na la na' la').num * (↑(takeQ (zNeg z4.num) (digs 1000000000 z4.num.natAbs) (zNeg (↑z4.den : Int)) (digs 1000000000 (↑z4.den : Int).natAbs)).den : Int)) > (0 : Int))) (true = true ∧ Sub (PV.f (Lf.v (Value.bool false))) (PV.f (Lf.v (Value.bool true)))) (((-9223372036854775808 : Int) ≤ (1 : Int) ∧ (1 : Int) ≤ (9223372036854775807 : Int)) ∧ ∀ (z6 : Int), z6 = (1 : Int) → 3 ≤ 1900 ∧ ∀ (z7 : Rat), (z7 = match rightZ (zNeg z6) (digs 1000000000 z6.natAbs) with | true => (↑(zV (zNeg z6) (digs 1000000000 z6.natAbs)) : Rat) | false => (0 : Rat)) → (201 ≤ 1900 ∧ 114 ≤ 1900 ∧ 6 ≤ 1900 ∧ 6 ≤ 1900) ∧ ifB (decide (cmpI ((takeQ (zNeg z5.num) (digs 1000000000 z5.num.natAbs) (zNeg (↑z5.den : Int)) (digs 1000000000 (↑z5.den : Int).natAbs)).num * (↑(takeQ (zNeg z7.num) (digs (1000000000 : Nat) z7.num.natAbs) (zNeg (↑z7.den : Int)) (digs (1000000000 : Nat) (↑z7.den : Int).natAbs)).den : Int)) ((takeQ (zNeg z7.num) (digs 1000000000 z7.num.natAbs) (zNeg (↑z7.den : Int)) (digs 1000000000 (↑z7.den : Int).natAbs)).num * (↑(takeQ (zNeg z5.num) (digs (1000000000 : Nat) z5.num.natAbs) (zNeg (↑z5.den : Int)) (digs (1000000000 : Nat) (↑z5.den : Int).natAbs)).den : Int)) ≥ (0 : Int))) (true = true ∧ Sub (PV.f (Lf.v (Value.bool false))) (PV.f (Lf.v (Value.bool true)))) ((8 ≤ 1900 ∧ 8 ≤ 1900 ∧ (zText (takeQ na la na' la').num).length ≤ 1000000 ∧ (zText (↑(takeQ na la na' la').den : Int)).length ≤ 1000000) ∧ (ByteArray.mk (textQ (takeQ na la na' la')).toArray).size ≤ 1000 ∧ ∀ (z8 : Rat), z8 = parQ (textQ (takeQ na la na' la')) → ∀ (z9 : Bool), z9 = okQ (textQ (takeQ na la na' la')) → ifB z9 (2036 ≤ (800000 : Nat) ∧ ifB (zNeg z8.num == na && eqB (digs (1000000000 : Nat) z8.num.natAbs) la && (zNeg (↑z8.den : Int) == na' && eqB (digs (1000000000 : Nat) (↑z8.den : Int).natAbs) la')) ((8 ≤ (1900 : Nat) ∧ (8 : Nat) ≤ (1900 : Nat) ∧ (zText (takeQ na la na' la').num).length ≤ (1000000 : Nat) ∧ (zText (↑(takeQ na la na' la').den : Int)).length ≤ (1000000 : Nat)) ∧ (8 ≤ (1900 : Nat) ∧ (8 : Nat) ≤ (1900 : Nat) ∧ (zText (takeQ nb lb nb' lb').num).length ≤ (1000000 : Nat) ∧ (zText (↑(takeQ nb lb nb' lb').den : Int)).length ≤ (1000000 : Nat)) ∧ true = true ∧ Sub (PV.f (Lf.v (Value.bool (((ByteArray.mk (textQ (takeQ na la na' la')).toArray).toList == (ByteArray.mk (textQ (takeQ nb lb nb' lb')).toArray).toList) == (cmpI ((takeQ na la na' la').num * (↑(takeQ nb lb nb' lb').den : Int)) ((takeQ nb lb nb' lb').num * (↑(takeQ na la na' la').den : Int)) == (0 : Int)))))) (PV.f (Lf.v (Value.bool true)))) (true = true ∧ Sub (PV.f (Lf.v (Value.bool false))) (PV.f (Lf.v (Value.bool true))))) (true = true ∧ Sub (PV.f (Lf.v (Value.bool false))) (PV.f (Lf.v (Value.bool true))))))))) ((124 ≤ 1900 ∧ 65 ≤ 1900 ∧ 2 ≤ 1000000) ∧ ∀ (z1 : Rat), z1 = List.foldl (fun (a : Rat) (e : QE) => a + ofE e) (0 : Rat) [((na, la, 8), na', la', 8), ((nc, lc, 8), nc', lc', 8)] → (124 ≤ 1900 ∧ 65 ≤ 1900 ∧ 2 ≤ 1000000) ∧ ∀ (z2 : Rat), z2 = List.foldl (fun (a : Rat) (e : QE) => a + ofE e) (0 : Rat) [((nb, lb, 8), nb', lb', 8), ((nc, lc, 8), nc', lc', 8)] → (124 ≤ 1900 ∧ 65 ≤ 1900 ∧ 124 ≤ 1900 ∧ 65 ≤ 1900) ∧ ifB (cmpI ((takeQ (zNeg z1.num) (digs 1000000000 z1.num.natAbs) (zNeg (↑z1.den : Int)) (digs 1000000000 (↑z1.den : Int).natAbs)).num * (↑(takeQ (zNeg z2.num) (digs 1000000000 z2.num.natAbs) (zNeg (↑z2.den : Int)) (digs 1000000000 (↑z2.den : Int).natAbs)).den : Int)) ((takeQ (zNeg z2.num) (digs 1000000000 z2.num.natAbs) (zNeg (↑z2.den : Int)) (digs 1000000000 (↑z2.den : Int).natAbs)).num * (↑(takeQ (zNeg z1.num) (digs 1000000000 z1.num.natAbs) (zNeg (↑z1.den : Int)) (digs 1000000000 (↑z1.den : Int).natAbs)).den : Int)) != cmpI ((takeQ na la na' la').num * (↑(takeQ nb lb nb' lb').den : Int)) ((takeQ nb lb nb' lb').num * (↑(takeQ na la na' la').den : Int))) (true = true ∧ Sub (PV.f (Lf.v (Value.bool false))) (PV.f (Lf.v (Value.bool true)))) ((8 ≤ 1900 ∧ 8 ≤ 1900) ∧ ∀ (z3 : Int), z3 = (takeQ na la na' la').floor → 12 ≤ 1900 ∧ ∀ (z4 : Rat), (z4 = match rightZ (zNeg z3) (digs 1000000000 z3.natAbs) with | true => (↑(zV (zNeg z3) (digs 1000000000 z3.natAbs)) : Rat) | false => (0 : Rat)) → (8 ≤ 300 ∧ 8 ≤ 300 ∧ 15 ≤ 300 ∧ 6 ≤ 300) ∧ ∀ (z5 : Rat), z5 = takeQ na la na' la' - takeQ (zNeg z4.num) (digs 1000000000 z4.num.natAbs) (zNeg (↑z4.den : Int)) (digs 1000000000 (↑z4.den : Int).natAbs) → (15 ≤ 1900 ∧ 6 ≤ 1900 ∧ 8 ≤ 1900 ∧ 8 ≤ 1900) ∧ ifB (decide (cmpI ((takeQ (zNeg z4.num) (digs 1000000000 z4.num.natAbs) (zNeg (↑z4.den : Int)) (digs 1000000000 (↑z4.den : Int).natAbs)).num * (↑(takeQ na la na' la').den : Int)) ((takeQ na la na' la').num * (↑(takeQ (zNeg z4.num) (digs 1000000000 z4.num.natAbs) (zNeg (↑z4.den : Int)) (digs 1000000000 (↑z4.den : Int).natAbs)).den : Int)) > (0 : Int))) (true = true ∧ Sub (PV.f (Lf.v (Value.bool false))) (PV.f (Lf.v (Value.bool true)))) (((-9223372036854775808 : Int) ≤ (1 : Int) ∧ (1 : Int) ≤ (9223372036854775807 : Int)) ∧ ∀ (z6 : Int), z6 = (1 : Int) → 3 ≤ 1900 ∧ ∀ (z7 : Rat), (z7 = match rightZ (zNeg z6) (digs 1000000000 z6.natAbs) with | true => (↑(zV (zNeg z6) (digs 1000000000 z6.natAbs)) : Rat) | false => (0 : Rat)) → (201 ≤ 1900 ∧ 114 ≤ 1900 ∧ 6 ≤ 1900 ∧ 6 ≤ 1900) ∧ ifB (decide (cmpI ((takeQ (zNeg z5.num) (digs 1000000000 z5.num.natAbs) (zNeg (↑z5.den : Int)) (digs 1000000000 (↑z5.den : Int).natAbs)).num * (↑(takeQ (zNeg z7.num) (digs 1000000000 z7.num.natAbs) (zNeg (↑z7.den : Int)) (digs 1000000000 (↑z7.den : Int).natAbs)).den : Int)) ((takeQ (zNeg z7.num) (digs 1000000000 z7.num.natAbs) (zNeg (↑z7.den : Int)) (digs 1000000000 (↑z7.den : Int).natAbs)).num * (↑(takeQ (zNeg z5.num) (digs 1000000000 z5.num.natAbs) (zNeg (↑z5.den : Int)) (digs 1000000000 (↑z5.den : Int).natAbs)).den : Int)) ≥ (0 : Int))) (true = true ∧ Sub (PV.f (Lf.v (Value.bool false))) (PV.f (Lf.v (Value.bool true)))) ((8 ≤ 1900 ∧ 8 ≤ 1900 ∧ (zText (takeQ na la na' la').num).length ≤ 1000000 ∧ (zText (↑(takeQ na la na' la').den : Int)).length ≤ 1000000) ∧ (ByteArray.mk (textQ (takeQ na la na' la')).toArray).size ≤ 1000 ∧ ∀ (z8 : Rat), z8 = parQ (textQ (takeQ na la na' la')) → ∀ (z9 : Bool), z9 = okQ (textQ (takeQ na la na' la')) → ifB z9 (2036 ≤ 800000 ∧ ifB (zNeg z8.num == na && eqB (digs (1000000000 : Nat) z8.num.natAbs) la && (zNeg (↑z8.den : Int) == na' && eqB (digs (1000000000 : Nat) (↑z8.den : Int).natAbs) la')) ((8 ≤ (1900 : Nat) ∧ 8 ≤ (1900 : Nat) ∧ (zText (takeQ na la na' la').num).length ≤ (1000000 : Nat) ∧ (zText (↑(takeQ na la na' la').den : Int)).length ≤ (1000000 : Nat)) ∧ (8 ≤ (1900 : Nat) ∧ 8 ≤ (1900 : Nat) ∧ (zText (takeQ nb lb nb' lb').num).length ≤ (1000000 : Nat) ∧ (zText (↑(takeQ nb lb nb' lb').den : Int)).length ≤ (1000000 : Nat)) ∧ true = true ∧ Sub (PV.f (Lf.v (Value.bool (((ByteArray.mk (textQ (takeQ na la na' la')).toArray).toList == (ByteArray.mk (textQ (takeQ nb lb nb' lb')).toArray).toList) == (cmpI ((takeQ na la na' la').num * (↑(takeQ nb lb nb' lb').den : Int)) ((takeQ nb lb nb' lb').num * (↑(takeQ na la na' la').den : Int)) == (0 : Int)))))) (PV.f (Lf.v (Value.bool true)))) (true = true ∧ Sub (PV.f (Lf.v (Value.bool false))) (PV.f (Lf.v (Value.bool true))))) (true = true ∧ Sub (PV.f (Lf.v (Value.bool false))) (PV.f (Lf.v (Value.bool true))))))))) ((124 ≤ 1900 ∧ 65 ≤ 1900 ∧ 2 ≤ 1000000) ∧ ∀ (z1 : Rat), z1 = List.foldl (fun (a : Rat) (e : QE) => a + ofE e) (0 : Rat) [((na, la, 8), na', la', 8), ((nc, lc, 8), nc', lc', 8)] → (124 ≤ 1900 ∧ 65 ≤ 1900 ∧ 2 ≤ 1000000) ∧ ∀ (z2 : Rat), z2 = List.foldl (fun (a : Rat) (e : QE) => a + ofE e) (0 : Rat) [((nb, lb, 8), nb', lb', 8), ((nc, lc, 8), nc', lc', 8)] → (124 ≤ 1900 ∧ 65 ≤ 1900 ∧ 124 ≤ 1900 ∧ 65 ≤ 1900) ∧ ifB (cmpI ((takeQ (zNeg z1.num) (digs 1000000000 z1.num.natAbs) (zNeg (↑z1.den : Int)) (digs 1000000000 (↑z1.den : Int).natAbs)).num * (↑(takeQ (zNeg z2.num) (digs 1000000000 z2.num.natAbs) (zNeg (↑z2.den : Int)) (digs 1000000000 (↑z2.den : Int).natAbs)).den : Int)) ((takeQ (zNeg z2.num) (digs 1000000000 z2.num.natAbs) (zNeg (↑z2.den : Int)) (digs 1000000000 (↑z2.den : Int).natAbs)).num * (↑(takeQ (zNeg z1.num) (digs 1000000000 z1.num.natAbs) (zNeg (↑z1.den : Int)) (digs 1000000000 (↑z1.den : Int).natAbs)).den : Int)) != cmpI ((takeQ na la na' la').num * (↑(takeQ nb lb nb' lb').den : Int)) ((takeQ nb lb nb' lb').num * (↑(takeQ na la na' la').den : Int))) (true = true ∧ Sub (PV.f (Lf.v (Value.bool false))) (PV.f (Lf.v (Value.bool true)))) ((8 ≤ 1900 ∧ 8 ≤ 1900) ∧ ∀ (z3 : Int), z3 = (takeQ na la na' la').floor → 12 ≤ 1900 ∧ ∀ (z4 : Rat), (z4 = match rightZ (zNeg z3) (digs 1000000000 z3.natAbs) with | true => (↑(zV (zNeg z3) (digs 1000000000 z3.natAbs)) : Rat) | false => (0 : Rat)) → (8 ≤ 300 ∧ 8 ≤ 300 ∧ 15 ≤ 300 ∧ 6 ≤ 300) ∧ ∀ (z5 : Rat), z5 = takeQ na la na' la' - takeQ (zNeg z4.num) (digs 1000000000 z4.num.natAbs) (zNeg (↑z4.den : Int)) (digs 1000000000 (↑z4.den : Int).natAbs) → (15 ≤ 1900 ∧ 6 ≤ 1900 ∧ 8 ≤ 1900 ∧ 8 ≤ 1900) ∧ ifB (decide (cmpI ((takeQ (zNeg z4.num) (digs 1000000000 z4.num.natAbs) (zNeg (↑z4.den : Int)) (digs 1000000000 (↑z4.den : Int).natAbs)).num * (↑(takeQ na la na' la').den : Int)) ((takeQ na la na' la').num * (↑(takeQ (zNeg z4.num) (digs 1000000000 z4.num.natAbs) (zNeg (↑z4.den : Int)) (digs 1000000000 (↑z4.den : Int).natAbs)).den : Int)) > (0 : Int))) (true = true ∧ Sub (PV.f (Lf.v (Value.bool false))) (PV.f (Lf.v (Value.bool true)))) (((-9223372036854775808 : Int) ≤ (1 : Int) ∧ (1 : Int) ≤ (9223372036854775807 : Int)) ∧ ∀ (z6 : Int), z6 = (1 : Int) → 3 ≤ 1900 ∧ ∀ (z7 : Rat), (z7 = match rightZ (zNeg z6) (digs 1000000000 z6.natAbs) with | true => (↑(zV (zNeg z6) (digs 1000000000 z6.natAbs)) : Rat) | false => (0 : Rat)) → (201 ≤ 1900 ∧ 114 ≤ 1900 ∧ 6 ≤ 1900 ∧ 6 ≤ 1900) ∧ ifB (decide (cmpI ((takeQ (zNeg z5.num) (digs 1000000000 z5.num.natAbs) (zNeg (↑z5.den : Int)) (digs 1000000000 (↑z5.den : Int).natAbs)).num * (↑(takeQ (zNeg z7.num) (digs 1000000000 z7.num.natAbs) (zNeg (↑z7.den : Int)) (digs 1000000000 (↑z7.den : Int).natAbs)).den : Int)) ((takeQ (zNeg z7.num) (digs 1000000000 z7.num.natAbs) (zNeg (↑z7.den : Int)) (digs 1000000000 (↑z7.den : Int).natAbs)).num * (↑(takeQ (zNeg z5.num) (digs 1000000000 z5.num.natAbs) (zNeg (↑z5.den : Int)) (digs 1000000000 (↑z5.den : Int).natAbs)).den : Int)) ≥ (0 : Int))) (true = true ∧ Sub (PV.f (Lf.v (Value.bool false))) (PV.f (Lf.v (Value.bool true)))) ((8 ≤ 1900 ∧ 8 ≤ 1900 ∧ (zText (takeQ na la na' la').num).length ≤ 1000000 ∧ (zText (↑(takeQ na la na' la').den : Int)).length ≤ 1000000) ∧ (ByteArray.mk (textQ (takeQ na la na' la')).toArray).size ≤ 1000 ∧ ∀ (z8 : Rat), z8 = parQ (textQ (takeQ na la na' la')) → ∀ (z9 : Bool), z9 = okQ (textQ (takeQ na la na' la')) → ifB z9 (2036 ≤ 800000 ∧ ifB (zNeg z8.num == na && eqB (digs (1000000000 : Nat) z8.num.natAbs) la && (zNeg (↑z8.den : Int) == na' && eqB (digs (1000000000 : Nat) (↑z8.den : Int).natAbs) la')) ((8 ≤ 1900 ∧ 8 ≤ 1900 ∧ (zText (takeQ na la na' la').num).length ≤ (1000000 : Nat) ∧ (zText (↑(takeQ na la na' la').den : Int)).length ≤ (1000000 : Nat)) ∧ (8 ≤ 1900 ∧ 8 ≤ (1900 : Nat) ∧ (zText (takeQ nb lb nb' lb').num).length ≤ (1000000 : Nat) ∧ (zText (↑(takeQ nb lb nb' lb').den : Int)).length ≤ (1000000 : Nat)) ∧ true = true ∧ Sub (PV.f (Lf.v (Value.bool (((ByteArray.mk (textQ (takeQ na la na' la')).toArray).toList == (ByteArray.mk (textQ (takeQ nb lb nb' lb')).toArray).toList) == (cmpI ((takeQ na la na' la').num * (↑(takeQ nb lb nb' lb').den : Int)) ((takeQ nb lb nb' lb').num * (↑(takeQ na la na' la').den : Int)) == (0 : Int)))))) (PV.f (Lf.v (Value.bool true)))) (true = true ∧ Sub (PV.f (Lf.v (Value.bool false))) (PV.f (Lf.v (Value.bool true))))) (true = true ∧ Sub (PV.f (Lf.v (Value.bool false))) (PV.f (Lf.v (Value.bool true)))))))))))))) (by kernel_rfl) ?_
        refine ⟨?s0, ⟨?s1, ifB_iff.2 ⟨fun hb0 => ⟨rfl, ?m0⟩, fun hb0 => ⟨?s2, ifB_iff.2 ⟨fun hb1 => ⟨rfl, ?m1⟩, fun hb1 => ⟨?s3, ifB_iff.2 ⟨fun hb2 => ⟨rfl, ?m2⟩, fun hb2 => ⟨?s4, ⟨?s5, ifB_iff.2 ⟨fun hb3 => ⟨rfl, ?m3⟩, fun hb3 => ⟨?s6, ifB_iff.2 ⟨fun hb4 => ⟨rfl, ?m4⟩, fun hb4 => ifB_iff.2 ⟨fun hb5 => ⟨?s7, ifB_iff.2 ⟨fun hb6 => ⟨?s8, ifB_iff.2 ⟨fun hb7 => ⟨rfl, ?m5⟩, fun hb7 => ⟨?s9, fun z1 => fun hz1 => ⟨?s10, fun z2 => fun hz2 => ⟨?s11, ifB_iff.2 ⟨fun hb8 => ⟨rfl, ?m6⟩, fun hb8 => ⟨?s12, fun z3 => fun hz3 => ⟨?s13, fun z4 => fun hz4 => ⟨?s14, fun z5 => fun hz5 => ⟨?s15, ifB_iff.2 ⟨fun hb9 => ⟨rfl, ?m7⟩, fun hb9 => ⟨?s16, fun z6 => fun hz6 => ⟨?s17, fun z7 => fun hz7 => ⟨?s18, ifB_iff.2 ⟨fun hb10 => ⟨rfl, ?m8⟩, fun hb10 => ⟨?s19, ⟨?s20, fun z8 => fun hz8 => fun z9 => fun hz9 => ifB_iff.2 ⟨fun hb11 => ⟨?s21, ifB_iff.2 ⟨fun hb12 => ⟨?s22, ⟨?s23, ⟨rfl, ?m9⟩⟩⟩, fun hb12 => ⟨rfl, ?m10⟩⟩⟩, fun hb11 => ⟨rfl, ?m11⟩⟩⟩⟩⟩⟩⟩⟩⟩⟩⟩⟩⟩⟩⟩⟩⟩⟩⟩, fun hb6 => ⟨?s24, fun z1 => fun hz1 => ⟨?s25, fun z2 => fun hz2 => ⟨?s26, ifB_iff.2 ⟨fun hb13 => ⟨rfl, ?m12⟩, fun hb13 => ⟨?s27, fun z3 => fun hz3 => ⟨?s28, fun z4 => fun hz4 => ⟨?s29, fun z5 => fun hz5 => ⟨?s30, ifB_iff.2 ⟨fun hb14 => ⟨rfl, ?m13⟩, fun hb14 => ⟨?s31, fun z6 => fun hz6 => ⟨?s32, fun z7 => fun hz7 => ⟨?s33, ifB_iff.2 ⟨fun hb15 => ⟨rfl, ?m14⟩, fun hb15 => ⟨?s34, ⟨?s35, fun z8 => fun hz8 => fun z9 => fun hz9 => ifB_iff.2 ⟨fun hb16 => ⟨?s36, ifB_iff.2 ⟨fun hb17 => ⟨?s37, ⟨?s38, ⟨rfl, ?m15⟩⟩⟩, fun hb17 => ⟨rfl, ?m16⟩⟩⟩, fun hb16 => ⟨rfl, ?m17⟩⟩⟩⟩⟩⟩⟩⟩⟩⟩⟩⟩⟩⟩⟩⟩⟩⟩⟩, fun hb5 => ⟨?s39, fun z1 => fun hz1 => ⟨?s40, fun z2 => fun hz2 => ⟨?s41, ifB_iff.2 ⟨fun hb18 => ⟨rfl, ?m18⟩, fun hb18 => ⟨?s42, fun z3 => fun hz3 => ⟨?s43, fun z4 => fun hz4 => ⟨?s44, fun z5 => fun hz5 => ⟨?s45, ifB_iff.2 ⟨fun hb19 => ⟨rfl, ?m19⟩, fun hb19 => ⟨?s46, fun z6 => fun hz6 => ⟨?s47, fun z7 => fun hz7 => ⟨?s48, ifB_iff.2 ⟨fun hb20 => ⟨rfl, ?m20⟩, fun hb20 => ⟨?s49, ⟨?s50, fun z8 => fun hz8 => fun z9 => fun hz9 => ifB_iff.2 ⟨fun hb21 => ⟨?s51, ifB_iff.2 ⟨fun hb22 => ⟨?s52, ⟨?s53, ⟨rfl, ?m21⟩⟩⟩, fun hb22 => ⟨rfl, ?m22⟩⟩⟩, fun hb21 => ⟨rfl, ?m23⟩⟩⟩⟩⟩⟩⟩⟩⟩⟩⟩⟩⟩⟩⟩⟩⟩⟩⟩⟩⟩⟩⟩⟩⟩⟩⟩⟩⟩⟩
        case s0 => exact ⟨by decide, by rw [hw]; rfl⟩
        all_goals clear hw
        all_goals first
          | decide
          | exact .refl _
          | (obtain ⟨a, rfl, rfl, rfl, rfl⟩ := rightQ_reps hb0
             obtain ⟨b, rfl, rfl, rfl, rfl⟩ := rightQ_reps hb1
             obtain ⟨c, rfl, rfl, rfl, rfl⟩ := rightQ_reps hb2
             have ta := text_less f1 f2
             have tb := text_less f3 f4
             have fl := floor_bounds a
             clear hx hy hz hp hb0 hb1 hb2 f1 f2 f3 f4 f5 f6
             try subst hz6
             simp only [List.foldl_cons, List.foldl_nil, ofE, takeQ_canon, rightZ_of, zV_digs, cmpI_rat, cmpR_wrap, textQ_eq, parQ_text, okQ_text, Rat.intCast_one] at *
             try simp only [sameQ_eq] at *
             first
             | (refine sub_true ?_; unfold cmpR at *; grind)
             | exact ⟨by decide, by decide, ta.1, ta.2.1⟩
             | exact ⟨by decide, by decide, tb.1, tb.2.1⟩
             | (show (textQ a).toArray.size ≤ _; rw [List.size_toArray]; exact ta.2.2))
      · refine ⟨lawO false, lawOC false, [rawQ na la ka na' la' ka', rawQ nb lb kb nb' lb' kb', rawQ nc lc kc nc' lc' kc'], .cons (sub_rawQ hx) (.cons (sub_rawQ hy) (.cons (sub_rawQ hz) .nil)), rfl, ?_⟩
        have hw : ([((na, la, ka), (na', la', ka')), ((nb, lb, kb), (nb', lb', kb')), ((nc, lc, kc), (nc', lc', kc'))] : List QE).all fewE = false := by
          simp only [List.all_cons, List.all_nil, Bool.and_true, Bool.eq_false_iff, ne_eq, Bool.and_eq_true, fewE_big]
          omega
        refine cast_rfl (p := (3 ≤ 1000000 ∧ ([((na, la, ka), na', la', ka'), ((nb, lb, kb), nb', lb', kb'), ((nc, lc, kc), nc', lc', kc')].all fewE && decide ([((na, la, ka), na', la', ka'), ((nb, lb, kb), nb', lb', kb'), ((nc, lc, kc), nc', lc', kc')].length ≤ 6)) = false) ∧ true = true ∧ Sub (PV.f (Lf.v (Value.bool true))) (PV.f (Lf.v (Value.bool true)))) (by kernel_rfl) ?_
        refine ⟨?s0, ⟨rfl, ?m0⟩⟩
        case s0 => exact ⟨by decide, by rw [hw]; rfl⟩
    · cases hs
  · cases hs

end Go.Proofs.YtjfncepmpabcnaaGreatDoor
