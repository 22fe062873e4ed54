/- The layer model: what a term comes to, kind by kind. -/
import Derived.Test.YtpjjdngoblfleaaGreatMk
namespace Go.Proofs.YtpjjdngoblfleaaGreat
open Go.RowKit
set_option linter.unusedVariables false
set_option maxRecDepth 100000
theorem tupB {x x' y : PV} (h : SubB x x') : SubB (.tup [x, y]) (.tup [x', y]) := ⟨fun H B v hv => by
 cases hv with
 | tup hn hp =>
  refine .tup hn fun i u z hu hz => ?_
  match i, hz with
  | 0, hz => cases hz; exact h.out H B u (hp 0 u x hu rfl)
  | 1, hz => cases hz; exact hp 1 u y hu rfl
  | i + 2, hz => cases hz⟩
theorem endV {p : Prop} {D : List Dat} {B : List Bnd} {t : Tw} {z : Except Int Vw} {x : PV} {u : Vw} {e : Int} {ob : List PO} (h : evalT D B t = z) (hx : vlOf x = some u) (hu : u = valE z0V z) (he : e = errE z) :
  EndU 0 (Out.need p (Out.nm (Except Int Vw) (evalT D B t) fun z => Out.ret (PV.tup [vlP (valE z0V z), iV (errE z)]) [])).fin true (PV.tup [x, iV e]) ob := by
 subst h hu he
 exact endU_need (endU (ob := []) (r := ob) rfl (tupB (vl_sub hx)) rfl rfl rfl)
theorem evalT_eq (D : List Dat) (B : List Bnd) (t : Tw) : evalT D B t = if t.kind = 1 ∧ t.kids.length = 0 then varE D t.name B
  else if (manyM t.kind).2 = false then .error 23
  else if 0 ≤ (manyM t.kind).1 ∧ ¬ (t.kids.length : Int) = (manyM t.kind).1 then .error 24
  else match evalL D B t.kids with
   | .error e => .error e
   | .ok l => if (opW D t l).2 = true then .ok (opW D t l).1 else .error 23 := by
 cases t; rw [evalT]; rfl
theorem ev_var {D : List Dat} {B : List Bnd} {t : Tw} (h : t.kind = 1) (h0 : t.kids.length = 0) : evalT D B t = varE D t.name B := by
 rw [evalT_eq, if_pos ⟨h, h0⟩]
theorem ev_none {D : List Dat} {B : List Bnd} {t : Tw} (h : ¬ (t.kind = 1 ∧ t.kids.length = 0)) (h1 : (manyM t.kind).2 = false) : evalT D B t = .error 23 := by
 rw [evalT_eq, if_neg h, if_pos h1]
theorem ev_many {D : List Dat} {B : List Bnd} {t : Tw} (h : ¬ (t.kind = 1 ∧ t.kids.length = 0)) (h1 : (manyM t.kind).2 = true) (h2 : 0 ≤ (manyM t.kind).1) (h3 : ¬ (t.kids.length : Int) = (manyM t.kind).1) : evalT D B t = .error 24 := by
 rw [evalT_eq, if_neg h, if_neg (by rw [h1]; decide), if_pos ⟨h2, h3⟩]
def EvG (t : Tw) : Prop := ¬ (t.kind = 1 ∧ t.kids.length = 0) ∧ (manyM t.kind).2 = true ∧ (0 ≤ (manyM t.kind).1 → (t.kids.length : Int) = (manyM t.kind).1)
theorem ev_kids {D : List Dat} {B : List Bnd} {t : Tw} (h : EvG t) : evalT D B t = match evalL D B t.kids with
      | .error e => .error e
      | .ok l => if (opW D t l).2 = true then .ok (opW D t l).1 else .error 23 := by
 rw [evalT_eq, if_neg h.1, if_neg (by rw [h.2.1]; decide), if_neg (fun c => c.2 (h.2.2 c.1))]
theorem ev_err {D : List Dat} {B : List Bnd} {t : Tw} {e : Int} (h : EvG t) (hk : evalL D B t.kids = .error e) : evalT D B t = .error e := by
 rw [ev_kids h, hk]
theorem ev_ok {D : List Dat} {B : List Bnd} {t : Tw} {l : List Vw} {v : Vw} (h : EvG t) (hk : evalL D B t.kids = .ok l) (ho : opW D t l = (v, true)) : evalT D B t = .ok v := by
 rw [ev_kids h, hk]
 show (if (opW D t l).2 = true then Except.ok (opW D t l).1 else .error 23) = _
 rw [ho]; rfl
theorem ev_no {D : List Dat} {B : List Bnd} {t : Tw} {l : List Vw} (h : EvG t) (hk : evalL D B t.kids = .ok l) (ho : (opW D t l).2 = false) : evalT D B t = .error 23 := by
 rw [ev_kids h, hk]
 show (if (opW D t l).2 = true then Except.ok (opW D t l).1 else .error 23) = _
 rw [ho]; rfl
theorem evalL_snoc {D : List Dat} {B : List Bnd} : ∀ {l : List Tw} {t : Tw} {m : List Vw} {v : Vw}, evalL D B l = .ok m → evalT D B t = .ok v → evalL D B (l ++ [t]) = .ok (m ++ [v])
 | [], t, m, v, h, h1 => by
  rw [evalL] at h; cases h
  rw [List.nil_append, evalL, h1]
  show (match evalL D B [] with | .error e => Except.error e | .ok m => .ok (v :: m)) = _
  rw [evalL]; rfl
 | u :: l, t, m, v, h, h1 => by
  rw [evalL] at h
  split at h
  · cases h
  · rename_i w hw
    split at h
    · cases h
    · rename_i n hn
      cases h
      rw [List.cons_append, evalL, hw]
      show (match evalL D B (l ++ [t]) with | .error e => Except.error e | .ok m => .ok (w :: m)) = _
      rw [evalL_snoc hn h1]; rfl
theorem evalL_stop {D : List Dat} {B : List Bnd} : ∀ {l : List Tw} {t : Tw} {r : List Tw} {m : List Vw} {e : Int}, evalL D B l = .ok m → evalT D B t = .error e → evalL D B (l ++ t :: r) = .error e
 | [], t, r, m, e, h, h1 => by rw [List.nil_append, evalL, h1]
 | u :: l, t, r, m, e, h, h1 => by
  rw [evalL] at h
  split at h
  · cases h
  · rename_i w hw
    split at h
    · cases h
    · rename_i n hn
      rw [List.cons_append, evalL, hw]
      show (match evalL D B (l ++ t :: r) with | .error e => Except.error e | .ok m => .ok (w :: m)) = _
      rw [evalL_stop hn h1]
theorem evalL_next {D : List Dat} {B : List Bnd} {l : List Tw} {i : Nat} {m : List Vw} {v : Vw} (h : evalL D B (l.take i) = .ok m) (hi : i < l.length) (h1 : evalT D B (l.getD i Sh.tm.nil) = .ok v) : evalL D B (l.take (i + 1)) = .ok (m ++ [v]) := by
 rw [List.take_add_one, List.getElem?_eq_getElem hi]
 rw [List.getD_eq_getElem?_getD, List.getElem?_eq_getElem hi] at h1
 exact evalL_snoc h h1
theorem evalL_fail {D : List Dat} {B : List Bnd} {l : List Tw} {i : Nat} {m : List Vw} {e : Int} (h : evalL D B (l.take i) = .ok m) (hi : i < l.length) (h1 : evalT D B (l.getD i Sh.tm.nil) = .error e) : evalL D B l = .error e := by
 rw [List.getD_eq_getElem?_getD, List.getElem?_eq_getElem hi] at h1
 have e1 : l = l.take i ++ l[i] :: l.drop (i + 1) := by rw [List.getElem_cons_drop, List.take_append_drop]
 rw [e1]
 exact evalL_stop h h1
mutual
theorem evalT_err {D : List Dat} {B : List Bnd} : ∀ {t : Tw} {e : Int}, evalT D B t = .error e → e ≠ 0
 | .mk k nm neg dg kids, e, h => by
  rw [evalT] at h
  split at h
  · unfold varE at h
    revert h
    suffices hs : ∀ (B : List Bnd) (r : Except Int Vw), (∀ e, r = .error e → e ≠ 0) → ∀ e, B.foldl (fun r b => if b.name = nm then (if someV D b.value = true then .ok b.value else .error 23) else r) r = .error e → e ≠ 0 by
     exact hs B (.error 21) (fun e h => by cases h; decide) e
    intro B
    induction B with
    | nil => intro r hr e h; exact hr e h
    | cons b B ih =>
     intro r hr e h
     rw [List.foldl_cons] at h
     refine ih _ (fun e h => ?_) e h
     split at h
     · split at h
       · cases h
       · cases h; decide
     · exact hr e h
  · split at h
    · cases h; decide
    · split at h
      · cases h; decide
      · split at h
        · rename_i hl
          cases h
          exact evalL_err hl
        · split at h
          · cases h
          · cases h; decide
theorem evalL_err {D : List Dat} {B : List Bnd} : ∀ {l : List Tw} {e : Int}, evalL D B l = .error e → e ≠ 0
 | [], e, h => by rw [evalL] at h; cases h
 | t :: l, e, h => by
  rw [evalL] at h
  split at h
  · rename_i ht; cases h; exact evalT_err ht
  · split at h
    · rename_i hl; cases h; exact evalL_err hl
    · cases h
end
theorem ev_is {D : List Dat} {B : List Bnd} {t : Tw} {z : Except Int Vw} (hz : z = evalT D B t) (h : errE z = 0) : ∃ v, z = .ok v := by
 obtain e | v := z
 · exact absurd h (evalT_err hz.symm)
 · exact ⟨v, rfl⟩
theorem ev_not {D : List Dat} {B : List Bnd} {t : Tw} {z : Except Int Vw} (hz : z = evalT D B t) (h : ¬ errE z = 0) : evalT D B t = .error (errE z) := by
 subst hz
 cases hz : evalT D B t with
 | error e => rfl
 | ok v => rw [hz] at h; exact absurd rfl h
theorem kt_eq {k n : Int} (h : (Kt.int .u8).eq k n = true) : k = n := Kt.eq_iff.1 h
theorem kt_ne {k n : Int} (h : (Kt.int .u8).eq k n = false) : ¬ k = n := fun c => by rw [Kt.eq_iff.2 c] at h; cases h
theorem opW_2 {D : List Dat} {t : Tw} {l : List Vw} (h : t.kind = 2) : opW D t l = (numV (zV t.neg t.digits), rightZ t.neg t.digits) := by
 unfold opW; rw [h]; rfl
theorem opW_3 {D : List Dat} {t : Tw} {l : List Vw} (h : t.kind = 3) : opW D t l = (boolV true, true) := by
 unfold opW; rw [h]; rfl
theorem opW_4 {D : List Dat} {t : Tw} {l : List Vw} (h : t.kind = 4) : opW D t l = (boolV false, true) := by
 unfold opW; rw [h]; rfl
theorem opW_5 {D : List Dat} {t : Tw} {l : List Vw} (h : t.kind = 5) : opW D t l = (numV (sumW l 0), allV l 1) := by
 unfold opW; rw [h]; rfl
theorem opW_6 {D : List Dat} {t : Tw} {l : List Vw} (h : t.kind = 6) : opW D t l = (numV (prodW l 1 * zV t.neg t.digits), allV l 1 && rightZ t.neg t.digits) := by
 unfold opW; rw [h]; rfl
theorem opW_7 {D : List Dat} {t : Tw} {l : List Vw} (h : t.kind = 7) : opW D t l = appV D t l := by
 unfold opW; rw [h]; rfl
theorem opW_8 {D : List Dat} {t : Tw} {l : List Vw} (h : t.kind = 8) : opW D t l = (boolV (sameV (l.getD 0 Sh.vl.nil) (l.getD 1 Sh.vl.nil)), allV l 1 || allV l 3) := by
 unfold opW; rw [h]; rfl
theorem opW_9 {D : List Dat} {t : Tw} {l : List Vw} (h : t.kind = 9) : opW D t l = (boolV (decide (cmpI (zV (Vw.neg (l.getD 0 Sh.vl.nil)) (Vw.digits (l.getD 0 Sh.vl.nil))) (zV (Vw.neg (l.getD 1 Sh.vl.nil)) (Vw.digits (l.getD 1 Sh.vl.nil))) ≤ 0)), allV l 1) := by
 unfold opW; rw [h]; rfl
theorem opW_10 {D : List Dat} {t : Tw} {l : List Vw} (h : t.kind = 10) : opW D t l = (boolV (!Vw.truth (l.getD 0 Sh.vl.nil)), allV l 2) := by
 unfold opW; rw [h]; rfl
theorem opW_13 {D : List Dat} {t : Tw} {l : List Vw} (h : t.kind = 13) : opW D t l = (boolV (Vw.truth (l.getD 0 Sh.vl.nil) == Vw.truth (l.getD 1 Sh.vl.nil)), allV l 2) := by
 unfold opW; rw [h]; rfl
theorem opW_11 {D : List Dat} {t : Tw} {l : List Vw} (h : t.kind = 11) : opW D t l = (boolV (eachV l true), allV l 2) := by
 unfold opW; rw [h]; rfl
theorem opW_12 {D : List Dat} {t : Tw} {l : List Vw} (h : t.kind = 12) : opW D t l = (boolV (!eachV l false), allV l 2) := by
 unfold opW; rw [h]; rfl
theorem many_at {k : Int} (h : (manyM k).2 = true) (h12 : ¬ k = 12) (h11 : ¬ k = 11) (h13 : ¬ k = 13) (h10 : ¬ k = 10) (h9 : ¬ k = 9) (h8 : ¬ k = 8) (h7 : ¬ k = 7) (h6 : ¬ k = 6) (h5 : ¬ k = 5) (h4 : ¬ k = 4) (h3 : ¬ k = 3) (h2 : ¬ k = 2) (h1 : ¬ k = 1) : False := by
 have e : ∀ n : Int, ¬ k = n → (Kt.int .u8).eq k n = false := fun n hn => by
  cases hc : (Kt.int .u8).eq k n with
  | false => rfl
  | true => exact absurd (kt_eq hc) hn
 unfold manyM at h
 simp only [lookN, e 12 h12, e 11 h11, e 5 h5, e 13 h13, e 9 h9, e 8 h8, e 10 h10, e 7 h7, e 6 h6, e 4 h4, e 3 h3, e 2 h2, e 1 h1] at h
 cases h
theorem ktT {k n : Int} : ((Kt.int .u8).eq k n = true) = (k = n) := propext Kt.eq_iff
theorem ktF {k n : Int} : ((Kt.int .u8).eq k n = false) = ¬ k = n := propext ⟨kt_ne, fun h => by
 cases hc : (Kt.int .u8).eq k n with
 | false => rfl
 | true => exact absurd (kt_eq hc) h⟩
theorem bnd_mem {B : List Bnd} {i : Nat} (h : i < B.length) : B.getD i Sh.bnd.nil ∈ B := by
 rw [List.getD_eq_getElem?_getD, List.getElem?_eq_getElem h]
 exact List.getElem_mem h
theorem many_len {t : Tw} (hG : EvG t) {k : Int} {n : Nat} (h : t.kind = k) (hk : (manyM k).1 = (n : Int)) : t.kids.length = n := by
 have := hG.2.2 (by rw [h, hk]; omega)
 rw [h, hk] at this
 omega
theorem sizV_le {m : Nat} : ∀ {l : List Vw}, (∀ v ∈ l, v.digits.length ≤ m) → sizV l ≤ l.length * (m + 2)
 | [], _ => by simp [sizV]
 | v :: l, h => by
  have h1 := sizV_le (l := l) fun u hu => h u (by simp [hu])
  have h2 := h v (by simp)
  simp only [sizV, List.length_cons, Nat.add_mul, Nat.one_mul]
  simp only [Nat.mul_add] at h1 ⊢
  omega
end Go.Proofs.YtpjjdngoblfleaaGreat
