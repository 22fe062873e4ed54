/- What a term that has a sort comes to: a value of it. -/
import Derived.Test.YtpjjdngoblfleaaGreatMl
namespace Go.Proofs.YtpjjdngoblfleaaGreat
open Go.RowKit
set_option linter.unusedVariables false
set_option maxRecDepth 100000
theorem con_same (s : ByteArray) : ∀ (D : List Dat) (k : Nat), conD D s = (conM D s k).map fun p => ((D.getD (p.1 - k) Sh.dat.nil).name, ((D.getD (p.1 - k) Sh.dat.nil).cons).getD p.2 Sh.con.nil)
 | [], k => rfl
 | d :: D, k => by
  unfold conD conM
  rw [List.findSome?_cons]
  cases h : d.cons.findIdx? (fun c => decide (c.name = s)) with
  | none =>
   have hf : d.cons.find? (fun c => decide (c.name = s)) = none := by
    rw [List.findIdx?_eq_none_iff] at h
    rw [List.find?_eq_none]
    intro x hx
    rw [h x hx]; decide
   have hc : ¬ (0 : Int) ≤ conIx d.cons s := by
    unfold conIx anyB; rw [h]; decide
   rw [hf, if_neg hc]
   show conD D s = _
   rw [con_same s D (k + 1)]
   cases hm : conM D s (k + 1) with
   | none => rfl
   | some p =>
    obtain ⟨a, b⟩ := p
    obtain ⟨h1, h2, -⟩ := conM_in hm
    show some _ = some _
    have e : a - k = (a - (k + 1)) + 1 := by omega
    dsimp only
    rw [e, List.getD_cons_succ]
  | some i =>
   have hc : conIx d.cons s = i := by unfold conIx anyB; rw [h]
   obtain ⟨hi, h1, h2⟩ := List.findIdx?_eq_some_iff_getElem.1 h
   have hf : d.cons.find? (fun c => decide (c.name = s)) = some d.cons[i] := by
    rw [List.find?_eq_some_iff_getElem]
    exact ⟨h1, i, hi, rfl, fun j hj => by simpa using h2 j hj⟩
   rw [hf, if_pos (by rw [hc]; omega), hc]
   show some _ = some _
   dsimp only
   rw [Nat.sub_self, List.getD_cons_zero, Int.toNat_natCast, List.getD_eq_getElem?_getD, List.getElem?_eq_getElem hi]
   rfl
theorem field_same {D : List Dat} {s u v : ByteArray} (ht : ¬ s = bTag) (h : funD D s = some (u, v)) :
  (fieldM D s).2.2 = true ∧ Dat.name (D.getD (fieldM D s).1.1 Sh.dat.nil) = u ∧ (fldsM D (fieldM D s).1).getD (fieldM D s).2.1.toNat Sh.str.nil = v := by
 unfold funD at h
 rw [if_neg ht] at h
 split at h
 · cases h
 rename_i h2
 split at h
 · cases h
 rename_i h3
 have hb : byN s (s.size - 2) = 46 := Classical.byContradiction fun c => h3 (.inl c)
 have hd1 : ¬ byN s (s.size - 1) < 48 := fun c => h3 (.inr (.inl c))
 have hd2 : ¬ 57 < byN s (s.size - 1) := fun c => h3 (.inr (.inr c))
 have hl : lastTo s 46 s.size = (s.size : Int) - 2 := by
  rw [lastTo_miss (by omega) (by unfold byN at hd1; omega), lastTo_hit (by omega) (by
   have : s.size - 1 - 1 = s.size - 2 := by omega
   rw [this]; unfold byN at hb; omega)]
  omega
 have ha : atS s (lastTo s 46 s.size + 1) = byN s (s.size - 1) := by
  rw [hl]; unfold atS byN
  have : ((s.size : Int) - 2 + 1).toNat = s.size - 1 := by omega
  rw [this]
 have hcut : cutS s (lastTo s 46 s.size) = s.extract 0 (s.size - 2) := by
  rw [hl]; unfold cutS
  have : ((s.size : Int) - 2).toNat = s.size - 2 := by omega
  rw [this]
 have hfm := fieldM_is (D := D) (s := s) (by omega) (by omega) (by rw [ha]; omega) (by rw [ha]; omega)
 rw [ha, hcut] at hfm
 rw [con_same (s.extract 0 (s.size - 2)) D 0] at h
 cases hc : conM D (s.extract 0 (s.size - 2)) 0 with
 | none => rw [hc] at h; cases h
 | some p =>
  rw [hc] at h hfm
  simp only [Option.map_some, Nat.sub_zero] at h
  split at h
  · rename_i hlt
    cases h
    have e : ((byN s (s.size - 1) : Int) - 48).toNat = byN s (s.size - 1) - 48 := by omega
    rw [hfm]
    refine ⟨?_, rfl, ?_⟩
    · simp only [Option.isSome_some, Option.getD_some, Bool.true_and, decide_eq_true_eq]
      unfold fldsM; omega
    · simp only [Option.getD_some]
      rw [e]; rfl
  · cases h
theorem int_bool : ¬ bInt = bBool := by decide
theorem dataB_int (D : List Dat) : dataB D bInt = false := by unfold dataB; rw [decide_eq_true rfl]; rfl
theorem dataB_bool (D : List Dat) : dataB D bBool = false := by unfold dataB; rw [decide_eq_true (rfl : bBool = bBool)]; simp
section
variable {D : List Dat} {v : Vw} {s : ByteArray}
theorem of_int (h : ofV D bInt v = true) : v.kind = 1 := by
 rw [ofV_eq, Bool.and_eq_true] at h
 obtain ⟨-, h⟩ := h
 by_cases h1 : v.kind = 1
 · exact h1
 · rw [if_neg h1] at h
   by_cases h2 : v.kind = 2
   · rw [if_pos h2, decide_eq_true_eq] at h; exact absurd h int_bool
   · rw [if_neg h2] at h
     by_cases h3 : v.kind = 3
     · rw [if_pos h3, dataB_int] at h; cases h
     · rw [if_neg h3] at h; cases h
theorem of_bool (h : ofV D bBool v = true) : v.kind = 2 := by
 rw [ofV_eq, Bool.and_eq_true] at h
 obtain ⟨-, h⟩ := h
 by_cases h1 : v.kind = 1
 · rw [if_pos h1, Bool.and_eq_true, decide_eq_true_eq] at h; exact absurd h.1.symm int_bool
 · rw [if_neg h1] at h
   by_cases h2 : v.kind = 2
   · exact h2
   · rw [if_neg h2] at h
     by_cases h3 : v.kind = 3
     · rw [if_pos h3, dataB_bool] at h; cases h
     · rw [if_neg h3] at h; cases h
theorem of_data (hi : ¬ s = bInt) (hb : ¬ s = bBool) (h : ofV D s v = true) : v.kind = 3 := by
 rw [ofV_eq, Bool.and_eq_true] at h
 obtain ⟨-, h⟩ := h
 by_cases h1 : v.kind = 1
 · rw [if_pos h1, Bool.and_eq_true, decide_eq_true_eq] at h; exact absurd h.1 hi
 · rw [if_neg h1] at h
   by_cases h2 : v.kind = 2
   · rw [if_pos h2, decide_eq_true_eq] at h; exact absurd h hb
   · rw [if_neg h2] at h
     by_cases h3 : v.kind = 3
     · exact h3
     · rw [if_neg h3] at h; cases h
theorem numV_of (D : List Dat) (z : Int) : ofV D bInt (numV z) = true := by
 rw [ofV_eq, if_pos (show (numV z).kind = 1 from rfl), decide_eq_true (rfl : bInt = bInt)]
 exact (Bool.and_eq_true _ _).mpr ⟨rfl, (Bool.and_eq_true _ _).mpr ⟨rfl, rightZ_of z⟩⟩
theorem boolV_of (D : List Dat) (b : Bool) : ofV D bBool (boolV b) = true := by
 rw [ofV_eq]; rfl
theorem nilV_of (h : dataB D s = true) : ofV D s nilV = true := by
 rw [ofV_eq]
 show (noneB nilV && (dataB D s && _)) = true
 rw [h]; rfl
theorem anyB_of {α : Type} {l : List α} {f : α → Bool} {x : α} (hx : x ∈ l) (h : f x = true) : 0 ≤ anyB l f := by
 unfold anyB
 cases hc : l.findIdx? f with
 | none =>
  rw [List.findIdx?_eq_none_iff] at hc
  rw [hc x hx] at h; cases h
 | some i => exact Int.natCast_nonneg i
theorem some_of (hb : baseB D s = true) (h : ofV D s v = true) : someV D v = true := by
 unfold baseB at hb
 unfold someV
 simp only [Bool.or_eq_true, decide_eq_true_eq] at hb ⊢
 rcases hb with rfl | rfl | hb
 · exact .inl h
 · exact .inr (.inl h)
 · refine .inr (.inr ?_)
   unfold dataB at hb
   simp only [Bool.and_eq_true, decide_eq_true_eq] at hb
   obtain ⟨d, hd, he⟩ := anyB_get hb.2.2
   have he : d.name = s := by simpa using he
   exact anyB_of hd (by rw [he]; exact h)
end
def bndOf (S : List Srt) (V : List Vw) : List Bnd := (S.zip V).map fun p => ⟨p.1.name, p.2⟩
theorem bndOf_len (S : List Srt) (V : List Vw) (h : V.length = S.length) : (bndOf S V).length = S.length := by
 unfold bndOf; simp; omega
theorem bndOf_at {S : List Srt} {V : List Vw} (h : V.length = S.length) {i : Nat} (hi : i < S.length) : (bndOf S V).getD i Sh.bnd.nil = ⟨(S.getD i Sh.srt.nil).name, V.getD i Sh.vl.nil⟩ := by
 unfold bndOf
 rw [List.getD_eq_getElem?_getD, List.getElem?_map, List.getElem?_eq_getElem (by simp; omega), List.getElem_zip, List.getD_eq_getElem?_getD, List.getElem?_eq_getElem hi, List.getD_eq_getElem?_getD, List.getElem?_eq_getElem (by omega)]
 rfl
theorem manyM_kids {k : Int} (h : ¬ kidsN k = -2) : manyM k = (kidsN k, true) := by
 unfold kidsN at h ⊢
 split
 · rename_i h1; rcases h1 with rfl | rfl | rfl | rfl <;> decide
 · rename_i h1; rw [if_neg h1] at h
   split
   · rename_i h2; rcases h2 with rfl | rfl | rfl <;> decide
   · rename_i h2; rw [if_neg h2] at h
     split
     · rename_i h3; rcases h3 with rfl | rfl | rfl <;> decide
     · rename_i h3; rw [if_neg h3] at h
       split
       · rename_i h4; rcases h4 with rfl | rfl | rfl <;> decide
       · rename_i h4; rw [if_neg h4] at h; exact absurd rfl h
theorem kidsN_cases {k : Int} (h : ¬ kidsN k = -2) : k = 1 ∨ k = 2 ∨ k = 3 ∨ k = 4 ∨ k = 5 ∨ k = 6 ∨ k = 7 ∨ k = 8 ∨ k = 9 ∨ k = 10 ∨ k = 11 ∨ k = 12 ∨ k = 13 := by
 unfold kidsN at h
 split at h
 · omega
 · split at h
   · omega
   · split at h
     · omega
     · split at h
       · omega
       · exact absurd rfl h
def OfL (D : List Dat) : List ByteArray → List Vw → Prop
 | [], [] => True
 | s :: m, v :: l => ofV D s v = true ∧ OfL D m l
 | _, _ => False
theorem OfL.len {D : List Dat} : ∀ {m : List ByteArray} {l : List Vw}, OfL D m l → l.length = m.length
 | [], [], _ => rfl
 | _ :: _, _ :: _, h => by simp [h.2.len]
theorem OfL.all {D : List Dat} {s : ByteArray} : ∀ {m : List ByteArray} {l : List Vw}, OfL D m l → allEq m s = true → ∀ v ∈ l, ofV D s v = true
 | [], [], _, _, v, hv => by cases hv
 | x :: m, u :: l, h, ha, v, hv => by
  unfold allEq at ha
  rw [List.all_cons, Bool.and_eq_true, decide_eq_true_eq] at ha
  rcases List.mem_cons.1 hv with rfl | hv
  · rw [← ha.1]; exact h.1
  · exact h.2.all (show allEq m s = true from ha.2) v hv
theorem OfL.at {D : List Dat} : ∀ {m : List ByteArray} {l : List Vw} {i : Nat}, OfL D m l → i < m.length → ofV D (m.getD i ⟨#[]⟩) (l.getD i Sh.vl.nil) = true
 | x :: m, u :: l, 0, h, _ => h.1
 | x :: m, u :: l, i + 1, h, hi => by
  rw [List.getD_cons_succ, List.getD_cons_succ]
  exact h.2.at (by simpa using hi)
theorem ofVL_get {D : List Dat} : ∀ {m : List ByteArray} {l : List Vw} {i : Nat}, ofVL D m l = true → i < m.length → i < l.length → ofV D (m.getD i ⟨#[]⟩) (l.getD i Sh.vl.nil) = true
 | x :: m, u :: l, 0, h, _, _ => by rw [ofVL, Bool.and_eq_true] at h; exact h.1
 | x :: m, u :: l, i + 1, h, hi, hl => by
  rw [ofVL, Bool.and_eq_true] at h
  rw [List.getD_cons_succ, List.getD_cons_succ]
  exact ofVL_get h.2 (by simpa using hi) (by simpa using hl)
section
variable {D : List Dat} {S : List Srt} {V : List Vw}
theorem var_sound (hl : V.length = S.length) (hV : ∀ i, i < S.length → ofV D (Srt.sort (S.getD i Sh.srt.nil)) (V.getD i Sh.vl.nil) = true) (nm s : ByteArray) :
  ∀ i, i ≤ S.length → varS D (S.take i) nm = .ok s → ∃ v, varE D nm ((bndOf S V).take i) = .ok v ∧ ofV D s v = true
 | 0, _, h => by cases h
 | i + 1, hi, h => by
  have hb : i < (bndOf S V).length := by rw [bndOf_len S V hl]; omega
  rw [varS_snoc D Sh.srt.nil (by omega)] at h
  rw [varE_snoc D nm Sh.bnd.nil hb, bndOf_at hl (by omega)]
  by_cases hn : (S.getD i Sh.srt.nil).name = nm
  · rw [if_pos hn] at h ⊢
    split at h
    · rename_i hbase
      cases h
      rw [if_pos (some_of hbase (hV i (by omega)))]
      exact ⟨_, rfl, hV i (by omega)⟩
    · cases h
  · rw [if_neg hn] at h ⊢
    exact var_sound hl hV nm s i (by omega) h
theorem app_sound {t : Tw} {l : List Vw} {w : Vw} {u s : ByteArray} (hl : l = [w]) (hw : ofV D u w = true) (h : funS D t.name u = .ok s) : (appV D t l).2 = true ∧ ofV D s (appV D t l).1 = true := by
 unfold funS at h
 cases hf : funD D t.name with
 | none => rw [hf] at h; cases h
 | some p =>
  obtain ⟨a, b⟩ := p
  rw [hf] at h
  dsimp only at h
  split at h
  · rename_i hc
    cases h
    simp only [Bool.and_eq_true, Bool.or_eq_true, decide_eq_true_eq] at hc
    obtain ⟨hd, ha, hbase⟩ := hc
    have hui : ¬ u = bInt := fun e => by rw [e, dataB_int] at hd; cases hd
    have hub : ¬ u = bBool := fun e => by rw [e, dataB_bool] at hd; cases hd
    have hk := of_data hui hub hw
    have h3 : allV l 3 = true := by rw [hl]; exact allV_iff.2 fun x hx => by simp at hx; rw [hx]; exact hk
    have e0 : l.getD 0 Sh.vl.nil = w := by rw [hl]; rfl
    have hw' := hw
    rw [ofV_eq, Bool.and_eq_true, if_neg (by omega), if_neg (by omega), if_pos hk, Bool.and_eq_true] at hw'
    obtain ⟨-, -, hw'⟩ := hw'
    have hcon : ¬ w.name = ⟨#[]⟩ → ∃ p, conM D w.name 0 = some p ∧ (D.getD p.1 Sh.dat.nil).name = u ∧ (fldsM D p).length = w.fields.length ∧ ofVL D (fldsM D p) w.fields = true := by
     intro hn
     rw [if_neg hn] at hw'
     split at hw'
     · cases hw'
     · rename_i p hp
       simp only [Bool.and_eq_true, decide_eq_true_eq] at hw'
       exact ⟨p, hp, hw'.1, hw'.2.1, hw'.2.2⟩
    by_cases ht : t.name = bTag
    · have hfi : s = bInt := by
       unfold funD at hf
       rw [if_pos ht] at hf
       cases hf; rfl
      subst hfi
      by_cases hn : w.name = ⟨#[]⟩
      · rw [appV_tag0 h3 ht (by rw [e0]; exact hn)]
        exact ⟨rfl, numV_of D _⟩
      · obtain ⟨p, hp, -⟩ := hcon hn
        rw [appV_tag h3 ht (by rw [e0]; exact hn), e0, hp]
        exact ⟨rfl, numV_of D _⟩
    · obtain ⟨g1, g2, g3⟩ := field_same ht hf
      have hua : a = u := ha.resolve_left ht
      have hzero : ofV D s (if (zeroW ((fldsM D (fieldM D t.name).1).getD (fieldM D t.name).2.1.toNat Sh.str.nil)).kind = 0 then nilV else zeroW ((fldsM D (fieldM D t.name).1).getD (fieldM D t.name).2.1.toNat Sh.str.nil)) = true := by
       rw [g3]
       unfold baseB at hbase
       simp only [Bool.or_eq_true, decide_eq_true_eq] at hbase
       rcases hbase with rfl | rfl | hbase
       · exact numV_of D 0
       · exact boolV_of D false
       · have h1 : ¬ s = bInt := fun e => by rw [e, dataB_int] at hbase; cases hbase
         have h2 : ¬ s = bBool := fun e => by rw [e, dataB_bool] at hbase; cases hbase
         unfold zeroW
         rw [if_neg h2, if_neg h1]
         exact nilV_of hbase
      by_cases hn : w.name = ⟨#[]⟩
      · rw [appV_zero h3 ht g1 (.inl (by rw [e0]; exact hn))]
        exact ⟨rfl, hzero⟩
      · obtain ⟨p, hp, hpn, hlen, hof⟩ := hcon hn
        have hpe : (conM D (Vw.name (l.getD 0 Sh.vl.nil)) 0).getD (0, 0) = p := by rw [e0, hp]; rfl
        have h4 : Dat.name (D.getD ((conM D (Vw.name (l.getD 0 Sh.vl.nil)) 0).getD (0, 0)).1 Sh.dat.nil) = Dat.name (D.getD (fieldM D t.name).1.1 Sh.dat.nil) := by rw [hpe, g2, hua]; exact hpn
        by_cases h5 : (conM D (Vw.name (l.getD 0 Sh.vl.nil)) 0).getD (0, 0) = (fieldM D t.name).1
        · rw [appV_own h3 ht g1 (by rw [e0]; exact hn) h4 h5]
          refine ⟨rfl, ?_⟩
          rw [hpe] at h5
          obtain ⟨-, -, f3, f4⟩ := fieldM_ok g1
          rw [h5] at hlen hof
          have := ofVL_get (i := (fieldM D t.name).2.1.toNat) hof (by omega) (by omega)
          rw [e0]
          have e1 : (fldsM D (fieldM D t.name).1).getD (fieldM D t.name).2.1.toNat ⟨#[]⟩ = s := g3
          rw [e1] at this
          exact this
        · rw [appV_zero h3 ht g1 (.inr ⟨h4, h5⟩)]
          exact ⟨rfl, hzero⟩
  · cases h
theorem ite_ok {c : Prop} [Decidable c] {a s : ByteArray} {e : Int} (h : (if c then Except.ok a else Except.error e) = Except.ok s) : c ∧ a = s := by
 split at h
 · rename_i hc; cases h; exact ⟨hc, rfl⟩
 · cases h
theorem op_sound {t : Tw} {m : List ByteArray} {l : List Vw} {s : ByteArray} (hk : ¬ kidsN t.kind = -2) (h1 : ¬ t.kind = 1) (hn : kidsN t.kind < 0 ∨ kidsN t.kind = m.length) (hr : ¬ ((t.kind = 2 ∨ t.kind = 6) ∧ rightZ t.neg t.digits = false)) (hof : OfL D m l) (h : partS D t.kind t.name m = .ok s) :
  (opW D t l).2 = true ∧ ofV D s (opW D t l).1 = true := by
 have hlen := hof.len
 have hints : allEq m bInt = true → allV l 1 = true := fun ha => allV_iff.2 fun v hv => of_int (hof.all ha v hv)
 have hbools : allEq m bBool = true → allV l 2 = true := fun ha => allV_iff.2 fun v hv => of_bool (hof.all ha v hv)
 have hright : (t.kind = 2 ∨ t.kind = 6) → rightZ t.neg t.digits = true := fun hc => by
  cases hq : rightZ t.neg t.digits with
  | true => rfl
  | false => exact absurd ⟨hc, hq⟩ hr
 unfold partS at h
 rcases kidsN_cases hk with e | e | e | e | e | e | e | e | e | e | e | e | e
 · exact absurd e h1
 · rw [e] at h; cases h
   rw [opW_2 e]; exact ⟨hright (.inl e), numV_of D _⟩
 · rw [e] at h
   simp at h
   have h := ite_ok h
   rw [opW_3 e, ← h.2]; exact ⟨rfl, boolV_of D _⟩
 · rw [e] at h
   simp at h
   have h := ite_ok h
   rw [opW_4 e, ← h.2]; exact ⟨rfl, boolV_of D _⟩
 · rw [e] at h
   simp at h
   have h := ite_ok h
   rw [opW_5 e, ← h.2]; exact ⟨hints h.1, numV_of D _⟩
 · rw [e] at h
   simp at h
   have h := ite_ok h
   rw [opW_6 e, ← h.2]
   exact ⟨by rw [hints h.1, hright (.inr e)]; rfl, numV_of D _⟩
 · rw [e] at h
   have h : funS D t.name (m.getD 0 ⟨#[]⟩) = .ok s := by simpa using h
   have hm : m.length = 1 := by
    rw [e] at hn
    have : kidsN 7 = 1 := by decide
    omega
   match m, l, hlen, hof, hm with
   | [u], [w], _, hof, _ =>
    rw [opW_7 e]
    exact app_sound rfl hof.1 h
 · rw [e] at h
   have hm : m.length = 2 := by
    rw [e] at hn
    have : kidsN 8 = 2 := by decide
    omega
   match m, l, hlen, hof, hm with
   | [a, b], [v, w], _, hof, _ =>
    simp at h
    obtain ⟨⟨ha, hb⟩, hs⟩ := ite_ok h
    subst ha
    rw [opW_8 e, ← hs]
    refine ⟨?_, boolV_of D _⟩
    by_cases hi : a = bInt
    · subst hi
      rw [show allV [v, w] 1 = true from allV_iff.2 fun x hx => by
       simp at hx
       rcases hx with rfl | rfl
       · exact of_int hof.1
       · exact of_int hof.2.1]
      rfl
    · rw [show allV [v, w] 3 = true from allV_iff.2 fun x hx => by
       simp at hx
       rcases hx with rfl | rfl
       · exact of_data hi hb hof.1
       · exact of_data hi hb hof.2.1]
      simp
 · rw [e] at h
   simp at h
   have h := ite_ok h
   rw [opW_9 e, ← h.2]; exact ⟨hints h.1, boolV_of D _⟩
 · rw [e] at h
   simp at h
   have h := ite_ok h
   rw [opW_10 e, ← h.2]; exact ⟨hbools h.1, boolV_of D _⟩
 · rw [e] at h
   simp at h
   have h := ite_ok h
   rw [opW_11 e, ← h.2]; exact ⟨hbools h.1, boolV_of D _⟩
 · rw [e] at h
   simp at h
   have h := ite_ok h
   rw [opW_12 e, ← h.2]; exact ⟨hbools h.1, boolV_of D _⟩
 · rw [e] at h
   simp at h
   have h := ite_ok h
   rw [opW_13 e, ← h.2]; exact ⟨hbools h.1, boolV_of D _⟩
theorem sortL_sz : ∀ {l : List Tw} {m : List ByteArray}, sortL D S l = .ok m → m.length = l.length
 | [], m, h => by rw [sortL] at h; cases h; rfl
 | t :: l, m, h => by
  rw [sortL] at h
  split at h
  · split at h
    · rename_i hm
      cases h
      simp [sortL_sz hm]
    · cases h
  · cases h
mutual
theorem ev_sound (hl : V.length = S.length) (hV : ∀ i, i < S.length → ofV D (Srt.sort (S.getD i Sh.srt.nil)) (V.getD i Sh.vl.nil) = true) : ∀ {t : Tw} {s : ByteArray}, sortT D S t = .ok s → ∃ v, evalT D (bndOf S V) t = .ok v ∧ ofV D s v = true
 | .mk k nm neg dg kids, s, h => by
  rw [sortT] at h
  split at h
  · cases h
  rename_i hk
  split at h
  · cases h
  rename_i hn
  have hn : kidsN k < 0 ∨ kidsN k = kids.length := Classical.byContradiction hn
  split at h
  · cases h
  rename_i hr
  have hm := manyM_kids hk
  split at h
  · rename_i h1
    have h0 : kids.length = 0 := by
     rw [h1] at hn
     have : kidsN 1 = 0 := by decide
     omega
    rw [ev_var (t := .mk k nm neg dg kids) h1 h0]
    have := var_sound hl hV nm s S.length (Nat.le_refl _) (by rw [List.take_length]; exact h)
    rw [show S.length = (bndOf S V).length from (bndOf_len S V hl).symm, List.take_length] at this
    exact this
  · rename_i h1
    split at h
    · rename_i m hm'
      obtain ⟨l, hev, hof⟩ := evL_sound hl hV hm'
      have hG : EvG (.mk k nm neg dg kids) := ⟨fun c => h1 c.1, by show (manyM k).2 = true; rw [hm], fun h0 => by
       have h0 : 0 ≤ (manyM k).1 := h0
       show (kids.length : Int) = (manyM k).1
       rw [hm] at h0 ⊢
       exact (hn.resolve_left (by dsimp only at h0; omega)).symm⟩
      obtain ⟨o1, o2⟩ := op_sound (t := .mk k nm neg dg kids) hk h1 (by rw [sortL_sz hm']; exact hn) hr hof h
      exact ⟨_, ev_ok hG hev (Prod.ext rfl o1), o2⟩
    · cases h
theorem evL_sound (hl : V.length = S.length) (hV : ∀ i, i < S.length → ofV D (Srt.sort (S.getD i Sh.srt.nil)) (V.getD i Sh.vl.nil) = true) : ∀ {l : List Tw} {m : List ByteArray}, sortL D S l = .ok m → ∃ vs, evalL D (bndOf S V) l = .ok vs ∧ OfL D m vs
 | [], m, h => by rw [sortL] at h; cases h; exact ⟨[], by rw [evalL], trivial⟩
 | t :: l, m, h => by
  rw [sortL] at h
  split at h
  · rename_i s hs
    split at h
    · rename_i m' hm
      cases h
      obtain ⟨v, h1, h2⟩ := ev_sound hl hV hs
      obtain ⟨vs, h3, h4⟩ := evL_sound hl hV hm
      exact ⟨v :: vs, by rw [evalL, h1, h3], h2, h4⟩
    · cases h
  · cases h
end
end
end Go.Proofs.YtpjjdngoblfleaaGreat
