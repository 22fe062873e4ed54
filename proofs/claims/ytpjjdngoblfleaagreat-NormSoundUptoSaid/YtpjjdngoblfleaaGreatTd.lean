/- The layer term: a term's sort. -/
import Derived.Test.YtpjjdngoblfleaaGreatTc
namespace Go.Proofs.YtpjjdngoblfleaaGreat
open Go.RowKit
set_option linter.unusedVariables false
set_option maxRecDepth 100000
def tmP (t:Tw):PV:=.agg (wrapF (tmC t))
def tmOf:PV→Option Tw
 | .agg l=>match leafs l with
  | some m=>toTm m
  | none=>none
 | _=>none
theorem wrapF_at:∀ (l:List Lf) (i:Nat),(wrapF l)[i]?=(l[i]?).map PV.f
 | [],i=>by simp [wrapF]
 | x::l,0=>by simp [wrapF]
 | x::l,i+1=>by simp [wrapF,wrapF_at l i]
theorem wrapF_len:∀ (l:List Lf),(wrapF l).length=l.length
 | []=>rfl
 | x::l=>by simp [wrapF,wrapF_len l]
theorem tm_sub {x:PV} {t:Tw} (h:tmOf x=some t):SubB x (tmP t):=by
 unfold tmOf at h
 split at h
 · rename_i l
   split at h
   · rename_i m hm
     have hs:=toTm_sub h
     obtain ⟨h1,h2⟩:=leafs_at hm
     refine ⟨fun H B v hv=>?_⟩
     obtain ⟨vs,rfl,h3⟩:=PRs.of_agg hv
     refine PRs.agg ⟨by rw [h3.1,← h1,wrapF_len,hs.len],fun i u y hu hy=>?_⟩
     rw [wrapF_at] at hy
     cases hc:(tmC t)[i]? with
     | none=>rw [hc] at hy; cases hy
     | some z =>
      rw [hc] at hy
      cases hy
      obtain ⟨x,h4,h5⟩:=hs.at hc
      exact .f (h5 _ _ (h3.2 i u _ hu (h2 i x h4)).rd)
   · cases h
 · cases h
mutual
def Tw.fitT:Tw→Prop
 | .mk _ n _ d l=>n.size≤4611686018427387904∧d.length≤40000000∧l.length≤100000000∧fitTL l
def fitTL:List Tw→Prop
 | []=>True
 | t::l=>t.fitT∧fitTL l
end
theorem fitTL_at:∀ {l:List Tw} {i:Nat} (d:Tw),fitTL l→i<l.length→(l.getD i d).fitT
 | t::l,0,d,h,_=>h.1
 | t::l,i+1,d,h,hi=>by simpa using fitTL_at (l:=l) d h.2 (by simpa using hi)
theorem Tw.fitT_eq (t:Tw):t.fitT↔t.name.size≤4611686018427387904∧t.digits.length≤40000000∧t.kids.length≤100000000∧fitTL t.kids:=by cases t; rfl
theorem sortL_snoc (D:List Dat) (S:List Srt):∀ (l:List Tw) (t:Tw),sortL D S (l++[t])=match sortL D S l with
  | .ok m=>(match sortT D S t with | .ok s=>.ok (m++[s]) | .error e=>.error e)
  | .error e=>.error e
 | [],t=>by
  simp only [List.nil_append,sortL]
  cases sortT D S t <;> rfl
 | x::l,t=>by
  simp only [List.cons_append,sortL,sortL_snoc D S l t]
  cases sortT D S x with
  | error e=>rfl
  | ok s =>
   dsimp only
   cases sortL D S l with
   | error e=>rfl
   | ok m=>cases sortT D S t <;> rfl
theorem sortL_stop (D:List Dat) (S:List Srt) {e:Int}:∀ (l m:List Tw),sortL D S l=.error e→sortL D S (l++m)=.error e
 | [],m,h=>by cases h
 | x::l,m,h=>by
  simp only [sortL] at h
  simp only [List.cons_append,sortL]
  cases hx:sortT D S x with
  | error e'=>rw [hx] at h; exact h
  | ok s =>
   rw [hx] at h
   dsimp only at h ⊢
   cases hl:sortL D S l with
   | error e' =>
    rw [hl] at h
    rw [sortL_stop D S l m hl]
    exact h
   | ok y=>rw [hl] at h; cases h
theorem sortL_len (D:List Dat) (S:List Srt):∀ {l:List Tw} {m:List ByteArray},sortL D S l=.ok m→m.length=l.length
 | [],m,h=>by cases h; rfl
 | t::l,m,h=>by
  simp only [sortL] at h
  cases ht:sortT D S t with
  | error e=>rw [ht] at h; cases h
  | ok s =>
   rw [ht] at h
   dsimp only at h
   cases hl:sortL D S l with
   | error e=>rw [hl] at h; cases h
   | ok k =>
    rw [hl] at h
    cases h
    simp [sortL_len D S hl]
theorem sortT_eq (D:List Dat) (S:List Srt) (t:Tw):sortT D S t=if kidsN t.kind=-2 then .error 23
  else if ¬ (kidsN t.kind<0∨kidsN t.kind=t.kids.length) then .error 24
  else if (t.kind=2∨t.kind=6)∧rightZ t.neg t.digits=false then .error 23
  else if t.kind=1 then varS D S t.name
  else match sortL D S t.kids with
   | .ok l=>partS D t.kind t.name l
   | .error e=>.error e:=by
 cases t; rw [sortT]; rfl
theorem sort_kid {D:List Dat} {S:List Srt} {t:Tw} (h:kidsN t.kind≠-2∧(kidsN t.kind<0∨kidsN t.kind=t.kids.length)∧¬ ((t.kind=2∨t.kind=6)∧rightZ t.neg t.digits=false)):sortT D S t=if t.kind=1 then varS D S t.name
  else match sortL D S t.kids with
   | .ok l=>partS D t.kind t.name l
   | .error e=>.error e:=by
 rw [sortT_eq,if_neg h.1,if_neg (fun hc=>hc h.2.1),if_neg h.2.2]
theorem sort_part {D:List Dat} {S:List Srt} {t:Tw} (h:kidsN t.kind≠-2∧(kidsN t.kind<0∨kidsN t.kind=t.kids.length)∧¬ ((t.kind=2∨t.kind=6)∧rightZ t.neg t.digits=false)) (h1:t.kind≠1) {i:Nat} {l:List ByteArray} (hl:i≤t.kids.length∧sortL D S (t.kids.take i)=.ok l) (hi:¬ (i:Int)<t.kids.length):sortT D S t=partS D t.kind t.name l:=by
 have hx:=hl.2
 rw [List.take_of_length_le (by omega)] at hx
 rw [sort_kid h,if_neg h1,hx]
theorem sort_stop {D:List Dat} {S:List Srt} {t:Tw} (h:kidsN t.kind≠-2∧(kidsN t.kind<0∨kidsN t.kind=t.kids.length)∧¬ ((t.kind=2∨t.kind=6)∧rightZ t.neg t.digits=false)) (h1:t.kind≠1) {i:Nat} (hi:i<t.kids.length) {d:Tw} {l:List ByteArray} (hl:sortL D S (t.kids.take i)=.ok l) {e:Int} (he:sortT D S (t.kids.getD i d)=.error e):sortT D S t=.error e:=by
 have hx:sortL D S (t.kids.take (i+1))=.error e:=by
  rw [List.take_add_one,List.getElem?_eq_getElem hi,Option.toList_some,sortL_snoc,hl]
  rw [List.getD_eq_getElem?_getD,List.getElem?_eq_getElem hi,Option.getD_some] at he
  rw [he]
 have hy:=sortL_stop D S _ (t.kids.drop (i+1)) hx
 rw [List.take_append_drop] at hy
 rw [sort_kid h,if_neg h1,hy]
theorem sEnd_ok {p:Prop} {D:List Dat} {S:List Srt} {t:Tw} {s:ByteArray} {y:PV} {ob r:List PO} (h:sortT D S t=.ok s) (hy:y=sV s) (hob:ob=soO D S++r):EndU 1 (Out.need p (outE ⟨#[]⟩ sV (sortT D S t) (soO D S))).fin true y ob:=by
 subst hy hob
 exact endU_need (endU (ob:=soO D S) (outE_ok h) (.refl _) rfl rfl (r:=r) rfl)
theorem sEnd_err {p:Prop} {D:List Dat} {S:List Srt} {t:Tw} {e:Int} {y:PV} {ob r:List PO} (h:sortT D S t=.error e) (hy:y=eP e) (hob:ob=soO D S++r):EndU 1 (Out.need p (outE ⟨#[]⟩ sV (sortT D S t) (soO D S))).fin false y ob:=by
 subst hy hob
 exact endU_need (endU (ob:=soO D S) (outE_err h) (.refl _) rfl rfl (r:=r) rfl)
theorem valE_ok {α:Type} {d:α} {e:Except Int α} (h:okE e=true):e=.ok (valE d e):=by cases e <;> first | rfl | cases h
theorem errE_no {α:Type} {e:Except Int α} (h:okE e=false):e=.error (errE e):=by cases e <;> first | rfl | cases h
theorem getD_any {α:Type} {l:List α} {i:Nat} (h:i<l.length) (a b:α):l.getD i a=l.getD i b:=by
 rw [List.getD_eq_getElem?_getD,List.getD_eq_getElem?_getD,List.getElem?_eq_getElem h]; rfl
def sSortN (n:Nat):Spec2
 | [.bp 0 0,x],[.cells [.f (.dt .dat D),.f (.dt .srt S)]]=>match tmOf x with
  | some t=>some (.need (t.size<n∧t.fitT) (outE ⟨#[]⟩ sV (sortT D S t) (soO D S)))
  | none=>none
 | _,_=>none
theorem cSortN {E:Env} (hU:Up E):∀ n,Contract2 Tryz.prog E 36 (sSortN n)
 | 0=>by
  intro xs ob o hs hok
  unfold sSortN at hs
  split at hs
  · split at hs
    · cases hs
      exact absurd hok.1.1 (Nat.not_lt_zero _)
    · cases hs
  · cases hs
 | n+1=>by
  refine contract2 [(65,sRight)] [(72,sKids),(73,sMust),(74,sVar),(36,sSortN n),(75,sAll),(76,sApp)] Tryz.ntmps36 Tryz.func36 (by kernel_rfl) (by kernel_rfl) hU ⟨cRight hU,trivial⟩ ⟨cKids hU,cMust hU,cVar hU,cSortN hU n,cAll hU,cApp hU,trivial⟩ ?_
  intro xs ob o hs hok
  unfold sSortN at hs
  split at hs
  · rename_i x D S
    split at hs
    · rename_i t ht
      cases hs
      obtain ⟨⟨hn,hfit⟩,-⟩:=hok
      refine ⟨[.bp 0 0,tmP t],[(1000003,.s ⟨Unit,fun _=>⟨[(0,.bp 0 0),(3,.bp 1 0)],[.cells [.f (.dt .dat D),.f (.dt .srt S)],.cells (wrapF (tmC t))]⟩,fun _=>kidsN t.kind≠-2∧(kidsN t.kind<0∨kidsN t.kind=t.kids.length),fun _=>0⟩),
       (1000004,.s ⟨Unit,fun _=>⟨[(0,.bp 0 0),(3,.bp 1 0)],[.cells [.f (.dt .dat D),.f (.dt .srt S)],.cells (wrapF (tmC t))]⟩,fun _=>kidsN t.kind≠-2∧(kidsN t.kind<0∨kidsN t.kind=t.kids.length)∧¬ ((t.kind=2∨t.kind=6)∧rightZ t.neg t.digits=false),fun _=>0⟩),
       (8,.s ⟨Nat × List ByteArray,fun x=>⟨[(0,.bp 0 0),(3,.bp 1 0),(6,.tl 2 (.dt .str x.2)),(44,.f (.dt .tm t.kids)),(45,iV t.kids.length),(46,iV x.1)],[.cells [.f (.dt .dat D),.f (.dt .srt S)],.cells (wrapF (tmC t)),.tail 9 1]⟩,
       fun x=>x.1≤t.kids.length∧sortL D S (t.kids.take x.1)=.ok x.2,fun x=>t.kids.length - x.1⟩)],.cons (.refl _) (.cons (tm_sub ht) .nil),rfl,fun _ hsh=>?_⟩
      have hlen:=short_row (hsh.2.1.2.2.2.2.1)
      refine cast_rfl (p:=∀ (z1:Int),z1=kidsN t.kind→ifB (decide (z1≠(-2:Int))) (ifB (decide (z1<(0:Int))) (∃ (x2:Unit),(((SubB (PV.f (Lf.dt Sh.dat D)) (PV.f (Lf.dt Sh.dat D))∧SubB (PV.f (Lf.dt Sh.srt S)) (PV.f (Lf.dt Sh.srt S))∧True)∧(SubB (PV.f (Lf.v (Value.int IntKind.u8 t.kind))) (PV.f (Lf.v (Value.int IntKind.u8 t.kind)))∧SubB (sV t.name) (sV t.name)∧SubB (bV t.neg) (bV t.neg)∧SubB (PV.f (Lf.lr t.digits t.digits.length)) (PV.f (Lf.lr t.digits t.digits.length))∧SubB (PV.f (Lf.dt Sh.tm t.kids)) (PV.f (Lf.dt Sh.tm t.kids))∧True)∧True)∧SubB (PV.bp 0 0) (PV.bp 0 0)∧SubB (PV.bp 1 0) (PV.bp 1 0)∧True)∧kidsN t.kind≠(-2:Int)∧(kidsN t.kind<(0:Int)∨kidsN t.kind=(↑t.kids.length:Int))) (ifB (z1==(↑t.kids.length:Int)) (∃ (x2:Unit),(((SubB (PV.f (Lf.dt Sh.dat D)) (PV.f (Lf.dt Sh.dat D))∧SubB (PV.f (Lf.dt Sh.srt S)) (PV.f (Lf.dt Sh.srt S))∧True)∧(SubB (PV.f (Lf.v (Value.int IntKind.u8 t.kind))) (PV.f (Lf.v (Value.int IntKind.u8 t.kind)))∧SubB (sV t.name) (sV t.name)∧SubB (bV t.neg) (bV t.neg)∧SubB (PV.f (Lf.lr t.digits t.digits.length)) (PV.f (Lf.lr t.digits t.digits.length))∧SubB (PV.f (Lf.dt Sh.tm t.kids)) (PV.f (Lf.dt Sh.tm t.kids))∧True)∧True)∧SubB (PV.bp 0 0) (PV.bp 0 0)∧SubB (PV.bp 1 0) (PV.bp 1 0)∧True)∧kidsN t.kind≠(-2:Int)∧(kidsN t.kind<(0:Int)∨kidsN t.kind=(↑t.kids.length:Int))) (EndU 1 (Out.need (t.size<n+1∧t.fitT) (outE (ByteArray.mk #[]) sV (sortT D S t) (soO D S))).fin false (PV.ifc 45 (iV 24)) [PO.cells [PV.f (Lf.dt Sh.dat D),PV.f (Lf.dt Sh.srt S)],PO.cells (wrapF (tmC t))]))∧∀ (z2:Unit),kidsN t.kind≠(-2:Int)∧(kidsN t.kind<(0:Int)∨kidsN t.kind=(↑t.kids.length:Int))→ifB (t.kind != (2:Int)) (ifB (t.kind != (6:Int)) (∃ (x3:Unit),(((SubB (PV.f (Lf.dt Sh.dat D)) (PV.f (Lf.dt Sh.dat D))∧SubB (PV.f (Lf.dt Sh.srt S)) (PV.f (Lf.dt Sh.srt S))∧True)∧(SubB (PV.f (Lf.v (Value.int IntKind.u8 t.kind))) (PV.f (Lf.v (Value.int IntKind.u8 t.kind)))∧SubB (sV t.name) (sV t.name)∧SubB (bV t.neg) (bV t.neg)∧SubB (PV.f (Lf.lr t.digits t.digits.length)) (PV.f (Lf.lr t.digits t.digits.length))∧SubB (PV.f (Lf.dt Sh.tm t.kids)) (PV.f (Lf.dt Sh.tm t.kids))∧True)∧True)∧SubB (PV.bp 0 0) (PV.bp 0 0)∧SubB (PV.bp 1 0) (PV.bp 1 0)∧True)∧kidsN t.kind≠(-2:Int)∧(kidsN t.kind<(0:Int)∨kidsN t.kind=(↑t.kids.length:Int))∧((t.kind=(2:Int)∨t.kind=(6:Int))∧rightZ t.neg t.digits=false→False)) (t.digits.length≤100000000∧ifB (rightZ t.neg t.digits) (∃ (x3:Unit),(((SubB (PV.f (Lf.dt Sh.dat D)) (PV.f (Lf.dt Sh.dat D))∧SubB (PV.f (Lf.dt Sh.srt S)) (PV.f (Lf.dt Sh.srt S))∧True)∧(SubB (PV.f (Lf.v (Value.int IntKind.u8 t.kind))) (PV.f (Lf.v (Value.int IntKind.u8 t.kind)))∧SubB (sV t.name) (sV t.name)∧SubB (bV t.neg) (bV t.neg)∧SubB (PV.f (Lf.lr t.digits t.digits.length)) (PV.f (Lf.lr t.digits t.digits.length))∧SubB (PV.f (Lf.dt Sh.tm t.kids)) (PV.f (Lf.dt Sh.tm t.kids))∧True)∧True)∧SubB (PV.bp 0 0) (PV.bp 0 0)∧SubB (PV.bp 1 0) (PV.bp 1 0)∧True)∧kidsN t.kind≠(-2:Int)∧(kidsN t.kind<(0:Int)∨kidsN t.kind=(↑t.kids.length:Int))∧((t.kind=(2:Int)∨t.kind=(6:Int))∧rightZ t.neg t.digits=false→False)) (EndU 1 (Out.need (t.size<n+1∧t.fitT) (outE (ByteArray.mk #[]) sV (sortT D S t) (soO D S))).fin false (PV.ifc 45 (iV 23)) [PO.cells [PV.f (Lf.dt Sh.dat D),PV.f (Lf.dt Sh.srt S)],PO.cells (wrapF (tmC t))]))) (t.digits.length≤100000000∧ifB (rightZ t.neg t.digits) (∃ (x3:Unit),(((SubB (PV.f (Lf.dt Sh.dat D)) (PV.f (Lf.dt Sh.dat D))∧SubB (PV.f (Lf.dt Sh.srt S)) (PV.f (Lf.dt Sh.srt S))∧True)∧(SubB (PV.f (Lf.v (Value.int IntKind.u8 t.kind))) (PV.f (Lf.v (Value.int IntKind.u8 t.kind)))∧SubB (sV t.name) (sV t.name)∧SubB (bV t.neg) (bV t.neg)∧SubB (PV.f (Lf.lr t.digits t.digits.length)) (PV.f (Lf.lr t.digits t.digits.length))∧SubB (PV.f (Lf.dt Sh.tm t.kids)) (PV.f (Lf.dt Sh.tm t.kids))∧True)∧True)∧SubB (PV.bp 0 0) (PV.bp 0 0)∧SubB (PV.bp 1 0) (PV.bp 1 0)∧True)∧kidsN t.kind≠(-2:Int)∧(kidsN t.kind<(0:Int)∨kidsN t.kind=(↑t.kids.length:Int))∧((t.kind=(2:Int)∨t.kind=(6:Int))∧rightZ t.neg t.digits=false→False)) (EndU 1 (Out.need (t.size<n+1∧t.fitT) (outE (ByteArray.mk #[]) sV (sortT D S t) (soO D S))).fin false (PV.ifc 45 (iV 23)) [PO.cells [PV.f (Lf.dt Sh.dat D),PV.f (Lf.dt Sh.srt S)],PO.cells (wrapF (tmC t))]))∧∀ (z3:Unit),kidsN t.kind≠(-2:Int)∧(kidsN t.kind<(0:Int)∨kidsN t.kind=(↑t.kids.length:Int))∧¬((t.kind=(2:Int)∨t.kind=(6:Int))∧rightZ t.neg t.digits=false)→ifB (t.kind==(1:Int)) (∀ (z4:Except Int ByteArray),z4=varS D S t.name→ifB (okE z4) (EndU 1 (Out.need (t.size<n+1∧t.fitT) (outE (ByteArray.mk #[]) sV (sortT D S t) (soO D S))).fin true (sV (valE (ByteArray.mk #[]) z4)) [PO.cells [PV.f (Lf.dt Sh.dat D),PV.f (Lf.dt Sh.srt S)],PO.cells (wrapF (tmC t))]) (EndU 1 (Out.need (t.size<n+1∧t.fitT) (outE (ByteArray.mk #[]) sV (sortT D S t) (soO D S))).fin false (PV.ifc 45 (iV (errE z4))) [PO.cells [PV.f (Lf.dt Sh.dat D),PV.f (Lf.dt Sh.srt S)],PO.cells (wrapF (tmC t))])) (∃ (x4:Nat × List ByteArray),(((SubB (PV.f (Lf.dt Sh.dat D)) (PV.f (Lf.dt Sh.dat D))∧SubB (PV.f (Lf.dt Sh.srt S)) (PV.f (Lf.dt Sh.srt S))∧True)∧(SubB (PV.f (Lf.v (Value.int IntKind.u8 t.kind))) (PV.f (Lf.v (Value.int IntKind.u8 t.kind)))∧SubB (sV t.name) (sV t.name)∧SubB (bV t.neg) (bV t.neg)∧SubB (PV.f (Lf.lr t.digits t.digits.length)) (PV.f (Lf.lr t.digits t.digits.length))∧SubB (PV.f (Lf.dt Sh.tm t.kids)) (PV.f (Lf.dt Sh.tm t.kids))∧True)∧True)∧SubB (PV.bp 0 0) (PV.bp 0 0)∧SubB (PV.bp 1 0) (PV.bp 1 0)∧emptyT (PV.tl 2 (Lf.dt Sh.str x4.snd))∧SubB (PV.f (Lf.dt Sh.tm t.kids)) (PV.f (Lf.dt Sh.tm t.kids))∧SubB (iV (↑t.kids.length:Int)) (iV (↑t.kids.length:Int))∧SubB (iV 0) (iV (↑x4.fst:Int))∧True)∧(x4.fst≤t.kids.length∧sortL D S (List.take x4.fst t.kids)=Except.ok x4.snd)∧True∧∀ (z5:Nat × List ByteArray),z5.fst≤t.kids.length∧sortL D S (List.take z5.fst t.kids)=Except.ok z5.snd→True→ifB (decide ((↑z5.fst:Int)<(↑t.kids.length:Int))) (((0:Int)≤(↑z5.fst:Int)∧(↑z5.fst:Int)<(↑t.kids.length:Int))∧((Tw.mk (Tw.kind (t.kids.getD (↑z5.fst:Int).toNat Sh.tm.nil)) (Tw.name (t.kids.getD (↑z5.fst:Int).toNat Sh.tm.nil)) (Tw.neg (t.kids.getD (↑z5.fst:Int).toNat Sh.tm.nil)) (Tw.digits (t.kids.getD (↑z5.fst:Int).toNat Sh.tm.nil)) (Tw.kids (t.kids.getD (↑z5.fst:Int).toNat Sh.tm.nil))).size<n∧(Tw.mk (Tw.kind (t.kids.getD (↑z5.fst:Int).toNat Sh.tm.nil)) (Tw.name (t.kids.getD (↑z5.fst:Int).toNat Sh.tm.nil)) (Tw.neg (t.kids.getD (↑z5.fst:Int).toNat Sh.tm.nil)) (Tw.digits (t.kids.getD (↑z5.fst:Int).toNat Sh.tm.nil)) (Tw.kids (t.kids.getD (↑z5.fst:Int).toNat Sh.tm.nil))).fitT)∧∀ (z6:Except Int ByteArray),z6=sortT D S (Tw.mk (Tw.kind (t.kids.getD (↑z5.fst:Int).toNat Sh.tm.nil)) (Tw.name (t.kids.getD (↑z5.fst:Int).toNat Sh.tm.nil)) (Tw.neg (t.kids.getD (↑z5.fst:Int).toNat Sh.tm.nil)) (Tw.digits (t.kids.getD (↑z5.fst:Int).toNat Sh.tm.nil)) (Tw.kids (t.kids.getD (↑z5.fst:Int).toNat Sh.tm.nil)))→ifB (okE z6) ((z5.snd.length+1≤9223372036854775807∧(z5.snd.length+1) * 16≤140737488355328)∧∃ (x7:Nat × List ByteArray),(((SubB (PV.f (Lf.dt Sh.dat D)) (PV.f (Lf.dt Sh.dat D))∧SubB (PV.f (Lf.dt Sh.srt S)) (PV.f (Lf.dt Sh.srt S))∧True)∧(SubB (PV.f (Lf.v (Value.int IntKind.u8 t.kind))) (PV.f (Lf.v (Value.int IntKind.u8 t.kind)))∧SubB (sV t.name) (sV t.name)∧SubB (bV t.neg) (bV t.neg)∧SubB (PV.f (Lf.lr t.digits t.digits.length)) (PV.f (Lf.lr t.digits t.digits.length))∧SubB (PV.f (Lf.dt Sh.tm t.kids)) (PV.f (Lf.dt Sh.tm t.kids))∧True)∧True)∧SubB (PV.bp 0 0) (PV.bp 0 0)∧SubB (PV.bp 1 0) (PV.bp 1 0)∧SubB (PV.tl 2 (Lf.dt Sh.str (z5.snd++[valE (ByteArray.mk #[]) z6]))) (PV.tl 2 (Lf.dt Sh.str x7.snd))∧SubB (PV.f (Lf.dt Sh.tm t.kids)) (PV.f (Lf.dt Sh.tm t.kids))∧SubB (iV (↑t.kids.length:Int)) (iV (↑t.kids.length:Int))∧SubB (iV (IntKind.i64.wrap ((↑z5.fst:Int)+(1:Int)))) (iV (↑x7.fst:Int))∧True)∧(x7.fst≤t.kids.length∧sortL D S (List.take x7.fst t.kids)=Except.ok x7.snd)∧True∧(t.kids.length - x7.fst).succ.le (t.kids.length - z5.fst)) (EndU 1 (Out.need (t.size<n+1∧t.fitT) (outE (ByteArray.mk #[]) sV (sortT D S t) (soO D S))).fin false (PV.ifc 45 (iV (errE z6))) [PO.cells [PV.f (Lf.dt Sh.dat D),PV.f (Lf.dt Sh.srt S)],PO.cells (wrapF (tmC t)),PO.tail 9 1,PO.cells (wrapF (tmC (t.kids.getD (↑z5.fst:Int).toNat Sh.tm.nil)))])) (ifB (t.kind==(2:Int)) (EndU 1 (Out.need (t.size<n+1∧t.fitT) (outE (ByteArray.mk #[]) sV (sortT D S t) (soO D S))).fin true (sV (ByteArray.mk #[(105:UInt8),(110:UInt8),(116:UInt8)])) [PO.cells [PV.f (Lf.dt Sh.dat D),PV.f (Lf.dt Sh.srt S)],PO.cells (wrapF (tmC t)),PO.tail 9 1]) (ifB (t.kind==(5:Int)) (ifB (allEq z5.snd (ByteArray.mk #[(105:UInt8),(110:UInt8),(116:UInt8)])) (EndU 1 (Out.need (t.size<n+1∧t.fitT) (outE (ByteArray.mk #[]) sV (sortT D S t) (soO D S))).fin true (sV (ByteArray.mk #[(105:UInt8),(110:UInt8),(116:UInt8)])) [PO.cells [PV.f (Lf.dt Sh.dat D),PV.f (Lf.dt Sh.srt S)],PO.cells (wrapF (tmC t)),PO.tail 9 1]) (EndU 1 (Out.need (t.size<n+1∧t.fitT) (outE (ByteArray.mk #[]) sV (sortT D S t) (soO D S))).fin false (PV.ifc 45 (iV 23)) [PO.cells [PV.f (Lf.dt Sh.dat D),PV.f (Lf.dt Sh.srt S)],PO.cells (wrapF (tmC t)),PO.tail 9 1])) (ifB (t.kind==(6:Int)) (ifB (allEq z5.snd (ByteArray.mk #[(105:UInt8),(110:UInt8),(116:UInt8)])) (EndU 1 (Out.need (t.size<n+1∧t.fitT) (outE (ByteArray.mk #[]) sV (sortT D S t) (soO D S))).fin true (sV (ByteArray.mk #[(105:UInt8),(110:UInt8),(116:UInt8)])) [PO.cells [PV.f (Lf.dt Sh.dat D),PV.f (Lf.dt Sh.srt S)],PO.cells (wrapF (tmC t)),PO.tail 9 1]) (EndU 1 (Out.need (t.size<n+1∧t.fitT) (outE (ByteArray.mk #[]) sV (sortT D S t) (soO D S))).fin false (PV.ifc 45 (iV 23)) [PO.cells [PV.f (Lf.dt Sh.dat D),PV.f (Lf.dt Sh.srt S)],PO.cells (wrapF (tmC t)),PO.tail 9 1])) (ifB (t.kind==(7:Int)) (((0:Int)≤(0:Int)∧(0:Int)<(↑z5.snd.length:Int))∧t.name.size≤4611686018427387904∧∀ (z6:Except Int ByteArray),z6=funS D t.name (z5.snd.getD (Int.toNat (0:Int)) Sh.str.nil)→ifB (okE z6) (EndU 1 (Out.need (t.size<n+1∧t.fitT) (outE (ByteArray.mk #[]) sV (sortT D S t) (soO D S))).fin true (sV (valE (ByteArray.mk #[]) z6)) [PO.cells [PV.f (Lf.dt Sh.dat D),PV.f (Lf.dt Sh.srt S)],PO.cells (wrapF (tmC t)),PO.tail 9 1]) (EndU 1 (Out.need (t.size<n+1∧t.fitT) (outE (ByteArray.mk #[]) sV (sortT D S t) (soO D S))).fin false (PV.ifc 45 (iV (errE z6))) [PO.cells [PV.f (Lf.dt Sh.dat D),PV.f (Lf.dt Sh.srt S)],PO.cells (wrapF (tmC t)),PO.tail 9 1])) (ifB (t.kind==(8:Int)) (((0:Int)≤(0:Int)∧(0:Int)<(↑z5.snd.length:Int))∧((0:Int)≤(1:Int)∧(1:Int)<(↑z5.snd.length:Int))∧ifB (ByteArray.toList (z5.snd.getD (Int.toNat (0:Int)) Sh.str.nil)==ByteArray.toList (z5.snd.getD (Int.toNat (1:Int)) Sh.str.nil)) (((0:Int)≤(0:Int)∧(0:Int)<(↑z5.snd.length:Int))∧ifB (!ByteArray.toList (z5.snd.getD (Int.toNat (0:Int)) Sh.str.nil)==(ByteArray.mk #[(98:UInt8),(111:UInt8),(111:UInt8),(108:UInt8)]).toList) (EndU 1 (Out.need (t.size<n+1∧t.fitT) (outE (ByteArray.mk #[]) sV (sortT D S t) (soO D S))).fin true (sV (ByteArray.mk #[(98:UInt8),(111:UInt8),(111:UInt8),(108:UInt8)])) [PO.cells [PV.f (Lf.dt Sh.dat D),PV.f (Lf.dt Sh.srt S)],PO.cells (wrapF (tmC t)),PO.tail 9 1]) (EndU 1 (Out.need (t.size<n+1∧t.fitT) (outE (ByteArray.mk #[]) sV (sortT D S t) (soO D S))).fin false (PV.ifc 45 (iV 23)) [PO.cells [PV.f (Lf.dt Sh.dat D),PV.f (Lf.dt Sh.srt S)],PO.cells (wrapF (tmC t)),PO.tail 9 1])) (EndU 1 (Out.need (t.size<n+1∧t.fitT) (outE (ByteArray.mk #[]) sV (sortT D S t) (soO D S))).fin false (PV.ifc 45 (iV 23)) [PO.cells [PV.f (Lf.dt Sh.dat D),PV.f (Lf.dt Sh.srt S)],PO.cells (wrapF (tmC t)),PO.tail 9 1])) (ifB (t.kind==(9:Int)) (ifB (allEq z5.snd (ByteArray.mk #[(105:UInt8),(110:UInt8),(116:UInt8)])) (EndU 1 (Out.need (t.size<n+1∧t.fitT) (outE (ByteArray.mk #[]) sV (sortT D S t) (soO D S))).fin true (sV (ByteArray.mk #[(98:UInt8),(111:UInt8),(111:UInt8),(108:UInt8)])) [PO.cells [PV.f (Lf.dt Sh.dat D),PV.f (Lf.dt Sh.srt S)],PO.cells (wrapF (tmC t)),PO.tail 9 1]) (EndU 1 (Out.need (t.size<n+1∧t.fitT) (outE (ByteArray.mk #[]) sV (sortT D S t) (soO D S))).fin false (PV.ifc 45 (iV 23)) [PO.cells [PV.f (Lf.dt Sh.dat D),PV.f (Lf.dt Sh.srt S)],PO.cells (wrapF (tmC t)),PO.tail 9 1])) (ifB (allEq z5.snd (ByteArray.mk #[(98:UInt8),(111:UInt8),(111:UInt8),(108:UInt8)])) (EndU 1 (Out.need (t.size<n+1∧t.fitT) (outE (ByteArray.mk #[]) sV (sortT D S t) (soO D S))).fin true (sV (ByteArray.mk #[(98:UInt8),(111:UInt8),(111:UInt8),(108:UInt8)])) [PO.cells [PV.f (Lf.dt Sh.dat D),PV.f (Lf.dt Sh.srt S)],PO.cells (wrapF (tmC t)),PO.tail 9 1]) (EndU 1 (Out.need (t.size<n+1∧t.fitT) (outE (ByteArray.mk #[]) sV (sortT D S t) (soO D S))).fin false (PV.ifc 45 (iV 23)) [PO.cells [PV.f (Lf.dt Sh.dat D),PV.f (Lf.dt Sh.srt S)],PO.cells (wrapF (tmC t)),PO.tail 9 1])))))))))) (EndU 1 (Out.need (t.size<n+1∧t.fitT) (outE (ByteArray.mk #[]) sV (sortT D S t) (soO D S))).fin false (PV.ifc 45 (iV 23)) [PO.cells [PV.f (Lf.dt Sh.dat D),PV.f (Lf.dt Sh.srt S)],PO.cells (wrapF (tmC t))])) ?kr ?_
      case kr=>kernel_rfl
      refine fun z1=>fun hz1=>ifB_iff.2 ⟨fun hb0=>⟨ifB_iff.2 ⟨fun hb1=>⟨?x0,⟨⟨⟨⟨.refl _,⟨.refl _,trivial⟩⟩,⟨⟨.refl _,⟨.refl _,⟨.refl _,⟨.refl _,⟨.refl _,trivial⟩⟩⟩⟩⟩,trivial⟩⟩,⟨.refl _,⟨.refl _,trivial⟩⟩⟩,⟨?s0,?m0⟩⟩⟩,fun hb1=>ifB_iff.2 ⟨fun hb2=>⟨?x1,⟨⟨⟨⟨.refl _,⟨.refl _,trivial⟩⟩,⟨⟨.refl _,⟨.refl _,⟨.refl _,⟨.refl _,⟨.refl _,trivial⟩⟩⟩⟩⟩,trivial⟩⟩,⟨.refl _,⟨.refl _,trivial⟩⟩⟩,⟨?s1,?m1⟩⟩⟩,fun hb2=>?m2⟩⟩,fun z2=>fun hq3=>⟨ifB_iff.2 ⟨fun hb4=>ifB_iff.2 ⟨fun hb5=>⟨?x2,⟨⟨⟨⟨.refl _,⟨.refl _,trivial⟩⟩,⟨⟨.refl _,⟨.refl _,⟨.refl _,⟨.refl _,⟨.refl _,trivial⟩⟩⟩⟩⟩,trivial⟩⟩,⟨.refl _,⟨.refl _,trivial⟩⟩⟩,⟨?s2,⟨?s3,fun hq6=>?m3⟩⟩⟩⟩,fun hb5=>⟨?s4,ifB_iff.2 ⟨fun hb7=>⟨?x3,⟨⟨⟨⟨.refl _,⟨.refl _,trivial⟩⟩,⟨⟨.refl _,⟨.refl _,⟨.refl _,⟨.refl _,⟨.refl _,trivial⟩⟩⟩⟩⟩,trivial⟩⟩,⟨.refl _,⟨.refl _,trivial⟩⟩⟩,⟨?s5,⟨?s6,fun hq8=>?m4⟩⟩⟩⟩,fun hb7=>?m5⟩⟩⟩,fun hb4=>⟨?s7,ifB_iff.2 ⟨fun hb9=>⟨?x4,⟨⟨⟨⟨.refl _,⟨.refl _,trivial⟩⟩,⟨⟨.refl _,⟨.refl _,⟨.refl _,⟨.refl _,⟨.refl _,trivial⟩⟩⟩⟩⟩,trivial⟩⟩,⟨.refl _,⟨.refl _,trivial⟩⟩⟩,⟨?s8,⟨?s9,fun hq10=>?m6⟩⟩⟩⟩,fun hb9=>?m7⟩⟩⟩,fun z3=>fun hq11=>ifB_iff.2 ⟨fun hb12=>fun z4=>fun hz4=>ifB_iff.2 ⟨fun hb13=>?m8,fun hb13=>?m9⟩,fun hb12=>⟨?x5,⟨?s10,⟨?s11,⟨trivial,fun z5=>fun hq14=>fun _=>ifB_iff.2 ⟨fun hb15=>⟨?s12,⟨?s13,fun z6=>fun hz6=>ifB_iff.2 ⟨fun hb16=>⟨?s14,⟨?x6,⟨⟨⟨⟨.refl _,⟨.refl _,trivial⟩⟩,⟨⟨.refl _,⟨.refl _,⟨.refl _,⟨.refl _,⟨.refl _,trivial⟩⟩⟩⟩⟩,trivial⟩⟩,⟨.refl _,⟨.refl _,⟨?m10,⟨.refl _,⟨.refl _,⟨?m11,trivial⟩⟩⟩⟩⟩⟩⟩,⟨?s15,⟨trivial,?m12⟩⟩⟩⟩⟩,fun hb16=>?m13⟩⟩⟩,fun hb15=>ifB_iff.2 ⟨fun hb17=>?m14,fun hb17=>ifB_iff.2 ⟨fun hb18=>ifB_iff.2 ⟨fun hb19=>?m15,fun hb19=>?m16⟩,fun hb18=>ifB_iff.2 ⟨fun hb20=>ifB_iff.2 ⟨fun hb21=>?m17,fun hb21=>?m18⟩,fun hb20=>ifB_iff.2 ⟨fun hb22=>⟨?s16,⟨?s17,fun z6=>fun hz6=>ifB_iff.2 ⟨fun hb23=>?m19,fun hb23=>?m20⟩⟩⟩,fun hb22=>ifB_iff.2 ⟨fun hb24=>⟨?s18,⟨?s19,ifB_iff.2 ⟨fun hb25=>⟨?s20,ifB_iff.2 ⟨fun hb26=>?m21,fun hb26=>?m22⟩⟩,fun hb25=>?m23⟩⟩⟩,fun hb24=>ifB_iff.2 ⟨fun hb27=>ifB_iff.2 ⟨fun hb28=>?m24,fun hb28=>?m25⟩,fun hb27=>ifB_iff.2 ⟨fun hb29=>?m26,fun hb29=>?m27⟩⟩⟩⟩⟩⟩⟩⟩⟩⟩⟩⟩⟩⟩⟩,fun hb0=>?m28⟩
      case x0=>exact ()
      case x1=>exact ()
      case x2=>exact ()
      case x3=>exact ()
      case x4=>exact ()
      case x5=>exact (0,[])
      case x6=>exact (z5.1+1,z5.2++[valE ⟨#[]⟩ z6])
      all_goals try simp only [bs_l,Bool.not_eq_true',Bool.not_eq_false',decide_eq_true_eq,decide_eq_false_iff_not,beq_iff_eq,beq_eq_false_iff_ne,bne_iff_ne,ne_eq,bne_eq_false_iff_eq,Int.toNat_natCast,Int.toNat_zero] at *
      all_goals try subst hz1
      case s0=>exact hb0
      case m0=>exact .inl hb1
      case s1=>exact hb0
      case m1=>exact .inr hb2
      case m2=>exact sEnd_err (by rw [sortT_eq,if_neg hb0,if_pos (fun h=>h.elim hb1 hb2)]) rfl rfl
      case s2=>exact hb0
      case s3=>exact hq3.2
      case m3=>exact hq6.1.elim hb4 hb5
      case s4=>have:=((Tw.fitT_eq t).1 hfit).2.1; omega
      case s5=>exact hb0
      case s6=>exact hq3.2
      case m4=>rw [hb7] at hq8; exact absurd hq8.2 (by decide)
      case m5=>exact sEnd_err (by rw [sortT_eq,if_neg hb0,if_neg (fun h=>h hq3.2),if_pos ⟨.inr hb5,hb7⟩]) rfl rfl
      case s7=>have:=((Tw.fitT_eq t).1 hfit).2.1; omega
      case s8=>exact hb0
      case s9=>exact hq3.2
      case m6=>rw [hb9] at hq10; exact absurd hq10.2 (by decide)
      case m7=>exact sEnd_err (by rw [sortT_eq,if_neg hb0,if_neg (fun h=>h hq3.2),if_pos ⟨.inl hb4,hb9⟩]) rfl rfl
      case m8=>exact sEnd_ok (by rw [sort_kid hq11,if_pos hb12,← hz4]; exact valE_ok hb13) rfl rfl
      case m9=>exact sEnd_err (by rw [sort_kid hq11,if_pos hb12,← hz4]; exact errE_no hb13) rfl rfl
      case s10=>exact ⟨⟨⟨.refl _,.refl _,trivial⟩,⟨.refl _,.refl _,.refl _,.refl _,.refl _,trivial⟩,trivial⟩,.refl _,.refl _,rfl,.refl _,.refl _,.refl _,trivial⟩
      case s11=>exact ⟨Nat.zero_le _,rfl⟩
      case s12=>omega
      case s13 =>
       have hi:z5.1<t.kids.length:=by omega
       rw [Tw.eta]
       refine ⟨?_,fitTL_at _ ((Tw.fitT_eq t).1 hfit).2.2.2 hi⟩
       rw [getD_any hi _ default]
       have:=kid_size hi
       omega
      case s14 =>
       have h1:=sortL_len D S hq14.2
       have h2:=((Tw.fitT_eq t).1 hfit).2.2.1
       rw [List.length_take] at h1
       omega
      case m10=>exact .refl _
      case m11=>exact subB_i (by rw [wJ _ (by omega) (by omega)]; rfl)
      case s15 =>
       have hi:z5.1<t.kids.length:=by omega
       refine ⟨hi,?_⟩
       rw [Tw.eta] at hz6
       have hk:=hz6.symm
       rw [List.getD_eq_getElem?_getD,List.getElem?_eq_getElem hi,Option.getD_some] at hk
       show sortL D S (t.kids.take (z5.1+1))=.ok (z5.2++[valE ⟨#[]⟩ z6])
       rw [List.take_add_one,List.getElem?_eq_getElem hi,Option.toList_some,sortL_snoc,hq14.2,hk]
       obtain _ | s:=z6
       · cases hb16
       · rfl
      case m12 =>
       have:t.kids.length - (z5.1+1)<t.kids.length - z5.1:=by omega
       exact this
      case m13 =>
       rw [Tw.eta] at hz6
       exact sEnd_err (sort_stop hq11 hb12 (by omega) hq14.2 (hz6.symm.trans (errE_no hb16))) rfl rfl
      case m28=>exact sEnd_err (by rw [sortT_eq,if_pos (Decidable.not_not.1 hb0)]) rfl rfl
      all_goals have hp:=sort_part hq11 hb12 hq14 hb15
      case m14=>exact sEnd_ok (hp.trans (by unfold partS; exact if_pos hb17)) rfl rfl
      case m15=>exact sEnd_ok (hp.trans (by unfold partS; rw [if_neg hb17,if_pos (.inl hb18)]; exact if_pos hb19)) rfl rfl
      case m16=>exact sEnd_err (hp.trans (by unfold partS; rw [if_neg hb17,if_pos (.inl hb18)]; exact if_neg (fun h=>Bool.noConfusion (h.symm.trans hb19)))) rfl rfl
      case m17=>exact sEnd_ok (hp.trans (by unfold partS; rw [if_neg hb17,if_pos (.inr hb20)]; exact if_pos hb21)) rfl rfl
      case m18=>exact sEnd_err (hp.trans (by unfold partS; rw [if_neg hb17,if_pos (.inr hb20)]; exact if_neg (fun h=>Bool.noConfusion (h.symm.trans hb21)))) rfl rfl
      all_goals have hl2:=sortL_len D S hq14.2
      all_goals rw [List.length_take] at hl2
      all_goals have hk2:=hq3.2
      case s16=>rw [hb22] at hk2; have:kidsN 7=1:=rfl; omega
      case s17=>exact ((Tw.fitT_eq t).1 hfit).1
      case m19=>exact sEnd_ok (hp.trans (by unfold partS; rw [if_neg hb17,if_neg (fun h=>h.elim hb18 hb20),if_pos hb22]; exact hz6.symm.trans (valE_ok hb23))) rfl rfl
      case m20=>exact sEnd_err (hp.trans (by unfold partS; rw [if_neg hb17,if_neg (fun h=>h.elim hb18 hb20),if_pos hb22]; exact hz6.symm.trans (errE_no hb23))) rfl rfl
      case s18=>rw [hb24] at hk2; have:kidsN 8=2:=rfl; omega
      case s19=>rw [hb24] at hk2; have:kidsN 8=2:=rfl; omega
      case s20=>rw [hb24] at hk2; have:kidsN 8=2:=rfl; omega
      case m21=>exact sEnd_ok (hp.trans (by unfold partS; rw [if_neg hb17,if_neg (fun h=>h.elim hb18 hb20),if_neg hb22,if_pos hb24]; exact if_pos (by rw [Bool.and_eq_true,Bool.not_eq_true']; exact ⟨decide_eq_true hb25,decide_eq_false hb26⟩))) rfl rfl
      case m22=>exact sEnd_err (hp.trans (by unfold partS; rw [if_neg hb17,if_neg (fun h=>h.elim hb18 hb20),if_neg hb22,if_pos hb24]; exact if_neg (by rw [Bool.and_eq_true,Bool.not_eq_true']; exact fun h=>of_decide_eq_false h.2 hb26))) rfl rfl
      case m23=>exact sEnd_err (hp.trans (by unfold partS; rw [if_neg hb17,if_neg (fun h=>h.elim hb18 hb20),if_neg hb22,if_pos hb24]; exact if_neg (by rw [Bool.and_eq_true]; exact fun h=>hb25 (of_decide_eq_true h.1)))) rfl rfl
      case m24=>exact sEnd_ok (hp.trans (by unfold partS; rw [if_neg hb17,if_neg (fun h=>h.elim hb18 hb20),if_neg hb22,if_neg hb24,if_pos hb27]; exact if_pos hb28)) rfl rfl
      case m25=>exact sEnd_err (hp.trans (by unfold partS; rw [if_neg hb17,if_neg (fun h=>h.elim hb18 hb20),if_neg hb22,if_neg hb24,if_pos hb27]; exact if_neg (fun h=>Bool.noConfusion (h.symm.trans hb28)))) rfl rfl
      case m26=>exact sEnd_ok (hp.trans (by unfold partS; rw [if_neg hb17,if_neg (fun h=>h.elim hb18 hb20),if_neg hb22,if_neg hb24,if_neg hb27]; exact if_pos hb29)) rfl rfl
      case m27=>exact sEnd_err (hp.trans (by unfold partS; rw [if_neg hb17,if_neg (fun h=>h.elim hb18 hb20),if_neg hb22,if_neg hb24,if_neg hb27]; exact if_neg (fun h=>Bool.noConfusion (h.symm.trans hb29)))) rfl rfl
    · cases hs
  · cases hs
end Go.Proofs.YtpjjdngoblfleaaGreat
