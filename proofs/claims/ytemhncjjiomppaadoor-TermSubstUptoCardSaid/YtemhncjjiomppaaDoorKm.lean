/- Names each once; maps of texts to yes or no; the law TermSubst: what it is made of. -/
import Derived.Test.YtemhncjjiomppaaDoorKj
import Derived.Test.YtemhncjjiomppaaDoorKk
import Derived.Test.YtemhncjjiomppaaDoorUp
import Derived.Test.YtemhncjjiomppaaDoorFr
namespace Go.Proofs.YtemhncjjiomppaaDoor
open Go.RowKit
set_option linter.unusedVariables false
set_option maxRecDepth 100000
theorem QeY {α:Type} [Inhabited α] [DecidableEq α] {zs:List α} {y:α}:y∈Lib.compact zs↔y∈zs:=by
 have key:∀ i,i<zs.length→∃ j,j≤i∧Lib.keeps zs.toArray j=true∧zs.toArray[j]! = zs.toArray[i]!:=by
  intro i
  induction i with
  | zero=>exact fun _=>⟨0,Nat.le_refl _,by simp [Lib.keeps],rfl⟩
  | succ i ih =>
   intro hi
   by_cases h:zs.toArray[i+1]! = zs.toArray[i]!
   · obtain ⟨j,h1,h2,h3⟩:=ih (by omega)
     exact ⟨j,by omega,h2,h3.trans h.symm⟩
   · exact ⟨i+1,Nat.le_refl _,Lib.keeps_pos h,rfl⟩
 unfold Lib.compact Lib.compactUpTo
 rw [List.mem_map]
 constructor
 · rintro ⟨j,hj,rfl⟩
   have h1:j<zs.length:=List.mem_range.1 (List.mem_filter.1 hj).1
   have h2:j<zs.toArray.size:=h1
   rw [getElem!_pos zs.toArray j h2]
   exact List.getElem_mem _
 · intro hy
   obtain ⟨i,hi,rfl⟩:=List.getElem_of_mem hy
   obtain ⟨j,h1,h2,h3⟩:=key i hi
   have h4:i<zs.toArray.size:=hi
   refine ⟨j,List.mem_filter.2 ⟨List.mem_range.2 (by omega),h2⟩,?_⟩
   rw [h3,getElem!_pos zs.toArray i h4]
   rfl
theorem Qc5 {L:List ByteArray} {x:ByteArray}:x∈Qah L↔x∈L:=by
 unfold Qah
 rw [List.mem_map]
 constructor
 · rintro ⟨y,hy,rfl⟩
   have h1:=(List.mergeSort_perm _ _).mem_iff.1 (QeY.1 hy)
   obtain ⟨s,hs,rfl⟩:=List.mem_map.1 h1
   have:ofB (bl s)=s:=by simp [ofB,bl]
   rw [this]; exact hs
 · intro hx
   refine ⟨bl x,QeY.2 ((List.mergeSort_perm _ _).mem_iff.2 (List.mem_map.2 ⟨x,hx,rfl⟩)),?_⟩
   simp [ofB,bl]
theorem QlT (L:List ByteArray):(Qah L).length≤L.length:=by
 unfold Qah Lib.compact Lib.compactUpTo
 rw [List.length_map,List.length_map]
 refine Nat.le_trans (List.length_filter_le _ _) ?_
 simp
theorem Qgh (t:Tw):(Qah (Qab t)).length≤t.size:=Nat.le_trans (QlT _) (Qc0 t)
def hasF (F:ByteArray→Option Bool):Kt.T .str→Bool:=fun s=>(F s).isSome
def getF (F:ByteArray→Option Bool):Kt.T .str→List Lf:=fun s=>[.v (.bool ((F s).getD false))]
def put1 (F:ByteArray→Option Bool) (k:ByteArray) (b:Bool):ByteArray→Option Bool:=fun s=>if s=k then some b else F s
open Classical in
noncomputable def putSt (F:ByteArray→Option Bool) (L:List ByteArray) (b:Bool):ByteArray→Option Bool:=fun s=>if s∈L then some b else F s
theorem Qm9:MapW .str (fun _=>false) (fun _=>[]) [] [] .str (hasF fun _=>none) (getF fun _=>none) [] []:=⟨rfl,fun _=>trivial⟩
theorem Qha {F':ByteArray→Option Bool} (h:F'=fun _=>none):MapW .str (fun _=>false) (fun _=>[]) [] [] .str (hasF F') (getF F') [] []:=by subst h; exact Qm9
theorem QbF {F F':ByteArray→Option Bool} (h:F=F'):MapW .str (hasF F) (getF F) [] [] .str (hasF F') (getF F') [] []:=by subst h; exact .refl _ _ _ _ _
theorem Qd1 {F F':ByteArray→Option Bool} {k:ByteArray} {b:Bool} (h:F'=put1 F k b):MapW .str (hasF F) (getF F) [k] [.f (.v (.bool b))] .str (hasF F') (getF F') [] []:=⟨rfl,fun key=>by
 subst h
 show Qlx (match Kt.eq .str key k with | true=>some (.f (.v (.bool b))) | false=>(match hasF F key with | true=>some (Qb0 (getF F key)) | false=>none)) (match hasF (put1 F k b) key with | true=>some (Qb0 (getF (put1 F k b) key)) | false=>none)
 by_cases hk:key=k
 · subst hk
   have e1:Kt.eq .str key key=true:=Kt.eq_self key
   have e2:hasF (put1 F key b) key=true:=by simp [hasF,put1]
   have e3:getF (put1 F key b) key=[.v (.bool b)]:=by simp [getF,put1]
   rw [e1,e2,e3]
   exact SubB.refl _
 · have e1:Kt.eq .str key k=false:=decide_eq_false hk
   have e2:hasF (put1 F k b) key=hasF F key:=by simp [hasF,put1,hk]
   have e3:getF (put1 F k b) key=getF F key:=by simp [getF,put1,hk]
   rw [e1,e2,e3]
   cases hasF F key with
   | true=>exact SubB.refl _
   | false=>trivial⟩
theorem QcZ (F:ByteArray→Option Bool) (b:Bool):putSt F [] b=F:=by funext s; simp [putSt]
theorem Qle (F:ByteArray→Option Bool) (L:List ByteArray) (k:ByteArray) (b:Bool):putSt F (L++[k]) b=put1 (putSt F L b) k b:=by
 funext s
 unfold put1 putSt
 by_cases h:s=k
 · rw [if_pos (List.mem_append_right _ (List.mem_singleton.2 h)),if_pos h]
 · rw [if_neg h]
   by_cases hm:s∈L
   · rw [if_pos (List.mem_append_left _ hm),if_pos hm]
   · rw [if_neg hm,if_neg fun c=>(List.mem_append.1 c).elim hm fun c=>h (List.mem_singleton.1 c)]
theorem Qoj {l:List ByteArray} {j:Nat} (h:j<l.length):l.take (j+1)=l.take j++[l.getD j Sh.str.nil]:=by
 rw [List.take_add_one,List.getElem?_eq_getElem h,List.getD_eq_getElem?_getD,List.getElem?_eq_getElem h]; rfl
theorem Qcx {F:ByteArray→Option Bool} {L:List ByteArray} {i:Nat} (h:i<L.length) (b:Bool):putSt F (L.take (i+1)) b=put1 (putSt F (L.take i) b) (L.getD i Sh.str.nil) b:=by rw [Qoj h,Qle]
theorem QlN {F:ByteArray→Option Bool} {s:ByteArray} (h:hasF F s=false):F s=none:=by simpa [hasF] using h
noncomputable def putTs (F:ByteArray→Option Bool) (ts:List Tw):Nat→ByteArray→Option Bool
 | 0=>F
 | n+1=>putSt (putTs F ts n) (Qah (Qab (ts.getD n Sh.tm.nil))) true
theorem QiY {F:ByteArray→Option Bool} {ts:List Tw} {x:ByteArray}:∀ {n:Nat},(F x=some true∨∃ i,i<n∧x∈Qab (ts.getD i Sh.tm.nil))→putTs F ts n x=some true
 | 0,h=>by
  rcases h with h | ⟨i,hi,-⟩
  · exact h
  · exact absurd hi (Nat.not_lt_zero i)
 | n+1,h=>by
  rw [putTs,putSt]
  by_cases hx:x∈Qah (Qab (ts.getD n Sh.tm.nil))
  · rw [if_pos hx]
  · rw [if_neg hx]
    refine QiY (h.imp id fun ⟨i,hi,hm⟩=>⟨i,?_,hm⟩)
    rcases Nat.lt_succ_iff_lt_or_eq.1 hi with h1 | rfl
    · exact h1
    · exact absurd (Qc5.2 hm) hx
def Qeo (n:Nat):Spec
 | [x]=>match tmOf x with
  | some t=>some (some (t.size<n∧t.fitT),.nm Bool (QaC t) bV)
  | none=>none
 | _=>none
theorem QjY {l:List Tw} (h:∀ i,i<l.length→QaC (l.getD i Sh.tm.nil)=true):Qbq l=true:=by
 induction l with
 | nil=>rfl
 | cons t l ih =>
  rw [Qbq,Bool.and_eq_true]
  exact ⟨h 0 (Nat.zero_lt_succ _),ih fun i hi=>h (i+1) (Nat.succ_lt_succ hi)⟩
theorem Qfr:∀ {l:List Tw},Qbq l=true→∀ i,i<l.length→QaC (l.getD i Sh.tm.nil)=true
 | t::l,h,i,hi=>by
  rw [Qbq,Bool.and_eq_true] at h
  match i,hi with
  | 0,_=>exact h.1
  | i+1,hi=>exact Qfr h.2 i (Nat.lt_of_succ_lt_succ hi)
theorem Qf3 (t:Tw):QaC t=(!(decide (t.kind=1) && (!decide (t.kids.length=0) || (!decide (t.digits.length=0) || t.neg))) && Qbq t.kids):=by cases t; rfl
theorem QjX {l:List Tw} {i:Nat} (hi:i<l.length) (h:QaC (l.getD i Sh.tm.nil)=false):Qbq l=false:=by
 cases hc:Qbq l with
 | false=>rfl
 | true=>rw [Qfr hc i hi] at h; cases h
theorem Qey {t:Tw} (h:t.kind=1) (h':¬ t.kids.length=0∨¬ t.digits.length=0∨t.neg=true):false=QaC t:=by
 rw [Qf3,decide_eq_true h]
 rcases h' with h' | h' | h'
 · rw [decide_eq_false h']; rfl
 · rw [decide_eq_false h']; cases decide (t.kids.length=0) <;> rfl
 · rw [h']; cases decide (t.kids.length=0) <;> cases decide (t.digits.length=0) <;> rfl
theorem Qg2 {t:Tw} {i:Nat} (hi:i<t.kids.length) (h:QaC (t.kids.getD i Sh.tm.nil)=false):false=QaC t:=by
 rw [Qf3,QjX hi h,Bool.and_false]
theorem Qg3 {t:Tw} (h:t.kind=1→t.kids.length=0∧t.digits.length=0∧t.neg=false) (h':∀ i,i<t.kids.length→QaC (t.kids.getD i Sh.tm.nil)=true):true=QaC t:=by
 rw [Qf3,QjY h',Bool.and_true]
 by_cases hk:t.kind=1
 · obtain ⟨h1,h2,h3⟩:=h hk
   rw [decide_eq_true h1,decide_eq_true h2,h3,decide_eq_true hk]; rfl
 · rw [decide_eq_false hk]; rfl
theorem Qmj {E:Env} (hU:Up E):∀ n,Contract Tryd.prog E 12 (Qeo n)
 | 0=>by
  intro xs p r hs hp
  unfold Qeo at hs
  split at hs
  · split at hs
    · cases hs
      exact absurd (hp _ rfl).1 (Nat.not_lt_zero _)
    · cases hs
  · cases hs
 | n+1=>by
  refine Qaq [(12,Qeo n)] [] Tryd.ntmps12 Tryd.func12 (by kernel_rfl) (by kernel_rfl) hU ⟨Qmj hU n,trivial⟩ trivial ?_
  intro xs p r hs hp
  unfold Qeo at hs
  split at hs
  · rename_i x
    split at hs
    · rename_i t ht
      cases hs
      obtain ⟨hn,hf⟩:=hp _ rfl
      refine ⟨[tmP t],[(4,.s ⟨Nat,fun i=>⟨[(1,.bp 0 0),(3,iV i)],[.cells [.f (.v (.int .u8 t.kind)),.f (.v (.string t.name)),.f (.v (.bool t.neg)),.f (.lr t.digits t.digits.length),.f (.dt .tm t.kids)]]⟩,fun i=>i≤t.kids.length∧∀ j,j<i→QaC (t.kids.getD j Sh.tm.nil)=true,fun i=>t.kids.length - i⟩)],.cons (QaK ht).sub .nil,rfl,fun _ hsh=>?_⟩
      have e2:=t.size_eq
      have f2:=(Tw.fitT_eq t).1 hf
      refine Qag (p:=ifB (t.kind==(1:Int)) (ifB ((↑t.kids.length:Int) != (0:Int)) (true=true∧Sub (bV false) (bV (QaC t))) (ifB ((↑t.digits.length:Int) != (0:Int)) (true=true∧Sub (bV false) (bV (QaC t))) (ifB t.neg (true=true∧Sub (bV false) (bV (QaC t))) (∃ (x1:Nat),(((SubB (PV.f (Lf.v (Value.int IntKind.u8 t.kind))) (PV.f (Lf.v (Value.int IntKind.u8 t.kind)))∧SubB (sV t.name) (sV t.name)∧SubB (bV t.neg) (bV t.neg)∧SubB (PV.f (Lf.lr t.digits t.digits.length)) (PV.f (Lf.lr t.digits t.digits.length))∧SubB (PV.f (Lf.dt Sh.tm t.kids)) (PV.f (Lf.dt Sh.tm t.kids))∧True)∧True)∧SubB (PV.bp 0 0) (PV.bp 0 0)∧SubB (iV 0) (iV (↑x1:Int))∧True)∧(x1≤t.kids.length∧∀ (j:Nat),j<x1→QaC (t.kids.getD j Sh.tm.nil)=true)∧True∧∀ (z2:Nat),(z2≤t.kids.length∧∀ (j:Nat),j<z2→QaC (t.kids.getD j Sh.tm.nil)=true)→True→ifB (decide ((↑z2:Int)<(↑t.kids.length:Int))) (((0:Int)≤(↑z2:Int)∧(↑z2:Int)<(↑t.kids.length:Int))∧((Tw.mk (Tw.kind (t.kids.getD (↑z2:Int).toNat Sh.tm.nil)) (Tw.name (t.kids.getD (↑z2:Int).toNat Sh.tm.nil)) (Tw.neg (t.kids.getD (↑z2:Int).toNat Sh.tm.nil)) (Tw.digits (t.kids.getD (↑z2:Int).toNat Sh.tm.nil)) (Tw.kids (t.kids.getD (↑z2:Int).toNat Sh.tm.nil))).size<n∧(Tw.mk (Tw.kind (t.kids.getD (↑z2:Int).toNat Sh.tm.nil)) (Tw.name (t.kids.getD (↑z2:Int).toNat Sh.tm.nil)) (Tw.neg (t.kids.getD (↑z2:Int).toNat Sh.tm.nil)) (Tw.digits (t.kids.getD (↑z2:Int).toNat Sh.tm.nil)) (Tw.kids (t.kids.getD (↑z2:Int).toNat Sh.tm.nil))).fitT)∧∀ (z3:Bool),z3=QaC (Tw.mk (Tw.kind (t.kids.getD (↑z2:Int).toNat Sh.tm.nil)) (Tw.name (t.kids.getD (↑z2:Int).toNat Sh.tm.nil)) (Tw.neg (t.kids.getD (↑z2:Int).toNat Sh.tm.nil)) (Tw.digits (t.kids.getD (↑z2:Int).toNat Sh.tm.nil)) (Tw.kids (t.kids.getD (↑z2:Int).toNat Sh.tm.nil)))→ifB (!z3) (true=true∧Sub (bV false) (bV (QaC t))) (∃ (x4:Nat),(((SubB (PV.f (Lf.v (Value.int IntKind.u8 t.kind))) (PV.f (Lf.v (Value.int IntKind.u8 t.kind)))∧SubB (sV t.name) (sV t.name)∧SubB (bV t.neg) (bV t.neg)∧SubB (PV.f (Lf.lr t.digits t.digits.length)) (PV.f (Lf.lr t.digits t.digits.length))∧SubB (PV.f (Lf.dt Sh.tm t.kids)) (PV.f (Lf.dt Sh.tm t.kids))∧True)∧True)∧SubB (PV.bp 0 0) (PV.bp 0 0)∧SubB (iV (IntKind.i64.wrap ((↑z2:Int)+(1:Int)))) (iV (↑x4:Int))∧True)∧(x4≤t.kids.length∧∀ (j:Nat),j<x4→QaC (t.kids.getD j Sh.tm.nil)=true)∧True∧(t.kids.length - x4).succ.le (t.kids.length - z2))) (true=true∧Sub (bV true) (bV (QaC t))))))) (∃ (x1:Nat),(((SubB (PV.f (Lf.v (Value.int IntKind.u8 t.kind))) (PV.f (Lf.v (Value.int IntKind.u8 t.kind)))∧SubB (sV t.name) (sV t.name)∧SubB (bV t.neg) (bV t.neg)∧SubB (PV.f (Lf.lr t.digits t.digits.length)) (PV.f (Lf.lr t.digits t.digits.length))∧SubB (PV.f (Lf.dt Sh.tm t.kids)) (PV.f (Lf.dt Sh.tm t.kids))∧True)∧True)∧SubB (PV.bp 0 0) (PV.bp 0 0)∧SubB (iV 0) (iV (↑x1:Int))∧True)∧(x1≤t.kids.length∧∀ (j:Nat),j<x1→QaC (t.kids.getD j Sh.tm.nil)=true)∧True∧∀ (z2:Nat),(z2≤t.kids.length∧∀ (j:Nat),j<z2→QaC (t.kids.getD j Sh.tm.nil)=true)→True→ifB (decide ((↑z2:Int)<(↑t.kids.length:Int))) (((0:Int)≤(↑z2:Int)∧(↑z2:Int)<(↑t.kids.length:Int))∧((Tw.mk (Tw.kind (t.kids.getD (↑z2:Int).toNat Sh.tm.nil)) (Tw.name (t.kids.getD (↑z2:Int).toNat Sh.tm.nil)) (Tw.neg (t.kids.getD (↑z2:Int).toNat Sh.tm.nil)) (Tw.digits (t.kids.getD (↑z2:Int).toNat Sh.tm.nil)) (Tw.kids (t.kids.getD (↑z2:Int).toNat Sh.tm.nil))).size<n∧(Tw.mk (Tw.kind (t.kids.getD (↑z2:Int).toNat Sh.tm.nil)) (Tw.name (t.kids.getD (↑z2:Int).toNat Sh.tm.nil)) (Tw.neg (t.kids.getD (↑z2:Int).toNat Sh.tm.nil)) (Tw.digits (t.kids.getD (↑z2:Int).toNat Sh.tm.nil)) (Tw.kids (t.kids.getD (↑z2:Int).toNat Sh.tm.nil))).fitT)∧∀ (z3:Bool),z3=QaC (Tw.mk (Tw.kind (t.kids.getD (↑z2:Int).toNat Sh.tm.nil)) (Tw.name (t.kids.getD (↑z2:Int).toNat Sh.tm.nil)) (Tw.neg (t.kids.getD (↑z2:Int).toNat Sh.tm.nil)) (Tw.digits (t.kids.getD (↑z2:Int).toNat Sh.tm.nil)) (Tw.kids (t.kids.getD (↑z2:Int).toNat Sh.tm.nil)))→ifB (!z3) (true=true∧Sub (bV false) (bV (QaC t))) (∃ (x4:Nat),(((SubB (PV.f (Lf.v (Value.int IntKind.u8 t.kind))) (PV.f (Lf.v (Value.int IntKind.u8 t.kind)))∧SubB (sV t.name) (sV t.name)∧SubB (bV t.neg) (bV t.neg)∧SubB (PV.f (Lf.lr t.digits t.digits.length)) (PV.f (Lf.lr t.digits t.digits.length))∧SubB (PV.f (Lf.dt Sh.tm t.kids)) (PV.f (Lf.dt Sh.tm t.kids))∧True)∧True)∧SubB (PV.bp 0 0) (PV.bp 0 0)∧SubB (iV (IntKind.i64.wrap ((↑z2:Int)+(1:Int)))) (iV (↑x4:Int))∧True)∧(x4≤t.kids.length∧∀ (j:Nat),j<x4→QaC (t.kids.getD j Sh.tm.nil)=true)∧True∧(t.kids.length - x4).succ.le (t.kids.length - z2))) (true=true∧Sub (bV true) (bV (QaC t))))) ?kr ?_
      case kr=>kernel_rfl
      refine Qaa.2 ⟨fun hb0=>Qaa.2 ⟨fun hb1=>⟨rfl,?m0⟩,fun hb1=>Qaa.2 ⟨fun hb2=>⟨rfl,?m1⟩,fun hb2=>Qaa.2 ⟨fun hb3=>⟨rfl,?m2⟩,fun hb3=>⟨?x0,⟨⟨⟨⟨.refl _,⟨.refl _,⟨.refl _,⟨.refl _,⟨.refl _,trivial⟩⟩⟩⟩⟩,trivial⟩,⟨.refl _,⟨?m3,trivial⟩⟩⟩,⟨?s0,⟨trivial,fun z2=>fun hq4=>fun _=>Qaa.2 ⟨fun hb5=>⟨?s1,⟨?s2,fun z3=>fun hz3=>Qaa.2 ⟨fun hb6=>⟨rfl,?m4⟩,fun hb6=>⟨?x1,⟨⟨⟨⟨.refl _,⟨.refl _,⟨.refl _,⟨.refl _,⟨.refl _,trivial⟩⟩⟩⟩⟩,trivial⟩,⟨.refl _,⟨?m5,trivial⟩⟩⟩,⟨?s3,⟨trivial,?m6⟩⟩⟩⟩⟩⟩⟩,fun hb5=>⟨rfl,?m7⟩⟩⟩⟩⟩⟩⟩⟩⟩,fun hb0=>⟨?x2,⟨⟨⟨⟨.refl _,⟨.refl _,⟨.refl _,⟨.refl _,⟨.refl _,trivial⟩⟩⟩⟩⟩,trivial⟩,⟨.refl _,⟨?m8,trivial⟩⟩⟩,⟨?s4,⟨trivial,fun z2=>fun hq7=>fun _=>Qaa.2 ⟨fun hb8=>⟨?s5,⟨?s6,fun z3=>fun hz3=>Qaa.2 ⟨fun hb9=>⟨rfl,?m9⟩,fun hb9=>⟨?x3,⟨⟨⟨⟨.refl _,⟨.refl _,⟨.refl _,⟨.refl _,⟨.refl _,trivial⟩⟩⟩⟩⟩,trivial⟩,⟨.refl _,⟨?m10,trivial⟩⟩⟩,⟨?s7,⟨trivial,?m11⟩⟩⟩⟩⟩⟩⟩,fun hb8=>⟨rfl,?m12⟩⟩⟩⟩⟩⟩⟩
      case x0=>exact 0
      case x1=>exact z2+1
      case x2=>exact 0
      case x3=>exact z2+1
      all_goals try simp only [Tw.eta,beq_iff_eq,beq_eq_false_iff_ne,bne_iff_ne,ne_eq,bne_eq_false_iff_eq,Bool.not_eq_true',Bool.not_eq_false',decide_eq_true_eq,decide_eq_false_iff_not,Int.ofNat_lt,Int.toNat_natCast] at *
      case m0=>exact (QaI (Qey hb0 (.inl (by omega)))).sub
      case m1=>exact (QaI (Qey hb0 (.inr (.inl (by omega))))).sub
      case m2=>exact (QaI (Qey hb0 (.inr (.inr hb3)))).sub
      case m3=>exact .refl _
      case s0=>exact ⟨Nat.zero_le _,fun j hj=>absurd hj (Nat.not_lt_zero j)⟩
      case s1=>omega
      case s2=>exact ⟨by have:=QnM hb5; omega,QaU _ f2.2.2.2 hb5⟩
      case m4=>exact (QaI (Qg2 hb5 (hz3.symm.trans hb6))).sub
      case m5=>exact Qao (by rw [wJ _ (by omega) (by omega)]; rfl)
      case s3 =>
       refine ⟨hb5,fun j hj=>?_⟩
       by_cases hjz:j=z2
       · subst hjz; exact hz3.symm.trans hb6
       · exact hq4.2 j (by omega)
      case m6=>exact (by omega:t.kids.length - (z2+1)<t.kids.length - z2)
      case m7=>exact (QaI (Qg3 (fun _=>⟨by omega,by omega,hb3⟩) fun j hj=>hq4.2 j (by omega))).sub
      case m8=>exact .refl _
      case s4=>exact ⟨Nat.zero_le _,fun j hj=>absurd hj (Nat.not_lt_zero j)⟩
      case s5=>omega
      case s6=>exact ⟨by have:=QnM hb8; omega,QaU _ f2.2.2.2 hb8⟩
      case m9=>exact (QaI (Qg2 hb8 (hz3.symm.trans hb9))).sub
      case m10=>exact Qao (by rw [wJ _ (by omega) (by omega)]; rfl)
      case s7 =>
       refine ⟨hb8,fun j hj=>?_⟩
       by_cases hjz:j=z2
       · subst hjz; exact hz3.symm.trans hb9
       · exact hq7.2 j (by omega)
      case m11=>exact (by omega:t.kids.length - (z2+1)<t.kids.length - z2)
      case m12=>exact (QaI (Qg3 (fun h=>absurd h hb0) fun j hj=>hq7.2 j (by omega))).sub
    · cases hs
  · cases hs
def QkZ:Spec
 | [x]=>match tmOf x with
  | some t=>some (some t.fitT,.nm Bool (QaC t) bV)
  | none=>none
 | _=>none
theorem cPlain {E:Env} (hU:Up E):Contract Tryd.prog E 12 QkZ:=by
 intro xs p r hs hp
 unfold QkZ at hs
 split at hs
 · rename_i x
   split at hs
   · rename_i t ht
     cases hs
     exact Qmj hU (t.size+1) [x] (some (t.size<t.size+1∧t.fitT)) (.nm Bool (QaC t) bV) (by simp only [Qeo,ht]) (fun q hq=>by cases hq; exact ⟨Nat.lt_succ_self _,hp _ rfl⟩)
   · cases hs
 · cases hs
end Go.Proofs.YtemhncjjiomppaaDoor
