/- One operation at a time, by plain lemmas. -/
import Derived.Test.YtmbmbcamecfnkaaGreatDoorZBase
import Derived.OrdersHeld
namespace Go.Proofs.YtmbmbcamecfnkaaGreatDoor
open Go.RowKit
def unl:List Bool→Nat
 | []=>0
 | b::l=>(if b then 0 else 1)+unl l
theorem Qkt:∀ (l:List Bool) (i:Nat),l[i]?=some false→unl (l.set i true)+1=unl l
 | [],i,h=>by simp at h
 | b::l,0,h=>by simp at h; subst h; simp [unl]; omega
 | b::l,i+1,h=>by
  simp only [List.getElem?_cons_succ] at h
  have:=Qkt l i h
  simp only [List.set_cons_succ,unl]
  omega
theorem Qh8:∀ (l:List Bool),unl l=0→∀ i,l.getD i true=true
 | [],_,i=>by simp
 | b::l,h,0=>by cases b <;> simp [unl] at *
 | b::l,h,i+1=>by
  have:unl l=0:=by simp only [unl] at h; omega
  simpa using Qh8 l this i
theorem QcQ:∀ n,unl (List.replicate n false)=n
 | 0=>rfl
 | n+1=>by rw [List.replicate_succ,unl,QcQ n]; simp; omega
section
variable {P : Program} {ops : Array Oper} {Q : Exit → Act → World → Prop} {md : Region.Mode}
theorem QoA (I:Array Bool→Act→World→Prop)
  (step:∀ listed a w,I listed a w→∀ i,i<ops.size→listed.getD i true=false→(∀ o,ops[i]?=some o→∀ e∈o.after,Region.binds md e=true→listed.getD e.on false=true) →
   wpOp P ops Q i (fun a' w'=>I (listed.setIfInBounds i true) a' w') a w)
  (fin:∀ listed a w,I listed a w→Region.ready md ops listed=[]→Q .normal a w) :
  ∀ (fuel:Nat) (listed:Array Bool) (a:Act) (w:World),unl listed.toList≤fuel→I listed a w→wpAny P md ops Q fuel listed a w:=by
 intro fuel
 induction fuel with
 | zero =>
  intro listed a w hf hI
  have hr:Region.ready md ops listed=[]:=by
   rw [List.eq_nil_iff_forall_not_mem]
   intro i hi
   have h1:=(mem_ready.1 hi).1
   have h2:=Qh8 listed.toList (by omega) i
   rw [Array.getD_eq_getD_getElem?] at h1
   rw [List.getD_eq_getElem?_getD,Array.getElem?_toList] at h2
   rw [h1] at h2; cases h2
  exact ⟨hr,fin _ _ _ hI hr⟩
 | succ fuel ih =>
  intro listed a w hf hI
  refine ⟨fin _ _ _ hI,fun i hi=>?_⟩
  obtain ⟨h1,o,h2,h3⟩:=mem_ready.1 hi
  have hio:i<ops.size:=(Array.getElem?_eq_some_iff.1 h2).1
  refine wpOp_mono (fun a' w' h=>ih _ a' w' ?_ h) (step listed a w hI i hio h1 (fun o' ho'=>by rw [h2] at ho'; injection ho' with ho'; subst ho'; exact h3))
  have h4:listed.toList[i]?=some false:=by
   rw [Array.getElem?_toList]
   rw [Array.getD_eq_getD_getElem?] at h1
   cases h5:listed[i]? with
   | none=>rw [h5] at h1; cases h1
   | some b=>rw [h5] at h1; simp at h1; rw [h1]
  have:=Qkt _ _ h4
  rw [Array.toList_setIfInBounds]
  omega
theorem Qet {id:Nat} {a:Act} {w:World} (hm:P.follows .mixedOrders=true) (I:Array Bool→Act→World→Prop)
  (h0:I (Array.replicate ops.size false) a { w with drawn:=w.drawn+1 })
  (step:∀ listed a w,I listed a w→∀ i,i<ops.size→listed.getD i true=false→(∀ o,ops[i]?=some o→∀ e∈o.after,Region.binds .any e=true→listed.getD e.on false=true) →
   wpOp P ops Q i (fun a' w'=>I (listed.setIfInBounds i true) a' w') a w)
  (fin:∀ listed a w,I listed a w→Region.ready .any ops listed=[]→Q .normal a w):(Code.region id ops true).wp P Q a w :=
 wp_region_any hm (QoA I step fin _ _ _ _ (by rw [Array.toList_replicate,QcQ]; exact Nat.le_refl _) h0)
theorem Qoz (I:Array Bool→Act→World→Prop) (hacy:∀ (i:Nat) (o:Oper),ops[i]?=some o→∀ e∈o.after,Region.binds .any e=true→e.on<i)
  (step:∀ listed a w,I listed a w→∀ i,i<ops.size→listed.getD i true=false→(∀ o,ops[i]?=some o→∀ e∈o.after,Region.binds .any e=true→listed.getD e.on false=true)→(∀ j,j<i→listed.getD j false=true) →
   wpOp P ops Q i (fun a' w'=>I (listed.setIfInBounds i true) a' w') a w)
  (fin:∀ listed a w,I listed a w→Region.ready .any ops listed=[]→Q .normal a w) :
  ∀ (n i:Nat) (listed:Array Bool) (a:Act) (w:World),i+n=ops.size→listed.size=ops.size→(∀ j,j<i→listed.getD j false=true)→(∀ j,i≤j→j<ops.size→listed.getD j true=false)→I listed a w →
   wpOps P ops Q (List.range' i n) a w:=by
 intro n
 induction n with
 | zero =>
  intro i listed a w hn hs h1 h2 hI
  refine fin listed a w hI ?_
  rw [List.eq_nil_iff_forall_not_mem]
  intro j hj
  obtain ⟨h3,o,h4,_⟩:=mem_ready.1 hj
  have hjo:j<ops.size:=(Array.getElem?_eq_some_iff.1 h4).1
  have h5:=h1 j (by omega)
  rw [Array.getD_eq_getD_getElem?,Array.getElem?_eq_getElem (by omega)] at h3 h5
  simp at h3 h5
  rw [h5] at h3; cases h3
 | succ n ih =>
  intro i listed a w hn hs h1 h2 hI
  rw [List.range'_succ,wpOps_cons]
  refine wpOp_mono (fun a' w' h=>ih (i+1) (listed.setIfInBounds i true) a' w' (by omega) (by simpa using hs) ?_ ?_ h) (step listed a w hI i (by omega) (h2 i (Nat.le_refl _) (by omega)) ?_ h1)
  · intro j hj
    rw [Array.getD_eq_getD_getElem?,Array.getElem?_setIfInBounds]
    by_cases hij:i=j
    · rw [if_pos hij,if_pos (by omega)]; rfl
    · rw [if_neg hij,← Array.getD_eq_getD_getElem?]; exact h1 j (by omega)
  · intro j hj hjs
    rw [Array.getD_eq_getD_getElem?,Array.getElem?_setIfInBounds,if_neg (by omega),← Array.getD_eq_getD_getElem?]
    exact h2 j (by omega) hjs
  · intro o ho e he hb
    exact h1 _ (hacy i o ho e he hb)
def QhL (ops:Array Oper) (i:Nat):Bool:=match ops[i]? with
 | none=>false
 | some oi=>(List.range ops.size).all fun j=>j==i || match ops[j]? with
   | some oj=>oi.after.any (fun e=>Region.binds .any e && e.on==j) || oj.after.any (fun e=>Region.binds .any e && e.on==i) || oi.apart ops oj
   | none=>true
theorem Qp1 {i j:Nat} {oi oj:Oper} {listed:Array Bool} (h:QhL ops i=true) (hi:ops[i]?=some oi) (hj:ops[j]?=some oj) (hr:i∈Region.ready .any ops listed) (hji:j≠i) (hun:listed.getD j true=false)
  (hno:∀ e∈oj.after,Region.binds .any e=true→e.on≠i):oi.apart ops oj=true:=by
 unfold QhL at h
 simp only [hi,List.all_eq_true,List.mem_range] at h
 have h1:=h j (Array.getElem?_eq_some_iff.1 hj).1
 simp only [hj,Bool.or_eq_true,beq_iff_eq,hji,false_or] at h1
 rcases h1 with (h1 | h1) | h1
 · exfalso
   obtain ⟨e,he,hb⟩:=Array.any_eq_true'.1 h1
   simp only [Bool.and_eq_true,beq_iff_eq] at hb
   obtain ⟨-,o,ho,hall⟩:=mem_ready.1 hr
   rw [hi] at ho; injection ho with ho; subst ho
   have h2:=hall e he hb.1
   rw [hb.2] at h2
   rw [Array.getD_eq_getD_getElem?] at h2 hun
   cases h5:listed[j]? with
   | none=>rw [h5] at h2; cases h2
   | some b=>rw [h5] at h2 hun; simp at h2 hun; rw [h2] at hun; cases hun
 · exfalso
   obtain ⟨e,he,hb⟩:=Array.any_eq_true'.1 h1
   simp only [Bool.and_eq_true,beq_iff_eq] at hb
   exact hno e he hb.1 hb.2
 · exact h1
theorem Qhg (I:Array Bool→Act→World→Prop) (Lt:List Nat) (hs:Region.noSelect ops=true) (hlate:∀ i∈Lt,QhL ops i=true)
  (hQ:∀ c d v a w,Q (.panic c) (a.put d v) w→Q (.panic c) a w)
  (step:∀ listed a w,I listed a w→(∀ i∈Lt,i ∉ Region.ready .any ops listed)→∀ i,i<ops.size→i∈Region.ready .any ops listed →
   wpOp P ops Q i (fun a' w'=>I (listed.setIfInBounds i true) a' w') a w)
  (slate:∀ listed a w,I listed a w→∀ i∈Lt,i∈Region.ready .any ops listed→∃ o v,ops[i]?=some o∧Yields P ops o v a∧I (listed.setIfInBounds i true) (a.put o.dst v) w)
  (fin:∀ listed a w,I listed a w→Region.ready .any ops listed=[]→Q .normal a w) :
  ∀ (fuel:Nat) (listed:Array Bool) (a:Act) (w:World),unl listed.toList≤fuel→I listed a w→wpAny P .any ops Q fuel listed a w:=by
 intro fuel
 induction fuel with
 | zero =>
  intro listed a w hf hI
  have hr:Region.ready .any ops listed=[]:=by
   rw [List.eq_nil_iff_forall_not_mem]
   intro i hi
   have h1:=(mem_ready.1 hi).1
   have h2:=Qh8 listed.toList (by omega) i
   rw [Array.getD_eq_getD_getElem?] at h1
   rw [List.getD_eq_getElem?_getD,Array.getElem?_toList] at h2
   rw [h1] at h2; cases h2
  exact ⟨hr,fin _ _ _ hI hr⟩
 | succ fuel ih =>
  intro listed a w hf hI
  have hdec:∀ i,i∈Region.ready .any ops listed→unl (listed.setIfInBounds i true).toList≤fuel:=by
   intro i hi
   have h1:=(mem_ready.1 hi).1
   have h4:listed.toList[i]?=some false:=by
    rw [Array.getElem?_toList]
    rw [Array.getD_eq_getD_getElem?] at h1
    cases h5:listed[i]? with
    | none=>rw [h5] at h1; cases h1
    | some b=>rw [h5] at h1; simp at h1; rw [h1]
   have:=Qkt _ _ h4
   rw [Array.toList_setIfInBounds]
   omega
  by_cases hl:∃ i,i∈Lt∧i∈Region.ready .any ops listed
  · obtain ⟨i,hil,hir⟩:=hl
    obtain ⟨o,v,ho,hy,hI'⟩:=slate listed a w hI i hil hir
    exact wpAny_first ho (Region.noSelect_spec hs) (fun c a w h=>hQ c _ _ a w h) fuel listed a w (fun j oj hj hji hun hno=>Qp1 (hlate i hil) ho hj hir hji hun hno) hir hy (ih _ _ _ (hdec i hir) hI')
  · refine ⟨fin _ _ _ hI,fun i hi=>?_⟩
    obtain ⟨h1,o,h2,h3⟩:=mem_ready.1 hi
    have hio:i<ops.size:=(Array.getElem?_eq_some_iff.1 h2).1
    exact wpOp_mono (fun a' w' h=>ih _ a' w' (hdec i hi) h) (step listed a w hI (fun i h1 h2=>hl ⟨i,h1,h2⟩) i hio hi)
theorem Qcv {id:Nat} {draw:Bool} {a:Act} {w:World} (hm:P.follows .mixedOrders=true) (hacy:∀ (i:Nat) (o:Oper),ops[i]?=some o→∀ e∈o.after,Region.binds .any e=true→e.on<i) (I:Array Bool→Act→World→Prop)
  (Lt:List Nat) (hLt:draw=false→Lt=[]) (hs:Region.noSelect ops=true) (hlate:∀ i∈Lt,QhL ops i=true) (hQ:Lt≠[]→∀ c d v a w,Q (.panic c) (a.put d v) w→Q (.panic c) a w)
  (h0:∀ w',(w'=w∨w'={ w with drawn:=w.drawn+1 })→I (Array.replicate ops.size false) a w')
  (step:∀ listed a w,I listed a w→(∀ i∈Lt,i ∉ Region.ready .any ops listed)→∀ i,i<ops.size→i∈Region.ready .any ops listed→(draw=false→∀ j,j<i→listed.getD j false=true) →
   wpOp P ops Q i (fun a' w'=>I (listed.setIfInBounds i true) a' w') a w)
  (slate:∀ listed a w,I listed a w→∀ i∈Lt,i∈Region.ready .any ops listed→∃ o v,ops[i]?=some o∧Yields P ops o v a∧I (listed.setIfInBounds i true) (a.put o.dst v) w)
  (fin:∀ listed a w,I listed a w→Region.ready .any ops listed=[]→Q .normal a w):(Code.region id ops draw).wp P Q a w:=by
 cases draw with
 | true =>
  by_cases hl:Lt=[]
  · subst hl
    refine Qet hm I (h0 _ (.inr rfl)) (fun listed a w hI i hi h1 h2=>?_) fin
    exact step listed a w hI (fun i h=>by cases h) i hi (mem_ready.2 ⟨h1,ops[i],Array.getElem?_eq_getElem hi,h2 _ (Array.getElem?_eq_getElem hi)⟩) (fun h=>by cases h)
  · exact wp_region_any hm (Qhg I Lt hs hlate (hQ hl) (fun listed a w hI hn i hi hr=>step listed a w hI hn i hi hr (fun h=>by cases h)) slate fin _ _ _ _ (by rw [Array.toList_replicate,QcQ]; exact Nat.le_refl _) (h0 _ (.inr rfl)))
 | false =>
  have hl:=hLt rfl
  subst hl
  refine wp_region (by
   have:=Qoz (P:=P) (ops:=ops) (Q:=Q) I hacy (fun listed a w hI i hi hl ho hp=>step listed a w hI (fun _ h=>by cases h) i hi (mem_ready.2 ⟨hl,ops[i],Array.getElem?_eq_getElem hi,ho _ (Array.getElem?_eq_getElem hi)⟩) (fun _=>hp)) fin ops.size 0 (Array.replicate ops.size false) a w (by omega) (by simp) (fun j hj=>by omega) (fun j _ hj=>by
    rw [Array.getD_eq_getD_getElem?,Array.getElem?_replicate,if_pos hj]; rfl) (h0 _ (.inl rfl))
   rw [List.range_eq_range']; exact this)
theorem Qh5 {i:Nat} {o:Oper} {K:Act→World→Prop} {a:Act} {w:World} (hi:ops[i]?=some o)
  (h:∀ K':Act→World→Prop,(∀ a w,K a w→K' a w)→if Region.wanted o (yielded ops a.tmps)=true then o.wp P a w K' Q else K' (a.put o.dst undef) w):wpOp P ops Q i K a w:=by
 have:=h K fun _ _ h=>h
 unfold wpOp
 simp only [hi]
 split
 · rename_i hw; rw [if_pos hw] at this; exact .inl this
 · rename_i hw; rw [if_neg hw] at this; exact this
theorem QaO (a:Act) (d e:Nat) (v:Value):(a.put (some d) v).tmps.getD e undef=if e=d∧d<a.tmps.size then v else a.tmps.getD e undef:=by
 simp only [Act.put,Array.getD_eq_getD_getElem?,Array.getElem?_setIfInBounds]
 by_cases h:d=e
 · subst h
   by_cases hs:d<a.tmps.size
   · simp [hs]
   · simp [hs]
 · rw [if_neg h,if_neg (fun hc=>h hc.1.symm)]
def Steps (S:Nat→Oper→Prop):Nat→List Oper→Prop
 | _,[]=>True
 | i,o::l=>S i o∧Steps S (i+1) l
theorem Steps.at {S:Nat→Oper→Prop}:∀ {n:Nat} {l:List Oper},Steps S n l→∀ i o,l[i]?=some o→S (n+i) o
 | _,[],_,i,o,h=>by simp at h
 | n,x::l,hs,0,o,h=>by simp at h; subst h; exact hs.1
 | n,x::l,hs,i+1,o,h=>by
  have:=Steps.at hs.2 i o (by simpa using h)
  rw [show n+(i+1)=n+1+i by omega]; exact this
def QdL (dsts:List Nat) (t:Nat→Value):Option (Nat × Bool)→Bool
 | none=>true
 | some (j,want)=>match dsts[j]? with
  | none=>false
  | some d=>match t d with
   | .bool b=>b==want
   | _=>false
def Qk2 (os:List Oper) (M:List Nat) (n:Nat):Bool :=
 (os.zipIdx.all fun p=>(List.range p.2).all fun j=>!(M.getD p.2 0).testBit j || p.1.after.any (fun e=>Region.binds .any e && (e.on==j || (decide (j<e.on) && (M.getD e.on 0).testBit j)))) &&
  os.zipIdx.all fun p=>decide (p.2<n) || (List.range p.2).all fun j=>(M.getD p.2 0).testBit j
def acyc (os:List Oper):Bool:=os.zipIdx.all fun p=>p.1.after.all fun e=>!Region.binds .any e || decide (e.on<p.2)
theorem Qc8 {os:List Oper} (h:acyc os=true) {i:Nat} {o:Oper} (hi:os[i]?=some o) {e:Edge} (he:e∈o.after) (hb:Region.binds .any e=true):e.on<i:=by
 unfold acyc at h
 rw [List.all_eq_true] at h
 have:=h (o,i) (by rw [List.mem_zipIdx_iff_getElem?]; exact hi)
 rw [Array.all_eq_true_iff_forall_mem] at this
 have h2:=this e he
 rw [hb] at h2
 simpa using h2
theorem Qrs {os:List Oper} {M:List Nat} {n:Nat} (hacy:acyc os=true) (h:Qk2 os M n=true) (L:Array Bool)
  (hdown:∀ (i:Nat) (o:Oper),os[i]?=some o→L.getD i false=true→∀ e∈o.after,Region.binds .any e=true→L.getD e.on false=true) :
  ∀ (k i:Nat),i≤k→∀ o,os[i]?=some o→(∀ e∈o.after,Region.binds .any e=true→L.getD e.on false=true)→∀ j,j<i→(M.getD i 0).testBit j=true→L.getD j false=true:=by
 unfold Qk2 at h
 rw [Bool.and_eq_true,List.all_eq_true] at h
 intro k
 induction k with
 | zero=>intro i hi o ho hd j hj; omega
 | succ k ih =>
  intro i hi o ho hd j hj hb
  have h1:=h.1 (o,i) (by rw [List.mem_zipIdx_iff_getElem?]; exact ho)
  rw [List.all_eq_true] at h1
  have h2:=h1 j (List.mem_range.2 hj)
  dsimp only at h2
  rw [hb,Bool.not_true,Bool.false_or,Array.any_eq_true] at h2
  obtain ⟨q,hq,h2⟩:=h2
  rw [Bool.and_eq_true] at h2
  have h3:=hd _ (Array.getElem_mem hq) h2.1
  have h5:=h2.2
  rw [Bool.or_eq_true,beq_iff_eq] at h5
  rcases h5 with h4 | h4
  · rw [h4] at h3; exact h3
  · rw [Bool.and_eq_true,decide_eq_true_eq] at h4
    have h6:=Qc8 hacy ho (Array.getElem_mem hq) h2.1
    have hol:(o.after[q]).on<os.length:=Nat.lt_trans h6 (List.getElem?_eq_some_iff.1 ho).1
    exact ih _ (by omega) _ (List.getElem?_eq_getElem hol) (fun e he hbn=>hdown _ _ (List.getElem?_eq_getElem hol) h3 e he hbn) j h4.1 h4.2
theorem Qaj {L:Array Bool} {i j:Nat} (h:j≠i):(L.setIfInBounds i true).getD j false=L.getD j false:=by
 rw [Array.getD_eq_getD_getElem?,Array.getElem?_setIfInBounds,if_neg (fun hc=>h hc.symm),← Array.getD_eq_getD_getElem?]
theorem QaF {L:Array Bool} {i:Nat} (h:i<L.size):(L.setIfInBounds i true).getD i false=true:=by
 rw [Array.getD_eq_getD_getElem?,Array.getElem?_setIfInBounds,if_pos rfl,if_pos h]; rfl
theorem Qqc {L:Array Bool} {i:Nat} (h:L.getD i true=false):L.getD i false=false:=by
 rw [Array.getD_eq_getD_getElem?] at h ⊢
 cases h5:L[i]? with
 | none=>rfl
 | some b=>rw [h5] at h; exact h
theorem Qt6 {L:Array Bool} {i:Nat} (hi:i<L.size) (h:L.getD i false=false):L.getD i true=false:=by
 rw [Array.getD_eq_getD_getElem?,Array.getElem?_eq_getElem hi] at h ⊢; exact h
def rs (l:List Nat) (t:Nat→Value):Nat→Value:=fun d=>if l.contains d then t d else undef
def QiD (os:List Oper) (M Lt:List Nat) (n:Nat):Bool :=
 (os.zipIdx.all fun p=>(List.range p.2).all fun j=>!(M.getD p.2 0).testBit j || p.1.after.any (fun e=>Region.binds .any e && (e.on==j || (decide (j<e.on) && (M.getD e.on 0).testBit j)))) &&
  os.zipIdx.all fun p=>decide (p.2<n) || (List.range p.2).all fun j=>Lt.contains j || (M.getD p.2 0).testBit j
def Qf5 (os:List Oper) (dsts:List Nat) (n m:Nat) (M Lt:List Nat) (draw:Bool):Bool :=
 ((os.take n).map (·.dst)==dsts.map some) && decide dsts.Nodup && dsts.all (fun d=>decide (d<m)) && acyc os && (!draw || QiD os M Lt n) && decide (n≤os.length) && (os.take n).all (fun o=>match o.guard with | some (j,_)=>decide (j<n) | none=>true) &&
  Region.noSelect os.toArray && Lt.all fun i=>decide (i<n) && QhL os.toArray i
theorem QpQ {os:List Oper} {M Lt:List Nat} {n:Nat} (hacy:acyc os=true) (h:QiD os M Lt n=true) (L:Array Bool) (hsz:L.size=os.length)
  (hdown:∀ (i:Nat) (o:Oper),os[i]?=some o→L.getD i false=true→∀ e∈o.after,Region.binds .any e=true→L.getD e.on false=true)
  (hnl:∀ i∈Lt,i ∉ Region.ready .any os.toArray L) {i:Nat} {o:Oper} (hn:n≤i) (ho:os[i]?=some o) (hd:∀ e∈o.after,Region.binds .any e=true→L.getD e.on false=true) (j:Nat) (hj:j<i):L.getD j false=true:=by
 have hil:i<os.length:=(List.getElem?_eq_some_iff.1 ho).1
 have hnon:∀ j,j<i→¬ j∈Lt→L.getD j false=true:=by
  intro j hj hlt
  have h':=h
  unfold QiD at h'
  rw [Bool.and_eq_true] at h'
  refine Qrs (M:=M) (n:=os.length) hacy ?_ L hdown i i (Nat.le_refl _) o ho hd j hj ?_
  · unfold Qk2
    rw [Bool.and_eq_true]
    refine ⟨h'.1,?_⟩
    rw [List.all_eq_true]
    rintro ⟨o',k⟩ hz
    rw [List.mem_zipIdx_iff_getElem?] at hz
    have:=(List.getElem?_eq_some_iff.1 hz).1
    simp [this]
  · have h1:=h'.2
    rw [List.all_eq_true] at h1
    have h2:=h1 (o,i) (by rw [List.mem_zipIdx_iff_getElem?]; exact ho)
    rw [Bool.or_eq_true,decide_eq_true_eq,List.all_eq_true] at h2
    rcases h2 with h2 | h2
    · dsimp only at h2; omega
    · have h3:=h2 j (List.mem_range.2 hj)
      rw [Bool.or_eq_true] at h3
      rcases h3 with h3 | h3
      · exact absurd (by simpa using h3) hlt
      · exact h3
 have hall:∀ k j,j<k→j<i→L.getD j false=true:=by
  intro k
  induction k with
  | zero=>intro j h; omega
  | succ k ih =>
   intro j hjk hji
   by_cases hlt:j∈Lt
   · refine Decidable.byContradiction fun hc=>?_
     have hjo:os[j]?=some (os[j]'(by omega)):=List.getElem?_eq_getElem (by omega)
     refine hnl j hlt (mem_ready.2 ⟨?_,os[j]'(by omega),by rw [List.getElem?_toArray]; exact hjo,fun e he hb=>?_⟩)
     · have hc':L.getD j false=false:=by simpa using hc
       rw [Array.getD_eq_getD_getElem?,Array.getElem?_eq_getElem (by omega)] at hc' ⊢; exact hc'
     · have:=Qc8 hacy hjo he hb
       exact ih e.on (by omega) (by omega)
   · exact hnon j hji hlt
 exact hall (j+1) j (by omega) hj
end
end Go.Proofs.YtmbmbcamecfnkaaGreatDoor
namespace Go.Proofs.YtmbmbcamecfnkaaGreatDoor
open Go.RowKit
section
variable {P : Program} {a : Act} {w : World} {K : Act → World → Prop} {Q : Exit → Act → World → Prop} {o : Oper}
theorem QbM {x:Value} {w':World} (h:(execOp a.eval o).run P w=.ok (.value x) w') (hK:K (a.put o.dst x) w'):o.wp P a w K Q:=by
 unfold Oper.wp; rw [h]; exact hK
def QgL (P:Program) (f:FuncId):Bool:=match P.funcs[f]? with
 | some fn => !(fn.name == "runtime.NumGoroutine") && fn.body.isSome
 | none=>false
theorem QjN {ops:Array Oper} {d:Nat} {n i:Nat} {ty:TypeId} {pos:String} {af:Array Edge} {vs:Array Value} {x:Value} (h:a.tmps.getD n undef=.tuple vs) (hx:vs[i]?=some x) :
  Yields P ops (Oper.mk (some d) (.extract (.tmp n) i) ty pos af none) x a:=by
 refine .inl ⟨rfl,fun w=>?_⟩
 have h':a.eval (.tmp n)=.tuple vs:=h
 show (do pure (.value (← Instr.extract (a.eval (.tmp n)) i)):Sem Next).run P w=_
 rw [h']
 simp [Instr.extract,hx]
end
end Go.Proofs.YtmbmbcamecfnkaaGreatDoor
